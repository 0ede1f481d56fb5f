import Derived.Test.YthgembbgcbaghaaGreatDoorDg20
import Derived.Test.YthgembbgcbaghaaGreatDoorDg17
set_option maxHeartbeats 1000000
set_option maxRecDepth 100000

namespace Go.Proofs.YthgembbgcbaghaaGreatDoor
open Go.RowKit Go.WideMaps Go.Maps
theorem nx (l:List JV) (j:Nat) (h:j<l.length) (a:JV.partsB l=true):l[j].partB=true:=by
 cases hb:l[j].partB
 . rw [JV.partsB_bad l j h hb] at a;cases a
 . rfl
theorem aU {t:ByteArray} (h:t.toList=[]):t=⟨#[]⟩:=by rw [Y3] at h;exact uE (by simpa using h)
theorem fC {x:JV} (h:x.partB=true) (g:x.kind=5):(x.n=0/\x.t=⟨#[]⟩)/\x.names.length=x.items.length/\qo x.names=true/\∀y ∈ x.items,y.partB=true:=by rw [JV.partB_eq,X3] at h;obtain ⟨e,f⟩:=h;rw [g] at e;unfold qJ at e;rw [J3 (by decide),J3 (by decide),J3 (by decide),J3 (by decide),J8 rfl,X3,X3,J6] at e;obtain ⟨⟨⟨a,b,c⟩,d⟩,-⟩:=e;refine ⟨⟨a,aU b⟩,c,d,fun y hy=>?_⟩;obtain ⟨i,hi,rfl⟩:=V4 hy;exact nx _ i hi f
theorem vd:∀ {a:List ByteArray} {b:List JV} {y:ByteArray} {x:JV},qE a b y=some x->y ∈ a/\x ∈ b
 | n :: a,z :: b,y,x,h=>by
  rw [qE] at h;split at h
  . rename_i e;injection h with h
    subst h;subst e;exact ⟨M3 ..,M3 ..⟩
  . have:=vd h;exact ⟨G4 _ this.1,G4 _ this.2⟩
def sX (v:JV):Prop:=v.kind=5/\(v.n=0/\v.t=⟨#[]⟩)/\qo v.names=true/\v.names.length=v.items.length/\∀x ∈ v.items,x.partB=true\/x=zJ
theorem oo {v:JV} (h:v.mayB=true) (e:v.kind=5):sX v:=by rw [JV.mayB_iff] at h;simp only [X3] at h;obtain ⟨a,b,c,d⟩:=fC h.1.1 e;exact ⟨e,a,c,b,fun x hx=>.inl (d x hx)⟩
theorem ZO {v:JV} (h:sX v) {y:ByteArray} {it:JV} (e:v.look y=some it) (a:it.kind≠0):it.partB=true:=by
 rcases h.2.2.2.2 it (vd e).2 with h|h
 . exact h
 . exact absurd (by rw [h];rfl) a
def qH (n:Nat):UInt8:=if n<10 then UInt8.ofNat (48+n) else UInt8.ofNat (87+n)
def xJ:List UInt8->List UInt8
 | []=>[]
 | c :: r=>qH (c.toNat / 16) :: qH (c.toNat % 16) :: xJ r
theorem uX (l m:List UInt8):xJ (l ++ m)=xJ l ++ xJ m:=by
 induction l with
 | nil=>rfl
 | cons c r ih=>simp [xJ,ih]
theorem uJ (l:List UInt8):(xJ l).length=2 * l.length:=by
 induction l with
 | nil=>rfl
 | cons c r ih=>simp [xJ,ih];omega
def kg (l:List UInt8):List UInt8:=xJ (zk l)
theorem k9 (l:List UInt8):(kg l).length=64:=by unfold kg;rw [uJ,xe]
theorem fD (n:Nat) (h:n<16):xh (qH n)=true:=by
 have:∀m:Fin 16,xh (qH m.val)=true:=by decide
 exact this ⟨n,h⟩
theorem fL:∀l:List UInt8,jb (xJ l)=true
 | []=>rfl
 | c :: r=>by have h:=fL r;have hc:c.toNat<256:=c.toNat_lt;unfold jb at h ⊢;simp only [xJ,List.all_cons,X3];exact ⟨fD _ (by omega),fD _ (by omega),h⟩
theorem nw (l:List UInt8):jb (kg l)=true:=fL _
def xE:ByteArray:=⟨#[112,117,98,108,105,99]⟩
def schN:ByteArray:=⟨#[115,99,104,101,109,101]⟩
def jt (s t:ByteArray):JV:=.mk 5 0 ⟨#[]⟩ [xE,schN] [txtJ t,txtJ s]
theorem my {s t:List UInt8} (h:zd s t=true):zg s=true/\yN t=true:=by unfold zd at h;simpa using h
theorem pG {s t:ByteArray} (h:zd s.data.toList t.data.toList=true):qe s=true/\qe t=true/\s.size<=64/\t.size<=128:=by obtain ⟨c,d⟩:=my h;have a:=yW c;have b:=uO d;rw [qp] at a b;exact ⟨zH a.1 (by omega),zH b.1 (by omega),a.2.2,b.2.2⟩
theorem dM:qe xE=true/\qe schN=true/\qo [xE,schN]=true:=by
 refine ⟨zH ?_ (by decide),zH ?_ (by decide),?_⟩
 . intro c hc;unfold jV;revert c;decide
 . intro c hc;unfold jV;revert c;decide
 . unfold qo qo;rw [Y3,Y3];decide
theorem dC (t:ByteArray) (h:qe t=true) (d:Nat) (l:Int) (a:1<=l):(txtJ t).may d l=(true,l - 1):=by
 unfold txtJ;rw [JV.may,J3 (by omega)];have:qJ 3 0 t [] 0=true:=by unfold qJ;simp [h]
 rw [show ([]:List JV).length=0 from rfl,this];simp
theorem fR {s t:ByteArray} (h:zd s.data.toList t.data.toList=true):(jt s t).mayB=true:=by obtain ⟨a,b,_,_⟩:=pG h;obtain ⟨e,f,g⟩:=dM;unfold JV.mayB jt;have d:qJ 5 0 ⟨#[]⟩ [xE,schN] 2=true:=(by unfold qJ;rw [Y3];simp [e,f,g]);have c:JV.mays [txtJ t,txtJ s] (12 - 1) (8192 - 1)=(true,8192 - 1 - 1 - 1):=(by rw [JV.mays,dC t b _ _ (by omega),J8 rfl,JV.mays,dC s a _ _ (by omega),J8 rfl,JV.mays]);rw [JV.may,J3 (by omega),show ([txtJ t,txtJ s]:List JV).length=2 from rfl,d,J3 (by decide),J3 (by decide),J3 (by decide),c]
theorem Qr {s t:ByteArray} (d:s.size<=4294967) (e:t.size<=4294967):(jt s t).wt<=4294967296:=by unfold jt txtJ;have a:xE.size=6:=rfl;have b:schN.size=6:=rfl;have c:(⟨#[]⟩:ByteArray).size=0:=rfl;simp only [JV.wt,JV.wts,qt];omega
def sJ:List UInt8:=[123,34,112,117,98,108,105,99,34,58,34]
def sK:List UInt8:=[34,44,34,115,99,104,101,109,101,34,58,34]
def jE (s t:List UInt8):List UInt8:=sJ ++ (t ++ (sK ++ (s ++ [34,125])))
theorem dD (s t:List UInt8):(jE s t).length=s.length+t.length+25:=by simp [jE,sJ,sK];omega
def jB (s t:List UInt8):List UInt8:=if zd s t then kg (jE s t) else []
def ze (v:JV):(ByteArray × ByteArray) × Int :=
 if v.mayB=false then ((⟨#[]⟩,⟨#[]⟩),3) else if v.kind≠5 then ((⟨#[]⟩,⟨#[]⟩),10) else
  if qd v (qm v schN (qm v xE ⟨[],0⟩).2).2≠0 then ((⟨#[]⟩,⟨#[]⟩),qd v (qm v schN (qm v xE ⟨[],0⟩).2).2) else
  if zd (qm v schN (qm v xE ⟨[],0⟩).2).1.data.toList (qm v xE ⟨[],0⟩).1.data.toList then (((qm v schN (qm v xE ⟨[],0⟩).2).1,(qm v xE ⟨[],0⟩).1),0) else ((⟨#[]⟩,⟨#[]⟩),3)
theorem Zu:xE≠schN:=by decide
theorem oe (s t:ByteArray):(jt s t).look xE=some (txtJ t):=by unfold JV.look jt JV.names JV.items;simp [qE]
theorem oQ (s t:ByteArray):(jt s t).look schN=some (txtJ s):=by unfold JV.look jt JV.names JV.items;simp [qE,Zu]
theorem ny {s t:ByteArray} (h:zd s.data.toList t.data.toList=true):ze (jt s t)=((s,t),0):=by
 have a:qm (jt s t) xE ⟨[],0⟩=(t,⟨[xE],0⟩):=by unfold qm;rw [J3 (by simp),oe];rfl
 have b:qm (jt s t) schN ⟨[xE],0⟩=(s,⟨[schN,xE],0⟩):=by unfold qm;rw [J3 (by simp),oQ];rfl
 have c:qd (jt s t) ⟨[schN,xE],0⟩=0:=(by unfold qd;rw [J3 (by simp)];have:(jt s t).names=[xE,schN]:=rfl;rw [this];simp);unfold ze;rw [J3 (by rw [fR h];simp),J3 (by show ¬(5:Int)≠5;simp),a];simp only;rw [b];simp only;rw [c,J3 (by simp),J8 h]
def aM (s t:ByteArray):ByteArray:=⟨(jB s.data.toList t.data.toList).toArray⟩
def ok2 (k:Key2):Bool:=zd k.1.data.toList k.2.data.toList
def id2 (k:Key2):ByteArray:=aM k.1 k.2
def ids (l:List Key2):List ByteArray:=l.map id2
def obj2 (k:Key2):JV:=jt k.1 k.2
def zt (m:List Key2):JV:=.mk 5 0 ⟨#[]⟩ (m.map id2) (m.map obj2)
theorem dL {l:List ByteArray} (h:qo l=true):l.Nodup:=by rw [List.Nodup,M8];intro i j hi hj hij e;have:=jJ h i j hi hj hij;rw [e,zK] at this;cases this
theorem dR {k:Key2}:(id2 k).size<=64:=by
 show (jB _ _).toArray.size<=64;unfold jB;split
 . rw [za3,k9];exact J9 _
 . simp
theorem Qn {k:Key2} (h:k.1.size<=300/\k.2.size<=300):(obj2 k).wt<=1000:=by unfold obj2 jt txtJ;have a:xE.size=6:=rfl;have b:schN.size=6:=rfl;have c:(⟨#[]⟩:ByteArray).size=0:=rfl;simp only [JV.wt,JV.wts,qt];omega
theorem cG {m:List Key2} (d:∀k ∈ m,k.1.size<=300/\k.2.size<=300):(zt m).wt<=1+1100 * m.length:=by
 have a:∀m:List Key2,qt (m.map id2)<=65 * m.length:=fun m=>by
  induction m with
  | nil=>simp [qt]
  | cons k r ih=>have:=@dR k;simp only [N6,qt,N3];omega
 have b:∀m:List Key2,(∀k ∈ m,k.1.size<=300/\k.2.size<=300)->JV.wts (m.map obj2)<=1000 * m.length:=fun m=>by
  induction m with
  | nil=>intro _;simp [JV.wts]
  | cons k r ih=>intro d;have:=Qn (d k (by simp));have:=ih (fun k hk=>d k (G4 _ hk));simp only [N6,JV.wts,N3];omega
 have c:(⟨#[]⟩:ByteArray).size=0:=rfl;have:=a m;have:=b m d;unfold zt;simp only [JV.wt];omega
theorem aC {v:JV} (h:(ze v).2=0):zd (ze v).1.1.data.toList (ze v).1.2.data.toList=true/\(ze v).1.1.size<=64/\(ze v).1.2.size<=128:=by
 have c:zd (ze v).1.1.data.toList (ze v).1.2.data.toList=true:=by
  unfold ze at h ⊢;split at h
  . cases h
  next c1 =>
  rw [J3 c1];split at h
  . cases h
  next c2 =>
  rw [J3 c2];split at h
  . next c3=>exact absurd h c3
  next c3 =>
  rw [J3 c3];split at h
  . next c4=>rw [J8 c4];exact c4
  . cases h
 obtain ⟨_,_,a,b⟩:=pG c;exact ⟨c,a,b⟩
def ku:List ByteArray->List JV->List Key2->List Key2 × Int
 | id :: ns,it :: its,acc=>if (ze it).2≠0 then ([],(ze it).2) else if (aM (ze it).1.1 (ze it).1.2).toList == id.toList then ku ns its (acc ++ [(ze it).1]) else ([],3)
 | _,_,acc=>(acc,0)
def mg (r:Key2 × Int) (id:ByteArray) (ns:List ByteArray) (its:List JV) (acc:List Key2):List Key2 × Int :=
 if r.2≠0 then ([],r.2) else if (aM r.1.1 r.1.2).toList == id.toList then ku ns its (acc ++ [r.1]) else ([],3)
theorem aD (a:List JV) (acc:List Key2):ku [] a acc=(acc,0):=by unfold ku;rfl
theorem ng (b:List ByteArray) (a:List JV) (k:Nat) (acc:List Key2) (h:k<b.length) (c:k<a.length):ku (b.drop k) (a.drop k) acc=mg (ze a[k]) b[k] (b.drop (k+1)) (a.drop (k+1)) acc:=by rw [G3 h,G3 c,ku,mg]
def jk (v:JV):List Key2 × Int:=if v.mayB=false then ([],3) else if v.kind≠5 then ([],10) else if 32<v.names.length then ([],5) else ku v.names v.items []
theorem fN:∀ {l:List JV},JV.partsB l=true->∀x ∈ l,JV.partB x=true
 | [],_,x,hx=>by simp at hx
 | y :: r,h,x,hx=>by
  rw [JV.partsB,X3] at h;rcases H0.1 hx with rfl|hx
  . exact h.1
  . exact fN h.2 x hx
theorem dN {v:JV} (h:v.mayB=true):v.partB=true:=by rw [JV.mayB_iff] at h;simp only [X3] at h;exact h.1.1
theorem Zm {k:Key2} (h:ok2 k=true):qe (id2 k)=true:=by have e:(id2 k).data.toList=kg (jE k.1.data.toList k.2.data.toList):=(by show (jB _ _)=_;unfold jB;rw [J8 (show zd k.1.data.toList k.2.data.toList=true from h)]);refine zH ?_ (J1 dR (by decide));rw [e];have:=nw (jE k.1.data.toList k.2.data.toList);unfold jb at this;exact fun c hc=>bj (K7.1 this c hc)
theorem dS {m:List Key2} (i:∀k ∈ m,ok2 k=true) (j:qo (ids m)=true) (l:m.length<=32):(zt m).mayB=true:=by
 rw [JV.mayB_iff];have g:∀m:List Key2,(∀k ∈ m,ok2 k=true)->JV.partsB (m.map obj2)=true:=fun m=>by
  induction m with
  | nil=>intro _;rfl
  | cons k r ih => intro h;rw [N6,JV.partsB,X3];exact ⟨dN (fR (h k (by simp))),ih fun x hx=>h x (G4 _ hx)⟩
 have d:∀m:List Key2,JV.counts (m.map obj2)=3 * m.length:=fun m=>by
  induction m with
  | nil=>rfl
  | cons k r ih => have:JV.count (obj2 k)=3:=rfl;rw [N6,JV.counts,ih,this,N3];omega
 have e:∀m:List Key2,JV.depths (m.map obj2)<=1:=fun m=>by
  induction m with
  | nil=>exact X7 _
  | cons k r ih => have:JV.depth (obj2 k)=1:=rfl;rw [N6,JV.depths,this];omega
 have b:(zt m).partB=true:=(by unfold zt;rw [JV.partB,g m i];have:qJ 5 0 ⟨#[]⟩ (m.map id2) (m.map obj2).length=(decide ((0:Int)=0/\(⟨#[]⟩:ByteArray).toList=[]/\(m.map id2).length=(m.map obj2).length) && qo (m.map id2) && (m.map id2).all qe):=rfl;rw [this,show qo (m.map id2)=true from j,Y3];have a:(m.map id2).all qe=true:=(by rw [K7];intro x hx;obtain ⟨k,f,rfl⟩:=za8.1 hx;exact Zm (i k f));rw [a];simp);have a:(zt m).count<=8192:=by unfold zt;rw [JV.count,d];omega
 have c:(zt m).depth<=12:=(by unfold zt;rw [JV.depth,J3 (by simp)];have:=e m;omega);rw [b];simp [a,c]
theorem mf:∀(m:List Key2) (acc:List Key2),(∀k ∈ m,ok2 k=true)->ku (m.map id2) (m.map obj2) acc=(acc ++ m,0)
 | [],acc,_=>by simp [ku]
 | k :: r,acc,h=>by have e:=ny (s:=k.1) (t:=k.2) (h k (by simp));rw [N6,N6,ku,show obj2 k=jt k.1 k.2 from rfl,e];simp only;rw [J3 (by simp),J8 (by simp [id2]),mf r _ fun x hx=>h x (G4 _ hx)];simp
theorem mh {m:List Key2} (a:∀k ∈ m,ok2 k=true) (c:qo (ids m)=true) (b:m.length<=32):jk (zt m)=(m,0):=by unfold jk;rw [J3 (by rw [dS a c b];simp),J3 (by show ¬(5:Int)≠5;simp),J3 (by show ¬32<(m.map id2).length;simp;omega)];show ku (m.map id2) (m.map obj2) []=_;rw [mf m [] a,List.nil_append]
theorem gm {k:Key2} (h:ok2 k=true):k.1.size<=300/\k.2.size<=300:=by obtain ⟨_,_,a,b⟩:=pG h;omega
open Go.Shelf Go.Sort
theorem Zc (t s:ByteArray) (w:World) (T:Nat) (b:t.size<=4294967000) (a:s.size<=4294967000) :
 Calls Tryz.prog 150 #[.slice (some ⟨w.heap.size,0,none⟩) 2 2] (w.alloc (.cells #[.string ⟨#[112,117,98,108,105,99]⟩,.int .u8 3,.int .i64 0,.string t,.slice none 0 0,.slice none 0 0,.string ⟨#[115,99,104,101,109,101]⟩,.int .u8 3,.int .i64 0,.string s,.slice none 0 0,.slice none 0 0] T))
  (gh [xE,schN] [txtJ t,txtJ s] (w.alloc (.cells #[.string ⟨#[112,117,98,108,105,99]⟩,.int .u8 3,.int .i64 0,.string t,.slice none 0 0,.slice none 0 0,.string ⟨#[115,99,104,101,109,101]⟩,.int .u8 3,.int .i64 0,.string s,.slice none 0 0,.slice none 0 0] T))):=by
 have:=cJ #[xf xE t,xf schN s] #[xf xE t,xf schN s] [txtJ t,txtJ s] w.heap.size 0 2 (w.alloc (.cells #[.string ⟨#[112,117,98,108,105,99]⟩,.int .u8 3,.int .i64 0,.string t,.slice none 0 0,.slice none 0 0,.string ⟨#[115,99,104,101,109,101]⟩,.int .u8 3,.int .i64 0,.string s,.slice none 0 0,.slice none 0 0] T)) 0 0 ?_ (by simp) (by simp) ?_ rfl ?_ ?_ (by simp)
 . exact this
 . exact nz (T:=T) (by rw [J2,ox];rfl)
 . refine rN _ _ _ fun j hj=>?_;obtain rfl:j=0:=by simp at hj;omega
   show ltOf cfM (xf schN s) (xf xE t)=false;show decide (Lib.compareBytes schN.data.toList xE.data.toList<0)=false;decide
 . intro i hi
   match i,hi with
   | 0,_=>exact ⟨jI _ _ _ _,by simp [txtJ,JV.wt,JV.wts,qt];omega,fun k h=>by simp [txtJ,JV.items] at h⟩
   | 1,_=>exact ⟨jI _ _ _ _,by simp [txtJ,JV.wt,JV.wts,qt];omega,fun k h=>by simp [txtJ,JV.items] at h⟩
 . intro i hi;obtain rfl:i=0:=by simp at hi;omega
   show xE≠schN;decide
def fS (s t:ByteArray) (w:World) (e:Ending) (w':World):Prop :=
 ∃an cn ai ci,e=.returned (.tuple #[.agg #[.int .u8 5,.int .i64 0,.string ⟨#[]⟩,.slice an 2 cn,.slice ai 2 ci],.int .i64 0]) /\
  Rep w' w.heap.size w'.heap.size (jt s t) (.agg #[.int .u8 5,.int .i64 0,.string ⟨#[]⟩,.slice an 2 cn,.slice ai 2 ci])/\O5 w w'
theorem dA (s t:ByteArray) (w:World) (z:s.size<=4294967000) (A:t.size<=4294967000) (y:zd s.data.toList t.data.toList=false) :
 Calls Tryz.prog 152 #[.agg #[.string s,.string t]] w fun e w'=>e=.returned (.tuple #[zeroAgg,.int .i64 3])/\O5 w w':=by
 have i:=U (rU s t ((w.alloc (.cells #[.string s,.string t] 43)).alloc (.cells #[.int .u8 0,.int .i64 0,.string ⟨#[]⟩,.slice none 0 0,.slice none 0 0] 25)) (by omega) (by omega));rw [y] at i;have c:=qh (w.alloc (.cells #[.string s,.string t] 43)) (.int .u8 0) (.int .i64 0) (.string ⟨#[]⟩) (.slice none 0 0) (.slice none 0 0) 25;rw [show (w.alloc (.cells #[.string s,.string t] 43)).heap.size=w.heap.size+1 by simp] at c;have g:=U c;have d:=O0 (O5 w ((w.alloc (.cells #[.string s,.string t] 43)).alloc (.cells #[.int .u8 0,.int .i64 0,.string ⟨#[]⟩,.slice none 0 0,.slice none 0 0] 25))) ((O4).alloc (by simp) _);clear y c;go_enter Tryz.func152,Tryz.ntmps152;go_wp2_with fail;refine i.o.mono ?_;rintro e x ⟨rfl,b⟩;have a:=qj b g.o (by simp);have h:=U a;have f:=U (d.o.trans (b.mono (by simp;omega)));obtain ⟨j,k,l,m,o⟩:=rc5 a;obtain ⟨p,q,r,u,v⟩:=rf5 a;simp only [qZ] at j k l m o;clear a b;go_wp2;exact X4 (qk Tryz.results152 _ _ (w.heap.size+1) 25 _ (0,0) _ rfl (qr (set5 _ _ _ _ _ h.o)) X8 rfl (by kernel_rfl) _ rfl) rfl ⟨rfl,zj _ _ _ _ _ f.o (by omega)⟩
theorem gd (s t:ByteArray) (w:World) (hs:s.size<=4294967000) (ht:t.size<=4294967000) (hk:zd s.data.toList t.data.toList=true) :
 Calls Tryz.prog 152 #[.agg #[.string s,.string t]] w (fS s t w):=by
 have I:=U (rU s t ((w.alloc (.cells #[.string s,.string t] 43)).alloc (.cells #[.int .u8 0,.int .i64 0,.string ⟨#[]⟩,.slice none 0 0,.slice none 0 0] 25)) (by omega) (by omega));rw [hk] at I;have i:=qh (w.alloc (.cells #[.string s,.string t] 43)) (.int .u8 0) (.int .i64 0) (.string ⟨#[]⟩) (.slice none 0 0) (.slice none 0 0) 25;rw [show (w.alloc (.cells #[.string s,.string t] 43)).heap.size=w.heap.size+1 by simp] at i;have r:=U i;have q:=O0 (O5 w ((w.alloc (.cells #[.string s,.string t] 43)).alloc (.cells #[.int .u8 0,.int .i64 0,.string ⟨#[]⟩,.slice none 0 0,.slice none 0 0] 25))) ((O4).alloc (by simp) _);have x:=U (show ((w.alloc (.cells #[.string s,.string t] 43)).alloc (.cells #[.int .u8 0,.int .i64 0,.string ⟨#[]⟩,.slice none 0 0,.slice none 0 0] 25)).heap[w.heap.size]?=some (.cells #[.string s,.string t] 43 (0,0)) by rw [Y4 _ _ _ (by simp)];exact J2 w _);clear hk i;go_enter Tryz.func152,Tryz.ntmps152;go_wp2_with fail;refine I.o.mono ?_;clear I;rintro e b ⟨rfl,d⟩;have K:=U (qj d r.o (by simp));have Q:w.heap.size+2<=b.heap.size:=by have:=d.size;simp at this;omega
 have B:b.heap[w.heap.size]?=some (.cells #[.string s,.string t] 43 (0,0)):=by rw [d.block _ (by simp;omega)];exact x.o
 have y:=U B;have F:=U (q.o.trans (d.mono (by simp;omega)));clear d B x q r;have H:=U (show ∀w':World,O5 b w'->w'.cell? ⟨w.heap.size,0,none⟩=some (.string s)/\w'.cell? ⟨w.heap.size,1,none⟩=some (.string t)/\w.heap.size<w'.heap.size from fun w' h=>by
  have:=h.size;exact ⟨by rw [h.cell (by show w.heap.size<_;omega)];simp [World.cell?,y.o],by rw [h.cell (by show w.heap.size<_;omega)];simp [World.cell?,y.o],by omega⟩)
 have N:=U (show ∀(u:ByteArray) (w':World),O5 b w'->Calls Tryz.prog 201 #[.string u] w' (fun e a=>e=.returned (.agg #[.int .u8 3,.int .i64 0,.string u,.slice none 0 0,.slice none 0 0])/\O5 b a/\a.cell? ⟨w.heap.size,0,none⟩=some (.string s)/\a.cell? ⟨w.heap.size,1,none⟩=some (.string t)/\w.heap.size<a.heap.size) from fun u w' h=>by
  refine (vM u w').mono ?_;rintro e a ⟨rfl,rfl⟩;have C:O5 b (w'.alloc (.cells #[.int .u8 3,.int .i64 0,.string u,.slice none 0 0,.slice none 0 0] 25)):=h.alloc h.size _;exact ⟨rfl,C,H.o _ C⟩)
 have M:=U (show ∀(w':World),O5 b w'->Calls Tryz.prog 150 #[.slice (some ⟨w'.heap.size,0,none⟩) 2 2] (w'.alloc (.cells #[.string ⟨#[112,117,98,108,105,99]⟩,.int .u8 3,.int .i64 0,.string t,.slice none 0 0,.slice none 0 0,.string ⟨#[115,99,104,101,109,101]⟩,.int .u8 3,.int .i64 0,.string s,.slice none 0 0,.slice none 0 0] 169)) (fun e a=>∃m p l o,e=.returned (.tuple #[.agg #[.int .u8 5,.int .i64 0,.string ⟨#[]⟩,.slice m 2 p,.slice l 2 o],.int .i64 0])/\Rep a b.heap.size a.heap.size (jt s t) (.agg #[.int .u8 5,.int .i64 0,.string ⟨#[]⟩,.slice m 2 p,.slice l 2 o])/\O5 b a/\a.cell? ⟨w.heap.size,0,none⟩=some (.string s)/\a.cell? ⟨w.heap.size,1,none⟩=some (.string t)/\a.rowIs (w.heap.size+1) 25 5 (qZ (.int .u8 0) (.int .i64 0) (.string ⟨#[]⟩) (.slice none 0 0) (.slice none 0 0))) from fun w' h=>by
  refine (Zc t s w' _ ht hs).mono ?_;rintro e a ⟨m,p,l,o,rfl,P,C⟩;have f:O5 b a:=(h.alloc h.size _).trans (C.mono (by have:=h.size;simp;omega));have L:=H.o _ f;exact ⟨m,p,l,o,rfl,Rep.carry (by have:=h.size;simp;omega) lz (fun _ _ _=>rfl) _ _ P,f,L.1,L.2.1,qj f K.o (by omega)⟩)
 have g:O5 b b.drew:=(J0 _ _).drew;obtain ⟨D,E,k⟩:=H.o b (J0 _ _);go_wp2_with fail
 go_region_held3 (fun w'=>w'.cell? ⟨w.heap.size,0,none⟩=some (.string s)/\w'.cell? ⟨w.heap.size,1,none⟩=some (.string t)) (first|(with_reducible exact ⟨D,E⟩)|(with_reducible exact ⟨(ql _ k).trans D,(ql _ k).trans E⟩)|(go_keep;done)) (first|(go_at_call 201;(with_reducible refine (N.o _ _ g).mono ?_);rintro e w2 ⟨rfl,g,D,E,k⟩)|(go_at_call 150;(with_reducible refine (M.o _ g).mono ?_);rintro e X ⟨m,p,l,o,rfl,A,z,D,E,c⟩;obtain ⟨R,S,T,V,W⟩:=rc5 c;obtain ⟨Y,Z,s2,s3,s4⟩:=rf5 c;have v:=U c;have J:=U A;have G:=U z;clear c A z;simp only [qZ] at R S T V W))
 go_wp2;refine X4 (qk Tryz.results152 _ _ (w.heap.size+1) 25 _ (0,0) _ rfl (qr (set5 _ _ _ _ _ v.o)) X8 rfl (by kernel_rfl) _ rfl) rfl ⟨m,p,l,o,rfl,?_,zj _ _ _ _ _ (F.o.trans (G.o.mono (by omega))) (by omega)⟩;exact Rep.carry (by omega) (show X.heap.size<=_ by simp [World.setCell]) (fun j hj _=>jm _ _ _ _ _ (by omega)) _ _ J.o
theorem fA (l:List UInt8) (h:∀c ∈ l,jV c):gf l=l:=by
 induction l with
 | nil=>rfl
 | cons c r ih =>
  have a:=h c (by simp);have e:gf (c :: r)=fK c ++ gf r:=by simp [gf]
  rw [e,ih fun d hd=>h d (by simp [hd])];unfold fK jV at *;rw [J3 (by omega)];rfl
theorem aL {s t:ByteArray} (h:zd s.data.toList t.data.toList=true):(jt s t).form false:=by
 obtain ⟨a,b,_,_⟩:=pG h;obtain ⟨c,d,f⟩:=dM;have e:∀i (hi:i < [xE,schN].length),qe [xE,schN][i]=true:=fun i hi=>by
  match i,hi with
  | 0,_=>exact c
  | 1,_=>exact d
 unfold jt JV.form;refine ⟨.inr (.inr (.inr (.inr ⟨rfl,rfl,e⟩))),?_⟩;unfold JV.forms JV.forms JV.forms;unfold txtJ JV.form;exact ⟨⟨.inr (.inr (.inl ⟨rfl,b⟩)),by unfold JV.forms;trivial⟩,⟨.inr (.inr (.inl ⟨rfl,a⟩)),by unfold JV.forms;trivial⟩,trivial⟩
theorem oZ {s t:ByteArray} (h:zd s.data.toList t.data.toList=true):(jt s t).enc=jE s.data.toList t.data.toList:=by
 obtain ⟨e,f⟩:=my h;have a:=fA _ (yW e).1;have b:=fA _ (uO f).1;have c:xO xE.data.toList=[34,112,117,98,108,105,99,34]:=by decide
 have d:xO schN.data.toList=[34,115,99,104,101,109,101,34]:=by decide
 unfold jt txtJ;simp [JV.enc,JV.encO,sep,c,d,jE,sJ,sK];simp [xO,a,b]
structure AuthV where
 thr:Int
 ids:List ByteArray
deriving DecidableEq
def authZ:AuthV:=⟨0,[]⟩
def jg (a:AuthV):Bool:=xm a.thr a.ids
def qy:ByteArray:=⟨#[107,101,121,105,100,115]⟩
def thrN:ByteArray:=⟨#[116,104,114,101,115,104,111,108,100]⟩
def zB (l:List JV):JV:=.mk 4 0 ⟨#[]⟩ [] l
def qb (l:List ByteArray):JV:=zB (l.map txtJ)
def qw (v:JV) (y:ByteArray) (most:Nat) (st:PS):List ByteArray × PS :=
 if st.err≠0 then ([],st) else match v.look y with
 | none=>([],⟨st.asked,6⟩)
 | some it=>if it.kind≠4 then ([],⟨st.asked,10⟩) else if most<it.items.length then ([],⟨st.asked,5⟩) else if it.items.all (fun x=>decide (x.kind=3)) then (it.items.map JV.t,⟨y :: st.asked,0⟩) else ([],⟨st.asked,10⟩)
def kN (v:JV) (st:PS):PS:=(if (qw v qy 16 st).1=[] then (qw v qy 16 st).2.fail 4 else (qw v qy 16 st).2).fail (qS [] (qw v qy 16 st).1)
def wh (v:JV) (st:PS):Int × PS:=qA v thrN 1 ((qw v qy 16 st).1.length:Int) (kN v st)
def kS (v:JV) (st:PS):AuthV × PS:=(if (wh v st).2.err≠0 then authZ else ⟨(wh v st).1,(qw v qy 16 st).1⟩,(wh v st).2)
theorem fT {l:List JV} (h:∀x ∈ l,x.partB=true):(zB l).partB=true:=by
 rw [JV.partB_eq];show (qJ 4 0 ⟨#[]⟩ [] l.length && JV.partsB l)=true;rw [bg l h];unfold qJ;rw [J3 (by decide),J3 (by decide),J3 (by decide),J8 rfl];have a:(⟨#[]⟩:ByteArray).toList=[]:=by rw [Y3]
 simp [a]
theorem zO {a:AuthV} (h:jg a=true):(1<=a.ids.length/\a.ids.length<=16)/\(1<=a.thr/\a.thr<=a.ids.length)/\qS [] a.ids=0:=by unfold jg xm at h;simp only [X3,J6] at h;exact ⟨⟨h.1.1,h.1.2.1⟩,h.1.2.2,h.2⟩
theorem jh:∀(l seen:List ByteArray),qS seen l=0->∀x ∈ l,kz x=true
 | [],_,_,x,hx=>by simp at hx
 | y :: r,seen,h,x,hx=>by
  unfold qS at h;split at h
  . rename_i h1;split at h
    . cases h
    . rcases H0.1 hx with e|e
      . rw [e];exact h1
      . exact jh r _ h x e
  . cases h
theorem kZ {x:ByteArray} (h:kz x=true):qe x=true/\x.size=64:=by unfold kz at h;simp only [X3,J6] at h;refine ⟨zH ?_ (by omega),h.1⟩;intro c hc;have a:=K7.1 (by unfold jb at h;exact h.2) c hc;unfold xh at a;unfold jV;simp at a ⊢;omega
theorem vD {v:JV} {y:ByteArray} {l:List ByteArray} {c:Nat} {a:List ByteArray} (h:v.look y=some (qb l)) (d:l.length<=c):qw v y c ⟨a,0⟩=(l,⟨y :: a,0⟩):=by
 unfold qw;rw [J3 (by simp),h];show (if (qb l).kind≠4 then _ else _:List ByteArray × PS)=_;have hi:(qb l).items=l.map txtJ:=rfl;rw [J3 (by simp [qb,zB,JV.kind]),hi,J3 (by rw [X9];omega),J8 (by simp [txtJ,JV.kind])];have b:(l.map txtJ).map JV.t=l:=by rw [List.map_map];exact (List.map_congr_left fun x _=>rfl).trans (List.map_id l)
 rw [b]
def gr:ByteArray:=⟨#[114,111,111,116]⟩
structure Auth3 where
 a:AuthV
 b:AuthV
 c:AuthV
deriving DecidableEq
structure RootV where
 ver:Int
 exp:Int
 keys:List Key2
 au:Auth3
deriving DecidableEq
def qF:ByteArray:=⟨#[107,101,121,115]⟩
def xC:ByteArray:=⟨#[114,111,108,101,115]⟩
def zy (l:List Key2):Bool:=decide (l.length<=32) && l.all ok2 && qo (ids l)
theorem nf:qo [aX,aJ,qF,xC,aZ]=true/\(qe aX=true/\qe aJ=true/\qe qF=true/\qe xC=true/\qe aZ=true)/\(aX≠aJ/\aX≠qF/\aX≠xC/\aX≠aZ/\aJ≠qF/\aJ≠xC/\aJ≠aZ/\qF≠xC/\qF≠aZ/\xC≠aZ):=by
 refine ⟨by kernel_rfl,⟨?_,?_,?_,?_,?_⟩,by decide⟩
 all_goals
  refine zH ?_ (by decide);intro c hc;unfold jV
  revert c
  decide
theorem zw {l:List Key2}:zy l=true↔l.length<=32/\(∀k ∈ l,ok2 k=true)/\qo (ids l)=true:=by unfold zy;simp only [X3,J6,K7];exact ⟨fun h=>⟨h.1.1,h.1.2,h.2⟩,fun h=>⟨⟨h.1,h.2.1⟩,h.2.2⟩⟩
theorem Qs {l:List Key2} (h:zy l=true):(zt l).partB=true/\(zt l).count<=130/\(zt l).depth<=3:=by
 obtain ⟨a,b,c⟩:=zw.1 h;refine ⟨dN (dS b c a),?_,?_⟩
 . rw [JV.count_eq];have:=counts_le 3 (l.map obj2) fun x hx=>by obtain ⟨k,_,rfl⟩:=za8.1 hx;exact J9 3
   rw [X9] at this;show 1+JV.counts (l.map obj2)<=_;omega
 . rw [JV.depth_eq];have:=kF 1 (l.map obj2) fun x hx=>by obtain ⟨k,_,rfl⟩:=za8.1 hx;exact J9 1
   rw [J3 (by simp [zt,JV.kind])];show JV.depths (l.map obj2)+1<=_;omega
theorem Qa {N:List NJ} (g:qo (N.map (·.1))=true) (f:N.length<=6) (e:∀p ∈ N,qe p.1=true/\p.2.partB=true/\p.2.count<=130/\p.2.depth<=3):(kx N).mayB=true:=by have a:=yx ⟨g,fun p h=>⟨(e p h).1,(e p h).2.1⟩⟩;have b:=fG 130 fun p h=>(e p h).2.2.1;have c:=vC 3 fun p h=>(e p h).2.2.2;have d:N.length * 130<=6 * 130:=Nat.mul_le_mul_right _ f;rw [JV.mayB_iff,a,X0 (by omega),X0 (by omega)];rfl
theorem yY {v it:JV} {y:ByteArray} {b:Nat} {a:List ByteArray} (h:v.look y=some it) (c:it.kind=5) (d:it.items.length<=b):qQ v y b ⟨a,0⟩=(it,⟨y :: a,0⟩):=by unfold qQ;rw [J3 (by simp),h];show (if it.kind≠5 then _ else if b<it.items.length then _ else _:JV × PS)=_;rw [J3 (by simp [c]),J3 (by omega)]
