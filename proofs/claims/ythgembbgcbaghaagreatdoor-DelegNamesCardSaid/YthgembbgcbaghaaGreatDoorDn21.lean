import Derived.Test.YthgembbgcbaghaaGreatDoorDn20
import Derived.Test.YthgembbgcbaghaaGreatDoorDn17
set_option maxHeartbeats 1000000
set_option maxRecDepth 100000

namespace Go.Proofs.YthgembbgcbaghaaGreatDoor
open Go.RowKit Go.WideMaps Go.Maps
theorem cg (l:List JV) (j:Nat) (h:j<l.length) (a:JV.partsB l=true):l[j].partB=true:=by
 cases hb:l[j].partB
 . rw [JV.partsB_bad l j h hb] at a;cases a
 . rfl
theorem lZ {t:ByteArray} (h:t.toList=[]):t=⟨#[]⟩:=by rw [J3] at h;exact pC (by simpa using h)
theorem bh {x:JV} (h:x.partB=true) (g:x.kind=5):(x.n=0/\x.t=⟨#[]⟩)/\x.names.length=x.items.length/\qK x.names=true/\∀y ∈ x.items,y.partB=true:=by rw [JV.partB_eq,Q0] at h;obtain ⟨e,f⟩:=h;rw [g] at e;unfold qP at e;rw [Z6 (by decide),Z6 (by decide),Z6 (by decide),Z6 (by decide),Q1 rfl,Q0,Q0,Z7] at e;obtain ⟨⟨⟨a,b,c⟩,d⟩,-⟩:=e;refine ⟨⟨a,lZ b⟩,c,d,fun y hy=>?_⟩;obtain ⟨i,hi,rfl⟩:=Y1 hy;exact cg _ i hi f
theorem kJ:∀ {a:List ByteArray} {b:List JV} {y:ByteArray} {x:JV},qI a b y=some x->y ∈ a/\x ∈ b
 | n :: a,z :: b,y,x,h=>by
  rw [qI] at h;split at h
  . rename_i e;injection h with h
    subst h;subst e;exact ⟨V7 ..,V7 ..⟩
  . have:=kJ h;exact ⟨Y4 _ this.1,Y4 _ this.2⟩
def du (v:JV):Prop:=v.kind=5/\(v.n=0/\v.t=⟨#[]⟩)/\qK v.names=true/\v.names.length=v.items.length/\∀x ∈ v.items,x.partB=true\/x=qF
theorem ny {v:JV} (h:v.mayB=true) (e:v.kind=5):du v:=by rw [JV.mayB_iff] at h;simp only [Q0] at h;obtain ⟨a,b,c,d⟩:=bh h.1.1 e;exact ⟨e,a,c,b,fun x hx=>.inl (d x hx)⟩
theorem iZ {v:JV} (h:du v) {y:ByteArray} {it:JV} (e:v.look y=some it) (a:it.kind≠0):it.partB=true:=by
 rcases h.2.2.2.2 it (kJ e).2 with h|h
 . exact h
 . exact absurd (by rw [h];rfl) a
def zx (n:Nat):UInt8:=if n<10 then UInt8.ofNat (48+n) else UInt8.ofNat (87+n)
def xQ:List UInt8->List UInt8
 | []=>[]
 | c :: r=>zx (c.toNat / 16) :: zx (c.toNat % 16) :: xQ r
theorem pt (l m:List UInt8):xQ (l ++ m)=xQ l ++ xQ m:=by
 induction l with
 | nil=>rfl
 | cons c r ih=>simp [xQ,ih]
theorem pi (l:List UInt8):(xQ l).length=2 * l.length:=by
 induction l with
 | nil=>rfl
 | cons c r ih=>simp [xQ,ih];omega
def kL (l:List UInt8):List UInt8:=xQ (zW l)
theorem ww (l:List UInt8):(kL l).length=64:=by unfold kL;rw [pi,jv]
theorem bu (n:Nat) (h:n<16):xA (zx n)=true:=by
 have:∀m:Fin 16,xA (zx m.val)=true:=by decide
 exact this ⟨n,h⟩
theorem br:∀l:List UInt8,xO (xQ l)=true
 | []=>rfl
 | c :: r=>by have h:=br r;have hc:c.toNat<256:=c.toNat_lt;unfold xO at h ⊢;simp only [xQ,List.all_cons,Q0];exact ⟨bu _ (by omega),bu _ (by omega),h⟩
theorem cf (l:List UInt8):xO (kL l)=true:=br _
def xJ:ByteArray:=⟨#[112,117,98,108,105,99]⟩
def schN:ByteArray:=⟨#[115,99,104,101,109,101]⟩
def jd (s t:ByteArray):JV:=.mk 5 0 ⟨#[]⟩ [xJ,schN] [txtJ t,txtJ s]
theorem pS {s t:List UInt8} (h:zF s t=true):zl s=true/\yM t=true:=by unfold zF at h;simpa using h
theorem gi {s t:ByteArray} (h:zF s.data.toList t.data.toList=true):qW s=true/\qW t=true/\s.size<=64/\t.size<=128:=by obtain ⟨c,d⟩:=pS h;have a:=wX c;have b:=pM d;rw [qd] at a b;exact ⟨zi a.1 (by omega),zi b.1 (by omega),a.2.2,b.2.2⟩
theorem uo:qW xJ=true/\qW schN=true/\qK [xJ,schN]=true:=by
 refine ⟨zi ?_ (by decide),zi ?_ (by decide),?_⟩
 . intro c hc;unfold xC;revert c;decide
 . intro c hc;unfold xC;revert c;decide
 . unfold qK qK;rw [J3,J3];decide
theorem ue (t:ByteArray) (h:qW t=true) (d:Nat) (l:Int) (a:1<=l):(txtJ t).may d l=(true,l - 1):=by
 unfold txtJ;rw [JV.may,Z6 (by omega)];have:qP 3 0 t [] 0=true:=by unfold qP;simp [h]
 rw [show ([]:List JV).length=0 from rfl,this];simp
theorem bt {s t:ByteArray} (h:zF s.data.toList t.data.toList=true):(jd s t).mayB=true:=by obtain ⟨a,b,_,_⟩:=gi h;obtain ⟨e,f,g⟩:=uo;unfold JV.mayB jd;have d:qP 5 0 ⟨#[]⟩ [xJ,schN] 2=true:=(by unfold qP;rw [J3];simp [e,f,g]);have c:JV.mays [txtJ t,txtJ s] (12 - 1) (8192 - 1)=(true,8192 - 1 - 1 - 1):=(by rw [JV.mays,ue t b _ _ (by omega),Q1 rfl,JV.mays,ue s a _ _ (by omega),Q1 rfl,JV.mays]);rw [JV.may,Z6 (by omega),show ([txtJ t,txtJ s]:List JV).length=2 from rfl,d,Z6 (by decide),Z6 (by decide),Z6 (by decide),c]
theorem aq {s t:ByteArray} (d:s.size<=4294967) (e:t.size<=4294967):(jd s t).wt<=4294967296:=by unfold jd txtJ;have a:xJ.size=6:=rfl;have b:schN.size=6:=rfl;have c:(⟨#[]⟩:ByteArray).size=0:=rfl;simp only [JV.wt,JV.wts,ql];omega
def ng:List UInt8:=[123,34,112,117,98,108,105,99,34,58,34]
def nf:List UInt8:=[34,44,34,115,99,104,101,109,101,34,58,34]
def j9 (s t:List UInt8):List UInt8:=ng ++ (t ++ (nf ++ (s ++ [34,125])))
theorem uQ (s t:List UInt8):(j9 s t).length=s.length+t.length+25:=by simp [j9,ng,nf];omega
def jR (s t:List UInt8):List UInt8:=if zF s t then kL (j9 s t) else []
def zu (v:JV):(ByteArray × ByteArray) × Int :=
 if v.mayB=false then ((⟨#[]⟩,⟨#[]⟩),3) else if v.kind≠5 then ((⟨#[]⟩,⟨#[]⟩),10) else
  if qu v (qh v schN (qh v xJ ⟨[],0⟩).2).2≠0 then ((⟨#[]⟩,⟨#[]⟩),qu v (qh v schN (qh v xJ ⟨[],0⟩).2).2) else
  if zF (qh v schN (qh v xJ ⟨[],0⟩).2).1.data.toList (qh v xJ ⟨[],0⟩).1.data.toList then (((qh v schN (qh v xJ ⟨[],0⟩).2).1,(qh v xJ ⟨[],0⟩).1),0) else ((⟨#[]⟩,⟨#[]⟩),3)
theorem tF:xJ≠schN:=by decide
theorem nh (s t:ByteArray):(jd s t).look xJ=some (txtJ t):=by unfold JV.look jd JV.names JV.items;simp [qI]
theorem nu (s t:ByteArray):(jd s t).look schN=some (txtJ s):=by unfold JV.look jd JV.names JV.items;simp [qI,tF]
theorem ch {s t:ByteArray} (h:zF s.data.toList t.data.toList=true):zu (jd s t)=((s,t),0):=by
 have a:qh (jd s t) xJ ⟨[],0⟩=(t,⟨[xJ],0⟩):=by unfold qh;rw [Z6 (by simp),nh];rfl
 have b:qh (jd s t) schN ⟨[xJ],0⟩=(s,⟨[schN,xJ],0⟩):=by unfold qh;rw [Z6 (by simp),nu];rfl
 have c:qu (jd s t) ⟨[schN,xJ],0⟩=0:=(by unfold qu;rw [Z6 (by simp)];have:(jd s t).names=[xJ,schN]:=rfl;rw [this];simp);unfold zu;rw [Z6 (by rw [bt h];simp),Z6 (by show ¬(5:Int)≠5;simp),a];simp only;rw [b];simp only;rw [c,Z6 (by simp),Q1 h]
def lX (s t:ByteArray):ByteArray:=⟨(jR s.data.toList t.data.toList).toArray⟩
def ok2 (k:Key2):Bool:=zF k.1.data.toList k.2.data.toList
def id2 (k:Key2):ByteArray:=lX k.1 k.2
def ids (l:List Key2):List ByteArray:=l.map id2
def obj2 (k:Key2):JV:=jd k.1 k.2
def zP (m:List Key2):JV:=.mk 5 0 ⟨#[]⟩ (m.map id2) (m.map obj2)
theorem uZ {l:List ByteArray} (h:qK l=true):l.Nodup:=by rw [List.Nodup,N3];intro i j hi hj hij e;have:=jb h i j hi hj hij;rw [e,zJ] at this;cases this
theorem uX {k:Key2}:(id2 k).size<=64:=by
 show (jR _ _).toArray.size<=64;unfold jR;split
 . rw [List.size_toArray,ww];exact Z9 _
 . simp
theorem az {k:Key2} (h:k.1.size<=300/\k.2.size<=300):(obj2 k).wt<=1000:=by unfold obj2 jd txtJ;have a:xJ.size=6:=rfl;have b:schN.size=6:=rfl;have c:(⟨#[]⟩:ByteArray).size=0:=rfl;simp only [JV.wt,JV.wts,ql];omega
theorem fF {m:List Key2} (d:∀k ∈ m,k.1.size<=300/\k.2.size<=300):(zP m).wt<=1+1100 * m.length:=by
 have a:∀m:List Key2,ql (m.map id2)<=65 * m.length:=fun m=>by
  induction m with
  | nil=>simp [ql]
  | cons k r ih=>have:=@uX k;simp only [Y9,ql,G6];omega
 have b:∀m:List Key2,(∀k ∈ m,k.1.size<=300/\k.2.size<=300)->JV.wts (m.map obj2)<=1000 * m.length:=fun m=>by
  induction m with
  | nil=>intro _;simp [JV.wts]
  | cons k r ih=>intro d;have:=az (d k (by simp));have:=ih (fun k hk=>d k (Y4 _ hk));simp only [Y9,JV.wts,G6];omega
 have c:(⟨#[]⟩:ByteArray).size=0:=rfl;have:=a m;have:=b m d;unfold zP;simp only [JV.wt];omega
theorem lJ {v:JV} (h:(zu v).2=0):zF (zu v).1.1.data.toList (zu v).1.2.data.toList=true/\(zu v).1.1.size<=64/\(zu v).1.2.size<=128:=by
 have c:zF (zu v).1.1.data.toList (zu v).1.2.data.toList=true:=by
  unfold zu at h ⊢;split at h
  . cases h
  next c1 =>
  rw [Z6 c1];split at h
  . cases h
  next c2 =>
  rw [Z6 c2];split at h
  . next c3=>exact absurd h c3
  next c3 =>
  rw [Z6 c3];split at h
  . next c4=>rw [Q1 c4];exact c4
  . cases h
 obtain ⟨_,_,a,b⟩:=gi c;exact ⟨c,a,b⟩
def ji:List ByteArray->List JV->List Key2->List Key2 × Int
 | id :: ns,it :: its,acc=>if (zu it).2≠0 then ([],(zu it).2) else if (lX (zu it).1.1 (zu it).1.2).toList == id.toList then ji ns its (acc ++ [(zu it).1]) else ([],3)
 | _,_,acc=>(acc,0)
def pA (r:Key2 × Int) (id:ByteArray) (ns:List ByteArray) (its:List JV) (acc:List Key2):List Key2 × Int :=
 if r.2≠0 then ([],r.2) else if (lX r.1.1 r.1.2).toList == id.toList then ji ns its (acc ++ [r.1]) else ([],3)
theorem lK (a:List JV) (acc:List Key2):ji [] a acc=(acc,0):=by unfold ji;rfl
theorem cu (b:List ByteArray) (a:List JV) (k:Nat) (acc:List Key2) (h:k<b.length) (c:k<a.length):ji (b.drop k) (a.drop k) acc=pA (zu a[k]) b[k] (b.drop (k+1)) (a.drop (k+1)) acc:=by rw [K6 h,K6 c,ji,pA]
def xK (v:JV):List Key2 × Int:=if v.mayB=false then ([],3) else if v.kind≠5 then ([],10) else if 32<v.names.length then ([],5) else ji v.names v.items []
theorem bo:∀ {l:List JV},JV.partsB l=true->∀x ∈ l,JV.partB x=true
 | [],_,x,hx=>by simp at hx
 | y :: r,h,x,hx=>by
  rw [JV.partsB,Q0] at h;rcases Y5.1 hx with rfl|hx
  . exact h.1
  . exact bo h.2 x hx
theorem uJ {v:JV} (h:v.mayB=true):v.partB=true:=by rw [JV.mayB_iff] at h;simp only [Q0] at h;exact h.1.1
theorem tH {k:Key2} (h:ok2 k=true):qW (id2 k)=true:=by have e:(id2 k).data.toList=kL (j9 k.1.data.toList k.2.data.toList):=(by show (jR _ _)=_;unfold jR;rw [Q1 (show zF k.1.data.toList k.2.data.toList=true from h)]);refine zi ?_ (Z5 uX (by decide));rw [e];have:=cf (j9 k.1.data.toList k.2.data.toList);unfold xO at this;exact fun c hc=>yQ (X3.1 this c hc)
theorem uK {m:List Key2} (i:∀k ∈ m,ok2 k=true) (j:qK (ids m)=true) (l:m.length<=32):(zP m).mayB=true:=by
 rw [JV.mayB_iff];have g:∀m:List Key2,(∀k ∈ m,ok2 k=true)->JV.partsB (m.map obj2)=true:=fun m=>by
  induction m with
  | nil=>intro _;rfl
  | cons k r ih => intro h;rw [Y9,JV.partsB,Q0];exact ⟨uJ (bt (h k (by simp))),ih fun x hx=>h x (Y4 _ hx)⟩
 have d:∀m:List Key2,JV.counts (m.map obj2)=3 * m.length:=fun m=>by
  induction m with
  | nil=>rfl
  | cons k r ih => have:JV.count (obj2 k)=3:=rfl;rw [Y9,JV.counts,ih,this,G6];omega
 have e:∀m:List Key2,JV.depths (m.map obj2)<=1:=fun m=>by
  induction m with
  | nil=>exact Q2 _
  | cons k r ih => have:JV.depth (obj2 k)=1:=rfl;rw [Y9,JV.depths,this];omega
 have b:(zP m).partB=true:=(by unfold zP;rw [JV.partB,g m i];have:qP 5 0 ⟨#[]⟩ (m.map id2) (m.map obj2).length=(decide ((0:Int)=0/\(⟨#[]⟩:ByteArray).toList=[]/\(m.map id2).length=(m.map obj2).length) && qK (m.map id2) && (m.map id2).all qW):=rfl;rw [this,show qK (m.map id2)=true from j,J3];have a:(m.map id2).all qW=true:=(by rw [X3];intro x hx;obtain ⟨k,f,rfl⟩:=V8.1 hx;exact tH (i k f));rw [a];simp);have a:(zP m).count<=8192:=by unfold zP;rw [JV.count,d];omega
 have c:(zP m).depth<=12:=(by unfold zP;rw [JV.depth,Z6 (by simp)];have:=e m;omega);rw [b];simp [a,c]
theorem pT:∀(m:List Key2) (acc:List Key2),(∀k ∈ m,ok2 k=true)->ji (m.map id2) (m.map obj2) acc=(acc ++ m,0)
 | [],acc,_=>by simp [ji]
 | k :: r,acc,h=>by have e:=ch (s:=k.1) (t:=k.2) (h k (by simp));rw [Y9,Y9,ji,show obj2 k=jd k.1 k.2 from rfl,e];simp only;rw [Z6 (by simp),Q1 (by simp [id2]),pT r _ fun x hx=>h x (Y4 _ hx)];simp
theorem pI {m:List Key2} (a:∀k ∈ m,ok2 k=true) (c:qK (ids m)=true) (b:m.length<=32):xK (zP m)=(m,0):=by unfold xK;rw [Z6 (by rw [uK a c b];simp),Z6 (by show ¬(5:Int)≠5;simp),Z6 (by show ¬32<(m.map id2).length;simp;omega)];show ji (m.map id2) (m.map obj2) []=_;rw [pT m [] a,List.nil_append]
theorem bJ {k:Key2} (h:ok2 k=true):k.1.size<=300/\k.2.size<=300:=by obtain ⟨_,_,a,b⟩:=gi h;omega
open Go.Shelf Go.Sort
theorem tU (t s:ByteArray) (w:World) (T:Nat) (b:t.size<=4294967000) (a:s.size<=4294967000) :
 Calls Tryz.prog 150 #[.slice (some ⟨w.heap.size,0,none⟩) 2 2] (w.alloc (.cells #[.string ⟨#[112,117,98,108,105,99]⟩,.int .u8 3,.int .i64 0,.string t,.slice none 0 0,.slice none 0 0,.string ⟨#[115,99,104,101,109,101]⟩,.int .u8 3,.int .i64 0,.string s,.slice none 0 0,.slice none 0 0] T))
  (wR [xJ,schN] [txtJ t,txtJ s] (w.alloc (.cells #[.string ⟨#[112,117,98,108,105,99]⟩,.int .u8 3,.int .i64 0,.string t,.slice none 0 0,.slice none 0 0,.string ⟨#[115,99,104,101,109,101]⟩,.int .u8 3,.int .i64 0,.string s,.slice none 0 0,.slice none 0 0] T))):=by
 have:=fG #[jC xJ t,jC schN s] #[jC xJ t,jC schN s] [txtJ t,txtJ s] w.heap.size 0 2 (w.alloc (.cells #[.string ⟨#[112,117,98,108,105,99]⟩,.int .u8 3,.int .i64 0,.string t,.slice none 0 0,.slice none 0 0,.string ⟨#[115,99,104,101,109,101]⟩,.int .u8 3,.int .i64 0,.string s,.slice none 0 0,.slice none 0 0] T)) 0 0 ?_ (by simp) (by simp) ?_ rfl ?_ ?_ (by simp)
 . exact this
 . exact m6 (T:=T) (by rw [Z4,rI];rfl)
 . refine mA _ _ _ fun j hj=>?_;obtain rfl:j=0:=by simp at hj;omega
   show ltOf cfM (jC schN s) (jC xJ t)=false;show decide (Lib.compareBytes schN.data.toList xJ.data.toList<0)=false;decide
 . intro i hi
   match i,hi with
   | 0,_=>exact ⟨vH _ _ _ _,by simp [txtJ,JV.wt,JV.wts,ql];omega,fun k h=>by simp [txtJ,JV.items] at h⟩
   | 1,_=>exact ⟨vH _ _ _ _,by simp [txtJ,JV.wt,JV.wts,ql];omega,fun k h=>by simp [txtJ,JV.items] at h⟩
 . intro i hi;obtain rfl:i=0:=by simp at hi;omega
   show xJ≠schN;decide
def cd (s t:ByteArray) (w:World) (e:Ending) (w':World):Prop :=
 ∃an cn ai ci,e=.returned (.tuple #[.agg #[.int .u8 5,.int .i64 0,.string ⟨#[]⟩,.slice an 2 cn,.slice ai 2 ci],.int .i64 0]) /\
  Rep w' w.heap.size w'.heap.size (jd s t) (.agg #[.int .u8 5,.int .i64 0,.string ⟨#[]⟩,.slice an 2 cn,.slice ai 2 ci])/\O5 w w'
theorem uV (s t:ByteArray) (w:World) (z:s.size<=4294967000) (A:t.size<=4294967000) (y:zF s.data.toList t.data.toList=false) :
 Calls Tryz.prog 152 #[.agg #[.string s,.string t]] w fun e w'=>e=.returned (.tuple #[zeroAgg,.int .i64 3])/\O5 w w':=by
 have i:=U (mN s t ((w.alloc (.cells #[.string s,.string t] 43)).alloc (.cells #[.int .u8 0,.int .i64 0,.string ⟨#[]⟩,.slice none 0 0,.slice none 0 0] 25)) (by omega) (by omega));rw [y] at i;have c:=qt (w.alloc (.cells #[.string s,.string t] 43)) (.int .u8 0) (.int .i64 0) (.string ⟨#[]⟩) (.slice none 0 0) (.slice none 0 0) 25;rw [show (w.alloc (.cells #[.string s,.string t] 43)).heap.size=w.heap.size+1 by simp] at c;have g:=U c;have d:=O0 (O5 w ((w.alloc (.cells #[.string s,.string t] 43)).alloc (.cells #[.int .u8 0,.int .i64 0,.string ⟨#[]⟩,.slice none 0 0,.slice none 0 0] 25))) ((O4).alloc (by simp) _);clear y c;go_enter Tryz.func152,Tryz.ntmps152;go_wp2_with fail;refine i.o.mono ?_;rintro e x ⟨rfl,b⟩;have a:=qw b g.o (by simp);have h:=U a;have f:=U (d.o.trans (b.mono (by simp;omega)));obtain ⟨j,k,l,m,o⟩:=rc5 a;obtain ⟨p,q,r,u,v⟩:=rf5 a;simp only [qB] at j k l m o;clear a b;go_wp2;exact Q3 (qb Tryz.results152 _ _ (w.heap.size+1) 25 _ (0,0) _ rfl (qJ (set5 _ _ _ _ _ h.o)) Q6 rfl (by kernel_rfl) _ rfl) rfl ⟨rfl,zn _ _ _ _ _ f.o (by omega)⟩
theorem wN (s t:ByteArray) (w:World) (hs:s.size<=4294967000) (ht:t.size<=4294967000) (hk:zF s.data.toList t.data.toList=true) :
 Calls Tryz.prog 152 #[.agg #[.string s,.string t]] w (cd s t w):=by
 have I:=U (mN s t ((w.alloc (.cells #[.string s,.string t] 43)).alloc (.cells #[.int .u8 0,.int .i64 0,.string ⟨#[]⟩,.slice none 0 0,.slice none 0 0] 25)) (by omega) (by omega));rw [hk] at I;have i:=qt (w.alloc (.cells #[.string s,.string t] 43)) (.int .u8 0) (.int .i64 0) (.string ⟨#[]⟩) (.slice none 0 0) (.slice none 0 0) 25;rw [show (w.alloc (.cells #[.string s,.string t] 43)).heap.size=w.heap.size+1 by simp] at i;have r:=U i;have q:=O0 (O5 w ((w.alloc (.cells #[.string s,.string t] 43)).alloc (.cells #[.int .u8 0,.int .i64 0,.string ⟨#[]⟩,.slice none 0 0,.slice none 0 0] 25))) ((O4).alloc (by simp) _);have x:=U (show ((w.alloc (.cells #[.string s,.string t] 43)).alloc (.cells #[.int .u8 0,.int .i64 0,.string ⟨#[]⟩,.slice none 0 0,.slice none 0 0] 25)).heap[w.heap.size]?=some (.cells #[.string s,.string t] 43 (0,0)) by rw [J8 _ _ _ (by simp)];exact Z4 w _);clear hk i;go_enter Tryz.func152,Tryz.ntmps152;go_wp2_with fail;refine I.o.mono ?_;clear I;rintro e b ⟨rfl,d⟩;have K:=U (qw d r.o (by simp));have Q:w.heap.size+2<=b.heap.size:=by have:=d.size;simp at this;omega
 have B:b.heap[w.heap.size]?=some (.cells #[.string s,.string t] 43 (0,0)):=by rw [d.block _ (by simp;omega)];exact x.o
 have y:=U B;have F:=U (q.o.trans (d.mono (by simp;omega)));clear d B x q r;have H:=U (show ∀w':World,O5 b w'->w'.cell? ⟨w.heap.size,0,none⟩=some (.string s)/\w'.cell? ⟨w.heap.size,1,none⟩=some (.string t)/\w.heap.size<w'.heap.size from fun w' h=>by
  have:=h.size;exact ⟨by rw [h.cell (by show w.heap.size<_;omega)];simp [World.cell?,y.o],by rw [h.cell (by show w.heap.size<_;omega)];simp [World.cell?,y.o],by omega⟩)
 have N:=U (show ∀(u:ByteArray) (w':World),O5 b w'->Calls Tryz.prog 201 #[.string u] w' (fun e a=>e=.returned (.agg #[.int .u8 3,.int .i64 0,.string u,.slice none 0 0,.slice none 0 0])/\O5 b a/\a.cell? ⟨w.heap.size,0,none⟩=some (.string s)/\a.cell? ⟨w.heap.size,1,none⟩=some (.string t)/\w.heap.size<a.heap.size) from fun u w' h=>by
  refine (kC u w').mono ?_;rintro e a ⟨rfl,rfl⟩;have C:O5 b (w'.alloc (.cells #[.int .u8 3,.int .i64 0,.string u,.slice none 0 0,.slice none 0 0] 25)):=h.alloc h.size _;exact ⟨rfl,C,H.o _ C⟩)
 have M:=U (show ∀(w':World),O5 b w'->Calls Tryz.prog 150 #[.slice (some ⟨w'.heap.size,0,none⟩) 2 2] (w'.alloc (.cells #[.string ⟨#[112,117,98,108,105,99]⟩,.int .u8 3,.int .i64 0,.string t,.slice none 0 0,.slice none 0 0,.string ⟨#[115,99,104,101,109,101]⟩,.int .u8 3,.int .i64 0,.string s,.slice none 0 0,.slice none 0 0] 169)) (fun e a=>∃m p l o,e=.returned (.tuple #[.agg #[.int .u8 5,.int .i64 0,.string ⟨#[]⟩,.slice m 2 p,.slice l 2 o],.int .i64 0])/\Rep a b.heap.size a.heap.size (jd s t) (.agg #[.int .u8 5,.int .i64 0,.string ⟨#[]⟩,.slice m 2 p,.slice l 2 o])/\O5 b a/\a.cell? ⟨w.heap.size,0,none⟩=some (.string s)/\a.cell? ⟨w.heap.size,1,none⟩=some (.string t)/\a.rowIs (w.heap.size+1) 25 5 (qB (.int .u8 0) (.int .i64 0) (.string ⟨#[]⟩) (.slice none 0 0) (.slice none 0 0))) from fun w' h=>by
  refine (tU t s w' _ ht hs).mono ?_;rintro e a ⟨m,p,l,o,rfl,P,C⟩;have f:O5 b a:=(h.alloc h.size _).trans (C.mono (by have:=h.size;simp;omega));have L:=H.o _ f;exact ⟨m,p,l,o,rfl,Rep.carry (by have:=h.size;simp;omega) lz (fun _ _ _=>rfl) _ _ P,f,L.1,L.2.1,qw f K.o (by omega)⟩)
 have g:O5 b b.drew:=(Z0 _ _).drew;obtain ⟨D,E,k⟩:=H.o b (Z0 _ _);go_wp2_with fail
 go_region_held3 (fun w'=>w'.cell? ⟨w.heap.size,0,none⟩=some (.string s)/\w'.cell? ⟨w.heap.size,1,none⟩=some (.string t)) (first|(with_reducible exact ⟨D,E⟩)|(with_reducible exact ⟨(qX _ k).trans D,(qX _ k).trans E⟩)|(go_keep;done)) (first|(go_at_call 201;(with_reducible refine (N.o _ _ g).mono ?_);rintro e w2 ⟨rfl,g,D,E,k⟩)|(go_at_call 150;(with_reducible refine (M.o _ g).mono ?_);rintro e X ⟨m,p,l,o,rfl,A,z,D,E,c⟩;obtain ⟨R,S,T,V,W⟩:=rc5 c;obtain ⟨Y,Z,s2,s3,s4⟩:=rf5 c;have v:=U c;have J:=U A;have G:=U z;clear c A z;simp only [qB] at R S T V W))
 go_wp2;refine Q3 (qb Tryz.results152 _ _ (w.heap.size+1) 25 _ (0,0) _ rfl (qJ (set5 _ _ _ _ _ v.o)) Q6 rfl (by kernel_rfl) _ rfl) rfl ⟨m,p,l,o,rfl,?_,zn _ _ _ _ _ (F.o.trans (G.o.mono (by omega))) (by omega)⟩;exact Rep.carry (by omega) (show X.heap.size<=_ by simp [World.setCell]) (fun j hj _=>js _ _ _ _ _ (by omega)) _ _ J.o
theorem bV (l:List UInt8) (h:∀c ∈ l,xC c):wL l=l:=by
 induction l with
 | nil=>rfl
 | cons c r ih =>
  have a:=h c (by simp);have e:wL (c :: r)=g7 c ++ wL r:=by simp [wL]
  rw [e,ih fun d hd=>h d (by simp [hd])];unfold g7 xC at *;rw [Z6 (by omega)];rfl
theorem lV {s t:ByteArray} (h:zF s.data.toList t.data.toList=true):(jd s t).form false:=by
 obtain ⟨a,b,_,_⟩:=gi h;obtain ⟨c,d,f⟩:=uo;have e:∀i (hi:i < [xJ,schN].length),qW [xJ,schN][i]=true:=fun i hi=>by
  match i,hi with
  | 0,_=>exact c
  | 1,_=>exact d
 unfold jd JV.form;refine ⟨.inr (.inr (.inr (.inr ⟨rfl,rfl,e⟩))),?_⟩;unfold JV.forms JV.forms JV.forms;unfold txtJ JV.form;exact ⟨⟨.inr (.inr (.inl ⟨rfl,b⟩)),by unfold JV.forms;trivial⟩,⟨.inr (.inr (.inl ⟨rfl,a⟩)),by unfold JV.forms;trivial⟩,trivial⟩
theorem nc {s t:ByteArray} (h:zF s.data.toList t.data.toList=true):(jd s t).enc=j9 s.data.toList t.data.toList:=by
 obtain ⟨e,f⟩:=pS h;have a:=bV _ (wX e).1;have b:=bV _ (pM f).1;have c:xo xJ.data.toList=[34,112,117,98,108,105,99,34]:=by decide
 have d:xo schN.data.toList=[34,115,99,104,101,109,101,34]:=by decide
 unfold jd txtJ;simp [JV.enc,JV.encO,sep,c,d,j9,ng,nf];simp [xo,a,b]
structure AuthV where
 thr:Int
 ids:List ByteArray
deriving DecidableEq
def authZ:AuthV:=⟨0,[]⟩
def xD (a:AuthV):Bool:=jM a.thr a.ids
def qp:ByteArray:=⟨#[107,101,121,105,100,115]⟩
def thrN:ByteArray:=⟨#[116,104,114,101,115,104,111,108,100]⟩
def qk (l:List JV):JV:=.mk 4 0 ⟨#[]⟩ [] l
def qm (l:List ByteArray):JV:=qk (l.map txtJ)
def qg (v:JV) (y:ByteArray) (most:Nat) (st:PS):List ByteArray × PS :=
 if st.err≠0 then ([],st) else match v.look y with
 | none=>([],⟨st.asked,6⟩)
 | some it=>if it.kind≠4 then ([],⟨st.asked,10⟩) else if most<it.items.length then ([],⟨st.asked,5⟩) else if it.items.all (fun x=>decide (x.kind=3)) then (it.items.map JV.t,⟨y :: st.asked,0⟩) else ([],⟨st.asked,10⟩)
def kq (v:JV) (st:PS):PS:=(if (qg v qp 16 st).1=[] then (qg v qp 16 st).2.fail 4 else (qg v qp 16 st).2).fail (xw [] (qg v qp 16 st).1)
def vx (v:JV) (st:PS):Int × PS:=qR v thrN 1 ((qg v qp 16 st).1.length:Int) (kq v st)
def kz (v:JV) (st:PS):AuthV × PS:=(if (vx v st).2.err≠0 then authZ else ⟨(vx v st).1,(qg v qp 16 st).1⟩,(vx v st).2)
theorem bW {l:List JV} (h:∀x ∈ l,x.partB=true):(qk l).partB=true:=by
 rw [JV.partB_eq];show (qP 4 0 ⟨#[]⟩ [] l.length && JV.partsB l)=true;rw [yX l h];unfold qP;rw [Z6 (by decide),Z6 (by decide),Z6 (by decide),Q1 rfl];have a:(⟨#[]⟩:ByteArray).toList=[]:=by rw [J3]
 simp [a]
theorem xV {a:AuthV} (h:xD a=true):(1<=a.ids.length/\a.ids.length<=16)/\(1<=a.thr/\a.thr<=a.ids.length)/\xw [] a.ids=0:=by unfold xD jM at h;simp only [Q0,Z7] at h;exact ⟨⟨h.1.1,h.1.2.1⟩,h.1.2.2,h.2⟩
theorem jN:∀(l seen:List ByteArray),xw seen l=0->∀x ∈ l,y7 x=true
 | [],_,_,x,hx=>by simp at hx
 | y :: r,seen,h,x,hx=>by
  unfold xw at h;split at h
  . rename_i h1;split at h
    . cases h
    . rcases Y5.1 hx with e|e
      . rw [e];exact h1
      . exact jN r _ h x e
  . cases h
theorem vM {x:ByteArray} (h:y7 x=true):qW x=true/\x.size=64:=by unfold y7 at h;simp only [Q0,Z7] at h;refine ⟨zi ?_ (by omega),h.1⟩;intro c hc;have a:=X3.1 (by unfold xO at h;exact h.2) c hc;unfold xA at a;unfold xC;simp at a ⊢;omega
theorem kR {v:JV} {y:ByteArray} {l:List ByteArray} {c:Nat} {a:List ByteArray} (h:v.look y=some (qm l)) (d:l.length<=c):qg v y c ⟨a,0⟩=(l,⟨y :: a,0⟩):=by
 unfold qg;rw [Z6 (by simp),h];show (if (qm l).kind≠4 then _ else _:List ByteArray × PS)=_;have hi:(qm l).items=l.map txtJ:=rfl;rw [Z6 (by simp [qm,qk,JV.kind]),hi,Z6 (by rw [J6];omega),Q1 (by simp [txtJ,JV.kind])];have b:(l.map txtJ).map JV.t=l:=by rw [List.map_map];exact (List.map_congr_left fun x _=>rfl).trans (List.map_id l)
 rw [b]
def pO:ByteArray:=⟨#[114,111,111,116]⟩
structure Auth3 where
 a:AuthV
 b:AuthV
 c:AuthV
deriving DecidableEq
structure RootV where
 ver:Int
 exp:Int
 keys:List Key2
 au:Auth3
deriving DecidableEq
def qD:ByteArray:=⟨#[107,101,121,115]⟩
def xZ:ByteArray:=⟨#[114,111,108,101,115]⟩
def zc (l:List Key2):Bool:=decide (l.length<=32) && l.all ok2 && qK (ids l)
theorem ct:qK [d9,lx,qD,xZ,d8]=true/\(qW d9=true/\qW lx=true/\qW qD=true/\qW xZ=true/\qW d8=true)/\(d9≠lx/\d9≠qD/\d9≠xZ/\d9≠d8/\lx≠qD/\lx≠xZ/\lx≠d8/\qD≠xZ/\qD≠d8/\xZ≠d8):=by
 refine ⟨by kernel_rfl,⟨?_,?_,?_,?_,?_⟩,by decide⟩
 all_goals
  refine zi ?_ (by decide);intro c hc;unfold xC
  revert c
  decide
theorem zo {l:List Key2}:zc l=true↔l.length<=32/\(∀k ∈ l,ok2 k=true)/\qK (ids l)=true:=by unfold zc;simp only [Q0,Z7,X3];exact ⟨fun h=>⟨h.1.1,h.1.2,h.2⟩,fun h=>⟨⟨h.1,h.2.1⟩,h.2.2⟩⟩
theorem aj {l:List Key2} (h:zc l=true):(zP l).partB=true/\(zP l).count<=130/\(zP l).depth<=3:=by
 obtain ⟨a,b,c⟩:=zo.1 h;refine ⟨uJ (uK b c a),?_,?_⟩
 . rw [JV.count_eq];have:=counts_le 3 (l.map obj2) fun x hx=>by obtain ⟨k,_,rfl⟩:=V8.1 hx;exact Z9 3
   rw [J6] at this;show 1+JV.counts (l.map obj2)<=_;omega
 . rw [JV.depth_eq];have:=jL 1 (l.map obj2) fun x hx=>by obtain ⟨k,_,rfl⟩:=V8.1 hx;exact Z9 1
   rw [Z6 (by simp [zP,JV.kind])];show JV.depths (l.map obj2)+1<=_;omega
theorem ak {N:List NJ} (g:qK (N.map (·.1))=true) (f:N.length<=6) (e:∀p ∈ N,qW p.1=true/\p.2.partB=true/\p.2.count<=130/\p.2.depth<=3):(z7 N).mayB=true:=by have a:=vU ⟨g,fun p h=>⟨(e p h).1,(e p h).2.1⟩⟩;have b:=g9 130 fun p h=>(e p h).2.2.1;have c:=kD 3 fun p h=>(e p h).2.2.2;have d:N.length * 130<=6 * 130:=Nat.mul_le_mul_right _ f;rw [JV.mayB_iff,a,Q9 (by omega),Q9 (by omega)];rfl
theorem wJ {v it:JV} {y:ByteArray} {b:Nat} {a:List ByteArray} (h:v.look y=some it) (c:it.kind=5) (d:it.items.length<=b):qi v y b ⟨a,0⟩=(it,⟨y :: a,0⟩):=by unfold qi;rw [Z6 (by simp),h];show (if it.kind≠5 then _ else if b<it.items.length then _ else _:JV × PS)=_;rw [Z6 (by simp [c]),Z6 (by omega)]
