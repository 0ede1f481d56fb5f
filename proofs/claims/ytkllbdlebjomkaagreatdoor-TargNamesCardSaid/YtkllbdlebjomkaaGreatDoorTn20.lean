import Derived.Test.YtkllbdlebjomkaaGreatDoorTn19
import Derived.Test.YtkllbdlebjomkaaGreatDoorTn16
set_option maxHeartbeats 1000000
set_option maxRecDepth 100000

namespace Go.Proofs.YtkllbdlebjomkaaGreatDoor
open Go.RowKit Go.WideMaps Go.Maps
theorem ry (l:List JV) (j:Nat) (h:j<l.length) (a:JV.partsB l=true):l[j].partB=true:=by
 cases hb:l[j].partB
 . rw [JV.partsB_bad l j h hb] at a;cases a
 . rfl
theorem sF {t:ByteArray} (h:t.toList=[]):t=⟨#[]⟩:=by rw [X4] at h;exact uZ (by simpa using h)
theorem fu {x:JV} (h:x.partB=true) (g:x.kind=5):(x.n=0/\x.t=⟨#[]⟩)/\x.names.length=x.items.length/\qd x.names=true/\∀y ∈ x.items,y.partB=true:=by rw [JV.partB_eq,J5] at h;obtain ⟨e,f⟩:=h;rw [g] at e;unfold qK at e;rw [Z6 (by decide),Z6 (by decide),Z6 (by decide),Z6 (by decide),J3 rfl,J5,J5,J1] at e;obtain ⟨⟨⟨a,b,c⟩,d⟩,-⟩:=e;refine ⟨⟨a,sF b⟩,c,d,fun y hy=>?_⟩;obtain ⟨i,hi,rfl⟩:=Y0 hy;exact ry _ i hi f
theorem vW:∀ {ns:List ByteArray} {xs:List JV} {y:ByteArray} {x:JV},jy ns xs y=some x->y ∈ ns/\x ∈ xs
 | n :: ns,z :: xs,y,x,h=>by
  rw [jy] at h;split at h
  . rename_i e;injection h with h
    subst h;subst e;exact ⟨G0 ..,G0 ..⟩
  . have:=vW h;exact ⟨V7 _ this.1,V7 _ this.2⟩
def uB (v:JV):Prop:=v.kind=5/\(v.n=0/\v.t=⟨#[]⟩)/\qd v.names=true/\v.names.length=v.items.length/\∀x ∈ v.items,x.partB=true\/x=zeroJ
theorem fm {v:JV} (h:v.mayB=true) (e:v.kind=5):uB v:=by rw [JV.mayB_iff] at h;simp only [J5] at h;obtain ⟨a,b,c,d⟩:=fu h.1.1 e;exact ⟨e,a,c,b,fun x hx=>.inl (d x hx)⟩
theorem QO {v:JV} (h:uB v) {y:ByteArray} {it:JV} (e:v.look y=some it) (a:it.kind≠0):it.partB=true:=by
 rcases h.2.2.2.2 it (vW e).2 with h|h
 . exact h
 . exact absurd (by rw [h];rfl) a
def ze (n:Nat):UInt8:=if n<10 then UInt8.ofNat (48+n) else UInt8.ofNat (87+n)
def xX:List UInt8->List UInt8
 | []=>[]
 | c :: r=>ze (c.toNat / 16) :: ze (c.toNat % 16) :: xX r
theorem hF (l m:List UInt8):xX (l ++ m)=xX l ++ xX m:=by
 induction l with
 | nil=>rfl
 | cons c r ih=>simp [xX,ih]
theorem hO (l:List UInt8):(xX l).length=2 * l.length:=by
 induction l with
 | nil=>rfl
 | cons c r ih=>simp [xX,ih];omega
def yR (l:List UInt8):List UInt8:=xX (yH l)
theorem yQ (l:List UInt8):(yR l).length=64:=by unfold yR;rw [hO,ya]
theorem fd (n:Nat) (h:n<16):jv (ze n)=true:=by
 have:∀m:Fin 16,jv (ze m.val)=true:=by decide
 exact this ⟨n,h⟩
theorem fl:∀l:List UInt8,jp (xX l)=true
 | []=>rfl
 | c :: r=>by have h:=fl r;have hc:c.toNat<256:=c.toNat_lt;unfold jp at h ⊢;simp only [xX,List.all_cons,J5];exact ⟨fd _ (by omega),fd _ (by omega),h⟩
theorem rg (l:List UInt8):jp (yR l)=true:=fl _
def j4:ByteArray:=⟨#[112,117,98,108,105,99]⟩
def kS:ByteArray:=⟨#[115,99,104,101,109,101]⟩
def yN (s t:ByteArray):JV:=.mk 5 0 ⟨#[]⟩ [j4,kS] [txtJ t,txtJ s]
theorem uP {s t:List UInt8} (h:zA s t=true):zw s=true/\jw t=true:=by unfold zA at h;simpa using h
theorem pe {s t:ByteArray} (h:zA s.data.toList t.data.toList=true):qX s=true/\qX t=true/\s.size<=64/\t.size<=128:=by obtain ⟨c,d⟩:=uP h;have a:=yD c;have b:=uQ d;rw [qu] at a b;exact ⟨zZ a.1 (by omega),zZ b.1 (by omega),a.2.2,b.2.2⟩
theorem dh:qX j4=true/\qX kS=true/\qd [j4,kS]=true:=by
 refine ⟨zZ ?_ (by decide),zZ ?_ (by decide),?_⟩
 . intro c hc;unfold jq;revert c;decide
 . intro c hc;unfold jq;revert c;decide
 . unfold qd qd;rw [X4,X4];decide
theorem du (t:ByteArray) (h:qX t=true) (d:Nat) (l:Int) (a:1<=l):(txtJ t).may d l=(true,l - 1):=by
 unfold txtJ;rw [JV.may,Z6 (by omega)];have:qK 3 0 t [] 0=true:=by unfold qK;simp [h]
 rw [show ([]:List JV).length=0 from rfl,this];simp
theorem dm {s t:ByteArray} (h:zA s.data.toList t.data.toList=true):(yN s t).mayB=true:=by obtain ⟨a,b,_,_⟩:=pe h;obtain ⟨e,f,g⟩:=dh;unfold JV.mayB yN;have d:qK 5 0 ⟨#[]⟩ [j4,kS] 2=true:=(by unfold qK;rw [X4];simp [e,f,g]);have c:JV.mays [txtJ t,txtJ s] (12 - 1) (8192 - 1)=(true,8192 - 1 - 1 - 1):=(by rw [JV.mays,du t b _ _ (by omega),J3 rfl,JV.mays,du s a _ _ (by omega),J3 rfl,JV.mays]);rw [JV.may,Z6 (by omega),show ([txtJ t,txtJ s]:List JV).length=2 from rfl,d,Z6 (by decide),Z6 (by decide),Z6 (by decide),c]
theorem oC {s t:ByteArray} (d:s.size<=4294967) (e:t.size<=4294967):(yN s t).wt<=4294967296:=by unfold yN txtJ;have a:j4.size=6:=rfl;have b:kS.size=6:=rfl;have c:(⟨#[]⟩:ByteArray).size=0:=rfl;simp only [JV.wt,JV.wts,qh];omega
def tH:List UInt8:=[123,34,112,117,98,108,105,99,34,58,34]
def tU:List UInt8:=[34,44,34,115,99,104,101,109,101,34,58,34]
def kE (s t:List UInt8):List UInt8:=tH ++ (t ++ (tU ++ (s ++ [34,125])))
theorem dc (s t:List UInt8):(kE s t).length=s.length+t.length+25:=by simp [kE,tH,tU];omega
def kY (s t:List UInt8):List UInt8:=if zA s t then yR (kE s t) else []
def zQ (v:JV):(ByteArray × ByteArray) × Int :=
 if v.mayB=false then ((⟨#[]⟩,⟨#[]⟩),3) else if v.kind≠5 then ((⟨#[]⟩,⟨#[]⟩),10) else
  if qb v (qw v kS (qw v j4 ⟨[],0⟩).2).2≠0 then ((⟨#[]⟩,⟨#[]⟩),qb v (qw v kS (qw v j4 ⟨[],0⟩).2).2) else
  if zA (qw v kS (qw v j4 ⟨[],0⟩).2).1.data.toList (qw v j4 ⟨[],0⟩).1.data.toList then (((qw v kS (qw v j4 ⟨[],0⟩).2).1,(qw v j4 ⟨[],0⟩).1),0) else ((⟨#[]⟩,⟨#[]⟩),3)
def sH (s t:ByteArray):ByteArray:=⟨(kY s.data.toList t.data.toList).toArray⟩
def ok2 (k:Key2):Bool:=zA k.1.data.toList k.2.data.toList
def id2 (k:Key2):ByteArray:=sH k.1 k.2
def ids (l:List Key2):List ByteArray:=l.map id2
def obj2 (k:Key2):JV:=yN k.1 k.2
def xb (m:List Key2):JV:=.mk 5 0 ⟨#[]⟩ (m.map id2) (m.map obj2)
theorem dd {l:List ByteArray} (h:qd l=true):l.Nodup:=by rw [List.Nodup,za3];intro i j hi hj hij e;have:=jG h i j hi hj hij;rw [e,zY] at this;cases this
theorem dl {k:Key2}:(id2 k).size<=64:=by
 show (kY _ _).toArray.size<=64;unfold kY;split
 . rw [List.size_toArray,yQ];exact J2 _
 . simp
theorem oD {k:Key2} (h:k.1.size<=300/\k.2.size<=300):(obj2 k).wt<=1000:=by unfold obj2 yN txtJ;have a:j4.size=6:=rfl;have b:kS.size=6:=rfl;have c:(⟨#[]⟩:ByteArray).size=0:=rfl;simp only [JV.wt,JV.wts,qh];omega
theorem mC {m:List Key2} (d:∀k ∈ m,k.1.size<=300/\k.2.size<=300):(xb m).wt<=1+1100 * m.length:=by
 have a:∀m:List Key2,qh (m.map id2)<=65 * m.length:=fun m=>by
  induction m with
  | nil=>simp [qh]
  | cons k r ih=>have:=@dl k;simp only [K8,qh,N0];omega
 have b:∀m:List Key2,(∀k ∈ m,k.1.size<=300/\k.2.size<=300)->JV.wts (m.map obj2)<=1000 * m.length:=fun m=>by
  induction m with
  | nil=>intro _;simp [JV.wts]
  | cons k r ih=>intro d;have:=oD (d k (by simp));have:=ih (fun k hk=>d k (V7 _ hk));simp only [K8,JV.wts,N0];omega
 have c:(⟨#[]⟩:ByteArray).size=0:=rfl;have:=a m;have:=b m d;unfold xb;simp only [JV.wt];omega
theorem sU {v:JV} (h:(zQ v).2=0):zA (zQ v).1.1.data.toList (zQ v).1.2.data.toList=true/\(zQ v).1.1.size<=64/\(zQ v).1.2.size<=128:=by
 have c:zA (zQ v).1.1.data.toList (zQ v).1.2.data.toList=true:=by
  unfold zQ at h ⊢;split at h
  . cases h
  next c1 =>
  rw [Z6 c1];split at h
  . cases h
  next c2 =>
  rw [Z6 c2];split at h
  . next c3=>exact absurd h c3
  next c3 =>
  rw [Z6 c3];split at h
  . next c4=>rw [J3 c4];exact c4
  . cases h
 obtain ⟨_,_,a,b⟩:=pe c;exact ⟨c,a,b⟩
def wf:List ByteArray->List JV->List Key2->List Key2 × Int
 | id :: ns,it :: its,acc=>if (zQ it).2≠0 then ([],(zQ it).2) else if (sH (zQ it).1.1 (zQ it).1.2).toList == id.toList then wf ns its (acc ++ [(zQ it).1]) else ([],3)
 | _,_,acc=>(acc,0)
def uF (r:Key2 × Int) (id:ByteArray) (ns:List ByteArray) (its:List JV) (acc:List Key2):List Key2 × Int :=
 if r.2≠0 then ([],r.2) else if (sH r.1.1 r.1.2).toList == id.toList then wf ns its (acc ++ [r.1]) else ([],3)
theorem sM (a:List JV) (acc:List Key2):wf [] a acc=(acc,0):=by unfold wf;rfl
theorem rf (ns:List ByteArray) (a:List JV) (k:Nat) (acc:List Key2) (h:k<ns.length) (b:k<a.length):wf (ns.drop k) (a.drop k) acc=uF (zQ a[k]) ns[k] (ns.drop (k+1)) (a.drop (k+1)) acc:=by rw [V3 h,V3 b,wf,uF]
def jx (v:JV):List Key2 × Int:=if v.mayB=false then ([],3) else if v.kind≠5 then ([],10) else if 32<v.names.length then ([],5) else wf v.names v.items []
theorem fs:∀ {l:List JV},JV.partsB l=true->∀x ∈ l,JV.partB x=true
 | [],_,x,hx=>by simp at hx
 | y :: r,h,x,hx=>by
  rw [JV.partsB,J5] at h;rcases V6.1 hx with rfl|hx
  . exact h.1
  . exact fs h.2 x hx
theorem dr {v:JV} (h:v.mayB=true):v.partB=true:=by rw [JV.mayB_iff] at h;simp only [J5] at h;exact h.1.1
theorem Qb {k:Key2} (h:ok2 k=true):qX (id2 k)=true:=by have e:(id2 k).data.toList=yR (kE k.1.data.toList k.2.data.toList):=(by show (kY _ _)=_;unfold kY;rw [J3 (show zA k.1.data.toList k.2.data.toList=true from h)]);refine zZ ?_ (Z3 dl (by decide));rw [e];have:=rg (kE k.1.data.toList k.2.data.toList);unfold jp at this;exact fun c hc=>gR (X9.1 this c hc)
theorem tM {m:List Key2} (i:∀k ∈ m,ok2 k=true) (j:qd (ids m)=true) (l:m.length<=32):(xb m).mayB=true:=by
 rw [JV.mayB_iff];have g:∀m:List Key2,(∀k ∈ m,ok2 k=true)->JV.partsB (m.map obj2)=true:=fun m=>by
  induction m with
  | nil=>intro _;rfl
  | cons k r ih => intro h;rw [K8,JV.partsB,J5];exact ⟨dr (dm (h k (by simp))),ih fun x hx=>h x (V7 _ hx)⟩
 have d:∀m:List Key2,JV.counts (m.map obj2)=3 * m.length:=fun m=>by
  induction m with
  | nil=>rfl
  | cons k r ih => have:JV.count (obj2 k)=3:=rfl;rw [K8,JV.counts,ih,this,N0];omega
 have e:∀m:List Key2,JV.depths (m.map obj2)<=1:=fun m=>by
  induction m with
  | nil=>exact J0 _
  | cons k r ih => have:JV.depth (obj2 k)=1:=rfl;rw [K8,JV.depths,this];omega
 have b:(xb m).partB=true:=(by unfold xb;rw [JV.partB,g m i];have:qK 5 0 ⟨#[]⟩ (m.map id2) (m.map obj2).length=(decide ((0:Int)=0/\(⟨#[]⟩:ByteArray).toList=[]/\(m.map id2).length=(m.map obj2).length) && qd (m.map id2) && (m.map id2).all qX):=rfl;rw [this,show qd (m.map id2)=true from j,X4];have a:(m.map id2).all qX=true:=(by rw [X9];intro x hx;obtain ⟨k,f,rfl⟩:=H7.1 hx;exact Qb (i k f));rw [a];simp);have a:(xb m).count<=8192:=by unfold xb;rw [JV.count,d];omega
 have c:(xb m).depth<=12:=(by unfold xb;rw [JV.depth,Z6 (by simp)];have:=e m;omega);rw [b];simp [a,c]
theorem ft {k:Key2} (h:ok2 k=true):k.1.size<=300/\k.2.size<=300:=by obtain ⟨_,_,a,b⟩:=pe h;omega
open Go.Shelf Go.Sort
theorem Qp (t s:ByteArray) (w:World) (T:Nat) (b:t.size<=4294967000) (a:s.size<=4294967000) :
 Calls Tryz.prog 48 #[.slice (some ⟨w.heap.size,0,none⟩) 2 2] (w.alloc (.cells #[.string ⟨#[112,117,98,108,105,99]⟩,.int .u8 3,.int .i64 0,.string t,.slice none 0 0,.slice none 0 0,.string ⟨#[115,99,104,101,109,101]⟩,.int .u8 3,.int .i64 0,.string s,.slice none 0 0,.slice none 0 0] T))
  (gy [j4,kS] [txtJ t,txtJ s] (w.alloc (.cells #[.string ⟨#[112,117,98,108,105,99]⟩,.int .u8 3,.int .i64 0,.string t,.slice none 0 0,.slice none 0 0,.string ⟨#[115,99,104,101,109,101]⟩,.int .u8 3,.int .i64 0,.string s,.slice none 0 0,.slice none 0 0] T))):=by
 have:=mG #[xP j4 t,xP kS s] #[xP j4 t,xP kS s] [txtJ t,txtJ s] w.heap.size 0 2 (w.alloc (.cells #[.string ⟨#[112,117,98,108,105,99]⟩,.int .u8 3,.int .i64 0,.string t,.slice none 0 0,.slice none 0 0,.string ⟨#[115,99,104,101,109,101]⟩,.int .u8 3,.int .i64 0,.string s,.slice none 0 0,.slice none 0 0] T)) 0 0 ?_ (by simp) (by simp) ?_ rfl ?_ ?_ (by simp)
 . exact this
 . exact rv (T:=T) (by rw [Z5,tV];rfl)
 . refine l9 _ _ _ fun j hj=>?_;obtain rfl:j=0:=by simp at hj;omega
   show ltOf cfM (xP kS s) (xP j4 t)=false;show decide (Lib.compareBytes kS.data.toList j4.data.toList<0)=false;decide
 . intro i hi
   match i,hi with
   | 0,_=>exact ⟨jZ _ _ _ _,by simp [txtJ,JV.wt,JV.wts,qh];omega,fun k h=>by simp [txtJ,JV.items] at h⟩
   | 1,_=>exact ⟨jZ _ _ _ _,by simp [txtJ,JV.wt,JV.wts,qh];omega,fun k h=>by simp [txtJ,JV.items] at h⟩
 . intro i hi;obtain rfl:i=0:=by simp at hi;omega
   show j4≠kS;decide
def rh (s t:ByteArray) (w:World) (e:Ending) (w':World):Prop :=
 ∃an cn ai ci,e=.returned (.tuple #[.agg #[.int .u8 5,.int .i64 0,.string ⟨#[]⟩,.slice an 2 cn,.slice ai 2 ci],.int .i64 0]) /\
  Rep w' w.heap.size w'.heap.size (yN s t) (.agg #[.int .u8 5,.int .i64 0,.string ⟨#[]⟩,.slice an 2 cn,.slice ai 2 ci])/\O5 w w'
theorem da (s t:ByteArray) (w:World) (z:s.size<=4294967000) (A:t.size<=4294967000) (y:zA s.data.toList t.data.toList=false) :
 Calls Tryz.prog 125 #[.agg #[.string s,.string t]] w fun e w'=>e=.returned (.tuple #[zeroAgg,.int .i64 3])/\O5 w w':=by
 have i:=U (lS s t ((w.alloc (.cells #[.string s,.string t] 156)).alloc (.cells #[.int .u8 0,.int .i64 0,.string ⟨#[]⟩,.slice none 0 0,.slice none 0 0] 26)) (by omega) (by omega));rw [y] at i;have c:=qg (w.alloc (.cells #[.string s,.string t] 156)) (.int .u8 0) (.int .i64 0) (.string ⟨#[]⟩) (.slice none 0 0) (.slice none 0 0) 26;rw [show (w.alloc (.cells #[.string s,.string t] 156)).heap.size=w.heap.size+1 by simp] at c;have g:=U c;have d:=O0 (O5 w ((w.alloc (.cells #[.string s,.string t] 156)).alloc (.cells #[.int .u8 0,.int .i64 0,.string ⟨#[]⟩,.slice none 0 0,.slice none 0 0] 26))) ((O4).alloc (by simp) _);clear y c;go_enter Tryz.func125,Tryz.ntmps125;go_wp2_with fail;refine i.o.mono ?_;rintro e x ⟨rfl,b⟩;have a:=qj b g.o (by simp);have h:=U a;have f:=U (d.o.trans (b.mono (by simp;omega)));obtain ⟨j,k,l,m,o⟩:=rc5 a;obtain ⟨p,q,r,u,v⟩:=rf5 a;simp only [qo] at j k l m o;clear a b;go_wp2;exact Z8 (qk Tryz.results125 _ _ (w.heap.size+1) 26 _ (0,0) _ rfl (qr (set5 _ _ _ _ _ h.o)) J7 rfl (by kernel_rfl) _ rfl) rfl ⟨rfl,zf _ _ _ _ _ f.o (by omega)⟩
theorem gh (s t:ByteArray) (w:World) (hs:s.size<=4294967000) (ht:t.size<=4294967000) (hk:zA s.data.toList t.data.toList=true) :
 Calls Tryz.prog 125 #[.agg #[.string s,.string t]] w (rh s t w):=by
 have I:=U (lS s t ((w.alloc (.cells #[.string s,.string t] 156)).alloc (.cells #[.int .u8 0,.int .i64 0,.string ⟨#[]⟩,.slice none 0 0,.slice none 0 0] 26)) (by omega) (by omega));rw [hk] at I;have i:=qg (w.alloc (.cells #[.string s,.string t] 156)) (.int .u8 0) (.int .i64 0) (.string ⟨#[]⟩) (.slice none 0 0) (.slice none 0 0) 26;rw [show (w.alloc (.cells #[.string s,.string t] 156)).heap.size=w.heap.size+1 by simp] at i;have r:=U i;have q:=O0 (O5 w ((w.alloc (.cells #[.string s,.string t] 156)).alloc (.cells #[.int .u8 0,.int .i64 0,.string ⟨#[]⟩,.slice none 0 0,.slice none 0 0] 26))) ((O4).alloc (by simp) _);have x:=U (show ((w.alloc (.cells #[.string s,.string t] 156)).alloc (.cells #[.int .u8 0,.int .i64 0,.string ⟨#[]⟩,.slice none 0 0,.slice none 0 0] 26)).heap[w.heap.size]?=some (.cells #[.string s,.string t] 156 (0,0)) by rw [X6 _ _ _ (by simp)];exact Z5 w _);clear hk i;go_enter Tryz.func125,Tryz.ntmps125;go_wp2_with fail;refine I.o.mono ?_;clear I;rintro e b ⟨rfl,d⟩;have K:=U (qj d r.o (by simp));have Q:w.heap.size+2<=b.heap.size:=by have:=d.size;simp at this;omega
 have B:b.heap[w.heap.size]?=some (.cells #[.string s,.string t] 156 (0,0)):=by rw [d.block _ (by simp;omega)];exact x.o
 have y:=U B;have F:=U (q.o.trans (d.mono (by simp;omega)));clear d B x q r;have H:=U (show ∀w':World,O5 b w'->w'.cell? ⟨w.heap.size,0,none⟩=some (.string s)/\w'.cell? ⟨w.heap.size,1,none⟩=some (.string t)/\w.heap.size<w'.heap.size from fun w' h=>by
  have:=h.size;exact ⟨by rw [h.cell (by show w.heap.size<_;omega)];simp [World.cell?,y.o],by rw [h.cell (by show w.heap.size<_;omega)];simp [World.cell?,y.o],by omega⟩)
 have N:=U (show ∀(u:ByteArray) (w':World),O5 b w'->Calls Tryz.prog 55 #[.string u] w' (fun e a=>e=.returned (.agg #[.int .u8 3,.int .i64 0,.string u,.slice none 0 0,.slice none 0 0])/\O5 b a/\a.cell? ⟨w.heap.size,0,none⟩=some (.string s)/\a.cell? ⟨w.heap.size,1,none⟩=some (.string t)/\w.heap.size<a.heap.size) from fun u w' h=>by
  refine (kZ u w').mono ?_;rintro e a ⟨rfl,rfl⟩;have C:O5 b (w'.alloc (.cells #[.int .u8 3,.int .i64 0,.string u,.slice none 0 0,.slice none 0 0] 26)):=h.alloc h.size _;exact ⟨rfl,C,H.o _ C⟩)
 have M:=U (show ∀(w':World),O5 b w'->Calls Tryz.prog 48 #[.slice (some ⟨w'.heap.size,0,none⟩) 2 2] (w'.alloc (.cells #[.string ⟨#[112,117,98,108,105,99]⟩,.int .u8 3,.int .i64 0,.string t,.slice none 0 0,.slice none 0 0,.string ⟨#[115,99,104,101,109,101]⟩,.int .u8 3,.int .i64 0,.string s,.slice none 0 0,.slice none 0 0] 102)) (fun e a=>∃m p l o,e=.returned (.tuple #[.agg #[.int .u8 5,.int .i64 0,.string ⟨#[]⟩,.slice m 2 p,.slice l 2 o],.int .i64 0])/\Rep a b.heap.size a.heap.size (yN s t) (.agg #[.int .u8 5,.int .i64 0,.string ⟨#[]⟩,.slice m 2 p,.slice l 2 o])/\O5 b a/\a.cell? ⟨w.heap.size,0,none⟩=some (.string s)/\a.cell? ⟨w.heap.size,1,none⟩=some (.string t)/\a.rowIs (w.heap.size+1) 26 5 (qo (.int .u8 0) (.int .i64 0) (.string ⟨#[]⟩) (.slice none 0 0) (.slice none 0 0))) from fun w' h=>by
  refine (Qp t s w' _ ht hs).mono ?_;rintro e a ⟨m,p,l,o,rfl,P,C⟩;have f:O5 b a:=(h.alloc h.size _).trans (C.mono (by have:=h.size;simp;omega));have L:=H.o _ f;exact ⟨m,p,l,o,rfl,Rep.carry (by have:=h.size;simp;omega) lz (fun _ _ _=>rfl) _ _ P,f,L.1,L.2.1,qj f K.o (by omega)⟩)
 have g:O5 b b.drew:=(Z0 _ _).drew;obtain ⟨D,E,k⟩:=H.o b (Z0 _ _);go_wp2_with fail
 go_region_held3 (fun w'=>w'.cell? ⟨w.heap.size,0,none⟩=some (.string s)/\w'.cell? ⟨w.heap.size,1,none⟩=some (.string t)) (first|(with_reducible exact ⟨D,E⟩)|(with_reducible exact ⟨(ql _ k).trans D,(ql _ k).trans E⟩)|(go_keep;done)) (first|(go_at_call 55;(with_reducible refine (N.o _ _ g).mono ?_);rintro e w2 ⟨rfl,g,D,E,k⟩)|(go_at_call 48;(with_reducible refine (M.o _ g).mono ?_);rintro e X ⟨m,p,l,o,rfl,A,z,D,E,c⟩;obtain ⟨R,S,T,V,W⟩:=rc5 c;obtain ⟨Y,Z,s2,s3,s4⟩:=rf5 c;have v:=U c;have J:=U A;have G:=U z;clear c A z;simp only [qo] at R S T V W))
 go_wp2;refine Z8 (qk Tryz.results125 _ _ (w.heap.size+1) 26 _ (0,0) _ rfl (qr (set5 _ _ _ _ _ v.o)) J7 rfl (by kernel_rfl) _ rfl) rfl ⟨m,p,l,o,rfl,?_,zf _ _ _ _ _ (F.o.trans (G.o.mono (by omega))) (by omega)⟩;exact Rep.carry (by omega) (show X.heap.size<=_ by simp [World.setCell]) (fun j hj _=>xJ _ _ _ _ _ (by omega)) _ _ J.o
theorem fi (l:List UInt8) (h:∀c ∈ l,jq c):gw l=l:=by
 induction l with
 | nil=>rfl
 | cons c r ih =>
  have a:=h c (by simp);have e:gw (c :: r)=fq c ++ gw r:=by simp [gw]
  rw [e,ih fun d hd=>h d (by simp [hd])];unfold fq jq at *;rw [Z6 (by omega)];rfl
theorem sC {s t:ByteArray} (h:zA s.data.toList t.data.toList=true):(yN s t).form false:=by
 obtain ⟨a,b,_,_⟩:=pe h;obtain ⟨c,d,f⟩:=dh;have e:∀i (hi:i < [j4,kS].length),qX [j4,kS][i]=true:=fun i hi=>by
  match i,hi with
  | 0,_=>exact c
  | 1,_=>exact d
 unfold yN JV.form;refine ⟨.inr (.inr (.inr (.inr ⟨rfl,rfl,e⟩))),?_⟩;unfold JV.forms JV.forms JV.forms;unfold txtJ JV.form;exact ⟨⟨.inr (.inr (.inl ⟨rfl,b⟩)),by unfold JV.forms;trivial⟩,⟨.inr (.inr (.inl ⟨rfl,a⟩)),by unfold JV.forms;trivial⟩,trivial⟩
theorem tC {s t:ByteArray} (h:zA s.data.toList t.data.toList=true):(yN s t).enc=kE s.data.toList t.data.toList:=by
 obtain ⟨e,f⟩:=uP h;have a:=fi _ (yD e).1;have b:=fi _ (uQ f).1;have c:xZ j4.data.toList=[34,112,117,98,108,105,99,34]:=by decide
 have d:xZ kS.data.toList=[34,115,99,104,101,109,101,34]:=by decide
 unfold yN txtJ;simp [JV.enc,JV.encO,sep,c,d,kE,tH,tU];simp [xZ,a,b]
structure AuthV where
 thr:Int
 ids:List ByteArray
deriving DecidableEq
def dt:AuthV:=⟨0,[]⟩
def jJ (a:AuthV):Bool:=kJ a.thr a.ids
def qt:ByteArray:=⟨#[107,101,121,105,100,115]⟩
def zK:ByteArray:=⟨#[116,104,114,101,115,104,111,108,100]⟩
def xV (l:List JV):JV:=.mk 4 0 ⟨#[]⟩ [] l
def qe (l:List ByteArray):JV:=xV (l.map txtJ)
def qv (v:JV) (y:ByteArray) (most:Nat) (st:PS):List ByteArray × PS :=
 if st.err≠0 then ([],st) else match v.look y with
 | none=>([],⟨st.asked,6⟩)
 | some it=>if it.kind≠4 then ([],⟨st.asked,10⟩) else if most<it.items.length then ([],⟨st.asked,5⟩) else if it.items.all (fun x=>decide (x.kind=3)) then (it.items.map JV.t,⟨y :: st.asked,0⟩) else ([],⟨st.asked,10⟩)
def wh (v:JV) (st:PS):PS:=(if (qv v qt 16 st).1=[] then (qv v qt 16 st).2.fail 4 else (qv v qt 16 st).2).fail (xk [] (qv v qt 16 st).1)
def yZ (v:JV) (st:PS):Int × PS:=qG v zK 1 ((qv v qt 16 st).1.length:Int) (wh v st)
def wu (v:JV) (st:PS):AuthV × PS:=(if (yZ v st).2.err≠0 then dt else ⟨(yZ v st).1,(qv v qt 16 st).1⟩,(yZ v st).2)
theorem fo {l:List JV} (h:∀x ∈ l,x.partB=true):(xV l).partB=true:=by
 rw [JV.partB_eq];show (qK 4 0 ⟨#[]⟩ [] l.length && JV.partsB l)=true;rw [gE l h];unfold qK;rw [Z6 (by decide),Z6 (by decide),Z6 (by decide),J3 rfl];have a:(⟨#[]⟩:ByteArray).toList=[]:=by rw [X4]
 simp [a]
theorem jK {a:AuthV} (h:jJ a=true):(1<=a.ids.length/\a.ids.length<=16)/\(1<=a.thr/\a.thr<=a.ids.length)/\xk [] a.ids=0:=by unfold jJ kJ at h;simp only [J5,J1] at h;exact ⟨⟨h.1.1,h.1.2.1⟩,h.1.2.2,h.2⟩
theorem kG:∀(l seen:List ByteArray),xk seen l=0->∀x ∈ l,bH x=true
 | [],_,_,x,hx=>by simp at hx
 | y :: r,seen,h,x,hx=>by
  unfold xk at h;split at h
  . rename_i h1;split at h
    . cases h
    . rcases V6.1 hx with e|e
      . rw [e];exact h1
      . exact kG r _ h x e
  . cases h
theorem yw {x:ByteArray} (h:bH x=true):qX x=true/\x.size=64:=by unfold bH at h;simp only [J5,J1] at h;refine ⟨zZ ?_ (by omega),h.1⟩;intro c hc;have a:=X9.1 (by unfold jp at h;exact h.2) c hc;unfold jv at a;unfold jq;simp at a ⊢;omega
def yX:ByteArray:=⟨#[114,111,111,116]⟩
structure Auth3 where
 a:AuthV
 b:AuthV
 c:AuthV
deriving DecidableEq
structure RootV where
 ver:Int
 exp:Int
 keys:List Key2
 au:Auth3
deriving DecidableEq
def zd:ByteArray:=⟨#[107,101,121,115]⟩
def kB:ByteArray:=⟨#[114,111,108,101,115]⟩
def zn (l:List Key2):Bool:=decide (l.length<=32) && l.all ok2 && qd (ids l)
theorem ru:qd [jz,kV,zd,kB,kK]=true/\(qX jz=true/\qX kV=true/\qX zd=true/\qX kB=true/\qX kK=true)/\(jz≠kV/\jz≠zd/\jz≠kB/\jz≠kK/\kV≠zd/\kV≠kB/\kV≠kK/\zd≠kB/\zd≠kK/\kB≠kK):=by
 refine ⟨by kernel_rfl,⟨?_,?_,?_,?_,?_⟩,by decide⟩
 all_goals
  refine zZ ?_ (by decide);intro c hc;unfold jq
  revert c
  decide
theorem zP {l:List Key2}:zn l=true↔l.length<=32/\(∀k ∈ l,ok2 k=true)/\qd (ids l)=true:=by unfold zn;simp only [J5,J1,X9];exact ⟨fun h=>⟨h.1.1,h.1.2,h.2⟩,fun h=>⟨⟨h.1,h.2.1⟩,h.2.2⟩⟩
theorem oL {l:List Key2} (h:zn l=true):(xb l).partB=true/\(xb l).count<=130/\(xb l).depth<=3:=by
 obtain ⟨a,b,c⟩:=zP.1 h;refine ⟨dr (tM b c a),?_,?_⟩
 . rw [JV.count_eq];have:=counts_le 3 (l.map obj2) fun x hx=>by obtain ⟨k,_,rfl⟩:=H7.1 hx;exact J2 3
   rw [X7] at this;show 1+JV.counts (l.map obj2)<=_;omega
 . rw [JV.depth_eq];have:=kW 1 (l.map obj2) fun x hx=>by obtain ⟨k,_,rfl⟩:=H7.1 hx;exact J2 1
   rw [Z6 (by simp [xb,JV.kind])];show JV.depths (l.map obj2)+1<=_;omega
theorem oR {N:List NJ} (g:qd (N.map (·.1))=true) (f:N.length<=6) (e:∀p ∈ N,qX p.1=true/\p.2.partB=true/\p.2.count<=130/\p.2.depth<=3):(qN N).mayB=true:=by have a:=yv ⟨g,fun p h=>⟨(e p h).1,(e p h).2.1⟩⟩;have b:=fk 130 fun p h=>(e p h).2.2.1;have c:=vR 3 fun p h=>(e p h).2.2.2;have d:N.length * 130<=6 * 130:=Nat.mul_le_mul_right _ f;rw [JV.mayB_iff,a,X3 (by omega),X3 (by omega)];rfl
