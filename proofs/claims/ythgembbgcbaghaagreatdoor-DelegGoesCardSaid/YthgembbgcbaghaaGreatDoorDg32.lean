import Derived.Shelf.SlSortCmp.WholeK
import Derived.Test.YthgembbgcbaghaaGreatDoorDg24
import Derived.Test.YthgembbgcbaghaaGreatDoorDg31
set_option maxHeartbeats 4000000
set_option maxRecDepth 100000

namespace Go.Proofs.YthgembbgcbaghaaGreatDoor
open Go.RowKit Go.Sort
def Q8 (w:World) (e:Ending) (w':World):Prop :=
 e=.returned (.tuple #[.agg #[.string ⟨#[]⟩,.int .u8 0,.int .i64 0,.string ⟨#[]⟩,.slice none 0 0,.slice none 0 0],.int .i64 3])/\O5 w w'
def nC (s t:ByteArray) (w:World) (e:Ending) (w':World):Prop :=
 ∃an cn ai ci,e=.returned (.tuple #[.agg #[.string (aM s t),.int .u8 5,.int .i64 0,.string ⟨#[]⟩,.slice an 2 cn,.slice ai 2 ci],.int .i64 0]) /\
  Rep w' w.heap.size w'.heap.size (jt s t) (.agg #[.int .u8 5,.int .i64 0,.string ⟨#[]⟩,.slice an 2 cn,.slice ai 2 ci])/\O5 w w'
theorem nD (s t:ByteArray) (w:World) (E:s.size<=4294967) (F:t.size<=4294967) (C:Tabs w) (D:zd s.data.toList t.data.toList=false) :
 Calls Tryz.prog 87 #[.agg #[.string s,.string t]] w (Q8 w):=by
 have k:O5 w ((w.alloc (.cells #[.string s,.string t] 43)).alloc (.cells #[.string ⟨#[]⟩,.int .u8 0,.int .i64 0,.string ⟨#[]⟩,.slice none 0 0,.slice none 0 0] 120)):=(O4).alloc (by simp) _;have g:=U (sC s t ((w.alloc (.cells #[.string s,.string t] 43)).alloc (.cells #[.string ⟨#[]⟩,.int .u8 0,.int .i64 0,.string ⟨#[]⟩,.slice none 0 0,.slice none 0 0] 120)) E F (C.below k));unfold xX jB at g;rw [D] at g;have c:=xH (w.alloc (.cells #[.string s,.string t] 43)) (.string ⟨#[]⟩) (.int .u8 0) (.int .i64 0) (.string ⟨#[]⟩) (.slice none 0 0) (.slice none 0 0) 120;rw [show (w.alloc (.cells #[.string s,.string t] 43)).heap.size=w.heap.size+1 by simp] at c;have h:=U c;have d:=U k;clear D c k C;go_enter Tryz.func87,Tryz.ntmps87;go_wp2_with fail;refine g.o.mono ?_;rintro e B ⟨rfl,b⟩;have a:=qj b h.o (by simp);have j:=U a;have f:=U (d.o.trans (b.mono (by simp;omega)));obtain ⟨l,m,o,p,q⟩:=rc5 a;have r:=a.cell (i:=5) (by decide);obtain ⟨u,v,x,y,z⟩:=rf5 a;have A:=a.frozen 5;simp only [qX] at l m o p q r;clear a b;go_wp2;exact X4 (qk Tryz.results87 _ _ (w.heap.size+1) 120 _ (0,0) _ rfl (zX (yO _ _ _ _ _ _ j.o)) Tryz.underlying120 rfl (by kernel_rfl) _ rfl) rfl ⟨rfl,je _ _ _ _ _ _ f.o (by omega)⟩
theorem lY (s t:ByteArray) (w:World) (hs:s.size<=4294967) (ht:t.size<=4294967) (hT:Tabs w) (hk:zd s.data.toList t.data.toList=true) :
 Calls Tryz.prog 87 #[.agg #[.string s,.string t]] w (nC s t w):=by
 have E:O5 w ((w.alloc (.cells #[.string s,.string t] 43)).alloc (.cells #[.string ⟨#[]⟩,.int .u8 0,.int .i64 0,.string ⟨#[]⟩,.slice none 0 0,.slice none 0 0] 120)):=(O4).alloc (by simp) _;have m:=U (sC s t ((w.alloc (.cells #[.string s,.string t] 43)).alloc (.cells #[.string ⟨#[]⟩,.int .u8 0,.int .i64 0,.string ⟨#[]⟩,.slice none 0 0,.slice none 0 0] 120)) hs ht (hT.below E));have p:=U (show ((w.alloc (.cells #[.string s,.string t] 43)).alloc (.cells #[.string ⟨#[]⟩,.int .u8 0,.int .i64 0,.string ⟨#[]⟩,.slice none 0 0,.slice none 0 0] 120)).heap[w.heap.size]?=some (.cells #[.string s,.string t] 43 (0,0)) by rw [Y4 _ _ _ (by simp)];exact J2 w _);unfold xX at m;rw [hk,J8 rfl] at m;unfold nC aM;generalize (⟨(jB s.data.toList t.data.toList).toArray⟩:ByteArray)=ID at m ⊢;have G:=U hk;have f:=xH (w.alloc (.cells #[.string s,.string t] 43)) (.string ⟨#[]⟩) (.int .u8 0) (.int .i64 0) (.string ⟨#[]⟩) (.slice none 0 0) (.slice none 0 0) 120;rw [show (w.alloc (.cells #[.string s,.string t] 43)).heap.size=w.heap.size+1 by simp] at f;have o:=U f;have l:=U E;clear hk f E hT;go_enter Tryz.func87,Tryz.ntmps87;go_wp2_with fail;refine m.o.mono ?_;clear m;rintro e k ⟨rfl,d⟩;have D:=U (qj d o.o (by simp));have g:k.heap[w.heap.size]?=some (.cells #[.string s,.string t] 43 (0,0)):=by rw [d.block _ (by simp;omega)];exact p.o
 have J:w.heap.size+2<=k.heap.size:=by have:=d.size;simp at this;omega
 have z:=U (l.o.trans (d.mono (by simp;omega)));have H:=qq g (j:=0) rfl;have I:=qq g (j:=1) rfl;have F:=U (gd s t k (by omega) (by omega) G.o);clear d p o l g;go_wp2_with fail;refine F.o.mono ?_;clear F;rintro e y ⟨u,x,r,v,rfl,q,c⟩;have B:=U (q.carry (w':=y.alloc (.cells #[.int .u8 5,.int .i64 0,.string ⟨#[]⟩,.slice u 2 x,.slice r 2 v] 25)) lz lz (fun b _ h=>Y4 _ _ _ h));have a:=qj (c.alloc c.size (.cells #[.int .u8 5,.int .i64 0,.string ⟨#[]⟩,.slice u 2 x,.slice r 2 v] 25)) D.o (by omega);have A:=U (z.o.trans ((c.alloc c.size (.cells #[.int .u8 5,.int .i64 0,.string ⟨#[]⟩,.slice u 2 x,.slice r 2 v] 25)).mono (by omega)));have K:k.heap.size<=y.heap.size:=c.size;have L:¬(w.heap.size+1=y.heap.size):=by omega
 have C:=U a;obtain ⟨M,N,P,Q,R⟩:=rc5 a;have S:=a.cell (i:=5) (by decide);obtain ⟨T,V,W,X,Y⟩:=rf5 a;have Z:=a.frozen 5;simp only [qX] at M N P Q R S;clear a c q H I;go_wp2;refine X4 (qk Tryz.results87 _ _ (w.heap.size+1) 120 _ (0,0) _ rfl (zX (yO _ _ _ _ _ _ C.o)) Tryz.underlying120 rfl (by kernel_rfl) _ rfl) rfl ⟨u,x,r,v,rfl,?_,je _ _ _ _ _ _ A.o (by omega)⟩;exact Rep.carry (by omega) (show y.heap.size<=_ by simp [World.setCell]) (fun j hj _=>pR _ _ _ _ _ _ (by omega)) _ _ B.o
theorem eh (x y:Mem) (W:World):Calls Tryz.prog 89 #[.agg (qW x).toArray,.agg (qW y).toArray] W fun e w'=>e=.returned (.int .i64 (cfM x y))/\∃q os',w'=grow (W.drewN q) os':=by have a:=fun W'=>Tryz.strings_Compare x.name y.name W';unfold cfM qW;generalize Lib.compareBytes x.name.data.toList y.name.data.toList=r at a ⊢;go_enter Tryz.func89,Tryz.ntmps89;go_wp2_with (go_at_call 155;refine (a _).mono ?_;rintro e w' ⟨rfl,rfl⟩);go_ret;exact ⟨rfl,0,_,by rw [alloc_eq_grow,alloc_eq_grow,grow_grow];rfl⟩
open Go.Shelf
theorem lG:∀a b:List UInt8,decide (Lib.compareBytes a b<0)=Op.bytesLess a b
 | [],[]=>rfl
 | [],_ :: _=>rfl
 | _ :: _,[]=>rfl
 | a :: ax,b :: bx=>by
  unfold Lib.compareBytes Op.bytesLess;by_cases h1:a<b
  . simp [h1]
  . by_cases h2:b<a
    . have:¬a=b:=fun e=>by subst e;exact h1 h2
      simp [h1,h2,this]
    . have e:a=b:=UInt8.le_antisymm (UInt8.not_lt.1 h2) (UInt8.not_lt.1 h1);subst e;rw [J3 h1,J3 h1,lG ax bx];simp
theorem pg (x y:Mem):ltOf cfM x y=bl x.name y.name:=by unfold ltOf cfM bl;rw [lG,Y3,Y3]
theorem tt {a b c:ByteArray} (h:bl a b=false) (d:bl b c=false):bl a c=false:=by
 cases h2:bl a c
 . rfl
 . cases h3:bl b a
   . rw [ce h h3,d] at h2;cases h2
   . rw [jj h3 h2] at d;cases d
theorem XQ:SWO (ltOf cfM) where
 irrefl x:=by rw [pg];exact zK _
 trans x y z:=by rw [pg,pg,pg];exact jj
 ntrans x y z:=by rw [pg,pg,pg];exact tt
def ti (d d':Array Mem):Prop:=d'.size=d.size/\d'.toList.Perm d.toList/\∀i j,i<j->j<d.size->bl d'[j]!.name d'[i]!.name=false
def eu (blk off:Nat) (d:Array Mem) (w:World) (e:Ending) (w':World):Prop :=
 e=.returned (.tuple #[])/\∃d',ti d d'/\HoldsK qW 6 w' blk off d'/\Touch (· = blk) w w'
theorem QF (m o cap:Nat) (d:Array Mem) (w:World) (q:HoldsK qW 6 w m o d) (p:m<w.heap.size) (r:d.size<=4294967296) :
 Calls Tryz.prog 88 #[.slice (some ⟨m,o,none⟩) d.size cap,.func (.func 89) #[] #[]] w (eu m o d w):=by
 have h:∀args w,(callFunc 89 args).run Tryz.prog w=.ok (.enter 89 args) w:=enters_of Tryz.func89 (by kernel_rfl) rfl;have a:=AnyQ.slices_SortFunc ap 6 Tryz.isAgg120 Tryz.sizeOf120 qW zD jK cfM XQ 89 #[] m o cap d w h (fun _ _ _ _ x y=>eh x y _) q p (by omega);refine a.mono ?_;rintro e w' ⟨rfl,c,n,l,b,k,rfl⟩;refine ⟨rfl,c,⟨b.1,?_,fun i j hij hj=>?_⟩,holdsK_grow qW 6 _ _ _ _ _ (by simp [putRowK,Go.Sort.ahead];exact p) (holdsK_putRowK qW 6 _ _ _ d _ (holdsK_ahead qW 6 _ _ _ _ _ q) b.1),ky⟩
 . have:=b.2.2;have f:c.extract 0 d.size=c:=by rw [<- b.1];simp
   have g:d.extract 0 d.size=d:=by simp
   rwa [f,g] at this
 . have:=k i j (X7 _) hij hj;rwa [pg] at this
def jA (seen:List ByteArray):List Key2->Int
 | []=>0
 | k :: r=>if ok2 k then (if jl seen (id2 k) then 7 else jA (seen ++ [id2 k]) r) else 3
def yb (l:List Key2):Int:=if 32<l.length then 5 else jA [] l
theorem pf (l:List Key2) (k:Nat) (h:k<l.length):jA (ids (l.take k)) (l.drop k)=if ok2 l[k] then (if jl (ids (l.take k)) (id2 l[k]) then 7 else jA (ids (l.take (k+1))) (l.drop (k+1))) else 3:=by
 rw [G3 h,jA];have:ids (l.take k) ++ [id2 l[k]]=ids (l.take (k+1)):=by unfold ids;rw [J7 h,M1];rfl
 rw [this]
theorem wD:∀(l:List Key2) (f:List ByteArray),jA f l=0↔(∀k ∈ l,ok2 k=true)/\(∀k ∈ l,id2 k ∉ f)/\(ids l).Nodup
 | [],f=>by simp [jA,ids]
 | k :: r,f=>by
  unfold jA;have ih:=wD r (f ++ [id2 k]);by_cases h1:ok2 k=true
  . rw [J8 h1];by_cases h2:jl f (id2 k)=true
    . rw [J8 h2];have:=(jD _ _).1 h2;constructor
      . intro h;cases h
      . rintro ⟨_,h,_⟩;exact absurd this (h k (M3 ..))
    . rw [J3 h2,ih];have h3:id2 k ∉ f:=fun h=>h2 ((jD _ _).2 h);unfold ids;rw [N6,List.nodup_cons];constructor
      . rintro ⟨a,b,c⟩;refine ⟨fun x hx=>?_,fun x hx=>?_,fun hm=>?_,c⟩
        . rcases H0.1 hx with rfl|hx
          . exact h1
          . exact a x hx
        . rcases H0.1 hx with rfl|hx
          . exact h3
          . exact fun h=>b x hx (List.mem_append_left _ h)
        . obtain ⟨x,hx,e⟩:=za8.1 hm;exact b x hx (by rw [e];simp)
      . rintro ⟨a,b,c,d⟩;refine ⟨fun x hx=>a x (G4 _ hx),fun x hx hm=>?_,d⟩;rcases za5.1 hm with hm|hm
        . exact b x (G4 _ hx) hm
        . simp at hm;exact c (za8.2 ⟨x,hx,hm⟩)
  . rw [J3 h1];constructor
    . intro h;cases h
    . rintro ⟨h,_⟩;exact absurd (h k (M3 ..)) h1
theorem lB {α β:Type} (f:α->β) {m o:List β} (h:m.Perm o):∀zs:List α,zs.map f=o->∃zs':List α,zs'.Perm zs/\zs'.map f=m:=by
 induction h with
 | nil=>intro zs h;exact ⟨[],by rw [List.map_eq_nil_iff.1 h],rfl⟩
 | cons x _ ih =>
  intro zs h
  match zs,h with
  | z :: zr,h => simp only [N6,G5] at h;obtain ⟨zs',g,e⟩:=ih zr h.2;exact ⟨z :: zs',g.cons z,by simp [e,h.1]⟩
 | swap x y r =>
  intro zs h
  match zs,h with
  | [_],h=>simp at h
  | a :: b :: zr,h => simp only [N6,G5] at h;exact ⟨b :: a :: zr,List.Perm.swap _ _ _,by simp [h.1,h.2.1,h.2.2]⟩
 | trans _ _ ih1 ih2 => intro zs h;obtain ⟨k,i,c⟩:=ih2 zs h;obtain ⟨l,j,d⟩:=ih1 k c;exact ⟨l,j.trans i,d⟩
theorem mG {l:List ByteArray} (h:∀i j (hi:i<l.length) (hj:j<l.length),i<j->bl l[i] l[j]=true):qo l=true:=by
 match l with
 | []=>rfl
 | [_]=>rfl
 | a :: b :: r => unfold qo;rw [X3];refine ⟨h 0 1 (by simp) (by simp) (by omega),mG fun i j hi hj hij=>?_⟩;have:=h (i+1) (j+1) (by simpa using hi) (by simpa using hj) (by omega);simpa using this
theorem cD {d e:List Key2} (k:d.Perm e) (f:qo (ids d)=true) (g:qo (ids e)=true):d=e:=by
 have c:∀m:List Key2,qo (ids m)=true->m.Pairwise (fun a b=>bl (id2 a) (id2 b)=true):=fun m h=>by rw [M8];intro i j hi hj hij;have:=jJ h i j (by simpa [ids] using hi) (by simpa [ids] using hj) hij;simpa [ids] using this
 refine k.eq_of_pairwise (le:=fun a b=>bl (id2 a) (id2 b)=true) (fun a b _ _ x y=>?_) (c d f) (c e g);rw [dV x] at y;cases y
def xL (w:World) (base:Nat) (X:Nat->Prop) (zs:List (Mem × Key2)):Prop :=
 ∀z ∈ zs,z.1.name=id2 z.2/\∃lo hi,base<=lo/\hi<=w.heap.size/\(∀b,X b->¬(lo<=b/\b<hi))/\Rep w lo hi (obj2 z.2) z.1.val
theorem xL.nil (w:World) (a:Nat) (X:Nat->Prop):xL w a X []:=fun z h=>by simp at h
theorem xL.carry {w w':World} {i:Nat} {X X':Nat->Prop} {j:List (Mem × Key2)} (h:xL w i X j) (m:w.heap.size<=w'.heap.size)
 (l:∀b,b<w.heap.size->¬X b->i<=b->w'.heap[b]?=w.heap[b]?) (k:∀b,X' b->X b\/w.heap.size<=b\/b<i):xL w' i X' j:=by
 intro z hz;obtain ⟨d,f,hi,c,g,a,e⟩:=h z hz;refine ⟨d,f,hi,c,by omega,fun b hx hb=>?_,Rep.carry lz lz (fun b hb1 hb2=>l b (by omega) (fun hx=>a b hx ⟨hb1,hb2⟩) (by omega)) _ _ e⟩;rcases k b hx with hx|hx|hx
 . exact a b hx hb
 . omega
 . omega
theorem xL.snoc {w:World} {a:Nat} {X:Nat->Prop} {c:List (Mem × Key2)} (h:xL w a X c) (x:Mem) (k:Key2) (lo hi:Nat) (g:x.name=id2 k) (d:a<=lo) (e:hi<=w.heap.size) (f:∀b,X b->¬(lo<=b/\b<hi)) (i:Rep w lo hi (obj2 k) x.val) :
 xL w a X (c ++ [(x,k)]):=by
 intro z hz;rcases za5.1 hz with hz|hz
 . exact h z hz
 . simp at hz;subst hz;exact ⟨g,lo,hi,d,e,f,i⟩
theorem xL.perm {w:World} {a:Nat} {X:Nat->Prop} {c b:List (Mem × Key2)} (h:xL w a X c) (d:b.Perm c):xL w a X b:=fun z hz=>h z (d.subset hz)
theorem flat_get {ms:List Mem} (i c:Nat) (hi:i<ms.length) (a:c<6):(ms.flatMap qW)[i * 6+c]?=some ((qW ms[i])[c]!):=by
 induction ms generalizing i with
 | nil=>simp at hi
 | cons m r ih =>
  rw [List.flatMap_cons];rcases i with _|i
  . rw [H9 (by rw [zD];omega)];rw [Nat.zero_mul,ze8];have:c<(qW m).length:=by rw [zD];exact a
    rw [V3 this];show some _=some ((qW m)[c]!);rw [getElem!_pos (qW m) c this]
  . rw [G1 (by rw [zD];omega),zD,show (i+1) * 6+c - 6=i * 6+c by omega];exact ih i (by simpa using hi)
theorem nL {w:World} {k e g cap n:Nat} {ms:List Mem} (h:w.ownsRow k e 6 (.slice (some ⟨g,0,none⟩) n cap) n (ms.flatMap qW)):HoldsK qW 6 w g 0 ms.toArray:=by
 intro j hj;have a:j<ms.length * 6:=by simpa using hj
 rcases h.2 with ⟨hx,_⟩|⟨g',cap',cur,hx,hg,hh,_⟩
 . cases hx
 . simp only [K6,H6,Addr.mk.injEq,zb6] at hx;obtain ⟨rfl,_⟩:=hx;refine ⟨?_,by simp [World.frozen?,hh]⟩;have d:j / 6<ms.length:=by omega
   have i:j % 6<6:=Nat.mod_lt _ (by decide);have c:=flat_get (ms:=ms) (j / 6) (j % 6) d i;rw [show j / 6 * 6+j % 6=j by omega] at c;have b:=h.cells (g:=g) rfl j _ c;have f:(⟨g,0,none⟩:Addr).add j=⟨g,j,none⟩:=by unfold Addr.add;split <;> simp_all
   rw [f] at b;rw [ze8,b,get_flatK _ _ _ _ (by simpa using a)];congr 2;simp [d]
theorem Ze (W:World):Calls Tryz.prog 209 #[.slice none 0 0,.int .i64 0,.int .i64 0,.func (.func 89) #[] #[]] W fun e w'=>e=.returned (.tuple #[])/\w'=W:=by
 go_enter Tryz.func209,Tryz.ntmps209;go_wp2;go_loopw [8] (fun i wr=>i=.int .i64 1/\wr=W) (fun _ _=>0)
 case atStart=>exact ⟨rfl,rfl⟩
 case round =>
  obtain ⟨rfl,rfl⟩:=hrel;go_wp2
  go_end0
  exact ⟨rfl,rfl⟩
theorem ZQ (W:World) (d:Int):Calls Tryz.prog 153 #[.slice none 0 0,.int .i64 0,.int .i64 0,.int .i64 d,.func (.func 89) #[] #[]] W fun e w'=>e=.returned (.tuple #[])/\w'=W:=by
 have H:=Ze W;go_enter Tryz.func153,Tryz.ntmps153;go_wp2;go_loopw [1,2,3,10,11,12,13,14,15,16,17,18,19,20] (fun a b _ _ _ _ _ _ _ _ _ _ _ _ wr=>a=.int .i64 0/\b=.int .i64 0/\wr=W) (fun _ _ _ _ _ _ _ _ _ _ _ _ _ _ _=>0)
 case atStart=>exact ⟨rfl,rfl,rfl⟩
 case round =>
  obtain ⟨rfl,rfl,rfl⟩:=hrel;go_wp2_with fail;refine H.mono ?_;rintro e c ⟨rfl,rfl⟩;go_wp2
  (try simp only [Exit.inBlock,Exit.then])
  refine X4 (results_none rfl _ _ _) rfl ?_;exact ⟨rfl,rfl⟩
theorem QH (w:World):Calls Tryz.prog 88 #[.slice none 0 0,.func (.func 89) #[] #[]] w fun e w'=>e=.returned (.tuple #[])/\w'=w:=by
 have a:=Tryz.bits_Len 0 w (by omega) (by omega);go_enter Tryz.func88,Tryz.ntmps88;go_wp2_with fail;refine a.mono ?_;rintro e b ⟨rfl,rfl⟩;go_wp2_with fail;refine (ZQ _ _).mono ?_;rintro e c ⟨rfl,rfl⟩;go_wp2
 go_end0
 exact ⟨rfl,rfl⟩
theorem ph (x:DelegV):qi x=(zg x.name.data.toList && (!vl x.name && (xm x.au.thr x.au.ids && (if 0<x.paths.length then decide (x.pres.length=0) && (decide (x.paths.length<=32) && x.paths.all qG) else decide (0<x.pres.length) && (decide (x.pres.length<=32) && x.pres.all preB))))):=by
 unfold qi jg;have a:(x.paths≠[])=(0<x.paths.length):=by rw [zd0]
 have b:x.pres.isEmpty=decide (x.pres.length=0):=by cases x.pres <;> rfl
 have c:(!x.pres.isEmpty)=decide (0<x.pres.length):=by cases x.pres <;> rfl
 simp only [a,Bool.and_assoc];congr 3;split
 . rw [b]
 . rw [c]
theorem ki (x:DelegV) (ia pa qa:Option Addr) (ic pc qc:Nat) (w:World) (hI:DelegIn w 0 w.heap.size x ia pa qa) (hf:DelegFits x) :
 Calls Tryz.prog 77 #[.agg #[.string x.name,.int .i64 x.au.thr,.slice ia x.au.ids.length ic,.bool x.term,.slice pa x.paths.length pc,.slice qa x.pres.length qc]] w fun e w'=>e=.returned (.bool (qi x))/\O5 w w':=by
 have c:=U (ph x);obtain ⟨V,hV⟩:=O1 (qi x);rw [<- hV] at c ⊢;clear hV;obtain ⟨s,⟨k,i⟩,l,u,v⟩:=x;dsimp only at c hI hf ⊢;obtain ⟨Z,Q,L,M⟩:=hf;obtain ⟨S,T,X⟩:=hI;dsimp only at Z Q L M S T X;obtain ⟨W,N⟩:=O1 (w.alloc (.cells #[.string s,.int .i64 k,.slice ia i.length ic,.bool l,.slice pa u.length pc,.slice qa v.length qc] 41));have g:=O7 N
 have H:=O9 N
 have q:=U g;have z:=U H;have Y:=U N;have q0:=qq H (j:=0) rfl;have q1:=qq H (j:=1) rfl;have q2:=qq H (j:=2) rfl;have r:=U (fun w=>kY s w (by omega));have y:=U (fun w=>sG s w);have I:=U (sR k i ia ic W (S.below g lz lz g.size) Q.2.2);have J:=U (fun (d:World) (h:O5 w d)=>uV u pa pc d (T.below h lz lz h.size) L.1 L.2);have K:=U (fun (d:World) (h:O5 w d)=>cH v qa qc d (X.below h lz lz h.size) M.1 M.2);clear g H N Z Q L M S T X;obtain ⟨b1,C⟩:∃b,b=zg s.data.toList:=⟨_,rfl⟩;obtain ⟨b2,D⟩:∃b,b=vl s:=⟨_,rfl⟩;obtain ⟨b3,E⟩:∃b,b=xm k i:=⟨_,rfl⟩;rw [<- C] at r c;rw [<- D] at y c;rw [<- E] at I c;clear C D E;go_enter Tryz.func77,Tryz.ntmps77;go_upto_region 1 with fail
 rw [<- Y.o];clear Y;cases b1
 . go_wp2_with (go_at_call 134;refine (r.o _).mono ?_;rintro e d ⟨rfl,rfl⟩)
   go_ret;exact ⟨qz c.o.symm,q.o⟩
 cases b2
 case true =>
  go_wp2_with (first|(go_at_call 134;refine (r.o _).mono ?_;rintro e d ⟨rfl,rfl⟩)|(go_at_call 135;refine (y.o _).mono ?_;rintro e d ⟨rfl,rfl⟩))
  go_ret;exact ⟨qz c.o.symm,q.o⟩
 cases b3
 . go_wp2_with (first|(go_at_call 134;refine (r.o _).mono ?_;rintro e d ⟨rfl,rfl⟩)|(go_at_call 135;refine (y.o _).mono ?_;rintro e d ⟨rfl,rfl⟩)|(go_at_call 136;refine I.o.mono ?_;rintro e d ⟨rfl,f⟩;have a:=U (O2 q f);clear f))
   go_ret;exact ⟨qz c.o.symm,a.o⟩
 obtain ⟨A,hA⟩:=O1 ((decide (u.length<=32) && u.all qG));obtain ⟨B,hB⟩:=O1 ((decide (v.length<=32) && v.all preB));rw [<- hA] at J c;rw [<- hB] at K c;clear hA hB;obtain ⟨p,F⟩:=O1 u.length;obtain ⟨nq,G⟩:=O1 v.length;rw [<- F] at J c z ⊢;rw [<- G] at K c z ⊢;clear F G;go_upto_region 3 with (first|(go_at_call 134;refine (r.o _).mono ?_;rintro e d ⟨rfl,rfl⟩)|(go_at_call 135;refine (y.o _).mono ?_;rintro e d ⟨rfl,rfl⟩)|(go_at_call 136;refine I.o.mono ?_;rintro e d ⟨rfl,f⟩;have a:=U (O2 q f);have R:=(f.block _ (qx z.o)).trans z.o;have z4:=qq R (j:=4) rfl;have z5:=qq R (j:=5) rfl;clear f R))
 clear r y I z q0 q1 q2;by_cases hp0:0<p
 . have d1:decide (0<(p:Int))=true:=by rw [J6];omega
   have d4:decide (0<p)=true:=by rw [J6];omega
   by_cases hq0:nq=0
   . have P:((nq:Int) == 0)=true:=by rw [zd6];omega
     have o:=U (show V=A by rw [c.o,J8 hp0,X0 hq0];simp);clear K;go_upto_region 4 with fail
     go_wp2_with (go_at_call 137;refine (J.o _ a.o).mono ?_;rintro e w5 ⟨rfl,f⟩;have m:=U (O2 a f);clear f)
     go_ret;exact ⟨qz o.o.symm,m.o⟩
   . have P:((nq:Int) == 0)=false:=by rw [K3];omega
     have o:=U (show V=false by rw [c.o,J8 hp0,J5 hq0];simp);go_wp2;go_ret;exact ⟨qz o.o.symm,a.o⟩
 . have d1:decide (0<(p:Int))=false:=by rw [V1];omega
   have d4:decide (0<p)=false:=by rw [V1];omega
   by_cases hq0:0<nq
   . have P:decide (0<(nq:Int))=true:=by rw [J6];omega
     have d3:decide (0<nq)=true:=by rw [J6];omega
     have o:=U (show V=B by rw [c.o,J3 hp0,X0 hq0];simp);clear J;go_upto_region 5 with fail
     go_wp2_with (go_at_call 137;refine (K.o _ a.o).mono ?_;rintro e w5 ⟨rfl,f⟩;have m:=U (O2 a f);clear f)
     go_ret;exact ⟨qz o.o.symm,m.o⟩
   . have P:decide (0<(nq:Int))=false:=by rw [V1];omega
     have d3:decide (0<nq)=false:=by rw [V1];omega
     have o:=U (show V=false by rw [c.o,J3 hp0,J5 hq0];simp);go_wp2;go_ret;exact ⟨qz o.o.symm,a.o⟩
theorem uY (l:List DelegV) (a:Option Addr) (c:Nat) (w:World) (hA:zh w 0 w.heap.size a l) (hl:l.length<=4294967296) (hc:l.length<=c) (hf:∀x ∈ l,DelegFits x) :
 Calls Tryz.prog 83 #[.slice a l.length c] w fun e w'=>e=.returned (.bool (zl l))/\O5 w w':=by
 have HA:=U hA;have HF:=U hf;clear hA hf;obtain ⟨n,hn⟩:=O1 l.length;have HN:=U hn;rw [<- hn] at hl hc ⊢;clear hn;obtain ⟨V,C⟩:=O1 (zl l);have f:=U C;rw [<- C];clear C;by_cases h64:64<n
 . have HR:=U (f.o.trans (yt (l:=l) (by rw [<- HN.o];omega)));have d1:decide (64<(n:Int))=true:=by rw [J6];omega
   go_enter Tryz.func83,Tryz.ntmps83;go_wp2;go_ret;exact ⟨qz HR.o.symm,J0 _ _⟩
 have d1:decide (64<(n:Int))=false:=by rw [V1];omega
 have a8:n<=64:=by omega
 clear h64;go_enter Tryz.func83,Tryz.ntmps83;go_wp2;go_loopw [3,4,10] (fun _ _ i wr=>∃k:Nat,k<=n/\i=.int .i64 k/\(∀j (h:j<l.length),j<k->qi l[j]=true)/\(∀j (h:j<l.length),j<k->((l.take j).any fun y=>decide (y.name=l[j].name))=false)/\O5 w wr) (fun _ _ i _=>n - (intOf i).toNat)
 case atStart=>exact ⟨0,by omega,rfl,fun j _ h=>by omega,fun j _ h=>by omega,J0 _ _⟩
 case round =>
  obtain ⟨k,hk,rfl,b3,b4,b0⟩:=hrel;have a5:=U b3;have a6:=U b4;have F:=U b0;clear b3 b4 b0;by_cases hlt:k<n
  . have Z:k<l.length:=by rw [<- HN.o];exact hlt
    obtain ⟨b,o,ha,-,hb,N,P,Q,R,S,T,e0,e1,e2,e3,e4,e5,-,-,-,a2⟩:=(HA.o.below F.o lz lz F.o.size).at k Z;have b5:=U (HA.o.take k);subst ha;have m1:(0:Int)<=(k:Int):=by omega
    have m2:(k:Int)<(n:Int):=by omega
    have m3:decide ((k:Int)<(n:Int))=true:=by simpa using hlt
    have c1:(k:Int)<=(c:Int):=by omega
    have D:=U (gZ (l:=l) Z);have H:=U (wF (l:=l) Z);have a0:=U (show qi l[k]=true->∀j (h:j<l.length),j<k+1->qi l[j]=true from fun h0 j hj hjk=>by
     rcases V5.1 hjk with h1|h1
     . exact a5.o j hj h1
     . subst h1;exact h0)
    have a1:=U (show ((l.take k).any fun y=>decide (y.name=l[k].name))=false->∀j (h:j<l.length),j<k+1->((l.take j).any fun y=>decide (y.name=l[j].name))=false from fun h0 j hj hjk=>by
     rcases V5.1 hjk with h1|h1
     . exact a6.o j hj h1
     . subst h1;exact h0)
    have a4:=U (HF.o l[k] (X6 Z));obtain ⟨x,hx⟩:=O1 (l[k]);rw [<- hx] at e0 e1 e2 e3 e4 e5 a2 D H a0 a1 a4;clear hx;obtain ⟨z,s,M,J,L⟩:=x;dsimp only at e0 e1 e2 e3 e4 e5;obtain ⟨A,Y⟩:=O1 (wr.alloc (.cells #[.string z,.int .i64 s.thr,.slice N s.ids.length P,.bool M,.slice Q J.length R,.slice S L.length T] 41));have B:=O7 Y
    have a3:=O9 Y
    have u:=U (O2 F B);have r:=U (show ∀w':World,O5 A w'->w'.cell? ⟨wr.heap.size,0,none⟩=some (.string z)/\w'.cell? ⟨wr.heap.size,1,none⟩=some (.int .i64 s.thr)/\w'.cell? ⟨wr.heap.size,2,none⟩=some (.slice N s.ids.length P)/\w'.cell? ⟨wr.heap.size,3,none⟩=some (.bool M)/\w'.cell? ⟨wr.heap.size,4,none⟩=some (.slice Q J.length R)/\w'.cell? ⟨wr.heap.size,5,none⟩=some (.slice S L.length T) from fun w' h=>by
     have hz:=(h.block _ (qx a3)).trans a3;exact ⟨qq hz rfl,qq hz rfl,qq hz rfl,qq hz rfl,qq hz rfl,qq hz rfl⟩)
    have X:=O0 (∀w':World,O5 A w'->_) (fun w' h=>ki ⟨z,s,M,J,L⟩ N Q S P R T w' (a2.below (B.trans (h.mono B.size)) lz lz (J1 B.size h.size)) a4.o);have W:=O0 (∀w':World,O5 A w'->_) (fun w' h=>gV (l.take k) z (some ⟨b,o,none⟩) c w' (b5.o.below (O2 u h) lz lz (J1 u.o.size h.size)) (by rw [M7];omega));have b9:=U (show (l.take k).length=k by rw [M7];omega);rw [b9.o] at W;have a7:=U Y;have c0:=U B.size;obtain ⟨b1,a9⟩:∃b,b=qi ⟨z,s,M,J,L⟩:=⟨_,rfl⟩;obtain ⟨b2,p⟩:=O1 ((l.take k).any fun y=>decide (y.name=z));rw [<- a9] at X D a0;rw [<- p] at W H a1;clear B a3 Y a9 p a2;go_upto_region 6 with fail
    rw [<- a7.o];clear e0 e1 e2 e3 e4 e5 a7;cases b1
    . have HR:=U (f.o.trans (D.o rfl));obtain ⟨V,C⟩:∃V:List MP,V=[.con (.agg #[.string z,.int .i64 s.thr,.slice N s.ids.length P,.bool M,.slice Q J.length R,.slice S L.length T]),.con (.bool false),.con (.bool true),.con (.bool true),.any,.any,.any,.any,.any,.any]:=⟨_,rfl⟩;have f:=U C;clear C;refine qP 10 (fun d I w'=>∃x15 x16 x17 x18 x19 x20 x21 x22 x23 x24,I=⟨#[Value.slice (some { block:=b,off:=o }) n c,undef,u2,Value.int IntKind.i64 (k:Int),Value.pointer (some { block:=wr.heap.size,off:=0 }),Value.slice (some { block:=b,off:=o }) n c,Value.int IntKind.i64 (n:Int),Value.bool false,Value.slice (some { block:=b,off:=o }) n c,Value.int IntKind.i64 (n:Int),Value.int IntKind.i64 (k:Int),Value.bool true,Value.int IntKind.i64 (k:Int),Value.pointer (some { block:=b,off:=o+k * 6 }),Value.agg #[Value.string z,Value.int IntKind.i64 s.thr,Value.slice N s.ids.length P,Value.bool M,Value.slice Q J.length R,Value.slice S L.length T],x15,x16,x17,x18,x19,x20,x21,x22,x23,x24,u25,u26],[]⟩/\zW A V d w' [x15,x16,x17,x18,x19,x20,x21,x22,x23,x24]) (by kernel_rfl) (by kernel_rfl) ?first ?step ?last
      case first=>exact ⟨_,_,_,_,_,_,_,_,_,_,rfl,zW.first _ _ _ (by rw [f.o];rfl)⟩
      case step =>
       rintro d I w' ⟨x15,x16,x17,x18,x19,x20,x21,x22,x23,x24,rfl,h⟩ q hq hn g;rcases q with _|_|_|_|_|_|_|_|_|_|q
       . obtain ⟨q0,q1,q2,q3,q4,q5⟩:=r.o w' h.1;refine J4 rfl fun K hK=>?_;go_simp;exact hK _ _ ⟨_,_,_,_,_,_,_,_,_,_,rfl,h.sameC 0 _ f rfl⟩
       . obtain rfl:=h.cn g f 0 .data;obtain ⟨q0,q1,q2,q3,q4,q5⟩:=r.o w' h.1;refine J4 rfl fun K hK=>?_;go_simp;refine (X.o w' h.1).mono ?_;rintro e w2 ⟨rfl,p⟩;exact hK _ _ ⟨_,_,_,_,_,_,_,_,_,_,rfl,h.didC p 1 _ f rfl⟩
       . obtain rfl:=h.cn g f 1 .data;refine J4 rfl fun K hK=>?_;go_simp;exact hK _ _ ⟨_,_,_,_,_,_,_,_,_,_,rfl,h.sameC 2 _ f rfl⟩
       . obtain rfl:=h.cn g f 2 .data;refine J4 rfl fun K hK=>?_;go_simp;exact hK _ _ ⟨_,_,_,_,_,_,_,_,_,_,rfl,h.sameC 3 _ f rfl⟩
       . obtain rfl:=h.cn g f 3 .guard;refine J4 rfl fun K hK=>?_;go_simp;exact hK _ _ ⟨_,_,_,_,_,_,_,_,_,_,rfl,h.same 4 _ .any (by rw [f.o];rfl) trivial⟩
       . obtain rfl:=h.cn g f 3 .guard;refine J4 rfl fun K hK=>?_;go_simp;exact hK _ _ ⟨_,_,_,_,_,_,_,_,_,_,rfl,h.same 5 _ .any (by rw [f.o];rfl) trivial⟩
       . obtain rfl:=h.cn g f 3 .guard;refine J4 rfl fun K hK=>?_;go_simp;exact hK _ _ ⟨_,_,_,_,_,_,_,_,_,_,rfl,h.same 6 _ .any (by rw [f.o];rfl) trivial⟩
       . obtain rfl:=h.cn g f 3 .guard;refine J4 rfl fun K hK=>?_;go_simp;exact hK _ _ ⟨_,_,_,_,_,_,_,_,_,_,rfl,h.same 7 _ .any (by rw [f.o];rfl) trivial⟩
       . obtain rfl:=h.cn g f 3 .guard;refine J4 rfl fun K hK=>?_;go_simp;exact hK _ _ ⟨_,_,_,_,_,_,_,_,_,_,rfl,h.same 8 _ .any (by rw [f.o];rfl) trivial⟩
       . obtain rfl:=h.cn g f 3 .chain;refine J4 rfl fun K hK=>?_;go_simp;exact hK _ _ ⟨_,_,_,_,_,_,_,_,_,_,rfl,h.same 9 _ .any (by rw [f.o];rfl) trivial⟩
       . omega
      case last => rintro d I w' m ⟨x15,x16,x17,x18,x19,x20,x21,x22,x23,x24,rfl,h⟩;have v:=h.1;obtain rfl:=h.con 3 (m _ (by omega)) f rfl rfl;have G:=U v;clear h m v f;have E:=U (u.o.trans (G.o.mono u.o.size));go_wp2;go_ret;exact ⟨qz HR.o.symm,E.o⟩
    . cases b2
      . have b6:=U (a0.o rfl);have b7:=U (a1.o rfl);obtain ⟨V,C⟩:∃V:List MP,V=[.con (.agg #[.string z,.int .i64 s.thr,.slice N s.ids.length P,.bool M,.slice Q J.length R,.slice S L.length T]),.con (.bool true),.con (.bool false),.con (.bool false),.con (.slice (some ⟨b,o,none⟩) n c),.con (.int .i64 (k:Int)),.con (.slice (some ⟨b,o,none⟩) k c),.con (.pointer (some ⟨wr.heap.size,0,none⟩)),.con (.string z),.con (.bool false)]:=⟨_,rfl⟩;have f:=U C;clear C;refine qP 10 (fun d I w'=>∃x15 x16 x17 x18 x19 x20 x21 x22 x23 x24,I=⟨#[Value.slice (some { block:=b,off:=o }) n c,undef,u2,Value.int IntKind.i64 (k:Int),Value.pointer (some { block:=wr.heap.size,off:=0 }),Value.slice (some { block:=b,off:=o }) n c,Value.int IntKind.i64 (n:Int),Value.bool false,Value.slice (some { block:=b,off:=o }) n c,Value.int IntKind.i64 (n:Int),Value.int IntKind.i64 (k:Int),Value.bool true,Value.int IntKind.i64 (k:Int),Value.pointer (some { block:=b,off:=o+k * 6 }),Value.agg #[Value.string z,Value.int IntKind.i64 s.thr,Value.slice N s.ids.length P,Value.bool M,Value.slice Q J.length R,Value.slice S L.length T],x15,x16,x17,x18,x19,x20,x21,x22,x23,x24,u25,u26],[]⟩/\zW A V d w' [x15,x16,x17,x18,x19,x20,x21,x22,x23,x24]) (by kernel_rfl) (by kernel_rfl) ?first ?step ?last
        case first=>exact ⟨_,_,_,_,_,_,_,_,_,_,rfl,zW.first _ _ _ (by rw [f.o];rfl)⟩
        case step =>
         rintro d I w' ⟨x15,x16,x17,x18,x19,x20,x21,x22,x23,x24,rfl,h⟩ q hq hn g;rcases q with _|_|_|_|_|_|_|_|_|_|q
         . obtain ⟨q0,q1,q2,q3,q4,q5⟩:=r.o w' h.1;refine J4 rfl fun K hK=>?_;go_simp;exact hK _ _ ⟨_,_,_,_,_,_,_,_,_,_,rfl,h.sameC 0 _ f rfl⟩
         . obtain rfl:=h.cn g f 0 .data;obtain ⟨q0,q1,q2,q3,q4,q5⟩:=r.o w' h.1;refine J4 rfl fun K hK=>?_;go_simp;refine (X.o w' h.1).mono ?_;rintro e w2 ⟨rfl,p⟩;exact hK _ _ ⟨_,_,_,_,_,_,_,_,_,_,rfl,h.didC p 1 _ f rfl⟩
         . obtain rfl:=h.cn g f 1 .data;refine J4 rfl fun K hK=>?_;go_simp;exact hK _ _ ⟨_,_,_,_,_,_,_,_,_,_,rfl,h.sameC 2 _ f rfl⟩
         . obtain rfl:=h.cn g f 2 .data;refine J4 rfl fun K hK=>?_;go_simp;exact hK _ _ ⟨_,_,_,_,_,_,_,_,_,_,rfl,h.sameC 3 _ f rfl⟩
         . obtain rfl:=h.cn g f 3 .guard;refine J4 rfl fun K hK=>?_;go_simp;exact hK _ _ ⟨_,_,_,_,_,_,_,_,_,_,rfl,h.sameC 4 _ f rfl⟩
         . obtain rfl:=h.cn g f 3 .guard;refine J4 rfl fun K hK=>?_;go_simp;exact hK _ _ ⟨_,_,_,_,_,_,_,_,_,_,rfl,h.sameC 5 _ f rfl⟩
         . obtain rfl:=h.cn g f 3 .guard;obtain rfl:=h.cn g f 4 .data;obtain rfl:=h.cn g f 5 .data;refine J4 rfl fun K hK=>?_;go_simp;exact hK _ _ ⟨_,_,_,_,_,_,_,_,_,_,rfl,h.sameC 6 _ f rfl⟩
         . obtain rfl:=h.cn g f 3 .guard;refine J4 rfl fun K hK=>?_;go_simp;exact hK _ _ ⟨_,_,_,_,_,_,_,_,_,_,rfl,h.sameC 7 _ f rfl⟩
         . obtain rfl:=h.cn g f 3 .guard;obtain rfl:=h.cn g f 7 .data;obtain ⟨q0,q1,q2,q3,q4,q5⟩:=r.o w' h.1;refine J4 rfl fun K hK=>?_;go_simp;exact hK _ _ ⟨_,_,_,_,_,_,_,_,_,_,rfl,h.sameC 8 _ f rfl⟩
         . obtain rfl:=h.cn g f 3 .chain;obtain rfl:=h.cn g f 6 .data;obtain rfl:=h.cn g f 8 .data;obtain ⟨q0,q1,q2,q3,q4,q5⟩:=r.o w' h.1;refine J4 rfl fun K hK=>?_;go_simp;refine (W.o w' h.1).mono ?_;rintro e w2 ⟨rfl,p⟩;exact hK _ _ ⟨_,_,_,_,_,_,_,_,_,_,rfl,h.didC p 9 _ f rfl⟩
         . omega
        case last =>
         rintro d I w' m ⟨x15,x16,x17,x18,x19,x20,x21,x22,x23,x24,rfl,h⟩;have v:=h.1;obtain rfl:=h.con 3 (m _ (by omega)) f rfl rfl;obtain rfl:=h.con 9 (m _ (by omega)) f rfl rfl;have G:=U v;clear h m v f;have E:=U (u.o.trans (G.o.mono u.o.size));go_wp2;go_roundw
         case rel=>exact ⟨k+1,by omega,by go_num,b6.o,b7.o,E.o⟩
         case measure=>simp [intOf];omega
      . have HR:=U (f.o.trans (H.o rfl));obtain ⟨V,C⟩:∃V:List MP,V=[.con (.agg #[.string z,.int .i64 s.thr,.slice N s.ids.length P,.bool M,.slice Q J.length R,.slice S L.length T]),.con (.bool true),.con (.bool false),.con (.bool false),.con (.slice (some ⟨b,o,none⟩) n c),.con (.int .i64 (k:Int)),.con (.slice (some ⟨b,o,none⟩) k c),.con (.pointer (some ⟨wr.heap.size,0,none⟩)),.con (.string z),.con (.bool true)]:=⟨_,rfl⟩;have f:=U C;clear C;refine qP 10 (fun d I w'=>∃x15 x16 x17 x18 x19 x20 x21 x22 x23 x24,I=⟨#[Value.slice (some { block:=b,off:=o }) n c,undef,u2,Value.int IntKind.i64 (k:Int),Value.pointer (some { block:=wr.heap.size,off:=0 }),Value.slice (some { block:=b,off:=o }) n c,Value.int IntKind.i64 (n:Int),Value.bool false,Value.slice (some { block:=b,off:=o }) n c,Value.int IntKind.i64 (n:Int),Value.int IntKind.i64 (k:Int),Value.bool true,Value.int IntKind.i64 (k:Int),Value.pointer (some { block:=b,off:=o+k * 6 }),Value.agg #[Value.string z,Value.int IntKind.i64 s.thr,Value.slice N s.ids.length P,Value.bool M,Value.slice Q J.length R,Value.slice S L.length T],x15,x16,x17,x18,x19,x20,x21,x22,x23,x24,u25,u26],[]⟩/\zW A V d w' [x15,x16,x17,x18,x19,x20,x21,x22,x23,x24]) (by kernel_rfl) (by kernel_rfl) ?first ?step ?last
        case first=>exact ⟨_,_,_,_,_,_,_,_,_,_,rfl,zW.first _ _ _ (by rw [f.o];rfl)⟩
        case step =>
         rintro d I w' ⟨x15,x16,x17,x18,x19,x20,x21,x22,x23,x24,rfl,h⟩ q hq hn g;rcases q with _|_|_|_|_|_|_|_|_|_|q
         . obtain ⟨q0,q1,q2,q3,q4,q5⟩:=r.o w' h.1;refine J4 rfl fun K hK=>?_;go_simp;exact hK _ _ ⟨_,_,_,_,_,_,_,_,_,_,rfl,h.sameC 0 _ f rfl⟩
         . obtain rfl:=h.cn g f 0 .data;obtain ⟨q0,q1,q2,q3,q4,q5⟩:=r.o w' h.1;refine J4 rfl fun K hK=>?_;go_simp;refine (X.o w' h.1).mono ?_;rintro e w2 ⟨rfl,p⟩;exact hK _ _ ⟨_,_,_,_,_,_,_,_,_,_,rfl,h.didC p 1 _ f rfl⟩
         . obtain rfl:=h.cn g f 1 .data;refine J4 rfl fun K hK=>?_;go_simp;exact hK _ _ ⟨_,_,_,_,_,_,_,_,_,_,rfl,h.sameC 2 _ f rfl⟩
         . obtain rfl:=h.cn g f 2 .data;refine J4 rfl fun K hK=>?_;go_simp;exact hK _ _ ⟨_,_,_,_,_,_,_,_,_,_,rfl,h.sameC 3 _ f rfl⟩
         . obtain rfl:=h.cn g f 3 .guard;refine J4 rfl fun K hK=>?_;go_simp;exact hK _ _ ⟨_,_,_,_,_,_,_,_,_,_,rfl,h.sameC 4 _ f rfl⟩
         . obtain rfl:=h.cn g f 3 .guard;refine J4 rfl fun K hK=>?_;go_simp;exact hK _ _ ⟨_,_,_,_,_,_,_,_,_,_,rfl,h.sameC 5 _ f rfl⟩
         . obtain rfl:=h.cn g f 3 .guard;obtain rfl:=h.cn g f 4 .data;obtain rfl:=h.cn g f 5 .data;refine J4 rfl fun K hK=>?_;go_simp;exact hK _ _ ⟨_,_,_,_,_,_,_,_,_,_,rfl,h.sameC 6 _ f rfl⟩
         . obtain rfl:=h.cn g f 3 .guard;refine J4 rfl fun K hK=>?_;go_simp;exact hK _ _ ⟨_,_,_,_,_,_,_,_,_,_,rfl,h.sameC 7 _ f rfl⟩
         . obtain rfl:=h.cn g f 3 .guard;obtain rfl:=h.cn g f 7 .data;obtain ⟨q0,q1,q2,q3,q4,q5⟩:=r.o w' h.1;refine J4 rfl fun K hK=>?_;go_simp;exact hK _ _ ⟨_,_,_,_,_,_,_,_,_,_,rfl,h.sameC 8 _ f rfl⟩
         . obtain rfl:=h.cn g f 3 .chain;obtain rfl:=h.cn g f 6 .data;obtain rfl:=h.cn g f 8 .data;obtain ⟨q0,q1,q2,q3,q4,q5⟩:=r.o w' h.1;refine J4 rfl fun K hK=>?_;go_simp;refine (W.o w' h.1).mono ?_;rintro e w2 ⟨rfl,p⟩;exact hK _ _ ⟨_,_,_,_,_,_,_,_,_,_,rfl,h.didC p 9 _ f rfl⟩
         . omega
        case last => rintro d I w' m ⟨x15,x16,x17,x18,x19,x20,x21,x22,x23,x24,rfl,h⟩;have v:=h.1;obtain rfl:=h.con 3 (m _ (by omega)) f rfl rfl;obtain rfl:=h.con 9 (m _ (by omega)) f rfl rfl;have G:=U v;clear h m v f;have E:=U (u.o.trans (G.o.mono u.o.size));go_wp2;go_ret;exact ⟨qz HR.o.symm,E.o⟩
  . have m3:decide ((k:Int)<(n:Int))=false:=by simpa using hlt
    have HR:=U (f.o.trans (pj (l:=l) (by rw [<- HN.o];exact a8) (fun j hj=>a5.o j hj (by rw [<- HN.o] at hj;omega)) (fun j hj=>a6.o j hj (by rw [<- HN.o] at hj;omega))));go_wp2;go_ret;exact ⟨qz HR.o.symm,F.o⟩
theorem cL (l:List ByteArray) (path:ByteArray) (a:Option Addr) (c:Nat) (w:World) (hA:qv w 0 w.heap.size a l) (hl:l.length<=4294967296) (hs:∀s ∈ l,s.size<=4294967296) (hp:path.size<=4294967296) (hT:Tabs w) :
 Calls Tryz.prog 315 #[.slice a l.length c,.string path] w fun e w'=>e=.returned (.bool (zV l path))/\O5 w w':=by
 have S:=U hA;have T:=U hs;have M:=U (o7 path w (by omega) hT);have G:=O0 (zV l path=l.any (fun q=>preB q && vL q (d9 path))) rfl;clear hA hs hT;obtain ⟨n,L⟩:=O1 l.length;have N:=U L;rw [<- L] at hl ⊢;clear L;obtain ⟨D,J⟩:=O1 (d9 path);rw [<- J] at G;rw [show (⟨(kg path.data.toList).toArray⟩:ByteArray)=d9 path from rfl,<- J] at M;obtain ⟨V,v⟩:=O1 (zV l path);rw [<- v] at G ⊢;clear J v;go_enter Tryz.func315,Tryz.ntmps315;go_wp2_with (go_at_call 181;refine M.o.mono ?_;rintro e w1 ⟨rfl,K⟩;have I:=U K;clear K);go_loopw [7,12] (fun _ i wr=>∃k:Nat,k<=n/\i=.int .i64 k/\(∀j (h:j<l.length),j<k->(preB l[j] && vL l[j] D)=false)/\O5 w wr) (fun _ i _=>n - (intOf i).toNat)
 case atStart=>exact ⟨0,by omega,rfl,fun j _ h=>by omega,I.o⟩
 case round =>
  obtain ⟨k,Z,rfl,A,x⟩:=hrel;have u:=U A;have g:=U x;clear A x;by_cases hlt:k<n
  . have r:k<l.length:=by rw [<- N.o];exact hlt
    obtain ⟨b,o,X,-,K,W⟩:=(S.o.below g.o lz lz lz).at k r;subst X;have m1:(0:Int)<=(k:Int):=by omega
    have m2:(k:Int)<(n:Int):=by omega
    have Y:decide ((k:Int)<(n:Int))=true:=by simpa using hlt
    have d:=U (gK (f:=fun q=>preB q && vL q D) r);have m:=U (show (preB l[k] && vL l[k] D)=false->∀j (h:j<l.length),j<k+1->(preB l[j] && vL l[j] D)=false from fun h0 j hj hjk=>by
     rcases V5.1 hjk with h1|h1
     . exact u.o j hj h1
     . subst h1;exact h0)
    have C:=T.o l[k] (X6 r);obtain ⟨q,P⟩:=O1 (l[k]);rw [<- P] at W d m C;have F:=U (fun w=>oB q w (by omega));have E:=U (fun w=>Tryz.strings_HasPrefix D q w);have B:Lib.hasPrefix D.data.toList q.data.toList=vL q D:=rfl;rw [B] at E;obtain ⟨y,Q⟩:=O1 (preB q);obtain ⟨z,R⟩:=O1 (vL q D);rw [<- Q] at F d m;rw [<- R] at E d m;clear P Q R C B;cases y with
    | false =>
     have p:=U (m.o rfl);go_wp2_with (go_at_call 139;refine (F.o _).mono ?_;rintro e H ⟨rfl,rfl⟩);go_roundw
     case rel=>exact ⟨k+1,by omega,by go_num,p.o,g.o⟩
     case measure=>simp [intOf];omega
    | true =>
     cases z with
     | false =>
      have p:=U (m.o rfl);go_wp2_with (first|(go_at_call 139;refine (F.o _).mono ?_;rintro e H ⟨rfl,rfl⟩)|(go_at_call 208;refine (E.o _).mono ?_;rintro e H ⟨rfl,rfl⟩));go_roundw
      case rel=>exact ⟨k+1,by omega,by go_num,p.o,g.o⟩
      case measure=>simp [intOf];omega
     | true => have p:=U (G.o.trans (d.o rfl));go_wp2_with (first|(go_at_call 139;refine (F.o _).mono ?_;rintro e H ⟨rfl,rfl⟩)|(go_at_call 208;refine (E.o _).mono ?_;rintro e H ⟨rfl,rfl⟩));go_ret;exact ⟨qz p.o.symm,g.o⟩
  . have Y:decide ((k:Int)<(n:Int))=false:=by simpa using hlt
    have p:=U (G.o.trans (wH (f:=fun q=>preB q && vL q D) (l:=l) (n:=k) (by rw [<- N.o];omega) u.o));go_wp2;go_ret;exact ⟨qz p.o.symm,g.o⟩
theorem tQ (a : Option Addr) (n c : Nat) (w : World) : (method 412 164 (.slice a n c) "legate/deleg.has").run Tryz.prog w = .ok (308, .slice a n c) w := by kernel_rfl
theorem tZ (a : Option Addr) (n c : Nat) (w : World) : (method 412 165 (.slice a n c) "legate/deleg.has").run Tryz.prog w = .ok (314, .slice a n c) w := by kernel_rfl
theorem ZZ (l:List ByteArray) (path:ByteArray) (a:Option Addr) (c:Nat) (w:World) (j:qv w 0 w.heap.size a l) (k:l.length<=4294967296) (m:∀s ∈ l,s.size<=4294967296) (q:path.size<=4294967296) :
 Calls Tryz.prog 308 #[.slice a l.length c,.string path] w fun e w'=>e=.returned (.bool (l.any fun p=>xk runes p path))/\O5 w w':=by
 have b:=U (Qi l path a c w j k m q);obtain ⟨n,g⟩:=O1 l.length;obtain ⟨V,d⟩:=O1 (l.any (fun p=>xk runes p path));rw [<- d] at b ⊢;rw [<- g] at b ⊢;clear j k m g d;go_enter Tryz.func308,Tryz.ntmps308;go_wp2_with (go_at_call 309;refine b.o.mono ?_;rintro e i ⟨rfl,f⟩;have h:=U f;clear f);go_ret;exact ⟨rfl,h.o⟩
theorem ZX (l:List ByteArray) (path:ByteArray) (a:Option Addr) (c:Nat) (w:World) (j:qv w 0 w.heap.size a l) (m:l.length<=4294967296) (p:∀s ∈ l,s.size<=4294967296) (q:path.size<=4294967296) (k:Tabs w) :
 Calls Tryz.prog 314 #[.slice a l.length c,.string path] w fun e w'=>e=.returned (.bool (zV l path))/\O5 w w':=by
 have b:=U (cL l path a c w j m p q k);obtain ⟨n,g⟩:=O1 l.length;obtain ⟨V,d⟩:=O1 (zV l path);rw [<- d] at b ⊢;rw [<- g] at b ⊢;clear j m p g d k;go_enter Tryz.func314,Tryz.ntmps314;go_wp2_with (go_at_call 315;refine b.o.mono ?_;rintro e i ⟨rfl,f⟩;have h:=U f;clear f);go_ret;exact ⟨rfl,h.o⟩
theorem cR (x:ByteArray) (m:Int) (ids:List ByteArray) (y:Bool) (l s:List ByteArray) (u pa q:Option Addr) (v p r:Nat) (w:World) :
 Calls Tryz.prog 78 #[.agg #[.string x,.int .i64 m,.slice u ids.length v,.bool y,.slice pa l.length p,.slice q s.length r]] w fun e w'=>e=.returned (if l≠[] then .iface 164 (.slice pa l.length p) else .iface 165 (.slice q s.length r))/\O5 w w':=by
 obtain ⟨W,b⟩:=O1 (w.alloc (.cells #[.string x,.int .i64 m,.slice u ids.length v,.bool y,.slice pa l.length p,.slice q s.length r] 41));have d:=U (show O5 w W by rw [b];exact O4);have c:=O9 b
 have i:=qq c (j:=4) rfl;have k:=qq c (j:=5) rfl;have a:=U b;clear b c;by_cases hps:l=[]
 . have f:decide ((0:Int)<(l.length:Int))=false:=by subst hps;rfl
   have g:decide (0<l.length)=false:=by subst hps;rfl
   have h:¬0<l.length:=by subst hps;simp
   rw [J3 (by simp [hps])];clear hps;go_enter Tryz.func78,Tryz.ntmps78;go_upto_region 1 with fail
   rw [<- a.o];clear a;go_wp2;go_ret;exact ⟨rfl,d.o⟩
 . have h:0<l.length:=zd0.2 hps;have f:decide ((0:Int)<(l.length:Int))=true:=by rw [J6];omega
   have g:decide (0<l.length)=true:=by rw [J6];omega
   rw [J8 hps];clear hps;go_enter Tryz.func78,Tryz.ntmps78;go_upto_region 1 with fail
   rw [<- a.o];clear a;go_wp2;go_ret;exact ⟨rfl,d.o⟩
theorem ed (x:DelegV) (path:ByteArray):isD runes x path=(qi x && (qG path && (if x.paths≠[] then x.paths.any (fun p=>xk runes p path) else zV x.pres path))):=by unfold isD;rw [Bool.and_assoc]
theorem sA (x:DelegV) (path:ByteArray) (ia pa qa:Option Addr) (ic pc qc:Nat) (w:World) (hI:DelegIn w 0 w.heap.size x ia pa qa) (hf:DelegFits x) (hp:path.size<=4294967296) (hT:Tabs w) :
 Calls Tryz.prog 23 #[.agg #[.string x.name,.int .i64 x.au.thr,.slice ia x.au.ids.length ic,.bool x.term,.slice pa x.paths.length pc,.slice qa x.pres.length qc],.string path] w fun e w'=>e=.returned (.bool (isD runes x path))/\O5 w w':=by
 have k:=U (ed x path);obtain ⟨V,N⟩:=O1 (isD runes x path);rw [<- N] at k ⊢;clear N;obtain ⟨z,⟨i,g⟩,C,l,q⟩:=x;dsimp only at k ⊢;obtain ⟨W,H⟩:=O1 (w.alloc (.cells #[.string z,.int .i64 i,.slice ia g.length ic,.bool C,.slice pa l.length pc,.slice qa q.length qc] 41));have a:=O7 H
 have L:=O9 H
 have r:=U a;have I:=U (show ∀w':World,O5 W w'->w'.cell? ⟨w.heap.size,0,none⟩=some (.string z)/\w'.cell? ⟨w.heap.size,1,none⟩=some (.int .i64 i)/\w'.cell? ⟨w.heap.size,2,none⟩=some (.slice ia g.length ic)/\w'.cell? ⟨w.heap.size,3,none⟩=some (.bool C)/\w'.cell? ⟨w.heap.size,4,none⟩=some (.slice pa l.length pc)/\w'.cell? ⟨w.heap.size,5,none⟩=some (.slice qa q.length qc) from fun w' h=>by
  have y:=(h.block _ (qx L)).trans L;exact ⟨qq y rfl,qq y rfl,qq y rfl,qq y rfl,qq y rfl,qq y rfl⟩)
 have G:=O0 (∀w':World,O5 W w'->DelegIn w' 0 w'.heap.size ⟨z,⟨i,g⟩,C,l,q⟩ ia pa qa/\Tabs w') (fun w' h=>⟨hI.below (a.trans (h.mono a.size)) lz lz (J1 a.size h.size),hT.below (a.trans (h.mono a.size))⟩);have j:=U (ki ⟨z,⟨i,g⟩,C,l,q⟩ ia pa qa ic pc qc W (G.o W (J0 _ _)).1 hf);have o:=U (fun w=>ge path w (by omega));have m:=U (fun w=>cR z i g C l q ia pa qa ic pc qc w);have D:=O0 (∀w':World,O5 W w'->_) (fun w' h=>ZZ l path pa pc w' (G.o w' h).1.paths hf.paths.1 hf.paths.2 hp);have E:=O0 (∀w':World,O5 W w'->_) (fun w' h=>ZX q path qa qc w' (G.o w' h).1.pres hf.pres.1 hf.pres.2 hp (G.o w' h).2);have S:=tQ;have T:=tZ;have F:=U H;obtain ⟨Q,u⟩:∃b,b=qi ⟨z,⟨i,g⟩,C,l,q⟩:=⟨_,rfl⟩;obtain ⟨R,v⟩:∃b,b=qG path:=⟨_,rfl⟩;obtain ⟨A,J⟩:=O1 (l.any (fun p=>xk runes p path));obtain ⟨B,K⟩:=O1 (zV q path);rw [<- u,<- v,<- J,<- K] at k;rw [<- u] at j;rw [<- v] at o;rw [<- J] at D;rw [<- K] at E;clear a L H hI hf hp hT u v J K;obtain ⟨q0,q1,q2,q3,q4,q5⟩:=I.o W (J0 _ _);go_enter Tryz.func23,Tryz.ntmps23;go_upto_region 1 with fail
 rw [<- F.o];clear F;cases Q with
 | false =>
  go_wp2_with (go_at_call 77;refine j.o.mono ?_;rintro e M ⟨rfl,a⟩;have c:=U a;clear a)
  go_ret;exact ⟨qz k.o.symm,r.o.trans (c.o.mono r.o.size)⟩
 | true =>
  rw [Y1] at k;cases R with
  | false =>
   go_wp2_with (first|(go_at_call 77;refine j.o.mono ?_;rintro e M ⟨rfl,a⟩;have c:=U a;clear a)|(go_at_call 34;refine (o.o _).mono ?_;rintro e P ⟨rfl,a⟩;have d:=U (O2 c a);clear a))
   go_ret;exact ⟨qz k.o.symm,r.o.trans (d.o.mono r.o.size)⟩
  | true =>
   rw [Y1] at k;by_cases hps:l=[]
   . rw [J3 (by simp [hps])] at k;simp only [show ¬l≠[] from by simp [hps],zf1] at m;clear hps;go_wp2_with (first|(go_at_call 77;refine j.o.mono ?_;rintro e M ⟨rfl,a⟩;have c:=U a;clear a)|(go_at_call 34;refine (o.o _).mono ?_;rintro e P ⟨rfl,a⟩;have d:=U (O2 c a);obtain ⟨Z,z1,z2,z3,z4,z5⟩:=I.o _ d.o;clear a)|(go_at_call 78;refine (m.o _).mono ?_;rintro e X ⟨rfl,a⟩;have f:=U (O2 d a);clear a)|(go_at_call 314;refine (E.o _ f.o).mono ?_;rintro e Y ⟨rfl,a⟩;have s:=U (O2 f a);clear a));go_ret;exact ⟨qz k.o.symm,r.o.trans (s.o.mono r.o.size)⟩
   . rw [J8 hps] at k;simp only [J8 hps] at m;clear hps;go_wp2_with (first|(go_at_call 77;refine j.o.mono ?_;rintro e M ⟨rfl,a⟩;have c:=U a;clear a)|(go_at_call 34;refine (o.o _).mono ?_;rintro e P ⟨rfl,a⟩;have d:=U (O2 c a);obtain ⟨Z,z1,z2,z3,z4,z5⟩:=I.o _ d.o;clear a)|(go_at_call 78;refine (m.o _).mono ?_;rintro e X ⟨rfl,a⟩;have f:=U (O2 d a);clear a)|(go_at_call 308;refine (D.o _ f.o).mono ?_;rintro e Y ⟨rfl,a⟩;have s:=U (O2 f a);clear a));go_ret;exact ⟨qz k.o.symm,r.o.trans (s.o.mono r.o.size)⟩
theorem yg (t u:Int) (l m:List ByteArray) (a b:Option Addr) (c d:Nat) (w:World) (hA:qv w 0 w.heap.size a l) (hB:qv w 0 w.heap.size b m) (hl:l.length<=4294967296) (_hm:m.length<=4294967296) :
 Calls Tryz.prog 70 #[.agg #[.int .i64 t,.slice a l.length c],.agg #[.int .i64 u,.slice b m.length d]] w fun e w'=>e=.returned (.bool (decide ((⟨t,l⟩:AuthV)=⟨u,m⟩)))/\O5 w w':=by
 obtain ⟨W,K⟩:=O1 ((w.alloc (.cells #[.int .i64 t,.slice a l.length c] 31)).alloc (.cells #[.int .i64 u,.slice b m.length d] 31));have C:O5 w W:=by rw [K];exact (O4).alloc (by simp) _
 have v:W.heap[w.heap.size]?=some (.cells #[.int .i64 t,.slice a l.length c] 31 (0,0)):=by rw [K];exact zG w _ _
 have A:W.heap[w.heap.size+1]?=some (.cells #[.int .i64 u,.slice b m.length d] 31 (0,0)):=by rw [K];exact j9 w _ _
 have R:=U (show ∀w':World,O5 W w'->w'.cell? ⟨w.heap.size,0,none⟩=some (.int .i64 t)/\w'.cell? ⟨w.heap.size,1,none⟩=some (.slice a l.length c)/\w'.cell? ⟨w.heap.size+1,0,none⟩=some (.int .i64 u)/\w'.cell? ⟨w.heap.size+1,1,none⟩=some (.slice b m.length d) from fun w' h=>by
  have o:=(h.block _ (qx v)).trans v;have P:=(h.block _ (qx A)).trans A;exact ⟨qq o rfl,qq o rfl,qq P rfl,qq P rfl⟩)
 have B:=U C;have J:=U K;have HA:=U (hA.below C lz lz C.size);have Q:=U (hB.below C lz lz C.size);have r:=U (show decide ((⟨t,l⟩:AuthV)=⟨u,m⟩)=(decide (t=u) && decide (l=m)) by
  by_cases o:t=u <;> by_cases P:l=m <;> simp [o,P])
 obtain ⟨q,hq⟩:=O1 (decide ((⟨t,l⟩:AuthV)=⟨u,m⟩));rw [<- hq] at r ⊢;clear C K v A hA hB hq;obtain ⟨x0,x1,y0,X⟩:=R.o W (J0 _ _);by_cases h:t=u
 case neg =>
  have n1:(t != u)=true:=by simpa using h
  rw [J5 h,V8] at r;clear h;go_enter Tryz.func70,Tryz.ntmps70;go_upto_region 1 with fail
  rw [<- J.o];go_wp2;go_ret;exact ⟨qz r.o.symm,B.o⟩
 have n1:(t != u)=false:=by simpa using h
 rw [X0 h,Y1] at r;clear h;by_cases hlm:l.length=m.length
 case neg =>
  have n2:((l.length:Int) != (m.length:Int))=true:=by simp;omega
  have HD:=U (show q=false by rw [r.o];exact J5 fun e=>hlm (by rw [e]));clear hlm;go_enter Tryz.func70,Tryz.ntmps70;go_upto_region 1 with fail
  rw [<- J.o];go_wp2;go_ret;exact ⟨qz HD.o.symm,B.o⟩
 obtain ⟨n,D⟩:=O1 l.length;have F:=U D;have G:=U (show n=m.length by rw [D,hlm]);rw [<- hlm,<- D] at R J X;rw [<- D] at x1 ⊢;rw [<- hlm,<- D];have a0:n<=4294967296:=by omega
 have n2:((n:Int) != (n:Int))=false:=by simp
 clear hlm D hl;go_enter Tryz.func70,Tryz.ntmps70;go_upto_region 1 with fail
 rw [<- J.o];clear J;go_wp2_with fail;clear x0 x1 y0 X;go_loopw [5] (fun i wr=>∃k:Nat,k<=n/\i=.int .i64 k/\l.take k=m.take k/\O5 W wr) (fun i _=>n - (intOf i).toNat)
 case atStart=>exact ⟨0,by omega,rfl,rfl,J0 _ _⟩
 case round =>
  obtain ⟨k,hk,rfl,N,s⟩:=hrel;have H:=U N;have j:=U s;obtain ⟨x0,x1,y0,X⟩:=R.o wr s;clear N s;by_cases hlt:k<n
  . have L:k<l.length:=by rw [<- F.o];exact hlt
    have M:k<m.length:=by rw [<- G.o];exact hlt
    obtain ⟨p,f,V,_,hp,Y⟩:=(HA.o.below j.o lz lz lz).at k L;subst V;obtain ⟨q2,g,V,_,a1,Z⟩:=(Q.o.below j.o lz lz lz).at k M;subst V;have I:=O0 (l[k]=m[k]->l.take (k+1)=m.take (k+1)) (fun e=>by rw [J7 L,J7 M,H.o,e]);have E:=O0 (l[k]≠m[k]->decide (l=m)=false) (fun e=>J5 fun e2=>e (by subst e2;rfl));obtain ⟨x,v⟩:∃x:ByteArray,x=l[k]:=⟨_,rfl⟩;obtain ⟨y,A⟩:∃y:ByteArray,y=m[k]:=⟨_,rfl⟩;replace Y:=Y.trans (Y2 (fun z:ByteArray=>some (Value.string z)) v.symm);replace Z:=Z.trans (Y2 (fun z:ByteArray=>some (Value.string z)) A.symm);rw [<- v,<- A] at I E;clear v A;have m1:(0:Int)<=(k:Int):=by omega
    have m2:(k:Int)<(n:Int):=by omega
    have m3:decide ((k:Int)<(n:Int))=true:=by simpa using hlt
    cases o:(x.toList == y.toList)
    . have T:=U (show q=false by rw [r.o];exact E.o fun e=>by rw [e] at o;simp at o);go_wp2_with fail;go_quiet (fail);go_wp2;go_ret;exact ⟨qz T.o.symm,Below.drewN (B.o.trans (j.o.mono B.o.size)) _⟩
    . have S:=U (I.o (by rw [ba_eq,J6] at o;exact o));go_wp2_with fail;go_quiet (fail);go_wp2;go_roundw
      case rel=>exact ⟨k+1,by omega,by go_num,S.o,Below.drewN j.o _⟩
      case measure=>simp [intOf];omega
  . obtain rfl:k=n:=by omega
    have T:=U (show q=true by
     rw [r.o];have:=H.o;rw [X2 (by rw [<- F.o];exact J9 _),X2 (by rw [<- G.o];exact J9 _)] at this;exact X0 this)
    go_wp2;go_ret;exact ⟨qz T.o.symm,B.o.trans (j.o.mono B.o.size)⟩
