import Derived.Shelf.SlSortCmp.WholeK
import Derived.Test.YthgembbgcbaghaaGreatDoorDt24
import Derived.Test.YthgembbgcbaghaaGreatDoorDt31
set_option maxHeartbeats 4000000
set_option maxRecDepth 100000

namespace Go.Proofs.YthgembbgcbaghaaGreatDoor
open Go.RowKit Go.Sort
def eH (w:World) (e:Ending) (w':World):Prop :=
 e=.returned (.tuple #[.agg #[.string ⟨#[]⟩,.int .u8 0,.int .i64 0,.string ⟨#[]⟩,.slice none 0 0,.slice none 0 0],.int .i64 3])/\Below w.heap.size w w'
def rY (s t:ByteArray) (w:World) (e:Ending) (w':World):Prop :=
 ∃an cn ai ci,e=.returned (.tuple #[.agg #[.string (sr s t),.int .u8 5,.int .i64 0,.string ⟨#[]⟩,.slice an 2 cn,.slice ai 2 ci],.int .i64 0]) /\
  Rep w' w.heap.size w'.heap.size (jr s t) (.agg #[.int .u8 5,.int .i64 0,.string ⟨#[]⟩,.slice an 2 cn,.slice ai 2 ci])/\Below w.heap.size w w'
theorem rG (s t:ByteArray) (w:World) (hs:s.size<=4294967) (ht:t.size<=4294967) (hT:Tabs w) (hk:zh s.data.toList t.data.toList=false) :
 Calls Tryz.prog 87 #[.agg #[.string s,.string t]] w (eH w):=by
 have k:Below w.heap.size w ((w.alloc (.cells #[.string s,.string t] 43)).alloc (.cells #[.string ⟨#[]⟩,.int .u8 0,.int .i64 0,.string ⟨#[]⟩,.slice none 0 0,.slice none 0 0] 120)):=((Z0 _ _).alloc lz _).alloc (by simp) _;have g:=U (nJ s t ((w.alloc (.cells #[.string s,.string t] 43)).alloc (.cells #[.string ⟨#[]⟩,.int .u8 0,.int .i64 0,.string ⟨#[]⟩,.slice none 0 0,.slice none 0 0] 120)) hs ht (hT.below k));unfold xx jK at g;rw [hk] at g;have c:=xW (w.alloc (.cells #[.string s,.string t] 43)) (.string ⟨#[]⟩) (.int .u8 0) (.int .i64 0) (.string ⟨#[]⟩) (.slice none 0 0) (.slice none 0 0) 120;rw [show (w.alloc (.cells #[.string s,.string t] 43)).heap.size=w.heap.size+1 by simp] at c;have h:=U c;have d:=U k;clear hk c k hT;go_enter Tryz.func87,Tryz.ntmps87;go_wp2_with fail;refine g.o.mono ?_;rintro e B ⟨rfl,b⟩;have a:=qj b h.o (by simp);have j:=U a;have f:=U (d.o.trans (b.mono (by simp;omega)));obtain ⟨l,m,o,p,q⟩:=rc5 a;have r:=a.cell (i:=5) (by decide);obtain ⟨u,v,x,y,z⟩:=rf5 a;have A:=a.frozen 5;simp only [qK] at l m o p q r;clear a b;go_wp2;exact J3 (qk Tryz.results87 _ _ (w.heap.size+1) 120 _ (0,0) _ rfl (zJ (yB _ _ _ _ _ _ j.o)) Tryz.underlying120 rfl (by kernel_rfl) _ rfl) rfl ⟨rfl,ji _ _ _ _ _ _ f.o (by omega)⟩
theorem dB (s t:ByteArray) (w:World) (hs:s.size<=4294967) (ht:t.size<=4294967) (hT:Tabs w) (hk:zh s.data.toList t.data.toList=true) :
 Calls Tryz.prog 87 #[.agg #[.string s,.string t]] w (rY s t w):=by
 have E:Below w.heap.size w ((w.alloc (.cells #[.string s,.string t] 43)).alloc (.cells #[.string ⟨#[]⟩,.int .u8 0,.int .i64 0,.string ⟨#[]⟩,.slice none 0 0,.slice none 0 0] 120)):=((Z0 _ _).alloc lz _).alloc (by simp) _;have m:=U (nJ s t ((w.alloc (.cells #[.string s,.string t] 43)).alloc (.cells #[.string ⟨#[]⟩,.int .u8 0,.int .i64 0,.string ⟨#[]⟩,.slice none 0 0,.slice none 0 0] 120)) hs ht (hT.below E));have p:=U (show ((w.alloc (.cells #[.string s,.string t] 43)).alloc (.cells #[.string ⟨#[]⟩,.int .u8 0,.int .i64 0,.string ⟨#[]⟩,.slice none 0 0,.slice none 0 0] 120)).heap[w.heap.size]?=some (.cells #[.string s,.string t] 43 (0,0)) by rw [X5 _ _ _ (by simp)];exact Z4 w _);unfold xx at m;rw [hk,J1 rfl] at m;unfold rY sr;generalize (⟨(jK s.data.toList t.data.toList).toArray⟩:ByteArray)=ID at m ⊢;have G:=U hk;have f:=xW (w.alloc (.cells #[.string s,.string t] 43)) (.string ⟨#[]⟩) (.int .u8 0) (.int .i64 0) (.string ⟨#[]⟩) (.slice none 0 0) (.slice none 0 0) 120;rw [show (w.alloc (.cells #[.string s,.string t] 43)).heap.size=w.heap.size+1 by simp] at f;have o:=U f;have l:=U E;clear hk f E hT;go_enter Tryz.func87,Tryz.ntmps87;go_wp2_with fail;refine m.o.mono ?_;clear m;rintro e k ⟨rfl,d⟩;have D:=U (qj d o.o (by simp));have g:k.heap[w.heap.size]?=some (.cells #[.string s,.string t] 43 (0,0)):=by rw [d.block _ (by simp;omega)];exact p.o
 have J:w.heap.size+2<=k.heap.size:=by have:=d.size;simp at this;omega
 have z:=U (l.o.trans (d.mono (by simp;omega)));have H:k.cell? ⟨w.heap.size,0,none⟩=some (.string s):=qq g rfl;have I:k.cell? ⟨w.heap.size,1,none⟩=some (.string t):=qq g rfl;have F:=U (yI s t k (by omega) (by omega) G.o);clear d p o l g;go_wp2_with fail;refine F.o.mono ?_;clear F;rintro e y ⟨u,x,r,v,rfl,q,c⟩;have B:=U (q.carry (w':=y.alloc (.cells #[.int .u8 5,.int .i64 0,.string ⟨#[]⟩,.slice u 2 x,.slice r 2 v] 25)) lz lz (fun b _ h=>X5 _ _ _ h));have a:=qj (c.alloc c.size (.cells #[.int .u8 5,.int .i64 0,.string ⟨#[]⟩,.slice u 2 x,.slice r 2 v] 25)) D.o (by omega);have A:=U (z.o.trans ((c.alloc c.size (.cells #[.int .u8 5,.int .i64 0,.string ⟨#[]⟩,.slice u 2 x,.slice r 2 v] 25)).mono (by omega)));have K:k.heap.size<=y.heap.size:=c.size;have L:¬(w.heap.size+1=y.heap.size):=by omega
 have C:=U a;obtain ⟨M,N,P,Q,R⟩:=rc5 a;have S:=a.cell (i:=5) (by decide);obtain ⟨T,V,W,X,Y⟩:=rf5 a;have Z:=a.frozen 5;simp only [qK] at M N P Q R S;clear a c q H I;go_wp2;refine J3 (qk Tryz.results87 _ _ (w.heap.size+1) 120 _ (0,0) _ rfl (zJ (yB _ _ _ _ _ _ C.o)) Tryz.underlying120 rfl (by kernel_rfl) _ rfl) rfl ⟨u,x,r,v,rfl,?_,ji _ _ _ _ _ _ A.o (by omega)⟩;exact Rep.carry (by omega) (show y.heap.size<=_ by simp [World.setCell]) (fun j hj _=>pQ _ _ _ _ _ _ (by omega)) _ _ B.o
theorem iH (x y:Mem) (W:World):Calls Tryz.prog 89 #[.agg (qG x).toArray,.agg (qG y).toArray] W fun e w'=>e=.returned (.int .i64 (cfM x y))/\∃q os',w'=grow (W.drewN q) os':=by have a:=fun W'=>Tryz.strings_Compare x.name y.name W';unfold cfM qG;generalize Lib.compareBytes x.name.data.toList y.name.data.toList=r at a ⊢;go_enter Tryz.func89,Tryz.ntmps89;go_wp2_with (go_at_call 155;refine (a _).mono ?_;rintro e w' ⟨rfl,rfl⟩);go_ret;exact ⟨rfl,0,_,by rw [alloc_eq_grow,alloc_eq_grow,grow_grow];rfl⟩
open Go.Shelf
theorem dP:∀a b:List UInt8,decide (Lib.compareBytes a b<0)=Op.bytesLess a b
 | [],[]=>rfl
 | [],_ :: _=>rfl
 | _ :: _,[]=>rfl
 | a :: ax,b :: bx=>by
  unfold Lib.compareBytes Op.bytesLess;by_cases h1:a<b
  . simp [h1]
  . by_cases h2:b<a
    . have:¬a=b:=fun e=>by subst e;exact h1 h2
      simp [h1,h2,this]
    . have e:a=b:=UInt8.le_antisymm (UInt8.not_lt.1 h2) (UInt8.not_lt.1 h1);subst e;rw [Z5 h1,Z5 h1,dP ax bx];simp
theorem bH (x y:Mem):ltOf cfM x y=bl x.name y.name:=by unfold ltOf cfM bl;rw [dP,X2,X2]
theorem sN {a b c:ByteArray} (h:bl a b=false) (h':bl b c=false):bl a c=false:=by
 cases h2:bl a c
 . rfl
 . cases h3:bl b a
   . rw [mV h h3,h'] at h2;cases h2
   . rw [jz h3 h2] at h';cases h'
theorem Zh:SWO (ltOf cfM) where
 irrefl x:=by rw [bH];exact zK _
 trans x y z:=by rw [bH,bH,bH];exact jz
 ntrans x y z:=by rw [bH,bH,bH];exact sN
def sS (d d':Array Mem):Prop:=d'.size=d.size/\d'.toList.Perm d.toList/\∀i j,i<j->j<d.size->bl d'[j]!.name d'[i]!.name=false
def iU (blk off:Nat) (d:Array Mem) (w:World) (e:Ending) (w':World):Prop :=
 e=.returned (.tuple #[])/\∃d',sS d d'/\HoldsK qG 6 w' blk off d'/\Touch (· = blk) w w'
theorem ez (blk off cap:Nat) (d:Array Mem) (w:World) (hH:HoldsK qG 6 w blk off d) (hblk:blk<w.heap.size) (h12:d.size<=4294967296) :
 Calls Tryz.prog 88 #[.slice (some ⟨blk,off,none⟩) d.size cap,.func (.func 89) #[] #[]] w (iU blk off d w):=by
 have h:∀args w,(callFunc 89 args).run Tryz.prog w=.ok (.enter 89 args) w:=enters_of Tryz.func89 (by kernel_rfl) rfl;have a:=AnyQ.slices_SortFunc nC 6 Tryz.isAgg120 Tryz.sizeOf120 qG zH jX cfM Zh 89 #[] blk off cap d w h (fun _ _ _ _ x y=>iH x y _) hH hblk (by omega);refine a.mono ?_;rintro e w' ⟨rfl,c,n,l,b,k,rfl⟩;refine ⟨rfl,c,⟨b.1,?_,fun i j hij hj=>?_⟩,holdsK_grow qG 6 _ _ _ _ _ (by simp [putRowK,Go.Sort.ahead];exact hblk) (holdsK_putRowK qG 6 _ _ _ d _ (holdsK_ahead qG 6 _ _ _ _ _ hH) b.1),j9⟩
 . have:=b.2.2;have f:c.extract 0 d.size=c:=by rw [<- b.1];simp
   have g:d.extract 0 d.size=d:=by simp
   rwa [f,g] at this
 . have:=k i j (J8 _) hij hj;rwa [bH] at this
def jL (seen:List ByteArray):List Key2->Int
 | []=>0
 | k :: r=>if ok2 k then (if ju seen (id2 k) then 7 else jL (seen ++ [id2 k]) r) else 3
def wI (l:List Key2):Int:=if 32<l.length then 5 else jL [] l
theorem bU (l:List Key2) (k:Nat) (h:k<l.length):jL (ids (l.take k)) (l.drop k)=if ok2 l[k] then (if ju (ids (l.take k)) (id2 l[k]) then 7 else jL (ids (l.take (k+1))) (l.drop (k+1))) else 3:=by
 rw [K0 h,jL];have:ids (l.take k) ++ [id2 l[k]]=ids (l.take (k+1)):=by unfold ids;rw [Z6 h,N6];rfl
 rw [this]
theorem wV:∀(l:List Key2) (seen:List ByteArray),jL seen l=0↔(∀k ∈ l,ok2 k=true)/\(∀k ∈ l,id2 k ∉ seen)/\(ids l).Nodup
 | [],seen=>by simp [jL,ids]
 | k :: r,seen=>by
  unfold jL;have ih:=wV r (seen ++ [id2 k]);by_cases h1:ok2 k=true
  . rw [J1 h1];by_cases h2:ju seen (id2 k)=true
    . rw [J1 h2];have:=(jC _ _).1 h2;constructor
      . intro h;cases h
      . rintro ⟨_,h,_⟩;exact absurd this (h k (N9 ..))
    . rw [Z5 h2,ih];have h3:id2 k ∉ seen:=fun h=>h2 ((jC _ _).2 h);unfold ids;rw [G9,List.nodup_cons];constructor
      . rintro ⟨a,b,c⟩;refine ⟨fun x hx=>?_,fun x hx=>?_,fun hm=>?_,c⟩
        . rcases G3.1 hx with rfl|hx
          . exact h1
          . exact a x hx
        . rcases G3.1 hx with rfl|hx
          . exact h3
          . exact fun h=>b x hx (List.mem_append_left _ h)
        . obtain ⟨x,hx,e⟩:=M4.1 hm;exact b x hx (by rw [e];simp)
      . rintro ⟨a,b,c,d⟩;refine ⟨fun x hx=>a x (K9 _ hx),fun x hx hm=>?_,d⟩;rcases zb7.1 hm with hm|hm
        . exact b x (K9 _ hx) hm
        . simp at hm;exact c (M4.2 ⟨x,hx,hm⟩)
  . rw [Z5 h1];constructor
    . intro h;cases h
    . rintro ⟨h,_⟩;exact absurd (h k (N9 ..)) h1
theorem dF {α β:Type} (f:α->β) {l1 l2:List β} (h:l1.Perm l2):∀zs:List α,zs.map f=l2->∃zs':List α,zs'.Perm zs/\zs'.map f=l1:=by
 induction h with
 | nil=>intro zs h;exact ⟨[],by rw [List.map_eq_nil_iff.1 h],rfl⟩
 | cons x _ ih =>
  intro zs h
  match zs,h with
  | z :: zr,h => simp only [G9,W8] at h;obtain ⟨zs',g,e⟩:=ih zr h.2;exact ⟨z :: zs',g.cons z,by simp [e,h.1]⟩
 | swap x y r =>
  intro zs h
  match zs,h with
  | [_],h=>simp at h
  | a :: b :: zr,h => simp only [G9,W8] at h;exact ⟨b :: a :: zr,List.Perm.swap _ _ _,by simp [h.1,h.2.1,h.2.2]⟩
 | trans _ _ ih1 ih2 => intro zs h;obtain ⟨k,i,c⟩:=ih2 zs h;obtain ⟨l,j,d⟩:=ih1 k c;exact ⟨l,j.trans i,d⟩
theorem uO {l:List ByteArray} (h:∀i j (hi:i<l.length) (hj:j<l.length),i<j->bl l[i] l[j]=true):qe l=true:=by
 match l with
 | []=>rfl
 | [_]=>rfl
 | a :: b :: r => unfold qe;rw [J4];refine ⟨h 0 1 (by simp) (by simp) (by omega),uO fun i j hi hj hij=>?_⟩;have:=h (i+1) (j+1) (by simpa using hi) (by simpa using hj) (by omega);simpa using this
theorem mO {m1 m2:List Key2} (hp:m1.Perm m2) (h1:qe (ids m1)=true) (h2:qe (ids m2)=true):m1=m2:=by
 have c:∀m:List Key2,qe (ids m)=true->m.Pairwise (fun a b=>bl (id2 a) (id2 b)=true):=fun m h=>by rw [N8];intro i j hi hj hij;have:=jZ h i j (by simpa [ids] using hi) (by simpa [ids] using hj) hij;simpa [ids] using this
 refine hp.eq_of_pairwise (le:=fun a b=>bl (id2 a) (id2 b)=true) (fun a b _ _ x y=>?_) (c m1 h1) (c m2 h2);rw [cN x] at y;cases y
def xU (w:World) (base:Nat) (X:Nat->Prop) (zs:List (Mem × Key2)):Prop :=
 ∀z ∈ zs,z.1.name=id2 z.2/\∃lo hi,base<=lo/\hi<=w.heap.size/\(∀b,X b->¬(lo<=b/\b<hi))/\Rep w lo hi (obj2 z.2) z.1.val
theorem xU.nil (w:World) (base:Nat) (X:Nat->Prop):xU w base X []:=fun z h=>by simp at h
theorem xU.carry {w w':World} {base:Nat} {X X':Nat->Prop} {zs:List (Mem × Key2)} (h:xU w base X zs) (hsz:w.heap.size<=w'.heap.size)
 (hs:∀b,b<w.heap.size->¬X b->base<=b->w'.heap[b]?=w.heap[b]?) (hX:∀b,X' b->X b\/w.heap.size<=b\/b<base):xU w' base X' zs:=by
 intro z hz;obtain ⟨d,f,hi,c,g,a,e⟩:=h z hz;refine ⟨d,f,hi,c,by omega,fun b hx hb=>?_,Rep.carry lz lz (fun b hb1 hb2=>hs b (by omega) (fun hx=>a b hx ⟨hb1,hb2⟩) (by omega)) _ _ e⟩;rcases hX b hx with hx|hx|hx
 . exact a b hx hb
 . omega
 . omega
theorem xU.snoc {w:World} {base:Nat} {X:Nat->Prop} {zs:List (Mem × Key2)} (h:xU w base X zs) (x:Mem) (k:Key2) (lo hi:Nat) (hn:x.name=id2 k) (h1:base<=lo) (h2:hi<=w.heap.size) (h3:∀b,X b->¬(lo<=b/\b<hi)) (hr:Rep w lo hi (obj2 k) x.val) :
 xU w base X (zs ++ [(x,k)]):=by
 intro z hz;rcases zb7.1 hz with hz|hz
 . exact h z hz
 . simp at hz;subst hz;exact ⟨hn,lo,hi,h1,h2,h3,hr⟩
theorem xU.perm {w:World} {base:Nat} {X:Nat->Prop} {zs zs':List (Mem × Key2)} (h:xU w base X zs) (hp:zs'.Perm zs):xU w base X zs':=fun z hz=>h z (hp.subset hz)
theorem flat_get {ms:List Mem} (i c:Nat) (hi:i<ms.length) (hc:c<6):(ms.flatMap qG)[i * 6+c]?=some ((qG ms[i])[c]!):=by
 induction ms generalizing i with
 | nil=>simp at hi
 | cons m r ih =>
  rw [List.flatMap_cons];rcases i with _|i
  . rw [G5 (by rw [zH];omega)];rw [Nat.zero_mul,Nat.zero_add];have:c<(qG m).length:=by rw [zH];exact hc
    rw [Y5 this];show some _=some ((qG m)[c]!);rw [getElem!_pos (qG m) c this]
  . rw [V5 (by rw [zH];omega),zH,show (i+1) * 6+c - 6=i * 6+c by omega];exact ih i (by simpa using hi)
theorem rB {w:World} {base e g cap n:Nat} {ms:List Mem} (h:w.ownsRow base e 6 (.slice (some ⟨g,0,none⟩) n cap) n (ms.flatMap qG)):HoldsK qG 6 w g 0 ms.toArray:=by
 intro j hj;have a:j<ms.length * 6:=by simpa using hj
 rcases h.2 with ⟨hx,_⟩|⟨g',cap',cur,hx,hg,hh,_⟩
 . cases hx
 . simp only [V2,K7,Addr.mk.injEq,M9] at hx;obtain ⟨rfl,_⟩:=hx;refine ⟨?_,by simp [World.frozen?,hh]⟩;have d:j / 6<ms.length:=by omega
   have i:j % 6<6:=Nat.mod_lt _ (by decide);have c:=flat_get (ms:=ms) (j / 6) (j % 6) d i;rw [show j / 6 * 6+j % 6=j by omega] at c;have b:=h.cells (g:=g) rfl j _ c;have f:(⟨g,0,none⟩:Addr).add j=⟨g,j,none⟩:=by unfold Addr.add;split <;> simp_all
   rw [f] at b;rw [Nat.zero_add,b,get_flatK _ _ _ _ (by simpa using a)];congr 2;simp [d]
theorem Qu (W:World):Calls Tryz.prog 209 #[.slice none 0 0,.int .i64 0,.int .i64 0,.func (.func 89) #[] #[]] W fun e w'=>e=.returned (.tuple #[])/\w'=W:=by
 go_enter Tryz.func209,Tryz.ntmps209;go_wp2;go_loopw [8] (fun i wr=>i=.int .i64 1/\wr=W) (fun _ _=>0)
 case atStart=>exact ⟨rfl,rfl⟩
 case round =>
  obtain ⟨rfl,rfl⟩:=hrel;go_wp2
  go_end0
  exact ⟨rfl,rfl⟩
theorem Qm (W:World) (lim:Int):Calls Tryz.prog 153 #[.slice none 0 0,.int .i64 0,.int .i64 0,.int .i64 lim,.func (.func 89) #[] #[]] W fun e w'=>e=.returned (.tuple #[])/\w'=W:=by
 have H:=Qu W;go_enter Tryz.func153,Tryz.ntmps153;go_wp2;go_loopw [1,2,3,10,11,12,13,14,15,16,17,18,19,20] (fun a b _ _ _ _ _ _ _ _ _ _ _ _ wr=>a=.int .i64 0/\b=.int .i64 0/\wr=W) (fun _ _ _ _ _ _ _ _ _ _ _ _ _ _ _=>0)
 case atStart=>exact ⟨rfl,rfl,rfl⟩
 case round =>
  obtain ⟨rfl,rfl,rfl⟩:=hrel;go_wp2_with fail;refine H.mono ?_;rintro e c ⟨rfl,rfl⟩;go_wp2
  (try simp only [Exit.inBlock,Exit.then])
  refine J3 (results_none rfl _ _ _) rfl ?_;exact ⟨rfl,rfl⟩
theorem ex (w:World):Calls Tryz.prog 88 #[.slice none 0 0,.func (.func 89) #[] #[]] w fun e w'=>e=.returned (.tuple #[])/\w'=w:=by
 have a:=Tryz.bits_Len 0 w (by omega) (by omega);go_enter Tryz.func88,Tryz.ntmps88;go_wp2_with fail;refine a.mono ?_;rintro e b ⟨rfl,rfl⟩;go_wp2_with fail;refine (Qm _ _).mono ?_;rintro e c ⟨rfl,rfl⟩;go_wp2
 go_end0
 exact ⟨rfl,rfl⟩
theorem bM (x:DelegV):qt x=(zf x.name.data.toList && (!vp x.name && (xw x.au.thr x.au.ids && (if 0<x.paths.length then decide (x.pres.length=0) && (decide (x.paths.length<=32) && x.paths.all qN) else decide (0<x.pres.length) && (decide (x.pres.length<=32) && x.pres.all preB))))):=by
 unfold qt jv;have a:(x.paths≠[])=(0<x.paths.length):=by rw [zb5]
 have b:x.pres.isEmpty=decide (x.pres.length=0):=by cases x.pres <;> rfl
 have c:(!x.pres.isEmpty)=decide (0<x.pres.length):=by cases x.pres <;> rfl
 simp only [a,Bool.and_assoc];congr 3;split
 . rw [b]
 . rw [c]
theorem ky (x:DelegV) (ia pa qa:Option Addr) (ic pc qc:Nat) (w:World) (hI:DelegIn w 0 w.heap.size x ia pa qa) (hf:DelegFits x) :
 Calls Tryz.prog 77 #[.agg #[.string x.name,.int .i64 x.au.thr,.slice ia x.au.ids.length ic,.bool x.term,.slice pa x.paths.length pc,.slice qa x.pres.length qc]] w fun e w'=>e=.returned (.bool (qt x))/\Below w.heap.size w w':=by
 have c:=U (bM x);obtain ⟨V,hV⟩:=O1 (qt x);rw [<- hV] at c ⊢;clear hV;obtain ⟨s,⟨k,i⟩,l,u,v⟩:=x;dsimp only at c hI hf ⊢;obtain ⟨Z,Q,L,M⟩:=hf;obtain ⟨S,T,X⟩:=hI;dsimp only at Z Q L M S T X;obtain ⟨W,N⟩:=O1 (w.alloc (.cells #[.string s,.int .i64 k,.slice ia i.length ic,.bool l,.slice pa u.length pc,.slice qa v.length qc] 41));have g:Below w.heap.size w W:=by rw [N];exact (Z0 _ _).alloc lz _
 have H:W.heap[w.heap.size]?=some (.cells #[.string s,.int .i64 k,.slice ia i.length ic,.bool l,.slice pa u.length pc,.slice qa v.length qc] 41 (0,0)):=by rw [N];exact Z4 w _
 have q:=U g;have z:=U H;have Y:=U N;have q0:=qq H (j:=0) rfl;have q1:=qq H (j:=1) rfl;have q2:=qq H (j:=2) rfl;have r:=U (fun w=>ko s w (by omega));have y:=U (fun w=>nc s w);have I:=U (nW k i ia ic W (S.below g lz lz g.size) Q.2.2);have J:=U (fun (d:World) (h:Below w.heap.size w d)=>ug u pa pc d (T.below h lz lz h.size) L.1 L.2);have K:=U (fun (d:World) (h:Below w.heap.size w d)=>mN v qa qc d (X.below h lz lz h.size) M.1 M.2);clear g H N Z Q L M S T X;obtain ⟨b1,C⟩:∃b,b=zf s.data.toList:=⟨_,rfl⟩;obtain ⟨b2,D⟩:∃b,b=vp s:=⟨_,rfl⟩;obtain ⟨b3,E⟩:∃b,b=xw k i:=⟨_,rfl⟩;rw [<- C] at r c;rw [<- D] at y c;rw [<- E] at I c;clear C D E;go_enter Tryz.func77,Tryz.ntmps77;go_upto_region 1 with fail
 rw [<- Y.o];clear Y;cases b1
 . go_wp2_with (go_at_call 134;refine (r.o _).mono ?_;rintro e d ⟨rfl,rfl⟩)
   go_ret;exact ⟨qz c.o.symm,q.o⟩
 cases b2
 case true =>
  go_wp2_with (first|(go_at_call 134;refine (r.o _).mono ?_;rintro e d ⟨rfl,rfl⟩)|(go_at_call 135;refine (y.o _).mono ?_;rintro e d ⟨rfl,rfl⟩))
  go_ret;exact ⟨qz c.o.symm,q.o⟩
 cases b3
 . go_wp2_with (first|(go_at_call 134;refine (r.o _).mono ?_;rintro e d ⟨rfl,rfl⟩)|(go_at_call 135;refine (y.o _).mono ?_;rintro e d ⟨rfl,rfl⟩)|(go_at_call 136;refine I.o.mono ?_;rintro e d ⟨rfl,f⟩;have a:=U (O2 q f);clear f))
   go_ret;exact ⟨qz c.o.symm,a.o⟩
 obtain ⟨A,hA⟩:=O1 ((decide (u.length<=32) && u.all qN));obtain ⟨B,hB⟩:=O1 ((decide (v.length<=32) && v.all preB));rw [<- hA] at J c;rw [<- hB] at K c;clear hA hB;obtain ⟨p,F⟩:=O1 u.length;obtain ⟨nq,G⟩:=O1 v.length;rw [<- F] at J c z ⊢;rw [<- G] at K c z ⊢;clear F G;go_upto_region 3 with (first|(go_at_call 134;refine (r.o _).mono ?_;rintro e d ⟨rfl,rfl⟩)|(go_at_call 135;refine (y.o _).mono ?_;rintro e d ⟨rfl,rfl⟩)|(go_at_call 136;refine I.o.mono ?_;rintro e d ⟨rfl,f⟩;have a:=U (O2 q f);have R:=(f.block _ (qx z.o)).trans z.o;have z4:=qq R (j:=4) rfl;have z5:=qq R (j:=5) rfl;clear f R))
 clear r y I z q0 q1 q2;by_cases hp0:0<p
 . have d1:decide (0<(p:Int))=true:=by rw [Q6];omega
   have d4:decide (0<p)=true:=by rw [Q6];omega
   by_cases hq0:nq=0
   . have P:((nq:Int) == 0)=true:=by rw [zc6];omega
     have o:=U (show V=A by rw [c.o,J1 hp0,J2 hq0];simp);clear K;go_upto_region 4 with fail
     go_wp2_with (go_at_call 137;refine (J.o _ a.o).mono ?_;rintro e w5 ⟨rfl,f⟩;have m:=U (O2 a f);clear f)
     go_ret;exact ⟨qz o.o.symm,m.o⟩
   . have P:((nq:Int) == 0)=false:=by rw [Y8];omega
     have o:=U (show V=false by rw [c.o,J1 hp0,Z7 hq0];simp);go_wp2;go_ret;exact ⟨qz o.o.symm,a.o⟩
 . have d1:decide (0<(p:Int))=false:=by rw [Y4];omega
   have d4:decide (0<p)=false:=by rw [Y4];omega
   by_cases hq0:0<nq
   . have P:decide (0<(nq:Int))=true:=by rw [Q6];omega
     have d3:decide (0<nq)=true:=by rw [Q6];omega
     have o:=U (show V=B by rw [c.o,Z5 hp0,J2 hq0];simp);clear J;go_upto_region 5 with fail
     go_wp2_with (go_at_call 137;refine (K.o _ a.o).mono ?_;rintro e w5 ⟨rfl,f⟩;have m:=U (O2 a f);clear f)
     go_ret;exact ⟨qz o.o.symm,m.o⟩
   . have P:decide (0<(nq:Int))=false:=by rw [Y4];omega
     have d3:decide (0<nq)=false:=by rw [Y4];omega
     have o:=U (show V=false by rw [c.o,Z5 hp0,Z7 hq0];simp);go_wp2;go_ret;exact ⟨qz o.o.symm,a.o⟩
theorem up (l:List DelegV) (a:Option Addr) (c:Nat) (w:World) (hA:zk w 0 w.heap.size a l) (hl:l.length<=4294967296) (hc:l.length<=c) (hf:∀x ∈ l,DelegFits x) :
 Calls Tryz.prog 83 #[.slice a l.length c] w fun e w'=>e=.returned (.bool (zn l))/\Below w.heap.size w w':=by
 have HA:=U hA;have HF:=U hf;clear hA hf;obtain ⟨n,hn⟩:=O1 l.length;have HN:=U hn;rw [<- hn] at hl hc ⊢;clear hn;obtain ⟨V,C⟩:=O1 (zn l);have f:=U C;rw [<- C];clear C;by_cases h64:64<n
 . have HR:=U (f.o.trans (yg (l:=l) (by rw [<- HN.o];omega)));have d1:decide (64<(n:Int))=true:=by rw [Q6];omega
   go_enter Tryz.func83,Tryz.ntmps83;go_wp2;go_ret;exact ⟨qz HR.o.symm,Z0 _ _⟩
 have d1:decide (64<(n:Int))=false:=by rw [Y4];omega
 have a8:n<=64:=by omega
 clear h64;go_enter Tryz.func83,Tryz.ntmps83;go_wp2;go_loopw [3,4,10] (fun _ _ i wr=>∃k:Nat,k<=n/\i=.int .i64 k/\(∀j (h:j<l.length),j<k->qt l[j]=true)/\(∀j (h:j<l.length),j<k->((l.take j).any fun y=>decide (y.name=l[j].name))=false)/\Below w.heap.size w wr) (fun _ _ i _=>n - (intOf i).toNat)
 case atStart=>exact ⟨0,by omega,rfl,fun j _ h=>by omega,fun j _ h=>by omega,Z0 _ _⟩
 case round =>
  obtain ⟨k,hk,rfl,b3,b4,b0⟩:=hrel;have a5:=U b3;have a6:=U b4;have F:=U b0;clear b3 b4 b0;by_cases hlt:k<n
  . have Z:k<l.length:=by rw [<- HN.o];exact hlt
    obtain ⟨b,o,ha,-,hb,N,P,Q,R,S,T,e0,e1,e2,e3,e4,e5,-,-,-,a2⟩:=(HA.o.below F.o lz lz F.o.size).at k Z;have b5:=U (HA.o.take k);subst ha;have m1:(0:Int)<=(k:Int):=by omega
    have m2:(k:Int)<(n:Int):=by omega
    have m3:decide ((k:Int)<(n:Int))=true:=by simpa using hlt
    have c1:(k:Int)<=(c:Int):=by omega
    have D:=U (vF (l:=l) Z);have H:=U (kW (l:=l) Z);have a0:=U (show qt l[k]=true->∀j (h:j<l.length),j<k+1->qt l[j]=true from fun h0 j hj hjk=>by
     rcases Y1.1 hjk with h1|h1
     . exact a5.o j hj h1
     . subst h1;exact h0)
    have a1:=U (show ((l.take k).any fun y=>decide (y.name=l[k].name))=false->∀j (h:j<l.length),j<k+1->((l.take j).any fun y=>decide (y.name=l[j].name))=false from fun h0 j hj hjk=>by
     rcases Y1.1 hjk with h1|h1
     . exact a6.o j hj h1
     . subst h1;exact h0)
    have a4:=U (HF.o l[k] (J7 Z));obtain ⟨x,hx⟩:=O1 (l[k]);rw [<- hx] at e0 e1 e2 e3 e4 e5 a2 D H a0 a1 a4;clear hx;obtain ⟨z,s,M,J,L⟩:=x;dsimp only at e0 e1 e2 e3 e4 e5;obtain ⟨A,Y⟩:=O1 (wr.alloc (.cells #[.string z,.int .i64 s.thr,.slice N s.ids.length P,.bool M,.slice Q J.length R,.slice S L.length T] 41));have B:Below wr.heap.size wr A:=by rw [Y];exact (Z0 _ _).alloc lz _
    have a3:A.heap[wr.heap.size]?=some (.cells #[.string z,.int .i64 s.thr,.slice N s.ids.length P,.bool M,.slice Q J.length R,.slice S L.length T] 41 (0,0)):=by rw [Y];exact Z4 wr _
    have u:=U (O2 F B);have r:=U (show ∀w':World,Below A.heap.size A w'->w'.cell? ⟨wr.heap.size,0,none⟩=some (.string z)/\w'.cell? ⟨wr.heap.size,1,none⟩=some (.int .i64 s.thr)/\w'.cell? ⟨wr.heap.size,2,none⟩=some (.slice N s.ids.length P)/\w'.cell? ⟨wr.heap.size,3,none⟩=some (.bool M)/\w'.cell? ⟨wr.heap.size,4,none⟩=some (.slice Q J.length R)/\w'.cell? ⟨wr.heap.size,5,none⟩=some (.slice S L.length T) from fun w' h=>by
     have hz:=(h.block _ (qx a3)).trans a3;exact ⟨qq hz rfl,qq hz rfl,qq hz rfl,qq hz rfl,qq hz rfl,qq hz rfl⟩)
    have X:=O0 (∀w':World,Below A.heap.size A w'->_) (fun w' h=>ky ⟨z,s,M,J,L⟩ N Q S P R T w' (a2.below (B.trans (h.mono B.size)) lz lz (Z3 B.size h.size)) a4.o);have W:=O0 (∀w':World,Below A.heap.size A w'->_) (fun w' h=>gv (l.take k) z (some ⟨b,o,none⟩) c w' (b5.o.below (O2 u h) lz lz (Z3 u.o.size h.size)) (by rw [N7];omega));have b9:=U (show (l.take k).length=k by rw [N7];omega);rw [b9.o] at W;have a7:=U Y;have c0:=U B.size;obtain ⟨b1,a9⟩:∃b,b=qt ⟨z,s,M,J,L⟩:=⟨_,rfl⟩;obtain ⟨b2,p⟩:=O1 ((l.take k).any fun y=>decide (y.name=z));rw [<- a9] at X D a0;rw [<- p] at W H a1;clear B a3 Y a9 p a2;go_upto_region 6 with fail
    rw [<- a7.o];clear e0 e1 e2 e3 e4 e5 a7;cases b1
    . have HR:=U (f.o.trans (D.o rfl));obtain ⟨V,C⟩:∃V:List MP,V=[.con (.agg #[.string z,.int .i64 s.thr,.slice N s.ids.length P,.bool M,.slice Q J.length R,.slice S L.length T]),.con (.bool false),.con (.bool true),.con (.bool true),.any,.any,.any,.any,.any,.any]:=⟨_,rfl⟩;have f:=U C;clear C;refine qE 10 (fun d I w'=>∃x15 x16 x17 x18 x19 x20 x21 x22 x23 x24,I=⟨#[Value.slice (some { block:=b,off:=o }) n c,undef,u2,Value.int IntKind.i64 (k:Int),Value.pointer (some { block:=wr.heap.size,off:=0 }),Value.slice (some { block:=b,off:=o }) n c,Value.int IntKind.i64 (n:Int),Value.bool false,Value.slice (some { block:=b,off:=o }) n c,Value.int IntKind.i64 (n:Int),Value.int IntKind.i64 (k:Int),Value.bool true,Value.int IntKind.i64 (k:Int),Value.pointer (some { block:=b,off:=o+k * 6 }),Value.agg #[Value.string z,Value.int IntKind.i64 s.thr,Value.slice N s.ids.length P,Value.bool M,Value.slice Q J.length R,Value.slice S L.length T],x15,x16,x17,x18,x19,x20,x21,x22,x23,x24,u25,u26],[]⟩/\zT A V d w' [x15,x16,x17,x18,x19,x20,x21,x22,x23,x24]) (by kernel_rfl) (by kernel_rfl) ?first ?step ?last
      case first=>exact ⟨_,_,_,_,_,_,_,_,_,_,rfl,zT.first _ _ _ (by rw [f.o];rfl)⟩
      case step =>
       rintro d I w' ⟨x15,x16,x17,x18,x19,x20,x21,x22,x23,x24,rfl,h⟩ q hq hn g;rcases q with _|_|_|_|_|_|_|_|_|_|q
       . obtain ⟨q0,q1,q2,q3,q4,q5⟩:=r.o w' h.1;refine Z9 rfl fun K hK=>?_;go_simp;exact hK _ _ ⟨_,_,_,_,_,_,_,_,_,_,rfl,h.sameC 0 _ f rfl⟩
       . obtain rfl:=h.cn g f 0 .data;obtain ⟨q0,q1,q2,q3,q4,q5⟩:=r.o w' h.1;refine Z9 rfl fun K hK=>?_;go_simp;refine (X.o w' h.1).mono ?_;rintro e w2 ⟨rfl,p⟩;exact hK _ _ ⟨_,_,_,_,_,_,_,_,_,_,rfl,h.didC p 1 _ f rfl⟩
       . obtain rfl:=h.cn g f 1 .data;refine Z9 rfl fun K hK=>?_;go_simp;exact hK _ _ ⟨_,_,_,_,_,_,_,_,_,_,rfl,h.sameC 2 _ f rfl⟩
       . obtain rfl:=h.cn g f 2 .data;refine Z9 rfl fun K hK=>?_;go_simp;exact hK _ _ ⟨_,_,_,_,_,_,_,_,_,_,rfl,h.sameC 3 _ f rfl⟩
       . obtain rfl:=h.cn g f 3 .guard;refine Z9 rfl fun K hK=>?_;go_simp;exact hK _ _ ⟨_,_,_,_,_,_,_,_,_,_,rfl,h.same 4 _ .any (by rw [f.o];rfl) trivial⟩
       . obtain rfl:=h.cn g f 3 .guard;refine Z9 rfl fun K hK=>?_;go_simp;exact hK _ _ ⟨_,_,_,_,_,_,_,_,_,_,rfl,h.same 5 _ .any (by rw [f.o];rfl) trivial⟩
       . obtain rfl:=h.cn g f 3 .guard;refine Z9 rfl fun K hK=>?_;go_simp;exact hK _ _ ⟨_,_,_,_,_,_,_,_,_,_,rfl,h.same 6 _ .any (by rw [f.o];rfl) trivial⟩
       . obtain rfl:=h.cn g f 3 .guard;refine Z9 rfl fun K hK=>?_;go_simp;exact hK _ _ ⟨_,_,_,_,_,_,_,_,_,_,rfl,h.same 7 _ .any (by rw [f.o];rfl) trivial⟩
       . obtain rfl:=h.cn g f 3 .guard;refine Z9 rfl fun K hK=>?_;go_simp;exact hK _ _ ⟨_,_,_,_,_,_,_,_,_,_,rfl,h.same 8 _ .any (by rw [f.o];rfl) trivial⟩
       . obtain rfl:=h.cn g f 3 .chain;refine Z9 rfl fun K hK=>?_;go_simp;exact hK _ _ ⟨_,_,_,_,_,_,_,_,_,_,rfl,h.same 9 _ .any (by rw [f.o];rfl) trivial⟩
       . omega
      case last => rintro d I w' m ⟨x15,x16,x17,x18,x19,x20,x21,x22,x23,x24,rfl,h⟩;have v:=h.1;obtain rfl:=h.con 3 (m _ (by omega)) f rfl rfl;have G:=U v;clear h m v f;have E:=U (u.o.trans (G.o.mono u.o.size));go_wp2;go_ret;exact ⟨qz HR.o.symm,E.o⟩
    . cases b2
      . have b6:=U (a0.o rfl);have b7:=U (a1.o rfl);obtain ⟨V,C⟩:∃V:List MP,V=[.con (.agg #[.string z,.int .i64 s.thr,.slice N s.ids.length P,.bool M,.slice Q J.length R,.slice S L.length T]),.con (.bool true),.con (.bool false),.con (.bool false),.con (.slice (some ⟨b,o,none⟩) n c),.con (.int .i64 (k:Int)),.con (.slice (some ⟨b,o,none⟩) k c),.con (.pointer (some ⟨wr.heap.size,0,none⟩)),.con (.string z),.con (.bool false)]:=⟨_,rfl⟩;have f:=U C;clear C;refine qE 10 (fun d I w'=>∃x15 x16 x17 x18 x19 x20 x21 x22 x23 x24,I=⟨#[Value.slice (some { block:=b,off:=o }) n c,undef,u2,Value.int IntKind.i64 (k:Int),Value.pointer (some { block:=wr.heap.size,off:=0 }),Value.slice (some { block:=b,off:=o }) n c,Value.int IntKind.i64 (n:Int),Value.bool false,Value.slice (some { block:=b,off:=o }) n c,Value.int IntKind.i64 (n:Int),Value.int IntKind.i64 (k:Int),Value.bool true,Value.int IntKind.i64 (k:Int),Value.pointer (some { block:=b,off:=o+k * 6 }),Value.agg #[Value.string z,Value.int IntKind.i64 s.thr,Value.slice N s.ids.length P,Value.bool M,Value.slice Q J.length R,Value.slice S L.length T],x15,x16,x17,x18,x19,x20,x21,x22,x23,x24,u25,u26],[]⟩/\zT A V d w' [x15,x16,x17,x18,x19,x20,x21,x22,x23,x24]) (by kernel_rfl) (by kernel_rfl) ?first ?step ?last
        case first=>exact ⟨_,_,_,_,_,_,_,_,_,_,rfl,zT.first _ _ _ (by rw [f.o];rfl)⟩
        case step =>
         rintro d I w' ⟨x15,x16,x17,x18,x19,x20,x21,x22,x23,x24,rfl,h⟩ q hq hn g;rcases q with _|_|_|_|_|_|_|_|_|_|q
         . obtain ⟨q0,q1,q2,q3,q4,q5⟩:=r.o w' h.1;refine Z9 rfl fun K hK=>?_;go_simp;exact hK _ _ ⟨_,_,_,_,_,_,_,_,_,_,rfl,h.sameC 0 _ f rfl⟩
         . obtain rfl:=h.cn g f 0 .data;obtain ⟨q0,q1,q2,q3,q4,q5⟩:=r.o w' h.1;refine Z9 rfl fun K hK=>?_;go_simp;refine (X.o w' h.1).mono ?_;rintro e w2 ⟨rfl,p⟩;exact hK _ _ ⟨_,_,_,_,_,_,_,_,_,_,rfl,h.didC p 1 _ f rfl⟩
         . obtain rfl:=h.cn g f 1 .data;refine Z9 rfl fun K hK=>?_;go_simp;exact hK _ _ ⟨_,_,_,_,_,_,_,_,_,_,rfl,h.sameC 2 _ f rfl⟩
         . obtain rfl:=h.cn g f 2 .data;refine Z9 rfl fun K hK=>?_;go_simp;exact hK _ _ ⟨_,_,_,_,_,_,_,_,_,_,rfl,h.sameC 3 _ f rfl⟩
         . obtain rfl:=h.cn g f 3 .guard;refine Z9 rfl fun K hK=>?_;go_simp;exact hK _ _ ⟨_,_,_,_,_,_,_,_,_,_,rfl,h.sameC 4 _ f rfl⟩
         . obtain rfl:=h.cn g f 3 .guard;refine Z9 rfl fun K hK=>?_;go_simp;exact hK _ _ ⟨_,_,_,_,_,_,_,_,_,_,rfl,h.sameC 5 _ f rfl⟩
         . obtain rfl:=h.cn g f 3 .guard;obtain rfl:=h.cn g f 4 .data;obtain rfl:=h.cn g f 5 .data;refine Z9 rfl fun K hK=>?_;go_simp;exact hK _ _ ⟨_,_,_,_,_,_,_,_,_,_,rfl,h.sameC 6 _ f rfl⟩
         . obtain rfl:=h.cn g f 3 .guard;refine Z9 rfl fun K hK=>?_;go_simp;exact hK _ _ ⟨_,_,_,_,_,_,_,_,_,_,rfl,h.sameC 7 _ f rfl⟩
         . obtain rfl:=h.cn g f 3 .guard;obtain rfl:=h.cn g f 7 .data;obtain ⟨q0,q1,q2,q3,q4,q5⟩:=r.o w' h.1;refine Z9 rfl fun K hK=>?_;go_simp;exact hK _ _ ⟨_,_,_,_,_,_,_,_,_,_,rfl,h.sameC 8 _ f rfl⟩
         . obtain rfl:=h.cn g f 3 .chain;obtain rfl:=h.cn g f 6 .data;obtain rfl:=h.cn g f 8 .data;obtain ⟨q0,q1,q2,q3,q4,q5⟩:=r.o w' h.1;refine Z9 rfl fun K hK=>?_;go_simp;refine (W.o w' h.1).mono ?_;rintro e w2 ⟨rfl,p⟩;exact hK _ _ ⟨_,_,_,_,_,_,_,_,_,_,rfl,h.didC p 9 _ f rfl⟩
         . omega
        case last =>
         rintro d I w' m ⟨x15,x16,x17,x18,x19,x20,x21,x22,x23,x24,rfl,h⟩;have v:=h.1;obtain rfl:=h.con 3 (m _ (by omega)) f rfl rfl;obtain rfl:=h.con 9 (m _ (by omega)) f rfl rfl;have G:=U v;clear h m v f;have E:=U (u.o.trans (G.o.mono u.o.size));go_wp2;go_roundw
         case rel=>exact ⟨k+1,by omega,by go_num,b6.o,b7.o,E.o⟩
         case measure=>simp [intOf];omega
      . have HR:=U (f.o.trans (H.o rfl));obtain ⟨V,C⟩:∃V:List MP,V=[.con (.agg #[.string z,.int .i64 s.thr,.slice N s.ids.length P,.bool M,.slice Q J.length R,.slice S L.length T]),.con (.bool true),.con (.bool false),.con (.bool false),.con (.slice (some ⟨b,o,none⟩) n c),.con (.int .i64 (k:Int)),.con (.slice (some ⟨b,o,none⟩) k c),.con (.pointer (some ⟨wr.heap.size,0,none⟩)),.con (.string z),.con (.bool true)]:=⟨_,rfl⟩;have f:=U C;clear C;refine qE 10 (fun d I w'=>∃x15 x16 x17 x18 x19 x20 x21 x22 x23 x24,I=⟨#[Value.slice (some { block:=b,off:=o }) n c,undef,u2,Value.int IntKind.i64 (k:Int),Value.pointer (some { block:=wr.heap.size,off:=0 }),Value.slice (some { block:=b,off:=o }) n c,Value.int IntKind.i64 (n:Int),Value.bool false,Value.slice (some { block:=b,off:=o }) n c,Value.int IntKind.i64 (n:Int),Value.int IntKind.i64 (k:Int),Value.bool true,Value.int IntKind.i64 (k:Int),Value.pointer (some { block:=b,off:=o+k * 6 }),Value.agg #[Value.string z,Value.int IntKind.i64 s.thr,Value.slice N s.ids.length P,Value.bool M,Value.slice Q J.length R,Value.slice S L.length T],x15,x16,x17,x18,x19,x20,x21,x22,x23,x24,u25,u26],[]⟩/\zT A V d w' [x15,x16,x17,x18,x19,x20,x21,x22,x23,x24]) (by kernel_rfl) (by kernel_rfl) ?first ?step ?last
        case first=>exact ⟨_,_,_,_,_,_,_,_,_,_,rfl,zT.first _ _ _ (by rw [f.o];rfl)⟩
        case step =>
         rintro d I w' ⟨x15,x16,x17,x18,x19,x20,x21,x22,x23,x24,rfl,h⟩ q hq hn g;rcases q with _|_|_|_|_|_|_|_|_|_|q
         . obtain ⟨q0,q1,q2,q3,q4,q5⟩:=r.o w' h.1;refine Z9 rfl fun K hK=>?_;go_simp;exact hK _ _ ⟨_,_,_,_,_,_,_,_,_,_,rfl,h.sameC 0 _ f rfl⟩
         . obtain rfl:=h.cn g f 0 .data;obtain ⟨q0,q1,q2,q3,q4,q5⟩:=r.o w' h.1;refine Z9 rfl fun K hK=>?_;go_simp;refine (X.o w' h.1).mono ?_;rintro e w2 ⟨rfl,p⟩;exact hK _ _ ⟨_,_,_,_,_,_,_,_,_,_,rfl,h.didC p 1 _ f rfl⟩
         . obtain rfl:=h.cn g f 1 .data;refine Z9 rfl fun K hK=>?_;go_simp;exact hK _ _ ⟨_,_,_,_,_,_,_,_,_,_,rfl,h.sameC 2 _ f rfl⟩
         . obtain rfl:=h.cn g f 2 .data;refine Z9 rfl fun K hK=>?_;go_simp;exact hK _ _ ⟨_,_,_,_,_,_,_,_,_,_,rfl,h.sameC 3 _ f rfl⟩
         . obtain rfl:=h.cn g f 3 .guard;refine Z9 rfl fun K hK=>?_;go_simp;exact hK _ _ ⟨_,_,_,_,_,_,_,_,_,_,rfl,h.sameC 4 _ f rfl⟩
         . obtain rfl:=h.cn g f 3 .guard;refine Z9 rfl fun K hK=>?_;go_simp;exact hK _ _ ⟨_,_,_,_,_,_,_,_,_,_,rfl,h.sameC 5 _ f rfl⟩
         . obtain rfl:=h.cn g f 3 .guard;obtain rfl:=h.cn g f 4 .data;obtain rfl:=h.cn g f 5 .data;refine Z9 rfl fun K hK=>?_;go_simp;exact hK _ _ ⟨_,_,_,_,_,_,_,_,_,_,rfl,h.sameC 6 _ f rfl⟩
         . obtain rfl:=h.cn g f 3 .guard;refine Z9 rfl fun K hK=>?_;go_simp;exact hK _ _ ⟨_,_,_,_,_,_,_,_,_,_,rfl,h.sameC 7 _ f rfl⟩
         . obtain rfl:=h.cn g f 3 .guard;obtain rfl:=h.cn g f 7 .data;obtain ⟨q0,q1,q2,q3,q4,q5⟩:=r.o w' h.1;refine Z9 rfl fun K hK=>?_;go_simp;exact hK _ _ ⟨_,_,_,_,_,_,_,_,_,_,rfl,h.sameC 8 _ f rfl⟩
         . obtain rfl:=h.cn g f 3 .chain;obtain rfl:=h.cn g f 6 .data;obtain rfl:=h.cn g f 8 .data;obtain ⟨q0,q1,q2,q3,q4,q5⟩:=r.o w' h.1;refine Z9 rfl fun K hK=>?_;go_simp;refine (W.o w' h.1).mono ?_;rintro e w2 ⟨rfl,p⟩;exact hK _ _ ⟨_,_,_,_,_,_,_,_,_,_,rfl,h.didC p 9 _ f rfl⟩
         . omega
        case last => rintro d I w' m ⟨x15,x16,x17,x18,x19,x20,x21,x22,x23,x24,rfl,h⟩;have v:=h.1;obtain rfl:=h.con 3 (m _ (by omega)) f rfl rfl;obtain rfl:=h.con 9 (m _ (by omega)) f rfl rfl;have G:=U v;clear h m v f;have E:=U (u.o.trans (G.o.mono u.o.size));go_wp2;go_ret;exact ⟨qz HR.o.symm,E.o⟩
  . have m3:decide ((k:Int)<(n:Int))=false:=by simpa using hlt
    have HR:=U (f.o.trans (wZ (l:=l) (by rw [<- HN.o];exact a8) (fun j hj=>a5.o j hj (by rw [<- HN.o] at hj;omega)) (fun j hj=>a6.o j hj (by rw [<- HN.o] at hj;omega))));go_wp2;go_ret;exact ⟨qz HR.o.symm,F.o⟩
theorem mE (l:List ByteArray) (path:ByteArray) (a:Option Addr) (c:Nat) (w:World) (hA:qv w 0 w.heap.size a l) (hl:l.length<=4294967296) (hs:∀s ∈ l,s.size<=4294967296) (hp:path.size<=4294967296) (hT:Tabs w) :
 Calls Tryz.prog 315 #[.slice a l.length c,.string path] w fun e w'=>e=.returned (.bool (jm l path))/\Below w.heap.size w w':=by
 have S:=U hA;have T:=U hs;have M:=U (iQ path w (by omega) hT);have G:=O0 (jm l path=l.any (fun q=>preB q && mD q (oD path))) rfl;clear hA hs hT;obtain ⟨n,L⟩:=O1 l.length;have N:=U L;rw [<- L] at hl ⊢;clear L;obtain ⟨D,J⟩:=O1 (oD path);rw [<- J] at G;rw [show (⟨(kK path.data.toList).toArray⟩:ByteArray)=oD path from rfl,<- J] at M;obtain ⟨V,v⟩:=O1 (jm l path);rw [<- v] at G ⊢;clear J v;go_enter Tryz.func315,Tryz.ntmps315;go_wp2_with (go_at_call 181;refine M.o.mono ?_;rintro e w1 ⟨rfl,K⟩;have I:=U K;clear K);go_loopw [7,12] (fun _ i wr=>∃k:Nat,k<=n/\i=.int .i64 k/\(∀j (h:j<l.length),j<k->(preB l[j] && mD l[j] D)=false)/\Below w.heap.size w wr) (fun _ i _=>n - (intOf i).toNat)
 case atStart=>exact ⟨0,by omega,rfl,fun j _ h=>by omega,I.o⟩
 case round =>
  obtain ⟨k,Z,rfl,A,x⟩:=hrel;have u:=U A;have g:=U x;clear A x;by_cases hlt:k<n
  . have r:k<l.length:=by rw [<- N.o];exact hlt
    obtain ⟨b,o,X,-,K,W⟩:=(S.o.below g.o lz lz lz).at k r;subst X;have m1:(0:Int)<=(k:Int):=by omega
    have m2:(k:Int)<(n:Int):=by omega
    have Y:decide ((k:Int)<(n:Int))=true:=by simpa using hlt
    have d:=U (mS (f:=fun q=>preB q && mD q D) r);have m:=U (show (preB l[k] && mD l[k] D)=false->∀j (h:j<l.length),j<k+1->(preB l[j] && mD l[j] D)=false from fun h0 j hj hjk=>by
     rcases Y1.1 hjk with h1|h1
     . exact u.o j hj h1
     . subst h1;exact h0)
    have C:=T.o l[k] (J7 r);obtain ⟨q,P⟩:=O1 (l[k]);rw [<- P] at W d m C;have F:=U (fun w=>tE q w (by omega));have E:=U (fun w=>Tryz.strings_HasPrefix D q w);have B:Lib.hasPrefix D.data.toList q.data.toList=mD q D:=rfl;rw [B] at E;obtain ⟨y,Q⟩:=O1 (preB q);obtain ⟨z,R⟩:=O1 (mD q D);rw [<- Q] at F d m;rw [<- R] at E d m;clear P Q R C B;cases y with
    | false =>
     have p:=U (m.o rfl);go_wp2_with (go_at_call 139;refine (F.o _).mono ?_;rintro e H ⟨rfl,rfl⟩);go_roundw
     case rel=>exact ⟨k+1,by omega,by go_num,p.o,g.o⟩
     case measure=>simp [intOf];omega
    | true =>
     cases z with
     | false =>
      have p:=U (m.o rfl);go_wp2_with (first|(go_at_call 139;refine (F.o _).mono ?_;rintro e H ⟨rfl,rfl⟩)|(go_at_call 208;refine (E.o _).mono ?_;rintro e H ⟨rfl,rfl⟩));go_roundw
      case rel=>exact ⟨k+1,by omega,by go_num,p.o,g.o⟩
      case measure=>simp [intOf];omega
     | true => have p:=U (G.o.trans (d.o rfl));go_wp2_with (first|(go_at_call 139;refine (F.o _).mono ?_;rintro e H ⟨rfl,rfl⟩)|(go_at_call 208;refine (E.o _).mono ?_;rintro e H ⟨rfl,rfl⟩));go_ret;exact ⟨qz p.o.symm,g.o⟩
  . have Y:decide ((k:Int)<(n:Int))=false:=by simpa using hlt
    have p:=U (G.o.trans (fB (f:=fun q=>preB q && mD q D) (l:=l) (n:=k) (by rw [<- N.o];omega) u.o));go_wp2;go_ret;exact ⟨qz p.o.symm,g.o⟩
theorem sA (a : Option Addr) (n c : Nat) (w : World) : (method 412 164 (.slice a n c) "legate/deleg.has").run Tryz.prog w = .ok (308, .slice a n c) w := by kernel_rfl
theorem sI (a : Option Addr) (n c : Nat) (w : World) : (method 412 165 (.slice a n c) "legate/deleg.has").run Tryz.prog w = .ok (314, .slice a n c) w := by kernel_rfl
theorem Qc (l:List ByteArray) (path:ByteArray) (a:Option Addr) (c:Nat) (w:World) (hA:qv w 0 w.heap.size a l) (hl:l.length<=4294967296) (hs:∀s ∈ l,s.size<=4294967296) (hp:path.size<=4294967296) :
 Calls Tryz.prog 308 #[.slice a l.length c,.string path] w fun e w'=>e=.returned (.bool (l.any fun p=>kV runes p path))/\Below w.heap.size w w':=by
 have b:=U (oR l path a c w hA hl hs hp);obtain ⟨n,g⟩:=O1 l.length;obtain ⟨V,d⟩:=O1 (l.any (fun p=>kV runes p path));rw [<- d] at b ⊢;rw [<- g] at b ⊢;clear hA hl hs g d;go_enter Tryz.func308,Tryz.ntmps308;go_wp2_with (go_at_call 309;refine b.o.mono ?_;rintro e i ⟨rfl,f⟩;have h:=U f;clear f);go_ret;exact ⟨rfl,h.o⟩
theorem Qd (l:List ByteArray) (path:ByteArray) (a:Option Addr) (c:Nat) (w:World) (hA:qv w 0 w.heap.size a l) (hl:l.length<=4294967296) (hs:∀s ∈ l,s.size<=4294967296) (hp:path.size<=4294967296) (hT:Tabs w) :
 Calls Tryz.prog 314 #[.slice a l.length c,.string path] w fun e w'=>e=.returned (.bool (jm l path))/\Below w.heap.size w w':=by
 have b:=U (mE l path a c w hA hl hs hp hT);obtain ⟨n,g⟩:=O1 l.length;obtain ⟨V,d⟩:=O1 (jm l path);rw [<- d] at b ⊢;rw [<- g] at b ⊢;clear hA hl hs g d hT;go_enter Tryz.func314,Tryz.ntmps314;go_wp2_with (go_at_call 315;refine b.o.mono ?_;rintro e i ⟨rfl,f⟩;have h:=U f;clear f);go_ret;exact ⟨rfl,h.o⟩
theorem m6 (nm:ByteArray) (thr:Int) (ids:List ByteArray) (tm:Bool) (ps qs:List ByteArray) (ia pa qa:Option Addr) (ic pc qc:Nat) (w:World) :
 Calls Tryz.prog 78 #[.agg #[.string nm,.int .i64 thr,.slice ia ids.length ic,.bool tm,.slice pa ps.length pc,.slice qa qs.length qc]] w fun e w'=>e=.returned (if ps≠[] then .iface 164 (.slice pa ps.length pc) else .iface 165 (.slice qa qs.length qc))/\Below w.heap.size w w':=by
 obtain ⟨W,b⟩:=O1 (w.alloc (.cells #[.string nm,.int .i64 thr,.slice ia ids.length ic,.bool tm,.slice pa ps.length pc,.slice qa qs.length qc] 41));have d:=U (show Below w.heap.size w W by rw [b];exact (Z0 _ _).alloc lz _);have c:W.heap[w.heap.size]?=some (.cells #[.string nm,.int .i64 thr,.slice ia ids.length ic,.bool tm,.slice pa ps.length pc,.slice qa qs.length qc] 41 (0,0)):=by rw [b];exact Z4 w _
 have i:=qq c (j:=4) rfl;have k:=qq c (j:=5) rfl;have a:=U b;clear b c;by_cases hps:ps=[]
 . have f:decide ((0:Int)<(ps.length:Int))=false:=by subst hps;rfl
   have g:decide (0<ps.length)=false:=by subst hps;rfl
   have h:¬0<ps.length:=by subst hps;simp
   rw [Z5 (by simp [hps])];clear hps;go_enter Tryz.func78,Tryz.ntmps78;go_upto_region 1 with fail
   rw [<- a.o];clear a;go_wp2;go_ret;exact ⟨rfl,d.o⟩
 . have h:0<ps.length:=zb5.2 hps;have f:decide ((0:Int)<(ps.length:Int))=true:=by rw [Q6];omega
   have g:decide (0<ps.length)=true:=by rw [Q6];omega
   rw [J1 hps];clear hps;go_enter Tryz.func78,Tryz.ntmps78;go_upto_region 1 with fail
   rw [<- a.o];clear a;go_wp2;go_ret;exact ⟨rfl,d.o⟩
theorem Ql (x:DelegV) (path:ByteArray):isD runes x path=(qt x && (qN path && (if x.paths≠[] then x.paths.any (fun p=>kV runes p path) else jm x.pres path))):=by unfold isD;rw [Bool.and_assoc]
theorem ev (x:DelegV) (path:ByteArray) (ia pa qa:Option Addr) (ic pc qc:Nat) (w:World) (hI:DelegIn w 0 w.heap.size x ia pa qa) (hf:DelegFits x) (hp:path.size<=4294967296) (hT:Tabs w) :
 Calls Tryz.prog 23 #[.agg #[.string x.name,.int .i64 x.au.thr,.slice ia x.au.ids.length ic,.bool x.term,.slice pa x.paths.length pc,.slice qa x.pres.length qc],.string path] w fun e w'=>e=.returned (.bool (isD runes x path))/\Below w.heap.size w w':=by
 have k:=U (Ql x path);obtain ⟨V,N⟩:=O1 (isD runes x path);rw [<- N] at k ⊢;clear N;obtain ⟨z,⟨i,g⟩,C,l,q⟩:=x;dsimp only at k ⊢;obtain ⟨W,H⟩:=O1 (w.alloc (.cells #[.string z,.int .i64 i,.slice ia g.length ic,.bool C,.slice pa l.length pc,.slice qa q.length qc] 41));have a:Below w.heap.size w W:=by rw [H];exact (Z0 _ _).alloc lz _
 have L:W.heap[w.heap.size]?=some (.cells #[.string z,.int .i64 i,.slice ia g.length ic,.bool C,.slice pa l.length pc,.slice qa q.length qc] 41 (0,0)):=by rw [H];exact Z4 w _
 have r:=U a;have I:=U (show ∀w':World,Below W.heap.size W w'->w'.cell? ⟨w.heap.size,0,none⟩=some (.string z)/\w'.cell? ⟨w.heap.size,1,none⟩=some (.int .i64 i)/\w'.cell? ⟨w.heap.size,2,none⟩=some (.slice ia g.length ic)/\w'.cell? ⟨w.heap.size,3,none⟩=some (.bool C)/\w'.cell? ⟨w.heap.size,4,none⟩=some (.slice pa l.length pc)/\w'.cell? ⟨w.heap.size,5,none⟩=some (.slice qa q.length qc) from fun w' h=>by
  have y:=(h.block _ (qx L)).trans L;exact ⟨qq y rfl,qq y rfl,qq y rfl,qq y rfl,qq y rfl,qq y rfl⟩)
 have G:=O0 (∀w':World,Below W.heap.size W w'->DelegIn w' 0 w'.heap.size ⟨z,⟨i,g⟩,C,l,q⟩ ia pa qa/\Tabs w') (fun w' h=>⟨hI.below (a.trans (h.mono a.size)) lz lz (Z3 a.size h.size),hT.below (a.trans (h.mono a.size))⟩);have j:=U (ky ⟨z,⟨i,g⟩,C,l,q⟩ ia pa qa ic pc qc W (G.o W (Z0 _ _)).1 hf);have o:=U (fun w=>gz path w (by omega));have m:=U (fun w=>m6 z i g C l q ia pa qa ic pc qc w);have D:=O0 (∀w':World,Below W.heap.size W w'->_) (fun w' h=>Qc l path pa pc w' (G.o w' h).1.paths hf.paths.1 hf.paths.2 hp);have E:=O0 (∀w':World,Below W.heap.size W w'->_) (fun w' h=>Qd q path qa qc w' (G.o w' h).1.pres hf.pres.1 hf.pres.2 hp (G.o w' h).2);have S:=sA;have T:=sI;have F:=U H;obtain ⟨Q,u⟩:∃b,b=qt ⟨z,⟨i,g⟩,C,l,q⟩:=⟨_,rfl⟩;obtain ⟨R,v⟩:∃b,b=qN path:=⟨_,rfl⟩;obtain ⟨A,J⟩:=O1 (l.any (fun p=>kV runes p path));obtain ⟨B,K⟩:=O1 (jm q path);rw [<- u,<- v,<- J,<- K] at k;rw [<- u] at j;rw [<- v] at o;rw [<- J] at D;rw [<- K] at E;clear a L H hI hf hp hT u v J K;obtain ⟨q0,q1,q2,q3,q4,q5⟩:=I.o W (Z0 _ _);go_enter Tryz.func23,Tryz.ntmps23;go_upto_region 1 with fail
 rw [<- F.o];clear F;cases Q with
 | false =>
  go_wp2_with (go_at_call 77;refine j.o.mono ?_;rintro e M ⟨rfl,a⟩;have c:=U a;clear a)
  go_ret;exact ⟨qz k.o.symm,r.o.trans (c.o.mono r.o.size)⟩
 | true =>
  rw [X4] at k;cases R with
  | false =>
   go_wp2_with (first|(go_at_call 77;refine j.o.mono ?_;rintro e M ⟨rfl,a⟩;have c:=U a;clear a)|(go_at_call 34;refine (o.o _).mono ?_;rintro e P ⟨rfl,a⟩;have d:=U (O2 c a);clear a))
   go_ret;exact ⟨qz k.o.symm,r.o.trans (d.o.mono r.o.size)⟩
  | true =>
   rw [X4] at k;by_cases hps:l=[]
   . rw [Z5 (by simp [hps])] at k;simp only [show ¬l≠[] from by simp [hps],zd4] at m;clear hps;go_wp2_with (first|(go_at_call 77;refine j.o.mono ?_;rintro e M ⟨rfl,a⟩;have c:=U a;clear a)|(go_at_call 34;refine (o.o _).mono ?_;rintro e P ⟨rfl,a⟩;have d:=U (O2 c a);obtain ⟨Z,z1,z2,z3,z4,z5⟩:=I.o _ d.o;clear a)|(go_at_call 78;refine (m.o _).mono ?_;rintro e X ⟨rfl,a⟩;have f:=U (O2 d a);clear a)|(go_at_call 314;refine (E.o _ f.o).mono ?_;rintro e Y ⟨rfl,a⟩;have s:=U (O2 f a);clear a));go_ret;exact ⟨qz k.o.symm,r.o.trans (s.o.mono r.o.size)⟩
   . rw [J1 hps] at k;simp only [J1 hps] at m;clear hps;go_wp2_with (first|(go_at_call 77;refine j.o.mono ?_;rintro e M ⟨rfl,a⟩;have c:=U a;clear a)|(go_at_call 34;refine (o.o _).mono ?_;rintro e P ⟨rfl,a⟩;have d:=U (O2 c a);obtain ⟨Z,z1,z2,z3,z4,z5⟩:=I.o _ d.o;clear a)|(go_at_call 78;refine (m.o _).mono ?_;rintro e X ⟨rfl,a⟩;have f:=U (O2 d a);clear a)|(go_at_call 308;refine (D.o _ f.o).mono ?_;rintro e Y ⟨rfl,a⟩;have s:=U (O2 f a);clear a));go_ret;exact ⟨qz k.o.symm,r.o.trans (s.o.mono r.o.size)⟩
theorem gE (t u:Int) (l m:List ByteArray) (a b:Option Addr) (c d:Nat) (w:World) (hA:qv w 0 w.heap.size a l) (hB:qv w 0 w.heap.size b m) (hl:l.length<=4294967296) (_hm:m.length<=4294967296) :
 Calls Tryz.prog 70 #[.agg #[.int .i64 t,.slice a l.length c],.agg #[.int .i64 u,.slice b m.length d]] w fun e w'=>e=.returned (.bool (decide ((⟨t,l⟩:AuthV)=⟨u,m⟩)))/\Below w.heap.size w w':=by
 obtain ⟨W,K⟩:=O1 ((w.alloc (.cells #[.int .i64 t,.slice a l.length c] 31)).alloc (.cells #[.int .i64 u,.slice b m.length d] 31));have C:Below w.heap.size w W:=by rw [K];exact ((Z0 _ _).alloc lz _).alloc (by simp) _
 have v:W.heap[w.heap.size]?=some (.cells #[.int .i64 t,.slice a l.length c] 31 (0,0)):=by rw [K];exact zl w _ _
 have A:W.heap[w.heap.size+1]?=some (.cells #[.int .i64 u,.slice b m.length d] 31 (0,0)):=by rw [K];exact jq w _ _
 have R:=U (show ∀w':World,Below W.heap.size W w'->w'.cell? ⟨w.heap.size,0,none⟩=some (.int .i64 t)/\w'.cell? ⟨w.heap.size,1,none⟩=some (.slice a l.length c)/\w'.cell? ⟨w.heap.size+1,0,none⟩=some (.int .i64 u)/\w'.cell? ⟨w.heap.size+1,1,none⟩=some (.slice b m.length d) from fun w' h=>by
  have o:=(h.block _ (qx v)).trans v;have P:=(h.block _ (qx A)).trans A;exact ⟨qq o rfl,qq o rfl,qq P rfl,qq P rfl⟩)
 have B:=U C;have J:=U K;have HA:=U (hA.below C lz lz C.size);have Q:=U (hB.below C lz lz C.size);have r:=U (show decide ((⟨t,l⟩:AuthV)=⟨u,m⟩)=(decide (t=u) && decide (l=m)) by
  by_cases o:t=u <;> by_cases P:l=m <;> simp [o,P])
 obtain ⟨q,hq⟩:=O1 (decide ((⟨t,l⟩:AuthV)=⟨u,m⟩));rw [<- hq] at r ⊢;clear C K v A hA hB hq;obtain ⟨x0,x1,y0,X⟩:=R.o W (Z0 _ _);by_cases h:t=u
 case neg =>
  have n1:(t != u)=true:=by simpa using h
  rw [Z7 h,V0] at r;clear h;go_enter Tryz.func70,Tryz.ntmps70;go_upto_region 1 with fail
  rw [<- J.o];go_wp2;go_ret;exact ⟨qz r.o.symm,B.o⟩
 have n1:(t != u)=false:=by simpa using h
 rw [J2 h,X4] at r;clear h;by_cases hlm:l.length=m.length
 case neg =>
  have n2:((l.length:Int) != (m.length:Int))=true:=by simp;omega
  have HD:=U (show q=false by rw [r.o];exact Z7 fun e=>hlm (by rw [e]));clear hlm;go_enter Tryz.func70,Tryz.ntmps70;go_upto_region 1 with fail
  rw [<- J.o];go_wp2;go_ret;exact ⟨qz HD.o.symm,B.o⟩
 obtain ⟨n,D⟩:=O1 l.length;have F:=U D;have G:=U (show n=m.length by rw [D,hlm]);rw [<- hlm,<- D] at R J X;rw [<- D] at x1 ⊢;rw [<- hlm,<- D];have a0:n<=4294967296:=by omega
 have n2:((n:Int) != (n:Int))=false:=by simp
 clear hlm D hl;go_enter Tryz.func70,Tryz.ntmps70;go_upto_region 1 with fail
 rw [<- J.o];clear J;go_wp2_with fail;clear x0 x1 y0 X;go_loopw [5] (fun i wr=>∃k:Nat,k<=n/\i=.int .i64 k/\l.take k=m.take k/\Below W.heap.size W wr) (fun i _=>n - (intOf i).toNat)
 case atStart=>exact ⟨0,by omega,rfl,rfl,Z0 _ _⟩
 case round =>
  obtain ⟨k,hk,rfl,N,s⟩:=hrel;have H:=U N;have j:=U s;obtain ⟨x0,x1,y0,X⟩:=R.o wr s;clear N s;by_cases hlt:k<n
  . have L:k<l.length:=by rw [<- F.o];exact hlt
    have M:k<m.length:=by rw [<- G.o];exact hlt
    obtain ⟨p,f,V,_,hp,Y⟩:=(HA.o.below j.o lz lz lz).at k L;subst V;obtain ⟨q2,g,V,_,a1,Z⟩:=(Q.o.below j.o lz lz lz).at k M;subst V;have I:=O0 (l[k]=m[k]->l.take (k+1)=m.take (k+1)) (fun e=>by rw [Z6 L,Z6 M,H.o,e]);have E:=O0 (l[k]≠m[k]->decide (l=m)=false) (fun e=>Z7 fun e2=>e (by subst e2;rfl));obtain ⟨x,v⟩:∃x:ByteArray,x=l[k]:=⟨_,rfl⟩;obtain ⟨y,A⟩:∃y:ByteArray,y=m[k]:=⟨_,rfl⟩;replace Y:=Y.trans (X1 (fun z:ByteArray=>some (Value.string z)) v.symm);replace Z:=Z.trans (X1 (fun z:ByteArray=>some (Value.string z)) A.symm);rw [<- v,<- A] at I E;clear v A;have m1:(0:Int)<=(k:Int):=by omega
    have m2:(k:Int)<(n:Int):=by omega
    have m3:decide ((k:Int)<(n:Int))=true:=by simpa using hlt
    cases o:(x.toList == y.toList)
    . have T:=U (show q=false by rw [r.o];exact E.o fun e=>by rw [e] at o;simp at o);go_wp2_with fail;go_quiet (fail);go_wp2;go_ret;exact ⟨qz T.o.symm,Below.drewN (B.o.trans (j.o.mono B.o.size)) _⟩
    . have S:=U (I.o (by rw [ba_eq,Q6] at o;exact o));go_wp2_with fail;go_quiet (fail);go_wp2;go_roundw
      case rel=>exact ⟨k+1,by omega,by go_num,S.o,Below.drewN j.o _⟩
      case measure=>simp [intOf];omega
  . obtain rfl:k=n:=by omega
    have T:=U (show q=true by
     rw [r.o];have:=H.o;rw [Z8 (by rw [<- F.o];exact J0 _),Z8 (by rw [<- G.o];exact J0 _)] at this;exact J2 this)
    go_wp2;go_ret;exact ⟨qz T.o.symm,B.o.trans (j.o.mono B.o.size)⟩
end Go.Proofs.YthgembbgcbaghaaGreatDoor
