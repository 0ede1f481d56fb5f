/- The contracts of legatelaw22.id, who and ex. -/
import Derived.Test.YtnlgmcapbbgelaaGreatDoorRx27
import Derived.Shelf.SlSortCmp.WholeK
import Derived.Test.YtnlgmcapbbgelaaGreatDoorRx22

namespace Go.Proofs.YtnlgmcapbbgelaaGreatDoor
open Go.RowKit Go.Sort
def sl (w:World) (e:Ending) (w':World):Prop :=
 e=.returned (.tuple #[.agg #[.string ⟨#[]⟩,.int .u8 0,.int .i64 0,.string ⟨#[]⟩,.slice none 0 0,.slice none 0 0],.int .i64 3])∧Below w.heap.size w w'
def mR (s t:ByteArray) (w:World) (e:Ending) (w':World):Prop :=
 ∃an cn ai ci,e=.returned (.tuple #[.agg #[.string (dd s t),.int .u8 5,.int .i64 0,.string ⟨#[]⟩,.slice an 2 cn,.slice ai 2 ci],.int .i64 0]) ∧
  Rep w' w.heap.size w'.heap.size (xQ s t) (.agg #[.int .u8 5,.int .i64 0,.string ⟨#[]⟩,.slice an 2 cn,.slice ai 2 ci])∧Below w.heap.size w w'
set_option maxHeartbeats 400000 in
set_option maxRecDepth 100000 in
theorem mN (s t:ByteArray) (w:World) (hs:s.size≤4294967) (ht:t.size≤4294967) (hT:Tabs w) (hk:zl s.data.toList t.data.toList=false) :
 Calls Tryz.prog 118 #[.agg #[.string s,.string t]] w (sl w):=by
 have hW:Below w.heap.size w ((w.alloc (.cells #[.string s,.string t] 38)).alloc (.cells #[.string ⟨#[]⟩,.int .u8 0,.int .i64 0,.string ⟨#[]⟩,.slice none 0 0,.slice none 0 0] 144)):=((Below.refl _ _).alloc lz _).alloc (by simp) _
 have HI:=Lh (cJ s t ((w.alloc (.cells #[.string s,.string t] 38)).alloc (.cells #[.string ⟨#[]⟩,.int .u8 0,.int .i64 0,.string ⟨#[]⟩,.slice none 0 0,.slice none 0 0] 144)) hs ht (hT.below hW))
 unfold xE jm at HI
 rw [hk] at HI
 have hr0:=kq (w.alloc (.cells #[.string s,.string t] 38)) (.string ⟨#[]⟩) (.int .u8 0) (.int .i64 0) (.string ⟨#[]⟩) (.slice none 0 0) (.slice none 0 0) 144
 rw [show (w.alloc (.cells #[.string s,.string t] 38)).heap.size=w.heap.size+1 by simp] at hr0
 have HR0:=Lh hr0
 have HB0:=Lh hW
 clear hk hr0 hW hT
 go_enter Tryz.func118,Tryz.ntmps118
 go_wp2_with fail
 refine HI.out.mono ?_
 rintro e w1 ⟨rfl,hb1⟩
 have hres:=qx hb1 HR0.out (by simp)
 have HRS:=Lh hres
 have HB1:=Lh (HB0.out.trans (hb1.mono (by simp;omega)))
 obtain ⟨t0,t1,t2,t3,t4⟩:=rc5 hres;have t5:=hres.cell (i:=5) (by decide)
 obtain ⟨s0,s1,s2,s3,s4⟩:=rf5 hres;have s5:=hres.frozen 5
 simp only [vT] at t0 t1 t2 t3 t4 t5
 clear hres hb1
 go_wp2
 exact bodyPost_ret (qj Tryz.results118 _ _ (w.heap.size+1) 144 _ (0,0) _ rfl (kA (nw _ _ _ _ _ _ HRS.out)) Tryz.underlying144 rfl (by kernel_rfl) _ rfl) rfl ⟨rfl,fw _ _ _ _ _ _ HB1.out (by omega)⟩
set_option maxHeartbeats 400000 in
set_option maxRecDepth 100000 in
theorem uR (s t:ByteArray) (w:World) (hs:s.size≤4294967) (ht:t.size≤4294967) (hT:Tabs w) (hk:zl s.data.toList t.data.toList=true) :
 Calls Tryz.prog 118 #[.agg #[.string s,.string t]] w (mR s t w):=by
 have hW:Below w.heap.size w ((w.alloc (.cells #[.string s,.string t] 38)).alloc (.cells #[.string ⟨#[]⟩,.int .u8 0,.int .i64 0,.string ⟨#[]⟩,.slice none 0 0,.slice none 0 0] 144)):=((Below.refl _ _).alloc lz _).alloc (by simp) _
 have HI:=Lh (cJ s t ((w.alloc (.cells #[.string s,.string t] 38)).alloc (.cells #[.string ⟨#[]⟩,.int .u8 0,.int .i64 0,.string ⟨#[]⟩,.slice none 0 0,.slice none 0 0] 144)) hs ht (hT.below hW))
 have HX0:=Lh (show ((w.alloc (.cells #[.string s,.string t] 38)).alloc (.cells #[.string ⟨#[]⟩,.int .u8 0,.int .i64 0,.string ⟨#[]⟩,.slice none 0 0,.slice none 0 0] 144)).heap[w.heap.size]?=some (.cells #[.string s,.string t] 38 (0,0)) by rw [Below.heap_alloc _ _ _ (by simp)];exact heap_alloc_new w _)
 unfold xE at HI
 rw [hk,if_pos rfl] at HI
 unfold mR dd
 generalize (⟨(jm s.data.toList t.data.toList).toArray⟩:ByteArray)=ID at HI ⊢
 have HK:=Lh hk
 have hr0:=kq (w.alloc (.cells #[.string s,.string t] 38)) (.string ⟨#[]⟩) (.int .u8 0) (.int .i64 0) (.string ⟨#[]⟩) (.slice none 0 0) (.slice none 0 0) 144
 rw [show (w.alloc (.cells #[.string s,.string t] 38)).heap.size=w.heap.size+1 by simp] at hr0
 have HR0:=Lh hr0
 have HB0:=Lh hW
 clear hk hr0 hW hT
 go_enter Tryz.func118,Tryz.ntmps118
 go_wp2_with fail
 refine HI.out.mono ?_
 clear HI
 rintro e w1 ⟨rfl,hb1⟩
 have HRS:=Lh (qx hb1 HR0.out (by simp))
 have hx1:w1.heap[w.heap.size]?=some (.cells #[.string s,.string t] 38 (0,0)):=by rw [hb1.block _ (by simp;omega)];exact HX0.out
 have hz1:w.heap.size+2≤w1.heap.size:=by have:=hb1.size;simp at this;omega
 have HB1:=Lh (HB0.out.trans (hb1.mono (by simp;omega)))
 have c0:w1.cell? ⟨w.heap.size,0,none⟩=some (.string s):=qq hx1 rfl
 have c1:w1.cell? ⟨w.heap.size,1,none⟩=some (.string t):=qq hx1 rfl
 have HV:=Lh (ky s t w1 (by omega) (by omega) HK.out)
 clear hb1 HX0 HR0 HB0 hx1
 go_wp2_with fail
 refine HV.out.mono ?_
 clear HV
 rintro e w2 ⟨an,cn,ai,ci,rfl,hr2,hb2⟩
 have HR2:=Lh (hr2.carry (w':=w2.alloc (.cells #[.int .u8 5,.int .i64 0,.string ⟨#[]⟩,.slice an 2 cn,.slice ai 2 ci] 25)) lz lz (fun b _ h=>Below.heap_alloc _ _ _ h))
 have hres:=qx (hb2.alloc hb2.size (.cells #[.int .u8 5,.int .i64 0,.string ⟨#[]⟩,.slice an 2 cn,.slice ai 2 ci] 25)) HRS.out (by omega)
 have HB2:=Lh (HB1.out.trans ((hb2.alloc hb2.size (.cells #[.int .u8 5,.int .i64 0,.string ⟨#[]⟩,.slice an 2 cn,.slice ai 2 ci] 25)).mono (by omega)))
 have hz2:w1.heap.size≤w2.heap.size:=hb2.size
 have hz3:¬(w.heap.size+1=w2.heap.size):=by omega
 have HR3:=Lh hres
 obtain ⟨t0,t1,t2,t3,t4⟩:=rc5 hres;have t5:=hres.cell (i:=5) (by decide)
 obtain ⟨s0,s1,s2,s3,s4⟩:=rf5 hres;have s5:=hres.frozen 5
 simp only [vT] at t0 t1 t2 t3 t4 t5
 clear hres hb2 hr2 c0 c1
 go_wp2
 refine bodyPost_ret (qj Tryz.results118 _ _ (w.heap.size+1) 144 _ (0,0) _ rfl (kA (nw _ _ _ _ _ _ HR3.out)) Tryz.underlying144 rfl (by kernel_rfl) _ rfl) rfl ⟨an,cn,ai,ci,rfl,?_,fw _ _ _ _ _ _ HB2.out (by omega)⟩
 exact Rep.carry (by omega) (show w2.heap.size≤_ by simp [World.setCell]) (fun j hj _=>cz _ _ _ _ _ _ (by omega)) _ _ HR2.out
theorem rM (x y:Mem) (W:World):Calls Tryz.prog 120 #[.agg (qW x).toArray,.agg (qW y).toArray] W fun e w'=>e=.returned (.int .i64 (cfM x y))∧∃q os',w'=grow (W.drewN q) os':=by
 have hcon:=fun W'=>Tryz.strings_Compare x.name y.name W'
 unfold cfM qW
 generalize Lib.compareBytes x.name.data.toList y.name.data.toList=r at hcon ⊢
 go_enter Tryz.func120,Tryz.ntmps120
 go_wp2_with (go_at_call 113;refine (hcon _).mono ?_;rintro e w' ⟨rfl,rfl⟩)
 go_ret
 exact ⟨rfl,0,_,by rw [alloc_eq_grow,alloc_eq_grow,grow_grow];rfl⟩
end Go.Proofs.YtnlgmcapbbgelaaGreatDoor

namespace Go.Proofs.YtnlgmcapbbgelaaGreatDoor
open Go.RowKit Go.Shelf Go.Sort
theorem uN:∀a b:List UInt8,decide (Lib.compareBytes a b<0)=Op.bytesLess a b
 | [],[]=>rfl
 | [],_ :: _=>rfl
 | _ :: _,[]=>rfl
 | a :: ax,b :: bx=>by
  unfold Lib.compareBytes Op.bytesLess
  by_cases h1:a<b
  · simp [h1]
  · by_cases h2:b<a
    · have:¬a=b:=fun e=>by subst e;exact h1 h2
      simp [h1,h2,this]
    · have e:a=b:=UInt8.le_antisymm (UInt8.not_lt.1 h2) (UInt8.not_lt.1 h1)
      subst e
      rw [if_neg h1,if_neg h1,uN ax bx]
      simp
theorem yY (x y:Mem):ltOf cfM x y=bl x.name y.name:=by
 unfold ltOf cfM bl
 rw [uN,ByteArray.toList_eq,ByteArray.toList_eq]
theorem dD {a b c:ByteArray} (h:bl a b=false) (h':bl b c=false):bl a c=false:=by
 cases h2:bl a c
 · rfl
 · cases h3:bl b a
   · rw [fh h h3,h'] at h2;cases h2
   · rw [xd h3 h2] at h';cases h'
theorem tJ:SWO (ltOf cfM) where
 irrefl x:=by rw [yY];exact zh _
 trans x y z:=by rw [yY,yY,yY];exact xd
 ntrans x y z:=by rw [yY,yY,yY];exact dD
def dL (d d':Array Mem):Prop:=d'.size=d.size∧d'.toList.Perm d.toList∧∀i j,i<j→j<d.size→bl d'[j]!.name d'[i]!.name=false
def rC (blk off:Nat) (d:Array Mem) (w:World) (e:Ending) (w':World):Prop :=
 e=.returned (.tuple #[])∧∃d',dL d d'∧HoldsK qW 6 w' blk off d'∧Touch (· = blk) w w'
theorem nT (blk off cap:Nat) (d:Array Mem) (w:World) (hH:HoldsK qW 6 w blk off d) (hblk:blk<w.heap.size) (h12:d.size≤4294967296) :
 Calls Tryz.prog 119 #[.slice (some ⟨blk,off,none⟩) d.size cap,.func (.func 120) #[] #[]] w (rC blk off d w):=by
 have eg:∀args w,(callFunc 120 args).run Tryz.prog w=.ok (.enter 120 args) w:=enters_of Tryz.func120 (by kernel_rfl) rfl
 have hcon:=AnyQ.slices_SortFunc dq 6 Tryz.isAgg144 Tryz.sizeOf144 qW zn wy cfM tJ 120 #[] blk off cap d w eg (fun _ _ _ _ x y=>rM x y _) hH hblk (by omega)
 refine hcon.mono ?_
 rintro e w' ⟨rfl,d',n,os,hp,hs,rfl⟩
 refine ⟨rfl,d',⟨hp.1,?_,fun i j hij hj=>?_⟩,holdsK_grow qW 6 _ _ _ _ _ (by simp [putRowK,Go.Sort.ahead];exact hblk) (holdsK_putRowK qW 6 _ _ _ d _ (holdsK_ahead qW 6 _ _ _ _ _ hH) hp.1),xC⟩
 · have:=hp.2.2
   have e1:d'.extract 0 d.size=d':=by rw [← hp.1];simp
   have e2:d.extract 0 d.size=d:=by simp
   rwa [e1,e2] at this
 · have:=hs i j (Nat.zero_le _) hij hj
   rwa [yY] at this
def xZ (seen:List ByteArray):List Key2→Int
 | []=>0
 | k :: r=>if ok2 k then (if xt seen (id2 k) then 7 else xZ (seen ++ [id2 k]) r) else 3
def vw (l:List Key2):Int:=if 32<l.length then 5 else xZ [] l
theorem yG (l:List Key2) (k:Nat) (h:k<l.length):xZ (ids (l.take k)) (l.drop k)=if ok2 l[k] then (if xt (ids (l.take k)) (id2 l[k]) then 7 else xZ (ids (l.take (k+1))) (l.drop (k+1))) else 3:=by
 rw [List.drop_eq_getElem_cons h,xZ]
 have:ids (l.take k) ++ [id2 l[k]]=ids (l.take (k+1)):=by unfold ids;rw [List.take_succ_eq_append_getElem h,List.map_append];rfl
 rw [this]
theorem kD:∀(l:List Key2) (seen:List ByteArray),xZ seen l=0↔(∀k ∈ l,ok2 k=true)∧(∀k ∈ l,id2 k ∉ seen)∧(ids l).Nodup
 | [],seen=>by simp [xZ,ids]
 | k :: r,seen=>by
  unfold xZ
  have ih:=kD r (seen ++ [id2 k])
  by_cases h1:ok2 k=true
  · rw [if_pos h1]
    by_cases h2:xt seen (id2 k)=true
    · rw [if_pos h2]
      have:=(jS _ _).1 h2
      constructor
      · intro h;cases h
      · rintro ⟨_,h,_⟩;exact absurd this (h k (List.mem_cons_self ..))
    · rw [if_neg h2,ih]
      have h3:id2 k ∉ seen:=fun h=>h2 ((jS _ _).2 h)
      unfold ids
      rw [List.map_cons,List.nodup_cons]
      constructor
      · rintro ⟨a,b,c⟩
        refine ⟨fun x hx=>?_,fun x hx=>?_,fun hm=>?_,c⟩
        · rcases List.mem_cons.1 hx with rfl|hx
          · exact h1
          · exact a x hx
        · rcases List.mem_cons.1 hx with rfl|hx
          · exact h3
          · exact fun h=>b x hx (List.mem_append_left _ h)
        · obtain ⟨x,hx,e⟩:=List.mem_map.1 hm
          exact b x hx (by rw [e];simp)
      · rintro ⟨a,b,c,d⟩
        refine ⟨fun x hx=>a x (List.mem_cons_of_mem _ hx),fun x hx hm=>?_,d⟩
        rcases List.mem_append.1 hm with hm|hm
        · exact b x (List.mem_cons_of_mem _ hx) hm
        · simp at hm
          exact c (List.mem_map.2 ⟨x,hx,hm⟩)
  · rw [if_neg h1]
    constructor
    · intro h;cases h
    · rintro ⟨h,_⟩;exact absurd (h k (List.mem_cons_self ..)) h1
theorem uS {α β:Type} (f:α→β) {l1 l2:List β} (h:l1.Perm l2):∀zs:List α,zs.map f=l2→∃zs':List α,zs'.Perm zs∧zs'.map f=l1:=by
 induction h with
 | nil=>intro zs h;exact ⟨[],by rw [List.map_eq_nil_iff.1 h],rfl⟩
 | cons x _ ih =>
  intro zs h
  match zs,h with
  | z :: zr,h =>
   simp only [List.map_cons,List.cons.injEq] at h
   obtain ⟨zs',hp,e⟩:=ih zr h.2
   exact ⟨z :: zs',hp.cons z,by simp [e,h.1]⟩
 | swap x y r =>
  intro zs h
  match zs,h with
  | [_],h=>simp at h
  | a :: b :: zr,h =>
   simp only [List.map_cons,List.cons.injEq] at h
   exact ⟨b :: a :: zr,List.Perm.swap _ _ _,by simp [h.1,h.2.1,h.2.2]⟩
 | trans _ _ ih1 ih2 =>
  intro zs h
  obtain ⟨z1,p1,e1⟩:=ih2 zs h
  obtain ⟨z2,p2,e2⟩:=ih1 z1 e1
  exact ⟨z2,p2.trans p1,e2⟩
theorem pA {l:List ByteArray} (h:∀i j (hi:i<l.length) (hj:j<l.length),i<j→bl l[i] l[j]=true):ql l=true:=by
 match l with
 | []=>rfl
 | [_]=>rfl
 | a :: b :: r =>
  unfold ql
  rw [Bool.and_eq_true]
  refine ⟨h 0 1 (by simp) (by simp) (by omega),pA fun i j hi hj hij=>?_⟩
  have:=h (i+1) (j+1) (by simpa using hi) (by simpa using hj) (by omega)
  simpa using this
theorem fK {m1 m2:List Key2} (hp:m1.Perm m2) (h1:ql (ids m1)=true) (h2:ql (ids m2)=true):m1=m2:=by
 have pw:∀m:List Key2,ql (ids m)=true→m.Pairwise (fun a b=>bl (id2 a) (id2 b)=true):=fun m h=>by
  rw [List.pairwise_iff_getElem]
  intro i j hi hj hij
  have:=xB h i j (by simpa [ids] using hi) (by simpa [ids] using hj) hij
  simpa [ids] using this
 refine hp.eq_of_pairwise (le:=fun a b=>bl (id2 a) (id2 b)=true) (fun a b _ _ x y=>?_) (pw m1 h1) (pw m2 h2)
 rw [ux x] at y;cases y
def zM (w:World) (base:Nat) (X:Nat→Prop) (zs:List (Mem × Key2)):Prop :=
 ∀z ∈ zs,z.1.name=id2 z.2∧∃lo hi,base≤lo∧hi≤w.heap.size∧(∀b,X b→¬(lo≤b∧b<hi))∧Rep w lo hi (obj2 z.2) z.1.val
theorem zM.nil (w:World) (base:Nat) (X:Nat→Prop):zM w base X []:=fun z h=>by simp at h
theorem zM.carry {w w':World} {base:Nat} {X X':Nat→Prop} {zs:List (Mem × Key2)} (h:zM w base X zs) (hsz:w.heap.size≤w'.heap.size)
 (hs:∀b,b<w.heap.size→¬X b→base≤b→w'.heap[b]?=w.heap[b]?) (hX:∀b,X' b→X b∨w.heap.size≤b∨b<base):zM w' base X' zs:=by
 intro z hz
 obtain ⟨hn,lo,hi,h1,h2,h3,hr⟩:=h z hz
 refine ⟨hn,lo,hi,h1,by omega,fun b hx hb=>?_,Rep.carry lz lz (fun b hb1 hb2=>hs b (by omega) (fun hx=>h3 b hx ⟨hb1,hb2⟩) (by omega)) _ _ hr⟩
 rcases hX b hx with hx|hx|hx
 · exact h3 b hx hb
 · omega
 · omega
theorem zM.snoc {w:World} {base:Nat} {X:Nat→Prop} {zs:List (Mem × Key2)} (h:zM w base X zs) (x:Mem) (k:Key2) (lo hi:Nat) (hn:x.name=id2 k) (h1:base≤lo) (h2:hi≤w.heap.size) (h3:∀b,X b→¬(lo≤b∧b<hi)) (hr:Rep w lo hi (obj2 k) x.val) :
 zM w base X (zs ++ [(x,k)]):=by
 intro z hz
 rcases List.mem_append.1 hz with hz|hz
 · exact h z hz
 · simp at hz;subst hz;exact ⟨hn,lo,hi,h1,h2,h3,hr⟩
theorem zM.perm {w:World} {base:Nat} {X:Nat→Prop} {zs zs':List (Mem × Key2)} (h:zM w base X zs) (hp:zs'.Perm zs):zM w base X zs':=fun z hz=>h z (hp.subset hz)
theorem flat_get {ms:List Mem} (i c:Nat) (hi:i<ms.length) (hc:c<6):(ms.flatMap qW)[i * 6+c]?=some ((qW ms[i])[c]!):=by
 induction ms generalizing i with
 | nil=>simp at hi
 | cons m r ih =>
  rw [List.flatMap_cons]
  rcases i with _|i
  · rw [List.getElem?_append_left (by rw [zn];omega)]
    rw [Nat.zero_mul,Nat.zero_add]
    have:c<(qW m).length:=by rw [zn];exact hc
    rw [List.getElem?_eq_getElem this]
    show some _=some ((qW m)[c]!)
    rw [getElem!_pos (qW m) c this]
  · rw [List.getElem?_append_right (by rw [zn];omega),zn,show (i+1) * 6+c - 6=i * 6+c by omega]
    exact ih i (by simpa using hi)
theorem mS {w:World} {base e g cap n:Nat} {ms:List Mem} (h:w.ownsRow base e 6 (.slice (some ⟨g,0,none⟩) n cap) n (ms.flatMap qW)):HoldsK qW 6 w g 0 ms.toArray:=by
 intro j hj
 have hj':j<ms.length * 6:=by simpa using hj
 rcases h.2 with ⟨hx,_⟩|⟨g',cap',cur,hx,hg,hh,_⟩
 · cases hx
 · simp only [Value.slice.injEq,Option.some.injEq,Addr.mk.injEq,and_true] at hx
   obtain ⟨rfl,_⟩:=hx
   refine ⟨?_,by simp [World.frozen?,hh]⟩
   have hq:j / 6<ms.length:=by omega
   have hm:j % 6<6:=Nat.mod_lt _ (by decide)
   have hf:=flat_get (ms:=ms) (j / 6) (j % 6) hq hm
   rw [show j / 6 * 6+j % 6=j by omega] at hf
   have hc:=h.cells (g:=g) rfl j _ hf
   have ea:(⟨g,0,none⟩:Addr).add j=⟨g,j,none⟩:=by unfold Addr.add;split <;> simp_all
   rw [ea] at hc
   rw [Nat.zero_add,hc,get_flatK _ _ _ _ (by simpa using hj')]
   congr 2
   simp [hq]
end Go.Proofs.YtnlgmcapbbgelaaGreatDoor

namespace Go.Proofs.YtnlgmcapbbgelaaGreatDoor
open Go.RowKit
end Go.Proofs.YtnlgmcapbbgelaaGreatDoor

namespace Go.Proofs.YtnlgmcapbbgelaaGreatDoor
open Go.RowKit Go.Shelf Go.Sort
set_option maxHeartbeats 400000 in
theorem s9 (W:World):Calls Tryz.prog 190 #[.slice none 0 0,.int .i64 0,.int .i64 0,.func (.func 120) #[] #[]] W fun e w'=>e=.returned (.tuple #[])∧w'=W:=by
 go_enter Tryz.func190,Tryz.ntmps190
 go_wp2
 go_loopw [8] (fun i wr=>i=.int .i64 1∧wr=W) (fun _ _=>0)
 case atStart=>exact ⟨rfl,rfl⟩
 case round =>
  obtain ⟨rfl,rfl⟩:=hrel
  go_wp2
  go_end0
  exact ⟨rfl,rfl⟩
set_option maxHeartbeats 400000 in
theorem aq (W:World) (lim:Int):Calls Tryz.prog 158 #[.slice none 0 0,.int .i64 0,.int .i64 0,.int .i64 lim,.func (.func 120) #[] #[]] W fun e w'=>e=.returned (.tuple #[])∧w'=W:=by
 have H:=s9 W
 go_enter Tryz.func158,Tryz.ntmps158
 go_wp2
 go_loopw [1,2,3,10,11,12,13,14,15,16,17,18,19,20] (fun a b _ _ _ _ _ _ _ _ _ _ _ _ wr=>a=.int .i64 0∧b=.int .i64 0∧wr=W) (fun _ _ _ _ _ _ _ _ _ _ _ _ _ _ _=>0)
 case atStart=>exact ⟨rfl,rfl,rfl⟩
 case round =>
  obtain ⟨rfl,rfl,rfl⟩:=hrel
  go_wp2_with fail
  refine H.mono ?_
  rintro e w1 ⟨rfl,rfl⟩
  go_wp2
  (try simp only [Exit.inBlock,Exit.then])
  refine bodyPost_ret (results_none rfl _ _ _) rfl ?_
  exact ⟨rfl,rfl⟩
set_option maxHeartbeats 400000 in
theorem nI (w:World):Calls Tryz.prog 119 #[.slice none 0 0,.func (.func 120) #[] #[]] w fun e w'=>e=.returned (.tuple #[])∧w'=w:=by
 have HL:=Tryz.bits_Len 0 w (by omega) (by omega)
 go_enter Tryz.func119,Tryz.ntmps119
 go_wp2_with fail
 refine HL.mono ?_
 rintro e w1 ⟨rfl,rfl⟩
 go_wp2_with fail
 refine (aq _ _).mono ?_
 rintro e w2 ⟨rfl,rfl⟩
 go_wp2
 go_end0
 exact ⟨rfl,rfl⟩
end Go.Proofs.YtnlgmcapbbgelaaGreatDoor

namespace Go.Proofs.YtnlgmcapbbgelaaGreatDoor
open Go.RowKit
theorem nO {w:World} {g T N:Nat} {v:Value} {f:Nat→Value} (hrow:w.rowIs g T N f) (h:∀j,j<N→f j=v) (hN:N≤maxLen):w.ownsRow g T 1 (.slice (some ⟨g,0,none⟩) N N) N (List.replicate N v):=by
 obtain ⟨cur,hh,hz,hf⟩:=hrow
 refine ⟨by simp,.inr ⟨g,N,cur,rfl,Nat.le_refl _,hh,Nat.le_refl _,hN,by omega,?_⟩⟩
 apply List.ext_getElem?
 intro j
 by_cases hj:j<N
 · have h1:=hf j hj
   rw [h j hj] at h1
   have h2:j<cur.size:=by omega
   rw [Array.getElem?_eq_getElem h2] at h1
   simp only [Option.some.injEq] at h1
   simp [hj,h2,h1]
 · rw [List.getElem?_eq_none (by simp;omega),List.getElem?_eq_none (by simp;omega)]
theorem dR (c:UInt8) (n:Nat):Lib.byteCells (List.replicate n c)=List.replicate n (.int .u8 c.toNat):=by simp [Lib.byteCells]
set_option maxHeartbeats 1000000 in
set_option maxRecDepth 100000 in
theorem si (c:UInt8) (w:World):Calls Tryz.prog 19 #[.int .u8 c.toNat] w fun e w'=>e=.returned (.string (qG c))∧Below w.heap.size w w':=by
 obtain ⟨s,hs⟩:∃s,s=qG c:=⟨_,rfl⟩
 have HS:=Lh (show s=⟨(List.replicate 64 c).toArray⟩ from hs)
 rw [← hs]
 obtain ⟨n,hn⟩:∃n:Nat,n=c.toNat:=⟨_,rfl⟩
 have HN:=Lh hn
 rw [← hn]
 clear hs hn
 obtain ⟨i0,hi,hz0,hz1,hz2⟩:=info_parts mC
 go_enter Tryz.func19,Tryz.ntmps19
 go_wp2_with (at_make;refine wpList_make_full _ rfl (.const (.int .i64 64)) (.const (.int .i64 64)) 99 rfl w.heap.size 5 i0 (.int .u8 0) 1 Tryz.underlying99 hi hz0 hz1 .i64 .i64 _ _ 64 rfl rfl rfl rfl ?b2 ?b3 lz ?_)
 case b2=>rw [hz2];decide
 case b3=>unfold maxLen;decide
 intro w1 hown hgrow
 have HB1:Hid (Below w.heap.size w w1):=(Below.refl _ _).grown hgrow lz (by simp)
 have HR1:=Lh (show ∃f,w1.rowIs w.heap.size 5 64 f from by
  rcases hown.2 with ⟨h,_⟩|⟨g,cap,cur,hv,hg,hh,hc,hm,hz,ht⟩
  · cases h
  · simp only [Value.slice.injEq,Option.some.injEq,Addr.mk.injEq,and_true,true_and] at hv
    obtain ⟨rfl,rfl⟩:=hv
    exact ⟨fun i=>cur[i]!,cur,hh,hz,fun i hi=>by show cur[i]?=some cur[i]!;rw [getElem!_pos cur i (by omega),Array.getElem?_eq_getElem (by omega)]⟩)
 have HZ1:=Lh (show w.heap.size<w1.heap.size from by
  obtain ⟨f,hf⟩:=HR1.out
  exact hf.lt)
 clear hown hgrow
 go_wp2
 go_loopw [4] (fun i wr=>∃(k:Nat) (f:Nat→Value),k≤64∧i=.int .i64 k∧wr.rowIs w.heap.size 5 64 f∧(∀j,j<k→f j=.int .u8 n)∧Below w.heap.size w wr) (fun i _=>64 - (intOf i).toNat)
 case atStart =>
  obtain ⟨f,hf⟩:=HR1.out
  exact ⟨0,f,by omega,rfl,hf,fun j h=>by omega,HB1.out⟩
 case round =>
  obtain ⟨k,f,hk,rfl,hrow,hal,hbel⟩:=hrel
  have HAL:=Lh hal
  have HB:=Lh hbel
  have HRW:=Lh hrow
  clear hal hbel
  by_cases hlt:k<64
  · have m1:decide ((k:Int)<64)=true:=by simp;omega
    have m0:(0:Int)≤(k:Int):=by omega
    have m2:(k:Int)<64:=by omega
    have e0:=hrow.cell (i:=k) hlt
    have f0:=hrow.frozen k
    have HRN:=Lh (hrow.set k (.int .u8 (n:Int)))
    clear hrow
    go_wp2
    go_roundw
    case rel =>
     refine ⟨k+1,_,by omega,by go_num,HRN.out,fun j hj=>?_,HB.out.setCell lz _⟩
     by_cases e:j=k
     · simp [e]
     · simp only [e,if_false];exact HAL.out j (by omega)
    case measure=>simp [intOf];omega
  · obtain rfl:k=64:=by omega
    have m1:decide (((64:Nat):Int)<64)=false:=by decide
    have hown2:=nO hrow (fun j hj=>HAL.out j hj) (by unfold maxLen;omega)
    rw [HN.out,← dR] at hown2
    have hcv:=xu (P:=Tryz.prog) 99 9 5 Tryz.underlying99 Tryz.underlying5 Tryz.underlying9 hown2
    rw [← HS.out] at hcv
    clear hrow hown2
    go_wp2
    go_ret
    exact ⟨rfl,HB.out⟩
set_option maxHeartbeats 1000000 in
set_option maxRecDepth 100000 in
theorem bJ (c:UInt8) (w:World):Calls Tryz.prog 16 #[.int .u8 c.toNat] w fun e w'=>∃g,e=.returned (.agg #[.int .i64 1,.slice (some ⟨g,0,none⟩) 1 1])∧qk w' w.heap.size w'.heap.size (some ⟨g,0,none⟩) [qG c]∧Below w.heap.size w w':=by
 obtain ⟨n,hn⟩:∃n:Nat,n=c.toNat:=⟨_,rfl⟩
 obtain ⟨W,hW⟩:∃W,W=w.alloc (.cells #[.int .i64 0,.slice none 0 0] 30):=⟨_,rfl⟩
 have hb:Below w.heap.size w W:=by rw [hW];exact (Below.refl _ _).alloc lz _
 have hr:W.rowIs w.heap.size 30 2 (zA (.int .i64 0) (.slice none 0 0)):=by rw [hW];exact jj w _ _ _
 have HID:=Lh (si c W)
 rw [← hn] at HID ⊢
 obtain ⟨s,hs⟩:∃s,s=qG c:=⟨_,rfl⟩
 rw [← hs] at HID ⊢
 have HB:=Lh hb
 have HR:=Lh hr
 have HW:=Lh hW
 clear hn hW hb hr hs
 go_enter Tryz.func16,Tryz.ntmps16
 go_upto_region 1 with fail
 rw [← HW.out]
 clear HW
 go_wp2_with fail
 refine HID.out.mono ?_
 clear HID
 rintro r w1 ⟨rfl,hb1⟩
 have hr1:=qx hb1 HR.out HR.out.lt
 have hrX:=hr1.alloc (.cells #[.string s] 9)
 have HRX:=Lh hrX
 have HB1:=Lh (HB.out.trans (hb1.mono HB.out.size))
 have HX:=Lh (heap_alloc_new w1 (.cells #[.string s] 9))
 have HZ:=Lh (show w.heap.size<w1.heap.size from hr1.lt)
 have t0:=hrX.cell (i:=0) (by decide);have t1:=hrX.cell (i:=1) (by decide)
 have s0:=hrX.frozen 0;have s1:=hrX.frozen 1
 simp only [zA] at t0 t1
 clear hr1 hrX hb1
 go_wp2
 refine bodyPost_ret (results_cell_row Tryz.results16 _ _ w.heap.size 30 _ (0,0) _ rfl (qC (set2 _ _ HRX.out)) Tryz.underlying30 rfl (by kernel_rfl)) rfl ?_
 refine ⟨w1.heap.size,rfl,.inr ⟨_,0,rfl,by have:=HZ.out;omega,by simp [World.setCell],fun i hi=>?_⟩,xi _ _ (HB1.out.alloc HB1.out.size _) lz⟩
 obtain rfl:i=0:=by simp at hi;omega
 rw [World.cell?_of_block (w:=w1.alloc (.cells #[.string s] 9)) (pl _ _ (show w1.heap.size≠w.heap.size by have:=HZ.out;omega))]
 exact qq HX.out rfl
def az (w:World) (e:Ending) (w':World):Prop:=∃ia ib ic,e=.returned (.agg #[.int .i64 1,.int .i64 9,.slice none 0 0,.int .i64 1,.slice ia 1 1,.int .i64 1,.slice ib 1 1,.int .i64 1,.slice ic 1 1])∧RootIn w' w.heap.size w'.heap.size exR none ia ib ic∧Below w.heap.size w w'
set_option maxHeartbeats 1000000 in
set_option maxRecDepth 100000 in
theorem cG (w:World):Calls Tryz.prog 22 #[] w (az w):=by
 obtain ⟨W,hW⟩:∃W,W=w.alloc (.cells #[.int .i64 0,.int .i64 0,.slice none 0 0,.int .i64 0,.slice none 0 0,.int .i64 0,.slice none 0 0,.int .i64 0,.slice none 0 0] 32):=⟨_,rfl⟩
 have HB:=Lh (show Below w.heap.size w W by rw [hW];exact (Below.refl _ _).alloc lz _)
 have HR:=Lh (show W.rowIs w.heap.size 32 9 (qR (.int .i64 0) (.int .i64 0) (.slice none 0 0) (.int .i64 0) (.slice none 0 0) (.int .i64 0) (.slice none 0 0) (.int .i64 0) (.slice none 0 0)) by rw [hW];exact vP w _ _ _ _ _ _ _ _ _ _)
 have HW:=Lh hW
 clear hW
 go_enter Tryz.func22,Tryz.ntmps22
 go_upto_region 1 with fail
 rw [← HW.out]
 clear HW
 go_wp2_with fail
 refine (bJ 97 W).mono ?_
 rintro r w1 ⟨ga,rfl,hs1,hb1⟩
 have HS1:=Lh hs1
 have HZ0:=Lh HR.out.lt
 replace HR:=Lh (qx hb1 HR.out HR.out.lt)
 replace HB:=Lh (HB.out.trans (hb1.mono HB.out.size))
 have HZ1:=Lh (show w.heap.size<W.heap.size∧W.heap.size≤w1.heap.size from ⟨HZ0.out,hb1.size⟩)
 clear hs1 hb1
 go_wp2_with fail
 refine (bJ 98 w1).mono ?_
 rintro r w2 ⟨gb,rfl,hs2,hb2⟩
 have HS2:=Lh hs2
 replace HR:=Lh (qx hb2 HR.out HR.out.lt)
 replace HB:=Lh (HB.out.trans (hb2.mono HB.out.size))
 replace HS1:=Lh (HS1.out.below hb2 lz lz hb2.size)
 have HZ2:=Lh hb2.size
 clear hs2 hb2
 go_wp2_with fail
 refine (bJ 99 w2).mono ?_
 rintro r w3 ⟨gc,rfl,hs3,hb3⟩
 have HS3:=Lh hs3
 have hr3:=qx hb3 HR.out HR.out.lt
 have HR3:=Lh hr3
 replace HB:=Lh (HB.out.trans (hb3.mono HB.out.size))
 replace HS1:=Lh (HS1.out.below hb3 lz lz hb3.size)
 replace HS2:=Lh (HS2.out.below hb3 lz lz hb3.size)
 clear hs3 hb3
 obtain ⟨t0,t1,t2,t3,t4⟩:=rc5 hr3;have t5:=hr3.cell (i:=5) (by decide);have t6:=hr3.cell (i:=6) (by decide);have t7:=hr3.cell (i:=7) (by decide);have t8:=hr3.cell (i:=8) (by decide)
 obtain ⟨s0,s1,s2,s3,s4⟩:=rf5 hr3;have s5:=hr3.frozen 5;have s6:=hr3.frozen 6;have s7:=hr3.frozen 7;have s8:=hr3.frozen 8
 simp only [qR] at t0 t1 t2 t3 t4 t5 t6 t7 t8
 clear hr3
 go_wp2
 refine bodyPost_ret (results_cell_row Tryz.results22 _ _ w.heap.size 32 _ (0,0) _ rfl (xO (cO _ _ _ _ _ _ _ _ _ HR3.out)) Tryz.underlying32 rfl (by kernel_rfl)) rfl ?_
 have hz:=HZ1.out
 have hz2:=HZ2.out
 refine ⟨_,_,_,rfl,⟨.inl rfl,?_,?_,?_⟩,wD _ _ _ _ _ _ _ _ _ HB.out lz⟩
 · exact HS1.out.carry (by omega) (Nat.le_of_eq kK.symm) (fun b h1 h2=>fO _ _ _ _ _ _ _ _ _ (by omega))
 · exact HS2.out.carry (by omega) (Nat.le_of_eq kK.symm) (fun b h1 h2=>fO _ _ _ _ _ _ _ _ _ (by omega))
 · exact HS3.out.carry (by omega) (Nat.le_of_eq kK.symm) (fun b h1 h2=>fO _ _ _ _ _ _ _ _ _ (by omega))
end Go.Proofs.YtnlgmcapbbgelaaGreatDoor
