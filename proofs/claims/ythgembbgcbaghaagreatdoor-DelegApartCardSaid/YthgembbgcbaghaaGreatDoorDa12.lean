/- Snapshots with a pin less, or two pins changed about, plain. No program in sight. -/
import Derived.Test.YthgembbgcbaghaaGreatDoorDa11
import Derived.Test.YthgembbgcbaghaaGreatDoorDa07
import Derived.Laws.RangeString
import Derived.Maps.OwnOps
import Derived.Maps.Views
import Derived.StringKeys
import Derived.Lib.Strings

namespace Go.Proofs.YthgembbgcbaghaaGreatDoor
open Go.RowKit
theorem yD:∀x:List UInt8,Op.bytesLess x x=false
 | []=>rfl
 | a :: x=>by simp [Op.bytesLess,yD x]
theorem v8:∀x y z:List UInt8,Op.bytesLess x y=true→Op.bytesLess y z=true→Op.bytesLess x z=true
 | _,_,[],_,h=>by simp [Op.bytesLess] at h
 | _,[],_ :: _,h,_=>by simp [Op.bytesLess] at h
 | [],_ :: _,_ :: _,_,_=>rfl
 | a :: x,b :: y,c :: z,h1,h2=>by
  simp only [Op.bytesLess,Bool.or_eq_true,decide_eq_true_eq,Bool.and_eq_true,beq_iff_eq] at h1 h2 ⊢
  rcases h1 with h1|⟨rfl,h1⟩
  · rcases h2 with h2|⟨rfl,h2⟩
    · exact .inl (UInt8.lt_trans h1 h2)
    · exact .inl h1
  · rcases h2 with h2|⟨rfl,h2⟩
    · exact .inl h2
    · exact .inr ⟨rfl,v8 x y z h1 h2⟩
theorem gH:∀x y:List UInt8,Op.bytesLess x y=false→Op.bytesLess y x=false→x=y
 | [],[],_,_=>rfl
 | [],_ :: _,h,_=>by simp [Op.bytesLess] at h
 | _ :: _,[],_,h=>by simp [Op.bytesLess] at h
 | a :: x,b :: y,h1,h2=>by
  simp only [Op.bytesLess,Bool.or_eq_false_iff,decide_eq_false_iff_not,Bool.and_eq_false_iff] at h1 h2
  have e:a=b:=UInt8.le_antisymm (UInt8.not_lt.1 h2.1) (UInt8.not_lt.1 h1.1)
  subst e
  have g1:Op.bytesLess x y=false:=by rcases h1.2 with h|h;simp at h;exact h
  have g2:Op.bytesLess y x=false:=by rcases h2.2 with h|h;simp at h;exact h
  rw [gH x y g1 g2]
def bl (a b:ByteArray):Bool:=Op.bytesLess a.toList b.toList
theorem yg {a b:ByteArray} (h:a.toList=b.toList):a=b:=by
 rw [ByteArray.toList_eq,ByteArray.toList_eq] at h
 exact ByteArray.ext (Array.toList_inj.1 h)
theorem zc (a:ByteArray):bl a a=false:=yD _
theorem xi {a b c:ByteArray} (h:bl a b=true) (h':bl b c=true):bl a c=true:=v8 _ _ _ h h'
theorem fx {a b:ByteArray} (h:bl a b=false) (h':bl b a=false):a=b:=yg (gH _ _ h h')
theorem hY {a b:ByteArray} (h:bl a b=true):bl b a=false:=by
 cases h':bl b a
 · rfl
 · have:=xi h h';rw [zc] at this;cases this
theorem mJ {a:ByteArray} {l:List ByteArray} (h:qe (a :: l)=true):qe l=true:=by
 cases l with
 | nil=>rfl
 | cons b r=>simp only [qe,Bool.and_eq_true] at h;exact h.2
theorem gU:∀ {l:List ByteArray} {a:ByteArray} (_:qe (a :: l)=true) (j:Nat) (h:j<l.length),bl a l[j]=true
 | [],_,_,j,h=>by simp at h
 | b :: r,a,h,0,_=>by simp only [qe,Bool.and_eq_true] at h;exact h.1
 | b :: r,a,h,j+1,hj=>by
  simp only [qe,Bool.and_eq_true] at h
  exact xi h.1 (gU h.2 j (by simpa using hj))
theorem xN:∀ {l:List ByteArray} (_:qe l=true) (i j:Nat) (hi:i<l.length) (hj:j<l.length),i<j→bl l[i] l[j]=true
 | [],_,i,j,hi,_,_=>by simp at hi
 | a :: r,h,0,j+1,_,hj,_=>gU h j (by simpa using hj)
 | a :: r,h,i+1,j+1,hi,hj,hlt=>by
  simp only [List.getElem_cons_succ]
  exact xN (mJ h) i j (by simpa using hi) (by simpa using hj) (by omega)
 | a :: r,h,i,0,_,_,hlt=>by omega
def rj (l:List ByteArray) (x:ByteArray) (w:World) (e:Ending) (w':World):Prop :=
 ∃(r:Nat) (f:Bool),e=.returned (.tuple #[.int .i64 r,.bool f])∧r≤l.length∧(∀t (h:t<l.length),t<r→bl l[t] x=true)∧(∀t (h:t<l.length),r≤t→bl l[t] x=false) ∧
  (f=true→∃h:r<l.length,l[r]=x)∧(f=false→∀t (h:t<l.length),l[t]≠x)∧Below w.heap.size w w'
end Go.Proofs.YthgembbgcbaghaaGreatDoor

namespace Go.Proofs.YthgembbgcbaghaaGreatDoor
open Go.RowKit Go.Shelf Go.Sort
structure Mem where
 name:ByteArray
 k:Int
 n:Int
 t:ByteArray
 an:Option Addr
 nn:Nat
 cn:Nat
 ai:Option Addr
 ni:Nat
 ci:Nat
instance : Inhabited Mem := ⟨⟨{ data := #[] }, 0, 0, { data := #[] }, none, 0, 0, none, 0, 0⟩⟩
def Mem.val (x:Mem):Value:=.agg #[.int .u8 x.k,.int .i64 x.n,.string x.t,.slice x.an x.nn x.cn,.slice x.ai x.ni x.ci]
def qV (x:Mem):List Value:=[.string x.name,.int .u8 x.k,.int .i64 x.n,.string x.t,.slice x.an x.nn x.cn,.slice x.ai x.ni x.ci]
def cfM (x y:Mem):Int:=Lib.compareBytes x.name.data.toList y.name.data.toList
theorem zZ (x:Mem):(qV x).length=6:=rfl
theorem xq (x:Mem):∀v ∈ qV x,v.oneCell'=true:=by
 intro v hv
 simp only [qV,List.mem_cons,List.not_mem_nil,or_false] at hv
 rcases hv with rfl|rfl|rfl|rfl|rfl|rfl <;> rfl
theorem js:(Tryz.prog.info? 169).map (fun i=>(i.zero,i.size,i.bytes))=some (some (.agg #[.string ⟨#[]⟩,.int .u8 0,.int .i64 0,.string ⟨#[]⟩,.slice none 0 0,.slice none 0 0]),6,96):=by kernel_rfl
theorem kK (t:ByteArray) (w:World):Calls Tryz.prog 201 #[.string t] w fun e w'=>e=.returned (.agg #[.int .u8 3,.int .i64 0,.string t,.slice none 0 0,.slice none 0 0])∧w'=w.alloc (.cells #[.int .u8 3,.int .i64 0,.string t,.slice none 0 0,.slice none 0 0] 25):=by
 go_enter Tryz.func201,Tryz.ntmps201
 go_wp2
 exact bodyPost_ret (results_cell_row Tryz.results201 _ _ w.heap.size 25 _ (0,0) _ rfl (heap_alloc_new w _) Tryz.underlying25 rfl (by kernel_rfl)) rfl ⟨rfl,rfl⟩
theorem pd (x y:Mem) (W:World):Calls Tryz.prog 207 #[.agg (qV x).toArray,.agg (qV y).toArray] W fun e w'=>e=.returned (.int .i64 (cfM x y))∧∃q os',w'=grow (W.drewN q) os':=by
 have hcon:=fun W'=>Tryz.strings_Compare x.name y.name W'
 unfold cfM qV
 generalize Lib.compareBytes x.name.data.toList y.name.data.toList=r at hcon ⊢
 go_enter Tryz.func207,Tryz.ntmps207
 go_wp2_with (go_at_call 155;refine (hcon _).mono ?_;rintro e w' ⟨rfl,rfl⟩)
 go_ret
 exact ⟨rfl,0,_,by rw [alloc_eq_grow,alloc_eq_grow,grow_grow];rfl⟩
theorem vG (lt:Mem→Mem→Bool) (a:Nat):∀(j:Nat) (d:Array Mem),(insInner lt a j d).size=d.size
 | 0,d=>rfl
 | j+1,d=>by
  unfold insInner
  split
  · rw [vG lt a j,size_swp]
  · rfl
theorem vB (lt:Mem→Mem→Bool) (a b:Nat):∀(m i:Nat) (d:Array Mem),b - i≤m→(insOuter lt a b i d).size=d.size
 | 0,i,d,h=>by unfold insOuter;rw [if_neg (by omega)]
 | m+1,i,d,h=>by
  unfold insOuter
  split
  · rw [vB lt a b m (i+1) _ (by omega),vG]
  · rfl
theorem ji (lt:Mem→Mem→Bool) (d:Array Mem) (a b:Nat):(insertionSort lt d a b).size=d.size:=vB lt a b _ _ d lz
theorem mK (lt:Mem→Mem→Bool) (d:Array Mem) (b:Nat) (h:∀j,j+1<b→lt d[j+1]! d[j]! = false):insertionSort lt d 0 b=d:=by
 have h2:∀(m i:Nat),b - i≤m→insOuter lt 0 b i d=d:=by
  intro m
  induction m with
  | zero=>intro i hi;unfold insOuter;rw [if_neg (by omega)]
  | succ m ih =>
   intro i hi
   unfold insOuter
   split
   · rename_i hib
     have:insInner lt 0 i d=d:=by
      rcases i with _|j
      · rfl
      · unfold insInner;rw [h j hib];simp
     rw [this]
     exact ih (i+1) (by omega)
   · rfl
 exact h2 _ _ lz
theorem hF (blk off cap:Nat) (d:Array Mem) (w:World) (hH:HoldsK qV 6 w blk off d) (hd:d.size≤4294967296) :
 Calls Tryz.prog 205 #[.slice (some ⟨blk,off,none⟩) d.size cap] w fun e w'=>∃g cap',e=.returned (.slice (some ⟨g,0,none⟩) d.size cap')∧w.heap.size≤g∧g<w'.heap.size ∧
  HoldsK qV 6 w' g 0 d∧Below w.heap.size w w':=by
 obtain ⟨i0,hi0,hz0,hz1,hz2⟩:=info_parts js
 have hget:∀j u,(flatK qV 6 d).toList[j]?=some u→j<d.size * 6∧(flatK qV 6 d)[j]! = u:=fun j u hj=>by
  obtain ⟨hlt,he⟩:=List.getElem?_eq_some_iff.1 hj
  have hlt':j<(flatK qV 6 d).size:=by simpa using hlt
  refine ⟨by simpa using hlt',?_⟩
  rw [getElem!_pos _ j hlt']
  simpa using he
 refine (AnyE.slices_Clone fO i0 _ 6 96 hi0 hz0 hz1 hz2 rfl (by decide) Tryz.sizeOf169 blk off d.size cap (flatK qV 6 d).toList w (by simp) (by unfold maxLen;omega) (by omega) (fun j u hj=>?_) (fun u hu=>?_)).mono ?_
 · obtain ⟨h1,h2⟩:=hget j u hj
   rw [(hH j (by simpa using h1)).1,h2]
   rfl
 · obtain ⟨j,hj⟩:=List.getElem?_of_mem hu
   obtain ⟨h1,h2⟩:=hget j u hj
   rw [get_flatK _ _ _ _ h1] at h2
   subst h2
   have hm:j % 6<(qV d[j / 6]!).length:=by rw [zZ];omega
   rw [getElem!_pos (qV d[j / 6]!) (j % 6) hm]
   exact xq _ _ (List.getElem_mem hm)
 · rintro e w' ⟨v',rfl,hown,hne,hb⟩
   have hcs:=hown
   rcases hown.2 with ⟨rfl,h0⟩|⟨g,cap',cur,rfl,hg,hh,hc,hm,hs,ht⟩
   · exact absurd rfl hne
   · have hlt:g<w'.heap.size:=by
      rcases Nat.lt_or_ge g w'.heap.size with hlt|hge
      · exact hlt
      · rw [Array.getElem?_eq_none hge] at hh;cases hh
     refine ⟨g,cap',rfl,hg,hlt,fun j hj=>⟨?_,by simp [World.frozen?,hh]⟩,hb⟩
     have:=hcs.cells (g:=g) rfl j (flatK qV 6 d)[j]! (by rw [getElem!_pos _ j hj];simp)
     have e:(⟨g,0,none⟩:Addr).add j=⟨g,j,none⟩:=by unfold Addr.add;split <;> simp_all
     rw [e] at this
     rw [Nat.zero_add]
     exact this
theorem jq {w:World} {blk off n:Nat} {d:Array Mem} {os:Array Obj}:Touch (· = blk) w (sortWorldK qV 6 w blk off n d os):=by
 refine ⟨rfl,rfl,rfl,by simp [sortWorldK,putRowK,Go.Sort.ahead],fun k hk hs=>?_⟩
 rw [sortWorldK,heap_grow_old _ _ (by simp [putRowK,Go.Sort.ahead];exact hk)]
 show (((Go.Sort.ahead w n).heap.modify blk _))[k]?=_
 rw [Array.getElem?_modify,if_neg (fun e=>hs e.symm)]
 rfl
theorem nI (blk off cap:Nat) (d:Array Mem) (w:World) (hH:HoldsK qV 6 w blk off d) (hblk:blk<w.heap.size) (h12:d.size≤12) :
 Calls Tryz.prog 206 #[.slice (some ⟨blk,off,none⟩) d.size cap,.func (.func 207) #[] #[]] w fun e w'=>e=.returned (.tuple #[]) ∧
  HoldsK qV 6 w' blk off (insertionSort (ltOf cfM) d 0 d.size)∧Touch (· = blk) w w':=by
 have eg:∀args w,(callFunc 207 args).run Tryz.prog w=.ok (.enter 207 args) w:=enters_of Tryz.func207 (by kernel_rfl) rfl
 have hl:∀(n:Nat) (W:World),n≤12→Calls Tryz.prog 154 #[.int .u64 n] W fun e w'=>(∃l:Int,e=.returned (.int .i64 l))∧w'=W:=fun n W h =>
  (Tryz.bits_Len n W (by omega) (by omega)).mono fun _ _ ⟨he,hw⟩=>⟨⟨_,he⟩,hw⟩
 have hcon:=AnyQ.slices_SortFunc_small gG 6 Tryz.isAgg169 Tryz.sizeOf169 qV zZ xq cfM 207 #[] blk off cap d w eg (fun _ _ _ _ x y=>pd x y _) hH hblk h12 hl
 refine hcon.mono ?_
 rintro e w' ⟨rfl,n,os,rfl⟩
 have hsz:(insertionSort (ltOf cfM) d 0 d.size).size=d.size:=ji _ _ _ _
 refine ⟨rfl,holdsK_grow qV 6 _ _ _ _ _ (by simp [putRowK,Go.Sort.ahead];exact hblk) (holdsK_putRowK qV 6 _ _ _ d _ (holdsK_ahead qV 6 _ _ _ _ _ hH) hsz),jq⟩
end Go.Proofs.YthgembbgcbaghaaGreatDoor

namespace Go.Proofs.YthgembbgcbaghaaGreatDoor
open Go.RowKit
theorem zL {w w':World} {base e size n:Nat} {v:Value} {cs:List Value} (h:w.ownsRow base e size v n cs) (hb:∀b,v.ownBlock=some b→w'.heap[b]?=w.heap[b]?):w'.ownsRow base e size v n cs:=by
 refine ⟨h.1,?_⟩
 rcases h.2 with h2|⟨g,cap,cur,hv,hg,hh,r⟩
 · exact .inl h2
 · refine .inr ⟨g,cap,cur,hv,hg,?_,r⟩
   rw [hb g (by rw [hv];rfl)]
   exact hh
structure ObjAt (W wr:World) (cb T e1 e5:Nat) (vn vi:Value) (ns:List ByteArray) (its:List JV) (cs:List Value):Prop where
 lt:cb<W.heap.size
 touch:Touch (· = cb) W wr
 row:wr.rowIs cb T 5 (qQ (.int .u8 5) (.int .i64 0) (.string ⟨#[]⟩) vn vi)
 names:wr.ownsRow W.heap.size e1 1 vn ns.length (ns.map .string)
 items:wr.ownsRow W.heap.size e5 5 vi its.length cs
 reps:qM wr W.heap.size (fun b=>b=cb∨vn.ownBlock=some b∨vi.ownBlock=some b) its cs
 ne:∀b,vn.ownBlock=some b→vi.ownBlock≠some b
theorem ObjAt.below {W wr w':World} {cb T e1 e5:Nat} {vn vi:Value} {ns:List ByteArray} {its:List JV} {cs:List Value} (h:ObjAt W wr cb T e1 e5 vn vi ns its cs) (hb:Below wr.heap.size wr w'):ObjAt W w' cb T e1 e5 vn vi ns its cs where
 lt:=h.lt
 touch:=h.touch.trans (Touch.of_below hb lz)
 row:=qj hb h.row h.row.lt
 names:=qB h.names hb
 items:=qB h.items hb
 reps:=h.reps.carry hb.size lz (fun b hb' _=>hb.block b hb') (fun _ hx=>.inl hx)
 ne:=h.ne
theorem ObjAt.name {W wr w4:World} {cb T e1 e5 g cap:Nat} {vn vi:Value} {ns:List ByteArray} {its:List JV} {cs:List Value} (h:ObjAt W wr cb T e1 e5 vn vi ns its cs) (x:ByteArray)
 (hg:wr.grownBy w4 vn.ownBlock) (hat:vn.ownBlock=some g∨wr.heap.size≤g)
 (ho4:w4.ownsRow W.heap.size e1 1 (.slice (some ⟨g,0,none⟩) (ns.length+1) cap) (ns.length+1) (ns.map .string ++ [.string x])) :
 ObjAt W (w4.setCell ⟨cb,3,none⟩ (.slice (some ⟨g,0,none⟩) (ns.length+1) cap)) cb T e1 e5 (.slice (some ⟨g,0,none⟩) (ns.length+1) cap) vi (ns ++ [x]) its cs:=by
 have hwz:W.heap.size≤wr.heap.size:=h.touch.size
 have hz4:=hg.size
 have hlt:=h.lt
 have hon:∀b,vn.ownBlock=some b→W.heap.size≤b∧b<wr.heap.size:=fun b hb=>h.names.lt b hb
 have hoi:∀b,vi.ownBlock=some b→W.heap.size≤b∧b<wr.heap.size:=fun b hb=>h.items.lt b hb
 have s2:∀b,b<wr.heap.size→vn.ownBlock≠some b→w4.heap[b]?=wr.heap[b]?:=fun b hb hne=>hg.block b hb (fun e=>hne e.symm)
 have s3:∀b,b≠cb→(w4.setCell ⟨cb,3,none⟩ (.slice (some ⟨g,0,none⟩) (ns.length+1) cap)).heap[b]?=w4.heap[b]?:=fun b hb=>Below.heap_setCell _ _ _ _ hb
 have hcn:vn.ownBlock≠some cb:=fun e=>by have:=(hon cb e).1;omega
 have hz5:(w4.setCell ⟨cb,3,none⟩ (.slice (some ⟨g,0,none⟩) (ns.length+1) cap)).heap.size=w4.heap.size:=by simp [World.setCell]
 have hgb:∀b,(Value.slice (some ⟨g,0,none⟩) (ns.length+1) cap).ownBlock=some b→b=g:=fun b hb=>by simp [Value.ownBlock] at hb;exact hb.symm
 have hgi:vi.ownBlock≠some g:=fun e=>by
  rcases hat with ha|ha
  · exact h.ne g ha e
  · have:=(hoi g e).2;omega
 refine ⟨hlt,⟨?_,?_,?_,by omega,fun b hb hne=>?_⟩,?_,?_,?_,?_,?_⟩
 · show w4.os=_;rw [hg.os,h.touch.os]
 · show w4.tape=_;rw [hg.tape,h.touch.tape]
 · show w4.output=_;rw [hg.output,h.touch.output]
 · rw [s3 b hne,s2 b (by omega) (fun e=>by have:=(hon b e).1;omega)];exact h.touch.block b hb hne
 · have h4:w4.rowIs cb T 5 _:=h.row.of_block (s2 cb (by omega) hcn)
   refine (h4.set 3 _).congr fun i hi=>?_
   rcases i with _|_|_|_|_|i <;> first|rfl|omega
 · have:=ownsRow_setCell_below ho4 hlt (Value.slice (some ⟨g,0,none⟩) (ns.length+1) cap) (a:=⟨cb,3,none⟩)
   simpa using this
 · refine zL h.items fun b hb=>?_
   rw [s3 b (fun e=>by have:=(hoi b hb).1;omega),s2 b (hoi b hb).2 (fun e=>h.ne b e hb)]
 · refine h.reps.carry (by omega) lz (fun b hb hx=>?_) (fun b hx=>?_)
   · rw [s3 b (fun e=>hx (.inl e)),s2 b hb (fun e=>hx (.inr (.inl e)))]
   · rcases hx with hx|hx|hx
     · exact .inl (.inl hx)
     · rw [hgb b hx]
       rcases hat with ha|ha
       · exact .inl (.inr (.inl ha))
       · exact .inr ha
     · exact .inl (.inr (.inr hx))
 · intro b hb
   rw [hgb b hb];exact hgi
theorem ObjAt.item {W wr w3 w4:World} {cb T e1 e5 g cap lo hi:Nat} {vn vi:Value} {ns:List ByteArray} {its:List JV} {cs:List Value} {it:JV} {an ai:Option Addr} {cn ci:Nat} (h:ObjAt W wr cb T e1 e5 vn vi ns its cs)
 (hb3:Below wr.heap.size wr w3) (hlo:wr.heap.size≤lo) (hhi:hi≤w3.heap.size) (hr3:Rep w3 lo hi it (.agg #[.int .u8 it.kind,.int .i64 it.n,.string it.t,.slice an it.names.length cn,.slice ai it.items.length ci]))
 (hg:w3.grownBy w4 vi.ownBlock) (hat:vi.ownBlock=some g∨w3.heap.size≤g)
 (ho4:w4.ownsRow W.heap.size e5 5 (.slice (some ⟨g,0,none⟩) (its.length+1) cap) (its.length+1) (cs ++ [.int .u8 it.kind,.int .i64 it.n,.string it.t,.slice an it.names.length cn,.slice ai it.items.length ci])) :
 ObjAt W (w4.setCell ⟨cb,4,none⟩ (.slice (some ⟨g,0,none⟩) (its.length+1) cap)) cb T e1 e5 vn (.slice (some ⟨g,0,none⟩) (its.length+1) cap) ns (its ++ [it]) (cs ++ [.int .u8 it.kind,.int .i64 it.n,.string it.t,.slice an it.names.length cn,.slice ai it.items.length ci]):=by
 have hwz:W.heap.size≤wr.heap.size:=h.touch.size
 have hz3:=hb3.size
 have hz4:=hg.size
 have hlt:=h.lt
 have hon:∀b,vn.ownBlock=some b→W.heap.size≤b∧b<wr.heap.size:=fun b hb=>h.names.lt b hb
 have hoi:∀b,vi.ownBlock=some b→W.heap.size≤b∧b<wr.heap.size:=fun b hb=>h.items.lt b hb
 have s1:∀b,b<wr.heap.size→w3.heap[b]?=wr.heap[b]?:=fun b hb=>hb3.block b hb
 have s2:∀b,b<w3.heap.size→vi.ownBlock≠some b→w4.heap[b]?=w3.heap[b]?:=fun b hb hne=>hg.block b hb (fun e=>hne e.symm)
 have s3:∀b,b≠cb→(w4.setCell ⟨cb,4,none⟩ (.slice (some ⟨g,0,none⟩) (its.length+1) cap)).heap[b]?=w4.heap[b]?:=fun b hb=>Below.heap_setCell _ _ _ _ hb
 have hcn:vi.ownBlock≠some cb:=fun e=>by have:=(hoi cb e).1;omega
 have hz5:(w4.setCell ⟨cb,4,none⟩ (.slice (some ⟨g,0,none⟩) (its.length+1) cap)).heap.size=w4.heap.size:=by simp [World.setCell]
 have hgb:∀b,(Value.slice (some ⟨g,0,none⟩) (its.length+1) cap).ownBlock=some b→b=g:=fun b hb=>by simp [Value.ownBlock] at hb;exact hb.symm
 refine ⟨hlt,⟨?_,?_,?_,by omega,fun b hb hne=>?_⟩,?_,?_,?_,?_,?_⟩
 · show w4.os=_;rw [hg.os,hb3.os,h.touch.os]
 · show w4.tape=_;rw [hg.tape,hb3.tape,h.touch.tape]
 · show w4.output=_;rw [hg.output,hb3.output,h.touch.output]
 · rw [s3 b hne,s2 b (by omega) (fun e=>by have:=(hoi b e).1;omega),s1 b (by omega)];exact h.touch.block b hb hne
 · have h4:w4.rowIs cb T 5 _:=h.row.of_block (by rw [s2 cb (by omega) hcn,s1 cb (by omega)])
   refine (h4.set 4 _).congr fun i hi=>?_
   rcases i with _|_|_|_|_|i <;> first|rfl|omega
 · refine zL h.names fun b hb=>?_
   have:=hon b hb
   rw [s3 b (fun e=>by omega),s2 b (by omega) (h.ne b hb),s1 b this.2]
 · have:=ownsRow_setCell_below ho4 hlt (Value.slice (some ⟨g,0,none⟩) (its.length+1) cap) (a:=⟨cb,4,none⟩)
   simpa using this
 · have c1:qM (w4.setCell ⟨cb,4,none⟩ (.slice (some ⟨g,0,none⟩) (its.length+1) cap)) W.heap.size (fun b=>b=cb∨vn.ownBlock=some b∨(Value.slice (some ⟨g,0,none⟩) (its.length+1) cap).ownBlock=some b) its cs:=by
    refine h.reps.carry (by omega) lz (fun b hb hx=>?_) (fun b hx=>?_)
    · rw [s3 b (fun e=>hx (.inl e)),s2 b (by omega) (fun e=>hx (.inr (.inr e))),s1 b hb]
    · rcases hx with hx|hx|hx
      · exact .inl (.inl hx)
      · exact .inl (.inr (.inl hx))
      · rw [hgb b hx]
        rcases hat with ha|ha
        · exact .inl (.inr (.inr ha))
        · exact .inr (by omega)
   refine c1.snoc it lo hi an cn ai ci (by omega) (by omega) (fun b hx hb=>?_) (Rep.carry lz lz (fun b h1 h2=>?_) _ _ hr3)
   · rcases hx with hx|hx|hx
     · omega
     · have:=(hon b hx).2;omega
     · rw [hgb b hx] at hb
       rcases hat with ha|ha
       · have:=(hoi g ha).2;omega
       · omega
   · rw [s3 b (by omega),s2 b (by omega) (fun e=>by have:=(hoi b e).2;omega)]
 · intro b hb e
   rw [hgb b e] at hb
   rcases hat with ha|ha
   · exact h.ne g hb ha
   · have:=(hon g hb).2;omega
theorem ObjAt.done {W wr:World} {cb T e1 e5:Nat} {vn vi:Value} {ns:List ByteArray} {its:List JV} {cs:List Value} (h:ObjAt W wr cb T e1 e5 vn vi ns its cs) :
 ∃an cn ai ci,vn=.slice an ns.length cn∧vi=.slice ai its.length ci∧Rep wr W.heap.size wr.heap.size (.mk 5 0 ⟨#[]⟩ ns its) (.agg #[.int .u8 5,.int .i64 0,.string ⟨#[]⟩,.slice an ns.length cn,.slice ai its.length ci]):=by
 obtain ⟨an,cn,h1,h2,h3⟩:=xG h.names rfl
 obtain ⟨ai,ci,h4,h5,h6⟩:=zC h.items h.reps rfl
 exact ⟨an,cn,ai,ci,h1,h4,Rep.mk (v:=.mk 5 0 ⟨#[]⟩ ns its) h2 h5 h3 h6⟩
theorem yL (s:ByteArray) (h:∀k (hk:k<s.size),s[k].toNat<128):∀f pos,k8 s f pos=true
 | 0,_=>rfl
 | f+1,pos=>by
  unfold k8
  split
  · next hp =>
    have hd:=decode_ascii s pos hp (h pos hp)
    have:gP s pos=false:=by
     unfold gP;rw [hd]
     have:=h pos hp
     have e:((s[pos].toNat,1):Nat × Nat).1=s[pos].toNat:=rfl
     rw [e,beq_eq_false_iff_ne.2 (by omega)];rfl
    rw [this]
    exact yL s h f _
  · rfl
theorem mV (s:ByteArray) (h:∀c ∈ s.data.toList,c.toNat<128):wX s=true :=
 yL s (fun k hk=>by rw [← vR s k hk];exact h _ (List.getElem_mem _)) _ _
def xo (c:UInt8):Prop:=c.toNat<128∧c.toNat≠34∧c.toNat≠92
theorem yb {c:UInt8} (h:xK c=true):xo c:=by
 unfold xK at h;unfold xo;simp at h;omega
theorem mW {c:UInt8} (h:jh c=true):xo c:=by
 unfold jh at h;unfold xo;simp at h;omega
theorem wq {l:List UInt8} (h:zb l=true):(∀c ∈ l,xo c)∧1≤l.length∧l.length≤64:=by
 unfold zb at h
 simp only [Bool.and_eq_true,decide_eq_true_eq] at h
 exact ⟨fun c hc=>mW (List.all_eq_true.1 h.2 c hc),h.1.1⟩
theorem pl {l:List UInt8} (h:yY l=true):(∀c ∈ l,xo c)∧2≤l.length∧l.length≤128:=by
 unfold yY xY at h
 simp only [Bool.and_eq_true,decide_eq_true_eq] at h
 exact ⟨fun c hc=>yb (List.all_eq_true.1 h.2 c hc),h.1.1,h.1.2.1⟩
theorem zh {s:ByteArray} (h:∀c ∈ s.data.toList,xo c) (hl:s.size≤4096):qZ s=true:=by
 unfold qZ;rw [mV s fun c hc=>(h c hc).1];simpa using hl
theorem hO {s:ByteArray} (h:zb s.data.toList=true):qZ s=true:=by
 have h3:=wq h
 rw [qm] at h3
 exact zh h3.1 (by omega)
set_option maxHeartbeats 400000 in
theorem h8 (l:List ByteArray) (x:ByteArray) (a:Option Addr) (n c i p1 p2:Nat) (lo hi:Nat) (w:World) (hS:qw w lo hi a l) (hi':i<l.length) (hn:l.length=n) (_hb:n≤4294967296)
 (c1:w.cell? ⟨p1,0,none⟩=some (.slice a n c)) (c2:w.cell? ⟨p2,0,none⟩=some (.string x)) :
 Calls Tryz.prog 158 #[.int .i64 i,.pointer (some ⟨p1,0,none⟩),.pointer (some ⟨p2,0,none⟩)] w fun e w'=>e=.returned (.bool (!bl l[i] x))∧∃m,w'=w.drewN m:=by
 obtain ⟨b,off,rfl,_,_,c3⟩:=hS.at i hi'
 have j0:(0:Int)≤(i:Int):=by omega
 have j1:(i:Int)<(n:Int):=by omega
 have HB:=Lh (show bl l[i] x=Op.bytesLess l[i].toList x.toList from rfl)
 generalize l[i]=y at *
 clear hS hn hi'
 go_enter Tryz.func158,Tryz.ntmps158
 go_wp2_with fail
 go_quiet (fail)
 go_wp2
 go_ret
 exact ⟨by rw [HB.out];rfl,_,rfl⟩
set_option maxHeartbeats 400000 in
theorem mY (l:List ByteArray) (x:ByteArray) (a:Option Addr) (n c p1 p2:Nat) (lo hi:Nat) (w:World) (hS:qw w lo hi a l) (hn:l.length=n) (hb:n≤4294967296) (hr:qe l=true)
 (c1:w.cell? ⟨p1,0,none⟩=some (.slice a n c)) (c2:w.cell? ⟨p2,0,none⟩=some (.string x)) :
 Calls Tryz.prog 157 #[.int .i64 n,.func (.func 158) #[] #[.pointer (some ⟨p1,0,none⟩),.pointer (some ⟨p2,0,none⟩)]] w fun e w'=>(∃r:Nat,e=.returned (.int .i64 r)∧r≤l.length∧(∀t (h:t<l.length),t<r→bl l[t] x=true)∧(∀t (h:t<l.length),r≤t→bl l[t] x=false))∧∃m,w'=w.drewN m:=by
 have HS:=Lh hS;clear hS
 have HR:=Lh hr;clear hr
 have HN:=Lh hn;clear hn
 have HC1:=Lh c1;clear c1
 have HC2:=Lh c2;clear c2
 go_enter Tryz.func157,Tryz.ntmps157
 go_wp2
 go_loopw [5,6,7] (fun vi vj _ wr=>∃(i j m:Nat),i≤j∧j≤n∧vi=.int .i64 i∧vj=.int .i64 j∧(∀t (h:t<l.length),t<i→bl l[t] x=true)∧(∀t (h:t<l.length),j≤t→bl l[t] x=false)∧wr=w.drewN m) (fun vi vj _ _=>(intOf vj - intOf vi).toNat)
 case atStart=>exact ⟨0,n,0,by omega,by omega,rfl,rfl,fun t _ h=>by omega,fun t h h'=>by have:=HN.out;omega,rfl⟩
 case round =>
  obtain ⟨i,j,m,hij,hjn,rfl,rfl,h1,h2,rfl⟩:=hrel
  have H1:=Lh h1
  have H2:=Lh h2
  clear h1 h2
  by_cases hlt:i<j
  · obtain ⟨h,hh⟩:∃h:Nat,((i:Int)+(j:Int)) / 2=(h:Int):=⟨(i+j) / 2,by omega⟩
    have hh1:i≤h:=by omega
    have hh2:h<j:=by omega
    have hl:h<l.length:=by have:=HN.out;omega
    have HH:=Lh hh;clear hh
    have HL:=Lh hl;clear hl
    cases hb2:bl (l[h]'HL.out) x
    · have HX:=Lh hb2;clear hb2
      go_wp2_with fail
      rw [HH.out]
      refine (h8 l x a n c h p1 p2 lo hi (w.drewN m) (show qw (w.drewN m) lo hi a l from HS.out) HL.out HN.out hb HC1.out HC2.out).mono ?_
      rintro e w1 ⟨rfl,m2,rfl⟩
      rw [HX.out]
      go_wp2
      go_roundw
      case rel =>
       refine ⟨i,h,m+m2,by omega,by omega,rfl,by first|rfl|(rw [HH.out]),H1.out,fun t ht hle=>?_,by first|rfl|(rw [World.drewN_drewN])⟩
       by_cases e:t=h
       · subst e;exact HX.out
       · have h3:=xN HR.out h t HL.out ht (by omega)
         cases h4:bl l[t] x
         · rfl
         · have:=xi h3 h4;rw [HX.out] at this;cases this
      case measure=>simp [intOf];have:=HH.out;omega
    · have HX:=Lh hb2;clear hb2
      go_wp2_with fail
      rw [HH.out]
      refine (h8 l x a n c h p1 p2 lo hi (w.drewN m) (show qw (w.drewN m) lo hi a l from HS.out) HL.out HN.out hb HC1.out HC2.out).mono ?_
      rintro e w1 ⟨rfl,m2,rfl⟩
      rw [HX.out]
      go_wp2
      go_roundw
      case rel =>
       refine ⟨h+1,j,m+m2,by omega,by omega,by first|go_num|(rw [HH.out];go_num),rfl,fun t ht hle=>?_,H2.out,by first|rfl|(rw [World.drewN_drewN])⟩
       by_cases e:t=h
       · subst e;exact HX.out
       · exact xi (xN HR.out t h ht HL.out (by omega)) HX.out
      case measure=>simp [intOf];have:=HH.out;omega
  · obtain rfl:i=j:=by omega
    go_wp2
    go_ret
    exact ⟨⟨i,rfl,by have:=HN.out;omega,H1.out,H2.out⟩,_,rfl⟩
set_option maxRecDepth 100000 in
set_option maxHeartbeats 400000 in
theorem du (l:List ByteArray) (x:ByteArray) (a:Option Addr) (c:Nat) (w:World) (hS:qw w 0 w.heap.size a l) (hb:l.length≤4294967296) (hr:qe l=true) :
 Calls Tryz.prog 90 #[.slice a l.length c,.string x] w (rj l x w):=by
 have HS:=Lh hS;clear hS
 have HR:=Lh hr;clear hr
 obtain ⟨n,hn⟩:∃n,l.length=n:=⟨_,rfl⟩
 rw [hn]
 have hb':n≤4294967296:=by omega
 have HN:=Lh hn;clear hn
 go_enter Tryz.func90,Tryz.ntmps90
 go_wp2_with fail
 have HB0:=Lh (show Below w.heap.size w ((w.alloc (.cells #[.slice a n c] 22)).alloc (.cells #[.string x] 9)) from ((Below.refl _ _).alloc lz _).alloc (by simp) _)
 have hasc:=jn l a c ((w.alloc (.cells #[.slice a n c] 22)).alloc (.cells #[.string x] 9)) (HS.out.below HB0.out lz lz HB0.out.size) hb
 rw [HN.out,HR.out] at hasc
 refine hasc.mono ?_
 clear hasc
 rintro e w1 ⟨rfl,hb1⟩
 have hz1:w.heap.size+2≤w1.heap.size:=by have:=hb1.size;simp at this;omega
 have c1:w1.cell? ⟨w.heap.size,0,none⟩=some (.slice a n c):=by rw [hb1.cell (by simp;omega)];go_simp
 have c2:w1.cell? ⟨w.heap.size+1,0,none⟩=some (.string x):=by rw [hb1.cell (by simp)];go_simp
 have HB1:Hid (Below w.heap.size w w1):=HB0.out.trans (hb1.mono (by simp;omega))
 clear hb1 HB0
 go_wp2_with fail
 refine (mY l x a n c w.heap.size (w.heap.size+1) 0 w.heap.size w1 (HS.out.below HB1.out lz lz lz) HN.out hb' HR.out c1 c2).mono ?_
 rintro e w2 ⟨⟨r,rfl,h1,h2,h3⟩,m,rfl⟩
 have H1:=Lh h1
 have H2:=Lh h2
 have H3:=Lh h3
 have h1':r≤n:=by rw [← HN.out];exact h1
 clear h1 h2 h3
 replace c1:(w1.drewN m).cell? ⟨w.heap.size,0,none⟩=some (.slice a n c):=c1
 replace c2:(w1.drewN m).cell? ⟨w.heap.size+1,0,none⟩=some (.string x):=c2
 have HB2:=Lh (Below.drewN HB1.out m)
 clear HB1
 generalize w1.drewN m=w3 at *
 clear hz1
 by_cases hlt:r<n
 · have hlt':r<l.length:=by rw [HN.out];exact hlt
   obtain ⟨b,off,rfl,_,_,c3⟩:=(HS.out.below HB2.out lz lz lz).at r hlt'
   have HY:=Lh (show ∃y,y=l[r] from ⟨_,rfl⟩)
   have HNO:=Lh (show ¬l[r]=x→∀t (h:t<l.length),l[t]≠x by
    intro hne t ht e
    by_cases e1:t<r
    · have:=H2.out t ht e1;rw [e,zc] at this;cases this
    · by_cases e2:t=r
      · subst e2;exact hne e
      · have h4:=xN HR.out r t hlt' ht (by omega)
        have h5:=H3.out r hlt' lz
        rw [e] at h4;rw [h4] at h5;cases h5)
   have j0:(0:Int)≤(r:Int):=by omega
   have j1:(r:Int)<(n:Int):=by omega
   have HEX:=Lh (show l[r]=x→∃h:r<l.length,l[r]=x from fun e=>⟨hlt',e⟩)
   generalize l[r]=y at *
   clear HY
   go_wp2_with fail
   go_quiet (fail)
   go_wp2
   go_ret2
   refine ⟨r,(y.toList == x.toList),rfl,H1.out,H2.out,H3.out,fun e=>HEX.out (yg (by simpa using e)),fun e=>HNO.out (fun e'=>by rw [e'] at e;simp at e),Below.drewN HB2.out _⟩
 · have HNO:=Lh (show ∀t (h:t<l.length),l[t]≠x by
    intro t ht e
    have:=H2.out t ht (by have:=HN.out;omega)
    rw [e,zc] at this;cases this)
   have hd:decide ((r:Int)<(n:Int))=false:=by simp;omega
   have hd2:decide (r<n)=false:=by simp;omega
   go_wp2_with fail
   go_quiet (fail)
   go_wp2
   go_ret2
   exact ⟨r,false,rfl,H1.out,H2.out,H3.out,(fun e=>by cases e),fun _=>HNO.out,Below.drewN HB2.out _⟩
def nO (v:JV) (x:ByteArray) (w:World) (e:Ending) (w':World):Prop :=
 ((
  ∃(r:Nat) (h:r<v.names.length) (h':r<v.items.length),v.names[r]=x∧∃an cn ai ci,e=.returned (.tuple #[.agg #[.int .u8 v.items[r].kind,.int .i64 v.items[r].n,.string v.items[r].t,.slice an v.items[r].names.length cn,.slice ai v.items[r].items.length ci],.bool true]) ∧
   Rep w' w.heap.size w'.heap.size v.items[r] (.agg #[.int .u8 v.items[r].kind,.int .i64 v.items[r].n,.string v.items[r].t,.slice an v.items[r].names.length cn,.slice ai v.items[r].items.length ci])) ∨
  ((∀t (h:t<v.names.length),v.names[t]≠x)∧e=.returned (.tuple #[zeroAgg,.bool false])))∧Below w.heap.size w w'
set_option maxRecDepth 100000 in
set_option maxHeartbeats 400000 in
theorem xS (v:JV) (x:ByteArray) (y:Value) (w:World) (lo hi:Nat) (hN:v.wt≤4294967296) (hlo:0<lo) (hhi:hi≤w.heap.size) (hR:Rep w lo hi v y) (hk:v.kind=5) (hr:qe v.names=true) (hl:v.names.length=v.items.length) :
 Calls Tryz.prog 38 #[y,.string x] w (nO v x w):=by
 obtain ⟨an,cn,ai,ci,rfl,h1,h2,h3,h4⟩:=hR.parts
 obtain ⟨b1,b2,b3,b4⟩:=v.wt_bd
 have H3:=Lh h3
 have H4:=Lh h4
 have HR:=Lh hr
 clear h3 h4 hR hr
 obtain ⟨ni,hni⟩:∃ni,ni=v.items.length:=⟨_,rfl⟩
 rw [hl,← hni]
 rw [← hni] at b3 h2
 have HNI:=Lh hni
 have HL:=Lh hl
 clear hni hl
 go_enter Tryz.func38,Tryz.ntmps38
 go_wp2_with fail
 have HB0:=Lh (show Below w.heap.size w ((w.alloc (.cells #[.int .u8 5,.int .i64 v.n,.string v.t,.slice an ni cn,.slice ai ni ci] 25)).alloc (.cells #[.int .u8 0,.int .i64 0,.string ⟨#[]⟩,.slice none 0 0,.slice none 0 0] 25)) from ((Below.refl _ _).alloc lz _).alloc (by simp) _)
 have hf:=du v.names x an cn ((w.alloc (.cells #[.int .u8 5,.int .i64 v.n,.string v.t,.slice an ni cn,.slice ai ni ci] 25)).alloc (.cells #[.int .u8 0,.int .i64 0,.string ⟨#[]⟩,.slice none 0 0,.slice none 0 0] 25)) (H3.out.below HB0.out hhi (Nat.zero_le _) (by have:=HB0.out.size;omega)) (by omega) HR.out
 rw [HL.out,← HNI.out] at hf
 refine hf.mono ?_
 clear hf
 rintro e w1 ⟨r,f,rfl,k1,k2,k3,k4,k5,hb1⟩
 have hz1:w.heap.size+2≤w1.heap.size:=by have:=hb1.size;simp at this;omega
 have hbox:=(qp w (.int .u8 5) (.int .i64 v.n) (.string v.t) (.slice an ni cn) (.slice ai ni ci) 25).alloc (.cells #[.int .u8 0,.int .i64 0,.string ⟨#[]⟩,.slice none 0 0,.slice none 0 0] 25)
 have hres:=qp (w.alloc (.cells #[.int .u8 5,.int .i64 v.n,.string v.t,.slice an ni cn,.slice ai ni ci] 25)) (.int .u8 0) (.int .i64 0) (.string ⟨#[]⟩) (.slice none 0 0) (.slice none 0 0) 25
 rw [show (w.alloc (.cells #[.int .u8 5,.int .i64 v.n,.string v.t,.slice an ni cn,.slice ai ni ci] 25)).heap.size=w.heap.size+1 by simp] at hres
 have HBX:=Lh (qj hb1 hbox (by simp;omega))
 have HRS:=Lh (qj hb1 hres (by simp))
 have HB1:Hid (Below w.heap.size w w1):=HB0.out.trans (hb1.mono (by simp;omega))
 have c4:w1.cell? ⟨w.heap.size,4,none⟩=some (.slice ai ni ci):=HBX.out.cell (by omega)
 have K1:=Lh k1
 have K4:=Lh k4
 have K5:=Lh k5
 clear hbox hres hb1 HB0 k1 k2 k3 k4 k5
 cases f
 · have HNO:=Lh (K5.out rfl)
   obtain ⟨t0,t1,t2,t3,t4⟩:=rc5 HRS.out
   obtain ⟨s0,s1,s2,s3,s4⟩:=rf5 HRS.out
   simp only [qQ] at t0 t1 t2 t3 t4
   go_wp2
   refine bodyPost_ret (qk Tryz.results38 _ _ (w.heap.size+1) 25 _ (0,0) _ rfl (qi (set5 _ _ _ _ _ HRS.out)) Tryz.underlying25 rfl (by kernel_rfl) _ rfl) rfl ⟨.inr ⟨HNO.out,rfl⟩,q7 _ _ _ _ _ HB1.out (by omega)⟩
 · obtain ⟨hrl,hre⟩:=K4.out rfl
   have hrl':r<v.items.length:=by rw [← HL.out];exact hrl
   have hrn:r<ni:=by rw [HNI.out];exact hrl'
   have HRE:=Lh hre
   clear hre
   obtain ⟨b,off,an',cn',ai',ci',rfl,_,hb,y0,y1,y2,y3,y4,hrep⟩:=(H4.out.below HB1.out hhi lz lz).get r hrl'
   have hwk:=JV.wts_get v.items r hrl'
   have hvc:=kq v.items[r] _ w1 lo hi (by omega) (by omega) hrep (fun k h=>.inl hlo)
   have HVC:=Lh hvc
   clear hvc hrep
   go_wp2_with fail
   refine HVC.out.mono ?_
   clear HVC y0 y1 y2 y3 y4 c4 hb
   rintro e w2 ⟨a2,c2,a3,c3,rfl,hr2,hb2⟩
   have hres2:=qj hb2 HRS.out (by omega)
   obtain ⟨t0,t1,t2,t3,t4⟩:=rc5 hres2
   obtain ⟨s0,s1,s2,s3,s4⟩:=rf5 hres2
   simp only [qQ] at t0 t1 t2 t3 t4
   have HR2:=Lh hr2
   have HB2:=Lh hb2
   have HS2:=Lh hres2
   clear hr2 hb2 hres2
   go_wp2
   refine bodyPost_ret (qk Tryz.results38 _ _ (w.heap.size+1) 25 _ (0,0) _ rfl (qi (set5 _ _ _ _ _ HS2.out)) Tryz.underlying25 rfl (by kernel_rfl) _ rfl) rfl ⟨.inl ⟨r,hrl,hrl',HRE.out,a2,c2,a3,c3,rfl,?_⟩,q7 _ _ _ _ _ (HB1.out.trans (HB2.out.mono (by omega))) (by omega)⟩
   exact Rep.carry (by omega) (show w2.heap.size≤_ by simp [World.setCell]) (fun k hk _=>xr _ _ _ _ _ (by omega)) _ _ HR2.out
end Go.Proofs.YthgembbgcbaghaaGreatDoor

namespace Go.Proofs.YthgembbgcbaghaaGreatDoor
open Go.RowKit Go.WideMaps Go.Maps
def qC:List ByteArray→List JV→ByteArray→Option JV
 | n :: ns,x :: xs,y=>if n=y then some x else qC ns xs y
 | _,_,_=>none
def JV.look (v:JV) (y:ByteArray):Option JV:=qC v.names v.items y
theorem xz:∀(ns:List ByteArray) (xs:List JV) (y:ByteArray),(∀t (h:t<ns.length),ns[t]≠y)→qC ns xs y=none
 | [],_,_,_=>by simp [qC]
 | n :: ns,[],_,_=>by simp [qC]
 | n :: ns,x :: xs,y,h=>by
  have h0:=h 0 (by simp)
  simp only [List.getElem_cons_zero] at h0
  rw [qC,if_neg h0]
  exact xz ns xs y fun t ht=>by have:=h (t+1) (by simp;omega);simpa using this
theorem gM:∀(ns:List ByteArray) (xs:List JV) (y:ByteArray) (r:Nat) (h:r<ns.length) (h':r<xs.length),(∀t (ht:t<ns.length),t<r→ns[t]≠y)→ns[r]=y→qC ns xs y=some xs[r]
 | n :: ns,x :: xs,y,0,_,_,_,e=>by simp only [List.getElem_cons_zero] at e;rw [qC,if_pos e];rfl
 | n :: ns,x :: xs,y,r+1,h,h',hn,e=>by
  have h0:=hn 0 (by simp) (by omega)
  simp only [List.getElem_cons_zero] at h0
  rw [qC,if_neg h0]
  exact gM ns xs y r (by simpa using h) (by simpa using h') (fun t ht hr=>by have:=hn (t+1) (by simp;omega) (by omega);simpa using this) (by simpa using e)
theorem xB {v:JV} {y:ByteArray} (hr:qe v.names=true) (r:Nat) (h:r<v.names.length) (h':r<v.items.length) (e:v.names[r]=y):v.look y=some v.items[r] :=
 gM _ _ _ r h h' (fun t ht hlt e2=>by
  have:=xN hr t r ht h hlt
  rw [e2,e,zc] at this;cases this) e
structure PS where
 asked:List ByteArray
 err:Int
def qf (v:JV) (y:ByteArray) (st:PS):ByteArray × PS :=
 if st.err≠0 then (⟨#[]⟩,st) else match v.look y with
  | none=>(⟨#[]⟩,⟨st.asked,6⟩)
  | some it=>if it.kind=3 then (it.t,⟨y :: st.asked,0⟩) else (⟨#[]⟩,⟨st.asked,10⟩)
def qh (v:JV) (st:PS):Int:=if st.err≠0 then st.err else if v.names.all (fun n=>st.asked.any fun a=>decide (a=n)) then 0 else 11
def h9 (D:DataW Unit) (asked:List ByteArray):Prop :=
 IsMap D∧∀s:ByteArray,∃c:Int,D.atKey (.string s.data.toList) (.lit (.int .i64 0))=.lit (.int .i64 c)∧0≤c∧c≤asked.length∧(c=0↔s ∉ asked)
theorem h9.nil:h9 (.map []) []:=⟨isMap_empty,fun s=>⟨0,rfl,by omega,by simp,by simp⟩⟩
theorem h9.cons {D:DataW Unit} {asked:List ByteArray} (h:h9 D asked) (y:ByteArray) (c:Int) (hc:D.atKey (.string y.data.toList) (.lit (.int .i64 0))=.lit (.int .i64 c)) :
 h9 (D.put (.string y.data.toList) (.lit (.int .i64 (c+1)))) (y :: asked):=by
 refine ⟨h.1.put _ _,fun s=>?_⟩
 by_cases e:s=y
 · subst e
   obtain ⟨c',h1,h2,h3,h4⟩:=h.2 s
   rw [hc] at h1
   simp only [DataW.lit.injEq,Lit.int.injEq,true_and] at h1
   subst h1
   exact ⟨c+1,atKey_put_same h.1 (by trivial) _ _,by omega,by simp;omega,by simp;omega⟩
 · obtain ⟨c',h1,h2,h3,h4⟩:=h.2 s
   have ne:Lit.string s.data.toList≠Lit.string y.data.toList:=fun e2=>e (by
    have e3:s.data.toList=y.data.toList:=by simpa using e2
    exact ByteArray.ext (Array.toList_inj.1 e3))
   exact ⟨c',by rw [atKey_put_other ne];exact h1,h2,by simp;omega,by simp [e,h4]⟩
structure PickAt (o m lo hi:Nat) (v:JV) (an ai:Option Addr) (cn ci:Nat) (st:PS) (w:World):Prop where
 obj:w.heap[o]?=some (.cells #[.int .u8 v.kind,.int .i64 v.n,.string v.t,.slice an v.names.length cn,.slice ai v.items.length ci,.map (some m),.int .i64 st.err] 152 (0,0))
 map:∃D n,w.ownsMap Tryz.prog 9 (plainElem (H:=Unit) Tryz.prog 3) m n D∧n≤1000000+st.asked.length∧h9 D st.asked
 rep:Rep w lo hi v (.agg #[.int .u8 v.kind,.int .i64 v.n,.string v.t,.slice an v.names.length cn,.slice ai v.items.length ci])
 pos:0<lo
 out:¬(lo≤o∧o<hi)∧¬(lo≤m∧m<hi)
 le:hi≤w.heap.size
 kind:v.kind=5
 rise:qe v.names=true
 len:v.names.length=v.items.length
 wt:v.wt≤4294967296
theorem PickAt.below {o m lo hi:Nat} {v:JV} {an ai:Option Addr} {cn ci:Nat} {st:PS} {w w':World} (h:PickAt o m lo hi v an ai cn ci st w) (hb:Below w.heap.size w w'):PickAt o m lo hi v an ai cn ci st w' where
 obj:=by rw [hb.block o ((Array.getElem?_eq_some_iff.1 h.obj).1)];exact h.obj
 map:=by
  obtain ⟨D,n,h1,h2,h3⟩:=h.map
  exact ⟨D,n,h1.kept (row:=none) ⟨hb.os,hb.tape,hb.output,hb.size,fun k hk _=>hb.block k hk⟩ (by simp),h2,h3⟩
 rep:=h.rep.below hb h.le lz lz
 pos:=h.pos
 out:=h.out
 le:=Nat.le_trans h.le hb.size
 kind:=h.kind
 rise:=h.rise
 len:=h.len
 wt:=h.wt
theorem PickAt.ne {o m lo hi:Nat} {v:JV} {an ai:Option Addr} {cn ci:Nat} {st:PS} {w:World} (h:PickAt o m lo hi v an ai cn ci st w):m≠o:=fun e=>by
 obtain ⟨D,n,⟨es,clock,h1,_⟩,_⟩:=h.map
 rw [e,h.obj] at h1;cases h1
theorem PickAt.fail {o m lo hi:Nat} {v:JV} {an ai:Option Addr} {cn ci:Nat} {st:PS} {w:World} (h:PickAt o m lo hi v an ai cn ci st w) (e:Int):PickAt o m lo hi v an ai cn ci ⟨st.asked,e⟩ (w.setCell ⟨o,6,none⟩ (.int .i64 e)) where
 obj:=by simp [World.setCell,Array.getElem?_modify,h.obj]
 map:=by
  obtain ⟨D,n,h1,h2,h3⟩:=h.map
  exact ⟨D,n,h1.kept (row:=some o) ⟨rfl,rfl,rfl,by simp [World.setCell],fun k _ hk=>Below.heap_setCell _ _ _ _ (fun e=>hk (by simp [e]))⟩ (fun e=>h.ne (Option.some.inj e)),h2,h3⟩
 rep:=h.rep.carry lz lz fun b h1 h2=>Below.heap_setCell _ _ _ _ (fun (e:b=o)=>h.out.1 ⟨e ▸ h1,e ▸ h2⟩)
 pos:=h.pos
 out:=h.out
 le:=by have:=h.le;simpa [World.setCell] using this
 kind:=h.kind
 rise:=h.rise
 len:=h.len
 wt:=h.wt
theorem PickAt.ask {o m lo hi:Nat} {v:JV} {an ai:Option Addr} {cn ci:Nat} {st:PS} {w w':World} (h:PickAt o m lo hi v an ai cn ci st w) (y:ByteArray) (hg:w.grownBy w' (some m)) {D:DataW Unit} {n:Nat}
 (hm:w'.ownsMap Tryz.prog 9 (plainElem (H:=Unit) Tryz.prog 3) m n D) (hn:n≤1000000+st.asked.length+1) (hD:h9 D (y :: st.asked)):PickAt o m lo hi v an ai cn ci ⟨y :: st.asked,st.err⟩ w' where
 obj:=by rw [hg.block o ((Array.getElem?_eq_some_iff.1 h.obj).1) (fun e=>h.ne (Option.some.inj e).symm)];exact h.obj
 map:=⟨D,n,hm,by simp;omega,hD⟩
 rep:=h.rep.carry lz lz fun b h1 h2=>hg.block b (Nat.lt_of_lt_of_le h2 h.le) (fun e=>h.out.2 ⟨by rw [← Option.some.inj e];exact h1,by rw [← Option.some.inj e];exact h2⟩)
 pos:=h.pos
 out:=h.out
 le:=Nat.le_trans h.le hg.size
 kind:=h.kind
 rise:=h.rise
 len:=h.len
 wt:=h.wt
end Go.Proofs.YthgembbgcbaghaaGreatDoor

namespace Go.Proofs.YthgembbgcbaghaaGreatDoor
open Go.RowKit
structure PinV where
 name:ByteArray
 ver:Int
 len:Int
 hs:List Key2
structure SnapV where
 ver:Int
 exp:Int
 pins:List PinV
theorem pr {a b:ByteArray} (h:a.data.toList=b.data.toList):a=b:=by
 obtain ⟨⟨a⟩⟩:=a
 obtain ⟨⟨b⟩⟩:=b
 simp at h;simp [h]
theorem dm (l:List ByteArray) (h:qe l=true):∀i j (hi:i<l.length) (hj:j<l.length),i<j→Op.bytesLess l[i].toList l[j].toList=true:=by
 have step:∀k (h1:1≤k) (hk:k<l.length),Op.bytesLess l[k-1].toList l[k].toList=true:=by
  intro k h1 hk
  cases hb:Op.bytesLess l[k-1].toList l[k].toList with
  | true=>rfl
  | false=>rw [yy l k h1 hk hb] at h;cases h
 intro i j
 induction j with
 | zero=>intro _ _ hlt;omega
 | succ j ih =>
  intro hi hj hlt
  have hs:=step (j+1) (by omega) hj
  simp only [Nat.add_sub_cancel] at hs
  by_cases e:i=j
  · subst e;exact hs
  · exact v8 _ _ _ (ih hi (by omega) (by omega)) hs
end Go.Proofs.YthgembbgcbaghaaGreatDoor
