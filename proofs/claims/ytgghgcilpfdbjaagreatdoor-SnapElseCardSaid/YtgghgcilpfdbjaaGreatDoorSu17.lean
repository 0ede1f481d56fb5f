/- Objects that may be, and texts that are picked out of them, plain. No program in sight. -/
import Derived.Test.YtgghgcilpfdbjaaGreatDoorSu13
import Derived.Test.YtgghgcilpfdbjaaGreatDoorSu15
import Derived.Test.YtgghgcilpfdbjaaGreatDoorSu01
import Derived.Test.YtgghgcilpfdbjaaGreatDoorSu16
import Derived.Test.YtgghgcilpfdbjaaGreatDoorSu09
import Derived.Test.YtgghgcilpfdbjaaGreatDoorSu00
import Derived.Test.YtgghgcilpfdbjaaGreatDoorSu10
import Derived.Outline
import Derived.OwnWalk

namespace Go.Proofs.YtgghgcilpfdbjaaGreatDoor
open Go.RowKit
def numJ (n : Int) : JV := .mk 2 n { data := #[] } [] []
def verN : ByteArray := { data := #[118, 101, 114, 115, 105, 111, 110] }
def lenN : ByteArray := { data := #[108, 101, 110, 103, 116, 104] }
def hasN : ByteArray := { data := #[104, 97, 115, 104, 101, 115] }
def typN : ByteArray := { data := #[95, 116, 121, 112, 101] }
def expN : ByteArray := { data := #[101, 120, 112, 105, 114, 101, 115] }
def metN : ByteArray := { data := #[109, 101, 116, 97] }
def snpN : ByteArray := { data := #[115, 110, 97, 112, 115, 104, 111, 116] }
def tgtN : ByteArray := { data := #[116, 97, 114, 103, 101, 116, 115] }
def aJsN : ByteArray := { data := #[97, 46, 106, 115, 111, 110] }
def xN : ByteArray := { data := #[120] }
def nineN : ByteArray := { data := #[49, 57, 55, 48, 45, 48, 49, 45, 48, 49, 84, 48, 48, 58, 48, 48, 58, 48, 57, 90] }
def pickNum (v : JV) (y : ByteArray) (lo hi : Int) (st : PS) : Int × PS :=
 if st.err ≠ 0 then (0, st) else match v.look y with
 | none => (0, ⟨st.asked, 6⟩)
 | some it => if it.kind ≠ 2 then (0, ⟨st.asked, 10⟩) else if it.n < lo ∨ hi < it.n then (0, ⟨st.asked, 1⟩) else (it.n, ⟨y :: st.asked, 0⟩)
def pickObj (v : JV) (y : ByteArray) (most : Nat) (st : PS) : JV × PS :=
 if st.err ≠ 0 then (zeroJ, st) else match v.look y with
 | none => (zeroJ, ⟨st.asked, 6⟩)
 | some it => if it.kind ≠ 5 then (zeroJ, ⟨st.asked, 10⟩) else if most < it.items.length then (zeroJ, ⟨st.asked, 5⟩) else (it, ⟨y :: st.asked, 0⟩)
def pickHas (v : JV) (y : ByteArray) (st : PS) : Bool := decide (st.err = 0) && (v.look y).isSome
def PS.fail (st : PS) (e : Int) : PS := if st.err = 0 then ⟨st.asked, e⟩ else st
def pinOfJ (f : ByteArray) (v : JV) : PinV × Int :=
 if (roleOf f).isNone || !v.mayB then (pinZ, 3) else if v.kind ≠ 5 then (pinZ, 10) else
 let a := pickNum v verN 1 1099511627776 ⟨[], 0⟩
 let b := if pickHas v lenN a.2 then pickNum v lenN 0 1099511627776 a.2 else (-1, a.2)
 let d := pickDone v b.2
 if d ≠ 0 then (pinZ, d) else (⟨f, a.1, b.1, []⟩, 0)
def metaOf : List ByteArray → List JV → PS → List PinV → List PinV × PS
 | f :: fs, x :: xs, st, acc => if (pinOfJ f x).2 ≠ 0 then (acc, st.fail (pinOfJ f x).2) else metaOf fs xs st (acc ++ [(pinOfJ f x).1])
 | _, _, st, acc => (acc, st)
def snapZ : SnapV := ⟨0, 0, []⟩
def snapOfJ (v : JV) : SnapV × Int :=
 if !v.mayB then (snapZ, 3) else if v.kind ≠ 5 then (snapZ, 10) else
 let a := pickText v typN ⟨[], 0⟩
 let st1 := if a.1 ≠ snpN then a.2.fail 13 else a.2
 let b := pickNum v verN 1 1099511627776 st1
 let c := pickText v expN b.2
 let r := readD c.1.data.toList
 let m := pickObj v metN 256 (c.2.fail r.2)
 let l := metaOf m.1.names m.1.items m.2 []
 let d := pickDone v l.2
 if d ≠ 0 then (snapZ, d) else (⟨b.1, r.1, l.1⟩, 0)
def hashJ (l : List Key2) : JV := .mk 5 0 { data := #[] } (l.map (·.1)) (l.map fun k => txtJ k.2)
def pinM (p : PinV) : List (ByteArray × JV) := (if p.hs.isEmpty then [] else [(hasN, hashJ p.hs)]) ++ (if p.len = -1 then [] else [(lenN, numJ p.len)]) ++ [(verN, numJ p.ver)]
def pinJ (p : PinV) : JV := .mk 5 0 { data := #[] } ((pinM p).map (·.1)) ((pinM p).map (·.2))
def metaJ (l : List PinV) : JV := .mk 5 0 { data := #[] } (l.map (·.name)) (l.map pinJ)
def snapO (kind exp : ByteArray) (m : JV) (n : Int) : JV := .mk 5 0 { data := #[] } [typN, expN, metN, verN] [txtJ kind, txtJ exp, m, numJ n]
def snapJ (s : SnapV) : JV := snapO snpN ⟨(dateL s.exp.toNat).toArray⟩ (metaJ s.pins) s.ver
def pinE : PinV := ⟨aJsN, 2, 7, []⟩
def snapE : SnapV := ⟨1, 9, [pinE]⟩
theorem sn_0 : snapOfJ (snapO snpN nineN (metaJ [pinE]) 1) = (snapE, 0) := by kernel_rfl
theorem sn_1 : snapOfJ (snapO tgtN nineN (metaJ [pinE]) 1) = (snapZ, 13) := by kernel_rfl
theorem sn_2 : snapOfJ (snapO snpN nineN (metaJ [pinE]) 0) = (snapZ, 1) := by kernel_rfl
theorem sn_3 : snapOfJ (snapO snpN xN (metaJ [pinE]) 1) = (snapZ, 3) := by kernel_rfl
theorem sn_j : snapJ snapE = snapO snpN nineN (metaJ [pinE]) 1 := by kernel_rfl
theorem sn_may : maySnap snapE = true ∧ mayPin pinE = true := by decide +kernel
end Go.Proofs.YtgghgcilpfdbjaaGreatDoor

namespace Go.Proofs.YtgghgcilpfdbjaaGreatDoor
open Go.RowKit Go.Shelf Go.Sort
def flatM (ms : List Mem) : List Value := ms.flatMap encM
theorem flatM_len (ms : List Mem) : (flatM ms).length = ms.length * 6 := by
 unfold flatM
 induction ms with
 | nil => rfl
 | cons v r ih => rw [List.flatMap_cons, List.length_append, ih]; show 6 + r.length * 6 = (r.length + 1) * 6; omega
theorem flatM_get (ms : List Mem) (i c : Nat) (hi : i < ms.length) (hc : c < 6) : (flatM ms)[i * 6 + c]? = some ((encM ms[i])[c]'(by rw [encM_len]; exact hc)) := by
 induction ms generalizing i with
 | nil => simp at hi
 | cons v r ih =>
   unfold flatM
   rw [List.flatMap_cons]
   rcases i with _ | i
   · rw [List.getElem?_append_left (by rw [encM_len]; omega)]
     simp
   · rw [List.getElem?_append_right (by rw [encM_len]; omega), encM_len]
     have := ih i (by simpa using hi)
     rw [show (i + 1) * 6 + c - 6 = i * 6 + c by omega]
     simpa [flatM] using this
structure MemsAt (W0 : Nat) (w : World) (v : Value) (ms : List Mem) (its : List JV) : Prop where
 own : w.ownsRow W0 74 6 v ms.length (flatM ms)
 len : its.length = ms.length
 reps : ∀ i (h : i < its.length), ∃ lo hi, W0 ≤ lo ∧ hi ≤ w.heap.size ∧ (∀ b, v.ownBlock = some b → ¬ (lo ≤ b ∧ b < hi)) ∧ Rep w lo hi its[i] (ms[i]'(by omega)).val
theorem MemsAt.below {W0 : Nat} {w w' : World} {v : Value} {ms : List Mem} {its : List JV} (h : MemsAt W0 w v ms its) (hb : Below w.heap.size w w') : MemsAt W0 w' v ms its :=
 ⟨owns_below h.own hb, h.len, fun i hi => by
   obtain ⟨lo, hi', h1, h2, h3, hr⟩ := h.reps i hi
   exact ⟨lo, hi', h1, Nat.le_trans h2 hb.size, h3, Rep.carry (Nat.le_refl _) (Nat.le_refl _) (fun b _ h => hb.block b (by omega)) _ _ hr⟩⟩
theorem MemsAt.nil (W0 : Nat) (w : World) : MemsAt W0 w (.slice none 0 0) [] [] := ⟨World.ownsRow_nil _ _ _ _, rfl, fun i h => by simp at h⟩
theorem MemsAt.snoc {W0 : Nat} {w w' : World} {v v' : Value} {ms : List Mem} {its : List JV} (h : MemsAt W0 w v ms its) (m : Mem) (it : JV) (lo hi : Nat) (h1 : W0 ≤ lo) (h2 : hi ≤ w.heap.size) (h3 : ∀ b, v.ownBlock = some b → ¬ (lo ≤ b ∧ b < hi)) (hr : Rep w lo hi it m.val)
   (hg : w.grownBy w' v.ownBlock) (hown : w'.ownsRow W0 74 6 v' (ms.length + 1) (flatM ms ++ encM m)) (hat : v'.ownBlock = v.ownBlock ∨ ∃ g, v'.ownBlock = some g ∧ w.heap.size ≤ g) : MemsAt W0 w' v' (ms ++ [m]) (its ++ [it]) := by
 have hx : ∀ {lo hi : Nat}, hi ≤ w.heap.size → (∀ b, v.ownBlock = some b → ¬ (lo ≤ b ∧ b < hi)) → ∀ b, v'.ownBlock = some b → ¬ (lo ≤ b ∧ b < hi) := fun hz hn b hb => by
   rcases hat with e | ⟨g, e, hge⟩
   · exact hn b (by rw [← e]; exact hb)
   · rw [e] at hb; simp at hb; omega
 have hc : ∀ {lo hi : Nat} {it : JV} {x : Value}, hi ≤ w.heap.size → (∀ b, v.ownBlock = some b → ¬ (lo ≤ b ∧ b < hi)) → Rep w lo hi it x → Rep w' lo hi it x := fun hz hn hr =>
   Rep.carry (Nat.le_refl _) (Nat.le_refl _) (fun b hb1 hb2 => hg.block b (by omega) (fun e => hn b e.symm ⟨hb1, hb2⟩)) _ _ hr
 have hl := h.len
 refine ⟨?_, by simp [hl], fun i hi' => ?_⟩
 · have e : flatM (ms ++ [m]) = flatM ms ++ encM m := by simp [flatM]
   rw [e, List.length_append]; exact hown
 · by_cases e : i < its.length
   · obtain ⟨lo', hi'', k1, k2, k3, hr'⟩ := h.reps i e
     refine ⟨lo', hi'', k1, Nat.le_trans k2 hg.size, hx k2 k3, ?_⟩
     rw [List.getElem_append_left e, List.getElem_append_left (by omega)]
     exact hc k2 k3 hr'
   · obtain rfl : i = its.length := by simp at hi'; omega
     refine ⟨lo, hi, h1, Nat.le_trans h2 hg.size, hx h2 h3, ?_⟩
     rw [List.getElem_append_right (by omega), List.getElem_append_right (by omega)]
     simpa using hc h2 h3 hr
theorem MemsAt.one {W0 : Nat} {w : World} {blk : Nat} (m : Mem) (it : JV) (lo hi : Nat) (h0 : W0 ≤ blk) (h1 : W0 ≤ lo) (h2 : hi ≤ blk) (hr : Rep w lo hi it m.val) (hx : w.heap[blk]? = some (.cells (encM m).toArray 74 (0, 0))) : MemsAt W0 w (.slice (some ⟨blk, 0, none⟩) 1 1) [m] [it] := by
 have hb := heap_lt hx
 refine ⟨⟨rfl, .inr ⟨blk, 1, _, rfl, h0, hx, Nat.le_refl _, by unfold maxLen; omega, rfl, ?_⟩⟩, rfl, fun i hi' => ?_⟩
 · simp [flatM, encM]
 · obtain rfl : i = 0 := by simp at hi'; omega
   exact ⟨lo, hi, h1, by omega, fun b hb => by simp [Value.ownBlock] at hb; omega, hr⟩
theorem holds_own {W0 : Nat} {w : World} {v : Value} {ms : List Mem} (ho : w.ownsRow W0 74 6 v ms.length (flatM ms)) (h0 : 0 < ms.length) : ∃ g cap, v = .slice (some ⟨g, 0, none⟩) ms.length cap ∧ g < w.heap.size ∧ HoldsK encM 6 w g 0 ms.toArray := by
 rcases ho.2 with ⟨rfl, h00⟩ | ⟨g, cap, cur, rfl, hg, hh, hc, hm, hs, ht⟩
 · omega
 · refine ⟨g, cap, rfl, heap_lt hh, fun j hj => ⟨?_, by simp [World.frozen?, hh]⟩⟩
   have hj2 : j < ms.length * 6 := by simpa using hj
   have e : (⟨g, 0, none⟩ : Addr).add j = ⟨g, j, none⟩ := by unfold Addr.add; split <;> simp_all
   have hf := flatM_get ms (j / 6) (j % 6) (by omega) (by omega)
   rw [show j / 6 * 6 + j % 6 = j by omega] at hf
   have := ho.cells (g := g) rfl j _ hf
   rw [e] at this
   rw [Nat.zero_add, this, get_flatK encM 6 ms.toArray j (by simpa using hj2)]
   have h6 : j % 6 < (encM (ms[j / 6]'(by omega))).length := by rw [encM_len]; omega
   have h7 : ms.toArray[j / 6]! = ms[j / 6]'(by omega) := by rw [getElem!_pos _ _ (by simp; omega)]; simp
   rw [h7, getElem!_pos (encM (ms[j / 6]'(by omega))) (j % 6) h6]
   rfl
theorem MemsAt.holds {W0 : Nat} {w : World} {v : Value} {ms : List Mem} {its : List JV} (h : MemsAt W0 w v ms its) (h0 : 0 < ms.length) : ∃ g cap, v = .slice (some ⟨g, 0, none⟩) ms.length cap ∧ g < w.heap.size ∧ HoldsK encM 6 w g 0 ms.toArray := holds_own h.own h0
theorem rep_num (w : World) (lo hi : Nat) (n : Int) : Rep w lo hi (numJ n) (.agg #[.int .u8 2, .int .i64 n, .string { data := #[] }, .slice none 0 0, .slice none 0 0]) := by
 unfold numJ Rep
 exact ⟨none, 0, none, 0, rfl, Nat.le_refl _, Nat.le_refl _, .inl rfl, .inl rfl⟩
theorem heap_2nd (w : World) (o o' : Obj) : ((w.alloc o).alloc o').heap[w.heap.size + 1]? = some o' := by
 have := heap_alloc_new (w.alloc o) o'
 rwa [show (w.alloc o).heap.size = w.heap.size + 1 by simp] at this
def memN (nm : ByteArray) (n : Int) : Mem := ⟨nm, 2, n, { data := #[] }, none, 0, 0, none, 0, 0⟩
end Go.Proofs.YtgghgcilpfdbjaaGreatDoor

namespace Go.Proofs.YtgghgcilpfdbjaaGreatDoor
open Go.RowKit
theorem pickNumOf (n : Int) (w : World) : Calls Tryz.prog 46 #[.int .i64 n] w fun e w' => e = .returned (.agg #[.int .u8 2, .int .i64 n, .string { data := #[] }, .slice none 0 0, .slice none 0 0]) ∧ w' = w.alloc (.cells #[.int .u8 2, .int .i64 n, .string { data := #[] }, .slice none 0 0, .slice none 0 0] 30) := by
 go_enter Tryz.func46, Tryz.ntmps46
 go_wp2
 exact bodyPost_ret (results_cell_row Tryz.results46 _ _ w.heap.size 30 _ (0, 0) _ rfl (heap_alloc_new w _) Tryz.underlying30 rfl (by kernel_rfl)) rfl ⟨rfl, rfl⟩
theorem lawNum (n : Int) (w : World) : Calls Tryz.prog 37 #[.int .i64 n] w fun e w' => e = .returned (.agg #[.int .u8 2, .int .i64 n, .string { data := #[] }, .slice none 0 0, .slice none 0 0]) ∧ w' = w.alloc (.cells #[.int .u8 2, .int .i64 n, .string { data := #[] }, .slice none 0 0, .slice none 0 0] 30) := by
 go_enter Tryz.func37, Tryz.ntmps37
 go_wp2
 exact bodyPost_ret (results_cell_row Tryz.results37 _ _ w.heap.size 30 _ (0, 0) _ rfl (heap_alloc_new w _) Tryz.underlying30 rfl (by kernel_rfl)) rfl ⟨rfl, rfl⟩
theorem lawText (t : ByteArray) (w : World) : Calls Tryz.prog 39 #[.string t] w fun e w' => e = .returned (.agg #[.int .u8 3, .int .i64 0, .string t, .slice none 0 0, .slice none 0 0]) ∧ w' = w.alloc (.cells #[.int .u8 3, .int .i64 0, .string t, .slice none 0 0, .slice none 0 0] 30) := by
 go_enter Tryz.func39, Tryz.ntmps39
 go_wp2
 exact bodyPost_ret (results_cell_row Tryz.results39 _ _ w.heap.size 30 _ (0, 0) _ rfl (heap_alloc_new w _) Tryz.underlying30 rfl (by kernel_rfl)) rfl ⟨rfl, rfl⟩
theorem lawObj (a b : Option Addr) (n c m d : Nat) (w : World) : Calls Tryz.prog 36 #[.slice a n c, .slice b m d] w fun e w' => e = .returned (.agg #[.int .u8 5, .int .i64 0, .string { data := #[] }, .slice a n c, .slice b m d]) ∧ w' = w.alloc (.cells #[.int .u8 5, .int .i64 0, .string { data := #[] }, .slice a n c, .slice b m d] 30) := by
 go_enter Tryz.func36, Tryz.ntmps36
 go_wp2
 exact bodyPost_ret (results_cell_row Tryz.results36 _ _ w.heap.size 30 _ (0, 0) _ rfl (heap_alloc_new w _) Tryz.underlying30 rfl (by kernel_rfl)) rfl ⟨rfl, rfl⟩
end Go.Proofs.YtgghgcilpfdbjaaGreatDoor

namespace Go.Proofs.YtgghgcilpfdbjaaGreatDoor
open Go.RowKit Go.Shelf Go.Sort
theorem ins_two (a b : Mem) (h : ltOf cfM b a = true) : insertionSort (ltOf cfM) #[a, b] 0 2 = #[b, a] := by
 unfold insertionSort insOuter
 rw [if_pos (by decide)]
 unfold insOuter
 rw [if_neg (by decide)]
 unfold insInner
 have e : (decide (0 + 1 > 0) && ltOf cfM #[a, b][0 + 1]! #[a, b][0]!) = true := by simpa using h
 rw [if_pos e]
 unfold insInner
 rfl
theorem objVL (ln vr : Int) (blk cap : Nat) (w : World) (hH : HoldsK encM 6 w blk 0 #[memN verN vr, memN lenN ln]) (hb : blk < w.heap.size) :
   Calls Tryz.prog 42 #[.slice (some ⟨blk, 0, none⟩) 2 cap] w (ObjPost [lenN, verN] [numJ ln, numJ vr] w) := by
 refine pickObjectOf #[memN verN vr, memN lenN ln] #[memN lenN ln, memN verN vr] [numJ ln, numJ vr] blk 0 cap w 0 0 hH hb (by simp) ?_ rfl ?_ ?_ (by omega)
 · refine ins_two _ _ ?_
   show decide (Lib.compareBytes lenN.data.toList verN.data.toList < 0) = true
   decide
 · intro i hi
   match i, hi with
   | 0, _ => exact ⟨rep_num _ _ _ _, by simp [numJ, JV.wt, JV.wts, bytesSum, ByteArray.size], fun k h => by simp [numJ, JV.items] at h⟩
   | 1, _ => exact ⟨rep_num _ _ _ _, by simp [numJ, JV.wt, JV.wts, bytesSum, ByteArray.size], fun k h => by simp [numJ, JV.items] at h⟩
 · intro i hi
   obtain rfl : i = 0 := by simp at hi; omega
   show lenN ≠ verN
   decide
theorem objV (vr : Int) (blk cap : Nat) (w : World) (hH : HoldsK encM 6 w blk 0 #[memN verN vr]) (hb : blk < w.heap.size) :
   Calls Tryz.prog 42 #[.slice (some ⟨blk, 0, none⟩) 1 cap] w (ObjPost [verN] [numJ vr] w) := by
 refine pickObjectOf #[memN verN vr] #[memN verN vr] [numJ vr] blk 0 cap w 0 0 hH hb (by simp) ?_ rfl ?_ ?_ (by omega)
 · exact ins_sorted _ _ _ fun j hj => by simp at hj
 · intro i hi
   match i, hi with
   | 0, _ => exact ⟨rep_num _ _ _ _, by simp [numJ, JV.wt, JV.wts, bytesSum, ByteArray.size], fun k h => by simp [numJ, JV.items] at h⟩
 · intro i hi; simp at hi
theorem pinJ_len (nm : ByteArray) (vr : Int) {ln : Int} (h : ¬ ln = -1) : pinJ ⟨nm, vr, ln, []⟩ = .mk 5 0 { data := #[] } [lenN, verN] [numJ ln, numJ vr] := by simp [pinJ, pinM, h]
def PinValPost (p : PinV) (w : World) (e : Ending) (w' : World) : Prop :=
 ∃ an cn ai ci, e = .returned (.tuple #[.agg #[.int .u8 5, .int .i64 0, .string { data := #[] }, .slice an (pinJ p).names.length cn, .slice ai (pinJ p).items.length ci], .int .i64 0]) ∧
   Rep w' w.heap.size w'.heap.size (pinJ p) (.agg #[.int .u8 5, .int .i64 0, .string { data := #[] }, .slice an (pinJ p).names.length cn, .slice ai (pinJ p).items.length ci]) ∧ Below w.heap.size w w'
set_option maxHeartbeats 4000000 in
set_option maxRecDepth 100000 in
theorem snapPinValue (nm : ByteArray) (vr ln : Int) (ha : Option Addr) (hc : Nat) (w : World) (hn : nm.size ≤ 9223372036854775807) (hm : mayPin ⟨nm, vr, ln, []⟩ = true) :
   Calls Tryz.prog 27 #[.agg #[.string nm, .int .i64 vr, .int .i64 ln, .slice ha 0 hc]] w (PinValPost ⟨nm, vr, ln, []⟩ w) := by
 obtain ⟨W2, hW2⟩ : ∃ W2, W2 = (w.alloc (.cells #[.string nm, .int .i64 vr, .int .i64 ln, .slice ha 0 hc] 36)).alloc (.cells #[.int .u8 0, .int .i64 0, .string { data := #[] }, .slice none 0 0, .slice none 0 0] 30) := ⟨_, rfl⟩
 have hz1 : (w.alloc (.cells #[.string nm, .int .i64 vr, .int .i64 ln, .slice ha 0 hc] 36)).heap.size = w.heap.size + 1 := by simp
 have hz2 : W2.heap.size = w.heap.size + 2 := by rw [hW2]; simp
 have hb2 : Below w.heap.size w W2 := by rw [hW2]; exact ((Below.refl _ _).alloc (Nat.le_refl _) _).alloc (by simp) _
 have hx0 : W2.heap[w.heap.size]? = some (.cells #[.string nm, .int .i64 vr, .int .i64 ln, .slice ha 0 hc] 36 (0, 0)) := by rw [hW2, Below.heap_alloc _ _ _ (by simp)]; exact heap_alloc_new w _
 have hr0 : W2.rowIs (w.heap.size + 1) 30 5 (pick5 (.int .u8 0) (.int .i64 0) (.string { data := #[] }) (.slice none 0 0) (.slice none 0 0)) := by
   have := rowIs_box5 (w.alloc (.cells #[.string nm, .int .i64 vr, .int .i64 ln, .slice ha 0 hc] 36)) (.int .u8 0) (.int .i64 0) (.string { data := #[] }) (.slice none 0 0) (.slice none 0 0) 30
   rw [hz1, ← hW2] at this
   exact this
 have HMP := Lib.hid (snapMayPin nm vr ln [] ha hc W2 (.inl rfl) hn (by simp) (by simp))
 rw [hm] at HMP
 have HC := Lib.hid (show ∀ w' : World, Below W2.heap.size W2 w' → w'.cell? ⟨w.heap.size, 0, none⟩ = some (.string nm) ∧ w'.cell? ⟨w.heap.size, 1, none⟩ = some (.int .i64 vr) ∧ w'.cell? ⟨w.heap.size, 2, none⟩ = some (.int .i64 ln) ∧ w'.cell? ⟨w.heap.size, 3, none⟩ = some (.slice ha 0 hc) from fun w' h => by
   have x := (h.block _ (heap_lt hx0)).trans hx0
   exact ⟨box_cell x rfl, box_cell x rfl, box_cell x rfl, box_cell x rfl⟩)
 have HR0 := Lib.hid hr0
 have HB2 := Lib.hid hb2
 have HW := Lib.hid hW2
 have HZ2 := Lib.hid hz2
 have hz2' : w.heap.size < W2.heap.size := by omega
 clear hW2 hb2 hx0 hr0 hz1 hm
 obtain ⟨q0, q1, q2, q3⟩ := HC.out W2 (Below.refl _ _)
 go_enter Tryz.func27, Tryz.ntmps27
 go_upto_region 1 with fail
 rw [← HW.out]
 go_wp2_with fail
 refine HMP.out.mono ?_
 clear HMP q0 q1 q2 q3
 rintro e w1 ⟨rfl, hb1⟩
 have HB1 := Lib.hid hb1
 obtain ⟨q0, q1, q2, q3⟩ := HC.out w1 HB1.out
 clear hb1
 go_wp2_with fail
 refine (pickNumOf vr w1).mono ?_
 rintro e w' ⟨rfl, rfl⟩
 clear q0 q1 q2 q3
 go_upto_region 4 with fail
 obtain ⟨W3, hW3⟩ : ∃ W3, W3 = (w1.alloc (.cells #[.int .u8 2, .int .i64 vr, .string { data := #[] }, .slice none 0 0, .slice none 0 0] 30)).alloc (.cells #[.string { data := #[118, 101, 114, 115, 105, 111, 110] }, .int .u8 2, .int .i64 vr, .string { data := #[] }, .slice none 0 0, .slice none 0 0] 74) := ⟨_, rfl⟩
 have hzz : (w1.alloc (.cells #[.int .u8 2, .int .i64 vr, .string { data := #[] }, .slice none 0 0, .slice none 0 0] 30)).heap.size = w1.heap.size + 1 := by simp
 have hb3 : Below W2.heap.size W2 W3 := by rw [hW3]; exact (HB1.out.alloc HB1.out.size _).alloc (by have := HB1.out.size; simp; omega) _
 have hx3 : W3.heap[w1.heap.size + 1]? = some (.cells (encM (memN verN vr)).toArray 74 (0, 0)) := by
   rw [hW3, ← hzz]; exact heap_alloc_new _ _
 have hM3 := MemsAt.one (W0 := W2.heap.size) (memN verN vr) (numJ vr) w1.heap.size w1.heap.size (by have := HB1.out.size; omega) (by have := HB1.out.size; omega) (by omega) (rep_num W3 w1.heap.size w1.heap.size vr) hx3
 have HB3 := Lib.hid hb3
 have HM3 := Lib.hid hM3
 rw [← hW3]
 have HZ3 := Lib.hid (show w1.heap.size + 1 < W3.heap.size from heap_lt hx3)
 generalize w1.heap.size + 1 = g0 at *
 clear hW3 hzz hb3 hx3 hM3 HB1
 obtain ⟨q0, q1, q2, q3⟩ := HC.out W3 HB3.out
 by_cases hl : ln = -1
 · subst hl
   go_wp2_with fail
   obtain ⟨g, cap, hv, hlt, hH⟩ := HM3.out.holds (by simp)
   obtain ⟨rfl, rfl⟩ : g0 = g ∧ 1 = cap := by simpa using hv
   refine (objV vr g0 1 W3 hH hlt).mono ?_
   clear hv hlt hH q0 q1 q2 q3
   rintro e w5 ⟨an, cn, ai, ci, rfl, hr5, hb5⟩
   have hb25 : Below W2.heap.size W2 w5 := HB3.out.trans (hb5.mono HB3.out.size)
   have hres := below_row hb25 HR0.out (by omega)
   have HRS := Lib.hid hres
   have HR5 := Lib.hid hr5
   have HZ5 := Lib.hid (show w.heap.size ≤ W3.heap.size by have := HB3.out.size; omega)
   have HB5 := Lib.hid (HB2.out.trans (hb25.mono (by omega)))
   have t0 := hres.cell (i := 0) (by decide); have t1 := hres.cell (i := 1) (by decide); have t2 := hres.cell (i := 2) (by decide); have t3 := hres.cell (i := 3) (by decide); have t4 := hres.cell (i := 4) (by decide)
   have s0 := hres.frozen 0; have s1 := hres.frozen 1; have s2 := hres.frozen 2; have s3 := hres.frozen 3; have s4 := hres.frozen 4
   simp only [pick5] at t0 t1 t2 t3 t4
   clear hres hr5 hb5 hb25
   go_wp2
   refine bodyPost_ret (results_row_tmp Tryz.results27 _ _ (w.heap.size + 1) 30 _ (0, 0) _ rfl (row5_heap (set5 _ _ _ _ _ HRS.out)) Tryz.underlying30 rfl (by kernel_rfl) _ rfl) rfl ?_
   have e : pinJ ⟨nm, vr, -1, []⟩ = .mk 5 0 { data := #[] } [verN] [numJ vr] := by simp [pinJ, pinM]
   unfold PinValPost
   rw [e]
   refine ⟨an, cn, ai, ci, rfl, ?_, below5 _ _ _ _ _ HB5.out (by omega)⟩
   exact Rep.carry HZ5.out (show w5.heap.size ≤ _ by simp [World.setCell]) (fun j hj _ => heap5 _ _ _ _ _ (by have := HB2.out.size; have := HB3.out.size; omega)) _ _ HR5.out
 · have hd : (ln != -1) = true := by simpa using hl
   clear hl
   go_upto_region 5 with fail
   obtain ⟨i1, hi1, hy0, hy1, hy2⟩ := info_parts infoMember
   have HOD := Lib.hid (show W3.ownsRow W2.heap.size 74 6 (.slice (some ⟨g0, 0, none⟩) 1 1) 1 (flatM [memN verN vr]) from HM3.out.own)
   have hwz : W2.heap.size ≤ W3.heap.size := HB3.out.size
   go_wp2_with (first | (go_at_call 46; refine (pickNumOf ln _).mono ?_; rintro e w' ⟨rfl, rfl⟩) | (at_builtin; refine wpList_append_lies _ rfl (.tmp 19) (.tmp 24) 70 rfl W2.heap.size 74 i1 _ 6 96 Tryz.underlying70 hi1 hy0 hy1 hy2 rfl (by omega) (.slice (some ⟨g0, 0, none⟩) 1 1) 1 (flatM [memN verN vr]) rfl ((HOD.out.alloc _).alloc _) ⟨W3.heap.size + 1, 0, none⟩ 1 1 (encM (memN lenN ln)) rfl rfl (World.news_of_block (cs := (encM (memN lenN ln)).toArray) (t := 74) (fr := (0, 0)) (heap_2nd W3 _ _)) (encM_one _) (by omega) (by unfold maxLen; omega) (by omega) (by simp; omega) (W3.heap.size + 2) (by simp) ?_; intro g2 cap3 w4 hown4 hgrow4 hat4 hlt4; have HO4 := Lib.hid hown4; have HG4 := Lib.hid hgrow4; have HA4 := Lib.hid hat4; have HB4 := Lib.hid (below_grown ((HB3.out.alloc HB3.out.size (.cells #[.int .u8 2, .int .i64 ln, .string { data := #[] }, .slice none 0 0, .slice none 0 0] 30)).alloc (by simp; omega) (.cells (encM (memN lenN ln)).toArray 74)) (by simp; omega) hgrow4 (fun b hb => (HOD.out.lt b hb).1)); obtain ⟨-, -, -, q3⟩ := HC.out w4 HB4.out; clear hown4 hgrow4 hat4))
   obtain ⟨g, cap, hv, hlt, hH⟩ := holds_own (ms := [memN verN vr, memN lenN ln]) HO4.out (by simp)
   obtain ⟨rfl, rfl⟩ : g2 = g ∧ cap3 = cap := by simpa using hv
   refine (objVL ln vr g2 cap3 w4 hH hlt).mono ?_
   clear hv hlt hH q0 q1 q2 q3 HO4 HG4 HA4
   rintro e w5 ⟨an, cn, ai, ci, rfl, hr5, hb5⟩
   have hb25 : Below W2.heap.size W2 w5 := HB4.out.trans (hb5.mono HB4.out.size)
   have hres := below_row hb25 HR0.out (by omega)
   have HRS := Lib.hid hres
   have HR5 := Lib.hid hr5
   have HZ5 := Lib.hid (show w.heap.size ≤ w4.heap.size by have := HB4.out.size; omega)
   have HB5 := Lib.hid (HB2.out.trans (hb25.mono (by omega)))
   have t0 := hres.cell (i := 0) (by decide); have t1 := hres.cell (i := 1) (by decide); have t2 := hres.cell (i := 2) (by decide); have t3 := hres.cell (i := 3) (by decide); have t4 := hres.cell (i := 4) (by decide)
   have s0 := hres.frozen 0; have s1 := hres.frozen 1; have s2 := hres.frozen 2; have s3 := hres.frozen 3; have s4 := hres.frozen 4
   simp only [pick5] at t0 t1 t2 t3 t4
   clear hres hr5 hb5 hb25
   go_wp2
   refine bodyPost_ret (results_row_tmp Tryz.results27 _ _ (w.heap.size + 1) 30 _ (0, 0) _ rfl (row5_heap (set5 _ _ _ _ _ HRS.out)) Tryz.underlying30 rfl (by kernel_rfl) _ rfl) rfl ?_
   have e : pinJ ⟨nm, vr, ln, []⟩ = .mk 5 0 { data := #[] } [lenN, verN] [numJ ln, numJ vr] := pinJ_len nm vr (by simpa using hd)
   unfold PinValPost
   rw [e]
   refine ⟨an, cn, ai, ci, rfl, ?_, below5 _ _ _ _ _ HB5.out (by omega)⟩
   exact Rep.carry HZ5.out (show w5.heap.size ≤ _ by simp [World.setCell]) (fun j hj _ => heap5 _ _ _ _ _ (by have := HB2.out.size; have := HB4.out.size; omega)) _ _ HR5.out
end Go.Proofs.YtgghgcilpfdbjaaGreatDoor

namespace Go.Proofs.YtgghgcilpfdbjaaGreatDoor
open Go.RowKit
abbrev NJ := ByteArray × JV
def hashN (l : List Key2) : List NJ := l.map fun k => (k.1, txtJ k.2)
theorem hashN_1 (l : List Key2) : (hashN l).map (·.1) = l.map (·.1) := by simp [hashN]
theorem hashN_2 (l : List Key2) : (hashN l).map (·.2) = l.map fun k => txtJ k.2 := by simp [hashN]
theorem hashN_len (l : List Key2) : (hashN l).length = l.length := by simp [hashN]
theorem mayHashes_parts {l : List Key2} (h : mayHashes l = true) : (1 ≤ l.length ∧ l.length ≤ 4) ∧ (∀ k ∈ l, roleOk k.1.data.toList = true ∧ pubOk k.2.data.toList = true) ∧ rises (l.map (·.1)) = true := by
 unfold mayHashes at h
 simp only [Bool.and_eq_true, decide_eq_true_eq] at h
 refine ⟨h.1.1, fun k hk => ?_, h.2⟩
 have := List.all_eq_true.1 h.1.2 k hk
 unfold hashOk at this
 simpa using this
theorem pub_size {b : ByteArray} (h : pubOk b.data.toList = true) : b.size ≤ 128 := by
 unfold pubOk at h
 simp only [Bool.and_eq_true, decide_eq_true_eq] at h
 have := h.1.2.1
 simpa using this
theorem role_size2 {b : ByteArray} (h : roleOk b.data.toList = true) : b.size ≤ 64 := by
 unfold roleOk at h
 simp only [Bool.and_eq_true, decide_eq_true_eq] at h
 have := h.1.1.2
 simpa using this
theorem sum_map_le {α : Type} (f : α → ByteArray) (b : Nat) : ∀ l : List α, (∀ x ∈ l, (f x).size ≤ b) → bytesSum (l.map f) ≤ l.length * (b + 1)
 | [], _ => by simp [bytesSum]
 | x :: r, h => by
   have := sum_map_le f b r fun y hy => h y (List.mem_cons_of_mem _ hy)
   have h0 := h x (List.mem_cons_self ..)
   simp only [List.map_cons, bytesSum, List.length_cons]
   rw [Nat.succ_mul]
   omega
theorem wts_map_le {α : Type} (f : α → JV) (b : Nat) : ∀ l : List α, (∀ x ∈ l, (f x).wt ≤ b) → JV.wts (l.map f) ≤ l.length * b
 | [], _ => by simp [JV.wts]
 | x :: r, h => by
   have := wts_map_le f b r fun y hy => h y (List.mem_cons_of_mem _ hy)
   have h0 := h x (List.mem_cons_self ..)
   simp only [List.map_cons, JV.wts, List.length_cons]
   rw [Nat.succ_mul]
   omega
theorem hashJ_wt {l : List Key2} (h : mayHashes l = true) : (hashJ l).wt ≤ 1000 := by
 obtain ⟨hl, hok, _⟩ := mayHashes_parts h
 have a := sum_map_le (fun k : Key2 => k.1) 64 l fun k hk => role_size2 (hok k hk).1
 have b := wts_map_le (fun k : Key2 => txtJ k.2) 129 l fun k hk => by
   have := pub_size (hok k hk).2
   simp [txtJ, JV.wt, JV.wts, bytesSum]; omega
 have c : l.length * (64 + 1) ≤ 4 * 65 := Nat.mul_le_mul_right _ hl.2
 have d : l.length * 129 ≤ 4 * 129 := Nat.mul_le_mul_right _ hl.2
 unfold hashJ
 simp only [JV.wt]
 have : ({ data := #[] } : ByteArray).size = 0 := rfl
 omega
theorem numJ_wt (n : Int) : (numJ n).wt = 1 := by simp [numJ, JV.wt, JV.wts, bytesSum, ByteArray.size]
theorem mayPin_parts {p : PinV} (h : mayPin p = true) : (roleOf p.name).isSome = true ∧ (1 ≤ p.ver ∧ p.ver ≤ 1099511627776) ∧ (-1 ≤ p.len ∧ p.len ≤ 1099511627776) ∧ (p.hs = [] ∨ mayHashes p.hs = true) := by
 unfold mayPin at h
 simp only [Bool.and_eq_true, Bool.or_eq_true, decide_eq_true_eq] at h
 exact ⟨h.1.1.1, h.1.1.2, h.1.2, h.2.imp List.eq_nil_of_length_eq_zero id⟩
theorem pinJ_wt {p : PinV} (h : mayPin p = true) : (pinJ p).wt ≤ 2000 := by
 obtain ⟨_, _, _, hh⟩ := mayPin_parts h
 have e1 : hasN.size = 6 := rfl
 have e2 : lenN.size = 6 := rfl
 have e3 : verN.size = 7 := rfl
 have e4 : ({ data := #[] } : ByteArray).size = 0 := rfl
 have e5 : p.hs = [] ∨ ((hashJ p.hs).wt ≤ 1000 ∧ p.hs.isEmpty = false) := by
   rcases hh with h | h
   · exact .inl h
   · refine .inr ⟨hashJ_wt h, ?_⟩
     have := (mayHashes_parts h).1.1
     cases hp : p.hs with
     | nil => rw [hp] at this; simp at this
     | cons _ _ => rfl
 unfold pinJ pinM
 rcases e5 with e | ⟨e, e'⟩
 · rw [e]
   by_cases h1 : p.len = -1 <;> simp [h1, JV.wt, JV.wts, bytesSum, numJ_wt] <;> omega
 · rw [e']
   by_cases h1 : p.len = -1 <;> simp [h1, JV.wt, JV.wts, bytesSum, numJ_wt] <;> omega
theorem file_size {f : ByteArray} (h : (roleOf f).isSome = true) : f.size ≤ 69 := by
 obtain ⟨r, hr⟩ := Option.isSome_iff_exists.1 h
 obtain ⟨h1, h2⟩ := role_name hr
 have h3 := congrArg List.length h2
 unfold roleOk at h1
 simp only [Bool.and_eq_true, decide_eq_true_eq] at h1
 simp only [List.length_append, Array.length_toList, json, List.length_cons, List.length_nil] at h3
 show f.data.size ≤ 69
 omega
theorem metaJ_wt {l : List PinV} (h : l.all mayPin = true) (hl : l.length ≤ 256) : (metaJ l).wt ≤ 1000000 := by
 have ha := List.all_eq_true.1 h
 have a := sum_map_le (fun p : PinV => p.name) 69 l fun p hp => file_size (mayPin_parts (ha p hp)).1
 have b := wts_map_le pinJ 2000 l fun p hp => pinJ_wt (ha p hp)
 have c : l.length * (69 + 1) ≤ 256 * 70 := Nat.mul_le_mul_right _ hl
 have d : l.length * 2000 ≤ 256 * 2000 := Nat.mul_le_mul_right _ hl
 unfold metaJ
 simp only [JV.wt]
 have : ({ data := #[] } : ByteArray).size = 0 := rfl
 omega
end Go.Proofs.YtgghgcilpfdbjaaGreatDoor

namespace Go.Proofs.YtgghgcilpfdbjaaGreatDoor
open Go.RowKit Go.WideMaps Go.Maps
def numErr (k n l h : Int) : Int := if k ≠ 2 then 10 else if n < l ∨ h < n then 1 else 0
def numVal (k n l h : Int) : Int := if k ≠ 2 then 0 else if n < l ∨ h < n then 0 else n
theorem numErr_ok {k n l h : Int} (e : numErr k n l h = 0) : k = 2 ∧ ¬ (n < l ∨ h < n) := by
 unfold numErr at e
 split at e
 · omega
 split at e
 · omega
 · exact ⟨by omega, by omega⟩
theorem numVal_ok {k n l h : Int} (e : numErr k n l h = 0) : numVal k n l h = n := by
 obtain ⟨a, b⟩ := numErr_ok e
 unfold numVal; rw [if_neg (by simp [a]), if_neg b]
theorem numVal_no {k n l h : Int} (e : ¬ numErr k n l h = 0) : numVal k n l h = 0 := by
 unfold numErr at e; unfold numVal
 split
 · rfl
 split
 · rfl
 · rename_i a b; rw [if_neg a, if_neg b] at e; omega
theorem numErr_no {it : JV} {a : List ByteArray} {l h : Int} {X : Int × PS} (e : ¬ numErr it.kind it.n l h = 0) :
   (if it.kind ≠ 2 then ((0 : Int), (⟨a, 10⟩ : PS)) else if it.n < l ∨ h < it.n then (0, ⟨a, 1⟩) else X) = (0, ⟨a, numErr it.kind it.n l h⟩) := by
 unfold numErr at e ⊢
 split
 · rfl
 split
 · rfl
 · rename_i a b; rw [if_neg a, if_neg b] at e; omega
set_option maxHeartbeats 400000 in
theorem numConv (k n : Int) (t : ByteArray) (a b : Value) (l h : Int) (p1 p2 : Nat) (w : World) (c1 : w.cell? ⟨p1, 0, none⟩ = some (.int .i64 l)) (c2 : w.cell? ⟨p2, 0, none⟩ = some (.int .i64 h)) :
   Calls Tryz.prog 103 #[.agg #[.int .u8 k, .int .i64 n, .string t, a, b], .pointer (some ⟨p1, 0, none⟩), .pointer (some ⟨p2, 0, none⟩)] w fun e w' => e = .returned (.tuple #[.int .i64 (numVal k n l h), .int .i64 (numErr k n l h)]) ∧ Below w.heap.size w w' := by
 have hb : Below w.heap.size w (w.alloc (.cells #[.int .u8 k, .int .i64 n, .string t, a, b] 30)) := (Below.refl _ _).alloc (Nat.le_refl _) _
 have d1 : (w.alloc (.cells #[.int .u8 k, .int .i64 n, .string t, a, b] 30)).cell? ⟨p1, 0, none⟩ = some (.int .i64 l) := by rw [hb.cell (World.block_lt_of_cell? w _ c1)]; exact c1
 have d2 : (w.alloc (.cells #[.int .u8 k, .int .i64 n, .string t, a, b] 30)).cell? ⟨p2, 0, none⟩ = some (.int .i64 h) := by rw [hb.cell (World.block_lt_of_cell? w _ c2)]; exact c2
 have HB := Lib.hid hb
 clear hb
 by_cases hk : k = 2
 · subst hk
   by_cases h1 : n < l
   · have HV := Lib.hid (show numVal 2 n l h = 0 ∧ numErr 2 n l h = 1 by unfold numVal numErr; simp [h1])
     have h1' : decide (n < l) = true := by simpa using h1
     go_enter Tryz.func103, Tryz.ntmps103
     go_wp2
     go_ret2
     exact ⟨by rw [HV.out.1, HV.out.2]; rfl, HB.out.trans (by first | exact Below.refl _ _ | exact (Below.refl _ _).drew)⟩
   · have h1' : decide (n < l) = false := by simpa using h1
     by_cases h2 : h < n
     · have HV := Lib.hid (show numVal 2 n l h = 0 ∧ numErr 2 n l h = 1 by unfold numVal numErr; simp [h2])
       have h2' : decide (h < n) = true := by simpa using h2
       go_enter Tryz.func103, Tryz.ntmps103
       go_wp2
       go_ret2
       exact ⟨by rw [HV.out.1, HV.out.2]; rfl, HB.out.trans (by first | exact Below.refl _ _ | exact (Below.refl _ _).drew)⟩
     · have HV := Lib.hid (show numVal 2 n l h = n ∧ numErr 2 n l h = 0 by unfold numVal numErr; simp [h1, h2])
       have h2' : decide (h < n) = false := by simpa using h2
       clear h1 h2
       go_enter Tryz.func103, Tryz.ntmps103
       go_wp2
       go_ret2
       exact ⟨by rw [HV.out.1, HV.out.2]; rfl, HB.out.trans (by first | exact Below.refl _ _ | exact (Below.refl _ _).drew)⟩
 · have HV := Lib.hid (show numVal k n l h = 0 ∧ numErr k n l h = 10 by unfold numVal numErr; simp [hk])
   have hk' : (k == 2) = false := by simpa using hk
   clear hk
   go_enter Tryz.func103, Tryz.ntmps103
   go_wp2
   go_ret2
   exact ⟨by rw [HV.out.1, HV.out.2]; rfl, HB.out⟩
def NumPost (o m lo hi : Nat) (v : JV) (an ai : Option Addr) (cn ci : Nat) (y : ByteArray) (l h : Int) (st : PS) (w : World) (e : Ending) (w' : World) : Prop :=
 e = .returned (.int .i64 (pickNum v y l h st).1) ∧ PickAt o m lo hi v an ai cn ci (pickNum v y l h st).2 w' ∧ Touch (fun b => b = o ∨ b = m) w w'
set_option maxHeartbeats 1000000 in
set_option maxRecDepth 100000 in
theorem takeNum (o m lo hi : Nat) (v : JV) (an ai : Option Addr) (cn ci : Nat) (y : ByteArray) (l h : Int) (st : PS) (w : World) (hP : PickAt o m lo hi v an ai cn ci st w) (hy : y.size ≤ 4294967296) (ha : st.asked.length ≤ 4294967296) (p1 p2 : Nat) (g1 : w.heap[p1]? = some (.cells #[.int .i64 l] 2 (0, 0))) (g2 : w.heap[p2]? = some (.cells #[.int .i64 h] 2 (0, 0))) :
   Calls Tryz.prog 102 #[.pointer (some ⟨o, 0, none⟩), .string y, .func (.func 103) #[] #[.pointer (some ⟨p1, 0, none⟩), .pointer (some ⟨p2, 0, none⟩)]] w (NumPost o m lo hi v an ai cn ci y l h st w) := by
 have HP := Lib.hid hP
 have HG1 := Lib.hid g1
 have HG2 := Lib.hid g2
 clear hP g1 g2
 have c6 : w.cell? ⟨o, 6, none⟩ = some (.int .i64 st.err) := box_cell HP.out.obj rfl
 have c0 : w.cell? ⟨o, 0, none⟩ = some (.int .u8 5) := (box_cell (j := 0) HP.out.obj rfl).trans (by rw [HP.out.kind]; rfl)
 by_cases he : st.err = 0
 · rw [he] at c6
   have HE := Lib.hid he
   clear he
   have c1 : w.cell? ⟨o, 1, none⟩ = some (.int .i64 v.n) := box_cell HP.out.obj rfl
   have c2 : w.cell? ⟨o, 2, none⟩ = some (.string v.t) := box_cell HP.out.obj rfl
   have c3 : w.cell? ⟨o, 3, none⟩ = some (.slice an v.names.length cn) := box_cell HP.out.obj rfl
   have c4 : w.cell? ⟨o, 4, none⟩ = some (.slice ai v.items.length ci) := box_cell HP.out.obj rfl
   have HR := Lib.hid HP.out.rep
   rw [HP.out.kind] at HR
   have HG := Lib.hid (valueGet v y _ w lo hi HP.out.wt HP.out.pos HP.out.le HR.out HP.out.kind HP.out.rise HP.out.len)
   go_enter Tryz.func102, Tryz.ntmps102
   go_wp2_with fail
   refine (pickErr o 0 5 w c6 c0 (fun _ => rfl)).mono ?_
   rintro r w' ⟨rfl, rfl⟩
   go_wp2_with fail
   refine HG.out.mono ?_
   clear HG c0 c1 c2 c3 c4 c6
   rintro e w1 ⟨hh, hb1⟩
   have HB1 := Lib.hid hb1
   clear hb1
   rcases hh with ⟨r, hr1, hr2, hre, an', cn', ai', ci', rfl, hrep⟩ | ⟨hno, rfl⟩
   · have HL := Lib.hid (look_some HP.out.rise r hr1 hr2 hre)
     clear hre hrep
     generalize v.items[r] = it at *
     have hb2 : Below w.heap.size w (w1.alloc (.cells #[.int .u8 it.kind, .int .i64 it.n, .string it.t, .slice an' it.names.length cn', .slice ai' it.items.length ci'] 30)) := HB1.out.alloc HB1.out.size _
     have HB2 := Lib.hid hb2
     have HC := Lib.hid (numConv it.kind it.n it.t (.slice an' it.names.length cn') (.slice ai' it.items.length ci') l h p1 p2 (w1.alloc (.cells #[.int .u8 it.kind, .int .i64 it.n, .string it.t, .slice an' it.names.length cn', .slice ai' it.items.length ci'] 30)) (box_cell ((hb2.block _ (heap_lt HG1.out)).trans HG1.out) rfl) (box_cell ((hb2.block _ (heap_lt HG2.out)).trans HG2.out) rfl))
     clear hb2
     by_cases hk : numErr it.kind it.n l h = 0
     · have HK := Lib.hid hk
       have HX := Lib.hid (show pickNum v y l h st = (it.n, ⟨y :: st.asked, 0⟩) by unfold pickNum; rw [if_neg (by simp [HE.out]), HL.out]; obtain ⟨q1, q2⟩ := numErr_ok hk; simp only; rw [if_neg (by simp [q1]), if_neg q2])
       rw [numVal_ok hk, hk] at HC
       clear hk
       go_wp2_with fail
       refine HC.out.mono ?_
       clear HC
       rintro e w2 ⟨rfl, hb3⟩
       have HB3 := Lib.hid (HB2.out.trans (hb3.mono HB2.out.size))
       have HP3 := Lib.hid (HP.out.below HB3.out)
       clear hb3 HB2
       have d5 : w2.cell? ⟨o, 5, none⟩ = some (.map (some m)) := box_cell HP3.out.obj rfl
       have hkey : keyOf Tryz.prog 9 (.string y) = some (.string y.data.toList) := keyOf_string_mk Tryz.underlying9 (by unfold maxLen; omega)
       obtain ⟨D, n, hown, hn, hD⟩ := HP3.out.map
       obtain ⟨c, hat, hc0, hc1, hc2⟩ := hD.2 y
       obtain ⟨c', hrun, hat', _⟩ := hown.lookup_int lawStr Tryz.underlying126 Tryz.underlying3 (zeroInt _) hkey
       rw [hat] at hat'
       simp only [DataW.lit.injEq, Lit.int.injEq, true_and] at hat'
       subst hat'
       have HD := Lib.hid (hD.cons y c hat)
       have HKY := Lib.hid hkey
       have HOW := Lib.hid hown
       clear hD hat hc2 hkey hown
       go_wp2_with (at_mapUpdate; refine wpList_mapUpdate_own _ rfl _ _ _ 126 rfl 9 3 lawStr Tryz.underlying126 _ m n D rfl HOW.out (by unfold maxLen; omega) _ _ _ rfl rfl HKY.out _ [] (plainElem_int Tryz.underlying3 (WalkArith.wf_i64 (by omega))) ?_)
       intro w3 hown3 hgrow3
       have HP4 := Lib.hid (HP3.out.ask y hgrow3 hown3 (by omega) HD.out)
       have HT := Lib.hid (show Touch (fun b => b = o ∨ b = m) w w3 from ⟨by rw [hgrow3.os, HB3.out.os], by rw [hgrow3.tape, HB3.out.tape], by rw [hgrow3.output, HB3.out.output], Nat.le_trans HB3.out.size hgrow3.size, fun k hk hs => by rw [hgrow3.block k (Nat.lt_of_lt_of_le hk HB3.out.size) (fun e => hs (.inr (Option.some.inj e))), HB3.out.block k hk]⟩)
       clear hgrow3 hown3
       rw [HE.out] at HP4
       go_wp2
       go_ret
       exact ⟨by rw [HX.out]; rfl, by rw [HX.out]; exact HP4.out, HT.out⟩
     · have HX := Lib.hid (show pickNum v y l h st = (0, ⟨st.asked, numErr it.kind it.n l h⟩) by unfold pickNum; rw [if_neg (by simp [HE.out]), HL.out]; exact numErr_no hk)
       obtain ⟨er, her⟩ : ∃ er, er = numErr it.kind it.n l h := ⟨_, rfl⟩
       rw [numVal_no hk, ← her] at HC
       rw [← her] at HX hk
       have hk' : (er != 0) = true := by simpa using hk
       have hk2 : (er == 0) = false := by simpa using hk
       clear hk her
       go_wp2_with fail
       refine HC.out.mono ?_
       clear HC
       rintro e w2 ⟨rfl, hb3⟩
       have HB3 := Lib.hid (HB2.out.trans (hb3.mono HB2.out.size))
       have HP3 := Lib.hid (HP.out.below HB3.out)
       clear hb3 HB2
       have d6 : w2.cell? ⟨o, 6, none⟩ = some (.int .i64 0) := (box_cell (j := 6) HP3.out.obj rfl).trans (by rw [HE.out]; rfl)
       have d0 : w2.cell? ⟨o, 0, none⟩ = some (.int .u8 5) := (box_cell (j := 0) HP3.out.obj rfl).trans (by rw [HP.out.kind]; rfl)
       have d7 : w2.frozen? ⟨o, 6, none⟩ = false := by simp [World.frozen?, HP3.out.obj]
       go_wp2_with fail
       refine (pickFail o er _ d6 d0 d7).mono ?_
       clear d6 d0 d7
       rintro e w3 ⟨rfl, rfl⟩
       have HP4 := Lib.hid (HP3.out.fail er)
       have HT := Lib.hid (show Touch (fun b => b = o ∨ b = m) w (w2.setCell ⟨o, 6, none⟩ (.int .i64 er)) from (Touch.of_below HB3.out (Nat.le_refl _)).setCell (.inl (.inl rfl)) _)
       go_wp2
       go_ret
       exact ⟨by rw [HX.out]; rfl, by rw [HX.out]; exact HP4.out, HT.out⟩
   · have HX := Lib.hid (show pickNum v y l h st = (0, ⟨st.asked, 6⟩) by unfold pickNum; rw [if_neg (by simp [HE.out]), show v.look y = none from lookL_none _ _ _ hno])
     unfold zeroAgg
     have HB3 := Lib.hid (show Below w.heap.size w (w1.alloc (.cells #[.int .u8 0, .int .i64 0, .string { data := #[] }, .slice none 0 0, .slice none 0 0] 30)) from HB1.out.alloc HB1.out.size _)
     have HP3 := Lib.hid (HP.out.below HB3.out)
     clear hno HB1
     have d6 : (w1.alloc (.cells #[.int .u8 0, .int .i64 0, .string { data := #[] }, .slice none 0 0, .slice none 0 0] 30)).cell? ⟨o, 6, none⟩ = some (.int .i64 0) := (box_cell (j := 6) HP3.out.obj rfl).trans (by rw [HE.out]; rfl)
     have d0 : (w1.alloc (.cells #[.int .u8 0, .int .i64 0, .string { data := #[] }, .slice none 0 0, .slice none 0 0] 30)).cell? ⟨o, 0, none⟩ = some (.int .u8 5) := (box_cell (j := 0) HP3.out.obj rfl).trans (by rw [HP.out.kind]; rfl)
     have d7 : (w1.alloc (.cells #[.int .u8 0, .int .i64 0, .string { data := #[] }, .slice none 0 0, .slice none 0 0] 30)).frozen? ⟨o, 6, none⟩ = false := by simp [World.frozen?, HP3.out.obj]
     go_wp2_with fail
     refine (pickFail o 6 _ d6 d0 d7).mono ?_
     clear d6 d0 d7
     rintro e w3 ⟨rfl, rfl⟩
     have HP4 := Lib.hid (HP3.out.fail 6)
     have HT := Lib.hid (show Touch (fun b => b = o ∨ b = m) w ((w1.alloc (.cells #[.int .u8 0, .int .i64 0, .string { data := #[] }, .slice none 0 0, .slice none 0 0] 30)).setCell ⟨o, 6, none⟩ (.int .i64 6)) from (Touch.of_below HB3.out (Nat.le_refl _)).setCell (.inl (.inl rfl)) _)
     go_wp2
     go_ret
     exact ⟨by rw [HX.out]; rfl, by rw [HX.out]; exact HP4.out, HT.out⟩
 · have he' : (st.err == 0) = false := by simpa using he
   have he2 : (st.err != 0) = true := by simpa using he
   have HX := Lib.hid (show pickNum v y l h st = (0, st) by unfold pickNum; rw [if_pos he])
   have HE := Lib.hid he
   clear he
   go_enter Tryz.func102, Tryz.ntmps102
   go_wp2_with fail
   refine (pickErr o st.err 5 w c6 c0 (fun _ => rfl)).mono ?_
   rintro r w' ⟨rfl, rfl⟩
   go_wp2
   go_ret
   exact ⟨by rw [HX.out]; rfl, by rw [HX.out]; exact HP.out, Touch.refl _ _⟩
set_option maxHeartbeats 1000000 in
theorem pickNumF (o m lo hi : Nat) (v : JV) (an ai : Option Addr) (cn ci : Nat) (y : ByteArray) (l h : Int) (st : PS) (w : World) (hP : PickAt o m lo hi v an ai cn ci st w) (hy : y.size ≤ 4294967296) (ha : st.asked.length ≤ 4294967296) (hm : m < w.heap.size) (ho : o < w.heap.size) :
   Calls Tryz.prog 62 #[.pointer (some ⟨o, 0, none⟩), .string y, .int .i64 l, .int .i64 h] w (NumPost o m lo hi v an ai cn ci y l h st w) := by
 have hb : Below w.heap.size w ((w.alloc (.cells #[.int .i64 l] 2)).alloc (.cells #[.int .i64 h] 2)) := ((Below.refl _ _).alloc (Nat.le_refl _) _).alloc (by simp) _
 have hz : (w.alloc (.cells #[.int .i64 l] 2)).heap.size = w.heap.size + 1 := by simp
 have hn := heap_alloc_new (w.alloc (.cells #[.int .i64 l] 2)) (.cells #[.int .i64 h] 2)
 rw [hz] at hn
 have HC := Lib.hid (takeNum o m lo hi v an ai cn ci y l h st _ (hP.below hb) hy ha w.heap.size (w.heap.size + 1) (by rw [Below.heap_alloc _ _ _ (by omega)]; exact heap_alloc_new w _) hn)
 have HB := Lib.hid hb
 have HO := Lib.hid (And.intro ho hm)
 clear hP hb hz hn ho hm
 go_enter Tryz.func62, Tryz.ntmps62
 go_wp2_with fail
 refine HC.out.mono ?_
 rintro e w' ⟨rfl, h1, h2⟩
 have H1 := Lib.hid h1
 have H2 := Lib.hid h2
 clear h1 h2
 go_wp2
 go_ret
 exact ⟨rfl, H1.out, (Touch.of_below HB.out (Nat.le_refl _)).trans H2.out⟩
set_option maxHeartbeats 1000000 in
set_option maxRecDepth 100000 in
theorem pickHasF (o m lo hi : Nat) (v : JV) (an ai : Option Addr) (cn ci : Nat) (y : ByteArray) (st : PS) (w : World) (hP : PickAt o m lo hi v an ai cn ci st w) :
   Calls Tryz.prog 63 #[.pointer (some ⟨o, 0, none⟩), .string y] w fun e w' => e = .returned (.bool (pickHas v y st)) ∧ Below w.heap.size w w' := by
 have HP := Lib.hid hP
 clear hP
 have c6 : w.cell? ⟨o, 6, none⟩ = some (.int .i64 st.err) := box_cell HP.out.obj rfl
 have c0 : w.cell? ⟨o, 0, none⟩ = some (.int .u8 5) := (box_cell (j := 0) HP.out.obj rfl).trans (by rw [HP.out.kind]; rfl)
 by_cases he : st.err = 0
 · rw [he] at c6
   have HE := Lib.hid he
   clear he
   have c1 : w.cell? ⟨o, 1, none⟩ = some (.int .i64 v.n) := box_cell HP.out.obj rfl
   have c2 : w.cell? ⟨o, 2, none⟩ = some (.string v.t) := box_cell HP.out.obj rfl
   have c3 : w.cell? ⟨o, 3, none⟩ = some (.slice an v.names.length cn) := box_cell HP.out.obj rfl
   have c4 : w.cell? ⟨o, 4, none⟩ = some (.slice ai v.items.length ci) := box_cell HP.out.obj rfl
   have HR := Lib.hid HP.out.rep
   rw [HP.out.kind] at HR
   have HG := Lib.hid (valueGet v y _ w lo hi HP.out.wt HP.out.pos HP.out.le HR.out HP.out.kind HP.out.rise HP.out.len)
   go_enter Tryz.func63, Tryz.ntmps63
   go_wp2_with fail
   refine (pickErr o 0 5 w c6 c0 (fun _ => rfl)).mono ?_
   rintro r w' ⟨rfl, rfl⟩
   go_wp2_with fail
   refine HG.out.mono ?_
   clear HG c0 c1 c2 c3 c4 c6
   rintro e w1 ⟨hh, hb1⟩
   have HB1 := Lib.hid hb1
   clear hb1
   rcases hh with ⟨r, hr1, hr2, hre, an', cn', ai', ci', rfl, hrep⟩ | ⟨hno, rfl⟩
   · have HX := Lib.hid (show pickHas v y st = true by unfold pickHas; rw [look_some HP.out.rise r hr1 hr2 hre, HE.out]; rfl)
     clear hre hrep
     go_wp2
     go_ret
     exact ⟨ret_bool HX.out.symm, HB1.out.alloc HB1.out.size _⟩
   · have HX := Lib.hid (show pickHas v y st = false by unfold pickHas; rw [show v.look y = none from lookL_none _ _ _ hno, HE.out]; rfl)
     clear hno
     unfold zeroAgg
     go_wp2
     go_ret
     exact ⟨ret_bool HX.out.symm, HB1.out.alloc HB1.out.size _⟩
 · have he' : (st.err == 0) = false := by simpa using he
   have he2 : (st.err != 0) = true := by simpa using he
   have HX := Lib.hid (show pickHas v y st = false by unfold pickHas; simp [he])
   clear he
   go_enter Tryz.func63, Tryz.ntmps63
   go_wp2_with fail
   refine (pickErr o st.err 5 w c6 c0 (fun h => by simp [h] at he')).mono ?_
   rintro r w' ⟨rfl, rfl⟩
   go_wp2
   go_ret
   exact ⟨ret_bool HX.out.symm, Below.refl _ _⟩
end Go.Proofs.YtgghgcilpfdbjaaGreatDoor

namespace Go.Proofs.YtgghgcilpfdbjaaGreatDoor
open Go.RowKit
theorem proper_kind {k n : Int} {t : ByteArray} {ns : List ByteArray} {li : Nat} (h : properB k n t ns li = true) : (k = 1 ∧ li = 0) ∨ (k = 2 ∧ li = 0) ∨ (k = 3 ∧ txtOk t = true ∧ li = 0) ∨ k = 4 ∨ (k = 5 ∧ ns.length = li ∧ rises ns = true ∧ ns.all txtOk = true) := by
 unfold properB at h
 by_cases h1 : k = 1
 · rw [if_pos h1] at h; simp at h; exact .inl ⟨h1, h.2.2.1⟩
 rw [if_neg h1] at h
 by_cases h2 : k = 2
 · rw [if_pos h2] at h; simp at h; exact .inr (.inl ⟨h2, h.2.2⟩)
 rw [if_neg h2] at h
 by_cases h3 : k = 3
 · rw [if_pos h3] at h; simp at h; exact .inr (.inr (.inl ⟨h3, h.2, h.1.2.2⟩))
 rw [if_neg h3] at h
 by_cases h4 : k = 4
 · exact .inr (.inr (.inr (.inl h4)))
 rw [if_neg h4] at h
 by_cases h5 : k = 5
 · rw [if_pos h5] at h
   simp only [Bool.and_eq_true, decide_eq_true_eq] at h
   exact .inr (.inr (.inr (.inr ⟨h5, h.1.1.2.2, h.1.2, h.2⟩)))
 · rw [if_neg h5] at h; cases h
theorem may_obj {v : JV} (h : v.mayB = true) (hk : v.kind = 5) : rises v.names = true ∧ v.names.length = v.items.length ∧ v.names.all txtOk = true := by
 unfold JV.mayB at h
 rw [JV.may_eq] at h
 split at h
 · cases h
 split at h
 · cases h
 next h2 =>
 rcases proper_kind (by simpa using h2) with ⟨e, _⟩ | ⟨e, _⟩ | ⟨e, _⟩ | e | ⟨_, e1, e2, e3⟩ <;> first | omega | exact ⟨e2, e1, e3⟩
end Go.Proofs.YtgghgcilpfdbjaaGreatDoor
