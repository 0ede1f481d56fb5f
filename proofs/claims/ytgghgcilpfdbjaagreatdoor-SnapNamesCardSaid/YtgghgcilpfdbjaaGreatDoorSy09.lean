/- The contracts of legateref21.SameHashes, legateref23.SamePin, of equal things: they are the same. -/
import Derived.Test.YtgghgcilpfdbjaaGreatDoorSy08
import Derived.Test.YtgghgcilpfdbjaaGreatDoorSy06
import Derived.Test.YtgghgcilpfdbjaaGreatDoorSy00
import Derived.Test.YtgghgcilpfdbjaaGreatDoorSy02
import Derived.Test.YtgghgcilpfdbjaaGreatDoorSy01
import Derived.Test.YtgghgcilpfdbjaaGreatDoorSy07
import Derived.Laws.RangeString
import Derived.Deep.Cut
import Derived.WalkKit
import Derived.WalkSpells
import Derived.WalkLawsBesides

namespace Go.Proofs.YtgghgcilpfdbjaaGreatDoor
open Go.RowKit
theorem ba_eq {a b : ByteArray} : (a.toList == b.toList) = decide (a = b) := by
 rw [ByteArray.toList_eq, ByteArray.toList_eq, Bool.eq_iff_iff]
 simp only [beq_iff_eq, decide_eq_true_eq]
 exact ⟨fun h => bytes_ext h, fun h => by rw [h]⟩
theorem pinOf_hit {l : List PinV} {role : ByteArray} (hr : roleOk role.data.toList = true) (k : Nat) (hk : k < l.length) (h : l[k].name = fileStr role) (hb : ∀ j (hj : j < l.length), j < k → l[j].name ≠ fileStr role) : pinOf l role = some l[k] := by
 have hf : (fileStr role).data.toList = role.data.toList ++ json := by unfold fileStr; rw [if_pos hr]; simp [json]
 unfold pinOf
 rw [if_pos hr, List.find?_eq_some_iff_getElem]
 refine ⟨by simp [h, hf], k, hk, rfl, fun j hj => ?_⟩
 simp only [Bool.not_eq_true', decide_eq_false_iff_not]
 intro h2
 exact hb j (by omega) hj (bytes_ext (by rw [h2, hf]))
theorem pinOf_miss {l : List PinV} {role : ByteArray} (hr : roleOk role.data.toList = true) (hb : ∀ j (hj : j < l.length), l[j].name ≠ fileStr role) : pinOf l role = none := by
 have hf : (fileStr role).data.toList = role.data.toList ++ json := by unfold fileStr; rw [if_pos hr]; simp [json]
 unfold pinOf
 rw [if_pos hr, List.find?_eq_none]
 intro p hp
 obtain ⟨j, hj, rfl⟩ := List.getElem_of_mem hp
 simp only [decide_eq_true_eq]
 intro h2
 exact hb j hj (bytes_ext (by rw [h2, hf]))
def PinPost (l : List PinV) (role : ByteArray) (w : World) (r : Ending) (w' : World) : Prop :=
 ∃ ha hc, r = .returned (.tuple #[.agg #[.string ((pinOf l role).getD pinZ).name, .int .i64 ((pinOf l role).getD pinZ).ver, .int .i64 ((pinOf l role).getD pinZ).len, .slice ha ((pinOf l role).getD pinZ).hs.length hc], .bool (pinOf l role).isSome]) ∧ KeysAt w' 0 w'.heap.size ha ((pinOf l role).getD pinZ).hs ∧ Below w.heap.size w w'
set_option maxHeartbeats 4000000 in
set_option maxRecDepth 100000 in
theorem snapPin (v e : Int) (l : List PinV) (role : ByteArray) (a : Option Addr) (c : Nat) (w : World) (hP : PinsAt w 0 w.heap.size a l) (hl : l.length ≤ 9223372036854775807) (hr : role.size ≤ 1000000) (hh : ∀ p ∈ l, p.hs.length ≤ 4294967296) :
   Calls Tryz.prog 17 #[.agg #[.int .i64 v, .int .i64 e, .slice a l.length c], .string role] w (PinPost l role w) := by
 obtain ⟨W2, hW2⟩ : ∃ W2, W2 = (w.alloc (.cells #[.int .i64 v, .int .i64 e, .slice a l.length c] 24)).alloc (.cells #[.string { data := #[] }, .int .i64 0, .int .i64 0, .slice none 0 0] 36) := ⟨_, rfl⟩
 have hb2 : Below w.heap.size w W2 := by rw [hW2]; exact ((Below.refl _ _).alloc (Nat.le_refl _) _).alloc (by simp) _
 have hz2 : W2.heap.size = w.heap.size + 2 := by rw [hW2]; simp
 have hx : W2.heap[w.heap.size]? = some (.cells #[.int .i64 v, .int .i64 e, .slice a l.length c] 24 (0, 0)) := by rw [hW2, Below.heap_alloc _ _ _ (by simp)]; exact heap_alloc_new w _
 have hr0 : W2.rowIs (w.heap.size + 1) 36 4 (pick4 (.string { data := #[] }) (.int .i64 0) (.int .i64 0) (.slice none 0 0)) := by
   have := rowIs_box4 (w.alloc (.cells #[.int .i64 v, .int .i64 e, .slice a l.length c] 24)) (.string { data := #[] }) (.int .i64 0) (.int .i64 0) (.slice none 0 0) 36
   rw [show (w.alloc (.cells #[.int .i64 v, .int .i64 e, .slice a l.length c] 24)).heap.size = w.heap.size + 1 by simp, ← hW2] at this
   exact this
 have v2 : W2.cell? ⟨w.heap.size, 2, none⟩ = some (.slice a l.length c) := box_cell hx rfl
 have HNF := Lib.hid (nameFile role W2 hr)
 have HPI := Lib.hid hP
 have HH := Lib.hid hh
 have HB2 := Lib.hid hb2
 have HR0 := Lib.hid hr0
 have HZ := Lib.hid hz2
 have HW := Lib.hid hW2
 clear hP hh hb2 hr0 hx hz2 hW2
 cases hro : roleOk role.data.toList
 · have HX := Lib.hid (show pinOf l role = none by unfold pinOf; rw [if_neg (by rw [hro]; simp)])
   rw [show fileErr role = 3 by unfold fileErr; rw [hro]; rfl] at HNF
   have hq := HR0.out
   have t0 := hq.cell (i := 0) (by decide); have t1 := hq.cell (i := 1) (by decide); have t2 := hq.cell (i := 2) (by decide); have t3 := hq.cell (i := 3) (by decide)
   have s0 := hq.frozen 0; have s1 := hq.frozen 1; have s2 := hq.frozen 2; have s3 := hq.frozen 3
   simp only [pick4] at t0 t1 t2 t3
   clear hq hro v2
   go_enter Tryz.func17, Tryz.ntmps17
   go_upto_region 1 with fail
   rw [← HW.out]
   go_wp2_with fail
   refine HNF.out.mono ?_
   rintro r w' ⟨rfl, h'⟩
   subst w'
   go_wp2
   refine bodyPost_ret (results_row_tmp Tryz.results17 _ _ (w.heap.size + 1) 36 _ (0, 0) _ rfl (row4_heap (set4 _ _ _ _ HR0.out)) Tryz.underlying36 rfl (by kernel_rfl) _ rfl) rfl ?_
   unfold PinPost
   rw [HX.out]
   exact ⟨none, 0, rfl, .inl rfl, below4 _ _ _ _ HB2.out (by omega)⟩
 · have HRO := Lib.hid hro
   rw [show fileErr role = 0 by unfold fileErr; rw [hro]; rfl] at HNF
   obtain ⟨fl, hfl⟩ : ∃ fl, fl = fileStr role := ⟨_, rfl⟩
   rw [← hfl] at HNF
   have HFL := Lib.hid hfl
   clear hfl hro
   go_enter Tryz.func17, Tryz.ntmps17
   go_upto_region 1 with fail
   rw [← HW.out]
   go_wp2_with fail
   refine HNF.out.mono ?_
   rintro r w' ⟨rfl, h'⟩
   subst w'
   go_wp2
   clear v2
   go_loopw [9, 21] (fun _ i wr => ∃ k : Nat, k ≤ l.length ∧ i = .int .i64 k ∧ (∀ j (h : j < l.length), j < k → l[j].name ≠ fl) ∧ Below W2.heap.size W2 wr) (fun _ i _ => l.length - (intOf i).toNat)
   case atStart => exact ⟨0, by omega, rfl, fun j _ h => by omega, Below.refl _ _⟩
   case round =>
     obtain ⟨k, hk, rfl, hal, hb⟩ := hrel
     have HAL := Lib.hid hal
     have HB := Lib.hid hb
     have HBW := Lib.hid (HB2.out.trans (hb.mono HB2.out.size))
     have HRr := Lib.hid (below_row hb HR0.out HR0.out.lt)
     have HZr := Lib.hid (show w.heap.size + 2 ≤ wr.heap.size from by have := hb.size; have := HZ.out; omega)
     clear hal hb
     by_cases hlt : k < l.length
     · obtain ⟨b, off, ha, _, hbl, e0, e1, e2, gh, gc, e3, hcap, hkk⟩ := (HPI.out.below HBW.out (Nat.le_refl _) (Nat.le_refl _) HBW.out.size).at k hlt
       subst ha
       have hhk := HH.out l[k] (List.getElem_mem hlt)
       obtain ⟨p, hp⟩ : ∃ p, p = l[k] := ⟨_, rfl⟩
       rw [← hp] at e0 e1 e2 e3 hkk hhk
       have HPK := Lib.hid hp
       obtain ⟨nm, vr, ln, hs⟩ := p
       have e0 : wr.cell? ⟨b, off + k * 4, none⟩ = some (.string nm) := e0
       have e1 : wr.cell? ⟨b, off + k * 4 + 1, none⟩ = some (.int .i64 vr) := e1
       have e2 : wr.cell? ⟨b, off + k * 4 + 2, none⟩ = some (.int .i64 ln) := e2
       have e3 : wr.cell? ⟨b, off + k * 4 + 3, none⟩ = some (.slice gh hs.length gc) := e3
       obtain ⟨W4, hW4⟩ : ∃ W4, W4 = wr.alloc (.cells #[.string nm, .int .i64 vr, .int .i64 ln, .slice gh hs.length gc] 36) := ⟨_, rfl⟩
       have hb4 : Below wr.heap.size wr W4 := by rw [hW4]; exact (Below.refl _ _).alloc (Nat.le_refl _) _
       have hq4 : W4.rowIs wr.heap.size 36 4 (pick4 (.string nm) (.int .i64 vr) (.int .i64 ln) (.slice gh hs.length gc)) := by rw [hW4]; exact rowIs_box4 _ _ _ _ _ _
       have HCL := Lib.hid (cloneHashes hs gh gc W4 (hkk.below hb4 (Nat.le_refl _) (Nat.le_refl _) hb4.size) hhk)
       have HB4 := Lib.hid hb4
       have HQ4 := Lib.hid hq4
       have HR4 := Lib.hid (below_row hb4 HRr.out HRr.out.lt)
       have HW4 := Lib.hid hW4
       clear hp hkk hhk hcap hb4 hq4 hW4 hbl
       go_upto_region 7 with fail
       rw [← HW4.out]
       clear e0 e1 e2 e3
       have hq := HQ4.out
       have z0 := hq.cell (i := 0) (by decide); have z3 := hq.cell (i := 3) (by decide)
       simp only [pick4] at z0 z3
       cases hc : (nm.toList == fl.toList)
       · have HNE := Lib.hid (show l[k].name ≠ fl from fun h => by rw [← HPK.out] at h; rw [ba_eq, decide_eq_false_iff_not] at hc; exact hc h)
         clear hq
         go_wp2
         go_roundw
         case rel =>
           refine ⟨k + 1, by omega, by go_num, fun j hj hjk => ?_, HB.out.trans (HB4.out.mono HB.out.size)⟩
           by_cases e : j = k
           · subst e; exact HNE.out
           · exact HAL.out j hj (by omega)
         case measure => simp [intOf]; omega
       · have HX := Lib.hid (show pinOf l role = some ⟨nm, vr, ln, hs⟩ by
           rw [HPK.out]
           refine pinOf_hit HRO.out k hlt ?_ (fun j hj hjk => by rw [← HFL.out]; exact HAL.out j hj hjk)
           rw [← HPK.out, ← HFL.out]
           rw [ba_eq, decide_eq_true_eq] at hc
           exact hc)
         clear hq
         go_wp2_with fail
         refine HCL.out.mono ?_
         clear HCL z0 z3
         rintro r w5 ⟨a', c', rfl, hk5, hb5⟩
         have hq5 := below_row hb5 HQ4.out HQ4.out.lt
         have hr5 := below_row hb5 HR4.out HR4.out.lt
         obtain ⟨W6, hW6⟩ : ∃ W6, W6 = w5.setCell ⟨wr.heap.size, 3, none⟩ (.slice a' hs.length c') := ⟨_, rfl⟩
         have ht6 : Touch (fun b => b = wr.heap.size) w5 W6 := by rw [hW6]; exact Touch.setCell (S := fun b => b = wr.heap.size) (p := ⟨wr.heap.size, 3, none⟩) (Touch.refl _ _) (.inl rfl) _
         have hq6 : W6.rowIs wr.heap.size 36 4 (pick4 (.string nm) (.int .i64 vr) (.int .i64 ln) (.slice a' hs.length c')) := by
           rw [hW6]
           refine (hq5.set 3 (.slice a' hs.length c')).congr fun j hj => ?_
           rcases j with _ | _ | _ | _ | j <;> first | rfl | omega
         have hr6 := ht6.row hr5 (by have := HZr.out; omega)
         have hk6 : KeysAt W6 W4.heap.size W6.heap.size a' hs := hk5.carry (Nat.le_refl _) ht6.size (fun b h1 h2 => ht6.block b h2 (by have := HQ4.out.lt; omega))
         have u3 := hq5.cell (i := 3) (by decide)
         have y3 := hq5.frozen 3
         simp only [pick4] at u3
         have HB6 := Lib.hid (show Below w.heap.size w W6 from (HBW.out.trans ((HB4.out.trans (hb5.mono HB4.out.size)).mono HBW.out.size)).trans (ht6.below (by have := hb5.size; have := HB4.out.size; have := HZr.out; omega) (fun k hk e => by have := HZr.out; omega)))
         have HQ6 := Lib.hid hq6
         have HR6 := Lib.hid hr6
         have HK6 := Lib.hid hk6
         have HW6 := Lib.hid hW6
         have HZ6 := Lib.hid (show w.heap.size + 1 < W4.heap.size from by have := HQ4.out.lt; have := HZr.out; omega)
         clear hk5 hb5 hq5 hr5 ht6 hq6 hr6 hk6 hW6
         go_upto_region 9 with fail
         rw [← HW6.out]
         clear u3 y3
         have hq := HQ6.out; have hr := HR6.out
         have t0 := hr.cell (i := 0) (by decide); have t1 := hr.cell (i := 1) (by decide); have t2 := hr.cell (i := 2) (by decide); have t3 := hr.cell (i := 3) (by decide)
         have s0 := hr.frozen 0; have s1 := hr.frozen 1; have s2 := hr.frozen 2; have s3 := hr.frozen 3
         have z0 := hq.cell (i := 0) (by decide); have z1 := hq.cell (i := 1) (by decide); have z2 := hq.cell (i := 2) (by decide); have z3 := hq.cell (i := 3) (by decide)
         simp only [pick4] at t0 t1 t2 t3 z0 z1 z2 z3
         clear hq hr
         go_wp2
         refine bodyPost_ret (results_row_tmp Tryz.results17 _ _ (w.heap.size + 1) 36 _ (0, 0) _ rfl (row4_heap (set4 _ _ _ _ HR6.out)) Tryz.underlying36 rfl (by kernel_rfl) _ rfl) rfl ?_
         unfold PinPost
         rw [HX.out]
         exact ⟨a', c', rfl, HK6.out.carry (Nat.zero_le _) (by rw [size4]; exact Nat.le_refl _) (fun b h1 _ => heap4 _ _ _ _ (by have := HZ6.out; omega)), below4 _ _ _ _ HB6.out (by omega)⟩
     · have HX := Lib.hid (pinOf_miss HRO.out (fun j hj => by rw [← HFL.out]; exact HAL.out j hj (by omega)))
       have hq := HRr.out
       have t0 := hq.cell (i := 0) (by decide); have t1 := hq.cell (i := 1) (by decide); have t2 := hq.cell (i := 2) (by decide); have t3 := hq.cell (i := 3) (by decide)
       have s0 := hq.frozen 0; have s1 := hq.frozen 1; have s2 := hq.frozen 2; have s3 := hq.frozen 3
       simp only [pick4] at t0 t1 t2 t3
       clear hq
       go_wp2
       refine bodyPost_ret (results_row_tmp Tryz.results17 _ _ (w.heap.size + 1) 36 _ (0, 0) _ rfl (row4_heap (set4 _ _ _ _ HRr.out)) Tryz.underlying36 rfl (by kernel_rfl) _ rfl) rfl ?_
       unfold PinPost
       rw [HX.out]
       exact ⟨none, 0, rfl, .inl rfl, below4 _ _ _ _ HBW.out (by omega)⟩
abbrev PinC := PinV × Option Addr × Nat
def encQ (q : PinC) : List Value := [.string q.1.name, .int .i64 q.1.ver, .int .i64 q.1.len, .slice q.2.1 q.1.hs.length q.2.2]
theorem encQ_len (q : PinC) : (encQ q).length = 4 := rfl
theorem flatQ_len (L : List PinC) : (L.flatMap encQ).length = L.length * 4 := by
 induction L with
 | nil => rfl
 | cons v r ih => rw [List.flatMap_cons, List.length_append, ih, encQ_len]; simp; omega
theorem flatQ_get (L : List PinC) (i c : Nat) (hi : i < L.length) (hc : c < 4) : (L.flatMap encQ)[i * 4 + c]? = some ((encQ L[i])[c]'(by rw [encQ_len]; exact hc)) := by
 induction L generalizing i with
 | nil => simp at hi
 | cons v r ih =>
   rw [List.flatMap_cons]
   rcases i with _ | i
   · rw [List.getElem?_append_left (by rw [encQ_len]; omega)]
     simp
   · rw [List.getElem?_append_right (by rw [encQ_len]; omega), encQ_len]
     have := ih i (by simpa using hi)
     rw [show (i + 1) * 4 + c - 4 = i * 4 + c by omega]
     simpa using this
def CellsQ (w : World) (a : Option Addr) (L : List PinC) : Prop := L = [] ∨ ∃ b off, a = some ⟨b, off, none⟩ ∧ b < w.heap.size ∧ ∀ j u, (L.flatMap encQ)[j]? = some u → w.cell? ⟨b, off + j, none⟩ = some u
theorem CellsQ.below {w w' : World} {a : Option Addr} {L : List PinC} (h : CellsQ w a L) (hb : Below w.heap.size w w') : CellsQ w' a L := by
 rcases h with h | ⟨b, off, ha, hb', hr⟩
 · exact .inl h
 · exact .inr ⟨b, off, ha, Nat.lt_of_lt_of_le hb' hb.size, fun j u hj => by rw [hb.cell hb']; exact hr j u hj⟩
theorem flatQ_split (L : List PinC) (i : Nat) : L.flatMap encQ = (L.take i).flatMap encQ ++ (L.drop i).flatMap encQ := by rw [← List.flatMap_append, List.take_append_drop]
theorem CellsQ.news {w : World} {a : Option Addr} {L : List PinC} (h : CellsQ w a L) : 0 < L.length → ∃ ad, a = some ad ∧ ∀ j u, (L.flatMap encQ)[j]? = some u → w.cell? (ad.add j) = some u := fun h0 => by
 rcases h with h | ⟨b, off, ha, _, hr⟩
 · subst h; simp at h0
 · refine ⟨_, ha, fun j u hj => ?_⟩
   rw [show (⟨b, off, none⟩ : Addr).add j = ⟨b, off + j, none⟩ by unfold Addr.add; split <;> simp_all]
   exact hr j u hj
theorem CellsQ.first {w : World} {a : Option Addr} {L : List PinC} (h : CellsQ w a L) (i : Nat) : CellsQ w a (L.take i) := by
 rcases h with h | ⟨b, off, ha, hb, hr⟩
 · subst h; exact .inl (by simp)
 · refine .inr ⟨b, off, ha, hb, fun j u hj => hr j u ?_⟩
   rw [flatQ_split L i, List.getElem?_append_left (List.getElem?_eq_some_iff.1 hj).1]
   exact hj
theorem CellsQ.behind {w : World} {a : Option Addr} {L : List PinC} (h : CellsQ w a L) (i c : Nat) (hc : L.length ≤ c) (hl : i ≤ L.length) :
   ∃ a' c', sliced a i L.length c 4 = .slice a' (L.length - i) c' ∧ CellsQ w a' (L.drop i) := by
 refine ⟨if c = i then a else a.map (·.add (i * 4)), c - i, by simp [sliced], ?_⟩
 by_cases h0 : i = L.length
 · subst h0; exact .inl (by simp)
 · rcases h with h | ⟨b, off, rfl, hb, hr⟩
   · subst h; simp at hl; simp at h0; omega
   · refine .inr ⟨b, off + i * 4, ?_, hb, fun j u hj => ?_⟩
     · rw [if_neg (by omega)]
       simp only [Option.map_some, Option.some.injEq]
       unfold Addr.add; split <;> simp_all
     · have hlen : ((L.take i).flatMap encQ).length = i * 4 := by rw [flatQ_len, List.length_take, Nat.min_eq_left hl]
       have := hr (i * 4 + j) u (by rw [flatQ_split L i, List.getElem?_append_right (by omega), hlen, show i * 4 + j - i * 4 = j by omega]; exact hj)
       rw [show off + i * 4 + j = off + (i * 4 + j) by omega]
       exact this
def ConQ (wb : World) (V : List (Option Value)) (d : Nat → Prop) (w' : World) (xs : List Value) : Prop :=
 Below wb.heap.size wb w' ∧ xs.length = V.length ∧ ∀ (j : Nat) (v x : Value), V[j]? = some (some v) → xs[j]? = some x → d j → x = v
theorem ConQ.first (wb : World) (V : List (Option Value)) (xs : List Value) (h : xs.length = V.length) : ConQ wb V (fun _ => False) wb.drew xs := ⟨(Below.refl _ _).drew, h, fun _ _ _ _ _ hd => hd.elim⟩
theorem ConQ.get {wb w' : World} {V : List (Option Value)} {d : Nat → Prop} {xs : List Value} (h : ConQ wb V d w' xs) (j : Nat) (hd : d j) (v : Value) (hV : V[j]? = some (some v)) (x : Value) (hx : xs[j]? = some x) : x = v := h.2.2 j v x hV hx hd
theorem ConQ.did {wb w' w'' : World} {V : List (Option Value)} {d : Nat → Prop} {xs : List Value} (h : ConQ wb V d w' xs) (hb : Below wb.heap.size wb w'') (j : Nat) (y : Value) (o : Option Value) (hV : V[j]? = some o) (hy : ∀ v, o = some v → y = v) : ConQ wb V (fun i => i = j ∨ d i) w'' (xs.set j y) := by
 refine ⟨hb, by rw [List.length_set]; exact h.2.1, fun i v x hm hx hd => ?_⟩
 by_cases e : i = j
 · subst e
   rw [hV] at hm
   have hl : i < xs.length := by rw [h.2.1]; exact (List.getElem?_eq_some_iff.1 hV).1
   rw [List.getElem?_set_self hl] at hx
   cases hx
   exact hy v (Option.some.inj hm)
 · rw [List.getElem?_set_ne (Ne.symm e)] at hx
   exact h.2.2 i v x hm hx (hd.resolve_left e)
theorem ConQ.same {wb w' : World} {V : List (Option Value)} {d : Nat → Prop} {xs : List Value} (h : ConQ wb V d w' xs) (j : Nat) (y v : Value) (hV : V[j]? = some (some v)) (hy : y = v) : ConQ wb V (fun i => i = j ∨ d i) w' (xs.set j y) :=
 h.did h.1 j y (some v) hV fun v' e => by cases e; exact hy
structure Two (H T S p0 p1 p2 n1 n2 : Nat) (L1 L2 : List Value) (d : Nat → Prop) (w' : World) (y0 y1 y2 : Value) : Prop where
 o1 : d p1 → d p0
 o2 : d p2 → d p1
 own0 : d p0 → ¬ d p1 → w'.ownsRow H T S y0 0 []
 own1 : d p1 → ¬ d p2 → w'.ownsRow H T S y1 n1 L1
 own2 : d p2 → w'.ownsRow H T S y2 (n1 + n2) (L1 ++ L2)
section
variable {H T S p0 p1 p2 n1 n2 : Nat} {L1 L2 : List Value} {d : Nat → Prop} {w' w2 : World} {y0 y1 y2 v : Value}
theorem Two.first (w' : World) (y0 y1 y2 : Value) : Two H T S p0 p1 p2 n1 n2 L1 L2 (fun _ => False) w' y0 y1 y2 := ⟨fun h => h.elim, fun h => h.elim, fun h => h.elim, fun h => h.elim, fun h => h.elim⟩
theorem Two.same (h : Two H T S p0 p1 p2 n1 n2 L1 L2 d w' y0 y1 y2) (k : Nat) (h0 : k ≠ p0) (h1 : k ≠ p1) (h2 : k ≠ p2) : Two H T S p0 p1 p2 n1 n2 L1 L2 (fun j => j = k ∨ d j) w' y0 y1 y2 := by
 have e : ∀ q, q ≠ k → ((q = k ∨ d q) ↔ d q) := fun q hq => ⟨fun h => h.resolve_left hq, .inr⟩
 have e0 := e p0 (Ne.symm h0); have e1 := e p1 (Ne.symm h1); have e2 := e p2 (Ne.symm h2)
 exact ⟨by rw [e0, e1]; exact h.o1, by rw [e1, e2]; exact h.o2, by rw [e0, e1]; exact h.own0, by rw [e1, e2]; exact h.own1, by rw [e2]; exact h.own2⟩
theorem Two.s0 (h : Two H T S p0 p1 p2 n1 n2 L1 L2 d w' y0 y1 y2) (q1 : p1 ≠ p0) (q2 : p2 ≠ p0) (hH : H ≤ w'.heap.size) (hn : ¬ d p0) :
   Two H T S p0 p1 p2 n1 n2 L1 L2 (fun j => j = p0 ∨ d j) (w'.alloc (.cells #[] T)) (.slice (some ⟨w'.heap.size, 0, none⟩) 0 0) y1 y2 := by
 have n5 : ¬ d p1 := fun h5 => hn (h.o1 h5)
 have n8 : ¬ d p2 := fun h8 => n5 (h.o2 h8)
 exact ⟨fun _ => .inl rfl, fun h8 => (n8 (h8.resolve_left q2)).elim, fun _ _ => World.ownsRow_made w' #[] 0 hH (Nat.zero_le _) (by simp), fun h5 => (n5 (h5.resolve_left q1)).elim, fun h8 => (n8 (h8.resolve_left q2)).elim⟩
theorem Two.s1 (h : Two H T S p0 p1 p2 n1 n2 L1 L2 d w' y0 y1 y2) (q2 : p2 ≠ p1) (h0 : d p0) (hn : ¬ d p1) (ho : w2.ownsRow H T S v n1 L1) :
   Two H T S p0 p1 p2 n1 n2 L1 L2 (fun j => j = p1 ∨ d j) w2 y0 v y2 := by
 have n8 : ¬ d p2 := fun h8 => hn (h.o2 h8)
 exact ⟨fun _ => .inr h0, fun h8 => (n8 (h8.resolve_left q2)).elim, fun _ b => (b (.inl rfl)).elim, fun _ _ => ho, fun h8 => (n8 (h8.resolve_left q2)).elim⟩
theorem Two.s2 (h : Two H T S p0 p1 p2 n1 n2 L1 L2 d w' y0 y1 y2) (h1 : d p1) (ho : w2.ownsRow H T S v (n1 + n2) (L1 ++ L2)) :
   Two H T S p0 p1 p2 n1 n2 L1 L2 (fun j => j = p2 ∨ d j) w2 y0 y1 v :=
 ⟨fun _ => .inr (h.o1 h1), fun _ => .inr h1, fun _ b => (b (.inr h1)).elim, fun _ b => (b (.inl rfl)).elim, fun _ => ho⟩
end
theorem maySnap_parts {s : SnapV} : maySnap s = true ↔ ((1 ≤ s.ver ∧ s.ver ≤ 1099511627776) ∧ (0 ≤ s.exp ∧ s.exp ≤ 253402300799) ∧ s.pins.length ≤ 256 ∧ s.pins.all mayPin = true ∧ rises (s.pins.map (·.name)) = true) := by
 unfold maySnap
 simp only [Bool.and_eq_true, decide_eq_true_eq]
 constructor
 · rintro ⟨⟨⟨⟨a, b⟩, c⟩, d⟩, e⟩; exact ⟨a, b, c, d, e⟩
 · rintro ⟨a, b, c, d, e⟩; exact ⟨⟨⟨⟨a, b⟩, c⟩, d⟩, e⟩
theorem utfOk_ascii (s : ByteArray) (h : ∀ k (hk : k < s.size), s[k].toNat < 128) : ∀ f pos, utfOk s f pos = true
 | 0, _ => rfl
 | f + 1, pos => by
   unfold utfOk
   split
   · next hp =>
     have hd := decode_ascii s pos hp (h pos hp)
     have : utfBad s pos = false := by
       unfold utfBad; rw [hd]
       have := h pos hp
       have e : ((s[pos].toNat, 1) : Nat × Nat).1 = s[pos].toNat := rfl
       rw [e, beq_eq_false_iff_ne.2 (by omega)]; rfl
     rw [this]
     exact utfOk_ascii s h f _
   · rfl
theorem utfV_ascii (s : ByteArray) (h : ∀ c ∈ s.data.toList, c.toNat < 128) : utfV s = true :=
 utfOk_ascii s (fun k hk => by rw [← toList_get s k hk]; exact h _ (List.getElem_mem _)) _ _
def plainC (c : UInt8) : Prop := c.toNat < 128 ∧ c.toNat ≠ 34 ∧ c.toNat ≠ 92
theorem plain_hex {c : UInt8} (h : isHex c = true) : plainC c := by
 unfold isHex at h; unfold plainC; simp at h; omega
theorem plain_name {c : UInt8} (h : nameC c = true) : plainC c := by
 unfold nameC at h; unfold plainC; simp at h; omega
theorem role_plain {l : List UInt8} (h : roleOk l = true) : (∀ c ∈ l, plainC c) ∧ 1 ≤ l.length ∧ l.length ≤ 64 := by
 unfold roleOk at h
 simp only [Bool.and_eq_true, decide_eq_true_eq] at h
 exact ⟨fun c hc => plain_name (List.all_eq_true.1 h.2 c hc), h.1.1⟩
theorem pub_plain {l : List UInt8} (h : pubOk l = true) : (∀ c ∈ l, plainC c) ∧ 2 ≤ l.length ∧ l.length ≤ 128 := by
 unfold pubOk allHex at h
 simp only [Bool.and_eq_true, decide_eq_true_eq] at h
 exact ⟨fun c hc => plain_hex (List.all_eq_true.1 h.2 c hc), h.1.1, h.1.2.1⟩
theorem txtOk_plain {s : ByteArray} (h : ∀ c ∈ s.data.toList, plainC c) (hl : s.size ≤ 4096) : txtOk s = true := by
 unfold txtOk; rw [utfV_ascii s fun c hc => (h c hc).1]; simpa using hl
theorem role_txt {s : ByteArray} (h : roleOk s.data.toList = true) : txtOk s = true := by
 have h3 := role_plain h
 rw [toList_length] at h3
 exact txtOk_plain h3.1 (by omega)
theorem pub_txt {s : ByteArray} (h : pubOk s.data.toList = true) : txtOk s = true := by
 have h3 := pub_plain h
 rw [toList_length] at h3
 exact txtOk_plain h3.1 (by omega)
theorem rises_adj : ∀ (l : List ByteArray), (∀ j (_ : 1 ≤ j) (hj : j < l.length), Op.bytesLess l[j-1].toList l[j].toList = true) → rises l = true
 | [], _ => rfl
 | [_], _ => rfl
 | a :: b :: r, h => by
   have h1 := h 1 (by omega) (by simp)
   have h2 := rises_adj (b :: r) (fun j hj hlt => by
     have := h (j + 1) (by omega) (by simpa using hlt)
     simp only [Nat.add_sub_cancel] at this
     obtain ⟨q, rfl⟩ : ∃ q, j = q + 1 := ⟨j - 1, by omega⟩
     simpa using this)
   rw [rises, h2]; simpa using h1
theorem maySnap_pin {v e : Int} {l : List PinV} (k : Nat) (hk : k < l.length) (h : mayPin l[k] = false) : maySnap ⟨v, e, l⟩ = false := by
 rw [Bool.eq_false_iff]
 intro hm
 rw [List.all_eq_true.1 (maySnap_parts.1 hm).2.2.2.1 _ (List.getElem_mem hk)] at h; cases h
theorem maySnap_less {v e : Int} {l : List PinV} (k : Nat) (h1 : 1 ≤ k) (hk : k < l.length) (h : Op.bytesLess l[k-1].name.toList l[k].name.toList = false) : maySnap ⟨v, e, l⟩ = false := by
 rw [Bool.eq_false_iff]
 intro hm
 have hr := (maySnap_parts.1 hm).2.2.2.2
 rw [rises_bad _ k h1 (by simpa using hk) (by simpa using h)] at hr; cases hr
theorem maySnap_all {v e : Int} {l : List PinV} (hv : 1 ≤ v ∧ v ≤ 1099511627776) (he : 0 ≤ e ∧ e ≤ 253402300799) (hl : l.length ≤ 256) (ha : ∀ k (hk : k < l.length), mayPin l[k] = true) (hr : ∀ k (_ : 1 ≤ k) (hk : k < l.length), Op.bytesLess l[k-1].name.toList l[k].name.toList = true) : maySnap ⟨v, e, l⟩ = true := by
 refine maySnap_parts.2 ⟨hv, he, hl, List.all_eq_true.2 fun x hx => ?_, rises_adj _ fun j h1 hj => ?_⟩
 · obtain ⟨i, hi, rfl⟩ := List.getElem_of_mem hx; exact ha i hi
 · have hj' : j < l.length := by simpa using hj
   simpa using hr j h1 hj'
theorem maySnap_no {v e : Int} {l : List PinV} (h : v < 1 ∨ 1099511627776 < v ∨ e < 0 ∨ 253402300799 < e ∨ 256 < l.length) : maySnap ⟨v, e, l⟩ = false := by
 rw [Bool.eq_false_iff]
 intro hm
 have := maySnap_parts.1 hm
 have h1 := this.1; have h2 := this.2.1; have h3 := this.2.2.1
 simp only at h1 h2 h3
 omega
set_option maxHeartbeats 4000000 in
set_option maxRecDepth 100000 in
theorem snapMay (v e : Int) (l : List PinV) (a : Option Addr) (c : Nat) (w : World) (hP : PinsAt w 0 w.heap.size a l) (hl : l.length ≤ 9223372036854775807) (hf : ∀ p ∈ l, PinFits p) (hT : TabW w) (hP10 : Pow10 w) :
   Calls Tryz.prog 21 #[.agg #[.int .i64 v, .int .i64 e, .slice a l.length c]] w fun r w' => r = .returned (.bool (maySnap ⟨v, e, l⟩)) ∧ Below w.heap.size w w' := by
 obtain ⟨W2, hW2⟩ : ∃ W2, W2 = w.alloc (.cells #[.int .i64 v, .int .i64 e, .slice a l.length c] 24) := ⟨_, rfl⟩
 have hb2 : Below w.heap.size w W2 := by rw [hW2]; exact (Below.refl _ _).alloc (Nat.le_refl _) _
 have hx : W2.heap[w.heap.size]? = some (.cells #[.int .i64 v, .int .i64 e, .slice a l.length c] 24 (0, 0)) := by rw [hW2]; exact heap_alloc_new w _
 have v0 : W2.cell? ⟨w.heap.size, 0, none⟩ = some (.int .i64 v) := box_cell hx rfl
 have v1 : W2.cell? ⟨w.heap.size, 1, none⟩ = some (.int .i64 e) := box_cell hx rfl
 have HSH := Lib.hid (whenShow e W2 (hT.below hb2) (hP10.below hb2))
 have HPI := Lib.hid hP
 have HF := Lib.hid hf
 have HB2 := Lib.hid hb2
 have HX2 := Lib.hid hx
 have HW := Lib.hid hW2
 clear hP hf hb2 hx hW2 hT hP10
 by_cases h1 : v < 1
 · have HX := Lib.hid (maySnap_no (e := e) (l := l) (.inl h1))
   have q1 : decide (v < 1) = true := by simpa using h1
   clear h1
   go_enter Tryz.func21, Tryz.ntmps21
   go_upto_region 1 with fail
   rw [← HW.out]
   go_wp2
   go_ret
   exact ⟨ret_bool HX.out.symm, HB2.out⟩
 have q1 : decide (v < 1) = false := by simpa using h1
 by_cases h2 : 1099511627776 < v
 · have HX := Lib.hid (maySnap_no (e := e) (l := l) (.inr (.inl h2)))
   have q2 : decide (1099511627776 < v) = true := by simpa using h2
   clear h1 h2
   go_enter Tryz.func21, Tryz.ntmps21
   go_upto_region 1 with fail
   rw [← HW.out]
   go_wp2
   go_ret
   exact ⟨ret_bool HX.out.symm, HB2.out⟩
 have q2 : decide (1099511627776 < v) = false := by simpa using h2
 have HV := Lib.hid (show 1 ≤ v ∧ v ≤ 1099511627776 from ⟨by omega, by omega⟩)
 clear h1 h2
 go_enter Tryz.func21, Tryz.ntmps21
 go_upto_region 1 with fail
 rw [← HW.out]
 go_wp2_with fail
 refine HSH.out.mono ?_
 clear HSH
 rintro r w3 ⟨rfl, hb3⟩
 have HB3 := Lib.hid (HB2.out.trans (hb3.mono HB2.out.size))
 have hx3 := (hb3.block _ (heap_lt HX2.out)).trans HX2.out
 have v2 : w3.cell? ⟨w.heap.size, 2, none⟩ = some (.slice a l.length c) := box_cell hx3 rfl
 have HX3 := Lib.hid hx3
 clear hb3 hx3 v0 v1
 by_cases he : 0 ≤ e ∧ e ≤ 253402300799
 · rw [show showE e = 0 by unfold showE; rw [if_pos he]]
   have HEX := Lib.hid he
   clear he
   by_cases h4 : 256 < l.length
   · have HX := Lib.hid (maySnap_no (v := v) (e := e) (.inr (.inr (.inr (.inr h4)))))
     go_wp2
     go_ret
     exact ⟨ret_bool HX.out.symm, HB3.out⟩
   have HL := Lib.hid (show l.length ≤ 256 by omega)
   go_wp2
   go_loopw [5, 6, 30] (fun _ _ i wr => ∃ k : Nat, k ≤ l.length ∧ i = .int .i64 k ∧ (∀ j (h : j < l.length), j < k → mayPin l[j] = true) ∧ (∀ j (_ : 1 ≤ j) (h : j < l.length), j < k → Op.bytesLess l[j-1].name.toList l[j].name.toList = true) ∧ Below w3.heap.size w3 wr) (fun _ _ i _ => l.length - (intOf i).toNat)
   case atStart => exact ⟨0, by omega, rfl, fun j _ h => by omega, fun j _ _ h => by omega, Below.refl _ _⟩
   case round =>
     obtain ⟨k, hk, rfl, hal, hri, hb⟩ := hrel
     have HAL := Lib.hid hal
     have HRI := Lib.hid hri
     have HB := Lib.hid hb
     have HBW := Lib.hid (HB3.out.trans (hb.mono HB3.out.size))
     clear hal hri hb v2
     by_cases hlt : k < l.length
     · obtain ⟨b, off, ha, _, hbl, e0, e1, e2, hh, hc, e3, hcap, hkk⟩ := (HPI.out.below HBW.out (Nat.le_refl _) (Nat.le_refl _) HBW.out.size).at k hlt
       subst ha
       obtain ⟨f1, f2, f3, f4, f5⟩ := HF.out l[k] (List.getElem_mem hlt)
       have hprev : k = 0 ∨ (1 ≤ k ∧ wr.cell? ⟨b, off + (k - 1) * 4, none⟩ = some (.string l[k-1].name)) := by
         by_cases h0 : k = 0
         · exact .inl h0
         · obtain ⟨b', off', ha', _, _, x0, _⟩ := (HPI.out.below HBW.out (Nat.le_refl _) (Nat.le_refl _) HBW.out.size).at (k - 1) (by omega)
           cases ha'
           exact .inr ⟨by omega, x0⟩
       have HPV := Lib.hid hprev
       obtain ⟨p, hp⟩ : ∃ p, p = l[k] := ⟨_, rfl⟩
       rw [← hp] at e0 e1 e2 e3 hkk f3 f4 f5
       have HPK := Lib.hid hp
       obtain ⟨nm, vr, ln, hs⟩ := p
       have e0 : wr.cell? ⟨b, off + k * 4, none⟩ = some (.string nm) := e0
       have e1 : wr.cell? ⟨b, off + k * 4 + 1, none⟩ = some (.int .i64 vr) := e1
       have e2 : wr.cell? ⟨b, off + k * 4 + 2, none⟩ = some (.int .i64 ln) := e2
       have e3 : wr.cell? ⟨b, off + k * 4 + 3, none⟩ = some (.slice hh hs.length hc) := e3
       obtain ⟨W4, hW4⟩ : ∃ W4, W4 = wr.alloc (.cells #[.string nm, .int .i64 vr, .int .i64 ln, .slice hh hs.length hc] 36) := ⟨_, rfl⟩
       have hb4 : Below wr.heap.size wr W4 := by rw [hW4]; exact (Below.refl _ _).alloc (Nat.le_refl _) _
       have hx4 : W4.heap[wr.heap.size]? = some (.cells #[.string nm, .int .i64 vr, .int .i64 ln, .slice hh hs.length hc] 36 (0, 0)) := by rw [hW4]; exact heap_alloc_new wr _
       have HMP := Lib.hid (snapMayPin nm vr ln hs hh hc W4 (hkk.below hb4 (Nat.le_refl _) (Nat.le_refl _) hb4.size) (by unfold maxLen at f3; exact f3) (by unfold maxLen at f4; exact f4) (fun x hx => by have := f5 x hx; unfold maxLen at this; exact this))
       have HB4 := Lib.hid hb4
       have HX4 := Lib.hid hx4
       have HW4 := Lib.hid hW4
       have HBL := Lib.hid hbl
       clear hprev hp hkk f1 f2 f3 f4 f5 hcap hb4 hx4 hW4
       go_upto_region 11 with fail
       rw [← HW4.out]
       clear e0 e1 e2 e3
       have g0 : W4.cell? ⟨wr.heap.size, 0, none⟩ = some (.string nm) := box_cell HX4.out rfl
       have g1 : W4.cell? ⟨wr.heap.size, 1, none⟩ = some (.int .i64 vr) := box_cell HX4.out rfl
       have g2 : W4.cell? ⟨wr.heap.size, 2, none⟩ = some (.int .i64 ln) := box_cell HX4.out rfl
       have g3 : W4.cell? ⟨wr.heap.size, 3, none⟩ = some (.slice hh hs.length hc) := box_cell HX4.out rfl
       go_wp2_with fail
       refine HMP.out.mono ?_
       clear HMP g0 g1 g2 g3
       rintro r w5 ⟨rfl, hb5⟩
       have HBX := Lib.hid (HBW.out.trans ((HB4.out.trans (hb5.mono HB4.out.size)).mono HBW.out.size))
       have HB3X := Lib.hid (HB.out.trans ((HB4.out.trans (hb5.mono HB4.out.size)).mono HB.out.size))
       have HB45 := Lib.hid (HB4.out.trans (hb5.mono HB4.out.size))
       have HX5 := Lib.hid ((hb5.block _ (heap_lt HX4.out)).trans HX4.out)
       clear hb5
       cases hm : mayPin ⟨nm, vr, ln, hs⟩
       · have HX := Lib.hid (maySnap_pin (v := v) (e := e) k hlt (by rw [← HPK.out]; exact hm))
         clear hm
         go_wp2
         go_ret
         exact ⟨ret_bool HX.out.symm, HBX.out⟩
       · have HMK := Lib.hid (show mayPin l[k] = true by rw [← HPK.out]; exact hm)
         clear hm
         have x0 : w5.cell? ⟨wr.heap.size, 0, none⟩ = some (.string nm) := box_cell HX5.out rfl
         have x2 : w5.cell? ⟨w.heap.size, 2, none⟩ = some (.slice (some ⟨b, off, none⟩) l.length c) := box_cell ((HB3X.out.block _ (heap_lt HX3.out)).trans HX3.out) rfl
         rcases HPV.out with h0 | ⟨h0, hcp⟩
         · subst h0
           go_upto_region 13 with fail
           go_quiet (fail)
           go_wp2
           go_roundw
           case rel =>
             refine ⟨1, by omega, by go_num, fun j hj hjk => ?_, fun j h1 hj hjk => by omega, Below.drewN HB3X.out _⟩
             obtain rfl : j = 0 := by omega
             exact HMK.out
           case measure => simp [intOf]; omega
         · have hcp2 : w5.cell? ⟨b, off + (k - 1) * 4, none⟩ = some (.string l[k-1].name) := by rw [HB45.out.cell HBL.out]; exact hcp
           obtain ⟨pv, hpv⟩ : ∃ pv, pv = l[k-1].name := ⟨_, rfl⟩
           rw [← hpv] at hcp2
           have HPP := Lib.hid hpv
           have q5 : 0 < k := by omega
           clear hcp hpv
           cases hb : Op.bytesLess pv.toList nm.toList
           · have HX := Lib.hid (maySnap_less (v := v) (e := e) k h0 hlt (by rw [← HPP.out, ← HPK.out]; exact hb))
             cases hb2 : Op.bytesLess nm.toList pv.toList
             · have hb3 : (nm.toList == pv.toList) = true := by simpa using less_tri _ _ hb2 hb
               clear hb
               go_upto_region 13 with fail
               go_quiet (fail)
               go_wp2
               go_ret
               exact ⟨ret_bool HX.out.symm, Below.drewN HBX.out _⟩
             · clear hb
               go_upto_region 13 with fail
               go_quiet (fail)
               go_wp2
               go_ret
               exact ⟨ret_bool HX.out.symm, Below.drewN HBX.out _⟩
           · have HLS := Lib.hid hb
             have hb2 : Op.bytesLess nm.toList pv.toList = false := by
               cases h : Op.bytesLess nm.toList pv.toList with
               | false => rfl
               | true => have := less_trans _ _ _ h hb; rw [less_irrefl] at this; cases this
             have hb3 : (nm.toList == pv.toList) = false := by
               cases h : (nm.toList == pv.toList) with
               | false => rfl
               | true => have h2 : nm.toList = pv.toList := by simpa using h
                         rw [h2, less_irrefl] at hb; cases hb
             clear hb
             go_upto_region 13 with fail
             go_quiet (fail)
             go_wp2
             go_roundw
             case rel =>
               refine ⟨k + 1, by omega, by go_num, fun j hj hjk => ?_, fun j h1 hj hjk => ?_, Below.drewN HB3X.out _⟩
               · by_cases e : j = k
                 · subst e; exact HMK.out
                 · exact HAL.out j hj (by omega)
               · by_cases e : j = k
                 · subst e; rw [← HPP.out, ← HPK.out]; exact HLS.out
                 · exact HRI.out j h1 hj (by omega)
             case measure => simp [intOf]; omega
     · have HX := Lib.hid (maySnap_all HV.out HEX.out HL.out (fun j hj => HAL.out j hj (by omega)) (fun j h1 hj => HRI.out j h1 hj (by omega)))
       go_wp2
       go_ret
       exact ⟨ret_bool HX.out.symm, HBW.out⟩
 · rw [show showE e = 1 by unfold showE; rw [if_neg he]]
   have HX := Lib.hid (maySnap_no (v := v) (e := e) (l := l) (by omega))
   clear he
   go_wp2
   go_ret
   exact ⟨ret_bool HX.out.symm, HB3.out⟩
def TellsEq {T : Type} (x y : T) (w : World) (e : Ending) (w' : World) : Prop := ∃ b : Bool, e = .returned (.bool b) ∧ (b = true ↔ x = y) ∧ Below w.heap.size w w'
set_option maxHeartbeats 2000000 in
set_option maxRecDepth 100000 in
theorem equalPins0 (l : List PinV) (a b : Option Addr) (c d : Nat) (w : World) (hA : PinsAt w 0 w.heap.size a l) (hB : PinsAt w 0 w.heap.size b l) (h0 : ∀ p ∈ l, p.hs = []) (hl : l.length ≤ 9223372036854775807) :
   Calls Tryz.prog 55 #[.slice a l.length c, .slice b l.length d, .func (.func 33) #[] #[]] w fun e w' => e = .returned (.bool true) ∧ Below w.heap.size w w' := by
 have HA := Lib.hid hA
 have HBb := Lib.hid hB
 have H0 := Lib.hid h0
 clear hA hB h0
 go_enter Tryz.func55, Tryz.ntmps55
 go_wp2
 go_loopw [7, 8, 9, 17] (fun _ _ _ i wr => ∃ k : Nat, k ≤ l.length ∧ i = .int .i64 k ∧ Below w.heap.size w wr) (fun _ _ _ i _ => l.length - (intOf i).toNat)
 case atStart => exact ⟨0, by omega, rfl, Below.refl _ _⟩
 case round =>
   obtain ⟨k, hk, rfl, hb⟩ := hrel
   have HB := Lib.hid hb
   by_cases hlt : k < l.length
   · obtain ⟨b1, o1, ha1, _, hbl1, e0, e1, e2, hh, hc, e3, _, _⟩ := (HA.out.below hb (Nat.le_refl _) (Nat.le_refl _) hb.size).at k hlt
     obtain ⟨b2, o2, ha2, _, hbl2, y0, y1, y2, gh, gc, y3, _, _⟩ := (HBb.out.below hb (Nat.le_refl _) (Nat.le_refl _) hb.size).at k hlt
     subst ha1 ha2
     have hz := H0.out l[k] (List.getElem_mem hlt)
     rw [hz] at e3 y3
     generalize l[k].name = nm at *
     generalize l[k].ver = vr at *
     generalize l[k].len = ln at *
     have e3 : wr.cell? ⟨b1, o1 + k * 4 + 3, none⟩ = some (.slice hh 0 hc) := e3
     have y3 : wr.cell? ⟨b2, o2 + k * 4 + 3, none⟩ = some (.slice gh 0 gc) := y3
     have HSP := Lib.hid (fun w' : World => snapSamePin0 nm vr ln hh gh hc gc w')
     obtain ⟨W2, hW2⟩ : ∃ W2, W2 = wr.alloc (.cells #[.string nm, .int .i64 vr, .int .i64 ln, .slice hh 0 hc] 36) := ⟨_, rfl⟩
     have hb2 : Below wr.heap.size wr W2 := by rw [hW2]; exact (Below.refl _ _).alloc (Nat.le_refl _) _
     have hx2 : W2.heap[wr.heap.size]? = some (.cells #[.string nm, .int .i64 vr, .int .i64 ln, .slice hh 0 hc] 36 (0, 0)) := by rw [hW2]; exact heap_alloc_new wr _
     have hz2 : W2.heap.size = wr.heap.size + 1 := by rw [hW2]; simp
     have z0 : W2.cell? ⟨b2, o2 + k * 4, none⟩ = some (.string nm) := by rw [hb2.cell hbl2]; exact y0
     have z1 : W2.cell? ⟨b2, o2 + k * 4 + 1, none⟩ = some (.int .i64 vr) := by rw [hb2.cell hbl2]; exact y1
     have z2 : W2.cell? ⟨b2, o2 + k * 4 + 2, none⟩ = some (.int .i64 ln) := by rw [hb2.cell hbl2]; exact y2
     have z3 : W2.cell? ⟨b2, o2 + k * 4 + 3, none⟩ = some (.slice gh 0 gc) := by rw [hb2.cell hbl2]; exact y3
     obtain ⟨W3, hW3⟩ : ∃ W3, W3 = W2.alloc (.cells #[.string nm, .int .i64 vr, .int .i64 ln, .slice gh 0 gc] 36) := ⟨_, rfl⟩
     have hb3 : Below W2.heap.size W2 W3 := by rw [hW3]; exact (Below.refl _ _).alloc (Nat.le_refl _) _
     have hx3 : W3.heap[W2.heap.size]? = some (.cells #[.string nm, .int .i64 vr, .int .i64 ln, .slice gh 0 gc] 36 (0, 0)) := by rw [hW3]; exact heap_alloc_new W2 _
     have hx2' := (hb3.block _ (heap_lt hx2)).trans hx2
     rw [hz2] at hx3
     have HW2 := Lib.hid hW2
     have HW3 := Lib.hid hW3
     have HB3 := Lib.hid (HB.out.trans ((hb2.trans (hb3.mono hb2.size)).mono HB.out.size))
     have HX2 := Lib.hid hx2'
     have HX3 := Lib.hid hx3
     clear y0 y1 y2 y3 hb hb2 hb3 hx2 hx2' hx3 hW2 hW3 hbl1 hbl2
     go_upto_region 6 with fail
     rw [← HW2.out]
     clear e0 e1 e2 e3
     go_upto_region 7 with fail
     rw [← HW3.out]
     clear z0 z1 z2 z3
     have g0 : W3.cell? ⟨wr.heap.size, 0, none⟩ = some (.string nm) := box_cell HX2.out rfl
     have g1 : W3.cell? ⟨wr.heap.size, 1, none⟩ = some (.int .i64 vr) := box_cell HX2.out rfl
     have g2 : W3.cell? ⟨wr.heap.size, 2, none⟩ = some (.int .i64 ln) := box_cell HX2.out rfl
     have g3 : W3.cell? ⟨wr.heap.size, 3, none⟩ = some (.slice hh 0 hc) := box_cell HX2.out rfl
     have f0 : W3.cell? ⟨wr.heap.size + 1, 0, none⟩ = some (.string nm) := box_cell HX3.out rfl
     have f1 : W3.cell? ⟨wr.heap.size + 1, 1, none⟩ = some (.int .i64 vr) := box_cell HX3.out rfl
     have f2 : W3.cell? ⟨wr.heap.size + 1, 2, none⟩ = some (.int .i64 ln) := box_cell HX3.out rfl
     have f3 : W3.cell? ⟨wr.heap.size + 1, 3, none⟩ = some (.slice gh 0 gc) := box_cell HX3.out rfl
     go_wp2_with fail
     refine (HSP.out W3).mono ?_
     clear HSP g0 g1 g2 g3 f0 f1 f2 f3
     rintro e w5 ⟨rfl, hb5⟩
     have HB5 := Lib.hid (HB3.out.trans (hb5.mono HB3.out.size))
     clear hb5
     go_wp2
     go_roundw
     case rel => exact ⟨k + 1, by omega, by go_num, HB5.out⟩
     case measure => simp [intOf]; omega
   · clear hb
     go_wp2
     go_ret
     exact ⟨rfl, HB.out⟩
set_option maxHeartbeats 2000000 in
set_option maxRecDepth 100000 in
theorem snapSame0 (v e : Int) (l : List PinV) (a b : Option Addr) (c d : Nat) (w : World) (hA : PinsAt w 0 w.heap.size a l) (hB : PinsAt w 0 w.heap.size b l) (h0 : ∀ p ∈ l, p.hs = []) (hl : l.length ≤ 9223372036854775807) :
   Calls Tryz.prog 23 #[.agg #[.int .i64 v, .int .i64 e, .slice a l.length c], .agg #[.int .i64 v, .int .i64 e, .slice b l.length d]] w fun r w' => r = .returned (.bool true) ∧ Below w.heap.size w w' := by
 obtain ⟨W2, hW2⟩ : ∃ W2, W2 = (w.alloc (.cells #[.int .i64 v, .int .i64 e, .slice a l.length c] 24)).alloc (.cells #[.int .i64 v, .int .i64 e, .slice b l.length d] 24) := ⟨_, rfl⟩
 have hb2 : Below w.heap.size w W2 := by rw [hW2]; exact ((Below.refl _ _).alloc (Nat.le_refl _) _).alloc (by simp) _
 have hx : W2.heap[w.heap.size]? = some (.cells #[.int .i64 v, .int .i64 e, .slice a l.length c] 24 (0, 0)) := by rw [hW2, Below.heap_alloc _ _ _ (by simp)]; exact heap_alloc_new w _
 have hy : W2.heap[w.heap.size + 1]? = some (.cells #[.int .i64 v, .int .i64 e, .slice b l.length d] 24 (0, 0)) := by
   have := heap_alloc_new (w.alloc (.cells #[.int .i64 v, .int .i64 e, .slice a l.length c] 24)) (.cells #[.int .i64 v, .int .i64 e, .slice b l.length d] 24)
   rw [show (w.alloc (.cells #[.int .i64 v, .int .i64 e, .slice a l.length c] 24)).heap.size = w.heap.size + 1 by simp, ← hW2] at this
   exact this
 have v0 : W2.cell? ⟨w.heap.size, 0, none⟩ = some (.int .i64 v) := box_cell hx rfl
 have v1 : W2.cell? ⟨w.heap.size, 1, none⟩ = some (.int .i64 e) := box_cell hx rfl
 have v2 : W2.cell? ⟨w.heap.size, 2, none⟩ = some (.slice a l.length c) := box_cell hx rfl
 have u0 : W2.cell? ⟨w.heap.size + 1, 0, none⟩ = some (.int .i64 v) := box_cell hy rfl
 have u1 : W2.cell? ⟨w.heap.size + 1, 1, none⟩ = some (.int .i64 e) := box_cell hy rfl
 have u2 : W2.cell? ⟨w.heap.size + 1, 2, none⟩ = some (.slice b l.length d) := box_cell hy rfl
 have HEQ := Lib.hid (equalPins0 l a b c d W2 (hA.below hb2 (Nat.le_refl _) (Nat.le_refl _) hb2.size) (hB.below hb2 (Nat.le_refl _) (Nat.le_refl _) hb2.size) h0 hl)
 have HB := Lib.hid hb2
 have HW := Lib.hid hW2
 clear hA hB h0 hb2 hx hy hW2
 go_enter Tryz.func23, Tryz.ntmps23
 go_upto_region 1 with fail
 rw [← HW.out]
 go_wp2_with fail
 refine HEQ.out.mono ?_
 rintro r w3 ⟨rfl, hb⟩
 have HBB := Lib.hid (HB.out.trans (hb.mono HB.out.size))
 clear hb
 go_wp2
 go_ret
 exact ⟨rfl, HBB.out⟩
set_option maxHeartbeats 2000000 in
set_option maxRecDepth 100000 in
theorem ref21SameHashes (l : List Key2) (a b : Option Addr) (c d : Nat) (w : World) (hA : KeysAt w 0 w.heap.size a l) (hB : KeysAt w 0 w.heap.size b l) (hl : l.length ≤ 9223372036854775807) :
   Calls Tryz.prog 54 #[.slice a l.length c, .slice b l.length d] w fun e w' => e = .returned (.bool true) ∧ Below w.heap.size w w' := by
 have HA := Lib.hid hA
 have HBb := Lib.hid hB
 clear hA hB
 go_enter Tryz.func54, Tryz.ntmps54
 go_wp2
 go_loopw [5] (fun i wr => ∃ k : Nat, k ≤ l.length ∧ i = .int .i64 k ∧ Below w.heap.size w wr) (fun i _ => l.length - (intOf i).toNat)
 case atStart => exact ⟨0, by omega, rfl, Below.refl _ _⟩
 case round =>
   obtain ⟨k, hk, rfl, hb⟩ := hrel
   have HB := Lib.hid hb
   by_cases hlt : k < l.length
   · obtain ⟨b1, o1, ha1, _, _, e0, e1⟩ := (HA.out.below hb (Nat.le_refl _) (Nat.le_refl _) hb.size).at k hlt
     obtain ⟨b2, o2, ha2, _, _, y0, y1⟩ := (HBb.out.below hb (Nat.le_refl _) (Nat.le_refl _) hb.size).at k hlt
     subst ha1 ha2
     generalize l[k].1 = s0 at *
     generalize l[k].2 = s1 at *
     clear hb
     go_wp2
     go_quiet (fail)
     go_wp2
     go_roundw
     case rel => exact ⟨k + 1, by omega, by go_num, Below.drewN HB.out _⟩
     case measure => simp [intOf]; omega
   · clear hb
     go_wp2
     go_ret
     exact ⟨rfl, HB.out⟩
set_option maxHeartbeats 2000000 in
set_option maxRecDepth 100000 in
theorem ref23SamePin (nm : ByteArray) (vr ln : Int) (hs : List Key2) (a b : Option Addr) (c d : Nat) (w : World) (hA : KeysAt w 0 w.heap.size a hs) (hB : KeysAt w 0 w.heap.size b hs) (hl : hs.length ≤ 9223372036854775807) :
   Calls Tryz.prog 20 #[.agg #[.string nm, .int .i64 vr, .int .i64 ln, .slice a hs.length c], .agg #[.string nm, .int .i64 vr, .int .i64 ln, .slice b hs.length d]] w fun e w' => e = .returned (.bool true) ∧ Below w.heap.size w w' := by
 obtain ⟨W2, hW2⟩ : ∃ W2, W2 = (w.alloc (.cells #[.string nm, .int .i64 vr, .int .i64 ln, .slice a hs.length c] 36)).alloc (.cells #[.string nm, .int .i64 vr, .int .i64 ln, .slice b hs.length d] 36) := ⟨_, rfl⟩
 have hb2 : Below w.heap.size w W2 := by rw [hW2]; exact ((Below.refl _ _).alloc (Nat.le_refl _) _).alloc (by simp) _
 have hx : W2.heap[w.heap.size]? = some (.cells #[.string nm, .int .i64 vr, .int .i64 ln, .slice a hs.length c] 36 (0, 0)) := by rw [hW2, Below.heap_alloc _ _ _ (by simp)]; exact heap_alloc_new w _
 have hy : W2.heap[w.heap.size + 1]? = some (.cells #[.string nm, .int .i64 vr, .int .i64 ln, .slice b hs.length d] 36 (0, 0)) := by
   have := heap_alloc_new (w.alloc (.cells #[.string nm, .int .i64 vr, .int .i64 ln, .slice a hs.length c] 36)) (.cells #[.string nm, .int .i64 vr, .int .i64 ln, .slice b hs.length d] 36)
   rw [show (w.alloc (.cells #[.string nm, .int .i64 vr, .int .i64 ln, .slice a hs.length c] 36)).heap.size = w.heap.size + 1 by simp, ← hW2] at this
   exact this
 have v0 : W2.cell? ⟨w.heap.size, 0, none⟩ = some (.string nm) := box_cell hx rfl
 have v1 : W2.cell? ⟨w.heap.size, 1, none⟩ = some (.int .i64 vr) := box_cell hx rfl
 have v2 : W2.cell? ⟨w.heap.size, 2, none⟩ = some (.int .i64 ln) := box_cell hx rfl
 have v3 : W2.cell? ⟨w.heap.size, 3, none⟩ = some (.slice a hs.length c) := box_cell hx rfl
 have u0 : W2.cell? ⟨w.heap.size + 1, 0, none⟩ = some (.string nm) := box_cell hy rfl
 have u1 : W2.cell? ⟨w.heap.size + 1, 1, none⟩ = some (.int .i64 vr) := box_cell hy rfl
 have u2 : W2.cell? ⟨w.heap.size + 1, 2, none⟩ = some (.int .i64 ln) := box_cell hy rfl
 have u3 : W2.cell? ⟨w.heap.size + 1, 3, none⟩ = some (.slice b hs.length d) := box_cell hy rfl
 have HS := Lib.hid (ref21SameHashes hs a b c d W2 (hA.below hb2 (Nat.le_refl _) (Nat.le_refl _) hb2.size) (hB.below hb2 (Nat.le_refl _) (Nat.le_refl _) hb2.size) hl)
 have HB := Lib.hid hb2
 have HW := Lib.hid hW2
 clear hA hB hb2 hW2 hx hy
 go_enter Tryz.func20, Tryz.ntmps20
 go_upto_region 1 with fail
 rw [← HW.out]
 go_wp2_with fail
 refine HS.out.mono ?_
 rintro e w3 ⟨rfl, hb⟩
 have HBB := Lib.hid (HB.out.trans (hb.mono HB.out.size))
 clear hb
 go_wp2
 go_ret
 exact ⟨rfl, HBB.out⟩
end Go.Proofs.YtgghgcilpfdbjaaGreatDoor
