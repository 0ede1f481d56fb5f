/- The contracts of key.Find and legateref14.Find. -/
import Derived.Test.YtnlgmcapbbgelaaGreatDoorRk32
import Derived.Test.YtnlgmcapbbgelaaGreatDoorRk25
import Derived.Test.YtnlgmcapbbgelaaGreatDoorRk09
import Derived.Test.YtnlgmcapbbgelaaGreatDoorRk00

namespace Go.Proofs.YtnlgmcapbbgelaaGreatDoor
open Go.RowKit
def KFindPost (l : List Key2) (id : ByteArray) (w : World) (e : Ending) (w' : World) : Prop :=
 e = .returned (.tuple #[.agg #[.string (findK id l).1.1, .string (findK id l).1.2], .bool (findK id l).2]) ∧ Below w.heap.size w w'
set_option maxHeartbeats 1000000 in
set_option maxRecDepth 100000 in
theorem keyFind (l : List Key2) (id : ByteArray) (a : Option Addr) (c : Nat) (w : World) (hK : KeysAt w 0 w.heap.size a l) (hl : l.length ≤ 4000) (hs : ∀ k ∈ l, k.1.size ≤ 300 ∧ k.2.size ≤ 300) (hT : Tabs w) :
   Calls Tryz.prog 40 #[.slice a l.length c, .string id] w (KFindPost l id w) := by
 have HK := Lib.hid hK
 have HS := Lib.hid hs
 have HT := Lib.hid hT
 clear hK hs hT
 go_enter Tryz.func40, Tryz.ntmps40
 go_wp2
 go_loopw [7, 8, 9, 12] (fun _ _ _ i wr => ∃ k : Nat, k ≤ l.length ∧ i = .int .i64 k ∧ findK id l = findK id (l.drop k) ∧ Below w.heap.size w wr ∧ wr.rowIs w.heap.size 38 2 (pick2 (.string { data := #[] }) (.string { data := #[] }))) (fun _ _ _ i _ => l.length - (intOf i).toNat)
 case atStart => exact ⟨0, by omega, rfl, rfl, (Below.refl _ _).alloc (Nat.le_refl _) _, rowIs_box2 _ _ _ _⟩
 case round =>
   obtain ⟨k, hk, rfl, hf, hbel, hrow⟩ := hrel
   have HF := Lib.hid hf
   have HB := Lib.hid hbel
   have HR := Lib.hid hrow
   have hwz : w.heap.size < wr.heap.size := hrow.lt
   clear hf
   by_cases hlt : k < l.length
   · obtain ⟨b, off, ha, _, hb, e0, e1⟩ := (HK.out.below hbel (Nat.le_refl _) (Nat.le_refl _) hbel.size).at k hlt
     subst ha
     obtain ⟨hs1, hs2⟩ := HS.out l[k] (List.getElem_mem hlt)
     have HFD := Lib.hid (findK_drop id l k hlt)
     obtain ⟨x, hx⟩ : ∃ x, x = l[k] := ⟨_, rfl⟩
     rw [← hx] at e0 e1 hs1 hs2 HFD
     clear hx hbel hrow
     obtain ⟨xs, xp⟩ := x
     have hs1 : xs.size ≤ 300 := hs1
     have hs2 : xp.size ≤ 300 := hs2
     have e0 : wr.cell? ⟨b, off + k * 2, none⟩ = some (.string xs) := e0
     have e1 : wr.cell? ⟨b, off + k * 2 + 1, none⟩ = some (.string xp) := e1
     have HID := Lib.hid (keyID xs xp (wr.alloc (.cells #[.string xs, .string xp] 38)) (by omega) (by omega) ((HT.out.below HB.out).below ((Below.refl _ _).alloc (Nat.le_refl _) _)))
     unfold KeyIdPost at HID
     obtain ⟨ok, hok⟩ : ∃ ok, ok = keyOk xs.data.toList xp.data.toList := ⟨_, rfl⟩
     obtain ⟨ID, hID⟩ : ∃ ID : ByteArray, ID = ⟨(keyId xs.data.toList xp.data.toList).toArray⟩ := ⟨_, rfl⟩
     rw [← hok, ← hID] at HID
     have HHI := Lib.hid (show keyHit id (xs, xp) = (ok && (ID.toList == id.toList)) by unfold keyHit; rw [hok, hID])
     clear hok hID
     have HRA := Lib.hid (below_row ((Below.refl _ _).alloc (Nat.le_refl _) (.cells #[.string xs, .string xp] 38)) HR.out hwz)
     go_wp2_with fail
     refine HID.out.mono ?_
     rintro e w1 ⟨rfl, hb1⟩
     have HB1 := Lib.hid ((HB.out.alloc HB.out.size _).trans (hb1.mono (by have := HB.out.size; simp; omega)))
     have HR1 := Lib.hid (below_row hb1 HRA.out (by simp; omega))
     have hX : w1.heap[wr.heap.size]? = some (.cells #[.string xs, .string xp] 38 (0, 0)) := by rw [hb1.block _ (by simp)]; exact heap_alloc_new wr _
     have hz1 : wr.heap.size < w1.heap.size := by have := hb1.size; simp at this; omega
     clear hb1 e0 e1 HID HRA
     cases hh : ok && (ID.toList == id.toList)
     · have HHF := Lib.hid (show findK id l = findK id (l.drop (k + 1)) by rw [HF.out, HFD.out, HHI.out, hh]; rfl)
       cases ok
       · clear hh hX
         rw [if_neg (by simp)]
         go_wp2
         go_roundw
         case rel => exact ⟨k + 1, by omega, by go_num, HHF.out, HB1.out, HR1.out⟩
         case measure => simp [intOf]; omega
       · have hh2 : (ID.toList == id.toList) = false := by simpa using hh
         clear hh hX
         rw [if_pos rfl]
         go_wp2
         go_roundw
         case rel => exact ⟨k + 1, by omega, by go_num, HHF.out, HB1.out, HR1.out⟩
         case measure => simp [intOf]; omega
     · obtain ⟨rfl, hh2⟩ : ok = true ∧ (ID.toList == id.toList) = true := by simpa using hh
       have HHF := Lib.hid (show findK id l = ((xs, xp), true) by rw [HF.out, HFD.out, HHI.out, hh]; rfl)
       have c0 : w1.cell? ⟨wr.heap.size, 0, none⟩ = some (.string xs) := box_cell hX rfl
       have c1 : w1.cell? ⟨wr.heap.size, 1, none⟩ = some (.string xp) := box_cell hX rfl
       have t0 := HR1.out.cell (i := 0) (by decide); have t1 := HR1.out.cell (i := 1) (by decide)
       have s0 := HR1.out.frozen 0; have s1 := HR1.out.frozen 1
       simp only [pick2] at t0 t1
       clear hh hX
       rw [if_pos rfl]
       go_wp2
       refine bodyPost_ret (results_row_tmp Tryz.results40 _ _ w.heap.size 38 #[.string xs, .string xp] (0, 0) _ rfl (row2_heap (set2 _ _ HR1.out)) Tryz.underlying38 rfl (by kernel_rfl) _ rfl) rfl ⟨by rw [HHF.out] <;> rfl, below2 _ _ HB1.out (Nat.le_refl _)⟩
   · have hke : k = l.length := by omega
     have HHF := Lib.hid (show findK id l = (({ data := #[] }, { data := #[] }), false) by rw [HF.out, hke, List.drop_length]; rfl)
     have t0 := hrow.cell (i := 0) (by decide); have t1 := hrow.cell (i := 1) (by decide)
     have s0 := hrow.frozen 0; have s1 := hrow.frozen 1
     simp only [pick2] at t0 t1
     clear hrow hbel hke
     go_wp2
     refine bodyPost_ret (results_row_tmp Tryz.results40 _ _ w.heap.size 38 #[.string { data := #[] }, .string { data := #[] }] (0, 0) _ rfl (row2_heap (set2 _ _ HR.out)) Tryz.underlying38 rfl (by kernel_rfl) _ rfl) rfl ⟨by rw [HHF.out] <;> rfl, below2 _ _ HB.out (Nat.le_refl _)⟩
end Go.Proofs.YtnlgmcapbbgelaaGreatDoor
