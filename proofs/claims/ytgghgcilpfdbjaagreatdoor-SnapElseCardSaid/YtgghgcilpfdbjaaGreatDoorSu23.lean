/- The contracts of record.HashesValue, and of snap.PinValue of a pin that may be, hashes and all. Printed by genpinval2.py. -/
import Derived.Test.YtgghgcilpfdbjaaGreatDoorSu22
import Derived.Test.YtgghgcilpfdbjaaGreatDoorSu10
import Derived.Test.YtgghgcilpfdbjaaGreatDoorSu17
import Derived.Test.YtgghgcilpfdbjaaGreatDoorSu21
import Derived.Test.YtgghgcilpfdbjaaGreatDoorSu02
import Derived.Outline
import Derived.OwnWalk

namespace Go.Proofs.YtgghgcilpfdbjaaGreatDoor
open Go.RowKit
end Go.Proofs.YtgghgcilpfdbjaaGreatDoor

namespace Go.Proofs.YtgghgcilpfdbjaaGreatDoor
open Go.RowKit Go.Shelf Go.Sort
theorem tells_bool {T : Type} {x y : T} {w : World} {e : Ending} {w' : World} {b : Bool} (hb : b = true ↔ x = y) (h : TellsEq x y w e w') : e = .returned (.bool b) ∧ Below w.heap.size w w' := by
 obtain ⟨b', h1, h2, h3⟩ := h
 have : b' = b := by rw [Bool.eq_iff_iff, h2, hb]
 exact ⟨by rw [h1, this], h3⟩
theorem txtJ_wt (t : ByteArray) (h : t.size ≤ 4294967000) : (txtJ t).wt ≤ 4294967296 := by simp [txtJ, JV.wt, JV.wts, bytesSum]; omega
def ObjVPost (v : JV) (w : World) (e : Ending) (w' : World) : Prop :=
 ∃ an cn ai ci, e = .returned (.agg #[.int .u8 5, .int .i64 0, .string { data := #[] }, .slice an v.names.length cn, .slice ai v.items.length ci]) ∧
   Rep w' w.heap.size w'.heap.size v (.agg #[.int .u8 5, .int .i64 0, .string { data := #[] }, .slice an v.names.length cn, .slice ai v.items.length ci]) ∧ Below w.heap.size w w'
def ObjTPost (v : JV) (w : World) (e : Ending) (w' : World) : Prop :=
 ∃ an cn ai ci, e = .returned (.tuple #[.agg #[.int .u8 5, .int .i64 0, .string { data := #[] }, .slice an v.names.length cn, .slice ai v.items.length ci], .int .i64 0]) ∧
   Rep w' w.heap.size w'.heap.size v (.agg #[.int .u8 5, .int .i64 0, .string { data := #[] }, .slice an v.names.length cn, .slice ai v.items.length ci]) ∧ Below w.heap.size w w'
set_option maxHeartbeats 4000000 in
set_option maxRecDepth 100000 in
theorem recHashesObject (l : List Key2) (a : Option Addr) (c : Nat) (w : World) (hK : KeysAt w 0 w.heap.size a l) (hm : mayHashes l = true) :
   Calls Tryz.prog 99 #[.slice a l.length c] w (ObjVPost (hashJ l) w) := by
 obtain ⟨hl, hok, hri⟩ := mayHashes_parts hm
 obtain ⟨W2, hW2⟩ : ∃ W2, W2 = w.alloc (.cells #[.int .u8 0, .int .i64 0, .string { data := #[] }, .slice none 0 0, .slice none 0 0] 30) := ⟨_, rfl⟩
 have hz2 : W2.heap.size = w.heap.size + 1 := by rw [hW2]; simp
 have hb2 : Below w.heap.size w W2 := by rw [hW2]; exact (Below.refl _ _).alloc (Nat.le_refl _) _
 have hr0 : W2.rowIs w.heap.size 30 5 (pick5 (.int .u8 0) (.int .i64 0) (.string { data := #[] }) (.slice none 0 0) (.slice none 0 0)) := by
   rw [hW2]; exact rowIs_box5 w (.int .u8 0) (.int .i64 0) (.string { data := #[] }) (.slice none 0 0) (.slice none 0 0) 30
 have HKA := Lib.hid (hK.below hb2 (Nat.le_refl _) (Nat.le_refl _) hb2.size)
 have HR0 := Lib.hid hr0
 have HB2 := Lib.hid hb2
 have HW := Lib.hid hW2
 have HOK := Lib.hid hok
 have HRI := Lib.hid hri
 have HZ2 := Lib.hid hz2
 have hlw : 0 < W2.heap.size := by omega
 clear hW2 hb2 hr0 hm hK hok hri hz2
 go_enter Tryz.func99, Tryz.ntmps99
 go_upto_region 1 with fail
 rw [← HW.out]
 obtain ⟨i1, hi1, hy0, hy1, hy2⟩ := info_parts infoMember
 have h3z : W2.heap.size ≤ W2.heap.size := Nat.le_refl _
 go_upto_region 3 with (at_make; refine wpList_make_own _ rfl (.const (.int .i64 0)) (.tmp 9) 70 rfl W2.heap.size 74 i1 _ 6 Tryz.underlying70 hi1 hy0 hy1 .i64 .i64 _ l.length rfl rfl rfl (by rw [hy2]; omega) (by unfold maxLen; omega) h3z ?_; intro w4 hown4 hgrow4; have HO4 := Lib.hid hown4; have HB4 := Lib.hid (below_grown (v := .slice none 0 0) (Below.refl W2.heap.size W2) h3z hgrow4 (fun b hb => by cases hb)); clear hown4 hgrow4)
 go_loopw [3, 5, 13] (fun s3 _ i wr => ∃ k : Nat, k ≤ l.length ∧ i = .int .i64 k ∧ (∃ g cap, s3 = .slice (some ⟨g, 0, none⟩) k cap) ∧ MembG W2.heap.size wr s3 (hashN (l.take k)) ∧ Below W2.heap.size W2 wr) (fun _ _ i _ => l.length - (intOf i).toNat)
 case atStart => exact ⟨0, by omega, rfl, ⟨_, _, rfl⟩, ⟨[], ⟨by simpa [flatM] using HO4.out, rfl, fun i h => by simp [hashN] at h⟩, rfl⟩, HB4.out⟩
 case round =>
   obtain ⟨k, hk, rfl, hsl, hMB, hb⟩ := hrel
   have HB := Lib.hid hb
   have HMB := Lib.hid hMB
   clear HO4 HB4 h3z
   obtain ⟨g0, cap0, rfl⟩ := hsl
   by_cases hlt : k < l.length
   · obtain ⟨b1, o1, ha1, _, hbl1, e0, e1⟩ := (HKA.out.below hb (Nat.le_refl _) (Nat.le_refl _) hb.size).at k hlt
     subst ha1
     have HTK := Lib.hid (show hashN (l.take (k + 1)) = hashN (l.take k) ++ [(l[k].1, txtJ l[k].2)] by rw [List.take_succ_eq_append_getElem hlt]; unfold hashN; rw [List.map_append]; rfl)
     obtain ⟨p, hp⟩ : ∃ p, p = l[k] := ⟨_, rfl⟩
     rw [← hp] at HTK e0 e1
     obtain ⟨s0, s1⟩ := p
     dsimp only at e0 e1 HTK
     clear hMB hb hp
     obtain ⟨ms, hms, hnm, hml⟩ := HMB.out.len
     have HMS := Lib.hid hms
     have HNM := Lib.hid hnm
     have HML := Lib.hid (show ms.length = k by rw [hml, hashN_len, List.length_take]; omega)
     clear hms hnm hml
     go_upto_region 5 with fail
     obtain ⟨W6, hW6⟩ : ∃ W6, W6 = wr.alloc (.cells #[.string s0, .string s1] 62) := ⟨_, rfl⟩
     have hb6 : Below wr.heap.size wr W6 := by rw [hW6]; exact (Below.refl _ _).alloc (Nat.le_refl _) _
     have hx6 : W6.heap[wr.heap.size]? = some (.cells #[.string s0, .string s1] 62 (0, 0)) := by rw [hW6]; exact heap_alloc_new wr _
     rw [← hW6]
     have HC6 := Lib.hid (show ∀ w' : World, Below W6.heap.size W6 w' → w'.cell? ⟨wr.heap.size, 0, none⟩ = some (.string s0) ∧ w'.cell? ⟨wr.heap.size, 1, none⟩ = some (.string s1) from fun w' h => by
       have x := (h.block _ (heap_lt hx6)).trans hx6
       exact ⟨box_cell x rfl, box_cell x rfl⟩)
     have HB6 := Lib.hid (HB.out.trans (hb6.mono HB.out.size))
     have HM6 := Lib.hid (HMS.out.below hb6)
     clear hW6 hx6 hb6 e0 e1
     obtain ⟨V, hV⟩ : ∃ V : List MP, V = [.con (.slice (some ⟨g0, 0, none⟩) k cap0), .con (.pointer (some ⟨wr.heap.size, 0, none⟩)), .con (.string s0), .con (.pointer (some ⟨wr.heap.size, 1, none⟩)), .con (.string s1), .con (.agg #[.int .u8 3, .int .i64 0, .string s1, .slice none 0 0, .slice none 0 0]), .con (.agg #[.string s0, .int .u8 3, .int .i64 0, .string s1, .slice none 0 0, .slice none 0 0]), .row W6.heap.size 1 74 #[.string s0, .int .u8 3, .int .i64 0, .string s1, .slice none 0 0, .slice none 0 0]] := ⟨_, rfl⟩
     have HV := Lib.hid hV
     clear hV
     refine wp_region_inv 8 (fun d a' w' => ∃ x17 x18 x19 x20 x21 x22 x23 x24, a' = ⟨#[Value.slice (some { block := b1, off := o1 }) l.length c, undef, Value.pointer (some { block := w.heap.size, off := 0 }), Value.slice (some { block := g0, off := 0 }) k cap0, undef, Value.pointer (some { block := wr.heap.size, off := 0 }), undef, undef, Value.slice (some { block := b1, off := o1 }) l.length c, Value.int IntKind.i64 (l.length : Int), Value.slice (some { block := W2.heap.size, off := 0 }) 0 l.length, Value.slice (some { block := b1, off := o1 }) l.length c, Value.int IntKind.i64 (l.length : Int), Value.int IntKind.i64 (k : Int), Value.bool true, Value.pointer (some { block := b1, off := o1 + k * 2 }), Value.agg #[Value.string s0, Value.string s1], x17, x18, x19, x20, x21, x22, x23, x24, u25, u26, undef, undef, undef, undef, undef, undef], []⟩ ∧ RegI W6 V d w' [x17, x18, x19, x20, x21, x22, x23, x24]) (by kernel_rfl) (by kernel_rfl) ?first ?step ?last
     case first => exact ⟨_, _, _, _, _, _, _, _, rfl, RegI.first _ _ _ (by rw [HV.out]; rfl)⟩
     case step =>
       rintro d a' w' ⟨x17, x18, x19, x20, x21, x22, x23, x24, rfl, h⟩ q hq hn hw
       rcases q with _ | _ | _ | _ | _ | _ | _ | _ | q
       · refine wpOp_step rfl fun K hK => ?_
         go_simp
         exact hK _ _ ⟨_, x18, x19, x20, x21, x22, x23, x24, rfl, h.same 0 _ (.con (.slice (some ⟨g0, 0, none⟩) k cap0)) (by rw [HV.out]; rfl) rfl⟩
       · refine wpOp_step rfl fun K hK => ?_
         go_simp
         exact hK _ _ ⟨x17, _, x19, x20, x21, x22, x23, x24, rfl, h.same 1 _ (.con (.pointer (some ⟨wr.heap.size, 0, none⟩))) (by rw [HV.out]; rfl) rfl⟩
       · obtain rfl : x18 = .pointer (some ⟨wr.heap.size, 0, none⟩) := h.get 1 (hw _ rfl ⟨1, .data⟩ (by simp) rfl) (.con (.pointer (some ⟨wr.heap.size, 0, none⟩))) (by rw [HV.out]; rfl) _ rfl
         obtain ⟨q0, q1⟩ := HC6.out w' h.1
         refine wpOp_step rfl fun K hK => ?_
         go_simp
         exact hK _ _ ⟨x17, _, _, x20, x21, x22, x23, x24, rfl, h.same 2 _ (.con (.string s0)) (by rw [HV.out]; rfl) rfl⟩
       · refine wpOp_step rfl fun K hK => ?_
         go_simp
         exact hK _ _ ⟨x17, x18, x19, _, x21, x22, x23, x24, rfl, h.same 3 _ (.con (.pointer (some ⟨wr.heap.size, 1, none⟩))) (by rw [HV.out]; rfl) rfl⟩
       · obtain rfl : x20 = .pointer (some ⟨wr.heap.size, 1, none⟩) := h.get 3 (hw _ rfl ⟨3, .data⟩ (by simp) rfl) (.con (.pointer (some ⟨wr.heap.size, 1, none⟩))) (by rw [HV.out]; rfl) _ rfl
         obtain ⟨q0, q1⟩ := HC6.out w' h.1
         refine wpOp_step rfl fun K hK => ?_
         go_simp
         exact hK _ _ ⟨x17, x18, x19, _, _, x22, x23, x24, rfl, h.same 4 _ (.con (.string s1)) (by rw [HV.out]; rfl) rfl⟩
       · obtain rfl : x21 = .string s1 := h.get 4 (hw _ rfl ⟨4, .data⟩ (by simp) rfl) (.con (.string s1)) (by rw [HV.out]; rfl) _ rfl
         obtain ⟨q0, q1⟩ := HC6.out w' h.1
         refine wpOp_step rfl fun K hK => ?_
         go_simp
         refine (pickTextB s1 w').mono ?_
         rintro e w2 ⟨rfl, hb2⟩
         exact hK _ _ ⟨x17, x18, x19, x20, _, _, x23, x24, rfl, h.did hb2 5 _ (.con (.agg #[.int .u8 3, .int .i64 0, .string s1, .slice none 0 0, .slice none 0 0])) (by rw [HV.out]; rfl) rfl⟩
       · obtain rfl : x19 = .string s0 := h.get 2 (hw _ rfl ⟨2, .data⟩ (by simp) rfl) (.con (.string s0)) (by rw [HV.out]; rfl) _ rfl
         obtain rfl : x22 = .agg #[.int .u8 3, .int .i64 0, .string s1, .slice none 0 0, .slice none 0 0] := h.get 5 (hw _ rfl ⟨5, .data⟩ (by simp) rfl) (.con (.agg #[.int .u8 3, .int .i64 0, .string s1, .slice none 0 0, .slice none 0 0])) (by rw [HV.out]; rfl) _ rfl
         refine wpOp_step rfl fun K hK => ?_
         go_simp
         exact hK _ _ ⟨x17, x18, _, x20, x21, _, _, x24, rfl, h.same 6 _ (.con (.agg #[.string s0, .int .u8 3, .int .i64 0, .string s1, .slice none 0 0, .slice none 0 0])) (by rw [HV.out]; rfl) rfl⟩
       · obtain rfl : x23 = .agg #[.string s0, .int .u8 3, .int .i64 0, .string s1, .slice none 0 0, .slice none 0 0] := h.get 6 (hw _ rfl ⟨6, .data⟩ (by simp) rfl) (.con (.agg #[.string s0, .int .u8 3, .int .i64 0, .string s1, .slice none 0 0, .slice none 0 0])) (by rw [HV.out]; rfl) _ rfl
         refine wpOp_step rfl fun K hK => ?_
         go_simp
         exact hK _ _ ⟨x17, x18, x19, x20, x21, x22, _, _, rfl, h.new _ 7 _ (.row W6.heap.size 1 74 #[.string s0, .int .u8 3, .int .i64 0, .string s1, .slice none 0 0, .slice none 0 0]) (by rw [HV.out]; rfl) (IsRow.made _ h.1.size)⟩
       · omega
     case last =>
       rintro d a' w' hall ⟨x17, x18, x19, x20, x21, x22, x23, x24, rfl, h⟩
       have hle := h.1
       obtain rfl : x17 = .slice (some ⟨g0, 0, none⟩) k cap0 := h.get 0 (hall _ (by omega)) (.con (.slice (some ⟨g0, 0, none⟩) k cap0)) (by rw [HV.out]; rfl) _ rfl
       obtain ⟨b24, k24, rfl, m24⟩ := h.get 7 (hall _ (by omega)) (.row W6.heap.size 1 74 #[.string s0, .int .u8 3, .int .i64 0, .string s1, .slice none 0 0, .slice none 0 0]) (by rw [HV.out]; rfl) _ rfl
       have HLE := Lib.hid hle
       clear h hall hle HV
       have HBX := Lib.hid (HB6.out.trans (HLE.out.mono HB6.out.size))
       have HMX := Lib.hid (HM6.out.below HLE.out)
       have hwz : W2.heap.size ≤ w'.heap.size := HBX.out.size
       have HOX := Lib.hid (show w'.ownsRow W2.heap.size 74 6 (.slice (some ⟨g0, 0, none⟩) k cap0) k (flatM ms) from by have := HMX.out.own; rwa [HML.out] at this)
       refine wpList_append_lies _ rfl (.tmp 17) (.tmp 24) 70 rfl W2.heap.size 74 i1 _ 6 96 Tryz.underlying70 hi1 hy0 hy1 hy2 rfl (by omega) (.slice (some ⟨g0, 0, none⟩) k cap0) k (flatM ms) rfl HOX.out ⟨b24, 0, none⟩ 1 1 (encM (memT s0 s1)) rfl rfl (World.news_of_block (cs := (encM (memT s0 s1)).toArray) (t := 74) (fr := (0, 0)) m24) (encM_one _) (by omega) (by unfold maxLen; omega) (by omega) hwz (w'.heap.size) rfl ?_
       intro g2 cap3 w4 hown4 hgrow4 hat4 hlt4
       have hb4 := below_grown HBX.out hwz hgrow4 (fun b hb => (HOX.out.lt b hb).1)
       have hms4 := HMX.out.snoc (v' := .slice (some ⟨g2, 0, none⟩) (k + 1) cap3) (memT s0 s1) (txtJ s1) W2.heap.size W2.heap.size (Nat.le_refl _) hwz (fun b _ h => by omega) (rep_txt _ _ _ _) hgrow4 (by rw [HML.out]; exact hown4) (by
         rcases hat4 with h | h
         · exact .inl h.symm
         · exact .inr ⟨g2, rfl, by omega⟩)
       have HMF := Lib.hid (show MembG W2.heap.size w4 (.slice (some ⟨g2, 0, none⟩) (k + 1) cap3) (hashN (l.take (k + 1))) from ⟨ms ++ [memT s0 s1], by rw [HTK.out]; simpa using hms4, by rw [HTK.out, List.map_append, List.map_append, HNM.out]; rfl⟩)
       have HB4 := Lib.hid hb4
       clear hms4 hb4 hown4 hgrow4 hat4
       go_wp2
       exact ⟨⟨k + 1, by omega, by go_num, ⟨g2, cap3, rfl⟩, HMF.out, HB4.out⟩, by simp [intOf]; omega⟩
   · obtain rfl : k = l.length := by omega
     have HMO := Lib.hid (objOfG (hashN l) (by have := HMB.out; rwa [List.take_length] at this) ⟨g0, cap0, by rw [hashN_len]⟩ (List.Perm.refl _) (by rw [hashN_1]; exact HRI.out) (by rw [hashN_len]; omega) (fun p hp => by
       obtain ⟨q, hq, rfl⟩ := List.mem_map.1 hp
       exact txtJ_wt _ (Nat.le_trans (pub_size (HOK.out q hq).2) (by decide))) hlw)
     clear hMB hb
     go_wp2_with fail
     refine HMO.out.mono ?_
     clear HMO HMB
     rintro r w5 ⟨an, cn, ai, ci, rfl, hr5, hb5⟩
     rw [hashN_1, hashN_2] at hr5
     rw [hashN_1, hashN_2]
     simp only [List.length_map] at hr5
     rw [List.length_map, List.length_map]
     obtain ⟨W6, hW6⟩ : ∃ W6, W6 = w5.alloc (.cells #[.int .u8 5, .int .i64 0, .string { data := #[] }, .slice an l.length cn, .slice ai l.length ci] 30) := ⟨_, rfl⟩
     have hb56 : Below w5.heap.size w5 W6 := by rw [hW6]; exact (Below.refl _ _).alloc (Nat.le_refl _) _
     have hx6 : W6.heap[w5.heap.size]? = some (.cells #[.int .u8 5, .int .i64 0, .string { data := #[] }, .slice an l.length cn, .slice ai l.length ci] 30 (0, 0)) := by rw [hW6]; exact heap_alloc_new w5 _
     have hb26 : Below W2.heap.size W2 W6 := HB.out.trans ((hb5.trans (hb56.mono hb5.size)).mono HB.out.size)
     have hres := below_row hb26 HR0.out (by have := HZ2.out; omega)
     have HRS := Lib.hid hres
     have HR5 := Lib.hid hr5
     have HB56 := Lib.hid hb56
     have HZ5 := Lib.hid (show W2.heap.size ≤ wr.heap.size ∧ wr.heap.size ≤ w5.heap.size from ⟨HB.out.size, hb5.size⟩)
     have HB5 := Lib.hid (HB2.out.trans (hb26.mono (by have := HZ2.out; omega)))
     have y0 := box_cell hx6 (j := 0) rfl; have y1 := box_cell hx6 (j := 1) rfl; have y2 := box_cell hx6 (j := 2) rfl; have y3 := box_cell hx6 (j := 3) rfl; have y4 := box_cell hx6 (j := 4) rfl
     have t0 := hres.cell (i := 0) (by decide); have t1 := hres.cell (i := 1) (by decide); have t2 := hres.cell (i := 2) (by decide); have t3 := hres.cell (i := 3) (by decide); have t4 := hres.cell (i := 4) (by decide)
     have s0 := hres.frozen 0; have s1 := hres.frozen 1; have s2 := hres.frozen 2; have s3 := hres.frozen 3; have s4 := hres.frozen 4
     simp only [pick5] at t0 t1 t2 t3 t4
     clear hres hr5 hb5 hb26 hb56 hx6
     go_upto_region 8 with fail
     rw [← hW6]
     clear hW6
     go_wp2
     refine bodyPost_ret (results_cell_row Tryz.results99 _ _ w.heap.size 30 _ (0, 0) _ rfl (row5_heap (set5 _ _ _ _ _ HRS.out)) Tryz.underlying30 rfl (by kernel_rfl)) rfl ?_
     have e1 : (hashJ l).names.length = l.length := List.length_map ..
     have e2 : (hashJ l).items.length = l.length := List.length_map ..
     unfold ObjVPost
     rw [e1, e2]
     refine ⟨an, cn, ai, ci, rfl, ?_, below5 _ _ _ _ _ HB5.out (Nat.le_refl _)⟩
     have hsz := HB56.out.size
     have := HZ5.out
     have := HZ2.out
     exact Rep.carry (lo := wr.heap.size) (hi := w5.heap.size) (by omega) (by simp [World.setCell]; omega) (fun j hj hj2 => (heap5 _ _ _ _ _ (by omega)).trans (HB56.out.block j hj2)) _ _ HR5.out
theorem names_2 : rises [hasN, verN] = true := by kernel_rfl
theorem names_3 : rises [hasN, lenN, verN] = true := by kernel_rfl
set_option maxHeartbeats 4000000 in
set_option maxRecDepth 100000 in
theorem recHashesValue (l : List Key2) (a : Option Addr) (c : Nat) (w : World) (hK : KeysAt w 0 w.heap.size a l) (hm : mayHashes l = true) :
   Calls Tryz.prog 58 #[.slice a l.length c] w (ObjTPost (hashJ l) w) := by
 obtain ⟨hl, hok, _⟩ := mayHashes_parts hm
 obtain ⟨W2, hW2⟩ : ∃ W2, W2 = w.alloc (.cells #[.int .u8 0, .int .i64 0, .string { data := #[] }, .slice none 0 0, .slice none 0 0] 30) := ⟨_, rfl⟩
 have hz2 : W2.heap.size = w.heap.size + 1 := by rw [hW2]; simp
 have hb2 : Below w.heap.size w W2 := by rw [hW2]; exact (Below.refl _ _).alloc (Nat.le_refl _) _
 have hr0 : W2.rowIs w.heap.size 30 5 (pick5 (.int .u8 0) (.int .i64 0) (.string { data := #[] }) (.slice none 0 0) (.slice none 0 0)) := by
   rw [hW2]; exact rowIs_box5 w (.int .u8 0) (.int .i64 0) (.string { data := #[] }) (.slice none 0 0) (.slice none 0 0) 30
 have HKA := Lib.hid (hK.below hb2 (Nat.le_refl _) (Nat.le_refl _) hb2.size)
 have HMY := Lib.hid (recMayHashes l a c W2 HKA.out (Nat.le_trans hl.2 (by decide)) (fun k hk => ⟨Nat.le_trans (role_size2 (hok k hk).1) (by decide), Nat.le_trans (pub_size (hok k hk).2) (by decide)⟩))
 rw [hm] at HMY
 have HR0 := Lib.hid hr0
 have HB2 := Lib.hid hb2
 have HW := Lib.hid hW2
 have HM := Lib.hid hm
 have HZ2 := Lib.hid hz2
 clear hW2 hb2 hr0 hm hK hok
 go_enter Tryz.func58, Tryz.ntmps58
 go_upto_region 1 with fail
 rw [← HW.out]
 go_wp2_with fail
 refine HMY.out.mono ?_
 clear HMY
 rintro r w1 ⟨rfl, hb1⟩
 have HOB := Lib.hid (recHashesObject l a c w1 (HKA.out.below hb1 (Nat.le_refl _) (Nat.le_refl _) hb1.size) HM.out)
 have HB1 := Lib.hid hb1
 clear hb1
 go_wp2_with fail
 refine HOB.out.mono ?_
 clear HOB
 rintro r w5 ⟨an, cn, ai, ci, rfl, hr5, hb5⟩
 have hb25 : Below W2.heap.size W2 w5 := HB1.out.trans (hb5.mono HB1.out.size)
 have hres := below_row hb25 HR0.out (by omega)
 have HRS := Lib.hid hres
 have HR5 := Lib.hid hr5
 have HZ5 := Lib.hid (show w.heap.size < w1.heap.size by have := HB1.out.size; omega)
 have HB5 := Lib.hid (HB2.out.trans (hb25.mono (by omega)))
 have t0 := hres.cell (i := 0) (by decide); have t1 := hres.cell (i := 1) (by decide); have t2 := hres.cell (i := 2) (by decide); have t3 := hres.cell (i := 3) (by decide); have t4 := hres.cell (i := 4) (by decide)
 have s0 := hres.frozen 0; have s1 := hres.frozen 1; have s2 := hres.frozen 2; have s3 := hres.frozen 3; have s4 := hres.frozen 4
 simp only [pick5] at t0 t1 t2 t3 t4
 clear hres hr5 hb5 hb25
 go_wp2
 refine bodyPost_ret (results_row_tmp Tryz.results58 _ _ w.heap.size 30 _ (0, 0) _ rfl (row5_heap (set5 _ _ _ _ _ HRS.out)) Tryz.underlying30 rfl (by kernel_rfl) _ rfl) rfl ?_
 refine ⟨an, cn, ai, ci, rfl, ?_, below5 _ _ _ _ _ HB5.out (Nat.le_refl _)⟩
 exact Rep.carry (Nat.le_of_lt HZ5.out) (show w5.heap.size ≤ _ by simp [World.setCell]) (fun j hj _ => heap5 _ _ _ _ _ (by have := HZ5.out; omega)) _ _ HR5.out
set_option maxHeartbeats 4000000 in
set_option maxRecDepth 100000 in
theorem snapPinValueH (nm : ByteArray) (vr ln : Int) (hs : List Key2) (ha : Option Addr) (hc : Nat) (w : World) (hK : KeysAt w 0 w.heap.size ha hs) (hm : mayPin ⟨nm, vr, ln, hs⟩ = true) (hne : hs ≠ []) :
   Calls Tryz.prog 27 #[.agg #[.string nm, .int .i64 vr, .int .i64 ln, .slice ha hs.length hc]] w (PinValPost ⟨nm, vr, ln, hs⟩ w) := by
 obtain ⟨hf, _, _, hh⟩ := mayPin_parts hm
 dsimp only at hf hh
 have hmh : mayHashes hs = true := hh.resolve_left hne
 have hlen := (mayHashes_parts hmh).1
 have hd2 : decide ((0 : Int) < hs.length) = true := by simp; omega
 obtain ⟨W2, hW2⟩ : ∃ W2, W2 = (w.alloc (.cells #[.string nm, .int .i64 vr, .int .i64 ln, .slice ha hs.length hc] 36)).alloc (.cells #[.int .u8 0, .int .i64 0, .string { data := #[] }, .slice none 0 0, .slice none 0 0] 30) := ⟨_, rfl⟩
 have hz1 : (w.alloc (.cells #[.string nm, .int .i64 vr, .int .i64 ln, .slice ha hs.length hc] 36)).heap.size = w.heap.size + 1 := by simp
 have hz2 : W2.heap.size = w.heap.size + 2 := by rw [hW2]; simp
 have hb2 : Below w.heap.size w W2 := by rw [hW2]; exact ((Below.refl _ _).alloc (Nat.le_refl _) _).alloc (by simp) _
 have hx0 : W2.heap[w.heap.size]? = some (.cells #[.string nm, .int .i64 vr, .int .i64 ln, .slice ha hs.length hc] 36 (0, 0)) := by rw [hW2, Below.heap_alloc _ _ _ (by simp)]; exact heap_alloc_new w _
 have hr0 : W2.rowIs (w.heap.size + 1) 30 5 (pick5 (.int .u8 0) (.int .i64 0) (.string { data := #[] }) (.slice none 0 0) (.slice none 0 0)) := by
   have := rowIs_box5 (w.alloc (.cells #[.string nm, .int .i64 vr, .int .i64 ln, .slice ha hs.length hc] 36)) (.int .u8 0) (.int .i64 0) (.string { data := #[] }) (.slice none 0 0) (.slice none 0 0) 30
   rw [hz1, ← hW2] at this
   exact this
 have HMP := Lib.hid (snapMayPin nm vr ln hs ha hc W2 (hK.below hb2 (Nat.le_refl _) (Nat.le_refl _) hb2.size) (Nat.le_trans (file_size hf) (by decide)) (Nat.le_trans (mayHashes_parts hmh).1.2 (by decide)) (fun k hk => ⟨Nat.le_trans (role_size2 ((mayHashes_parts hmh).2.1 k hk).1) (by decide), Nat.le_trans (pub_size ((mayHashes_parts hmh).2.1 k hk).2) (by decide)⟩))
 rw [hm] at HMP
 have HC := Lib.hid (show ∀ w' : World, Below W2.heap.size W2 w' → w'.cell? ⟨w.heap.size, 0, none⟩ = some (.string nm) ∧ w'.cell? ⟨w.heap.size, 1, none⟩ = some (.int .i64 vr) ∧ w'.cell? ⟨w.heap.size, 2, none⟩ = some (.int .i64 ln) ∧ w'.cell? ⟨w.heap.size, 3, none⟩ = some (.slice ha hs.length hc) from fun w' h => by
   have x := (h.block _ (heap_lt hx0)).trans hx0
   exact ⟨box_cell x rfl, box_cell x rfl, box_cell x rfl, box_cell x rfl⟩)
 have HHV := Lib.hid (show ∀ w' : World, Below W2.heap.size W2 w' → Calls Tryz.prog 58 #[.slice ha hs.length hc] w' (ObjTPost (hashJ hs) w') from fun w' h => recHashesValue hs ha hc w' (hK.below (hb2.trans (h.mono hb2.size)) (Nat.le_refl _) (Nat.le_refl _) (Nat.le_trans hb2.size h.size)) hmh)
 have HR0 := Lib.hid hr0
 have HMH := Lib.hid hmh
 have HNE := Lib.hid hne
 have HB2 := Lib.hid hb2
 have HW := Lib.hid hW2
 have HZ2 := Lib.hid hz2
 have hz2' : w.heap.size < W2.heap.size := by omega
 clear hW2 hb2 hx0 hr0 hz1 hm hmh hh hf hne hK
 obtain ⟨q0, q1, q2, q3⟩ := HC.out W2 (Below.refl _ _)
 go_enter Tryz.func27, Tryz.ntmps27
 go_upto_region 1 with fail
 rw [← HW.out]
 go_wp2_with fail
 refine HMP.out.mono ?_
 clear HMP q0 q1 q2 q3
 rintro e w1 ⟨rfl, hb1⟩
 have HB1 := Lib.hid hb1
 obtain ⟨q0, q1, q2, q3⟩ := HC.out w1 HB1.out
 clear hb1
 go_wp2_with fail
 refine (pickNumOf vr w1).mono ?_
 rintro e w' ⟨rfl, rfl⟩
 clear q0 q1 q2 q3
 go_upto_region 4 with fail
 obtain ⟨W3, hW3⟩ : ∃ W3, W3 = (w1.alloc (.cells #[.int .u8 2, .int .i64 vr, .string { data := #[] }, .slice none 0 0, .slice none 0 0] 30)).alloc (.cells #[.string { data := #[118, 101, 114, 115, 105, 111, 110] }, .int .u8 2, .int .i64 vr, .string { data := #[] }, .slice none 0 0, .slice none 0 0] 74) := ⟨_, rfl⟩
 have hzz : (w1.alloc (.cells #[.int .u8 2, .int .i64 vr, .string { data := #[] }, .slice none 0 0, .slice none 0 0] 30)).heap.size = w1.heap.size + 1 := by simp
 have hb3 : Below W2.heap.size W2 W3 := by rw [hW3]; exact (HB1.out.alloc HB1.out.size _).alloc (by have := HB1.out.size; simp; omega) _
 have hx3 : W3.heap[w1.heap.size + 1]? = some (.cells (encM (memN verN vr)).toArray 74 (0, 0)) := by
   rw [hW3, ← hzz]; exact heap_alloc_new _ _
 have hM3 := MemsAt.one (W0 := W2.heap.size) (memN verN vr) (numJ vr) w1.heap.size w1.heap.size (by have := HB1.out.size; omega) (by have := HB1.out.size; omega) (by omega) (rep_num W3 w1.heap.size w1.heap.size vr) hx3
 have HB3 := Lib.hid hb3
 have HM3 := Lib.hid hM3
 rw [← hW3]
 have HZ3 := Lib.hid (show w1.heap.size + 1 < W3.heap.size from heap_lt hx3)
 generalize w1.heap.size + 1 = g0 at *
 clear hW3 hzz hb3 hx3 hM3 HB1
 obtain ⟨q0, q1, q2, q3⟩ := HC.out W3 HB3.out
 by_cases hl : ln = -1
 · have HLN := Lib.hid hl
   have hd : (ln != -1) = false := by simpa using hl
   clear hl
   go_wp2_with fail
   refine (HHV.out W3 HB3.out).mono ?_
   clear q0 q1 q2 q3
   rintro r w5 ⟨an, cn, ai, ci, rfl, hr5, hb5⟩
   have HR5 := Lib.hid hr5
   have HB5 := Lib.hid hb5
   clear hr5 hb5
   go_upto_region 10 with fail
   obtain ⟨W6, hW6⟩ : ∃ W6, W6 = w5.alloc (.cells #[.int .u8 5, .int .i64 0, .string { data := #[] }, .slice an (hashJ hs).names.length cn, .slice ai (hashJ hs).items.length ci] 30) := ⟨_, rfl⟩
   have hb56 : Below w5.heap.size w5 W6 := by rw [hW6]; exact (Below.refl _ _).alloc (Nat.le_refl _) _
   have hx6 : W6.heap[w5.heap.size]? = some (.cells #[.int .u8 5, .int .i64 0, .string { data := #[] }, .slice an (hashJ hs).names.length cn, .slice ai (hashJ hs).items.length ci] 30 (0, 0)) := by rw [hW6]; exact heap_alloc_new w5 _
   rw [← hW6]
   have hb36 : Below W3.heap.size W3 W6 := HB5.out.trans (hb56.mono HB5.out.size)
   have HB26 := Lib.hid ((HB3.out).trans (hb36.mono (HB3.out).size))
   have h26z : W2.heap.size ≤ W6.heap.size := HB26.out.size
   have y0 := box_cell hx6 (j := 0) rfl; have y1 := box_cell hx6 (j := 1) rfl; have y2 := box_cell hx6 (j := 2) rfl; have y3 := box_cell hx6 (j := 3) rfl; have y4 := box_cell hx6 (j := 4) rfl
   have HM6 := Lib.hid (HM3.out.below hb36)
   have HO6 := Lib.hid (show W6.ownsRow W2.heap.size 74 6 (.slice (some ⟨g0, 0, none⟩) 1 1) 1 (flatM [memN verN vr]) from HM6.out.own)
   have HR6 := Lib.hid (HR5.out.below (B := w5.heap.size) hb56 (Nat.le_refl _) (Nat.le_refl _) (Nat.le_refl _))
   have HZ6 := Lib.hid (show W2.heap.size ≤ W3.heap.size ∧ W3.heap.size ≤ w5.heap.size ∧ w5.heap.size ≤ W6.heap.size ∧ g0 < W3.heap.size from ⟨(HB3.out).size, HB5.out.size, hb56.size, (HM3.out.own.lt g0 rfl).2⟩)
   clear hW6 hx6 hb56 hb36
   obtain ⟨i1, hi1, hy0, hy1, hy2⟩ := info_parts infoMember
   go_wp2_with (at_builtin; refine wpList_append_lies _ rfl (.tmp 39) (.tmp 42) 70 rfl W2.heap.size 74 i1 _ 6 96 Tryz.underlying70 hi1 hy0 hy1 hy2 rfl (by omega) (.slice (some ⟨g0, 0, none⟩) 1 1) 1 (flatM [memN verN vr]) rfl (HO6.out.alloc _) ⟨W6.heap.size, 0, none⟩ 1 1 (encM (⟨hasN, 5, 0, { data := #[] }, an, (hashJ hs).names.length, cn, ai, (hashJ hs).items.length, ci⟩ : Mem)) rfl rfl (World.news_of_block (cs := #[.string { data := #[104, 97, 115, 104, 101, 115] }, .int .u8 5, .int .i64 0, .string { data := #[] }, .slice an (hashJ hs).names.length cn, .slice ai (hashJ hs).items.length ci]) (t := 74) (fr := (0, 0)) (heap_alloc_new W6 _)) (encM_one _) (by omega) (by unfold maxLen; omega) (by omega) (by simp; omega) (W6.heap.size + 1) (by simp) ?_; intro g3 cap4 w7 hown7 hgrow7 hat7 hlt7; have HO7 := Lib.hid hown7; have HG7 := Lib.hid hgrow7; have HA7 := Lib.hid hat7; clear hown7 hgrow7 hat7)
   have hga : Below W6.heap.size W6 (W6.alloc (.cells #[.string { data := #[104, 97, 115, 104, 101, 115] }, .int .u8 5, .int .i64 0, .string { data := #[] }, .slice an (hashJ hs).names.length cn, .slice ai (hashJ hs).items.length ci] 74)) := (Below.refl _ _).alloc (Nat.le_refl _) _
   have HB7 := Lib.hid (below_grown (HB26.out.trans (hga.mono HB26.out.size)) (by simp; omega) HG7.out (fun b hb => (HO6.out.lt b hb).1))
   have hz6 := HZ6.out
   have hms7 := (HM6.out.below hga).snoc (v' := .slice (some ⟨g3, 0, none⟩) (1 + 1) cap4) (⟨hasN, 5, 0, { data := #[] }, an, (hashJ hs).names.length, cn, ai, (hashJ hs).items.length, ci⟩ : Mem) (hashJ hs) W3.heap.size w5.heap.size (by omega) (by simp; omega) (fun b hb => by simp only [Value.ownBlock, Option.some.injEq] at hb; omega) (HR6.out.below hga (by omega) (Nat.le_refl _) (Nat.le_refl _)) HG7.out HO7.out (by
     rcases HA7.out with h | h
     · exact .inl h.symm
     · exact .inr ⟨g3, rfl, by simp; omega⟩)
   have HMO := Lib.hid (objOfG (v := .slice (some ⟨g3, 0, none⟩) 2 cap4) [(verN, numJ vr), (hasN, hashJ hs)].reverse (N := [(verN, numJ vr), (hasN, hashJ hs)]) ⟨_, by simpa using hms7, rfl⟩ ⟨g3, cap4, rfl⟩ (List.reverse_perm [(verN, numJ vr), (hasN, hashJ hs)]) names_2 (by simp) (fun p hp => by
     have h0 := hashJ_wt HMH.out
     simp only [List.reverse_cons, List.reverse_nil, List.nil_append, List.cons_append, List.mem_cons, List.not_mem_nil, or_false] at hp
     rcases hp with rfl | rfl
     · show (hashJ hs).wt ≤ 4294967296; omega
     · show (numJ _).wt ≤ 4294967296; rw [numJ_wt]; decide) (by omega))
   clear hms7 hga HO7 HG7 HA7 y0 y1 y2 y3 y4
   go_wp2_with fail
   refine HMO.out.mono ?_
   clear HMO
   rintro e w8 ⟨an8, cn8, ai8, ci8, rfl, hr8, hb8⟩
   have hb28 : Below W2.heap.size W2 w8 := HB7.out.trans (hb8.mono HB7.out.size)
   have hres := below_row hb28 HR0.out (by omega)
   have HRS := Lib.hid hres
   have HR8 := Lib.hid hr8
   have HZ8 := Lib.hid (show w.heap.size ≤ w7.heap.size by have := HB7.out.size; omega)
   have HB8 := Lib.hid (HB2.out.trans (hb28.mono (by omega)))
   have t0 := hres.cell (i := 0) (by decide); have t1 := hres.cell (i := 1) (by decide); have t2 := hres.cell (i := 2) (by decide); have t3 := hres.cell (i := 3) (by decide); have t4 := hres.cell (i := 4) (by decide)
   have s0 := hres.frozen 0; have s1 := hres.frozen 1; have s2 := hres.frozen 2; have s3 := hres.frozen 3; have s4 := hres.frozen 4
   simp only [pick5] at t0 t1 t2 t3 t4
   clear hres hr8 hb8 hb28
   go_wp2
   refine bodyPost_ret (results_row_tmp Tryz.results27 _ _ (w.heap.size + 1) 30 _ (0, 0) _ rfl (row5_heap (set5 _ _ _ _ _ HRS.out)) Tryz.underlying30 rfl (by kernel_rfl) _ rfl) rfl ?_
   have e : pinJ ⟨nm, vr, ln, hs⟩ = .mk 5 0 { data := #[] } (([(verN, numJ vr), (hasN, hashJ hs)].reverse).map (·.1)) (([(verN, numJ vr), (hasN, hashJ hs)].reverse).map (·.2)) := by
     have h1 : hs.isEmpty = false := by
       cases hs with
       | nil => exact absurd rfl HNE.out
       | cons _ _ => rfl
     simp [pinJ, pinM, h1, HLN.out]
   unfold PinValPost
   rw [e]
   refine ⟨an8, cn8, ai8, ci8, rfl, ?_, below5 _ _ _ _ _ HB8.out (by omega)⟩
   exact Rep.carry HZ8.out (show w8.heap.size ≤ _ by simp [World.setCell]) (fun j hj _ => heap5 _ _ _ _ _ (by have := HB2.out.size; have := HB7.out.size; omega)) _ _ HR8.out
 · have HLN := Lib.hid hl
   have hd : (ln != -1) = true := by simpa using hl
   clear hl
   go_upto_region 5 with fail
   obtain ⟨i1, hi1, hy0, hy1, hy2⟩ := info_parts infoMember
   have HOD := Lib.hid (show W3.ownsRow W2.heap.size 74 6 (.slice (some ⟨g0, 0, none⟩) 1 1) 1 (flatM [memN verN vr]) from HM3.out.own)
   have hwz : W2.heap.size ≤ W3.heap.size := HB3.out.size
   go_wp2_with (first | (go_at_call 46; refine (pickNumOf ln _).mono ?_; rintro e w' ⟨rfl, rfl⟩) | (at_builtin; refine wpList_append_lies _ rfl (.tmp 19) (.tmp 24) 70 rfl W2.heap.size 74 i1 _ 6 96 Tryz.underlying70 hi1 hy0 hy1 hy2 rfl (by omega) (.slice (some ⟨g0, 0, none⟩) 1 1) 1 (flatM [memN verN vr]) rfl ((HOD.out.alloc _).alloc _) ⟨W3.heap.size + 1, 0, none⟩ 1 1 (encM (memN lenN ln)) rfl rfl (World.news_of_block (cs := (encM (memN lenN ln)).toArray) (t := 74) (fr := (0, 0)) (heap_2nd W3 _ _)) (encM_one _) (by omega) (by unfold maxLen; omega) (by omega) (by simp; omega) (W3.heap.size + 2) (by simp) ?_; intro g2 cap3 w4 hown4 hgrow4 hat4 hlt4; have HO4 := Lib.hid hown4; have HG4 := Lib.hid hgrow4; have HA4 := Lib.hid hat4; have HB4 := Lib.hid (below_grown ((HB3.out.alloc HB3.out.size (.cells #[.int .u8 2, .int .i64 ln, .string { data := #[] }, .slice none 0 0, .slice none 0 0] 30)).alloc (by simp; omega) (.cells (encM (memN lenN ln)).toArray 74)) (by simp; omega) hgrow4 (fun b hb => (HOD.out.lt b hb).1)); obtain ⟨q0, q1, q2, q3⟩ := HC.out w4 HB4.out; clear hown4 hgrow4 hat4))
   have hga : Below W3.heap.size W3 ((W3.alloc (.cells #[.int .u8 2, .int .i64 ln, .string { data := #[] }, .slice none 0 0, .slice none 0 0] 30)).alloc (.cells (encM (memN lenN ln)).toArray 74)) := ((Below.refl _ _).alloc (Nat.le_refl _) _).alloc (by simp) _
   have hms4 := (HM3.out.below hga).snoc (v' := .slice (some ⟨g2, 0, none⟩) (1 + 1) cap3) (memN lenN ln) (numJ ln) W2.heap.size W2.heap.size (Nat.le_refl _) (by simp; omega) (fun b hb => by omega) (rep_num _ _ _ _) HG4.out HO4.out (by
     rcases HA4.out with h | h
     · exact .inl h.symm
     · exact .inr ⟨g2, rfl, by simp; omega⟩)
   have HM4 := Lib.hid (show MemsAt W2.heap.size w4 (.slice (some ⟨g2, 0, none⟩) 2 cap3) [memN verN vr, memN lenN ln] [numJ vr, numJ ln] from hms4)
   clear hms4 hga HO4 HG4 HA4
   refine (HHV.out w4 HB4.out).mono ?_
   clear q0 q1 q2 q3
   rintro r w5 ⟨an, cn, ai, ci, rfl, hr5, hb5⟩
   have HR5 := Lib.hid hr5
   have HB5 := Lib.hid hb5
   clear hr5 hb5
   go_upto_region 10 with fail
   obtain ⟨W6, hW6⟩ : ∃ W6, W6 = w5.alloc (.cells #[.int .u8 5, .int .i64 0, .string { data := #[] }, .slice an (hashJ hs).names.length cn, .slice ai (hashJ hs).items.length ci] 30) := ⟨_, rfl⟩
   have hb56 : Below w5.heap.size w5 W6 := by rw [hW6]; exact (Below.refl _ _).alloc (Nat.le_refl _) _
   have hx6 : W6.heap[w5.heap.size]? = some (.cells #[.int .u8 5, .int .i64 0, .string { data := #[] }, .slice an (hashJ hs).names.length cn, .slice ai (hashJ hs).items.length ci] 30 (0, 0)) := by rw [hW6]; exact heap_alloc_new w5 _
   rw [← hW6]
   have hb36 : Below w4.heap.size w4 W6 := HB5.out.trans (hb56.mono HB5.out.size)
   have HB26 := Lib.hid ((HB4.out).trans (hb36.mono (HB4.out).size))
   have h26z : W2.heap.size ≤ W6.heap.size := HB26.out.size
   have y0 := box_cell hx6 (j := 0) rfl; have y1 := box_cell hx6 (j := 1) rfl; have y2 := box_cell hx6 (j := 2) rfl; have y3 := box_cell hx6 (j := 3) rfl; have y4 := box_cell hx6 (j := 4) rfl
   have HM6 := Lib.hid (HM4.out.below hb36)
   have HO6 := Lib.hid (show W6.ownsRow W2.heap.size 74 6 (.slice (some ⟨g2, 0, none⟩) 2 cap3) 2 (flatM [memN verN vr, memN lenN ln]) from HM6.out.own)
   have HR6 := Lib.hid (HR5.out.below (B := w5.heap.size) hb56 (Nat.le_refl _) (Nat.le_refl _) (Nat.le_refl _))
   have HZ6 := Lib.hid (show W2.heap.size ≤ w4.heap.size ∧ w4.heap.size ≤ w5.heap.size ∧ w5.heap.size ≤ W6.heap.size ∧ g2 < w4.heap.size from ⟨(HB4.out).size, HB5.out.size, hb56.size, (HM4.out.own.lt g2 rfl).2⟩)
   clear hW6 hx6 hb56 hb36
   go_wp2_with (at_builtin; refine wpList_append_lies _ rfl (.tmp 39) (.tmp 42) 70 rfl W2.heap.size 74 i1 _ 6 96 Tryz.underlying70 hi1 hy0 hy1 hy2 rfl (by omega) (.slice (some ⟨g2, 0, none⟩) 2 cap3) 2 (flatM [memN verN vr, memN lenN ln]) rfl (HO6.out.alloc _) ⟨W6.heap.size, 0, none⟩ 1 1 (encM (⟨hasN, 5, 0, { data := #[] }, an, (hashJ hs).names.length, cn, ai, (hashJ hs).items.length, ci⟩ : Mem)) rfl rfl (World.news_of_block (cs := #[.string { data := #[104, 97, 115, 104, 101, 115] }, .int .u8 5, .int .i64 0, .string { data := #[] }, .slice an (hashJ hs).names.length cn, .slice ai (hashJ hs).items.length ci]) (t := 74) (fr := (0, 0)) (heap_alloc_new W6 _)) (encM_one _) (by omega) (by unfold maxLen; omega) (by omega) (by simp; omega) (W6.heap.size + 1) (by simp) ?_; intro g3 cap4 w7 hown7 hgrow7 hat7 hlt7; have HO7 := Lib.hid hown7; have HG7 := Lib.hid hgrow7; have HA7 := Lib.hid hat7; clear hown7 hgrow7 hat7)
   have hga : Below W6.heap.size W6 (W6.alloc (.cells #[.string { data := #[104, 97, 115, 104, 101, 115] }, .int .u8 5, .int .i64 0, .string { data := #[] }, .slice an (hashJ hs).names.length cn, .slice ai (hashJ hs).items.length ci] 74)) := (Below.refl _ _).alloc (Nat.le_refl _) _
   have HB7 := Lib.hid (below_grown (HB26.out.trans (hga.mono HB26.out.size)) (by simp; omega) HG7.out (fun b hb => (HO6.out.lt b hb).1))
   have hz6 := HZ6.out
   have hms7 := (HM6.out.below hga).snoc (v' := .slice (some ⟨g3, 0, none⟩) (2 + 1) cap4) (⟨hasN, 5, 0, { data := #[] }, an, (hashJ hs).names.length, cn, ai, (hashJ hs).items.length, ci⟩ : Mem) (hashJ hs) w4.heap.size w5.heap.size (by omega) (by simp; omega) (fun b hb => by simp only [Value.ownBlock, Option.some.injEq] at hb; omega) (HR6.out.below hga (by omega) (Nat.le_refl _) (Nat.le_refl _)) HG7.out HO7.out (by
     rcases HA7.out with h | h
     · exact .inl h.symm
     · exact .inr ⟨g3, rfl, by simp; omega⟩)
   have HMO := Lib.hid (objOfG (v := .slice (some ⟨g3, 0, none⟩) 3 cap4) [(verN, numJ vr), (lenN, numJ ln), (hasN, hashJ hs)].reverse (N := [(verN, numJ vr), (lenN, numJ ln), (hasN, hashJ hs)]) ⟨_, by simpa using hms7, rfl⟩ ⟨g3, cap4, rfl⟩ (List.reverse_perm [(verN, numJ vr), (lenN, numJ ln), (hasN, hashJ hs)]) names_3 (by simp) (fun p hp => by
     have h0 := hashJ_wt HMH.out
     simp only [List.reverse_cons, List.reverse_nil, List.nil_append, List.cons_append, List.mem_cons, List.not_mem_nil, or_false] at hp
     rcases hp with rfl | rfl | rfl
     · show (hashJ hs).wt ≤ 4294967296; omega
     · show (numJ _).wt ≤ 4294967296; rw [numJ_wt]; decide
     · show (numJ _).wt ≤ 4294967296; rw [numJ_wt]; decide) (by omega))
   clear hms7 hga HO7 HG7 HA7 y0 y1 y2 y3 y4
   go_wp2_with fail
   refine HMO.out.mono ?_
   clear HMO
   rintro e w8 ⟨an8, cn8, ai8, ci8, rfl, hr8, hb8⟩
   have hb28 : Below W2.heap.size W2 w8 := HB7.out.trans (hb8.mono HB7.out.size)
   have hres := below_row hb28 HR0.out (by omega)
   have HRS := Lib.hid hres
   have HR8 := Lib.hid hr8
   have HZ8 := Lib.hid (show w.heap.size ≤ w7.heap.size by have := HB7.out.size; omega)
   have HB8 := Lib.hid (HB2.out.trans (hb28.mono (by omega)))
   have t0 := hres.cell (i := 0) (by decide); have t1 := hres.cell (i := 1) (by decide); have t2 := hres.cell (i := 2) (by decide); have t3 := hres.cell (i := 3) (by decide); have t4 := hres.cell (i := 4) (by decide)
   have s0 := hres.frozen 0; have s1 := hres.frozen 1; have s2 := hres.frozen 2; have s3 := hres.frozen 3; have s4 := hres.frozen 4
   simp only [pick5] at t0 t1 t2 t3 t4
   clear hres hr8 hb8 hb28
   go_wp2
   refine bodyPost_ret (results_row_tmp Tryz.results27 _ _ (w.heap.size + 1) 30 _ (0, 0) _ rfl (row5_heap (set5 _ _ _ _ _ HRS.out)) Tryz.underlying30 rfl (by kernel_rfl) _ rfl) rfl ?_
   have e : pinJ ⟨nm, vr, ln, hs⟩ = .mk 5 0 { data := #[] } (([(verN, numJ vr), (lenN, numJ ln), (hasN, hashJ hs)].reverse).map (·.1)) (([(verN, numJ vr), (lenN, numJ ln), (hasN, hashJ hs)].reverse).map (·.2)) := by
     have h1 : hs.isEmpty = false := by
       cases hs with
       | nil => exact absurd rfl HNE.out
       | cons _ _ => rfl
     simp [pinJ, pinM, h1, HLN.out]
   unfold PinValPost
   rw [e]
   refine ⟨an8, cn8, ai8, ci8, rfl, ?_, below5 _ _ _ _ _ HB8.out (by omega)⟩
   exact Rep.carry HZ8.out (show w8.heap.size ≤ _ by simp [World.setCell]) (fun j hj _ => heap5 _ _ _ _ _ (by have := HB2.out.size; have := HB7.out.size; omega)) _ _ HR8.out
theorem pins_made {l : List PinV} (h : l.all mayPin = true) : PinsMade l := by
 intro p hp ha hc w hK
 have hm := List.all_eq_true.1 h p hp
 obtain ⟨nm, vr, ln, hs⟩ := p
 by_cases he : hs = []
 · subst he
   exact snapPinValue nm vr ln ha hc w (Nat.le_trans (file_size (mayPin_parts hm).1) (by decide)) hm
 · exact snapPinValueH nm vr ln hs ha hc w hK hm he
end Go.Proofs.YtgghgcilpfdbjaaGreatDoor
