/- Contracts at the example's own data, for legatelaw23.awake. -/
import Derived.Test.YtgghgcilpfdbjaaGreatDoorSy25
import Derived.Test.YtgghgcilpfdbjaaGreatDoorSy26
import Derived.Test.YtgghgcilpfdbjaaGreatDoorSy16
import Derived.Test.YtgghgcilpfdbjaaGreatDoorSy08
import Derived.Test.YtgghgcilpfdbjaaGreatDoorSy02
import Derived.Outline
import Derived.OwnWalk
import Derived.Test.YtgghgcilpfdbjaaGreatDoorSy17
import Derived.Test.YtgghgcilpfdbjaaGreatDoorSy09
import Derived.Test.YtgghgcilpfdbjaaGreatDoorSy20
import Derived.Test.YtgghgcilpfdbjaaGreatDoorSy23
import Derived.Test.YtgghgcilpfdbjaaGreatDoorSy10

namespace Go.Proofs.YtgghgcilpfdbjaaGreatDoor
open Go.RowKit Go.Shelf Go.Sort
theorem txtJ_wt (t : ByteArray) (h : t.size ≤ 4294967000) : (txtJ t).wt ≤ 4294967296 := by simp [txtJ, JV.wt, JV.wts, bytesSum]; omega
def ObjVPost (v : JV) (w : World) (e : Ending) (w' : World) : Prop :=
 ∃ an cn ai ci, e = .returned (.agg #[.int .u8 5, .int .i64 0, .string { data := #[] }, .slice an v.names.length cn, .slice ai v.items.length ci]) ∧
   Rep w' w.heap.size w'.heap.size v (.agg #[.int .u8 5, .int .i64 0, .string { data := #[] }, .slice an v.names.length cn, .slice ai v.items.length ci]) ∧ Below w.heap.size w w'
def ObjTPost (v : JV) (w : World) (e : Ending) (w' : World) : Prop :=
 ∃ an cn ai ci, e = .returned (.tuple #[.agg #[.int .u8 5, .int .i64 0, .string { data := #[] }, .slice an v.names.length cn, .slice ai v.items.length ci], .int .i64 0]) ∧
   Rep w' w.heap.size w'.heap.size v (.agg #[.int .u8 5, .int .i64 0, .string { data := #[] }, .slice an v.names.length cn, .slice ai v.items.length ci]) ∧ Below w.heap.size w w'
set_option maxHeartbeats 4000000 in
set_option maxRecDepth 100000 in
theorem recHashesObject (l : List Key2) (a : Option Addr) (c : Nat) (w : World) (hK : KeysAt w 0 w.heap.size a l) (hm : mayHashes l = true) :
   Calls Tryz.prog 99 #[.slice a l.length c] w (ObjVPost (hashJ l) w) := by
 obtain ⟨hl, hok, hri⟩ := mayHashes_parts hm
 obtain ⟨W2, hW2⟩ : ∃ W2, W2 = w.alloc (.cells #[.int .u8 0, .int .i64 0, .string { data := #[] }, .slice none 0 0, .slice none 0 0] 30) := ⟨_, rfl⟩
 have hz2 : W2.heap.size = w.heap.size + 1 := by rw [hW2]; simp
 have hb2 : Below w.heap.size w W2 := by rw [hW2]; exact (Below.refl _ _).alloc (Nat.le_refl _) _
 have hr0 : W2.rowIs w.heap.size 30 5 (pick5 (.int .u8 0) (.int .i64 0) (.string { data := #[] }) (.slice none 0 0) (.slice none 0 0)) := by
   rw [hW2]; exact rowIs_box5 w (.int .u8 0) (.int .i64 0) (.string { data := #[] }) (.slice none 0 0) (.slice none 0 0) 30
 have HKA := Lib.hid (hK.below hb2 (Nat.le_refl _) (Nat.le_refl _) hb2.size)
 have HR0 := Lib.hid hr0
 have HB2 := Lib.hid hb2
 have HW := Lib.hid hW2
 have HOK := Lib.hid hok
 have HRI := Lib.hid hri
 have HZ2 := Lib.hid hz2
 have hlw : 0 < W2.heap.size := by omega
 clear hW2 hb2 hr0 hm hK hok hri hz2
 go_enter Tryz.func99, Tryz.ntmps99
 go_upto_region 1 with fail
 rw [← HW.out]
 obtain ⟨i1, hi1, hy0, hy1, hy2⟩ := info_parts infoMember
 have h3z : W2.heap.size ≤ W2.heap.size := Nat.le_refl _
 go_upto_region 3 with (at_make; refine wpList_make_own _ rfl (.const (.int .i64 0)) (.tmp 9) 70 rfl W2.heap.size 74 i1 _ 6 Tryz.underlying70 hi1 hy0 hy1 .i64 .i64 _ l.length rfl rfl rfl (by rw [hy2]; omega) (by unfold maxLen; omega) h3z ?_; intro w4 hown4 hgrow4; have HO4 := Lib.hid hown4; have HB4 := Lib.hid (below_grown (v := .slice none 0 0) (Below.refl W2.heap.size W2) h3z hgrow4 (fun b hb => by cases hb)); clear hown4 hgrow4)
 go_loopw [3, 5, 13] (fun s3 _ i wr => ∃ k : Nat, k ≤ l.length ∧ i = .int .i64 k ∧ (∃ g cap, s3 = .slice (some ⟨g, 0, none⟩) k cap) ∧ MembG W2.heap.size wr s3 (hashN (l.take k)) ∧ Below W2.heap.size W2 wr) (fun _ _ i _ => l.length - (intOf i).toNat)
 case atStart => exact ⟨0, by omega, rfl, ⟨_, _, rfl⟩, ⟨[], ⟨by simpa [flatM] using HO4.out, rfl, fun i h => by simp [hashN] at h⟩, rfl⟩, HB4.out⟩
 case round =>
   obtain ⟨k, hk, rfl, hsl, hMB, hb⟩ := hrel
   have HB := Lib.hid hb
   have HMB := Lib.hid hMB
   clear HO4 HB4 h3z
   obtain ⟨g0, cap0, rfl⟩ := hsl
   by_cases hlt : k < l.length
   · obtain ⟨b1, o1, ha1, _, hbl1, e0, e1⟩ := (HKA.out.below hb (Nat.le_refl _) (Nat.le_refl _) hb.size).at k hlt
     subst ha1
     have HTK := Lib.hid (show hashN (l.take (k + 1)) = hashN (l.take k) ++ [(l[k].1, txtJ l[k].2)] by rw [List.take_succ_eq_append_getElem hlt]; unfold hashN; rw [List.map_append]; rfl)
     obtain ⟨p, hp⟩ : ∃ p, p = l[k] := ⟨_, rfl⟩
     rw [← hp] at HTK e0 e1
     obtain ⟨s0, s1⟩ := p
     dsimp only at e0 e1 HTK
     clear hMB hb hp
     obtain ⟨ms, hms, hnm, hml⟩ := HMB.out.len
     have HMS := Lib.hid hms
     have HNM := Lib.hid hnm
     have HML := Lib.hid (show ms.length = k by rw [hml, hashN_len, List.length_take]; omega)
     clear hms hnm hml
     go_upto_region 5 with fail
     obtain ⟨W6, hW6⟩ : ∃ W6, W6 = wr.alloc (.cells #[.string s0, .string s1] 62) := ⟨_, rfl⟩
     have hb6 : Below wr.heap.size wr W6 := by rw [hW6]; exact (Below.refl _ _).alloc (Nat.le_refl _) _
     have hx6 : W6.heap[wr.heap.size]? = some (.cells #[.string s0, .string s1] 62 (0, 0)) := by rw [hW6]; exact heap_alloc_new wr _
     rw [← hW6]
     have HC6 := Lib.hid (show ∀ w' : World, Below W6.heap.size W6 w' → w'.cell? ⟨wr.heap.size, 0, none⟩ = some (.string s0) ∧ w'.cell? ⟨wr.heap.size, 1, none⟩ = some (.string s1) from fun w' h => by
       have x := (h.block _ (heap_lt hx6)).trans hx6
       exact ⟨box_cell x rfl, box_cell x rfl⟩)
     have HB6 := Lib.hid (HB.out.trans (hb6.mono HB.out.size))
     have HM6 := Lib.hid (HMS.out.below hb6)
     clear hW6 hx6 hb6 e0 e1
     obtain ⟨V, hV⟩ : ∃ V : List MP, V = [.con (.slice (some ⟨g0, 0, none⟩) k cap0), .con (.pointer (some ⟨wr.heap.size, 0, none⟩)), .con (.string s0), .con (.pointer (some ⟨wr.heap.size, 1, none⟩)), .con (.string s1), .con (.agg #[.int .u8 3, .int .i64 0, .string s1, .slice none 0 0, .slice none 0 0]), .con (.agg #[.string s0, .int .u8 3, .int .i64 0, .string s1, .slice none 0 0, .slice none 0 0]), .row W6.heap.size 1 74 #[.string s0, .int .u8 3, .int .i64 0, .string s1, .slice none 0 0, .slice none 0 0]] := ⟨_, rfl⟩
     have HV := Lib.hid hV
     clear hV
     refine wp_region_inv 8 (fun d a' w' => ∃ x17 x18 x19 x20 x21 x22 x23 x24, a' = ⟨#[Value.slice (some { block := b1, off := o1 }) l.length c, undef, Value.pointer (some { block := w.heap.size, off := 0 }), Value.slice (some { block := g0, off := 0 }) k cap0, undef, Value.pointer (some { block := wr.heap.size, off := 0 }), undef, undef, Value.slice (some { block := b1, off := o1 }) l.length c, Value.int IntKind.i64 (l.length : Int), Value.slice (some { block := W2.heap.size, off := 0 }) 0 l.length, Value.slice (some { block := b1, off := o1 }) l.length c, Value.int IntKind.i64 (l.length : Int), Value.int IntKind.i64 (k : Int), Value.bool true, Value.pointer (some { block := b1, off := o1 + k * 2 }), Value.agg #[Value.string s0, Value.string s1], x17, x18, x19, x20, x21, x22, x23, x24, u25, u26, undef, undef, undef, undef, undef, undef], []⟩ ∧ RegI W6 V d w' [x17, x18, x19, x20, x21, x22, x23, x24]) (by kernel_rfl) (by kernel_rfl) ?first ?step ?last
     case first => exact ⟨_, _, _, _, _, _, _, _, rfl, RegI.first _ _ _ (by rw [HV.out]; rfl)⟩
     case step =>
       rintro d a' w' ⟨x17, x18, x19, x20, x21, x22, x23, x24, rfl, h⟩ q hq hn hw
       rcases q with _ | _ | _ | _ | _ | _ | _ | _ | q
       · refine wpOp_step rfl fun K hK => ?_
         go_simp
         exact hK _ _ ⟨_, x18, x19, x20, x21, x22, x23, x24, rfl, h.same 0 _ (.con (.slice (some ⟨g0, 0, none⟩) k cap0)) (by rw [HV.out]; rfl) rfl⟩
       · refine wpOp_step rfl fun K hK => ?_
         go_simp
         exact hK _ _ ⟨x17, _, x19, x20, x21, x22, x23, x24, rfl, h.same 1 _ (.con (.pointer (some ⟨wr.heap.size, 0, none⟩))) (by rw [HV.out]; rfl) rfl⟩
       · obtain rfl : x18 = .pointer (some ⟨wr.heap.size, 0, none⟩) := h.get 1 (hw _ rfl ⟨1, .data⟩ (by simp) rfl) (.con (.pointer (some ⟨wr.heap.size, 0, none⟩))) (by rw [HV.out]; rfl) _ rfl
         obtain ⟨q0, q1⟩ := HC6.out w' h.1
         refine wpOp_step rfl fun K hK => ?_
         go_simp
         exact hK _ _ ⟨x17, _, _, x20, x21, x22, x23, x24, rfl, h.same 2 _ (.con (.string s0)) (by rw [HV.out]; rfl) rfl⟩
       · refine wpOp_step rfl fun K hK => ?_
         go_simp
         exact hK _ _ ⟨x17, x18, x19, _, x21, x22, x23, x24, rfl, h.same 3 _ (.con (.pointer (some ⟨wr.heap.size, 1, none⟩))) (by rw [HV.out]; rfl) rfl⟩
       · obtain rfl : x20 = .pointer (some ⟨wr.heap.size, 1, none⟩) := h.get 3 (hw _ rfl ⟨3, .data⟩ (by simp) rfl) (.con (.pointer (some ⟨wr.heap.size, 1, none⟩))) (by rw [HV.out]; rfl) _ rfl
         obtain ⟨q0, q1⟩ := HC6.out w' h.1
         refine wpOp_step rfl fun K hK => ?_
         go_simp
         exact hK _ _ ⟨x17, x18, x19, _, _, x22, x23, x24, rfl, h.same 4 _ (.con (.string s1)) (by rw [HV.out]; rfl) rfl⟩
       · obtain rfl : x21 = .string s1 := h.get 4 (hw _ rfl ⟨4, .data⟩ (by simp) rfl) (.con (.string s1)) (by rw [HV.out]; rfl) _ rfl
         obtain ⟨q0, q1⟩ := HC6.out w' h.1
         refine wpOp_step rfl fun K hK => ?_
         go_simp
         refine (pickTextB s1 w').mono ?_
         rintro e w2 ⟨rfl, hb2⟩
         exact hK _ _ ⟨x17, x18, x19, x20, _, _, x23, x24, rfl, h.did hb2 5 _ (.con (.agg #[.int .u8 3, .int .i64 0, .string s1, .slice none 0 0, .slice none 0 0])) (by rw [HV.out]; rfl) rfl⟩
       · obtain rfl : x19 = .string s0 := h.get 2 (hw _ rfl ⟨2, .data⟩ (by simp) rfl) (.con (.string s0)) (by rw [HV.out]; rfl) _ rfl
         obtain rfl : x22 = .agg #[.int .u8 3, .int .i64 0, .string s1, .slice none 0 0, .slice none 0 0] := h.get 5 (hw _ rfl ⟨5, .data⟩ (by simp) rfl) (.con (.agg #[.int .u8 3, .int .i64 0, .string s1, .slice none 0 0, .slice none 0 0])) (by rw [HV.out]; rfl) _ rfl
         refine wpOp_step rfl fun K hK => ?_
         go_simp
         exact hK _ _ ⟨x17, x18, _, x20, x21, _, _, x24, rfl, h.same 6 _ (.con (.agg #[.string s0, .int .u8 3, .int .i64 0, .string s1, .slice none 0 0, .slice none 0 0])) (by rw [HV.out]; rfl) rfl⟩
       · obtain rfl : x23 = .agg #[.string s0, .int .u8 3, .int .i64 0, .string s1, .slice none 0 0, .slice none 0 0] := h.get 6 (hw _ rfl ⟨6, .data⟩ (by simp) rfl) (.con (.agg #[.string s0, .int .u8 3, .int .i64 0, .string s1, .slice none 0 0, .slice none 0 0])) (by rw [HV.out]; rfl) _ rfl
         refine wpOp_step rfl fun K hK => ?_
         go_simp
         exact hK _ _ ⟨x17, x18, x19, x20, x21, x22, _, _, rfl, h.new _ 7 _ (.row W6.heap.size 1 74 #[.string s0, .int .u8 3, .int .i64 0, .string s1, .slice none 0 0, .slice none 0 0]) (by rw [HV.out]; rfl) (IsRow.made _ h.1.size)⟩
       · omega
     case last =>
       rintro d a' w' hall ⟨x17, x18, x19, x20, x21, x22, x23, x24, rfl, h⟩
       have hle := h.1
       obtain rfl : x17 = .slice (some ⟨g0, 0, none⟩) k cap0 := h.get 0 (hall _ (by omega)) (.con (.slice (some ⟨g0, 0, none⟩) k cap0)) (by rw [HV.out]; rfl) _ rfl
       obtain ⟨b24, k24, rfl, m24⟩ := h.get 7 (hall _ (by omega)) (.row W6.heap.size 1 74 #[.string s0, .int .u8 3, .int .i64 0, .string s1, .slice none 0 0, .slice none 0 0]) (by rw [HV.out]; rfl) _ rfl
       have HLE := Lib.hid hle
       clear h hall hle HV
       have HBX := Lib.hid (HB6.out.trans (HLE.out.mono HB6.out.size))
       have HMX := Lib.hid (HM6.out.below HLE.out)
       have hwz : W2.heap.size ≤ w'.heap.size := HBX.out.size
       have HOX := Lib.hid (show w'.ownsRow W2.heap.size 74 6 (.slice (some ⟨g0, 0, none⟩) k cap0) k (flatM ms) from by have := HMX.out.own; rwa [HML.out] at this)
       refine wpList_append_lies _ rfl (.tmp 17) (.tmp 24) 70 rfl W2.heap.size 74 i1 _ 6 96 Tryz.underlying70 hi1 hy0 hy1 hy2 rfl (by omega) (.slice (some ⟨g0, 0, none⟩) k cap0) k (flatM ms) rfl HOX.out ⟨b24, 0, none⟩ 1 1 (encM (memT s0 s1)) rfl rfl (World.news_of_block (cs := (encM (memT s0 s1)).toArray) (t := 74) (fr := (0, 0)) m24) (encM_one _) (by omega) (by unfold maxLen; omega) (by omega) hwz (w'.heap.size) rfl ?_
       intro g2 cap3 w4 hown4 hgrow4 hat4 hlt4
       have hb4 := below_grown HBX.out hwz hgrow4 (fun b hb => (HOX.out.lt b hb).1)
       have hms4 := HMX.out.snoc (v' := .slice (some ⟨g2, 0, none⟩) (k + 1) cap3) (memT s0 s1) (txtJ s1) W2.heap.size W2.heap.size (Nat.le_refl _) hwz (fun b _ h => by omega) (rep_txt _ _ _ _) hgrow4 (by rw [HML.out]; exact hown4) (by
         rcases hat4 with h | h
         · exact .inl h.symm
         · exact .inr ⟨g2, rfl, by omega⟩)
       have HMF := Lib.hid (show MembG W2.heap.size w4 (.slice (some ⟨g2, 0, none⟩) (k + 1) cap3) (hashN (l.take (k + 1))) from ⟨ms ++ [memT s0 s1], by rw [HTK.out]; simpa using hms4, by rw [HTK.out, List.map_append, List.map_append, HNM.out]; rfl⟩)
       have HB4 := Lib.hid hb4
       clear hms4 hb4 hown4 hgrow4 hat4
       go_wp2
       exact ⟨⟨k + 1, by omega, by go_num, ⟨g2, cap3, rfl⟩, HMF.out, HB4.out⟩, by simp [intOf]; omega⟩
   · obtain rfl : k = l.length := by omega
     have HMO := Lib.hid (objOfG (hashN l) (by have := HMB.out; rwa [List.take_length] at this) ⟨g0, cap0, by rw [hashN_len]⟩ (List.Perm.refl _) (by rw [hashN_1]; exact HRI.out) (by rw [hashN_len]; omega) (fun p hp => by
       obtain ⟨q, hq, rfl⟩ := List.mem_map.1 hp
       exact txtJ_wt _ (Nat.le_trans (pub_size (HOK.out q hq).2) (by decide))) hlw)
     clear hMB hb
     go_wp2_with fail
     refine HMO.out.mono ?_
     clear HMO HMB
     rintro r w5 ⟨an, cn, ai, ci, rfl, hr5, hb5⟩
     rw [hashN_1, hashN_2] at hr5
     rw [hashN_1, hashN_2]
     simp only [List.length_map] at hr5
     rw [List.length_map, List.length_map]
     obtain ⟨W6, hW6⟩ : ∃ W6, W6 = w5.alloc (.cells #[.int .u8 5, .int .i64 0, .string { data := #[] }, .slice an l.length cn, .slice ai l.length ci] 30) := ⟨_, rfl⟩
     have hb56 : Below w5.heap.size w5 W6 := by rw [hW6]; exact (Below.refl _ _).alloc (Nat.le_refl _) _
     have hx6 : W6.heap[w5.heap.size]? = some (.cells #[.int .u8 5, .int .i64 0, .string { data := #[] }, .slice an l.length cn, .slice ai l.length ci] 30 (0, 0)) := by rw [hW6]; exact heap_alloc_new w5 _
     have hb26 : Below W2.heap.size W2 W6 := HB.out.trans ((hb5.trans (hb56.mono hb5.size)).mono HB.out.size)
     have hres := below_row hb26 HR0.out (by have := HZ2.out; omega)
     have HRS := Lib.hid hres
     have HR5 := Lib.hid hr5
     have HB56 := Lib.hid hb56
     have HZ5 := Lib.hid (show W2.heap.size ≤ wr.heap.size ∧ wr.heap.size ≤ w5.heap.size from ⟨HB.out.size, hb5.size⟩)
     have HB5 := Lib.hid (HB2.out.trans (hb26.mono (by have := HZ2.out; omega)))
     have y0 := box_cell hx6 (j := 0) rfl; have y1 := box_cell hx6 (j := 1) rfl; have y2 := box_cell hx6 (j := 2) rfl; have y3 := box_cell hx6 (j := 3) rfl; have y4 := box_cell hx6 (j := 4) rfl
     have t0 := hres.cell (i := 0) (by decide); have t1 := hres.cell (i := 1) (by decide); have t2 := hres.cell (i := 2) (by decide); have t3 := hres.cell (i := 3) (by decide); have t4 := hres.cell (i := 4) (by decide)
     have s0 := hres.frozen 0; have s1 := hres.frozen 1; have s2 := hres.frozen 2; have s3 := hres.frozen 3; have s4 := hres.frozen 4
     simp only [pick5] at t0 t1 t2 t3 t4
     clear hres hr5 hb5 hb26 hb56 hx6
     go_upto_region 8 with fail
     rw [← hW6]
     clear hW6
     go_wp2
     refine bodyPost_ret (results_cell_row Tryz.results99 _ _ w.heap.size 30 _ (0, 0) _ rfl (row5_heap (set5 _ _ _ _ _ HRS.out)) Tryz.underlying30 rfl (by kernel_rfl)) rfl ?_
     have e1 : (hashJ l).names.length = l.length := List.length_map ..
     have e2 : (hashJ l).items.length = l.length := List.length_map ..
     unfold ObjVPost
     rw [e1, e2]
     refine ⟨an, cn, ai, ci, rfl, ?_, below5 _ _ _ _ _ HB5.out (Nat.le_refl _)⟩
     have hsz := HB56.out.size
     have := HZ5.out
     have := HZ2.out
     exact Rep.carry (lo := wr.heap.size) (hi := w5.heap.size) (by omega) (by simp [World.setCell]; omega) (fun j hj hj2 => (heap5 _ _ _ _ _ (by omega)).trans (HB56.out.block j hj2)) _ _ HR5.out
theorem names_2 : rises [hasN, verN] = true := by kernel_rfl
theorem names_3 : rises [hasN, lenN, verN] = true := by kernel_rfl
set_option maxHeartbeats 4000000 in
set_option maxRecDepth 100000 in
theorem recHashesValue (l : List Key2) (a : Option Addr) (c : Nat) (w : World) (hK : KeysAt w 0 w.heap.size a l) (hm : mayHashes l = true) :
   Calls Tryz.prog 58 #[.slice a l.length c] w (ObjTPost (hashJ l) w) := by
 obtain ⟨hl, hok, _⟩ := mayHashes_parts hm
 obtain ⟨W2, hW2⟩ : ∃ W2, W2 = w.alloc (.cells #[.int .u8 0, .int .i64 0, .string { data := #[] }, .slice none 0 0, .slice none 0 0] 30) := ⟨_, rfl⟩
 have hz2 : W2.heap.size = w.heap.size + 1 := by rw [hW2]; simp
 have hb2 : Below w.heap.size w W2 := by rw [hW2]; exact (Below.refl _ _).alloc (Nat.le_refl _) _
 have hr0 : W2.rowIs w.heap.size 30 5 (pick5 (.int .u8 0) (.int .i64 0) (.string { data := #[] }) (.slice none 0 0) (.slice none 0 0)) := by
   rw [hW2]; exact rowIs_box5 w (.int .u8 0) (.int .i64 0) (.string { data := #[] }) (.slice none 0 0) (.slice none 0 0) 30
 have HKA := Lib.hid (hK.below hb2 (Nat.le_refl _) (Nat.le_refl _) hb2.size)
 have HMY := Lib.hid (recMayHashes l a c W2 HKA.out (Nat.le_trans hl.2 (by decide)) (fun k hk => ⟨Nat.le_trans (role_size2 (hok k hk).1) (by decide), Nat.le_trans (pub_size (hok k hk).2) (by decide)⟩))
 rw [hm] at HMY
 have HR0 := Lib.hid hr0
 have HB2 := Lib.hid hb2
 have HW := Lib.hid hW2
 have HM := Lib.hid hm
 have HZ2 := Lib.hid hz2
 clear hW2 hb2 hr0 hm hK hok
 go_enter Tryz.func58, Tryz.ntmps58
 go_upto_region 1 with fail
 rw [← HW.out]
 go_wp2_with fail
 refine HMY.out.mono ?_
 clear HMY
 rintro r w1 ⟨rfl, hb1⟩
 have HOB := Lib.hid (recHashesObject l a c w1 (HKA.out.below hb1 (Nat.le_refl _) (Nat.le_refl _) hb1.size) HM.out)
 have HB1 := Lib.hid hb1
 clear hb1
 go_wp2_with fail
 refine HOB.out.mono ?_
 clear HOB
 rintro r w5 ⟨an, cn, ai, ci, rfl, hr5, hb5⟩
 have hb25 : Below W2.heap.size W2 w5 := HB1.out.trans (hb5.mono HB1.out.size)
 have hres := below_row hb25 HR0.out (by omega)
 have HRS := Lib.hid hres
 have HR5 := Lib.hid hr5
 have HZ5 := Lib.hid (show w.heap.size < w1.heap.size by have := HB1.out.size; omega)
 have HB5 := Lib.hid (HB2.out.trans (hb25.mono (by omega)))
 have t0 := hres.cell (i := 0) (by decide); have t1 := hres.cell (i := 1) (by decide); have t2 := hres.cell (i := 2) (by decide); have t3 := hres.cell (i := 3) (by decide); have t4 := hres.cell (i := 4) (by decide)
 have s0 := hres.frozen 0; have s1 := hres.frozen 1; have s2 := hres.frozen 2; have s3 := hres.frozen 3; have s4 := hres.frozen 4
 simp only [pick5] at t0 t1 t2 t3 t4
 clear hres hr5 hb5 hb25
 go_wp2
 refine bodyPost_ret (results_row_tmp Tryz.results58 _ _ w.heap.size 30 _ (0, 0) _ rfl (row5_heap (set5 _ _ _ _ _ HRS.out)) Tryz.underlying30 rfl (by kernel_rfl) _ rfl) rfl ?_
 refine ⟨an, cn, ai, ci, rfl, ?_, below5 _ _ _ _ _ HB5.out (Nat.le_refl _)⟩
 exact Rep.carry (Nat.le_of_lt HZ5.out) (show w5.heap.size ≤ _ by simp [World.setCell]) (fun j hj _ => heap5 _ _ _ _ _ (by have := HZ5.out; omega)) _ _ HR5.out
set_option maxHeartbeats 4000000 in
set_option maxRecDepth 100000 in
theorem snapPinValueH (nm : ByteArray) (vr ln : Int) (hs : List Key2) (ha : Option Addr) (hc : Nat) (w : World) (hK : KeysAt w 0 w.heap.size ha hs) (hm : mayPin ⟨nm, vr, ln, hs⟩ = true) (hne : hs ≠ []) :
   Calls Tryz.prog 27 #[.agg #[.string nm, .int .i64 vr, .int .i64 ln, .slice ha hs.length hc]] w (PinValPost ⟨nm, vr, ln, hs⟩ w) := by
 obtain ⟨hf, _, _, hh⟩ := mayPin_parts hm
 dsimp only at hf hh
 have hmh : mayHashes hs = true := hh.resolve_left hne
 have hlen := (mayHashes_parts hmh).1
 have hd2 : decide ((0 : Int) < hs.length) = true := by simp; omega
 obtain ⟨W2, hW2⟩ : ∃ W2, W2 = (w.alloc (.cells #[.string nm, .int .i64 vr, .int .i64 ln, .slice ha hs.length hc] 36)).alloc (.cells #[.int .u8 0, .int .i64 0, .string { data := #[] }, .slice none 0 0, .slice none 0 0] 30) := ⟨_, rfl⟩
 have hz1 : (w.alloc (.cells #[.string nm, .int .i64 vr, .int .i64 ln, .slice ha hs.length hc] 36)).heap.size = w.heap.size + 1 := by simp
 have hz2 : W2.heap.size = w.heap.size + 2 := by rw [hW2]; simp
 have hb2 : Below w.heap.size w W2 := by rw [hW2]; exact ((Below.refl _ _).alloc (Nat.le_refl _) _).alloc (by simp) _
 have hx0 : W2.heap[w.heap.size]? = some (.cells #[.string nm, .int .i64 vr, .int .i64 ln, .slice ha hs.length hc] 36 (0, 0)) := by rw [hW2, Below.heap_alloc _ _ _ (by simp)]; exact heap_alloc_new w _
 have hr0 : W2.rowIs (w.heap.size + 1) 30 5 (pick5 (.int .u8 0) (.int .i64 0) (.string { data := #[] }) (.slice none 0 0) (.slice none 0 0)) := by
   have := rowIs_box5 (w.alloc (.cells #[.string nm, .int .i64 vr, .int .i64 ln, .slice ha hs.length hc] 36)) (.int .u8 0) (.int .i64 0) (.string { data := #[] }) (.slice none 0 0) (.slice none 0 0) 30
   rw [hz1, ← hW2] at this
   exact this
 have HMP := Lib.hid (snapMayPin nm vr ln hs ha hc W2 (hK.below hb2 (Nat.le_refl _) (Nat.le_refl _) hb2.size) (Nat.le_trans (file_size hf) (by decide)) (Nat.le_trans (mayHashes_parts hmh).1.2 (by decide)) (fun k hk => ⟨Nat.le_trans (role_size2 ((mayHashes_parts hmh).2.1 k hk).1) (by decide), Nat.le_trans (pub_size ((mayHashes_parts hmh).2.1 k hk).2) (by decide)⟩))
 rw [hm] at HMP
 have HC := Lib.hid (show ∀ w' : World, Below W2.heap.size W2 w' → w'.cell? ⟨w.heap.size, 0, none⟩ = some (.string nm) ∧ w'.cell? ⟨w.heap.size, 1, none⟩ = some (.int .i64 vr) ∧ w'.cell? ⟨w.heap.size, 2, none⟩ = some (.int .i64 ln) ∧ w'.cell? ⟨w.heap.size, 3, none⟩ = some (.slice ha hs.length hc) from fun w' h => by
   have x := (h.block _ (heap_lt hx0)).trans hx0
   exact ⟨box_cell x rfl, box_cell x rfl, box_cell x rfl, box_cell x rfl⟩)
 have HHV := Lib.hid (show ∀ w' : World, Below W2.heap.size W2 w' → Calls Tryz.prog 58 #[.slice ha hs.length hc] w' (ObjTPost (hashJ hs) w') from fun w' h => recHashesValue hs ha hc w' (hK.below (hb2.trans (h.mono hb2.size)) (Nat.le_refl _) (Nat.le_refl _) (Nat.le_trans hb2.size h.size)) hmh)
 have HR0 := Lib.hid hr0
 have HMH := Lib.hid hmh
 have HNE := Lib.hid hne
 have HB2 := Lib.hid hb2
 have HW := Lib.hid hW2
 have HZ2 := Lib.hid hz2
 have hz2' : w.heap.size < W2.heap.size := by omega
 clear hW2 hb2 hx0 hr0 hz1 hm hmh hh hf hne hK
 obtain ⟨q0, q1, q2, q3⟩ := HC.out W2 (Below.refl _ _)
 go_enter Tryz.func27, Tryz.ntmps27
 go_upto_region 1 with fail
 rw [← HW.out]
 go_wp2_with fail
 refine HMP.out.mono ?_
 clear HMP q0 q1 q2 q3
 rintro e w1 ⟨rfl, hb1⟩
 have HB1 := Lib.hid hb1
 obtain ⟨q0, q1, q2, q3⟩ := HC.out w1 HB1.out
 clear hb1
 go_wp2_with fail
 refine (pickNumOf vr w1).mono ?_
 rintro e w' ⟨rfl, rfl⟩
 clear q0 q1 q2 q3
 go_upto_region 4 with fail
 obtain ⟨W3, hW3⟩ : ∃ W3, W3 = (w1.alloc (.cells #[.int .u8 2, .int .i64 vr, .string { data := #[] }, .slice none 0 0, .slice none 0 0] 30)).alloc (.cells #[.string { data := #[118, 101, 114, 115, 105, 111, 110] }, .int .u8 2, .int .i64 vr, .string { data := #[] }, .slice none 0 0, .slice none 0 0] 74) := ⟨_, rfl⟩
 have hzz : (w1.alloc (.cells #[.int .u8 2, .int .i64 vr, .string { data := #[] }, .slice none 0 0, .slice none 0 0] 30)).heap.size = w1.heap.size + 1 := by simp
 have hb3 : Below W2.heap.size W2 W3 := by rw [hW3]; exact (HB1.out.alloc HB1.out.size _).alloc (by have := HB1.out.size; simp; omega) _
 have hx3 : W3.heap[w1.heap.size + 1]? = some (.cells (encM (memN verN vr)).toArray 74 (0, 0)) := by
   rw [hW3, ← hzz]; exact heap_alloc_new _ _
 have hM3 := MemsAt.one (W0 := W2.heap.size) (memN verN vr) (numJ vr) w1.heap.size w1.heap.size (by have := HB1.out.size; omega) (by have := HB1.out.size; omega) (by omega) (rep_num W3 w1.heap.size w1.heap.size vr) hx3
 have HB3 := Lib.hid hb3
 have HM3 := Lib.hid hM3
 rw [← hW3]
 have HZ3 := Lib.hid (show w1.heap.size + 1 < W3.heap.size from heap_lt hx3)
 generalize w1.heap.size + 1 = g0 at *
 clear hW3 hzz hb3 hx3 hM3 HB1
 obtain ⟨q0, q1, q2, q3⟩ := HC.out W3 HB3.out
 by_cases hl : ln = -1
 · have HLN := Lib.hid hl
   have hd : (ln != -1) = false := by simpa using hl
   clear hl
   go_wp2_with fail
   refine (HHV.out W3 HB3.out).mono ?_
   clear q0 q1 q2 q3
   rintro r w5 ⟨an, cn, ai, ci, rfl, hr5, hb5⟩
   have HR5 := Lib.hid hr5
   have HB5 := Lib.hid hb5
   clear hr5 hb5
   go_upto_region 10 with fail
   obtain ⟨W6, hW6⟩ : ∃ W6, W6 = w5.alloc (.cells #[.int .u8 5, .int .i64 0, .string { data := #[] }, .slice an (hashJ hs).names.length cn, .slice ai (hashJ hs).items.length ci] 30) := ⟨_, rfl⟩
   have hb56 : Below w5.heap.size w5 W6 := by rw [hW6]; exact (Below.refl _ _).alloc (Nat.le_refl _) _
   have hx6 : W6.heap[w5.heap.size]? = some (.cells #[.int .u8 5, .int .i64 0, .string { data := #[] }, .slice an (hashJ hs).names.length cn, .slice ai (hashJ hs).items.length ci] 30 (0, 0)) := by rw [hW6]; exact heap_alloc_new w5 _
   rw [← hW6]
   have hb36 : Below W3.heap.size W3 W6 := HB5.out.trans (hb56.mono HB5.out.size)
   have HB26 := Lib.hid ((HB3.out).trans (hb36.mono (HB3.out).size))
   have h26z : W2.heap.size ≤ W6.heap.size := HB26.out.size
   have y0 := box_cell hx6 (j := 0) rfl; have y1 := box_cell hx6 (j := 1) rfl; have y2 := box_cell hx6 (j := 2) rfl; have y3 := box_cell hx6 (j := 3) rfl; have y4 := box_cell hx6 (j := 4) rfl
   have HM6 := Lib.hid (HM3.out.below hb36)
   have HO6 := Lib.hid (show W6.ownsRow W2.heap.size 74 6 (.slice (some ⟨g0, 0, none⟩) 1 1) 1 (flatM [memN verN vr]) from HM6.out.own)
   have HR6 := Lib.hid (HR5.out.below (B := w5.heap.size) hb56 (Nat.le_refl _) (Nat.le_refl _) (Nat.le_refl _))
   have HZ6 := Lib.hid (show W2.heap.size ≤ W3.heap.size ∧ W3.heap.size ≤ w5.heap.size ∧ w5.heap.size ≤ W6.heap.size ∧ g0 < W3.heap.size from ⟨(HB3.out).size, HB5.out.size, hb56.size, (HM3.out.own.lt g0 rfl).2⟩)
   clear hW6 hx6 hb56 hb36
   obtain ⟨i1, hi1, hy0, hy1, hy2⟩ := info_parts infoMember
   go_wp2_with (at_builtin; refine wpList_append_lies _ rfl (.tmp 39) (.tmp 42) 70 rfl W2.heap.size 74 i1 _ 6 96 Tryz.underlying70 hi1 hy0 hy1 hy2 rfl (by omega) (.slice (some ⟨g0, 0, none⟩) 1 1) 1 (flatM [memN verN vr]) rfl (HO6.out.alloc _) ⟨W6.heap.size, 0, none⟩ 1 1 (encM (⟨hasN, 5, 0, { data := #[] }, an, (hashJ hs).names.length, cn, ai, (hashJ hs).items.length, ci⟩ : Mem)) rfl rfl (World.news_of_block (cs := #[.string { data := #[104, 97, 115, 104, 101, 115] }, .int .u8 5, .int .i64 0, .string { data := #[] }, .slice an (hashJ hs).names.length cn, .slice ai (hashJ hs).items.length ci]) (t := 74) (fr := (0, 0)) (heap_alloc_new W6 _)) (encM_one _) (by omega) (by unfold maxLen; omega) (by omega) (by simp; omega) (W6.heap.size + 1) (by simp) ?_; intro g3 cap4 w7 hown7 hgrow7 hat7 hlt7; have HO7 := Lib.hid hown7; have HG7 := Lib.hid hgrow7; have HA7 := Lib.hid hat7; clear hown7 hgrow7 hat7)
   have hga : Below W6.heap.size W6 (W6.alloc (.cells #[.string { data := #[104, 97, 115, 104, 101, 115] }, .int .u8 5, .int .i64 0, .string { data := #[] }, .slice an (hashJ hs).names.length cn, .slice ai (hashJ hs).items.length ci] 74)) := (Below.refl _ _).alloc (Nat.le_refl _) _
   have HB7 := Lib.hid (below_grown (HB26.out.trans (hga.mono HB26.out.size)) (by simp; omega) HG7.out (fun b hb => (HO6.out.lt b hb).1))
   have hz6 := HZ6.out
   have hms7 := (HM6.out.below hga).snoc (v' := .slice (some ⟨g3, 0, none⟩) (1 + 1) cap4) (⟨hasN, 5, 0, { data := #[] }, an, (hashJ hs).names.length, cn, ai, (hashJ hs).items.length, ci⟩ : Mem) (hashJ hs) W3.heap.size w5.heap.size (by omega) (by simp; omega) (fun b hb => by simp only [Value.ownBlock, Option.some.injEq] at hb; omega) (HR6.out.below hga (by omega) (Nat.le_refl _) (Nat.le_refl _)) HG7.out HO7.out (by
     rcases HA7.out with h | h
     · exact .inl h.symm
     · exact .inr ⟨g3, rfl, by simp; omega⟩)
   have HMO := Lib.hid (objOfG (v := .slice (some ⟨g3, 0, none⟩) 2 cap4) [(verN, numJ vr), (hasN, hashJ hs)].reverse (N := [(verN, numJ vr), (hasN, hashJ hs)]) ⟨_, by simpa using hms7, rfl⟩ ⟨g3, cap4, rfl⟩ (List.reverse_perm [(verN, numJ vr), (hasN, hashJ hs)]) names_2 (by simp) (fun p hp => by
     have h0 := hashJ_wt HMH.out
     simp only [List.reverse_cons, List.reverse_nil, List.nil_append, List.cons_append, List.mem_cons, List.not_mem_nil, or_false] at hp
     rcases hp with rfl | rfl
     · show (hashJ hs).wt ≤ 4294967296; omega
     · show (numJ _).wt ≤ 4294967296; rw [numJ_wt]; decide) (by omega))
   clear hms7 hga HO7 HG7 HA7 y0 y1 y2 y3 y4
   go_wp2_with fail
   refine HMO.out.mono ?_
   clear HMO
   rintro e w8 ⟨an8, cn8, ai8, ci8, rfl, hr8, hb8⟩
   have hb28 : Below W2.heap.size W2 w8 := HB7.out.trans (hb8.mono HB7.out.size)
   have hres := below_row hb28 HR0.out (by omega)
   have HRS := Lib.hid hres
   have HR8 := Lib.hid hr8
   have HZ8 := Lib.hid (show w.heap.size ≤ w7.heap.size by have := HB7.out.size; omega)
   have HB8 := Lib.hid (HB2.out.trans (hb28.mono (by omega)))
   have t0 := hres.cell (i := 0) (by decide); have t1 := hres.cell (i := 1) (by decide); have t2 := hres.cell (i := 2) (by decide); have t3 := hres.cell (i := 3) (by decide); have t4 := hres.cell (i := 4) (by decide)
   have s0 := hres.frozen 0; have s1 := hres.frozen 1; have s2 := hres.frozen 2; have s3 := hres.frozen 3; have s4 := hres.frozen 4
   simp only [pick5] at t0 t1 t2 t3 t4
   clear hres hr8 hb8 hb28
   go_wp2
   refine bodyPost_ret (results_row_tmp Tryz.results27 _ _ (w.heap.size + 1) 30 _ (0, 0) _ rfl (row5_heap (set5 _ _ _ _ _ HRS.out)) Tryz.underlying30 rfl (by kernel_rfl) _ rfl) rfl ?_
   have e : pinJ ⟨nm, vr, ln, hs⟩ = .mk 5 0 { data := #[] } (([(verN, numJ vr), (hasN, hashJ hs)].reverse).map (·.1)) (([(verN, numJ vr), (hasN, hashJ hs)].reverse).map (·.2)) := by
     have h1 : hs.isEmpty = false := by
       cases hs with
       | nil => exact absurd rfl HNE.out
       | cons _ _ => rfl
     simp [pinJ, pinM, h1, HLN.out]
   unfold PinValPost
   rw [e]
   refine ⟨an8, cn8, ai8, ci8, rfl, ?_, below5 _ _ _ _ _ HB8.out (by omega)⟩
   exact Rep.carry HZ8.out (show w8.heap.size ≤ _ by simp [World.setCell]) (fun j hj _ => heap5 _ _ _ _ _ (by have := HB2.out.size; have := HB7.out.size; omega)) _ _ HR8.out
 · have HLN := Lib.hid hl
   have hd : (ln != -1) = true := by simpa using hl
   clear hl
   go_upto_region 5 with fail
   obtain ⟨i1, hi1, hy0, hy1, hy2⟩ := info_parts infoMember
   have HOD := Lib.hid (show W3.ownsRow W2.heap.size 74 6 (.slice (some ⟨g0, 0, none⟩) 1 1) 1 (flatM [memN verN vr]) from HM3.out.own)
   have hwz : W2.heap.size ≤ W3.heap.size := HB3.out.size
   go_wp2_with (first | (go_at_call 46; refine (pickNumOf ln _).mono ?_; rintro e w' ⟨rfl, rfl⟩) | (at_builtin; refine wpList_append_lies _ rfl (.tmp 19) (.tmp 24) 70 rfl W2.heap.size 74 i1 _ 6 96 Tryz.underlying70 hi1 hy0 hy1 hy2 rfl (by omega) (.slice (some ⟨g0, 0, none⟩) 1 1) 1 (flatM [memN verN vr]) rfl ((HOD.out.alloc _).alloc _) ⟨W3.heap.size + 1, 0, none⟩ 1 1 (encM (memN lenN ln)) rfl rfl (World.news_of_block (cs := (encM (memN lenN ln)).toArray) (t := 74) (fr := (0, 0)) (heap_2nd W3 _ _)) (encM_one _) (by omega) (by unfold maxLen; omega) (by omega) (by simp; omega) (W3.heap.size + 2) (by simp) ?_; intro g2 cap3 w4 hown4 hgrow4 hat4 hlt4; have HO4 := Lib.hid hown4; have HG4 := Lib.hid hgrow4; have HA4 := Lib.hid hat4; have HB4 := Lib.hid (below_grown ((HB3.out.alloc HB3.out.size (.cells #[.int .u8 2, .int .i64 ln, .string { data := #[] }, .slice none 0 0, .slice none 0 0] 30)).alloc (by simp; omega) (.cells (encM (memN lenN ln)).toArray 74)) (by simp; omega) hgrow4 (fun b hb => (HOD.out.lt b hb).1)); obtain ⟨q0, q1, q2, q3⟩ := HC.out w4 HB4.out; clear hown4 hgrow4 hat4))
   have hga : Below W3.heap.size W3 ((W3.alloc (.cells #[.int .u8 2, .int .i64 ln, .string { data := #[] }, .slice none 0 0, .slice none 0 0] 30)).alloc (.cells (encM (memN lenN ln)).toArray 74)) := ((Below.refl _ _).alloc (Nat.le_refl _) _).alloc (by simp) _
   have hms4 := (HM3.out.below hga).snoc (v' := .slice (some ⟨g2, 0, none⟩) (1 + 1) cap3) (memN lenN ln) (numJ ln) W2.heap.size W2.heap.size (Nat.le_refl _) (by simp; omega) (fun b hb => by omega) (rep_num _ _ _ _) HG4.out HO4.out (by
     rcases HA4.out with h | h
     · exact .inl h.symm
     · exact .inr ⟨g2, rfl, by simp; omega⟩)
   have HM4 := Lib.hid (show MemsAt W2.heap.size w4 (.slice (some ⟨g2, 0, none⟩) 2 cap3) [memN verN vr, memN lenN ln] [numJ vr, numJ ln] from hms4)
   clear hms4 hga HO4 HG4 HA4
   refine (HHV.out w4 HB4.out).mono ?_
   clear q0 q1 q2 q3
   rintro r w5 ⟨an, cn, ai, ci, rfl, hr5, hb5⟩
   have HR5 := Lib.hid hr5
   have HB5 := Lib.hid hb5
   clear hr5 hb5
   go_upto_region 10 with fail
   obtain ⟨W6, hW6⟩ : ∃ W6, W6 = w5.alloc (.cells #[.int .u8 5, .int .i64 0, .string { data := #[] }, .slice an (hashJ hs).names.length cn, .slice ai (hashJ hs).items.length ci] 30) := ⟨_, rfl⟩
   have hb56 : Below w5.heap.size w5 W6 := by rw [hW6]; exact (Below.refl _ _).alloc (Nat.le_refl _) _
   have hx6 : W6.heap[w5.heap.size]? = some (.cells #[.int .u8 5, .int .i64 0, .string { data := #[] }, .slice an (hashJ hs).names.length cn, .slice ai (hashJ hs).items.length ci] 30 (0, 0)) := by rw [hW6]; exact heap_alloc_new w5 _
   rw [← hW6]
   have hb36 : Below w4.heap.size w4 W6 := HB5.out.trans (hb56.mono HB5.out.size)
   have HB26 := Lib.hid ((HB4.out).trans (hb36.mono (HB4.out).size))
   have h26z : W2.heap.size ≤ W6.heap.size := HB26.out.size
   have y0 := box_cell hx6 (j := 0) rfl; have y1 := box_cell hx6 (j := 1) rfl; have y2 := box_cell hx6 (j := 2) rfl; have y3 := box_cell hx6 (j := 3) rfl; have y4 := box_cell hx6 (j := 4) rfl
   have HM6 := Lib.hid (HM4.out.below hb36)
   have HO6 := Lib.hid (show W6.ownsRow W2.heap.size 74 6 (.slice (some ⟨g2, 0, none⟩) 2 cap3) 2 (flatM [memN verN vr, memN lenN ln]) from HM6.out.own)
   have HR6 := Lib.hid (HR5.out.below (B := w5.heap.size) hb56 (Nat.le_refl _) (Nat.le_refl _) (Nat.le_refl _))
   have HZ6 := Lib.hid (show W2.heap.size ≤ w4.heap.size ∧ w4.heap.size ≤ w5.heap.size ∧ w5.heap.size ≤ W6.heap.size ∧ g2 < w4.heap.size from ⟨(HB4.out).size, HB5.out.size, hb56.size, (HM4.out.own.lt g2 rfl).2⟩)
   clear hW6 hx6 hb56 hb36
   go_wp2_with (at_builtin; refine wpList_append_lies _ rfl (.tmp 39) (.tmp 42) 70 rfl W2.heap.size 74 i1 _ 6 96 Tryz.underlying70 hi1 hy0 hy1 hy2 rfl (by omega) (.slice (some ⟨g2, 0, none⟩) 2 cap3) 2 (flatM [memN verN vr, memN lenN ln]) rfl (HO6.out.alloc _) ⟨W6.heap.size, 0, none⟩ 1 1 (encM (⟨hasN, 5, 0, { data := #[] }, an, (hashJ hs).names.length, cn, ai, (hashJ hs).items.length, ci⟩ : Mem)) rfl rfl (World.news_of_block (cs := #[.string { data := #[104, 97, 115, 104, 101, 115] }, .int .u8 5, .int .i64 0, .string { data := #[] }, .slice an (hashJ hs).names.length cn, .slice ai (hashJ hs).items.length ci]) (t := 74) (fr := (0, 0)) (heap_alloc_new W6 _)) (encM_one _) (by omega) (by unfold maxLen; omega) (by omega) (by simp; omega) (W6.heap.size + 1) (by simp) ?_; intro g3 cap4 w7 hown7 hgrow7 hat7 hlt7; have HO7 := Lib.hid hown7; have HG7 := Lib.hid hgrow7; have HA7 := Lib.hid hat7; clear hown7 hgrow7 hat7)
   have hga : Below W6.heap.size W6 (W6.alloc (.cells #[.string { data := #[104, 97, 115, 104, 101, 115] }, .int .u8 5, .int .i64 0, .string { data := #[] }, .slice an (hashJ hs).names.length cn, .slice ai (hashJ hs).items.length ci] 74)) := (Below.refl _ _).alloc (Nat.le_refl _) _
   have HB7 := Lib.hid (below_grown (HB26.out.trans (hga.mono HB26.out.size)) (by simp; omega) HG7.out (fun b hb => (HO6.out.lt b hb).1))
   have hz6 := HZ6.out
   have hms7 := (HM6.out.below hga).snoc (v' := .slice (some ⟨g3, 0, none⟩) (2 + 1) cap4) (⟨hasN, 5, 0, { data := #[] }, an, (hashJ hs).names.length, cn, ai, (hashJ hs).items.length, ci⟩ : Mem) (hashJ hs) w4.heap.size w5.heap.size (by omega) (by simp; omega) (fun b hb => by simp only [Value.ownBlock, Option.some.injEq] at hb; omega) (HR6.out.below hga (by omega) (Nat.le_refl _) (Nat.le_refl _)) HG7.out HO7.out (by
     rcases HA7.out with h | h
     · exact .inl h.symm
     · exact .inr ⟨g3, rfl, by simp; omega⟩)
   have HMO := Lib.hid (objOfG (v := .slice (some ⟨g3, 0, none⟩) 3 cap4) [(verN, numJ vr), (lenN, numJ ln), (hasN, hashJ hs)].reverse (N := [(verN, numJ vr), (lenN, numJ ln), (hasN, hashJ hs)]) ⟨_, by simpa using hms7, rfl⟩ ⟨g3, cap4, rfl⟩ (List.reverse_perm [(verN, numJ vr), (lenN, numJ ln), (hasN, hashJ hs)]) names_3 (by simp) (fun p hp => by
     have h0 := hashJ_wt HMH.out
     simp only [List.reverse_cons, List.reverse_nil, List.nil_append, List.cons_append, List.mem_cons, List.not_mem_nil, or_false] at hp
     rcases hp with rfl | rfl | rfl
     · show (hashJ hs).wt ≤ 4294967296; omega
     · show (numJ _).wt ≤ 4294967296; rw [numJ_wt]; decide
     · show (numJ _).wt ≤ 4294967296; rw [numJ_wt]; decide) (by omega))
   clear hms7 hga HO7 HG7 HA7 y0 y1 y2 y3 y4
   go_wp2_with fail
   refine HMO.out.mono ?_
   clear HMO
   rintro e w8 ⟨an8, cn8, ai8, ci8, rfl, hr8, hb8⟩
   have hb28 : Below W2.heap.size W2 w8 := HB7.out.trans (hb8.mono HB7.out.size)
   have hres := below_row hb28 HR0.out (by omega)
   have HRS := Lib.hid hres
   have HR8 := Lib.hid hr8
   have HZ8 := Lib.hid (show w.heap.size ≤ w7.heap.size by have := HB7.out.size; omega)
   have HB8 := Lib.hid (HB2.out.trans (hb28.mono (by omega)))
   have t0 := hres.cell (i := 0) (by decide); have t1 := hres.cell (i := 1) (by decide); have t2 := hres.cell (i := 2) (by decide); have t3 := hres.cell (i := 3) (by decide); have t4 := hres.cell (i := 4) (by decide)
   have s0 := hres.frozen 0; have s1 := hres.frozen 1; have s2 := hres.frozen 2; have s3 := hres.frozen 3; have s4 := hres.frozen 4
   simp only [pick5] at t0 t1 t2 t3 t4
   clear hres hr8 hb8 hb28
   go_wp2
   refine bodyPost_ret (results_row_tmp Tryz.results27 _ _ (w.heap.size + 1) 30 _ (0, 0) _ rfl (row5_heap (set5 _ _ _ _ _ HRS.out)) Tryz.underlying30 rfl (by kernel_rfl) _ rfl) rfl ?_
   have e : pinJ ⟨nm, vr, ln, hs⟩ = .mk 5 0 { data := #[] } (([(verN, numJ vr), (lenN, numJ ln), (hasN, hashJ hs)].reverse).map (·.1)) (([(verN, numJ vr), (lenN, numJ ln), (hasN, hashJ hs)].reverse).map (·.2)) := by
     have h1 : hs.isEmpty = false := by
       cases hs with
       | nil => exact absurd rfl HNE.out
       | cons _ _ => rfl
     simp [pinJ, pinM, h1, HLN.out]
   unfold PinValPost
   rw [e]
   refine ⟨an8, cn8, ai8, ci8, rfl, ?_, below5 _ _ _ _ _ HB8.out (by omega)⟩
   exact Rep.carry HZ8.out (show w8.heap.size ≤ _ by simp [World.setCell]) (fun j hj _ => heap5 _ _ _ _ _ (by have := HB2.out.size; have := HB7.out.size; omega)) _ _ HR8.out
theorem pins_made {l : List PinV} (h : l.all mayPin = true) : PinsMade l := by
 intro p hp ha hc w hK
 have hm := List.all_eq_true.1 h p hp
 obtain ⟨nm, vr, ln, hs⟩ := p
 by_cases he : hs = []
 · subst he
   exact snapPinValue nm vr ln ha hc w (Nat.le_trans (file_size (mayPin_parts hm).1) (by decide)) hm
 · exact snapPinValueH nm vr ln hs ha hc w hK hm he
end Go.Proofs.YtgghgcilpfdbjaaGreatDoor

namespace Go.Proofs.YtgghgcilpfdbjaaGreatDoor
open Go.RowKit
def okN (N : List NJ) : Prop := rises (N.map (·.1)) = true ∧ ∀ p ∈ N, txtOk p.1 = true ∧ p.2.partB = true
def objJ (N : List NJ) : JV := .mk 5 0 { data := #[] } (N.map (·.1)) (N.map (·.2))
theorem parts_all : ∀ l : List JV, (∀ x ∈ l, x.partB = true) → JV.partsB l = true
 | [], _ => rfl
 | x :: r, h => by rw [JV.partsB, h x (List.mem_cons_self ..), parts_all r fun y hy => h y (List.mem_cons_of_mem _ hy)]; rfl
theorem objJ_part {N : List NJ} (h : okN N) : (objJ N).partB = true := by
 rw [JV.partB_eq]
 have h1 : properB 5 0 { data := #[] } (N.map (·.1)) (N.map (·.2)).length = true := by
   unfold properB
   rw [if_neg (by decide), if_neg (by decide), if_neg (by decide), if_neg (by decide), if_pos rfl, h.1]
   have h2 : ({ data := #[] } : ByteArray).toList = [] := by rw [ByteArray.toList_eq]
   have h3 : (N.map (·.1)).all txtOk = true := by
     rw [List.all_eq_true]
     intro x hx
     obtain ⟨p, hp, rfl⟩ := List.mem_map.1 hx
     exact (h.2 p hp).1
   rw [h3]
   simp [h2]
 show (properB 5 0 { data := #[] } (N.map (·.1)) (N.map (·.2)).length && JV.partsB (N.map (·.2))) = true
 rw [h1, parts_all _ fun x hx => by obtain ⟨p, hp, rfl⟩ := List.mem_map.1 hx; exact (h.2 p hp).2]
 rfl
theorem txtJ_part {t : ByteArray} (h : txtOk t = true) : (txtJ t).partB = true := by
 rw [JV.partB_eq]
 show (properB 3 0 t [] 0 && JV.partsB []) = true
 unfold properB
 rw [if_neg (by decide), if_neg (by decide), if_pos rfl, h]
 rfl
theorem numJ_part (n : Int) : (numJ n).partB = true := by
 rw [JV.partB_eq]
 show (properB 2 n { data := #[] } [] 0 && JV.partsB []) = true
 unfold properB
 rw [if_neg (by decide), if_pos rfl]
 have h2 : ({ data := #[] } : ByteArray).toList = [] := by rw [ByteArray.toList_eq]
 simp [h2, JV.partsB]
theorem counts_le (b : Nat) : ∀ l : List JV, (∀ x ∈ l, x.count ≤ b) → JV.counts l ≤ l.length * b
 | [], _ => by simp [JV.counts]
 | x :: r, h => by
   have h1 := h x (List.mem_cons_self ..)
   have h2 := counts_le b r fun y hy => h y (List.mem_cons_of_mem _ hy)
   rw [JV.counts, List.length_cons, Nat.succ_mul]; omega
theorem depths_le2 (b : Nat) : ∀ l : List JV, (∀ x ∈ l, x.depth ≤ b) → JV.depths l ≤ b
 | [], _ => by simp [JV.depths]
 | x :: r, h => by
   have h1 := h x (List.mem_cons_self ..)
   have h2 := depths_le2 b r fun y hy => h y (List.mem_cons_of_mem _ hy)
   rw [JV.depths]; omega
theorem objJ_count {N : List NJ} (b : Nat) (h : ∀ p ∈ N, p.2.count ≤ b) : (objJ N).count ≤ 1 + N.length * b := by
 rw [JV.count_eq]
 have := counts_le b (N.map (·.2)) fun x hx => by obtain ⟨p, hp, rfl⟩ := List.mem_map.1 hx; exact h p hp
 rw [List.length_map] at this
 show 1 + JV.counts (N.map (·.2)) ≤ _
 omega
theorem objJ_depth {N : List NJ} (b : Nat) (h : ∀ p ∈ N, p.2.depth ≤ b) : (objJ N).depth ≤ b + 1 := by
 rw [JV.depth_eq]
 have := depths_le2 b (N.map (·.2)) fun x hx => by obtain ⟨p, hp, rfl⟩ := List.mem_map.1 hx; exact h p hp
 rw [if_neg (by simp [objJ, JV.kind])]
 show JV.depths (N.map (·.2)) + 1 ≤ _
 omega
theorem txtJ_cd (t : ByteArray) : (txtJ t).count = 1 ∧ (txtJ t).depth = 0 := by
 rw [JV.count_eq, JV.depth_eq]; exact ⟨rfl, rfl⟩
theorem numJ_cd (n : Int) : (numJ n).count = 1 ∧ (numJ n).depth = 0 := by
 rw [JV.count_eq, JV.depth_eq]; exact ⟨rfl, rfl⟩
theorem hashJ_obj (l : List Key2) : hashJ l = objJ (hashN l) := by simp [hashJ, objJ, hashN]
theorem hashJ_ok {l : List Key2} (h : mayHashes l = true) : (hashJ l).partB = true ∧ (hashJ l).count ≤ 5 ∧ (hashJ l).depth ≤ 1 := by
 obtain ⟨hl, hok, hr⟩ := mayHashes_parts h
 have hp : ∀ p ∈ hashN l, txtOk p.1 = true ∧ p.2.partB = true ∧ p.2.count ≤ 1 ∧ p.2.depth ≤ 0 := fun p hp => by
   obtain ⟨k, hk, rfl⟩ := List.mem_map.1 hp
   obtain ⟨h1, h2⟩ := hok k hk
   have := txtJ_cd k.2
   exact ⟨role_txt h1, txtJ_part (pub_txt h2), Nat.le_of_eq this.1, Nat.le_of_eq this.2⟩
 rw [hashJ_obj]
 refine ⟨objJ_part ⟨by rw [hashN_1]; exact hr, fun p h => ⟨(hp p h).1, (hp p h).2.1⟩⟩, ?_, objJ_depth 0 fun p h => (hp p h).2.2.2⟩
 have := objJ_count 1 fun p h => (hp p h).2.2.1
 rw [hashN_len] at this
 omega
theorem hashes_back {l : List Key2} (h : mayHashes l = true) : hashesOfJ (hashJ l) = (l, 0) := by
 obtain ⟨hl, hok, hr⟩ := mayHashes_parts h
 obtain ⟨h1, h2, h3⟩ := hashJ_ok h
 have hm : (hashJ l).mayB = true := by rw [JV.mayB_iff, h1, decide_eq_true (by omega), decide_eq_true (by omega)]; rfl
 have hn : (hashJ l).names.length = l.length := List.length_map ..
 unfold hashesOfJ
 rw [if_neg (by rw [hm]; decide), if_neg (by simp [hashJ, JV.kind]), if_neg (by omega), if_neg (by omega)]
 exact hashLoop_back l [] hok
theorem names_txt : txtOk hasN = true ∧ txtOk lenN = true ∧ txtOk verN = true ∧ txtOk typN = true ∧ txtOk expN = true ∧ txtOk metN = true ∧ txtOk snpN = true := by
 refine ⟨?_, ?_, ?_, ?_, ?_, ?_, ?_⟩
 all_goals
   refine txtOk_plain ?_ (by decide)
   intro c hc
   unfold plainC
   revert c
   decide
theorem names_ne : (hasN ≠ lenN ∧ hasN ≠ verN ∧ lenN ≠ verN) ∧ (lenN ≠ hasN ∧ verN ≠ hasN ∧ verN ≠ lenN) ∧ (typN ≠ expN ∧ typN ≠ metN ∧ typN ≠ verN ∧ expN ≠ metN ∧ expN ≠ verN ∧ metN ≠ verN) := by decide
theorem pinJ_obj (p : PinV) : pinJ p = objJ (pinM p) := rfl
theorem pinM_mem {p : PinV} {q : NJ} (h : q ∈ pinM p) : (q = (hasN, hashJ p.hs) ∧ p.hs ≠ []) ∨ (q = (lenN, numJ p.len) ∧ p.len ≠ -1) ∨ q = (verN, numJ p.ver) := by
 unfold pinM at h
 simp only [List.mem_append, List.mem_singleton] at h
 rcases h with (h | h) | h
 · cases hp : p.hs with
   | nil => rw [hp] at h; simp at h
   | cons a r => rw [hp] at h; exact .inl ⟨by simpa using h, by simp⟩
 · by_cases hl : p.len = -1
   · rw [if_pos hl] at h; simp at h
   · rw [if_neg hl] at h; exact .inr (.inl ⟨by simpa using h, hl⟩)
 · exact .inr (.inr h)
theorem pinM_rises (p : PinV) : rises ((pinM p).map (·.1)) = true ∧ (pinM p).length ≤ 3 := by
 unfold pinM
 have r1 : rises [hasN, lenN, verN] = true := names_3
 have r2 : rises [hasN, verN] = true := names_2
 have r3 : rises [lenN, verN] = true := by kernel_rfl
 have r4 : rises [verN] = true := rfl
 cases hp : p.hs with
 | nil =>
   by_cases hl : p.len = -1
   · simp [hl, r4]
   · simp [hl, r3]
 | cons a r =>
   by_cases hl : p.len = -1
   · simp [hl, r2]
   · simp [hl, r1]
theorem pinJ_ok {p : PinV} (h : mayPin p = true) : (pinJ p).partB = true ∧ (pinJ p).count ≤ 16 ∧ (pinJ p).depth ≤ 2 := by
 obtain ⟨_, _, _, hh⟩ := mayPin_parts h
 obtain ⟨n1, n2, n3, _⟩ := names_txt
 have hp : ∀ q ∈ pinM p, txtOk q.1 = true ∧ q.2.partB = true ∧ q.2.count ≤ 5 ∧ q.2.depth ≤ 1 := fun q hq => by
   rcases pinM_mem hq with ⟨rfl, h0⟩ | ⟨rfl, _⟩ | rfl
   · obtain ⟨a, b, c⟩ := hashJ_ok (hh.resolve_left h0)
     exact ⟨n1, a, b, c⟩
   · have := numJ_cd p.len
     exact ⟨n2, numJ_part _, Nat.le_trans (Nat.le_of_eq this.1) (by decide), Nat.le_trans (Nat.le_of_eq this.2) (by decide)⟩
   · have := numJ_cd p.ver
     exact ⟨n3, numJ_part _, Nat.le_trans (Nat.le_of_eq this.1) (by decide), Nat.le_trans (Nat.le_of_eq this.2) (by decide)⟩
 obtain ⟨hr, hl⟩ := pinM_rises p
 rw [pinJ_obj]
 refine ⟨objJ_part ⟨hr, fun q hq => ⟨(hp q hq).1, (hp q hq).2.1⟩⟩, ?_, objJ_depth 1 fun q hq => (hp q hq).2.2.2⟩
 have := objJ_count 5 fun q hq => (hp q hq).2.2.1
 omega
theorem pinJ_may {p : PinV} (h : mayPin p = true) : (pinJ p).mayB = true := by
 obtain ⟨h1, h2, h3⟩ := pinJ_ok h
 rw [JV.mayB_iff, h1, decide_eq_true (by omega), decide_eq_true (by omega)]; rfl
theorem pinJ_look (p : PinV) : (pinJ p).look verN = some (numJ p.ver) ∧ (pinJ p).look lenN = (if p.len = -1 then none else some (numJ p.len)) ∧ (pinJ p).look hasN = (if p.hs = [] then none else some (hashJ p.hs)) := by
 obtain ⟨⟨a1, a2, a3⟩, ⟨b1, b2, b3⟩, _⟩ := names_ne
 cases hp : p.hs with
 | nil =>
   by_cases hl : p.len = -1 <;> simp [JV.look, pinJ, pinM, hp, hl, lookL, JV.names, JV.items, a3, b1, b2, b3]
 | cons a r =>
   by_cases hl : p.len = -1 <;> simp [JV.look, pinJ, pinM, hp, hl, lookL, JV.names, JV.items, a1, a2, a3, b3]
theorem pinJ_names (p : PinV) : (pinJ p).names = (if p.hs = [] then [] else [hasN]) ++ (if p.len = -1 then [] else [lenN]) ++ [verN] := by
 cases hp : p.hs with
 | nil => by_cases hl : p.len = -1 <;> simp [pinJ, pinM, hp, hl, JV.names]
 | cons a r => by_cases hl : p.len = -1 <;> simp [pinJ, pinM, hp, hl, JV.names]
theorem pickNum_ok {v : JV} {y : ByteArray} {n lo hi : Int} {a : List ByteArray} (h : v.look y = some (numJ n)) (h1 : lo ≤ n) (h2 : n ≤ hi) : pickNum v y lo hi ⟨a, 0⟩ = (n, ⟨y :: a, 0⟩) := by
 unfold pickNum
 rw [if_neg (by simp), h]
 show (if (2 : Int) ≠ 2 then _ else if n < lo ∨ hi < n then _ else _) = _
 rw [if_neg (by decide), if_neg (by omega)]
 rfl
theorem pin_back {p : PinV} (h : mayPin p = true) : pinOfA p.name (pinJ p) = (p, 0) := by
 obtain ⟨hf, hv, hl, hh⟩ := mayPin_parts h
 obtain ⟨l1, l2, l3⟩ := pinJ_look p
 have hr : (roleOf p.name).isNone = false := by cases hq : roleOf p.name with | none => rw [hq] at hf; cases hf | some _ => rfl
 unfold pinOfA
 rw [hr, pinJ_may h, if_neg (by decide), if_neg (by simp [pinJ, JV.kind]), pinOfK_eq, pickNum_ok l1 hv.1 hv.2]
 dsimp only
 have e2 : lenSt (pinJ p) ⟨[verN], 0⟩ = (p.len, ⟨(if p.len = -1 then [verN] else [lenN, verN]), 0⟩) := by
   unfold lenSt pickHas
   by_cases hn : p.len = -1
   · rw [l2, if_pos hn]; simp [hn]
   · rw [l2, if_neg hn, if_pos (by simp), if_neg hn]
     exact pickNum_ok (by rw [l2, if_neg hn]) (by omega) hl.2
 rw [e2]
 dsimp only
 generalize hA : (if p.len = -1 then [verN] else [lenN, verN]) = A
 have e3 : hasSt (pinJ p) ⟨A, 0⟩ = (p.hs, ⟨(if p.hs = [] then A else hasN :: A), 0⟩) := by
   unfold hasSt pickHas
   by_cases hn : p.hs = []
   · rw [l3, if_pos hn]; simp [hn]
   · have hm := hh.resolve_left hn
     have e4 : pickObj (pinJ p) hasN 4 ⟨A, 0⟩ = (hashJ p.hs, ⟨hasN :: A, 0⟩) := by
       unfold pickObj
       rw [if_neg (by simp), l3, if_neg hn]
       have h4 := (mayHashes_parts hm).1.2
       have h5 : (hashJ p.hs).items.length = p.hs.length := List.length_map ..
       show (if (hashJ p.hs).kind ≠ 5 then _ else if 4 < (hashJ p.hs).items.length then _ else _) = _
       rw [if_neg (by simp [hashJ, JV.kind]), if_neg (by omega)]
     rw [l3, if_neg hn, if_pos (by simp), e4, hashes_back hm, if_neg hn]
     rfl
 rw [e3]
 dsimp only
 have e5 : pickDone (pinJ p) ⟨(if p.hs = [] then A else hasN :: A), 0⟩ = 0 := by
   unfold pickDone
   rw [if_neg (by simp), if_pos]
   rw [pinJ_names, ← hA]
   by_cases hn : p.hs = [] <;> by_cases hn2 : p.len = -1 <;> simp [hn, hn2]
 rw [e5, if_neg (by decide)]
def dateB (n : Int) : ByteArray := ⟨(dateL n.toNat).toArray⟩
theorem date_txt {n : Int} (h : 0 ≤ n ∧ n ≤ 253402300799) : txtOk (dateB n) = true ∧ readD (dateB n).data.toList = (n, 0) := by
 obtain ⟨h1, h2⟩ := date_bytes n.toNat (by omega)
 have h3 := read_date n.toNat (by omega)
 have e : (dateB n).data.toList = dateL n.toNat := rfl
 refine ⟨txtOk_plain (fun c hc => ?_) ?_, ?_⟩
 · rw [e] at hc
   unfold plainC
   rcases h2 c hc with h | rfl | rfl | rfl
   · omega
   · decide
   · decide
   · decide
 · have : (dateB n).size = (dateL n.toNat).length := by simp [dateB, ByteArray.size]
   omega
 · rw [e, h3, Int.toNat_of_nonneg h.1]
theorem meta_back : ∀ (l acc : List PinV) (st : PS), l.all mayPin = true → metaG (l.map (·.name)) (l.map pinJ) st acc = (acc ++ l, st)
 | [], acc, st, _ => by simp [metaG]
 | p :: r, acc, st, h => by
   simp only [List.all_cons, Bool.and_eq_true] at h
   simp only [List.map_cons, metaG]
   rw [pin_back h.1, if_neg (by simp), meta_back r _ st h.2]
   simp
def metN_ (l : List PinV) : List NJ := l.map fun p => (p.name, pinJ p)
theorem metaJ_obj (l : List PinV) : metaJ l = objJ (metN_ l) := by simp [metaJ, objJ, metN_]
theorem json_plain : ∀ c ∈ json, plainC c := by unfold plainC json; decide
theorem file_txt {f : ByteArray} (h : (roleOf f).isSome = true) : txtOk f = true := by
 obtain ⟨r, hr⟩ := Option.isSome_iff_exists.1 h
 obtain ⟨h1, h2⟩ := role_name hr
 have hs := file_size h
 refine txtOk_plain (fun c hc => ?_) (by omega)
 rw [h2] at hc
 rcases List.mem_append.1 hc with hc | hc
 · exact (role_plain h1).1 c hc
 · exact json_plain c hc
theorem metaJ_ok {l : List PinV} (h : l.all mayPin = true) (hl : l.length ≤ 256) (hr : rises (l.map (·.name)) = true) : (metaJ l).partB = true ∧ (metaJ l).count ≤ 4097 ∧ (metaJ l).depth ≤ 3 := by
 have hp : ∀ q ∈ metN_ l, txtOk q.1 = true ∧ q.2.partB = true ∧ q.2.count ≤ 16 ∧ q.2.depth ≤ 2 := fun q hq => by
   obtain ⟨p, hpl, rfl⟩ := List.mem_map.1 hq
   have hm := List.all_eq_true.1 h p hpl
   obtain ⟨a, b, c⟩ := pinJ_ok hm
   exact ⟨file_txt (mayPin_parts hm).1, a, b, c⟩
 have e1 : (metN_ l).map (·.1) = l.map (·.name) := by simp [metN_]
 have e2 : (metN_ l).length = l.length := by simp [metN_]
 rw [metaJ_obj]
 refine ⟨objJ_part ⟨by rw [e1]; exact hr, fun q hq => ⟨(hp q hq).1, (hp q hq).2.1⟩⟩, ?_, objJ_depth 2 fun q hq => (hp q hq).2.2.2⟩
 have := objJ_count 16 fun q hq => (hp q hq).2.2.1
 omega
def snapM (s : SnapV) : List NJ := [(typN, txtJ snpN), (expN, txtJ (dateB s.exp)), (metN, metaJ s.pins), (verN, numJ s.ver)]
theorem snapJ_obj (s : SnapV) : snapJ s = objJ (snapM s) := rfl
theorem names_4 : rises [typN, expN, metN, verN] = true := by kernel_rfl
theorem snapJ_may {s : SnapV} (h : maySnap s = true) : (snapJ s).mayB = true := by
 obtain ⟨hv, he, hl, ha, hr⟩ := maySnap_parts.1 h
 obtain ⟨a, b, c⟩ := metaJ_ok ha hl hr
 obtain ⟨n1, n2, n3, n4, n5, n6, n7⟩ := names_txt
 have d1 := txtJ_cd snpN
 have d2 := txtJ_cd (dateB s.exp)
 have d3 := numJ_cd s.ver
 have hp : ∀ q ∈ snapM s, txtOk q.1 = true ∧ q.2.partB = true ∧ q.2.depth ≤ 3 := fun q hq => by
   simp only [snapM, List.mem_cons, List.not_mem_nil, or_false] at hq
   rcases hq with rfl | rfl | rfl | rfl
   · exact ⟨n4, txtJ_part n7, Nat.le_trans (Nat.le_of_eq d1.2) (by decide)⟩
   · exact ⟨n5, txtJ_part (date_txt he).1, Nat.le_trans (Nat.le_of_eq d2.2) (by decide)⟩
   · exact ⟨n6, a, c⟩
   · exact ⟨n3, numJ_part _, Nat.le_trans (Nat.le_of_eq d3.2) (by decide)⟩
 have h1 : (snapJ s).partB = true := by rw [snapJ_obj]; exact objJ_part ⟨names_4, fun q hq => ⟨(hp q hq).1, (hp q hq).2.1⟩⟩
 have h2 : (snapJ s).depth ≤ 4 := by rw [snapJ_obj]; exact objJ_depth 3 fun q hq => (hp q hq).2.2
 have h3 : (snapJ s).count ≤ 8192 := by
   rw [JV.count_eq]
   show 1 + JV.counts [txtJ snpN, txtJ (dateB s.exp), metaJ s.pins, numJ s.ver] ≤ _
   simp only [JV.counts, d1.1, d2.1, d3.1]
   omega
 rw [JV.mayB_iff, h1, decide_eq_true h3, decide_eq_true (by omega)]; rfl
theorem snapJ_look (s : SnapV) : (snapJ s).look typN = some (txtJ snpN) ∧ (snapJ s).look expN = some (txtJ (dateB s.exp)) ∧ (snapJ s).look metN = some (metaJ s.pins) ∧ (snapJ s).look verN = some (numJ s.ver) := by
 obtain ⟨_, _, a1, a2, a3, a4, a5, a6⟩ := names_ne
 have e : ∀ y, (snapJ s).look y = lookL [typN, expN, metN, verN] [txtJ snpN, txtJ (dateB s.exp), metaJ s.pins, numJ s.ver] y := fun _ => rfl
 refine ⟨?_, ?_, ?_, ?_⟩ <;> simp [e, lookL, a1, a2, a3, a4, a5, a6]
theorem pickText_ok {v : JV} {y t : ByteArray} {a : List ByteArray} (h : v.look y = some (txtJ t)) : pickText v y ⟨a, 0⟩ = (t, ⟨y :: a, 0⟩) := by
 unfold pickText
 rw [if_neg (by simp), h]
 show (if (3 : Int) = 3 then _ else _) = _
 rw [if_pos rfl]; rfl
theorem metaJ_pick {s : SnapV} (h : maySnap s = true) (a : List ByteArray) : pickObj (snapJ s) metN 256 ⟨a, 0⟩ = (metaJ s.pins, ⟨metN :: a, 0⟩) := by
 have hl := (maySnap_parts.1 h).2.2.1
 unfold pickObj
 rw [if_neg (by simp), (snapJ_look s).2.2.1]
 have h5 : (metaJ s.pins).items.length = s.pins.length := List.length_map ..
 show (if (metaJ s.pins).kind ≠ 5 then _ else if 256 < (metaJ s.pins).items.length then _ else _) = _
 rw [if_neg (by simp [metaJ, JV.kind]), if_neg (by omega)]
theorem snap_stM {s : SnapV} (h : maySnap s = true) : stB (snapJ s) = (s.ver, ⟨[verN, typN], 0⟩) ∧ stC (snapJ s) = (dateB s.exp, ⟨[expN, verN, typN], 0⟩) ∧ stR (snapJ s) = (s.exp, 0) ∧ stM (snapJ s) = (metaJ s.pins, ⟨[metN, expN, verN, typN], 0⟩) := by
 obtain ⟨hv, he, _, _, _⟩ := maySnap_parts.1 h
 obtain ⟨l1, l2, l3, l4⟩ := snapJ_look s
 have e1 : tyS (snapJ s) ⟨[], 0⟩ = ⟨[typN], 0⟩ := by
   unfold tyS
   rw [pickText_ok l1, if_neg (by simp)]
 have e2 : stB (snapJ s) = (s.ver, ⟨[verN, typN], 0⟩) := by
   unfold stB
   rw [e1]
   exact pickNum_ok l4 hv.1 hv.2
 have e3 : stC (snapJ s) = (dateB s.exp, ⟨[expN, verN, typN], 0⟩) := by
   unfold stC
   rw [e2]
   exact pickText_ok l2
 have e4 : stR (snapJ s) = (s.exp, 0) := by
   unfold stR
   rw [e3]
   exact (date_txt he).2
 refine ⟨e2, e3, e4, ?_⟩
 unfold stM
 rw [e3, e4]
 exact metaJ_pick h _
theorem snap_back {s : SnapV} (h : maySnap s = true) : snapOfK (snapJ s) = (s, 0) := by
 obtain ⟨b, c, r, m⟩ := snap_stM h
 have ha := (maySnap_parts.1 h).2.2.2.1
 have e1 : stG (snapJ s) = (s.pins, ⟨[metN, expN, verN, typN], 0⟩) := by
   unfold stG
   rw [m]
   exact meta_back s.pins [] _ ha
 have e2 : pickDone (snapJ s) (stG (snapJ s)).2 = 0 := by
   rw [e1]
   unfold pickDone
   rw [if_neg (by simp), if_pos]
   show [typN, expN, metN, verN].all _ = true
   simp
 unfold snapOfK
 rw [e2, if_neg (by decide), b, r, e1]
end Go.Proofs.YtgghgcilpfdbjaaGreatDoor

namespace Go.Proofs.YtgghgcilpfdbjaaGreatDoor
open Go.RowKit Go.Shelf Go.Sort
def valR (s : SnapV) : JV × Int := if maySnap s then (snapJ s, 0) else (zeroJ, 3)
theorem valR_wt {s : SnapV} : (valR s).1.wt ≤ 4294967296 := by
 unfold valR
 split
 · rename_i h
   obtain ⟨_, he, hl, ha, _⟩ := maySnap_parts.1 h
   have h1 := metaJ_wt ha hl
   have h2 := dateL_short s.exp.toNat (by omega)
   have h3 : ((⟨(dateL s.exp.toNat).toArray⟩ : ByteArray)).size ≤ 1000 := by simpa [ByteArray.size] using h2
   show (snapJ s).wt ≤ _
   have e1 : (snapJ s).wt = 1 + 0 + bytesSum [typN, expN, metN, verN] + ((txtJ snpN).wt + ((txtJ ⟨(dateL s.exp.toNat).toArray⟩).wt + ((metaJ s.pins).wt + ((numJ s.ver).wt + 0)))) := by
     rw [JV.wt_eq]
     show 1 + 0 + bytesSum [typN, expN, metN, verN] + JV.wts [txtJ snpN, txtJ ⟨(dateL s.exp.toNat).toArray⟩, metaJ s.pins, numJ s.ver] = _
     simp only [JV.wts]
   rw [e1]
   have e2 : (txtJ snpN).wt ≤ 100 := by decide
   have e3 : (txtJ ⟨(dateL s.exp.toNat).toArray⟩).wt ≤ 2000 := by simp [txtJ, JV.wt, JV.wts, bytesSum]; omega
   have e4 : (numJ s.ver).wt ≤ 10 := by simp [numJ, JV.wt, JV.wts, bytesSum, ByteArray.size]
   have e5 : bytesSum [typN, expN, metN, verN] ≤ 100 := by decide
   omega
 · decide
theorem tells_bool {T : Type} {x y : T} {w : World} {e : Ending} {w' : World} {b : Bool} (hb : b = true ↔ x = y) (h : TellsEq x y w e w') : e = .returned (.bool b) ∧ Below w.heap.size w w' := by
 obtain ⟨b', h1, h2, h3⟩ := h
 have : b' = b := by rw [Bool.eq_iff_iff, h2, hb]
 exact ⟨by rw [h1, this], h3⟩
theorem encP_len (p : PinV) : (encP p).length = 4 := rfl
theorem flatP_get (l : List PinV) (i c : Nat) (hi : i < l.length) (hc : c < 4) : (l.flatMap encP)[i * 4 + c]? = some ((encP l[i])[c]'(by rw [encP_len]; exact hc)) := by
 induction l generalizing i with
 | nil => simp at hi
 | cons v r ih =>
   rw [List.flatMap_cons]
   rcases i with _ | i
   · rw [List.getElem?_append_left (by rw [encP_len]; omega)]
     simp
   · rw [List.getElem?_append_right (by rw [encP_len]; omega), encP_len]
     have := ih i (by simpa using hi)
     rw [show (i + 1) * 4 + c - 4 = i * 4 + c by omega]
     simpa using this
theorem owns_pins {W0 : Nat} {w : World} {a : Option Addr} {c : Nat} {l : List PinV} (h : w.ownsRow W0 36 4 (.slice a l.length c) l.length (l.flatMap encP)) (hz : ∀ p ∈ l, p.hs = []) : PinsAt w W0 w.heap.size a l := by
 have ho := h
 rcases h.2 with ⟨hv, h0⟩ | ⟨g, cap, cur, hv, hg, hh, hc, hm, hs, ht⟩
 · exact .inl (List.eq_nil_of_length_eq_zero h0)
 · simp only [Value.slice.injEq] at hv
   obtain ⟨rfl, -, rfl⟩ := hv
   refine .inr ⟨g, 0, rfl, hg, heap_lt hh, fun i hi => ?_⟩
   have cell : ∀ q (hq : q < 4), w.cell? ⟨g, 0 + i * 4 + q, none⟩ = some ((encP l[i])[q]'(by rw [encP_len]; exact hq)) := fun q hq => by
     have e : (⟨g, 0, none⟩ : Addr).add (i * 4 + q) = ⟨g, i * 4 + q, none⟩ := by unfold Addr.add; split <;> simp_all
     have := ho.cells (g := g) rfl _ _ (flatP_get l i q hi hq)
     rw [e] at this
     rw [show 0 + i * 4 + q = i * 4 + q by omega]; exact this
   have hn : l[i].hs = [] := hz _ (List.getElem_mem hi)
   refine ⟨cell 0 (by decide), cell 1 (by decide), cell 2 (by decide), none, 0, ?_, ?_, ?_⟩
   · rw [hn]; exact cell 3 (by decide)
   · rw [hn]; simp
   · rw [hn]; exact .inl rfl
theorem awOf0 (x : Value) (w : World) (lo : Nat) (hlo : 0 < lo) (hT : TabW w) (hR : Rep w lo w.heap.size (snapO snpN nineN exJ 1) x) :
   Calls Tryz.prog 34 #[x] w fun e w' => ∃ a c, e = .returned (.tuple #[.agg #[.int .i64 1, .int .i64 9, .slice a 1 c], .int .i64 0]) ∧ PinsAt w' w.heap.size w'.heap.size a [pinE] ∧ Below w.heap.size w w' := by
 refine (snapOf _ x w lo w.heap.size ex_wt0 hlo (Nat.le_refl _) hR ex_may0 rfl hT ex_meta0).mono ?_
 rintro e w' ⟨a, c, rfl, ho, hb⟩
 have e0 : snapOfJ (snapO snpN nineN exJ 1) = (⟨1, 9, [pinE]⟩, 0) := sn_0
 rw [e0] at ho ⊢
 exact ⟨a, c, rfl, owns_pins ho (fun p hp => by simp at hp; subst hp; rfl), hb⟩
theorem awOf (v : JV) (er : Int) (x : Value) (w : World) (lo : Nat) (hlo : 0 < lo) (hT : TabW w) (hw : v.wt ≤ 4294967296) (hm : v.mayB = true) (hk : v.kind = 5) (hM : SnapMeta v) (hz : snapOfJ v = (snapZ, er)) (hR : Rep w lo w.heap.size v x) :
   Calls Tryz.prog 34 #[x] w fun e w' => ∃ a c, e = .returned (.tuple #[.agg #[.int .i64 0, .int .i64 0, .slice a 0 c], .int .i64 er]) ∧ Below w.heap.size w w' := by
 refine (snapOf _ x w lo w.heap.size hw hlo (Nat.le_refl _) hR hm hk hT hM).mono ?_
 rintro e w' ⟨a, c, rfl, ho, hb⟩
 rw [hz] at ho ⊢
 exact ⟨a, c, rfl, hb⟩
theorem ex_made : PinsMade [pinE] := fun p hp ha hc w _ => by
 simp only [List.mem_singleton] at hp
 subst hp
 exact snapPinValue aJsN 2 7 ha hc w (by decide) sn_may.2
theorem awVal (a : Option Addr) (c : Nat) (w : World) (hP : PinsAt w 0 w.heap.size a [pinE]) (hT : TabW w) (hP10 : Pow10 w) :
   Calls Tryz.prog 15 #[.agg #[.int .i64 1, .int .i64 9, .slice a 1 c]] w fun e w' => ∃ an cn ai ci, e = .returned (.tuple #[.agg #[.int .u8 5, .int .i64 0, .string { data := #[] }, .slice an 4 cn, .slice ai 4 ci], .int .i64 0]) ∧
     Rep w' w.heap.size w'.heap.size (snapO snpN nineN exJ 1) (.agg #[.int .u8 5, .int .i64 0, .string { data := #[] }, .slice an 4 cn, .slice ai 4 ci]) ∧ Below w.heap.size w w' := by
 refine (snapValue 1 9 [pinE] a c w hP (fun p hp => by simp only [List.mem_singleton] at hp; subst hp; exact ex_fits) hT hP10 sn_may.1 ex_made (fun p hp => by simp only [List.mem_singleton] at hp; subst hp; exact ex_wtP.1) ex_wtP.2).mono ?_
 rintro e w' ⟨an, cn, ai, ci, rfl, hr, hb⟩
 have e0 : snapJ ⟨1, 9, [pinE]⟩ = snapO snpN nineN exJ 1 := sn_j
 rw [e0] at hr
 exact ⟨an, cn, ai, ci, rfl, hr, hb⟩
theorem awPinA (a : Option Addr) (c : Nat) (w : World) (hP : PinsAt w 0 w.heap.size a [pinE]) :
   Calls Tryz.prog 17 #[.agg #[.int .i64 1, .int .i64 9, .slice a 1 c], .string { data := #[97] }] w fun e w' => ∃ ha hc, e = .returned (.tuple #[.agg #[.string { data := #[97, 46, 106, 115, 111, 110] }, .int .i64 2, .int .i64 7, .slice ha 0 hc], .bool true]) ∧ Below w.heap.size w w' := by
 refine (snapPin 1 9 [pinE] { data := #[97] } a c w hP (by decide) (by decide) (fun p hp => by simp only [List.mem_singleton] at hp; subst hp; decide)).mono ?_
 rintro e w' ⟨ha, hc, rfl, hk, hb⟩
 rw [ex_pin.1] at hk ⊢
 exact ⟨ha, hc, rfl, hb⟩
theorem awPinB (a : Option Addr) (c : Nat) (w : World) (hP : PinsAt w 0 w.heap.size a [pinE]) :
   Calls Tryz.prog 17 #[.agg #[.int .i64 1, .int .i64 9, .slice a 1 c], .string { data := #[98] }] w fun e w' => ∃ ha hc, e = .returned (.tuple #[.agg #[.string { data := #[] }, .int .i64 0, .int .i64 0, .slice ha 0 hc], .bool false]) ∧ Below w.heap.size w w' := by
 refine (snapPin 1 9 [pinE] { data := #[98] } a c w hP (by decide) (by decide) (fun p hp => by simp only [List.mem_singleton] at hp; subst hp; decide)).mono ?_
 rintro e w' ⟨ha, hc, rfl, hk, hb⟩
 rw [ex_pin.2] at hk ⊢
 exact ⟨ha, hc, rfl, hb⟩
theorem awSame (a b : Option Addr) (c d : Nat) (w : World) (hA : PinsAt w 0 w.heap.size a [pinE]) (hB : PinsAt w 0 w.heap.size b [pinE]) :
   Calls Tryz.prog 24 #[.agg #[.int .i64 1, .int .i64 9, .slice a 1 c], .agg #[.int .i64 1, .int .i64 9, .slice b 1 d]] w fun r w' => r = .returned (.bool true) ∧ Below w.heap.size w w' :=
 ref23Same 1 9 [pinE] a b c d w hA hB (fun p hp => by simp only [List.mem_singleton] at hp; subst hp; exact ex_fits) (by decide)
theorem awSame0 (a b : Option Addr) (c d : Nat) (w : World) (hA : PinsAt w 0 w.heap.size a [pinE]) (hB : PinsAt w 0 w.heap.size b [pinE]) :
   Calls Tryz.prog 23 #[.agg #[.int .i64 1, .int .i64 9, .slice a 1 c], .agg #[.int .i64 1, .int .i64 9, .slice b 1 d]] w fun r w' => r = .returned (.bool true) ∧ Below w.heap.size w w' :=
 snapSame0 1 9 [pinE] a b c d w hA hB (fun p hp => by simp only [List.mem_singleton] at hp; subst hp; rfl) (by decide)
theorem awMay (a : Option Addr) (c : Nat) (w : World) (hP : PinsAt w 0 w.heap.size a [pinE]) (hT : TabW w) (hP10 : Pow10 w) :
   Calls Tryz.prog 21 #[.agg #[.int .i64 1, .int .i64 9, .slice a 1 c]] w fun r w' => r = .returned (.bool true) ∧ Below w.heap.size w w' := by
 have h := snapMay 1 9 [pinE] a c w hP (by decide) (fun p hp => by simp only [List.mem_singleton] at hp; subst hp; exact ex_fits) hT hP10
 have e : maySnap ⟨1, 9, [pinE]⟩ = true := sn_may.1
 rw [e] at h
 exact h
theorem awPins (a b : Option Addr) (c d : Nat) (w : World) :
   Calls Tryz.prog 20 #[.agg #[.string { data := #[97, 46, 106, 115, 111, 110] }, .int .i64 2, .int .i64 7, .slice a 0 c], .agg #[.string { data := #[97, 46, 106, 115, 111, 110] }, .int .i64 2, .int .i64 7, .slice b 0 d]] w fun e w' => e = .returned (.bool true) ∧ Below w.heap.size w w' :=
 ref23SamePin { data := #[97, 46, 106, 115, 111, 110] } 2 7 [] a b c d w (.inl rfl) (.inl rfl) (by decide)
theorem awMayPin (a : Option Addr) (c : Nat) (w : World) :
   Calls Tryz.prog 31 #[.agg #[.string { data := #[97, 46, 106, 115, 111, 110] }, .int .i64 2, .int .i64 7, .slice a 0 c]] w fun e w' => e = .returned (.bool true) ∧ Below w.heap.size w w' := by
 have h := snapMayPin aJsN 2 7 [] a c w (.inl rfl) (by decide) (by decide) (by simp)
 have e : mayPin ⟨aJsN, 2, 7, []⟩ = true := sn_may.2
 rw [e] at h
 exact h
theorem awRefSame (x y : Value) (w : World) (lo : Nat) (hx : Rep w lo w.heap.size (snapO snpN nineN exJ 1) x) (hy : Rep w lo w.heap.size (snapO snpN nineN exJ 1) y) :
   Calls Tryz.prog 19 #[x, y] w fun e w' => e = .returned (.bool true) ∧ Below w.heap.size w w' := by
 have h := refSame 4294967296 _ _ x y lo w.heap.size w ex_wt0 ex_wt0 (Nat.le_refl _) (Nat.le_refl _) hx hy
 rw [(JV.sameB_iff _ _).2 rfl] at h
 exact h
end Go.Proofs.YtgghgcilpfdbjaaGreatDoor
