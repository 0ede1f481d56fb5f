/- The contract of key.Of. -/
import Derived.Test.YtnlgmcapbbgelaaGreatDoorRb19
import Derived.Test.YtnlgmcapbbgelaaGreatDoorRb00
import Derived.Test.YtnlgmcapbbgelaaGreatDoorRb02
import Derived.Test.YtnlgmcapbbgelaaGreatDoorRb01
import Derived.Test.YtnlgmcapbbgelaaGreatDoorRb11
import Derived.Test.YtnlgmcapbbgelaaGreatDoorRb14
import Derived.Test.YtnlgmcapbbgelaaGreatDoorRb12
import Derived.Test.YtnlgmcapbbgelaaGreatDoorRb17
import Derived.Test.YtnlgmcapbbgelaaGreatDoorRb15
import Derived.Test.YtnlgmcapbbgelaaGreatDoorRb16

namespace Go.Proofs.YtnlgmcapbbgelaaGreatDoor
open Go.RowKit Go.WideMaps Go.Maps
def itemsErr (it : JV) (most : Nat) : Int := if it.kind ≠ 4 then 10 else if most < it.items.length then 5 else 0
def textsErr (it : JV) (most : Nat) : Int := if itemsErr it most ≠ 0 then itemsErr it most else if it.items.all (fun x => decide (x.kind = 3)) then 0 else 10
def textsL (it : JV) (most : Nat) : List ByteArray := if textsErr it most = 0 then it.items.map JV.t else []
theorem textsErr_ok {it : JV} {most : Nat} (e : textsErr it most = 0) : it.kind = 4 ∧ ¬ most < it.items.length ∧ it.items.all (fun x => decide (x.kind = 3)) = true := by
 unfold textsErr itemsErr at e
 by_cases h1 : it.kind = 4
 · by_cases h2 : most < it.items.length
   · simp [h1, h2] at e
   · cases h3 : it.items.all (fun x => decide (x.kind = 3)) with
     | true => exact ⟨h1, h2, rfl⟩
     | false => simp [h1, h2, h3] at e
 · simp [h1] at e
theorem textsErr_no {it : JV} {a : List ByteArray} {most : Nat} {X : List ByteArray × PS} (e : ¬ textsErr it most = 0) :
   (if it.kind ≠ 4 then ([], (⟨a, 10⟩ : PS)) else if most < it.items.length then ([], ⟨a, 5⟩) else if it.items.all (fun x => decide (x.kind = 3)) then X else ([], ⟨a, 10⟩)) = ([], ⟨a, textsErr it most⟩) := by
 unfold textsErr itemsErr at e ⊢
 by_cases h1 : it.kind = 4
 · by_cases h2 : most < it.items.length
   · simp [h1, h2]
   · cases h3 : it.items.all (fun x => decide (x.kind = 3)) with
     | true => simp [h1, h2, h3] at e
     | false => simp [h1, h2]
 · simp [h1]
theorem textsErr_items {it : JV} {most : Nat} (h : itemsErr it most ≠ 0) : textsErr it most = itemsErr it most := by unfold textsErr; rw [if_pos h]
set_option maxHeartbeats 1000000 in
set_option maxRecDepth 100000 in
theorem pickItems (it : JV) (most : Nat) (an' ai' : Option Addr) (cn' ci' : Nat) (w : World) :
   Calls Tryz.prog 209 #[.agg #[.int .u8 it.kind, .int .i64 it.n, .string it.t, .slice an' it.names.length cn', .slice ai' it.items.length ci'], .int .i64 most] w fun e w' => e = .returned (.tuple #[if itemsErr it most = 0 then .slice ai' it.items.length ci' else .slice none 0 0, .int .i64 (itemsErr it most)]) ∧ Below w.heap.size w w' := by
 have HB := Lib.hid (show Below w.heap.size w (w.alloc (.cells #[.int .u8 it.kind, .int .i64 it.n, .string it.t, .slice an' it.names.length cn', .slice ai' it.items.length ci'] 25)) from (Below.refl _ _).alloc (Nat.le_refl _) _)
 by_cases hk : it.kind = 4
 · by_cases h1 : most < it.items.length
   · have HV := Lib.hid (show itemsErr it most = 5 by unfold itemsErr; rw [if_neg (by simp [hk]), if_pos h1])
     rw [HV.out, if_neg (show ¬ (5 : Int) = 0 by decide)]
     rw [hk] at HB ⊢
     have h1' : decide ((most : Int) < (it.items.length : Int)) = true := by simpa using h1
     clear hk
     go_enter Tryz.func209, Tryz.ntmps209
     go_wp2
     go_ret2
     exact ⟨rfl, HB.out⟩
   · have HV := Lib.hid (show itemsErr it most = 0 by unfold itemsErr; rw [if_neg (by simp [hk]), if_neg h1])
     rw [HV.out, if_pos rfl]
     rw [hk] at HB ⊢
     have h1' : decide ((most : Int) < (it.items.length : Int)) = false := by simpa using h1
     clear hk
     go_enter Tryz.func209, Tryz.ntmps209
     go_wp2
     go_ret2
     exact ⟨rfl, HB.out⟩
 · have HV := Lib.hid (show itemsErr it most = 10 by unfold itemsErr; rw [if_pos hk])
   rw [HV.out, if_neg (show ¬ (10 : Int) = 0 by decide)]
   have hk' : (it.kind != 4) = true := by simpa using hk
   clear hk
   go_enter Tryz.func209, Tryz.ntmps209
   go_wp2
   go_ret2
   exact ⟨rfl, HB.out⟩
def TConvPost (it : JV) (most : Nat) (w : World) (e : Ending) (w' : World) : Prop :=
 ∃ a c, e = .returned (.tuple #[.slice a (textsL it most).length c, .int .i64 (textsErr it most)]) ∧ StrsAt w' w.heap.size w'.heap.size a (textsL it most) ∧ Below w.heap.size w w'
theorem tconv_bad {it : JV} {most : Nat} {w w' : World} {er : Int} (h : textsErr it most = er) (h0 : er ≠ 0) (hb : Below w.heap.size w w') : TConvPost it most w (.returned (.tuple #[.slice none 0 0, .int .i64 er])) w' := by
 unfold TConvPost textsL
 rw [h, if_neg h0]
 exact ⟨none, 0, rfl, .inl rfl, hb⟩
set_option maxHeartbeats 2000000 in
set_option maxRecDepth 100000 in
theorem textsConv (it : JV) (most p1 : Nat) (an' ai' : Option Addr) (cn' ci' lo : Nat) (w : World) (hN : it.wt ≤ 4294967296) (hR : Rep w lo w.heap.size it (.agg #[.int .u8 it.kind, .int .i64 it.n, .string it.t, .slice an' it.names.length cn', .slice ai' it.items.length ci'])) (c1 : w.cell? ⟨p1, 0, none⟩ = some (.int .i64 most)) :
   Calls Tryz.prog 208 #[.agg #[.int .u8 it.kind, .int .i64 it.n, .string it.t, .slice an' it.names.length cn', .slice ai' it.items.length ci'], .pointer (some ⟨p1, 0, none⟩)] w (TConvPost it most w) := by
 obtain ⟨an2, cn2, ai2, ci2, hx, -, -, -, h4⟩ := hR.parts
 simp only [Value.agg.injEq, Array.mk.injEq, List.cons.injEq, Value.slice.injEq, true_and, and_true] at hx
 obtain ⟨⟨rfl, rfl⟩, rfl, rfl⟩ := hx
 obtain ⟨W, hW⟩ : ∃ W, W = w.alloc (.cells #[.int .u8 it.kind, .int .i64 it.n, .string it.t, .slice an' it.names.length cn', .slice ai' it.items.length ci'] 25) := ⟨_, rfl⟩
 have hb : Below w.heap.size w W := by rw [hW]; exact (Below.refl _ _).alloc (Nat.le_refl _) _
 have d1 : W.cell? ⟨p1, 0, none⟩ = some (.int .i64 most) := by rw [hb.cell (World.block_lt_of_cell? w _ c1)]; exact c1
 have hx0 : W.heap[w.heap.size]? = some (.cells #[.int .u8 it.kind, .int .i64 it.n, .string it.t, .slice an' it.names.length cn', .slice ai' it.items.length ci'] 25 (0, 0)) := by rw [hW]; exact heap_alloc_new w _
 have HI := Lib.hid (pickItems it most an' ai' cn' ci' W)
 have HBW := Lib.hid hb
 have H4 := Lib.hid h4
 have HW := Lib.hid hW
 have HLN := Lib.hid (show it.items.length ≤ 4294967296 by have := it.wt_bd; omega)
 have x0 := box_cell hx0 (j := 0) rfl; have x1 := box_cell hx0 (j := 1) rfl; have x2 := box_cell hx0 (j := 2) rfl; have x3 := box_cell hx0 (j := 3) rfl; have x4 := box_cell hx0 (j := 4) rfl
 clear hb c1 hW h4 hR hx0 hN
 obtain ⟨nn, hnn⟩ : ∃ nn, nn = it.items.length := ⟨_, rfl⟩
 rw [← hnn] at HI HLN x4 ⊢
 rw [← hnn] at HW
 have HNN := Lib.hid hnn
 clear hnn
 by_cases hie : itemsErr it most = 0
 case neg =>
   have HV := Lib.hid (textsErr_items hie)
   obtain ⟨er, her⟩ : ∃ er, er = itemsErr it most := ⟨_, rfl⟩
   rw [if_neg hie, ← her] at HI
   rw [← her] at HV hie
   have h1 : (er != 0) = true := by simpa using hie
   have HNE := Lib.hid hie
   clear hie her
   go_enter Tryz.func208, Tryz.ntmps208
   go_upto_region 1 with fail
   rw [← HW.out]
   go_wp2_with fail
   refine HI.out.mono ?_
   rintro e w1 ⟨rfl, hb1⟩
   have HB1 := Lib.hid (HBW.out.trans (hb1.mono HBW.out.size))
   clear hb1
   go_wp2
   go_ret2
   exact tconv_bad HV.out HNE.out HB1.out
 have HV := Lib.hid (show textsErr it most = if it.items.all (fun x => decide (x.kind = 3)) then 0 else 10 by unfold textsErr; rw [if_neg (by simp [hie])])
 rw [if_pos hie, hie] at HI
 clear hie
 obtain ⟨i2, hi2, hx0, hx1, hx2⟩ := info_parts infoStr
 go_enter Tryz.func208, Tryz.ntmps208
 go_upto_region 1 with fail
 rw [← HW.out]
 go_wp2_with fail
 refine HI.out.mono ?_
 clear HI
 rintro e w1 ⟨rfl, hb1⟩
 have HB1 := Lib.hid (HBW.out.trans (hb1.mono HBW.out.size))
 clear hb1 HW x0 x1 x2 x3 x4 d1
 go_wp2
 go_loopw [7, 9, 21] (fun vs _ i wr => ∃ (k : Nat), k ≤ nn ∧ i = .int .i64 k ∧ (∀ j (h : j < it.items.length), j < k → it.items[j].kind = 3) ∧ wr.ownsRow w1.heap.size 9 1 vs k (((it.items.map JV.t).take k).map .string) ∧ Below w1.heap.size w1 wr) (fun _ _ i _ => nn - (intOf i).toNat)
 case atStart => exact ⟨0, by omega, rfl, fun j _ h => by omega, World.ownsRow_nil _ _ _ _, Below.refl _ _⟩
 case round =>
   obtain ⟨k, hk, rfl, hal, hown, hbel⟩ := hrel
   have hlk : ((it.items.map JV.t).take k).length = k := by rw [List.length_take, List.length_map, ← HNN.out]; omega
   obtain ⟨am, cm, hv0, -, -⟩ := owns_strs hown hlk.symm
   rw [hlk] at hv0
   subst hv0
   clear hlk
   have HB : Hid (Below w.heap.size w wr) := HB1.out.trans (hbel.mono HB1.out.size)
   have HBL := Lib.hid hbel
   have HO := Lib.hid hown
   have HAL := Lib.hid hal
   clear hal
   by_cases hlt : k < nn
   · have hlt' : k < it.items.length := by rw [← HNN.out]; exact hlt
     obtain ⟨b, off, an3, cn3, ai3, ci3, rfl, _, hbz, y0, y1, y2, y3, y4, _⟩ := (H4.out.below HB.out (Nat.le_refl _) (Nat.le_refl _) HB.out.size).get k hlt'
     have HTK := Lib.hid (show ((it.items.map JV.t).take (k + 1)).map Value.string = ((it.items.map JV.t).take k).map .string ++ [.string it.items[k].t] by rw [List.take_succ_eq_append_getElem (by simpa using hlt'), List.map_append]; simp)
     have HKA := Lib.hid (show it.items[k].kind ≠ 3 → it.items.all (fun x => decide (x.kind = 3)) = false from fun h => List.all_eq_false.2 ⟨it.items[k], List.getElem_mem _, by simpa using h⟩)
     have HKB := Lib.hid (show it.items[k].kind = 3 → ∀ j (h : j < it.items.length), j < k + 1 → it.items[j].kind = 3 from fun h j hj hjk => by
       rcases Nat.lt_succ_iff_lt_or_eq.1 hjk with h1 | h1
       · exact HAL.out j hj h1
       · subst h1; exact h)
     obtain ⟨vo, hvo⟩ : ∃ vo, vo = (Value.slice (some ⟨b, off, none⟩) nn ci') := ⟨_, rfl⟩
     clear vo hvo
     generalize it.items[k] = x at *
     have hz : w1.heap.size ≤ wr.heap.size := hbel.size
     obtain ⟨WX, hWX⟩ : ∃ WX, WX = wr.alloc (.cells #[.int .u8 x.kind, .int .i64 x.n, .string x.t, .slice an3 x.names.length cn3, .slice ai3 x.items.length ci3] 25) := ⟨_, rfl⟩
     have hbX : Below wr.heap.size wr WX := by rw [hWX]; exact (Below.refl _ _).alloc (Nat.le_refl _) _
     have hxX : WX.heap[wr.heap.size]? = some (.cells #[.int .u8 x.kind, .int .i64 x.n, .string x.t, .slice an3 x.names.length cn3, .slice ai3 x.items.length ci3] 25 (0, 0)) := by rw [hWX]; exact heap_alloc_new wr _
     have HBX := Lib.hid (HBL.out.trans (hbX.mono hz))
     have HOX := Lib.hid (owns_below HO.out hbX)
     have HBZ := Lib.hid (HB.out.trans (hbX.mono HB.out.size))
     have hzX : w1.heap.size ≤ WX.heap.size := by rw [hWX]; simp; omega
     have HWX := Lib.hid hWX
     have z0 : WX.cell? ⟨wr.heap.size, 0, none⟩ = some (.int .u8 x.kind) := box_cell hxX rfl
     have z2 : WX.cell? ⟨wr.heap.size, 2, none⟩ = some (.string x.t) := box_cell hxX rfl
     clear hbel hown hbX hxX hWX
     by_cases hk3 : x.kind = 3
     · have HK3 := Lib.hid (HKB.out hk3)
       have h3 : (x.kind != 3) = false := by simpa using hk3
       have hnb := HLN.out
       clear hk3 HKA HKB
       go_upto_region 8 with fail
       rw [← HWX.out]
       go_wp2_with (at_builtin; refine wpList_append_lies _ rfl (.tmp 28) (.tmp 31) 22 rfl w1.heap.size 9 i2 _ 1 16 Tryz.underlying22 hi2 hx0 hx1 hx2 rfl (by decide) (.slice am k cm) k (((it.items.map JV.t).take k).map .string) rfl (HOX.out.alloc _) ⟨WX.heap.size, 0, none⟩ 1 1 [.string x.t] rfl rfl (World.news_of_block (cs := #[.string x.t]) (t := 9) (fr := (0, 0)) (heap_alloc_new WX _)) (by simp [Value.oneCell']) (by omega) (by unfold maxLen; omega) (by omega) (by simp; omega) (WX.heap.size + 1) (by simp) ?_; intro g1 cap2 w6 hown6 hgrow6 hat6 hlt6; have HO6 := Lib.hid hown6; have HG6 := Lib.hid hgrow6; clear hown6 hgrow6 hat6)
       go_roundw
       case rel =>
         refine ⟨k + 1, by omega, by go_num, HK3.out, ?_, below_grown (HBX.out.alloc (by omega) _) (by simp; omega) HG6.out (fun b hb => (HOX.out.lt b hb).1)⟩
         rw [HTK.out]
         exact HO6.out
       case measure => simp [intOf]; omega
     · have HV2 := Lib.hid (show textsErr it most = 10 by rw [HV.out, HKA.out hk3]; rfl)
       have h3 : (x.kind != 3) = true := by simpa using hk3
       clear hk3 HKA HKB
       go_upto_region 8 with fail
       rw [← HWX.out]
       go_wp2
       go_ret2
       exact tconv_bad HV2.out (by decide) HBZ.out
   · obtain rfl : k = nn := by omega
     have HV2 := Lib.hid (show textsErr it most = 0 by
       rw [HV.out, if_pos]
       refine List.all_eq_true.2 fun x hx => ?_
       obtain ⟨j, hj, rfl⟩ := List.getElem_of_mem hx
       simpa using HAL.out j hj (by rw [HNN.out]; exact hj))
     have hlm : (it.items.map JV.t).length = k := by rw [List.length_map, HNN.out]
     rw [List.take_of_length_le (Nat.le_of_eq hlm)] at hown
     obtain ⟨a5, c5, hv6, _, hv5⟩ := owns_strs hown hlm.symm
     rw [hlm] at hv6
     simp only [Value.slice.injEq, true_and] at hv6
     obtain ⟨rfl, rfl⟩ := hv6
     have HV5 := Lib.hid hv5
     have HLM := Lib.hid hlm
     clear hown hv5 hbel hlm
     go_wp2
     go_ret2
     have e1 : textsL it most = it.items.map JV.t := by unfold textsL; rw [if_pos HV2.out]
     unfold TConvPost
     rw [e1, HV2.out, HLM.out]
     exact ⟨am, cm, rfl, HV5.out.carry HB1.out.size (Nat.le_refl _) (fun _ _ _ => rfl), HB.out⟩
def TextsPostP (o m lo hi : Nat) (v : JV) (an ai : Option Addr) (cn ci : Nat) (y : ByteArray) (most : Nat) (st : PS) (w : World) (e : Ending) (w' : World) : Prop :=
 (∃ a c, e = .returned (.slice a (pickTexts v y most st).1.length c) ∧ StrsAt w' w.heap.size w'.heap.size a (pickTexts v y most st).1) ∧ PickAt o m lo hi v an ai cn ci (pickTexts v y most st).2 w' ∧ Touch (fun b => b = o ∨ b = m) w w'
theorem textsPost0 {o m lo hi : Nat} {v : JV} {an ai : Option Addr} {cn ci : Nat} {y : ByteArray} {most : Nat} {st st' : PS} {w w' : World} (h : pickTexts v y most st = ([], st')) (hP : PickAt o m lo hi v an ai cn ci st' w') (hT : Touch (fun b => b = o ∨ b = m) w w') : TextsPostP o m lo hi v an ai cn ci y most st w (.returned (.slice none 0 0)) w' := by
 unfold TextsPostP
 rw [h]
 exact ⟨⟨none, 0, rfl, .inl rfl⟩, hP, hT⟩
set_option maxHeartbeats 2000000 in
set_option maxRecDepth 100000 in
theorem takeTexts (o m lo hi : Nat) (v : JV) (an ai : Option Addr) (cn ci : Nat) (y : ByteArray) (most : Nat) (st : PS) (w : World) (hP : PickAt o m lo hi v an ai cn ci st w) (hy : y.size ≤ 4294967296) (ha : st.asked.length ≤ 4294967296) (p1 : Nat) (g1 : w.heap[p1]? = some (.cells #[.int .i64 most] 3 (0, 0))) :
   Calls Tryz.prog 207 #[.pointer (some ⟨o, 0, none⟩), .string y, .func (.func 208) #[] #[.pointer (some ⟨p1, 0, none⟩)]] w (TextsPostP o m lo hi v an ai cn ci y most st w) := by
 have HP := Lib.hid hP
 have HG1 := Lib.hid g1
 clear hP g1
 have c6 : w.cell? ⟨o, 6, none⟩ = some (.int .i64 st.err) := box_cell HP.out.obj rfl
 have c0 : w.cell? ⟨o, 0, none⟩ = some (.int .u8 5) := (box_cell (j := 0) HP.out.obj rfl).trans (by rw [HP.out.kind]; rfl)
 by_cases he : st.err = 0
 · rw [he] at c6
   have HE := Lib.hid he
   clear he
   have c1 : w.cell? ⟨o, 1, none⟩ = some (.int .i64 v.n) := box_cell HP.out.obj rfl
   have c2 : w.cell? ⟨o, 2, none⟩ = some (.string v.t) := box_cell HP.out.obj rfl
   have c3 : w.cell? ⟨o, 3, none⟩ = some (.slice an v.names.length cn) := box_cell HP.out.obj rfl
   have c4 : w.cell? ⟨o, 4, none⟩ = some (.slice ai v.items.length ci) := box_cell HP.out.obj rfl
   have HR := Lib.hid HP.out.rep
   rw [HP.out.kind] at HR
   have HG := Lib.hid (valueGet v y _ w lo hi HP.out.wt HP.out.pos HP.out.le HR.out HP.out.kind HP.out.rise HP.out.len)
   go_enter Tryz.func207, Tryz.ntmps207
   go_wp2_with fail
   refine (pickErr o 0 5 w c6 c0 (fun _ => rfl)).mono ?_
   rintro r w' ⟨rfl, rfl⟩
   go_wp2_with fail
   refine HG.out.mono ?_
   clear HG c0 c1 c2 c3 c4 c6
   rintro e w1 ⟨hh, hb1⟩
   have HB1 := Lib.hid hb1
   clear hb1
   rcases hh with ⟨r, hr1, hr2, hre, an', cn', ai', ci', rfl, hrep⟩ | ⟨hno, rfl⟩
   · have HL := Lib.hid (look_some HP.out.rise r hr1 hr2 hre)
     have HREP := Lib.hid hrep
     have HWT := Lib.hid (show v.items[r].wt ≤ 4294967296 by have h1 := JV.wts_get v.items r hr2; have h2 := v.wt_bd; have h3 := HP.out.wt; omega)
     clear hre hrep
     generalize v.items[r] = it at *
     have hb2 : Below w.heap.size w (w1.alloc (.cells #[.int .u8 it.kind, .int .i64 it.n, .string it.t, .slice an' it.names.length cn', .slice ai' it.items.length ci'] 25)) := HB1.out.alloc HB1.out.size _
     have HB2 := Lib.hid hb2
     have HC := Lib.hid (textsConv it most p1 an' ai' cn' ci' w.heap.size (w1.alloc (.cells #[.int .u8 it.kind, .int .i64 it.n, .string it.t, .slice an' it.names.length cn', .slice ai' it.items.length ci'] 25)) HWT.out (HREP.out.below ((Below.refl _ _).alloc (Nat.le_refl _) _) (Nat.le_refl _) (Nat.le_refl _) (by simp)) (box_cell ((hb2.block _ (heap_lt HG1.out)).trans HG1.out) rfl))
     clear hb2
     unfold TConvPost at HC
     by_cases hk : textsErr it most = 0
     · have HX := Lib.hid (show pickTexts v y most st = (it.items.map JV.t, ⟨y :: st.asked, 0⟩) by unfold pickTexts; rw [if_neg (by simp [HE.out]), HL.out]; obtain ⟨q1, q2, q3⟩ := textsErr_ok hk; simp only; rw [if_neg (by simp [q1]), if_neg q2, if_pos q3])
       rw [show textsL it most = it.items.map JV.t by unfold textsL; rw [if_pos hk], hk] at HC
       clear hk
       obtain ⟨L, hL⟩ : ∃ L, L = it.items.map JV.t := ⟨_, rfl⟩
       rw [← hL] at HC HX
       clear hL
       go_wp2_with fail
       refine HC.out.mono ?_
       clear HC
       rintro e w2 ⟨al, cl, rfl, hsl, hb3⟩
       have HB3 := Lib.hid (HB2.out.trans (hb3.mono HB2.out.size))
       have HP3 := Lib.hid (HP.out.below HB3.out)
       have HSL := Lib.hid hsl
       have HZL := Lib.hid (show w.heap.size < (w1.alloc (.cells #[.int .u8 it.kind, .int .i64 it.n, .string it.t, .slice an' it.names.length cn', .slice ai' it.items.length ci'] 25)).heap.size from by have := HB1.out.size; simp; omega)
       have HMZ := Lib.hid (show m < w.heap.size from by obtain ⟨D, n, h, _⟩ := HP.out.map; exact h.lt)
       clear hb3 HB2 hsl
       have d5 : w2.cell? ⟨o, 5, none⟩ = some (.map (some m)) := box_cell HP3.out.obj rfl
       have hkey : Go.keyOf Tryz.prog 9 (.string y) = some (.string y.data.toList) := keyOf_string_mk Tryz.underlying9 (by unfold maxLen; omega)
       obtain ⟨D, n, hown, hn, hD⟩ := HP3.out.map
       obtain ⟨c, hat, hc0, hc1, hc2⟩ := hD.2 y
       obtain ⟨c', hrun, hat', _⟩ := hown.lookup_int lawStr Tryz.underlying124 Tryz.underlying3 (zeroInt _) hkey
       rw [hat] at hat'
       simp only [DataW.lit.injEq, Lit.int.injEq, true_and] at hat'
       subst hat'
       have HD := Lib.hid (hD.cons y c hat)
       have HKY := Lib.hid hkey
       have HOW := Lib.hid hown
       clear hD hat hc2 hkey hown
       go_wp2_with (at_mapUpdate; refine wpList_mapUpdate_own _ rfl _ _ _ 124 rfl 9 3 lawStr Tryz.underlying124 _ m n D rfl HOW.out (by unfold maxLen; omega) _ _ _ rfl rfl HKY.out _ [] (plainElem_int Tryz.underlying3 (WalkArith.wf_i64 (by omega))) ?_)
       intro w3 hown3 hgrow3
       have HP4 := Lib.hid (HP3.out.ask y hgrow3 hown3 (by omega) HD.out)
       have HT := Lib.hid (show Touch (fun b => b = o ∨ b = m) w w3 from ⟨by rw [hgrow3.os, HB3.out.os], by rw [hgrow3.tape, HB3.out.tape], by rw [hgrow3.output, HB3.out.output], Nat.le_trans HB3.out.size hgrow3.size, fun k hk hs => by rw [hgrow3.block k (Nat.lt_of_lt_of_le hk HB3.out.size) (fun e => hs (.inr (Option.some.inj e))), HB3.out.block k hk]⟩)
       have HS3 := Lib.hid (show StrsAt w3 w.heap.size w3.heap.size al L from HSL.out.carry (Nat.le_of_lt HZL.out) hgrow3.size fun b h1 h2 => hgrow3.block b h2 (fun e => by have := Option.some.inj e; have := HZL.out; have := HMZ.out; omega))
       clear hgrow3 hown3
       rw [HE.out] at HP4
       go_wp2
       go_ret
       unfold TextsPostP
       rw [HX.out]
       exact ⟨⟨al, cl, rfl, HS3.out⟩, HP4.out, HT.out⟩
     · have HX := Lib.hid (show pickTexts v y most st = ([], ⟨st.asked, textsErr it most⟩) by unfold pickTexts; rw [if_neg (by simp [HE.out]), HL.out]; exact textsErr_no hk)
       rw [show textsL it most = [] by unfold textsL; rw [if_neg hk]] at HC
       obtain ⟨er, her⟩ : ∃ er, er = textsErr it most := ⟨_, rfl⟩
       rw [← her] at HC HX hk
       have hk' : (er != 0) = true := by simpa using hk
       have hk2 : (er == 0) = false := by simpa using hk
       clear hk her
       go_wp2_with fail
       refine HC.out.mono ?_
       clear HC
       rintro e w2 ⟨al, cl, rfl, -, hb3⟩
       have HB3 := Lib.hid (HB2.out.trans (hb3.mono HB2.out.size))
       have HP3 := Lib.hid (HP.out.below HB3.out)
       clear hb3 HB2
       have d6 : w2.cell? ⟨o, 6, none⟩ = some (.int .i64 0) := (box_cell (j := 6) HP3.out.obj rfl).trans (by rw [HE.out]; rfl)
       have d0 : w2.cell? ⟨o, 0, none⟩ = some (.int .u8 5) := (box_cell (j := 0) HP3.out.obj rfl).trans (by rw [HP.out.kind]; rfl)
       have d7 : w2.frozen? ⟨o, 6, none⟩ = false := by simp [World.frozen?, HP3.out.obj]
       go_wp2_with fail
       refine (pickFail o er _ d6 d0 d7).mono ?_
       clear d6 d0 d7
       rintro e w3 ⟨rfl, rfl⟩
       have HP4 := Lib.hid (HP3.out.fail er)
       have HT := Lib.hid (show Touch (fun b => b = o ∨ b = m) w (w2.setCell ⟨o, 6, none⟩ (.int .i64 er)) from (Touch.of_below HB3.out (Nat.le_refl _)).setCell (.inl (.inl rfl)) _)
       go_wp2
       go_ret
       exact textsPost0 HX.out HP4.out HT.out
   · have HX := Lib.hid (show pickTexts v y most st = ([], ⟨st.asked, 6⟩) by unfold pickTexts; rw [if_neg (by simp [HE.out]), show v.look y = none from lookL_none _ _ _ hno])
     unfold zeroAgg
     have HB3 := Lib.hid (show Below w.heap.size w (w1.alloc (.cells #[.int .u8 0, .int .i64 0, .string { data := #[] }, .slice none 0 0, .slice none 0 0] 25)) from HB1.out.alloc HB1.out.size _)
     have HP3 := Lib.hid (HP.out.below HB3.out)
     clear hno HB1
     have d6 : (w1.alloc (.cells #[.int .u8 0, .int .i64 0, .string { data := #[] }, .slice none 0 0, .slice none 0 0] 25)).cell? ⟨o, 6, none⟩ = some (.int .i64 0) := (box_cell (j := 6) HP3.out.obj rfl).trans (by rw [HE.out]; rfl)
     have d0 : (w1.alloc (.cells #[.int .u8 0, .int .i64 0, .string { data := #[] }, .slice none 0 0, .slice none 0 0] 25)).cell? ⟨o, 0, none⟩ = some (.int .u8 5) := (box_cell (j := 0) HP3.out.obj rfl).trans (by rw [HP.out.kind]; rfl)
     have d7 : (w1.alloc (.cells #[.int .u8 0, .int .i64 0, .string { data := #[] }, .slice none 0 0, .slice none 0 0] 25)).frozen? ⟨o, 6, none⟩ = false := by simp [World.frozen?, HP3.out.obj]
     go_wp2_with fail
     refine (pickFail o 6 _ d6 d0 d7).mono ?_
     clear d6 d0 d7
     rintro e w3 ⟨rfl, rfl⟩
     have HP4 := Lib.hid (HP3.out.fail 6)
     have HT := Lib.hid (show Touch (fun b => b = o ∨ b = m) w ((w1.alloc (.cells #[.int .u8 0, .int .i64 0, .string { data := #[] }, .slice none 0 0, .slice none 0 0] 25)).setCell ⟨o, 6, none⟩ (.int .i64 6)) from (Touch.of_below HB3.out (Nat.le_refl _)).setCell (.inl (.inl rfl)) _)
     go_wp2
     go_ret
     exact textsPost0 HX.out HP4.out HT.out
 · have he' : (st.err == 0) = false := by simpa using he
   have he2 : (st.err != 0) = true := by simpa using he
   have HX := Lib.hid (show pickTexts v y most st = ([], st) by unfold pickTexts; rw [if_pos he])
   have HE := Lib.hid he
   clear he
   go_enter Tryz.func207, Tryz.ntmps207
   go_wp2_with fail
   refine (pickErr o st.err 5 w c6 c0 (fun _ => rfl)).mono ?_
   rintro r w' ⟨rfl, rfl⟩
   go_wp2
   go_ret
   exact textsPost0 HX.out HP.out (Touch.refl _ _)
set_option maxHeartbeats 1000000 in
set_option maxRecDepth 100000 in
theorem textsG {o m lo hi : Nat} {v : JV} {an ai : Option Addr} {cn ci : Nat} {st : PS} {w : World} (y : ByteArray) (most : Nat) (h : PickG o m lo hi v an ai cn ci st w) (hy : y.size ≤ 4294967296) (ha : st.asked.length ≤ 4294967296) :
   Calls Tryz.prog 173 #[.pointer (some ⟨o, 0, none⟩), .string y, .int .i64 most] w fun e w' => (∃ a c, e = .returned (.slice a (pickTexts v y most st).1.length c) ∧ StrsAt w' w.heap.size w'.heap.size a (pickTexts v y most st).1) ∧ LeftG o m lo hi v an ai cn ci (pickTexts v y most st).2 w w' := by
 have hb : Below w.heap.size w (w.alloc (.cells #[.int .i64 most] 3)) := (Below.refl _ _).alloc (Nat.le_refl _) _
 have HT := Lib.hid (show Calls Tryz.prog 207 #[.pointer (some ⟨o, 0, none⟩), .string y, .func (.func 208) #[] #[.pointer (some ⟨w.heap.size, 0, none⟩)]] (w.alloc (.cells #[.int .i64 most] 3)) (fun e w' => (∃ a c, e = .returned (.slice a (pickTexts v y most st).1.length c) ∧ StrsAt w' w.heap.size w'.heap.size a (pickTexts v y most st).1) ∧ LeftG o m lo hi v an ai cn ci (pickTexts v y most st).2 w w') by
   have hT0 : Touch (fun b => b = o ∨ b = m) w (w.alloc (.cells #[.int .i64 most] 3)) := Touch.of_below hb (Nat.le_refl _)
   rcases h with h | ⟨⟨h1, c6, k, c0⟩, h2, h3, h4⟩
   · refine (takeTexts o m lo hi v an ai cn ci y most st _ (h.below hb) hy ha w.heap.size (heap_alloc_new w _)).mono ?_
     rintro e w' ⟨⟨a, c, e1, e2⟩, e3, e4⟩
     exact ⟨⟨a, c, e1, e2.carry hb.size (Nat.le_refl _) (fun _ _ _ => rfl)⟩, .inl e3, hT0.trans (e4.mono fun _ _ h => h)⟩
   · obtain ⟨W2, hW2⟩ : ∃ W2, W2 = w.alloc (.cells #[.int .i64 most] 3) := ⟨_, rfl⟩
     rw [← hW2] at hb hT0 ⊢
     have HPB := Lib.hid (show PickG o m lo hi v an ai cn ci st W2 from (PickG.below (.inr ⟨⟨h1, c6, k, c0⟩, h2, h3, h4⟩) hb))
     have e6 : W2.cell? ⟨o, 6, none⟩ = some (.int .i64 st.err) := by rw [hb.cell h2]; exact c6
     have e0 : W2.cell? ⟨o, 0, none⟩ = some (.int .u8 k) := by rw [hb.cell h2]; exact c0
     have he' : (st.err == 0) = false := by simpa using h1
     have he2 : (st.err != 0) = true := by simpa using h1
     have HE := Lib.hid h1
     have HT0 := Lib.hid hT0
     have HX := Lib.hid (show pickTexts v y most st = ([], st) by unfold pickTexts; rw [if_pos h1])
     clear h1 c6 c0 hW2 hb hT0
     go_enter Tryz.func207, Tryz.ntmps207
     go_wp2_with fail
     refine (pickErr o st.err k W2 e6 e0 (fun h => absurd h HE.out)).mono ?_
     rintro r w' ⟨rfl, h'⟩
     subst h'
     go_wp2
     go_ret
     rw [HX.out]
     exact ⟨⟨none, 0, rfl, .inl rfl⟩, HPB.out, HT0.out⟩)
 clear h hb
 obtain ⟨R, hR⟩ : ∃ R, R = pickTexts v y most st := ⟨_, rfl⟩
 rw [← hR] at HT ⊢
 clear hR
 go_enter Tryz.func173, Tryz.ntmps173
 go_wp2_with fail
 refine HT.out.mono ?_
 rintro e w' ⟨⟨a, c, rfl, h1⟩, h2⟩
 have H1 := Lib.hid h1
 have H2 := Lib.hid h2
 clear h1 h2
 go_wp2
 go_ret
 exact ⟨⟨a, c, rfl, H1.out⟩, H2.out⟩
end Go.Proofs.YtnlgmcapbbgelaaGreatDoor

namespace Go.Proofs.YtnlgmcapbbgelaaGreatDoor
open Go.RowKit
structure RootV where
 ver : Int
 exp : Int
 keys : List Key2
 au : Auth3
deriving DecidableEq
def rootZ : RootV := ⟨0, 0, [], auth3Z⟩
def keysN : ByteArray := { data := #[107, 101, 121, 115] }
def rolN : ByteArray := { data := #[114, 111, 108, 101, 115] }
def mayKeys (l : List Key2) : Bool := decide (l.length ≤ 32) && l.all ok2 && rises (ids l)
def mayRoot (r : RootV) : Bool := decide (1 ≤ r.ver ∧ r.ver ≤ 1099511627776) && decide (0 ≤ r.exp ∧ r.exp ≤ 253402300799) && mayKeys r.keys && may3 r.au
def rootM (r : RootV) : List NJ := [(typN, txtJ rootN), (expN, txtJ (dateB r.exp)), (keysN, tabJ r.keys), (rolN, rolesJ r.au), (verN, numJ r.ver)]
def rootJ (r : RootV) : JV := objJ (rootM r)
def rolesOfA (v : JV) : Auth3 × Int := if v.kind ≠ 5 then (auth3Z, 10) else rolesOfK v
def rtT (v : JV) : PS := if (pickText v typN ⟨[], 0⟩).1 ≠ rootN then (pickText v typN ⟨[], 0⟩).2.fail 13 else (pickText v typN ⟨[], 0⟩).2
def rtB (v : JV) : Int × PS := pickNum v verN 1 1099511627776 (rtT v)
def rtC (v : JV) : ByteArray × PS := pickText v expN (rtB v).2
def rtR (v : JV) : Int × Int := readD (rtC v).1.data.toList
def rtK (v : JV) : JV × PS := pickObj v keysN 32 ((rtC v).2.fail (rtR v).2)
def rtL (v : JV) : List Key2 × Int := keysJ (rtK v).1
def rtO (v : JV) : JV × PS := pickObj v rolN 8192 ((rtK v).2.fail (rtL v).2)
def rtA (v : JV) : Auth3 × Int := rolesOfA (rtO v).1
def rtF (v : JV) : PS := (rtO v).2.fail (rtA v).2
def rootOfK (v : JV) : RootV × Int := if pickDone v (rtF v) ≠ 0 then (rootZ, pickDone v (rtF v)) else (⟨(rtB v).1, (rtR v).1, (rtL v).1, (rtA v).1⟩, 0)
def rootOfA (v : JV) : RootV × Int := if v.mayB = false then (rootZ, 3) else if v.kind ≠ 5 then (rootZ, 10) else rootOfK v
theorem root_names : rises [typN, expN, keysN, rolN, verN] = true ∧ (txtOk typN = true ∧ txtOk expN = true ∧ txtOk keysN = true ∧ txtOk rolN = true ∧ txtOk verN = true) ∧ (typN ≠ expN ∧ typN ≠ keysN ∧ typN ≠ rolN ∧ typN ≠ verN ∧ expN ≠ keysN ∧ expN ≠ rolN ∧ expN ≠ verN ∧ keysN ≠ rolN ∧ keysN ≠ verN ∧ rolN ≠ verN) := by
 refine ⟨by kernel_rfl, ⟨?_, ?_, ?_, ?_, ?_⟩, by decide⟩
 all_goals
   refine txtOk_plain ?_ (by decide)
   intro c hc
   unfold plainC
   revert c
   decide
theorem mayKeys_parts {l : List Key2} : mayKeys l = true ↔ l.length ≤ 32 ∧ (∀ k ∈ l, ok2 k = true) ∧ rises (ids l) = true := by
 unfold mayKeys
 simp only [Bool.and_eq_true, decide_eq_true_eq, List.all_eq_true]
 exact ⟨fun h => ⟨h.1.1, h.1.2, h.2⟩, fun h => ⟨⟨h.1, h.2.1⟩, h.2.2⟩⟩
theorem mayRoot_parts {r : RootV} : mayRoot r = true ↔ (1 ≤ r.ver ∧ r.ver ≤ 1099511627776) ∧ (0 ≤ r.exp ∧ r.exp ≤ 253402300799) ∧ mayKeys r.keys = true ∧ may3 r.au = true := by
 unfold mayRoot
 simp only [Bool.and_eq_true, decide_eq_true_eq]
 exact ⟨fun h => ⟨h.1.1.1, h.1.1.2, h.1.2, h.2⟩, fun h => ⟨⟨⟨h.1, h.2.1⟩, h.2.2.1⟩, h.2.2.2⟩⟩
theorem tabJ_ok {l : List Key2} (h : mayKeys l = true) : (tabJ l).partB = true ∧ (tabJ l).count ≤ 130 ∧ (tabJ l).depth ≤ 3 := by
 obtain ⟨h1, h2, h3⟩ := mayKeys_parts.1 h
 refine ⟨may_part (tabJ_may h2 h3 h1), ?_, ?_⟩
 · rw [JV.count_eq]
   have := counts_le 3 (l.map obj2) fun x hx => by obtain ⟨k, _, rfl⟩ := List.mem_map.1 hx; exact Nat.le_refl 3
   rw [List.length_map] at this
   show 1 + JV.counts (l.map obj2) ≤ _
   omega
 · rw [JV.depth_eq]
   have := depths_le2 1 (l.map obj2) fun x hx => by obtain ⟨k, _, rfl⟩ := List.mem_map.1 hx; exact Nat.le_refl 1
   rw [if_neg (by simp [tabJ, JV.kind])]
   show JV.depths (l.map obj2) + 1 ≤ _
   omega
theorem rootN_txt : txtOk rootN = true := roles_names.2.1.1
theorem rootM_ok {r : RootV} (h : mayRoot r = true) : ∀ p ∈ rootM r, txtOk p.1 = true ∧ p.2.partB = true ∧ p.2.count ≤ 130 ∧ p.2.depth ≤ 3 := fun p hp => by
 obtain ⟨_, he, hk, ha⟩ := mayRoot_parts.1 h
 obtain ⟨r0, ⟨n1, n2, n3, n4, n5⟩, -⟩ := root_names
 simp only [rootM, List.mem_cons, List.not_mem_nil, or_false] at hp
 have t1 := txtJ_cd rootN
 have t2 := txtJ_cd (dateB r.exp)
 have t3 := numJ_cd r.ver
 rcases hp with rfl | rfl | rfl | rfl | rfl
 · exact ⟨n1, txtJ_part rootN_txt, Nat.le_trans (Nat.le_of_eq t1.1) (by decide), Nat.le_trans (Nat.le_of_eq t1.2) (by decide)⟩
 · exact ⟨n2, txtJ_part (date_txt he).1, Nat.le_trans (Nat.le_of_eq t2.1) (by decide), Nat.le_trans (Nat.le_of_eq t2.2) (by decide)⟩
 · exact ⟨n3, tabJ_ok hk⟩
 · exact ⟨n4, rolesJ_ok ha⟩
 · exact ⟨n5, numJ_part _, Nat.le_trans (Nat.le_of_eq t3.1) (by decide), Nat.le_trans (Nat.le_of_eq t3.2) (by decide)⟩
theorem few_may {N : List NJ} (hr : rises (N.map (·.1)) = true) (hl : N.length ≤ 6) (hp : ∀ p ∈ N, txtOk p.1 = true ∧ p.2.partB = true ∧ p.2.count ≤ 130 ∧ p.2.depth ≤ 3) : (objJ N).mayB = true := by
 have h1 := objJ_part ⟨hr, fun p h => ⟨(hp p h).1, (hp p h).2.1⟩⟩
 have h2 := objJ_count 130 fun p h => (hp p h).2.2.1
 have h3 := objJ_depth 3 fun p h => (hp p h).2.2.2
 have h4 : N.length * 130 ≤ 6 * 130 := Nat.mul_le_mul_right _ hl
 rw [JV.mayB_iff, h1, decide_eq_true (by omega), decide_eq_true (by omega)]; rfl
theorem rootJ_may {r : RootV} (h : mayRoot r = true) : (rootJ r).mayB = true := by
 exact few_may root_names.1 (by show 5 ≤ 6; decide) (rootM_ok h)
theorem rootJ_look (r : RootV) : (rootJ r).look typN = some (txtJ rootN) ∧ (rootJ r).look expN = some (txtJ (dateB r.exp)) ∧ (rootJ r).look keysN = some (tabJ r.keys) ∧ (rootJ r).look rolN = some (rolesJ r.au) ∧ (rootJ r).look verN = some (numJ r.ver) := by
 obtain ⟨a1, a2, a3, a4, a5, a6, a7, a8, a9, a10⟩ := root_names.2.2
 have e : ∀ y, (rootJ r).look y = lookL [typN, expN, keysN, rolN, verN] [txtJ rootN, txtJ (dateB r.exp), tabJ r.keys, rolesJ r.au, numJ r.ver] y := fun _ => rfl
 refine ⟨?_, ?_, ?_, ?_, ?_⟩ <;> simp [e, lookL, a1, a2, a3, a4, a5, a6, a7, a8, a9, a10]
theorem pickObj_ok {v it : JV} {y : ByteArray} {most : Nat} {a : List ByteArray} (h : v.look y = some it) (hk : it.kind = 5) (hl : it.items.length ≤ most) : pickObj v y most ⟨a, 0⟩ = (it, ⟨y :: a, 0⟩) := by
 unfold pickObj
 rw [if_neg (by simp), h]
 show (if it.kind ≠ 5 then _ else if most < it.items.length then _ else _ : JV × PS) = _
 rw [if_neg (by simp [hk]), if_neg (by omega)]
theorem root_back {r : RootV} (h : mayRoot r = true) : rootOfK (rootJ r) = (r, 0) := by
 obtain ⟨hv, he, hk, ha⟩ := mayRoot_parts.1 h
 obtain ⟨k1, k2, k3⟩ := mayKeys_parts.1 hk
 obtain ⟨l1, l2, l3, l4, l5⟩ := rootJ_look r
 have e0 : rtT (rootJ r) = ⟨[typN], 0⟩ := by
   unfold rtT
   rw [pickText_ok l1, if_neg (by simp)]
 have e1 : rtB (rootJ r) = (r.ver, ⟨[verN, typN], 0⟩) := by unfold rtB; rw [e0]; exact pickNum_ok l5 hv.1 hv.2
 have e2 : rtC (rootJ r) = (dateB r.exp, ⟨[expN, verN, typN], 0⟩) := by unfold rtC; rw [e1]; exact pickText_ok l2
 have e3 : rtR (rootJ r) = (r.exp, 0) := by unfold rtR; rw [e2]; exact (date_txt he).2
 have e4 : rtK (rootJ r) = (tabJ r.keys, ⟨[keysN, expN, verN, typN], 0⟩) := by
   unfold rtK
   rw [e2, e3]
   exact pickObj_ok l3 rfl (by show (r.keys.map obj2).length ≤ 32; rw [List.length_map]; exact k1)
 have e5 : rtL (rootJ r) = (r.keys, 0) := by unfold rtL; rw [e4]; exact keysJ_tab k2 k3 k1
 have e6 : rtO (rootJ r) = (rolesJ r.au, ⟨[rolN, keysN, expN, verN, typN], 0⟩) := by
   unfold rtO
   rw [e4, e5]
   exact pickObj_ok l4 rfl (by show 3 ≤ 8192; decide)
 have e7 : rtA (rootJ r) = (r.au, 0) := by
   unfold rtA rolesOfA
   rw [e6]
   dsimp only
   rw [if_neg (by simp [rolesJ, objJ, JV.kind])]
   exact roles_back ha
 have e8 : rtF (rootJ r) = ⟨[rolN, keysN, expN, verN, typN], 0⟩ := by unfold rtF; rw [e6, e7]; rfl
 have e9 : pickDone (rootJ r) ⟨[rolN, keysN, expN, verN, typN], 0⟩ = 0 := by
   unfold pickDone
   rw [if_neg (by simp), if_pos]
   simp [rootJ, objJ, JV.names, rootM]
 unfold rootOfK
 rw [e8, e9, if_neg (by simp), e1, e3, e5, e7]
theorem root_conv {v : JV} {r : RootV} (hW : PartW v) (h : rootOfK v = (r, 0)) : v = rootJ r ∧ mayRoot r = true := by
 have hd : pickDone v (rtF v) = 0 := by
   unfold rootOfK at h
   split at h
   · rename_i h0; exact absurd (congrArg Prod.snd h) h0
   · rename_i h0; simpa using h0
 have hr : r = ⟨(rtB v).1, (rtR v).1, (rtL v).1, (rtA v).1⟩ := by
   unfold rootOfK at h
   rw [if_neg (by rw [hd]; decide)] at h
   exact (congrArg Prod.fst h).symm
 obtain ⟨he, hasked⟩ := pickDone_inv hd
 obtain ⟨ho, hA, pF⟩ := fail_zero (st := (rtO v).2) he
 obtain ⟨hk0, io, eo, ko, lo, po⟩ := pickObj_inv (v := v) (y := rolN) (most := 8192) ho
 obtain ⟨hkk, hL, pK⟩ := fail_zero hk0
 obtain ⟨hc, ik, ek, kk, lk, pk⟩ := pickObj_inv (v := v) (y := keysN) (most := 32) hkk
 obtain ⟨hc1, hr0, pc⟩ := fail_zero hc
 obtain ⟨hb, ie, ee, ke, pe⟩ := pickText_inv (v := v) (y := expN) hc1
 obtain ⟨ht, iv, ev, kv, rv, pv⟩ := pickNum_inv (v := v) (y := verN) (lo := 1) (hi := 1099511627776) hb
 have hty : (pickText v typN ⟨[], 0⟩).2.err = 0 ∧ (pickText v typN ⟨[], 0⟩).1 = rootN := by
   unfold rtT at ht
   split at ht
   · exact absurd (fail_zero ht).2.1 (by decide)
   · rename_i e
     exact ⟨ht, by simpa using e⟩
 obtain ⟨_, it, et, kt, pt⟩ := pickText_inv hty.1
 have e0 : rtT v = ⟨[typN], 0⟩ := by
   unfold rtT
   rw [if_neg (by simp [hty.2]), pt]
 have hst : it.t = rootN := by have := hty.2; rw [pt] at this; exact this
 have e1 : rtB v = (iv.n, ⟨[verN, typN], 0⟩) := by unfold rtB; rw [pv, e0]
 have e2 : rtC v = (ie.t, ⟨[expN, verN, typN], 0⟩) := by unfold rtC; rw [pe, e1]
 have e3 : rtK v = (ik, ⟨[keysN, expN, verN, typN], 0⟩) := by unfold rtK; rw [pk, pc, e2]
 have e4 : rtO v = (io, ⟨[rolN, keysN, expN, verN, typN], 0⟩) := by unfold rtO; rw [po, pK, e3]
 have e5 : rtF v = ⟨[rolN, keysN, expN, verN, typN], 0⟩ := by
   have : rtF v = ⟨(rtO v).2.asked, 0⟩ := pF
   rw [this, e4]
 have hit := part_txt (lookW hW et (by rw [kt]; decide)) kt
 have hie := part_txt (lookW hW ee (by rw [ke]; decide)) ke
 have hiv := part_num (lookW hW ev (by rw [kv]; decide)) kv
 have hpo := lookW hW eo (by rw [ko]; decide)
 have hio := part_obj hpo ko
 have hrd : readD ie.t.data.toList = ((rtR v).1, 0) := by
   have : rtR v = readD ie.t.data.toList := by unfold rtR; rw [e2]
   rw [← this]
   exact Prod.ext rfl hr0
 obtain ⟨d1, d2, d3⟩ := date_read _ _ hrd
 have hkj : rtL v = keysJ ik := by unfold rtL; rw [e3]
 obtain ⟨t1, t2, t3, t4⟩ := keysJ_back (v := ik) (by rw [← hkj]; exact hL)
 rw [← hkj] at t1 t2 t3 t4
 have hra : rtA v = rolesOfK io := by unfold rtA rolesOfA; rw [e4]; exact if_neg (by simp [ko])
 obtain ⟨u1, u2⟩ := roles_conv (v := io) (x := (rtA v).1) ⟨ko, hio.1, hio.2.2.1, hio.2.1, fun x hx => .inl (hio.2.2.2 x hx)⟩ (by rw [← hra]; exact Prod.ext rfl hA) hio.2.2.2
 have hexp : txtJ (dateB (rtR v).1) = ie := by
   have e : (dateB (rtR v).1).data.toList = dateL (rtR v).1.toNat := rfl
   exact (congrArg txtJ (bytes_ext (e.trans d3))).trans hie.symm
 have hty2 : txtJ rootN = it := by rw [hit, hst]
 have hvn : (rtB v).1 = iv.n := by rw [e1]
 rw [e5] at hasked
 rw [hr]
 refine ⟨obj_of (N := rootM ⟨(rtB v).1, (rtR v).1, (rtL v).1, (rtA v).1⟩) hW.1 hW.2.1 hW.2.2.1 hW.2.2.2.1 root_names.1 (fun x hx => ?_) (fun q hq => ?_), ?_⟩
 · have := hasked x hx
   simp only [List.mem_cons, List.not_mem_nil, or_false] at this
   simp only [rootM, List.map_cons, List.map_nil, List.mem_cons, List.not_mem_nil, or_false]
   rcases this with h | h | h | h | h <;> simp [h]
 · simp only [rootM, List.mem_cons, List.not_mem_nil, or_false] at hq
   rcases hq with rfl | rfl | rfl | rfl | rfl
   · show v.look typN = some (txtJ rootN); rw [et, hty2]
   · show v.look expN = some (txtJ (dateB (rtR v).1)); rw [ee, hexp]
   · show v.look keysN = some (tabJ (rtL v).1); rw [ek, ← t1]
   · show v.look rolN = some (rolesJ (rtA v).1); rw [eo, ← u1]
   · show v.look verN = some (numJ (rtB v).1); rw [ev, hvn, ← hiv]
 · refine mayRoot_parts.2 ⟨?_, ⟨d1, d2⟩, mayKeys_parts.2 ⟨t4, t2, t3⟩, u2⟩
   show 1 ≤ (rtB v).1 ∧ (rtB v).1 ≤ 1099511627776
   rw [hvn]; exact rv
theorem rootA_eq {v : JV} (hm : v.mayB = true) (hk : v.kind = 5) : rootOfA v = rootOfK v := by
 unfold rootOfA
 rw [if_neg (by rw [hm]; decide), if_neg (by simp [hk])]
theorem may3_parts {x : Auth3} : may3 x = true ↔ mayAuth x.a = true ∧ mayAuth x.b = true ∧ mayAuth x.c = true := by
 unfold may3
 simp only [Bool.and_eq_true]
 exact ⟨fun h => ⟨h.1.1, h.1.2, h.2⟩, fun h => ⟨⟨h.1, h.2.1⟩, h.2.2⟩⟩
def Auth3.put (x : Auth3) (k : Nat) (a : AuthV) : Auth3 := if k = 0 then ⟨a, x.b, x.c⟩ else if k = 1 then ⟨x.a, a, x.c⟩ else ⟨x.a, x.b, a⟩
def Auth3.at (x : Auth3) (k : Nat) : AuthV := if k = 0 then x.a else if k = 1 then x.b else x.c
def digN (c : UInt8) : ByteArray := ⟨(List.replicate 64 c).toArray⟩
def oneV (c : UInt8) : AuthV := ⟨1, [digN c]⟩
def exR : RootV := ⟨1, 9, [], ⟨oneV 97, oneV 98, oneV 99⟩⟩
def exRJ : JV := rootJ exR
def tstN : ByteArray := { data := #[116, 105, 109, 101, 115, 116, 97, 109, 112] }
theorem exR_may : mayRoot exR = true := by decide +kernel
theorem exR_back : rootOfA exRJ = (exR, 0) := by
 rw [show exRJ = rootJ exR from rfl, rootA_eq (rootJ_may exR_may) rfl]
 exact root_back exR_may
theorem exRJ_wt : exRJ.wt ≤ 2000000 := by decide +kernel
theorem wt_obj (N : List NJ) : (objJ N).wt = 1 + bytesSum (N.map (·.1)) + JV.wts (N.map (·.2)) := by
 show 1 + ({ data := #[] } : ByteArray).size + bytesSum (N.map (·.1)) + JV.wts (N.map (·.2)) = _
 rfl
theorem txtJ_wt1 (t : ByteArray) : (txtJ t).wt = 1 + t.size := by simp [txtJ, JV.wt, JV.wts, bytesSum]
theorem numJ_wt1 (n : Int) : (numJ n).wt = 1 := by simp [numJ, JV.wt, JV.wts, bytesSum, ByteArray.size]
theorem texts_wts : ∀ l : List ByteArray, (∀ x ∈ l, x.size = 64) → JV.wts (l.map txtJ) = 65 * l.length
 | [], _ => rfl
 | x :: r, h => by
   have h1 := h x (List.mem_cons_self ..)
   have h2 := texts_wts r fun y hy => h y (List.mem_cons_of_mem _ hy)
   rw [List.map_cons, JV.wts, h2, txtJ_wt1, h1, List.length_cons]; omega
theorem authJ_wt {a : AuthV} (h : mayAuth a = true) : (authJ a).wt ≤ 2000 := by
 obtain ⟨hl, ht, hi⟩ := mayAuth_parts h
 have hx := idsErr_hex _ _ hi
 have h1 := texts_wts a.ids fun x hx' => (hex64_txt (hx x hx')).2
 rw [show authJ a = objJ (authM a) from rfl, wt_obj]
 have e1 : bytesSum ((authM a).map (·.1)) = 17 := rfl
 have e2 : (textsJ a.ids).wt = 1 + JV.wts (a.ids.map txtJ) := by
   show 1 + ({ data := #[] } : ByteArray).size + bytesSum [] + JV.wts (a.ids.map txtJ) = _
   rfl
 have e3 : JV.wts ((authM a).map (·.2)) = (textsJ a.ids).wt + ((numJ a.thr).wt + 0) := rfl
 rw [e1, e3, e2, numJ_wt1, h1]
 omega
theorem rolesJ_wt {x : Auth3} (h : may3 x = true) : (rolesJ x).wt ≤ 7000 := by
 obtain ⟨h1, h2, h3⟩ := may3_parts.1 h
 have w1 := authJ_wt h1
 have w2 := authJ_wt h2
 have w3 := authJ_wt h3
 rw [show rolesJ x = objJ (rolesM x) from rfl, wt_obj]
 have e1 : bytesSum ((rolesM x).map (·.1)) = 22 := rfl
 have e3 : JV.wts ((rolesM x).map (·.2)) = (authJ x.a).wt + ((authJ x.b).wt + ((authJ x.c).wt + 0)) := rfl
 rw [e1, e3]
 omega
theorem rootM_wts {r : RootV} (h : mayRoot r = true) : ∀ p ∈ rootM r, p.2.wt ≤ 40000 := fun p hp => by
 obtain ⟨_, he, hk, ha⟩ := mayRoot_parts.1 h
 obtain ⟨k1, k2, k3⟩ := mayKeys_parts.1 hk
 simp only [rootM, List.mem_cons, List.not_mem_nil, or_false] at hp
 rcases hp with rfl | rfl | rfl | rfl | rfl
 · show (txtJ rootN).wt ≤ 40000
   rw [txtJ_wt1]; decide
 · show (txtJ (dateB r.exp)).wt ≤ 40000
   have h1 := (date_bytes r.exp.toNat (by omega)).1
   have : (dateB r.exp).size = (dateL r.exp.toNat).length := by simp [dateB, ByteArray.size]
   rw [txtJ_wt1]; omega
 · have := tabJ_wt (m := r.keys) fun k hk' => ok2_size (k2 k hk')
   show (tabJ r.keys).wt ≤ 40000
   omega
 · have := rolesJ_wt ha
   show (rolesJ r.au).wt ≤ 40000
   omega
 · show (numJ r.ver).wt ≤ 40000
   rw [numJ_wt1]; decide
theorem wts_le : ∀ (l : List JV) (b : Nat), (∀ x ∈ l, x.wt ≤ b) → JV.wts l ≤ l.length * b
 | [], b, _ => by simp [JV.wts]
 | x :: r, b, h => by
   have h1 := h x (List.mem_cons_self ..)
   have h2 := wts_le r b fun y hy => h y (List.mem_cons_of_mem _ hy)
   rw [JV.wts, List.length_cons, Nat.succ_mul]; omega
theorem rootJ_wt {r : RootV} (h : mayRoot r = true) : (rootJ r).wt ≤ 210000 := by
 rw [show rootJ r = objJ (rootM r) from rfl, wt_obj]
 have e1 : bytesSum ((rootM r).map (·.1)) ≤ 100 := by show bytesSum [typN, expN, keysN, rolN, verN] ≤ 100; decide
 have e2 := wts_le ((rootM r).map (·.2)) 40000 fun x hx => by obtain ⟨p, hp, rfl⟩ := List.mem_map.1 hx; exact rootM_wts h p hp
 have e3 : ((rootM r).map (·.2)).length = 5 := rfl
 rw [e3] at e2
 omega
theorem wts_take : ∀ (l : List JV) (k : Nat), JV.wts (l.take k) + JV.wts (l.drop k) = JV.wts l
 | [], k => by simp [JV.wts]
 | a :: r, 0 => by simp [JV.wts]
 | a :: r, k + 1 => by have := wts_take r k; simp only [List.take_succ_cons, List.drop_succ_cons, JV.wts]; omega
def rootAuth (r : RootV) (role : ByteArray) : AuthV × Bool := if rootN = role then (r.au.a, true) else if snpN = role then (r.au.b, true) else if tgtN = role then (r.au.c, true) else (authZ, false)
theorem rootAuth_none (r : RootV) {role : ByteArray} (h : role ∉ [rootN, snpN, tgtN]) : rootAuth r role = (authZ, false) := by
 simp only [List.mem_cons, List.not_mem_nil, or_false, not_or] at h
 unfold rootAuth
 rw [if_neg (Ne.symm h.1), if_neg (Ne.symm h.2.1), if_neg (Ne.symm h.2.2)]
def sameRoot (a b : RootV) : Bool := decide (a = b)
theorem sameRoot_parts (a b : RootV) : sameRoot a b = (decide (a.ver = b.ver) && decide (a.exp = b.exp) && decide (a.keys = b.keys) && decide (a.au.a = b.au.a) && decide (a.au.b = b.au.b) && decide (a.au.c = b.au.c)) := by
 obtain ⟨v1, e1, k1, x1, y1, z1⟩ := a
 obtain ⟨v2, e2, k2, x2, y2, z2⟩ := b
 unfold sameRoot
 simp only [RootV.mk.injEq, Auth3.mk.injEq]
 by_cases h1 : v1 = v2 <;> by_cases h2 : e1 = e2 <;> by_cases h3 : k1 = k2 <;> by_cases h4 : x1 = x2 <;> by_cases h5 : y1 = y2 <;> by_cases h6 : z1 = z2 <;> simp [h1, h2, h3, h4, h5, h6]
theorem sameRoot_self (a : RootV) : sameRoot a a = true := by simp [sameRoot]
structure RootIn (w : World) (lo hi : Nat) (r : RootV) (ka i1 i2 i3 : Option Addr) : Prop where
 keys : KeysAt w lo hi ka r.keys
 a : StrsAt w lo hi i1 r.au.a.ids
 b : StrsAt w lo hi i2 r.au.b.ids
 c : StrsAt w lo hi i3 r.au.c.ids
theorem RootIn.below {w w' : World} {lo hi lo' hi' B : Nat} {r : RootV} {ka i1 i2 i3 : Option Addr} (h : RootIn w lo hi r ka i1 i2 i3) (hb : Below B w w') (hB : hi ≤ B) (h1 : lo' ≤ lo) (h2 : hi ≤ hi') : RootIn w' lo' hi' r ka i1 i2 i3 :=
 ⟨h.keys.below hb hB h1 h2, h.a.below hb hB h1 h2, h.b.below hb hB h1 h2, h.c.below hb hB h1 h2⟩
theorem RootIn.carry {w w' : World} {lo hi lo' hi' : Nat} {r : RootV} {ka i1 i2 i3 : Option Addr} (h : RootIn w lo hi r ka i1 i2 i3) (h1 : lo' ≤ lo) (h2 : hi ≤ hi') (hs : ∀ b, lo ≤ b → b < hi → w'.heap[b]? = w.heap[b]?) : RootIn w' lo' hi' r ka i1 i2 i3 :=
 ⟨h.keys.carry h1 h2 hs, h.a.carry h1 h2 hs, h.b.carry h1 h2 hs, h.c.carry h1 h2 hs⟩
def AuthFits (a : AuthV) : Prop := (-9223372036854775808 ≤ a.thr ∧ a.thr ≤ 9223372036854775807) ∧ a.ids.length ≤ 4294967296 ∧ ∀ s ∈ a.ids, s.size ≤ 4294967296
structure RootFits (r : RootV) : Prop where
 ver : -9223372036854775808 ≤ r.ver ∧ r.ver ≤ 9223372036854775807
 exp : -9223372036854775808 ≤ r.exp ∧ r.exp ≤ 9223372036854775807
 len : r.keys.length ≤ 40
 keys : ∀ k ∈ r.keys, k.1.size ≤ 300 ∧ k.2.size ≤ 300
 a : AuthFits r.au.a
 b : AuthFits r.au.b
 c : AuthFits r.au.c
theorem authFits_may {a : AuthV} (h : mayAuth a = true) : AuthFits a := by
 obtain ⟨h1, h2, h3⟩ := mayAuth_parts h
 refine ⟨by omega, by omega, fun s hs => ?_⟩
 have := (hex64_txt (idsErr_hex _ _ h3 s hs)).2
 omega
theorem authFits_zero : AuthFits authZ := ⟨by decide, by decide, fun s hs => by cases hs⟩
theorem rootFits_may {r : RootV} (h : mayRoot r = true) : RootFits r := by
 obtain ⟨hv, he, hk, ha⟩ := mayRoot_parts.1 h
 obtain ⟨k1, k2, k3⟩ := mayKeys_parts.1 hk
 obtain ⟨a1, a2, a3⟩ := may3_parts.1 ha
 exact ⟨by omega, by omega, by omega, fun k hk' => by have := ok2_size (k2 k hk'); omega, authFits_may a1, authFits_may a2, authFits_may a3⟩
def TextsPost (l : List ByteArray) (w : World) (e : Ending) (w' : World) : Prop :=
 ∃ ai ci, e = .returned (.agg #[.int .u8 4, .int .i64 0, .string { data := #[] }, .slice none 0 0, .slice ai l.length ci]) ∧ Rep w' w.heap.size w'.heap.size (textsJ l) (.agg #[.int .u8 4, .int .i64 0, .string { data := #[] }, .slice none 0 0, .slice ai l.length ci]) ∧ Below w.heap.size w w'
set_option maxHeartbeats 2000000 in
set_option maxRecDepth 100000 in
theorem textsOf (l : List ByteArray) (a : Option Addr) (c : Nat) (w : World) (hS : StrsAt w 0 w.heap.size a l) (hl : l.length ≤ 4294967296) :
   Calls Tryz.prog 114 #[.slice a l.length c] w (TextsPost l w) := by
 obtain ⟨W, hW⟩ : ∃ W, W = (w.alloc (.cells #[.int .u8 0, .int .i64 0, .string { data := #[] }, .slice none 0 0, .slice none 0 0] 25)).alloc (.cells #[.int .u8 4, .int .i64 0, .string { data := #[] }, .slice none 0 0, .slice none 0 0] 25) := ⟨_, rfl⟩
 have hz1 : (w.alloc (.cells #[.int .u8 0, .int .i64 0, .string { data := #[] }, .slice none 0 0, .slice none 0 0] 25)).heap.size = w.heap.size + 1 := by simp
 have hz2 : W.heap.size = w.heap.size + 2 := by rw [hW]; simp
 have hb2 : Below w.heap.size w W := by rw [hW]; exact ((Below.refl _ _).alloc (Nat.le_refl _) _).alloc (by simp) _
 have hr0 : W.rowIs w.heap.size 25 5 (pick5 (.int .u8 0) (.int .i64 0) (.string { data := #[] }) (.slice none 0 0) (.slice none 0 0)) := by rw [hW]; exact (rowIs_box5 w (.int .u8 0) (.int .i64 0) (.string { data := #[] }) (.slice none 0 0) (.slice none 0 0) 25).alloc _
 have hr1 : W.rowIs (w.heap.size + 1) 25 5 (pick5 (.int .u8 4) (.int .i64 0) (.string { data := #[] }) (.slice none 0 0) (.slice none 0 0)) := by
   have := rowIs_box5 (w.alloc (.cells #[.int .u8 0, .int .i64 0, .string { data := #[] }, .slice none 0 0, .slice none 0 0] 25)) (.int .u8 4) (.int .i64 0) (.string { data := #[] }) (.slice none 0 0) (.slice none 0 0) 25
   rw [hz1, ← hW] at this
   exact this
 have HS := Lib.hid hS
 have HW := Lib.hid hW
 have HB2 := Lib.hid hb2
 have HR0 := Lib.hid hr0
 have HR1 := Lib.hid hr1
 have HZ2 := Lib.hid hz2
 obtain ⟨nn, hnn⟩ : ∃ nn, nn = l.length := ⟨_, rfl⟩
 have HNN := Lib.hid hnn
 rw [← hnn] at hl ⊢
 clear hS hW hb2 hr0 hr1 hz1 hz2 hnn
 obtain ⟨i0, hi0, hz0, hz1, hz2⟩ := info_parts infoValue
 go_enter Tryz.func114, Tryz.ntmps114
 go_upto_region 2 with fail
 rw [← HW.out]
 clear HW
 obtain ⟨cb, hcb⟩ : ∃ cb, cb = w.heap.size + 1 := ⟨_, rfl⟩
 have HCB := Lib.hid hcb
 rw [← hcb] at HR1 ⊢
 have hltW : cb < W.heap.size := by have := HZ2.out; omega
 clear hcb
 go_wp2
 go_loopw [5, 9] (fun _ i wr => ∃ (k : Nat) (cs : List Value) (vi : Value), k ≤ nn ∧ i = .int .i64 k ∧ Touch (· = cb) W wr ∧ wr.rowIs cb 25 5 (pick5 (.int .u8 4) (.int .i64 0) (.string { data := #[] }) (.slice none 0 0) vi) ∧ wr.ownsRow W.heap.size 25 5 vi k cs ∧ RepRow wr W.heap.size (fun b => b = cb ∨ vi.ownBlock = some b) ((l.take k).map txtJ) cs) (fun _ i _ => nn - (intOf i).toNat)
 case atStart => exact ⟨0, [], .slice none 0 0, by omega, rfl, Touch.refl _ _, HR1.out, World.ownsRow_nil _ _ _ _, by simpa using RepRow.nil _ _ _⟩
 case round =>
   obtain ⟨k, cs, vi, hk, rfl, htch, hrow, hown, hrr⟩ := hrel
   by_cases hlt2 : k < nn
   · have hlt' : k < l.length := by rw [← HNN.out]; exact hlt2
     have HB : Hid (Below w.heap.size w wr) := HB2.out.trans (htch.below (by have := HZ2.out; omega) fun j hj e => by have := HCB.out; omega)
     obtain ⟨b, off, rfl, _, hb, y0⟩ := (HS.out.below HB.out (Nat.le_refl _) (Nat.le_refl _) (Nat.le_refl _)).at k hlt'
     have HTK := Lib.hid (show (l.take (k + 1)).map txtJ = (l.take k).map txtJ ++ [txtJ l[k]] by rw [List.take_succ_eq_append_getElem hlt', List.map_append]; rfl)
     have c4 : wr.cell? ⟨cb, 4, none⟩ = some vi := hrow.cell (by omega)
     have f4 : wr.frozen? ⟨cb, 4, none⟩ = false := hrow.frozen 4
     have hcz : cb < wr.heap.size := hrow.lt
     have hwz : W.heap.size ≤ wr.heap.size := htch.size
     have hnb : some cb ≠ vi.ownBlock := fun e => by have := (hown.lt _ e.symm).1; omega
     have HRW := Lib.hid hrow
     have HTC := Lib.hid htch
     have HO := Lib.hid hown
     have HRR := Lib.hid hrr
     clear hrow htch hown hrr
     generalize l[k] = it at *
     have HCI := Lib.hid (show Calls Tryz.prog 65 #[.string it] wr.drew (fun e w3 => e = .returned (.agg #[.int .u8 3, .int .i64 0, .string it, .slice none 0 0, .slice none 0 0]) ∧ Rep w3 (wr.heap.size + 1) w3.heap.size (txtJ it) (.agg #[.int .u8 3, .int .i64 0, .string it, .slice none 0 0, .slice none 0 0]) ∧ Below (wr.heap.size + 1) ((wr.alloc (.cells #[.int .u8 3, .int .i64 0, .string it, .slice none 0 0, .slice none 0 0] 25)).drew) w3 ∧ wr.heap.size < w3.heap.size ∧ w3.cell? ⟨cb, 4, none⟩ = some vi ∧ w3.frozen? ⟨cb, 4, none⟩ = false ∧ w3.ownsRow W.heap.size 25 5 vi k cs) by
       refine (pickTextOf it wr.drew).mono ?_
       rintro e w3 ⟨rfl, rfl⟩
       have hb4 : Below wr.heap.size wr (wr.drew.alloc (.cells #[.int .u8 3, .int .i64 0, .string it, .slice none 0 0, .slice none 0 0] 25)) := (Below.refl _ _).drew.alloc (Nat.le_refl _) _
       exact ⟨rfl, rep_txt _ _ _ _, Below.refl _ _, by simp, by rw [hb4.cell hcz]; exact c4, by rw [hb4.frozen hcz]; exact f4, owns_below HO.out hb4⟩)
     go_wp2_with fail
     go_region_law (first | (refine step_append_lies _ (by rfl) (.tmp 14) (.tmp 17) 23 (by rfl) W.heap.size 25 i0 _ 5 80 Tryz.underlying23 hi0 hz0 hz1 hz2 rfl (by omega) vi k cs (by rfl) (HO3.out.alloc _) ⟨w3.heap.size, 0, none⟩ 1 1 (Array.toList #[.int .u8 3, .int .i64 0, .string it, .slice none 0 0, .slice none 0 0]) (by rfl) (by rfl) (World.news_of_block (cs := #[.int .u8 3, .int .i64 0, .string it, .slice none 0 0, .slice none 0 0]) (t := 25) (fr := (0, 0)) (heap_alloc_new w3 _)) (by simp [Value.oneCell']) (by omega) (by unfold maxLen; omega) (by omega) (by simp; omega) (w3.heap.size + 1) (by simp) ?_; intro g cap w4 hown4 hgrow4 hat4 hlt4; have c44 := grow_cell hgrow4 hcz3 hnb c43; have f44 := grow_frozen hgrow4 hcz3 hnb f43; have HO4 := Lib.hid hown4; have HG4 := Lib.hid hgrow4; have HA4 := Lib.hid hat4; clear hown4 hgrow4 hat4) | (go_simp; go_at_call 65; (with_reducible refine HCI.out.mono ?_); rintro e w3 ⟨rfl, hr3, hb3, hz3, c43, f43, ho3⟩; have hcz3 : cb < w3.heap.size := Nat.lt_trans hcz hz3; have HO3 := Lib.hid ho3; have HR3 := Lib.hid hr3; have HB3 := Lib.hid hb3; clear ho3 hr3 hb3))
     all_goals
       have HST := Lib.hid (row_step (j := 4) (it := txtJ it) (an := none) (cn := 0) (ai := none) (ci := 0) hltW HTC.out HRW.out HO.out HRR.out HB3.out HR3.out HG4.out HA4.out HO4.out)
       clear HTC HRW HO HRR HB3 HR3 HG4 HA4 HO4 HO3 HCI
       go_wp2
       go_roundw
       case rel =>
         obtain ⟨z1, z2, z3, z4⟩ := HST.out
         refine ⟨k + 1, _, _, by omega, by go_num, z1, z2.congr fun i hi => ?_, z3, by rw [HTK.out]; exact z4⟩
         rcases i with _ | _ | _ | _ | _ | i <;> first | rfl | omega
       case measure => simp [intOf]; omega
   · obtain rfl : k = nn := by omega
     have hni' : (l.take k).map txtJ = l.map txtJ := by rw [List.take_of_length_le (by rw [← HNN.out]; exact Nat.le_refl _)]
     rw [hni'] at hrr
     have hml : (l.map txtJ).length = k := by rw [List.length_map, ← HNN.out]
     obtain ⟨a5, c5, rfl, hc5, hv5⟩ := owns_vals hown hrr hml.symm
     rw [hml] at hc5 hrow
     have HV5 := Lib.hid hv5
     have HC5 := Lib.hid hc5
     have HML := Lib.hid hml
     have hres := (htch.row HR0.out (by have := HCB.out; omega))
     have r0 := hrow.cell (i := 0) (by decide); have r1 := hrow.cell (i := 1) (by decide); have r2 := hrow.cell (i := 2) (by decide); have r3 := hrow.cell (i := 3) (by decide); have r4 := hrow.cell (i := 4) (by decide)
     have t0 := hres.cell (i := 0) (by decide); have t1 := hres.cell (i := 1) (by decide); have t2 := hres.cell (i := 2) (by decide); have t3 := hres.cell (i := 3) (by decide); have t4 := hres.cell (i := 4) (by decide)
     have s0 := hres.frozen 0; have s1 := hres.frozen 1; have s2 := hres.frozen 2; have s3 := hres.frozen 3; have s4 := hres.frozen 4
     simp only [pick5] at r0 r1 r2 r3 r4 t0 t1 t2 t3 t4
     have HT := Lib.hid htch
     have HRS := Lib.hid hres
     clear hrow hres hown hrr hv5 htch hni' hc5 hml
     go_wp2
     refine bodyPost_ret (results_cell_row Tryz.results114 _ _ w.heap.size 25 _ (0, 0) _ rfl (row5_heap (set5 _ _ _ _ _ HRS.out)) Tryz.underlying25 rfl (by kernel_rfl)) rfl ?_
     have hbw : Below w.heap.size w wr := HB2.out.trans (HT.out.below (by have := HZ2.out; omega) fun j hj e => by have := HCB.out; omega)
     refine ⟨a5, c5, by rw [← HNN.out], ?_, below5 _ _ _ _ _ hbw (Nat.le_refl _)⟩
     rw [← HNN.out]
     have hrep := Rep.mk (v := textsJ l) (an := none) (cn := 0) (ai := a5) (ci := c5) (w := wr) (lo := W.heap.size) (hi := wr.heap.size) (Nat.le_refl _) (by show (l.map txtJ).length ≤ c5; rw [HML.out]; exact HC5.out) (.inl rfl) HV5.out
     have e5 : (textsJ l).items.length = k := HML.out
     rw [e5] at hrep
     exact Rep.carry (by have := HZ2.out; omega) (show wr.heap.size ≤ _ by simp [World.setCell]) (fun j hj _ => heap5 _ _ _ _ _ (by have := HZ2.out; omega)) _ _ hrep
def KeyOfPost (v : JV) (w : World) (e : Ending) (w' : World) : Prop :=
 e = .returned (.tuple #[.agg #[.string (keyOfJ v).1.1, .string (keyOfJ v).1.2], .int .i64 (keyOfJ v).2]) ∧ Below w.heap.size w w'
set_option maxHeartbeats 1000000 in
set_option maxRecDepth 100000 in
theorem keyOf (v : JV) (x : Value) (w : World) (lo hi : Nat) (hN : v.wt ≤ 4294967296) (hhi : hi ≤ w.heap.size) (hR : Rep w lo hi v x) (hS : v.mayB = true → v.kind = 5 → ∀ k (h : k < v.items.length), Seen lo v.items[k]) :
   Calls Tryz.prog 106 #[x] w (KeyOfPost v w) := by
 obtain ⟨an, cn, ai, ci, hx, h1, h2, h3, h4⟩ := hR.parts
 have HR := Lib.hid hR
 have HS := Lib.hid hS
 clear h1 h2 h3 h4 hR hS
 subst hx
 have HB0 := Lib.hid (show Below w.heap.size w ((w.alloc (.cells #[.int .u8 v.kind, .int .i64 v.n, .string v.t, .slice an v.names.length cn, .slice ai v.items.length ci] 25)).alloc (.cells #[.string { data := #[] }, .string { data := #[] }] 38)) from ((Below.refl _ _).alloc (Nat.le_refl _) _).alloc (by simp) _)
 have HX0 := Lib.hid (show ((w.alloc (.cells #[.int .u8 v.kind, .int .i64 v.n, .string v.t, .slice an v.names.length cn, .slice ai v.items.length ci] 25)).alloc (.cells #[.string { data := #[] }, .string { data := #[] }] 38)).heap[w.heap.size]? = some (.cells #[.int .u8 v.kind, .int .i64 v.n, .string v.t, .slice an v.names.length cn, .slice ai v.items.length ci] 25 (0, 0)) by rw [Below.heap_alloc _ _ _ (by simp)]; exact heap_alloc_new w _)
 have hr0 := rowIs_box2 (w.alloc (.cells #[.int .u8 v.kind, .int .i64 v.n, .string v.t, .slice an v.names.length cn, .slice ai v.items.length ci] 25)) (.string { data := #[] }) (.string { data := #[] }) 38
 rw [show (w.alloc (.cells #[.int .u8 v.kind, .int .i64 v.n, .string v.t, .slice an v.names.length cn, .slice ai v.items.length ci] 25)).heap.size = w.heap.size + 1 by simp] at hr0
 have HR0 := Lib.hid hr0
 clear hr0
 have HM := Lib.hid (valueMay v _ ((w.alloc (.cells #[.int .u8 v.kind, .int .i64 v.n, .string v.t, .slice an v.names.length cn, .slice ai v.items.length ci] 25)).alloc (.cells #[.string { data := #[] }, .string { data := #[] }] 38)) hN (HR.out.below HB0.out hhi (Nat.zero_le _) (by simp; omega)))
 cases hm : v.mayB
 · have HX := Lib.hid (show keyOfJ v = (({ data := #[] }, { data := #[] }), 3) by unfold keyOfJ; rw [if_pos hm])
   rw [hm] at HM
   clear hm
   go_enter Tryz.func106, Tryz.ntmps106
   go_wp2_with fail
   refine HM.out.mono ?_
   rintro e w1 ⟨rfl, hb1⟩
   have hres := below_row hb1 HR0.out (by simp)
   have HRS := Lib.hid hres
   have HB1 := Lib.hid (HB0.out.trans (hb1.mono (by simp; omega)))
   have t0 := hres.cell (i := 0) (by decide); have t1 := hres.cell (i := 1) (by decide)
   have s0 := hres.frozen 0; have s1 := hres.frozen 1
   simp only [pick2] at t0 t1
   clear hres hb1
   go_wp2
   refine bodyPost_ret (results_row_tmp Tryz.results106 _ _ (w.heap.size + 1) 38 _ (0, 0) _ rfl (row2_heap (set2 _ _ HRS.out)) Tryz.underlying38 rfl (by kernel_rfl) _ rfl) rfl ⟨?_, below2 _ _ HB1.out (by omega)⟩
   rw [HX.out]; rfl
 · rw [hm] at HM
   have HMB := Lib.hid hm
   clear hm
   by_cases hk : v.kind = 5
   · obtain ⟨hri, hle, htx⟩ := may_obj HMB.out hk
     obtain ⟨st1, hst1⟩ : ∃ r, r = pickText v pubN ⟨[], 0⟩ := ⟨_, rfl⟩
     obtain ⟨st2, hst2⟩ : ∃ r, r = pickText v schN st1.2 := ⟨_, rfl⟩
     obtain ⟨dn, hdn⟩ : ∃ r, r = pickDone v st2.2 := ⟨_, rfl⟩
     have HX := Lib.hid (show keyOfJ v = if dn ≠ 0 then (({ data := #[] }, { data := #[] }), dn) else if keyOk st2.1.data.toList st1.1.data.toList then ((st2.1, st1.1), 0) else (({ data := #[] }, { data := #[] }), 3) by
       unfold keyOfJ; rw [if_neg (by rw [HMB.out]; simp), if_neg (by simp [hk]), hdn, hst2, hst1])
     obtain ⟨z1, z2⟩ := text_size (y := pubN) (st := ⟨[], 0⟩) hN
     obtain ⟨z3, z4⟩ := text_size (y := schN) (st := st1.2) hN
     rw [← hst1] at z1 z2
     rw [← hst2] at z3 z4
     simp only [List.length_nil] at z2
     have HST1 := Lib.hid hst1
     have HST2 := Lib.hid hst2
     have HDN := Lib.hid hdn
     have HRI := Lib.hid hri
     have HLE := Lib.hid hle
     have HTX := Lib.hid htx
     have HK := Lib.hid hk
     clear hst1 hst2 hdn hri hle htx hk
     go_enter Tryz.func106, Tryz.ntmps106
     go_wp2_with fail
     refine HM.out.mono ?_
     clear HM
     rintro e w1 ⟨rfl, hb1⟩
     have hz1 : w.heap.size + 2 ≤ w1.heap.size := by have := hb1.size; simp at this; omega
     have HB1 := Lib.hid (HB0.out.trans (hb1.mono (by simp; omega)))
     have HR1 := Lib.hid (below_row hb1 HR0.out (by simp))
     have hx1 : w1.heap[w.heap.size]? = some (.cells #[.int .u8 v.kind, .int .i64 v.n, .string v.t, .slice an v.names.length cn, .slice ai v.items.length ci] 25 (0, 0)) := by rw [hb1.block _ (by simp; omega)]; exact HX0.out
     have c0 : w1.cell? ⟨w.heap.size, 0, none⟩ = some (.int .u8 v.kind) := box_cell hx1 rfl
     have c1 : w1.cell? ⟨w.heap.size, 1, none⟩ = some (.int .i64 v.n) := box_cell hx1 rfl
     have c2 : w1.cell? ⟨w.heap.size, 2, none⟩ = some (.string v.t) := box_cell hx1 rfl
     have c3 : w1.cell? ⟨w.heap.size, 3, none⟩ = some (.slice an v.names.length cn) := box_cell hx1 rfl
     have c4 : w1.cell? ⟨w.heap.size, 4, none⟩ = some (.slice ai v.items.length ci) := box_cell hx1 rfl
     have HOF := Lib.hid (pickOf_good v _ w1 lo hi hN (by omega) (HR.out.below HB1.out hhi (Nat.le_refl _) (Nat.le_refl _)) HK.out HRI.out HLE.out (HS.out HMB.out HK.out))
     clear hb1 hx1
     go_wp2_with fail
     refine HOF.out.mono ?_
     clear HOF c0 c1 c2 c3 c4 HR HS HX0 HB0 HR0
     rintro e w2 ⟨o, m, lo2, hi2, an2, ai2, cn2, ci2, rfl, hp2, ho2, hm2, hb2⟩
     have HT1 := Lib.hid (pickTextF o m lo2 hi2 v an2 ai2 cn2 ci2 pubN ⟨[], 0⟩ w2 hp2 (by decide) (by simp))
     have HR2 := Lib.hid (below_row hb2 HR1.out (by omega))
     have hz2 := hb2.size
     have HB2 := Lib.hid (HB1.out.trans (hb2.mono (by omega)))
     clear hp2 hb2 HR1 HB1
     go_wp2_with fail
     refine HT1.out.mono ?_
     clear HT1
     rintro e w3 ⟨rfl, hp3, ht3⟩
     rw [← HST1.out] at hp3 ⊢
     have HT2 := Lib.hid (pickTextF o m lo2 hi2 v an2 ai2 cn2 ci2 schN st1.2 w3 hp3 (by decide) (by omega))
     have hz3 := ht3.size
     have HR3 := Lib.hid (ht3.row HR2.out (by omega))
     have HB3 := Lib.hid (HB2.out.trans (ht3.below (by omega) fun k hk e => by omega))
     clear hp3 ht3 HR2 HB2
     go_wp2_with fail
     refine HT2.out.mono ?_
     clear HT2
     rintro e w4 ⟨rfl, hp4, ht4⟩
     rw [← HST2.out] at hp4 ⊢
     have hz4 := ht4.size
     have HR4 := Lib.hid (ht4.row HR3.out (by omega))
     have HB4 := Lib.hid (HB3.out.trans (ht4.below (by omega) fun k hk e => by omega))
     have HDO := Lib.hid (pickDoneF o m lo2 hi2 v an2 ai2 cn2 ci2 st2.2 (w4.alloc (.cells #[.string st2.1, .string st1.1] 38)) (hp4.below ((Below.refl _ _).alloc (Nat.le_refl _) _)) (fun i hi => by
       have := List.all_eq_true.1 HTX.out _ (List.getElem_mem hi)
       unfold txtOk at this; simp at this; omega))
     rw [← HDN.out] at HDO
     clear hp4 ht4 HR3 HB3
     go_wp2_with fail
     refine HDO.out.mono ?_
     clear HDO
     rintro e w5 ⟨rfl, rfl⟩
     have HR5 := Lib.hid (HR4.out.alloc (.cells #[.string st2.1, .string st1.1] 38))
     have HB5 := Lib.hid (HB4.out.alloc HB4.out.size (.cells #[.string st2.1, .string st1.1] 38))
     clear HR4 HB4
     by_cases hd : dn = 0
     · rw [hd] at HX ⊢
       simp only [ne_eq, not_true_eq_false, if_false] at HX
       clear hd HDN
       have HKM := Lib.hid (keyMay st2.1 st1.1 (w4.alloc (.cells #[.string st2.1, .string st1.1] 38)) (by omega) (by omega))
       cases hko : keyOk st2.1.data.toList st1.1.data.toList
       · rw [hko] at HKM HX
         clear hko
         go_wp2_with fail
         refine HKM.out.mono ?_
         rintro e w6 ⟨rfl, hb6⟩
         have hres := below_row hb6 HR5.out (by simp; omega)
         have HRS := Lib.hid hres
         have HB6 := Lib.hid (HB5.out.trans (hb6.mono (by simp; omega)))
         have t0 := hres.cell (i := 0) (by decide); have t1 := hres.cell (i := 1) (by decide)
         have s0 := hres.frozen 0; have s1 := hres.frozen 1
         simp only [pick2] at t0 t1
         clear hres hb6
         go_wp2
         refine bodyPost_ret (results_row_tmp Tryz.results106 _ _ (w.heap.size + 1) 38 _ (0, 0) _ rfl (row2_heap (set2 _ _ HRS.out)) Tryz.underlying38 rfl (by kernel_rfl) _ rfl) rfl ⟨?_, below2 _ _ HB6.out (by omega)⟩
         rw [HX.out]; rfl
       · rw [hko] at HKM HX
         clear hko
         go_wp2_with fail
         refine HKM.out.mono ?_
         rintro e w6 ⟨rfl, hb6⟩
         have hres := below_row hb6 HR5.out (by simp; omega)
         have hx6 : w6.heap[w4.heap.size]? = some (.cells #[.string st2.1, .string st1.1] 38 (0, 0)) := by rw [hb6.block _ (by simp)]; exact heap_alloc_new _ _
         have d0 : w6.cell? ⟨w4.heap.size, 0, none⟩ = some (.string st2.1) := box_cell hx6 rfl
         have d1 : w6.cell? ⟨w4.heap.size, 1, none⟩ = some (.string st1.1) := box_cell hx6 rfl
         have HRS := Lib.hid hres
         have HB6 := Lib.hid (HB5.out.trans (hb6.mono (by simp; omega)))
         have t0 := hres.cell (i := 0) (by decide); have t1 := hres.cell (i := 1) (by decide)
         have s0 := hres.frozen 0; have s1 := hres.frozen 1
         simp only [pick2] at t0 t1
         clear hres hb6 hx6
         go_wp2
         refine bodyPost_ret (results_row_tmp Tryz.results106 _ _ (w.heap.size + 1) 38 _ (0, 0) _ rfl (row2_heap (set2 _ _ HRS.out)) Tryz.underlying38 rfl (by kernel_rfl) _ rfl) rfl ⟨?_, below2 _ _ HB6.out (by omega)⟩
         rw [HX.out]; rfl
     · rw [if_pos hd] at HX
       have hd1 : (dn == 0) = false := by simpa using hd
       have hd2 : (dn != 0) = true := by simpa using hd
       have hres := HR5.out
       have t0 := hres.cell (i := 0) (by decide); have t1 := hres.cell (i := 1) (by decide)
       have s0 := hres.frozen 0; have s1 := hres.frozen 1
       simp only [pick2] at t0 t1
       clear hres hd HDN
       go_wp2
       refine bodyPost_ret (results_row_tmp Tryz.results106 _ _ (w.heap.size + 1) 38 _ (0, 0) _ rfl (row2_heap (set2 _ _ HR5.out)) Tryz.underlying38 rfl (by kernel_rfl) _ rfl) rfl ⟨?_, below2 _ _ HB5.out (by omega)⟩
       rw [HX.out]; rfl
   · have HX := Lib.hid (show keyOfJ v = (({ data := #[] }, { data := #[] }), 10) by unfold keyOfJ; rw [if_neg (by rw [HMB.out]; simp), if_pos hk])
     have HK := Lib.hid hk
     clear hk
     go_enter Tryz.func106, Tryz.ntmps106
     go_wp2_with fail
     refine HM.out.mono ?_
     clear HM
     rintro e w1 ⟨rfl, hb1⟩
     have hz1 : w.heap.size + 2 ≤ w1.heap.size := by have := hb1.size; simp at this; omega
     have HB1 := Lib.hid (HB0.out.trans (hb1.mono (by simp; omega)))
     have HR1 := Lib.hid (below_row hb1 HR0.out (by simp))
     have hx1 : w1.heap[w.heap.size]? = some (.cells #[.int .u8 v.kind, .int .i64 v.n, .string v.t, .slice an v.names.length cn, .slice ai v.items.length ci] 25 (0, 0)) := by rw [hb1.block _ (by simp; omega)]; exact HX0.out
     have c0 : w1.cell? ⟨w.heap.size, 0, none⟩ = some (.int .u8 v.kind) := box_cell hx1 rfl
     have c1 : w1.cell? ⟨w.heap.size, 1, none⟩ = some (.int .i64 v.n) := box_cell hx1 rfl
     have c2 : w1.cell? ⟨w.heap.size, 2, none⟩ = some (.string v.t) := box_cell hx1 rfl
     have c3 : w1.cell? ⟨w.heap.size, 3, none⟩ = some (.slice an v.names.length cn) := box_cell hx1 rfl
     have c4 : w1.cell? ⟨w.heap.size, 4, none⟩ = some (.slice ai v.items.length ci) := box_cell hx1 rfl
     clear hb1 hx1
     go_wp2_with fail
     refine (pickOf_bad v.kind v.n v.t _ _ w1 HK.out).mono ?_
     clear c0 c1 c2 c3 c4
     rintro e w2 ⟨o, rfl, ho1, ho2, hp2, hb2⟩
     have HP2 := Lib.hid hp2
     have HR2 := Lib.hid (below_row hb2 HR1.out (by omega))
     have HB2 := Lib.hid (HB1.out.trans (hb2.mono (by omega)))
     clear hp2 hb2
     go_wp2_with fail
     refine (textBad o 10 _ w2 HP2.out).mono ?_
     rintro e w3 ⟨rfl, rfl⟩
     go_wp2_with fail
     refine (textBad o 10 _ w2 HP2.out).mono ?_
     rintro e w3 ⟨rfl, rfl⟩
     have HP3 := Lib.hid (HP2.out.below ((Below.refl _ _).alloc (Nat.le_refl _) (.cells #[.string { data := #[] }, .string { data := #[] }] 38)) ho2)
     obtain ⟨p1, p2, kk, p3⟩ := HP3.out
     have HD := Lib.hid (doneErr o 10 kk _ p1 p2 p3)
     clear p1 p2 p3
     go_wp2_with fail
     refine HD.out.mono ?_
     rintro e w3 ⟨rfl, rfl⟩
     have hres := HR2.out.alloc (.cells #[.string { data := #[] }, .string { data := #[] }] 38)
     have HRS := Lib.hid hres
     have HB3 := Lib.hid (HB2.out.alloc HB2.out.size (.cells #[.string { data := #[] }, .string { data := #[] }] 38))
     have t0 := hres.cell (i := 0) (by decide); have t1 := hres.cell (i := 1) (by decide)
     have s0 := hres.frozen 0; have s1 := hres.frozen 1
     simp only [pick2] at t0 t1
     clear hres
     go_wp2
     refine bodyPost_ret (results_row_tmp Tryz.results106 _ _ (w.heap.size + 1) 38 _ (0, 0) _ rfl (row2_heap (set2 _ _ HRS.out)) Tryz.underlying38 rfl (by kernel_rfl) _ rfl) rfl ⟨?_, below2 _ _ HB3.out (by omega)⟩
     rw [HX.out]; rfl
end Go.Proofs.YtnlgmcapbbgelaaGreatDoor
