/- The contract of record.HashesOf. -/
import Derived.Test.YtgghgcilpfdbjaaGreatDoorSu13
import Derived.Test.YtgghgcilpfdbjaaGreatDoorSu17
import Derived.Test.YtgghgcilpfdbjaaGreatDoorSu15
import Derived.Test.YtgghgcilpfdbjaaGreatDoorSu02
import Derived.Test.YtgghgcilpfdbjaaGreatDoorSu01
import Derived.Outline
import Derived.Test.YtgghgcilpfdbjaaGreatDoorSu16
import Derived.Test.YtgghgcilpfdbjaaGreatDoorSu00
import Derived.StillTailTactics
import Derived.Test.YtgghgcilpfdbjaaGreatDoorSu10
import Derived.Test.YtgghgcilpfdbjaaGreatDoorSu07
import Derived.OwnWalk

namespace Go.Proofs.YtgghgcilpfdbjaaGreatDoor
open Go.RowKit Go.WideMaps Go.Maps
def objErr (it : JV) (most : Nat) : Int := if it.kind ≠ 5 then 10 else if most < it.items.length then 5 else 0
theorem objErr_ok {it : JV} {most : Nat} (e : objErr it most = 0) : it.kind = 5 ∧ ¬ most < it.items.length := by
 unfold objErr at e
 split at e
 · omega
 split at e
 · omega
 · exact ⟨by omega, by omega⟩
theorem objErr_no {it : JV} {a : List ByteArray} {most : Nat} {X : JV × PS} (e : ¬ objErr it most = 0) :
   (if it.kind ≠ 5 then (zeroJ, (⟨a, 10⟩ : PS)) else if most < it.items.length then (zeroJ, ⟨a, 5⟩) else X) = (zeroJ, ⟨a, objErr it most⟩) := by
 unfold objErr at e ⊢
 split
 · rfl
 split
 · rfl
 · rename_i a b; rw [if_neg a, if_neg b] at e; omega
set_option maxHeartbeats 1000000 in
set_option maxRecDepth 100000 in
theorem objConv (it : JV) (most p1 : Nat) (an' ai' : Option Addr) (cn' ci' : Nat) (w : World) (c1 : w.cell? ⟨p1, 0, none⟩ = some (.int .i64 most)) :
   Calls Tryz.prog 108 #[.agg #[.int .u8 it.kind, .int .i64 it.n, .string it.t, .slice an' it.names.length cn', .slice ai' it.items.length ci'], .pointer (some ⟨p1, 0, none⟩)] w fun e w' => e = .returned (.tuple #[if objErr it most = 0 then .agg #[.int .u8 it.kind, .int .i64 it.n, .string it.t, .slice an' it.names.length cn', .slice ai' it.items.length ci'] else zeroAgg, .int .i64 (objErr it most)]) ∧ Below w.heap.size w w' := by
 have hz : (w.alloc (.cells #[.int .u8 it.kind, .int .i64 it.n, .string it.t, .slice an' it.names.length cn', .slice ai' it.items.length ci'] 30)).heap.size = w.heap.size + 1 := by simp
 have hb : Below w.heap.size w ((w.alloc (.cells #[.int .u8 it.kind, .int .i64 it.n, .string it.t, .slice an' it.names.length cn', .slice ai' it.items.length ci'] 30)).alloc (.cells #[.int .u8 0, .int .i64 0, .string { data := #[] }, .slice none 0 0, .slice none 0 0] 30)) := ((Below.refl _ _).alloc (Nat.le_refl _) _).alloc (by simp) _
 have d1 : ((w.alloc (.cells #[.int .u8 it.kind, .int .i64 it.n, .string it.t, .slice an' it.names.length cn', .slice ai' it.items.length ci'] 30)).alloc (.cells #[.int .u8 0, .int .i64 0, .string { data := #[] }, .slice none 0 0, .slice none 0 0] 30)).cell? ⟨p1, 0, none⟩ = some (.int .i64 most) := by rw [hb.cell (World.block_lt_of_cell? w _ c1)]; exact c1
 have hbox := (rowIs_box5 w (.int .u8 it.kind) (.int .i64 it.n) (.string it.t) (.slice an' it.names.length cn') (.slice ai' it.items.length ci') 30).alloc (.cells #[.int .u8 0, .int .i64 0, .string { data := #[] }, .slice none 0 0, .slice none 0 0] 30)
 have hres := rowIs_box5 (w.alloc (.cells #[.int .u8 it.kind, .int .i64 it.n, .string it.t, .slice an' it.names.length cn', .slice ai' it.items.length ci'] 30)) (.int .u8 0) (.int .i64 0) (.string { data := #[] }) (.slice none 0 0) (.slice none 0 0) 30
 rw [hz] at hres
 obtain ⟨W2, hW2⟩ : ∃ W2, W2 = ((w.alloc (.cells #[.int .u8 it.kind, .int .i64 it.n, .string it.t, .slice an' it.names.length cn', .slice ai' it.items.length ci'] 30)).alloc (.cells #[.int .u8 0, .int .i64 0, .string { data := #[] }, .slice none 0 0, .slice none 0 0] 30)) := ⟨_, rfl⟩
 rw [← hW2] at hb d1 hbox hres
 have t0 := hres.cell (i := 0) (by decide); have t1 := hres.cell (i := 1) (by decide); have t2 := hres.cell (i := 2) (by decide); have t3 := hres.cell (i := 3) (by decide); have t4 := hres.cell (i := 4) (by decide)
 have s0 := hres.frozen 0; have s1 := hres.frozen 1; have s2 := hres.frozen 2; have s3 := hres.frozen 3; have s4 := hres.frozen 4
 have b0 := hbox.cell (i := 0) (by decide); have b1 := hbox.cell (i := 1) (by decide); have b2 := hbox.cell (i := 2) (by decide); have b3 := hbox.cell (i := 3) (by decide); have b4 := hbox.cell (i := 4) (by decide)
 simp only [pick5] at t0 t1 t2 t3 t4 b0 b1 b2 b3 b4
 have HB := Lib.hid hb
 have HRS := Lib.hid hres
 have HW := Lib.hid hW2
 clear hb hbox hres hz hW2
 by_cases hk : it.kind = 5
 · by_cases h1 : most < it.items.length
   · have HV := Lib.hid (show objErr it most = 5 by unfold objErr; rw [if_neg (by simp [hk]), if_pos h1])
     have HV2 := Lib.hid (show (if objErr it most = 0 then (.agg #[.int .u8 it.kind, .int .i64 it.n, .string it.t, .slice an' it.names.length cn', .slice ai' it.items.length ci'] : Value) else zeroAgg) = zeroAgg by rw [HV.out]; rfl)
     rw [HV2.out, HV.out]
     rw [hk] at b0
     have h1' : decide ((most : Int) < (it.items.length : Int)) = true := by simpa using h1
     clear hk
     go_enter Tryz.func108, Tryz.ntmps108
     go_upto_region 1 with fail
     rw [← HW.out]
     go_wp2
     refine bodyPost_ret (results_row_tmp Tryz.results108 _ _ (w.heap.size + 1) 30 _ (0, 0) _ rfl (row5_heap (set5 _ _ _ _ _ HRS.out)) Tryz.underlying30 rfl (by kernel_rfl) _ rfl) rfl ⟨rfl, below5 _ _ _ _ _ HB.out (by omega)⟩
   · have HV := Lib.hid (show objErr it most = 0 by unfold objErr; rw [if_neg (by simp [hk]), if_neg h1])
     have HV2 := Lib.hid (show (if objErr it most = 0 then (.agg #[.int .u8 it.kind, .int .i64 it.n, .string it.t, .slice an' it.names.length cn', .slice ai' it.items.length ci'] : Value) else zeroAgg) = .agg #[.int .u8 it.kind, .int .i64 it.n, .string it.t, .slice an' it.names.length cn', .slice ai' it.items.length ci'] by rw [HV.out]; rfl)
     rw [HV2.out, HV.out]
     have HK := Lib.hid hk
     rw [hk] at b0
     have h1' : decide ((most : Int) < (it.items.length : Int)) = false := by simpa using h1
     clear hk
     go_enter Tryz.func108, Tryz.ntmps108
     go_upto_region 1 with fail
     rw [← HW.out]
     go_wp2
     refine bodyPost_ret (results_row_tmp Tryz.results108 _ _ (w.heap.size + 1) 30 _ (0, 0) _ rfl (row5_heap (set5 _ _ _ _ _ HRS.out)) Tryz.underlying30 rfl (by kernel_rfl) _ rfl) rfl ⟨by rw [HK.out] <;> rfl, below5 _ _ _ _ _ HB.out (by omega)⟩
 · have HV := Lib.hid (show objErr it most = 10 by unfold objErr; rw [if_pos hk])
   have HV2 := Lib.hid (show (if objErr it most = 0 then (.agg #[.int .u8 it.kind, .int .i64 it.n, .string it.t, .slice an' it.names.length cn', .slice ai' it.items.length ci'] : Value) else zeroAgg) = zeroAgg by rw [HV.out]; rfl)
   rw [HV2.out, HV.out]
   have hk' : (it.kind == 5) = false := by simpa using hk
   clear hk
   go_enter Tryz.func108, Tryz.ntmps108
   go_upto_region 1 with fail
   rw [← HW.out]
   go_wp2
   refine bodyPost_ret (results_row_tmp Tryz.results108 _ _ (w.heap.size + 1) 30 _ (0, 0) _ rfl (row5_heap (set5 _ _ _ _ _ HRS.out)) Tryz.underlying30 rfl (by kernel_rfl) _ rfl) rfl ⟨rfl, below5 _ _ _ _ _ HB.out (by omega)⟩
def ObjPostP (o m lo hi : Nat) (v : JV) (an ai : Option Addr) (cn ci : Nat) (y : ByteArray) (most : Nat) (st : PS) (w : World) (e : Ending) (w' : World) : Prop :=
 (∃ an' cn' ai' ci', e = .returned (.agg #[.int .u8 (pickObj v y most st).1.kind, .int .i64 (pickObj v y most st).1.n, .string (pickObj v y most st).1.t, .slice an' (pickObj v y most st).1.names.length cn', .slice ai' (pickObj v y most st).1.items.length ci']) ∧ Rep w' w.heap.size w'.heap.size (pickObj v y most st).1 (.agg #[.int .u8 (pickObj v y most st).1.kind, .int .i64 (pickObj v y most st).1.n, .string (pickObj v y most st).1.t, .slice an' (pickObj v y most st).1.names.length cn', .slice ai' (pickObj v y most st).1.items.length ci'])) ∧
 PickAt o m lo hi v an ai cn ci (pickObj v y most st).2 w' ∧ Touch (fun b => b = o ∨ b = m) w w'
theorem PickAt.set5 {o m lo hi g : Nat} {v : JV} {an ai : Option Addr} {cn ci : Nat} {st : PS} {w : World} (h : PickAt o m lo hi v an ai cn ci st w) (v0 v1 v2 v3 v4 : Value) (ho : g ≠ o) (hm : g ≠ m) (hh : hi ≤ g) : PickAt o m lo hi v an ai cn ci st (((((w.setCell ⟨g, 0, none⟩ v0).setCell ⟨g, 1, none⟩ v1).setCell ⟨g, 2, none⟩ v2).setCell ⟨g, 3, none⟩ v3).setCell ⟨g, 4, none⟩ v4) := by
 have hs : (((((w.setCell ⟨g, 0, none⟩ v0).setCell ⟨g, 1, none⟩ v1).setCell ⟨g, 2, none⟩ v2).setCell ⟨g, 3, none⟩ v3).setCell ⟨g, 4, none⟩ v4).heap.size = w.heap.size := size5
 have h5 := below5 (b := g) v0 v1 v2 v3 v4 (Below.refl g w) (Nat.le_refl _)
 have hg := fun k (hk : k ≠ g) => heap5 (W := w) v0 v1 v2 v3 v4 hk
 refine ⟨by rw [hg o (Ne.symm ho)]; exact h.obj, ?_, ?_, h.pos, h.out, by rw [hs]; exact h.le, h.kind, h.rise, h.len, h.wt⟩
 · obtain ⟨D, n, h1, h2, h3⟩ := h.map
   exact ⟨D, n, h1.kept (row := some g) ⟨h5.os, h5.tape, h5.output, h5.size, fun k hk hn => hg k (fun e => hn (by rw [e]))⟩ (fun e => hm (Option.some.inj e).symm), h2, h3⟩
 · exact Rep.carry (Nat.le_refl _) (Nat.le_refl _) (fun k _ hk => hg k (by omega)) _ _ h.rep
theorem objPost5 {o m lo hi : Nat} {v : JV} {an ai : Option Addr} {cn ci : Nat} {y : ByteArray} {most : Nat} {st st' : PS} {it : JV} {w w3 : World} {lo1 hi1 g : Nat} {an' ai' : Option Addr} {cn' ci' : Nat} (h : pickObj v y most st = (it, st'))
   (hR : Rep w3 lo1 hi1 it (.agg #[.int .u8 it.kind, .int .i64 it.n, .string it.t, .slice an' it.names.length cn', .slice ai' it.items.length ci'])) (hwg : w.heap.size ≤ g) (hlo : g < lo1) (hhi : hi1 ≤ w3.heap.size) (hP : PickAt o m lo hi v an ai cn ci st' w3) (hT : Touch (fun b => b = o ∨ b = m) w w3) (ho : g ≠ o) (hm : g ≠ m) (hh : hi ≤ g) :
   ObjPostP o m lo hi v an ai cn ci y most st w (.returned (.agg #[.int .u8 it.kind, .int .i64 it.n, .string it.t, .slice an' it.names.length cn', .slice ai' it.items.length ci'])) (((((w3.setCell ⟨g, 0, none⟩ (.int .u8 it.kind)).setCell ⟨g, 1, none⟩ (.int .i64 it.n)).setCell ⟨g, 2, none⟩ (.string it.t)).setCell ⟨g, 3, none⟩ (.slice an' it.names.length cn')).setCell ⟨g, 4, none⟩ (.slice ai' it.items.length ci')) := by
 have hg := fun k (hk : k ≠ g) => heap5 (W := w3) (.int .u8 it.kind) (.int .i64 it.n) (.string it.t) (.slice an' it.names.length cn') (.slice ai' it.items.length ci') hk
 have hs := size5 (W := w3) (b := g) (v0 := .int .u8 it.kind) (v1 := .int .i64 it.n) (v2 := .string it.t) (v3 := .slice an' it.names.length cn') (v4 := .slice ai' it.items.length ci')
 have hR2 := Rep.carry (lo' := w.heap.size) (hi' := (((((w3.setCell ⟨g, 0, none⟩ (.int .u8 it.kind)).setCell ⟨g, 1, none⟩ (.int .i64 it.n)).setCell ⟨g, 2, none⟩ (.string it.t)).setCell ⟨g, 3, none⟩ (.slice an' it.names.length cn')).setCell ⟨g, 4, none⟩ (.slice ai' it.items.length ci')).heap.size) (by omega) (by rw [hs]; exact hhi) (fun k h1 _ => hg k (by omega)) _ _ hR
 have hP2 := hP.set5 (.int .u8 it.kind) (.int .i64 it.n) (.string it.t) (.slice an' it.names.length cn') (.slice ai' it.items.length ci') ho hm hh
 have hT2 := ((((hT.setCell (p := ⟨g, 0, none⟩) (.inr hwg) (.int .u8 it.kind)).setCell (p := ⟨g, 1, none⟩) (.inr hwg) (.int .i64 it.n)).setCell (p := ⟨g, 2, none⟩) (.inr hwg) (.string it.t)).setCell (p := ⟨g, 3, none⟩) (.inr hwg) (.slice an' it.names.length cn')).setCell (p := ⟨g, 4, none⟩) (.inr hwg) (.slice ai' it.items.length ci')
 unfold ObjPostP
 rw [h]
 exact ⟨⟨an', cn', ai', ci', rfl, hR2⟩, hP2, hT2⟩
theorem objPost0 {o m lo hi : Nat} {v : JV} {an ai : Option Addr} {cn ci : Nat} {y : ByteArray} {most : Nat} {st st' : PS} {w w3 : World} (h : pickObj v y most st = (zeroJ, st'))
   (hP : PickAt o m lo hi v an ai cn ci st' w3) (hT : Touch (fun b => b = o ∨ b = m) w w3) (ho : w.heap.size ≠ o) (hm : w.heap.size ≠ m) (hh : hi ≤ w.heap.size) :
   ObjPostP o m lo hi v an ai cn ci y most st w (.returned zeroAgg) (((((w3.setCell ⟨w.heap.size, 0, none⟩ (.int .u8 0)).setCell ⟨w.heap.size, 1, none⟩ (.int .i64 0)).setCell ⟨w.heap.size, 2, none⟩ (.string { data := #[] })).setCell ⟨w.heap.size, 3, none⟩ (.slice none 0 0)).setCell ⟨w.heap.size, 4, none⟩ (.slice none 0 0)) :=
 objPost5 (it := zeroJ) (an' := none) (ai' := none) (cn' := 0) (ci' := 0) (lo1 := w.heap.size + 1) (hi1 := 0) h (rep_zeroJW _ _ _) (Nat.le_refl _) (by omega) (by omega) hP hT ho hm hh
set_option maxHeartbeats 4000000 in
set_option maxRecDepth 100000 in
theorem takeObj (o m lo hi : Nat) (v : JV) (an ai : Option Addr) (cn ci : Nat) (y : ByteArray) (most : Nat) (st : PS) (w : World) (hP : PickAt o m lo hi v an ai cn ci st w) (hy : y.size ≤ 4294967296) (ha : st.asked.length ≤ 4294967296) (p1 : Nat) (g1 : w.heap[p1]? = some (.cells #[.int .i64 most] 3 (0, 0))) :
   Calls Tryz.prog 107 #[.pointer (some ⟨o, 0, none⟩), .string y, .func (.func 108) #[] #[.pointer (some ⟨p1, 0, none⟩)]] w (ObjPostP o m lo hi v an ai cn ci y most st w) := by
 have ho : o < w.heap.size := heap_lt hP.obj
 have hm : m < w.heap.size := by obtain ⟨D, n, h, _⟩ := hP.map; exact h.lt
 have hle := hP.le
 obtain ⟨W2, hW2⟩ : ∃ W2, W2 = (w.alloc (.cells #[.int .u8 0, .int .i64 0, .string { data := #[] }, .slice none 0 0, .slice none 0 0] 30)).alloc (.cells #[.int .u8 0, .int .i64 0, .string { data := #[] }, .slice none 0 0, .slice none 0 0] 30) := ⟨_, rfl⟩
 have hz1 : (w.alloc (.cells #[.int .u8 0, .int .i64 0, .string { data := #[] }, .slice none 0 0, .slice none 0 0] 30)).heap.size = w.heap.size + 1 := by simp
 have hz2 : W2.heap.size = w.heap.size + 2 := by rw [hW2]; simp
 have hb2 : Below w.heap.size w W2 := by rw [hW2]; exact ((Below.refl _ _).alloc (Nat.le_refl _) _).alloc (by simp) _
 have hr6 : W2.rowIs w.heap.size 30 5 (pick5 (.int .u8 0) (.int .i64 0) (.string { data := #[] }) (.slice none 0 0) (.slice none 0 0)) := by rw [hW2]; exact (rowIs_box5 w (.int .u8 0) (.int .i64 0) (.string { data := #[] }) (.slice none 0 0) (.slice none 0 0) 30).alloc _
 have hr7 : W2.rowIs (w.heap.size + 1) 30 5 (pick5 (.int .u8 0) (.int .i64 0) (.string { data := #[] }) (.slice none 0 0) (.slice none 0 0)) := by
   have := rowIs_box5 (w.alloc (.cells #[.int .u8 0, .int .i64 0, .string { data := #[] }, .slice none 0 0, .slice none 0 0] 30)) (.int .u8 0) (.int .i64 0) (.string { data := #[] }) (.slice none 0 0) (.slice none 0 0) 30
   rw [hz1, ← hW2] at this
   exact this
 have HP := Lib.hid (hP.below hb2)
 have HG1 := Lib.hid ((hb2.block _ (heap_lt g1)).trans g1)
 have HO := Lib.hid (And.intro ho (And.intro hm (And.intro hle hz2)))
 have HB2 := Lib.hid hb2
 have HR6 := Lib.hid hr6
 have HR7 := Lib.hid hr7
 have HW := Lib.hid hW2
 clear hP g1 ho hm hle hz1 hz2 hb2 hr6 hr7 hW2
 have c6 : W2.cell? ⟨o, 6, none⟩ = some (.int .i64 st.err) := box_cell HP.out.obj rfl
 have c0 : W2.cell? ⟨o, 0, none⟩ = some (.int .u8 5) := (box_cell (j := 0) HP.out.obj rfl).trans (by rw [HP.out.kind]; rfl)
 by_cases he : st.err = 0
 · rw [he] at c6
   have HE := Lib.hid he
   clear he
   have c1 : W2.cell? ⟨o, 1, none⟩ = some (.int .i64 v.n) := box_cell HP.out.obj rfl
   have c2 : W2.cell? ⟨o, 2, none⟩ = some (.string v.t) := box_cell HP.out.obj rfl
   have c3 : W2.cell? ⟨o, 3, none⟩ = some (.slice an v.names.length cn) := box_cell HP.out.obj rfl
   have c4 : W2.cell? ⟨o, 4, none⟩ = some (.slice ai v.items.length ci) := box_cell HP.out.obj rfl
   have HR := Lib.hid HP.out.rep
   rw [HP.out.kind] at HR
   have HG := Lib.hid (valueGet v y _ W2 lo hi HP.out.wt HP.out.pos HP.out.le HR.out HP.out.kind HP.out.rise HP.out.len)
   go_enter Tryz.func107, Tryz.ntmps107
   go_upto_region 2 with fail
   rw [← HW.out]
   go_wp2_with fail
   refine (pickErr o 0 5 W2 c6 c0 (fun _ => rfl)).mono ?_
   rintro r w' ⟨rfl, h'⟩
   subst h'
   go_wp2_with fail
   refine HG.out.mono ?_
   clear HG c0 c1 c2 c3 c4 c6 HR
   rintro e w1 ⟨hh, hb1⟩
   have HB1 := Lib.hid hb1
   have HR6a := Lib.hid (below_row hb1 HR6.out HR6.out.lt)
   have HR7a := Lib.hid (below_row hb1 HR7.out HR7.out.lt)
   have hz := hb1.size
   clear hb1
   rcases hh with ⟨r, hr1, hr2, hre, an', cn', ai', ci', rfl, hrep⟩ | ⟨hno, rfl⟩
   · have HL := Lib.hid (look_some HP.out.rise r hr1 hr2 hre)
     have HREP := Lib.hid hrep
     clear hre hrep
     generalize v.items[r] = it at *
     clear hr1 hr2
     have hb3 : Below W2.heap.size W2 (w1.alloc (.cells #[.int .u8 it.kind, .int .i64 it.n, .string it.t, .slice an' it.names.length cn', .slice ai' it.items.length ci'] 30)) := HB1.out.alloc HB1.out.size _
     have HC := Lib.hid (objConv it most p1 an' ai' cn' ci' (w1.alloc (.cells #[.int .u8 it.kind, .int .i64 it.n, .string it.t, .slice an' it.names.length cn', .slice ai' it.items.length ci'] 30)) (box_cell ((hb3.block _ (heap_lt HG1.out)).trans HG1.out) rfl))
     have HB3 := Lib.hid hb3
     clear hb3
     by_cases hk : objErr it most = 0
     · have HX := Lib.hid (show pickObj v y most st = (it, ⟨y :: st.asked, 0⟩) by unfold pickObj; rw [if_neg (by simp [HE.out]), HL.out]; obtain ⟨q1, q2⟩ := objErr_ok hk; simp only; rw [if_neg (by simp [q1]), if_neg q2])
       have HC := Lib.hid (show Calls Tryz.prog 108 #[.agg #[.int .u8 it.kind, .int .i64 it.n, .string it.t, .slice an' it.names.length cn', .slice ai' it.items.length ci'], .pointer (some ⟨p1, 0, none⟩)] (w1.alloc (.cells #[.int .u8 it.kind, .int .i64 it.n, .string it.t, .slice an' it.names.length cn', .slice ai' it.items.length ci'] 30)) (fun e w' => e = .returned (.tuple #[.agg #[.int .u8 it.kind, .int .i64 it.n, .string it.t, .slice an' it.names.length cn', .slice ai' it.items.length ci'], .int .i64 0]) ∧ Below (w1.alloc (.cells #[.int .u8 it.kind, .int .i64 it.n, .string it.t, .slice an' it.names.length cn', .slice ai' it.items.length ci'] 30)).heap.size (w1.alloc (.cells #[.int .u8 it.kind, .int .i64 it.n, .string it.t, .slice an' it.names.length cn', .slice ai' it.items.length ci'] 30)) w') from by have h := HC.out; rw [hk] at h; exact h)
       clear hk
       go_wp2_with fail
       refine HC.out.mono ?_
       clear HC
       rintro e w2 ⟨rfl, hb4⟩
       obtain ⟨W3, hW3⟩ : ∃ W3, W3 = w2.alloc (.cells #[.int .u8 it.kind, .int .i64 it.n, .string it.t, .slice an' it.names.length cn', .slice ai' it.items.length ci'] 30) := ⟨_, rfl⟩
       have hzz : w1.heap.size + 1 ≤ w2.heap.size := by have := hb4.size; simpa using this
       have hb5 : Below W2.heap.size W2 W3 := by rw [hW3]; exact (HB3.out.trans (hb4.mono HB3.out.size)).alloc (HB3.out.trans (hb4.mono HB3.out.size)).size _
       have hx10 : W3.heap[w2.heap.size]? = some (.cells #[.int .u8 it.kind, .int .i64 it.n, .string it.t, .slice an' it.names.length cn', .slice ai' it.items.length ci'] 30 (0, 0)) := by rw [hW3]; exact heap_alloc_new w2 _
       have hkeep : ∀ k, k < w1.heap.size → W3.heap[k]? = w1.heap[k]? := fun k hk => by rw [hW3, Below.heap_alloc _ _ _ (by omega), hb4.block k (by simp; omega), Below.heap_alloc _ _ _ hk]
       have HX10 := Lib.hid hx10
       have HKP := Lib.hid hkeep
       have HB5 := Lib.hid hb5
       have HZZ := Lib.hid hzz
       have HZ3 := Lib.hid (show W3.heap.size = w2.heap.size + 1 by rw [hW3]; simp)
       have HW3 := Lib.hid hW3
       have HP3 := Lib.hid (HP.out.below HB5.out)
       have HR6b := Lib.hid (below_row HB5.out HR6.out HR6.out.lt)
       clear hb4 hx10 hkeep hb5 hzz hW3 HB3
       have d5 : W3.cell? ⟨o, 5, none⟩ = some (.map (some m)) := box_cell HP3.out.obj rfl
       have hkey : keyOf Tryz.prog 9 (.string y) = some (.string y.data.toList) := keyOf_string_mk Tryz.underlying9 (by unfold maxLen; omega)
       obtain ⟨D, n, hown, hn, hD⟩ := HP3.out.map
       obtain ⟨c, hat, hc0, hc1, hc2⟩ := hD.2 y
       obtain ⟨c', hrun, hat', _⟩ := hown.lookup_int lawStr Tryz.underlying126 Tryz.underlying3 (zeroInt _) hkey
       rw [hat] at hat'
       simp only [DataW.lit.injEq, Lit.int.injEq, true_and] at hat'
       subst hat'
       have HD := Lib.hid (hD.cons y c hat)
       have HKY := Lib.hid hkey
       have HOW := Lib.hid hown
       clear hD hat hc2 hkey hown
       go_upto_region 9 with fail
       rw [← HW3.out]
       go_wp2_with (at_mapUpdate; refine wpList_mapUpdate_own _ rfl _ _ _ 126 rfl 9 3 lawStr Tryz.underlying126 _ m n D rfl HOW.out (by unfold maxLen; omega) _ _ _ rfl rfl HKY.out _ [] (plainElem_int Tryz.underlying3 (WalkArith.wf_i64 (by omega))) ?_; intro w3 hown3 hgrow3; have HOW3 := Lib.hid hown3; have HGR3 := Lib.hid hgrow3; clear hown3 hgrow3; have HNM := Lib.hid (show w2.heap.size ≠ m from by have := HO.out; have := HZZ.out; omega); have x0 : w3.cell? ⟨w2.heap.size, 0, none⟩ = _ := box_cell ((HGR3.out.block _ (heap_lt HX10.out) (fun e => HNM.out (Option.some.inj e))).trans HX10.out) rfl; have x1 : w3.cell? ⟨w2.heap.size, 1, none⟩ = _ := box_cell ((HGR3.out.block _ (heap_lt HX10.out) (fun e => HNM.out (Option.some.inj e))).trans HX10.out) rfl; have x2 : w3.cell? ⟨w2.heap.size, 2, none⟩ = _ := box_cell ((HGR3.out.block _ (heap_lt HX10.out) (fun e => HNM.out (Option.some.inj e))).trans HX10.out) rfl; have x3 : w3.cell? ⟨w2.heap.size, 3, none⟩ = _ := box_cell ((HGR3.out.block _ (heap_lt HX10.out) (fun e => HNM.out (Option.some.inj e))).trans HX10.out) rfl; have x4 : w3.cell? ⟨w2.heap.size, 4, none⟩ = _ := box_cell ((HGR3.out.block _ (heap_lt HX10.out) (fun e => HNM.out (Option.some.inj e))).trans HX10.out) rfl; have hr6 := HR6b.out.of_block (HGR3.out.block _ HR6b.out.lt (fun e => by have := Option.some.inj e; have := HO.out; omega)); have t0 := hr6.cell (i := 0) (by decide); have t1 := hr6.cell (i := 1) (by decide); have t2 := hr6.cell (i := 2) (by decide); have t3 := hr6.cell (i := 3) (by decide); have t4 := hr6.cell (i := 4) (by decide); have s0 := hr6.frozen 0; have s1 := hr6.frozen 1; have s2 := hr6.frozen 2; have s3 := hr6.frozen 3; have s4 := hr6.frozen 4; simp only [pick5] at t0 t1 t2 t3 t4; have HR6c := Lib.hid hr6; clear hr6)
       have HP4 := Lib.hid (HP3.out.ask y HGR3.out HOW3.out (by omega) HD.out)
       have HT := Lib.hid (show Touch (fun b => b = o ∨ b = m) w w3 from by
         have h1 := HB2.out.trans (HB5.out.mono HB2.out.size)
         have h2 := HGR3.out
         exact ⟨by rw [h2.os, h1.os], by rw [h2.tape, h1.tape], by rw [h2.output, h1.output], Nat.le_trans h1.size h2.size, fun k hk hs => by rw [h2.block k (Nat.lt_of_lt_of_le hk h1.size) (fun e => hs (.inr (Option.some.inj e))), h1.block k hk]⟩)
       have HRE := Lib.hid (Rep.carry (lo' := W2.heap.size) (hi' := w1.heap.size) (Nat.le_refl _) (Nat.le_refl _) (fun k h1 h2 => (HGR3.out.block k (by have := HZ3.out; have := HZZ.out; omega) (fun e => by have := Option.some.inj e; have := HO.out; omega)).trans (HKP.out k h2)) _ _ HREP.out)
       have HSZ := Lib.hid (show w1.heap.size ≤ w3.heap.size from by have := HGR3.out.size; have := HZ3.out; have := HZZ.out; omega)
       rw [HE.out] at HP4
       have HNO := Lib.hid (show w.heap.size ≠ o ∧ w.heap.size ≠ m from by have := HO.out; omega)
       go_wp2
       refine bodyPost_ret (results_cell_row Tryz.results107 _ _ w.heap.size 30 _ (0, 0) _ rfl (row5_heap (set5 _ _ _ _ _ HR6c.out)) Tryz.underlying30 rfl (by kernel_rfl)) rfl ?_
       exact objPost5 HX.out HRE.out (Nat.le_refl _) (by have := HO.out; omega) HSZ.out HP4.out HT.out HNO.out.1 HNO.out.2 HO.out.2.2.1
     · have HX := Lib.hid (show pickObj v y most st = (zeroJ, ⟨st.asked, objErr it most⟩) by unfold pickObj; rw [if_neg (by simp [HE.out]), HL.out]; exact objErr_no hk)
       obtain ⟨er, her⟩ : ∃ er, er = objErr it most := ⟨_, rfl⟩
       have HC := Lib.hid (show Calls Tryz.prog 108 #[.agg #[.int .u8 it.kind, .int .i64 it.n, .string it.t, .slice an' it.names.length cn', .slice ai' it.items.length ci'], .pointer (some ⟨p1, 0, none⟩)] (w1.alloc (.cells #[.int .u8 it.kind, .int .i64 it.n, .string it.t, .slice an' it.names.length cn', .slice ai' it.items.length ci'] 30)) (fun e w' => e = .returned (.tuple #[zeroAgg, .int .i64 er]) ∧ Below (w1.alloc (.cells #[.int .u8 it.kind, .int .i64 it.n, .string it.t, .slice an' it.names.length cn', .slice ai' it.items.length ci'] 30)).heap.size (w1.alloc (.cells #[.int .u8 it.kind, .int .i64 it.n, .string it.t, .slice an' it.names.length cn', .slice ai' it.items.length ci'] 30)) w') from by have h := HC.out; rw [if_neg hk, ← her] at h; exact h)
       rw [← her] at HX hk
       have hk' : (er != 0) = true := by simpa using hk
       have hk2 : (er == 0) = false := by simpa using hk
       clear hk her
       go_wp2_with fail
       refine HC.out.mono ?_
       clear HC
       rintro e w2 ⟨rfl, hb4⟩
       have HBX := Lib.hid (HB3.out.trans (hb4.mono HB3.out.size))
       clear hb4 HB3
       unfold zeroAgg
       obtain ⟨W3, hW3⟩ : ∃ W3, W3 = w2.alloc (.cells #[.int .u8 0, .int .i64 0, .string { data := #[] }, .slice none 0 0, .slice none 0 0] 30) := ⟨_, rfl⟩
       have hb5 : Below W2.heap.size W2 W3 := by rw [hW3]; exact HBX.out.alloc HBX.out.size _
       have HP3 := Lib.hid (HP.out.below hb5)
       have hr6 := below_row hb5 HR6.out HR6.out.lt
       have hr7 := below_row hb5 HR7.out HR7.out.lt
       have HB5 := Lib.hid hb5
       have HR6b := Lib.hid hr6
       have HR7b := Lib.hid hr7
       have HW3 := Lib.hid hW3
       clear hb5 hr6 hr7 hW3
       have d6 : W3.cell? ⟨o, 6, none⟩ = some (.int .i64 0) := (box_cell (j := 6) HP3.out.obj rfl).trans (by rw [HE.out]; rfl)
       have d0 : W3.cell? ⟨o, 0, none⟩ = some (.int .u8 5) := (box_cell (j := 0) HP3.out.obj rfl).trans (by rw [HP.out.kind]; rfl)
       have d7 : W3.frozen? ⟨o, 6, none⟩ = false := by simp [World.frozen?, HP3.out.obj]
       go_upto_region 9 with fail
       rw [← HW3.out]
       go_wp2_with fail
       refine (pickFail o er W3 d6 d0 d7).mono ?_
       clear d6 d0 d7
       rintro e w3 ⟨rfl, h3⟩
       have HT3 := Lib.hid (show Touch (fun b => b = o) W3 w3 from by rw [h3]; exact Touch.setCell (S := fun b => b = o) (p := ⟨o, 6, none⟩) (Touch.refl _ _) (.inl rfl) _)
       have HP4 := Lib.hid (show PickAt o m lo hi v an ai cn ci ⟨st.asked, er⟩ w3 from by rw [h3]; exact HP3.out.fail er)
       clear h3
       have hr6 := HT3.out.row HR6b.out (by have := HO.out; omega)
       have hr7 := HT3.out.row HR7b.out (by have := HO.out; omega)
       have t0 := hr6.cell (i := 0) (by decide); have t1 := hr6.cell (i := 1) (by decide); have t2 := hr6.cell (i := 2) (by decide); have t3 := hr6.cell (i := 3) (by decide); have t4 := hr6.cell (i := 4) (by decide)
       have s0 := hr6.frozen 0; have s1 := hr6.frozen 1; have s2 := hr6.frozen 2; have s3 := hr6.frozen 3; have s4 := hr6.frozen 4
       have z0 := hr7.cell (i := 0) (by decide); have z1 := hr7.cell (i := 1) (by decide); have z2 := hr7.cell (i := 2) (by decide); have z3 := hr7.cell (i := 3) (by decide); have z4 := hr7.cell (i := 4) (by decide)
       simp only [pick5] at t0 t1 t2 t3 t4 z0 z1 z2 z3 z4
       have HR6c := Lib.hid hr6
       clear hr6 hr7
       have HT := Lib.hid (show Touch (fun b => b = o ∨ b = m) w w3 from (Touch.of_below (HB2.out.trans (HB5.out.mono HB2.out.size)) (Nat.le_refl _)).trans (HT3.out.mono (fun k _ h => .inl h)))
       have HNO := Lib.hid (show w.heap.size ≠ o ∧ w.heap.size ≠ m from by have := HO.out; omega)
       go_wp2
       refine bodyPost_ret (results_cell_row Tryz.results107 _ _ w.heap.size 30 _ (0, 0) _ rfl (row5_heap (set5 _ _ _ _ _ HR6c.out)) Tryz.underlying30 rfl (by kernel_rfl)) rfl ?_
       exact objPost0 HX.out HP4.out HT.out HNO.out.1 HNO.out.2 HO.out.2.2.1
   · have HX := Lib.hid (show pickObj v y most st = (zeroJ, ⟨st.asked, 6⟩) by unfold pickObj; rw [if_neg (by simp [HE.out]), show v.look y = none from lookL_none _ _ _ hno])
     clear hno
     have HBX := Lib.hid HB1.out
     unfold zeroAgg
     obtain ⟨W3, hW3⟩ : ∃ W3, W3 = w1.alloc (.cells #[.int .u8 0, .int .i64 0, .string { data := #[] }, .slice none 0 0, .slice none 0 0] 30) := ⟨_, rfl⟩
     have hb5 : Below W2.heap.size W2 W3 := by rw [hW3]; exact HBX.out.alloc HBX.out.size _
     have HP3 := Lib.hid (HP.out.below hb5)
     have hr6 := below_row hb5 HR6.out HR6.out.lt
     have hr7 := below_row hb5 HR7.out HR7.out.lt
     have HB5 := Lib.hid hb5
     have HR6b := Lib.hid hr6
     have HR7b := Lib.hid hr7
     have HW3 := Lib.hid hW3
     clear hb5 hr6 hr7 hW3
     have d6 : W3.cell? ⟨o, 6, none⟩ = some (.int .i64 0) := (box_cell (j := 6) HP3.out.obj rfl).trans (by rw [HE.out]; rfl)
     have d0 : W3.cell? ⟨o, 0, none⟩ = some (.int .u8 5) := (box_cell (j := 0) HP3.out.obj rfl).trans (by rw [HP.out.kind]; rfl)
     have d7 : W3.frozen? ⟨o, 6, none⟩ = false := by simp [World.frozen?, HP3.out.obj]
     go_upto_region 5 with fail
     rw [← HW3.out]
     go_wp2_with fail
     refine (pickFail o 6 W3 d6 d0 d7).mono ?_
     clear d6 d0 d7
     rintro e w3 ⟨rfl, h3⟩
     have HT3 := Lib.hid (show Touch (fun b => b = o) W3 w3 from by rw [h3]; exact Touch.setCell (S := fun b => b = o) (p := ⟨o, 6, none⟩) (Touch.refl _ _) (.inl rfl) _)
     have HP4 := Lib.hid (show PickAt o m lo hi v an ai cn ci ⟨st.asked, 6⟩ w3 from by rw [h3]; exact HP3.out.fail 6)
     clear h3
     have hr6 := HT3.out.row HR6b.out (by have := HO.out; omega)
     have hr7 := HT3.out.row HR7b.out (by have := HO.out; omega)
     have t0 := hr6.cell (i := 0) (by decide); have t1 := hr6.cell (i := 1) (by decide); have t2 := hr6.cell (i := 2) (by decide); have t3 := hr6.cell (i := 3) (by decide); have t4 := hr6.cell (i := 4) (by decide)
     have s0 := hr6.frozen 0; have s1 := hr6.frozen 1; have s2 := hr6.frozen 2; have s3 := hr6.frozen 3; have s4 := hr6.frozen 4
     have z0 := hr7.cell (i := 0) (by decide); have z1 := hr7.cell (i := 1) (by decide); have z2 := hr7.cell (i := 2) (by decide); have z3 := hr7.cell (i := 3) (by decide); have z4 := hr7.cell (i := 4) (by decide)
     simp only [pick5] at t0 t1 t2 t3 t4 z0 z1 z2 z3 z4
     have HR6c := Lib.hid hr6
     clear hr6 hr7
     have HT := Lib.hid (show Touch (fun b => b = o ∨ b = m) w w3 from (Touch.of_below (HB2.out.trans (HB5.out.mono HB2.out.size)) (Nat.le_refl _)).trans (HT3.out.mono (fun k _ h => .inl h)))
     have HNO := Lib.hid (show w.heap.size ≠ o ∧ w.heap.size ≠ m from by have := HO.out; omega)
     go_wp2
     refine bodyPost_ret (results_cell_row Tryz.results107 _ _ w.heap.size 30 _ (0, 0) _ rfl (row5_heap (set5 _ _ _ _ _ HR6c.out)) Tryz.underlying30 rfl (by kernel_rfl)) rfl ?_
     exact objPost0 HX.out HP4.out HT.out HNO.out.1 HNO.out.2 HO.out.2.2.1
 · have he' : (st.err == 0) = false := by simpa using he
   have he2 : (st.err != 0) = true := by simpa using he
   have HX := Lib.hid (show pickObj v y most st = (zeroJ, st) by unfold pickObj; rw [if_pos he])
   clear he
   have hr6 := HR6.out
   have hr7 := HR7.out
   have t0 := hr6.cell (i := 0) (by decide); have t1 := hr6.cell (i := 1) (by decide); have t2 := hr6.cell (i := 2) (by decide); have t3 := hr6.cell (i := 3) (by decide); have t4 := hr6.cell (i := 4) (by decide)
   have s0 := hr6.frozen 0; have s1 := hr6.frozen 1; have s2 := hr6.frozen 2; have s3 := hr6.frozen 3; have s4 := hr6.frozen 4
   have z0 := hr7.cell (i := 0) (by decide); have z1 := hr7.cell (i := 1) (by decide); have z2 := hr7.cell (i := 2) (by decide); have z3 := hr7.cell (i := 3) (by decide); have z4 := hr7.cell (i := 4) (by decide)
   simp only [pick5] at t0 t1 t2 t3 t4 z0 z1 z2 z3 z4
   clear hr6 hr7
   have HT := Lib.hid (show Touch (fun b => b = o ∨ b = m) w W2 from Touch.of_below HB2.out (Nat.le_refl _))
   have HNO := Lib.hid (show w.heap.size ≠ o ∧ w.heap.size ≠ m from by have := HO.out; omega)
   go_enter Tryz.func107, Tryz.ntmps107
   go_upto_region 2 with fail
   rw [← HW.out]
   go_wp2_with fail
   refine (pickErr o st.err 5 W2 c6 c0 (fun h => by simp [h] at he')).mono ?_
   rintro r w' ⟨rfl, h'⟩
   subst h'
   go_wp2
   refine bodyPost_ret (results_cell_row Tryz.results107 _ _ w.heap.size 30 _ (0, 0) _ rfl (row5_heap (set5 _ _ _ _ _ HR6.out)) Tryz.underlying30 rfl (by kernel_rfl)) rfl ?_
   exact objPost0 HX.out HP.out HT.out HNO.out.1 HNO.out.2 HO.out.2.2.1
set_option maxHeartbeats 2000000 in
set_option maxRecDepth 100000 in
theorem pickObjF (o m lo hi : Nat) (v : JV) (an ai : Option Addr) (cn ci : Nat) (y : ByteArray) (most : Nat) (st : PS) (w : World) (hP : PickAt o m lo hi v an ai cn ci st w) (hy : y.size ≤ 4294967296) (ha : st.asked.length ≤ 4294967296) :
   Calls Tryz.prog 65 #[.pointer (some ⟨o, 0, none⟩), .string y, .int .i64 most] w (ObjPostP o m lo hi v an ai cn ci y most st w) := by
 have ho : o < w.heap.size := heap_lt hP.obj
 have hm : m < w.heap.size := by obtain ⟨D, n, h, _⟩ := hP.map; exact h.lt
 have hle := hP.le
 obtain ⟨W2, hW2⟩ : ∃ W2, W2 = (w.alloc (.cells #[.int .i64 most] 3)).alloc (.cells #[.int .u8 0, .int .i64 0, .string { data := #[] }, .slice none 0 0, .slice none 0 0] 30) := ⟨_, rfl⟩
 have hz1 : (w.alloc (.cells #[.int .i64 most] 3)).heap.size = w.heap.size + 1 := by simp
 have hz2 : W2.heap.size = w.heap.size + 2 := by rw [hW2]; simp
 have hb2 : Below w.heap.size w W2 := by rw [hW2]; exact ((Below.refl _ _).alloc (Nat.le_refl _) _).alloc (by simp) _
 have hg : W2.heap[w.heap.size]? = some (.cells #[.int .i64 most] 3 (0, 0)) := by rw [hW2, Below.heap_alloc _ _ _ (by simp)]; exact heap_alloc_new w _
 have hr7 : W2.rowIs (w.heap.size + 1) 30 5 (pick5 (.int .u8 0) (.int .i64 0) (.string { data := #[] }) (.slice none 0 0) (.slice none 0 0)) := by
   have := rowIs_box5 (w.alloc (.cells #[.int .i64 most] 3)) (.int .u8 0) (.int .i64 0) (.string { data := #[] }) (.slice none 0 0) (.slice none 0 0) 30
   rw [hz1, ← hW2] at this
   exact this
 have HT := Lib.hid (takeObj o m lo hi v an ai cn ci y most st W2 (hP.below hb2) hy ha w.heap.size hg)
 have HO := Lib.hid (And.intro ho (And.intro hm (And.intro hle hz2)))
 have HB2 := Lib.hid hb2
 have HR7 := Lib.hid hr7
 have HW := Lib.hid hW2
 clear hP ho hm hle hz1 hz2 hb2 hg hr7 hW2
 go_enter Tryz.func65, Tryz.ntmps65
 go_upto_region 1 with fail
 rw [← HW.out]
 go_wp2_with fail
 refine HT.out.mono ?_
 clear HT
 rintro e w3 ⟨⟨an', cn', ai', ci', rfl, hrep⟩, hp, ht⟩
 obtain ⟨it, st', hx⟩ : ∃ it st', pickObj v y most st = (it, st') := ⟨_, _, rfl⟩
 rw [hx] at hrep hp ⊢
 have HX := Lib.hid hx
 have HREP := Lib.hid hrep
 have HP3 := Lib.hid hp
 have HT3 := Lib.hid ht
 have hr7 := ht.row HR7.out (by have := HO.out; omega)
 clear hx hrep hp ht
 have t0 := hr7.cell (i := 0) (by decide); have t1 := hr7.cell (i := 1) (by decide); have t2 := hr7.cell (i := 2) (by decide); have t3 := hr7.cell (i := 3) (by decide); have t4 := hr7.cell (i := 4) (by decide)
 have s0 := hr7.frozen 0; have s1 := hr7.frozen 1; have s2 := hr7.frozen 2; have s3 := hr7.frozen 3; have s4 := hr7.frozen 4
 simp only [pick5] at t0 t1 t2 t3 t4
 have HR7c := Lib.hid hr7
 clear hr7
 have HT4 := Lib.hid (show Touch (fun b => b = o ∨ b = m) w w3 from (Touch.of_below HB2.out (Nat.le_refl _)).trans HT3.out)
 have HNO := Lib.hid (show w.heap.size + 1 ≠ o ∧ w.heap.size + 1 ≠ m ∧ hi ≤ w.heap.size + 1 from by have := HO.out; omega)
 go_wp2
 refine bodyPost_ret (results_cell_row Tryz.results65 _ _ (w.heap.size + 1) 30 _ (0, 0) _ rfl (row5_heap (set5 _ _ _ _ _ HR7c.out)) Tryz.underlying30 rfl (by kernel_rfl)) rfl ?_
 exact objPost5 HX.out HREP.out (Nat.le_succ _) (by have := HO.out; omega) (Nat.le_refl _) HP3.out HT4.out HNO.out.1 HNO.out.2.1 HNO.out.2.2
end Go.Proofs.YtgghgcilpfdbjaaGreatDoor

namespace Go.Proofs.YtgghgcilpfdbjaaGreatDoor
open Go.RowKit
theorem rep_obj {w : World} {lo hi bn bi T T' : Nat} {ns : List ByteArray} {its : List JV} {csn cs : Array Value} (h1 : w.heap[bn]? = some (.cells csn T (0, 0))) (hn : ∀ i (h : i < ns.length), csn[i]? = some (.string ns[i]))
   (h2 : w.heap[bi]? = some (.cells cs T' (0, 0))) (hc : ∀ i (h : i < its.length), ∃ c0 c1 c2 c3 c4, cs[i * 5]? = some c0 ∧ cs[i * 5 + 1]? = some c1 ∧ cs[i * 5 + 2]? = some c2 ∧ cs[i * 5 + 3]? = some c3 ∧ cs[i * 5 + 4]? = some c4 ∧ Rep w lo hi its[i] (.agg #[c0, c1, c2, c3, c4]))
   (b1 : lo ≤ bn ∧ bn < hi) (b2 : lo ≤ bi ∧ bi < hi) {n m : Nat} (en : n = ns.length) (em : m = its.length) :
   Rep w lo hi (.mk 5 0 { data := #[] } ns its) (.agg #[.int .u8 5, .int .i64 0, .string { data := #[] }, .slice (some ⟨bn, 0, none⟩) n n, .slice (some ⟨bi, 0, none⟩) m m]) := by
 subst en em
 refine Rep.mk (v := .mk 5 0 { data := #[] } ns its) (Nat.le_refl _) (Nat.le_refl _) (.inr ⟨bn, 0, rfl, b1.1, b1.2, fun i hi => ?_⟩) (.inr ⟨bi, 0, rfl, b2.1, b2.2, ⟨_, _, _, h2, fun _ => rfl⟩, RepL.of_at fun i hi => ?_⟩)
 · rw [Nat.zero_add]; exact box_cell h1 (hn i hi)
 · obtain ⟨c0, c1, c2, c3, c4, k0, k1, k2, k3, k4, hr⟩ := hc i hi
   rw [Nat.zero_add]
   exact ⟨c0, c1, c2, c3, c4, box_cell h2 k0, box_cell h2 k1, box_cell h2 k2, box_cell h2 k3, box_cell h2 k4, by simp [World.frozen?, h2], hr⟩
theorem lawNumB (n : Int) (w : World) : Calls Tryz.prog 37 #[.int .i64 n] w fun e w' => e = .returned (.agg #[.int .u8 2, .int .i64 n, .string { data := #[] }, .slice none 0 0, .slice none 0 0]) ∧ Below w.heap.size w w' :=
 (lawNum n w).mono fun e w' h => ⟨h.1, by rw [h.2]; exact (Below.refl _ _).alloc (Nat.le_refl _) _⟩
theorem lawTextB (t : ByteArray) (w : World) : Calls Tryz.prog 39 #[.string t] w fun e w' => e = .returned (.agg #[.int .u8 3, .int .i64 0, .string t, .slice none 0 0, .slice none 0 0]) ∧ Below w.heap.size w w' :=
 (lawText t w).mono fun e w' h => ⟨h.1, by rw [h.2]; exact (Below.refl _ _).alloc (Nat.le_refl _) _⟩
theorem rep_numS (w : World) (lo hi : Nat) (n : Int) : Rep w lo hi (numJ n) (.agg #[.int .u8 2, .int .i64 n, .string { data := #[] }, .slice none 0 0, .slice none 0 0]) := by
 unfold numJ Rep
 exact ⟨none, 0, none, 0, rfl, Nat.le_refl _, Nat.le_refl _, .inl rfl, .inl rfl⟩
def SnapObjPost (lo : Nat) (k e : ByteArray) (m : JV) (n : Int) (w : World) (r : Ending) (w' : World) : Prop :=
 ∃ an ai, r = .returned (.agg #[.int .u8 5, .int .i64 0, .string { data := #[] }, .slice an 4 4, .slice ai 4 4]) ∧ Rep w' lo w'.heap.size (snapO k e m n) (.agg #[.int .u8 5, .int .i64 0, .string { data := #[] }, .slice an 4 4, .slice ai 4 4]) ∧ Below w.heap.size w w'
set_option maxHeartbeats 4000000 in
set_option maxRecDepth 100000 in
theorem lawSnapshot (kd ex : ByteArray) (m : JV) (an ai : Option Addr) (cn ci : Nat) (n : Int) (w : World) (lo hi : Nat) (hR : Rep w lo hi m (.agg #[.int .u8 m.kind, .int .i64 m.n, .string m.t, .slice an m.names.length cn, .slice ai m.items.length ci])) (hlo : lo ≤ w.heap.size) (hhi : hi ≤ w.heap.size) :
   Calls Tryz.prog 38 #[.string kd, .string ex, .agg #[.int .u8 m.kind, .int .i64 m.n, .string m.t, .slice an m.names.length cn, .slice ai m.items.length ci], .int .i64 n] w (SnapObjPost lo kd ex m n w) := by
 obtain ⟨W2, hW2⟩ : ∃ W2, W2 = (w.alloc (.cells #[.int .u8 m.kind, .int .i64 m.n, .string m.t, .slice an m.names.length cn, .slice ai m.items.length ci] 30)).alloc (.cells #[.int .u8 0, .int .i64 0, .string { data := #[] }, .slice none 0 0, .slice none 0 0] 30) := ⟨_, rfl⟩
 have hz2 : W2.heap.size = w.heap.size + 2 := by rw [hW2]; simp
 have hb2 : Below w.heap.size w W2 := by rw [hW2]; exact ((Below.refl _ _).alloc (Nat.le_refl _) _).alloc (by simp) _
 have hx : W2.heap[w.heap.size]? = some (.cells #[.int .u8 m.kind, .int .i64 m.n, .string m.t, .slice an m.names.length cn, .slice ai m.items.length ci] 30 (0, 0)) := by rw [hW2, Below.heap_alloc _ _ _ (by simp)]; exact heap_alloc_new w _
 have hr0 : W2.rowIs (w.heap.size + 1) 30 5 (pick5 (.int .u8 0) (.int .i64 0) (.string { data := #[] }) (.slice none 0 0) (.slice none 0 0)) := by
   have := rowIs_box5 (w.alloc (.cells #[.int .u8 m.kind, .int .i64 m.n, .string m.t, .slice an m.names.length cn, .slice ai m.items.length ci] 30)) (.int .u8 0) (.int .i64 0) (.string { data := #[] }) (.slice none 0 0) (.slice none 0 0) 30
   rw [show (w.alloc (.cells #[.int .u8 m.kind, .int .i64 m.n, .string m.t, .slice an m.names.length cn, .slice ai m.items.length ci] 30)).heap.size = w.heap.size + 1 by simp, ← hW2] at this
   exact this
 have HC := Lib.hid (show ∀ w' : World, Below W2.heap.size W2 w' → w'.cell? ⟨w.heap.size, 0, none⟩ = some (.int .u8 m.kind) ∧ w'.cell? ⟨w.heap.size, 1, none⟩ = some (.int .i64 m.n) ∧ w'.cell? ⟨w.heap.size, 2, none⟩ = some (.string m.t) ∧ w'.cell? ⟨w.heap.size, 3, none⟩ = some (.slice an m.names.length cn) ∧ w'.cell? ⟨w.heap.size, 4, none⟩ = some (.slice ai m.items.length ci) from fun w' h => by
   have x := (h.block _ (heap_lt hx)).trans hx
   exact ⟨box_cell x rfl, box_cell x rfl, box_cell x rfl, box_cell x rfl, box_cell x rfl⟩)
 have HR := Lib.hid hR
 have HLH := Lib.hid (And.intro hlo hhi)
 have HR0 := Lib.hid hr0
 have HB2 := Lib.hid hb2
 have HW := Lib.hid hW2
 have HZ := Lib.hid hz2
 clear hR hlo hhi hW2 hb2 hx hr0 hz2
 go_enter Tryz.func38, Tryz.ntmps38
 go_upto_region 1 with fail
 rw [← HW.out]
 obtain ⟨V, hV⟩ : ∃ V : List MP, V = [.row W2.heap.size 4 9 #[.string { data := #[95, 116, 121, 112, 101] }, .string { data := #[101, 120, 112, 105, 114, 101, 115] }, .string { data := #[109, 101, 116, 97] }, .string { data := #[118, 101, 114, 115, 105, 111, 110] }], .con (.string kd), .con (.agg #[.int .u8 3, .int .i64 0, .string kd, .slice none 0 0, .slice none 0 0]), .con (.string ex), .con (.agg #[.int .u8 3, .int .i64 0, .string ex, .slice none 0 0, .slice none 0 0]), .con (.agg #[.int .u8 m.kind, .int .i64 m.n, .string m.t, .slice an m.names.length cn, .slice ai m.items.length ci]), .con (.int .i64 n), .con (.agg #[.int .u8 2, .int .i64 n, .string { data := #[] }, .slice none 0 0, .slice none 0 0]), .row W2.heap.size 4 30 #[.int .u8 3, .int .i64 0, .string kd, .slice none 0 0, .slice none 0 0, .int .u8 3, .int .i64 0, .string ex, .slice none 0 0, .slice none 0 0, .int .u8 m.kind, .int .i64 m.n, .string m.t, .slice an m.names.length cn, .slice ai m.items.length ci, .int .u8 2, .int .i64 n, .string { data := #[] }, .slice none 0 0, .slice none 0 0]] := ⟨_, rfl⟩
 have HV := Lib.hid hV
 clear hV
 refine wp_region_inv 9 (fun d a' w' => ∃ x9 x10 x11 x12 x13 x14 x15 x16 x17, a' = ⟨#[.string kd, .string ex, .agg #[.int .u8 m.kind, .int .i64 m.n, .string m.t, .slice an m.names.length cn, .slice ai m.items.length ci], .int .i64 n, undef, undef, .pointer (some ⟨w.heap.size, 0, none⟩), undef, .pointer (some ⟨w.heap.size + 1, 0, none⟩), x9, x10, x11, x12, x13, x14, x15, x16, x17, undef], []⟩ ∧ RegI W2 V d w' [x9, x10, x11, x12, x13, x14, x15, x16, x17]) (by kernel_rfl) (by kernel_rfl) ?first ?step ?last
 case first => exact ⟨_, _, _, _, _, _, _, _, _, rfl, RegI.first _ _ _ (by rw [HV.out]; rfl)⟩
 case step =>
   rintro d a' w' ⟨x9, x10, x11, x12, x13, x14, x15, x16, x17, rfl, h⟩ q hq hn hw
   rcases q with _ | _ | _ | _ | _ | _ | _ | _ | _ | q
   · refine wpOp_step rfl fun K hK => ?_
     go_simp
     exact hK _ _ ⟨_, x10, x11, x12, x13, x14, x15, x16, x17, rfl, h.new _ 0 _ (.row W2.heap.size 4 9 #[.string { data := #[95, 116, 121, 112, 101] }, .string { data := #[101, 120, 112, 105, 114, 101, 115] }, .string { data := #[109, 101, 116, 97] }, .string { data := #[118, 101, 114, 115, 105, 111, 110] }]) (by rw [HV.out]; rfl) (IsRow.made _ h.1.size)⟩
   · refine wpOp_step rfl fun K hK => ?_
     go_simp
     exact hK _ _ ⟨x9, _, x11, x12, x13, x14, x15, x16, x17, rfl, h.same 1 _ (.con (.string kd)) (by rw [HV.out]; rfl) rfl⟩
   · obtain rfl : x10 = .string kd := h.get 1 (hw _ rfl ⟨1, .data⟩ (by simp) rfl) (.con (.string kd)) (by rw [HV.out]; rfl) _ rfl
     obtain ⟨q0, q1, q2, q3, q4⟩ := HC.out w' h.1
     refine wpOp_step rfl fun K hK => ?_
     go_simp
     refine (lawTextB kd w').mono ?_
     rintro e w2 ⟨rfl, hb2⟩
     exact hK _ _ ⟨x9, _, _, x12, x13, x14, x15, x16, x17, rfl, h.did hb2 2 _ (.con (.agg #[.int .u8 3, .int .i64 0, .string kd, .slice none 0 0, .slice none 0 0])) (by rw [HV.out]; rfl) rfl⟩
   · refine wpOp_step rfl fun K hK => ?_
     go_simp
     exact hK _ _ ⟨x9, x10, x11, _, x13, x14, x15, x16, x17, rfl, h.same 3 _ (.con (.string ex)) (by rw [HV.out]; rfl) rfl⟩
   · obtain rfl : x12 = .string ex := h.get 3 (hw _ rfl ⟨3, .data⟩ (by simp) rfl) (.con (.string ex)) (by rw [HV.out]; rfl) _ rfl
     obtain ⟨q0, q1, q2, q3, q4⟩ := HC.out w' h.1
     refine wpOp_step rfl fun K hK => ?_
     go_simp
     refine (lawTextB ex w').mono ?_
     rintro e w2 ⟨rfl, hb2⟩
     exact hK _ _ ⟨x9, x10, x11, _, _, x14, x15, x16, x17, rfl, h.did hb2 4 _ (.con (.agg #[.int .u8 3, .int .i64 0, .string ex, .slice none 0 0, .slice none 0 0])) (by rw [HV.out]; rfl) rfl⟩
   · obtain ⟨q0, q1, q2, q3, q4⟩ := HC.out w' h.1
     refine wpOp_step rfl fun K hK => ?_
     go_simp
     exact hK _ _ ⟨x9, x10, x11, x12, x13, _, x15, x16, x17, rfl, h.same 5 _ (.con (.agg #[.int .u8 m.kind, .int .i64 m.n, .string m.t, .slice an m.names.length cn, .slice ai m.items.length ci])) (by rw [HV.out]; rfl) rfl⟩
   · refine wpOp_step rfl fun K hK => ?_
     go_simp
     exact hK _ _ ⟨x9, x10, x11, x12, x13, x14, _, x16, x17, rfl, h.same 6 _ (.con (.int .i64 n)) (by rw [HV.out]; rfl) rfl⟩
   · obtain rfl : x15 = .int .i64 n := h.get 6 (hw _ rfl ⟨6, .data⟩ (by simp) rfl) (.con (.int .i64 n)) (by rw [HV.out]; rfl) _ rfl
     obtain ⟨q0, q1, q2, q3, q4⟩ := HC.out w' h.1
     refine wpOp_step rfl fun K hK => ?_
     go_simp
     refine (lawNumB n w').mono ?_
     rintro e w2 ⟨rfl, hb2⟩
     exact hK _ _ ⟨x9, x10, x11, x12, x13, x14, _, _, x17, rfl, h.did hb2 7 _ (.con (.agg #[.int .u8 2, .int .i64 n, .string { data := #[] }, .slice none 0 0, .slice none 0 0])) (by rw [HV.out]; rfl) rfl⟩
   · obtain rfl : x11 = .agg #[.int .u8 3, .int .i64 0, .string kd, .slice none 0 0, .slice none 0 0] := h.get 2 (hw _ rfl ⟨2, .data⟩ (by simp) rfl) (.con (.agg #[.int .u8 3, .int .i64 0, .string kd, .slice none 0 0, .slice none 0 0])) (by rw [HV.out]; rfl) _ rfl
     obtain rfl : x13 = .agg #[.int .u8 3, .int .i64 0, .string ex, .slice none 0 0, .slice none 0 0] := h.get 4 (hw _ rfl ⟨4, .data⟩ (by simp) rfl) (.con (.agg #[.int .u8 3, .int .i64 0, .string ex, .slice none 0 0, .slice none 0 0])) (by rw [HV.out]; rfl) _ rfl
     obtain rfl : x14 = .agg #[.int .u8 m.kind, .int .i64 m.n, .string m.t, .slice an m.names.length cn, .slice ai m.items.length ci] := h.get 5 (hw _ rfl ⟨5, .data⟩ (by simp) rfl) (.con (.agg #[.int .u8 m.kind, .int .i64 m.n, .string m.t, .slice an m.names.length cn, .slice ai m.items.length ci])) (by rw [HV.out]; rfl) _ rfl
     obtain rfl : x16 = .agg #[.int .u8 2, .int .i64 n, .string { data := #[] }, .slice none 0 0, .slice none 0 0] := h.get 7 (hw _ rfl ⟨7, .data⟩ (by simp) rfl) (.con (.agg #[.int .u8 2, .int .i64 n, .string { data := #[] }, .slice none 0 0, .slice none 0 0])) (by rw [HV.out]; rfl) _ rfl
     refine wpOp_step rfl fun K hK => ?_
     go_simp
     exact hK _ _ ⟨x9, x10, _, x12, _, _, x15, _, _, rfl, h.new _ 8 _ (.row W2.heap.size 4 30 #[.int .u8 3, .int .i64 0, .string kd, .slice none 0 0, .slice none 0 0, .int .u8 3, .int .i64 0, .string ex, .slice none 0 0, .slice none 0 0, .int .u8 m.kind, .int .i64 m.n, .string m.t, .slice an m.names.length cn, .slice ai m.items.length ci, .int .u8 2, .int .i64 n, .string { data := #[] }, .slice none 0 0, .slice none 0 0]) (by rw [HV.out]; rfl) (IsRow.made _ h.1.size)⟩
   · omega
 case last =>
   rintro d a' w' hall ⟨x9, x10, x11, x12, x13, x14, x15, x16, x17, rfl, h⟩
   have hle := h.1
   obtain ⟨b9, k9, rfl, m9⟩ := h.get 0 (hall _ (by omega)) (.row W2.heap.size 4 9 #[.string { data := #[95, 116, 121, 112, 101] }, .string { data := #[101, 120, 112, 105, 114, 101, 115] }, .string { data := #[109, 101, 116, 97] }, .string { data := #[118, 101, 114, 115, 105, 111, 110] }]) (by rw [HV.out]; rfl) _ rfl
   obtain ⟨b17, k17, rfl, m17⟩ := h.get 8 (hall _ (by omega)) (.row W2.heap.size 4 30 #[.int .u8 3, .int .i64 0, .string kd, .slice none 0 0, .slice none 0 0, .int .u8 3, .int .i64 0, .string ex, .slice none 0 0, .slice none 0 0, .int .u8 m.kind, .int .i64 m.n, .string m.t, .slice an m.names.length cn, .slice ai m.items.length ci, .int .u8 2, .int .i64 n, .string { data := #[] }, .slice none 0 0, .slice none 0 0]) (by rw [HV.out]; rfl) _ rfl
   have HLE := Lib.hid hle
   clear h hall hle HV
   have hb3 := HLE.out
   have hres := below_row hb3 HR0.out (by have := HZ.out; omega)
   have HRS := Lib.hid hres
   have HBX := Lib.hid (show Below W2.heap.size W2 w' from hb3)
   have HM9 := Lib.hid m9
   have HM17 := Lib.hid m17
   have HK := Lib.hid (And.intro k9 k17)
   clear hb3 hres m9 m17 k9 k17
   go_wp2_with fail
   refine (lawObj _ _ _ _ _ _ w').mono ?_
   rintro e w3 ⟨rfl, h3⟩
   have hb3 : Below w'.heap.size w' w3 := by rw [h3]; exact (Below.refl _ _).alloc (Nat.le_refl _) _
   have hz3 : w'.heap.size < w3.heap.size := by rw [h3]; simp
   clear h3
   have HB3 := Lib.hid (HBX.out.trans (hb3.mono HBX.out.size))
   have HBB := Lib.hid hb3
   have hres := below_row hb3 HRS.out HRS.out.lt
   have HR3 := Lib.hid hres
   have s0 := hres.frozen 0; have s1 := hres.frozen 1; have s2 := hres.frozen 2; have s3 := hres.frozen 3; have s4 := hres.frozen 4
   have t0 := hres.cell (i := 0) (by decide); have t1 := hres.cell (i := 1) (by decide); have t2 := hres.cell (i := 2) (by decide); have t3 := hres.cell (i := 3) (by decide); have t4 := hres.cell (i := 4) (by decide)
   simp only [pick5] at t0 t1 t2 t3 t4
   clear hres hb3
   go_wp2
   refine bodyPost_ret (results_cell_row Tryz.results38 _ _ (w.heap.size + 1) 30 _ (0, 0) _ rfl (row5_heap (set5 _ _ _ _ _ HR3.out)) Tryz.underlying30 rfl (by kernel_rfl)) rfl ?_
   refine ⟨some ⟨b9, 0, none⟩, some ⟨b17, 0, none⟩, rfl, ?_, below5 _ _ _ _ _ (HB2.out.trans (HB3.out.mono HB2.out.size)) (by omega)⟩
   have hz := HZ.out
   have hlh := HLH.out
   have hk := HK.out
   have l9 : b9 < w'.heap.size := heap_lt HM9.out
   have l17 : b17 < w'.heap.size := heap_lt HM17.out
   have hbf := below5 (b := w.heap.size + 1) (.int .u8 5) (.int .i64 0) (.string { data := #[] }) (.slice (some ⟨b9, 0, none⟩) 4 4) (.slice (some ⟨b17, 0, none⟩) 4 4) (HB2.out.trans (HB3.out.mono HB2.out.size)) (by omega)
   have hsf : ∀ {v0 v1 v2 v3 v4 : Value}, (((((w3.setCell ⟨w.heap.size + 1, 0, none⟩ v0).setCell ⟨w.heap.size + 1, 1, none⟩ v1).setCell ⟨w.heap.size + 1, 2, none⟩ v2).setCell ⟨w.heap.size + 1, 3, none⟩ v3).setCell ⟨w.heap.size + 1, 4, none⟩ v4).heap.size = w3.heap.size := size5
   rw [hsf]
   refine rep_obj (ns := [typN, expN, metN, verN]) (its := [txtJ kd, txtJ ex, m, numJ n]) ((heap5 _ _ _ _ _ (by omega)).trans ((HBB.out.block _ l9).trans HM9.out)) (fun i hi => ?_) ((heap5 _ _ _ _ _ (by omega)).trans ((HBB.out.block _ l17).trans HM17.out)) (fun i hi => ?_) ⟨by omega, by omega⟩ ⟨by omega, by omega⟩ rfl rfl
   · match i, hi with
     | 0, _ => rfl
     | 1, _ => rfl
     | 2, _ => rfl
     | 3, _ => rfl
   · match i, hi with
     | 0, _ => exact ⟨_, _, _, _, _, rfl, rfl, rfl, rfl, rfl, rep_txt _ _ _ _⟩
     | 1, _ => exact ⟨_, _, _, _, _, rfl, rfl, rfl, rfl, rfl, rep_txt _ _ _ _⟩
     | 2, _ => exact ⟨_, _, _, _, _, rfl, rfl, rfl, rfl, rfl, HR.out.below hbf hlh.2 (Nat.le_refl _) (by have := HB2.out.size; have := HB3.out.size; omega)⟩
     | 3, _ => exact ⟨_, _, _, _, _, rfl, rfl, rfl, rfl, rfl, rep_numS _ _ _ _⟩
theorem take_eq_snoc {α : Type} {l m : List α} {k : Nat} (h : k < l.length) (h' : k < m.length) (e : l.take k = m.take k) (e2 : l[k] = m[k]) : l.take (k + 1) = m.take (k + 1) := by
 rw [List.take_succ_eq_append_getElem h, List.take_succ_eq_append_getElem h', e, e2]
set_option maxRecDepth 100000 in
set_option maxHeartbeats 2000000 in
theorem refSame (N : Nat) : ∀ (v u : JV) (x y : Value) (lo hi : Nat) (w : World), v.wt ≤ N → u.wt ≤ 4294967296 → N ≤ 4294967296 → hi ≤ w.heap.size → Rep w lo hi v x → Rep w lo hi u y →
   Calls Tryz.prog 19 #[x, y] w fun e w' => e = .returned (.bool (v.sameB u)) ∧ Below w.heap.size w w' := by
 induction N with
 | zero => intro v u x y lo hi w h; have := v.wt_pos; omega
 | succ N ih =>
   intro v u x y lo hi w hN hU hM hhi hR hS
   have IH := Lib.hid ih
   clear ih
   obtain ⟨an, cn, ai, ci, rfl, _, _, h3, h4⟩ := hR.parts
   obtain ⟨an', cn', ai', ci', rfl, _, _, h3', h4'⟩ := hS.parts
   have HEQ := Lib.hid (v.sameB_eq u)
   obtain ⟨b1, b2, b3, b4⟩ := v.wt_bd
   obtain ⟨d1, d2, d3, d4⟩ := u.wt_bd
   have H3 := Lib.hid h3
   have H4 := Lib.hid h4
   have H3' := Lib.hid h3'
   have H4' := Lib.hid h4'
   clear h3 h4 h3' h4' hR hS
   have HB0 := Lib.hid (show Below w.heap.size w ((w.alloc (.cells #[.int .u8 v.kind, .int .i64 v.n, .string v.t, .slice an v.names.length cn, .slice ai v.items.length ci] 30)).alloc (.cells #[.int .u8 u.kind, .int .i64 u.n, .string u.t, .slice an' u.names.length cn', .slice ai' u.items.length ci'] 30)) from ((Below.refl _ _).alloc (Nat.le_refl _) _).alloc (by simp) _)
   by_cases hk : v.kind = u.kind
   case neg =>
     have t1 : (v.kind == u.kind) = false := by simpa using hk
     have t2 : (v.kind != u.kind) = true := by simpa using hk
     rw [decide_eq_false hk] at HEQ
     clear hk
     go_enter Tryz.func19, Tryz.ntmps19
     go_wp2
     go_ret
     exact ⟨by rw [HEQ.out]; rfl, HB0.out⟩
   have t1 : (v.kind != u.kind) = false := by simpa using hk
   have HK := Lib.hid hk
   rw [decide_eq_true hk] at HEQ
   clear hk
   by_cases hn : v.n = u.n
   case neg =>
     have t3 : (v.n != u.n) = true := by simpa using hn
     rw [decide_eq_false hn] at HEQ
     clear hn
     go_enter Tryz.func19, Tryz.ntmps19
     go_wp2
     go_ret
     exact ⟨by rw [HEQ.out]; rfl, HB0.out⟩
   have t2 : (v.n != u.n) = false := by simpa using hn
   rw [decide_eq_true hn] at HEQ
   clear hn
   by_cases ht : v.t = u.t
   case neg =>
     have t3 : (v.t.toList == u.t.toList) = false := beq_eq_false_iff_ne.2 (fun e => ht (ba_ext2 e))
     have t4 : (v.t.toList != u.t.toList) = true := bne_iff_ne.2 (fun e => ht (ba_ext2 e))
     rw [decide_eq_false ht] at HEQ
     clear ht
     go_enter Tryz.func19, Tryz.ntmps19
     go_wp2
     go_ret
     exact ⟨by rw [HEQ.out]; rfl, HB0.out⟩
   have t3 : (v.t.toList == u.t.toList) = true := by rw [ht]; simp
   have t4 : (v.t.toList != u.t.toList) = false := by rw [ht]; simp
   rw [decide_eq_true ht] at HEQ
   clear ht
   by_cases hm : v.names.length = u.names.length
   case neg =>
     have t5 : ((v.names.length : Int) != (u.names.length : Int)) = true := by rw [bne_iff_ne]; omega
     have t6 : (v.names.length != u.names.length) = true := by rw [bne_iff_ne]; omega
     rw [decide_eq_false (fun e : v.names = u.names => hm (by rw [e]))] at HEQ
     clear hm
     go_enter Tryz.func19, Tryz.ntmps19
     go_wp2
     go_ret
     exact ⟨by rw [HEQ.out]; rfl, HB0.out⟩
   by_cases hl : v.items.length = u.items.length
   case neg =>
     have t5 : ((v.items.length : Int) != (u.items.length : Int)) = true := by rw [bne_iff_ne]; omega
     have t6 : (v.items.length != u.items.length) = true := by rw [bne_iff_ne]; omega
     have t7 : ((v.names.length : Int) != (u.names.length : Int)) = false := by rw [bne_eq_false_iff_eq]; omega
     have t8 : (v.names.length != u.names.length) = false := by rw [bne_eq_false_iff_eq]; omega
     rw [decide_eq_false hl] at HEQ
     clear hl hm
     go_enter Tryz.func19, Tryz.ntmps19
     go_wp2
     go_ret
     exact ⟨by rw [HEQ.out]; simp, HB0.out⟩
   rw [decide_eq_true hl] at HEQ
   simp only [Bool.true_and] at HEQ
   rw [← hl, ← hm]
   obtain ⟨ni, hni⟩ : ∃ ni, ni = v.items.length := ⟨_, rfl⟩
   obtain ⟨nn, hnn⟩ : ∃ nn, nn = v.names.length := ⟨_, rfl⟩
   rw [← hni, ← hnn]
   rw [← hni] at b3
   rw [← hnn] at b2
   have HNI := Lib.hid hni
   have HNU := Lib.hid (show u.items.length = ni by rw [hni, hl])
   have HNN := Lib.hid hnn
   have HNM := Lib.hid (show u.names.length = nn by rw [hnn, hm])
   clear hl hni hm hnn HB0
   have hx0 : ((w.alloc (.cells #[.int .u8 v.kind, .int .i64 v.n, .string v.t, .slice an nn cn, .slice ai ni ci] 30)).alloc (.cells #[.int .u8 u.kind, .int .i64 u.n, .string u.t, .slice an' nn cn', .slice ai' ni ci'] 30)).heap[w.heap.size]? = some (.cells #[.int .u8 v.kind, .int .i64 v.n, .string v.t, .slice an nn cn, .slice ai ni ci] 30 (0, 0)) := (Below.heap_alloc _ _ _ (by simp)).trans (heap_alloc_new w _)
   have hy0 : ((w.alloc (.cells #[.int .u8 v.kind, .int .i64 v.n, .string v.t, .slice an nn cn, .slice ai ni ci] 30)).alloc (.cells #[.int .u8 u.kind, .int .i64 u.n, .string u.t, .slice an' nn cn', .slice ai' ni ci'] 30)).heap[w.heap.size + 1]? = some (.cells #[.int .u8 u.kind, .int .i64 u.n, .string u.t, .slice an' nn cn', .slice ai' ni ci'] 30 (0, 0)) := by
     have := heap_alloc_new (w.alloc (.cells #[.int .u8 v.kind, .int .i64 v.n, .string v.t, .slice an nn cn, .slice ai ni ci] 30)) (.cells #[.int .u8 u.kind, .int .i64 u.n, .string u.t, .slice an' nn cn', .slice ai' ni ci'] 30)
     rwa [show (w.alloc (.cells #[.int .u8 v.kind, .int .i64 v.n, .string v.t, .slice an nn cn, .slice ai ni ci] 30)).heap.size = w.heap.size + 1 by simp] at this
   have HB0 := Lib.hid (show Below w.heap.size w ((w.alloc (.cells #[.int .u8 v.kind, .int .i64 v.n, .string v.t, .slice an nn cn, .slice ai ni ci] 30)).alloc (.cells #[.int .u8 u.kind, .int .i64 u.n, .string u.t, .slice an' nn cn', .slice ai' ni ci'] 30)) from ((Below.refl _ _).alloc (Nat.le_refl _) _).alloc (by simp) _)
   have HX0 := Lib.hid hx0
   have HY0 := Lib.hid hy0
   clear hx0 hy0
   -- what each later world gives
   have HW := Lib.hid (show ∀ w' : World, Below (w.heap.size + 2) ((w.alloc (.cells #[.int .u8 v.kind, .int .i64 v.n, .string v.t, .slice an nn cn, .slice ai ni ci] 30)).alloc (.cells #[.int .u8 u.kind, .int .i64 u.n, .string u.t, .slice an' nn cn', .slice ai' ni ci'] 30)) w' →
       Below w.heap.size w w' ∧ w.heap.size + 2 ≤ w'.heap.size ∧ w'.cell? ⟨w.heap.size, 3, none⟩ = some (.slice an nn cn) ∧ w'.cell? ⟨w.heap.size, 4, none⟩ = some (.slice ai ni ci) ∧ w'.cell? ⟨w.heap.size + 1, 3, none⟩ = some (.slice an' nn cn') ∧ w'.cell? ⟨w.heap.size + 1, 4, none⟩ = some (.slice ai' ni ci') from fun w' h => by
     have hx : w'.heap[w.heap.size]? = _ := (h.block _ (by omega)).trans HX0.out
     have hy : w'.heap[w.heap.size + 1]? = _ := (h.block _ (by omega)).trans HY0.out
     exact ⟨HB0.out.trans (h.mono (by omega)), by have := h.size; simpa using this, box_cell hx rfl, box_cell hx rfl, box_cell hy rfl, box_cell hy rfl⟩)
   go_enter Tryz.func19, Tryz.ntmps19
   go_wp2
   clear t1 t2 t3 t4
   go_loopw [5] (fun i wr => ∃ k : Nat, k ≤ nn ∧ i = .int .i64 k ∧ v.names.take k = u.names.take k ∧ Below (w.heap.size + 2) ((w.alloc (.cells #[.int .u8 v.kind, .int .i64 v.n, .string v.t, .slice an nn cn, .slice ai ni ci] 30)).alloc (.cells #[.int .u8 u.kind, .int .i64 u.n, .string u.t, .slice an' nn cn', .slice ai' ni ci'] 30)) wr) (fun i _ => nn - (intOf i).toNat)
   case atStart => exact ⟨0, by omega, rfl, by simp, Below.refl _ _⟩
   case round =>
     obtain ⟨k, hk, rfl, hall, hbel⟩ := hrel
     obtain ⟨hbw, hz, c3, c4, d3', d4'⟩ := HW.out wr hbel
     have HA := Lib.hid hall
     have HB := Lib.hid hbel
     have HBW := Lib.hid hbw
     clear hall hbel hbw
     by_cases hlt : k < nn
     · have hl1 : k < v.names.length := by rw [← HNN.out]; exact hlt
       have hl2 : k < u.names.length := by rw [HNM.out]; exact hlt
       obtain ⟨p, f, rfl, _, _, y1⟩ := (H3.out.below HBW.out hhi (Nat.le_refl _) (Nat.le_refl _)).at k hl1
       obtain ⟨p', f', rfl, _, _, y2⟩ := (H3'.out.below HBW.out hhi (Nat.le_refl _) (Nat.le_refl _)).at k hl2
       have g1 : 0 ≤ (k : Int) := by omega
       have g2 : (k : Int) < (nn : Int) := by omega
       by_cases he : v.names[k] = u.names[k]
       · have HF := Lib.hid (take_eq_snoc hl1 hl2 HA.out he)
         have t1 : (v.names[k].toList == u.names[k].toList) = true := by rw [he]; simp
         have t2 : (v.names[k].toList != u.names[k].toList) = false := by rw [he]; simp
         clear he
         generalize v.names[k] = na at *
         generalize u.names[k] = nb at *
         go_wp2_with fail
         go_quiet (fail)
         go_wp2
         go_roundw
         case rel => exact ⟨k + 1, by omega, by go_num, HF.out, Below.drewN HB.out _⟩
         case measure => simp [intOf]; omega
       · have HF := Lib.hid (show decide (v.names = u.names) = false from decide_eq_false (fun e => he (by simp only [e])))
         have t1 : (v.names[k].toList == u.names[k].toList) = false := beq_eq_false_iff_ne.2 (fun e => he (ba_ext2 e))
         have t2 : (v.names[k].toList != u.names[k].toList) = true := bne_iff_ne.2 (fun e => he (ba_ext2 e))
         clear he
         generalize v.names[k] = na at *
         generalize u.names[k] = nb at *
         go_wp2_with fail
         go_quiet (fail)
         go_wp2
         go_ret
         exact ⟨by rw [HEQ.out, HF.out]; rfl, Below.drewN HBW.out _⟩
     · have HNE := Lib.hid (show v.names = u.names by
         have := HA.out; rwa [List.take_of_length_le (by rw [← HNN.out]; omega), List.take_of_length_le (by rw [HNM.out]; omega)] at this)
       rw [decide_eq_true HNE.out, Bool.true_and] at HEQ
       obtain ⟨k1, rfl⟩ : ∃ k1 : Nat, k1 = k := ⟨_, rfl⟩
       obtain ⟨wa, rfl⟩ : ∃ wa : World, wa = wr := ⟨_, rfl⟩
       go_wp2
       clear c3 c4 d3' d4'
       go_loopw [6] (fun i wr => ∃ k : Nat, k ≤ ni ∧ i = .int .i64 k ∧ JV.sameL (v.items.take k) (u.items.take k) = true ∧ Below (w.heap.size + 2) ((w.alloc (.cells #[.int .u8 v.kind, .int .i64 v.n, .string v.t, .slice an nn cn, .slice ai ni ci] 30)).alloc (.cells #[.int .u8 u.kind, .int .i64 u.n, .string u.t, .slice an' nn cn', .slice ai' ni ci'] 30)) wr) (fun i _ => ni - (intOf i).toNat)
       case atStart => exact ⟨0, by omega, rfl, by simp [JV.sameL], HB.out⟩
       case round =>
         clear HA HB HBW hz
         obtain ⟨k, hk2, rfl, hall, hbel⟩ := hrel
         obtain ⟨hbw, hz, c3, c4, d3', d4'⟩ := HW.out wr hbel
         have HA := Lib.hid hall
         have HB := Lib.hid hbel
         have HBW := Lib.hid hbw
         clear hall hbel hbw c3 d3'
         by_cases hlt2 : k < ni
         · have hltv : k < v.items.length := by rw [← HNI.out]; exact hlt2
           have hltu : k < u.items.length := by rw [HNU.out]; exact hlt2
           obtain ⟨p, f, e0, e1, e2, e3, e4, rfl, _, _, g0, g1, g2, g3, g4, hr⟩ := (H4.out.below HBW.out hhi (Nat.le_refl _) (Nat.le_refl _)).at k hltv
           obtain ⟨p', f', e0', e1', e2', e3', e4', rfl, _, _, g0', g1', g2', g3', g4', hr'⟩ := (H4'.out.below HBW.out hhi (Nat.le_refl _) (Nat.le_refl _)).at k hltu
           have hw1 := JV.wts_get v.items k hltv
           have hw2 := JV.wts_get u.items k hltu
           have HTK := Lib.hid (JV.sameL_take v.items u.items k hltv hltu)
           have HTB := Lib.hid (JV.sameL_bad v.items u.items k hltv hltu)
           have HC := Lib.hid (IH.out v.items[k] u.items[k] _ _ lo hi wr.drew (by omega) (by omega) (by omega) (by show hi ≤ wr.heap.size; omega) (Rep.carry (w := wr) (w' := wr.drew) (Nat.le_refl _) (Nat.le_refl _) (fun _ _ _ => rfl) _ _ hr) (Rep.carry (w := wr) (w' := wr.drew) (Nat.le_refl _) (Nat.le_refl _) (fun _ _ _ => rfl) _ _ hr'))
           clear hr hr'
           generalize v.items[k] = it at *
           generalize u.items[k] = jt at *
           have m1 : 0 ≤ (k : Int) := by omega
           have m2 : (k : Int) < (ni : Int) := by omega
           cases hsb : it.sameB jt
           · have HF := Lib.hid (HTB.out hsb)
             rw [hsb] at HC
             clear hsb
             go_wp2_with fail
             go_still_tail 10, (by kernel_rfl)
             go_wp2_with fail
             refine HC.out.mono ?_
             rintro e w5 ⟨rfl, hb5⟩
             have HB5 := Lib.hid (HBW.out.drew.trans (hb5.mono (by show w.heap.size ≤ wr.heap.size; omega)))
             clear hb5 g0 g1 g2 g3 g4 g0' g1' g2' g3' g4' c4 d4'
             go_wp2
             go_ret
             exact ⟨by rw [HEQ.out, HF.out]; rfl, HB5.out⟩
           · have HF := Lib.hid (show JV.sameL (v.items.take (k + 1)) (u.items.take (k + 1)) = true by rw [HTK.out, HA.out, hsb]; rfl)
             rw [hsb] at HC
             clear hsb
             go_wp2_with fail
             go_still_tail 10, (by kernel_rfl)
             go_wp2_with fail
             refine HC.out.mono ?_
             rintro e w5 ⟨rfl, hb5⟩
             have HB5 := Lib.hid (HB.out.drew.trans (hb5.mono (by show w.heap.size + 2 ≤ wr.heap.size; omega)))
             clear hb5 g0 g1 g2 g3 g4 g0' g1' g2' g3' g4' c4 d4'
             go_wp2
             go_roundw
             case rel => exact ⟨k + 1, by omega, by go_num, HF.out, HB5.out⟩
             case measure => simp [intOf]; omega
         · have HF := Lib.hid (show JV.sameL v.items u.items = true by
             have := HA.out; rwa [List.take_of_length_le (by rw [← HNI.out]; omega), List.take_of_length_le (by rw [HNU.out]; omega)] at this)
           go_wp2
           go_ret
           exact ⟨by rw [HEQ.out, HF.out]; rfl, HBW.out⟩
def hashLoop : List ByteArray → List JV → List Key2 → List Key2 × Int
 | n :: ns, x :: xs, acc => if roleOk n.data.toList = false then ([], 3) else if x.kind ≠ 3 then ([], 10) else if pubOk x.t.data.toList = false then ([], 3) else hashLoop ns xs (acc ++ [(n, x.t)])
 | _, _, acc => (acc, 0)
def hashesOfJ (v : JV) : List Key2 × Int :=
 if v.mayB = false then ([], 3) else if v.kind ≠ 5 then ([], 10) else if 4 < v.names.length then ([], 5) else if v.names.length = 0 then ([], 4) else hashLoop v.names v.items []
theorem hashLoop_at {ns : List ByteArray} {xs : List JV} {acc : List Key2} (k : Nat) (h1 : k < ns.length) (h2 : k < xs.length) :
   hashLoop (ns.drop k) (xs.drop k) acc = if roleOk ns[k].data.toList = false then ([], 3) else if xs[k].kind ≠ 3 then ([], 10) else if pubOk xs[k].t.data.toList = false then ([], 3) else hashLoop (ns.drop (k + 1)) (xs.drop (k + 1)) (acc ++ [(ns[k], xs[k].t)]) := by
 rw [List.drop_eq_getElem_cons h1, List.drop_eq_getElem_cons h2]; rfl
theorem hashLoop_end {ns : List ByteArray} {xs : List JV} {acc : List Key2} (k : Nat) (h1 : ns.length ≤ k) : hashLoop (ns.drop k) (xs.drop k) acc = (acc, 0) := by
 rw [List.drop_eq_nil_of_le h1]; rfl
theorem hashLoop_back : ∀ (l acc : List Key2), (∀ k ∈ l, roleOk k.1.data.toList = true ∧ pubOk k.2.data.toList = true) → hashLoop (l.map (·.1)) (l.map fun k => txtJ k.2) acc = (acc ++ l, 0)
 | [], acc, _ => by simp [hashLoop]
 | k :: r, acc, h => by
   obtain ⟨h1, h2⟩ := h k (List.mem_cons_self ..)
   simp only [List.map_cons, hashLoop]
   rw [if_neg (by rw [h1]; decide), if_neg (by simp [txtJ, JV.kind]), if_neg (by show ¬ pubOk k.2.data.toList = false; rw [h2]; decide)]
   rw [hashLoop_back r _ fun q hq => h q (List.mem_cons_of_mem _ hq)]
   show (acc ++ [(k.1, (txtJ k.2).t)] ++ r, (0 : Int)) = _
   simp [txtJ, JV.t]
theorem wts_item : ∀ (l : List JV) (k : Nat) (h : k < l.length), l[k].wt ≤ JV.wts l
 | x :: r, 0, _ => by simp only [JV.wts, List.getElem_cons_zero]; omega
 | x :: r, k + 1, h => by
   have := wts_item r k (by simpa using h)
   simp only [JV.wts, List.getElem_cons_succ]; omega
def hasSt (v : JV) (st : PS) : List Key2 × PS := if pickHas v hasN st then ((hashesOfJ (pickObj v hasN 4 st).1).1, (pickObj v hasN 4 st).2.fail (hashesOfJ (pickObj v hasN 4 st).1).2) else ([], st)
def lenSt (v : JV) (st : PS) : Int × PS := if pickHas v lenN st then pickNum v lenN 0 1099511627776 st else (-1, st)
def pinOfK (f : ByteArray) (v : JV) : PinV × Int :=
 let a := pickNum v verN 1 1099511627776 ⟨[], 0⟩
 let b := lenSt v a.2
 let c := hasSt v b.2
 if pickDone v c.2 ≠ 0 then (pinZ, pickDone v c.2) else (⟨f, a.1, b.1, c.1⟩, 0)
theorem pinOfK_eq (f : ByteArray) (v : JV) : pinOfK f v = if pickDone v (hasSt v (lenSt v (pickNum v verN 1 1099511627776 ⟨[], 0⟩).2).2).2 ≠ 0 then (pinZ, pickDone v (hasSt v (lenSt v (pickNum v verN 1 1099511627776 ⟨[], 0⟩).2).2).2) else (⟨f, (pickNum v verN 1 1099511627776 ⟨[], 0⟩).1, (lenSt v (pickNum v verN 1 1099511627776 ⟨[], 0⟩).2).1, (hasSt v (lenSt v (pickNum v verN 1 1099511627776 ⟨[], 0⟩).2).2).1⟩, 0) := rfl
def PinOfR (C : JV → Prop) (f : ByteArray) (v : JV) (r : PinV × Int) : Prop :=
 (((roleOf f).isNone || !v.mayB) = true ∧ r = (pinZ, 3)) ∨ (((roleOf f).isNone || !v.mayB) = false ∧ ∃ u, C u ∧ r = pinOfK f u)
theorem lookL_wt : ∀ {ns : List ByteArray} {xs : List JV} {y : ByteArray} {x : JV}, lookL ns xs y = some x → x.wt ≤ JV.wts xs
 | n :: ns, z :: xs, y, x, h => by
   rw [lookL] at h
   simp only [JV.wts]
   split at h
   · injection h with h; subst h; omega
   · have := lookL_wt h; omega
theorem pickObj_wt {v : JV} {y : ByteArray} {most : Nat} {st : PS} (h : v.wt ≤ 4294967296) : (pickObj v y most st).1.wt ≤ 4294967296 := by
 have hz : zeroJ.wt ≤ 4294967296 := by decide
 have h2 := v.wt_bd
 unfold pickObj
 split
 · exact hz
 · split
   · exact hz
   · rename_i it hit
     have := lookL_wt (show lookL v.names v.items y = some it from hit)
     split
     · exact hz
     · split
       · exact hz
       · show it.wt ≤ _; omega
theorem names_wt {v : JV} (h : v.wt ≤ 4294967296) : ∀ i (hi : i < v.names.length), v.names[i].size ≤ 4294967296 := fun i hi => by
 have h1 := v.wt_eq
 have : ∀ (l : List ByteArray) (i : Nat) (hi : i < l.length), l[i].size ≤ bytesSum l := by
   intro l
   induction l with
   | nil => intro i hi; simp at hi
   | cons a r ih =>
     intro i hi
     rcases i with _ | i
     · simp [bytesSum]; omega
     · have := ih i (by simpa using hi)
       simp [bytesSum]; omega
 have := this v.names i hi
 omega
def HashOfPost (v : JV) (w : World) (e : Ending) (w' : World) : Prop :=
 ∃ a c, e = .returned (.tuple #[.slice a (hashesOfJ v).1.length c, .int .i64 (hashesOfJ v).2]) ∧ KeysW w' w.heap.size w'.heap.size a (hashesOfJ v).1 ∧ (hashesOfJ v).1.length ≤ c ∧ Below w.heap.size w w'
theorem hashOf_no {v : JV} {er : Int} (h : hashesOfJ v = ([], er)) {w w' : World} (hb : Below w.heap.size w w') : HashOfPost v w (.returned (.tuple #[.slice none 0 0, .int .i64 er])) w' := by
 unfold HashOfPost
 rw [h]
 exact ⟨none, 0, rfl, KeysW.nil _ _ _ _, Nat.le_refl _, hb⟩
theorem owns_cap {w : World} {base e size n c : Nat} {a : Option Addr} {xs : List Value} (h : w.ownsRow base e size (.slice a n c) n xs) : n ≤ c := by
 rcases h.2 with ⟨hv, h0⟩ | ⟨g, cap, cur, hv, _, _, hc, _⟩
 · omega
 · simp only [Value.slice.injEq] at hv
   obtain ⟨-, -, rfl⟩ := hv
   exact hc
set_option maxHeartbeats 4000000 in
set_option maxRecDepth 100000 in
theorem recHashesOf (v : JV) (x : Value) (w : World) (hN : v.wt ≤ 4294967296) (hR : Rep w 0 w.heap.size v x) : Calls Tryz.prog 64 #[x] w (HashOfPost v w) := by
 obtain ⟨an, cn, ai, ci, hx, hcn, hci, h3, h4⟩ := hR.parts
 subst hx
 obtain ⟨W2, hW2⟩ : ∃ W2, W2 = w.alloc (.cells #[.int .u8 v.kind, .int .i64 v.n, .string v.t, .slice an v.names.length cn, .slice ai v.items.length ci] 30) := ⟨_, rfl⟩
 have hb2 : Below w.heap.size w W2 := by rw [hW2]; exact (Below.refl _ _).alloc (Nat.le_refl _) _
 have hx0 : W2.heap[w.heap.size]? = some (.cells #[.int .u8 v.kind, .int .i64 v.n, .string v.t, .slice an v.names.length cn, .slice ai v.items.length ci] 30 (0, 0)) := by rw [hW2]; exact heap_alloc_new w _
 have HM := Lib.hid (valueMay v _ W2 hN (hR.below hb2 (Nat.le_refl _) (Nat.zero_le _) hb2.size))
 have HC := Lib.hid (show ∀ w' : World, Below W2.heap.size W2 w' → w'.cell? ⟨w.heap.size, 0, none⟩ = some (.int .u8 v.kind) ∧ w'.cell? ⟨w.heap.size, 1, none⟩ = some (.int .i64 v.n) ∧ w'.cell? ⟨w.heap.size, 2, none⟩ = some (.string v.t) ∧ w'.cell? ⟨w.heap.size, 3, none⟩ = some (.slice an v.names.length cn) ∧ w'.cell? ⟨w.heap.size, 4, none⟩ = some (.slice ai v.items.length ci) from fun w' h => by
   have x := (h.block _ (heap_lt hx0)).trans hx0
   exact ⟨box_cell x rfl, box_cell x rfl, box_cell x rfl, box_cell x rfl, box_cell x rfl⟩)
 have HST := Lib.hid (show ∀ w' : World, Below W2.heap.size W2 w' → StrsAt w' 0 w'.heap.size an v.names ∧ ValsAt w' 0 w'.heap.size ai v.items from fun w' h => ⟨h3.below (hb2.trans (h.mono hb2.size)) (Nat.le_refl _) (Nat.zero_le _) (Nat.le_trans hb2.size h.size), h4.below (hb2.trans (h.mono hb2.size)) (Nat.le_refl _) (Nat.zero_le _) (Nat.le_trans hb2.size h.size)⟩)
 have HB2 := Lib.hid hb2
 have HW := Lib.hid hW2
 have HZ2 := Lib.hid (show w.heap.size < W2.heap.size from heap_lt hx0)
 clear h3 h4 hR hW2 hb2 hx0
 obtain ⟨c0, c1, c2, c3, c4⟩ := HC.out W2 (Below.refl _ _)
 go_enter Tryz.func64, Tryz.ntmps64
 go_upto_region 1 with fail
 rw [← HW.out]
 cases hm : v.mayB with
 | false =>
   have HX := Lib.hid (show hashesOfJ v = ([], 3) by unfold hashesOfJ; rw [if_pos hm])
   rw [hm] at HM
   clear hm
   go_wp2_with fail
   refine HM.out.mono ?_
   clear HM c0 c1 c2 c3 c4
   rintro r w1 ⟨rfl, hb1⟩
   have HB1 := Lib.hid (HB2.out.trans (hb1.mono HB2.out.size))
   clear hb1
   go_wp2
   go_ret2
   exact hashOf_no HX.out HB1.out
 | true =>
   have HMB := Lib.hid hm
   rw [hm] at HM
   clear hm
   go_wp2_with fail
   refine HM.out.mono ?_
   clear HM c0 c1 c2 c3 c4
   rintro r w1 ⟨rfl, hb1⟩
   have HB1 := Lib.hid hb1
   obtain ⟨c0, c1, c2, c3, c4⟩ := HC.out w1 hb1
   clear hb1
   by_cases hk : v.kind = 5
   case neg =>
     have hd : ((v.kind : Int) != 5) = true := bne_iff_ne.2 hk
     have HX := Lib.hid (show hashesOfJ v = ([], 10) by unfold hashesOfJ; rw [if_neg (by rw [HMB.out]; decide), if_pos hk])
     clear hk
     go_wp2
     go_ret2
     exact hashOf_no HX.out (HB2.out.trans (HB1.out.mono HB2.out.size))
   have hd : ((v.kind : Int) != 5) = false := by rw [hk]; rfl
   obtain ⟨hri, hle, htx⟩ := may_obj HMB.out hk
   have HTS := Lib.hid (show ∀ i (h : i < v.names.length), v.names[i].size ≤ 4294967296 from fun i hi => by
     have := List.all_eq_true.1 htx _ (List.getElem_mem hi)
     unfold txtOk at this; simp at this; omega)
   have HK := Lib.hid hk
   have HLE := Lib.hid hle
   clear hri htx hk hle
   by_cases h4 : 4 < v.names.length
   · have hd2 : decide ((4 : Int) < v.names.length) = true := by simp; omega
     have HX := Lib.hid (show hashesOfJ v = ([], 5) by unfold hashesOfJ; rw [if_neg (by rw [HMB.out]; decide), if_neg (by rw [HK.out]; decide), if_pos h4])
     go_wp2
     go_ret2
     exact hashOf_no HX.out (HB2.out.trans (HB1.out.mono HB2.out.size))
   have hd2 : decide ((4 : Int) < v.names.length) = false := by simp; omega
   by_cases h0 : v.names.length = 0
   · have hd3 : ((v.names.length : Int) == 0) = true := by rw [h0]; rfl
     have HX := Lib.hid (show hashesOfJ v = ([], 4) by unfold hashesOfJ; rw [if_neg (by rw [HMB.out]; decide), if_neg (by rw [HK.out]; decide), if_neg h4, if_pos h0])
     go_wp2
     go_ret2
     exact hashOf_no HX.out (HB2.out.trans (HB1.out.mono HB2.out.size))
   have hd3 : ((v.names.length : Int) == 0) = false := beq_eq_false_iff_ne.2 (by omega)
   have HX := Lib.hid (show hashesOfJ v = hashLoop v.names v.items [] by unfold hashesOfJ; rw [if_neg (by rw [HMB.out]; decide), if_neg (by rw [HK.out]; decide), if_neg h4, if_neg h0])
   obtain ⟨i1, hi1, hy0, hy1, hy2⟩ := info_parts infoHash
   have h1z : W2.heap.size ≤ w1.heap.size := HB1.out.size
   go_upto_region 11 with (at_make; refine wpList_make_own _ rfl (.const (.int .i64 0)) (.tmp 24) 34 rfl W2.heap.size 62 i1 _ 2 Tryz.underlying34 hi1 hy0 hy1 .i64 .i64 _ v.names.length rfl rfl rfl (by rw [hy2]; omega) (by unfold maxLen; omega) h1z ?_; intro w4 hown4 hgrow4; have HO4 := Lib.hid hown4; have HB4 := Lib.hid (below_grown (v := .slice none 0 0) HB1.out h1z hgrow4 (fun b hb => by cases hb)); obtain ⟨c0, c1, c2, c3, c4⟩ := HC.out w4 HB4.out; clear hown4 hgrow4)
   clear c0 c1 c2 c3 c4 hd hd2 hd3
   obtain ⟨nn, hnn⟩ : ∃ nn, nn = v.names.length := ⟨_, rfl⟩
   rw [← hnn] at HO4 ⊢
   have HNN := Lib.hid hnn
   have hn0 : 0 < nn := by omega
   have hn4 : nn ≤ 4 := by omega
   clear hnn h0 h4
   go_loopw [4, 5, 6, 7, 29] (fun s4 _ _ _ i wr => ∃ (k : Nat) (acc : List Key2), k ≤ nn ∧ i = .int .i64 k ∧ acc.length = k ∧ hashesOfJ v = hashLoop (v.names.drop k) (v.items.drop k) acc ∧ (∃ g cap, s4 = .slice (some ⟨g, 0, none⟩) k cap) ∧ wr.ownsRow W2.heap.size 62 2 s4 k (acc.flatMap encK) ∧ Below W2.heap.size W2 wr) (fun _ _ _ _ i _ => nn - (intOf i).toNat)
   case atStart => exact ⟨0, [], by omega, rfl, rfl, HX.out, ⟨_, _, rfl⟩, HO4.out, HB4.out⟩
   case round =>
     obtain ⟨k, acc, hk, rfl, hacc, hh, hsl, hown, hb⟩ := hrel
     have HB := Lib.hid hb
     have HH := Lib.hid hh
     have HOW := Lib.hid hown
     have HAC := Lib.hid hacc
     obtain ⟨g0, cap0, rfl⟩ := hsl
     clear HO4 HB4 HB1 h1z hh hown hacc
     obtain ⟨c0, c1, c2, c3, c4⟩ := HC.out wr hb
     by_cases hlt : k < nn
     · have hst := HST.out wr hb
       have hkn : k < v.names.length := by have := HNN.out; omega
       have hki : k < v.items.length := by have := HLE.out; have := HNN.out; omega
       have hs2k : ∃ b2 o2, an = some ⟨b2, o2, none⟩ ∧ b2 < wr.heap.size ∧ wr.cell? ⟨b2, o2 + k, none⟩ = some (.string v.names[k]) := by
         rcases hst.1 with h | ⟨b, off, ha, _, hb', hc⟩
         · have := congrArg List.length h; rw [List.length_nil] at this; omega
         · exact ⟨b, off, ha, hb', hc k hkn⟩
       have hs3k : ∃ b3 o3 an3 cn3 ai3 ci3, ai = some ⟨b3, o3, none⟩ ∧ b3 < wr.heap.size ∧ wr.cell? ⟨b3, o3 + k * 5, none⟩ = some (.int .u8 v.items[k].kind) ∧ wr.cell? ⟨b3, o3 + k * 5 + 1, none⟩ = some (.int .i64 v.items[k].n) ∧ wr.cell? ⟨b3, o3 + k * 5 + 2, none⟩ = some (.string v.items[k].t) ∧ wr.cell? ⟨b3, o3 + k * 5 + 3, none⟩ = some (.slice an3 v.items[k].names.length cn3) ∧ wr.cell? ⟨b3, o3 + k * 5 + 4, none⟩ = some (.slice ai3 v.items[k].items.length ci3) := by
         rcases hst.2 with h | ⟨b, off, ha, _, hb', _, hr⟩
         · have := congrArg List.length h; rw [List.length_nil] at this; omega
         · obtain ⟨x0, x1, x2, x3, x4, m0, m1, m2, m3, m4, _, hR⟩ := hr.at k hki
           obtain ⟨an3, cn3, ai3, ci3, hx, _, _, _, _⟩ := hR.parts
           simp only [Value.agg.injEq, Array.mk.injEq, List.cons.injEq, and_true] at hx
           obtain ⟨rfl, rfl, rfl, rfl, rfl⟩ := hx
           exact ⟨b, off, an3, cn3, ai3, ci3, ha, hb', m0, m1, m2, m3, m4⟩
       obtain ⟨b2, o2, rfl, hb2', n0⟩ := hs2k
       obtain ⟨b3, o3, an3, cn3, ai3, ci3, rfl, hb3', m0, m1, m2, m3, m4⟩ := hs3k
       have HSTEP := Lib.hid (HH.out.trans (hashLoop_at k hkn hki))
       have HNS := Lib.hid (HTS.out k hkn)
       have HIT := Lib.hid (show v.items[k].t.size ≤ 4294967296 by
         have h1 := wts_item v.items k hki
         have h2 := v.wt_bd
         have h3 := v.items[k].wt_bd
         omega)
       obtain ⟨nm, hnm⟩ : ∃ nm, nm = v.names[k]'hkn := ⟨_, rfl⟩
       obtain ⟨it, hit⟩ : ∃ it, it = v.items[k]'hki := ⟨_, rfl⟩
       rw [← hnm] at n0 HSTEP HNS
       rw [← hit] at m0 m1 m2 m3 m4 HSTEP HIT
       have HNR := Lib.hid (fun w' => nameRole nm w' (Nat.le_trans HNS.out (by decide)))
       have HDG := Lib.hid (fun w' => recDigits it.t w' (Nat.le_trans HIT.out (by decide)))
       clear hnm hit hst hb hkn
       cases hro : roleOk nm.data.toList with
       | false =>
         have HF := Lib.hid (show hashesOfJ v = ([], 3) by rw [HSTEP.out, if_pos hro])
         rw [hro] at HNR
         clear hro
         go_wp2_with fail
         refine (HNR.out wr).mono ?_
         rintro r w5 ⟨rfl, rfl⟩
         go_wp2
         go_ret2
         exact hashOf_no HF.out (HB2.out.trans (HB.out.mono HB2.out.size))
       | true =>
       have HRO := Lib.hid hro
       rw [hro] at HNR
       clear hro
       go_wp2_with fail
       refine (HNR.out wr).mono ?_
       rintro r w5 ⟨rfl, rfl⟩
       go_upto_region 16 with fail
       obtain ⟨W6, hW6⟩ : ∃ W6, W6 = wr.alloc (.cells #[.int .u8 it.kind, .int .i64 it.n, .string it.t, .slice an3 it.names.length cn3, .slice ai3 it.items.length ci3] 30) := ⟨_, rfl⟩
       have hb6 : Below wr.heap.size wr W6 := by rw [hW6]; exact (Below.refl _ _).alloc (Nat.le_refl _) _
       have hx6 : W6.heap[wr.heap.size]? = some (.cells #[.int .u8 it.kind, .int .i64 it.n, .string it.t, .slice an3 it.names.length cn3, .slice ai3 it.items.length ci3] 30 (0, 0)) := by rw [hW6]; exact heap_alloc_new wr _
       have y0 : W6.cell? ⟨wr.heap.size, 0, none⟩ = some (.int .u8 it.kind) := box_cell hx6 rfl
       have y2 : W6.cell? ⟨wr.heap.size, 2, none⟩ = some (.string it.t) := box_cell hx6 rfl
       have HB6 := Lib.hid (HB.out.trans (hb6.mono HB.out.size))
       have HO6 := Lib.hid (owns_below HOW.out hb6)
       rw [← hW6]
       clear hW6 hx6 hb6 m0 m1 m2 m3 m4 n0 c0 c1 c2 c3 c4
       by_cases hik : it.kind = 3
       case neg =>
         have hd : ((it.kind : Int) != 3) = true := bne_iff_ne.2 hik
         have HF := Lib.hid (show hashesOfJ v = ([], 10) by rw [HSTEP.out, if_neg (by rw [HRO.out]; decide), if_pos hik])
         clear hik
         go_wp2
         go_ret2
         exact hashOf_no HF.out (HB2.out.trans (HB6.out.mono HB2.out.size))
       have hd : ((it.kind : Int) != 3) = false := by rw [hik]; rfl
       have HIK := Lib.hid hik
       clear hik
       cases hpo : pubOk it.t.data.toList with
       | false =>
         have HF := Lib.hid (show hashesOfJ v = ([], 3) by rw [HSTEP.out, if_neg (by rw [HRO.out]; decide), if_neg (by rw [HIK.out]; decide), if_pos hpo])
         rw [hpo] at HDG
         clear hpo
         go_wp2_with fail
         refine (HDG.out W6).mono ?_
         rintro r w7 ⟨rfl, rfl⟩
         go_wp2
         go_ret2
         exact hashOf_no HF.out (HB2.out.trans (HB6.out.mono HB2.out.size))
       | true =>
       have HF := Lib.hid (show hashesOfJ v = hashLoop (v.names.drop (k + 1)) (v.items.drop (k + 1)) (acc ++ [(nm, it.t)]) by rw [HSTEP.out, if_neg (by rw [HRO.out]; decide), if_neg (by rw [HIK.out]; decide), if_neg (by rw [hpo]; decide)])
       rw [hpo] at HDG
       clear hpo
       go_wp2_with fail
       refine (HDG.out W6).mono ?_
       rintro r w7 ⟨rfl, rfl⟩
       have h6z : W2.heap.size ≤ W6.heap.size := HB6.out.size
       have hbe : Below W6.heap.size W6 (W6.alloc (.cells #[.string nm, .string it.t] 62)) := (Below.refl _ _).alloc (Nat.le_refl _) _
       have HO7 := Lib.hid (owns_below HO6.out hbe)
       have HB7 := Lib.hid (HB6.out.trans (hbe.mono h6z))
       have h7z : W2.heap.size ≤ (W6.alloc (.cells #[.string nm, .string it.t] 62)).heap.size := HB7.out.size
       clear hbe
       go_wp2_with (at_builtin; refine wpList_append_lies _ rfl (.tmp 49) (.tmp 54) 34 rfl W2.heap.size 62 i1 _ 2 32 Tryz.underlying34 hi1 hy0 hy1 hy2 rfl (by omega) (.slice (some ⟨g0, 0, none⟩) k cap0) k (acc.flatMap encK) rfl HO7.out ⟨W6.heap.size, 0, none⟩ 1 1 (encK (nm, it.t)) rfl rfl (World.news_of_block (cs := #[.string nm, .string it.t]) (t := 62) (fr := (0, 0)) (heap_alloc_new W6 _)) (fun u hu => by simp [encK] at hu; rcases hu with rfl | rfl <;> rfl) (by omega) (by unfold maxLen; omega) (by omega) h7z _ rfl ?_; intro g2 cap3 w8 hown8 hgrow8 hat8 hlt8; have HO8 := Lib.hid hown8; have HB8 := Lib.hid (below_grown HB7.out h7z hgrow8 (fun b hb => (HO7.out.lt b hb).1)); clear hown8 hgrow8 hat8)
       go_roundw
       case rel => exact ⟨k + 1, acc ++ [(nm, it.t)], by omega, by go_num, by rw [List.length_append, HAC.out]; rfl, HF.out, ⟨g2, cap3, rfl⟩, by rw [List.flatMap_append]; simpa using HO8.out, HB8.out⟩
       case measure => simp [intOf]; omega
     · have hkk : v.names.length ≤ k := by have := HNN.out; omega
       have HE := Lib.hid (HH.out.trans (hashLoop_end k hkk))
       have HKA := Lib.hid (owns_keysW HOW.out HAC.out.symm)
       have hkn : k = nn := by omega
       subst hkn
       clear hb
       go_wp2
       go_ret2
       obtain ⟨z, zc, hz, hzk⟩ := HKA.out
       show HashOfPost v w (.returned (.tuple #[.slice (some ⟨g0, 0, none⟩) k cap0, .int .i64 0])) wr
       unfold HashOfPost
       rw [HE.out]
       have hcap := owns_cap HOW.out
       simp only [Value.slice.injEq] at hz
       obtain ⟨rfl, hz2, rfl⟩ := hz
       exact ⟨_, _, by rw [← hz2], hzk.carry (Nat.le_of_lt HZ2.out) (Nat.le_refl _) (fun _ _ _ => rfl), by rw [← hz2]; exact hcap, HB2.out.trans (HB.out.mono HB2.out.size)⟩
end Go.Proofs.YtgghgcilpfdbjaaGreatDoor
