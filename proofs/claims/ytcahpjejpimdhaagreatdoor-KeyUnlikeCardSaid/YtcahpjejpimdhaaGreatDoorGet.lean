/- The contract of value.Get, of an object in the call's own memory whose names rise. -/
import Derived.Test.YtcahpjejpimdhaaGreatDoorFind
import Derived.Test.YtcahpjejpimdhaaGreatDoorCopy
import Derived.Laws.ResultCell
namespace Go.Proofs.YtcahpjejpimdhaaGreatDoor
open Go.RowKit

theorem set5 {W : World} {b t : Nat} {f : Nat → Value} (v0 v1 v2 v3 v4 : Value) (h : W.rowIs b t 5 f) :
    (((((W.setCell ⟨b, 0, none⟩ v0).setCell ⟨b, 1, none⟩ v1).setCell ⟨b, 2, none⟩ v2).setCell ⟨b, 3, none⟩ v3).setCell ⟨b, 4, none⟩ v4).rowIs b t 5 (pick5 v0 v1 v2 v3 v4) := by
  refine (((((h.set 0 v0).set 1 v1).set 2 v2).set 3 v3).set 4 v4).congr fun j hj => ?_
  rcases j with _ | _ | _ | _ | _ | j <;> first | rfl | omega
theorem below5 {B : Nat} {a W : World} {b : Nat} (v0 v1 v2 v3 v4 : Value) (h : Below B a W) (hb : B ≤ b) :
    Below B a (((((W.setCell ⟨b, 0, none⟩ v0).setCell ⟨b, 1, none⟩ v1).setCell ⟨b, 2, none⟩ v2).setCell ⟨b, 3, none⟩ v3).setCell ⟨b, 4, none⟩ v4) :=
  ((((h.setCell hb v0).setCell hb v1).setCell hb v2).setCell hb v3).setCell hb v4
theorem heap5 {W : World} {b k : Nat} (v0 v1 v2 v3 v4 : Value) (hk : k ≠ b) :
    (((((W.setCell ⟨b, 0, none⟩ v0).setCell ⟨b, 1, none⟩ v1).setCell ⟨b, 2, none⟩ v2).setCell ⟨b, 3, none⟩ v3).setCell ⟨b, 4, none⟩ v4).heap[k]? = W.heap[k]? := by
  rw [Below.heap_setCell _ _ _ _ hk, Below.heap_setCell _ _ _ _ hk, Below.heap_setCell _ _ _ _ hk, Below.heap_setCell _ _ _ _ hk, Below.heap_setCell _ _ _ _ hk]
theorem results_row_tmp {P : Program} {fn : Func} {p u : Tmp} {ty : TypeId} (h : fn.results = #[.cell p ty, .tmp u]) (tmps : Array Value) (w : World) (g : Nat) (t : TypeId) (cs : Array Value) (fr : Nat × Nat) (d : TypeDesc)
    (hp : tmps.getD p undef = .pointer (some ⟨g, 0, none⟩)) (hg : w.heap[g]? = some (.cells cs t fr))
    (hu : P.underlying ty = some d) (hd : (match d with | .struct _ | .array _ _ => true | _ => false) = true) (hi : (P.info? ty).map (·.size) = some cs.size) (x : Value) (hx : tmps.getD u undef = x) :
    (results fn tmps).run P w = .ok (.tuple #[.agg cs, x]) w := by
  rw [results_cell_tmp h, hp, hx]
  simp [asAddr, run_loadVar_row w g t ty cs fr d hg hu hd hi]

def zeroAgg : Value := .agg #[.int .u8 0, .int .i64 0, .string { data := #[] }, .slice none 0 0, .slice none 0 0]
def GetPost (v : JV) (x : ByteArray) (w : World) (e : Ending) (w' : World) : Prop :=
  ((∃ (r : Nat) (h : r < v.names.length) (h' : r < v.items.length), v.names[r] = x ∧ ∃ an cn ai ci, e = .returned (.tuple #[.agg #[.int .u8 v.items[r].kind, .int .i64 v.items[r].n, .string v.items[r].t, .slice an v.items[r].names.length cn, .slice ai v.items[r].items.length ci], .bool true]) ∧
      Rep w' w.heap.size w'.heap.size v.items[r] (.agg #[.int .u8 v.items[r].kind, .int .i64 v.items[r].n, .string v.items[r].t, .slice an v.items[r].names.length cn, .slice ai v.items[r].items.length ci])) ∨
    ((∀ t (h : t < v.names.length), v.names[t] ≠ x) ∧ e = .returned (.tuple #[zeroAgg, .bool false]))) ∧ Below w.heap.size w w'

set_option maxRecDepth 100000 in
set_option maxHeartbeats 400000 in
theorem valueGet (v : JV) (x : ByteArray) (y : Value) (w : World) (lo hi : Nat) (hN : v.wt ≤ 4294967296) (hlo : 0 < lo) (hhi : hi ≤ w.heap.size) (hR : Rep w lo hi v y) (hk : v.kind = 5) (hr : rises v.names = true) (hl : v.names.length = v.items.length) :
    Calls Tryz.prog 113 #[y, .string x] w (GetPost v x w) := by
  obtain ⟨an, cn, ai, ci, rfl, h1, h2, h3, h4⟩ := hR.parts
  obtain ⟨b1, b2, b3, b4⟩ := v.wt_bd
  have H3 := Lib.hid h3
  have H4 := Lib.hid h4
  have HR := Lib.hid hr
  clear h3 h4 hR hr
  obtain ⟨ni, hni⟩ : ∃ ni, ni = v.items.length := ⟨_, rfl⟩
  rw [hl, ← hni]
  rw [← hni] at b3 h2
  have HNI := Lib.hid hni
  have HL := Lib.hid hl
  clear hni hl
  go_enter Tryz.func113, Tryz.ntmps113
  go_wp2_with fail
  have HB0 := Lib.hid (show Below w.heap.size w ((w.alloc (.cells #[.int .u8 5, .int .i64 v.n, .string v.t, .slice an ni cn, .slice ai ni ci] 29)).alloc (.cells #[.int .u8 0, .int .i64 0, .string { data := #[] }, .slice none 0 0, .slice none 0 0] 29)) from ((Below.refl _ _).alloc (Nat.le_refl _) _).alloc (by simp) _)
  have hf := valueFind v.names x an cn ((w.alloc (.cells #[.int .u8 5, .int .i64 v.n, .string v.t, .slice an ni cn, .slice ai ni ci] 29)).alloc (.cells #[.int .u8 0, .int .i64 0, .string { data := #[] }, .slice none 0 0, .slice none 0 0] 29)) (H3.out.below HB0.out hhi (Nat.zero_le _) (by have := HB0.out.size; omega)) (by omega) HR.out
  rw [HL.out, ← HNI.out] at hf
  refine hf.mono ?_
  clear hf
  rintro e w1 ⟨r, f, rfl, k1, k2, k3, k4, k5, hb1⟩
  have hz1 : w.heap.size + 2 ≤ w1.heap.size := by have := hb1.size; simp at this; omega
  have hbox := (rowIs_box5 w (.int .u8 5) (.int .i64 v.n) (.string v.t) (.slice an ni cn) (.slice ai ni ci) 29).alloc (.cells #[.int .u8 0, .int .i64 0, .string { data := #[] }, .slice none 0 0, .slice none 0 0] 29)
  have hres := rowIs_box5 (w.alloc (.cells #[.int .u8 5, .int .i64 v.n, .string v.t, .slice an ni cn, .slice ai ni ci] 29)) (.int .u8 0) (.int .i64 0) (.string { data := #[] }) (.slice none 0 0) (.slice none 0 0) 29
  rw [show (w.alloc (.cells #[.int .u8 5, .int .i64 v.n, .string v.t, .slice an ni cn, .slice ai ni ci] 29)).heap.size = w.heap.size + 1 by simp] at hres
  have HBX := Lib.hid (below_row hb1 hbox (by simp; omega))
  have HRS := Lib.hid (below_row hb1 hres (by simp))
  have HB1 : Hid (Below w.heap.size w w1) := HB0.out.trans (hb1.mono (by simp; omega))
  have c4 : w1.cell? ⟨w.heap.size, 4, none⟩ = some (.slice ai ni ci) := HBX.out.cell (by omega)
  have K1 := Lib.hid k1
  have K4 := Lib.hid k4
  have K5 := Lib.hid k5
  clear hbox hres hb1 HB0 k1 k2 k3 k4 k5
  cases f
  · have HNO := Lib.hid (K5.out rfl)
    have t0 := HRS.out.cell (i := 0) (by decide); have t1 := HRS.out.cell (i := 1) (by decide); have t2 := HRS.out.cell (i := 2) (by decide); have t3 := HRS.out.cell (i := 3) (by decide); have t4 := HRS.out.cell (i := 4) (by decide)
    have s0 := HRS.out.frozen 0; have s1 := HRS.out.frozen 1; have s2 := HRS.out.frozen 2; have s3 := HRS.out.frozen 3; have s4 := HRS.out.frozen 4
    simp only [pick5] at t0 t1 t2 t3 t4
    go_wp2
    refine bodyPost_ret (results_row_tmp Tryz.results113 _ _ (w.heap.size + 1) 29 _ (0, 0) _ rfl (row5_heap (set5 _ _ _ _ _ HRS.out)) Tryz.underlying29 rfl (by kernel_rfl) _ rfl) rfl ⟨.inr ⟨HNO.out, rfl⟩, below5 _ _ _ _ _ HB1.out (by omega)⟩
  · obtain ⟨hrl, hre⟩ := K4.out rfl
    have hrl' : r < v.items.length := by rw [← HL.out]; exact hrl
    have hrn : r < ni := by rw [HNI.out]; exact hrl'
    have HRE := Lib.hid hre
    clear hre
    obtain ⟨b, off, an', cn', ai', ci', rfl, _, hb, y0, y1, y2, y3, y4, hrep⟩ := (H4.out.below HB1.out hhi (Nat.le_refl _) (Nat.le_refl _)).get r hrl'
    have hwk := JV.wts_get v.items r hrl'
    have hvc := valueCopy v.items[r] _ w1 lo hi (by omega) (by omega) hrep (fun k h => .inl hlo)
    have HVC := Lib.hid hvc
    clear hvc hrep
    go_wp2_with fail
    refine HVC.out.mono ?_
    clear HVC y0 y1 y2 y3 y4 c4 hb
    rintro e w2 ⟨a2, c2, a3, c3, rfl, hr2, hb2⟩
    have hres2 := below_row hb2 HRS.out (by omega)
    have t0 := hres2.cell (i := 0) (by decide); have t1 := hres2.cell (i := 1) (by decide); have t2 := hres2.cell (i := 2) (by decide); have t3 := hres2.cell (i := 3) (by decide); have t4 := hres2.cell (i := 4) (by decide)
    have s0 := hres2.frozen 0; have s1 := hres2.frozen 1; have s2 := hres2.frozen 2; have s3 := hres2.frozen 3; have s4 := hres2.frozen 4
    simp only [pick5] at t0 t1 t2 t3 t4
    have HR2 := Lib.hid hr2
    have HB2 := Lib.hid hb2
    have HS2 := Lib.hid hres2
    clear hr2 hb2 hres2
    go_wp2
    refine bodyPost_ret (results_row_tmp Tryz.results113 _ _ (w.heap.size + 1) 29 _ (0, 0) _ rfl (row5_heap (set5 _ _ _ _ _ HS2.out)) Tryz.underlying29 rfl (by kernel_rfl) _ rfl) rfl ⟨.inl ⟨r, hrl, hrl', HRE.out, a2, c2, a3, c3, rfl, ?_⟩, below5 _ _ _ _ _ (HB1.out.trans (HB2.out.mono (by omega))) (by omega)⟩
    exact Rep.carry (by omega) (show w2.heap.size ≤ _ by simp [World.setCell]) (fun k hk _ => heap5 _ _ _ _ _ (by omega)) _ _ HR2.out

end Go.Proofs.YtcahpjejpimdhaaGreatDoor
