/- The contract of canon.Encode. -/
import Derived.Test.YtcahpjejpimdhaaGreatDoorEnc5
import Derived.Laws.EntriesVeiled
namespace Go.Proofs.YtcahpjejpimdhaaGreatDoor
open Go.RowKit

def CanonPost (v : JV) (w : World) (e : Ending) (w' : World) : Prop := e = .returned (.tuple #[.string ⟨(if v.mayB then v.enc else []).toArray⟩, .int .i64 (if v.mayB then 0 else 3)]) ∧ Below w.heap.size w w'

theorem itoa_ne (n : Int) : Lib.itoa n ≠ [] := by
  unfold Lib.itoa
  split
  · simp
  · rw [Lib.decDigits]; split <;> simp

set_option maxHeartbeats 400000 in
set_option maxRecDepth 100000 in
theorem canonEncode (nm : Bool) (v : JV) (x : Value) (w : World) (hv : v.wt ≤ 4294967296) (hR : Rep w 0 w.heap.size v x) (hf : v.mayB = true → v.form nm) (hS : nm = true → ShowAt w.heap.size w) :
    Calls Tryz.prog 25 #[x] w (CanonPost v w) := by
  obtain ⟨an, cn, ai, ci, hx, h1, h2, h3, h4⟩ := hR.parts
  have HR := Lib.hid hR
  clear hR h3 h4 h1 h2
  have HF := Lib.hid hf
  have HS := Lib.hid hS
  clear hf hS
  subst hx
  have HW0 := Lib.hid (show Below w.heap.size w (w.alloc (.cells #[.int .u8 v.kind, .int .i64 v.n, .string v.t, .slice an v.names.length cn, .slice ai v.items.length ci] 29)) from (Below.refl _ _).alloc (Nat.le_refl _) _)
  have HBX := Lib.hid (heap_alloc_new w (.cells #[.int .u8 v.kind, .int .i64 v.n, .string v.t, .slice an v.names.length cn, .slice ai v.items.length ci] 29))
  have HM := Lib.hid (valueMay v _ (w.alloc (.cells #[.int .u8 v.kind, .int .i64 v.n, .string v.t, .slice an v.names.length cn, .slice ai v.items.length ci] 29)) hv (HR.out.below HW0.out (Nat.le_refl _) (Nat.le_refl _) HW0.out.size))
  cases hm : v.mayB
  · rw [hm] at HM
    go_enter Tryz.func25, Tryz.ntmps25
    go_wp2_with fail
    refine HM.out.mono ?_
    rintro e w1 ⟨rfl, hb1⟩
    have HB1 := Lib.hid (HW0.out.trans (hb1.mono (by simp)))
    clear hb1
    go_wp2
    go_ret2
    exact ⟨by rw [hm]; rfl, HB1.out⟩
  · rw [hm] at HM
    have HMB := Lib.hid hm
    clear hm
    go_enter Tryz.func25, Tryz.ntmps25
    go_wp2_with fail
    refine HM.out.mono ?_
    clear HM
    rintro e w1 ⟨rfl, hb1⟩
    have hz1 : w.heap.size + 1 ≤ w1.heap.size := by have := hb1.size; simp at this; omega
    have hx1 : w1.heap[w.heap.size]? = some (.cells #[.int .u8 v.kind, .int .i64 v.n, .string v.t, .slice an v.names.length cn, .slice ai v.items.length ci] 29 (0, 0)) := by
      rw [hb1.block _ (by simp)]; exact HBX.out
    have HB1 := Lib.hid (HW0.out.trans (hb1.mono (by simp)))
    have HB3 := Lib.hid (show Below w1.heap.size w1 (((w1.alloc (.cells #[.pointer none, .slice none 0 0] 76)).alloc (.cells #[.func (.func 59) #[] #[.pointer (some ⟨w1.heap.size, 0, none⟩)]] 82)).alloc (.cells #[.func (.func 62) #[] #[.pointer (some ⟨w1.heap.size, 0, none⟩), .pointer (some ⟨w1.heap.size + 1, 0, none⟩), .pointer (some ⟨w1.heap.size + 1 + 1, 0, none⟩)]] 83)) from (((Below.refl _ _).alloc (Nat.le_refl _) _).alloc (by simp) _).alloc (by simp; omega) _)
    have hx3 : (((w1.alloc (.cells #[.pointer none, .slice none 0 0] 76)).alloc (.cells #[.func (.func 59) #[] #[.pointer (some ⟨w1.heap.size, 0, none⟩)]] 82)).alloc (.cells #[.func (.func 62) #[] #[.pointer (some ⟨w1.heap.size, 0, none⟩), .pointer (some ⟨w1.heap.size + 1, 0, none⟩), .pointer (some ⟨w1.heap.size + 1 + 1, 0, none⟩)]] 83)).heap[w.heap.size]? = some (.cells #[.int .u8 v.kind, .int .i64 v.n, .string v.t, .slice an v.names.length cn, .slice ai v.items.length ci] 29 (0, 0)) := by rw [HB3.out.block _ (by omega)]; exact hx1
    have c0 : (((w1.alloc (.cells #[.pointer none, .slice none 0 0] 76)).alloc (.cells #[.func (.func 59) #[] #[.pointer (some ⟨w1.heap.size, 0, none⟩)]] 82)).alloc (.cells #[.func (.func 62) #[] #[.pointer (some ⟨w1.heap.size, 0, none⟩), .pointer (some ⟨w1.heap.size + 1, 0, none⟩), .pointer (some ⟨w1.heap.size + 1 + 1, 0, none⟩)]] 83)).cell? ⟨w.heap.size, 0, none⟩ = some (.int .u8 v.kind) := box_cell hx3 rfl
    have c1 : (((w1.alloc (.cells #[.pointer none, .slice none 0 0] 76)).alloc (.cells #[.func (.func 59) #[] #[.pointer (some ⟨w1.heap.size, 0, none⟩)]] 82)).alloc (.cells #[.func (.func 62) #[] #[.pointer (some ⟨w1.heap.size, 0, none⟩), .pointer (some ⟨w1.heap.size + 1, 0, none⟩), .pointer (some ⟨w1.heap.size + 1 + 1, 0, none⟩)]] 83)).cell? ⟨w.heap.size, 1, none⟩ = some (.int .i64 v.n) := box_cell hx3 rfl
    have c2 : (((w1.alloc (.cells #[.pointer none, .slice none 0 0] 76)).alloc (.cells #[.func (.func 59) #[] #[.pointer (some ⟨w1.heap.size, 0, none⟩)]] 82)).alloc (.cells #[.func (.func 62) #[] #[.pointer (some ⟨w1.heap.size, 0, none⟩), .pointer (some ⟨w1.heap.size + 1, 0, none⟩), .pointer (some ⟨w1.heap.size + 1 + 1, 0, none⟩)]] 83)).cell? ⟨w.heap.size, 2, none⟩ = some (.string v.t) := box_cell hx3 rfl
    have c3 : (((w1.alloc (.cells #[.pointer none, .slice none 0 0] 76)).alloc (.cells #[.func (.func 59) #[] #[.pointer (some ⟨w1.heap.size, 0, none⟩)]] 82)).alloc (.cells #[.func (.func 62) #[] #[.pointer (some ⟨w1.heap.size, 0, none⟩), .pointer (some ⟨w1.heap.size + 1, 0, none⟩), .pointer (some ⟨w1.heap.size + 1 + 1, 0, none⟩)]] 83)).cell? ⟨w.heap.size, 3, none⟩ = some (.slice an v.names.length cn) := box_cell hx3 rfl
    have c4 : (((w1.alloc (.cells #[.pointer none, .slice none 0 0] 76)).alloc (.cells #[.func (.func 59) #[] #[.pointer (some ⟨w1.heap.size, 0, none⟩)]] 82)).alloc (.cells #[.func (.func 62) #[] #[.pointer (some ⟨w1.heap.size, 0, none⟩), .pointer (some ⟨w1.heap.size + 1, 0, none⟩), .pointer (some ⟨w1.heap.size + 1 + 1, 0, none⟩)]] 83)).cell? ⟨w.heap.size, 4, none⟩ = some (.slice ai v.items.length ci) := box_cell hx3 rfl
    have HEV := Lib.hid (show EncEnv w1.heap.size w1.heap.size (w1.heap.size + 1) (w1.heap.size + 1 + 1) (((w1.alloc (.cells #[.pointer none, .slice none 0 0] 76)).alloc (.cells #[.func (.func 59) #[] #[.pointer (some ⟨w1.heap.size, 0, none⟩)]] 82)).alloc (.cells #[.func (.func 62) #[] #[.pointer (some ⟨w1.heap.size, 0, none⟩), .pointer (some ⟨w1.heap.size + 1, 0, none⟩), .pointer (some ⟨w1.heap.size + 1 + 1, 0, none⟩)]] 83)) from
      ⟨by
        have e : ((w1.alloc (.cells #[.pointer none, .slice none 0 0] 76)).heap.size) = w1.heap.size + 1 := by simp
        rw [Below.heap_alloc _ _ _ (by simp), ← e]; exact heap_alloc_new _ _, by
        have e : (((w1.alloc (.cells #[.pointer none, .slice none 0 0] 76)).alloc (.cells #[.func (.func 59) #[] #[.pointer (some ⟨w1.heap.size, 0, none⟩)]] 82)).heap.size) = w1.heap.size + 1 + 1 := by simp
        have := heap_alloc_new ((w1.alloc (.cells #[.pointer none, .slice none 0 0] 76)).alloc (.cells #[.func (.func 59) #[] #[.pointer (some ⟨w1.heap.size, 0, none⟩)]] 82)) (.cells #[.func (.func 62) #[] #[.pointer (some ⟨w1.heap.size, 0, none⟩), .pointer (some ⟨w1.heap.size + 1, 0, none⟩), .pointer (some ⟨w1.heap.size + 1 + 1, 0, none⟩)]] 83)
        rw [e] at this; exact this, ⟨by omega, by omega⟩, by simp; omega⟩)
    have HBU := Lib.hid (show BuiF w1.heap.size w1.heap.size [] (((w1.alloc (.cells #[.pointer none, .slice none 0 0] 76)).alloc (.cells #[.func (.func 59) #[] #[.pointer (some ⟨w1.heap.size, 0, none⟩)]] 82)).alloc (.cells #[.func (.func 62) #[] #[.pointer (some ⟨w1.heap.size, 0, none⟩), .pointer (some ⟨w1.heap.size + 1, 0, none⟩), .pointer (some ⟨w1.heap.size + 1 + 1, 0, none⟩)]] 83)) from buiF_below (buiF_below (Lib.IsBuilderF.of (Lib.fresh_isBuilder _ _ w1)) ((Below.refl _ _).alloc (Nat.le_refl _) _)) ((Below.refl _ _).alloc (Nat.le_refl _) _))
    have HEN := Lib.hid (encAll nm _ w1.heap.size w1.heap.size (w1.heap.size + 1) (w1.heap.size + 1 + 1) [] v _ (((w1.alloc (.cells #[.pointer none, .slice none 0 0] 76)).alloc (.cells #[.func (.func 59) #[] #[.pointer (some ⟨w1.heap.size, 0, none⟩)]] 82)).alloc (.cells #[.func (.func 62) #[] #[.pointer (some ⟨w1.heap.size, 0, none⟩), .pointer (some ⟨w1.heap.size + 1, 0, none⟩), .pointer (some ⟨w1.heap.size + 1 + 1, 0, none⟩)]] 83)) (Nat.le_refl _) ⟨HF.out HMB.out, HR.out.below (HB1.out.trans (HB3.out.mono (by omega))) (Nat.le_refl _) (Nat.le_refl _) (by omega), HBU.out, HEV.out, by simp; omega, fun h n w' hn hb => HS.out h n w' hn ((HB1.out.trans (HB3.out.mono (by omega))).trans (hb.mono (by omega)))⟩)
    have hlt : w.heap.size < w1.heap.size := hz1
    clear hb1 hx1 hx3 HEV HBU
    go_wp2_with fail
    refine HEN.out.mono ?_
    clear HEN c0 c1 c2 c3 c4
    rintro e w4 ⟨rfl, hu4, hb4, hk4⟩
    rw [List.nil_append] at hu4
    have hne : v.enc ≠ [] := by
      rw [v.enc_eq]
      have hf := (JV.form_eq (HF.out HMB.out)).1
      rcases hf with e | ⟨e, _⟩ | ⟨e, _⟩ | e | ⟨e, _⟩ <;> rw [e]
      · by_cases h : v.n = 1 <;> simp [h]
      · exact itoa_ne v.n
      · simp [quoteL]
      · simp
      · simp
    have HU4 := Lib.hid hu4
    have HW4 := Lib.hid (HB1.out.trans ((HB3.out.trans hb4).mono (by omega)))
    have HNE := Lib.hid hne
    clear hu4 hb4 hk4 hne
    go_wp2_with fail
    refine (builderString w1.heap.size w1.heap.size v.enc _ (.inr HU4.out) HNE.out).mono ?_
    rintro e w5 ⟨rfl, hb5, -⟩
    have HW5 := Lib.hid (HW4.out.trans (hb5.mono (by omega)))
    clear hb5
    go_wp2
    go_ret2
    exact ⟨by rw [HMB.out]; rfl, HW5.out⟩

end Go.Proofs.YtcahpjejpimdhaaGreatDoor
