/- The example of legatelaw23: closed facts. -/
import Derived.Test.YtgghgcilpfdbjaaGreatDoorSl21
import Derived.Test.YtgghgcilpfdbjaaGreatDoorSl16

namespace Go.Proofs.YtgghgcilpfdbjaaGreatDoor
open Go.RowKit

def exJ : JV := metaJ [pinE]
theorem ex_may0 : (snapO snpN nineN exJ 1).mayB = true := by decide +kernel
theorem ex_may1 : (snapO tgtN nineN exJ 1).mayB = true := by decide +kernel
theorem ex_may2 : (snapO snpN nineN exJ 0).mayB = true := by decide +kernel
theorem ex_may3 : (snapO snpN xN exJ 1).mayB = true := by decide +kernel
theorem ex_wt0 : (snapO snpN nineN exJ 1).wt ≤ 4294967296 := by decide +kernel
theorem ex_wt1 : (snapO tgtN nineN exJ 1).wt ≤ 4294967296 := by decide +kernel
theorem ex_wt2 : (snapO snpN nineN exJ 0).wt ≤ 4294967296 := by decide +kernel
theorem ex_wt3 : (snapO snpN xN exJ 1).wt ≤ 4294967296 := by decide +kernel
theorem ex_meta0 : SnapMeta (snapO snpN nineN exJ 1) := by
  unfold SnapMeta; decide +kernel
theorem ex_meta1 : SnapMeta (snapO tgtN nineN exJ 1) := by
  unfold SnapMeta; decide +kernel
theorem ex_meta2 : SnapMeta (snapO snpN nineN exJ 0) := by
  unfold SnapMeta; decide +kernel
theorem ex_meta3 : SnapMeta (snapO snpN xN exJ 1) := by
  unfold SnapMeta; decide +kernel
theorem ex_pin : pinOf [pinE] ⟨#[97]⟩ = some pinE ∧ pinOf [pinE] ⟨#[98]⟩ = none := by
  constructor
  · rfl
  · rfl
theorem ex_wtP : (pinJ pinE).wt ≤ 4294967296 ∧ exJ.wt ≤ 4294967296 := by decide +kernel
theorem ex_rises : rises (([pinE] : List PinV).map (·.name)) = true := by decide +kernel
theorem ex_fits : PinFits pinE := by
  refine ⟨⟨by decide, by decide⟩, ⟨by decide, by decide⟩, by decide, by decide, fun k h => ?_⟩
  simp [pinE] at h
end Go.Proofs.YtgghgcilpfdbjaaGreatDoor
