/- The zero value. Plain: the examples of JudgeNames, by the kernel's own reckoning. No program in sight. -/
import Derived.Test.YtaekmmnpdbmoeaaGreatDoorJh00
import Derived.Test.YtaekmmnpdbmoeaaGreatDoorJh26

namespace Go.Proofs.YtaekmmnpdbmoeaaGreatDoor
open Go.RowKit
def zeroJ : JV := .mk 0 0 { data := #[] } [] []
def zeroAggW : Value := .agg #[.int .u8 0, .int .i64 0, .string { data := #[] }, .slice none 0 0, .slice none 0 0]
theorem rep_zeroJW (w : World) (lo hi : Nat) : Rep w lo hi zeroJ zeroAggW := by
  unfold zeroJ Rep; exact ⟨none, 0, none, 0, rfl, Nat.le_refl _, Nat.le_refl _, .inl rfl, .inl rfl⟩
end Go.Proofs.YtaekmmnpdbmoeaaGreatDoor

namespace Go.Proofs.YtaekmmnpdbmoeaaGreatDoor
open Go.RowKit

def otherK : Key2 := (⟨#[101, 100, 50, 53, 53, 49, 57]⟩, jefeK.2)
def bareK : Key2 := (schemeH, ⟨#[]⟩)
def noK : Key2 := (⟨#[]⟩, ⟨#[]⟩)
def sS : Sig2 := (id2 jefeK, macB)
def tS : Sig2 := (id2 jefeK, ⟨#[48, 48]⟩)
def oddS : Sig2 := (⟨#[120]⟩, macB)
def noS : Sig2 := (⟨#[]⟩, ⟨#[]⟩)
def dgB : ByteArray := ⟨#[52, 52, 49, 51, 54, 102, 97, 51, 53, 53, 98, 51, 54, 55, 56, 97, 49, 49, 52, 54, 97, 100, 49, 54, 102, 55, 101, 56, 54, 52, 57, 101, 57, 52, 102, 98, 52, 102, 99, 50, 49, 102, 101, 55, 55, 101, 56, 51, 49, 48, 99, 48, 54, 48, 102, 54, 49, 99, 97, 97, 102, 102, 56, 97]⟩
def yesL : List Ver3 := [(id2 jefeK, ⟨#[48, 48]⟩, dgB)]
def noL : List Ver3 := [(id2 jefeK, ⟨#[48, 49]⟩, dgB), (id2 jefeK, ⟨#[48, 48]⟩, macB), (⟨#[]⟩, ⟨#[48, 48]⟩, dgB)]
def wantQ : ByteArray := ⟨#[119, 104, 97, 116, 32, 100, 111, 32, 121, 97, 32, 119, 97, 110, 116, 32, 102, 111, 114, 32, 110, 111, 116, 104, 105, 110, 103, 63, 63]⟩
theorem nm_make : makeE bareK = 3 ∧ makeE otherK = 10 ∧ makeE jefeK = 0 := by decide +kernel
theorem nm_g1 : Ver.mac.good otherK sS wantB.data.toList = false := by decide +kernel
theorem nm_g2 : Ver.mac.good jefeK tS wantB.data.toList = false := by decide +kernel
theorem nm_g3 : Ver.mac.good jefeK oddS wantB.data.toList = false := by decide +kernel
theorem nm_g4 : Ver.mac.good jefeK sS wantQ.data.toList = false := by decide +kernel
theorem nm_g5 : Ver.mac.good noK noS (⟨#[]⟩ : ByteArray).data.toList = false := by decide +kernel
theorem nm_g6 : Ver.mac.good jefeK sS wantB.data.toList = true := jefe_good
theorem nm_g7 : (Ver.tab []).good jefeK sS wantB.data.toList = false := by decide +kernel
theorem nm_g8 : (Ver.tab yesL).good jefeK tS braces.data.toList = true := by decide +kernel
theorem nm_g9 : (Ver.tab yesL).good otherK tS braces.data.toList = false := by decide +kernel
theorem nm_c1 : countV (.tab yesL) objJ [sS, tS] 1 [id2 jefeK] [jefeK] = 1 := by decide +kernel
theorem nm_c2 : countV (.tab noL) objJ [sS, tS] 1 [id2 jefeK] [jefeK] = 0 := by decide +kernel
theorem nm_c3 : countV .mac objJ [sS, tS] 1 [id2 jefeK] [jefeK] = 0 := by decide +kernel
theorem nm_c4 : countV (.tab yesL) objJ [sS, tS] 1 [id2 jefeK] [] = 0 := by decide +kernel
theorem nm_c5 : countV (.tab yesL) zeroJ [sS, tS] 1 [id2 jefeK] [jefeK] = 0 := by decide +kernel
theorem nm_c6 : countV (.tab yesL) objJ [sS, tS] 0 [id2 jefeK] [jefeK] = 0 := by decide +kernel
theorem nm_c7 : countV (.tab []) objJ [sS, tS] 1 [id2 jefeK] [jefeK] = 0 := by decide +kernel
theorem nm_e1 : enoughV (.tab yesL) objJ [sS, tS] 1 [id2 jefeK] [jefeK] = true := by decide +kernel
theorem nm_e2 : enoughV (.tab noL) objJ [sS, tS] 1 [id2 jefeK] [jefeK] = false := by decide +kernel
theorem nm_e5 : enoughV (.tab yesL) zeroJ [sS, tS] 1 [id2 jefeK] [jefeK] = false := by decide +kernel
theorem nm_e6 : enoughV (.tab yesL) objJ [sS, tS] 0 [id2 jefeK] [jefeK] = false := by decide +kernel
theorem nm_e7 : enoughV (.tab []) objJ [sS, tS] 1 [id2 jefeK] [jefeK] = false := by decide +kernel
theorem nm_sizes : (∀ k ∈ [jefeK, otherK, bareK, noK], k.1.size ≤ 300 ∧ k.2.size ≤ 300) ∧ (∀ s ∈ [sS, tS, oddS, noS], s.1.size ≤ 1000000 ∧ s.2.size ≤ 1000000) ∧ (id2 jefeK).size ≤ 1000000 := by decide +kernel

end Go.Proofs.YtaekmmnpdbmoeaaGreatDoor
