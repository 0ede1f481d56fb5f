/- Plain: the examples of layer 17, by the kernel's own reckoning. No program in sight. -/
import Derived.Test.YtaekmmnpdbmoeaaGreatDoorJh16

namespace Go.Proofs.YtaekmmnpdbmoeaaGreatDoor
open Go.RowKit

/-- 4a656665, 00; what is signed of an empty object. -/
def jefeK : Key2 := (schemeH, ⟨#[52, 97, 54, 53, 54, 54, 54, 53]⟩)
def zeroK : Key2 := (schemeH, ⟨#[48, 48]⟩)
def objJ : JV := .mk 5 0 ⟨#[]⟩ [] []
def braces : ByteArray := ⟨#[123, 125]⟩
theorem objJ_enc : objJ.enc = braces.data.toList := by decide +kernel
theorem objJ_may : objJ.mayB = true := by decide +kernel
theorem jefe_ok : ok2 jefeK = true := by decide +kernel
theorem zero_ok : ok2 zeroK = true := by decide +kernel
set_option maxRecDepth 100000 in
theorem two_ids : (idsErr [] [id2 jefeK, id2 zeroK] = 0) ∧ id2 jefeK ≠ id2 zeroK := by decide +kernel
set_option maxRecDepth 100000 in
theorem two_env : envOk objJ [makeS jefeK [123, 125], makeS zeroK [123, 125]] = true ∧ envOk objJ [makeS zeroK [123, 125], makeS zeroK [123, 125]] = true := by decide +kernel
set_option maxRecDepth 100000 in
theorem two_count : countV .mac objJ [makeS jefeK [123, 125], makeS zeroK [123, 125]] 2 [id2 jefeK, id2 zeroK] [jefeK, zeroK] = 2 := by decide +kernel
set_option maxRecDepth 100000 in
theorem two_again : countV .mac objJ [makeS zeroK [123, 125], makeS zeroK [123, 125]] 2 [id2 jefeK, id2 zeroK] [jefeK, zeroK] = 1 := by decide +kernel

end Go.Proofs.YtaekmmnpdbmoeaaGreatDoor
