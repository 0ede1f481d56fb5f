/- What the examples come to, as plain data. -/
import Derived.Test.YtcahpjejpimdhaaGreatDoorKeyOf
import Derived.Test.YtcahpjejpimdhaaGreatDoorKeyPlain
namespace Go.Proofs.YtcahpjejpimdhaaGreatDoor
open Go.RowKit

theorem pub_ne : pubN ≠ schN := by decide
theorem look_pub (s t : ByteArray) : (keyJ s t).look pubN = some (txtJ t) := by
  unfold JV.look keyJ JV.names JV.items; simp [lookL]
theorem look_sch (s t : ByteArray) : (keyJ s t).look schN = some (txtJ s) := by
  unfold JV.look keyJ JV.names JV.items; simp [lookL, pub_ne]
theorem keyOf_keyJ {s t : ByteArray} (h : keyOk s.data.toList t.data.toList = true) : keyOfJ (keyJ s t) = ((s, t), 0) := by
  have h1 : pickText (keyJ s t) pubN ⟨[], 0⟩ = (t, ⟨[pubN], 0⟩) := by unfold pickText; rw [if_neg (by simp), look_pub]; rfl
  have h2 : pickText (keyJ s t) schN ⟨[pubN], 0⟩ = (s, ⟨[schN, pubN], 0⟩) := by unfold pickText; rw [if_neg (by simp), look_sch]; rfl
  have h3 : pickDone (keyJ s t) ⟨[schN, pubN], 0⟩ = 0 := by
    unfold pickDone; rw [if_neg (by simp)]
    have : (keyJ s t).names = [pubN, schN] := rfl
    rw [this]; simp
  unfold keyOfJ
  rw [if_neg (by rw [keyJ_may h]; simp), if_neg (by show ¬ (5 : Int) ≠ 5; simp), h1]
  simp only
  rw [h2]
  simp only
  rw [h3, if_neg (by simp), if_pos h]
/-- An object of a public text alone. -/
def oneJ (t : ByteArray) : JV := .mk 5 0 { data := #[] } [pubN] [txtJ t]
theorem oneJ_may {t : ByteArray} (h2 : txtOk t = true) : (oneJ t).mayB = true := by
  obtain ⟨n1, n2, n3⟩ := names_ok
  unfold JV.mayB oneJ
  have hp : properB 5 0 { data := #[] } [pubN] 1 = true := by
    unfold properB
    rw [ByteArray.toList_eq]
    simp [n1, rises]
  have hm : JV.mays [txtJ t] (12 - 1) (8192 - 1) = (true, 8192 - 1 - 1) := by
    rw [JV.mays, txtJ_may t h2 _ _ (by omega), if_pos rfl, JV.mays]
  rw [JV.may, if_neg (by omega), show ([txtJ t] : List JV).length = 1 from rfl, hp, if_neg (by decide), if_neg (by decide), if_neg (by decide), hm]
theorem keyOf_oneJ {t : ByteArray} (h : txtOk t = true) : keyOfJ (oneJ t) = (({ data := #[] }, { data := #[] }), 6) := by
  have l1 : (oneJ t).look pubN = some (txtJ t) := by unfold JV.look oneJ JV.names JV.items; simp [lookL]
  have l2 : (oneJ t).look schN = none := by unfold JV.look oneJ JV.names JV.items; simp [lookL, pub_ne]
  have h1 : pickText (oneJ t) pubN ⟨[], 0⟩ = (t, ⟨[pubN], 0⟩) := by unfold pickText; rw [if_neg (by simp), l1]; rfl
  have h2 : pickText (oneJ t) schN ⟨[pubN], 0⟩ = ({ data := #[] }, ⟨[pubN], 6⟩) := by unfold pickText; rw [if_neg (by simp), l2]
  have h3 : pickDone (oneJ t) ⟨[pubN], 6⟩ = 6 := by unfold pickDone; rw [if_pos (by simp)]
  unfold keyOfJ
  rw [if_neg (by rw [oneJ_may h]; simp), if_neg (by show ¬ (5 : Int) ≠ 5; simp), h1]
  simp only
  rw [h2]
  simp only
  rw [h3, if_pos (by simp)]

def exS : ByteArray := { data := #[101, 100, 50, 53, 53, 49, 57] }
def exP : ByteArray := { data := #[48, 48, 102, 102] }
theorem ex_ok : keyOk exS.data.toList exP.data.toList = true := by decide
theorem ex_bad : keyOk exS.data.toList [48, 102, 48] = false := by decide
theorem ex_form : keyForm exS.data.toList exP.data.toList = [123, 34, 112, 117, 98, 108, 105, 99, 34, 58, 34, 48, 48, 102, 102, 34, 44, 34, 115, 99, 104, 101, 109, 101, 34, 58, 34, 101, 100, 50, 53, 53, 49, 57, 34, 125] := by decide

end Go.Proofs.YtcahpjejpimdhaaGreatDoor
