/- A key's object as data: it may be, and its canonical form. No program in sight. -/
import Derived.Test.YtcahpjejpimdhaaGreatDoorKeyVal
import Derived.Test.YtcahpjejpimdhaaGreatDoorEncPlain
import Derived.Laws.RangeString
namespace Go.Proofs.YtcahpjejpimdhaaGreatDoor
open Go.RowKit

theorem utfOk_ascii (s : ByteArray) (h : ∀ k (hk : k < s.size), s[k].toNat < 128) : ∀ f pos, utfOk s f pos = true
  | 0, _ => rfl
  | f + 1, pos => by
    unfold utfOk
    split
    · next hp =>
      have hd := decode_ascii s pos hp (h pos hp)
      have : utfBad s pos = false := by
        unfold utfBad; rw [hd]
        have := h pos hp
        have e : ((s[pos].toNat, 1) : Nat × Nat).1 = s[pos].toNat := rfl
        rw [e, beq_eq_false_iff_ne.2 (by omega)]; rfl
      rw [this]
      exact utfOk_ascii s h f _
    · rfl
theorem utfV_ascii (s : ByteArray) (h : ∀ c ∈ s.data.toList, c.toNat < 128) : utfV s = true :=
  utfOk_ascii s (fun k hk => by rw [← toList_get s k hk]; exact h _ (List.getElem_mem _)) _ _

/-- A byte that stands for itself. -/
def plainC (c : UInt8) : Prop := c.toNat < 128 ∧ c.toNat ≠ 34 ∧ c.toNat ≠ 92
theorem escL_plain (l : List UInt8) (h : ∀ c ∈ l, plainC c) : escL l = l := by
  induction l with
  | nil => rfl
  | cons c r ih =>
    have hc := h c (by simp)
    have e : escL (c :: r) = escC c ++ escL r := by simp [escL]
    rw [e, ih fun d hd => h d (by simp [hd])]
    unfold escC plainC at *
    rw [if_neg (by omega)]; rfl
theorem plain_hex {c : UInt8} (h : isHex c = true) : plainC c := by
  unfold isHex at h; unfold plainC; simp at h; omega
theorem plain_name {c : UInt8} (h : nameC c = true) : plainC c := by
  unfold nameC at h; unfold plainC; simp at h; omega
theorem role_plain {l : List UInt8} (h : roleOk l = true) : (∀ c ∈ l, plainC c) ∧ 1 ≤ l.length ∧ l.length ≤ 64 := by
  unfold roleOk at h
  simp only [Bool.and_eq_true, decide_eq_true_eq] at h
  exact ⟨fun c hc => plain_name (List.all_eq_true.1 h.2 c hc), h.1.1⟩
theorem pub_plain {l : List UInt8} (h : pubOk l = true) : (∀ c ∈ l, plainC c) ∧ 2 ≤ l.length ∧ l.length ≤ 128 := by
  unfold pubOk allHex at h
  simp only [Bool.and_eq_true, decide_eq_true_eq] at h
  exact ⟨fun c hc => plain_hex (List.all_eq_true.1 h.2 c hc), h.1.1, h.1.2.1⟩
theorem key_parts {s t : List UInt8} (h : keyOk s t = true) : roleOk s = true ∧ pubOk t = true := by
  unfold keyOk at h; simpa using h
theorem txtOk_plain {s : ByteArray} (h : ∀ c ∈ s.data.toList, plainC c) (hl : s.size ≤ 4096) : txtOk s = true := by
  unfold txtOk; rw [utfV_ascii s fun c hc => (h c hc).1]; simpa using hl
theorem key_txt {s t : ByteArray} (h : keyOk s.data.toList t.data.toList = true) : txtOk s = true ∧ txtOk t = true ∧ s.size ≤ 64 ∧ t.size ≤ 128 := by
  obtain ⟨h1, h2⟩ := key_parts h
  have h3 := role_plain h1
  have h4 := pub_plain h2
  rw [toList_length] at h3 h4
  exact ⟨txtOk_plain h3.1 (by omega), txtOk_plain h4.1 (by omega), h3.2.2, h4.2.2⟩

theorem names_ok : txtOk pubN = true ∧ txtOk schN = true ∧ rises [pubN, schN] = true := by
  refine ⟨txtOk_plain ?_ (by decide), txtOk_plain ?_ (by decide), ?_⟩
  · intro c hc; unfold plainC; revert c; decide
  · intro c hc; unfold plainC; revert c; decide
  · unfold rises rises; rw [ByteArray.toList_eq, ByteArray.toList_eq]; decide

theorem txtJ_may (t : ByteArray) (h : txtOk t = true) (d : Nat) (l : Int) (hl : 1 ≤ l) : (txtJ t).may d l = (true, l - 1) := by
  unfold txtJ
  rw [JV.may, if_neg (by omega)]
  have : properB 3 0 t [] 0 = true := by unfold properB; simp [h]
  rw [show ([] : List JV).length = 0 from rfl, this]
  simp
theorem keyJ_may {s t : ByteArray} (h : keyOk s.data.toList t.data.toList = true) : (keyJ s t).mayB = true := by
  obtain ⟨h1, h2, _, _⟩ := key_txt h
  obtain ⟨n1, n2, n3⟩ := names_ok
  unfold JV.mayB keyJ
  have hp : properB 5 0 { data := #[] } [pubN, schN] 2 = true := by
    unfold properB
    rw [ByteArray.toList_eq]
    simp [n1, n2, n3]
  have hm : JV.mays [txtJ t, txtJ s] (12 - 1) (8192 - 1) = (true, 8192 - 1 - 1 - 1) := by
    rw [JV.mays, txtJ_may t h2 _ _ (by omega), if_pos rfl, JV.mays, txtJ_may s h1 _ _ (by omega), if_pos rfl, JV.mays]
  rw [JV.may, if_neg (by omega), show ([txtJ t, txtJ s] : List JV).length = 2 from rfl, hp, if_neg (by decide), if_neg (by decide), if_neg (by decide), hm]
theorem keyJ_form {s t : ByteArray} (h : keyOk s.data.toList t.data.toList = true) : (keyJ s t).form false := by
  obtain ⟨h1, h2, _, _⟩ := key_txt h
  obtain ⟨n1, n2, n3⟩ := names_ok
  have e : ∀ i (hi : i < [pubN, schN].length), txtOk [pubN, schN][i] = true := fun i hi => by
    match i, hi with
    | 0, _ => exact n1
    | 1, _ => exact n2
  unfold keyJ JV.form
  refine ⟨.inr (.inr (.inr (.inr ⟨rfl, rfl, e⟩))), ?_⟩
  unfold JV.forms JV.forms JV.forms
  unfold txtJ JV.form
  exact ⟨⟨.inr (.inr (.inl ⟨rfl, h2⟩)), by unfold JV.forms; trivial⟩, ⟨.inr (.inr (.inl ⟨rfl, h1⟩)), by unfold JV.forms; trivial⟩, trivial⟩
theorem keyJ_wt {s t : ByteArray} (hs : s.size ≤ 4294967) (ht : t.size ≤ 4294967) : (keyJ s t).wt ≤ 4294967296 := by
  unfold keyJ txtJ
  have e1 : pubN.size = 6 := rfl
  have e2 : schN.size = 6 := rfl
  have e3 : ({ data := #[] } : ByteArray).size = 0 := rfl
  simp only [JV.wt, JV.wts, bytesSum]
  omega

def keyF1 : List UInt8 := [123, 34, 112, 117, 98, 108, 105, 99, 34, 58, 34]
def keyF2 : List UInt8 := [34, 44, 34, 115, 99, 104, 101, 109, 101, 34, 58, 34]
/-- The canonical form of a key's object. -/
def keyForm (s t : List UInt8) : List UInt8 := keyF1 ++ (t ++ (keyF2 ++ (s ++ [34, 125])))
theorem keyForm_len (s t : List UInt8) : (keyForm s t).length = s.length + t.length + 25 := by simp [keyForm, keyF1, keyF2]; omega
theorem keyJ_enc {s t : ByteArray} (h : keyOk s.data.toList t.data.toList = true) : (keyJ s t).enc = keyForm s.data.toList t.data.toList := by
  obtain ⟨h1, h2⟩ := key_parts h
  have e1 := escL_plain _ (role_plain h1).1
  have e2 := escL_plain _ (pub_plain h2).1
  have e3 : quoteL pubN.data.toList = [34, 112, 117, 98, 108, 105, 99, 34] := by decide
  have e4 : quoteL schN.data.toList = [34, 115, 99, 104, 101, 109, 101, 34] := by decide
  unfold keyJ txtJ
  simp [JV.enc, JV.encO, sep, e3, e4, keyForm, keyF1, keyF2]
  simp [quoteL, e1, e2]

end Go.Proofs.YtcahpjejpimdhaaGreatDoor
