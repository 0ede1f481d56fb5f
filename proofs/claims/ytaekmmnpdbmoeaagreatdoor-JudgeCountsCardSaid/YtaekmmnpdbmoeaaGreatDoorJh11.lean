/- The canonical form of a value as a list of bytes (enc), what a value must have for it (form), how long it is. No program in sight. A key's object as data: it may be, and its canonical form. No program in sight. Plain: the reference's rule of values (part, Count, Depth) is the program's. -/
import Derived.Test.YtaekmmnpdbmoeaaGreatDoorJh07
import Derived.Test.YtaekmmnpdbmoeaaGreatDoorJh10
import Derived.Test.YtaekmmnpdbmoeaaGreatDoorJh05
import Derived.Lib.ItoaLen
import Derived.Test.YtaekmmnpdbmoeaaGreatDoorJh09
import Derived.Laws.RangeString

namespace Go.Proofs.YtaekmmnpdbmoeaaGreatDoor
open Go.RowKit

def sep (first : Bool) : List UInt8 := if first then [] else [44]

mutual
def JV.enc : JV → List UInt8
  | .mk k n t ns xs => if k = 1 then (if n = 1 then [116, 114, 117, 101] else [102, 97, 108, 115, 101]) else if k = 2 then Lib.itoa n else if k = 3 then quoteL t.data.toList
      else if k = 4 then 91 :: (JV.encI true xs ++ [93]) else 123 :: (JV.encO true ns xs ++ [125])
def JV.encI : Bool → List JV → List UInt8
  | _, [] => []
  | f, x :: r => sep f ++ (JV.enc x ++ JV.encI false r)
def JV.encO : Bool → List ByteArray → List JV → List UInt8
  | _, _, [] => []
  | _, [], _ :: _ => []
  | f, s :: ns, x :: r => sep f ++ (quoteL s.data.toList ++ (58 :: (JV.enc x ++ JV.encO false ns r)))
end

theorem JV.enc_eq (v : JV) : v.enc = if v.kind = 1 then (if v.n = 1 then [116, 114, 117, 101] else [102, 97, 108, 115, 101]) else if v.kind = 2 then Lib.itoa v.n else if v.kind = 3 then quoteL v.t.data.toList
      else if v.kind = 4 then 91 :: (JV.encI true v.items ++ [93]) else 123 :: (JV.encO true v.names v.items ++ [125]) := by cases v; rw [JV.enc]; rfl

theorem JV.encI_snoc : ∀ (l : List JV) (f : Bool) (x : JV), JV.encI f (l ++ [x]) = JV.encI f l ++ (sep (f && l.isEmpty) ++ x.enc)
  | [], f, x => by simp [JV.encI]
  | y :: r, f, x => by simp [JV.encI, JV.encI_snoc r false x]
theorem JV.encO_snoc : ∀ (ns : List ByteArray) (l : List JV) (f : Bool) (s : ByteArray) (x : JV), ns.length = l.length → JV.encO f (ns ++ [s]) (l ++ [x]) = JV.encO f ns l ++ (sep (f && l.isEmpty) ++ (quoteL s.data.toList ++ (58 :: x.enc)))
  | [], [], f, s, x, _ => by simp [JV.encO]
  | [], _ :: _, _, _, _, h => by simp at h
  | _ :: _, [], _, _, _, h => by simp at h
  | n :: ns, y :: r, f, s, x, h => by simp [JV.encO, JV.encO_snoc ns r false s x (by simpa using h)]

def inI64 (n : Int) : Prop := -9223372036854775808 ≤ n ∧ n ≤ 9223372036854775807
mutual
/-- What a value must have so that Encode writes it: nm: whether there may be numbers. -/
def JV.form (nm : Bool) : JV → Prop
  | .mk k n t ns xs => (k = 1 ∨ (k = 2 ∧ nm = true ∧ inI64 n) ∨ (k = 3 ∧ txtOk t = true) ∨ k = 4 ∨ (k = 5 ∧ ns.length = xs.length ∧ ∀ i (h : i < ns.length), txtOk ns[i] = true)) ∧ JV.forms nm xs
def JV.forms (nm : Bool) : List JV → Prop
  | [] => True
  | x :: r => JV.form nm x ∧ JV.forms nm r
end
theorem JV.form_eq {nm : Bool} {v : JV} (h : v.form nm) : (v.kind = 1 ∨ (v.kind = 2 ∧ nm = true ∧ inI64 v.n) ∨ (v.kind = 3 ∧ txtOk v.t = true) ∨ v.kind = 4 ∨ (v.kind = 5 ∧ v.names.length = v.items.length ∧ ∀ i (h : i < v.names.length), txtOk v.names[i] = true)) ∧ JV.forms nm v.items := by
  cases v; unfold JV.form at h; exact h
theorem JV.forms_get {nm : Bool} : ∀ (l : List JV) (i : Nat) (h : i < l.length), JV.forms nm l → JV.form nm l[i]
  | s :: r, 0, _, h => by unfold JV.forms at h; exact h.1
  | s :: r, i + 1, hi, h => by unfold JV.forms at h; exact JV.forms_get r i (by simpa using hi) h.2

/-- What May asks is enough. -/
theorem proper_kind {k n : Int} {t : ByteArray} {ns : List ByteArray} {li : Nat} (h : properB k n t ns li = true) : (k = 1 ∧ li = 0) ∨ (k = 2 ∧ li = 0) ∨ (k = 3 ∧ txtOk t = true ∧ li = 0) ∨ k = 4 ∨ (k = 5 ∧ ns.length = li ∧ rises ns = true ∧ ns.all txtOk = true) := by
  unfold properB at h
  by_cases h1 : k = 1
  · rw [if_pos h1] at h; simp at h; exact .inl ⟨h1, h.2.2.1⟩
  rw [if_neg h1] at h
  by_cases h2 : k = 2
  · rw [if_pos h2] at h; simp at h; exact .inr (.inl ⟨h2, h.2.2⟩)
  rw [if_neg h2] at h
  by_cases h3 : k = 3
  · rw [if_pos h3] at h; simp at h; exact .inr (.inr (.inl ⟨h3, h.2, h.1.2.2⟩))
  rw [if_neg h3] at h
  by_cases h4 : k = 4
  · exact .inr (.inr (.inr (.inl h4)))
  rw [if_neg h4] at h
  by_cases h5 : k = 5
  · rw [if_pos h5] at h
    simp only [Bool.and_eq_true, decide_eq_true_eq] at h
    exact .inr (.inr (.inr (.inr ⟨h5, h.1.1.2.2, h.1.2, h.2⟩)))
  · rw [if_neg h5] at h; cases h

mutual
theorem JV.form_of_may : ∀ (v : JV) (d : Nat) (l : Int), v.num → (v.may d l).1 = true → v.form true
  | .mk k n t ns xs, d, l, hn, h => by
    rw [JV.may] at h
    unfold JV.num at hn
    split at h
    · cases h
    split at h
    · cases h
    next h1 h2 =>
    have hp := proper_kind (by simpa using h2)
    unfold JV.form
    split at h
    · next h3 =>
      have hx : xs = [] := by
        rcases hp with ⟨_, e⟩ | ⟨_, e⟩ | ⟨_, _, e⟩ | e | ⟨e, _⟩
        · exact List.eq_nil_of_length_eq_zero e
        · exact List.eq_nil_of_length_eq_zero e
        · exact List.eq_nil_of_length_eq_zero e
        · exact absurd e h3.1
        · exact absurd e h3.2
      subst hx
      refine ⟨?_, by unfold JV.forms; trivial⟩
      rcases hp with ⟨e, _⟩ | ⟨e, _⟩ | ⟨e, e2, _⟩ | e | ⟨e, _⟩
      · exact .inl e
      · exact .inr (.inl ⟨e, rfl, hn.2.1⟩)
      · exact .inr (.inr (.inl ⟨e, e2⟩))
      · exact absurd e h3.1
      · exact absurd e h3.2
    · next h3 =>
      split at h
      · cases h
      · refine ⟨?_, JV.forms_of_mays xs _ _ hn.2.2 h⟩
        rcases hp with ⟨e, _⟩ | ⟨e, _⟩ | ⟨e, e2, _⟩ | e | ⟨e, e2, _, e3⟩
        · exact .inl e
        · exact .inr (.inl ⟨e, rfl, hn.2.1⟩)
        · exact .inr (.inr (.inl ⟨e, e2⟩))
        · exact .inr (.inr (.inr (.inl e)))
        · exact .inr (.inr (.inr (.inr ⟨e, e2, fun i hi => List.all_eq_true.1 e3 _ (List.getElem_mem hi)⟩)))
theorem JV.forms_of_mays : ∀ (xs : List JV) (d : Nat) (l : Int), JV.nums xs → (JV.mays xs d l).1 = true → JV.forms true xs
  | [], _, _, _, _ => by unfold JV.forms; trivial
  | x :: r, d, l, hn, h => by
    rw [JV.mays] at h
    unfold JV.nums at hn
    unfold JV.forms
    split at h
    · next h1 => exact ⟨JV.form_of_may x d l hn.1 h1, JV.forms_of_mays r _ _ hn.2 h⟩
    · cases h
end

theorem quoteL_length (s : ByteArray) : (quoteL s.data.toList).length ≤ 2 * s.size + 2 := by
  have := escL_length s.data.toList
  rw [toList_length] at this
  unfold quoteL
  simp
  omega
theorem sep_length (f : Bool) : (sep f).length ≤ 1 := by cases f <;> simp [sep]
mutual
theorem JV.enc_length : ∀ (v : JV), v.form true → v.enc.length + 4 ≤ 30 * v.wt
  | .mk k n t ns xs, h => by
    unfold JV.form at h
    rw [JV.enc, JV.wt]
    have h1 := JV.encI_length xs true h.2
    have h2 := JV.encO_length ns xs true h.2
    split
    · split <;> simp <;> omega
    split
    · next e1 e2 =>
      rcases h.1 with e | ⟨_, _, e⟩ | ⟨e, _⟩ | e | ⟨e, _⟩ <;> first | omega | skip
      have := Lib.itoa_length_le n e.1 e.2
      omega
    split
    · have := quoteL_length t; omega
    split
    · simp; omega
    · simp; omega
theorem JV.encI_length : ∀ (xs : List JV) (f : Bool), JV.forms true xs → (JV.encI f xs).length ≤ 30 * JV.wts xs
  | [], f, _ => by simp [JV.encI]
  | x :: r, f, h => by
    unfold JV.forms at h
    have h1 := JV.enc_length x h.1
    have h2 := JV.encI_length r false h.2
    have h3 := sep_length f
    simp [JV.encI, JV.wts]; omega
theorem JV.encO_length : ∀ (ns : List ByteArray) (xs : List JV) (f : Bool), JV.forms true xs → (JV.encO f ns xs).length ≤ 30 * bytesSum ns + 30 * JV.wts xs
  | ns, [], f, _ => by simp [JV.encO]
  | [], x :: r, f, _ => by simp [JV.encO]
  | s :: ns, x :: r, f, h => by
    unfold JV.forms at h
    have h1 := JV.enc_length x h.1
    have h2 := JV.encO_length ns r false h.2
    have h3 := sep_length f
    have h4 := quoteL_length s
    simp [JV.encO, JV.wts, bytesSum]; omega
end
mutual
theorem JV.form_true {nm : Bool} : ∀ (v : JV), v.form nm → v.form true
  | .mk k n t ns xs, h => by
    unfold JV.form at h ⊢
    refine ⟨?_, JV.forms_true xs h.2⟩
    rcases h.1 with e | ⟨e, _, e2⟩ | e | e | e
    · exact .inl e
    · exact .inr (.inl ⟨e, rfl, e2⟩)
    · exact .inr (.inr (.inl e))
    · exact .inr (.inr (.inr (.inl e)))
    · exact .inr (.inr (.inr (.inr e)))
theorem JV.forms_true {nm : Bool} : ∀ (xs : List JV), JV.forms nm xs → JV.forms true xs
  | [], _ => by unfold JV.forms; trivial
  | x :: r, h => by unfold JV.forms at h ⊢; exact ⟨JV.form_true x h.1, JV.forms_true r h.2⟩
end
theorem JV.forms_take {nm : Bool} : ∀ (l : List JV) (k : Nat), JV.forms nm l → JV.forms nm (l.take k)
  | [], k, _ => by simp [JV.forms]
  | x :: r, 0, _ => by simp [JV.forms]
  | x :: r, k + 1, h => by unfold JV.forms at h; simp only [List.take_succ_cons]; unfold JV.forms; exact ⟨h.1, JV.forms_take r k h.2⟩
theorem JV.wts_snoc (l : List JV) (k : Nat) (h : k < l.length) : JV.wts (l.take k) + JV.wt l[k] ≤ JV.wts l := by
  induction l generalizing k with
  | nil => simp at h
  | cons x r ih =>
    cases k with
    | zero => simp [JV.wts]
    | succ k => have := ih k (by simpa using h); simp [JV.wts]; omega
theorem bytesSum_snoc (l : List ByteArray) (k : Nat) (h : k < l.length) : bytesSum (l.take k) + l[k].size + 1 ≤ bytesSum l := by
  induction l generalizing k with
  | nil => simp at h
  | cons x r ih =>
    cases k with
    | zero => simp [bytesSum]
    | succ k => have := ih k (by simpa using h); simp [bytesSum]; omega
theorem JV.encI_take (l : List JV) (k : Nat) (h : k < l.length) : JV.encI true (l.take (k + 1)) = JV.encI true (l.take k) ++ (sep (decide (k = 0)) ++ l[k].enc) := by
  rw [List.take_succ_eq_append_getElem h, JV.encI_snoc]
  congr 3
  cases k with
  | zero => simp
  | succ k => cases l with
    | nil => simp at h
    | cons x r => simp
theorem JV.encO_take (ns : List ByteArray) (l : List JV) (k : Nat) (h : k < l.length) (hn : k < ns.length) : JV.encO true (ns.take (k + 1)) (l.take (k + 1)) = JV.encO true (ns.take k) (l.take k) ++ (sep (decide (k = 0)) ++ (quoteL ns[k].data.toList ++ (58 :: l[k].enc))) := by
  rw [List.take_succ_eq_append_getElem h, List.take_succ_eq_append_getElem hn, JV.encO_snoc _ _ _ _ _ (by simp; omega)]
  congr 3
  cases k with
  | zero => simp
  | succ k => cases l with
    | nil => simp at h
    | cons x r => simp

end Go.Proofs.YtaekmmnpdbmoeaaGreatDoor

namespace Go.Proofs.YtaekmmnpdbmoeaaGreatDoor
open Go.RowKit

theorem utfOk_ascii (s : ByteArray) (h : ∀ k (hk : k < s.size), s[k].toNat < 128) : ∀ f pos, utfOk s f pos = true
  | 0, _ => rfl
  | f + 1, pos => by
    unfold utfOk
    split
    · next hp =>
      have hd := decode_ascii s pos hp (h pos hp)
      have : utfBad s pos = false := by
        unfold utfBad; rw [hd]
        have := h pos hp
        have e : ((s[pos].toNat, 1) : Nat × Nat).1 = s[pos].toNat := rfl
        rw [e, beq_eq_false_iff_ne.2 (by omega)]; rfl
      rw [this]
      exact utfOk_ascii s h f _
    · rfl
theorem utfV_ascii (s : ByteArray) (h : ∀ c ∈ s.data.toList, c.toNat < 128) : utfV s = true :=
  utfOk_ascii s (fun k hk => by rw [← toList_get s k hk]; exact h _ (List.getElem_mem _)) _ _

/-- A byte that stands for itself. -/
def plainC (c : UInt8) : Prop := c.toNat < 128 ∧ c.toNat ≠ 34 ∧ c.toNat ≠ 92
theorem escL_plain (l : List UInt8) (h : ∀ c ∈ l, plainC c) : escL l = l := by
  induction l with
  | nil => rfl
  | cons c r ih =>
    have hc := h c (by simp)
    have e : escL (c :: r) = escC c ++ escL r := by simp [escL]
    rw [e, ih fun d hd => h d (by simp [hd])]
    unfold escC plainC at *
    rw [if_neg (by omega)]; rfl
theorem plain_hex {c : UInt8} (h : isHex c = true) : plainC c := by
  unfold isHex at h; unfold plainC; simp at h; omega
theorem plain_name {c : UInt8} (h : nameC c = true) : plainC c := by
  unfold nameC at h; unfold plainC; simp at h; omega
theorem role_plain {l : List UInt8} (h : roleOk l = true) : (∀ c ∈ l, plainC c) ∧ 1 ≤ l.length ∧ l.length ≤ 64 := by
  unfold roleOk at h
  simp only [Bool.and_eq_true, decide_eq_true_eq] at h
  exact ⟨fun c hc => plain_name (List.all_eq_true.1 h.2 c hc), h.1.1⟩
theorem pub_plain {l : List UInt8} (h : pubOk l = true) : (∀ c ∈ l, plainC c) ∧ 2 ≤ l.length ∧ l.length ≤ 128 := by
  unfold pubOk allHex at h
  simp only [Bool.and_eq_true, decide_eq_true_eq] at h
  exact ⟨fun c hc => plain_hex (List.all_eq_true.1 h.2 c hc), h.1.1, h.1.2.1⟩
theorem key_parts {s t : List UInt8} (h : keyOk s t = true) : roleOk s = true ∧ pubOk t = true := by
  unfold keyOk at h; simpa using h
theorem txtOk_plain {s : ByteArray} (h : ∀ c ∈ s.data.toList, plainC c) (hl : s.size ≤ 4096) : txtOk s = true := by
  unfold txtOk; rw [utfV_ascii s fun c hc => (h c hc).1]; simpa using hl
theorem key_txt {s t : ByteArray} (h : keyOk s.data.toList t.data.toList = true) : txtOk s = true ∧ txtOk t = true ∧ s.size ≤ 64 ∧ t.size ≤ 128 := by
  obtain ⟨h1, h2⟩ := key_parts h
  have h3 := role_plain h1
  have h4 := pub_plain h2
  rw [toList_length] at h3 h4
  exact ⟨txtOk_plain h3.1 (by omega), txtOk_plain h4.1 (by omega), h3.2.2, h4.2.2⟩

theorem names_ok : txtOk pubN = true ∧ txtOk schN = true ∧ rises [pubN, schN] = true := by
  refine ⟨txtOk_plain ?_ (by decide), txtOk_plain ?_ (by decide), ?_⟩
  · intro c hc; unfold plainC; revert c; decide
  · intro c hc; unfold plainC; revert c; decide
  · unfold rises rises; rw [ByteArray.toList_eq, ByteArray.toList_eq]; decide

theorem txtJ_may (t : ByteArray) (h : txtOk t = true) (d : Nat) (l : Int) (hl : 1 ≤ l) : (txtJ t).may d l = (true, l - 1) := by
  unfold txtJ
  rw [JV.may, if_neg (by omega)]
  have : properB 3 0 t [] 0 = true := by unfold properB; simp [h]
  rw [show ([] : List JV).length = 0 from rfl, this]
  simp
theorem keyJ_may {s t : ByteArray} (h : keyOk s.data.toList t.data.toList = true) : (keyJ s t).mayB = true := by
  obtain ⟨h1, h2, _, _⟩ := key_txt h
  obtain ⟨n1, n2, n3⟩ := names_ok
  unfold JV.mayB keyJ
  have hp : properB 5 0 { data := #[] } [pubN, schN] 2 = true := by
    unfold properB
    rw [ByteArray.toList_eq]
    simp [n1, n2, n3]
  have hm : JV.mays [txtJ t, txtJ s] (12 - 1) (8192 - 1) = (true, 8192 - 1 - 1 - 1) := by
    rw [JV.mays, txtJ_may t h2 _ _ (by omega), if_pos rfl, JV.mays, txtJ_may s h1 _ _ (by omega), if_pos rfl, JV.mays]
  rw [JV.may, if_neg (by omega), show ([txtJ t, txtJ s] : List JV).length = 2 from rfl, hp, if_neg (by decide), if_neg (by decide), if_neg (by decide), hm]
theorem keyJ_form {s t : ByteArray} (h : keyOk s.data.toList t.data.toList = true) : (keyJ s t).form false := by
  obtain ⟨h1, h2, _, _⟩ := key_txt h
  obtain ⟨n1, n2, n3⟩ := names_ok
  have e : ∀ i (hi : i < [pubN, schN].length), txtOk [pubN, schN][i] = true := fun i hi => by
    match i, hi with
    | 0, _ => exact n1
    | 1, _ => exact n2
  unfold keyJ JV.form
  refine ⟨.inr (.inr (.inr (.inr ⟨rfl, rfl, e⟩))), ?_⟩
  unfold JV.forms JV.forms JV.forms
  unfold txtJ JV.form
  exact ⟨⟨.inr (.inr (.inl ⟨rfl, h2⟩)), by unfold JV.forms; trivial⟩, ⟨.inr (.inr (.inl ⟨rfl, h1⟩)), by unfold JV.forms; trivial⟩, trivial⟩
theorem keyJ_wt {s t : ByteArray} (hs : s.size ≤ 4294967) (ht : t.size ≤ 4294967) : (keyJ s t).wt ≤ 4294967296 := by
  unfold keyJ txtJ
  have e1 : pubN.size = 6 := rfl
  have e2 : schN.size = 6 := rfl
  have e3 : ({ data := #[] } : ByteArray).size = 0 := rfl
  simp only [JV.wt, JV.wts, bytesSum]
  omega

def keyF1 : List UInt8 := [123, 34, 112, 117, 98, 108, 105, 99, 34, 58, 34]
def keyF2 : List UInt8 := [34, 44, 34, 115, 99, 104, 101, 109, 101, 34, 58, 34]
/-- The canonical form of a key's object. -/
def keyForm (s t : List UInt8) : List UInt8 := keyF1 ++ (t ++ (keyF2 ++ (s ++ [34, 125])))
theorem keyForm_len (s t : List UInt8) : (keyForm s t).length = s.length + t.length + 25 := by simp [keyForm, keyF1, keyF2]; omega
theorem keyJ_enc {s t : ByteArray} (h : keyOk s.data.toList t.data.toList = true) : (keyJ s t).enc = keyForm s.data.toList t.data.toList := by
  obtain ⟨h1, h2⟩ := key_parts h
  have e1 := escL_plain _ (role_plain h1).1
  have e2 := escL_plain _ (pub_plain h2).1
  have e3 : quoteL pubN.data.toList = [34, 112, 117, 98, 108, 105, 99, 34] := by decide
  have e4 : quoteL schN.data.toList = [34, 115, 99, 104, 101, 109, 101, 34] := by decide
  unfold keyJ txtJ
  simp [JV.enc, JV.encO, sep, e3, e4, keyForm, keyF1, keyF2]
  simp [quoteL, e1, e2]

end Go.Proofs.YtaekmmnpdbmoeaaGreatDoor

namespace Go.Proofs.YtaekmmnpdbmoeaaGreatDoor
open Go.RowKit

mutual
def JV.partB : JV → Bool
  | .mk k n t ns xs => properB k n t ns xs.length && JV.partsB xs
def JV.partsB : List JV → Bool
  | [] => true
  | x :: r => JV.partB x && JV.partsB r
end
mutual
def JV.depth : JV → Nat
  | .mk k _ _ _ xs => if k ≠ 4 ∧ k ≠ 5 then 0 else JV.depths xs + 1
def JV.depths : List JV → Nat
  | [] => 0
  | x :: r => max (JV.depth x) (JV.depths r)
end
theorem JV.partB_eq (v : JV) : v.partB = (properB v.kind v.n v.t v.names v.items.length && JV.partsB v.items) := by cases v; rw [JV.partB]; rfl
theorem JV.depth_eq (v : JV) : v.depth = if v.kind ≠ 4 ∧ v.kind ≠ 5 then 0 else JV.depths v.items + 1 := by cases v; rw [JV.depth]; rfl
theorem JV.count_eq (v : JV) : v.count = 1 + JV.counts v.items := by cases v; rw [JV.count]; rfl
theorem JV.depths_take (l : List JV) (k : Nat) (h : k < l.length) : JV.depths (l.take (k + 1)) = max (JV.depths (l.take k)) (JV.depth l[k]) := by
  induction l generalizing k with
  | nil => simp at h
  | cons x r ih =>
    cases k with
    | zero => simp [JV.depths]
    | succ k => simp only [List.take_succ_cons, JV.depths, List.getElem_cons_succ]; rw [ih k (by simpa using h)]; omega
theorem JV.partsB_take (l : List JV) (k : Nat) (h : k < l.length) : JV.partsB (l.take (k + 1)) = (JV.partsB (l.take k) && JV.partB l[k]) := by
  induction l generalizing k with
  | nil => simp at h
  | cons x r ih =>
    cases k with
    | zero => simp [JV.partsB]
    | succ k => simp only [List.take_succ_cons, JV.partsB, List.getElem_cons_succ]; rw [ih k (by simpa using h), Bool.and_assoc]
theorem JV.partsB_bad (l : List JV) (k : Nat) (h : k < l.length) (hb : JV.partB l[k] = false) : JV.partsB l = false := by
  induction l generalizing k with
  | nil => simp at h
  | cons x r ih =>
    cases k with
    | zero => simp only [List.getElem_cons_zero] at hb; rw [JV.partsB, hb]; rfl
    | succ k => rw [JV.partsB, ih k (by simpa using h) (by simpa using hb), Bool.and_false]
mutual
theorem JV.depth_le : ∀ v : JV, v.depth ≤ v.wt
  | .mk k _ _ _ xs => by have := JV.depths_le xs; rw [JV.depth, JV.wt]; split <;> omega
theorem JV.depths_le : ∀ l : List JV, JV.depths l ≤ JV.wts l
  | [] => by simp [JV.depths]
  | x :: r => by have := JV.depth_le x; have := JV.depths_le r; rw [JV.depths, JV.wts]; omega
end
theorem JV.proper_leaf {v : JV} (h : properB v.kind v.n v.t v.names v.items.length = true) (h4 : v.kind ≠ 4) (h5 : v.kind ≠ 5) : v.items = [] := by
  unfold properB at h
  split at h
  · simp at h; exact h.2.2.1
  split at h
  · simp at h; exact h.2.2
  split at h
  · simp at h; exact h.1.2.2
  · first | (cases h; done) | (rw [if_neg h4, if_neg h5] at h; cases h)
theorem JV.part_leaf (v : JV) (h4 : v.kind ≠ 4) (h5 : v.kind ≠ 5) : v.partB = properB v.kind v.n v.t v.names v.items.length := by
  rw [JV.partB_eq]
  cases h : properB v.kind v.n v.t v.names v.items.length
  · rfl
  · rw [JV.proper_leaf h h4 h5]; rfl

mutual
theorem JV.may_iff : ∀ (v : JV) (d : Nat) (l : Int), 0 ≤ l → ((v.may d l).1 = true ↔ v.partB = true ∧ (v.count : Int) ≤ l ∧ v.depth ≤ d) ∧ ((v.may d l).1 = true → (v.may d l).2 = l - v.count)
  | .mk k n t ns xs, d, l, hl => by
    rw [JV.may, JV.partB, JV.count, JV.depth]
    by_cases h0 : l - 1 < 0
    · rw [if_pos h0]; simp; omega
    rw [if_neg h0]
    cases hp : properB k n t ns xs.length
    · simp
    simp only [Bool.true_eq_false, if_false, Bool.true_and]
    by_cases hk : k ≠ 4 ∧ k ≠ 5
    · have hx : xs = [] := JV.proper_leaf (v := .mk k n t ns xs) hp hk.1 hk.2
      subst hx
      rw [if_pos hk, if_pos hk]
      simp [JV.partsB, JV.counts]; omega
    · rw [if_neg hk, if_neg hk]
      by_cases hd : d = 0
      · rw [if_pos hd]; simp; omega
      · rw [if_neg hd]
        obtain ⟨i1, i2⟩ := JV.mays_iff xs (d - 1) (l - 1) (by omega)
        refine ⟨?_, fun h => ?_⟩
        · rw [i1]; constructor
          · rintro ⟨a, b, c⟩; exact ⟨a, by push_cast; omega, by omega⟩
          · rintro ⟨a, b, c⟩; exact ⟨a, by push_cast at b; omega, by omega⟩
        · rw [i2 h]; push_cast; omega
theorem JV.mays_iff : ∀ (xs : List JV) (d : Nat) (l : Int), 0 ≤ l → ((JV.mays xs d l).1 = true ↔ JV.partsB xs = true ∧ (JV.counts xs : Int) ≤ l ∧ JV.depths xs ≤ d) ∧ ((JV.mays xs d l).1 = true → (JV.mays xs d l).2 = l - JV.counts xs)
  | [], d, l, hl => by simp [JV.mays, JV.partsB, JV.counts, JV.depths]; omega
  | x :: r, d, l, hl => by
    obtain ⟨a1, a2⟩ := JV.may_iff x d l hl
    rw [JV.mays, JV.partsB, JV.counts, JV.depths]
    cases h : (JV.may x d l).1
    · rw [h] at a1
      simp only [Bool.false_eq_true, if_false, false_iff, not_and, Bool.and_eq_true, false_implies, and_true] at a1 ⊢
      intro hp hc
      have := a1 hp.1 (by push_cast at hc; omega)
      omega
    · rw [if_pos rfl]
      have hb := (JV.may_bd x d l hl).2.2 h
      obtain ⟨c1, c2, c3⟩ := a1.1 h
      have e2 := a2 h
      obtain ⟨i1, i2⟩ := JV.mays_iff r d _ hb
      rw [i1, e2] 
      refine ⟨?_, fun hh => ?_⟩
      · rw [c1, Bool.true_and]; constructor
        · rintro ⟨a, b, c⟩; exact ⟨a, by push_cast; omega, by omega⟩
        · rintro ⟨a, b, c⟩; exact ⟨a, by push_cast at b; omega, by omega⟩
      · have hh' : (JV.mays r d (JV.may x d l).2).1 = true := by rw [e2]; exact i1.2 (by rw [e2]; exact hh) |> fun z => by rwa [e2] at z
        have := i2 hh'
        rw [e2] at this
        rw [this]; push_cast; omega
end
theorem JV.mayB_iff (v : JV) : v.mayB = (v.partB && decide (v.count ≤ 8192) && decide (v.depth ≤ 12)) := by
  unfold JV.mayB
  rw [Bool.eq_iff_iff, (JV.may_iff v 12 8192 (by omega)).1]
  simp only [Bool.and_eq_true, decide_eq_true_eq]
  constructor
  · rintro ⟨a, b, c⟩; exact ⟨⟨a, by omega⟩, c⟩
  · rintro ⟨⟨a, b⟩, c⟩; exact ⟨a, by omega, c⟩

end Go.Proofs.YtaekmmnpdbmoeaaGreatDoor
