/- Plain: a key's object with a name more, or less, is none; a table of one key by another name is none. No program in sight. Plain: the closed facts of the law KeyNames. No program in sight. The contract of value.Without: an object of flat Items. The contract of the law KeyNothing: it returns true, whatever the two keys, the name and the value. -/
import Derived.Test.YtcahpjejpimdhaaGreatDoorZk301
import Derived.Test.YtcahpjejpimdhaaGreatDoorZt233
import Derived.Test.YtcahpjejpimdhaaGreatDoorZk300
import Derived.Test.YtcahpjejpimdhaaGreatDoorZt229
import Derived.Test.YtcahpjejpimdhaaGreatDoorZt234
import Derived.Test.YtcahpjejpimdhaaGreatDoorZt222

namespace Go.Proofs.YtcahpjejpimdhaaGreatDoor
open Go.RowKit

theorem key_names (s t : ByteArray) : (keyJ s t).names = [pubN, schN] := rfl
theorem key_items (s t : ByteArray) : (keyJ s t).items = [txtJ t, txtJ s] := rfl
/-- What Of tells of an object that has public and scheme as texts, and another name. -/
theorem keyOf_more {u : JV} {a b : ByteArray} {n : ByteArray} (hk : u.kind = 5) (hp : u.look pubN = some (txtJ a)) (hs : u.look schN = some (txtJ b)) (hn : n ∈ u.names) (h1 : n ≠ pubN) (h2 : n ≠ schN) :
    (keyOfJ u).2 = if u.mayB then 11 else 3 := by
  unfold keyOfJ
  cases hm : u.mayB
  · rw [if_pos rfl]; rfl
  · have e1 : pickText u pubN ⟨[], 0⟩ = (a, ⟨[pubN], 0⟩) := by unfold pickText; rw [if_neg (by simp), hp]; rfl
    have e2 : pickText u schN ⟨[pubN], 0⟩ = (b, ⟨[schN, pubN], 0⟩) := by unfold pickText; rw [if_neg (by simp), hs]; rfl
    have e3 : pickDone u ⟨[schN, pubN], 0⟩ = 11 := by
      unfold pickDone
      rw [if_neg (by simp), if_neg]
      intro h
      have := List.all_eq_true.1 h n hn
      simp at this
      rcases this with e | e
      · exact h2 e.symm
      · exact h1 e.symm
    rw [if_neg (by simp), if_neg (by simp [hk]), e1]
    simp only
    rw [e2]
    simp only
    rw [e3, if_pos (by simp)]
    rfl
theorem keyOf_with {s t n : ByteArray} {r : Nat} {f : Bool} {x : JV} (hr : r ≤ 2) (h1 : n ≠ pubN) (h2 : n ≠ schN) (hf : f = true → ∃ h : r < (keyJ s t).names.length, (keyJ s t).names[r] = n) :
    (keyOfJ (withJ (keyJ s t) r f n x)).2 = if (withJ (keyJ s t) r f n x).mayB then 11 else 3 := by
  have ff : f = false := by
    cases f
    · rfl
    · obtain ⟨h, e⟩ := hf rfl
      match r, h, e with
      | 0, _, e => exact absurd e.symm h1
      | 1, _, e => exact absurd e.symm h2
  subst ff
  match r, hr with
  | 0, _ => exact keyOf_more (a := t) (b := s) (n := n) rfl (by simp [JV.look, withJ, withN, withI, JV.names, JV.items, keyJ, lookL, h1]) (by simp [JV.look, withJ, withN, withI, JV.names, JV.items, keyJ, lookL, h2, pub_ne]) (by simp [withJ, withN, JV.names, keyJ]) h1 h2
  | 1, _ => exact keyOf_more (a := t) (b := s) (n := n) rfl (by simp [JV.look, withJ, withN, withI, JV.names, JV.items, keyJ, lookL]) (by simp [JV.look, withJ, withN, withI, JV.names, JV.items, keyJ, lookL, h2, pub_ne]) (by simp [withJ, withN, JV.names, keyJ]) h1 h2
  | 2, _ => exact keyOf_more (a := t) (b := s) (n := n) rfl (by simp [JV.look, withJ, withN, withI, JV.names, JV.items, keyJ, lookL]) (by simp [JV.look, withJ, withN, withI, JV.names, JV.items, keyJ, lookL, pub_ne]) (by simp [withJ, withN, JV.names, keyJ]) h1 h2

/-- An object of a scheme alone. -/
def oneS (s : ByteArray) : JV := .mk 5 0 { data := #[] } [schN] [txtJ s]
theorem oneS_may {t : ByteArray} (h2 : txtOk t = true) : (oneS t).mayB = true := by
  obtain ⟨n1, n2, n3⟩ := names_ok
  unfold JV.mayB oneS
  have hp : properB 5 0 { data := #[] } [schN] 1 = true := by
    unfold properB
    rw [ByteArray.toList_eq]
    simp [n2, rises]
  have hm : JV.mays [txtJ t] (12 - 1) (8192 - 1) = (true, 8192 - 1 - 1) := by
    rw [JV.mays, txtJ_may t h2 _ _ (by omega), if_pos rfl, JV.mays]
  rw [JV.may, if_neg (by omega), show ([txtJ t] : List JV).length = 1 from rfl, hp, if_neg (by decide), if_neg (by decide), if_neg (by decide), hm]
theorem keyOf_oneS {t : ByteArray} (h : txtOk t = true) : (keyOfJ (oneS t)).2 = 6 := by
  have l1 : (oneS t).look pubN = none := by unfold JV.look oneS JV.names JV.items; simp [lookL]; exact fun e => pub_ne e.symm
  have h1 : pickText (oneS t) pubN ⟨[], 0⟩ = ({ data := #[] }, ⟨[], 6⟩) := by unfold pickText; rw [if_neg (by simp), l1]
  have h2 : pickText (oneS t) schN ⟨[], 6⟩ = ({ data := #[] }, ⟨[], 6⟩) := by unfold pickText; rw [if_pos (by simp)]
  have h3 : pickDone (oneS t) ⟨[], 6⟩ = 6 := by unfold pickDone; rw [if_pos (by simp)]
  unfold keyOfJ
  rw [if_neg (by rw [oneS_may h]; simp), if_neg (by show ¬ (5 : Int) ≠ 5; simp), h1]
  simp only
  rw [h2]
  simp only
  rw [h3, if_pos (by simp)]

/-- An object of one name, with a key's object. -/
def tabOne (n s t : ByteArray) : JV := .mk 5 0 { data := #[] } [n] [keyJ s t]
theorem keys_one {n s t : ByteArray} (h : keyOk s.data.toList t.data.toList = true) : ((keysJ (tabOne n s t)).2 == 0) = (n.toList == (idOf s t).toList) := by
  cases hq : (n.toList == (idOf s t).toList)
  · rw [beq_eq_false_iff_ne]
    intro h0
    obtain ⟨ht, _, _, _⟩ := keysJ_back h0
    generalize (keysJ (tabOne n s t)).1 = m at ht
    unfold tabOne tabJ at ht
    injection ht with _ _ _ e4 e5
    match m, e4, e5 with
    | [k], e4, e5 =>
      simp only [List.map_cons, List.map_nil, List.cons.injEq, and_true] at e4 e5
      obtain ⟨ks, kt⟩ := k
      have e6 : keyJ s t = keyJ ks kt := e5
      unfold keyJ txtJ at e6
      injection e6 with _ _ _ _ e7
      simp only [List.cons.injEq, JV.mk.injEq, true_and, and_true] at e7
      obtain ⟨rfl, rfl⟩ := e7
      rw [e4] at hq
      simp [id2] at hq
  · have e : n = idOf s t := ba_ext (eq_of_beq hq)
    have e2 : tabOne n s t = tabJ [(s, t)] := by rw [e]; rfl
    rw [e2, keysJ_tab (m := [(s, t)]) (by intro k hk; simp at hk; subst hk; exact h) rfl (by simp)]
    rfl
theorem idOf_no {s t : ByteArray} (h : keyOk s.data.toList t.data.toList = false) : idOf s t = { data := #[] } := by
  unfold idOf keyId; rw [h]; rfl
theorem tabOne_wt {n s t : ByteArray} (hn : n.size ≤ 300) (hs : s.size ≤ 300) (ht : t.size ≤ 300) : (tabOne n s t).wt ≤ 4294967296 := by
  unfold tabOne keyJ txtJ
  have e1 : pubN.size = 6 := rfl
  have e2 : schN.size = 6 := rfl
  have e3 : ({ data := #[] } : ByteArray).size = 0 := rfl
  simp only [JV.wt, JV.wts, bytesSum]
  omega

end Go.Proofs.YtcahpjejpimdhaaGreatDoor

namespace Go.Proofs.YtcahpjejpimdhaaGreatDoor
open Go.RowKit

abbrev b0 : ByteArray := ⟨#[]⟩
abbrev bX : ByteArray := ⟨#[120]⟩
abbrev bDX : ByteArray := ⟨#[46, 120]⟩
abbrev bZ : ByteArray := ⟨#[48]⟩
abbrev bZZ : ByteArray := ⟨#[48, 48]⟩
abbrev bZF : ByteArray := ⟨#[48, 70]⟩
abbrev bA : ByteArray := ⟨#[97]⟩
abbrev bB : ByteArray := ⟨#[98]⟩
abbrev bKeyid : ByteArray := ⟨#[107, 101, 121, 105, 100]⟩
abbrev exK : Key2 := (⟨#[101, 100, 50, 53, 53, 49, 57]⟩, ⟨#[48, 48, 102, 102]⟩)

set_option maxRecDepth 100000 in
theorem may_facts : keyOk bX.data.toList (digL 64) = true ∧ keyOk bX.data.toList (digL 65) = false ∧ keyOk bX.data.toList b0.data.toList = false ∧ keyOk bX.data.toList bZF.data.toList = false ∧ keyOk bDX.data.toList bZZ.data.toList = false ∧ keyOk b0.data.toList bZZ.data.toList = false := by decide +kernel

abbrev listJ : JV := .mk 4 0 b0 [] []
abbrev boolJ : JV := .mk 1 0 b0 [] []
abbrev numJ : JV := .mk 2 7 b0 [] []
abbrev moreJ : JV := .mk 5 0 b0 [bKeyid, pubN, schN] [boolJ, txtJ bZ, txtJ bX]
abbrev kindJ : JV := .mk 5 0 b0 [pubN, schN] [numJ, txtJ bX]
set_option maxRecDepth 100000 in
theorem of_facts : keyOfJ listJ = ((b0, b0), 10) ∧ keyOfJ (oneS bX) = ((b0, b0), 6) ∧ keyOfJ (keyJ bX bZ) = ((b0, b0), 3) ∧ keyOfJ moreJ = ((b0, b0), 11) ∧ keyOfJ kindJ = ((b0, b0), 10) := by decide +kernel

/-- The 32 keys. -/
def keyI (i : Nat) : Key2 := (bX, ⟨#[hexChar (i / 16), hexChar (i % 16)]⟩)
def keysN (n : Nat) : List Key2 := (List.range n).map keyI
theorem keysN_length (n : Nat) : (keysN n).length = n := by simp [keysN]
theorem keysN_succ (n : Nat) : keysN (n + 1) = keysN n ++ [keyI n] := by simp [keysN, List.range_succ]
theorem keysN_sizes (n : Nat) : ∀ k ∈ keysN n, k.1.size ≤ 300 ∧ k.2.size ≤ 300 := fun k hk => by
  obtain ⟨i, _, rfl⟩ := List.mem_map.1 hk
  exact ⟨(by decide : bX.size ≤ 300), (by decide : 2 ≤ 300)⟩
set_option maxRecDepth 1000000 in
theorem tab32 : tabE (keysN 32) = 0 := by decide +kernel
set_option maxRecDepth 1000000 in
theorem tab_facts : tabE (keysN 32 ++ [exK]) = 5 ∧ tabE [exK, exK] = 7 ∧ tabE [exK, (b0, b0), exK] = 3 := by decide +kernel
theorem find32 : findK bZZ (keysN 32) = ((b0, b0), false) := by
  have h : ∀ l : List Key2, (∀ k ∈ l, ok2 k = true) → findK bZZ l = ((b0, b0), false) := fun l => by
    induction l with
    | nil => intro _; rfl
    | cons k r ih =>
      intro hl
      have hk : keyHit bZZ k = false := by
        cases hq : keyHit bZZ k
        · rfl
        · unfold keyHit at hq
          rw [Bool.and_eq_true] at hq
          have e := congrArg List.length (eq_of_beq hq.2)
          rw [ByteArray.toList_eq, ByteArray.toList_eq] at e
          have e2 : (keyId k.1.data.toList k.2.data.toList).length = 2 := e
          unfold keyId at e2
          rw [if_pos hq.1, shaHex_length] at e2
          omega
      rw [findK, hk]
      exact ih fun x hx => hl x (by simp [hx])
  exact h _ (tabE_parts tab32).1
set_option maxRecDepth 1000000 in
theorem keys_facts : keysJ (.mk 5 0 b0 [] []) = ([], 0) ∧ keysJ listJ = ([], 10) ∧ keysJ (tabOne bA bX bZZ) = ([], 3) ∧ keysJ (.mk 5 0 b0 [bA] [oneJ bZZ]) = ([], 6) ∧ keysJ (.mk 5 0 b0 [bB, bA] [zeroJ, zeroJ]) = ([], 3) := by decide +kernel
theorem keys_tab {m : List Key2} (hp : m.Perm (keysN 32)) (hr : rises (ids m) = true) : keysJ (tabJ m) = (m, 0) ∧ m.length = 32 := by
  have hl : m.length = 32 := by rw [hp.length_eq, keysN_length]
  exact ⟨keysJ_tab (fun k hk => (tabE_parts tab32).1 k (hp.subset hk)) hr (by omega), hl⟩

/-- What With makes of two names. -/
theorem weak_leaf {x x' : JV} (h : WeakCopy x x') (hi : x.items = []) : x' = x := by
  obtain ⟨k, n, t, ns, xs⟩ := x
  obtain ⟨k', n', t', ns', xs'⟩ := x'
  obtain rfl : k' = k := h.kind
  obtain rfl : n' = n := h.n
  obtain rfl : t' = t := h.t
  obtain rfl : ns' = ns := h.names
  obtain rfl : xs = [] := hi
  have : xs' = [] := List.eq_nil_of_length_eq_zero h.len
  rw [this]
theorem with_more {r : Nat} {f : Bool} (h1 : r ≤ 2) (h2 : ∀ t (h : t < (keyJ bX bZ).names.length), t < r → bl (keyJ bX bZ).names[t] bKeyid = true) (h4 : f = true → ∃ h : r < (keyJ bX bZ).names.length, (keyJ bX bZ).names[r] = bKeyid) :
    withJ (keyJ bX bZ) r f bKeyid boolJ = moreJ := by
  have hr : r = 0 := by
    rcases Nat.eq_zero_or_pos r with h | h
    · exact h
    · have := h2 0 (by rw [key_names]; decide) h
      have e : bl pubN bKeyid = false := by decide +kernel
      rw [show (keyJ bX bZ).names[0] = pubN from rfl, e] at this
      cases this
  subst hr
  have hf : f = false := by
    cases f
    · rfl
    · obtain ⟨h, e⟩ := h4 rfl
      have : pubN = bKeyid := e
      exact absurd this (by decide)
  subst hf
  rfl
theorem with_kind {r : Nat} {f : Bool} (h2 : ∀ t (h : t < (keyJ bX bZZ).names.length), t < r → bl (keyJ bX bZZ).names[t] pubN = true) (h5 : f = false → ∀ t (h : t < (keyJ bX bZZ).names.length), (keyJ bX bZZ).names[t] ≠ pubN) :
    withJ (keyJ bX bZZ) r f pubN numJ = kindJ := by
  have hr : r = 0 := by
    rcases Nat.eq_zero_or_pos r with h | h
    · exact h
    · have := h2 0 (by rw [key_names]; decide) h
      rw [show (keyJ bX bZZ).names[0] = pubN from rfl, bl_irrefl] at this
      cases this
  subst hr
  have hf : f = true := by
    cases f
    · exact absurd rfl (h5 rfl 0 (by rw [key_names]; decide))
    · rfl
  subst hf
  rfl

end Go.Proofs.YtcahpjejpimdhaaGreatDoor

namespace Go.Proofs.YtcahpjejpimdhaaGreatDoor
open Go.RowKit

/-- The names and Items that are not by a name, of the first k. -/
def outP (v : JV) (y : ByteArray) (k : Nat) : List (ByteArray × JV) := ((v.names.zip v.items).take k).filter fun z => z.1.toList != y.toList
theorem outP_step (v : JV) (y : ByteArray) (k : Nat) (h : k < v.names.length) (h' : k < v.items.length) : outP v y (k + 1) = outP v y k ++ (if v.names[k].toList != y.toList then [(v.names[k], v.items[k])] else []) := by
  unfold outP
  rw [List.take_succ_eq_append_getElem (by simp; omega), List.filter_append]
  congr 1
  simp only [List.getElem_zip, List.filter_cons, List.filter_nil]
theorem outP_len (v : JV) (y : ByteArray) (k : Nat) : (outP v y k).length ≤ k := by
  unfold outP
  refine Nat.le_trans (List.length_filter_le _ _) ?_
  rw [List.length_take]; omega
def outN (v : JV) (y : ByteArray) (k : Nat) : List ByteArray := (outP v y k).map Prod.fst
def outI (v : JV) (y : ByteArray) (k : Nat) : List JV := (outP v y k).map Prod.snd
theorem outN_len (v : JV) (y : ByteArray) (k : Nat) : (outN v y k).length ≤ k := by unfold outN; rw [List.length_map]; exact outP_len _ _ _
theorem outI_len (v : JV) (y : ByteArray) (k : Nat) : (outI v y k).length ≤ k := by unfold outI; rw [List.length_map]; exact outP_len _ _ _
def outJ (v : JV) (y : ByteArray) : JV := .mk 5 0 { data := #[] } (outN v y v.names.length) (outI v y v.names.length)
def OutPost (v : JV) (y : ByteArray) (w : World) (e : Ending) (w' : World) : Prop :=
  ∃ (an : Option Addr) (cn : Nat) (ai : Option Addr) (ci : Nat), e = .returned (.tuple #[.agg #[.int .u8 5, .int .i64 0, .string { data := #[] }, .slice an (outN v y v.names.length).length cn, .slice ai (outI v y v.names.length).length ci], .bool true]) ∧
    Rep w' w.heap.size w'.heap.size (outJ v y) (.agg #[.int .u8 5, .int .i64 0, .string { data := #[] }, .slice an (outN v y v.names.length).length cn, .slice ai (outI v y v.names.length).length ci]) ∧ Below w.heap.size w w'

set_option maxHeartbeats 4000000 in
set_option maxRecDepth 100000 in
theorem valueWithout (v : JV) (y : ByteArray) (xv : Value) (w : World) (hwv : v.wt ≤ 2000000000) (hk : v.kind = 5) (hn0 : v.n = 0) (ht0 : v.t = { data := #[] }) (hlen : v.names.length = v.items.length)
    (hr : rises v.names = true) (hfl : ∀ it ∈ v.items, it.items = []) (hy : y ∈ v.names) (hV : Rep w 0 w.heap.size v xv) :
    Calls Tryz.prog 39 #[xv, .string y] w (OutPost v y w) := by
  obtain ⟨an, cn, ai, ci, rfl, -, -, h3, h4⟩ := hV.parts
  obtain ⟨b1, b2, b3, b4⟩ := v.wt_bd
  obtain ⟨nn, hnn⟩ : ∃ nn, nn = v.names.length := ⟨_, rfl⟩
  rw [hk, hn0, ht0, ← hlen, ← hnn]
  have HNN := Lib.hid hnn
  have HNI := Lib.hid (show v.items.length = nn by rw [hnn, hlen])
  have hnb9 : nn ≤ 2000000000 := by rw [hnn]; omega
  have HRI0 := Lib.hid hr
  have HFLA := Lib.hid hfl
  have HY := Lib.hid hy
  obtain ⟨W0, hW0⟩ : ∃ W0, W0 = (w.alloc (.cells #[.int .u8 5, .int .i64 0, .string { data := #[] }, .slice an nn cn, .slice ai nn ci] 29)).alloc (.cells #[.int .u8 0, .int .i64 0, .string { data := #[] }, .slice none 0 0, .slice none 0 0] 29) := ⟨_, rfl⟩
  have hz0 : W0.heap.size = w.heap.size + 2 := by rw [hW0]; simp
  have HB0 := Lib.hid (show Below w.heap.size w W0 by rw [hW0]; exact ((Below.refl _ _).alloc (Nat.le_refl _) _).alloc (by simp) _)
  have HXV := Lib.hid (show W0.heap[w.heap.size]? = some (.cells #[.int .u8 5, .int .i64 0, .string { data := #[] }, .slice an nn cn, .slice ai nn ci] 29 (0, 0)) by rw [hW0]; exact heap_old _ _ _)
  have HRS0 := Lib.hid (show W0.rowIs (w.heap.size + 1) 29 5 (pick5 (.int .u8 0) (.int .i64 0) (.string { data := #[] }) (.slice none 0 0) (.slice none 0 0)) by
    rw [hW0]
    have := rowIs_box5 (w.alloc (.cells #[.int .u8 5, .int .i64 0, .string { data := #[] }, .slice an nn cn, .slice ai nn ci] 29)) (.int .u8 0) (.int .i64 0) (.string { data := #[] }) (.slice none 0 0) (.slice none 0 0) 29
    rwa [show (w.alloc (.cells #[.int .u8 5, .int .i64 0, .string { data := #[] }, .slice an nn cn, .slice ai nn ci] 29)).heap.size = w.heap.size + 1 by simp] at this)
  have HS := Lib.hid (h3.below HB0.out (Nat.le_refl _) (Nat.le_refl _) HB0.out.size)
  have HI := Lib.hid (h4.below HB0.out (Nat.le_refl _) (Nat.le_refl _) HB0.out.size)
  have HFI := Lib.hid (valueFind v.names y an cn W0 HS.out (by omega) hr)
  rw [← hnn] at HFI
  unfold FindPost at HFI
  have HW0 := Lib.hid hW0
  have HZ0 := Lib.hid hz0
  clear h3 h4 hV hW0 hz0 hr hfl hnn hlen hk hn0 ht0 b2 b3 hy
  obtain ⟨i1, hi1, hy0, hy1, hy2⟩ := info_parts infoValue
  obtain ⟨i2, hi2, hx0, hx1, hx2⟩ := info_parts infoStr
  go_enter Tryz.func39, Tryz.ntmps39
  go_wp2_with fail
  rw [← HW0.out]
  refine HFI.out.mono ?_
  clear HFI HW0
  rintro e wc ⟨r, f, rfl, hrl, hq1, hq2, hq3, hq4, hb2⟩
  have hft : f = true := by
    cases f
    · obtain ⟨j, hj, e⟩ := List.getElem_of_mem HY.out
      exact absurd e (hq4 rfl j hj)
    · rfl
  subst hft
  have HB2 := Lib.hid hb2
  clear hq1 hq2 hq3 hq4 hb2 hrl HY
  obtain ⟨c0, c1, c2, c3, c4⟩ := kcells5 HXV.out HB2.out
  have c3' : (wc.alloc (.cells #[.int .u8 5, .int .i64 0, .string { data := #[] }, .slice none 0 0, .slice none 0 0] 29)).cell? ⟨w.heap.size, 3, none⟩ = some (.slice an nn cn) := (cell_alloc_lt _ (by have := HB2.out.size; have := HZ0.out; show w.heap.size < _; omega)).trans c3
  go_wp2_with fail
  clear c0 c1 c2 c3 c4 c3'
  have HO := Lib.hid (show ObjAt (wc.alloc (.cells #[.int .u8 5, .int .i64 0, .string { data := #[] }, .slice none 0 0, .slice none 0 0] 29)) (wc.alloc (.cells #[.int .u8 5, .int .i64 0, .string { data := #[] }, .slice none 0 0, .slice none 0 0] 29)) wc.heap.size 29 9 29 (.slice none 0 0) (.slice none 0 0) [] [] [] from
    ⟨by simp, Touch.refl _ _, rowIs_box5 _ _ _ _ _ _ _, World.ownsRow_nil _ _ _ _, World.ownsRow_nil _ _ _ _, RepRow.nil _ _ _, fun b hb => by simp [Value.ownBlock] at hb⟩)
  have HBW := Lib.hid (show Below W0.heap.size W0 (wc.alloc (.cells #[.int .u8 5, .int .i64 0, .string { data := #[] }, .slice none 0 0, .slice none 0 0] 29)) from below_now HB2.out)
  have hcb0 : W0.heap.size ≤ wc.heap.size := HB2.out.size
  clear HB2
  generalize (wc.alloc (.cells #[.int .u8 5, .int .i64 0, .string { data := #[] }, .slice none 0 0, .slice none 0 0] 29)) = W at HO HBW ⊢
  generalize wc.heap.size = cb at HO hcb0 ⊢
  have HBT := Lib.hid (show ∀ w', Touch (· = cb) W w' → Below W0.heap.size W0 w' from fun w' h => HBW.out.trans (h.below HBW.out.size fun j hj e => by omega))
  go_loopw [9, 10, 46] (fun _ _ i wr => ∃ (k : Nat) (cs : List Value) (vn vi : Value), k ≤ nn ∧ i = .int .i64 k ∧ ObjAt W wr cb 29 9 29 vn vi (outN v y k) (outI v y k) cs) (fun _ _ i _ => nn - (intOf i).toNat)
  case atStart => exact ⟨0, [], .slice none 0 0, .slice none 0 0, by omega, rfl, HO.out⟩
  case round =>
    obtain ⟨k, cs, vn, vi, hkr, rfl, hobj⟩ := hrel
    have HOB := Lib.hid hobj
    clear hobj
    by_cases hlt : k < nn
    · have hkn9 : k < v.names.length := by rw [← HNN.out]; omega
      have hki9 : k < v.items.length := by rw [HNI.out]; omega
      have hol1 := outN_len v y k
      have hol2 := outI_len v y k
      have HBR := Lib.hid (HBT.out wr HOB.out.touch)
      obtain ⟨pb, pf, ha, _, hpb, y1⟩ := (HS.out.below HBR.out (Nat.le_refl _) (Nat.le_refl _) (Nat.le_refl _)).at k hkn9
      subst ha
      have HSTP := Lib.hid (outP_step v y k hkn9 hki9)
      obtain ⟨nk, hnk⟩ : ∃ nk, nk = v.names[k] := ⟨_, rfl⟩
      replace y1 := y1.trans (congrArg (fun z => some (Value.string z)) hnk.symm)
      rw [← hnk] at HSTP
      have HNK := Lib.hid hnk
      clear hnk
      have j0 : (0 : Int) ≤ (k : Int) := by omega
      have j1 : (k : Int) < (nn : Int) := by omega
      cases hne : (nk.toList != y.toList)
      · have HST := Lib.hid (show outP v y (k + 1) = outP v y k by rw [HSTP.out, hne]; simp)
        have hne2 : (nk.toList == y.toList) = true := by simpa [bne] using hne
        go_wp2
        go_roundw
        case rel =>
          have HF := HOB.out
          unfold outN outI at HF
          rw [← HST.out] at HF
          exact ⟨k + 1, _, _, _, by omega, by go_num, HF⟩
        case measure => simp [intOf]; omega
      · have hne2 : (nk.toList == y.toList) = false := by simpa [bne] using hne
        have HNE := Lib.hid hne
        have c3o : wr.cell? ⟨cb, 3, none⟩ = some vn := HOB.out.row.cell (by decide)
        have f3o : wr.frozen? ⟨cb, 3, none⟩ = false := HOB.out.row.frozen 3
        obtain ⟨kn, hkn⟩ : ∃ kn, kn = (outN v y k).length := ⟨_, rfl⟩
        have HKN := Lib.hid hkn
        have hkb : kn ≤ 2000000001 := by rw [hkn]; (try simp); omega
        have HNA := Lib.hid (show wr.ownsRow W.heap.size 9 1 vn kn ((outN v y k).map .string) by rw [hkn]; exact HOB.out.names)
        have hcwr : cb < wr.heap.size := HOB.out.row.lt
        have hcne : ¬ cb = wr.heap.size := by omega
        have hzwr : W.heap.size ≤ wr.heap.size := HOB.out.touch.size
        have hnb : some cb ≠ vn.ownBlock := fun e => by have := (HOB.out.names.lt _ e.symm).1; have := HOB.out.lt; omega
        clear hkn
        go_wp2_with (at_builtin; refine wpList_append_lies _ (by rfl) (.tmp 55) (.tmp 57) 26 (by rfl) W.heap.size 9 i2 _ 1 16 Tryz.underlying26 hi2 hx0 hx1 hx2 rfl (by decide) vn kn ((outN v y k).map .string) (by rfl) (by exact HNA.out.alloc _) _ 1 1 [.string nk] (by rfl) (by rfl) (by exact World.news_of_block (cs := #[.string nk]) (t := 9) (fr := (0, 0)) (heap_alloc_new _ _)) (by simp [Value.oneCell']) (by omega) (by unfold maxLen; omega) (by omega) (by simp; omega) _ rfl ?_; intro g1 cap2 w6 hown6 hgrow6 hat6 hlt6; have HBN := Lib.hid (below_grow wr hgrow6 (by first | exact (Below.refl _ _).drew.alloc (Nat.le_refl _) _ | exact ((Below.refl _ _).alloc (Nat.le_refl _) _).drew | exact (Below.refl _ _).alloc (Nat.le_refl _) _)); have c36 := grow_cellB hgrow6 HBN.out hcwr hnb c3o; have f36 := grow_frozenB hgrow6 HBN.out hcwr hnb f3o; have HO6 := Lib.hid hown6; have HG6 := Lib.hid hgrow6; have HA6 := Lib.hid hat6; clear hown6 hgrow6 hat6)
        have HO7 := Lib.hid (show ObjAt W (w6.setCell ⟨cb, 3, none⟩ (.slice (some ⟨g1, 0, none⟩) (kn + 1) cap2)) cb 29 9 29 (.slice (some ⟨g1, 0, none⟩) (kn + 1) cap2) vi (outN v y k ++ [nk]) (outI v y k) cs by
          have := (HOB.out.below HBN.out).name nk (g := g1) (cap := cap2) HG6.out (by rcases HA6.out with h | h; exact .inl h; exact .inr (by have := HBN.out.size; omega)) (by rw [← HKN.out]; exact HO6.out)
          rwa [← HKN.out] at this)
        clear HO6 HG6 HA6 HNA HBN c3o f3o hnb hcwr hcne hzwr hlt6 HOB
        generalize (w6.setCell ⟨cb, 3, none⟩ (.slice (some ⟨g1, 0, none⟩) (kn + 1) cap2)) = w7 at HO7 ⊢
        generalize (Value.slice (some ⟨g1, 0, none⟩) (kn + 1) cap2) = vn7 at HO7 ⊢
        clear y1 HBR
        have HBR := Lib.hid (HBT.out w7 HO7.out.touch)
        obtain ⟨ib, io, ian, icn, iai, ici, hia, _, hib, y0, y1, y2, y3, y4, hri⟩ := (HI.out.below HBR.out (Nat.le_refl _) (Nat.le_refl _) (Nat.le_refl _)).get k hki9
        subst hia
        have hfk := HFLA.out v.items[k] (List.getElem_mem hki9)
        have hwk := JV.wts_get v.items k hki9
        have hit : ∃ it, it = v.items[k] := ⟨_, rfl⟩
        obtain ⟨it, hit⟩ := hit
        rw [← hit] at y0 y1 y2 y3 y4 hri hfk hwk HSTP
        have HFL := Lib.hid hfk
        have HRI := Lib.hid (Rep.carry (Nat.le_refl _) HBR.out.size (fun _ _ _ => rfl) _ _ hri)
        clear hit hfk hri
        obtain ⟨c0, c1, c2, c3, c4⟩ := kcells5 HXV.out HBR.out
        have hpz : ib < w7.heap.size := by have := HBR.out.size; omega
        have hwz : w.heap.size < w7.heap.size := by have := HBR.out.size; have := HZ0.out; omega
        clear c0 c1 c2 c3
        have c4o : w7.cell? ⟨cb, 4, none⟩ = some vi := HO7.out.row.cell (by decide)
        have f4o : w7.frozen? ⟨cb, 4, none⟩ = false := HO7.out.row.frozen 4
        obtain ⟨ki, hki⟩ : ∃ ki, ki = (outI v y k).length := ⟨_, rfl⟩
        have HKI := Lib.hid hki
        have hkib : ki ≤ 2000000001 := by rw [hki]; (try simp); omega
        have HI7 := Lib.hid (show w7.ownsRow W.heap.size 29 5 vi ki cs by rw [hki]; exact HO7.out.items)
        have hcz7 : cb < w7.heap.size := HO7.out.row.lt
        have hz7 : W.heap.size ≤ w7.heap.size := HO7.out.touch.size
        have hnb : some cb ≠ vi.ownBlock := fun e => by have := (HO7.out.items.lt _ e.symm).1; have := HO7.out.lt; omega
        have HCI := Lib.hid (show Calls Tryz.prog 77 #[.agg #[.int .u8 it.kind, .int .i64 it.n, .string it.t, .slice ian it.names.length icn, .slice iai it.items.length ici]] w7.drew (fun e w3 => ∃ an3 cn3 ai3 ci3, e = .returned (.agg #[.int .u8 it.kind, .int .i64 it.n, .string it.t, .slice an3 it.names.length cn3, .slice ai3 it.items.length ci3]) ∧ Rep w3 w7.heap.size w3.heap.size it (.agg #[.int .u8 it.kind, .int .i64 it.n, .string it.t, .slice an3 it.names.length cn3, .slice ai3 it.items.length ci3]) ∧ Below w7.heap.size w7 w3 ∧ w7.heap.size ≤ w3.heap.size ∧ w3.cell? ⟨cb, 4, none⟩ = some vi ∧ w3.frozen? ⟨cb, 4, none⟩ = false ∧ w3.ownsRow W.heap.size 29 5 vi ki cs) by
          refine (copyFlat it _ w7.drew w7.heap.size (by omega) (Nat.le_refl _) (show Rep w7.drew 0 w7.heap.size it _ from Rep.carry (w := w7) (w' := w7.drew) (Nat.le_refl _) (Nat.le_refl _) (fun _ _ _ => rfl) _ _ HRI.out) HFL.out).mono ?_
          rintro e w3 ⟨an3, cn3, ai3, ci3, rfl, hr3, hb3⟩
          have hb4 : Below w7.heap.size w7 w3 := (Below.refl _ _).drew.trans hb3
          exact ⟨an3, cn3, ai3, ci3, rfl, hr3, hb4, hb4.size, by rw [hb4.cell hcz7]; exact c4o, by rw [hb4.frozen hcz7]; exact f4o, owns_below HI7.out hb4⟩)
        clear hki
        go_wp2_with fail
        go_region_law (first | (refine step_append_lies _ (by rfl) (.tmp 61) (.tmp 68) 27 (by rfl) W.heap.size 29 i1 _ 5 80 Tryz.underlying27 hi1 hy0 hy1 hy2 rfl (by omega) vi ki cs (by rfl) (HO3.out.alloc _) ⟨w3.heap.size, 0, none⟩ 1 1 (Array.toList #[.int .u8 it.kind, .int .i64 it.n, .string it.t, .slice an3 it.names.length cn3, .slice ai3 it.items.length ci3]) (by rfl) (by rfl) (World.news_of_block (cs := #[.int .u8 it.kind, .int .i64 it.n, .string it.t, .slice an3 it.names.length cn3, .slice ai3 it.items.length ci3]) (t := 29) (fr := (0, 0)) (heap_alloc_new w3 _)) (by simp [Value.oneCell']) (by omega) (by unfold maxLen; omega) (by omega) (by simp; omega) (w3.heap.size + 1) (by simp) ?_; intro g2 cap3 w4 hown4 hgrow4 hat4 hlt4; have c44 := grow_cell hgrow4 hcz3 hnb c43; have f44 := grow_frozen hgrow4 hcz3 hnb f43; have HO4 := Lib.hid hown4; have HG4 := Lib.hid hgrow4; have HA4 := Lib.hid hat4; clear hown4 hgrow4 hat4) | (go_simp; go_at_call 77; (with_reducible refine HCI.out.mono ?_); rintro e w3 ⟨an3, cn3, ai3, ci3, rfl, hr3, hb3, hz3, c43, f43, ho3⟩; have hcz3 : cb < w3.heap.size := Nat.lt_of_lt_of_le hcz7 hz3; have HO3 := Lib.hid ho3; have HR3' := Lib.hid hr3; have HB3' := Lib.hid hb3; clear ho3 hr3 hb3))
        all_goals
          have HST := Lib.hid (show ObjAt W (w4.setCell ⟨cb, 4, none⟩ (.slice (some ⟨g2, 0, none⟩) (ki + 1) cap3)) cb 29 9 29 vn7 (.slice (some ⟨g2, 0, none⟩) (ki + 1) cap3) (outN v y k ++ [nk]) (outI v y k ++ [it]) _ by
            have := HO7.out.item (it := it) (lo := w7.heap.size) (hi := w3.heap.size) (g := g2) (cap := cap3) (HB3'.out.trans ((Below.refl _ _).alloc hz3 _)) (Nat.le_refl _) (by simp) (HR3'.out.carry (Nat.le_refl _) (Nat.le_refl _) fun b _ hb => Below.heap_alloc _ _ _ hb) HG4.out (by rcases HA4.out with h | h; exact .inl h; exact .inr (by simp; omega)) (by rw [← HKI.out]; exact HO4.out)
            rw [← HKI.out] at this
            exact this)
          clear HO7 HB3' HR3' HG4 HA4 HO4 HO3 HCI HI7
          clear y0 y1 y2 y3 y4 c4
          go_wp2
          go_roundw
          case rel =>
            have e0 : outP v y (k + 1) = outP v y k ++ [(nk, it)] := by rw [HSTP.out, HNE.out]; simp
            have e1 : outN v y (k + 1) = outN v y k ++ [nk] := by unfold outN; rw [e0, List.map_append]; rfl
            have e2 : outI v y (k + 1) = outI v y k ++ [it] := by unfold outI; rw [e0, List.map_append]; rfl
            have HF := HST.out
            rw [← e1, ← e2] at HF
            exact ⟨k + 1, _, _, _, by omega, by go_num, HF⟩
          case measure => simp [intOf]; omega

    · obtain rfl : k = nn := by omega
      obtain ⟨an', cn', ai', ci', rfl, rfl, hrep⟩ := HOB.out.done
      have HRP := Lib.hid hrep
      have hrow := HOB.out.row
      have HBE := Lib.hid (HBT.out wr HOB.out.touch)
      have hres := below_row HBE.out HRS0.out (by have := HZ0.out; omega)
      have hcw := HOB.out.lt
      have hz := HOB.out.touch.size
      have hwz : w.heap.size + 2 ≤ wr.heap.size := by have := HBE.out.size; have := HZ0.out; omega
      obtain ⟨nl, hnl⟩ : ∃ nl, nl = (outN v y k).length := ⟨_, rfl⟩
      obtain ⟨il, hil⟩ : ∃ il, il = (outI v y k).length := ⟨_, rfl⟩
      rw [← hnl, ← hil] at hrow HRP
      have HNL := Lib.hid hnl
      have HIL := Lib.hid hil
      have r0' := hrow.cell (i := 0) (by decide); have r1 := hrow.cell (i := 1) (by decide); have r2 := hrow.cell (i := 2) (by decide); have r3 := hrow.cell (i := 3) (by decide); have r4 := hrow.cell (i := 4) (by decide)
      have t0 := hres.cell (i := 0) (by decide); have t1 := hres.cell (i := 1) (by decide); have t2 := hres.cell (i := 2) (by decide); have t3 := hres.cell (i := 3) (by decide); have t4 := hres.cell (i := 4) (by decide)
      have s0 := hres.frozen 0; have s1 := hres.frozen 1; have s2 := hres.frozen 2; have s3 := hres.frozen 3; have s4 := hres.frozen 4
      simp only [pick5] at r0' r1 r2 r3 r4 t0 t1 t2 t3 t4
      have HRS := Lib.hid hres
      have HBF := Lib.hid (HB0.out.trans (HBE.out.mono HB0.out.size))
      clear hrow hres hrep HOB hnl hil
      go_wp2
      refine bodyPost_ret (results_row_tmp Tryz.results39 _ _ (w.heap.size + 1) 29 _ (0, 0) _ rfl (row5_heap (set5 _ _ _ _ _ HRS.out)) Tryz.underlying29 rfl (by kernel_rfl) _ rfl) rfl ⟨an', cn', ai', ci', ?_, ?_, below5 _ _ _ _ _ HBF.out (by omega)⟩
      · rw [← HNN.out, ← HNL.out, ← HIL.out]; rfl
      · unfold outJ
        rw [← HNN.out, ← HNL.out, ← HIL.out]
        exact Rep.carry (by have := HBW.out.size; have := HZ0.out; omega) (show wr.heap.size ≤ _ by simp [World.setCell]) (fun j hj _ => heap5 _ _ _ _ _ (by have := HBW.out.size; have := HZ0.out; omega)) _ _ HRP.out

end Go.Proofs.YtcahpjejpimdhaaGreatDoor

namespace Go.Proofs.YtcahpjejpimdhaaGreatDoor
open Go.RowKit

theorem keyJ_flat (s t : ByteArray) : ∀ it ∈ (keyJ s t).items, it.items = [] := by
  intro it h
  rw [key_items] at h
  simp at h
  rcases h with rfl | rfl <;> rfl
theorem keyJ_wt2 {s t : ByteArray} (hs : s.size ≤ 300) (ht : t.size ≤ 300) : (keyJ s t).wt ≤ 10000 := by
  unfold keyJ txtJ
  have e1 : pubN.size = 6 := rfl
  have e2 : schN.size = 6 := rfl
  have e3 : ({ data := #[] } : ByteArray).size = 0 := rfl
  simp only [JV.wt, JV.wts, bytesSum]
  omega
theorem wts_two (a b c : List JV) : JV.wts (a ++ b ++ c) = JV.wts a + JV.wts b + JV.wts c := by
  have h : ∀ a b : List JV, JV.wts (a ++ b) = JV.wts a + JV.wts b := fun a b => by
    induction a with
    | nil => simp [JV.wts]
    | cons x r ih => simp only [List.cons_append, JV.wts, ih]; omega
  rw [h, h]
theorem weak_wt {x x' : JV} (h : WeakCopy x x') : x'.wt ≤ x.wt := by
  obtain ⟨k, n, t, ns, xs⟩ := x
  obtain ⟨k', n', t', ns', xs'⟩ := x'
  obtain rfl : t' = t := h.t
  obtain rfl : ns' = ns := h.names
  have hl : xs'.length = xs.length := h.len
  have hi : ∀ j (h : j < xs'.length) (h' : j < xs.length), WeakItem xs[j] xs'[j] := h.items
  have key : ∀ (xs xs' : List JV), xs'.length = xs.length → (∀ j (h : j < xs'.length) (h' : j < xs.length), WeakItem xs[j] xs'[j]) → JV.wts xs' ≤ JV.wts xs := fun xs => by
    induction xs with
    | nil => intro xs' hl _; rw [List.eq_nil_of_length_eq_zero hl]; exact Nat.le_refl _
    | cons y r ih =>
      intro xs' hl hi
      match xs', hl with
      | z :: r', hl =>
        have h0 := hi 0 (by simp) (by simp)
        have h1 := ih r' (by simpa using hl) fun j h h' => by have := hi (j + 1) (by simpa using h) (by simpa using h'); simpa using this
        have h2 : z.wt ≤ y.wt := by
          simp only [List.getElem_cons_zero] at h0
          rcases h0 with e | ⟨e, _⟩
          · rw [e]; exact Nat.le_refl _
          · rw [e]; have := y.wt_pos; exact this
        simp only [JV.wts]; omega
  have := key xs xs' hl hi
  simp only [JV.wt]
  omega
theorem with_wt {s t n : ByteArray} {r : Nat} {f : Bool} {x x' : JV} (hs : s.size ≤ 300) (ht : t.size ≤ 300) (hn : n.size ≤ 300) (hx : x.wt ≤ 20000) (hw : WeakCopy x x') : (withJ (keyJ s t) r f n x').wt ≤ 4294967296 := by
  have h1 := weak_wt hw
  have hb : ∀ l : List ByteArray, ∀ k, bytesSum (l.take k) ≤ bytesSum l ∧ bytesSum (l.drop k) ≤ bytesSum l := fun l => by
    induction l with
    | nil => intro k; simp
    | cons a r ih =>
      intro k
      cases k with
      | zero => simp [bytesSum]
      | succ k => have := ih k; simp only [List.take_succ_cons, List.drop_succ_cons, bytesSum]; omega
  have ha : ∀ a b : List ByteArray, bytesSum (a ++ b) = bytesSum a + bytesSum b := fun a b => by
    induction a with
    | nil => simp [bytesSum]
    | cons x r ih => simp only [List.cons_append, bytesSum, ih]; omega
  have hc : ∀ l : List JV, ∀ k, JV.wts (l.take k) ≤ JV.wts l ∧ JV.wts (l.drop k) ≤ JV.wts l := fun l => by
    induction l with
    | nil => intro k; simp
    | cons a r ih =>
      intro k
      cases k with
      | zero => simp [JV.wts]
      | succ k => have := ih k; simp only [List.take_succ_cons, List.drop_succ_cons, JV.wts]; omega
  have h2 := keyJ_wt2 hs ht
  have h3 := (keyJ s t).wt_bd
  have e3 : ({ data := #[] } : ByteArray).size = 0 := rfl
  have h4 := hb (keyJ s t).names r
  have h5 := hb (keyJ s t).names (r + f.toNat)
  have h6 := hc (keyJ s t).items r
  have h7 := hc (keyJ s t).items (r + f.toNat)
  have h8 : JV.wts (keyJ s t).items ≤ 10000 := by
    have : (keyJ s t).wt = 1 + (keyJ s t).t.size + bytesSum (keyJ s t).names + JV.wts (keyJ s t).items := by unfold keyJ; rw [JV.wt]; rfl
    omega
  have h9 : bytesSum (keyJ s t).names ≤ 10000 := by
    have : (keyJ s t).wt = 1 + (keyJ s t).t.size + bytesSum (keyJ s t).names + JV.wts (keyJ s t).items := by unfold keyJ; rw [JV.wt]; rfl
    omega
  unfold withJ withN withI
  rw [JV.wt, ha, ha, wts_two]
  simp only [bytesSum, JV.wts]
  omega
theorem out_pub {s t : ByteArray} : outJ (keyJ s t) pubN = oneS s := by
  have h1 : (pubN.toList != pubN.toList) = false := by simp
  have h2 : (schN.toList != pubN.toList) = true := by
    rw [bne_iff_ne]; intro e; exact pub_ne (ba_ext e).symm
  unfold outJ outN outI outP
  rw [key_names, key_items]
  simp [h2, oneS]
theorem out_sch {s t : ByteArray} : outJ (keyJ s t) schN = oneJ t := by
  have h2 : (pubN.toList != schN.toList) = true := by
    rw [bne_iff_ne]; intro e; exact pub_ne (ba_ext e)
  unfold outJ outN outI outP
  rw [key_names, key_items]
  simp [h2, oneJ]
theorem keyOf_out {s t y : ByteArray} (h : keyOk s.data.toList t.data.toList = true) (hy : y = pubN ∨ y = schN) : (keyOfJ (outJ (keyJ s t) y)).2 = 6 ∧ (outJ (keyJ s t) y).wt ≤ 4294967296 := by
  obtain ⟨h1, h2, h3, h4⟩ := key_txt h
  have e1 : pubN.size = 6 := rfl
  have e2 : schN.size = 6 := rfl
  have e3 : ({ data := #[] } : ByteArray).size = 0 := rfl
  rcases hy with rfl | rfl
  · rw [out_pub]; exact ⟨keyOf_oneS h1, by unfold oneS txtJ; simp only [JV.wt, JV.wts, bytesSum]; omega⟩
  · rw [out_sch, keyOf_oneJ h2]; exact ⟨rfl, by unfold oneJ txtJ; simp only [JV.wt, JV.wts, bytesSum]; omega⟩
/-- A table of one name, of which the name's row and the Item's row lie anew. -/
theorem rep_one {w : World} {n s t : ByteArray} {g1 g2 T1 T2 : Nat} {c3 c4 : Value} (h1 : w.heap[g1]? = some (.cells #[.string n] T1 (0, 0))) (h2 : w.heap[g2]? = some (.cells #[.int .u8 5, .int .i64 0, .string { data := #[] }, c3, c4] T2 (0, 0)))
    (hr : Rep w 0 w.heap.size (keyJ s t) (.agg #[.int .u8 5, .int .i64 0, .string { data := #[] }, c3, c4])) :
    Rep w 0 w.heap.size (tabOne n s t) (.agg #[.int .u8 5, .int .i64 0, .string { data := #[] }, .slice (some ⟨g1, 0, none⟩) 1 1, .slice (some ⟨g2, 0, none⟩) 1 1]) := by
  have hv := vals_one h2 (heap_lt h2) hr
  have hs : StrsAt w 0 w.heap.size (some ⟨g1, 0, none⟩) [n] := by
    refine .inr ⟨g1, 0, rfl, Nat.zero_le _, heap_lt h1, fun i hi => ?_⟩
    obtain rfl : i = 0 := by simp at hi; omega
    exact box_cell h1 rfl
  exact Rep.mk (v := tabOne n s t) (an := some ⟨g1, 0, none⟩) (cn := 1) (ai := some ⟨g2, 0, none⟩) (ci := 1) (Nat.le_refl _) (Nat.le_refl _) hs hv

set_option maxHeartbeats 4000000 in
set_option maxRecDepth 100000 in
theorem lawKeyNothing (s p n : ByteArray) (x : JV) (xx : Value) (s' p' : ByteArray) (w : World) (hX : Rep w 0 w.heap.size x xx) (hT : Tabs w) :
    Calls Tryz.prog 11 #[.agg #[.string s, .string p], .string n, xx, .agg #[.string s', .string p']] w fun e w' => e = .returned (.bool true) ∧ Below w.heap.size w w' := by
  obtain ⟨an, cn, ai, ci, rfl, -, -, -, -⟩ := hX.parts
  obtain ⟨W0, hW0⟩ : ∃ W0, W0 = ((w.alloc (.cells #[.string s, .string p] 23)).alloc (.cells #[.int .u8 x.kind, .int .i64 x.n, .string x.t, .slice an x.names.length cn, .slice ai x.items.length ci] 29)).alloc (.cells #[.string s', .string p'] 23) := ⟨_, rfl⟩
  have hz0 : W0.heap.size = w.heap.size + 3 := by rw [hW0]; simp
  have HB0 := Lib.hid (show Below w.heap.size w W0 by rw [hW0]; exact (((Below.refl _ _).alloc (Nat.le_refl _) _).alloc (by simp) _).alloc (by simp; omega) _)
  have HXK := Lib.hid (show W0.heap[w.heap.size]? = some (.cells #[.string s, .string p] 23 (0, 0)) by rw [hW0]; exact old_blk (heap_old _ _ _))
  have HXX := Lib.hid (show W0.heap[w.heap.size + 1]? = some (.cells #[.int .u8 x.kind, .int .i64 x.n, .string x.t, .slice an x.names.length cn, .slice ai x.items.length ci] 29 (0, 0)) by rw [hW0]; exact old_blk (heap_two _ _ _))
  have HXO := Lib.hid (show W0.heap[w.heap.size + 2]? = some (.cells #[.string s', .string p'] 23 (0, 0)) by
    rw [hW0]
    have := heap_alloc_new ((w.alloc (.cells #[.string s, .string p] 23)).alloc (.cells #[.int .u8 x.kind, .int .i64 x.n, .string x.t, .slice an x.names.length cn, .slice ai x.items.length ci] 29)) (.cells #[.string s', .string p'] 23)
    rwa [show ((w.alloc (.cells #[.string s, .string p] 23)).alloc (.cells #[.int .u8 x.kind, .int .i64 x.n, .string x.t, .slice an x.names.length cn, .slice ai x.items.length ci] 29)).heap.size = w.heap.size + 2 by simp] at this)
  have HT := Lib.hid (hT.below HB0.out)
  have HX := Lib.hid (hX.below HB0.out (Nat.le_refl _) (Nat.le_refl _) HB0.out.size)
  have HW0 := Lib.hid hW0
  have HZ0 := Lib.hid hz0
  clear hT hX hW0 hz0
  have HEND := Lib.hid (show ∀ w', Below W0.heap.size W0 w' → Below w.heap.size w w' from fun w' h => HB0.out.trans (h.mono HB0.out.size))
  have HAW := Lib.hid (show ∀ w', Below W0.heap.size W0 w' → Calls Tryz.prog 14 #[] w' (fun e w'' => e = .returned (.bool true) ∧ Below W0.heap.size W0 w'') from fun w' h => by
    refine (lawAwake w' (HT.out.below h)).mono ?_
    rintro e w'' ⟨rfl, hb⟩
    exact ⟨rfl, h.trans (hb.mono h.size)⟩)
  have HS := Lib.hid (lawShort s p W0)
  go_enter Tryz.func11, Tryz.ntmps11
  go_wp2_with fail
  rw [← HW0.out]
  clear HW0
  refine HS.out.mono ?_
  clear HS
  rintro e w1 ⟨rfl, hb1⟩
  have HB1 := Lib.hid hb1
  clear hb1
  have HSS := Lib.hid (@short_iff s p)
  generalize shortK s p = sh at HSS
  cases sh
  · clear HSS
    go_wp2_with fail
    refine (HAW.out w1 HB1.out).mono ?_
    rintro e w2 ⟨rfl, hb2⟩
    go_wp2
    go_ret
    exact ⟨rfl, HEND.out _ hb2⟩
  obtain ⟨hs3, hp3⟩ := HSS.out.1 rfl
  clear HSS
  obtain ⟨k0, k1⟩ := kcells2 HXO.out HB1.out
  go_wp2_with fail
  refine (lawShort s' p' w1).mono ?_
  clear k0 k1
  rintro e w2 ⟨rfl, hb2⟩
  have HB2 := Lib.hid (HB1.out.trans (hb2.mono HB1.out.size))
  clear hb2
  have HSS := Lib.hid (@short_iff s' p')
  generalize shortK s' p' = sh at HSS
  cases sh
  · clear HSS
    go_wp2_with fail
    refine (HAW.out w2 HB2.out).mono ?_
    rintro e w2 ⟨rfl, hb2⟩
    go_wp2
    go_ret
    exact ⟨rfl, HEND.out _ hb2⟩
  obtain ⟨hs4, hp4⟩ := HSS.out.1 rfl
  clear HSS
  by_cases hn3 : n.size ≤ 300
  case neg =>
    have hid2 : decide (300 < (n.size : Int)) = true := by simp; omega
    have hid3 : (300 : Int) < (n.size : Int) := by omega
    go_wp2_with fail
    refine (HAW.out w2 HB2.out).mono ?_
    rintro e w2 ⟨rfl, hb2⟩
    go_wp2
    go_ret
    exact ⟨rfl, HEND.out _ hb2⟩
  have hid2 : decide (300 < (n.size : Int)) = false := by simp; omega
  have hid3 : ¬ (300 : Int) < (n.size : Int) := by omega
  obtain ⟨c0, c1, c2, c3, c4⟩ := kcells5 HXX.out HB2.out
  have HL := Lib.hid (lawLong [x] (some ⟨w2.heap.size, 0, none⟩) 1 (w2.alloc (.cells #[.int .u8 x.kind, .int .i64 x.n, .string x.t, .slice an x.names.length cn, .slice ai x.items.length ci] 29)) (vals_one (heap_alloc_new _ _) (by simp) ((HX.out.below HB2.out (Nat.le_refl _) (Nat.le_refl _) HB2.out.size).below ((Below.refl _ _).alloc (Nat.le_refl _) _) (Nat.le_refl _) (Nat.le_refl _) (by simp))))
  go_wp2_with fail
  refine HL.out.mono ?_
  clear HL c0 c1 c2 c3 c4
  rintro e w3 ⟨b, rfl, hlong, hw3⟩
  have HB3 := Lib.hid (show Below W0.heap.size W0 w3 by rw [← hw3]; exact below_now HB2.out)
  clear hw3
  cases b
  case true =>
    clear hlong
    go_wp2_with fail
    refine (HAW.out w3 HB3.out).mono ?_
    rintro e w2 ⟨rfl, hb2⟩
    go_wp2
    go_ret
    exact ⟨rfl, HEND.out _ hb2⟩
  have hwx : x.wt ≤ 20000 := by have := hlong rfl; simp [JV.wts] at this; omega
  clear hlong
  obtain ⟨k0, k1⟩ := kcells2 HXK.out HB3.out
  go_wp2_with fail
  refine (keyMay s p w3 (by omega) (by omega)).mono ?_
  clear k0 k1
  rintro e w4 ⟨rfl, hb4⟩
  have HB4 := Lib.hid (HB3.out.trans (hb4.mono HB3.out.size))
  clear hb4
  cases hok : keyOk s.data.toList p.data.toList
  · clear hok
    go_wp2_with fail
    refine (HAW.out w4 HB4.out).mono ?_
    rintro e w2 ⟨rfl, hb2⟩
    go_wp2
    go_ret
    exact ⟨rfl, HEND.out _ hb2⟩
  have HOK := Lib.hid hok
  clear hok
  go_wp2_with fail
  refine (HAW.out w4 HB4.out).mono ?_
  clear HB1 HB2 HB3 HB4
  rintro e w5 ⟨rfl, hb5⟩
  have HB5 := Lib.hid hb5
  clear hb5
  obtain ⟨k0, k1⟩ := kcells2 HXK.out HB5.out
  have HKV := Lib.hid (keyValue_yes s p w5 (by omega) (by omega) HOK.out)
  unfold KeyValPost at HKV
  go_wp2_with fail
  refine HKV.out.mono ?_
  clear HKV k0 k1
  rintro e w6 ⟨on, pn, oi, qi, rfl, hr6, hb6⟩
  obtain ⟨W6, hW6⟩ : ∃ W6, W6 = w6.alloc (.cells #[.int .u8 5, .int .i64 0, .string { data := #[] }, .slice on 2 pn, .slice oi 2 qi] 29) := ⟨_, rfl⟩
  have HB6 := Lib.hid (show Below W0.heap.size W0 W6 by rw [hW6]; exact below_now (HB5.out.trans (hb6.mono HB5.out.size)))
  have HX6 := Lib.hid (show W6.heap[w6.heap.size]? = some (.cells #[.int .u8 5, .int .i64 0, .string { data := #[] }, .slice on 2 pn, .slice oi 2 qi] 29 (0, 0)) by rw [hW6]; exact heap_alloc_new w6 _)
  have HR6 := Lib.hid (show Rep W6 0 W6.heap.size (keyJ s p) (.agg #[.int .u8 5, .int .i64 0, .string { data := #[] }, .slice on 2 pn, .slice oi 2 qi]) by
    rw [hW6]; exact Rep.carry (Nat.zero_le _) (by simp) (fun b _ h => Below.heap_alloc _ _ _ h) _ _ hr6)
  have HE6 := Lib.hid (show ∀ w', Below W6.heap.size W6 w' → Below W0.heap.size W0 w' from fun w' h => HB6.out.trans (h.mono HB6.out.size))
  have HW6 := Lib.hid hW6
  clear hr6 hb6 hW6 HB5
  have HPU := Lib.hid (show (n.toList != pubN.toList) = false → n = pubN from fun h => ba_ext (by simpa [bne] using h))
  have HSC := Lib.hid (show (n.toList != schN.toList) = false → n = schN from fun h => ba_ext (by simpa [bne] using h))
  go_upto_region 6 with fail
  rw [← HW6.out]
  clear HW6
  go_cut [67] (fun s67 wx => ∃ b : Bool, s67 = .bool b ∧ (b = true → n ≠ pubN ∧ n ≠ schN) ∧ wx = W6)
  case first =>
    cases hp1 : (n.toList != [112, 117, 98, 108, 105, 99])
    · have hp1' : (n.toList == [112, 117, 98, 108, 105, 99]) = true := by simpa [bne] using hp1
      go_wp2_with fail
      go_meet
      exact ⟨false, rfl, fun h => by simp at h, rfl⟩
    · have hp1' : (n.toList == [112, 117, 98, 108, 105, 99]) = false := by simpa [bne] using hp1
      have HP1 := Lib.hid (show n ≠ pubN from fun e => by rw [e, ByteArray.toList_eq] at hp1; simp [pubN] at hp1)
      cases hp2 : (n.toList != [115, 99, 104, 101, 109, 101])
      · have hp2' : (n.toList == [115, 99, 104, 101, 109, 101]) = true := by simpa [bne] using hp2
        go_wp2_with fail
        go_meet
        exact ⟨false, rfl, fun h => by simp at h, rfl⟩
      · have hp2' : (n.toList == [115, 99, 104, 101, 109, 101]) = false := by simpa [bne] using hp2
        have HP2 := Lib.hid (show n ≠ schN from fun e => by rw [e, ByteArray.toList_eq] at hp2; simp [schN] at hp2)
        go_wp2_with fail
        go_meet
        exact ⟨true, rfl, fun _ => ⟨HP1.out, HP2.out⟩, rfl⟩
  case rest =>
    obtain ⟨b, hs67, hbn, hwc⟩ := hcut
    subst hs67
    subst hwc
    have HBN := Lib.hid hbn
    clear hbn HPU HSC
    obtain ⟨W6, hW6⟩ : ∃ W6, W6 = wc := ⟨_, rfl⟩
    rw [← hW6] at HB6 HX6 HR6 HE6
    rw [← hW6]
    clear hW6
    go_upto_if 67 with fail
    go_cut [8] (fun _ wx => Below W6.heap.size W6 wx)
    case first =>
      cases b
      · go_wp2_with fail
        go_meet
        exact Below.refl _ _
      · obtain ⟨hn1, hn2⟩ := HBN.out rfl
        have HN1 := Lib.hid hn1
        have HN2 := Lib.hid hn2
        clear hn1 hn2
        have HWI := Lib.hid (valueWith (keyJ s p) n x _ _ W6 (by have := keyJ_wt2 hs3 hp3; omega) (by omega) rfl rfl rfl rfl names_ok.2.2 (keyJ_flat s p) HR6.out (HX.out.below HB6.out (Nat.le_refl _) (Nat.le_refl _) HB6.out.size))
        unfold WithPost at HWI
        obtain ⟨c0, c1, c2, c3, c4⟩ := kcells5 HXX.out HB6.out
        obtain ⟨d0, d1, d2, d3, d4⟩ := kcells5 HX6.out (Below.refl _ _)
        go_wp2_with fail
        refine HWI.out.mono ?_
        clear HWI c0 c1 c2 c3 c4 d0 d1 d2 d3 d4
        rintro e w7 ⟨r, f, x', yn, gn, yi, gi, hrl, _, _, hft, _, hwk, rfl, hr7, hb7⟩
        have HOF := Lib.hid (keyOf_with (s := s) (t := p) (n := n) (r := r) (f := f) (x := x') hrl HN1.out HN2.out hft)
        have HWU := Lib.hid (with_wt (r := r) (f := f) hs3 hp3 hn3 hwx hwk)
        obtain ⟨u, hu⟩ : ∃ u, u = withJ (keyJ s p) r f n x' := ⟨_, rfl⟩
        obtain ⟨nl, hnl⟩ : ∃ nl, nl = (withN (keyJ s p) r f n).length := ⟨_, rfl⟩
        obtain ⟨il, hil⟩ : ∃ il, il = (withI (keyJ s p) r f x').length := ⟨_, rfl⟩
        rw [← hu] at HOF HWU hr7
        rw [← hnl, ← hil] at hr7
        rw [← hnl, ← hil]
        clear hu hnl hil hft hwk hrl
        obtain ⟨W7, hW7⟩ : ∃ W7, W7 = w7.alloc (.cells #[.int .u8 5, .int .i64 0, .string { data := #[] }, .slice yn nl gn, .slice yi il gi] 29) := ⟨_, rfl⟩
        have HB7 := Lib.hid (show Below W6.heap.size W6 W7 by rw [hW7]; exact below_now hb7)
        have HX7 := Lib.hid (show W7.heap[w7.heap.size]? = some (.cells #[.int .u8 5, .int .i64 0, .string { data := #[] }, .slice yn nl gn, .slice yi il gi] 29 (0, 0)) by rw [hW7]; exact heap_alloc_new w7 _)
        have HR7 := Lib.hid (show Rep W7 0 W7.heap.size u (.agg #[.int .u8 5, .int .i64 0, .string { data := #[] }, .slice yn nl gn, .slice yi il gi]) by
          rw [hW7]; exact Rep.carry (Nat.zero_le _) (by simp) (fun b _ h => Below.heap_alloc _ _ _ h) _ _ hr7)
        have HKO := Lib.hid (keyOfW u _ W7 W7.heap.size HWU.out (Nat.le_refl _) HR7.out)
        unfold KeyOfPost at HKO
        obtain ⟨K, hK⟩ : ∃ K, K = keyOfJ u := ⟨_, rfl⟩
        rw [← hK] at HKO HOF
        clear hK
        obtain ⟨⟨ks, kp⟩, ke⟩ := K
        obtain ⟨d0, d1, d2, d3, d4⟩ := kcells5 HX7.out (Below.refl _ _)
        rw [hW7] at d0 d1 d2 d3 d4
        have HW7 := Lib.hid hW7
        clear hr7 hb7 hW7
        go_wp2_with fail
        clear d0 d1 d2 d3 d4
        rw [← HW7.out]
        refine HKO.out.mono ?_
        clear HKO HW7
        rintro e w8 ⟨rfl, hb8⟩
        have HB8' := Lib.hid (below_now (o := .cells #[.string ks, .string kp] 23) hb8)
        have HB8 := Lib.hid (HB7.out.trans (HB8'.out.mono HB7.out.size))
        clear hb8
        cases hm : u.mayB
        · rw [hm] at HOF
          have hke : ke = 3 := HOF.out
          have t1 : (ke != 11) = true := by rw [hke]; rfl
          have t2 : (ke != 3) = false := by rw [hke]; rfl
          have HMA := Lib.hid (valueMay u _ (w8.alloc (.cells #[.string ks, .string kp] 23)) HWU.out (HR7.out.below HB8'.out (Nat.le_refl _) (Nat.le_refl _) HB8'.out.size))
          rw [hm] at HMA
          obtain ⟨d0, d1, d2, d3, d4⟩ := kcells5 HX7.out HB8'.out
          clear hm hke HOF
          go_wp2_with fail
          refine HMA.out.mono ?_
          rintro e w9 ⟨rfl, hb9⟩
          have HB9 := Lib.hid (HB8.out.trans (hb9.mono HB8.out.size))
          clear hb9
          go_wp2_with fail
          go_meet
          exact HB9.out
        · rw [hm] at HOF
          have hke : ke = 11 := HOF.out
          have t1 : (ke != 11) = false := by rw [hke]; rfl
          clear hm hke HOF
          go_wp2_with fail
          go_meet
          exact HB8.out
    case rest =>
      have HB7 := Lib.hid hcut
      clear hcut HBN
      obtain ⟨W7, hW7⟩ : ∃ W7, W7 = wc.alloc (.cells #[.string { data := #[112, 117, 98, 108, 105, 99] }, .string { data := #[115, 99, 104, 101, 109, 101] }] 9) := ⟨_, rfl⟩
      have HBB := Lib.hid (show Below W6.heap.size W6 W7 by rw [hW7]; exact below_now HB7.out)
      have HXS := Lib.hid (show W7.heap[wc.heap.size]? = some (.cells #[.string { data := #[112, 117, 98, 108, 105, 99] }, .string { data := #[115, 99, 104, 101, 109, 101] }] 9 (0, 0)) by rw [hW7]; exact heap_alloc_new wc _)
      have HW7 := Lib.hid hW7
      clear hW7 HB7
      have HZ7 := Lib.hid (show W7.heap.size = wc.heap.size + 1 by rw [HW7.out]; simp)
      go_wp2_with fail
      rw [← HW7.out]
      clear HW7
      go_loopw [16, 17, 18, 19, 20, 96] (fun _ _ _ _ _ i wr => ∃ k : Nat, k ≤ 2 ∧ i = .int .i64 k ∧ Below W7.heap.size W7 wr) (fun _ _ _ _ _ i _ => 2 - (intOf i).toNat)
      case atStart => exact ⟨0, by omega, rfl, Below.refl _ _⟩
      case round =>
        obtain ⟨k, hk, rfl, hbk⟩ := hrel
        have HBK := Lib.hid hbk
        have HBR := Lib.hid (HBB.out.trans (hbk.mono HBB.out.size))
        clear hbk
        by_cases hlt : k < 2
        · obtain ⟨yk, hyk, y1⟩ : ∃ yk : ByteArray, (yk = pubN ∨ yk = schN) ∧ wr.cell? ⟨wc.heap.size, k, none⟩ = some (.string yk) := by
            have hx := kept_blk HBK.out HXS.out
            match k, hlt with
            | 0, _ => exact ⟨pubN, .inl rfl, box_cell hx rfl⟩
            | 1, _ => exact ⟨schN, .inr rfl, box_cell hx rfl⟩
          obtain ⟨ho6, hwo⟩ := keyOf_out HOK.out hyk
          have HO6 := Lib.hid ho6
          have HWO := Lib.hid hwo
          have HWT := Lib.hid (valueWithout (keyJ s p) yk _ wr (by have := keyJ_wt2 hs3 hp3; omega) rfl rfl rfl rfl names_ok.2.2 (keyJ_flat s p) (by rw [key_names]; rcases hyk with e | e <;> simp [e]) (HR6.out.below HBR.out (Nat.le_refl _) (Nat.le_refl _) HBR.out.size))
          unfold OutPost at HWT
          obtain ⟨u, hu⟩ : ∃ u, u = outJ (keyJ s p) yk := ⟨_, rfl⟩
          obtain ⟨nl, hnl⟩ : ∃ nl, nl = (outN (keyJ s p) yk (keyJ s p).names.length).length := ⟨_, rfl⟩
          obtain ⟨il, hil⟩ : ∃ il, il = (outI (keyJ s p) yk (keyJ s p).names.length).length := ⟨_, rfl⟩
          rw [← hu] at HWT HO6 HWO
          rw [← hnl, ← hil] at HWT
          clear hu hnl hil hyk ho6 hwo
          obtain ⟨d0, d1, d2, d3, d4⟩ := kcells5 HX6.out HBR.out
          have m1 : (0 : Int) ≤ (k : Int) := by omega
          have m2 : (k : Int) < 2 := by omega
          have m3 : decide ((k : Int) < 2) = true := by simpa using m2
          go_wp2_with fail
          refine HWT.out.mono ?_
          clear HWT y1 d0 d1 d2 d3 d4
          rintro e w8 ⟨yn, gn, yi, gi, rfl, hr8, hb8⟩
          obtain ⟨W8, hW8⟩ : ∃ W8, W8 = w8.alloc (.cells #[.int .u8 5, .int .i64 0, .string { data := #[] }, .slice yn nl gn, .slice yi il gi] 29) := ⟨_, rfl⟩
          have HB8 := Lib.hid (show Below W7.heap.size W7 W8 by rw [hW8]; exact below_now (HBK.out.trans (hb8.mono HBK.out.size)))
          have HX8 := Lib.hid (show W8.heap[w8.heap.size]? = some (.cells #[.int .u8 5, .int .i64 0, .string { data := #[] }, .slice yn nl gn, .slice yi il gi] 29 (0, 0)) by rw [hW8]; exact heap_alloc_new w8 _)
          have HR8 := Lib.hid (show Rep W8 0 W8.heap.size u (.agg #[.int .u8 5, .int .i64 0, .string { data := #[] }, .slice yn nl gn, .slice yi il gi]) by
            rw [hW8]; exact Rep.carry (Nat.zero_le _) (by simp) (fun b _ h => Below.heap_alloc _ _ _ h) _ _ hr8)
          have HKO := Lib.hid (keyOfW u _ W8 W8.heap.size HWO.out (Nat.le_refl _) HR8.out)
          unfold KeyOfPost at HKO
          obtain ⟨K, hK⟩ : ∃ K, K = keyOfJ u := ⟨_, rfl⟩
          rw [← hK] at HKO HO6
          clear hK
          obtain ⟨⟨ks, kp⟩, ke⟩ := K
          have t1 : (ke != 6) = false := by have h : ke = 6 := HO6.out; rw [h]; rfl
          obtain ⟨d0, d1, d2, d3, d4⟩ := kcells5 HX8.out (Below.refl _ _)
          rw [hW8] at d0 d1 d2 d3 d4
          have HW8 := Lib.hid hW8
          clear hr8 hb8 hW8
          go_wp2_with fail
          clear d0 d1 d2 d3 d4
          rw [← HW8.out]
          refine HKO.out.mono ?_
          clear HKO HW8
          rintro e w9 ⟨rfl, hb9⟩
          have HB9 := Lib.hid (show Below W7.heap.size W7 (w9.alloc (.cells #[.string ks, .string kp] 23)) from below_now (HB8.out.trans (hb9.mono HB8.out.size)))
          clear hb9
          go_wp2
          go_roundw
          case rel => exact ⟨k + 1, by omega, by go_num, HB9.out⟩
          case measure => simp [intOf]; omega
        · obtain rfl : k = 2 := by omega
          obtain ⟨w9, hw9⟩ : ∃ w9, w9 = wr := ⟨_, rfl⟩
          rw [← hw9] at HBR
          rw [← hw9]
          clear hw9 HBK
          have HIO := Lib.hid (keyID s' p' w9 (by omega) (by omega) (HT.out.below (HE6.out _ HBR.out)))
          unfold KeyIdPost at HIO
          have HQI := Lib.hid (@id2_size (s', p'))
          obtain ⟨Iq, hIO⟩ : ∃ Iq : ByteArray, Iq = ⟨(keyId s'.data.toList p'.data.toList).toArray⟩ := ⟨_, rfl⟩
          rw [← hIO] at HIO
          replace HQI := Lib.hid (show Iq.size ≤ 64 by rw [hIO]; exact HQI.out)
          obtain ⟨fo, hfo⟩ : ∃ fo : Int, fo = (if keyOk s'.data.toList p'.data.toList then 0 else 3) := ⟨_, rfl⟩
          rw [← hfo] at HIO
          clear hIO hfo
          obtain ⟨k0, k1⟩ := kcells2 HXO.out (HE6.out _ HBR.out)
          go_wp2_with fail
          refine HIO.out.mono ?_
          clear HIO k0 k1
          rintro e w10 ⟨rfl, hb10⟩
          have HB10 := Lib.hid (HBR.out.trans (hb10.mono HBR.out.size))
          clear hb10 HBR
          have HK1 := Lib.hid (show ∀ (y : ByteArray) (X : World), y.size ≤ 300 → Below W6.heap.size W6 X → Calls Tryz.prog 35 #[.agg #[.int .u8 5, .int .i64 0, .string { data := #[] }, .slice (some ⟨X.heap.size, 0, none⟩) 1 1, .slice (some ⟨X.heap.size + 1, 0, none⟩) 1 1]] ((X.alloc (.cells #[.string y] 9)).alloc (.cells #[.int .u8 5, .int .i64 0, .string { data := #[] }, .slice on 2 pn, .slice oi 2 qi] 29)) (fun e w' => ∃ val, e = .returned (.tuple #[val, .int .i64 (keysJ (tabOne y s p)).2]) ∧ Below W6.heap.size W6 w') from fun y X hy hB => by
            have hBX : Below X.heap.size X ((X.alloc (.cells #[.string y] 9)).alloc (.cells #[.int .u8 5, .int .i64 0, .string { data := #[] }, .slice on 2 pn, .slice oi 2 qi] 29)) := ((Below.refl _ _).alloc (Nat.le_refl _) _).alloc (by simp) _
            have hB2 := hB.trans (hBX.mono hB.size)
            refine (keyKeys (tabOne y s p) _ _ (tabOne_wt hy hs3 hp3) (rep_one (heap_old _ _ _) (heap_two _ _ _) (HR6.out.below hB2 (Nat.le_refl _) (Nat.le_refl _) hB2.size)) (HT.out.below (HE6.out _ hB2))).mono ?_
            rintro e w' ⟨val, rfl, _, hb⟩
            exact ⟨val, rfl, hB2.trans (hb.mono hB2.size)⟩)
          obtain ⟨g1, hg1⟩ : ∃ g1, g1 = (keysJ (tabOne n s p)).2 := ⟨_, rfl⟩
          have HQ1 := Lib.hid (keys_one (n := n) HOK.out)
          have HC1 := Lib.hid (HK1.out n w10 hn3 HB10.out)
          rw [← hg1] at HC1 HQ1
          clear hg1
          obtain ⟨d0, d1, d2, d3, d4⟩ := kcells5 HX6.out HB10.out
          have d5 := heap_lt HX6.out
          have d6 : w6.heap.size < w10.heap.size := Nat.lt_of_lt_of_le d5 HB10.out.size
          have e0 := (cell_alloc_lt (.cells #[.string n] 9) d6).trans d0
          have e1 := (cell_alloc_lt (.cells #[.string n] 9) d6).trans d1
          have e2 := (cell_alloc_lt (.cells #[.string n] 9) d6).trans d2
          have e3 := (cell_alloc_lt (.cells #[.string n] 9) d6).trans d3
          have e4 := (cell_alloc_lt (.cells #[.string n] 9) d6).trans d4
          go_wp2_with fail
          refine HC1.out.mono ?_
          clear HC1 d0 d1 d2 d3 d4 d5 d6 e0 e1 e2 e3 e4
          rintro e w11 ⟨val1, rfl, hb11⟩
          have HB11 := Lib.hid hb11
          clear hb11 HB10
          have HID := Lib.hid (keyID s p w11 (by omega) (by omega) (HT.out.below (HE6.out _ HB11.out)))
          unfold KeyIdPost at HID
          rw [HOK.out, if_pos rfl] at HID
          obtain ⟨ID, hID⟩ : ∃ ID : ByteArray, ID = idOf s p := ⟨_, rfl⟩
          replace HID := Lib.hid (show Calls Tryz.prog 18 #[.agg #[.string s, .string p]] w11 (fun e w' => e = .returned (.tuple #[.string ID, .int .i64 0]) ∧ Below w11.heap.size w11 w') by rw [hID]; exact HID.out)
          rw [← hID] at HQ1
          have HIE := Lib.hid hID
          clear hID
          obtain ⟨k0, k1⟩ := kcells2 HXK.out (HE6.out _ HB11.out)
          go_wp2_with fail
          refine HID.out.mono ?_
          clear HID k0 k1
          rintro e w12 ⟨rfl, hb12⟩
          have HB12 := Lib.hid (HB11.out.trans (hb12.mono HB11.out.size))
          clear hb12 HB11
          obtain ⟨b1, hb1⟩ : ∃ b1, b1 = (n.toList == ID.toList) := ⟨_, rfl⟩
          have t1 : (g1 == 0) = b1 := by rw [hb1]; exact HQ1.out
          have t2 : (n.toList == ID.toList) = b1 := hb1.symm
          have t3 : (b1 != b1) = false := by cases b1 <;> rfl
          clear hb1
          obtain ⟨g2, hg2⟩ : ∃ g2, g2 = (keysJ (tabOne Iq s p)).2 := ⟨_, rfl⟩
          have HQ2 := Lib.hid (keys_one (n := Iq) HOK.out)
          have HC2 := Lib.hid (HK1.out Iq w12 (by have := HQI.out; omega) HB12.out)
          rw [← hg2] at HC2 HQ2
          rw [← HIE.out] at HQ2
          clear hg2 HIE HK1
          obtain ⟨d0, d1, d2, d3, d4⟩ := kcells5 HX6.out HB12.out
          have d5 := heap_lt HX6.out
          have d6 : w6.heap.size < w12.heap.size := Nat.lt_of_lt_of_le d5 HB12.out.size
          have e0 := (cell_alloc_lt (.cells #[.string Iq] 9) d6).trans d0
          have e1 := (cell_alloc_lt (.cells #[.string Iq] 9) d6).trans d1
          have e2 := (cell_alloc_lt (.cells #[.string Iq] 9) d6).trans d2
          have e3 := (cell_alloc_lt (.cells #[.string Iq] 9) d6).trans d3
          have e4 := (cell_alloc_lt (.cells #[.string Iq] 9) d6).trans d4
          go_wp2_with fail
          refine HC2.out.mono ?_
          clear HC2 d0 d1 d2 d3 d4 d5 d6 e0 e1 e2 e3 e4 t1 t2 t3
          rintro e w13 ⟨val2, rfl, hb13⟩
          have HB13 := Lib.hid hb13
          clear hb13
          obtain ⟨b2, hb2⟩ : ∃ b2, b2 = (Iq.toList == ID.toList) := ⟨_, rfl⟩
          have t1 : (g2 == 0) = b2 := by rw [hb2]; exact HQ2.out
          have t2 : (Iq.toList == ID.toList) = b2 := hb2.symm
          have t3 : (b2 == b2) = true := by cases b2 <;> rfl
          clear hb2
          by_cases hfo : fo = 0
          · have t4 : (fo != 0) = false := by simpa using hfo
            clear hfo
            go_wp2
            go_ret
            exact ⟨rfl, HEND.out _ (HE6.out _ HB13.out)⟩
          · have t4 : (fo != 0) = true := by simpa using hfo
            clear hfo
            go_wp2
            go_ret
            exact ⟨rfl, HEND.out _ (HE6.out _ HB13.out)⟩

end Go.Proofs.YtcahpjejpimdhaaGreatDoor
