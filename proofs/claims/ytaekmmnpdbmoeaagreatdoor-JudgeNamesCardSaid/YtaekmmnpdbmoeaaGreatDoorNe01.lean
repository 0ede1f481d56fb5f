/- The contract of the closed law legatelaw17.JudgeNames: it returns true. Printed by gennames17.py. -/
import Derived.Test.YtaekmmnpdbmoeaaGreatDoorJh29
import Derived.Test.YtaekmmnpdbmoeaaGreatDoorNe00
import Derived.Test.YtaekmmnpdbmoeaaGreatDoorJh28

namespace Go.Proofs.YtaekmmnpdbmoeaaGreatDoor
open Go.RowKit

/-- What a function makes of a value. -/
def MP.fn (f : Value → Value) (m : MP) : MP := ⟨fun w x => ∃ y, x = f y ∧ m.p w y, fun w w' _ hb ⟨y, e, h⟩ => ⟨y, e, m.mono w w' y hb h⟩⟩
theorem nm_new1 (w : World) (o : Obj) : (w.alloc o).heap[w.heap.size]? = some o ∧ Below w.heap.size w (w.alloc o) := ⟨heap_alloc_new w o, (Below.refl _ _).alloc (Nat.le_refl _) _⟩
theorem nm_new2 (w : World) (o1 o2 : Obj) : ((w.alloc o1).alloc o2).heap[w.heap.size]? = some o1 ∧ ((w.alloc o1).alloc o2).heap[w.heap.size + 1]? = some o2 ∧ Below w.heap.size w ((w.alloc o1).alloc o2) := by
  have hz : (w.alloc o1).heap.size = w.heap.size + 1 := by simp
  refine ⟨by rw [Below.heap_alloc _ _ _ (by omega)]; exact heap_alloc_new w _, ?_, ((Below.refl _ _).alloc (Nat.le_refl _) _).alloc (by simp) _⟩
  have h := heap_alloc_new (w.alloc o1) o2
  rw [hz] at h
  exact h
theorem nm_tab {w : World} {a : Option Addr} {l : List Ver3} {n c : Nat} (hl : l.length = n) (hn : n ≤ 60) (h : TrisAt w 0 w.heap.size a l) :
    Calls Tryz.prog 27 #[.slice a n c] w fun e w' => ∃ x, e = .returned x ∧ VerIs w' x (.tab l) ∧ Below w.heap.size w w' := by
  subst hl
  refine (judgeTable l a c w h hn).mono ?_
  rintro e w1 ⟨p, a', c', rfl, hp, hx, hT, hb⟩
  exact ⟨_, rfl, .inl ⟨p, a', c', rfl, hx, hn, hT.carry (Nat.zero_le _) (Nat.le_of_lt (heap_lt hx)) (fun _ _ _ => rfl)⟩, hb⟩
theorem tris_one1 {w : World} {b T : Nat} {x0 x1 x2 : ByteArray} (h : w.heap[b]? = some (.cells #[.string x0, .string x1, .string x2] T (0, 0))) : TrisAt w 0 w.heap.size (some ⟨b, 0, none⟩) [(x0, x1, x2)] := by
  refine .inr ⟨b, 0, rfl, Nat.zero_le _, heap_lt h, fun i hi => ?_⟩
  obtain rfl : i = 0 := by simp at hi; omega
  exact ⟨box_cell h rfl, box_cell h rfl, box_cell h rfl⟩
theorem tris_one3 {w : World} {b T : Nat} {x0 x1 x2 y0 y1 y2 z0 z1 z2 : ByteArray} (h : w.heap[b]? = some (.cells #[.string x0, .string x1, .string x2, .string y0, .string y1, .string y2, .string z0, .string z1, .string z2] T (0, 0))) : TrisAt w 0 w.heap.size (some ⟨b, 0, none⟩) [(x0, x1, x2), (y0, y1, y2), (z0, z1, z2)] := by
  refine .inr ⟨b, 0, rfl, Nat.zero_le _, heap_lt h, fun i hi => ?_⟩
  rcases i with _ | _ | _ | i
  · exact ⟨box_cell h rfl, box_cell h rfl, box_cell h rfl⟩
  · exact ⟨box_cell h rfl, box_cell h rfl, box_cell h rfl⟩
  · exact ⟨box_cell h rfl, box_cell h rfl, box_cell h rfl⟩
  · simp at hi; omega
theorem strs_one {w : World} {b T : Nat} {s : ByteArray} (h : w.heap[b]? = some (.cells #[.string s] T (0, 0))) : StrsAt w 0 w.heap.size (some ⟨b, 0, none⟩) [s] := by
  refine .inr ⟨b, 0, rfl, Nat.zero_le _, heap_lt h, fun i hi => ?_⟩
  obtain rfl : i = 0 := by simp at hi; omega
  exact box_cell h rfl

theorem rep_any (w : World) (k : Int) : Rep w 0 w.heap.size (.mk k 0 ⟨#[]⟩ [] []) (.agg #[.int .u8 k, .int .i64 0, .string { data := #[] }, .slice none 0 0, .slice none 0 0]) := by
  unfold Rep; exact ⟨none, 0, none, 0, rfl, Nat.le_refl _, Nat.le_refl _, .inl rfl, .inl rfl⟩
theorem num_any (k : Int) (h : 0 ≤ k ∧ k ≤ 255) : (JV.mk k 0 ⟨#[]⟩ [] []).num := by unfold JV.num JV.nums; exact ⟨by omega, by omega, trivial⟩

set_option maxHeartbeats 8000000 in
set_option maxRecDepth 100000 in
theorem lawNames17 (w : World) (hT : Tabs w) (hP : Pow10 w) : Calls Tryz.prog 5 #[] w fun e w' => e = .returned (.bool true) ∧ Below w.heap.size w w' := by
  have HT := Lib.hid hT
  have HP := Lib.hid hP
  clear hT hP
  have HAW := Lib.hid (lawAwake17 w HT.out HP.out)
  have HJ := Lib.hid lawJefe
  have HH := Lib.hid (show ∀ w : World, Calls Tryz.prog 26 #[] w (fun e w' => ∃ x, e = .returned x ∧ VerIs w' x .mac ∧ Below w.heap.size w w') from fun w => by
    refine (judgeHMAC w).mono ?_
    rintro e w' ⟨rfl, rfl⟩
    exact ⟨_, rfl, ⟨_, rfl, heap_alloc_new w _⟩, (Below.refl _ _).alloc (Nat.le_refl _) _⟩)
  have HM1 := Lib.hid (show ∀ w : World, Tabs w → Calls Tryz.prog 18 #[.agg #[.string jefeK.1, .string jefeK.2], .string { data := #[119, 104, 97, 116, 32, 100, 111, 32, 121, 97, 32, 119, 97, 110, 116, 32, 102, 111, 114, 32, 110, 111, 116, 104, 105, 110, 103, 63] }] w (fun e w' => e = .returned (.tuple #[.agg #[.string (id2 jefeK), .string macB], .int .i64 0]) ∧ Below w.heap.size w w') from fun w hT => by
    refine (judgeMake jefeK wantB w (by decide) (by decide) (by decide) hT).mono ?_
    rintro e w' ⟨rfl, hb⟩
    exact ⟨by rw [jefe_S, jefe_E], hb⟩)
  have HM2 := Lib.hid (show ∃ T1 T2 : ByteArray, ∀ w : World, Tabs w → Calls Tryz.prog 18 #[.agg #[.string { data := #[104, 109, 97, 99, 45, 115, 104, 97, 50, 53, 54] }, .string { data := #[] }], .string { data := #[119, 104, 97, 116, 32, 100, 111, 32, 121, 97, 32, 119, 97, 110, 116, 32, 102, 111, 114, 32, 110, 111, 116, 104, 105, 110, 103, 63] }] w (fun e w' => e = .returned (.tuple #[.agg #[.string T1, .string T2], .int .i64 3]) ∧ Below w.heap.size w w') from ⟨_, _, fun w hT => by
    refine (judgeMake bareK wantB w (by decide) (by decide) (by decide) hT).mono ?_
    rintro e w' ⟨rfl, hb⟩
    exact ⟨by rw [nm_make.1], hb⟩⟩)
  have HM3 := Lib.hid (show ∃ T1 T2 : ByteArray, ∀ w : World, Tabs w → Calls Tryz.prog 18 #[.agg #[.string { data := #[101, 100, 50, 53, 53, 49, 57] }, .string jefeK.2], .string { data := #[119, 104, 97, 116, 32, 100, 111, 32, 121, 97, 32, 119, 97, 110, 116, 32, 102, 111, 114, 32, 110, 111, 116, 104, 105, 110, 103, 63] }] w (fun e w' => e = .returned (.tuple #[.agg #[.string T1, .string T2], .int .i64 10]) ∧ Below w.heap.size w w') from ⟨_, _, fun w hT => by
    refine (judgeMake otherK wantB w (by decide) (by decide) (by decide) hT).mono ?_
    rintro e w' ⟨rfl, hb⟩
    exact ⟨by rw [nm_make.2.1], hb⟩⟩)
  have HG := Lib.hid (show ∀ (v : Ver) (x : Value) (k : Key2) (s : Sig2) (m : ByteArray) (b : Bool) (w : World), v.good k s m.data.toList = b → VerIs w x v → k.1.size ≤ 300 → k.2.size ≤ 300 → s.2.size ≤ 1000000 → m.size ≤ 1000 → Tabs w → Calls Tryz.prog 16 #[x, .agg #[.string k.1, .string k.2], .agg #[.string s.1, .string s.2], .string m] w (fun e w' => e = .returned (.bool b) ∧ Below w.heap.size w w') from fun v x k s m b w hb hx h1 h2 h3 hm hT => by
    rw [← hb]; exact judgeGood v x k s m w hx h1 h2 h3 (by omega) hT)
  have HSZ := Lib.hid nm_sizes
  have HF := Lib.hid (And.intro nm_g1 (And.intro nm_g2 (And.intro nm_g3 (And.intro nm_g4 (And.intro nm_g5 (And.intro nm_g6 (And.intro nm_g7 (And.intro nm_g8 nm_g9))))))))
  have HGa := Lib.hid (show ∀ (x : Value) (w : World), VerIs w x .mac → Tabs w → Calls Tryz.prog 16 #[x, .agg #[.string { data := #[101, 100, 50, 53, 53, 49, 57] }, .string jefeK.2], .agg #[.string (id2 jefeK), .string macB], .string { data := #[119, 104, 97, 116, 32, 100, 111, 32, 121, 97, 32, 119, 97, 110, 116, 32, 102, 111, 114, 32, 110, 111, 116, 104, 105, 110, 103, 63] }] w (fun e w' => e = .returned (.bool false) ∧ Below w.heap.size w w') from fun x w hx hT => HG.out .mac x otherK sS wantB false w nm_g1 hx (by decide) (by decide) (by decide) (by decide) hT)
  have HGb := Lib.hid (show ∀ (x : Value) (w : World), VerIs w x .mac → Tabs w → Calls Tryz.prog 16 #[x, .agg #[.string jefeK.1, .string jefeK.2], .agg #[.string (id2 jefeK), .string { data := #[48, 48] }], .string { data := #[119, 104, 97, 116, 32, 100, 111, 32, 121, 97, 32, 119, 97, 110, 116, 32, 102, 111, 114, 32, 110, 111, 116, 104, 105, 110, 103, 63] }] w (fun e w' => e = .returned (.bool false) ∧ Below w.heap.size w w') from fun x w hx hT => HG.out .mac x jefeK tS wantB false w nm_g2 hx (by decide) (by decide) (by decide) (by decide) hT)
  have HGc := Lib.hid (show ∀ (x : Value) (w : World), VerIs w x .mac → Tabs w → Calls Tryz.prog 16 #[x, .agg #[.string jefeK.1, .string jefeK.2], .agg #[.string { data := #[120] }, .string macB], .string { data := #[119, 104, 97, 116, 32, 100, 111, 32, 121, 97, 32, 119, 97, 110, 116, 32, 102, 111, 114, 32, 110, 111, 116, 104, 105, 110, 103, 63] }] w (fun e w' => e = .returned (.bool false) ∧ Below w.heap.size w w') from fun x w hx hT => HG.out .mac x jefeK oddS wantB false w nm_g3 hx (by decide) (by decide) (by decide) (by decide) hT)
  have HGd := Lib.hid (show ∀ (x : Value) (w : World), VerIs w x .mac → Tabs w → Calls Tryz.prog 16 #[x, .agg #[.string jefeK.1, .string jefeK.2], .agg #[.string (id2 jefeK), .string macB], .string { data := #[119, 104, 97, 116, 32, 100, 111, 32, 121, 97, 32, 119, 97, 110, 116, 32, 102, 111, 114, 32, 110, 111, 116, 104, 105, 110, 103, 63, 63] }] w (fun e w' => e = .returned (.bool false) ∧ Below w.heap.size w w') from fun x w hx hT => HG.out .mac x jefeK sS wantQ false w nm_g4 hx (by decide) (by decide) (by decide) (by decide) hT)
  have HGe := Lib.hid (show ∀ (x : Value) (w : World), VerIs w x .mac → Tabs w → Calls Tryz.prog 16 #[x, .agg #[.string { data := #[] }, .string { data := #[] }], .agg #[.string { data := #[] }, .string { data := #[] }], .string { data := #[] }] w (fun e w' => e = .returned (.bool false) ∧ Below w.heap.size w w') from fun x w hx hT => HG.out .mac x noK noS ⟨#[]⟩ false w nm_g5 hx (by decide) (by decide) (by decide) (by decide) hT)
  have HGf := Lib.hid (show ∀ (x : Value) (w : World), VerIs w x .mac → Tabs w → Calls Tryz.prog 16 #[x, .agg #[.string jefeK.1, .string jefeK.2], .agg #[.string (id2 jefeK), .string macB], .string { data := #[119, 104, 97, 116, 32, 100, 111, 32, 121, 97, 32, 119, 97, 110, 116, 32, 102, 111, 114, 32, 110, 111, 116, 104, 105, 110, 103, 63] }] w (fun e w' => e = .returned (.bool true) ∧ Below w.heap.size w w') from fun x w hx hT => HG.out .mac x jefeK sS wantB true w nm_g6 hx (by decide) (by decide) (by decide) (by decide) hT)
  have HGg := Lib.hid (show ∀ (x : Value) (w : World), VerIs w x (.tab []) → Tabs w → Calls Tryz.prog 16 #[x, .agg #[.string jefeK.1, .string jefeK.2], .agg #[.string (id2 jefeK), .string macB], .string { data := #[119, 104, 97, 116, 32, 100, 111, 32, 121, 97, 32, 119, 97, 110, 116, 32, 102, 111, 114, 32, 110, 111, 116, 104, 105, 110, 103, 63] }] w (fun e w' => e = .returned (.bool false) ∧ Below w.heap.size w w') from fun x w hx hT => HG.out (.tab []) x jefeK sS wantB false w nm_g7 hx (by decide) (by decide) (by decide) (by decide) hT)
  have HGh := Lib.hid (show ∀ (x : Value) (w : World), VerIs w x (.tab yesL) → Tabs w → Calls Tryz.prog 16 #[x, .agg #[.string jefeK.1, .string jefeK.2], .agg #[.string (id2 jefeK), .string { data := #[48, 48] }], .string { data := #[123, 125] }] w (fun e w' => e = .returned (.bool true) ∧ Below w.heap.size w w') from fun x w hx hT => HG.out (.tab yesL) x jefeK tS braces true w nm_g8 hx (by decide) (by decide) (by decide) (by decide) hT)
  have HGi := Lib.hid (show ∀ (x : Value) (w : World), VerIs w x (.tab yesL) → Tabs w → Calls Tryz.prog 16 #[x, .agg #[.string { data := #[101, 100, 50, 53, 53, 49, 57] }, .string jefeK.2], .agg #[.string (id2 jefeK), .string { data := #[48, 48] }], .string { data := #[123, 125] }] w (fun e w' => e = .returned (.bool false) ∧ Below w.heap.size w w') from fun x w hx hT => HG.out (.tab yesL) x otherK tS braces false w nm_g9 hx (by decide) (by decide) (by decide) (by decide) hT)
  have HYL := Lib.hid (show yesL = [(id2 jefeK, { data := #[48, 48] }, { data := #[52, 52, 49, 51, 54, 102, 97, 51, 53, 53, 98, 51, 54, 55, 56, 97, 49, 49, 52, 54, 97, 100, 49, 54, 102, 55, 101, 56, 54, 52, 57, 101, 57, 52, 102, 98, 52, 102, 99, 50, 49, 102, 101, 55, 55, 101, 56, 51, 49, 48, 99, 48, 54, 48, 102, 54, 49, 99, 97, 97, 102, 102, 56, 97] })] from rfl)
  have HNL := Lib.hid (show noL = [(id2 jefeK, { data := #[48, 49] }, { data := #[52, 52, 49, 51, 54, 102, 97, 51, 53, 53, 98, 51, 54, 55, 56, 97, 49, 49, 52, 54, 97, 100, 49, 54, 102, 55, 101, 56, 54, 52, 57, 101, 57, 52, 102, 98, 52, 102, 99, 50, 49, 102, 101, 55, 55, 101, 56, 51, 49, 48, 99, 48, 54, 48, 102, 54, 49, 99, 97, 97, 102, 102, 56, 97] }), (id2 jefeK, { data := #[48, 48] }, macB), ({ data := #[] }, { data := #[48, 48] }, { data := #[52, 52, 49, 51, 54, 102, 97, 51, 53, 53, 98, 51, 54, 55, 56, 97, 49, 49, 52, 54, 97, 100, 49, 54, 102, 55, 101, 56, 54, 52, 57, 101, 57, 52, 102, 98, 52, 102, 99, 50, 49, 102, 101, 55, 55, 101, 56, 51, 49, 48, 99, 48, 54, 48, 102, 54, 49, 99, 97, 97, 102, 102, 56, 97] })] from rfl)
  have Hc1 := Lib.hid (show ∀ (x : Value) (sa ia ka : Option Addr) (sc ic kc : Nat) (w : World), VerIs w x (.tab yesL) → KeysAt w 0 w.heap.size sa [sS, tS] → StrsAt w 0 w.heap.size ia [id2 jefeK] → KeysAt w 0 w.heap.size ka [jefeK] → Tabs w → Pow10 w → Calls Tryz.prog 21 #[x, .agg #[.int .u8 5, .int .i64 0, .string { data := #[] }, .slice none 0 0, .slice none 0 0, .slice sa 2 sc], .agg #[.int .i64 1, .slice ia 1 ic], .slice ka 1 kc] w (fun e w' => e = .returned (.int .i64 1) ∧ Below w.heap.size w w') from fun x sa ia ka sc ic kc w hx hs hi hk hT hP => by
    have hc := judgeCount (.tab yesL) x objJ [sS, tS] none none sa 0 0 sc 1 [id2 jefeK] ia ic [jefeK] ka kc w hx ⟨rep_any w 5, hs, by decide, (fun s h => by have := nm_sizes.2.1 s (by simp at h ⊢; rcases h with h | h <;> simp [h]); omega), by decide⟩ ⟨hi, (fun s h => by simp at h; rw [h]; exact nm_sizes.2.2), by decide⟩ ⟨hk, by decide, (fun k h => by simp at h; rw [h]; decide)⟩ (num_any 5 (by decide)) hP hT
    rw [nm_c1] at hc
    exact hc)
  have Hc2 := Lib.hid (show ∀ (x : Value) (sa ia ka : Option Addr) (sc ic kc : Nat) (w : World), VerIs w x (.tab noL) → KeysAt w 0 w.heap.size sa [sS, tS] → StrsAt w 0 w.heap.size ia [id2 jefeK] → KeysAt w 0 w.heap.size ka [jefeK] → Tabs w → Pow10 w → Calls Tryz.prog 21 #[x, .agg #[.int .u8 5, .int .i64 0, .string { data := #[] }, .slice none 0 0, .slice none 0 0, .slice sa 2 sc], .agg #[.int .i64 1, .slice ia 1 ic], .slice ka 1 kc] w (fun e w' => e = .returned (.int .i64 0) ∧ Below w.heap.size w w') from fun x sa ia ka sc ic kc w hx hs hi hk hT hP => by
    have hc := judgeCount (.tab noL) x objJ [sS, tS] none none sa 0 0 sc 1 [id2 jefeK] ia ic [jefeK] ka kc w hx ⟨rep_any w 5, hs, by decide, (fun s h => by have := nm_sizes.2.1 s (by simp at h ⊢; rcases h with h | h <;> simp [h]); omega), by decide⟩ ⟨hi, (fun s h => by simp at h; rw [h]; exact nm_sizes.2.2), by decide⟩ ⟨hk, by decide, (fun k h => by simp at h; rw [h]; decide)⟩ (num_any 5 (by decide)) hP hT
    rw [nm_c2] at hc
    exact hc)
  have Hc3 := Lib.hid (show ∀ (x : Value) (sa ia ka : Option Addr) (sc ic kc : Nat) (w : World), VerIs w x (.mac) → KeysAt w 0 w.heap.size sa [sS, tS] → StrsAt w 0 w.heap.size ia [id2 jefeK] → KeysAt w 0 w.heap.size ka [jefeK] → Tabs w → Pow10 w → Calls Tryz.prog 21 #[x, .agg #[.int .u8 5, .int .i64 0, .string { data := #[] }, .slice none 0 0, .slice none 0 0, .slice sa 2 sc], .agg #[.int .i64 1, .slice ia 1 ic], .slice ka 1 kc] w (fun e w' => e = .returned (.int .i64 0) ∧ Below w.heap.size w w') from fun x sa ia ka sc ic kc w hx hs hi hk hT hP => by
    have hc := judgeCount (.mac) x objJ [sS, tS] none none sa 0 0 sc 1 [id2 jefeK] ia ic [jefeK] ka kc w hx ⟨rep_any w 5, hs, by decide, (fun s h => by have := nm_sizes.2.1 s (by simp at h ⊢; rcases h with h | h <;> simp [h]); omega), by decide⟩ ⟨hi, (fun s h => by simp at h; rw [h]; exact nm_sizes.2.2), by decide⟩ ⟨hk, by decide, (fun k h => by simp at h; rw [h]; decide)⟩ (num_any 5 (by decide)) hP hT
    rw [nm_c3] at hc
    exact hc)
  have Hc4 := Lib.hid (show ∀ (x : Value) (sa ia ka : Option Addr) (sc ic kc : Nat) (w : World), VerIs w x (.tab yesL) → KeysAt w 0 w.heap.size sa [sS, tS] → StrsAt w 0 w.heap.size ia [id2 jefeK] → KeysAt w 0 w.heap.size ka [jefeK] → Tabs w → Pow10 w → Calls Tryz.prog 21 #[x, .agg #[.int .u8 5, .int .i64 0, .string { data := #[] }, .slice none 0 0, .slice none 0 0, .slice sa 2 sc], .agg #[.int .i64 1, .slice ia 1 ic], .slice none 0 0] w (fun e w' => e = .returned (.int .i64 0) ∧ Below w.heap.size w w') from fun x sa ia ka sc ic kc w hx hs hi hk hT hP => by
    have hc := judgeCount (.tab yesL) x objJ [sS, tS] none none sa 0 0 sc 1 [id2 jefeK] ia ic [] none 0 w hx ⟨rep_any w 5, hs, by decide, (fun s h => by have := nm_sizes.2.1 s (by simp at h ⊢; rcases h with h | h <;> simp [h]); omega), by decide⟩ ⟨hi, (fun s h => by simp at h; rw [h]; exact nm_sizes.2.2), by decide⟩ ⟨.inl rfl, by decide, (fun k h => by simp at h)⟩ (num_any 5 (by decide)) hP hT
    rw [nm_c4] at hc
    exact hc)
  have Hc5 := Lib.hid (show ∀ (x : Value) (sa ia ka : Option Addr) (sc ic kc : Nat) (w : World), VerIs w x (.tab yesL) → KeysAt w 0 w.heap.size sa [sS, tS] → StrsAt w 0 w.heap.size ia [id2 jefeK] → KeysAt w 0 w.heap.size ka [jefeK] → Tabs w → Pow10 w → Calls Tryz.prog 21 #[x, .agg #[.int .u8 0, .int .i64 0, .string { data := #[] }, .slice none 0 0, .slice none 0 0, .slice sa 2 sc], .agg #[.int .i64 1, .slice ia 1 ic], .slice ka 1 kc] w (fun e w' => e = .returned (.int .i64 0) ∧ Below w.heap.size w w') from fun x sa ia ka sc ic kc w hx hs hi hk hT hP => by
    have hc := judgeCount (.tab yesL) x zeroJ [sS, tS] none none sa 0 0 sc 1 [id2 jefeK] ia ic [jefeK] ka kc w hx ⟨rep_any w 0, hs, by decide, (fun s h => by have := nm_sizes.2.1 s (by simp at h ⊢; rcases h with h | h <;> simp [h]); omega), by decide⟩ ⟨hi, (fun s h => by simp at h; rw [h]; exact nm_sizes.2.2), by decide⟩ ⟨hk, by decide, (fun k h => by simp at h; rw [h]; decide)⟩ (num_any 0 (by decide)) hP hT
    rw [nm_c5] at hc
    exact hc)
  have Hc6 := Lib.hid (show ∀ (x : Value) (sa ia ka : Option Addr) (sc ic kc : Nat) (w : World), VerIs w x (.tab yesL) → KeysAt w 0 w.heap.size sa [sS, tS] → StrsAt w 0 w.heap.size ia [id2 jefeK] → KeysAt w 0 w.heap.size ka [jefeK] → Tabs w → Pow10 w → Calls Tryz.prog 21 #[x, .agg #[.int .u8 5, .int .i64 0, .string { data := #[] }, .slice none 0 0, .slice none 0 0, .slice sa 2 sc], .agg #[.int .i64 0, .slice ia 1 ic], .slice ka 1 kc] w (fun e w' => e = .returned (.int .i64 0) ∧ Below w.heap.size w w') from fun x sa ia ka sc ic kc w hx hs hi hk hT hP => by
    have hc := judgeCount (.tab yesL) x objJ [sS, tS] none none sa 0 0 sc 0 [id2 jefeK] ia ic [jefeK] ka kc w hx ⟨rep_any w 5, hs, by decide, (fun s h => by have := nm_sizes.2.1 s (by simp at h ⊢; rcases h with h | h <;> simp [h]); omega), by decide⟩ ⟨hi, (fun s h => by simp at h; rw [h]; exact nm_sizes.2.2), by decide⟩ ⟨hk, by decide, (fun k h => by simp at h; rw [h]; decide)⟩ (num_any 5 (by decide)) hP hT
    rw [nm_c6] at hc
    exact hc)
  have Hc7 := Lib.hid (show ∀ (x : Value) (sa ia ka : Option Addr) (sc ic kc : Nat) (w : World), VerIs w x (.tab []) → KeysAt w 0 w.heap.size sa [sS, tS] → StrsAt w 0 w.heap.size ia [id2 jefeK] → KeysAt w 0 w.heap.size ka [jefeK] → Tabs w → Pow10 w → Calls Tryz.prog 21 #[x, .agg #[.int .u8 5, .int .i64 0, .string { data := #[] }, .slice none 0 0, .slice none 0 0, .slice sa 2 sc], .agg #[.int .i64 1, .slice ia 1 ic], .slice ka 1 kc] w (fun e w' => e = .returned (.int .i64 0) ∧ Below w.heap.size w w') from fun x sa ia ka sc ic kc w hx hs hi hk hT hP => by
    have hc := judgeCount (.tab []) x objJ [sS, tS] none none sa 0 0 sc 1 [id2 jefeK] ia ic [jefeK] ka kc w hx ⟨rep_any w 5, hs, by decide, (fun s h => by have := nm_sizes.2.1 s (by simp at h ⊢; rcases h with h | h <;> simp [h]); omega), by decide⟩ ⟨hi, (fun s h => by simp at h; rw [h]; exact nm_sizes.2.2), by decide⟩ ⟨hk, by decide, (fun k h => by simp at h; rw [h]; decide)⟩ (num_any 5 (by decide)) hP hT
    rw [nm_c7] at hc
    exact hc)
  have He1 := Lib.hid (show ∀ (x : Value) (sa ia ka : Option Addr) (sc ic kc : Nat) (w : World), VerIs w x (.tab yesL) → KeysAt w 0 w.heap.size sa [sS, tS] → StrsAt w 0 w.heap.size ia [id2 jefeK] → KeysAt w 0 w.heap.size ka [jefeK] → Tabs w → Pow10 w → Calls Tryz.prog 23 #[x, .agg #[.int .u8 5, .int .i64 0, .string { data := #[] }, .slice none 0 0, .slice none 0 0, .slice sa 2 sc], .agg #[.int .i64 1, .slice ia 1 ic], .slice ka 1 kc] w (fun e w' => e = .returned (.bool true) ∧ Below w.heap.size w w') from fun x sa ia ka sc ic kc w hx hs hi hk hT hP => by
    have hc := judgeEnough (.tab yesL) x objJ [sS, tS] none none sa 0 0 sc 1 [id2 jefeK] ia ic [jefeK] ka kc w hx ⟨rep_any w 5, hs, by decide, (fun s h => by have := nm_sizes.2.1 s (by simp at h ⊢; rcases h with h | h <;> simp [h]); omega), by decide⟩ ⟨hi, (fun s h => by simp at h; rw [h]; exact nm_sizes.2.2), by decide⟩ ⟨hk, by decide, (fun k h => by simp at h; rw [h]; decide)⟩ (num_any 5 (by decide)) hP hT
    rw [nm_e1] at hc
    exact hc)
  have He2 := Lib.hid (show ∀ (x : Value) (sa ia ka : Option Addr) (sc ic kc : Nat) (w : World), VerIs w x (.tab noL) → KeysAt w 0 w.heap.size sa [sS, tS] → StrsAt w 0 w.heap.size ia [id2 jefeK] → KeysAt w 0 w.heap.size ka [jefeK] → Tabs w → Pow10 w → Calls Tryz.prog 23 #[x, .agg #[.int .u8 5, .int .i64 0, .string { data := #[] }, .slice none 0 0, .slice none 0 0, .slice sa 2 sc], .agg #[.int .i64 1, .slice ia 1 ic], .slice ka 1 kc] w (fun e w' => e = .returned (.bool false) ∧ Below w.heap.size w w') from fun x sa ia ka sc ic kc w hx hs hi hk hT hP => by
    have hc := judgeEnough (.tab noL) x objJ [sS, tS] none none sa 0 0 sc 1 [id2 jefeK] ia ic [jefeK] ka kc w hx ⟨rep_any w 5, hs, by decide, (fun s h => by have := nm_sizes.2.1 s (by simp at h ⊢; rcases h with h | h <;> simp [h]); omega), by decide⟩ ⟨hi, (fun s h => by simp at h; rw [h]; exact nm_sizes.2.2), by decide⟩ ⟨hk, by decide, (fun k h => by simp at h; rw [h]; decide)⟩ (num_any 5 (by decide)) hP hT
    rw [nm_e2] at hc
    exact hc)
  have He5 := Lib.hid (show ∀ (x : Value) (sa ia ka : Option Addr) (sc ic kc : Nat) (w : World), VerIs w x (.tab yesL) → KeysAt w 0 w.heap.size sa [sS, tS] → StrsAt w 0 w.heap.size ia [id2 jefeK] → KeysAt w 0 w.heap.size ka [jefeK] → Tabs w → Pow10 w → Calls Tryz.prog 23 #[x, .agg #[.int .u8 0, .int .i64 0, .string { data := #[] }, .slice none 0 0, .slice none 0 0, .slice sa 2 sc], .agg #[.int .i64 1, .slice ia 1 ic], .slice ka 1 kc] w (fun e w' => e = .returned (.bool false) ∧ Below w.heap.size w w') from fun x sa ia ka sc ic kc w hx hs hi hk hT hP => by
    have hc := judgeEnough (.tab yesL) x zeroJ [sS, tS] none none sa 0 0 sc 1 [id2 jefeK] ia ic [jefeK] ka kc w hx ⟨rep_any w 0, hs, by decide, (fun s h => by have := nm_sizes.2.1 s (by simp at h ⊢; rcases h with h | h <;> simp [h]); omega), by decide⟩ ⟨hi, (fun s h => by simp at h; rw [h]; exact nm_sizes.2.2), by decide⟩ ⟨hk, by decide, (fun k h => by simp at h; rw [h]; decide)⟩ (num_any 0 (by decide)) hP hT
    rw [nm_e5] at hc
    exact hc)
  have He6 := Lib.hid (show ∀ (x : Value) (sa ia ka : Option Addr) (sc ic kc : Nat) (w : World), VerIs w x (.tab yesL) → KeysAt w 0 w.heap.size sa [sS, tS] → StrsAt w 0 w.heap.size ia [id2 jefeK] → KeysAt w 0 w.heap.size ka [jefeK] → Tabs w → Pow10 w → Calls Tryz.prog 23 #[x, .agg #[.int .u8 5, .int .i64 0, .string { data := #[] }, .slice none 0 0, .slice none 0 0, .slice sa 2 sc], .agg #[.int .i64 0, .slice ia 1 ic], .slice ka 1 kc] w (fun e w' => e = .returned (.bool false) ∧ Below w.heap.size w w') from fun x sa ia ka sc ic kc w hx hs hi hk hT hP => by
    have hc := judgeEnough (.tab yesL) x objJ [sS, tS] none none sa 0 0 sc 0 [id2 jefeK] ia ic [jefeK] ka kc w hx ⟨rep_any w 5, hs, by decide, (fun s h => by have := nm_sizes.2.1 s (by simp at h ⊢; rcases h with h | h <;> simp [h]); omega), by decide⟩ ⟨hi, (fun s h => by simp at h; rw [h]; exact nm_sizes.2.2), by decide⟩ ⟨hk, by decide, (fun k h => by simp at h; rw [h]; decide)⟩ (num_any 5 (by decide)) hP hT
    rw [nm_e6] at hc
    exact hc)
  have He7 := Lib.hid (show ∀ (x : Value) (sa ia ka : Option Addr) (sc ic kc : Nat) (w : World), VerIs w x (.tab []) → KeysAt w 0 w.heap.size sa [sS, tS] → StrsAt w 0 w.heap.size ia [id2 jefeK] → KeysAt w 0 w.heap.size ka [jefeK] → Tabs w → Pow10 w → Calls Tryz.prog 23 #[x, .agg #[.int .u8 5, .int .i64 0, .string { data := #[] }, .slice none 0 0, .slice none 0 0, .slice sa 2 sc], .agg #[.int .i64 1, .slice ia 1 ic], .slice ka 1 kc] w (fun e w' => e = .returned (.bool false) ∧ Below w.heap.size w w') from fun x sa ia ka sc ic kc w hx hs hi hk hT hP => by
    have hc := judgeEnough (.tab []) x objJ [sS, tS] none none sa 0 0 sc 1 [id2 jefeK] ia ic [jefeK] ka kc w hx ⟨rep_any w 5, hs, by decide, (fun s h => by have := nm_sizes.2.1 s (by simp at h ⊢; rcases h with h | h <;> simp [h]); omega), by decide⟩ ⟨hi, (fun s h => by simp at h; rw [h]; exact nm_sizes.2.2), by decide⟩ ⟨hk, by decide, (fun k h => by simp at h; rw [h]; decide)⟩ (num_any 5 (by decide)) hP hT
    rw [nm_e7] at hc
    exact hc)
  obtain ⟨⟨J1, J2⟩, hJ⟩ : ∃ J, J = jefeK := ⟨_, rfl⟩
  obtain ⟨ID, hID⟩ : ∃ ID, ID = id2 jefeK := ⟨_, rfl⟩
  obtain ⟨MC, hMC⟩ : ∃ MC, MC = macB := ⟨_, rfl⟩
  have HKK := Lib.hid (show [(J1, J2)] = [jefeK] by rw [hJ])
  have HSS := Lib.hid (show [(ID, MC), (ID, { data := #[48, 48] })] = [sS, tS] by rw [hID, hMC]; rfl)
  have HII := Lib.hid (show [ID] = [id2 jefeK] by rw [hID])
  rw [← hID] at HYL HNL
  rw [← hMC] at HNL
  rw [← hID, ← hMC] at HM1
  rw [← hID, ← hMC] at HGa
  rw [← hID] at HGb
  rw [← hMC] at HGc
  rw [← hID, ← hMC] at HGd
  rw [← hID, ← hMC] at HGf
  rw [← hID, ← hMC] at HGg
  rw [← hID] at HGh
  rw [← hID] at HGi
  rw [← hJ] at HJ HM1 HM3 HGa HGb HGc HGd HGf HGg HGh HGi
  obtain ⟨A1, A2, hM2⟩ := HM2.out
  obtain ⟨B1, B2, hM3⟩ := HM3.out
  have HM2 := Lib.hid hM2
  have HM3 := Lib.hid hM3
  clear hM2 hM3 hJ hID hMC HG HSZ HF
  go_enter Tryz.func5, Tryz.ntmps5
  go_wp2_with fail
  refine HAW.out.mono ?_
  clear HAW
  rintro e w1 ⟨rfl, hb1⟩
  have HB1 := Lib.hid hb1
  clear hb1
  go_wp2_with fail
  refine (HJ.out w1).mono ?_
  clear HJ
  rintro e w2 ⟨rfl, hb2⟩
  have HB2 := Lib.hid (HB1.out.trans (hb2.mono HB1.out.size))
  clear hb2
  obtain ⟨W2, hW2⟩ : ∃ W2, W2 = w2.alloc (.cells #[.string J1, .string J2] 24) := ⟨_, rfl⟩
  have HX2 := Lib.hid (show W2.heap[w2.heap.size]? = some (.cells #[.string J1, .string J2] 24 (0, 0)) by rw [hW2]; exact heap_alloc_new w2 _)
  have HBW2 := Lib.hid (show Below w.heap.size w W2 by rw [hW2]; exact HB2.out.alloc HB2.out.size _)
  have k0 : W2.cell? ⟨w2.heap.size, 0, none⟩ = some (.string J1) := box_cell HX2.out rfl
  have k1 : W2.cell? ⟨w2.heap.size, 1, none⟩ = some (.string J2) := box_cell HX2.out rfl
  have HW2 := Lib.hid hW2
  rw [hW2] at k0 k1
  clear hW2
  go_wp2_with fail
  rw [← HW2.out]
  refine (HM1.out W2 (HT.out.below HBW2.out)).mono ?_
  clear HM1 k0 k1 HW2
  rintro e w3 ⟨rfl, hb3⟩
  have HB3 := Lib.hid (HBW2.out.trans (hb3.mono HBW2.out.size))
  have HX3 := Lib.hid ((hb3.block _ (heap_lt HX2.out)).trans HX2.out)
  have hz3 : w2.heap.size < w3.heap.size := heap_lt HX3.out
  clear hb3
  obtain ⟨W3, hW3⟩ : ∃ W3, W3 = w3.alloc (.cells #[.string ID, .string MC] 26) := ⟨_, rfl⟩
  have HBW3 := Lib.hid (show Below w.heap.size w W3 by rw [hW3]; exact HB3.out.alloc HB3.out.size _)
  have hx3 : W3.heap[w3.heap.size]? = some (.cells #[.string ID, .string MC] 26 (0, 0)) := by rw [hW3]; exact heap_alloc_new w3 _
  have hy3 : W3.heap[w2.heap.size]? = some (.cells #[.string J1, .string J2] 24 (0, 0)) := by rw [hW3, Below.heap_alloc _ _ _ hz3]; exact HX3.out
  have HKS := Lib.hid (show ∀ w' : World, Below W3.heap.size W3 w' → w'.cell? ⟨w2.heap.size, 0, none⟩ = some (.string J1) ∧ w'.cell? ⟨w2.heap.size, 1, none⟩ = some (.string J2) ∧ w'.cell? ⟨w3.heap.size, 0, none⟩ = some (.string ID) ∧ w'.cell? ⟨w3.heap.size, 1, none⟩ = some (.string MC) from fun w' h => by
    have x := (h.block _ (heap_lt hx3)).trans hx3
    have y := (h.block _ (heap_lt hy3)).trans hy3
    exact ⟨box_cell y rfl, box_cell y rfl, box_cell x rfl, box_cell x rfl⟩)
  have HW3 := Lib.hid hW3
  have HZ3 := Lib.hid (show W3.heap.size = w3.heap.size + 1 by rw [hW3]; simp)
  clear hW3 hx3 hy3 HX2 HX3 hz3
  go_upto_region 5 with fail
  rw [← HW3.out]
  obtain ⟨k0, k1, s0, s1⟩ := HKS.out W3 (Below.refl _ _)
  obtain ⟨W4, hW4⟩ : ∃ W4, W4 = W3.alloc (.cells #[.string { data := #[101, 100, 50, 53, 53, 49, 57] }, .string J2] 24) := ⟨_, rfl⟩
  have HB34 := Lib.hid (show Below W3.heap.size W3 W4 by rw [hW4]; exact (Below.refl _ _).alloc (Nat.le_refl _) _)
  have HX4 := Lib.hid (show W4.heap[W3.heap.size]? = some (.cells #[.string { data := #[101, 100, 50, 53, 53, 49, 57] }, .string J2] 24 (0, 0)) by rw [hW4]; exact heap_alloc_new W3 _)
  have HZ4 := Lib.hid (show W4.heap.size = W3.heap.size + 1 by rw [hW4]; simp)
  have HW4 := Lib.hid hW4
  clear hW4
  go_upto_region 6 with fail
  rw [← HW4.out]
  clear k0 k1 s0 s1
  obtain ⟨-, -, s0, s1⟩ := HKS.out W4 HB34.out
  go_upto_region 8 with fail
  clear s0 s1
  obtain ⟨W5, hW5⟩ : ∃ W5, W5 = W4.alloc (.cells #[.string ID, .string { data := #[48, 48] }] 26) := ⟨_, rfl⟩
  have HB35 := Lib.hid (show Below W3.heap.size W3 W5 by rw [hW5]; exact HB34.out.alloc HB34.out.size _)
  have HX5 := Lib.hid (show W5.heap[W4.heap.size]? = some (.cells #[.string ID, .string { data := #[48, 48] }] 26 (0, 0)) by rw [hW5]; exact heap_alloc_new W4 _)
  have HY5 := Lib.hid (show W5.heap[W3.heap.size]? = some (.cells #[.string { data := #[101, 100, 50, 53, 53, 49, 57] }, .string J2] 24 (0, 0)) by rw [hW5, Below.heap_alloc _ _ _ (heap_lt HX4.out)]; exact HX4.out)
  rw [← hW5]
  obtain ⟨W6, hW6⟩ : ∃ W6, W6 = W5.alloc (.cells #[.string { data := #[120] }, .string MC] 26) := ⟨_, rfl⟩
  have HB36 := Lib.hid (show Below W3.heap.size W3 W6 by rw [hW6]; exact HB35.out.alloc HB35.out.size _)
  have hx6 : W6.heap[W5.heap.size]? = some (.cells #[.string { data := #[120] }, .string MC] 26 (0, 0)) := by rw [hW6]; exact heap_alloc_new W5 _
  have hy6 : W6.heap[W4.heap.size]? = some (.cells #[.string ID, .string { data := #[48, 48] }] 26 (0, 0)) := by rw [hW6, Below.heap_alloc _ _ _ (heap_lt HX5.out)]; exact HX5.out
  have hz6 : W6.heap[W3.heap.size]? = some (.cells #[.string { data := #[101, 100, 50, 53, 53, 49, 57] }, .string J2] 24 (0, 0)) := by rw [hW6, Below.heap_alloc _ _ _ (heap_lt HY5.out)]; exact HY5.out
  obtain ⟨p4, hp4⟩ : ∃ p4, p4 = W3.heap.size := ⟨_, rfl⟩
  obtain ⟨p5, hp5⟩ : ∃ p5, p5 = W4.heap.size := ⟨_, rfl⟩
  obtain ⟨p6, hp6⟩ : ∃ p6, p6 = W5.heap.size := ⟨_, rfl⟩
  have HC6 := Lib.hid (show ∀ w' : World, Below W6.heap.size W6 w' → (w'.cell? ⟨w2.heap.size, 0, none⟩ = some (.string J1) ∧ w'.cell? ⟨w2.heap.size, 1, none⟩ = some (.string J2) ∧ w'.cell? ⟨w3.heap.size, 0, none⟩ = some (.string ID) ∧ w'.cell? ⟨w3.heap.size, 1, none⟩ = some (.string MC)) ∧ w'.cell? ⟨p4, 0, none⟩ = some (.string { data := #[101, 100, 50, 53, 53, 49, 57] }) ∧ w'.cell? ⟨p4, 1, none⟩ = some (.string J2) ∧ w'.cell? ⟨p5, 0, none⟩ = some (.string ID) ∧ w'.cell? ⟨p5, 1, none⟩ = some (.string { data := #[48, 48] }) ∧ w'.cell? ⟨p6, 0, none⟩ = some (.string { data := #[120] }) ∧ w'.cell? ⟨p6, 1, none⟩ = some (.string MC) from fun w' h => by
    rw [hp4, hp5, hp6]
    have x := (h.block _ (heap_lt hx6)).trans hx6
    have y := (h.block _ (heap_lt hy6)).trans hy6
    have z := (h.block _ (heap_lt hz6)).trans hz6
    exact ⟨HKS.out w' (HB36.out.trans (h.mono HB36.out.size)), box_cell z rfl, box_cell z rfl, box_cell y rfl, box_cell y rfl, box_cell x rfl, box_cell x rfl⟩)
  have HBW6 := Lib.hid (HBW3.out.trans (HB36.out.mono HBW3.out.size))
  rw [← hp4, ← hp5]
  obtain ⟨-, -, s0, s1⟩ := HKS.out W5 HB35.out
  have HW6 := Lib.hid hW6
  have HP4 := Lib.hid hp4
  have HP5 := Lib.hid hp5
  have HP6 := Lib.hid hp6
  clear hW5 hW6 hx6 hy6 hz6 hp4 hp5 hp6
  go_upto_region 10 with fail
  rw [← HW6.out, ← HP6.out]
  clear s0 s1
  go_wp2_with fail
  refine (HM2.out W6 (HT.out.below HBW6.out)).mono ?_
  clear HM2 HW6 HKS HB34 HB35 HX4 HX5 HY5 HZ3 HZ4 HW3 HW4
  rintro e w7 ⟨rfl, hb7⟩
  obtain ⟨W7, hW7⟩ : ∃ W7, W7 = w7.alloc (.cells #[.string A1, .string A2] 26) := ⟨_, rfl⟩
  have HB7 := Lib.hid (show Below W6.heap.size W6 W7 by rw [hW7]; exact hb7.alloc hb7.size _)
  have HW7 := Lib.hid hW7
  clear hb7 hW7
  go_upto_region 11 with fail
  rw [← HW7.out]
  obtain ⟨-, o0, o1, -, -, -, -⟩ := HC6.out W7 HB7.out
  go_wp2_with fail
  refine (HM3.out W7 (HT.out.below (HBW6.out.trans (HB7.out.mono HBW6.out.size)))).mono ?_
  clear HM3 o0 o1
  rintro e w8 ⟨rfl, hb8⟩
  obtain ⟨W8, hW8⟩ : ∃ W8, W8 = w8.alloc (.cells #[.string B1, .string B2] 26) := ⟨_, rfl⟩
  have HB8 := Lib.hid (show Below W6.heap.size W6 W8 by rw [hW8]; exact (HB7.out.trans (hb8.mono HB7.out.size)).alloc (HB7.out.trans (hb8.mono HB7.out.size)).size _)
  have HW8 := Lib.hid hW8
  clear hb8 hW8
  go_upto_region 12 with fail
  rw [← HW8.out]
  go_wp2_with fail
  refine (HH.out W8).mono ?_
  clear HH
  rintro e w9 ⟨h, rfl, hh, hb9⟩
  have HB9 := Lib.hid (HB8.out.trans (hb9.mono HB8.out.size))
  have HV9 := Lib.hid (show ∀ w' : World, Below w9.heap.size w9 w' → VerIs w' h .mac from fun w' hb => hh.below hb)
  have HC := Lib.hid (show ∀ w' : World, Below w9.heap.size w9 w' → _ from fun w' hb => HC6.out w' (HB9.out.trans (hb.mono HB9.out.size)))
  have HBW := Lib.hid (HBW6.out.trans (HB9.out.mono HBW6.out.size))
  have HTT := Lib.hid (show ∀ w' : World, Below w9.heap.size w9 w' → Tabs w' from fun w' hb => HT.out.below (HBW.out.trans (hb.mono HBW.out.size)))
  have HPP := Lib.hid (show ∀ w' : World, Below w9.heap.size w9 w' → Pow10 w' from fun w' hb => HP.out.below (HBW.out.trans (hb.mono HBW.out.size)))
  have HB := Lib.hid (Below.refl w9.heap.size w9)
  clear hh hb9 HB1 HB2 HB3 HBW2 HBW3 HB36 HB7 HB8 HW7 HW8 HC6
  obtain ⟨⟨k0, k1, s0, s1⟩, o0, o1, t0, t1, d0, d1⟩ := HC.out w9 HB.out
  go_wp2_with fail
  refine (HGa.out h w9 (HV9.out w9 HB.out) (HTT.out w9 HB.out)).mono ?_
  clear HGa k0 k1 s0 s1 o0 o1 t0 t1 d0 d1
  rintro e wg0 ⟨rfl, hb⟩
  replace HB := Lib.hid (HB.out.trans (hb.mono HB.out.size))
  clear hb
  obtain ⟨⟨k0, k1, s0, s1⟩, o0, o1, t0, t1, d0, d1⟩ := HC.out wg0 HB.out
  go_wp2_with fail
  refine (HGb.out h wg0 (HV9.out wg0 HB.out) (HTT.out wg0 HB.out)).mono ?_
  clear HGb k0 k1 s0 s1 o0 o1 t0 t1 d0 d1
  rintro e wg1 ⟨rfl, hb⟩
  replace HB := Lib.hid (HB.out.trans (hb.mono HB.out.size))
  clear hb
  obtain ⟨⟨k0, k1, s0, s1⟩, o0, o1, t0, t1, d0, d1⟩ := HC.out wg1 HB.out
  go_wp2_with fail
  refine (HGc.out h wg1 (HV9.out wg1 HB.out) (HTT.out wg1 HB.out)).mono ?_
  clear HGc k0 k1 s0 s1 o0 o1 t0 t1 d0 d1
  rintro e wg2 ⟨rfl, hb⟩
  replace HB := Lib.hid (HB.out.trans (hb.mono HB.out.size))
  clear hb
  obtain ⟨⟨k0, k1, s0, s1⟩, o0, o1, t0, t1, d0, d1⟩ := HC.out wg2 HB.out
  go_wp2_with fail
  refine (HGd.out h wg2 (HV9.out wg2 HB.out) (HTT.out wg2 HB.out)).mono ?_
  clear HGd k0 k1 s0 s1 o0 o1 t0 t1 d0 d1
  rintro e wg3 ⟨rfl, hb⟩
  replace HB := Lib.hid (HB.out.trans (hb.mono HB.out.size))
  clear hb
  obtain ⟨⟨k0, k1, s0, s1⟩, o0, o1, t0, t1, d0, d1⟩ := HC.out wg3 HB.out
  go_wp2_with fail
  refine (HGe.out h wg3 (HV9.out wg3 HB.out) (HTT.out wg3 HB.out)).mono ?_
  clear HGe k0 k1 s0 s1 o0 o1 t0 t1 d0 d1
  rintro e wg4 ⟨rfl, hb⟩
  replace HB := Lib.hid (HB.out.trans (hb.mono HB.out.size))
  clear hb
  obtain ⟨⟨k0, k1, s0, s1⟩, o0, o1, t0, t1, d0, d1⟩ := HC.out wg4 HB.out
  go_wp2_with fail
  refine (HGf.out h wg4 (HV9.out wg4 HB.out) (HTT.out wg4 HB.out)).mono ?_
  clear HGf k0 k1 s0 s1 o0 o1 t0 t1 d0 d1
  rintro e wg5 ⟨rfl, hb⟩
  replace HB := Lib.hid (HB.out.trans (hb.mono HB.out.size))
  clear hb
  obtain ⟨⟨k0, k1, s0, s1⟩, o0, o1, t0, t1, d0, d1⟩ := HC.out wg5 HB.out
  go_upto_region 16 with fail
  clear k0 k1 s0 s1 o0 o1 t0 t1 d0 d1
  obtain ⟨WX, hWX⟩ : ∃ WX, WX = (wg5.alloc (.cells #[.string ID, .string MC, .string ID, .string { data := #[48, 48] }] 26)).alloc (.cells #[.int .u8 5, .int .i64 0, .string { data := #[] }, .slice none 0 0, .slice none 0 0, .slice (some ⟨wg5.heap.size, 0, none⟩) 2 2] 47) := ⟨_, rfl⟩
  have h1 := nm_new2 wg5 (.cells #[.string ID, .string MC, .string ID, .string { data := #[48, 48] }] 26) (.cells #[.int .u8 5, .int .i64 0, .string { data := #[] }, .slice none 0 0, .slice none 0 0, .slice (some ⟨wg5.heap.size, 0, none⟩) 2 2] 47)
  rw [← hWX] at h1
  have HX1 := Lib.hid h1.1
  have HX2 := Lib.hid h1.2.1
  have hb1 := h1.2.2
  replace HB := Lib.hid (HB.out.trans (hb1.mono HB.out.size))
  rw [← hWX]
  clear hWX h1
  clear hb1
  obtain ⟨⟨k0, k1, s0, s1⟩, o0, o1, t0, t1, d0, d1⟩ := HC.out WX HB.out
  go_upto_region 17 with fail
  clear k0 k1 s0 s1 o0 o1 t0 t1 d0 d1
  obtain ⟨WA, hWA⟩ : ∃ WA, WA = (WX.alloc (.cells #[.string ID] 9)).alloc (.cells #[.int .i64 1, .slice (some ⟨WX.heap.size, 0, none⟩) 1 1] 49) := ⟨_, rfl⟩
  have h1 := nm_new2 WX (.cells #[.string ID] 9) (.cells #[.int .i64 1, .slice (some ⟨WX.heap.size, 0, none⟩) 1 1] 49)
  rw [← hWA] at h1
  have HA1 := Lib.hid h1.1
  have HA2 := Lib.hid h1.2.1
  have hb1 := h1.2.2
  replace HB := Lib.hid (HB.out.trans (hb1.mono HB.out.size))
  rw [← hWA]
  clear hWA h1
  replace HX1 := Lib.hid ((hb1.block _ (heap_lt HX1.out)).trans HX1.out)
  replace HX2 := Lib.hid ((hb1.block _ (heap_lt HX2.out)).trans HX2.out)
  clear hb1
  obtain ⟨⟨k0, k1, s0, s1⟩, o0, o1, t0, t1, d0, d1⟩ := HC.out WA HB.out
  go_upto_region 18 with fail
  go_wp2_with fail
  have hv := nm_new1 WA (.cells #[.string ID, .string { data := #[48, 48] }, .string { data := #[52, 52, 49, 51, 54, 102, 97, 51, 53, 53, 98, 51, 54, 55, 56, 97, 49, 49, 52, 54, 97, 100, 49, 54, 102, 55, 101, 56, 54, 52, 57, 101, 57, 52, 102, 98, 52, 102, 99, 50, 49, 102, 101, 55, 55, 101, 56, 51, 49, 48, 99, 48, 54, 48, 102, 54, 49, 99, 97, 97, 102, 102, 56, 97] }] 60)
  refine (nm_tab (l := yesL) (n := 1) (c := 1) rfl (by decide) (by rw [HYL.out]; exact tris_one1 hv.1)).mono ?_
  clear k0 k1 s0 s1 o0 o1 t0 t1 d0 d1
  rintro e wy ⟨y, rfl, hy, hb2⟩
  have hb1 := hv.2.trans (hb2.mono hv.2.size)
  replace HB := Lib.hid (HB.out.trans (hb1.mono HB.out.size))
  have HYV := Lib.hid (show ∀ w' : World, Below wy.heap.size wy w' → VerIs w' y (.tab yesL) from fun w' h => hy.below h)
  clear hv hb2 hy
  replace HX1 := Lib.hid ((hb1.block _ (heap_lt HX1.out)).trans HX1.out)
  replace HX2 := Lib.hid ((hb1.block _ (heap_lt HX2.out)).trans HX2.out)
  replace HA1 := Lib.hid ((hb1.block _ (heap_lt HA1.out)).trans HA1.out)
  replace HA2 := Lib.hid ((hb1.block _ (heap_lt HA2.out)).trans HA2.out)
  clear hb1
  obtain ⟨⟨k0, k1, s0, s1⟩, o0, o1, t0, t1, d0, d1⟩ := HC.out wy HB.out
  go_upto_region 19 with fail
  go_wp2_with fail
  have hv := nm_new1 wy (.cells #[.string ID, .string { data := #[48, 49] }, .string { data := #[52, 52, 49, 51, 54, 102, 97, 51, 53, 53, 98, 51, 54, 55, 56, 97, 49, 49, 52, 54, 97, 100, 49, 54, 102, 55, 101, 56, 54, 52, 57, 101, 57, 52, 102, 98, 52, 102, 99, 50, 49, 102, 101, 55, 55, 101, 56, 51, 49, 48, 99, 48, 54, 48, 102, 54, 49, 99, 97, 97, 102, 102, 56, 97] }, .string ID, .string { data := #[48, 48] }, .string MC, .string { data := #[] }, .string { data := #[48, 48] }, .string { data := #[52, 52, 49, 51, 54, 102, 97, 51, 53, 53, 98, 51, 54, 55, 56, 97, 49, 49, 52, 54, 97, 100, 49, 54, 102, 55, 101, 56, 54, 52, 57, 101, 57, 52, 102, 98, 52, 102, 99, 50, 49, 102, 101, 55, 55, 101, 56, 51, 49, 48, 99, 48, 54, 48, 102, 54, 49, 99, 97, 97, 102, 102, 56, 97] }] 60)
  refine (nm_tab (l := noL) (n := 3) (c := 3) rfl (by decide) (by rw [HNL.out]; exact tris_one3 hv.1)).mono ?_
  clear k0 k1 s0 s1 o0 o1 t0 t1 d0 d1
  rintro e wz ⟨z, rfl, hy, hb2⟩
  have hb1 := hv.2.trans (hb2.mono hv.2.size)
  replace HB := Lib.hid (HB.out.trans (hb1.mono HB.out.size))
  have HZV := Lib.hid (show ∀ w' : World, Below wz.heap.size wz w' → VerIs w' z (.tab noL) from fun w' h => hy.below h)
  clear hv hb2 hy
  replace HYV := Lib.hid (show ∀ w' : World, Below wz.heap.size wz w' → VerIs w' y (.tab yesL) from fun w' h => HYV.out w' (hb1.trans (h.mono hb1.size)))
  replace HX1 := Lib.hid ((hb1.block _ (heap_lt HX1.out)).trans HX1.out)
  replace HX2 := Lib.hid ((hb1.block _ (heap_lt HX2.out)).trans HX2.out)
  replace HA1 := Lib.hid ((hb1.block _ (heap_lt HA1.out)).trans HA1.out)
  replace HA2 := Lib.hid ((hb1.block _ (heap_lt HA2.out)).trans HA2.out)
  clear hb1
  obtain ⟨⟨k0, k1, s0, s1⟩, o0, o1, t0, t1, d0, d1⟩ := HC.out wz HB.out
  go_upto_region 21 with fail
  clear k0 k1 s0 s1 o0 o1 t0 t1 d0 d1
  obtain ⟨WK, hWK⟩ : ∃ WK, WK = wz.alloc (.cells #[.string J1, .string J2] 24) := ⟨_, rfl⟩
  have h1 := nm_new1 wz (.cells #[.string J1, .string J2] 24)
  rw [← hWK] at h1
  have HK1 := Lib.hid h1.1
  have hb1 := h1.2
  replace HB := Lib.hid (HB.out.trans (hb1.mono HB.out.size))
  rw [← hWK]
  clear hWK h1
  replace HX1 := Lib.hid ((hb1.block _ (heap_lt HX1.out)).trans HX1.out)
  replace HX2 := Lib.hid ((hb1.block _ (heap_lt HX2.out)).trans HX2.out)
  replace HA1 := Lib.hid ((hb1.block _ (heap_lt HA1.out)).trans HA1.out)
  replace HA2 := Lib.hid ((hb1.block _ (heap_lt HA2.out)).trans HA2.out)
  replace HYV := Lib.hid (show ∀ w' : World, Below WK.heap.size WK w' → VerIs w' y (.tab yesL) from fun w' h => HYV.out w' (hb1.trans (h.mono hb1.size)))
  replace HZV := Lib.hid (show ∀ w' : World, Below WK.heap.size WK w' → VerIs w' z (.tab noL) from fun w' h => HZV.out w' (hb1.trans (h.mono hb1.size)))
  clear hb1
  have hx := fun (w' : World) (h : Below WK.heap.size WK w') => (h.block _ (heap_lt HX2.out)).trans HX2.out
  have ha := fun (w' : World) (h : Below WK.heap.size WK w') => (h.block _ (heap_lt HA2.out)).trans HA2.out
  have HXC := Lib.hid (show ∀ w' : World, Below WK.heap.size WK w' → w'.cell? ⟨wg5.heap.size + 1, 0, none⟩ = some (.int .u8 5) ∧ w'.cell? ⟨wg5.heap.size + 1, 1, none⟩ = some (.int .i64 0) ∧ w'.cell? ⟨wg5.heap.size + 1, 2, none⟩ = some (.string { data := #[] }) ∧ w'.cell? ⟨wg5.heap.size + 1, 3, none⟩ = some (.slice none 0 0) ∧ w'.cell? ⟨wg5.heap.size + 1, 4, none⟩ = some (.slice none 0 0) ∧ w'.cell? ⟨wg5.heap.size + 1, 5, none⟩ = some (.slice (some ⟨wg5.heap.size, 0, none⟩) 2 2) from fun w' h => ⟨box_cell (hx w' h) rfl, box_cell (hx w' h) rfl, box_cell (hx w' h) rfl, box_cell (hx w' h) rfl, box_cell (hx w' h) rfl, box_cell (hx w' h) rfl⟩)
  have HAC := Lib.hid (show ∀ w' : World, Below WK.heap.size WK w' → w'.cell? ⟨WX.heap.size + 1, 0, none⟩ = some (.int .i64 1) ∧ w'.cell? ⟨WX.heap.size + 1, 1, none⟩ = some (.slice (some ⟨WX.heap.size, 0, none⟩) 1 1) from fun w' h => ⟨box_cell (ha w' h) rfl, box_cell (ha w' h) rfl⟩)
  clear hx ha
  have HSK := Lib.hid (show ∀ w' : World, Below WK.heap.size WK w' → KeysAt w' 0 w'.heap.size (some ⟨wg5.heap.size, 0, none⟩) [sS, tS] from fun w' h => by rw [← HSS.out]; exact keys_blk ((h.block _ (heap_lt HX1.out)).trans HX1.out) rfl)
  have HIK := Lib.hid (show ∀ w' : World, Below WK.heap.size WK w' → StrsAt w' 0 w'.heap.size (some ⟨WX.heap.size, 0, none⟩) [id2 jefeK] from fun w' h => by rw [← HII.out]; exact strs_one ((h.block _ (heap_lt HA1.out)).trans HA1.out))
  have HKS := Lib.hid (show ∀ w' : World, Below WK.heap.size WK w' → KeysAt w' 0 w'.heap.size (some ⟨wz.heap.size, 0, none⟩) [jefeK] from fun w' h => by rw [← HKK.out]; exact keys_blk ((h.block _ (heap_lt HK1.out)).trans HK1.out) rfl)
  replace HC := Lib.hid (show ∀ w' : World, Below WK.heap.size WK w' → _ from fun w' h => HC.out w' (HB.out.trans (h.mono HB.out.size)))
  replace HV9 := Lib.hid (show ∀ w' : World, Below WK.heap.size WK w' → VerIs w' h .mac from fun w' h => HV9.out w' (HB.out.trans (h.mono HB.out.size)))
  replace HTT := Lib.hid (show ∀ w' : World, Below WK.heap.size WK w' → Tabs w' from fun w' h => HTT.out w' (HB.out.trans (h.mono HB.out.size)))
  replace HPP := Lib.hid (show ∀ w' : World, Below WK.heap.size WK w' → Pow10 w' from fun w' h => HPP.out w' (HB.out.trans (h.mono HB.out.size)))
  replace HBW := Lib.hid (HBW.out.trans (HB.out.mono HBW.out.size))
  clear HX1 HX2 HA1 HA2 HK1 HB
  have HB := Lib.hid (Below.refl WK.heap.size WK)
  obtain ⟨v0, v1, v2, v3, v4, v5⟩ := HXC.out WK HB.out
  obtain ⟨a0, a1⟩ := HAC.out WK HB.out
  go_upto_region 22 with fail
  go_upto_region 23 with fail
  clear v0 v1 v2 v3 v4 v5 a0 a1
  obtain ⟨WB, hWB⟩ : ∃ WB, WB = WK.alloc (.cells #[.int .u8 0, .int .i64 0, .string { data := #[] }, .slice none 0 0, .slice none 0 0, .slice (some ⟨wg5.heap.size, 0, none⟩) 2 2] 47) := ⟨_, rfl⟩
  have h1 := nm_new1 WK (.cells #[.int .u8 0, .int .i64 0, .string { data := #[] }, .slice none 0 0, .slice none 0 0, .slice (some ⟨wg5.heap.size, 0, none⟩) 2 2] 47)
  rw [← hWB] at h1
  have HWB1 := Lib.hid h1.1
  have hb1 := h1.2
  replace HB := Lib.hid (HB.out.trans (hb1.mono HB.out.size))
  rw [← hWB]
  clear hWB h1
  have HB2 := Lib.hid hb1
  clear hb1
  obtain ⟨a0, a1⟩ := HAC.out WB HB.out
  go_upto_region 24 with fail
  go_upto_region 25 with fail
  clear a0 a1
  obtain ⟨WL, hWL⟩ : ∃ WL, WL = WB.alloc (.cells #[.int .i64 0, .slice (some ⟨WX.heap.size, 0, none⟩) 1 1] 49) := ⟨_, rfl⟩
  have h1 := nm_new1 WB (.cells #[.int .i64 0, .slice (some ⟨WX.heap.size, 0, none⟩) 1 1] 49)
  rw [← hWL] at h1
  have HWL1 := Lib.hid h1.1
  have hb1 := h1.2
  replace HB := Lib.hid (HB.out.trans (hb1.mono HB.out.size))
  rw [← hWL]
  clear hWL h1
  replace HWB1 := Lib.hid ((hb1.block _ (heap_lt HWB1.out)).trans HWB1.out)
  have HE := Lib.hid (show ∀ w' : World, Below WL.heap.size WL w' → Below WK.heap.size WK w' from fun w' h => HB2.out.trans ((hb1.trans (h.mono hb1.size)).mono HB2.out.size))
  have hx := fun (w' : World) (h : Below WL.heap.size WL w') => (h.block _ (heap_lt HWB1.out)).trans HWB1.out
  have ha := fun (w' : World) (h : Below WL.heap.size WL w') => (h.block _ (heap_lt HWL1.out)).trans HWL1.out
  have HBC := Lib.hid (show ∀ w' : World, Below WL.heap.size WL w' → w'.cell? ⟨WK.heap.size, 0, none⟩ = some (.int .u8 0) ∧ w'.cell? ⟨WK.heap.size, 1, none⟩ = some (.int .i64 0) ∧ w'.cell? ⟨WK.heap.size, 2, none⟩ = some (.string { data := #[] }) ∧ w'.cell? ⟨WK.heap.size, 3, none⟩ = some (.slice none 0 0) ∧ w'.cell? ⟨WK.heap.size, 4, none⟩ = some (.slice none 0 0) ∧ w'.cell? ⟨WK.heap.size, 5, none⟩ = some (.slice (some ⟨wg5.heap.size, 0, none⟩) 2 2) from fun w' h => ⟨box_cell (hx w' h) rfl, box_cell (hx w' h) rfl, box_cell (hx w' h) rfl, box_cell (hx w' h) rfl, box_cell (hx w' h) rfl, box_cell (hx w' h) rfl⟩)
  have HLC := Lib.hid (show ∀ w' : World, Below WL.heap.size WL w' → w'.cell? ⟨WB.heap.size, 0, none⟩ = some (.int .i64 0) ∧ w'.cell? ⟨WB.heap.size, 1, none⟩ = some (.slice (some ⟨WX.heap.size, 0, none⟩) 1 1) from fun w' h => ⟨box_cell (ha w' h) rfl, box_cell (ha w' h) rfl⟩)
  have HBW2 := Lib.hid (HBW.out.trans (HB.out.mono HBW.out.size))
  clear hx ha hb1 HWB1 HWL1 HB HB2 HBW
  have HB := Lib.hid (Below.refl WL.heap.size WL)
  obtain ⟨v0, v1, v2, v3, v4, v5⟩ := HXC.out WL (HE.out WL HB.out)
  obtain ⟨a0, a1⟩ := HAC.out WL (HE.out WL HB.out)
  go_wp2_with fail
  refine (He1.out y _ _ _ _ _ _ WL (HYV.out WL (HE.out WL HB.out)) (HSK.out WL (HE.out WL HB.out)) (HIK.out WL (HE.out WL HB.out)) (HKS.out WL (HE.out WL HB.out)) (HTT.out WL (HE.out WL HB.out)) (HPP.out WL (HE.out WL HB.out))).mono ?_
  clear He1 v0 v1 v2 v3 v4 v5 a0 a1
  rintro e wq0 ⟨rfl, hb⟩
  replace HB := Lib.hid (HB.out.trans (hb.mono HB.out.size))
  clear hb
  obtain ⟨v0, v1, v2, v3, v4, v5⟩ := HXC.out wq0 (HE.out wq0 HB.out)
  obtain ⟨a0, a1⟩ := HAC.out wq0 (HE.out wq0 HB.out)
  go_wp2_with fail
  refine (Hc1.out y _ _ _ _ _ _ wq0 (HYV.out wq0 (HE.out wq0 HB.out)) (HSK.out wq0 (HE.out wq0 HB.out)) (HIK.out wq0 (HE.out wq0 HB.out)) (HKS.out wq0 (HE.out wq0 HB.out)) (HTT.out wq0 (HE.out wq0 HB.out)) (HPP.out wq0 (HE.out wq0 HB.out))).mono ?_
  clear Hc1 v0 v1 v2 v3 v4 v5 a0 a1
  rintro e wq1 ⟨rfl, hb⟩
  replace HB := Lib.hid (HB.out.trans (hb.mono HB.out.size))
  clear hb
  obtain ⟨v0, v1, v2, v3, v4, v5⟩ := HXC.out wq1 (HE.out wq1 HB.out)
  obtain ⟨a0, a1⟩ := HAC.out wq1 (HE.out wq1 HB.out)
  go_wp2_with fail
  refine (He2.out z _ _ _ _ _ _ wq1 (HZV.out wq1 (HE.out wq1 HB.out)) (HSK.out wq1 (HE.out wq1 HB.out)) (HIK.out wq1 (HE.out wq1 HB.out)) (HKS.out wq1 (HE.out wq1 HB.out)) (HTT.out wq1 (HE.out wq1 HB.out)) (HPP.out wq1 (HE.out wq1 HB.out))).mono ?_
  clear He2 v0 v1 v2 v3 v4 v5 a0 a1
  rintro e wq2 ⟨rfl, hb⟩
  replace HB := Lib.hid (HB.out.trans (hb.mono HB.out.size))
  clear hb
  obtain ⟨v0, v1, v2, v3, v4, v5⟩ := HXC.out wq2 (HE.out wq2 HB.out)
  obtain ⟨a0, a1⟩ := HAC.out wq2 (HE.out wq2 HB.out)
  go_wp2_with fail
  refine (Hc2.out z _ _ _ _ _ _ wq2 (HZV.out wq2 (HE.out wq2 HB.out)) (HSK.out wq2 (HE.out wq2 HB.out)) (HIK.out wq2 (HE.out wq2 HB.out)) (HKS.out wq2 (HE.out wq2 HB.out)) (HTT.out wq2 (HE.out wq2 HB.out)) (HPP.out wq2 (HE.out wq2 HB.out))).mono ?_
  clear Hc2 v0 v1 v2 v3 v4 v5 a0 a1
  rintro e wq3 ⟨rfl, hb⟩
  replace HB := Lib.hid (HB.out.trans (hb.mono HB.out.size))
  clear hb
  obtain ⟨v0, v1, v2, v3, v4, v5⟩ := HXC.out wq3 (HE.out wq3 HB.out)
  obtain ⟨a0, a1⟩ := HAC.out wq3 (HE.out wq3 HB.out)
  go_wp2_with fail
  refine (Hc3.out h _ _ _ _ _ _ wq3 (HV9.out wq3 (HE.out wq3 HB.out)) (HSK.out wq3 (HE.out wq3 HB.out)) (HIK.out wq3 (HE.out wq3 HB.out)) (HKS.out wq3 (HE.out wq3 HB.out)) (HTT.out wq3 (HE.out wq3 HB.out)) (HPP.out wq3 (HE.out wq3 HB.out))).mono ?_
  clear Hc3 v0 v1 v2 v3 v4 v5 a0 a1
  rintro e wq4 ⟨rfl, hb⟩
  replace HB := Lib.hid (HB.out.trans (hb.mono HB.out.size))
  clear hb
  obtain ⟨v0, v1, v2, v3, v4, v5⟩ := HXC.out wq4 (HE.out wq4 HB.out)
  obtain ⟨a0, a1⟩ := HAC.out wq4 (HE.out wq4 HB.out)
  go_wp2_with fail
  refine (Hc4.out y _ _ _ _ _ 0 wq4 (HYV.out wq4 (HE.out wq4 HB.out)) (HSK.out wq4 (HE.out wq4 HB.out)) (HIK.out wq4 (HE.out wq4 HB.out)) (HKS.out wq4 (HE.out wq4 HB.out)) (HTT.out wq4 (HE.out wq4 HB.out)) (HPP.out wq4 (HE.out wq4 HB.out))).mono ?_
  clear Hc4 v0 v1 v2 v3 v4 v5 a0 a1
  rintro e wq5 ⟨rfl, hb⟩
  replace HB := Lib.hid (HB.out.trans (hb.mono HB.out.size))
  clear hb
  obtain ⟨v0, v1, v2, v3, v4, v5⟩ := HBC.out wq5 HB.out
  obtain ⟨a0, a1⟩ := HAC.out wq5 (HE.out wq5 HB.out)
  go_wp2_with fail
  refine (Hc5.out y _ _ _ _ _ _ wq5 (HYV.out wq5 (HE.out wq5 HB.out)) (HSK.out wq5 (HE.out wq5 HB.out)) (HIK.out wq5 (HE.out wq5 HB.out)) (HKS.out wq5 (HE.out wq5 HB.out)) (HTT.out wq5 (HE.out wq5 HB.out)) (HPP.out wq5 (HE.out wq5 HB.out))).mono ?_
  clear Hc5 v0 v1 v2 v3 v4 v5 a0 a1
  rintro e wq6 ⟨rfl, hb⟩
  replace HB := Lib.hid (HB.out.trans (hb.mono HB.out.size))
  clear hb
  obtain ⟨v0, v1, v2, v3, v4, v5⟩ := HBC.out wq6 HB.out
  obtain ⟨a0, a1⟩ := HAC.out wq6 (HE.out wq6 HB.out)
  go_wp2_with fail
  refine (He5.out y _ _ _ _ _ _ wq6 (HYV.out wq6 (HE.out wq6 HB.out)) (HSK.out wq6 (HE.out wq6 HB.out)) (HIK.out wq6 (HE.out wq6 HB.out)) (HKS.out wq6 (HE.out wq6 HB.out)) (HTT.out wq6 (HE.out wq6 HB.out)) (HPP.out wq6 (HE.out wq6 HB.out))).mono ?_
  clear He5 v0 v1 v2 v3 v4 v5 a0 a1
  rintro e wq7 ⟨rfl, hb⟩
  replace HB := Lib.hid (HB.out.trans (hb.mono HB.out.size))
  clear hb
  obtain ⟨v0, v1, v2, v3, v4, v5⟩ := HXC.out wq7 (HE.out wq7 HB.out)
  obtain ⟨a0, a1⟩ := HLC.out wq7 HB.out
  go_wp2_with fail
  refine (Hc6.out y _ _ _ _ _ _ wq7 (HYV.out wq7 (HE.out wq7 HB.out)) (HSK.out wq7 (HE.out wq7 HB.out)) (HIK.out wq7 (HE.out wq7 HB.out)) (HKS.out wq7 (HE.out wq7 HB.out)) (HTT.out wq7 (HE.out wq7 HB.out)) (HPP.out wq7 (HE.out wq7 HB.out))).mono ?_
  clear Hc6 v0 v1 v2 v3 v4 v5 a0 a1
  rintro e wq8 ⟨rfl, hb⟩
  replace HB := Lib.hid (HB.out.trans (hb.mono HB.out.size))
  clear hb
  obtain ⟨v0, v1, v2, v3, v4, v5⟩ := HXC.out wq8 (HE.out wq8 HB.out)
  obtain ⟨a0, a1⟩ := HLC.out wq8 HB.out
  go_wp2_with fail
  refine (He6.out y _ _ _ _ _ _ wq8 (HYV.out wq8 (HE.out wq8 HB.out)) (HSK.out wq8 (HE.out wq8 HB.out)) (HIK.out wq8 (HE.out wq8 HB.out)) (HKS.out wq8 (HE.out wq8 HB.out)) (HTT.out wq8 (HE.out wq8 HB.out)) (HPP.out wq8 (HE.out wq8 HB.out))).mono ?_
  clear He6 v0 v1 v2 v3 v4 v5 a0 a1
  rintro e wq9 ⟨rfl, hb⟩
  replace HB := Lib.hid (HB.out.trans (hb.mono HB.out.size))
  clear hb
  obtain ⟨⟨k0, k1, s0, s1⟩, o0, o1, t0, t1, d0, d1⟩ := HC.out wq9 (HE.out wq9 HB.out)
  go_wp2_with fail
  refine (HGg.out _ wq9 (.inr ⟨rfl, .inl rfl⟩) (HTT.out wq9 (HE.out wq9 HB.out))).mono ?_
  clear k0 k1 s0 s1 o0 o1 t0 t1 d0 d1
  rintro e wq10 ⟨rfl, hb⟩
  replace HB := Lib.hid (HB.out.trans (hb.mono HB.out.size))
  clear hb
  obtain ⟨v0, v1, v2, v3, v4, v5⟩ := HXC.out wq10 (HE.out wq10 HB.out)
  obtain ⟨a0, a1⟩ := HAC.out wq10 (HE.out wq10 HB.out)
  go_wp2_with fail
  refine (Hc7.out _ _ _ _ _ _ _ wq10 (.inr ⟨rfl, .inl rfl⟩) (HSK.out wq10 (HE.out wq10 HB.out)) (HIK.out wq10 (HE.out wq10 HB.out)) (HKS.out wq10 (HE.out wq10 HB.out)) (HTT.out wq10 (HE.out wq10 HB.out)) (HPP.out wq10 (HE.out wq10 HB.out))).mono ?_
  clear Hc7 v0 v1 v2 v3 v4 v5 a0 a1
  rintro e wq11 ⟨rfl, hb⟩
  replace HB := Lib.hid (HB.out.trans (hb.mono HB.out.size))
  clear hb
  obtain ⟨v0, v1, v2, v3, v4, v5⟩ := HXC.out wq11 (HE.out wq11 HB.out)
  obtain ⟨a0, a1⟩ := HAC.out wq11 (HE.out wq11 HB.out)
  go_wp2_with fail
  refine (He7.out _ _ _ _ _ _ _ wq11 (.inr ⟨rfl, .inl rfl⟩) (HSK.out wq11 (HE.out wq11 HB.out)) (HIK.out wq11 (HE.out wq11 HB.out)) (HKS.out wq11 (HE.out wq11 HB.out)) (HTT.out wq11 (HE.out wq11 HB.out)) (HPP.out wq11 (HE.out wq11 HB.out))).mono ?_
  clear He7 v0 v1 v2 v3 v4 v5 a0 a1
  rintro e wq12 ⟨rfl, hb⟩
  replace HB := Lib.hid (HB.out.trans (hb.mono HB.out.size))
  clear hb
  have hv := nm_new1 wq12 (.cells #[.nilIface] 64)
  obtain ⟨⟨k0, k1, s0, s1⟩, o0, o1, t0, t1, d0, d1⟩ := HC.out _ ((HE.out wq12 HB.out).trans (hv.2.mono (HE.out wq12 HB.out).size))
  have hv' := Lib.hid hv
  clear hv
  go_wp2_with fail
  have hv := hv'.out
  refine (HGg.out _ _ (.inr ⟨rfl, .inr ⟨_, rfl, hv.1⟩⟩) (HTT.out _ ((HE.out wq12 HB.out).trans (hv.2.mono (HE.out wq12 HB.out).size)))).mono ?_
  clear HGg k0 k1 s0 s1 o0 o1 t0 t1 d0 d1
  rintro e wq13 ⟨rfl, hb⟩
  replace HB := Lib.hid (HB.out.trans ((hv.2.trans (hb.mono hv.2.size)).mono HB.out.size))
  clear hv hv' hb
  obtain ⟨⟨k0, k1, s0, s1⟩, o0, o1, t0, t1, d0, d1⟩ := HC.out wq13 (HE.out wq13 HB.out)
  go_wp2_with fail
  refine (HGh.out y wq13 (HYV.out wq13 (HE.out wq13 HB.out)) (HTT.out wq13 (HE.out wq13 HB.out))).mono ?_
  clear HGh k0 k1 s0 s1 o0 o1 t0 t1 d0 d1
  rintro e wq14 ⟨rfl, hb⟩
  replace HB := Lib.hid (HB.out.trans (hb.mono HB.out.size))
  clear hb
  obtain ⟨⟨k0, k1, s0, s1⟩, o0, o1, t0, t1, d0, d1⟩ := HC.out wq14 (HE.out wq14 HB.out)
  go_wp2_with fail
  refine (HGi.out y wq14 (HYV.out wq14 (HE.out wq14 HB.out)) (HTT.out wq14 (HE.out wq14 HB.out))).mono ?_
  clear HGi k0 k1 s0 s1 o0 o1 t0 t1 d0 d1
  rintro e wq15 ⟨rfl, hb⟩
  replace HB := Lib.hid (HB.out.trans (hb.mono HB.out.size))
  clear hb
  go_wp2
  go_ret
  exact ⟨rfl, HBW2.out.trans (HB.out.mono HBW2.out.size)⟩

end Go.Proofs.YtaekmmnpdbmoeaaGreatDoor
