/- What the law KeyNames calls, at its own data. -/
import Derived.Test.YtcahpjejpimdhaaGreatDoorZk302
import Derived.Test.YtcahpjejpimdhaaGreatDoorZk303
import Derived.Test.YtcahpjejpimdhaaGreatDoorZk300

namespace Go.Proofs.YtcahpjejpimdhaaGreatDoor
open Go.RowKit

theorem tab_wt {m : List Key2} (hp : m.Perm (keysN 32)) : (tabJ m).wt ≤ 4294967296 := by
  have := tabJ_wt (m := m) (fun k hk => keysN_sizes 32 k (hp.subset hk))
  have := hp.length_eq
  rw [keysN_length] at this
  omega
theorem keyI_hex (k : Nat) (h : k < 32) : (⟨(hexEnc [UInt8.ofNat k]).toArray⟩ : ByteArray) = (keyI k).2 := by
  have e : (UInt8.ofNat k).toNat = k := by rw [UInt8.toNat_ofNat']; omega
  unfold keyI
  simp only [hexEnc, e]

theorem bstep {a X w' : World} (h : Below a.heap.size a X) (hb : Below X.heap.size X w') : Below a.heap.size a w' := h.trans (hb.mono h.size)
theorem keys_cells {w : World} {g : Nat} {l : List Key2} (hg : g < w.heap.size) (h : ∀ j u, (l.flatMap encK)[j]? = some u → w.cell? ⟨g, j, none⟩ = some u) : KeysAt w 0 w.heap.size (some ⟨g, 0, none⟩) l :=
  .inr ⟨g, 0, rfl, Nat.zero_le _, hg, fun i hi => by
    obtain ⟨e0, e1⟩ := flatK_get (M := l) i hi
    exact ⟨by rw [Nat.zero_add]; exact h _ _ e0, by rw [Nat.zero_add]; exact h _ _ e1⟩⟩
theorem exK_size : exK.1.size ≤ 300 ∧ exK.2.size ≤ 300 := by decide
theorem sizes33 : ∀ k ∈ keysN 32 ++ [exK], k.1.size ≤ 300 ∧ k.2.size ≤ 300 := fun k hk => by
  rcases List.mem_append.1 hk with h | h
  · exact keysN_sizes 32 k h
  · rw [List.mem_singleton] at h; subst h; exact exK_size
theorem sizes2 : ∀ k ∈ [exK, exK], k.1.size ≤ 300 ∧ k.2.size ≤ 300 := fun k hk => by
  simp only [List.mem_cons, List.not_mem_nil, or_false, or_self] at hk
  subst hk; exact exK_size
theorem sizes3 : ∀ k ∈ [exK, (b0, b0), exK], k.1.size ≤ 300 ∧ k.2.size ≤ 300 := fun k hk => by
  simp only [List.mem_cons, List.not_mem_nil, or_false] at hk
  rcases hk with rfl | rfl | rfl
  · exact exK_size
  · exact ⟨Nat.zero_le _, Nat.zero_le _⟩
  · exact exK_size
theorem cTable32 (a : Option Addr) (c : Nat) (X : World) (hK : KeysAt X 0 X.heap.size a (keysN 32)) (hT : Tabs X) : Calls Tryz.prog 32 #[.slice a 32 c] X (fun e w'' => ∃ m an cn ai ci, m.Perm (keysN 32) ∧ rises (ids m) = true ∧
    e = .returned (.tuple #[.agg #[.int .u8 5, .int .i64 0, .string { data := #[] }, .slice an 32 cn, .slice ai 32 ci], .int .i64 0]) ∧ Rep w'' 0 w''.heap.size (tabJ m) (.agg #[.int .u8 5, .int .i64 0, .string { data := #[] }, .slice an 32 cn, .slice ai 32 ci]) ∧ Below X.heap.size X w'') := by
  have := keyTable_any (keysN 32) a c X hK (by rw [keysN_length]; decide) (keysN_sizes 32) hT
  rw [keysN_length] at this
  unfold TabAny ValPost at this
  rw [tab32] at this
  refine this.mono ?_
  rintro e w'' ⟨u, hu, _, _, an, cn, ai, ci, rfl, hr, hb⟩
  obtain ⟨m, hp, hrs, rfl⟩ := hu rfl
  have e1 : (tabJ m).names.length = 32 := by show (m.map id2).length = 32; rw [List.length_map, hp.length_eq, keysN_length]
  have e2 : (tabJ m).items.length = 32 := by show (m.map obj2).length = 32; rw [List.length_map, hp.length_eq, keysN_length]
  rw [e1, e2] at hr
  rw [e1, e2]
  exact ⟨m, an, cn, ai, ci, hp, hrs, rfl, Rep.carry (Nat.zero_le _) (Nat.le_refl _) (fun _ _ _ => rfl) _ _ hr, hb⟩
theorem cTableNo (l : List Key2) (n : Nat) (E : Int) (a : Option Addr) (c : Nat) (X : World) (hE : tabE l = E) (h0 : E ≠ 0) (hn : l.length = n) (h40 : n ≤ 40) (hs : ∀ k ∈ l, k.1.size ≤ 300 ∧ k.2.size ≤ 300) (hK : KeysAt X 0 X.heap.size a l) (hT : Tabs X) :
    Calls Tryz.prog 32 #[.slice a n c] X (fun e w'' => e = .returned (.tuple #[.agg #[.int .u8 0, .int .i64 0, .string { data := #[] }, .slice none 0 0, .slice none 0 0], .int .i64 E]) ∧ Below X.heap.size X w'') := by
  subst hn
  subst hE
  refine (keyTable l a c X hK (by omega) hs hT).mono ?_
  rintro e w' (⟨_, rfl, hb⟩ | ⟨h1, _⟩)
  · exact ⟨rfl, hb⟩
  · exact absurd h1 h0
theorem cKeys (v : JV) (x : Value) (X : World) (M : List Key2) (n : Nat) (E : Int) (hv : keysJ v = (M, E)) (hn : M.length = n) (hw : v.wt ≤ 4294967296) (hR : Rep X 0 X.heap.size v x) (hT : Tabs X) :
    Calls Tryz.prog 35 #[x] X (fun e w'' => ∃ a c, e = .returned (.tuple #[.slice a n c, .int .i64 E]) ∧ Below X.heap.size X w'') := by
  have := keyKeys v x X hw hR hT
  unfold KeysPost at this
  rw [hv] at this
  refine this.mono ?_
  rintro e w'' ⟨val, rfl, hown, hb⟩
  obtain ⟨a, c, rfl⟩ := owns_slice hown
  replace hown : w''.ownsRow X.heap.size 23 2 (.slice a M.length c) M.length _ := hown
  exact ⟨a, c, by rw [← hn], hb⟩
theorem cObj2 (t s : ByteArray) (X : World) (ht : t.size ≤ 300) (hs : s.size ≤ 300) (h0 : 0 < t.size) (h1 : 0 < s.size) : Calls Tryz.prog 41 #[.string t, .string s] X (fun e w'' => ∃ an cn ai ci, e = .returned (.agg #[.int .u8 5, .int .i64 0, .string { data := #[] }, .slice an 2 cn, .slice ai 2 ci]) ∧
    Rep w'' 0 w''.heap.size (keyJ s t) (.agg #[.int .u8 5, .int .i64 0, .string { data := #[] }, .slice an 2 cn, .slice ai 2 ci]) ∧ Below X.heap.size X w'') := by
  have := lawObject t s X (by omega) (by omega) h0
  rw [if_neg (by omega), if_neg (by omega)] at this
  refine this.mono ?_
  rintro e w'' ⟨an, cn, ai, ci, rfl, hr, hb⟩
  exact ⟨an, cn, ai, ci, rfl, Rep.carry (Nat.zero_le _) (Nat.le_refl _) (fun _ _ _ => rfl) _ _ hr, hb⟩
theorem cObj1 (t : ByteArray) (X : World) (ht : t.size ≤ 300) (h0 : 0 < t.size) : Calls Tryz.prog 41 #[.string t, .string { data := #[] }] X (fun e w'' => ∃ an cn ai ci, e = .returned (.agg #[.int .u8 5, .int .i64 0, .string { data := #[] }, .slice an 1 cn, .slice ai 1 ci]) ∧
    Rep w'' 0 w''.heap.size (oneJ t) (.agg #[.int .u8 5, .int .i64 0, .string { data := #[] }, .slice an 1 cn, .slice ai 1 ci]) ∧ Below X.heap.size X w'') := by
  refine (lawObject t { data := #[] } X (by omega) (by decide) h0).mono ?_
  rintro e w'' ⟨an, cn, ai, ci, rfl, hr, hb⟩
  exact ⟨an, cn, ai, ci, rfl, Rep.carry (Nat.zero_le _) (Nat.le_refl _) (fun _ _ _ => rfl) _ _ hr, hb⟩
theorem cFind (a : Option Addr) (c : Nat) (X : World) (hK : KeysAt X 0 X.heap.size a (keysN 32)) (hT : Tabs X) : Calls Tryz.prog 29 #[.slice a 32 c, .string bZZ] X (fun e w'' => e = .returned (.tuple #[.agg #[.string { data := #[] }, .string { data := #[] }], .bool false]) ∧ Below X.heap.size X w'') := by
  have := keyFind (keysN 32) bZZ a c X hK (by rw [keysN_length]; decide) (keysN_sizes 32) hT
  rw [keysN_length] at this
  unfold KFindPost at this
  rw [find32] at this
  exact this

end Go.Proofs.YtcahpjejpimdhaaGreatDoor
