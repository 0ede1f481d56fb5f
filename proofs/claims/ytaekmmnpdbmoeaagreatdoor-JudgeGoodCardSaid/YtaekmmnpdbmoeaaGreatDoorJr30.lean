/- The contract of legatelaw17.JudgeApart. Printed by genapart.py. -/
import Derived.Test.YtaekmmnpdbmoeaaGreatDoorJr29
import Derived.Test.YtaekmmnpdbmoeaaGreatDoorJr23
import Derived.Test.YtaekmmnpdbmoeaaGreatDoorJr24

namespace Go.Proofs.YtaekmmnpdbmoeaaGreatDoor
open Go.RowKit

def MP.tab (l : List Ver3) : MP := ⟨fun w x => VerIs w x (.tab l), fun _ _ _ hb h => h.below hb⟩
theorem news_tris {w : World} {a : Option Addr} {l : List Ver3} (hR : TrisAt w 0 w.heap.size a l) (o : Obj) : 0 < l.length → ∃ ad', a = some ad' ∧ ∀ j u, (l.flatMap encV)[j]? = some u → (w.alloc o).cell? (ad'.add j) = some u := fun h0 => by
  rcases hR with h | ⟨b, off, h, _, hb, hc⟩
  · subst h; simp at h0
  · refine ⟨⟨b, off, none⟩, h, fun j u hj => ?_⟩
    obtain ⟨hj3, hu⟩ := encV_get l j u hj
    obtain ⟨h1, h2, h3⟩ := hc (j / 3) hj3
    have e : (⟨b, off, none⟩ : Addr).add j = ⟨b, off + j, none⟩ := by unfold Addr.add; split <;> simp_all
    rw [e, cell_alloc_lt _ hb]
    have hm : j % 3 < 3 := Nat.mod_lt _ (by decide)
    unfold encV at hu
    rcases hq : j % 3 with _ | _ | _ | q
    · rw [hq] at hu; simp at hu; subst hu; rw [show off + j = off + j / 3 * 3 by omega]; exact h1
    · rw [hq] at hu; simp at hu; subst hu; rw [show off + j = off + j / 3 * 3 + 1 by omega]; exact h2
    · rw [hq] at hu; simp at hu; subst hu; rw [show off + j = off + j / 3 * 3 + 2 by omega]; exact h3
    · omega
theorem tris_len (l : List Ver3) : (l.flatMap encV).length = l.length * 3 := by
  induction l with
  | nil => rfl
  | cons v r ih => rw [List.flatMap_cons, List.length_append, ih]; show 3 + r.length * 3 = (r.length + 1) * 3; omega
theorem tris_one (l : List Ver3) : ∀ u ∈ l.flatMap encV, u.oneCell' = true := fun u hu => by
  obtain ⟨v, _, hv⟩ := List.mem_flatMap.1 hu
  unfold encV at hv
  simp at hv
  rcases hv with rfl | rfl | rfl <;> rfl
theorem keys_single {w : World} {s t : ByteArray} {T : Nat} : KeysAt (w.alloc (.cells #[.string s, .string t] T)) 0 (w.alloc (.cells #[.string s, .string t] T)).heap.size (some ⟨w.heap.size, 0, none⟩) [(s, t)] := keys_blk (heap_alloc_new w _) rfl
/-- A block of n verdicts that may be stored to. -/
def VBlk (w : World) (g n : Nat) : Prop := ∃ cur : Array Value, w.heap[g]? = some (.cells cur 60 (0, 0)) ∧ n * 3 ≤ cur.size
theorem VBlk.cell {w : World} {g n : Nat} (h : VBlk w g n) (k c : Nat) (hk : k < n) (hc : c < 3) : (∃ u, w.cell? ⟨g, k * 3 + c, none⟩ = some u) ∧ w.frozen? ⟨g, k * 3 + c, none⟩ = false := by
  obtain ⟨cur, h1, h2⟩ := h
  have hl : k * 3 + c < cur.size := by omega
  exact ⟨⟨cur[k * 3 + c], box_cell h1 (by rw [Array.getElem?_eq_getElem hl])⟩, by simp [World.frozen?, h1]⟩
theorem VBlk.set {w : World} {g n : Nat} (h : VBlk w g n) (o : Nat) (u : Value) : VBlk (w.setCell ⟨g, o, none⟩ u) g n := by
  obtain ⟨cur, h1, h2⟩ := h
  refine ⟨cur.setIfInBounds o u, ?_, by simpa using h2⟩
  simp [World.setCell, Array.getElem?_modify, h1]
theorem VBlk.of_block {w w' : World} {g n : Nat} (h : VBlk w g n) (hb : w'.heap[g]? = w.heap[g]?) : VBlk w' g n := by
  obtain ⟨cur, h1, h2⟩ := h
  exact ⟨cur, hb.trans h1, h2⟩

theorem VBlk.set3 {w : World} {g n : Nat} (h : VBlk w g n) (o1 o2 o3 : Nat) (u v x : Value) : VBlk (((w.setCell ⟨g, o1, none⟩ u).setCell ⟨g, o2, none⟩ v).setCell ⟨g, o3, none⟩ x) g n := ((h.set o1 u).set o2 v).set o3 x

set_option maxHeartbeats 2000000 in
set_option maxRecDepth 100000 in
theorem lawApart (l : List Ver3) (a : Option Addr) (c : Nat) (ks kp s1 s2 m : ByteArray) (w : World) (hV : TrisAt w 0 w.heap.size a l) (hl : l.length ≤ 9223372036854775807) (hT : Tabs w) (hP : Pow10 w) :
    Calls Tryz.prog 9 #[.slice a l.length c, .agg #[.string ks, .string kp], .agg #[.string s1, .string s2], .string m] w fun e w' => e = .returned (.bool true) ∧ Below w.heap.size w w' := by
  obtain ⟨i1, hi1, hy0, hy1, hy2⟩ := info_parts infoVer
  obtain ⟨W0, hW0⟩ : ∃ W0, W0 = (w.alloc (.cells #[.string ks, .string kp] 24)).alloc (.cells #[.string s1, .string s2] 26) := ⟨_, rfl⟩
  have HB0 := Lib.hid (show Below w.heap.size w W0 by rw [hW0]; exact below_n2 w _ _)
  have HZ0 := Lib.hid (show W0.heap.size = w.heap.size + 2 by rw [hW0]; simp)
  have hx0 : W0.heap[w.heap.size]? = some (.cells #[.string ks, .string kp] 24 (0, 0)) := by
    rw [hW0, Below.heap_alloc _ _ _ (by simp)]; exact heap_alloc_new w _
  have hx1 : W0.heap[w.heap.size + 1]? = some (.cells #[.string s1, .string s2] 26 (0, 0)) := by
    rw [hW0]
    have := heap_alloc_new (w.alloc (.cells #[.string ks, .string kp] 24)) (.cells #[.string s1, .string s2] 26)
    simpa using this
  have HS := Lib.hid (show ∀ w' : World, w'.heap[w.heap.size]? = W0.heap[w.heap.size]? → w'.heap[w.heap.size + 1]? = W0.heap[w.heap.size + 1]? → w'.cell? ⟨w.heap.size, 0, none⟩ = some (.string ks) ∧ w'.cell? ⟨w.heap.size, 1, none⟩ = some (.string kp) ∧ w'.cell? ⟨w.heap.size + 1, 0, none⟩ = some (.string s1) ∧ w'.cell? ⟨w.heap.size + 1, 1, none⟩ = some (.string s2) from fun w' h0 h1 => by
    have y0 := h0.trans hx0
    have y1 := h1.trans hx1
    exact ⟨box_cell y0 rfl, box_cell y0 rfl, box_cell y1 rfl, box_cell y1 rfl⟩)
  have HSB := Lib.hid (show ∀ w' : World, Below W0.heap.size W0 w' → w'.cell? ⟨w.heap.size, 0, none⟩ = some (.string ks) ∧ w'.cell? ⟨w.heap.size, 1, none⟩ = some (.string kp) ∧ w'.cell? ⟨w.heap.size + 1, 0, none⟩ = some (.string s1) ∧ w'.cell? ⟨w.heap.size + 1, 1, none⟩ = some (.string s2) from fun w' h => HS.out w' (h.block _ (by have := HZ0.out; omega)) (h.block _ (by have := HZ0.out; omega)))
  have HA := Lib.hid (show ∀ w' : World, Below W0.heap.size W0 w' → Calls Tryz.prog 14 #[] w' (fun e w'' => e = .returned (.bool true) ∧ Below w'.heap.size w' w'') from fun w' h => lawAwake17 w' (hT.below (HB0.out.trans (h.mono HB0.out.size))) (hP.below (HB0.out.trans (h.mono HB0.out.size))))
  have HLV := Lib.hid (lawLongVerdicts l a c W0 (hV.below HB0.out (Nat.le_refl _) (Nat.le_refl _) HB0.out.size) hl)
  have HV := Lib.hid hV
  have HT := Lib.hid hT
  have HW0 := Lib.hid hW0
  clear hV hl hT hP hx0 hx1 hW0
  go_enter Tryz.func9, Tryz.ntmps9
  go_wp2_with fail
  rw [← HW0.out]
  refine HLV.out.mono ?_
  clear HLV HW0
  rintro e w1 ⟨b, rfl, hb, hb1⟩
  have HB1 := Lib.hid hb1
  clear hb1
  obtain ⟨q0, q1, q2, q3⟩ := HSB.out w1 HB1.out
  cases b
  case true =>
    clear hb
    go_wp2_with fail
    refine (HA.out w1 HB1.out).mono ?_
    rintro e w9 ⟨rfl, hb9⟩
    have HB9 := Lib.hid (HB1.out.trans (hb9.mono HB1.out.size))
    clear hb9
    go_wp2
    go_ret
    exact ⟨rfl, HB0.out.trans (HB9.out.mono HB0.out.size)⟩
  obtain ⟨hl60, hlz⟩ := hb rfl
  clear hb
  have HLZ := Lib.hid hlz
  clear hlz
  have HLK := Lib.hid (lawLongKeys [(ks, kp)] _ 1 (w1.alloc (.cells #[.string ks, .string kp] 24)) keys_single (by simp))
  go_wp2_with fail
  refine HLK.out.mono ?_
  clear HLK q0 q1 q2 q3
  rintro e w2 ⟨b, rfl, hb, hb2⟩
  have HB2 := Lib.hid (HB1.out.trans (((Below.refl _ _).alloc (Nat.le_refl _) _).trans (hb2.mono (by simp)) |>.mono HB1.out.size))
  clear hb2
  obtain ⟨q0, q1, q2, q3⟩ := HSB.out w2 HB2.out
  cases b
  case true =>
    clear hb
    go_wp2_with fail
    refine (HA.out w2 HB2.out).mono ?_
    rintro e w9 ⟨rfl, hb9⟩
    have HB9 := Lib.hid (HB2.out.trans (hb9.mono HB2.out.size))
    clear hb9
    go_wp2
    go_ret
    exact ⟨rfl, HB0.out.trans (HB9.out.mono HB0.out.size)⟩
  have hk := (hb rfl).2 (ks, kp) (by simp)
  clear hb
  have HKZ := Lib.hid hk
  clear hk
  by_cases g0 : s1.size ≤ 300
  case neg =>
    have g0' : decide (300 < s1.size) = true := by simp; omega
    go_wp2_with fail
    refine (HA.out w2 HB2.out).mono ?_
    rintro e w9 ⟨rfl, hb9⟩
    have HB9 := Lib.hid (HB2.out.trans (hb9.mono HB2.out.size))
    clear hb9
    go_wp2
    go_ret
    exact ⟨rfl, HB0.out.trans (HB9.out.mono HB0.out.size)⟩
  by_cases g1 : s2.size ≤ 300
  case neg =>
    have g0' : decide (300 < s1.size) = false := by simp; omega
    have g1' : decide (300 < s2.size) = true := by simp; omega
    go_wp2_with fail
    refine (HA.out w2 HB2.out).mono ?_
    rintro e w9 ⟨rfl, hb9⟩
    have HB9 := Lib.hid (HB2.out.trans (hb9.mono HB2.out.size))
    clear hb9
    go_wp2
    go_ret
    exact ⟨rfl, HB0.out.trans (HB9.out.mono HB0.out.size)⟩
  by_cases g2 : m.size ≤ 3000
  case neg =>
    have g0' : decide (300 < s1.size) = false := by simp; omega
    have g1' : decide (300 < s2.size) = false := by simp; omega
    have g2' : decide (3000 < m.size) = true := by simp; omega
    go_wp2_with fail
    refine (HA.out w2 HB2.out).mono ?_
    rintro e w9 ⟨rfl, hb9⟩
    have HB9 := Lib.hid (HB2.out.trans (hb9.mono HB2.out.size))
    clear hb9
    go_wp2
    go_ret
    exact ⟨rfl, HB0.out.trans (HB9.out.mono HB0.out.size)⟩
  have g0' : decide (300 < s1.size) = false := by simp; omega
  have g1' : decide (300 < s2.size) = false := by simp; omega
  have g2' : decide (3000 < m.size) = false := by simp; omega
  go_wp2_with fail
  refine (HA.out w2 HB2.out).mono ?_
  rintro e w3 ⟨rfl, hb3⟩
  have HB3 := Lib.hid (HB2.out.trans (hb3.mono HB2.out.size))
  have HZ3 := Lib.hid (HB3.out.size)
  clear hb3 q0 q1 q2 q3 g0' g1' g2' HA
  have HBW := Lib.hid (HB0.out.trans (HB3.out.mono HB0.out.size))
  have HN := Lib.hid (news_tris (HV.out.below HBW.out (Nat.le_refl _) (Nat.le_refl _) HBW.out.size) (.cells #[] 60))
  have HL := Lib.hid (tris_len l)
  have HO := Lib.hid (tris_one l)
  go_wp2_with (at_builtin; refine wpList_append_any _ rfl (.tmp 43) (.tmp 44) 22 rfl w3.heap.size 60 i1 _ 3 48 Tryz.underlying22 hi1 hy0 hy1 hy2 rfl (by decide) _ 0 [] rfl (World.ownsRow_made w3 #[] 0 (Nat.le_refl _) (Nat.zero_le _) (by simp)) _ l.length c (l.flatMap encV) rfl HL.out HN.out HO.out ?c1 ?c2 ?c3 _ rfl ?_)
  case c1 => unfold maxLen; omega
  case c2 => omega
  case c3 => simp
  intro a2 c2 w4 hown4 hgrow4 hat4
  try simp only [Nat.zero_add, List.nil_append] at hown4
  have hb4 : Below w3.heap.size w3 w4 := ((Below.refl _ _).alloc (Nat.le_refl _) _).grown hgrow4 (by simp) (by intro k hk; simp [Value.ownBlock] at hk; omega)
  have hz4 : w3.heap.size < w4.heap.size := by have := hgrow4.size; simp at this; omega
  have HB4 := Lib.hid (HBW.out.trans (hb4.mono HBW.out.size))
  have HB4' := Lib.hid (HB3.out.trans (hb4.mono HB3.out.size))
  obtain ⟨g, hg⟩ : ∃ g, w3.heap.size ≤ g ∧ g < w4.heap.size ∧ (0 < l.length → a2 = some ⟨g, 0, none⟩ ∧ VBlk w4 g l.length) := by
    rcases hown4.2 with ⟨_, h0⟩ | ⟨g, cap', cur, hv, hgg, hh, hc, hm, hs, ht⟩
    · exact ⟨w3.heap.size, Nat.le_refl _, hz4, fun h => by omega⟩
    · simp only [Value.slice.injEq, true_and] at hv
      exact ⟨g, hgg, heap_lt hh, fun _ => ⟨hv.1, cur, hh, by rw [hs]; exact Nat.mul_le_mul_right 3 hc⟩⟩
  have HG := Lib.hid hg
  have HTB := Lib.hid (judgeTable l a2 c2 w4 ((owns_tris hown4 rfl).carry (Nat.zero_le _) (Nat.le_refl _) fun _ _ _ => rfl) hl60)
  clear hown4 hgrow4 hat4 hb4 hg HN HL HO
  go_wp2_with fail
  refine HTB.out.mono ?_
  clear HTB
  rintro e w5 ⟨p, ap, cp, rfl, hpz, hp, htp, hb5⟩
  have HB5 := Lib.hid (HB4.out.trans (hb5.mono HB4.out.size))
  have HB5' := Lib.hid (HB4'.out.trans (hb5.mono HB4'.out.size))
  have HZ5 := Lib.hid (hb5.size)
  have HVB := Lib.hid (show 0 < l.length → a2 = some ⟨g, 0, none⟩ ∧ VBlk w5 g l.length from fun h => ⟨(HG.out.2.2 h).1, (HG.out.2.2 h).2.of_block (hb5.block g HG.out.2.1)⟩)
  have hgz : w.heap.size + 2 ≤ g := by have h1 := HZ0.out; have h2 := HZ3.out; have h3 := HG.out.1; omega
  have HVT := Lib.hid (show ∀ w' : World, Touch (· = g) w5 w' → VerIs w' (.pointer (some ⟨p, 0, none⟩)) (.tab l) from fun w' h => .inl ⟨p, ap, cp, rfl, by
      rw [h.block p (heap_lt hp) (by have := HG.out.2.1; omega)]; exact hp, hl60, htp.carry (Nat.zero_le _) (Nat.le_trans (Nat.le_of_lt (heap_lt hp)) h.size) fun b h1 h2 => h.block b (Nat.lt_trans h2 (heap_lt hp)) (by have := HG.out.2.1; omega)⟩)
  have HBT := Lib.hid (show ∀ w' : World, Touch (· = g) w5 w' → Below w.heap.size w w' from fun w' h => HB5.out.trans (h.below HB5.out.size (fun k hk e => by omega)))
  have HST := Lib.hid (show ∀ w' : World, Touch (· = g) w5 w' → w'.cell? ⟨w.heap.size, 0, none⟩ = some (.string ks) ∧ w'.cell? ⟨w.heap.size, 1, none⟩ = some (.string kp) ∧ w'.cell? ⟨w.heap.size + 1, 0, none⟩ = some (.string s1) ∧ w'.cell? ⟨w.heap.size + 1, 1, none⟩ = some (.string s2) from fun w' h => HS.out w' ((h.block _ (by have := HB5.out.size; have := HB5'.out.size; have := HZ0.out; omega) (by omega)).trans (HB5'.out.block _ (by have := HZ0.out; omega))) ((h.block _ (by have := HB5'.out.size; have := HZ0.out; omega) (by omega)).trans (HB5'.out.block _ (by have := HZ0.out; omega))))
  obtain ⟨BG, hBG⟩ : ∃ BG, BG = (Ver.tab l).good (ks, kp) (s1, s2) m.data.toList := ⟨_, rfl⟩
  have HGD := Lib.hid (show ∀ (w' : World) (x : Value), Touch (· = g) w5 w' → VerIs w' x (.tab l) → Calls Tryz.prog 16 #[x, .agg #[.string ks, .string kp], .agg #[.string s1, .string s2], .string m] w' (fun e w'' => e = .returned (.bool BG) ∧ Below w'.heap.size w' w'') from fun w' x h hx => by
    rw [hBG]
    exact judgeGood (.tab l) x (ks, kp) (s1, s2) m w' hx HKZ.out.1 HKZ.out.2 (by show s2.size ≤ 1000000; omega) (by omega) (HT.out.below (HBT.out w' h)))
  have HTB2 := Lib.hid (show ∀ (w' : World), Touch (· = g) w5 w' → Calls Tryz.prog 27 #[.slice a l.length c] w' (fun e w'' => ∃ x, e = .returned x ∧ VerIs w'' x (.tab l) ∧ Below w'.heap.size w' w'') from fun w' h => by
    refine (judgeTable l a c w' (HV.out.below (HBT.out w' h) (Nat.le_refl _) (Nat.le_refl _) (HBT.out w' h).size) hl60).mono ?_
    rintro e w'' ⟨p, a', c', rfl, _, hp, htp, hb⟩
    exact ⟨_, rfl, .inl ⟨p, a', c', rfl, hp, hl60, htp.carry (Nat.zero_le _) (Nat.le_of_lt (heap_lt hp)) fun _ _ _ => rfl⟩, hb⟩)
  have HD := Lib.hid (show ∀ (w' : World), Touch (· = g) w5 w' → Calls Tryz.prog 35 #[.string m] w' (fun e w'' => e = .returned (.string ⟨(shaHex m.data.toList).toArray⟩) ∧ Below w'.heap.size w' w'') from fun w' h => digest m w' (by omega) (HT.out.below (HBT.out w' h)))
  obtain ⟨D, hD⟩ : ∃ D : ByteArray, D = ⟨(shaHex m.data.toList).toArray⟩ := ⟨_, rfl⟩
  rw [← hD] at HD
  clear hb5 hp htp hpz hBG hD HB5' HB4' HB4 HZ5 HBW HB3 HZ3 HB1 HB2 HSB HS HLZ HV
  obtain ⟨q0, q1, q2, q3⟩ := HST.out w5 (Touch.refl _ _)
  go_wp2_with fail
  refine (HGD.out w5 _ (Touch.refl _ _) (HVT.out w5 (Touch.refl _ _))).mono ?_
  rintro e w6 ⟨rfl, hb6⟩
  have HT6 := Lib.hid (Touch.of_below (S := (· = g)) hb6 (Nat.le_refl _))
  have HVB6 := Lib.hid (show 0 < l.length → VBlk w6 g l.length from fun h => (HVB.out h).2.of_block (hb6.block g (by obtain ⟨cur, h1, _⟩ := (HVB.out h).2; exact heap_lt h1)))
  clear hb6 q0 q1 q2 q3
  go_wp2_with fail
  go_loopw [12] (fun i wr => ∃ k : Nat, k ≤ l.length ∧ i = .int .i64 k ∧ Touch (· = g) w5 wr ∧ (0 < l.length → VBlk wr g l.length)) (fun i _ => l.length - (intOf i).toNat)
  case atStart => exact ⟨0, Nat.zero_le _, rfl, HT6.out, HVB6.out⟩
  case round =>
    obtain ⟨k, hk, rfl, ht, hvb⟩ := hrel
    by_cases hlt : k < l.length
    · obtain ⟨rfl, _⟩ := HVB.out (by omega)
      have HTR := Lib.hid ht
      have HVR := Lib.hid (hvb (by omega))
      clear ht hvb
      go_wp2_with fail
      obtain ⟨V, hV⟩ : ∃ V : List MP, V = [.con (.slice (some ⟨g, 0, none⟩) l.length c2), .con (.int .i64 (k : Int)), .con (.pointer (some ⟨w.heap.size + 1, 0, none⟩)), .con (.string s1), .con (.pointer (some ⟨w.heap.size + 1, 1, none⟩)), .con (.string s2), .con (.string m), .con (.string D), .con (.agg #[.string s1, .string s2, .string D]), .con (.pointer (some ⟨g, k * 3, none⟩))] := ⟨_, rfl⟩
      have HV := Lib.hid hV
      clear hV
      refine wp_region_inv 10 (fun d a' w' => ∃ x59 x60 x61 x62 x63 x64 x65 x66 x67 x68, a' = ⟨#[.slice a l.length c, .agg #[.string ks, .string kp], .agg #[.string s1, .string s2], .string m, undef, .pointer (some ⟨w.heap.size, 0, none⟩), .pointer (some ⟨w.heap.size + 1, 0, none⟩), undef, .bool false, .slice (some ⟨g, 0, none⟩) l.length c2, .pointer (some ⟨p, 0, none⟩), .bool BG, .int .i64 (k : Int), undef, .slice a l.length c, .bool false, .bool false, .agg #[.string ks, .string kp], .slice (some ⟨w1.heap.size, 0, none⟩) 1 1, .bool false, .bool false, .bool false, .pointer (some ⟨w.heap.size + 1, 0, none⟩), .string s1, .int .i64 (s1.size : Int), .bool (decide (300 < (s1.size : Int))), .bool (decide (300 < (s1.size : Int))), .bool (decide (300 < (s1.size : Int))), .pointer (some ⟨w.heap.size + 1, 1, none⟩), .string s2, .int .i64 (s2.size : Int), .bool (decide (300 < (s2.size : Int))), .bool (decide (300 < (s1.size : Int)) || decide (300 < (s2.size : Int))), .bool (decide (300 < (s1.size : Int)) || decide (300 < (s2.size : Int))), .string m, .int .i64 (m.size : Int), .bool (decide (3000 < (m.size : Int))), .bool (decide (300 < (s1.size : Int)) || decide (300 < (s2.size : Int)) || decide (3000 < (m.size : Int))), .bool (decide (300 < (s1.size : Int)) || decide (300 < (s2.size : Int)) || decide (3000 < (m.size : Int))), .bool true, .bool false, .bool (decide (300 < (s1.size : Int)) || decide (300 < (s2.size : Int)) || decide (3000 < (m.size : Int))), undef, .slice (some ⟨w3.heap.size, 0, none⟩) 0 0, .slice a l.length c, .slice (some ⟨g, 0, none⟩) l.length c2, .slice (some ⟨g, 0, none⟩) l.length c2, .pointer (some ⟨p, 0, none⟩), .pointer (some ⟨p, 0, none⟩), .agg #[.string ks, .string kp], .agg #[.string s1, .string s2], .string m, .bool BG, .int .i64 (k : Int), .slice (some ⟨g, 0, none⟩) l.length c2, .int .i64 (l.length : Int), .bool true, u57, u58, x59, x60, x61, x62, x63, x64, x65, x66, x67, x68, undef, undef, undef, undef, undef, undef, undef, undef, undef, undef, undef, undef, undef, undef, undef, undef, undef, undef, undef, undef, undef, undef, undef, undef, undef, undef, undef, undef, undef, undef, undef, undef, undef, undef], []⟩ ∧ RegI wr V d w' [x59, x60, x61, x62, x63, x64, x65, x66, x67, x68]) (by kernel_rfl) (by kernel_rfl) ?first ?step ?last
      case first => exact ⟨_, _, _, _, _, _, _, _, _, _, rfl, RegI.first _ _ _ (by rw [HV.out]; rfl)⟩
      case step =>
        rintro d a' w' ⟨x59, x60, x61, x62, x63, x64, x65, x66, x67, x68, rfl, h⟩ q hq hn hw
        rcases q with _ | _ | _ | _ | _ | _ | _ | _ | _ | _ | q
        · refine wpOp_step rfl fun K hK => ?_
          go_simp
          exact hK _ _ ⟨_, x60, x61, x62, x63, x64, x65, x66, x67, x68, rfl, h.same 0 _ (.con (.slice (some ⟨g, 0, none⟩) l.length c2)) (by rw [HV.out]; rfl) rfl⟩
        · refine wpOp_step rfl fun K hK => ?_
          go_simp
          exact hK _ _ ⟨x59, _, x61, x62, x63, x64, x65, x66, x67, x68, rfl, h.same 1 _ (.con (.int .i64 (k : Int))) (by rw [HV.out]; rfl) rfl⟩
        · refine wpOp_step rfl fun K hK => ?_
          go_simp
          exact hK _ _ ⟨x59, x60, _, x62, x63, x64, x65, x66, x67, x68, rfl, h.same 2 _ (.con (.pointer (some ⟨w.heap.size + 1, 0, none⟩))) (by rw [HV.out]; rfl) rfl⟩
        · obtain rfl : x61 = .pointer (some ⟨w.heap.size + 1, 0, none⟩) := h.get 2 (hw _ rfl ⟨2, .data⟩ (by simp) rfl) (.con (.pointer (some ⟨w.heap.size + 1, 0, none⟩))) (by rw [HV.out]; rfl) _ rfl
          obtain ⟨q0, q1, q2, q3⟩ := HST.out w' (HTR.out.trans (Touch.of_below h.1 (Nat.le_refl _)))
          refine wpOp_step rfl fun K hK => ?_
          go_simp
          exact hK _ _ ⟨x59, x60, _, _, x63, x64, x65, x66, x67, x68, rfl, h.same 3 _ (.con (.string s1)) (by rw [HV.out]; rfl) rfl⟩
        · refine wpOp_step rfl fun K hK => ?_
          go_simp
          exact hK _ _ ⟨x59, x60, x61, x62, _, x64, x65, x66, x67, x68, rfl, h.same 4 _ (.con (.pointer (some ⟨w.heap.size + 1, 1, none⟩))) (by rw [HV.out]; rfl) rfl⟩
        · obtain rfl : x63 = .pointer (some ⟨w.heap.size + 1, 1, none⟩) := h.get 4 (hw _ rfl ⟨4, .data⟩ (by simp) rfl) (.con (.pointer (some ⟨w.heap.size + 1, 1, none⟩))) (by rw [HV.out]; rfl) _ rfl
          obtain ⟨q0, q1, q2, q3⟩ := HST.out w' (HTR.out.trans (Touch.of_below h.1 (Nat.le_refl _)))
          refine wpOp_step rfl fun K hK => ?_
          go_simp
          exact hK _ _ ⟨x59, x60, x61, x62, _, _, x65, x66, x67, x68, rfl, h.same 5 _ (.con (.string s2)) (by rw [HV.out]; rfl) rfl⟩
        · refine wpOp_step rfl fun K hK => ?_
          go_simp
          exact hK _ _ ⟨x59, x60, x61, x62, x63, x64, _, x66, x67, x68, rfl, h.same 6 _ (.con (.string m)) (by rw [HV.out]; rfl) rfl⟩
        · obtain rfl : x65 = .string m := h.get 6 (hw _ rfl ⟨6, .data⟩ (by simp) rfl) (.con (.string m)) (by rw [HV.out]; rfl) _ rfl
          obtain ⟨q0, q1, q2, q3⟩ := HST.out w' (HTR.out.trans (Touch.of_below h.1 (Nat.le_refl _)))
          refine wpOp_step rfl fun K hK => ?_
          go_simp
          refine (HD.out w' (HTR.out.trans (Touch.of_below h.1 (Nat.le_refl _)))).mono ?_
          rintro e w2 ⟨rfl, hb2⟩
          exact hK _ _ ⟨x59, x60, x61, x62, x63, x64, _, _, x67, x68, rfl, h.did hb2 7 _ (.con (.string D)) (by rw [HV.out]; rfl) rfl⟩
        · obtain rfl : x62 = .string s1 := h.get 3 (hw _ rfl ⟨3, .data⟩ (by simp) rfl) (.con (.string s1)) (by rw [HV.out]; rfl) _ rfl
          obtain rfl : x64 = .string s2 := h.get 5 (hw _ rfl ⟨5, .data⟩ (by simp) rfl) (.con (.string s2)) (by rw [HV.out]; rfl) _ rfl
          obtain rfl : x66 = .string D := h.get 7 (hw _ rfl ⟨7, .data⟩ (by simp) rfl) (.con (.string D)) (by rw [HV.out]; rfl) _ rfl
          refine wpOp_step rfl fun K hK => ?_
          go_simp
          exact hK _ _ ⟨x59, x60, x61, _, x63, _, x65, _, _, x68, rfl, h.same 8 _ (.con (.agg #[.string s1, .string s2, .string D])) (by rw [HV.out]; rfl) rfl⟩
        · obtain rfl : x59 = .slice (some ⟨g, 0, none⟩) l.length c2 := h.get 0 (hw _ rfl ⟨0, .data⟩ (by simp) rfl) (.con (.slice (some ⟨g, 0, none⟩) l.length c2)) (by rw [HV.out]; rfl) _ rfl
          obtain rfl : x60 = .int .i64 (k : Int) := h.get 1 (hw _ rfl ⟨1, .data⟩ (by simp) rfl) (.con (.int .i64 (k : Int))) (by rw [HV.out]; rfl) _ rfl
          obtain ⟨q0, q1, q2, q3⟩ := HST.out w' (HTR.out.trans (Touch.of_below h.1 (Nat.le_refl _)))
          refine wpOp_step rfl fun K hK => ?_
          go_simp
          exact hK _ _ ⟨_, _, x61, x62, x63, x64, x65, x66, x67, _, rfl, h.same 9 _ (.con (.pointer (some ⟨g, k * 3, none⟩))) (by rw [HV.out]; rfl) rfl⟩
        · omega
      case last =>
        rintro d a' w' hall ⟨x59, x60, x61, x62, x63, x64, x65, x66, x67, x68, rfl, h⟩
        have hle := h.1
        obtain rfl : x68 = .pointer (some ⟨g, k * 3, none⟩) := h.get 9 (hall _ (by omega)) (.con (.pointer (some ⟨g, k * 3, none⟩))) (by rw [HV.out]; rfl) _ rfl
        obtain rfl : x67 = .agg #[.string s1, .string s2, .string D] := h.get 8 (hall _ (by omega)) (.con (.agg #[.string s1, .string s2, .string D])) (by rw [HV.out]; rfl) _ rfl
        have HLE := Lib.hid hle
        clear h hall hle HV
        have hv := HVR.out.of_block (HLE.out.block g (by obtain ⟨cur, h1, _⟩ := HVR.out; exact heap_lt h1))
        obtain ⟨⟨u0, c0'⟩, f0'⟩ := hv.cell k 0 hlt (by omega)
        obtain ⟨⟨u1, c1⟩, f1⟩ := hv.cell k 1 hlt (by omega)
        obtain ⟨⟨u2, c2⟩, f2⟩ := hv.cell k 2 hlt (by omega)
        have c0 : w'.cell? ⟨g, k * 3, none⟩ = some u0 := c0'
        have f0 : w'.frozen? ⟨g, k * 3, none⟩ = false := f0'
        have HVW := Lib.hid hv
        have HTW := Lib.hid (HTR.out.trans (Touch.of_below HLE.out (Nat.le_refl _)))
        clear hv c0' f0'
        go_wp2
        go_roundw
        case rel => exact ⟨k + 1, by omega, by go_num, by first | exact ((HTW.out.setCell (.inl rfl) _).setCell (.inl rfl) _).setCell (.inl rfl) _ | exact (((HTW.out.setCell (.inl rfl) _).setCell (.inl rfl) _).setCell (.inl rfl) _).drew, fun _ => HVW.out.set3 _ _ _ _ _ _⟩
        case measure => simp [intOf]; omega
    · have hke : k = l.length := by omega
      subst hke
      have HTR := Lib.hid ht
      have HVR := Lib.hid hvb
      obtain ⟨q0, q1, q2, q3⟩ := HST.out wr ht
      clear ht hvb hk
      go_wp2_with fail
      refine (HGD.out wr _ HTR.out (HVT.out wr HTR.out)).mono ?_
      rintro e w7 ⟨rfl, hb7⟩
      have HT7 := Lib.hid (HTR.out.trans (Touch.of_below hb7 (Nat.le_refl _)))
      have HV7 := Lib.hid (show 0 < l.length → VBlk w7 g l.length from fun h => (HVR.out h).of_block (hb7.block g (by obtain ⟨cur, h1, _⟩ := HVR.out h; exact heap_lt h1)))
      clear hb7 q0 q1 q2 q3 HTR HVR
      go_wp2_with fail
      go_loopw [13] (fun i wr => ∃ k : Nat, k ≤ l.length ∧ i = .int .i64 k ∧ Touch (· = g) w5 wr ∧ (0 < l.length → VBlk wr g l.length)) (fun i _ => l.length - (intOf i).toNat)
      case atStart => exact ⟨0, Nat.zero_le _, rfl, HT7.out, HV7.out⟩
      case round =>
        obtain ⟨k, hk, rfl, ht, hvb⟩ := hrel
        by_cases hlt : k < l.length
        · obtain ⟨rfl, _⟩ := HVB.out (by omega)
          have hv := hvb (by omega)
          obtain ⟨⟨u0, c0'⟩, f0'⟩ := hv.cell k 0 hlt (by omega)
          obtain ⟨⟨u1, c1⟩, f1⟩ := hv.cell k 1 hlt (by omega)
          obtain ⟨⟨u2, c2⟩, f2⟩ := hv.cell k 2 hlt (by omega)
          have c0 : wr.cell? ⟨g, k * 3, none⟩ = some u0 := c0'
          have f0 : wr.frozen? ⟨g, k * 3, none⟩ = false := f0'
          have HVW := Lib.hid hv
          have HTW := Lib.hid ht
          clear hv c0' f0' ht hvb
          go_wp2
          go_roundw
          case rel => exact ⟨k + 1, by omega, by go_num, ((HTW.out.setCell (.inl rfl) _).setCell (.inl rfl) _).setCell (.inl rfl) _, fun _ => HVW.out.set3 _ _ _ _ _ _⟩
          case measure => simp [intOf]; omega
        · have hke : k = l.length := by omega
          subst hke
          have HTR := Lib.hid ht
          clear ht hvb hk
          go_wp2_with fail
          obtain ⟨V, hV⟩ : ∃ V : List MP, V = [.con (.pointer (some ⟨p, 0, none⟩)), .con (.agg #[.string ks, .string kp]), .con (.agg #[.string s1, .string s2]), .con (.string m), .con (.bool BG), .con (.bool BG), .con (.bool true), .con (.bool true), .con (.slice a l.length c), MP.tab l, .con (.agg #[.string ks, .string kp]), .con (.agg #[.string s1, .string s2]), .con (.string m), .con (.bool BG), .con (.bool BG), .con (.bool true), .con (.bool true)] := ⟨_, rfl⟩
          have HV := Lib.hid hV
          clear hV
          refine wp_region_inv 17 (fun d a' w' => ∃ x86 x87 x88 x89 x90 x91 x92 x93 x94 x95 x96 x97 x98 x99 x100 x101 x102, a' = ⟨#[.slice a l.length c, .agg #[.string ks, .string kp], .agg #[.string s1, .string s2], .string m, undef, .pointer (some ⟨w.heap.size, 0, none⟩), .pointer (some ⟨w.heap.size + 1, 0, none⟩), undef, .bool false, .slice a2 l.length c2, .pointer (some ⟨p, 0, none⟩), .bool BG, .int .i64 (l.length : Int), .int .i64 (l.length : Int), .slice a l.length c, .bool false, .bool false, .agg #[.string ks, .string kp], .slice (some ⟨w1.heap.size, 0, none⟩) 1 1, .bool false, .bool false, .bool false, .pointer (some ⟨w.heap.size + 1, 0, none⟩), .string s1, .int .i64 (s1.size : Int), .bool (decide (300 < (s1.size : Int))), .bool (decide (300 < (s1.size : Int))), .bool (decide (300 < (s1.size : Int))), .pointer (some ⟨w.heap.size + 1, 1, none⟩), .string s2, .int .i64 (s2.size : Int), .bool (decide (300 < (s2.size : Int))), .bool (decide (300 < (s1.size : Int)) || decide (300 < (s2.size : Int))), .bool (decide (300 < (s1.size : Int)) || decide (300 < (s2.size : Int))), .string m, .int .i64 (m.size : Int), .bool (decide (3000 < (m.size : Int))), .bool (decide (300 < (s1.size : Int)) || decide (300 < (s2.size : Int)) || decide (3000 < (m.size : Int))), .bool (decide (300 < (s1.size : Int)) || decide (300 < (s2.size : Int)) || decide (3000 < (m.size : Int))), .bool true, .bool false, .bool (decide (300 < (s1.size : Int)) || decide (300 < (s2.size : Int)) || decide (3000 < (m.size : Int))), undef, .slice (some ⟨w3.heap.size, 0, none⟩) 0 0, .slice a l.length c, .slice a2 l.length c2, .slice a2 l.length c2, .pointer (some ⟨p, 0, none⟩), .pointer (some ⟨p, 0, none⟩), .agg #[.string ks, .string kp], .agg #[.string s1, .string s2], .string m, .bool BG, .int .i64 (l.length : Int), .slice a2 l.length c2, .int .i64 (l.length : Int), .bool false, u57, u58, u59, u60, u61, u62, u63, u64, u65, u66, u67, u68, .pointer (some ⟨p, 0, none⟩), .agg #[.string ks, .string kp], .agg #[.string s1, .string s2], .string m, .bool BG, .bool BG, .bool false, .int .i64 (l.length : Int), .slice a2 l.length c2, .int .i64 (l.length : Int), .bool false, u80, u81, u82, u83, u84, u85, x86, x87, x88, x89, x90, x91, x92, x93, x94, x95, x96, x97, x98, x99, x100, x101, x102], []⟩ ∧ RegI wr V d w' [x86, x87, x88, x89, x90, x91, x92, x93, x94, x95, x96, x97, x98, x99, x100, x101, x102]) (by kernel_rfl) (by kernel_rfl) ?first ?step ?last
          case first => exact ⟨_, _, _, _, _, _, _, _, _, _, _, _, _, _, _, _, _, rfl, RegI.first _ _ _ (by rw [HV.out]; rfl)⟩
          case step =>
            rintro d a' w' ⟨x86, x87, x88, x89, x90, x91, x92, x93, x94, x95, x96, x97, x98, x99, x100, x101, x102, rfl, h⟩ q hq hn hw
            rcases q with _ | _ | _ | _ | _ | _ | _ | _ | _ | _ | _ | _ | _ | _ | _ | _ | _ | q
            · refine wpOp_step rfl fun K hK => ?_
              go_simp
              exact hK _ _ ⟨_, x87, x88, x89, x90, x91, x92, x93, x94, x95, x96, x97, x98, x99, x100, x101, x102, rfl, h.same 0 _ (.con (.pointer (some ⟨p, 0, none⟩))) (by rw [HV.out]; rfl) rfl⟩
            · obtain ⟨q0, q1, q2, q3⟩ := HST.out w' (HTR.out.trans (Touch.of_below h.1 (Nat.le_refl _)))
              refine wpOp_step rfl fun K hK => ?_
              go_simp
              exact hK _ _ ⟨x86, _, x88, x89, x90, x91, x92, x93, x94, x95, x96, x97, x98, x99, x100, x101, x102, rfl, h.same 1 _ (.con (.agg #[.string ks, .string kp])) (by rw [HV.out]; rfl) rfl⟩
            · obtain ⟨q0, q1, q2, q3⟩ := HST.out w' (HTR.out.trans (Touch.of_below h.1 (Nat.le_refl _)))
              refine wpOp_step rfl fun K hK => ?_
              go_simp
              exact hK _ _ ⟨x86, x87, _, x89, x90, x91, x92, x93, x94, x95, x96, x97, x98, x99, x100, x101, x102, rfl, h.same 2 _ (.con (.agg #[.string s1, .string s2])) (by rw [HV.out]; rfl) rfl⟩
            · refine wpOp_step rfl fun K hK => ?_
              go_simp
              exact hK _ _ ⟨x86, x87, x88, _, x90, x91, x92, x93, x94, x95, x96, x97, x98, x99, x100, x101, x102, rfl, h.same 3 _ (.con (.string m)) (by rw [HV.out]; rfl) rfl⟩
            · obtain rfl : x86 = .pointer (some ⟨p, 0, none⟩) := h.get 0 (hw _ rfl ⟨0, .data⟩ (by simp) rfl) (.con (.pointer (some ⟨p, 0, none⟩))) (by rw [HV.out]; rfl) _ rfl
              obtain rfl : x87 = .agg #[.string ks, .string kp] := h.get 1 (hw _ rfl ⟨1, .data⟩ (by simp) rfl) (.con (.agg #[.string ks, .string kp])) (by rw [HV.out]; rfl) _ rfl
              obtain rfl : x88 = .agg #[.string s1, .string s2] := h.get 2 (hw _ rfl ⟨2, .data⟩ (by simp) rfl) (.con (.agg #[.string s1, .string s2])) (by rw [HV.out]; rfl) _ rfl
              obtain rfl : x89 = .string m := h.get 3 (hw _ rfl ⟨3, .data⟩ (by simp) rfl) (.con (.string m)) (by rw [HV.out]; rfl) _ rfl
              obtain ⟨q0, q1, q2, q3⟩ := HST.out w' (HTR.out.trans (Touch.of_below h.1 (Nat.le_refl _)))
              refine wpOp_step rfl fun K hK => ?_
              go_simp
              refine (HGD.out w' _ (HTR.out.trans (Touch.of_below h.1 (Nat.le_refl _))) (HVT.out w' (HTR.out.trans (Touch.of_below h.1 (Nat.le_refl _))))).mono ?_
              rintro e w2 ⟨rfl, hb2⟩
              exact hK _ _ ⟨_, _, _, _, _, x91, x92, x93, x94, x95, x96, x97, x98, x99, x100, x101, x102, rfl, h.did hb2 4 _ (.con (.bool BG)) (by rw [HV.out]; rfl) rfl⟩
            · refine wpOp_step rfl fun K hK => ?_
              go_simp
              exact hK _ _ ⟨x86, x87, x88, x89, x90, _, x92, x93, x94, x95, x96, x97, x98, x99, x100, x101, x102, rfl, h.same 5 _ (.con (.bool BG)) (by rw [HV.out]; rfl) rfl⟩
            · obtain rfl : x90 = .bool BG := h.get 4 (hw _ rfl ⟨4, .data⟩ (by simp) rfl) (.con (.bool BG)) (by rw [HV.out]; rfl) _ rfl
              obtain rfl : x91 = .bool BG := h.get 5 (hw _ rfl ⟨5, .data⟩ (by simp) rfl) (.con (.bool BG)) (by rw [HV.out]; rfl) _ rfl
              refine wpOp_step rfl fun K hK => ?_
              go_simp
              exact hK _ _ ⟨x86, x87, x88, x89, _, _, _, x93, x94, x95, x96, x97, x98, x99, x100, x101, x102, rfl, h.same 6 _ (.con (.bool true)) (by rw [HV.out]; rfl) rfl⟩
            · obtain rfl : x92 = .bool true := h.get 6 (hw _ rfl ⟨6, .data⟩ (by simp) rfl) (.con (.bool true)) (by rw [HV.out]; rfl) _ rfl
              refine wpOp_step rfl fun K hK => ?_
              go_simp
              exact hK _ _ ⟨x86, x87, x88, x89, x90, x91, _, _, x94, x95, x96, x97, x98, x99, x100, x101, x102, rfl, h.same 7 _ (.con (.bool true)) (by rw [HV.out]; rfl) rfl⟩
            · obtain rfl : x93 = .bool true := h.get 7 (hw _ rfl ⟨7, .guard⟩ (by simp) rfl) (.con (.bool true)) (by rw [HV.out]; rfl) _ rfl
              refine wpOp_step rfl fun K hK => ?_
              go_simp
              exact hK _ _ ⟨x86, x87, x88, x89, x90, x91, x92, _, _, x95, x96, x97, x98, x99, x100, x101, x102, rfl, h.same 8 _ (.con (.slice a l.length c)) (by rw [HV.out]; rfl) rfl⟩
            · obtain rfl : x93 = .bool true := h.get 7 (hw _ rfl ⟨7, .chain⟩ (by simp) rfl) (.con (.bool true)) (by rw [HV.out]; rfl) _ rfl
              obtain rfl : x94 = .slice a l.length c := h.get 8 (hw _ rfl ⟨8, .data⟩ (by simp) rfl) (.con (.slice a l.length c)) (by rw [HV.out]; rfl) _ rfl
              obtain ⟨q0, q1, q2, q3⟩ := HST.out w' (HTR.out.trans (Touch.of_below h.1 (Nat.le_refl _)))
              refine wpOp_step rfl fun K hK => ?_
              go_simp
              refine (HTB2.out w' (HTR.out.trans (Touch.of_below h.1 (Nat.le_refl _)))).mono ?_
              rintro e w2 ⟨y, rfl, hy, hb2⟩
              exact hK _ _ ⟨x86, x87, x88, x89, x90, x91, x92, _, _, _, x96, x97, x98, x99, x100, x101, x102, rfl, h.did hb2 9 _ (MP.tab l) (by rw [HV.out]; rfl) hy⟩
            · obtain rfl : x93 = .bool true := h.get 7 (hw _ rfl ⟨7, .guard⟩ (by simp) rfl) (.con (.bool true)) (by rw [HV.out]; rfl) _ rfl
              obtain ⟨q0, q1, q2, q3⟩ := HST.out w' (HTR.out.trans (Touch.of_below h.1 (Nat.le_refl _)))
              refine wpOp_step rfl fun K hK => ?_
              go_simp
              exact hK _ _ ⟨x86, x87, x88, x89, x90, x91, x92, _, x94, x95, _, x97, x98, x99, x100, x101, x102, rfl, h.same 10 _ (.con (.agg #[.string ks, .string kp])) (by rw [HV.out]; rfl) rfl⟩
            · obtain rfl : x93 = .bool true := h.get 7 (hw _ rfl ⟨7, .guard⟩ (by simp) rfl) (.con (.bool true)) (by rw [HV.out]; rfl) _ rfl
              obtain ⟨q0, q1, q2, q3⟩ := HST.out w' (HTR.out.trans (Touch.of_below h.1 (Nat.le_refl _)))
              refine wpOp_step rfl fun K hK => ?_
              go_simp
              exact hK _ _ ⟨x86, x87, x88, x89, x90, x91, x92, _, x94, x95, x96, _, x98, x99, x100, x101, x102, rfl, h.same 11 _ (.con (.agg #[.string s1, .string s2])) (by rw [HV.out]; rfl) rfl⟩
            · obtain rfl : x93 = .bool true := h.get 7 (hw _ rfl ⟨7, .guard⟩ (by simp) rfl) (.con (.bool true)) (by rw [HV.out]; rfl) _ rfl
              refine wpOp_step rfl fun K hK => ?_
              go_simp
              exact hK _ _ ⟨x86, x87, x88, x89, x90, x91, x92, _, x94, x95, x96, x97, _, x99, x100, x101, x102, rfl, h.same 12 _ (.con (.string m)) (by rw [HV.out]; rfl) rfl⟩
            · obtain rfl : x93 = .bool true := h.get 7 (hw _ rfl ⟨7, .guard⟩ (by simp) rfl) (.con (.bool true)) (by rw [HV.out]; rfl) _ rfl
              have hs95 := h.get 9 (hw _ rfl ⟨9, .data⟩ (by simp) rfl) (MP.tab l) (by rw [HV.out]; rfl) _ rfl
              obtain rfl : x96 = .agg #[.string ks, .string kp] := h.get 10 (hw _ rfl ⟨10, .data⟩ (by simp) rfl) (.con (.agg #[.string ks, .string kp])) (by rw [HV.out]; rfl) _ rfl
              obtain rfl : x97 = .agg #[.string s1, .string s2] := h.get 11 (hw _ rfl ⟨11, .data⟩ (by simp) rfl) (.con (.agg #[.string s1, .string s2])) (by rw [HV.out]; rfl) _ rfl
              obtain rfl : x98 = .string m := h.get 12 (hw _ rfl ⟨12, .data⟩ (by simp) rfl) (.con (.string m)) (by rw [HV.out]; rfl) _ rfl
              obtain ⟨q0, q1, q2, q3⟩ := HST.out w' (HTR.out.trans (Touch.of_below h.1 (Nat.le_refl _)))
              refine wpOp_step rfl fun K hK => ?_
              go_simp
              refine (HGD.out w' _ (HTR.out.trans (Touch.of_below h.1 (Nat.le_refl _))) hs95).mono ?_
              rintro e w2 ⟨rfl, hb2⟩
              exact hK _ _ ⟨x86, x87, x88, x89, x90, x91, x92, _, x94, x95, _, _, _, _, x100, x101, x102, rfl, h.did hb2 13 _ (.con (.bool BG)) (by rw [HV.out]; rfl) rfl⟩
            · obtain rfl : x93 = .bool true := h.get 7 (hw _ rfl ⟨7, .guard⟩ (by simp) rfl) (.con (.bool true)) (by rw [HV.out]; rfl) _ rfl
              refine wpOp_step rfl fun K hK => ?_
              go_simp
              exact hK _ _ ⟨x86, x87, x88, x89, x90, x91, x92, _, x94, x95, x96, x97, x98, x99, _, x101, x102, rfl, h.same 14 _ (.con (.bool BG)) (by rw [HV.out]; rfl) rfl⟩
            · obtain rfl : x93 = .bool true := h.get 7 (hw _ rfl ⟨7, .guard⟩ (by simp) rfl) (.con (.bool true)) (by rw [HV.out]; rfl) _ rfl
              obtain rfl : x99 = .bool BG := h.get 13 (hw _ rfl ⟨13, .data⟩ (by simp) rfl) (.con (.bool BG)) (by rw [HV.out]; rfl) _ rfl
              obtain rfl : x100 = .bool BG := h.get 14 (hw _ rfl ⟨14, .data⟩ (by simp) rfl) (.con (.bool BG)) (by rw [HV.out]; rfl) _ rfl
              refine wpOp_step rfl fun K hK => ?_
              go_simp
              exact hK _ _ ⟨x86, x87, x88, x89, x90, x91, x92, _, x94, x95, x96, x97, x98, _, _, _, x102, rfl, h.same 15 _ (.con (.bool true)) (by rw [HV.out]; rfl) rfl⟩
            · obtain rfl : x93 = .bool true := h.get 7 (hw _ rfl ⟨7, .data⟩ (by simp) rfl) (.con (.bool true)) (by rw [HV.out]; rfl) _ rfl
              obtain rfl : x101 = .bool true := h.get 15 (hw _ rfl ⟨15, .data⟩ (by simp) rfl) (.con (.bool true)) (by rw [HV.out]; rfl) _ rfl
              refine wpOp_step rfl fun K hK => ?_
              go_simp
              exact hK _ _ ⟨x86, x87, x88, x89, x90, x91, x92, _, x94, x95, x96, x97, x98, x99, x100, _, _, rfl, h.same 16 _ (.con (.bool true)) (by rw [HV.out]; rfl) rfl⟩
            · omega
          case last =>
            rintro d a' w' hall ⟨x86, x87, x88, x89, x90, x91, x92, x93, x94, x95, x96, x97, x98, x99, x100, x101, x102, rfl, h⟩
            have hle := h.1
            obtain rfl : x102 = .bool true := h.get 16 (hall _ (by omega)) (.con (.bool true)) (by rw [HV.out]; rfl) _ rfl
            have HLE := Lib.hid hle
            clear h hall hle HV
            go_wp2
            go_ret
            exact ⟨rfl, HBT.out _ (HTR.out.trans (Touch.of_below HLE.out (Nat.le_refl _)))⟩

end Go.Proofs.YtaekmmnpdbmoeaaGreatDoor
