/- The contract of the law KeyNames: it returns true. -/
import Derived.Test.YtcahpjejpimdhaaGreatDoorZk304

namespace Go.Proofs.YtcahpjejpimdhaaGreatDoor
open Go.RowKit

set_option maxHeartbeats 8000000 in
set_option maxRecDepth 100000 in
theorem lawKeyNames (w : World) (hT : Tabs w) : Calls Tryz.prog 12 #[] w fun e w' => e = .returned (.bool true) ∧ Below w.heap.size w w' := by
  have HT := Lib.hid hT
  clear hT
  have HB0 := Lib.hid (Below.refl w.heap.size w)
  have HAW := Lib.hid (show ∀ w', Below w.heap.size w w' → Calls Tryz.prog 14 #[] w' (fun e w'' => e = .returned (.bool true) ∧ Below w.heap.size w w'') from fun w' h => by
    refine (lawAwake w' (HT.out.below h)).mono ?_
    rintro e w'' ⟨rfl, hb⟩
    exact ⟨rfl, h.trans (hb.mono h.size)⟩)
  obtain ⟨d64, hd64⟩ : ∃ d : ByteArray, d = ⟨(digL 64).toArray⟩ := ⟨_, rfl⟩
  obtain ⟨d65, hd65⟩ : ∃ d : ByteArray, d = ⟨(digL 65).toArray⟩ := ⟨_, rfl⟩
  have HG64 := Lib.hid (show ∀ w', Calls Tryz.prog 40 #[.int .i64 64] w' (fun e w'' => e = .returned (.string d64) ∧ w' = w'') from fun w' => by rw [hd64]; exact lawDigits 64 w' (by decide))
  have HG65 := Lib.hid (show ∀ w', Calls Tryz.prog 40 #[.int .i64 65] w' (fun e w'' => e = .returned (.string d65) ∧ w' = w'') from fun w' => by rw [hd65]; exact lawDigits 65 w' (by decide))
  have HF1 := Lib.hid (show keyOk bX.data.toList d64.data.toList = true by rw [hd64]; exact may_facts.1)
  have HF2 := Lib.hid (show keyOk bX.data.toList d65.data.toList = false by rw [hd65]; exact may_facts.2.1)
  have HD64 := Lib.hid (show d64.size ≤ 300 by rw [hd64]; show (digL 64).toArray.size ≤ 300; rw [List.size_toArray, digL_length]; decide)
  have HD65 := Lib.hid (show d65.size ≤ 300 by rw [hd65]; show (digL 65).toArray.size ≤ 300; rw [List.size_toArray, digL_length]; decide)
  clear hd64 hd65
  have HMY := Lib.hid (show ∀ (s p : ByteArray) (b : Bool) (w' : World), keyOk s.data.toList p.data.toList = b → s.size ≤ 300 → p.size ≤ 300 → Below w.heap.size w w' → Calls Tryz.prog 20 #[.agg #[.string s, .string p]] w' (fun e w'' => e = .returned (.bool b) ∧ Below w.heap.size w w'') from fun s p b w' hk hs hp h => by
    refine (keyMay s p w' (by omega) (by omega)).mono ?_
    rintro e w'' ⟨rfl, hb⟩
    exact ⟨by rw [hk], h.trans (hb.mono h.size)⟩)
  have HID := Lib.hid (show ∀ (s p : ByteArray) (w' : World), keyOk s.data.toList p.data.toList = false → s.size ≤ 300 → p.size ≤ 300 → Below w.heap.size w w' → Calls Tryz.prog 18 #[.agg #[.string s, .string p]] w' (fun e w'' => e = .returned (.tuple #[.string { data := #[] }, .int .i64 3]) ∧ Below w.heap.size w w'') from fun s p w' hk hs hp h => by
    refine (keyID s p w' (by omega) (by omega) (HT.out.below h)).mono ?_
    rintro e w'' ⟨rfl, hb⟩
    exact ⟨by rw [hk, if_neg (by simp)]; unfold keyId; rw [hk]; rfl, h.trans (hb.mono h.size)⟩)
  have HVL := Lib.hid (show ∀ (s p : ByteArray) (w' : World), keyOk s.data.toList p.data.toList = false → s.size ≤ 300 → p.size ≤ 300 → Below w.heap.size w w' → Calls Tryz.prog 16 #[.agg #[.string s, .string p]] w' (fun e w'' => e = .returned (.tuple #[.agg #[.int .u8 0, .int .i64 0, .string { data := #[] }, .slice none 0 0, .slice none 0 0], .int .i64 3]) ∧ Below w.heap.size w w'') from fun s p w' hk hs hp h => by
    refine (keyValue_no s p w' (by omega) (by omega) hk).mono ?_
    rintro e w'' ⟨rfl, hb⟩
    exact ⟨rfl, h.trans (hb.mono h.size)⟩)
  have HOF := Lib.hid (show ∀ (v : JV) (x : Value) (w' : World) (E : Int), keyOfJ v = ((b0, b0), E) → v.wt ≤ 4294967296 → Rep w' 0 w'.heap.size v x → Below w.heap.size w w' → Calls Tryz.prog 23 #[x] w' (fun e w'' => e = .returned (.tuple #[.agg #[.string { data := #[] }, .string { data := #[] }], .int .i64 E]) ∧ Below w.heap.size w w'') from fun v x w' E hk hw hr h => by
    have := keyOfW v x w' w'.heap.size hw (Nat.le_refl _) hr
    unfold KeyOfPost at this
    rw [hk] at this
    refine this.mono ?_
    rintro e w'' ⟨rfl, hb⟩
    exact ⟨rfl, h.trans (hb.mono h.size)⟩)
  have HO0 := Lib.hid (show ∀ (s : ByteArray) (w' : World), s.size ≤ 300 → 0 < s.size → Below w.heap.size w w' → Calls Tryz.prog 41 #[.string { data := #[] }, .string s] w' (fun e w'' => ∃ x, e = .returned x ∧ Rep w'' 0 w''.heap.size (oneS s) x ∧ Below w.heap.size w w'') from fun s w' hs h0 h => by
    refine (lawObject0 s w' (by omega) h0).mono ?_
    rintro e w'' ⟨an, cn, ai, ci, rfl, hr, hb⟩
    exact ⟨_, rfl, Rep.carry (Nat.zero_le _) (Nat.le_refl _) (fun _ _ _ => rfl) _ _ hr, h.trans (hb.mono h.size)⟩)
  have HO1 := Lib.hid (show ∀ (t : ByteArray) (w' : World), t.size ≤ 300 → 0 < t.size → Below w.heap.size w w' → Calls Tryz.prog 41 #[.string t, .string { data := #[] }] w' (fun e w'' => ∃ x, e = .returned x ∧ Rep w'' 0 w''.heap.size (oneJ t) x ∧ Below w.heap.size w w'') from fun t w' ht h0 h => by
    refine (lawObject t { data := #[] } w' (by omega) (by decide) h0).mono ?_
    rintro e w'' ⟨an, cn, ai, ci, rfl, hr, hb⟩
    exact ⟨_, rfl, Rep.carry (Nat.zero_le _) (Nat.le_refl _) (fun _ _ _ => rfl) _ _ hr, h.trans (hb.mono h.size)⟩)
  have HO2 := Lib.hid (show ∀ (t s : ByteArray) (w' : World), t.size ≤ 300 → s.size ≤ 300 → 0 < t.size → 0 < s.size → Below w.heap.size w w' → Calls Tryz.prog 41 #[.string t, .string s] w' (fun e w'' => ∃ x, e = .returned x ∧ Rep w'' 0 w''.heap.size (keyJ s t) x ∧ Below w.heap.size w w'') from fun t s w' ht hs h0 h1 h => by
    have := lawObject t s w' (by omega) (by omega) h0
    rw [if_neg (by omega), if_neg (by omega)] at this
    refine this.mono ?_
    rintro e w'' ⟨an, cn, ai, ci, rfl, hr, hb⟩
    exact ⟨_, rfl, Rep.carry (Nat.zero_le _) (Nat.le_refl _) (fun _ _ _ => rfl) _ _ hr, h.trans (hb.mono h.size)⟩)
  have HW1 := Lib.hid (show ∀ (x : Value) (w' : World), Rep w' 0 w'.heap.size (keyJ bX bZ) x → Below w.heap.size w w' → Calls Tryz.prog 38 #[x, .string { data := #[107, 101, 121, 105, 100] }, .agg #[.int .u8 1, .int .i64 0, .string { data := #[] }, .slice none 0 0, .slice none 0 0]] w' (fun e w'' => ∃ an cn ai ci, e = .returned (.tuple #[.agg #[.int .u8 5, .int .i64 0, .string { data := #[] }, .slice an 3 cn, .slice ai 3 ci], .int .i64 0]) ∧ Rep w'' 0 w''.heap.size moreJ (.agg #[.int .u8 5, .int .i64 0, .string { data := #[] }, .slice an 3 cn, .slice ai 3 ci]) ∧ Below w.heap.size w w'') from fun x w' hr h => by
    refine (valueWith (keyJ bX bZ) bKeyid boolJ x _ w' (by decide) (by decide) rfl rfl rfl rfl (by decide +kernel) (keyJ_flat _ _) hr (rep_leaf _ _ _ 1 0 b0)).mono ?_
    rintro e w'' ⟨r, f, x', an, cn, ai, ci, h1, h2, _, h4, _, hw, rfl, hr', hb⟩
    rw [weak_leaf hw rfl] at hr' ⊢
    have e1 := with_more h1 h2 h4
    have e2 : (withN (keyJ bX bZ) r f bKeyid).length = 3 := by have := congrArg (fun z => z.names.length) e1; exact this
    have e3 : (withI (keyJ bX bZ) r f boolJ).length = 3 := by have := congrArg (fun z => z.items.length) e1; exact this
    rw [e1, e2, e3] at hr'
    rw [e2, e3]
    exact ⟨an, cn, ai, ci, rfl, Rep.carry (Nat.zero_le _) (Nat.le_refl _) (fun _ _ _ => rfl) _ _ hr', h.trans (hb.mono h.size)⟩)
  have HW2 := Lib.hid (show ∀ (x : Value) (w' : World), Rep w' 0 w'.heap.size (keyJ bX bZZ) x → Below w.heap.size w w' → Calls Tryz.prog 38 #[x, .string { data := #[112, 117, 98, 108, 105, 99] }, .agg #[.int .u8 2, .int .i64 7, .string { data := #[] }, .slice none 0 0, .slice none 0 0]] w' (fun e w'' => ∃ an cn ai ci, e = .returned (.tuple #[.agg #[.int .u8 5, .int .i64 0, .string { data := #[] }, .slice an 2 cn, .slice ai 2 ci], .int .i64 0]) ∧ Rep w'' 0 w''.heap.size kindJ (.agg #[.int .u8 5, .int .i64 0, .string { data := #[] }, .slice an 2 cn, .slice ai 2 ci]) ∧ Below w.heap.size w w'') from fun x w' hr h => by
    refine (valueWith (keyJ bX bZZ) pubN numJ x _ w' (by decide) (by decide) rfl rfl rfl rfl (by decide +kernel) (keyJ_flat _ _) hr (rep_leaf _ _ _ 2 7 b0)).mono ?_
    rintro e w'' ⟨r, f, x', an, cn, ai, ci, _, h2, _, _, h5, hw, rfl, hr', hb⟩
    rw [weak_leaf hw rfl] at hr' ⊢
    have e1 := with_kind h2 h5
    have e2 : (withN (keyJ bX bZZ) r f pubN).length = 2 := by have := congrArg (fun z => z.names.length) e1; exact this
    have e3 : (withI (keyJ bX bZZ) r f numJ).length = 2 := by have := congrArg (fun z => z.items.length) e1; exact this
    rw [e1, e2, e3] at hr'
    rw [e2, e3]
    exact ⟨an, cn, ai, ci, rfl, Rep.carry (Nat.zero_le _) (Nat.le_refl _) (fun _ _ _ => rfl) _ _ hr', h.trans (hb.mono h.size)⟩)
  go_enter Tryz.func12, Tryz.ntmps12
  go_wp2_with fail
  refine (HAW.out _ (by first | exact HB0.out | exact below_now HB0.out | exact below_now (below_now HB0.out) | exact below_now (below_now (below_now HB0.out)))).mono ?_
  rintro e w1 ⟨rfl, hb⟩
  have HB1 := Lib.hid hb
  clear hb HB0 
  go_wp2_with fail
  refine (HG64.out _).mono ?_
  rintro e w' ⟨rfl, rfl⟩
  go_wp2_with fail
  refine (HMY.out bX d64 true _ (HF1.out) (by decide) (by first | decide | exact HD64.out | exact HD65.out) (by first | exact HB1.out | exact below_now HB1.out | exact below_now (below_now HB1.out) | exact below_now (below_now (below_now HB1.out)))).mono ?_
  rintro e w2 ⟨rfl, hb⟩
  have HB2 := Lib.hid hb
  clear hb HB1 
  go_wp2_with fail
  refine (HG65.out _).mono ?_
  rintro e w' ⟨rfl, rfl⟩
  go_wp2_with fail
  refine (HMY.out bX d65 false _ (HF2.out) (by decide) (by first | decide | exact HD64.out | exact HD65.out) (by first | exact HB2.out | exact below_now HB2.out | exact below_now (below_now HB2.out) | exact below_now (below_now (below_now HB2.out)))).mono ?_
  rintro e w3 ⟨rfl, hb⟩
  have HB3 := Lib.hid hb
  clear hb HB2 
  go_wp2_with fail
  refine (HMY.out bX b0 false _ (may_facts.2.2.1) (by decide) (by first | decide | exact HD64.out | exact HD65.out) (by first | exact HB3.out | exact below_now HB3.out | exact below_now (below_now HB3.out) | exact below_now (below_now (below_now HB3.out)))).mono ?_
  rintro e w4 ⟨rfl, hb⟩
  have HB4 := Lib.hid hb
  clear hb HB3 
  go_wp2_with fail
  refine (HMY.out bX bZF false _ (may_facts.2.2.2.1) (by decide) (by first | decide | exact HD64.out | exact HD65.out) (by first | exact HB4.out | exact below_now HB4.out | exact below_now (below_now HB4.out) | exact below_now (below_now (below_now HB4.out)))).mono ?_
  rintro e w5 ⟨rfl, hb⟩
  have HB5 := Lib.hid hb
  clear hb HB4 
  go_wp2_with fail
  refine (HMY.out bDX bZZ false _ (may_facts.2.2.2.2.1) (by decide) (by first | decide | exact HD64.out | exact HD65.out) (by first | exact HB5.out | exact below_now HB5.out | exact below_now (below_now HB5.out) | exact below_now (below_now (below_now HB5.out)))).mono ?_
  rintro e w6 ⟨rfl, hb⟩
  have HB6 := Lib.hid hb
  clear hb HB5 
  go_wp2_with fail
  refine (HMY.out b0 bZZ false _ (may_facts.2.2.2.2.2) (by decide) (by first | decide | exact HD64.out | exact HD65.out) (by first | exact HB6.out | exact below_now HB6.out | exact below_now (below_now HB6.out) | exact below_now (below_now (below_now HB6.out)))).mono ?_
  rintro e w7 ⟨rfl, hb⟩
  have HB7 := Lib.hid hb
  clear hb HB6 
  go_wp2_with fail
  refine (HID.out bX b0 _ may_facts.2.2.1 (by decide) (by decide) (by first | exact HB7.out | exact below_now HB7.out | exact below_now (below_now HB7.out) | exact below_now (below_now (below_now HB7.out)))).mono ?_
  rintro e w8 ⟨rfl, hb⟩
  have HB8 := Lib.hid hb
  clear hb HB7 
  go_wp2_with fail
  refine (HVL.out bX b0 _ may_facts.2.2.1 (by decide) (by decide) (by first | exact HB8.out | exact below_now HB8.out | exact below_now (below_now HB8.out) | exact below_now (below_now (below_now HB8.out)))).mono ?_
  rintro e w9 ⟨rfl, hb⟩
  have HB9 := Lib.hid hb
  clear hb HB8 
  go_wp2_with fail
  refine (HOF.out listJ _ _ 10 (of_facts.1) (by decide) (rep_leaf _ _ _ 4 0 b0) (by first | exact HB9.out | exact below_now HB9.out | exact below_now (below_now HB9.out) | exact below_now (below_now (below_now HB9.out)))).mono ?_
  rintro e w10 ⟨rfl, hb⟩
  have HB10 := Lib.hid hb
  clear hb HB9 
  go_wp2_with fail
  refine (HO0.out bX _ (by decide) (by decide) (by first | exact HB10.out | exact below_now HB10.out | exact below_now (below_now HB10.out) | exact below_now (below_now (below_now HB10.out)))).mono ?_
  rintro e w11 ⟨x, rfl, hr, hb⟩
  have HB11 := Lib.hid hb
  have HR := Lib.hid (hr)
  clear hb HB10 hr
  go_wp2_with fail
  refine (HOF.out (oneS bX) _ _ 6 (of_facts.2.1) (by decide) HR.out (by first | exact HB11.out | exact below_now HB11.out | exact below_now (below_now HB11.out) | exact below_now (below_now (below_now HB11.out)))).mono ?_
  rintro e w12 ⟨rfl, hb⟩
  have HB12 := Lib.hid hb
  clear hb HB11 
  clear HR
  go_wp2_with fail
  refine (HO2.out bZ bX _ (by decide) (by decide) (by decide) (by decide) (by first | exact HB12.out | exact below_now HB12.out | exact below_now (below_now HB12.out) | exact below_now (below_now (below_now HB12.out)))).mono ?_
  rintro e w13 ⟨x, rfl, hr, hb⟩
  have HB13 := Lib.hid hb
  have HR := Lib.hid (hr)
  clear hb HB12 hr
  go_wp2_with fail
  refine (HOF.out (keyJ bX bZ) _ _ 3 (of_facts.2.2.1) (by decide) HR.out (by first | exact HB13.out | exact below_now HB13.out | exact below_now (below_now HB13.out) | exact below_now (below_now (below_now HB13.out)))).mono ?_
  rintro e w14 ⟨rfl, hb⟩
  have HB14 := Lib.hid hb
  clear hb HB13 
  clear HR
  go_wp2_with fail
  refine (HO2.out bZ bX _ (by decide) (by decide) (by decide) (by decide) (by first | exact HB14.out | exact below_now HB14.out | exact below_now (below_now HB14.out) | exact below_now (below_now (below_now HB14.out)))).mono ?_
  rintro e w15 ⟨x, rfl, hr, hb⟩
  have HB15 := Lib.hid hb
  have HR := Lib.hid (hr)
  clear hb HB14 hr
  go_wp2_with fail
  refine (HW1.out _ _ HR.out (by first | exact HB15.out | exact below_now HB15.out | exact below_now (below_now HB15.out) | exact below_now (below_now (below_now HB15.out)))).mono ?_
  rintro e w16 ⟨an, cn, ai, ci, rfl, hr, hb⟩
  have HB16 := Lib.hid hb
  have HS := Lib.hid (hr)
  clear hb HB15 hr HR
  go_wp2_with fail
  refine (HOF.out moreJ _ _ 11 (of_facts.2.2.2.1) (by decide) (rep_now HS.out) (by first | exact HB16.out | exact below_now HB16.out | exact below_now (below_now HB16.out) | exact below_now (below_now (below_now HB16.out)))).mono ?_
  rintro e w17 ⟨rfl, hb⟩
  have HB17 := Lib.hid hb
  clear hb HB16 
  clear HS
  go_wp2_with fail
  refine (HO2.out bZZ bX _ (by decide) (by decide) (by decide) (by decide) (by first | exact HB17.out | exact below_now HB17.out | exact below_now (below_now HB17.out) | exact below_now (below_now (below_now HB17.out)))).mono ?_
  rintro e w18 ⟨x, rfl, hr, hb⟩
  have HB18 := Lib.hid hb
  have HR := Lib.hid (hr)
  clear hb HB17 hr
  go_wp2_with fail
  refine (HW2.out _ _ HR.out (by first | exact HB18.out | exact below_now HB18.out | exact below_now (below_now HB18.out) | exact below_now (below_now (below_now HB18.out)))).mono ?_
  rintro e w19 ⟨an, cn, ai, ci, rfl, hr, hb⟩
  have HB19 := Lib.hid hb
  have HS := Lib.hid (hr)
  clear hb HB18 hr HR
  go_wp2_with fail
  refine (HOF.out kindJ _ _ 10 (of_facts.2.2.2.2) (by decide) (rep_now HS.out) (by first | exact HB19.out | exact below_now HB19.out | exact below_now (below_now HB19.out) | exact below_now (below_now (below_now HB19.out)))).mono ?_
  rintro e w20 ⟨rfl, hb⟩
  have HB20 := Lib.hid hb
  clear hb HB19 
  clear HS
  go_wp2_with fail
  obtain ⟨W, hW⟩ : ∃ W, W = w20.alloc (.cells #[.string { data := #[] }, .string { data := #[] }] 23) := ⟨_, rfl⟩
  rw [← hW]
  have HBW0 := Lib.hid (show Below w.heap.size w W by rw [hW]; exact below_now HB20.out)
  have hwW : w.heap.size ≤ W.heap.size := HBW0.out.size
  clear hW HB20 HMY HID HVL HW1 HW2 HO0 HG64 HG65 HF1 HF2 HD64 HD65
  obtain ⟨i3, hi3, iz0, iz1, iz2⟩ := info_parts infoKey
  have HHE := Lib.hid (show ∀ (k : Nat) (X : World), k < 32 → Below w.heap.size w X → Calls Tryz.prog 42 #[.string ⟨([UInt8.ofNat k] : List UInt8).toArray⟩] X (fun e w'' => e = .returned (.string (keyI k).2) ∧ Below X.heap.size X w'') from fun k X hk h => by
    have ht := HT.out.below h
    refine (hexEncode ⟨([UInt8.ofNat k] : List UInt8).toArray⟩ X (by show 1 ≤ 1099511627776; decide) ht.digits ht.l3).mono ?_
    rintro e w'' ⟨rfl, hb⟩
    exact ⟨congrArg (fun z => Ending.returned (.string z)) (keyI_hex k hk), hb⟩)
  go_loopw [19, 20] (fun v i wr => ∃ k : Nat, k ≤ 32 ∧ i = .int .i64 k ∧ wr.ownsRow W.heap.size 23 2 v k ((keysN k).flatMap encK) ∧ Below W.heap.size W wr) (fun _ i _ => 32 - (intOf i).toNat)
  case atStart => exact ⟨0, by omega, rfl, World.ownsRow_nil _ _ _ _, Below.refl _ _⟩
  case round =>
    obtain ⟨k, hk, rfl, hown, hbk⟩ := hrel
    obtain ⟨am, cm, rfl, _⟩ := owns_keys hown (keysN_length k).symm
    rw [keysN_length] at hown ⊢
    have HO := Lib.hid hown
    have HBK := Lib.hid hbk
    have HBT := Lib.hid (HBW0.out.trans (hbk.mono hwW))
    have hzk : W.heap.size ≤ wr.heap.size := hbk.size
    clear hown hbk
    by_cases hlt : k < 32
    · have hlt2 : (k : Int) < 32 := by omega
      have m1 : IntKind.u8.wrap (k : Int) = (k : Int) := by unfold IntKind.wrap; simp [IntKind.signed, IntKind.bits]; omega
      have hlit : (wr.alloc (.cells #[.int .u8 k] 5)).ownsRow wr.heap.size 5 1 (.slice (some ⟨wr.heap.size, 0, none⟩) 1 1) 1 (Lib.byteCells [UInt8.ofNat k]) := by
        have := World.ownsRow_lit (base := wr.heap.size) (e := 5) (size := 1) wr #[.int .u8 k] 1 (Nat.le_refl _) (by unfold maxLen; omega) rfl
        have e : Lib.byteCells [UInt8.ofNat k] = [.int .u8 (k : Int)] := by
          have : ((UInt8.ofNat k).toNat : Int) = (k : Int) := by rw [UInt8.toNat_ofNat']; omega
          show [Value.int .u8 ((UInt8.ofNat k).toNat : Int)] = _
          rw [this]
        rw [e]
        exact this
      have hcv := run_convert_owned (P := Tryz.prog) 62 9 5 Tryz.underlying62 Tryz.underlying5 Tryz.underlying9 hlit
      have HE1 := Lib.hid (HHE.out k (wr.alloc (.cells #[.int .u8 k] 5)) hlt (below_now HBT.out))
      have HKS1 := Lib.hid (show (keysN k).flatMap encK ++ [.string bX, .string (keyI k).2] = (keysN (k + 1)).flatMap encK by rw [keysN_succ, List.flatMap_append]; rfl)
      obtain ⟨pk, hpk⟩ : ∃ pk, pk = (keyI k).2 := ⟨_, rfl⟩
      rw [← hpk] at HE1 HKS1
      clear hlit hpk
      go_wp2_with fail
      refine HE1.out.mono ?_
      clear HE1 hcv m1
      rintro e w2 ⟨rfl, hb2⟩
      have hz2 : wr.heap.size + 1 ≤ w2.heap.size := by have := hb2.size; simpa using this
      have hb22 : Below wr.heap.size wr w2 := ((Below.refl _ _).alloc (Nat.le_refl _) _).trans (hb2.mono (by simp))
      have HO2 := Lib.hid (owns_below HO.out hb22)
      have HB2 := Lib.hid (HBK.out.trans (hb22.mono hzk))
      clear hb2 hb22
      go_wp2_with (at_builtin; refine wpList_append_lies _ rfl (.tmp 151) (.tmp 158) 43 rfl W.heap.size 23 i3 _ 2 32 Tryz.underlying43 hi3 iz0 iz1 iz2 rfl (by decide) (.slice am k cm) k ((keysN k).flatMap encK) rfl (HO2.out.alloc _) ⟨w2.heap.size, 0, none⟩ 1 1 [.string bX, .string pk] rfl rfl (World.news_of_block (cs := #[.string bX, .string pk]) (t := 23) (fr := (0, 0)) (heap_alloc_new w2 _)) (by simp [Value.oneCell']) (by omega) (by unfold maxLen; omega) (by omega) (by simp; omega) (w2.heap.size + 1) (by simp) ?_; intro g1 cap2 w6 hown6 hgrow6 hat6 hlt6; have HO6 := Lib.hid hown6; have HG6 := Lib.hid hgrow6; clear hown6 hgrow6 hat6)
      go_roundw
      case rel =>
        refine ⟨k + 1, by omega, by go_num, by rw [← HKS1.out]; exact HO6.out, ?_⟩
        exact below_grown (HB2.out.alloc (by omega) _) (by simp; omega) HG6.out (fun b hb => (HO2.out.lt b hb).1)
      case measure => simp [intOf]; omega
    · have hlt2 : ¬ (k : Int) < 32 := by omega
      have HK32 := Lib.hid (show k = 32 by omega)
      clear HHE hk
      go_wp2_with fail
      obtain rfl : k = 32 := HK32.out
      obtain ⟨gl, rfl, hcl, hgl, hgw, _⟩ := owns_cell HO.out (by decide)
      have HKL := Lib.hid (show ∀ X, Below wr.heap.size wr X → KeysAt X 0 X.heap.size (some ⟨gl, 0, none⟩) (keysN 32) from fun X h => by
        obtain ⟨a, c, hv, hK⟩ := owns_keys HO.out (keysN_length 32).symm
        simp only [Value.slice.injEq] at hv
        obtain ⟨rfl, _, _⟩ := hv
        exact hK.below h (Nat.le_refl _) (Nat.zero_le _) h.size)
      have HTT := Lib.hid (show ∀ X, Below wr.heap.size wr X → Tabs X from fun X h => HT.out.below (HBT.out.trans (h.mono HBT.out.size)))
      have HB0 := Lib.hid (Below.refl wr.heap.size wr)
      refine (cTable32 _ _ _ (HKL.out _ HB0.out) (HTT.out _ HB0.out)).mono ?_
      rintro e w1 ⟨m, an, cn, ai, ci, hpm, hrm, rfl, hr, hb⟩
      have HPM := Lib.hid hpm
      have HRM := Lib.hid hrm
      have HRT := Lib.hid hr
      have HB1 := Lib.hid hb
      clear hpm hrm hr hb
      obtain ⟨W1, hW1⟩ : ∃ W1, W1 = w1.alloc (.cells #[.int .u8 5, .int .i64 0, .string { data := #[] }, .slice an 32 cn, .slice ai 32 ci] 29) := ⟨_, rfl⟩
      have HX1 := Lib.hid (show W1.heap[w1.heap.size]? = some (.cells #[.int .u8 5, .int .i64 0, .string { data := #[] }, .slice an 32 cn, .slice ai 32 ci] 29 (0, 0)) by rw [hW1]; exact heap_alloc_new w1 _)
      have HBW := Lib.hid (show Below wr.heap.size wr W1 by rw [hW1]; exact below_now HB1.out)
      have HRW := Lib.hid (show Rep W1 0 W1.heap.size (tabJ m) (.agg #[.int .u8 5, .int .i64 0, .string { data := #[] }, .slice an 32 cn, .slice ai 32 ci]) by rw [hW1]; exact rep_now HRT.out)
      obtain ⟨c0, c1, c2, c3, c4⟩ := kcells5 HX1.out (Below.refl _ _)
      have HKT := Lib.hid (cKeys (tabJ m) _ W1 m 32 0 (keys_tab HPM.out HRM.out).1 (keys_tab HPM.out HRM.out).2 (tab_wt HPM.out) HRW.out (HTT.out _ HBW.out))
      rw [hW1] at c0 c1 c2 c3 c4
      have HW1 := Lib.hid hW1
      have hp1 : wr.heap.size ≤ w1.heap.size := HB1.out.size
      clear hW1 HB1 HRT HRW
      go_wp2_with fail
      rw [← HW1.out]
      refine HKT.out.mono ?_
      clear HKT HW1 c0 c1 c2 c3 c4
      rintro e w2 ⟨ak, ck, rfl, hb⟩
      have HB2 := Lib.hid (HBW.out.trans (hb.mono HBW.out.size))
      have HX2 := Lib.hid (kept_blk hb HX1.out)
      generalize w1.heap.size = p1 at *
      clear hb HX1 HBW HPM HRM
      go_wp2_with fail
      refine (lawEx _).mono ?_
      rintro e w3 ⟨rfl, hb⟩
      have HB3 := Lib.hid (bstep (a := wr) (by first | exact HB2.out | exact below_now HB2.out | exact below_now (below_now HB2.out) | exact below_now (below_now (below_now HB2.out))) hb)
      have HX3 := Lib.hid (kept_blk hb HX2.out)
      clear hb HB2 HX2
      have HO3 := Lib.hid (owns_below HO.out HB3.out)
      have hz3 : wr.heap.size ≤ w3.heap.size := HB3.out.size
      have hzW : W.heap.size ≤ wr.heap.size := HBK.out.size
      go_wp2_with (at_builtin; refine wpList_append_keep _ rfl (.tmp 171) (.tmp 173) 43 rfl W.heap.size 23 i3 _ 2 32 Tryz.underlying43 hi3 iz0 iz1 iz2 rfl (by decide) gl 32 cm ((keysN 32).flatMap encK) rfl (HO3.out.alloc _) ⟨w3.heap.size, 0, none⟩ 1 1 [.string exK.1, .string exK.2] rfl rfl (World.news_of_block (cs := #[.string exK.1, .string exK.2]) (t := 23) (fr := (0, 0)) (heap_alloc_new w3 _)) (by simp [Value.oneCell']) (by unfold maxLen; omega) (by omega) (by simp; omega) ?_; intro a4 c4 w4 hown4 hold4 hgrow4; have HO4 := Lib.hid hown4; have HD4 := Lib.hid hold4; have HG4 := Lib.hid hgrow4; clear hown4 hold4 hgrow4)
      have HB4 := Lib.hid (show Below W.heap.size W w4 from ((HBK.out.trans (HB3.out.mono HBK.out.size)).alloc (by omega) _).grown HG4.out (by simp; omega) (fun b hb => by cases hb; exact hgw))
      have HBT4 := Lib.hid (HBW0.out.trans (HB4.out.mono hwW))
      have hz4 : w3.heap.size + 1 ≤ w4.heap.size := by have := HG4.out.size; simpa using this
      have HKL4 := Lib.hid (keys_cells (by omega) HD4.out)
      have HX4 := Lib.hid (show w4.heap[p1]? = some (.cells #[.int .u8 5, .int .i64 0, .string { data := #[] }, .slice an 32 cn, .slice ai 32 ci] 29 (0, 0)) by
        have hlt := heap_lt HX3.out
        rw [HG4.out.block p1 (by simp; omega) (fun e => by cases e; omega)]
        exact old_blk HX3.out)
      have HK33 := Lib.hid (show KeysAt w4 0 w4.heap.size a4 (keysN 32 ++ [exK]) from by
        obtain ⟨aa, cc, hv, hK⟩ := owns_keys (M := keysN 32 ++ [exK]) (by have := HO4.out; rwa [show (keysN 32).flatMap encK ++ [.string exK.1, .string exK.2] = (keysN 32 ++ [exK]).flatMap encK by rw [List.flatMap_append]; rfl] at this) (by rw [List.length_append, keysN_length]; rfl)
        simp only [Value.slice.injEq] at hv
        rw [hv.1]
        exact hK.carry (Nat.zero_le _) (Nat.le_refl _) (fun _ _ _ => rfl))
      have HXF := Lib.hid (show ∀ X, Below w4.heap.size w4 X → X.cell? ⟨p1, 3, none⟩ = some (.slice an 32 cn) from fun X h => box_cell (kept_blk h HX4.out) rfl)
      have HKLB := Lib.hid (show ∀ X, Below w4.heap.size w4 X → KeysAt X 0 X.heap.size (some ⟨gl, 0, none⟩) (keysN 32) from fun X h => HKL4.out.below h (Nat.le_refl _) (Nat.zero_le _) h.size)
      clear HTT HKL HB3 HX3 HO3 HB4 HKL4 HX4 HG4 HD4 HO4 HO HBK HBT HBW0 hz3 hz4 hzW hp1 hcl hgl hgw hwW hzk hlt hlt2
      have HTT := Lib.hid (show ∀ X, Below w4.heap.size w4 X → Tabs X from fun X h => HT.out.below (HBT4.out.trans (h.mono HBT4.out.size)))
      have HB4 := Lib.hid (Below.refl w4.heap.size w4)
      refine (cTableNo (keysN 32 ++ [exK]) 33 5 _ _ _ tab_facts.1 (by decide) (by rw [List.length_append, keysN_length]; rfl) (by decide) sizes33 HK33.out (HTT.out _ (by first | exact HB4.out | exact below_now HB4.out | exact below_now (below_now HB4.out) | exact below_now (below_now (below_now HB4.out))))).mono ?_
      rintro e w5 ⟨rfl, hb⟩
      have HB5 := Lib.hid (bstep (a := w4) (by first | exact HB4.out | exact below_now HB4.out | exact below_now (below_now HB4.out) | exact below_now (below_now (below_now HB4.out))) hb)
      clear hb HB4 
      go_wp2_with fail
      refine (lawEx _).mono ?_
      rintro e w6 ⟨rfl, hb⟩
      have HB6 := Lib.hid (bstep (a := w4) (by first | exact HB5.out | exact below_now HB5.out | exact below_now (below_now HB5.out) | exact below_now (below_now (below_now HB5.out))) hb)
      clear hb HB5 
      go_wp2_with fail
      refine (lawEx _).mono ?_
      rintro e w7 ⟨rfl, hb⟩
      have HB7 := Lib.hid (bstep (a := w4) (by first | exact HB6.out | exact below_now HB6.out | exact below_now (below_now HB6.out) | exact below_now (below_now (below_now HB6.out))) hb)
      clear hb HB6 
      go_wp2_with fail
      refine (cTableNo [exK, exK] 2 7 _ _ _ tab_facts.2.1 (by decide) rfl (by decide) sizes2 (keys_blk (heap_alloc_new _ _) rfl) (HTT.out _ (by first | exact HB7.out | exact below_now HB7.out | exact below_now (below_now HB7.out) | exact below_now (below_now (below_now HB7.out))))).mono ?_
      rintro e w8 ⟨rfl, hb⟩
      have HB8 := Lib.hid (bstep (a := w4) (by first | exact HB7.out | exact below_now HB7.out | exact below_now (below_now HB7.out) | exact below_now (below_now (below_now HB7.out))) hb)
      clear hb HB7 
      go_wp2_with fail
      refine (lawEx _).mono ?_
      rintro e w9 ⟨rfl, hb⟩
      have HB9 := Lib.hid (bstep (a := w4) (by first | exact HB8.out | exact below_now HB8.out | exact below_now (below_now HB8.out) | exact below_now (below_now (below_now HB8.out))) hb)
      clear hb HB8 
      go_wp2_with fail
      refine (lawEx _).mono ?_
      rintro e w10 ⟨rfl, hb⟩
      have HB10 := Lib.hid (bstep (a := w4) (by first | exact HB9.out | exact below_now HB9.out | exact below_now (below_now HB9.out) | exact below_now (below_now (below_now HB9.out))) hb)
      clear hb HB9 
      go_wp2_with fail
      refine (cTableNo [exK, (b0, b0), exK] 3 3 _ _ _ tab_facts.2.2 (by decide) rfl (by decide) sizes3 (keys_blk (heap_alloc_new _ _) rfl) (HTT.out _ (by first | exact HB10.out | exact below_now HB10.out | exact below_now (below_now HB10.out) | exact below_now (below_now (below_now HB10.out))))).mono ?_
      rintro e w11 ⟨rfl, hb⟩
      have HB11 := Lib.hid (bstep (a := w4) (by first | exact HB10.out | exact below_now HB10.out | exact below_now (below_now HB10.out) | exact below_now (below_now (below_now HB10.out))) hb)
      clear hb HB10 
      go_wp2_with fail
      refine (cKeys (.mk 5 0 b0 [] []) _ _ [] 0 0 keys_facts.1 rfl (by decide) (rep_leaf _ _ _ 5 0 b0) (HTT.out _ (by first | exact HB11.out | exact below_now HB11.out | exact below_now (below_now HB11.out) | exact below_now (below_now (below_now HB11.out))))).mono ?_
      rintro e w12 ⟨a24, c24, rfl, hb⟩
      have HB12 := Lib.hid (bstep (a := w4) (by first | exact HB11.out | exact below_now HB11.out | exact below_now (below_now HB11.out) | exact below_now (below_now (below_now HB11.out))) hb)
      clear hb HB11 
      go_wp2_with fail
      refine (cKeys listJ _ _ [] 0 10 keys_facts.2.1 rfl (by decide) (rep_leaf _ _ _ 4 0 b0) (HTT.out _ (by first | exact HB12.out | exact below_now HB12.out | exact below_now (below_now HB12.out) | exact below_now (below_now (below_now HB12.out))))).mono ?_
      rintro e w13 ⟨a25, c25, rfl, hb⟩
      have HB13 := Lib.hid (bstep (a := w4) (by first | exact HB12.out | exact below_now HB12.out | exact below_now (below_now HB12.out) | exact below_now (below_now (below_now HB12.out))) hb)
      clear hb HB12 
      go_wp2_with fail
      refine (cObj2 bZZ bX _ (by decide) (by decide) (by decide) (by decide)).mono ?_
      rintro e w14 ⟨bn, dn, bi, di, rfl, hr, hb⟩
      have HB14 := Lib.hid (bstep (a := w4) (by first | exact HB13.out | exact below_now HB13.out | exact below_now (below_now HB13.out) | exact below_now (below_now (below_now HB13.out))) hb)
      have HR := Lib.hid hr
      have HA := Lib.hid (kept_blk hb (heap_alloc_new w13 _))
      clear hb HB13 hr
      go_wp2_with fail
      refine (cKeys (tabOne bA bX bZZ) _ _ [] 0 3 keys_facts.2.2.1 rfl (by decide) (rep_one' (old_blk HA.out) (heap_alloc_new _ _) (rep_now HR.out)) (HTT.out _ (by first | exact HB14.out | exact below_now HB14.out | exact below_now (below_now HB14.out) | exact below_now (below_now (below_now HB14.out))))).mono ?_
      rintro e w15 ⟨a26, c26, rfl, hb⟩
      have HB15 := Lib.hid (bstep (a := w4) (by first | exact HB14.out | exact below_now HB14.out | exact below_now (below_now HB14.out) | exact below_now (below_now (below_now HB14.out))) hb)
      clear hb HB14 HR HA
      go_wp2_with fail
      refine (cObj1 bZZ _ (by decide) (by decide)).mono ?_
      rintro e w16 ⟨bn, dn, bi, di, rfl, hr, hb⟩
      have HB16 := Lib.hid (bstep (a := w4) (by first | exact HB15.out | exact below_now HB15.out | exact below_now (below_now HB15.out) | exact below_now (below_now (below_now HB15.out))) hb)
      have HR := Lib.hid hr
      have HA := Lib.hid (kept_blk hb (heap_alloc_new w15 _))
      clear hb HB15 hr
      go_wp2_with fail
      refine (cKeys (.mk 5 0 b0 [bA] [oneJ bZZ]) _ _ [] 0 6 keys_facts.2.2.2.1 rfl (by decide) (rep_one' (old_blk HA.out) (heap_alloc_new _ _) (rep_now HR.out)) (HTT.out _ (by first | exact HB16.out | exact below_now HB16.out | exact below_now (below_now HB16.out) | exact below_now (below_now (below_now HB16.out))))).mono ?_
      rintro e w17 ⟨a27, c27, rfl, hb⟩
      have HB17 := Lib.hid (bstep (a := w4) (by first | exact HB16.out | exact below_now HB16.out | exact below_now (below_now HB16.out) | exact below_now (below_now (below_now HB16.out))) hb)
      clear hb HB16 HR HA
      go_wp2_with fail
      refine (cKeys (.mk 5 0 b0 [bB, bA] [zeroJ, zeroJ]) _ _ [] 0 3 keys_facts.2.2.2.2 rfl (by decide) (rep_zero2 (heap_old _ _ _) (heap_two _ _ _)) (HTT.out _ (by first | exact HB17.out | exact below_now HB17.out | exact below_now (below_now HB17.out) | exact below_now (below_now (below_now HB17.out))))).mono ?_
      rintro e w18 ⟨a28, c28, rfl, hb⟩
      have HB18 := Lib.hid (bstep (a := w4) (by first | exact HB17.out | exact below_now HB17.out | exact below_now (below_now HB17.out) | exact below_now (below_now (below_now HB17.out))) hb)
      clear hb HB17 
      go_wp2_with fail
      refine (cFind _ _ _ (HKLB.out _ (by first | exact HB18.out | exact below_now HB18.out | exact below_now (below_now HB18.out) | exact below_now (below_now (below_now HB18.out)))) (HTT.out _ (by first | exact HB18.out | exact below_now HB18.out | exact below_now (below_now HB18.out) | exact below_now (below_now (below_now HB18.out))))).mono ?_
      rintro e w19 ⟨rfl, hb⟩
      have HB19 := Lib.hid (bstep (a := w4) (by first | exact HB18.out | exact below_now HB18.out | exact below_now (below_now HB18.out) | exact below_now (below_now (below_now HB18.out))) hb)
      clear hb HB18 
      have q3 := HXF.out (w19.alloc (.cells #[.string { data := #[] }, .string { data := #[] }] 23)) (below_now HB19.out)
      go_wp2
      go_ret
      exact ⟨rfl, HBT4.out.trans ((below_now HB19.out).mono HBT4.out.size)⟩

end Go.Proofs.YtcahpjejpimdhaaGreatDoor
