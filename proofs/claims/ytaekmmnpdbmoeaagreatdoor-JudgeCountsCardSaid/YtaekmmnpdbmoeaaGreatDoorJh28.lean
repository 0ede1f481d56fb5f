/- The contracts of sign.May and sign.Signed. The contracts of (*judge.Verifier).has, judge.Count and judge.Enough. The contract of judge.Count. The contract of judge.Enough. An envelope and an authority in blocks of their own, whose rows are built by a call (JudgeRows). No program in sight. An index out of any int: 'int(uint(n) % uint(m))'. No program in sight. Plain: keys of HMAC by their digits (JudgeEnough). No program in sight. Three rows that a call builds: an envelope's signatures, an authority's IDs, keys (JudgeEnough). No program in sight. -/
import Derived.Test.YtaekmmnpdbmoeaaGreatDoorJh27
import Derived.Test.YtaekmmnpdbmoeaaGreatDoorJh16
import Derived.Test.YtaekmmnpdbmoeaaGreatDoorJh10
import Derived.Test.YtaekmmnpdbmoeaaGreatDoorJh13
import Derived.Test.YtaekmmnpdbmoeaaGreatDoorJh24
import Derived.Test.YtaekmmnpdbmoeaaGreatDoorJh23
import Derived.Test.YtaekmmnpdbmoeaaGreatDoorJh07
import Derived.Test.YtaekmmnpdbmoeaaGreatDoorJh17

namespace Go.Proofs.YtaekmmnpdbmoeaaGreatDoor
open Go.RowKit

theorem sig_small {s : Sig2} (h : sigOk s = true) : s.1.size ≤ 1000000 ∧ s.2.size ≤ 1000000 := by
  unfold sigOk hex64 at h
  simp only [Bool.and_eq_true, decide_eq_true_eq] at h
  obtain ⟨_, _, h3⟩ := pub_plain h.2
  rw [toList_length] at h3
  exact ⟨by omega, by omega⟩
theorem sigs_small {l : List Sig2} (h : l.all sigOk = true) : ∀ s ∈ l, s.1.size ≤ 1000000 ∧ s.2.size ≤ 1000000 := fun s hs => sig_small (List.all_eq_true.1 h s hs)
theorem env_small {v : JV} {l : List Sig2} (h : envOk v l = true) : ∀ s ∈ l, s.1.size ≤ 1000000 ∧ s.2.size ≤ 1000000 := fun s hs => sig_small (((envOk_iff v l).1 h).2.2.1 s hs)
theorem sigs_wt : ∀ (l : List Sig2), (∀ s ∈ l, s.1.size ≤ 1000000 ∧ s.2.size ≤ 1000000) → JV.wts (l.map sigJ) ≤ 2000100 * l.length
  | [], _ => by simp [JV.wts]
  | s :: r, h => by
    have h1 := h s (by simp)
    have h2 := sigs_wt r fun x hx => h x (by simp [hx])
    have e : (sigJ s).wt = 13 + s.1.size + s.2.size := by
      unfold sigJ txtJ
      simp only [JV.wt, JV.wts, bytesSum]
      have e1 : nKeyid.size = 5 := rfl
      have e2 : nSig.size = 3 := rfl
      have e3 : (⟨#[]⟩ : ByteArray).size = 0 := rfl
      rw [e1, e2, e3]; omega
    simp only [List.map_cons, JV.wts, List.length_cons, e]
    omega
theorem env_wt {v : JV} {l : List Sig2} (hv : v.wt ≤ 1000000000) (hl : l.length ≤ 32) (hs : ∀ s ∈ l, s.1.size ≤ 1000000 ∧ s.2.size ≤ 1000000) : (envJ v l).wt ≤ 4294967296 := by
  have h := sigs_wt l hs
  unfold envJ sigsJ
  simp only [JV.wt, JV.wts, bytesSum]
  have e1 : nSigs.size = 10 := rfl
  have e2 : nSigned.size = 6 := rfl
  have e3 : (⟨#[]⟩ : ByteArray).size = 0 := rfl
  rw [e1, e2, e3]; omega
theorem envOk_long {v : JV} {l : List Sig2} (h : ¬ (l.length ≤ 32 ∧ v.kind = 5)) : envOk v l = false := by unfold envOk; rw [decide_eq_false h]; rfl
theorem envOk_bad {v : JV} {l : List Sig2} (k : Nat) (h : k < l.length) (hb : sigOk l[k] = false) : envOk v l = false := by
  have : l.all sigOk = false := by rw [List.all_eq_false]; exact ⟨l[k], List.getElem_mem h, by simp [hb]⟩
  unfold envOk; rw [this]; simp
theorem envOk_all {v : JV} {l : List Sig2} (h : l.length ≤ 32 ∧ v.kind = 5) (ha : l.all sigOk = true) : envOk v l = (envJ v l).mayB := by
  unfold envOk; rw [decide_eq_true h, ha]; rfl
theorem all_takeS {l : List Sig2} {k : Nat} (h : k < l.length) (ha : (l.take k).all sigOk = true) (hp : sigOk l[k] = true) : (l.take (k + 1)).all sigOk = true := by
  rw [List.take_succ_eq_append_getElem h, List.all_append, ha]; simp [hp]

/-- The value of an envelope. -/
def envV (v : JV) (an ai : Option Addr) (cn ci : Nat) (sa : Option Addr) (n c : Nat) : Value := .agg #[.int .u8 v.kind, .int .i64 v.n, .string v.t, .slice an v.names.length cn, .slice ai v.items.length ci, .slice sa n c]
/-- An envelope in memory. -/
structure EnvAt (w : World) (v : JV) (l : List Sig2) (an ai sa : Option Addr) (cn ci : Nat) : Prop where
  rep : Rep w 0 w.heap.size v (.agg #[.int .u8 v.kind, .int .i64 v.n, .string v.t, .slice an v.names.length cn, .slice ai v.items.length ci])
  keys : KeysAt w 0 w.heap.size sa l
  wt : v.wt ≤ 1000000000
  sizes : ∀ s ∈ l, s.1.size ≤ 9223372036854775807 ∧ s.2.size ≤ 9223372036854775807
  len : l.length ≤ 9223372036854775807
theorem EnvAt.below {w w' : World} {v : JV} {l : List Sig2} {an ai sa : Option Addr} {cn ci : Nat} (h : EnvAt w v l an ai sa cn ci) (hb : Below w.heap.size w w') : EnvAt w' v l an ai sa cn ci :=
  ⟨h.rep.below hb (Nat.le_refl _) (Nat.le_refl _) hb.size, h.keys.below hb (Nat.le_refl _) (Nat.le_refl _) hb.size, h.wt, h.sizes, h.len⟩

set_option maxHeartbeats 1000000 in
set_option maxRecDepth 100000 in
theorem signMay (v : JV) (l : List Sig2) (an ai sa : Option Addr) (cn ci c : Nat) (w : World) (hE : EnvAt w v l an ai sa cn ci) :
    Calls Tryz.prog 33 #[envV v an ai cn ci sa l.length c] w fun e w' => e = .returned (.bool (envOk v l)) ∧ Below w.heap.size w w' := by
  have hlen := hE.len
  have HE := Lib.hid hE
  clear hE
  unfold envV
  obtain ⟨W, hW⟩ : ∃ W, W = w.alloc (.cells #[.int .u8 v.kind, .int .i64 v.n, .string v.t, .slice an v.names.length cn, .slice ai v.items.length ci, .slice sa l.length c] 47) := ⟨_, rfl⟩
  have HBW := Lib.hid (show Below w.heap.size w W by rw [hW]; exact (Below.refl _ _).alloc (Nat.le_refl _) _)
  have HX0 := Lib.hid (show W.heap[w.heap.size]? = some (.cells #[.int .u8 v.kind, .int .i64 v.n, .string v.t, .slice an v.names.length cn, .slice ai v.items.length ci, .slice sa l.length c] 47 (0, 0)) by rw [hW]; exact heap_alloc_new w _)
  have HW := Lib.hid hW
  clear hW
  by_cases h32 : l.length ≤ 32
  · have d1 : decide (32 < (l.length : Int)) = false := decide_eq_false (by omega)
    by_cases hk : v.kind = 5
    · have d2 : (v.kind != 5) = false := by simp [hk]
      have HK := Lib.hid hk
      clear hk
      go_enter Tryz.func33, Tryz.ntmps33
      go_wp2_with fail
      rw [← HW.out]
      go_loopw [4, 18] (fun _ i wr => ∃ k : Nat, k ≤ l.length ∧ i = .int .i64 k ∧ (l.take k).all sigOk = true ∧ Below W.heap.size W wr) (fun _ i _ => l.length - (intOf i).toNat)
      case atStart => exact ⟨0, by omega, rfl, rfl, Below.refl _ _⟩
      case round =>
        obtain ⟨k, hk, rfl, hall, hbel⟩ := hrel
        have HAL := Lib.hid hall
        have HB := Lib.hid (HBW.out.trans (hbel.mono HBW.out.size))
        have hx := hbel.block _ (heap_lt HX0.out)
        rw [HX0.out] at hx
        have HX := Lib.hid hx
        have HBB := Lib.hid hbel
        clear hall hbel
        by_cases hlt : k < l.length
        · obtain ⟨b, off, ha, _, hb, e0, e1⟩ := (HE.out.keys.below HB.out (Nat.le_refl _) (Nat.le_refl _) HB.out.size).at k hlt
          subst ha
          obtain ⟨z0, z1⟩ := HE.out.sizes l[k] (List.getElem_mem hlt)
          have HBAD := Lib.hid (envOk_bad (v := v) k hlt)
          have HALN := Lib.hid (all_takeS hlt HAL.out)
          obtain ⟨x, hxl⟩ : ∃ x, x = l[k] := ⟨_, rfl⟩
          rw [← hxl] at e0 e1 z0 z1 HBAD HALN
          clear hxl hx
          obtain ⟨xi, xg⟩ := x
          have e0 : wr.cell? ⟨b, off + k * 2, none⟩ = some (.string xi) := e0
          have e1 : wr.cell? ⟨b, off + k * 2 + 1, none⟩ = some (.string xg) := e1
          have z0 : xi.size ≤ 9223372036854775807 := z0
          have z1 : xg.size ≤ 9223372036854775807 := z1
          have HMS := Lib.hid (maySig xi xg (wr.alloc (.cells #[.string xi, .string xg] 26)) z0 z1)
          obtain ⟨q, hq⟩ : ∃ q, q = sigOk (xi, xg) := ⟨_, rfl⟩
          rw [← hq] at HBAD HALN HMS
          clear hq
          go_wp2_with fail
          refine HMS.out.mono ?_
          rintro e w1 ⟨rfl, hb1⟩
          have HB1 := Lib.hid ((HBB.out.alloc HBB.out.size _).trans (hb1.mono (by have := HBB.out.size; simp; omega)))
          clear hb1 e0 e1 HMS
          cases q
          · go_wp2
            go_ret
            exact ⟨ret_bool (HBAD.out (by first | trivial | rfl)).symm, HBW.out.trans (HB1.out.mono HBW.out.size)⟩
          · go_wp2
            go_roundw
            case rel => exact ⟨k + 1, by omega, by go_num, HALN.out (by first | trivial | rfl), HB1.out⟩
            case measure => simp [intOf]; omega
        · have HAL2 := Lib.hid (show l.all sigOk = true by have := HAL.out; rwa [List.take_of_length_le (by omega)] at this)
          have HEN := Lib.hid (HE.out.below HB.out)
          have HOB := Lib.hid (signObject v l an ai sa cn ci c wr HEN.out.rep HEN.out.keys (by omega))
          have b0 : wr.cell? ⟨w.heap.size, 0, none⟩ = some (.int .u8 v.kind) := box_cell hx rfl
          have b1 : wr.cell? ⟨w.heap.size, 1, none⟩ = some (.int .i64 v.n) := box_cell hx rfl
          have b2 : wr.cell? ⟨w.heap.size, 2, none⟩ = some (.string v.t) := box_cell hx rfl
          have b3 : wr.cell? ⟨w.heap.size, 3, none⟩ = some (.slice an v.names.length cn) := box_cell hx rfl
          have b4 : wr.cell? ⟨w.heap.size, 4, none⟩ = some (.slice ai v.items.length ci) := box_cell hx rfl
          have b5 : wr.cell? ⟨w.heap.size, 5, none⟩ = some (.slice sa l.length c) := box_cell hx rfl
          clear hx
          go_wp2_with fail
          refine HOB.out.mono ?_
          rintro e w1 ⟨an', ai', rfl, hr1, hb1⟩
          have HB1 := Lib.hid (HB.out.trans (hb1.mono HB.out.size))
          have HMV := Lib.hid (valueMay (envJ v l) _ w1 (env_wt HE.out.wt h32 (sigs_small HAL2.out)) hr1)
          have HF := Lib.hid (envOk_all ⟨h32, HK.out⟩ HAL2.out)
          clear hb1 hr1 b0 b1 b2 b3 b4 b5
          go_wp2_with fail
          refine HMV.out.mono ?_
          rintro e w2 ⟨rfl, hb2⟩
          have HB2 := Lib.hid (HB1.out.trans (hb2.mono HB1.out.size))
          clear hb2
          go_wp2
          go_ret
          exact ⟨ret_bool HF.out.symm, HB2.out⟩
    · have d2 : (v.kind != 5) = true := by simp [hk]
      have HF := Lib.hid (envOk_long (v := v) (l := l) (fun h => hk h.2))
      clear hk
      go_enter Tryz.func33, Tryz.ntmps33
      go_wp2
      go_ret
      exact ⟨ret_bool HF.out.symm, by rw [← HW.out]; exact HBW.out⟩
  · have d1 : decide (32 < (l.length : Int)) = true := decide_eq_true (by omega)
    have HF := Lib.hid (envOk_long (v := v) (l := l) (fun h => h32 h.1))
    go_enter Tryz.func33, Tryz.ntmps33
    go_wp2
    go_ret
    exact ⟨ret_bool HF.out.symm, by rw [← HW.out]; exact HBW.out⟩

def signS (v : JV) (l : List Sig2) : List UInt8 := if envOk v l then v.enc else []
def signE (v : JV) (l : List Sig2) : Int := if envOk v l then 0 else 3

set_option maxHeartbeats 1000000 in
set_option maxRecDepth 100000 in
theorem signSigned (v : JV) (l : List Sig2) (an ai sa : Option Addr) (cn ci c : Nat) (w : World) (hE : EnvAt w v l an ai sa cn ci) (hn : v.num) (hP : Pow10 w) :
    Calls Tryz.prog 29 #[envV v an ai cn ci sa l.length c] w fun e w' => e = .returned (.tuple #[.string ⟨(signS v l).toArray⟩, .int .i64 (signE v l)]) ∧ Below w.heap.size w w' := by
  have HE := Lib.hid hE
  have HP := Lib.hid hP
  have HN := Lib.hid hn
  clear hE hP hn
  obtain ⟨W, hW⟩ : ∃ W, W = w.alloc (.cells #[.int .u8 v.kind, .int .i64 v.n, .string v.t, .slice an v.names.length cn, .slice ai v.items.length ci, .slice sa l.length c] 47) := ⟨_, rfl⟩
  have HBW := Lib.hid (show Below w.heap.size w W by rw [hW]; exact (Below.refl _ _).alloc (Nat.le_refl _) _)
  have HX0 := Lib.hid (show W.heap[w.heap.size]? = some (.cells #[.int .u8 v.kind, .int .i64 v.n, .string v.t, .slice an v.names.length cn, .slice ai v.items.length ci, .slice sa l.length c] 47 (0, 0)) by rw [hW]; exact heap_alloc_new w _)
  have HW := Lib.hid hW
  have HM := Lib.hid (signMay v l an ai sa cn ci c W (HE.out.below HBW.out))
  clear hW
  unfold envV at HM ⊢
  unfold signS signE
  obtain ⟨ok, hok⟩ : ∃ ok, ok = envOk v l := ⟨_, rfl⟩
  rw [← hok] at HM ⊢
  have HOK := Lib.hid hok
  clear hok
  cases ok
  · go_enter Tryz.func29, Tryz.ntmps29
    go_wp2_with fail
    rw [← HW.out]
    refine HM.out.mono ?_
    rintro e w1 ⟨rfl, hb1⟩
    have HB1 := Lib.hid (HBW.out.trans (hb1.mono HBW.out.size))
    clear hb1
    go_wp2
    go_ret2
    exact ⟨rfl, HB1.out⟩
  · have HMB := Lib.hid (envOk_may HOK.out.symm)
    go_enter Tryz.func29, Tryz.ntmps29
    go_wp2_with fail
    rw [← HW.out]
    refine HM.out.mono ?_
    rintro e w1 ⟨rfl, hb1⟩
    have HB1 := Lib.hid (HBW.out.trans (hb1.mono HBW.out.size))
    have hx := hb1.block _ (heap_lt HX0.out)
    rw [HX0.out] at hx
    have b0 : w1.cell? ⟨w.heap.size, 0, none⟩ = some (.int .u8 v.kind) := box_cell hx rfl
    have b1 : w1.cell? ⟨w.heap.size, 1, none⟩ = some (.int .i64 v.n) := box_cell hx rfl
    have b2 : w1.cell? ⟨w.heap.size, 2, none⟩ = some (.string v.t) := box_cell hx rfl
    have b3 : w1.cell? ⟨w.heap.size, 3, none⟩ = some (.slice an v.names.length cn) := box_cell hx rfl
    have b4 : w1.cell? ⟨w.heap.size, 4, none⟩ = some (.slice ai v.items.length ci) := box_cell hx rfl
    have HC := Lib.hid (canonEncode true v _ w1 (by have := HE.out.wt; omega) (HE.out.below HB1.out).rep (fun h => JV.form_of_may v _ _ HN.out h) (fun _ => showAt (HP.out.below HB1.out)))
    unfold CanonPost at HC
    rw [HMB.out, if_pos rfl, if_pos rfl] at HC
    clear hb1 hx
    go_wp2_with fail
    refine HC.out.mono ?_
    rintro e w2 ⟨rfl, hb2⟩
    have HB2 := Lib.hid (HB1.out.trans (hb2.mono HB1.out.size))
    clear hb2
    go_wp2
    go_ret2
    exact ⟨rfl, HB2.out⟩

end Go.Proofs.YtaekmmnpdbmoeaaGreatDoor

namespace Go.Proofs.YtaekmmnpdbmoeaaGreatDoor
open Go.RowKit

theorem hasV_take {v : Ver} {k : Key2} {id : ByteArray} {l : List Sig2} {m : List UInt8} (j : Nat) (h : j < l.length) (ha : hasV v k id (l.take j) m = false) : hasV v k id (l.take (j + 1)) m = (decide (l[j].1 = id) && v.good k l[j] m) := by
  unfold hasV at ha ⊢
  rw [List.take_succ_eq_append_getElem h, List.any_append, ha]; simp
theorem hasV_true {v : Ver} {k : Key2} {id : ByteArray} {l : List Sig2} {m : List UInt8} (j : Nat) (h : j < l.length) (h1 : l[j].1 = id) (h2 : v.good k l[j] m = true) : hasV v k id l m = true := by
  unfold hasV
  rw [List.any_eq_true]
  exact ⟨l[j], List.getElem_mem h, by rw [h2]; simp [h1]⟩

set_option maxHeartbeats 1000000 in
set_option maxRecDepth 100000 in
theorem judgeHas (v : Ver) (x : Value) (k : Key2) (id m : ByteArray) (l : List Sig2) (sa : Option Addr) (c : Nat) (w : World) (hV : VerIs w x v) (h1 : k.1.size ≤ 300) (h2 : k.2.size ≤ 300) (hs : ∀ s ∈ l, s.1.size ≤ 1000000 ∧ s.2.size ≤ 1000000) (hl : l.length ≤ 9223372036854775807) (hm : m.size ≤ 1099511620000) (hK : KeysAt w 0 w.heap.size sa l) (hT : Tabs w) :
    Calls Tryz.prog 49 #[x, .agg #[.string k.1, .string k.2], .string id, .slice sa l.length c, .string m] w fun e w' => e = .returned (.bool (hasV v k id l m.data.toList)) ∧ Below w.heap.size w w' := by
  have HT := Lib.hid hT
  have HV := Lib.hid hV
  have HK := Lib.hid hK
  have HS := Lib.hid hs
  have HG := Lib.hid (fun (s : Sig2) (w : World) (hV : VerIs w x v) (h3 : s.2.size ≤ 1000000) (hT : Tabs w) => judgeGood v x k s m w hV h1 h2 h3 hm hT)
  clear hT hV hK hs
  obtain ⟨W, hW⟩ : ∃ W, W = w.alloc (.cells #[.string k.1, .string k.2] 24) := ⟨_, rfl⟩
  have HBW := Lib.hid (show Below w.heap.size w W by rw [hW]; exact (Below.refl _ _).alloc (Nat.le_refl _) _)
  have HX0 := Lib.hid (show W.heap[w.heap.size]? = some (.cells #[.string k.1, .string k.2] 24 (0, 0)) by rw [hW]; exact heap_alloc_new w _)
  have HW := Lib.hid hW
  clear hW
  go_enter Tryz.func49, Tryz.ntmps49
  go_wp2_with fail
  rw [← HW.out]
  go_loopw [12, 15] (fun _ i wr => ∃ j : Nat, j ≤ l.length ∧ i = .int .i64 j ∧ hasV v k id (l.take j) m.data.toList = false ∧ Below W.heap.size W wr) (fun _ i _ => l.length - (intOf i).toNat)
  case atStart => exact ⟨0, by omega, rfl, rfl, Below.refl _ _⟩
  case round =>
    obtain ⟨j, hj, rfl, hno, hbel⟩ := hrel
    have HNO := Lib.hid hno
    have HB := Lib.hid (HBW.out.trans (hbel.mono HBW.out.size))
    have HBB := Lib.hid hbel
    clear hno
    by_cases hlt : j < l.length
    · obtain ⟨b, off, ha, _, hb, e0, e1⟩ := (HK.out.below HB.out (Nat.le_refl _) (Nat.le_refl _) HB.out.size).at j hlt
      subst ha
      obtain ⟨z0, z1⟩ := HS.out l[j] (List.getElem_mem hlt)
      have HTK := Lib.hid (hasV_take (v := v) (k := k) (id := id) (m := m.data.toList) j hlt HNO.out)
      have HTR := Lib.hid (hasV_true (v := v) (k := k) (id := id) (m := m.data.toList) j hlt)
      obtain ⟨y, hy⟩ : ∃ y, y = l[j] := ⟨_, rfl⟩
      rw [← hy] at e0 e1 z0 z1 HTK HTR
      clear hy
      have HGW := Lib.hid (HG.out y (wr.alloc (.cells #[.string y.1, .string y.2] 26)) ((HV.out.below HB.out).below ((Below.refl _ _).alloc (Nat.le_refl _) _)) z1 ((HT.out.below HB.out).below ((Below.refl _ _).alloc (Nat.le_refl _) _)))
      obtain ⟨yi, yg⟩ := y
      have e0 : wr.cell? ⟨b, off + j * 2, none⟩ = some (.string yi) := e0
      have e1 : wr.cell? ⟨b, off + j * 2 + 1, none⟩ = some (.string yg) := e1
      have hx := hbel.block _ (heap_lt HX0.out)
      rw [HX0.out] at hx
      have k0 : wr.cell? ⟨w.heap.size, 0, none⟩ = some (.string k.1) := box_cell hx rfl
      have k1 : wr.cell? ⟨w.heap.size, 1, none⟩ = some (.string k.2) := box_cell hx rfl
      have hwz : w.heap.size < wr.heap.size := heap_lt hx
      clear hx hbel
      by_cases hid : yi = id
      · have hd : (yi.toList == id.toList) = true := by rw [hid]; exact beq_self_eq_true _
        have HD := Lib.hid hid
        clear hid
        obtain ⟨g, hg⟩ : ∃ g, g = v.good k (yi, yg) m.data.toList := ⟨_, rfl⟩
        rw [← hg] at HTK HTR HGW
        clear hg
        go_wp2_with fail
        refine HGW.out.mono ?_
        rintro e w1 ⟨rfl, hb1⟩
        have HB1 := Lib.hid ((HBB.out.alloc HBB.out.size _).trans (hb1.mono (by have := HBB.out.size; simp; omega)))
        clear hb1 e0 e1 k0 k1 HGW
        cases g
        · go_wp2
          go_roundw
          case rel => exact ⟨j + 1, by omega, by go_num, by rw [HTK.out, Bool.and_false], HB1.out⟩
          case measure => simp [intOf]; omega
        · go_wp2
          go_ret
          exact ⟨ret_bool (HTR.out HD.out (by first | trivial | rfl)).symm, HBW.out.trans (HB1.out.mono HBW.out.size)⟩
      · have hd : (yi.toList == id.toList) = false := by rw [beq_eq_false_iff_ne]; exact fun e => hid (ba_ext e)
        have HD := Lib.hid hid
        clear hid HGW
        go_wp2
        go_roundw
        case rel => exact ⟨j + 1, by omega, by go_num, by rw [HTK.out, decide_eq_false HD.out, Bool.false_and], HBB.out.alloc HBB.out.size _⟩
        case measure => simp [intOf]; omega
    · have HF := Lib.hid (show hasV v k id l m.data.toList = false by have := HNO.out; rwa [List.take_of_length_le (by omega)] at this)
      clear hbel
      go_wp2
      go_ret
      exact ⟨ret_bool HF.out.symm, HB.out⟩

end Go.Proofs.YtaekmmnpdbmoeaaGreatDoor

namespace Go.Proofs.YtaekmmnpdbmoeaaGreatDoor
open Go.RowKit

/-- What an authority's counting needs: the authority, the keys in memory. -/
structure AuthAt (w : World) (ids : List ByteArray) (ia : Option Addr) : Prop where
  strs : StrsAt w 0 w.heap.size ia ids
  sizes : ∀ s ∈ ids, s.size ≤ 1000000
  len : ids.length ≤ 9223372036854775807
theorem AuthAt.below {w w' : World} {ids : List ByteArray} {ia : Option Addr} (h : AuthAt w ids ia) (hb : Below w.heap.size w w') : AuthAt w' ids ia := ⟨h.strs.below hb (Nat.le_refl _) (Nat.le_refl _) hb.size, h.sizes, h.len⟩
structure KeyRow (w : World) (l : List Key2) (ka : Option Addr) : Prop where
  at_ : KeysAt w 0 w.heap.size ka l
  len : l.length ≤ 4000
  sizes : ∀ k ∈ l, k.1.size ≤ 300 ∧ k.2.size ≤ 300
theorem KeyRow.below {w w' : World} {l : List Key2} {ka : Option Addr} (h : KeyRow w l ka) (hb : Below w.heap.size w w') : KeyRow w' l ka := ⟨h.at_.below hb (Nat.le_refl _) (Nat.le_refl _) hb.size, h.len, h.sizes⟩
theorem KeyRow.find {w : World} {l : List Key2} {ka : Option Addr} (h : KeyRow w l ka) (id : ByteArray) : (findK id l).1.1.size ≤ 300 ∧ (findK id l).1.2.size ≤ 300 := by
  have hs := h.sizes
  clear h
  induction l with
  | nil => exact ⟨Nat.zero_le _, Nat.zero_le _⟩
  | cons k r ih =>
    rw [findK]
    split
    · exact hs k (by simp)
    · exact ih fun x hx => hs x (by simp [hx])
theorem filter_takeI {p : ByteArray → Bool} {l : List ByteArray} (j : Nat) (h : j < l.length) : ((l.take (j + 1)).filter p).length = ((l.take j).filter p).length + (if p l[j] = true then 1 else 0) := by
  rw [List.take_succ_eq_append_getElem h, List.filter_append, List.length_append]
  cases hp : p l[j] <;> simp [hp]

set_option maxHeartbeats 2000000 in
set_option maxRecDepth 100000 in
theorem judgeCount (v : Ver) (x : Value) (u : JV) (l : List Sig2) (an ai sa : Option Addr) (cn ci sc : Nat) (t : Int) (ids : List ByteArray) (ia : Option Addr) (ic : Nat) (keys : List Key2) (ka : Option Addr) (kc : Nat) (w : World)
    (hV : VerIs w x v) (hE : EnvAt w u l an ai sa cn ci) (hA : AuthAt w ids ia) (hK : KeyRow w keys ka) (hn : u.num) (hP : Pow10 w) (hT : Tabs w) :
    Calls Tryz.prog 21 #[x, envV u an ai cn ci sa l.length sc, .agg #[.int .i64 t, .slice ia ids.length ic], .slice ka keys.length kc] w fun e w' => e = .returned (.int .i64 (countV v u l t ids keys)) ∧ Below w.heap.size w w' := by
  have hlen := hA.len
  have HV := Lib.hid hV
  have HE := Lib.hid hE
  have HA := Lib.hid hA
  have HK := Lib.hid hK
  have HP := Lib.hid hP
  have HT := Lib.hid hT
  have HN := Lib.hid hn
  clear hV hE hA hK hP hT hn
  obtain ⟨W, hW⟩ : ∃ W, W = (w.alloc (.cells #[.int .u8 u.kind, .int .i64 u.n, .string u.t, .slice an u.names.length cn, .slice ai u.items.length ci, .slice sa l.length sc] 47)).alloc (.cells #[.int .i64 t, .slice ia ids.length ic] 49) := ⟨_, rfl⟩
  have HBW := Lib.hid (show Below w.heap.size w W by rw [hW]; exact below_n2 w _ _)
  have hx0 : W.heap[w.heap.size]? = some (.cells #[.int .u8 u.kind, .int .i64 u.n, .string u.t, .slice an u.names.length cn, .slice ai u.items.length ci, .slice sa l.length sc] 47 (0, 0)) := by
    rw [hW, Below.heap_alloc _ _ _ (by simp)]; exact heap_alloc_new w _
  have hx1 : W.heap[w.heap.size + 1]? = some (.cells #[.int .i64 t, .slice ia ids.length ic] 49 (0, 0)) := by
    rw [hW]
    have := heap_alloc_new (w.alloc (.cells #[.int .u8 u.kind, .int .i64 u.n, .string u.t, .slice an u.names.length cn, .slice ai u.items.length ci, .slice sa l.length sc] 47)) (.cells #[.int .i64 t, .slice ia ids.length ic] 49)
    simpa using this
  have HX0 := Lib.hid hx0
  have HX1 := Lib.hid hx1
  have HW := Lib.hid hW
  have HMA := Lib.hid (authMay t ids ia ic W (HA.out.below HBW.out).strs HA.out.sizes)
  have HSG := Lib.hid (fun (w1 : World) (hb : Below w.heap.size w w1) => signSigned u l an ai sa cn ci sc w1 (HE.out.below hb) HN.out (HP.out.below hb))
  obtain ⟨ok, hok⟩ : ∃ ok, ok = authOk t ids := ⟨_, rfl⟩
  obtain ⟨ek, hek⟩ : ∃ ek, ek = envOk u l := ⟨_, rfl⟩
  have HCV := Lib.hid (show countV v u l t ids keys = if ok = true ∧ ek = true then (ids.filter (idV v keys l u.enc)).length else 0 by unfold countV; rw [hok, hek])
  unfold signS signE at HSG
  rw [← hok] at HMA
  rw [← hek] at HSG
  have HEK := Lib.hid hek
  clear hx0 hx1 hW hok hek
  unfold envV at HSG ⊢
  cases ok
  · go_enter Tryz.func21, Tryz.ntmps21
    go_wp2_with fail
    rw [← HW.out]
    refine HMA.out.mono ?_
    rintro e w1 ⟨rfl, hb1⟩
    have HB1 := Lib.hid (HBW.out.trans (hb1.mono HBW.out.size))
    clear hb1
    go_wp2
    go_ret
    exact ⟨ret_int (by rw [HCV.out]; simp), HB1.out⟩
  obtain ⟨M, hM⟩ : ∃ M : ByteArray, M = ⟨(if ek = true then u.enc else []).toArray⟩ := ⟨_, rfl⟩
  rw [← hM] at HSG
  have HMM := Lib.hid hM
  clear hM
  go_enter Tryz.func21, Tryz.ntmps21
  go_wp2_with fail
  rw [← HW.out]
  refine HMA.out.mono ?_
  clear HMA
  rintro e w1 ⟨rfl, hb1⟩
  have HB1 := Lib.hid (HBW.out.trans (hb1.mono HBW.out.size))
  have hx0 : w1.heap[w.heap.size]? = some (.cells #[.int .u8 u.kind, .int .i64 u.n, .string u.t, .slice an u.names.length cn, .slice ai u.items.length ci, .slice sa l.length sc] 47 (0, 0)) := by rw [hb1.block _ (heap_lt HX0.out)]; exact HX0.out
  have hx1 : w1.heap[w.heap.size + 1]? = some (.cells #[.int .i64 t, .slice ia ids.length ic] 49 (0, 0)) := by rw [hb1.block _ (heap_lt HX1.out)]; exact HX1.out
  have HY0 := Lib.hid hx0
  have HY1 := Lib.hid hx1
  have b0 : w1.cell? ⟨w.heap.size, 0, none⟩ = some (.int .u8 u.kind) := box_cell hx0 rfl
  have b1 : w1.cell? ⟨w.heap.size, 1, none⟩ = some (.int .i64 u.n) := box_cell hx0 rfl
  have b2 : w1.cell? ⟨w.heap.size, 2, none⟩ = some (.string u.t) := box_cell hx0 rfl
  have b3 : w1.cell? ⟨w.heap.size, 3, none⟩ = some (.slice an u.names.length cn) := box_cell hx0 rfl
  have b4 : w1.cell? ⟨w.heap.size, 4, none⟩ = some (.slice ai u.items.length ci) := box_cell hx0 rfl
  have b5 : w1.cell? ⟨w.heap.size, 5, none⟩ = some (.slice sa l.length sc) := box_cell hx0 rfl
  clear hb1 hx0 hx1
  go_wp2_with fail
  refine (HSG.out w1 HB1.out).mono ?_
  clear HSG b0 b1 b2 b3 b4 b5
  rintro e w2 ⟨rfl, hb2⟩
  have HB2 := Lib.hid (HB1.out.trans (hb2.mono HB1.out.size))
  have hx0 : w2.heap[w.heap.size]? = some (.cells #[.int .u8 u.kind, .int .i64 u.n, .string u.t, .slice an u.names.length cn, .slice ai u.items.length ci, .slice sa l.length sc] 47 (0, 0)) := by rw [hb2.block _ (heap_lt HY0.out)]; exact HY0.out
  have hx1 : w2.heap[w.heap.size + 1]? = some (.cells #[.int .i64 t, .slice ia ids.length ic] 49 (0, 0)) := by rw [hb2.block _ (heap_lt HY1.out)]; exact HY1.out
  have HZ0 := Lib.hid hx0
  have a1 : w2.cell? ⟨w.heap.size + 1, 1, none⟩ = some (.slice ia ids.length ic) := box_cell hx1 rfl
  clear hb2 hx0 hx1 HY0 HY1
  cases ek
  · rw [if_neg (by simp)]
    go_wp2
    go_ret
    exact ⟨ret_int (by rw [HCV.out]; simp), HB2.out⟩
  have HML := Lib.hid (show M.data.toList = u.enc by rw [HMM.out]; simp)
  have HMZ := Lib.hid (show M.size ≤ 1099511620000 by
    have h := toList_length M
    rw [HML.out] at h
    have h2 := JV.enc_length u (JV.form_of_may u _ _ HN.out (envOk_may HEK.out.symm))
    have h3 := HE.out.wt
    omega)
  have HCN := Lib.hid (show countV v u l t ids keys = (ids.filter (idV v keys l M.data.toList)).length by rw [HCV.out, HML.out]; simp)
  clear HCV
  rw [if_pos rfl]
  go_wp2_with fail
  go_loopw [11, 13, 14, 15, 29] (fun n _ _ _ i wr => ∃ j : Nat, j ≤ ids.length ∧ i = .int .i64 j ∧ n = .int .i64 (((ids.take j).filter (idV v keys l M.data.toList)).length : Nat) ∧ Below w2.heap.size w2 wr) (fun _ _ _ _ i _ => ids.length - (intOf i).toNat)
  case atStart => exact ⟨0, by omega, rfl, rfl, Below.refl _ _⟩
  case round =>
    obtain ⟨j, hj, rfl, rfl, hbel⟩ := hrel
    have HBB := Lib.hid hbel
    have HB := Lib.hid (HB2.out.trans (hbel.mono HB2.out.size))
    have hnl : ((ids.take j).filter (idV v keys l M.data.toList)).length ≤ j := Nat.le_trans (List.length_filter_le _ _) (by rw [List.length_take]; omega)
    obtain ⟨cnt, hcnt⟩ : ∃ cnt, cnt = ((ids.take j).filter (idV v keys l M.data.toList)).length := ⟨_, rfl⟩
    rw [← hcnt] at hnl ⊢
    have HCT := Lib.hid hcnt
    clear hcnt
    by_cases hlt : j < ids.length
    · obtain ⟨b, off, ha, _, hb, e0⟩ := (HA.out.below HB.out).strs.at j hlt
      subst ha
      have HTK := Lib.hid (filter_takeI (p := idV v keys l M.data.toList) j hlt)
      obtain ⟨y, hy⟩ : ∃ y, y = ids[j] := ⟨_, rfl⟩
      rw [← hy, ← HCT.out] at HTK
      rw [← hy] at e0
      clear hy
      have HKR := Lib.hid (HK.out.below HB.out)
      obtain ⟨q1, q2⟩ := HKR.out.find y
      have HF := Lib.hid (keyFind keys y ka kc wr HKR.out.at_ HKR.out.len HKR.out.sizes (HT.out.below HB.out))
      unfold KFindPost at HF
      have HID := Lib.hid (show idV v keys l M.data.toList y = ((findK y keys).2 && hasV v (findK y keys).1 y l M.data.toList) from rfl)
      have HHS := Lib.hid (fun (w : World) (hV : VerIs w x v) (hK : KeysAt w 0 w.heap.size sa l) (hT : Tabs w) => judgeHas v x (findK y keys).1 y M l sa sc w hV q1 q2 (env_small HEK.out.symm) HE.out.len HMZ.out hK hT)
      generalize hfk : findK y keys = fk at *
      obtain ⟨⟨ks, kp⟩, fb⟩ := fk
      have HFK := Lib.hid hfk
      have hwz : w.heap.size < wr.heap.size := by have := heap_lt HZ0.out; have := hbel.size; omega
      clear hfk hbel q1 q2
      go_wp2_with fail
      refine HF.out.mono ?_
      clear HF e0
      rintro e w3 ⟨rfl, hb3⟩
      have HB3 := Lib.hid (HBB.out.trans (hb3.mono HBB.out.size))
      have hx3 : w3.heap[w.heap.size]? = some (.cells #[.int .u8 u.kind, .int .i64 u.n, .string u.t, .slice an u.names.length cn, .slice ai u.items.length ci, .slice sa l.length sc] 47 (0, 0)) := by rw [HB3.out.block _ (heap_lt HZ0.out)]; exact HZ0.out
      have b5 : w3.cell? ⟨w.heap.size, 5, none⟩ = some (.slice sa l.length sc) := box_cell hx3 rfl
      have hw3 : w.heap.size < w3.heap.size := heap_lt hx3
      clear hb3 hx3
      cases fb
      · go_wp2
        go_roundw
        case rel => exact ⟨j + 1, by omega, by go_num, by rw [HTK.out, HID.out]; simp, HB3.out.alloc HB3.out.size _⟩
        case measure => simp [intOf]; omega
      · have HB4 := Lib.hid (HB2.out.trans ((HB3.out.alloc HB3.out.size (.cells #[.string ks, .string kp] 24)).mono HB2.out.size))
        have HHW := Lib.hid (HHS.out (w3.alloc (.cells #[.string ks, .string kp] 24)) (HV.out.below HB4.out) ((HE.out.below HB4.out).keys) (HT.out.below HB4.out))
        obtain ⟨g, hg⟩ : ∃ g, g = hasV v (ks, kp) y l M.data.toList := ⟨_, rfl⟩
        have HHW : Hid (Calls Tryz.prog 49 #[x, .agg #[.string ks, .string kp], .string y, .slice sa l.length sc, .string M] (w3.alloc (.cells #[.string ks, .string kp] 24)) fun e w' => e = .returned (.bool g) ∧ Below (w3.alloc (.cells #[.string ks, .string kp] 24)).heap.size (w3.alloc (.cells #[.string ks, .string kp] 24)) w') := by rw [hg]; exact HHW
        have HID2 := Lib.hid (show idV v keys l M.data.toList y = g by rw [HID.out, hg]; rfl)
        clear hg HHS
        go_wp2_with fail
        refine HHW.out.mono ?_
        clear HHW b5
        rintro e w4 ⟨rfl, hb4⟩
        have HB5 := Lib.hid ((HB3.out.alloc HB3.out.size _).trans (hb4.mono (by have := HB3.out.size; simp; omega)))
        clear hb4
        cases g
        · go_wp2
          go_roundw
          case rel => exact ⟨j + 1, by omega, by go_num, by rw [HTK.out, HID2.out]; simp, HB5.out⟩
          case measure => simp [intOf]; omega
        · go_wp2
          go_roundw
          case rel => exact ⟨j + 1, by omega, by go_num, by rw [HTK.out, HID2.out]; simp, HB5.out⟩
          case measure => simp [intOf]; omega
    · have HF := Lib.hid (show (cnt : Int) = (countV v u l t ids keys : Nat) by rw [HCT.out, HCN.out, List.take_of_length_le (by omega)])
      clear hbel
      go_wp2
      go_ret
      exact ⟨ret_int HF.out, HB.out⟩

end Go.Proofs.YtaekmmnpdbmoeaaGreatDoor

namespace Go.Proofs.YtaekmmnpdbmoeaaGreatDoor
open Go.RowKit

set_option maxHeartbeats 2000000 in
set_option maxRecDepth 100000 in
theorem judgeEnough (v : Ver) (x : Value) (u : JV) (l : List Sig2) (an ai sa : Option Addr) (cn ci sc : Nat) (t : Int) (ids : List ByteArray) (ia : Option Addr) (ic : Nat) (keys : List Key2) (ka : Option Addr) (kc : Nat) (w : World)
    (hV : VerIs w x v) (hE : EnvAt w u l an ai sa cn ci) (hA : AuthAt w ids ia) (hK : KeyRow w keys ka) (hn : u.num) (hP : Pow10 w) (hT : Tabs w) :
    Calls Tryz.prog 23 #[x, envV u an ai cn ci sa l.length sc, .agg #[.int .i64 t, .slice ia ids.length ic], .slice ka keys.length kc] w fun e w' => e = .returned (.bool (enoughV v u l t ids keys)) ∧ Below w.heap.size w w' := by
  have hlen := hA.len
  obtain ⟨W, hW⟩ : ∃ W, W = (w.alloc (.cells #[.int .u8 u.kind, .int .i64 u.n, .string u.t, .slice an u.names.length cn, .slice ai u.items.length ci, .slice sa l.length sc] 47)).alloc (.cells #[.int .i64 t, .slice ia ids.length ic] 49) := ⟨_, rfl⟩
  have HBW := Lib.hid (show Below w.heap.size w W by rw [hW]; exact below_n2 w _ _)
  have hx0 : W.heap[w.heap.size]? = some (.cells #[.int .u8 u.kind, .int .i64 u.n, .string u.t, .slice an u.names.length cn, .slice ai u.items.length ci, .slice sa l.length sc] 47 (0, 0)) := by
    rw [hW, Below.heap_alloc _ _ _ (by simp)]; exact heap_alloc_new w _
  have hx1 : W.heap[w.heap.size + 1]? = some (.cells #[.int .i64 t, .slice ia ids.length ic] 49 (0, 0)) := by
    rw [hW]
    have := heap_alloc_new (w.alloc (.cells #[.int .u8 u.kind, .int .i64 u.n, .string u.t, .slice an u.names.length cn, .slice ai u.items.length ci, .slice sa l.length sc] 47)) (.cells #[.int .i64 t, .slice ia ids.length ic] 49)
    simpa using this
  have HW := Lib.hid hW
  have HMA := Lib.hid (show ∀ w' : World, Below W.heap.size W w' → Calls Tryz.prog 32 #[.agg #[.int .i64 t, .slice ia ids.length ic]] w' (fun e w'' => e = .returned (.bool (authOk t ids)) ∧ Below w'.heap.size w' w'') from fun w' h => by
    have hb := HBW.out.trans (h.mono HBW.out.size)
    refine (authMay t ids ia ic w' (hA.below hb).strs hA.sizes).mono ?_
    rintro e w'' ⟨rfl, hb2⟩
    exact ⟨rfl, hb2⟩)
  have HCO := Lib.hid (show ∀ w' : World, Below W.heap.size W w' → Calls Tryz.prog 21 #[x, .agg #[.int .u8 u.kind, .int .i64 u.n, .string u.t, .slice an u.names.length cn, .slice ai u.items.length ci, .slice sa l.length sc], .agg #[.int .i64 t, .slice ia ids.length ic], .slice ka keys.length kc] w' (fun e w'' => e = .returned (.int .i64 (countV v u l t ids keys)) ∧ Below w'.heap.size w' w'') from fun w' h => by
    have hb := HBW.out.trans (h.mono HBW.out.size)
    refine (judgeCount v x u l an ai sa cn ci sc t ids ia ic keys ka kc w' (hV.below hb) (hE.below hb) (hA.below hb) (hK.below hb) hn (hP.below hb) (hT.below hb)).mono ?_
    rintro e w'' ⟨rfl, hb2⟩
    exact ⟨rfl, hb2⟩)
  have HS := Lib.hid (show ∀ w' : World, Below W.heap.size W w' → w'.cell? ⟨w.heap.size, 0, none⟩ = some (.int .u8 u.kind) ∧ w'.cell? ⟨w.heap.size, 1, none⟩ = some (.int .i64 u.n) ∧ w'.cell? ⟨w.heap.size, 2, none⟩ = some (.string u.t) ∧ w'.cell? ⟨w.heap.size, 3, none⟩ = some (.slice an u.names.length cn) ∧ w'.cell? ⟨w.heap.size, 4, none⟩ = some (.slice ai u.items.length ci) ∧ w'.cell? ⟨w.heap.size, 5, none⟩ = some (.slice sa l.length sc) ∧ w'.cell? ⟨w.heap.size + 1, 0, none⟩ = some (.int .i64 t) ∧ w'.cell? ⟨w.heap.size + 1, 1, none⟩ = some (.slice ia ids.length ic) from fun w' h => by
    have y0 := (h.block _ (heap_lt hx0)).trans hx0
    have y1 := (h.block _ (heap_lt hx1)).trans hx1
    exact ⟨box_cell y0 rfl, box_cell y0 rfl, box_cell y0 rfl, box_cell y0 rfl, box_cell y0 rfl, box_cell y0 rfl, box_cell y1 rfl, box_cell y1 rfl⟩)
  obtain ⟨ok, hok⟩ : ∃ ok, ok = authOk t ids := ⟨_, rfl⟩
  obtain ⟨n, hnn⟩ : ∃ n : Nat, n = countV v u l t ids keys := ⟨_, rfl⟩
  have HEN := Lib.hid (show enoughV v u l t ids keys = (ok && decide (t ≤ n)) by unfold enoughV; rw [hok, hnn])
  rw [← hok] at HMA
  rw [← hnn] at HCO
  unfold envV
  clear hx0 hx1 hW hok hnn hV hE hA hK hn hP hT
  cases ok
  · go_enter Tryz.func23, Tryz.ntmps23
    go_wp2_with fail
    rw [← HW.out]
    obtain ⟨V, hV⟩ : ∃ V : List MP, V = [.con (.agg #[.int .i64 t, .slice ia ids.length ic]), .con (.bool false), .con (.bool false), .any, .any, .any, .any, .any, .any, .any, .any, .con (.bool false)] := ⟨_, rfl⟩
    have HV := Lib.hid hV
    clear hV
    refine wp_region_inv 12 (fun d a' w' => ∃ x9 x10 x11 x12 x13 x14 x15 x16 x17 x18 x19 x20, a' = ⟨#[x, .agg #[.int .u8 u.kind, .int .i64 u.n, .string u.t, .slice an u.names.length cn, .slice ai u.items.length ci, .slice sa l.length sc], .agg #[.int .i64 t, .slice ia ids.length ic], .slice ka keys.length kc, undef, .pointer (some ⟨w.heap.size, 0, none⟩), .pointer (some ⟨w.heap.size + 1, 0, none⟩), undef, .bool false, x9, x10, x11, x12, x13, x14, x15, x16, x17, x18, x19, x20], []⟩ ∧ RegI W V d w' [x9, x10, x11, x12, x13, x14, x15, x16, x17, x18, x19, x20]) (by kernel_rfl) (by kernel_rfl) ?first ?step ?last
    case first => exact ⟨_, _, _, _, _, _, _, _, _, _, _, _, rfl, RegI.first _ _ _ (by rw [HV.out]; rfl)⟩
    case step =>
      rintro d a' w' ⟨x9, x10, x11, x12, x13, x14, x15, x16, x17, x18, x19, x20, rfl, h⟩ q hq hn hw
      rcases q with _ | _ | _ | _ | _ | _ | _ | _ | _ | _ | _ | _ | q
      · obtain ⟨q0, q1, q2, q3, q4, q5, q6, q7⟩ := HS.out w' h.1
        refine wpOp_step rfl fun K hK => ?_
        go_simp
        exact hK _ _ ⟨_, x10, x11, x12, x13, x14, x15, x16, x17, x18, x19, x20, rfl, h.same 0 _ (.con (.agg #[.int .i64 t, .slice ia ids.length ic])) (by rw [HV.out]; rfl) rfl⟩
      · obtain rfl : x9 = .agg #[.int .i64 t, .slice ia ids.length ic] := h.get 0 (hw _ rfl ⟨0, .data⟩ (by simp) rfl) (.con (.agg #[.int .i64 t, .slice ia ids.length ic])) (by rw [HV.out]; rfl) _ rfl
        obtain ⟨q0, q1, q2, q3, q4, q5, q6, q7⟩ := HS.out w' h.1
        refine wpOp_step rfl fun K hK => ?_
        go_simp
        refine (HMA.out w' h.1).mono ?_
        rintro e w2 ⟨rfl, hb2⟩
        exact hK _ _ ⟨_, _, x11, x12, x13, x14, x15, x16, x17, x18, x19, x20, rfl, h.did hb2 1 _ (.con (.bool false)) (by rw [HV.out]; rfl) rfl⟩
      · obtain rfl : x10 = .bool false := h.get 1 (hw _ rfl ⟨1, .data⟩ (by simp) rfl) (.con (.bool false)) (by rw [HV.out]; rfl) _ rfl
        refine wpOp_step rfl fun K hK => ?_
        go_simp
        exact hK _ _ ⟨x9, _, _, x12, x13, x14, x15, x16, x17, x18, x19, x20, rfl, h.same 2 _ (.con (.bool false)) (by rw [HV.out]; rfl) rfl⟩
      · obtain rfl : x11 = .bool false := h.get 2 (hw _ rfl ⟨2, .guard⟩ (by simp) rfl) (.con (.bool false)) (by rw [HV.out]; rfl) _ rfl
        refine wpOp_step rfl fun K hK => ?_
        go_simp
        exact hK _ _ ⟨x9, x10, _, _, x13, x14, x15, x16, x17, x18, x19, x20, rfl, h.same 3 _ .any (by rw [HV.out]; rfl) trivial⟩
      · obtain rfl : x11 = .bool false := h.get 2 (hw _ rfl ⟨2, .guard⟩ (by simp) rfl) (.con (.bool false)) (by rw [HV.out]; rfl) _ rfl
        refine wpOp_step rfl fun K hK => ?_
        go_simp
        exact hK _ _ ⟨x9, x10, _, x12, _, x14, x15, x16, x17, x18, x19, x20, rfl, h.same 4 _ .any (by rw [HV.out]; rfl) trivial⟩
      · obtain rfl : x11 = .bool false := h.get 2 (hw _ rfl ⟨2, .guard⟩ (by simp) rfl) (.con (.bool false)) (by rw [HV.out]; rfl) _ rfl
        refine wpOp_step rfl fun K hK => ?_
        go_simp
        exact hK _ _ ⟨x9, x10, _, x12, x13, _, x15, x16, x17, x18, x19, x20, rfl, h.same 5 _ .any (by rw [HV.out]; rfl) trivial⟩
      · obtain rfl : x11 = .bool false := h.get 2 (hw _ rfl ⟨2, .guard⟩ (by simp) rfl) (.con (.bool false)) (by rw [HV.out]; rfl) _ rfl
        refine wpOp_step rfl fun K hK => ?_
        go_simp
        exact hK _ _ ⟨x9, x10, _, x12, x13, x14, _, x16, x17, x18, x19, x20, rfl, h.same 6 _ .any (by rw [HV.out]; rfl) trivial⟩
      · obtain rfl : x11 = .bool false := h.get 2 (hw _ rfl ⟨2, .chain⟩ (by simp) rfl) (.con (.bool false)) (by rw [HV.out]; rfl) _ rfl
        refine wpOp_step rfl fun K hK => ?_
        go_simp
        exact hK _ _ ⟨x9, x10, _, x12, x13, x14, x15, _, x17, x18, x19, x20, rfl, h.same 7 _ .any (by rw [HV.out]; rfl) trivial⟩
      · obtain rfl : x11 = .bool false := h.get 2 (hw _ rfl ⟨2, .guard⟩ (by simp) rfl) (.con (.bool false)) (by rw [HV.out]; rfl) _ rfl
        refine wpOp_step rfl fun K hK => ?_
        go_simp
        exact hK _ _ ⟨x9, x10, _, x12, x13, x14, x15, x16, _, x18, x19, x20, rfl, h.same 8 _ .any (by rw [HV.out]; rfl) trivial⟩
      · obtain rfl : x11 = .bool false := h.get 2 (hw _ rfl ⟨2, .guard⟩ (by simp) rfl) (.con (.bool false)) (by rw [HV.out]; rfl) _ rfl
        refine wpOp_step rfl fun K hK => ?_
        go_simp
        exact hK _ _ ⟨x9, x10, _, x12, x13, x14, x15, x16, x17, _, x19, x20, rfl, h.same 9 _ .any (by rw [HV.out]; rfl) trivial⟩
      · obtain rfl : x11 = .bool false := h.get 2 (hw _ rfl ⟨2, .guard⟩ (by simp) rfl) (.con (.bool false)) (by rw [HV.out]; rfl) _ rfl
        refine wpOp_step rfl fun K hK => ?_
        go_simp
        exact hK _ _ ⟨x9, x10, _, x12, x13, x14, x15, x16, x17, x18, _, x20, rfl, h.same 10 _ .any (by rw [HV.out]; rfl) trivial⟩
      · obtain rfl : x11 = .bool false := h.get 2 (hw _ rfl ⟨2, .data⟩ (by simp) rfl) (.con (.bool false)) (by rw [HV.out]; rfl) _ rfl
        refine wpOp_step rfl fun K hK => ?_
        go_simp
        exact hK _ _ ⟨x9, x10, _, x12, x13, x14, x15, x16, x17, x18, x19, _, rfl, h.same 11 _ (.con (.bool false)) (by rw [HV.out]; rfl) rfl⟩
      · omega
    case last =>
      rintro d a' w' hall ⟨x9, x10, x11, x12, x13, x14, x15, x16, x17, x18, x19, x20, rfl, h⟩
      have hle := h.1
      obtain rfl : x20 = .bool false := h.get 11 (hall _ (by omega)) (.con (.bool false)) (by rw [HV.out]; rfl) _ rfl
      have HLE := Lib.hid hle
      clear h hall hle HV
      go_wp2
      go_ret
      exact ⟨ret_bool (by rw [HEN.out]; rfl), HBW.out.trans (HLE.out.mono HBW.out.size)⟩
  · go_enter Tryz.func23, Tryz.ntmps23
    go_wp2_with fail
    rw [← HW.out]
    obtain ⟨V, hV⟩ : ∃ V : List MP, V = [.con (.agg #[.int .i64 t, .slice ia ids.length ic]), .con (.bool true), .con (.bool true), .con (x), .con (.agg #[.int .u8 u.kind, .int .i64 u.n, .string u.t, .slice an u.names.length cn, .slice ai u.items.length ci, .slice sa l.length sc]), .con (.agg #[.int .i64 t, .slice ia ids.length ic]), .con (.slice ka keys.length kc), .con (.int .i64 (n : Int)), .con (.pointer (some ⟨w.heap.size + 1, 0, none⟩)), .con (.int .i64 t), .con (.bool (decide (t ≤ (n : Int)))), .con (.bool (decide (t ≤ (n : Int))))] := ⟨_, rfl⟩
    have HV := Lib.hid hV
    clear hV
    refine wp_region_inv 12 (fun d a' w' => ∃ x9 x10 x11 x12 x13 x14 x15 x16 x17 x18 x19 x20, a' = ⟨#[x, .agg #[.int .u8 u.kind, .int .i64 u.n, .string u.t, .slice an u.names.length cn, .slice ai u.items.length ci, .slice sa l.length sc], .agg #[.int .i64 t, .slice ia ids.length ic], .slice ka keys.length kc, undef, .pointer (some ⟨w.heap.size, 0, none⟩), .pointer (some ⟨w.heap.size + 1, 0, none⟩), undef, .bool false, x9, x10, x11, x12, x13, x14, x15, x16, x17, x18, x19, x20], []⟩ ∧ RegI W V d w' [x9, x10, x11, x12, x13, x14, x15, x16, x17, x18, x19, x20]) (by kernel_rfl) (by kernel_rfl) ?first ?step ?last
    case first => exact ⟨_, _, _, _, _, _, _, _, _, _, _, _, rfl, RegI.first _ _ _ (by rw [HV.out]; rfl)⟩
    case step =>
      rintro d a' w' ⟨x9, x10, x11, x12, x13, x14, x15, x16, x17, x18, x19, x20, rfl, h⟩ q hq hn hw
      rcases q with _ | _ | _ | _ | _ | _ | _ | _ | _ | _ | _ | _ | q
      · obtain ⟨q0, q1, q2, q3, q4, q5, q6, q7⟩ := HS.out w' h.1
        refine wpOp_step rfl fun K hK => ?_
        go_simp
        exact hK _ _ ⟨_, x10, x11, x12, x13, x14, x15, x16, x17, x18, x19, x20, rfl, h.same 0 _ (.con (.agg #[.int .i64 t, .slice ia ids.length ic])) (by rw [HV.out]; rfl) rfl⟩
      · obtain rfl : x9 = .agg #[.int .i64 t, .slice ia ids.length ic] := h.get 0 (hw _ rfl ⟨0, .data⟩ (by simp) rfl) (.con (.agg #[.int .i64 t, .slice ia ids.length ic])) (by rw [HV.out]; rfl) _ rfl
        obtain ⟨q0, q1, q2, q3, q4, q5, q6, q7⟩ := HS.out w' h.1
        refine wpOp_step rfl fun K hK => ?_
        go_simp
        refine (HMA.out w' h.1).mono ?_
        rintro e w2 ⟨rfl, hb2⟩
        exact hK _ _ ⟨_, _, x11, x12, x13, x14, x15, x16, x17, x18, x19, x20, rfl, h.did hb2 1 _ (.con (.bool true)) (by rw [HV.out]; rfl) rfl⟩
      · obtain rfl : x10 = .bool true := h.get 1 (hw _ rfl ⟨1, .data⟩ (by simp) rfl) (.con (.bool true)) (by rw [HV.out]; rfl) _ rfl
        refine wpOp_step rfl fun K hK => ?_
        go_simp
        exact hK _ _ ⟨x9, _, _, x12, x13, x14, x15, x16, x17, x18, x19, x20, rfl, h.same 2 _ (.con (.bool true)) (by rw [HV.out]; rfl) rfl⟩
      · obtain rfl : x11 = .bool true := h.get 2 (hw _ rfl ⟨2, .guard⟩ (by simp) rfl) (.con (.bool true)) (by rw [HV.out]; rfl) _ rfl
        refine wpOp_step rfl fun K hK => ?_
        go_simp
        exact hK _ _ ⟨x9, x10, _, _, x13, x14, x15, x16, x17, x18, x19, x20, rfl, h.same 3 _ (.con (x)) (by rw [HV.out]; rfl) rfl⟩
      · obtain rfl : x11 = .bool true := h.get 2 (hw _ rfl ⟨2, .guard⟩ (by simp) rfl) (.con (.bool true)) (by rw [HV.out]; rfl) _ rfl
        obtain ⟨q0, q1, q2, q3, q4, q5, q6, q7⟩ := HS.out w' h.1
        refine wpOp_step rfl fun K hK => ?_
        go_simp
        exact hK _ _ ⟨x9, x10, _, x12, _, x14, x15, x16, x17, x18, x19, x20, rfl, h.same 4 _ (.con (.agg #[.int .u8 u.kind, .int .i64 u.n, .string u.t, .slice an u.names.length cn, .slice ai u.items.length ci, .slice sa l.length sc])) (by rw [HV.out]; rfl) rfl⟩
      · obtain rfl : x11 = .bool true := h.get 2 (hw _ rfl ⟨2, .guard⟩ (by simp) rfl) (.con (.bool true)) (by rw [HV.out]; rfl) _ rfl
        obtain ⟨q0, q1, q2, q3, q4, q5, q6, q7⟩ := HS.out w' h.1
        refine wpOp_step rfl fun K hK => ?_
        go_simp
        exact hK _ _ ⟨x9, x10, _, x12, x13, _, x15, x16, x17, x18, x19, x20, rfl, h.same 5 _ (.con (.agg #[.int .i64 t, .slice ia ids.length ic])) (by rw [HV.out]; rfl) rfl⟩
      · obtain rfl : x11 = .bool true := h.get 2 (hw _ rfl ⟨2, .guard⟩ (by simp) rfl) (.con (.bool true)) (by rw [HV.out]; rfl) _ rfl
        refine wpOp_step rfl fun K hK => ?_
        go_simp
        exact hK _ _ ⟨x9, x10, _, x12, x13, x14, _, x16, x17, x18, x19, x20, rfl, h.same 6 _ (.con (.slice ka keys.length kc)) (by rw [HV.out]; rfl) rfl⟩
      · obtain rfl : x11 = .bool true := h.get 2 (hw _ rfl ⟨2, .chain⟩ (by simp) rfl) (.con (.bool true)) (by rw [HV.out]; rfl) _ rfl
        obtain rfl : x12 = x := h.get 3 (hw _ rfl ⟨3, .data⟩ (by simp) rfl) (.con (x)) (by rw [HV.out]; rfl) _ rfl
        obtain rfl : x13 = .agg #[.int .u8 u.kind, .int .i64 u.n, .string u.t, .slice an u.names.length cn, .slice ai u.items.length ci, .slice sa l.length sc] := h.get 4 (hw _ rfl ⟨4, .data⟩ (by simp) rfl) (.con (.agg #[.int .u8 u.kind, .int .i64 u.n, .string u.t, .slice an u.names.length cn, .slice ai u.items.length ci, .slice sa l.length sc])) (by rw [HV.out]; rfl) _ rfl
        obtain rfl : x14 = .agg #[.int .i64 t, .slice ia ids.length ic] := h.get 5 (hw _ rfl ⟨5, .data⟩ (by simp) rfl) (.con (.agg #[.int .i64 t, .slice ia ids.length ic])) (by rw [HV.out]; rfl) _ rfl
        obtain rfl : x15 = .slice ka keys.length kc := h.get 6 (hw _ rfl ⟨6, .data⟩ (by simp) rfl) (.con (.slice ka keys.length kc)) (by rw [HV.out]; rfl) _ rfl
        obtain ⟨q0, q1, q2, q3, q4, q5, q6, q7⟩ := HS.out w' h.1
        refine wpOp_step rfl fun K hK => ?_
        go_simp
        refine (HCO.out w' h.1).mono ?_
        rintro e w2 ⟨rfl, hb2⟩
        exact hK _ _ ⟨x9, x10, _, _, _, _, _, _, x17, x18, x19, x20, rfl, h.did hb2 7 _ (.con (.int .i64 (n : Int))) (by rw [HV.out]; rfl) rfl⟩
      · obtain rfl : x11 = .bool true := h.get 2 (hw _ rfl ⟨2, .guard⟩ (by simp) rfl) (.con (.bool true)) (by rw [HV.out]; rfl) _ rfl
        refine wpOp_step rfl fun K hK => ?_
        go_simp
        exact hK _ _ ⟨x9, x10, _, x12, x13, x14, x15, x16, _, x18, x19, x20, rfl, h.same 8 _ (.con (.pointer (some ⟨w.heap.size + 1, 0, none⟩))) (by rw [HV.out]; rfl) rfl⟩
      · obtain rfl : x11 = .bool true := h.get 2 (hw _ rfl ⟨2, .guard⟩ (by simp) rfl) (.con (.bool true)) (by rw [HV.out]; rfl) _ rfl
        obtain rfl : x17 = .pointer (some ⟨w.heap.size + 1, 0, none⟩) := h.get 8 (hw _ rfl ⟨8, .data⟩ (by simp) rfl) (.con (.pointer (some ⟨w.heap.size + 1, 0, none⟩))) (by rw [HV.out]; rfl) _ rfl
        obtain ⟨q0, q1, q2, q3, q4, q5, q6, q7⟩ := HS.out w' h.1
        refine wpOp_step rfl fun K hK => ?_
        go_simp
        exact hK _ _ ⟨x9, x10, _, x12, x13, x14, x15, x16, _, _, x19, x20, rfl, h.same 9 _ (.con (.int .i64 t)) (by rw [HV.out]; rfl) rfl⟩
      · obtain rfl : x11 = .bool true := h.get 2 (hw _ rfl ⟨2, .guard⟩ (by simp) rfl) (.con (.bool true)) (by rw [HV.out]; rfl) _ rfl
        obtain rfl : x16 = .int .i64 (n : Int) := h.get 7 (hw _ rfl ⟨7, .data⟩ (by simp) rfl) (.con (.int .i64 (n : Int))) (by rw [HV.out]; rfl) _ rfl
        obtain rfl : x18 = .int .i64 t := h.get 9 (hw _ rfl ⟨9, .data⟩ (by simp) rfl) (.con (.int .i64 t)) (by rw [HV.out]; rfl) _ rfl
        refine wpOp_step rfl fun K hK => ?_
        go_simp
        exact hK _ _ ⟨x9, x10, _, x12, x13, x14, x15, _, x17, _, _, x20, rfl, h.same 10 _ (.con (.bool (decide (t ≤ (n : Int))))) (by rw [HV.out]; rfl) rfl⟩
      · obtain rfl : x11 = .bool true := h.get 2 (hw _ rfl ⟨2, .data⟩ (by simp) rfl) (.con (.bool true)) (by rw [HV.out]; rfl) _ rfl
        obtain rfl : x19 = .bool (decide (t ≤ (n : Int))) := h.get 10 (hw _ rfl ⟨10, .data⟩ (by simp) rfl) (.con (.bool (decide (t ≤ (n : Int))))) (by rw [HV.out]; rfl) _ rfl
        refine wpOp_step rfl fun K hK => ?_
        go_simp
        exact hK _ _ ⟨x9, x10, _, x12, x13, x14, x15, x16, x17, x18, _, _, rfl, h.same 11 _ (.con (.bool (decide (t ≤ (n : Int))))) (by rw [HV.out]; rfl) rfl⟩
      · omega
    case last =>
      rintro d a' w' hall ⟨x9, x10, x11, x12, x13, x14, x15, x16, x17, x18, x19, x20, rfl, h⟩
      have hle := h.1
      obtain rfl : x20 = .bool (decide (t ≤ (n : Int))) := h.get 11 (hall _ (by omega)) (.con (.bool (decide (t ≤ (n : Int))))) (by rw [HV.out]; rfl) _ rfl
      have HLE := Lib.hid hle
      clear h hall hle HV
      go_wp2
      go_ret
      exact ⟨ret_bool (by rw [HEN.out]; simp), HBW.out.trans (HLE.out.mono HBW.out.size)⟩

end Go.Proofs.YtaekmmnpdbmoeaaGreatDoor

namespace Go.Proofs.YtaekmmnpdbmoeaaGreatDoor
open Go.RowKit

theorem step_store_row {P : Program} {ops : Array Oper} {o : Oper} {a : Act} {w : World} {K : Act → World → Prop} {Q : Exit → Act → World → Prop} {E : Prop} (hgd : o.guard = none) (ty : TypeId) (x y : Operand) (ho : o.op = .store ty x y)
    (g : Nat) (cells : Array Value) (hx : a.eval x = .pointer (some ⟨g, 0, none⟩)) (hy : a.eval y = .agg cells)
    (t : TypeId) (old : Array Value) (hg : w.heap[g]? = some (.cells old t (0, 0))) (hi : (P.info? ty).map (·.size) = some cells.size)
    (hold : old.size = cells.size) (h1 : cells.all (·.oneCell') = true)
    (h : K (a.put o.dst undef) (w.setRow g cells)) : if Region.wanted o (yielded ops a.tmps) = true then Oper.wp P o a w K Q else E := by
  have hw : Region.wanted o (yielded ops a.tmps) = true := by simp [Region.wanted, hgd]
  rw [if_pos hw]
  exact wp_store_row ty x y ho g cells hx hy t old hg hi hold h1 h
theorem below_setRowN {B g : Nat} {w0 w : World} (hb : Below B w0 w) (hBg : B ≤ g) (cs : Array Value) : Below B w0 (w.setRow g cs) := by
  refine ⟨hb.os, hb.tape, hb.output, by simpa [World.setRow] using hb.size, fun b hlt => ?_⟩
  rw [← hb.block b hlt]
  simp only [World.setRow, Array.getElem?_modify]
  rw [if_neg (by omega)]
/-- A pointer at a new block of these cells. -/
def IsBlk (B T : Nat) (cs : Array Value) (w : World) (x : Value) : Prop := ∃ b, B ≤ b ∧ x = .pointer (some ⟨b, 0, none⟩) ∧ w.heap[b]? = some (.cells cs T (0, 0))
theorem IsBlk.mono {B T : Nat} {cs : Array Value} {w w' : World} {x : Value} (hb : Below w.heap.size w w') (h : IsBlk B T cs w x) : IsBlk B T cs w' x := by
  obtain ⟨b, h1, h2, h3⟩ := h
  exact ⟨b, h1, h2, by rw [hb.block _ (heap_lt h3)]; exact h3⟩
theorem IsBlk.made {w : World} {B T : Nat} (cs : Array Value) (hB : B ≤ w.heap.size) : IsBlk B T cs (w.alloc (.cells cs T)) (.pointer (some ⟨w.heap.size, 0, none⟩)) := ⟨_, hB, rfl, heap_alloc_new w _⟩
def MP.blk (B T : Nat) (cs : Array Value) : MP := ⟨IsBlk B T cs, fun _ _ _ hb h => h.mono hb⟩

/-- Two copies that are made in a drawn order: y, b := x, a. -/
structure Pair2 (B T1 T2 : Nat) (Z1 E1 Z2 : Array Value) (d : Nat → Prop) (w' : World) (x1 x2 : Value) : Prop where
  a0 : d 4 → d 2
  b0 : d 4 → d 3
  a1 : d 2 → ∃ b, B ≤ b ∧ x1 = .pointer (some ⟨b, 0, none⟩) ∧ (¬ d 4 → w'.heap[b]? = some (.cells Z1 T1 (0, 0))) ∧ (d 4 → w'.heap[b]? = some (.cells E1 T1 (0, 0)))
  a2 : d 3 → ∃ b, B ≤ b ∧ x2 = .pointer (some ⟨b, 0, none⟩) ∧ w'.heap[b]? = some (.cells Z2 T2 (0, 0))
section
variable {B T1 T2 : Nat} {Z1 E1 Z2 : Array Value} {d : Nat → Prop} {w' : World} {x1 x2 : Value}
theorem Pair2.first (w' : World) (x1 x2 : Value) : Pair2 B T1 T2 Z1 E1 Z2 (fun _ => False) w' x1 x2 := ⟨fun h => h.elim, fun h => h.elim, fun h => h.elim, fun h => h.elim⟩
theorem Pair2.same (h : Pair2 B T1 T2 Z1 E1 Z2 d w' x1 x2) (k : Nat) (h2 : k ≠ 2) (h3 : k ≠ 3) (h4 : k ≠ 4) : Pair2 B T1 T2 Z1 E1 Z2 (fun j => j = k ∨ d j) w' x1 x2 := by
  have e : ∀ q, q ≠ k → ((q = k ∨ d q) ↔ d q) := fun q hq => ⟨fun h => h.resolve_left hq, .inr⟩
  have e2 := e 2 (Ne.symm h2); have e3 := e 3 (Ne.symm h3); have e4 := e 4 (Ne.symm h4)
  exact ⟨by rw [e2, e4]; exact h.a0, by rw [e3, e4]; exact h.b0, by rw [e2, e4]; exact h.a1, by rw [e3]; exact h.a2⟩
theorem Pair2.s2 (h : Pair2 B T1 T2 Z1 E1 Z2 d w' x1 x2) (hB : B ≤ w'.heap.size) (hn : ¬ d 2) : Pair2 B T1 T2 Z1 E1 Z2 (fun j => j = 2 ∨ d j) (w'.alloc (.cells Z1 T1)) (.pointer (some ⟨w'.heap.size, 0, none⟩)) x2 := by
  have n4 : ¬ d 4 := fun h4 => hn (h.a0 h4)
  refine ⟨fun _ => .inl rfl, fun h4 => (n4 (h4.resolve_left (by decide))).elim, fun _ => ⟨w'.heap.size, hB, rfl, fun _ => heap_alloc_new w' _, fun h4 => (n4 (h4.resolve_left (by decide))).elim⟩, fun h3 => ?_⟩
  obtain ⟨b, e1, e2, e3⟩ := h.a2 (h3.resolve_left (by decide))
  exact ⟨b, e1, e2, by rw [Below.heap_alloc _ _ _ (heap_lt e3)]; exact e3⟩
theorem Pair2.s3 (h : Pair2 B T1 T2 Z1 E1 Z2 d w' x1 x2) (hB : B ≤ w'.heap.size) (n4 : ¬ d 4) : Pair2 B T1 T2 Z1 E1 Z2 (fun j => j = 3 ∨ d j) (w'.alloc (.cells Z2 T2)) x1 (.pointer (some ⟨w'.heap.size, 0, none⟩)) := by
  refine ⟨fun h4 => (n4 (h4.resolve_left (by decide))).elim, fun h4 => .inl rfl, fun h2 => ?_, fun _ => ⟨w'.heap.size, hB, rfl, heap_alloc_new w' _⟩⟩
  obtain ⟨b, e1, e2, e3, _⟩ := h.a1 (h2.resolve_left (by decide))
  exact ⟨b, e1, e2, fun _ => by rw [Below.heap_alloc _ _ _ (heap_lt (e3 n4))]; exact e3 n4, fun h4 => (n4 (h4.resolve_left (by decide))).elim⟩
theorem Pair2.s4 (h : Pair2 B T1 T2 Z1 E1 Z2 d w' x1 x2) (hT : T1 ≠ T2) (h2 : d 2) (h3 : d 3) {b : Nat} (e1 : B ≤ b) (e2 : x1 = .pointer (some ⟨b, 0, none⟩)) (e3 : w'.heap[b]? = some (.cells Z1 T1 (0, 0))) : Pair2 B T1 T2 Z1 E1 Z2 (fun j => j = 4 ∨ d j) (w'.setRow b E1) x1 x2 := by
  refine ⟨fun _ => .inr h2, fun _ => .inr h3, fun _ => ⟨b, e1, e2, fun h4 => (h4 (.inl rfl)).elim, fun _ => by simp [World.setRow, Array.getElem?_modify, e3]⟩, fun h3 => ?_⟩
  obtain ⟨c, c1, c2, c3⟩ := h.a2 (h3.resolve_left (by decide))
  have hne : b ≠ c := fun e => by rw [e, c3] at e3; simp at e3; exact hT e3.2.symm
  exact ⟨c, c1, c2, by simp [World.setRow, Array.getElem?_modify, hne, c3]⟩
end

structure RW (W : World) (H Y A : Nat) (u : JV) (an ai : Option Addr) (cn ci : Nat) (t : Int) (wr : World) (P : List Sig2) (Q : List ByteArray) (vy va : Value) : Prop where
  below : Below W.heap.size W wr
  hW : W.heap.size ≤ Y ∧ W.heap.size ≤ A ∧ Y < H ∧ A < H ∧ Y ≠ A
  yx : wr.heap[Y]? = some (.cells #[.int .u8 u.kind, .int .i64 u.n, .string u.t, .slice an u.names.length cn, .slice ai u.items.length ci, vy] 47 (0, 0))
  ax : wr.heap[A]? = some (.cells #[.int .i64 t, va] 49 (0, 0))
  size : H ≤ wr.heap.size
  ey : wr.ownsRow H 26 2 vy P.length (P.flatMap encK)
  ea : wr.ownsRow H 9 1 va Q.length (Q.map .string)
  ne : ∀ b, vy.ownBlock = some b → va.ownBlock ≠ some b
variable {W wr w' w1 w2 : World} {H Y A : Nat} {u : JV} {an ai : Option Addr} {cn ci : Nat} {t : Int} {P : List Sig2} {Q : List ByteArray} {vy va : Value}
theorem RW.carry (h : RW W H Y A u an ai cn ci t wr P Q vy va) (hb : Below wr.heap.size wr w') : RW W H Y A u an ai cn ci t w' P Q vy va :=
  ⟨h.below.trans (hb.mono h.below.size), h.hW, (hb.block _ (heap_lt h.yx)).trans h.yx, (hb.block _ (heap_lt h.ax)).trans h.ax, Nat.le_trans h.size hb.size, owns_below h.ey hb, owns_below h.ea hb, h.ne⟩
/-- One signature more. -/
theorem RW.addY (h : RW W H Y A u an ai cn ci t wr P Q vy va) (hw : Below wr.heap.size wr w1) {g c : Nat} {p : Sig2}
    (ho : w2.ownsRow H 26 2 (.slice (some ⟨g, 0, none⟩) (P.length + 1) c) (P.length + 1) (P.flatMap encK ++ [.string p.1, .string p.2])) (hg : w1.grownBy w2 vy.ownBlock) (hat : vy.ownBlock = some g ∨ g = w1.heap.size) :
    RW W H Y A u an ai cn ci t (w2.setCell ⟨Y, 5, none⟩ (.slice (some ⟨g, 0, none⟩) (P.length + 1) c)) (P ++ [p]) Q (.slice (some ⟨g, 0, none⟩) (P.length + 1) c) va := by
  have h1 := h.carry hw
  obtain ⟨a1, a2, a3, a4, a5⟩ := h1.hW
  have hsz := h1.size
  have hWH : W.heap.size ≤ H := by omega
  have hb2 : Below W.heap.size W w2 := below_grown h1.below h1.below.size hg fun b hb => Nat.le_trans hWH (h1.ey.lt b hb).1
  have y2 : w2.heap[Y]? = some (.cells #[.int .u8 u.kind, .int .i64 u.n, .string u.t, .slice an u.names.length cn, .slice ai u.items.length ci, vy] 47 (0, 0)) := by
    rw [hg.block Y (by omega) (fun e => by have := (h1.ey.lt Y e.symm).1; omega)]; exact h1.yx
  have x2 : w2.heap[A]? = some (.cells #[.int .i64 t, va] 49 (0, 0)) := by
    rw [hg.block A (by omega) (fun e => by have := (h1.ey.lt A e.symm).1; omega)]; exact h1.ax
  have hHg : H ≤ g := by
    rcases hat with e | e
    · exact (h1.ey.lt g e).1
    · omega
  have es : ∀ b, b ≠ Y → (w2.setCell ⟨Y, 5, none⟩ (.slice (some ⟨g, 0, none⟩) (P.length + 1) c)).heap[b]? = w2.heap[b]? := fun b hb => Below.heap_setCell _ _ _ b hb
  refine ⟨hb2.setCell a1 _, h1.hW, ?_, ?_, ?_, ?_, ?_, ?_⟩
  · simp [World.setCell, Array.getElem?_modify, y2]
  · rw [es A (Ne.symm a5)]; exact x2
  · have : w2.heap.size = (w2.setCell ⟨Y, 5, none⟩ (.slice (some ⟨g, 0, none⟩) (P.length + 1) c)).heap.size := by simp [World.setCell]
    have := hg.size
    omega
  · have ho' : w2.ownsRow H 26 2 (.slice (some ⟨g, 0, none⟩) (P.length + 1) c) (P ++ [p]).length ((P ++ [p]).flatMap encK) := by
      rw [List.length_append, List.flatMap_append]; exact ho
    exact owns_of_block ho' fun b hb => es b (by simp [Value.ownBlock] at hb; omega)
  · exact owns_of_block h1.ea fun b hb => by
      rw [es b (by have := (h1.ea.lt b hb).1; omega)]
      exact hg.block b (h1.ea.lt b hb).2 fun e => h1.ne b e.symm hb
  · intro b hb e
    have hb1 : b = g := by simp [Value.ownBlock] at hb; exact hb.symm
    subst hb1
    rcases hat with ha | ha
    · exact h1.ne b ha e
    · have := (h1.ea.lt b e).2; omega
/-- One ID more. -/
theorem RW.addA (h : RW W H Y A u an ai cn ci t wr P Q vy va) (hw : Below wr.heap.size wr w1) {g c : Nat} {p : ByteArray}
    (ho : w2.ownsRow H 9 1 (.slice (some ⟨g, 0, none⟩) (Q.length + 1) c) (Q.length + 1) (Q.map .string ++ [.string p])) (hg : w1.grownBy w2 va.ownBlock) (hat : va.ownBlock = some g ∨ g = w1.heap.size) :
    RW W H Y A u an ai cn ci t (w2.setCell ⟨A, 1, none⟩ (.slice (some ⟨g, 0, none⟩) (Q.length + 1) c)) P (Q ++ [p]) vy (.slice (some ⟨g, 0, none⟩) (Q.length + 1) c) := by
  have h1 := h.carry hw
  obtain ⟨a1, a2, a3, a4, a5⟩ := h1.hW
  have hsz := h1.size
  have hWH : W.heap.size ≤ H := by omega
  have hb2 : Below W.heap.size W w2 := below_grown h1.below h1.below.size hg fun b hb => Nat.le_trans hWH (h1.ea.lt b hb).1
  have y2 : w2.heap[Y]? = some (.cells #[.int .u8 u.kind, .int .i64 u.n, .string u.t, .slice an u.names.length cn, .slice ai u.items.length ci, vy] 47 (0, 0)) := by
    rw [hg.block Y (by omega) (fun e => by have := (h1.ea.lt Y e.symm).1; omega)]; exact h1.yx
  have x2 : w2.heap[A]? = some (.cells #[.int .i64 t, va] 49 (0, 0)) := by
    rw [hg.block A (by omega) (fun e => by have := (h1.ea.lt A e.symm).1; omega)]; exact h1.ax
  have hHg : H ≤ g := by
    rcases hat with e | e
    · exact (h1.ea.lt g e).1
    · omega
  have es : ∀ b, b ≠ A → (w2.setCell ⟨A, 1, none⟩ (.slice (some ⟨g, 0, none⟩) (Q.length + 1) c)).heap[b]? = w2.heap[b]? := fun b hb => Below.heap_setCell _ _ _ b hb
  refine ⟨hb2.setCell a2 _, h1.hW, ?_, ?_, ?_, ?_, ?_, ?_⟩
  · rw [es Y a5]; exact y2
  · simp [World.setCell, Array.getElem?_modify, x2]
  · have : w2.heap.size = (w2.setCell ⟨A, 1, none⟩ (.slice (some ⟨g, 0, none⟩) (Q.length + 1) c)).heap.size := by simp [World.setCell]
    have := hg.size
    omega
  · exact owns_of_block h1.ey fun b hb => by
      rw [es b (by have := (h1.ey.lt b hb).1; omega)]
      exact hg.block b (h1.ey.lt b hb).2 fun e => h1.ne b hb e.symm
  · have ho' : w2.ownsRow H 9 1 (.slice (some ⟨g, 0, none⟩) (Q.length + 1) c) (Q ++ [p]).length ((Q ++ [p]).map .string) := by
      rw [List.length_append, List.map_append]; exact ho
    exact owns_of_block ho' fun b hb => es b (by simp [Value.ownBlock] at hb; omega)
  · intro b hb e
    have hb1 : b = g := by simp [Value.ownBlock] at e; exact e.symm
    subst hb1
    rcases hat with ha | ha
    · exact h1.ne b hb ha
    · have := (h1.ey.lt b hb).2; omega
/-- The slices, and what lies there. -/
theorem RW.slices (h : RW W H Y A u an ai cn ci t wr P Q vy va) : ∃ sy cy sb cb, vy = .slice sy P.length cy ∧ va = .slice sb Q.length cb ∧ KeysAt wr 0 wr.heap.size sy P ∧ StrsAt wr 0 wr.heap.size sb Q := by
  obtain ⟨sy, cy, e1, k1⟩ := owns_keys h.ey rfl
  obtain ⟨sb, cb, e2, _, k2⟩ := owns_strs h.ea rfl
  exact ⟨sy, cy, sb, cb, e1, e2, k1.carry (Nat.zero_le _) (Nat.le_refl _) fun _ _ _ => rfl, k2.carry (Nat.zero_le _) (Nat.le_refl _) fun _ _ _ => rfl⟩
theorem RW.cells (h : RW W H Y A u an ai cn ci t wr P Q vy va) : wr.cell? ⟨Y, 0, none⟩ = some (.int .u8 u.kind) ∧ wr.cell? ⟨Y, 1, none⟩ = some (.int .i64 u.n) ∧ wr.cell? ⟨Y, 2, none⟩ = some (.string u.t) ∧ wr.cell? ⟨Y, 3, none⟩ = some (.slice an u.names.length cn) ∧ wr.cell? ⟨Y, 4, none⟩ = some (.slice ai u.items.length ci) ∧ wr.cell? ⟨Y, 5, none⟩ = some vy ∧ wr.cell? ⟨A, 0, none⟩ = some (.int .i64 t) ∧ wr.cell? ⟨A, 1, none⟩ = some va :=
  ⟨box_cell h.yx rfl, box_cell h.yx rfl, box_cell h.yx rfl, box_cell h.yx rfl, box_cell h.yx rfl, box_cell h.yx rfl, box_cell h.ax rfl, box_cell h.ax rfl⟩
theorem RW.frozen (h : RW W H Y A u an ai cn ci t wr P Q vy va) : wr.frozen? ⟨Y, 5, none⟩ = false ∧ wr.frozen? ⟨A, 1, none⟩ = false := by
  constructor
  · simp only [World.frozen?, h.yx]; simp
  · simp only [World.frozen?, h.ax]; simp
/-- What stays in w2, where a row has grown, of the two blocks. -/
theorem RW.grown (h : RW W H Y A u an ai cn ci t wr P Q vy va) (hw : Below wr.heap.size wr w1) {v : Value} (hg : w1.grownBy w2 v.ownBlock) (hv : ∀ b, v.ownBlock = some b → H ≤ b) :
    w2.cell? ⟨Y, 5, none⟩ = some vy ∧ w2.cell? ⟨A, 1, none⟩ = some va ∧ w2.frozen? ⟨Y, 5, none⟩ = false ∧ w2.frozen? ⟨A, 1, none⟩ = false := by
  have h1 := h.carry hw
  obtain ⟨a1, a2, a3, a4, a5⟩ := h1.hW
  have hsz := h1.size
  have y2 : w2.heap[Y]? = some (.cells #[.int .u8 u.kind, .int .i64 u.n, .string u.t, .slice an u.names.length cn, .slice ai u.items.length ci, vy] 47 (0, 0)) := by
    rw [hg.block Y (by omega) (fun e => by have := hv Y e.symm; omega)]; exact h1.yx
  have x2 : w2.heap[A]? = some (.cells #[.int .i64 t, va] 49 (0, 0)) := by
    rw [hg.block A (by omega) (fun e => by have := hv A e.symm; omega)]; exact h1.ax
  exact ⟨box_cell y2 rfl, box_cell x2 rfl, by simp only [World.frozen?, y2]; simp, by simp only [World.frozen?, x2]; simp⟩

end Go.Proofs.YtaekmmnpdbmoeaaGreatDoor

namespace Go.Proofs.YtaekmmnpdbmoeaaGreatDoor
open Go.RowKit

theorem ix_mod (n : Int) : IntKind.u64.wrap n = n % 18446744073709551616 := by
  simp [IntKind.wrap, IntKind.bits, IntKind.signed]
theorem ix_len1 (n : Nat) (h : n ≤ 9223372036854775806) : IntKind.u64.wrap (wrap64 ((n : Int) + 1)) = (n : Int) + 1 := by
  rw [ix_mod]; unfold wrap64; omega
theorem ix_len (n : Nat) (h : n ≤ 9223372036854775807) : IntKind.u64.wrap (n : Int) = (n : Int) := by rw [ix_mod]; omega
theorem ix_at1 (a : Int) (n : Nat) (h : n ≤ 9223372036854775806) : ∃ i : Nat, i ≤ n ∧ wrap64 ((IntKind.u64.wrap a).tmod ((n : Int) + 1)) = (i : Int) := by
  rw [ix_mod]
  have h0 : 0 ≤ a % 18446744073709551616 := Int.emod_nonneg _ (by decide)
  have h1 : 0 ≤ (a % 18446744073709551616).tmod ((n : Int) + 1) := Int.tmod_nonneg _ h0
  have h2 : (a % 18446744073709551616).tmod ((n : Int) + 1) < (n : Int) + 1 := Int.tmod_lt_of_pos _ (by omega)
  refine ⟨((a % 18446744073709551616).tmod ((n : Int) + 1)).toNat, by omega, ?_⟩
  unfold wrap64; omega
theorem ix_at (a : Int) (n : Nat) (h0 : 0 < n) (h : n ≤ 9223372036854775807) : ∃ i : Nat, i < n ∧ wrap64 ((IntKind.u64.wrap a).tmod (n : Int)) = (i : Int) ∧ IntKind.i64.wrap ((IntKind.u64.wrap a).tmod (n : Int)) = (i : Int) := by
  rw [ix_mod]
  have h0 : 0 ≤ a % 18446744073709551616 := Int.emod_nonneg _ (by decide)
  have h1 : 0 ≤ (a % 18446744073709551616).tmod (n : Int) := Int.tmod_nonneg _ h0
  have h2 : (a % 18446744073709551616).tmod (n : Int) < (n : Int) := Int.tmod_lt_of_pos _ (by omega)
  refine ⟨((a % 18446744073709551616).tmod (n : Int)).toNat, by omega, by unfold wrap64; omega, ?_⟩
  rw [IntWalk.i64_in _ (by omega)]; omega

end Go.Proofs.YtaekmmnpdbmoeaaGreatDoor

namespace Go.Proofs.YtaekmmnpdbmoeaaGreatDoor
open Go.RowKit

def enK (pubs : List ByteArray) : List Key2 := pubs.map fun p => (schemeH, p)
theorem enK_length (pubs : List ByteArray) : (enK pubs).length = pubs.length := by unfold enK; rw [List.length_map]
theorem enK_take {pubs : List ByteArray} {k : Nat} (h : k < pubs.length) : (enK pubs).take (k + 1) = (enK pubs).take k ++ [(schemeH, pubs[k])] := by
  unfold enK
  rw [← List.map_take, ← List.map_take, List.take_succ_eq_append_getElem h, List.map_append]
  rfl
theorem id2_size' (k : Key2) : (id2 k).size ≤ 1000000 := by
  show (keyId _ _).toArray.size ≤ _
  unfold keyId
  split
  · rw [List.size_toArray, shaHex_length]; omega
  · simp
theorem makeS_size (k : Key2) (m : List UInt8) : (makeS k m).1.size ≤ 1000000 ∧ (makeS k m).2.size ≤ 1000000 := by
  unfold makeS
  split
  · constructor
    · exact id2_size' k
    · have h := (pub_plain (pub_mac k.2.data.toList m)).2.2
      show (Array.size _) ≤ _
      rw [List.size_toArray]; omega
  · exact ⟨Nat.zero_le _, Nat.zero_le _⟩
/-- The signatures of the first n of the first k. -/
def enS (K : List Key2) (n : Nat) (m : List UInt8) : List Sig2 := (K.take n).map fun k => makeS k m
theorem enS_more {K : List Key2} {n : Nat} {m : List UInt8} (k : Key2) (h : K.length < n) : enS (K ++ [k]) n m = enS K n m ++ [makeS k m] := by
  unfold enS
  rw [List.take_of_length_le (by simp; omega), List.take_of_length_le (by omega), List.map_append]; rfl
theorem enS_same {K : List Key2} {n : Nat} {m : List UInt8} (k : Key2) (h : ¬ K.length < n) : enS (K ++ [k]) n m = enS K n m := by
  unfold enS
  rw [List.take_append_of_le_length (by omega)]
theorem enS_length (K : List Key2) (n : Nat) (m : List UInt8) : (enS K n m).length = min n K.length := by unfold enS; rw [List.length_map, List.length_take]
/-- Whether an ID is none of these. -/
def enF (Q : List ByteArray) (s : Sig2) : Bool := !(Q.any fun i => decide (i = s.1))
theorem enF_step {Q : List ByteArray} {oth : List Sig2} {k : Nat} (h : k < oth.length) : (oth.take (k + 1)).filter (enF Q) = (oth.take k).filter (enF Q) ++ (if enF Q oth[k] = true then [oth[k]] else []) := by
  rw [List.take_succ_eq_append_getElem h, List.filter_append]
  congr 1
  by_cases hf : enF Q oth[k] = true
  · rw [if_pos hf, List.filter_cons_of_pos hf]; rfl
  · rw [if_neg hf, List.filter_cons_of_neg hf]; rfl
theorem en_done {pubs : List ByteArray} {n : Nat} {oth : List Sig2} {m : List UInt8} : enS (enK pubs) n m ++ oth.filter (enF ((enK pubs).map id2)) = enoughSigs (enK pubs) n oth m := rfl
theorem enough_all {x : JV} {pubs : List ByteArray} {n : Nat} {oth : List Sig2} {t : Int} (hk : ∀ k ∈ enK pubs, ok2 k = true) (hn : n ≤ pubs.length) (ha : authOk t ((enK pubs).map id2) = true) (he : envOk x (enS (enK pubs) n x.enc ++ oth.filter (enF ((enK pubs).map id2))) = true) :
    countV .mac x (enS (enK pubs) n x.enc ++ oth.filter (enF ((enK pubs).map id2))) t ((enK pubs).map id2) (enK pubs) = n ∧ enoughV .mac x (enS (enK pubs) n x.enc ++ oth.filter (enF ((enK pubs).map id2))) t ((enK pubs).map id2) (enK pubs) = decide (t ≤ (n : Int)) := by
  have h := enough_count (x := x) (keys := enK pubs) (n := n) (others := oth) (t := t) (fun k hk' => ⟨hk k hk', by obtain ⟨p, _, rfl⟩ := List.mem_map.1 hk'; rfl⟩) (by rw [enK_length]; exact hn) ha he
  have h2 : countV .mac x (enS (enK pubs) n x.enc ++ oth.filter (enF ((enK pubs).map id2))) t ((enK pubs).map id2) (enK pubs) = n := h
  exact ⟨h2, by unfold enoughV; rw [h2, ha, Bool.true_and]⟩
theorem enough_bad {v : Ver} {x : JV} {l : List Sig2} {t : Int} {ids : List ByteArray} {keys : List Key2} (h : ¬ (authOk t ids = true ∧ envOk x l = true)) : countV v x l t ids keys = 0 ∧ enoughV v x l t ids keys = false := by
  have h1 : countV v x l t ids keys = 0 := by unfold countV; rw [if_neg h]
  refine ⟨h1, ?_⟩
  unfold enoughV
  rw [h1]
  cases ha : authOk t ids
  · rfl
  · have := ((authOk_iff t ids).1 ha).1.2.2.1
    rw [Bool.true_and, decide_eq_false (by omega)]

end Go.Proofs.YtaekmmnpdbmoeaaGreatDoor

namespace Go.Proofs.YtaekmmnpdbmoeaaGreatDoor
open Go.RowKit

theorem below_a1 (w : World) (o : Obj) : Below w.heap.size w (w.alloc o) := (Below.refl _ _).alloc (Nat.le_refl _) _

section
variable {W wr w' w1 w2 : World} {H Y A : Nat} {u : JV} {an ai : Option Addr} {cn ci : Nat} {t : Int} {P : List Sig2} {Q : List ByteArray} {K : List Key2} {vy va vk : Value}
/-- Another row has grown. -/
theorem RW.grow (h : RW W H Y A u an ai cn ci t wr P Q vy va) (hw : Below wr.heap.size wr w1) {v : Value} (hg : w1.grownBy w2 v.ownBlock) (hv : ∀ b, v.ownBlock = some b → H ≤ b ∧ vy.ownBlock ≠ some b ∧ va.ownBlock ≠ some b) : RW W H Y A u an ai cn ci t w2 P Q vy va := by
  have h1 := h.carry hw
  obtain ⟨a1, a2, a3, a4, a5⟩ := h1.hW
  have hsz := h1.size
  have y2 : w2.heap[Y]? = w1.heap[Y]? := hg.block Y (by omega) (fun e => by have := (hv Y e.symm).1; omega)
  have x2 : w2.heap[A]? = w1.heap[A]? := hg.block A (by omega) (fun e => by have := (hv A e.symm).1; omega)
  exact ⟨below_grown h1.below h1.below.size hg (fun b hb => by have := (hv b hb).1; omega), h1.hW, y2.trans h1.yx, x2.trans h1.ax, Nat.le_trans hsz hg.size,
    owns_of_block h1.ey (fun b hb => hg.block b (h1.ey.lt b hb).2 fun e => (hv b e.symm).2.1 hb), owns_of_block h1.ea (fun b hb => hg.block b (h1.ea.lt b hb).2 fun e => (hv b e.symm).2.2 hb), h1.ne⟩

structure RE (W : World) (H Y A : Nat) (u : JV) (an ai : Option Addr) (cn ci : Nat) (t : Int) (wr : World) (P : List Sig2) (Q : List ByteArray) (K : List Key2) (vy va vk : Value) : Prop where
  rw : RW W H Y A u an ai cn ci t wr P Q vy va
  ek : wr.ownsRow H 24 2 vk K.length (K.flatMap encK)
  nk : ∀ b, vk.ownBlock = some b → vy.ownBlock ≠ some b ∧ va.ownBlock ≠ some b
theorem RE.carry (h : RE W H Y A u an ai cn ci t wr P Q K vy va vk) (hb : Below wr.heap.size wr w') : RE W H Y A u an ai cn ci t w' P Q K vy va vk := ⟨h.rw.carry hb, owns_below h.ek hb, h.nk⟩
theorem RE.addK (h : RE W H Y A u an ai cn ci t wr P Q K vy va vk) (hw : Below wr.heap.size wr w1) {g c : Nat} {p : Key2}
    (ho : w2.ownsRow H 24 2 (.slice (some ⟨g, 0, none⟩) (K.length + 1) c) (K.length + 1) (K.flatMap encK ++ [.string p.1, .string p.2])) (hg : w1.grownBy w2 vk.ownBlock) (hat : vk.ownBlock = some g ∨ g = w1.heap.size) :
    RE W H Y A u an ai cn ci t w2 P Q (K ++ [p]) vy va (.slice (some ⟨g, 0, none⟩) (K.length + 1) c) := by
  have h1 := h.carry hw
  refine ⟨h.rw.grow hw hg fun b hb => ⟨(h1.ek.lt b hb).1, h1.nk b hb⟩, by rw [List.length_append, List.flatMap_append]; exact ho, fun b hb => ?_⟩
  have hb1 : b = g := by simp [Value.ownBlock] at hb; exact hb.symm
  subst hb1
  rcases hat with ha | ha
  · exact h1.nk b ha
  · exact ⟨fun e => by have := (h1.rw.ey.lt b e).2; omega, fun e => by have := (h1.rw.ea.lt b e).2; omega⟩
theorem RE.addY (h : RE W H Y A u an ai cn ci t wr P Q K vy va vk) (hw : Below wr.heap.size wr w1) {g c : Nat} {p : Sig2}
    (ho : w2.ownsRow H 26 2 (.slice (some ⟨g, 0, none⟩) (P.length + 1) c) (P.length + 1) (P.flatMap encK ++ [.string p.1, .string p.2])) (hg : w1.grownBy w2 vy.ownBlock) (hat : vy.ownBlock = some g ∨ g = w1.heap.size) :
    RE W H Y A u an ai cn ci t (w2.setCell ⟨Y, 5, none⟩ (.slice (some ⟨g, 0, none⟩) (P.length + 1) c)) (P ++ [p]) Q K (.slice (some ⟨g, 0, none⟩) (P.length + 1) c) va vk := by
  have h1 := h.carry hw
  obtain ⟨a1, a2, a3, a4, a5⟩ := h1.rw.hW
  refine ⟨h.rw.addY hw ho hg hat, owns_of_block h1.ek fun b hb => ?_, fun b hb => ⟨fun e => ?_, (h1.nk b hb).2⟩⟩
  · rw [show (w2.setCell ⟨Y, 5, none⟩ (.slice (some ⟨g, 0, none⟩) (P.length + 1) c)).heap[b]? = w2.heap[b]? from Below.heap_setCell _ _ _ b (by have := (h1.ek.lt b hb).1; show b ≠ Y; omega)]
    exact hg.block b (h1.ek.lt b hb).2 fun e => (h1.nk b hb).1 e.symm
  · have hb1 : b = g := by simp [Value.ownBlock] at e; exact e.symm
    subst hb1
    rcases hat with ha | ha
    · exact (h1.nk b hb).1 ha
    · have := (h1.ek.lt b hb).2; omega
theorem RE.addA (h : RE W H Y A u an ai cn ci t wr P Q K vy va vk) (hw : Below wr.heap.size wr w1) {g c : Nat} {p : ByteArray}
    (ho : w2.ownsRow H 9 1 (.slice (some ⟨g, 0, none⟩) (Q.length + 1) c) (Q.length + 1) (Q.map .string ++ [.string p])) (hg : w1.grownBy w2 va.ownBlock) (hat : va.ownBlock = some g ∨ g = w1.heap.size) :
    RE W H Y A u an ai cn ci t (w2.setCell ⟨A, 1, none⟩ (.slice (some ⟨g, 0, none⟩) (Q.length + 1) c)) P (Q ++ [p]) K vy (.slice (some ⟨g, 0, none⟩) (Q.length + 1) c) vk := by
  have h1 := h.carry hw
  obtain ⟨a1, a2, a3, a4, a5⟩ := h1.rw.hW
  refine ⟨h.rw.addA hw ho hg hat, owns_of_block h1.ek fun b hb => ?_, fun b hb => ⟨(h1.nk b hb).1, fun e => ?_⟩⟩
  · rw [show (w2.setCell ⟨A, 1, none⟩ (.slice (some ⟨g, 0, none⟩) (Q.length + 1) c)).heap[b]? = w2.heap[b]? from Below.heap_setCell _ _ _ b (by have := (h1.ek.lt b hb).1; show b ≠ A; omega)]
    exact hg.block b (h1.ek.lt b hb).2 fun e => (h1.nk b hb).2 e.symm
  · have hb1 : b = g := by simp [Value.ownBlock] at e; exact e.symm
    subst hb1
    rcases hat with ha | ha
    · exact (h1.nk b hb).2 ha
    · have := (h1.ek.lt b hb).2; omega
theorem RE.slices (h : RE W H Y A u an ai cn ci t wr P Q K vy va vk) : ∃ sy cy sb cb sk ck, vy = .slice sy P.length cy ∧ va = .slice sb Q.length cb ∧ vk = .slice sk K.length ck ∧ KeysAt wr 0 wr.heap.size sy P ∧ StrsAt wr 0 wr.heap.size sb Q ∧ KeysAt wr 0 wr.heap.size sk K := by
  obtain ⟨sy, cy, sb, cb, e1, e2, k1, k2⟩ := h.rw.slices
  obtain ⟨sk, ck, e3, k3⟩ := owns_keys h.ek rfl
  exact ⟨sy, cy, sb, cb, sk, ck, e1, e2, e3, k1, k2, k3.carry (Nat.zero_le _) (Nat.le_refl _) fun _ _ _ => rfl⟩
end

end Go.Proofs.YtaekmmnpdbmoeaaGreatDoor
