/- The contract of legateref08.Same: equal in all parts. The contract of the law KeyTells: it returns true, whatever the key. Key tables while key.Table builds them: what lies where. The entries of a table sorted, in memory. The contract of key.Table. Keys in another row, in plain words; a row of keys that a call builds. No program in sight. -/
import Derived.Test.YtcahpjejpimdhaaGreatDoorZt230
import Derived.Test.YtcahpjejpimdhaaGreatDoorZt214
import Derived.StillTailTactics
import Derived.Test.YtcahpjejpimdhaaGreatDoorZt222
import Derived.Test.YtcahpjejpimdhaaGreatDoorZt229
import Derived.Test.YtcahpjejpimdhaaGreatDoorZt201
import Derived.Test.YtcahpjejpimdhaaGreatDoorZt209

namespace Go.Proofs.YtcahpjejpimdhaaGreatDoor
open Go.RowKit

theorem take_eq_snoc {α : Type} {l m : List α} {k : Nat} (h : k < l.length) (h' : k < m.length) (e : l.take k = m.take k) (e2 : l[k] = m[k]) : l.take (k + 1) = m.take (k + 1) := by
  rw [List.take_succ_eq_append_getElem h, List.take_succ_eq_append_getElem h', e, e2]

set_option maxRecDepth 100000 in
set_option maxHeartbeats 2000000 in
theorem refSame (N : Nat) : ∀ (v u : JV) (x y : Value) (lo hi : Nat) (w : World), v.wt ≤ N → u.wt ≤ 4294967296 → N ≤ 4294967296 → hi ≤ w.heap.size → Rep w lo hi v x → Rep w lo hi u y →
    Calls Tryz.prog 17 #[x, y] w fun e w' => e = .returned (.bool (v.sameB u)) ∧ Below w.heap.size w w' := by
  induction N with
  | zero => intro v u x y lo hi w h; have := v.wt_pos; omega
  | succ N ih =>
    intro v u x y lo hi w hN hU hM hhi hR hS
    have IH := Lib.hid ih
    clear ih
    obtain ⟨an, cn, ai, ci, rfl, _, _, h3, h4⟩ := hR.parts
    obtain ⟨an', cn', ai', ci', rfl, _, _, h3', h4'⟩ := hS.parts
    have HEQ := Lib.hid (v.sameB_eq u)
    obtain ⟨b1, b2, b3, b4⟩ := v.wt_bd
    obtain ⟨d1, d2, d3, d4⟩ := u.wt_bd
    have H3 := Lib.hid h3
    have H4 := Lib.hid h4
    have H3' := Lib.hid h3'
    have H4' := Lib.hid h4'
    clear h3 h4 h3' h4' hR hS
    have HB0 := Lib.hid (show Below w.heap.size w ((w.alloc (.cells #[.int .u8 v.kind, .int .i64 v.n, .string v.t, .slice an v.names.length cn, .slice ai v.items.length ci] 29)).alloc (.cells #[.int .u8 u.kind, .int .i64 u.n, .string u.t, .slice an' u.names.length cn', .slice ai' u.items.length ci'] 29)) from ((Below.refl _ _).alloc (Nat.le_refl _) _).alloc (by simp) _)
    by_cases hk : v.kind = u.kind
    case neg =>
      have t1 : (v.kind == u.kind) = false := by simpa using hk
      have t2 : (v.kind != u.kind) = true := by simpa using hk
      rw [decide_eq_false hk] at HEQ
      clear hk
      go_enter Tryz.func17, Tryz.ntmps17
      go_wp2
      go_ret
      exact ⟨by rw [HEQ.out]; rfl, HB0.out⟩
    have t1 : (v.kind != u.kind) = false := by simpa using hk
    have HK := Lib.hid hk
    rw [decide_eq_true hk] at HEQ
    clear hk
    by_cases hn : v.n = u.n
    case neg =>
      have t3 : (v.n != u.n) = true := by simpa using hn
      rw [decide_eq_false hn] at HEQ
      clear hn
      go_enter Tryz.func17, Tryz.ntmps17
      go_wp2
      go_ret
      exact ⟨by rw [HEQ.out]; rfl, HB0.out⟩
    have t2 : (v.n != u.n) = false := by simpa using hn
    rw [decide_eq_true hn] at HEQ
    clear hn
    by_cases ht : v.t = u.t
    case neg =>
      have t3 : (v.t.toList == u.t.toList) = false := beq_eq_false_iff_ne.2 (fun e => ht (ba_ext2 e))
      have t4 : (v.t.toList != u.t.toList) = true := bne_iff_ne.2 (fun e => ht (ba_ext2 e))
      rw [decide_eq_false ht] at HEQ
      clear ht
      go_enter Tryz.func17, Tryz.ntmps17
      go_wp2
      go_ret
      exact ⟨by rw [HEQ.out]; rfl, HB0.out⟩
    have t3 : (v.t.toList == u.t.toList) = true := by rw [ht]; simp
    have t4 : (v.t.toList != u.t.toList) = false := by rw [ht]; simp
    rw [decide_eq_true ht] at HEQ
    clear ht
    by_cases hm : v.names.length = u.names.length
    case neg =>
      have t5 : ((v.names.length : Int) != (u.names.length : Int)) = true := by rw [bne_iff_ne]; omega
      have t6 : (v.names.length != u.names.length) = true := by rw [bne_iff_ne]; omega
      rw [decide_eq_false (fun e : v.names = u.names => hm (by rw [e]))] at HEQ
      clear hm
      go_enter Tryz.func17, Tryz.ntmps17
      go_wp2
      go_ret
      exact ⟨by rw [HEQ.out]; rfl, HB0.out⟩
    by_cases hl : v.items.length = u.items.length
    case neg =>
      have t5 : ((v.items.length : Int) != (u.items.length : Int)) = true := by rw [bne_iff_ne]; omega
      have t6 : (v.items.length != u.items.length) = true := by rw [bne_iff_ne]; omega
      have t7 : ((v.names.length : Int) != (u.names.length : Int)) = false := by rw [bne_eq_false_iff_eq]; omega
      have t8 : (v.names.length != u.names.length) = false := by rw [bne_eq_false_iff_eq]; omega
      rw [decide_eq_false hl] at HEQ
      clear hl hm
      go_enter Tryz.func17, Tryz.ntmps17
      go_wp2
      go_ret
      exact ⟨by rw [HEQ.out]; simp, HB0.out⟩
    rw [decide_eq_true hl] at HEQ
    simp only [Bool.true_and] at HEQ
    rw [← hl, ← hm]
    obtain ⟨ni, hni⟩ : ∃ ni, ni = v.items.length := ⟨_, rfl⟩
    obtain ⟨nn, hnn⟩ : ∃ nn, nn = v.names.length := ⟨_, rfl⟩
    rw [← hni, ← hnn]
    rw [← hni] at b3
    rw [← hnn] at b2
    have HNI := Lib.hid hni
    have HNU := Lib.hid (show u.items.length = ni by rw [hni, hl])
    have HNN := Lib.hid hnn
    have HNM := Lib.hid (show u.names.length = nn by rw [hnn, hm])
    clear hl hni hm hnn HB0
    have hx0 : ((w.alloc (.cells #[.int .u8 v.kind, .int .i64 v.n, .string v.t, .slice an nn cn, .slice ai ni ci] 29)).alloc (.cells #[.int .u8 u.kind, .int .i64 u.n, .string u.t, .slice an' nn cn', .slice ai' ni ci'] 29)).heap[w.heap.size]? = some (.cells #[.int .u8 v.kind, .int .i64 v.n, .string v.t, .slice an nn cn, .slice ai ni ci] 29 (0, 0)) := (Below.heap_alloc _ _ _ (by simp)).trans (heap_alloc_new w _)
    have hy0 : ((w.alloc (.cells #[.int .u8 v.kind, .int .i64 v.n, .string v.t, .slice an nn cn, .slice ai ni ci] 29)).alloc (.cells #[.int .u8 u.kind, .int .i64 u.n, .string u.t, .slice an' nn cn', .slice ai' ni ci'] 29)).heap[w.heap.size + 1]? = some (.cells #[.int .u8 u.kind, .int .i64 u.n, .string u.t, .slice an' nn cn', .slice ai' ni ci'] 29 (0, 0)) := by
      have := heap_alloc_new (w.alloc (.cells #[.int .u8 v.kind, .int .i64 v.n, .string v.t, .slice an nn cn, .slice ai ni ci] 29)) (.cells #[.int .u8 u.kind, .int .i64 u.n, .string u.t, .slice an' nn cn', .slice ai' ni ci'] 29)
      rwa [show (w.alloc (.cells #[.int .u8 v.kind, .int .i64 v.n, .string v.t, .slice an nn cn, .slice ai ni ci] 29)).heap.size = w.heap.size + 1 by simp] at this
    have HB0 := Lib.hid (show Below w.heap.size w ((w.alloc (.cells #[.int .u8 v.kind, .int .i64 v.n, .string v.t, .slice an nn cn, .slice ai ni ci] 29)).alloc (.cells #[.int .u8 u.kind, .int .i64 u.n, .string u.t, .slice an' nn cn', .slice ai' ni ci'] 29)) from ((Below.refl _ _).alloc (Nat.le_refl _) _).alloc (by simp) _)
    have HX0 := Lib.hid hx0
    have HY0 := Lib.hid hy0
    clear hx0 hy0
    -- what each later world gives
    have HW := Lib.hid (show ∀ w' : World, Below (w.heap.size + 2) ((w.alloc (.cells #[.int .u8 v.kind, .int .i64 v.n, .string v.t, .slice an nn cn, .slice ai ni ci] 29)).alloc (.cells #[.int .u8 u.kind, .int .i64 u.n, .string u.t, .slice an' nn cn', .slice ai' ni ci'] 29)) w' →
        Below w.heap.size w w' ∧ w.heap.size + 2 ≤ w'.heap.size ∧ w'.cell? ⟨w.heap.size, 3, none⟩ = some (.slice an nn cn) ∧ w'.cell? ⟨w.heap.size, 4, none⟩ = some (.slice ai ni ci) ∧ w'.cell? ⟨w.heap.size + 1, 3, none⟩ = some (.slice an' nn cn') ∧ w'.cell? ⟨w.heap.size + 1, 4, none⟩ = some (.slice ai' ni ci') from fun w' h => by
      have hx : w'.heap[w.heap.size]? = _ := (h.block _ (by omega)).trans HX0.out
      have hy : w'.heap[w.heap.size + 1]? = _ := (h.block _ (by omega)).trans HY0.out
      exact ⟨HB0.out.trans (h.mono (by omega)), by have := h.size; simpa using this, box_cell hx rfl, box_cell hx rfl, box_cell hy rfl, box_cell hy rfl⟩)
    go_enter Tryz.func17, Tryz.ntmps17
    go_wp2
    clear t1 t2 t3 t4
    go_loopw [5] (fun i wr => ∃ k : Nat, k ≤ nn ∧ i = .int .i64 k ∧ v.names.take k = u.names.take k ∧ Below (w.heap.size + 2) ((w.alloc (.cells #[.int .u8 v.kind, .int .i64 v.n, .string v.t, .slice an nn cn, .slice ai ni ci] 29)).alloc (.cells #[.int .u8 u.kind, .int .i64 u.n, .string u.t, .slice an' nn cn', .slice ai' ni ci'] 29)) wr) (fun i _ => nn - (intOf i).toNat)
    case atStart => exact ⟨0, by omega, rfl, by simp, Below.refl _ _⟩
    case round =>
      obtain ⟨k, hk, rfl, hall, hbel⟩ := hrel
      obtain ⟨hbw, hz, c3, c4, d3', d4'⟩ := HW.out wr hbel
      have HA := Lib.hid hall
      have HB := Lib.hid hbel
      have HBW := Lib.hid hbw
      clear hall hbel hbw
      by_cases hlt : k < nn
      · have hl1 : k < v.names.length := by rw [← HNN.out]; exact hlt
        have hl2 : k < u.names.length := by rw [HNM.out]; exact hlt
        obtain ⟨p, f, rfl, _, _, y1⟩ := (H3.out.below HBW.out hhi (Nat.le_refl _) (Nat.le_refl _)).at k hl1
        obtain ⟨p', f', rfl, _, _, y2⟩ := (H3'.out.below HBW.out hhi (Nat.le_refl _) (Nat.le_refl _)).at k hl2
        have g1 : 0 ≤ (k : Int) := by omega
        have g2 : (k : Int) < (nn : Int) := by omega
        by_cases he : v.names[k] = u.names[k]
        · have HF := Lib.hid (take_eq_snoc hl1 hl2 HA.out he)
          have t1 : (v.names[k].toList == u.names[k].toList) = true := by rw [he]; simp
          have t2 : (v.names[k].toList != u.names[k].toList) = false := by rw [he]; simp
          clear he
          generalize v.names[k] = na at *
          generalize u.names[k] = nb at *
          go_wp2_with fail
          go_quiet (fail)
          go_wp2
          go_roundw
          case rel => exact ⟨k + 1, by omega, by go_num, HF.out, Below.drewN HB.out _⟩
          case measure => simp [intOf]; omega
        · have HF := Lib.hid (show decide (v.names = u.names) = false from decide_eq_false (fun e => he (by simp only [e])))
          have t1 : (v.names[k].toList == u.names[k].toList) = false := beq_eq_false_iff_ne.2 (fun e => he (ba_ext2 e))
          have t2 : (v.names[k].toList != u.names[k].toList) = true := bne_iff_ne.2 (fun e => he (ba_ext2 e))
          clear he
          generalize v.names[k] = na at *
          generalize u.names[k] = nb at *
          go_wp2_with fail
          go_quiet (fail)
          go_wp2
          go_ret
          exact ⟨by rw [HEQ.out, HF.out]; rfl, Below.drewN HBW.out _⟩
      · have HNE := Lib.hid (show v.names = u.names by
          have := HA.out; rwa [List.take_of_length_le (by rw [← HNN.out]; omega), List.take_of_length_le (by rw [HNM.out]; omega)] at this)
        rw [decide_eq_true HNE.out, Bool.true_and] at HEQ
        obtain ⟨k1, rfl⟩ : ∃ k1 : Nat, k1 = k := ⟨_, rfl⟩
        obtain ⟨wa, rfl⟩ : ∃ wa : World, wa = wr := ⟨_, rfl⟩
        go_wp2
        clear c3 c4 d3' d4'
        go_loopw [6] (fun i wr => ∃ k : Nat, k ≤ ni ∧ i = .int .i64 k ∧ JV.sameL (v.items.take k) (u.items.take k) = true ∧ Below (w.heap.size + 2) ((w.alloc (.cells #[.int .u8 v.kind, .int .i64 v.n, .string v.t, .slice an nn cn, .slice ai ni ci] 29)).alloc (.cells #[.int .u8 u.kind, .int .i64 u.n, .string u.t, .slice an' nn cn', .slice ai' ni ci'] 29)) wr) (fun i _ => ni - (intOf i).toNat)
        case atStart => exact ⟨0, by omega, rfl, by simp [JV.sameL], HB.out⟩
        case round =>
          clear HA HB HBW hz
          obtain ⟨k, hk2, rfl, hall, hbel⟩ := hrel
          obtain ⟨hbw, hz, c3, c4, d3', d4'⟩ := HW.out wr hbel
          have HA := Lib.hid hall
          have HB := Lib.hid hbel
          have HBW := Lib.hid hbw
          clear hall hbel hbw c3 d3'
          by_cases hlt2 : k < ni
          · have hltv : k < v.items.length := by rw [← HNI.out]; exact hlt2
            have hltu : k < u.items.length := by rw [HNU.out]; exact hlt2
            obtain ⟨p, f, e0, e1, e2, e3, e4, rfl, _, _, g0, g1, g2, g3, g4, hr⟩ := (H4.out.below HBW.out hhi (Nat.le_refl _) (Nat.le_refl _)).at k hltv
            obtain ⟨p', f', e0', e1', e2', e3', e4', rfl, _, _, g0', g1', g2', g3', g4', hr'⟩ := (H4'.out.below HBW.out hhi (Nat.le_refl _) (Nat.le_refl _)).at k hltu
            have hw1 := JV.wts_get v.items k hltv
            have hw2 := JV.wts_get u.items k hltu
            have HTK := Lib.hid (JV.sameL_take v.items u.items k hltv hltu)
            have HTB := Lib.hid (JV.sameL_bad v.items u.items k hltv hltu)
            have HC := Lib.hid (IH.out v.items[k] u.items[k] _ _ lo hi wr.drew (by omega) (by omega) (by omega) (by show hi ≤ wr.heap.size; omega) (Rep.carry (w := wr) (w' := wr.drew) (Nat.le_refl _) (Nat.le_refl _) (fun _ _ _ => rfl) _ _ hr) (Rep.carry (w := wr) (w' := wr.drew) (Nat.le_refl _) (Nat.le_refl _) (fun _ _ _ => rfl) _ _ hr'))
            clear hr hr'
            generalize v.items[k] = it at *
            generalize u.items[k] = jt at *
            have m1 : 0 ≤ (k : Int) := by omega
            have m2 : (k : Int) < (ni : Int) := by omega
            cases hsb : it.sameB jt
            · have HF := Lib.hid (HTB.out hsb)
              rw [hsb] at HC
              clear hsb
              go_wp2_with fail
              go_still_tail 10, (by kernel_rfl)
              go_wp2_with fail
              refine HC.out.mono ?_
              rintro e w5 ⟨rfl, hb5⟩
              have HB5 := Lib.hid (HBW.out.drew.trans (hb5.mono (by show w.heap.size ≤ wr.heap.size; omega)))
              clear hb5 g0 g1 g2 g3 g4 g0' g1' g2' g3' g4' c4 d4'
              go_wp2
              go_ret
              exact ⟨by rw [HEQ.out, HF.out]; rfl, HB5.out⟩
            · have HF := Lib.hid (show JV.sameL (v.items.take (k + 1)) (u.items.take (k + 1)) = true by rw [HTK.out, HA.out, hsb]; rfl)
              rw [hsb] at HC
              clear hsb
              go_wp2_with fail
              go_still_tail 10, (by kernel_rfl)
              go_wp2_with fail
              refine HC.out.mono ?_
              rintro e w5 ⟨rfl, hb5⟩
              have HB5 := Lib.hid (HB.out.drew.trans (hb5.mono (by show w.heap.size + 2 ≤ wr.heap.size; omega)))
              clear hb5 g0 g1 g2 g3 g4 g0' g1' g2' g3' g4' c4 d4'
              go_wp2
              go_roundw
              case rel => exact ⟨k + 1, by omega, by go_num, HF.out, HB5.out⟩
              case measure => simp [intOf]; omega
          · have HF := Lib.hid (show JV.sameL v.items u.items = true by
              have := HA.out; rwa [List.take_of_length_le (by rw [← HNI.out]; omega), List.take_of_length_le (by rw [HNU.out]; omega)] at this)
            go_wp2
            go_ret
            exact ⟨by rw [HEQ.out, HF.out]; rfl, HBW.out⟩

end Go.Proofs.YtcahpjejpimdhaaGreatDoor

namespace Go.Proofs.YtcahpjejpimdhaaGreatDoor
open Go.RowKit

/-- What is told of a key: its object, or nothing; the error. -/
def keyU (s t : ByteArray) : JV := if keyOk s.data.toList t.data.toList then keyJ s t else zeroJ
def keyE (s t : ByteArray) : Int := if keyOk s.data.toList t.data.toList then 0 else 3
def ValPost (u : JV) (er : Int) (w : World) (e : Ending) (w' : World) : Prop :=
  ∃ an cn ai ci, e = .returned (.tuple #[.agg #[.int .u8 u.kind, .int .i64 u.n, .string u.t, .slice an u.names.length cn, .slice ai u.items.length ci], .int .i64 er]) ∧
    Rep w' w.heap.size w'.heap.size u (.agg #[.int .u8 u.kind, .int .i64 u.n, .string u.t, .slice an u.names.length cn, .slice ai u.items.length ci]) ∧ Below w.heap.size w w'
theorem rep_zeroJ (w : World) (lo hi : Nat) : Rep w lo hi zeroJ zeroAgg := by
  unfold zeroJ Rep; exact ⟨none, 0, none, 0, rfl, Nat.le_refl _, Nat.le_refl _, .inl rfl, .inl rfl⟩
theorem keyValue_any (s t : ByteArray) (w : World) (hs : s.size ≤ 4294967000) (ht : t.size ≤ 4294967000) : Calls Tryz.prog 16 #[.agg #[.string s, .string t]] w (ValPost (keyU s t) (keyE s t) w) := by
  unfold keyU keyE
  cases hk : keyOk s.data.toList t.data.toList
  · refine (keyValue_no s t w hs ht hk).mono ?_
    rintro e w' ⟨rfl, hb⟩
    exact ⟨none, 0, none, 0, rfl, rep_zeroJ _ _ _, hb⟩
  · refine (keyValue_yes s t w hs ht hk).mono ?_
    rintro e w' ⟨an, cn, ai, ci, rfl, hr, hb⟩
    exact ⟨an, cn, ai, ci, rfl, hr, hb⟩
theorem ref14Value_any (s t : ByteArray) (w : World) (hs : s.size ≤ 4294967000) (ht : t.size ≤ 4294967000) : Calls Tryz.prog 15 #[.agg #[.string s, .string t]] w (ValPost (keyU s t) (keyE s t) w) := by
  unfold keyU keyE
  cases hk : keyOk s.data.toList t.data.toList
  · refine (ref14Value_no s t w hs ht hk).mono ?_
    rintro e w' ⟨rfl, hb⟩
    exact ⟨none, 0, none, 0, rfl, rep_zeroJ _ _ _, hb⟩
  · refine (ref14Value_yes s t w hs ht hk).mono ?_
    rintro e w' ⟨an, cn, ai, ci, rfl, hr, hb⟩
    exact ⟨an, cn, ai, ci, rfl, hr, hb⟩
theorem keyU_wt {s t : ByteArray} (hs : s.size ≤ 4294967) (ht : t.size ≤ 4294967) : (keyU s t).wt ≤ 4294967296 ∧ (keyU s t).items.length ≤ 2 := by
  unfold keyU
  split
  · exact ⟨keyJ_wt hs ht, Nat.le_refl 2⟩
  · exact ⟨by decide, Nat.zero_le _⟩

/-- At the head of the outer loop. -/
structure TellsAt (s t : ByteArray) (u : JV) (p3 : Nat) (x : Array Value) (w wr : World) : Prop where
  below : Below w.heap.size w wr
  key : wr.heap[w.heap.size]? = some (.cells #[.string s, .string t] 23 (0, 0))
  box : wr.heap[p3]? = some (.cells x 29 (0, 0))
  rep : Rep wr 0 p3 u (.agg x)
  gt : w.heap.size < p3

theorem TellsAt.later {s t : ByteArray} {u : JV} {p3 : Nat} {x : Array Value} {w wr w' : World} (h : TellsAt s t u p3 x w wr) (hb : Below wr.heap.size wr w') : TellsAt s t u p3 x w w' where
  below := h.below.trans (hb.mono h.below.size)
  key := blk_b hb h.key
  box := blk_b hb h.box
  rep := h.rep.below hb (Nat.le_of_lt (heap_lt h.box)) (Nat.le_refl _) (Nat.le_refl _)
  gt := h.gt
where blk_b {w w' : World} {p : Nat} {o : Obj} (hb : Below w.heap.size w w') (h : w.heap[p]? = some o) : w'.heap[p]? = some o := by rw [hb.block _ (heap_lt h)]; exact h
theorem TellsAt.touched {s t : ByteArray} {u : JV} {p3 B p : Nat} {x : Array Value} {w wr w' : World} (h : TellsAt s t u p3 x w wr) (ht : Touch (fun k => B ≤ k ∧ k < p) wr w') (hB : p3 < B) (hB' : B ≤ wr.heap.size) : TellsAt s t u p3 x w w' := by
  have hb : Below B wr w' := ht.below hB' (fun k hk => by omega)
  have := h.gt
  exact ⟨h.below.trans (hb.mono (by omega)), by rw [hb.block _ (by omega)]; exact h.key, by rw [hb.block _ hB]; exact h.box, h.rep.below hb (by omega) (Nat.le_refl _) (Nat.le_refl _), h.gt⟩

set_option maxHeartbeats 2000000 in
set_option maxRecDepth 100000 in
theorem lawKeyTells (s t : ByteArray) (w : World) (hT : Tabs w) :
    Calls Tryz.prog 3 #[.agg #[.string s, .string t]] w fun e w' => e = .returned (.bool true) ∧ Below w.heap.size w w' := by
  have HT := Lib.hid hT
  clear hT
  have HB0 := Lib.hid (show Below w.heap.size w (w.alloc (.cells #[.string s, .string t] 23)) from (Below.refl _ _).alloc (Nat.le_refl _) _)
  have HX0 := Lib.hid (heap_alloc_new w (.cells #[.string s, .string t] 23))
  have HSH := Lib.hid (lawShort s t (w.alloc (.cells #[.string s, .string t] 23)))
  cases hsh : shortK s t
  · rw [hsh] at HSH
    clear hsh
    go_enter Tryz.func3, Tryz.ntmps3
    go_wp2_with fail
    refine HSH.out.mono ?_
    rintro e w1 ⟨rfl, hb1⟩
    have HB1 := Lib.hid (HB0.out.trans (hb1.mono (by simp)))
    clear hb1
    go_wp2_with fail
    refine (lawAwake w1 (HT.out.below HB1.out)).mono ?_
    rintro e w2 ⟨rfl, hb2⟩
    have HB2 := Lib.hid (HB1.out.trans (hb2.mono HB1.out.size))
    clear hb2
    go_wp2
    go_ret
    exact ⟨rfl, HB2.out⟩
  obtain ⟨hs, ht⟩ := short_iff.1 hsh
  rw [hsh] at HSH
  clear hsh
  obtain ⟨u, hu⟩ : ∃ u, u = keyU s t := ⟨_, rfl⟩
  obtain ⟨er, her⟩ : ∃ er, er = keyE s t := ⟨_, rfl⟩
  have HVA := Lib.hid (show ∀ w, Calls Tryz.prog 16 #[.agg #[.string s, .string t]] w (ValPost u er w) from fun w => by rw [hu, her]; exact keyValue_any s t w (by omega) (by omega))
  have HVB := Lib.hid (show ∀ w, Calls Tryz.prog 15 #[.agg #[.string s, .string t]] w (ValPost u er w) from fun w => by rw [hu, her]; exact ref14Value_any s t w (by omega) (by omega))
  have HUW := Lib.hid (show u.wt ≤ 4294967296 by rw [hu]; exact (keyU_wt (by omega) (by omega)).1)
  have hul : u.items.length ≤ 2 := by rw [hu]; exact (keyU_wt (by omega) (by omega)).2
  clear hu her
  obtain ⟨uk, huk⟩ : ∃ x, x = u.kind := ⟨_, rfl⟩
  obtain ⟨un, hun⟩ : ∃ x, x = u.n := ⟨_, rfl⟩
  obtain ⟨ut, hut⟩ : ∃ x, x = u.t := ⟨_, rfl⟩
  obtain ⟨nn, hnn⟩ : ∃ x, x = u.names.length := ⟨_, rfl⟩
  obtain ⟨ni, hni⟩ : ∃ x, x = u.items.length := ⟨_, rfl⟩
  unfold ValPost at HVA HVB
  rw [← huk, ← hun, ← hut, ← hnn, ← hni] at HVA HVB
  rw [← hni] at hul
  have HNI := Lib.hid hni
  clear huk hun hut hnn hni
  go_enter Tryz.func3, Tryz.ntmps3
  go_wp2_with fail
  refine HSH.out.mono ?_
  clear HSH
  rintro e w1 ⟨rfl, hb1⟩
  have hx1 : w1.heap[w.heap.size]? = some (.cells #[.string s, .string t] 23 (0, 0)) := by rw [hb1.block _ (by simp)]; exact HX0.out
  have HX1 := Lib.hid hx1
  have HB1 := Lib.hid (HB0.out.trans (hb1.mono (by simp)))
  have c0 : w1.cell? ⟨w.heap.size, 0, none⟩ = some (.string s) := box_cell hx1 rfl
  have c1 : w1.cell? ⟨w.heap.size, 1, none⟩ = some (.string t) := box_cell hx1 rfl
  clear hb1 hx1 HB0 HX0
  go_wp2_with fail
  refine (HVB.out w1).mono ?_
  clear HVB c0 c1
  rintro e w2 ⟨an, cn, ai, ci, rfl, hr2, hb2⟩
  have HA := Lib.hid (show TellsAt s t u w2.heap.size #[.int .u8 uk, .int .i64 un, .string ut, .slice an nn cn, .slice ai ni ci] w (w2.alloc (.cells #[.int .u8 uk, .int .i64 un, .string ut, .slice an nn cn, .slice ai ni ci] 29)) from
    ⟨(HB1.out.trans (hb2.mono HB1.out.size)).alloc (by have := HB1.out.size; have := hb2.size; omega) _, by rw [Below.heap_alloc _ _ _ (by have := heap_lt HX1.out; have := hb2.size; omega), hb2.block _ (heap_lt HX1.out)]; exact HX1.out, heap_alloc_new w2 _,
      hr2.below ((Below.refl _ _).alloc (Nat.le_refl _) _) (Nat.le_refl _) (Nat.zero_le _) (Nat.le_refl _), by have := heap_lt HX1.out; have := hb2.size; omega⟩)
  clear hr2 hb2 HB1 HX1
  go_wp2_with fail
  obtain ⟨p3, hp3⟩ : ∃ p3, p3 = w2.heap.size := ⟨_, rfl⟩
  rw [← hp3] at HA
  rw [← hp3]
  clear hp3
  go_loopw [5, 6, 7, 8] (fun r _ _ _ wr => ∃ k : Nat, k ≤ 2 ∧ r = .int .i64 k ∧ TellsAt s t u p3 #[.int .u8 uk, .int .i64 un, .string ut, .slice an nn cn, .slice ai ni ci] w wr) (fun r _ _ _ _ => 2 - (intOf r).toNat)
  case atStart => exact ⟨0, by omega, rfl, HA.out⟩
  case round =>
    clear HA
    obtain ⟨k, hk, rfl, hA⟩ := hrel
    have HA := Lib.hid hA
    have c0 : wr.cell? ⟨w.heap.size, 0, none⟩ = some (.string s) := box_cell hA.key rfl
    have c1 : wr.cell? ⟨w.heap.size, 1, none⟩ = some (.string t) := box_cell hA.key rfl
    clear hA
    by_cases hlt : k < 2
    · have hlt2 : (k : Int) < 2 := by omega
      go_wp2_with fail
      refine (HVA.out wr).mono ?_
      clear c0 c1
      rintro e w3 ⟨an', cn', ai', ci', rfl, hr3, hb3⟩
      have hz0 : 0 < wr.heap.size := by have := heap_lt HA.out.box; omega
      have hp3 : p3 < wr.heap.size := heap_lt HA.out.box
      have hz3 : wr.heap.size ≤ w3.heap.size := hb3.size
      obtain ⟨W, hW⟩ : ∃ W, W = w3.alloc (.cells #[.int .u8 uk, .int .i64 un, .string ut, .slice an' nn cn', .slice ai' ni ci'] 29) := ⟨_, rfl⟩
      have hbW : Below wr.heap.size wr W := by rw [hW]; exact hb3.alloc hb3.size _
      have hWz : W.heap.size = w3.heap.size + 1 := by rw [hW]; simp
      have hxW : W.heap[w3.heap.size]? = some (.cells #[.int .u8 uk, .int .i64 un, .string ut, .slice an' nn cn', .slice ai' ni ci'] 29 (0, 0)) := by rw [hW]; exact heap_alloc_new w3 _
      have hrW : Rep W wr.heap.size w3.heap.size u (.agg #[.int .u8 uk, .int .i64 un, .string ut, .slice an' nn cn', .slice ai' ni ci']) := by rw [hW]; exact hr3.below ((Below.refl _ _).alloc (Nat.le_refl _) _) (Nat.le_refl _) (Nat.le_refl _) (Nat.le_refl _)
      have HAW := Lib.hid (HA.out.later hbW)
      have HSM := Lib.hid (refSame 4294967296 u u _ _ 0 W.heap.size W HUW.out HUW.out (Nat.le_refl _) (Nat.le_refl _) (Rep.carry (Nat.zero_le _) (by omega) (fun _ _ _ => rfl) _ _ hrW) (Rep.carry (Nat.le_refl _) (Nat.le_of_lt (heap_lt HAW.out.box)) (fun _ _ _ => rfl) _ _ HAW.out.rep))
      rw [show u.sameB u = true from (JV.sameB_iff u u).2 rfl] at HSM
      have HRW := Lib.hid hrW
      have HXW := Lib.hid hxW
      have d0 : W.cell? ⟨w3.heap.size, 0, none⟩ = some (.int .u8 uk) := box_cell hxW rfl
      have d1 : W.cell? ⟨w3.heap.size, 1, none⟩ = some (.int .i64 un) := box_cell hxW rfl
      have d2 : W.cell? ⟨w3.heap.size, 2, none⟩ = some (.string ut) := box_cell hxW rfl
      have d3 : W.cell? ⟨w3.heap.size, 3, none⟩ = some (.slice an' nn cn') := box_cell hxW rfl
      have d4 : W.cell? ⟨w3.heap.size, 4, none⟩ = some (.slice ai' ni ci') := box_cell hxW rfl
      have e0 : W.cell? ⟨p3, 0, none⟩ = some (.int .u8 uk) := box_cell HAW.out.box rfl
      have e1 : W.cell? ⟨p3, 1, none⟩ = some (.int .i64 un) := box_cell HAW.out.box rfl
      have e2 : W.cell? ⟨p3, 2, none⟩ = some (.string ut) := box_cell HAW.out.box rfl
      have e3 : W.cell? ⟨p3, 3, none⟩ = some (.slice an nn cn) := box_cell HAW.out.box rfl
      have e4 : W.cell? ⟨p3, 4, none⟩ = some (.slice ai ni ci) := box_cell HAW.out.box rfl
      have HWZ := Lib.hid hWz
      have HBW := Lib.hid hbW
      clear hr3 hb3 hxW hrW hbW hWz
      rw [hW] at d0 d1 d2 d3 d4 e0 e1 e2 e3 e4
      have HW := Lib.hid hW
      clear hW
      go_wp2_with fail
      clear d0 d1 d2 d3 d4 e0 e1 e2 e3 e4
      rw [← HW.out]
      refine HSM.out.mono ?_
      clear HSM HW
      rintro e w4 ⟨rfl, hb4⟩
      have hz4 : w3.heap.size < w4.heap.size := by have := hb4.size; have := HWZ.out; omega
      have HA4 := Lib.hid (HAW.out.later hb4)
      have HX4 := Lib.hid (show w4.heap[w3.heap.size]? = some (.cells #[.int .u8 uk, .int .i64 un, .string ut, .slice an' nn cn', .slice ai' ni ci'] 29 (0, 0)) by rw [hb4.block _ (heap_lt HXW.out)]; exact HXW.out)
      have HRM := Lib.hid (show ni = 0 ∨ ∃ b off, ai' = some ⟨b, off, none⟩ ∧ wr.heap.size ≤ b ∧ b < w3.heap.size ∧ Room w4 b off (ni * 5) by
        obtain ⟨an2, cn2, ai2, ci2, hx, _, _, _, hv⟩ := (HRW.out.below hb4 (by have := HWZ.out; omega) (Nat.le_refl _) (Nat.le_refl _)).parts
        simp only [Value.agg.injEq, Array.mk.injEq, List.cons.injEq, Value.slice.injEq, and_true] at hx
        obtain ⟨_, _, _, _, rfl, _, _⟩ := hx
        have := hv.room hz0
        rwa [← HNI.out] at this)
      clear hb4 HAW HXW HRW HBW
      obtain ⟨wo, rfl⟩ : ∃ wo : World, wo = wr := ⟨_, rfl⟩
      generalize w3.heap.size = p6 at *
      go_wp2_with fail
      go_loopw [8] (fun i wr => SpoilRel wo.heap.size p6 ni ai' w4 i wr) (fun i _ => ni - (intOf i).toNat)
      case atStart => exact ⟨0, by omega, rfl, Touch.refl _ _, HRM.out⟩
      case round =>
        obtain ⟨q, hq, rfl, htq, hrq⟩ := hrel
        have HTQ := Lib.hid htq
        have c4 : wr.cell? ⟨p6, 4, none⟩ = some (.slice ai' ni ci') := (htq.cell hz4 (by simp)).trans (box_cell HX4.out rfl)
        clear htq
        by_cases hqn : q < ni
        · obtain ⟨b, off, ha, hb1, hb2, hrm⟩ : ∃ b off, ai' = some ⟨b, off, none⟩ ∧ wo.heap.size ≤ b ∧ b < p6 ∧ Room wr b off (ni * 5) := by
            rcases hrq with h | h
            · omega
            · exact h
          subst ha
          obtain ⟨f0, g0⟩ := hrm.cell (off + q * 5) (by omega)
          obtain ⟨f1, g1⟩ := hrm.cell (off + q * 5 + 1) (by omega)
          obtain ⟨f2, g2⟩ := hrm.cell (off + q * 5 + 2) (by omega)
          obtain ⟨f3, g3⟩ := hrm.cell (off + q * 5 + 3) (by omega)
          obtain ⟨f4, g4⟩ := hrm.cell (off + q * 5 + 4) (by omega)
          have s0 := hrm.frozen (off + q * 5)
          have s1 := hrm.frozen (off + q * 5 + 1)
          have s2 := hrm.frozen (off + q * 5 + 2)
          have s3 := hrm.frozen (off + q * 5 + 3)
          have s4 := hrm.frozen (off + q * 5 + 4)
          have HRQ := Lib.hid hrm
          clear hrm hrq HRM
          go_wp2
          go_roundw
          case rel => exact SpoilRel.set hqn HTQ.out hb1 hb2 HRQ.out
          case measure => simp [intOf]; omega
        · clear hrq
          go_wp2
          go_roundw
          case rel => exact ⟨k + 1, by omega, by go_num, HA4.out.touched HTQ.out hp3 (by omega)⟩
          case measure => simp [intOf]; omega
    · have hlt2 : ¬ (k : Int) < 2 := by omega
      have HIA := Lib.hid (keyID s t wr (by omega) (by omega) (HT.out.below HA.out.below))
      have HIB := Lib.hid (fun w => ref14ID s t w (by omega) (by omega))
      unfold KeyIdPost at HIA HIB
      obtain ⟨ID, hID⟩ : ∃ ID : ByteArray, ID = ⟨(keyId s.data.toList t.data.toList).toArray⟩ := ⟨_, rfl⟩
      obtain ⟨E, hE⟩ : ∃ E : Int, E = if keyOk s.data.toList t.data.toList = true then 0 else 3 := ⟨_, rfl⟩
      obtain ⟨ok, hok⟩ : ∃ ok : Bool, ok = keyOk s.data.toList t.data.toList := ⟨_, rfl⟩
      rw [← hID, ← hE] at HIA HIB
      have HOK := Lib.hid hok
      clear hID hE hok
      go_wp2_with fail
      refine HIA.out.mono ?_
      clear HIA c0 c1
      rintro e w3 ⟨rfl, hb3⟩
      have HA3 := Lib.hid (HA.out.later hb3)
      clear hb3 HA
      have c0 : w3.cell? ⟨w.heap.size, 0, none⟩ = some (.string s) := box_cell HA3.out.key rfl
      have c1 : w3.cell? ⟨w.heap.size, 1, none⟩ = some (.string t) := box_cell HA3.out.key rfl
      go_wp2_with fail
      refine (HIB.out w3).mono ?_
      clear HIB c0 c1
      rintro e w4 ⟨rfl, hb4⟩
      have HA4 := Lib.hid (HA3.out.later hb4)
      clear hb4 HA3
      have HS := Lib.hid (show ∀ w' : World, Below w4.heap.size w4 w' → w'.cell? ⟨w.heap.size, 0, none⟩ = some (.string s) ∧ w'.cell? ⟨w.heap.size, 1, none⟩ = some (.string t) from fun w' h => ⟨box_cell (HA4.out.later h).key rfl, box_cell (HA4.out.later h).key rfl⟩)
      have HMA := Lib.hid (show ∀ w' : World, Below w4.heap.size w4 w' → Calls Tryz.prog 20 #[.agg #[.string s, .string t]] w' (fun e w'' => e = .returned (.bool ok) ∧ Below w4.heap.size w4 w'') from fun w' h => by
        refine (keyMay s t w' (by omega) (by omega)).mono ?_
        rintro e w'' ⟨rfl, hb⟩
        exact ⟨by rw [HOK.out], h.trans (hb.mono h.size)⟩)
      have HMB := Lib.hid (show ∀ w' : World, Below w4.heap.size w4 w' → Calls Tryz.prog 21 #[.agg #[.string s, .string t]] w' (fun e w'' => e = .returned (.bool ok) ∧ Below w4.heap.size w4 w'') from fun w' h => by
        refine (ref14May s t w' (by omega) (by omega)).mono ?_
        rintro e w'' ⟨rfl, hb⟩
        exact ⟨by rw [HOK.out], h.trans (hb.mono h.size)⟩)
      have HMC := Lib.hid (show ∀ w' : World, Below w4.heap.size w4 w' → Calls Tryz.prog 14 #[] w' (fun e w'' => e = .returned (.bool true) ∧ Below w4.heap.size w4 w'') from fun w' h => by
        refine (lawAwake w' ((HT.out.below HA4.out.below).below h)).mono ?_
        rintro e w'' ⟨rfl, hb⟩
        exact ⟨rfl, h.trans (hb.mono h.size)⟩)
      have hbz : Below w4.heap.size w4 w4.drew := (Below.refl _ _).drew
      have hq := HS.out w4.drew hbz
      have HBF := Lib.hid HA4.out.below
      clear HA4
      go_wp2_with fail
      go_region_held3 (fun w' => w'.cell? ⟨w.heap.size, 0, none⟩ = some (.string s) ∧ w'.cell? ⟨w.heap.size, 1, none⟩ = some (.string t)) (first | (with_reducible exact hq) | (go_keep; done)) (first | ((go_at_call 20; (with_reducible refine (HMA.out _ hbz).mono ?_); rintro e w10 ⟨rfl, hbz⟩; have hq := HS.out w10 hbz)) | ((go_at_call 21; (with_reducible refine (HMB.out _ hbz).mono ?_); rintro e w10 ⟨rfl, hbz⟩; have hq := HS.out w10 hbz)) | ((go_at_call 14; (with_reducible refine (HMC.out _ hbz).mono ?_); rintro e w10 ⟨rfl, hbz⟩; have hq := HS.out w10 hbz)))
      all_goals (go_wp2; go_ret; exact ⟨rfl, HBF.out.trans (hbz.mono HBF.out.size)⟩)

end Go.Proofs.YtcahpjejpimdhaaGreatDoor

namespace Go.Proofs.YtcahpjejpimdhaaGreatDoor
open Go.RowKit Go.Shelf Go.Sort

/-- A row of the call's own has room for its cells. -/
theorem owns_room {w : World} {base e n cn : Nat} {an : Option Addr} {xs : List Value} (h : w.ownsRow base e 1 (.slice an n cn) n xs) : n = 0 ∨ ∃ b, an = some ⟨b, 0, none⟩ ∧ base ≤ b ∧ Room w b 0 n := by
  rcases h.2 with ⟨_, h0⟩ | ⟨g, cap, cur, hv, hg, hh, hc, _, hs, _⟩
  · exact .inl h0
  · simp only [Value.slice.injEq, true_and] at hv
    obtain ⟨rfl, rfl⟩ := hv
    exact .inr ⟨g, rfl, hg, cur, e, hh, by rw [hs]; omega⟩
/-- An object's value, of which the names lie in a row of the call's own. -/
def OwnPost (u : JV) (er : Int) (w : World) (e : Ending) (w' : World) : Prop :=
  ∃ an cn ai ci, e = .returned (.tuple #[.agg #[.int .u8 u.kind, .int .i64 u.n, .string u.t, .slice an u.names.length cn, .slice ai u.items.length ci], .int .i64 er]) ∧
    Rep w' w.heap.size w'.heap.size u (.agg #[.int .u8 u.kind, .int .i64 u.n, .string u.t, .slice an u.names.length cn, .slice ai u.items.length ci]) ∧ Below w.heap.size w w' ∧
    (u.names.length = 0 ∨ ∃ b, an = some ⟨b, 0, none⟩ ∧ w.heap.size ≤ b ∧ Room w' b 0 u.names.length)
theorem OwnPost.val {u : JV} {er : Int} {w : World} {e : Ending} {w' : World} (h : OwnPost u er w e w') : ValPost u er w e w' := by
  obtain ⟨an, cn, ai, ci, h1, h2, h3, _⟩ := h
  exact ⟨an, cn, ai, ci, h1, h2, h3⟩
/-- What is told of keys: their table, the IDs rising; or why there is none. -/
def TabPost (l : List Key2) (w : World) (e : Ending) (w' : World) : Prop :=
  (tabE l ≠ 0 ∧ e = .returned (.tuple #[zeroAgg, .int .i64 (tabE l)]) ∧ Below w.heap.size w w') ∨
  (tabE l = 0 ∧ ∃ m : List Key2, m.Perm l ∧ rises (ids m) = true ∧ OwnPost (tabJ m) 0 w e w')

/-- At the head of the first loop: k keys are entries. -/
structure TabAt (w wr : World) (v : Value) (l : List Key2) (k : Nat) (zs : List (Mem × Key2)) : Prop where
  below : Below w.heap.size w wr
  res : wr.rowIs w.heap.size 29 5 (pick5 (.int .u8 0) (.int .i64 0) (.string { data := #[] }) (.slice none 0 0) (.slice none 0 0))
  own : wr.ownsRow (w.heap.size + 1) 96 6 v k ((zs.map (·.1)).flatMap encM)
  row : EntRow wr (w.heap.size + 1) (fun b => v.ownBlock = some b) zs
  keys : zs.map (·.2) = l.take k
  err : tabErr [] l = tabErr (ids (l.take k)) (l.drop k)

theorem TabAt.later {w wr w' : World} {v : Value} {l : List Key2} {k : Nat} {zs : List (Mem × Key2)} (h : TabAt w wr v l k zs) (hb : Below wr.heap.size wr w') : TabAt w w' v l k zs where
  below := h.below.trans (hb.mono h.below.size)
  res := below_row hb h.res h.res.lt
  own := owns_below h.own hb
  row := h.row.carry hb.size (fun b hb' _ _ => hb.block b hb') (fun _ hx => .inl hx)
  keys := h.keys
  err := h.err
theorem TabAt.len {w wr : World} {v : Value} {l : List Key2} {k : Nat} {zs : List (Mem × Key2)} (h : TabAt w wr v l k zs) (hk : k ≤ l.length) : zs.length = k := by
  have := congrArg List.length h.keys
  simpa [hk] using this
/-- The slice of entries, and its cells. -/
theorem TabAt.slice {w wr : World} {v : Value} {l : List Key2} {k : Nat} {zs : List (Mem × Key2)} (h : TabAt w wr v l k zs) (hk : k ≤ l.length) : (v = .slice none 0 0 ∧ k = 0) ∨ ∃ g cap, v = .slice (some ⟨g, 0, none⟩) k cap ∧ w.heap.size < g ∧ g < wr.heap.size ∧ k ≤ cap ∧
    ∀ j c (hj : j < zs.length), c < 6 → wr.cell? ⟨g, j * 6 + c, none⟩ = some ((encM zs[j].1)[c]!) := by
  have hl := h.len hk
  rcases h.own.2 with ⟨rfl, h0⟩ | ⟨g, cap, cur, rfl, hg, hh, hc, _⟩
  · exact .inl ⟨rfl, h0⟩
  · refine .inr ⟨g, cap, rfl, by omega, heap_lt hh, hc, fun j c hj hc6 => ?_⟩
    have hf := flat_get (ms := zs.map (·.1)) j c (by simpa using hj) hc6
    have hcc := h.own.cells (g := g) rfl (j * 6 + c) _ hf
    have ea : (⟨g, 0, none⟩ : Addr).add (j * 6 + c) = ⟨g, j * 6 + c, none⟩ := by unfold Addr.add; split <;> simp_all
    rw [ea] at hcc
    simpa using hcc

theorem infoEntry : (Tryz.prog.info? 96).map (fun i => (i.zero, i.size, i.bytes)) = some (some (.agg #[.string { data := #[] }, .int .u8 0, .int .i64 0, .string { data := #[] }, .slice none 0 0, .slice none 0 0]), 6, 96) := by kernel_rfl

/-- One entry more. -/
theorem TabAt.snoc {w wr wo w4 : World} {v : Value} {l : List Key2} {k g cap lo hi : Nat} {zs : List (Mem × Key2)} (x : Mem) (h : TabAt w wr v l k zs) (hk : k < l.length) (hbo : Below wr.heap.size wr wo)
    (hn : x.name = id2 l[k]) (hok : ok2 l[k] = true) (hnew : hasId (ids (l.take k)) (id2 l[k]) = false)
    (hlo : wr.heap.size ≤ lo) (hhi : hi ≤ wo.heap.size) (hr : Rep wo lo hi (obj2 l[k]) x.val)
    (hg : wo.grownBy w4 v.ownBlock) (hat : v.ownBlock = some g ∨ wo.heap.size ≤ g)
    (ho : w4.ownsRow (w.heap.size + 1) 96 6 (.slice (some ⟨g, 0, none⟩) (k + 1) cap) (k + 1) ((zs.map (·.1)).flatMap encM ++ encM x)) :
    TabAt w w4 (.slice (some ⟨g, 0, none⟩) (k + 1) cap) l (k + 1) (zs ++ [(x, l[k])]) := by
  have hw0 := h.res.lt
  have hown : ∀ b, v.ownBlock = some b → w.heap.size + 1 ≤ b ∧ b < wr.heap.size := fun b hb => h.own.lt b hb
  have hz1 := hbo.size
  have hz2 := hg.size
  have s1 : ∀ b, b < wr.heap.size → v.ownBlock ≠ some b → w4.heap[b]? = wr.heap[b]? := fun b hb hne => by rw [hg.block b (by omega) (fun e => hne e.symm)]; exact hbo.block b hb
  have hgb : ∀ b, (Value.slice (some ⟨g, 0, none⟩) (k + 1) cap).ownBlock = some b → b = g := fun b hb => by simp [Value.ownBlock] at hb; exact hb.symm
  refine ⟨⟨?_, ?_, ?_, by have := h.below.size; omega, fun b hb => ?_⟩, h.res.of_block (s1 _ hw0 (fun e => by have := (hown _ e).1; omega)), ?_, ?_, ?_, ?_⟩
  · rw [hg.os, hbo.os, h.below.os]
  · rw [hg.tape, hbo.tape, h.below.tape]
  · rw [hg.output, hbo.output, h.below.output]
  · rw [s1 b (by omega) (fun e => by have := (hown _ e).1; omega)]; exact h.below.block b hb
  · simpa [List.flatMap_append] using ho
  · refine EntRow.snoc (h.row.carry (by omega) (fun b hb hne _ => s1 b hb hne) fun b hx => ?_) x l[k] lo hi hn (by omega) (by omega) (fun b hx hb => ?_) (Rep.carry (Nat.le_refl _) (Nat.le_refl _) (fun b h1 h2 => hg.block b (by omega) (fun e => by have := (hown b e.symm).2; omega)) _ _ hr)
    · rw [hgb b hx]
      rcases hat with ha | ha
      · exact .inl ha
      · exact .inr (.inl (by omega))
    · rw [hgb b hx] at hb
      rcases hat with ha | ha
      · have := (hown g ha).2; omega
      · omega
  · rw [List.map_append, h.keys, List.take_succ_eq_append_getElem hk]; rfl
  · rw [h.err, tabErr_step l k hk, if_pos hok, if_neg (by rw [hnew]; simp)]

end Go.Proofs.YtcahpjejpimdhaaGreatDoor

namespace Go.Proofs.YtcahpjejpimdhaaGreatDoor
open Go.RowKit Go.Shelf Go.Sort

theorem TabAt.sliced {w wr : World} {v : Value} {l : List Key2} {k : Nat} {zs : List (Mem × Key2)} (h : TabAt w wr v l k zs) (hk : k ≤ l.length) : ∃ av cap, v = .slice av k cap ∧ ((k = 0 ∧ av = none ∧ cap = 0) ∨ ∃ g, av = some ⟨g, 0, none⟩ ∧ w.heap.size < g ∧ g < wr.heap.size ∧
    ∀ j c (hj : j < zs.length), c < 6 → wr.cell? ⟨g, j * 6 + c, none⟩ = some ((encM zs[j].1)[c]!)) := by
  rcases h.slice hk with ⟨rfl, rfl⟩ | ⟨g, cap, rfl, h1, h2, _, h4⟩
  · exact ⟨none, 0, rfl, .inl ⟨rfl, rfl, rfl⟩⟩
  · exact ⟨_, cap, rfl, .inr ⟨g, rfl, h1, h2, h4⟩⟩
theorem TabAt.names {w wr : World} {v : Value} {l : List Key2} {k : Nat} {zs : List (Mem × Key2)} (h : TabAt w wr v l k zs) : ids (l.take k) = zs.map (fun z => z.1.name) := by
  rw [← h.keys]
  unfold ids
  rw [List.map_map]
  exact List.map_congr_left fun z hz => (h.row z hz).1.symm
theorem TabAt.hit {w wr : World} {v : Value} {l : List Key2} {k : Nat} {zs : List (Mem × Key2)} (h : TabAt w wr v l k zs) (x : ByteArray) (j : Nat) (hj : j < zs.length) (he : (zs[j].1.name.toList == x.toList) = true) : hasId (ids (l.take k)) x = true := by
  rw [h.names]
  unfold hasId
  rw [List.any_map, List.any_eq_true]
  exact ⟨zs[j], List.getElem_mem hj, he⟩
theorem TabAt.fresh {w wr : World} {v : Value} {l : List Key2} {k : Nat} {zs : List (Mem × Key2)} (h : TabAt w wr v l k zs) (x : ByteArray) (hn : ∀ j (hj : j < zs.length), (zs[j].1.name.toList == x.toList) = false) : hasId (ids (l.take k)) x = false := by
  rw [h.names]
  unfold hasId
  rw [List.any_map, List.any_eq_false]
  intro z hz
  obtain ⟨j, hj, rfl⟩ := List.getElem_of_mem hz
  show ¬ (zs[j].1.name.toList == x.toList) = true
  rw [hn j hj]; simp

/-- Behind the sort. -/
structure SortedAt (w w' : World) (av : Option Addr) (l m : List Key2) (zs : List (Mem × Key2)) : Prop where
  perm : m.Perm l
  keys : zs.map (·.2) = m
  rise : rises (ids m) = true
  below : Below w.heap.size w w'
  res : w'.rowIs w.heap.size 29 5 (pick5 (.int .u8 0) (.int .i64 0) (.string { data := #[] }) (.slice none 0 0) (.slice none 0 0))
  row : EntRow w' (w.heap.size + 1) (fun _ => False) zs
  cells : l.length = 0 ∨ ∃ g, av = some ⟨g, 0, none⟩ ∧ g < w'.heap.size ∧ ∀ j c (hj : j < zs.length), c < 6 → w'.cell? ⟨g, j * 6 + c, none⟩ = some ((encM zs[j].1)[c]!)

theorem TabAt.sorted {w wr : World} {av : Option Addr} {cap : Nat} {l : List Key2} {zs : List (Mem × Key2)} (h : TabAt w wr (.slice av l.length cap) l l.length zs) (hl : l.length ≤ 4294967)
    (hc : (l.length = 0 ∧ av = none ∧ cap = 0) ∨ ∃ g, av = some ⟨g, 0, none⟩ ∧ w.heap.size < g ∧ g < wr.heap.size) :
    Calls Tryz.prog 71 #[.slice av l.length cap, .func (.func 72) #[] #[]] wr fun e w' => e = .returned (.tuple #[]) ∧ ∃ m zs', SortedAt w w' av l m zs' := by
  have hlen := h.len (Nat.le_refl _)
  have he := h.err
  rw [List.take_length, List.drop_length] at he
  obtain ⟨hok, _, hnd⟩ := (tabErr_zero l []).1 he
  have hkeys := h.keys
  rw [List.take_length] at hkeys
  rcases hc with ⟨h0, rfl, rfl⟩ | ⟨g, rfl, hg1, hg2⟩
  · rw [h0]
    have hz : l = [] := List.eq_nil_of_length_eq_zero h0
    subst hz
    refine (sortNil wr).mono ?_
    rintro e w' ⟨rfl, rfl⟩
    have hzs : zs = [] := List.eq_nil_of_length_eq_zero hlen
    subst hzs
    exact ⟨rfl, [], [], List.Perm.refl _, rfl, rfl, h.below, h.res, EntRow.nil _ _ _, .inl rfl⟩
  · have hH := owns_holds h.own
    have hds : (zs.map (·.1)).toArray.size = l.length := by simp [hlen]
    have hS := sortEnt g 0 cap (zs.map (·.1)).toArray wr hH hg2 (by omega)
    rw [hds] at hS
    refine hS.mono ?_
    rintro e w' ⟨rfl, d', ⟨hsz, hp, hso⟩, hH', ht⟩
    refine ⟨rfl, ?_⟩
    rw [hds] at hsz hso
    obtain ⟨zs', hpz, hmz⟩ := perm_of_map (·.1) (by simpa using hp) zs rfl
    have hlz : zs'.length = l.length := by rw [hpz.length_eq]; exact hlen
    have hdz : ∀ i (hi : i < zs'.length), d'[i]! = zs'[i].1 := fun i hi => by
      have e : d'.toList[i]? = (zs'.map (·.1))[i]? := by rw [hmz]
      rw [List.getElem?_map, List.getElem?_eq_getElem hi] at e
      have hi' : i < d'.size := by omega
      rw [getElem!_pos d' i hi']
      rw [Array.getElem?_toList, Array.getElem?_eq_getElem hi'] at e
      exact Option.some.inj e
    have hrow : EntRow w' (w.heap.size + 1) (fun _ => False) zs' := (h.row.carry ht.size (fun b hb hne _ => ht.block b hb (fun e => hne (by rw [e]; rfl))) (fun b hx => hx.elim)).perm hpz
    have hpm : (zs'.map (·.2)).Perm l := by rw [← hkeys]; exact hpz.map _
    have hnm : ∀ i (hi : i < zs'.length), zs'[i].1.name = id2 zs'[i].2 := fun i hi => (hrow _ (List.getElem_mem hi)).1
    refine ⟨zs'.map (·.2), zs', hpm, rfl, ?_, h.below.trans (ht.below h.below.size fun b hb e => by omega), ht.row h.res (by omega), hrow, .inr ⟨g, rfl, by have := ht.size; omega, fun j c hj hc => ?_⟩⟩
    · have hnd' : (ids (zs'.map (·.2))).Nodup := ((hpm.map id2).nodup_iff).2 hnd
      refine rises_of fun i j hi hj hij => ?_
      have hi' : i < zs'.length := by simpa [ids] using hi
      have hj' : j < zs'.length := by simpa [ids] using hj
      have ei : (ids (zs'.map (·.2)))[i] = zs'[i].1.name := by rw [hnm i hi']; simp [ids]
      have ej : (ids (zs'.map (·.2)))[j] = zs'[j].1.name := by rw [hnm j hj']; simp [ids]
      have hne : (ids (zs'.map (·.2)))[i] ≠ (ids (zs'.map (·.2)))[j] := fun e => by
        exact (List.pairwise_iff_getElem.1 hnd') i j hi hj hij e
      rw [ei, ej] at hne ⊢
      have h1 := hso i j hij (by omega)
      rw [hdz i hi', hdz j hj'] at h1
      cases hb : bl zs'[i].1.name zs'[j].1.name
      · exact absurd (bl_tri hb h1) hne
      · rfl
    · have := (HoldsK.cell hH' (i := j) (c := c) (by omega) hc).1
      rw [hdz j hj] at this
      simpa using this

end Go.Proofs.YtcahpjejpimdhaaGreatDoor

namespace Go.Proofs.YtcahpjejpimdhaaGreatDoor
open Go.RowKit Go.Shelf Go.Sort

set_option maxHeartbeats 1000000 in
set_option maxRecDepth 100000 in
theorem keyTable (l : List Key2) (a : Option Addr) (c : Nat) (w : World) (hK : KeysAt w 0 w.heap.size a l) (hl : l.length ≤ 4294967) (hs : ∀ k ∈ l, k.1.size ≤ 300 ∧ k.2.size ≤ 300) (hT : Tabs w) :
    Calls Tryz.prog 32 #[.slice a l.length c] w (TabPost l w) := by
  have HK := Lib.hid hK
  have HS := Lib.hid hs
  have HT := Lib.hid hT
  clear hK hs hT
  have HR0 := Lib.hid (rowIs_box5 w (.int .u8 0) (.int .i64 0) (.string { data := #[] }) (.slice none 0 0) (.slice none 0 0) 29)
  have HB0 := Lib.hid (show Below w.heap.size w (w.alloc (.cells #[.int .u8 0, .int .i64 0, .string { data := #[] }, .slice none 0 0, .slice none 0 0] 29)) from (Below.refl _ _).alloc (Nat.le_refl _) _)
  by_cases h32 : l.length ≤ 32
  case neg =>
    have h32' : decide (32 < l.length) = true := by simp; omega
    have h33' : decide (32 < (l.length : Int)) = true := by simp; omega
    have HE := Lib.hid (show tabE l = 5 by unfold tabE; rw [if_pos (by omega)])
    go_enter Tryz.func32, Tryz.ntmps32
    go_wp2
    refine bodyPost_ret (results_row_tmp Tryz.results32 _ _ w.heap.size 29 _ (0, 0) _ rfl (heap_alloc_new w _) Tryz.underlying29 rfl (by kernel_rfl) _ rfl) rfl (.inl ⟨by rw [HE.out]; decide, by rw [HE.out]; rfl, HB0.out⟩)
  have h32' : decide (32 < l.length) = false := by simp; omega
  have h33' : decide (32 < (l.length : Int)) = false := by simp; omega
  have HE := Lib.hid (show tabE l = tabErr [] l by unfold tabE; rw [if_neg (by omega)])
  obtain ⟨i3, hi3, iz0, iz1, iz2⟩ := info_parts infoEntry
  go_enter Tryz.func32, Tryz.ntmps32
  go_wp2
  go_loopw [4, 6, 7, 8, 10, 20] (fun v _ _ _ _ i wr => ∃ (k : Nat) (zs : List (Mem × Key2)), k ≤ l.length ∧ i = .int .i64 k ∧ TabAt w wr v l k zs) (fun _ _ _ _ _ i _ => l.length - (intOf i).toNat)
  case atStart => exact ⟨0, [], by omega, rfl, HB0.out, HR0.out, World.ownsRow_nil _ _ _ _, EntRow.nil _ _ _, by simp, by simp [ids]⟩
  case round =>
    obtain ⟨k, zs, hk, rfl, hA⟩ := hrel
    have HA := Lib.hid hA
    have hwz : w.heap.size < wr.heap.size := hA.res.lt
    by_cases hlt : k < l.length
    · obtain ⟨b, off, ha, _, hb, e0, e1⟩ := (HK.out.below hA.below (Nat.le_refl _) (Nat.le_refl _) hA.below.size).at k hlt
      subst ha
      obtain ⟨hs1, hs2⟩ := HS.out l[k] (List.getElem_mem hlt)
      have HST := Lib.hid (tabErr_step l k hlt)
      have HLK := Lib.hid hlt
      obtain ⟨x, hx⟩ : ∃ x, x = l[k] := ⟨_, rfl⟩
      have HX := Lib.hid hx
      replace e0 := e0.trans (congrArg (fun z : Key2 => some (Value.string z.1)) hx.symm)
      replace e1 := e1.trans (congrArg (fun z : Key2 => some (Value.string z.2)) hx.symm)
      replace hs1 : x.1.size ≤ 300 := hx ▸ hs1
      replace hs2 : x.2.size ≤ 300 := hx ▸ hs2
      replace HST := Lib.hid (show tabErr (ids (l.take k)) (l.drop k) = if ok2 x then (if hasId (ids (l.take k)) (id2 x) then 7 else tabErr (ids (l.take (k + 1))) (l.drop (k + 1))) else 3 from hx ▸ HST.out)
      clear hx hA
      obtain ⟨xs, xp⟩ := x
      replace hs1 : xs.size ≤ 300 := hs1
      replace hs2 : xp.size ≤ 300 := hs2
      replace e0 : wr.cell? ⟨b, off + k * 2, none⟩ = some (.string xs) := e0
      replace e1 : wr.cell? ⟨b, off + k * 2 + 1, none⟩ = some (.string xp) := e1
      have HBA := Lib.hid (show Below wr.heap.size wr (wr.alloc (.cells #[.string xs, .string xp] 23)) from (Below.refl _ _).alloc (Nat.le_refl _) _)
      have HTA := Lib.hid ((HT.out.below HA.out.below).below HBA.out)
      cases hok : keyOk xs.data.toList xp.data.toList
      · have HEN := Lib.hid (entryOf_no xs xp (wr.alloc (.cells #[.string xs, .string xp] 23)) (by omega) (by omega) HTA.out hok)
        have HTE := Lib.hid (show tabE l = 3 by rw [HE.out, HA.out.err, HST.out]; unfold ok2; rw [if_neg (by simp [hok])])
        clear hok
        unfold EntNo at HEN
        go_wp2_with fail
        refine HEN.out.mono ?_
        clear HEN
        rintro e w1 ⟨rfl, hb1⟩
        have hbw := HBA.out.trans (hb1.mono (by simp))
        have hb1' := hbw.alloc hbw.size (.cells #[.string { data := #[] }, .int .u8 0, .int .i64 0, .string { data := #[] }, .slice none 0 0, .slice none 0 0] 96)
        have HA1 := Lib.hid (HA.out.later hb1')
        have hrow := HA1.out.res
        have t0 := hrow.cell (i := 0) (by decide); have t1 := hrow.cell (i := 1) (by decide); have t2 := hrow.cell (i := 2) (by decide); have t3 := hrow.cell (i := 3) (by decide); have t4 := hrow.cell (i := 4) (by decide)
        have s0 := hrow.frozen 0; have s1 := hrow.frozen 1; have s2 := hrow.frozen 2; have s3 := hrow.frozen 3; have s4 := hrow.frozen 4
        simp only [pick5] at t0 t1 t2 t3 t4
        clear hrow hb1 hbw hb1'
        go_wp2
        refine bodyPost_ret (results_row_tmp Tryz.results32 _ _ w.heap.size 29 _ (0, 0) _ rfl (row5_heap (set5 _ _ _ _ _ HA1.out.res)) Tryz.underlying29 rfl (by kernel_rfl) _ rfl) rfl (.inl ⟨by rw [HTE.out]; decide, by rw [HTE.out]; rfl, below5 _ _ _ _ _ HA1.out.below (Nat.le_refl _)⟩)
      · have HEN := Lib.hid (entryOf_yes xs xp (wr.alloc (.cells #[.string xs, .string xp] 23)) (by omega) (by omega) HTA.out hok)
        have HOK := Lib.hid hok
        clear hok
        unfold EntYes at HEN
        obtain ⟨ID, hID⟩ : ∃ ID, ID = idOf xs xp := ⟨_, rfl⟩
        rw [← hID] at HEN
        have HID := Lib.hid hID
        clear hID
        go_wp2_with fail
        refine HEN.out.mono ?_
        clear HEN
        rintro e w1 ⟨an, cn, ai, ci, rfl, hr1, hb1⟩
        have hbw := HBA.out.trans (hb1.mono (by simp))
        have hz1 : wr.heap.size + 1 ≤ w1.heap.size := by have := hb1.size; simpa using this
        obtain ⟨W1, hW1⟩ : ∃ W1, W1 = w1.alloc (.cells #[.string ID, .int .u8 5, .int .i64 0, .string { data := #[] }, .slice an 2 cn, .slice ai 2 ci] 96) := ⟨_, rfl⟩
        have hb1' : Below wr.heap.size wr W1 := by rw [hW1]; exact hbw.alloc hbw.size _
        have HB1 := Lib.hid hb1'
        have HA1 := Lib.hid (HA.out.later hb1')
        have HX1 := Lib.hid (show W1.heap[w1.heap.size]? = some (.cells #[.string ID, .int .u8 5, .int .i64 0, .string { data := #[] }, .slice an 2 cn, .slice ai 2 ci] 96 (0, 0)) by rw [hW1]; exact heap_alloc_new w1 _)
        have HR1 := Lib.hid (show Rep W1 (wr.heap.size + 1) w1.heap.size (keyJ xs xp) (.agg #[.int .u8 5, .int .i64 0, .string { data := #[] }, .slice an 2 cn, .slice ai 2 ci]) by
          rw [hW1]
          exact Rep.carry (by simp) (Nat.le_refl _) (fun b _ h => Below.heap_alloc _ _ _ h) _ _ hr1)
        have hZ1 : W1.heap.size = w1.heap.size + 1 := by rw [hW1]; simp
        have HZ1 := Lib.hid hZ1
        obtain ⟨av, cap, rfl, hsl⟩ := HA.out.sliced hk
        have hlz : zs.length = k := HA.out.len hk
        have HW1 := Lib.hid hW1
        clear hW1 hb1' hbw hr1 hb1 e0 e1 hsl hZ1
        obtain ⟨wo, rfl⟩ : ∃ wo : World, wo = wr := ⟨_, rfl⟩
        go_wp2_with fail
        rw [← HW1.out]
        clear HW1
        go_loopw [10, 35] (fun _ i wr => ∃ j : Nat, j ≤ k ∧ i = .int .i64 j ∧ (∀ q (hq : q < zs.length), q < j → (zs[q].1.name.toList == ID.toList) = false) ∧ Below W1.heap.size W1 wr) (fun _ i _ => k - (intOf i).toNat)
        case atStart => exact ⟨0, by omega, rfl, fun q _ h => by omega, Below.refl _ _⟩
        case round =>
          obtain ⟨j, hj, rfl, hno, hbq⟩ := hrel
          have HNO := Lib.hid hno
          have HBQ := Lib.hid hbq
          have HAQ := Lib.hid (HA1.out.later hbq)
          have hxq : wr.heap[w1.heap.size]? = some (.cells #[.string ID, .int .u8 5, .int .i64 0, .string { data := #[] }, .slice an 2 cn, .slice ai 2 ci] 96 (0, 0)) := by rw [hbq.block _ (by rw [HZ1.out]; omega)]; exact HX1.out
          have HXQ := Lib.hid hxq
          have hzq : w1.heap.size < wr.heap.size := heap_lt hxq
          have x0 : wr.cell? ⟨w1.heap.size, 0, none⟩ = some (.string ID) := box_cell hxq rfl
          clear hno hbq
          by_cases hjk : j < k
          · have hjz : j < zs.length := by omega
            obtain ⟨g, ha, hg1, hg2, hcell⟩ : ∃ g, av = some ⟨g, 0, none⟩ ∧ w.heap.size < g ∧ g < wr.heap.size ∧ ∀ j c (hj : j < zs.length), c < 6 → wr.cell? ⟨g, j * 6 + c, none⟩ = some ((encM zs[j].1)[c]!) := by
              obtain ⟨av', cap', hv, hc⟩ := HAQ.out.sliced hk
              simp only [Value.slice.injEq, true_and] at hv
              obtain ⟨rfl, rfl⟩ := hv
              rcases hc with ⟨h0, _⟩ | hc
              · omega
              · exact hc
            subst ha
            have y0 := hcell j 0 hjz (by decide); have y1 := hcell j 1 hjz (by decide); have y2 := hcell j 2 hjz (by decide); have y3 := hcell j 3 hjz (by decide); have y4 := hcell j 4 hjz (by decide); have y5 := hcell j 5 hjz (by decide)
            have HHT := Lib.hid (HAQ.out.hit ID j hjz)
            have HNJ := Lib.hid (show (zs[j].1.name.toList == ID.toList) = false → ∀ q (hq : q < zs.length), q < j + 1 → (zs[q].1.name.toList == ID.toList) = false from fun h q hq hqj => by
              by_cases e : q = j
              · subst e; exact h
              · exact HNO.out q hq (by omega))
            clear hcell hxq
            generalize zs[j].1 = mj at y0 y1 y2 y3 y4 y5 HHT HNJ
            simp only [encM, Nat.add_zero, List.getElem!_cons_zero, List.getElem!_cons_succ] at y0 y1 y2 y3 y4 y5
            have x0' : (wr.alloc (.cells #[.string mj.name, .int .u8 mj.k, .int .i64 mj.n, .string mj.t, .slice mj.an mj.nn mj.cn, .slice mj.ai mj.ni mj.ci] 96)).cell? ⟨w1.heap.size, 0, none⟩ = some (.string ID) := (cell_alloc_lt _ hzq).trans x0
            have HBJ := Lib.hid (show Below W1.heap.size W1 (wr.alloc (.cells #[.string mj.name, .int .u8 mj.k, .int .i64 mj.n, .string mj.t, .slice mj.an mj.nn mj.cn, .slice mj.ai mj.ni mj.ci] 96)) from HBQ.out.alloc HBQ.out.size _)
            have HAJ := Lib.hid (HA1.out.later HBJ.out)
            have hg3 : (0 : Int) ≤ (j : Int) := by omega
            have hg4 : (j : Int) < (k : Int) := by omega
            cases hq : (mj.name.toList == ID.toList)
            · have HN2 := Lib.hid (HNJ.out hq)
              clear HHT HNJ
              go_wp2
              go_roundw
              case rel => exact ⟨j + 1, by omega, by go_num, HN2.out, HBJ.out⟩
              case measure => simp [intOf]; omega
            · have HTE := Lib.hid (show tabE l = 7 by
                rw [HE.out, HA.out.err, HST.out]
                unfold ok2 id2
                rw [if_pos HOK.out, if_pos (by have := HHT.out hq; rw [HID.out] at this; exact this)])
              have hrow := HAJ.out.res
              have t0 := hrow.cell (i := 0) (by decide); have t1 := hrow.cell (i := 1) (by decide); have t2 := hrow.cell (i := 2) (by decide); have t3 := hrow.cell (i := 3) (by decide); have t4 := hrow.cell (i := 4) (by decide)
              have s0 := hrow.frozen 0; have s1 := hrow.frozen 1; have s2 := hrow.frozen 2; have s3 := hrow.frozen 3; have s4 := hrow.frozen 4
              simp only [pick5] at t0 t1 t2 t3 t4
              clear hrow HHT HNJ
              go_wp2
              refine bodyPost_ret (results_row_tmp Tryz.results32 _ _ w.heap.size 29 _ (0, 0) _ rfl (row5_heap (set5 _ _ _ _ _ HAJ.out.res)) Tryz.underlying29 rfl (by kernel_rfl) _ rfl) rfl (.inl ⟨by rw [HTE.out]; decide, by rw [HTE.out]; rfl, below5 _ _ _ _ _ HAJ.out.below (Nat.le_refl _)⟩)
          · have HFR := Lib.hid (HAQ.out.fresh ID (fun q hq => HNO.out q hq (by omega)))
            have x1 : wr.cell? ⟨w1.heap.size, 1, none⟩ = some (.int .u8 5) := box_cell hxq rfl
            have x2 : wr.cell? ⟨w1.heap.size, 2, none⟩ = some (.int .i64 0) := box_cell hxq rfl
            have x3 : wr.cell? ⟨w1.heap.size, 3, none⟩ = some (.string { data := #[] }) := box_cell hxq rfl
            have x4 : wr.cell? ⟨w1.heap.size, 4, none⟩ = some (.slice an 2 cn) := box_cell hxq rfl
            have x5 : wr.cell? ⟨w1.heap.size, 5, none⟩ = some (.slice ai 2 ci) := box_cell hxq rfl
            have HN := Lib.hid HAQ.out.own
            have hwq : w.heap.size + 1 ≤ wr.heap.size := by have := HAQ.out.res.lt; omega
            clear hxq
            go_wp2_with (at_builtin; refine wpList_append_lies _ rfl (.tmp 46) (.tmp 48) 94 rfl (w.heap.size + 1) 96 i3 _ 6 96 Tryz.underlying94 hi3 iz0 iz1 iz2 rfl (by decide) (.slice av k cap) k ((zs.map (·.1)).flatMap encM) rfl (HN.out.alloc _) ⟨wr.heap.size, 0, none⟩ 1 1 (encM ⟨ID, 5, 0, { data := #[] }, an, 2, cn, ai, 2, ci⟩) rfl rfl (World.news_of_block (cs := #[.string ID, .int .u8 5, .int .i64 0, .string { data := #[] }, .slice an 2 cn, .slice ai 2 ci]) (t := 96) (fr := (0, 0)) (heap_alloc_new wr _)) (by simp [encM, Value.oneCell']) (by omega) (by unfold maxLen; omega) (by omega) (by simp; omega) (wr.heap.size + 1) (by simp) ?_; intro g1 cap2 w6 hown6 hgrow6 hat6 hlt6; have HO6 := Lib.hid hown6; have HG6 := Lib.hid hgrow6; have HA6 := Lib.hid hat6; clear hown6 hgrow6 hat6)
            go_roundw
            case rel =>
              refine ⟨k + 1, zs ++ [(⟨ID, 5, 0, { data := #[] }, an, 2, cn, ai, 2, ci⟩, l[k])], by omega, by go_num, ?_⟩
              have hbn : Below wo.heap.size wo (wr.alloc (.cells #[.string ID, .int .u8 5, .int .i64 0, .string { data := #[] }, .slice an 2 cn, .slice ai 2 ci] 96)) := (HB1.out.trans (HBQ.out.mono HB1.out.size)).alloc (by have := HB1.out.size; have := HBQ.out.size; omega) _
              refine TabAt.snoc (lo := wo.heap.size + 1) (hi := w1.heap.size) ⟨ID, 5, 0, { data := #[] }, an, 2, cn, ai, 2, ci⟩ HA.out HLK.out hbn ?_ ?_ ?_ (by omega) (by simp; omega) ?_ HG6.out (by rcases HA6.out with h | h; exact .inl h; exact .inr (by simp; omega)) HO6.out
              · exact HID.out.trans (congrArg id2 HX.out)
              · exact (congrArg ok2 HX.out).symm.trans HOK.out
              · exact (congrArg (fun z => hasId (ids (l.take k)) (id2 z)) HX.out).symm.trans (by have := HFR.out; rw [HID.out] at this; exact this)
              · have hrr : Rep (wr.alloc (.cells #[.string ID, .int .u8 5, .int .i64 0, .string { data := #[] }, .slice an 2 cn, .slice ai 2 ci] 96)) (wo.heap.size + 1) w1.heap.size (obj2 (xs, xp)) (Mem.val ⟨ID, 5, 0, { data := #[] }, an, 2, cn, ai, 2, ci⟩) := Rep.carry (Nat.le_refl _) (Nat.le_refl _) (fun b _ h => by rw [Below.heap_alloc _ _ _ (by omega), HBQ.out.block b (by rw [HZ1.out]; omega)]) _ _ HR1.out
                exact Eq.mp (congrArg (fun z => Rep (wr.alloc (.cells #[.string ID, .int .u8 5, .int .i64 0, .string { data := #[] }, .slice an 2 cn, .slice ai 2 ci] 96)) (wo.heap.size + 1) w1.heap.size (obj2 z) (Mem.val ⟨ID, 5, 0, { data := #[] }, an, 2, cn, ai, 2, ci⟩)) HX.out) hrr
            case measure => simp [intOf]; omega
    · obtain rfl : k = l.length := by omega
      have HTE := Lib.hid (show tabE l = 0 by
        rw [HE.out, HA.out.err, List.drop_length]; rfl)
      obtain ⟨av, cap, rfl, hsl⟩ := HA.out.sliced (Nat.le_refl _)
      have HSO := Lib.hid (HA.out.sorted hl (by rcases hsl with h | ⟨g, h1, h2, h3, _⟩; exact .inl h; exact .inr ⟨g, h1, h2, h3⟩))
      clear hsl hA hlt hk
      obtain ⟨wo, rfl⟩ : ∃ wo : World, wo = wr := ⟨_, rfl⟩
      go_wp2_with fail
      refine HSO.out.mono ?_
      clear HSO
      rintro e w2 ⟨rfl, m, zz, hso⟩
      have HSA := Lib.hid hso
      have HB3 := Lib.hid (show Below w2.heap.size w2 (w2.alloc (.cells #[.int .u8 5, .int .i64 0, .string { data := #[] }, .slice none 0 0, .slice none 0 0] 29)) from (Below.refl _ _).alloc (Nat.le_refl _) _)
      have HO := Lib.hid (show ObjAt2 (w2.alloc (.cells #[.int .u8 5, .int .i64 0, .string { data := #[] }, .slice none 0 0, .slice none 0 0] 29)) (w2.alloc (.cells #[.int .u8 5, .int .i64 0, .string { data := #[] }, .slice none 0 0, .slice none 0 0] 29)) (w.heap.size + 1) w2.heap.size 29 9 29 (.slice none 0 0) (.slice none 0 0) [] [] [] from
        ⟨by simp, by have := hso.res.lt; simp; omega, Touch.refl _ _, rowIs_box5 _ _ _ _ _ _ _, World.ownsRow_nil _ _ _ _, World.ownsRow_nil _ _ _ _, RepRow.nil _ _ _, fun b hb => by simp [Value.ownBlock] at hb⟩)
      have hlm : m.length = l.length := hso.perm.length_eq
      have hlz : zz.length = l.length := by have := congrArg List.length hso.keys; simp at this; omega
      have hw2 : w.heap.size < w2.heap.size := hso.res.lt
      have HCE := Lib.hid hso.cells
      clear hso
      obtain ⟨nd, hnd⟩ : ∃ nd, nd = l.length := ⟨_, rfl⟩
      rw [← hnd] at hlm hlz h32 hl HCE
      have HND := Lib.hid hnd
      obtain ⟨i1, hi1, hy0, hy1, hy2⟩ := info_parts infoValue
      obtain ⟨i2, hi2, hx0, hx1, hx2⟩ := info_parts infoStr
      rw [← hnd]
      clear hnd h32' h33'
      go_wp2_with fail
      obtain ⟨cb, hcb⟩ : ∃ cb, cb = w2.heap.size := ⟨_, rfl⟩
      obtain ⟨W, hW⟩ : ∃ W, W = w2.alloc (.cells #[.int .u8 5, .int .i64 0, .string { data := #[] }, .slice none 0 0, .slice none 0 0] 29) := ⟨_, rfl⟩
      rw [← hW] at HO HB3
      rw [← hcb] at HO
      rw [← hW, ← hcb]
      have HCB := Lib.hid hcb
      have HWZ := Lib.hid (show W.heap.size = cb + 1 by rw [hW, hcb]; simp)
      clear hW hcb
      go_loopw [13, 56] (fun _ i wr => ∃ (k : Nat) (cs : List Value) (vn vi : Value), k ≤ nd ∧ i = .int .i64 k ∧ ObjAt2 W wr (w.heap.size + 1) cb 29 9 29 vn vi ((ids m).take k) ((m.map obj2).take k) cs) (fun _ i _ => nd - (intOf i).toNat)
      case atStart => exact ⟨0, [], .slice none 0 0, .slice none 0 0, by omega, rfl, by simpa using HO.out⟩
      case round =>
        clear HO
        obtain ⟨k, cs, vn, vi, hk, rfl, hobj⟩ := hrel
        have HOB := Lib.hid hobj
        have hcz : W.heap.size ≤ wr.heap.size := hobj.touch.size
        have hcw : cb < wr.heap.size := hobj.row.lt
        clear hobj
        by_cases hlt : k < nd
        · have hkz : k < zz.length := by omega
          have hkm : k < m.length := by omega
          obtain ⟨g, ha, hg2, hcell⟩ : ∃ g, av = some ⟨g, 0, none⟩ ∧ g < w2.heap.size ∧ ∀ j c (hj : j < zz.length), c < 6 → w2.cell? ⟨g, j * 6 + c, none⟩ = some ((encM zz[j].1)[c]!) := by
            rcases HCE.out with h | h
            · omega
            · exact h
          subst ha
          replace hcell : ∀ c, c < 6 → wr.cell? ⟨g, k * 6 + c, none⟩ = some ((encM zz[k].1)[c]!) := fun c hc => by
            rw [HOB.out.touch.cell (show g < W.heap.size by rw [HWZ.out, HCB.out]; omega) (show ¬ g = cb by rw [HCB.out]; omega), HB3.out.cell (by exact hg2)]
            exact hcell k c hkz hc
          have y0 := hcell 0 (by decide); have y1 := hcell 1 (by decide); have y2 := hcell 2 (by decide); have y3 := hcell 3 (by decide); have y4 := hcell 4 (by decide); have y5 := hcell 5 (by decide)
          clear hcell
          obtain ⟨hnz, lo, hi, hlo, hhi, _, hrep⟩ := HSA.out.row _ (List.getElem_mem hkz)
          have hmk : m[k] = zz[k].2 := by
            have : (zz.map (·.2))[k]'(by simpa using hkz) = m[k] := by simp only [HSA.out.keys]
            rw [← this]; simp
          have HTN := Lib.hid (show (ids m).take (k + 1) = (ids m).take k ++ [zz[k].1.name] by
            rw [List.take_succ_eq_append_getElem (by simpa [ids] using hkm), hnz]; simp [ids, hmk])
          have HTI := Lib.hid (show (m.map obj2).take (k + 1) = (m.map obj2).take k ++ [obj2 zz[k].2] by
            rw [List.take_succ_eq_append_getElem (by simpa using hkm)]; simp [hmk])
          have HREP := Lib.hid (show Rep wr lo hi (obj2 zz[k].2) zz[k].1.val from Rep.carry (Nat.le_refl _) (Nat.le_refl _) (fun b h1 h2 => by rw [HOB.out.touch.block b (by rw [HWZ.out, HCB.out]; omega) (by rw [HCB.out]; omega), HB3.out.block b (by omega)]) _ _ hrep)
          have HHI := Lib.hid (show hi ≤ cb by rw [HCB.out]; exact hhi)
          obtain ⟨pan, pcn, pai, pci, hval, _⟩ := hrep.parts
          have HVAL := Lib.hid hval
          clear hnz hrep hhi hmk hval
          generalize zz[k].2 = kk at HTI HREP HVAL
          generalize zz[k].1 = mk at y0 y1 y2 y3 y4 y5 HTN HREP HVAL
          simp only [encM, Nat.add_zero, List.getElem!_cons_zero, List.getElem!_cons_succ] at y0 y1 y2 y3 y4 y5
          have HLN := Lib.hid (show ((ids m).take k).length = k by simp [ids]; omega)
          have HLI := Lib.hid (show ((m.map obj2).take k).length = k by simp; omega)
          have HN := Lib.hid (show wr.ownsRow W.heap.size 9 1 vn k (((ids m).take k).map .string) by have := HOB.out.names; rwa [HLN.out] at this)
          have HBO := Lib.hid (show Below wr.heap.size wr (wr.alloc (.cells #[.string mk.name, .int .u8 mk.k, .int .i64 mk.n, .string mk.t, .slice mk.an mk.nn mk.cn, .slice mk.ai mk.ni mk.ci] 96)) from (Below.refl _ _).alloc (Nat.le_refl _) _)
          have HO2 := Lib.hid (HOB.out.below HBO.out)
          have c3 : (wr.alloc (.cells #[.string mk.name, .int .u8 mk.k, .int .i64 mk.n, .string mk.t, .slice mk.an mk.nn mk.cn, .slice mk.ai mk.ni mk.ci] 96)).cell? ⟨cb, 3, none⟩ = some vn := HO2.out.row.cell (by decide)
          have f3 : (wr.alloc (.cells #[.string mk.name, .int .u8 mk.k, .int .i64 mk.n, .string mk.t, .slice mk.an mk.nn mk.cn, .slice mk.ai mk.ni mk.ci] 96)).frozen? ⟨cb, 3, none⟩ = false := HO2.out.row.frozen 3
          have c4 : (wr.alloc (.cells #[.string mk.name, .int .u8 mk.k, .int .i64 mk.n, .string mk.t, .slice mk.an mk.nn mk.cn, .slice mk.ai mk.ni mk.ci] 96)).cell? ⟨cb, 4, none⟩ = some vi := HO2.out.row.cell (by decide)
          have f4 : (wr.alloc (.cells #[.string mk.name, .int .u8 mk.k, .int .i64 mk.n, .string mk.t, .slice mk.an mk.nn mk.cn, .slice mk.ai mk.ni mk.ci] 96)).frozen? ⟨cb, 4, none⟩ = false := HO2.out.row.frozen 4
          have hxb := heap_alloc_new wr (.cells #[.string mk.name, .int .u8 mk.k, .int .i64 mk.n, .string mk.t, .slice mk.an mk.nn mk.cn, .slice mk.ai mk.ni mk.ci] 96)
          have b1 : (wr.alloc (.cells #[.string mk.name, .int .u8 mk.k, .int .i64 mk.n, .string mk.t, .slice mk.an mk.nn mk.cn, .slice mk.ai mk.ni mk.ci] 96)).cell? ⟨wr.heap.size, 1, none⟩ = some (.int .u8 mk.k) := box_cell hxb rfl
          have b2 : (wr.alloc (.cells #[.string mk.name, .int .u8 mk.k, .int .i64 mk.n, .string mk.t, .slice mk.an mk.nn mk.cn, .slice mk.ai mk.ni mk.ci] 96)).cell? ⟨wr.heap.size, 2, none⟩ = some (.int .i64 mk.n) := box_cell hxb rfl
          have b3 : (wr.alloc (.cells #[.string mk.name, .int .u8 mk.k, .int .i64 mk.n, .string mk.t, .slice mk.an mk.nn mk.cn, .slice mk.ai mk.ni mk.ci] 96)).cell? ⟨wr.heap.size, 3, none⟩ = some (.string mk.t) := box_cell hxb rfl
          have b4 : (wr.alloc (.cells #[.string mk.name, .int .u8 mk.k, .int .i64 mk.n, .string mk.t, .slice mk.an mk.nn mk.cn, .slice mk.ai mk.ni mk.ci] 96)).cell? ⟨wr.heap.size, 4, none⟩ = some (.slice mk.an mk.nn mk.cn) := box_cell hxb rfl
          have b5 : (wr.alloc (.cells #[.string mk.name, .int .u8 mk.k, .int .i64 mk.n, .string mk.t, .slice mk.an mk.nn mk.cn, .slice mk.ai mk.ni mk.ci] 96)).cell? ⟨wr.heap.size, 5, none⟩ = some (.slice mk.ai mk.ni mk.ci) := box_cell hxb rfl
          have HN2 := Lib.hid (HN.out.alloc (.cells #[.string mk.name, .int .u8 mk.k, .int .i64 mk.n, .string mk.t, .slice mk.an mk.nn mk.cn, .slice mk.ai mk.ni mk.ci] 96))
          have hz5 : (wr.alloc (.cells #[.string mk.name, .int .u8 mk.k, .int .i64 mk.n, .string mk.t, .slice mk.an mk.nn mk.cn, .slice mk.ai mk.ni mk.ci] 96)).heap.size = wr.heap.size + 1 := by simp
          have HNEW := Lib.hid (show ((wr.alloc (.cells #[.string mk.name, .int .u8 mk.k, .int .i64 mk.n, .string mk.t, .slice mk.an mk.nn mk.cn, .slice mk.ai mk.ni mk.ci] 96)).alloc (.cells #[.string mk.name] 9)).heap[wr.heap.size + 1]? = some (.cells #[.string mk.name] 9 (0, 0)) by have := heap_alloc_new (wr.alloc (.cells #[.string mk.name, .int .u8 mk.k, .int .i64 mk.n, .string mk.t, .slice mk.an mk.nn mk.cn, .slice mk.ai mk.ni mk.ci] 96)) (.cells #[.string mk.name] 9); rwa [hz5] at this)
          have hnb : some cb ≠ vn.ownBlock := fun e => by have := (HOB.out.names.lt _ e.symm).1; have := HWZ.out; omega
          have hnx : some wr.heap.size ≠ vn.ownBlock := fun e => by have := (HOB.out.names.lt _ e.symm).2; omega
          have hci : some cb ≠ vi.ownBlock := fun e => by have := (HOB.out.items.lt _ e.symm).1; have := HWZ.out; omega
          have hw5 : W.heap.size ≤ (wr.alloc (.cells #[.string mk.name, .int .u8 mk.k, .int .i64 mk.n, .string mk.t, .slice mk.an mk.nn mk.cn, .slice mk.ai mk.ni mk.ci] 96)).heap.size := by simp; omega
          clear hxb
          have hg3 : (0 : Int) ≤ (k : Int) := by omega
          have hg4 : (k : Int) < (nd : Int) := by omega
          have hcbn : ¬ cb = wr.heap.size := by omega
          go_wp2_with (at_builtin; first
            | (refine wpList_append_lies _ rfl (.tmp 61) (.tmp 64) 26 rfl W.heap.size 9 i2 _ 1 16 Tryz.underlying26 hi2 hx0 hx1 hx2 rfl (by decide) vn k (((ids m).take k).map .string) rfl (HN2.out.alloc _) ⟨wr.heap.size + 1, 0, none⟩ 1 1 [.string mk.name] rfl rfl (World.news_of_block (cs := #[.string mk.name]) (t := 9) (fr := (0, 0)) HNEW.out) (by simp [Value.oneCell']) (by omega) (by unfold maxLen; omega) (by omega) (by simp; omega) (wr.heap.size + 2) (by simp) ?_; intro g1 cap2 w6 hown6 hgrow6 hat6 hlt6
               have c36 := grow_cell hgrow6 (by simp; omega) hnb c3; have f36 := grow_frozen hgrow6 (by simp; omega) hnb f3; have c46 := grow_cell hgrow6 (by simp; omega) hnb c4; have f46 := grow_frozen hgrow6 (by simp; omega) hnb f4
               have d1 := grow_cell hgrow6 (by simp) hnx b1; have d2 := grow_cell hgrow6 (by simp) hnx b2; have d3 := grow_cell hgrow6 (by simp) hnx b3; have d4 := grow_cell hgrow6 (by simp) hnx b4; have d5 := grow_cell hgrow6 (by simp) hnx b5
               have hz6 := hgrow6.size
               rw [show ((wr.alloc (.cells #[.string mk.name, .int .u8 mk.k, .int .i64 mk.n, .string mk.t, .slice mk.an mk.nn mk.cn, .slice mk.ai mk.ni mk.ci] 96)).alloc (.cells #[.string mk.name] 9)).heap.size = wr.heap.size + 2 by simp] at hz6
               have HO7 := Lib.hid (show ObjAt2 W (w6.setCell ⟨cb, 3, none⟩ (.slice (some ⟨g1, 0, none⟩) (k + 1) cap2)) (w.heap.size + 1) cb 29 9 29 (.slice (some ⟨g1, 0, none⟩) (k + 1) cap2) vi ((ids m).take k ++ [mk.name]) ((m.map obj2).take k) cs by
                 have := (HO2.out.below ((Below.refl _ _).alloc (Nat.le_refl _) (.cells #[.string mk.name] 9))).name mk.name (g := g1) (cap := cap2) hgrow6 (by rcases hat6 with h | h; exact .inl h; exact .inr (by simp; omega)) (by rw [HLN.out]; exact hown6)
                 rwa [HLN.out] at this)
               have HI7 := Lib.hid (show (w6.setCell ⟨cb, 3, none⟩ (.slice (some ⟨g1, 0, none⟩) (k + 1) cap2)).ownsRow W.heap.size 29 5 vi k cs by have := HO7.out.items; rwa [HLI.out] at this)
               have HG6 := Lib.hid hgrow6
               clear hown6 hgrow6 hat6)
            | (refine wpList_append_lies _ rfl (.tmp 68) (.tmp 71) 27 rfl W.heap.size 29 i1 _ 5 80 Tryz.underlying27 hi1 hy0 hy1 hy2 rfl (by decide) vi k cs rfl (HI7.out.alloc _) ⟨w6.heap.size, 0, none⟩ 1 1 [.int .u8 mk.k, .int .i64 mk.n, .string mk.t, .slice mk.an mk.nn mk.cn, .slice mk.ai mk.ni mk.ci] rfl rfl ?_ (by simp [Value.oneCell']) (by omega) (by unfold maxLen; omega) (by omega) ?_ (w6.heap.size + 1) (by simp [World.setCell]) ?_
               · have := World.news_of_block (cs := #[.int .u8 mk.k, .int .i64 mk.n, .string mk.t, .slice mk.an mk.nn mk.cn, .slice mk.ai mk.ni mk.ci]) (t := 29) (fr := (0, 0)) (heap_alloc_new (w6.setCell ⟨cb, 3, none⟩ (.slice (some ⟨g1, 0, none⟩) (k + 1) cap2)) (.cells #[.int .u8 mk.k, .int .i64 mk.n, .string mk.t, .slice mk.an mk.nn mk.cn, .slice mk.ai mk.ni mk.ci] 29))
                 rw [show (w6.setCell ⟨cb, 3, none⟩ (.slice (some ⟨g1, 0, none⟩) (k + 1) cap2)).heap.size = w6.heap.size by simp [World.setCell]] at this
                 exact this
               · simp [World.setCell]; omega
               intro g2 cap3 w8 hown8 hgrow8 hat8 hlt8
               have c48 := grow_cell hgrow8 (by simp [World.setCell]; omega) hci (HO7.out.row.cell (i := 4) (by decide)); have f48 := grow_frozen hgrow8 (by simp [World.setCell]; omega) hci (HO7.out.row.frozen 4)
               have HO8 := Lib.hid hown8; have HG8 := Lib.hid hgrow8; have HA8 := Lib.hid hat8
               clear hown8 hgrow8 hat8))
          go_roundw
          case rel =>
            refine ⟨k + 1, cs ++ [.int .u8 mk.k, .int .i64 mk.n, .string mk.t, .slice mk.an mk.nn mk.cn, .slice mk.ai mk.ni mk.ci], .slice (some ⟨g1, 0, none⟩) (k + 1) cap2, .slice (some ⟨g2, 0, none⟩) (k + 1) cap3, by omega, by go_num, ?_⟩
            have hv := HVAL.out
            simp only [Mem.val, Value.agg.injEq, Array.mk.injEq, List.cons.injEq, Value.int.injEq, Value.string.injEq, true_and, and_true] at hv
            obtain ⟨q0, q1, q2, q3, q4⟩ := hv
            have hr := HREP.out
            unfold Mem.val at hr
            rw [q0, q1, q2, q3, q4] at hr
            have ho := HO8.out
            rw [q0, q1, q2, q3, q4] at ho ⊢
            rw [HTN.out, HTI.out]
            have hgw : Below wr.heap.size wr ((wr.alloc (.cells #[.string mk.name, .int .u8 mk.k, .int .i64 mk.n, .string mk.t, .slice mk.an mk.nn mk.cn, .slice mk.ai mk.ni mk.ci] 96)).alloc (.cells #[.string mk.name] 9)) := HBO.out.alloc (by simp) _
            have hr7 : Rep ((w6.setCell ⟨cb, 3, none⟩ (.slice (some ⟨g1, 0, none⟩) (k + 1) cap2)).alloc (.cells #[.int .u8 (obj2 kk).kind, .int .i64 (obj2 kk).n, .string (obj2 kk).t, .slice pan (obj2 kk).names.length pcn, .slice pai (obj2 kk).items.length pci] 29)) lo hi (obj2 kk) (.agg #[.int .u8 (obj2 kk).kind, .int .i64 (obj2 kk).n, .string (obj2 kk).t, .slice pan (obj2 kk).names.length pcn, .slice pai (obj2 kk).items.length pci]) := by
              refine Rep.carry (Nat.le_refl _) (Nat.le_refl _) (fun b h1 h2 => ?_) _ _ hr
              have := HHI.out
              rw [Below.heap_alloc _ _ _ (by simp [World.setCell]; omega), Below.heap_setCell _ _ _ _ (by show b ≠ cb; omega), HG6.out.block b (by simp; omega) (fun e => by have := (HOB.out.names.lt b e.symm).1; have := HWZ.out; omega), hgw.block b (by omega)]
            have hob := (HO7.out.below ((Below.refl _ _).alloc (Nat.le_refl _) (.cells #[.int .u8 (obj2 kk).kind, .int .i64 (obj2 kk).n, .string (obj2 kk).t, .slice pan (obj2 kk).names.length pcn, .slice pai (obj2 kk).items.length pci] 29)))
            have hg8 := HG8.out
            rw [q0, q1, q2, q3, q4] at hg8
            have := hob.item (it := obj2 kk) (lo := lo) (hi := hi) (g := g2) (cap := cap3) hlo HHI.out hr7 hg8 (by rcases HA8.out with h | h; exact .inl h; exact .inr (by simp [World.setCell]; omega)) (by rw [HLI.out]; exact ho)
            rw [HLI.out] at this
            exact this
          case measure => simp [intOf]; omega
        · obtain rfl : k = nd := by omega
          have hn1 : (ids m).take k = ids m := List.take_of_length_le (by simp [ids]; omega)
          have hn2 : (m.map obj2).take k = m.map obj2 := List.take_of_length_le (by simp; omega)
          rw [hn1, hn2] at HOB
          have HLN := Lib.hid (show (ids m).length = k by simp [ids]; omega)
          have HLI := Lib.hid (show (m.map obj2).length = k by simp; omega)
          obtain ⟨an, cn, ai, ci, rfl, rfl, hrep⟩ := HOB.out.done
          have HRP := Lib.hid hrep
          have hrow0 := HOB.out.names
          have hrow := HOB.out.row
          have hres := HOB.out.touch.row (below_row HB3.out HSA.out.res hw2) (by rw [HCB.out]; omega)
          have hcbw : w.heap.size < cb := by rw [HCB.out]; exact hw2
          rw [HLN.out, HLI.out] at hrow
          have r0 := hrow.cell (i := 0) (by decide); have r1 := hrow.cell (i := 1) (by decide); have r2 := hrow.cell (i := 2) (by decide); have r3 := hrow.cell (i := 3) (by decide); have r4 := hrow.cell (i := 4) (by decide)
          have t0 := hres.cell (i := 0) (by decide); have t1 := hres.cell (i := 1) (by decide); have t2 := hres.cell (i := 2) (by decide); have t3 := hres.cell (i := 3) (by decide); have t4 := hres.cell (i := 4) (by decide)
          have s0 := hres.frozen 0; have s1 := hres.frozen 1; have s2 := hres.frozen 2; have s3 := hres.frozen 3; have s4 := hres.frozen 4
          simp only [pick5] at r0 r1 r2 r3 r4 t0 t1 t2 t3 t4
          have HRS := Lib.hid hres
          have HBW := Lib.hid (show Below w.heap.size w wr from (HSA.out.below.trans (HB3.out.mono (by omega))).trans (HOB.out.touch.below (by have := HWZ.out; omega) fun j hj e => by omega))
          have HNM := Lib.hid hrow0
          clear hrow hres hrep hn1 hn2 hrow0 HOB
          go_wp2
          refine bodyPost_ret (results_row_tmp Tryz.results32 _ _ w.heap.size 29 _ (0, 0) _ rfl (row5_heap (set5 _ _ _ _ _ HRS.out)) Tryz.underlying29 rfl (by kernel_rfl) _ rfl) rfl (.inr ⟨HTE.out, m, HSA.out.perm, HSA.out.rise, an, cn, ai, ci, ?_, ?_, below5 _ _ _ _ _ HBW.out (Nat.le_refl _), ?_⟩)
          · show _ = Ending.returned (.tuple #[.agg #[.int .u8 5, .int .i64 0, .string { data := #[] }, .slice an (ids m).length cn, .slice ai (m.map obj2).length ci], .int .i64 0])
            rw [HLN.out, HLI.out]; rfl
          · exact Rep.carry (by omega) (show wr.heap.size ≤ _ by simp [World.setCell]) (fun j hj _ => heap5 _ _ _ _ _ (by omega)) _ _ HRP.out
          · exact owns_room (owns_mono (base' := w.heap.size) (owns_of_block HNM.out fun b hb => heap5 _ _ _ _ _ (by have := (HNM.out.lt b hb).1; have := HWZ.out; omega)) (by have := HWZ.out; omega))

end Go.Proofs.YtcahpjejpimdhaaGreatDoor

namespace Go.Proofs.YtcahpjejpimdhaaGreatDoor
open Go.RowKit

/-- The first s keys of l turned by y, from behind. -/
def turned (l : List Key2) (y s : Nat) : List Key2 := (List.range s).map fun j => l.getD ((l.length - 1 - j + y) % l.length) ({ data := #[] }, { data := #[] })
theorem turned_succ (l : List Key2) (y s : Nat) (h : (l.length - 1 - s + y) % l.length < l.length) : turned l y (s + 1) = turned l y s ++ [l[(l.length - 1 - s + y) % l.length]] := by
  unfold turned
  rw [List.range_succ, List.map_append, List.map_singleton, List.getD_eq_getElem?_getD, List.getElem?_eq_getElem h]
  rfl
theorem turned_len (l : List Key2) (y s : Nat) : (turned l y s).length = s := by simp [turned]
theorem mod_two (i y n : Nat) (hi : i < n) : (i + y) % n = if i + y % n < n then i + y % n else i + y % n - n := by
  have hn : 0 < n := by omega
  have h1 := Nat.mod_lt y hn
  rw [Nat.add_mod, Nat.mod_eq_of_lt hi]
  split
  · exact Nat.mod_eq_of_lt (by assumption)
  · rw [Nat.mod_eq_sub_mod (by omega)]
    exact Nat.mod_eq_of_lt (by omega)
theorem turned_perm (l : List Key2) (y : Nat) : (turned l y l.length).Perm l := by
  by_cases h0 : l.length = 0
  · rw [h0]
    have : l = [] := List.eq_nil_of_length_eq_zero h0
    subst this
    exact List.Perm.refl _
  have hn : 0 < l.length := by omega
  have hy := Nat.mod_lt y hn
  have e : (turned l y l.length).reverse = l.drop (y % l.length) ++ l.take (y % l.length) := by
    apply List.ext_getElem
    · simp [turned]; omega
    · intro i h1 h2
      have hi : i < l.length := by simpa [turned] using h1
      rw [List.getElem_reverse]
      simp only [turned, List.getElem_map, List.getElem_range, List.length_map, List.length_range]
      rw [show l.length - 1 - (l.length - 1 - i) = i by omega, mod_two i y _ hi]
      by_cases hlt : i + y % l.length < l.length
      · rw [if_pos hlt, List.getElem_append_left (by simp; omega), List.getElem_drop, List.getD_eq_getElem?_getD, List.getElem?_eq_getElem hlt]
        simp [Nat.add_comm]
      · rw [if_neg hlt, List.getElem_append_right (by simp; omega), List.getElem_take, List.getD_eq_getElem?_getD, List.getElem?_eq_getElem (by omega)]
        simp only [Option.getD_some, List.length_drop]
        congr 1
        omega
  refine (List.reverse_perm _).symm.trans ?_
  rw [e]
  refine List.perm_append_comm.trans ?_
  rw [List.take_append_drop]

theorem tabE_perm {l M : List Key2} (hp : M.Perm l) : (tabE M == 0) = (tabE l == 0) := by
  have key : ∀ {l M : List Key2}, M.Perm l → tabE l = 0 → tabE M = 0 := fun {l M} hp h => by
    unfold tabE at h ⊢
    rw [hp.length_eq]
    split at h
    · cases h
    · rename_i hn
      rw [if_neg hn]
      obtain ⟨a, _, c⟩ := (tabErr_zero l []).1 h
      exact (tabErr_zero M []).2 ⟨fun k hk => a k (hp.subset hk), by simp, (hp.map id2).nodup_iff.2 c⟩
  rw [Bool.eq_iff_iff, beq_iff_eq, beq_iff_eq]
  exact ⟨key hp.symm, key hp⟩
theorem tabE_parts {l : List Key2} (h : tabE l = 0) : (∀ k ∈ l, ok2 k = true) ∧ (ids l).Nodup := by
  unfold tabE at h
  split at h
  · cases h
  · obtain ⟨a, _, c⟩ := (tabErr_zero l []).1 h
    exact ⟨a, c⟩
theorem findK_mem {x : Key2} : ∀ {M : List Key2}, x ∈ M → (∀ k ∈ M, ok2 k = true) → (ids M).Nodup → findK (id2 x) M = (x, true)
  | k :: r, hx, hok, hnd => by
    have hh : keyHit (id2 x) k = (ok2 k && ((id2 k).toList == (id2 x).toList)) := rfl
    unfold findK
    unfold ids at hnd
    rw [List.map_cons, List.nodup_cons] at hnd
    rw [hh, hok k (by simp), Bool.true_and]
    rcases List.mem_cons.1 hx with rfl | hx
    · rw [if_pos (by simp)]
    · have hne : ((id2 k).toList == (id2 x).toList) = false := by
        cases hq : (id2 k).toList == (id2 x).toList
        · rfl
        · exact absurd (List.mem_map.2 ⟨x, hx, (ba_ext2 (eq_of_beq hq)).symm⟩) hnd.1
      rw [hne, if_neg (by simp)]
      exact findK_mem hx (fun k hk => hok k (List.mem_cons_of_mem _ hk)) hnd.2

theorem id2_size {k : Key2} : (id2 k).size ≤ 64 := by
  show (keyId _ _).toArray.size ≤ 64
  unfold keyId
  split
  · rw [List.size_toArray, shaHex_length]; exact Nat.le_refl _
  · simp
theorem obj2_wt {k : Key2} (h : k.1.size ≤ 300 ∧ k.2.size ≤ 300) : (obj2 k).wt ≤ 1000 := by
  unfold obj2 keyJ txtJ
  have e1 : pubN.size = 6 := rfl
  have e2 : schN.size = 6 := rfl
  have e3 : ({ data := #[] } : ByteArray).size = 0 := rfl
  simp only [JV.wt, JV.wts, bytesSum]
  omega
theorem tabJ_wt {m : List Key2} (hs : ∀ k ∈ m, k.1.size ≤ 300 ∧ k.2.size ≤ 300) : (tabJ m).wt ≤ 1 + 1100 * m.length := by
  have h1 : ∀ m : List Key2, bytesSum (m.map id2) ≤ 65 * m.length := fun m => by
    induction m with
    | nil => simp [bytesSum]
    | cons k r ih => have := @id2_size k; simp only [List.map_cons, bytesSum, List.length_cons]; omega
  have h2 : ∀ m : List Key2, (∀ k ∈ m, k.1.size ≤ 300 ∧ k.2.size ≤ 300) → JV.wts (m.map obj2) ≤ 1000 * m.length := fun m => by
    induction m with
    | nil => intro _; simp [JV.wts]
    | cons k r ih => intro hs; have := obj2_wt (hs k (by simp)); have := ih (fun k hk => hs k (List.mem_cons_of_mem _ hk)); simp only [List.map_cons, JV.wts, List.length_cons]; omega
  have e3 : ({ data := #[] } : ByteArray).size = 0 := rfl
  have := h1 m
  have := h2 m hs
  unfold tabJ
  simp only [JV.wt]
  omega

/-- Table, in one form. -/
def TabAny (l : List Key2) (w : World) (e : Ending) (w' : World) : Prop :=
  ∃ u : JV, (tabE l = 0 → ∃ m : List Key2, m.Perm l ∧ rises (ids m) = true ∧ u = tabJ m) ∧ (tabE l ≠ 0 → u = zeroJ) ∧ u.wt ≤ 4294967296 ∧ ValPost u (tabE l) w e w'
theorem keyTable_any (l : List Key2) (a : Option Addr) (c : Nat) (w : World) (hK : KeysAt w 0 w.heap.size a l) (hl : l.length ≤ 40) (hs : ∀ k ∈ l, k.1.size ≤ 300 ∧ k.2.size ≤ 300) (hT : Tabs w) :
    Calls Tryz.prog 32 #[.slice a l.length c] w (TabAny l w) := by
  refine (keyTable l a c w hK (by omega) hs hT).mono ?_
  rintro e w' (⟨h1, rfl, hb⟩ | ⟨h1, m, hp, hr, hv⟩)
  · exact ⟨zeroJ, fun h => absurd h h1, fun _ => rfl, by decide, none, 0, none, 0, rfl, rep_zeroJ _ _ _, hb⟩
  · refine ⟨tabJ m, fun _ => ⟨m, hp, hr, rfl⟩, fun h => absurd h1 h, ?_, by rw [h1]; exact hv.val⟩
    have := tabJ_wt (m := m) (fun k hk => hs k (hp.subset hk))
    have := hp.length_eq
    omega
/-- .. the names in a row of the call's own. -/
def TabOwn (l : List Key2) (w : World) (e : Ending) (w' : World) : Prop :=
  ∃ u : JV, (tabE l = 0 → ∃ m : List Key2, m.Perm l ∧ rises (ids m) = true ∧ u = tabJ m) ∧ (tabE l ≠ 0 → u = zeroJ) ∧ u.wt ≤ 4294967296 ∧ OwnPost u (tabE l) w e w'
theorem keyTable_own (l : List Key2) (a : Option Addr) (c : Nat) (w : World) (hK : KeysAt w 0 w.heap.size a l) (hl : l.length ≤ 40) (hs : ∀ k ∈ l, k.1.size ≤ 300 ∧ k.2.size ≤ 300) (hT : Tabs w) :
    Calls Tryz.prog 32 #[.slice a l.length c] w (TabOwn l w) := by
  refine (keyTable l a c w hK (by omega) hs hT).mono ?_
  rintro e w' (⟨h1, rfl, hb⟩ | ⟨h1, m, hp, hr, hv⟩)
  · exact ⟨zeroJ, fun h => absurd h h1, fun _ => rfl, by decide, none, 0, none, 0, rfl, rep_zeroJ _ _ _, hb, .inl rfl⟩
  · refine ⟨tabJ m, fun _ => ⟨m, hp, hr, rfl⟩, fun h => absurd h1 h, ?_, by rw [h1]; exact hv⟩
    have := tabJ_wt (m := m) (fun k hk => hs k (hp.subset hk))
    have := hp.length_eq
    omega

def encK (k : Key2) : List Value := [.string k.1, .string k.2]
theorem flatK_get {M : List Key2} (i : Nat) (hi : i < M.length) : (M.flatMap encK)[i * 2]? = some (.string M[i].1) ∧ (M.flatMap encK)[i * 2 + 1]? = some (.string M[i].2) := by
  induction M generalizing i with
  | nil => simp at hi
  | cons k r ih =>
    rw [List.flatMap_cons]
    rcases i with _ | i
    · exact ⟨rfl, rfl⟩
    · have := ih i (by simpa using hi)
      rw [List.getElem?_append_right (by simp [encK]; omega), List.getElem?_append_right (by simp [encK]; omega)]
      have e1 : (i + 1) * 2 - (encK k).length = i * 2 := by simp [encK]; omega
      have e2 : (i + 1) * 2 + 1 - (encK k).length = i * 2 + 1 := by simp [encK]; omega
      rw [e1, e2]
      exact this
theorem owns_keys {w : World} {base e : Nat} {v : Value} {n : Nat} {M : List Key2} (h : w.ownsRow base e 2 v n (M.flatMap encK)) (hn : n = M.length) :
    ∃ a c, v = .slice a M.length c ∧ KeysAt w base w.heap.size a M := by
  subst hn
  rcases h.2 with ⟨rfl, h0⟩ | ⟨g, cap, cur, rfl, hg, hh, hc, hm, hs, ht⟩
  · exact ⟨none, 0, by rw [h0], .inl (List.eq_nil_of_length_eq_zero h0)⟩
  · refine ⟨_, _, rfl, .inr ⟨g, 0, rfl, hg, heap_lt hh, fun i hi => ?_⟩⟩
    have ea : ∀ j, (⟨g, 0, none⟩ : Addr).add j = ⟨g, 0 + j, none⟩ := fun j => by unfold Addr.add; split <;> simp_all
    have h1 := h.cells (g := g) rfl _ _ (flatK_get i hi).1
    have h2 := h.cells (g := g) rfl _ _ (flatK_get i hi).2
    rw [ea] at h1 h2
    exact ⟨h1, by rw [Nat.add_assoc]; exact h2⟩
theorem below_grown {B : Nat} {W w w' : World} {v : Value} (hb : Below B W w) (hBw : B ≤ w.heap.size) (hg : w.grownBy w' v.ownBlock) (hown : ∀ b, v.ownBlock = some b → B ≤ b) : Below B W w' := by
  refine ⟨by rw [hg.os, hb.os], by rw [hg.tape, hb.tape], by rw [hg.output, hb.output], Nat.le_trans hb.size hg.size, fun b hlt => ?_⟩
  rw [hg.block b (by omega) (fun e => by have := hown b e.symm; omega)]
  exact hb.block b hlt

theorem infoKey : (Tryz.prog.info? 23).map (fun i => (i.zero, i.size, i.bytes)) = some (some (.agg #[.string { data := #[] }, .string { data := #[] }]), 2, 32) := by kernel_rfl

end Go.Proofs.YtcahpjejpimdhaaGreatDoor
