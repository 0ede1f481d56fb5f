/- Plain: a signature more; as many keys as sign by HMAC. No program in sight. The contracts of sign.maySig and sign.object. Plain: rows turned about (JudgeRows). No program in sight. -/
import Derived.Test.YtaekmmnpdbmoeaaGreatDoorJh16
import Derived.Test.YtaekmmnpdbmoeaaGreatDoorJh13
import Derived.Deep.AppendLies
import Derived.Test.YtaekmmnpdbmoeaaGreatDoorJh04
import Derived.Outline

namespace Go.Proofs.YtaekmmnpdbmoeaaGreatDoor
open Go.RowKit

theorem filter_one {p q : ByteArray → Bool} {a : ByteArray} : ∀ {l : List ByteArray}, l.Nodup → a ∈ l → p a = false → q a = true → (∀ x ∈ l, x ≠ a → p x = q x) → (l.filter q).length = (l.filter p).length + 1
  | [], _, h, _, _, _ => by cases h
  | b :: r, hn, h, hp, hq, he => by
    rw [List.nodup_cons] at hn
    by_cases hb : b = a
    · subst hb
      rw [List.filter_cons_of_pos hq, List.filter_cons_of_neg (by simp [hp]), List.length_cons, filter_ext (p := p) (q := q) fun x hx => he x (by simp [hx]) fun e => hn.1 (e ▸ hx)]
    · have h' : a ∈ r := by
        rcases List.mem_cons.1 h with h | h
        · exact absurd h.symm hb
        · exact h
      have ih := filter_one hn.2 h' hp hq fun x hx => he x (by simp [hx])
      have e := he b (by simp) hb
      cases hq' : q b
      · rw [List.filter_cons_of_neg (by simp [hq']), List.filter_cons_of_neg (by simp [e, hq']), ih]
      · rw [List.filter_cons_of_pos hq', List.filter_cons_of_pos (by rw [e, hq']), List.length_cons, List.length_cons, ih]

/-- A signature more. -/
theorem hasV_more {v : Ver} {k : Key2} {id : ByteArray} {l : List Sig2} {s : Sig2} {i : Nat} {m : List UInt8} : hasV v k id (l.take i ++ [s] ++ l.drop i) m = (hasV v k id l m || (decide (s.1 = id) && v.good k s m)) := by
  rw [hasV_ext (m := s :: l) (fun x => ?_)]
  · unfold hasV
    rw [List.any_cons, Bool.or_comm]
  · have : (x ∈ l) ↔ x ∈ l.take i ++ l.drop i := by rw [List.take_append_drop]
    rw [List.mem_cons, this]
    simp only [List.mem_append, List.mem_singleton]
    constructor
    · rintro ((h | h) | h)
      · exact .inr (.inl h)
      · exact .inl h
      · exact .inr (.inr h)
    · rintro (h | h | h)
      · exact .inl (.inr h)
      · exact .inl (.inl h)
      · exact .inr h
def goodMore (v : Ver) (keys : List Key2) (ids : List ByteArray) (s : Sig2) (m : List UInt8) : Bool := (findK s.1 keys).2 && (decide (ids.any (fun i => decide (i = s.1)) = true) && v.good (findK s.1 keys).1 s m)
def hadMore (v : Ver) (keys : List Key2) (l : List Sig2) (s : Sig2) (m : List UInt8) : Bool := l.any fun q => decide (q.1 = s.1) && ((findK s.1 keys).2 && v.good (findK s.1 keys).1 q m)
theorem had_idV {v : Ver} {keys : List Key2} {l : List Sig2} {s : Sig2} {m : List UInt8} : hadMore v keys l s m = idV v keys l m s.1 := by
  unfold hadMore idV hasV
  cases h : (findK s.1 keys).2
  · simp
  · simp
theorem idV_more {v : Ver} {keys : List Key2} {l : List Sig2} {s : Sig2} {i : Nat} {m : List UInt8} (id : ByteArray) : idV v keys (l.take i ++ [s] ++ l.drop i) m id = (idV v keys l m id || ((findK id keys).2 && (decide (s.1 = id) && v.good (findK id keys).1 s m))) := by
  unfold idV
  rw [hasV_more]
  cases (findK id keys).2 <;> simp
theorem more_plus {v : Ver} {x : JV} {l : List Sig2} {s : Sig2} {i : Nat} {t : Int} {ids : List ByteArray} {keys : List Key2} (h1 : envOk x l = true) (h2 : envOk x (l.take i ++ [s] ++ l.drop i) = true)
    (hg : goodMore v keys ids s x.enc = true) (hh : hadMore v keys l s x.enc = false) (ha : authOk t ids = true) : countV v x (l.take i ++ [s] ++ l.drop i) t ids keys = countV v x l t ids keys + 1 := by
  unfold countV
  rw [if_pos ⟨ha, h2⟩, if_pos ⟨ha, h1⟩]
  unfold goodMore at hg
  simp only [Bool.and_eq_true, decide_eq_true_eq, List.any_eq_true] at hg
  obtain ⟨g1, ⟨a, g2, rfl⟩, g3⟩ := hg
  rw [had_idV] at hh
  refine filter_one ((authOk_iff t ids).1 ha).2.2 g2 hh ?_ fun y _ hy => ?_
  · rw [idV_more, g1, g3]; simp
  · rw [idV_more, decide_eq_false (fun e => hy e.symm)]; simp
theorem more_same {v : Ver} {x : JV} {l : List Sig2} {s : Sig2} {i : Nat} {t : Int} {ids : List ByteArray} {keys : List Key2} (h1 : envOk x l = true) (h2 : envOk x (l.take i ++ [s] ++ l.drop i) = true)
    (hg : (goodMore v keys ids s x.enc && (!hadMore v keys l s x.enc && authOk t ids)) = false) : countV v x (l.take i ++ [s] ++ l.drop i) t ids keys = countV v x l t ids keys := by
  unfold countV
  rw [h1, h2]
  split
  case isFalse => rfl
  case isTrue h =>
    rw [h.1, Bool.and_true] at hg
    refine filter_ext fun y hy => ?_
    rw [idV_more]
    by_cases e : s.1 = y
    · subst e
      rw [had_idV] at hg
      cases hq : idV v keys l x.enc s.1
      · rw [hq] at hg
        simp only [Bool.not_false, Bool.and_true] at hg
        unfold goodMore at hg
        have : ids.any (fun i => decide (i = s.1)) = true := List.any_eq_true.2 ⟨_, hy, by simp⟩
        rw [this] at hg
        simpa using hg
      · rfl
    · rw [decide_eq_false e]; simp

/-- As many as sign. -/
theorem pub_mac (p m : List UInt8) : pubOk (macHex p m) = true := by
  unfold pubOk macHex
  rw [allHex_enc, hexEnc_length, macL_length]
  rfl
theorem make_good {k : Key2} {m : List UInt8} (h : ok2 k = true) (hs : k.1 = schemeH) : Ver.mac.good k (makeS k m) m = true ∧ (makeS k m).1 = id2 k := by
  have e : makeS k m = (id2 k, ⟨(macHex k.2.data.toList m).toArray⟩) := by unfold makeS; rw [if_pos ⟨h, hs⟩]
  rw [e]
  refine ⟨?_, rfl⟩
  unfold Ver.good Ver.by
  simp only [pub_mac, h, hs, decide_true, Bool.true_and, decide_eq_true_eq]
  unfold macHex
  rw [hexDec_hexEnc]
def enoughSigs (keys : List Key2) (n : Nat) (others : List Sig2) (m : List UInt8) : List Sig2 := (keys.take n).map (fun k => makeS k m) ++ others.filter fun s => !((keys.map id2).any fun i => decide (i = s.1))
theorem enough_count {x : JV} {keys : List Key2} {n : Nat} {others : List Sig2} {t : Int} (hk : ∀ k ∈ keys, ok2 k = true ∧ k.1 = schemeH) (hn : n ≤ keys.length) (ha : authOk t (keys.map id2) = true) (he : envOk x (enoughSigs keys n others x.enc) = true) :
    countV .mac x (enoughSigs keys n others x.enc) t (keys.map id2) keys = n := by
  unfold countV
  rw [if_pos ⟨ha, he⟩]
  have hnd := ((authOk_iff _ _).1 ha).2.2
  have inj : ∀ (i j : Nat) (hi : i < keys.length) (hj : j < keys.length), id2 keys[i] = id2 keys[j] → i = j := fun i j hi hj e => by
    have h1 : (keys.map id2)[i]'(by simpa using hi) = (keys.map id2)[j]'(by simpa using hj) := by simpa using e
    have hp := List.pairwise_iff_getElem.1 hnd
    rcases Nat.lt_trichotomy i j with h | h | h
    · exact absurd h1 (hp i j (by simpa using hi) (by simpa using hj) h)
    · exact h
    · exact absurd h1.symm (hp j i (by simpa using hj) (by simpa using hi) h)
  have hid : ∀ i (hi : i < keys.length), idV .mac keys (enoughSigs keys n others x.enc) x.enc (id2 keys[i]) = decide (i < n) := fun i hi => by
    have hf : (findK (id2 keys[i]) keys).2 = true := by
      cases hf : (findK (id2 keys[i]) keys).2
      · have := findK_none hf keys[i] (List.getElem_mem hi)
        rw [(keyHit_iff _ _).2 ⟨(hk _ (List.getElem_mem hi)).1, rfl⟩] at this
        cases this
      · rfl
    obtain ⟨f1, f2, f3⟩ := findK_some hf
    obtain ⟨j, hj, e⟩ := List.getElem_of_mem f1
    rw [← e] at f3
    obtain rfl := inj j i hj hi f3
    unfold idV
    rw [hf, ← e, Bool.true_and]
    unfold hasV
    rw [Bool.eq_iff_iff, List.any_eq_true, decide_eq_true_eq]
    constructor
    · intro ⟨s, hs, hg⟩
      rw [Bool.and_eq_true, decide_eq_true_eq] at hg
      unfold enoughSigs at hs
      rcases List.mem_append.1 hs with hs | hs
      · obtain ⟨k, hk', rfl⟩ := List.mem_map.1 hs
        obtain ⟨q, hq, rfl⟩ := List.getElem_of_mem hk'
        rw [List.length_take] at hq
        rw [List.getElem_take] at hg
        have hqk := hk keys[q] (List.getElem_mem (by omega))
        rw [(make_good hqk.1 hqk.2).2] at hg
        have := inj q j (by omega) hj hg.1
        omega
      · rw [List.mem_filter] at hs
        have h2 := hs.2
        rw [Bool.not_eq_true', List.any_eq_false] at h2
        exact absurd (by simp [hg.1]) (h2 (id2 keys[j]) (List.mem_map.2 ⟨_, List.getElem_mem hj, rfl⟩))
    · intro hjn
      have hjk := hk keys[j] (List.getElem_mem hj)
      refine ⟨makeS keys[j] x.enc, ?_, by rw [(make_good hjk.1 hjk.2).1, (make_good hjk.1 hjk.2).2]; simp⟩
      unfold enoughSigs
      refine List.mem_append.2 (.inl (List.mem_map.2 ⟨keys[j], ?_, rfl⟩))
      rw [List.mem_take_iff_getElem]
      exact ⟨j, by omega, rfl⟩
  have e1 : ((keys.map id2).take n).filter (idV .mac keys (enoughSigs keys n others x.enc) x.enc) = (keys.map id2).take n := by
    rw [List.filter_eq_self]
    intro y hy
    obtain ⟨j, hj, rfl⟩ := List.getElem_of_mem hy
    rw [List.length_take, List.length_map] at hj
    rw [List.getElem_take, List.getElem_map, hid j (by omega), decide_eq_true (by omega)]
  have e2 : ((keys.map id2).drop n).filter (idV .mac keys (enoughSigs keys n others x.enc) x.enc) = [] := by
    rw [List.filter_eq_nil_iff]
    intro y hy
    obtain ⟨j, hj, rfl⟩ := List.getElem_of_mem hy
    rw [List.length_drop, List.length_map] at hj
    rw [List.getElem_drop, List.getElem_map, hid (n + j) (by omega), decide_eq_false (by omega)]
    simp
  have e3 : (keys.map id2).filter (idV .mac keys (enoughSigs keys n others x.enc) x.enc) = (keys.map id2).take n := by
    conv => lhs; rw [← List.take_append_drop n (keys.map id2)]
    rw [List.filter_append, e1, e2, List.append_nil]
  rw [e3, List.length_take, List.length_map]
  omega

end Go.Proofs.YtaekmmnpdbmoeaaGreatDoor

namespace Go.Proofs.YtaekmmnpdbmoeaaGreatDoor
open Go.RowKit

theorem sigOk_no64 {s : Sig2} (h : ¬ s.1.size = 64) : sigOk s = false := by unfold sigOk hex64; rw [decide_eq_false h]; rfl
theorem sigOk_hex {s : Sig2} (h : allHex s.1.data.toList = false) : sigOk s = false := by unfold sigOk hex64; rw [h, Bool.and_false]; rfl
theorem sigOk_yes {s : Sig2} (h : s.1.size = 64) (h2 : allHex s.1.data.toList = true) : sigOk s = pubOk s.2.data.toList := by unfold sigOk hex64; rw [decide_eq_true h, h2]; rfl

set_option maxHeartbeats 1000000 in
set_option maxRecDepth 100000 in
theorem maySig (i g : ByteArray) (w : World) (hi : i.size ≤ 9223372036854775807) (hg : g.size ≤ 9223372036854775807) :
    Calls Tryz.prog 60 #[.agg #[.string i, .string g]] w fun e w' => e = .returned (.bool (sigOk (i, g))) ∧ Below w.heap.size w w' := by
  have HB0 := Lib.hid (show Below w.heap.size w (w.alloc (.cells #[.string i, .string g] 26)) from (Below.refl _ _).alloc (Nat.le_refl _) _)
  have HI := Lib.hid (hexIs i (w.alloc (.cells #[.string i, .string g] 26)) (by omega))
  have HG := Lib.hid (hexIs g (w.alloc (.cells #[.string i, .string g] 26)) (by omega))
  by_cases h64 : i.size = 64
  · have d1 : ((i.size : Int) != 64) = false := by simp; omega
    obtain ⟨q, hq⟩ : ∃ q, q = allHex i.data.toList := ⟨_, rfl⟩
    rw [← hq] at HI
    cases q
    · have HF := Lib.hid (sigOk_hex (s := (i, g)) hq.symm)
      clear h64 hq
      go_enter Tryz.func60, Tryz.ntmps60
      go_wp2_with (go_at_call 57; refine HI.out.mono ?_; rintro e w1 ⟨rfl, rfl⟩)
      go_ret
      exact ⟨ret_bool HF.out.symm, HB0.out⟩
    · have HF := Lib.hid (sigOk_yes (s := (i, g)) h64 hq.symm)
      clear h64 hq
      by_cases c1 : 0 < g.size
      · have d2 : decide (0 < (g.size : Int)) = true := by simp; omega
        by_cases c2 : g.size ≤ 128
        · have d3 : decide ((g.size : Int) ≤ 128) = true := by simp; omega
          have hm : (g.size : Int).tmod 2 = ((g.size % 2 : Nat) : Int) := by rw [Int.tmod_eq_emod_of_nonneg (by omega)]; omega
          by_cases c3 : g.size % 2 = 0
          · have HP := Lib.hid (pub_hex (s := g) (by omega) c2 c3)
            rw [c3] at hm
            have hm : (g.size : Int).tmod 2 = 0 := hm
            clear c3
            go_enter Tryz.func60, Tryz.ntmps60
            go_wp2_with fail
            refine HI.out.mono ?_
            rintro e w1 ⟨rfl, rfl⟩
            go_wp2_with fail
            refine HG.out.mono ?_
            rintro e w1 ⟨rfl, rfl⟩
            go_wp2
            go_ret
            exact ⟨ret_bool (by rw [HF.out, HP.out]), HB0.out⟩
          · have HP := Lib.hid (pub_no (s := g) (by omega))
            have c4 : g.size % 2 = 1 := by omega
            rw [c4] at hm
            have hm : (g.size : Int).tmod 2 = 1 := hm
            clear c3 c4 HG
            go_enter Tryz.func60, Tryz.ntmps60
            go_wp2_with (go_at_call 57; refine HI.out.mono ?_; rintro e w1 ⟨rfl, rfl⟩)
            go_ret
            exact ⟨ret_bool (by rw [HF.out, HP.out]), HB0.out⟩
        · have d3 : decide ((g.size : Int) ≤ 128) = false := by simp; omega
          have HP := Lib.hid (pub_no (s := g) (by omega))
          clear HG
          go_enter Tryz.func60, Tryz.ntmps60
          go_wp2_with (go_at_call 57; refine HI.out.mono ?_; rintro e w1 ⟨rfl, rfl⟩)
          go_ret
          exact ⟨ret_bool (by rw [HF.out, HP.out]), HB0.out⟩
      · have d2 : decide (0 < (g.size : Int)) = false := decide_eq_false (by omega)
        have HP := Lib.hid (pub_no (s := g) (by omega))
        clear HG
        go_enter Tryz.func60, Tryz.ntmps60
        go_wp2_with (go_at_call 57; refine HI.out.mono ?_; rintro e w1 ⟨rfl, rfl⟩)
        go_ret
        exact ⟨ret_bool (by rw [HF.out, HP.out]), HB0.out⟩
  · have d1 : ((i.size : Int) != 64) = true := by rw [bne_iff_ne]; exact fun e => h64 (by omega)
    have HF := Lib.hid (sigOk_no64 (s := (i, g)) h64)
    clear h64 HI HG
    go_enter Tryz.func60, Tryz.ntmps60
    go_wp2
    go_ret
    exact ⟨ret_bool HF.out.symm, HB0.out⟩

/-- At the loop's head: k signatures are items of the list (in block cb). -/
structure SigsAt (W wr : World) (cb : Nat) (vi : Value) (k : Nat) (l : List Sig2) (cs : List Value) : Prop where
  touch : Touch (· = cb) W wr
  row : wr.rowIs cb 44 5 (pick5 (.int .u8 4) (.int .i64 0) (.string { data := #[] }) (.slice none 0 0) vi)
  own : wr.ownsRow W.heap.size 44 5 vi k cs
  reps : RepRow wr W.heap.size (fun b => b = cb ∨ vi.ownBlock = some b) ((l.take k).map sigJ) cs

theorem SigsAt.below {W wr w' : World} {cb k : Nat} {vi : Value} {l : List Sig2} {cs : List Value} (h : SigsAt W wr cb vi k l cs) (hb : Below wr.heap.size wr w') : SigsAt W w' cb vi k l cs :=
  ⟨h.touch.trans (Touch.of_below hb (Nat.le_refl _)), below_row hb h.row h.row.lt, owns_below h.own hb, h.reps.carry hb.size (Nat.le_refl _) (fun b hb' _ => hb.block b hb') (fun _ hx => .inl hx)⟩

/-- 'x.f = append(x.f, it)', the item's parts in memory ahead of it: what behind it holds. -/
theorem row_step2 {W wr w4 : World} {cb e T lo hi : Nat} {f : Nat → Value} {j k g cap : Nat} {vi : Value} {cs : List Value} {l : List JV} {it : JV} {an ai : Option Addr} {cn ci : Nat}
    (hcb : cb < W.heap.size) (htc : Touch (· = cb) W wr) (hrow : wr.rowIs cb T 5 f) (hown : wr.ownsRow W.heap.size e 5 vi k cs) (hrr : RepRow wr W.heap.size (fun b => b = cb ∨ vi.ownBlock = some b) l cs)
    (hr3 : Rep wr lo hi it (.agg #[.int .u8 it.kind, .int .i64 it.n, .string it.t, .slice an it.names.length cn, .slice ai it.items.length ci])) (hlo : W.heap.size ≤ lo) (hhi : hi ≤ wr.heap.size) (hx : ∀ b, vi.ownBlock = some b → ¬ (lo ≤ b ∧ b < hi))
    (hg : wr.grownBy w4 vi.ownBlock) (hat : vi.ownBlock = some g ∨ g = wr.heap.size)
    (ho4 : w4.ownsRow W.heap.size e 5 (.slice (some ⟨g, 0, none⟩) (k + 1) cap) (k + 1) (cs ++ [.int .u8 it.kind, .int .i64 it.n, .string it.t, .slice an it.names.length cn, .slice ai it.items.length ci])) :
    Touch (· = cb) W (w4.setCell ⟨cb, j, none⟩ (.slice (some ⟨g, 0, none⟩) (k + 1) cap)) ∧
    (w4.setCell ⟨cb, j, none⟩ (.slice (some ⟨g, 0, none⟩) (k + 1) cap)).rowIs cb T 5 (fun i => if i = j then .slice (some ⟨g, 0, none⟩) (k + 1) cap else f i) ∧
    (w4.setCell ⟨cb, j, none⟩ (.slice (some ⟨g, 0, none⟩) (k + 1) cap)).ownsRow W.heap.size e 5 (.slice (some ⟨g, 0, none⟩) (k + 1) cap) (k + 1) (cs ++ [.int .u8 it.kind, .int .i64 it.n, .string it.t, .slice an it.names.length cn, .slice ai it.items.length ci]) ∧
    RepRow (w4.setCell ⟨cb, j, none⟩ (.slice (some ⟨g, 0, none⟩) (k + 1) cap)) W.heap.size (fun b => b = cb ∨ (Value.slice (some ⟨g, 0, none⟩) (k + 1) cap).ownBlock = some b) (l ++ [it]) (cs ++ [.int .u8 it.kind, .int .i64 it.n, .string it.t, .slice an it.names.length cn, .slice ai it.items.length ci]) := by
  have hwz : W.heap.size ≤ wr.heap.size := htc.size
  have hz4 : wr.heap.size ≤ w4.heap.size := hg.size
  have hz5 : (w4.setCell ⟨cb, j, none⟩ (.slice (some ⟨g, 0, none⟩) (k + 1) cap)).heap.size = w4.heap.size := by simp [World.setCell]
  have hoz : ∀ b, vi.ownBlock = some b → W.heap.size ≤ b ∧ b < wr.heap.size := fun b hb => hown.lt b hb
  have s2 : ∀ b, b < wr.heap.size → vi.ownBlock ≠ some b → w4.heap[b]? = wr.heap[b]? := fun b hb hne => hg.block b hb (fun e => hne e.symm)
  have s3 : ∀ b, b ≠ cb → (w4.setCell ⟨cb, j, none⟩ (.slice (some ⟨g, 0, none⟩) (k + 1) cap)).heap[b]? = w4.heap[b]? := fun b hb => Below.heap_setCell _ _ _ _ hb
  have hcn : vi.ownBlock ≠ some cb := fun e => by have := (hoz cb e).1; omega
  refine ⟨⟨?_, ?_, ?_, by omega, fun b hb hne => ?_⟩, ?_, ?_, ?_⟩
  · show w4.os = _; rw [hg.os, htc.os]
  · show w4.tape = _; rw [hg.tape, htc.tape]
  · show w4.output = _; rw [hg.output, htc.output]
  · rw [s3 b hne, s2 b (by omega) (fun e => by have := (hoz b e).1; omega)]; exact htc.block b hb hne
  · have h4 : w4.rowIs cb T 5 f := hrow.of_block (by rw [s2 cb (by omega) hcn])
    exact h4.set j _
  · exact ownsRow_setCell_below ho4 hcb _
  · have hgb : ∀ b, (Value.slice (some ⟨g, 0, none⟩) (k + 1) cap).ownBlock = some b → b = g := fun b hb => by
      simp [Value.ownBlock] at hb; exact hb.symm
    have c1 : RepRow (w4.setCell ⟨cb, j, none⟩ (.slice (some ⟨g, 0, none⟩) (k + 1) cap)) W.heap.size (fun b => b = cb ∨ (Value.slice (some ⟨g, 0, none⟩) (k + 1) cap).ownBlock = some b) l cs := by
      refine hrr.carry (by omega) (Nat.le_refl _) (fun b hb hx => ?_) (fun b hx => ?_)
      · rw [s3 b (fun e => hx (.inl e)), s2 b (by omega) (fun e => hx (.inr e))]
      · rcases hx with hx | hx
        · exact .inl (.inl hx)
        · rw [hgb b hx]
          rcases hat with ha | ha
          · exact .inl (.inr ha)
          · exact .inr (by omega)
    refine c1.snoc it lo hi an cn ai ci (by omega) (by omega) (fun b hb' hb => ?_) (Rep.carry (Nat.le_refl _) (Nat.le_refl _) (fun b h1 h2 => ?_) _ _ hr3)
    · rcases hb' with hb' | hb'
      · omega
      · rw [hgb b hb'] at hb
        rcases hat with ha | ha
        · exact hx g ha hb
        · omega
    · rw [s3 b (by omega), s2 b (by omega) (fun e => hx b e ⟨h1, h2⟩)]
/-- One signature more. -/
theorem SigsAt.snoc {W wr w3 w4 : World} {cb k vc g cap bn bi B T T' : Nat} {va : Option Addr} {l : List Sig2} {cs : List Value} {i0 g0 : ByteArray} (h : SigsAt W wr cb (.slice va k vc) k l cs) (hcb : cb < W.heap.size) (hlt : k < l.length) (hi0 : i0 = l[k].1) (hg0 : g0 = l[k].2)
    (hb3 : Below wr.heap.size wr w3) (hB : wr.heap.size ≤ B)
    (hn : w3.heap[bn]? = some (.cells #[.string nKeyid, .string nSig] T (0, 0)))
    (hi : w3.heap[bi]? = some (.cells #[.int .u8 3, .int .i64 0, .string i0, .slice none 0 0, .slice none 0 0, .int .u8 3, .int .i64 0, .string g0, .slice none 0 0, .slice none 0 0] T' (0, 0)))
    (h1 : B ≤ bn) (h3 : B ≤ bi)
    (hg : w3.grownBy w4 (Value.slice va k vc).ownBlock) (hat : (Value.slice va k vc).ownBlock = some g ∨ g = w3.heap.size)
    (ho4 : w4.ownsRow W.heap.size 44 5 (.slice (some ⟨g, 0, none⟩) (k + 1) cap) (k + 1) (cs ++ [.int .u8 5, .int .i64 0, .string { data := #[] }, .slice (some ⟨bn, 0, none⟩) 2 2, .slice (some ⟨bi, 0, none⟩) 2 2])) :
    SigsAt W (w4.setCell ⟨cb, 4, none⟩ (.slice (some ⟨g, 0, none⟩) (k + 1) cap)) cb (.slice (some ⟨g, 0, none⟩) (k + 1) cap) (k + 1) l (cs ++ [.int .u8 5, .int .i64 0, .string { data := #[] }, .slice (some ⟨bn, 0, none⟩) 2 2, .slice (some ⟨bi, 0, none⟩) 2 2]) := by
  subst hi0 hg0
  have hwz : W.heap.size ≤ wr.heap.size := h.touch.size
  have h' := h.below hb3
  have hr3 := rep_two (lo := B) (hi := w3.heap.size) hn hi h1 (heap_lt hn) h3 (heap_lt hi)
  obtain ⟨r1, r2, r3, r4⟩ := row_step2 (it := sigJ l[k]) (j := 4) hcb h'.touch h'.row h'.own h'.reps hr3 (by omega) (Nat.le_refl _) (fun b hb hh => by have := (h.own.lt b hb).2; omega) hg hat ho4
  refine ⟨r1, r2.congr fun j hj => ?_, r3, ?_⟩
  · rcases j with _ | _ | _ | _ | _ | j <;> first | rfl | omega
  · have e : (l.take (k + 1)).map sigJ = (l.take k).map sigJ ++ [sigJ l[k]] := by rw [List.take_succ_eq_append_getElem hlt, List.map_append]; rfl
    rw [e]; exact r4

/-- An envelope's object, at the end. -/
theorem env_rep {w W wr : World} {v : JV} {l : List Sig2} {c0 c1 c2 c3 c4 d0 d1 d2 d3 d4 v0 v1 v2 v3 v4 : Value} {T T' : Nat} (hW : W.heap.size = w.heap.size + 3) (hBW : Below w.heap.size w W) (hT : Touch (· = w.heap.size + 2) W wr)
    (hR : Rep w 0 w.heap.size v (.agg #[d0, d1, d2, d3, d4])) (hL : Rep wr W.heap.size wr.heap.size (sigsJ l) (.agg #[c0, c1, c2, c3, c4])) :
    Rep (((((((wr.setCell ⟨w.heap.size + 1, 0, none⟩ v0).setCell ⟨w.heap.size + 1, 1, none⟩ v1).setCell ⟨w.heap.size + 1, 2, none⟩ v2).setCell ⟨w.heap.size + 1, 3, none⟩ v3).setCell ⟨w.heap.size + 1, 4, none⟩ v4).alloc (.cells #[.string nSigs, .string nSigned] T)).alloc (.cells #[c0, c1, c2, c3, c4, d0, d1, d2, d3, d4] T')) 0 (((((((wr.setCell ⟨w.heap.size + 1, 0, none⟩ v0).setCell ⟨w.heap.size + 1, 1, none⟩ v1).setCell ⟨w.heap.size + 1, 2, none⟩ v2).setCell ⟨w.heap.size + 1, 3, none⟩ v3).setCell ⟨w.heap.size + 1, 4, none⟩ v4).alloc (.cells #[.string nSigs, .string nSigned] T)).alloc (.cells #[c0, c1, c2, c3, c4, d0, d1, d2, d3, d4] T')).heap.size (envJ v l) (.agg #[.int .u8 5, .int .i64 0, .string { data := #[] }, .slice (some ⟨wr.heap.size, 0, none⟩) 2 2, .slice (some ⟨wr.heap.size + 1, 0, none⟩) 2 2]) := by
  have hz : W.heap.size ≤ wr.heap.size := hT.size
  obtain ⟨X, hX⟩ : ∃ X, X = (((((wr.setCell ⟨w.heap.size + 1, 0, none⟩ v0).setCell ⟨w.heap.size + 1, 1, none⟩ v1).setCell ⟨w.heap.size + 1, 2, none⟩ v2).setCell ⟨w.heap.size + 1, 3, none⟩ v3).setCell ⟨w.heap.size + 1, 4, none⟩ v4) := ⟨_, rfl⟩
  have hXz : X.heap.size = wr.heap.size := by rw [hX, size5]
  have hXs : ∀ b, b ≠ w.heap.size + 1 → X.heap[b]? = wr.heap[b]? := fun b hb => by rw [hX]; exact heap5 _ _ _ _ _ hb
  rw [← hX]
  have hs : ∀ b, b < wr.heap.size → b ≠ w.heap.size + 1 → ((X.alloc (.cells #[.string nSigs, .string nSigned] T)).alloc (.cells #[c0, c1, c2, c3, c4, d0, d1, d2, d3, d4] T')).heap[b]? = wr.heap[b]? := fun b hb hne => by
    rw [(below_n2 X _ _).block b (by omega), hXs b hne]
  have hn : ((X.alloc (.cells #[.string nSigs, .string nSigned] T)).alloc (.cells #[c0, c1, c2, c3, c4, d0, d1, d2, d3, d4] T')).heap[wr.heap.size]? = some (.cells #[.string nSigs, .string nSigned] T (0, 0)) := by
    rw [← hXz, Below.heap_alloc _ _ _ (by simp)]; exact heap_alloc_new X _
  have hi : ((X.alloc (.cells #[.string nSigs, .string nSigned] T)).alloc (.cells #[c0, c1, c2, c3, c4, d0, d1, d2, d3, d4] T')).heap[wr.heap.size + 1]? = some (.cells #[c0, c1, c2, c3, c4, d0, d1, d2, d3, d4] T' (0, 0)) := by
    have := heap_alloc_new (X.alloc (.cells #[.string nSigs, .string nSigned] T)) (.cells #[c0, c1, c2, c3, c4, d0, d1, d2, d3, d4] T')
    rw [show (X.alloc (.cells #[.string nSigs, .string nSigned] T)).heap.size = wr.heap.size + 1 by simp [hXz]] at this
    exact this
  have hsz : ((X.alloc (.cells #[.string nSigs, .string nSigned] T)).alloc (.cells #[c0, c1, c2, c3, c4, d0, d1, d2, d3, d4] T')).heap.size = wr.heap.size + 2 := by simp [hXz]
  refine rep_vals2 (T := T) (T' := T') hn hi (Nat.zero_le _) (by omega) (Nat.zero_le _) (by omega) (Rep.carry (Nat.zero_le _) (by omega) (fun b h1 h2 => hs b h2 (by omega)) _ _ hL) (Rep.carry (Nat.le_refl _) (by omega) (fun b _ h2 => ?_) _ _ hR)
  rw [hs b (by omega) (by omega), hT.block b (by omega) (by omega)]; exact hBW.block b h2
theorem env_below {w W wr : World} {v0 v1 v2 v3 v4 : Value} {o o' : Obj} (hW : W.heap.size = w.heap.size + 3) (hBW : Below w.heap.size w W) (hT : Touch (· = w.heap.size + 2) W wr) :
    Below w.heap.size w (((((((wr.setCell ⟨w.heap.size + 1, 0, none⟩ v0).setCell ⟨w.heap.size + 1, 1, none⟩ v1).setCell ⟨w.heap.size + 1, 2, none⟩ v2).setCell ⟨w.heap.size + 1, 3, none⟩ v3).setCell ⟨w.heap.size + 1, 4, none⟩ v4).alloc o).alloc o') := by
  have h1 : Below w.heap.size w wr := hBW.trans (hT.below (B := w.heap.size) (by omega) (fun k hk e => by omega))
  have h2 := below5 v0 v1 v2 v3 v4 h1 (b := w.heap.size + 1) (by omega)
  exact (h2.alloc h2.size _).alloc (by have := h2.size; simp at this ⊢; omega) _

end Go.Proofs.YtaekmmnpdbmoeaaGreatDoor

namespace Go.Proofs.YtaekmmnpdbmoeaaGreatDoor
open Go.RowKit

def turned {α : Type} (q : Nat) (l : List α) : List α := l.drop q ++ l.take q
theorem turned_perm {α : Type} (q : Nat) (l : List α) : (turned q l).Perm l := by
  unfold turned
  have h := List.perm_append_comm (l₁ := l.drop q) (l₂ := l.take q)
  rwa [List.take_append_drop] at h
theorem turned_length {α : Type} (q : Nat) (l : List α) : (turned q l).length = l.length := (turned_perm q l).length_eq
theorem turned_get {α : Type} {q : Nat} {l : List α} (hq : q < l.length) {i : Nat} (hi : i < l.length) : (turned q l)[i]? = l[(q + i) % l.length]? := by
  unfold turned
  by_cases h : q + i < l.length
  · rw [List.getElem?_append_left (by rw [List.length_drop]; omega), List.getElem?_drop, Nat.mod_eq_of_lt h]
  · rw [List.getElem?_append_right (by rw [List.length_drop]; omega), List.length_drop]
    have e : (q + i) % l.length = q + i - l.length := by
      rw [Nat.mod_eq_sub_mod (by omega), Nat.mod_eq_of_lt (by omega)]
    rw [e, List.getElem?_take_of_lt (by omega)]
    congr 1; omega
theorem take_turned {α : Type} {q : Nat} {l : List α} (hq : q < l.length) {k : Nat} (hk : k < l.length) {x : α} (hx : l[(q + k) % l.length]? = some x) : (turned q l).take (k + 1) = (turned q l).take k ++ [x] := by
  have h := turned_get hq hk
  rw [hx] at h
  obtain ⟨hl, e0⟩ := List.getElem?_eq_some_iff.1 h
  rw [List.take_succ_eq_append_getElem hl, e0]
theorem rows_turned {v : Ver} {x : JV} {l : List Sig2} {t : Int} {ids : List ByteArray} {keys : List Key2} (q p : Nat) :
    countV v x (turned q l) t (turned p ids) keys = countV v x l t ids keys ∧ enoughV v x (turned q l) t (turned p ids) keys = enoughV v x l t ids keys := by
  have h := rows_same (v := v) (x := x) (t := t) (keys := keys) (envOk_perm (v := x) (turned_perm q l)) (fun s => (turned_perm q l).mem_iff) (turned_perm p ids)
  exact ⟨h, enough_same h (turned_perm p ids)⟩
theorem rows_again {v : Ver} {x : JV} {l : List Sig2} {t : Int} {ids : List ByteArray} {keys : List Key2} (q p : Nat) {s : Sig2} (hs : s ∈ l) (h1 : envOk x l = true) (h2 : envOk x (turned q l ++ [s]) = true) :
    countV v x (turned q l ++ [s]) t (turned p ids) keys = countV v x l t ids keys ∧ enoughV v x (turned q l ++ [s]) t (turned p ids) keys = enoughV v x l t ids keys := by
  have h := rows_same (v := v) (x := x) (t := t) (keys := keys) (h2.trans h1.symm) (fun y => by
    rw [List.mem_append, List.mem_singleton, (turned_perm q l).mem_iff]
    constructor
    · rintro (h | rfl)
      · exact h
      · exact hs
    · exact .inl) (turned_perm p ids)
  exact ⟨h, enough_same h (turned_perm p ids)⟩

end Go.Proofs.YtaekmmnpdbmoeaaGreatDoor
