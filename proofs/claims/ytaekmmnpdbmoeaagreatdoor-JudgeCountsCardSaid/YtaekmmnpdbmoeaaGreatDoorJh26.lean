/- The contracts of judge.Make, legatelaw17.jefe, legatelaw17.verifier. The contract of legatelaw17.two. Plain: more of the examples of layer 17. No program in sight. -/
import Derived.Test.YtaekmmnpdbmoeaaGreatDoorJh24
import Derived.Test.YtaekmmnpdbmoeaaGreatDoorJh00
import Derived.Test.YtaekmmnpdbmoeaaGreatDoorJh25
import Derived.Test.YtaekmmnpdbmoeaaGreatDoorJh17
import Derived.Test.YtaekmmnpdbmoeaaGreatDoorJh13
import Derived.Test.YtaekmmnpdbmoeaaGreatDoorJh07
import Derived.OwnWalk
import Derived.Outline
import Derived.Deep.AppendLies
import Derived.Test.YtaekmmnpdbmoeaaGreatDoorJh15

namespace Go.Proofs.YtaekmmnpdbmoeaaGreatDoor
open Go.RowKit

theorem makeS_no {k : Key2} {m : List UInt8} (h : ¬ (ok2 k = true ∧ k.1 = schemeH)) : makeS k m = (⟨#[]⟩, ⟨#[]⟩) := by unfold makeS; rw [if_neg h]
theorem makeS_yes {k : Key2} {m : List UInt8} (h : ok2 k = true ∧ k.1 = schemeH) : makeS k m = (id2 k, ⟨(macHex k.2.data.toList m).toArray⟩) := by unfold makeS; rw [if_pos h]

set_option maxHeartbeats 1000000 in
set_option maxRecDepth 100000 in
theorem judgeMake (k : Key2) (m : ByteArray) (w : World) (h1 : k.1.size ≤ 300) (h2 : k.2.size ≤ 300) (hm : m.size ≤ 1099511620000) (hT : Tabs w) :
    Calls Tryz.prog 18 #[.agg #[.string k.1, .string k.2], .string m] w fun e w' => e = .returned (.tuple #[.agg #[.string (makeS k m.data.toList).1, .string (makeS k m.data.toList).2], .int .i64 (makeE k)]) ∧ Below w.heap.size w w' := by
  have HT := Lib.hid hT
  clear hT
  have HKI := Lib.hid (fun w hT => keyId2 k w h1 h2 hT)
  obtain ⟨ks, kp⟩ := k
  obtain ⟨W, hW⟩ : ∃ W, W = (w.alloc (.cells #[.string ks, .string kp] 24)).alloc (.cells #[.string { data := #[] }, .string { data := #[] }] 26) := ⟨_, rfl⟩
  have HBW := Lib.hid (show Below w.heap.size w W by rw [hW]; exact below_n2 w _ _)
  have HX0 := Lib.hid (show W.heap[w.heap.size]? = some (.cells #[.string ks, .string kp] 24 (0, 0)) by rw [hW, Below.heap_alloc _ _ _ (by simp)]; exact heap_alloc_new w _)
  have HX1 := Lib.hid (show W.rowIs (w.heap.size + 1) 26 2 (pick2 (.string { data := #[] }) (.string { data := #[] })) by
    have := rowIs_box2 (w.alloc (.cells #[.string ks, .string kp] 24)) (.string { data := #[] }) (.string { data := #[] }) 26
    rw [show (w.alloc (.cells #[.string ks, .string kp] 24)).heap.size = w.heap.size + 1 by simp] at this
    rw [hW]; exact this)
  have HW := Lib.hid hW
  obtain ⟨ID, hID⟩ : ∃ ID, ID = id2 (ks, kp) := ⟨_, rfl⟩
  obtain ⟨ok, hok⟩ : ∃ ok, ok = ok2 (ks, kp) := ⟨_, rfl⟩
  rw [← hID, ← hok] at HKI
  have HID := Lib.hid hID
  have HOK := Lib.hid hok
  clear hW hID hok
  go_enter Tryz.func18, Tryz.ntmps18
  go_wp2_with fail
  rw [← HW.out]
  refine (HKI.out W (HT.out.below HBW.out)).mono ?_
  rintro e w1 ⟨rfl, hb1⟩
  have HB1 := Lib.hid (HBW.out.trans (hb1.mono HBW.out.size))
  have hx0 := hb1.block _ (heap_lt HX0.out)
  rw [HX0.out] at hx0
  have hrow := below_row hb1 HX1.out HX1.out.lt
  have HR := Lib.hid hrow
  have k0 : w1.cell? ⟨w.heap.size, 0, none⟩ = some (.string ks) := box_cell hx0 rfl
  have k1 : w1.cell? ⟨w.heap.size, 1, none⟩ = some (.string kp) := box_cell hx0 rfl
  have t0 := hrow.cell (i := 0) (by decide); have t1 := hrow.cell (i := 1) (by decide)
  have s0 := hrow.frozen 0; have s1 := hrow.frozen 1
  simp only [pick2] at t0 t1
  have hz1 : w.heap.size + 1 < w1.heap.size := hrow.lt
  clear hb1 hx0 hrow
  cases ok
  · rw [if_neg (by simp)]
    go_wp2
    refine bodyPost_ret (results_row_tmp Tryz.results18 _ _ (w.heap.size + 1) 26 #[.string { data := #[] }, .string { data := #[] }] (0, 0) _ rfl (row2_heap (set2 _ _ HR.out)) Tryz.underlying26 rfl (by kernel_rfl) _ rfl) rfl ⟨?_, below2 _ _ HB1.out (by omega)⟩
    rw [makeS_no (fun h => by rw [← HOK.out] at h; cases h.1)]
    unfold makeE
    rw [← HOK.out]
    rfl
  rw [if_pos rfl]
  by_cases hsch : ks = schemeH
  · have hsc := scheme_yes hsch
    have HS := Lib.hid hsch
    have HPU := Lib.hid (ok2_parts HOK.out.symm)
    have HDP := Lib.hid (fun w => hexDecodePub kp w HPU.out)
    have HPZ := Lib.hid (pub_size HPU.out)
    obtain ⟨PB, hPB⟩ : ∃ PB : ByteArray, PB = ⟨(hexDec kp.data.toList).toArray⟩ := ⟨_, rfl⟩
    rw [← hPB] at HDP
    have HPBZ := Lib.hid (show PB.size ≤ 1099511620000 by
      rw [hPB]; show (hexDec kp.data.toList).toArray.size ≤ _; rw [List.size_toArray, hexDec_length, toList_length]; have := HPZ.out; omega)
    obtain ⟨MC, hMC⟩ : ∃ MC : ByteArray, MC = ⟨(macL PB.data.toList m.data.toList).toArray⟩ := ⟨_, rfl⟩
    have HMC := Lib.hid hMC
    have HMZ := Lib.hid (show MC.size ≤ 1099511627776 by
      rw [hMC]; show (macL PB.data.toList m.data.toList).toArray.size ≤ _; rw [List.size_toArray, macL_length]; omega)
    have HHX := Lib.hid (show macHex kp.data.toList m.data.toList = hexEnc MC.data.toList by rw [hMC, hPB]; rfl)
    clear hsch hPB hMC
    go_wp2_with fail
    refine (HDP.out w1).mono ?_
    clear HDP k0 k1 t0 t1 s0 s1
    rintro e w2 ⟨rfl, hb2⟩
    have HB2 := Lib.hid (HB1.out.trans (hb2.mono HB1.out.size))
    have HR2 := Lib.hid (below_row hb2 HR.out HR.out.lt)
    clear hb2
    go_wp2_with fail
    refine (macOf PB m w2 HPBZ.out hm (HT.out.below HB2.out)).mono ?_
    rintro e w3 ⟨rfl, hb3⟩
    rw [← HMC.out]
    have HB3 := Lib.hid (HB2.out.trans (hb3.mono HB2.out.size))
    have HR3 := Lib.hid (below_row hb3 HR2.out HR2.out.lt)
    clear hb3
    have HT3 := Lib.hid (HT.out.below HB3.out)
    go_wp2_with fail
    refine (hexEncode MC w3 HMZ.out HT3.out.digits HT3.out.l3).mono ?_
    rintro e w4 ⟨rfl, hb4⟩
    have HB4 := Lib.hid (HB3.out.trans (hb4.mono HB3.out.size))
    have hrow := below_row hb4 HR3.out HR3.out.lt
    have HR4 := Lib.hid hrow
    have t0 := hrow.cell (i := 0) (by decide); have t1 := hrow.cell (i := 1) (by decide)
    have s0 := hrow.frozen 0; have s1 := hrow.frozen 1
    simp only [pick2] at t0 t1
    clear hb4 hrow
    go_wp2
    refine bodyPost_ret (results_row_tmp Tryz.results18 _ _ (w.heap.size + 1) 26 #[.string ID, .string ⟨(hexEnc MC.data.toList).toArray⟩] (0, 0) _ rfl (row2_heap (set2 _ _ HR4.out)) Tryz.underlying26 rfl (by kernel_rfl) _ rfl) rfl ⟨?_, below2 _ _ HB4.out (by omega)⟩
    rw [makeS_yes ⟨HOK.out.symm, HS.out⟩, HHX.out, ← HID.out]
    unfold makeE
    rw [← HOK.out, if_pos rfl, if_pos HS.out]
    rfl
  · have hsc := scheme_no hsch
    have HS := Lib.hid hsch
    clear hsch
    go_wp2
    refine bodyPost_ret (results_row_tmp Tryz.results18 _ _ (w.heap.size + 1) 26 #[.string { data := #[] }, .string { data := #[] }] (0, 0) _ rfl (row2_heap (set2 _ _ HR.out)) Tryz.underlying26 rfl (by kernel_rfl) _ rfl) rfl ⟨?_, below2 _ _ HB1.out (by omega)⟩
    rw [makeS_no (fun h => HS.out h.2)]
    unfold makeE
    rw [← HOK.out, if_pos rfl, if_neg HS.out]
    rfl

theorem lawJefe (w : World) : Calls Tryz.prog 25 #[] w fun e w' => e = .returned (.agg #[.string jefeK.1, .string jefeK.2]) ∧ Below w.heap.size w w' := by
  go_enter Tryz.func25, Tryz.ntmps25
  go_wp2
  exact bodyPost_ret (results_cell_row Tryz.results25 _ _ w.heap.size 24 _ (0, 0) _ rfl (heap_alloc_new w _) Tryz.underlying24 rfl (by kernel_rfl)) rfl ⟨rfl, (Below.refl _ _).alloc (Nat.le_refl _) _⟩

def verOf (hmac : Bool) (l : List Ver3) : Ver := if hmac then .mac else .tab l
theorem lawVerifier (hmac : Bool) (l : List Ver3) (a : Option Addr) (c : Nat) (w : World) (hR : TrisAt w 0 w.heap.size a l) (hl : l.length ≤ 60) :
    Calls Tryz.prog 34 #[.bool hmac, .slice a l.length c] w fun e w' => ∃ x, e = .returned x ∧ VerIs w' x (verOf hmac l) ∧ Below w.heap.size w w' := by
  cases hmac
  · have HC := Lib.hid (judgeTable l a c w hR hl)
    clear hR
    go_enter Tryz.func34, Tryz.ntmps34
    go_wp2_with fail
    refine HC.out.mono ?_
    rintro e w1 ⟨p, a', c', rfl, hp, hx, hT, hb⟩
    have HX := Lib.hid hx
    have HTT := Lib.hid hT
    have HB := Lib.hid hb
    clear hx hT hb
    go_wp2
    go_ret
    exact ⟨_, rfl, .inl ⟨p, a', c', rfl, HX.out, hl, HTT.out.carry (Nat.zero_le _) (Nat.le_of_lt (heap_lt HX.out)) (fun _ _ _ => rfl)⟩, HB.out⟩
  · go_enter Tryz.func34, Tryz.ntmps34
    go_wp2_with fail
    refine (judgeHMAC w).mono ?_
    rintro e w1 ⟨rfl, rfl⟩
    go_wp2
    go_ret
    exact ⟨_, rfl, ⟨_, rfl, heap_alloc_new w _⟩, (Below.refl _ _).alloc (Nat.le_refl _) _⟩

end Go.Proofs.YtaekmmnpdbmoeaaGreatDoor

namespace Go.Proofs.YtaekmmnpdbmoeaaGreatDoor
open Go.RowKit

def twoKeys : List Key2 := [jefeK, zeroK]
def twoIds : List ByteArray := twoKeys.map id2
def twoSigs : List Sig2 := twoKeys.map fun k => makeS k braces.data.toList
theorem twoKeys_size : ∀ k ∈ twoKeys, k.1.size ≤ 300 ∧ k.2.size ≤ 300 := by
  intro k hk
  simp only [twoKeys, List.mem_cons, List.not_mem_nil, or_false] at hk
  rcases hk with rfl | rfl <;> exact ⟨by decide, by decide⟩

/-- At the loop's head: k keys have signed. -/
structure TwoAt (SG : List Sig2) (IL : List ByteArray) (W wr : World) (eb : Nat) (vS vi : Value) (k : Nat) : Prop where
  touch : Touch (· = eb) W wr
  row : wr.rowIs eb 47 6 (pick6 (.int .u8 5) (.int .i64 0) (.string { data := #[] }) (.slice none 0 0) (.slice none 0 0) vS)
  sigs : wr.ownsRow W.heap.size 26 2 vS k ((SG.take k).flatMap encK)
  ids : wr.ownsRow W.heap.size 9 1 vi k ((IL.take k).map .string)
  ne : ∀ b, vS.ownBlock = some b → vi.ownBlock ≠ some b
theorem TwoAt.below {SG : List Sig2} {IL : List ByteArray} {W wr w' : World} {eb k : Nat} {vS vi : Value} (h : TwoAt SG IL W wr eb vS vi k) (hb : Below wr.heap.size wr w') : TwoAt SG IL W w' eb vS vi k :=
  ⟨h.touch.trans (Touch.of_below hb (Nat.le_refl _)), below_row hb h.row h.row.lt, owns_below h.sigs hb, owns_below h.ids hb, h.ne⟩
/-- One signature and one ID more: both appended, the first stored into the envelope. -/
theorem TwoAt.step {SG : List Sig2} {IL : List ByteArray} {s : Sig2} {id : ByteArray} {W wr w4 w5 w6 : World} {eb k g1 c1 g2 c2 : Nat} {vS vi : Value} (h : TwoAt SG IL W wr eb vS vi k) (hlt : eb < W.heap.size) (hks : SG[k]? = some s) (hki : IL[k]? = some id)
    (hg4 : wr.grownBy w4 vS.ownBlock) (hat4 : vS.ownBlock = some g1 ∨ wr.heap.size ≤ g1)
    (ho4 : w4.ownsRow W.heap.size 26 2 (.slice (some ⟨g1, 0, none⟩) (k + 1) c1) (k + 1) ((SG.take k).flatMap encK ++ encK s))
    (h5 : Below w4.heap.size (w4.setCell ⟨eb, 5, none⟩ (.slice (some ⟨g1, 0, none⟩) (k + 1) c1)) w5)
    (hg6 : w5.grownBy w6 vi.ownBlock) (hat6 : vi.ownBlock = some g2 ∨ w5.heap.size ≤ g2)
    (ho6 : w6.ownsRow W.heap.size 9 1 (.slice (some ⟨g2, 0, none⟩) (k + 1) c2) (k + 1) ((IL.take k).map .string ++ [.string id])) :
    TwoAt SG IL W w6 eb (.slice (some ⟨g1, 0, none⟩) (k + 1) c1) (.slice (some ⟨g2, 0, none⟩) (k + 1) c2) (k + 1) := by
  have hwz : W.heap.size ≤ wr.heap.size := h.touch.size
  have hz4 := hg4.size
  have hz5 : w4.heap.size ≤ w5.heap.size := by have := h5.size; simpa [World.setCell] using this
  have hz6 := hg6.size
  have hoS : ∀ b, vS.ownBlock = some b → W.heap.size ≤ b ∧ b < wr.heap.size := fun b hb => h.sigs.lt b hb
  have hoI : ∀ b, vi.ownBlock = some b → W.heap.size ≤ b ∧ b < wr.heap.size := fun b hb => h.ids.lt b hb
  have hg1 : g1 < w4.heap.size := (ho4.lt g1 rfl).2
  have s4 : ∀ b, b < wr.heap.size → vS.ownBlock ≠ some b → w4.heap[b]? = wr.heap[b]? := fun b hb hne => hg4.block b hb (fun e => hne e.symm)
  have s5 : ∀ b, b < w4.heap.size → b ≠ eb → w5.heap[b]? = w4.heap[b]? := fun b hb hne => by rw [h5.block b hb, Below.heap_setCell _ _ _ _ hne]
  have s6 : ∀ b, b < w5.heap.size → vi.ownBlock ≠ some b → w6.heap[b]? = w5.heap[b]? := fun b hb hne => hg6.block b hb (fun e => hne e.symm)
  have hgI : vi.ownBlock ≠ some g1 := fun e => by
    rcases hat4 with ha | ha
    · exact h.ne g1 ha e
    · have := (hoI g1 e).2; omega
  have e1 : (SG.take (k + 1)).flatMap encK = (SG.take k).flatMap encK ++ encK s := by
    obtain ⟨hl, e0⟩ := List.getElem?_eq_some_iff.1 hks
    rw [List.take_succ_eq_append_getElem hl, List.flatMap_append, e0, List.flatMap_cons, List.flatMap_nil, List.append_nil]
  have e2 : (IL.take (k + 1)).map Value.string = (IL.take k).map Value.string ++ [.string id] := by
    obtain ⟨hl, e0⟩ := List.getElem?_eq_some_iff.1 hki
    rw [List.take_succ_eq_append_getElem hl, List.map_append, e0]
    rfl
  refine ⟨⟨?_, ?_, ?_, by omega, fun b hb hne => ?_⟩, ?_, ?_, ?_, ?_⟩
  · rw [hg6.os, h5.os]; show w4.os = _; rw [hg4.os, h.touch.os]
  · rw [hg6.tape, h5.tape]; show w4.tape = _; rw [hg4.tape, h.touch.tape]
  · rw [hg6.output, h5.output]; show w4.output = _; rw [hg4.output, h.touch.output]
  · rw [s6 b (by omega) (fun e => by have := (hoI b e).1; omega), s5 b (by omega) hne, s4 b (by omega) (fun e => by have := (hoS b e).1; omega)]; exact h.touch.block b hb hne
  · have r4 : w4.rowIs eb 47 6 _ := h.row.of_block (s4 eb (by omega) (fun e => by have := (hoS eb e).1; omega))
    have r5 := below_row h5 (r4.set 5 (.slice (some ⟨g1, 0, none⟩) (k + 1) c1)) (by omega)
    refine (r5.of_block (s6 eb (by omega) (fun e => by have := (hoI eb e).1; omega))).congr fun i hi => ?_
    rcases i with _ | _ | _ | _ | _ | _ | i <;> first | rfl | omega
  · rw [e1]
    have o5 := owns_below (ownsRow_setCell_below ho4 hlt (.slice (some ⟨g1, 0, none⟩) (k + 1) c1) (a := ⟨eb, 5, none⟩)) (by simpa [World.setCell] using h5)
    exact owns_of_block o5 fun b hb => by
      have hb1 : b = g1 := by simp [Value.ownBlock] at hb; exact hb.symm
      subst hb1
      exact s6 b (by omega) hgI
  · rw [e2]; exact ho6
  · intro b hb e
    have hb1 : b = g1 := by simp [Value.ownBlock] at hb; exact hb.symm
    have hb2 : b = g2 := by simp [Value.ownBlock] at e; exact e.symm
    rcases hat6 with ha | ha
    · exact hgI (by rw [← hb1, hb2]; exact ha)
    · omega

theorem infoSig : (Tryz.prog.info? 26).map (fun i => (i.zero, i.size, i.bytes)) = some (some (.agg #[.string { data := #[] }, .string { data := #[] }]), 2, 32) := by kernel_rfl
theorem infoStr2 : (Tryz.prog.info? 9).map (fun i => (i.zero, i.size, i.bytes)) = some (some (.string { data := #[] }), 1, 16) := by kernel_rfl

theorem twoSigs_get (k : Nat) (h : k < twoKeys.length) : twoSigs[k]? = some (makeS twoKeys[k] braces.data.toList) := by
  unfold twoSigs; rw [List.getElem?_map, List.getElem?_eq_getElem h]; rfl
theorem twoIds_get (k : Nat) (h : k < twoKeys.length) : twoIds[k]? = some (id2 twoKeys[k]) := by
  unfold twoIds; rw [List.getElem?_map, List.getElem?_eq_getElem h]; rfl
theorem makeS_fst {k : Key2} {m : List UInt8} (h : ok2 k = true) (hs : k.1 = schemeH) : (makeS k m).1 = id2 k := (make_good h hs).2
theorem twoKeys_ok : ∀ k ∈ twoKeys, ok2 k = true ∧ k.1 = schemeH := by
  intro k hk
  simp only [twoKeys, List.mem_cons, List.not_mem_nil, or_false] at hk
  rcases hk with rfl | rfl
  · exact ⟨jefe_ok, rfl⟩
  · exact ⟨zero_ok, rfl⟩

theorem drew_blk {X : World} {b : Nat} {o : Option Obj} (h : X.heap[b]? = o) : X.drew.heap[b]? = o := h

theorem results_tmp2_row {P : Program} {fn : Func} {p q u : Tmp} {ty : TypeId} (h : fn.results = #[.tmp p, .tmp q, .cell u ty]) (tmps : Array Value) (w : World) (g : Nat) (t : TypeId) (cs : Array Value) (fr : Nat × Nat) (d : TypeDesc)
    (hp : tmps.getD u undef = .pointer (some ⟨g, 0, none⟩)) (hg : w.heap[g]? = some (.cells cs t fr))
    (hu : P.underlying ty = some d) (hd : (match d with | .struct _ | .array _ _ => true | _ => false) = true) (hi : (P.info? ty).map (·.size) = some cs.size) (x y : Value) (hx : tmps.getD p undef = x) (hy : tmps.getD q undef = y) :
    (results fn tmps).run P w = .ok (.tuple #[x, y, .agg cs]) w := by
  have e : (results fn tmps).run P w = ((asAddr (tmps.getD u undef)).run P w).andThen fun a w₁ => ((loadVar ty a).run P w₁).andThen fun v w₂ => .ok (.tuple #[tmps.getD p undef, tmps.getD q undef, v]) w₂ := by
    simp only [results, h]
    simp [Sem.run_bind, Result.andThen]
  rw [e, hp, hx, hy]
  simp [asAddr, run_loadVar_row w g t ty cs fr d hg hu hd hi]

set_option maxHeartbeats 2000000 in
set_option maxRecDepth 100000 in
theorem lawTwo (w : World) (hT : Tabs w) : Calls Tryz.prog 39 #[] w fun e w' => ∃ ka ia sa ic sc, e = .returned (.tuple #[.slice ka 2 2, .slice ia 2 ic, .agg #[.int .u8 5, .int .i64 0, .string { data := #[] }, .slice none 0 0, .slice none 0 0, .slice sa 2 sc]]) ∧
    KeysAt w' 0 w'.heap.size ka twoKeys ∧ StrsAt w' 0 w'.heap.size ia twoIds ∧ KeysAt w' 0 w'.heap.size sa twoSigs ∧ Below w.heap.size w w' := by
  have HT := Lib.hid hT
  clear hT
  obtain ⟨i1, hi1, hy0, hy1, hy2⟩ := info_parts infoSig
  obtain ⟨i2, hi2, hx0, hx1, hx2⟩ := info_parts infoStr2
  obtain ⟨KS, hKS⟩ : ∃ KS, KS = twoKeys := ⟨_, rfl⟩
  obtain ⟨SG, hSG⟩ : ∃ SG, SG = twoSigs := ⟨_, rfl⟩
  obtain ⟨IL, hIL⟩ : ∃ IL, IL = twoIds := ⟨_, rfl⟩
  have HKL := Lib.hid (show KS.length = 2 by rw [hKS]; rfl)
  have HKZ := Lib.hid (show ∀ k ∈ KS, k.1.size ≤ 300 ∧ k.2.size ≤ 300 by rw [hKS]; exact twoKeys_size)
  have HKO := Lib.hid (show ∀ k ∈ KS, ok2 k = true ∧ k.1 = schemeH by rw [hKS]; exact twoKeys_ok)
  have HSGK := Lib.hid (show ∀ k (h : k < KS.length), SG[k]? = some (makeS KS[k] braces.data.toList) by subst hKS hSG; exact twoSigs_get)
  have HILK := Lib.hid (show ∀ k (h : k < KS.length), IL[k]? = some (id2 KS[k]) by subst hKS hIL; exact twoIds_get)
  have HSL := Lib.hid (show SG.length = 2 by rw [hSG]; unfold twoSigs; rw [List.length_map]; rfl)
  have HIL2 := Lib.hid (show IL.length = 2 by rw [hIL]; unfold twoIds; rw [List.length_map]; rfl)
  have HRW := Lib.hid (fun (w : World) => keys_blk1 (w := w.alloc (.cells #[.string jefeK.1, .string jefeK.2, .string { data := #[104, 109, 97, 99, 45, 115, 104, 97, 50, 53, 54] }, .string { data := #[48, 48] }] 24)) (l := KS) (heap_alloc_new w _) (by rw [hKS]; rfl))
  rw [← hKS, ← hSG, ← hIL]
  clear hKS hSG hIL
  go_enter Tryz.func39, Tryz.ntmps39
  go_wp2_with fail
  refine (lawJefe _).mono ?_
  rintro e w1 ⟨rfl, hb1⟩
  have hz1 : w.heap.size + 1 ≤ w1.heap.size := by have := hb1.size; simp at this; omega
  have HRES := Lib.hid (show w1.rowIs w.heap.size 47 6 (pick6 (.int .u8 0) (.int .i64 0) (.string { data := #[] }) (.slice none 0 0) (.slice none 0 0) (.slice none 0 0)) from below_row hb1 (rowIs_box6 w (.int .u8 0) (.int .i64 0) (.string { data := #[] }) (.slice none 0 0) (.slice none 0 0) (.slice none 0 0) 47) (by simp))
  have HB1 := Lib.hid (((Below.refl w.heap.size w).alloc (Nat.le_refl _) _).trans (hb1.mono (by simp)))
  obtain ⟨W, hW⟩ : ∃ W, W = (w1.alloc (.cells #[.string jefeK.1, .string jefeK.2, .string { data := #[104, 109, 97, 99, 45, 115, 104, 97, 50, 53, 54] }, .string { data := #[48, 48] }] 24)).alloc (.cells #[.int .u8 5, .int .i64 0, .string { data := #[] }, .slice none 0 0, .slice none 0 0, .slice none 0 0] 47) := ⟨_, rfl⟩
  have HWZ := Lib.hid (show W.heap.size = w1.heap.size + 2 by rw [hW]; simp)
  have HBW := Lib.hid (show Below w1.heap.size w1 W by rw [hW]; exact below_n2 w1 _ _)
  have HKW := Lib.hid (show KeysAt W w1.heap.size (w1.heap.size + 1) (some ⟨w1.heap.size, 0, none⟩) KS by
    rw [hW]; exact (HRW.out w1).below ((Below.refl _ _).alloc (Nat.le_refl _) _) (by simp) (Nat.le_refl _) (Nat.le_refl _))
  have HEW := Lib.hid (show W.rowIs (w1.heap.size + 1) 47 6 (pick6 (.int .u8 5) (.int .i64 0) (.string { data := #[] }) (.slice none 0 0) (.slice none 0 0) (.slice none 0 0)) by
    have := rowIs_box6 (w1.alloc (.cells #[.string jefeK.1, .string jefeK.2, .string { data := #[104, 109, 97, 99, 45, 115, 104, 97, 50, 53, 54] }, .string { data := #[48, 48] }] 24)) (.int .u8 5) (.int .i64 0) (.string { data := #[] }) (.slice none 0 0) (.slice none 0 0) (.slice none 0 0) 47
    rw [show (w1.alloc (.cells #[.string jefeK.1, .string jefeK.2, .string { data := #[104, 109, 97, 99, 45, 115, 104, 97, 50, 53, 54] }, .string { data := #[48, 48] }] 24)).heap.size = w1.heap.size + 1 by simp] at this
    rw [hW]; exact this)
  have HW := Lib.hid hW
  clear hb1 hW HRW
  go_wp2_with fail
  rw [← HW.out]
  go_loopw [5, 6, 7, 8] (fun vi i _ _ wr => ∃ (k : Nat) (vS : Value), k ≤ 2 ∧ i = .int .i64 k ∧ TwoAt SG IL W wr (w1.heap.size + 1) vS vi k) (fun _ i _ _ _ => 2 - (intOf i).toNat)
  case atStart => exact ⟨0, _, by omega, rfl, ⟨Touch.refl _ _, HEW.out, ⟨rfl, .inl ⟨rfl, rfl⟩⟩, ⟨rfl, .inl ⟨rfl, rfl⟩⟩, fun b hb => by cases hb⟩⟩
  case round =>
    obtain ⟨k, vS, hk, rfl, hA⟩ := hrel
    obtain ⟨sa, sc, rfl⟩ := owns_slice hA.sigs
    obtain ⟨ia, ic, hia⟩ := owns_slice hA.ids
    subst hia
    have HA := Lib.hid hA
    have hwz : w1.heap.size + 2 ≤ wr.heap.size := by rw [← HWZ.out]; exact hA.touch.size
    by_cases hlt : k < 2
    · have hkl : k < KS.length := by rw [HKL.out]; exact hlt
      have hkl' : (k : Int) < 2 := by omega
      obtain ⟨b, off, ha, _, hb, e0, e1⟩ := HKW.out.at k hkl
      cases ha
      have eb : ∀ o, wr.cell? ⟨w1.heap.size, o, none⟩ = W.cell? ⟨w1.heap.size, o, none⟩ := fun o => World.cell?_of_block (w := W) (hA.touch.block w1.heap.size (by have := HWZ.out; omega) (by omega))
      rw [← eb, Nat.zero_add] at e0 e1
      obtain ⟨z0, z1⟩ := HKZ.out KS[k] (List.getElem_mem hkl)
      obtain ⟨o0, o1⟩ := HKO.out KS[k] (List.getElem_mem hkl)
      have HSK := Lib.hid (HSGK.out k hkl)
      have HIK := Lib.hid (HILK.out k hkl)
      obtain ⟨K, hK⟩ : ∃ K, K = KS[k] := ⟨_, rfl⟩
      rw [← hK] at e0 e1 z0 z1 o0 o1 HSK HIK
      have HBX := Lib.hid (HB1.out.trans (HBW.out.mono HB1.out.size |>.trans (hA.touch.below (B := w.heap.size) (by have := HWZ.out; omega) (fun k hk e => by omega))))
      have HMK := Lib.hid (judgeMake K braces wr z0 z1 (by decide) (HT.out.below HBX.out))
      have HFS := Lib.hid (makeS_fst (m := braces.data.toList) o0 o1)
      obtain ⟨⟨S1, S2⟩, hS⟩ : ∃ s : Sig2, s = makeS K braces.data.toList := ⟨_, rfl⟩
      rw [← hS] at HMK HFS HSK
      have HFS2 := Lib.hid (show S1 = id2 K from HFS.out)
      rw [← HFS2.out] at HIK
      obtain ⟨E, hE⟩ : ∃ E, E = makeE K := ⟨_, rfl⟩
      rw [← hE] at HMK
      have c5 : wr.cell? ⟨w1.heap.size + 1, 5, none⟩ = some (.slice sa k sc) := hA.row.cell (i := 5) (by decide)
      clear hK eb hS hE hA o0 o1
      go_wp2_with fail
      refine HMK.out.mono ?_
      clear HMK e0 e1 c5
      rintro e w3 ⟨rfl, hb3⟩
      have HA3 := Lib.hid (HA.out.below (hb3.alloc hb3.size (.cells #[.string S1, .string S2] 26)))
      have hz3 : wr.heap.size ≤ w3.heap.size := hb3.size
      clear hb3
      have HOS := Lib.hid (HA3.out.sigs.alloc (.cells #[.string S1, .string S2] 26))
      have hnb : (Value.slice sa k sc).ownBlock ≠ some (w1.heap.size + 1) := fun e => by have := (HA3.out.sigs.lt _ e).1; have := HWZ.out; omega
      have c5 : (w3.alloc (.cells #[.string S1, .string S2] 26)).cell? ⟨w1.heap.size + 1, 5, none⟩ = some (.slice sa k sc) := HA3.out.row.cell (i := 5) (by decide)
      have hxr : ((w3.alloc (.cells #[.string S1, .string S2] 26)).alloc (.cells #[.string S1, .string S2] 26)).heap[w3.heap.size + 1]? = some (.cells #[.string S1, .string S2] 26 (0, 0)) := by
        have := heap_alloc_new (w3.alloc (.cells #[.string S1, .string S2] 26)) (.cells #[.string S1, .string S2] 26)
        rwa [show (w3.alloc (.cells #[.string S1, .string S2] 26)).heap.size = w3.heap.size + 1 by simp] at this
      have HXR := Lib.hid (World.news_of_block (cs := #[.string S1, .string S2]) hxr)
      have HXB := Lib.hid (heap_alloc_new w3 (.cells #[.string S1, .string S2] 26))
      have hwk : k + 1 ≤ maxLen := by unfold maxLen; omega
      have hwb1 : (k + 1) * 32 ≤ 140737488355328 := by omega
      have hwb2 : (k + 1) * 16 ≤ 140737488355328 := by omega
      have hwq1 : W.heap.size ≤ ((w3.alloc (.cells #[.string S1, .string S2] 26)).alloc (.cells #[.string S1, .string S2] 26)).heap.size := by have := HWZ.out; simp; omega
      have HONE1 := Lib.hid (show ∀ u ∈ Array.toList #[Value.string S1, .string S2], u.oneCell' = true by simp [Value.oneCell'])
      have HONE2 := Lib.hid (show ∀ u ∈ Array.toList #[Value.string S1], u.oneCell' = true by simp [Value.oneCell'])
      clear hxr
      go_wp2_with (at_builtin; refine wpList_append_lies _ rfl (.tmp 29) (.tmp 31) 45 rfl W.heap.size 26 i1 _ 2 32 Tryz.underlying45 hi1 hy0 hy1 hy2 rfl (by decide) (.slice sa k sc) k ((SG.take k).flatMap encK) rfl (HOS.out) ⟨w3.heap.size + 1, 0, none⟩ 1 1 (Array.toList #[.string S1, .string S2]) rfl rfl HXR.out HONE1.out (by decide) hwk hwb1 hwq1 _ rfl ?_)
      intro g1 cap1 w4 hown4 hgrow4 hat4 hlt4
      have hb4 : Below (w3.alloc (.cells #[.string S1, .string S2] 26)).heap.size (w3.alloc (.cells #[.string S1, .string S2] 26)) ((w3.alloc (.cells #[.string S1, .string S2] 26)).alloc (.cells #[.string S1, .string S2] 26)) := (Below.refl _ _).alloc (Nat.le_refl _) _
      have c55 := grow_cellB hgrow4 hb4 (by simp; omega) (Ne.symm hnb) c5
      have f55 := grow_frozenB hgrow4 hb4 (by simp; omega) (Ne.symm hnb) (HA3.out.row.frozen 5)
      have sb0 : w4.cell? ⟨w3.heap.size, 0, none⟩ = some (.string S1) := grow_cellB hgrow4 hb4 (by simp) (fun e => by have := (HA.out.sigs.lt _ e.symm).2; omega) (box_cell HXB.out rfl)
      have hz4 : w3.heap.size + 2 ≤ w4.heap.size := by have := hgrow4.size; simp at this; omega
      have hne : w3.heap.size ≠ w1.heap.size + 1 := by omega
      have HO4 := Lib.hid hown4
      have HG4 := Lib.hid hgrow4
      have HA4 := Lib.hid hat4
      have HGA := Lib.hid ((World.grownBy_alloc (w3.alloc (.cells #[.string S1, .string S2] 26)) _ _).trans hgrow4)
      clear hown4 hgrow4 hat4 hb4 c5
      have HOI := Lib.hid (show (w4.setCell ⟨w1.heap.size + 1, 5, none⟩ (.slice (some ⟨g1, 0, none⟩) (k + 1) cap1)).ownsRow W.heap.size 9 1 (.slice ia k ic) k ((IL.take k).map .string) by
        refine ownsRow_setCell_below (owns_of_block HA3.out.ids fun b hb => ?_) (by have := HWZ.out; show w1.heap.size + 1 < W.heap.size; omega) _
        exact HGA.out.block b (HA3.out.ids.lt b hb).2 (fun e => HA3.out.ne b e.symm hb))
      have hx6 : ((w4.setCell ⟨w1.heap.size + 1, 5, none⟩ (.slice (some ⟨g1, 0, none⟩) (k + 1) cap1)).alloc (.cells #[.string S1] 9)).heap[w4.heap.size]? = some (.cells #[.string S1] 9 (0, 0)) := by
        have := heap_alloc_new (w4.setCell ⟨w1.heap.size + 1, 5, none⟩ (.slice (some ⟨g1, 0, none⟩) (k + 1) cap1)) (.cells #[.string S1] 9)
        rwa [show (w4.setCell ⟨w1.heap.size + 1, 5, none⟩ (.slice (some ⟨g1, 0, none⟩) (k + 1) cap1)).heap.size = w4.heap.size by simp [World.setCell]] at this
      have HX6 := Lib.hid (World.news_of_block (cs := #[.string S1]) hx6)
      have hwq2 : W.heap.size ≤ ((w4.setCell ⟨w1.heap.size + 1, 5, none⟩ (.slice (some ⟨g1, 0, none⟩) (k + 1) cap1)).alloc (.cells #[.string S1] 9)).heap.size := by have := HWZ.out; simp [World.setCell]; omega
      clear hx6
      go_wp2_with (at_builtin; refine wpList_append_lies _ rfl (.tmp 34) (.tmp 37) 41 rfl W.heap.size 9 i2 _ 1 16 Tryz.underlying41 hi2 hx0 hx1 hx2 rfl (by decide) (.slice ia k ic) k ((IL.take k).map .string) rfl (HOI.out.alloc _) ⟨w4.heap.size, 0, none⟩ 1 1 (Array.toList #[.string S1]) rfl rfl HX6.out HONE2.out (by decide) hwk hwb2 hwq2 _ rfl ?_)
      intro g2 cap2 w6 hown6 hgrow6 hat6 hlt6
      have HST := Lib.hid (HA3.out.step (s := (S1, S2)) (id := S1) (by have := HWZ.out; omega) HSK.out HIK.out HGA.out (HA4.out.imp id (fun e => by rw [e]; simp)) HO4.out ((Below.refl _ _).alloc (by simp [World.setCell]) _) hgrow6 (hat6.imp id (fun e => by rw [e]; simp [World.setCell])) (by rw [List.map_take]; exact hown6))
      clear hown6 hgrow6 hat6 sb0 c55 f55
      go_wp2
      go_roundw
      case rel => exact ⟨k + 1, _, by omega, by go_num, HST.out⟩
      case measure => simp [intOf]; omega
    · have hke : k = 2 := by omega
      subst hke
      have hd2 : decide (((2 : Nat) : Int) < 2) = false := by decide
      obtain ⟨ga, gc, hgv, hgK⟩ := owns_keys HA.out.sigs (by rw [List.length_take, HSL.out]; rfl)
      obtain ⟨ja, jc, hjv, -, hjS⟩ := owns_strs HA.out.ids (by rw [List.length_take, HIL2.out]; rfl)
      rw [List.take_of_length_le (by rw [HSL.out]; exact Nat.le_refl _)] at hgK
      rw [List.take_of_length_le (by rw [HIL2.out]; exact Nat.le_refl _)] at hjS
      simp only [Value.slice.injEq] at hgv hjv
      obtain ⟨rfl, -, rfl⟩ := hgv
      obtain ⟨rfl, -, rfl⟩ := hjv
      have HGK := Lib.hid hgK
      have HJS := Lib.hid hjS
      have c0 : wr.cell? ⟨w1.heap.size + 1, 0, none⟩ = some (.int .u8 5) := HA.out.row.cell (i := 0) (by decide)
      have c1 : wr.cell? ⟨w1.heap.size + 1, 1, none⟩ = some (.int .i64 0) := HA.out.row.cell (i := 1) (by decide)
      have c2 : wr.cell? ⟨w1.heap.size + 1, 2, none⟩ = some (.string { data := #[] }) := HA.out.row.cell (i := 2) (by decide)
      have c3 : wr.cell? ⟨w1.heap.size + 1, 3, none⟩ = some (.slice none 0 0) := HA.out.row.cell (i := 3) (by decide)
      have c4 : wr.cell? ⟨w1.heap.size + 1, 4, none⟩ = some (.slice none 0 0) := HA.out.row.cell (i := 4) (by decide)
      have c5 : wr.cell? ⟨w1.heap.size + 1, 5, none⟩ = some (.slice sa 2 sc) := HA.out.row.cell (i := 5) (by decide)
      clear hgK hjS hA
      have hrr : wr.rowIs w.heap.size 47 6 (pick6 (.int .u8 0) (.int .i64 0) (.string { data := #[] }) (.slice none 0 0) (.slice none 0 0) (.slice none 0 0)) := HA.out.touch.row (below_row HBW.out HRES.out (by omega)) (by omega)
      have d0 : wr.cell? ⟨w.heap.size, 0, none⟩ = some (.int .u8 0) := hrr.cell (i := 0) (by decide)
      have d1 : wr.cell? ⟨w.heap.size, 1, none⟩ = some (.int .i64 0) := hrr.cell (i := 1) (by decide)
      have d2 : wr.cell? ⟨w.heap.size, 2, none⟩ = some (.string { data := #[] }) := hrr.cell (i := 2) (by decide)
      have d3 : wr.cell? ⟨w.heap.size, 3, none⟩ = some (.slice none 0 0) := hrr.cell (i := 3) (by decide)
      have d4 : wr.cell? ⟨w.heap.size, 4, none⟩ = some (.slice none 0 0) := hrr.cell (i := 4) (by decide)
      have d5 : wr.cell? ⟨w.heap.size, 5, none⟩ = some (.slice none 0 0) := hrr.cell (i := 5) (by decide)
      have f0 := hrr.frozen 0; have f1 := hrr.frozen 1; have f2 := hrr.frozen 2; have f3 := hrr.frozen 3; have f4 := hrr.frozen 4; have f5 := hrr.frozen 5
      have HRR := Lib.hid (show wr.rowIs w.heap.size 47 6 (pick6 (.int .u8 0) (.int .i64 0) (.string { data := #[] }) (.slice none 0 0) (.slice none 0 0) (.slice none 0 0)) from hrr)
      clear hrr
      have HBZ := Lib.hid (show Below w.heap.size w wr from (HB1.out.trans ((HBW.out.mono HB1.out.size).trans (HA.out.touch.below (B := w.heap.size) (by have := HWZ.out; omega) (fun k hk e => by omega)))))
      have HTC := Lib.hid HA.out.touch
      go_wp2
      go_region
      all_goals go_wp2
      refine bodyPost_ret (results_tmp2_row Tryz.results39 _ _ w.heap.size 47 #[.int .u8 5, .int .i64 0, .string { data := #[] }, .slice none 0 0, .slice none 0 0, .slice sa 2 sc] (0, 0) _ rfl (drew_blk (row6_heap (set6 _ _ _ _ _ _ HRR.out))) Tryz.underlying47 rfl (by kernel_rfl) _ _ rfl rfl) rfl ⟨_, _, _, _, _, rfl, ?_, ?_, ?_, (below6 _ _ _ _ _ _ HBZ.out (Nat.le_refl _)).drew⟩
      · have h1 : KeysAt wr w1.heap.size (w1.heap.size + 1) (some ⟨w1.heap.size, 0, none⟩) KS := HKW.out.carry (Nat.le_refl _) (Nat.le_refl _) fun b h1 h2 => HTC.out.block b (by have := HWZ.out; omega) (fun e => by omega)
        exact h1.carry (Nat.zero_le _) (by have := HTC.out.size; have := HWZ.out; simp [World.setCell]; omega) fun b h1 h2 => drew_blk <| heap6 _ _ _ _ _ _ (by omega)
      · exact HJS.out.carry (Nat.zero_le _) (by simp [World.setCell]) fun b h1 h2 => drew_blk <| heap6 _ _ _ _ _ _ (by have := HWZ.out; omega)
      · exact HGK.out.carry (Nat.zero_le _) (by simp [World.setCell]) fun b h1 h2 => drew_blk <| heap6 _ _ _ _ _ _ (by have := HWZ.out; omega)

end Go.Proofs.YtaekmmnpdbmoeaaGreatDoor

namespace Go.Proofs.YtaekmmnpdbmoeaaGreatDoor
open Go.RowKit

def wantB : ByteArray := ⟨#[119, 104, 97, 116, 32, 100, 111, 32, 121, 97, 32, 119, 97, 110, 116, 32, 102, 111, 114, 32, 110, 111, 116, 104, 105, 110, 103, 63]⟩
def macB : ByteArray := ⟨#[53, 98, 100, 99, 99, 49, 52, 54, 98, 102, 54, 48, 55, 53, 52, 101, 54, 97, 48, 52, 50, 52, 50, 54, 48, 56, 57, 53, 55, 53, 99, 55, 53, 97, 48, 48, 51, 102, 48, 56, 57, 100, 50, 55, 51, 57, 56, 51, 57, 100, 101, 99, 53, 56, 98, 57, 54, 52, 101, 99, 51, 56, 52, 51]⟩
def edK : Key2 := (⟨#[101, 100, 50, 53, 53, 49, 57]⟩, ⟨#[48, 48]⟩)
theorem ed_E : makeE edK = 10 := by decide +kernel
theorem jefe_S : makeS jefeK wantB.data.toList = (id2 jefeK, macB) := by
  have h : ok2 jefeK = true ∧ jefeK.1 = schemeH := ⟨jefe_ok, rfl⟩
  unfold makeS
  rw [if_pos h]
  exact congrArg (fun l : List UInt8 => (id2 jefeK, (⟨l.toArray⟩ : ByteArray))) mac_jefe
theorem jefe_good : Ver.mac.good jefeK (id2 jefeK, macB) wantB.data.toList = true := by
  have h := (make_good (k := jefeK) (m := wantB.data.toList) jefe_ok rfl).1
  rwa [jefe_S] at h
theorem two_auth : authOk 2 [id2 jefeK, id2 zeroK] = true := by decide +kernel
theorem two_sizes : (∀ s ∈ [id2 jefeK, id2 zeroK], s.size ≤ 1000000) ∧ (∀ s ∈ [makeS jefeK [123, 125], makeS zeroK [123, 125]], s.1.size ≤ 1000000 ∧ s.2.size ≤ 1000000) := by decide +kernel
theorem two_enough : enoughV .mac objJ [makeS jefeK [123, 125], makeS zeroK [123, 125]] 2 [id2 jefeK, id2 zeroK] [jefeK, zeroK] = true := by
  unfold enoughV; rw [two_count, two_auth]; rfl
theorem two_scant : enoughV .mac objJ [makeS zeroK [123, 125], makeS zeroK [123, 125]] 2 [id2 jefeK, id2 zeroK] [jefeK, zeroK] = false := by
  unfold enoughV; rw [two_again, two_auth]; rfl
theorem objJ_num : objJ.num := by unfold objJ JV.num JV.nums; exact ⟨by omega, by omega, trivial⟩
theorem objJ_wt : objJ.wt ≤ 1000000000 := by decide +kernel

end Go.Proofs.YtaekmmnpdbmoeaaGreatDoor
