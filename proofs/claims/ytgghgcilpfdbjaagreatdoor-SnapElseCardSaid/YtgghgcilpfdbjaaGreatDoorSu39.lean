/- The law SnapElse holds: for every input the call returns true, and each argument reads as it did. Conditions: the row's own (the packages' tables hold what their initialisers lay); none of ours. -/
import Derived.Test.YtgghgcilpfdbjaaGreatDoorSu09
import Derived.Test.YtgghgcilpfdbjaaGreatDoorSu38

namespace Go.Proofs.YtgghgcilpfdbjaaGreatDoor.snapElse
open Go.ChangeShapes Go.WideShapes Go.ChangeAt Go.RowKit Go.Joins
theorem tfine : ∀ t ∈ [24, 36, 9, 30, 3], Tryz.prog.readableRec t = true ∧ t < Tryz.prog.types.size := by
 have h : ([24, 36, 9, 30, 3] : List Nat).all (fun t => Tryz.prog.readableRec t && decide (t < Tryz.prog.types.size)) = true := by kernel_rfl
 intro t ht
 simpa using List.all_eq_true.1 h t ht
set_option maxRecDepth 100000 in
theorem contract (H : Type) (enc : TypeId × Value → H) (W : World) (base : Nat) (args : Array Value) (ds gs : List (DataW H)) (before : List MemPlace)
   (hval : ∀ (j : Nat) t v, Tryz.f10.params[j]? = some t → args[j]? = some v → Value.okWide Tryz.prog W .any base t v)
   (hW : DataW.Whole enc Tryz.prog Tryz.f10.params.toList Rows.snapElseSpec.vars false W args.toList ds gs before) (hL : laidMetH Tryz.prog Rows.snapElseRow.laid W) :
   Calls Tryz.prog 10 args W fun e W' => ∃ v, e = .returned v ∧ Rows.snapElseSpec.post enc Tryz.prog Tryz.f10 false true false false W args v W' := by
 have hW' := hW
 obtain ⟨p, q, hA0, hV, rfl, hfz, hnd⟩ := hW
 have hA : DataW.TrodAll enc Tryz.prog W 0 (fun _ => true) true Tryz.f10.params.toList args.toList ds p := hA0
 rw [Tryz.params10] at hA hval
 have hAk := hA
 obtain ⟨v0, v1, v2, v3, v4, d0, d1, d2, d3, d4, p0, p1, p2, p3, p4, rfl, rfl, rfl, h0, h1, h2, h3, h4⟩ := trodAll_five hA
 obtain ⟨rfl, rfl⟩ := trodVars_none hV
 obtain ⟨n0, e0, a0, c0, l0, rfl, I0, J0, C0, m0, F0, K0⟩ := arg_snap (hval 0 24 v0 rfl rfl) h0
 obtain ⟨q1, a1, c1, rfl, L1, K1, F1⟩ := arg_pin (hval 1 36 v1 rfl rfl) h1
 obtain ⟨s2, rfl⟩ := arg_str (hval 2 9 v2 rfl rfl) h2
 obtain ⟨u3, an3, ai3, cn3, ci3, rfl, R3⟩ := arg_val (hval 3 30 v3 rfl rfl) h3 (fun b off hp => hfz b off (by simp [hp]))
 obtain ⟨i4, rfl, I4⟩ := arg_int (hval 4 3 v4 rfl rfl) h4
 clear hA0
 simp only [List.append_nil] at hW'
 refine (lawElse n0 e0 l0 a0 c0 q1 a1 c1 s2 u3 an3 ai3 cn3 ci3 i4 I4 W K0 m0 F0 K1 L1 R3 (tabw_of hL) (pow_of hL)).mono fun e W' ⟨he, hb⟩ => ?_
 subst he
 have hlt : ∀ x ∈ p0 ++ p1 ++ p2 ++ p3 ++ p4, x.block < W.heap.size := fun x hx => by simpa using hW'.lt x hx
 exact ⟨_, rfl, post_below (pa := p0 ++ p1 ++ p2 ++ p3 ++ p4) (pv := []) hW' (fun _ _ _ => trodAll_mk1 (shut_bool Tryz.underlying4 _)) (fun sp hsp => trodAll_stays hb [24, 36, 9, 30, 3] _ _ _ tfine hAk hlt hsp) (fun _ _ => rfl) (List.append_nil _).symm hb (ok_one (by kernel_rfl) rfl (okWide_bool_mk Tryz.underlying4 _))⟩
theorem laid_met (os : Os) : laidMet Tryz.prog Rows.snapElseRow.laid ((laidWorld os).forCall (fun _ _ => 0) ⟨#[], #[.agg #[.int .i64 0, .int .i64 0, .slice none 0 0], .agg #[.string { data := #[] }, .int .i64 0, .int .i64 0, .slice none 0 0], .string { data := #[] }, .agg #[.int .u8 0, .int .i64 0, .string { data := #[] }, .slice none 0 0, .slice none 0 0], .int .i64 0], []⟩).memory :=
 laidMet_of_run' 8 (by kernel_rfl) (by kernel_rfl)
theorem reads0 (os : Os) {H : Type} (enc : TypeId × Value → H) : ∃ places, DataW.whole enc Tryz.prog ((laidWorld os).forCall (fun _ _ => 0) ⟨#[], #[.agg #[.int .i64 0, .int .i64 0, .slice none 0 0], .agg #[.string { data := #[] }, .int .i64 0, .int .i64 0, .slice none 0 0], .string { data := #[] }, .agg #[.int .u8 0, .int .i64 0, .string { data := #[] }, .slice none 0 0, .slice none 0 0], .int .i64 0], []⟩).memory Tryz.f10.params.toList Rows.snapElseSpec.vars false (Array.toList #[.agg #[.int .i64 0, .int .i64 0, .slice none 0 0], .agg #[.string { data := #[] }, .int .i64 0, .int .i64 0, .slice none 0 0], .string { data := #[] }, .agg #[.int .u8 0, .int .i64 0, .string { data := #[] }, .slice none 0 0, .slice none 0 0], .int .i64 0]) 8 = some ([.agg [.lit (.int .i64 0), .lit (.int .i64 0), .nil], .agg [.lit (.string []), .lit (.int .i64 0), .lit (.int .i64 0), .nil], .lit (.string []), .agg [.lit (.int .u8 0), .lit (.int .i64 0), .lit (.string []), .nil, .nil], .lit (.int .i64 0)], [], places) :=
 ⟨[], by kernel_rfl⟩
set_option maxRecDepth 100000 in
theorem lifted (os : Os) (started : os.Started) (H : Type) (enc : TypeId × Value → H) (F : Stop.Interp) :
   ReturnsInHanded {} Tryz.checked os 10 .any ((OpenSpec.ofChange Rows.snapElseSpec).preRow enc Tryz.prog Tryz.f10 Rows.snapElseRow.domain false Rows.snapElseRow.laid) (((OpenSpec.ofChange Rows.snapElseSpec).at F).post enc Tryz.prog Tryz.f10 false true false false) := by
 obtain ⟨places, hx⟩ := reads0 os enc
 refine returnsInHanded_of_row (C := Tryz.checked) (s := OpenSpec.ofChange Rows.snapElseSpec) own started (by kernel_rfl) Tryz.func10
   (witness_row_at (enc := enc) (C := Tryz.checked) false (laidWorld os) #[.agg #[.int .i64 0, .int .i64 0, .slice none 0 0], .agg #[.string { data := #[] }, .int .i64 0, .int .i64 0, .slice none 0 0], .string { data := #[] }, .agg #[.int .u8 0, .int .i64 0, .string { data := #[] }, .slice none 0 0, .slice none 0 0], .int .i64 0] rfl (by kernel_rfl) (by kernel_rfl) (by kernel_rfl)
     (OpenSpec.preRow_of_cond 8 hx (by kernel_rfl) (fun k hk => by cases hk) (by kernel_rfl) (laid_met os))) ?_
 intro W base args ds gs before hval hW _ _ _ hL _ _
 exact contract H enc W base args ds gs before hval hW hL
theorem said : Rows.SnapElseSaid :=
 OpenClaim.holds_of_cond 10 Tryz.f10 rfl rfl rfl rfl rfl rfl rfl ⟨rfl, rfl, rfl, rfl, rfl⟩ rfl rfl rfl rfl rfl (by kernel_rfl) Tryz.func10 (by kernel_rfl)
   (of_decide_eq_true (by kernel_rfl)) (by unfold Func.isWrapper; first | (rw [if_pos (by decide +kernel)]; kernel_rfl) | (rw [if_neg (by decide +kernel)]; exact ⟨rfl, rfl⟩))
   (fun os started H enc _ F => by rw [OpenClaim.pre_eq_preRow]; exact lifted os started H enc F)
theorem plain (f : FuncId) (fn : Func) (hf : Tryz.pinned.checked.prog.funcNamed "legate/legatelaw23.SnapElse" = some f) (hfn : Tryz.pinned.checked.prog.funcs[f]? = some fn) :
   false = Tryz.pinned.checked.prog.looks [] ∧ ∀ (j : Nat) t, fn.params[j]? = some t → Tryz.pinned.checked.prog.wantsStandIn t = false := by
 obtain rfl : f = 10 := Option.some.inj ((show Tryz.prog.funcNamed "legate/legatelaw23.SnapElse" = some 10 by kernel_rfl).symm.trans hf) |>.symm
 obtain rfl : fn = Tryz.f10 := (Option.some.inj (Tryz.func10.symm.trans hfn)).symm
 refine ⟨by kernel_rfl, fun j t ht => ?_⟩
 rw [Tryz.params10] at ht
 have h : t = 24 ∨ t = 36 ∨ t = 9 ∨ t = 30 ∨ t = 3 := by
   have h2 := Array.mem_of_getElem? ht
   first | simpa using h2 | (simp at h2; rcases h2 with h2 | h2 <;> simp [h2]) | (simp at h2; rcases h2 with h2 | h2 | h2 <;> simp [h2]) | (simp at h2; rcases h2 with h2 | h2 | h2 | h2 <;> simp [h2]) | (simp at h2; rcases h2 with h2 | h2 | h2 | h2 | h2 <;> simp [h2])
 rcases h with rfl | rfl | rfl | rfl | rfl
 · exact (show Tryz.prog.wantsStandIn 24 = false by kernel_rfl)
 · exact (show Tryz.prog.wantsStandIn 36 = false by kernel_rfl)
 · exact (show Tryz.prog.wantsStandIn 9 = false by kernel_rfl)
 · exact (show Tryz.prog.wantsStandIn 30 = false by kernel_rfl)
 · exact (show Tryz.prog.wantsStandIn 3 = false by kernel_rfl)
theorem card : Rows.SnapElseCardSaid :=
 Claim7.holds_tied_plain_at .later [] _ _ _ _ said (fun _ h => by cases h) (by kernel_rfl) (fun _ h => by cases h) snapElse_row_tie rfl ⟨rfl, rfl⟩ (by kernel_rfl) rfl plain (by kernel_rfl)
end Go.Proofs.YtgghgcilpfdbjaaGreatDoor.snapElse
