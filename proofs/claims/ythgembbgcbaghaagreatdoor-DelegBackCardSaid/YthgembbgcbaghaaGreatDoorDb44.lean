/- The law DelegBack holds: for every input the call returns true, and each argument reads as it did. Conditions: the row's own (the packages' tables hold what their initialisers lay); none of ours. -/
import Derived.Test.YthgembbgcbaghaaGreatDoorDb43

namespace Go.Proofs.YthgembbgcbaghaaGreatDoor.delegBack
open Go.ChangeShapes Go.WideShapes Go.ChangeAt Go.RowKit Go.Joins
theorem tfine:∀t ∈ [35,25],Tryz.prog.readableRec t=true∧t<Tryz.prog.types.size:=by
 have h:([35,25]:List Nat).all (fun t=>Tryz.prog.readableRec t && decide (t<Tryz.prog.types.size))=true:=by kernel_rfl
 intro t ht
 simpa using List.all_eq_true.1 h t ht
set_option maxRecDepth 100000 in
theorem contract (H:Type) (enc:TypeId × Value→H) (W:World) (base:Nat) (args:Array Value) (ds gs:List (DataW H)) (before:List MemPlace)
 (hval:∀(j:Nat) t v,Tryz.f10.params[j]?=some t→args[j]?=some v→Value.okWide Tryz.prog W .any base t v)
 (hW:DataW.Whole enc Tryz.prog Tryz.f10.params.toList Rows.delegBackSpec.vars false W args.toList ds gs before) (hL:laidMetH Tryz.prog Rows.delegBackRow.laid W) :
 Calls Tryz.prog 10 args W fun e W'=>∃v,e=.returned v∧Rows.delegBackSpec.post enc Tryz.prog Tryz.f10 false true false false W args v W':=by
 have hW':=hW
 obtain ⟨p,q,hA0,hV,rfl,hfz,hnd⟩:=hW
 have hA:DataW.TrodAll enc Tryz.prog W 0 (fun _=>true) true Tryz.f10.params.toList args.toList ds p:=hA0
 rw [Tryz.params10] at hA hval
 have hAk:=hA
 obtain ⟨v0,v1,d0,d1,p0,p1,rfl,rfl,rfl,h0,h1⟩:=trodAll_two hA
 obtain ⟨rfl,rfl⟩:=trodVars_none hV
 obtain ⟨dl0,ds0,dt0,db0,di0,dp0,ka0,ra0,ba0,kc0,rc0,bc0,rfl,G0⟩:=dQ (hval 0 35 v0 rfl rfl) h0
 obtain ⟨u1,an1,ai1,cn1,ci1,rfl,RN1,RF1,R1⟩:=tP (hval 1 25 v1 rfl rfl) h1 (fun b off hp=>hfz b off (by simp [hp]))
 clear hA0
 simp only [List.append_nil] at hW'
 refine (uW dl0 ds0 dt0 db0 di0 dp0 ka0 ra0 ba0 kc0 rc0 bc0 u1 an1 ai1 cn1 ci1 W G0 R1 (tG hL)).mono fun e W' ⟨he,hb⟩=>?_
 subst he
 have hlt:∀x ∈ p0 ++ p1,x.block<W.heap.size:=fun x hx=>by simpa using hW'.lt x hx
 exact ⟨_,rfl,dt (pa:=p0 ++ p1) (pv:=[]) hW' (fun _ _ _=>trodAll_mk1 (shut_bool Tryz.underlying4 _)) (fun sp hsp=>wW hb [35,25] _ _ _ tfine hAk hlt hsp) (fun _ _=>rfl) (List.append_nil _).symm hb (ok_one (by kernel_rfl) rfl (okWide_bool_mk Tryz.underlying4 _))⟩
theorem laid_met (os:Os):laidMet Tryz.prog Rows.delegBackRow.laid ((laidWorld os).forCall (fun _ _=>0) ⟨#[],#[.agg #[.slice none 0 0,.slice none 0 0,.int .i64 0,.slice none 0 0,.int .i64 0,.string ⟨#[]⟩],.agg #[.int .u8 0,.int .i64 0,.string ⟨#[]⟩,.slice none 0 0,.slice none 0 0]],[]⟩).memory :=
 laidMet_of_run' 8 (by kernel_rfl) (by kernel_rfl)
theorem reads0 (os:Os) {H:Type} (enc:TypeId × Value→H):∃places,DataW.whole enc Tryz.prog ((laidWorld os).forCall (fun _ _=>0) ⟨#[],#[.agg #[.slice none 0 0,.slice none 0 0,.int .i64 0,.slice none 0 0,.int .i64 0,.string ⟨#[]⟩],.agg #[.int .u8 0,.int .i64 0,.string ⟨#[]⟩,.slice none 0 0,.slice none 0 0]],[]⟩).memory Tryz.f10.params.toList Rows.delegBackSpec.vars false (Array.toList #[.agg #[.slice none 0 0,.slice none 0 0,.int .i64 0,.slice none 0 0,.int .i64 0,.string ⟨#[]⟩],.agg #[.int .u8 0,.int .i64 0,.string ⟨#[]⟩,.slice none 0 0,.slice none 0 0]]) 8=some ([.agg [.nil,.nil,.agg [.agg [.lit (.int .i64 0),.nil],.lit (.int .i64 0),.lit (.string [])]],.agg [.lit (.int .u8 0),.lit (.int .i64 0),.lit (.string []),.nil,.nil]],[],places) :=
 ⟨[],by kernel_rfl⟩
set_option maxRecDepth 100000 in
theorem lifted (os:Os) (started:os.Started) (H:Type) (enc:TypeId × Value→H) (F:Stop.Interp) :
 ReturnsInHanded {} Tryz.checked os 10 .any ((OpenSpec.ofChange Rows.delegBackSpec).preRow enc Tryz.prog Tryz.f10 Rows.delegBackRow.domain false Rows.delegBackRow.laid) (((OpenSpec.ofChange Rows.delegBackSpec).at F).post enc Tryz.prog Tryz.f10 false true false false):=by
 obtain ⟨places,hx⟩:=reads0 os enc
 refine returnsInHanded_of_row (C:=Tryz.checked) (s:=OpenSpec.ofChange Rows.delegBackSpec) own started (by kernel_rfl) Tryz.func10
  (witness_row_at (enc:=enc) (C:=Tryz.checked) false (laidWorld os) #[.agg #[.slice none 0 0,.slice none 0 0,.int .i64 0,.slice none 0 0,.int .i64 0,.string ⟨#[]⟩],.agg #[.int .u8 0,.int .i64 0,.string ⟨#[]⟩,.slice none 0 0,.slice none 0 0]] rfl (by kernel_rfl) (by kernel_rfl) (by kernel_rfl)
   (OpenSpec.preRow_of_cond 8 hx (by kernel_rfl) (fun k hk=>by cases hk) (by kernel_rfl) (laid_met os))) ?_
 intro W base args ds gs before hval hW _ _ _ hL _ _
 exact contract H enc W base args ds gs before hval hW hL
theorem said:Rows.DelegBackSaid :=
 OpenClaim.holds_of_cond 10 Tryz.f10 rfl rfl rfl rfl rfl rfl rfl ⟨rfl,rfl,rfl,rfl,rfl⟩ rfl rfl rfl rfl rfl (by kernel_rfl) Tryz.func10 facts
  (of_decide_eq_true (by kernel_rfl)) (by unfold Func.isWrapper;first|(rw [if_pos (by decide +kernel)];kernel_rfl)|(rw [if_neg (by decide +kernel)];exact ⟨rfl,rfl⟩))
  (fun os started H enc _ F=>by rw [OpenClaim.pre_eq_preRow];exact lifted os started H enc F)
theorem plain (f : FuncId) (fn : Func) (hf : Tryz.pinned.checked.prog.funcNamed "legate/legatelaw20.DelegBack" = some f) (hfn : Tryz.pinned.checked.prog.funcs[f]? = some fn) :
 false=Tryz.pinned.checked.prog.looks []∧∀(j:Nat) t,fn.params[j]?=some t→Tryz.pinned.checked.prog.wantsStandIn t=false:=by
 obtain rfl : f = 10 := Option.some.inj ((show Tryz.prog.funcNamed "legate/legatelaw20.DelegBack" = some 10 by kernel_rfl).symm.trans hf) |>.symm
 obtain rfl:fn=Tryz.f10:=(Option.some.inj (Tryz.func10.symm.trans hfn)).symm
 refine ⟨by kernel_rfl,fun j t ht=>?_⟩
 rw [Tryz.params10] at ht
 have h:t=35∨t=25:=by
  have h2:=Array.mem_of_getElem? ht
  first|simpa using h2|(simp at h2;rcases h2 with h2|h2 <;> simp [h2])|(simp at h2;rcases h2 with h2|h2|h2 <;> simp [h2])|(simp at h2;rcases h2 with h2|h2|h2|h2 <;> simp [h2])|(simp at h2;rcases h2 with h2|h2|h2|h2|h2 <;> simp [h2])
 rcases h with rfl|rfl
 · exact (show Tryz.prog.wantsStandIn 35=false by kernel_rfl)
 · exact (show Tryz.prog.wantsStandIn 25=false by kernel_rfl)
theorem card:Rows.DelegBackCardSaid :=
 Claim7.holds_tied_plain_at .later [] _ _ _ _ said (fun _ h=>by cases h) (by kernel_rfl) (fun _ h=>by cases h) delegBack_row_tie rfl ⟨rfl,rfl⟩ (by kernel_rfl) rfl plain (by kernel_rfl)
end Go.Proofs.YthgembbgcbaghaaGreatDoor.delegBack
