import Derived.Test.YthgembbgcbaghaaGreatDoorDt35
import Derived.Test.YthgembbgcbaghaaGreatDoorDt52
set_option maxRecDepth 100000

namespace Go.Proofs.YthgembbgcbaghaaGreatDoor.delegTells
open Go.ChangeShapes Go.WideShapes Go.ChangeAt Go.RowKit Go.Joins
theorem tfine:∀t ∈ [35,35],Tryz.prog.readableRec t=true/\t<Tryz.prog.types.size:=by
 have h:([35,35]:List Nat).all (fun t=>Tryz.prog.readableRec t && decide (t<Tryz.prog.types.size))=true:=by kernel_rfl
 intro t ht;simpa using V4.1 h t ht
theorem contract (H:Type) (enc:TypeId × Value->H) (W:World) (base:Nat) (args:Array Value) (ds gs:List (DataW H)) (before:List MemPlace)
 (hval:∀(j:Nat) t v,Tryz.f9.params[j]?=some t->args[j]?=some v->Value.okWide Tryz.prog W .any base t v)
 (hW:DataW.Whole enc Tryz.prog Tryz.f9.params.toList Rows.delegTellsSpec.vars false W args.toList ds gs before) (hL:laidMetH Tryz.prog Rows.delegTellsRow.laid W) :
 Calls Tryz.prog 9 args W fun e W'=>∃v,e=.returned v/\Rows.delegTellsSpec.post enc Tryz.prog Tryz.f9 false true false false W args v W':=by
 have a:=hW;obtain ⟨p,q,b,T,rfl,V,X⟩:=hW;have A:DataW.TrodAll enc Tryz.prog W 0 (fun _=>true) true Tryz.f9.params.toList args.toList ds p:=b;rw [Tryz.params9] at A hval;have B:=A;obtain ⟨Y,Z,d0,d1,M,N,rfl,rfl,rfl,R,S⟩:=trodAll_two A;obtain ⟨rfl,rfl⟩:=trodVars_none T;obtain ⟨m,u,y,h,k,r,D,I,c,F,K,f,rfl,P⟩:=fR (hval 0 35 Y rfl rfl) R;obtain ⟨o,w,z,i,l,s,E,J,d,G,L,g,rfl,Q⟩:=fR (hval 1 35 Z rfl rfl) S;clear b;simp only [List.append_nil] at a;refine (uc m u y h k r D I c F K f o w z i l s E J d G L g W P Q (oE hL)).mono fun e W' ⟨he,hb⟩=>?_;subst he;have C:∀x ∈ M ++ N,x.block<W.heap.size:=fun x hx=>by simpa using a.lt x hx
 exact ⟨_,rfl,rZ (pa:=M ++ N) (pv:=[]) a (fun _ _ _=>trodAll_mk1 (shut_bool M1 _)) (fun sp hsp=>yf hb [35,35] _ _ _ tfine B C hsp) (fun _ _=>rfl) (List.append_nil _).symm hb (ok_one (by kernel_rfl) rfl (okWide_bool_mk M1 _))⟩
theorem laid_met (os:Os):laidMet Tryz.prog Rows.delegTellsRow.laid ((laidWorld os).forCall (fun _ _=>0) ⟨#[],#[.agg #[.slice none 0 0,.slice none 0 0,.int .i64 0,.slice none 0 0,.int .i64 0,.string ⟨#[]⟩],.agg #[.slice none 0 0,.slice none 0 0,.int .i64 0,.slice none 0 0,.int .i64 0,.string ⟨#[]⟩]],[]⟩).memory :=
 laidMet_of_run' 8 (by kernel_rfl) (by kernel_rfl)
theorem reads0 (os:Os) {H:Type} (enc:TypeId × Value->H):∃places,DataW.whole enc Tryz.prog ((laidWorld os).forCall (fun _ _=>0) ⟨#[],#[.agg #[.slice none 0 0,.slice none 0 0,.int .i64 0,.slice none 0 0,.int .i64 0,.string ⟨#[]⟩],.agg #[.slice none 0 0,.slice none 0 0,.int .i64 0,.slice none 0 0,.int .i64 0,.string ⟨#[]⟩]],[]⟩).memory Tryz.f9.params.toList Rows.delegTellsSpec.vars false (Array.toList #[.agg #[.slice none 0 0,.slice none 0 0,.int .i64 0,.slice none 0 0,.int .i64 0,.string ⟨#[]⟩],.agg #[.slice none 0 0,.slice none 0 0,.int .i64 0,.slice none 0 0,.int .i64 0,.string ⟨#[]⟩]]) 8=some ([.agg [.nil,.nil,.agg [.agg [.lit (.int .i64 0),.nil],.lit (.int .i64 0),.lit (.string [])]],.agg [.nil,.nil,.agg [.agg [.lit (.int .i64 0),.nil],.lit (.int .i64 0),.lit (.string [])]]],[],places) :=
 ⟨[],by kernel_rfl⟩
theorem lifted (os:Os) (started:os.Started) (H:Type) (enc:TypeId × Value->H) (F:Stop.Interp) :
 ReturnsInHanded {} Tryz.checked os 9 .any ((OpenSpec.ofChange Rows.delegTellsSpec).preRow enc Tryz.prog Tryz.f9 Rows.delegTellsRow.domain false Rows.delegTellsRow.laid) (((OpenSpec.ofChange Rows.delegTellsSpec).at F).post enc Tryz.prog Tryz.f9 false true false false):=by
 obtain ⟨a,b⟩:=reads0 os enc;refine returnsInHanded_of_row (C:=Tryz.checked) (s:=OpenSpec.ofChange Rows.delegTellsSpec) own started (by kernel_rfl) Tryz.func9
  (witness_row_at (enc:=enc) (C:=Tryz.checked) false (laidWorld os) #[.agg #[.slice none 0 0,.slice none 0 0,.int .i64 0,.slice none 0 0,.int .i64 0,.string ⟨#[]⟩],.agg #[.slice none 0 0,.slice none 0 0,.int .i64 0,.slice none 0 0,.int .i64 0,.string ⟨#[]⟩]] rfl (by kernel_rfl) (by kernel_rfl) (by kernel_rfl)
   (OpenSpec.preRow_of_cond 8 b (by kernel_rfl) (fun k hk=>by cases hk) (by kernel_rfl) (laid_met os))) ?_
 intro W base args ds gs before hval hW _ _ _ hL _ _;exact contract H enc W base args ds gs before hval hW hL
theorem said:Rows.DelegTellsSaid :=
 OpenClaim.holds_of_cond 9 Tryz.f9 rfl rfl rfl rfl rfl rfl rfl ⟨rfl,rfl,rfl,rfl,rfl⟩ rfl rfl rfl rfl rfl (by kernel_rfl) Tryz.func9 facts
  (of_decide_eq_true (by kernel_rfl)) (by unfold Func.isWrapper;first|(rw [J1 (by decide +kernel)];kernel_rfl)|(rw [Z5 (by decide +kernel)];exact ⟨rfl,rfl⟩))
  (fun os started H enc _ F=>by rw [OpenClaim.pre_eq_preRow];exact lifted os started H enc F)
theorem plain (f : FuncId) (fn : Func) (hf : Tryz.pinned.checked.prog.funcNamed "legate/legatelaw20.DelegTells" = some f) (hfn : Tryz.pinned.checked.prog.funcs[f]? = some fn) :
 false=Tryz.pinned.checked.prog.looks []/\∀(j:Nat) t,fn.params[j]?=some t->Tryz.pinned.checked.prog.wantsStandIn t=false:=by
 obtain rfl : f = 9 := Option.some.inj ((show Tryz.prog.funcNamed "legate/legatelaw20.DelegTells" = some 9 by kernel_rfl).symm.trans hf) |>.symm
 obtain rfl:fn=Tryz.f9:=(X7 (Tryz.func9.symm.trans hfn)).symm;refine ⟨by kernel_rfl,fun j t ht=>?_⟩;rw [Tryz.params9] at ht;have h:t=35\/t=35:=by
  have h2:=Array.mem_of_getElem? ht
  first|simpa using h2|(simp at h2;rcases h2 with h2|h2 <;> simp [h2])|(simp at h2;rcases h2 with h2|h2|h2 <;> simp [h2])|(simp at h2;rcases h2 with h2|h2|h2|h2 <;> simp [h2])|(simp at h2;rcases h2 with h2|h2|h2|h2|h2 <;> simp [h2])
 rcases h with rfl|rfl
 . exact (show Tryz.prog.wantsStandIn 35=false by kernel_rfl)
 . exact (show Tryz.prog.wantsStandIn 35=false by kernel_rfl)
theorem card:Rows.DelegTellsCardSaid :=
 Claim7.holds_tied_plain_at .later [] _ _ _ _ said (fun _ h=>by cases h) (by kernel_rfl) (fun _ h=>by cases h) delegTells_row_tie rfl ⟨rfl,rfl⟩ (by kernel_rfl) rfl plain (by kernel_rfl)
end Go.Proofs.YthgembbgcbaghaaGreatDoor.delegTells
