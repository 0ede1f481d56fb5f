import Derived.Test.YthgembbgcbaghaaGreatDoorDn33
import Derived.Test.YthgembbgcbaghaaGreatDoorDn46
set_option maxRecDepth 100000

namespace Go.Proofs.YthgembbgcbaghaaGreatDoor.delegNames
open Go.ChangeShapes Go.WideShapes Go.ChangeAt Go.RowKit Go.Joins
theorem contract (H:Type) (enc:TypeId × Value->H) (W:World) (k:Nat) (h:Array Value) (m r:List (DataW H)) (i:List MemPlace)
 (l:∀(j:Nat) t v,Tryz.f5.params[j]?=some t->h[j]?=some v->Value.okWide Tryz.prog W .any k t v)
 (o:DataW.Whole enc Tryz.prog Tryz.f5.params.toList Rows.delegNamesSpec.vars false W h.toList m r i) (s:laidMetH Tryz.prog Rows.delegNamesRow.laid W) :
 Calls Tryz.prog 5 h W fun e W'=>∃v,e=.returned v/\Rows.delegNamesSpec.post enc Tryz.prog Tryz.f5 false true false false W h v W':=by
 have b:=o;obtain ⟨p,q,a,d,rfl,f,g⟩:=o;have c:DataW.TrodAll enc Tryz.prog W 0 (fun _=>true) true Tryz.f5.params.toList h.toList m p:=a;rw [Tryz.params5] at c l;obtain ⟨rfl,rfl,rfl⟩:=trodAll_none c;obtain ⟨rfl,rfl⟩:=trodVars_none d;clear a;simp only [List.append_nil] at b;refine (ri W (aX s)).mono fun e W' ⟨he,hb⟩=>?_;subst he;exact ⟨_,rfl,cH (pa:=[]) (pv:=[]) b (fun _ _ _=>trodAll_mk1 (shut_bool G7 _)) (fun sp _=>trodAll_mk0) (fun _ _=>rfl) rfl hb (ok_one (by kernel_rfl) rfl (okWide_bool_mk G7 _))⟩
theorem laid_met (a:Os):laidMet Tryz.prog Rows.delegNamesRow.laid ((laidWorld a).forCall (fun _ _=>0) ⟨#[],#[],[]⟩).memory :=
 laidMet_of_run' 8 (by kernel_rfl) (by kernel_rfl)
theorem reads0 (a:Os) {H:Type} (enc:TypeId × Value->H):∃places,DataW.whole enc Tryz.prog ((laidWorld a).forCall (fun _ _=>0) ⟨#[],#[],[]⟩).memory Tryz.f5.params.toList Rows.delegNamesSpec.vars false (Array.toList #[]) 8=some ([],[],places) :=
 ⟨[],by kernel_rfl⟩
theorem lifted (d:Os) (c:d.Started) (H:Type) (enc:TypeId × Value->H) (F:Stop.Interp) :
 ReturnsInHanded {} Tryz.checked d 5 .any ((OpenSpec.ofChange Rows.delegNamesSpec).preRow enc Tryz.prog Tryz.f5 Rows.delegNamesRow.domain false Rows.delegNamesRow.laid) (((OpenSpec.ofChange Rows.delegNamesSpec).at F).post enc Tryz.prog Tryz.f5 false true false false):=by
 obtain ⟨a,b⟩:=reads0 d enc;refine returnsInHanded_of_row (C:=Tryz.checked) (s:=OpenSpec.ofChange Rows.delegNamesSpec) own c (by kernel_rfl) Tryz.func5
  (witness_row_at (enc:=enc) (C:=Tryz.checked) false (laidWorld d) #[] rfl (by kernel_rfl) (by kernel_rfl) (by kernel_rfl)
   (OpenSpec.preRow_of_cond 8 b (by kernel_rfl) (fun k hk=>by cases hk) (by kernel_rfl) (laid_met d))) ?_
 intro W base args ds gs before hval hW _ _ _ hL _ _;exact contract H enc W base args ds gs before hval hW hL
theorem said:Rows.DelegNamesSaid :=
 OpenClaim.holds_of_cond 5 Tryz.f5 rfl rfl rfl rfl rfl rfl rfl ⟨rfl,rfl,rfl,rfl,rfl⟩ rfl rfl rfl rfl rfl (by kernel_rfl) Tryz.func5 facts
  (of_decide_eq_true (by kernel_rfl)) (by unfold Func.isWrapper;first|(rw [Q1 (by decide +kernel)];kernel_rfl)|(rw [Z6 (by decide +kernel)];exact ⟨rfl,rfl⟩))
  (fun os started H enc _ F=>by rw [OpenClaim.pre_eq_preRow];exact lifted os started H enc F)
theorem plain (f : FuncId) (a : Func) (c : Tryz.pinned.checked.prog.funcNamed "legate/legatelaw20.DelegNames" = some f) (b : Tryz.pinned.checked.prog.funcs[f]? = some a) :
 false=Tryz.pinned.checked.prog.looks []/\∀(j:Nat) t,a.params[j]?=some t->Tryz.pinned.checked.prog.wantsStandIn t=false:=by
 obtain rfl : f = 5 := Option.some.inj ((show Tryz.prog.funcNamed "legate/legatelaw20.DelegNames" = some 5 by kernel_rfl).symm.trans c) |>.symm
 obtain rfl:a=Tryz.f5:=(J0 (Tryz.func5.symm.trans b)).symm;refine ⟨by kernel_rfl,fun j t ht=>?_⟩;rw [Tryz.params5] at ht;simp at ht
theorem card:Rows.DelegNamesCardSaid :=
 Claim7.holds_tied_plain_at .later [] _ _ _ _ said (fun _ h=>by cases h) (by kernel_rfl) (fun _ h=>by cases h) delegNames_row_tie rfl ⟨rfl,rfl⟩ (by kernel_rfl) rfl plain (by kernel_rfl)
end Go.Proofs.YthgembbgcbaghaaGreatDoor.delegNames
