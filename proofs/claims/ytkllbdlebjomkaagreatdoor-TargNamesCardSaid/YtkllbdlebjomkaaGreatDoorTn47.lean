/- The law TargNames holds: for every input the call returns true, and each argument reads as it did. Conditions: the row's own (the packages' tables hold what their initialisers lay); none of ours. -/
import Derived.Test.YtkllbdlebjomkaaGreatDoorTn34
import Derived.Test.YtkllbdlebjomkaaGreatDoorTn46
set_option maxRecDepth 100000

namespace Go.Proofs.YtkllbdlebjomkaaGreatDoor.targNames
open Go.ChangeShapes Go.WideShapes Go.ChangeAt Go.RowKit Go.Joins
theorem contract (H:Type) (enc:TypeId × Value->H) (W:World) (k:Nat) (h:Array Value) (o s:List (DataW H)) (i:List MemPlace)
 (l:∀(j:Nat) t v,Tryz.f3.params[j]?=some t->h[j]?=some v->Value.okWide Tryz.prog W .any k t v)
 (r:DataW.Whole enc Tryz.prog Tryz.f3.params.toList Rows.targNamesSpec.vars false W h.toList o s i) (m:laidMetH Tryz.prog Rows.targNamesRow.laid W) :
 Calls Tryz.prog 3 h W fun e W'=>∃v,e=.returned v/\Rows.targNamesSpec.post enc Tryz.prog Tryz.f3 false true false false W h v W':=by
 have b:=r;obtain ⟨p,q,a,d,rfl,f,g⟩:=r;have c:DataW.TrodAll enc Tryz.prog W 0 (fun _=>true) true Tryz.f3.params.toList h.toList o p:=a;rw [Tryz.params3] at c l;obtain ⟨rfl,rfl,rfl⟩:=trodAll_none c;obtain ⟨rfl,rfl⟩:=trodVars_none d;clear a;simp only [List.append_nil] at b;refine (aA W (Nat.lt_of_le_of_lt (J0 _) (nL m).lt) (o7 m) (nL m) (Qi m)).mono fun e W' ⟨he,hb⟩=>?_;subst he;exact ⟨_,rfl,rP (pa:=[]) (pv:=[]) b (fun _ _ _=>trodAll_mk1 (shut_bool N7 _)) (fun sp _=>trodAll_mk0) (fun _ _=>rfl) rfl hb (ok_one (by kernel_rfl) rfl (okWide_bool_mk N7 _))⟩
theorem laid_met (a:Os):laidMet Tryz.prog Rows.targNamesRow.laid ((laidWorld a).forCall (fun _ _=>0) ⟨#[],#[],[]⟩).memory :=
 laidMet_of_run' 8 (by kernel_rfl) (by kernel_rfl)
theorem reads0 (a:Os) {H:Type} (enc:TypeId × Value->H):∃places,DataW.whole enc Tryz.prog ((laidWorld a).forCall (fun _ _=>0) ⟨#[],#[],[]⟩).memory Tryz.f3.params.toList Rows.targNamesSpec.vars false (Array.toList #[]) 8=some ([],[],places) :=
 ⟨[],by kernel_rfl⟩
theorem lifted (d:Os) (c:d.Started) (H:Type) (enc:TypeId × Value->H) (F:Stop.Interp) :
 ReturnsInHanded {} Tryz.checked d 3 .any ((OpenSpec.ofChange Rows.targNamesSpec).preRow enc Tryz.prog Tryz.f3 Rows.targNamesRow.domain false Rows.targNamesRow.laid) (((OpenSpec.ofChange Rows.targNamesSpec).at F).post enc Tryz.prog Tryz.f3 false true false false):=by
 obtain ⟨a,b⟩:=reads0 d enc;refine returnsInHanded_of_row (C:=Tryz.checked) (s:=OpenSpec.ofChange Rows.targNamesSpec) own c (by kernel_rfl) Tryz.func3
  (witness_row_at (enc:=enc) (C:=Tryz.checked) false (laidWorld d) #[] rfl (by kernel_rfl) (by kernel_rfl) (by kernel_rfl)
   (OpenSpec.preRow_of_cond 8 b (by kernel_rfl) (fun k hk=>by cases hk) (by kernel_rfl) (laid_met d))) ?_
 intro W base args ds gs before hval hW _ _ _ hL _ _;exact contract H enc W base args ds gs before hval hW hL
theorem said:Rows.TargNamesSaid :=
 OpenClaim.holds_of_cond 3 Tryz.f3 rfl rfl rfl rfl rfl rfl rfl ⟨rfl,rfl,rfl,rfl,rfl⟩ rfl rfl rfl rfl rfl (by kernel_rfl) Tryz.func3 facts
  (of_decide_eq_true (by kernel_rfl)) (by unfold Func.isWrapper;first|(rw [J3 (by decide +kernel)];kernel_rfl)|(rw [Z6 (by decide +kernel)];exact ⟨rfl,rfl⟩))
  (fun os started H enc _ F=>by rw [OpenClaim.pre_eq_preRow];exact lifted os started H enc F)
theorem plain (f : FuncId) (a : Func) (c : Tryz.pinned.checked.prog.funcNamed "legate/legatelaw24.TargNames" = some f) (b : Tryz.pinned.checked.prog.funcs[f]? = some a) :
 false=Tryz.pinned.checked.prog.looks []/\∀(j:Nat) t,a.params[j]?=some t->Tryz.pinned.checked.prog.wantsStandIn t=false:=by
 obtain rfl : f = 3 := Option.some.inj ((show Tryz.prog.funcNamed "legate/legatelaw24.TargNames" = some 3 by kernel_rfl).symm.trans c) |>.symm
 obtain rfl:a=Tryz.f3:=(X2 (Tryz.func3.symm.trans b)).symm;refine ⟨by kernel_rfl,fun j t ht=>?_⟩;rw [Tryz.params3] at ht;simp at ht
theorem card:Rows.TargNamesCardSaid :=
 Claim7.holds_tied_plain_at .later [] _ _ _ _ said (fun _ h=>by cases h) (by kernel_rfl) (fun _ h=>by cases h) targNames_row_tie rfl ⟨rfl,rfl⟩ (by kernel_rfl) rfl plain (by kernel_rfl)
end Go.Proofs.YtkllbdlebjomkaaGreatDoor.targNames
