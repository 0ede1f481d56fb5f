import Derived.Test.YthgembbgcbaghaaGreatDoorDg35
import Derived.Test.YthgembbgcbaghaaGreatDoorDg52
set_option maxRecDepth 100000

namespace Go.Proofs.YthgembbgcbaghaaGreatDoor.delegGoes
open Go.ChangeShapes Go.WideShapes Go.ChangeAt Go.RowKit Go.Joins
theorem tfine:∀t ∈ [35,41,9],Tryz.prog.readableRec t=true/\t<Tryz.prog.types.size:=by
 have h:([35,41,9]:List Nat).all (fun t=>Tryz.prog.readableRec t && decide (t<Tryz.prog.types.size))=true:=by kernel_rfl
 intro t ht;simpa using K7.1 h t ht
theorem contract (H:Type) (enc:TypeId × Value->H) (W:World) (a3:Nat) (a0:Array Value) (ds gs:List (DataW H)) (a2:List MemPlace)
 (a1:∀(j:Nat) t v,Tryz.f4.params[j]?=some t->a0[j]?=some v->Value.okWide Tryz.prog W .any a3 t v)
 (hW:DataW.Whole enc Tryz.prog Tryz.f4.params.toList Rows.delegGoesSpec.vars false W a0.toList ds gs a2) (hL:laidMetH Tryz.prog Rows.delegGoesRow.laid W) :
 Calls Tryz.prog 4 a0 W fun e W'=>∃v,e=.returned v/\Rows.delegGoesSpec.post enc Tryz.prog Tryz.f4 false true false false W a0 v W':=by
 have a:=hW;obtain ⟨p,q,b,P,rfl,Q,R⟩:=hW;have m:DataW.TrodAll enc Tryz.prog W 0 (fun _=>true) true Tryz.f4.params.toList a0.toList ds p:=b;rw [Tryz.params4] at m a1;have o:=m;obtain ⟨T,V,X,Y,Z,d2,F,G,I,rfl,rfl,rfl,L,M,N⟩:=trodAll_three m;obtain ⟨rfl,rfl⟩:=trodVars_none P;obtain ⟨h,k,l,f,g,i,w,D,c,y,E,d,rfl,J⟩:=nH (a1 0 35 T rfl rfl) L;obtain ⟨x1,s,z,B,u,A,C,rfl,K⟩:=tc (a1 1 41 V rfl rfl) M;obtain ⟨S,rfl⟩:=QY (a1 2 9 X rfl rfl) N;clear b;simp only [List.append_nil] at a;refine (df h k l f g i S w D c y E d x1.name x1.au.thr x1.au.ids x1.term x1.paths x1.pres s z B u A C W J K (QV hL)).mono fun e W' ⟨he,hb⟩=>?_;subst he;have r:∀x ∈ F ++ G ++ I,x.block<W.heap.size:=fun x hx=>by simpa using a.lt x hx
 exact ⟨_,rfl,nB (pa:=F ++ G ++ I) (pv:=[]) a (fun _ _ _=>trodAll_mk1 (shut_bool zb1 _)) (fun sp hsp=>yo hb [35,41,9] _ _ _ tfine o r hsp) (fun _ _=>rfl) (List.append_nil _).symm hb (ok_one (by kernel_rfl) rfl (okWide_bool_mk zb1 _))⟩
theorem laid_met (a:Os):laidMet Tryz.prog Rows.delegGoesRow.laid ((laidWorld a).forCall (fun _ _=>0) ⟨#[],#[.agg #[.slice none 0 0,.slice none 0 0,.int .i64 0,.slice none 0 0,.int .i64 0,.string ⟨#[]⟩],.agg #[.string ⟨#[]⟩,.int .i64 0,.slice none 0 0,.bool false,.slice none 0 0,.slice none 0 0],.string ⟨#[]⟩],[]⟩).memory :=
 laidMet_of_run' 8 (by kernel_rfl) (by kernel_rfl)
theorem reads0 (a:Os) {H:Type} (enc:TypeId × Value->H):∃places,DataW.whole enc Tryz.prog ((laidWorld a).forCall (fun _ _=>0) ⟨#[],#[.agg #[.slice none 0 0,.slice none 0 0,.int .i64 0,.slice none 0 0,.int .i64 0,.string ⟨#[]⟩],.agg #[.string ⟨#[]⟩,.int .i64 0,.slice none 0 0,.bool false,.slice none 0 0,.slice none 0 0],.string ⟨#[]⟩],[]⟩).memory Tryz.f4.params.toList Rows.delegGoesSpec.vars false (Array.toList #[.agg #[.slice none 0 0,.slice none 0 0,.int .i64 0,.slice none 0 0,.int .i64 0,.string ⟨#[]⟩],.agg #[.string ⟨#[]⟩,.int .i64 0,.slice none 0 0,.bool false,.slice none 0 0,.slice none 0 0],.string ⟨#[]⟩]) 8=some ([.agg [.nil,.nil,.agg [.agg [.lit (.int .i64 0),.nil],.lit (.int .i64 0),.lit (.string [])]],.agg [.lit (.string []),.agg [.lit (.int .i64 0),.nil],.lit (.bool false),.nil,.nil],.lit (.string [])],[],places) :=
 ⟨[],by kernel_rfl⟩
theorem lifted (d:Os) (c:d.Started) (H:Type) (enc:TypeId × Value->H) (F:Stop.Interp) :
 ReturnsInHanded {} Tryz.checked d 4 .any ((OpenSpec.ofChange Rows.delegGoesSpec).preRow enc Tryz.prog Tryz.f4 Rows.delegGoesRow.domain false Rows.delegGoesRow.laid) (((OpenSpec.ofChange Rows.delegGoesSpec).at F).post enc Tryz.prog Tryz.f4 false true false false):=by
 obtain ⟨a,b⟩:=reads0 d enc;refine returnsInHanded_of_row (C:=Tryz.checked) (s:=OpenSpec.ofChange Rows.delegGoesSpec) own c (by kernel_rfl) Tryz.func4
  (witness_row_at (enc:=enc) (C:=Tryz.checked) false (laidWorld d) #[.agg #[.slice none 0 0,.slice none 0 0,.int .i64 0,.slice none 0 0,.int .i64 0,.string ⟨#[]⟩],.agg #[.string ⟨#[]⟩,.int .i64 0,.slice none 0 0,.bool false,.slice none 0 0,.slice none 0 0],.string ⟨#[]⟩] rfl (by kernel_rfl) (by kernel_rfl) (by kernel_rfl)
   (OpenSpec.preRow_of_cond 8 b (by kernel_rfl) (fun k hk=>by cases hk) (by kernel_rfl) (laid_met d))) ?_
 intro W base args ds gs before hval hW _ _ _ hL _ _;exact contract H enc W base args ds gs before hval hW hL
theorem said:Rows.DelegGoesSaid :=
 OpenClaim.holds_of_cond 4 Tryz.f4 rfl rfl rfl rfl rfl rfl rfl ⟨rfl,rfl,rfl,rfl,rfl⟩ rfl rfl rfl rfl rfl (by kernel_rfl) Tryz.func4 facts
  (zb5 (by kernel_rfl)) (by unfold Func.isWrapper;first|(rw [J8 (by decide +kernel)];kernel_rfl)|(rw [J3 (by decide +kernel)];exact ⟨rfl,rfl⟩))
  (fun os started H enc _ F=>by rw [OpenClaim.pre_eq_preRow];exact lifted os started H enc F)
theorem plain (f : FuncId) (a : Func) (c : Tryz.pinned.checked.prog.funcNamed "legate/legatelaw20.DelegGoes" = some f) (b : Tryz.pinned.checked.prog.funcs[f]? = some a) :
 false=Tryz.pinned.checked.prog.looks []/\∀(j:Nat) t,a.params[j]?=some t->Tryz.pinned.checked.prog.wantsStandIn t=false:=by
 obtain rfl : f = 4 := Option.some.inj ((show Tryz.prog.funcNamed "legate/legatelaw20.DelegGoes" = some 4 by kernel_rfl).symm.trans c) |>.symm
 obtain rfl:a=Tryz.f4:=(Y9 (Tryz.func4.symm.trans b)).symm;refine ⟨by kernel_rfl,fun j t ht=>?_⟩;rw [Tryz.params4] at ht;have h:t=35\/t=41\/t=9:=by
  have h2:=Array.mem_of_getElem? ht
  first|simpa using h2|(simp at h2;rcases h2 with h2|h2 <;> simp [h2])|(simp at h2;rcases h2 with h2|h2|h2 <;> simp [h2])|(simp at h2;rcases h2 with h2|h2|h2|h2 <;> simp [h2])|(simp at h2;rcases h2 with h2|h2|h2|h2|h2 <;> simp [h2])
 rcases h with rfl|rfl|rfl
 . exact (show Tryz.prog.wantsStandIn 35=false by kernel_rfl)
 . exact (show Tryz.prog.wantsStandIn 41=false by kernel_rfl)
 . exact (show Tryz.prog.wantsStandIn 9=false by kernel_rfl)
theorem card:Rows.DelegGoesCardSaid :=
 Claim7.holds_tied_plain_at .later [] _ _ _ _ said (fun _ h=>by cases h) (by kernel_rfl) (fun _ h=>by cases h) delegGoes_row_tie rfl ⟨rfl,rfl⟩ (by kernel_rfl) rfl plain (by kernel_rfl)
end Go.Proofs.YthgembbgcbaghaaGreatDoor.delegGoes
