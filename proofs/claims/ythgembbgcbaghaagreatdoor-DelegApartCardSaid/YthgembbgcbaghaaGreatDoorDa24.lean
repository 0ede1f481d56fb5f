/- The contract of deleg.hasName. -/
import Derived.Test.YthgembbgcbaghaaGreatDoorDa23
import GoSem.Conv.StringToRunes

namespace Go.Proofs.YthgembbgcbaghaaGreatDoor
open Go.RowKit
def ya (l:List JV) (w:World) (e:Ending) (w':World):Prop :=
 ∃ai ci,e=.returned (.agg #[.int .u8 4,.int .i64 0,.string ⟨#[]⟩,.slice none 0 0,.slice ai l.length ci])∧Rep w' w.heap.size w'.heap.size (zu l) (.agg #[.int .u8 4,.int .i64 0,.string ⟨#[]⟩,.slice none 0 0,.slice ai l.length ci])∧Below w.heap.size w w'
set_option maxHeartbeats 2000000 in
set_option maxRecDepth 100000 in
theorem rC (l:List JV) (a:Option Addr) (c lo:Nat) (w:World) (hlo:0<lo) (hS:qR w lo w.heap.size a l) (hl:l.length≤4294967296) (hwt:∀x ∈ l,x.wt≤4294967296) :
 Calls Tryz.prog 148 #[.slice a l.length c] w (ya l w):=by
 obtain ⟨W,hW⟩:∃W,W=(w.alloc (.cells #[.int .u8 0,.int .i64 0,.string ⟨#[]⟩,.slice none 0 0,.slice none 0 0] 25)).alloc (.cells #[.int .u8 4,.int .i64 0,.string ⟨#[]⟩,.slice none 0 0,.slice none 0 0] 25):=⟨_,rfl⟩
 have hz1:(w.alloc (.cells #[.int .u8 0,.int .i64 0,.string ⟨#[]⟩,.slice none 0 0,.slice none 0 0] 25)).heap.size=w.heap.size+1:=by simp
 have hz2:W.heap.size=w.heap.size+2:=by rw [hW];simp
 have hb2:Below w.heap.size w W:=by rw [hW];exact ((Below.refl _ _).alloc lz _).alloc (by simp) _
 have hr0:W.rowIs w.heap.size 25 5 (qQ (.int .u8 0) (.int .i64 0) (.string ⟨#[]⟩) (.slice none 0 0) (.slice none 0 0)):=by rw [hW];exact (qp w (.int .u8 0) (.int .i64 0) (.string ⟨#[]⟩) (.slice none 0 0) (.slice none 0 0) 25).alloc _
 have hr1:W.rowIs (w.heap.size+1) 25 5 (qQ (.int .u8 4) (.int .i64 0) (.string ⟨#[]⟩) (.slice none 0 0) (.slice none 0 0)):=by
  have:=qp (w.alloc (.cells #[.int .u8 0,.int .i64 0,.string ⟨#[]⟩,.slice none 0 0,.slice none 0 0] 25)) (.int .u8 4) (.int .i64 0) (.string ⟨#[]⟩) (.slice none 0 0) (.slice none 0 0) 25
  rw [hz1,← hW] at this
  exact this
 have HS:=Lh hS
 have HLO:=Lh hlo
 have HWT:=Lh hwt
 have HW:=Lh hW
 have HB2:=Lh hb2
 have HR0:=Lh hr0
 have HR1:=Lh hr1
 have HZ2:=Lh hz2
 obtain ⟨nn,hnn⟩:∃nn,nn=l.length:=⟨_,rfl⟩
 have HNN:=Lh hnn
 rw [← hnn] at hl ⊢
 clear hS hlo hwt hW hb2 hr0 hr1 hz1 hz2 hnn
 obtain ⟨i0,hi0,hz0,hz1,hz2⟩:=info_parts xv
 go_enter Tryz.func148,Tryz.ntmps148
 go_upto_region 2 with fail
 rw [← HW.out]
 clear HW
 obtain ⟨cb,hcb⟩:∃cb,cb=w.heap.size+1:=⟨_,rfl⟩
 have HCB:=Lh hcb
 rw [← hcb] at HR1 ⊢
 have hltW:cb<W.heap.size:=by have:=HZ2.out;omega
 clear hcb
 go_wp2
 go_loopw [5,9] (fun _ i wr=>∃(k:Nat) (cs:List Value) (vi:Value),k≤nn∧i=.int .i64 k∧Touch (· = cb) W wr∧wr.rowIs cb 25 5 (qQ (.int .u8 4) (.int .i64 0) (.string ⟨#[]⟩) (.slice none 0 0) vi)∧wr.ownsRow W.heap.size 25 5 vi k cs∧qM wr W.heap.size (fun b=>b=cb∨vi.ownBlock=some b) (l.take k) cs) (fun _ i _=>nn - (intOf i).toNat)
 case atStart=>exact ⟨0,[],.slice none 0 0,by omega,rfl,Touch.refl _ _,HR1.out,World.ownsRow_nil _ _ _ _,by simpa using qM.nil _ _ _⟩
 case round =>
  obtain ⟨k,cs,vi,hk,rfl,htch,hrow,hown,hrr⟩:=hrel
  by_cases hlt2:k<nn
  · have hlt':k<l.length:=by rw [← HNN.out];exact hlt2
    have HB:Hid (Below w.heap.size w wr):=HB2.out.trans (htch.below (by have:=HZ2.out;omega) fun j hj e=>by have:=HCB.out;omega)
    obtain ⟨b,off,an',cn',ai',ci',rfl,_,hb,y0,y1,y2,y3,y4,hrep⟩:=(HS.out.below HB.out lz lz lz).get k hlt'
    have hwk:=HWT.out l[k] (List.getElem_mem hlt')
    have HTK:=Lh (show l.take (k+1)=l.take k ++ [l[k]] from List.take_succ_eq_append_getElem hlt')
    have HRP:=Lh hrep
    clear hrep
    have c4:wr.cell? ⟨cb,4,none⟩=some vi:=hrow.cell (by omega)
    have f4:wr.frozen? ⟨cb,4,none⟩=false:=hrow.frozen 4
    have hcz:cb<wr.heap.size:=hrow.lt
    have hwz:W.heap.size≤wr.heap.size:=htch.size
    have hnb:some cb≠vi.ownBlock:=fun e=>by have:=(hown.lt _ e.symm).1;omega
    have HRW:=Lh hrow
    have HTC:=Lh htch
    have HO:=Lh hown
    have HRR:=Lh hrr
    clear hrow htch hown hrr
    generalize l[k]=it at *
    have HCI:=Lh (show Calls Tryz.prog 91 #[.agg #[.int .u8 it.kind,.int .i64 it.n,.string it.t,.slice an' it.names.length cn',.slice ai' it.items.length ci']] ((wr.alloc (.cells #[.int .u8 it.kind,.int .i64 it.n,.string it.t,.slice an' it.names.length cn',.slice ai' it.items.length ci'] 25)).drew) (fun e w3=>∃an3 cn3 ai3 ci3,e=.returned (.agg #[.int .u8 it.kind,.int .i64 it.n,.string it.t,.slice an3 it.names.length cn3,.slice ai3 it.items.length ci3])∧Rep w3 (wr.heap.size+1) w3.heap.size it (.agg #[.int .u8 it.kind,.int .i64 it.n,.string it.t,.slice an3 it.names.length cn3,.slice ai3 it.items.length ci3])∧Below (wr.heap.size+1) ((wr.alloc (.cells #[.int .u8 it.kind,.int .i64 it.n,.string it.t,.slice an' it.names.length cn',.slice ai' it.items.length ci'] 25)).drew) w3∧wr.heap.size<w3.heap.size∧w3.cell? ⟨cb,4,none⟩=some vi∧w3.frozen? ⟨cb,4,none⟩=false∧w3.ownsRow W.heap.size 25 5 vi k cs) by
     refine (kq it _ _ lo w.heap.size hwk (by have:=HB.out.size;simp;omega) (HRP.out.below ((Below.refl _ _).alloc lz _).drew (by have:=HB.out.size;omega) lz lz) (fun _ _=>.inl HLO.out)).mono ?_
     rintro e w3 ⟨an3,cn3,ai3,ci3,rfl,hr3,hb3⟩
     have hz:((wr.alloc (.cells #[.int .u8 it.kind,.int .i64 it.n,.string it.t,.slice an' it.names.length cn',.slice ai' it.items.length ci'] 25)).drew).heap.size=wr.heap.size+1:=by simp
     rw [hz] at hr3 hb3
     have hsz:=hb3.size
     rw [hz] at hsz
     have hb4:Below wr.heap.size wr w3:=((Below.refl _ _).alloc lz _).drew.trans (hb3.mono (by omega))
     exact ⟨an3,cn3,ai3,ci3,rfl,hr3,hb3,by omega,by rw [hb4.cell hcz];exact c4,by rw [hb4.frozen hcz];exact f4,qB HO.out hb4⟩)
    go_wp2_with fail
    go_region_law (first|(refine step_append_lies _ (by rfl) (.tmp 14) (.tmp 17) 23 (by rfl) W.heap.size 25 i0 _ 5 80 Tryz.underlying23 hi0 hz0 hz1 hz2 rfl (by omega) vi k cs (by rfl) (HO3.out.alloc _) ⟨w3.heap.size,0,none⟩ 1 1 (Array.toList #[.int .u8 it.kind,.int .i64 it.n,.string it.t,.slice an3 it.names.length cn3,.slice ai3 it.items.length ci3]) (by rfl) (by rfl) (World.news_of_block (cs:=#[.int .u8 it.kind,.int .i64 it.n,.string it.t,.slice an3 it.names.length cn3,.slice ai3 it.items.length ci3]) (t:=25) (fr:=(0,0)) (heap_alloc_new w3 _)) (by simp [Value.oneCell']) (by omega) (by unfold maxLen;omega) (by omega) (by simp;omega) (w3.heap.size+1) (by simp) ?_;intro g cap w4 hown4 hgrow4 hat4 hlt4;have c44:=qS hgrow4 hcz3 hnb c43;have f44:=qO hgrow4 hcz3 hnb f43;have HO4:=Lh hown4;have HG4:=Lh hgrow4;have HA4:=Lh hat4;clear hown4 hgrow4 hat4)|(go_simp;go_at_call 91;(with_reducible refine HCI.out.mono ?_);rintro e w3 ⟨an3,cn3,ai3,ci3,rfl,hr3,hb3,hz3,c43,f43,ho3⟩;have hcz3:cb<w3.heap.size:=Nat.lt_trans hcz hz3;have HO3:=Lh ho3;have HR3:=Lh hr3;have HB3:=Lh hb3;clear ho3 hr3 hb3))
    all_goals
     have HST:=Lh (row_step (j:=4) hltW HTC.out HRW.out HO.out HRR.out HB3.out HR3.out HG4.out HA4.out HO4.out)
     clear HTC HRW HO HRR HB3 HR3 HG4 HA4 HO4 HO3 HCI
     go_wp2
     go_roundw
     case rel =>
      obtain ⟨z1,z2,z3,z4⟩:=HST.out
      refine ⟨k+1,_,_,by omega,by go_num,z1,z2.congr fun i hi=>?_,z3,by rw [HTK.out];exact z4⟩
      rcases i with _|_|_|_|_|i <;> first|rfl|omega
     case measure=>simp [intOf];omega
  · obtain rfl:k=nn:=by omega
    have hni':l.take k=l:=by rw [List.take_of_length_le (by rw [← HNN.out];exact Nat.le_refl _)]
    rw [hni'] at hrr
    have hml:l.length=k:=HNN.out.symm
    obtain ⟨a5,c5,rfl,hc5,hv5⟩:=zC hown hrr hml.symm
    rw [hml] at hc5 hrow
    have HV5:=Lh hv5
    have HC5:=Lh hc5
    have HML:=Lh hml
    have hres:=(htch.row HR0.out (by have:=HCB.out;omega))
    obtain ⟨r0,r1,r2,r3,r4⟩:=rc5 hrow
    obtain ⟨t0,t1,t2,t3,t4⟩:=rc5 hres
    obtain ⟨s0,s1,s2,s3,s4⟩:=rf5 hres
    simp only [qQ] at r0 r1 r2 r3 r4 t0 t1 t2 t3 t4
    have HT:=Lh htch
    have HRS:=Lh hres
    clear hrow hres hown hrr hv5 htch hni' hc5 hml
    go_wp2
    refine bodyPost_ret (results_cell_row Tryz.results148 _ _ w.heap.size 25 _ (0,0) _ rfl (qi (set5 _ _ _ _ _ HRS.out)) Tryz.underlying25 rfl (by kernel_rfl)) rfl ?_
    have hbw:Below w.heap.size w wr:=HB2.out.trans (HT.out.below (by have:=HZ2.out;omega) fun j hj e=>by have:=HCB.out;omega)
    refine ⟨a5,c5,by rw [← HNN.out],?_,q7 _ _ _ _ _ hbw lz⟩
    rw [← HNN.out]
    have hrep:=Rep.mk (v:=zu l) (an:=none) (cn:=0) (ai:=a5) (ci:=c5) (w:=wr) (lo:=W.heap.size) (hi:=wr.heap.size) lz (by show l.length≤c5;rw [HML.out];exact HC5.out) (.inl rfl) HV5.out
    have e5:(zu l).items.length=k:=HML.out
    rw [e5] at hrep
    exact Rep.carry (by have:=HZ2.out;omega) (show wr.heap.size≤_ by simp [World.setCell]) (fun j hj _=>xr _ _ _ _ _ (by have:=HZ2.out;omega)) _ _ hrep
theorem vC:∀(l:List DelegV) (k:Nat) (h:k<l.length),((l.take k).any fun y=>decide (y.name=l[k].name))=true→zR l=false
 | [],k,h,_=>by simp at h
 | x :: r,0,h,hb=>by simp at hb
 | x :: r,k+1,h,hb=>by
  rw [List.take_succ_cons,List.any_cons,List.getElem_cons_succ,Bool.or_eq_true] at hb
  unfold zR
  rcases hb with hb|hb
  · have:(r.any fun y=>decide (y.name=x.name))=true:=by
     rw [List.any_eq_true]
     exact ⟨r[k]'(by simpa using h),List.getElem_mem _,by rw [decide_eq_true_eq] at hb ⊢;exact hb.symm⟩
    rw [this];rfl
  · rw [vC r k (by simpa using h) hb,Bool.and_false]
theorem wU:∀(l:List DelegV),(∀k (h:k<l.length),((l.take k).any fun y=>decide (y.name=l[k].name))=false)→zR l=true
 | [],_=>rfl
 | x :: r,h=>by
  unfold zR
  have h1:(r.any fun y=>decide (y.name=x.name))=false:=by
   rw [List.any_eq_false]
   intro y hy
   obtain ⟨k,hk,rfl⟩:=List.getElem_of_mem hy
   have:=h (k+1) (by simpa using hk)
   rw [List.take_succ_cons,List.any_cons,List.getElem_cons_succ,Bool.or_eq_false_iff] at this
   have h2:=this.1
   rw [decide_eq_false_iff_not] at h2
   rw [decide_eq_true_eq]
   exact fun e=>h2 e.symm
  rw [h1,Bool.not_false,Bool.true_and]
  refine wU r fun k hk=>?_
  have:=h (k+1) (by simpa using hk)
  rw [List.take_succ_cons,List.any_cons,List.getElem_cons_succ,Bool.or_eq_false_iff] at this
  exact this.2
def zq (l:List DelegV):Bool:=decide (l.length≤64) && l.all qX && zR l
theorem zB (d:DelegsV):zY d=(zj d.keys && (if zg d.bins then zq d.roles else d.roles.isEmpty && qI d.bins)):=rfl
theorem b8 {l:List DelegV} (h:¬l.length≤64):zq l=false:=by unfold zq;rw [decide_eq_false h];rfl
theorem fu {l:List DelegV} {k:Nat} (h:k<l.length) (hb:qX l[k]=false):zq l=false:=by
 unfold zq
 rw [show l.all qX=false from List.all_eq_false.2 ⟨l[k],List.getElem_mem _,by simp [hb]⟩,Bool.and_false,Bool.false_and]
theorem bh {l:List DelegV} {k:Nat} (h:k<l.length) (hb:((l.take k).any fun y=>decide (y.name=l[k].name))=true):zq l=false:=by
 unfold zq
 rw [vC l k h hb,Bool.and_false]
theorem ur {l:List DelegV} (h:l.length≤64) (h1:∀k (h:k<l.length),qX l[k]=true) (h2:∀k (h:k<l.length),((l.take k).any fun y=>decide (y.name=l[k].name))=false):zq l=true:=by
 unfold zq
 rw [decide_eq_true h,wU l h2,show l.all qX=true from List.all_eq_true.2 fun x hx=>by obtain ⟨k,hk,rfl⟩:=List.getElem_of_mem hx;exact h1 k hk]
 rfl
def pY (v:JV) (w:World) (e:Ending) (w':World):Prop :=
 e=.returned (.tuple #[.agg #[.string (zv v).1.1,.string (zv v).1.2],.int .i64 (zv v).2])∧Below w.heap.size w w'
set_option maxHeartbeats 1000000 in
set_option maxRecDepth 100000 in
theorem keyOf (v:JV) (x:Value) (w:World) (lo hi:Nat) (hN:v.wt≤4294967296) (hhi:hi≤w.heap.size) (hR:Rep w lo hi v x) (hS:v.mayB=true→v.kind=5→∀k (h:k<v.items.length),bD lo v.items[k]) :
 Calls Tryz.prog 117 #[x] w (pY v w):=by
 obtain ⟨an,cn,ai,ci,hx,h1,h2,h3,h4⟩:=hR.parts
 have HR:=Lh hR
 have HS:=Lh hS
 clear h1 h2 h3 h4 hR hS
 subst hx
 have HB0:=Lh (show Below w.heap.size w ((w.alloc (.cells #[.int .u8 v.kind,.int .i64 v.n,.string v.t,.slice an v.names.length cn,.slice ai v.items.length ci] 25)).alloc (.cells #[.string ⟨#[]⟩,.string ⟨#[]⟩] 43)) from ((Below.refl _ _).alloc lz _).alloc (by simp) _)
 have HX0:=Lh (show ((w.alloc (.cells #[.int .u8 v.kind,.int .i64 v.n,.string v.t,.slice an v.names.length cn,.slice ai v.items.length ci] 25)).alloc (.cells #[.string ⟨#[]⟩,.string ⟨#[]⟩] 43)).heap[w.heap.size]?=some (.cells #[.int .u8 v.kind,.int .i64 v.n,.string v.t,.slice an v.names.length cn,.slice ai v.items.length ci] 25 (0,0)) by rw [Below.heap_alloc _ _ _ (by simp)];exact heap_alloc_new w _)
 have hr0:=ko (w.alloc (.cells #[.int .u8 v.kind,.int .i64 v.n,.string v.t,.slice an v.names.length cn,.slice ai v.items.length ci] 25)) (.string ⟨#[]⟩) (.string ⟨#[]⟩) 43
 rw [show (w.alloc (.cells #[.int .u8 v.kind,.int .i64 v.n,.string v.t,.slice an v.names.length cn,.slice ai v.items.length ci] 25)).heap.size=w.heap.size+1 by simp] at hr0
 have HR0:=Lh hr0
 clear hr0
 have HM:=Lh (kj v _ ((w.alloc (.cells #[.int .u8 v.kind,.int .i64 v.n,.string v.t,.slice an v.names.length cn,.slice ai v.items.length ci] 25)).alloc (.cells #[.string ⟨#[]⟩,.string ⟨#[]⟩] 43)) hN (HR.out.below HB0.out hhi (Nat.zero_le _) (by simp;omega)))
 cases hm:v.mayB
 · have HX:=Lh (show zv v=((⟨#[]⟩,⟨#[]⟩),3) by unfold zv;rw [if_pos hm])
   rw [hm] at HM
   clear hm
   go_enter Tryz.func117,Tryz.ntmps117
   go_wp2_with fail
   refine HM.out.mono ?_
   rintro e w1 ⟨rfl,hb1⟩
   have hres:=qj hb1 HR0.out (by simp)
   have HRS:=Lh hres
   have HB1:=Lh (HB0.out.trans (hb1.mono (by simp;omega)))
   have t0:=hres.cell (i:=0) (by decide);have t1:=hres.cell (i:=1) (by decide)
   have s0:=hres.frozen 0;have s1:=hres.frozen 1
   simp only [ju] at t0 t1
   clear hres hb1
   go_wp2
   refine bodyPost_ret (qk Tryz.results117 _ _ (w.heap.size+1) 43 _ (0,0) _ rfl (zQ (set2 _ _ HRS.out)) Tryz.underlying43 rfl (by kernel_rfl) _ rfl) rfl ⟨?_,vS _ _ HB1.out (by omega)⟩
   rw [HX.out];rfl
 · rw [hm] at HM
   have HMB:=Lh hm
   clear hm
   by_cases hk:v.kind=5
   · obtain ⟨hri,hle,htx⟩:=cP HMB.out hk
     obtain ⟨st1,hst1⟩:∃r,r=qf v xu ⟨[],0⟩:=⟨_,rfl⟩
     obtain ⟨st2,hst2⟩:∃r,r=qf v schN st1.2:=⟨_,rfl⟩
     obtain ⟨dn,hdn⟩:∃r,r=qh v st2.2:=⟨_,rfl⟩
     have HX:=Lh (show zv v=if dn≠0 then ((⟨#[]⟩,⟨#[]⟩),dn) else if ze st2.1.data.toList st1.1.data.toList then ((st2.1,st1.1),0) else ((⟨#[]⟩,⟨#[]⟩),3) by
      unfold zv;rw [if_neg (by rw [HMB.out];simp),if_neg (by simp [hk]),hdn,hst2,hst1])
     obtain ⟨z1,z2⟩:=pQ (y:=xu) (st:=⟨[],0⟩) hN
     obtain ⟨z3,z4⟩:=pQ (y:=schN) (st:=st1.2) hN
     rw [← hst1] at z1 z2
     rw [← hst2] at z3 z4
     simp only [List.length_nil] at z2
     have HST1:=Lh hst1
     have HST2:=Lh hst2
     have HDN:=Lh hdn
     have HRI:=Lh hri
     have HLE:=Lh hle
     have HTX:=Lh htx
     have HK:=Lh hk
     clear hst1 hst2 hdn hri hle htx hk
     go_enter Tryz.func117,Tryz.ntmps117
     go_wp2_with fail
     refine HM.out.mono ?_
     clear HM
     rintro e w1 ⟨rfl,hb1⟩
     have hz1:w.heap.size+2≤w1.heap.size:=by have:=hb1.size;simp at this;omega
     have HB1:=Lh (HB0.out.trans (hb1.mono (by simp;omega)))
     have HR1:=Lh (qj hb1 HR0.out (by simp))
     have hx1:w1.heap[w.heap.size]?=some (.cells #[.int .u8 v.kind,.int .i64 v.n,.string v.t,.slice an v.names.length cn,.slice ai v.items.length ci] 25 (0,0)):=by rw [hb1.block _ (by simp;omega)];exact HX0.out
     have c0:w1.cell? ⟨w.heap.size,0,none⟩=some (.int .u8 v.kind):=qq hx1 rfl
     have c1:w1.cell? ⟨w.heap.size,1,none⟩=some (.int .i64 v.n):=qq hx1 rfl
     have c2:w1.cell? ⟨w.heap.size,2,none⟩=some (.string v.t):=qq hx1 rfl
     have c3:w1.cell? ⟨w.heap.size,3,none⟩=some (.slice an v.names.length cn):=qq hx1 rfl
     have c4:w1.cell? ⟨w.heap.size,4,none⟩=some (.slice ai v.items.length ci):=qq hx1 rfl
     have HOF:=Lh (yR v _ w1 lo hi hN (by omega) (HR.out.below HB1.out hhi lz lz) HK.out HRI.out HLE.out (HS.out HMB.out HK.out))
     clear hb1 hx1
     go_wp2_with fail
     refine HOF.out.mono ?_
     clear HOF c0 c1 c2 c3 c4 HR HS HX0 HB0 HR0
     rintro e w2 ⟨o,m,lo2,hi2,an2,ai2,cn2,ci2,rfl,hp2,ho2,hm2,hb2⟩
     have HT1:=Lh (yf o m lo2 hi2 v an2 ai2 cn2 ci2 xu ⟨[],0⟩ w2 hp2 (by decide) (by simp))
     have HR2:=Lh (qj hb2 HR1.out (by omega))
     have hz2:=hb2.size
     have HB2:=Lh (HB1.out.trans (hb2.mono (by omega)))
     clear hp2 hb2 HR1 HB1
     go_wp2_with fail
     refine HT1.out.mono ?_
     clear HT1
     rintro e w3 ⟨rfl,hp3,ht3⟩
     rw [← HST1.out] at hp3 ⊢
     have HT2:=Lh (yf o m lo2 hi2 v an2 ai2 cn2 ci2 schN st1.2 w3 hp3 (by decide) (by omega))
     have hz3:=ht3.size
     have HR3:=Lh (ht3.row HR2.out (by omega))
     have HB3:=Lh (HB2.out.trans (ht3.below (by omega) fun k hk e=>by omega))
     clear hp3 ht3 HR2 HB2
     go_wp2_with fail
     refine HT2.out.mono ?_
     clear HT2
     rintro e w4 ⟨rfl,hp4,ht4⟩
     rw [← HST2.out] at hp4 ⊢
     have hz4:=ht4.size
     have HR4:=Lh (ht4.row HR3.out (by omega))
     have HB4:=Lh (HB3.out.trans (ht4.below (by omega) fun k hk e=>by omega))
     have HDO:=Lh (pn o m lo2 hi2 v an2 ai2 cn2 ci2 st2.2 (w4.alloc (.cells #[.string st2.1,.string st1.1] 43)) (hp4.below ((Below.refl _ _).alloc lz _)) (fun i hi=>by
      have:=List.all_eq_true.1 HTX.out _ (List.getElem_mem hi)
      unfold qZ at this;simp at this;omega))
     rw [← HDN.out] at HDO
     clear hp4 ht4 HR3 HB3
     go_wp2_with fail
     refine HDO.out.mono ?_
     clear HDO
     rintro e w5 ⟨rfl,rfl⟩
     have HR5:=Lh (HR4.out.alloc (.cells #[.string st2.1,.string st1.1] 43))
     have HB5:=Lh (HB4.out.alloc HB4.out.size (.cells #[.string st2.1,.string st1.1] 43))
     clear HR4 HB4
     by_cases hd:dn=0
     · rw [hd] at HX ⊢
       simp only [ne_eq,not_true_eq_false,if_false] at HX
       clear hd HDN
       have HKM:=Lh (mX st2.1 st1.1 (w4.alloc (.cells #[.string st2.1,.string st1.1] 43)) (by omega) (by omega))
       cases hko:ze st2.1.data.toList st1.1.data.toList
       · rw [hko] at HKM HX
         clear hko
         go_wp2_with fail
         refine HKM.out.mono ?_
         rintro e w6 ⟨rfl,hb6⟩
         have hres:=qj hb6 HR5.out (by simp;omega)
         have HRS:=Lh hres
         have HB6:=Lh (HB5.out.trans (hb6.mono (by simp;omega)))
         have t0:=hres.cell (i:=0) (by decide);have t1:=hres.cell (i:=1) (by decide)
         have s0:=hres.frozen 0;have s1:=hres.frozen 1
         simp only [ju] at t0 t1
         clear hres hb6
         go_wp2
         refine bodyPost_ret (qk Tryz.results117 _ _ (w.heap.size+1) 43 _ (0,0) _ rfl (zQ (set2 _ _ HRS.out)) Tryz.underlying43 rfl (by kernel_rfl) _ rfl) rfl ⟨?_,vS _ _ HB6.out (by omega)⟩
         rw [HX.out];rfl
       · rw [hko] at HKM HX
         clear hko
         go_wp2_with fail
         refine HKM.out.mono ?_
         rintro e w6 ⟨rfl,hb6⟩
         have hres:=qj hb6 HR5.out (by simp;omega)
         have hx6:w6.heap[w4.heap.size]?=some (.cells #[.string st2.1,.string st1.1] 43 (0,0)):=by rw [hb6.block _ (by simp)];exact heap_alloc_new _ _
         have d0:w6.cell? ⟨w4.heap.size,0,none⟩=some (.string st2.1):=qq hx6 rfl
         have d1:w6.cell? ⟨w4.heap.size,1,none⟩=some (.string st1.1):=qq hx6 rfl
         have HRS:=Lh hres
         have HB6:=Lh (HB5.out.trans (hb6.mono (by simp;omega)))
         have t0:=hres.cell (i:=0) (by decide);have t1:=hres.cell (i:=1) (by decide)
         have s0:=hres.frozen 0;have s1:=hres.frozen 1
         simp only [ju] at t0 t1
         clear hres hb6 hx6
         go_wp2
         refine bodyPost_ret (qk Tryz.results117 _ _ (w.heap.size+1) 43 _ (0,0) _ rfl (zQ (set2 _ _ HRS.out)) Tryz.underlying43 rfl (by kernel_rfl) _ rfl) rfl ⟨?_,vS _ _ HB6.out (by omega)⟩
         rw [HX.out];rfl
     · rw [if_pos hd] at HX
       have hd1:(dn == 0)=false:=by simpa using hd
       have hd2:(dn != 0)=true:=by simpa using hd
       have hres:=HR5.out
       have t0:=hres.cell (i:=0) (by decide);have t1:=hres.cell (i:=1) (by decide)
       have s0:=hres.frozen 0;have s1:=hres.frozen 1
       simp only [ju] at t0 t1
       clear hres hd HDN
       go_wp2
       refine bodyPost_ret (qk Tryz.results117 _ _ (w.heap.size+1) 43 _ (0,0) _ rfl (zQ (set2 _ _ HR5.out)) Tryz.underlying43 rfl (by kernel_rfl) _ rfl) rfl ⟨?_,vS _ _ HB5.out (by omega)⟩
       rw [HX.out];rfl
   · have HX:=Lh (show zv v=((⟨#[]⟩,⟨#[]⟩),10) by unfold zv;rw [if_neg (by rw [HMB.out];simp),if_pos hk])
     have HK:=Lh hk
     clear hk
     go_enter Tryz.func117,Tryz.ntmps117
     go_wp2_with fail
     refine HM.out.mono ?_
     clear HM
     rintro e w1 ⟨rfl,hb1⟩
     have hz1:w.heap.size+2≤w1.heap.size:=by have:=hb1.size;simp at this;omega
     have HB1:=Lh (HB0.out.trans (hb1.mono (by simp;omega)))
     have HR1:=Lh (qj hb1 HR0.out (by simp))
     have hx1:w1.heap[w.heap.size]?=some (.cells #[.int .u8 v.kind,.int .i64 v.n,.string v.t,.slice an v.names.length cn,.slice ai v.items.length ci] 25 (0,0)):=by rw [hb1.block _ (by simp;omega)];exact HX0.out
     have c0:w1.cell? ⟨w.heap.size,0,none⟩=some (.int .u8 v.kind):=qq hx1 rfl
     have c1:w1.cell? ⟨w.heap.size,1,none⟩=some (.int .i64 v.n):=qq hx1 rfl
     have c2:w1.cell? ⟨w.heap.size,2,none⟩=some (.string v.t):=qq hx1 rfl
     have c3:w1.cell? ⟨w.heap.size,3,none⟩=some (.slice an v.names.length cn):=qq hx1 rfl
     have c4:w1.cell? ⟨w.heap.size,4,none⟩=some (.slice ai v.items.length ci):=qq hx1 rfl
     clear hb1 hx1
     go_wp2_with fail
     refine (gC v.kind v.n v.t _ _ w1 HK.out).mono ?_
     clear c0 c1 c2 c3 c4
     rintro e w2 ⟨o,rfl,ho1,ho2,hp2,hb2⟩
     have HP2:=Lh hp2
     have HR2:=Lh (qj hb2 HR1.out (by omega))
     have HB2:=Lh (HB1.out.trans (hb2.mono (by omega)))
     clear hp2 hb2
     go_wp2_with fail
     refine (fj o 10 _ w2 HP2.out).mono ?_
     rintro e w3 ⟨rfl,rfl⟩
     go_wp2_with fail
     refine (fj o 10 _ w2 HP2.out).mono ?_
     rintro e w3 ⟨rfl,rfl⟩
     have HP3:=Lh (HP2.out.below ((Below.refl _ _).alloc lz (.cells #[.string ⟨#[]⟩,.string ⟨#[]⟩] 43)) ho2)
     obtain ⟨p1,p2,kk,p3⟩:=HP3.out
     have HD:=Lh (fk o 10 kk _ p1 p2 p3)
     clear p1 p2 p3
     go_wp2_with fail
     refine HD.out.mono ?_
     rintro e w3 ⟨rfl,rfl⟩
     have hres:=HR2.out.alloc (.cells #[.string ⟨#[]⟩,.string ⟨#[]⟩] 43)
     have HRS:=Lh hres
     have HB3:=Lh (HB2.out.alloc HB2.out.size (.cells #[.string ⟨#[]⟩,.string ⟨#[]⟩] 43))
     have t0:=hres.cell (i:=0) (by decide);have t1:=hres.cell (i:=1) (by decide)
     have s0:=hres.frozen 0;have s1:=hres.frozen 1
     simp only [ju] at t0 t1
     clear hres
     go_wp2
     refine bodyPost_ret (qk Tryz.results117 _ _ (w.heap.size+1) 43 _ (0,0) _ rfl (zQ (set2 _ _ HRS.out)) Tryz.underlying43 rfl (by kernel_rfl) _ rfl) rfl ⟨?_,vS _ _ HB3.out (by omega)⟩
     rw [HX.out];rfl
end Go.Proofs.YthgembbgcbaghaaGreatDoor

namespace Go.Proofs.YthgembbgcbaghaaGreatDoor
open Go.RowKit Go.WideMaps Go.Maps
end Go.Proofs.YthgembbgcbaghaaGreatDoor

namespace Go.Proofs.YthgembbgcbaghaaGreatDoor
open Go.RowKit
theorem un {α:Type} {f:α→Bool} {l:List α} {k:Nat} (hk:k<l.length) (h:f l[k]=false):l.all f=false:=List.all_eq_false.2 ⟨_,List.getElem_mem hk,by rw [h];decide⟩
theorem cR {α:Type} {f:α→Bool} {l:List α} {n:Nat} (hn:l.length≤n) (h:∀j (hj:j<l.length),j<n→f l[j]=true):l.all f=true:=by
 rw [List.all_eq_true]
 intro x hx
 obtain ⟨j,hj,rfl⟩:=List.getElem_of_mem hx
 exact h j hj (by omega)
set_option maxHeartbeats 1000000 in
theorem b9 (l:List ByteArray) (a:Option Addr) (c:Nat) (w:World) (hA:qw w 0 w.heap.size a l) (hl:l.length≤4294967296) (hs:∀s ∈ l,s.size≤4294967296) :
 Calls Tryz.prog 137 #[.slice a l.length c,.func (.func (138:Nat)) #[] #[]] w fun e w'=>e=.returned (.bool (decide (l.length≤32) && l.all qL))∧Below w.heap.size w w':=by
 have HA:=Lh hA
 have HS:=Lh hs
 clear hA hs
 obtain ⟨n,hn⟩:∃n,n=l.length:=⟨_,rfl⟩
 have HN:=Lh hn
 rw [← hn] at hl ⊢
 clear hn
 obtain ⟨V,hV⟩:∃V,V=(decide (n≤32) && l.all qL):=⟨_,rfl⟩
 have HV:=Lh hV
 rw [← hV]
 clear hV
 by_cases h32:32<n
 · rw [decide_eq_false (by omega),Bool.false_and] at HV
   have d1:decide (32<(n:Int))=true:=by rw [decide_eq_true_eq];omega
   go_enter Tryz.func137,Tryz.ntmps137
   go_wp2
   go_ret
   exact ⟨qz HV.out.symm,Below.refl _ _⟩
 have d1:decide (32<(n:Int))=false:=by rw [decide_eq_false_iff_not];omega
 rw [decide_eq_true (by omega),Bool.true_and] at HV
 go_enter Tryz.func137,Tryz.ntmps137
 go_wp2
 go_loopw [6,12] (fun _ i wr=>∃k:Nat,k≤n∧i=.int .i64 k∧(∀j (h:j<l.length),j<k→qL l[j]=true)∧Below w.heap.size w wr) (fun _ i _=>n - (intOf i).toNat)
 case atStart=>exact ⟨0,by omega,rfl,fun j _ h=>by omega,Below.refl _ _⟩
 case round =>
  obtain ⟨k,hk,rfl,hno,hbk⟩:=hrel
  have HNO:=Lh hno
  have HBK:=Lh hbk
  clear hno hbk
  by_cases hlt:k<n
  · have hkl:k<l.length:=by rw [← HN.out];exact hlt
    obtain ⟨b,o,ha,-,hb,e0⟩:=(HA.out.below HBK.out lz lz lz).at k hkl
    subst ha
    have m1:(0:Int)≤(k:Int):=by omega
    have m2:(k:Int)<(n:Int):=by omega
    have m3:decide ((k:Int)<(n:Int))=true:=by simpa using hlt
    have HBAD:=Lh (un (f:=qL) hkl)
    have HNX:=Lh (show qL l[k]=true→∀j (h:j<l.length),j<k+1→qL l[j]=true from fun h0 j hj hjk=>by
     rcases Nat.lt_succ_iff_lt_or_eq.1 hjk with h1|h1
     · exact HNO.out j hj h1
     · subst h1;exact h0)
    have hsz:=HS.out l[k] (List.getElem_mem hkl)
    obtain ⟨q,hq⟩:∃q,q=l[k]:=⟨_,rfl⟩
    rw [← hq] at e0 HBAD HNX hsz
    have HM:=Lh (fun w=>yI q w (by omega))
    obtain ⟨y,hy⟩:∃y,y=qL q:=⟨_,rfl⟩
    rw [← hy] at HM HBAD HNX
    clear hq hy hsz
    cases y with
    | false =>
     have HR:=Lh (HV.out.trans (HBAD.out rfl))
     go_wp2_with (go_at_call 138;refine (HM.out _).mono ?_;rintro e w3 ⟨rfl,hb⟩;have HB3:=Lh hb;clear hb)
     go_ret
     exact ⟨qz HR.out.symm,HBK.out.trans (HB3.out.mono HBK.out.size)⟩
    | true =>
     have HR:=Lh (HNX.out rfl)
     go_wp2_with (go_at_call 138;refine (HM.out _).mono ?_;rintro e w3 ⟨rfl,hb⟩;have HB3:=Lh hb;clear hb)
     go_roundw
     case rel=>exact ⟨k+1,by omega,by go_num,HR.out,HBK.out.trans (HB3.out.mono HBK.out.size)⟩
     case measure=>simp [intOf];omega
  · have m3:decide ((k:Int)<(n:Int))=false:=by simpa using hlt
    have HR:=Lh (HV.out.trans (cR (f:=qL) (l:=l) (n:=k) (by rw [← HN.out];omega) HNO.out))
    go_wp2
    go_ret
    exact ⟨qz HR.out.symm,HBK.out⟩
set_option maxHeartbeats 1000000 in
theorem fm (l:List ByteArray) (a:Option Addr) (c:Nat) (w:World) (hA:qw w 0 w.heap.size a l) (hl:l.length≤4294967296) (hs:∀s ∈ l,s.size≤4294967296) :
 Calls Tryz.prog 137 #[.slice a l.length c,.func (.func (139:Nat)) #[] #[]] w fun e w'=>e=.returned (.bool (decide (l.length≤32) && l.all preB))∧Below w.heap.size w w':=by
 have HA:=Lh hA
 have HS:=Lh hs
 clear hA hs
 obtain ⟨n,hn⟩:∃n,n=l.length:=⟨_,rfl⟩
 have HN:=Lh hn
 rw [← hn] at hl ⊢
 clear hn
 obtain ⟨V,hV⟩:∃V,V=(decide (n≤32) && l.all preB):=⟨_,rfl⟩
 have HV:=Lh hV
 rw [← hV]
 clear hV
 by_cases h32:32<n
 · rw [decide_eq_false (by omega),Bool.false_and] at HV
   have d1:decide (32<(n:Int))=true:=by rw [decide_eq_true_eq];omega
   go_enter Tryz.func137,Tryz.ntmps137
   go_wp2
   go_ret
   exact ⟨qz HV.out.symm,Below.refl _ _⟩
 have d1:decide (32<(n:Int))=false:=by rw [decide_eq_false_iff_not];omega
 rw [decide_eq_true (by omega),Bool.true_and] at HV
 go_enter Tryz.func137,Tryz.ntmps137
 go_wp2
 go_loopw [6,12] (fun _ i wr=>∃k:Nat,k≤n∧i=.int .i64 k∧(∀j (h:j<l.length),j<k→preB l[j]=true)∧Below w.heap.size w wr) (fun _ i _=>n - (intOf i).toNat)
 case atStart=>exact ⟨0,by omega,rfl,fun j _ h=>by omega,Below.refl _ _⟩
 case round =>
  obtain ⟨k,hk,rfl,hno,hbk⟩:=hrel
  have HNO:=Lh hno
  have HBK:=Lh hbk
  clear hno hbk
  by_cases hlt:k<n
  · have hkl:k<l.length:=by rw [← HN.out];exact hlt
    obtain ⟨b,o,ha,-,hb,e0⟩:=(HA.out.below HBK.out lz lz lz).at k hkl
    subst ha
    have m1:(0:Int)≤(k:Int):=by omega
    have m2:(k:Int)<(n:Int):=by omega
    have m3:decide ((k:Int)<(n:Int))=true:=by simpa using hlt
    have HBAD:=Lh (un (f:=preB) hkl)
    have HNX:=Lh (show preB l[k]=true→∀j (h:j<l.length),j<k+1→preB l[j]=true from fun h0 j hj hjk=>by
     rcases Nat.lt_succ_iff_lt_or_eq.1 hjk with h1|h1
     · exact HNO.out j hj h1
     · subst h1;exact h0)
    have hsz:=HS.out l[k] (List.getElem_mem hkl)
    obtain ⟨q,hq⟩:∃q,q=l[k]:=⟨_,rfl⟩
    rw [← hq] at e0 HBAD HNX hsz
    have HM:=Lh (fun w=>rM q w (by omega))
    obtain ⟨y,hy⟩:∃y,y=preB q:=⟨_,rfl⟩
    rw [← hy] at HM HBAD HNX
    clear hq hy hsz
    cases y with
    | false =>
     have HR:=Lh (HV.out.trans (HBAD.out rfl))
     go_wp2_with (go_at_call 139;refine (HM.out _).mono ?_;rintro e w3 ⟨rfl,rfl⟩)
     go_ret
     exact ⟨qz HR.out.symm,HBK.out⟩
    | true =>
     have HR:=Lh (HNX.out rfl)
     go_wp2_with (go_at_call 139;refine (HM.out _).mono ?_;rintro e w3 ⟨rfl,rfl⟩)
     go_roundw
     case rel=>exact ⟨k+1,by omega,by go_num,HR.out,HBK.out⟩
     case measure=>simp [intOf];omega
  · have m3:decide ((k:Int)<(n:Int))=false:=by simpa using hlt
    have HR:=Lh (HV.out.trans (cR (f:=preB) (l:=l) (n:=k) (by rw [← HN.out];omega) HNO.out))
    go_wp2
    go_ret
    exact ⟨qz HR.out.symm,HBK.out⟩
def bu (s:ByteArray):Nat→Nat→List Int
 | 0,_=>[]
 | n+1,i=>if i<s.size then Int.ofNat (Utf8.decode s i).1 :: bu s n (i+(Utf8.decode s i).2) else []
def runes (s:ByteArray):List Int:=bu s s.size 0
theorem wM (s:ByteArray):∀(n i:Nat) (acc:Array Value),Conv.runesFrom s n i acc=acc ++ ((bu s n i).map (Value.int .i32)).toArray
 | 0,i,acc=>by simp [Conv.runesFrom,bu]
 | n+1,i,acc=>by
  rw [Conv.runesFrom,bu]
  split
  · show Conv.runesFrom s n (i+(Utf8.decode s i).2) (acc.push (.int .i32 (Int.ofNat (Utf8.decode s i).1)))=_
    rw [wM s n]
    simp
  · simp
theorem jS (s:ByteArray):Conv.runesFrom s s.size 0 #[]=((runes s).map (Value.int .i32)).toArray:=by
 rw [wM]
 simp [runes]
theorem pG (s:ByteArray):∀(n i:Nat),(bu s n i).length≤n
 | 0,_=>Nat.le_refl _
 | n+1,i=>by
  rw [bu]
  split
  · have:=pG s n (i+(Utf8.decode s i).2)
    simp only [List.length_cons]
    omega
  · exact Nat.zero_le _
theorem pB (s:ByteArray):(runes s).length≤s.size:=pG s _ _
theorem br (l:List Int) (rep:Array Value) {i:Nat} (hi:i<l.length):((l.map (Value.int .i32)).toArray ++ rep)[i]?=some (.int .i32 (l.getD i 0)):=by
 rw [Array.getElem?_append_left (by simpa using hi)]
 simp [hi]
theorem mT (p s:ByteArray) (w:World) (hp:p.size≤9223372036854775807) (hs:s.size≤9223372036854775807) :
 Calls Tryz.prog 311 #[.string p,.string s] w fun e w'=>e=.returned (.bool (jV runes p s))∧Below w.heap.size w w':=by
 have HP:=Lh (fun w=>yI p w hp)
 have HS:=Lh (fun w=>wH s w hs)
 have HV:=Lh (show jV runes p s=(qL p && qL s && fS (runes p) (runes s)) from rfl)
 have HZP:=Lh (show qL p=true→p.size≤256 from fun h=>by unfold qL at h;simp only [Bool.and_eq_true,decide_eq_true_eq] at h;exact h.1.1.2)
 have HZS:=Lh (show qL s=true→s.size≤256 from fun h=>by unfold qL at h;simp only [Bool.and_eq_true,decide_eq_true_eq] at h;exact h.1.1.2)
 obtain ⟨b1,hb1⟩:∃b,b=qL p:=⟨_,rfl⟩
 obtain ⟨b2,hb2⟩:∃b,b=qL s:=⟨_,rfl⟩
 rw [← hb1] at HP HV HZP
 rw [← hb2] at HS HV HZS
 clear hb1 hb2
 cases b1
 · go_enter Tryz.func311,Tryz.ntmps311
   go_wp2_with (go_at_call 138;refine (HP.out _).mono ?_;rintro e w' ⟨rfl,hb⟩;have HB:=Lh hb;clear hb)
   go_ret
   exact ⟨qz HV.out.symm,HB.out⟩
 cases b2
 · go_enter Tryz.func311,Tryz.ntmps311
   go_wp2_with (first|(go_at_call 138;refine (HP.out _).mono ?_;rintro e w' ⟨rfl,hb⟩;have HB:=Lh hb;clear hb)|(go_at_call 34;refine (HS.out _).mono ?_;rintro e w' ⟨rfl,hb⟩;have HB2:=Lh hb;clear hb))
   go_ret
   exact ⟨qz HV.out.symm,HB.out.trans (HB2.out.mono HB.out.size)⟩
 go_enter Tryz.func311,Tryz.ntmps311
 go_upto_region 3 with (first|(go_at_call 138;refine (HP.out _).mono ?_;rintro e w1 ⟨rfl,hb⟩;have HB:=Lh hb;clear hb)|(go_at_call 34;refine (HS.out _).mono ?_;rintro e w2 ⟨rfl,hb⟩;have HB2:=Lh hb;clear hb))
 have h1:(runes p).length≤256:=Nat.le_trans (pB p) (HZP.out (by simp))
 have h2:(runes s).length≤256:=Nat.le_trans (pB s) (HZS.out (by simp))
 have e1:(Conv.runesFrom p p.size 0 #[]).size=(runes p).length:=by rw [jS];simp
 have e2:(Conv.runesFrom s s.size 0 #[]).size=(runes s).length:=by rw [jS];simp
 have c1:=run_runes_of_string (P:=Tryz.prog) w2 9 204 21 p Tryz.underlying9 Tryz.underlying204 Tryz.underlying21 (by rw [e1];omega)
 rw [e1] at c1
 obtain ⟨g1,hg1⟩:∃g,g=grownCap w2 (runes p).length 0 21:=⟨_,rfl⟩
 rw [← hg1,jS] at c1
 obtain ⟨W1,hW1⟩:∃W,W=w2.drew.alloc (.cells (((runes p).map (Value.int .i32)).toArray ++ Array.replicate (g1 - (runes p).length) (.int .i32 0)) 21):=⟨_,rfl⟩
 rw [← hW1] at c1
 have c2:=run_runes_of_string (P:=Tryz.prog) W1 9 204 21 s Tryz.underlying9 Tryz.underlying204 Tryz.underlying21 (by rw [e2];omega)
 rw [e2] at c2
 obtain ⟨g2,hg2⟩:∃g,g=grownCap W1 (runes s).length 0 21:=⟨_,rfl⟩
 rw [← hg2,jS] at c2
 obtain ⟨W2,hW2⟩:∃W,W=W1.drew.alloc (.cells (((runes s).map (Value.int .i32)).toArray ++ Array.replicate (g2 - (runes s).length) (.int .i32 0)) 21):=⟨_,rfl⟩
 rw [← hW2] at c2
 have b1:Below w2.heap.size w2 W1:=by rw [hW1];exact (Below.drewN (Below.refl _ _) 1).alloc lz _
 have b2:Below W1.heap.size W1 W2:=by rw [hW2];exact (Below.drewN (Below.refl _ _) 1).alloc lz _
 have s1:w2.heap.size<W1.heap.size:=by rw [hW1];simp
 have s2:W1.heap.size<W2.heap.size:=by rw [hW2];simp
 have x1:W1.heap[w2.heap.size]?=some (.cells (((runes p).map (Value.int .i32)).toArray ++ Array.replicate (g1 - (runes p).length) (.int .i32 0)) 21 (0,0)):=by rw [hW1];exact heap_alloc_new w2.drew _
 have x2:W2.heap[W1.heap.size]?=some (.cells (((runes s).map (Value.int .i32)).toArray ++ Array.replicate (g2 - (runes s).length) (.int .i32 0)) 21 (0,0)):=by rw [hW2];exact heap_alloc_new W1.drew _
 have r1:zI W2 0 W2.heap.size (some ⟨w2.heap.size,0,none⟩) (runes p):=by
  refine .inr ⟨_,0,rfl,Nat.zero_le _,by omega,fun i hi=>?_⟩
  have hx:=(b2.block _ s1).trans x1
  have hc:=br (runes p) (Array.replicate (g1 - (runes p).length) (.int .i32 0)) hi
  simp only [World.cell?,hx]
  simpa using hc
 have r2:zI W2 0 W2.heap.size (some ⟨W1.heap.size,0,none⟩) (runes s):=by
  refine .inr ⟨_,0,rfl,Nat.zero_le _,by omega,fun i hi=>?_⟩
  have hc:=br (runes s) (Array.replicate (g2 - (runes s).length) (.int .i32 0)) hi
  simp only [World.cell?,x2]
  simpa using hc
 have HM:=Lh (dh (runes p) (runes s) _ _ g1 g2 W2 r1 r2 (by omega) (by omega))
 have HBB:=Lh (HB.out.trans ((HB2.out.trans ((b1.trans (b2.mono b1.size)).mono HB2.out.size)).mono HB.out.size))
 clear r1 r2 x1 x2 s1 s2 b1 b2 hW1 hW2 hg1 hg2 e1 e2 h1 h2
 go_wp2_with (go_at_call 312;refine HM.out.mono ?_;rintro e w5 ⟨rfl,hb⟩;have HB5:=Lh hb;clear hb)
 go_ret
 exact ⟨qz HV.out.symm,HBB.out.trans (HB5.out.mono HBB.out.size)⟩
theorem bt {α:Type} {f:α→Bool} {l:List α} {n:Nat} (hn:l.length≤n) (h:∀j (hj:j<l.length),j<n→f l[j]=false):l.any f=false:=by
 rw [List.any_eq_false]
 intro x hx
 obtain ⟨j,hj,rfl⟩:=List.getElem_of_mem hx
 rw [h j hj (by omega)]
 decide
theorem fc {α:Type} {f:α→Bool} {l:List α} {k:Nat} (hk:k<l.length) (h:f l[k]=true):l.any f=true :=
 List.any_eq_true.2 ⟨_,List.getElem_mem hk,h⟩
set_option maxHeartbeats 1000000 in
theorem dD (l:List ByteArray) (path:ByteArray) (a:Option Addr) (c:Nat) (w:World) (hA:qw w 0 w.heap.size a l) (hl:l.length≤4294967296) (hs:∀s ∈ l,s.size≤4294967296) (hp:path.size≤4294967296) :
 Calls Tryz.prog 310 #[.slice a l.length c,.string path] w fun e w'=>(∃n,e=.returned (.tuple #[.int .i64 n,.bool (l.any fun q=>jV runes q path)]))∧Below w.heap.size w w':=by
 have HA:=Lh hA
 have HS:=Lh hs
 clear hA hs
 obtain ⟨n,hn⟩:∃n,n=l.length:=⟨_,rfl⟩
 have HN:=Lh hn
 rw [← hn] at hl ⊢
 clear hn
 go_enter Tryz.func310,Tryz.ntmps310
 go_wp2
 go_loopw [6,7,10] (fun _ _ i wr=>∃k:Nat,k≤n∧i=.int .i64 k∧(∀j (h:j<l.length),j<k→jV runes l[j] path=false)∧Below w.heap.size w wr) (fun _ _ i _=>n - (intOf i).toNat)
 case atStart=>exact ⟨0,by omega,rfl,fun j _ h=>by omega,Below.refl _ _⟩
 case round =>
  obtain ⟨k,hk,rfl,hno,hbk⟩:=hrel
  have HNO:=Lh hno
  have HBK:=Lh hbk
  clear hno hbk
  by_cases hlt:k<n
  · have hkl:k<l.length:=by rw [← HN.out];exact hlt
    obtain ⟨b,o,ha,-,hb,e0⟩:=(HA.out.below HBK.out lz lz lz).at k hkl
    subst ha
    have m1:(0:Int)≤(k:Int):=by omega
    have m2:(k:Int)<(n:Int):=by omega
    have m3:decide ((k:Int)<(n:Int))=true:=by simpa using hlt
    have HYES:=Lh (fc (f:=fun q=>jV runes q path) hkl)
    have HNX:=Lh (show jV runes l[k] path=false→∀j (h:j<l.length),j<k+1→jV runes l[j] path=false from fun h0 j hj hjk=>by
     rcases Nat.lt_succ_iff_lt_or_eq.1 hjk with h1|h1
     · exact HNO.out j hj h1
     · subst h1;exact h0)
    have hsz:=HS.out l[k] (List.getElem_mem hkl)
    obtain ⟨q,hq⟩:∃q,q=l[k]:=⟨_,rfl⟩
    rw [← hq] at e0 HYES HNX hsz
    have HM:=Lh (fun w=>mT q path w (by omega) (by omega))
    obtain ⟨y,hy⟩:∃y,y=jV runes q path:=⟨_,rfl⟩
    rw [← hy] at HM HYES HNX
    clear hq hy hsz
    cases y with
    | true =>
     have HR:=Lh (HYES.out rfl)
     go_wp2_with (go_at_call 311;refine (HM.out _).mono ?_;rintro e w3 ⟨rfl,hb⟩;have HB3:=Lh hb;clear hb)
     go_ret2
     exact ⟨⟨_,by rw [HR.out];rfl⟩,HBK.out.trans (HB3.out.mono HBK.out.size)⟩
    | false =>
     have HR:=Lh (HNX.out rfl)
     go_wp2_with (go_at_call 311;refine (HM.out _).mono ?_;rintro e w3 ⟨rfl,hb⟩;have HB3:=Lh hb;clear hb)
     go_roundw
     case rel=>exact ⟨k+1,by omega,by go_num,HR.out,HBK.out.trans (HB3.out.mono HBK.out.size)⟩
     case measure=>simp [intOf];omega
  · have m3:decide ((k:Int)<(n:Int))=false:=by simpa using hlt
    have HR:=Lh (bt (f:=fun q=>jV runes q path) (l:=l) (n:=k) (by rw [← HN.out];omega) HNO.out)
    go_wp2
    go_ret2
    exact ⟨⟨_,by rw [HR.out];rfl⟩,HBK.out⟩
theorem sJ (l:List ByteArray) (path:ByteArray) (a:Option Addr) (c:Nat) (w:World) (hA:qw w 0 w.heap.size a l) (hl:l.length≤4294967296) (hs:∀s ∈ l,s.size≤4294967296) (hp:path.size≤4294967296) :
 Calls Tryz.prog 309 #[.slice a l.length c,.string path] w fun e w'=>e=.returned (.bool (l.any fun q=>jV runes q path))∧Below w.heap.size w w':=by
 have HF:=Lh (dD l path a c w hA hl hs hp)
 clear hA
 go_enter Tryz.func309,Tryz.ntmps309
 go_wp2_with (go_at_call 310;refine HF.out.mono ?_;rintro e w3 ⟨⟨m,rfl⟩,hb⟩;have HB3:=Lh hb;clear hb)
 go_ret
 exact ⟨rfl,HB3.out⟩
set_option maxHeartbeats 1000000 in
set_option maxRecDepth 100000 in
theorem wC (l:List DelegV) (role:ByteArray) (a:Option Addr) (c:Nat) (w:World) (hA:qE w 0 w.heap.size a l) (hl:l.length≤4294967296) :
 Calls Tryz.prog 126 #[.slice a l.length c,.string role] w fun e w'=>e=.returned (.bool (l.any fun y=>decide (y.name=role)))∧Below w.heap.size w w':=by
 have HA:=Lh hA
 clear hA
 obtain ⟨n,hn⟩:∃n,n=l.length:=⟨_,rfl⟩
 have HN:=Lh hn
 rw [← hn] at hl ⊢
 clear hn
 obtain ⟨V,hV⟩:∃V,V=l.any (fun y=>decide (y.name=role)):=⟨_,rfl⟩
 have HV:=Lh hV
 rw [← hV]
 clear hV
 go_enter Tryz.func126,Tryz.ntmps126
 go_wp2
 go_loopw [6,9] (fun _ i wr=>∃k:Nat,k≤n∧i=.int .i64 k∧(∀j (h:j<l.length),j<k→decide (l[j].name=role)=false)∧Below w.heap.size w wr) (fun _ i _=>n - (intOf i).toNat)
 case atStart=>exact ⟨0,by omega,rfl,fun j _ h=>by omega,Below.refl _ _⟩
 case round =>
  obtain ⟨k,hk,rfl,hno,hbk⟩:=hrel
  have HNO:=Lh hno
  have HBK:=Lh hbk
  clear hno hbk
  by_cases hlt:k<n
  · have hkl:k<l.length:=by rw [← HN.out];exact hlt
    obtain ⟨b,o,ha,-,hb,ia,ic,pa,pc,qa,qc,e0,e1,e2,e3,e4,e5,-⟩:=(HA.out.below HBK.out lz lz HBK.out.size).at k hkl
    subst ha
    have m1:(0:Int)≤(k:Int):=by omega
    have m2:(k:Int)<(n:Int):=by omega
    have m3:decide ((k:Int)<(n:Int))=true:=by simpa using hlt
    have HYES:=Lh (fc (f:=fun y:DelegV=>decide (y.name=role)) hkl)
    have HNX:=Lh (show decide (l[k].name=role)=false→∀j (h:j<l.length),j<k+1→decide (l[j].name=role)=false from fun h0 j hj hjk=>by
     rcases Nat.lt_succ_iff_lt_or_eq.1 hjk with h1|h1
     · exact HNO.out j hj h1
     · subst h1;exact h0)
    have HEQ:=Lh (show (l[k].name.toList == role.toList)=decide (l[k].name=role) from ba_eq)
    obtain ⟨nm,hnm⟩:∃nm,nm=l[k].name:=⟨_,rfl⟩
    rw [← hnm] at e0 HYES HNX HEQ
    obtain ⟨y,hy⟩:∃y,y=decide (nm=role):=⟨_,rfl⟩
    have hq:(nm.toList == role.toList)=y:=by rw [hy];exact HEQ.out
    rw [← hy] at HYES HNX
    clear hnm hy HEQ
    generalize l[k].au=au at *
    generalize l[k].term=tm at *
    generalize l[k].paths=ps at *
    generalize l[k].pres=qs at *
    obtain ⟨WX,hWX⟩:∃WX,WX=wr.alloc (.cells #[.string nm,.int .i64 au.thr,.slice ia au.ids.length ic,.bool tm,.slice pa ps.length pc,.slice qa qs.length qc] 41):=⟨_,rfl⟩
    have hbX:Below wr.heap.size wr WX:=by rw [hWX];exact (Below.refl _ _).alloc lz _
    have hxX:WX.heap[wr.heap.size]?=some (.cells #[.string nm,.int .i64 au.thr,.slice ia au.ids.length ic,.bool tm,.slice pa ps.length pc,.slice qa qs.length qc] 41 (0,0)):=by rw [hWX];exact heap_alloc_new wr _
    have HBX:=Lh (HBK.out.trans (hbX.mono HBK.out.size))
    have HWX:=Lh hWX
    have z0:=qq hxX (j:=0) rfl
    clear hbX hxX hWX
    go_upto_region 4 with fail
    rw [← HWX.out]
    clear e0 e1 e2 e3 e4 e5 HWX
    cases y with
    | false =>
     have HR:=Lh (HNX.out rfl)
     go_wp2
     go_roundw
     case rel=>exact ⟨k+1,by omega,by go_num,HR.out,HBX.out⟩
     case measure=>simp [intOf];omega
    | true =>
     have HR:=Lh (HV.out.trans (HYES.out rfl))
     go_wp2
     go_ret
     exact ⟨qz HR.out.symm,HBX.out⟩
  · have m3:decide ((k:Int)<(n:Int))=false:=by simpa using hlt
    have HR:=Lh (HV.out.trans (bt (f:=fun y:DelegV=>decide (y.name=role)) (l:=l) (n:=k) (by rw [← HN.out];omega) HNO.out))
    go_wp2
    go_ret
    exact ⟨qz HR.out.symm,HBK.out⟩
end Go.Proofs.YthgembbgcbaghaaGreatDoor
