/- The contract of deleg.binsOf. Printed by gendelegof.py. -/
import Derived.Test.YthgembbgcbaghaaGreatDoorDb33
import Derived.Test.YthgembbgcbaghaaGreatDoorDb04

namespace Go.Proofs.YthgembbgcbaghaaGreatDoor
open Go.RowKit Go.Shelf Go.Sort
def vm (r:BinsV × Int) (w:World) (e:Ending) (w':World):Prop :=
 ∃ia ic,e=.returned (.tuple #[.agg #[.int .i64 r.1.au.thr,.slice ia r.1.au.ids.length ic,.int .i64 r.1.bits,.string r.1.pre],.int .i64 r.2])∧r.1.au.ids.length≤ic∧qg w' w.heap.size w'.heap.size ia r.1.au.ids∧Below w.heap.size w w'
theorem gD {er:Int} {w w':World} (hb:Below w.heap.size w w'):vm (binsZ,er) w (.returned (.tuple #[.agg #[.int .i64 0,.slice none 0 0,.int .i64 0,.string ⟨#[]⟩],.int .i64 er])) w' :=
 ⟨none,0,rfl,Nat.le_refl _,.inl rfl,hb⟩
set_option maxHeartbeats 4000000 in
set_option maxRecDepth 100000 in
theorem us (C:JV→Prop) (st:PS) (v:JV) (x:Value) (w:World) (hR:Rep w 0 w.heap.size v x) (ha:st.asked.length≤1000)
 (hOf:∀w1,Below w.heap.size w w1→Calls Tryz.prog 60 #[x] w1 (vE C st w1)) :
 Calls Tryz.prog 65 #[x] w (fun e w'=>∃u,C u∧vm (lX u st) w e w'):=by
 obtain ⟨an,cn,ai,ci,hx,h1,h2,h3,h4⟩:=hR.parts
 clear h1 h2 h3 h4
 subst hx
 obtain ⟨W,hW⟩:∃W,W=(w.alloc (.cells #[.int .u8 v.kind,.int .i64 v.n,.string v.t,.slice an v.names.length cn,.slice ai v.items.length ci] 25)).alloc (.cells #[.int .i64 0,.slice none 0 0,.int .i64 0,.string ⟨#[]⟩] 33):=⟨_,rfl⟩
 have hz1:(w.alloc (.cells #[.int .u8 v.kind,.int .i64 v.n,.string v.t,.slice an v.names.length cn,.slice ai v.items.length ci] 25)).heap.size=w.heap.size+1:=by simp
 have hb:Below w.heap.size w W:=by rw [hW];exact ((Below.refl _ _).alloc lz _).alloc (by simp) _
 have hx0:W.heap[w.heap.size]?=some (.cells #[.int .u8 v.kind,.int .i64 v.n,.string v.t,.slice an v.names.length cn,.slice ai v.items.length ci] 25 (0,0)):=by rw [hW];exact zf w _ _
 have hr0:W.rowIs (w.heap.size+1) 33 4 (xi (.int .i64 0) (.slice none 0 0) (.int .i64 0) (.string ⟨#[]⟩)):=by
  have:=bK (w.alloc (.cells #[.int .u8 v.kind,.int .i64 v.n,.string v.t,.slice an v.names.length cn,.slice ai v.items.length ci] 25)) (.int .i64 0) (.slice none 0 0) (.int .i64 0) (.string ⟨#[]⟩) 33
  rw [hz1,← hW] at this
  exact this
 have HOF:=Lh (hOf W hb)
 have HB:=Lh hb
 have HX0:=Lh hx0
 have HR0:=Lh hr0
 have HW:=Lh hW
 have HA:=Lh ha
 have HZ1:=Lh (show w.heap.size+2≤W.heap.size from hr0.lt)
 clear hOf hW hz1 hb hx0 hr0 hR ha
 obtain ⟨c0,c1,c2,c3,c4⟩:=bx5 HX0.out
 go_enter Tryz.func65,Tryz.ntmps65
 go_upto_region 1 with fail
 rw [← HW.out]
 clear HW
 go_wp2_with fail
 refine HOF.out.mono ?_
 clear HOF c0 c1 c2 c3 c4
 rintro e w2 ⟨u,o,m,lo,hi,an2,ai2,cn2,ci2,hC,hu,rfl,hp2,ho2,hm2,hb2⟩
 have HC:=Lh hC
 have HU:=Lh hu
 have hlt:=hp2.lt
 obtain ⟨p,hpp⟩:∃p,p=w2.heap.size:=⟨_,rfl⟩
 obtain ⟨W3,hW3⟩:∃W3,W3=w2.alloc (.cells #[.int .i64 0,.slice none 0 0,.int .i64 0,.string ⟨#[]⟩] 33):=⟨_,rfl⟩
 have hb3:Below w2.heap.size w2 W3:=by rw [hW3];exact (Below.refl _ _).alloc lz _
 have hq3:W3.rowIs p 33 4 (xi (.int .i64 0) (.slice none 0 0) (.int .i64 0) (.string ⟨#[]⟩)):=by rw [hW3,hpp];exact bK _ _ _ _ _ _
 have HN:=Lh (show p≠o∧p≠m∧hi≤p∧w.heap.size+2≤o∧w.heap.size+2≤m∧w.heap.size+2≤p∧p<W3.heap.size∧o<W3.heap.size∧m<W3.heap.size from by
  have h1:=hb2.size;have h2:=hq3.lt;have h3:=HZ1.out;have h4:=hb3.size;omega)
 have HP:=Lh (hp2.below hb3)
 have HR:=Lh (qj (hb2.trans (hb3.mono hb2.size)) HR0.out HR0.out.lt)
 replace HB:=Lh (HB.out.trans ((hb2.trans (hb3.mono hb2.size)).mono HB.out.size))
 have HQ:=Lh hq3
 have HZ:=Lh (Nat.le_refl W3.heap.size)
 have HW3:=Lh hW3
 have HPE:=Lh hpp
 clear hC hu hlt hp2 ho2 hm2 hb2 hb3 hq3 hW3 hpp HR0 HX0 HZ1
 have HLN:=Lh (@i8 u st HA.out)
 have HPA:=Lh (m8 HP.out HU.out (by have:=HA.out;omega))
 have HFA:=Lh (@fC u st HU.out)
 rw [show xe u st=bgA u st from rfl] at HPA HFA
 have HB1:=Lh (show bgB u st=qF u xN 1 32 (bgA u st).2 from rfl)
 have HP1:=Lh (show bgP u st=qp u jd (bgB u st).2 from rfl)
 have HG:=Lh (show lX u st=if qf u (bgP u st).2≠0 then (binsZ,qf u (bgP u st).2) else if zq ⟨(bgB u st).1,(bgP u st).1,(bgA u st).1⟩ then (⟨(bgB u st).1,(bgP u st).1,(bgA u st).1⟩,0) else (binsZ,3) from rfl)
 have HL1:=Lh HLN.out.1
 obtain ⟨GA,hGA⟩:∃GA,GA=bgA u st:=⟨_,rfl⟩
 rw [← hGA] at HPA HFA HB1 HG HL1
 clear hGA
 obtain ⟨au,SA⟩:=GA
 dsimp only at HPA HFA HB1 HG HL1
 go_upto_region 3 with fail
 rw [← HW3.out,← HPE.out]
 clear HPE HW3
 go_wp2_with fail
 refine HPA.out.mono ?_
 clear HPA
 rintro e w4 ⟨⟨ia,ic,rfl,hcp,hs⟩,hp',ht'⟩
 have HCA:=Lh (show au.ids.length≤ic from hcp)
 have HSA:=Lh (show qg w4 W3.heap.size w4.heap.size ia au.ids from hs.carry HZ.out lz (fun _ _ _=>rfl))
 clear hcp hs
 replace HP:=Lh hp'
 replace HR:=Lh (ht'.row HR.out (by have:=HN.out;omega))
 replace HQ:=Lh (ht'.row HQ.out (by have:=HN.out;omega))
 replace HB:=Lh (HB.out.trans (ht'.below (by have:=HB.out.size;omega) fun k hk e=>by have:=HN.out;omega))
 replace HZ:=Lh (Nat.le_trans HZ.out ht'.size)
 clear hp' ht'
 have e0:=HQ.out.cell (i:=0) (by decide)
 have f0:=HQ.out.frozen 0
 simp only [xi] at e0
 have e1:=HQ.out.cell (i:=1) (by decide)
 have f1:=HQ.out.frozen 1
 simp only [xi] at e1
 obtain ⟨W5,hW5⟩:∃W5,W5=(w4.setCell ⟨p,0,none⟩ (.int .i64 au.thr)).setCell ⟨p,1,none⟩ (.slice ia au.ids.length ic):=⟨_,rfl⟩
 have hput:Touch (fun b=>b=p) w4 W5:=by rw [hW5];exact ((Touch.refl _ _).trans (qD _)).trans (qD _)
 replace HQ:=Lh (show W5.rowIs p 33 4 (xi (.int .i64 au.thr) (.slice ia au.ids.length ic) (.int .i64 0) (.string ⟨#[]⟩)) from by
  rw [hW5]
  refine ((HQ.out.set 0 _).set 1 _).congr fun j hj=>?_
  rcases j with _|_|_|_|j <;> first|rfl|omega)
 replace HP:=Lh (HP.out.touch hput HN.out.1 HN.out.2.1 HN.out.2.2.1)
 replace HR:=Lh (hput.row HR.out (by have:=HN.out;omega))
 replace HB:=Lh (HB.out.trans (hput.below (by have:=HB.out.size;omega) fun k hk e=>by have:=HN.out;omega))
 replace HZ:=Lh (Nat.le_trans HZ.out hput.size)
 replace HSA:=Lh (HSA.out.carry lz hput.size (fun b h1 h2=>hput.block b h2 (by have:=HN.out;omega)))
 have HW5:=Lh hW5
 clear hput hW5
 go_upto_region 4 with fail
 rw [← HW5.out]
 clear HW5 e0 f0 e1 f1
 have HNU:=Lh (iH xN 1 32 HP.out (by decide) (by have:=HL1.out;omega))
 have HFB:=Lh (@m9 u xN 1 32 SA (by decide) (by decide))
 rw [← HB1.out] at HNU HFB
 have HL2:=Lh HLN.out.2
 obtain ⟨GB,hGB⟩:∃GB,GB=bgB u st:=⟨_,rfl⟩
 rw [← hGB] at HNU HFB HP1 HG HL2
 clear hGB HB1
 obtain ⟨bits,SB⟩:=GB
 dsimp only at HNU HFB HP1 HG HL2
 go_wp2_with fail
 refine HNU.out.mono ?_
 clear HNU
 rintro e w6 ⟨rfl,hp',ht'⟩
 replace HP:=Lh hp'
 replace HR:=Lh (ht'.row HR.out (by have:=HN.out;omega))
 replace HQ:=Lh (ht'.row HQ.out (by have:=HN.out;omega))
 replace HB:=Lh (HB.out.trans (ht'.below (by have:=HB.out.size;omega) fun k hk e=>by have:=HN.out;omega))
 replace HZ:=Lh (Nat.le_trans HZ.out ht'.size)
 replace HSA:=Lh (HSA.out.carry lz ht'.size (fun b h1 h2=>ht'.block b h2 (by have:=HN.out;omega)))
 clear hp' ht'
 have e2:=HQ.out.cell (i:=2) (by decide)
 have f2:=HQ.out.frozen 2
 simp only [xi] at e2
 obtain ⟨W7,hW7⟩:∃W7,W7=w6.setCell ⟨p,2,none⟩ (.int .i64 bits):=⟨_,rfl⟩
 have hput:Touch (fun b=>b=p) w6 W7:=by rw [hW7];exact (Touch.refl _ _).trans (qD _)
 replace HQ:=Lh (show W7.rowIs p 33 4 (xi (.int .i64 au.thr) (.slice ia au.ids.length ic) (.int .i64 bits) (.string ⟨#[]⟩)) from by
  rw [hW7]
  refine (HQ.out.set 2 _).congr fun j hj=>?_
  rcases j with _|_|_|_|j <;> first|rfl|omega)
 replace HP:=Lh (HP.out.touch hput HN.out.1 HN.out.2.1 HN.out.2.2.1)
 replace HR:=Lh (hput.row HR.out (by have:=HN.out;omega))
 replace HB:=Lh (HB.out.trans (hput.below (by have:=HB.out.size;omega) fun k hk e=>by have:=HN.out;omega))
 replace HZ:=Lh (Nat.le_trans HZ.out hput.size)
 replace HSA:=Lh (HSA.out.carry lz hput.size (fun b h1 h2=>hput.block b h2 (by have:=HN.out;omega)))
 have HW7:=Lh hW7
 clear hput hW7
 go_upto_region 5 with fail
 rw [← HW7.out]
 clear HW7 e2 f2
 have HTX:=Lh (iw jd HP.out (by decide) (by have:=HL2.out;omega))
 have HFN:=Lh (Nat.le_trans (@fM u jd SB) HU.out)
 rw [← HP1.out] at HTX HFN
 obtain ⟨GP,hGP⟩:∃GP,GP=bgP u st:=⟨_,rfl⟩
 rw [← hGP] at HTX HFN HG
 clear hGP HP1
 obtain ⟨pre,SP⟩:=GP
 dsimp only at HTX HFN HG
 go_wp2_with fail
 refine HTX.out.mono ?_
 clear HTX
 rintro e w8 ⟨rfl,hp',ht'⟩
 replace HP:=Lh hp'
 replace HR:=Lh (ht'.row HR.out (by have:=HN.out;omega))
 replace HQ:=Lh (ht'.row HQ.out (by have:=HN.out;omega))
 replace HB:=Lh (HB.out.trans (ht'.below (by have:=HB.out.size;omega) fun k hk e=>by have:=HN.out;omega))
 replace HZ:=Lh (Nat.le_trans HZ.out ht'.size)
 replace HSA:=Lh (HSA.out.carry lz ht'.size (fun b h1 h2=>ht'.block b h2 (by have:=HN.out;omega)))
 clear hp' ht'
 have e3:=HQ.out.cell (i:=3) (by decide)
 have f3:=HQ.out.frozen 3
 simp only [xi] at e3
 obtain ⟨W12,hW12⟩:∃W12,W12=w8.setCell ⟨p,3,none⟩ (.string pre):=⟨_,rfl⟩
 have hput:Touch (fun b=>b=p) w8 W12:=by rw [hW12];exact (Touch.refl _ _).trans (qD _)
 replace HQ:=Lh (show W12.rowIs p 33 4 (xi (.int .i64 au.thr) (.slice ia au.ids.length ic) (.int .i64 bits) (.string pre)) from by
  rw [hW12]
  refine (HQ.out.set 3 _).congr fun j hj=>?_
  rcases j with _|_|_|_|j <;> first|rfl|omega)
 replace HP:=Lh (HP.out.touch hput HN.out.1 HN.out.2.1 HN.out.2.2.1)
 replace HR:=Lh (hput.row HR.out (by have:=HN.out;omega))
 replace HB:=Lh (HB.out.trans (hput.below (by have:=HB.out.size;omega) fun k hk e=>by have:=HN.out;omega))
 replace HZ:=Lh (Nat.le_trans HZ.out hput.size)
 replace HSA:=Lh (HSA.out.carry lz hput.size (fun b h1 h2=>hput.block b h2 (by have:=HN.out;omega)))
 have HW12:=Lh hW12
 clear hput hW12
 go_upto_region 6 with fail
 rw [← HW12.out]
 clear HW12 e3 f3
 have HD:=Lh (mW HP.out HU.out)
 obtain ⟨dn,hdn⟩:∃dn,dn=qf u SP:=⟨_,rfl⟩
 rw [← hdn] at HD HG
 clear hdn
 have hR:=HR.out
 have t0:=hR.cell (i:=0) (by decide);have t1:=hR.cell (i:=1) (by decide);have t2:=hR.cell (i:=2) (by decide);have t3:=hR.cell (i:=3) (by decide)
 have s0:=hR.frozen 0;have s1:=hR.frozen 1;have s2:=hR.frozen 2;have s3:=hR.frozen 3
 simp only [xi] at t0 t1 t2 t3
 clear hR
 go_wp2_with fail
 refine HD.out.mono ?_
 clear HD
 rintro e w20 ⟨rfl,h'⟩
 subst h'
 by_cases hd:dn=0
 case neg =>
  have d1:(dn != 0)=true:=by simpa using hd
  rw [if_pos hd] at HG
  clear hd
  go_wp2
  refine bodyPost_ret (qw Tryz.results65 _ _ (w.heap.size+1) 33 _ (0,0) _ rfl (yD (iQ _ _ _ _ HR.out)) Tryz.underlying33 rfl (by kernel_rfl) _ rfl) rfl ?_
  refine ⟨u,HC.out,?_⟩
  rw [HG.out]
  exact gD (cU _ _ _ _ HB.out (by omega))
 subst hd
 rw [if_neg (by decide)] at HG
 have HMY:=Lh (yK au.thr bits au.ids pre ia ic W12 (HSA.out.carry (Nat.zero_le _) lz (fun _ _ _=>rfl)) HFN.out (by have:=HFB.out;omega) HFA.out)
 rw [show (⟨au.thr,au.ids⟩:AuthV)=au from rfl] at HMY
 obtain ⟨mb,hmb⟩:∃mb,mb=zq ⟨bits,pre,au⟩:=⟨_,rfl⟩
 rw [← hmb] at HMY HG
 clear hmb
 have e0:=HQ.out.cell (i:=0) (by decide)
 have f0:=HQ.out.frozen 0
 simp only [xi] at e0
 have e1:=HQ.out.cell (i:=1) (by decide)
 have f1:=HQ.out.frozen 1
 simp only [xi] at e1
 have e2:=HQ.out.cell (i:=2) (by decide)
 have f2:=HQ.out.frozen 2
 simp only [xi] at e2
 have e3:=HQ.out.cell (i:=3) (by decide)
 have f3:=HQ.out.frozen 3
 simp only [xi] at e3
 go_wp2_with fail
 refine HMY.out.mono ?_
 clear HMY e0 f0 e1 f1 e2 f2 e3 f3 t0 s0 t1 s1 t2 s2 t3 s3
 rintro e w21 ⟨rfl,hb'⟩
 replace HP:=Lh (HP.out.below hb')
 replace HR:=Lh (qj hb' HR.out HR.out.lt)
 replace HQ:=Lh (qj hb' HQ.out HQ.out.lt)
 replace HB:=Lh (HB.out.trans (hb'.mono HB.out.size))
 replace HZ:=Lh (Nat.le_trans HZ.out hb'.size)
 replace HSA:=Lh (HSA.out.below hb' lz lz hb'.size)
 clear hb'
 have hR:=HR.out
 have t0:=hR.cell (i:=0) (by decide);have t1:=hR.cell (i:=1) (by decide);have t2:=hR.cell (i:=2) (by decide);have t3:=hR.cell (i:=3) (by decide)
 have s0:=hR.frozen 0;have s1:=hR.frozen 1;have s2:=hR.frozen 2;have s3:=hR.frozen 3
 simp only [xi] at t0 t1 t2 t3
 have e0:=HQ.out.cell (i:=0) (by decide)
 have f0:=HQ.out.frozen 0
 simp only [xi] at e0
 have e1:=HQ.out.cell (i:=1) (by decide)
 have f1:=HQ.out.frozen 1
 simp only [xi] at e1
 have e2:=HQ.out.cell (i:=2) (by decide)
 have f2:=HQ.out.frozen 2
 simp only [xi] at e2
 have e3:=HQ.out.cell (i:=3) (by decide)
 have f3:=HQ.out.frozen 3
 simp only [xi] at e3
 clear hR
 cases mb with
 | false =>
  rw [if_neg (by decide)] at HG
  go_wp2
  refine bodyPost_ret (qw Tryz.results65 _ _ (w.heap.size+1) 33 _ (0,0) _ rfl (yD (iQ _ _ _ _ HR.out)) Tryz.underlying33 rfl (by kernel_rfl) _ rfl) rfl ?_
  refine ⟨u,HC.out,?_⟩
  rw [HG.out]
  exact gD (cU _ _ _ _ HB.out (by omega))
 | true =>
  rw [if_pos rfl] at HG
  have HZB:=Lh (show w.heap.size+2≤W3.heap.size from by have:=HN.out;omega)
  go_wp2
  refine bodyPost_ret (qw Tryz.results65 _ _ (w.heap.size+1) 33 _ (0,0) _ rfl (yD (iQ _ _ _ _ HR.out)) Tryz.underlying33 rfl (by kernel_rfl) _ rfl) rfl ?_
  refine ⟨u,HC.out,?_⟩
  rw [HG.out]
  have hc:=fun b (h1:W3.heap.size≤b) (h2:b<w21.heap.size)=>om (W:=w21) (.int .i64 au.thr) (.slice ia au.ids.length ic) (.int .i64 bits) (.string pre) (show b≠w.heap.size+1 by have:=HZB.out;omega)
  exact ⟨ia,ic,rfl,HCA.out,HSA.out.carry (by have:=HZB.out;omega) (Nat.le_of_eq oc.symm) hc,cU _ _ _ _ HB.out (by omega)⟩
theorem cj (v:JV) (x:Value) (w:World) (lo:Nat) (hlo:0<lo) (hN:v.wt≤4294967296) (hR:Rep w lo w.heap.size v x) (hp:v.kind=5→qQ v.names=true∧v.names.length=v.items.length) :
 Calls Tryz.prog 65 #[x] w (vm (zB v) w):=by
 refine (us (jh v) (st0 v) v x w (hR.carry (Nat.zero_le _) lz (fun _ _ _=>rfl)) (by unfold st0;split <;> simp) (fun w1 hb=>sA hN hlo hb.size (hR.below hb lz lz lz) hp)).mono ?_
 rintro e w' ⟨u,hu,h⟩
 unfold jh at hu
 unfold st0 at h
 by_cases hk:v.kind=5
 · rw [if_pos hk] at hu h
   subst hu
   rw [← rR hk];exact h
 · rw [if_neg hk] at hu h
   subst hu
   have:zB v=(binsZ,10):=by unfold zB;rw [if_pos hk]
   rw [this]
   rw [rN] at h;exact h
end Go.Proofs.YthgembbgcbaghaaGreatDoor
