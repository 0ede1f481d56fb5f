/- The contract of bins.Expand. Printed by genbinse.py. -/
import Derived.Test.YthgembbgcbaghaaGreatDoorDi33

namespace Go.Proofs.YthgembbgcbaghaaGreatDoor
open Go.RowKit Go.Shelf Go.Sort
def kR (r:BinsV × Int) (w:World) (e:Ending) (w':World):Prop :=
 ∃ia ic,e=.returned (.tuple #[.agg #[.int .i64 r.1.au.thr,.slice ia r.1.au.ids.length ic,.int .i64 r.1.bits,.string r.1.pre],.int .i64 r.2])∧r.1.au.ids.length≤ic∧qk w' w.heap.size w'.heap.size ia r.1.au.ids∧Below w.heap.size w w'
theorem y8 {er:Int} {w w':World} (hb:Below w.heap.size w w'):kR (binsZ,er) w (.returned (.tuple #[.agg #[.int .i64 0,.slice none 0 0,.int .i64 0,.string ⟨#[]⟩],.int .i64 er])) w' :=
 ⟨none,0,rfl,Nat.le_refl _,.inl rfl,hb⟩
set_option maxHeartbeats 4000000 in
set_option maxRecDepth 100000 in
theorem fZ (C:JV→Prop) (st:PS) (v:JV) (x:Value) (w:World) (hR:Rep w 0 w.heap.size v x) (ha:st.asked.length≤1000)
 (hOf:∀w1,Below w.heap.size w w1→Calls Tryz.prog 60 #[x] w1 (wR C st w1)) :
 Calls Tryz.prog 65 #[x] w (fun e w'=>∃u,C u∧kR (dm u st) w e w'):=by
 obtain ⟨an,cn,ai,ci,hx,h1,h2,h3,h4⟩:=hR.parts
 clear h1 h2 h3 h4
 subst hx
 obtain ⟨W,hW⟩:∃W,W=(w.alloc (.cells #[.int .u8 v.kind,.int .i64 v.n,.string v.t,.slice an v.names.length cn,.slice ai v.items.length ci] 25)).alloc (.cells #[.int .i64 0,.slice none 0 0,.int .i64 0,.string ⟨#[]⟩] 33):=⟨_,rfl⟩
 have hz1:(w.alloc (.cells #[.int .u8 v.kind,.int .i64 v.n,.string v.t,.slice an v.names.length cn,.slice ai v.items.length ci] 25)).heap.size=w.heap.size+1:=by simp
 have hb:Below w.heap.size w W:=by rw [hW];exact ((Below.refl _ _).alloc lz _).alloc (by simp) _
 have hx0:W.heap[w.heap.size]?=some (.cells #[.int .u8 v.kind,.int .i64 v.n,.string v.t,.slice an v.names.length cn,.slice ai v.items.length ci] 25 (0,0)):=by rw [hW];exact zi w _ _
 have hr0:W.rowIs (w.heap.size+1) 33 4 (xc (.int .i64 0) (.slice none 0 0) (.int .i64 0) (.string ⟨#[]⟩)):=by
  have:=gG (w.alloc (.cells #[.int .u8 v.kind,.int .i64 v.n,.string v.t,.slice an v.names.length cn,.slice ai v.items.length ci] 25)) (.int .i64 0) (.slice none 0 0) (.int .i64 0) (.string ⟨#[]⟩) 33
  rw [hz1,← hW] at this
  exact this
 have HOF:=Lh (hOf W hb)
 have HB:=Lh hb
 have HX0:=Lh hx0
 have HR0:=Lh hr0
 have HW:=Lh hW
 have HA:=Lh ha
 have HZ1:=Lh (show w.heap.size+2≤W.heap.size from hr0.lt)
 clear hOf hW hz1 hb hx0 hr0 hR ha
 obtain ⟨c0,c1,c2,c3,c4⟩:=bx5 HX0.out
 go_enter Tryz.func65,Tryz.ntmps65
 go_upto_region 1 with fail
 rw [← HW.out]
 clear HW
 go_wp2_with fail
 refine HOF.out.mono ?_
 clear HOF c0 c1 c2 c3 c4
 rintro e w2 ⟨u,o,m,lo,hi,an2,ai2,cn2,ci2,hC,hu,rfl,hp2,ho2,hm2,hb2⟩
 have HC:=Lh hC
 have HU:=Lh hu
 have hlt:=hp2.lt
 obtain ⟨p,hpp⟩:∃p,p=w2.heap.size:=⟨_,rfl⟩
 obtain ⟨W3,hW3⟩:∃W3,W3=w2.alloc (.cells #[.int .i64 0,.slice none 0 0,.int .i64 0,.string ⟨#[]⟩] 33):=⟨_,rfl⟩
 have hb3:Below w2.heap.size w2 W3:=by rw [hW3];exact (Below.refl _ _).alloc lz _
 have hq3:W3.rowIs p 33 4 (xc (.int .i64 0) (.slice none 0 0) (.int .i64 0) (.string ⟨#[]⟩)):=by rw [hW3,hpp];exact gG _ _ _ _ _ _
 have HN:=Lh (show p≠o∧p≠m∧hi≤p∧w.heap.size+2≤o∧w.heap.size+2≤m∧w.heap.size+2≤p∧p<W3.heap.size∧o<W3.heap.size∧m<W3.heap.size from by
  have h1:=hb2.size;have h2:=hq3.lt;have h3:=HZ1.out;have h4:=hb3.size;omega)
 have HP:=Lh (hp2.below hb3)
 have HR:=Lh (qj (hb2.trans (hb3.mono hb2.size)) HR0.out HR0.out.lt)
 replace HB:=Lh (HB.out.trans ((hb2.trans (hb3.mono hb2.size)).mono HB.out.size))
 have HQ:=Lh hq3
 have HZ:=Lh (Nat.le_refl W3.heap.size)
 have HW3:=Lh hW3
 have HPE:=Lh hpp
 clear hC hu hlt hp2 ho2 hm2 hb2 hb3 hq3 hW3 hpp HR0 HX0 HZ1
 have HLN:=Lh (@tX u st HA.out)
 have HPA:=Lh (uT HP.out HU.out (by have:=HA.out;omega))
 have HFA:=Lh (@pC u st HU.out)
 rw [show jT u st=bgA u st from rfl] at HPA HFA
 have HB1:=Lh (show bgB u st=qP u jp 1 32 (bgA u st).2 from rfl)
 have HP1:=Lh (show bgP u st=qb u jC (bgB u st).2 from rfl)
 have HG:=Lh (show dm u st=if qp u (bgP u st).2≠0 then (binsZ,qp u (bgP u st).2) else if qS ⟨(bgB u st).1,(bgP u st).1,(bgA u st).1⟩ then (⟨(bgB u st).1,(bgP u st).1,(bgA u st).1⟩,0) else (binsZ,3) from rfl)
 have HL1:=Lh HLN.out.1
 obtain ⟨GA,hGA⟩:∃GA,GA=bgA u st:=⟨_,rfl⟩
 rw [← hGA] at HPA HFA HB1 HG HL1
 clear hGA
 obtain ⟨au,SA⟩:=GA
 dsimp only at HPA HFA HB1 HG HL1
 go_upto_region 3 with fail
 rw [← HW3.out,← HPE.out]
 clear HPE HW3
 go_wp2_with fail
 refine HPA.out.mono ?_
 clear HPA
 rintro e w4 ⟨⟨ia,ic,rfl,hcp,hs⟩,hp',ht'⟩
 have HCA:=Lh (show au.ids.length≤ic from hcp)
 have HSA:=Lh (show qk w4 W3.heap.size w4.heap.size ia au.ids from hs.carry HZ.out lz (fun _ _ _=>rfl))
 clear hcp hs
 replace HP:=Lh hp'
 replace HR:=Lh (ht'.row HR.out (by have:=HN.out;omega))
 replace HQ:=Lh (ht'.row HQ.out (by have:=HN.out;omega))
 replace HB:=Lh (HB.out.trans (ht'.below (by have:=HB.out.size;omega) fun k hk e=>by have:=HN.out;omega))
 replace HZ:=Lh (Nat.le_trans HZ.out ht'.size)
 clear hp' ht'
 have e0:=HQ.out.cell (i:=0) (by decide)
 have f0:=HQ.out.frozen 0
 simp only [xc] at e0
 have e1:=HQ.out.cell (i:=1) (by decide)
 have f1:=HQ.out.frozen 1
 simp only [xc] at e1
 obtain ⟨W5,hW5⟩:∃W5,W5=(w4.setCell ⟨p,0,none⟩ (.int .i64 au.thr)).setCell ⟨p,1,none⟩ (.slice ia au.ids.length ic):=⟨_,rfl⟩
 have hput:Touch (fun b=>b=p) w4 W5:=by rw [hW5];exact ((Touch.refl _ _).trans (qY _)).trans (qY _)
 replace HQ:=Lh (show W5.rowIs p 33 4 (xc (.int .i64 au.thr) (.slice ia au.ids.length ic) (.int .i64 0) (.string ⟨#[]⟩)) from by
  rw [hW5]
  refine ((HQ.out.set 0 _).set 1 _).congr fun j hj=>?_
  rcases j with _|_|_|_|j <;> first|rfl|omega)
 replace HP:=Lh (HP.out.touch hput HN.out.1 HN.out.2.1 HN.out.2.2.1)
 replace HR:=Lh (hput.row HR.out (by have:=HN.out;omega))
 replace HB:=Lh (HB.out.trans (hput.below (by have:=HB.out.size;omega) fun k hk e=>by have:=HN.out;omega))
 replace HZ:=Lh (Nat.le_trans HZ.out hput.size)
 replace HSA:=Lh (HSA.out.carry lz hput.size (fun b h1 h2=>hput.block b h2 (by have:=HN.out;omega)))
 have HW5:=Lh hW5
 clear hput hW5
 go_upto_region 4 with fail
 rw [← HW5.out]
 clear HW5 e0 f0 e1 f1
 have HNU:=Lh (tg jp 1 32 HP.out (by decide) (by have:=HL1.out;omega))
 have HFB:=Lh (@uI u jp 1 32 SA (by decide) (by decide))
 rw [← HB1.out] at HNU HFB
 have HL2:=Lh HLN.out.2
 obtain ⟨GB,hGB⟩:∃GB,GB=bgB u st:=⟨_,rfl⟩
 rw [← hGB] at HNU HFB HP1 HG HL2
 clear hGB HB1
 obtain ⟨bits,SB⟩:=GB
 dsimp only at HNU HFB HP1 HG HL2
 go_wp2_with fail
 refine HNU.out.mono ?_
 clear HNU
 rintro e w6 ⟨rfl,hp',ht'⟩
 replace HP:=Lh hp'
 replace HR:=Lh (ht'.row HR.out (by have:=HN.out;omega))
 replace HQ:=Lh (ht'.row HQ.out (by have:=HN.out;omega))
 replace HB:=Lh (HB.out.trans (ht'.below (by have:=HB.out.size;omega) fun k hk e=>by have:=HN.out;omega))
 replace HZ:=Lh (Nat.le_trans HZ.out ht'.size)
 replace HSA:=Lh (HSA.out.carry lz ht'.size (fun b h1 h2=>ht'.block b h2 (by have:=HN.out;omega)))
 clear hp' ht'
 have e2:=HQ.out.cell (i:=2) (by decide)
 have f2:=HQ.out.frozen 2
 simp only [xc] at e2
 obtain ⟨W7,hW7⟩:∃W7,W7=w6.setCell ⟨p,2,none⟩ (.int .i64 bits):=⟨_,rfl⟩
 have hput:Touch (fun b=>b=p) w6 W7:=by rw [hW7];exact (Touch.refl _ _).trans (qY _)
 replace HQ:=Lh (show W7.rowIs p 33 4 (xc (.int .i64 au.thr) (.slice ia au.ids.length ic) (.int .i64 bits) (.string ⟨#[]⟩)) from by
  rw [hW7]
  refine (HQ.out.set 2 _).congr fun j hj=>?_
  rcases j with _|_|_|_|j <;> first|rfl|omega)
 replace HP:=Lh (HP.out.touch hput HN.out.1 HN.out.2.1 HN.out.2.2.1)
 replace HR:=Lh (hput.row HR.out (by have:=HN.out;omega))
 replace HB:=Lh (HB.out.trans (hput.below (by have:=HB.out.size;omega) fun k hk e=>by have:=HN.out;omega))
 replace HZ:=Lh (Nat.le_trans HZ.out hput.size)
 replace HSA:=Lh (HSA.out.carry lz hput.size (fun b h1 h2=>hput.block b h2 (by have:=HN.out;omega)))
 have HW7:=Lh hW7
 clear hput hW7
 go_upto_region 5 with fail
 rw [← HW7.out]
 clear HW7 e2 f2
 have HTX:=Lh (aH jC HP.out (by decide) (by have:=HL2.out;omega))
 have HFN:=Lh (Nat.le_trans (@pM u jC SB) HU.out)
 rw [← HP1.out] at HTX HFN
 obtain ⟨GP,hGP⟩:∃GP,GP=bgP u st:=⟨_,rfl⟩
 rw [← hGP] at HTX HFN HG
 clear hGP HP1
 obtain ⟨pre,SP⟩:=GP
 dsimp only at HTX HFN HG
 go_wp2_with fail
 refine HTX.out.mono ?_
 clear HTX
 rintro e w8 ⟨rfl,hp',ht'⟩
 replace HP:=Lh hp'
 replace HR:=Lh (ht'.row HR.out (by have:=HN.out;omega))
 replace HQ:=Lh (ht'.row HQ.out (by have:=HN.out;omega))
 replace HB:=Lh (HB.out.trans (ht'.below (by have:=HB.out.size;omega) fun k hk e=>by have:=HN.out;omega))
 replace HZ:=Lh (Nat.le_trans HZ.out ht'.size)
 replace HSA:=Lh (HSA.out.carry lz ht'.size (fun b h1 h2=>ht'.block b h2 (by have:=HN.out;omega)))
 clear hp' ht'
 have e3:=HQ.out.cell (i:=3) (by decide)
 have f3:=HQ.out.frozen 3
 simp only [xc] at e3
 obtain ⟨W12,hW12⟩:∃W12,W12=w8.setCell ⟨p,3,none⟩ (.string pre):=⟨_,rfl⟩
 have hput:Touch (fun b=>b=p) w8 W12:=by rw [hW12];exact (Touch.refl _ _).trans (qY _)
 replace HQ:=Lh (show W12.rowIs p 33 4 (xc (.int .i64 au.thr) (.slice ia au.ids.length ic) (.int .i64 bits) (.string pre)) from by
  rw [hW12]
  refine (HQ.out.set 3 _).congr fun j hj=>?_
  rcases j with _|_|_|_|j <;> first|rfl|omega)
 replace HP:=Lh (HP.out.touch hput HN.out.1 HN.out.2.1 HN.out.2.2.1)
 replace HR:=Lh (hput.row HR.out (by have:=HN.out;omega))
 replace HB:=Lh (HB.out.trans (hput.below (by have:=HB.out.size;omega) fun k hk e=>by have:=HN.out;omega))
 replace HZ:=Lh (Nat.le_trans HZ.out hput.size)
 replace HSA:=Lh (HSA.out.carry lz hput.size (fun b h1 h2=>hput.block b h2 (by have:=HN.out;omega)))
 have HW12:=Lh hW12
 clear hput hW12
 go_upto_region 6 with fail
 rw [← HW12.out]
 clear HW12 e3 f3
 have HD:=Lh (ui HP.out HU.out)
 obtain ⟨dn,hdn⟩:∃dn,dn=qp u SP:=⟨_,rfl⟩
 rw [← hdn] at HD HG
 clear hdn
 have hR:=HR.out
 have t0:=hR.cell (i:=0) (by decide);have t1:=hR.cell (i:=1) (by decide);have t2:=hR.cell (i:=2) (by decide);have t3:=hR.cell (i:=3) (by decide)
 have s0:=hR.frozen 0;have s1:=hR.frozen 1;have s2:=hR.frozen 2;have s3:=hR.frozen 3
 simp only [xc] at t0 t1 t2 t3
 clear hR
 go_wp2_with fail
 refine HD.out.mono ?_
 clear HD
 rintro e w20 ⟨rfl,h'⟩
 subst h'
 by_cases hd:dn=0
 case neg =>
  have d1:(dn != 0)=true:=by simpa using hd
  rw [if_pos hd] at HG
  clear hd
  go_wp2
  refine bodyPost_ret (qw Tryz.results65 _ _ (w.heap.size+1) 33 _ (0,0) _ rfl (yg (aT _ _ _ _ HR.out)) Tryz.underlying33 rfl (by kernel_rfl) _ rfl) rfl ?_
  refine ⟨u,HC.out,?_⟩
  rw [HG.out]
  exact y8 (mW _ _ _ _ HB.out (by omega))
 subst hd
 rw [if_neg (by decide)] at HG
 have HMY:=Lh (wI au.thr bits au.ids pre ia ic W12 (HSA.out.carry (Nat.zero_le _) lz (fun _ _ _=>rfl)) HFN.out (by have:=HFB.out;omega) HFA.out)
 rw [show (⟨au.thr,au.ids⟩:AuthV)=au from rfl] at HMY
 obtain ⟨mb,hmb⟩:∃mb,mb=qS ⟨bits,pre,au⟩:=⟨_,rfl⟩
 rw [← hmb] at HMY HG
 clear hmb
 have e0:=HQ.out.cell (i:=0) (by decide)
 have f0:=HQ.out.frozen 0
 simp only [xc] at e0
 have e1:=HQ.out.cell (i:=1) (by decide)
 have f1:=HQ.out.frozen 1
 simp only [xc] at e1
 have e2:=HQ.out.cell (i:=2) (by decide)
 have f2:=HQ.out.frozen 2
 simp only [xc] at e2
 have e3:=HQ.out.cell (i:=3) (by decide)
 have f3:=HQ.out.frozen 3
 simp only [xc] at e3
 go_wp2_with fail
 refine HMY.out.mono ?_
 clear HMY e0 f0 e1 f1 e2 f2 e3 f3 t0 s0 t1 s1 t2 s2 t3 s3
 rintro e w21 ⟨rfl,hb'⟩
 replace HP:=Lh (HP.out.below hb')
 replace HR:=Lh (qj hb' HR.out HR.out.lt)
 replace HQ:=Lh (qj hb' HQ.out HQ.out.lt)
 replace HB:=Lh (HB.out.trans (hb'.mono HB.out.size))
 replace HZ:=Lh (Nat.le_trans HZ.out hb'.size)
 replace HSA:=Lh (HSA.out.below hb' lz lz hb'.size)
 clear hb'
 have hR:=HR.out
 have t0:=hR.cell (i:=0) (by decide);have t1:=hR.cell (i:=1) (by decide);have t2:=hR.cell (i:=2) (by decide);have t3:=hR.cell (i:=3) (by decide)
 have s0:=hR.frozen 0;have s1:=hR.frozen 1;have s2:=hR.frozen 2;have s3:=hR.frozen 3
 simp only [xc] at t0 t1 t2 t3
 have e0:=HQ.out.cell (i:=0) (by decide)
 have f0:=HQ.out.frozen 0
 simp only [xc] at e0
 have e1:=HQ.out.cell (i:=1) (by decide)
 have f1:=HQ.out.frozen 1
 simp only [xc] at e1
 have e2:=HQ.out.cell (i:=2) (by decide)
 have f2:=HQ.out.frozen 2
 simp only [xc] at e2
 have e3:=HQ.out.cell (i:=3) (by decide)
 have f3:=HQ.out.frozen 3
 simp only [xc] at e3
 clear hR
 cases mb with
 | false =>
  rw [if_neg (by decide)] at HG
  go_wp2
  refine bodyPost_ret (qw Tryz.results65 _ _ (w.heap.size+1) 33 _ (0,0) _ rfl (yg (aT _ _ _ _ HR.out)) Tryz.underlying33 rfl (by kernel_rfl) _ rfl) rfl ?_
  refine ⟨u,HC.out,?_⟩
  rw [HG.out]
  exact y8 (mW _ _ _ _ HB.out (by omega))
 | true =>
  rw [if_pos rfl] at HG
  have HZB:=Lh (show w.heap.size+2≤W3.heap.size from by have:=HN.out;omega)
  go_wp2
  refine bodyPost_ret (qw Tryz.results65 _ _ (w.heap.size+1) 33 _ (0,0) _ rfl (yg (aT _ _ _ _ HR.out)) Tryz.underlying33 rfl (by kernel_rfl) _ rfl) rfl ?_
  refine ⟨u,HC.out,?_⟩
  rw [HG.out]
  have hc:=fun b (h1:W3.heap.size≤b) (h2:b<w21.heap.size)=>tC (W:=w21) (.int .i64 au.thr) (.slice ia au.ids.length ic) (.int .i64 bits) (.string pre) (show b≠w.heap.size+1 by have:=HZB.out;omega)
  exact ⟨ia,ic,rfl,HCA.out,HSA.out.carry (by have:=HZB.out;omega) (Nat.le_of_eq tD.symm) hc,mW _ _ _ _ HB.out (by omega)⟩
theorem u7 (v:JV) (x:Value) (w:World) (lo:Nat) (hlo:0<lo) (hN:v.wt≤4294967296) (hR:Rep w lo w.heap.size v x) (hp:v.kind=5→qe v.names=true∧v.names.length=v.items.length) :
 Calls Tryz.prog 65 #[x] w (kR (xj v) w):=by
 refine (fZ (xE v) (st0 v) v x w (hR.carry (Nat.zero_le _) lz (fun _ _ _=>rfl)) (by unfold st0;split <;> simp) (fun w1 hb=>nc hN hlo hb.size (hR.below hb lz lz lz) hp)).mono ?_
 rintro e w' ⟨u,hu,h⟩
 unfold xE at hu
 unfold st0 at h
 by_cases hk:v.kind=5
 · rw [if_pos hk] at hu h
   subst hu
   rw [← lR hk];exact h
 · rw [if_neg hk] at hu h
   subst hu
   have:xj v=(binsZ,10):=by unfold xj;rw [if_pos hk]
   rw [this]
   rw [lN] at h;exact h
end Go.Proofs.YthgembbgcbaghaaGreatDoor

namespace Go.Proofs.YthgembbgcbaghaaGreatDoor
open Go.RowKit
theorem tJ (a b s:Nat) (h:b<2 ^ s):a * 2 ^ s ||| b=a * 2 ^ s+b:=by
 have:=Nat.two_pow_add_eq_or_of_lt (i:=s) h a
 rw [Nat.mul_comm a (2 ^ s)]
 exact this.symm
set_option maxHeartbeats 2000000 in
set_option maxRecDepth 100000 in
theorem fX (k n:Nat) (w:World) (h1:1≤k) (h2:k≤32) (hn:n<2 ^ k) :
 Calls Tryz.prog 102 #[.int .i64 k,.int .u32 n] w fun e w'=>∃a c,e=.returned (.tuple #[.slice a (qM k n).length c,.int .i64 0])∧(qM k n).length≤c∧qk w' w.heap.size w'.heap.size a (qM k n)∧Below w.heap.size w w':=by
 have hn32:n<4294967296:=Nat.lt_of_lt_of_le hn (Nat.le_trans (Nat.pow_le_pow_right (by decide) h2) (by decide))
 have HM:=Lh (fun w:World=>(fp k w h1 h2).mono fun e w' h=>show e=.returned (.bool true)∧w=w' from ⟨h.1,h.2.symm⟩)
 have HH:=Lh (fun w:World=>(dp k n w (by omega) hn32).mono fun e w' h=>show e=.returned (.bool true)∧w=w' from ⟨by rw [h.1,decide_eq_true hn],h.2.symm⟩)
 have HWD:=Lh (fun w:World=>(yo k w h2).mono fun e w' h=>show e=.returned (.int .i64 ((xr k:Nat):Int))∧w=w' from ⟨h.1,h.2.symm⟩)
 obtain ⟨c,hc⟩:∃c,c=xr k:=⟨_,rfl⟩
 have hc4:k≤4 * c∧4 * c - k≤3∧c≤8:=by rw [hc];unfold xr;omega
 obtain ⟨s,hs⟩:∃s,s=4 * c - k:=⟨_,rfl⟩
 obtain ⟨m,hm⟩:∃m,m=2 ^ s:=⟨_,rfl⟩
 have hm8:m≤8:=by
  rw [hm]
  exact Nat.le_trans (Nat.pow_le_pow_right (by decide) (show s≤3 by omega)) (by decide)
 have HL:=Lh (show (qM k n).length=m from by rw [vv,hm,hs,hc])
 have HG:=Lh (show ∀i (h:i<(qM k n).length),(qM k n)[i]=⟨(xA c (n * m+i)).toArray⟩ from fun i h=>by
  have e:(qM k n)[i]=⟨(xA (xr k) (n * 2 ^ (4 * xr k - k)+i)).toArray⟩:=by
   simp only [qM,List.getElem_map,List.getElem_range]
  rw [e,← hc,← hs,← hm])
 have hnm:n * m+m≤4294967296:=by
  have e1:n * m+m=(n+1) * m:=by rw [Nat.add_mul,Nat.one_mul]
  have e2:(n+1) * m≤2 ^ k * 2 ^ s:=by rw [hm];exact Nat.mul_le_mul_right _ hn
  have e3:2 ^ k * 2 ^ s≤2 ^ 32:=by rw [← Nat.pow_add];exact Nat.pow_le_pow_right (by decide) (by omega)
  have e4:(2:Nat) ^ 32=4294967296:=by decide
  omega
 have HNM:=Lh hnm
 have HTX:=Lh (fun (w:World) (i:Nat) (hi:i<m)=>uC (n * m+i) c w (by omega) hc4.2.2)
 have HM2:=Lh hm
 have HOR:=Lh (fun (i:Nat) (hi:i<m)=>(by rw [hm] at hi ⊢;exact tJ n i s hi:n * m ||| i=n * m+i))
 rw [← hc] at HWD
 clear hn32 hn
 have d1:(4:Int) * (c:Int) - (k:Int)=(s:Int):=by omega
 have d2:(0:Int)≤(s:Int):=by omega
 have d3:(s:Int)≤3:=by omega
 have d4:((s:Int)).toNat=s:=by omega
 have d5:wrap64 ((2:Int) ^ s)=(m:Int):=by
  have h:s=0∨s=1∨s=2∨s=3:=by omega
  rw [hm]
  rcases h with h|h|h|h <;> (rw [h];first|rfl|kernel_rfl|decide +kernel)
 have m0:0<m:=by rw [hm];exact Nat.two_pow_pos s
 clear hc hs hm
 obtain ⟨i0,hi,hz0,hz1,hz2⟩:=info_parts gb
 go_enter Tryz.func102,Tryz.ntmps102
 go_wp2_with (first|(go_at_call 170;refine (HM.out _).mono ?_;rintro e w1 ⟨rfl,rfl⟩)|(go_at_call 173;refine (HH.out _).mono ?_;rintro e w1 ⟨rfl,rfl⟩)|(go_at_call 171;refine (HWD.out _).mono ?_;rintro e w1 ⟨rfl,rfl⟩)|(at_make;refine wpList_make_full _ rfl (.tmp 26) (.tmp 26) 22 rfl w.heap.size 9 i0 (.string ⟨#[]⟩) 1 Tryz.underlying22 hi hz0 hz1 .i64 .i64 _ _ m rfl rfl d5 d5 ?b2 ?b3 lz ?_))
 case b2=>rw [hz2];omega
 case b3=>unfold maxLen;omega
 intro w1 hown hgrow
 have HB1:Hid (Below w.heap.size w w1):=(Below.refl _ _).grown hgrow lz (by simp)
 have HR1:=Lh (show ∃f,w1.rowIs w.heap.size 9 m f from by
  rcases hown.2 with ⟨h,_⟩|⟨g,cap,cur,hv,hg,hh,hc,hm,hz,ht⟩
  · cases h
  · simp only [Value.slice.injEq,Option.some.injEq,Addr.mk.injEq,and_true,true_and] at hv
    obtain ⟨rfl,rfl⟩:=hv
    exact ⟨fun i=>cur[i]!,cur,hh,by simpa using hz,fun i hi=>by show cur[i]?=some cur[i]!;rw [getElem!_pos cur i (by omega),Array.getElem?_eq_getElem (by omega)]⟩)
 clear hown hgrow
 go_wp2
 go_loopw [9,30] (fun _ i wr=>∃(j:Nat) (f:Nat→Value),j≤m∧i=.int .i64 j∧wr.rowIs w.heap.size 9 m f∧(∀q,q<j→f q=.string ⟨(xA c (n * m+q)).toArray⟩)∧Below w.heap.size w wr) (fun _ i _=>m - (intOf i).toNat)
 case atStart =>
  obtain ⟨f,hf⟩:=HR1.out
  exact ⟨0,f,by omega,rfl,hf,fun j h=>by omega,HB1.out⟩
 case round =>
  obtain ⟨j,f,hj,rfl,hrow,hal,hbel⟩:=hrel
  have HAL:=Lh hal
  have HB:=Lh hbel
  have HRW:=Lh hrow
  clear hal hbel
  by_cases hlt:j<m
  · have m1:decide ((j:Int)<(m:Int))=true:=by simp;omega
    have m3:(0:Int)≤(j:Int):=by omega
    have m2:(j:Int)<(m:Int):=by omega
    have a0:(j:Int) % 4294967296=(j:Int):=by omega
    have hnj:n * m+j<4294967296:=by have:=HNM.out;omega
    have a1:(n:Int) * 2 ^ s % 4294967296=((n * m:Nat):Int):=by
     have e:(n:Int) * 2 ^ s=((n * m:Nat):Int):=by rw [HM2.out];push_cast;rfl
     rw [e];omega
    have a2:bits BinOp.or IntKind.u32 ((n * m:Nat):Int) (j:Int)=((n * m+j:Nat):Int):=by
     have:=u32_or_nat (n * m) j (by omega) (by omega)
     rw [HOR.out j hlt] at this
     exact this
    have HT:=Lh (HTX.out wr j hlt)
    obtain ⟨S,hS⟩:∃S:ByteArray,S=⟨(xA c (n * m+j)).toArray⟩:=⟨_,rfl⟩
    rw [← hS] at HT
    have HS:=Lh hS
    obtain ⟨x,hx⟩:∃x,x=n * m+j:=⟨_,rfl⟩
    obtain ⟨y,hy⟩:∃y,y=n * m:=⟨_,rfl⟩
    rw [← hx] at HT a2
    rw [← hy] at a1 a2
    clear hrow hS hx hy hnj
    go_wp2_with fail
    refine HT.out.mono ?_
    clear HT
    rintro e w2 ⟨rfl,hb2⟩
    have hr2:=qj hb2 HRW.out HRW.out.lt
    have e0:=hr2.cell (i:=j) hlt
    have f0:=hr2.frozen j
    have HRN:=Lh (hr2.set j (.string S))
    have HB2:=Lh (HB.out.trans (hb2.mono HB.out.size))
    clear hr2 hb2
    go_wp2
    go_roundw
    case rel =>
     refine ⟨j+1,_,by omega,by go_num,HRN.out,fun q hq=>?_,HB2.out.setCell lz _⟩
     by_cases e:q=j
     · simp only [e,if_true];rw [HS.out]
     · simp only [e,if_false];exact HAL.out q (by omega)
    case measure=>simp [intOf];omega
  · obtain rfl:j=m:=by omega
    have m1:decide ((j:Int)<(j:Int))=false:=by simp
    have HRE:=Lh (show qk wr w.heap.size wr.heap.size (some ⟨w.heap.size,0,none⟩) (qM k n) from .inr ⟨w.heap.size,0,rfl,Nat.le_refl _,hrow.lt,fun i hi=>by
     rw [HG.out i hi,Nat.zero_add,← HAL.out i (by rw [← HL.out];exact hi)]
     exact hrow.cell (by rw [← HL.out];exact hi)⟩)
    clear hrow
    go_wp2
    go_ret2
    exact ⟨some ⟨w.heap.size,0,none⟩,j,by rw [HL.out];rfl,Nat.le_of_eq HL.out,HRE.out,HB.out⟩
def dc (l:List ByteArray) (lo:Nat) (w:World) (x:Value):Prop:=∃a c,x=.slice a l.length c∧l.length≤c∧qk w lo w.heap.size a l
def MP.strsL (l:List ByteArray) (lo:Nat):MP:=⟨dc l lo,fun _ _ _ hb ⟨a,c,e,h1,h2⟩=>⟨a,c,e,h1,h2.below hb lz lz hb.size⟩⟩
def aa (t:Int) (l:List ByteArray) (lo:Nat) (w:World) (x:Value):Prop:=∃a c,x=.agg #[.int .i64 t,.slice a l.length c]∧l.length≤c∧qk w lo w.heap.size a l
def MP.authL (t:Int) (l:List ByteArray) (lo:Nat):MP:=⟨aa t l lo,fun _ _ _ hb ⟨a,c,e,h1,h2⟩=>⟨a,c,e,h1,h2.below hb lz lz hb.size⟩⟩
def tK (nm:ByteArray) (t:Int) (l:List ByteArray) (q:Value) (lo:Nat) (w:World) (x:Value):Prop:=∃a c,x=.agg #[.string nm,.int .i64 t,.slice a l.length c,.bool true,.slice none 0 0,q]∧l.length≤c∧qk w lo w.heap.size a l
def MP.delL (nm:ByteArray) (t:Int) (l:List ByteArray) (q:Value) (lo:Nat):MP:=⟨tK nm t l q lo,fun _ _ _ hb ⟨a,c,e,h1,h2⟩=>⟨a,c,e,h1,h2.below hb lz lz hb.size⟩⟩
def dd (w:World) (lo:Nat) (f:Nat→Value) (t:Int) (ids:List ByteArray) (pre:ByteArray) (k q:Nat):Prop:=∃ia ic qa qc,f (q * 6)=.string (qT pre k q)∧f (q * 6+1)=.int .i64 t∧f (q * 6+2)=.slice ia ids.length ic∧f (q * 6+3)=.bool true∧f (q * 6+4)=.slice none 0 0 ∧
 f (q * 6+5)=.slice qa (qM k q).length qc∧ids.length≤ic∧(qM k q).length≤qc∧qk w lo w.heap.size ia ids∧qk w lo w.heap.size qa (qM k q)
theorem dd.stay {w w':World} {lo:Nat} {f f':Nat→Value} {t:Int} {ids:List ByteArray} {pre:ByteArray} {k q:Nat} (h:dd w lo f t ids pre k q) (hz:w.heap.size≤w'.heap.size) (hs:∀b,lo≤b→b<w.heap.size→w'.heap[b]?=w.heap[b]?) (hf:∀j,j<6→f' (q * 6+j)=f (q * 6+j)):dd w' lo f' t ids pre k q:=by
 obtain ⟨ia,ic,qa,qc,c0,c1,c2,c3,c4,c5,l1,l2,s1,s2⟩:=h
 exact ⟨ia,ic,qa,qc,by rw [← c0];exact hf 0 (by omega),by rw [← c1];exact hf 1 (by omega),by rw [← c2];exact hf 2 (by omega),by rw [← c3];exact hf 3 (by omega),by rw [← c4];exact hf 4 (by omega),by rw [← c5];exact hf 5 (by omega),l1,l2,s1.carry lz hz hs,s2.carry lz hz hs⟩
def pq (f:Nat→Value) (o:Nat) (v0 v1 v2 v3 v4 v5:Value):Nat→Value:=fun q=>if q=o+5 then v5 else if q=o+4 then v4 else if q=o+3 then v3 else if q=o+2 then v2 else if q=o+1 then v1 else if q=o then v0 else f q
theorem sk {w:World} {g T n:Nat} {f:Nat→Value} (h:w.rowIs g T n f) (o:Nat) (v0 v1 v2 v3 v4 v5:Value):((((((w.setCell ⟨g,o,none⟩ v0).setCell ⟨g,o+1,none⟩ v1).setCell ⟨g,o+2,none⟩ v2).setCell ⟨g,o+3,none⟩ v3).setCell ⟨g,o+4,none⟩ v4).setCell ⟨g,o+5,none⟩ v5).rowIs g T n (pq f o v0 v1 v2 v3 v4 v5) :=
 (((((h.set o v0).set (o+1) v1).set (o+2) v2).set (o+3) v3).set (o+4) v4).set (o+5) v5
theorem sw {f:Nat→Value} {o q:Nat} {v0 v1 v2 v3 v4 v5:Value} (h:q<o):pq f o v0 v1 v2 v3 v4 v5 q=f q:=by
 unfold pq
 rw [if_neg (by omega),if_neg (by omega),if_neg (by omega),if_neg (by omega),if_neg (by omega),if_neg (by omega)]
theorem sy {f:Nat→Value} {o:Nat} {v0 v1 v2 v3 v4 v5:Value}:pq f o v0 v1 v2 v3 v4 v5 o=v0∧pq f o v0 v1 v2 v3 v4 v5 (o+1)=v1∧pq f o v0 v1 v2 v3 v4 v5 (o+2)=v2∧pq f o v0 v1 v2 v3 v4 v5 (o+3)=v3∧pq f o v0 v1 v2 v3 v4 v5 (o+4)=v4∧pq f o v0 v1 v2 v3 v4 v5 (o+5)=v5:=by
 unfold pq
 refine ⟨?_,?_,?_,?_,?_,?_⟩ <;> simp
theorem cX {w:World} {g o:Nat} {v0 v1 v2 v3 v4 v5:Value}:Touch (fun b=>b=g) w ((((((w.setCell ⟨g,o,none⟩ v0).setCell ⟨g,o+1,none⟩ v1).setCell ⟨g,o+2,none⟩ v2).setCell ⟨g,o+3,none⟩ v3).setCell ⟨g,o+4,none⟩ v4).setCell ⟨g,o+5,none⟩ v5) :=
 have st:∀ {a w:World},Touch (fun b=>b=g) a w→∀(j:Nat) (u:Value),Touch (fun b=>b=g) a (w.setCell ⟨g,j,none⟩ u):=fun h j u=>h.setCell (p:=⟨g,j,none⟩) (.inl rfl) u
 st (st (st (st (st (st (Touch.refl _ _) _ _) _ _) _ _) _ _) _ _) _ _
set_option maxHeartbeats 2000000 in
set_option maxRecDepth 100000 in
theorem bF (t:Int) (k:Nat) (ids:List ByteArray) (pre:ByteArray) (ia:Option Addr) (ic:Nat) (w:World) (hp:pre.size≤4294967296) (hw:zm ⟨(k:Int),pre,⟨t,ids⟩⟩=0) (h1:7≤k) (h2:k≤32) :
 Calls Tryz.prog 44 #[.agg #[.int .i64 t,.slice ia ids.length ic,.int .i64 k,.string pre]] w fun e w'=>e=.returned (.tuple #[.slice none 0 0,.int .i64 5])∧Below w.heap.size w w':=by
 obtain ⟨W,hW⟩:∃W,W=w.alloc (.cells #[.int .i64 t,.slice ia ids.length ic,.int .i64 k,.string pre] 33):=⟨_,rfl⟩
 have hbw:Below w.heap.size w W:=by rw [hW];exact (Below.refl _ _).alloc lz _
 have hx:W.heap[w.heap.size]?=some (.cells #[.int .i64 t,.slice ia ids.length ic,.int .i64 k,.string pre] 33 (0,0)):=by rw [hW];exact heap_alloc_new w _
 have HB:=Lh hbw
 have HC:=Lh (show ∀w':World,Below W.heap.size W w'→w'.cell? ⟨w.heap.size,0,none⟩=some (.int .i64 t)∧w'.cell? ⟨w.heap.size,1,none⟩=some (.slice ia ids.length ic)∧w'.cell? ⟨w.heap.size,2,none⟩=some (.int .i64 k)∧w'.cell? ⟨w.heap.size,3,none⟩=some (.string pre) from fun w' h=>by
  have y:=(h.block _ (qx hx)).trans hx
  exact ⟨qq y rfl,qq y rfl,qq y rfl,qq y rfl⟩)
 have HWR:=Lh (kt t k ids pre ia ic W hp (by omega))
 rw [hw] at HWR
 have HW:=Lh hW
 have d4:(k:Int).toNat=k:=by omega
 have hk:128≤2 ^ k∧2 ^ k≤4294967296:=⟨Nat.le_trans (by decide) (Nat.pow_le_pow_right (by decide) h1),Nat.le_trans (Nat.pow_le_pow_right (by decide) h2) (by decide)⟩
 obtain ⟨m,hm⟩:∃m,m=2 ^ k:=⟨_,rfl⟩
 rw [← hm] at hk
 have a0:(2:Int) ^ k=(m:Int):=by rw [hm];push_cast;rfl
 have a1:(m:Int) % 18446744073709551616=(m:Int):=by omega
 have a2:decide ((m:Int) > 64)=true:=by simp;omega
 have a3:decide (64<(m:Int))=true:=by simp;omega
 have a4:(2:Int) ^ k % 18446744073709551616=(m:Int):=by rw [a0,a1]
 clear hW hx hbw hw hm
 obtain ⟨q0,q1,q2,q3⟩:=HC.out W (Below.refl _ _)
 go_enter Tryz.func44,Tryz.ntmps44
 go_upto_region 1 with fail
 rw [← HW.out]
 clear HW
 go_wp2_with fail
 refine HWR.out.mono ?_
 rintro e w3 ⟨rfl,hb⟩
 have HB3:=Lh hb
 obtain ⟨z0,z1,z2,z3⟩:=HC.out w3 hb
 clear hb q0 q1 q2 q3 HWR
 go_wp2_with fail
 go_ret2
 exact ⟨rfl,HB.out.trans (HB3.out.mono HB.out.size)⟩
set_option maxHeartbeats 4000000 in
set_option maxRecDepth 100000 in
theorem cJ (t:Int) (k:Nat) (ids:List ByteArray) (pre:ByteArray) (ia:Option Addr) (ic:Nat) (w:World) (hp:pre.size≤4294967296) (hw:zm ⟨(k:Int),pre,⟨t,ids⟩⟩=0) (hI:qk w 0 w.heap.size ia ids) (hl:ids.length≤4294967296) (h1:1≤k) (h2:k≤6) :
 Calls Tryz.prog 44 #[.agg #[.int .i64 t,.slice ia ids.length ic,.int .i64 k,.string pre]] w fun e w'=>∃a c,e=.returned (.tuple #[.slice a (zc ⟨(k:Int),pre,⟨t,ids⟩⟩).length c,.int .i64 0])∧(zc ⟨(k:Int),pre,⟨t,ids⟩⟩).length≤c∧qI w' w.heap.size w'.heap.size a (zc ⟨(k:Int),pre,⟨t,ids⟩⟩)∧Below w.heap.size w w':=by
 obtain ⟨W,hW⟩:∃W,W=w.alloc (.cells #[.int .i64 t,.slice ia ids.length ic,.int .i64 k,.string pre] 33):=⟨_,rfl⟩
 have hbw:Below w.heap.size w W:=by rw [hW];exact (Below.refl _ _).alloc lz _
 have hx:W.heap[w.heap.size]?=some (.cells #[.int .i64 t,.slice ia ids.length ic,.int .i64 k,.string pre] 33 (0,0)):=by rw [hW];exact heap_alloc_new w _
 have HB:=Lh hbw
 have HC:=Lh (show ∀w':World,Below W.heap.size W w'→w'.cell? ⟨w.heap.size,0,none⟩=some (.int .i64 t)∧w'.cell? ⟨w.heap.size,1,none⟩=some (.slice ia ids.length ic)∧w'.cell? ⟨w.heap.size,2,none⟩=some (.int .i64 k)∧w'.cell? ⟨w.heap.size,3,none⟩=some (.string pre) from fun w' h=>by
  have y:=(h.block _ (qx hx)).trans hx
  exact ⟨qq y rfl,qq y rfl,qq y rfl,qq y rfl⟩)
 have HWR:=Lh (kt t k ids pre ia ic W hp (by omega))
 rw [hw] at HWR
 obtain ⟨m,hm⟩:∃m,m=2 ^ k:=⟨_,rfl⟩
 have hk:2≤m∧m≤64:=by
  rw [hm]
  exact ⟨Nat.le_trans (by decide) (Nat.pow_le_pow_right (by decide) h1),Nat.le_trans (Nat.pow_le_pow_right (by decide) h2) (by decide)⟩
 have HL:=Lh (show (zc ⟨(k:Int),pre,⟨t,ids⟩⟩).length=m from by unfold zc;rw [List.length_map,List.length_range,hm];rfl)
 have HG:=Lh (show ∀i (h:i<(zc ⟨(k:Int),pre,⟨t,ids⟩⟩).length),(zc ⟨(k:Int),pre,⟨t,ids⟩⟩)[i]=⟨qT pre k i,⟨t,ids⟩,true,[],qM k i⟩ from fun i h=>by
  simp only [zc,List.getElem_map,List.getElem_range]
  rfl)
 have HRL:=Lh (show ∀(w':World) (n:Nat),n<m→Calls Tryz.prog 101 #[.agg #[.int .i64 t,.slice ia ids.length ic,.int .i64 k,.string pre],.int .u32 n] w' (fun e w2=>e=.returned (.tuple #[.string (qT pre k n),.int .i64 0])∧Below w'.heap.size w' w2) from fun w' n hn=>uD t k n ids pre ia ic w' hp hw h1 (by omega) (by rw [← hm];exact hn))
 have HPR:=Lh (show ∀(w':World) (n:Nat),n<m→Calls Tryz.prog 102 #[.int .i64 k,.int .u32 n] w' (fun e w2=>∃a c,e=.returned (.tuple #[.slice a (qM k n).length c,.int .i64 0])∧(qM k n).length≤c∧qk w2 w'.heap.size w2.heap.size a (qM k n)∧Below w'.heap.size w' w2) from fun w' n hn=>fX k n w' h1 (by omega) (by rw [← hm];exact hn))
 have HCL:=Lh (show ∀w':World,Below w.heap.size w w'→Calls Tryz.prog 103 #[.slice ia ids.length ic] w' (fun e w2=>∃y,e=.returned y∧(∃a' c',y=.slice a' ids.length c'∧ids.length≤c'∧qk w2 w'.heap.size w2.heap.size a' ids)∧Below w'.heap.size w' w2) from fun w' h=>(yb ids ia ic w' w'.heap.size (hI.below h lz lz h.size) hl).mono fun e w2 ⟨a',c',h1,h2,h3,h4⟩=>⟨_,h1,⟨a',c',rfl,h2,h3⟩,h4⟩)
 have HW:=Lh hW
 have d4:(k:Int).toNat=k:=by omega
 have a0:(2:Int) ^ k=(m:Int):=by rw [hm];push_cast;rfl
 have a1:(m:Int) % 18446744073709551616=(m:Int):=by omega
 have a2:decide ((m:Int) > 64)=false:=by simp;omega
 have a3:decide (64<(m:Int))=false:=by simp;omega
 have a4:(2:Int) ^ k % 18446744073709551616=(m:Int):=by rw [a0,a1]
 have a5:wrap64 ((2:Int) ^ k)=(m:Int):=by
  have h:k=1∨k=2∨k=3∨k=4∨k=5∨k=6:=by omega
  rw [hm]
  rcases h with h|h|h|h|h|h <;> (rw [h];first|rfl|kernel_rfl|decide +kernel)
 have a6:wrap64 (m:Int)=(m:Int):=by rw [← a0];rw [a5,a0]
 obtain ⟨i0,hi,hz0,hz1,hz2⟩:=info_parts pD
 clear hW hx hbw hw hm hI
 obtain ⟨q0,q1,q2,q3⟩:=HC.out W (Below.refl _ _)
 go_enter Tryz.func44,Tryz.ntmps44
 go_upto_region 1 with fail
 rw [← HW.out]
 clear HW
 go_wp2_with fail
 refine HWR.out.mono ?_
 rintro e w3 ⟨rfl,hb⟩
 have HB3:=Lh hb
 obtain ⟨z0,z1,z2,z3⟩:=HC.out w3 hb
 clear hb q0 q1 q2 q3 HWR
 go_wp2_with (at_make;refine wpList_make_full _ rfl (.tmp 21) (.tmp 21) 29 rfl w3.heap.size 41 i0 _ 6 Tryz.underlying29 hi hz0 hz1 .i64 .i64 _ _ m rfl rfl (by first|rfl|exact a5|exact a6) (by first|rfl|exact a5|exact a6) ?b2 ?b3 lz ?_)
 case b2=>rw [hz2];omega
 case b3=>unfold maxLen;omega
 intro w4 hown hgrow
 have hb4:Below w3.heap.size w3 w4:=(Below.refl _ _).grown hgrow lz (by simp)
 have HB4:=Lh (HB3.out.trans (hb4.mono HB3.out.size))
 obtain ⟨g,hg⟩:∃g,g=w3.heap.size:=⟨_,rfl⟩
 have HR1:=Lh (show ∃f,w4.rowIs g 41 (m * 6) f from by
  rw [hg]
  rcases hown.2 with ⟨h,_⟩|⟨g,cap,cur,hv,hg,hh,hc,hm,hz,ht⟩
  · cases h
  · simp only [Value.slice.injEq,Option.some.injEq,Addr.mk.injEq,and_true,true_and] at hv
    obtain ⟨rfl,rfl⟩:=hv
    exact ⟨fun i=>cur[i]!,cur,hh,by simpa using hz,fun i hi=>by show cur[i]?=some cur[i]!;rw [getElem!_pos cur i (by omega),Array.getElem?_eq_getElem (by omega)]⟩)
 have HGE:=Lh (show W.heap.size≤g from by rw [hg];exact HB3.out.size)
 rw [← hg]
 clear hown hgrow hb4 hg
 go_wp2
 clear a0 a1 a2 a3 a4 a5 a6 d4
 go_loopw [6,7,8,9,25] (fun _ _ _ _ i wr=>∃(j:Nat) (f:Nat→Value),j≤m∧i=.int .i64 j∧wr.rowIs g 41 (m * 6) f∧(∀q,q<j→dd wr (g+1) f t ids pre k q)∧Below W.heap.size W wr) (fun _ _ _ _ i _=>m - (intOf i).toNat)
 case atStart =>
  obtain ⟨f,hf⟩:=HR1.out
  exact ⟨0,f,by omega,rfl,hf,fun j h=>by omega,HB4.out⟩
 case round =>
  obtain ⟨j,f,hj,rfl,hrow,hal,hbel⟩:=hrel
  have HAL:=Lh hal
  have HBR:=Lh hbel
  have HRW:=Lh hrow
  clear hal
  by_cases hlt:j<m
  · have m1:decide ((j:Int)<(m:Int))=true:=by simp;omega
    have m3:(0:Int)≤(j:Int):=by omega
    have m2:(j:Int)<(m:Int):=by omega
    have b0:(j:Int) % 4294967296=(j:Int):=by omega
    obtain ⟨z0,z1,z2,z3⟩:=HC.out wr hbel
    have HR0:=Lh (HRL.out wr j hlt)
    obtain ⟨R,hR⟩:∃R,R=qT pre k j:=⟨_,rfl⟩
    rw [← hR] at HR0
    have HRR:=Lh hR
    clear hrow hR hbel
    go_wp2_with fail
    refine HR0.out.mono ?_
    clear HR0 z0 z1 z2 z3
    rintro e w5 ⟨rfl,hb5⟩
    have HB5:=Lh (HBR.out.trans (hb5.mono HBR.out.size))
    have HBJ:=Lh hb5
    clear hb5
    obtain ⟨z0,z1,z2,z3⟩:=HC.out w5 HB5.out
    have HP0:=Lh (HPR.out w5 j hlt)
    go_wp2_with fail
    refine HP0.out.mono ?_
    clear HP0 z0 z1 z2 z3
    rintro e w6 ⟨qa,qc,rfl,hq1,hq2,hb6⟩
    have HB6:=Lh (HB5.out.trans (hb6.mono HB5.out.size))
    have HBK:=Lh (HBJ.out.trans (hb6.mono HBJ.out.size))
    have hg5:g+1≤w5.heap.size:=Nat.le_trans HRW.out.lt HBJ.out.size
    have HQ:=Lh (And.intro hq1 (hq2.carry hg5 lz (fun _ _ _=>rfl)))
    have HG6:=Lh (show g+1≤w6.heap.size from Nat.le_trans hg5 hb6.size)
    obtain ⟨np,hnp⟩:∃np,np=(qM k j).length:=⟨_,rfl⟩
    have HNP:=Lh hnp
    rw [← hnp]
    clear hq1 hq2 hb6 hg5 hnp HBJ
    go_upto_region 16 with fail
    obtain ⟨V6,hV6⟩:∃V6:World,V6=w6:=⟨_,rfl⟩
    have HCB:=Lh (show ∀w':World,Below w6.heap.size w6 w'→Calls Tryz.prog 103 #[.slice ia ids.length ic] w' (fun e w2=>∃y,e=.returned y∧dc ids (g+1) w2 y∧Below w'.heap.size w' w2) from fun w' h=>(HCL.out w' (HB.out.trans ((HB6.out.trans (h.mono HB6.out.size)).mono HB.out.size))).mono fun e w2 ⟨y,h1,⟨a',c',h2,h3,h4⟩,h5⟩=>⟨y,h1,⟨a',c',h2,h3,h4.carry (Nat.le_trans HG6.out h.size) lz (fun _ _ _=>rfl)⟩,h5⟩)
    have HYW:=Lh (show ∀w':World,Below w6.heap.size w6 w'→Below W.heap.size W w' from fun w' h=>HB6.out.trans (h.mono HB6.out.size))
    clear hV6
    obtain ⟨V,hV⟩:∃V:List MP,V=[.con (.slice (some ⟨g,0,none⟩) m m),.con (.int .i64 (j:Int)),.con (.string R),.con (.pointer (some ⟨w.heap.size,0,none⟩)),.con (.pointer (some ⟨w.heap.size,0,none⟩)),.con (.int .i64 t),.con (.pointer (some ⟨w.heap.size,0,none⟩)),.con (.pointer (some ⟨w.heap.size,1,none⟩)),.con (.slice ia ids.length ic),.strsL ids (g+1),.authL t ids (g+1),.con (.slice qa np qc),.delL R t ids (.slice qa np qc) (g+1),.con (.pointer (some ⟨g,j * 6,none⟩))]:=⟨_,rfl⟩
    have HV:=Lh hV
    clear hV
    refine zq 14 (fun d a' w'=>∃x49 x50 x51 x52 x53 x54 x55 x56 x57 x58 x59 x60 x61 x62,a'=⟨#[Value.agg #[Value.int IntKind.i64 t,Value.slice ia ids.length ic,Value.int IntKind.i64 (k:Int),Value.string pre],Value.pointer (some { block:=w.heap.size,off:=0 }),u2,u3,Value.int IntKind.i64 0,Value.slice (some { block:=g,off:=0 }) m m,Value.int IntKind.i64 (j:Int),Value.string R,Value.int IntKind.i64 0,Value.slice qa np qc,Value.agg #[Value.int IntKind.i64 t,Value.slice ia ids.length ic,Value.int IntKind.i64 (k:Int),Value.string pre],Value.int IntKind.i64 0,Value.int IntKind.i64 0,Value.bool false,undef,Value.pointer (some { block:=w.heap.size,off:=2 }),Value.int IntKind.i64 (k:Int),Value.int IntKind.u64 (m:Int),Value.bool false,Value.pointer (some { block:=w.heap.size,off:=2 }),Value.int IntKind.i64 (k:Int),Value.int IntKind.i64 (m:Int),Value.slice (some { block:=g,off:=0 }) m m,Value.slice (some { block:=g,off:=0 }) m m,Value.int IntKind.i64 (m:Int),Value.int IntKind.i64 (j:Int),Value.bool true,Value.int IntKind.i64 (j:Int),Value.tuple #[Value.string R,Value.int IntKind.i64 0],Value.agg #[Value.int IntKind.i64 t,Value.slice ia ids.length ic,Value.int IntKind.i64 (k:Int),Value.string pre],Value.int IntKind.i64 (j:Int),Value.int IntKind.u32 (j:Int),Value.tuple #[Value.string R,Value.int IntKind.i64 0],Value.string R,Value.int IntKind.i64 0,Value.int IntKind.i64 0,Value.bool false,u37,Value.tuple #[Value.slice qa np qc,Value.int IntKind.i64 0],Value.pointer (some { block:=w.heap.size,off:=2 }),Value.int IntKind.i64 (k:Int),Value.int IntKind.i64 (j:Int),Value.int IntKind.u32 (j:Int),Value.tuple #[Value.slice qa np qc,Value.int IntKind.i64 0],Value.slice qa np qc,Value.int IntKind.i64 0,Value.int IntKind.i64 0,Value.bool false,u48,x49,x50,x51,x52,x53,x54,x55,x56,x57,x58,x59,x60,x61,x62,u63,undef],[]⟩∧zD w6 V d w' [x49,x50,x51,x52,x53,x54,x55,x56,x57,x58,x59,x60,x61,x62]) (by kernel_rfl) (by kernel_rfl) ?first ?step ?last
    case first=>exact ⟨_,_,_,_,_,_,_,_,_,_,_,_,_,_,rfl,zD.first _ _ _ (by rw [HV.out];rfl)⟩
    case step =>
     rintro d a' w' ⟨x49,x50,x51,x52,x53,x54,x55,x56,x57,x58,x59,x60,x61,x62,rfl,h⟩ q hq hn hw
     rcases q with _|_|_|_|_|_|_|_|_|_|_|_|_|_|q
     · refine wpOp_step rfl fun K hK=>?_
       go_simp
       exact hK _ _ ⟨_,x50,x51,x52,x53,x54,x55,x56,x57,x58,x59,x60,x61,x62,rfl,h.sameC 0 _ HV rfl⟩
     · refine wpOp_step rfl fun K hK=>?_
       go_simp
       exact hK _ _ ⟨x49,_,x51,x52,x53,x54,x55,x56,x57,x58,x59,x60,x61,x62,rfl,h.sameC 1 _ HV rfl⟩
     · refine wpOp_step rfl fun K hK=>?_
       go_simp
       exact hK _ _ ⟨x49,x50,_,x52,x53,x54,x55,x56,x57,x58,x59,x60,x61,x62,rfl,h.sameC 2 _ HV rfl⟩
     · refine wpOp_step rfl fun K hK=>?_
       go_simp
       exact hK _ _ ⟨x49,x50,x51,_,x53,x54,x55,x56,x57,x58,x59,x60,x61,x62,rfl,h.sameC 3 _ HV rfl⟩
     · obtain rfl:=h.con 3 (hw _ rfl ⟨3,.data⟩ (by simp) rfl) HV rfl rfl
       refine wpOp_step rfl fun K hK=>?_
       go_simp
       exact hK _ _ ⟨x49,x50,x51,_,_,x54,x55,x56,x57,x58,x59,x60,x61,x62,rfl,h.sameC 4 _ HV rfl⟩
     · obtain rfl:=h.con 4 (hw _ rfl ⟨4,.data⟩ (by simp) rfl) HV rfl rfl
       obtain ⟨z0,z1,z2,z3⟩:=HC.out w' (HYW.out w' h.1)
       refine wpOp_step rfl fun K hK=>?_
       go_simp
       exact hK _ _ ⟨x49,x50,x51,x52,_,_,x55,x56,x57,x58,x59,x60,x61,x62,rfl,h.sameC 5 _ HV rfl⟩
     · refine wpOp_step rfl fun K hK=>?_
       go_simp
       exact hK _ _ ⟨x49,x50,x51,x52,x53,x54,_,x56,x57,x58,x59,x60,x61,x62,rfl,h.sameC 6 _ HV rfl⟩
     · obtain rfl:=h.con 6 (hw _ rfl ⟨6,.data⟩ (by simp) rfl) HV rfl rfl
       refine wpOp_step rfl fun K hK=>?_
       go_simp
       exact hK _ _ ⟨x49,x50,x51,x52,x53,x54,_,_,x57,x58,x59,x60,x61,x62,rfl,h.sameC 7 _ HV rfl⟩
     · obtain rfl:=h.con 7 (hw _ rfl ⟨7,.data⟩ (by simp) rfl) HV rfl rfl
       obtain ⟨z0,z1,z2,z3⟩:=HC.out w' (HYW.out w' h.1)
       refine wpOp_step rfl fun K hK=>?_
       go_simp
       exact hK _ _ ⟨x49,x50,x51,x52,x53,x54,x55,_,_,x58,x59,x60,x61,x62,rfl,h.sameC 8 _ HV rfl⟩
     · obtain rfl:=h.con 8 (hw _ rfl ⟨8,.data⟩ (by simp) rfl) HV rfl rfl
       obtain ⟨z0,z1,z2,z3⟩:=HC.out w' (HYW.out w' h.1)
       refine wpOp_step rfl fun K hK=>?_
       go_simp
       refine (HCB.out w' h.1).mono ?_
       rintro e w2 ⟨y,rfl,hy,hb2⟩
       exact hK _ _ ⟨x49,x50,x51,x52,x53,x54,x55,x56,_,_,x59,x60,x61,x62,rfl,h.did hb2 9 _ (.strsL ids (g+1)) (by rw [HV.out];rfl) hy⟩
     · obtain rfl:=h.con 5 (hw _ rfl ⟨5,.data⟩ (by simp) rfl) HV rfl rfl
       have hs58:=h.get 9 (hw _ rfl ⟨9,.data⟩ (by simp) rfl) (.strsL ids (g+1)) (by rw [HV.out];rfl) _ rfl
       obtain ⟨a8,c8,rfl,h81,h82⟩:=hs58
       refine wpOp_step rfl fun K hK=>?_
       go_simp
       exact hK _ _ ⟨x49,x50,x51,x52,x53,_,x55,x56,x57,_,_,x60,x61,x62,rfl,h.same 10 _ (.authL t ids (g+1)) (by rw [HV.out];rfl) ⟨_,_,rfl,h81,h82⟩⟩
     · refine wpOp_step rfl fun K hK=>?_
       go_simp
       exact hK _ _ ⟨x49,x50,x51,x52,x53,x54,x55,x56,x57,x58,x59,_,x61,x62,rfl,h.sameC 11 _ HV rfl⟩
     · obtain rfl:=h.con 2 (hw _ rfl ⟨2,.data⟩ (by simp) rfl) HV rfl rfl
       have hs59:=h.get 10 (hw _ rfl ⟨10,.data⟩ (by simp) rfl) (.authL t ids (g+1)) (by rw [HV.out];rfl) _ rfl
       obtain ⟨a8,c8,rfl,h81,h82⟩:=hs59
       obtain rfl:=h.con 11 (hw _ rfl ⟨11,.data⟩ (by simp) rfl) HV rfl rfl
       refine wpOp_step rfl fun K hK=>?_
       go_simp
       exact hK _ _ ⟨x49,x50,_,x52,x53,x54,x55,x56,x57,x58,_,_,_,x62,rfl,h.same 12 _ (.delL R t ids (.slice qa np qc) (g+1)) (by rw [HV.out];rfl) ⟨_,_,rfl,h81,h82⟩⟩
     · obtain rfl:=h.con 0 (hw _ rfl ⟨0,.data⟩ (by simp) rfl) HV rfl rfl
       obtain rfl:=h.con 1 (hw _ rfl ⟨1,.data⟩ (by simp) rfl) HV rfl rfl
       obtain ⟨z0,z1,z2,z3⟩:=HC.out w' (HYW.out w' h.1)
       refine wpOp_step rfl fun K hK=>?_
       go_simp
       exact hK _ _ ⟨_,_,x51,x52,x53,x54,x55,x56,x57,x58,x59,x60,x61,_,rfl,h.sameC 13 _ HV rfl⟩
     · omega
    case last =>
     rintro d a' w' hall ⟨x49,x50,x51,x52,x53,x54,x55,x56,x57,x58,x59,x60,x61,x62,rfl,h⟩
     have hle:=h.1
     obtain rfl:=h.con 13 (hall _ (by omega)) HV rfl rfl
     have hs61:=h.get 12 (hall _ (by omega)) (.delL R t ids (.slice qa np qc) (g+1)) (by rw [HV.out];rfl) _ rfl
     have HLE:=Lh hle
     clear h hall hle HV
     obtain ⟨a9,c9,rfl,h91,h92⟩:=hs61
     have HLB:=Lh (HBK.out.trans (HLE.out.mono HBK.out.size))
     have HBZ:=Lh (HB6.out.trans (HLE.out.mono HB6.out.size))
     have hrw:=qj HLB.out HRW.out HRW.out.lt
     have k0:=hrw.cell (i:=j * 6) (by omega);have k1:=hrw.cell (i:=j * 6+1) (by omega);have k2:=hrw.cell (i:=j * 6+2) (by omega);have k3:=hrw.cell (i:=j * 6+3) (by omega);have k4:=hrw.cell (i:=j * 6+4) (by omega);have k5:=hrw.cell (i:=j * 6+5) (by omega)
     have f0:=hrw.frozen (j * 6);have f1:=hrw.frozen (j * 6+1);have f2:=hrw.frozen (j * 6+2);have f3:=hrw.frozen (j * 6+3);have f4:=hrw.frozen (j * 6+4);have f5:=hrw.frozen (j * 6+5)
     have HRN:=Lh (sk hrw (j * 6) (.string R) (.int .i64 t) (.slice a9 ids.length c9) (.bool true) (.slice none 0 0) (.slice qa np qc))
     obtain ⟨wf,hwf⟩:∃wf,wf=((((((w'.setCell ⟨g,j * 6,none⟩ (.string R)).setCell ⟨g,j * 6+1,none⟩ (.int .i64 t)).setCell ⟨g,j * 6+2,none⟩ (.slice a9 ids.length c9)).setCell ⟨g,j * 6+3,none⟩ (.bool true)).setCell ⟨g,j * 6+4,none⟩ (.slice none 0 0)).setCell ⟨g,j * 6+5,none⟩ (.slice qa np qc)):=⟨_,rfl⟩
     have HTO:=Lh (show Touch (fun b=>b=g) w' wf from by rw [hwf];exact cX)
     rw [← hwf] at HRN
     have HWF:=Lh hwf
     have H92:=Lh (And.intro h91 h92)
     clear hrw hwf h91 h92
     go_wp2
     rw [← HWF.out]
     clear k0 k1 k2 k3 k4 k5 f0 f1 f2 f3 f4 f5 HWF
     go_roundw
     case rel =>
      have hzf:w'.heap.size≤wf.heap.size:=HTO.out.size
      have hst:∀b,g+1≤b→b<w'.heap.size→wf.heap[b]?=w'.heap[b]?:=fun b h1 h2=>HTO.out.block b h2 (by omega)
      refine ⟨j+1,_,by omega,by go_num,HRN.out,fun q hq=>?_,HBZ.out.trans (HTO.out.below HBZ.out.size (fun b hb=>by have:=HGE.out;omega))⟩
      by_cases e:q=j
      · subst e
        obtain ⟨n0,n1,n2,n3,n4,n5⟩:=sy (f:=f) (o:=q * 6) (v0:=.string R) (v1:=.int .i64 t) (v2:=.slice a9 ids.length c9) (v3:=.bool true) (v4:=.slice none 0 0) (v5:=.slice qa np qc)
        refine ⟨a9,c9,qa,qc,?_,?_,?_,?_,?_,?_,H92.out.1,HQ.out.1,H92.out.2.carry lz hzf hst,HQ.out.2.carry lz (Nat.le_trans HLE.out.size hzf) (fun b h1 h2=>(hst b h1 (Nat.lt_of_lt_of_le h2 HLE.out.size)).trans (HLE.out.block b h2))⟩
        · exact n0.trans (congrArg Value.string HRR.out)
        · exact n1
        · exact n2
        · exact n3
        · exact n4
        · exact n5.trans (congrArg (fun z=>Value.slice qa z qc) HNP.out)
      · have hqj:q<j:=by omega
        refine ((HAL.out q hqj).stay HLB.out.size (fun b h1 h2=>HLB.out.block b h2) (fun i _=>rfl)).stay hzf hst (fun i hi=>sw (by omega))
     case measure=>simp [intOf];omega
  · obtain rfl:j=m:=by omega
    have m1:decide ((j:Int)<(j:Int))=false:=by simp
    have HRE:=Lh (show qI wr w.heap.size wr.heap.size (some ⟨g,0,none⟩) (zc ⟨(k:Int),pre,⟨t,ids⟩⟩) from .inr ⟨g,0,rfl,Nat.le_trans HB.out.size HGE.out,hrow.lt,fun i hi=>by
     have hij:i<j:=by rw [← HL.out];exact hi
     have cc:∀q,q<6→wr.cell? ⟨g,0+i * 6+q,none⟩=some (f (i * 6+q)):=fun q hq=>by
      rw [Nat.zero_add]
      exact hrow.cell (by omega)
     obtain ⟨ia',ic',qa,qc,c0,c1,c2,c3,c4,c5,l1,l2,s1,s2⟩:=HAL.out i hij
     have hlo:w.heap.size≤g+1:=Nat.le_succ_of_le (Nat.le_trans HB.out.size HGE.out)
     rw [HG.out i hi]
     exact ⟨ia',ic',none,0,qa,qc,(cc 0 (by omega)).trans (congrArg some c0),(cc 1 (by omega)).trans (congrArg some c1),(cc 2 (by omega)).trans (congrArg some c2),(cc 3 (by omega)).trans (congrArg some c3),(cc 4 (by omega)).trans (congrArg some c4),(cc 5 (by omega)).trans (congrArg some c5),l1,Nat.le_refl _,l2,⟨s1.carry hlo lz (fun _ _ _=>rfl),.inl rfl,s2.carry hlo lz (fun _ _ _=>rfl)⟩⟩⟩)
    clear hrow hbel
    go_wp2
    go_ret2
    exact ⟨some ⟨g,0,none⟩,j,by rw [HL.out];rfl,Nat.le_of_eq HL.out,HRE.out,HB.out.trans (HBR.out.mono HB.out.size)⟩
end Go.Proofs.YthgembbgcbaghaaGreatDoor
