/- root.Of of a value of the call's own, only its error named. -/
import Derived.Test.YtnlgmcapbbgelaaGreatDoorRx38
import Derived.Test.YtnlgmcapbbgelaaGreatDoorRx41

namespace Go.Proofs.YtnlgmcapbbgelaaGreatDoor
open Go.RowKit Go.Shelf Go.Sort
def gT (u:JV) (st:PS):PS:=if (qy u zK st).1≠qo then (qy u zK st).2.fail 13 else (qy u zK st).2
def gB (u:JV) (st:PS):Int × PS:=qB u xq 1 1099511627776 (gT u st)
def gC (u:JV) (st:PS):ByteArray × PS:=qy u xz (gB u st).2
def gR (u:JV) (st:PS):Int × Int:=xD (gC u st).1.data.toList
def gK (u:JV) (st:PS):JV × PS:=qv u zm 32 ((gC u st).2.fail (gR u st).2)
def gL (u:JV) (st:PS):List Key2 × Int:=zL (gK u st).1
def gO (u:JV) (st:PS):JV × PS:=qv u xb 8192 ((gK u st).2.fail (gL u st).2)
def gA (u:JV) (st:PS):Auth3 × Int:=zH (gO u st).1
def gF (u:JV) (st:PS):PS:=(gO u st).2.fail (gA u st).2
def u5 (u:JV) (st:PS):RootV × Int:=if qf u (gF u st)≠0 then (jV,qf u (gF u st)) else (⟨(gB u st).1,(gR u st).1,(gL u st).1,(gA u st).1⟩,0)
def ko (r:RootV × Int) (w:World) (e:Ending) (w':World):Prop :=
 ∃ka kc j1 c1 j2 c2 j3 c3,e=.returned (.tuple #[.agg #[.int .i64 r.1.ver,.int .i64 r.1.exp,.slice ka r.1.keys.length kc,.int .i64 r.1.au.a.thr,.slice j1 r.1.au.a.ids.length c1,.int .i64 r.1.au.b.thr,.slice j2 r.1.au.b.ids.length c2,.int .i64 r.1.au.c.thr,.slice j3 r.1.au.c.ids.length c3],.int .i64 r.2])∧RootIn w' w.heap.size w'.heap.size r.1 ka j1 j2 j3∧Below w.heap.size w w'
theorem kS {er:Int} {w w':World} (hb:Below w.heap.size w w'):ko (jV,er) w (.returned (.tuple #[.agg #[.int .i64 0,.int .i64 0,.slice none 0 0,.int .i64 0,.slice none 0 0,.int .i64 0,.slice none 0 0,.int .i64 0,.slice none 0 0],.int .i64 er])) w' :=
 ⟨none,0,none,0,none,0,none,0,rfl,⟨.inl rfl,.inl rfl,.inl rfl,.inl rfl⟩,hb⟩
def lw (C:JV→Prop) (st:PS) (mb:Bool) (w:World) (e:Ending) (w':World):Prop:=(mb=false∧ko (jV,3) w e w')∨(mb=true∧∃u,C u∧ko (u5 u st) w e w')
theorem fq:qo.toList=[114,111,111,116]:=by rw [ByteArray.toList_eq];rfl
theorem vv {st:PS} {e:Int}:(st.fail e).asked.length=st.asked.length:=by rw [ju]
theorem tv (u:JV) (st:PS) (h:st.asked.length≤1000):(gT u st).asked.length≤1001∧(gB u st).2.asked.length≤1002∧(gC u st).2.asked.length≤1003∧(gK u st).2.asked.length≤1004:=by
 have h1:(gT u st).asked.length≤1001:=by
  have:=ub (v:=u) (y:=zK) (st:=st)
  unfold gT;split
  · rw [ju];omega
  · omega
 have h2:=lT (v:=u) (y:=xq) (l:=1) (h:=1099511627776) (st:=gT u st)
 have h3:=ub (v:=u) (y:=xz) (st:=(gB u st).2)
 have h4:=cW (v:=u) (y:=zm) (most:=32) (st:=(gC u st).2.fail (gR u st).2)
 rw [ju] at h4
 have e2:(gB u st).2.asked.length≤1002:=by unfold gB;omega
 have e3:(gC u st).2.asked.length≤1003:=by unfold gC;omega
 exact ⟨h1,e2,e3,by unfold gK;omega⟩
set_option maxHeartbeats 4000000 in
set_option maxRecDepth 100000 in
theorem cP (C:JV→Prop) (st:PS) (v:JV) (x:Value) (w:World) (hN:v.wt≤4294967296) (hR:Rep w 0 w.heap.size v x) (ha:st.asked.length≤1000) (hT:Tabs w) (hTW:TabW w) (hTP:TopsW w)
 (hC:∀u,C u→(gO u st).1.kind=5→ql (gO u st).1.names=true∧(gO u st).1.names.length=(gO u st).1.items.length) (hOf:v.mayB=true→∀w1,Below w.heap.size w w1→Calls Tryz.prog 52 #[x] w1 (yC C st w1)) :
 Calls Tryz.prog 13 #[x] w (lw C st v.mayB w):=by
 obtain ⟨an,cn,ai,ci,hx,h1,h2,h3,h4⟩:=hR.parts
 clear h1 h2 h3 h4
 subst hx
 have HOF:=Lh hOf
 obtain ⟨W,hW⟩:∃W,W=(w.alloc (.cells #[.int .u8 v.kind,.int .i64 v.n,.string v.t,.slice an v.names.length cn,.slice ai v.items.length ci] 25)).alloc (.cells #[.int .i64 0,.int .i64 0,.slice none 0 0,.int .i64 0,.slice none 0 0,.int .i64 0,.slice none 0 0,.int .i64 0,.slice none 0 0] 32):=⟨_,rfl⟩
 have hz1:(w.alloc (.cells #[.int .u8 v.kind,.int .i64 v.n,.string v.t,.slice an v.names.length cn,.slice ai v.items.length ci] 25)).heap.size=w.heap.size+1:=by simp
 have hb:Below w.heap.size w W:=by rw [hW];exact ((Below.refl _ _).alloc lz _).alloc (by simp) _
 have hx0:W.heap[w.heap.size]?=some (.cells #[.int .u8 v.kind,.int .i64 v.n,.string v.t,.slice an v.names.length cn,.slice ai v.items.length ci] 25 (0,0)):=by rw [hW];exact xG w _ _
 have hr0:W.rowIs (w.heap.size+1) 32 9 (qR (.int .i64 0) (.int .i64 0) (.slice none 0 0) (.int .i64 0) (.slice none 0 0) (.int .i64 0) (.slice none 0 0) (.int .i64 0) (.slice none 0 0)):=by
  have:=vP (w.alloc (.cells #[.int .u8 v.kind,.int .i64 v.n,.string v.t,.slice an v.names.length cn,.slice ai v.items.length ci] 25)) (.int .i64 0) (.int .i64 0) (.slice none 0 0) (.int .i64 0) (.slice none 0 0) (.int .i64 0) (.slice none 0 0) (.int .i64 0) (.slice none 0 0) 32
  rw [hz1,← hW] at this
  exact this
 have HMY:=Lh (kP v _ W hN (hR.below hb lz (Nat.zero_le _) hb.size))
 obtain ⟨mb,hmb⟩:∃mb,mb=v.mayB:=⟨_,rfl⟩
 rw [← hmb] at HMY HOF ⊢
 have HB:=Lh hb
 have HX0:=Lh hx0
 have HR0:=Lh hr0
 have HW:=Lh hW
 have HA:=Lh ha
 have HCC:=Lh hC
 have HTB:=Lh (show ∀w':World,Below w.heap.size w w'→Tabs w'∧TabW w'∧TopsW w' from fun w' h=>⟨hT.below h,hTW.below h,hTP.below h⟩)
 clear hOf hW hz1 hb hx0 hr0 hR hmb hN ha hC hT hTW hTP
 obtain ⟨c0,c1,c2,c3,c4⟩:=bx5 HX0.out
 go_enter Tryz.func13,Tryz.ntmps13
 go_upto_region 1 with fail
 rw [← HW.out]
 clear HW
 go_wp2_with fail
 refine HMY.out.mono ?_
 clear HMY c0 c1 c2 c3 c4
 rintro e w1 ⟨rfl,hb1⟩
 have HX1:=Lh ((hb1.block _ (qz HX0.out)).trans HX0.out)
 have hr1:=qx hb1 HR0.out HR0.out.lt
 have HR1:=Lh hr1
 have HB1:=Lh (HB.out.trans (hb1.mono HB.out.size))
 have HZ1:=Lh (show w.heap.size+2≤w1.heap.size from hr1.lt)
 clear hb1
 cases mb with
 | false =>
  obtain ⟨t0,t1,t2,t3,t4⟩:=rc5 hr1;have t5:=hr1.cell (i:=5) (by decide);have t6:=hr1.cell (i:=6) (by decide);have t7:=hr1.cell (i:=7) (by decide);have t8:=hr1.cell (i:=8) (by decide)
  obtain ⟨s0,s1,s2,s3,s4⟩:=rf5 hr1;have s5:=hr1.frozen 5;have s6:=hr1.frozen 6;have s7:=hr1.frozen 7;have s8:=hr1.frozen 8
  simp only [qR] at t0 t1 t2 t3 t4 t5 t6 t7 t8
  clear hr1
  go_wp2
  refine bodyPost_ret (qj Tryz.results13 _ _ (w.heap.size+1) 32 _ (0,0) _ rfl (xO (cO _ _ _ _ _ _ _ _ _ HR1.out)) Tryz.underlying32 rfl (by kernel_rfl) _ rfl) rfl ?_
  exact .inl ⟨rfl,kS (wD _ _ _ _ _ _ _ _ _ HB1.out (by omega))⟩
 | true =>
  have HOF1:=Lh (HOF.out rfl w1 HB1.out)
  obtain ⟨c0,c1,c2,c3,c4⟩:=bx5 HX1.out
  clear hr1
  go_wp2_with fail
  refine HOF1.out.mono ?_
  clear HOF HOF1 c0 c1 c2 c3 c4 HX0 HX1 HR0 HB
  rintro e w2 ⟨u,o,m,lo,hi,an2,ai2,cn2,ci2,hC,hu,rfl,hp2,ho2,hm2,hb2⟩
  have HC:=Lh hC
  have HCO:=Lh (HCC.out u hC)
  have HU:=Lh hu
  have hlt:=hp2.lt
  have HLN:=Lh (tv u st HA.out)
  obtain ⟨p,hpp⟩:∃p,p=w2.heap.size:=⟨_,rfl⟩
  obtain ⟨W3,hW3⟩:∃W3,W3=w2.alloc (.cells #[.int .i64 0,.int .i64 0,.slice none 0 0,.int .i64 0,.slice none 0 0,.int .i64 0,.slice none 0 0,.int .i64 0,.slice none 0 0] 32):=⟨_,rfl⟩
  have hb3:Below w2.heap.size w2 W3:=by rw [hW3];exact (Below.refl _ _).alloc lz _
  have hq3:W3.rowIs p 32 9 (qR (.int .i64 0) (.int .i64 0) (.slice none 0 0) (.int .i64 0) (.slice none 0 0) (.int .i64 0) (.slice none 0 0) (.int .i64 0) (.slice none 0 0)):=by rw [hW3,hpp];exact vP _ _ _ _ _ _ _ _ _ _ _
  have HN:=Lh (show p≠o∧p≠m∧hi≤p∧w.heap.size+2≤o∧w.heap.size+2≤m∧w.heap.size+2≤p∧p<W3.heap.size∧o<W3.heap.size∧m<W3.heap.size from by
   have h1:=hb2.size;have h2:=hq3.lt;have h3:=HZ1.out;have h4:=hb3.size;omega)
  have HP:=Lh (hp2.below hb3)
  have HR:=Lh (qx (hb2.trans (hb3.mono hb2.size)) HR1.out HR1.out.lt)
  have HB:=Lh (HB1.out.trans ((hb2.trans (hb3.mono hb2.size)).mono HB1.out.size))
  have HQ:=Lh hq3
  have HZ:=Lh (Nat.le_refl W3.heap.size)
  have HW3:=Lh hW3
  have HPE:=Lh hpp
  have HGT:=Lh (show gT u st=if (qy u zK st).1≠qo then (qy u zK st).2.fail 13 else (qy u zK st).2 from rfl)
  have HTX:=Lh (rq zK HP.out (by decide) (by have:=HA.out;omega))
  obtain ⟨T,hT⟩:∃T,T=qy u zK st:=⟨_,rfl⟩
  rw [← hT] at HTX HGT
  clear hC hu hlt hp2 ho2 hm2 hb2 hb3 hq3 hW3 hpp HR1 HB1 hT HCC
  obtain ⟨tt,S1⟩:=T
  dsimp only at HTX HGT
  go_upto_region 6 with fail
  rw [← HW3.out,← HPE.out]
  clear HPE HW3
  go_wp2_with fail
  refine HTX.out.mono ?_
  clear HTX
  rintro e w4 ⟨rfl,hp',ht'⟩
  replace HP:=Lh hp'
  replace HR:=Lh (ht'.row HR.out (by have:=HN.out;omega))
  replace HQ:=Lh (ht'.row HQ.out (by have:=HN.out;omega))
  replace HB:=Lh (HB.out.trans (ht'.below (by have:=HB.out.size;omega) fun k hk e=>by have:=HN.out;omega))
  replace HZ:=Lh (Nat.le_trans HZ.out ht'.size)
  clear hp' ht'
  by_cases hc:tt=qo
  · have hcc:(tt.toList == [114,111,111,116])=true:=by rw [← fq,ba_eq,decide_eq_true_eq];exact hc
    rw [if_neg (by simp [hc])] at HGT
    rw [← HGT.out] at HP
    clear hc HGT
    have HNU:=Lh (nG xq 1 1099511627776 HP.out (by decide) (by have:=HLN.out.1;omega))
    rw [show qB u xq 1 1099511627776 (gT u st)=gB u st from rfl] at HNU
    have HC1:=Lh (show gC u st=qy u xz (gB u st).2 from rfl)
    have HG1:=Lh (show u5 u st=if qf u (gF u st)≠0 then (jV,qf u (gF u st)) else (⟨(gB u st).1,(gR u st).1,(gL u st).1,(gA u st).1⟩,0) from rfl)
    have HL1:=Lh HLN.out.2.1
    obtain ⟨GB,hGB⟩:∃GB,GB=gB u st:=⟨_,rfl⟩
    rw [← hGB] at HNU HC1 HG1 HL1
    clear hGB
    obtain ⟨ver,SB⟩:=GB
    dsimp only at HNU HC1 HG1 HL1
    go_wp2_with fail
    refine HNU.out.mono ?_
    clear HNU
    rintro e w5 ⟨rfl,hp',ht'⟩
    replace HP:=Lh hp'
    replace HR:=Lh (ht'.row HR.out (by have:=HN.out;omega))
    replace HQ:=Lh (ht'.row HQ.out (by have:=HN.out;omega))
    replace HB:=Lh (HB.out.trans (ht'.below (by have:=HB.out.size;omega) fun k hk e=>by have:=HN.out;omega))
    replace HZ:=Lh (Nat.le_trans HZ.out ht'.size)
    clear hp' ht'
    have e0:=HQ.out.cell (i:=0) (by decide)
    have f0:=HQ.out.frozen 0
    simp only [qR] at e0
    obtain ⟨W6,hW6⟩:∃W6,W6=w5.setCell ⟨p,0,none⟩ (.int .i64 ver):=⟨_,rfl⟩
    have hput:Touch (fun b=>b=p) w5 W6:=by rw [hW6];exact (Touch.refl _ _).trans (qr _)
    replace HQ:=Lh (show W6.rowIs p 32 9 (qR (.int .i64 ver) (.int .i64 0) (.slice none 0 0) (.int .i64 0) (.slice none 0 0) (.int .i64 0) (.slice none 0 0) (.int .i64 0) (.slice none 0 0)) from by
     rw [hW6]
     refine (HQ.out.set 0 _).congr fun j hj=>?_
     rcases j with _|_|_|_|_|_|_|_|_|j <;> first|rfl|omega)
    replace HP:=Lh (HP.out.touch hput HN.out.1 HN.out.2.1 HN.out.2.2.1)
    replace HR:=Lh (hput.row HR.out (by have:=HN.out;omega))
    replace HB:=Lh (HB.out.trans (hput.below (by have:=HB.out.size;omega) fun k hk e=>by have:=HN.out;omega))
    replace HZ:=Lh (Nat.le_trans HZ.out hput.size)
    have HW6:=Lh hW6
    clear hput hW6
    go_upto_region 9 with fail
    rw [← HW6.out]
    clear HW6 e0 f0
    have HTE:=Lh (rq xz HP.out (by decide) (by have:=HL1.out;omega))
    rw [← HC1.out] at HTE
    have HR1:=Lh (show gR u st=xD (gC u st).1.data.toList from rfl)
    have HK1:=Lh (show gK u st=qv u zm 32 ((gC u st).2.fail (gR u st).2) from rfl)
    have HL2:=Lh HLN.out.2.2.1
    obtain ⟨GC,hGC⟩:∃GC,GC=gC u st:=⟨_,rfl⟩
    rw [← hGC] at HTE HR1 HK1 HL2
    clear hGC HC1
    obtain ⟨et,SC⟩:=GC
    dsimp only at HTE HR1 HK1 HL2
    go_wp2_with fail
    refine HTE.out.mono ?_
    clear HTE
    rintro e w7 ⟨rfl,hp',ht'⟩
    replace HP:=Lh hp'
    replace HR:=Lh (ht'.row HR.out (by have:=HN.out;omega))
    replace HQ:=Lh (ht'.row HQ.out (by have:=HN.out;omega))
    replace HB:=Lh (HB.out.trans (ht'.below (by have:=HB.out.size;omega) fun k hk e=>by have:=HN.out;omega))
    replace HZ:=Lh (Nat.le_trans HZ.out ht'.size)
    clear hp' ht'
    have HRD:=Lh (uE et w7 (HTB.out w7 HB.out).2.1)
    rw [← HR1.out] at HRD
    obtain ⟨GR,hGR⟩:∃GR,GR=gR u st:=⟨_,rfl⟩
    rw [← hGR] at HRD HK1 HG1
    clear hGR HR1
    obtain ⟨rd,re⟩:=GR
    dsimp only at HRD HK1 HG1
    go_wp2_with fail
    refine HRD.out.mono ?_
    clear HRD
    rintro e w8 ⟨rfl,hb'⟩
    replace HP:=Lh (HP.out.below hb')
    replace HR:=Lh (qx hb' HR.out HR.out.lt)
    replace HQ:=Lh (qx hb' HQ.out HQ.out.lt)
    replace HB:=Lh (HB.out.trans (hb'.mono HB.out.size))
    replace HZ:=Lh (Nat.le_trans HZ.out hb'.size)
    clear hb'
    have e1:=HQ.out.cell (i:=1) (by decide)
    have f1:=HQ.out.frozen 1
    simp only [qR] at e1
    obtain ⟨W9,hW9⟩:∃W9,W9=w8.setCell ⟨p,1,none⟩ (.int .i64 rd):=⟨_,rfl⟩
    have hput:Touch (fun b=>b=p) w8 W9:=by rw [hW9];exact (Touch.refl _ _).trans (qr _)
    replace HQ:=Lh (show W9.rowIs p 32 9 (qR (.int .i64 ver) (.int .i64 rd) (.slice none 0 0) (.int .i64 0) (.slice none 0 0) (.int .i64 0) (.slice none 0 0) (.int .i64 0) (.slice none 0 0)) from by
     rw [hW9]
     refine (HQ.out.set 1 _).congr fun j hj=>?_
     rcases j with _|_|_|_|_|_|_|_|_|j <;> first|rfl|omega)
    replace HP:=Lh (HP.out.touch hput HN.out.1 HN.out.2.1 HN.out.2.2.1)
    replace HR:=Lh (hput.row HR.out (by have:=HN.out;omega))
    replace HB:=Lh (HB.out.trans (hput.below (by have:=HB.out.size;omega) fun k hk e=>by have:=HN.out;omega))
    replace HZ:=Lh (Nat.le_trans HZ.out hput.size)
    have HW9:=Lh hW9
    clear hput hW9
    go_upto_region 10 with fail
    rw [← HW9.out]
    clear HW9 e1 f1
    go_wp2_with fail
    refine (jT re HP.out).mono ?_
    rintro e w10 ⟨rfl,hp',ht'⟩
    replace HP:=Lh hp'
    replace HR:=Lh (ht'.row HR.out (by have:=HN.out;omega))
    replace HQ:=Lh (ht'.row HQ.out (by have:=HN.out;omega))
    replace HB:=Lh (HB.out.trans (ht'.below (by have:=HB.out.size;omega) fun k hk e=>by have:=HN.out;omega))
    replace HZ:=Lh (Nat.le_trans HZ.out ht'.size)
    clear hp' ht'
    have HOK:=Lh (g9 zm 32 HP.out (by decide) (by rw [vv];have:=HL2.out;omega))
    unfold fs at HOK
    rw [← HK1.out] at HOK
    have HWK:=Lh (show (gK u st).1.wt≤4294967296 by rw [HK1.out];exact xj HU.out)
    have HLL:=Lh (show gL u st=zL (gK u st).1 from rfl)
    have HO1:=Lh (show gO u st=qv u xb 8192 ((gK u st).2.fail (gL u st).2) from rfl)
    have HL3:=Lh HLN.out.2.2.2
    obtain ⟨GK,hGK⟩:∃GK,GK=gK u st:=⟨_,rfl⟩
    rw [← hGK] at HOK HWK HLL HO1 HL3
    clear hGK HK1
    obtain ⟨KJ,SK⟩:=GK
    dsimp only at HOK HWK HLL HO1 HL3
    go_wp2_with fail
    refine HOK.out.mono ?_
    clear HOK
    rintro e w11 ⟨⟨an5,cn5,ai5,ci5,rfl,hr5⟩,hp',ht'⟩
    have HKY:=Lh (uO KJ _ w11 w10.heap.size (Nat.lt_of_le_of_lt (Nat.zero_le _) HR.out.lt) HWK.out hr5 (HTB.out w11 (HB.out.trans (ht'.below (by have:=HB.out.size;omega) fun k hk e=>by have:=HN.out;omega))).1)
    clear hr5
    replace HP:=Lh hp'
    replace HR:=Lh (ht'.row HR.out (by have:=HN.out;omega))
    replace HQ:=Lh (ht'.row HQ.out (by have:=HN.out;omega))
    replace HB:=Lh (HB.out.trans (ht'.below (by have:=HB.out.size;omega) fun k hk e=>by have:=HN.out;omega))
    replace HZ:=Lh (Nat.le_trans HZ.out ht'.size)
    clear hp' ht'
    unfold bY at HKY
    rw [← HLL.out] at HKY
    obtain ⟨GL,hGL⟩:∃GL,GL=gL u st:=⟨_,rfl⟩
    rw [← hGL] at HKY HO1 HG1
    clear hGL HLL
    obtain ⟨kl,ke⟩:=GL
    dsimp only at HKY HO1 HG1
    go_wp2_with fail
    refine HKY.out.mono ?_
    clear HKY
    rintro e w12 ⟨kv,rfl,ho',hb'⟩
    obtain ⟨ka,kc,rfl,hk'⟩:=wC ho' rfl
    have HKR:=Lh (show zY w12 W3.heap.size w12.heap.size ka kl from hk'.carry HZ.out lz (fun _ _ _=>rfl))
    clear ho' hk'
    replace HP:=Lh (HP.out.below hb')
    replace HR:=Lh (qx hb' HR.out HR.out.lt)
    replace HQ:=Lh (qx hb' HQ.out HQ.out.lt)
    replace HB:=Lh (HB.out.trans (hb'.mono HB.out.size))
    replace HZ:=Lh (Nat.le_trans HZ.out hb'.size)
    clear hb'
    have e2:=HQ.out.cell (i:=2) (by decide)
    have f2:=HQ.out.frozen 2
    simp only [qR] at e2
    obtain ⟨W13,hW13⟩:∃W13,W13=w12.setCell ⟨p,2,none⟩ (.slice ka kl.length kc):=⟨_,rfl⟩
    have hput:Touch (fun b=>b=p) w12 W13:=by rw [hW13];exact (Touch.refl _ _).trans (qr _)
    replace HQ:=Lh (show W13.rowIs p 32 9 (qR (.int .i64 ver) (.int .i64 rd) (.slice ka kl.length kc) (.int .i64 0) (.slice none 0 0) (.int .i64 0) (.slice none 0 0) (.int .i64 0) (.slice none 0 0)) from by
     rw [hW13]
     refine (HQ.out.set 2 _).congr fun j hj=>?_
     rcases j with _|_|_|_|_|_|_|_|_|j <;> first|rfl|omega)
    replace HP:=Lh (HP.out.touch hput HN.out.1 HN.out.2.1 HN.out.2.2.1)
    replace HR:=Lh (hput.row HR.out (by have:=HN.out;omega))
    replace HB:=Lh (HB.out.trans (hput.below (by have:=HB.out.size;omega) fun k hk e=>by have:=HN.out;omega))
    replace HZ:=Lh (Nat.le_trans HZ.out hput.size)
    replace HKR:=Lh (HKR.out.carry lz hput.size (fun b h1 h2=>hput.block b h2 (by have:=HN.out;omega)))
    have HW13:=Lh hW13
    clear hput hW13
    go_upto_region 12 with fail
    rw [← HW13.out]
    clear HW13 e2 f2
    go_wp2_with fail
    refine (jT ke HP.out).mono ?_
    rintro e w14 ⟨rfl,hp',ht'⟩
    replace HP:=Lh hp'
    replace HR:=Lh (ht'.row HR.out (by have:=HN.out;omega))
    replace HQ:=Lh (ht'.row HQ.out (by have:=HN.out;omega))
    replace HB:=Lh (HB.out.trans (ht'.below (by have:=HB.out.size;omega) fun k hk e=>by have:=HN.out;omega))
    replace HZ:=Lh (Nat.le_trans HZ.out ht'.size)
    replace HKR:=Lh (HKR.out.carry lz ht'.size (fun b h1 h2=>ht'.block b h2 (by have:=HN.out;omega)))
    clear hp' ht'
    have HOR:=Lh (g9 xb 8192 HP.out (by decide) (by rw [vv];have:=HL3.out;omega))
    unfold fs at HOR
    rw [← HO1.out] at HOR
    have HWO:=Lh (show (gO u st).1.wt≤4294967296 by rw [HO1.out];exact xj HU.out)
    have HAA:=Lh (show gA u st=zH (gO u st).1 from rfl)
    have HF1:=Lh (show gF u st=(gO u st).2.fail (gA u st).2 from rfl)
    obtain ⟨GO,hGO⟩:∃GO,GO=gO u st:=⟨_,rfl⟩
    rw [← hGO] at HOR HWO HAA HF1 HCO
    clear hGO HO1
    obtain ⟨OJ,SO⟩:=GO
    dsimp only at HOR HWO HAA HF1 HCO
    go_wp2_with fail
    refine HOR.out.mono ?_
    clear HOR
    rintro e w15 ⟨⟨an6,cn6,ai6,ci6,rfl,hr6⟩,hp',ht'⟩
    have HRO:=Lh (yW OJ _ w15 w14.heap.size (by have:=HZ.out;have:=HN.out;omega) HWO.out hr6 HCO.out (HTB.out w15 (HB.out.trans (ht'.below (by have:=HB.out.size;omega) fun k hk e=>by have:=HN.out;omega))).2.2)
    clear hr6
    replace HP:=Lh hp'
    replace HR:=Lh (ht'.row HR.out (by have:=HN.out;omega))
    replace HQ:=Lh (ht'.row HQ.out (by have:=HN.out;omega))
    replace HB:=Lh (HB.out.trans (ht'.below (by have:=HB.out.size;omega) fun k hk e=>by have:=HN.out;omega))
    replace HZ:=Lh (Nat.le_trans HZ.out ht'.size)
    replace HKR:=Lh (HKR.out.carry lz ht'.size (fun b h1 h2=>ht'.block b h2 (by have:=HN.out;omega)))
    clear hp' ht'
    unfold yj at HRO
    rw [← HAA.out] at HRO
    obtain ⟨GA,hGA⟩:∃GA,GA=gA u st:=⟨_,rfl⟩
    rw [← hGA] at HRO HF1 HG1
    clear hGA HAA
    obtain ⟨⟨X,Y,Z⟩,ae⟩:=GA
    dsimp only at HRO HF1 HG1
    go_wp2_with fail
    refine HRO.out.mono ?_
    clear HRO
    rintro e w16 ⟨j1,c1,j2,c2,j3,c3,rfl,hs1,hs2,hs3,hb'⟩
    have HS1:=Lh (show qk w16 W3.heap.size w16.heap.size j1 X.ids from hs1.carry HZ.out lz (fun _ _ _=>rfl))
    have HS2:=Lh (show qk w16 W3.heap.size w16.heap.size j2 Y.ids from hs2.carry HZ.out lz (fun _ _ _=>rfl))
    have HS3:=Lh (show qk w16 W3.heap.size w16.heap.size j3 Z.ids from hs3.carry HZ.out lz (fun _ _ _=>rfl))
    clear hs1 hs2 hs3
    replace HP:=Lh (HP.out.below hb')
    replace HR:=Lh (qx hb' HR.out HR.out.lt)
    replace HQ:=Lh (qx hb' HQ.out HQ.out.lt)
    replace HB:=Lh (HB.out.trans (hb'.mono HB.out.size))
    replace HZ:=Lh (Nat.le_trans HZ.out hb'.size)
    replace HKR:=Lh (HKR.out.below hb' lz lz hb'.size)
    clear hb'
    obtain ⟨q,hq⟩:∃q,q=w16.heap.size:=⟨_,rfl⟩
    obtain ⟨W17,hW17⟩:∃W17,W17=w16.alloc (.cells #[.int .i64 X.thr,.slice j1 X.ids.length c1,.int .i64 Y.thr,.slice j2 Y.ids.length c2,.int .i64 Z.thr,.slice j3 Z.ids.length c3] 89):=⟨_,rfl⟩
    have hb':Below w16.heap.size w16 W17:=by rw [hW17];exact (Below.refl _ _).alloc lz _
    have hx':W17.heap[q]?=some (.cells #[.int .i64 X.thr,.slice j1 X.ids.length c1,.int .i64 Y.thr,.slice j2 Y.ids.length c2,.int .i64 Z.thr,.slice j3 Z.ids.length c3] 89 (0,0)):=by rw [hW17,hq];exact heap_alloc_new w16 _
    have HNQ:=Lh (show q≠p∧q≠o∧q≠m by have h1:=HN.out;have h2:=HZ.out;omega)
    have HXQ:=Lh hx'
    replace HP:=Lh (HP.out.below hb')
    replace HR:=Lh (qx hb' HR.out HR.out.lt)
    replace HQ:=Lh (qx hb' HQ.out HQ.out.lt)
    replace HB:=Lh (HB.out.trans (hb'.mono HB.out.size))
    replace HZ:=Lh (Nat.le_trans HZ.out hb'.size)
    replace HKR:=Lh (HKR.out.below hb' lz lz hb'.size)
    replace HS1:=Lh (HS1.out.below hb' lz lz hb'.size)
    replace HS2:=Lh (HS2.out.below hb' lz lz hb'.size)
    replace HS3:=Lh (HS3.out.below hb' lz lz hb'.size)
    have HW17:=Lh hW17
    have HQE:=Lh hq
    clear hb' hx' hW17 hq
    go_upto_region 14 with fail
    rw [← HW17.out,← HQE.out]
    clear HW17 HQE
    go_wp2_with fail
    refine (jT ae HP.out).mono ?_
    rintro e w18 ⟨rfl,hp',ht'⟩
    have hxq:=(ht'.block q (qz HXQ.out) (by have:=HNQ.out;omega)).trans HXQ.out
    rw [← HF1.out] at hp'
    replace HP:=Lh hp'
    replace HR:=Lh (ht'.row HR.out (by have:=HN.out;omega))
    replace HQ:=Lh (ht'.row HQ.out (by have:=HN.out;omega))
    replace HB:=Lh (HB.out.trans (ht'.below (by have:=HB.out.size;omega) fun k hk e=>by have:=HN.out;omega))
    replace HZ:=Lh (Nat.le_trans HZ.out ht'.size)
    replace HKR:=Lh (HKR.out.carry lz ht'.size (fun b h1 h2=>ht'.block b h2 (by have:=HN.out;omega)))
    replace HS1:=Lh (HS1.out.carry lz ht'.size (fun b h1 h2=>ht'.block b h2 (by have:=HN.out;omega)))
    replace HS2:=Lh (HS2.out.carry lz ht'.size (fun b h1 h2=>ht'.block b h2 (by have:=HN.out;omega)))
    replace HS3:=Lh (HS3.out.carry lz ht'.size (fun b h1 h2=>ht'.block b h2 (by have:=HN.out;omega)))
    clear hp' ht'
    have HXR:=Lh hxq
    clear HXQ
    have x0:=qq hxq (j:=0) rfl;have x1:=qq hxq (j:=1) rfl;have x2:=qq hxq (j:=2) rfl;have x3:=qq hxq (j:=3) rfl;have x4:=qq hxq (j:=4) rfl;have x5:=qq hxq (j:=5) rfl
    clear hxq
    have e3:=HQ.out.cell (i:=3) (by decide)
    have f3:=HQ.out.frozen 3
    simp only [qR] at e3
    have e4:=HQ.out.cell (i:=4) (by decide)
    have f4:=HQ.out.frozen 4
    simp only [qR] at e4
    have e5:=HQ.out.cell (i:=5) (by decide)
    have f5:=HQ.out.frozen 5
    simp only [qR] at e5
    have e6:=HQ.out.cell (i:=6) (by decide)
    have f6:=HQ.out.frozen 6
    simp only [qR] at e6
    have e7:=HQ.out.cell (i:=7) (by decide)
    have f7:=HQ.out.frozen 7
    simp only [qR] at e7
    have e8:=HQ.out.cell (i:=8) (by decide)
    have f8:=HQ.out.frozen 8
    simp only [qR] at e8
    have hpq:p≠q:=fun e=>HNQ.out.1 e.symm
    have hqp:q≠p:=HNQ.out.1
    go_upto_region 15 with fail
    go_region
    obtain ⟨W19,hW19⟩:∃W19,W19=(((((w18.setCell ⟨p,3,none⟩ (.int .i64 X.thr)).setCell ⟨p,4,none⟩ (.slice j1 X.ids.length c1)).setCell ⟨p,5,none⟩ (.int .i64 Y.thr)).setCell ⟨p,6,none⟩ (.slice j2 Y.ids.length c2)).setCell ⟨p,7,none⟩ (.int .i64 Z.thr)).setCell ⟨p,8,none⟩ (.slice j3 Z.ids.length c3):=⟨_,rfl⟩
    have hput:Touch (fun b=>b=p) w18 W19:=by rw [hW19];exact ((((((Touch.refl _ _).trans (qr _)).trans (qr _)).trans (qr _)).trans (qr _)).trans (qr _)).trans (qr _)
    replace HQ:=Lh (show W19.rowIs p 32 9 (qR (.int .i64 ver) (.int .i64 rd) (.slice ka kl.length kc) (.int .i64 X.thr) (.slice j1 X.ids.length c1) (.int .i64 Y.thr) (.slice j2 Y.ids.length c2) (.int .i64 Z.thr) (.slice j3 Z.ids.length c3)) from by
     rw [hW19]
     refine ((((((HQ.out.set 3 _).set 4 _).set 5 _).set 6 _).set 7 _).set 8 _).congr fun j hj=>?_
     rcases j with _|_|_|_|_|_|_|_|_|j <;> first|rfl|omega)
    replace HP:=Lh (HP.out.touch hput HN.out.1 HN.out.2.1 HN.out.2.2.1)
    replace HR:=Lh (hput.row HR.out (by have:=HN.out;omega))
    replace HB:=Lh (HB.out.trans (hput.below (by have:=HB.out.size;omega) fun k hk e=>by have:=HN.out;omega))
    replace HZ:=Lh (Nat.le_trans HZ.out hput.size)
    replace HKR:=Lh (HKR.out.carry lz hput.size (fun b h1 h2=>hput.block b h2 (by have:=HN.out;omega)))
    replace HS1:=Lh (HS1.out.carry lz hput.size (fun b h1 h2=>hput.block b h2 (by have:=HN.out;omega)))
    replace HS2:=Lh (HS2.out.carry lz hput.size (fun b h1 h2=>hput.block b h2 (by have:=HN.out;omega)))
    replace HS3:=Lh (HS3.out.carry lz hput.size (fun b h1 h2=>hput.block b h2 (by have:=HN.out;omega)))
    have HW19:=Lh hW19
    clear hput hW19
    rw [← HW19.out]
    clear HW19
    obtain ⟨W20,hW20⟩:∃W20,W20=W19.drew:=⟨_,rfl⟩
    have hb':Below W19.heap.size W19 W20:=by rw [hW20];exact (Below.refl _ _).drew
    replace HP:=Lh (HP.out.below hb')
    replace HR:=Lh (qx hb' HR.out HR.out.lt)
    replace HQ:=Lh (qx hb' HQ.out HQ.out.lt)
    replace HB:=Lh (HB.out.trans (hb'.mono HB.out.size))
    replace HZ:=Lh (Nat.le_trans HZ.out hb'.size)
    replace HKR:=Lh (HKR.out.below hb' lz lz hb'.size)
    replace HS1:=Lh (HS1.out.below hb' lz lz hb'.size)
    replace HS2:=Lh (HS2.out.below hb' lz lz hb'.size)
    replace HS3:=Lh (HS3.out.below hb' lz lz hb'.size)
    rw [← hW20]
    clear hb' hW20
    clear x0 x1 x2 x3 x4 x5 e3 f3 e4 f4 e5 f5 e6 f6 e7 f7 e8 f8
    have HD:=Lh (co HP.out HU.out)
    obtain ⟨dn,hdn⟩:∃dn,dn=qf u (gF u st):=⟨_,rfl⟩
    rw [← hdn] at HD HG1
    clear hdn
    have hQ:=HQ.out
    have hR:=HR.out
    obtain ⟨e0,e1,e2,e3,e4⟩:=rc5 hQ;have e5:=hQ.cell (i:=5) (by decide);have e6:=hQ.cell (i:=6) (by decide);have e7:=hQ.cell (i:=7) (by decide);have e8:=hQ.cell (i:=8) (by decide)
    obtain ⟨f0,f1,f2,f3,f4⟩:=rf5 hQ;have f5:=hQ.frozen 5;have f6:=hQ.frozen 6;have f7:=hQ.frozen 7;have f8:=hQ.frozen 8
    simp only [qR] at e0 e1 e2 e3 e4 e5 e6 e7 e8
    obtain ⟨t0,t1,t2,t3,t4⟩:=rc5 hR;have t5:=hR.cell (i:=5) (by decide);have t6:=hR.cell (i:=6) (by decide);have t7:=hR.cell (i:=7) (by decide);have t8:=hR.cell (i:=8) (by decide)
    obtain ⟨s0,s1,s2,s3,s4⟩:=rf5 hR;have s5:=hR.frozen 5;have s6:=hR.frozen 6;have s7:=hR.frozen 7;have s8:=hR.frozen 8
    simp only [qR] at t0 t1 t2 t3 t4 t5 t6 t7 t8
    clear hQ hR
    go_wp2_with fail
    refine HD.out.mono ?_
    clear HD
    rintro e w20 ⟨rfl,h'⟩
    subst h'
    have HZB:=Lh (show w.heap.size+2≤W3.heap.size from by have:=HN.out;omega)
    by_cases hd:dn=0
    · subst hd
      rw [if_neg (by decide)] at HG1
      go_wp2
      refine bodyPost_ret (qj Tryz.results13 _ _ (w.heap.size+1) 32 _ (0,0) _ rfl (xO (cO _ _ _ _ _ _ _ _ _ HR.out)) Tryz.underlying32 rfl (by kernel_rfl) _ rfl) rfl ?_
      refine .inr ⟨rfl,u,HC.out,?_⟩
      rw [HG1.out]
      have hc:=fun b (h1:W3.heap.size≤b) (h2:b<W20.heap.size)=>fO (W:=W20) (.int .i64 ver) (.int .i64 rd) (.slice ka kl.length kc) (.int .i64 X.thr) (.slice j1 X.ids.length c1) (.int .i64 Y.thr) (.slice j2 Y.ids.length c2) (.int .i64 Z.thr) (.slice j3 Z.ids.length c3) (show b≠w.heap.size+1 by have:=HZB.out;omega)
      exact ⟨ka,kc,j1,c1,j2,c2,j3,c3,rfl,⟨HKR.out.carry (by have:=HZB.out;omega) (Nat.le_of_eq kK.symm) hc,HS1.out.carry (by have:=HZB.out;omega) (Nat.le_of_eq kK.symm) hc,HS2.out.carry (by have:=HZB.out;omega) (Nat.le_of_eq kK.symm) hc,HS3.out.carry (by have:=HZB.out;omega) (Nat.le_of_eq kK.symm) hc⟩,wD _ _ _ _ _ _ _ _ _ HB.out (by omega)⟩
    · have d1:(dn != 0)=true:=by simpa using hd
      rw [if_pos hd] at HG1
      clear hd
      go_wp2
      refine bodyPost_ret (qj Tryz.results13 _ _ (w.heap.size+1) 32 _ (0,0) _ rfl (xO (cO _ _ _ _ _ _ _ _ _ HR.out)) Tryz.underlying32 rfl (by kernel_rfl) _ rfl) rfl ?_
      refine .inr ⟨rfl,u,HC.out,?_⟩
      rw [HG1.out]
      exact kS (wD _ _ _ _ _ _ _ _ _ HB.out (by omega))
  · have hcc:(tt.toList == [114,111,111,116])=false:=by rw [← fq,ba_eq,decide_eq_false_iff_not];exact hc
    rw [if_pos hc] at HGT
    clear hc
    go_wp2_with fail
    refine (jT 13 HP.out).mono ?_
    rintro e w4b ⟨rfl,hp',ht'⟩
    rw [← HGT.out] at hp'
    clear HGT
    replace HP:=Lh hp'
    replace HR:=Lh (ht'.row HR.out (by have:=HN.out;omega))
    replace HQ:=Lh (ht'.row HQ.out (by have:=HN.out;omega))
    replace HB:=Lh (HB.out.trans (ht'.below (by have:=HB.out.size;omega) fun k hk e=>by have:=HN.out;omega))
    replace HZ:=Lh (Nat.le_trans HZ.out ht'.size)
    clear hp' ht'
    have HNU:=Lh (nG xq 1 1099511627776 HP.out (by decide) (by have:=HLN.out.1;omega))
    rw [show qB u xq 1 1099511627776 (gT u st)=gB u st from rfl] at HNU
    have HC1:=Lh (show gC u st=qy u xz (gB u st).2 from rfl)
    have HG1:=Lh (show u5 u st=if qf u (gF u st)≠0 then (jV,qf u (gF u st)) else (⟨(gB u st).1,(gR u st).1,(gL u st).1,(gA u st).1⟩,0) from rfl)
    have HL1:=Lh HLN.out.2.1
    obtain ⟨GB,hGB⟩:∃GB,GB=gB u st:=⟨_,rfl⟩
    rw [← hGB] at HNU HC1 HG1 HL1
    clear hGB
    obtain ⟨ver,SB⟩:=GB
    dsimp only at HNU HC1 HG1 HL1
    go_wp2_with fail
    refine HNU.out.mono ?_
    clear HNU
    rintro e w5 ⟨rfl,hp',ht'⟩
    replace HP:=Lh hp'
    replace HR:=Lh (ht'.row HR.out (by have:=HN.out;omega))
    replace HQ:=Lh (ht'.row HQ.out (by have:=HN.out;omega))
    replace HB:=Lh (HB.out.trans (ht'.below (by have:=HB.out.size;omega) fun k hk e=>by have:=HN.out;omega))
    replace HZ:=Lh (Nat.le_trans HZ.out ht'.size)
    clear hp' ht'
    have e0:=HQ.out.cell (i:=0) (by decide)
    have f0:=HQ.out.frozen 0
    simp only [qR] at e0
    obtain ⟨W6,hW6⟩:∃W6,W6=w5.setCell ⟨p,0,none⟩ (.int .i64 ver):=⟨_,rfl⟩
    have hput:Touch (fun b=>b=p) w5 W6:=by rw [hW6];exact (Touch.refl _ _).trans (qr _)
    replace HQ:=Lh (show W6.rowIs p 32 9 (qR (.int .i64 ver) (.int .i64 0) (.slice none 0 0) (.int .i64 0) (.slice none 0 0) (.int .i64 0) (.slice none 0 0) (.int .i64 0) (.slice none 0 0)) from by
     rw [hW6]
     refine (HQ.out.set 0 _).congr fun j hj=>?_
     rcases j with _|_|_|_|_|_|_|_|_|j <;> first|rfl|omega)
    replace HP:=Lh (HP.out.touch hput HN.out.1 HN.out.2.1 HN.out.2.2.1)
    replace HR:=Lh (hput.row HR.out (by have:=HN.out;omega))
    replace HB:=Lh (HB.out.trans (hput.below (by have:=HB.out.size;omega) fun k hk e=>by have:=HN.out;omega))
    replace HZ:=Lh (Nat.le_trans HZ.out hput.size)
    have HW6:=Lh hW6
    clear hput hW6
    go_upto_region 9 with fail
    rw [← HW6.out]
    clear HW6 e0 f0
    have HTE:=Lh (rq xz HP.out (by decide) (by have:=HL1.out;omega))
    rw [← HC1.out] at HTE
    have HR1:=Lh (show gR u st=xD (gC u st).1.data.toList from rfl)
    have HK1:=Lh (show gK u st=qv u zm 32 ((gC u st).2.fail (gR u st).2) from rfl)
    have HL2:=Lh HLN.out.2.2.1
    obtain ⟨GC,hGC⟩:∃GC,GC=gC u st:=⟨_,rfl⟩
    rw [← hGC] at HTE HR1 HK1 HL2
    clear hGC HC1
    obtain ⟨et,SC⟩:=GC
    dsimp only at HTE HR1 HK1 HL2
    go_wp2_with fail
    refine HTE.out.mono ?_
    clear HTE
    rintro e w7 ⟨rfl,hp',ht'⟩
    replace HP:=Lh hp'
    replace HR:=Lh (ht'.row HR.out (by have:=HN.out;omega))
    replace HQ:=Lh (ht'.row HQ.out (by have:=HN.out;omega))
    replace HB:=Lh (HB.out.trans (ht'.below (by have:=HB.out.size;omega) fun k hk e=>by have:=HN.out;omega))
    replace HZ:=Lh (Nat.le_trans HZ.out ht'.size)
    clear hp' ht'
    have HRD:=Lh (uE et w7 (HTB.out w7 HB.out).2.1)
    rw [← HR1.out] at HRD
    obtain ⟨GR,hGR⟩:∃GR,GR=gR u st:=⟨_,rfl⟩
    rw [← hGR] at HRD HK1 HG1
    clear hGR HR1
    obtain ⟨rd,re⟩:=GR
    dsimp only at HRD HK1 HG1
    go_wp2_with fail
    refine HRD.out.mono ?_
    clear HRD
    rintro e w8 ⟨rfl,hb'⟩
    replace HP:=Lh (HP.out.below hb')
    replace HR:=Lh (qx hb' HR.out HR.out.lt)
    replace HQ:=Lh (qx hb' HQ.out HQ.out.lt)
    replace HB:=Lh (HB.out.trans (hb'.mono HB.out.size))
    replace HZ:=Lh (Nat.le_trans HZ.out hb'.size)
    clear hb'
    have e1:=HQ.out.cell (i:=1) (by decide)
    have f1:=HQ.out.frozen 1
    simp only [qR] at e1
    obtain ⟨W9,hW9⟩:∃W9,W9=w8.setCell ⟨p,1,none⟩ (.int .i64 rd):=⟨_,rfl⟩
    have hput:Touch (fun b=>b=p) w8 W9:=by rw [hW9];exact (Touch.refl _ _).trans (qr _)
    replace HQ:=Lh (show W9.rowIs p 32 9 (qR (.int .i64 ver) (.int .i64 rd) (.slice none 0 0) (.int .i64 0) (.slice none 0 0) (.int .i64 0) (.slice none 0 0) (.int .i64 0) (.slice none 0 0)) from by
     rw [hW9]
     refine (HQ.out.set 1 _).congr fun j hj=>?_
     rcases j with _|_|_|_|_|_|_|_|_|j <;> first|rfl|omega)
    replace HP:=Lh (HP.out.touch hput HN.out.1 HN.out.2.1 HN.out.2.2.1)
    replace HR:=Lh (hput.row HR.out (by have:=HN.out;omega))
    replace HB:=Lh (HB.out.trans (hput.below (by have:=HB.out.size;omega) fun k hk e=>by have:=HN.out;omega))
    replace HZ:=Lh (Nat.le_trans HZ.out hput.size)
    have HW9:=Lh hW9
    clear hput hW9
    go_upto_region 10 with fail
    rw [← HW9.out]
    clear HW9 e1 f1
    go_wp2_with fail
    refine (jT re HP.out).mono ?_
    rintro e w10 ⟨rfl,hp',ht'⟩
    replace HP:=Lh hp'
    replace HR:=Lh (ht'.row HR.out (by have:=HN.out;omega))
    replace HQ:=Lh (ht'.row HQ.out (by have:=HN.out;omega))
    replace HB:=Lh (HB.out.trans (ht'.below (by have:=HB.out.size;omega) fun k hk e=>by have:=HN.out;omega))
    replace HZ:=Lh (Nat.le_trans HZ.out ht'.size)
    clear hp' ht'
    have HOK:=Lh (g9 zm 32 HP.out (by decide) (by rw [vv];have:=HL2.out;omega))
    unfold fs at HOK
    rw [← HK1.out] at HOK
    have HWK:=Lh (show (gK u st).1.wt≤4294967296 by rw [HK1.out];exact xj HU.out)
    have HLL:=Lh (show gL u st=zL (gK u st).1 from rfl)
    have HO1:=Lh (show gO u st=qv u xb 8192 ((gK u st).2.fail (gL u st).2) from rfl)
    have HL3:=Lh HLN.out.2.2.2
    obtain ⟨GK,hGK⟩:∃GK,GK=gK u st:=⟨_,rfl⟩
    rw [← hGK] at HOK HWK HLL HO1 HL3
    clear hGK HK1
    obtain ⟨KJ,SK⟩:=GK
    dsimp only at HOK HWK HLL HO1 HL3
    go_wp2_with fail
    refine HOK.out.mono ?_
    clear HOK
    rintro e w11 ⟨⟨an5,cn5,ai5,ci5,rfl,hr5⟩,hp',ht'⟩
    have HKY:=Lh (uO KJ _ w11 w10.heap.size (Nat.lt_of_le_of_lt (Nat.zero_le _) HR.out.lt) HWK.out hr5 (HTB.out w11 (HB.out.trans (ht'.below (by have:=HB.out.size;omega) fun k hk e=>by have:=HN.out;omega))).1)
    clear hr5
    replace HP:=Lh hp'
    replace HR:=Lh (ht'.row HR.out (by have:=HN.out;omega))
    replace HQ:=Lh (ht'.row HQ.out (by have:=HN.out;omega))
    replace HB:=Lh (HB.out.trans (ht'.below (by have:=HB.out.size;omega) fun k hk e=>by have:=HN.out;omega))
    replace HZ:=Lh (Nat.le_trans HZ.out ht'.size)
    clear hp' ht'
    unfold bY at HKY
    rw [← HLL.out] at HKY
    obtain ⟨GL,hGL⟩:∃GL,GL=gL u st:=⟨_,rfl⟩
    rw [← hGL] at HKY HO1 HG1
    clear hGL HLL
    obtain ⟨kl,ke⟩:=GL
    dsimp only at HKY HO1 HG1
    go_wp2_with fail
    refine HKY.out.mono ?_
    clear HKY
    rintro e w12 ⟨kv,rfl,ho',hb'⟩
    obtain ⟨ka,kc,rfl,hk'⟩:=wC ho' rfl
    have HKR:=Lh (show zY w12 W3.heap.size w12.heap.size ka kl from hk'.carry HZ.out lz (fun _ _ _=>rfl))
    clear ho' hk'
    replace HP:=Lh (HP.out.below hb')
    replace HR:=Lh (qx hb' HR.out HR.out.lt)
    replace HQ:=Lh (qx hb' HQ.out HQ.out.lt)
    replace HB:=Lh (HB.out.trans (hb'.mono HB.out.size))
    replace HZ:=Lh (Nat.le_trans HZ.out hb'.size)
    clear hb'
    have e2:=HQ.out.cell (i:=2) (by decide)
    have f2:=HQ.out.frozen 2
    simp only [qR] at e2
    obtain ⟨W13,hW13⟩:∃W13,W13=w12.setCell ⟨p,2,none⟩ (.slice ka kl.length kc):=⟨_,rfl⟩
    have hput:Touch (fun b=>b=p) w12 W13:=by rw [hW13];exact (Touch.refl _ _).trans (qr _)
    replace HQ:=Lh (show W13.rowIs p 32 9 (qR (.int .i64 ver) (.int .i64 rd) (.slice ka kl.length kc) (.int .i64 0) (.slice none 0 0) (.int .i64 0) (.slice none 0 0) (.int .i64 0) (.slice none 0 0)) from by
     rw [hW13]
     refine (HQ.out.set 2 _).congr fun j hj=>?_
     rcases j with _|_|_|_|_|_|_|_|_|j <;> first|rfl|omega)
    replace HP:=Lh (HP.out.touch hput HN.out.1 HN.out.2.1 HN.out.2.2.1)
    replace HR:=Lh (hput.row HR.out (by have:=HN.out;omega))
    replace HB:=Lh (HB.out.trans (hput.below (by have:=HB.out.size;omega) fun k hk e=>by have:=HN.out;omega))
    replace HZ:=Lh (Nat.le_trans HZ.out hput.size)
    replace HKR:=Lh (HKR.out.carry lz hput.size (fun b h1 h2=>hput.block b h2 (by have:=HN.out;omega)))
    have HW13:=Lh hW13
    clear hput hW13
    go_upto_region 12 with fail
    rw [← HW13.out]
    clear HW13 e2 f2
    go_wp2_with fail
    refine (jT ke HP.out).mono ?_
    rintro e w14 ⟨rfl,hp',ht'⟩
    replace HP:=Lh hp'
    replace HR:=Lh (ht'.row HR.out (by have:=HN.out;omega))
    replace HQ:=Lh (ht'.row HQ.out (by have:=HN.out;omega))
    replace HB:=Lh (HB.out.trans (ht'.below (by have:=HB.out.size;omega) fun k hk e=>by have:=HN.out;omega))
    replace HZ:=Lh (Nat.le_trans HZ.out ht'.size)
    replace HKR:=Lh (HKR.out.carry lz ht'.size (fun b h1 h2=>ht'.block b h2 (by have:=HN.out;omega)))
    clear hp' ht'
    have HOR:=Lh (g9 xb 8192 HP.out (by decide) (by rw [vv];have:=HL3.out;omega))
    unfold fs at HOR
    rw [← HO1.out] at HOR
    have HWO:=Lh (show (gO u st).1.wt≤4294967296 by rw [HO1.out];exact xj HU.out)
    have HAA:=Lh (show gA u st=zH (gO u st).1 from rfl)
    have HF1:=Lh (show gF u st=(gO u st).2.fail (gA u st).2 from rfl)
    obtain ⟨GO,hGO⟩:∃GO,GO=gO u st:=⟨_,rfl⟩
    rw [← hGO] at HOR HWO HAA HF1 HCO
    clear hGO HO1
    obtain ⟨OJ,SO⟩:=GO
    dsimp only at HOR HWO HAA HF1 HCO
    go_wp2_with fail
    refine HOR.out.mono ?_
    clear HOR
    rintro e w15 ⟨⟨an6,cn6,ai6,ci6,rfl,hr6⟩,hp',ht'⟩
    have HRO:=Lh (yW OJ _ w15 w14.heap.size (by have:=HZ.out;have:=HN.out;omega) HWO.out hr6 HCO.out (HTB.out w15 (HB.out.trans (ht'.below (by have:=HB.out.size;omega) fun k hk e=>by have:=HN.out;omega))).2.2)
    clear hr6
    replace HP:=Lh hp'
    replace HR:=Lh (ht'.row HR.out (by have:=HN.out;omega))
    replace HQ:=Lh (ht'.row HQ.out (by have:=HN.out;omega))
    replace HB:=Lh (HB.out.trans (ht'.below (by have:=HB.out.size;omega) fun k hk e=>by have:=HN.out;omega))
    replace HZ:=Lh (Nat.le_trans HZ.out ht'.size)
    replace HKR:=Lh (HKR.out.carry lz ht'.size (fun b h1 h2=>ht'.block b h2 (by have:=HN.out;omega)))
    clear hp' ht'
    unfold yj at HRO
    rw [← HAA.out] at HRO
    obtain ⟨GA,hGA⟩:∃GA,GA=gA u st:=⟨_,rfl⟩
    rw [← hGA] at HRO HF1 HG1
    clear hGA HAA
    obtain ⟨⟨X,Y,Z⟩,ae⟩:=GA
    dsimp only at HRO HF1 HG1
    go_wp2_with fail
    refine HRO.out.mono ?_
    clear HRO
    rintro e w16 ⟨j1,c1,j2,c2,j3,c3,rfl,hs1,hs2,hs3,hb'⟩
    have HS1:=Lh (show qk w16 W3.heap.size w16.heap.size j1 X.ids from hs1.carry HZ.out lz (fun _ _ _=>rfl))
    have HS2:=Lh (show qk w16 W3.heap.size w16.heap.size j2 Y.ids from hs2.carry HZ.out lz (fun _ _ _=>rfl))
    have HS3:=Lh (show qk w16 W3.heap.size w16.heap.size j3 Z.ids from hs3.carry HZ.out lz (fun _ _ _=>rfl))
    clear hs1 hs2 hs3
    replace HP:=Lh (HP.out.below hb')
    replace HR:=Lh (qx hb' HR.out HR.out.lt)
    replace HQ:=Lh (qx hb' HQ.out HQ.out.lt)
    replace HB:=Lh (HB.out.trans (hb'.mono HB.out.size))
    replace HZ:=Lh (Nat.le_trans HZ.out hb'.size)
    replace HKR:=Lh (HKR.out.below hb' lz lz hb'.size)
    clear hb'
    obtain ⟨q,hq⟩:∃q,q=w16.heap.size:=⟨_,rfl⟩
    obtain ⟨W17,hW17⟩:∃W17,W17=w16.alloc (.cells #[.int .i64 X.thr,.slice j1 X.ids.length c1,.int .i64 Y.thr,.slice j2 Y.ids.length c2,.int .i64 Z.thr,.slice j3 Z.ids.length c3] 89):=⟨_,rfl⟩
    have hb':Below w16.heap.size w16 W17:=by rw [hW17];exact (Below.refl _ _).alloc lz _
    have hx':W17.heap[q]?=some (.cells #[.int .i64 X.thr,.slice j1 X.ids.length c1,.int .i64 Y.thr,.slice j2 Y.ids.length c2,.int .i64 Z.thr,.slice j3 Z.ids.length c3] 89 (0,0)):=by rw [hW17,hq];exact heap_alloc_new w16 _
    have HNQ:=Lh (show q≠p∧q≠o∧q≠m by have h1:=HN.out;have h2:=HZ.out;omega)
    have HXQ:=Lh hx'
    replace HP:=Lh (HP.out.below hb')
    replace HR:=Lh (qx hb' HR.out HR.out.lt)
    replace HQ:=Lh (qx hb' HQ.out HQ.out.lt)
    replace HB:=Lh (HB.out.trans (hb'.mono HB.out.size))
    replace HZ:=Lh (Nat.le_trans HZ.out hb'.size)
    replace HKR:=Lh (HKR.out.below hb' lz lz hb'.size)
    replace HS1:=Lh (HS1.out.below hb' lz lz hb'.size)
    replace HS2:=Lh (HS2.out.below hb' lz lz hb'.size)
    replace HS3:=Lh (HS3.out.below hb' lz lz hb'.size)
    have HW17:=Lh hW17
    have HQE:=Lh hq
    clear hb' hx' hW17 hq
    go_upto_region 14 with fail
    rw [← HW17.out,← HQE.out]
    clear HW17 HQE
    go_wp2_with fail
    refine (jT ae HP.out).mono ?_
    rintro e w18 ⟨rfl,hp',ht'⟩
    have hxq:=(ht'.block q (qz HXQ.out) (by have:=HNQ.out;omega)).trans HXQ.out
    rw [← HF1.out] at hp'
    replace HP:=Lh hp'
    replace HR:=Lh (ht'.row HR.out (by have:=HN.out;omega))
    replace HQ:=Lh (ht'.row HQ.out (by have:=HN.out;omega))
    replace HB:=Lh (HB.out.trans (ht'.below (by have:=HB.out.size;omega) fun k hk e=>by have:=HN.out;omega))
    replace HZ:=Lh (Nat.le_trans HZ.out ht'.size)
    replace HKR:=Lh (HKR.out.carry lz ht'.size (fun b h1 h2=>ht'.block b h2 (by have:=HN.out;omega)))
    replace HS1:=Lh (HS1.out.carry lz ht'.size (fun b h1 h2=>ht'.block b h2 (by have:=HN.out;omega)))
    replace HS2:=Lh (HS2.out.carry lz ht'.size (fun b h1 h2=>ht'.block b h2 (by have:=HN.out;omega)))
    replace HS3:=Lh (HS3.out.carry lz ht'.size (fun b h1 h2=>ht'.block b h2 (by have:=HN.out;omega)))
    clear hp' ht'
    have HXR:=Lh hxq
    clear HXQ
    have x0:=qq hxq (j:=0) rfl;have x1:=qq hxq (j:=1) rfl;have x2:=qq hxq (j:=2) rfl;have x3:=qq hxq (j:=3) rfl;have x4:=qq hxq (j:=4) rfl;have x5:=qq hxq (j:=5) rfl
    clear hxq
    have e3:=HQ.out.cell (i:=3) (by decide)
    have f3:=HQ.out.frozen 3
    simp only [qR] at e3
    have e4:=HQ.out.cell (i:=4) (by decide)
    have f4:=HQ.out.frozen 4
    simp only [qR] at e4
    have e5:=HQ.out.cell (i:=5) (by decide)
    have f5:=HQ.out.frozen 5
    simp only [qR] at e5
    have e6:=HQ.out.cell (i:=6) (by decide)
    have f6:=HQ.out.frozen 6
    simp only [qR] at e6
    have e7:=HQ.out.cell (i:=7) (by decide)
    have f7:=HQ.out.frozen 7
    simp only [qR] at e7
    have e8:=HQ.out.cell (i:=8) (by decide)
    have f8:=HQ.out.frozen 8
    simp only [qR] at e8
    have hpq:p≠q:=fun e=>HNQ.out.1 e.symm
    have hqp:q≠p:=HNQ.out.1
    go_upto_region 15 with fail
    go_region
    obtain ⟨W19,hW19⟩:∃W19,W19=(((((w18.setCell ⟨p,3,none⟩ (.int .i64 X.thr)).setCell ⟨p,4,none⟩ (.slice j1 X.ids.length c1)).setCell ⟨p,5,none⟩ (.int .i64 Y.thr)).setCell ⟨p,6,none⟩ (.slice j2 Y.ids.length c2)).setCell ⟨p,7,none⟩ (.int .i64 Z.thr)).setCell ⟨p,8,none⟩ (.slice j3 Z.ids.length c3):=⟨_,rfl⟩
    have hput:Touch (fun b=>b=p) w18 W19:=by rw [hW19];exact ((((((Touch.refl _ _).trans (qr _)).trans (qr _)).trans (qr _)).trans (qr _)).trans (qr _)).trans (qr _)
    replace HQ:=Lh (show W19.rowIs p 32 9 (qR (.int .i64 ver) (.int .i64 rd) (.slice ka kl.length kc) (.int .i64 X.thr) (.slice j1 X.ids.length c1) (.int .i64 Y.thr) (.slice j2 Y.ids.length c2) (.int .i64 Z.thr) (.slice j3 Z.ids.length c3)) from by
     rw [hW19]
     refine ((((((HQ.out.set 3 _).set 4 _).set 5 _).set 6 _).set 7 _).set 8 _).congr fun j hj=>?_
     rcases j with _|_|_|_|_|_|_|_|_|j <;> first|rfl|omega)
    replace HP:=Lh (HP.out.touch hput HN.out.1 HN.out.2.1 HN.out.2.2.1)
    replace HR:=Lh (hput.row HR.out (by have:=HN.out;omega))
    replace HB:=Lh (HB.out.trans (hput.below (by have:=HB.out.size;omega) fun k hk e=>by have:=HN.out;omega))
    replace HZ:=Lh (Nat.le_trans HZ.out hput.size)
    replace HKR:=Lh (HKR.out.carry lz hput.size (fun b h1 h2=>hput.block b h2 (by have:=HN.out;omega)))
    replace HS1:=Lh (HS1.out.carry lz hput.size (fun b h1 h2=>hput.block b h2 (by have:=HN.out;omega)))
    replace HS2:=Lh (HS2.out.carry lz hput.size (fun b h1 h2=>hput.block b h2 (by have:=HN.out;omega)))
    replace HS3:=Lh (HS3.out.carry lz hput.size (fun b h1 h2=>hput.block b h2 (by have:=HN.out;omega)))
    have HW19:=Lh hW19
    clear hput hW19
    rw [← HW19.out]
    clear HW19
    obtain ⟨W20,hW20⟩:∃W20,W20=W19.drew:=⟨_,rfl⟩
    have hb':Below W19.heap.size W19 W20:=by rw [hW20];exact (Below.refl _ _).drew
    replace HP:=Lh (HP.out.below hb')
    replace HR:=Lh (qx hb' HR.out HR.out.lt)
    replace HQ:=Lh (qx hb' HQ.out HQ.out.lt)
    replace HB:=Lh (HB.out.trans (hb'.mono HB.out.size))
    replace HZ:=Lh (Nat.le_trans HZ.out hb'.size)
    replace HKR:=Lh (HKR.out.below hb' lz lz hb'.size)
    replace HS1:=Lh (HS1.out.below hb' lz lz hb'.size)
    replace HS2:=Lh (HS2.out.below hb' lz lz hb'.size)
    replace HS3:=Lh (HS3.out.below hb' lz lz hb'.size)
    rw [← hW20]
    clear hb' hW20
    clear x0 x1 x2 x3 x4 x5 e3 f3 e4 f4 e5 f5 e6 f6 e7 f7 e8 f8
    have HD:=Lh (co HP.out HU.out)
    obtain ⟨dn,hdn⟩:∃dn,dn=qf u (gF u st):=⟨_,rfl⟩
    rw [← hdn] at HD HG1
    clear hdn
    have hQ:=HQ.out
    have hR:=HR.out
    obtain ⟨e0,e1,e2,e3,e4⟩:=rc5 hQ;have e5:=hQ.cell (i:=5) (by decide);have e6:=hQ.cell (i:=6) (by decide);have e7:=hQ.cell (i:=7) (by decide);have e8:=hQ.cell (i:=8) (by decide)
    obtain ⟨f0,f1,f2,f3,f4⟩:=rf5 hQ;have f5:=hQ.frozen 5;have f6:=hQ.frozen 6;have f7:=hQ.frozen 7;have f8:=hQ.frozen 8
    simp only [qR] at e0 e1 e2 e3 e4 e5 e6 e7 e8
    obtain ⟨t0,t1,t2,t3,t4⟩:=rc5 hR;have t5:=hR.cell (i:=5) (by decide);have t6:=hR.cell (i:=6) (by decide);have t7:=hR.cell (i:=7) (by decide);have t8:=hR.cell (i:=8) (by decide)
    obtain ⟨s0,s1,s2,s3,s4⟩:=rf5 hR;have s5:=hR.frozen 5;have s6:=hR.frozen 6;have s7:=hR.frozen 7;have s8:=hR.frozen 8
    simp only [qR] at t0 t1 t2 t3 t4 t5 t6 t7 t8
    clear hQ hR
    go_wp2_with fail
    refine HD.out.mono ?_
    clear HD
    rintro e w20 ⟨rfl,h'⟩
    subst h'
    have HZB:=Lh (show w.heap.size+2≤W3.heap.size from by have:=HN.out;omega)
    by_cases hd:dn=0
    · subst hd
      rw [if_neg (by decide)] at HG1
      go_wp2
      refine bodyPost_ret (qj Tryz.results13 _ _ (w.heap.size+1) 32 _ (0,0) _ rfl (xO (cO _ _ _ _ _ _ _ _ _ HR.out)) Tryz.underlying32 rfl (by kernel_rfl) _ rfl) rfl ?_
      refine .inr ⟨rfl,u,HC.out,?_⟩
      rw [HG1.out]
      have hc:=fun b (h1:W3.heap.size≤b) (h2:b<W20.heap.size)=>fO (W:=W20) (.int .i64 ver) (.int .i64 rd) (.slice ka kl.length kc) (.int .i64 X.thr) (.slice j1 X.ids.length c1) (.int .i64 Y.thr) (.slice j2 Y.ids.length c2) (.int .i64 Z.thr) (.slice j3 Z.ids.length c3) (show b≠w.heap.size+1 by have:=HZB.out;omega)
      exact ⟨ka,kc,j1,c1,j2,c2,j3,c3,rfl,⟨HKR.out.carry (by have:=HZB.out;omega) (Nat.le_of_eq kK.symm) hc,HS1.out.carry (by have:=HZB.out;omega) (Nat.le_of_eq kK.symm) hc,HS2.out.carry (by have:=HZB.out;omega) (Nat.le_of_eq kK.symm) hc,HS3.out.carry (by have:=HZB.out;omega) (Nat.le_of_eq kK.symm) hc⟩,wD _ _ _ _ _ _ _ _ _ HB.out (by omega)⟩
    · have d1:(dn != 0)=true:=by simpa using hd
      rw [if_pos hd] at HG1
      clear hd
      go_wp2
      refine bodyPost_ret (qj Tryz.results13 _ _ (w.heap.size+1) 32 _ (0,0) _ rfl (xO (cO _ _ _ _ _ _ _ _ _ HR.out)) Tryz.underlying32 rfl (by kernel_rfl) _ rfl) rfl ?_
      refine .inr ⟨rfl,u,HC.out,?_⟩
      rw [HG1.out]
      exact kS (wD _ _ _ _ _ _ _ _ _ HB.out (by omega))
theorem sz {u:JV} {st:PS} (h:cr u∨u=qL) (hk:(gO u st).1.kind=5):ql (gO u st).1.names=true∧(gO u st).1.names.length=(gO u st).1.items.length:=by
 rcases h with h|rfl
 · revert hk
   unfold gO qv
   split
   · intro hk;cases hk
   · split
     · intro hk;cases hk
     · rename_i it hit
       split
       · intro hk;cases hk
       · split
         · intro hk;cases hk
         · intro hk
           have:=uf (aG h hit (by rw [hk];decide)) hk
           exact ⟨this.2.2.1,this.2.1⟩
 · exfalso
   revert hk
   unfold gO qv
   split
   · intro hk;cases hk
   · have:qL.look xb=none:=rfl
     rw [this]
     intro hk;cases hk
theorem ly:u5 qL ⟨[],10⟩=(jV,10):=by decide +kernel
theorem yb (v:JV) (x:Value) (w:World) (lo:Nat) (hlo:0<lo) (hN:v.wt≤4294967296) (hR:Rep w lo w.heap.size v x) (hT:Tabs w) (hTW:TabW w) (hTP:TopsW w) :
 Calls Tryz.prog 13 #[x] w (ko (zc v) w):=by
 cases hmb:v.mayB with
 | false =>
  refine (cP (fun u=>False) (st0 v) v x w hN (hR.carry (Nat.zero_le _) lz (fun _ _ _=>rfl)) (by unfold st0;split <;> simp) hT hTW hTP (fun u hu=>hu.elim) (fun hm=>by rw [hmb] at hm;cases hm)).mono ?_
  rintro e w' (⟨hm,h⟩|⟨hm,u,hu,h⟩)
  · have:zc v=(jV,3):=by unfold zc;rw [if_pos hmb]
    rw [this];exact h
  · exact hu.elim
 | true =>
  have hpw:v.kind=5→cr v:=uh hmb
  refine (cP (z8 v) (st0 v) v x w hN (hR.carry (Nat.zero_le _) lz (fun _ _ _=>rfl)) (by unfold st0;split <;> simp) hT hTW hTP (fun u hu hk=>sz (by
   unfold z8 at hu
   by_cases h5:v.kind=5
   · rw [if_pos h5] at hu;rw [hu];exact .inl (hpw h5)
   · rw [if_neg h5] at hu;exact .inr hu) hk) (fun hm w1 hb=>rx hN hlo hb.size (hR.below hb lz lz lz) (fun hk=>⟨(hpw hk).2.2.1,(hpw hk).2.2.2.1⟩))).mono ?_
  rintro e w' (⟨hm,h⟩|⟨hm,u,hu,h⟩)
  · rw [hmb] at hm;cases hm
  · unfold z8 at hu
    unfold st0 at h
    by_cases hk:v.kind=5
    · rw [if_pos hk] at hu h
      subst hu
      have:zc u=u5 u ⟨[],0⟩:=by unfold zc;rw [if_neg (by rw [hmb];decide),if_neg (by simp [hk])];rfl
      rw [this];exact h
    · rw [if_neg hk] at hu h
      subst hu
      have:zc v=(jV,10):=by unfold zc;rw [if_neg (by rw [hmb];decide),if_pos hk]
      rw [this]
      rw [ly] at h;exact h
end Go.Proofs.YtnlgmcapbbgelaaGreatDoor

namespace Go.Proofs.YtnlgmcapbbgelaaGreatDoor
open Go.RowKit
def tV (er:Int) (w:World) (e:Ending) (w':World):Prop:=∃(v2 e2 u1 u2 u3:Int) (n0 n1 n2 n3:Nat) (kb h1 h2 h3:Option Addr) (kd g1 g2 g3:Nat),e=.returned (.tuple #[.agg #[.int .i64 v2,.int .i64 e2,.slice kb n0 kd,.int .i64 u1,.slice h1 n1 g1,.int .i64 u2,.slice h2 n2 g2,.int .i64 u3,.slice h3 n3 g3],.int .i64 er])∧Below w.heap.size w w'
theorem sx (v:JV) (x:Value) (w:World) (lo:Nat) (hlo:0<lo) (hN:v.wt≤4294967296) (hR:Rep w lo w.heap.size v x) (hT:Tabs w) (hTW:TabW w) (hTP:TopsW w):Calls Tryz.prog 13 #[x] w (tV (zc v).2 w):=by
 refine (yb v x w lo hlo hN hR hT hTW hTP).mono ?_
 rintro e w' ⟨ka,kc,j1,c1,j2,c2,j3,c3,h1,h2,h3⟩
 exact ⟨_,_,_,_,_,_,_,_,_,ka,j1,j2,j3,kc,c1,c2,c3,h1,h3⟩
end Go.Proofs.YtnlgmcapbbgelaaGreatDoor
