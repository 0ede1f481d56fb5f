/- Contracts at the example's own data, for legatelaw20.awake. Printed by genawake20.py. -/
import Derived.Test.YthgembbgcbaghaaGreatDoorDa38

namespace Go.Proofs.YthgembbgcbaghaaGreatDoor
open Go.RowKit Go.Shelf Go.Sort
theorem u7 (l l2:List Key2) (rs rs2:List DelegV) (bits bits2 t t2:Int) (pre pre2:ByteArray) (ids ids2:List ByteArray):decide ((⟨l,rs,⟨bits,pre,⟨t,ids⟩⟩⟩:DelegsV)=⟨l2,rs2,⟨bits2,pre2,⟨t2,ids2⟩⟩⟩)=(decide (l=l2) && (decide (bits=bits2) && (decide (pre=pre2) && (decide ((⟨t,ids⟩:AuthV)=⟨t2,ids2⟩) && decide (rs=rs2))))):=by
 simp only [DelegsV.mk.injEq,BinsV.mk.injEq,Bool.decide_and]
 cases decide (l=l2) <;> cases decide (rs=rs2) <;> cases decide (bits=bits2) <;> cases decide (pre=pre2) <;> cases decide ((⟨t,ids⟩:AuthV)=⟨t2,ids2⟩) <;> rfl
theorem y9 (n n2:ByteArray) (a a2:AuthV) (t t2:Bool) (p p2 q q2:List ByteArray):decide ((⟨n,a,t,p,q⟩:DelegV)=⟨n2,a2,t2,p2,q2⟩)=(decide (n=n2) && (decide (t=t2) && (decide (a=a2) && (decide (p=p2) && decide (q=q2))))):=by
 simp only [DelegV.mk.injEq,Bool.decide_and]
 cases decide (n=n2) <;> cases decide (a=a2) <;> cases decide (t=t2) <;> cases decide (p=p2) <;> cases decide (q=q2) <;> rfl
set_option maxHeartbeats 4000000 in
set_option maxRecDepth 100000 in
theorem lB (l:List Key2) (rs:List DelegV) (t bits:Int) (ids:List ByteArray) (pre:ByteArray) (ka ra ba:Option Addr) (kc rc bc:Nat) (l2:List Key2) (rs2:List DelegV) (t2 bits2:Int) (ids2:List ByteArray) (pre2:ByteArray) (kb rb bb:Option Addr) (kd rd bd:Nat) (w:World)
 (hI:DelegsIn w 0 w.heap.size ⟨l,rs,⟨bits,pre,⟨t,ids⟩⟩⟩ ka ra ba) (hJ:DelegsIn w 0 w.heap.size ⟨l2,rs2,⟨bits2,pre2,⟨t2,ids2⟩⟩⟩ kb rb bb) (hf:DelegsFits ⟨l,rs,⟨bits,pre,⟨t,ids⟩⟩⟩) (hg:DelegsFits ⟨l2,rs2,⟨bits2,pre2,⟨t2,ids2⟩⟩⟩) :
 Calls Tryz.prog 17 #[.agg #[.slice ka l.length kc,.slice ra rs.length rc,.int .i64 t,.slice ba ids.length bc,.int .i64 bits,.string pre],.agg #[.slice kb l2.length kd,.slice rb rs2.length rd,.int .i64 t2,.slice bb ids2.length bd,.int .i64 bits2,.string pre2]] w fun r w'=>r=.returned (.bool (decide ((⟨l,rs,⟨bits,pre,⟨t,ids⟩⟩⟩:DelegsV)=⟨l2,rs2,⟨bits2,pre2,⟨t2,ids2⟩⟩⟩)))∧Below w.heap.size w w':=by
 obtain ⟨W,hW⟩:∃W,W=(w.alloc (.cells #[.slice ka l.length kc,.slice ra rs.length rc,.int .i64 t,.slice ba ids.length bc,.int .i64 bits,.string pre] 35)).alloc (.cells #[.slice kb l2.length kd,.slice rb rs2.length rd,.int .i64 t2,.slice bb ids2.length bd,.int .i64 bits2,.string pre2] 35):=⟨_,rfl⟩
 have hb:Below w.heap.size w W:=by rw [hW];exact ((Below.refl _ _).alloc lz _).alloc (by simp) _
 have hx:W.heap[w.heap.size]?=some (.cells #[.slice ka l.length kc,.slice ra rs.length rc,.int .i64 t,.slice ba ids.length bc,.int .i64 bits,.string pre] 35 (0,0)):=by rw [hW];exact zk w _ _
 have hy:W.heap[w.heap.size+1]?=some (.cells #[.slice kb l2.length kd,.slice rb rs2.length rd,.int .i64 t2,.slice bb ids2.length bd,.int .i64 bits2,.string pre2] 35 (0,0)):=by rw [hW];exact jl w _ _
 have HC:=Lh (show ∀w':World,Below W.heap.size W w'→w'.cell? ⟨w.heap.size,0,none⟩=some (.slice ka l.length kc)∧w'.cell? ⟨w.heap.size,1,none⟩=some (.slice ra rs.length rc)∧w'.cell? ⟨w.heap.size,2,none⟩=some (.int .i64 t)∧w'.cell? ⟨w.heap.size,3,none⟩=some (.slice ba ids.length bc)∧w'.cell? ⟨w.heap.size,4,none⟩=some (.int .i64 bits)∧w'.cell? ⟨w.heap.size,5,none⟩=some (.string pre)∧w'.cell? ⟨w.heap.size+1,0,none⟩=some (.slice kb l2.length kd)∧w'.cell? ⟨w.heap.size+1,1,none⟩=some (.slice rb rs2.length rd)∧w'.cell? ⟨w.heap.size+1,2,none⟩=some (.int .i64 t2)∧w'.cell? ⟨w.heap.size+1,3,none⟩=some (.slice bb ids2.length bd)∧w'.cell? ⟨w.heap.size+1,4,none⟩=some (.int .i64 bits2)∧w'.cell? ⟨w.heap.size+1,5,none⟩=some (.string pre2) from fun w' h=>by
  have h1:=(h.block _ (qx hx)).trans hx
  have h2:=(h.block _ (qx hy)).trans hy
  exact ⟨qq h1 rfl,qq h1 rfl,qq h1 rfl,qq h1 rfl,qq h1 rfl,qq h1 rfl,qq h2 rfl,qq h2 rfl,qq h2 rfl,qq h2 rfl,qq h2 rfl,qq h2 rfl⟩)
 have HV:=Lh (u7 l l2 rs rs2 bits bits2 t t2 pre pre2 ids ids2)
 have HI:=Lh (show ∀w':World,Below W.heap.size W w'→DelegsIn w' 0 w'.heap.size ⟨l,rs,⟨bits,pre,⟨t,ids⟩⟩⟩ ka ra ba∧DelegsIn w' 0 w'.heap.size ⟨l2,rs2,⟨bits2,pre2,⟨t2,ids2⟩⟩⟩ kb rb bb from fun w' h=>⟨hI.below (hb.trans (h.mono hb.size)) lz lz (Nat.le_trans hb.size h.size),hJ.below (hb.trans (h.mono hb.size)) lz lz (Nat.le_trans hb.size h.size)⟩)
 have HF:=Lh (And.intro hf hg)
 have f1:l.length≤40:=hf.len
 have f2:l2.length≤40:=hg.len
 have f3:rs.length≤70:=hf.many
 have f4:rs2.length≤70:=hg.many
 have f5:ids.length≤4294967296:=hf.au.2.1
 have f6:ids2.length≤4294967296:=hg.au.2.1
 have HB:=Lh hb
 have HWH:=Lh hW
 have HZZ:=Lh (show w.heap.size+1<W.heap.size from qx hy)
 have HEK:=Lh (lG l l2 ka kb kc kd W (HI.out W (Below.refl _ _)).1.keys (HI.out W (Below.refl _ _)).2.keys (by omega) (by omega))
 have HEA:=Lh (show ∀w':World,Below W.heap.size W w'→_ from fun w' h=>yZ t t2 ids ids2 ba bb bc bd w' (HI.out w' h).1.bids (HI.out w' h).2.bids f5 f6)
 obtain ⟨q,hq⟩:∃q,q=decide ((⟨l,rs,⟨bits,pre,⟨t,ids⟩⟩⟩:DelegsV)=⟨l2,rs2,⟨bits2,pre2,⟨t2,ids2⟩⟩⟩):=⟨_,rfl⟩
 rw [← hq] at HV ⊢
 obtain ⟨ek,hek⟩:∃ek,ek=decide (l=l2):=⟨_,rfl⟩
 rw [← hek] at HEK HV
 obtain ⟨ea,hea⟩:∃ea,ea=decide ((⟨t,ids⟩:AuthV)=⟨t2,ids2⟩):=⟨_,rfl⟩
 rw [← hea] at HEA HV
 clear hb hW hx hy hI hJ hf hg hq hek hea f1 f2 f5 f6
 obtain ⟨x0,x1,x2,x3,x4,x5,y0,y1,y2,y3,y4,y5⟩:=HC.out W (Below.refl _ _)
 go_enter Tryz.func17,Tryz.ntmps17
 go_upto_region 1 with fail
 rw [← HWH.out]
 clear HWH
 go_wp2_with fail
 refine HEK.out.mono ?_
 clear HEK
 clear x0 x1 x2 x3 x4 x5 y0 y1 y2 y3 y4 y5
 rintro r w1 ⟨rfl,hb1⟩
 have HB1:=Lh hb1
 obtain ⟨x0,x1,x2,x3,x4,x5,y0,y1,y2,y3,y4,y5⟩:=HC.out w1 hb1
 clear hb1
 cases ek with
 | false =>
  rw [Bool.false_and] at HV
  go_wp2
  go_ret
  exact ⟨qz HV.out.symm,HB.out.trans (HB1.out.mono HB.out.size)⟩
 | true =>
 rw [Bool.true_and] at HV
 by_cases hlr:rs.length=rs2.length
 case neg =>
  have n2:((rs.length:Int) != (rs2.length:Int))=true:=by simp;omega
  have HQ:=Lh (show q=false by rw [HV.out,decide_eq_false (p:=rs=rs2) (fun e=>hlr (by rw [e]))];simp)
  clear hlr
  go_wp2
  go_ret
  exact ⟨qz HQ.out.symm,HB.out.trans (HB1.out.mono HB.out.size)⟩
 obtain ⟨nn,hnn⟩:∃nn,nn=rs.length:=⟨_,rfl⟩
 have HNL:=Lh hnn
 have HNM:=Lh (show nn=rs2.length by rw [hnn,hlr])
 rw [← hlr] at y1
 rw [← hnn] at x1 y1 f3
 have n2:((nn:Int) != (nn:Int))=false:=by simp
 by_cases hbt:bits=bits2
 case neg =>
  have n3:(bits != bits2)=true:=by simpa using hbt
  have HQ:=Lh (show q=false by rw [HV.out,decide_eq_false hbt];simp)
  clear hbt hlr hnn
  go_wp2
  go_ret
  exact ⟨qz HQ.out.symm,HB.out.trans (HB1.out.mono HB.out.size)⟩
 have n3:(bits != bits2)=false:=by simpa using hbt
 rw [decide_eq_true hbt,Bool.true_and] at HV
 cases hpr:(pre.toList == pre2.toList)
 · have n4:(pre.toList != pre2.toList)=true:=by simpa [bne] using hpr
   have HQ:=Lh (show q=false by rw [HV.out,decide_eq_false (p:=pre=pre2) (fun e=>by rw [e] at hpr;simp at hpr)];simp)
   clear hbt hlr hnn
   go_wp2
   go_ret
   exact ⟨qz HQ.out.symm,HB.out.trans (HB1.out.mono HB.out.size)⟩
 have n4:(pre.toList != pre2.toList)=false:=by simpa [bne] using hpr
 rw [decide_eq_true (p:=pre=pre2) (by rw [ba_eq,decide_eq_true_eq] at hpr;exact hpr),Bool.true_and] at HV
 have HLR:=Lh hlr
 clear hbt hlr hnn
 go_wp2_with fail
 refine (HEA.out w1 HB1.out).mono ?_
 clear HEA
 clear x0 x1 x2 x3 x4 x5 y0 y1 y2 y3 y4 y5
 rintro r w2 ⟨rfl,hb2⟩
 have HB2:=Lh (HB1.out.trans (hb2.mono HB1.out.size))
 clear hb2
 cases ea with
 | false =>
  rw [Bool.false_and] at HV
  go_wp2
  go_ret
  exact ⟨qz HV.out.symm,HB.out.trans (HB2.out.mono HB.out.size)⟩
 | true =>
 rw [Bool.true_and] at HV
 rw [← HLR.out,← HNL.out] at HC
 clear HLR n2 n3 n4 hpr
 go_wp2_with fail
 go_loopw [5,6,7] (fun i _ _ wr=>∃k:Nat,k≤nn∧i=.int .i64 k∧rs.take k=rs2.take k∧Below W.heap.size W wr) (fun i _ _ _=>nn - (intOf i).toNat)
 case atStart=>exact ⟨0,by omega,rfl,rfl,HB2.out⟩
 case round =>
  obtain ⟨k,hk,rfl,htk,hbk⟩:=hrel
  have HTK:=Lh htk
  have HBK:=Lh hbk
  obtain ⟨x0,x1,x2,x3,x4,x5,y0,y1,y2,y3,y4,y5⟩:=HC.out wr hbk
  clear htk hbk
  by_cases hlt:k<nn
  · have hkl:k<rs.length:=by rw [← HNL.out];exact hlt
    have hkm:k<rs2.length:=by rw [← HNM.out];exact hlt
    obtain ⟨p,o,ha,-,hp,ia,ic,pa,pc,qa,qc,e0,e1,e2,e3,e4,e5,-,-,-,hin⟩:=(HI.out wr HBK.out).1.roles.at k hkl
    subst ha
    obtain ⟨p2,o2,ha,-,hp2,ja,jc,va,vc,sa,sc,g0,g1,g2,g3,g4,g5,-,-,-,hjn⟩:=(HI.out wr HBK.out).2.roles.at k hkm
    subst ha
    have m1:(0:Int)≤(k:Int):=by omega
    have m2:(k:Int)<(nn:Int):=by omega
    have m3:decide ((k:Int)<(nn:Int))=true:=by simpa using hlt
    have HTS:=Lh (show rs[k]=rs2[k]→rs.take (k+1)=rs2.take (k+1) from fun e=>by rw [List.take_succ_eq_append_getElem hkl,List.take_succ_eq_append_getElem hkm,HTK.out,e])
    have HNE:=Lh (show rs[k]≠rs2[k]→decide (rs=rs2)=false from fun e=>decide_eq_false fun e2=>e (by subst e2;rfl))
    have hm1:=HF.out.1.roles _ (List.getElem_mem hkl)
    have hm2:=HF.out.2.roles _ (List.getElem_mem hkm)
    obtain ⟨x,hx⟩:∃x,x=rs[k]:=⟨_,rfl⟩
    rw [← hx] at e0 e1 e2 e3 e4 e5 hin HTS HNE hm1
    obtain ⟨y,hy⟩:∃y,y=rs2[k]:=⟨_,rfl⟩
    rw [← hy] at g0 g1 g2 g3 g4 g5 hjn HTS HNE hm2
    clear hx hy
    obtain ⟨nm,⟨thr,xid⟩,tm,ps,qs⟩:=x
    obtain ⟨nm2,⟨thr2,xid2⟩,tm2,ps2,qs2⟩:=y
    dsimp only at e0 e1 e2 e3 e4 e5 g0 g1 g2 g3 g4 g5
    have HIN:=Lh hin
    have HJN:=Lh hjn
    have HM1:=Lh hm1
    have HM2:=Lh hm2
    have HP:=Lh (show w.heap.size+1<wr.heap.size from Nat.lt_of_lt_of_le HZZ.out HBK.out.size)
    clear hin hjn hm1 hm2
    go_upto_region 6 with fail
    clear x0 x2 x3 x4 x5 y0 y2 y3 y4 y5
    go_region_held3 (fun w'=>w'.cell? ⟨w.heap.size,1,none⟩=some (.slice (some ⟨p,o,none⟩) nn rc)∧w'.cell? ⟨w.heap.size+1,1,none⟩=some (.slice (some ⟨p2,o2,none⟩) nn rd)∧w'.cell? ⟨p,o+k * 6,none⟩=some (.string nm)∧w'.cell? ⟨p,o+k * 6+1,none⟩=some (.int .i64 thr)∧w'.cell? ⟨p,o+k * 6+2,none⟩=some (.slice ia xid.length ic)∧w'.cell? ⟨p,o+k * 6+3,none⟩=some (.bool tm)∧w'.cell? ⟨p,o+k * 6+4,none⟩=some (.slice pa ps.length pc)∧w'.cell? ⟨p,o+k * 6+5,none⟩=some (.slice qa qs.length qc)∧w'.cell? ⟨p2,o2+k * 6,none⟩=some (.string nm2)∧w'.cell? ⟨p2,o2+k * 6+1,none⟩=some (.int .i64 thr2)∧w'.cell? ⟨p2,o2+k * 6+2,none⟩=some (.slice ja xid2.length jc)∧w'.cell? ⟨p2,o2+k * 6+3,none⟩=some (.bool tm2)∧w'.cell? ⟨p2,o2+k * 6+4,none⟩=some (.slice va ps2.length vc)∧w'.cell? ⟨p2,o2+k * 6+5,none⟩=some (.slice sa qs2.length sc)) (first|(with_reducible exact ⟨x1,y1,e0,e1,e2,e3,e4,e5,g0,g1,g2,g3,g4,g5⟩)|(go_keep;done)) (fail)
    · rename_i hS
      clear hS
      obtain ⟨WX,hWX⟩:∃WX,WX=((wr.alloc (.cells #[.string nm,.int .i64 thr,.slice ia xid.length ic,.bool tm,.slice pa ps.length pc,.slice qa qs.length qc] 41)).alloc (.cells #[.string nm2,.int .i64 thr2,.slice ja xid2.length jc,.bool tm2,.slice va ps2.length vc,.slice sa qs2.length sc] 41)).drew:=⟨_,rfl⟩
      rw [← hWX]
      have hbX:Below wr.heap.size wr WX:=by rw [hWX];exact (((Below.refl _ _).alloc lz _).alloc (by simp) _).drew
      have hxX:WX.heap[wr.heap.size]?=some (.cells #[.string nm,.int .i64 thr,.slice ia xid.length ic,.bool tm,.slice pa ps.length pc,.slice qa qs.length qc] 41 (0,0)):=by rw [hWX];exact zk wr _ _
      have hyX:WX.heap[wr.heap.size+1]?=some (.cells #[.string nm2,.int .i64 thr2,.slice ja xid2.length jc,.bool tm2,.slice va ps2.length vc,.slice sa qs2.length sc] 41 (0,0)):=by rw [hWX];exact jl wr _ _
      have HCX:=Lh (show ∀w':World,Below WX.heap.size WX w'→w'.cell? ⟨wr.heap.size,0,none⟩=some (.string nm)∧w'.cell? ⟨wr.heap.size,1,none⟩=some (.int .i64 thr)∧w'.cell? ⟨wr.heap.size,2,none⟩=some (.slice ia xid.length ic)∧w'.cell? ⟨wr.heap.size,3,none⟩=some (.bool tm)∧w'.cell? ⟨wr.heap.size,4,none⟩=some (.slice pa ps.length pc)∧w'.cell? ⟨wr.heap.size,5,none⟩=some (.slice qa qs.length qc)∧w'.cell? ⟨wr.heap.size+1,0,none⟩=some (.string nm2)∧w'.cell? ⟨wr.heap.size+1,1,none⟩=some (.int .i64 thr2)∧w'.cell? ⟨wr.heap.size+1,2,none⟩=some (.slice ja xid2.length jc)∧w'.cell? ⟨wr.heap.size+1,3,none⟩=some (.bool tm2)∧w'.cell? ⟨wr.heap.size+1,4,none⟩=some (.slice va ps2.length vc)∧w'.cell? ⟨wr.heap.size+1,5,none⟩=some (.slice sa qs2.length sc) from fun w' h=>by
       have h1:=(h.block _ (qx hxX)).trans hxX
       have h2:=(h.block _ (qx hyX)).trans hyX
       exact ⟨qq h1 rfl,qq h1 rfl,qq h1 rfl,qq h1 rfl,qq h1 rfl,qq h1 rfl,qq h2 rfl,qq h2 rfl,qq h2 rfl,qq h2 rfl,qq h2 rfl,qq h2 rfl⟩)
      have HBX:=Lh (HBK.out.trans (hbX.mono HBK.out.size))
      have hm1:=HM1.out
      have hm2:=HM2.out
      have hcar:=fun (w':World) (h:Below WX.heap.size WX w')=>hbX.trans (h.mono hbX.size)
      have HT5:=Lh (show ∀w':World,Below WX.heap.size WX w'→_ from fun w' h=>yZ thr thr2 xid xid2 ia ja ic jc w' (HIN.out.ids.below (hcar w' h) lz lz (hcar w' h).size) (HJN.out.ids.below (hcar w' h) lz lz (hcar w' h).size) hm1.au.2.1 hm2.au.2.1)
      have HTP:=Lh (show ∀w':World,Below WX.heap.size WX w'→_ from fun w' h=>kD ps ps2 pa va pc vc w' (HIN.out.paths.below (hcar w' h) lz lz (hcar w' h).size) (HJN.out.paths.below (hcar w' h) lz lz (hcar w' h).size) hm1.paths.1)
      have HTQ:=Lh (show ∀w':World,Below WX.heap.size WX w'→_ from fun w' h=>kD qs qs2 qa sa qc sc w' (HIN.out.pres.below (hcar w' h) lz lz (hcar w' h).size) (HJN.out.pres.below (hcar w' h) lz lz (hcar w' h).size) hm1.pres.1)
      have HSX:=Lh (y9 nm nm2 ⟨thr,xid⟩ ⟨thr2,xid2⟩ tm tm2 ps ps2 qs qs2)
      obtain ⟨sx,hsx⟩:∃sx,sx=decide ((⟨nm,⟨thr,xid⟩,tm,ps,qs⟩:DelegV)=⟨nm2,⟨thr2,xid2⟩,tm2,ps2,qs2⟩):=⟨_,rfl⟩
      rw [← hsx] at HSX
      replace HNE:=Lh (show sx=false→decide (rs=rs2)=false from fun h=>HNE.out (by rw [hsx] at h;exact of_decide_eq_false h))
      replace HTS:=Lh (show sx=true→rs.take (k+1)=rs2.take (k+1) from fun h=>HTS.out (by rw [hsx] at h;exact of_decide_eq_true h))
      obtain ⟨sa',hsa⟩:∃s',s'=decide ((⟨thr,xid⟩:AuthV)=⟨thr2,xid2⟩):=⟨_,rfl⟩
      rw [← hsa] at HSX HT5
      obtain ⟨sp,hsp⟩:∃s',s'=decide (ps=ps2):=⟨_,rfl⟩
      rw [← hsp] at HSX HTP
      obtain ⟨sq,hsq⟩:∃s',s'=decide (qs=qs2):=⟨_,rfl⟩
      rw [← hsq] at HSX HTQ
      clear hWX hbX hxX hyX hm1 hm2 hcar hsx hsa hsp hsq x1 y1 e0 e1 e2 e3 e4 e5 g0 g1 g2 g3 g4 g5
      obtain ⟨u0,u1,u2,u3,u4,u5,v0,v1,v2,v3,v4,v5⟩:=HCX.out WX (Below.refl _ _)
      cases hn:(nm.toList == nm2.toList)
      · have hn':(nm.toList != nm2.toList)=true:=by simpa [bne] using hn
        have HQ:=Lh (show q=false by rw [HV.out];exact HNE.out (by rw [HSX.out,decide_eq_false (p:=nm=nm2) (fun e=>by rw [e] at hn;simp at hn)];rfl))
        go_wp2
        go_ret
        exact ⟨qz HQ.out.symm,HB.out.trans (HBX.out.mono HB.out.size)⟩
      have hn':(nm.toList != nm2.toList)=false:=by simpa [bne] using hn
      rw [decide_eq_true (p:=nm=nm2) (by rw [ba_eq,decide_eq_true_eq] at hn;exact hn),Bool.true_and] at HSX
      by_cases ht:tm=tm2
      case neg =>
       have ht':(tm != tm2)=true:=by simpa using ht
       have ht2:(tm == tm2)=false:=by simpa using ht
       have HQ:=Lh (show q=false by rw [HV.out];exact HNE.out (by rw [HSX.out,decide_eq_false ht];rfl))
       clear ht
       go_wp2
       go_ret
       exact ⟨qz HQ.out.symm,HB.out.trans (HBX.out.mono HB.out.size)⟩
      have ht':(tm != tm2)=false:=by simpa using ht
      have ht2:(tm == tm2)=true:=by simpa using ht
      rw [decide_eq_true ht,Bool.true_and] at HSX
      clear ht
      go_wp2_with fail
      refine (HT5.out WX (Below.refl _ _)).mono ?_
      clear HT5
      clear u0 v0 u1 v1 u2 v2 u3 v3 u4 v4 u5 v5
      rintro r w5 ⟨rfl,hb5⟩
      obtain ⟨u0,u1,u2,u3,u4,u5,v0,v1,v2,v3,v4,v5⟩:=HCX.out w5 hb5
      have HB5:=Lh hb5
      have HBW:=Lh (HBX.out.trans (hb5.mono HBX.out.size))
      clear hb5
      cases sa' with
      | false =>
       have HQ:=Lh (show q=false by rw [HV.out];exact HNE.out (by rw [HSX.out];rfl))
       go_wp2
       go_ret
       exact ⟨qz HQ.out.symm,HB.out.trans (HBW.out.mono HB.out.size)⟩
      | true =>
      rw [Bool.true_and] at HSX
      go_wp2_with fail
      refine (HTP.out w5 HB5.out).mono ?_
      clear HTP
      rintro r w6 ⟨rfl,n6,rfl⟩
      cases sp with
      | false =>
       have HQ:=Lh (show q=false by rw [HV.out];exact HNE.out (by rw [HSX.out];rfl))
       go_wp2
       go_ret
       exact ⟨qz HQ.out.symm,Below.drewN (HB.out.trans (HBW.out.mono HB.out.size)) _⟩
      | true =>
      rw [Bool.true_and] at HSX
      go_wp2_with fail
      refine (HTQ.out (w5.drewN n6) (Below.drewN HB5.out _)).mono ?_
      clear HTQ
      rintro r w7 ⟨rfl,n7,rfl⟩
      cases sq with
      | false =>
       have HQ:=Lh (show q=false by rw [HV.out];exact HNE.out HSX.out)
       go_wp2
       go_ret
       exact ⟨qz HQ.out.symm,Below.drewN (HB.out.trans (HBW.out.mono HB.out.size)) _⟩
      | true =>
       have HEQ:=Lh (HTS.out HSX.out)
       go_wp2
       go_roundw
       case rel=>exact ⟨k+1,by omega,by go_num,HEQ.out,Below.drewN HBW.out _⟩
       case measure=>simp [intOf];omega
    · rename_i hS
      clear hS
      obtain ⟨WX,hWX⟩:∃WX,WX=((wr.alloc (.cells #[.string nm2,.int .i64 thr2,.slice ja xid2.length jc,.bool tm2,.slice va ps2.length vc,.slice sa qs2.length sc] 41)).alloc (.cells #[.string nm,.int .i64 thr,.slice ia xid.length ic,.bool tm,.slice pa ps.length pc,.slice qa qs.length qc] 41)).drew:=⟨_,rfl⟩
      rw [← hWX]
      have hbX:Below wr.heap.size wr WX:=by rw [hWX];exact (((Below.refl _ _).alloc lz _).alloc (by simp) _).drew
      have hxX:WX.heap[wr.heap.size+1]?=some (.cells #[.string nm,.int .i64 thr,.slice ia xid.length ic,.bool tm,.slice pa ps.length pc,.slice qa qs.length qc] 41 (0,0)):=by rw [hWX];exact jl wr _ _
      have hyX:WX.heap[wr.heap.size]?=some (.cells #[.string nm2,.int .i64 thr2,.slice ja xid2.length jc,.bool tm2,.slice va ps2.length vc,.slice sa qs2.length sc] 41 (0,0)):=by rw [hWX];exact zk wr _ _
      have HCX:=Lh (show ∀w':World,Below WX.heap.size WX w'→w'.cell? ⟨wr.heap.size+1,0,none⟩=some (.string nm)∧w'.cell? ⟨wr.heap.size+1,1,none⟩=some (.int .i64 thr)∧w'.cell? ⟨wr.heap.size+1,2,none⟩=some (.slice ia xid.length ic)∧w'.cell? ⟨wr.heap.size+1,3,none⟩=some (.bool tm)∧w'.cell? ⟨wr.heap.size+1,4,none⟩=some (.slice pa ps.length pc)∧w'.cell? ⟨wr.heap.size+1,5,none⟩=some (.slice qa qs.length qc)∧w'.cell? ⟨wr.heap.size,0,none⟩=some (.string nm2)∧w'.cell? ⟨wr.heap.size,1,none⟩=some (.int .i64 thr2)∧w'.cell? ⟨wr.heap.size,2,none⟩=some (.slice ja xid2.length jc)∧w'.cell? ⟨wr.heap.size,3,none⟩=some (.bool tm2)∧w'.cell? ⟨wr.heap.size,4,none⟩=some (.slice va ps2.length vc)∧w'.cell? ⟨wr.heap.size,5,none⟩=some (.slice sa qs2.length sc) from fun w' h=>by
       have h1:=(h.block _ (qx hxX)).trans hxX
       have h2:=(h.block _ (qx hyX)).trans hyX
       exact ⟨qq h1 rfl,qq h1 rfl,qq h1 rfl,qq h1 rfl,qq h1 rfl,qq h1 rfl,qq h2 rfl,qq h2 rfl,qq h2 rfl,qq h2 rfl,qq h2 rfl,qq h2 rfl⟩)
      have HBX:=Lh (HBK.out.trans (hbX.mono HBK.out.size))
      have hm1:=HM1.out
      have hm2:=HM2.out
      have hcar:=fun (w':World) (h:Below WX.heap.size WX w')=>hbX.trans (h.mono hbX.size)
      have HT5:=Lh (show ∀w':World,Below WX.heap.size WX w'→_ from fun w' h=>yZ thr thr2 xid xid2 ia ja ic jc w' (HIN.out.ids.below (hcar w' h) lz lz (hcar w' h).size) (HJN.out.ids.below (hcar w' h) lz lz (hcar w' h).size) hm1.au.2.1 hm2.au.2.1)
      have HTP:=Lh (show ∀w':World,Below WX.heap.size WX w'→_ from fun w' h=>kD ps ps2 pa va pc vc w' (HIN.out.paths.below (hcar w' h) lz lz (hcar w' h).size) (HJN.out.paths.below (hcar w' h) lz lz (hcar w' h).size) hm1.paths.1)
      have HTQ:=Lh (show ∀w':World,Below WX.heap.size WX w'→_ from fun w' h=>kD qs qs2 qa sa qc sc w' (HIN.out.pres.below (hcar w' h) lz lz (hcar w' h).size) (HJN.out.pres.below (hcar w' h) lz lz (hcar w' h).size) hm1.pres.1)
      have HSX:=Lh (y9 nm nm2 ⟨thr,xid⟩ ⟨thr2,xid2⟩ tm tm2 ps ps2 qs qs2)
      obtain ⟨sx,hsx⟩:∃sx,sx=decide ((⟨nm,⟨thr,xid⟩,tm,ps,qs⟩:DelegV)=⟨nm2,⟨thr2,xid2⟩,tm2,ps2,qs2⟩):=⟨_,rfl⟩
      rw [← hsx] at HSX
      replace HNE:=Lh (show sx=false→decide (rs=rs2)=false from fun h=>HNE.out (by rw [hsx] at h;exact of_decide_eq_false h))
      replace HTS:=Lh (show sx=true→rs.take (k+1)=rs2.take (k+1) from fun h=>HTS.out (by rw [hsx] at h;exact of_decide_eq_true h))
      obtain ⟨sa',hsa⟩:∃s',s'=decide ((⟨thr,xid⟩:AuthV)=⟨thr2,xid2⟩):=⟨_,rfl⟩
      rw [← hsa] at HSX HT5
      obtain ⟨sp,hsp⟩:∃s',s'=decide (ps=ps2):=⟨_,rfl⟩
      rw [← hsp] at HSX HTP
      obtain ⟨sq,hsq⟩:∃s',s'=decide (qs=qs2):=⟨_,rfl⟩
      rw [← hsq] at HSX HTQ
      clear hWX hbX hxX hyX hm1 hm2 hcar hsx hsa hsp hsq x1 y1 e0 e1 e2 e3 e4 e5 g0 g1 g2 g3 g4 g5
      obtain ⟨u0,u1,u2,u3,u4,u5,v0,v1,v2,v3,v4,v5⟩:=HCX.out WX (Below.refl _ _)
      cases hn:(nm.toList == nm2.toList)
      · have hn':(nm.toList != nm2.toList)=true:=by simpa [bne] using hn
        have HQ:=Lh (show q=false by rw [HV.out];exact HNE.out (by rw [HSX.out,decide_eq_false (p:=nm=nm2) (fun e=>by rw [e] at hn;simp at hn)];rfl))
        go_wp2
        go_ret
        exact ⟨qz HQ.out.symm,HB.out.trans (HBX.out.mono HB.out.size)⟩
      have hn':(nm.toList != nm2.toList)=false:=by simpa [bne] using hn
      rw [decide_eq_true (p:=nm=nm2) (by rw [ba_eq,decide_eq_true_eq] at hn;exact hn),Bool.true_and] at HSX
      by_cases ht:tm=tm2
      case neg =>
       have ht':(tm != tm2)=true:=by simpa using ht
       have ht2:(tm == tm2)=false:=by simpa using ht
       have HQ:=Lh (show q=false by rw [HV.out];exact HNE.out (by rw [HSX.out,decide_eq_false ht];rfl))
       clear ht
       go_wp2
       go_ret
       exact ⟨qz HQ.out.symm,HB.out.trans (HBX.out.mono HB.out.size)⟩
      have ht':(tm != tm2)=false:=by simpa using ht
      have ht2:(tm == tm2)=true:=by simpa using ht
      rw [decide_eq_true ht,Bool.true_and] at HSX
      clear ht
      go_wp2_with fail
      refine (HT5.out WX (Below.refl _ _)).mono ?_
      clear HT5
      clear u0 v0 u1 v1 u2 v2 u3 v3 u4 v4 u5 v5
      rintro r w5 ⟨rfl,hb5⟩
      obtain ⟨u0,u1,u2,u3,u4,u5,v0,v1,v2,v3,v4,v5⟩:=HCX.out w5 hb5
      have HB5:=Lh hb5
      have HBW:=Lh (HBX.out.trans (hb5.mono HBX.out.size))
      clear hb5
      cases sa' with
      | false =>
       have HQ:=Lh (show q=false by rw [HV.out];exact HNE.out (by rw [HSX.out];rfl))
       go_wp2
       go_ret
       exact ⟨qz HQ.out.symm,HB.out.trans (HBW.out.mono HB.out.size)⟩
      | true =>
      rw [Bool.true_and] at HSX
      go_wp2_with fail
      refine (HTP.out w5 HB5.out).mono ?_
      clear HTP
      rintro r w6 ⟨rfl,n6,rfl⟩
      cases sp with
      | false =>
       have HQ:=Lh (show q=false by rw [HV.out];exact HNE.out (by rw [HSX.out];rfl))
       go_wp2
       go_ret
       exact ⟨qz HQ.out.symm,Below.drewN (HB.out.trans (HBW.out.mono HB.out.size)) _⟩
      | true =>
      rw [Bool.true_and] at HSX
      go_wp2_with fail
      refine (HTQ.out (w5.drewN n6) (Below.drewN HB5.out _)).mono ?_
      clear HTQ
      rintro r w7 ⟨rfl,n7,rfl⟩
      cases sq with
      | false =>
       have HQ:=Lh (show q=false by rw [HV.out];exact HNE.out HSX.out)
       go_wp2
       go_ret
       exact ⟨qz HQ.out.symm,Below.drewN (HB.out.trans (HBW.out.mono HB.out.size)) _⟩
      | true =>
       have HEQ:=Lh (HTS.out HSX.out)
       go_wp2
       go_roundw
       case rel=>exact ⟨k+1,by omega,by go_num,HEQ.out,Below.drewN HBW.out _⟩
       case measure=>simp [intOf];omega
  · obtain rfl:k=nn:=by omega
    have m3:decide ((k:Int)<(k:Int))=false:=by simp
    have HR:=Lh (show q=true by
     rw [HV.out]
     have:=HTK.out
     rw [List.take_of_length_le (by rw [← HNL.out];exact Nat.le_refl _),List.take_of_length_le (by rw [← HNM.out];exact Nat.le_refl _)] at this
     exact decide_eq_true this)
    go_wp2
    go_ret
    exact ⟨qz HR.out.symm,HB.out.trans (HBK.out.mono HB.out.size)⟩
def ogK (u:JV) (st:PS):JV × PS:=qr u keysN 32 st
def ogL (u:JV) (st:PS):List Key2 × Int:=xm (ogK u st).1
def ogS (u:JV) (st:PS):PS:=(ogK u st).2.fail (ogL u st).2
def ogO (u:JV) (st:PS):JV × PS:=qr u zA 8192 (ogS u st)
def ogR (u:JV) (st:PS):List JV × PS:=qJ u z7 64 (ogS u st)
def ogB (u:JV) (st:PS):(BinsV × List DelegV) × PS:=if qN u zA (ogS u st) then (((zE (ogO u st).1).1,[]),(ogO u st).2.fail (zE (ogO u st).1).2) else ((xA,(zT (ogR u st).1 []).1),(ogR u st).2.fail (zT (ogR u st).1 []).2)
def gm (u:JV) (st:PS):DelegsV × Int:=if qh u (ogB u st).2≠0 then (xD,qh u (ogB u st).2) else (⟨(ogL u st).1,(ogB u st).1.2,(ogB u st).1.1⟩,0)
theorem mq:gm zx ⟨[],10⟩=(xD,10):=by decide +kernel
theorem lP {v:JV} {y:ByteArray} {most:Nat} {st:PS}:(qJ v y most st).1.length≤most∧JV.wts (qJ v y most st).1≤v.wt:=by
 unfold qJ
 split
 · exact ⟨Nat.zero_le _,by simp [JV.wts]⟩
 · split
   · exact ⟨Nat.zero_le _,by simp [JV.wts]⟩
   · rename_i it hit
     split
     · exact ⟨Nat.zero_le _,by simp [JV.wts]⟩
     · split
       · exact ⟨Nat.zero_le _,by simp [JV.wts]⟩
       · refine ⟨by show it.items.length≤most;omega,?_⟩
         have h2:=it.wt_eq
         obtain ⟨j,hj,rfl⟩:=List.getElem_of_mem (ky hit).2
         have h4:=JV.wts_get v.items j hj
         have h5:=v.wt_eq
         show JV.wts v.items[j].items≤v.wt
         omega
theorem tx {u:JV} {st:PS} (h:st.asked.length≤1000):(ogS u st).asked.length≤1001:=by
 have h1:=@aO u keysN 32 st
 unfold ogS ogK
 rw [kw]
 omega
def fG (u:JV) (st:PS):Prop:=((ogO u st).1.kind=5→qe (ogO u st).1.names=true∧(ogO u st).1.names.length=(ogO u st).1.items.length)∧∀v ∈ (ogR u st).1,v.kind=5→qe v.names=true∧v.names.length=v.items.length
def kL (r:DelegsV × Int) (w:World) (e:Ending) (w':World):Prop :=
 ∃ka kc ra rc ba bc,e=.returned (.tuple #[.agg #[.slice ka r.1.keys.length kc,.slice ra r.1.roles.length rc,.int .i64 r.1.bins.au.thr,.slice ba r.1.bins.au.ids.length bc,.int .i64 r.1.bins.bits,.string r.1.bins.pre],.int .i64 r.2])∧r.1.roles.length≤rc∧DelegsIn w' w.heap.size w'.heap.size r.1 ka ra ba∧Below w.heap.size w w'
theorem vh {er:Int} {w w':World} (hb:Below w.heap.size w w'):kL (xD,er) w (.returned (.tuple #[.agg #[.slice none 0 0,.slice none 0 0,.int .i64 0,.slice none 0 0,.int .i64 0,.string ⟨#[]⟩],.int .i64 er])) w' :=
 ⟨none,0,none,0,none,0,rfl,Nat.le_refl _,⟨.inl rfl,.inl rfl,.inl rfl⟩,hb⟩
def mz (C:JV→Prop) (st:PS) (mb:Bool) (w:World) (e:Ending) (w':World):Prop:=(mb=false∧kL (xD,3) w e w')∨(mb=true∧∃u,C u∧kL (gm u st) w e w')
set_option maxHeartbeats 4000000 in
set_option maxRecDepth 100000 in
theorem p5 (C:JV→Prop) (st:PS) (v:JV) (x:Value) (w:World) (hN:v.wt≤4294967296) (hR:Rep w 0 w.heap.size v x) (ha:st.asked.length≤1000) (hT:Tabs w) (hC:∀u,C u→fG u st)
 (hOf:v.mayB=true→∀w1,Below w.heap.size w w1→Calls Tryz.prog 60 #[x] w1 (wD C st w1)) :
 Calls Tryz.prog 16 #[x] w (mz C st v.mayB w):=by
 obtain ⟨an,cn,ai,ci,hx,h1,h2,h3,h4⟩:=hR.parts
 clear h1 h2 h3 h4
 subst hx
 obtain ⟨W,hW⟩:∃W,W=(w.alloc (.cells #[.int .u8 v.kind,.int .i64 v.n,.string v.t,.slice an v.names.length cn,.slice ai v.items.length ci] 25)).alloc (.cells #[.slice none 0 0,.slice none 0 0,.int .i64 0,.slice none 0 0,.int .i64 0,.string ⟨#[]⟩] 35):=⟨_,rfl⟩
 have hz1:(w.alloc (.cells #[.int .u8 v.kind,.int .i64 v.n,.string v.t,.slice an v.names.length cn,.slice ai v.items.length ci] 25)).heap.size=w.heap.size+1:=by simp
 have hb:Below w.heap.size w W:=by rw [hW];exact ((Below.refl _ _).alloc lz _).alloc (by simp) _
 have hx0:W.heap[w.heap.size]?=some (.cells #[.int .u8 v.kind,.int .i64 v.n,.string v.t,.slice an v.names.length cn,.slice ai v.items.length ci] 25 (0,0)):=by rw [hW];exact zk w _ _
 have hr0:W.rowIs (w.heap.size+1) 35 6 (qo (.slice none 0 0) (.slice none 0 0) (.int .i64 0) (.slice none 0 0) (.int .i64 0) (.string ⟨#[]⟩)):=by
  have:=z8 (w.alloc (.cells #[.int .u8 v.kind,.int .i64 v.n,.string v.t,.slice an v.names.length cn,.slice ai v.items.length ci] 25)) (.slice none 0 0) (.slice none 0 0) (.int .i64 0) (.slice none 0 0) (.int .i64 0) (.string ⟨#[]⟩) 35
  rw [hz1,← hW] at this
  exact this
 have HOF:=Lh hOf
 have HMY:=Lh (kj v _ W hN (hR.below hb lz (Nat.zero_le _) hb.size))
 obtain ⟨mb,hmb⟩:∃mb,mb=v.mayB:=⟨_,rfl⟩
 rw [← hmb] at HMY HOF ⊢
 have HCC:=Lh hC
 have HTB:=Lh (show ∀w':World,Below w.heap.size w w'→Tabs w' from fun w' h=>hT.below h)
 have HB:=Lh hb
 have HX0:=Lh hx0
 have HR0:=Lh hr0
 have HW:=Lh hW
 have HA:=Lh ha
 have HZ1:=Lh (show w.heap.size+2≤W.heap.size from hr0.lt)
 clear hOf hW hz1 hb hx0 hr0 hR ha hmb hN hC hT
 obtain ⟨c0,c1,c2,c3,c4⟩:=bx5 HX0.out
 go_enter Tryz.func16,Tryz.ntmps16
 go_upto_region 1 with fail
 rw [← HW.out]
 clear HW
 go_wp2_with fail
 refine HMY.out.mono ?_
 clear HMY c0 c1 c2 c3 c4
 rintro e w1 ⟨rfl,hb1⟩
 replace HX0:=Lh ((hb1.block _ (qx HX0.out)).trans HX0.out)
 have hr1:=qj hb1 HR0.out HR0.out.lt
 replace HR0:=Lh hr1
 replace HB:=Lh (HB.out.trans (hb1.mono HB.out.size))
 replace HZ1:=Lh (show w.heap.size+2≤w1.heap.size from hr1.lt)
 clear hb1
 cases mb with
 | false =>
  obtain ⟨t0,t1,t2,t3,t4⟩:=rc5 hr1;have t5:=hr1.cell (i:=5) (by decide);obtain ⟨s0,s1,s2,s3,s4⟩:=rf5 hr1;have s5:=hr1.frozen 5
  simp only [qo] at t0 t1 t2 t3 t4 t5
  clear hr1
  go_wp2
  refine bodyPost_ret (qk Tryz.results16 _ _ (w.heap.size+1) 35 _ (0,0) _ rfl (zy (wu _ _ _ _ _ _ HR0.out)) Tryz.underlying35 rfl (by kernel_rfl) _ rfl) rfl ?_
  exact .inl ⟨rfl,vh (xn _ _ _ _ _ _ HB.out (by omega))⟩
 | true =>
 clear hr1
 replace HOF:=Lh (HOF.out rfl w1 HB.out)
 obtain ⟨c0,c1,c2,c3,c4⟩:=bx5 HX0.out
 go_wp2_with fail
 refine HOF.out.mono ?_
 clear HOF c0 c1 c2 c3 c4
 rintro e w2 ⟨u,o,m,lo,hi,an2,ai2,cn2,ci2,hC,hu,rfl,hp2,ho2,hm2,hb2⟩
 have HC:=Lh hC
 have HCO:=Lh (HCC.out u hC)
 have HU:=Lh hu
 have hlt:=hp2.lt
 obtain ⟨p,hpp⟩:∃p,p=w2.heap.size:=⟨_,rfl⟩
 obtain ⟨W3,hW3⟩:∃W3,W3=w2.alloc (.cells #[.slice none 0 0,.slice none 0 0,.int .i64 0,.slice none 0 0,.int .i64 0,.string ⟨#[]⟩] 35):=⟨_,rfl⟩
 have hb3:Below w2.heap.size w2 W3:=by rw [hW3];exact (Below.refl _ _).alloc lz _
 have hq3:W3.rowIs p 35 6 (qo (.slice none 0 0) (.slice none 0 0) (.int .i64 0) (.slice none 0 0) (.int .i64 0) (.string ⟨#[]⟩)):=by rw [hW3,hpp];exact z8 _ _ _ _ _ _ _ _
 have HN:=Lh (show p≠o∧p≠m∧hi≤p∧w.heap.size+2≤o∧w.heap.size+2≤m∧w.heap.size+2≤p∧p<W3.heap.size∧o<W3.heap.size∧m<W3.heap.size from by
  have h1:=hb2.size;have h2:=hq3.lt;have h3:=HZ1.out;have h4:=hb3.size;omega)
 have HP:=Lh (hp2.below hb3)
 have HR:=Lh (qj (hb2.trans (hb3.mono hb2.size)) HR0.out HR0.out.lt)
 replace HB:=Lh (HB.out.trans ((hb2.trans (hb3.mono hb2.size)).mono HB.out.size))
 have HQ:=Lh hq3
 have HZ:=Lh (Nat.le_refl W3.heap.size)
 have HW3:=Lh hW3
 have HPE:=Lh hpp
 clear HCC hC hu hlt hp2 ho2 hm2 hb2 hb3 hq3 hW3 hpp HR0 HX0 HZ1
 have HLN:=Lh (@tx u st HA.out)
 have HOK:=Lh (ab keysN 32 HP.out (by decide) (by have:=HA.out;omega))
 unfold sK at HOK
 have HWK:=Lh (show (ogK u st).1.wt≤4294967296 from gE HU.out)
 have HLL:=Lh (show ogL u st=xm (ogK u st).1 from rfl)
 have HSS:=Lh (show ogS u st=(ogK u st).2.fail (ogL u st).2 from rfl)
 have HBB:=Lh (show ogB u st=if qN u zA (ogS u st) then (((zE (ogO u st).1).1,[]),(ogO u st).2.fail (zE (ogO u st).1).2) else ((xA,(zT (ogR u st).1 []).1),(ogR u st).2.fail (zT (ogR u st).1 []).2) from rfl)
 have HOO:=Lh (show ogO u st=qr u zA 8192 (ogS u st) from rfl)
 have HRR:=Lh (show ogR u st=qJ u z7 64 (ogS u st) from rfl)
 have HG:=Lh (show gm u st=if qh u (ogB u st).2≠0 then (xD,qh u (ogB u st).2) else (⟨(ogL u st).1,(ogB u st).1.2,(ogB u st).1.1⟩,0) from rfl)
 unfold fG at HCO
 rw [show qr u keysN 32 st=ogK u st from rfl] at HOK
 obtain ⟨GK,hGK⟩:∃GK,GK=ogK u st:=⟨_,rfl⟩
 rw [← hGK] at HOK HWK HLL HSS
 clear hGK
 obtain ⟨KJ,SK⟩:=GK
 dsimp only at HOK HWK HLL HSS
 go_upto_region 6 with fail
 rw [← HW3.out,← HPE.out]
 clear HPE HW3
 go_wp2_with fail
 refine HOK.out.mono ?_
 clear HOK
 rintro e w4 ⟨⟨an5,cn5,ai5,ci5,rfl,hr5⟩,hp',ht'⟩
 have HKY:=Lh (nH KJ _ w4 W3.heap.size (Nat.lt_of_le_of_lt (Nat.zero_le _) HQ.out.lt) HWK.out hr5 (HTB.out w4 (HB.out.trans (ht'.below (by have:=HB.out.size;omega) fun k hk e=>by have:=HN.out;omega))))
 clear hr5
 replace HP:=Lh hp'
 replace HR:=Lh (ht'.row HR.out (by have:=HN.out;omega))
 replace HQ:=Lh (ht'.row HQ.out (by have:=HN.out;omega))
 replace HB:=Lh (HB.out.trans (ht'.below (by have:=HB.out.size;omega) fun k hk e=>by have:=HN.out;omega))
 replace HZ:=Lh (Nat.le_trans HZ.out ht'.size)
 clear hp' ht'
 unfold uO at HKY
 rw [← HLL.out] at HKY
 obtain ⟨GL,hGL⟩:∃GL,GL=ogL u st:=⟨_,rfl⟩
 rw [← hGL] at HKY HSS HG
 clear hGL HLL
 obtain ⟨kl,ke⟩:=GL
 dsimp only at HKY HSS HG
 go_wp2_with fail
 refine HKY.out.mono ?_
 clear HKY
 rintro e w5 ⟨kv,rfl,ho',hb'⟩
 obtain ⟨ka,kc,rfl,hk'⟩:=ph ho' rfl
 have HKR:=Lh (show zP w5 W3.heap.size w5.heap.size ka kl from hk'.carry HZ.out lz (fun _ _ _=>rfl))
 clear ho' hk'
 replace HP:=Lh (HP.out.below hb')
 replace HR:=Lh (qj hb' HR.out HR.out.lt)
 replace HQ:=Lh (qj hb' HQ.out HQ.out.lt)
 replace HB:=Lh (HB.out.trans (hb'.mono HB.out.size))
 replace HZ:=Lh (Nat.le_trans HZ.out hb'.size)
 clear hb'
 have e0:=HQ.out.cell (i:=0) (by decide)
 have f0:=HQ.out.frozen 0
 simp only [qo] at e0
 obtain ⟨W6,hW6⟩:∃W6,W6=w5.setCell ⟨p,0,none⟩ (.slice ka kl.length kc):=⟨_,rfl⟩
 have hput:Touch (fun b=>b=p) w5 W6:=by rw [hW6];exact (Touch.refl _ _).trans (qW _)
 replace HQ:=Lh (show W6.rowIs p 35 6 (qo (.slice ka kl.length kc) (.slice none 0 0) (.int .i64 0) (.slice none 0 0) (.int .i64 0) (.string ⟨#[]⟩)) from by
  rw [hW6]
  refine (HQ.out.set 0 _).congr fun j hj=>?_
  rcases j with _|_|_|_|_|_|j <;> first|rfl|omega)
 replace HP:=Lh (HP.out.touch hput HN.out.1 HN.out.2.1 HN.out.2.2.1)
 replace HR:=Lh (hput.row HR.out (by have:=HN.out;omega))
 replace HB:=Lh (HB.out.trans (hput.below (by have:=HB.out.size;omega) fun k hk e=>by have:=HN.out;omega))
 replace HZ:=Lh (Nat.le_trans HZ.out hput.size)
 replace HKR:=Lh (HKR.out.carry lz hput.size (fun b h1 h2=>hput.block b h2 (by have:=HN.out;omega)))
 have HW6:=Lh hW6
 clear hput hW6
 go_upto_region 7 with fail
 rw [← HW6.out]
 clear HW6 e0 f0
 go_wp2_with fail
 refine (pP ke HP.out).mono ?_
 rintro e w7 ⟨rfl,hp',ht'⟩
 rw [← HSS.out] at hp'
 replace HP:=Lh hp'
 replace HR:=Lh (ht'.row HR.out (by have:=HN.out;omega))
 replace HQ:=Lh (ht'.row HQ.out (by have:=HN.out;omega))
 replace HB:=Lh (HB.out.trans (ht'.below (by have:=HB.out.size;omega) fun k hk e=>by have:=HN.out;omega))
 replace HZ:=Lh (Nat.le_trans HZ.out ht'.size)
 replace HKR:=Lh (HKR.out.carry lz ht'.size (fun b h1 h2=>ht'.block b h2 (by have:=HN.out;omega)))
 clear hp' ht'
 clear HSS
 obtain ⟨SS,hSS⟩:∃SS,SS=ogS u st:=⟨_,rfl⟩
 rw [← hSS] at HP HBB HOO HRR HLN
 clear hSS
 have HHS:=Lh (tr zA HP.out)
 go_upto_region 8 with fail
 go_wp2_with fail
 refine HHS.out.mono ?_
 clear HHS
 rintro e w8 ⟨rfl,hb'⟩
 replace HP:=Lh (HP.out.below hb')
 replace HR:=Lh (qj hb' HR.out HR.out.lt)
 replace HQ:=Lh (qj hb' HQ.out HQ.out.lt)
 replace HB:=Lh (HB.out.trans (hb'.mono HB.out.size))
 replace HZ:=Lh (Nat.le_trans HZ.out hb'.size)
 replace HKR:=Lh (HKR.out.below hb' lz lz hb'.size)
 clear hb'
 obtain ⟨hv,hhv⟩:∃hv,hv=qN u zA SS:=⟨_,rfl⟩
 rw [← hhv] at HBB ⊢
 clear hhv
 cases hv with
 | true =>
  rw [if_pos rfl] at HBB
  have HOB:=Lh (ab zA 8192 HP.out (by decide) (by have:=HLN.out;omega))
  unfold sK at HOB
  rw [← HOO.out] at HOB
  have HWO:=Lh (show (ogO u st).1.wt≤4294967296 by rw [HOO.out];exact gE HU.out)
  have HCP:=Lh HCO.out.1
  obtain ⟨GO,hGO⟩:∃GO,GO=ogO u st:=⟨_,rfl⟩
  rw [← hGO] at HOB HWO HBB HCP
  clear hGO HOO HRR HCO
  obtain ⟨OJ,SO⟩:=GO
  dsimp only at HOB HWO HBB HCP
  go_wp2_with fail
  refine HOB.out.mono ?_
  clear HOB
  rintro e w9 ⟨⟨an6,cn6,ai6,ci6,rfl,hr6⟩,hp',ht'⟩
  have HBO:=Lh (uA OJ _ w9 w8.heap.size (by have:=HZ.out;have:=HN.out;omega) HWO.out hr6 HCP.out)
  clear hr6
  replace HP:=Lh hp'
  replace HR:=Lh (ht'.row HR.out (by have:=HN.out;omega))
  replace HQ:=Lh (ht'.row HQ.out (by have:=HN.out;omega))
  replace HB:=Lh (HB.out.trans (ht'.below (by have:=HB.out.size;omega) fun k hk e=>by have:=HN.out;omega))
  replace HZ:=Lh (Nat.le_trans HZ.out ht'.size)
  replace HKR:=Lh (HKR.out.carry lz ht'.size (fun b h1 h2=>ht'.block b h2 (by have:=HN.out;omega)))
  clear hp' ht'
  unfold kU at HBO
  obtain ⟨GB,hGB⟩:∃GB,GB=zE OJ:=⟨_,rfl⟩
  rw [← hGB] at HBO HBB
  clear hGB
  obtain ⟨⟨bits,pre,au⟩,be⟩:=GB
  dsimp only at HBO HBB
  obtain ⟨SP,hSP⟩:∃SP,SP=SO.fail be:=⟨_,rfl⟩
  rw [← hSP] at HBB
  rw [HBB.out] at HG
  dsimp only at HG
  have HSP:=Lh hSP
  clear hSP HBB
  go_wp2_with fail
  refine HBO.out.mono ?_
  clear HBO
  rintro e w10 ⟨ba,bc,rfl,-,hs',hb'⟩
  have HBS:=Lh (show qw w10 W3.heap.size w10.heap.size ba au.ids from hs'.carry HZ.out lz (fun _ _ _=>rfl))
  clear hs'
  replace HP:=Lh (HP.out.below hb')
  replace HR:=Lh (qj hb' HR.out HR.out.lt)
  replace HQ:=Lh (qj hb' HQ.out HQ.out.lt)
  replace HB:=Lh (HB.out.trans (hb'.mono HB.out.size))
  replace HZ:=Lh (Nat.le_trans HZ.out hb'.size)
  replace HKR:=Lh (HKR.out.below hb' lz lz hb'.size)
  clear hb'
  have e2:=HQ.out.cell (i:=2) (by decide)
  have f2:=HQ.out.frozen 2
  simp only [qo] at e2
  have e3:=HQ.out.cell (i:=3) (by decide)
  have f3:=HQ.out.frozen 3
  simp only [qo] at e3
  have e4:=HQ.out.cell (i:=4) (by decide)
  have f4:=HQ.out.frozen 4
  simp only [qo] at e4
  have e5:=HQ.out.cell (i:=5) (by decide)
  have f5:=HQ.out.frozen 5
  simp only [qo] at e5
  obtain ⟨W11,hW11⟩:∃W11,W11=(((w10.setCell ⟨p,2,none⟩ (.int .i64 au.thr)).setCell ⟨p,3,none⟩ (.slice ba au.ids.length bc)).setCell ⟨p,4,none⟩ (.int .i64 bits)).setCell ⟨p,5,none⟩ (.string pre):=⟨_,rfl⟩
  have hput:Touch (fun b=>b=p) w10 W11:=by rw [hW11];exact ((((Touch.refl _ _).trans (qW _)).trans (qW _)).trans (qW _)).trans (qW _)
  replace HQ:=Lh (show W11.rowIs p 35 6 (qo (.slice ka kl.length kc) (.slice none 0 0) (.int .i64 au.thr) (.slice ba au.ids.length bc) (.int .i64 bits) (.string pre)) from by
   rw [hW11]
   refine ((((HQ.out.set 2 _).set 3 _).set 4 _).set 5 _).congr fun j hj=>?_
   rcases j with _|_|_|_|_|_|j <;> first|rfl|omega)
  replace HP:=Lh (HP.out.touch hput HN.out.1 HN.out.2.1 HN.out.2.2.1)
  replace HR:=Lh (hput.row HR.out (by have:=HN.out;omega))
  replace HB:=Lh (HB.out.trans (hput.below (by have:=HB.out.size;omega) fun k hk e=>by have:=HN.out;omega))
  replace HZ:=Lh (Nat.le_trans HZ.out hput.size)
  replace HKR:=Lh (HKR.out.carry lz hput.size (fun b h1 h2=>hput.block b h2 (by have:=HN.out;omega)))
  replace HBS:=Lh (HBS.out.carry lz hput.size (fun b h1 h2=>hput.block b h2 (by have:=HN.out;omega)))
  have HW11:=Lh hW11
  clear hput hW11
  go_upto_region 11 with fail
  rw [← HW11.out]
  clear HW11 e2 f2 e3 f3 e4 f4 e5 f5
  go_wp2_with fail
  refine (pP be HP.out).mono ?_
  rintro e w12 ⟨rfl,hp',ht'⟩
  rw [← HSP.out] at hp'
  clear HSP
  replace HP:=Lh hp'
  replace HR:=Lh (ht'.row HR.out (by have:=HN.out;omega))
  replace HQ:=Lh (ht'.row HQ.out (by have:=HN.out;omega))
  replace HB:=Lh (HB.out.trans (ht'.below (by have:=HB.out.size;omega) fun k hk e=>by have:=HN.out;omega))
  replace HZ:=Lh (Nat.le_trans HZ.out ht'.size)
  replace HKR:=Lh (HKR.out.carry lz ht'.size (fun b h1 h2=>ht'.block b h2 (by have:=HN.out;omega)))
  replace HBS:=Lh (HBS.out.carry lz ht'.size (fun b h1 h2=>ht'.block b h2 (by have:=HN.out;omega)))
  clear hp' ht'
  have HD:=Lh (ut HP.out HU.out)
  obtain ⟨dn,hdn⟩:∃dn,dn=qh u SP:=⟨_,rfl⟩
  rw [← hdn] at HD HG
  clear hdn
  have hR:=HR.out
  obtain ⟨t0,t1,t2,t3,t4⟩:=rc5 hR;have t5:=hR.cell (i:=5) (by decide)
  obtain ⟨s0,s1,s2,s3,s4⟩:=rf5 hR;have s5:=hR.frozen 5
  simp only [qo] at t0 t1 t2 t3 t4 t5
  have e0:=HQ.out.cell (i:=0) (by decide)
  have f0:=HQ.out.frozen 0
  simp only [qo] at e0
  have e1:=HQ.out.cell (i:=1) (by decide)
  have f1:=HQ.out.frozen 1
  simp only [qo] at e1
  have e2:=HQ.out.cell (i:=2) (by decide)
  have f2:=HQ.out.frozen 2
  simp only [qo] at e2
  have e3:=HQ.out.cell (i:=3) (by decide)
  have f3:=HQ.out.frozen 3
  simp only [qo] at e3
  have e4:=HQ.out.cell (i:=4) (by decide)
  have f4:=HQ.out.frozen 4
  simp only [qo] at e4
  have e5:=HQ.out.cell (i:=5) (by decide)
  have f5:=HQ.out.frozen 5
  simp only [qo] at e5
  clear hR
  go_wp2_with fail
  refine HD.out.mono ?_
  clear HD
  rintro e w20 ⟨rfl,h'⟩
  subst h'
  by_cases hd:dn=0
  case neg =>
   have d1:(dn != 0)=true:=by simpa using hd
   rw [if_pos hd] at HG
   clear hd
   go_wp2
   refine bodyPost_ret (qk Tryz.results16 _ _ (w.heap.size+1) 35 _ (0,0) _ rfl (zy (wu _ _ _ _ _ _ HR.out)) Tryz.underlying35 rfl (by kernel_rfl) _ rfl) rfl ?_
   refine .inr ⟨rfl,u,HC.out,?_⟩
   rw [HG.out]
   exact vh (xn _ _ _ _ _ _ HB.out (by omega))
  subst hd
  rw [if_neg (by decide)] at HG
  have HZB:=Lh (show w.heap.size+2≤W3.heap.size from by have:=HN.out;omega)
  go_wp2
  refine bodyPost_ret (qk Tryz.results16 _ _ (w.heap.size+1) 35 _ (0,0) _ rfl (zy (wu _ _ _ _ _ _ HR.out)) Tryz.underlying35 rfl (by kernel_rfl) _ rfl) rfl ?_
  refine .inr ⟨rfl,u,HC.out,?_⟩
  rw [HG.out]
  have hc:=fun b (h1:W3.heap.size≤b) (h2:b<w12.heap.size)=>gi (W:=w12) (.slice ka kl.length kc) (.slice none 0 0) (.int .i64 au.thr) (.slice ba au.ids.length bc) (.int .i64 bits) (.string pre) (show b≠w.heap.size+1 by have:=HZB.out;omega)
  exact ⟨ka,kc,none,0,ba,bc,rfl,Nat.le_refl _,⟨HKR.out.carry (by have:=HZB.out;omega) (Nat.le_of_eq wi.symm) hc,.inl rfl,HBS.out.carry (by have:=HZB.out;omega) (Nat.le_of_eq wi.symm) hc⟩,xn _ _ _ _ _ _ HB.out (by omega)⟩
 | false =>
  rw [if_neg (by decide)] at HBB
  have HLI:=Lh (tQ z7 64 HP.out (by decide) (by have:=HLN.out;omega))
  have HLF:=Lh (@lP u z7 64 SS)
  rw [← HRR.out] at HLI HLF
  have HCP:=Lh HCO.out.2
  obtain ⟨GR,hGR⟩:∃GR,GR=ogR u st:=⟨_,rfl⟩
  rw [← hGR] at HLI HLF HBB HCP
  clear hGR HOO HRR HCO
  obtain ⟨LJ,SL⟩:=GR
  dsimp only at HLI HLF HBB HCP
  go_wp2_with fail
  refine HLI.out.mono ?_
  clear HLI
  rintro e w9 ⟨⟨al,cl,rfl,-,hr6⟩,hp',ht'⟩
  have HRO:=Lh (fQ LJ al cl w9 w8.heap.size (by have:=HZ.out;have:=HN.out;omega) (Nat.le_trans HLF.out.2 HU.out) hr6 HCP.out (Nat.le_trans HLF.out.1 (by decide)))
  clear hr6
  replace HP:=Lh hp'
  replace HR:=Lh (ht'.row HR.out (by have:=HN.out;omega))
  replace HQ:=Lh (ht'.row HQ.out (by have:=HN.out;omega))
  replace HB:=Lh (HB.out.trans (ht'.below (by have:=HB.out.size;omega) fun k hk e=>by have:=HN.out;omega))
  replace HZ:=Lh (Nat.le_trans HZ.out ht'.size)
  replace HKR:=Lh (HKR.out.carry lz ht'.size (fun b h1 h2=>ht'.block b h2 (by have:=HN.out;omega)))
  clear hp' ht'
  unfold vy at HRO
  obtain ⟨GB,hGB⟩:∃GB,GB=zT LJ []:=⟨_,rfl⟩
  rw [← hGB] at HRO HBB
  clear hGB
  obtain ⟨rs,re⟩:=GB
  dsimp only at HRO HBB
  obtain ⟨SP,hSP⟩:∃SP,SP=SL.fail re:=⟨_,rfl⟩
  rw [← hSP] at HBB
  rw [HBB.out] at HG
  dsimp only at HG
  have HSP:=Lh hSP
  clear hSP HBB
  go_wp2_with fail
  refine HRO.out.mono ?_
  clear HRO
  rintro e w10 ⟨ra,rc,rfl,hrc,hs',hb'⟩
  have HRC:=Lh hrc
  have HRW:=Lh (show qE w10 W3.heap.size w10.heap.size ra rs from hs'.carry HZ.out lz (fun _ _ _=>rfl))
  clear hs' hrc
  replace HP:=Lh (HP.out.below hb')
  replace HR:=Lh (qj hb' HR.out HR.out.lt)
  replace HQ:=Lh (qj hb' HQ.out HQ.out.lt)
  replace HB:=Lh (HB.out.trans (hb'.mono HB.out.size))
  replace HZ:=Lh (Nat.le_trans HZ.out hb'.size)
  replace HKR:=Lh (HKR.out.below hb' lz lz hb'.size)
  clear hb'
  have e1:=HQ.out.cell (i:=1) (by decide)
  have f1:=HQ.out.frozen 1
  simp only [qo] at e1
  obtain ⟨W11,hW11⟩:∃W11,W11=w10.setCell ⟨p,1,none⟩ (.slice ra rs.length rc):=⟨_,rfl⟩
  have hput:Touch (fun b=>b=p) w10 W11:=by rw [hW11];exact (Touch.refl _ _).trans (qW _)
  replace HQ:=Lh (show W11.rowIs p 35 6 (qo (.slice ka kl.length kc) (.slice ra rs.length rc) (.int .i64 0) (.slice none 0 0) (.int .i64 0) (.string ⟨#[]⟩)) from by
   rw [hW11]
   refine (HQ.out.set 1 _).congr fun j hj=>?_
   rcases j with _|_|_|_|_|_|j <;> first|rfl|omega)
  replace HP:=Lh (HP.out.touch hput HN.out.1 HN.out.2.1 HN.out.2.2.1)
  replace HR:=Lh (hput.row HR.out (by have:=HN.out;omega))
  replace HB:=Lh (HB.out.trans (hput.below (by have:=HB.out.size;omega) fun k hk e=>by have:=HN.out;omega))
  replace HZ:=Lh (Nat.le_trans HZ.out hput.size)
  replace HKR:=Lh (HKR.out.carry lz hput.size (fun b h1 h2=>hput.block b h2 (by have:=HN.out;omega)))
  replace HRW:=Lh (HRW.out.carry lz hput.size (fun b h1 h2=>hput.block b h2 (by have:=HN.out;omega)))
  have HW11:=Lh hW11
  clear hput hW11
  go_upto_region 11 with fail
  rw [← HW11.out]
  clear HW11 e1 f1
  go_wp2_with fail
  refine (pP re HP.out).mono ?_
  rintro e w12 ⟨rfl,hp',ht'⟩
  rw [← HSP.out] at hp'
  clear HSP
  replace HP:=Lh hp'
  replace HR:=Lh (ht'.row HR.out (by have:=HN.out;omega))
  replace HQ:=Lh (ht'.row HQ.out (by have:=HN.out;omega))
  replace HB:=Lh (HB.out.trans (ht'.below (by have:=HB.out.size;omega) fun k hk e=>by have:=HN.out;omega))
  replace HZ:=Lh (Nat.le_trans HZ.out ht'.size)
  replace HKR:=Lh (HKR.out.carry lz ht'.size (fun b h1 h2=>ht'.block b h2 (by have:=HN.out;omega)))
  replace HRW:=Lh (HRW.out.carry lz ht'.size (fun b h1 h2=>ht'.block b h2 (by have:=HN.out;omega)))
  clear hp' ht'
  have HD:=Lh (ut HP.out HU.out)
  obtain ⟨dn,hdn⟩:∃dn,dn=qh u SP:=⟨_,rfl⟩
  rw [← hdn] at HD HG
  clear hdn
  have hR:=HR.out
  obtain ⟨t0,t1,t2,t3,t4⟩:=rc5 hR;have t5:=hR.cell (i:=5) (by decide)
  obtain ⟨s0,s1,s2,s3,s4⟩:=rf5 hR;have s5:=hR.frozen 5
  simp only [qo] at t0 t1 t2 t3 t4 t5
  have e0:=HQ.out.cell (i:=0) (by decide)
  have f0:=HQ.out.frozen 0
  simp only [qo] at e0
  have e1:=HQ.out.cell (i:=1) (by decide)
  have f1:=HQ.out.frozen 1
  simp only [qo] at e1
  have e2:=HQ.out.cell (i:=2) (by decide)
  have f2:=HQ.out.frozen 2
  simp only [qo] at e2
  have e3:=HQ.out.cell (i:=3) (by decide)
  have f3:=HQ.out.frozen 3
  simp only [qo] at e3
  have e4:=HQ.out.cell (i:=4) (by decide)
  have f4:=HQ.out.frozen 4
  simp only [qo] at e4
  have e5:=HQ.out.cell (i:=5) (by decide)
  have f5:=HQ.out.frozen 5
  simp only [qo] at e5
  clear hR
  go_wp2_with fail
  refine HD.out.mono ?_
  clear HD
  rintro e w20 ⟨rfl,h'⟩
  subst h'
  by_cases hd:dn=0
  case neg =>
   have d1:(dn != 0)=true:=by simpa using hd
   rw [if_pos hd] at HG
   clear hd
   go_wp2
   refine bodyPost_ret (qk Tryz.results16 _ _ (w.heap.size+1) 35 _ (0,0) _ rfl (zy (wu _ _ _ _ _ _ HR.out)) Tryz.underlying35 rfl (by kernel_rfl) _ rfl) rfl ?_
   refine .inr ⟨rfl,u,HC.out,?_⟩
   rw [HG.out]
   exact vh (xn _ _ _ _ _ _ HB.out (by omega))
  subst hd
  rw [if_neg (by decide)] at HG
  have HZB:=Lh (show w.heap.size+2≤W3.heap.size from by have:=HN.out;omega)
  go_wp2
  refine bodyPost_ret (qk Tryz.results16 _ _ (w.heap.size+1) 35 _ (0,0) _ rfl (zy (wu _ _ _ _ _ _ HR.out)) Tryz.underlying35 rfl (by kernel_rfl) _ rfl) rfl ?_
  refine .inr ⟨rfl,u,HC.out,?_⟩
  rw [HG.out]
  have hc:=fun b (h1:W3.heap.size≤b) (h2:b<w12.heap.size)=>gi (W:=w12) (.slice ka kl.length kc) (.slice ra rs.length rc) (.int .i64 0) (.slice none 0 0) (.int .i64 0) (.string ⟨#[]⟩) (show b≠w.heap.size+1 by have:=HZB.out;omega)
  exact ⟨ka,kc,ra,rc,none,0,rfl,HRC.out,⟨HKR.out.carry (by have:=HZB.out;omega) (Nat.le_of_eq wi.symm) hc,HRW.out.carry (by have:=HZB.out;omega) (Nat.le_of_eq wi.symm) hc,.inl rfl⟩,xn _ _ _ _ _ _ HB.out (by omega)⟩
theorem cZ {x:JV} (h:x.partB=true):∀y ∈ x.items,y.partB=true:=by
 rw [JV.partB_eq,Bool.and_eq_true] at h
 exact bq h.2
theorem bM {x:JV} (h:x.partB=true) (hk:x.kind=5):qe x.names=true∧x.names.length=x.items.length:=⟨(g6 h hk).2.2.1,(g6 h hk).2.1⟩
theorem cX {u:JV} {st:PS} (h:cH u∨u=zx):fG u st:=by
 have hlk:∀(y:ByteArray) (it:JV),u.look y=some it→it.kind≠0→it.partB=true:=fun y it hit hk=>by
  rcases h with h|rfl
  · exact tu h hit hk
  · cases (show (none:Option JV)=some it from hit)
 refine ⟨fun hk=>?_,fun v hv hk=>?_⟩
 · revert hk
   unfold ogO qr
   split
   · intro hk;cases hk
   · split
     · intro hk;cases hk
     · rename_i it hit
       split
       · intro hk;cases hk
       · split
         · intro hk;cases hk
         · intro hk
           exact bM (hlk _ _ hit (by rw [hk];decide)) hk
 · revert hv
   unfold ogR qJ
   split
   · intro hv;cases hv
   · split
     · intro hv;cases hv
     · rename_i it hit
       split
       · intro hv;cases hv
       · split
         · intro hv;cases hv
         · rename_i h4 _
           intro hv
           have h4:it.kind=4:=by simpa using h4
           exact bM (cZ (hlk _ _ hit (by rw [h4];decide)) v hv) hk
theorem mx (v:JV) (x:Value) (w:World) (lo:Nat) (hlo:0<lo) (hN:v.wt≤4294967296) (hR:Rep w lo w.heap.size v x) (hT:Tabs w) :
 Calls Tryz.prog 16 #[x] w (kL (xw v) w):=by
 cases hmb:v.mayB with
 | false =>
  refine (p5 (fun u=>False) (st0 v) v x w hN (hR.carry (Nat.zero_le _) lz (fun _ _ _=>rfl)) (by unfold st0;split <;> simp) hT (fun u hu=>hu.elim) (fun hm=>by rw [hmb] at hm;cases hm)).mono ?_
  rintro e w' (⟨hm,h⟩|⟨hm,u,hu,h⟩)
  · have:xw v=(xD,3):=by unfold xw;rw [if_pos hmb]
    rw [this];exact h
  · exact hu.elim
 | true =>
  have hpw:v.kind=5→cH v:=rQ hmb
  refine (p5 (xL v) (st0 v) v x w hN (hR.carry (Nat.zero_le _) lz (fun _ _ _=>rfl)) (by unfold st0;split <;> simp) hT (fun u hu=>cX (by
   unfold xL at hu
   by_cases h5:v.kind=5
   · rw [if_pos h5] at hu;rw [hu];exact .inl (hpw h5)
   · rw [if_neg h5] at hu;exact .inr hu)) (fun hm w1 hb=>rR hN hlo hb.size (hR.below hb lz lz lz) (fun hk=>⟨(hpw hk).2.2.1,(hpw hk).2.2.2.1⟩))).mono ?_
  rintro e w' (⟨hm,h⟩|⟨hm,u,hu,h⟩)
  · rw [hmb] at hm;cases hm
  · unfold xL at hu
    unfold st0 at h
    by_cases hk:v.kind=5
    · rw [if_pos hk] at hu h
      subst hu
      have:xw u=gm u ⟨[],0⟩:=by unfold xw;rw [if_neg (by rw [hmb];decide),if_neg (by simp [hk])];rfl
      rw [this];exact h
    · rw [if_neg hk] at hu h
      subst hu
      have:xw v=(xD,10):=by unfold xw;rw [if_neg (by rw [hmb];decide),if_pos hk]
      rw [this]
      rw [mq] at h;exact h
theorem yV {n p:ByteArray} {b:Bool} (hn:n.size≤100) (hp:p.size≤100):DelegFits (kh n p b) :=
 ⟨by show n.size≤_;omega,⟨⟨by show -9223372036854775808≤(1:Int);decide,by show (1:Int)≤9223372036854775807;decide⟩,by show 1≤4294967296;decide,fun s hs=>by
  obtain rfl:s=yc 97:=by simpa [kh,aF] using hs
  decide⟩,⟨by show 1≤4294967296;decide,fun s hs=>by
  obtain rfl:s=p:=by simpa [kh] using hs
  omega⟩,⟨Nat.zero_le _,fun s hs=>(by cases hs)⟩⟩
theorem kn:DelegsFits exD∧DelegsFits exE∧DelegsFits exBin:=by
 have hz:xX authZ:=⟨⟨by decide,by decide⟩,by decide,fun s hs=>(by cases hs)⟩
 refine ⟨⟨by decide,fun k hk=>(by cases hk),by decide,fun x hx=>?_,⟨by decide,by decide⟩,by decide,hz⟩,⟨by decide,fun k hk=>(by cases hk),by decide,fun x hx=>?_,⟨by decide,by decide⟩,by decide,hz⟩,⟨by decide,fun k hk=>(by cases hk),by decide,fun x hx=>(by cases hx),⟨by decide,by decide⟩,by decide,(yV (n:=raN) (p:=raN) (b:=false) (by decide) (by decide)).au⟩⟩
 · simp only [exD,List.mem_cons,List.not_mem_nil,or_false] at hx
   rcases hx with rfl|rfl|rfl <;> exact yV (by decide) (by decide)
 · simp only [exE,List.mem_cons,List.not_mem_nil,or_false] at hx
   rcases hx with rfl|rfl <;> exact yV (by decide) (by decide)
structure RoleIn (w:World) (ga gp:Nat) (p:ByteArray):Prop where
 ids:qw w 0 w.heap.size (some ⟨ga,0,none⟩) [yc 97]
 paths:qw w 0 w.heap.size (some ⟨gp,0,none⟩) [p]
theorem RoleIn.below {w w':World} {ga gp:Nat} {p:ByteArray} (h:RoleIn w ga gp p) (hb:Below w.heap.size w w'):RoleIn w' ga gp p :=
 ⟨h.ids.below hb lz lz hb.size,h.paths.below hb lz lz hb.size⟩
theorem lF {w:World} {q T a1 p1 a2 p2:Nat} {n1 n2 x1 x2:ByteArray} {b1 b2:Bool} (h:w.heap[q]?=some (.cells #[.string n1,.int .i64 1,.slice (some ⟨a1,0,none⟩) 1 1,.bool b1,.slice (some ⟨p1,0,none⟩) 1 1,.slice none 0 0,.string n2,.int .i64 1,.slice (some ⟨a2,0,none⟩) 1 1,.bool b2,.slice (some ⟨p2,0,none⟩) 1 1,.slice none 0 0] T (0,0))) (h1:RoleIn w a1 p1 x1) (h2:RoleIn w a2 p2 x2):qE w 0 w.heap.size (some ⟨q,0,none⟩) [kh n1 x1 b1,kh n2 x2 b2]:=by
 refine .inr ⟨q,0,rfl,Nat.zero_le _,qx h,fun i hi=>?_⟩
 match i,hi with
 | 0,_=>exact ⟨_,1,_,1,none,0,qq h (j:=0) rfl,qq h (j:=1) rfl,qq h (j:=2) rfl,qq h (j:=3) rfl,qq h (j:=4) rfl,qq h (j:=5) rfl,Nat.le_refl _,Nat.le_refl _,Nat.le_refl _,⟨h1.ids,h1.paths,.inl rfl⟩⟩
 | 1,_=>exact ⟨_,1,_,1,none,0,qq h (j:=6) rfl,qq h (j:=7) rfl,qq h (j:=8) rfl,qq h (j:=9) rfl,qq h (j:=10) rfl,qq h (j:=11) rfl,Nat.le_refl _,Nat.le_refl _,Nat.le_refl _,⟨h2.ids,h2.paths,.inl rfl⟩⟩
theorem lH {w:World} {q T a1 p1 a2 p2 a3 p3:Nat} {n1 n2 n3 x1 x2 x3:ByteArray} {b1 b2 b3:Bool} (h:w.heap[q]?=some (.cells #[.string n1,.int .i64 1,.slice (some ⟨a1,0,none⟩) 1 1,.bool b1,.slice (some ⟨p1,0,none⟩) 1 1,.slice none 0 0,.string n2,.int .i64 1,.slice (some ⟨a2,0,none⟩) 1 1,.bool b2,.slice (some ⟨p2,0,none⟩) 1 1,.slice none 0 0,.string n3,.int .i64 1,.slice (some ⟨a3,0,none⟩) 1 1,.bool b3,.slice (some ⟨p3,0,none⟩) 1 1,.slice none 0 0] T (0,0))) (h1:RoleIn w a1 p1 x1) (h2:RoleIn w a2 p2 x2) (h3:RoleIn w a3 p3 x3):qE w 0 w.heap.size (some ⟨q,0,none⟩) [kh n1 x1 b1,kh n2 x2 b2,kh n3 x3 b3]:=by
 refine .inr ⟨q,0,rfl,Nat.zero_le _,qx h,fun i hi=>?_⟩
 match i,hi with
 | 0,_=>exact ⟨_,1,_,1,none,0,qq h (j:=0) rfl,qq h (j:=1) rfl,qq h (j:=2) rfl,qq h (j:=3) rfl,qq h (j:=4) rfl,qq h (j:=5) rfl,Nat.le_refl _,Nat.le_refl _,Nat.le_refl _,⟨h1.ids,h1.paths,.inl rfl⟩⟩
 | 1,_=>exact ⟨_,1,_,1,none,0,qq h (j:=6) rfl,qq h (j:=7) rfl,qq h (j:=8) rfl,qq h (j:=9) rfl,qq h (j:=10) rfl,qq h (j:=11) rfl,Nat.le_refl _,Nat.le_refl _,Nat.le_refl _,⟨h2.ids,h2.paths,.inl rfl⟩⟩
 | 2,_=>exact ⟨_,1,_,1,none,0,qq h (j:=12) rfl,qq h (j:=13) rfl,qq h (j:=14) rfl,qq h (j:=15) rfl,qq h (j:=16) rfl,qq h (j:=17) rfl,Nat.le_refl _,Nat.le_refl _,Nat.le_refl _,⟨h3.ids,h3.paths,.inl rfl⟩⟩
def s8 (w:World) (ka ra ba:Option Addr):Prop:=DelegsIn w 0 w.heap.size exD ka ra ba
theorem s9 (q:Nat) (w:World) (hI:DelegsIn w 0 w.heap.size exD none (some ⟨q,0,none⟩) none) (hT:Tabs w) :
 Calls Tryz.prog 36 #[.agg #[.slice none 0 0,.slice (some ⟨q,0,none⟩) 3 3,.int .i64 0,.slice none 0 0,.int .i64 0,.string ⟨#[]⟩]] w fun e w'=>∃an cn ai ci,e=.returned (.tuple #[.agg #[.int .u8 5,.int .i64 0,.string ⟨#[]⟩,.slice an 2 cn,.slice ai 2 ci],.int .i64 0])∧Rep w' w.heap.size w'.heap.size (qg exD) (.agg #[.int .u8 5,.int .i64 0,.string ⟨#[]⟩,.slice an 2 cn,.slice ai 2 ci])∧Below w.heap.size w w':=by
 refine (bU [] exD.roles 0 0 [] ⟨#[]⟩ none (some ⟨q,0,none⟩) none 0 3 0 w hI kn.1 lz hT).mono ?_
 have e:z6 ⟨[],exD.roles,⟨0,⟨#[]⟩,⟨0,[]⟩⟩⟩=(qg exD,0):=by
  unfold z6
  rw [if_pos (show qG ⟨[],exD.roles,⟨0,⟨#[]⟩,⟨0,[]⟩⟩⟩=true from gh.1)]
  rfl
 rw [e]
 rintro r w' ⟨an,cn,ai,ci,h1,h2,h3⟩
 exact ⟨an,cn,ai,ci,h1,h2,h3⟩
theorem iz (x:Value) (w:World) (lo:Nat) (hlo:0<lo) (hR:Rep w lo w.heap.size (qg exD) x) (hT:Tabs w) :
 Calls Tryz.prog 16 #[x] w fun e w'=>∃ka kc ra rc ba bc,e=.returned (.tuple #[.agg #[.slice ka 0 kc,.slice ra 3 rc,.int .i64 0,.slice ba 0 bc,.int .i64 0,.string ⟨#[]⟩],.int .i64 0])∧s8 w' ka ra ba∧Below w.heap.size w w':=by
 refine (mx (qg exD) x w lo hlo (wv (by rw [← q9];exact gh.1)) hR hT).mono ?_
 rw [ud gh.1]
 rintro r w' ⟨ka,kc,ra,rc,ba,bc,h1,h2,h3,h4⟩
 exact ⟨ka,kc,ra,rc,ba,bc,h1,h3.carry (Nat.zero_le _) lz (fun _ _ _=>rfl),h4⟩
theorem tj (ka ra ba:Option Addr) (kc rc bc q:Nat) (w:World) (hI:s8 w ka ra ba) (hJ:DelegsIn w 0 w.heap.size exD none (some ⟨q,0,none⟩) none) :
 Calls Tryz.prog 17 #[.agg #[.slice ka 0 kc,.slice ra 3 rc,.int .i64 0,.slice ba 0 bc,.int .i64 0,.string ⟨#[]⟩],.agg #[.slice none 0 0,.slice (some ⟨q,0,none⟩) 3 3,.int .i64 0,.slice none 0 0,.int .i64 0,.string ⟨#[]⟩]] w fun e w'=>e=.returned (.bool true)∧Below w.heap.size w w':=by
 refine (lB [] exD.roles 0 0 [] ⟨#[]⟩ ka ra ba kc rc bc [] exD.roles 0 0 [] ⟨#[]⟩ none (some ⟨q,0,none⟩) none 0 3 0 w hI hJ kn.1 kn.1).mono ?_
 rintro r w' ⟨h1,h2⟩
 rw [decide_eq_true (by rfl)] at h1
 exact ⟨h1,h2⟩
def binS:ByteArray:=xZ ppN 2 (wB kB 2)
theorem tk (g:Nat) (w:World) (hT:Tabs w):Calls Tryz.prog 43 #[.agg #[.int .i64 1,.slice (some ⟨g,0,none⟩) 1 1,.int .i64 2,.string ppN],.string kB] w fun e w'=>e=.returned (.tuple #[.string binS,.int .i64 0])∧Below w.heap.size w w' :=
 uF 1 2 [yc 97] ppN kB (some ⟨g,0,none⟩) 1 w (by decide) (by decide) (by decide +kernel) (by decide) (by decide) hT
theorem mv (q g:Nat) (p:ByteArray) (L:List ByteArray) (w:World) (hI:DelegsIn w 0 w.heap.size exD none (some ⟨q,0,none⟩) none) (hL:qw w 0 w.heap.size (some ⟨g,0,none⟩) L) (hp:p.size≤100) (hl:L.length≤100) (h:(xg runes exD p).map (·.name)=L) (hT:Tabs w) :
 Calls Tryz.prog 49 #[.agg #[.slice none 0 0,.slice (some ⟨q,0,none⟩) 3 3,.int .i64 0,.slice none 0 0,.int .i64 0,.string ⟨#[]⟩],.string p,.slice (some ⟨g,0,none⟩) L.length L.length] w fun e w'=>e=.returned (.bool true)∧Below w.heap.size w w':=by
 refine (ww [] exD.roles 0 0 [] ⟨#[]⟩ p none (some ⟨q,0,none⟩) none 0 3 0 L (some ⟨g,0,none⟩) L.length w hI kn.1 lz (by omega) hT hL (by omega)).mono ?_
 rintro r w' ⟨h1,h2⟩
 rw [decide_eq_true (show (xg runes ⟨[],exD.roles,⟨0,⟨#[]⟩,⟨0,[]⟩⟩⟩ p).map (·.name)=L from h)] at h1
 exact ⟨h1,h2⟩
theorem nU (q g:Nat) (p:ByteArray) (L:List ByteArray) (w:World) (hI:DelegsIn w 0 w.heap.size exE none (some ⟨q,0,none⟩) none) (hL:qw w 0 w.heap.size (some ⟨g,0,none⟩) L) (hp:p.size≤100) (hl:L.length≤100) (h:(xg runes exE p).map (·.name)=L) (hT:Tabs w) :
 Calls Tryz.prog 49 #[.agg #[.slice none 0 0,.slice (some ⟨q,0,none⟩) 2 2,.int .i64 0,.slice none 0 0,.int .i64 0,.string ⟨#[]⟩],.string p,.slice (some ⟨g,0,none⟩) L.length L.length] w fun e w'=>e=.returned (.bool true)∧Below w.heap.size w w':=by
 refine (ww [] exE.roles 0 0 [] ⟨#[]⟩ p none (some ⟨q,0,none⟩) none 0 2 0 L (some ⟨g,0,none⟩) L.length w hI kn.2.1 lz (by omega) hT hL (by omega)).mono ?_
 rintro r w' ⟨h1,h2⟩
 rw [decide_eq_true (show (xg runes ⟨[],exE.roles,⟨0,⟨#[]⟩,⟨0,[]⟩⟩⟩ p).map (·.name)=L from h)] at h1
 exact ⟨h1,h2⟩
theorem nM (q g:Nat) (w:World) (hI:qw w 0 w.heap.size (some ⟨q,0,none⟩) [yc 97]) (hL:qw w 0 w.heap.size (some ⟨g,0,none⟩) [binS]) (hT:Tabs w) :
 Calls Tryz.prog 49 #[.agg #[.slice none 0 0,.slice none 0 0,.int .i64 1,.slice (some ⟨q,0,none⟩) 1 1,.int .i64 2,.string ppN],.string kB,.slice (some ⟨g,0,none⟩) 1 1] w fun e w'=>e=.returned (.bool true)∧Below w.heap.size w w':=by
 refine (ww [] [] 1 2 [yc 97] ppN kB none none (some ⟨q,0,none⟩) 0 0 1 [binS] (some ⟨g,0,none⟩) 1 w ⟨.inl rfl,.inl rfl,hI⟩ kn.2.2 lz (by decide) hT hL (by decide)).mono ?_
 rintro r w' ⟨h1,h2⟩
 rw [decide_eq_true (show (xg runes ⟨[],[],⟨2,ppN,⟨1,[yc 97]⟩⟩⟩ kB).map (·.name)=[binS] from vQ.2.2.2)] at h1
 exact ⟨h1,h2⟩
theorem yW {w:World} {g:Nat} {x:ByteArray} (h:w.heap[g]?=some (.cells #[.string x] 9 (0,0))):qw w 0 w.heap.size (some ⟨g,0,none⟩) [x]:=by
 refine .inr ⟨g,0,rfl,Nat.zero_le _,qx h,fun i hi=>?_⟩
 match i,hi with
 | 0,_=>exact qq h (j:=0) rfl
theorem lU {w:World} {g:Nat} {x y:ByteArray} (h:w.heap[g]?=some (.cells #[.string x,.string y] 9 (0,0))):qw w 0 w.heap.size (some ⟨g,0,none⟩) [x,y]:=by
 refine .inr ⟨g,0,rfl,Nat.zero_le _,qx h,fun i hi=>?_⟩
 match i,hi with
 | 0,_=>exact qq h (j:=0) rfl
 | 1,_=>exact qq h (j:=1) rfl
end Go.Proofs.YthgembbgcbaghaaGreatDoor
