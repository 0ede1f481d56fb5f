/- The contract of legateref22.Auth. Printed by genref22auth.py. -/
import Derived.Test.YtnlgmcapbbgelaaGreatDoorRt36
import Derived.Test.YtnlgmcapbbgelaaGreatDoorRt21
import Derived.Deep.DeepCutAuto

namespace Go.Proofs.YtnlgmcapbbgelaaGreatDoor
open Go.RowKit Go.Shelf Go.Sort
set_option maxHeartbeats 4000000 in
set_option maxRecDepth 100000 in
theorem cD (v e:Int) (l:List Key2) (t1 t2 t3:Int) (d1 d2 d3:List ByteArray) (ka i1 i2 i3:Option Addr) (kc c1 c2 c3:Nat) (w:World) (hI:RootIn w 0 w.heap.size ⟨v,e,l,⟨⟨t1,d1⟩,⟨t2,d2⟩,⟨t3,d3⟩⟩⟩ ka i1 i2 i3) (hf:RootFits ⟨v,e,l,⟨⟨t1,d1⟩,⟨t2,d2⟩,⟨t3,d3⟩⟩⟩) :
 Calls Tryz.prog 36 #[.agg #[.int .i64 v,.int .i64 e,.slice ka l.length kc,.int .i64 t1,.slice i1 d1.length c1,.int .i64 t2,.slice i2 d2.length c2,.int .i64 t3,.slice i3 d3.length c3]] w fun r w'=>r=.returned (.bool (zu ⟨v,e,l,⟨⟨t1,d1⟩,⟨t2,d2⟩,⟨t3,d3⟩⟩⟩))∧Below w.heap.size w w':=by
 have HV:=Lh (pA ⟨v,e,l,⟨⟨t1,d1⟩,⟨t2,d2⟩,⟨t3,d3⟩⟩⟩)
 obtain ⟨M,hM⟩:∃M,M=zu ⟨v,e,l,⟨⟨t1,d1⟩,⟨t2,d2⟩,⟨t3,d3⟩⟩⟩:=⟨_,rfl⟩
 rw [← hM] at HV ⊢
 dsimp only at HV
 have HB:=Lh (Below.refl w.heap.size w)
 have HI:=Lh hI
 have HF:=Lh hf
 clear hM hI hf
 go_enter Tryz.func36,Tryz.ntmps36
 obtain ⟨bR,hbR⟩:∃bR,bR=w.heap.size:=⟨_,rfl⟩
 obtain ⟨w1,hw1⟩:∃w1,w1=w.alloc (.cells #[.int .i64 v,.int .i64 e,.slice ka l.length kc,.int .i64 t1,.slice i1 d1.length c1,.int .i64 t2,.slice i2 d2.length c2,.int .i64 t3,.slice i3 d3.length c3] 32):=⟨_,rfl⟩
 have hbx:Below w.heap.size w w1:=by rw [hw1];exact (Below.refl _ _).alloc lz _
 have HXR:=Lh (show w1.heap[bR]?=some (.cells #[.int .i64 v,.int .i64 e,.slice ka l.length kc,.int .i64 t1,.slice i1 d1.length c1,.int .i64 t2,.slice i2 d2.length c2,.int .i64 t3,.slice i3 d3.length c3] 32 (0,0)) by rw [hw1,hbR];exact heap_alloc_new w _)
 replace HB:=Lh (HB.out.trans (hbx.mono HB.out.size))
 replace HI:=Lh (HI.out.below hbx lz lz hbx.size)
 have Hw1:=Lh (And.intro hw1 hbR)
 clear hbx hw1 hbR
 go_upto_region 1 with fail
 rw [← Hw1.out.1,← Hw1.out.2]
 clear Hw1
 obtain ⟨es,hes⟩:∃es,es=xP e:=⟨_,rfl⟩
 have HSH:=Lh (fX e w1)
 rw [← hes] at HSH
 have HES:=Lh hes
 clear hes
 obtain ⟨xR0,xR1,xR2,xR3,xR4,xR5,xR6,xR7,xR8⟩:=bx9 HXR.out
 go_wp2_with fail
 refine (HSH.out).mono ?_
 clear xR0 xR1 xR2 xR3 xR4 xR5 xR6 xR7 xR8
 rintro ee w2 ⟨rfl,hb⟩
 replace HB:=Lh (HB.out.trans (hb.mono HB.out.size))
 replace HXR:=Lh ((hb.block _ (qz HXR.out)).trans HXR.out)
 replace HI:=Lh (HI.out.below hb lz lz hb.size)
 clear hb HSH
 by_cases hv:1≤v∧v≤1099511627776
 case neg =>
  obtain ⟨xR0,xR1,xR2,xR3,xR4,xR5,xR6,xR7,xR8⟩:=bx9 HXR.out
  have HV2:=Lh (show M=false by rw [HV.out,decide_eq_false hv];rfl)
  by_cases h1:v<1
  case pos =>
   have a1:decide (v<1)=true:=decide_eq_true h1
   go_wp2
   go_ret
   exact ⟨qk HV2.out.symm,HB.out⟩
  case neg =>
   have a1:decide (v<1)=false:=decide_eq_false h1
   have a2:decide (1099511627776<v)=true:=decide_eq_true (by omega)
   go_wp2
   go_ret
   exact ⟨qk HV2.out.symm,HB.out⟩
 have a1:decide (v<1)=false:=decide_eq_false (by omega)
 have a2:decide (1099511627776<v)=false:=decide_eq_false (by omega)
 by_cases hx:0≤e∧e≤253402300799
 case neg =>
  obtain ⟨xR0,xR1,xR2,xR3,xR4,xR5,xR6,xR7,xR8⟩:=bx9 HXR.out
  obtain rfl:es=1:=by rw [HES.out];unfold xP;rw [if_neg hx]
  have HV2:=Lh (show M=false by rw [HV.out,decide_eq_true hv,decide_eq_false hx];rfl)
  go_wp2
  go_ret
  exact ⟨qk HV2.out.symm,HB.out⟩
 obtain rfl:es=0:=by rw [HES.out];unfold xP;rw [if_pos hx]
 by_cases h32:l.length≤32
 case neg =>
  obtain ⟨xR0,xR1,xR2,xR3,xR4,xR5,xR6,xR7,xR8⟩:=bx9 HXR.out
  have a3:decide (32<(l.length:Int))=true:=decide_eq_true (by omega)
  have HV2:=Lh (show M=false by rw [HV.out,yZ h32];simp)
  go_wp2
  go_ret
  exact ⟨qk HV2.out.symm,HB.out⟩
 have a3:decide (32<(l.length:Int))=false:=decide_eq_false (by omega)
 have HVK:=Lh (show zx l=false→M=false from fun h=>by rw [HV.out,h];simp)
 have HVY:=Lh (show zx l=true→M=(qe ⟨t1,d1⟩ && (qe ⟨t2,d2⟩ && qe ⟨t3,d3⟩)) from fun h=>by rw [HV.out,decide_eq_true hv,decide_eq_true hx,h];simp)
 have HI2:=Lh (show ∀w':World,Below w2.heap.size w2 w'→RootIn w' 0 w'.heap.size ⟨v,e,l,⟨⟨t1,d1⟩,⟨t2,d2⟩,⟨t3,d3⟩⟩⟩ ka i1 i2 i3 from fun w' h=>HI.out.below h lz lz h.size)
 have HX2:=Lh (show ∀w':World,Below w2.heap.size w2 w'→w'.heap[bR]?=some (.cells #[.int .i64 v,.int .i64 e,.slice ka l.length kc,.int .i64 t1,.slice i1 d1.length c1,.int .i64 t2,.slice i2 d2.length c2,.int .i64 t3,.slice i3 d3.length c3] 32 (0,0)) from fun w' h=>(h.block _ (qz HXR.out)).trans HXR.out)
 have h40:l.length≤32:=h32
 obtain ⟨xR0,xR1,xR2,xR3,xR4,xR5,xR6,xR7,xR8⟩:=bx9 HXR.out
 go_wp2
 clear xR0 xR1 xR2 xR3 xR4 xR5 xR6 xR7 xR8
 clear a1 a2 a3
 go_loopw [5,6,7,8] (fun ls i _ _ wr=>∃(k:Nat) (s:ByteArray),k≤l.length∧i=.int .i64 k∧ls=.string s∧(∀j (h:j<l.length),j<k→ok2 l[j]=true)∧qr ((ids l).take k)=true∧(∀h:k - 1<l.length,1≤k→s=id2 l[k-1])∧Below w2.heap.size w2 wr) (fun _ i _ _ _=>l.length - (intOf i).toNat)
 case atStart=>exact ⟨0,⟨#[]⟩,by omega,rfl,rfl,fun j _ h=>by omega,rfl,fun _ h=>by omega,Below.refl _ _⟩
 case round =>
  obtain ⟨k,s,hk,rfl,rfl,hal,hri,hs1,hbel⟩:=hrel
  have HAL:=Lh hal
  have HRI:=Lh hri
  have HS1:=Lh hs1
  have HBL:=Lh hbel
  clear hal hri hs1 hbel
  have HLL:=Lh (show (ids l).length=l.length from List.length_map ..)
  have x2:=qq (HX2.out wr HBL.out) (j:=2) rfl
  by_cases hlt:k<l.length
  case pos =>
   obtain ⟨b,off,ha,_,hb,e0,e1⟩:=(HI2.out wr HBL.out).keys.at k hlt
   subst ha
   dsimp only at e0 e1
   have hsz:=HF.out.keys l[k] (List.getElem_mem hlt)
   have HBAD:=Lh (fun h=>HVK.out (gP (l:=l) hlt h))
   have HNX:=Lh (show ok2 l[k]=true→(k=0∨Op.bytesLess s.toList (id2 l[k]).toList=true)→(∀j (h:j<l.length),j<k+1→ok2 l[j]=true)∧qr ((ids l).take (k+1))=true∧(∀h:k<l.length,1≤k+1→id2 l[k]=id2 l[k]) from fun ho hle=>by
    refine ⟨fun j hj hjk=>?_,?_,fun _ _=>rfl⟩
    · rcases Nat.lt_succ_iff_lt_or_eq.1 hjk with h1|h1
      · exact HAL.out j hj h1
      · subst h1;exact ho
    · rcases Nat.eq_zero_or_pos k with h0|h0
      · subst h0
        cases hq:ids l with
        | nil=>rfl
        | cons x r=>rfl
      · rw [jT (ids l) k h0 (by have:=HLL.out;omega),HRI.out,Bool.true_and]
        have h3:=hle.resolve_left (by omega)
        rw [HS1.out (by omega) h0] at h3
        simpa [ids] using h3)
   have HFL:=Lh (show 1≤k→Op.bytesLess s.toList (id2 l[k]).toList=false→M=false from fun h1 h2=>HVK.out (yX (l:=l) (k:=k) h1 hlt (by rw [← HS1.out (by omega) h1];exact h2)))
   obtain ⟨x,hx2⟩:∃x:Key2,x=l[k]:=⟨_,rfl⟩
   have HXE:=Lh (show id2 x=id2 l[k] by rw [hx2])
   replace e0:=e0.trans (congrArg (fun z:Key2=>some (Value.string z.1)) hx2.symm)
   replace e1:=e1.trans (congrArg (fun z:Key2=>some (Value.string z.2)) hx2.symm)
   rw [← hx2] at hsz HBAD HNX HFL
   clear hx2 HAL HS1 HRI
   obtain ⟨xs,xp⟩:=x
   replace e0:wr.cell? ⟨b,off+k * 2,none⟩=some (.string xs):=e0
   replace e1:wr.cell? ⟨b,off+k * 2+1,none⟩=some (.string xp):=e1
   have hs1:xs.size≤300:=hsz.1
   have hs2:xp.size≤300:=hsz.2
   have HID:=Lh (lD xs xp wr (by omega) (by omega))
   unfold xk at HID
   obtain ⟨ID,hID⟩:∃ID:ByteArray,ID=⟨(ju xs.data.toList xp.data.toList).toArray⟩:=⟨_,rfl⟩
   rw [← hID] at HID
   have e2:id2 (xs,xp)=ID:=hID.symm
   have HIX:=Lh (show ID=id2 l[k] from e2.symm.trans HXE.out)
   rw [e2] at HNX HFL
   have HOK:=Lh (show ok2 (xs,xp)=zp xs.data.toList xp.data.toList from rfl)
   obtain ⟨ok,hok⟩:∃ok,ok=zp xs.data.toList xp.data.toList:=⟨_,rfl⟩
   rw [← hok] at HOK HID
   rw [HOK.out] at HBAD HNX
   clear hsz hID e2 hok HOK
   go_wp2_with fail
   refine HID.out.mono ?_
   clear HID e0 e1 x2
   rintro r w3 ⟨rfl,hb3⟩
   have HB3:=Lh (HBL.out.trans (hb3.mono HBL.out.size))
   have HBZ:=Lh (HB.out.trans (HB3.out.mono HB.out.size))
   clear hb3
   cases ok
   case false =>
    have HV2:=Lh (HBAD.out rfl)
    go_wp2
    go_ret
    exact ⟨qk HV2.out.symm,HBZ.out⟩
   case true =>
    by_cases h0:k=0
    case pos =>
     have HN:=Lh (HNX.out rfl (.inl h0))
     have a4:decide (0<(k:Int))=false:=decide_eq_false (by omega)
     go_wp2
     go_roundw
     case rel =>
      exact ⟨k+1,ID,by omega,by go_num,rfl,HN.out.1,HN.out.2.1,fun _ _=>HIX.out,HB3.out⟩
     case measure=>simp [intOf];omega
    case neg =>
     have a4:decide (0<(k:Int))=true:=decide_eq_true (by omega)
     have HLE:=Lh (lR s ID)
     cases lt:Op.bytesLess ID.toList s.toList
     case true =>
      rw [lt,Bool.true_or] at HLE
      have HV2:=Lh (HFL.out (by omega) (by rw [HLE.out];rfl))
      go_wp2
      go_ret
      exact ⟨qk HV2.out.symm,HBZ.out⟩
     case false =>
      cases eqq:(ID.toList == s.toList)
      case true =>
       rw [lt,eqq] at HLE
       have HV2:=Lh (HFL.out (by omega) (by rw [HLE.out];rfl))
       go_wp2
       go_ret
       exact ⟨qk HV2.out.symm,HBZ.out⟩
      case false =>
       rw [lt,eqq] at HLE
       have HN:=Lh (HNX.out rfl (.inr HLE.out))
       go_wp2
       go_roundw
       case rel =>
        exact ⟨k+1,ID,by omega,by go_num,rfl,HN.out.1,HN.out.2.1,fun _ _=>HIX.out,HB3.out⟩
       case measure=>simp [intOf];omega
  case neg =>
   obtain rfl:k=l.length:=by omega
   have HVZ:=Lh (HVY.out (by
    refine zw.2 ⟨h32,fun x hx=>?_,?_⟩
    · obtain ⟨j,hj,rfl⟩:=List.getElem_of_mem hx
      exact HAL.out j hj hj
    · have:=HRI.out
      rwa [List.take_of_length_le (by rw [HLL.out];exact Nat.le_refl _)] at this))
   clear hlt HAL HRI HS1
   obtain ⟨m0,hm0⟩:∃m0,m0=zM t1 d1:=⟨_,rfl⟩
   have HM0:=Lh (yo t1 d1 i1 c1 wr (HI2.out wr HBL.out).a (fun s hs=>Nat.le_trans (HF.out.a.2.2 s hs) (by decide)) (Nat.le_trans HF.out.a.2.1 (by decide)))
   rw [← hm0] at HM0
   have HMM0:=Lh (show qe ⟨t1,d1⟩=m0 from hm0.symm)
   clear hm0
   have x3:=qq (HX2.out wr HBL.out) (j:=3) rfl;have x4:=qq (HX2.out wr HBL.out) (j:=4) rfl;have x5:=qq (HX2.out wr HBL.out) (j:=5) rfl;have x6:=qq (HX2.out wr HBL.out) (j:=6) rfl;have x7:=qq (HX2.out wr HBL.out) (j:=7) rfl;have x8:=qq (HX2.out wr HBL.out) (j:=8) rfl
   go_wp2_with fail
   refine HM0.out.mono ?_
   clear HM0 x2 x3 x4 x5 x6 x7 x8
   rintro r w5 ⟨rfl,hb0⟩
   have HQ0:=Lh (HBL.out.trans (hb0.mono HBL.out.size))
   have HBQ0:=Lh (HB.out.trans (HQ0.out.mono HB.out.size))
   clear hb0
   cases m0
   case false =>
    have HV2:=Lh (show M=false by rw [HVZ.out,HMM0.out];rfl)
    go_wp2
    go_ret
    exact ⟨qk HV2.out.symm,HBQ0.out⟩
   case true =>
    obtain ⟨m1,hm1⟩:∃m1,m1=zM t2 d2:=⟨_,rfl⟩
    have HM1:=Lh (yo t2 d2 i2 c2 w5 (HI2.out w5 HQ0.out).b (fun s hs=>Nat.le_trans (HF.out.b.2.2 s hs) (by decide)) (Nat.le_trans HF.out.b.2.1 (by decide)))
    rw [← hm1] at HM1
    have HMM1:=Lh (show qe ⟨t2,d2⟩=m1 from hm1.symm)
    clear hm1
    have x2:=qq (HX2.out w5 HQ0.out) (j:=2) rfl;have x3:=qq (HX2.out w5 HQ0.out) (j:=3) rfl;have x4:=qq (HX2.out w5 HQ0.out) (j:=4) rfl;have x5:=qq (HX2.out w5 HQ0.out) (j:=5) rfl;have x6:=qq (HX2.out w5 HQ0.out) (j:=6) rfl;have x7:=qq (HX2.out w5 HQ0.out) (j:=7) rfl;have x8:=qq (HX2.out w5 HQ0.out) (j:=8) rfl
    go_wp2_with fail
    refine HM1.out.mono ?_
    clear HM1 x2 x3 x4 x5 x6 x7 x8
    rintro r w6 ⟨rfl,hb1⟩
    have HQ1:=Lh (HQ0.out.trans (hb1.mono HQ0.out.size))
    have HBQ1:=Lh (HB.out.trans (HQ1.out.mono HB.out.size))
    clear hb1
    cases m1
    case false =>
     have HV2:=Lh (show M=false by rw [HVZ.out,HMM0.out,HMM1.out];rfl)
     go_wp2
     go_ret
     exact ⟨qk HV2.out.symm,HBQ1.out⟩
    case true =>
     obtain ⟨m2,hm2⟩:∃m2,m2=zM t3 d3:=⟨_,rfl⟩
     have HM2:=Lh (yo t3 d3 i3 c3 w6 (HI2.out w6 HQ1.out).c (fun s hs=>Nat.le_trans (HF.out.c.2.2 s hs) (by decide)) (Nat.le_trans HF.out.c.2.1 (by decide)))
     rw [← hm2] at HM2
     have HMM2:=Lh (show qe ⟨t3,d3⟩=m2 from hm2.symm)
     clear hm2
     have x2:=qq (HX2.out w6 HQ1.out) (j:=2) rfl;have x3:=qq (HX2.out w6 HQ1.out) (j:=3) rfl;have x4:=qq (HX2.out w6 HQ1.out) (j:=4) rfl;have x5:=qq (HX2.out w6 HQ1.out) (j:=5) rfl;have x6:=qq (HX2.out w6 HQ1.out) (j:=6) rfl;have x7:=qq (HX2.out w6 HQ1.out) (j:=7) rfl;have x8:=qq (HX2.out w6 HQ1.out) (j:=8) rfl
     go_wp2_with fail
     refine HM2.out.mono ?_
     clear HM2 x2 x3 x4 x5 x6 x7 x8
     rintro r w7 ⟨rfl,hb2⟩
     have HQ2:=Lh (HQ1.out.trans (hb2.mono HQ1.out.size))
     have HBQ2:=Lh (HB.out.trans (HQ2.out.mono HB.out.size))
     clear hb2
     cases m2
     case false =>
      have HV2:=Lh (show M=false by rw [HVZ.out,HMM0.out,HMM1.out,HMM2.out];rfl)
      go_wp2
      go_ret
      exact ⟨qk HV2.out.symm,HBQ2.out⟩
     case true =>
      have HV2:=Lh (show M=true by rw [HVZ.out,HMM0.out,HMM1.out,HMM2.out];rfl)
      go_wp2
      go_ret
      exact ⟨qk HV2.out.symm,HBQ2.out⟩
end Go.Proofs.YtnlgmcapbbgelaaGreatDoor

namespace Go.Proofs.YtnlgmcapbbgelaaGreatDoor
open Go.RowKit
theorem qP.ins {w:World} {base:Nat} {X:Nat→Prop} {l:List JV} {cs:List Value} (h:qP w base X l cs) (r:Nat) (hr:r≤l.length) (v:JV) (lo hi:Nat) (an:Option Addr) (cn:Nat) (ai:Option Addr) (ci:Nat) (h1:base≤lo) (h2:hi≤w.heap.size) (h3:∀b,X b→¬(lo≤b∧b<hi))
 (hrp:Rep w lo hi v (.agg #[.int .u8 v.kind,.int .i64 v.n,.string v.t,.slice an v.names.length cn,.slice ai v.items.length ci])) :
 qP w base X (l.take r ++ [v] ++ l.drop r) (cs.take (r * 5) ++ [.int .u8 v.kind,.int .i64 v.n,.string v.t,.slice an v.names.length cn,.slice ai v.items.length ci] ++ cs.drop (r * 5)):=by
 have hl:=h.1
 have hlt:(cs.take (r * 5)).length=r * 5:=by rw [List.length_take];omega
 refine ⟨by simp [hl];omega,fun i hi'=>?_⟩
 have hil:i<l.length+1:=by simp at hi';omega
 have get:∀c,c<5→(cs.take (r * 5) ++ [.int .u8 v.kind,.int .i64 v.n,.string v.t,.slice an v.names.length cn,.slice ai v.items.length ci] ++ cs.drop (r * 5))[5 * i+c]?=if i<r then cs[5 * i+c]? else if i=r then [.int .u8 v.kind,.int .i64 v.n,.string v.t,.slice an v.names.length cn,.slice ai v.items.length ci][c]? else cs[5 * (i - 1)+c]?:=fun c hc=>by
  rw [List.append_assoc]
  by_cases e1:i<r
  · rw [if_pos e1,List.getElem?_append_left (by rw [hlt];omega),List.getElem?_take,if_pos (by omega)]
  · rw [if_neg e1,List.getElem?_append_right (by rw [hlt];omega),hlt]
    by_cases e2:i=r
    · rw [if_pos e2,List.getElem?_append_left (by simp;omega)]
      congr 1
      omega
    · rw [if_neg e2,List.getElem?_append_right (by simp;omega),List.getElem?_drop]
      congr 1
      simp
      omega
 by_cases e1:i<r
 · obtain ⟨lo',hi'',an',cn',ai',ci',k1,k2,k3,e0,f1,f2,f3,f4,hr'⟩:=h.2 i (by omega)
   have ei:(l.take r ++ [v] ++ l.drop r)[i]=l[i]'(by omega):=by
    rw [List.getElem_append_left (by simp;omega),List.getElem_append_left (by simp;omega),List.getElem_take]
   rw [ei]
   have g0:=get 0 (by omega);have g1:=get 1 (by omega);have g2:=get 2 (by omega);have g3:=get 3 (by omega);have g4:=get 4 (by omega)
   rw [if_pos e1] at g0 g1 g2 g3 g4
   exact ⟨lo',hi'',an',cn',ai',ci',k1,k2,k3,g0.trans e0,g1.trans f1,g2.trans f2,g3.trans f3,g4.trans f4,hr'⟩
 · by_cases e2:i=r
   · subst e2
     have ei:(l.take i ++ [v] ++ l.drop i)[i]=v:=by
      rw [List.getElem_append_left (by simp;omega),List.getElem_append_right (by rw [List.length_take];omega)]
      simp
     rw [ei]
     have g0:=get 0 (by omega);have g1:=get 1 (by omega);have g2:=get 2 (by omega);have g3:=get 3 (by omega);have g4:=get 4 (by omega)
     rw [if_neg e1,if_pos rfl] at g0 g1 g2 g3 g4
     exact ⟨lo,hi,an,cn,ai,ci,h1,h2,h3,g0,g1,g2,g3,g4,hrp⟩
   · obtain ⟨lo',hi'',an',cn',ai',ci',k1,k2,k3,e0,f1,f2,f3,f4,hr'⟩:=h.2 (i - 1) (by omega)
     have ei:(l.take r ++ [v] ++ l.drop r)[i]=l[i - 1]'(by omega):=by
      rw [List.getElem_append_right (by simp;omega),List.getElem_drop]
      congr 1
      simp
      omega
     rw [ei]
     have g0:=get 0 (by omega);have g1:=get 1 (by omega);have g2:=get 2 (by omega);have g3:=get 3 (by omega);have g4:=get 4 (by omega)
     rw [if_neg e1,if_neg e2] at g0 g1 g2 g3 g4
     exact ⟨lo',hi'',an',cn',ai',ci',k1,k2,k3,g0.trans e0,g1.trans f1,g2.trans f2,g3.trans f3,g4.trans f4,hr'⟩
theorem dA {w:World} {base:Nat} {X:Nat→Prop} {l:List JV} {cs:List Value} (h:qP w base X l cs):∀u ∈ cs,u.oneCell'=true:=fun u hu=>by
 obtain ⟨j,hj,e⟩:=List.getElem_of_mem hu
 have hl:=h.1
 obtain ⟨lo,hi,an,cn,ai,ci,_,_,_,e0,e1,e2,e3,e4,_⟩:=h.2 (j / 5) (by omega)
 have hm:j % 5<5:=Nat.mod_lt _ (by decide)
 have hj2:cs[j]?=some u:=by rw [List.getElem?_eq_getElem hj,e]
 have hje:j=5 * (j / 5)+j % 5:=by omega
 rw [hje] at hj2
 match hq:j % 5,hm with
 | 0,_=>rw [hq,Nat.add_zero,e0] at hj2;cases hj2;rfl
 | 1,_=>rw [hq,e1] at hj2;cases hj2;rfl
 | 2,_=>rw [hq,e2] at hj2;cases hj2;rfl
 | 3,_=>rw [hq,e3] at hj2;cases hj2;rfl
 | 4,_=>rw [hq,e4] at hj2;cases hj2;rfl
theorem tN {W W3 w':World} {cb T e1 e5:Nat} {vn vi vn2 vi2:Value} {ns:List ByteArray} {its:List JV} {cs:List Value} {x:ByteArray} {it:JV} {r lo hi cn ci:Nat} {an ai:Option Addr}
 (h:ObjAt W W3 cb T e1 e5 vn vi ns its cs) (ht:Touch (· = cb) W3 w') (hrow:w'.rowIs cb T 5 (qs (.int .u8 5) (.int .i64 0) (.string ⟨#[]⟩) vn2 vi2))
 (hn:w'.ownsRow W3.heap.size e1 1 vn2 (ns.length+1) ((ns.take r ++ [x] ++ ns.drop r).map .string))
 (hi2:w'.ownsRow W3.heap.size e5 5 vi2 (its.length+1) (cs.take (r * 5) ++ [.int .u8 it.kind,.int .i64 it.n,.string it.t,.slice an it.names.length cn,.slice ai it.items.length ci] ++ cs.drop (r * 5)))
 (hne:∀b,vn2.ownBlock=some b→vi2.ownBlock≠some b) (hr:r≤its.length) (hrn:r≤ns.length) (hlo:W.heap.size≤lo) (hhi:hi≤W3.heap.size) (hcb:cb<lo)
 (hvn:∀b,vn.ownBlock=some b→b<lo) (hvi:∀b,vi.ownBlock=some b→b<lo)
 (hrep:Rep W3 lo hi it (.agg #[.int .u8 it.kind,.int .i64 it.n,.string it.t,.slice an it.names.length cn,.slice ai it.items.length ci])) :
 ObjAt W w' cb T e1 e5 vn2 vi2 (ns.take r ++ [x] ++ ns.drop r) (its.take r ++ [it] ++ its.drop r) (cs.take (r * 5) ++ [.int .u8 it.kind,.int .i64 it.n,.string it.t,.slice an it.names.length cn,.slice ai it.items.length ci] ++ cs.drop (r * 5)) where
 lt:=h.lt
 touch:=h.touch.trans ht
 row:=hrow
 names:=by
  rw [show (ns.take r ++ [x] ++ ns.drop r).length=ns.length+1 by simp;omega]
  exact xQ hn h.touch.size
 items:=by
  rw [show (its.take r ++ [it] ++ its.drop r).length=its.length+1 by simp;omega]
  exact xQ hi2 h.touch.size
 reps:=by
  have:=h.reps.ins r hr it lo hi an cn ai ci hlo hhi (fun b hb=>by
   rcases hb with rfl|hb|hb
   · omega
   · have:=hvn b hb;omega
   · have:=hvi b hb;omega) hrep
  refine this.carry ht.size lz (fun b hb hx=>ht.block b hb fun e=>hx (.inl e)) fun b hb=>?_
  rcases hb with rfl|hb|hb
  · exact .inl (.inl rfl)
  · exact .inr (hn.lt b hb).1
  · exact .inr (hi2.lt b hb).1
 ne:=hne
theorem wv {w w':World} {base e size n:Nat} {v:Value} {xs:List Value} {row:Option Nat} (h:w.ownsRow base e size v n xs) (hg:w.grownBy w' row) (hne:∀b,v.ownBlock=some b→some b≠row):w'.ownsRow base e size v n xs :=
 zv h fun b hb=>hg.block b (h.lt b hb).2 (hne b hb)
theorem yJ {w:World} {base e size n cb j:Nat} {v u:Value} {xs:List Value} (h:w.ownsRow base e size v n xs) (hcb:cb<base):(w.setCell ⟨cb,j,none⟩ u).ownsRow base e size v n xs :=
 zv h fun b hb=>Below.heap_setCell _ _ _ _ (fun (e:b=cb)=>by have:=(h.lt b hb).1;omega)
theorem oD {W:World} {b t:Nat} {v0 v1 v2 x y:Value} (v3 v4:Value) (h:W.rowIs b t 5 (qs v0 v1 v2 x y)):((W.setCell ⟨b,3,none⟩ v3).setCell ⟨b,4,none⟩ v4).rowIs b t 5 (qs v0 v1 v2 v3 v4) :=
 ((
  h.set 3 v3).set 4 v4).congr fun j hj=>by
  rcases j with _|_|_|_|_|j <;> first|rfl|omega
theorem aZ {W W3 wf:World} {cb T e1 e5:Nat} {vn vi vn2 vi2:Value} {ns:List ByteArray} {its:List JV} {cs:List Value} {x:ByteArray} {it:JV} {r lo hi cn ci:Nat} {an ai:Option Addr}
 (h:ObjAt W W3 cb T e1 e5 vn vi ns its cs) (hb:Below W3.heap.size W3 wf) (hcb3:cb<W3.heap.size)
 (hn:wf.ownsRow W3.heap.size e1 1 vn2 (ns.length+1) ((ns.take r ++ [x] ++ ns.drop r).map .string))
 (hi2:wf.ownsRow W3.heap.size e5 5 vi2 (its.length+1) (cs.take (r * 5) ++ [.int .u8 it.kind,.int .i64 it.n,.string it.t,.slice an it.names.length cn,.slice ai it.items.length ci] ++ cs.drop (r * 5)))
 (hne:∀b,vn2.ownBlock=some b→vi2.ownBlock≠some b) (hr:r≤its.length) (hrn:r≤ns.length) (hlo:W.heap.size≤lo) (hhi:hi≤W3.heap.size) (hcb:cb<lo)
 (hvn:∀b,vn.ownBlock=some b→b<lo) (hvi:∀b,vi.ownBlock=some b→b<lo)
 (hrep:Rep W3 lo hi it (.agg #[.int .u8 it.kind,.int .i64 it.n,.string it.t,.slice an it.names.length cn,.slice ai it.items.length ci])) :
 ObjAt W ((wf.setCell ⟨cb,3,none⟩ vn2).setCell ⟨cb,4,none⟩ vi2) cb T e1 e5 vn2 vi2 (ns.take r ++ [x] ++ ns.drop r) (its.take r ++ [it] ++ its.drop r) (cs.take (r * 5) ++ [.int .u8 it.kind,.int .i64 it.n,.string it.t,.slice an it.names.length cn,.slice ai it.items.length ci] ++ cs.drop (r * 5)):=by
 have t0:Touch (· = cb) W3 wf:=Touch.of_below hb lz
 have t1:Touch (· = cb) W3 (wf.setCell ⟨cb,3,none⟩ vn2):=t0.setCell (.inl rfl) _
 have t2:Touch (· = cb) W3 ((wf.setCell ⟨cb,3,none⟩ vn2).setCell ⟨cb,4,none⟩ vi2):=t1.setCell (.inl rfl) _
 exact tN h t2 (oD _ _ (qx hb h.row hcb3)) (yJ (yJ hn hcb3) hcb3) (yJ (yJ hi2 hcb3) hcb3) hne hr hrn hlo hhi hcb hvn hvi hrep
theorem aX {w w6:World} {E X:Obj} (h:((w.alloc E).alloc X).drew.grownBy w6 (some w.heap.size)):w6.heap[w.heap.size+1]?=some X :=
 (h.block (w.heap.size+1) (show w.heap.size+1<((w.alloc E).alloc X).heap.size by simp) (by simp)).trans (jE w E X)
theorem aJ {w w6:World} {E X:Obj} (h:((w.alloc X).alloc E).drew.grownBy w6 (some (w.heap.size+1))):w6.heap[w.heap.size]?=some X :=
 (h.block w.heap.size (show w.heap.size<((w.alloc X).alloc E).heap.size by simp;omega) (by simp)).trans (zE w X E)
set_option maxHeartbeats 4000000 in
set_option maxRecDepth 100000 in
theorem dI (l:List Key2) (a:Option Addr) (c:Nat) (w:World) (hK:zo w 0 w.heap.size a l) (hl:l.length≤40) (hs:∀k ∈ l,k.1.size≤300∧k.2.size≤300) :
 Calls Tryz.prog 78 #[.slice a l.length c] w (dR l w):=by
 have HK:=Lh hK
 have HS:=Lh hs
 clear hK hs
 have HR0:=Lh (qf w (.int .u8 0) (.int .i64 0) (.string ⟨#[]⟩) (.slice none 0 0) (.slice none 0 0) 25)
 have HB0:=Lh (show Below w.heap.size w (w.alloc (.cells #[.int .u8 0,.int .i64 0,.string ⟨#[]⟩,.slice none 0 0,.slice none 0 0] 25)) from (Below.refl _ _).alloc lz _)
 have HNO:=Lh (show ∀(E:Int) (w':World),jM l=E→E≠0→Below w.heap.size w w'→dR l w (.returned (.tuple #[.agg #[.int .u8 0,.int .i64 0,.string ⟨#[]⟩,.slice none 0 0,.slice none 0 0],.int .i64 E])) w' from fun E w' he h0 hb =>
  ⟨qO,fun h=>absurd (he.symm.trans h) h0,fun _=>rfl,by decide,none,0,none,0,by rw [he];rfl,hO _ _ _,hb⟩)
 obtain ⟨n,hn⟩:∃n,n=l.length:=⟨_,rfl⟩
 have HN:=Lh hn
 rw [← hn]
 rw [← hn] at hl
 clear hn
 by_cases h32:n≤32
 case neg =>
  have h32':decide (32<n)=true:=by simp;omega
  have h33':decide (32<(n:Int))=true:=by simp;omega
  have HE:=Lh (show jM l=5 by unfold jM;rw [if_pos (by rw [← HN.out];omega)])
  go_enter Tryz.func78,Tryz.ntmps78
  go_wp2
  refine bodyPost_ret (qj Tryz.results78 _ _ w.heap.size 25 _ (0,0) _ rfl (heap_alloc_new w _) Tryz.underlying25 rfl (by kernel_rfl) _ rfl) rfl (HNO.out 5 _ HE.out (by decide) HB0.out)
 have h32':decide (32<n)=false:=by simp;omega
 have h33':decide (32<(n:Int))=false:=by simp;omega
 have HE:=Lh (show jM l=xy [] l by unfold jM;rw [if_neg (by rw [← HN.out];omega)])
 obtain ⟨i1,hi1,hy0,hy1,hy2⟩:=info_parts xo
 obtain ⟨i2,hi2,hx0,hx1,hx2⟩:=info_parts vO
 go_enter Tryz.func78,Tryz.ntmps78
 go_wp2_with fail
 obtain ⟨w0,hw0⟩:∃w0,w0=w.alloc (.cells #[.int .u8 0,.int .i64 0,.string ⟨#[]⟩,.slice none 0 0,.slice none 0 0] 25):=⟨_,rfl⟩
 have hz0:w0.heap.size=w.heap.size+1:=by rw [hw0];simp
 rw [← hw0] at HB0 HR0
 rw [← hw0,← hz0]
 clear hw0
 have HO:=Lh (show ObjAt (w0.alloc (.cells #[.int .u8 5,.int .i64 0,.string ⟨#[]⟩,.slice none 0 0,.slice none 0 0] 25)) (w0.alloc (.cells #[.int .u8 5,.int .i64 0,.string ⟨#[]⟩,.slice none 0 0,.slice none 0 0] 25)) w0.heap.size 25 9 25 (.slice none 0 0) (.slice none 0 0) [] [] [] from
  ⟨by simp,Touch.refl _ _,qf _ _ _ _ _ _ _,World.ownsRow_nil _ _ _ _,World.ownsRow_nil _ _ _ _,qP.nil _ _ _,fun b hb=>by simp [Value.ownBlock] at hb⟩)
 have HBW:=Lh (show Below w.heap.size w (w0.alloc (.cells #[.int .u8 5,.int .i64 0,.string ⟨#[]⟩,.slice none 0 0,.slice none 0 0] 25)) from HB0.out.alloc HB0.out.size _)
 have HRW:=Lh (show (w0.alloc (.cells #[.int .u8 5,.int .i64 0,.string ⟨#[]⟩,.slice none 0 0,.slice none 0 0] 25)).rowIs w.heap.size 25 5 (qs (.int .u8 0) (.int .i64 0) (.string ⟨#[]⟩) (.slice none 0 0) (.slice none 0 0)) from HR0.out.alloc _)
 have hcb0:w.heap.size<w0.heap.size:=by omega
 clear HB0 HR0 hz0
 generalize (w0.alloc (.cells #[.int .u8 5,.int .i64 0,.string ⟨#[]⟩,.slice none 0 0,.slice none 0 0] 25))=W at HO HBW HRW ⊢
 generalize w0.heap.size=cb at HO hcb0 ⊢
 have HBT:=Lh (show ∀w',Touch (· = cb) W w'→Below w.heap.size w w' from fun w' h=>HBW.out.trans (h.below HBW.out.size fun j hj e=>by omega))
 go_loopw [5,6,7,8,9,10,11,12] (fun i _ _ _ _ _ _ _ wr=>∃(k:Nat) (m:List Key2) (cs:List Value) (vn vi:Value),k≤n∧i=.int .i64 k∧m.Perm (l.take k)∧qr (ids m)=true∧xy [] l=xy (ids (l.take k)) (l.drop k)∧ObjAt W wr cb 25 9 25 vn vi (ids m) (m.map obj2) cs) (fun i _ _ _ _ _ _ _ _=>n - (intOf i).toNat)
 case atStart=>exact ⟨0,[],[],.slice none 0 0,.slice none 0 0,by omega,rfl,by simp,rfl,by simp [ids],HO.out⟩
 case round =>
  obtain ⟨k,m,cs,vn,vi,hk,rfl,hpm,hrm,herr,hobj⟩:=hrel
  have HPM:=Lh hpm
  have HRM:=Lh hrm
  have HER:=Lh herr
  have HOB:=Lh hobj
  have hml:m.length≤40:=by rw [hpm.length_eq,List.length_take];omega
  have HMK:=Lh (show k≤n→m.length=k from fun h=>by rw [hpm.length_eq,List.length_take,← HN.out];omega)
  clear hpm hrm herr hobj
  by_cases hlt:k<n
  · have hkl:k<l.length:=by rw [← HN.out];exact hlt
    have HBR:=Lh (HBT.out wr HOB.out.touch)
    obtain ⟨b,off,ha,_,hb,e0,e1⟩:=(HK.out.below HBR.out lz lz HBR.out.size).at k hkl
    subst ha
    obtain ⟨hs1,hs2⟩:=HS.out l[k] (List.getElem_mem hkl)
    have HST:=Lh (vG l k hkl)
    have HTK:=Lh (show l.take (k+1)=l.take k ++ [l[k]] from List.take_succ_eq_append_getElem hkl)
    obtain ⟨x,hx⟩:∃x,x=l[k]:=⟨_,rfl⟩
    replace e0:=e0.trans (congrArg (fun z:Key2=>some (Value.string z.1)) hx.symm)
    replace e1:=e1.trans (congrArg (fun z:Key2=>some (Value.string z.2)) hx.symm)
    rw [← hx] at hs1 hs2 HST HTK
    have HXK:=Lh hx
    clear hx
    obtain ⟨xs,xp⟩:=x
    replace hs1:xs.size≤300:=hs1
    replace hs2:xp.size≤300:=hs2
    replace e0:wr.cell? ⟨b,off+k * 2,none⟩=some (.string xs):=e0
    replace e1:wr.cell? ⟨b,off+k * 2+1,none⟩=some (.string xp):=e1
    have m1:(0:Int)≤(k:Int):=by omega
    have m2:(k:Int)<(n:Int):=by omega
    have m3:decide ((k:Int)<(n:Int))=true:=by simpa using hlt
    have HID:=Lh (lD xs xp wr (by omega) (by omega))
    unfold xk at HID
    cases hok:zp xs.data.toList xp.data.toList
    · rw [hok,if_neg (by simp)] at HID
      have HTE:=Lh (show jM l=3 by rw [HE.out,HER.out,HST.out];unfold ok2;rw [if_neg (by simp [hok])])
      clear hok
      obtain ⟨ID,hID⟩:∃ID:ByteArray,ID=⟨(ju xs.data.toList xp.data.toList).toArray⟩:=⟨_,rfl⟩
      rw [← hID] at HID
      clear hID
      go_wp2_with fail
      refine HID.out.mono ?_
      clear HID
      rintro e w1 ⟨rfl,hb1⟩
      have HO1:=Lh (HOB.out.below hb1)
      have hrow:=HO1.out.touch.row HRW.out (by omega)
      have HRS:=Lh hrow
      obtain ⟨t0,t1,t2,t3,t4⟩:=rc5 hrow
      obtain ⟨s0,s1,s2,s3,s4⟩:=rf5 hrow
      simp only [qs] at t0 t1 t2 t3 t4
      have HBE:=Lh (HBT.out w1 HO1.out.touch)
      clear hrow hb1
      go_wp2
      refine bodyPost_ret (qj Tryz.results78 _ _ w.heap.size 25 _ (0,0) _ rfl (qm (set5 _ _ _ _ _ HRS.out)) Tryz.underlying25 rfl (by kernel_rfl) _ rfl) rfl (HNO.out 3 _ HTE.out (by decide) (qT _ _ _ _ _ HBE.out lz))
    rw [hok,if_pos rfl] at HID
    have HOK:=Lh hok
    clear hok
    obtain ⟨ID,hID⟩:∃ID:ByteArray,ID=⟨(ju xs.data.toList xp.data.toList).toArray⟩:=⟨_,rfl⟩
    rw [← hID] at HID
    have HIE:=Lh (show ID=id2 (xs,xp) from hID)
    clear hID
    go_wp2_with fail
    refine HID.out.mono ?_
    clear HID e0 e1
    rintro e w1 ⟨rfl,hb1⟩
    have HO1:=Lh (HOB.out.below hb1)
    clear hb1 HOB HBR
    obtain ⟨an,cn,ai,ci,hvn,hvi,hrep⟩:=HO1.out.done
    obtain ⟨an',cn',ai',ci',hxx,_,_,hSN,_⟩:=hrep.parts
    replace hxx:Value.agg #[.int .u8 5,.int .i64 0,.string ⟨#[]⟩,.slice an (ids m).length cn,.slice ai (m.map obj2).length ci]=.agg #[.int .u8 5,.int .i64 0,.string ⟨#[]⟩,.slice an' (ids m).length cn',.slice ai' (m.map obj2).length ci']:=hxx
    simp only [Value.agg.injEq,Array.mk.injEq,List.cons.injEq,Value.slice.injEq,true_and,and_true] at hxx
    obtain ⟨⟨rfl,rfl⟩,rfl,rfl⟩:=hxx
    obtain ⟨ml,hml2⟩:∃ml,ml=m.length:=⟨_,rfl⟩
    have hl1:(ids m).length=ml:=by unfold ids;rw [List.length_map,hml2]
    have hl2:(m.map obj2).length=ml:=by rw [List.length_map,hml2]
    have HPL:=Lh (dN (ids m) ID an cn w1 (hSN.carry (Nat.zero_le _) lz (fun _ _ _=>rfl)) (by omega))
    rw [hl1] at HPL hvn
    rw [hl2] at hvi
    subst hvn
    subst hvi
    have HL1:=Lh hl1
    have HL2:=Lh hl2
    have HML:=Lh hml2
    have hmb:ml≤40:=by omega
    have HSN:=Lh hSN
    unfold ux at HPL
    have c3:w1.cell? ⟨cb,3,none⟩=some (.slice an ml cn):=HO1.out.row.cell (by decide)
    clear hrep hSN hl1 hl2 hml2 hml
    go_wp2_with fail
    refine HPL.out.mono ?_
    clear HPL c3
    rintro e w2 ⟨r,rfl,hrl,hlo,hhi,hb2⟩
    rw [HL1.out] at hrl
    have HLO:=Lh hlo
    have HHI:=Lh hhi
    have HO2:=Lh (HO1.out.below hb2)
    have HSN2:=Lh (HSN.out.below hb2 lz lz lz)
    clear hlo hhi hb2 HO1 HSN
    have c3:w2.cell? ⟨cb,3,none⟩=some (.slice an ml cn):=HO2.out.row.cell (by decide)
    have HHAS:=Lh (show zN (ids (l.take k)) ID=true↔∃h:r<(ids m).length,(ids m)[r]=ID from by
     rw [xR]
     have hiff:ID ∈ ids (l.take k)↔ID ∈ ids m:=by
      unfold ids
      exact ((HPM.out.map id2).mem_iff).symm
     rw [hiff]
     exact ⟨fun h=>uk HRM.out HLO.out HHI.out h,fun ⟨h,e⟩=>e ▸ List.getElem_mem h⟩)
    have q0:(0:Int)≤(r:Int):=by omega
    go_upto_region 11 with fail
    go_cut [53] (fun s53 wx=>s53=.bool (zN (ids (l.take k)) ID)∧wx=w2)
    case first =>
     by_cases hrm2:r<ml
     · have hru:r<(ids m).length:=by rw [HL1.out];exact hrm2
       obtain ⟨pb,pf,ha,_,hpb,y1⟩:=HSN2.out.at r hru
       subst ha
       obtain ⟨y,hy⟩:∃y,y=(ids m)[r]:=⟨_,rfl⟩
       replace y1:=y1.trans (congrArg (fun z=>some (Value.string z)) hy.symm)
       have HQ:=Lh (show zN (ids (l.take k)) ID=(y.toList == ID.toList) from by
        rw [Bool.eq_iff_iff,HHAS.out]
        constructor
        · rintro ⟨_,e⟩;rw [hy,e];simp
        · intro e;exact ⟨hru,by rw [← hy];exact kZ (eq_of_beq e)⟩)
       clear hy
       have q1:(r:Int)<(ml:Int):=by omega
       have q2:decide ((r:Int)<(ml:Int))=true:=by simpa using hrm2
       go_wp2_with fail
       go_meet
       exact ⟨by rw [HQ.out],rfl⟩
     · have q1:¬(r:Int)<(ml:Int):=by omega
       have q2:decide ((r:Int)<(ml:Int))=false:=by simpa using hrm2
       have HQ:=Lh (show zN (ids (l.take k)) ID=false from by
        cases hq:zN (ids (l.take k)) ID
        · rfl
        · obtain ⟨h,_⟩:=HHAS.out.1 hq
          rw [HL1.out] at h;omega)
       go_wp2_with fail
       go_meet
       exact ⟨by rw [HQ.out],rfl⟩
    case rest =>
     obtain ⟨hs53,hwc⟩:=hcut
     subst hs53
     subst hwc
     clear c3
     cases hhas:zN (ids (l.take k)) ID
     case true =>
      have HTE:=Lh (show jM l=7 by rw [HE.out,HER.out,HST.out];rw [if_pos (show ok2 (xs,xp)=true from HOK.out),← HIE.out,if_pos hhas])
      have hrow:=HO2.out.touch.row HRW.out (by omega)
      have HRS:=Lh hrow
      obtain ⟨t0,t1,t2,t3,t4⟩:=rc5 hrow
      obtain ⟨s0,s1,s2,s3,s4⟩:=rf5 hrow
      simp only [qs] at t0 t1 t2 t3 t4
      have HBE:=Lh (HBT.out wc HO2.out.touch)
      clear hrow hhas
      go_wp2
      refine bodyPost_ret (qj Tryz.results78 _ _ w.heap.size 25 _ (0,0) _ rfl (qm (set5 _ _ _ _ _ HRS.out)) Tryz.underlying25 rfl (by kernel_rfl) _ rfl) rfl (HNO.out 7 _ HTE.out (by decide) (qT _ _ _ _ _ HBE.out lz))
     have HNX:=Lh (show xy (ids (l.take k)) (l.drop k)=xy (ids (l.take (k+1))) (l.drop (k+1)) from by rw [HST.out,if_pos (show ok2 (xs,xp)=true from HOK.out),← HIE.out,hhas];rfl)
     have HNM:=Lh (show ID ∉ ids m from fun h=>by
      have:=HHAS.out.2 (uk HRM.out HLO.out HHI.out h)
      rw [hhas] at this;cases this)
     clear hhas
     have HBR:=Lh (HBT.out wc HO2.out.touch)
     obtain ⟨b',off',ha,_,hb',e0,e1⟩:=(HK.out.below HBR.out lz lz HBR.out.size).at k hkl
     simp only [Option.some.injEq,Addr.mk.injEq,and_true] at ha
     obtain ⟨rfl,rfl⟩:=ha
     replace e0:wc.cell? ⟨b,off+k * 2,none⟩=some (.string xs):=e0.trans (congrArg (fun z:Key2=>some (Value.string z.1)) HXK.out.symm)
     replace e1:wc.cell? ⟨b,off+k * 2+1,none⟩=some (.string xp):=e1.trans (congrArg (fun z:Key2=>some (Value.string z.2)) HXK.out.symm)
     have HVY:=Lh (pS xs xp wc (by omega) (by omega) HOK.out)
     unfold wR at HVY
     go_wp2_with fail
     refine HVY.out.mono ?_
     clear HVY e0 e1
     rintro e w3 ⟨qn,qc,qi,qd,rfl,hr3,hb3⟩
     obtain ⟨W3,hW3⟩:∃W3,W3=w3.alloc (.cells #[.int .u8 5,.int .i64 0,.string ⟨#[]⟩,.slice qn 2 qc,.slice qi 2 qd] 25):=⟨_,rfl⟩
     have hbW:Below wc.heap.size wc W3:=by rw [hW3];exact fl hb3
     have hz3:wc.heap.size≤w3.heap.size:=hb3.size
     have hzW:w3.heap.size+1≤W3.heap.size:=by rw [hW3];simp
     have hz3W:w3.heap.size≤W3.heap.size:=by omega
     have HO3:=Lh (HO2.out.below hbW)
     have HXB:=Lh (show W3.heap[w3.heap.size]?=some (.cells #[.int .u8 5,.int .i64 0,.string ⟨#[]⟩,.slice qn 2 qc,.slice qi 2 qd] 25 (0,0)) by rw [hW3];exact heap_alloc_new w3 _)
     have HRX:=Lh (show Rep W3 wc.heap.size w3.heap.size (xO xs xp) (.agg #[.int .u8 5,.int .i64 0,.string ⟨#[]⟩,.slice qn 2 qc,.slice qi 2 qd]) by
      rw [hW3];exact Rep.carry lz lz (fun b _ h=>Below.heap_alloc _ _ _ h) _ _ hr3)
     have hcbw:cb<wc.heap.size:=HO2.out.row.lt
     have HVN:=Lh (show ∀b,(Value.slice an ml cn).ownBlock=some b→b<wc.heap.size from fun b h=>(HO2.out.names.lt b h).2)
     have HVI:=Lh (show ∀b,(Value.slice ai ml ci).ownBlock=some b→b<wc.heap.size from fun b h=>(HO2.out.items.lt b h).2)
     have hWz:W.heap.size≤wc.heap.size:=HO2.out.touch.size
     have HW3:=Lh hW3
     clear hr3 hb3 hW3 hbW HO2 HSN2 HBR
     have HNA:=Lh (show W3.ownsRow W.heap.size 9 1 (.slice an ml cn) ml ((ids m).map .string) by have:=HO3.out.names;rwa [HL1.out] at this)
     have HIA:=Lh (show W3.ownsRow W.heap.size 25 5 (.slice ai ml ci) ml cs by have:=HO3.out.items;rwa [HL2.out] at this)
     have hcn:ml≤cn:=cM HNA.out
     have hci:ml≤ci:=cM HIA.out
     have q3:(r:Int)≤(cn:Int):=by omega
     have q4:(r:Int)≤(ci:Int):=by omega
     have q5:(r:Int)≤(ml:Int):=by omega
     have q6:(r:Int).toNat=r:=by omega
     have hcb3:cb<W3.heap.size:=by omega
     have hcb3':¬cb=W3.heap.size:=by omega
     have c3:W3.cell? ⟨cb,3,none⟩=some (.slice an ml cn):=HO3.out.row.cell (by decide)
     go_upto_region 14 with fail
     rw [← HW3.out]
     clear HW3
     have HON:=Lh (show ∀u ∈ ((ids m).map Value.string).take (r * 1),u.oneCell'=true from fun u hu=>by
      obtain ⟨s,_,rfl⟩:=List.mem_map.1 (List.mem_of_mem_take hu);rfl)
     go_cut [11] (fun s11 wx=>∃a5 c5,s11=.slice a5 (r+1) c5∧wx.ownsRow W3.heap.size 9 1 (.slice a5 (r+1) c5) (r+1) (((ids m).map Value.string).take (r * 1) ++ [.string ID])∧Below W3.heap.size W3 wx)
     case first =>
      have c3':(W3.alloc (.cells #[] 9)).cell? ⟨cb,3,none⟩=some (.slice an ml cn):=(qh _ hcb3).trans (HO3.out.row.cell (by decide))
      go_wp2_with (first|(at_builtin;refine kf _ rfl (.tmp 63) (.tmp 67) 22 rfl W3.heap.size 9 i2 _ 1 16 Tryz.underlying22 hi2 hx0 hx1 hx2 rfl (by decide) (.slice (some ⟨W3.heap.size,0,none⟩) 0 0) 0 [] rfl (World.ownsRow_lit W3 #[] 0 lz (by unfold maxLen;omega) rfl) _ r cn (((ids m).map Value.string).take (r * 1)) rfl (by rw [List.length_take,List.length_map,HL1.out];omega) (gv HNA.out r hrl ((Below.refl _ _).alloc lz _)) HON.out (by unfold maxLen;omega) (by omega) (by simp) (W3.heap.size+1) (by simp) ?_;intro a4 c4' w4 hown4 hgrow4 hat4;rw [Nat.zero_add] at hown4 ⊢;have HO4:=Lh hown4;have HB4:=Lh (below_grown ((Below.refl W3.heap.size W3).alloc lz _) (by simp) hgrow4 (fun b hb=>by simp [Value.ownBlock] at hb;omega));have hz4:W3.heap.size+1≤w4.heap.size:=(by have:=hgrow4.size;simpa using this);clear hown4 hgrow4 hat4)|(at_builtin;refine kf _ rfl (.tmp 68) (.tmp 70) 22 rfl W3.heap.size 9 i2 _ 1 16 Tryz.underlying22 hi2 hx0 hx1 hx2 rfl (by decide) (.slice a4 r c4') r ([] ++ ((ids m).map Value.string).take (r * 1)) rfl (HO4.out.alloc _) (some ⟨w4.heap.size,0,none⟩) 1 1 [.string ID] rfl rfl (fun _=>⟨_,rfl,World.news_of_block (cs:=#[.string ID]) (t:=9) (fr:=(0,0)) (heap_alloc_new w4 _)⟩) (by simp [Value.oneCell']) (by unfold maxLen;omega) (by omega) (by simp;omega) (w4.heap.size+1) (by simp) ?_;intro a5 c5 w5 hown5 hgrow5 hat5;have HO5:=Lh hown5;have HB5:=Lh (below_grown (HB4.out.alloc (by omega) _) (by simp;omega) hgrow5 (fun b hb=>(HO4.out.lt b hb).1));clear hown5 hgrow5 hat5))
      go_meet
      exact ⟨a5,c5,rfl,HO5.out,HB5.out⟩
     case rest =>
      obtain ⟨a5,c5,hs11,hown5,hb5⟩:=hcut
      subst hs11
      obtain ⟨w5,hw5⟩:∃w5,w5=wc:=⟨_,rfl⟩
      rw [← hw5] at hown5 hb5
      rw [← hw5]
      clear hw5
      have HN5:=Lh hown5
      have HB5:=Lh hb5
      have hz5:W3.heap.size≤w5.heap.size:=hb5.size
      clear hown5 hb5 c3 HON
      have HI5:=Lh (qX HIA.out HB5.out)
      have hcb5:cb<w5.heap.size:=by omega
      have hcb5':¬cb=w5.heap.size:=by omega
      have hcb5'':¬cb=w5.heap.size+1:=by omega
      have hxb5:w3.heap.size<w5.heap.size:=by omega
      have hxb5':¬w3.heap.size=w5.heap.size:=by omega
      have c4:w5.cell? ⟨cb,4,none⟩=some (.slice ai ml ci):=by rw [HB5.out.cell hcb3];exact HO3.out.row.cell (by decide)
      obtain ⟨d0,d1,d2,d3,d4⟩:=jw HXB.out HB5.out
      have HX5:=Lh (mi HB5.out HXB.out)
      have HOI:=Lh (show ∀u ∈ cs,u.oneCell'=true from fun u hu=>dA HO3.out.reps u hu)
      have hcsl:cs.length=5 * ml:=by have:=HO3.out.reps.1;rw [HL2.out] at this;exact this
      have HCL:=Lh hcsl
      have HNW:=Lh (show ∀(X:World) (g:Nat),X.heap[g]?=some (.cells #[.int .u8 5,.int .i64 0,.string ⟨#[]⟩,.slice qn 2 qc,.slice qi 2 qd] 25 (0,0))→0<1→∃ad,(some (⟨g,0,none⟩:Addr))=some ad∧∀j u,(Array.toList #[.int .u8 5,.int .i64 0,.string ⟨#[]⟩,.slice qn 2 qc,.slice qi 2 qd])[j]?=some u→X.cell? (ad.add j)=some u from fun X g h _=>⟨_,rfl,World.news_of_block h⟩)
      clear hcsl
      go_upto_region 15 with fail
      go_cut [12] (fun s12 wx=>∃a7 c7,s12=.slice a7 (r+1) c7∧wx.ownsRow w5.heap.size 25 5 (.slice a7 (r+1) c7) (r+1) (cs.take (r * 5) ++ [.int .u8 5,.int .i64 0,.string ⟨#[]⟩,.slice qn 2 qc,.slice qi 2 qd])∧Below w5.heap.size w5 wx)
      case first =>
       have HE1:=Lh (show (w5.drew.alloc (.cells #[] 25)).ownsRow w5.heap.size 25 5 (.slice (some ⟨w5.heap.size,0,none⟩) 0 0) 0 [] from World.ownsRow_lit w5.drew #[] 0 lz (by unfold maxLen;omega) rfl)
       have HE2:=Lh (show ∀X:Obj,((w5.drew.alloc X).alloc (.cells #[] 25)).ownsRow w5.heap.size 25 5 (.slice (some ⟨w5.heap.size+1,0,none⟩) 0 0) 0 [] from fun X=>by
        have:=World.ownsRow_lit (base:=w5.heap.size) (e:=25) (size:=5) (w5.drew.alloc X) #[] 0 (by simp) (by unfold maxLen;omega) rfl
        rwa [show (w5.drew.alloc X).heap.size=w5.heap.size+1 by simp] at this)
       go_region_law (first|(refine zO _ (by rfl) (.tmp 72) (.tmp 76) 23 (by rfl) w5.heap.size 25 i1 _ 5 80 Tryz.underlying23 hi1 hy0 hy1 hy2 rfl (by decide) (.slice (some ⟨w5.heap.size,0,none⟩) 0 0) 0 [] (by rfl) (by first|exact HE1.out|exact HE2.out _|exact HE1.out.alloc _) _ r ci (cs.take (r * 5)) (by rfl) (by rw [List.length_take,HCL.out];omega) (gv HI5.out r hrl (by first|exact (Below.refl _ _).drew.alloc lz _|exact ((Below.refl _ _).drew.alloc lz _).alloc (by simp) _)) (fun u hu=>HOI.out u (List.mem_of_mem_take hu)) (by unfold maxLen;omega) (by omega) (by first|omega|(simp <;> omega)) _ rfl ?_;go_loud (intro a6 c6 w6 hown6 hgrow6 hat6;rw [Nat.zero_add] at hown6 ⊢;have HO6:=Lh hown6;have HB6:=Lh (below_grown (B:=w5.heap.size) (W:=w5) (by first|exact (Below.refl _ _).drew.alloc lz _|exact ((Below.refl _ _).drew.alloc lz _).alloc (by simp) _) (by first|omega|(simp <;> omega)) hgrow6 (fun b hb=>by simp [Value.ownBlock] at hb;omega));have hz6:w5.heap.size≤w6.heap.size:=HB6.out.size;obtain ⟨f0,f1,f2,f3,f4⟩:=jw HX5.out HB6.out;(first|(have HI:=Lh (aX hgrow6))|skip);clear hown6 hgrow6 hat6))|(refine zO _ (by rfl) (.tmp 72) (.tmp 76) 23 (by rfl) w5.heap.size 25 i1 _ 5 80 Tryz.underlying23 hi1 hy0 hy1 hy2 rfl (by decide) (.slice (some ⟨w5.heap.size+1,0,none⟩) 0 0) 0 [] (by rfl) (by first|exact HE1.out|exact HE2.out _|exact HE1.out.alloc _) _ r ci (cs.take (r * 5)) (by rfl) (by rw [List.length_take,HCL.out];omega) (gv HI5.out r hrl (by first|exact (Below.refl _ _).drew.alloc lz _|exact ((Below.refl _ _).drew.alloc lz _).alloc (by simp) _)) (fun u hu=>HOI.out u (List.mem_of_mem_take hu)) (by unfold maxLen;omega) (by omega) (by first|omega|(simp <;> omega)) _ rfl ?_;go_loud (intro a6 c6 w6 hown6 hgrow6 hat6;rw [Nat.zero_add] at hown6 ⊢;have HO6:=Lh hown6;have HB6:=Lh (below_grown (B:=w5.heap.size) (W:=w5) (by first|exact (Below.refl _ _).drew.alloc lz _|exact ((Below.refl _ _).drew.alloc lz _).alloc (by simp) _) (by first|omega|(simp <;> omega)) hgrow6 (fun b hb=>by simp [Value.ownBlock] at hb;omega));have hz6:w5.heap.size≤w6.heap.size:=HB6.out.size;obtain ⟨f0,f1,f2,f3,f4⟩:=jw HX5.out HB6.out;have HI:=Lh (aJ hgrow6);clear hown6 hgrow6 hat6))|(refine zO _ (by rfl) (.tmp 77) (.tmp 79) 23 (by rfl) w5.heap.size 25 i1 _ 5 80 Tryz.underlying23 hi1 hy0 hy1 hy2 rfl (by decide) (.slice a6 r c6) r ([] ++ cs.take (r * 5)) (by rfl) (by first|exact HO6.out.alloc _|exact HO6.out) _ 1 1 (Array.toList #[.int .u8 5,.int .i64 0,.string ⟨#[]⟩,.slice qn 2 qc,.slice qi 2 qd]) (by rfl) (by rfl) (by first|exact HNW.out _ _ (heap_alloc_new _ _)|exact HNW.out _ _ HI.out) (by simp [Value.oneCell']) (by unfold maxLen;omega) (by omega) (by first|omega|(simp <;> omega)) _ rfl ?_;go_loud (intro a7 c7 w7 hown7 hgrow7 hat7;have HO7:=Lh hown7;have HB7:=Lh (below_grown (B:=w5.heap.size) (W:=w5) (by first|exact HB6.out.alloc hz6 _|exact HB6.out) (by first|omega|(simp <;> omega)) hgrow7 (fun b hb=>(HO6.out.lt b hb).1));clear hown7 hgrow7 hat7)))
       all_goals
        go_wp2_with fail
        go_meet
        exact ⟨a7,c7,rfl,HO7.out,HB7.out⟩
      case rest =>
       obtain ⟨a7,c7,hs12,hown7,hb7⟩:=hcut
       subst hs12
       obtain ⟨w8,hw8⟩:∃w8,w8=wc:=⟨_,rfl⟩
       rw [← hw8] at hown7 hb7
       rw [← hw8]
       clear hw8 c4 d0 d1 d2 d3 d4 HNW HX5 HXB
       have HI8:=Lh hown7
       have HB8:=Lh hb7
       have hz8:w5.heap.size≤w8.heap.size:=hb7.size
       have HN8:=Lh (qX HN5.out hb7)
       have HW8:=Lh (HB5.out.trans (hb7.mono HB5.out.size))
       clear hown7 hb7 HI5
       have HNK5:=Lh (show ∀b,(Value.slice a5 (r+1) c5).ownBlock=some b→W3.heap.size≤b∧b<w5.heap.size from fun b hb=>HN5.out.lt b hb)
       have HIK7:=Lh (show ∀b,(Value.slice a7 (r+1) c7).ownBlock=some b→w5.heap.size≤b∧b<w8.heap.size from fun b hb=>HI8.out.lt b hb)
       have HSN:=Lh (show ∀X:World,Below W3.heap.size W3 X→0<ml - r→∃ad,(if cn=r then an else an.map (fun x=>x.add r))=some ad∧∀j u,(((ids m).map Value.string).drop (r * 1))[j]?=some u→X.cell? (ad.add j)=some u from fun X hX=>cC HNA.out r hrl (fun g hg=>hX.block g (by have:=HVN.out g (by rw [hg];rfl);omega)) r (by omega))
       have HSI:=Lh (show ∀X:World,Below W3.heap.size W3 X→0<ml - r→∃ad,(if ci=r then ai else ai.map (fun x=>x.add (r * 5)))=some ad∧∀j u,(cs.drop (r * 5))[j]?=some u→X.cell? (ad.add j)=some u from fun X hX=>cC HIA.out r hrl (fun g hg=>hX.block g (by have:=HVI.out g (by rw [hg];rfl);omega)) (r * 5) rfl)
       have HON:=Lh (show ∀u ∈ ((ids m).map Value.string).drop (r * 1),u.oneCell'=true from fun u hu=>by
        obtain ⟨s,_,rfl⟩:=List.mem_map.1 (List.mem_of_mem_drop hu);rfl)
       have hsum:r+1+(ml - r)=ml+1:=by omega
       have HSUM:=Lh hsum
       clear hsum
       have hcb8:cb<w8.heap.size:=by omega
       have c3:w8.cell? ⟨cb,3,none⟩=some (.slice an ml cn):=by rw [HW8.out.cell hcb3];exact HO3.out.row.cell (by decide)
       have c4:w8.cell? ⟨cb,4,none⟩=some (.slice ai ml ci):=by rw [HW8.out.cell hcb3];exact HO3.out.row.cell (by decide)
       have HC3:=Lh (show ∀X:World,Below W3.heap.size W3 X→X.cell? ⟨cb,3,none⟩=some (.slice an ml cn)∧X.cell? ⟨cb,4,none⟩=some (.slice ai ml ci)∧X.frozen? ⟨cb,3,none⟩=false∧X.frozen? ⟨cb,4,none⟩=false from fun X hX=>⟨by rw [hX.cell hcb3];exact HO3.out.row.cell (by decide),by rw [hX.cell hcb3];exact HO3.out.row.cell (by decide),by rw [hX.frozen hcb3];exact HO3.out.row.frozen 3,by rw [hX.frozen hcb3];exact HO3.out.row.frozen 4⟩)
       go_wp2_with fail
       go_region_law (first|(refine zO _ (by rfl) (.tmp 81) (.tmp 85) 22 (by rfl) W3.heap.size 9 i2 _ 1 16 Tryz.underlying22 hi2 hx0 hx1 hx2 rfl (by decide) (.slice a5 (r+1) c5) (r+1) (((ids m).map Value.string).take (r * 1) ++ [.string ID]) (by rfl) (by first|exact HNK.out|exact HN8.out) _ (ml - r) (cn - r) (((ids m).map Value.string).drop (r * 1)) (by rfl) (by rw [List.length_drop,List.length_map,HL1.out];omega) (by first|exact HSN.out _ HBI.out|exact HSN.out _ HW8.out.drew) HON.out (by unfold maxLen;omega) (by omega) (by first|omega|(simp <;> omega)) _ rfl ?_;go_loud (intro aN cN wN hownN hgrowN hatN;rw [HSUM.out] at hownN hatN ⊢;have HND:=Lh hownN;have HAN:=Lh hatN;have HBN:=Lh (below_grown (B:=W3.heap.size) (W:=W3) (by first|exact HBI.out|exact HW8.out.drew) (by first|omega|(simp <;> omega)) hgrowN (fun b hb=>(HNK5.out b hb).1));(first|(have HIK:=Lh (wv HID2.out hgrowN (fun b hb e=>by have:=(HID2.out.lt b hb).1;have:=(HNK5.out b e.symm).2;omega)))|(have HIK:=Lh (wv (w:=w8.drew) HI8.out hgrowN (fun b hb e=>by have:=(HIK7.out b hb).1;have:=(HNK5.out b e.symm).2;omega))));obtain ⟨k3,k4,l3,l4⟩:=HC3.out wN HBN.out;have hzN:w8.heap.size≤wN.heap.size:=(by have:=hgrowN.size;first|exact this|(exact Nat.le_trans hzI this));clear hownN hgrowN hatN))|(refine zO _ (by rfl) (.tmp 87) (.tmp 91) 23 (by rfl) w5.heap.size 25 i1 _ 5 80 Tryz.underlying23 hi1 hy0 hy1 hy2 rfl (by decide) (.slice a7 (r+1) c7) (r+1) (cs.take (r * 5) ++ [.int .u8 5,.int .i64 0,.string ⟨#[]⟩,.slice qn 2 qc,.slice qi 2 qd]) (by rfl) (by first|exact HIK.out|exact HI8.out) _ (ml - r) (ci - r) (cs.drop (r * 5)) (by rfl) (by rw [List.length_drop,HCL.out];omega) (by first|exact HSI.out _ HBN.out|exact HSI.out _ HW8.out.drew) (fun u hu=>HOI.out u (List.mem_of_mem_drop hu)) (by unfold maxLen;omega) (by omega) (by first|omega|(simp <;> omega)) _ rfl ?_;go_loud (intro aI cI wI hownI hgrowI hatI;rw [HSUM.out] at hownI hatI ⊢;have HID2:=Lh hownI;have HAI:=Lh hatI;have HBI:=Lh (below_grown (B:=W3.heap.size) (W:=W3) (by first|exact HBN.out|exact HW8.out.drew) (by first|omega|(simp <;> omega)) hgrowI (fun b hb=>by have:=(HIK7.out b hb).1;omega));(first|(have HNK:=Lh (wv HND.out hgrowI (fun b hb e=>by have h1:=HIK7.out b e.symm;rcases HAN.out with h|h;(rw [hb] at h;have:=HNK5.out b h.symm;omega);(rw [hb] at h;have h2:=Option.some.inj h;have h3:b=w8.heap.size:=h2;omega))))|(have HNK:=Lh (wv (w:=w8.drew) HN8.out hgrowI (fun b hb e=>by have:=(HNK5.out b hb).2;have:=(HIK7.out b e.symm).1;omega))));obtain ⟨k3,k4,l3,l4⟩:=HC3.out wI HBI.out;have hzI:w8.heap.size≤wI.heap.size:=(by have:=hgrowI.size;first|exact this|(exact Nat.le_trans hzN this));clear hownI hgrowI hatI)))
       all_goals
        have HNE:=Lh (show ∀b,(Value.slice aN (ml+1) cN).ownBlock=some b→(Value.slice aI (ml+1) cI).ownBlock≠some b from fun b hb hb'=>by
         have q1:=(HND.out.lt b hb).2
         rcases HAI.out with e|e
         · have q2:=HIK7.out b (by rw [← e];exact hb')
           rcases HAN.out with f|f
           · have q3:=HNK5.out b (by rw [← f];exact hb)
             omega
           · have q4:b=_:=Option.some.inj (hb.symm.trans f)
             have q5:b<w8.heap.size:=q2.2
             rw [q4] at q5
             simp at q5
         · have q4:b=_:=Option.some.inj (hb'.symm.trans e)
           rw [q4] at q1
           simp at q1)
        go_wp2_with fail
        go_roundw
        case rel =>
         have hl1:(ids m).length=ml:=HL1.out
         have hl2:(m.map obj2).length=ml:=HL2.out
         refine ⟨k+1,dS m r (xs,xp),cs.take (r * 5) ++ [.int .u8 5,.int .i64 0,.string ⟨#[]⟩,.slice qn 2 qc,.slice qi 2 qd] ++ cs.drop (r * 5),.slice aN (ml+1) cN,.slice aI (ml+1) cI,by omega,by go_num,?_,?_,HER.out.trans HNX.out,?_⟩
         · rw [HTK.out]
           exact (nX _ _ _).trans (HPM.out.append_right _)
         · rw [lA,← HIE.out]
           exact nJ HRM.out HLO.out HHI.out HNM.out
         · rw [lA,aQ,← HIE.out]
           refine aZ (it:=xO xs xp) HO3.out HBI.out hcb3 ?_ ?_ HNE.out (by omega) (by omega) hWz hz3W hcbw HVN.out HVI.out HRX.out
           · rw [hl1,List.map_append,List.map_append,List.map_take,List.map_drop]
             have:=HNK.out
             rwa [Nat.mul_one] at this
           · rw [hl2]
             exact xQ (base':=W3.heap.size) HID2.out hz5
        case measure=>simp [intOf];omega
  · obtain rfl:k=n:=by omega
    have hlk:l.take k=l:=List.take_of_length_le (by rw [← HN.out];exact Nat.le_refl _)
    have HTE:=Lh (show jM l=0 by
     rw [HE.out,HER.out,List.drop_of_length_le (by rw [← HN.out];exact Nat.le_refl _)];rfl)
    rw [hlk] at HPM
    have HMK2:=Lh (HMK.out lz)
    clear hlk
    have HWJ:=Lh (show (zD m).wt≤4294967296 by
     have:=bq (m:=m) (fun q hq=>HS.out q (HPM.out.subset hq))
     omega)
    have HLN:=Lh (show (ids m).length=m.length by simp [ids])
    have HLI:=Lh (show (m.map obj2).length=m.length by simp)
    obtain ⟨an,cn,ai,ci,rfl,rfl,hrep⟩:=HOB.out.done
    obtain ⟨ml,hml2⟩:∃ml,ml=m.length:=⟨_,rfl⟩
    rw [← hml2] at HLN HLI
    have HRP:=Lh hrep
    have hrow:=HOB.out.row
    have hres:=HOB.out.touch.row HRW.out (by omega)
    rw [HLN.out,HLI.out] at hrow
    obtain ⟨r0,r1,r2,r3,r4⟩:=rc5 hrow
    obtain ⟨t0,t1,t2,t3,t4⟩:=rc5 hres
    obtain ⟨s0,s1,s2,s3,s4⟩:=rf5 hres
    simp only [qs] at r0 r1 r2 r3 r4 t0 t1 t2 t3 t4
    have HRS:=Lh hres
    have HBR:=Lh (HBT.out wr HOB.out.touch)
    have HWZ:=Lh (show w.heap.size<W.heap.size by have:=HOB.out.lt;omega)
    have m3:decide ((k:Int)<(k:Int))=false:=by simp
    clear hrow hres hrep HOB hml2 hml HMK2 HMK
    go_wp2
    refine bodyPost_ret (qj Tryz.results78 _ _ w.heap.size 25 _ (0,0) _ rfl (qm (set5 _ _ _ _ _ HRS.out)) Tryz.underlying25 rfl (by kernel_rfl) _ rfl) rfl
     ⟨zD m,fun _=>⟨m,HPM.out,HRM.out,rfl⟩,fun h=>absurd HTE.out h,HWJ.out,an,cn,ai,ci,?_,?_,qT _ _ _ _ _ HBR.out lz⟩
    · rw [HTE.out]
      show _=Ending.returned (.tuple #[.agg #[.int .u8 5,.int .i64 0,.string ⟨#[]⟩,.slice an (ids m).length cn,.slice ai (m.map obj2).length ci],.int .i64 0])
      rw [HLN.out,HLI.out];rfl
    · exact Rep.carry (Nat.le_of_lt HWZ.out) (show wr.heap.size≤_ by simp [World.setCell]) (fun j hj _=>jC _ _ _ _ _ (by have:=HWZ.out;omega)) _ _ HRP.out
end Go.Proofs.YtnlgmcapbbgelaaGreatDoor

namespace Go.Proofs.YtnlgmcapbbgelaaGreatDoor
open Go.RowKit Go.Shelf Go.Sort
def uw (x:AuthV × Bool) (w:World) (e:Ending) (w':World):Prop :=
 ∃ia ic,e=.returned (.tuple #[.agg #[.int .i64 x.1.thr,.slice ia x.1.ids.length ic],.bool x.2])∧qv w' 0 w'.heap.size ia x.1.ids∧Below w.heap.size w w'
theorem uO {a:ByteArray} {b:List UInt8} {c:ByteArray} (h:c.toList=b):(a.toList == b)=decide (c=a):=by
 rw [← h,ba_eq];exact decide_eq_decide.2 ⟨Eq.symm,Eq.symm⟩
set_option maxHeartbeats 4000000 in
set_option maxRecDepth 100000 in
theorem nK (v e:Int) (l:List Key2) (t1 t2 t3:Int) (d1 d2 d3:List ByteArray) (ka i1 i2 i3:Option Addr) (kc c1 c2 c3:Nat) (role:ByteArray) (w:World) (hI:RootIn w 0 w.heap.size ⟨v,e,l,⟨⟨t1,d1⟩,⟨t2,d2⟩,⟨t3,d3⟩⟩⟩ ka i1 i2 i3) :
 Calls Tryz.prog 35 #[.agg #[.int .i64 v,.int .i64 e,.slice ka l.length kc,.int .i64 t1,.slice i1 d1.length c1,.int .i64 t2,.slice i2 d2.length c2,.int .i64 t3,.slice i3 d3.length c3],.string role] w (uw (zP ⟨v,e,l,⟨⟨t1,d1⟩,⟨t2,d2⟩,⟨t3,d3⟩⟩⟩ role) w):=by
 obtain ⟨W,hW⟩:∃W,W=(w.alloc (.cells #[.int .i64 v,.int .i64 e,.slice ka l.length kc,.int .i64 t1,.slice i1 d1.length c1,.int .i64 t2,.slice i2 d2.length c2,.int .i64 t3,.slice i3 d3.length c3] 32)).alloc (.cells #[.int .i64 0,.slice none 0 0] 30):=⟨_,rfl⟩
 have hb:Below w.heap.size w W:=by rw [hW];exact ((Below.refl _ _).alloc lz _).alloc (by simp) _
 have hx:W.heap[w.heap.size]?=some (.cells #[.int .i64 v,.int .i64 e,.slice ka l.length kc,.int .i64 t1,.slice i1 d1.length c1,.int .i64 t2,.slice i2 d2.length c2,.int .i64 t3,.slice i3 d3.length c3] 32 (0,0)):=by rw [hW];exact zE w _ _
 have hr0:W.rowIs (w.heap.size+1) 30 2 (xh (.int .i64 0) (.slice none 0 0)):=by
  have:=jQ (w.alloc (.cells #[.int .i64 v,.int .i64 e,.slice ka l.length kc,.int .i64 t1,.slice i1 d1.length c1,.int .i64 t2,.slice i2 d2.length c2,.int .i64 t3,.slice i3 d3.length c3] 32)) (.int .i64 0) (.slice none 0 0) 30
  rw [show (w.alloc (.cells #[.int .i64 v,.int .i64 e,.slice ka l.length kc,.int .i64 t1,.slice i1 d1.length c1,.int .i64 t2,.slice i2 d2.length c2,.int .i64 t3,.slice i3 d3.length c3] 32)).heap.size=w.heap.size+1 by simp,← hW] at this
  exact this
 have HI:=Lh (show ∀w':World,Below w.heap.size w w'→RootIn w' 0 w'.heap.size ⟨v,e,l,⟨⟨t1,d1⟩,⟨t2,d2⟩,⟨t3,d3⟩⟩⟩ ka i1 i2 i3 from fun w' h=>hI.below h lz lz h.size)
 have HB:=Lh hb
 have HR0:=Lh hr0
 have HW:=Lh hW
 have HV:=Lh (show zP ⟨v,e,l,⟨⟨t1,d1⟩,⟨t2,d2⟩,⟨t3,d3⟩⟩⟩ role=if qV=role then (⟨t1,d1⟩,true) else if zB=role then (⟨t2,d2⟩,true) else if xH=role then (⟨t3,d3⟩,true) else (zQ,false) from rfl)
 obtain ⟨R,hR⟩:∃R,R=zP ⟨v,e,l,⟨⟨t1,d1⟩,⟨t2,d2⟩,⟨t3,d3⟩⟩⟩ role:=⟨_,rfl⟩
 rw [← hR] at HV ⊢
 have s0:=hr0.frozen 0
 have s1:=hr0.frozen 1
 have z0:=hr0.cell (i:=0) (by decide)
 have z1:=hr0.cell (i:=1) (by decide)
 simp only [xh] at z0 z1
 have x0:=qq hx (j:=0) rfl
 have x1:=qq hx (j:=1) rfl
 have x2:=qq hx (j:=2) rfl
 have x3:=qq hx (j:=3) rfl
 have x4:=qq hx (j:=4) rfl
 have x5:=qq hx (j:=5) rfl
 have x6:=qq hx (j:=6) rfl
 have x7:=qq hx (j:=7) rfl
 have x8:=qq hx (j:=8) rfl
 clear hI hb hW hR hr0 hx
 have q1:=uO (a:=role) wO
 have q2:=uO (a:=role) wE
 have q3:=uO (a:=role) yq
 go_enter Tryz.func35,Tryz.ntmps35
 go_upto_region 1 with fail
 rw [← HW.out]
 clear HW
 by_cases h0:qV=role
 · have HV2:=Lh (show R=(⟨t1,d1⟩,true) by rw [HV.out,if_pos h0])
   rw [decide_eq_true h0] at q1
   have HI2:=Lh HI.out
   clear HI
   go_wp2
   refine bodyPost_ret (qj Tryz.results35 _ _ (w.heap.size+1) 30 _ (0,0) _ rfl (qU (set2 _ _ HR0.out)) Tryz.underlying30 rfl (by kernel_rfl) _ rfl) rfl ?_
   rw [HV2.out]
   exact ⟨i1,c1,rfl,(HI2.out _ (zU _ _ HB.out (by omega))).a,zU _ _ HB.out (by omega)⟩
 by_cases h1:zB=role
 · have HV2:=Lh (show R=(⟨t2,d2⟩,true) by rw [HV.out,if_neg h0,if_pos h1])
   rw [decide_eq_true h1] at q2
   rw [decide_eq_false h0] at q1
   have HI2:=Lh HI.out
   clear HI
   go_wp2
   refine bodyPost_ret (qj Tryz.results35 _ _ (w.heap.size+1) 30 _ (0,0) _ rfl (qU (set2 _ _ HR0.out)) Tryz.underlying30 rfl (by kernel_rfl) _ rfl) rfl ?_
   rw [HV2.out]
   exact ⟨i2,c2,rfl,(HI2.out _ (zU _ _ HB.out (by omega))).b,zU _ _ HB.out (by omega)⟩
 by_cases h2:xH=role
 · have HV2:=Lh (show R=(⟨t3,d3⟩,true) by rw [HV.out,if_neg h0,if_neg h1,if_pos h2])
   rw [decide_eq_true h2] at q3
   rw [decide_eq_false h0] at q1
   rw [decide_eq_false h1] at q2
   have HI2:=Lh HI.out
   clear HI
   go_wp2
   refine bodyPost_ret (qj Tryz.results35 _ _ (w.heap.size+1) 30 _ (0,0) _ rfl (qU (set2 _ _ HR0.out)) Tryz.underlying30 rfl (by kernel_rfl) _ rfl) rfl ?_
   rw [HV2.out]
   exact ⟨i3,c3,rfl,(HI2.out _ (zU _ _ HB.out (by omega))).c,zU _ _ HB.out (by omega)⟩
 have HV2:=Lh (show R=(zQ,false) by rw [HV.out,if_neg h0,if_neg h1,if_neg h2])
 rw [decide_eq_false h0] at q1
 rw [decide_eq_false h1] at q2
 rw [decide_eq_false h2] at q3
 clear HI
 go_wp2
 refine bodyPost_ret (qj Tryz.results35 _ _ (w.heap.size+1) 30 _ (0,0) _ rfl (qU (set2 _ _ HR0.out)) Tryz.underlying30 rfl (by kernel_rfl) _ rfl) rfl ?_
 rw [HV2.out]
 exact ⟨none,0,rfl,.inl rfl,zU _ _ HB.out (by omega)⟩
end Go.Proofs.YtnlgmcapbbgelaaGreatDoor
