/- The contract of legateref12.Show: the text of a moment. Printed by genref12.py. -/
import Derived.Test.YtnlgmcapbbgelaaGreatDoorRt04
import Derived.Lib.AppendIntMem
import Derived.Test.YtnlgmcapbbgelaaGreatDoorRt02
import Derived.Lib.ItoaLen

namespace Go.Proofs.YtnlgmcapbbgelaaGreatDoor
open Go.RowKit Go.Lib
abbrev js (w : World) : Prop := Lib.TabIs Tryz.prog w "internal/strconv.uint64pow10" .u64 Lib.pow10Tab
theorem js.below {w w':World} (h:js w) (hb:Below w.heap.size w w'):js w':=Lib.tabBelow_of_tabIs h w' hb
theorem od (k:Nat) (h:k≤4):Lib.repeatL (⟨#[48]⟩:ByteArray).data.toList k=List.replicate k 48:=by
 have:k=0∨k=1∨k=2∨k=3∨k=4:=by omega
 rcases this with rfl|rfl|rfl|rfl|rfl <;> rfl
theorem jZ (a b:List UInt8):(⟨a.toArray⟩:ByteArray) ++ (⟨b.toArray⟩:ByteArray)=⟨(a ++ b).toArray⟩:=by
 apply ByteArray.ext
 simp
theorem zq (a:List UInt8):(⟨a.toArray⟩:ByteArray).size=a.length:=by simp [ByteArray.size]
set_option maxHeartbeats 1000000 in
theorem vN (n wd:Nat) (w:World) (hn:n≤100000) (hwd:wd≤4) (hP:js w):Calls Tryz.prog 117 #[.int .i64 n,.int .i64 wd] w fun e w'=>e=.returned (.string ⟨(qB n wd).toArray⟩)∧Below w.heap.size w w':=by
 have HI:=Lh (Tryz.strconv_Itoa n (by omega) (by omega) w hP)
 have HL:=Lh (show qB n wd=List.replicate (wd - (Lib.itoa n).length) 48 ++ Lib.itoa n from rfl)
 generalize Lib.itoa n=l at *
 obtain ⟨t,ht⟩:∃t:ByteArray,t=⟨l.toArray⟩:=⟨_,rfl⟩
 have hsz:t.size=l.length:=by rw [ht];exact zq l
 rw [← ht] at HI
 have HT:=Lh ht
 have HSZ:=Lh hsz
 by_cases hc:t.size<wd
 · have HR:=Lh (fun w':World=>Tryz.strings_Repeat ⟨#[48]⟩ (wd - t.size) w' (by omega) (by show 1 * (wd - t.size)≤_;omega))
   have e1:((wd - t.size:Nat):Int)=(wd:Int) - t.size:=by omega
   rw [e1,od _ (by omega)] at HR
   obtain ⟨rp,hrp⟩:∃rp:ByteArray,rp=⟨(List.replicate (wd - t.size) 48).toArray⟩:=⟨_,rfl⟩
   have hrs:rp.size≤4:=by rw [hrp,zq,List.length_replicate];omega
   rw [← hrp] at HR
   have HRP:=Lh hrp
   have hsum:rp.size+t.size≤100:=by omega
   have c1:decide ((t.size:Int)<wd)=true:=by simpa using hc
   have hc':(t.size:Int)<wd:=by omega
   clear hP ht hsz hrp
   go_enter Tryz.func117,Tryz.ntmps117
   go_wp2_with fail
   refine HI.out.mono ?_
   rintro e w' ⟨rfl,k,os,rfl⟩
   go_wp2_with fail
   refine (HR.out _).mono ?_
   rintro e w2 ⟨rfl,hb⟩
   have HB:=Lh ((below_grow w.heap.size w lz k os).trans (hb.mono (below_grow w.heap.size w lz k os).size))
   clear hb
   go_wp2
   go_ret
   refine ⟨?_,HB.out⟩
   rw [HL.out,← HSZ.out,← jZ,← HT.out,← HRP.out]
   rfl
 · have c1:decide ((t.size:Int)<wd)=false:=by simp;omega
   clear hP ht hsz
   go_enter Tryz.func117,Tryz.ntmps117
   go_wp2_with fail
   refine HI.out.mono ?_
   rintro e w' ⟨rfl,k,os,rfl⟩
   go_wp2
   go_ret
   refine ⟨?_,below_grow w.heap.size w lz k os⟩
   rw [HL.out,← HSZ.out,show wd - t.size=0 by omega,HT.out]
   rfl
def xP (n:Int):Int:=if 0≤n∧n≤253402300799 then 0 else 1
def jg (n:Int):ByteArray:=if 0≤n∧n≤253402300799 then ⟨(jz n.toNat).toArray⟩ else ⟨#[]⟩
theorem uo {f y d:Nat} (h:y<9999∧ql (y+1)≤d):zk (f+1) y d=zk f (y+1) d:=by rw [zk,if_pos h]
theorem bD {f y d:Nat} (h:¬(y<9999∧ql (y+1)≤d)):zk f y d=y:=by
 cases f with
 | zero=>rfl
 | succ f=>rw [zk,if_neg h]
theorem bS {y f m d:Nat} (h:m<12∧qG y m≤d):qS y (f+1) m d=qS y f (m+1) (d - qG y m):=by rw [qS,if_pos h]
theorem yU {y f m d:Nat} (h:¬(m<12∧qG y m≤d)):qS y f m d=(m,d):=by
 cases f with
 | zero=>rfl
 | succ f=>rw [qS,if_neg h]
theorem dg (y:Nat) (h:1970≤y):ql (y+1)≤ql y+366:=by unfold ql zK;omega
theorem db:ql 9999=2932532:=by decide
theorem vS (y m:Nat):jn y m=qG y m:=by unfold jn;rw [if_neg (by omega)];simp
theorem zf (n wd:Nat) (hn:n≤100000) (hw:wd≤4):(qB n wd).length≤40:=by
 unfold qB
 have:=Lib.itoa_length_le (n:Int) (by omega) (by omega)
 rw [List.length_append,List.length_replicate];omega
theorem mK (a b c d e f:List UInt8):(⟨a.toArray⟩:ByteArray) ++ ⟨#[45]⟩ ++ ⟨b.toArray⟩ ++ ⟨#[45]⟩ ++ ⟨c.toArray⟩ ++ ⟨#[84]⟩ ++ ⟨d.toArray⟩ ++ ⟨#[58]⟩ ++ ⟨e.toArray⟩ ++ ⟨#[58]⟩ ++ ⟨f.toArray⟩ ++ ⟨#[90]⟩=⟨(a ++ [45] ++ b ++ [45] ++ c ++ [84] ++ d ++ [58] ++ e ++ [58] ++ f ++ [90]).toArray⟩:=by
 rw [← jZ,← jZ,← jZ,← jZ,← jZ,← jZ,← jZ,← jZ,← jZ,← jZ,← jZ]
set_option maxHeartbeats 2000000 in
set_option maxRecDepth 100000 in
theorem mV (n:Int) (w:World) (hT:TabW w) (hP:js w):Calls Tryz.prog 66 #[.int .i64 n] w fun e w'=>e=.returned (.tuple #[.string (jg n),.int .i64 (xP n)])∧Below w.heap.size w w':=by
 by_cases h0:0≤n
 · by_cases h1:n≤253402300799
   · obtain ⟨N,rfl⟩:∃N:Nat,n=N:=⟨n.toNat,by omega⟩
     have HS:=Lh (show jg N=⟨(jz N).toArray⟩∧xP N=0 by unfold jg xP;rw [if_pos ⟨h0,h1⟩,if_pos ⟨h0,h1⟩];exact ⟨rfl,rfl⟩)
     have e1:((N:Int).tdiv 86400)=((N / 86400:Nat):Int):=by rw [Int.tdiv_eq_ediv_of_nonneg (by omega)];omega
     have e2:((N:Int).tmod 86400)=((N % 86400:Nat):Int):=by rw [Int.tmod_eq_emod_of_nonneg (by omega)];omega
     obtain ⟨D,hD⟩:∃D,D=N / 86400:=⟨_,rfl⟩
     obtain ⟨t,ht⟩:∃t,t=N % 86400:=⟨_,rfl⟩
     have hDb:D≤2932896:=by omega
     have htb:t<86400:=by omega
     rw [← hD] at e1
     rw [← ht] at e2
     have HD:=Lh (And.intro hD ht)
     have HT:=Lh hT
     have HP:=Lh hP
     clear hD ht hT hP
     go_enter Tryz.func66,Tryz.ntmps66
     go_wp2
     go_loopw [6] (fun y wr=>∃k:Nat,k≤8029∧y=.int .i64 ((1970+k:Nat):Int)∧ql (1970+k)≤D∧zk 8030 1970 D=zk (8030 - k) (1970+k) D∧Below w.heap.size w wr) (fun y _=>10000 - (intOf y).toNat)
     case atStart=>exact ⟨0,by omega,rfl,by show ql 1970≤D;rw [show ql 1970=0 by decide];omega,rfl,Below.refl _ _⟩
     case round =>
      obtain ⟨k,hk,rfl,hst,hy,hb⟩:=hrel
      obtain ⟨Y,hY⟩:∃Y,Y=1970+k:=⟨_,rfl⟩
      rw [← hY] at hst hy ⊢
      have hYb:1970≤Y∧Y≤9999:=by omega
      obtain ⟨c,hc⟩:∃c:Bool,c=decide (Y<9999∧ql (Y+1)≤D):=⟨_,rfl⟩
      have HK:=Lh (And.intro hY (And.intro hst hy))
      have HC:=Lh hc
      have HB:=Lh hb
      clear hY hst hy hc hb
      go_upto_region 5 with fail
      go_cut [27] (fun s wx=>s=.bool c∧Below wr.heap.size wr wx)
      case first =>
       by_cases c1:Y<9999
       · have q1:decide ((Y:Int)<9999)=true:=by simp;omega
         have HST:=Lh (vL (Y+1) wr (by omega) (by omega))
         rw [show ((Y+1:Nat):Int)=(Y:Int)+1 by omega] at HST
         have HC2:=Lh (show c=decide (ql (Y+1)≤D) by rw [HC.out];simp [c1])
         go_wp2_with fail
         refine HST.out.mono ?_
         rintro e w' ⟨rfl,h'⟩
         subst h'
         generalize ql (Y+1)=sa at *
         go_wp2_with fail
         go_meet
         exact ⟨by rw [HC2.out] <;> simp,Below.refl _ _⟩
       · have q1:decide ((Y:Int)<9999)=false:=by simp;omega
         have HC2:=Lh (show c=false by rw [HC.out];simp [c1])
         go_wp2_with fail
         go_meet
         exact ⟨by rw [HC2.out],Below.refl _ _⟩
      case rest =>
       obtain ⟨rfl,hbc⟩:=hcut
       have HBC:=Lh (HB.out.trans (hbc.mono HB.out.size))
       clear hbc
       cases c
       · have hn:¬(Y<9999∧ql (Y+1)≤D):=fun h=>by have:=HC.out;simp [h] at this
         have hyr:zk 8030 1970 D=Y:=by rw [HK.out.2.2];exact bD hn
         have hE:∃E,D=ql Y+E:=⟨D - ql Y,by have:=HK.out.2.1;omega⟩
         obtain ⟨E,hE⟩:=hE
         have hE2:E≤366:=by
          have h1:=dg Y hYb.1
          by_cases c9:Y<9999
          · have:¬ql (Y+1)≤D:=fun h=>hn ⟨c9,h⟩
            omega
          · have:Y=9999:=by omega
            subst this
            have:=db
            omega
         have HST:=Lh (vL Y wc hYb.1 (by omega))
         have HYR:=Lh hyr
         have HEE:=Lh (And.intro hE hE2)
         clear hn hyr HK HC hE2
         go_wp2_with fail
         refine HST.out.mono ?_
         clear HST
         rintro e w' ⟨rfl,h'⟩
         subst h'
         have hEi:(D:Int) - (ql Y:Int)=(E:Int):=by omega
         generalize hsY:ql Y=sY at *
         have HSY:=Lh hsY
         clear hsY
         go_wp2
         go_loopw [4,7] (fun dv mv wr=>∃k q:Nat,k≤11∧mv=.int .i64 ((k+1:Nat):Int)∧dv=.int .i64 (q:Int)∧q≤366∧qS Y 12 1 E=qS Y (12 - k) (k+1) q∧Below w.heap.size w wr) (fun _ mv _=>12 - (intOf mv).toNat)
         case atStart=>exact ⟨0,E,by omega,rfl,congrArg (Value.int .i64) (by omega),HEE.out.2,rfl,HBC.out⟩
         case round =>
          obtain ⟨k,q,hk,rfl,rfl,hq,hm,hb⟩:=hrel
          obtain ⟨M,hM⟩:∃M,M=k+1:=⟨_,rfl⟩
          rw [← hM] at hm ⊢
          have hMb:1≤M∧M≤12:=by omega
          obtain ⟨c,hc⟩:∃c:Bool,c=decide (M<12∧qG Y M≤q):=⟨_,rfl⟩
          have HM:=Lh (And.intro hM hm)
          have HC:=Lh hc
          have HB:=Lh hb
          clear hM hm hc hb
          clear hEi hE
          go_upto_region 9 with fail
          go_cut [42] (fun s wx=>s=.bool c∧Below wr.heap.size wr wx)
          case first =>
           by_cases c1:M<12
           · have q1:decide ((M:Int)<12)=true:=by simp;omega
             have HDY:=Lh (bG Y M wr (HT.out.below HB.out))
             rw [vS] at HDY
             have HC2:=Lh (show c=decide (qG Y M≤q) by rw [HC.out];simp [c1])
             go_wp2_with fail
             refine HDY.out.mono ?_
             rintro e w' ⟨rfl,hb⟩
             have HB2:=Lh hb
             clear hb
             generalize qG Y M=sa at *
             go_wp2_with fail
             go_meet
             exact ⟨by rw [HC2.out] <;> simp,HB2.out⟩
           · have q1:decide ((M:Int)<12)=false:=by simp;omega
             have HC2:=Lh (show c=false by rw [HC.out];simp [c1])
             go_wp2_with fail
             go_meet
             exact ⟨by rw [HC2.out],Below.refl _ _⟩
          case rest =>
           obtain ⟨rfl,hbc⟩:=hcut
           have HBC:=Lh (HB.out.trans (hbc.mono HB.out.size))
           clear hbc
           cases c
           · have hn:¬(M<12∧qG Y M≤q):=fun h=>by have:=HC.out;simp [h] at this
             have hyr:qS Y 12 1 E=(M,q):=by rw [HM.out.2];exact yU hn
             have HMR:=Lh hyr
             have HBW:=Lh HBC.out
             clear hyr hn HC HM
             have d4:(t:Int).tdiv 3600=((t / 3600:Nat):Int):=by rw [Int.tdiv_eq_ediv_of_nonneg (by omega)];omega
             have d5a:(t:Int).tdiv 60=((t / 60:Nat):Int):=by rw [Int.tdiv_eq_ediv_of_nonneg (by omega)];omega
             have d5:((t / 60:Nat):Int).tmod 60=((t / 60 % 60:Nat):Int):=by rw [Int.tmod_eq_emod_of_nonneg (by omega)];omega
             have d6:(t:Int).tmod 60=((t % 60:Nat):Int):=by rw [Int.tmod_eq_emod_of_nonneg (by omega)];omega
             have HQ1:=Lh (vN (Y) 4 wc (by omega) (by decide) (HP.out.below HBW.out))
             have hl1:=zf (Y) 4 (by omega) (by decide)
             obtain ⟨P1,hP1⟩:∃P:ByteArray,P=⟨(qB (Y) 4).toArray⟩:=⟨_,rfl⟩
             rw [← hP1] at HQ1
             have z1:P1.size≤40:=by rw [hP1,zq];exact hl1
             have HE1:=Lh hP1
             clear hl1 hP1
             go_wp2_with fail
             refine HQ1.out.mono ?_
             clear HQ1
             rintro e wp1 ⟨rfl,hb⟩
             replace HBW:=Lh (HBW.out.trans (hb.mono HBW.out.size))
             clear hb
             have HQ2:=Lh (vN (M) 2 wp1 (by omega) (by decide) (HP.out.below HBW.out))
             have hl2:=zf (M) 2 (by omega) (by decide)
             obtain ⟨P2,hP2⟩:∃P:ByteArray,P=⟨(qB (M) 2).toArray⟩:=⟨_,rfl⟩
             rw [← hP2] at HQ2
             have z2:P2.size≤40:=by rw [hP2,zq];exact hl2
             have HE2:=Lh hP2
             clear hl2 hP2
             go_wp2_with fail
             refine HQ2.out.mono ?_
             clear HQ2
             rintro e wp2 ⟨rfl,hb⟩
             replace HBW:=Lh (HBW.out.trans (hb.mono HBW.out.size))
             clear hb
             have HQ3:=Lh (vN (q+1) 2 wp2 (by omega) (by decide) (HP.out.below HBW.out))
             have hl3:=zf (q+1) 2 (by omega) (by decide)
             obtain ⟨P3,hP3⟩:∃P:ByteArray,P=⟨(qB (q+1) 2).toArray⟩:=⟨_,rfl⟩
             rw [← hP3] at HQ3
             have z3:P3.size≤40:=by rw [hP3,zq];exact hl3
             have HE3:=Lh hP3
             clear hl3 hP3
             rw [show ((q+1:Nat):Int)=(q:Int)+1 by omega] at HQ3
             go_wp2_with fail
             refine HQ3.out.mono ?_
             clear HQ3
             rintro e wp3 ⟨rfl,hb⟩
             replace HBW:=Lh (HBW.out.trans (hb.mono HBW.out.size))
             clear hb
             have HQ4:=Lh (vN (t / 3600) 2 wp3 (by omega) (by decide) (HP.out.below HBW.out))
             have hl4:=zf (t / 3600) 2 (by omega) (by decide)
             obtain ⟨P4,hP4⟩:∃P:ByteArray,P=⟨(qB (t / 3600) 2).toArray⟩:=⟨_,rfl⟩
             rw [← hP4] at HQ4
             have z4:P4.size≤40:=by rw [hP4,zq];exact hl4
             have HE4:=Lh hP4
             clear hl4 hP4
             go_wp2_with fail
             refine HQ4.out.mono ?_
             clear HQ4
             rintro e wp4 ⟨rfl,hb⟩
             replace HBW:=Lh (HBW.out.trans (hb.mono HBW.out.size))
             clear hb
             have HQ5:=Lh (vN (t / 60 % 60) 2 wp4 (by omega) (by decide) (HP.out.below HBW.out))
             have hl5:=zf (t / 60 % 60) 2 (by omega) (by decide)
             obtain ⟨P5,hP5⟩:∃P:ByteArray,P=⟨(qB (t / 60 % 60) 2).toArray⟩:=⟨_,rfl⟩
             rw [← hP5] at HQ5
             have z5:P5.size≤40:=by rw [hP5,zq];exact hl5
             have HE5:=Lh hP5
             clear hl5 hP5
             go_wp2_with fail
             refine HQ5.out.mono ?_
             clear HQ5
             rintro e wp5 ⟨rfl,hb⟩
             replace HBW:=Lh (HBW.out.trans (hb.mono HBW.out.size))
             clear hb
             have HQ6:=Lh (vN (t % 60) 2 wp5 (by omega) (by decide) (HP.out.below HBW.out))
             have hl6:=zf (t % 60) 2 (by omega) (by decide)
             obtain ⟨P6,hP6⟩:∃P:ByteArray,P=⟨(qB (t % 60) 2).toArray⟩:=⟨_,rfl⟩
             rw [← hP6] at HQ6
             have z6:P6.size≤40:=by rw [hP6,zq];exact hl6
             have HE6:=Lh hP6
             clear hl6 hP6
             go_wp2_with fail
             refine HQ6.out.mono ?_
             clear HQ6
             rintro e wp6 ⟨rfl,hb⟩
             replace HBW:=Lh (HBW.out.trans (hb.mono HBW.out.size))
             clear hb
             have HDL:=Lh (show jz N=qB Y 4 ++ [45] ++ qB M 2 ++ [45] ++ qB (q+1) 2 ++ [84] ++ qB (t / 3600) 2 ++ [58] ++ qB (t / 60 % 60) 2 ++ [58] ++ qB (t % 60) 2 ++ [90] by
              have h1:N / 86400=D:=HD.out.1.symm
              have h2:N % 86400=t:=HD.out.2.symm
              have h3:zk 8030 1970 D=Y:=HYR.out
              unfold jz
              simp only [h1,h2,h3]
              rw [show D - ql Y=E by have:=HEE.out.1;have:=HSY.out;omega,HMR.out])
             go_wp2
             go_ret2
             exact ⟨by rw [HS.out.1,HS.out.2,HDL.out,← mK,← HE1.out,← HE2.out,← HE3.out,← HE4.out,← HE5.out,← HE6.out];rfl,HBW.out⟩
           · have hy:M<12∧qG Y M≤q:=of_decide_eq_true HC.out.symm
             have HDY:=Lh (bG Y M wc (HT.out.below HBC.out))
             rw [vS] at HDY
             have HGO:=Lh (show qS Y 12 1 E=qS Y (12 - (k+1)) (k+1+1) (q - qG Y M) by
              have h:=HM.out.2
              rw [show 12 - k=(12 - (k+1))+1 by omega,bS hy] at h
              rw [h,HM.out.1])
             have HKK:=Lh (show k+1≤11∧M=k+1∧qG Y M≤q from ⟨by have:=HM.out.1;omega,HM.out.1,hy.2⟩)
             have hle:(qG Y M:Int)≤q:=by omega
             clear hy
             go_wp2_with fail
             refine HDY.out.mono ?_
             rintro e w' ⟨rfl,hb⟩
             have HB2:=Lh (HBC.out.trans (hb.mono HBC.out.size))
             clear hb
             generalize qG Y M=sa at *
             go_wp2
             go_roundw
             case rel=>exact ⟨k+1,q - sa,HKK.out.1,by rw [HKK.out.2.1];rfl,by go_num,by omega,HGO.out,HB2.out⟩
             case measure=>have:=HKK.out;simp [intOf];omega
       · have hy:Y<9999∧ql (Y+1)≤D:=of_decide_eq_true HC.out.symm
         have HGO:=Lh (show zk 8030 1970 D=zk (8030 - (k+1)) (1970+(k+1)) D by
          have h:=HK.out.2.2
          rw [show 8030 - k=(8030 - (k+1))+1 by omega,uo hy] at h
          rw [h,HK.out.1];rfl)
         have HKK:=Lh (show k+1≤8029∧Y=1970+k∧ql (Y+1)≤D from ⟨by have:=HK.out.1;omega,HK.out.1,hy.2⟩)
         clear hy
         go_wp2
         go_roundw
         case rel=>exact ⟨k+1,HKK.out.1,by rw [HKK.out.2.1];rfl,by rw [show 1970+(k+1)=Y+1 by rw [HKK.out.2.1];rfl];exact HKK.out.2.2,HGO.out,HBC.out⟩
         case measure=>have:=HKK.out;simp [intOf];omega
   · have HS:=Lh (show jg n=⟨#[]⟩∧xP n=1 by unfold jg xP;rw [if_neg (by omega),if_neg (by omega)];exact ⟨rfl,rfl⟩)
     have q0:decide (n<0)=false:=by simp;omega
     have q1:decide (253402300799<n)=true:=by simp;omega
     clear h0 h1 hT hP
     go_enter Tryz.func66,Tryz.ntmps66
     go_wp2
     go_ret2
     exact ⟨by rw [HS.out.1,HS.out.2];rfl,Below.refl _ _⟩
 · have HS:=Lh (show jg n=⟨#[]⟩∧xP n=1 by unfold jg xP;rw [if_neg (by omega),if_neg (by omega)];exact ⟨rfl,rfl⟩)
   have q0:decide (n<0)=true:=by simp;omega
   clear h0 hT hP
   go_enter Tryz.func66,Tryz.ntmps66
   go_wp2
   go_ret2
   exact ⟨by rw [HS.out.1,HS.out.2];rfl,Below.refl _ _⟩
end Go.Proofs.YtnlgmcapbbgelaaGreatDoor

namespace Go.Proofs.YtnlgmcapbbgelaaGreatDoor
open Go.RowKit
theorem fe (y:Nat) (w:World) (hy:y≤100000):Calls Tryz.prog 93 #[.int .i64 y] w fun e w'=>e=.returned (.bool (zl y))∧w'=w:=by
 have e4:((y:Int).tmod 4)=((y % 4:Nat):Int):=by rw [Int.tmod_eq_emod_of_nonneg (by omega)];omega
 have e1:((y:Int).tmod 100)=((y % 100:Nat):Int):=by rw [Int.tmod_eq_emod_of_nonneg (by omega)];omega
 have e0:((y:Int).tmod 400)=((y % 400:Nat):Int):=by rw [Int.tmod_eq_emod_of_nonneg (by omega)];omega
 have HL:=Lh (show zl y=(y % 4 == 0 && y % 100 != 0 || y % 400 == 0) from rfl)
 have HCA:=Lh (show y % 400=0→y % 4=0 by omega)
 generalize y % 4=a at *
 generalize y % 100=b at *
 generalize y % 400=c at *
 by_cases ha:a=0
 · subst ha
   have e4':((y:Int).tmod 4)=0:=e4
   by_cases hb:b=0
   · subst hb
     have e1':((y:Int).tmod 100)=0:=e1
     by_cases hc:c=0
     · subst hc
       have e0':((y:Int).tmod 400)=0:=e0
       clear e4 e1 e0
       go_enter Tryz.func93,Tryz.ntmps93
       go_wp2
       go_ret
       exact ⟨qk (by rw [HL.out];rfl),rfl⟩
     · have hc':((c:Int) == 0)=false:=by simp;omega
       clear e4 e1
       go_enter Tryz.func93,Tryz.ntmps93
       go_wp2
       go_ret
       exact ⟨qk (by rw [HL.out];simp [hc]),rfl⟩
   · have hb':((b:Int) == 0)=false:=by simp;omega
     have hb2:((b:Int) != 0)=true:=by simp;omega
     clear e4 e0
     go_enter Tryz.func93,Tryz.ntmps93
     go_wp2
     go_ret
     exact ⟨qk (by rw [HL.out];simp [hb]),rfl⟩
 · have ha':((a:Int) == 0)=false:=by simp;omega
   have HF:=Lh (show zl y=false by rw [HL.out];have hc:c≠0:=fun h=>ha (HCA.out h);simp [ha,hc])
   clear e1 e0
   go_enter Tryz.func93,Tryz.ntmps93
   go_wp2
   go_ret
   exact ⟨qk (by rw [HF.out]),rfl⟩
set_option maxHeartbeats 2000000 in
theorem fQ (y m:Int) (w:World):Calls Tryz.prog 92 #[.int .i64 y,.int .i64 m] w fun e w'=>e=.returned (.int .i64 (jn y m))∧w'=w:=by
 by_cases h1:1970≤y
 · by_cases h2:y≤9999
   · by_cases h3:1≤m
     · by_cases h4:m≤12
       · obtain ⟨a,rfl⟩:∃a:Nat,y=a:=⟨y.toNat,by omega⟩
         have HD:=Lh (show ∀b:Nat,1≤b→b≤12→jn a (b:Int)=(beforeN b:Int) - (beforeN (b - 1):Int)+(if b=2∧zl a=true then 1 else 0) by
          intro b hb1 hb2
          have hu:=yB ⟨b,by omega⟩ (by show 1≤b;omega)
          unfold jn qG
          rw [if_neg (by omega),if_pos (by simp;omega)]
          simp only [Int.toNat_natCast]
          have:=hu.1
          simp only at this
          split <;> omega)
         have HL:=Lh (fun w':World=>fe a w' (by omega))
         have hm:m=1∨m=2∨m=3∨m=4∨m=5∨m=6∨m=7∨m=8∨m=9∨m=10∨m=11∨m=12:=by omega
         clear h3 h4
         rcases hm with rfl|rfl|rfl|rfl|rfl|rfl|rfl|rfl|rfl|rfl|rfl|rfl
         case inr.inl =>
          have HD2:=Lh (HD.out 2 (by decide) (by decide))
          clear HD
          cases hl:zl a
          · rw [hl] at HL HD2
            clear hl
            go_enter Tryz.func92,Tryz.ntmps92
            go_wp2_with fail
            refine (HL.out _).mono ?_
            rintro e w' ⟨rfl,rfl⟩
            go_wp2
            go_ret
            exact ⟨qF (by rw [show ((2:Nat):Int)=2 from rfl] at HD2;rw [HD2.out];rfl),rfl⟩
          · rw [hl] at HL HD2
            clear hl
            go_enter Tryz.func92,Tryz.ntmps92
            go_wp2_with fail
            refine (HL.out _).mono ?_
            rintro e w' ⟨rfl,rfl⟩
            go_wp2
            go_ret
            exact ⟨qF (by rw [show ((2:Nat):Int)=2 from rfl] at HD2;rw [HD2.out];rfl),rfl⟩
         all_goals
          go_enter Tryz.func92,Tryz.ntmps92
          go_wp2
          go_ret
          refine ⟨qF ?_,rfl⟩
          first
           | exact (HD.out 1 (by decide) (by decide)).symm
           | exact (HD.out 3 (by decide) (by decide)).symm
           | exact (HD.out 4 (by decide) (by decide)).symm
           | exact (HD.out 5 (by decide) (by decide)).symm
           | exact (HD.out 6 (by decide) (by decide)).symm
           | exact (HD.out 7 (by decide) (by decide)).symm
           | exact (HD.out 8 (by decide) (by decide)).symm
           | exact (HD.out 9 (by decide) (by decide)).symm
           | exact (HD.out 10 (by decide) (by decide)).symm
           | exact (HD.out 11 (by decide) (by decide)).symm
           | exact (HD.out 12 (by decide) (by decide)).symm
       · have HD:=Lh (jv (y:=y) (m:=m) (by omega))
         go_enter Tryz.func92,Tryz.ntmps92
         go_wp2
         go_ret
         exact ⟨qF (by rw [HD.out]),rfl⟩
     · have HD:=Lh (jv (y:=y) (m:=m) (by omega))
       go_enter Tryz.func92,Tryz.ntmps92
       go_wp2
       go_ret
       exact ⟨qF (by rw [HD.out]),rfl⟩
   · have HD:=Lh (jv (y:=y) (m:=m) (by omega))
     go_enter Tryz.func92,Tryz.ntmps92
     go_wp2
     go_ret
     exact ⟨qF (by rw [HD.out]),rfl⟩
 · have HD:=Lh (jv (y:=y) (m:=m) (by omega))
   go_enter Tryz.func92,Tryz.ntmps92
   go_wp2
   go_ret
   exact ⟨qF (by rw [HD.out]),rfl⟩
theorem aT:∀k:Fin 100,qB k.val 2=[UInt8.ofNat (48+k.val / 10 % 10),UInt8.ofNat (48+k.val % 10)]:=by decide +kernel
set_option maxHeartbeats 1000000 in
set_option maxRecDepth 100000 in
theorem zY (n:Nat) (w:World) (hn:n<100):Calls Tryz.prog 127 #[.int .i64 n] w fun e w'=>e=.returned (.string ⟨(qB n 2).toArray⟩)∧Below w.heap.size w w':=by
 have HP:=Lh (aT ⟨n,hn⟩)
 have d1:(n:Int).tdiv 10=((n / 10:Nat):Int):=by rw [Int.tdiv_eq_ediv_of_nonneg (by omega)];omega
 have d2:((n / 10:Nat):Int).tmod 10=((n / 10 % 10:Nat):Int):=by rw [Int.tmod_eq_emod_of_nonneg (by omega)];omega
 have d3:(n:Int).tmod 10=((n % 10:Nat):Int):=by rw [Int.tmod_eq_emod_of_nonneg (by omega)];omega
 have b1:n / 10 % 10<10:=Nat.mod_lt _ (by decide)
 have b2:n % 10<10:=Nat.mod_lt _ (by decide)
 have b3:n / 10<10:=by omega
 have HP2:=Lh (show qB n 2=[UInt8.ofNat (48+n / 10 % 10),UInt8.ofNat (48+n % 10)] from HP.out)
 clear HP
 generalize n / 10 % 10=p at *
 generalize n / 10=q at *
 generalize n % 10=r at *
 have HCV:=Lh (show (convert 99 9 (.slice (some ⟨w.heap.size,0,none⟩) 2 2)).run Tryz.prog (w.alloc (.cells #[.int .u8 (48+(p:Int)),.int .u8 (48+(r:Int))] 5))=.ok (.string ⟨[UInt8.ofNat (48+p),UInt8.ofNat (48+r)].toArray⟩) (w.alloc (.cells #[.int .u8 (48+(p:Int)),.int .u8 (48+(r:Int))] 5)) from by
  refine run_convert_bytes_back _ _ _ 5 ⟨w.heap.size,0,none⟩ 2 [UInt8.ofNat (48+p),UInt8.ofNat (48+r)] Tryz.underlying99 Tryz.underlying5 Tryz.underlying9 fun j hj=>?_
  have hx:=heap_alloc_new w (.cells #[.int .u8 (48+(p:Int)),.int .u8 (48+(r:Int))] 5)
  have hj2:j=0∨j=1:=by simp at hj;omega
  rcases hj2 with rfl|rfl
  · refine (qq hx rfl).trans ?_
    simp;omega
  · refine (qq hx rfl).trans ?_
    simp;omega)
 have HT:=Lh (show (⟨(qB n 2).toArray⟩:ByteArray)=⟨[UInt8.ofNat (48+p),UInt8.ofNat (48+r)].toArray⟩ by rw [HP2.out])
 clear HP2
 generalize (⟨[UInt8.ofNat (48+p),UInt8.ofNat (48+r)].toArray⟩:ByteArray)=T at *
 go_enter Tryz.func127,Tryz.ntmps127
 go_wp2_with fail
 rw [HCV.out]
 go_wp2
 go_ret
 exact ⟨by rw [HT.out];rfl,(Below.refl _ _).alloc lz _⟩
theorem mW:∀a b:Fin 100,qB (a.val * 100+b.val) 4=qB a.val 2 ++ qB b.val 2:=by decide +kernel
theorem mY:ql 10000=2932897:=by decide
theorem sz (y:Nat) (hy:1970≤y∧y≤9999):zi y 12+qG y 12=365+(if zl y=true then 1 else 0):=by
 rw [vD y 12 hy (by decide) (by decide)]
 unfold zi
 cases zl y <;> simp [beforeN]
theorem fZ (y1 y2 b c d e f:List UInt8):(⟨y1.toArray⟩:ByteArray) ++ ⟨y2.toArray⟩ ++ ⟨#[45]⟩ ++ ⟨b.toArray⟩ ++ ⟨#[45]⟩ ++ ⟨c.toArray⟩ ++ ⟨#[84]⟩ ++ ⟨d.toArray⟩ ++ ⟨#[58]⟩ ++ ⟨e.toArray⟩ ++ ⟨#[58]⟩ ++ ⟨f.toArray⟩ ++ ⟨#[90]⟩=⟨((y1 ++ y2) ++ [45] ++ b ++ [45] ++ c ++ [84] ++ d ++ [58] ++ e ++ [58] ++ f ++ [90]).toArray⟩:=by
 rw [jZ y1 y2,mK]
set_option maxHeartbeats 8000000 in
set_option maxRecDepth 100000 in
theorem fX (
 n:Int) (w:World):Calls Tryz.prog 77 #[.int .i64 n] w fun e w'=>e=.returned (.tuple #[.string (jg n),.int .i64 (xP n)])∧Below w.heap.size w w':=by
 by_cases h0:0≤n
 · by_cases h1:n≤253402300799
   · obtain ⟨N,rfl⟩:∃N:Nat,n=N:=⟨n.toNat,by omega⟩
     have HS:=Lh (show jg N=⟨(jz N).toArray⟩∧xP N=0 by unfold jg xP;rw [if_pos ⟨h0,h1⟩,if_pos ⟨h0,h1⟩];exact ⟨rfl,rfl⟩)
     have e1:((N:Int).tdiv 86400)=((N / 86400:Nat):Int):=by rw [Int.tdiv_eq_ediv_of_nonneg (by omega)];omega
     have e2:((N:Int).tmod 86400)=((N % 86400:Nat):Int):=by rw [Int.tmod_eq_emod_of_nonneg (by omega)];omega
     obtain ⟨D,hD⟩:∃D,D=N / 86400:=⟨_,rfl⟩
     obtain ⟨t,ht⟩:∃t,t=N % 86400:=⟨_,rfl⟩
     have hDb:D≤2932896:=by omega
     have htb:t<86400:=by omega
     rw [← hD] at e1
     rw [← ht] at e2
     have HD:=Lh (And.intro hD ht)
     clear hD ht
     go_enter Tryz.func77,Tryz.ntmps77
     go_wp2
     go_loopw [4,6,7] (fun d y _ wr=>∃k E:Nat,k≤8029∧y=.int .i64 ((1970+k:Nat):Int)∧d=.int .i64 (E:Int)∧ql (1970+k)+E=D∧zk 8030 1970 D=zk (8030 - k) (1970+k) D∧wr=w) (fun _ y _ _=>10000 - (intOf y).toNat)
     case atStart=>exact ⟨0,D,by omega,rfl,rfl,by show ql 1970+D=D;rw [show ql 1970=0 by decide];omega,rfl,rfl⟩
     case round =>
      obtain ⟨k,E,hk,rfl,rfl,hst,hy,rfl⟩:=hrel
      obtain ⟨Y,hY⟩:∃Y,Y=1970+k:=⟨_,rfl⟩
      rw [← hY] at hst hy ⊢
      have hYb:1970≤Y∧Y≤9999:=by omega
      have hED:E≤2932896:=by omega
      have HK:=Lh (And.intro hY (And.intro hst hy))
      have HN:=Lh (bu Y hYb.1)
      have HSY:=Lh (show Y=9999→D<ql (Y+1) from fun h=>by subst h;rw [mY];omega)
      have HA12:=Lh (sz Y hYb)
      have HLP:=Lh (fe Y wr (by omega))
      clear hY hst hy
      cases hl:zl Y
      · have HYN:=Lh (show ql (Y+1)=ql Y+365 by rw [HN.out,hl];rfl)
        have HAD:=Lh (show zi Y 12+qG Y 12=365 by rw [HA12.out,hl];rfl)
        rw [hl] at HLP
        clear hl HN HA12
        by_cases hlt:E<365
        · have c1:decide ((E:Int)<365)=true:=by simp;omega
          have HYR:=Lh (show zk 8030 1970 D=Y by
           rw [HK.out.2.2];exact bD (fun h=>by have:=h.2;have:=HYN.out;have:=HK.out.2.1;omega))
          have HEE:=Lh (And.intro HK.out.2.1 hlt)
          clear HK HSY HYN hk hlt
          go_wp2_with fail
          refine HLP.out.mono ?_
          clear HLP
          rintro e w' ⟨rfl,rfl⟩
          go_wp2
          clear c1
          go_loopw [4,8] (fun dv mv wr=>∃k q:Nat,k≤11∧mv=.int .i64 ((k+1:Nat):Int)∧dv=.int .i64 (q:Int)∧q≤366∧zi Y (k+1)+q=E∧qS Y 12 1 E=qS Y (12 - k) (k+1) q∧wr=w') (fun _ mv _=>13 - (intOf mv).toNat)
          case atStart=>exact ⟨0,E,by omega,rfl,rfl,by have:=HEE.out.2;omega,by show zi Y 1+E=E;simp [zi,beforeN],rfl,rfl⟩
          case round =>
           obtain ⟨k,q,hk,rfl,rfl,hq,ha,hm,rfl⟩:=hrel
           obtain ⟨M,hM⟩:∃M,M=k+1:=⟨_,rfl⟩
           rw [← hM] at ha hm ⊢
           have hMb:1≤M∧M≤12:=by omega
           have HM:=Lh (And.intro hM (And.intro ha hm))
           have HDY:=Lh (fQ Y M wr)
           rw [vS] at HDY
           clear hM ha hm
           by_cases hc:qG Y M≤q
           · have hM12:M<12:=by
              by_cases h12:M=12
              · have h3:=HM.out.2.1;have h4:=HAD.out;have h5:=HEE.out.2;rw [h12] at h3 hc;omega
              · omega
             have HGO:=Lh (show qS Y 12 1 E=qS Y (12 - (k+1)) (k+1+1) (q - qG Y M) by
              have h:=HM.out.2.2
              rw [show 12 - k=(12 - (k+1))+1 by omega,bS ⟨hM12,hc⟩] at h
              rw [h,HM.out.1])
             have HAH:=Lh (show zi Y (k+1+1)+(q - qG Y M)=E by
              have h1:=wG Y M hYb hMb.1 (by omega)
              have h2:=HM.out.2.1
              rw [← HM.out.1];omega)
             have HKK:=Lh (show k+1≤11∧M=k+1∧qG Y M≤q from ⟨by have:=HM.out.1;omega,HM.out.1,hc⟩)
             have hle:(qG Y M:Int)≤q:=by omega
             have c2:decide ((qG Y M:Int)≤(q:Int))=true:=by simp;omega
             clear hc
             generalize qG Y M=sa at *
             go_wp2_with fail
             refine HDY.out.mono ?_
             rintro e w2 ⟨rfl,rfl⟩
             go_wp2_with fail
             refine HDY.out.mono ?_
             rintro e w2 ⟨rfl,rfl⟩
             go_wp2
             go_roundw
             case rel=>exact ⟨k+1,q - sa,HKK.out.1,by rw [HKK.out.2.1];rfl,by go_num,by omega,HAH.out,HGO.out,by trivial⟩
             case measure=>have:=HKK.out;simp [intOf];omega
           · have c2:decide ((qG Y M:Int)≤(q:Int))=false:=by simp;omega
             have c3:decide (qG Y M≤q)=false:=by simp;omega
             have c4:¬qG Y M≤q:=hc
             have HMR:=Lh (show qS Y 12 1 E=(M,q) by rw [HM.out.2.2];exact yU (fun h=>hc h.2))
             have hq1:q<31:=by
              have h1:=vD Y M hYb hMb.1 hMb.2
              have hm:M=1∨M=2∨M=3∨M=4∨M=5∨M=6∨M=7∨M=8∨M=9∨M=10∨M=11∨M=12:=by omega
              have h2:qG Y M≤31:=by
               rw [h1]
               rcases hm with rfl|rfl|rfl|rfl|rfl|rfl|rfl|rfl|rfl|rfl|rfl|rfl <;> cases zl Y <;> simp [beforeN]
              omega
             clear HM hc
             generalize qG Y M=sa at *
             go_wp2_with fail
             refine HDY.out.mono ?_
             clear HDY
             rintro e w2 ⟨rfl,rfl⟩
             have HBW:=Lh (Below.refl w2.heap.size w2)
             have g1:(Y:Int).tdiv 100=((Y / 100:Nat):Int):=by rw [Int.tdiv_eq_ediv_of_nonneg (by omega)];omega
             have g2:(Y:Int).tmod 100=((Y % 100:Nat):Int):=by rw [Int.tmod_eq_emod_of_nonneg (by omega)];omega
             have d4:(t:Int).tdiv 3600=((t / 3600:Nat):Int):=by rw [Int.tdiv_eq_ediv_of_nonneg (by omega)];omega
             have d5a:(t:Int).tdiv 60=((t / 60:Nat):Int):=by rw [Int.tdiv_eq_ediv_of_nonneg (by omega)];omega
             have d5:((t / 60:Nat):Int).tmod 60=((t / 60 % 60:Nat):Int):=by rw [Int.tmod_eq_emod_of_nonneg (by omega)];omega
             have d6:(t:Int).tmod 60=((t % 60:Nat):Int):=by rw [Int.tmod_eq_emod_of_nonneg (by omega)];omega
             have HQ1:=Lh (zY (Y / 100) w2 (by omega))
             have hl1:=zf (Y / 100) 2 (by omega) (by decide)
             obtain ⟨P1,hP1⟩:∃P:ByteArray,P=⟨(qB (Y / 100) 2).toArray⟩:=⟨_,rfl⟩
             rw [← hP1] at HQ1
             have z1:P1.size≤40:=by rw [hP1,zq];exact hl1
             have HE1:=Lh hP1
             clear hl1 hP1
             go_wp2_with fail
             refine HQ1.out.mono ?_
             clear HQ1
             rintro e wp1 ⟨rfl,hb⟩
             replace HBW:=Lh (HBW.out.trans (hb.mono HBW.out.size))
             clear hb
             have HQ2:=Lh (zY (Y % 100) wp1 (by omega))
             have hl2:=zf (Y % 100) 2 (by omega) (by decide)
             obtain ⟨P2,hP2⟩:∃P:ByteArray,P=⟨(qB (Y % 100) 2).toArray⟩:=⟨_,rfl⟩
             rw [← hP2] at HQ2
             have z2:P2.size≤40:=by rw [hP2,zq];exact hl2
             have HE2:=Lh hP2
             clear hl2 hP2
             go_wp2_with fail
             refine HQ2.out.mono ?_
             clear HQ2
             rintro e wp2 ⟨rfl,hb⟩
             replace HBW:=Lh (HBW.out.trans (hb.mono HBW.out.size))
             clear hb
             have HQ3:=Lh (zY (M) wp2 (by omega))
             have hl3:=zf (M) 2 (by omega) (by decide)
             obtain ⟨P3,hP3⟩:∃P:ByteArray,P=⟨(qB (M) 2).toArray⟩:=⟨_,rfl⟩
             rw [← hP3] at HQ3
             have z3:P3.size≤40:=by rw [hP3,zq];exact hl3
             have HE3:=Lh hP3
             clear hl3 hP3
             go_wp2_with fail
             refine HQ3.out.mono ?_
             clear HQ3
             rintro e wp3 ⟨rfl,hb⟩
             replace HBW:=Lh (HBW.out.trans (hb.mono HBW.out.size))
             clear hb
             have HQ4:=Lh (zY (q+1) wp3 (by omega))
             have hl4:=zf (q+1) 2 (by omega) (by decide)
             obtain ⟨P4,hP4⟩:∃P:ByteArray,P=⟨(qB (q+1) 2).toArray⟩:=⟨_,rfl⟩
             rw [← hP4] at HQ4
             have z4:P4.size≤40:=by rw [hP4,zq];exact hl4
             have HE4:=Lh hP4
             clear hl4 hP4
             rw [show ((q+1:Nat):Int)=(q:Int)+1 by omega] at HQ4
             go_wp2_with fail
             refine HQ4.out.mono ?_
             clear HQ4
             rintro e wp4 ⟨rfl,hb⟩
             replace HBW:=Lh (HBW.out.trans (hb.mono HBW.out.size))
             clear hb
             have HQ5:=Lh (zY (t / 3600) wp4 (by omega))
             have hl5:=zf (t / 3600) 2 (by omega) (by decide)
             obtain ⟨P5,hP5⟩:∃P:ByteArray,P=⟨(qB (t / 3600) 2).toArray⟩:=⟨_,rfl⟩
             rw [← hP5] at HQ5
             have z5:P5.size≤40:=by rw [hP5,zq];exact hl5
             have HE5:=Lh hP5
             clear hl5 hP5
             go_wp2_with fail
             refine HQ5.out.mono ?_
             clear HQ5
             rintro e wp5 ⟨rfl,hb⟩
             replace HBW:=Lh (HBW.out.trans (hb.mono HBW.out.size))
             clear hb
             have HQ6:=Lh (zY (t / 60 % 60) wp5 (by omega))
             have hl6:=zf (t / 60 % 60) 2 (by omega) (by decide)
             obtain ⟨P6,hP6⟩:∃P:ByteArray,P=⟨(qB (t / 60 % 60) 2).toArray⟩:=⟨_,rfl⟩
             rw [← hP6] at HQ6
             have z6:P6.size≤40:=by rw [hP6,zq];exact hl6
             have HE6:=Lh hP6
             clear hl6 hP6
             go_wp2_with fail
             refine HQ6.out.mono ?_
             clear HQ6
             rintro e wp6 ⟨rfl,hb⟩
             replace HBW:=Lh (HBW.out.trans (hb.mono HBW.out.size))
             clear hb
             have HQ7:=Lh (zY (t % 60) wp6 (by omega))
             have hl7:=zf (t % 60) 2 (by omega) (by decide)
             obtain ⟨P7,hP7⟩:∃P:ByteArray,P=⟨(qB (t % 60) 2).toArray⟩:=⟨_,rfl⟩
             rw [← hP7] at HQ7
             have z7:P7.size≤40:=by rw [hP7,zq];exact hl7
             have HE7:=Lh hP7
             clear hl7 hP7
             go_wp2_with fail
             refine HQ7.out.mono ?_
             clear HQ7
             rintro e wp7 ⟨rfl,hb⟩
             replace HBW:=Lh (HBW.out.trans (hb.mono HBW.out.size))
             clear hb
             have HDL:=Lh (show jz N=(qB (Y / 100) 2 ++ qB (Y % 100) 2) ++ [45] ++ qB M 2 ++ [45] ++ qB (q+1) 2 ++ [84] ++ qB (t / 3600) 2 ++ [58] ++ qB (t / 60 % 60) 2 ++ [58] ++ qB (t % 60) 2 ++ [90] by
              have h1:N / 86400=D:=HD.out.1.symm
              have h2:N % 86400=t:=HD.out.2.symm
              have h3:zk 8030 1970 D=Y:=HYR.out
              have h4:=mW ⟨Y / 100,by omega⟩ ⟨Y % 100,by omega⟩
              simp only at h4
              rw [show Y / 100 * 100+Y % 100=Y by omega] at h4
              unfold jz
              simp only [h1,h2,h3]
              rw [show D - ql Y=E by have:=HEE.out.1;omega,HMR.out,h4])
             go_wp2
             go_ret2
             exact ⟨by rw [HS.out.1,HS.out.2,HDL.out,← fZ,← HE1.out,← HE2.out,← HE3.out,← HE4.out,← HE5.out,← HE6.out,← HE7.out];rfl,HBW.out⟩
        · have c1:decide ((E:Int)<365)=false:=by simp;omega
          have hY9:Y<9999:=by
           by_cases h9:Y=9999
           · have:=HSY.out h9;have:=HYN.out;have:=HK.out.2.1;omega
           · omega
          have HGO:=Lh (show zk 8030 1970 D=zk (8030 - (k+1)) (1970+(k+1)) D by
           have h:=HK.out.2.2
           rw [show 8030 - k=(8030 - (k+1))+1 by omega,uo ⟨hY9,by have:=HYN.out;have:=HK.out.2.1;omega⟩] at h
           rw [h,HK.out.1];rfl)
          have HKK:=Lh (show k+1≤8029∧Y=1970+k∧ql (1970+(k+1))+(E - 365)=D from ⟨by have:=HK.out.1;omega,HK.out.1,by rw [show 1970+(k+1)=Y+1 by rw [HK.out.1];rfl,HYN.out];have:=HK.out.2.1;omega⟩)
          have hle:(365:Int)≤E:=by omega
          clear hlt
          go_wp2_with fail
          refine HLP.out.mono ?_
          rintro e w' ⟨rfl,rfl⟩
          go_wp2
          go_roundw
          case rel=>exact ⟨k+1,E - 365,HKK.out.1,by rw [HKK.out.2.1];rfl,by go_num,HKK.out.2.2,HGO.out,by trivial⟩
          case measure=>have:=HKK.out;simp [intOf];omega
      · have HYN:=Lh (show ql (Y+1)=ql Y+366 by rw [HN.out,hl];rfl)
        have HAD:=Lh (show zi Y 12+qG Y 12=366 by rw [HA12.out,hl];rfl)
        rw [hl] at HLP
        clear hl HN HA12
        by_cases hlt:E<366
        · have c1:decide ((E:Int)<366)=true:=by simp;omega
          have HYR:=Lh (show zk 8030 1970 D=Y by
           rw [HK.out.2.2];exact bD (fun h=>by have:=h.2;have:=HYN.out;have:=HK.out.2.1;omega))
          have HEE:=Lh (And.intro HK.out.2.1 hlt)
          clear HK HSY HYN hk hlt
          go_wp2_with fail
          refine HLP.out.mono ?_
          clear HLP
          rintro e w' ⟨rfl,rfl⟩
          go_wp2
          clear c1
          go_loopw [4,8] (fun dv mv wr=>∃k q:Nat,k≤11∧mv=.int .i64 ((k+1:Nat):Int)∧dv=.int .i64 (q:Int)∧q≤366∧zi Y (k+1)+q=E∧qS Y 12 1 E=qS Y (12 - k) (k+1) q∧wr=w') (fun _ mv _=>13 - (intOf mv).toNat)
          case atStart=>exact ⟨0,E,by omega,rfl,rfl,by have:=HEE.out.2;omega,by show zi Y 1+E=E;simp [zi,beforeN],rfl,rfl⟩
          case round =>
           obtain ⟨k,q,hk,rfl,rfl,hq,ha,hm,rfl⟩:=hrel
           obtain ⟨M,hM⟩:∃M,M=k+1:=⟨_,rfl⟩
           rw [← hM] at ha hm ⊢
           have hMb:1≤M∧M≤12:=by omega
           have HM:=Lh (And.intro hM (And.intro ha hm))
           have HDY:=Lh (fQ Y M wr)
           rw [vS] at HDY
           clear hM ha hm
           by_cases hc:qG Y M≤q
           · have hM12:M<12:=by
              by_cases h12:M=12
              · have h3:=HM.out.2.1;have h4:=HAD.out;have h5:=HEE.out.2;rw [h12] at h3 hc;omega
              · omega
             have HGO:=Lh (show qS Y 12 1 E=qS Y (12 - (k+1)) (k+1+1) (q - qG Y M) by
              have h:=HM.out.2.2
              rw [show 12 - k=(12 - (k+1))+1 by omega,bS ⟨hM12,hc⟩] at h
              rw [h,HM.out.1])
             have HAH:=Lh (show zi Y (k+1+1)+(q - qG Y M)=E by
              have h1:=wG Y M hYb hMb.1 (by omega)
              have h2:=HM.out.2.1
              rw [← HM.out.1];omega)
             have HKK:=Lh (show k+1≤11∧M=k+1∧qG Y M≤q from ⟨by have:=HM.out.1;omega,HM.out.1,hc⟩)
             have hle:(qG Y M:Int)≤q:=by omega
             have c2:decide ((qG Y M:Int)≤(q:Int))=true:=by simp;omega
             clear hc
             generalize qG Y M=sa at *
             go_wp2_with fail
             refine HDY.out.mono ?_
             rintro e w2 ⟨rfl,rfl⟩
             go_wp2_with fail
             refine HDY.out.mono ?_
             rintro e w2 ⟨rfl,rfl⟩
             go_wp2
             go_roundw
             case rel=>exact ⟨k+1,q - sa,HKK.out.1,by rw [HKK.out.2.1];rfl,by go_num,by omega,HAH.out,HGO.out,by trivial⟩
             case measure=>have:=HKK.out;simp [intOf];omega
           · have c2:decide ((qG Y M:Int)≤(q:Int))=false:=by simp;omega
             have c3:decide (qG Y M≤q)=false:=by simp;omega
             have c4:¬qG Y M≤q:=hc
             have HMR:=Lh (show qS Y 12 1 E=(M,q) by rw [HM.out.2.2];exact yU (fun h=>hc h.2))
             have hq1:q<31:=by
              have h1:=vD Y M hYb hMb.1 hMb.2
              have hm:M=1∨M=2∨M=3∨M=4∨M=5∨M=6∨M=7∨M=8∨M=9∨M=10∨M=11∨M=12:=by omega
              have h2:qG Y M≤31:=by
               rw [h1]
               rcases hm with rfl|rfl|rfl|rfl|rfl|rfl|rfl|rfl|rfl|rfl|rfl|rfl <;> cases zl Y <;> simp [beforeN]
              omega
             clear HM hc
             generalize qG Y M=sa at *
             go_wp2_with fail
             refine HDY.out.mono ?_
             clear HDY
             rintro e w2 ⟨rfl,rfl⟩
             have HBW:=Lh (Below.refl w2.heap.size w2)
             have g1:(Y:Int).tdiv 100=((Y / 100:Nat):Int):=by rw [Int.tdiv_eq_ediv_of_nonneg (by omega)];omega
             have g2:(Y:Int).tmod 100=((Y % 100:Nat):Int):=by rw [Int.tmod_eq_emod_of_nonneg (by omega)];omega
             have d4:(t:Int).tdiv 3600=((t / 3600:Nat):Int):=by rw [Int.tdiv_eq_ediv_of_nonneg (by omega)];omega
             have d5a:(t:Int).tdiv 60=((t / 60:Nat):Int):=by rw [Int.tdiv_eq_ediv_of_nonneg (by omega)];omega
             have d5:((t / 60:Nat):Int).tmod 60=((t / 60 % 60:Nat):Int):=by rw [Int.tmod_eq_emod_of_nonneg (by omega)];omega
             have d6:(t:Int).tmod 60=((t % 60:Nat):Int):=by rw [Int.tmod_eq_emod_of_nonneg (by omega)];omega
             have HQ1:=Lh (zY (Y / 100) w2 (by omega))
             have hl1:=zf (Y / 100) 2 (by omega) (by decide)
             obtain ⟨P1,hP1⟩:∃P:ByteArray,P=⟨(qB (Y / 100) 2).toArray⟩:=⟨_,rfl⟩
             rw [← hP1] at HQ1
             have z1:P1.size≤40:=by rw [hP1,zq];exact hl1
             have HE1:=Lh hP1
             clear hl1 hP1
             go_wp2_with fail
             refine HQ1.out.mono ?_
             clear HQ1
             rintro e wp1 ⟨rfl,hb⟩
             replace HBW:=Lh (HBW.out.trans (hb.mono HBW.out.size))
             clear hb
             have HQ2:=Lh (zY (Y % 100) wp1 (by omega))
             have hl2:=zf (Y % 100) 2 (by omega) (by decide)
             obtain ⟨P2,hP2⟩:∃P:ByteArray,P=⟨(qB (Y % 100) 2).toArray⟩:=⟨_,rfl⟩
             rw [← hP2] at HQ2
             have z2:P2.size≤40:=by rw [hP2,zq];exact hl2
             have HE2:=Lh hP2
             clear hl2 hP2
             go_wp2_with fail
             refine HQ2.out.mono ?_
             clear HQ2
             rintro e wp2 ⟨rfl,hb⟩
             replace HBW:=Lh (HBW.out.trans (hb.mono HBW.out.size))
             clear hb
             have HQ3:=Lh (zY (M) wp2 (by omega))
             have hl3:=zf (M) 2 (by omega) (by decide)
             obtain ⟨P3,hP3⟩:∃P:ByteArray,P=⟨(qB (M) 2).toArray⟩:=⟨_,rfl⟩
             rw [← hP3] at HQ3
             have z3:P3.size≤40:=by rw [hP3,zq];exact hl3
             have HE3:=Lh hP3
             clear hl3 hP3
             go_wp2_with fail
             refine HQ3.out.mono ?_
             clear HQ3
             rintro e wp3 ⟨rfl,hb⟩
             replace HBW:=Lh (HBW.out.trans (hb.mono HBW.out.size))
             clear hb
             have HQ4:=Lh (zY (q+1) wp3 (by omega))
             have hl4:=zf (q+1) 2 (by omega) (by decide)
             obtain ⟨P4,hP4⟩:∃P:ByteArray,P=⟨(qB (q+1) 2).toArray⟩:=⟨_,rfl⟩
             rw [← hP4] at HQ4
             have z4:P4.size≤40:=by rw [hP4,zq];exact hl4
             have HE4:=Lh hP4
             clear hl4 hP4
             rw [show ((q+1:Nat):Int)=(q:Int)+1 by omega] at HQ4
             go_wp2_with fail
             refine HQ4.out.mono ?_
             clear HQ4
             rintro e wp4 ⟨rfl,hb⟩
             replace HBW:=Lh (HBW.out.trans (hb.mono HBW.out.size))
             clear hb
             have HQ5:=Lh (zY (t / 3600) wp4 (by omega))
             have hl5:=zf (t / 3600) 2 (by omega) (by decide)
             obtain ⟨P5,hP5⟩:∃P:ByteArray,P=⟨(qB (t / 3600) 2).toArray⟩:=⟨_,rfl⟩
             rw [← hP5] at HQ5
             have z5:P5.size≤40:=by rw [hP5,zq];exact hl5
             have HE5:=Lh hP5
             clear hl5 hP5
             go_wp2_with fail
             refine HQ5.out.mono ?_
             clear HQ5
             rintro e wp5 ⟨rfl,hb⟩
             replace HBW:=Lh (HBW.out.trans (hb.mono HBW.out.size))
             clear hb
             have HQ6:=Lh (zY (t / 60 % 60) wp5 (by omega))
             have hl6:=zf (t / 60 % 60) 2 (by omega) (by decide)
             obtain ⟨P6,hP6⟩:∃P:ByteArray,P=⟨(qB (t / 60 % 60) 2).toArray⟩:=⟨_,rfl⟩
             rw [← hP6] at HQ6
             have z6:P6.size≤40:=by rw [hP6,zq];exact hl6
             have HE6:=Lh hP6
             clear hl6 hP6
             go_wp2_with fail
             refine HQ6.out.mono ?_
             clear HQ6
             rintro e wp6 ⟨rfl,hb⟩
             replace HBW:=Lh (HBW.out.trans (hb.mono HBW.out.size))
             clear hb
             have HQ7:=Lh (zY (t % 60) wp6 (by omega))
             have hl7:=zf (t % 60) 2 (by omega) (by decide)
             obtain ⟨P7,hP7⟩:∃P:ByteArray,P=⟨(qB (t % 60) 2).toArray⟩:=⟨_,rfl⟩
             rw [← hP7] at HQ7
             have z7:P7.size≤40:=by rw [hP7,zq];exact hl7
             have HE7:=Lh hP7
             clear hl7 hP7
             go_wp2_with fail
             refine HQ7.out.mono ?_
             clear HQ7
             rintro e wp7 ⟨rfl,hb⟩
             replace HBW:=Lh (HBW.out.trans (hb.mono HBW.out.size))
             clear hb
             have HDL:=Lh (show jz N=(qB (Y / 100) 2 ++ qB (Y % 100) 2) ++ [45] ++ qB M 2 ++ [45] ++ qB (q+1) 2 ++ [84] ++ qB (t / 3600) 2 ++ [58] ++ qB (t / 60 % 60) 2 ++ [58] ++ qB (t % 60) 2 ++ [90] by
              have h1:N / 86400=D:=HD.out.1.symm
              have h2:N % 86400=t:=HD.out.2.symm
              have h3:zk 8030 1970 D=Y:=HYR.out
              have h4:=mW ⟨Y / 100,by omega⟩ ⟨Y % 100,by omega⟩
              simp only at h4
              rw [show Y / 100 * 100+Y % 100=Y by omega] at h4
              unfold jz
              simp only [h1,h2,h3]
              rw [show D - ql Y=E by have:=HEE.out.1;omega,HMR.out,h4])
             go_wp2
             go_ret2
             exact ⟨by rw [HS.out.1,HS.out.2,HDL.out,← fZ,← HE1.out,← HE2.out,← HE3.out,← HE4.out,← HE5.out,← HE6.out,← HE7.out];rfl,HBW.out⟩
        · have c1:decide ((E:Int)<366)=false:=by simp;omega
          have hY9:Y<9999:=by
           by_cases h9:Y=9999
           · have:=HSY.out h9;have:=HYN.out;have:=HK.out.2.1;omega
           · omega
          have HGO:=Lh (show zk 8030 1970 D=zk (8030 - (k+1)) (1970+(k+1)) D by
           have h:=HK.out.2.2
           rw [show 8030 - k=(8030 - (k+1))+1 by omega,uo ⟨hY9,by have:=HYN.out;have:=HK.out.2.1;omega⟩] at h
           rw [h,HK.out.1];rfl)
          have HKK:=Lh (show k+1≤8029∧Y=1970+k∧ql (1970+(k+1))+(E - 366)=D from ⟨by have:=HK.out.1;omega,HK.out.1,by rw [show 1970+(k+1)=Y+1 by rw [HK.out.1];rfl,HYN.out];have:=HK.out.2.1;omega⟩)
          have hle:(366:Int)≤E:=by omega
          clear hlt
          go_wp2_with fail
          refine HLP.out.mono ?_
          rintro e w' ⟨rfl,rfl⟩
          go_wp2
          go_roundw
          case rel=>exact ⟨k+1,E - 366,HKK.out.1,by rw [HKK.out.2.1];rfl,by go_num,HKK.out.2.2,HGO.out,by trivial⟩
          case measure=>have:=HKK.out;simp [intOf];omega
   · have HS:=Lh (show jg n=⟨#[]⟩∧xP n=1 by unfold jg xP;rw [if_neg (by omega),if_neg (by omega)];exact ⟨rfl,rfl⟩)
     have q0:decide (n<0)=false:=by simp;omega
     have q1:decide (253402300799<n)=true:=by simp;omega
     clear h0 h1
     go_enter Tryz.func77,Tryz.ntmps77
     go_wp2
     go_ret2
     exact ⟨by rw [HS.out.1,HS.out.2];rfl,Below.refl _ _⟩
 · have HS:=Lh (show jg n=⟨#[]⟩∧xP n=1 by unfold jg xP;rw [if_neg (by omega),if_neg (by omega)];exact ⟨rfl,rfl⟩)
   have q0:decide (n<0)=true:=by simp;omega
   clear h0
   go_enter Tryz.func77,Tryz.ntmps77
   go_wp2
   go_ret2
   exact ⟨by rw [HS.out.1,HS.out.2];rfl,Below.refl _ _⟩
end Go.Proofs.YtnlgmcapbbgelaaGreatDoor
