/- The contract of when.Show. -/
import Derived.Test.YtnlgmcapbbgelaaGreatDoorRx05
import Derived.Lib.AppendIntMem
import Derived.Test.YtnlgmcapbbgelaaGreatDoorRx02
import Derived.Lib.ItoaLen

namespace Go.Proofs.YtnlgmcapbbgelaaGreatDoor
open Go.RowKit Go.Lib
abbrev zo (w : World) : Prop := Lib.TabIs Tryz.prog w "internal/strconv.uint64pow10" .u64 Lib.pow10Tab
theorem zo.below {w w':World} (h:zo w) (hb:Below w.heap.size w w'):zo w':=Lib.tabBelow_of_tabIs h w' hb
theorem aY (k:Nat) (h:k≤4):Lib.repeatL (⟨#[48]⟩:ByteArray).data.toList k=List.replicate k 48:=by
 have:k=0∨k=1∨k=2∨k=3∨k=4:=by omega
 rcases this with rfl|rfl|rfl|rfl|rfl <;> rfl
theorem xM (a b:List UInt8):(⟨a.toArray⟩:ByteArray) ++ (⟨b.toArray⟩:ByteArray)=⟨(a ++ b).toArray⟩:=by
 apply ByteArray.ext
 simp
theorem je (a:List UInt8):(⟨a.toArray⟩:ByteArray).size=a.length:=by simp [ByteArray.size]
set_option maxHeartbeats 1000000 in
theorem kI (n wd:Nat) (w:World) (hn:n≤100000) (hwd:wd≤4) (hP:zo w):Calls Tryz.prog 117 #[.int .i64 n,.int .i64 wd] w fun e w'=>e=.returned (.string ⟨(qE n wd).toArray⟩)∧Below w.heap.size w w':=by
 have HI:=Lh (Tryz.strconv_Itoa n (by omega) (by omega) w hP)
 have HL:=Lh (show qE n wd=List.replicate (wd - (Lib.itoa n).length) 48 ++ Lib.itoa n from rfl)
 generalize Lib.itoa n=l at *
 obtain ⟨t,ht⟩:∃t:ByteArray,t=⟨l.toArray⟩:=⟨_,rfl⟩
 have hsz:t.size=l.length:=by rw [ht];exact je l
 rw [← ht] at HI
 have HT:=Lh ht
 have HSZ:=Lh hsz
 by_cases hc:t.size<wd
 · have HR:=Lh (fun w':World=>Tryz.strings_Repeat ⟨#[48]⟩ (wd - t.size) w' (by omega) (by show 1 * (wd - t.size)≤_;omega))
   have e1:((wd - t.size:Nat):Int)=(wd:Int) - t.size:=by omega
   rw [e1,aY _ (by omega)] at HR
   obtain ⟨rp,hrp⟩:∃rp:ByteArray,rp=⟨(List.replicate (wd - t.size) 48).toArray⟩:=⟨_,rfl⟩
   have hrs:rp.size≤4:=by rw [hrp,je,List.length_replicate];omega
   rw [← hrp] at HR
   have HRP:=Lh hrp
   have hsum:rp.size+t.size≤100:=by omega
   have c1:decide ((t.size:Int)<wd)=true:=by simpa using hc
   have hc':(t.size:Int)<wd:=by omega
   clear hP ht hsz hrp
   go_enter Tryz.func117,Tryz.ntmps117
   go_wp2_with fail
   refine HI.out.mono ?_
   rintro e w' ⟨rfl,k,os,rfl⟩
   go_wp2_with fail
   refine (HR.out _).mono ?_
   rintro e w2 ⟨rfl,hb⟩
   have HB:=Lh ((below_grow w.heap.size w lz k os).trans (hb.mono (below_grow w.heap.size w lz k os).size))
   clear hb
   go_wp2
   go_ret
   refine ⟨?_,HB.out⟩
   rw [HL.out,← HSZ.out,← xM,← HT.out,← HRP.out]
   rfl
 · have c1:decide ((t.size:Int)<wd)=false:=by simp;omega
   clear hP ht hsz
   go_enter Tryz.func117,Tryz.ntmps117
   go_wp2_with fail
   refine HI.out.mono ?_
   rintro e w' ⟨rfl,k,os,rfl⟩
   go_wp2
   go_ret
   refine ⟨?_,below_grow w.heap.size w lz k os⟩
   rw [HL.out,← HSZ.out,show wd - t.size=0 by omega,HT.out]
   rfl
def vh (n:Int):Int:=if 0≤n∧n≤253402300799 then 0 else 1
def vu (n:Int):ByteArray:=if 0≤n∧n≤253402300799 then ⟨(jP n.toNat).toArray⟩ else ⟨#[]⟩
theorem nf {f y d:Nat} (h:y<9999∧qt (y+1)≤d):zi (f+1) y d=zi f (y+1) d:=by rw [zi,if_pos h]
theorem lF {f y d:Nat} (h:¬(y<9999∧qt (y+1)≤d)):zi f y d=y:=by
 cases f with
 | zero=>rfl
 | succ f=>rw [zi,if_neg h]
theorem lH {y f m d:Nat} (h:m<12∧zj y m≤d):zk y (f+1) m d=zk y f (m+1) (d - zj y m):=by rw [zk,if_pos h]
theorem dz {y f m d:Nat} (h:¬(m<12∧zj y m≤d)):zk y f m d=(m,d):=by
 cases f with
 | zero=>rfl
 | succ f=>rw [zk,if_neg h]
theorem mf (y:Nat) (h:1970≤y):qt (y+1)≤qt y+366:=by unfold qt zg;omega
theorem mh:qt 9999=2932532:=by decide
theorem pi (y m:Nat):jy y m=zj y m:=by unfold jy;rw [if_neg (by omega)];simp
theorem kO (n wd:Nat) (hn:n≤100000) (hw:wd≤4):(qE n wd).length≤40:=by
 unfold qE
 have:=Lib.itoa_length_le (n:Int) (by omega) (by omega)
 rw [List.length_append,List.length_replicate];omega
theorem lU (a b c d e f:List UInt8):(⟨a.toArray⟩:ByteArray) ++ ⟨#[45]⟩ ++ ⟨b.toArray⟩ ++ ⟨#[45]⟩ ++ ⟨c.toArray⟩ ++ ⟨#[84]⟩ ++ ⟨d.toArray⟩ ++ ⟨#[58]⟩ ++ ⟨e.toArray⟩ ++ ⟨#[58]⟩ ++ ⟨f.toArray⟩ ++ ⟨#[90]⟩=⟨(a ++ [45] ++ b ++ [45] ++ c ++ [84] ++ d ++ [58] ++ e ++ [58] ++ f ++ [90]).toArray⟩:=by
 rw [← xM,← xM,← xM,← xM,← xM,← xM,← xM,← xM,← xM,← xM,← xM]
set_option maxHeartbeats 2000000 in
set_option maxRecDepth 100000 in
theorem hF (n:Int) (w:World) (hT:TabW w) (hP:zo w):Calls Tryz.prog 66 #[.int .i64 n] w fun e w'=>e=.returned (.tuple #[.string (vu n),.int .i64 (vh n)])∧Below w.heap.size w w':=by
 by_cases h0:0≤n
 · by_cases h1:n≤253402300799
   · obtain ⟨N,rfl⟩:∃N:Nat,n=N:=⟨n.toNat,by omega⟩
     have HS:=Lh (show vu N=⟨(jP N).toArray⟩∧vh N=0 by unfold vu vh;rw [if_pos ⟨h0,h1⟩,if_pos ⟨h0,h1⟩];exact ⟨rfl,rfl⟩)
     have e1:((N:Int).tdiv 86400)=((N / 86400:Nat):Int):=by rw [Int.tdiv_eq_ediv_of_nonneg (by omega)];omega
     have e2:((N:Int).tmod 86400)=((N % 86400:Nat):Int):=by rw [Int.tmod_eq_emod_of_nonneg (by omega)];omega
     obtain ⟨D,hD⟩:∃D,D=N / 86400:=⟨_,rfl⟩
     obtain ⟨t,ht⟩:∃t,t=N % 86400:=⟨_,rfl⟩
     have hDb:D≤2932896:=by omega
     have htb:t<86400:=by omega
     rw [← hD] at e1
     rw [← ht] at e2
     have HD:=Lh (And.intro hD ht)
     have HT:=Lh hT
     have HP:=Lh hP
     clear hD ht hT hP
     go_enter Tryz.func66,Tryz.ntmps66
     go_wp2
     go_loopw [6] (fun y wr=>∃k:Nat,k≤8029∧y=.int .i64 ((1970+k:Nat):Int)∧qt (1970+k)≤D∧zi 8030 1970 D=zi (8030 - k) (1970+k) D∧Below w.heap.size w wr) (fun y _=>10000 - (intOf y).toNat)
     case atStart=>exact ⟨0,by omega,rfl,by show qt 1970≤D;rw [show qt 1970=0 by decide];omega,rfl,Below.refl _ _⟩
     case round =>
      obtain ⟨k,hk,rfl,hst,hy,hb⟩:=hrel
      obtain ⟨Y,hY⟩:∃Y,Y=1970+k:=⟨_,rfl⟩
      rw [← hY] at hst hy ⊢
      have hYb:1970≤Y∧Y≤9999:=by omega
      obtain ⟨c,hc⟩:∃c:Bool,c=decide (Y<9999∧qt (Y+1)≤D):=⟨_,rfl⟩
      have HK:=Lh (And.intro hY (And.intro hst hy))
      have HC:=Lh hc
      have HB:=Lh hb
      clear hY hst hy hc hb
      go_upto_region 5 with fail
      go_cut [27] (fun s wx=>s=.bool c∧Below wr.heap.size wr wx)
      case first =>
       by_cases c1:Y<9999
       · have q1:decide ((Y:Int)<9999)=true:=by simp;omega
         have HST:=Lh (kT (Y+1) wr (by omega) (by omega))
         rw [show ((Y+1:Nat):Int)=(Y:Int)+1 by omega] at HST
         have HC2:=Lh (show c=decide (qt (Y+1)≤D) by rw [HC.out];simp [c1])
         go_wp2_with fail
         refine HST.out.mono ?_
         rintro e w' ⟨rfl,h'⟩
         subst h'
         generalize qt (Y+1)=sa at *
         go_wp2_with fail
         go_meet
         exact ⟨by rw [HC2.out] <;> simp,Below.refl _ _⟩
       · have q1:decide ((Y:Int)<9999)=false:=by simp;omega
         have HC2:=Lh (show c=false by rw [HC.out];simp [c1])
         go_wp2_with fail
         go_meet
         exact ⟨by rw [HC2.out],Below.refl _ _⟩
      case rest =>
       obtain ⟨rfl,hbc⟩:=hcut
       have HBC:=Lh (HB.out.trans (hbc.mono HB.out.size))
       clear hbc
       cases c
       · have hn:¬(Y<9999∧qt (Y+1)≤D):=fun h=>by have:=HC.out;simp [h] at this
         have hyr:zi 8030 1970 D=Y:=by rw [HK.out.2.2];exact lF hn
         have hE:∃E,D=qt Y+E:=⟨D - qt Y,by have:=HK.out.2.1;omega⟩
         obtain ⟨E,hE⟩:=hE
         have hE2:E≤366:=by
          have h1:=mf Y hYb.1
          by_cases c9:Y<9999
          · have:¬qt (Y+1)≤D:=fun h=>hn ⟨c9,h⟩
            omega
          · have:Y=9999:=by omega
            subst this
            have:=mh
            omega
         have HST:=Lh (kT Y wc hYb.1 (by omega))
         have HYR:=Lh hyr
         have HEE:=Lh (And.intro hE hE2)
         clear hn hyr HK HC hE2
         go_wp2_with fail
         refine HST.out.mono ?_
         clear HST
         rintro e w' ⟨rfl,h'⟩
         subst h'
         have hEi:(D:Int) - (qt Y:Int)=(E:Int):=by omega
         generalize hsY:qt Y=sY at *
         have HSY:=Lh hsY
         clear hsY
         go_wp2
         go_loopw [4,7] (fun dv mv wr=>∃k q:Nat,k≤11∧mv=.int .i64 ((k+1:Nat):Int)∧dv=.int .i64 (q:Int)∧q≤366∧zk Y 12 1 E=zk Y (12 - k) (k+1) q∧Below w.heap.size w wr) (fun _ mv _=>12 - (intOf mv).toNat)
         case atStart=>exact ⟨0,E,by omega,rfl,congrArg (Value.int .i64) (by omega),HEE.out.2,rfl,HBC.out⟩
         case round =>
          obtain ⟨k,q,hk,rfl,rfl,hq,hm,hb⟩:=hrel
          obtain ⟨M,hM⟩:∃M,M=k+1:=⟨_,rfl⟩
          rw [← hM] at hm ⊢
          have hMb:1≤M∧M≤12:=by omega
          obtain ⟨c,hc⟩:∃c:Bool,c=decide (M<12∧zj Y M≤q):=⟨_,rfl⟩
          have HM:=Lh (And.intro hM hm)
          have HC:=Lh hc
          have HB:=Lh hb
          clear hM hm hc hb
          clear hEi hE
          go_upto_region 9 with fail
          go_cut [42] (fun s wx=>s=.bool c∧Below wr.heap.size wr wx)
          case first =>
           by_cases c1:M<12
           · have q1:decide ((M:Int)<12)=true:=by simp;omega
             have HDY:=Lh (gj Y M wr (HT.out.below HB.out))
             rw [pi] at HDY
             have HC2:=Lh (show c=decide (zj Y M≤q) by rw [HC.out];simp [c1])
             go_wp2_with fail
             refine HDY.out.mono ?_
             rintro e w' ⟨rfl,hb⟩
             have HB2:=Lh hb
             clear hb
             generalize zj Y M=sa at *
             go_wp2_with fail
             go_meet
             exact ⟨by rw [HC2.out] <;> simp,HB2.out⟩
           · have q1:decide ((M:Int)<12)=false:=by simp;omega
             have HC2:=Lh (show c=false by rw [HC.out];simp [c1])
             go_wp2_with fail
             go_meet
             exact ⟨by rw [HC2.out],Below.refl _ _⟩
          case rest =>
           obtain ⟨rfl,hbc⟩:=hcut
           have HBC:=Lh (HB.out.trans (hbc.mono HB.out.size))
           clear hbc
           cases c
           · have hn:¬(M<12∧zj Y M≤q):=fun h=>by have:=HC.out;simp [h] at this
             have hyr:zk Y 12 1 E=(M,q):=by rw [HM.out.2];exact dz hn
             have HMR:=Lh hyr
             have HBW:=Lh HBC.out
             clear hyr hn HC HM
             have d4:(t:Int).tdiv 3600=((t / 3600:Nat):Int):=by rw [Int.tdiv_eq_ediv_of_nonneg (by omega)];omega
             have d5a:(t:Int).tdiv 60=((t / 60:Nat):Int):=by rw [Int.tdiv_eq_ediv_of_nonneg (by omega)];omega
             have d5:((t / 60:Nat):Int).tmod 60=((t / 60 % 60:Nat):Int):=by rw [Int.tmod_eq_emod_of_nonneg (by omega)];omega
             have d6:(t:Int).tmod 60=((t % 60:Nat):Int):=by rw [Int.tmod_eq_emod_of_nonneg (by omega)];omega
             have HQ1:=Lh (kI (Y) 4 wc (by omega) (by decide) (HP.out.below HBW.out))
             have hl1:=kO (Y) 4 (by omega) (by decide)
             obtain ⟨P1,hP1⟩:∃P:ByteArray,P=⟨(qE (Y) 4).toArray⟩:=⟨_,rfl⟩
             rw [← hP1] at HQ1
             have z1:P1.size≤40:=by rw [hP1,je];exact hl1
             have HE1:=Lh hP1
             clear hl1 hP1
             go_wp2_with fail
             refine HQ1.out.mono ?_
             clear HQ1
             rintro e wp1 ⟨rfl,hb⟩
             replace HBW:=Lh (HBW.out.trans (hb.mono HBW.out.size))
             clear hb
             have HQ2:=Lh (kI (M) 2 wp1 (by omega) (by decide) (HP.out.below HBW.out))
             have hl2:=kO (M) 2 (by omega) (by decide)
             obtain ⟨P2,hP2⟩:∃P:ByteArray,P=⟨(qE (M) 2).toArray⟩:=⟨_,rfl⟩
             rw [← hP2] at HQ2
             have z2:P2.size≤40:=by rw [hP2,je];exact hl2
             have HE2:=Lh hP2
             clear hl2 hP2
             go_wp2_with fail
             refine HQ2.out.mono ?_
             clear HQ2
             rintro e wp2 ⟨rfl,hb⟩
             replace HBW:=Lh (HBW.out.trans (hb.mono HBW.out.size))
             clear hb
             have HQ3:=Lh (kI (q+1) 2 wp2 (by omega) (by decide) (HP.out.below HBW.out))
             have hl3:=kO (q+1) 2 (by omega) (by decide)
             obtain ⟨P3,hP3⟩:∃P:ByteArray,P=⟨(qE (q+1) 2).toArray⟩:=⟨_,rfl⟩
             rw [← hP3] at HQ3
             have z3:P3.size≤40:=by rw [hP3,je];exact hl3
             have HE3:=Lh hP3
             clear hl3 hP3
             rw [show ((q+1:Nat):Int)=(q:Int)+1 by omega] at HQ3
             go_wp2_with fail
             refine HQ3.out.mono ?_
             clear HQ3
             rintro e wp3 ⟨rfl,hb⟩
             replace HBW:=Lh (HBW.out.trans (hb.mono HBW.out.size))
             clear hb
             have HQ4:=Lh (kI (t / 3600) 2 wp3 (by omega) (by decide) (HP.out.below HBW.out))
             have hl4:=kO (t / 3600) 2 (by omega) (by decide)
             obtain ⟨P4,hP4⟩:∃P:ByteArray,P=⟨(qE (t / 3600) 2).toArray⟩:=⟨_,rfl⟩
             rw [← hP4] at HQ4
             have z4:P4.size≤40:=by rw [hP4,je];exact hl4
             have HE4:=Lh hP4
             clear hl4 hP4
             go_wp2_with fail
             refine HQ4.out.mono ?_
             clear HQ4
             rintro e wp4 ⟨rfl,hb⟩
             replace HBW:=Lh (HBW.out.trans (hb.mono HBW.out.size))
             clear hb
             have HQ5:=Lh (kI (t / 60 % 60) 2 wp4 (by omega) (by decide) (HP.out.below HBW.out))
             have hl5:=kO (t / 60 % 60) 2 (by omega) (by decide)
             obtain ⟨P5,hP5⟩:∃P:ByteArray,P=⟨(qE (t / 60 % 60) 2).toArray⟩:=⟨_,rfl⟩
             rw [← hP5] at HQ5
             have z5:P5.size≤40:=by rw [hP5,je];exact hl5
             have HE5:=Lh hP5
             clear hl5 hP5
             go_wp2_with fail
             refine HQ5.out.mono ?_
             clear HQ5
             rintro e wp5 ⟨rfl,hb⟩
             replace HBW:=Lh (HBW.out.trans (hb.mono HBW.out.size))
             clear hb
             have HQ6:=Lh (kI (t % 60) 2 wp5 (by omega) (by decide) (HP.out.below HBW.out))
             have hl6:=kO (t % 60) 2 (by omega) (by decide)
             obtain ⟨P6,hP6⟩:∃P:ByteArray,P=⟨(qE (t % 60) 2).toArray⟩:=⟨_,rfl⟩
             rw [← hP6] at HQ6
             have z6:P6.size≤40:=by rw [hP6,je];exact hl6
             have HE6:=Lh hP6
             clear hl6 hP6
             go_wp2_with fail
             refine HQ6.out.mono ?_
             clear HQ6
             rintro e wp6 ⟨rfl,hb⟩
             replace HBW:=Lh (HBW.out.trans (hb.mono HBW.out.size))
             clear hb
             have HDL:=Lh (show jP N=qE Y 4 ++ [45] ++ qE M 2 ++ [45] ++ qE (q+1) 2 ++ [84] ++ qE (t / 3600) 2 ++ [58] ++ qE (t / 60 % 60) 2 ++ [58] ++ qE (t % 60) 2 ++ [90] by
              have h1:N / 86400=D:=HD.out.1.symm
              have h2:N % 86400=t:=HD.out.2.symm
              have h3:zi 8030 1970 D=Y:=HYR.out
              unfold jP
              simp only [h1,h2,h3]
              rw [show D - qt Y=E by have:=HEE.out.1;have:=HSY.out;omega,HMR.out])
             go_wp2
             go_ret2
             exact ⟨by rw [HS.out.1,HS.out.2,HDL.out,← lU,← HE1.out,← HE2.out,← HE3.out,← HE4.out,← HE5.out,← HE6.out];rfl,HBW.out⟩
           · have hy:M<12∧zj Y M≤q:=of_decide_eq_true HC.out.symm
             have HDY:=Lh (gj Y M wc (HT.out.below HBC.out))
             rw [pi] at HDY
             have HGO:=Lh (show zk Y 12 1 E=zk Y (12 - (k+1)) (k+1+1) (q - zj Y M) by
              have h:=HM.out.2
              rw [show 12 - k=(12 - (k+1))+1 by omega,lH hy] at h
              rw [h,HM.out.1])
             have HKK:=Lh (show k+1≤11∧M=k+1∧zj Y M≤q from ⟨by have:=HM.out.1;omega,HM.out.1,hy.2⟩)
             have hle:(zj Y M:Int)≤q:=by omega
             clear hy
             go_wp2_with fail
             refine HDY.out.mono ?_
             rintro e w' ⟨rfl,hb⟩
             have HB2:=Lh (HBC.out.trans (hb.mono HBC.out.size))
             clear hb
             generalize zj Y M=sa at *
             go_wp2
             go_roundw
             case rel=>exact ⟨k+1,q - sa,HKK.out.1,by rw [HKK.out.2.1];rfl,by go_num,by omega,HGO.out,HB2.out⟩
             case measure=>have:=HKK.out;simp [intOf];omega
       · have hy:Y<9999∧qt (Y+1)≤D:=of_decide_eq_true HC.out.symm
         have HGO:=Lh (show zi 8030 1970 D=zi (8030 - (k+1)) (1970+(k+1)) D by
          have h:=HK.out.2.2
          rw [show 8030 - k=(8030 - (k+1))+1 by omega,nf hy] at h
          rw [h,HK.out.1];rfl)
         have HKK:=Lh (show k+1≤8029∧Y=1970+k∧qt (Y+1)≤D from ⟨by have:=HK.out.1;omega,HK.out.1,hy.2⟩)
         clear hy
         go_wp2
         go_roundw
         case rel=>exact ⟨k+1,HKK.out.1,by rw [HKK.out.2.1];rfl,by rw [show 1970+(k+1)=Y+1 by rw [HKK.out.2.1];rfl];exact HKK.out.2.2,HGO.out,HBC.out⟩
         case measure=>have:=HKK.out;simp [intOf];omega
   · have HS:=Lh (show vu n=⟨#[]⟩∧vh n=1 by unfold vu vh;rw [if_neg (by omega),if_neg (by omega)];exact ⟨rfl,rfl⟩)
     have q0:decide (n<0)=false:=by simp;omega
     have q1:decide (253402300799<n)=true:=by simp;omega
     clear h0 h1 hT hP
     go_enter Tryz.func66,Tryz.ntmps66
     go_wp2
     go_ret2
     exact ⟨by rw [HS.out.1,HS.out.2];rfl,Below.refl _ _⟩
 · have HS:=Lh (show vu n=⟨#[]⟩∧vh n=1 by unfold vu vh;rw [if_neg (by omega),if_neg (by omega)];exact ⟨rfl,rfl⟩)
   have q0:decide (n<0)=true:=by simp;omega
   clear h0 hT hP
   go_enter Tryz.func66,Tryz.ntmps66
   go_wp2
   go_ret2
   exact ⟨by rw [HS.out.1,HS.out.2];rfl,Below.refl _ _⟩
end Go.Proofs.YtnlgmcapbbgelaaGreatDoor
