/- The law RootNames: the call returns true. Printed by genrnamesa.py. -/
import Derived.Test.YtnlgmcapbbgelaaGreatDoorRx45
import Derived.Test.YtnlgmcapbbgelaaGreatDoorRx19

namespace Go.Proofs.YtnlgmcapbbgelaaGreatDoor
open Go.RowKit Go.Shelf Go.Sort
theorem sg {w:World} {b T:Nat} {a0 a1 a2 a3 a4:Value} (h:w.heap[b]?=some (.cells #[a0,a1,a2,a3,a4] T (0,0))):w.rowIs b T 5 (qQ a0 a1 a2 a3 a4):=⟨_,h,rfl,fun i hi=>by rcases i with _|_|_|_|_|i <;> first|rfl|omega⟩
theorem u6:qO.solid=true:=by decide +kernel
set_option maxHeartbeats 16000000 in
set_option maxRecDepth 100000 in
theorem ld (w:World) (hT:Tabs w) (hTW:TabW w) (hP:zo w) (hTP:TopsW w):Calls Tryz.prog 4 #[] w fun r w'=>r=.returned (.bool true)∧Below w.heap.size w w':=by
 have HTB:=Lh (show ∀w':World,Below w.heap.size w w'→Tabs w'∧TabW w'∧zo w'∧TopsW w' from fun w' h=>⟨hT.below h,hTW.below h,hP.below h,hTP.below h⟩)
 have HB:=Lh (Below.refl w.heap.size w)
 have HZ0:=Lh (show 0<w.heap.size from Nat.lt_of_le_of_lt (Nat.zero_le _) hTP.lt)
 clear hT hTW hP hTP
 go_enter Tryz.func4,Tryz.ntmps4
 go_wp2_with fail
 refine (m8 w (HTB.out w HB.out).1 (HTB.out w HB.out).2.1 (HTB.out w HB.out).2.2.1 (HTB.out w HB.out).2.2.2).mono ?_
 rintro ee w1 ⟨rfl,hb⟩
 replace HB:=Lh (HB.out.trans (hb.mono HB.out.size))
 clear hb
 obtain ⟨bO,hbO⟩:∃bO,bO=w1.heap.size:=⟨_,rfl⟩
 obtain ⟨w2,hw2⟩:∃w2,w2=w1.alloc (.cells #[.int .u8 2,.int .i64 1,.string ⟨#[]⟩,.slice none 0 0,.slice none 0 0] 25):=⟨_,rfl⟩
 have hbx:Below w1.heap.size w1 w2:=by rw [hw2];exact (Below.refl _ _).alloc lz _
 have HXO:=Lh (qu hw2 hbO)
 replace HB:=Lh (HB.out.trans (hbx.mono HB.out.size))
 have Hw2:=Lh (And.intro hw2 hbO)
 clear hbx hw2 hbO
 obtain ⟨bB,hbB⟩:∃bB,bB=w2.heap.size:=⟨_,rfl⟩
 obtain ⟨w3,hw3⟩:∃w3,w3=w2.alloc (.cells #[.int .u8 1,.int .i64 0,.string ⟨#[]⟩,.slice none 0 0,.slice none 0 0] 25):=⟨_,rfl⟩
 have hbx:Below w2.heap.size w2 w3:=by rw [hw3];exact (Below.refl _ _).alloc lz _
 have HXB:=Lh (qu hw3 hbB)
 replace HB:=Lh (HB.out.trans (hbx.mono HB.out.size))
 replace HXO:=Lh ((hbx.block _ (qz HXO.out)).trans HXO.out)
 have Hw3:=Lh (And.intro hw3 hbB)
 clear hbx hw3 hbB
 obtain ⟨bT,hbT⟩:∃bT,bT=w3.heap.size:=⟨_,rfl⟩
 obtain ⟨w4,hw4⟩:∃w4,w4=w3.alloc (.cells #[.int .u8 4,.int .i64 0,.string ⟨#[]⟩,.slice none 0 0,.slice none 0 0] 25):=⟨_,rfl⟩
 have hbx:Below w3.heap.size w3 w4:=by rw [hw4];exact (Below.refl _ _).alloc lz _
 have HXT:=Lh (qu hw4 hbT)
 replace HB:=Lh (HB.out.trans (hbx.mono HB.out.size))
 replace HXO:=Lh ((hbx.block _ (qz HXO.out)).trans HXO.out)
 replace HXB:=Lh ((hbx.block _ (qz HXB.out)).trans HXB.out)
 have Hw4:=Lh (And.intro hw4 hbT)
 clear hbx hw4 hbT
 go_upto_region 4 with fail
 rw [← Hw2.out.1,← Hw2.out.2,show bO+1=bB by rw [Hw3.out.2,Hw2.out.1,Hw2.out.2];simp,← Hw3.out.1,show bB+1=bT by rw [Hw4.out.2,Hw3.out.1,Hw3.out.2];simp,← Hw4.out.1]
 clear Hw2 Hw3 Hw4
 go_wp2_with fail
 refine (bJ 97 w4).mono ?_
 rintro ee w5 ⟨g,rfl,hs,hb⟩
 have HS:=Lh (hs.carry (Nat.zero_le _) lz (fun _ _ _=>rfl))
 replace HB:=Lh (HB.out.trans (hb.mono HB.out.size))
 replace HXO:=Lh ((hb.block _ (qz HXO.out)).trans HXO.out)
 replace HXB:=Lh ((hb.block _ (qz HXB.out)).trans HXB.out)
 replace HXT:=Lh ((hb.block _ (qz HXT.out)).trans HXT.out)
 clear hs hb
 have HWZ:=Lh HB.out.size
 go_wp2_with fail
 refine (xW 1 [qG 97] (some ⟨g,0,none⟩) 1 w5 HS.out (show qZ (ry 97)=true by decide +kernel)).mono ?_
 rintro ee w6 ⟨an,cn,ai,ci,rfl,hr,hb⟩
 replace HB:=Lh (HB.out.trans (hb.mono HB.out.size))
 replace HXO:=Lh ((hb.block _ (qz HXO.out)).trans HXO.out)
 replace HXB:=Lh ((hb.block _ (qz HXB.out)).trans HXB.out)
 replace HXT:=Lh ((hb.block _ (qz HXT.out)).trans HXT.out)
 have HA:=Lh (show qK w.heap.size aJ w6 (.agg #[.int .u8 5,.int .i64 0,.string ⟨#[]⟩,.slice an 2 cn,.slice ai 2 ci]) from ⟨an,cn,ai,ci,rfl,Rep.carry HWZ.out lz (fun _ _ _=>rfl) _ _ hr⟩)
 clear hr hb HS HWZ
 obtain ⟨bA,hbA⟩:∃bA,bA=w6.heap.size:=⟨_,rfl⟩
 obtain ⟨w7,hw7⟩:∃w7,w7=w6.alloc (.cells #[.int .u8 5,.int .i64 0,.string ⟨#[]⟩,.slice an 2 cn,.slice ai 2 ci] 25):=⟨_,rfl⟩
 have hbx:Below w6.heap.size w6 w7:=by rw [hw7];exact (Below.refl _ _).alloc lz _
 have HXA:=Lh (qu hw7 hbA)
 replace HB:=Lh (HB.out.trans (hbx.mono HB.out.size))
 replace HXO:=Lh ((hbx.block _ (qz HXO.out)).trans HXO.out)
 replace HXB:=Lh ((hbx.block _ (qz HXB.out)).trans HXB.out)
 replace HXT:=Lh ((hbx.block _ (qz HXT.out)).trans HXT.out)
 replace HA:=Lh (HA.out.mono hbx)
 have Hw7:=Lh (And.intro hw7 hbA)
 clear hbx hw7 hbA
 go_upto_region 5 with fail
 rw [← Hw7.out.1,← Hw7.out.2]
 clear Hw7
 have HWZ:=Lh HB.out.size
 go_wp2_with fail
 refine (ky ⟨#[120]⟩ ⟨#[48,48]⟩ w7 (by decide) (by decide) (by decide +kernel)).mono ?_
 rintro ee w8 ⟨kn,kc,ki,kd,rfl,hr,hb⟩
 replace HB:=Lh (HB.out.trans (hb.mono HB.out.size))
 replace HXO:=Lh ((hb.block _ (qz HXO.out)).trans HXO.out)
 replace HXB:=Lh ((hb.block _ (qz HXB.out)).trans HXB.out)
 replace HXT:=Lh ((hb.block _ (qz HXT.out)).trans HXT.out)
 replace HXA:=Lh ((hb.block _ (qz HXA.out)).trans HXA.out)
 replace HA:=Lh (HA.out.mono hb)
 have HK:=Lh (show qK w.heap.size kR w8 (.agg #[.int .u8 5,.int .i64 0,.string ⟨#[]⟩,.slice kn 2 kc,.slice ki 2 kd]) from ⟨kn,kc,ki,kd,rfl,Rep.carry HWZ.out lz (fun _ _ _=>rfl) _ _ hr⟩)
 clear hr hb HWZ
 obtain ⟨bK,hbK⟩:∃bK,bK=w8.heap.size:=⟨_,rfl⟩
 obtain ⟨w9,hw9⟩:∃w9,w9=w8.alloc (.cells #[.int .u8 5,.int .i64 0,.string ⟨#[]⟩,.slice kn 2 kc,.slice ki 2 kd] 25):=⟨_,rfl⟩
 have hbx:Below w8.heap.size w8 w9:=by rw [hw9];exact (Below.refl _ _).alloc lz _
 have HXK:=Lh (qu hw9 hbK)
 replace HB:=Lh (HB.out.trans (hbx.mono HB.out.size))
 replace HXO:=Lh ((hbx.block _ (qz HXO.out)).trans HXO.out)
 replace HXB:=Lh ((hbx.block _ (qz HXB.out)).trans HXB.out)
 replace HXT:=Lh ((hbx.block _ (qz HXT.out)).trans HXT.out)
 replace HXA:=Lh ((hbx.block _ (qz HXA.out)).trans HXA.out)
 replace HA:=Lh (HA.out.mono hbx)
 replace HK:=Lh (HK.out.mono hbx)
 have Hw9:=Lh (And.intro hw9 hbK)
 clear hbx hw9 hbK
 go_upto_region 6 with fail
 rw [← Hw9.out.1,← Hw9.out.2]
 clear Hw9
 have HZ9:=Lh HB.out.size
 obtain ⟨bNa,hbNa⟩:∃bNa,bNa=w9.heap.size:=⟨_,rfl⟩
 obtain ⟨wa,hwa⟩:∃wa,wa=w9.alloc (.cells #[.string ⟨#[114,111,111,116]⟩,.string ⟨#[115,110,97,112,115,104,111,116]⟩] 9):=⟨_,rfl⟩
 have hbx:Below w9.heap.size w9 wa:=by rw [hwa];exact (Below.refl _ _).alloc lz _
 have HXNa:=Lh (qu hwa hbNa)
 replace HB:=Lh (HB.out.trans (hbx.mono HB.out.size))
 replace HXO:=Lh ((hbx.block _ (qz HXO.out)).trans HXO.out)
 replace HXB:=Lh ((hbx.block _ (qz HXB.out)).trans HXB.out)
 replace HXT:=Lh ((hbx.block _ (qz HXT.out)).trans HXT.out)
 replace HXA:=Lh ((hbx.block _ (qz HXA.out)).trans HXA.out)
 replace HXK:=Lh ((hbx.block _ (qz HXK.out)).trans HXK.out)
 replace HA:=Lh (HA.out.mono hbx)
 replace HK:=Lh (HK.out.mono hbx)
 have Hwa:=Lh (And.intro hwa hbNa)
 clear hbx hwa hbNa
 have HZN:=Lh (show w.heap.size≤bNa from Nat.le_of_lt_succ (Nat.lt_of_le_of_lt (Nat.le_trans HZ9.out lz) (Nat.lt_succ_of_le (Nat.le_of_eq Hwa.out.2.symm))))
 have xA0:(w9.alloc (.cells #[.string ⟨#[114,111,111,116]⟩,.string ⟨#[115,110,97,112,115,104,111,116]⟩] 9)).cell? ⟨bA,0,none⟩=some (.int .u8 5):=by rw [← Hwa.out.1];exact qq HXA.out (j:=0) rfl
 have xA1:(w9.alloc (.cells #[.string ⟨#[114,111,111,116]⟩,.string ⟨#[115,110,97,112,115,104,111,116]⟩] 9)).cell? ⟨bA,1,none⟩=some (.int .i64 0):=by rw [← Hwa.out.1];exact qq HXA.out (j:=1) rfl
 have xA2:(w9.alloc (.cells #[.string ⟨#[114,111,111,116]⟩,.string ⟨#[115,110,97,112,115,104,111,116]⟩] 9)).cell? ⟨bA,2,none⟩=some (.string ⟨#[]⟩):=by rw [← Hwa.out.1];exact qq HXA.out (j:=2) rfl
 have xA3:(w9.alloc (.cells #[.string ⟨#[114,111,111,116]⟩,.string ⟨#[115,110,97,112,115,104,111,116]⟩] 9)).cell? ⟨bA,3,none⟩=some (.slice an 2 cn):=by rw [← Hwa.out.1];exact qq HXA.out (j:=3) rfl
 have xA4:(w9.alloc (.cells #[.string ⟨#[114,111,111,116]⟩,.string ⟨#[115,110,97,112,115,104,111,116]⟩] 9)).cell? ⟨bA,4,none⟩=some (.slice ai 2 ci):=by rw [← Hwa.out.1];exact qq HXA.out (j:=4) rfl
 obtain ⟨bIa,hbIa⟩:∃bIa,bIa=wa.heap.size:=⟨_,rfl⟩
 obtain ⟨wb,hwb⟩:∃wb,wb=wa.alloc (.cells #[.int .u8 5,.int .i64 0,.string ⟨#[]⟩,.slice an 2 cn,.slice ai 2 ci,.int .u8 5,.int .i64 0,.string ⟨#[]⟩,.slice an 2 cn,.slice ai 2 ci] 25):=⟨_,rfl⟩
 have hbx:Below wa.heap.size wa wb:=by rw [hwb];exact (Below.refl _ _).alloc lz _
 have HXIa:=Lh (qu hwb hbIa)
 replace HB:=Lh (HB.out.trans (hbx.mono HB.out.size))
 replace HXO:=Lh ((hbx.block _ (qz HXO.out)).trans HXO.out)
 replace HXB:=Lh ((hbx.block _ (qz HXB.out)).trans HXB.out)
 replace HXT:=Lh ((hbx.block _ (qz HXT.out)).trans HXT.out)
 replace HXA:=Lh ((hbx.block _ (qz HXA.out)).trans HXA.out)
 replace HXK:=Lh ((hbx.block _ (qz HXK.out)).trans HXK.out)
 replace HXNa:=Lh ((hbx.block _ (qz HXNa.out)).trans HXNa.out)
 replace HA:=Lh (HA.out.mono hbx)
 replace HK:=Lh (HK.out.mono hbx)
 have Hwb:=Lh (And.intro hwb hbIa)
 clear hbx hwb hbIa
 have H2:=Lh (show qK w.heap.size wX wb (.agg #[.int .u8 5,.int .i64 0,.string ⟨#[]⟩,.slice (some ⟨bNa,0,none⟩) 2 2,.slice (some ⟨bIa,0,none⟩) 2 2]) from mo (T1:=9) (T2:=25) [⟨#[114,111,111,116]⟩,⟨#[115,110,97,112,115,104,111,116]⟩] [aJ,aJ] ⟨_,HZN.out,rfl,HXNa.out⟩ ⟨_,_,rfl,Nat.le_trans HZN.out (by rw [Hwb.out.2,Hwa.out.1,Hwa.out.2];simp),HXIa.out,fun i hi=>match i,hi with|0,_=>⟨_,_,_,_,_,rfl,rfl,rfl,rfl,rfl,HA.out⟩|1,_=>⟨_,_,_,_,_,rfl,rfl,rfl,rfl,rfl,HA.out⟩⟩)
 obtain ⟨bWa,hbWa⟩:∃bWa,bWa=wb.heap.size:=⟨_,rfl⟩
 obtain ⟨wc,hwc⟩:∃wc,wc=wb.alloc (.cells #[.int .u8 5,.int .i64 0,.string ⟨#[]⟩,.slice (some ⟨bNa,0,none⟩) 2 2,.slice (some ⟨bIa,0,none⟩) 2 2] 25):=⟨_,rfl⟩
 have hbx:Below wb.heap.size wb wc:=by rw [hwc];exact (Below.refl _ _).alloc lz _
 have HXWa:=Lh (qu hwc hbWa)
 replace HB:=Lh (HB.out.trans (hbx.mono HB.out.size))
 replace HXO:=Lh ((hbx.block _ (qz HXO.out)).trans HXO.out)
 replace HXB:=Lh ((hbx.block _ (qz HXB.out)).trans HXB.out)
 replace HXT:=Lh ((hbx.block _ (qz HXT.out)).trans HXT.out)
 replace HXA:=Lh ((hbx.block _ (qz HXA.out)).trans HXA.out)
 replace HXK:=Lh ((hbx.block _ (qz HXK.out)).trans HXK.out)
 replace HXNa:=Lh ((hbx.block _ (qz HXNa.out)).trans HXNa.out)
 replace HXIa:=Lh ((hbx.block _ (qz HXIa.out)).trans HXIa.out)
 replace HA:=Lh (HA.out.mono hbx)
 replace HK:=Lh (HK.out.mono hbx)
 replace H2:=Lh (H2.out.mono hbx)
 have Hwc:=Lh (And.intro hwc hbWa)
 clear hbx hwc hbWa
 go_upto_region 7 with fail
 clear xA0 xA1 xA2 xA3 xA4
 rw [← Hwa.out.1,← Hwa.out.2,show bNa+1=bIa by rw [Hwb.out.2,Hwa.out.1,Hwa.out.2];simp,← Hwb.out.1,show bIa+1=bWa by rw [Hwc.out.2,Hwb.out.1,Hwb.out.2];simp,← Hwc.out.1]
 clear Hwa Hwb Hwc HZN HXNa HXIa
 clear HZ9
 have HZ9:=Lh HB.out.size
 obtain ⟨bNb,hbNb⟩:∃bNb,bNb=wc.heap.size:=⟨_,rfl⟩
 obtain ⟨wd,hwd⟩:∃wd,wd=wc.alloc (.cells #[.string ⟨#[114,111,111,116]⟩,.string ⟨#[115,110,97,112,115,104,111,116]⟩,.string ⟨#[116,97,114,103,101,116,115]⟩,.string ⟨#[116,105,109,101,115,116,97,109,112]⟩] 9):=⟨_,rfl⟩
 have hbx:Below wc.heap.size wc wd:=by rw [hwd];exact (Below.refl _ _).alloc lz _
 have HXNb:=Lh (qu hwd hbNb)
 replace HB:=Lh (HB.out.trans (hbx.mono HB.out.size))
 replace HXO:=Lh ((hbx.block _ (qz HXO.out)).trans HXO.out)
 replace HXB:=Lh ((hbx.block _ (qz HXB.out)).trans HXB.out)
 replace HXT:=Lh ((hbx.block _ (qz HXT.out)).trans HXT.out)
 replace HXA:=Lh ((hbx.block _ (qz HXA.out)).trans HXA.out)
 replace HXK:=Lh ((hbx.block _ (qz HXK.out)).trans HXK.out)
 replace HXWa:=Lh ((hbx.block _ (qz HXWa.out)).trans HXWa.out)
 replace HA:=Lh (HA.out.mono hbx)
 replace HK:=Lh (HK.out.mono hbx)
 replace H2:=Lh (H2.out.mono hbx)
 have Hwd:=Lh (And.intro hwd hbNb)
 clear hbx hwd hbNb
 have HZN:=Lh (show w.heap.size≤bNb from Nat.le_of_lt_succ (Nat.lt_of_le_of_lt (Nat.le_trans HZ9.out lz) (Nat.lt_succ_of_le (Nat.le_of_eq Hwd.out.2.symm))))
 have xA0:(wc.alloc (.cells #[.string ⟨#[114,111,111,116]⟩,.string ⟨#[115,110,97,112,115,104,111,116]⟩,.string ⟨#[116,97,114,103,101,116,115]⟩,.string ⟨#[116,105,109,101,115,116,97,109,112]⟩] 9)).cell? ⟨bA,0,none⟩=some (.int .u8 5):=by rw [← Hwd.out.1];exact qq HXA.out (j:=0) rfl
 have xA1:(wc.alloc (.cells #[.string ⟨#[114,111,111,116]⟩,.string ⟨#[115,110,97,112,115,104,111,116]⟩,.string ⟨#[116,97,114,103,101,116,115]⟩,.string ⟨#[116,105,109,101,115,116,97,109,112]⟩] 9)).cell? ⟨bA,1,none⟩=some (.int .i64 0):=by rw [← Hwd.out.1];exact qq HXA.out (j:=1) rfl
 have xA2:(wc.alloc (.cells #[.string ⟨#[114,111,111,116]⟩,.string ⟨#[115,110,97,112,115,104,111,116]⟩,.string ⟨#[116,97,114,103,101,116,115]⟩,.string ⟨#[116,105,109,101,115,116,97,109,112]⟩] 9)).cell? ⟨bA,2,none⟩=some (.string ⟨#[]⟩):=by rw [← Hwd.out.1];exact qq HXA.out (j:=2) rfl
 have xA3:(wc.alloc (.cells #[.string ⟨#[114,111,111,116]⟩,.string ⟨#[115,110,97,112,115,104,111,116]⟩,.string ⟨#[116,97,114,103,101,116,115]⟩,.string ⟨#[116,105,109,101,115,116,97,109,112]⟩] 9)).cell? ⟨bA,3,none⟩=some (.slice an 2 cn):=by rw [← Hwd.out.1];exact qq HXA.out (j:=3) rfl
 have xA4:(wc.alloc (.cells #[.string ⟨#[114,111,111,116]⟩,.string ⟨#[115,110,97,112,115,104,111,116]⟩,.string ⟨#[116,97,114,103,101,116,115]⟩,.string ⟨#[116,105,109,101,115,116,97,109,112]⟩] 9)).cell? ⟨bA,4,none⟩=some (.slice ai 2 ci):=by rw [← Hwd.out.1];exact qq HXA.out (j:=4) rfl
 obtain ⟨bIb,hbIb⟩:∃bIb,bIb=wd.heap.size:=⟨_,rfl⟩
 obtain ⟨we,hwe⟩:∃we,we=wd.alloc (.cells #[.int .u8 5,.int .i64 0,.string ⟨#[]⟩,.slice an 2 cn,.slice ai 2 ci,.int .u8 5,.int .i64 0,.string ⟨#[]⟩,.slice an 2 cn,.slice ai 2 ci,.int .u8 5,.int .i64 0,.string ⟨#[]⟩,.slice an 2 cn,.slice ai 2 ci,.int .u8 5,.int .i64 0,.string ⟨#[]⟩,.slice an 2 cn,.slice ai 2 ci] 25):=⟨_,rfl⟩
 have hbx:Below wd.heap.size wd we:=by rw [hwe];exact (Below.refl _ _).alloc lz _
 have HXIb:=Lh (qu hwe hbIb)
 replace HB:=Lh (HB.out.trans (hbx.mono HB.out.size))
 replace HXO:=Lh ((hbx.block _ (qz HXO.out)).trans HXO.out)
 replace HXB:=Lh ((hbx.block _ (qz HXB.out)).trans HXB.out)
 replace HXT:=Lh ((hbx.block _ (qz HXT.out)).trans HXT.out)
 replace HXA:=Lh ((hbx.block _ (qz HXA.out)).trans HXA.out)
 replace HXK:=Lh ((hbx.block _ (qz HXK.out)).trans HXK.out)
 replace HXWa:=Lh ((hbx.block _ (qz HXWa.out)).trans HXWa.out)
 replace HXNb:=Lh ((hbx.block _ (qz HXNb.out)).trans HXNb.out)
 replace HA:=Lh (HA.out.mono hbx)
 replace HK:=Lh (HK.out.mono hbx)
 replace H2:=Lh (H2.out.mono hbx)
 have Hwe:=Lh (And.intro hwe hbIb)
 clear hbx hwe hbIb
 have H4:=Lh (show qK w.heap.size ku we (.agg #[.int .u8 5,.int .i64 0,.string ⟨#[]⟩,.slice (some ⟨bNb,0,none⟩) 4 4,.slice (some ⟨bIb,0,none⟩) 4 4]) from mo (T1:=9) (T2:=25) [⟨#[114,111,111,116]⟩,⟨#[115,110,97,112,115,104,111,116]⟩,⟨#[116,97,114,103,101,116,115]⟩,⟨#[116,105,109,101,115,116,97,109,112]⟩] [aJ,aJ,aJ,aJ] ⟨_,HZN.out,rfl,HXNb.out⟩ ⟨_,_,rfl,Nat.le_trans HZN.out (by rw [Hwe.out.2,Hwd.out.1,Hwd.out.2];simp),HXIb.out,fun i hi=>match i,hi with|0,_=>⟨_,_,_,_,_,rfl,rfl,rfl,rfl,rfl,HA.out⟩|1,_=>⟨_,_,_,_,_,rfl,rfl,rfl,rfl,rfl,HA.out⟩|2,_=>⟨_,_,_,_,_,rfl,rfl,rfl,rfl,rfl,HA.out⟩|3,_=>⟨_,_,_,_,_,rfl,rfl,rfl,rfl,rfl,HA.out⟩⟩)
 obtain ⟨bWb,hbWb⟩:∃bWb,bWb=we.heap.size:=⟨_,rfl⟩
 obtain ⟨wf,hwf⟩:∃wf,wf=we.alloc (.cells #[.int .u8 5,.int .i64 0,.string ⟨#[]⟩,.slice (some ⟨bNb,0,none⟩) 4 4,.slice (some ⟨bIb,0,none⟩) 4 4] 25):=⟨_,rfl⟩
 have hbx:Below we.heap.size we wf:=by rw [hwf];exact (Below.refl _ _).alloc lz _
 have HXWb:=Lh (qu hwf hbWb)
 replace HB:=Lh (HB.out.trans (hbx.mono HB.out.size))
 replace HXO:=Lh ((hbx.block _ (qz HXO.out)).trans HXO.out)
 replace HXB:=Lh ((hbx.block _ (qz HXB.out)).trans HXB.out)
 replace HXT:=Lh ((hbx.block _ (qz HXT.out)).trans HXT.out)
 replace HXA:=Lh ((hbx.block _ (qz HXA.out)).trans HXA.out)
 replace HXK:=Lh ((hbx.block _ (qz HXK.out)).trans HXK.out)
 replace HXWa:=Lh ((hbx.block _ (qz HXWa.out)).trans HXWa.out)
 replace HXNb:=Lh ((hbx.block _ (qz HXNb.out)).trans HXNb.out)
 replace HXIb:=Lh ((hbx.block _ (qz HXIb.out)).trans HXIb.out)
 replace HA:=Lh (HA.out.mono hbx)
 replace HK:=Lh (HK.out.mono hbx)
 replace H2:=Lh (H2.out.mono hbx)
 replace H4:=Lh (H4.out.mono hbx)
 have Hwf:=Lh (And.intro hwf hbWb)
 clear hbx hwf hbWb
 go_upto_region 8 with fail
 clear xA0 xA1 xA2 xA3 xA4
 rw [← Hwd.out.1,← Hwd.out.2,show bNb+1=bIb by rw [Hwe.out.2,Hwd.out.1,Hwd.out.2];simp,← Hwe.out.1,show bIb+1=bWb by rw [Hwf.out.2,Hwe.out.1,Hwe.out.2];simp,← Hwf.out.1]
 clear Hwd Hwe Hwf HZN HXNb HXIb
 clear HZ9
 have HZ9:=Lh HB.out.size
 obtain ⟨bNc,hbNc⟩:∃bNc,bNc=wf.heap.size:=⟨_,rfl⟩
 obtain ⟨wg,hwg⟩:∃wg,wg=wf.alloc (.cells #[.string ⟨#[114,111,111,116]⟩,.string ⟨#[115,110,97,112,115,104,111,116]⟩,.string ⟨#[116,97,114,103,101,116,115]⟩] 9):=⟨_,rfl⟩
 have hbx:Below wf.heap.size wf wg:=by rw [hwg];exact (Below.refl _ _).alloc lz _
 have HXNc:=Lh (qu hwg hbNc)
 replace HB:=Lh (HB.out.trans (hbx.mono HB.out.size))
 replace HXO:=Lh ((hbx.block _ (qz HXO.out)).trans HXO.out)
 replace HXB:=Lh ((hbx.block _ (qz HXB.out)).trans HXB.out)
 replace HXT:=Lh ((hbx.block _ (qz HXT.out)).trans HXT.out)
 replace HXA:=Lh ((hbx.block _ (qz HXA.out)).trans HXA.out)
 replace HXK:=Lh ((hbx.block _ (qz HXK.out)).trans HXK.out)
 replace HXWa:=Lh ((hbx.block _ (qz HXWa.out)).trans HXWa.out)
 replace HXWb:=Lh ((hbx.block _ (qz HXWb.out)).trans HXWb.out)
 replace HA:=Lh (HA.out.mono hbx)
 replace HK:=Lh (HK.out.mono hbx)
 replace H2:=Lh (H2.out.mono hbx)
 replace H4:=Lh (H4.out.mono hbx)
 have Hwg:=Lh (And.intro hwg hbNc)
 clear hbx hwg hbNc
 have HZN:=Lh (show w.heap.size≤bNc from Nat.le_of_lt_succ (Nat.lt_of_le_of_lt (Nat.le_trans HZ9.out lz) (Nat.lt_succ_of_le (Nat.le_of_eq Hwg.out.2.symm))))
 have xA0:(wf.alloc (.cells #[.string ⟨#[114,111,111,116]⟩,.string ⟨#[115,110,97,112,115,104,111,116]⟩,.string ⟨#[116,97,114,103,101,116,115]⟩] 9)).cell? ⟨bA,0,none⟩=some (.int .u8 5):=by rw [← Hwg.out.1];exact qq HXA.out (j:=0) rfl
 have xA1:(wf.alloc (.cells #[.string ⟨#[114,111,111,116]⟩,.string ⟨#[115,110,97,112,115,104,111,116]⟩,.string ⟨#[116,97,114,103,101,116,115]⟩] 9)).cell? ⟨bA,1,none⟩=some (.int .i64 0):=by rw [← Hwg.out.1];exact qq HXA.out (j:=1) rfl
 have xA2:(wf.alloc (.cells #[.string ⟨#[114,111,111,116]⟩,.string ⟨#[115,110,97,112,115,104,111,116]⟩,.string ⟨#[116,97,114,103,101,116,115]⟩] 9)).cell? ⟨bA,2,none⟩=some (.string ⟨#[]⟩):=by rw [← Hwg.out.1];exact qq HXA.out (j:=2) rfl
 have xA3:(wf.alloc (.cells #[.string ⟨#[114,111,111,116]⟩,.string ⟨#[115,110,97,112,115,104,111,116]⟩,.string ⟨#[116,97,114,103,101,116,115]⟩] 9)).cell? ⟨bA,3,none⟩=some (.slice an 2 cn):=by rw [← Hwg.out.1];exact qq HXA.out (j:=3) rfl
 have xA4:(wf.alloc (.cells #[.string ⟨#[114,111,111,116]⟩,.string ⟨#[115,110,97,112,115,104,111,116]⟩,.string ⟨#[116,97,114,103,101,116,115]⟩] 9)).cell? ⟨bA,4,none⟩=some (.slice ai 2 ci):=by rw [← Hwg.out.1];exact qq HXA.out (j:=4) rfl
 have xT0:(wf.alloc (.cells #[.string ⟨#[114,111,111,116]⟩,.string ⟨#[115,110,97,112,115,104,111,116]⟩,.string ⟨#[116,97,114,103,101,116,115]⟩] 9)).cell? ⟨bT,0,none⟩=some (.int .u8 4):=by rw [← Hwg.out.1];exact qq HXT.out (j:=0) rfl
 have xT1:(wf.alloc (.cells #[.string ⟨#[114,111,111,116]⟩,.string ⟨#[115,110,97,112,115,104,111,116]⟩,.string ⟨#[116,97,114,103,101,116,115]⟩] 9)).cell? ⟨bT,1,none⟩=some (.int .i64 0):=by rw [← Hwg.out.1];exact qq HXT.out (j:=1) rfl
 have xT2:(wf.alloc (.cells #[.string ⟨#[114,111,111,116]⟩,.string ⟨#[115,110,97,112,115,104,111,116]⟩,.string ⟨#[116,97,114,103,101,116,115]⟩] 9)).cell? ⟨bT,2,none⟩=some (.string ⟨#[]⟩):=by rw [← Hwg.out.1];exact qq HXT.out (j:=2) rfl
 have xT3:(wf.alloc (.cells #[.string ⟨#[114,111,111,116]⟩,.string ⟨#[115,110,97,112,115,104,111,116]⟩,.string ⟨#[116,97,114,103,101,116,115]⟩] 9)).cell? ⟨bT,3,none⟩=some (.slice none 0 0):=by rw [← Hwg.out.1];exact qq HXT.out (j:=3) rfl
 have xT4:(wf.alloc (.cells #[.string ⟨#[114,111,111,116]⟩,.string ⟨#[115,110,97,112,115,104,111,116]⟩,.string ⟨#[116,97,114,103,101,116,115]⟩] 9)).cell? ⟨bT,4,none⟩=some (.slice none 0 0):=by rw [← Hwg.out.1];exact qq HXT.out (j:=4) rfl
 obtain ⟨bIc,hbIc⟩:∃bIc,bIc=wg.heap.size:=⟨_,rfl⟩
 obtain ⟨wh,hwh⟩:∃wh,wh=wg.alloc (.cells #[.int .u8 5,.int .i64 0,.string ⟨#[]⟩,.slice an 2 cn,.slice ai 2 ci,.int .u8 4,.int .i64 0,.string ⟨#[]⟩,.slice none 0 0,.slice none 0 0,.int .u8 5,.int .i64 0,.string ⟨#[]⟩,.slice an 2 cn,.slice ai 2 ci] 25):=⟨_,rfl⟩
 have hbx:Below wg.heap.size wg wh:=by rw [hwh];exact (Below.refl _ _).alloc lz _
 have HXIc:=Lh (qu hwh hbIc)
 replace HB:=Lh (HB.out.trans (hbx.mono HB.out.size))
 replace HXO:=Lh ((hbx.block _ (qz HXO.out)).trans HXO.out)
 replace HXB:=Lh ((hbx.block _ (qz HXB.out)).trans HXB.out)
 replace HXT:=Lh ((hbx.block _ (qz HXT.out)).trans HXT.out)
 replace HXA:=Lh ((hbx.block _ (qz HXA.out)).trans HXA.out)
 replace HXK:=Lh ((hbx.block _ (qz HXK.out)).trans HXK.out)
 replace HXWa:=Lh ((hbx.block _ (qz HXWa.out)).trans HXWa.out)
 replace HXWb:=Lh ((hbx.block _ (qz HXWb.out)).trans HXWb.out)
 replace HXNc:=Lh ((hbx.block _ (qz HXNc.out)).trans HXNc.out)
 replace HA:=Lh (HA.out.mono hbx)
 replace HK:=Lh (HK.out.mono hbx)
 replace H2:=Lh (H2.out.mono hbx)
 replace H4:=Lh (H4.out.mono hbx)
 have Hwh:=Lh (And.intro hwh hbIc)
 clear hbx hwh hbIc
 have H3:=Lh (show qK w.heap.size wJ wh (.agg #[.int .u8 5,.int .i64 0,.string ⟨#[]⟩,.slice (some ⟨bNc,0,none⟩) 3 3,.slice (some ⟨bIc,0,none⟩) 3 3]) from mo (T1:=9) (T2:=25) [⟨#[114,111,111,116]⟩,⟨#[115,110,97,112,115,104,111,116]⟩,⟨#[116,97,114,103,101,116,115]⟩] [aJ,zP,aJ] ⟨_,HZN.out,rfl,HXNc.out⟩ ⟨_,_,rfl,Nat.le_trans HZN.out (by rw [Hwh.out.2,Hwg.out.1,Hwg.out.2];simp),HXIc.out,fun i hi=>match i,hi with|0,_=>⟨_,_,_,_,_,rfl,rfl,rfl,rfl,rfl,HA.out⟩|1,_=>⟨_,_,_,_,_,rfl,rfl,rfl,rfl,rfl,(jA _ 4 0 ⟨#[]⟩ _)⟩|2,_=>⟨_,_,_,_,_,rfl,rfl,rfl,rfl,rfl,HA.out⟩⟩)
 obtain ⟨bWc,hbWc⟩:∃bWc,bWc=wh.heap.size:=⟨_,rfl⟩
 obtain ⟨wi,hwi⟩:∃wi,wi=wh.alloc (.cells #[.int .u8 5,.int .i64 0,.string ⟨#[]⟩,.slice (some ⟨bNc,0,none⟩) 3 3,.slice (some ⟨bIc,0,none⟩) 3 3] 25):=⟨_,rfl⟩
 have hbx:Below wh.heap.size wh wi:=by rw [hwi];exact (Below.refl _ _).alloc lz _
 have HXWc:=Lh (qu hwi hbWc)
 replace HB:=Lh (HB.out.trans (hbx.mono HB.out.size))
 replace HXO:=Lh ((hbx.block _ (qz HXO.out)).trans HXO.out)
 replace HXB:=Lh ((hbx.block _ (qz HXB.out)).trans HXB.out)
 replace HXT:=Lh ((hbx.block _ (qz HXT.out)).trans HXT.out)
 replace HXA:=Lh ((hbx.block _ (qz HXA.out)).trans HXA.out)
 replace HXK:=Lh ((hbx.block _ (qz HXK.out)).trans HXK.out)
 replace HXWa:=Lh ((hbx.block _ (qz HXWa.out)).trans HXWa.out)
 replace HXWb:=Lh ((hbx.block _ (qz HXWb.out)).trans HXWb.out)
 replace HXNc:=Lh ((hbx.block _ (qz HXNc.out)).trans HXNc.out)
 replace HXIc:=Lh ((hbx.block _ (qz HXIc.out)).trans HXIc.out)
 replace HA:=Lh (HA.out.mono hbx)
 replace HK:=Lh (HK.out.mono hbx)
 replace H2:=Lh (H2.out.mono hbx)
 replace H4:=Lh (H4.out.mono hbx)
 replace H3:=Lh (H3.out.mono hbx)
 have Hwi:=Lh (And.intro hwi hbWc)
 clear hbx hwi hbWc
 go_upto_region 9 with fail
 clear xA0 xA1 xA2 xA3 xA4
 clear xT0 xT1 xT2 xT3 xT4
 rw [← Hwg.out.1,← Hwg.out.2,show bNc+1=bIc by rw [Hwh.out.2,Hwg.out.1,Hwg.out.2];simp,← Hwh.out.1,show bIc+1=bWc by rw [Hwi.out.2,Hwh.out.1,Hwh.out.2];simp,← Hwi.out.1]
 clear Hwg Hwh Hwi HZN HXNc HXIc
 have HC:=Lh (show ∀w':World,Below wi.heap.size wi w'→w'.heap[bA]?=some (.cells #[.int .u8 5,.int .i64 0,.string ⟨#[]⟩,.slice an 2 cn,.slice ai 2 ci] 25 (0,0))∧w'.heap[bT]?=some (.cells #[.int .u8 4,.int .i64 0,.string ⟨#[]⟩,.slice none 0 0,.slice none 0 0] 25 (0,0))∧qK w.heap.size aJ w' (.agg #[.int .u8 5,.int .i64 0,.string ⟨#[]⟩,.slice an 2 cn,.slice ai 2 ci]) from fun w' h=>⟨(h.block _ (qz HXA.out)).trans HXA.out,(h.block _ (qz HXT.out)).trans HXT.out,HA.out.mono h⟩)
 have HTX:=Lh (show ∀(w':World) (b:Nat),Below wi.heap.size wi w'→w'.heap[b]?=some (.cells #[.string (qG 97)] 9 (0,0))→Calls Tryz.prog 18 #[.slice (some ⟨b,0,none⟩) 1 1] w' (fun e w2=>∃y,e=.returned y∧qK w.heap.size (qF [qG 97]) w2 y∧Below w'.heap.size w' w2) from fun w' b h m=>by
  refine (fQ [qG 97] (some ⟨b,0,none⟩) 1 w' (.inr ⟨b,0,rfl,Nat.zero_le _,qz m,fun i hi=>by obtain rfl:i=0:=(by simpa using hi);exact qq m rfl⟩) (by decide)).mono ?_
  rintro e w2 ⟨ai,ci,rfl,hr,hb⟩
  exact ⟨_,rfl,⟨none,0,ai,ci,rfl,Rep.carry (Nat.le_trans (HB.out.trans (h.mono HB.out.size)).size lz) lz (fun _ _ _=>rfl) _ _ hr⟩,hb⟩)
 have HBZ:=Lh HB.out.size
 obtain ⟨V,hV⟩:∃V:List MP,V=[.row w.heap.size 3 9 (strs [⟨#[114,111,111,116]⟩,⟨#[115,110,97,112,115,104,111,116]⟩,⟨#[116,97,114,103,101,116,115]⟩]),.con (.agg #[.int .u8 5,.int .i64 0,.string ⟨#[]⟩,.slice an 2 cn,.slice ai 2 ci]),.row w.heap.size 2 9 (strs [⟨#[107,101,121,105,100,115]⟩,⟨#[116,104,114,101,115,104,111,108,100]⟩]),.con (.string (qG 97)),.row w.heap.size 1 9 #[.string (qG 97)],.rep w.heap.size (qF [qG 97]),.con (.agg #[.int .u8 2,.int .i64 2,.string ⟨#[]⟩,.slice none 0 0,.slice none 0 0]),.vals w.heap.size 25 [qF [qG 97],qV 2],.rep w.heap.size (qd ⟨2,[qG 97]⟩),.con (.agg #[.int .u8 4,.int .i64 0,.string ⟨#[]⟩,.slice none 0 0,.slice none 0 0]),.vals w.heap.size 25 [aJ,qd ⟨2,[qG 97]⟩,zP],.rep w.heap.size qO,.blk wi.heap.size 25 #[.int .u8 0,.int .i64 0,.string ⟨#[]⟩,.slice none 0 0,.slice none 0 0]]:=⟨_,rfl⟩
 have HV:=Lh hV
 clear hV
 refine xJ 13 (fun d a' w'=>∃x64 x65 x66 x67 x68 x69 x70 x71 x72 x73 x74 x75 x11,a'=⟨#[Value.bool false,Value.pointer (some { block:=bO,off:=0 }),Value.pointer (some { block:=bB,off:=0 }),Value.pointer (some { block:=bT,off:=0 }),Value.pointer (some { block:=bA,off:=0 }),Value.int IntKind.i64 0,Value.pointer (some { block:=bK,off:=0 }),Value.int IntKind.i64 0,Value.pointer (some { block:=bWa,off:=0 }),Value.pointer (some { block:=bWb,off:=0 }),Value.pointer (some { block:=bWc,off:=0 }),x11,undef,undef,undef,undef,undef,undef,undef,undef,undef,undef,undef,undef,undef,Value.bool true,Value.bool false,Value.bool false,Value.bool false,Value.bool false,Value.bool false,Value.bool false,Value.bool false,Value.agg #[Value.int IntKind.u8 2,Value.int IntKind.i64 1,Value.string ⟨#[]⟩,Value.slice none 0 0,Value.slice none 0 0],Value.agg #[Value.int IntKind.u8 1,Value.int IntKind.i64 0,Value.string ⟨#[]⟩,Value.slice none 0 0,Value.slice none 0 0],Value.agg #[Value.int IntKind.u8 4,Value.int IntKind.i64 0,Value.string ⟨#[]⟩,Value.slice none 0 0,Value.slice none 0 0],Value.tuple #[Value.agg #[Value.int IntKind.u8 5,Value.int IntKind.i64 0,Value.string ⟨#[]⟩,Value.slice an 2 cn,Value.slice ai 2 ci],Value.int IntKind.i64 0],Value.agg #[Value.int IntKind.i64 1,Value.slice (some { block:=g,off:=0 }) 1 1],Value.tuple #[Value.agg #[Value.int IntKind.u8 5,Value.int IntKind.i64 0,Value.string ⟨#[]⟩,Value.slice an 2 cn,Value.slice ai 2 ci],Value.int IntKind.i64 0],Value.agg #[Value.int IntKind.u8 5,Value.int IntKind.i64 0,Value.string ⟨#[]⟩,Value.slice an 2 cn,Value.slice ai 2 ci],Value.int IntKind.i64 0,Value.tuple #[Value.agg #[Value.int IntKind.u8 5,Value.int IntKind.i64 0,Value.string ⟨#[]⟩,Value.slice kn 2 kc,Value.slice ki 2 kd],Value.int IntKind.i64 0],Value.agg #[Value.string ⟨#[120]⟩,Value.string ⟨#[48,48]⟩],Value.tuple #[Value.agg #[Value.int IntKind.u8 5,Value.int IntKind.i64 0,Value.string ⟨#[]⟩,Value.slice kn 2 kc,Value.slice ki 2 kd],Value.int IntKind.i64 0],Value.agg #[Value.int IntKind.u8 5,Value.int IntKind.i64 0,Value.string ⟨#[]⟩,Value.slice kn 2 kc,Value.slice ki 2 kd],Value.int IntKind.i64 0,Value.slice (some { block:=bNa,off:=0 }) 2 2,Value.agg #[Value.int IntKind.u8 5,Value.int IntKind.i64 0,Value.string ⟨#[]⟩,Value.slice an 2 cn,Value.slice ai 2 ci],Value.agg #[Value.int IntKind.u8 5,Value.int IntKind.i64 0,Value.string ⟨#[]⟩,Value.slice an 2 cn,Value.slice ai 2 ci],Value.slice (some { block:=bIa,off:=0 }) 2 2,Value.agg #[Value.int IntKind.u8 5,Value.int IntKind.i64 0,Value.string ⟨#[]⟩,Value.slice (some { block:=bNa,off:=0 }) 2 2,Value.slice (some { block:=bIa,off:=0 }) 2 2],Value.slice (some { block:=bNb,off:=0 }) 4 4,Value.agg #[Value.int IntKind.u8 5,Value.int IntKind.i64 0,Value.string ⟨#[]⟩,Value.slice an 2 cn,Value.slice ai 2 ci],Value.agg #[Value.int IntKind.u8 5,Value.int IntKind.i64 0,Value.string ⟨#[]⟩,Value.slice an 2 cn,Value.slice ai 2 ci],Value.agg #[Value.int IntKind.u8 5,Value.int IntKind.i64 0,Value.string ⟨#[]⟩,Value.slice an 2 cn,Value.slice ai 2 ci],Value.agg #[Value.int IntKind.u8 5,Value.int IntKind.i64 0,Value.string ⟨#[]⟩,Value.slice an 2 cn,Value.slice ai 2 ci],Value.slice (some { block:=bIb,off:=0 }) 4 4,Value.agg #[Value.int IntKind.u8 5,Value.int IntKind.i64 0,Value.string ⟨#[]⟩,Value.slice (some { block:=bNb,off:=0 }) 4 4,Value.slice (some { block:=bIb,off:=0 }) 4 4],Value.slice (some { block:=bNc,off:=0 }) 3 3,Value.agg #[Value.int IntKind.u8 5,Value.int IntKind.i64 0,Value.string ⟨#[]⟩,Value.slice an 2 cn,Value.slice ai 2 ci],Value.agg #[Value.int IntKind.u8 4,Value.int IntKind.i64 0,Value.string ⟨#[]⟩,Value.slice none 0 0,Value.slice none 0 0],Value.agg #[Value.int IntKind.u8 5,Value.int IntKind.i64 0,Value.string ⟨#[]⟩,Value.slice an 2 cn,Value.slice ai 2 ci],Value.slice (some { block:=bIc,off:=0 }) 3 3,Value.agg #[Value.int IntKind.u8 5,Value.int IntKind.i64 0,Value.string ⟨#[]⟩,Value.slice (some { block:=bNc,off:=0 }) 3 3,Value.slice (some { block:=bIc,off:=0 }) 3 3],x64,x65,x66,x67,x68,x69,x70,x71,x72,x73,x74,x75,undef,undef,undef,undef,undef,undef,undef,undef,undef,undef,undef,undef,undef,undef,undef,undef,undef,undef,undef,undef,undef,undef,undef,undef,undef,undef,undef,undef,undef,undef,undef,undef,undef,undef,undef,undef,undef,undef,undef,undef,undef,undef,undef,undef,undef,undef,undef,undef,undef,undef,undef,undef,undef,undef,undef,undef,undef,undef,undef,undef,undef,undef,undef,undef,undef,undef,undef,undef,undef,undef,undef,undef,undef,undef,undef,undef,undef,undef,undef,undef,undef,undef,undef,undef,undef,undef,undef,undef,undef,undef,undef,undef,undef,undef,undef,undef,undef,undef,undef,undef,undef,undef,undef,undef,undef,undef,undef,undef,undef,undef,undef,undef,undef,undef,undef,undef,undef,undef,undef,undef,undef],[]⟩∧xm wi V d w' [x64,x65,x66,x67,x68,x69,x70,x71,x72,x73,x74,x75,x11]) (by kernel_rfl) (by kernel_rfl) ?first ?step ?last
 case first=>exact ⟨_,_,_,_,_,_,_,_,_,_,_,_,_,rfl,xm.first _ _ _ (by rw [HV.out];rfl)⟩
 case step =>
  rintro d a' w' ⟨x64,x65,x66,x67,x68,x69,x70,x71,x72,x73,x74,x75,x11,rfl,h⟩ q hq hn hw
  rcases q with _|_|_|_|_|_|_|_|_|_|_|_|_|q
  · refine wpOp_step rfl fun K hK=>?_
    go_simp
    exact hK _ _ ⟨_,x65,x66,x67,x68,x69,x70,x71,x72,x73,x74,x75,x11,rfl,h.new _ 0 _ (.row w.heap.size 3 9 (strs [⟨#[114,111,111,116]⟩,⟨#[115,110,97,112,115,104,111,116]⟩,⟨#[116,97,114,103,101,116,115]⟩])) (by rw [HV.out];rfl) (jC.made _ (Nat.le_trans HBZ.out h.1.size))⟩
  · obtain ⟨a0,a1,a2,a3,a4⟩:=bM (HC.out w' h.1).1
    refine wpOp_step rfl fun K hK=>?_
    go_simp
    exact hK _ _ ⟨x64,_,x66,x67,x68,x69,x70,x71,x72,x73,x74,x75,x11,rfl,h.sameC 1 _ HV rfl⟩
  · refine wpOp_step rfl fun K hK=>?_
    go_simp
    exact hK _ _ ⟨x64,x65,_,x67,x68,x69,x70,x71,x72,x73,x74,x75,x11,rfl,h.new _ 2 _ (.row w.heap.size 2 9 (strs [⟨#[107,101,121,105,100,115]⟩,⟨#[116,104,114,101,115,104,111,108,100]⟩])) (by rw [HV.out];rfl) (jC.made _ (Nat.le_trans HBZ.out h.1.size))⟩
  · skip
    refine wpOp_step rfl fun K hK=>?_
    go_simp
    refine (si 97 w').mono ?_
    rintro e w2 ⟨rfl,hb2⟩
    exact hK _ _ ⟨x64,x65,x66,_,x68,x69,x70,x71,x72,x73,x74,x75,x11,rfl,h.didC hb2 3 _ HV rfl⟩
  · obtain rfl:=h.con 3 (hw _ rfl ⟨3,.data⟩ (by simp) rfl) HV rfl rfl
    refine wpOp_step rfl fun K hK=>?_
    go_simp
    exact hK _ _ ⟨x64,x65,x66,_,_,x69,x70,x71,x72,x73,x74,x75,x11,rfl,h.new _ 4 _ (.row w.heap.size 1 9 #[.string (qG 97)]) (by rw [HV.out];rfl) (jC.made _ (Nat.le_trans HBZ.out h.1.size))⟩
  · obtain ⟨b68,k68,rfl,m68⟩:=h.get 4 (hw _ rfl ⟨4,.data⟩ (by simp) rfl) (.row w.heap.size 1 9 #[.string (qG 97)]) (by rw [HV.out];rfl) _ rfl
    skip
    refine wpOp_step rfl fun K hK=>?_
    go_simp
    refine (HTX.out w' b68 h.1 m68).mono ?_
    rintro e w2 ⟨y,rfl,hy,hb2⟩
    exact hK _ _ ⟨x64,x65,x66,x67,_,_,x70,x71,x72,x73,x74,x75,x11,rfl,h.did hb2 5 _ (.rep w.heap.size (qF [qG 97])) (by rw [HV.out];rfl) hy⟩
  · refine wpOp_step rfl fun K hK=>?_
    go_simp
    exact hK _ _ ⟨x64,x65,x66,x67,x68,x69,_,x71,x72,x73,x74,x75,x11,rfl,h.sameC 6 _ HV rfl⟩
  · have hs69:=h.get 5 (hw _ rfl ⟨5,.data⟩ (by simp) rfl) (.rep w.heap.size (qF [qG 97])) (by rw [HV.out];rfl) _ rfl
    obtain ⟨tn,tc,ti,td,rfl,tr⟩:=hs69
    obtain rfl:=h.con 6 (hw _ rfl ⟨6,.data⟩ (by simp) rfl) HV rfl rfl
    refine wpOp_step rfl fun K hK=>?_
    go_simp
    exact hK _ _ ⟨x64,x65,x66,x67,x68,_,_,_,x72,x73,x74,x75,x11,rfl,h.new _ 7 _ (.vals w.heap.size 25 [qF [qG 97],qV 2]) (by rw [HV.out];rfl) (⟨_,_,rfl,Nat.le_trans HBZ.out h.1.size,heap_alloc_new _ _,fun i hi=>match i,hi with|0,_=>⟨_,_,_,_,_,rfl,rfl,rfl,rfl,rfl,qK.mono (show Below w'.heap.size w' (w'.alloc _) from (Below.refl _ _).alloc lz _) ⟨tn,tc,ti,td,rfl,tr⟩⟩|1,_=>⟨_,_,_,_,_,rfl,rfl,rfl,rfl,rfl,wQ _ _ _⟩⟩)⟩
  · obtain ⟨b66,k66,rfl,m66⟩:=h.get 2 (hw _ rfl ⟨2,.data⟩ (by simp) rfl) (.row w.heap.size 2 9 (strs [⟨#[107,101,121,105,100,115]⟩,⟨#[116,104,114,101,115,104,111,108,100]⟩])) (by rw [HV.out];rfl) _ rfl
    have hs71:=h.get 7 (hw _ rfl ⟨7,.data⟩ (by simp) rfl) (.vals w.heap.size 25 [qF [qG 97],qV 2]) (by rw [HV.out];rfl) _ rfl
    obtain ⟨vb,vcs,rfl,vkb,vm,vr⟩:=hs71
    refine wpOp_step rfl fun K hK=>?_
    go_simp
    exact hK _ _ ⟨x64,x65,_,x67,x68,x69,x70,_,_,x73,x74,x75,x11,rfl,h.same 8 _ (.rep w.heap.size (qd ⟨2,[qG 97]⟩)) (by rw [HV.out];rfl) (mo (B:=w.heap.size) (T1:=9) (T2:=25) [⟨#[107,101,121,105,100,115]⟩,⟨#[116,104,114,101,115,104,111,108,100]⟩] [qF [qG 97],qV 2] ⟨b66,k66,rfl,m66⟩ ⟨vb,vcs,rfl,vkb,vm,vr⟩)⟩
  · obtain ⟨a0,a1,a2,a3,a4⟩:=bM (HC.out w' h.1).2.1
    refine wpOp_step rfl fun K hK=>?_
    go_simp
    exact hK _ _ ⟨x64,x65,x66,x67,x68,x69,x70,x71,x72,_,x74,x75,x11,rfl,h.sameC 9 _ HV rfl⟩
  · obtain rfl:=h.con 1 (hw _ rfl ⟨1,.data⟩ (by simp) rfl) HV rfl rfl
    have hs72:=h.get 8 (hw _ rfl ⟨8,.data⟩ (by simp) rfl) (.rep w.heap.size (qd ⟨2,[qG 97]⟩)) (by rw [HV.out];rfl) _ rfl
    obtain ⟨un,uc,ui,ud,rfl,ur⟩:=hs72
    obtain rfl:=h.con 9 (hw _ rfl ⟨9,.data⟩ (by simp) rfl) HV rfl rfl
    refine wpOp_step rfl fun K hK=>?_
    go_simp
    exact hK _ _ ⟨x64,_,x66,x67,x68,x69,x70,x71,_,_,_,x75,x11,rfl,h.new _ 10 _ (.vals w.heap.size 25 [aJ,qd ⟨2,[qG 97]⟩,zP]) (by rw [HV.out];rfl) (⟨_,_,rfl,Nat.le_trans HBZ.out h.1.size,heap_alloc_new _ _,fun i hi=>match i,hi with|0,_=>⟨_,_,_,_,_,rfl,rfl,rfl,rfl,rfl,qK.mono (show Below w'.heap.size w' (w'.alloc _) from (Below.refl _ _).alloc lz _) (HC.out w' h.1).2.2⟩|1,_=>⟨_,_,_,_,_,rfl,rfl,rfl,rfl,rfl,qK.mono (show Below w'.heap.size w' (w'.alloc _) from (Below.refl _ _).alloc lz _) ⟨un,uc,ui,ud,rfl,ur⟩⟩|2,_=>⟨_,_,_,_,_,rfl,rfl,rfl,rfl,rfl,jA _ 4 0 ⟨#[]⟩ _⟩⟩)⟩
  · obtain ⟨b64,k64,rfl,m64⟩:=h.get 0 (hw _ rfl ⟨0,.data⟩ (by simp) rfl) (.row w.heap.size 3 9 (strs [⟨#[114,111,111,116]⟩,⟨#[115,110,97,112,115,104,111,116]⟩,⟨#[116,97,114,103,101,116,115]⟩])) (by rw [HV.out];rfl) _ rfl
    have hs74:=h.get 10 (hw _ rfl ⟨10,.data⟩ (by simp) rfl) (.vals w.heap.size 25 [aJ,qd ⟨2,[qG 97]⟩,zP]) (by rw [HV.out];rfl) _ rfl
    obtain ⟨sb,scs,rfl,skb,sm,sr⟩:=hs74
    refine wpOp_step rfl fun K hK=>?_
    go_simp
    exact hK _ _ ⟨_,x65,x66,x67,x68,x69,x70,x71,x72,x73,_,_,x11,rfl,h.same 11 _ (.rep w.heap.size qO) (by rw [HV.out];rfl) (mo (B:=w.heap.size) (T1:=9) (T2:=25) [⟨#[114,111,111,116]⟩,⟨#[115,110,97,112,115,104,111,116]⟩,⟨#[116,97,114,103,101,116,115]⟩] [aJ,qd ⟨2,[qG 97]⟩,zP] ⟨b64,k64,rfl,m64⟩ ⟨sb,scs,rfl,skb,sm,sr⟩)⟩
  · refine wpOp_step rfl fun K hK=>?_
    go_simp
    exact hK _ _ ⟨x64,x65,x66,x67,x68,x69,x70,x71,x72,x73,x74,x75,_,rfl,h.new _ 12 _ (.blk wi.heap.size 25 #[.int .u8 0,.int .i64 0,.string ⟨#[]⟩,.slice none 0 0,.slice none 0 0]) (by rw [HV.out];rfl) (gl.made _ h.1.size)⟩
  · omega
 case last =>
  rintro d a' w' hall ⟨x64,x65,x66,x67,x68,x69,x70,x71,x72,x73,x74,x75,x11,rfl,h⟩
  have hle:=h.1
  obtain ⟨b11,k11,rfl,m11⟩:=h.get 12 (hall _ (by omega)) (.blk wi.heap.size 25 #[.int .u8 0,.int .i64 0,.string ⟨#[]⟩,.slice none 0 0,.slice none 0 0]) (by rw [HV.out];rfl) _ rfl
  have hs75:=h.get 11 (hall _ (by omega)) (.rep w.heap.size qO) (by rw [HV.out];rfl) _ rfl
  have HLE:=Lh hle
  clear h hall hle HV
  obtain ⟨bn,bc,bi,bd,rfl,br⟩:=hs75
  have HM11:=Lh m11
  have HK11:=Lh k11
  have HBR:=Lh br
  have s0:w'.frozen? ⟨b11,0,none⟩=false:=by simp [World.frozen?,m11]
  have s1:w'.frozen? ⟨b11,1,none⟩=false:=by simp [World.frozen?,m11]
  have s2:w'.frozen? ⟨b11,2,none⟩=false:=by simp [World.frozen?,m11]
  have s3:w'.frozen? ⟨b11,3,none⟩=false:=by simp [World.frozen?,m11]
  have s4:w'.frozen? ⟨b11,4,none⟩=false:=by simp [World.frozen?,m11]
  obtain ⟨z0,z1,z2,z3,z4⟩:=bM m11
  clear m11 k11 br
  go_upto_region 10 with fail
  clear s0 s1 s2 s3 s4 z0 z1 z2 z3 z4
  obtain ⟨W10,hW10⟩:∃W10,W10=(((((w').setCell ⟨b11,0,none⟩ (.int .u8 qO.kind)).setCell ⟨b11,1,none⟩ (.int .i64 qO.n)).setCell ⟨b11,2,none⟩ (.string qO.t)).setCell ⟨b11,3,none⟩ (.slice bn qO.names.length bc)).setCell ⟨b11,4,none⟩ (.slice bi qO.items.length bd):=⟨_,rfl⟩
  rw [← hW10]
  have hxb:W10.heap[b11]?=some (.cells #[.int .u8 qO.kind,.int .i64 qO.n,.string qO.t,.slice bn qO.names.length bc,.slice bi qO.items.length bd] 25 (0,0)):=by rw [hW10];exact qs (set5 _ _ _ _ _ (sg HM11.out))
  have hbw:Below wi.heap.size wi W10:=by rw [hW10];exact zy _ _ _ _ _ HLE.out HK11.out
  have hbr:qK w.heap.size qO W10 (.agg #[.int .u8 qO.kind,.int .i64 qO.n,.string qO.t,.slice bn qO.names.length bc,.slice bi qO.items.length bd]):=⟨bn,bc,bi,bd,rfl,Rep.carry lz (Nat.le_of_eq (show w'.heap.size=W10.heap.size by rw [hW10];simp [World.setCell])) (fun _ _ _=>rfl) _ _ (Rep.skip (w':=W10) (show w'.heap[b11]?=some (.cells xg 25 (0,0)) from HM11.out) (fun x hx=>by rw [hW10];exact jB _ _ _ _ _ hx) _ _ u6 HBR.out)⟩
  have HYB:=Lh hxb
  have HBW:=Lh hbw
  have HB10:=Lh (HB.out.trans (hbw.mono HB.out.size))
  have HRB:=Lh hbr
  clear hxb hbw hbr hW10 HM11 HK11 HBR HLE HC HTX HBZ
  obtain ⟨p,hp⟩:∃p:Nat→Nat,p=(fun k=>if k=1 then bO else if k=2 then bB else if k=3 then bT else if k=4 then bA else if k=6 then bK else if k=8 then bWa else if k=9 then bWb else if k=10 then bWc else b11):=⟨_,rfl⟩
  obtain ⟨c,hc⟩:∃c:Nat→V5,c=(fun k=>if k=1 then (.int .u8 2,.int .i64 1,.string ⟨#[]⟩,.slice none 0 0,.slice none 0 0) else if k=2 then (.int .u8 1,.int .i64 0,.string ⟨#[]⟩,.slice none 0 0,.slice none 0 0) else if k=3 then (.int .u8 4,.int .i64 0,.string ⟨#[]⟩,.slice none 0 0,.slice none 0 0) else if k=4 then (.int .u8 5,.int .i64 0,.string ⟨#[]⟩,.slice an 2 cn,.slice ai 2 ci) else if k=6 then (.int .u8 5,.int .i64 0,.string ⟨#[]⟩,.slice kn 2 kc,.slice ki 2 kd) else if k=8 then (.int .u8 5,.int .i64 0,.string ⟨#[]⟩,.slice (some ⟨bNa,0,none⟩) 2 2,.slice (some ⟨bIa,0,none⟩) 2 2) else if k=9 then (.int .u8 5,.int .i64 0,.string ⟨#[]⟩,.slice (some ⟨bNb,0,none⟩) 4 4,.slice (some ⟨bIb,0,none⟩) 4 4) else if k=10 then (.int .u8 5,.int .i64 0,.string ⟨#[]⟩,.slice (some ⟨bNc,0,none⟩) 3 3,.slice (some ⟨bIc,0,none⟩) 3 3) else (.int .u8 qO.kind,.int .i64 qO.n,.string qO.t,.slice bn qO.names.length bc,.slice bi qO.items.length bd)):=⟨_,rfl⟩
  have hbox:dB w.heap.size W10 p c:=fun k hk=>by
   simp only [pL,List.mem_cons,List.not_mem_nil,or_false] at hk
   rw [hp,hc]
   rcases hk with rfl|rfl|rfl|rfl|rfl|rfl|rfl|rfl|rfl
   · exact ⟨(HBW.out.block _ (qz HXO.out)).trans HXO.out,jA _ 2 1 ⟨#[]⟩ _⟩
   · exact ⟨(HBW.out.block _ (qz HXB.out)).trans HXB.out,jA _ 1 0 ⟨#[]⟩ _⟩
   · exact ⟨(HBW.out.block _ (qz HXT.out)).trans HXT.out,jA _ 4 0 ⟨#[]⟩ _⟩
   · exact ⟨(HBW.out.block _ (qz HXA.out)).trans HXA.out,HA.out.mono HBW.out⟩
   · exact ⟨(HBW.out.block _ (qz HXK.out)).trans HXK.out,HK.out.mono HBW.out⟩
   · exact ⟨(HBW.out.block _ (qz HXWa.out)).trans HXWa.out,H2.out.mono HBW.out⟩
   · exact ⟨(HBW.out.block _ (qz HXWb.out)).trans HXWb.out,H4.out.mono HBW.out⟩
   · exact ⟨(HBW.out.block _ (qz HXWc.out)).trans HXWc.out,H3.out.mono HBW.out⟩
   · exact ⟨HYB.out,HRB.out⟩
  have HBOX:=Lh hbox
  have HP3:=Lh (show p 3=bT by rw [hp];rfl)
  have hpk:p 1=bO∧p 2=bB∧p 3=bT∧p 4=bA∧p 6=bK∧p 8=bWa∧p 9=bWb∧p 10=bWc:=by rw [hp];exact ⟨rfl,rfl,rfl,rfl,rfl,rfl,rfl,rfl⟩
  clear hbox hc
  refine Eq.mpr (congrArg (fun a=>Code.wp _ _ _ a _) (nz _ rfl)) ?_
  refine mB w.heap.size W10 p c _ _ _ (fun k hk=>?_) HB10.out.size HBOX.out (fun f1 v1 hf1 hv1 ht1 e1 e2=>?_)
  · simp only [pL,List.mem_cons,List.not_mem_nil,or_false] at hk
    rcases hk with rfl|rfl|rfl|rfl|rfl|rfl|rfl|rfl|rfl <;> (rw [hp];rfl)
  clear hpk hp
  go_step
  have HV1:=Lh (HB10.out.trans (hv1.mono HB10.out.size))
  have HW1:=Lh hv1
  clear hv1
  refine m6 w.heap.size v1 p f1 _ _ hf1 HZ0.out (HTB.out v1 HV1.out).1 (HTB.out v1 HV1.out).2.1 (HTB.out v1 HV1.out).2.2.1 (HTB.out v1 HV1.out).2.2.2 ht1 e1 e2 (fun f2 v2 hf2 hv2=>?_)
  clear hf1 ht1 e1 e2
  have HV2:=Lh (HV1.out.trans (hv2.mono HV1.out.size))
  have HW2:=Lh (HW1.out.trans (hv2.mono HW1.out.size))
  clear hv2
  go_step
  exact m7 w v2 bT f2 HV2.out (HTB.out w (Below.refl _ _)).1 (HTB.out w (Below.refl _ _)).2.1 (HTB.out w (Below.refl _ _)).2.2.1 (HTB.out w (Below.refl _ _)).2.2.2 ((hf2 3 (by decide)).trans (by rw [HP3.out])) ((HW2.out.block _ (qz (((HBW.out.block _ (qz HXT.out)).trans HXT.out)))).trans (((HBW.out.block _ (qz HXT.out)).trans HXT.out)))
end Go.Proofs.YtnlgmcapbbgelaaGreatDoor
