/- The contract of when.Read. -/
import Derived.Test.YtnlgmcapbbgelaaGreatDoorRx10

namespace Go.Proofs.YtnlgmcapbbgelaaGreatDoor
open Go.RowKit
theorem ext_list (s:ByteArray) (a b:Nat) (_:b≤s.size):(s.extract a b).data.toList=(s.data.toList.drop a).take (b - a):=by
 have h:s.data.toList.length=s.size:=by rw [Array.length_toList];rfl
 rw [ByteArray.data_extract,Array.toList_extract,List.extract_eq_take_drop]
theorem fU:∀(l:List UInt8) (n:Int),0≤n→-1≤qP l n∧qP l n<(n+1) * 10 ^ l.length
 | [],n,h=>by simp [qP];omega
 | c :: r,n,h=>by
  rw [qP]
  split
  · rename_i hc
    have ih:=fU r (10 * n+((c.toNat:Int) - 48)) (by omega)
    refine ⟨ih.1,Int.lt_of_lt_of_le ih.2 ?_⟩
    rw [List.length_cons,Int.pow_succ]
    have hp:(0:Int)≤10 ^ r.length:=Int.pow_nonneg (by decide)
    have h2:10 * n+((c.toNat:Int) - 48)+1≤10 * (n+1):=by omega
    calc (10 * n+((c.toNat:Int) - 48)+1) * 10 ^ r.length≤(10 * (n+1)) * 10 ^ r.length:=Int.mul_le_mul_of_nonneg_right h2 hp
     _=(n+1) * (10 ^ r.length * 10):=by rw [Int.mul_comm 10 (n+1),Int.mul_assoc,Int.mul_comm 10]
  · have hp:(0:Int)≤10 ^ (c :: r).length:=Int.pow_nonneg (by decide)
    have:=Int.mul_nonneg (show (0:Int)≤n+1 by omega) hp
    omega
theorem kN (l:List UInt8) (h:l.length≤2):-1≤qP l 0∧qP l 0≤99:=by
 have:=fU l 0 (Int.le_refl _)
 have h2:l.length=0∨l.length=1∨l.length=2:=by omega
 refine ⟨this.1,?_⟩
 have h3:=this.2
 rcases h2 with e|e|e <;> rw [e] at h3 <;> omega
theorem rN (l:List UInt8) (h:l.length≤4):-1≤qP l 0∧qP l 0≤9999:=by
 have:=fU l 0 (Int.le_refl _)
 have h2:l.length=0∨l.length=1∨l.length=2∨l.length=3∨l.length=4:=by omega
 refine ⟨this.1,?_⟩
 have h3:=this.2
 rcases h2 with e|e|e|e|e <;> rw [e] at h3 <;> omega
theorem lq (y:Nat) (h:y≤9999):qt y≤3000000:=by unfold qt zg;omega
def jt (y m d hh mm ss:Int):Int × Int :=
 if d<1∨jy y m<d then (0,3) else
 if hh<0∨23<hh∨mm<0∨59<mm∨ss<0∨59<ss then (0,3) else
 (((qt y.toNat:Int)+beforeN (m.toNat - 1)+d - 1+(if 2<m∧zD y.toNat=true then 1 else 0)) * 86400+(hh * 3600+mm * 60+ss),0)
theorem lj {l:List UInt8} (h:l.length≠20):xD l=(0,3):=by unfold xD;rw [if_pos h]
theorem x9 {l:List UInt8} (h0:l.length=20) (h:l[4]?≠some 45∨l[7]?≠some 45∨l[10]?≠some 84∨l[13]?≠some 58∨l[16]?≠some 58∨l[19]?≠some 90):xD l=(0,3):=by
 unfold xD;rw [if_neg (by omega),if_pos h]
theorem rS {l:List UInt8} (h0:l.length=20) (h:¬(l[4]?≠some 45∨l[7]?≠some 45∨l[10]?≠some 84∨l[13]?≠some 58∨l[16]?≠some 58∨l[19]?≠some 90)) :
 xD l=jt (qP (l.take 4) 0) (qP ((l.drop 5).take 2) 0) (qP ((l.drop 8).take 2) 0) (qP ((l.drop 11).take 2) 0) (qP ((l.drop 14).take 2) 0) (qP ((l.drop 17).take 2) 0):=by
 unfold xD jt jy;rw [if_neg (by omega),if_neg h]
theorem p8 {s:ByteArray} {i:Nat} (h:i<s.size) {c:UInt8} (hc:s[i]≠c):s.data.toList[i]?≠some c:=by
 have hl:i<s.data.toList.length:=by rw [Array.length_toList];exact h
 rw [List.getElem?_eq_getElem hl]
 intro e
 exact hc (Option.some.inj e)
theorem at_eq {s:ByteArray} {i:Nat} (h:i<s.size) {c:UInt8} (hc:s[i]=c):s.data.toList[i]?=some c:=by
 have hl:i<s.data.toList.length:=by rw [Array.length_toList];exact h
 rw [List.getElem?_eq_getElem hl]
 exact congrArg some hc
set_option maxHeartbeats 1000000 in
set_option maxRecDepth 100000 in
theorem uE (s:ByteArray) (w:World) (hT:TabW w):Calls Tryz.prog 56 #[.string s] w fun e w'=>e=.returned (.tuple #[.int .i64 (xD s.data.toList).1,.int .i64 (xD s.data.toList).2])∧Below w.heap.size w w':=by
 have hlen:s.data.toList.length=s.size:=by rw [Array.length_toList];rfl
 by_cases h20:s.size=20
 · have HL:=Lh (
    show s.data.toList.length=20 by omega)
   have i4:4<s.size:=by omega
   have i7:7<s.size:=by omega
   have i10:10<s.size:=by omega
   have i13:13<s.size:=by omega
   have i16:16<s.size:=by omega
   have i19:19<s.size:=by omega
   have h2:((s.size:Int) != 20)=false:=by simp;omega
   clear hlen
   by_cases g4:s[4]=45
   · have G4:=Lh (
      at_eq i4 g4)
     have k4:((s[4].toNat:Int) != 45)=false:=by rw [g4];rfl
     clear g4
     by_cases g7:s[7]=45
     · have G7:=Lh (at_eq i7 g7)
       have k7:((s[7].toNat:Int) != 45)=false:=by rw [g7];rfl
       clear g7
       by_cases g10:s[10]=84
       · have G10:=Lh (at_eq i10 g10)
         have k10:((s[10].toNat:Int) != 84)=false:=by rw [g10];rfl
         clear g10
         by_cases g13:s[13]=58
         · have G13:=Lh (at_eq i13 g13)
           have k13:((s[13].toNat:Int) != 58)=false:=by rw [g13];rfl
           clear g13
           by_cases g16:s[16]=58
           · have G16:=Lh (at_eq i16 g16)
             have k16:((s[16].toNat:Int) != 58)=false:=by rw [g16];rfl
             clear g16
             by_cases g19:s[19]=90
             · have G19:=Lh (at_eq i19 g19)
               have k19:((s[19].toNat:Int) != 90)=false:=by rw [g19];rfl
               clear g19
               have hok:¬(s.data.toList[4]?≠some 45∨s.data.toList[7]?≠some 45∨s.data.toList[10]?≠some 84∨s.data.toList[13]?≠some 58∨s.data.toList[16]?≠some 58∨s.data.toList[19]?≠some 90):=by
                rw [G4.out,G7.out,G10.out,G13.out,G16.out,G19.out];simp
               have hrd:=rS HL.out hok
               clear hok G4 G7 G10 G13 G16 G19
               have HT:=Lh hT
               clear hT
               rw [← show (s.extract 0 4).data.toList=s.data.toList.take 4 from ext_list s 0 4 (by omega),← show (s.extract 5 7).data.toList=(s.data.toList.drop 5).take 2 from ext_list s 5 7 (by omega),← show (s.extract 8 10).data.toList=(s.data.toList.drop 8).take 2 from ext_list s 8 10 (by omega),← show (s.extract 11 13).data.toList=(s.data.toList.drop 11).take 2 from ext_list s 11 13 (by omega),← show (s.extract 14 16).data.toList=(s.data.toList.drop 14).take 2 from ext_list s 14 16 (by omega),← show (s.extract 17 19).data.toList=(s.data.toList.drop 17).take 2 from ext_list s 17 19 (by omega)] at hrd
               have HSZ:=Lh (show ∀a b,b≤a+4→(s.extract a b).size≤4 from fun a b h=>by simp [ByteArray.size_extract];omega)
               have HS2:=Lh (show ∀a b,b≤a+2→(s.extract a b).data.toList.length≤2 from fun a b h=>by rw [Array.length_toList];show (s.extract a b).size≤2;simp [ByteArray.size_extract];omega)
               have HRD:=Lh hrd
               clear hrd
               have i0:4≤s.size:=by omega
               have i5:7≤s.size:=by omega
               have i8:10≤s.size:=by omega
               have i11:13≤s.size:=by omega
               have i14:16≤s.size:=by omega
               have i17:19≤s.size:=by omega
               go_enter Tryz.func56,Tryz.ntmps56
               go_upto_region 5 with fail
               go_quiet ((go_at_call 101;exact Calls.quiet_of_same (ge _ _ (HSZ.out _ _ (by decide)))))
               have b1:=rN (s.extract 0 4).data.toList (by rw [Array.length_toList];exact HSZ.out 0 4 (by decide))
               have b2:=kN (s.extract 5 7).data.toList (HS2.out 5 7 (by decide))
               have b3:=kN (s.extract 8 10).data.toList (HS2.out 8 10 (by decide))
               generalize qP (s.extract 0 4).data.toList 0=y at *
               generalize qP (s.extract 5 7).data.toList 0=m at *
               generalize qP (s.extract 8 10).data.toList 0=d at *
               have HDY:=Lh (gj y m (w.drewN nq) ⟨HT.out.months,HT.out.lt⟩)
               have HX1:=Lh (show ∀hh mm ss,d<1→jt y m d hh mm ss=(0,3) from fun hh mm ss h=>by unfold jt;rw [if_pos (.inl h)])
               have HX2:=Lh (show ∀hh mm ss,jy y m<d→jt y m d hh mm ss=(0,3) from fun hh mm ss h=>by unfold jt;rw [if_pos (.inr h)])
               by_cases hd1:d<1
               · have q1:decide (d<1)=true:=by simpa using hd1
                 have HX:=Lh (HX1.out (qP (s.extract 11 13).data.toList 0) (qP (s.extract 14 16).data.toList 0) (qP (s.extract 17 19).data.toList 0) hd1)
                 clear hd1
                 go_wp2
                 go_ret2
                 exact ⟨by rw [HRD.out,HX.out];rfl,Below.drewN (Below.refl _ _) _⟩
               have q1:decide (d<1)=false:=by simpa using hd1
               go_wp2_with fail
               refine HDY.out.mono ?_
               rintro e w1 ⟨rfl,hb1⟩
               have HB1:=Lh ((Below.drewN (Below.refl w.heap.size w) nq).trans hb1)
               clear hb1
               by_cases hd2:jy y m<d
               · have q2:decide (jy y m<d)=true:=by simpa using hd2
                 have HX:=Lh (HX2.out (qP (s.extract 11 13).data.toList 0) (qP (s.extract 14 16).data.toList 0) (qP (s.extract 17 19).data.toList 0) hd2)
                 clear hd1 hd2
                 go_wp2
                 go_ret2
                 exact ⟨by rw [HRD.out,HX.out];rfl,HB1.out⟩
               have q2:decide (jy y m<d)=false:=by simpa using hd2
               have hr:1970≤y∧y≤9999∧1≤m∧m≤12:=by
                have:¬(y<1970∨9999<y∨m<1∨12<m):=fun h=>by have:=kJ h;omega
                omega
               have hdd:1≤d:=by omega
               have HND:=Lh (show ¬(d<1∨jy y m<d) by omega)
               clear hd1 hd2
               obtain ⟨a,rfl⟩:∃a:Nat,y=a:=⟨y.toNat,by omega⟩
               obtain ⟨b,rfl⟩:∃b:Nat,m=b:=⟨m.toNat,by omega⟩
               have HB:=Lh (And.intro hr hdd)
               have HB3:=Lh b3
               clear HX1 HX2 HDY hr hdd b1 b2 b3
               go_upto_region 8 with fail
               go_quiet ((go_at_call 101;exact Calls.quiet_of_same (ge _ _ (HSZ.out _ _ (by decide)))))
               have b4:=kN (s.extract 11 13).data.toList (HS2.out 11 13 (by decide))
               have b5:=kN (s.extract 14 16).data.toList (HS2.out 14 16 (by decide))
               have b6:=kN (s.extract 17 19).data.toList (HS2.out 17 19 (by decide))
               generalize qP (s.extract 11 13).data.toList 0=hh at *
               generalize qP (s.extract 14 16).data.toList 0=mm at *
               generalize qP (s.extract 17 19).data.toList 0=ss at *
               have HX0:=Lh (show jt a b d hh mm ss=if hh<0∨23<hh∨mm<0∨59<mm∨ss<0∨59<ss then (0,3) else (((qt a:Int)+beforeN (b - 1)+d - 1+(if 2<(b:Int)∧zD a=true then 1 else 0)) * 86400+(hh * 3600+mm * 60+ss),0) by unfold jt;rw [if_neg (by have h:=HND.out;omega)];rfl)
               have HBD:=Lh (And.intro b4 (And.intro b5 b6))
               clear b4 b5 b6
               go_wp2_with fail
               refine (gx hh 23 _).mono ?_
               rintro e w' ⟨rfl,h'⟩
               subst h'
               by_cases c1:0≤hh∧hh≤23
               · rw [show (decide (0≤hh) && decide (hh≤23))=true by simp [c1]]
                 have C1:=Lh c1
                 clear c1
                 go_wp2_with fail
                 refine (gx mm 59 _).mono ?_
                 rintro e w' ⟨rfl,h'⟩
                 subst h'
                 by_cases c2:0≤mm∧mm≤59
                 · rw [show (decide (0≤mm) && decide (mm≤59))=true by simp [c2]]
                   have C2:=Lh c2
                   clear c2
                   go_wp2_with fail
                   refine (gx ss 59 _).mono ?_
                   rintro e w' ⟨rfl,h'⟩
                   subst h'
                   by_cases c3:0≤ss∧ss≤59
                   · rw [show (decide (0≤ss) && decide (ss≤59))=true by simp [c3]]
                     have HX:=Lh (show jt a b d hh mm ss=(((qt a:Int)+beforeN (b - 1)+d - 1+(if 2<(b:Int)∧zD a=true then 1 else 0)) * 86400+(hh * 3600+mm * 60+ss),0) by rw [HX0.out,if_neg (by have:=C1.out;have:=C2.out;omega)])
                     have c1:=C1.out
                     have c2:=C2.out
                     obtain ⟨w5,hw5⟩:∃w5,w5=w1.drewN nq:=⟨_,rfl⟩
                     have HB5:=Lh (show Below w.heap.size w w5 from by rw [hw5];exact Below.drewN HB1.out _)
                     have HW5:=Lh hw5
                     clear hw5
                     have HT1:=Lh (HT.out.below HB5.out)
                     have q1:w5.cell? ⟨1,b - 1,none⟩=some (.int .i64 (beforeN (b - 1))):=HT1.out.months (b - 1) (by have:=HB.out;omega)
                     have hsl:=lq a (by have:=HB.out;omega)
                     have hu:=(pc ⟨b,by have:=HB.out;omega⟩ (by show 1≤b;have:=HB.out;omega))
                     have hu1:(beforeN (b - 1):Int)≤365:=by have h1:=hu.1;have h2:=hu.2;simp only at h1 h2;omega
                     have HST:=Lh (fun w':World=>kT a w' (by have:=HB.out;omega) (by have:=HB.out;omega))
                     have HLP:=Lh (fun w':World=>fT a w' (by have:=HB.out;omega))
                     have hbb:=HB.out
                     have hb3:=HB3.out
                     clear hu HX0
                     have ha1:1970≤a:=by omega
                     have ha2:a≤10000:=by omega
                     go_upto_region 11 with fail
                     rw [← HW5.out]
                     go_quiet ((go_at_call 104;exact Calls.quiet_of_same (kT a _ ha1 ha2)))
                     generalize qt a=sa at *
                     generalize beforeN (b - 1)=bb at *
                     by_cases hm2:2<(b:Int)
                     · have q2:decide (2<(b:Int))=true:=by simpa using hm2
                       have HM2:=Lh hm2
                       clear hm2
                       go_wp2_with fail
                       refine (HLP.out _).mono ?_
                       rintro e w' ⟨rfl,h'⟩
                       subst h'
                       cases hl:zD a
                       · have HX:=Lh (show jt a b d hh mm ss=(((sa:Int)+bb+d - 1) * 86400+(hh * 3600+mm * 60+ss),0) by rw [HX.out,if_neg (by simp [hl])];simp)
                         go_wp2
                         go_ret2
                         exact ⟨by rw [HRD.out,HX.out] <;> rfl,Below.drewN HB5.out _⟩
                       · have HX:=Lh (show jt a b d hh mm ss=(((sa:Int)+bb+d) * 86400+(hh * 3600+mm * 60+ss),0) by rw [HX.out,if_pos ⟨HM2.out,hl⟩,show (sa:Int)+bb+d - 1+1=sa+bb+d by omega])
                         go_wp2
                         go_ret2
                         exact ⟨by rw [HRD.out,HX.out] <;> rfl,Below.drewN HB5.out _⟩
                     · have q2:decide (2<(b:Int))=false:=by simpa using hm2
                       have HX:=Lh (show jt a b d hh mm ss=(((sa:Int)+bb+d - 1) * 86400+(hh * 3600+mm * 60+ss),0) by rw [HX.out,if_neg (by omega)];simp)
                       clear hm2
                       go_wp2
                       go_ret2
                       exact ⟨by rw [HRD.out,HX.out] <;> rfl,Below.drewN HB5.out _⟩
                   · have hf:(decide (0≤ss) && decide (ss≤59))=false:=by
                      rw [Bool.and_eq_false_iff];simp only [decide_eq_false_iff_not];omega
                     rw [hf]
                     have HX:=Lh (show jt a b d hh mm ss=(0,3) by rw [HX0.out,if_pos (by omega)])
                     clear c3 hf
                     go_wp2
                     go_ret2
                     exact ⟨by rw [HRD.out,HX.out];rfl,Below.drewN HB1.out _⟩
                 · have hf:(decide (0≤mm) && decide (mm≤59))=false:=by
                    rw [Bool.and_eq_false_iff];simp only [decide_eq_false_iff_not];omega
                   rw [hf]
                   have HX:=Lh (show jt a b d hh mm ss=(0,3) by rw [HX0.out,if_pos (by omega)])
                   clear c2 hf
                   go_wp2
                   go_ret2
                   exact ⟨by rw [HRD.out,HX.out];rfl,Below.drewN HB1.out _⟩
               · have hf:(decide (0≤hh) && decide (hh≤23))=false:=by
                  rw [Bool.and_eq_false_iff];simp only [decide_eq_false_iff_not];omega
                 rw [hf]
                 have HX:=Lh (show jt a b d hh mm ss=(0,3) by rw [HX0.out,if_pos (by omega)])
                 clear c1 hf
                 go_wp2
                 go_ret2
                 exact ⟨by rw [HRD.out,HX.out];rfl,Below.drewN HB1.out _⟩
             · have HR:=Lh (x9 HL.out (.inr (.inr (.inr (.inr (.inr ((p8 i19 g19))))))))
               have k19:((s[19].toNat:Int) != 90)=true:=by
                have:s[19].toNat≠90:=fun e=>g19 (UInt8.toNat_inj.1 e)
                simp;omega
               clear g19
               go_enter Tryz.func56,Tryz.ntmps56
               go_wp2
               go_ret2
               exact ⟨by rw [HR.out];rfl,Below.refl _ _⟩
           · have HR:=Lh (x9 HL.out (.inr (.inr (.inr (.inr (.inl (p8 i16 g16)))))))
             have k16:((s[16].toNat:Int) != 58)=true:=by
              have:s[16].toNat≠58:=fun e=>g16 (UInt8.toNat_inj.1 e)
              simp;omega
             clear g16
             go_enter Tryz.func56,Tryz.ntmps56
             go_wp2
             go_ret2
             exact ⟨by rw [HR.out];rfl,Below.refl _ _⟩
         · have HR:=Lh (x9 HL.out (.inr (.inr (.inr (.inl (p8 i13 g13))))))
           have k13:((s[13].toNat:Int) != 58)=true:=by
            have:s[13].toNat≠58:=fun e=>g13 (UInt8.toNat_inj.1 e)
            simp;omega
           clear g13
           go_enter Tryz.func56,Tryz.ntmps56
           go_wp2
           go_ret2
           exact ⟨by rw [HR.out];rfl,Below.refl _ _⟩
       · have HR:=Lh (x9 HL.out (.inr (.inr (.inl (p8 i10 g10)))))
         have k10:((s[10].toNat:Int) != 84)=true:=by
          have:s[10].toNat≠84:=fun e=>g10 (UInt8.toNat_inj.1 e)
          simp;omega
         clear g10
         go_enter Tryz.func56,Tryz.ntmps56
         go_wp2
         go_ret2
         exact ⟨by rw [HR.out];rfl,Below.refl _ _⟩
     · have HR:=Lh (x9 HL.out (.inr (.inl (p8 i7 g7))))
       have k7:((s[7].toNat:Int) != 45)=true:=by
        have:s[7].toNat≠45:=fun e=>g7 (UInt8.toNat_inj.1 e)
        simp;omega
       clear g7
       go_enter Tryz.func56,Tryz.ntmps56
       go_wp2
       go_ret2
       exact ⟨by rw [HR.out];rfl,Below.refl _ _⟩
   · have HR:=Lh (x9 HL.out (.inl (p8 i4 g4)))
     have k4:((s[4].toNat:Int) != 45)=true:=by
      have:s[4].toNat≠45:=fun e=>g4 (UInt8.toNat_inj.1 e)
      simp;omega
     clear g4
     go_enter Tryz.func56,Tryz.ntmps56
     go_wp2
     go_ret2
     exact ⟨by rw [HR.out];rfl,Below.refl _ _⟩
 · have HR:=Lh (lj (l:=s.data.toList) (by omega))
   have h2:((s.size:Int) != 20)=true:=by simp;omega
   go_enter Tryz.func56,Tryz.ntmps56
   go_wp2
   go_ret2
   exact ⟨by rw [HR.out];rfl,Below.refl _ _⟩
end Go.Proofs.YtnlgmcapbbgelaaGreatDoor
