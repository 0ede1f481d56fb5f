/- The contracts of package value: which values may be. -/
import Derived.Test.YthgembbgcbaghaaGreatDoorDa10

namespace Go.Proofs.YthgembbgcbaghaaGreatDoor
open Go.RowKit
def qZ (s:ByteArray):Bool:=decide (s.size≤4096) && wX s
def qe:List ByteArray→Bool
 | a :: b :: r=>Op.bytesLess a.toList b.toList && qe (b :: r)
 | _=>true
theorem kz:∀(l:List ByteArray) (k:Nat) (_:1≤k) (h:k<l.length),qe (l.take (k+1))=(qe (l.take k) && Op.bytesLess l[k-1].toList l[k].toList)
 | [],k,_,h=>by simp at h
 | [a],k,h1,h=>by simp at h;omega
 | a :: b :: r,1,_,_=>by simp [qe]
 | a :: b :: r,k+2,_,h=>by
  have:=kz (b :: r) (k+1) (by omega) (by simpa using h)
  simp only [List.take_succ_cons,qe] at this ⊢
  rw [this,Bool.and_assoc];rfl
theorem yy (l:List ByteArray) (k:Nat) (h1:1≤k) (h:k<l.length) (hb:Op.bytesLess l[k-1].toList l[k].toList=false):qe l=false:=by
 have key:∀(m:Nat),k+1≤m→m≤l.length→qe (l.take m)=false:=by
  intro m hm hm'
  induction m with
  | zero=>omega
  | succ m ih =>
   by_cases e:m=k
   · subst e;rw [kz l m h1 h,hb,Bool.and_false]
   · rw [kz l m (by omega) (by omega),ih (by omega) (by omega),Bool.false_and]
 have:=key l.length (by omega) lz
 rwa [List.take_length] at this
set_option maxHeartbeats 400000 in
theorem kJ (s:ByteArray) (w:World) (hs:s.size≤9223372036854775807) :
 Calls Tryz.prog 226 #[.string s] w fun e w'=>e=.returned (.bool (qZ s))∧Below w.heap.size w w':=by
 by_cases h:s.size≤4096
 · have HT:=Lh (show qZ s=wX s by unfold qZ;rw [decide_eq_true h];rfl)
   go_enter Tryz.func226,Tryz.ntmps226
   go_wp2_with (go_at_call 86;refine (gF s _ hs).mono ?_;rintro e w' ⟨rfl,hb⟩;have HB:=Lh hb;clear hb)
   go_ret
   exact ⟨by rw [HT.out];rfl,HB.out⟩
 · have HT:=Lh (show qZ s=false by unfold qZ;rw [decide_eq_false h];rfl)
   go_enter Tryz.func226,Tryz.ntmps226
   go_wp2
   go_ret
   exact ⟨by rw [HT.out];rfl,Below.refl _ _⟩
set_option maxHeartbeats 400000 in
theorem jn (ns:List ByteArray) (an:Option Addr) (cn:Nat) (w:World) (h:qw w 0 w.heap.size an ns) (hn:ns.length≤4294967296) :
 Calls Tryz.prog 104 #[.slice an ns.length cn] w fun e w'=>e=.returned (.bool (qe ns))∧Below w.heap.size w w':=by
 have HS:=Lh h;clear h
 go_enter Tryz.func104,Tryz.ntmps104
 go_wp2
 go_loopw [3] (fun i wr=>∃k:Nat,1≤k∧(k≤ns.length∨k=1)∧i=.int .i64 k∧qe (ns.take k)=true∧Below w.heap.size w wr) (fun i _=>ns.length - (intOf i).toNat)
 case atStart=>exact ⟨1,by omega,.inr rfl,rfl,by cases ns <;> rfl,Below.refl _ _⟩
 case round =>
  obtain ⟨k,hk1,hk2,rfl,hr,hbel⟩:=hrel
  by_cases hlt:k<ns.length
  · obtain ⟨b,off,rfl,_,hb,c1⟩:=(HS.out.below hbel lz lz hbel.size).at k hlt
    obtain ⟨b',off',hbb,_,_,c0⟩:=(HS.out.below hbel lz lz hbel.size).at (k - 1) (by omega)
    obtain ⟨rfl,rfl⟩:b=b'∧off=off':=by simpa using hbb
    have HB:=Lh hbel
    have HR:=Lh hr
    have H2:=Lh (kz ns k hk1 hlt)
    have HX:=Lh (yy ns k hk1 hlt)
    clear hbel hr hbb
    obtain ⟨x,hx⟩:∃x,x=ns[k-1]:=⟨_,rfl⟩
    obtain ⟨y,hy⟩:∃y,y=ns[k]:=⟨_,rfl⟩
    rw [← hx] at c0 H2 HX
    rw [← hy] at c1 H2 HX
    clear hx hy
    have i0:IntKind.i64.wrap ((k:Int) - 1)=(k:Int) - 1:=IntWalk.i64_in _ (by omega)
    have j0:0≤(k:Int) - 1:=by omega
    have j1:1≤(k:Int):=by omega
    have j2:(k:Int) - 1<(ns.length:Int):=by omega
    have j3:(k:Int)<(ns.length:Int):=by omega
    have t0:((k:Int) - 1).toNat=k - 1:=by omega
    cases hlss:Op.bytesLess x.toList y.toList
    · have HF:=Lh (HX.out hlss)
      go_wp2_with fail
      go_quiet (fail)
      go_wp2
      go_ret
      exact ⟨by rw [HF.out];rfl,Below.drewN HB.out _⟩
    · have HL:=Lh hlss
      go_wp2_with fail
      go_quiet (fail)
      go_wp2
      go_roundw
      case rel=>exact ⟨k+1,by omega,by omega,by go_num,by rw [H2.out,HR.out,HL.out];rfl,Below.drewN HB.out _⟩
      case measure=>simp [intOf];omega
  · have HB:=Lh hbel
    have HF:=Lh (show qe ns=true by
     have:ns.take k=ns:=List.take_of_length_le (by omega)
     rwa [this] at hr)
    clear hr hbel
    go_wp2
    go_ret
    exact ⟨by rw [HF.out];rfl,HB.out⟩
def qK (k n:Int) (t:ByteArray) (ns:List ByteArray) (li:Nat):Bool :=
 if k=1 then decide (t.toList=[]∧ns.length=0∧li=0∧(n=0∨n=1))
 else if k=2 then decide (t.toList=[]∧ns.length=0∧li=0)
 else if k=3 then decide (n=0∧ns.length=0∧li=0) && qZ t
 else if k=4 then decide (n=0∧t.toList=[]∧ns.length=0)
 else if k=5 then decide (n=0∧t.toList=[]∧ns.length=li) && qe ns && ns.all qZ
 else false
theorem f9 (l:List UInt8):l.isEmpty=decide (l=[]):=by cases l <;> simp
set_option maxHeartbeats 1000000 in
theorem hQ (k n:Int) (t:ByteArray) (ns:List ByteArray) (an ai:Option Addr) (cn ln li ci:Nat) (w:World) (h:qw w 0 w.heap.size an ns) (hln:ns.length=ln) (ht:t.size≤4294967296) (hn:ln≤4294967296) (hb:qd ns≤4294967296) (hli:li≤4294967296) :
 Calls Tryz.prog 175 #[.agg #[.int .u8 k,.int .i64 n,.string t,.slice an ln cn,.slice ai li ci]] w fun e w'=>e=.returned (.bool (qK k n t ns li))∧Below w.heap.size w w':=by
 have HS:=Lh h;clear h
 have HL:=Lh hln;clear hln
 by_cases hk1:k=1
 · subst hk1
   have HP:=Lh (show qK 1 n t ns li=decide (t.toList=[]∧ln=0∧li=0∧(n=0∨n=1)) by rw [← HL.out];rfl)
   go_enter Tryz.func175,Tryz.ntmps175
   go_wp2
   all_goals go_ret
   all_goals refine ⟨qz ?_,(Below.refl _ _).alloc lz _⟩
   all_goals rw [HP.out]
   all_goals (first|(simp_all;done)|(rw [Bool.eq_iff_iff];simp_all;done)|(simp_all;omega))
 by_cases hk2:k=2
 · subst hk2
   have HP:=Lh (show qK 2 n t ns li=decide (t.toList=[]∧ln=0∧li=0) by rw [← HL.out];rfl)
   clear hk1
   go_enter Tryz.func175,Tryz.ntmps175
   go_wp2
   all_goals go_ret
   all_goals refine ⟨qz ?_,(Below.refl _ _).alloc lz _⟩
   all_goals rw [HP.out]
   all_goals (first|(simp_all;done)|(rw [Bool.eq_iff_iff];simp_all;done)|(simp_all;omega))
 by_cases hk4:k=4
 · subst hk4
   have HP:=Lh (show qK 4 n t ns li=decide (n=0∧t.toList=[]∧ln=0) by rw [← HL.out];rfl)
   clear hk1 hk2
   go_enter Tryz.func175,Tryz.ntmps175
   go_wp2
   all_goals go_ret
   all_goals refine ⟨qz ?_,(Below.refl _ _).alloc lz _⟩
   all_goals rw [HP.out]
   all_goals (first|(simp_all;done)|(rw [Bool.eq_iff_iff];simp_all;done)|(simp_all;omega))
 by_cases hk3:k=3
 · subst hk3
   have HP:=Lh (show qK 3 n t ns li=(decide (n=0∧ln=0∧li=0) && qZ t) by rw [← HL.out];rfl)
   clear hk1 hk2 hk4
   by_cases hg:n=0∧ln=0∧li=0
   · obtain ⟨rfl,rfl,rfl⟩:=hg
     have HQ:=Lh (show qK 3 0 t ns 0=qZ t by rw [HP.out];simp)
     go_enter Tryz.func175,Tryz.ntmps175
     go_wp2_with (go_at_call 226;refine (kJ t _ (by omega)).mono ?_;rintro e w' ⟨rfl,hb'⟩;have HB:=Lh hb';clear hb')
     go_ret
     exact ⟨by rw [HQ.out];rfl,(((Below.refl _ _).alloc lz _)).trans (HB.out.mono (by simp))⟩
   · have HQ:=Lh (show qK 3 n t ns li=false by rw [HP.out,decide_eq_false hg];rfl)
     have h0:n=0→ln=0→0<li:=fun a b=>by rcases Nat.eq_zero_or_pos li with c|c;exact absurd ⟨a,b,c⟩ hg;exact c
     clear hg HP
     by_cases a1:n=0
     · subst a1
       by_cases a2:ln=0
       · subst a2
         have a3:=h0 rfl rfl
         clear h0
         go_enter Tryz.func175,Tryz.ntmps175
         go_wp2
         go_ret
         exact ⟨by rw [HQ.out];rfl,(Below.refl _ _).alloc lz _⟩
       · have a3:0<ln:=by omega
         clear h0 a2
         go_enter Tryz.func175,Tryz.ntmps175
         go_wp2
         go_ret
         exact ⟨by rw [HQ.out];rfl,(Below.refl _ _).alloc lz _⟩
     · clear h0
       go_enter Tryz.func175,Tryz.ntmps175
       go_wp2
       go_ret
       exact ⟨by rw [HQ.out];rfl,(Below.refl _ _).alloc lz _⟩
 by_cases hk5:k=5
 · subst hk5
   have HP:=Lh (show qK 5 n t ns li=(decide (n=0∧t.toList=[]∧ln=li) && qe ns && ns.all qZ) by rw [← HL.out];rfl)
   clear hk1 hk2 hk4 hk3
   by_cases hg:n=0∧t.toList=[]∧ln=li
   · obtain ⟨rfl,te,rfl⟩:=hg
     have HQ:=Lh (show qK 5 0 t ns ln=(qe ns && ns.all qZ) by rw [HP.out];simp [te])
     clear HP
     cases hr:qe ns
     · have HR:=Lh (show qK 5 0 t ns ln=false by rw [HQ.out,hr];rfl)
       have HRR:=Lh hr;clear hr
       go_enter Tryz.func175,Tryz.ntmps175
       go_wp2_with fail
       have hsw:=jn ns an cn _ (HS.out.below ((Below.refl _ _).alloc lz (.cells #[.int .u8 5,.int .i64 0,.string t,.slice an ln cn,.slice ai ln ci] 25)) lz lz (by simp)) (by rw [HL.out];exact hn)
       rw [HL.out,HRR.out] at hsw
       refine hsw.mono ?_
       rintro e w1 ⟨rfl,hb1⟩
       clear hsw
       have HB:Hid (Below w.heap.size w w1):=((Below.refl _ _).alloc lz _).trans (hb1.mono (by simp))
       clear hb1
       go_wp2
       go_ret
       exact ⟨qz HR.out.symm,HB.out⟩
     · have HR:=Lh (show qK 5 0 t ns ln=ns.all qZ by rw [HQ.out,hr];rfl)
       have HRR:=Lh hr;clear hr
       go_enter Tryz.func175,Tryz.ntmps175
       go_wp2_with fail
       have hsw:=jn ns an cn _ (HS.out.below ((Below.refl _ _).alloc lz (.cells #[.int .u8 5,.int .i64 0,.string t,.slice an ln cn,.slice ai ln ci] 25)) lz lz (by simp)) (by rw [HL.out];exact hn)
       rw [HL.out,HRR.out] at hsw
       refine hsw.mono ?_
       rintro e w1 ⟨rfl,hb1⟩
       clear hsw
       have HB:Hid (Below w.heap.size w w1):=((Below.refl _ _).alloc lz _).trans (hb1.mono (by simp))
       have c3:w1.cell? ⟨w.heap.size,3,none⟩=some (.slice an ln cn):=by rw [hb1.cell (by simp)];go_simp
       clear hb1
       go_wp2
       clear c3
       go_loopw [4,91] (fun _ i wr=>∃j:Nat,j≤ln∧i=.int .i64 j∧(ns.take j).all qZ=true∧Below w.heap.size w wr) (fun _ i _=>ln - (intOf i).toNat)
       case atStart=>exact ⟨0,by omega,rfl,by simp,HB.out⟩
       case round =>
        obtain ⟨j,hj,rfl,ha,hbel⟩:=hrel
        by_cases hlt:j<ln
        · obtain ⟨b,off,rfl,_,hb2,c0⟩:=(HS.out.below hbel lz lz hbel.size).at j (by rw [HL.out];exact hlt)
          have hsz:=ki ns j (by rw [HL.out];exact hlt)
          have HA:=Lh (show (ns.take (j+1)).all qZ=((ns.take j).all qZ && qZ (ns[j]'(by rw [HL.out];exact hlt))) by
           rw [List.take_succ_eq_append_getElem (by rw [HL.out];exact hlt),List.all_append];simp)
          have HN:=Lh (show qZ (ns[j]'(by rw [HL.out];exact hlt))=false→ns.all qZ=false by
           intro hf;rw [List.all_eq_false];exact ⟨ns[j]'(by rw [HL.out];exact hlt),List.getElem_mem _,by simp [hf]⟩)
          generalize ns[j]'(by rw [HL.out];exact hlt)=x at c0 hsz HA HN
          have HA1:=Lh ha
          have HB2:=Lh hbel
          clear ha hbel
          cases hx:qZ x
          · have HF:=Lh (HN.out hx)
            go_wp2_with (go_at_call 226;refine (kJ x _ (by omega)).mono ?_;rintro e w' ⟨rfl,hb'⟩;have HB':=Lh hb';clear hb')
            go_ret
            exact ⟨qz (by rw [HR.out,HF.out]),HB2.out.trans (HB'.out.mono HB2.out.size)⟩
          · have HX:=Lh hx
            go_wp2_with (go_at_call 226;refine (kJ x _ (by omega)).mono ?_;rintro e w' ⟨rfl,hb'⟩;have HB':=Lh hb';clear hb')
            go_roundw
            case rel=>exact ⟨j+1,by omega,by go_num,by rw [HA.out,HA1.out,HX.out];rfl,HB2.out.trans (HB'.out.mono HB2.out.size)⟩
            case measure=>simp [intOf];omega
        · have HF:=Lh (show ns.all qZ=true by
           rwa [List.take_of_length_le (by rw [HL.out];omega)] at ha)
          have HB2:=Lh hbel
          clear ha hbel
          go_wp2
          go_ret
          exact ⟨qz (by rw [HR.out,HF.out]),HB2.out⟩
   · have HQ:=Lh (show qK 5 n t ns li=false by rw [HP.out,decide_eq_false hg];rfl)
     clear HP
     by_cases a1:n=0
     · subst a1
       by_cases a2:t.toList=[]
       · have a5:¬(ln:Int)=(li:Int):=fun e=>hg ⟨rfl,a2,by omega⟩
         clear hg
         go_enter Tryz.func175,Tryz.ntmps175
         go_wp2_with fail
         all_goals first|(exfalso;omega)|(go_ret;exact ⟨qz (by rw [HQ.out]),(Below.refl _ _).alloc lz _⟩)
       · have a3:t.toList.isEmpty=false:=by rw [f9];simp [a2]
         clear hg
         go_enter Tryz.func175,Tryz.ntmps175
         go_wp2
         go_ret
         exact ⟨qz (by rw [HQ.out]),(Below.refl _ _).alloc lz _⟩
     · clear hg
       go_enter Tryz.func175,Tryz.ntmps175
       go_wp2
       go_ret
       exact ⟨qz (by rw [HQ.out]),(Below.refl _ _).alloc lz _⟩
 · have HP:=Lh (show qK k n t ns li=false by unfold qK;rw [if_neg hk1,if_neg hk2,if_neg hk3,if_neg hk4,if_neg hk5])
   have e1:(k == 1)=false:=by simp [hk1]
   have e2:(k == 2)=false:=by simp [hk2]
   have e3:(k == 3)=false:=by simp [hk3]
   have e4:(k == 4)=false:=by simp [hk4]
   have e5:(k == 5)=false:=by simp [hk5]
   go_enter Tryz.func175,Tryz.ntmps175
   go_wp2
   all_goals go_ret
   all_goals exact ⟨qz HP.out.symm,(Below.refl _ _).alloc lz _⟩
end Go.Proofs.YthgembbgcbaghaaGreatDoor
