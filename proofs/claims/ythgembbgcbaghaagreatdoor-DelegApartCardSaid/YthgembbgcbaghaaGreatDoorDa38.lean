/- Delegations that may be are such as a statement goes over. -/
import Derived.Test.YthgembbgcbaghaaGreatDoorDa37
import Derived.Test.YthgembbgcbaghaaGreatDoorDa33

namespace Go.Proofs.YthgembbgcbaghaaGreatDoor
open Go.RowKit Go.Shelf Go.Sort
theorem sI (a b:ByteArray):Op.bytesLess a.toList b.toList = !(Op.bytesLess b.toList a.toList || (b.toList == a.toList)):=by
 cases h1:Op.bytesLess b.toList a.toList with
 | true =>
  have:Op.bytesLess a.toList b.toList=false:=hY (a:=b) (b:=a) h1
  rw [this];rfl
 | false =>
  cases h2:Op.bytesLess a.toList b.toList with
  | true =>
   have:(b.toList == a.toList)=false:=by
    rw [beq_eq_false_iff_ne]
    intro e
    rw [e] at h2
    have:=zc a
    unfold bl at this
    rw [h2] at this;cases this
   rw [this];rfl
  | false =>
   have:b.toList=a.toList:=gH _ _ h1 h2
   rw [this];simp
theorem sO {k:Key2} (h:ok2 k=true):Op.bytesLess (⟨#[]⟩:ByteArray).toList (id2 k).toList=true:=by
 have h1:(id2 k).toList=jX k.1.data.toList k.2.data.toList:=by rw [ByteArray.toList_eq];rfl
 rw [h1,ByteArray.toList_eq]
 have h2:(jX k.1.data.toList k.2.data.toList).length=64:=by
  unfold jX
  rw [if_pos (by unfold ok2 at h;exact h),vH]
 cases hq:jX k.1.data.toList k.2.data.toList with
 | nil=>rw [hq] at h2;simp at h2
 | cons a r=>rfl
theorem fV {l:List Key2} (h:¬l.length≤32):zj l=false:=by unfold zj;rw [decide_eq_false h];rfl
theorem uE {l:List Key2} {k:Nat} (h:k<l.length) (hb:ok2 l[k]=false):zj l=false:=by
 unfold zj
 rw [show l.all ok2=false from List.all_eq_false.2 ⟨l[k],List.getElem_mem _,by simp [hb]⟩,Bool.and_false,Bool.false_and]
theorem fW {l:List Key2} {k:Nat} (h1:1≤k) (h:k<l.length) (hb:Op.bytesLess (id2 l[k-1]).toList (id2 l[k]).toList=false):zj l=false:=by
 unfold zj
 have hl:(ids l).length=l.length:=List.length_map ..
 rw [yy (ids l) k h1 (by omega) (by simpa [ids] using hb),Bool.and_false]
set_option maxHeartbeats 1000000 in
set_option maxRecDepth 100000 in
theorem fY (l:List Key2) (a:Option Addr) (c:Nat) (w:World) (hK:zP w 0 w.heap.size a l) (hl:l.length≤4294967296) (hs:∀k ∈ l,k.1.size≤300∧k.2.size≤300) (hT:Tabs w) :
 Calls Tryz.prog 82 #[.slice a l.length c] w fun e w'=>e=.returned (.bool (zj l))∧Below w.heap.size w w':=by
 have HK:=Lh hK
 have HT:=Lh hT
 have HS:=Lh hs
 clear hK hT hs
 obtain ⟨nn,hnn⟩:∃nn,nn=l.length:=⟨_,rfl⟩
 have HNN:=Lh hnn
 rw [← hnn] at hl ⊢
 by_cases h32:nn≤32
 case neg =>
  have HV:=Lh (fV (l:=l) (by omega))
  have d1:decide (32<(nn:Int))=true:=by simp;omega
  clear hnn
  go_enter Tryz.func82,Tryz.ntmps82
  go_wp2
  go_ret
  exact ⟨qz HV.out.symm,Below.refl _ _⟩
 have d1:decide (32<(nn:Int))=false:=by simp;omega
 clear hnn
 go_enter Tryz.func82,Tryz.ntmps82
 go_wp2
 go_loopw [3,5,6,7,13] (fun ls _ _ _ i wr=>∃(k:Nat) (s:ByteArray),k≤nn∧i=.int .i64 k∧ls=.string s∧(∀j (h:j<l.length),j<k→ok2 l[j]=true)∧qe ((ids l).take k)=true∧(k=0→s=⟨#[]⟩)∧(∀h:k - 1<l.length,1≤k→s=id2 l[k-1])∧Below w.heap.size w wr) (fun _ _ _ _ i _=>nn - (intOf i).toNat)
 case atStart=>exact ⟨0,⟨#[]⟩,by omega,rfl,rfl,fun j _ h=>by omega,rfl,fun _=>rfl,fun _ h=>by omega,Below.refl _ _⟩
 case round =>
  obtain ⟨k,s,hk,rfl,rfl,hal,hri,hs0,hs1,hbel⟩:=hrel
  have HAL:=Lh hal
  have HRI:=Lh hri
  have HS0:=Lh hs0
  have HS1:=Lh hs1
  have HB:=Lh hbel
  clear hal hri hs0 hs1 hbel
  have hll:(ids l).length=l.length:=List.length_map ..
  have HLL:=Lh hll
  clear hll
  by_cases hlt:k<nn
  · have hlt':k<l.length:=by rw [← HNN.out];exact hlt
    obtain ⟨b,off,ha,_,hb,e0,e1⟩:=(HK.out.below HB.out lz lz HB.out.size).at k hlt'
    subst ha
    have hsz:=HS.out l[k] (List.getElem_mem hlt')
    have HBAD:=Lh (uE (l:=l) hlt')
    have HFALL:=Lh (fun h1=>fW (l:=l) (k:=k) h1 hlt')
    have HPOS:=Lh (@sO l[k])
    have HNX:=Lh (show ok2 l[k]=true→(k=0∨Op.bytesLess s.toList (id2 l[k]).toList=true)→(∀j (h:j<l.length),j<k+1→ok2 l[j]=true)∧qe ((ids l).take (k+1))=true∧(∀h:k+1 - 1<l.length,1≤k+1→id2 l[k]=id2 l[k+1-1]) from fun ho hle=>by
     refine ⟨fun j hj hjk=>?_,?_,fun _ _=>rfl⟩
     · rcases Nat.lt_succ_iff_lt_or_eq.1 hjk with h1|h1
       · exact HAL.out j hj h1
       · subst h1;exact ho
     · rcases Nat.eq_zero_or_pos k with h0|h0
       · subst h0
         have hl0:(ids l).length=l.length:=HLL.out
         cases hq:ids l with
         | nil=>rfl
         | cons x r=>rfl
       · rw [kz (ids l) k h0 (by have:=HLL.out;omega),HRI.out,Bool.true_and]
         have h3:=hle.resolve_left (by omega)
         rw [HS1.out (by omega) h0] at h3
         simpa [ids] using h3)
    have HFL:=Lh (show 1≤k→Op.bytesLess s.toList (id2 l[k]).toList=false→zj l=false from fun h1 h2=>HFALL.out h1 (by rw [← HS1.out (by omega) h1];exact h2))
    have HZ:=Lh (show ok2 l[k]=true→k=0→Op.bytesLess s.toList (id2 l[k]).toList=true from fun h1 h2=>by rw [HS0.out h2];exact HPOS.out h1)
    obtain ⟨x,hx⟩:∃x:Key2,x=l[k]:=⟨_,rfl⟩
    have HXE:=Lh (show id2 x=id2 l[k] by rw [hx])
    replace e0:=e0.trans (congrArg (fun z:Key2=>some (Value.string z.1)) hx.symm)
    replace e1:=e1.trans (congrArg (fun z:Key2=>some (Value.string z.2)) hx.symm)
    rw [← hx] at hsz HBAD HNX HFL HZ
    clear hx HFALL HPOS HAL HS0 HS1 HRI
    obtain ⟨xs,xp⟩:=x
    replace e0:wr.cell? ⟨b,off+k * 2,none⟩=some (.string xs):=e0
    replace e1:wr.cell? ⟨b,off+k * 2+1,none⟩=some (.string xp):=e1
    have hs1:xs.size≤300:=hsz.1
    have hs2:xp.size≤300:=hsz.2
    obtain ⟨WX,hWX⟩:∃WX,WX=wr.alloc (.cells #[.string xs,.string xp] 43):=⟨_,rfl⟩
    have hbX:Below wr.heap.size wr WX:=by rw [hWX];exact (Below.refl _ _).alloc lz _
    have hxX:WX.heap[wr.heap.size]?=some (.cells #[.string xs,.string xp] 43 (0,0)):=by rw [hWX];exact heap_alloc_new wr _
    have HBX:=Lh (HB.out.trans (hbX.mono HB.out.size))
    have HID:=Lh (cT xs xp WX (by omega) (by omega) (HT.out.below HBX.out))
    unfold jf at HID
    have HWX:=Lh hWX
    have z0:WX.cell? ⟨wr.heap.size,0,none⟩=some (.string xs):=qq hxX rfl
    have z1:WX.cell? ⟨wr.heap.size,1,none⟩=some (.string xp):=qq hxX rfl
    obtain ⟨ID,hID⟩:∃ID:ByteArray,ID=⟨(jX xs.data.toList xp.data.toList).toArray⟩:=⟨_,rfl⟩
    rw [← hID] at HID
    have e2:id2 (xs,xp)=ID:=hID.symm
    have HIX:=Lh (show ID=id2 l[k] from e2.symm.trans HXE.out)
    rw [e2] at HNX HFL HZ
    have HOK:=Lh (show ok2 (xs,xp)=ze xs.data.toList xp.data.toList from rfl)
    obtain ⟨ok,hok⟩:∃ok,ok=ze xs.data.toList xp.data.toList:=⟨_,rfl⟩
    rw [← hok] at HOK HID
    rw [HOK.out] at HBAD HNX HZ
    clear hbX hxX hWX hsz hID e2 hok HOK
    go_upto_region 7 with fail
    rw [← HWX.out]
    clear e0 e1
    go_wp2_with fail
    refine HID.out.mono ?_
    clear HID z0 z1
    rintro r w3 ⟨rfl,hb3⟩
    have HB3:=Lh (HBX.out.trans (hb3.mono HBX.out.size))
    clear hb3
    cases ok with
    | false =>
     have HV:=Lh (HBAD.out rfl)
     go_wp2
     go_ret
     exact ⟨qz HV.out.symm,HB3.out⟩
    | true =>
     have HLE:=Lh (sI s ID)
     cases lt:Op.bytesLess ID.toList s.toList with
     | true =>
      rw [lt,Bool.true_or] at HLE
      have HV:=Lh (show zj l=false from by
       rcases Nat.eq_zero_or_pos k with h0|h0
       · have:=HZ.out rfl h0;rw [HLE.out] at this;cases this
       · exact HFL.out h0 (by rw [HLE.out];rfl))
      go_wp2
      go_ret
      exact ⟨qz HV.out.symm,HB3.out⟩
     | false =>
      cases eqq:(ID.toList == s.toList) with
      | true =>
       rw [lt,eqq] at HLE
       have HV:=Lh (show zj l=false from by
        rcases Nat.eq_zero_or_pos k with h0|h0
        · have:=HZ.out rfl h0;rw [HLE.out] at this;cases this
        · exact HFL.out h0 (by rw [HLE.out];rfl))
       go_wp2
       go_ret
       exact ⟨qz HV.out.symm,HB3.out⟩
      | false =>
       rw [lt,eqq] at HLE
       have HN:=Lh (HNX.out rfl (.inr HLE.out))
       go_wp2
       go_roundw
       case rel =>
        exact ⟨k+1,ID,by omega,by go_num,rfl,HN.out.1,HN.out.2.1,fun h=>by omega,fun _ _=>HIX.out,HB3.out⟩
       case measure=>simp [intOf];omega
  · obtain rfl:k=nn:=by omega
    have HV:=Lh (show zj l=true from by
     refine qA.2 ⟨by rw [← HNN.out];exact h32,fun x hx=>?_,?_⟩
     · obtain ⟨j,hj,rfl⟩:=List.getElem_of_mem hx
       exact HAL.out j hj (by rw [HNN.out];exact hj)
     · have:=HRI.out
       rwa [List.take_of_length_le (by rw [HLL.out,HNN.out];exact Nat.le_refl _)] at this)
    go_wp2
    go_ret
    exact ⟨qz HV.out.symm,HB.out⟩
theorem wv {d:DelegsV} (h:zY d=true):(qg d).wt≤4294967296:=by
 rw [zB,Bool.and_eq_true] at h
 obtain ⟨hk,h⟩:=h
 have h1:=wW (m:=d.keys) (fun k hk'=>by have:=wY ((qA.1 hk).2.1 k hk');omega)
 have h2:=(qA.1 hk).1
 rw [show qg d=jz (qF d) from rfl,mN]
 unfold qF
 split
 · rename_i hb
   rw [if_pos hb] at h
   unfold zq at h
   simp only [Bool.and_eq_true,decide_eq_true_eq] at h
   have h3:=kC d.roles fun x hx=>List.all_eq_true.1 h.1.2 x hx
   show 1+qd [keysN,z7] + ((qT d.keys).wt+((zu (d.roles.map qb)).wt+0))≤_
   have e1:qd [keysN,z7]≤100:=by decide
   rw [yK]
   have:=h.1.1
   omega
 · rename_i hb
   rw [if_neg hb,Bool.and_eq_true] at h
   have h3:=bF h.2
   show 1+qd [keysN,zA] + ((qT d.keys).wt+((zV d.bins).wt+0))≤_
   have e1:qd [keysN,zA]≤100:=by decide
   omega
set_option maxHeartbeats 4000000 in
set_option maxRecDepth 100000 in
theorem vf (l:List Key2) (rs:List DelegV) (t bits:Int) (ids:List ByteArray) (pre:ByteArray) (ka ra ba:Option Addr) (kc rc bc:Nat) (w:World) (hI:DelegsIn w 0 w.heap.size ⟨l,rs,⟨bits,pre,⟨t,ids⟩⟩⟩ ka ra ba) (hf:DelegsFits ⟨l,rs,⟨bits,pre,⟨t,ids⟩⟩⟩) (hrc:rs.length≤rc) (hT:Tabs w) :
 Calls Tryz.prog 33 #[.agg #[.slice ka l.length kc,.slice ra rs.length rc,.int .i64 t,.slice ba ids.length bc,.int .i64 bits,.string pre]] w fun e w'=>e=.returned (.bool (qG ⟨l,rs,⟨bits,pre,⟨t,ids⟩⟩⟩))∧Below w.heap.size w w':=by
 obtain ⟨W,hW⟩:∃W,W=w.alloc (.cells #[.slice ka l.length kc,.slice ra rs.length rc,.int .i64 t,.slice ba ids.length bc,.int .i64 bits,.string pre] 35):=⟨_,rfl⟩
 have hb:Below w.heap.size w W:=by rw [hW];exact (Below.refl _ _).alloc lz _
 have hx:W.heap[w.heap.size]?=some (.cells #[.slice ka l.length kc,.slice ra rs.length rc,.int .i64 t,.slice ba ids.length bc,.int .i64 bits,.string pre] 35 (0,0)):=by rw [hW];exact heap_alloc_new w _
 have HC:=Lh (show ∀w':World,Below W.heap.size W w'→w'.cell? ⟨w.heap.size,0,none⟩=some (.slice ka l.length kc)∧w'.cell? ⟨w.heap.size,1,none⟩=some (.slice ra rs.length rc)∧w'.cell? ⟨w.heap.size,2,none⟩=some (.int .i64 t)∧w'.cell? ⟨w.heap.size,3,none⟩=some (.slice ba ids.length bc)∧w'.cell? ⟨w.heap.size,4,none⟩=some (.int .i64 bits)∧w'.cell? ⟨w.heap.size,5,none⟩=some (.string pre) from fun w' h=>by
  have y:=(h.block _ (qx hx)).trans hx
  exact ⟨qq y rfl,qq y rfl,qq y rfl,qq y rfl,qq y rfl,qq y rfl⟩)
 have HI:=Lh (show ∀w':World,Below W.heap.size W w'→DelegsIn w' 0 w'.heap.size ⟨l,rs,⟨bits,pre,⟨t,ids⟩⟩⟩ ka ra ba∧Tabs w' from fun w' h=>⟨hI.below (hb.trans (h.mono hb.size)) lz lz (Nat.le_trans hb.size h.size),hT.below (hb.trans (h.mono hb.size))⟩)
 have f1:l.length≤40:=hf.len
 have f2:rs.length≤70:=hf.many
 have f3:pre.size≤300:=hf.pre
 have HF:=Lh hf
 have HB:=Lh hb
 have HRC:=Lh hrc
 have HV:=Lh ((q9 ⟨l,rs,⟨bits,pre,⟨t,ids⟩⟩⟩).trans (zB ⟨l,rs,⟨bits,pre,⟨t,ids⟩⟩⟩))
 dsimp only at HV
 have HMP:=Lh (show zj l=true→(if zg ⟨bits,pre,⟨t,ids⟩⟩ then zq rs else rs.isEmpty && qI ⟨bits,pre,⟨t,ids⟩⟩)=true→zY ⟨l,rs,⟨bits,pre,⟨t,ids⟩⟩⟩=true from fun h1 h2=>by rw [zB];dsimp only;rw [h1,h2];rfl)
 have HKM:=Lh (fY l ka kc W (HI.out W (Below.refl _ _)).1.keys (by omega) HF.out.keys (HI.out W (Below.refl _ _)).2)
 have HNO:=Lh (fun w'=>jT t bits ids pre ba bc w')
 have HRM:=Lh (show ∀w':World,Below W.heap.size W w'→_ from fun w' h=>pz rs ra rc w' (HI.out w' h).1.roles (by omega) HRC.out HF.out.roles)
 have HBM:=Lh (show ∀w':World,Below W.heap.size W w'→_ from fun w' h=>wA t bits ids pre ba bc w' (HI.out w' h).1.bids (by omega) HF.out.bits HF.out.au)
 have HOB:=Lh (show zY ⟨l,rs,⟨bits,pre,⟨t,ids⟩⟩⟩=true→∀w':World,Below W.heap.size W w'→_ from fun hm w' h=>(y8 l rs t bits ids pre ka ra ba kc rc bc w' (HI.out w' h).1 hm (HI.out w' h).2).mono fun e w2 h=>bH h rfl rfl rfl)
 have HVM:=Lh (show zY ⟨l,rs,⟨bits,pre,⟨t,ids⟩⟩⟩=true→(qg ⟨l,rs,⟨bits,pre,⟨t,ids⟩⟩⟩).mayB=true∧(qg ⟨l,rs,⟨bits,pre,⟨t,ids⟩⟩⟩).wt≤4294967296 from fun hm=>⟨bf hm,wv hm⟩)
 unfold vm at HOB
 have HWH:=Lh hW
 obtain ⟨V,hV⟩:∃V,V=qG ⟨l,rs,⟨bits,pre,⟨t,ids⟩⟩⟩:=⟨_,rfl⟩
 rw [← hV] at HV ⊢
 obtain ⟨km,hkm⟩:∃km,km=zj l:=⟨_,rfl⟩
 rw [← hkm] at HV HMP HKM
 obtain ⟨nb,hnb⟩:∃nb,nb=zg ⟨bits,pre,⟨t,ids⟩⟩:=⟨_,rfl⟩
 rw [← hnb] at HV HMP HNO
 obtain ⟨rm,hrm⟩:∃rm,rm=zq rs:=⟨_,rfl⟩
 rw [← hrm] at HV HMP HRM
 obtain ⟨bm,hbm⟩:∃bm,bm=qI ⟨bits,pre,⟨t,ids⟩⟩:=⟨_,rfl⟩
 rw [← hbm] at HV HMP HBM
 obtain ⟨J,hJ⟩:∃J,J=qg ⟨l,rs,⟨bits,pre,⟨t,ids⟩⟩⟩:=⟨_,rfl⟩
 rw [← hJ] at HOB HVM
 obtain ⟨q0,q1,q2,q3,q4,q5⟩:=HC.out W (Below.refl _ _)
 clear hb hx hW hI hf hrc hT f1 f2 f3 hV hkm hnb hrm hbm hJ
 go_enter Tryz.func33,Tryz.ntmps33
 go_upto_region 1 with fail
 rw [← HWH.out]
 clear HWH
 go_wp2_with fail
 refine HKM.out.mono ?_
 clear HKM q0 q1 q2 q3 q4 q5
 rintro e w1 ⟨rfl,hb1⟩
 have HB1:=Lh hb1
 obtain ⟨q0,q1,q2,q3,q4,q5⟩:=HC.out w1 hb1
 clear hb1
 cases km with
 | false =>
  rw [Bool.false_and] at HV
  go_wp2
  go_ret
  exact ⟨qz HV.out.symm,HB.out.trans (HB1.out.mono HB.out.size)⟩
 | true =>
  rw [Bool.true_and] at HV
  go_wp2_with fail
  refine (HNO.out _).mono ?_
  clear HNO q0 q1 q2 q3 q4 q5
  rintro e w2 ⟨rfl,hb2⟩
  have HB2:=Lh (HB1.out.trans (hb2.mono HB1.out.size))
  obtain ⟨q0,q1,q2,q3,q4,q5⟩:=HC.out w2 HB2.out
  clear hb2
  cases nb with
  | true =>
   rw [if_pos rfl] at HV HMP
   go_wp2_with fail
   refine (HRM.out w2 HB2.out).mono ?_
   clear HRM q0 q1 q2 q3 q4 q5
   rintro e w3 ⟨rfl,hb3⟩
   have HB3:=Lh (HB2.out.trans (hb3.mono HB2.out.size))
   obtain ⟨q0,q1,q2,q3,q4,q5⟩:=HC.out w3 HB3.out
   clear hb3
   cases rm with
   | false =>
    go_wp2
    go_ret
    exact ⟨qz HV.out.symm,HB.out.trans (HB3.out.mono HB.out.size)⟩
   | true =>
    have HMM:=Lh (HMP.out (by first|exact rfl|exact trivial) (by first|exact rfl|exact trivial))
    go_wp2_with fail
    refine (HOB.out HMM.out w3 HB3.out).mono ?_
    clear HOB q0 q1 q2 q3 q4 q5
    rintro e w4 ⟨an,cn,ai,ci,rfl,hr4,hb4⟩
    have HVA:=Lh (kj J _ w4 (HVM.out HMM.out).2 (Rep.carry (Nat.zero_le _) lz (fun _ _ _=>rfl) _ _ hr4))
    rw [(HVM.out HMM.out).1] at HVA
    have HB4:=Lh (HB3.out.trans (hb4.mono HB3.out.size))
    clear hr4 hb4
    go_wp2_with fail
    refine HVA.out.mono ?_
    rintro e w5 ⟨rfl,hb5⟩
    have HB5:=Lh (HB.out.trans ((HB4.out.trans (hb5.mono HB4.out.size)).mono HB.out.size))
    clear hb5
    go_wp2
    go_ret
    exact ⟨qz HV.out.symm,HB5.out⟩
  | false =>
   rw [if_neg (by decide)] at HV HMP
   by_cases hr0:rs=[]
   · have n1:decide ((0:Int)<(rs.length:Int))=false:=by subst hr0;rfl
     have n2:((0:Int)<(rs.length:Int))=False:=by subst hr0;simp
     have n3:decide (0<rs.length)=false:=by subst hr0;rfl
     have n4:¬0<rs.length:=by subst hr0;simp
     rw [show rs.isEmpty=true from by subst hr0;rfl,Bool.true_and] at HV HMP
     clear hr0
     go_wp2_with fail
     refine (HBM.out w2 HB2.out).mono ?_
     clear HBM q0 q1 q2 q3 q4 q5
     rintro e w3 ⟨rfl,hb3⟩
     have HB3:=Lh (HB2.out.trans (hb3.mono HB2.out.size))
     obtain ⟨q0,q1,q2,q3,q4,q5⟩:=HC.out w3 HB3.out
     clear hb3
     cases bm with
     | false =>
      go_wp2
      go_ret
      exact ⟨qz HV.out.symm,HB.out.trans (HB3.out.mono HB.out.size)⟩
     | true =>
      have HMM:=Lh (HMP.out (by first|exact rfl|exact trivial) (by first|exact rfl|exact trivial))
      go_wp2_with fail
      refine (HOB.out HMM.out w3 HB3.out).mono ?_
      clear HOB q0 q1 q2 q3 q4 q5
      rintro e w4 ⟨an,cn,ai,ci,rfl,hr4,hb4⟩
      have HVA:=Lh (kj J _ w4 (HVM.out HMM.out).2 (Rep.carry (Nat.zero_le _) lz (fun _ _ _=>rfl) _ _ hr4))
      rw [(HVM.out HMM.out).1] at HVA
      have HB4:=Lh (HB3.out.trans (hb4.mono HB3.out.size))
      clear hr4 hb4
      go_wp2_with fail
      refine HVA.out.mono ?_
      rintro e w5 ⟨rfl,hb5⟩
      have HB5:=Lh (HB.out.trans ((HB4.out.trans (hb5.mono HB4.out.size)).mono HB.out.size))
      clear hb5
      go_wp2
      go_ret
      exact ⟨qz HV.out.symm,HB5.out⟩
   · have n4:0<rs.length:=List.length_pos_iff.2 hr0
     have n1:decide ((0:Int)<(rs.length:Int))=true:=by rw [decide_eq_true_eq];omega
     have n2:(0:Int)<(rs.length:Int):=by omega
     have n3:decide (0<rs.length)=true:=by rw [decide_eq_true_eq];omega
     rw [show rs.isEmpty=false from by
      cases rs with
      | nil=>exact absurd rfl hr0
      | cons _ _=>rfl,Bool.false_and] at HV
     clear hr0
     go_wp2
     go_ret
     exact ⟨qz HV.out.symm,HB.out.trans (HB2.out.mono HB.out.size)⟩
def z6 (d:DelegsV):JV × Int:=if qG d then (qg d,0) else (zx,3)
set_option maxHeartbeats 4000000 in
set_option maxRecDepth 100000 in
theorem bU (l:List Key2) (rs:List DelegV) (t bits:Int) (ids:List ByteArray) (pre:ByteArray) (ka ra ba:Option Addr) (kc rc bc:Nat) (w:World) (hI:DelegsIn w 0 w.heap.size ⟨l,rs,⟨bits,pre,⟨t,ids⟩⟩⟩ ka ra ba) (hf:DelegsFits ⟨l,rs,⟨bits,pre,⟨t,ids⟩⟩⟩) (hrc:rs.length≤rc) (hT:Tabs w) :
 Calls Tryz.prog 36 #[.agg #[.slice ka l.length kc,.slice ra rs.length rc,.int .i64 t,.slice ba ids.length bc,.int .i64 bits,.string pre]] w (az (z6 ⟨l,rs,⟨bits,pre,⟨t,ids⟩⟩⟩) w):=by
 obtain ⟨W,hW⟩:∃W,W=(w.alloc (.cells #[.slice ka l.length kc,.slice ra rs.length rc,.int .i64 t,.slice ba ids.length bc,.int .i64 bits,.string pre] 35)).alloc (.cells #[.int .u8 0,.int .i64 0,.string ⟨#[]⟩,.slice none 0 0,.slice none 0 0] 25):=⟨_,rfl⟩
 have hz1:(w.alloc (.cells #[.slice ka l.length kc,.slice ra rs.length rc,.int .i64 t,.slice ba ids.length bc,.int .i64 bits,.string pre] 35)).heap.size=w.heap.size+1:=by simp
 have hb:Below w.heap.size w W:=by rw [hW];exact ((Below.refl _ _).alloc lz _).alloc (by simp) _
 have hx:W.heap[w.heap.size]?=some (.cells #[.slice ka l.length kc,.slice ra rs.length rc,.int .i64 t,.slice ba ids.length bc,.int .i64 bits,.string pre] 35 (0,0)):=by rw [hW];exact zk w _ _
 have hr0:W.rowIs (w.heap.size+1) 25 5 (qQ (.int .u8 0) (.int .i64 0) (.string ⟨#[]⟩) (.slice none 0 0) (.slice none 0 0)):=by
  have:=qp (w.alloc (.cells #[.slice ka l.length kc,.slice ra rs.length rc,.int .i64 t,.slice ba ids.length bc,.int .i64 bits,.string pre] 35)) (.int .u8 0) (.int .i64 0) (.string ⟨#[]⟩) (.slice none 0 0) (.slice none 0 0) 25
  rw [hz1,← hW] at this
  exact this
 have HC:=Lh (show ∀w':World,Below W.heap.size W w'→w'.cell? ⟨w.heap.size,0,none⟩=some (.slice ka l.length kc)∧w'.cell? ⟨w.heap.size,1,none⟩=some (.slice ra rs.length rc)∧w'.cell? ⟨w.heap.size,2,none⟩=some (.int .i64 t)∧w'.cell? ⟨w.heap.size,3,none⟩=some (.slice ba ids.length bc)∧w'.cell? ⟨w.heap.size,4,none⟩=some (.int .i64 bits)∧w'.cell? ⟨w.heap.size,5,none⟩=some (.string pre) from fun w' h=>by
  have y:=(h.block _ (qx hx)).trans hx
  exact ⟨qq y rfl,qq y rfl,qq y rfl,qq y rfl,qq y rfl,qq y rfl⟩)
 have HI:=Lh (show ∀w':World,Below W.heap.size W w'→DelegsIn w' 0 w'.heap.size ⟨l,rs,⟨bits,pre,⟨t,ids⟩⟩⟩ ka ra ba∧Tabs w' from fun w' h=>⟨hI.below (hb.trans (h.mono hb.size)) lz lz (Nat.le_trans hb.size h.size),hT.below (hb.trans (h.mono hb.size))⟩)
 have HR0:=Lh hr0
 have HB:=Lh hb
 have HWH:=Lh hW
 have HMY:=Lh (vf l rs t bits ids pre ka ra ba kc rc bc W (HI.out W (Below.refl _ _)).1 hf hrc (HI.out W (Below.refl _ _)).2)
 obtain ⟨mb,hmb⟩:∃mb,mb=qG ⟨l,rs,⟨bits,pre,⟨t,ids⟩⟩⟩:=⟨_,rfl⟩
 rw [← hmb] at HMY
 have HMB:=Lh hmb
 have HOB:=Lh (show mb=true→∀w':World,Below W.heap.size W w'→_ from fun hm w' h=>y8 l rs t bits ids pre ka ra ba kc rc bc w' (HI.out w' h).1 (by rw [← q9,← hmb];exact hm) (HI.out w' h).2)
 unfold jP at HOB
 clear hW hz1 hb hx hr0 hI hf hrc hT hmb
 obtain ⟨q0,q1,q2,q3,q4,q5⟩:=HC.out W (Below.refl _ _)
 go_enter Tryz.func36,Tryz.ntmps36
 go_upto_region 1 with fail
 rw [← HWH.out]
 clear HWH
 go_wp2_with fail
 refine HMY.out.mono ?_
 clear HMY q0 q1 q2 q3 q4 q5
 rintro r w1 ⟨rfl,hb1⟩
 have HB1:=Lh hb1
 obtain ⟨q0,q1,q2,q3,q4,q5⟩:=HC.out w1 hb1
 have hr1:=qj hb1 HR0.out HR0.out.lt
 have HR1:=Lh hr1
 have HBW:=Lh (HB.out.trans (hb1.mono HB.out.size))
 clear hb1
 cases mb with
 | false =>
  have HV:=Lh (show z6 ⟨l,rs,⟨bits,pre,⟨t,ids⟩⟩⟩=(zx,3) by unfold z6;rw [← HMB.out];rfl)
  obtain ⟨t0,t1,t2,t3,t4⟩:=rc5 hr1
  obtain ⟨s0,s1,s2,s3,s4⟩:=rf5 hr1
  simp only [qQ] at t0 t1 t2 t3 t4
  clear hr1
  go_wp2
  refine bodyPost_ret (qk Tryz.results36 _ _ (w.heap.size+1) 25 _ (0,0) _ rfl (qi (set5 _ _ _ _ _ HR1.out)) Tryz.underlying25 rfl (by kernel_rfl) _ rfl) rfl ?_
  rw [HV.out]
  exact mo ⟨rfl,q7 _ _ _ _ _ HBW.out (by omega)⟩
 | true =>
  have HV:=Lh (show z6 ⟨l,rs,⟨bits,pre,⟨t,ids⟩⟩⟩=(qg ⟨l,rs,⟨bits,pre,⟨t,ids⟩⟩⟩,0) by unfold z6;rw [← HMB.out];rfl)
  have HOW:=Lh (HOB.out rfl w1 HB1.out)
  have HJK:=Lh (show (qg ⟨l,rs,⟨bits,pre,⟨t,ids⟩⟩⟩).kind=5∧(qg ⟨l,rs,⟨bits,pre,⟨t,ids⟩⟩⟩).n=0∧(qg ⟨l,rs,⟨bits,pre,⟨t,ids⟩⟩⟩).t=⟨#[]⟩ from ⟨rfl,rfl,rfl⟩)
  obtain ⟨J,hJ⟩:∃J,J=qg ⟨l,rs,⟨bits,pre,⟨t,ids⟩⟩⟩:=⟨_,rfl⟩
  rw [← hJ] at HV HOW HJK
  clear hJ hr1 HOB
  go_wp2_with fail
  refine HOW.out.mono ?_
  clear HOW q0 q1 q2 q3 q4 q5
  rintro r w2 ⟨an,cn,ai,ci,rfl,hr2,hb2⟩
  have HR2:=Lh hr2
  have hres:=qj hb2 HR1.out HR1.out.lt
  have HRS:=Lh hres
  have HB2:=Lh (HBW.out.trans (hb2.mono HBW.out.size))
  have HZ:=Lh (show w.heap.size+2≤w1.heap.size from HR1.out.lt)
  obtain ⟨t0,t1,t2,t3,t4⟩:=rc5 hres
  obtain ⟨s0,s1,s2,s3,s4⟩:=rf5 hres
  simp only [qQ] at t0 t1 t2 t3 t4
  clear hres hr2 hb2
  go_wp2
  refine bodyPost_ret (qk Tryz.results36 _ _ (w.heap.size+1) 25 _ (0,0) _ rfl (qi (set5 _ _ _ _ _ HRS.out)) Tryz.underlying25 rfl (by kernel_rfl) _ rfl) rfl ?_
  rw [HV.out]
  refine ⟨an,cn,ai,ci,by rw [HJK.out.1,HJK.out.2.1,HJK.out.2.2];rfl,?_,q7 _ _ _ _ _ HB2.out (by omega)⟩
  dsimp only
  rw [HJK.out.1,HJK.out.2.1,HJK.out.2.2]
  exact Rep.carry (by have:=HZ.out;omega) (show w2.heap.size≤_ by simp [World.setCell]) (fun j hj _=>xr _ _ _ _ _ (by have:=HZ.out;omega)) _ _ HR2.out
theorem zW.one {T B g:Nat} {w:World} (q:kg) (lo hi:Nat) (h0:B≤g) (h1:B≤lo) (h2:hi≤g) (hP:stepP w lo hi q) (hx:w.heap[g]?=some (.cells (encS q).toArray T (0,0))):zW T B w (.slice (some ⟨g,0,none⟩) 1 1) [q]:=by
 have hb:=qx hx
 refine ⟨⟨rfl,.inr ⟨g,1,_,rfl,h0,hx,Nat.le_refl _,by unfold maxLen;omega,rfl,?_⟩⟩,fun p hp=>?_⟩
 · simp [encS]
 · obtain rfl:p=q:=by simpa using hp
   exact ⟨lo,hi,h1,by omega,fun _ hb=>by simp [Value.ownBlock] at hb;omega,hP⟩
theorem lY {d:DelegsV} {path:ByteArray} (h:(qG d && qL path)=false):xg runes d path=[]:=by
 unfold xg
 rw [if_neg (by rw [h];decide)]
theorem nP {rs:List DelegV} {path:ByteArray} {k:Nat} (hk:k<rs.length):xI runes path (rs.drop k)=if isD runes rs[k] path then mR rs[k] :: (if rs[k].term then [] else xI runes path (rs.drop (k+1))) else xI runes path (rs.drop (k+1)):=by
 rw [List.drop_eq_getElem_cons hk,xI]
theorem nF:(Tryz.prog.info? 53).map (fun i=>(i.zero,i.size,i.bytes))=some (some (.agg #[.string ⟨#[]⟩,.int .i64 0,.slice none 0 0,.bool false]),4,56):=by kernel_rfl
def sE (nm:ByteArray) (thr:Int) (l:List ByteArray) (tm:Bool) (lo:Nat) (w:World) (x:Value):Prop:=∃a c,x=.agg #[.string nm,.int .i64 thr,.slice a l.length c,.bool tm]∧l.length≤c∧xV w lo w.heap.size a l
def MP.stepV (nm:ByteArray) (thr:Int) (l:List ByteArray) (tm:Bool) (lo:Nat):MP:=⟨sE nm thr l tm lo,fun _ _ _ hb ⟨a,c,e,h1,h2⟩=>⟨a,c,e,h1,h2.below hb lz lz hb.size⟩⟩
def dw (nm:ByteArray) (thr:Int) (l:List ByteArray) (tm:Bool) (lo lo2:Nat) (w:World) (x:Value):Prop:=∃g a c,x=.slice (some ⟨g,0,none⟩) 1 1∧lo2≤g∧w.heap[g]?=some (.cells #[.string nm,.int .i64 thr,.slice a l.length c,.bool tm] 53 (0,0))∧l.length≤c∧xV w lo g a l
def MP.stepR (nm:ByteArray) (thr:Int) (l:List ByteArray) (tm:Bool) (lo lo2:Nat):MP:=⟨dw nm thr l tm lo lo2,fun _ _ _ hb ⟨g,a,c,e,h1,h2,h3,h4⟩=>⟨g,a,c,e,h1,by rw [hb.block _ (qx h2)];exact h2,h3,h4.carry lz lz (fun j _ hbg=>hb.block j (Nat.lt_trans hbg (qx h2)))⟩⟩
theorem cQ {nm:ByteArray} {thr:Int} {l:List ByteArray} {tm:Bool} {lo lo2 c:Nat} {a:Option Addr} {w:World} (h1:lo2≤w.heap.size) (h2:l.length≤c) (h3:xV w lo w.heap.size a l):dw nm thr l tm lo lo2 (w.alloc (.cells #[.string nm,.int .i64 thr,.slice a l.length c,.bool tm] 53)) (.slice (some ⟨w.heap.size,0,none⟩) 1 1) :=
 ⟨w.heap.size,a,c,rfl,h1,heap_alloc_new w _,h2,h3.carry lz lz (fun _ _ hb=>Below.heap_alloc _ _ _ hb)⟩
set_option maxHeartbeats 8000000 in
set_option maxRecDepth 100000 in
theorem pE (l:List Key2) (rs:List DelegV) (t bits:Int) (ids:List ByteArray) (pre path:ByteArray) (ka ra ba:Option Addr) (kc rc bc:Nat) (w:World) (hI:DelegsIn w 0 w.heap.size ⟨l,rs,⟨bits,pre,⟨t,ids⟩⟩⟩ ka ra ba) (hf:DelegsFits ⟨l,rs,⟨bits,pre,⟨t,ids⟩⟩⟩) (hrc:rs.length≤rc) (hp:path.size≤4294967296) (hT:Tabs w) :
 Calls Tryz.prog 20 #[.agg #[.slice ka l.length kc,.slice ra rs.length rc,.int .i64 t,.slice ba ids.length bc,.int .i64 bits,.string pre],.string path] w (dU 53 (xg runes ⟨l,rs,⟨bits,pre,⟨t,ids⟩⟩⟩ path) w):=by
 obtain ⟨W,hW⟩:∃W,W=w.alloc (.cells #[.slice ka l.length kc,.slice ra rs.length rc,.int .i64 t,.slice ba ids.length bc,.int .i64 bits,.string pre] 35):=⟨_,rfl⟩
 have hb:Below w.heap.size w W:=by rw [hW];exact (Below.refl _ _).alloc lz _
 have hx:W.heap[w.heap.size]?=some (.cells #[.slice ka l.length kc,.slice ra rs.length rc,.int .i64 t,.slice ba ids.length bc,.int .i64 bits,.string pre] 35 (0,0)):=by rw [hW];exact heap_alloc_new w _
 have HC:=Lh (show ∀w':World,Below W.heap.size W w'→w'.cell? ⟨w.heap.size,0,none⟩=some (.slice ka l.length kc)∧w'.cell? ⟨w.heap.size,1,none⟩=some (.slice ra rs.length rc)∧w'.cell? ⟨w.heap.size,2,none⟩=some (.int .i64 t)∧w'.cell? ⟨w.heap.size,3,none⟩=some (.slice ba ids.length bc)∧w'.cell? ⟨w.heap.size,4,none⟩=some (.int .i64 bits)∧w'.cell? ⟨w.heap.size,5,none⟩=some (.string pre) from fun w' h=>by
  have y:=(h.block _ (qx hx)).trans hx
  exact ⟨qq y rfl,qq y rfl,qq y rfl,qq y rfl,qq y rfl,qq y rfl⟩)
 have HI:=Lh (show ∀w':World,Below W.heap.size W w'→DelegsIn w' 0 w'.heap.size ⟨l,rs,⟨bits,pre,⟨t,ids⟩⟩⟩ ka ra ba∧Tabs w' from fun w' h=>⟨hI.below (hb.trans (h.mono hb.size)) lz lz (Nat.le_trans hb.size h.size),hT.below (hb.trans (h.mono hb.size))⟩)
 have HF:=Lh hf
 have HB:=Lh hb
 have f2:rs.length≤70:=hf.many
 have f3:pre.size≤300:=hf.pre
 have HMY:=Lh (vf l rs t bits ids pre ka ra ba kc rc bc W (HI.out W (Below.refl _ _)).1 hf hrc (HI.out W (Below.refl _ _)).2)
 have HPT:=Lh (fun w=>wH path w (by omega))
 have HNO:=Lh (fun w'=>jT t bits ids pre ba bc w')
 have HBAD:=Lh (@lY ⟨l,rs,⟨bits,pre,⟨t,ids⟩⟩⟩ path)
 have HMEQ:=Lh ((q9 ⟨l,rs,⟨bits,pre,⟨t,ids⟩⟩⟩).trans (zB ⟨l,rs,⟨bits,pre,⟨t,ids⟩⟩⟩))
 dsimp only at HMEQ
 have HGD:=Lh (show qG ⟨l,rs,⟨bits,pre,⟨t,ids⟩⟩⟩=true→qL path=true→xg runes ⟨l,rs,⟨bits,pre,⟨t,ids⟩⟩⟩ path=(if zg ⟨bits,pre,⟨t,ids⟩⟩ then xI runes path rs else [⟨xZ pre bits.toNat (wB path bits.toNat),⟨t,ids⟩,true⟩]) from fun h1 h2=>by unfold xg;rw [h1,h2];rfl)
 have HBI:=Lh (show ∀w':World,Below W.heap.size W w'→zH ⟨bits,pre,⟨t,ids⟩⟩=0→Calls Tryz.prog 43 #[.agg #[.int .i64 t,.slice ba ids.length bc,.int .i64 bits,.string pre],.string path] w' (fun e w2=>e=.returned (.tuple #[.string (xZ pre bits.toNat (wB path bits.toNat)),.int .i64 0])∧Below w'.heap.size w' w2) from fun w' h he=>by
  obtain ⟨k,hk,h1,h2⟩:=cf he
  subst hk
  rw [Int.toNat_natCast]
  exact uF t k ids pre path ba bc w' (by omega) hp he h1 h2 (HI.out w' h).2)
 have HCB:=Lh (show ∀w':World,Below W.heap.size W w'→_ from fun w' h=>vM t ids ba bc W.heap.size w' h.size (HI.out w' h).1.bids hf.au.2.1)
 have HIS:=Lh (show ∀w':World,Below W.heap.size W w'→∀x ∈ rs,∀ia pa qa ic pc qc,DelegIn w' 0 w'.heap.size x ia pa qa→_ from fun w' h x hx ia pa qa ic pc qc hin=>sR x path ia pa qa ic pc qc w' hin (HF.out.roles x hx) hp (HI.out w' h).2)
 have HWH:=Lh hW
 have HPP:=Lh hp
 obtain ⟨G,hG⟩:∃G,G=xg runes ⟨l,rs,⟨bits,pre,⟨t,ids⟩⟩⟩ path:=⟨_,rfl⟩
 rw [← hG] at HBAD HGD ⊢
 obtain ⟨mb,hmb⟩:∃mb,mb=qG ⟨l,rs,⟨bits,pre,⟨t,ids⟩⟩⟩:=⟨_,rfl⟩
 rw [← hmb] at HMY HBAD HMEQ HGD
 obtain ⟨pb,hpb⟩:∃pb,pb=qL path:=⟨_,rfl⟩
 rw [← hpb] at HPT HBAD HGD
 obtain ⟨nb,hnb⟩:∃nb,nb=zg ⟨bits,pre,⟨t,ids⟩⟩:=⟨_,rfl⟩
 rw [← hnb] at HNO HMEQ HGD
 clear hb hx hW hI hf hrc hp hT hG hmb hpb hnb
 obtain ⟨q0,q1,q2,q3,q4,q5⟩:=HC.out W (Below.refl _ _)
 go_enter Tryz.func20,Tryz.ntmps20
 go_upto_region 1 with fail
 rw [← HWH.out]
 clear HWH
 cases mb with
 | false =>
  have HG0:=Lh (HBAD.out (by simp))
  go_wp2_with (go_at_call 33;refine HMY.out.mono ?_;rintro e w1 ⟨rfl,hb⟩;have HB1:=Lh hb;clear hb)
  go_ret
  rw [HG0.out]
  exact ⟨none,0,[],rfl,rfl,ItemsOwn.nil _ _ _ _ _ _,HB.out.trans (HB1.out.mono HB.out.size)⟩
 | true =>
 cases pb with
 | false =>
  have HG0:=Lh (HBAD.out (by simp))
  go_wp2_with (first|(go_at_call 33;refine HMY.out.mono ?_;rintro e w1 ⟨rfl,hb⟩;have HB1:=Lh hb;clear hb)|(go_at_call 34;refine (HPT.out _).mono ?_;rintro e w2 ⟨rfl,hb⟩;have HB2:=Lh (HB1.out.trans (hb.mono HB1.out.size));clear hb))
  go_ret
  rw [HG0.out]
  exact ⟨none,0,[],rfl,rfl,ItemsOwn.nil _ _ _ _ _ _,HB.out.trans (HB2.out.mono HB.out.size)⟩
 | true =>
 replace HGD:=Lh (HGD.out (by first|exact rfl|exact trivial) (by first|exact rfl|exact trivial))
 go_upto_region 3 with (first|(go_at_call 33;refine HMY.out.mono ?_;rintro e w1 ⟨rfl,hb⟩;have HB1:=Lh hb;clear hb)|(go_at_call 34;refine (HPT.out _).mono ?_;rintro e w2 ⟨rfl,hb⟩;have HB2:=Lh (HB1.out.trans (hb.mono HB1.out.size));obtain ⟨z0,z1,z2,z3,z4,z5⟩:=HC.out _ HB2.out;clear hb))
 go_wp2_with fail
 refine (HNO.out _).mono ?_
 clear HNO HMY HPT q0 q1 q2 q3 q4 q5 z0 z1 z2 z3 z4 z5
 rintro e w3 ⟨rfl,hb3⟩
 have HB3:=Lh (HB2.out.trans (hb3.mono HB2.out.size))
 obtain ⟨q0,q1,q2,q3,q4,q5⟩:=HC.out w3 HB3.out
 clear hb3 HB1 HB2 HBAD
 cases nb with
 | false =>
  rw [if_neg (by decide)] at HGD
  have HE:=Lh (show zH ⟨bits,pre,⟨t,ids⟩⟩=0 from by
   have h:=HMEQ.out
   rw [if_neg (by decide)] at h
   have h2:=h.symm
   simp only [Bool.and_eq_true] at h2
   exact (jF h2.2.2).1)
  obtain ⟨R,hR⟩:∃R,R=xZ pre bits.toNat (wB path bits.toNat):=⟨_,rfl⟩
  rw [← hR] at HBI HGD
  clear hR
  go_wp2_with fail
  refine (HBI.out w3 HB3.out HE.out).mono ?_
  clear HBI q0 q1 q2 q3 q4 q5
  rintro e w4 ⟨rfl,hb4⟩
  have HB4:=Lh (HB3.out.trans (hb4.mono HB3.out.size))
  obtain ⟨q0,q1,q2,q3,q4,q5⟩:=HC.out w4 HB4.out
  clear hb4
  go_wp2_with fail
  refine (HCB.out w4 HB4.out).mono ?_
  clear HCB q0 q1 q2 q3 q4 q5
  rintro e w5 ⟨y,rfl,⟨a5,c5,rfl,hc5,hs5⟩,hb5⟩
  have HS5:=Lh hs5
  have HC5:=Lh hc5
  have HB5:=Lh (HB4.out.trans (hb5.mono HB4.out.size))
  clear hb5 hs5 hc5
  go_wp2
  go_ret
  rw [HGD.out]
  have hx:=heap_alloc_new w5 (.cells #[.string R,.int .i64 t,.slice a5 ids.length c5,.bool true] 53)
  have hba:Below w5.heap.size w5 (w5.alloc (.cells #[.string R,.int .i64 t,.slice a5 ids.length c5,.bool true] 53)):=(Below.refl _ _).alloc lz _
  have hz:=Nat.le_trans HB.out.size HB5.out.size
  exact ⟨_,1,[(⟨R,⟨t,ids⟩,true⟩,a5,c5)],rfl,rfl,zW.one (⟨R,⟨t,ids⟩,true⟩,a5,c5) W.heap.size w5.heap.size hz HB.out.size lz ⟨HC5.out,HS5.out.below hba lz lz lz⟩ hx,(HB.out.trans (HB5.out.mono HB.out.size)).alloc hz _⟩
 | true =>
  rw [if_pos rfl] at HGD
  obtain ⟨nn,hnn⟩:∃nn,nn=rs.length:=⟨_,rfl⟩
  have HNN:=Lh hnn
  rw [← hnn] at HC q1 f2 ⊢
  clear hnn HCB HBI
  go_wp2_with fail
  go_loopw [7,9,41] (fun s7 _ i wr=>∃(k:Nat) (a:Option Addr) (c:Nat) (qs:List kg),k≤nn∧qs.length≤k∧i=.int .i64 k∧s7=.slice a qs.length c∧G=qs.map (·.1) ++ xI runes path (rs.drop k)∧zW 53 W.heap.size wr s7 qs∧Below W.heap.size W wr) (fun _ _ i _=>nn - (intOf i).toNat)
  case atStart=>exact ⟨0,none,0,[],by omega,Nat.le_refl _,rfl,rfl,by rw [HGD.out];rfl,ItemsOwn.nil _ _ _ _ _ _,HB3.out⟩
  case round =>
   obtain ⟨k,a7,c7,sq,hk,hsk,rfl,rfl,hge,hown,hbr⟩:=hrel
   have HGE:=Lh hge
   have HO:=Lh hown
   have HBR:=Lh hbr
   clear hge hown hbr q0 q1 q2 q3 q4 q5
   by_cases hlt:k<nn
   · have hkl:k<rs.length:=by rw [← HNN.out];exact hlt
     obtain ⟨b,o,ha,-,hbb,ia,ic,pa,pc,qa,qc,e0,e1,e2,e3,e4,e5,-,-,-,hin⟩:=(HI.out wr HBR.out).1.roles.at k hkl
     subst ha
     have m1:(0:Int)≤(k:Int):=by omega
     have m2:(k:Int)<(nn:Int):=by omega
     have m3:decide ((k:Int)<(nn:Int))=true:=by simpa using hlt
     have HGL:=Lh (nP (rs:=rs) (path:=path) hkl)
     have hmem:=List.getElem_mem hkl
     obtain ⟨x,hx⟩:∃x,x=rs[k]:=⟨_,rfl⟩
     rw [← hx] at e0 e1 e2 e3 e4 e5 hin HGL hmem
     clear hx
     obtain ⟨nm,⟨thr,xid⟩,tm,ps,qs⟩:=x
     dsimp only at e0 e1 e2 e3 e4 e5
     obtain ⟨WX,hWX⟩:∃WX,WX=wr.alloc (.cells #[.string nm,.int .i64 thr,.slice ia xid.length ic,.bool tm,.slice pa ps.length pc,.slice qa qs.length qc] 41):=⟨_,rfl⟩
     have hbX:Below wr.heap.size wr WX:=by rw [hWX];exact (Below.refl _ _).alloc lz _
     have hxX:WX.heap[wr.heap.size]?=some (.cells #[.string nm,.int .i64 thr,.slice ia xid.length ic,.bool tm,.slice pa ps.length pc,.slice qa qs.length qc] 41 (0,0)):=by rw [hWX];exact heap_alloc_new wr _
     have HBX:=Lh (HBR.out.trans (hbX.mono HBR.out.size))
     have HCX:=Lh (show ∀w':World,Below WX.heap.size WX w'→w'.cell? ⟨wr.heap.size,0,none⟩=some (.string nm)∧w'.cell? ⟨wr.heap.size,1,none⟩=some (.int .i64 thr)∧w'.cell? ⟨wr.heap.size,2,none⟩=some (.slice ia xid.length ic)∧w'.cell? ⟨wr.heap.size,3,none⟩=some (.bool tm)∧w'.cell? ⟨wr.heap.size,4,none⟩=some (.slice pa ps.length pc)∧w'.cell? ⟨wr.heap.size,5,none⟩=some (.slice qa qs.length qc) from fun w' h=>by
      have y:=(h.block _ (qx hxX)).trans hxX
      exact ⟨qq y rfl,qq y rfl,qq y rfl,qq y rfl,qq y rfl,qq y rfl⟩)
     have HIX:=Lh (HIS.out WX HBX.out _ hmem ia pa qa ic pc qc (hin.below hbX lz lz hbX.size))
     have HCA:=Lh (show ∀w':World,Below WX.heap.size WX w'→_ from fun w' h=>vM thr xid ia ic WX.heap.size w' h.size (hin.ids.below (hbX.trans (h.mono hbX.size)) lz lz (Nat.le_trans hbX.size h.size)) (HF.out.roles _ hmem).au.2.1)
     have HOX:=Lh (ItemsOwn.below jN HO.out hbX)
     have HXL:=Lh (qx hxX)
     have HWX:=Lh hWX
     obtain ⟨bi,hbi⟩:∃bi,bi=isD runes ⟨nm,⟨thr,xid⟩,tm,ps,qs⟩ path:=⟨_,rfl⟩
     rw [← hbi] at HIX HGL
     dsimp only at HIX HGL
     clear hbX hxX hWX hin hmem hbi
     obtain ⟨z0,z1,z2,z3,z4,z5⟩:=HCX.out WX (Below.refl _ _)
     go_upto_region 12 with fail
     rw [← HWX.out]
     clear e0 e1 e2 e3 e4 e5 HWX
     go_wp2_with fail
     refine HIX.out.mono ?_
     clear HIX z0 z1 z2 z3 z4 z5
     rintro e w4 ⟨rfl,hb4⟩
     have HB4:=Lh hb4
     have HO4:=Lh (ItemsOwn.below jN HOX.out hb4)
     have HBW4:=Lh (HBX.out.trans (hb4.mono HBX.out.size))
     clear hb4 HOX
     cases bi with
     | false =>
      rw [if_neg (by decide)] at HGL
      go_wp2
      go_roundw
      case rel=>exact ⟨k+1,a7,c7,sq,by omega,by omega,by go_num,rfl,by rw [HGE.out,HGL.out],HO4.out,HBW4.out⟩
      case measure=>simp [intOf];omega
     | true =>
      rw [if_pos rfl] at HGL
      go_upto_region 13 with fail
      obtain ⟨V,hV⟩:∃V:List MP,V=[.con (.slice a7 sq.length c7),.con (.pointer (some ⟨wr.heap.size,0,none⟩)),.con (.string nm),.con (.pointer (some ⟨wr.heap.size,1,none⟩)),.con (.agg #[.int .i64 thr,.slice ia xid.length ic]),.authW thr xid WX.heap.size,.con (.pointer (some ⟨wr.heap.size,3,none⟩)),.con (.bool tm),.stepV nm thr xid tm WX.heap.size,.stepR nm thr xid tm WX.heap.size w4.heap.size]:=⟨_,rfl⟩
      have HV:=Lh hV
      clear hV
      refine zf 10 (fun d a' w'=>∃x49 x50 x51 x52 x53 x54 x55 x56 x57 x58,a'=⟨#[Value.agg #[Value.slice ka l.length kc,Value.slice (some { block:=b,off:=o }) nn rc,Value.int IntKind.i64 t,Value.slice ba ids.length bc,Value.int IntKind.i64 bits,Value.string pre],Value.string path,Value.pointer (some { block:=w.heap.size,off:=0 }),undef,Value.slice none 0 0,undef,undef,Value.slice a7 sq.length c7,undef,Value.pointer (some { block:=wr.heap.size,off:=0 }),Value.agg #[Value.slice ka l.length kc,Value.slice (some { block:=b,off:=o }) nn rc,Value.int IntKind.i64 t,Value.slice ba ids.length bc,Value.int IntKind.i64 bits,Value.string pre],Value.bool true,Value.bool false,Value.bool false,Value.string path,Value.bool true,Value.bool false,Value.bool false,Value.pointer (some { block:=w.heap.size,off:=2 }),Value.agg #[Value.int IntKind.i64 t,Value.slice ba ids.length bc,Value.int IntKind.i64 bits,Value.string pre],Value.bool true,Value.bool false,undef,undef,undef,undef,undef,undef,undef,undef,undef,undef,undef,undef,undef,undef,undef,undef,Value.pointer (some { block:=w.heap.size,off:=1 }),Value.slice (some { block:=b,off:=o }) nn rc,Value.int IntKind.i64 (nn:Int),Value.int IntKind.i64 (k:Int),Value.bool true,Value.pointer (some { block:=b,off:=o+k * 6 }),Value.agg #[Value.string nm,Value.int IntKind.i64 thr,Value.slice ia xid.length ic,Value.bool tm,Value.slice pa ps.length pc,Value.slice qa qs.length qc],Value.agg #[Value.string nm,Value.int IntKind.i64 thr,Value.slice ia xid.length ic,Value.bool tm,Value.slice pa ps.length pc,Value.slice qa qs.length qc],Value.string path,Value.bool true,Value.bool false,x49,x50,x51,x52,x53,x54,x55,x56,x57,x58,u59,u60,u61,u62,undef],[]⟩∧zN w4 V d w' [x49,x50,x51,x52,x53,x54,x55,x56,x57,x58]) (by kernel_rfl) (by kernel_rfl) ?first ?step ?last
      case first=>exact ⟨_,_,_,_,_,_,_,_,_,_,rfl,zN.first _ _ _ (by rw [HV.out];rfl)⟩
      case step =>
       rintro d a' w' ⟨x49,x50,x51,x52,x53,x54,x55,x56,x57,x58,rfl,h⟩ q hq hn hw
       rcases q with _|_|_|_|_|_|_|_|_|_|q
       · refine wpOp_step rfl fun K hK=>?_
         go_simp
         exact hK _ _ ⟨_,x50,x51,x52,x53,x54,x55,x56,x57,x58,rfl,h.sameC 0 _ HV rfl⟩
       · refine wpOp_step rfl fun K hK=>?_
         go_simp
         exact hK _ _ ⟨x49,_,x51,x52,x53,x54,x55,x56,x57,x58,rfl,h.sameC 1 _ HV rfl⟩
       · obtain rfl:=h.con 1 (hw _ rfl ⟨1,.data⟩ (by simp) rfl) HV rfl rfl
         obtain ⟨q0,q1,q2,q3,q4,q5⟩:=HCX.out w' (HB4.out.trans (h.1.mono HB4.out.size))
         refine wpOp_step rfl fun K hK=>?_
         go_simp
         exact hK _ _ ⟨x49,_,_,x52,x53,x54,x55,x56,x57,x58,rfl,h.sameC 2 _ HV rfl⟩
       · refine wpOp_step rfl fun K hK=>?_
         go_simp
         exact hK _ _ ⟨x49,x50,x51,_,x53,x54,x55,x56,x57,x58,rfl,h.sameC 3 _ HV rfl⟩
       · obtain rfl:=h.con 3 (hw _ rfl ⟨3,.data⟩ (by simp) rfl) HV rfl rfl
         obtain ⟨q0,q1,q2,q3,q4,q5⟩:=HCX.out w' (HB4.out.trans (h.1.mono HB4.out.size))
         refine wpOp_step rfl fun K hK=>?_
         go_simp
         exact hK _ _ ⟨x49,x50,x51,_,_,x54,x55,x56,x57,x58,rfl,h.sameC 4 _ HV rfl⟩
       · obtain rfl:=h.con 4 (hw _ rfl ⟨4,.data⟩ (by simp) rfl) HV rfl rfl
         obtain ⟨q0,q1,q2,q3,q4,q5⟩:=HCX.out w' (HB4.out.trans (h.1.mono HB4.out.size))
         refine wpOp_step rfl fun K hK=>?_
         go_simp
         refine (HCA.out w' (HB4.out.trans (h.1.mono HB4.out.size))).mono ?_
         rintro e w2 ⟨y,rfl,hy,hb2⟩
         exact hK _ _ ⟨x49,x50,x51,x52,_,_,x55,x56,x57,x58,rfl,h.did hb2 5 _ (.authW thr xid WX.heap.size) (by rw [HV.out];rfl) hy⟩
       · refine wpOp_step rfl fun K hK=>?_
         go_simp
         exact hK _ _ ⟨x49,x50,x51,x52,x53,x54,_,x56,x57,x58,rfl,h.sameC 6 _ HV rfl⟩
       · obtain rfl:=h.con 6 (hw _ rfl ⟨6,.data⟩ (by simp) rfl) HV rfl rfl
         obtain ⟨q0,q1,q2,q3,q4,q5⟩:=HCX.out w' (HB4.out.trans (h.1.mono HB4.out.size))
         refine wpOp_step rfl fun K hK=>?_
         go_simp
         exact hK _ _ ⟨x49,x50,x51,x52,x53,x54,_,_,x57,x58,rfl,h.sameC 7 _ HV rfl⟩
       · obtain rfl:=h.con 2 (hw _ rfl ⟨2,.data⟩ (by simp) rfl) HV rfl rfl
         have hs54:=h.get 5 (hw _ rfl ⟨5,.data⟩ (by simp) rfl) (.authW thr xid WX.heap.size) (by rw [HV.out];rfl) _ rfl
         obtain ⟨a5,c5,rfl,hc5,hs5⟩:=hs54
         obtain rfl:=h.con 7 (hw _ rfl ⟨7,.data⟩ (by simp) rfl) HV rfl rfl
         refine wpOp_step rfl fun K hK=>?_
         go_simp
         exact hK _ _ ⟨x49,x50,_,x52,x53,_,x55,_,_,x58,rfl,h.same 8 _ (.stepV nm thr xid tm WX.heap.size) (by rw [HV.out];rfl) ⟨a5,c5,rfl,hc5,hs5⟩⟩
       · have hs57:=h.get 8 (hw _ rfl ⟨8,.data⟩ (by simp) rfl) (.stepV nm thr xid tm WX.heap.size) (by rw [HV.out];rfl) _ rfl
         obtain ⟨a5,c5,rfl,hc5,hs5⟩:=hs57
         refine wpOp_step rfl fun K hK=>?_
         go_simp
         exact hK _ _ ⟨x49,x50,x51,x52,x53,x54,x55,x56,_,_,rfl,h.new _ 9 _ (.stepR nm thr xid tm WX.heap.size w4.heap.size) (by rw [HV.out];rfl) (cQ h.1.size hc5 hs5)⟩
       · omega
      case last =>
       rintro d a' w' hall ⟨x49,x50,x51,x52,x53,x54,x55,x56,x57,x58,rfl,h⟩
       have hle:=h.1
       obtain rfl:=h.con 0 (hall _ (by omega)) HV rfl rfl
       have hs58:=h.get 9 (hall _ (by omega)) (.stepR nm thr xid tm WX.heap.size w4.heap.size) (by rw [HV.out];rfl) _ rfl
       have HLE:=Lh hle
       clear h hall hle HV
       have hb45:=HLE.out
       obtain ⟨g,a5,c5,rfl,hgl,hxg,hc5,hs5⟩:=hs58
       have HOF:=Lh (ItemsOwn.below jN HO4.out hb45)
       have HOW:=Lh (show w'.ownsRow W.heap.size 53 4 (.slice a7 sq.length c7) sq.length (sq.flatMap encS) from HOF.out.own)
       have HBW5:=Lh (HBW4.out.trans (hb45.mono HBW4.out.size))
       have HXG:=Lh hxg
       have HS5:=Lh hs5
       have HC5:=Lh hc5
       have HGH:=Lh (show w4.heap.size≤g∧WX.heap.size≤w4.heap.size∧W.heap.size≤WX.heap.size∧wr.heap.size<WX.heap.size∧w4.heap.size≤w'.heap.size from ⟨hgl,HB4.out.size,HBX.out.size,HXL.out,hb45.size⟩)
       have HZX:=Lh (HCX.out w' (HB4.out.trans (hb45.mono HB4.out.size)))
       have HOB:=Lh (show ∀b,(Value.slice a7 sq.length c7).ownBlock=some b→b<wr.heap.size from fun b hb=>(HO.out.own.lt b hb).2)
       have hw5:W.heap.size≤w'.heap.size:=HBW5.out.size
       have hsq:sq.length≤70:=by omega
       obtain ⟨i1,hi1,hy0,hy1,hy2⟩:=info_parts nF
       simp only [List.drop_succ_cons,List.drop_zero]
       obtain ⟨qn,hqn⟩:∃qn:kg,qn=(⟨nm,⟨thr,xid⟩,tm⟩,a5,c5):=⟨_,rfl⟩
       have HQN:=Lh hqn
       have HEQ:=Lh (show encS qn=[.string nm,.int .i64 thr,.slice a5 xid.length c5,.bool tm] from by rw [hqn];rfl)
       clear hb45 hxg hs5 hc5 hgl hqn
       go_upto_region 14 with (at_builtin;(refine wpList_append_lies _ rfl (.tmp 49) (.tmp 58) 48 rfl W.heap.size 53 i1 _ 4 56 Tryz.underlying48 hi1 hy0 hy1 hy2 rfl (by omega) (.slice a7 sq.length c7) sq.length (sq.flatMap encS) rfl HOW.out ⟨g,0,none⟩ 1 1 (encS qn) rfl rfl (by rw [HEQ.out];exact World.news_of_block (cs:=#[.string nm,.int .i64 thr,.slice a5 xid.length c5,.bool tm]) (t:=53) (fr:=(0,0)) HXG.out) (rG _) (by omega) (by unfold maxLen;omega) (by omega) (by have:=qx HXG.out;omega) w'.heap.size (by omega) ?_);intro g2 cap2 w6 hown6 hgrow6 hat6 hlt6;have HO6:=Lh hown6;have HG6:=Lh hgrow6;have HA6:=Lh hat6;clear hown6 hgrow6 hat6)
       have HON:=Lh (show zW 53 W.heap.size w6 (.slice (some ⟨g2,0,none⟩) (sq.length+1) cap2) (sq ++ [qn]) from ItemsOwn.snoc jN (v':=.slice (some ⟨g2,0,none⟩) (sq.length+1) cap2) HOF.out qn WX.heap.size g (by have:=HGH.out;omega) (Nat.le_of_lt (qx HXG.out)) (fun b hb hbg=>by
        have h1:=HOB.out b hb
        have:=HGH.out
        omega) (by rw [HQN.out];exact ⟨HC5.out,HS5.out⟩) HG6.out HO6.out (by
        rcases HA6.out with h|h
        · exact .inl h.symm
        · exact .inr ⟨g2,rfl,by omega⟩))
       have HBN:=Lh (below_grown HBW5.out hw5 HG6.out (fun b hb=>(HOW.out.lt b hb).1))
       have HLN:=Lh (show (sq ++ [qn]).length=sq.length+1 from by rw [List.length_append];rfl)
       have HMP:=Lh (show (sq ++ [qn]).map (·.1)=sq.map (·.1) ++ [⟨nm,⟨thr,xid⟩,tm⟩] from by rw [List.map_append,HQN.out];rfl)
       have z3:=(World.cell?_of_block (w:=w') (w':=w6) (a:=⟨wr.heap.size,3,none⟩) (HG6.out.block wr.heap.size (by have:=HGH.out;omega) (fun e=>by have:=HOB.out _ e.symm;omega))).trans HZX.out.2.2.2.1
       clear HO6 HG6 HA6 HOW HOF HZX
       cases tm with
       | true =>
        rw [if_pos rfl] at HGL
        have HNIL:=Lh (show G=(sq ++ [qn]).map (·.1) from by rw [HGE.out,HGL.out,HMP.out];rfl)
        go_wp2
        go_ret
        have hlen:G.length=sq.length+1:=by rw [HNIL.out,List.length_map,HLN.out]
        exact ⟨some ⟨g2,0,none⟩,cap2,sq ++ [qn],by rw [hlen];rfl,HNIL.out.symm,ItemsOwn.mono (by rw [hlen];exact HON.out) HB.out.size,HB.out.trans (HBN.out.mono HB.out.size)⟩
       | false =>
        rw [if_neg (by decide)] at HGL
        go_wp2
        go_roundw
        case rel=>exact ⟨k+1,some ⟨g2,0,none⟩,cap2,sq ++ [qn],by omega,by rw [HLN.out];omega,by go_num,by rw [HLN.out],by rw [HGE.out,HGL.out,HMP.out,List.append_assoc];rfl,HON.out,HBN.out⟩
        case measure=>simp [intOf];omega
   · have m3:decide ((k:Int)<(nn:Int))=false:=by simpa using hlt
     have HNIL:=Lh (show G=sq.map (·.1) from by
      rw [HGE.out,List.drop_eq_nil_of_le (by rw [← HNN.out];omega)]
      simp [xI])
     go_wp2
     go_ret
     have hlen:G.length=sq.length:=by rw [HNIL.out,List.length_map]
     exact ⟨a7,c7,sq,by rw [hlen];rfl,HNIL.out.symm,ItemsOwn.mono (by rw [hlen];exact HO.out) HB.out.size,HB.out.trans (HBR.out.mono HB.out.size)⟩
set_option maxHeartbeats 2000000 in
set_option maxRecDepth 100000 in
theorem ww (l:List Key2) (rs:List DelegV) (t bits:Int) (ids:List ByteArray) (pre path:ByteArray) (ka ra ba:Option Addr) (kc rc bc:Nat) (L:List ByteArray) (la:Option Addr) (lc:Nat) (w:World) (hI:DelegsIn w 0 w.heap.size ⟨l,rs,⟨bits,pre,⟨t,ids⟩⟩⟩ ka ra ba) (hf:DelegsFits ⟨l,rs,⟨bits,pre,⟨t,ids⟩⟩⟩) (hrc:rs.length≤rc) (hp:path.size≤4294967296) (hT:Tabs w)
 (hL:qw w 0 w.heap.size la L) (hl:L.length≤1000) :
 Calls Tryz.prog 49 #[.agg #[.slice ka l.length kc,.slice ra rs.length rc,.int .i64 t,.slice ba ids.length bc,.int .i64 bits,.string pre],.string path,.slice la L.length lc] w fun e w'=>e=.returned (.bool (decide ((xg runes ⟨l,rs,⟨bits,pre,⟨t,ids⟩⟩⟩ path).map (·.name)=L)))∧Below w.heap.size w w':=by
 obtain ⟨W,hW⟩:∃W,W=w.alloc (.cells #[.slice ka l.length kc,.slice ra rs.length rc,.int .i64 t,.slice ba ids.length bc,.int .i64 bits,.string pre] 35):=⟨_,rfl⟩
 have hb:Below w.heap.size w W:=by rw [hW];exact (Below.refl _ _).alloc lz _
 have hx:W.heap[w.heap.size]?=some (.cells #[.slice ka l.length kc,.slice ra rs.length rc,.int .i64 t,.slice ba ids.length bc,.int .i64 bits,.string pre] 35 (0,0)):=by rw [hW];exact heap_alloc_new w _
 have HG:=Lh (pE l rs t bits ids pre path ka ra ba kc rc bc W (hI.below hb lz lz hb.size) hf hrc hp (hT.below hb))
 have HL:=Lh (hL.below hb lz lz hb.size)
 obtain ⟨S,hS⟩:∃S,S=xg runes ⟨l,rs,⟨bits,pre,⟨t,ids⟩⟩⟩ path:=⟨_,rfl⟩
 rw [← hS] at HG ⊢
 obtain ⟨q,hq⟩:∃q,q=decide (S.map (·.name)=L):=⟨_,rfl⟩
 have HQ:=Lh hq
 rw [← hq]
 have HB:=Lh hb
 have HW:=Lh hW
 have q0:=qq hx (j:=0) rfl;have q1:=qq hx (j:=1) rfl;have q2:=qq hx (j:=2) rfl;have q3:=qq hx (j:=3) rfl;have q4:=qq hx (j:=4) rfl;have q5:=qq hx (j:=5) rfl
 clear hb hW hx hI hf hrc hp hT hL hS hq
 go_enter Tryz.func49,Tryz.ntmps49
 go_upto_region 1 with fail
 rw [← HW.out]
 clear HW
 go_wp2_with fail
 refine HG.out.mono ?_
 clear HG q0 q1 q2 q3 q4 q5
 rintro e w1 ⟨a,c,qs,rfl,hqs,hown,hb1⟩
 have HST:=Lh (zW.steps hown hqs)
 have HB1:=Lh (HB.out.trans (hb1.mono HB.out.size))
 replace HL:=Lh (HL.out.below hb1 lz lz hb1.size)
 clear hown hqs hb1
 by_cases hlm:S.length=L.length
 case neg =>
  have n2:((S.length:Int) != (L.length:Int))=true:=by simp;omega
  have HD:=Lh (show q=false from by rw [HQ.out];exact decide_eq_false fun e=>hlm (by rw [← e,List.length_map]))
  clear hlm
  go_wp2
  go_ret
  exact ⟨qz HD.out.symm,HB1.out⟩
 obtain ⟨n,hn⟩:∃n,n=S.length:=⟨_,rfl⟩
 have HNL:=Lh hn
 have HNM:=Lh (show n=L.length by rw [hn,hlm])
 rw [← hlm,← hn]
 have hnb:n≤1000:=by omega
 have n2:((n:Int) != (n:Int))=false:=by simp
 clear hlm hn hl
 go_wp2_with fail
 go_loopw [8] (fun i wr=>∃k:Nat,k≤n∧i=.int .i64 k∧(S.map (·.name)).take k=L.take k∧Below w1.heap.size w1 wr) (fun i _=>n - (intOf i).toNat)
 case atStart=>exact ⟨0,by omega,rfl,rfl,Below.refl _ _⟩
 case round =>
  obtain ⟨k,hk,rfl,htk,hbk⟩:=hrel
  have HTK:=Lh htk
  have HBK:=Lh hbk
  clear htk hbk
  by_cases hlt:k<n
  · have hkl:k<S.length:=by rw [← HNL.out];exact hlt
    have hkm:k<L.length:=by rw [← HNM.out];exact hlt
    obtain ⟨p,f,ha,_,hp,ia,ic,e0,e1,e2,e3,-,-⟩:=(HST.out.below HBK.out lz lz HBK.out.size).at k hkl
    subst ha
    obtain ⟨p2,g,ha,_,hq2,f0⟩:=(HL.out.below HBK.out lz lz HBK.out.size).at k hkm
    subst ha
    have hmp:(S.map (·.name))[k]'(by rw [List.length_map];exact hkl)=S[k].name:=List.getElem_map ..
    have HTS:=Lh (show S[k].name=L[k]→(S.map (·.name)).take (k+1)=L.take (k+1) from fun e=>by rw [List.take_succ_eq_append_getElem (by rw [List.length_map];exact hkl),List.take_succ_eq_append_getElem hkm,HTK.out,hmp,e])
    have HNE:=Lh (show S[k].name≠L[k]→q=false from fun e=>by
     rw [HQ.out]
     refine decide_eq_false fun e2=>e ?_
     rw [← hmp]
     subst e2
     rfl)
    obtain ⟨x,hx⟩:∃x:ByteArray,x=S[k].name:=⟨_,rfl⟩
    obtain ⟨y,hy⟩:∃y:ByteArray,y=L[k]:=⟨_,rfl⟩
    replace e0:=e0.trans (congrArg (fun z:ByteArray=>some (Value.string z)) hx.symm)
    replace f0:=f0.trans (congrArg (fun z:ByteArray=>some (Value.string z)) hy.symm)
    rw [← hx,← hy] at HTS HNE
    clear hx hy hmp e1 e2 e3
    have m1:(0:Int)≤(k:Int):=by omega
    have m2:(k:Int)<(n:Int):=by omega
    have m3:decide ((k:Int)<(n:Int))=true:=by simpa using hlt
    cases h1:(x.toList == y.toList)
    · have HR:=Lh (HNE.out fun e=>by rw [e] at h1;simp at h1)
      go_wp2_with fail
      go_quiet (fail)
      go_wp2
      go_ret
      exact ⟨qz HR.out.symm,Below.drewN (HB1.out.trans (HBK.out.mono HB1.out.size)) _⟩
    · have HEQ:=Lh (HTS.out (by rw [ba_eq,decide_eq_true_eq] at h1;exact h1))
      go_wp2_with fail
      go_quiet (fail)
      go_wp2
      go_roundw
      case rel=>exact ⟨k+1,by omega,by go_num,HEQ.out,Below.drewN HBK.out _⟩
      case measure=>simp [intOf];omega
  · obtain rfl:k=n:=by omega
    have m3:decide ((k:Int)<(k:Int))=false:=by simp
    have HR:=Lh (show q=true by
     rw [HQ.out]
     have:=HTK.out
     rw [List.take_of_length_le (by rw [List.length_map,← HNL.out];exact Nat.le_refl _),List.take_of_length_le (by rw [← HNM.out];exact Nat.le_refl _)] at this
     exact decide_eq_true this)
    go_wp2
    go_ret
    exact ⟨qz HR.out.symm,HB1.out.trans (HBK.out.mono HB1.out.size)⟩
end Go.Proofs.YthgembbgcbaghaaGreatDoor

namespace Go.Proofs.YthgembbgcbaghaaGreatDoor
open Go.RowKit
set_option maxHeartbeats 1000000 in
set_option maxRecDepth 100000 in
theorem lG (l m:List Key2) (a b:Option Addr) (c d:Nat) (w:World) (hA:zP w 0 w.heap.size a l) (hB:zP w 0 w.heap.size b m) (hl:l.length≤4294967296) (_hm:m.length≤4294967296) :
 Calls Tryz.prog 69 #[.slice a l.length c,.slice b m.length d] w fun e w'=>e=.returned (.bool (decide (l=m)))∧Below w.heap.size w w':=by
 have HA:=Lh hA
 have HB:=Lh hB
 clear hA hB
 by_cases hlm:l.length=m.length
 case neg =>
  have h1:((l.length:Int) != (m.length:Int))=true:=by simp;omega
  have HD:=Lh (show decide (l=m)=false from decide_eq_false fun e=>hlm (by rw [e]))
  go_enter Tryz.func69,Tryz.ntmps69
  go_wp2
  go_ret
  exact ⟨by rw [HD.out];rfl,Below.refl _ _⟩
 obtain ⟨n,hn⟩:∃n,n=l.length:=⟨_,rfl⟩
 have HNL:=Lh hn
 have HNM:=Lh (show n=m.length by rw [hn,hlm])
 rw [← hlm,← hn]
 have hnb:n≤4294967296:=by omega
 clear hlm hn hl
 go_enter Tryz.func69,Tryz.ntmps69
 go_wp2_with fail
 go_loopw [5] (fun i wr=>∃k:Nat,k≤n∧i=.int .i64 k∧l.take k=m.take k∧Below w.heap.size w wr) (fun i _=>n - (intOf i).toNat)
 case atStart=>exact ⟨0,by omega,rfl,rfl,Below.refl _ _⟩
 case round =>
  obtain ⟨k,hk,rfl,htk,hbk⟩:=hrel
  have HTK:=Lh htk
  have HBK:=Lh hbk
  clear htk hbk
  by_cases hlt:k<n
  · have hkl:k<l.length:=by rw [← HNL.out];exact hlt
    have hkm:k<m.length:=by rw [← HNM.out];exact hlt
    obtain ⟨p,f,ha,_,hp,e0,e1⟩:=(HA.out.below HBK.out lz lz lz).at k hkl
    subst ha
    obtain ⟨q,g,ha,_,hq,f0,f1⟩:=(HB.out.below HBK.out lz lz lz).at k hkm
    subst ha
    have HTS:=Lh (show l[k]=m[k]→l.take (k+1)=m.take (k+1) from fun e=>by rw [List.take_succ_eq_append_getElem hkl,List.take_succ_eq_append_getElem hkm,HTK.out,e])
    have HNE:=Lh (show l[k]≠m[k]→decide (l=m)=false from fun e=>decide_eq_false fun e2=>e (by subst e2;rfl))
    obtain ⟨x,hx⟩:∃x:Key2,x=l[k]:=⟨_,rfl⟩
    obtain ⟨y,hy⟩:∃y:Key2,y=m[k]:=⟨_,rfl⟩
    replace e0:=e0.trans (congrArg (fun z:Key2=>some (Value.string z.1)) hx.symm)
    replace e1:=e1.trans (congrArg (fun z:Key2=>some (Value.string z.2)) hx.symm)
    replace f0:=f0.trans (congrArg (fun z:Key2=>some (Value.string z.1)) hy.symm)
    replace f1:=f1.trans (congrArg (fun z:Key2=>some (Value.string z.2)) hy.symm)
    rw [← hx,← hy] at HTS HNE
    clear hx hy
    obtain ⟨xs,xp⟩:=x
    obtain ⟨ys,yp⟩:=y
    replace e0:wr.cell? ⟨p,f+k * 2,none⟩=some (.string xs):=e0
    replace e1:wr.cell? ⟨p,f+k * 2+1,none⟩=some (.string xp):=e1
    replace f0:wr.cell? ⟨q,g+k * 2,none⟩=some (.string ys):=f0
    replace f1:wr.cell? ⟨q,g+k * 2+1,none⟩=some (.string yp):=f1
    have m1:(0:Int)≤(k:Int):=by omega
    have m2:(k:Int)<(n:Int):=by omega
    have m3:decide ((k:Int)<(n:Int))=true:=by simpa using hlt
    cases h1:(xs.toList == ys.toList)
    · have HR:=Lh (HNE.out fun e=>by rw [(Prod.mk.inj e).1] at h1;simp at h1)
      go_wp2_with fail
      go_quiet (fail)
      go_wp2
      go_ret
      exact ⟨by rw [HR.out];rfl,Below.drewN HBK.out _⟩
    · cases h2:(xp.toList == yp.toList)
      · have HR:=Lh (HNE.out fun e=>by rw [(Prod.mk.inj e).2] at h2;simp at h2)
        go_wp2_with fail
        go_quiet (fail)
        go_wp2
        go_ret
        exact ⟨by rw [HR.out];rfl,Below.drewN HBK.out _⟩
      · have HR:=Lh (HTS.out (by rw [yg (eq_of_beq h1),yg (eq_of_beq h2)]))
        go_wp2_with fail
        go_quiet (fail)
        go_wp2
        go_roundw
        case rel=>exact ⟨k+1,by omega,by go_num,HR.out,Below.drewN HBK.out _⟩
        case measure=>simp [intOf];omega
  · have m3:decide ((k:Int)<(n:Int))=false:=by simpa using hlt
    have HR:=Lh (show decide (l=m)=true from decide_eq_true (by
     have:=HTK.out
     rwa [List.take_of_length_le (by rw [← HNL.out];omega),List.take_of_length_le (by rw [← HNM.out];omega)] at this))
    go_wp2
    go_ret
    exact ⟨by rw [HR.out];rfl,HBK.out⟩
end Go.Proofs.YthgembbgcbaghaaGreatDoor

namespace Go.Proofs.YthgembbgcbaghaaGreatDoor
open Go.RowKit Go.Shelf Go.Sort
set_option maxHeartbeats 1000000 in
set_option maxRecDepth 100000 in
theorem kD (l m:List ByteArray) (a b:Option Addr) (c d:Nat) (w:World) (hA:qw w 0 w.heap.size a l) (hB:qw w 0 w.heap.size b m) (hl:l.length≤4294967296) :
 Calls Tryz.prog 35 #[.slice a l.length c,.slice b m.length d] w fun e w'=>e=.returned (.bool (decide (l=m)))∧∃n,w'=w.drewN n:=by
 have HA:=Lh hA
 have HBB:=Lh hB
 clear hA hB
 by_cases hlm:l.length=m.length
 case neg =>
  have n2:((l.length:Int) != (m.length:Int))=true:=by simp;omega
  have HD:=Lh (show decide (l=m)=false from decide_eq_false fun e=>hlm (by rw [e]))
  clear hlm
  go_enter Tryz.func35,Tryz.ntmps35
  go_wp2
  go_ret
  exact ⟨qz HD.out.symm,0,rfl⟩
 obtain ⟨n,hn⟩:∃n,n=l.length:=⟨_,rfl⟩
 have HNL:=Lh hn
 have HNM:=Lh (show n=m.length by rw [hn,hlm])
 rw [← hlm,← hn]
 have hnb:n≤4294967296:=by omega
 have n2:((n:Int) != (n:Int))=false:=by simp
 clear hlm hn hl
 go_enter Tryz.func35,Tryz.ntmps35
 go_wp2_with fail
 go_loopw [5] (fun i wr=>∃k:Nat,k≤n∧i=.int .i64 k∧l.take k=m.take k∧∃z,wr=w.drewN z) (fun i _=>n - (intOf i).toNat)
 case atStart=>exact ⟨0,by omega,rfl,rfl,0,rfl⟩
 case round =>
  obtain ⟨k,hk,rfl,htk,z,rfl⟩:=hrel
  have HTK:=Lh htk
  clear htk
  by_cases hlt:k<n
  · have hkl:k<l.length:=by rw [← HNL.out];exact hlt
    have hkm:k<m.length:=by rw [← HNM.out];exact hlt
    obtain ⟨p,f,ha,_,hp,e0⟩:=HA.out.at k hkl
    subst ha
    obtain ⟨q2,g,ha,_,hq2,f0⟩:=HBB.out.at k hkm
    subst ha
    have HTS:=Lh (show l[k]=m[k]→l.take (k+1)=m.take (k+1) from fun e=>by rw [List.take_succ_eq_append_getElem hkl,List.take_succ_eq_append_getElem hkm,HTK.out,e])
    have HNE:=Lh (show l[k]≠m[k]→decide (l=m)=false from fun e=>decide_eq_false fun e2=>e (by subst e2;rfl))
    obtain ⟨x,hx⟩:∃x:ByteArray,x=l[k]:=⟨_,rfl⟩
    obtain ⟨y,hy⟩:∃y:ByteArray,y=m[k]:=⟨_,rfl⟩
    replace e0:=e0.trans (congrArg (fun z:ByteArray=>some (Value.string z)) hx.symm)
    replace f0:=f0.trans (congrArg (fun z:ByteArray=>some (Value.string z)) hy.symm)
    rw [← hx,← hy] at HTS HNE
    clear hx hy
    have m1:(0:Int)≤(k:Int):=by omega
    have m2:(k:Int)<(n:Int):=by omega
    have m3:decide ((k:Int)<(n:Int))=true:=by simpa using hlt
    cases h1:(x.toList == y.toList)
    · have HR:=Lh (HNE.out fun e=>by rw [e] at h1;simp at h1)
      go_wp2_with fail
      go_quiet (fail)
      go_wp2
      go_ret
      exact ⟨qz HR.out.symm,_,World.drewN_drewN ..⟩
    · have HEQ:=Lh (HTS.out (by rw [ba_eq,decide_eq_true_eq] at h1;exact h1))
      go_wp2_with fail
      go_quiet (fail)
      go_wp2
      go_roundw
      case rel=>exact ⟨k+1,by omega,by go_num,HEQ.out,_,rfl⟩
      case measure=>simp [intOf];omega
  · obtain rfl:k=n:=by omega
    have HR:=Lh (show decide (l=m)=true by
     have:=HTK.out
     rw [List.take_of_length_le (by rw [← HNL.out];exact Nat.le_refl _),List.take_of_length_le (by rw [← HNM.out];exact Nat.le_refl _)] at this
     exact decide_eq_true this)
    go_wp2
    go_ret
    exact ⟨qz HR.out.symm,z,rfl⟩
end Go.Proofs.YthgembbgcbaghaaGreatDoor

namespace Go.Proofs.YthgembbgcbaghaaGreatDoor
open Go.RowKit
set_option maxHeartbeats 2000000 in
set_option maxRecDepth 100000 in
theorem nH (v:JV) (x:Value) (w:World) (lo:Nat) (hlo:0<lo) (hN:v.wt≤4294967296) (hR:Rep w lo w.heap.size v x) (hT:Tabs w) :
 Calls Tryz.prog 61 #[x] w (uO v w):=by
 obtain ⟨an,cn,ai,ci,hx,h1,h2,h3,h4⟩:=hR.parts
 have HR:=Lh hR
 have HLO:=Lh hlo
 clear hlo
 have H3:=Lh h3
 have H4:=Lh h4
 obtain ⟨b1,b2,b3,b4⟩:=v.wt_bd
 clear h1 h2 h3 h4 hR
 subst hx
 have HT:=Lh hT
 clear hT
 have HB0:=Lh (show Below w.heap.size w (w.alloc (.cells #[.int .u8 v.kind,.int .i64 v.n,.string v.t,.slice an v.names.length cn,.slice ai v.items.length ci] 25)) from (Below.refl _ _).alloc lz _)
 have HX0:=Lh (heap_alloc_new w (.cells #[.int .u8 v.kind,.int .i64 v.n,.string v.t,.slice an v.names.length cn,.slice ai v.items.length ci] 25))
 have HM:=Lh (kj v _ (w.alloc (.cells #[.int .u8 v.kind,.int .i64 v.n,.string v.t,.slice an v.names.length cn,.slice ai v.items.length ci] 25)) hN (HR.out.below HB0.out lz (Nat.zero_le _) (by simp)))
 cases hm:v.mayB
 · have HK:=Lh (show xm v=([],3) by unfold xm;rw [if_pos hm])
   rw [hm] at HM
   clear hm
   go_enter Tryz.func61,Tryz.ntmps61
   go_wp2_with fail
   refine HM.out.mono ?_
   rintro e w1 ⟨rfl,hb1⟩
   have HB1:=Lh (HB0.out.trans (hb1.mono (by simp)))
   clear hb1
   go_wp2
   go_ret2
   exact ⟨.slice none 0 0,by rw [HK.out] <;> rfl,by rw [HK.out];exact World.ownsRow_nil _ _ _ _,HB1.out⟩
 rw [hm] at HM
 have HMB:=Lh hm
 clear hm
 by_cases hk5:v.kind=5
 case neg =>
  have HK:=Lh (show xm v=([],10) by unfold xm;rw [if_neg (by simp [HMB.out]),if_pos hk5])
  have t1:(v.kind != 5)=true:=by simpa using hk5
  clear hk5
  go_enter Tryz.func61,Tryz.ntmps61
  go_wp2_with fail
  refine HM.out.mono ?_
  rintro e w1 ⟨rfl,hb1⟩
  have hx1:w1.heap[w.heap.size]?=some (.cells #[.int .u8 v.kind,.int .i64 v.n,.string v.t,.slice an v.names.length cn,.slice ai v.items.length ci] 25 (0,0)):=by rw [hb1.block _ (by simp)];exact HX0.out
  have HB1:=Lh (HB0.out.trans (hb1.mono (by simp)))
  have c0:w1.cell? ⟨w.heap.size,0,none⟩=some (.int .u8 v.kind):=qq hx1 rfl
  clear hb1 hx1
  go_wp2
  go_ret2
  exact ⟨.slice none 0 0,by rw [HK.out] <;> rfl,by rw [HK.out];exact World.ownsRow_nil _ _ _ _,HB1.out⟩
 have t1:(v.kind != 5)=false:=by simpa using hk5
 obtain ⟨_,hll,_⟩:=cP HMB.out hk5
 have HK5:=Lh hk5
 clear hk5
 obtain ⟨nn,hnn⟩:∃nn,nn=v.names.length:=⟨_,rfl⟩
 rw [← hll,← hnn] at HM HX0 HB0
 rw [← hll,← hnn]
 have HNN:=Lh hnn
 have HNI:=Lh (show v.items.length=nn by rw [hnn,hll])
 clear hnn hll
 by_cases h32:nn≤32
 case neg =>
  have HK:=Lh (show xm v=([],5) by unfold xm;rw [if_neg (by simp [HMB.out]),if_neg (by simp [HK5.out]),if_pos (by rw [← HNN.out];omega)])
  have t2:decide (32<(nn:Int))=true:=by simp;omega
  go_enter Tryz.func61,Tryz.ntmps61
  go_wp2_with fail
  refine HM.out.mono ?_
  rintro e w1 ⟨rfl,hb1⟩
  have hx1:w1.heap[w.heap.size]?=some (.cells #[.int .u8 v.kind,.int .i64 v.n,.string v.t,.slice an nn cn,.slice ai nn ci] 25 (0,0)):=by rw [hb1.block _ (by simp)];exact HX0.out
  have HB1:=Lh (HB0.out.trans (hb1.mono (by simp)))
  have c0:w1.cell? ⟨w.heap.size,0,none⟩=some (.int .u8 v.kind):=qq hx1 rfl
  have c3:w1.cell? ⟨w.heap.size,3,none⟩=some (.slice an nn cn):=qq hx1 rfl
  clear hb1 hx1
  go_wp2
  go_ret2
  exact ⟨.slice none 0 0,by rw [HK.out] <;> rfl,by rw [HK.out];exact World.ownsRow_nil _ _ _ _,HB1.out⟩
 have t2:decide (32<(nn:Int))=false:=by simp;omega
 have HKJ:=Lh (show xm v=jv v.names v.items [] by unfold xm;rw [if_neg (by simp [HMB.out]),if_neg (by simp [HK5.out]),if_neg (by rw [← HNN.out];omega)])
 obtain ⟨i3,hi3,iz0,iz1,iz2⟩:=info_parts nR
 go_enter Tryz.func61,Tryz.ntmps61
 go_wp2_with fail
 refine HM.out.mono ?_
 clear HM
 rintro e w1 ⟨rfl,hb1⟩
 have hx1:w1.heap[w.heap.size]?=some (.cells #[.int .u8 v.kind,.int .i64 v.n,.string v.t,.slice an nn cn,.slice ai nn ci] 25 (0,0)):=by rw [hb1.block _ (by simp)];exact HX0.out
 have HX1:=Lh hx1
 have HB1:=Lh (HB0.out.trans (hb1.mono (by simp)))
 have hz1:w.heap.size<w1.heap.size:=qx hx1
 have c0:w1.cell? ⟨w.heap.size,0,none⟩=some (.int .u8 v.kind):=qq hx1 rfl
 have c3:w1.cell? ⟨w.heap.size,3,none⟩=some (.slice an nn cn):=qq hx1 rfl
 clear hb1 hx1 HB0 HX0
 go_wp2_with fail
 clear c0 c3
 go_loopw [4,5,6,7,8,9,23] (fun ks _ _ _ _ _ i wr=>∃(k:Nat) (acc:List Key2),k≤nn∧i=.int .i64 k∧acc.length=k∧xm v=jv (v.names.drop k) (v.items.drop k) acc∧wr.ownsRow w1.heap.size 43 2 ks k (acc.flatMap yv)∧Below w1.heap.size w1 wr) (fun ks _ _ _ _ _ i _=>nn - (intOf i).toNat)
 case atStart=>exact ⟨0,[],by omega,rfl,rfl,HKJ.out,World.ownsRow_nil _ _ _ _,Below.refl _ _⟩
 case round =>
  obtain ⟨k,acc,hk,rfl,hac,hkj,hown,hbel⟩:=hrel
  obtain ⟨am,cm,hv0,_⟩:=ph hown hac.symm
  rw [hac] at hv0
  subst hv0
  have HKK:=Lh hkj
  have HO:=Lh hown
  have HB:=Lh hbel
  have HBT:=Lh (HB1.out.trans (hbel.mono HB1.out.size))
  have hzw:w1.heap.size≤wr.heap.size:=hbel.size
  have hxw:wr.heap[w.heap.size]?=some (.cells #[.int .u8 v.kind,.int .i64 v.n,.string v.t,.slice an nn cn,.slice ai nn ci] 25 (0,0)):=by rw [hbel.block _ hz1];exact HX1.out
  have HXW:=Lh hxw
  have c3:wr.cell? ⟨w.heap.size,3,none⟩=some (.slice an nn cn):=qq hxw rfl
  have c4:wr.cell? ⟨w.heap.size,4,none⟩=some (.slice ai nn ci):=qq hxw rfl
  clear hkj hown hbel hxw
  by_cases hlt:k<nn
  · have hlv:k<v.names.length:=by rw [← HNN.out];exact hlt
    have hli:k<v.items.length:=by rw [HNI.out];exact hlt
    have HST:=Lh (mU v.names v.items k acc hlv hli)
    obtain ⟨p,f,ha,_,hpb,y1⟩:=(H3.out.below HBT.out lz lz lz).at k hlv
    subst ha
    obtain ⟨p',f',e0,e1,e2,e3,e4,ha,_,hpb',g0,g1,g2,g3,g4,hr⟩:=(H4.out.below HBT.out lz lz lz).at k hli
    subst ha
    have hw1:=JV.wts_get v.items k hli
    have HOF:=Lh (keyOf v.items[k] _ wr lo w.heap.size (by omega) (by have:=HBT.out.size;omega) hr fun _ _ _ _=>.inl HLO.out)
    unfold pY at HOF
    have HKO:=Lh (@dB v.items[k])
    obtain ⟨K,hK⟩:∃K,K=zv v.items[k]:=⟨_,rfl⟩
    obtain ⟨nk,hnk⟩:∃nk,nk=v.names[k]:=⟨_,rfl⟩
    rw [← hK] at HOF HKO
    replace HST:=Lh (HST.out.trans (congrArg (fun z=>pJ z v.names[k] (v.names.drop (k+1)) (v.items.drop (k+1)) acc) hK.symm))
    replace HST:=Lh (HST.out.trans (congrArg (fun z=>pJ K z (v.names.drop (k+1)) (v.items.drop (k+1)) acc) hnk.symm))
    replace y1:=y1.trans (congrArg (fun z=>some (Value.string z)) hnk.symm)
    clear hK hnk hr hw1 hlv hli
    obtain ⟨⟨sch,kp⟩,ke⟩:=K
    have q0:(0:Int)≤(k:Int):=by omega
    have q1:(k:Int)<(nn:Int):=by omega
    by_cases hke:ke=0
    case neg =>
     have t3:(ke != 0)=true:=by simpa using hke
     have HKE:=Lh (show xm v=([],ke) by rw [HKK.out,HST.out];unfold pJ;rw [if_pos hke])
     clear hke
     go_wp2_with fail
     refine HOF.out.mono ?_
     rintro e w2 ⟨rfl,hb2⟩
     have HB2:=Lh ((HBT.out.trans (hb2.mono HBT.out.size)).alloc (by have:=HBT.out.size;have:=hb2.size;omega) (.cells #[.string sch,.string kp] 43))
     clear hb2
     go_wp2
     go_ret2
     exact ⟨.slice none 0 0,by rw [HKE.out] <;> rfl,by rw [HKE.out];exact World.ownsRow_nil _ _ _ _,HB2.out⟩
    subst hke
    obtain ⟨hok,hsz1,hsz2⟩:=HKO.out rfl
    replace hok:ze sch.data.toList kp.data.toList=true:=hok
    replace hsz1:sch.size≤64:=hsz1
    replace hsz2:kp.size≤128:=hsz2
    go_wp2_with fail
    refine HOF.out.mono ?_
    clear HOF
    rintro e w2 ⟨rfl,hb2⟩
    have hz2:wr.heap.size≤w2.heap.size:=hb2.size
    obtain ⟨W2,hW2⟩:∃W2,W2=w2.alloc (.cells #[.string sch,.string kp] 43):=⟨_,rfl⟩
    have hb22:Below wr.heap.size wr W2:=by rw [hW2];exact hb2.alloc hb2.size _
    have HB2:=Lh (HB.out.trans (hb22.mono hzw))
    have HBT2:=Lh (HBT.out.trans (hb22.mono HBT.out.size))
    have HO2:=Lh (qB HO.out hb22)
    have HX2:=Lh (show W2.heap[w2.heap.size]?=some (.cells #[.string sch,.string kp] 43 (0,0)) by rw [hW2];exact heap_alloc_new w2 _)
    have HID:=Lh (cT sch kp W2 (by omega) (by omega) (HT.out.below HBT2.out))
    unfold jf at HID
    rw [hok,if_pos rfl] at HID
    obtain ⟨ID,hID⟩:∃ID:ByteArray,ID=⟨(jX sch.data.toList kp.data.toList).toArray⟩:=⟨_,rfl⟩
    rw [← hID] at HID
    replace HST:=Lh (show jv (v.names.drop k) (v.items.drop k) acc=if (ID.toList == nk.toList)=true then jv (v.names.drop (k+1)) (v.items.drop (k+1)) (acc ++ [(sch,kp)]) else ([],3) by rw [HST.out];unfold pJ;rw [if_neg (by simp)];rw [hID];rfl)
    have hzW:W2.heap.size=w2.heap.size+1:=by rw [hW2];simp
    have HW2:=Lh hW2
    clear hID hok hb2 hb22 hW2
    go_wp2_with fail
    rw [← HW2.out]
    refine HID.out.mono ?_
    clear HID HW2
    rintro e w3 ⟨rfl,hb3⟩
    have hz3:W2.heap.size≤w3.heap.size:=hb3.size
    have HB3:=Lh (HB2.out.trans (hb3.mono (by omega)))
    have HBT3:=Lh (HBT2.out.trans (hb3.mono (HBT2.out.size)))
    have HO3:=Lh (qB HO2.out hb3)
    have hx3:w3.heap[w2.heap.size]?=some (.cells #[.string sch,.string kp] 43 (0,0)):=by rw [hb3.block _ (qx HX2.out)];exact HX2.out
    have x0:w3.cell? ⟨w2.heap.size,0,none⟩=some (.string sch):=qq hx3 rfl
    have x1:w3.cell? ⟨w2.heap.size,1,none⟩=some (.string kp):=qq hx3 rfl
    clear hb3 hx3 g0 g1 g2 g3 g4 c3 c4 y1
    cases hq:(ID.toList == nk.toList)
    · have t4:(ID.toList != nk.toList)=true:=by simpa [bne] using hq
      have HKE:=Lh (show xm v=([],3) by rw [HKK.out,HST.out,hq];rfl)
      go_wp2_with fail
      skip
      go_ret2
      exact ⟨.slice none 0 0,by rw [HKE.out] <;> rfl,by rw [HKE.out];exact World.ownsRow_nil _ _ _ _,HBT3.out⟩
    · have t4:(ID.toList != nk.toList)=false:=by simpa [bne] using hq
      have HKE:=Lh (show xm v=jv (v.names.drop (k+1)) (v.items.drop (k+1)) (acc ++ [(sch,kp)]) by rw [HKK.out,HST.out,hq];rfl)
      go_wp2_with (at_builtin;refine wpList_append_lies _ rfl (.tmp 51) (.tmp 53) 28 rfl w1.heap.size 43 i3 _ 2 32 Tryz.underlying28 hi3 iz0 iz1 iz2 rfl (by decide) (.slice am k cm) k (acc.flatMap yv) rfl (HO3.out.alloc _) ⟨w3.heap.size,0,none⟩ 1 1 [.string sch,.string kp] rfl rfl (World.news_of_block (cs:=#[.string sch,.string kp]) (t:=43) (fr:=(0,0)) (heap_alloc_new w3 _)) (by simp [Value.oneCell']) (by omega) (by unfold maxLen;omega) (by omega) (by simp;omega) (w3.heap.size+1) (by simp) ?_;intro g1 cap2 w6 hown6 hgrow6 hat6 hlt6;have HO6:=Lh hown6;have HG6:=Lh hgrow6;clear hown6 hgrow6 hat6)
      go_roundw
      case rel =>
       refine ⟨k+1,acc ++ [(sch,kp)],by omega,by go_num,by simp [hac],HKE.out,?_,below_grown (HB3.out.alloc (by omega) _) (by simp;omega) HG6.out (fun b hb=>(HO3.out.lt b hb).1)⟩
       rw [List.flatMap_append]
       simpa [yv] using HO6.out
      case measure=>simp [intOf];omega
  · obtain rfl:k=nn:=by omega
    have HKE:=Lh (show xm v=(acc,0) by
     rw [HKK.out,List.drop_of_length_le (by rw [← HNN.out];exact Nat.le_refl _),dP])
    go_wp2
    go_ret2
    exact ⟨_,by rw [HKE.out] <;> rfl,by rw [HKE.out];have:=vd (base':=w.heap.size) HO.out (Nat.le_of_lt hz1);show wr.ownsRow _ _ _ _ acc.length _;rw [hac];exact this,HBT.out⟩
end Go.Proofs.YthgembbgcbaghaaGreatDoor
