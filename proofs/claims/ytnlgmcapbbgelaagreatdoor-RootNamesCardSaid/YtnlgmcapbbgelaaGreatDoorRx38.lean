/- The contracts of legateref15.Same and legateref22.Same. Printed by genrootref.py. -/
import Derived.Test.YtnlgmcapbbgelaaGreatDoorRx37

namespace Go.Proofs.YtnlgmcapbbgelaaGreatDoor
open Go.RowKit
set_option maxHeartbeats 2000000 in
set_option maxRecDepth 100000 in
theorem uO (v:JV) (x:Value) (w:World) (lo:Nat) (hlo:0<lo) (hN:v.wt≤4294967296) (hR:Rep w lo w.heap.size v x) (hT:Tabs w) :
 Calls Tryz.prog 57 #[x] w (bY v w):=by
 obtain ⟨an,cn,ai,ci,hx,h1,h2,h3,h4⟩:=hR.parts
 have HR:=Lh hR
 have HLO:=Lh hlo
 clear hlo
 have H3:=Lh h3
 have H4:=Lh h4
 obtain ⟨b1,b2,b3,b4⟩:=v.wt_bd
 clear h1 h2 h3 h4 hR
 subst hx
 have HT:=Lh hT
 clear hT
 have HB0:=Lh (show Below w.heap.size w (w.alloc (.cells #[.int .u8 v.kind,.int .i64 v.n,.string v.t,.slice an v.names.length cn,.slice ai v.items.length ci] 25)) from (Below.refl _ _).alloc lz _)
 have HX0:=Lh (heap_alloc_new w (.cells #[.int .u8 v.kind,.int .i64 v.n,.string v.t,.slice an v.names.length cn,.slice ai v.items.length ci] 25))
 have HM:=Lh (kP v _ (w.alloc (.cells #[.int .u8 v.kind,.int .i64 v.n,.string v.t,.slice an v.names.length cn,.slice ai v.items.length ci] 25)) hN (HR.out.below HB0.out lz (Nat.zero_le _) (by simp)))
 cases hm:v.mayB
 · have HK:=Lh (show zL v=([],3) by unfold zL;rw [if_pos hm])
   rw [hm] at HM
   clear hm
   go_enter Tryz.func57,Tryz.ntmps57
   go_wp2_with fail
   refine HM.out.mono ?_
   rintro e w1 ⟨rfl,hb1⟩
   have HB1:=Lh (HB0.out.trans (hb1.mono (by simp)))
   clear hb1
   go_wp2
   go_ret2
   exact ⟨.slice none 0 0,by rw [HK.out] <;> rfl,by rw [HK.out];exact World.ownsRow_nil _ _ _ _,HB1.out⟩
 rw [hm] at HM
 have HMB:=Lh hm
 clear hm
 by_cases hk5:v.kind=5
 case neg =>
  have HK:=Lh (show zL v=([],10) by unfold zL;rw [if_neg (by simp [HMB.out]),if_pos hk5])
  have t1:(v.kind != 5)=true:=by simpa using hk5
  clear hk5
  go_enter Tryz.func57,Tryz.ntmps57
  go_wp2_with fail
  refine HM.out.mono ?_
  rintro e w1 ⟨rfl,hb1⟩
  have hx1:w1.heap[w.heap.size]?=some (.cells #[.int .u8 v.kind,.int .i64 v.n,.string v.t,.slice an v.names.length cn,.slice ai v.items.length ci] 25 (0,0)):=by rw [hb1.block _ (by simp)];exact HX0.out
  have HB1:=Lh (HB0.out.trans (hb1.mono (by simp)))
  have c0:w1.cell? ⟨w.heap.size,0,none⟩=some (.int .u8 v.kind):=qq hx1 rfl
  clear hb1 hx1
  go_wp2
  go_ret2
  exact ⟨.slice none 0 0,by rw [HK.out] <;> rfl,by rw [HK.out];exact World.ownsRow_nil _ _ _ _,HB1.out⟩
 have t1:(v.kind != 5)=false:=by simpa using hk5
 obtain ⟨_,hll,_⟩:=cd HMB.out hk5
 have HK5:=Lh hk5
 clear hk5
 obtain ⟨nn,hnn⟩:∃nn,nn=v.names.length:=⟨_,rfl⟩
 rw [← hll,← hnn] at HM HX0 HB0
 rw [← hll,← hnn]
 have HNN:=Lh hnn
 have HNI:=Lh (show v.items.length=nn by rw [hnn,hll])
 clear hnn hll
 by_cases h32:nn≤32
 case neg =>
  have HK:=Lh (show zL v=([],5) by unfold zL;rw [if_neg (by simp [HMB.out]),if_neg (by simp [HK5.out]),if_pos (by rw [← HNN.out];omega)])
  have t2:decide (32<(nn:Int))=true:=by simp;omega
  go_enter Tryz.func57,Tryz.ntmps57
  go_wp2_with fail
  refine HM.out.mono ?_
  rintro e w1 ⟨rfl,hb1⟩
  have hx1:w1.heap[w.heap.size]?=some (.cells #[.int .u8 v.kind,.int .i64 v.n,.string v.t,.slice an nn cn,.slice ai nn ci] 25 (0,0)):=by rw [hb1.block _ (by simp)];exact HX0.out
  have HB1:=Lh (HB0.out.trans (hb1.mono (by simp)))
  have c0:w1.cell? ⟨w.heap.size,0,none⟩=some (.int .u8 v.kind):=qq hx1 rfl
  have c3:w1.cell? ⟨w.heap.size,3,none⟩=some (.slice an nn cn):=qq hx1 rfl
  clear hb1 hx1
  go_wp2
  go_ret2
  exact ⟨.slice none 0 0,by rw [HK.out] <;> rfl,by rw [HK.out];exact World.ownsRow_nil _ _ _ _,HB1.out⟩
 have t2:decide (32<(nn:Int))=false:=by simp;omega
 have HKJ:=Lh (show zL v=xS v.names v.items [] by unfold zL;rw [if_neg (by simp [HMB.out]),if_neg (by simp [HK5.out]),if_neg (by rw [← HNN.out];omega)])
 obtain ⟨i3,hi3,iz0,iz1,iz2⟩:=info_parts np
 go_enter Tryz.func57,Tryz.ntmps57
 go_wp2_with fail
 refine HM.out.mono ?_
 clear HM
 rintro e w1 ⟨rfl,hb1⟩
 have hx1:w1.heap[w.heap.size]?=some (.cells #[.int .u8 v.kind,.int .i64 v.n,.string v.t,.slice an nn cn,.slice ai nn ci] 25 (0,0)):=by rw [hb1.block _ (by simp)];exact HX0.out
 have HX1:=Lh hx1
 have HB1:=Lh (HB0.out.trans (hb1.mono (by simp)))
 have hz1:w.heap.size<w1.heap.size:=qz hx1
 have c0:w1.cell? ⟨w.heap.size,0,none⟩=some (.int .u8 v.kind):=qq hx1 rfl
 have c3:w1.cell? ⟨w.heap.size,3,none⟩=some (.slice an nn cn):=qq hx1 rfl
 clear hb1 hx1 HB0 HX0
 go_wp2_with fail
 clear c0 c3
 go_loopw [4,5,6,7,8,9,23] (fun ks _ _ _ _ _ i wr=>∃(k:Nat) (acc:List Key2),k≤nn∧i=.int .i64 k∧acc.length=k∧zL v=xS (v.names.drop k) (v.items.drop k) acc∧wr.ownsRow w1.heap.size 38 2 ks k (acc.flatMap wM)∧Below w1.heap.size w1 wr) (fun ks _ _ _ _ _ i _=>nn - (intOf i).toNat)
 case atStart=>exact ⟨0,[],by omega,rfl,rfl,HKJ.out,World.ownsRow_nil _ _ _ _,Below.refl _ _⟩
 case round =>
  obtain ⟨k,acc,hk,rfl,hac,hkj,hown,hbel⟩:=hrel
  obtain ⟨am,cm,hv0,_⟩:=wC hown hac.symm
  rw [hac] at hv0
  subst hv0
  have HKK:=Lh hkj
  have HO:=Lh hown
  have HB:=Lh hbel
  have HBT:=Lh (HB1.out.trans (hbel.mono HB1.out.size))
  have hzw:w1.heap.size≤wr.heap.size:=hbel.size
  have hxw:wr.heap[w.heap.size]?=some (.cells #[.int .u8 v.kind,.int .i64 v.n,.string v.t,.slice an nn cn,.slice ai nn ci] 25 (0,0)):=by rw [hbel.block _ hz1];exact HX1.out
  have HXW:=Lh hxw
  have c3:wr.cell? ⟨w.heap.size,3,none⟩=some (.slice an nn cn):=qq hxw rfl
  have c4:wr.cell? ⟨w.heap.size,4,none⟩=some (.slice ai nn ci):=qq hxw rfl
  clear hkj hown hbel hxw
  by_cases hlt:k<nn
  · have hlv:k<v.names.length:=by rw [← HNN.out];exact hlt
    have hli:k<v.items.length:=by rw [HNI.out];exact hlt
    have HST:=Lh (mX v.names v.items k acc hlv hli)
    obtain ⟨p,f,ha,_,hpb,y1⟩:=(H3.out.below HBT.out lz lz lz).at k hlv
    subst ha
    obtain ⟨p',f',e0,e1,e2,e3,e4,ha,_,hpb',g0,g1,g2,g3,g4,hr⟩:=(H4.out.below HBT.out lz lz lz).at k hli
    subst ha
    have hw1:=JV.wts_get v.items k hli
    have HOF:=Lh (keyOf v.items[k] _ wr lo w.heap.size (by omega) (by have:=HBT.out.size;omega) hr fun _ _ _ _=>.inl HLO.out)
    unfold pR at HOF
    have HKO:=Lh (@dl v.items[k])
    obtain ⟨K,hK⟩:∃K,K=qN v.items[k]:=⟨_,rfl⟩
    obtain ⟨nk,hnk⟩:∃nk,nk=v.names[k]:=⟨_,rfl⟩
    rw [← hK] at HOF HKO
    replace HST:=Lh (HST.out.trans (congrArg (fun z=>pF z v.names[k] (v.names.drop (k+1)) (v.items.drop (k+1)) acc) hK.symm))
    replace HST:=Lh (HST.out.trans (congrArg (fun z=>pF K z (v.names.drop (k+1)) (v.items.drop (k+1)) acc) hnk.symm))
    replace y1:=y1.trans (congrArg (fun z=>some (Value.string z)) hnk.symm)
    clear hK hnk hr hw1 hlv hli
    obtain ⟨⟨sch,kp⟩,ke⟩:=K
    have q0:(0:Int)≤(k:Int):=by omega
    have q1:(k:Int)<(nn:Int):=by omega
    by_cases hke:ke=0
    case neg =>
     have t3:(ke != 0)=true:=by simpa using hke
     have HKE:=Lh (show zL v=([],ke) by rw [HKK.out,HST.out];unfold pF;rw [if_pos hke])
     clear hke
     go_wp2_with fail
     refine HOF.out.mono ?_
     rintro e w2 ⟨rfl,hb2⟩
     have HB2:=Lh ((HBT.out.trans (hb2.mono HBT.out.size)).alloc (by have:=HBT.out.size;have:=hb2.size;omega) (.cells #[.string sch,.string kp] 38))
     clear hb2
     go_wp2
     go_ret2
     exact ⟨.slice none 0 0,by rw [HKE.out] <;> rfl,by rw [HKE.out];exact World.ownsRow_nil _ _ _ _,HB2.out⟩
    subst hke
    obtain ⟨hok,hsz1,hsz2⟩:=HKO.out rfl
    replace hok:zl sch.data.toList kp.data.toList=true:=hok
    replace hsz1:sch.size≤64:=hsz1
    replace hsz2:kp.size≤128:=hsz2
    go_wp2_with fail
    refine HOF.out.mono ?_
    clear HOF
    rintro e w2 ⟨rfl,hb2⟩
    have hz2:wr.heap.size≤w2.heap.size:=hb2.size
    obtain ⟨W2,hW2⟩:∃W2,W2=w2.alloc (.cells #[.string sch,.string kp] 38):=⟨_,rfl⟩
    have hb22:Below wr.heap.size wr W2:=by rw [hW2];exact hb2.alloc hb2.size _
    have HB2:=Lh (HB.out.trans (hb22.mono hzw))
    have HBT2:=Lh (HBT.out.trans (hb22.mono HBT.out.size))
    have HO2:=Lh (qJ HO.out hb22)
    have HX2:=Lh (show W2.heap[w2.heap.size]?=some (.cells #[.string sch,.string kp] 38 (0,0)) by rw [hW2];exact heap_alloc_new w2 _)
    have HID:=Lh (cJ sch kp W2 (by omega) (by omega) (HT.out.below HBT2.out))
    unfold xE at HID
    rw [hok,if_pos rfl] at HID
    obtain ⟨ID,hID⟩:∃ID:ByteArray,ID=⟨(jm sch.data.toList kp.data.toList).toArray⟩:=⟨_,rfl⟩
    rw [← hID] at HID
    replace HST:=Lh (show xS (v.names.drop k) (v.items.drop k) acc=if (ID.toList == nk.toList)=true then xS (v.names.drop (k+1)) (v.items.drop (k+1)) (acc ++ [(sch,kp)]) else ([],3) by rw [HST.out];unfold pF;rw [if_neg (by simp)];rw [hID];rfl)
    have hzW:W2.heap.size=w2.heap.size+1:=by rw [hW2];simp
    have HW2:=Lh hW2
    clear hID hok hb2 hb22 hW2
    go_wp2_with fail
    rw [← HW2.out]
    refine HID.out.mono ?_
    clear HID HW2
    rintro e w3 ⟨rfl,hb3⟩
    have hz3:W2.heap.size≤w3.heap.size:=hb3.size
    have HB3:=Lh (HB2.out.trans (hb3.mono (by omega)))
    have HBT3:=Lh (HBT2.out.trans (hb3.mono (HBT2.out.size)))
    have HO3:=Lh (qJ HO2.out hb3)
    have hx3:w3.heap[w2.heap.size]?=some (.cells #[.string sch,.string kp] 38 (0,0)):=by rw [hb3.block _ (qz HX2.out)];exact HX2.out
    have x0:w3.cell? ⟨w2.heap.size,0,none⟩=some (.string sch):=qq hx3 rfl
    have x1:w3.cell? ⟨w2.heap.size,1,none⟩=some (.string kp):=qq hx3 rfl
    clear hb3 hx3 g0 g1 g2 g3 g4 c3 c4 y1
    cases hq:(ID.toList == nk.toList)
    · have t4:(ID.toList != nk.toList)=true:=by simpa [bne] using hq
      have HKE:=Lh (show zL v=([],3) by rw [HKK.out,HST.out,hq];rfl)
      go_wp2_with fail
      skip
      go_ret2
      exact ⟨.slice none 0 0,by rw [HKE.out] <;> rfl,by rw [HKE.out];exact World.ownsRow_nil _ _ _ _,HBT3.out⟩
    · have t4:(ID.toList != nk.toList)=false:=by simpa [bne] using hq
      have HKE:=Lh (show zL v=xS (v.names.drop (k+1)) (v.items.drop (k+1)) (acc ++ [(sch,kp)]) by rw [HKK.out,HST.out,hq];rfl)
      go_wp2_with (at_builtin;refine wpList_append_lies _ rfl (.tmp 51) (.tmp 53) 28 rfl w1.heap.size 38 i3 _ 2 32 Tryz.underlying28 hi3 iz0 iz1 iz2 rfl (by decide) (.slice am k cm) k (acc.flatMap wM) rfl (HO3.out.alloc _) ⟨w3.heap.size,0,none⟩ 1 1 [.string sch,.string kp] rfl rfl (World.news_of_block (cs:=#[.string sch,.string kp]) (t:=38) (fr:=(0,0)) (heap_alloc_new w3 _)) (by simp [Value.oneCell']) (by omega) (by unfold maxLen;omega) (by omega) (by simp;omega) (w3.heap.size+1) (by simp) ?_;intro g1 cap2 w6 hown6 hgrow6 hat6 hlt6;have HO6:=Lh hown6;have HG6:=Lh hgrow6;clear hown6 hgrow6 hat6)
      go_roundw
      case rel =>
       refine ⟨k+1,acc ++ [(sch,kp)],by omega,by go_num,by simp [hac],HKE.out,?_,below_grown (HB3.out.alloc (by omega) _) (by simp;omega) HG6.out (fun b hb=>(HO3.out.lt b hb).1)⟩
       rw [List.flatMap_append]
       simpa [wM] using HO6.out
      case measure=>simp [intOf];omega
  · obtain rfl:k=nn:=by omega
    have HKE:=Lh (show zL v=(acc,0) by
     rw [HKK.out,List.drop_of_length_le (by rw [← HNN.out];exact Nat.le_refl _),dr])
    go_wp2
    go_ret2
    exact ⟨_,by rw [HKE.out] <;> rfl,by rw [HKE.out];have:=k8 (base':=w.heap.size) HO.out (Nat.le_of_lt hz1);show wr.ownsRow _ _ _ _ acc.length _;rw [hac];exact this,HBT.out⟩
end Go.Proofs.YtnlgmcapbbgelaaGreatDoor

namespace Go.Proofs.YtnlgmcapbbgelaaGreatDoor
open Go.RowKit Go.Shelf Go.Sort
def dI (x:AuthV × Bool) (w:World) (e:Ending) (w':World):Prop :=
 ∃ia ic,e=.returned (.tuple #[.agg #[.int .i64 x.1.thr,.slice ia x.1.ids.length ic],.bool x.2])∧qk w' w.heap.size w'.heap.size ia x.1.ids∧Below w.heap.size w w'
theorem pT {W:World} {b c j:Nat} {v0 v1 u:Value} (hn:c≠b) (h:W.cell? ⟨c,j,none⟩=some u):((W.setCell ⟨b,0,none⟩ v0).setCell ⟨b,1,none⟩ v1).cell? ⟨c,j,none⟩=some u:=by
 rw [World.cell?_of_block (w:=W) (pl v0 v1 hn)];exact h
theorem bG:qo.toList=[114,111,111,116]:=by rw [ByteArray.toList_eq];rfl
theorem bP:zp.toList=[115,110,97,112,115,104,111,116]:=by rw [ByteArray.toList_eq];rfl
theorem bF:zO.toList=[116,97,114,103,101,116,115]:=by rw [ByteArray.toList_eq];rfl
set_option maxHeartbeats 4000000 in
set_option maxRecDepth 100000 in
theorem pI (v e:Int) (l:List Key2) (t1 t2 t3:Int) (d1 d2 d3:List ByteArray) (ka i1 i2 i3:Option Addr) (kc c1 c2 c3:Nat) (role:ByteArray) (w:World) (hI:RootIn w 0 w.heap.size ⟨v,e,l,⟨⟨t1,d1⟩,⟨t2,d2⟩,⟨t3,d3⟩⟩⟩ ka i1 i2 i3) (hf:RootFits ⟨v,e,l,⟨⟨t1,d1⟩,⟨t2,d2⟩,⟨t3,d3⟩⟩⟩) (hT:TopsW w) :
 Calls Tryz.prog 30 #[.agg #[.int .i64 v,.int .i64 e,.slice ka l.length kc,.int .i64 t1,.slice i1 d1.length c1,.int .i64 t2,.slice i2 d2.length c2,.int .i64 t3,.slice i3 d3.length c3],.string role] w (dI (xF ⟨v,e,l,⟨⟨t1,d1⟩,⟨t2,d2⟩,⟨t3,d3⟩⟩⟩ role) w):=by
 obtain ⟨W,hW⟩:∃W,W=(w.alloc (.cells #[.int .i64 v,.int .i64 e,.slice ka l.length kc,.int .i64 t1,.slice i1 d1.length c1,.int .i64 t2,.slice i2 d2.length c2,.int .i64 t3,.slice i3 d3.length c3] 32)).alloc (.cells #[.int .i64 0,.slice none 0 0] 30):=⟨_,rfl⟩
 have hb:Below w.heap.size w W:=by rw [hW];exact ((Below.refl _ _).alloc lz _).alloc (by simp) _
 have HX:=Lh (show W.heap[w.heap.size]?=some (.cells #[.int .i64 v,.int .i64 e,.slice ka l.length kc,.int .i64 t1,.slice i1 d1.length c1,.int .i64 t2,.slice i2 d2.length c2,.int .i64 t3,.slice i3 d3.length c3] 32 (0,0)) by rw [hW];exact xG w _ _)
 have hr0:W.rowIs (w.heap.size+1) 30 2 (zA (.int .i64 0) (.slice none 0 0)):=by
  have:=jj (w.alloc (.cells #[.int .i64 v,.int .i64 e,.slice ka l.length kc,.int .i64 t1,.slice i1 d1.length c1,.int .i64 t2,.slice i2 d2.length c2,.int .i64 t3,.slice i3 d3.length c3] 32)) (.int .i64 0) (.slice none 0 0) 30
  rw [show (w.alloc (.cells #[.int .i64 v,.int .i64 e,.slice ka l.length kc,.int .i64 t1,.slice i1 d1.length c1,.int .i64 t2,.slice i2 d2.length c2,.int .i64 t3,.slice i3 d3.length c3] 32)).heap.size=w.heap.size+1 by simp,← hW] at this
  exact this
 have HR0:=Lh hr0
 have HI:=Lh (show ∀w':World,Below w.heap.size w w'→RootIn w' 0 w'.heap.size ⟨v,e,l,⟨⟨t1,d1⟩,⟨t2,d2⟩,⟨t3,d3⟩⟩⟩ ka i1 i2 i3∧TopsW w' from fun w' h=>⟨hI.below h lz lz h.size,hT.below h⟩)
 have HF:=Lh hf
 have HB:=Lh hb
 have HW:=Lh hW
 have HAU:=Lh (yy v e l t1 t2 t3 d1 d2 d3 ka i1 i2 i3 kc c1 c2 c3 W)
 unfold vx at HAU
 have HV:=Lh (show xF ⟨v,e,l,⟨⟨t1,d1⟩,⟨t2,d2⟩,⟨t3,d3⟩⟩⟩ role=if qo=role then (⟨t1,d1⟩,true) else if zp=role then (⟨t2,d2⟩,true) else if zO=role then (⟨t3,d3⟩,true) else (authZ,false) from rfl)
 obtain ⟨R,hR⟩:∃R,R=xF ⟨v,e,l,⟨⟨t1,d1⟩,⟨t2,d2⟩,⟨t3,d3⟩⟩⟩ role:=⟨_,rfl⟩
 rw [← hR] at HV ⊢
 clear hI hf hb hW hT hr0 hR
 obtain ⟨x0,x1,x2,x3,x4,x5,x6,x7,x8⟩:=bx9 HX.out
 go_enter Tryz.func30,Tryz.ntmps30
 go_upto_region 1 with fail
 rw [← HW.out]
 clear HW
 go_wp2_with fail
 refine HAU.out.mono ?_
 clear HAU x0 x1 x2 x3 x4 x5 x6 x7 x8
 rintro r w1 ⟨rfl,hb1⟩
 replace HB:=Lh (HB.out.trans (hb1.mono HB.out.size))
 replace HR0:=Lh (qx hb1 HR0.out HR0.out.lt)
 clear hb1 HX
 go_wp2
 go_loopw [6,7,10] (fun _ _ i wr=>Below w1.heap.size w1 wr∧((i=.int .i64 0)∨(i=.int .i64 1∧qo≠role)∨(i=.int .i64 2∧qo≠role∧zp≠role)∨(i=.int .i64 3∧qo≠role∧zp≠role∧zO≠role))) (fun _ _ i _=>3 - (intOf i).toNat)
 case atStart=>exact ⟨Below.refl _ _,.inl rfl⟩
 case round =>
  obtain ⟨hbr,hcase⟩:=hrel
  have HBL:=Lh hbr
  have HBR:=Lh (HB.out.trans (hbr.mono HB.out.size))
  have HRR:=Lh (qx hbr HR0.out HR0.out.lt)
  clear hbr
  rcases hcase with rfl|⟨rfl,ha⟩|⟨rfl,ha,hb⟩|⟨rfl,ha,hb,hc⟩
  · have HH:=Lh (show True from trivial)
    skip
    obtain ⟨WX,hWX⟩:∃WX,WX=wr.alloc (.cells #[.int .i64 t1,.slice i1 d1.length c1] 30):=⟨_,rfl⟩
    have hbX:Below wr.heap.size wr WX:=by rw [hWX];exact (Below.refl _ _).alloc lz _
    have hxX:WX.heap[wr.heap.size]?=some (.cells #[.int .i64 t1,.slice i1 d1.length c1] 30 (0,0)):=by rw [hWX];exact heap_alloc_new wr _
    have HBX:=Lh (HBR.out.trans (hbX.mono HBR.out.size))
    have HBLX:=Lh (HBL.out.trans (hbX.mono HBL.out.size))
    have HRX:=Lh (qx hbX HRR.out HRR.out.lt)
    have HWX:=Lh hWX
    have ix:=yk t1 t2 t3 d1 d2 d3 i1 i2 i3 c1 c2 c3
    have gk:=(HI.out WX HBX.out).2.c0
    clear hWX
    by_cases hr:qo=role
    · have hc1:([114,111,111,116] == role.toList)=true:=by rw [← bG,ba_eq,decide_eq_true_eq];exact hr
      have hc2:((⟨#[114,111,111,116]⟩:ByteArray).toList == role.toList)=true:=by rw [show (⟨#[114,111,111,116]⟩:ByteArray)=qo from rfl,ba_eq,decide_eq_true_eq];exact hr
      have HV2:=Lh (show R=(⟨t1,d1⟩,true) by rw [HV.out,if_pos hr])
      have HCL:=Lh (show ∀w':World,Below WX.heap.size WX w'→Calls Tryz.prog 75 #[.slice i1 d1.length c1] w' (fun r w2=>∃ja jc,r=.returned (.slice ja d1.length jc)∧Hid (qk w2 WX.heap.size w2.heap.size ja d1)∧Hid (Below WX.heap.size WX w2)∧Hid (w2.rowIs (w.heap.size+1) 30 2 (zA (.int .i64 0) (.slice none 0 0)))∧w2.cell? ⟨w.heap.size+1,0,none⟩=some (.int .i64 0)∧w2.cell? ⟨w.heap.size+1,1,none⟩=some (.slice none 0 0)∧w2.frozen? ⟨w.heap.size+1,0,none⟩=false∧w2.frozen? ⟨w.heap.size+1,1,none⟩=false∧w2.cell? ⟨wr.heap.size,0,none⟩=some (.int .i64 t1)∧w2.cell? ⟨wr.heap.size,1,none⟩=some (.slice i1 d1.length c1)) from fun w' h=>by
       have hbw:=HBX.out.trans (h.mono HBX.out.size)
       refine (jD d1 i1 c1 w' w'.heap.size (HI.out w' hbw).1.a HF.out.a.2.1).mono ?_
       rintro r w2 ⟨ja,jc,rfl,-,hs,hb2⟩
       have h2:=h.trans (hb2.mono h.size)
       have g0:=(h2.block _ (qz hxX)).trans hxX
       have hrow:=qx h2 HRX.out HRX.out.lt
       have e0:=hrow.cell (i:=0) (by decide);have e1:=hrow.cell (i:=1) (by decide)
       exact ⟨ja,jc,rfl,Lh (hs.carry h.size lz (fun _ _ _=>rfl)),Lh h2,Lh hrow,e0,e1,hrow.frozen 0,hrow.frozen 1,qq g0 rfl,qq g0 rfl⟩)
      have z0:=qq hxX (j:=0) rfl;have z1:=qq hxX (j:=1) rfl
      have hbz:Below WX.heap.size WX WX.drew:=(Below.refl _ _).drew
      have HZX:=Lh (show w.heap.size+1<WX.heap.size from HRX.out.lt)
      have hnq:wr.heap.size≠w.heap.size+1:=by have:=HRR.out.lt;omega
      clear hr hbX hxX
      go_upto_region 4 with fail
      rw [← HWX.out]
      go_wp2_with fail
      go_region_held3 (fun w'=>w'.cell? ⟨wr.heap.size,0,none⟩=some (.int .i64 t1)∧w'.cell? ⟨wr.heap.size,1,none⟩=some (.slice i1 d1.length c1)) (first|(with_reducible exact ⟨z0,z1⟩)|(with_reducible exact ⟨pT hnq z0,pT hnq z1⟩)|(go_keep;done)) (first|(go_at_call 75;(with_reducible refine (HCL.out _ hbz).mono ?_);rintro e w5 ⟨ja,jc,rfl,HS5,HB5,HR5,r0,r1,s0,s1,z0,z1⟩))
      all_goals
       clear z0 z1
       go_wp2
       refine bodyPost_ret (qj Tryz.results30 _ _ (w.heap.size+1) 30 _ (0,0) _ rfl (qC (set2 _ _ HR5.out)) Tryz.underlying30 rfl (by kernel_rfl) _ rfl) rfl ?_
       rw [HV2.out]
       exact ⟨ja,jc,rfl,HS5.out.carry (by have:=HZX.out;omega) (Nat.le_of_eq cg.symm) (fun b h1 h2=>pl _ _ (by have:=HZX.out;omega)),xi _ _ (HBX.out.trans (HB5.out.mono HBX.out.size)) (by omega)⟩
    · have hc1:([114,111,111,116] == role.toList)=false:=by rw [← bG,ba_eq,decide_eq_false_iff_not];exact hr
      have hc2:((⟨#[114,111,111,116]⟩:ByteArray).toList == role.toList)=false:=by rw [show (⟨#[114,111,111,116]⟩:ByteArray)=qo from rfl,ba_eq,decide_eq_false_iff_not];exact hr
      have HNR:=Lh hr
      clear hr hbX hxX
      go_upto_region 4 with fail
      rw [← HWX.out]
      go_wp2
      go_roundw
      case rel=>exact ⟨HBLX.out,.inr (.inl ⟨rfl,HNR.out⟩)⟩
      case measure=>simp [intOf]
  · have HH:=Lh (show True∧qo≠role from ⟨trivial,ha⟩)
    clear ha
    obtain ⟨WX,hWX⟩:∃WX,WX=wr.alloc (.cells #[.int .i64 t2,.slice i2 d2.length c2] 30):=⟨_,rfl⟩
    have hbX:Below wr.heap.size wr WX:=by rw [hWX];exact (Below.refl _ _).alloc lz _
    have hxX:WX.heap[wr.heap.size]?=some (.cells #[.int .i64 t2,.slice i2 d2.length c2] 30 (0,0)):=by rw [hWX];exact heap_alloc_new wr _
    have HBX:=Lh (HBR.out.trans (hbX.mono HBR.out.size))
    have HBLX:=Lh (HBL.out.trans (hbX.mono HBL.out.size))
    have HRX:=Lh (qx hbX HRR.out HRR.out.lt)
    have HWX:=Lh hWX
    have ix:=yv t1 t2 t3 d1 d2 d3 i1 i2 i3 c1 c2 c3
    have gk:=(HI.out WX HBX.out).2.c1
    clear hWX
    by_cases hr:zp=role
    · have hc1:([115,110,97,112,115,104,111,116] == role.toList)=true:=by rw [← bP,ba_eq,decide_eq_true_eq];exact hr
      have hc2:((⟨#[115,110,97,112,115,104,111,116]⟩:ByteArray).toList == role.toList)=true:=by rw [show (⟨#[115,110,97,112,115,104,111,116]⟩:ByteArray)=zp from rfl,ba_eq,decide_eq_true_eq];exact hr
      have HV2:=Lh (show R=(⟨t2,d2⟩,true) by rw [HV.out,if_neg HH.out.2,if_pos hr])
      have HCL:=Lh (show ∀w':World,Below WX.heap.size WX w'→Calls Tryz.prog 75 #[.slice i2 d2.length c2] w' (fun r w2=>∃ja jc,r=.returned (.slice ja d2.length jc)∧Hid (qk w2 WX.heap.size w2.heap.size ja d2)∧Hid (Below WX.heap.size WX w2)∧Hid (w2.rowIs (w.heap.size+1) 30 2 (zA (.int .i64 0) (.slice none 0 0)))∧w2.cell? ⟨w.heap.size+1,0,none⟩=some (.int .i64 0)∧w2.cell? ⟨w.heap.size+1,1,none⟩=some (.slice none 0 0)∧w2.frozen? ⟨w.heap.size+1,0,none⟩=false∧w2.frozen? ⟨w.heap.size+1,1,none⟩=false∧w2.cell? ⟨wr.heap.size,0,none⟩=some (.int .i64 t2)∧w2.cell? ⟨wr.heap.size,1,none⟩=some (.slice i2 d2.length c2)) from fun w' h=>by
       have hbw:=HBX.out.trans (h.mono HBX.out.size)
       refine (jD d2 i2 c2 w' w'.heap.size (HI.out w' hbw).1.b HF.out.b.2.1).mono ?_
       rintro r w2 ⟨ja,jc,rfl,-,hs,hb2⟩
       have h2:=h.trans (hb2.mono h.size)
       have g0:=(h2.block _ (qz hxX)).trans hxX
       have hrow:=qx h2 HRX.out HRX.out.lt
       have e0:=hrow.cell (i:=0) (by decide);have e1:=hrow.cell (i:=1) (by decide)
       exact ⟨ja,jc,rfl,Lh (hs.carry h.size lz (fun _ _ _=>rfl)),Lh h2,Lh hrow,e0,e1,hrow.frozen 0,hrow.frozen 1,qq g0 rfl,qq g0 rfl⟩)
      have z0:=qq hxX (j:=0) rfl;have z1:=qq hxX (j:=1) rfl
      have hbz:Below WX.heap.size WX WX.drew:=(Below.refl _ _).drew
      have HZX:=Lh (show w.heap.size+1<WX.heap.size from HRX.out.lt)
      have hnq:wr.heap.size≠w.heap.size+1:=by have:=HRR.out.lt;omega
      clear hr hbX hxX
      go_upto_region 4 with fail
      rw [← HWX.out]
      go_wp2_with fail
      go_region_held3 (fun w'=>w'.cell? ⟨wr.heap.size,0,none⟩=some (.int .i64 t2)∧w'.cell? ⟨wr.heap.size,1,none⟩=some (.slice i2 d2.length c2)) (first|(with_reducible exact ⟨z0,z1⟩)|(with_reducible exact ⟨pT hnq z0,pT hnq z1⟩)|(go_keep;done)) (first|(go_at_call 75;(with_reducible refine (HCL.out _ hbz).mono ?_);rintro e w5 ⟨ja,jc,rfl,HS5,HB5,HR5,r0,r1,s0,s1,z0,z1⟩))
      all_goals
       clear z0 z1
       go_wp2
       refine bodyPost_ret (qj Tryz.results30 _ _ (w.heap.size+1) 30 _ (0,0) _ rfl (qC (set2 _ _ HR5.out)) Tryz.underlying30 rfl (by kernel_rfl) _ rfl) rfl ?_
       rw [HV2.out]
       exact ⟨ja,jc,rfl,HS5.out.carry (by have:=HZX.out;omega) (Nat.le_of_eq cg.symm) (fun b h1 h2=>pl _ _ (by have:=HZX.out;omega)),xi _ _ (HBX.out.trans (HB5.out.mono HBX.out.size)) (by omega)⟩
    · have hc1:([115,110,97,112,115,104,111,116] == role.toList)=false:=by rw [← bP,ba_eq,decide_eq_false_iff_not];exact hr
      have hc2:((⟨#[115,110,97,112,115,104,111,116]⟩:ByteArray).toList == role.toList)=false:=by rw [show (⟨#[115,110,97,112,115,104,111,116]⟩:ByteArray)=zp from rfl,ba_eq,decide_eq_false_iff_not];exact hr
      have HNR:=Lh hr
      clear hr hbX hxX
      go_upto_region 4 with fail
      rw [← HWX.out]
      go_wp2
      go_roundw
      case rel=>exact ⟨HBLX.out,.inr (.inr (.inl ⟨rfl,HH.out.2,HNR.out⟩))⟩
      case measure=>simp [intOf]
  · have HH:=Lh (show True∧qo≠role∧zp≠role from ⟨trivial,ha,hb⟩)
    clear ha hb
    obtain ⟨WX,hWX⟩:∃WX,WX=wr.alloc (.cells #[.int .i64 t3,.slice i3 d3.length c3] 30):=⟨_,rfl⟩
    have hbX:Below wr.heap.size wr WX:=by rw [hWX];exact (Below.refl _ _).alloc lz _
    have hxX:WX.heap[wr.heap.size]?=some (.cells #[.int .i64 t3,.slice i3 d3.length c3] 30 (0,0)):=by rw [hWX];exact heap_alloc_new wr _
    have HBX:=Lh (HBR.out.trans (hbX.mono HBR.out.size))
    have HBLX:=Lh (HBL.out.trans (hbX.mono HBL.out.size))
    have HRX:=Lh (qx hbX HRR.out HRR.out.lt)
    have HWX:=Lh hWX
    have ix:=yw t1 t2 t3 d1 d2 d3 i1 i2 i3 c1 c2 c3
    have gk:=(HI.out WX HBX.out).2.c2
    clear hWX
    by_cases hr:zO=role
    · have hc1:([116,97,114,103,101,116,115] == role.toList)=true:=by rw [← bF,ba_eq,decide_eq_true_eq];exact hr
      have hc2:((⟨#[116,97,114,103,101,116,115]⟩:ByteArray).toList == role.toList)=true:=by rw [show (⟨#[116,97,114,103,101,116,115]⟩:ByteArray)=zO from rfl,ba_eq,decide_eq_true_eq];exact hr
      have HV2:=Lh (show R=(⟨t3,d3⟩,true) by rw [HV.out,if_neg HH.out.2.1,if_neg HH.out.2.2,if_pos hr])
      have HCL:=Lh (show ∀w':World,Below WX.heap.size WX w'→Calls Tryz.prog 75 #[.slice i3 d3.length c3] w' (fun r w2=>∃ja jc,r=.returned (.slice ja d3.length jc)∧Hid (qk w2 WX.heap.size w2.heap.size ja d3)∧Hid (Below WX.heap.size WX w2)∧Hid (w2.rowIs (w.heap.size+1) 30 2 (zA (.int .i64 0) (.slice none 0 0)))∧w2.cell? ⟨w.heap.size+1,0,none⟩=some (.int .i64 0)∧w2.cell? ⟨w.heap.size+1,1,none⟩=some (.slice none 0 0)∧w2.frozen? ⟨w.heap.size+1,0,none⟩=false∧w2.frozen? ⟨w.heap.size+1,1,none⟩=false∧w2.cell? ⟨wr.heap.size,0,none⟩=some (.int .i64 t3)∧w2.cell? ⟨wr.heap.size,1,none⟩=some (.slice i3 d3.length c3)) from fun w' h=>by
       have hbw:=HBX.out.trans (h.mono HBX.out.size)
       refine (jD d3 i3 c3 w' w'.heap.size (HI.out w' hbw).1.c HF.out.c.2.1).mono ?_
       rintro r w2 ⟨ja,jc,rfl,-,hs,hb2⟩
       have h2:=h.trans (hb2.mono h.size)
       have g0:=(h2.block _ (qz hxX)).trans hxX
       have hrow:=qx h2 HRX.out HRX.out.lt
       have e0:=hrow.cell (i:=0) (by decide);have e1:=hrow.cell (i:=1) (by decide)
       exact ⟨ja,jc,rfl,Lh (hs.carry h.size lz (fun _ _ _=>rfl)),Lh h2,Lh hrow,e0,e1,hrow.frozen 0,hrow.frozen 1,qq g0 rfl,qq g0 rfl⟩)
      have z0:=qq hxX (j:=0) rfl;have z1:=qq hxX (j:=1) rfl
      have hbz:Below WX.heap.size WX WX.drew:=(Below.refl _ _).drew
      have HZX:=Lh (show w.heap.size+1<WX.heap.size from HRX.out.lt)
      have hnq:wr.heap.size≠w.heap.size+1:=by have:=HRR.out.lt;omega
      clear hr hbX hxX
      go_upto_region 4 with fail
      rw [← HWX.out]
      go_wp2_with fail
      go_region_held3 (fun w'=>w'.cell? ⟨wr.heap.size,0,none⟩=some (.int .i64 t3)∧w'.cell? ⟨wr.heap.size,1,none⟩=some (.slice i3 d3.length c3)) (first|(with_reducible exact ⟨z0,z1⟩)|(with_reducible exact ⟨pT hnq z0,pT hnq z1⟩)|(go_keep;done)) (first|(go_at_call 75;(with_reducible refine (HCL.out _ hbz).mono ?_);rintro e w5 ⟨ja,jc,rfl,HS5,HB5,HR5,r0,r1,s0,s1,z0,z1⟩))
      all_goals
       clear z0 z1
       go_wp2
       refine bodyPost_ret (qj Tryz.results30 _ _ (w.heap.size+1) 30 _ (0,0) _ rfl (qC (set2 _ _ HR5.out)) Tryz.underlying30 rfl (by kernel_rfl) _ rfl) rfl ?_
       rw [HV2.out]
       exact ⟨ja,jc,rfl,HS5.out.carry (by have:=HZX.out;omega) (Nat.le_of_eq cg.symm) (fun b h1 h2=>pl _ _ (by have:=HZX.out;omega)),xi _ _ (HBX.out.trans (HB5.out.mono HBX.out.size)) (by omega)⟩
    · have hc1:([116,97,114,103,101,116,115] == role.toList)=false:=by rw [← bF,ba_eq,decide_eq_false_iff_not];exact hr
      have hc2:((⟨#[116,97,114,103,101,116,115]⟩:ByteArray).toList == role.toList)=false:=by rw [show (⟨#[116,97,114,103,101,116,115]⟩:ByteArray)=zO from rfl,ba_eq,decide_eq_false_iff_not];exact hr
      have HNR:=Lh hr
      clear hr hbX hxX
      go_upto_region 4 with fail
      rw [← HWX.out]
      go_wp2
      go_roundw
      case rel=>exact ⟨HBLX.out,.inr (.inr (.inr ⟨rfl,HH.out.2.1,HH.out.2.2,HNR.out⟩))⟩
      case measure=>simp [intOf]
  · have HV2:=Lh (show R=(authZ,false) by rw [HV.out,if_neg ha,if_neg hb,if_neg hc])
    have hres:=HRR.out
    have t0:=hres.cell (i:=0) (by decide);have t1:=hres.cell (i:=1) (by decide)
    have s0:=hres.frozen 0;have s1:=hres.frozen 1
    simp only [zA] at t0 t1
    clear ha hb hc hres
    go_wp2
    refine bodyPost_ret (qj Tryz.results30 _ _ (w.heap.size+1) 30 _ (0,0) _ rfl (qC (set2 _ _ HRR.out)) Tryz.underlying30 rfl (by kernel_rfl) _ rfl) rfl ?_
    rw [HV2.out]
    exact ⟨none,0,rfl,.inl rfl,xi _ _ HBR.out (by omega)⟩
end Go.Proofs.YtnlgmcapbbgelaaGreatDoor

namespace Go.Proofs.YtnlgmcapbbgelaaGreatDoor
open Go.RowKit
set_option maxHeartbeats 1000000 in
set_option maxRecDepth 100000 in
theorem dO (l m:List Key2) (a b:Option Addr) (c d:Nat) (w:World) (hA:zY w 0 w.heap.size a l) (hB:zY w 0 w.heap.size b m) (hl:l.length≤4294967296) (_hm:m.length≤4294967296) :
 Calls Tryz.prog 61 #[.slice a l.length c,.slice b m.length d] w fun e w'=>e=.returned (.bool (decide (l=m)))∧Below w.heap.size w w':=by
 have HA:=Lh hA
 have HB:=Lh hB
 clear hA hB
 by_cases hlm:l.length=m.length
 case neg =>
  have h1:((l.length:Int) != (m.length:Int))=true:=by simp;omega
  have HD:=Lh (show decide (l=m)=false from decide_eq_false fun e=>hlm (by rw [e]))
  go_enter Tryz.func61,Tryz.ntmps61
  go_wp2
  go_ret
  exact ⟨by rw [HD.out];rfl,Below.refl _ _⟩
 obtain ⟨n,hn⟩:∃n,n=l.length:=⟨_,rfl⟩
 have HNL:=Lh hn
 have HNM:=Lh (show n=m.length by rw [hn,hlm])
 rw [← hlm,← hn]
 have hnb:n≤4294967296:=by omega
 clear hlm hn hl
 go_enter Tryz.func61,Tryz.ntmps61
 go_wp2_with fail
 go_loopw [5] (fun i wr=>∃k:Nat,k≤n∧i=.int .i64 k∧l.take k=m.take k∧Below w.heap.size w wr) (fun i _=>n - (intOf i).toNat)
 case atStart=>exact ⟨0,by omega,rfl,rfl,Below.refl _ _⟩
 case round =>
  obtain ⟨k,hk,rfl,htk,hbk⟩:=hrel
  have HTK:=Lh htk
  have HBK:=Lh hbk
  clear htk hbk
  by_cases hlt:k<n
  · have hkl:k<l.length:=by rw [← HNL.out];exact hlt
    have hkm:k<m.length:=by rw [← HNM.out];exact hlt
    obtain ⟨p,f,ha,_,hp,e0,e1⟩:=(HA.out.below HBK.out lz lz lz).at k hkl
    subst ha
    obtain ⟨q,g,ha,_,hq,f0,f1⟩:=(HB.out.below HBK.out lz lz lz).at k hkm
    subst ha
    have HTS:=Lh (show l[k]=m[k]→l.take (k+1)=m.take (k+1) from fun e=>by rw [List.take_succ_eq_append_getElem hkl,List.take_succ_eq_append_getElem hkm,HTK.out,e])
    have HNE:=Lh (show l[k]≠m[k]→decide (l=m)=false from fun e=>decide_eq_false fun e2=>e (by subst e2;rfl))
    obtain ⟨x,hx⟩:∃x:Key2,x=l[k]:=⟨_,rfl⟩
    obtain ⟨y,hy⟩:∃y:Key2,y=m[k]:=⟨_,rfl⟩
    replace e0:=e0.trans (congrArg (fun z:Key2=>some (Value.string z.1)) hx.symm)
    replace e1:=e1.trans (congrArg (fun z:Key2=>some (Value.string z.2)) hx.symm)
    replace f0:=f0.trans (congrArg (fun z:Key2=>some (Value.string z.1)) hy.symm)
    replace f1:=f1.trans (congrArg (fun z:Key2=>some (Value.string z.2)) hy.symm)
    rw [← hx,← hy] at HTS HNE
    clear hx hy
    obtain ⟨xs,xp⟩:=x
    obtain ⟨ys,yp⟩:=y
    replace e0:wr.cell? ⟨p,f+k * 2,none⟩=some (.string xs):=e0
    replace e1:wr.cell? ⟨p,f+k * 2+1,none⟩=some (.string xp):=e1
    replace f0:wr.cell? ⟨q,g+k * 2,none⟩=some (.string ys):=f0
    replace f1:wr.cell? ⟨q,g+k * 2+1,none⟩=some (.string yp):=f1
    have m1:(0:Int)≤(k:Int):=by omega
    have m2:(k:Int)<(n:Int):=by omega
    have m3:decide ((k:Int)<(n:Int))=true:=by simpa using hlt
    cases h1:(xs.toList == ys.toList)
    · have HR:=Lh (HNE.out fun e=>by rw [(Prod.mk.inj e).1] at h1;simp at h1)
      go_wp2_with fail
      go_quiet (fail)
      go_wp2
      go_ret
      exact ⟨by rw [HR.out];rfl,Below.drewN HBK.out _⟩
    · cases h2:(xp.toList == yp.toList)
      · have HR:=Lh (HNE.out fun e=>by rw [(Prod.mk.inj e).2] at h2;simp at h2)
        go_wp2_with fail
        go_quiet (fail)
        go_wp2
        go_ret
        exact ⟨by rw [HR.out];rfl,Below.drewN HBK.out _⟩
      · have HR:=Lh (HTS.out (by rw [wR (eq_of_beq h1),wR (eq_of_beq h2)]))
        go_wp2_with fail
        go_quiet (fail)
        go_wp2
        go_roundw
        case rel=>exact ⟨k+1,by omega,by go_num,HR.out,Below.drewN HBK.out _⟩
        case measure=>simp [intOf];omega
  · have m3:decide ((k:Int)<(n:Int))=false:=by simpa using hlt
    have HR:=Lh (show decide (l=m)=true from decide_eq_true (by
     have:=HTK.out
     rwa [List.take_of_length_le (by rw [← HNL.out];omega),List.take_of_length_le (by rw [← HNM.out];omega)] at this))
    go_wp2
    go_ret
    exact ⟨by rw [HR.out];rfl,HBK.out⟩
end Go.Proofs.YtnlgmcapbbgelaaGreatDoor

namespace Go.Proofs.YtnlgmcapbbgelaaGreatDoor
open Go.RowKit Go.Shelf Go.Sort
set_option maxHeartbeats 2000000 in
set_option maxRecDepth 100000 in
theorem vk (t u:Int) (l m:List ByteArray) (a b:Option Addr) (c d:Nat) (w:World) (hA:qk w 0 w.heap.size a l) (hB:qk w 0 w.heap.size b m) (hl:l.length≤4294967296) (_hm:m.length≤4294967296) :
 Calls Tryz.prog 31 #[.agg #[.int .i64 t,.slice a l.length c],.agg #[.int .i64 u,.slice b m.length d]] w fun e w'=>e=.returned (.bool (decide ((⟨t,l⟩:AuthV)=⟨u,m⟩)))∧Below w.heap.size w w':=by
 obtain ⟨W,hW⟩:∃W,W=(w.alloc (.cells #[.int .i64 t,.slice a l.length c] 30)).alloc (.cells #[.int .i64 u,.slice b m.length d] 30):=⟨_,rfl⟩
 have hb:Below w.heap.size w W:=by rw [hW];exact ((Below.refl _ _).alloc lz _).alloc (by simp) _
 have hx:W.heap[w.heap.size]?=some (.cells #[.int .i64 t,.slice a l.length c] 30 (0,0)):=by rw [hW];exact xG w _ _
 have hy:W.heap[w.heap.size+1]?=some (.cells #[.int .i64 u,.slice b m.length d] 30 (0,0)):=by rw [hW];exact vE w _ _
 have HC:=Lh (show ∀w':World,Below W.heap.size W w'→w'.cell? ⟨w.heap.size,0,none⟩=some (.int .i64 t)∧w'.cell? ⟨w.heap.size,1,none⟩=some (.slice a l.length c)∧w'.cell? ⟨w.heap.size+1,0,none⟩=some (.int .i64 u)∧w'.cell? ⟨w.heap.size+1,1,none⟩=some (.slice b m.length d) from fun w' h=>by
  have h1:=(h.block _ (qz hx)).trans hx
  have h2:=(h.block _ (qz hy)).trans hy
  exact ⟨qq h1 rfl,qq h1 rfl,qq h2 rfl,qq h2 rfl⟩)
 have HB:=Lh hb
 have HW:=Lh hW
 have HA:=Lh (hA.below hb lz lz hb.size)
 have HBB:=Lh (hB.below hb lz lz hb.size)
 have HV:=Lh (show decide ((⟨t,l⟩:AuthV)=⟨u,m⟩)=(decide (t=u) && decide (l=m)) by
  by_cases h1:t=u <;> by_cases h2:l=m <;> simp [h1,h2])
 obtain ⟨q,hq⟩:∃q,q=decide ((⟨t,l⟩:AuthV)=⟨u,m⟩):=⟨_,rfl⟩
 rw [← hq] at HV ⊢
 clear hb hW hx hy hA hB hq
 obtain ⟨x0,x1,y0,y1⟩:=HC.out W (Below.refl _ _)
 by_cases h:t=u
 case neg =>
  have n1:(t != u)=true:=by simpa using h
  rw [decide_eq_false h,Bool.false_and] at HV
  clear h
  go_enter Tryz.func31,Tryz.ntmps31
  go_upto_region 1 with fail
  rw [← HW.out]
  go_wp2
  go_ret
  exact ⟨qw HV.out.symm,HB.out⟩
 have n1:(t != u)=false:=by simpa using h
 rw [decide_eq_true h,Bool.true_and] at HV
 clear h
 by_cases hlm:l.length=m.length
 case neg =>
  have n2:((l.length:Int) != (m.length:Int))=true:=by simp;omega
  have HD:=Lh (show q=false by rw [HV.out];exact decide_eq_false fun e=>hlm (by rw [e]))
  clear hlm
  go_enter Tryz.func31,Tryz.ntmps31
  go_upto_region 1 with fail
  rw [← HW.out]
  go_wp2
  go_ret
  exact ⟨qw HD.out.symm,HB.out⟩
 obtain ⟨n,hn⟩:∃n,n=l.length:=⟨_,rfl⟩
 have HNL:=Lh hn
 have HNM:=Lh (show n=m.length by rw [hn,hlm])
 rw [← hlm,← hn] at HC HW y1
 rw [← hn] at x1 ⊢
 rw [← hlm,← hn]
 have hnb:n≤4294967296:=by omega
 have n2:((n:Int) != (n:Int))=false:=by simp
 clear hlm hn hl
 go_enter Tryz.func31,Tryz.ntmps31
 go_upto_region 1 with fail
 rw [← HW.out]
 clear HW
 go_wp2_with fail
 clear x0 x1 y0 y1
 go_loopw [5] (fun i wr=>∃k:Nat,k≤n∧i=.int .i64 k∧l.take k=m.take k∧Below W.heap.size W wr) (fun i _=>n - (intOf i).toNat)
 case atStart=>exact ⟨0,by omega,rfl,rfl,Below.refl _ _⟩
 case round =>
  obtain ⟨k,hk,rfl,htk,hbk⟩:=hrel
  have HTK:=Lh htk
  have HBK:=Lh hbk
  obtain ⟨x0,x1,y0,y1⟩:=HC.out wr hbk
  clear htk hbk
  by_cases hlt:k<n
  · have hkl:k<l.length:=by rw [← HNL.out];exact hlt
    have hkm:k<m.length:=by rw [← HNM.out];exact hlt
    obtain ⟨p,f,ha,_,hp,e0⟩:=(HA.out.below HBK.out lz lz lz).at k hkl
    subst ha
    obtain ⟨q2,g,ha,_,hq2,f0⟩:=(HBB.out.below HBK.out lz lz lz).at k hkm
    subst ha
    have HTS:=Lh (show l[k]=m[k]→l.take (k+1)=m.take (k+1) from fun e=>by rw [List.take_succ_eq_append_getElem hkl,List.take_succ_eq_append_getElem hkm,HTK.out,e])
    have HNE:=Lh (show l[k]≠m[k]→decide (l=m)=false from fun e=>decide_eq_false fun e2=>e (by subst e2;rfl))
    obtain ⟨x,hx⟩:∃x:ByteArray,x=l[k]:=⟨_,rfl⟩
    obtain ⟨y,hy⟩:∃y:ByteArray,y=m[k]:=⟨_,rfl⟩
    replace e0:=e0.trans (congrArg (fun z:ByteArray=>some (Value.string z)) hx.symm)
    replace f0:=f0.trans (congrArg (fun z:ByteArray=>some (Value.string z)) hy.symm)
    rw [← hx,← hy] at HTS HNE
    clear hx hy
    have m1:(0:Int)≤(k:Int):=by omega
    have m2:(k:Int)<(n:Int):=by omega
    have m3:decide ((k:Int)<(n:Int))=true:=by simpa using hlt
    cases h1:(x.toList == y.toList)
    · have HR:=Lh (show q=false by rw [HV.out];exact HNE.out fun e=>by rw [e] at h1;simp at h1)
      go_wp2_with fail
      go_quiet (fail)
      go_wp2
      go_ret
      exact ⟨qw HR.out.symm,Below.drewN (HB.out.trans (HBK.out.mono HB.out.size)) _⟩
    · have HEQ:=Lh (HTS.out (by rw [ba_eq,decide_eq_true_eq] at h1;exact h1))
      go_wp2_with fail
      go_quiet (fail)
      go_wp2
      go_roundw
      case rel=>exact ⟨k+1,by omega,by go_num,HEQ.out,Below.drewN HBK.out _⟩
      case measure=>simp [intOf];omega
  · obtain rfl:k=n:=by omega
    have HR:=Lh (show q=true by
     rw [HV.out]
     have:=HTK.out
     rw [List.take_of_length_le (by rw [← HNL.out];exact Nat.le_refl _),List.take_of_length_le (by rw [← HNM.out];exact Nat.le_refl _)] at this
     exact decide_eq_true this)
    go_wp2
    go_ret
    exact ⟨qw HR.out.symm,HB.out.trans (HBK.out.mono HB.out.size)⟩
set_option maxHeartbeats 4000000 in
set_option maxRecDepth 100000 in
theorem dE (v e:Int) (l:List Key2) (t1 t2 t3:Int) (d1 d2 d3:List ByteArray) (ka i1 i2 i3:Option Addr) (kc c1 c2 c3:Nat) (v2 e2:Int) (l2:List Key2) (u1 u2 u3:Int) (f1 f2 f3:List ByteArray) (kb h1 h2 h3:Option Addr) (kd g1 g2 g3:Nat) (w:World) (hI:RootIn w 0 w.heap.size ⟨v,e,l,⟨⟨t1,d1⟩,⟨t2,d2⟩,⟨t3,d3⟩⟩⟩ ka i1 i2 i3) (hJ:RootIn w 0 w.heap.size ⟨v2,e2,l2,⟨⟨u1,f1⟩,⟨u2,f2⟩,⟨u3,f3⟩⟩⟩ kb h1 h2 h3) (hf:RootFits ⟨v,e,l,⟨⟨t1,d1⟩,⟨t2,d2⟩,⟨t3,d3⟩⟩⟩) (hg:RootFits ⟨v2,e2,l2,⟨⟨u1,f1⟩,⟨u2,f2⟩,⟨u3,f3⟩⟩⟩) :
 Calls Tryz.prog 14 #[.agg #[.int .i64 v,.int .i64 e,.slice ka l.length kc,.int .i64 t1,.slice i1 d1.length c1,.int .i64 t2,.slice i2 d2.length c2,.int .i64 t3,.slice i3 d3.length c3],.agg #[.int .i64 v2,.int .i64 e2,.slice kb l2.length kd,.int .i64 u1,.slice h1 f1.length g1,.int .i64 u2,.slice h2 f2.length g2,.int .i64 u3,.slice h3 f3.length g3]] w fun r w'=>r=.returned (.bool (jE ⟨v,e,l,⟨⟨t1,d1⟩,⟨t2,d2⟩,⟨t3,d3⟩⟩⟩ ⟨v2,e2,l2,⟨⟨u1,f1⟩,⟨u2,f2⟩,⟨u3,f3⟩⟩⟩))∧Below w.heap.size w w':=by
 obtain ⟨W,hW⟩:∃W,W=(w.alloc (.cells #[.int .i64 v,.int .i64 e,.slice ka l.length kc,.int .i64 t1,.slice i1 d1.length c1,.int .i64 t2,.slice i2 d2.length c2,.int .i64 t3,.slice i3 d3.length c3] 32)).alloc (.cells #[.int .i64 v2,.int .i64 e2,.slice kb l2.length kd,.int .i64 u1,.slice h1 f1.length g1,.int .i64 u2,.slice h2 f2.length g2,.int .i64 u3,.slice h3 f3.length g3] 32):=⟨_,rfl⟩
 have hb:Below w.heap.size w W:=by rw [hW];exact ((Below.refl _ _).alloc lz _).alloc (by simp) _
 have HX:=Lh (show W.heap[w.heap.size]?=some (.cells #[.int .i64 v,.int .i64 e,.slice ka l.length kc,.int .i64 t1,.slice i1 d1.length c1,.int .i64 t2,.slice i2 d2.length c2,.int .i64 t3,.slice i3 d3.length c3] 32 (0,0)) by rw [hW];exact xG w _ _)
 have HY:=Lh (show W.heap[w.heap.size+1]?=some (.cells #[.int .i64 v2,.int .i64 e2,.slice kb l2.length kd,.int .i64 u1,.slice h1 f1.length g1,.int .i64 u2,.slice h2 f2.length g2,.int .i64 u3,.slice h3 f3.length g3] 32 (0,0)) by rw [hW];exact vE w _ _)
 have HV:=Lh (bp ⟨v,e,l,⟨⟨t1,d1⟩,⟨t2,d2⟩,⟨t3,d3⟩⟩⟩ ⟨v2,e2,l2,⟨⟨u1,f1⟩,⟨u2,f2⟩,⟨u3,f3⟩⟩⟩)
 dsimp only at HV
 have HI:=Lh (show ∀w':World,Below w.heap.size w w'→RootIn w' 0 w'.heap.size ⟨v,e,l,⟨⟨t1,d1⟩,⟨t2,d2⟩,⟨t3,d3⟩⟩⟩ ka i1 i2 i3∧RootIn w' 0 w'.heap.size ⟨v2,e2,l2,⟨⟨u1,f1⟩,⟨u2,f2⟩,⟨u3,f3⟩⟩⟩ kb h1 h2 h3 from fun w' h=>⟨hI.below h lz lz h.size,hJ.below h lz lz h.size⟩)
 have HF:=Lh (And.intro hf hg)
 have HB:=Lh hb
 have HW:=Lh hW
 have HEK:=Lh (dO l l2 ka kb kc kd W (hI.below hb lz lz hb.size).keys (hJ.below hb lz lz hb.size).keys (by have:l.length≤40:=hf.len;omega) (by have:l2.length≤40:=hg.len;omega))
 obtain ⟨m0,hm0⟩:∃m0,m0=jE ⟨v,e,l,⟨⟨t1,d1⟩,⟨t2,d2⟩,⟨t3,d3⟩⟩⟩ ⟨v2,e2,l2,⟨⟨u1,f1⟩,⟨u2,f2⟩,⟨u3,f3⟩⟩⟩:=⟨_,rfl⟩
 rw [← hm0] at HV ⊢
 clear hm0 hI hJ hf hg hb hW
 obtain ⟨x0,x1,x2,x3,x4,x5,x6,x7,x8⟩:=bx9 HX.out;obtain ⟨y0,y1,y2,y3,y4,y5,y6,y7,y8⟩:=bx9 HY.out
 by_cases n1:v=v2
 case neg =>
  have q1:(v == v2)=false:=by simpa using n1
  rw [decide_eq_false n1] at HV
  simp only [Bool.false_and] at HV
  clear n1
  go_enter Tryz.func14,Tryz.ntmps14
  go_upto_region 1 with fail
  rw [← HW.out]
  go_wp2
  go_ret
  exact ⟨qw HV.out.symm,HB.out⟩
 have q1:(v == v2)=true:=by simpa using n1
 rw [decide_eq_true n1,Bool.true_and] at HV
 by_cases n2:e=e2
 case neg =>
  have q2:(e == e2)=false:=by simpa using n2
  rw [decide_eq_false n2] at HV
  simp only [Bool.false_and] at HV
  clear n1 n2
  go_enter Tryz.func14,Tryz.ntmps14
  go_upto_region 1 with fail
  rw [← HW.out]
  go_wp2
  go_ret
  exact ⟨qw HV.out.symm,HB.out⟩
 have q2:(e == e2)=true:=by simpa using n2
 rw [decide_eq_true n2,Bool.true_and] at HV
 clear n1 n2
 obtain ⟨ek,hek⟩:∃ek,ek=decide (l=l2):=⟨_,rfl⟩
 rw [← hek] at HEK HV
 clear hek
 go_enter Tryz.func14,Tryz.ntmps14
 go_upto_region 1 with fail
 rw [← HW.out]
 clear HW
 go_wp2_with fail
 refine HEK.out.mono ?_
 clear HEK
 clear x0 y0 x1 y1 x2 y2 x3 y3 x4 y4 x5 y5 x6 y6 x7 y7 x8 y8
 rintro r w1 ⟨rfl,hb1⟩
 replace HB:=Lh (HB.out.trans (hb1.mono HB.out.size))
 replace HX:=Lh ((hb1.block _ (qz HX.out)).trans HX.out)
 replace HY:=Lh ((hb1.block _ (qz HY.out)).trans HY.out)
 clear hb1
 cases ek with
 | false =>
  simp only [Bool.false_and] at HV
  go_wp2
  go_ret
  exact ⟨qw HV.out.symm,HB.out⟩
 | true =>
  rw [Bool.true_and] at HV
  have HS:=Lh (vk t1 u1 d1 f1 i1 h1 c1 g1 w1 (HI.out w1 HB.out).1.a (HI.out w1 HB.out).2.a HF.out.1.a.2.1 HF.out.2.a.2.1)
  obtain ⟨sb,hsb⟩:∃sb,sb=decide ((⟨t1,d1⟩:AuthV)=⟨u1,f1⟩):=⟨_,rfl⟩
  rw [← hsb] at HS HV
  clear hsb
  obtain ⟨x0,x1,x2,x3,x4,x5,x6,x7,x8⟩:=bx9 HX.out;obtain ⟨y0,y1,y2,y3,y4,y5,y6,y7,y8⟩:=bx9 HY.out
  go_wp2_with fail
  refine HS.out.mono ?_
  clear HS
  clear x0 y0 x1 y1 x2 y2 x3 y3 x4 y4 x5 y5 x6 y6 x7 y7 x8 y8
  rintro r w2 ⟨rfl,hb1⟩
  replace HB:=Lh (HB.out.trans (hb1.mono HB.out.size))
  replace HX:=Lh ((hb1.block _ (qz HX.out)).trans HX.out)
  replace HY:=Lh ((hb1.block _ (qz HY.out)).trans HY.out)
  clear hb1
  cases sb with
  | false =>
   simp only [Bool.false_and] at HV
   go_wp2
   go_ret
   exact ⟨qw HV.out.symm,HB.out⟩
  | true =>
   rw [Bool.true_and] at HV
   have HS:=Lh (vk t2 u2 d2 f2 i2 h2 c2 g2 w2 (HI.out w2 HB.out).1.b (HI.out w2 HB.out).2.b HF.out.1.b.2.1 HF.out.2.b.2.1)
   obtain ⟨sb,hsb⟩:∃sb,sb=decide ((⟨t2,d2⟩:AuthV)=⟨u2,f2⟩):=⟨_,rfl⟩
   rw [← hsb] at HS HV
   clear hsb
   obtain ⟨x0,x1,x2,x3,x4,x5,x6,x7,x8⟩:=bx9 HX.out;obtain ⟨y0,y1,y2,y3,y4,y5,y6,y7,y8⟩:=bx9 HY.out
   go_wp2_with fail
   refine HS.out.mono ?_
   clear HS
   clear x0 y0 x1 y1 x2 y2 x3 y3 x4 y4 x5 y5 x6 y6 x7 y7 x8 y8
   rintro r w3 ⟨rfl,hb1⟩
   replace HB:=Lh (HB.out.trans (hb1.mono HB.out.size))
   replace HX:=Lh ((hb1.block _ (qz HX.out)).trans HX.out)
   replace HY:=Lh ((hb1.block _ (qz HY.out)).trans HY.out)
   clear hb1
   cases sb with
   | false =>
    simp only [Bool.false_and] at HV
    go_wp2
    go_ret
    exact ⟨qw HV.out.symm,HB.out⟩
   | true =>
    rw [Bool.true_and] at HV
    have HS:=Lh (vk t3 u3 d3 f3 i3 h3 c3 g3 w3 (HI.out w3 HB.out).1.c (HI.out w3 HB.out).2.c HF.out.1.c.2.1 HF.out.2.c.2.1)
    obtain ⟨sb,hsb⟩:∃sb,sb=decide ((⟨t3,d3⟩:AuthV)=⟨u3,f3⟩):=⟨_,rfl⟩
    rw [← hsb] at HS HV
    clear hsb
    obtain ⟨x0,x1,x2,x3,x4,x5,x6,x7,x8⟩:=bx9 HX.out;obtain ⟨y0,y1,y2,y3,y4,y5,y6,y7,y8⟩:=bx9 HY.out
    go_wp2_with fail
    refine HS.out.mono ?_
    clear HS
    clear x0 y0 x1 y1 x2 y2 x3 y3 x4 y4 x5 y5 x6 y6 x7 y7 x8 y8
    rintro r w4 ⟨rfl,hb1⟩
    replace HB:=Lh (HB.out.trans (hb1.mono HB.out.size))
    replace HX:=Lh ((hb1.block _ (qz HX.out)).trans HX.out)
    replace HY:=Lh ((hb1.block _ (qz HY.out)).trans HY.out)
    clear hb1
    cases sb with
    | false =>
     go_wp2
     go_ret
     exact ⟨qw HV.out.symm,HB.out⟩
    | true =>
     go_wp2
     go_ret
     exact ⟨qw HV.out.symm,HB.out⟩
end Go.Proofs.YtnlgmcapbbgelaaGreatDoor
