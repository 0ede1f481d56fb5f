/- The contracts of value.may and value.May. -/
import Derived.Test.YthgembbgcbaghaaGreatDoorDa11

namespace Go.Proofs.YthgembbgcbaghaaGreatDoor
open Go.RowKit
mutual
def JV.may:JV→Nat→Int→Bool × Int
 | .mk k n t ns xs,d,l =>
  if l - 1<0 then (false,l - 1) else if qK k n t ns xs.length=false then (false,l - 1) else if k≠4∧k≠5 then (true,l - 1) else if d=0 then (false,l - 1) else JV.mays xs (d - 1) (l - 1)
def JV.mays:List JV→Nat→Int→Bool × Int
 | [],_,l=>(true,l)
 | x :: r,d,l=>if (JV.may x d l).1 then JV.mays r d (JV.may x d l).2 else (false,(JV.may x d l).2)
end
def JV.mayB (v:JV):Bool:=(v.may 12 8192).1
theorem JV.may_eq (v:JV) (d:Nat) (l:Int):v.may d l =
 if l - 1<0 then (false,l - 1) else if qK v.kind v.n v.t v.names v.items.length=false then (false,l - 1) else if v.kind≠4∧v.kind≠5 then (true,l - 1) else if d=0 then (false,l - 1) else JV.mays v.items (d - 1) (l - 1):=by
 cases v;rw [JV.may];rfl
mutual
theorem JV.may_bd:∀(v:JV) (d:Nat) (l:Int),0≤l→-1≤(v.may d l).2∧(v.may d l).2≤l∧((v.may d l).1=true→0≤(v.may d l).2)
 | .mk k n t ns xs,d,l,hl=>by
  rw [JV.may]
  split
  · simp;omega
  · split
    · simp;omega
    · split
      · simp;omega
      · split
        · simp;omega
        · have:=JV.mays_bd xs (d - 1) (l - 1) (by omega)
          exact ⟨this.1,by omega,this.2.2⟩
theorem JV.mays_bd:∀(xs:List JV) (d:Nat) (l:Int),0≤l→-1≤(JV.mays xs d l).2∧(JV.mays xs d l).2≤l∧((JV.mays xs d l).1=true→0≤(JV.mays xs d l).2)
 | [],d,l,hl=>by simp [JV.mays];omega
 | x :: r,d,l,hl=>by
  rw [JV.mays]
  have h1:=JV.may_bd x d l hl
  split
  · next h=>have:=JV.mays_bd r d (x.may d l).2 (h1.2.2 h);exact ⟨this.1,by omega,this.2.2⟩
  · exact ⟨h1.1,h1.2.1,fun h=>by simp at h⟩
end
theorem JV.mays_snoc:∀(xs:List JV) (k:Nat) (h:k<xs.length) (d:Nat) (l lk:Int),JV.mays (xs.take k) d l=(true,lk) →
 JV.mays (xs.take (k+1)) d l=(if (JV.may xs[k] d lk).1 then (true,(JV.may xs[k] d lk).2) else (false,(JV.may xs[k] d lk).2))∧((JV.may xs[k] d lk).1=false→JV.mays xs d l=(false,(JV.may xs[k] d lk).2))
 | [],k,h,_,_,_,_=>by simp at h
 | x :: r,0,_,d,l,lk,hk=>by
  simp [JV.mays] at hk;subst hk
  simp only [List.take_succ_cons,List.take_zero,JV.mays,List.getElem_cons_zero]
  exact ⟨trivial,fun h=>by rw [if_neg (by simp [h])]⟩
 | x :: r,k+1,h,d,l,lk,hk=>by
  simp only [List.take_succ_cons,JV.mays] at hk
  cases hx:(x.may d l).1
  · rw [if_neg (by simp [hx])] at hk;cases hk
  · rw [if_pos hx] at hk
    have:=JV.mays_snoc r k (by simpa using h) d _ lk hk
    simp only [List.take_succ_cons,JV.mays,if_pos hx,List.getElem_cons_succ]
    exact this
def sj (v:JV) (d:Nat) (l:Int) (q T:Nat) (w:World) (e:Ending) (w':World):Prop :=
 e=.returned (.bool (v.may d l).1)∧w'.rowIs q T 1 (fun _=>.int .i64 (v.may d l).2)∧Touch (· = q) w w'
set_option maxHeartbeats 1000000 in
theorem rf (N:Nat):∀(v:JV) (x:Value) (d:Nat) (l:Int) (q T:Nat) (w:World),v.wt≤N→N≤4294967296→d≤1000→0≤l→l≤8192→Rep w 0 q v x→w.rowIs q T 1 (fun _=>.int .i64 l) →
 Calls Tryz.prog 105 #[x,.int .i64 d,.pointer (some ⟨q,0,none⟩)] w (sj v d l q T w):=by
 induction N with
 | zero=>intro v x d l q T w h;have:=v.wt_pos;omega
 | succ N ih =>
  intro v x d l q T w hN hM hd hl0 hl1 hR hq
  obtain ⟨an,cn,ai,ci,rfl,h1,h2,h3,h4⟩:=hR.parts
  obtain ⟨b1,b2,b3,b4⟩:=v.wt_bd
  have IH:=Lh ih;clear ih
  have H3:=Lh h3
  have H4:=Lh h4
  have HE:=Lh (v.may_eq d l)
  have HBD:=Lh (v.may_bd d l hl0)
  have hqz:q<w.heap.size:=hq.lt
  have c0:w.cell? ⟨q,0,none⟩=some (.int .i64 l):=hq.cell (by omega)
  have f0:w.frozen? ⟨q,0,none⟩=false:=hq.frozen 0
  have HQ:=Lh hq
  clear h3 h4 hR hq
  have HBS:=Lh (show qd v.names≤4294967296 by have:=v.wt_eq;omega)
  obtain ⟨nn,hnn⟩:∃nn,nn=v.names.length:=⟨_,rfl⟩
  obtain ⟨ni,hni⟩:∃ni,ni=v.items.length:=⟨_,rfl⟩
  rw [← hnn,← hni]
  rw [← hnn] at b2 h1
  rw [← hni] at b3 h2 HE
  have HNN:=Lh hnn
  have HNI:=Lh hni
  clear hnn hni
  by_cases g1:l - 1<0
  · have HF:=Lh (show v.may d l=(false,l - 1) by rw [HE.out,if_pos g1])
    go_enter Tryz.func105,Tryz.ntmps105
    go_wp2
    go_ret
    refine ⟨by rw [HF.out];rfl,?_,?_⟩
    · rw [HF.out];exact ((HQ.out.set 0 _).alloc _).congr fun j hj=>by rw [if_pos (by omega)]
    · exact ((Touch.refl (· = q) _).setCell (p:=⟨q,0,none⟩) (.inl rfl) _).alloc _
  have g1':0≤l - 1:=by omega
  have g2:decide (l - 1<0)=false:=by simp;omega
  clear g1
  go_enter Tryz.func105,Tryz.ntmps105
  go_wp2_with fail
  have hw1:(w.setCell ⟨q,0,none⟩ (.int .i64 (l - 1))).heap.size=w.heap.size:=by simp
  have HQ1:=Lh (show ((w.setCell ⟨q,0,none⟩ (.int .i64 (l - 1))).alloc (.cells #[.int .u8 v.kind,.int .i64 v.n,.string v.t,.slice an nn cn,.slice ai ni ci] 25)).rowIs q T 1 (fun _=>.int .i64 (l - 1)) from ((HQ.out.set 0 _).alloc _).congr fun j hj=>by rw [if_pos (by omega)])
  have HX1:=Lh (qp (w.setCell ⟨q,0,none⟩ (.int .i64 (l - 1))) (.int .u8 v.kind) (.int .i64 v.n) (.string v.t) (.slice an nn cn) (.slice ai ni ci) 25)
  have HT1:=Lh (((Touch.refl (· = q) w).setCell (p:=⟨q,0,none⟩) (.inl rfl) (.int .i64 (l - 1))).alloc (.cells #[.int .u8 v.kind,.int .i64 v.n,.string v.t,.slice an nn cn,.slice ai ni ci] 25))
  rw [hw1] at HX1
  clear hw1
  generalize ((w.setCell ⟨q,0,none⟩ (.int .i64 (l - 1))).alloc (.cells #[.int .u8 v.kind,.int .i64 v.n,.string v.t,.slice an nn cn,.slice ai ni ci] 25))=w1 at HQ1 HX1 HT1 ⊢
  have hz1:w.heap.size<w1.heap.size:=HX1.out.lt
  have HB1:Hid (Below q w w1):=HT1.out.below (by omega) fun k hk e=>by omega
  clear c0 f0 HQ
  refine (hQ v.kind v.n v.t v.names an ai cn nn ni ci w1 (H3.out.below HB1.out lz lz (by omega)) HNN.out.symm (by omega) (by omega) HBS.out (by omega)).mono ?_
  rintro e w2 ⟨rfl,hb2⟩
  have HB2:=Lh hb2
  have hz2:w1.heap.size≤w2.heap.size:=hb2.size
  have HX2:=Lh (qj hb2 HX1.out hz1)
  have HQ2:=Lh (qj hb2 HQ1.out (by omega))
  have HT2:Hid (Touch (· = q) w w2):=HT1.out.trans (Touch.of_below hb2 lz)
  have x0:w2.cell? ⟨w.heap.size,0,none⟩=some (.int .u8 v.kind):=HX2.out.cell (by omega)
  have x4:w2.cell? ⟨w.heap.size,4,none⟩=some (.slice ai ni ci):=HX2.out.cell (by omega)
  clear hb2 HX1 HQ1 HT1
  cases hp:qK v.kind v.n v.t v.names ni
  · have HF:=Lh (show v.may d l=(false,l - 1) by rw [HE.out,if_neg (by omega),if_pos hp])
    clear hp
    go_wp2
    go_ret
    exact ⟨by rw [HF.out];rfl,by rw [HF.out];exact HQ2.out,HT2.out⟩
  by_cases hk:v.kind≠4∧v.kind≠5
  · have HF:=Lh (show v.may d l=(true,l - 1) by rw [HE.out,if_neg (by omega),if_neg (by simp [hp]),if_pos hk])
    have k4:(v.kind == 4)=false:=by simp [hk.1]
    have k5:(v.kind == 5)=false:=by simp [hk.2]
    have k4':(v.kind != 4)=true:=by simp [hk.1]
    have k5':(v.kind != 5)=true:=by simp [hk.2]
    clear hp hk
    go_wp2
    go_ret
    exact ⟨by rw [HF.out];rfl,by rw [HF.out];exact HQ2.out,HT2.out⟩
  by_cases hd0:d=0
  · have HF:=Lh (show v.may d l=(false,l - 1) by rw [HE.out,if_neg (by omega),if_neg (by simp [hp]),if_neg hk,if_pos hd0])
    subst hd0
    have HK:=Lh hk
    clear hp hk
    by_cases k4:v.kind=4
    · go_wp2
      go_ret
      exact ⟨by rw [HF.out];rfl,by rw [HF.out];exact HQ2.out,HT2.out⟩
    · have k5:v.kind=5:=by rcases Classical.em (v.kind=5) with h|h;exact h;exact absurd ⟨k4,h⟩ HK.out
      go_wp2
      go_ret
      exact ⟨by rw [HF.out];rfl,by rw [HF.out];exact HQ2.out,HT2.out⟩
  have HF:=Lh (show v.may d l=JV.mays v.items (d - 1) (l - 1) by rw [HE.out,if_neg (by omega),if_neg (by simp [hp]),if_neg hk,if_neg hd0])
  have hd1:((d:Int) == 0)=false:=by simp;omega
  have hd2:1≤d:=by omega
  have HK:=Lh (show v.kind=4∨v.kind=5 by
   rcases Classical.em (v.kind=4) with h|h
   · exact .inl h
   · rcases Classical.em (v.kind=5) with h'|h'
     · exact .inr h'
     · exact absurd ⟨h,h'⟩ hk)
  clear hp hk hd0
  rcases HK.out with hk|hk
  all_goals
   go_wp2
   clear x0 x4
   go_loopw [8,36] (fun _ i wr=>∃(k:Nat) (lk:Int),k≤ni∧i=.int .i64 k∧JV.mays (v.items.take k) (d - 1) (l - 1)=(true,lk)∧0≤lk∧lk≤8192∧wr.rowIs q T 1 (fun _=>.int .i64 lk)∧Touch (· = q) w wr) (fun _ i _=>ni - (intOf i).toNat)
   case atStart=>exact ⟨0,l - 1,by omega,rfl,by simp [JV.mays],by omega,by omega,HQ2.out,HT2.out⟩
   case round =>
    obtain ⟨k,lk,hk',rfl,hm,hlk0,hlk1,hrow,htch⟩:=hrel
    by_cases hlt:k<ni
    · have hlt':k<v.items.length:=by rw [← HNI.out];exact hlt
      have HB:Hid (Below q w wr):=htch.below (by omega) fun j hj e=>by omega
      obtain ⟨b,off,an',cn',ai',ci',rfl,_,hb,y0,y1,y2,y3,y4,hrep⟩:=(H4.out.below HB.out lz lz lz).get k hlt'
      have hwk:=JV.wts_get v.items k hlt'
      have HSN:=Lh (JV.mays_snoc v.items k hlt' (d - 1) (l - 1) lk hm)
      have HKB:=Lh (JV.may_bd v.items[k] (d - 1) lk hlk0)
      have HRP:=Lh hrep
      have HRW:=Lh hrow
      have HTC:=Lh htch
      clear hrep hrow htch hm
      generalize v.items[k]=it at *
      go_wp2_with fail
      have hzr:q<wr.heap.size:=HRW.out.lt
      have hcast:(d:Int) - 1=((d - 1:Nat):Int):=by omega
      rw [hcast]
      refine (IH.out it _ (d - 1) lk q T _ (by omega) (by omega) (by omega) hlk0 hlk1 (HRP.out.below ((Below.refl _ _).alloc lz _) (by omega) lz lz) (HRW.out.alloc _)).mono ?_
      rintro e w3 ⟨rfl,hr3,ht3⟩
      have HR3:=Lh hr3
      have HT3:Hid (Touch (· = q) w w3):=(HTC.out.alloc _).trans ht3
      clear hr3 ht3
      cases hres:(it.may (d - 1) lk).1
      · have HE2:=Lh (HSN.out.2 hres)
        clear hres
        go_wp2
        go_ret
        exact ⟨by rw [HF.out,HE2.out];rfl,by rw [HF.out,HE2.out];exact HR3.out,HT3.out⟩
      · have HE2:=Lh (show JV.mays (v.items.take (k+1)) (d - 1) (l - 1)=(true,(it.may (d - 1) lk).2) by rw [HSN.out.1,if_pos hres])
        have HE3:=Lh (HKB.out.2.2 hres)
        clear hres
        go_wp2
        go_roundw
        case rel=>exact ⟨k+1,_,by omega,by go_num,HE2.out,HE3.out,by have:=HKB.out.2.1;omega,HR3.out,HT3.out⟩
        case measure=>simp [intOf];omega
    · have HE2:=Lh (show JV.mays v.items (d - 1) (l - 1)=(true,lk) by
       rwa [List.take_of_length_le (by rw [← HNI.out];omega)] at hm)
      have HRW:=Lh hrow
      have HTC:=Lh htch
      clear hrow htch hm
      go_wp2
      go_ret
      exact ⟨by rw [HF.out,HE2.out];rfl,by rw [HF.out,HE2.out];exact HRW.out,HTC.out⟩
set_option maxHeartbeats 400000 in
theorem kj (v:JV) (x:Value) (w:World) (hv:v.wt≤4294967296) (hR:Rep w 0 w.heap.size v x) :
 Calls Tryz.prog 47 #[x] w fun e w'=>e=.returned (.bool v.mayB)∧Below w.heap.size w w':=by
 have HR:=Lh hR
 obtain ⟨an,cn,ai,ci,rfl,h1,h2,h3,h4⟩:=hR.parts
 clear h3 h4 hR
 go_enter Tryz.func47,Tryz.ntmps47
 go_wp2_with fail
 have HRW:=Lh (show ((w.alloc (.cells #[.int .u8 v.kind,.int .i64 v.n,.string v.t,.slice an v.names.length cn,.slice ai v.items.length ci] 25)).alloc (.cells #[.int .i64 8192] 3)).rowIs (w.heap.size+1) 3 1 (fun _=>.int .i64 8192) by
  have:=xR (w:=w.alloc (.cells #[.int .u8 v.kind,.int .i64 v.n,.string v.t,.slice an v.names.length cn,.slice ai v.items.length ci] 25)) (c:=#[.int .i64 8192]) (t:=3) (n:=1) (f:=fun _=>.int .i64 8192) rfl
  simpa using this)
 have HB:Hid (Below w.heap.size w ((w.alloc (.cells #[.int .u8 v.kind,.int .i64 v.n,.string v.t,.slice an v.names.length cn,.slice ai v.items.length ci] 25)).alloc (.cells #[.int .i64 8192] 3))):=((Below.refl _ _).alloc lz _).alloc (by simp) _
 refine (rf 4294967296 v _ 12 8192 (w.heap.size+1) 3 _ hv (by omega) (by omega) (by omega) (by omega) (HR.out.below HB.out lz lz (by omega)) HRW.out).mono ?_
 rintro e w1 ⟨rfl,hr1,ht1⟩
 have HT:Hid (Below w.heap.size w w1):=HB.out.trans (ht1.below (by simp;omega) fun k hk e=>by omega)
 clear hr1 ht1
 go_wp2
 go_ret
 exact ⟨rfl,HT.out⟩
end Go.Proofs.YthgembbgcbaghaaGreatDoor
