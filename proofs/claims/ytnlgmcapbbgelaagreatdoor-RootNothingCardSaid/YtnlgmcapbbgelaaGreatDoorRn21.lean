/- A root's object, and its parts, do not hang on a zero block. No program in sight. -/
import Derived.Test.YtnlgmcapbbgelaaGreatDoorRn20

namespace Go.Proofs.YtnlgmcapbbgelaaGreatDoor
open Go.RowKit
def CopyExPost (v:JV) (w:World) (e:Ending) (w':World):Prop :=
 ∃an cn ai ci,e=.returned (.agg #[.int .u8 v.kind,.int .i64 v.n,.string v.t,.slice an v.names.length cn,.slice ai v.items.length ci])∧Rep w' w.heap.size w'.heap.size v (.agg #[.int .u8 v.kind,.int .i64 v.n,.string v.t,.slice an v.names.length cn,.slice ai v.items.length ci])∧Below w.heap.size w w'
def CopyEx (lo:Nat) (v:JV):Prop:=∀(x:Value) (w:World) (hi:Nat),hi≤w.heap.size→Rep w lo hi v x→Calls Tryz.prog 73 #[x] w (CopyExPost v w)
theorem copyEx_own (lo:Nat) (v:JV) (hN:v.wt≤4294967296) (hl:0<lo):CopyEx lo v:=by
 intro x w hi hhi hR
 refine (valueCopy v x w lo hi hN hhi hR fun k h=>.inl hl).mono ?_
 intro e w' h
 exact h
def ShortA (ids:List ByteArray):Prop:=ids.length≤500∧∀s ∈ ids,s.size≤5000
def Auth3Rel (P:Prop) (ids:List ByteArray) (n j:Value):Prop :=
 ∃(q:Nat) (r:Int),q≤ids.length∧j=.int .i64 q∧n=.int .i64 r∧0≤r∧r≤20000∧10 * (q:Int)≤r∧(r<5000→P∧∀x (h:x<ids.length),x<q→ids[x].size≤5000)
def Auth3At (k:Int) (P:Prop) (n i:Value):Prop:=i=.int .i64 k∧∃r:Int,n=.int .i64 r∧0≤r∧r≤20000∧(r<5000→P)
def Long3Post (d1 d2 d3:List ByteArray) (w:World) (e:Ending) (w':World):Prop:=∃b:Bool,e=.returned (.bool b)∧(b=false→ShortA d1∧ShortA d2∧ShortA d3)∧w=w'
set_option maxHeartbeats 2000000 in
set_option maxRecDepth 100000 in
theorem lawLong3 (t1 t2 t3:Int) (d1 d2 d3:List ByteArray) (i1 i2 i3:Option Addr) (c1 c2 c3 g:Nat) (w:World) (hg:w.heap[g]?=some (.cells #[.int .i64 t1,.slice i1 d1.length c1,.int .i64 t2,.slice i2 d2.length c2,.int .i64 t3,.slice i3 d3.length c3] 30 (0,0))) (h1:StrsAt w 0 w.heap.size i1 d1) (h2:StrsAt w 0 w.heap.size i2 d2) (h3:StrsAt w 0 w.heap.size i3 d3) (l1:d1.length≤9223372036854775807) (l2:d2.length≤9223372036854775807) (l3:d3.length≤9223372036854775807) :
 Calls Tryz.prog 26 #[.slice (some ⟨g,0,none⟩) 3 3] w (Long3Post d1 d2 d3 w):=by
 have q1:w.cell? ⟨g,1,none⟩=some (.slice i1 d1.length c1):=box_cell hg rfl
 have q3:w.cell? ⟨g,3,none⟩=some (.slice i2 d2.length c2):=box_cell hg rfl
 have q5:w.cell? ⟨g,5,none⟩=some (.slice i3 d3.length c3):=box_cell hg rfl
 have H1:=Lh h1
 have H2:=Lh h2
 have H3:=Lh h3
 clear h1 h2 h3 hg
 go_enter Tryz.func26,Tryz.ntmps26
 go_wp2_with fail
 go_loop [3,4,5] (fun n i _=>Auth3At 0 True n i∨Auth3At 1 (ShortA d1) n i∨Auth3At 2 (ShortA d1∧ShortA d2) n i∨Auth3At 3 (ShortA d1∧ShortA d2∧ShortA d3) n i) (fun _ i _=>3 - (intOf i).toNat)
 case atStart=>exact .inl ⟨rfl,0,rfl,by omega,by omega,fun _=>trivial⟩
 case round =>
  rcases hrel with ⟨rfl,r0,rfl,ha,hb,hc⟩|⟨rfl,r0,rfl,ha,hb,hc⟩|⟨rfl,r0,rfl,ha,hb,hc⟩|⟨rfl,r0,rfl,ha,hb,hc⟩
  · have HP:=Lh hc
    clear hc
    go_wp2_with fail
    go_loop [3,5] (fun n j=>Auth3Rel True d1 n j) (fun _ j=>d1.length - (intOf j).toNat)
    case atStart=>exact ⟨0,r0,Nat.zero_le _,rfl,rfl,ha,hb,by omega,fun h=>⟨HP.out h,fun x _ h=>by omega⟩⟩
    case round =>
     obtain ⟨q,r,hq,rfl,rfl,hr0,hr1,hq10,hr2⟩:=hrel
     have HR:=Lh hr2
     clear hr2
     by_cases hgo:q<d1.length∧r<5000
     · obtain ⟨hlt,hn⟩:=hgo
       obtain ⟨b2,off2,ha2,_,_,e5⟩:=H1.out.at q hlt
       subst ha2
       obtain ⟨nm,hnm⟩:∃nm,nm=d1[q]:=⟨_,rfl⟩
       have HNM:=Lh hnm
       rw [← hnm] at e5
       clear hnm
       obtain ⟨mn,hmn⟩:∃mn:Int,(if (nm.size:Int)<5000 then (nm.size:Int) else 5000)=mn:=⟨_,rfl⟩
       have mn0:0≤mn:=by rw [← hmn];split <;> omega
       have mn1:mn≤5000:=by rw [← hmn];split <;> omega
       have HMN:=Lh (show mn<5000→nm.size≤5000 by rw [← hmn];split <;> omega)
       have hq3:(q:Int)<5000:=by omega
       go_wp2
       go_round
       case rel =>
        refine ⟨q+1,_,by omega,by go_num,rfl,by omega,by omega,by push_cast;omega,fun h=>⟨(HR.out hn).1,fun x hx hxq=>?_⟩⟩
        by_cases e:x=q
        · subst e;rw [← HNM.out];exact HMN.out (by omega)
        · exact (HR.out hn).2 x hx (by omega)
       case measure=>simp [intOf];omega
     · have HX:=Lh (show r<5000→(ShortA d1) from fun h=>by
        have hql:q=d1.length:=by omega
        have hsh:ShortA d1:=⟨by omega,fun s hs=>by
         obtain ⟨j,hj,rfl⟩:=List.getElem_of_mem hs
         exact (HR.out h).2 j hj (by omega)⟩
        have hp:=(HR.out h).1
        exact hsh)
       clear HR
       have hdone:∃t:Bool,decide (q<d1.length)=t∧(t=true→decide (r<5000)=false):=⟨_,rfl,fun h=>decide_eq_false fun h2=>hgo ⟨of_decide_eq_true h,h2⟩⟩
       obtain ⟨t',ht,ht2⟩:=hdone
       clear hgo
       cases t'
       all_goals
        (try have hq2:=ht2 rfl)
        clear ht2
        go_wp2
        go_round
        case rel=>exact .inr (.inl ⟨by go_num,r,rfl,hr0,hr1,HX.out⟩)
        case measure=>simp [intOf]
  · have HP:=Lh hc
    clear hc
    go_wp2_with fail
    go_loop [3,5] (fun n j=>Auth3Rel (ShortA d1) d2 n j) (fun _ j=>d2.length - (intOf j).toNat)
    case atStart=>exact ⟨0,r0,Nat.zero_le _,rfl,rfl,ha,hb,by omega,fun h=>⟨HP.out h,fun x _ h=>by omega⟩⟩
    case round =>
     obtain ⟨q,r,hq,rfl,rfl,hr0,hr1,hq10,hr2⟩:=hrel
     have HR:=Lh hr2
     clear hr2
     by_cases hgo:q<d2.length∧r<5000
     · obtain ⟨hlt,hn⟩:=hgo
       obtain ⟨b2,off2,ha2,_,_,e5⟩:=H2.out.at q hlt
       subst ha2
       obtain ⟨nm,hnm⟩:∃nm,nm=d2[q]:=⟨_,rfl⟩
       have HNM:=Lh hnm
       rw [← hnm] at e5
       clear hnm
       obtain ⟨mn,hmn⟩:∃mn:Int,(if (nm.size:Int)<5000 then (nm.size:Int) else 5000)=mn:=⟨_,rfl⟩
       have mn0:0≤mn:=by rw [← hmn];split <;> omega
       have mn1:mn≤5000:=by rw [← hmn];split <;> omega
       have HMN:=Lh (show mn<5000→nm.size≤5000 by rw [← hmn];split <;> omega)
       have hq3:(q:Int)<5000:=by omega
       go_wp2
       go_round
       case rel =>
        refine ⟨q+1,_,by omega,by go_num,rfl,by omega,by omega,by push_cast;omega,fun h=>⟨(HR.out hn).1,fun x hx hxq=>?_⟩⟩
        by_cases e:x=q
        · subst e;rw [← HNM.out];exact HMN.out (by omega)
        · exact (HR.out hn).2 x hx (by omega)
       case measure=>simp [intOf];omega
     · have HX:=Lh (show r<5000→(ShortA d1∧ShortA d2) from fun h=>by
        have hql:q=d2.length:=by omega
        have hsh:ShortA d2:=⟨by omega,fun s hs=>by
         obtain ⟨j,hj,rfl⟩:=List.getElem_of_mem hs
         exact (HR.out h).2 j hj (by omega)⟩
        have hp:=(HR.out h).1
        exact ⟨hp,hsh⟩)
       clear HR
       have hdone:∃t:Bool,decide (q<d2.length)=t∧(t=true→decide (r<5000)=false):=⟨_,rfl,fun h=>decide_eq_false fun h2=>hgo ⟨of_decide_eq_true h,h2⟩⟩
       obtain ⟨t',ht,ht2⟩:=hdone
       clear hgo
       cases t'
       all_goals
        (try have hq2:=ht2 rfl)
        clear ht2
        go_wp2
        go_round
        case rel=>exact .inr (.inr (.inl ⟨by go_num,r,rfl,hr0,hr1,HX.out⟩))
        case measure=>simp [intOf]
  · have HP:=Lh hc
    clear hc
    go_wp2_with fail
    go_loop [3,5] (fun n j=>Auth3Rel (ShortA d1∧ShortA d2) d3 n j) (fun _ j=>d3.length - (intOf j).toNat)
    case atStart=>exact ⟨0,r0,Nat.zero_le _,rfl,rfl,ha,hb,by omega,fun h=>⟨HP.out h,fun x _ h=>by omega⟩⟩
    case round =>
     obtain ⟨q,r,hq,rfl,rfl,hr0,hr1,hq10,hr2⟩:=hrel
     have HR:=Lh hr2
     clear hr2
     by_cases hgo:q<d3.length∧r<5000
     · obtain ⟨hlt,hn⟩:=hgo
       obtain ⟨b2,off2,ha2,_,_,e5⟩:=H3.out.at q hlt
       subst ha2
       obtain ⟨nm,hnm⟩:∃nm,nm=d3[q]:=⟨_,rfl⟩
       have HNM:=Lh hnm
       rw [← hnm] at e5
       clear hnm
       obtain ⟨mn,hmn⟩:∃mn:Int,(if (nm.size:Int)<5000 then (nm.size:Int) else 5000)=mn:=⟨_,rfl⟩
       have mn0:0≤mn:=by rw [← hmn];split <;> omega
       have mn1:mn≤5000:=by rw [← hmn];split <;> omega
       have HMN:=Lh (show mn<5000→nm.size≤5000 by rw [← hmn];split <;> omega)
       have hq3:(q:Int)<5000:=by omega
       go_wp2
       go_round
       case rel =>
        refine ⟨q+1,_,by omega,by go_num,rfl,by omega,by omega,by push_cast;omega,fun h=>⟨(HR.out hn).1,fun x hx hxq=>?_⟩⟩
        by_cases e:x=q
        · subst e;rw [← HNM.out];exact HMN.out (by omega)
        · exact (HR.out hn).2 x hx (by omega)
       case measure=>simp [intOf];omega
     · have HX:=Lh (show r<5000→(ShortA d1∧ShortA d2∧ShortA d3) from fun h=>by
        have hql:q=d3.length:=by omega
        have hsh:ShortA d3:=⟨by omega,fun s hs=>by
         obtain ⟨j,hj,rfl⟩:=List.getElem_of_mem hs
         exact (HR.out h).2 j hj (by omega)⟩
        have hp:=(HR.out h).1
        exact ⟨hp.1,hp.2,hsh⟩)
       clear HR
       have hdone:∃t:Bool,decide (q<d3.length)=t∧(t=true→decide (r<5000)=false):=⟨_,rfl,fun h=>decide_eq_false fun h2=>hgo ⟨of_decide_eq_true h,h2⟩⟩
       obtain ⟨t',ht,ht2⟩:=hdone
       clear hgo
       cases t'
       all_goals
        (try have hq2:=ht2 rfl)
        clear ht2
        go_wp2
        go_round
        case rel=>exact .inr (.inr (.inr ⟨by go_num,r,rfl,hr0,hr1,HX.out⟩))
        case measure=>simp [intOf]
  · have HX:=Lh hc
    clear hc
    go_wp2
    go_ret
    exact ⟨_,rfl,fun h=>HX.out (by simpa using h),rfl⟩
structure NotLongR (r:RootV):Prop where
 len:r.keys.length≤40
 keys:∀k ∈ r.keys,k.1.size≤300∧k.2.size≤300
 a:ShortA r.au.a.ids
 b:ShortA r.au.b.ids
 c:ShortA r.au.c.ids
def Long22Post (r:RootV) (w:World) (e:Ending) (w':World):Prop:=∃b:Bool,e=.returned (.bool b)∧(b=false→NotLongR r)∧Below w.heap.size w w'
set_option maxHeartbeats 2000000 in
set_option maxRecDepth 100000 in
theorem lawLong22 (v e:Int) (l:List Key2) (t1 t2 t3:Int) (d1 d2 d3:List ByteArray) (ka i1 i2 i3:Option Addr) (kc c1 c2 c3:Nat) (w:World) (hI:RootIn w 0 w.heap.size ⟨v,e,l,⟨⟨t1,d1⟩,⟨t2,d2⟩,⟨t3,d3⟩⟩⟩ ka i1 i2 i3) (hl:l.length≤9223372036854775807) (l1:d1.length≤9223372036854775807) (l2:d2.length≤9223372036854775807) (l3:d3.length≤9223372036854775807) :
 Calls Tryz.prog 25 #[.agg #[.int .i64 v,.int .i64 e,.slice ka l.length kc,.int .i64 t1,.slice i1 d1.length c1,.int .i64 t2,.slice i2 d2.length c2,.int .i64 t3,.slice i3 d3.length c3]] w (Long22Post ⟨v,e,l,⟨⟨t1,d1⟩,⟨t2,d2⟩,⟨t3,d3⟩⟩⟩ w):=by
 obtain ⟨W,hW⟩:∃W,W=w.alloc (.cells #[.int .i64 v,.int .i64 e,.slice ka l.length kc,.int .i64 t1,.slice i1 d1.length c1,.int .i64 t2,.slice i2 d2.length c2,.int .i64 t3,.slice i3 d3.length c3] 32):=⟨_,rfl⟩
 have hb:Below w.heap.size w W:=by rw [hW];exact (Below.refl _ _).alloc lz _
 have hx:W.heap[w.heap.size]?=some (.cells #[.int .i64 v,.int .i64 e,.slice ka l.length kc,.int .i64 t1,.slice i1 d1.length c1,.int .i64 t2,.slice i2 d2.length c2,.int .i64 t3,.slice i3 d3.length c3] 32 (0,0)):=by rw [hW];exact heap_alloc_new w _
 have hb2:Below W.heap.size W (W.alloc (.cells #[.int .i64 t1,.slice i1 d1.length c1,.int .i64 t2,.slice i2 d2.length c2,.int .i64 t3,.slice i3 d3.length c3] 30)):=(Below.refl _ _).alloc lz _
 have HI:=Lh (show ∀w':World,Below w.heap.size w w'→RootIn w' 0 w'.heap.size ⟨v,e,l,⟨⟨t1,d1⟩,⟨t2,d2⟩,⟨t3,d3⟩⟩⟩ ka i1 i2 i3 from fun w' h=>hI.below h lz lz h.size)
 have HL3:=Lh (lawLong3 t1 t2 t3 d1 d2 d3 i1 i2 i3 c1 c2 c3 W.heap.size (W.alloc (.cells #[.int .i64 t1,.slice i1 d1.length c1,.int .i64 t2,.slice i2 d2.length c2,.int .i64 t3,.slice i3 d3.length c3] 30)) (heap_alloc_new W _) (HI.out _ (hb.trans (hb2.mono hb.size))).a (HI.out _ (hb.trans (hb2.mono hb.size))).b (HI.out _ (hb.trans (hb2.mono hb.size))).c l1 l2 l3)
 have HC:=Lh (show ∀w':World,Below W.heap.size W w'→w'.cell? ⟨w.heap.size,0,none⟩=some (.int .i64 v)∧w'.cell? ⟨w.heap.size,1,none⟩=some (.int .i64 e)∧w'.cell? ⟨w.heap.size,2,none⟩=some (.slice ka l.length kc)∧w'.cell? ⟨w.heap.size,3,none⟩=some (.int .i64 t1)∧w'.cell? ⟨w.heap.size,4,none⟩=some (.slice i1 d1.length c1)∧w'.cell? ⟨w.heap.size,5,none⟩=some (.int .i64 t2)∧w'.cell? ⟨w.heap.size,6,none⟩=some (.slice i2 d2.length c2)∧w'.cell? ⟨w.heap.size,7,none⟩=some (.int .i64 t3)∧w'.cell? ⟨w.heap.size,8,none⟩=some (.slice i3 d3.length c3) from fun w' h=>by
  have y:=(h.block _ (heap_lt hx)).trans hx
  exact ⟨box_cell y rfl,box_cell y rfl,box_cell y rfl,box_cell y rfl,box_cell y rfl,box_cell y rfl,box_cell y rfl,box_cell y rfl,box_cell y rfl⟩)
 have HB:=Lh hb
 have HB2:=Lh hb2
 have HW:=Lh hW
 clear hI hb hx hW hb2
 obtain ⟨y0,y1,y2,y3,y4,y5,y6,y7,y8⟩:=HC.out W (Below.refl _ _)
 by_cases h40:l.length≤40
 case neg =>
  have h40':decide (40<(l.length:Int))=true:=by simp;omega
  clear HC
  go_enter Tryz.func25,Tryz.ntmps25
  go_upto_region 1 with fail
  rw [← HW.out]
  go_wp2
  go_ret
  exact ⟨true,rfl,(fun h=>by cases h),HB.out⟩
 have h40':decide (40<(l.length:Int))=false:=by simp;omega
 have H40:=Lh h40
 obtain ⟨nn,hnn⟩:∃nn,nn=l.length:=⟨_,rfl⟩
 have HNN:=Lh hnn
 rw [← hnn] at HC HW y2 h40'
 rw [← hnn]
 clear h40 hnn
 go_enter Tryz.func25,Tryz.ntmps25
 go_upto_region 1 with fail
 rw [← HW.out]
 clear HW
 go_wp2_with fail
 refine HL3.out.mono ?_
 clear HL3 y0 y1 y2 y3 y4 y5 y6 y7 y8
 rintro e w2 ⟨b,rfl,hsh,hw2⟩
 have HB3:=Lh (show Below W.heap.size W w2 by rw [← hw2];exact HB2.out)
 clear hw2
 cases b with
 | true =>
  clear hsh
  go_wp2
  go_ret
  exact ⟨true,rfl,(fun h=>by cases h),HB.out.trans (HB3.out.mono HB.out.size)⟩
 | false =>
  have HSH:=Lh (hsh rfl)
  clear hsh
  go_wp2_with fail
  go_loopw [3] (fun i wr=>∃k:Nat,k≤nn∧i=.int .i64 k∧(∀j (h:j<l.length),j<k→l[j].1.size≤300∧l[j].2.size≤300)∧Below W.heap.size W wr) (fun i _=>nn - (intOf i).toNat)
  case atStart=>exact ⟨0,by omega,rfl,fun j _ h=>by omega,HB3.out⟩
  case round =>
   obtain ⟨k,hk,rfl,hal,hbel⟩:=hrel
   have HAL:=Lh hal
   have HBL:=Lh hbel
   have HBZ:=Lh (HB.out.trans (hbel.mono HB.out.size))
   obtain ⟨y0,y1,y2,y3,y4,y5,y6,y7,y8⟩:=HC.out wr hbel
   clear hal hbel y0 y1 y3 y4 y5 y6 y7 y8
   by_cases hlt:k<nn
   · have hlt':k<l.length:=by rw [← HNN.out];exact hlt
     obtain ⟨b,off,ha,_,hb,e0,e1⟩:=((HI.out wr HBZ.out).keys).at k hlt'
     subst ha
     obtain ⟨s0,hs0⟩:∃s0,s0=l[k].1:=⟨_,rfl⟩
     obtain ⟨s1,hs1⟩:∃s1,s1=l[k].2:=⟨_,rfl⟩
     replace e0:=e0.trans (congrArg (fun z=>some (Value.string z)) hs0.symm)
     replace e1:=e1.trans (congrArg (fun z=>some (Value.string z)) hs1.symm)
     have HS1:=Lh (And.intro hs0 hs1)
     have m1:(0:Int)≤(k:Int):=by omega
     have m2:(k:Int)<(nn:Int):=by omega
     clear hs0 hs1
     by_cases g0:s0.size≤300
     · have g0':decide (300<(s0.size:Int))=false:=by simp;omega
       by_cases g1:s1.size≤300
       · have g1':decide (300<(s1.size:Int))=false:=by simp;omega
         have HN:=Lh (show ∀j (h:j<l.length),j<k+1→l[j].1.size≤300∧l[j].2.size≤300 from fun j hj hjk=>by
          rcases Nat.lt_succ_iff_lt_or_eq.1 hjk with h|h
          · exact HAL.out j hj h
          · subst h;exact ⟨by rw [← HS1.out.1];exact g0,by rw [← HS1.out.2];exact g1⟩)
         clear g0 g1
         go_wp2
         go_roundw
         case rel=>exact ⟨k+1,by omega,by go_num,HN.out,HBL.out⟩
         case measure=>simp [intOf];omega
       · have g1':decide (300<(s1.size:Int))=true:=by simp;omega
         clear g0 g1
         go_wp2
         go_ret
         exact ⟨true,rfl,(fun h=>by cases h),HBZ.out⟩
     · have g0':decide (300<(s0.size:Int))=true:=by simp;omega
       clear g0
       go_wp2
       go_ret
       exact ⟨true,rfl,(fun h=>by cases h),HBZ.out⟩
   · obtain rfl:k=nn:=by omega
     have HNL:=Lh (show NotLongR ⟨v,e,l,⟨⟨t1,d1⟩,⟨t2,d2⟩,⟨t3,d3⟩⟩⟩ from ⟨H40.out,fun x hx=>by
      obtain ⟨j,hj,rfl⟩:=List.getElem_of_mem hx
      exact HAL.out j hj (by rw [HNN.out];exact hj),HSH.out.1,HSH.out.2.1,HSH.out.2.2⟩)
     go_wp2
     go_ret
     exact ⟨false,rfl,fun _=>HNL.out,HBZ.out⟩
theorem rootFits_long {r:RootV} (h:NotLongR r) (hv:-9223372036854775808≤r.ver∧r.ver≤9223372036854775807) (he:-9223372036854775808≤r.exp∧r.exp≤9223372036854775807) (ha:-9223372036854775808≤r.au.a.thr∧r.au.a.thr≤9223372036854775807) (hb:-9223372036854775808≤r.au.b.thr∧r.au.b.thr≤9223372036854775807) (hc:-9223372036854775808≤r.au.c.thr∧r.au.c.thr≤9223372036854775807):RootFits r :=
 ⟨hv,he,h.len,h.keys,⟨ha,Nat.le_trans h.a.1 (by decide),fun s hs=>Nat.le_trans (h.a.2 s hs) (by decide)⟩,⟨hb,Nat.le_trans h.b.1 (by decide),fun s hs=>Nat.le_trans (h.b.2 s hs) (by decide)⟩,⟨hc,Nat.le_trans h.c.1 (by decide),fun s hs=>Nat.le_trans (h.c.2 s hs) (by decide)⟩⟩
theorem textsJ_solid (l:List ByteArray):(textsJ l).solid=true:=by
 unfold textsJ listJ JV.solid
 rw [solids_all _ fun x hx=>by obtain ⟨t,_,rfl⟩:=List.mem_map.1 hx;exact txtJ_solid t]
 rfl
theorem solid_names:typN≠⟨#[]⟩∧expN≠⟨#[]⟩∧keysN≠⟨#[]⟩∧rolN≠⟨#[]⟩∧verN≠⟨#[]⟩∧rootN≠⟨#[]⟩∧snpN≠⟨#[]⟩∧tgtN≠⟨#[]⟩∧keyidsN≠⟨#[]⟩∧thrN≠⟨#[]⟩∧pubN≠⟨#[]⟩∧schN≠⟨#[]⟩:=by decide
theorem authJ_solid (a:AuthV):(authJ a).solid=true:=by
 refine objJ_solid (N:=authM a) fun p hp=>?_
 simp only [authM,List.mem_cons,List.not_mem_nil,or_false] at hp
 rcases hp with rfl|rfl
 · exact ⟨solid_names.2.2.2.2.2.2.2.2.1,textsJ_solid _⟩
 · exact ⟨solid_names.2.2.2.2.2.2.2.2.2.1,numJ_solid _⟩
theorem rolesM_solid (x:Auth3):∀p ∈ rolesM x,p.1≠⟨#[]⟩∧p.2.solid=true:=fun p hp=>by
 obtain ⟨-,-,-,-,-,h1,h2,h3,-⟩:=solid_names
 simp only [rolesM,List.mem_cons,List.not_mem_nil,or_false] at hp
 rcases hp with rfl|rfl|rfl
 · exact ⟨h1,authJ_solid _⟩
 · exact ⟨h2,authJ_solid _⟩
 · exact ⟨h3,authJ_solid _⟩
theorem id2_ne {k:Key2} (h:ok2 k=true):id2 k≠⟨#[]⟩:=fun e=>by
 have h1:(id2 k).size=64:=by
  show (keyId _ _).toArray.size=64
  unfold keyId
  rw [if_pos (show keyOk _ _=true from h),List.size_toArray,shaHex_length]
 rw [e] at h1
 cases h1
theorem keyJ_solid (s t:ByteArray):(keyJ s t).solid=true:=by
 obtain ⟨-,-,-,-,-,-,-,-,-,-,h1,h2⟩:=solid_names
 unfold keyJ JV.solid
 rw [solids_all _ fun x hx=>by
  simp only [List.mem_cons,List.not_mem_nil,or_false] at hx
  rcases hx with rfl|rfl <;> exact txtJ_solid _]
 simp [h1,h2]
theorem tabJ_solid {l:List Key2} (h:∀k ∈ l,ok2 k=true):(tabJ l).solid=true:=by
 unfold tabJ JV.solid
 rw [solids_all _ fun x hx=>by obtain ⟨k,_,rfl⟩:=List.mem_map.1 hx;exact keyJ_solid _ _]
 have:(l.map id2).all (fun n=>decide (n≠⟨#[]⟩))=true:=by
  rw [List.all_eq_true]
  intro x hx
  obtain ⟨k,hk,rfl⟩:=List.mem_map.1 hx
  simpa using id2_ne (h k hk)
 rw [this]
 rfl
theorem rootM_solid {R:RootV} (hm:mayRoot R=true):∀p ∈ rootM R,p.1≠⟨#[]⟩∧p.2.solid=true:=fun p hp=>by
 obtain ⟨h1,h2,h3,h4,h5,-⟩:=solid_names
 simp only [rootM,List.mem_cons,List.not_mem_nil,or_false] at hp
 rcases hp with rfl|rfl|rfl|rfl|rfl
 · exact ⟨h1,txtJ_solid _⟩
 · exact ⟨h2,txtJ_solid _⟩
 · exact ⟨h3,tabJ_solid (mayKeys_parts.1 (mayRoot_parts.1 hm).2.2.1).2.1⟩
 · exact ⟨h4,objJ_solid (rolesM_solid R.au)⟩
 · exact ⟨h5,numJ_solid _⟩
theorem outRoot_solid {R:RootV} (hm:mayRoot R=true) (n:ByteArray):(outJ (rootJ R) n).solid=true:=by
 rw [show rootJ R=objJ (rootM R) from rfl,outJ_filter]
 exact objJ_solid fun p hp=>rootM_solid hm p (List.mem_filter.1 hp).1
theorem outRoles_solid (x:Auth3) (n:ByteArray):(outJ (rolesJ x) n).solid=true:=by
 rw [show rolesJ x=objJ (rolesM x) from rfl,outJ_filter]
 exact objJ_solid fun p hp=>rolesM_solid x p (List.mem_filter.1 hp).1
end Go.Proofs.YtnlgmcapbbgelaaGreatDoor
