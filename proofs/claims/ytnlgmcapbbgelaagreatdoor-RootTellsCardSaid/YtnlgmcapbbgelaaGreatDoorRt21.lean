/- 'v.Names, v.Items = append(v.Names, x), append(v.Items, it)': both rows grow, then both cells are stored. No program in sight. -/
import Derived.Test.YtnlgmcapbbgelaaGreatDoorRt20

namespace Go.Proofs.YtnlgmcapbbgelaaGreatDoor
open Go.RowKit
def dY (v:JV) (w:World) (e:Ending) (w':World):Prop :=
 ∃an cn ai ci,e=.returned (.agg #[.int .u8 v.kind,.int .i64 v.n,.string v.t,.slice an v.names.length cn,.slice ai v.items.length ci])∧Rep w' w.heap.size w'.heap.size v (.agg #[.int .u8 v.kind,.int .i64 v.n,.string v.t,.slice an v.names.length cn,.slice ai v.items.length ci])∧Below w.heap.size w w'
def pB (lo:Nat) (v:JV):Prop:=∀(x:Value) (w:World) (hi:Nat),hi≤w.heap.size→Rep w lo hi v x→Calls Tryz.prog 73 #[x] w (dY v w)
theorem cu (lo:Nat) (v:JV) (hN:v.wt≤4294967296) (hf:v.items=[]):pB lo v:=by
 intro x w hi hhi hR
 refine (kF v x w lo hi hN hhi hR fun k h=>by rw [hf] at h;simp at h).mono ?_
 intro e w' h
 exact h
theorem dG (lo:Nat) (v:JV) (hN:v.wt≤4294967296) (hl:0<lo):pB lo v:=by
 intro x w hi hhi hR
 refine (kF v x w lo hi hN hhi hR fun k h=>.inl hl).mono ?_
 intro e w' h
 exact h
def zc (ids:List ByteArray):Prop:=ids.length≤500∧∀s ∈ ids,s.size≤5000
def pP (P:Prop) (ids:List ByteArray) (n j:Value):Prop :=
 ∃(q:Nat) (r:Int),q≤ids.length∧j=.int .i64 q∧n=.int .i64 r∧0≤r∧r≤20000∧10 * (q:Int)≤r∧(r<5000→P∧∀x (h:x<ids.length),x<q→ids[x].size≤5000)
def bv (k:Int) (P:Prop) (n i:Value):Prop:=i=.int .i64 k∧∃r:Int,n=.int .i64 r∧0≤r∧r≤20000∧(r<5000→P)
def rN (d1 d2 d3:List ByteArray) (w:World) (e:Ending) (w':World):Prop:=∃b:Bool,e=.returned (.bool b)∧(b=false→zc d1∧zc d2∧zc d3)∧w=w'
set_option maxHeartbeats 2000000 in
set_option maxRecDepth 100000 in
theorem sP (t1 t2 t3:Int) (d1 d2 d3:List ByteArray) (i1 i2 i3:Option Addr) (c1 c2 c3 g:Nat) (w:World) (hg:w.heap[g]?=some (.cells #[.int .i64 t1,.slice i1 d1.length c1,.int .i64 t2,.slice i2 d2.length c2,.int .i64 t3,.slice i3 d3.length c3] 30 (0,0))) (h1:qv w 0 w.heap.size i1 d1) (h2:qv w 0 w.heap.size i2 d2) (h3:qv w 0 w.heap.size i3 d3) (l1:d1.length≤9223372036854775807) (l2:d2.length≤9223372036854775807) (l3:d3.length≤9223372036854775807) :
 Calls Tryz.prog 26 #[.slice (some ⟨g,0,none⟩) 3 3] w (rN d1 d2 d3 w):=by
 have q1:w.cell? ⟨g,1,none⟩=some (.slice i1 d1.length c1):=qq hg rfl
 have q3:w.cell? ⟨g,3,none⟩=some (.slice i2 d2.length c2):=qq hg rfl
 have q5:w.cell? ⟨g,5,none⟩=some (.slice i3 d3.length c3):=qq hg rfl
 have H1:=Lh h1
 have H2:=Lh h2
 have H3:=Lh h3
 clear h1 h2 h3 hg
 go_enter Tryz.func26,Tryz.ntmps26
 go_wp2_with fail
 go_loop [3,4,5] (fun n i _=>bv 0 True n i∨bv 1 (zc d1) n i∨bv 2 (zc d1∧zc d2) n i∨bv 3 (zc d1∧zc d2∧zc d3) n i) (fun _ i _=>3 - (intOf i).toNat)
 case atStart=>exact .inl ⟨rfl,0,rfl,by omega,by omega,fun _=>trivial⟩
 case round =>
  rcases hrel with ⟨rfl,r0,rfl,ha,hb,hc⟩|⟨rfl,r0,rfl,ha,hb,hc⟩|⟨rfl,r0,rfl,ha,hb,hc⟩|⟨rfl,r0,rfl,ha,hb,hc⟩
  · have HP:=Lh hc
    clear hc
    go_wp2_with fail
    go_loop [3,5] (fun n j=>pP True d1 n j) (fun _ j=>d1.length - (intOf j).toNat)
    case atStart=>exact ⟨0,r0,Nat.zero_le _,rfl,rfl,ha,hb,by omega,fun h=>⟨HP.out h,fun x _ h=>by omega⟩⟩
    case round =>
     obtain ⟨q,r,hq,rfl,rfl,hr0,hr1,hq10,hr2⟩:=hrel
     have HR:=Lh hr2
     clear hr2
     by_cases hgo:q<d1.length∧r<5000
     · obtain ⟨hlt,hn⟩:=hgo
       obtain ⟨b2,off2,ha2,_,_,e5⟩:=H1.out.at q hlt
       subst ha2
       obtain ⟨nm,hnm⟩:∃nm,nm=d1[q]:=⟨_,rfl⟩
       have HNM:=Lh hnm
       rw [← hnm] at e5
       clear hnm
       obtain ⟨mn,hmn⟩:∃mn:Int,(if (nm.size:Int)<5000 then (nm.size:Int) else 5000)=mn:=⟨_,rfl⟩
       have mn0:0≤mn:=by rw [← hmn];split <;> omega
       have mn1:mn≤5000:=by rw [← hmn];split <;> omega
       have HMN:=Lh (show mn<5000→nm.size≤5000 by rw [← hmn];split <;> omega)
       have hq3:(q:Int)<5000:=by omega
       go_wp2
       go_round
       case rel =>
        refine ⟨q+1,_,by omega,by go_num,rfl,by omega,by omega,by push_cast;omega,fun h=>⟨(HR.out hn).1,fun x hx hxq=>?_⟩⟩
        by_cases e:x=q
        · subst e;rw [← HNM.out];exact HMN.out (by omega)
        · exact (HR.out hn).2 x hx (by omega)
       case measure=>simp [intOf];omega
     · have HX:=Lh (show r<5000→(zc d1) from fun h=>by
        have hql:q=d1.length:=by omega
        have hsh:zc d1:=⟨by omega,fun s hs=>by
         obtain ⟨j,hj,rfl⟩:=List.getElem_of_mem hs
         exact (HR.out h).2 j hj (by omega)⟩
        have hp:=(HR.out h).1
        exact hsh)
       clear HR
       have hdone:∃t:Bool,decide (q<d1.length)=t∧(t=true→decide (r<5000)=false):=⟨_,rfl,fun h=>decide_eq_false fun h2=>hgo ⟨of_decide_eq_true h,h2⟩⟩
       obtain ⟨t',ht,ht2⟩:=hdone
       clear hgo
       cases t'
       all_goals
        (try have hq2:=ht2 rfl)
        clear ht2
        go_wp2
        go_round
        case rel=>exact .inr (.inl ⟨by go_num,r,rfl,hr0,hr1,HX.out⟩)
        case measure=>simp [intOf]
  · have HP:=Lh hc
    clear hc
    go_wp2_with fail
    go_loop [3,5] (fun n j=>pP (zc d1) d2 n j) (fun _ j=>d2.length - (intOf j).toNat)
    case atStart=>exact ⟨0,r0,Nat.zero_le _,rfl,rfl,ha,hb,by omega,fun h=>⟨HP.out h,fun x _ h=>by omega⟩⟩
    case round =>
     obtain ⟨q,r,hq,rfl,rfl,hr0,hr1,hq10,hr2⟩:=hrel
     have HR:=Lh hr2
     clear hr2
     by_cases hgo:q<d2.length∧r<5000
     · obtain ⟨hlt,hn⟩:=hgo
       obtain ⟨b2,off2,ha2,_,_,e5⟩:=H2.out.at q hlt
       subst ha2
       obtain ⟨nm,hnm⟩:∃nm,nm=d2[q]:=⟨_,rfl⟩
       have HNM:=Lh hnm
       rw [← hnm] at e5
       clear hnm
       obtain ⟨mn,hmn⟩:∃mn:Int,(if (nm.size:Int)<5000 then (nm.size:Int) else 5000)=mn:=⟨_,rfl⟩
       have mn0:0≤mn:=by rw [← hmn];split <;> omega
       have mn1:mn≤5000:=by rw [← hmn];split <;> omega
       have HMN:=Lh (show mn<5000→nm.size≤5000 by rw [← hmn];split <;> omega)
       have hq3:(q:Int)<5000:=by omega
       go_wp2
       go_round
       case rel =>
        refine ⟨q+1,_,by omega,by go_num,rfl,by omega,by omega,by push_cast;omega,fun h=>⟨(HR.out hn).1,fun x hx hxq=>?_⟩⟩
        by_cases e:x=q
        · subst e;rw [← HNM.out];exact HMN.out (by omega)
        · exact (HR.out hn).2 x hx (by omega)
       case measure=>simp [intOf];omega
     · have HX:=Lh (show r<5000→(zc d1∧zc d2) from fun h=>by
        have hql:q=d2.length:=by omega
        have hsh:zc d2:=⟨by omega,fun s hs=>by
         obtain ⟨j,hj,rfl⟩:=List.getElem_of_mem hs
         exact (HR.out h).2 j hj (by omega)⟩
        have hp:=(HR.out h).1
        exact ⟨hp,hsh⟩)
       clear HR
       have hdone:∃t:Bool,decide (q<d2.length)=t∧(t=true→decide (r<5000)=false):=⟨_,rfl,fun h=>decide_eq_false fun h2=>hgo ⟨of_decide_eq_true h,h2⟩⟩
       obtain ⟨t',ht,ht2⟩:=hdone
       clear hgo
       cases t'
       all_goals
        (try have hq2:=ht2 rfl)
        clear ht2
        go_wp2
        go_round
        case rel=>exact .inr (.inr (.inl ⟨by go_num,r,rfl,hr0,hr1,HX.out⟩))
        case measure=>simp [intOf]
  · have HP:=Lh hc
    clear hc
    go_wp2_with fail
    go_loop [3,5] (fun n j=>pP (zc d1∧zc d2) d3 n j) (fun _ j=>d3.length - (intOf j).toNat)
    case atStart=>exact ⟨0,r0,Nat.zero_le _,rfl,rfl,ha,hb,by omega,fun h=>⟨HP.out h,fun x _ h=>by omega⟩⟩
    case round =>
     obtain ⟨q,r,hq,rfl,rfl,hr0,hr1,hq10,hr2⟩:=hrel
     have HR:=Lh hr2
     clear hr2
     by_cases hgo:q<d3.length∧r<5000
     · obtain ⟨hlt,hn⟩:=hgo
       obtain ⟨b2,off2,ha2,_,_,e5⟩:=H3.out.at q hlt
       subst ha2
       obtain ⟨nm,hnm⟩:∃nm,nm=d3[q]:=⟨_,rfl⟩
       have HNM:=Lh hnm
       rw [← hnm] at e5
       clear hnm
       obtain ⟨mn,hmn⟩:∃mn:Int,(if (nm.size:Int)<5000 then (nm.size:Int) else 5000)=mn:=⟨_,rfl⟩
       have mn0:0≤mn:=by rw [← hmn];split <;> omega
       have mn1:mn≤5000:=by rw [← hmn];split <;> omega
       have HMN:=Lh (show mn<5000→nm.size≤5000 by rw [← hmn];split <;> omega)
       have hq3:(q:Int)<5000:=by omega
       go_wp2
       go_round
       case rel =>
        refine ⟨q+1,_,by omega,by go_num,rfl,by omega,by omega,by push_cast;omega,fun h=>⟨(HR.out hn).1,fun x hx hxq=>?_⟩⟩
        by_cases e:x=q
        · subst e;rw [← HNM.out];exact HMN.out (by omega)
        · exact (HR.out hn).2 x hx (by omega)
       case measure=>simp [intOf];omega
     · have HX:=Lh (show r<5000→(zc d1∧zc d2∧zc d3) from fun h=>by
        have hql:q=d3.length:=by omega
        have hsh:zc d3:=⟨by omega,fun s hs=>by
         obtain ⟨j,hj,rfl⟩:=List.getElem_of_mem hs
         exact (HR.out h).2 j hj (by omega)⟩
        have hp:=(HR.out h).1
        exact ⟨hp.1,hp.2,hsh⟩)
       clear HR
       have hdone:∃t:Bool,decide (q<d3.length)=t∧(t=true→decide (r<5000)=false):=⟨_,rfl,fun h=>decide_eq_false fun h2=>hgo ⟨of_decide_eq_true h,h2⟩⟩
       obtain ⟨t',ht,ht2⟩:=hdone
       clear hgo
       cases t'
       all_goals
        (try have hq2:=ht2 rfl)
        clear ht2
        go_wp2
        go_round
        case rel=>exact .inr (.inr (.inr ⟨by go_num,r,rfl,hr0,hr1,HX.out⟩))
        case measure=>simp [intOf]
  · have HX:=Lh hc
    clear hc
    go_wp2
    go_ret
    exact ⟨_,rfl,fun h=>HX.out (by simpa using h),rfl⟩
structure NotLongR (r:RootV):Prop where
 len:r.keys.length≤40
 keys:∀k ∈ r.keys,k.1.size≤300∧k.2.size≤300
 a:zc r.au.a.ids
 b:zc r.au.b.ids
 c:zc r.au.c.ids
def dB (r:RootV) (w:World) (e:Ending) (w':World):Prop:=∃b:Bool,e=.returned (.bool b)∧(b=false→NotLongR r)∧Below w.heap.size w w'
set_option maxHeartbeats 2000000 in
set_option maxRecDepth 100000 in
theorem fI (v e:Int) (l:List Key2) (t1 t2 t3:Int) (d1 d2 d3:List ByteArray) (ka i1 i2 i3:Option Addr) (kc c1 c2 c3:Nat) (w:World) (hI:RootIn w 0 w.heap.size ⟨v,e,l,⟨⟨t1,d1⟩,⟨t2,d2⟩,⟨t3,d3⟩⟩⟩ ka i1 i2 i3) (hl:l.length≤9223372036854775807) (l1:d1.length≤9223372036854775807) (l2:d2.length≤9223372036854775807) (l3:d3.length≤9223372036854775807) :
 Calls Tryz.prog 25 #[.agg #[.int .i64 v,.int .i64 e,.slice ka l.length kc,.int .i64 t1,.slice i1 d1.length c1,.int .i64 t2,.slice i2 d2.length c2,.int .i64 t3,.slice i3 d3.length c3]] w (dB ⟨v,e,l,⟨⟨t1,d1⟩,⟨t2,d2⟩,⟨t3,d3⟩⟩⟩ w):=by
 obtain ⟨W,hW⟩:∃W,W=w.alloc (.cells #[.int .i64 v,.int .i64 e,.slice ka l.length kc,.int .i64 t1,.slice i1 d1.length c1,.int .i64 t2,.slice i2 d2.length c2,.int .i64 t3,.slice i3 d3.length c3] 32):=⟨_,rfl⟩
 have hb:Below w.heap.size w W:=by rw [hW];exact (Below.refl _ _).alloc lz _
 have hx:W.heap[w.heap.size]?=some (.cells #[.int .i64 v,.int .i64 e,.slice ka l.length kc,.int .i64 t1,.slice i1 d1.length c1,.int .i64 t2,.slice i2 d2.length c2,.int .i64 t3,.slice i3 d3.length c3] 32 (0,0)):=by rw [hW];exact heap_alloc_new w _
 have hb2:Below W.heap.size W (W.alloc (.cells #[.int .i64 t1,.slice i1 d1.length c1,.int .i64 t2,.slice i2 d2.length c2,.int .i64 t3,.slice i3 d3.length c3] 30)):=(Below.refl _ _).alloc lz _
 have HI:=Lh (show ∀w':World,Below w.heap.size w w'→RootIn w' 0 w'.heap.size ⟨v,e,l,⟨⟨t1,d1⟩,⟨t2,d2⟩,⟨t3,d3⟩⟩⟩ ka i1 i2 i3 from fun w' h=>hI.below h lz lz h.size)
 have HL3:=Lh (sP t1 t2 t3 d1 d2 d3 i1 i2 i3 c1 c2 c3 W.heap.size (W.alloc (.cells #[.int .i64 t1,.slice i1 d1.length c1,.int .i64 t2,.slice i2 d2.length c2,.int .i64 t3,.slice i3 d3.length c3] 30)) (heap_alloc_new W _) (HI.out _ (hb.trans (hb2.mono hb.size))).a (HI.out _ (hb.trans (hb2.mono hb.size))).b (HI.out _ (hb.trans (hb2.mono hb.size))).c l1 l2 l3)
 have HC:=Lh (show ∀w':World,Below W.heap.size W w'→w'.cell? ⟨w.heap.size,0,none⟩=some (.int .i64 v)∧w'.cell? ⟨w.heap.size,1,none⟩=some (.int .i64 e)∧w'.cell? ⟨w.heap.size,2,none⟩=some (.slice ka l.length kc)∧w'.cell? ⟨w.heap.size,3,none⟩=some (.int .i64 t1)∧w'.cell? ⟨w.heap.size,4,none⟩=some (.slice i1 d1.length c1)∧w'.cell? ⟨w.heap.size,5,none⟩=some (.int .i64 t2)∧w'.cell? ⟨w.heap.size,6,none⟩=some (.slice i2 d2.length c2)∧w'.cell? ⟨w.heap.size,7,none⟩=some (.int .i64 t3)∧w'.cell? ⟨w.heap.size,8,none⟩=some (.slice i3 d3.length c3) from fun w' h=>by
  have y:=(h.block _ (qz hx)).trans hx
  exact ⟨qq y rfl,qq y rfl,qq y rfl,qq y rfl,qq y rfl,qq y rfl,qq y rfl,qq y rfl,qq y rfl⟩)
 have HB:=Lh hb
 have HB2:=Lh hb2
 have HW:=Lh hW
 clear hI hb hx hW hb2
 obtain ⟨y0,y1,y2,y3,y4,y5,y6,y7,y8⟩:=HC.out W (Below.refl _ _)
 by_cases h40:l.length≤40
 case neg =>
  have h40':decide (40<(l.length:Int))=true:=by simp;omega
  clear HC
  go_enter Tryz.func25,Tryz.ntmps25
  go_upto_region 1 with fail
  rw [← HW.out]
  go_wp2
  go_ret
  exact ⟨true,rfl,(fun h=>by cases h),HB.out⟩
 have h40':decide (40<(l.length:Int))=false:=by simp;omega
 have H40:=Lh h40
 obtain ⟨nn,hnn⟩:∃nn,nn=l.length:=⟨_,rfl⟩
 have HNN:=Lh hnn
 rw [← hnn] at HC HW y2 h40'
 rw [← hnn]
 clear h40 hnn
 go_enter Tryz.func25,Tryz.ntmps25
 go_upto_region 1 with fail
 rw [← HW.out]
 clear HW
 go_wp2_with fail
 refine HL3.out.mono ?_
 clear HL3 y0 y1 y2 y3 y4 y5 y6 y7 y8
 rintro e w2 ⟨b,rfl,hsh,hw2⟩
 have HB3:=Lh (show Below W.heap.size W w2 by rw [← hw2];exact HB2.out)
 clear hw2
 cases b with
 | true =>
  clear hsh
  go_wp2
  go_ret
  exact ⟨true,rfl,(fun h=>by cases h),HB.out.trans (HB3.out.mono HB.out.size)⟩
 | false =>
  have HSH:=Lh (hsh rfl)
  clear hsh
  go_wp2_with fail
  go_loopw [3] (fun i wr=>∃k:Nat,k≤nn∧i=.int .i64 k∧(∀j (h:j<l.length),j<k→l[j].1.size≤300∧l[j].2.size≤300)∧Below W.heap.size W wr) (fun i _=>nn - (intOf i).toNat)
  case atStart=>exact ⟨0,by omega,rfl,fun j _ h=>by omega,HB3.out⟩
  case round =>
   obtain ⟨k,hk,rfl,hal,hbel⟩:=hrel
   have HAL:=Lh hal
   have HBL:=Lh hbel
   have HBZ:=Lh (HB.out.trans (hbel.mono HB.out.size))
   obtain ⟨y0,y1,y2,y3,y4,y5,y6,y7,y8⟩:=HC.out wr hbel
   clear hal hbel y0 y1 y3 y4 y5 y6 y7 y8
   by_cases hlt:k<nn
   · have hlt':k<l.length:=by rw [← HNN.out];exact hlt
     obtain ⟨b,off,ha,_,hb,e0,e1⟩:=((HI.out wr HBZ.out).keys).at k hlt'
     subst ha
     obtain ⟨s0,hs0⟩:∃s0,s0=l[k].1:=⟨_,rfl⟩
     obtain ⟨s1,hs1⟩:∃s1,s1=l[k].2:=⟨_,rfl⟩
     replace e0:=e0.trans (congrArg (fun z=>some (Value.string z)) hs0.symm)
     replace e1:=e1.trans (congrArg (fun z=>some (Value.string z)) hs1.symm)
     have HS1:=Lh (And.intro hs0 hs1)
     have m1:(0:Int)≤(k:Int):=by omega
     have m2:(k:Int)<(nn:Int):=by omega
     clear hs0 hs1
     by_cases g0:s0.size≤300
     · have g0':decide (300<(s0.size:Int))=false:=by simp;omega
       by_cases g1:s1.size≤300
       · have g1':decide (300<(s1.size:Int))=false:=by simp;omega
         have HN:=Lh (show ∀j (h:j<l.length),j<k+1→l[j].1.size≤300∧l[j].2.size≤300 from fun j hj hjk=>by
          rcases Nat.lt_succ_iff_lt_or_eq.1 hjk with h|h
          · exact HAL.out j hj h
          · subst h;exact ⟨by rw [← HS1.out.1];exact g0,by rw [← HS1.out.2];exact g1⟩)
         clear g0 g1
         go_wp2
         go_roundw
         case rel=>exact ⟨k+1,by omega,by go_num,HN.out,HBL.out⟩
         case measure=>simp [intOf];omega
       · have g1':decide (300<(s1.size:Int))=true:=by simp;omega
         clear g0 g1
         go_wp2
         go_ret
         exact ⟨true,rfl,(fun h=>by cases h),HBZ.out⟩
     · have g0':decide (300<(s0.size:Int))=true:=by simp;omega
       clear g0
       go_wp2
       go_ret
       exact ⟨true,rfl,(fun h=>by cases h),HBZ.out⟩
   · obtain rfl:k=nn:=by omega
     have HNL:=Lh (show NotLongR ⟨v,e,l,⟨⟨t1,d1⟩,⟨t2,d2⟩,⟨t3,d3⟩⟩⟩ from ⟨H40.out,fun x hx=>by
      obtain ⟨j,hj,rfl⟩:=List.getElem_of_mem hx
      exact HAL.out j hj (by rw [HNN.out];exact hj),HSH.out.1,HSH.out.2.1,HSH.out.2.2⟩)
     go_wp2
     go_ret
     exact ⟨false,rfl,fun _=>HNL.out,HBZ.out⟩
theorem wK {r:RootV} (h:NotLongR r) (hv:-9223372036854775808≤r.ver∧r.ver≤9223372036854775807) (he:-9223372036854775808≤r.exp∧r.exp≤9223372036854775807) (ha:-9223372036854775808≤r.au.a.thr∧r.au.a.thr≤9223372036854775807) (hb:-9223372036854775808≤r.au.b.thr∧r.au.b.thr≤9223372036854775807) (hc:-9223372036854775808≤r.au.c.thr∧r.au.c.thr≤9223372036854775807):RootFits r :=
 ⟨hv,he,h.len,h.keys,⟨ha,Nat.le_trans h.a.1 (by decide),fun s hs=>Nat.le_trans (h.a.2 s hs) (by decide)⟩,⟨hb,Nat.le_trans h.b.1 (by decide),fun s hs=>Nat.le_trans (h.b.2 s hs) (by decide)⟩,⟨hc,Nat.le_trans h.c.1 (by decide),fun s hs=>Nat.le_trans (h.c.2 s hs) (by decide)⟩⟩
set_option maxHeartbeats 2000000 in
set_option maxRecDepth 100000 in
theorem uP (l:List ByteArray) (a:Option Addr) (c:Nat) (w:World) (hS:qv w 0 w.heap.size a l) (hl:l.length≤4294967296) :
 Calls Tryz.prog 18 #[.slice a l.length c] w (fA l w):=by
 obtain ⟨W,hW⟩:∃W,W=(w.alloc (.cells #[.int .u8 0,.int .i64 0,.string ⟨#[]⟩,.slice none 0 0,.slice none 0 0] 25)).alloc (.cells #[.int .u8 4,.int .i64 0,.string ⟨#[]⟩,.slice none 0 0,.slice none 0 0] 25):=⟨_,rfl⟩
 have hz1:(w.alloc (.cells #[.int .u8 0,.int .i64 0,.string ⟨#[]⟩,.slice none 0 0,.slice none 0 0] 25)).heap.size=w.heap.size+1:=by simp
 have hz2:W.heap.size=w.heap.size+2:=by rw [hW];simp
 have hb2:Below w.heap.size w W:=by rw [hW];exact ((Below.refl _ _).alloc lz _).alloc (by simp) _
 have hr0:W.rowIs w.heap.size 25 5 (qs (.int .u8 0) (.int .i64 0) (.string ⟨#[]⟩) (.slice none 0 0) (.slice none 0 0)):=by rw [hW];exact (qf w (.int .u8 0) (.int .i64 0) (.string ⟨#[]⟩) (.slice none 0 0) (.slice none 0 0) 25).alloc _
 have hr1:W.rowIs (w.heap.size+1) 25 5 (qs (.int .u8 4) (.int .i64 0) (.string ⟨#[]⟩) (.slice none 0 0) (.slice none 0 0)):=by
  have:=qf (w.alloc (.cells #[.int .u8 0,.int .i64 0,.string ⟨#[]⟩,.slice none 0 0,.slice none 0 0] 25)) (.int .u8 4) (.int .i64 0) (.string ⟨#[]⟩) (.slice none 0 0) (.slice none 0 0) 25
  rw [hz1,← hW] at this
  exact this
 have HS:=Lh hS
 have HW:=Lh hW
 have HB2:=Lh hb2
 have HR0:=Lh hr0
 have HR1:=Lh hr1
 have HZ2:=Lh hz2
 obtain ⟨nn,hnn⟩:∃nn,nn=l.length:=⟨_,rfl⟩
 have HNN:=Lh hnn
 rw [← hnn] at hl ⊢
 clear hS hW hb2 hr0 hr1 hz1 hz2 hnn
 obtain ⟨i0,hi0,hz0,hz1,hz2⟩:=info_parts xo
 go_enter Tryz.func18,Tryz.ntmps18
 go_upto_region 2 with fail
 rw [← HW.out]
 clear HW
 obtain ⟨cb,hcb⟩:∃cb,cb=w.heap.size+1:=⟨_,rfl⟩
 have HCB:=Lh hcb
 rw [← hcb] at HR1 ⊢
 have hltW:cb<W.heap.size:=by have:=HZ2.out;omega
 clear hcb
 go_wp2
 go_loopw [4] (fun i wr=>∃(k:Nat) (cs:List Value) (vi:Value),k≤nn∧i=.int .i64 k∧Touch (· = cb) W wr∧wr.rowIs cb 25 5 (qs (.int .u8 4) (.int .i64 0) (.string ⟨#[]⟩) (.slice none 0 0) vi)∧wr.ownsRow W.heap.size 25 5 vi k cs∧qP wr W.heap.size (fun b=>b=cb∨vi.ownBlock=some b) ((l.take k).map txtJ) cs) (fun i _=>nn - (intOf i).toNat)
 case atStart=>exact ⟨0,[],.slice none 0 0,by omega,rfl,Touch.refl _ _,HR1.out,World.ownsRow_nil _ _ _ _,by simpa using qP.nil _ _ _⟩
 case round =>
  obtain ⟨k,cs,vi,hk,rfl,htch,hrow,hown,hrr⟩:=hrel
  by_cases hlt2:k<nn
  · have hlt':k<l.length:=by rw [← HNN.out];exact hlt2
    have HB:Hid (Below w.heap.size w wr):=HB2.out.trans (htch.below (by have:=HZ2.out;omega) fun j hj e=>by have:=HCB.out;omega)
    obtain ⟨b,off,rfl,_,hb,y0⟩:=(HS.out.below HB.out lz lz lz).at k hlt'
    have HTK:=Lh (show (l.take (k+1)).map txtJ=(l.take k).map txtJ ++ [txtJ l[k]] by rw [List.take_succ_eq_append_getElem hlt',List.map_append];rfl)
    have c4:wr.cell? ⟨cb,4,none⟩=some vi:=hrow.cell (by omega)
    have f4:wr.frozen? ⟨cb,4,none⟩=false:=hrow.frozen 4
    have hcz:cb<wr.heap.size:=hrow.lt
    have hwz:W.heap.size≤wr.heap.size:=htch.size
    have hnb:some cb≠vi.ownBlock:=fun e=>by have:=(hown.lt _ e.symm).1;omega
    have HRW:=Lh hrow
    have HTC:=Lh htch
    have HO:=Lh hown
    have HRR:=Lh hrr
    clear hrow htch hown hrr
    generalize l[k]=it at *
    have HCI:=Lh (show Calls Tryz.prog 20 #[.string it] wr.drew (fun e w3=>e=.returned (.agg #[.int .u8 3,.int .i64 0,.string it,.slice none 0 0,.slice none 0 0])∧Rep w3 (wr.heap.size+1) w3.heap.size (txtJ it) (.agg #[.int .u8 3,.int .i64 0,.string it,.slice none 0 0,.slice none 0 0])∧Below (wr.heap.size+1) ((wr.alloc (.cells #[.int .u8 3,.int .i64 0,.string it,.slice none 0 0,.slice none 0 0] 25)).drew) w3∧wr.heap.size<w3.heap.size∧w3.cell? ⟨cb,4,none⟩=some vi∧w3.frozen? ⟨cb,4,none⟩=false∧w3.ownsRow W.heap.size 25 5 vi k cs) by
     refine (gX it wr.drew).mono ?_
     rintro e w3 ⟨rfl,rfl⟩
     have hb4:Below wr.heap.size wr (wr.drew.alloc (.cells #[.int .u8 3,.int .i64 0,.string it,.slice none 0 0,.slice none 0 0] 25)):=(Below.refl _ _).drew.alloc lz _
     exact ⟨rfl,jh _ _ _ _,Below.refl _ _,by simp,by rw [hb4.cell hcz];exact c4,by rw [hb4.frozen hcz];exact f4,qX HO.out hb4⟩)
    go_upto_region 5 with fail
    go_region_law (first|(refine step_append_lies _ (by rfl) (.tmp 13) (.tmp 19) 23 (by rfl) W.heap.size 25 i0 _ 5 80 Tryz.underlying23 hi0 hz0 hz1 hz2 rfl (by omega) vi k cs (by rfl) (HO3.out.alloc _) ⟨w3.heap.size,0,none⟩ 1 1 (Array.toList #[.int .u8 3,.int .i64 0,.string it,.slice none 0 0,.slice none 0 0]) (by rfl) (by rfl) (World.news_of_block (cs:=#[.int .u8 3,.int .i64 0,.string it,.slice none 0 0,.slice none 0 0]) (t:=25) (fr:=(0,0)) (heap_alloc_new w3 _)) (by simp [Value.oneCell']) (by omega) (by unfold maxLen;omega) (by omega) (by simp;omega) (w3.heap.size+1) (by simp) ?_;intro g cap w4 hown4 hgrow4 hat4 hlt4;have c44:=qN hgrow4 hcz3 hnb c43;have f44:=qA hgrow4 hcz3 hnb f43;have HO4:=Lh hown4;have HG4:=Lh hgrow4;have HA4:=Lh hat4;clear hown4 hgrow4 hat4)|(go_simp;go_at_call 20;(with_reducible refine HCI.out.mono ?_);rintro e w3 ⟨rfl,hr3,hb3,hz3,c43,f43,ho3⟩;have hcz3:cb<w3.heap.size:=Nat.lt_trans hcz hz3;have HO3:=Lh ho3;have HR3:=Lh hr3;have HB3:=Lh hb3;clear ho3 hr3 hb3))
    all_goals
     have HST:=Lh (row_step (j:=4) (it:=txtJ it) (an:=none) (cn:=0) (ai:=none) (ci:=0) hltW HTC.out HRW.out HO.out HRR.out HB3.out HR3.out HG4.out HA4.out HO4.out)
     clear HTC HRW HO HRR HB3 HR3 HG4 HA4 HO4 HO3 HCI
     go_wp2
     go_roundw
     case rel =>
      obtain ⟨z1,z2,z3,z4⟩:=HST.out
      refine ⟨k+1,_,_,by omega,by go_num,z1,z2.congr fun i hi=>?_,z3,by rw [HTK.out];exact z4⟩
      rcases i with _|_|_|_|_|i <;> first|rfl|omega
     case measure=>simp [intOf];omega
  · obtain rfl:k=nn:=by omega
    have hni':(l.take k).map txtJ=l.map txtJ:=by rw [List.take_of_length_le (by rw [← HNN.out];exact Nat.le_refl _)]
    rw [hni'] at hrr
    have hml:(l.map txtJ).length=k:=by rw [List.length_map,← HNN.out]
    obtain ⟨a5,c5,rfl,hc5,hv5⟩:=xt hown hrr hml.symm
    rw [hml] at hc5 hrow
    have HV5:=Lh hv5
    have HC5:=Lh hc5
    have HML:=Lh hml
    have hres:=(htch.row HR0.out (by have:=HCB.out;omega))
    obtain ⟨r0,r1,r2,r3,r4⟩:=rc5 hrow
    obtain ⟨t0,t1,t2,t3,t4⟩:=rc5 hres
    obtain ⟨s0,s1,s2,s3,s4⟩:=rf5 hres
    simp only [qs] at r0 r1 r2 r3 r4 t0 t1 t2 t3 t4
    have HT:=Lh htch
    have HRS:=Lh hres
    clear hrow hres hown hrr hv5 htch hni' hc5 hml
    go_wp2
    refine bodyPost_ret (results_cell_row Tryz.results18 _ _ w.heap.size 25 _ (0,0) _ rfl (qm (set5 _ _ _ _ _ HRS.out)) Tryz.underlying25 rfl (by kernel_rfl)) rfl ?_
    have hbw:Below w.heap.size w wr:=HB2.out.trans (HT.out.below (by have:=HZ2.out;omega) fun j hj e=>by have:=HCB.out;omega)
    refine ⟨a5,c5,by rw [← HNN.out],?_,qT _ _ _ _ _ hbw lz⟩
    rw [← HNN.out]
    have hrep:=Rep.mk (v:=qC l) (an:=none) (cn:=0) (ai:=a5) (ci:=c5) (w:=wr) (lo:=W.heap.size) (hi:=wr.heap.size) lz (by show (l.map txtJ).length≤c5;rw [HML.out];exact HC5.out) (.inl rfl) HV5.out
    have e5:(qC l).items.length=k:=HML.out
    rw [e5] at hrep
    exact Rep.carry (by have:=HZ2.out;omega) (show wr.heap.size≤_ by simp [World.setCell]) (fun j hj _=>jC _ _ _ _ _ (by have:=HZ2.out;omega)) _ _ hrep
structure Mid4 (W0 W w4:World) (cb T e1 e5 g cap:Nat) (vn vi:Value) (ns:List ByteArray) (its:List JV) (cs:List Value) (x:ByteArray):Prop where
 obj:ObjAt W0 (w4.setCell ⟨cb,3,none⟩ (.slice (some ⟨g,0,none⟩) (ns.length+1) cap)) cb T e1 e5 (.slice (some ⟨g,0,none⟩) (ns.length+1) cap) vi (ns ++ [x]) its cs
 row:w4.rowIs cb T 5 (qs (.int .u8 5) (.int .i64 0) (.string ⟨#[]⟩) vn vi)
 items:w4.ownsRow W0.heap.size e5 5 vi its.length cs
 size:W.heap.size≤w4.heap.size
 base:W0.heap.size≤W.heap.size
 ne:some cb≠vi.ownBlock
end Go.Proofs.YtnlgmcapbbgelaaGreatDoor
