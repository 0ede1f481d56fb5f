/- The contract of deleg.binsOf. Printed by gendelegof.py. -/
import Derived.Test.YthgembbgcbaghaaGreatDoorDa25
import Derived.Test.YthgembbgcbaghaaGreatDoorDa19
import Derived.Test.YthgembbgcbaghaaGreatDoorDa32
import Derived.Test.YthgembbgcbaghaaGreatDoorDa04

namespace Go.Proofs.YthgembbgcbaghaaGreatDoor
open Go.RowKit Go.Shelf Go.Sort
set_option maxHeartbeats 2000000 in
set_option maxRecDepth 100000 in
theorem yZ (t u:Int) (l m:List ByteArray) (a b:Option Addr) (c d:Nat) (w:World) (hA:qw w 0 w.heap.size a l) (hB:qw w 0 w.heap.size b m) (hl:l.length≤4294967296) (_hm:m.length≤4294967296) :
 Calls Tryz.prog 70 #[.agg #[.int .i64 t,.slice a l.length c],.agg #[.int .i64 u,.slice b m.length d]] w fun e w'=>e=.returned (.bool (decide ((⟨t,l⟩:AuthV)=⟨u,m⟩)))∧Below w.heap.size w w':=by
 obtain ⟨W,hW⟩:∃W,W=(w.alloc (.cells #[.int .i64 t,.slice a l.length c] 31)).alloc (.cells #[.int .i64 u,.slice b m.length d] 31):=⟨_,rfl⟩
 have hb:Below w.heap.size w W:=by rw [hW];exact ((Below.refl _ _).alloc lz _).alloc (by simp) _
 have hx:W.heap[w.heap.size]?=some (.cells #[.int .i64 t,.slice a l.length c] 31 (0,0)):=by rw [hW];exact zk w _ _
 have hy:W.heap[w.heap.size+1]?=some (.cells #[.int .i64 u,.slice b m.length d] 31 (0,0)):=by rw [hW];exact jl w _ _
 have HC:=Lh (show ∀w':World,Below W.heap.size W w'→w'.cell? ⟨w.heap.size,0,none⟩=some (.int .i64 t)∧w'.cell? ⟨w.heap.size,1,none⟩=some (.slice a l.length c)∧w'.cell? ⟨w.heap.size+1,0,none⟩=some (.int .i64 u)∧w'.cell? ⟨w.heap.size+1,1,none⟩=some (.slice b m.length d) from fun w' h=>by
  have h1:=(h.block _ (qx hx)).trans hx
  have h2:=(h.block _ (qx hy)).trans hy
  exact ⟨qq h1 rfl,qq h1 rfl,qq h2 rfl,qq h2 rfl⟩)
 have HB:=Lh hb
 have HW:=Lh hW
 have HA:=Lh (hA.below hb lz lz hb.size)
 have HBB:=Lh (hB.below hb lz lz hb.size)
 have HV:=Lh (show decide ((⟨t,l⟩:AuthV)=⟨u,m⟩)=(decide (t=u) && decide (l=m)) by
  by_cases h1:t=u <;> by_cases h2:l=m <;> simp [h1,h2])
 obtain ⟨q,hq⟩:∃q,q=decide ((⟨t,l⟩:AuthV)=⟨u,m⟩):=⟨_,rfl⟩
 rw [← hq] at HV ⊢
 clear hb hW hx hy hA hB hq
 obtain ⟨x0,x1,y0,y1⟩:=HC.out W (Below.refl _ _)
 by_cases h:t=u
 case neg =>
  have n1:(t != u)=true:=by simpa using h
  rw [decide_eq_false h,Bool.false_and] at HV
  clear h
  go_enter Tryz.func70,Tryz.ntmps70
  go_upto_region 1 with fail
  rw [← HW.out]
  go_wp2
  go_ret
  exact ⟨qz HV.out.symm,HB.out⟩
 have n1:(t != u)=false:=by simpa using h
 rw [decide_eq_true h,Bool.true_and] at HV
 clear h
 by_cases hlm:l.length=m.length
 case neg =>
  have n2:((l.length:Int) != (m.length:Int))=true:=by simp;omega
  have HD:=Lh (show q=false by rw [HV.out];exact decide_eq_false fun e=>hlm (by rw [e]))
  clear hlm
  go_enter Tryz.func70,Tryz.ntmps70
  go_upto_region 1 with fail
  rw [← HW.out]
  go_wp2
  go_ret
  exact ⟨qz HD.out.symm,HB.out⟩
 obtain ⟨n,hn⟩:∃n,n=l.length:=⟨_,rfl⟩
 have HNL:=Lh hn
 have HNM:=Lh (show n=m.length by rw [hn,hlm])
 rw [← hlm,← hn] at HC HW y1
 rw [← hn] at x1 ⊢
 rw [← hlm,← hn]
 have hnb:n≤4294967296:=by omega
 have n2:((n:Int) != (n:Int))=false:=by simp
 clear hlm hn hl
 go_enter Tryz.func70,Tryz.ntmps70
 go_upto_region 1 with fail
 rw [← HW.out]
 clear HW
 go_wp2_with fail
 clear x0 x1 y0 y1
 go_loopw [5] (fun i wr=>∃k:Nat,k≤n∧i=.int .i64 k∧l.take k=m.take k∧Below W.heap.size W wr) (fun i _=>n - (intOf i).toNat)
 case atStart=>exact ⟨0,by omega,rfl,rfl,Below.refl _ _⟩
 case round =>
  obtain ⟨k,hk,rfl,htk,hbk⟩:=hrel
  have HTK:=Lh htk
  have HBK:=Lh hbk
  obtain ⟨x0,x1,y0,y1⟩:=HC.out wr hbk
  clear htk hbk
  by_cases hlt:k<n
  · have hkl:k<l.length:=by rw [← HNL.out];exact hlt
    have hkm:k<m.length:=by rw [← HNM.out];exact hlt
    obtain ⟨p,f,ha,_,hp,e0⟩:=(HA.out.below HBK.out lz lz lz).at k hkl
    subst ha
    obtain ⟨q2,g,ha,_,hq2,f0⟩:=(HBB.out.below HBK.out lz lz lz).at k hkm
    subst ha
    have HTS:=Lh (show l[k]=m[k]→l.take (k+1)=m.take (k+1) from fun e=>by rw [List.take_succ_eq_append_getElem hkl,List.take_succ_eq_append_getElem hkm,HTK.out,e])
    have HNE:=Lh (show l[k]≠m[k]→decide (l=m)=false from fun e=>decide_eq_false fun e2=>e (by subst e2;rfl))
    obtain ⟨x,hx⟩:∃x:ByteArray,x=l[k]:=⟨_,rfl⟩
    obtain ⟨y,hy⟩:∃y:ByteArray,y=m[k]:=⟨_,rfl⟩
    replace e0:=e0.trans (congrArg (fun z:ByteArray=>some (Value.string z)) hx.symm)
    replace f0:=f0.trans (congrArg (fun z:ByteArray=>some (Value.string z)) hy.symm)
    rw [← hx,← hy] at HTS HNE
    clear hx hy
    have m1:(0:Int)≤(k:Int):=by omega
    have m2:(k:Int)<(n:Int):=by omega
    have m3:decide ((k:Int)<(n:Int))=true:=by simpa using hlt
    cases h1:(x.toList == y.toList)
    · have HR:=Lh (show q=false by rw [HV.out];exact HNE.out fun e=>by rw [e] at h1;simp at h1)
      go_wp2_with fail
      go_quiet (fail)
      go_wp2
      go_ret
      exact ⟨qz HR.out.symm,Below.drewN (HB.out.trans (HBK.out.mono HB.out.size)) _⟩
    · have HEQ:=Lh (HTS.out (by rw [ba_eq,decide_eq_true_eq] at h1;exact h1))
      go_wp2_with fail
      go_quiet (fail)
      go_wp2
      go_roundw
      case rel=>exact ⟨k+1,by omega,by go_num,HEQ.out,Below.drewN HBK.out _⟩
      case measure=>simp [intOf];omega
  · obtain rfl:k=n:=by omega
    have HR:=Lh (show q=true by
     rw [HV.out]
     have:=HTK.out
     rw [List.take_of_length_le (by rw [← HNL.out];exact Nat.le_refl _),List.take_of_length_le (by rw [← HNM.out];exact Nat.le_refl _)] at this
     exact decide_eq_true this)
    go_wp2
    go_ret
    exact ⟨qz HR.out.symm,HB.out.trans (HBK.out.mono HB.out.size)⟩
theorem xk {v:JV} {y:ByteArray} {most:Nat} {st:PS}:(qv v y most st).1.length≤most∧(∀s ∈ (qv v y most st).1,s.size≤v.wt)∧(qv v y most st).2.asked.length≤st.asked.length+1:=by
 unfold qv
 split
 · exact ⟨Nat.zero_le _,fun s hs=>(by cases hs),Nat.le_succ _⟩
 · split
   · exact ⟨Nat.zero_le _,fun s hs=>(by cases hs),Nat.le_succ _⟩
   · rename_i it hit
     split
     · exact ⟨Nat.zero_le _,fun s hs=>(by cases hs),Nat.le_succ _⟩
     · split
       · exact ⟨Nat.zero_le _,fun s hs=>(by cases hs),Nat.le_succ _⟩
       · split
         · rename_i h _
           refine ⟨by rw [List.length_map];omega,fun s hs=>?_,by simp⟩
           obtain ⟨x,hx,rfl⟩:=List.mem_map.1 hs
           obtain ⟨i,hi,rfl⟩:=List.getElem_of_mem hx
           have h1:=JV.wts_get it.items i hi
           have h2:=it.wt_bd
           have h3:=it.items[i].wt_bd
           obtain ⟨j,hj,rfl⟩:=List.getElem_of_mem (ky hit).2
           have h4:=JV.wts_get v.items j hj
           have h5:=v.wt_bd
           omega
         · exact ⟨Nat.zero_le _,fun s hs=>(by cases hs),Nat.le_succ _⟩
def vw (o m lo hi:Nat) (v:JV) (an ai:Option Addr) (cn ci:Nat) (r:AuthV × PS) (w:World) (e:Ending) (w':World):Prop :=
 (∃ia ic,e=.returned (.agg #[.int .i64 r.1.thr,.slice ia r.1.ids.length ic])∧r.1.ids.length≤ic∧qw w' w.heap.size w'.heap.size ia r.1.ids)∧vx o m lo hi v an ai cn ci r.2 w w'
set_option maxHeartbeats 2000000 in
set_option maxRecDepth 100000 in
theorem uL {o m lo hi:Nat} {v:JV} {an ai:Option Addr} {cn ci:Nat} {st:PS} {w:World} (h:zo o m lo hi v an ai cn ci st w) (hv:v.wt≤4294967296) (ha:st.asked.length≤4294967000) :
 Calls Tryz.prog 122 #[.pointer (some ⟨o,0,none⟩)] w (vw o m lo hi v an ai cn ci (jR v st) w):=by
 have hlt:=h.lt
 obtain ⟨W,hW⟩:∃W,W=w.alloc (.cells #[.int .i64 0,.slice none 0 0] 31):=⟨_,rfl⟩
 have hb:Below w.heap.size w W:=by rw [hW];exact (Below.refl _ _).alloc lz _
 have hr0:W.rowIs w.heap.size 31 2 (ju (.int .i64 0) (.slice none 0 0)):=by rw [hW];exact ko w _ _ _
 have HT:=Lh (mI qy 16 (h.below hb) (by decide) (by omega))
 have HFT:=Lh (@xk v qy 16 st)
 have HK:=Lh (show jR v st=(if (qP v thrN 1 ((qv v qy 16 st).1.length:Int) (jL v st)).2.err≠0 then authZ else ⟨(qP v thrN 1 ((qv v qy 16 st).1.length:Int) (jL v st)).1,(qv v qy 16 st).1⟩,(qP v thrN 1 ((qv v qy 16 st).1.length:Int) (jL v st)).2) from rfl)
 have HS:=Lh (show jL v st=(if (qv v qy 16 st).1=[] then (qv v qy 16 st).2.fail 4 else (qv v qy 16 st).2).fail (zS [] (qv v qy 16 st).1) from rfl)
 obtain ⟨K,hK⟩:∃K,K=jR v st:=⟨_,rfl⟩
 rw [← hK] at HK ⊢
 obtain ⟨R,hR⟩:∃R,R=qv v qy 16 st:=⟨_,rfl⟩
 rw [← hR] at HT HFT HK HS
 obtain ⟨S3,hS3⟩:∃S3,S3=jL v st:=⟨_,rfl⟩
 rw [← hS3] at HK HS
 have HB:=Lh hb
 have HR0:=Lh hr0
 have HW:=Lh hW
 have HZ:=Lh (show o<w.heap.size∧m<w.heap.size∧hi≤w.heap.size∧w.heap.size<W.heap.size from ⟨hlt.1,hlt.2.1,hlt.2.2,hr0.lt⟩)
 have HA:=Lh ha
 have HV:=Lh hv
 clear h hlt hb hr0 hW hK hR hS3 ha hv
 obtain ⟨L,S1⟩:=R
 dsimp only at HT HFT HK HS
 go_enter Tryz.func122,Tryz.ntmps122
 go_upto_region 1 with fail
 rw [← HW.out]
 clear HW
 go_wp2_with fail
 refine HT.out.mono ?_
 clear HT
 rintro r w1 ⟨⟨a1,c1,rfl,hcap,hs1⟩,hp1,ht1⟩
 have HCAP:=Lh (show L.length≤c1 from hcap)
 clear hcap
 have HS1:=Lh (show qw w1 W.heap.size w1.heap.size a1 L from hs1)
 have HP1:=Lh hp1
 have HT1:=Lh ht1
 have HR1:=Lh (ht1.row HR0.out (by have:=HZ.out;omega))
 have HZ1:=Lh ht1.size
 clear hs1 hp1 ht1
 by_cases hL:L=[]
 · have hl0:((L.length:Int) == 0)=true:=by rw [hL];rfl
   rw [if_pos hL] at HS
   clear hL
   go_wp2_with fail
   refine (pP 4 HP1.out).mono ?_
   rintro r w2 ⟨rfl,hp2,ht2⟩
   have HP2:=Lh hp2
   have HT2:=Lh (HT1.out.trans (ht2.mono fun _ _ h=>h))
   have HR2:=Lh (ht2.row HR1.out (by have:=HZ.out;omega))
   have HS2:=Lh (show qw w2 W.heap.size w2.heap.size a1 L from HS1.out.carry lz ht2.size (fun b h1 h2=>ht2.block b h2 (by have:=HZ.out;omega)))
   have HZ2:=Lh (Nat.le_trans HZ1.out ht2.size)
   clear hp2 ht2 HP1 HT1 HR1 HS1 HZ1
   generalize hq2:S1.fail 4=S2 at HP2 HS
   have HA2:=Lh (show S2.asked.length≤st.asked.length+1 by rw [← hq2,kw];exact HFT.out.2.2)
   clear hq2
   have HWR:=Lh (yo L a1 c1 w2 (HS2.out.carry (Nat.zero_le _) lz (fun _ _ _=>rfl)) (by have:=HFT.out.1;omega) (fun s hs=>Nat.le_trans (HFT.out.2.1 s hs) HV.out))
   obtain ⟨ie,hie⟩:∃ie,ie=zS [] L:=⟨_,rfl⟩
   rw [← hie] at HWR HS
   clear hie
   go_wp2_with fail
   refine HWR.out.mono ?_
   clear HWR
   rintro r w3 ⟨rfl,hb3⟩
   have HP3:=Lh (HP2.out.below hb3)
   have HR3:=Lh (qj hb3 HR2.out HR2.out.lt)
   have HT3:=Lh (HT2.out.trans (Touch.of_below hb3 lz))
   have HS3:=Lh (show qw w3 W.heap.size w3.heap.size a1 L from HS2.out.below hb3 lz lz hb3.size)
   have HZ3:=Lh (Nat.le_trans HZ2.out hb3.size)
   clear hb3 HP2 HR2 HT2 HS2 HZ2
   go_wp2_with fail
   refine (pP ie HP3.out).mono ?_
   rintro r w4 ⟨rfl,hp4,ht4⟩
   rw [← HS.out] at hp4
   have HA4:=Lh (show S3.asked.length≤st.asked.length+1 by rw [HS.out,kw];exact HA2.out)
   have HP4:=Lh hp4
   have HR4:=Lh (ht4.row HR3.out (by have:=HZ.out;omega))
   have HT4:=Lh (HT3.out.trans (ht4.mono fun _ _ h=>h))
   have HS4:=Lh (show qw w4 W.heap.size w4.heap.size a1 L from HS3.out.carry lz ht4.size (fun b h1 h2=>ht4.block b h2 (by have:=HZ.out;omega)))
   have HZ4:=Lh (Nat.le_trans HZ3.out ht4.size)
   clear hp4 ht4 HP3 HR3 HT3 HS3 HZ3 HS
   have HNU:=Lh (aH thrN 1 (L.length:Int) HP4.out (by decide) (by have:=HA4.out;have:=HA.out;omega))
   obtain ⟨N,hN⟩:∃N,N=qP v thrN 1 (L.length:Int) S3:=⟨_,rfl⟩
   rw [← hN] at HNU HK
   clear hN
   obtain ⟨nn,S4⟩:=N
   dsimp only at HNU HK
   go_wp2_with fail
   refine HNU.out.mono ?_
   clear HNU
   rintro r w5 ⟨rfl,hp5,ht5⟩
   have HP5:=Lh hp5
   have hr5:=ht5.row HR4.out (by have:=HZ.out;omega)
   have HR5:=Lh hr5
   have HT5:=Lh (HT4.out.trans (ht5.mono fun _ _ h=>h))
   have HS5:=Lh (show qw w5 W.heap.size w5.heap.size a1 L from HS4.out.carry lz ht5.size (fun b h1 h2=>ht5.block b h2 (by have:=HZ.out;omega)))
   have HZ5:=Lh (Nat.le_trans HZ4.out ht5.size)
   clear hp5 ht5 HP4 HR4 HT4 HS4 HZ4
   go_wp2_with fail
   refine (tl HP5.out).mono ?_
   rintro r w6 ⟨rfl,h6⟩
   subst h6
   have t0:=hr5.cell (i:=0) (by decide);have t1:=hr5.cell (i:=1) (by decide)
   have s0:=hr5.frozen 0;have s1:=hr5.frozen 1
   simp only [ju] at t0 t1
   clear hr5
   have HTW:=Lh (show Touch (fun b=>b=o∨b=m) w w5 from (Touch.of_below HB.out lz).trans HT5.out)
   by_cases he:S4.err=0
   · have e1:(S4.err != 0)=false:=by simpa using he
     rw [if_neg (by simp [he])] at HK
     clear he
     go_wp2
     refine bodyPost_ret (results_cell_row Tryz.results122 _ _ w.heap.size 31 _ (0,0) _ rfl (zQ (set2 _ _ HR5.out)) Tryz.underlying31 rfl (by kernel_rfl)) rfl ?_
     unfold vw
     rw [HK.out]
     have hput:Touch (fun b=>b=w.heap.size) w5 ((w5.setCell ⟨w.heap.size,0,none⟩ (.int .i64 nn)).setCell ⟨w.heap.size,1,none⟩ (.slice a1 L.length c1)):=(qW _).trans (qW _)
     refine ⟨⟨a1,c1,rfl,HCAP.out,?_⟩,HP5.out.touch hput (by have:=HZ.out;omega) (by have:=HZ.out;omega) HZ.out.2.2.1,?_⟩
     · refine HS5.out.carry (by have:=HZ.out;omega) hput.size (fun b h1 h2=>hput.block b h2 (by have:=HZ.out;omega))
     · exact ((HTW.out.setCell (p:=⟨w.heap.size,0,none⟩) (.inr lz) _).setCell (p:=⟨w.heap.size,1,none⟩) (.inr lz) _)
   · have e1:(S4.err != 0)=true:=by simpa using he
     rw [if_pos he] at HK
     clear he
     go_wp2
     refine bodyPost_ret (results_cell_row Tryz.results122 _ _ w.heap.size 31 _ (0,0) _ rfl (zQ (set2 _ _ HR5.out)) Tryz.underlying31 rfl (by kernel_rfl)) rfl ?_
     unfold vw
     rw [HK.out]
     have hput:Touch (fun b=>b=w.heap.size) w5 ((w5.setCell ⟨w.heap.size,0,none⟩ (.int .i64 0)).setCell ⟨w.heap.size,1,none⟩ (.slice none 0 0)):=(qW _).trans (qW _)
     refine ⟨⟨none,0,rfl,Nat.le_refl _,.inl rfl⟩,HP5.out.touch hput (by have:=HZ.out;omega) (by have:=HZ.out;omega) HZ.out.2.2.1,?_⟩
     exact ((HTW.out.setCell (p:=⟨w.heap.size,0,none⟩) (.inr lz) _).setCell (p:=⟨w.heap.size,1,none⟩) (.inr lz) _)
 · have hl0:((L.length:Int) == 0)=false:=by
    cases L with
    | nil=>exact absurd rfl hL
    | cons x r=>simp;omega
   rw [if_neg hL] at HS
   clear hL
   have HA2:=Lh (show S1.asked.length≤st.asked.length+1 from HFT.out.2.2)
   have HP2:=Lh HP1.out
   have HT2:=Lh HT1.out
   have HR2:=Lh HR1.out
   have HS2:=Lh HS1.out
   have HZ2:=Lh HZ1.out
   clear HP1 HT1 HR1 HS1 HZ1
   obtain ⟨w2,hw2⟩:∃w2,w2=w1:=⟨_,rfl⟩
   obtain ⟨S2,hq2⟩:∃S2,S2=S1:=⟨_,rfl⟩
   rw [← hw2] at HP2 HT2 HR2 HS2 HZ2 ⊢
   rw [← hq2] at HP2 HA2 HS
   clear hw2 hq2
   have HWR:=Lh (yo L a1 c1 w2 (HS2.out.carry (Nat.zero_le _) lz (fun _ _ _=>rfl)) (by have:=HFT.out.1;omega) (fun s hs=>Nat.le_trans (HFT.out.2.1 s hs) HV.out))
   obtain ⟨ie,hie⟩:∃ie,ie=zS [] L:=⟨_,rfl⟩
   rw [← hie] at HWR HS
   clear hie
   go_wp2_with fail
   refine HWR.out.mono ?_
   clear HWR
   rintro r w3 ⟨rfl,hb3⟩
   have HP3:=Lh (HP2.out.below hb3)
   have HR3:=Lh (qj hb3 HR2.out HR2.out.lt)
   have HT3:=Lh (HT2.out.trans (Touch.of_below hb3 lz))
   have HS3:=Lh (show qw w3 W.heap.size w3.heap.size a1 L from HS2.out.below hb3 lz lz hb3.size)
   have HZ3:=Lh (Nat.le_trans HZ2.out hb3.size)
   clear hb3 HP2 HR2 HT2 HS2 HZ2
   go_wp2_with fail
   refine (pP ie HP3.out).mono ?_
   rintro r w4 ⟨rfl,hp4,ht4⟩
   rw [← HS.out] at hp4
   have HA4:=Lh (show S3.asked.length≤st.asked.length+1 by rw [HS.out,kw];exact HA2.out)
   have HP4:=Lh hp4
   have HR4:=Lh (ht4.row HR3.out (by have:=HZ.out;omega))
   have HT4:=Lh (HT3.out.trans (ht4.mono fun _ _ h=>h))
   have HS4:=Lh (show qw w4 W.heap.size w4.heap.size a1 L from HS3.out.carry lz ht4.size (fun b h1 h2=>ht4.block b h2 (by have:=HZ.out;omega)))
   have HZ4:=Lh (Nat.le_trans HZ3.out ht4.size)
   clear hp4 ht4 HP3 HR3 HT3 HS3 HZ3 HS
   have HNU:=Lh (aH thrN 1 (L.length:Int) HP4.out (by decide) (by have:=HA4.out;have:=HA.out;omega))
   obtain ⟨N,hN⟩:∃N,N=qP v thrN 1 (L.length:Int) S3:=⟨_,rfl⟩
   rw [← hN] at HNU HK
   clear hN
   obtain ⟨nn,S4⟩:=N
   dsimp only at HNU HK
   go_wp2_with fail
   refine HNU.out.mono ?_
   clear HNU
   rintro r w5 ⟨rfl,hp5,ht5⟩
   have HP5:=Lh hp5
   have hr5:=ht5.row HR4.out (by have:=HZ.out;omega)
   have HR5:=Lh hr5
   have HT5:=Lh (HT4.out.trans (ht5.mono fun _ _ h=>h))
   have HS5:=Lh (show qw w5 W.heap.size w5.heap.size a1 L from HS4.out.carry lz ht5.size (fun b h1 h2=>ht5.block b h2 (by have:=HZ.out;omega)))
   have HZ5:=Lh (Nat.le_trans HZ4.out ht5.size)
   clear hp5 ht5 HP4 HR4 HT4 HS4 HZ4
   go_wp2_with fail
   refine (tl HP5.out).mono ?_
   rintro r w6 ⟨rfl,h6⟩
   subst h6
   have t0:=hr5.cell (i:=0) (by decide);have t1:=hr5.cell (i:=1) (by decide)
   have s0:=hr5.frozen 0;have s1:=hr5.frozen 1
   simp only [ju] at t0 t1
   clear hr5
   have HTW:=Lh (show Touch (fun b=>b=o∨b=m) w w5 from (Touch.of_below HB.out lz).trans HT5.out)
   by_cases he:S4.err=0
   · have e1:(S4.err != 0)=false:=by simpa using he
     rw [if_neg (by simp [he])] at HK
     clear he
     go_wp2
     refine bodyPost_ret (results_cell_row Tryz.results122 _ _ w.heap.size 31 _ (0,0) _ rfl (zQ (set2 _ _ HR5.out)) Tryz.underlying31 rfl (by kernel_rfl)) rfl ?_
     unfold vw
     rw [HK.out]
     have hput:Touch (fun b=>b=w.heap.size) w5 ((w5.setCell ⟨w.heap.size,0,none⟩ (.int .i64 nn)).setCell ⟨w.heap.size,1,none⟩ (.slice a1 L.length c1)):=(qW _).trans (qW _)
     refine ⟨⟨a1,c1,rfl,HCAP.out,?_⟩,HP5.out.touch hput (by have:=HZ.out;omega) (by have:=HZ.out;omega) HZ.out.2.2.1,?_⟩
     · refine HS5.out.carry (by have:=HZ.out;omega) hput.size (fun b h1 h2=>hput.block b h2 (by have:=HZ.out;omega))
     · exact ((HTW.out.setCell (p:=⟨w.heap.size,0,none⟩) (.inr lz) _).setCell (p:=⟨w.heap.size,1,none⟩) (.inr lz) _)
   · have e1:(S4.err != 0)=true:=by simpa using he
     rw [if_pos he] at HK
     clear he
     go_wp2
     refine bodyPost_ret (results_cell_row Tryz.results122 _ _ w.heap.size 31 _ (0,0) _ rfl (zQ (set2 _ _ HR5.out)) Tryz.underlying31 rfl (by kernel_rfl)) rfl ?_
     unfold vw
     rw [HK.out]
     have hput:Touch (fun b=>b=w.heap.size) w5 ((w5.setCell ⟨w.heap.size,0,none⟩ (.int .i64 0)).setCell ⟨w.heap.size,1,none⟩ (.slice none 0 0)):=(qW _).trans (qW _)
     refine ⟨⟨none,0,rfl,Nat.le_refl _,.inl rfl⟩,HP5.out.touch hput (by have:=HZ.out;omega) (by have:=HZ.out;omega) HZ.out.2.2.1,?_⟩
     exact ((HTW.out.setCell (p:=⟨w.heap.size,0,none⟩) (.inr lz) _).setCell (p:=⟨w.heap.size,1,none⟩) (.inr lz) _)
end Go.Proofs.YthgembbgcbaghaaGreatDoor

namespace Go.Proofs.YthgembbgcbaghaaGreatDoor
open Go.RowKit
theorem pD {v:JV} {y:ByteArray} {st:PS}:(qf v y st).1.size≤v.wt:=by
 unfold qf
 split
 · exact Nat.zero_le _
 · split
   · exact Nat.zero_le _
   · rename_i it hit
     split
     · have h2:=it.wt_bd
       obtain ⟨j,hj,rfl⟩:=List.getElem_of_mem (ky hit).2
       have h4:=JV.wts_get v.items j hj
       have h5:=v.wt_bd
       show v.items[j].t.size≤v.wt
       omega
     · exact Nat.zero_le _
theorem uR {v:JV} {y:ByteArray} {l h:Int} {st:PS} (h0:l≤h) (hl:0≤l):0≤(qP v y l h st).1∧(qP v y l h st).1≤h:=by
 unfold qP
 split
 · exact ⟨Int.le_refl _,by show (0:Int)≤h;omega⟩
 · split
   · exact ⟨Int.le_refl _,by show (0:Int)≤h;omega⟩
   · split
     · exact ⟨Int.le_refl _,by show (0:Int)≤h;omega⟩
     · split
       · exact ⟨Int.le_refl _,by show (0:Int)≤h;omega⟩
       · rename_i it _ _ h1
         show 0≤it.n∧it.n≤h
         omega
theorem aO {v:JV} {y:ByteArray} {most:Nat} {st:PS}:(qr v y most st).2.asked.length≤st.asked.length+1:=by
 unfold qr
 split
 · exact Nat.le_succ _
 · split
   · exact Nat.le_succ _
   · split
     · exact Nat.le_succ _
     · split
       · exact Nat.le_succ _
       · simp
theorem nK {v:JV} {y:ByteArray} {st:PS}:(qH v y st).2.asked.length≤st.asked.length+1:=by
 unfold qH
 split
 · exact Nat.le_succ _
 · split
   · exact Nat.le_succ _
   · split
     · exact Nat.le_succ _
     · simp
theorem uN {v:JV} {st:PS}:(jR v st).2.asked.length≤st.asked.length+2:=by
 have h1:=(@xk v qy 16 st).2.2
 have h2:(jL v st).asked.length≤st.asked.length+1:=by
  unfold jL
  rw [kw]
  split
  · rw [kw];exact h1
  · exact h1
 have h3:=@ux v thrN 1 ((qv v qy 16 st).1.length:Int) (jL v st)
 show (kN v st).2.asked.length≤_
 unfold kN
 omega
theorem pL {v:JV} {st:PS} (hv:v.wt≤4294967296):xX (jR v st).1:=by
 unfold jR
 split
 · show xX authZ
   exact ⟨⟨by decide,by decide⟩,by decide,fun s hs=>(by cases hs)⟩
 · have h1:=@xk v qy 16 st
   have h2:(kN v st).1≤16∧0≤(kN v st).1:=by
    unfold kN
    by_cases h:(qv v qy 16 st).1=[]
    · have:(jL v st).err≠0:=by
       unfold jL
       rw [if_pos h,h]
       generalize (qv v qy 16 st).2=q
       unfold PS.fail
       by_cases hq:q.err=0
       · simp [hq]
       · simp [hq]
      unfold qP
      rw [if_pos this]
      show (0:Int)≤16∧(0:Int)≤0
      exact ⟨by decide,by decide⟩
    · have hl:0<(qv v qy 16 st).1.length:=List.length_pos_iff.2 h
      have:=@uR v thrN 1 ((qv v qy 16 st).1.length:Int) (jL v st) (by omega) (by omega)
      omega
   exact ⟨⟨by show -9223372036854775808≤(kN v st).1;omega,by show (kN v st).1≤9223372036854775807;omega⟩,by show (qv v qy 16 st).1.length≤_;omega,fun s hs=>Nat.le_trans (h1.2.1 s hs) hv⟩
def rgN (u:JV) (st:PS):ByteArray × PS:=qf u zp st
def rgA (u:JV) (st:PS):AuthV × PS:=jR u (rgN u st).2
def rgT (u:JV) (st:PS):Bool × PS:=qH u trmN (rgA u st).2
def rgP (u:JV) (st:PS):(List ByteArray × List ByteArray) × PS:=if qN u zK (rgT u st).2 then (([],(qv u zK 32 (rgT u st).2).1),(qv u zK 32 (rgT u st).2).2) else (((qv u xd 32 (rgT u st).2).1,[]),(qv u xd 32 (rgT u st).2).2)
def rgX (u:JV) (st:PS):DelegV:=⟨(rgN u st).1,(rgA u st).1,(rgT u st).1,(rgP u st).1.1,(rgP u st).1.2⟩
def dz (u:JV) (st:PS):DelegV × Int:=if qh u (rgP u st).2≠0 then (j4,qh u (rgP u st).2) else if qX (rgX u st) then (rgX u st,0) else (j4,3)
theorem lm {v:JV} (h:v.kind=5):dz v ⟨[],0⟩=zn v:=by
 unfold zn
 rw [if_neg (by simp [h])]
 rfl
theorem ld:dz zx ⟨[],10⟩=(j4,10):=by decide +kernel
theorem aE {u:JV} {st:PS} (h:st.asked.length≤1000):(rgN u st).2.asked.length≤1001∧(rgA u st).2.asked.length≤1003∧(rgT u st).2.asked.length≤1004:=by
 have h1:=@rt u zp st
 have h2:=@uN u (rgN u st).2
 have h3:=@nK u trmN (rgA u st).2
 have e1:(rgN u st).2.asked.length≤1001:=by unfold rgN;omega
 have e2:(rgA u st).2.asked.length≤1003:=by unfold rgA;omega
 exact ⟨e1,e2,by unfold rgT;omega⟩
def bgA (u:JV) (st:PS):AuthV × PS:=jR u st
def bgB (u:JV) (st:PS):Int × PS:=qP u jy 1 32 (bgA u st).2
def bgP (u:JV) (st:PS):ByteArray × PS:=qf u jH (bgB u st).2
def dx (u:JV) (st:PS):BinsV × Int:=if qh u (bgP u st).2≠0 then (xA,qh u (bgP u st).2) else if qI ⟨(bgB u st).1,(bgP u st).1,(bgA u st).1⟩ then (⟨(bgB u st).1,(bgP u st).1,(bgA u st).1⟩,0) else (xA,3)
theorem ll {v:JV} (h:v.kind=5):dx v ⟨[],0⟩=zE v:=by
 unfold zE
 rw [if_neg (by simp [h])]
 rfl
theorem lQ:dx zx ⟨[],10⟩=(xA,10):=by decide +kernel
theorem tq {u:JV} {st:PS} (h:st.asked.length≤1000):(bgA u st).2.asked.length≤1002∧(bgB u st).2.asked.length≤1003:=by
 have h1:=@uN u st
 have h2:=@ux u jy 1 32 (bgA u st).2
 have e1:(bgA u st).2.asked.length≤1002:=by unfold bgA;omega
 exact ⟨e1,by unfold bgB;omega⟩
end Go.Proofs.YthgembbgcbaghaaGreatDoor

namespace Go.Proofs.YthgembbgcbaghaaGreatDoor
open Go.RowKit Go.Shelf Go.Sort
def kH (r:DelegV × Int) (w:World) (e:Ending) (w':World):Prop :=
 ∃ia ic pa pc qa qc,e=.returned (.tuple #[.agg #[.string r.1.name,.int .i64 r.1.au.thr,.slice ia r.1.au.ids.length ic,.bool r.1.term,.slice pa r.1.paths.length pc,.slice qa r.1.pres.length qc],.int .i64 r.2])∧(r.1.au.ids.length≤ic∧r.1.paths.length≤pc∧r.1.pres.length≤qc)∧DelegIn w' w.heap.size w'.heap.size r.1 ia pa qa∧Below w.heap.size w w'
theorem jI {er:Int} {w w':World} (hb:Below w.heap.size w w'):kH (j4,er) w (.returned (.tuple #[.agg #[.string ⟨#[]⟩,.int .i64 0,.slice none 0 0,.bool false,.slice none 0 0,.slice none 0 0],.int .i64 er])) w' :=
 ⟨none,0,none,0,none,0,rfl,⟨Nat.le_refl _,Nat.le_refl _,Nat.le_refl _⟩,⟨.inl rfl,.inl rfl,.inl rfl⟩,hb⟩
set_option maxHeartbeats 4000000 in
set_option maxRecDepth 100000 in
theorem fe (C:JV→Prop) (st:PS) (v:JV) (x:Value) (w:World) (hR:Rep w 0 w.heap.size v x) (ha:st.asked.length≤1000)
 (hOf:∀w1,Below w.heap.size w w1→Calls Tryz.prog 60 #[x] w1 (wD C st w1)) :
 Calls Tryz.prog 125 #[x] w (fun e w'=>∃u,C u∧kH (dz u st) w e w'):=by
 obtain ⟨an,cn,ai,ci,hx,h1,h2,h3,h4⟩:=hR.parts
 clear h1 h2 h3 h4
 subst hx
 obtain ⟨W,hW⟩:∃W,W=(w.alloc (.cells #[.int .u8 v.kind,.int .i64 v.n,.string v.t,.slice an v.names.length cn,.slice ai v.items.length ci] 25)).alloc (.cells #[.string ⟨#[]⟩,.int .i64 0,.slice none 0 0,.bool false,.slice none 0 0,.slice none 0 0] 41):=⟨_,rfl⟩
 have hz1:(w.alloc (.cells #[.int .u8 v.kind,.int .i64 v.n,.string v.t,.slice an v.names.length cn,.slice ai v.items.length ci] 25)).heap.size=w.heap.size+1:=by simp
 have hb:Below w.heap.size w W:=by rw [hW];exact ((Below.refl _ _).alloc lz _).alloc (by simp) _
 have hx0:W.heap[w.heap.size]?=some (.cells #[.int .u8 v.kind,.int .i64 v.n,.string v.t,.slice an v.names.length cn,.slice ai v.items.length ci] 25 (0,0)):=by rw [hW];exact zk w _ _
 have hr0:W.rowIs (w.heap.size+1) 41 6 (qo (.string ⟨#[]⟩) (.int .i64 0) (.slice none 0 0) (.bool false) (.slice none 0 0) (.slice none 0 0)):=by
  have:=z8 (w.alloc (.cells #[.int .u8 v.kind,.int .i64 v.n,.string v.t,.slice an v.names.length cn,.slice ai v.items.length ci] 25)) (.string ⟨#[]⟩) (.int .i64 0) (.slice none 0 0) (.bool false) (.slice none 0 0) (.slice none 0 0) 41
  rw [hz1,← hW] at this
  exact this
 have HOF:=Lh (hOf W hb)
 have HB:=Lh hb
 have HX0:=Lh hx0
 have HR0:=Lh hr0
 have HW:=Lh hW
 have HA:=Lh ha
 have HZ1:=Lh (show w.heap.size+2≤W.heap.size from hr0.lt)
 clear hOf hW hz1 hb hx0 hr0 hR ha
 obtain ⟨c0,c1,c2,c3,c4⟩:=bx5 HX0.out
 go_enter Tryz.func125,Tryz.ntmps125
 go_upto_region 1 with fail
 rw [← HW.out]
 clear HW
 go_wp2_with fail
 refine HOF.out.mono ?_
 clear HOF c0 c1 c2 c3 c4
 rintro e w2 ⟨u,o,m,lo,hi,an2,ai2,cn2,ci2,hC,hu,rfl,hp2,ho2,hm2,hb2⟩
 have HC:=Lh hC
 have HU:=Lh hu
 have hlt:=hp2.lt
 obtain ⟨p,hpp⟩:∃p,p=w2.heap.size:=⟨_,rfl⟩
 obtain ⟨W3,hW3⟩:∃W3,W3=w2.alloc (.cells #[.string ⟨#[]⟩,.int .i64 0,.slice none 0 0,.bool false,.slice none 0 0,.slice none 0 0] 41):=⟨_,rfl⟩
 have hb3:Below w2.heap.size w2 W3:=by rw [hW3];exact (Below.refl _ _).alloc lz _
 have hq3:W3.rowIs p 41 6 (qo (.string ⟨#[]⟩) (.int .i64 0) (.slice none 0 0) (.bool false) (.slice none 0 0) (.slice none 0 0)):=by rw [hW3,hpp];exact z8 _ _ _ _ _ _ _ _
 have HN:=Lh (show p≠o∧p≠m∧hi≤p∧w.heap.size+2≤o∧w.heap.size+2≤m∧w.heap.size+2≤p∧p<W3.heap.size∧o<W3.heap.size∧m<W3.heap.size from by
  have h1:=hb2.size;have h2:=hq3.lt;have h3:=HZ1.out;have h4:=hb3.size;omega)
 have HP:=Lh (hp2.below hb3)
 have HR:=Lh (qj (hb2.trans (hb3.mono hb2.size)) HR0.out HR0.out.lt)
 replace HB:=Lh (HB.out.trans ((hb2.trans (hb3.mono hb2.size)).mono HB.out.size))
 have HQ:=Lh hq3
 have HZ:=Lh (Nat.le_refl W3.heap.size)
 have HW3:=Lh hW3
 have HPE:=Lh hpp
 clear hC hu hlt hp2 ho2 hm2 hb2 hb3 hq3 hW3 hpp HR0 HX0 HZ1
 have HLN:=Lh (@aE u st HA.out)
 have HFN:=Lh (Nat.le_trans (@pD u zp st) HU.out)
 have HTX:=Lh (ag zp HP.out (by decide) (by have:=HA.out;omega))
 rw [show qf u zp st=rgN u st from rfl] at HTX HFN
 have HA1:=Lh (show rgA u st=jR u (rgN u st).2 from rfl)
 have HG:=Lh (show dz u st=if qh u (rgP u st).2≠0 then (j4,qh u (rgP u st).2) else if qX (rgX u st) then (rgX u st,0) else (j4,3) from rfl)
 have HX1:=Lh (show rgX u st=⟨(rgN u st).1,(rgA u st).1,(rgT u st).1,(rgP u st).1.1,(rgP u st).1.2⟩ from rfl)
 have HT1:=Lh (show rgT u st=qH u trmN (rgA u st).2 from rfl)
 have HP1:=Lh (show rgP u st=if qN u zK (rgT u st).2 then (([],(qv u zK 32 (rgT u st).2).1),(qv u zK 32 (rgT u st).2).2) else (((qv u xd 32 (rgT u st).2).1,[]),(qv u xd 32 (rgT u st).2).2) from rfl)
 obtain ⟨GX,hGX⟩:∃GX,GX=rgX u st:=⟨_,rfl⟩
 rw [← hGX] at HG HX1
 clear hGX
 have HL1:=Lh HLN.out.1
 obtain ⟨GN,hGN⟩:∃GN,GN=rgN u st:=⟨_,rfl⟩
 rw [← hGN] at HTX HA1 HX1 HL1 HFN
 clear hGN
 obtain ⟨nm,SN⟩:=GN
 dsimp only at HTX HA1 HX1 HL1 HFN
 go_upto_region 3 with fail
 rw [← HW3.out,← HPE.out]
 clear HPE HW3
 go_wp2_with fail
 refine HTX.out.mono ?_
 clear HTX
 rintro e w4 ⟨rfl,hp',ht'⟩
 replace HP:=Lh hp'
 replace HR:=Lh (ht'.row HR.out (by have:=HN.out;omega))
 replace HQ:=Lh (ht'.row HQ.out (by have:=HN.out;omega))
 replace HB:=Lh (HB.out.trans (ht'.below (by have:=HB.out.size;omega) fun k hk e=>by have:=HN.out;omega))
 replace HZ:=Lh (Nat.le_trans HZ.out ht'.size)
 clear hp' ht'
 have e0:=HQ.out.cell (i:=0) (by decide)
 have f0:=HQ.out.frozen 0
 simp only [qo] at e0
 obtain ⟨W5,hW5⟩:∃W5,W5=w4.setCell ⟨p,0,none⟩ (.string nm):=⟨_,rfl⟩
 have hput:Touch (fun b=>b=p) w4 W5:=by rw [hW5];exact (Touch.refl _ _).trans (qW _)
 replace HQ:=Lh (show W5.rowIs p 41 6 (qo (.string nm) (.int .i64 0) (.slice none 0 0) (.bool false) (.slice none 0 0) (.slice none 0 0)) from by
  rw [hW5]
  refine (HQ.out.set 0 _).congr fun j hj=>?_
  rcases j with _|_|_|_|_|_|j <;> first|rfl|omega)
 replace HP:=Lh (HP.out.touch hput HN.out.1 HN.out.2.1 HN.out.2.2.1)
 replace HR:=Lh (hput.row HR.out (by have:=HN.out;omega))
 replace HB:=Lh (HB.out.trans (hput.below (by have:=HB.out.size;omega) fun k hk e=>by have:=HN.out;omega))
 replace HZ:=Lh (Nat.le_trans HZ.out hput.size)
 have HW5:=Lh hW5
 clear hput hW5
 go_upto_region 4 with fail
 rw [← HW5.out]
 clear HW5 e0 f0
 have HPA:=Lh (uL HP.out HU.out (by have:=HL1.out;omega))
 have HFA:=Lh (@pL u SN HU.out)
 rw [← HA1.out] at HPA HFA
 have HL2:=Lh HLN.out.2.1
 obtain ⟨GA,hGA⟩:∃GA,GA=rgA u st:=⟨_,rfl⟩
 rw [← hGA] at HPA HFA HX1 HT1 HL2
 clear hGA HA1
 obtain ⟨au,SA⟩:=GA
 dsimp only at HPA HFA HX1 HT1 HL2
 go_wp2_with fail
 refine HPA.out.mono ?_
 clear HPA
 rintro e w6 ⟨⟨ia,ic,rfl,hcp,hs⟩,hp',ht'⟩
 have HCA:=Lh (show au.ids.length≤ic from hcp)
 have HSA:=Lh (show qw w6 W3.heap.size w6.heap.size ia au.ids from hs.carry HZ.out lz (fun _ _ _=>rfl))
 clear hcp hs
 replace HP:=Lh hp'
 replace HR:=Lh (ht'.row HR.out (by have:=HN.out;omega))
 replace HQ:=Lh (ht'.row HQ.out (by have:=HN.out;omega))
 replace HB:=Lh (HB.out.trans (ht'.below (by have:=HB.out.size;omega) fun k hk e=>by have:=HN.out;omega))
 replace HZ:=Lh (Nat.le_trans HZ.out ht'.size)
 clear hp' ht'
 have e1:=HQ.out.cell (i:=1) (by decide)
 have f1:=HQ.out.frozen 1
 simp only [qo] at e1
 have e2:=HQ.out.cell (i:=2) (by decide)
 have f2:=HQ.out.frozen 2
 simp only [qo] at e2
 obtain ⟨W7,hW7⟩:∃W7,W7=(w6.setCell ⟨p,1,none⟩ (.int .i64 au.thr)).setCell ⟨p,2,none⟩ (.slice ia au.ids.length ic):=⟨_,rfl⟩
 have hput:Touch (fun b=>b=p) w6 W7:=by rw [hW7];exact ((Touch.refl _ _).trans (qW _)).trans (qW _)
 replace HQ:=Lh (show W7.rowIs p 41 6 (qo (.string nm) (.int .i64 au.thr) (.slice ia au.ids.length ic) (.bool false) (.slice none 0 0) (.slice none 0 0)) from by
  rw [hW7]
  refine ((HQ.out.set 1 _).set 2 _).congr fun j hj=>?_
  rcases j with _|_|_|_|_|_|j <;> first|rfl|omega)
 replace HP:=Lh (HP.out.touch hput HN.out.1 HN.out.2.1 HN.out.2.2.1)
 replace HR:=Lh (hput.row HR.out (by have:=HN.out;omega))
 replace HB:=Lh (HB.out.trans (hput.below (by have:=HB.out.size;omega) fun k hk e=>by have:=HN.out;omega))
 replace HZ:=Lh (Nat.le_trans HZ.out hput.size)
 replace HSA:=Lh (HSA.out.carry lz hput.size (fun b h1 h2=>hput.block b h2 (by have:=HN.out;omega)))
 have HW7:=Lh hW7
 clear hput hW7
 go_upto_region 5 with fail
 rw [← HW7.out]
 clear HW7 e1 f1 e2 f2
 have HBO:=Lh (tt trmN HP.out (by decide) (by have:=HL2.out;omega))
 rw [← HT1.out] at HBO
 have HL3:=Lh HLN.out.2.2
 obtain ⟨GT,hGT⟩:∃GT,GT=rgT u st:=⟨_,rfl⟩
 rw [← hGT] at HBO HX1 HP1 HL3
 clear hGT HT1
 obtain ⟨tm,ST⟩:=GT
 dsimp only at HBO HX1 HP1 HL3
 go_wp2_with fail
 refine HBO.out.mono ?_
 clear HBO
 rintro e w8 ⟨rfl,hp',ht'⟩
 replace HP:=Lh hp'
 replace HR:=Lh (ht'.row HR.out (by have:=HN.out;omega))
 replace HQ:=Lh (ht'.row HQ.out (by have:=HN.out;omega))
 replace HB:=Lh (HB.out.trans (ht'.below (by have:=HB.out.size;omega) fun k hk e=>by have:=HN.out;omega))
 replace HZ:=Lh (Nat.le_trans HZ.out ht'.size)
 replace HSA:=Lh (HSA.out.carry lz ht'.size (fun b h1 h2=>ht'.block b h2 (by have:=HN.out;omega)))
 clear hp' ht'
 have e3:=HQ.out.cell (i:=3) (by decide)
 have f3:=HQ.out.frozen 3
 simp only [qo] at e3
 obtain ⟨W9,hW9⟩:∃W9,W9=w8.setCell ⟨p,3,none⟩ (.bool tm):=⟨_,rfl⟩
 have hput:Touch (fun b=>b=p) w8 W9:=by rw [hW9];exact (Touch.refl _ _).trans (qW _)
 replace HQ:=Lh (show W9.rowIs p 41 6 (qo (.string nm) (.int .i64 au.thr) (.slice ia au.ids.length ic) (.bool tm) (.slice none 0 0) (.slice none 0 0)) from by
  rw [hW9]
  refine (HQ.out.set 3 _).congr fun j hj=>?_
  rcases j with _|_|_|_|_|_|j <;> first|rfl|omega)
 replace HP:=Lh (HP.out.touch hput HN.out.1 HN.out.2.1 HN.out.2.2.1)
 replace HR:=Lh (hput.row HR.out (by have:=HN.out;omega))
 replace HB:=Lh (HB.out.trans (hput.below (by have:=HB.out.size;omega) fun k hk e=>by have:=HN.out;omega))
 replace HZ:=Lh (Nat.le_trans HZ.out hput.size)
 replace HSA:=Lh (HSA.out.carry lz hput.size (fun b h1 h2=>hput.block b h2 (by have:=HN.out;omega)))
 have HW9:=Lh hW9
 clear hput hW9
 go_upto_region 6 with fail
 rw [← HW9.out]
 clear HW9 e3 f3
 have HHS:=Lh (tr zK HP.out)
 go_wp2_with fail
 refine HHS.out.mono ?_
 clear HHS
 rintro e w10 ⟨rfl,hb'⟩
 replace HP:=Lh (HP.out.below hb')
 replace HR:=Lh (qj hb' HR.out HR.out.lt)
 replace HQ:=Lh (qj hb' HQ.out HQ.out.lt)
 replace HB:=Lh (HB.out.trans (hb'.mono HB.out.size))
 replace HZ:=Lh (Nat.le_trans HZ.out hb'.size)
 replace HSA:=Lh (HSA.out.below hb' lz lz hb'.size)
 clear hb'
 obtain ⟨hv,hhv⟩:∃hv,hv=qN u zK ST:=⟨_,rfl⟩
 rw [← hhv] at HP1 ⊢
 clear hhv
 cases hv with
 | true =>
  rw [if_pos rfl] at HP1
  have HTS:=Lh (mI zK 32 HP.out (by decide) (by have:=HL3.out;omega))
  have HFT:=Lh (@xk u zK 32 ST)
  obtain ⟨GP,hGP⟩:∃GP,GP=qv u zK 32 ST:=⟨_,rfl⟩
  rw [← hGP] at HTS HFT HP1
  clear hGP
  obtain ⟨PL,SP⟩:=GP
  dsimp only at HTS HFT HP1
  rw [HP1.out] at HG HX1
  clear HP1
  dsimp only at HG HX1
  go_wp2_with fail
  refine HTS.out.mono ?_
  clear HTS
  rintro e w11 ⟨⟨pa,pc,rfl,hcp,hs⟩,hp',ht'⟩
  have HCP:=Lh (show PL.length≤pc from hcp)
  have HSP:=Lh (show qw w11 W3.heap.size w11.heap.size pa PL from hs.carry HZ.out lz (fun _ _ _=>rfl))
  clear hcp hs
  replace HP:=Lh hp'
  replace HR:=Lh (ht'.row HR.out (by have:=HN.out;omega))
  replace HQ:=Lh (ht'.row HQ.out (by have:=HN.out;omega))
  replace HB:=Lh (HB.out.trans (ht'.below (by have:=HB.out.size;omega) fun k hk e=>by have:=HN.out;omega))
  replace HZ:=Lh (Nat.le_trans HZ.out ht'.size)
  replace HSA:=Lh (HSA.out.carry lz ht'.size (fun b h1 h2=>ht'.block b h2 (by have:=HN.out;omega)))
  clear hp' ht'
  have e5:=HQ.out.cell (i:=5) (by decide)
  have f5:=HQ.out.frozen 5
  simp only [qo] at e5
  obtain ⟨W12,hW12⟩:∃W12,W12=w11.setCell ⟨p,5,none⟩ (.slice pa PL.length pc):=⟨_,rfl⟩
  have hput:Touch (fun b=>b=p) w11 W12:=by rw [hW12];exact (Touch.refl _ _).trans (qW _)
  replace HQ:=Lh (show W12.rowIs p 41 6 (qo (.string nm) (.int .i64 au.thr) (.slice ia au.ids.length ic) (.bool tm) (.slice none 0 0) (.slice pa PL.length pc)) from by
   rw [hW12]
   refine (HQ.out.set 5 _).congr fun j hj=>?_
   rcases j with _|_|_|_|_|_|j <;> first|rfl|omega)
  replace HP:=Lh (HP.out.touch hput HN.out.1 HN.out.2.1 HN.out.2.2.1)
  replace HR:=Lh (hput.row HR.out (by have:=HN.out;omega))
  replace HB:=Lh (HB.out.trans (hput.below (by have:=HB.out.size;omega) fun k hk e=>by have:=HN.out;omega))
  replace HZ:=Lh (Nat.le_trans HZ.out hput.size)
  replace HSA:=Lh (HSA.out.carry lz hput.size (fun b h1 h2=>hput.block b h2 (by have:=HN.out;omega)))
  replace HSP:=Lh (HSP.out.carry lz hput.size (fun b h1 h2=>hput.block b h2 (by have:=HN.out;omega)))
  have HW12:=Lh hW12
  clear hput hW12
  go_upto_region 9 with fail
  rw [← HW12.out]
  clear HW12 e5 f5
  have HD:=Lh (ut HP.out HU.out)
  obtain ⟨dn,hdn⟩:∃dn,dn=qh u SP:=⟨_,rfl⟩
  rw [← hdn] at HD HG
  clear hdn
  have hR:=HR.out
  obtain ⟨t0,t1,t2,t3,t4⟩:=rc5 hR;have t5:=hR.cell (i:=5) (by decide)
  obtain ⟨s0,s1,s2,s3,s4⟩:=rf5 hR;have s5:=hR.frozen 5
  simp only [qo] at t0 t1 t2 t3 t4 t5
  clear hR
  go_wp2_with fail
  refine HD.out.mono ?_
  clear HD
  rintro e w20 ⟨rfl,h'⟩
  subst h'
  by_cases hd:dn=0
  case neg =>
   have d1:(dn != 0)=true:=by simpa using hd
   rw [if_pos hd] at HG
   clear hd
   go_wp2
   refine bodyPost_ret (qk Tryz.results125 _ _ (w.heap.size+1) 41 _ (0,0) _ rfl (zy (wu _ _ _ _ _ _ HR.out)) Tryz.underlying41 rfl (by kernel_rfl) _ rfl) rfl ?_
   refine ⟨u,HC.out,?_⟩
   rw [HG.out]
   exact jI (xn _ _ _ _ _ _ HB.out (by omega))
  subst hd
  rw [if_neg (by decide)] at HG
  have HMY:=Lh (jb (⟨nm,au,tm,[],PL⟩:DelegV) ia none pa ic 0 pc W12 ⟨HSA.out.carry (Nat.zero_le _) lz (fun _ _ _=>rfl),(.inl rfl),HSP.out.carry (Nat.zero_le _) lz (fun _ _ _=>rfl)⟩ ⟨HFN.out,HFA.out,⟨Nat.zero_le _,fun s hs=>(by cases hs)⟩,⟨Nat.le_trans HFT.out.1 (by decide),fun s hs=>Nat.le_trans (HFT.out.2.1 s hs) HU.out⟩⟩)
  dsimp only [List.length_nil] at HMY
  rw [← HX1.out] at HMY
  obtain ⟨mb,hmb⟩:∃mb,mb=qX GX:=⟨_,rfl⟩
  rw [← hmb] at HMY HG
  clear hmb
  rw [HX1.out] at HG
  have e0:=HQ.out.cell (i:=0) (by decide)
  have f0:=HQ.out.frozen 0
  simp only [qo] at e0
  have e1:=HQ.out.cell (i:=1) (by decide)
  have f1:=HQ.out.frozen 1
  simp only [qo] at e1
  have e2:=HQ.out.cell (i:=2) (by decide)
  have f2:=HQ.out.frozen 2
  simp only [qo] at e2
  have e3:=HQ.out.cell (i:=3) (by decide)
  have f3:=HQ.out.frozen 3
  simp only [qo] at e3
  have e4:=HQ.out.cell (i:=4) (by decide)
  have f4:=HQ.out.frozen 4
  simp only [qo] at e4
  have e5:=HQ.out.cell (i:=5) (by decide)
  have f5:=HQ.out.frozen 5
  simp only [qo] at e5
  go_wp2_with fail
  refine HMY.out.mono ?_
  clear HMY e0 f0 e1 f1 e2 f2 e3 f3 e4 f4 e5 f5 t0 s0 t1 s1 t2 s2 t3 s3 t4 s4 t5 s5
  rintro e w21 ⟨rfl,hb'⟩
  replace HP:=Lh (HP.out.below hb')
  replace HR:=Lh (qj hb' HR.out HR.out.lt)
  replace HQ:=Lh (qj hb' HQ.out HQ.out.lt)
  replace HB:=Lh (HB.out.trans (hb'.mono HB.out.size))
  replace HZ:=Lh (Nat.le_trans HZ.out hb'.size)
  replace HSA:=Lh (HSA.out.below hb' lz lz hb'.size)
  replace HSP:=Lh (HSP.out.below hb' lz lz hb'.size)
  clear hb'
  have hR:=HR.out
  obtain ⟨t0,t1,t2,t3,t4⟩:=rc5 hR;have t5:=hR.cell (i:=5) (by decide)
  obtain ⟨s0,s1,s2,s3,s4⟩:=rf5 hR;have s5:=hR.frozen 5
  simp only [qo] at t0 t1 t2 t3 t4 t5
  have e0:=HQ.out.cell (i:=0) (by decide)
  have f0:=HQ.out.frozen 0
  simp only [qo] at e0
  have e1:=HQ.out.cell (i:=1) (by decide)
  have f1:=HQ.out.frozen 1
  simp only [qo] at e1
  have e2:=HQ.out.cell (i:=2) (by decide)
  have f2:=HQ.out.frozen 2
  simp only [qo] at e2
  have e3:=HQ.out.cell (i:=3) (by decide)
  have f3:=HQ.out.frozen 3
  simp only [qo] at e3
  have e4:=HQ.out.cell (i:=4) (by decide)
  have f4:=HQ.out.frozen 4
  simp only [qo] at e4
  have e5:=HQ.out.cell (i:=5) (by decide)
  have f5:=HQ.out.frozen 5
  simp only [qo] at e5
  clear hR
  cases mb with
  | false =>
   rw [if_neg (by decide)] at HG
   go_wp2
   refine bodyPost_ret (qk Tryz.results125 _ _ (w.heap.size+1) 41 _ (0,0) _ rfl (zy (wu _ _ _ _ _ _ HR.out)) Tryz.underlying41 rfl (by kernel_rfl) _ rfl) rfl ?_
   refine ⟨u,HC.out,?_⟩
   rw [HG.out]
   exact jI (xn _ _ _ _ _ _ HB.out (by omega))
  | true =>
   rw [if_pos rfl] at HG
   have HZB:=Lh (show w.heap.size+2≤W3.heap.size from by have:=HN.out;omega)
   go_wp2
   refine bodyPost_ret (qk Tryz.results125 _ _ (w.heap.size+1) 41 _ (0,0) _ rfl (zy (wu _ _ _ _ _ _ HR.out)) Tryz.underlying41 rfl (by kernel_rfl) _ rfl) rfl ?_
   refine ⟨u,HC.out,?_⟩
   rw [HG.out]
   have hc:=fun b (h1:W3.heap.size≤b) (h2:b<w21.heap.size)=>gi (W:=w21) (.string nm) (.int .i64 au.thr) (.slice ia au.ids.length ic) (.bool tm) (.slice none 0 0) (.slice pa PL.length pc) (show b≠w.heap.size+1 by have:=HZB.out;omega)
   exact ⟨ia,ic,none,0,pa,pc,rfl,⟨HCA.out,Nat.le_refl _,HCP.out⟩,⟨HSA.out.carry (by have:=HZB.out;omega) (Nat.le_of_eq wi.symm) hc,(.inl rfl),HSP.out.carry (by have:=HZB.out;omega) (Nat.le_of_eq wi.symm) hc⟩,xn _ _ _ _ _ _ HB.out (by omega)⟩
 | false =>
  rw [if_neg (by decide)] at HP1
  have HTS:=Lh (mI xd 32 HP.out (by decide) (by have:=HL3.out;omega))
  have HFT:=Lh (@xk u xd 32 ST)
  obtain ⟨GP,hGP⟩:∃GP,GP=qv u xd 32 ST:=⟨_,rfl⟩
  rw [← hGP] at HTS HFT HP1
  clear hGP
  obtain ⟨PL,SP⟩:=GP
  dsimp only at HTS HFT HP1
  rw [HP1.out] at HG HX1
  clear HP1
  dsimp only at HG HX1
  go_wp2_with fail
  refine HTS.out.mono ?_
  clear HTS
  rintro e w11 ⟨⟨pa,pc,rfl,hcp,hs⟩,hp',ht'⟩
  have HCP:=Lh (show PL.length≤pc from hcp)
  have HSP:=Lh (show qw w11 W3.heap.size w11.heap.size pa PL from hs.carry HZ.out lz (fun _ _ _=>rfl))
  clear hcp hs
  replace HP:=Lh hp'
  replace HR:=Lh (ht'.row HR.out (by have:=HN.out;omega))
  replace HQ:=Lh (ht'.row HQ.out (by have:=HN.out;omega))
  replace HB:=Lh (HB.out.trans (ht'.below (by have:=HB.out.size;omega) fun k hk e=>by have:=HN.out;omega))
  replace HZ:=Lh (Nat.le_trans HZ.out ht'.size)
  replace HSA:=Lh (HSA.out.carry lz ht'.size (fun b h1 h2=>ht'.block b h2 (by have:=HN.out;omega)))
  clear hp' ht'
  have e4:=HQ.out.cell (i:=4) (by decide)
  have f4:=HQ.out.frozen 4
  simp only [qo] at e4
  obtain ⟨W12,hW12⟩:∃W12,W12=w11.setCell ⟨p,4,none⟩ (.slice pa PL.length pc):=⟨_,rfl⟩
  have hput:Touch (fun b=>b=p) w11 W12:=by rw [hW12];exact (Touch.refl _ _).trans (qW _)
  replace HQ:=Lh (show W12.rowIs p 41 6 (qo (.string nm) (.int .i64 au.thr) (.slice ia au.ids.length ic) (.bool tm) (.slice pa PL.length pc) (.slice none 0 0)) from by
   rw [hW12]
   refine (HQ.out.set 4 _).congr fun j hj=>?_
   rcases j with _|_|_|_|_|_|j <;> first|rfl|omega)
  replace HP:=Lh (HP.out.touch hput HN.out.1 HN.out.2.1 HN.out.2.2.1)
  replace HR:=Lh (hput.row HR.out (by have:=HN.out;omega))
  replace HB:=Lh (HB.out.trans (hput.below (by have:=HB.out.size;omega) fun k hk e=>by have:=HN.out;omega))
  replace HZ:=Lh (Nat.le_trans HZ.out hput.size)
  replace HSA:=Lh (HSA.out.carry lz hput.size (fun b h1 h2=>hput.block b h2 (by have:=HN.out;omega)))
  replace HSP:=Lh (HSP.out.carry lz hput.size (fun b h1 h2=>hput.block b h2 (by have:=HN.out;omega)))
  have HW12:=Lh hW12
  clear hput hW12
  go_upto_region 9 with fail
  rw [← HW12.out]
  clear HW12 e4 f4
  have HD:=Lh (ut HP.out HU.out)
  obtain ⟨dn,hdn⟩:∃dn,dn=qh u SP:=⟨_,rfl⟩
  rw [← hdn] at HD HG
  clear hdn
  have hR:=HR.out
  obtain ⟨t0,t1,t2,t3,t4⟩:=rc5 hR;have t5:=hR.cell (i:=5) (by decide)
  obtain ⟨s0,s1,s2,s3,s4⟩:=rf5 hR;have s5:=hR.frozen 5
  simp only [qo] at t0 t1 t2 t3 t4 t5
  clear hR
  go_wp2_with fail
  refine HD.out.mono ?_
  clear HD
  rintro e w20 ⟨rfl,h'⟩
  subst h'
  by_cases hd:dn=0
  case neg =>
   have d1:(dn != 0)=true:=by simpa using hd
   rw [if_pos hd] at HG
   clear hd
   go_wp2
   refine bodyPost_ret (qk Tryz.results125 _ _ (w.heap.size+1) 41 _ (0,0) _ rfl (zy (wu _ _ _ _ _ _ HR.out)) Tryz.underlying41 rfl (by kernel_rfl) _ rfl) rfl ?_
   refine ⟨u,HC.out,?_⟩
   rw [HG.out]
   exact jI (xn _ _ _ _ _ _ HB.out (by omega))
  subst hd
  rw [if_neg (by decide)] at HG
  have HMY:=Lh (jb (⟨nm,au,tm,PL,[]⟩:DelegV) ia pa none ic pc 0 W12 ⟨HSA.out.carry (Nat.zero_le _) lz (fun _ _ _=>rfl),HSP.out.carry (Nat.zero_le _) lz (fun _ _ _=>rfl),(.inl rfl)⟩ ⟨HFN.out,HFA.out,⟨Nat.le_trans HFT.out.1 (by decide),fun s hs=>Nat.le_trans (HFT.out.2.1 s hs) HU.out⟩,⟨Nat.zero_le _,fun s hs=>(by cases hs)⟩⟩)
  dsimp only [List.length_nil] at HMY
  rw [← HX1.out] at HMY
  obtain ⟨mb,hmb⟩:∃mb,mb=qX GX:=⟨_,rfl⟩
  rw [← hmb] at HMY HG
  clear hmb
  rw [HX1.out] at HG
  have e0:=HQ.out.cell (i:=0) (by decide)
  have f0:=HQ.out.frozen 0
  simp only [qo] at e0
  have e1:=HQ.out.cell (i:=1) (by decide)
  have f1:=HQ.out.frozen 1
  simp only [qo] at e1
  have e2:=HQ.out.cell (i:=2) (by decide)
  have f2:=HQ.out.frozen 2
  simp only [qo] at e2
  have e3:=HQ.out.cell (i:=3) (by decide)
  have f3:=HQ.out.frozen 3
  simp only [qo] at e3
  have e4:=HQ.out.cell (i:=4) (by decide)
  have f4:=HQ.out.frozen 4
  simp only [qo] at e4
  have e5:=HQ.out.cell (i:=5) (by decide)
  have f5:=HQ.out.frozen 5
  simp only [qo] at e5
  go_wp2_with fail
  refine HMY.out.mono ?_
  clear HMY e0 f0 e1 f1 e2 f2 e3 f3 e4 f4 e5 f5 t0 s0 t1 s1 t2 s2 t3 s3 t4 s4 t5 s5
  rintro e w21 ⟨rfl,hb'⟩
  replace HP:=Lh (HP.out.below hb')
  replace HR:=Lh (qj hb' HR.out HR.out.lt)
  replace HQ:=Lh (qj hb' HQ.out HQ.out.lt)
  replace HB:=Lh (HB.out.trans (hb'.mono HB.out.size))
  replace HZ:=Lh (Nat.le_trans HZ.out hb'.size)
  replace HSA:=Lh (HSA.out.below hb' lz lz hb'.size)
  replace HSP:=Lh (HSP.out.below hb' lz lz hb'.size)
  clear hb'
  have hR:=HR.out
  obtain ⟨t0,t1,t2,t3,t4⟩:=rc5 hR;have t5:=hR.cell (i:=5) (by decide)
  obtain ⟨s0,s1,s2,s3,s4⟩:=rf5 hR;have s5:=hR.frozen 5
  simp only [qo] at t0 t1 t2 t3 t4 t5
  have e0:=HQ.out.cell (i:=0) (by decide)
  have f0:=HQ.out.frozen 0
  simp only [qo] at e0
  have e1:=HQ.out.cell (i:=1) (by decide)
  have f1:=HQ.out.frozen 1
  simp only [qo] at e1
  have e2:=HQ.out.cell (i:=2) (by decide)
  have f2:=HQ.out.frozen 2
  simp only [qo] at e2
  have e3:=HQ.out.cell (i:=3) (by decide)
  have f3:=HQ.out.frozen 3
  simp only [qo] at e3
  have e4:=HQ.out.cell (i:=4) (by decide)
  have f4:=HQ.out.frozen 4
  simp only [qo] at e4
  have e5:=HQ.out.cell (i:=5) (by decide)
  have f5:=HQ.out.frozen 5
  simp only [qo] at e5
  clear hR
  cases mb with
  | false =>
   rw [if_neg (by decide)] at HG
   go_wp2
   refine bodyPost_ret (qk Tryz.results125 _ _ (w.heap.size+1) 41 _ (0,0) _ rfl (zy (wu _ _ _ _ _ _ HR.out)) Tryz.underlying41 rfl (by kernel_rfl) _ rfl) rfl ?_
   refine ⟨u,HC.out,?_⟩
   rw [HG.out]
   exact jI (xn _ _ _ _ _ _ HB.out (by omega))
  | true =>
   rw [if_pos rfl] at HG
   have HZB:=Lh (show w.heap.size+2≤W3.heap.size from by have:=HN.out;omega)
   go_wp2
   refine bodyPost_ret (qk Tryz.results125 _ _ (w.heap.size+1) 41 _ (0,0) _ rfl (zy (wu _ _ _ _ _ _ HR.out)) Tryz.underlying41 rfl (by kernel_rfl) _ rfl) rfl ?_
   refine ⟨u,HC.out,?_⟩
   rw [HG.out]
   have hc:=fun b (h1:W3.heap.size≤b) (h2:b<w21.heap.size)=>gi (W:=w21) (.string nm) (.int .i64 au.thr) (.slice ia au.ids.length ic) (.bool tm) (.slice pa PL.length pc) (.slice none 0 0) (show b≠w.heap.size+1 by have:=HZB.out;omega)
   exact ⟨ia,ic,pa,pc,none,0,rfl,⟨HCA.out,HCP.out,Nat.le_refl _⟩,⟨HSA.out.carry (by have:=HZB.out;omega) (Nat.le_of_eq wi.symm) hc,HSP.out.carry (by have:=HZB.out;omega) (Nat.le_of_eq wi.symm) hc,(.inl rfl)⟩,xn _ _ _ _ _ _ HB.out (by omega)⟩
theorem uS (v:JV) (x:Value) (w:World) (lo:Nat) (hlo:0<lo) (hN:v.wt≤4294967296) (hR:Rep w lo w.heap.size v x) (hp:v.kind=5→qe v.names=true∧v.names.length=v.items.length) :
 Calls Tryz.prog 125 #[x] w (kH (zn v) w):=by
 refine (fe (xL v) (st0 v) v x w (hR.carry (Nat.zero_le _) lz (fun _ _ _=>rfl)) (by unfold st0;split <;> simp) (fun w1 hb=>rR hN hlo hb.size (hR.below hb lz lz lz) hp)).mono ?_
 rintro e w' ⟨u,hu,h⟩
 unfold xL at hu
 unfold st0 at h
 by_cases hk:v.kind=5
 · rw [if_pos hk] at hu h
   subst hu
   rw [← lm hk];exact h
 · rw [if_neg hk] at hu h
   subst hu
   have:zn v=(j4,10):=by unfold zn;rw [if_pos hk]
   rw [this]
   rw [ld] at h;exact h
theorem lZ {l:List JV} {acc:List DelegV} {k:Nat} (hk:k<l.length):zT (l.drop k) acc=if (zn l[k]).2≠0 then ([],(zn l[k]).2) else if acc.any (fun y=>decide (y.name=(zn l[k]).1.name)) then ([],7) else zT (l.drop (k+1)) (acc ++ [(zn l[k]).1]):=by
 rw [List.drop_eq_getElem_cons hk,zT]
theorem lX:(Tryz.prog.info? 41).map (fun i=>(i.zero,i.size,i.bytes))=some (some (.agg #[.string ⟨#[]⟩,.int .i64 0,.slice none 0 0,.bool false,.slice none 0 0,.slice none 0 0]),6,104):=by kernel_rfl
def vy (r:List DelegV × Int) (w:World) (e:Ending) (w':World):Prop :=
 ∃a c,e=.returned (.tuple #[.slice a r.1.length c,.int .i64 r.2])∧r.1.length≤c∧qE w' w.heap.size w'.heap.size a r.1∧Below w.heap.size w w'
theorem wT {er:Int} {w w':World} (hb:Below w.heap.size w w'):vy ([],er) w (.returned (.tuple #[.slice none 0 0,.int .i64 er])) w':=⟨none,0,rfl,Nat.le_refl _,.inl rfl,hb⟩
set_option maxHeartbeats 4000000 in
set_option maxRecDepth 100000 in
theorem fQ (items:List JV) (a0:Option Addr) (c0:Nat) (w:World) (lo:Nat) (hlo:0<lo) (hN:JV.wts items≤4294967296) (hA:qR w lo w.heap.size a0 items) (hp:∀v ∈ items,v.kind=5→qe v.names=true∧v.names.length=v.items.length) (hl:items.length≤4294967296) :
 Calls Tryz.prog 66 #[.slice a0 items.length c0] w (vy (zT items []) w):=by
 have HA:=Lh hA
 have HLO:=Lh hlo
 have HWT:=Lh hN
 have HP:=Lh hp
 obtain ⟨G,hG⟩:∃G,G=zT items []:=⟨_,rfl⟩
 rw [← hG]
 have HG:=Lh hG
 obtain ⟨nn,hnn⟩:∃nn,nn=items.length:=⟨_,rfl⟩
 have HNN:=Lh hnn
 rw [← hnn] at hl ⊢
 clear hA hlo hN hp hG hnn
 go_enter Tryz.func66,Tryz.ntmps66
 go_wp2_with fail
 go_loopw [4,6,7,8,11] (fun s4 _ _ _ i wr=>∃(k:Nat) (a:Option Addr) (c:Nat) (qs:List DelegC),k≤nn∧qs.length=k∧i=.int .i64 k∧s4=.slice a k c∧G=zT (items.drop k) (qs.map (·.x))∧jp 41 w.heap.size wr s4 qs∧Below w.heap.size w wr) (fun _ _ _ _ i _=>nn - (intOf i).toNat)
 case atStart=>exact ⟨0,none,0,[],by omega,rfl,rfl,rfl,HG.out,ItemsOwn.nil _ _ _ _ _ _,Below.refl _ _⟩
 case round =>
  obtain ⟨k,a4,c4,sq,hk,hsk,rfl,rfl,hge,hown,hbr⟩:=hrel
  have HGE:=Lh hge
  have HO:=Lh hown
  have HBR:=Lh hbr
  have HSK:=Lh hsk
  clear hge hown hbr HG hsk
  by_cases hlt:k<nn
  · have hkl:k<items.length:=by rw [← HNN.out];exact hlt
    obtain ⟨b,o,an3,cn3,ai3,ci3,ha,-,hbb,e0,e1,e2,e3,e4,hrep⟩:=(HA.out.below HBR.out lz lz lz).get k hkl
    subst ha
    have m1:(0:Int)≤(k:Int):=by omega
    have m2:(k:Int)<(nn:Int):=by omega
    have m3:decide ((k:Int)<(nn:Int))=true:=by simpa using hlt
    have HGL:=Lh (lZ (l:=items) (acc:=sq.map (·.x)) hkl)
    have hwt:=JV.wts_get items k hkl
    have hpk:=HP.out _ (List.getElem_mem hkl)
    obtain ⟨it,hit⟩:∃it,it=items[k]:=⟨_,rfl⟩
    rw [← hit] at e0 e1 e2 e3 e4 hrep HGL hwt hpk
    clear hit
    obtain ⟨WX,hWX⟩:∃WX,WX=wr.alloc (.cells #[.int .u8 it.kind,.int .i64 it.n,.string it.t,.slice an3 it.names.length cn3,.slice ai3 it.items.length ci3] 25):=⟨_,rfl⟩
    have hbX:Below wr.heap.size wr WX:=by rw [hWX];exact (Below.refl _ _).alloc lz _
    have hxX:WX.heap[wr.heap.size]?=some (.cells #[.int .u8 it.kind,.int .i64 it.n,.string it.t,.slice an3 it.names.length cn3,.slice ai3 it.items.length ci3] 25 (0,0)):=by rw [hWX];exact heap_alloc_new wr _
    have HRO:=Lh (uS it _ WX lo HLO.out (by have:=HWT.out;omega) (hrep.below hbX (by have:=HBR.out.size;omega) lz (by have:=HBR.out.size;have:=hbX.size;omega)) hpk)
    have HBX:=Lh hbX
    have HXL:=Lh (qx hxX)
    have HWX:=Lh hWX
    obtain ⟨z0,z1,z2,z3,z4⟩:=bx5 hxX
    obtain ⟨DX,hDX⟩:∃DX,DX=zn it:=⟨_,rfl⟩
    rw [← hDX] at HRO HGL
    clear hbX hxX hWX hrep hDX hwt hpk
    obtain ⟨x,er⟩:=DX
    unfold kH at HRO
    dsimp only at HRO HGL
    go_upto_region 5 with fail
    rw [← HWX.out]
    clear e0 e1 e2 e3 e4 HWX
    go_wp2_with fail
    refine HRO.out.mono ?_
    clear HRO z0 z1 z2 z3 z4
    rintro e w4 ⟨ia,ic,pa,pc,qa,qc,rfl,hcaps,hin,hb4⟩
    obtain ⟨WY,hWY⟩:∃WY,WY=w4.alloc (.cells #[.string x.name,.int .i64 x.au.thr,.slice ia x.au.ids.length ic,.bool x.term,.slice pa x.paths.length pc,.slice qa x.pres.length qc] 41):=⟨_,rfl⟩
    have hbY:Below w4.heap.size w4 WY:=by rw [hWY];exact (Below.refl _ _).alloc lz _
    have hyY:WY.heap[w4.heap.size]?=some (.cells #[.string x.name,.int .i64 x.au.thr,.slice ia x.au.ids.length ic,.bool x.term,.slice pa x.paths.length pc,.slice qa x.pres.length qc] 41 (0,0)):=by rw [hWY];exact heap_alloc_new w4 _
    have hby:Below wr.heap.size wr WY:=HBX.out.trans ((hb4.trans (hbY.mono hb4.size)).mono HBX.out.size)
    have HCX:=Lh (show ∀w':World,Below WY.heap.size WY w'→w'.cell? ⟨w4.heap.size,0,none⟩=some (.string x.name)∧w'.cell? ⟨w4.heap.size,1,none⟩=some (.int .i64 x.au.thr)∧w'.cell? ⟨w4.heap.size,2,none⟩=some (.slice ia x.au.ids.length ic)∧w'.cell? ⟨w4.heap.size,3,none⟩=some (.bool x.term)∧w'.cell? ⟨w4.heap.size,4,none⟩=some (.slice pa x.paths.length pc)∧w'.cell? ⟨w4.heap.size,5,none⟩=some (.slice qa x.pres.length qc) from fun w' h=>by
     have y:=(h.block _ (qx hyY)).trans hyY
     exact ⟨qq y rfl,qq y rfl,qq y rfl,qq y rfl,qq y rfl,qq y rfl⟩)
    have HOY:=Lh (ItemsOwn.below wk HO.out hby)
    have HBY:=Lh (HBR.out.trans (hby.mono HBR.out.size))
    have HIN:=Lh (show DelegIn WY WX.heap.size w4.heap.size x ia pa qa from hin.below hbY lz lz lz)
    have HCP:=Lh hcaps
    have HSZ:=Lh (show w.heap.size≤wr.heap.size∧wr.heap.size<WX.heap.size∧WX.heap.size≤w4.heap.size∧w4.heap.size<WY.heap.size from ⟨HBR.out.size,HXL.out,hb4.size,qx hyY⟩)
    have HWY:=Lh hWY
    have HOB:=Lh (show ∀b,(Value.slice a4 k c4).ownBlock=some b→b<wr.heap.size from fun b hb=>(HO.out.own.lt b hb).2)
    clear hWY hbY hyY hby hcaps hin hb4 HO HBX HXL
    go_upto_region 6 with fail
    rw [← HWY.out]
    clear HWY
    by_cases her:er=0
    case neg =>
     have d1:(er != 0)=true:=by simpa using her
     rw [if_pos her] at HGL
     clear her
     go_wp2
     go_ret2
     rw [HGE.out,HGL.out]
     exact wT HBY.out
    subst her
    rw [if_neg (by decide)] at HGL
    obtain ⟨a9,c9,hv9,-,hr9⟩:=jp.row (l:=sq.map (·.x)) HOY.out rfl
    have hlm:(sq.map (·.x)).length=k:=by rw [List.length_map];exact HSK.out
    rw [hlm] at hv9
    simp only [Value.slice.injEq,true_and] at hv9
    obtain ⟨rfl,rfl⟩:=hv9
    have HHN:=Lh (wC (sq.map (·.x)) x.name a4 c4 WY (hr9.carry (Nat.zero_le _) lz (fun _ _ _=>rfl)) (by rw [hlm];omega))
    rw [hlm] at HHN
    obtain ⟨V,hV⟩:∃V,V=(sq.map (·.x)).any (fun y=>decide (y.name=x.name)):=⟨_,rfl⟩
    rw [← hV] at HHN HGL
    clear hV hlm hr9
    obtain ⟨y0,y1,y2,y3,y4,y5⟩:=HCX.out WY (Below.refl _ _)
    go_wp2_with fail
    refine HHN.out.mono ?_
    clear HHN y0 y1 y2 y3 y4 y5
    rintro e w6 ⟨rfl,hb6⟩
    have HB6:=Lh hb6
    clear hb6
    cases V with
    | true =>
     rw [if_pos rfl] at HGL
     go_wp2
     go_ret2
     rw [HGE.out,HGL.out]
     exact wT (HBY.out.trans (HB6.out.mono HBY.out.size))
    | false =>
     rw [if_neg (by decide)] at HGL
     obtain ⟨y0,y1,y2,y3,y4,y5⟩:=HCX.out w6 HB6.out
     obtain ⟨WA,hWA⟩:∃WA,WA=w6.alloc (.cells #[.string x.name,.int .i64 x.au.thr,.slice ia x.au.ids.length ic,.bool x.term,.slice pa x.paths.length pc,.slice qa x.pres.length qc] 41):=⟨_,rfl⟩
     have hbA:Below w6.heap.size w6 WA:=by rw [hWA];exact (Below.refl _ _).alloc lz _
     have hxA:WA.heap[w6.heap.size]?=some (.cells #[.string x.name,.int .i64 x.au.thr,.slice ia x.au.ids.length ic,.bool x.term,.slice pa x.paths.length pc,.slice qa x.pres.length qc] 41 (0,0)):=by rw [hWA];exact heap_alloc_new w6 _
     have hb6A:Below WY.heap.size WY WA:=HB6.out.trans (hbA.mono HB6.out.size)
     have HOA:=Lh (ItemsOwn.below wk HOY.out hb6A)
     have HOW:=Lh (show WA.ownsRow w.heap.size 41 6 (.slice a4 k c4) k (sq.flatMap sV) from by have:=HOA.out.own;rw [HSK.out] at this;exact this)
     have HBA:=Lh (HBY.out.trans (hb6A.mono HBY.out.size))
     have HINA:=Lh (HIN.out.below hb6A (by have:=HSZ.out;omega) lz lz)
     have HXA:=Lh hxA
     have HWA:=Lh hWA
     have HSA:=Lh (show WY.heap.size≤w6.heap.size∧w6.heap.size<WA.heap.size from ⟨HB6.out.size,qx hxA⟩)
     obtain ⟨i1,hi1,hy0,hy1,hy2⟩:=info_parts lX
     have hwz:w.heap.size≤WA.heap.size:=HBA.out.size
     clear hWA hbA hxA hb6A
     go_upto_region 11 with (at_builtin;rw [← HWA.out];(refine wpList_append_lies _ rfl (.tmp 27) (.tmp 29) 29 rfl w.heap.size 41 i1 _ 6 104 Tryz.underlying29 hi1 hy0 hy1 hy2 rfl (by omega) (.slice a4 k c4) k (sq.flatMap sV) rfl HOW.out ⟨w6.heap.size,0,none⟩ 1 1 [.string x.name,.int .i64 x.au.thr,.slice ia x.au.ids.length ic,.bool x.term,.slice pa x.paths.length pc,.slice qa x.pres.length qc] rfl rfl (World.news_of_block (cs:=#[.string x.name,.int .i64 x.au.thr,.slice ia x.au.ids.length ic,.bool x.term,.slice pa x.paths.length pc,.slice qa x.pres.length qc]) (t:=41) (fr:=(0,0)) HXA.out) (by simp [Value.oneCell']) (by omega) (by unfold maxLen;omega) (by omega) (by have:=HSA.out;omega) WA.heap.size (by omega) ?_);intro g2 cap2 w7 hown6 hgrow6 hat6 hlt6;have HO6:=Lh hown6;have HG6:=Lh hgrow6;have HA6:=Lh hat6;clear hown6 hgrow6 hat6)
     obtain ⟨qn,hqn⟩:∃qn:DelegC,qn=⟨x,ia,ic,pa,pc,qa,qc⟩:=⟨_,rfl⟩
     have HQN:=Lh hqn
     have HON:=Lh (show jp 41 w.heap.size w7 (.slice (some ⟨g2,0,none⟩) (k+1) cap2) (sq ++ [qn]) from ItemsOwn.snoc wk (v':=.slice (some ⟨g2,0,none⟩) (k+1) cap2) HOA.out qn WX.heap.size w4.heap.size (by have:=HSZ.out;omega) (by have:=HSZ.out;have:=HSA.out;omega) (fun b hb hbg=>by
      have h1:=HOB.out b hb
      have:=HSZ.out
      omega) (by rw [hqn];exact ⟨HCP.out.1,HCP.out.2.1,HCP.out.2.2,HINA.out⟩) HG6.out (by rw [HSK.out,hqn];exact HO6.out) (by
      rcases HA6.out with h|h
      · exact .inl h.symm
      · exact .inr ⟨g2,rfl,by omega⟩))
     have HBN:=Lh (below_grown HBA.out hwz HG6.out (fun b hb=>(HOW.out.lt b hb).1))
     have HLN:=Lh (show (sq ++ [qn]).length=k+1 from by rw [List.length_append,HSK.out];rfl)
     have HMP:=Lh (show (sq ++ [qn]).map (·.x)=sq.map (·.x) ++ [x] from by rw [List.map_append,hqn];rfl)
     clear HO6 HG6 HA6 HOW hqn
     go_wp2
     go_roundw
     case rel=>exact ⟨k+1,some ⟨g2,0,none⟩,cap2,sq ++ [qn],by omega,HLN.out,by go_num,rfl,by rw [HGE.out,HGL.out,HMP.out],HON.out,HBN.out⟩
     case measure=>simp [intOf];omega
  · have m3:decide ((k:Int)<(nn:Int))=false:=by simpa using hlt
    have HNIL:=Lh (show G=(sq.map (·.x),0) from by
     rw [HGE.out,List.drop_eq_nil_of_le (by rw [← HNN.out];omega),zT])
    obtain ⟨a9,c9,hv9,hc9,hr9⟩:=jp.row (l:=sq.map (·.x)) HO.out rfl
    have hlm:(sq.map (·.x)).length=k:=by rw [List.length_map];exact HSK.out
    rw [hlm] at hv9
    simp only [Value.slice.injEq,true_and] at hv9
    obtain ⟨rfl,rfl⟩:=hv9
    have HR9:=Lh hr9
    have HC9:=Lh hc9
    have HLM:=Lh hlm
    clear hr9 hc9 hlm
    go_wp2
    go_ret2
    rw [HNIL.out]
    exact ⟨a4,c4,by rw [HLM.out] <;> rfl,HC9.out,HR9.out,HBR.out⟩
def kU (r:BinsV × Int) (w:World) (e:Ending) (w':World):Prop :=
 ∃ia ic,e=.returned (.tuple #[.agg #[.int .i64 r.1.au.thr,.slice ia r.1.au.ids.length ic,.int .i64 r.1.bits,.string r.1.pre],.int .i64 r.2])∧r.1.au.ids.length≤ic∧qw w' w.heap.size w'.heap.size ia r.1.au.ids∧Below w.heap.size w w'
theorem y7 {er:Int} {w w':World} (hb:Below w.heap.size w w'):kU (xA,er) w (.returned (.tuple #[.agg #[.int .i64 0,.slice none 0 0,.int .i64 0,.string ⟨#[]⟩],.int .i64 er])) w' :=
 ⟨none,0,rfl,Nat.le_refl _,.inl rfl,hb⟩
set_option maxHeartbeats 4000000 in
set_option maxRecDepth 100000 in
theorem fZ (C:JV→Prop) (st:PS) (v:JV) (x:Value) (w:World) (hR:Rep w 0 w.heap.size v x) (ha:st.asked.length≤1000)
 (hOf:∀w1,Below w.heap.size w w1→Calls Tryz.prog 60 #[x] w1 (wD C st w1)) :
 Calls Tryz.prog 65 #[x] w (fun e w'=>∃u,C u∧kU (dx u st) w e w'):=by
 obtain ⟨an,cn,ai,ci,hx,h1,h2,h3,h4⟩:=hR.parts
 clear h1 h2 h3 h4
 subst hx
 obtain ⟨W,hW⟩:∃W,W=(w.alloc (.cells #[.int .u8 v.kind,.int .i64 v.n,.string v.t,.slice an v.names.length cn,.slice ai v.items.length ci] 25)).alloc (.cells #[.int .i64 0,.slice none 0 0,.int .i64 0,.string ⟨#[]⟩] 33):=⟨_,rfl⟩
 have hz1:(w.alloc (.cells #[.int .u8 v.kind,.int .i64 v.n,.string v.t,.slice an v.names.length cn,.slice ai v.items.length ci] 25)).heap.size=w.heap.size+1:=by simp
 have hb:Below w.heap.size w W:=by rw [hW];exact ((Below.refl _ _).alloc lz _).alloc (by simp) _
 have hx0:W.heap[w.heap.size]?=some (.cells #[.int .u8 v.kind,.int .i64 v.n,.string v.t,.slice an v.names.length cn,.slice ai v.items.length ci] 25 (0,0)):=by rw [hW];exact zk w _ _
 have hr0:W.rowIs (w.heap.size+1) 33 4 (xy (.int .i64 0) (.slice none 0 0) (.int .i64 0) (.string ⟨#[]⟩)):=by
  have:=gY (w.alloc (.cells #[.int .u8 v.kind,.int .i64 v.n,.string v.t,.slice an v.names.length cn,.slice ai v.items.length ci] 25)) (.int .i64 0) (.slice none 0 0) (.int .i64 0) (.string ⟨#[]⟩) 33
  rw [hz1,← hW] at this
  exact this
 have HOF:=Lh (hOf W hb)
 have HB:=Lh hb
 have HX0:=Lh hx0
 have HR0:=Lh hr0
 have HW:=Lh hW
 have HA:=Lh ha
 have HZ1:=Lh (show w.heap.size+2≤W.heap.size from hr0.lt)
 clear hOf hW hz1 hb hx0 hr0 hR ha
 obtain ⟨c0,c1,c2,c3,c4⟩:=bx5 HX0.out
 go_enter Tryz.func65,Tryz.ntmps65
 go_upto_region 1 with fail
 rw [← HW.out]
 clear HW
 go_wp2_with fail
 refine HOF.out.mono ?_
 clear HOF c0 c1 c2 c3 c4
 rintro e w2 ⟨u,o,m,lo,hi,an2,ai2,cn2,ci2,hC,hu,rfl,hp2,ho2,hm2,hb2⟩
 have HC:=Lh hC
 have HU:=Lh hu
 have hlt:=hp2.lt
 obtain ⟨p,hpp⟩:∃p,p=w2.heap.size:=⟨_,rfl⟩
 obtain ⟨W3,hW3⟩:∃W3,W3=w2.alloc (.cells #[.int .i64 0,.slice none 0 0,.int .i64 0,.string ⟨#[]⟩] 33):=⟨_,rfl⟩
 have hb3:Below w2.heap.size w2 W3:=by rw [hW3];exact (Below.refl _ _).alloc lz _
 have hq3:W3.rowIs p 33 4 (xy (.int .i64 0) (.slice none 0 0) (.int .i64 0) (.string ⟨#[]⟩)):=by rw [hW3,hpp];exact gY _ _ _ _ _ _
 have HN:=Lh (show p≠o∧p≠m∧hi≤p∧w.heap.size+2≤o∧w.heap.size+2≤m∧w.heap.size+2≤p∧p<W3.heap.size∧o<W3.heap.size∧m<W3.heap.size from by
  have h1:=hb2.size;have h2:=hq3.lt;have h3:=HZ1.out;have h4:=hb3.size;omega)
 have HP:=Lh (hp2.below hb3)
 have HR:=Lh (qj (hb2.trans (hb3.mono hb2.size)) HR0.out HR0.out.lt)
 replace HB:=Lh (HB.out.trans ((hb2.trans (hb3.mono hb2.size)).mono HB.out.size))
 have HQ:=Lh hq3
 have HZ:=Lh (Nat.le_refl W3.heap.size)
 have HW3:=Lh hW3
 have HPE:=Lh hpp
 clear hC hu hlt hp2 ho2 hm2 hb2 hb3 hq3 hW3 hpp HR0 HX0 HZ1
 have HLN:=Lh (@tq u st HA.out)
 have HPA:=Lh (uL HP.out HU.out (by have:=HA.out;omega))
 have HFA:=Lh (@pL u st HU.out)
 rw [show jR u st=bgA u st from rfl] at HPA HFA
 have HB1:=Lh (show bgB u st=qP u jy 1 32 (bgA u st).2 from rfl)
 have HP1:=Lh (show bgP u st=qf u jH (bgB u st).2 from rfl)
 have HG:=Lh (show dx u st=if qh u (bgP u st).2≠0 then (xA,qh u (bgP u st).2) else if qI ⟨(bgB u st).1,(bgP u st).1,(bgA u st).1⟩ then (⟨(bgB u st).1,(bgP u st).1,(bgA u st).1⟩,0) else (xA,3) from rfl)
 have HL1:=Lh HLN.out.1
 obtain ⟨GA,hGA⟩:∃GA,GA=bgA u st:=⟨_,rfl⟩
 rw [← hGA] at HPA HFA HB1 HG HL1
 clear hGA
 obtain ⟨au,SA⟩:=GA
 dsimp only at HPA HFA HB1 HG HL1
 go_upto_region 3 with fail
 rw [← HW3.out,← HPE.out]
 clear HPE HW3
 go_wp2_with fail
 refine HPA.out.mono ?_
 clear HPA
 rintro e w4 ⟨⟨ia,ic,rfl,hcp,hs⟩,hp',ht'⟩
 have HCA:=Lh (show au.ids.length≤ic from hcp)
 have HSA:=Lh (show qw w4 W3.heap.size w4.heap.size ia au.ids from hs.carry HZ.out lz (fun _ _ _=>rfl))
 clear hcp hs
 replace HP:=Lh hp'
 replace HR:=Lh (ht'.row HR.out (by have:=HN.out;omega))
 replace HQ:=Lh (ht'.row HQ.out (by have:=HN.out;omega))
 replace HB:=Lh (HB.out.trans (ht'.below (by have:=HB.out.size;omega) fun k hk e=>by have:=HN.out;omega))
 replace HZ:=Lh (Nat.le_trans HZ.out ht'.size)
 clear hp' ht'
 have e0:=HQ.out.cell (i:=0) (by decide)
 have f0:=HQ.out.frozen 0
 simp only [xy] at e0
 have e1:=HQ.out.cell (i:=1) (by decide)
 have f1:=HQ.out.frozen 1
 simp only [xy] at e1
 obtain ⟨W5,hW5⟩:∃W5,W5=(w4.setCell ⟨p,0,none⟩ (.int .i64 au.thr)).setCell ⟨p,1,none⟩ (.slice ia au.ids.length ic):=⟨_,rfl⟩
 have hput:Touch (fun b=>b=p) w4 W5:=by rw [hW5];exact ((Touch.refl _ _).trans (qW _)).trans (qW _)
 replace HQ:=Lh (show W5.rowIs p 33 4 (xy (.int .i64 au.thr) (.slice ia au.ids.length ic) (.int .i64 0) (.string ⟨#[]⟩)) from by
  rw [hW5]
  refine ((HQ.out.set 0 _).set 1 _).congr fun j hj=>?_
  rcases j with _|_|_|_|j <;> first|rfl|omega)
 replace HP:=Lh (HP.out.touch hput HN.out.1 HN.out.2.1 HN.out.2.2.1)
 replace HR:=Lh (hput.row HR.out (by have:=HN.out;omega))
 replace HB:=Lh (HB.out.trans (hput.below (by have:=HB.out.size;omega) fun k hk e=>by have:=HN.out;omega))
 replace HZ:=Lh (Nat.le_trans HZ.out hput.size)
 replace HSA:=Lh (HSA.out.carry lz hput.size (fun b h1 h2=>hput.block b h2 (by have:=HN.out;omega)))
 have HW5:=Lh hW5
 clear hput hW5
 go_upto_region 4 with fail
 rw [← HW5.out]
 clear HW5 e0 f0 e1 f1
 have HNU:=Lh (aH jy 1 32 HP.out (by decide) (by have:=HL1.out;omega))
 have HFB:=Lh (@uR u jy 1 32 SA (by decide) (by decide))
 rw [← HB1.out] at HNU HFB
 have HL2:=Lh HLN.out.2
 obtain ⟨GB,hGB⟩:∃GB,GB=bgB u st:=⟨_,rfl⟩
 rw [← hGB] at HNU HFB HP1 HG HL2
 clear hGB HB1
 obtain ⟨bits,SB⟩:=GB
 dsimp only at HNU HFB HP1 HG HL2
 go_wp2_with fail
 refine HNU.out.mono ?_
 clear HNU
 rintro e w6 ⟨rfl,hp',ht'⟩
 replace HP:=Lh hp'
 replace HR:=Lh (ht'.row HR.out (by have:=HN.out;omega))
 replace HQ:=Lh (ht'.row HQ.out (by have:=HN.out;omega))
 replace HB:=Lh (HB.out.trans (ht'.below (by have:=HB.out.size;omega) fun k hk e=>by have:=HN.out;omega))
 replace HZ:=Lh (Nat.le_trans HZ.out ht'.size)
 replace HSA:=Lh (HSA.out.carry lz ht'.size (fun b h1 h2=>ht'.block b h2 (by have:=HN.out;omega)))
 clear hp' ht'
 have e2:=HQ.out.cell (i:=2) (by decide)
 have f2:=HQ.out.frozen 2
 simp only [xy] at e2
 obtain ⟨W7,hW7⟩:∃W7,W7=w6.setCell ⟨p,2,none⟩ (.int .i64 bits):=⟨_,rfl⟩
 have hput:Touch (fun b=>b=p) w6 W7:=by rw [hW7];exact (Touch.refl _ _).trans (qW _)
 replace HQ:=Lh (show W7.rowIs p 33 4 (xy (.int .i64 au.thr) (.slice ia au.ids.length ic) (.int .i64 bits) (.string ⟨#[]⟩)) from by
  rw [hW7]
  refine (HQ.out.set 2 _).congr fun j hj=>?_
  rcases j with _|_|_|_|j <;> first|rfl|omega)
 replace HP:=Lh (HP.out.touch hput HN.out.1 HN.out.2.1 HN.out.2.2.1)
 replace HR:=Lh (hput.row HR.out (by have:=HN.out;omega))
 replace HB:=Lh (HB.out.trans (hput.below (by have:=HB.out.size;omega) fun k hk e=>by have:=HN.out;omega))
 replace HZ:=Lh (Nat.le_trans HZ.out hput.size)
 replace HSA:=Lh (HSA.out.carry lz hput.size (fun b h1 h2=>hput.block b h2 (by have:=HN.out;omega)))
 have HW7:=Lh hW7
 clear hput hW7
 go_upto_region 5 with fail
 rw [← HW7.out]
 clear HW7 e2 f2
 have HTX:=Lh (ag jH HP.out (by decide) (by have:=HL2.out;omega))
 have HFN:=Lh (Nat.le_trans (@pD u jH SB) HU.out)
 rw [← HP1.out] at HTX HFN
 obtain ⟨GP,hGP⟩:∃GP,GP=bgP u st:=⟨_,rfl⟩
 rw [← hGP] at HTX HFN HG
 clear hGP HP1
 obtain ⟨pre,SP⟩:=GP
 dsimp only at HTX HFN HG
 go_wp2_with fail
 refine HTX.out.mono ?_
 clear HTX
 rintro e w8 ⟨rfl,hp',ht'⟩
 replace HP:=Lh hp'
 replace HR:=Lh (ht'.row HR.out (by have:=HN.out;omega))
 replace HQ:=Lh (ht'.row HQ.out (by have:=HN.out;omega))
 replace HB:=Lh (HB.out.trans (ht'.below (by have:=HB.out.size;omega) fun k hk e=>by have:=HN.out;omega))
 replace HZ:=Lh (Nat.le_trans HZ.out ht'.size)
 replace HSA:=Lh (HSA.out.carry lz ht'.size (fun b h1 h2=>ht'.block b h2 (by have:=HN.out;omega)))
 clear hp' ht'
 have e3:=HQ.out.cell (i:=3) (by decide)
 have f3:=HQ.out.frozen 3
 simp only [xy] at e3
 obtain ⟨W12,hW12⟩:∃W12,W12=w8.setCell ⟨p,3,none⟩ (.string pre):=⟨_,rfl⟩
 have hput:Touch (fun b=>b=p) w8 W12:=by rw [hW12];exact (Touch.refl _ _).trans (qW _)
 replace HQ:=Lh (show W12.rowIs p 33 4 (xy (.int .i64 au.thr) (.slice ia au.ids.length ic) (.int .i64 bits) (.string pre)) from by
  rw [hW12]
  refine (HQ.out.set 3 _).congr fun j hj=>?_
  rcases j with _|_|_|_|j <;> first|rfl|omega)
 replace HP:=Lh (HP.out.touch hput HN.out.1 HN.out.2.1 HN.out.2.2.1)
 replace HR:=Lh (hput.row HR.out (by have:=HN.out;omega))
 replace HB:=Lh (HB.out.trans (hput.below (by have:=HB.out.size;omega) fun k hk e=>by have:=HN.out;omega))
 replace HZ:=Lh (Nat.le_trans HZ.out hput.size)
 replace HSA:=Lh (HSA.out.carry lz hput.size (fun b h1 h2=>hput.block b h2 (by have:=HN.out;omega)))
 have HW12:=Lh hW12
 clear hput hW12
 go_upto_region 6 with fail
 rw [← HW12.out]
 clear HW12 e3 f3
 have HD:=Lh (ut HP.out HU.out)
 obtain ⟨dn,hdn⟩:∃dn,dn=qh u SP:=⟨_,rfl⟩
 rw [← hdn] at HD HG
 clear hdn
 have hR:=HR.out
 have t0:=hR.cell (i:=0) (by decide);have t1:=hR.cell (i:=1) (by decide);have t2:=hR.cell (i:=2) (by decide);have t3:=hR.cell (i:=3) (by decide)
 have s0:=hR.frozen 0;have s1:=hR.frozen 1;have s2:=hR.frozen 2;have s3:=hR.frozen 3
 simp only [xy] at t0 t1 t2 t3
 clear hR
 go_wp2_with fail
 refine HD.out.mono ?_
 clear HD
 rintro e w20 ⟨rfl,h'⟩
 subst h'
 by_cases hd:dn=0
 case neg =>
  have d1:(dn != 0)=true:=by simpa using hd
  rw [if_pos hd] at HG
  clear hd
  go_wp2
  refine bodyPost_ret (qk Tryz.results65 _ _ (w.heap.size+1) 33 _ (0,0) _ rfl (yw (aX _ _ _ _ HR.out)) Tryz.underlying33 rfl (by kernel_rfl) _ rfl) rfl ?_
  refine ⟨u,HC.out,?_⟩
  rw [HG.out]
  exact y7 (me _ _ _ _ HB.out (by omega))
 subst hd
 rw [if_neg (by decide)] at HG
 have HMY:=Lh (wA au.thr bits au.ids pre ia ic W12 (HSA.out.carry (Nat.zero_le _) lz (fun _ _ _=>rfl)) HFN.out (by have:=HFB.out;omega) HFA.out)
 rw [show (⟨au.thr,au.ids⟩:AuthV)=au from rfl] at HMY
 obtain ⟨mb,hmb⟩:∃mb,mb=qI ⟨bits,pre,au⟩:=⟨_,rfl⟩
 rw [← hmb] at HMY HG
 clear hmb
 have e0:=HQ.out.cell (i:=0) (by decide)
 have f0:=HQ.out.frozen 0
 simp only [xy] at e0
 have e1:=HQ.out.cell (i:=1) (by decide)
 have f1:=HQ.out.frozen 1
 simp only [xy] at e1
 have e2:=HQ.out.cell (i:=2) (by decide)
 have f2:=HQ.out.frozen 2
 simp only [xy] at e2
 have e3:=HQ.out.cell (i:=3) (by decide)
 have f3:=HQ.out.frozen 3
 simp only [xy] at e3
 go_wp2_with fail
 refine HMY.out.mono ?_
 clear HMY e0 f0 e1 f1 e2 f2 e3 f3 t0 s0 t1 s1 t2 s2 t3 s3
 rintro e w21 ⟨rfl,hb'⟩
 replace HP:=Lh (HP.out.below hb')
 replace HR:=Lh (qj hb' HR.out HR.out.lt)
 replace HQ:=Lh (qj hb' HQ.out HQ.out.lt)
 replace HB:=Lh (HB.out.trans (hb'.mono HB.out.size))
 replace HZ:=Lh (Nat.le_trans HZ.out hb'.size)
 replace HSA:=Lh (HSA.out.below hb' lz lz hb'.size)
 clear hb'
 have hR:=HR.out
 have t0:=hR.cell (i:=0) (by decide);have t1:=hR.cell (i:=1) (by decide);have t2:=hR.cell (i:=2) (by decide);have t3:=hR.cell (i:=3) (by decide)
 have s0:=hR.frozen 0;have s1:=hR.frozen 1;have s2:=hR.frozen 2;have s3:=hR.frozen 3
 simp only [xy] at t0 t1 t2 t3
 have e0:=HQ.out.cell (i:=0) (by decide)
 have f0:=HQ.out.frozen 0
 simp only [xy] at e0
 have e1:=HQ.out.cell (i:=1) (by decide)
 have f1:=HQ.out.frozen 1
 simp only [xy] at e1
 have e2:=HQ.out.cell (i:=2) (by decide)
 have f2:=HQ.out.frozen 2
 simp only [xy] at e2
 have e3:=HQ.out.cell (i:=3) (by decide)
 have f3:=HQ.out.frozen 3
 simp only [xy] at e3
 clear hR
 cases mb with
 | false =>
  rw [if_neg (by decide)] at HG
  go_wp2
  refine bodyPost_ret (qk Tryz.results65 _ _ (w.heap.size+1) 33 _ (0,0) _ rfl (yw (aX _ _ _ _ HR.out)) Tryz.underlying33 rfl (by kernel_rfl) _ rfl) rfl ?_
  refine ⟨u,HC.out,?_⟩
  rw [HG.out]
  exact y7 (me _ _ _ _ HB.out (by omega))
 | true =>
  rw [if_pos rfl] at HG
  have HZB:=Lh (show w.heap.size+2≤W3.heap.size from by have:=HN.out;omega)
  go_wp2
  refine bodyPost_ret (qk Tryz.results65 _ _ (w.heap.size+1) 33 _ (0,0) _ rfl (yw (aX _ _ _ _ HR.out)) Tryz.underlying33 rfl (by kernel_rfl) _ rfl) rfl ?_
  refine ⟨u,HC.out,?_⟩
  rw [HG.out]
  have hc:=fun b (h1:W3.heap.size≤b) (h2:b<w21.heap.size)=>tf (W:=w21) (.int .i64 au.thr) (.slice ia au.ids.length ic) (.int .i64 bits) (.string pre) (show b≠w.heap.size+1 by have:=HZB.out;omega)
  exact ⟨ia,ic,rfl,HCA.out,HSA.out.carry (by have:=HZB.out;omega) (Nat.le_of_eq th.symm) hc,me _ _ _ _ HB.out (by omega)⟩
theorem uA (v:JV) (x:Value) (w:World) (lo:Nat) (hlo:0<lo) (hN:v.wt≤4294967296) (hR:Rep w lo w.heap.size v x) (hp:v.kind=5→qe v.names=true∧v.names.length=v.items.length) :
 Calls Tryz.prog 65 #[x] w (kU (zE v) w):=by
 refine (fZ (xL v) (st0 v) v x w (hR.carry (Nat.zero_le _) lz (fun _ _ _=>rfl)) (by unfold st0;split <;> simp) (fun w1 hb=>rR hN hlo hb.size (hR.below hb lz lz lz) hp)).mono ?_
 rintro e w' ⟨u,hu,h⟩
 unfold xL at hu
 unfold st0 at h
 by_cases hk:v.kind=5
 · rw [if_pos hk] at hu h
   subst hu
   rw [← ll hk];exact h
 · rw [if_neg hk] at hu h
   subst hu
   have:zE v=(xA,10):=by unfold zE;rw [if_pos hk]
   rw [this]
   rw [lQ] at h;exact h
end Go.Proofs.YthgembbgcbaghaaGreatDoor
