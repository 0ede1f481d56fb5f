/- Values that do not hang on a zero block: objects of members that do not. No program in sight. -/
import Derived.Test.YtnlgmcapbbgelaaGreatDoorRn16
import Derived.Test.YtnlgmcapbbgelaaGreatDoorRn03

namespace Go.Proofs.YtnlgmcapbbgelaaGreatDoor
open Go.RowKit Go.WideMaps Go.Maps
set_option maxHeartbeats 1000000 in
set_option maxRecDepth 100000 in
theorem objBad (o:Nat) (err:Int) (y:ByteArray) (most:Int) (w:World) (hb:PickBad o err w) (ho:o<w.heap.size) :
 Calls Tryz.prog 58 #[.pointer (some ⟨o,0,none⟩),.string y,.int .i64 most] w fun e w'=>e=.returned (.agg #[.int .u8 0,.int .i64 0,.string ⟨#[]⟩,.slice none 0 0,.slice none 0 0])∧Below w.heap.size w w':=by
 have HT:=Lh (show ∀(fv:Value) (W2:World),PickBad o err W2→o<W2.heap.size→Calls Tryz.prog 107 #[.pointer (some ⟨o,0,none⟩),.string y,fv] W2 (fun e w'=>e=.returned (.agg #[.int .u8 0,.int .i64 0,.string ⟨#[]⟩,.slice none 0 0,.slice none 0 0])∧Below W2.heap.size W2 w') from fun fv W2 hp hz=>by
  obtain ⟨W4,hW4⟩:∃W4,W4=(W2.alloc (.cells #[.int .u8 0,.int .i64 0,.string ⟨#[]⟩,.slice none 0 0,.slice none 0 0] 25)).alloc (.cells #[.int .u8 0,.int .i64 0,.string ⟨#[]⟩,.slice none 0 0,.slice none 0 0] 25):=⟨_,rfl⟩
  have hb4:Below W2.heap.size W2 W4:=by rw [hW4];exact ((Below.refl _ _).alloc lz _).alloc (by simp) _
  have hz1:(W2.alloc (.cells #[.int .u8 0,.int .i64 0,.string ⟨#[]⟩,.slice none 0 0,.slice none 0 0] 25)).heap.size=W2.heap.size+1:=by simp
  have hr0:W4.rowIs W2.heap.size 25 5 (pick5 (.int .u8 0) (.int .i64 0) (.string ⟨#[]⟩) (.slice none 0 0) (.slice none 0 0)):=by
   rw [hW4]
   exact below_row ((Below.refl _ _).alloc lz _) (rowIs_box5 W2 (.int .u8 0) (.int .i64 0) (.string ⟨#[]⟩) (.slice none 0 0) (.slice none 0 0) 25) (by simp)
  have hr1:W4.rowIs (W2.heap.size+1) 25 5 (pick5 (.int .u8 0) (.int .i64 0) (.string ⟨#[]⟩) (.slice none 0 0) (.slice none 0 0)):=by
   have:=rowIs_box5 (W2.alloc (.cells #[.int .u8 0,.int .i64 0,.string ⟨#[]⟩,.slice none 0 0,.slice none 0 0] 25)) (.int .u8 0) (.int .i64 0) (.string ⟨#[]⟩) (.slice none 0 0) (.slice none 0 0) 25
   rw [hz1,← hW4] at this
   exact this
  obtain ⟨he,c6,k,c0⟩:=hp.below hb4 hz
  have he':(err == 0)=false:=by simpa using he
  have he2:(err != 0)=true:=by simpa using he
  have HE:=Lh he
  have t0:=hr0.cell (i:=0) (by decide);have t1:=hr0.cell (i:=1) (by decide);have t2:=hr0.cell (i:=2) (by decide);have t3:=hr0.cell (i:=3) (by decide);have t4:=hr0.cell (i:=4) (by decide)
  have s0:=hr0.frozen 0;have s1:=hr0.frozen 1;have s2:=hr0.frozen 2;have s3:=hr0.frozen 3;have s4:=hr0.frozen 4
  have u0:=hr1.cell (i:=0) (by decide);have u1:=hr1.cell (i:=1) (by decide);have u2:=hr1.cell (i:=2) (by decide);have u3:=hr1.cell (i:=3) (by decide);have u4:=hr1.cell (i:=4) (by decide)
  simp only [pick5] at t0 t1 t2 t3 t4 u0 u1 u2 u3 u4
  have HR0:=Lh hr0
  have HB4:=Lh hb4
  have HW4:=Lh hW4
  clear he hW4 hb4 hr0 hr1 hz1
  go_enter Tryz.func107,Tryz.ntmps107
  go_upto_region 2 with fail
  rw [← HW4.out]
  go_wp2_with fail
  refine (pickErr o err k W4 c6 c0 (fun h=>absurd h HE.out)).mono ?_
  rintro r w' ⟨rfl,h'⟩
  subst h'
  go_wp2
  refine bodyPost_ret (results_cell_row Tryz.results107 _ _ W2.heap.size 25 _ (0,0) _ rfl (row5_heap (set5 _ _ _ _ _ HR0.out)) Tryz.underlying25 rfl (by kernel_rfl)) rfl ?_
  exact ⟨rfl,below5 _ _ _ _ _ HB4.out lz⟩)
 obtain ⟨W2,hW2⟩:∃W2,W2=(w.alloc (.cells #[.int .i64 most] 3)).alloc (.cells #[.int .u8 0,.int .i64 0,.string ⟨#[]⟩,.slice none 0 0,.slice none 0 0] 25):=⟨_,rfl⟩
 have hb2:Below w.heap.size w W2:=by rw [hW2];exact ((Below.refl _ _).alloc lz _).alloc (by simp) _
 have hz1:(w.alloc (.cells #[.int .i64 most] 3)).heap.size=w.heap.size+1:=by simp
 have hr1:W2.rowIs (w.heap.size+1) 25 5 (pick5 (.int .u8 0) (.int .i64 0) (.string ⟨#[]⟩) (.slice none 0 0) (.slice none 0 0)):=by
  have:=rowIs_box5 (w.alloc (.cells #[.int .i64 most] 3)) (.int .u8 0) (.int .i64 0) (.string ⟨#[]⟩) (.slice none 0 0) (.slice none 0 0) 25
  rw [hz1,← hW2] at this
  exact this
 have HT2:=Lh (fun fv=>HT.out fv W2 (hb.below hb2 ho) (Nat.lt_of_lt_of_le ho hb2.size))
 have HB2:=Lh hb2
 have HR1:=Lh hr1
 have HW2:=Lh hW2
 clear hW2 hb2 hr1 hz1 hb HT
 go_enter Tryz.func58,Tryz.ntmps58
 go_upto_region 1 with fail
 rw [← HW2.out]
 go_wp2_with fail
 refine (HT2.out _).mono ?_
 clear HT2
 rintro r w3 ⟨rfl,hb3⟩
 have hr3:=below_row hb3 HR1.out HR1.out.lt
 have HR3:=Lh hr3
 have HB3:=Lh (HB2.out.trans (hb3.mono HB2.out.size))
 have t0:=hr3.cell (i:=0) (by decide);have t1:=hr3.cell (i:=1) (by decide);have t2:=hr3.cell (i:=2) (by decide);have t3:=hr3.cell (i:=3) (by decide);have t4:=hr3.cell (i:=4) (by decide)
 have s0:=hr3.frozen 0;have s1:=hr3.frozen 1;have s2:=hr3.frozen 2;have s3:=hr3.frozen 3;have s4:=hr3.frozen 4
 simp only [pick5] at t0 t1 t2 t3 t4
 clear hr3 hb3
 go_wp2
 refine bodyPost_ret (results_cell_row Tryz.results58 _ _ (w.heap.size+1) 25 _ (0,0) _ rfl (row5_heap (set5 _ _ _ _ _ HR3.out)) Tryz.underlying25 rfl (by kernel_rfl)) rfl ?_
 exact ⟨rfl,below5 _ _ _ _ _ HB3.out (by omega)⟩
end Go.Proofs.YtnlgmcapbbgelaaGreatDoor

namespace Go.Proofs.YtnlgmcapbbgelaaGreatDoor
open Go.RowKit
def FailPost (o m lo hi:Nat) (v:JV) (an ai:Option Addr) (cn ci:Nat) (st:PS) (w:World) (r:Ending) (w':World):Prop:=r=.returned (.tuple #[])∧PickAt o m lo hi v an ai cn ci st w'∧Touch (fun b=>b=o∨b=m) w w'
set_option maxHeartbeats 1000000 in
theorem pickFailG (o m lo hi:Nat) (v:JV) (an ai:Option Addr) (cn ci:Nat) (e:Int) (st:PS) (w:World) (hP:PickAt o m lo hi v an ai cn ci st w) :
 Calls Tryz.prog 54 #[.pointer (some ⟨o,0,none⟩),.int .i64 e] w (FailPost o m lo hi v an ai cn ci (st.fail e) w):=by
 have c6:w.cell? ⟨o,6,none⟩=some (.int .i64 st.err):=box_cell hP.obj rfl
 have c0:w.cell? ⟨o,0,none⟩=some (.int .u8 5):=(box_cell (j:=0) hP.obj rfl).trans (by rw [hP.kind];rfl)
 have d7:w.frozen? ⟨o,6,none⟩=false:=by simp [World.frozen?,hP.obj]
 by_cases he:st.err=0
 · rw [he] at c6
   refine (pickFail o e w c6 c0 d7).mono ?_
   rintro r w' ⟨rfl,rfl⟩
   refine ⟨rfl,?_,(Touch.refl _ _).setCell (.inl (.inl rfl)) _⟩
   unfold PS.fail
   rw [if_pos he]
   exact hP.fail e
 · have he':(st.err == 0)=false:=by simpa using he
   have HX:=Lh (show st.fail e=st by unfold PS.fail;rw [if_neg he])
   have HP:=Lh hP
   have HE:=Lh (pickErr o st.err 5 w c6 c0 (fun h=>by simp [h] at he'))
   clear hP he c6 c0 d7
   go_enter Tryz.func54,Tryz.ntmps54
   go_wp2_with fail
   refine HE.out.mono ?_
   rintro r w' ⟨rfl,h'⟩
   subst w'
   go_wp2
   go_end0
   exact ⟨rfl,by rw [HX.out];exact HP.out,Touch.refl _ _⟩
theorem may_obj {v:JV} (h:v.mayB=true) (hk:v.kind=5):rises v.names=true∧v.names.length=v.items.length∧v.names.all txtOk=true:=by
 unfold JV.mayB at h
 rw [JV.may_eq] at h
 split at h
 · cases h
 split at h
 · cases h
 next h2 =>
 rcases proper_kind (by simpa using h2) with ⟨e,_⟩|⟨e,_⟩|⟨e,_⟩|e|⟨_,e1,e2,e3⟩ <;> first|omega|exact ⟨e2,e1,e3⟩
theorem text_size {v:JV} {y:ByteArray} {st:PS} (hv:v.wt≤4294967296):(pickText v y st).1.size≤4294967296∧(pickText v y st).2.asked.length≤st.asked.length+1:=by
 unfold pickText
 split
 · exact ⟨by show 0≤_;omega,by simp⟩
 split
 · exact ⟨by show 0≤_;omega,by simp⟩
 · next it hit =>
   split
   · refine ⟨?_,by simp⟩
     have:∀(ns:List ByteArray) (xs:List JV),lookL ns xs y=some it→it.wt≤JV.wts xs:=by
      intro ns
      induction ns with
      | nil=>intro xs h;simp [lookL] at h
      | cons n ns ih =>
       intro xs h
       cases xs with
       | nil=>simp [lookL] at h
       | cons x xs =>
        rw [lookL] at h
        split at h
        · cases h;simp [JV.wts]
        · have:=ih xs h;simp [JV.wts];omega
     have h1:=this _ _ hit
     have h2:=it.wt_bd
     have h3:=v.wt_bd
     show it.t.size≤_
     omega
   · exact ⟨by show 0≤_;omega,by simp⟩
end Go.Proofs.YtnlgmcapbbgelaaGreatDoor

namespace Go.Proofs.YtnlgmcapbbgelaaGreatDoor
open Go.RowKit Go.WideMaps Go.Maps
theorem PickAt.touch {o m lo hi g:Nat} {v:JV} {an ai:Option Addr} {cn ci:Nat} {st:PS} {w w':World} (h:PickAt o m lo hi v an ai cn ci st w) (hT:Touch (fun b=>b=g) w w') (ho:g≠o) (hm:g≠m) (hh:hi≤g):PickAt o m lo hi v an ai cn ci st w':=by
 have hlo:o<w.heap.size:=heap_lt h.obj
 refine ⟨by rw [hT.block o hlo (fun e=>ho e.symm)];exact h.obj,?_,?_,h.pos,h.out,Nat.le_trans h.le hT.size,h.kind,h.rise,h.len,h.wt⟩
 · obtain ⟨D,n,h1,h2,h3⟩:=h.map
   exact ⟨D,n,h1.kept (row:=some g) ⟨hT.os,hT.tape,hT.output,hT.size,fun k hk hn=>hT.block k hk (fun e=>hn (by rw [e]))⟩ (fun e=>hm (Option.some.inj e).symm),h2,h3⟩
 · exact Rep.carry lz lz (fun k _ hk=>hT.block k (Nat.lt_of_lt_of_le hk h.le) (by omega)) _ _ h.rep
theorem touch_put {w:World} {g j:Nat} (u:Value):Touch (fun b=>b=g) w (w.setCell ⟨g,j,none⟩ u):=Touch.setCell (S:=fun b=>b=g) (p:=⟨g,j,none⟩) (Touch.refl _ _) (.inl rfl) u
theorem num_size {v:JV} {y:ByteArray} {l h:Int} {st:PS}:(pickNum v y l h st).2.asked.length≤st.asked.length+1:=by
 unfold pickNum
 split
 · simp
 split
 · simp
 split
 · simp
 split <;> simp
theorem PickBad.touch {o p:Nat} {err:Int} {w w':World} (h:PickBad o err w) (ht:Touch (fun b=>b=p) w w') (ho:o<w.heap.size) (hne:o≠p):PickBad o err w':=by
 obtain ⟨h1,h2,k,h3⟩:=h
 exact ⟨h1,by rw [ht.cell (p:=⟨o,6,none⟩) ho hne];exact h2,k,by rw [ht.cell (p:=⟨o,0,none⟩) ho hne];exact h3⟩
theorem fail_len {st:PS} {e:Int}:(st.fail e).asked=st.asked:=by unfold PS.fail;split <;> rfl
theorem text_len {v:JV} {y:ByteArray} {st:PS}:(pickText v y st).2.asked.length≤st.asked.length+1:=by
 unfold pickText
 split
 · simp
 split
 · simp
 · split <;> simp
end Go.Proofs.YtnlgmcapbbgelaaGreatDoor

namespace Go.Proofs.YtnlgmcapbbgelaaGreatDoor
open Go.RowKit Go.Shelf Go.Sort
def flatM (ms:List Mem):List Value:=ms.flatMap encM
theorem flatM_get (ms:List Mem) (i c:Nat) (hi:i<ms.length) (hc:c<6):(flatM ms)[i * 6+c]?=some ((encM ms[i])[c]'(by rw [encM_len];exact hc)):=by
 induction ms generalizing i with
 | nil=>simp at hi
 | cons v r ih =>
  unfold flatM
  rw [List.flatMap_cons]
  rcases i with _|i
  · rw [List.getElem?_append_left (by rw [encM_len];omega)]
    simp
  · rw [List.getElem?_append_right (by rw [encM_len];omega),encM_len]
    have:=ih i (by simpa using hi)
    rw [show (i+1) * 6+c - 6=i * 6+c by omega]
    simpa [flatM] using this
structure MemsAt (W0:Nat) (w:World) (v:Value) (ms:List Mem) (its:List JV):Prop where
 own:w.ownsRow W0 98 6 v ms.length (flatM ms)
 len:its.length=ms.length
 reps:∀i (h:i<its.length),∃lo hi,W0≤lo∧hi≤w.heap.size∧(∀b,v.ownBlock=some b→¬(lo≤b∧b<hi))∧Rep w lo hi its[i] (ms[i]'(by omega)).val
theorem MemsAt.below {W0:Nat} {w w':World} {v:Value} {ms:List Mem} {its:List JV} (h:MemsAt W0 w v ms its) (hb:Below w.heap.size w w'):MemsAt W0 w' v ms its :=
 ⟨owns_below h.own hb,h.len,fun i hi=>by
  obtain ⟨lo,hi',h1,h2,h3,hr⟩:=h.reps i hi
  exact ⟨lo,hi',h1,Nat.le_trans h2 hb.size,h3,Rep.carry lz lz (fun b _ h=>hb.block b (by omega)) _ _ hr⟩⟩
theorem MemsAt.nil (W0:Nat) (w:World):MemsAt W0 w (.slice none 0 0) [] []:=⟨World.ownsRow_nil _ _ _ _,rfl,fun i h=>by simp at h⟩
theorem MemsAt.snoc {W0:Nat} {w w':World} {v v':Value} {ms:List Mem} {its:List JV} (h:MemsAt W0 w v ms its) (m:Mem) (it:JV) (lo hi:Nat) (h1:W0≤lo) (h2:hi≤w.heap.size) (h3:∀b,v.ownBlock=some b→¬(lo≤b∧b<hi)) (hr:Rep w lo hi it m.val)
 (hg:w.grownBy w' v.ownBlock) (hown:w'.ownsRow W0 98 6 v' (ms.length+1) (flatM ms ++ encM m)) (hat:v'.ownBlock=v.ownBlock∨∃g,v'.ownBlock=some g∧w.heap.size≤g):MemsAt W0 w' v' (ms ++ [m]) (its ++ [it]):=by
 have hx:∀ {lo hi:Nat},hi≤w.heap.size→(∀b,v.ownBlock=some b→¬(lo≤b∧b<hi))→∀b,v'.ownBlock=some b→¬(lo≤b∧b<hi):=fun hz hn b hb=>by
  rcases hat with e|⟨g,e,hge⟩
  · exact hn b (by rw [← e];exact hb)
  · rw [e] at hb;simp at hb;omega
 have hc:∀ {lo hi:Nat} {it:JV} {x:Value},hi≤w.heap.size→(∀b,v.ownBlock=some b→¬(lo≤b∧b<hi))→Rep w lo hi it x→Rep w' lo hi it x:=fun hz hn hr =>
  Rep.carry lz lz (fun b hb1 hb2=>hg.block b (by omega) (fun e=>hn b e.symm ⟨hb1,hb2⟩)) _ _ hr
 have hl:=h.len
 refine ⟨?_,by simp [hl],fun i hi'=>?_⟩
 · have e:flatM (ms ++ [m])=flatM ms ++ encM m:=by simp [flatM]
   rw [e,List.length_append];exact hown
 · by_cases e:i<its.length
   · obtain ⟨lo',hi'',k1,k2,k3,hr'⟩:=h.reps i e
     refine ⟨lo',hi'',k1,Nat.le_trans k2 hg.size,hx k2 k3,?_⟩
     rw [List.getElem_append_left e,List.getElem_append_left (by omega)]
     exact hc k2 k3 hr'
   · obtain rfl:i=its.length:=by simp at hi';omega
     refine ⟨lo,hi,h1,Nat.le_trans h2 hg.size,hx h2 h3,?_⟩
     rw [List.getElem_append_right (by omega),List.getElem_append_right (by omega)]
     simpa using hc h2 h3 hr
theorem holds_own {W0:Nat} {w:World} {v:Value} {ms:List Mem} (ho:w.ownsRow W0 98 6 v ms.length (flatM ms)) (h0:0<ms.length):∃g cap,v=.slice (some ⟨g,0,none⟩) ms.length cap∧g<w.heap.size∧HoldsK encM 6 w g 0 ms.toArray:=by
 rcases ho.2 with ⟨rfl,h00⟩|⟨g,cap,cur,rfl,hg,hh,hc,hm,hs,ht⟩
 · omega
 · refine ⟨g,cap,rfl,heap_lt hh,fun j hj=>⟨?_,by simp [World.frozen?,hh]⟩⟩
   have hj2:j<ms.length * 6:=by simpa using hj
   have e:(⟨g,0,none⟩:Addr).add j=⟨g,j,none⟩:=by unfold Addr.add;split <;> simp_all
   have hf:=flatM_get ms (j / 6) (j % 6) (by omega) (by omega)
   rw [show j / 6 * 6+j % 6=j by omega] at hf
   have:=ho.cells (g:=g) rfl j _ hf
   rw [e] at this
   rw [Nat.zero_add,this,get_flatK encM 6 ms.toArray j (by simpa using hj2)]
   have h6:j % 6<(encM (ms[j / 6]'(by omega))).length:=by rw [encM_len];omega
   have h7:ms.toArray[j / 6]! = ms[j / 6]'(by omega):=by rw [getElem!_pos _ _ (by simp;omega)];simp
   rw [h7,getElem!_pos (encM (ms[j / 6]'(by omega))) (j % 6) h6]
   rfl
theorem MemsAt.holds {W0:Nat} {w:World} {v:Value} {ms:List Mem} {its:List JV} (h:MemsAt W0 w v ms its) (h0:0<ms.length):∃g cap,v=.slice (some ⟨g,0,none⟩) ms.length cap∧g<w.heap.size∧HoldsK encM 6 w g 0 ms.toArray:=holds_own h.own h0
theorem rep_num (w:World) (lo hi:Nat) (n:Int):Rep w lo hi (numJ n) (.agg #[.int .u8 2,.int .i64 n,.string ⟨#[]⟩,.slice none 0 0,.slice none 0 0]):=by
 unfold numJ Rep
 exact ⟨none,0,none,0,rfl,Nat.le_refl _,Nat.le_refl _,.inl rfl,.inl rfl⟩
def memN (nm:ByteArray) (n:Int):Mem:=⟨nm,2,n,⟨#[]⟩,none,0,0,none,0,0⟩
end Go.Proofs.YtnlgmcapbbgelaaGreatDoor

namespace Go.Proofs.YtnlgmcapbbgelaaGreatDoor
open Go.RowKit
theorem lookL_wt:∀ {ns:List ByteArray} {xs:List JV} {y:ByteArray} {x:JV},lookL ns xs y=some x→x.wt≤JV.wts xs
 | n :: ns,z :: xs,y,x,h=>by
  rw [lookL] at h
  simp only [JV.wts]
  split at h
  · injection h with h;subst h;omega
  · have:=lookL_wt h;omega
theorem pickObj_wt {v:JV} {y:ByteArray} {most:Nat} {st:PS} (h:v.wt≤4294967296):(pickObj v y most st).1.wt≤4294967296:=by
 have hz:zeroJ.wt≤4294967296:=by decide
 have h2:=v.wt_bd
 unfold pickObj
 split
 · exact hz
 · split
   · exact hz
   · rename_i it hit
     have:=lookL_wt (show lookL v.names v.items y=some it from hit)
     split
     · exact hz
     · split
       · exact hz
       · show it.wt≤_;omega
theorem numJ_solid (n:Int):(numJ n).solid=true:=by unfold numJ JV.solid;simp [JV.solids]
theorem txtJ_solid (t:ByteArray):(txtJ t).solid=true:=by unfold txtJ JV.solid;simp [JV.solids]
theorem solids_all:∀l:List JV,(∀x ∈ l,x.solid=true)→JV.solids l=true
 | [],_=>rfl
 | x :: r,h=>by rw [JV.solids,h x (List.mem_cons_self ..),solids_all r fun y hy=>h y (List.mem_cons_of_mem _ hy)];rfl
theorem objJ_solid {N:List NJ} (h:∀p ∈ N,p.1≠⟨#[]⟩∧p.2.solid=true):(objJ N).solid=true:=by
 unfold objJ JV.solid
 have h1:(N.map (·.1)).all (fun n=>decide (n≠⟨#[]⟩))=true:=by
  rw [List.all_eq_true]
  intro x hx
  obtain ⟨p,hp,rfl⟩:=List.mem_map.1 hx
  simpa using (h p hp).1
 rw [h1,solids_all _ fun x hx=>by obtain ⟨p,hp,rfl⟩:=List.mem_map.1 hx;exact (h p hp).2]
 rfl
end Go.Proofs.YtnlgmcapbbgelaaGreatDoor
