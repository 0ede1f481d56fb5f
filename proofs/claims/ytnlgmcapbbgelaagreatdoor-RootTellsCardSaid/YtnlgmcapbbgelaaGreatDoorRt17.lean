/- The contract of legateref08.Same: equal in all parts. -/
import Derived.Test.YtnlgmcapbbgelaaGreatDoorRt16
import Derived.StillTailTactics

namespace Go.Proofs.YtnlgmcapbbgelaaGreatDoor
open Go.RowKit Go.WideMaps Go.Maps
set_option maxHeartbeats 1000000 in
set_option maxRecDepth 100000 in
theorem iK (o:Nat) (err:Int) (y:ByteArray) (most:Int) (w:World) (hb:xe o err w) (ho:o<w.heap.size) :
 Calls Tryz.prog 58 #[.pointer (some ⟨o,0,none⟩),.string y,.int .i64 most] w fun e w'=>e=.returned (.agg #[.int .u8 0,.int .i64 0,.string ⟨#[]⟩,.slice none 0 0,.slice none 0 0])∧Below w.heap.size w w':=by
 have HT:=Lh (show ∀(fv:Value) (W2:World),xe o err W2→o<W2.heap.size→Calls Tryz.prog 107 #[.pointer (some ⟨o,0,none⟩),.string y,fv] W2 (fun e w'=>e=.returned (.agg #[.int .u8 0,.int .i64 0,.string ⟨#[]⟩,.slice none 0 0,.slice none 0 0])∧Below W2.heap.size W2 w') from fun fv W2 hp hz=>by
  obtain ⟨W4,hW4⟩:∃W4,W4=(W2.alloc (.cells #[.int .u8 0,.int .i64 0,.string ⟨#[]⟩,.slice none 0 0,.slice none 0 0] 25)).alloc (.cells #[.int .u8 0,.int .i64 0,.string ⟨#[]⟩,.slice none 0 0,.slice none 0 0] 25):=⟨_,rfl⟩
  have hb4:Below W2.heap.size W2 W4:=by rw [hW4];exact ((Below.refl _ _).alloc lz _).alloc (by simp) _
  have hz1:(W2.alloc (.cells #[.int .u8 0,.int .i64 0,.string ⟨#[]⟩,.slice none 0 0,.slice none 0 0] 25)).heap.size=W2.heap.size+1:=by simp
  have hr0:W4.rowIs W2.heap.size 25 5 (qs (.int .u8 0) (.int .i64 0) (.string ⟨#[]⟩) (.slice none 0 0) (.slice none 0 0)):=by
   rw [hW4]
   exact qx ((Below.refl _ _).alloc lz _) (qf W2 (.int .u8 0) (.int .i64 0) (.string ⟨#[]⟩) (.slice none 0 0) (.slice none 0 0) 25) (by simp)
  have hr1:W4.rowIs (W2.heap.size+1) 25 5 (qs (.int .u8 0) (.int .i64 0) (.string ⟨#[]⟩) (.slice none 0 0) (.slice none 0 0)):=by
   have:=qf (W2.alloc (.cells #[.int .u8 0,.int .i64 0,.string ⟨#[]⟩,.slice none 0 0,.slice none 0 0] 25)) (.int .u8 0) (.int .i64 0) (.string ⟨#[]⟩) (.slice none 0 0) (.slice none 0 0) 25
   rw [hz1,← hW4] at this
   exact this
  obtain ⟨he,c6,k,c0⟩:=hp.below hb4 hz
  have he':(err == 0)=false:=by simpa using he
  have he2:(err != 0)=true:=by simpa using he
  have HE:=Lh he
  obtain ⟨t0,t1,t2,t3,t4⟩:=rc5 hr0
  obtain ⟨s0,s1,s2,s3,s4⟩:=rf5 hr0
  obtain ⟨u0,u1,u2,u3,u4⟩:=rc5 hr1
  simp only [qs] at t0 t1 t2 t3 t4 u0 u1 u2 u3 u4
  have HR0:=Lh hr0
  have HB4:=Lh hb4
  have HW4:=Lh hW4
  clear he hW4 hb4 hr0 hr1 hz1
  go_enter Tryz.func107,Tryz.ntmps107
  go_upto_region 2 with fail
  rw [← HW4.out]
  go_wp2_with fail
  refine (zZ o err k W4 c6 c0 (fun h=>absurd h HE.out)).mono ?_
  rintro r w' ⟨rfl,h'⟩
  subst h'
  go_wp2
  refine bodyPost_ret (results_cell_row Tryz.results107 _ _ W2.heap.size 25 _ (0,0) _ rfl (qm (set5 _ _ _ _ _ HR0.out)) Tryz.underlying25 rfl (by kernel_rfl)) rfl ?_
  exact ⟨rfl,qT _ _ _ _ _ HB4.out lz⟩)
 obtain ⟨W2,hW2⟩:∃W2,W2=(w.alloc (.cells #[.int .i64 most] 3)).alloc (.cells #[.int .u8 0,.int .i64 0,.string ⟨#[]⟩,.slice none 0 0,.slice none 0 0] 25):=⟨_,rfl⟩
 have hb2:Below w.heap.size w W2:=by rw [hW2];exact ((Below.refl _ _).alloc lz _).alloc (by simp) _
 have hz1:(w.alloc (.cells #[.int .i64 most] 3)).heap.size=w.heap.size+1:=by simp
 have hr1:W2.rowIs (w.heap.size+1) 25 5 (qs (.int .u8 0) (.int .i64 0) (.string ⟨#[]⟩) (.slice none 0 0) (.slice none 0 0)):=by
  have:=qf (w.alloc (.cells #[.int .i64 most] 3)) (.int .u8 0) (.int .i64 0) (.string ⟨#[]⟩) (.slice none 0 0) (.slice none 0 0) 25
  rw [hz1,← hW2] at this
  exact this
 have HT2:=Lh (fun fv=>HT.out fv W2 (hb.below hb2 ho) (Nat.lt_of_lt_of_le ho hb2.size))
 have HB2:=Lh hb2
 have HR1:=Lh hr1
 have HW2:=Lh hW2
 clear hW2 hb2 hr1 hz1 hb HT
 go_enter Tryz.func58,Tryz.ntmps58
 go_upto_region 1 with fail
 rw [← HW2.out]
 go_wp2_with fail
 refine (HT2.out _).mono ?_
 clear HT2
 rintro r w3 ⟨rfl,hb3⟩
 have hr3:=qx hb3 HR1.out HR1.out.lt
 have HR3:=Lh hr3
 have HB3:=Lh (HB2.out.trans (hb3.mono HB2.out.size))
 obtain ⟨t0,t1,t2,t3,t4⟩:=rc5 hr3
 obtain ⟨s0,s1,s2,s3,s4⟩:=rf5 hr3
 simp only [qs] at t0 t1 t2 t3 t4
 clear hr3 hb3
 go_wp2
 refine bodyPost_ret (results_cell_row Tryz.results58 _ _ (w.heap.size+1) 25 _ (0,0) _ rfl (qm (set5 _ _ _ _ _ HR3.out)) Tryz.underlying25 rfl (by kernel_rfl)) rfl ?_
 exact ⟨rfl,qT _ _ _ _ _ HB3.out (by omega)⟩
end Go.Proofs.YtnlgmcapbbgelaaGreatDoor

namespace Go.Proofs.YtnlgmcapbbgelaaGreatDoor
open Go.RowKit
def sm (o m lo hi:Nat) (v:JV) (an ai:Option Addr) (cn ci:Nat) (st:PS) (w:World) (r:Ending) (w':World):Prop:=r=.returned (.tuple #[])∧PickAt o m lo hi v an ai cn ci st w'∧Touch (fun b=>b=o∨b=m) w w'
set_option maxHeartbeats 1000000 in
theorem rZ (o m lo hi:Nat) (v:JV) (an ai:Option Addr) (cn ci:Nat) (e:Int) (st:PS) (w:World) (hP:PickAt o m lo hi v an ai cn ci st w) :
 Calls Tryz.prog 54 #[.pointer (some ⟨o,0,none⟩),.int .i64 e] w (sm o m lo hi v an ai cn ci (st.fail e) w):=by
 have c6:w.cell? ⟨o,6,none⟩=some (.int .i64 st.err):=qq hP.obj rfl
 have c0:w.cell? ⟨o,0,none⟩=some (.int .u8 5):=(qq (j:=0) hP.obj rfl).trans (by rw [hP.kind];rfl)
 have d7:w.frozen? ⟨o,6,none⟩=false:=by simp [World.frozen?,hP.obj]
 by_cases he:st.err=0
 · rw [he] at c6
   refine (jf o e w c6 c0 d7).mono ?_
   rintro r w' ⟨rfl,rfl⟩
   refine ⟨rfl,?_,(Touch.refl _ _).setCell (.inl (.inl rfl)) _⟩
   unfold PS.fail
   rw [if_pos he]
   exact hP.fail e
 · have he':(st.err == 0)=false:=by simpa using he
   have HX:=Lh (show st.fail e=st by unfold PS.fail;rw [if_neg he])
   have HP:=Lh hP
   have HE:=Lh (zZ o st.err 5 w c6 c0 (fun h=>by simp [h] at he'))
   clear hP he c6 c0 d7
   go_enter Tryz.func54,Tryz.ntmps54
   go_wp2_with fail
   refine HE.out.mono ?_
   rintro r w' ⟨rfl,h'⟩
   subst w'
   go_wp2
   go_end0
   exact ⟨rfl,by rw [HX.out];exact HP.out,Touch.refl _ _⟩
theorem lX {v:JV} (h:v.mayB=true) (hk:v.kind=5):qr v.names=true∧v.names.length=v.items.length∧v.names.all qW=true:=by
 unfold JV.mayB at h
 rw [JV.may_eq] at h
 split at h
 · cases h
 split at h
 · cases h
 next h2 =>
 rcases gZ (by simpa using h2) with ⟨e,_⟩|⟨e,_⟩|⟨e,_⟩|e|⟨_,e1,e2,e3⟩ <;> first|omega|exact ⟨e2,e1,e3⟩
theorem fH {v:JV} {y:ByteArray} {st:PS} (hv:v.wt≤4294967296):(qy v y st).1.size≤4294967296∧(qy v y st).2.asked.length≤st.asked.length+1:=by
 unfold qy
 split
 · exact ⟨by show 0≤_;omega,by simp⟩
 split
 · exact ⟨by show 0≤_;omega,by simp⟩
 · next it hit =>
   split
   · refine ⟨?_,by simp⟩
     have:∀(ns:List ByteArray) (xs:List JV),zX ns xs y=some it→it.wt≤JV.wts xs:=by
      intro ns
      induction ns with
      | nil=>intro xs h;simp [zX] at h
      | cons n ns ih =>
       intro xs h
       cases xs with
       | nil=>simp [zX] at h
       | cons x xs =>
        rw [zX] at h
        split at h
        · cases h;simp [JV.wts]
        · have:=ih xs h;simp [JV.wts];omega
     have h1:=this _ _ hit
     have h2:=it.wt_bd
     have h3:=v.wt_bd
     show it.t.size≤_
     omega
   · exact ⟨by show 0≤_;omega,by simp⟩
end Go.Proofs.YtnlgmcapbbgelaaGreatDoor

namespace Go.Proofs.YtnlgmcapbbgelaaGreatDoor
open Go.RowKit Go.WideMaps Go.Maps
theorem PickAt.touch {o m lo hi g:Nat} {v:JV} {an ai:Option Addr} {cn ci:Nat} {st:PS} {w w':World} (h:PickAt o m lo hi v an ai cn ci st w) (hT:Touch (fun b=>b=g) w w') (ho:g≠o) (hm:g≠m) (hh:hi≤g):PickAt o m lo hi v an ai cn ci st w':=by
 have hlo:o<w.heap.size:=qz h.obj
 refine ⟨by rw [hT.block o hlo (fun e=>ho e.symm)];exact h.obj,?_,?_,h.pos,h.out,Nat.le_trans h.le hT.size,h.kind,h.rise,h.len,h.wt⟩
 · obtain ⟨D,n,h1,h2,h3⟩:=h.map
   exact ⟨D,n,h1.kept (row:=some g) ⟨hT.os,hT.tape,hT.output,hT.size,fun k hk hn=>hT.block k hk (fun e=>hn (by rw [e]))⟩ (fun e=>hm (Option.some.inj e).symm),h2,h3⟩
 · exact Rep.carry lz lz (fun k _ hk=>hT.block k (Nat.lt_of_lt_of_le hk h.le) (by omega)) _ _ h.rep
theorem qJ {w:World} {g j:Nat} (u:Value):Touch (fun b=>b=g) w (w.setCell ⟨g,j,none⟩ u):=Touch.setCell (S:=fun b=>b=g) (p:=⟨g,j,none⟩) (Touch.refl _ _) (.inl rfl) u
theorem sc {v:JV} {y:ByteArray} {l h:Int} {st:PS}:(qD v y l h st).2.asked.length≤st.asked.length+1:=by
 unfold qD
 split
 · simp
 split
 · simp
 split
 · simp
 split <;> simp
theorem xe.touch {o p:Nat} {err:Int} {w w':World} (h:xe o err w) (ht:Touch (fun b=>b=p) w w') (ho:o<w.heap.size) (hne:o≠p):xe o err w':=by
 obtain ⟨h1,h2,k,h3⟩:=h
 exact ⟨h1,by rw [ht.cell (p:=⟨o,6,none⟩) ho hne];exact h2,k,by rw [ht.cell (p:=⟨o,0,none⟩) ho hne];exact h3⟩
theorem j8 {st:PS} {e:Int}:(st.fail e).asked=st.asked:=by unfold PS.fail;split <;> rfl
theorem mA {v:JV} {y:ByteArray} {st:PS}:(qy v y st).2.asked.length≤st.asked.length+1:=by
 unfold qy
 split
 · simp
 split
 · simp
 · split <;> simp
end Go.Proofs.YtnlgmcapbbgelaaGreatDoor

namespace Go.Proofs.YtnlgmcapbbgelaaGreatDoor
open Go.RowKit Go.Shelf Go.Sort
def xN (ms:List Mem):List Value:=ms.flatMap qY
theorem yS (ms:List Mem):(xN ms).length=ms.length * 6:=by
 unfold xN
 induction ms with
 | nil=>rfl
 | cons v r ih=>rw [List.flatMap_cons,List.length_append,ih];show 6+r.length * 6=(r.length+1) * 6;omega
theorem fU (ms:List Mem) (i c:Nat) (hi:i<ms.length) (hc:c<6):(xN ms)[i * 6+c]?=some ((qY ms[i])[c]'(by rw [ze];exact hc)):=by
 induction ms generalizing i with
 | nil=>simp at hi
 | cons v r ih =>
  unfold xN
  rw [List.flatMap_cons]
  rcases i with _|i
  · rw [List.getElem?_append_left (by rw [ze];omega)]
    simp
  · rw [List.getElem?_append_right (by rw [ze];omega),ze]
    have:=ih i (by simpa using hi)
    rw [show (i+1) * 6+c - 6=i * 6+c by omega]
    simpa [xN] using this
structure MemsAt (W0:Nat) (w:World) (v:Value) (ms:List Mem) (its:List JV):Prop where
 own:w.ownsRow W0 98 6 v ms.length (xN ms)
 len:its.length=ms.length
 reps:∀i (h:i<its.length),∃lo hi,W0≤lo∧hi≤w.heap.size∧(∀b,v.ownBlock=some b→¬(lo≤b∧b<hi))∧Rep w lo hi its[i] (ms[i]'(by omega)).val
theorem MemsAt.below {W0:Nat} {w w':World} {v:Value} {ms:List Mem} {its:List JV} (h:MemsAt W0 w v ms its) (hb:Below w.heap.size w w'):MemsAt W0 w' v ms its :=
 ⟨qX h.own hb,h.len,fun i hi=>by
  obtain ⟨lo,hi',h1,h2,h3,hr⟩:=h.reps i hi
  exact ⟨lo,hi',h1,Nat.le_trans h2 hb.size,h3,Rep.carry lz lz (fun b _ h=>hb.block b (by omega)) _ _ hr⟩⟩
theorem MemsAt.nil (W0:Nat) (w:World):MemsAt W0 w (.slice none 0 0) [] []:=⟨World.ownsRow_nil _ _ _ _,rfl,fun i h=>by simp at h⟩
theorem MemsAt.snoc {W0:Nat} {w w':World} {v v':Value} {ms:List Mem} {its:List JV} (h:MemsAt W0 w v ms its) (m:Mem) (it:JV) (lo hi:Nat) (h1:W0≤lo) (h2:hi≤w.heap.size) (h3:∀b,v.ownBlock=some b→¬(lo≤b∧b<hi)) (hr:Rep w lo hi it m.val)
 (hg:w.grownBy w' v.ownBlock) (hown:w'.ownsRow W0 98 6 v' (ms.length+1) (xN ms ++ qY m)) (hat:v'.ownBlock=v.ownBlock∨∃g,v'.ownBlock=some g∧w.heap.size≤g):MemsAt W0 w' v' (ms ++ [m]) (its ++ [it]):=by
 have hx:∀ {lo hi:Nat},hi≤w.heap.size→(∀b,v.ownBlock=some b→¬(lo≤b∧b<hi))→∀b,v'.ownBlock=some b→¬(lo≤b∧b<hi):=fun hz hn b hb=>by
  rcases hat with e|⟨g,e,hge⟩
  · exact hn b (by rw [← e];exact hb)
  · rw [e] at hb;simp at hb;omega
 have hc:∀ {lo hi:Nat} {it:JV} {x:Value},hi≤w.heap.size→(∀b,v.ownBlock=some b→¬(lo≤b∧b<hi))→Rep w lo hi it x→Rep w' lo hi it x:=fun hz hn hr =>
  Rep.carry lz lz (fun b hb1 hb2=>hg.block b (by omega) (fun e=>hn b e.symm ⟨hb1,hb2⟩)) _ _ hr
 have hl:=h.len
 refine ⟨?_,by simp [hl],fun i hi'=>?_⟩
 · have e:xN (ms ++ [m])=xN ms ++ qY m:=by simp [xN]
   rw [e,List.length_append];exact hown
 · by_cases e:i<its.length
   · obtain ⟨lo',hi'',k1,k2,k3,hr'⟩:=h.reps i e
     refine ⟨lo',hi'',k1,Nat.le_trans k2 hg.size,hx k2 k3,?_⟩
     rw [List.getElem_append_left e,List.getElem_append_left (by omega)]
     exact hc k2 k3 hr'
   · obtain rfl:i=its.length:=by simp at hi';omega
     refine ⟨lo,hi,h1,Nat.le_trans h2 hg.size,hx h2 h3,?_⟩
     rw [List.getElem_append_right (by omega),List.getElem_append_right (by omega)]
     simpa using hc h2 h3 hr
theorem fM {W0:Nat} {w:World} {v:Value} {ms:List Mem} (ho:w.ownsRow W0 98 6 v ms.length (xN ms)) (h0:0<ms.length):∃g cap,v=.slice (some ⟨g,0,none⟩) ms.length cap∧g<w.heap.size∧HoldsK qY 6 w g 0 ms.toArray:=by
 rcases ho.2 with ⟨rfl,h00⟩|⟨g,cap,cur,rfl,hg,hh,hc,hm,hs,ht⟩
 · omega
 · refine ⟨g,cap,rfl,qz hh,fun j hj=>⟨?_,by simp [World.frozen?,hh]⟩⟩
   have hj2:j<ms.length * 6:=by simpa using hj
   have e:(⟨g,0,none⟩:Addr).add j=⟨g,j,none⟩:=by unfold Addr.add;split <;> simp_all
   have hf:=fU ms (j / 6) (j % 6) (by omega) (by omega)
   rw [show j / 6 * 6+j % 6=j by omega] at hf
   have:=ho.cells (g:=g) rfl j _ hf
   rw [e] at this
   rw [Nat.zero_add,this,get_flatK qY 6 ms.toArray j (by simpa using hj2)]
   have h6:j % 6<(qY (ms[j / 6]'(by omega))).length:=by rw [ze];omega
   have h7:ms.toArray[j / 6]! = ms[j / 6]'(by omega):=by rw [getElem!_pos _ _ (by simp;omega)];simp
   rw [h7,getElem!_pos (qY (ms[j / 6]'(by omega))) (j % 6) h6]
   rfl
theorem MemsAt.holds {W0:Nat} {w:World} {v:Value} {ms:List Mem} {its:List JV} (h:MemsAt W0 w v ms its) (h0:0<ms.length):∃g cap,v=.slice (some ⟨g,0,none⟩) ms.length cap∧g<w.heap.size∧HoldsK qY 6 w g 0 ms.toArray:=fM h.own h0
theorem g8 (w:World) (lo hi:Nat) (n:Int):Rep w lo hi (xF n) (.agg #[.int .u8 2,.int .i64 n,.string ⟨#[]⟩,.slice none 0 0,.slice none 0 0]):=by
 unfold xF Rep
 exact ⟨none,0,none,0,rfl,Nat.le_refl _,Nat.le_refl _,.inl rfl,.inl rfl⟩
def mT (nm:ByteArray) (n:Int):Mem:=⟨nm,2,n,⟨#[]⟩,none,0,0,none,0,0⟩
end Go.Proofs.YtnlgmcapbbgelaaGreatDoor

namespace Go.Proofs.YtnlgmcapbbgelaaGreatDoor
open Go.RowKit
theorem mI:∀ {ns:List ByteArray} {xs:List JV} {y:ByteArray} {x:JV},zX ns xs y=some x→x.wt≤JV.wts xs
 | n :: ns,z :: xs,y,x,h=>by
  rw [zX] at h
  simp only [JV.wts]
  split at h
  · injection h with h;subst h;omega
  · have:=mI h;omega
theorem xD {v:JV} {y:ByteArray} {most:Nat} {st:PS} (h:v.wt≤4294967296):(qw v y most st).1.wt≤4294967296:=by
 have hz:qO.wt≤4294967296:=by decide
 have h2:=v.wt_bd
 unfold qw
 split
 · exact hz
 · split
   · exact hz
   · rename_i it hit
     have:=mI (show zX v.names v.items y=some it from hit)
     split
     · exact hz
     · split
       · exact hz
       · show it.wt≤_;omega
theorem pr (n:Int) (w:World):Calls Tryz.prog 80 #[.int .i64 n] w fun e w'=>e=.returned (.agg #[.int .u8 2,.int .i64 n,.string ⟨#[]⟩,.slice none 0 0,.slice none 0 0])∧w'=w.alloc (.cells #[.int .u8 2,.int .i64 n,.string ⟨#[]⟩,.slice none 0 0,.slice none 0 0] 25):=by
 go_enter Tryz.func80,Tryz.ntmps80
 go_wp2
 exact bodyPost_ret (results_cell_row Tryz.results80 _ _ w.heap.size 25 _ (0,0) _ rfl (heap_alloc_new w _) Tryz.underlying25 rfl (by kernel_rfl)) rfl ⟨rfl,rfl⟩
theorem gX (t:ByteArray) (w:World):Calls Tryz.prog 20 #[.string t] w fun e w'=>e=.returned (.agg #[.int .u8 3,.int .i64 0,.string t,.slice none 0 0,.slice none 0 0])∧w'=w.alloc (.cells #[.int .u8 3,.int .i64 0,.string t,.slice none 0 0,.slice none 0 0] 25):=by
 go_enter Tryz.func20,Tryz.ntmps20
 go_wp2
 exact bodyPost_ret (results_cell_row Tryz.results20 _ _ w.heap.size 25 _ (0,0) _ rfl (heap_alloc_new w _) Tryz.underlying25 rfl (by kernel_rfl)) rfl ⟨rfl,rfl⟩
theorem uX {α:Type} {l m:List α} {k:Nat} (h:k<l.length) (h':k<m.length) (e:l.take k=m.take k) (e2:l[k]=m[k]):l.take (k+1)=m.take (k+1):=by
 rw [List.take_succ_eq_append_getElem h,List.take_succ_eq_append_getElem h',e,e2]
set_option maxRecDepth 100000 in
set_option maxHeartbeats 2000000 in
theorem tf (N:Nat):∀(v u:JV) (x y:Value) (lo hi:Nat) (w:World),v.wt≤N→u.wt≤4294967296→N≤4294967296→hi≤w.heap.size→Rep w lo hi v x→Rep w lo hi u y →
 Calls Tryz.prog 38 #[x,y] w fun e w'=>e=.returned (.bool (v.sameB u))∧Below w.heap.size w w':=by
 induction N with
 | zero=>intro v u x y lo hi w h;have:=v.wt_pos;omega
 | succ N ih =>
  intro v u x y lo hi w hN hU hM hhi hR hS
  have IH:=Lh ih
  clear ih
  obtain ⟨an,cn,ai,ci,rfl,_,_,h3,h4⟩:=hR.parts
  obtain ⟨an',cn',ai',ci',rfl,_,_,h3',h4'⟩:=hS.parts
  have HEQ:=Lh (v.sameB_eq u)
  obtain ⟨b1,b2,b3,b4⟩:=v.wt_bd
  obtain ⟨d1,d2,d3,d4⟩:=u.wt_bd
  have H3:=Lh h3
  have H4:=Lh h4
  have H3':=Lh h3'
  have H4':=Lh h4'
  clear h3 h4 h3' h4' hR hS
  have HB0:=Lh (show Below w.heap.size w ((w.alloc (.cells #[.int .u8 v.kind,.int .i64 v.n,.string v.t,.slice an v.names.length cn,.slice ai v.items.length ci] 25)).alloc (.cells #[.int .u8 u.kind,.int .i64 u.n,.string u.t,.slice an' u.names.length cn',.slice ai' u.items.length ci'] 25)) from ((Below.refl _ _).alloc lz _).alloc (by simp) _)
  by_cases hk:v.kind=u.kind
  case neg =>
   have t1:(v.kind == u.kind)=false:=by simpa using hk
   have t2:(v.kind != u.kind)=true:=by simpa using hk
   rw [decide_eq_false hk] at HEQ
   clear hk
   go_enter Tryz.func38,Tryz.ntmps38
   go_wp2
   go_ret
   exact ⟨by rw [HEQ.out];rfl,HB0.out⟩
  have t1:(v.kind != u.kind)=false:=by simpa using hk
  have HK:=Lh hk
  rw [decide_eq_true hk] at HEQ
  clear hk
  by_cases hn:v.n=u.n
  case neg =>
   have t3:(v.n != u.n)=true:=by simpa using hn
   rw [decide_eq_false hn] at HEQ
   clear hn
   go_enter Tryz.func38,Tryz.ntmps38
   go_wp2
   go_ret
   exact ⟨by rw [HEQ.out];rfl,HB0.out⟩
  have t2:(v.n != u.n)=false:=by simpa using hn
  rw [decide_eq_true hn] at HEQ
  clear hn
  by_cases ht:v.t=u.t
  case neg =>
   have t3:(v.t.toList == u.t.toList)=false:=beq_eq_false_iff_ne.2 (fun e=>ht (gE e))
   have t4:(v.t.toList != u.t.toList)=true:=bne_iff_ne.2 (fun e=>ht (gE e))
   rw [decide_eq_false ht] at HEQ
   clear ht
   go_enter Tryz.func38,Tryz.ntmps38
   go_wp2
   go_ret
   exact ⟨by rw [HEQ.out];rfl,HB0.out⟩
  have t3:(v.t.toList == u.t.toList)=true:=by rw [ht];simp
  have t4:(v.t.toList != u.t.toList)=false:=by rw [ht];simp
  rw [decide_eq_true ht] at HEQ
  clear ht
  by_cases hm:v.names.length=u.names.length
  case neg =>
   have t5:((v.names.length:Int) != (u.names.length:Int))=true:=by rw [bne_iff_ne];omega
   have t6:(v.names.length != u.names.length)=true:=by rw [bne_iff_ne];omega
   rw [decide_eq_false (fun e:v.names=u.names=>hm (by rw [e]))] at HEQ
   clear hm
   go_enter Tryz.func38,Tryz.ntmps38
   go_wp2
   go_ret
   exact ⟨by rw [HEQ.out];rfl,HB0.out⟩
  by_cases hl:v.items.length=u.items.length
  case neg =>
   have t5:((v.items.length:Int) != (u.items.length:Int))=true:=by rw [bne_iff_ne];omega
   have t6:(v.items.length != u.items.length)=true:=by rw [bne_iff_ne];omega
   have t7:((v.names.length:Int) != (u.names.length:Int))=false:=by rw [bne_eq_false_iff_eq];omega
   have t8:(v.names.length != u.names.length)=false:=by rw [bne_eq_false_iff_eq];omega
   rw [decide_eq_false hl] at HEQ
   clear hl hm
   go_enter Tryz.func38,Tryz.ntmps38
   go_wp2
   go_ret
   exact ⟨by rw [HEQ.out];simp,HB0.out⟩
  rw [decide_eq_true hl] at HEQ
  simp only [Bool.true_and] at HEQ
  rw [← hl,← hm]
  obtain ⟨ni,hni⟩:∃ni,ni=v.items.length:=⟨_,rfl⟩
  obtain ⟨nn,hnn⟩:∃nn,nn=v.names.length:=⟨_,rfl⟩
  rw [← hni,← hnn]
  rw [← hni] at b3
  rw [← hnn] at b2
  have HNI:=Lh hni
  have HNU:=Lh (show u.items.length=ni by rw [hni,hl])
  have HNN:=Lh hnn
  have HNM:=Lh (show u.names.length=nn by rw [hnn,hm])
  clear hl hni hm hnn HB0
  have hx0:((w.alloc (.cells #[.int .u8 v.kind,.int .i64 v.n,.string v.t,.slice an nn cn,.slice ai ni ci] 25)).alloc (.cells #[.int .u8 u.kind,.int .i64 u.n,.string u.t,.slice an' nn cn',.slice ai' ni ci'] 25)).heap[w.heap.size]?=some (.cells #[.int .u8 v.kind,.int .i64 v.n,.string v.t,.slice an nn cn,.slice ai ni ci] 25 (0,0)):=(Below.heap_alloc _ _ _ (by simp)).trans (heap_alloc_new w _)
  have hy0:((w.alloc (.cells #[.int .u8 v.kind,.int .i64 v.n,.string v.t,.slice an nn cn,.slice ai ni ci] 25)).alloc (.cells #[.int .u8 u.kind,.int .i64 u.n,.string u.t,.slice an' nn cn',.slice ai' ni ci'] 25)).heap[w.heap.size+1]?=some (.cells #[.int .u8 u.kind,.int .i64 u.n,.string u.t,.slice an' nn cn',.slice ai' ni ci'] 25 (0,0)):=by
   have:=heap_alloc_new (w.alloc (.cells #[.int .u8 v.kind,.int .i64 v.n,.string v.t,.slice an nn cn,.slice ai ni ci] 25)) (.cells #[.int .u8 u.kind,.int .i64 u.n,.string u.t,.slice an' nn cn',.slice ai' ni ci'] 25)
   rwa [show (w.alloc (.cells #[.int .u8 v.kind,.int .i64 v.n,.string v.t,.slice an nn cn,.slice ai ni ci] 25)).heap.size=w.heap.size+1 by simp] at this
  have HB0:=Lh (show Below w.heap.size w ((w.alloc (.cells #[.int .u8 v.kind,.int .i64 v.n,.string v.t,.slice an nn cn,.slice ai ni ci] 25)).alloc (.cells #[.int .u8 u.kind,.int .i64 u.n,.string u.t,.slice an' nn cn',.slice ai' ni ci'] 25)) from ((Below.refl _ _).alloc lz _).alloc (by simp) _)
  have HX0:=Lh hx0
  have HY0:=Lh hy0
  clear hx0 hy0
  -- what each later world gives
  have HW:=Lh (show ∀w':World,Below (w.heap.size+2) ((w.alloc (.cells #[.int .u8 v.kind,.int .i64 v.n,.string v.t,.slice an nn cn,.slice ai ni ci] 25)).alloc (.cells #[.int .u8 u.kind,.int .i64 u.n,.string u.t,.slice an' nn cn',.slice ai' ni ci'] 25)) w' →
   Below w.heap.size w w'∧w.heap.size+2≤w'.heap.size∧w'.cell? ⟨w.heap.size,3,none⟩=some (.slice an nn cn)∧w'.cell? ⟨w.heap.size,4,none⟩=some (.slice ai ni ci)∧w'.cell? ⟨w.heap.size+1,3,none⟩=some (.slice an' nn cn')∧w'.cell? ⟨w.heap.size+1,4,none⟩=some (.slice ai' ni ci') from fun w' h=>by
   have hx:w'.heap[w.heap.size]?=_:=(h.block _ (by omega)).trans HX0.out
   have hy:w'.heap[w.heap.size+1]?=_:=(h.block _ (by omega)).trans HY0.out
   exact ⟨HB0.out.trans (h.mono (by omega)),by have:=h.size;simpa using this,qq hx rfl,qq hx rfl,qq hy rfl,qq hy rfl⟩)
  go_enter Tryz.func38,Tryz.ntmps38
  go_wp2
  clear t1 t2 t3 t4
  go_loopw [5] (fun i wr=>∃k:Nat,k≤nn∧i=.int .i64 k∧v.names.take k=u.names.take k∧Below (w.heap.size+2) ((w.alloc (.cells #[.int .u8 v.kind,.int .i64 v.n,.string v.t,.slice an nn cn,.slice ai ni ci] 25)).alloc (.cells #[.int .u8 u.kind,.int .i64 u.n,.string u.t,.slice an' nn cn',.slice ai' ni ci'] 25)) wr) (fun i _=>nn - (intOf i).toNat)
  case atStart=>exact ⟨0,by omega,rfl,by simp,Below.refl _ _⟩
  case round =>
   obtain ⟨k,hk,rfl,hall,hbel⟩:=hrel
   obtain ⟨hbw,hz,c3,c4,d3',d4'⟩:=HW.out wr hbel
   have HA:=Lh hall
   have HB:=Lh hbel
   have HBW:=Lh hbw
   clear hall hbel hbw
   by_cases hlt:k<nn
   · have hl1:k<v.names.length:=by rw [← HNN.out];exact hlt
     have hl2:k<u.names.length:=by rw [HNM.out];exact hlt
     obtain ⟨p,f,rfl,_,_,y1⟩:=(H3.out.below HBW.out hhi lz lz).at k hl1
     obtain ⟨p',f',rfl,_,_,y2⟩:=(H3'.out.below HBW.out hhi lz lz).at k hl2
     have g1:0≤(k:Int):=by omega
     have g2:(k:Int)<(nn:Int):=by omega
     by_cases he:v.names[k]=u.names[k]
     · have HF:=Lh (uX hl1 hl2 HA.out he)
       have t1:(v.names[k].toList == u.names[k].toList)=true:=by rw [he];simp
       have t2:(v.names[k].toList != u.names[k].toList)=false:=by rw [he];simp
       clear he
       generalize v.names[k]=na at *
       generalize u.names[k]=nb at *
       go_wp2_with fail
       go_quiet (fail)
       go_wp2
       go_roundw
       case rel=>exact ⟨k+1,by omega,by go_num,HF.out,Below.drewN HB.out _⟩
       case measure=>simp [intOf];omega
     · have HF:=Lh (show decide (v.names=u.names)=false from decide_eq_false (fun e=>he (by simp only [e])))
       have t1:(v.names[k].toList == u.names[k].toList)=false:=beq_eq_false_iff_ne.2 (fun e=>he (gE e))
       have t2:(v.names[k].toList != u.names[k].toList)=true:=bne_iff_ne.2 (fun e=>he (gE e))
       clear he
       generalize v.names[k]=na at *
       generalize u.names[k]=nb at *
       go_wp2_with fail
       go_quiet (fail)
       go_wp2
       go_ret
       exact ⟨by rw [HEQ.out,HF.out];rfl,Below.drewN HBW.out _⟩
   · have HNE:=Lh (show v.names=u.names by
      have:=HA.out;rwa [List.take_of_length_le (by rw [← HNN.out];omega),List.take_of_length_le (by rw [HNM.out];omega)] at this)
     rw [decide_eq_true HNE.out,Bool.true_and] at HEQ
     obtain ⟨k1,rfl⟩:∃k1:Nat,k1=k:=⟨_,rfl⟩
     obtain ⟨wa,rfl⟩:∃wa:World,wa=wr:=⟨_,rfl⟩
     go_wp2
     clear c3 c4 d3' d4'
     go_loopw [6] (fun i wr=>∃k:Nat,k≤ni∧i=.int .i64 k∧JV.sameL (v.items.take k) (u.items.take k)=true∧Below (w.heap.size+2) ((w.alloc (.cells #[.int .u8 v.kind,.int .i64 v.n,.string v.t,.slice an nn cn,.slice ai ni ci] 25)).alloc (.cells #[.int .u8 u.kind,.int .i64 u.n,.string u.t,.slice an' nn cn',.slice ai' ni ci'] 25)) wr) (fun i _=>ni - (intOf i).toNat)
     case atStart=>exact ⟨0,by omega,rfl,by simp [JV.sameL],HB.out⟩
     case round =>
      clear HA HB HBW hz
      obtain ⟨k,hk2,rfl,hall,hbel⟩:=hrel
      obtain ⟨hbw,hz,c3,c4,d3',d4'⟩:=HW.out wr hbel
      have HA:=Lh hall
      have HB:=Lh hbel
      have HBW:=Lh hbw
      clear hall hbel hbw c3 d3'
      by_cases hlt2:k<ni
      · have hltv:k<v.items.length:=by rw [← HNI.out];exact hlt2
        have hltu:k<u.items.length:=by rw [HNU.out];exact hlt2
        obtain ⟨p,f,e0,e1,e2,e3,e4,rfl,_,_,g0,g1,g2,g3,g4,hr⟩:=(H4.out.below HBW.out hhi lz lz).at k hltv
        obtain ⟨p',f',e0',e1',e2',e3',e4',rfl,_,_,g0',g1',g2',g3',g4',hr'⟩:=(H4'.out.below HBW.out hhi lz lz).at k hltu
        have hw1:=JV.wts_get v.items k hltv
        have hw2:=JV.wts_get u.items k hltu
        have HTK:=Lh (JV.sameL_take v.items u.items k hltv hltu)
        have HTB:=Lh (JV.sameL_bad v.items u.items k hltv hltu)
        have HC:=Lh (IH.out v.items[k] u.items[k] _ _ lo hi wr.drew (by omega) (by omega) (by omega) (by show hi≤wr.heap.size;omega) (Rep.carry (w:=wr) (w':=wr.drew) lz lz (fun _ _ _=>rfl) _ _ hr) (Rep.carry (w:=wr) (w':=wr.drew) lz lz (fun _ _ _=>rfl) _ _ hr'))
        clear hr hr'
        generalize v.items[k]=it at *
        generalize u.items[k]=jt at *
        have m1:0≤(k:Int):=by omega
        have m2:(k:Int)<(ni:Int):=by omega
        cases hsb:it.sameB jt
        · have HF:=Lh (HTB.out hsb)
          rw [hsb] at HC
          clear hsb
          go_wp2_with fail
          go_still_tail 10,(by kernel_rfl)
          go_wp2_with fail
          refine HC.out.mono ?_
          rintro e w5 ⟨rfl,hb5⟩
          have HB5:=Lh (HBW.out.drew.trans (hb5.mono (by show w.heap.size≤wr.heap.size;omega)))
          clear hb5 g0 g1 g2 g3 g4 g0' g1' g2' g3' g4' c4 d4'
          go_wp2
          go_ret
          exact ⟨by rw [HEQ.out,HF.out];rfl,HB5.out⟩
        · have HF:=Lh (show JV.sameL (v.items.take (k+1)) (u.items.take (k+1))=true by rw [HTK.out,HA.out,hsb];rfl)
          rw [hsb] at HC
          clear hsb
          go_wp2_with fail
          go_still_tail 10,(by kernel_rfl)
          go_wp2_with fail
          refine HC.out.mono ?_
          rintro e w5 ⟨rfl,hb5⟩
          have HB5:=Lh (HB.out.drew.trans (hb5.mono (by show w.heap.size+2≤wr.heap.size;omega)))
          clear hb5 g0 g1 g2 g3 g4 g0' g1' g2' g3' g4' c4 d4'
          go_wp2
          go_roundw
          case rel=>exact ⟨k+1,by omega,by go_num,HF.out,HB5.out⟩
          case measure=>simp [intOf];omega
      · have HF:=Lh (show JV.sameL v.items u.items=true by
         have:=HA.out;rwa [List.take_of_length_le (by rw [← HNI.out];omega),List.take_of_length_le (by rw [HNU.out];omega)] at this)
        go_wp2
        go_ret
        exact ⟨by rw [HEQ.out,HF.out];rfl,HBW.out⟩
end Go.Proofs.YtnlgmcapbbgelaaGreatDoor
