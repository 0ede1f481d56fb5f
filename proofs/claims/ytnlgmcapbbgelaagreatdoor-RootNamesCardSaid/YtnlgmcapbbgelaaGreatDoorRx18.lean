/- The contracts of legateref11.NumOf, TextOf. -/
import Derived.Test.YtnlgmcapbbgelaaGreatDoorRx17
import Derived.Test.YtnlgmcapbbgelaaGreatDoorRx03

namespace Go.Proofs.YtnlgmcapbbgelaaGreatDoor
open Go.RowKit Go.WideMaps Go.Maps
set_option maxHeartbeats 1000000 in
set_option maxRecDepth 100000 in
theorem sP (o:Nat) (err:Int) (y:ByteArray) (most:Int) (w:World) (hb:zC o err w) (ho:o<w.heap.size) :
 Calls Tryz.prog 58 #[.pointer (some ⟨o,0,none⟩),.string y,.int .i64 most] w fun e w'=>e=.returned (.agg #[.int .u8 0,.int .i64 0,.string ⟨#[]⟩,.slice none 0 0,.slice none 0 0])∧Below w.heap.size w w':=by
 have HT:=Lh (show ∀(fv:Value) (W2:World),zC o err W2→o<W2.heap.size→Calls Tryz.prog 107 #[.pointer (some ⟨o,0,none⟩),.string y,fv] W2 (fun e w'=>e=.returned (.agg #[.int .u8 0,.int .i64 0,.string ⟨#[]⟩,.slice none 0 0,.slice none 0 0])∧Below W2.heap.size W2 w') from fun fv W2 hp hz=>by
  obtain ⟨W4,hW4⟩:∃W4,W4=(W2.alloc (.cells #[.int .u8 0,.int .i64 0,.string ⟨#[]⟩,.slice none 0 0,.slice none 0 0] 25)).alloc (.cells #[.int .u8 0,.int .i64 0,.string ⟨#[]⟩,.slice none 0 0,.slice none 0 0] 25):=⟨_,rfl⟩
  have hb4:Below W2.heap.size W2 W4:=by rw [hW4];exact ((Below.refl _ _).alloc lz _).alloc (by simp) _
  have hz1:(W2.alloc (.cells #[.int .u8 0,.int .i64 0,.string ⟨#[]⟩,.slice none 0 0,.slice none 0 0] 25)).heap.size=W2.heap.size+1:=by simp
  have hr0:W4.rowIs W2.heap.size 25 5 (qQ (.int .u8 0) (.int .i64 0) (.string ⟨#[]⟩) (.slice none 0 0) (.slice none 0 0)):=by
   rw [hW4]
   exact qx ((Below.refl _ _).alloc lz _) (qh W2 (.int .u8 0) (.int .i64 0) (.string ⟨#[]⟩) (.slice none 0 0) (.slice none 0 0) 25) (by simp)
  have hr1:W4.rowIs (W2.heap.size+1) 25 5 (qQ (.int .u8 0) (.int .i64 0) (.string ⟨#[]⟩) (.slice none 0 0) (.slice none 0 0)):=by
   have:=qh (W2.alloc (.cells #[.int .u8 0,.int .i64 0,.string ⟨#[]⟩,.slice none 0 0,.slice none 0 0] 25)) (.int .u8 0) (.int .i64 0) (.string ⟨#[]⟩) (.slice none 0 0) (.slice none 0 0) 25
   rw [hz1,← hW4] at this
   exact this
  obtain ⟨he,c6,k,c0⟩:=hp.below hb4 hz
  have he':(err == 0)=false:=by simpa using he
  have he2:(err != 0)=true:=by simpa using he
  have HE:=Lh he
  obtain ⟨t0,t1,t2,t3,t4⟩:=rc5 hr0
  obtain ⟨s0,s1,s2,s3,s4⟩:=rf5 hr0
  obtain ⟨u0,u1,u2,u3,u4⟩:=rc5 hr1
  simp only [qQ] at t0 t1 t2 t3 t4 u0 u1 u2 u3 u4
  have HR0:=Lh hr0
  have HB4:=Lh hb4
  have HW4:=Lh hW4
  clear he hW4 hb4 hr0 hr1 hz1
  go_enter Tryz.func107,Tryz.ntmps107
  go_upto_region 2 with fail
  rw [← HW4.out]
  go_wp2_with fail
  refine (zv o err k W4 c6 c0 (fun h=>absurd h HE.out)).mono ?_
  rintro r w' ⟨rfl,h'⟩
  subst h'
  go_wp2
  refine bodyPost_ret (results_cell_row Tryz.results107 _ _ W2.heap.size 25 _ (0,0) _ rfl (qs (set5 _ _ _ _ _ HR0.out)) Tryz.underlying25 rfl (by kernel_rfl)) rfl ?_
  exact ⟨rfl,zy _ _ _ _ _ HB4.out lz⟩)
 obtain ⟨W2,hW2⟩:∃W2,W2=(w.alloc (.cells #[.int .i64 most] 3)).alloc (.cells #[.int .u8 0,.int .i64 0,.string ⟨#[]⟩,.slice none 0 0,.slice none 0 0] 25):=⟨_,rfl⟩
 have hb2:Below w.heap.size w W2:=by rw [hW2];exact ((Below.refl _ _).alloc lz _).alloc (by simp) _
 have hz1:(w.alloc (.cells #[.int .i64 most] 3)).heap.size=w.heap.size+1:=by simp
 have hr1:W2.rowIs (w.heap.size+1) 25 5 (qQ (.int .u8 0) (.int .i64 0) (.string ⟨#[]⟩) (.slice none 0 0) (.slice none 0 0)):=by
  have:=qh (w.alloc (.cells #[.int .i64 most] 3)) (.int .u8 0) (.int .i64 0) (.string ⟨#[]⟩) (.slice none 0 0) (.slice none 0 0) 25
  rw [hz1,← hW2] at this
  exact this
 have HT2:=Lh (fun fv=>HT.out fv W2 (hb.below hb2 ho) (Nat.lt_of_lt_of_le ho hb2.size))
 have HB2:=Lh hb2
 have HR1:=Lh hr1
 have HW2:=Lh hW2
 clear hW2 hb2 hr1 hz1 hb HT
 go_enter Tryz.func58,Tryz.ntmps58
 go_upto_region 1 with fail
 rw [← HW2.out]
 go_wp2_with fail
 refine (HT2.out _).mono ?_
 clear HT2
 rintro r w3 ⟨rfl,hb3⟩
 have hr3:=qx hb3 HR1.out HR1.out.lt
 have HR3:=Lh hr3
 have HB3:=Lh (HB2.out.trans (hb3.mono HB2.out.size))
 obtain ⟨t0,t1,t2,t3,t4⟩:=rc5 hr3
 obtain ⟨s0,s1,s2,s3,s4⟩:=rf5 hr3
 simp only [qQ] at t0 t1 t2 t3 t4
 clear hr3 hb3
 go_wp2
 refine bodyPost_ret (results_cell_row Tryz.results58 _ _ (w.heap.size+1) 25 _ (0,0) _ rfl (qs (set5 _ _ _ _ _ HR3.out)) Tryz.underlying25 rfl (by kernel_rfl)) rfl ?_
 exact ⟨rfl,zy _ _ _ _ _ HB3.out (by omega)⟩
end Go.Proofs.YtnlgmcapbbgelaaGreatDoor

namespace Go.Proofs.YtnlgmcapbbgelaaGreatDoor
open Go.RowKit
def lA (o m lo hi:Nat) (v:JV) (an ai:Option Addr) (cn ci:Nat) (st:PS) (w:World) (r:Ending) (w':World):Prop:=r=.returned (.tuple #[])∧PickAt o m lo hi v an ai cn ci st w'∧Touch (fun b=>b=o∨b=m) w w'
set_option maxHeartbeats 1000000 in
theorem dh (o m lo hi:Nat) (v:JV) (an ai:Option Addr) (cn ci:Nat) (e:Int) (st:PS) (w:World) (hP:PickAt o m lo hi v an ai cn ci st w) :
 Calls Tryz.prog 54 #[.pointer (some ⟨o,0,none⟩),.int .i64 e] w (lA o m lo hi v an ai cn ci (st.fail e) w):=by
 have c6:w.cell? ⟨o,6,none⟩=some (.int .i64 st.err):=qq hP.obj rfl
 have c0:w.cell? ⟨o,0,none⟩=some (.int .u8 5):=(qq (j:=0) hP.obj rfl).trans (by rw [hP.kind];rfl)
 have d7:w.frozen? ⟨o,6,none⟩=false:=by simp [World.frozen?,hP.obj]
 by_cases he:st.err=0
 · rw [he] at c6
   refine (xl o e w c6 c0 d7).mono ?_
   rintro r w' ⟨rfl,rfl⟩
   refine ⟨rfl,?_,(Touch.refl _ _).setCell (.inl (.inl rfl)) _⟩
   unfold PS.fail
   rw [if_pos he]
   exact hP.fail e
 · have he':(st.err == 0)=false:=by simpa using he
   have HX:=Lh (show st.fail e=st by unfold PS.fail;rw [if_neg he])
   have HP:=Lh hP
   have HE:=Lh (zv o st.err 5 w c6 c0 (fun h=>by simp [h] at he'))
   clear hP he c6 c0 d7
   go_enter Tryz.func54,Tryz.ntmps54
   go_wp2_with fail
   refine HE.out.mono ?_
   rintro r w' ⟨rfl,h'⟩
   subst w'
   go_wp2
   go_end0
   exact ⟨rfl,by rw [HX.out];exact HP.out,Touch.refl _ _⟩
theorem cd {v:JV} (h:v.mayB=true) (hk:v.kind=5):ql v.names=true∧v.names.length=v.items.length∧v.names.all qe=true:=by
 unfold JV.mayB at h
 rw [JV.may_eq] at h
 split at h
 · cases h
 split at h
 · cases h
 next h2 =>
 rcases yX (by simpa using h2) with ⟨e,_⟩|⟨e,_⟩|⟨e,_⟩|e|⟨_,e1,e2,e3⟩ <;> first|omega|exact ⟨e2,e1,e3⟩
theorem pG {v:JV} {y:ByteArray} {st:PS} (hv:v.wt≤4294967296):(qy v y st).1.size≤4294967296∧(qy v y st).2.asked.length≤st.asked.length+1:=by
 unfold qy
 split
 · exact ⟨by show 0≤_;omega,by simp⟩
 split
 · exact ⟨by show 0≤_;omega,by simp⟩
 · next it hit =>
   split
   · refine ⟨?_,by simp⟩
     have:∀(ns:List ByteArray) (xs:List JV),zw ns xs y=some it→it.wt≤JV.wts xs:=by
      intro ns
      induction ns with
      | nil=>intro xs h;simp [zw] at h
      | cons n ns ih =>
       intro xs h
       cases xs with
       | nil=>simp [zw] at h
       | cons x xs =>
        rw [zw] at h
        split at h
        · cases h;simp [JV.wts]
        · have:=ih xs h;simp [JV.wts];omega
     have h1:=this _ _ hit
     have h2:=it.wt_bd
     have h3:=v.wt_bd
     show it.t.size≤_
     omega
   · exact ⟨by show 0≤_;omega,by simp⟩
end Go.Proofs.YtnlgmcapbbgelaaGreatDoor

namespace Go.Proofs.YtnlgmcapbbgelaaGreatDoor
open Go.RowKit Go.WideMaps Go.Maps
theorem PickAt.touch {o m lo hi g:Nat} {v:JV} {an ai:Option Addr} {cn ci:Nat} {st:PS} {w w':World} (h:PickAt o m lo hi v an ai cn ci st w) (hT:Touch (fun b=>b=g) w w') (ho:g≠o) (hm:g≠m) (hh:hi≤g):PickAt o m lo hi v an ai cn ci st w':=by
 have hlo:o<w.heap.size:=qz h.obj
 refine ⟨by rw [hT.block o hlo (fun e=>ho e.symm)];exact h.obj,?_,?_,h.pos,h.out,Nat.le_trans h.le hT.size,h.kind,h.rise,h.len,h.wt⟩
 · obtain ⟨D,n,h1,h2,h3⟩:=h.map
   exact ⟨D,n,h1.kept (row:=some g) ⟨hT.os,hT.tape,hT.output,hT.size,fun k hk hn=>hT.block k hk (fun e=>hn (by rw [e]))⟩ (fun e=>hm (Option.some.inj e).symm),h2,h3⟩
 · exact Rep.carry lz lz (fun k _ hk=>hT.block k (Nat.lt_of_lt_of_le hk h.le) (by omega)) _ _ h.rep
theorem qr {w:World} {g j:Nat} (u:Value):Touch (fun b=>b=g) w (w.setCell ⟨g,j,none⟩ u):=Touch.setCell (S:=fun b=>b=g) (p:=⟨g,j,none⟩) (Touch.refl _ _) (.inl rfl) u
theorem lT {v:JV} {y:ByteArray} {l h:Int} {st:PS}:(qB v y l h st).2.asked.length≤st.asked.length+1:=by
 unfold qB
 split
 · simp
 split
 · simp
 split
 · simp
 split <;> simp
theorem zC.touch {o p:Nat} {err:Int} {w w':World} (h:zC o err w) (ht:Touch (fun b=>b=p) w w') (ho:o<w.heap.size) (hne:o≠p):zC o err w':=by
 obtain ⟨h1,h2,k,h3⟩:=h
 exact ⟨h1,by rw [ht.cell (p:=⟨o,6,none⟩) ho hne];exact h2,k,by rw [ht.cell (p:=⟨o,0,none⟩) ho hne];exact h3⟩
theorem ju {st:PS} {e:Int}:(st.fail e).asked=st.asked:=by unfold PS.fail;split <;> rfl
theorem ub {v:JV} {y:ByteArray} {st:PS}:(qy v y st).2.asked.length≤st.asked.length+1:=by
 unfold qy
 split
 · simp
 split
 · simp
 · split <;> simp
end Go.Proofs.YtnlgmcapbbgelaaGreatDoor

namespace Go.Proofs.YtnlgmcapbbgelaaGreatDoor
open Go.RowKit Go.Shelf Go.Sort
def xN (ms:List Mem):List Value:=ms.flatMap qW
theorem du (ms:List Mem) (i c:Nat) (hi:i<ms.length) (hc:c<6):(xN ms)[i * 6+c]?=some ((qW ms[i])[c]'(by rw [zn];exact hc)):=by
 induction ms generalizing i with
 | nil=>simp at hi
 | cons v r ih =>
  unfold xN
  rw [List.flatMap_cons]
  rcases i with _|i
  · rw [List.getElem?_append_left (by rw [zn];omega)]
    simp
  · rw [List.getElem?_append_right (by rw [zn];omega),zn]
    have:=ih i (by simpa using hi)
    rw [show (i+1) * 6+c - 6=i * 6+c by omega]
    simpa [xN] using this
structure MemsAt (W0:Nat) (w:World) (v:Value) (ms:List Mem) (its:List JV):Prop where
 own:w.ownsRow W0 98 6 v ms.length (xN ms)
 len:its.length=ms.length
 reps:∀i (h:i<its.length),∃lo hi,W0≤lo∧hi≤w.heap.size∧(∀b,v.ownBlock=some b→¬(lo≤b∧b<hi))∧Rep w lo hi its[i] (ms[i]'(by omega)).val
theorem MemsAt.below {W0:Nat} {w w':World} {v:Value} {ms:List Mem} {its:List JV} (h:MemsAt W0 w v ms its) (hb:Below w.heap.size w w'):MemsAt W0 w' v ms its :=
 ⟨qJ h.own hb,h.len,fun i hi=>by
  obtain ⟨lo,hi',h1,h2,h3,hr⟩:=h.reps i hi
  exact ⟨lo,hi',h1,Nat.le_trans h2 hb.size,h3,Rep.carry lz lz (fun b _ h=>hb.block b (by omega)) _ _ hr⟩⟩
theorem MemsAt.nil (W0:Nat) (w:World):MemsAt W0 w (.slice none 0 0) [] []:=⟨World.ownsRow_nil _ _ _ _,rfl,fun i h=>by simp at h⟩
theorem MemsAt.snoc {W0:Nat} {w w':World} {v v':Value} {ms:List Mem} {its:List JV} (h:MemsAt W0 w v ms its) (m:Mem) (it:JV) (lo hi:Nat) (h1:W0≤lo) (h2:hi≤w.heap.size) (h3:∀b,v.ownBlock=some b→¬(lo≤b∧b<hi)) (hr:Rep w lo hi it m.val)
 (hg:w.grownBy w' v.ownBlock) (hown:w'.ownsRow W0 98 6 v' (ms.length+1) (xN ms ++ qW m)) (hat:v'.ownBlock=v.ownBlock∨∃g,v'.ownBlock=some g∧w.heap.size≤g):MemsAt W0 w' v' (ms ++ [m]) (its ++ [it]):=by
 have hx:∀ {lo hi:Nat},hi≤w.heap.size→(∀b,v.ownBlock=some b→¬(lo≤b∧b<hi))→∀b,v'.ownBlock=some b→¬(lo≤b∧b<hi):=fun hz hn b hb=>by
  rcases hat with e|⟨g,e,hge⟩
  · exact hn b (by rw [← e];exact hb)
  · rw [e] at hb;simp at hb;omega
 have hc:∀ {lo hi:Nat} {it:JV} {x:Value},hi≤w.heap.size→(∀b,v.ownBlock=some b→¬(lo≤b∧b<hi))→Rep w lo hi it x→Rep w' lo hi it x:=fun hz hn hr =>
  Rep.carry lz lz (fun b hb1 hb2=>hg.block b (by omega) (fun e=>hn b e.symm ⟨hb1,hb2⟩)) _ _ hr
 have hl:=h.len
 refine ⟨?_,by simp [hl],fun i hi'=>?_⟩
 · have e:xN (ms ++ [m])=xN ms ++ qW m:=by simp [xN]
   rw [e,List.length_append];exact hown
 · by_cases e:i<its.length
   · obtain ⟨lo',hi'',k1,k2,k3,hr'⟩:=h.reps i e
     refine ⟨lo',hi'',k1,Nat.le_trans k2 hg.size,hx k2 k3,?_⟩
     rw [List.getElem_append_left e,List.getElem_append_left (by omega)]
     exact hc k2 k3 hr'
   · obtain rfl:i=its.length:=by simp at hi';omega
     refine ⟨lo,hi,h1,Nat.le_trans h2 hg.size,hx h2 h3,?_⟩
     rw [List.getElem_append_right (by omega),List.getElem_append_right (by omega)]
     simpa using hc h2 h3 hr
theorem pB {W0:Nat} {w:World} {v:Value} {ms:List Mem} (ho:w.ownsRow W0 98 6 v ms.length (xN ms)) (h0:0<ms.length):∃g cap,v=.slice (some ⟨g,0,none⟩) ms.length cap∧g<w.heap.size∧HoldsK qW 6 w g 0 ms.toArray:=by
 rcases ho.2 with ⟨rfl,h00⟩|⟨g,cap,cur,rfl,hg,hh,hc,hm,hs,ht⟩
 · omega
 · refine ⟨g,cap,rfl,qz hh,fun j hj=>⟨?_,by simp [World.frozen?,hh]⟩⟩
   have hj2:j<ms.length * 6:=by simpa using hj
   have e:(⟨g,0,none⟩:Addr).add j=⟨g,j,none⟩:=by unfold Addr.add;split <;> simp_all
   have hf:=du ms (j / 6) (j % 6) (by omega) (by omega)
   rw [show j / 6 * 6+j % 6=j by omega] at hf
   have:=ho.cells (g:=g) rfl j _ hf
   rw [e] at this
   rw [Nat.zero_add,this,get_flatK qW 6 ms.toArray j (by simpa using hj2)]
   have h6:j % 6<(qW (ms[j / 6]'(by omega))).length:=by rw [zn];omega
   have h7:ms.toArray[j / 6]! = ms[j / 6]'(by omega):=by rw [getElem!_pos _ _ (by simp;omega)];simp
   rw [h7,getElem!_pos (qW (ms[j / 6]'(by omega))) (j % 6) h6]
   rfl
theorem MemsAt.holds {W0:Nat} {w:World} {v:Value} {ms:List Mem} {its:List JV} (h:MemsAt W0 w v ms its) (h0:0<ms.length):∃g cap,v=.slice (some ⟨g,0,none⟩) ms.length cap∧g<w.heap.size∧HoldsK qW 6 w g 0 ms.toArray:=pB h.own h0
theorem fd (w:World) (lo hi:Nat) (n:Int):Rep w lo hi (qV n) (.agg #[.int .u8 2,.int .i64 n,.string ⟨#[]⟩,.slice none 0 0,.slice none 0 0]):=by
 unfold qV Rep
 exact ⟨none,0,none,0,rfl,Nat.le_refl _,Nat.le_refl _,.inl rfl,.inl rfl⟩
def dm (nm:ByteArray) (n:Int):Mem:=⟨nm,2,n,⟨#[]⟩,none,0,0,none,0,0⟩
end Go.Proofs.YtnlgmcapbbgelaaGreatDoor

namespace Go.Proofs.YtnlgmcapbbgelaaGreatDoor
open Go.RowKit
theorem up:∀ {ns:List ByteArray} {xs:List JV} {y:ByteArray} {x:JV},zw ns xs y=some x→x.wt≤JV.wts xs
 | n :: ns,z :: xs,y,x,h=>by
  rw [zw] at h
  simp only [JV.wts]
  split at h
  · injection h with h;subst h;omega
  · have:=up h;omega
theorem xj {v:JV} {y:ByteArray} {most:Nat} {st:PS} (h:v.wt≤4294967296):(qv v y most st).1.wt≤4294967296:=by
 have hz:qL.wt≤4294967296:=by decide
 have h2:=v.wt_bd
 unfold qv
 split
 · exact hz
 · split
   · exact hz
   · rename_i it hit
     have:=up (show zw v.names v.items y=some it from hit)
     split
     · exact hz
     · split
       · exact hz
       · show it.wt≤_;omega
def qK (B:Nat) (J:JV) (w:World) (x:Value):Prop:=∃an cn ai ci,x=.agg #[.int .u8 J.kind,.int .i64 J.n,.string J.t,.slice an J.names.length cn,.slice ai J.items.length ci]∧Rep w B w.heap.size J x
theorem qK.mono {B:Nat} {J:JV} {w w':World} {x:Value} (hb:Below w.heap.size w w') (h:qK B J w x):qK B J w' x:=by
 obtain ⟨an,cn,ai,ci,e,hr⟩:=h
 exact ⟨an,cn,ai,ci,e,hr.below hb lz lz hb.size⟩
def MP.rep (B:Nat) (J:JV):MP:=⟨qK B J,fun _ _ _ hb h=>h.mono hb⟩
theorem qK.five {B:Nat} {J:JV} {w:World} {x:Value} (h:qK B J w x):∃c0 c1 c2 c3 c4,x=.agg #[c0,c1,c2,c3,c4]∧qK B J w (.agg #[c0,c1,c2,c3,c4]):=by
 obtain ⟨an,cn,ai,ci,rfl,hr⟩:=h
 exact ⟨_,_,_,_,_,rfl,an,cn,ai,ci,rfl,hr⟩
def kH (B:Nat) (w:World) (cs:Array Value) (o:Nat) (J:JV):Prop:=∃c0 c1 c2 c3 c4,cs[o]?=some c0∧cs[o+1]?=some c1∧cs[o+2]?=some c2∧cs[o+3]?=some c3∧cs[o+4]?=some c4∧qK B J w (.agg #[c0,c1,c2,c3,c4])
theorem kH.mono {B:Nat} {w w':World} {cs:Array Value} {o:Nat} {J:JV} (hb:Below w.heap.size w w') (h:kH B w cs o J):kH B w' cs o J:=by
 obtain ⟨c0,c1,c2,c3,c4,h0,h1,h2,h3,h4,hr⟩:=h
 exact ⟨c0,c1,c2,c3,c4,h0,h1,h2,h3,h4,hr.mono hb⟩
def ws (B T:Nat) (l:List JV) (w:World) (x:Value):Prop:=∃b cs,x=.slice (some ⟨b,0,none⟩) l.length l.length∧B≤b∧w.heap[b]?=some (.cells cs T (0,0))∧∀i (h:i<l.length),kH B w cs (i * 5) l[i]
theorem ws.mono {B T:Nat} {l:List JV} {w w':World} {x:Value} (hb:Below w.heap.size w w') (h:ws B T l w x):ws B T l w' x:=by
 obtain ⟨b,cs,e,h1,h2,h3⟩:=h
 exact ⟨b,cs,e,h1,by rw [hb.block _ (qz h2)];exact h2,fun i hi=>(h3 i hi).mono hb⟩
def MP.vals (B T:Nat) (l:List JV):MP:=⟨ws B T l,fun _ _ _ hb h=>h.mono hb⟩
def nV (B:Nat) (nm:ByteArray) (J:JV) (e:Int) (w:World) (x:Value):Prop:=∃c0 c1 c2 c3 c4,x=.agg #[.string nm,c0,c1,c2,c3,c4,.int .i64 e]∧qK B J w (.agg #[c0,c1,c2,c3,c4])
def MP.trip (B:Nat) (nm:ByteArray) (J:JV) (e:Int):MP:=⟨nV B nm J e,fun _ _ _ hb ⟨c0,c1,c2,c3,c4,h,hr⟩=>⟨c0,c1,c2,c3,c4,h,hr.mono hb⟩⟩
def wO (B T:Nat) (l:List (ByteArray × JV × Int)) (w:World) (x:Value):Prop:=∃b cs,x=.slice (some ⟨b,0,none⟩) l.length l.length∧B≤b∧w.heap[b]?=some (.cells cs T (0,0))∧∀i (h:i<l.length),cs[i * 7]?=some (.string l[i].1)∧kH B w cs (i * 7+1) l[i].2.1∧cs[i * 7+6]?=some (.int .i64 l[i].2.2)
theorem wO.mono {B T:Nat} {l:List (ByteArray × JV × Int)} {w w':World} {x:Value} (hb:Below w.heap.size w w') (h:wO B T l w x):wO B T l w' x:=by
 obtain ⟨b,cs,e,h1,h2,h3⟩:=h
 exact ⟨b,cs,e,h1,by rw [hb.block _ (qz h2)];exact h2,fun i hi=>⟨(h3 i hi).1,(h3 i hi).2.1.mono hb,(h3 i hi).2.2⟩⟩
def MP.tab (B T:Nat) (l:List (ByteArray × JV × Int)):MP:=⟨wO B T l,fun _ _ _ hb h=>h.mono hb⟩
def strs (l:List ByteArray):Array Value:=(l.map Value.string).toArray
theorem wQ (B:Nat) (n:Int) (w:World):qK B (qV n) w (.agg #[.int .u8 2,.int .i64 n,.string ⟨#[]⟩,.slice none 0 0,.slice none 0 0]):=⟨none,0,none,0,rfl,fd _ _ _ _⟩
theorem gD (B:Nat) (t:ByteArray) (w:World):qK B (txtJ t) w (.agg #[.int .u8 3,.int .i64 0,.string t,.slice none 0 0,.slice none 0 0]):=⟨none,0,none,0,rfl,jX _ _ _ _⟩
theorem gN (w:World) (lo hi:Nat) (k n:Int) (t:ByteArray):Rep w lo hi (.mk k n t [] []) (.agg #[.int .u8 k,.int .i64 n,.string t,.slice none 0 0,.slice none 0 0]):=Rep.mk (v:=.mk k n t [] []) lz lz (.inl rfl) (.inl rfl)
theorem jA (B:Nat) (k n:Int) (t:ByteArray) (w:World):qK B (.mk k n t [] []) w (.agg #[.int .u8 k,.int .i64 n,.string t,.slice none 0 0,.slice none 0 0]):=⟨none,0,none,0,rfl,Rep.mk (v:=.mk k n t [] []) lz lz (.inl rfl) (.inl rfl)⟩
theorem mo {B T1 T2:Nat} {w:World} {x y:Value} (ns:List ByteArray) (l:List JV) (h1:jC B ns.length T1 (strs ns) w x) (h2:ws B T2 l w y):qK B (.mk 5 0 ⟨#[]⟩ ns l) w (.agg #[.int .u8 5,.int .i64 0,.string ⟨#[]⟩,x,y]):=by
 obtain ⟨b,hb,rfl,hm⟩:=h1
 obtain ⟨b2,cs,rfl,hb2,hm2,hc⟩:=h2
 refine ⟨some ⟨b,0,none⟩,ns.length,some ⟨b2,0,none⟩,l.length,rfl,?_⟩
 refine Rep.mk (v:=.mk 5 0 ⟨#[]⟩ ns l) lz lz (f9 ns hb (qz hm) hm) ?_
 refine .inr ⟨b2,0,rfl,hb2,qz hm2,⟨_,_,_,hm2,fun _=>rfl⟩,zW.of_at fun i hi=>?_⟩
 obtain ⟨c0,c1,c2,c3,c4,k0,k1,k2,k3,k4,hr⟩:=hc i hi
 obtain ⟨_,_,_,_,_,hr⟩:=hr
 simp only [Nat.zero_add]
 exact ⟨c0,c1,c2,c3,c4,qq hm2 k0,qq hm2 k1,qq hm2 k2,qq hm2 k3,qq hm2 k4,by simp [World.frozen?,hm2],hr⟩
def sF:Code→Code | .seq a _=>a|c=>c
def tu:Code→Code | .seq _ b=>b|c=>c
theorem jJ (t:ByteArray) (w:World):Calls Tryz.prog 20 #[.string t] w fun e w'=>e=.returned (.agg #[.int .u8 3,.int .i64 0,.string t,.slice none 0 0,.slice none 0 0])∧w'=w.alloc (.cells #[.int .u8 3,.int .i64 0,.string t,.slice none 0 0,.slice none 0 0] 25):=by
 go_enter Tryz.func20,Tryz.ntmps20
 go_wp2
 exact bodyPost_ret (results_cell_row Tryz.results20 _ _ w.heap.size 25 _ (0,0) _ rfl (heap_alloc_new w _) Tryz.underlying25 rfl (by kernel_rfl)) rfl ⟨rfl,rfl⟩
end Go.Proofs.YtnlgmcapbbgelaaGreatDoor
