/- The contract of value.Copy for a value that came in, whatever marks its blocks bear: an Item that is nested two deep, or more, may have become zero (the model draws how two marked blocks' pointers compare). -/
import Derived.Test.YthgembbgcbaghaaGreatDoorDb07
import Derived.Test.YthgembbgcbaghaaGreatDoorDb01

namespace Go.Proofs.YthgembbgcbaghaaGreatDoor
open Go.RowKit
def vJ (it it':JV):Prop:=it'=it∨(it'=qo∧¬gT 0 it)
def WkL (v:JV) (its:List JV) (k:Nat):Prop:=its.length=k∧∀j (h:j<its.length) (h':j<v.items.length),vJ v.items[j] its[j]
theorem WkL.snoc {v:JV} {its:List JV} {k:Nat} {it':JV} (h:WkL v its k) (hk:k<v.items.length) (hw:vJ v.items[k] it'):WkL v (its ++ [it']) (k+1):=by
 obtain ⟨h1,h2⟩:=h
 refine ⟨by simp [h1],fun j hj hj'=>?_⟩
 by_cases e:j<its.length
 · rw [List.getElem_append_left e];exact h2 j e hj'
 · have:j=k:=by simp at hj;omega
   subst this
   rw [List.getElem_append_right (by omega)]
   simpa using hw
structure WeakCopy (v v':JV):Prop where
 kind:v'.kind=v.kind
 n:v'.n=v.n
 t:v'.t=v.t
 names:v'.names=v.names
 len:v'.items.length=v.items.length
 items:∀j (h:j<v'.items.length) (h':j<v.items.length),vJ v.items[j] v'.items[j]
def rj (v:JV) (w:World) (e:Ending) (w':World):Prop :=
 ∃v' an cn ai ci,WeakCopy v v'∧e=.returned (.agg #[.int .u8 v'.kind,.int .i64 v'.n,.string v'.t,.slice an v'.names.length cn,.slice ai v'.items.length ci]) ∧
  Rep w' w.heap.size w'.heap.size v' (.agg #[.int .u8 v'.kind,.int .i64 v'.n,.string v'.t,.slice an v'.names.length cn,.slice ai v'.items.length ci])∧Below w.heap.size w w'
theorem xj {w:World} {p T j:Nat} {cs:Array Value} {u:Value} (hp:w.heap[p]?=some (.cells cs T (0,0))) (hj:cs[j]?=some u):w.cell? ⟨p,j,none⟩=some u:=by simp [World.cell?,hp,hj]
theorem se {W:World} {b k:Nat} (v0 v1 v2 v3 v4:Value) (hk:k≠b) :
 (((((W.setCell ⟨b,0,none⟩ v0).setCell ⟨b,1,none⟩ v1).setCell ⟨b,2,none⟩ v2).setCell ⟨b,3,none⟩ v3).setCell ⟨b,4,none⟩ v4).heap[k]?=W.heap[k]?:=by
 rw [Below.heap_setCell _ _ _ _ hk,Below.heap_setCell _ _ _ _ hk,Below.heap_setCell _ _ _ _ hk,Below.heap_setCell _ _ _ _ hk,Below.heap_setCell _ _ _ _ hk]
theorem sQ {W:World} {b:Nat} {v0 v1 v2 v3 v4:Value}:(((((W.setCell ⟨b,0,none⟩ v0).setCell ⟨b,1,none⟩ v1).setCell ⟨b,2,none⟩ v2).setCell ⟨b,3,none⟩ v3).setCell ⟨b,4,none⟩ v4).heap.size=W.heap.size:=by simp [World.setCell]
theorem mw {W:World} {b T:Nat} {a0 a1 a2 a3 a4 v0 v1 v2 v3 v4:Value} (h:W.heap[b]?=some (.cells #[a0,a1,a2,a3,a4] T (0,0))) :
 (((((W.setCell ⟨b,0,none⟩ v0).setCell ⟨b,1,none⟩ v1).setCell ⟨b,2,none⟩ v2).setCell ⟨b,3,none⟩ v3).setCell ⟨b,4,none⟩ v4).heap[b]?=some (.cells #[v0,v1,v2,v3,v4] T (0,0)):=by
 simp [World.setCell,Array.getElem?_modify,h]
theorem fd {v:JV} {its:List JV} {w W wr:World} {cb:Nat} {ai a1 a5:Option Addr} {ni nn c1 ci:Nat} {v0 v1 v2 v3 v4:Value} (hM:Mid v w W cb ai a1 ni nn c1 ci) (ht:Touch (· = cb) W wr) (hv:qH wr W.heap.size wr.heap.size a5 its) {w6:World}
 (h6:w6=(((((wr.setCell ⟨w.heap.size+1,0,none⟩ v0).setCell ⟨w.heap.size+1,1,none⟩ v1).setCell ⟨w.heap.size+1,2,none⟩ v2).setCell ⟨w.heap.size+1,3,none⟩ v3).setCell ⟨w.heap.size+1,4,none⟩ v4)) :
 Below w.heap.size w w6∧qg w6 w.heap.size w6.heap.size a1 v.names∧qH w6 w.heap.size w6.heap.size a5 its∧w6.heap[w.heap.size+1]?=some (.cells #[v0,v1,v2,v3,v4] 25 (0,0)):=by
 have h1:=hM.below.size
 have h2:=hM.gt
 have h3:=hM.lt
 have h4:=ht.size
 have hz:w6.heap.size=wr.heap.size:=by rw [h6];simp [World.setCell]
 have hs:∀b,b≠w.heap.size+1→w6.heap[b]?=wr.heap[b]?:=fun b hw=>by
  rw [h6,Below.heap_setCell _ _ _ _ hw,Below.heap_setCell _ _ _ _ hw,Below.heap_setCell _ _ _ _ hw,Below.heap_setCell _ _ _ _ hw,Below.heap_setCell _ _ _ _ hw]
 have hb:Below w.heap.size w wr:=hM.below.trans (ht.below h1 fun k hk e=>by omega)
 have hw:w.heap.size≤w.heap.size+1:=by omega
 refine ⟨?_,?_,hv.carry h1 (by omega) fun b hb1 hb2=>hs b (by omega),?_⟩
 · rw [h6];exact ((((hb.setCell (by exact hw) _).setCell (by exact hw) _).setCell (by exact hw) _).setCell (by exact hw) _).setCell (by exact hw) _
 · obtain ⟨lo,hi,k1,k2,k3,k4⟩:=hM.names
   exact k4.carry (by omega) (by omega) fun b hb1 hb2=>by
    rw [hs b (by omega)];exact ht.block b (by omega) fun e=>k3 ⟨by omega,by omega⟩
 · have hr:=ht.row hM.res (by omega)
   have:=(((((hr.set 0 v0).set 1 v1).set 2 v2).set 3 v3).set 4 v4).congr (g:=qW v0 v1 v2 v3 v4) fun j hj=>by
    rcases j with _|_|_|_|_|j <;> first|rfl|omega
   rw [← h6] at this
   exact qG this
set_option maxRecDepth 100000 in
set_option maxHeartbeats 2000000 in
theorem cI (v:JV) (x:Value) (w:World) (hi:Nat) (hN:v.wt≤4294967296) (hhi:hi≤w.heap.size) (hR:Rep w 0 hi v x) :
 Calls Tryz.prog 91 #[x] w (rj v w):=by
 obtain ⟨an,cn,ai,ci,rfl,h1,h2,h3,h4⟩:=hR.parts
 obtain ⟨b1,b2,b3,b4⟩:=v.wt_bd
 have H3:=Lh h3
 have H4:=Lh h4
 clear h3 h4 hR
 obtain ⟨nn,hnn⟩:∃nn,nn=v.names.length:=⟨_,rfl⟩
 obtain ⟨ni,hni⟩:∃ni,ni=v.items.length:=⟨_,rfl⟩
 rw [← hnn,← hni]
 rw [← hnn] at b2
 rw [← hni] at b3
 have HNN:=Lh hnn
 have HNI:=Lh hni
 clear hnn hni h1 h2
 obtain ⟨i0,hi0,hz0,hz1,hz2⟩:=info_parts xY
 go_enter Tryz.func91,Tryz.ntmps91
 go_wp2_with fail
 have HC:=Lh (fun (w1:World) (h:Below w.heap.size w w1)=>show Calls Tryz.prog 103 #[.slice an nn cn] w1 (fun e w'=>∃a' c',e=.returned (.slice a' nn c')∧nn≤c'∧qg w' w1.heap.size w'.heap.size a' v.names∧Below w1.heap.size w1 w') by
  have:=yL v.names an cn w1 hi (H3.out.below h hhi (Nat.zero_le _) lz) (by rw [← HNN.out];omega)
  rwa [← HNN.out] at this)
 have HCA:=Lh (show Calls Tryz.prog 103 #[.slice an nn cn] (((w.alloc (.cells #[.int .u8 v.kind,.int .i64 v.n,.string v.t,.slice an nn cn,.slice ai ni ci] 25)).alloc (.cells #[.int .u8 0,.int .i64 0,.string ⟨#[]⟩,.slice none 0 0,.slice none 0 0] 25)).drew) (fun e w1=>∃a1 c1,e=.returned (.slice a1 nn c1)∧nn≤c1∧qg w1 (w.heap.size+2) w1.heap.size a1 v.names∧Below (w.heap.size+2) (((w.alloc (.cells #[.int .u8 v.kind,.int .i64 v.n,.string v.t,.slice an nn cn,.slice ai ni ci] 25)).alloc (.cells #[.int .u8 0,.int .i64 0,.string ⟨#[]⟩,.slice none 0 0,.slice none 0 0] 25)).drew) w1∧w.heap.size+1<w1.heap.size∧w1.cell? ⟨w.heap.size,0,none⟩=some (.int .u8 v.kind)∧w1.cell? ⟨w.heap.size,1,none⟩=some (.int .i64 v.n)∧w1.cell? ⟨w.heap.size,2,none⟩=some (.string v.t)∧w1.cell? ⟨w.heap.size,3,none⟩=some (.slice an nn cn)) by
  refine (HC.out _ ((((Below.refl _ _).alloc lz _).alloc (by simp) _).drew)).mono ?_
  rintro e w1 ⟨a1,c1,rfl,hc1,hs1,hb1⟩
  have hz:(((w.alloc (.cells #[.int .u8 v.kind,.int .i64 v.n,.string v.t,.slice an nn cn,.slice ai ni ci] 25)).alloc (.cells #[.int .u8 0,.int .i64 0,.string ⟨#[]⟩,.slice none 0 0,.slice none 0 0] 25)).drew).heap.size=w.heap.size+2:=by simp
  rw [hz] at hs1 hb1
  have hsz:=hb1.size
  rw [hz] at hsz
  refine ⟨a1,c1,rfl,hc1,hs1,hb1,by omega,?_,?_,?_,?_⟩ <;> (rw [hb1.cell (by show w.heap.size<_;omega)];go_simp))
 have HCB:=Lh (show Calls Tryz.prog 103 #[.slice an nn cn] ((((w.alloc (.cells #[.int .u8 v.kind,.int .i64 v.n,.string v.t,.slice an nn cn,.slice ai ni ci] 25)).alloc (.cells #[.int .u8 0,.int .i64 0,.string ⟨#[]⟩,.slice none 0 0,.slice none 0 0] 25)).alloc (.cells #[.int .u8 0,.int .i64 0,.string ⟨#[]⟩,.slice none 0 0,.slice none 0 0] 25)).drew) (fun e w1=>∃a1 c1,e=.returned (.slice a1 nn c1)∧nn≤c1∧qg w1 (w.heap.size+3) w1.heap.size a1 v.names∧Below (w.heap.size+3) ((((w.alloc (.cells #[.int .u8 v.kind,.int .i64 v.n,.string v.t,.slice an nn cn,.slice ai ni ci] 25)).alloc (.cells #[.int .u8 0,.int .i64 0,.string ⟨#[]⟩,.slice none 0 0,.slice none 0 0] 25)).alloc (.cells #[.int .u8 0,.int .i64 0,.string ⟨#[]⟩,.slice none 0 0,.slice none 0 0] 25)).drew) w1∧w.heap.size+2<w1.heap.size∧w1.rowIs (w.heap.size+2) 25 5 (qW (.int .u8 0) (.int .i64 0) (.string ⟨#[]⟩) (.slice none 0 0) (.slice none 0 0))∧w1.cell? ⟨w.heap.size,0,none⟩=some (.int .u8 v.kind)∧w1.cell? ⟨w.heap.size,1,none⟩=some (.int .i64 v.n)∧w1.cell? ⟨w.heap.size,2,none⟩=some (.string v.t)∧w1.cell? ⟨w.heap.size,3,none⟩=some (.slice an nn cn)) by
  refine (HC.out _ (((((Below.refl _ _).alloc lz _).alloc (by simp) _).alloc (by simp;omega) _).drew)).mono ?_
  rintro e w1 ⟨a1,c1,rfl,hc1,hs1,hb1⟩
  have hz:((((w.alloc (.cells #[.int .u8 v.kind,.int .i64 v.n,.string v.t,.slice an nn cn,.slice ai ni ci] 25)).alloc (.cells #[.int .u8 0,.int .i64 0,.string ⟨#[]⟩,.slice none 0 0,.slice none 0 0] 25)).alloc (.cells #[.int .u8 0,.int .i64 0,.string ⟨#[]⟩,.slice none 0 0,.slice none 0 0] 25)).drew).heap.size=w.heap.size+3:=by simp
  rw [hz] at hs1 hb1
  have hsz:=hb1.size
  rw [hz] at hsz
  have hr0:=(qi ((w.alloc (.cells #[.int .u8 v.kind,.int .i64 v.n,.string v.t,.slice an nn cn,.slice ai ni ci] 25)).alloc (.cells #[.int .u8 0,.int .i64 0,.string ⟨#[]⟩,.slice none 0 0,.slice none 0 0] 25)) (.int .u8 0) (.int .i64 0) (.string ⟨#[]⟩) (.slice none 0 0) (.slice none 0 0) 25).drew
  rw [show ((w.alloc (.cells #[.int .u8 v.kind,.int .i64 v.n,.string v.t,.slice an nn cn,.slice ai ni ci] 25)).alloc (.cells #[.int .u8 0,.int .i64 0,.string ⟨#[]⟩,.slice none 0 0,.slice none 0 0] 25)).heap.size=w.heap.size+2 by simp] at hr0
  refine ⟨a1,c1,rfl,hc1,hs1,hb1,by omega,qj hb1 hr0 (by omega),?_,?_,?_,?_⟩ <;> (rw [hb1.cell (by show w.heap.size<_;omega)];go_simp))
 clear HC
 go_region_held3 (fun w'=>w'.cell? ⟨w.heap.size,0,none⟩=some (.int .u8 v.kind)∧w'.cell? ⟨w.heap.size,1,none⟩=some (.int .i64 v.n)∧w'.cell? ⟨w.heap.size,2,none⟩=some (.string v.t)∧w'.cell? ⟨w.heap.size,3,none⟩=some (.slice an nn cn)) (first|(with_reducible exact ⟨q0,q1,q2,q3⟩)|(with_reducible exact ⟨(qt _ hz0).trans q0,(qt _ hz0).trans q1,(qt _ hz0).trans q2,(qt _ hz0).trans q3⟩)|(with_reducible exact ⟨ko hq q0,ko hq q1,ko hq q2,ko hq q3⟩)|(go_keep;done)) (first|(go_at_call 103;(with_reducible refine HCA.out.mono ?_);rintro e w1 ⟨a1,c1,rfl,hc1,hs1,hb1,hz1,q0,q1,q2,q3⟩;have hz0:w.heap.size<w1.heap.size:=Nat.lt_of_succ_lt hz1)|(go_at_call 103;(with_reducible refine HCB.out.mono ?_);rintro e w1 ⟨a1,c1,rfl,hc1,hs1,hb1,hz1,hr1,q0,q1,q2,q3⟩;have hq:w.heap.size≠w.heap.size+2:=Nat.ne_of_lt (Nat.lt_add_of_pos_right (by decide));obtain ⟨r0,r1,r2,r3,r4⟩:=rc5 hr1;obtain ⟨s0,s1,s2,s3,s4⟩:=rf5 hr1;have HR1:=Lh hr1;clear hr1;simp only [qW] at r0 r1 r2 r3 r4))
 · have HM:=Lh (nL hc1 hs1 hb1 hz1)
   clear hs1 hb1 q0 q1 q2 q3 hz0 HCA HCB hc1 hz1
   generalize (w1.alloc (.cells #[.int .u8 v.kind,.int .i64 v.n,.string v.t,.slice a1 nn c1,.slice none 0 0] 25))=W at HM ⊢
   generalize w1.heap.size=cb at HM ⊢
   have x4:=HM.out.box
   have hgt:=HM.out.gt
   have hlt:=HM.out.lt
   go_wp2
   clear x4
   go_loopw [5,19] (fun _ i wr=>∃(k:Nat) (cs:List Value) (vi:Value) (its:List JV),k≤ni∧i=.int .i64 k∧Touch (· = cb) W wr∧wr.rowIs cb 25 5 (qW (.int .u8 v.kind) (.int .i64 v.n) (.string v.t) (.slice a1 nn c1) vi)∧wr.ownsRow W.heap.size 25 5 vi k cs∧qA wr W.heap.size (fun b=>b=cb∨vi.ownBlock=some b) its cs∧WkL v its k) (fun _ i _=>ni - (intOf i).toNat)
   case atStart=>exact ⟨0,[],.slice none 0 0,[],by omega,rfl,Touch.refl _ _,HM.out.row,World.ownsRow_nil _ _ _ _,qA.nil _ _ _,rfl,fun j h=>by simp at h⟩
   case round =>
    obtain ⟨k,cs,vi,its,hk,rfl,htch,hrow,hown,hrr,hwl⟩:=hrel
    have HWL:=Lh hwl
    clear hwl
    by_cases hlt2:k<ni
    · have hlt':k<v.items.length:=by rw [← HNI.out];exact hlt2
      have HB:Hid (Below hi w wr):=(HM.out.below.mono hhi).trans (htch.below (by omega) fun j hj e=>by omega)
      obtain ⟨b,off,an',cn',ai',ci',rfl,_,hb,y0,y1,y2,y3,y4,hrep⟩:=(H4.out.below HB.out lz lz lz).get k hlt'
      have hwk:=JV.wts_get v.items k hlt'
      have HWS:=Lh (fun it' (h:vJ v.items[k] it')=>WkL.snoc HWL.out hlt' h)
      have c4:wr.cell? ⟨cb,4,none⟩=some vi:=hrow.cell (by omega)
      have f4:wr.frozen? ⟨cb,4,none⟩=false:=hrow.frozen 4
      have hcz:cb<wr.heap.size:=hrow.lt
      have hwz:W.heap.size≤wr.heap.size:=htch.size
      have hnb:some cb≠vi.ownBlock:=fun e=>by have:=(hown.lt _ e.symm).1;omega
      have HRP:=Lh hrep
      have HRW:=Lh hrow
      have HTC:=Lh htch
      have HO:=Lh hown
      have HRR:=Lh hrr
      clear hrep hrow htch hown hrr
      generalize v.items[k]=it at *
      have HEN:=Lh (show Calls Tryz.prog 159 #[.slice ai' it.items.length ci',.int .i64 1,.pointer none,.bool false] (wr.alloc (.cells #[.int .u8 it.kind,.int .i64 it.n,.string it.t,.slice an' it.names.length cn',.slice ai' it.items.length ci'] 25)) (fun e w'=>∃(b:Bool) (q:Nat),e=.returned (.bool b)∧w'=(wr.alloc (.cells #[.int .u8 it.kind,.int .i64 it.n,.string it.t,.slice an' it.names.length cn',.slice ai' it.items.length ci'] 25)).drewN q∧(b=true→¬gT 0 it)) by
       have hvi:qH (wr.alloc (.cells #[.int .u8 it.kind,.int .i64 it.n,.string it.t,.slice an' it.names.length cn',.slice ai' it.items.length ci'] 25)) 0 hi ai' it.items:=by
        obtain ⟨an2,cn2,ai2,ci2,hx,_,_,_,h5⟩:=HRP.out.parts
        simp only [Value.agg.injEq,Array.mk.injEq,List.cons.injEq,and_true,Value.slice.injEq] at hx
        obtain ⟨_,_,_,_,rfl,_,_⟩:=hx
        exact h5.carry lz lz fun b _ hb=>Below.heap_alloc _ _ _ (by have:=HB.out.size;omega)
       have hwd:=it.wt_bd
       by_cases hs:gT 0 it
       · exact (j4 it ai' ci' 0 hi _ (by omega) hvi hs).mono fun e w' ⟨h1,h2⟩=>⟨false,0,h1,h2 ▸ rfl,fun h=>by cases h⟩
       · exact (uC 4294967296 it.items ai' ci' 1 none hi _ (by omega) (by omega) hvi (.inl rfl)).mono fun e w' ⟨b,q,h1,h2⟩=>⟨b,q,h1,h2,fun _=>hs⟩)
      go_wp2_with fail
      refine HEN.out.mono ?_
      clear HEN
      rintro e w9 ⟨b,q,rfl,hw9,hbs⟩
      have HBS:=Lh hbs
      have HW9:=Lh hw9
      have hb9:Below wr.heap.size wr w9:=by rw [hw9];exact Below.drewN ((Below.refl _ _).alloc lz _) _
      have hx9:w9.heap[wr.heap.size]?=some (.cells #[.int .u8 it.kind,.int .i64 it.n,.string it.t,.slice an' it.names.length cn',.slice ai' it.items.length ci'] 25 (0,0)):=by rw [hw9];exact heap_alloc_new wr _
      have hz9:w9.heap.size=wr.heap.size+1:=by rw [hw9];simp [World.drewN]
      have HB9:=Lh hb9
      have HX9:=Lh hx9
      have HZ9:=Lh hz9
      have d4:w9.cell? ⟨cb,4,none⟩=some vi:=(hb9.cell hcz).trans c4
      have g4:w9.frozen? ⟨cb,4,none⟩=false:=(hb9.frozen hcz).trans f4
      have x0:w9.cell? ⟨wr.heap.size,0,none⟩=some (.int .u8 it.kind):=xj hx9 rfl
      have x1:w9.cell? ⟨wr.heap.size,1,none⟩=some (.int .i64 it.n):=xj hx9 rfl
      have x2:w9.cell? ⟨wr.heap.size,2,none⟩=some (.string it.t):=xj hx9 rfl
      have x3:w9.cell? ⟨wr.heap.size,3,none⟩=some (.slice an' it.names.length cn'):=xj hx9 rfl
      have x4:w9.cell? ⟨wr.heap.size,4,none⟩=some (.slice ai' it.items.length ci'):=xj hx9 rfl
      have z0:∀j,w9.frozen? ⟨wr.heap.size,j,none⟩=false:=fun j=>by simp [World.frozen?,hx9]
      have y5:=z0 0;have y6:=z0 1;have y7:=z0 2;have y8:=z0 3;have y9:=z0 4
      have hncb:cb≠wr.heap.size:=by omega
      clear hw9 hb9 hx9 hz9 hbs z0 c4 f4
      cases b
      · have HCI:=Lh (show Calls Tryz.prog 160 #[.agg #[.int .u8 it.kind,.int .i64 it.n,.string it.t,.slice an' it.names.length cn',.slice ai' it.items.length ci']] w9.drew (fun e w3=>∃an3 cn3 ai3 ci3,e=.returned (.agg #[.int .u8 it.kind,.int .i64 it.n,.string it.t,.slice an3 it.names.length cn3,.slice ai3 it.items.length ci3])∧Rep w3 (wr.heap.size+1) w3.heap.size it (.agg #[.int .u8 it.kind,.int .i64 it.n,.string it.t,.slice an3 it.names.length cn3,.slice ai3 it.items.length ci3])∧Below (wr.heap.size+1) ((wr.alloc (.cells #[.int .u8 it.kind,.int .i64 it.n,.string it.t,.slice an' it.names.length cn',.slice ai' it.items.length ci'] 25)).drew) w3∧wr.heap.size<w3.heap.size∧w3.cell? ⟨cb,4,none⟩=some vi∧w3.frozen? ⟨cb,4,none⟩=false∧w3.ownsRow W.heap.size 25 5 vi k cs) by
         refine (zR 4294967296 it _ _ hi (by omega) (by omega) (by have:=HB.out.size;have:=HZ9.out;show hi≤w9.heap.size;omega) (HRP.out.below HB9.out.drew (by have:=HB.out.size;omega) (Nat.zero_le _) lz)).mono ?_
         rintro e w3 ⟨an3,cn3,ai3,ci3,rfl,hr3,hb3⟩
         have hz:(w9.drew).heap.size=wr.heap.size+1:=HZ9.out
         rw [hz] at hr3 hb3
         have hsz:=hb3.size
         rw [hz] at hsz
         have hb4:Below wr.heap.size wr w3:=HB9.out.drew.trans (hb3.mono (by omega))
         have hb5:Below (wr.heap.size+1) ((wr.alloc (.cells #[.int .u8 it.kind,.int .i64 it.n,.string it.t,.slice an' it.names.length cn',.slice ai' it.items.length ci'] 25)).drew) w3:=⟨hb4.os,hb4.tape,hb4.output,by simp;omega,fun k hk=>by rw [hb3.block k hk,HW9.out];rfl⟩
         exact ⟨an3,cn3,ai3,ci3,rfl,hr3,hb5,by omega,(hb3.cell (show cb<_ by omega)).trans d4,(hb3.frozen (show cb<_ by omega)).trans g4,qC HO.out hb4⟩)
        go_wp2_with fail
        go_region_law (first|(refine step_append_lies _ (by rfl) (.tmp 28) (.tmp 31) 23 (by rfl) W.heap.size 25 i0 _ 5 80 Tryz.underlying23 hi0 hz0 hz1 hz2 rfl (by omega) vi k cs (by rfl) (HO3.out.alloc _) ⟨w3.heap.size,0,none⟩ 1 1 (Array.toList #[.int .u8 it.kind,.int .i64 it.n,.string it.t,.slice an3 it.names.length cn3,.slice ai3 it.items.length ci3]) (by rfl) (by rfl) (World.news_of_block (cs:=#[.int .u8 it.kind,.int .i64 it.n,.string it.t,.slice an3 it.names.length cn3,.slice ai3 it.items.length ci3]) (t:=25) (fr:=(0,0)) (heap_alloc_new w3 _)) (by simp [Value.oneCell']) (by omega) (by unfold maxLen;omega) (by omega) (by simp;omega) (w3.heap.size+1) (by simp) ?_;intro g cap w4 hown4 hgrow4 hat4 hlt4;have c44:=qO hgrow4 hcz3 hnb c43;have f44:=qE hgrow4 hcz3 hnb f43;have HO4:=Lh hown4;have HG4:=Lh hgrow4;have HA4:=Lh hat4;clear hown4 hgrow4 hat4)|(go_simp;go_at_call 160;(with_reducible refine HCI.out.mono ?_);rintro e w3 ⟨an3,cn3,ai3,ci3,rfl,hr3,hb3,hz3,c43,f43,ho3⟩;have hcz3:cb<w3.heap.size:=Nat.lt_trans hcz hz3;have HO3:=Lh ho3;have HR3:=Lh hr3;have HB3:=Lh hb3;clear ho3 hr3 hb3))
        all_goals
         have HST:=Lh (row_step (j:=4) hlt HTC.out HRW.out HO.out HRR.out HB3.out HR3.out HG4.out HA4.out HO4.out)
         clear HTC HRW HO HRR HB3 HR3 HG4 HA4 HO4 HO3 HCI
         go_wp2
         go_roundw
         case rel =>
          obtain ⟨z1,z2,z3,z4⟩:=HST.out
          refine ⟨k+1,_,_,its ++ [it],by omega,by go_num,z1,z2.congr fun i hi=>?_,z3,z4,HWS.out it (.inl rfl)⟩
          rcases i with _|_|_|_|_|i <;> first|rfl|omega
         case measure=>simp [intOf];omega
      · have hns:=HBS.out rfl
        have HCI:=Lh (show Calls Tryz.prog 160 #[.agg #[.int .u8 0,.int .i64 0,.string ⟨#[]⟩,.slice none 0 0,.slice none 0 0]] ((((((w9.setCell ⟨wr.heap.size,0,none⟩ (.int .u8 0)).setCell ⟨wr.heap.size,1,none⟩ (.int .i64 0)).setCell ⟨wr.heap.size,2,none⟩ (.string ⟨#[]⟩)).setCell ⟨wr.heap.size,3,none⟩ (.slice none 0 0)).setCell ⟨wr.heap.size,4,none⟩ (.slice none 0 0)).drew) (fun e w3=>∃an3 cn3 ai3 ci3,e=.returned (.agg #[.int .u8 qo.kind,.int .i64 qo.n,.string qo.t,.slice an3 qo.names.length cn3,.slice ai3 qo.items.length ci3])∧Rep w3 (wr.heap.size+1) w3.heap.size qo (.agg #[.int .u8 qo.kind,.int .i64 qo.n,.string qo.t,.slice an3 qo.names.length cn3,.slice ai3 qo.items.length ci3])∧Below (wr.heap.size+1) ((wr.alloc (.cells #[.int .u8 0,.int .i64 0,.string ⟨#[]⟩,.slice none 0 0,.slice none 0 0] 25)).drew) w3∧wr.heap.size<w3.heap.size∧w3.cell? ⟨cb,4,none⟩=some vi∧w3.frozen? ⟨cb,4,none⟩=false∧w3.ownsRow W.heap.size 25 5 vi k cs) by
         obtain ⟨w8,hw8⟩:∃w8,w8=(((((w9.setCell ⟨wr.heap.size,0,none⟩ (.int .u8 0)).setCell ⟨wr.heap.size,1,none⟩ (.int .i64 0)).setCell ⟨wr.heap.size,2,none⟩ (.string ⟨#[]⟩)).setCell ⟨wr.heap.size,3,none⟩ (.slice none 0 0)).setCell ⟨wr.heap.size,4,none⟩ (.slice none 0 0)):=⟨_,rfl⟩
         rw [← hw8]
         have hk8:∀k,k≠wr.heap.size→w8.heap[k]?=w9.heap[k]?:=fun k hk=>by rw [hw8];exact se _ _ _ _ _ hk
         have hz8:w8.heap.size=wr.heap.size+1:=by rw [hw8,sQ];exact HZ9.out
         have hx8:w8.heap[wr.heap.size]?=some (.cells #[.int .u8 0,.int .i64 0,.string ⟨#[]⟩,.slice none 0 0,.slice none 0 0] 25 (0,0)):=by rw [hw8];exact mw HX9.out
         have hb8:Below wr.heap.size wr w8:=⟨by rw [hw8];exact HB9.out.os,by rw [hw8];exact HB9.out.tape,by rw [hw8];exact HB9.out.output,by omega,fun k hk=>(hk8 k (by omega)).trans (HB9.out.block k hk)⟩
         refine (zR 4294967296 qo zeroAggW _ hi (by decide) (by omega) (by have:=HB.out.size;show hi≤w8.heap.size;omega) (jY _ _ _)).mono ?_
         rintro e w3 ⟨an3,cn3,ai3,ci3,rfl,hr3,hb3⟩
         have hz:(w8.drew).heap.size=wr.heap.size+1:=hz8
         rw [hz] at hr3 hb3
         have hsz:=hb3.size
         rw [hz] at hsz
         have hb4:Below wr.heap.size wr w3:=hb8.drew.trans (hb3.mono (by omega))
         have hb5:Below (wr.heap.size+1) ((wr.alloc (.cells #[.int .u8 0,.int .i64 0,.string ⟨#[]⟩,.slice none 0 0,.slice none 0 0] 25)).drew) w3:=⟨hb4.os,hb4.tape,hb4.output,by simp;omega,fun k hk=>by
          rw [hb3.block k hk]
          by_cases e:k=wr.heap.size
          · subst e;exact hx8.trans (heap_alloc_new wr _).symm
          · exact (hb8.block k (by omega)).trans (Below.heap_alloc _ _ _ (by omega)).symm⟩
         exact ⟨an3,cn3,ai3,ci3,rfl,hr3,hb5,by omega,(hb4.cell hcz).trans ((HB9.out.cell hcz).symm.trans d4),(hb4.frozen hcz).trans ((HB9.out.frozen hcz).symm.trans g4),qC HO.out hb4⟩)
        obtain ⟨it0,hit0⟩:∃it0,it0=it:=⟨_,rfl⟩
        go_wp2_with fail
        go_region_law (first|(refine step_append_lies _ (by rfl) (.tmp 28) (.tmp 31) 23 (by rfl) W.heap.size 25 i0 _ 5 80 Tryz.underlying23 hi0 hz0 hz1 hz2 rfl (by omega) vi k cs (by rfl) (HO3.out.alloc _) ⟨w3.heap.size,0,none⟩ 1 1 (Array.toList #[.int .u8 qo.kind,.int .i64 qo.n,.string qo.t,.slice an3 qo.names.length cn3,.slice ai3 qo.items.length ci3]) (by rfl) (by rfl) (World.news_of_block (cs:=#[.int .u8 qo.kind,.int .i64 qo.n,.string qo.t,.slice an3 qo.names.length cn3,.slice ai3 qo.items.length ci3]) (t:=25) (fr:=(0,0)) (heap_alloc_new w3 _)) (by simp [Value.oneCell']) (by omega) (by unfold maxLen;omega) (by omega) (by simp;omega) (w3.heap.size+1) (by simp) ?_;intro g cap w4 hown4 hgrow4 hat4 hlt4;have c44:=qO hgrow4 hcz3 hnb c43;have f44:=qE hgrow4 hcz3 hnb f43;have HO4:=Lh hown4;have HG4:=Lh hgrow4;have HA4:=Lh hat4;clear hown4 hgrow4 hat4)|(go_simp;go_at_call 160;(with_reducible refine HCI.out.mono ?_);rintro e w3 ⟨an3,cn3,ai3,ci3,rfl,hr3,hb3,hz3,c43,f43,ho3⟩;have hcz3:cb<w3.heap.size:=Nat.lt_trans hcz hz3;have HO3:=Lh ho3;have HR3:=Lh hr3;have HB3:=Lh hb3;clear ho3 hr3 hb3))
        all_goals
         have HST:=Lh (row_step (it:=qo) (j:=4) hlt HTC.out HRW.out HO.out HRR.out HB3.out HR3.out HG4.out HA4.out HO4.out)
         clear HTC HRW HO HRR HB3 HR3 HG4 HA4 HO4 HO3 HCI
         go_wp2
         go_roundw
         case rel =>
          obtain ⟨z1,z2,z3,z4⟩:=HST.out
          refine ⟨k+1,_,_,its ++ [qo],by omega,by go_num,z1,z2.congr fun i hi=>?_,z3,z4,HWS.out qo (.inr ⟨rfl,hns⟩)⟩
          rcases i with _|_|_|_|_|i <;> first|rfl|omega
         case measure=>simp [intOf];omega
    · obtain rfl:k=ni:=by omega
      have hil:k=its.length:=HWL.out.1.symm
      obtain ⟨a5,c5,rfl,hc5,hv5⟩:=zD hown hrr hil
      rw [← hil] at hc5
      have HV5:=Lh hv5
      have hres:=(htch.row HM.out.res (by omega))
      obtain ⟨r0,r1,r2,r3,r4⟩:=rc5 hrow
      obtain ⟨t0,t1,t2,t3,t4⟩:=rc5 hres
      obtain ⟨s0,s1,s2,s3,s4⟩:=rf5 hres
      simp only [qW] at r0 r1 r2 r3 r4 t0 t1 t2 t3 t4
      rw [← hil] at r4
      have HIL:=Lh hil
      clear hil
      have HT:=Lh htch
      clear hrow hres hown hrr hv5 htch
      go_wp2
      obtain ⟨z1,z2,z3,z4⟩:=fd HM.out HT.out HV5.out rfl
      refine bodyPost_ret (results_cell_row Tryz.results91 _ _ (w.heap.size+1) 25 _ (0,0) _ rfl z4 Tryz.underlying25 rfl (by kernel_rfl)) rfl ⟨.mk v.kind v.n v.t v.names its,a1,c1,a5,c5,⟨rfl,rfl,rfl,rfl,by show its.length=_;rw [HWL.out.1,HNI.out],HWL.out.2⟩,?_,?_,z1⟩
      · show _=Ending.returned (.agg #[_,_,_,.slice a1 v.names.length c1,.slice a5 its.length c5])
        rw [← HNN.out,← HIL.out] <;> rfl
      · have hrep:=Rep.mk (v:=.mk v.kind v.n v.t v.names its) (cn:=c1) (ci:=c5) (by show v.names.length≤_;rw [← HNN.out];exact HM.out.cap) (by show its.length≤_;rw [← HIL.out];exact hc5) z2 z3
        exact hrep
 · have HM:=Lh (nR hc1 hs1 hb1 hz1 HR1.out)
   clear hs1 hb1 q0 q1 q2 q3 hq HCA HCB HR1 r0 r1 r2 r3 r4 s0 s1 s2 s3 s4 hc1 hz1
   generalize (((((w1.setCell ⟨w.heap.size+1+1,0,none⟩ (.int .u8 v.kind)).setCell ⟨w.heap.size+1+1,1,none⟩ (.int .i64 v.n)).setCell ⟨w.heap.size+1+1,2,none⟩ (.string v.t)).setCell ⟨w.heap.size+1+1,3,none⟩ (.slice a1 nn c1)).setCell ⟨w.heap.size+1+1,4,none⟩ (.slice none 0 0))=W at HM ⊢
   generalize w.heap.size+1+1=cb at HM ⊢
   have x4:=HM.out.box
   have hgt:=HM.out.gt
   have hlt:=HM.out.lt
   go_wp2
   clear x4
   go_loopw [5,19] (fun _ i wr=>∃(k:Nat) (cs:List Value) (vi:Value) (its:List JV),k≤ni∧i=.int .i64 k∧Touch (· = cb) W wr∧wr.rowIs cb 25 5 (qW (.int .u8 v.kind) (.int .i64 v.n) (.string v.t) (.slice a1 nn c1) vi)∧wr.ownsRow W.heap.size 25 5 vi k cs∧qA wr W.heap.size (fun b=>b=cb∨vi.ownBlock=some b) its cs∧WkL v its k) (fun _ i _=>ni - (intOf i).toNat)
   case atStart=>exact ⟨0,[],.slice none 0 0,[],by omega,rfl,Touch.refl _ _,HM.out.row,World.ownsRow_nil _ _ _ _,qA.nil _ _ _,rfl,fun j h=>by simp at h⟩
   case round =>
    obtain ⟨k,cs,vi,its,hk,rfl,htch,hrow,hown,hrr,hwl⟩:=hrel
    have HWL:=Lh hwl
    clear hwl
    by_cases hlt2:k<ni
    · have hlt':k<v.items.length:=by rw [← HNI.out];exact hlt2
      have HB:Hid (Below hi w wr):=(HM.out.below.mono hhi).trans (htch.below (by omega) fun j hj e=>by omega)
      obtain ⟨b,off,an',cn',ai',ci',rfl,_,hb,y0,y1,y2,y3,y4,hrep⟩:=(H4.out.below HB.out lz lz lz).get k hlt'
      have hwk:=JV.wts_get v.items k hlt'
      have HWS:=Lh (fun it' (h:vJ v.items[k] it')=>WkL.snoc HWL.out hlt' h)
      have c4:wr.cell? ⟨cb,4,none⟩=some vi:=hrow.cell (by omega)
      have f4:wr.frozen? ⟨cb,4,none⟩=false:=hrow.frozen 4
      have hcz:cb<wr.heap.size:=hrow.lt
      have hwz:W.heap.size≤wr.heap.size:=htch.size
      have hnb:some cb≠vi.ownBlock:=fun e=>by have:=(hown.lt _ e.symm).1;omega
      have HRP:=Lh hrep
      have HRW:=Lh hrow
      have HTC:=Lh htch
      have HO:=Lh hown
      have HRR:=Lh hrr
      clear hrep hrow htch hown hrr
      generalize v.items[k]=it at *
      have HEN:=Lh (show Calls Tryz.prog 159 #[.slice ai' it.items.length ci',.int .i64 1,.pointer none,.bool false] (wr.alloc (.cells #[.int .u8 it.kind,.int .i64 it.n,.string it.t,.slice an' it.names.length cn',.slice ai' it.items.length ci'] 25)) (fun e w'=>∃(b:Bool) (q:Nat),e=.returned (.bool b)∧w'=(wr.alloc (.cells #[.int .u8 it.kind,.int .i64 it.n,.string it.t,.slice an' it.names.length cn',.slice ai' it.items.length ci'] 25)).drewN q∧(b=true→¬gT 0 it)) by
       have hvi:qH (wr.alloc (.cells #[.int .u8 it.kind,.int .i64 it.n,.string it.t,.slice an' it.names.length cn',.slice ai' it.items.length ci'] 25)) 0 hi ai' it.items:=by
        obtain ⟨an2,cn2,ai2,ci2,hx,_,_,_,h5⟩:=HRP.out.parts
        simp only [Value.agg.injEq,Array.mk.injEq,List.cons.injEq,and_true,Value.slice.injEq] at hx
        obtain ⟨_,_,_,_,rfl,_,_⟩:=hx
        exact h5.carry lz lz fun b _ hb=>Below.heap_alloc _ _ _ (by have:=HB.out.size;omega)
       have hwd:=it.wt_bd
       by_cases hs:gT 0 it
       · exact (j4 it ai' ci' 0 hi _ (by omega) hvi hs).mono fun e w' ⟨h1,h2⟩=>⟨false,0,h1,h2 ▸ rfl,fun h=>by cases h⟩
       · exact (uC 4294967296 it.items ai' ci' 1 none hi _ (by omega) (by omega) hvi (.inl rfl)).mono fun e w' ⟨b,q,h1,h2⟩=>⟨b,q,h1,h2,fun _=>hs⟩)
      go_wp2_with fail
      refine HEN.out.mono ?_
      clear HEN
      rintro e w9 ⟨b,q,rfl,hw9,hbs⟩
      have HBS:=Lh hbs
      have HW9:=Lh hw9
      have hb9:Below wr.heap.size wr w9:=by rw [hw9];exact Below.drewN ((Below.refl _ _).alloc lz _) _
      have hx9:w9.heap[wr.heap.size]?=some (.cells #[.int .u8 it.kind,.int .i64 it.n,.string it.t,.slice an' it.names.length cn',.slice ai' it.items.length ci'] 25 (0,0)):=by rw [hw9];exact heap_alloc_new wr _
      have hz9:w9.heap.size=wr.heap.size+1:=by rw [hw9];simp [World.drewN]
      have HB9:=Lh hb9
      have HX9:=Lh hx9
      have HZ9:=Lh hz9
      have d4:w9.cell? ⟨cb,4,none⟩=some vi:=(hb9.cell hcz).trans c4
      have g4:w9.frozen? ⟨cb,4,none⟩=false:=(hb9.frozen hcz).trans f4
      have x0:w9.cell? ⟨wr.heap.size,0,none⟩=some (.int .u8 it.kind):=xj hx9 rfl
      have x1:w9.cell? ⟨wr.heap.size,1,none⟩=some (.int .i64 it.n):=xj hx9 rfl
      have x2:w9.cell? ⟨wr.heap.size,2,none⟩=some (.string it.t):=xj hx9 rfl
      have x3:w9.cell? ⟨wr.heap.size,3,none⟩=some (.slice an' it.names.length cn'):=xj hx9 rfl
      have x4:w9.cell? ⟨wr.heap.size,4,none⟩=some (.slice ai' it.items.length ci'):=xj hx9 rfl
      have z0:∀j,w9.frozen? ⟨wr.heap.size,j,none⟩=false:=fun j=>by simp [World.frozen?,hx9]
      have y5:=z0 0;have y6:=z0 1;have y7:=z0 2;have y8:=z0 3;have y9:=z0 4
      have hncb:cb≠wr.heap.size:=by omega
      clear hw9 hb9 hx9 hz9 hbs z0 c4 f4
      cases b
      · have HCI:=Lh (show Calls Tryz.prog 160 #[.agg #[.int .u8 it.kind,.int .i64 it.n,.string it.t,.slice an' it.names.length cn',.slice ai' it.items.length ci']] w9.drew (fun e w3=>∃an3 cn3 ai3 ci3,e=.returned (.agg #[.int .u8 it.kind,.int .i64 it.n,.string it.t,.slice an3 it.names.length cn3,.slice ai3 it.items.length ci3])∧Rep w3 (wr.heap.size+1) w3.heap.size it (.agg #[.int .u8 it.kind,.int .i64 it.n,.string it.t,.slice an3 it.names.length cn3,.slice ai3 it.items.length ci3])∧Below (wr.heap.size+1) ((wr.alloc (.cells #[.int .u8 it.kind,.int .i64 it.n,.string it.t,.slice an' it.names.length cn',.slice ai' it.items.length ci'] 25)).drew) w3∧wr.heap.size<w3.heap.size∧w3.cell? ⟨cb,4,none⟩=some vi∧w3.frozen? ⟨cb,4,none⟩=false∧w3.ownsRow W.heap.size 25 5 vi k cs) by
         refine (zR 4294967296 it _ _ hi (by omega) (by omega) (by have:=HB.out.size;have:=HZ9.out;show hi≤w9.heap.size;omega) (HRP.out.below HB9.out.drew (by have:=HB.out.size;omega) (Nat.zero_le _) lz)).mono ?_
         rintro e w3 ⟨an3,cn3,ai3,ci3,rfl,hr3,hb3⟩
         have hz:(w9.drew).heap.size=wr.heap.size+1:=HZ9.out
         rw [hz] at hr3 hb3
         have hsz:=hb3.size
         rw [hz] at hsz
         have hb4:Below wr.heap.size wr w3:=HB9.out.drew.trans (hb3.mono (by omega))
         have hb5:Below (wr.heap.size+1) ((wr.alloc (.cells #[.int .u8 it.kind,.int .i64 it.n,.string it.t,.slice an' it.names.length cn',.slice ai' it.items.length ci'] 25)).drew) w3:=⟨hb4.os,hb4.tape,hb4.output,by simp;omega,fun k hk=>by rw [hb3.block k hk,HW9.out];rfl⟩
         exact ⟨an3,cn3,ai3,ci3,rfl,hr3,hb5,by omega,(hb3.cell (show cb<_ by omega)).trans d4,(hb3.frozen (show cb<_ by omega)).trans g4,qC HO.out hb4⟩)
        go_wp2_with fail
        go_region_law (first|(refine step_append_lies _ (by rfl) (.tmp 28) (.tmp 31) 23 (by rfl) W.heap.size 25 i0 _ 5 80 Tryz.underlying23 hi0 hz0 hz1 hz2 rfl (by omega) vi k cs (by rfl) (HO3.out.alloc _) ⟨w3.heap.size,0,none⟩ 1 1 (Array.toList #[.int .u8 it.kind,.int .i64 it.n,.string it.t,.slice an3 it.names.length cn3,.slice ai3 it.items.length ci3]) (by rfl) (by rfl) (World.news_of_block (cs:=#[.int .u8 it.kind,.int .i64 it.n,.string it.t,.slice an3 it.names.length cn3,.slice ai3 it.items.length ci3]) (t:=25) (fr:=(0,0)) (heap_alloc_new w3 _)) (by simp [Value.oneCell']) (by omega) (by unfold maxLen;omega) (by omega) (by simp;omega) (w3.heap.size+1) (by simp) ?_;intro g cap w4 hown4 hgrow4 hat4 hlt4;have c44:=qO hgrow4 hcz3 hnb c43;have f44:=qE hgrow4 hcz3 hnb f43;have HO4:=Lh hown4;have HG4:=Lh hgrow4;have HA4:=Lh hat4;clear hown4 hgrow4 hat4)|(go_simp;go_at_call 160;(with_reducible refine HCI.out.mono ?_);rintro e w3 ⟨an3,cn3,ai3,ci3,rfl,hr3,hb3,hz3,c43,f43,ho3⟩;have hcz3:cb<w3.heap.size:=Nat.lt_trans hcz hz3;have HO3:=Lh ho3;have HR3:=Lh hr3;have HB3:=Lh hb3;clear ho3 hr3 hb3))
        all_goals
         have HST:=Lh (row_step (j:=4) hlt HTC.out HRW.out HO.out HRR.out HB3.out HR3.out HG4.out HA4.out HO4.out)
         clear HTC HRW HO HRR HB3 HR3 HG4 HA4 HO4 HO3 HCI
         go_wp2
         go_roundw
         case rel =>
          obtain ⟨z1,z2,z3,z4⟩:=HST.out
          refine ⟨k+1,_,_,its ++ [it],by omega,by go_num,z1,z2.congr fun i hi=>?_,z3,z4,HWS.out it (.inl rfl)⟩
          rcases i with _|_|_|_|_|i <;> first|rfl|omega
         case measure=>simp [intOf];omega
      · have hns:=HBS.out rfl
        have HCI:=Lh (show Calls Tryz.prog 160 #[.agg #[.int .u8 0,.int .i64 0,.string ⟨#[]⟩,.slice none 0 0,.slice none 0 0]] ((((((w9.setCell ⟨wr.heap.size,0,none⟩ (.int .u8 0)).setCell ⟨wr.heap.size,1,none⟩ (.int .i64 0)).setCell ⟨wr.heap.size,2,none⟩ (.string ⟨#[]⟩)).setCell ⟨wr.heap.size,3,none⟩ (.slice none 0 0)).setCell ⟨wr.heap.size,4,none⟩ (.slice none 0 0)).drew) (fun e w3=>∃an3 cn3 ai3 ci3,e=.returned (.agg #[.int .u8 qo.kind,.int .i64 qo.n,.string qo.t,.slice an3 qo.names.length cn3,.slice ai3 qo.items.length ci3])∧Rep w3 (wr.heap.size+1) w3.heap.size qo (.agg #[.int .u8 qo.kind,.int .i64 qo.n,.string qo.t,.slice an3 qo.names.length cn3,.slice ai3 qo.items.length ci3])∧Below (wr.heap.size+1) ((wr.alloc (.cells #[.int .u8 0,.int .i64 0,.string ⟨#[]⟩,.slice none 0 0,.slice none 0 0] 25)).drew) w3∧wr.heap.size<w3.heap.size∧w3.cell? ⟨cb,4,none⟩=some vi∧w3.frozen? ⟨cb,4,none⟩=false∧w3.ownsRow W.heap.size 25 5 vi k cs) by
         obtain ⟨w8,hw8⟩:∃w8,w8=(((((w9.setCell ⟨wr.heap.size,0,none⟩ (.int .u8 0)).setCell ⟨wr.heap.size,1,none⟩ (.int .i64 0)).setCell ⟨wr.heap.size,2,none⟩ (.string ⟨#[]⟩)).setCell ⟨wr.heap.size,3,none⟩ (.slice none 0 0)).setCell ⟨wr.heap.size,4,none⟩ (.slice none 0 0)):=⟨_,rfl⟩
         rw [← hw8]
         have hk8:∀k,k≠wr.heap.size→w8.heap[k]?=w9.heap[k]?:=fun k hk=>by rw [hw8];exact se _ _ _ _ _ hk
         have hz8:w8.heap.size=wr.heap.size+1:=by rw [hw8,sQ];exact HZ9.out
         have hx8:w8.heap[wr.heap.size]?=some (.cells #[.int .u8 0,.int .i64 0,.string ⟨#[]⟩,.slice none 0 0,.slice none 0 0] 25 (0,0)):=by rw [hw8];exact mw HX9.out
         have hb8:Below wr.heap.size wr w8:=⟨by rw [hw8];exact HB9.out.os,by rw [hw8];exact HB9.out.tape,by rw [hw8];exact HB9.out.output,by omega,fun k hk=>(hk8 k (by omega)).trans (HB9.out.block k hk)⟩
         refine (zR 4294967296 qo zeroAggW _ hi (by decide) (by omega) (by have:=HB.out.size;show hi≤w8.heap.size;omega) (jY _ _ _)).mono ?_
         rintro e w3 ⟨an3,cn3,ai3,ci3,rfl,hr3,hb3⟩
         have hz:(w8.drew).heap.size=wr.heap.size+1:=hz8
         rw [hz] at hr3 hb3
         have hsz:=hb3.size
         rw [hz] at hsz
         have hb4:Below wr.heap.size wr w3:=hb8.drew.trans (hb3.mono (by omega))
         have hb5:Below (wr.heap.size+1) ((wr.alloc (.cells #[.int .u8 0,.int .i64 0,.string ⟨#[]⟩,.slice none 0 0,.slice none 0 0] 25)).drew) w3:=⟨hb4.os,hb4.tape,hb4.output,by simp;omega,fun k hk=>by
          rw [hb3.block k hk]
          by_cases e:k=wr.heap.size
          · subst e;exact hx8.trans (heap_alloc_new wr _).symm
          · exact (hb8.block k (by omega)).trans (Below.heap_alloc _ _ _ (by omega)).symm⟩
         exact ⟨an3,cn3,ai3,ci3,rfl,hr3,hb5,by omega,(hb4.cell hcz).trans ((HB9.out.cell hcz).symm.trans d4),(hb4.frozen hcz).trans ((HB9.out.frozen hcz).symm.trans g4),qC HO.out hb4⟩)
        obtain ⟨it0,hit0⟩:∃it0,it0=it:=⟨_,rfl⟩
        go_wp2_with fail
        go_region_law (first|(refine step_append_lies _ (by rfl) (.tmp 28) (.tmp 31) 23 (by rfl) W.heap.size 25 i0 _ 5 80 Tryz.underlying23 hi0 hz0 hz1 hz2 rfl (by omega) vi k cs (by rfl) (HO3.out.alloc _) ⟨w3.heap.size,0,none⟩ 1 1 (Array.toList #[.int .u8 qo.kind,.int .i64 qo.n,.string qo.t,.slice an3 qo.names.length cn3,.slice ai3 qo.items.length ci3]) (by rfl) (by rfl) (World.news_of_block (cs:=#[.int .u8 qo.kind,.int .i64 qo.n,.string qo.t,.slice an3 qo.names.length cn3,.slice ai3 qo.items.length ci3]) (t:=25) (fr:=(0,0)) (heap_alloc_new w3 _)) (by simp [Value.oneCell']) (by omega) (by unfold maxLen;omega) (by omega) (by simp;omega) (w3.heap.size+1) (by simp) ?_;intro g cap w4 hown4 hgrow4 hat4 hlt4;have c44:=qO hgrow4 hcz3 hnb c43;have f44:=qE hgrow4 hcz3 hnb f43;have HO4:=Lh hown4;have HG4:=Lh hgrow4;have HA4:=Lh hat4;clear hown4 hgrow4 hat4)|(go_simp;go_at_call 160;(with_reducible refine HCI.out.mono ?_);rintro e w3 ⟨an3,cn3,ai3,ci3,rfl,hr3,hb3,hz3,c43,f43,ho3⟩;have hcz3:cb<w3.heap.size:=Nat.lt_trans hcz hz3;have HO3:=Lh ho3;have HR3:=Lh hr3;have HB3:=Lh hb3;clear ho3 hr3 hb3))
        all_goals
         have HST:=Lh (row_step (it:=qo) (j:=4) hlt HTC.out HRW.out HO.out HRR.out HB3.out HR3.out HG4.out HA4.out HO4.out)
         clear HTC HRW HO HRR HB3 HR3 HG4 HA4 HO4 HO3 HCI
         go_wp2
         go_roundw
         case rel =>
          obtain ⟨z1,z2,z3,z4⟩:=HST.out
          refine ⟨k+1,_,_,its ++ [qo],by omega,by go_num,z1,z2.congr fun i hi=>?_,z3,z4,HWS.out qo (.inr ⟨rfl,hns⟩)⟩
          rcases i with _|_|_|_|_|i <;> first|rfl|omega
         case measure=>simp [intOf];omega
    · obtain rfl:k=ni:=by omega
      have hil:k=its.length:=HWL.out.1.symm
      obtain ⟨a5,c5,rfl,hc5,hv5⟩:=zD hown hrr hil
      rw [← hil] at hc5
      have HV5:=Lh hv5
      have hres:=(htch.row HM.out.res (by omega))
      obtain ⟨r0,r1,r2,r3,r4⟩:=rc5 hrow
      obtain ⟨t0,t1,t2,t3,t4⟩:=rc5 hres
      obtain ⟨s0,s1,s2,s3,s4⟩:=rf5 hres
      simp only [qW] at r0 r1 r2 r3 r4 t0 t1 t2 t3 t4
      rw [← hil] at r4
      have HIL:=Lh hil
      clear hil
      have HT:=Lh htch
      clear hrow hres hown hrr hv5 htch
      go_wp2
      obtain ⟨z1,z2,z3,z4⟩:=fd HM.out HT.out HV5.out rfl
      refine bodyPost_ret (results_cell_row Tryz.results91 _ _ (w.heap.size+1) 25 _ (0,0) _ rfl z4 Tryz.underlying25 rfl (by kernel_rfl)) rfl ⟨.mk v.kind v.n v.t v.names its,a1,c1,a5,c5,⟨rfl,rfl,rfl,rfl,by show its.length=_;rw [HWL.out.1,HNI.out],HWL.out.2⟩,?_,?_,z1⟩
      · show _=Ending.returned (.agg #[_,_,_,.slice a1 v.names.length c1,.slice a5 its.length c5])
        rw [← HNN.out,← HIL.out] <;> rfl
      · have hrep:=Rep.mk (v:=.mk v.kind v.n v.t v.names its) (cn:=c1) (ci:=c5) (by show v.names.length≤_;rw [← HNN.out];exact HM.out.cap) (by show its.length≤_;rw [← HIL.out];exact hc5) z2 z3
        exact hrep
end Go.Proofs.YthgembbgcbaghaaGreatDoor
