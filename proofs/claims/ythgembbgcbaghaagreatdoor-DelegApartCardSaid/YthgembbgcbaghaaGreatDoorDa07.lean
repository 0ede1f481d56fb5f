/- The contracts of slices.Clone (texts), value.duplicate and value.Copy. -/
import Derived.Test.YthgembbgcbaghaaGreatDoorDa05
import Derived.Deep.RegionHeld3
import Derived.Deep.RegionLaw

namespace Go.Proofs.YthgembbgcbaghaaGreatDoor
open Go.RowKit
theorem pm (l:List ByteArray) (a:Option Addr) (c:Nat) (w:World) (hi:Nat) (h:qw w 0 hi a l) (hl:l.length≤4294967296) :
 Calls Tryz.prog 103 #[.slice a l.length c] w fun e w'=>∃a' c',e=.returned (.slice a' l.length c')∧l.length≤c'∧qw w' w.heap.size w'.heap.size a' l∧Below w.heap.size w w':=by
 rcases a with _|ad
 · have h0:l=[]:=by
    rcases h with h|⟨b,off,ha,_⟩
    · exact h
    · cases ha
   subst h0
   refine (Tryz.slices_Clone_string_nil 0 c w).mono ?_
   rintro e w' ⟨rfl,rfl⟩
   exact ⟨none,0,rfl,Nat.le_refl _,.inl rfl,Below.refl _ _⟩
 · by_cases h0:l=[]
   · subst h0
     refine (Tryz.slices_Clone_string_zero ad c w).mono ?_
     rintro e w' ⟨v',rfl,hown,_,hb⟩
     obtain ⟨a',c',rfl,hc,hs⟩:=xG (l:=[]) hown rfl
     exact ⟨a',c',rfl,hc,hs,hb⟩
   · rcases h with h|⟨b,off,ha,_,_,hc⟩
     · exact absurd h h0
     · obtain rfl:ad=⟨b,off,none⟩:=Option.some.inj ha
       refine (Tryz.slices_Clone_string b off l.length c l w lz (by omega) (fun j hj=>by rw [hc j hj,List.getD_eq_getElem?_getD,List.getElem?_eq_getElem hj];rfl)).mono ?_
       rintro e w' ⟨v',rfl,hown,_,hb⟩
       rw [List.take_length] at hown
       obtain ⟨a',c',rfl,hc',hs⟩:=xG hown rfl
       exact ⟨a',c',rfl,hc',hs,hb⟩
theorem wQ {w:World} {b c o:Nat} {u v0 v1 v2 v3 v4:Value} (hq:b≠c) (h:w.cell? ⟨b,o,none⟩=some u) :
 (((((w.setCell ⟨c,0,none⟩ v0).setCell ⟨c,1,none⟩ v1).setCell ⟨c,2,none⟩ v2).setCell ⟨c,3,none⟩ v3).setCell ⟨c,4,none⟩ v4).cell? ⟨b,o,none⟩=some u:=by
 rw [zM _ hq,zM _ hq,zM _ hq,zM _ hq,zM _ hq];exact h
structure Mid (v:JV) (w W:World) (cb:Nat) (ai a1:Option Addr) (ni nn c1 ci:Nat):Prop where
 below:Below w.heap.size w W
 row:W.rowIs cb 25 5 (qQ (.int .u8 v.kind) (.int .i64 v.n) (.string v.t) (.slice a1 nn c1) (.slice none 0 0))
 res:W.rowIs (w.heap.size+1) 25 5 (qQ (.int .u8 0) (.int .i64 0) (.string ⟨#[]⟩) (.slice none 0 0) (.slice none 0 0))
 box:W.cell? ⟨w.heap.size,4,none⟩=some (.slice ai ni ci)
 gt:w.heap.size+1<cb
 lt:cb<W.heap.size
 cap:nn≤c1
 names:∃lo hi,w.heap.size+1<lo∧hi≤W.heap.size∧¬(lo≤cb∧cb<hi)∧qw W lo hi a1 v.names
theorem aj {v:JV} {w w1:World} {an ai a1:Option Addr} {ni nn cn c1 ci:Nat} (hc1:nn≤c1) (hs1:qw w1 (w.heap.size+2) w1.heap.size a1 v.names)
 (hb1:Below (w.heap.size+2) (((w.alloc (.cells #[.int .u8 v.kind,.int .i64 v.n,.string v.t,.slice an nn cn,.slice ai ni ci] 25)).alloc (.cells #[.int .u8 0,.int .i64 0,.string ⟨#[]⟩,.slice none 0 0,.slice none 0 0] 25)).drew) w1) (hz1:w.heap.size+1<w1.heap.size) :
 Mid v w (w1.alloc (.cells #[.int .u8 v.kind,.int .i64 v.n,.string v.t,.slice a1 nn c1,.slice none 0 0] 25)) w1.heap.size ai a1 ni nn c1 ci where
 below:=((((Below.refl _ _).alloc lz _).alloc (by simp) _).drew.trans (hb1.mono (by omega))).alloc (by omega) _
 row:=qp _ _ _ _ _ _ _
 res:=by
  have:=qp (w.alloc (.cells #[.int .u8 v.kind,.int .i64 v.n,.string v.t,.slice an nn cn,.slice ai ni ci] 25)) (.int .u8 0) (.int .i64 0) (.string ⟨#[]⟩) (.slice none 0 0) (.slice none 0 0) 25
  rw [show (w.alloc (.cells #[.int .u8 v.kind,.int .i64 v.n,.string v.t,.slice an nn cn,.slice ai ni ci] 25)).heap.size=w.heap.size+1 by simp] at this
  exact (qj hb1 this.drew (by omega)).alloc _
 box:=by
  rw [qt _ (by show w.heap.size<w1.heap.size;omega),hb1.cell (by show w.heap.size<_;omega)];go_simp
 gt:=hz1
 lt:=by simp
 cap:=hc1
 names:=⟨w.heap.size+2,w1.heap.size,by omega,by simp,by omega,hs1.carry lz lz fun b _ hb=>Below.heap_alloc _ _ _ hb⟩
theorem ak {v:JV} {w w1:World} {an ai a1:Option Addr} {ni nn cn c1 ci:Nat} (hc1:nn≤c1) (hs1:qw w1 (w.heap.size+3) w1.heap.size a1 v.names)
 (hb1:Below (w.heap.size+3) ((((w.alloc (.cells #[.int .u8 v.kind,.int .i64 v.n,.string v.t,.slice an nn cn,.slice ai ni ci] 25)).alloc (.cells #[.int .u8 0,.int .i64 0,.string ⟨#[]⟩,.slice none 0 0,.slice none 0 0] 25)).alloc (.cells #[.int .u8 0,.int .i64 0,.string ⟨#[]⟩,.slice none 0 0,.slice none 0 0] 25)).drew) w1) (hz1:w.heap.size+2<w1.heap.size) {f:Nat→Value} (hr:w1.rowIs (w.heap.size+2) 25 5 f) :
 Mid v w (((((w1.setCell ⟨w.heap.size+1+1,0,none⟩ (.int .u8 v.kind)).setCell ⟨w.heap.size+1+1,1,none⟩ (.int .i64 v.n)).setCell ⟨w.heap.size+1+1,2,none⟩ (.string v.t)).setCell ⟨w.heap.size+1+1,3,none⟩ (.slice a1 nn c1)).setCell ⟨w.heap.size+1+1,4,none⟩ (.slice none 0 0)) (w.heap.size+1+1) ai a1 ni nn c1 ci where
 below:=by
  have h0:Below w.heap.size w w1:=((((Below.refl _ _).alloc lz _).alloc (by simp) _).alloc (by simp;omega) _).drew.trans (hb1.mono (by omega))
  have hw:w.heap.size≤w.heap.size+1+1:=by omega
  exact ((((h0.setCell (by exact hw) _).setCell (by exact hw) _).setCell (by exact hw) _).setCell (by exact hw) _).setCell (by exact hw) _
 row:=by
  refine (((((hr.set 0 _).set 1 _).set 2 _).set 3 _).set 4 _).congr fun j hj=>?_
  rcases j with _|_|_|_|_|j <;> first|rfl|omega
 res:=by
  have:=qp (w.alloc (.cells #[.int .u8 v.kind,.int .i64 v.n,.string v.t,.slice an nn cn,.slice ai ni ci] 25)) (.int .u8 0) (.int .i64 0) (.string ⟨#[]⟩) (.slice none 0 0) (.slice none 0 0) 25
  rw [show (w.alloc (.cells #[.int .u8 v.kind,.int .i64 v.n,.string v.t,.slice an nn cn,.slice ai ni ci] 25)).heap.size=w.heap.size+1 by simp] at this
  have h1:=qj hb1 (this.alloc _).drew (by omega)
  have hw:w.heap.size+1≠w.heap.size+1+1:=by omega
  exact ((((h1.setOther (by exact hw) _).setOther (by exact hw) _).setOther (by exact hw) _).setOther (by exact hw) _).setOther (by exact hw) _
 box:=by
  refine wQ (by omega) ?_
  rw [hb1.cell (by show w.heap.size<_;omega)];go_simp
 gt:=by omega
 lt:=by simp [World.setCell];omega
 cap:=hc1
 names:=⟨w.heap.size+3,w1.heap.size,by omega,by simp [World.setCell],by omega,hs1.carry lz lz fun b h0 _=>by
  have hw:b≠w.heap.size+1+1:=by omega
  rw [Below.heap_setCell _ _ _ _ hw,Below.heap_setCell _ _ _ _ hw,Below.heap_setCell _ _ _ _ hw,Below.heap_setCell _ _ _ _ hw,Below.heap_setCell _ _ _ _ hw]⟩
theorem qB {w w':World} {base e size n:Nat} {v:Value} {cs:List Value} (h:w.ownsRow base e size v n cs) (hb:Below w.heap.size w w'):w'.ownsRow base e size v n cs:=by
 refine ⟨h.1,?_⟩
 rcases h.2 with h2|⟨g,cap,cur,hv,hg,hh,r⟩
 · exact .inl h2
 · refine .inr ⟨g,cap,cur,hv,hg,?_,r⟩
   have hlt:g<w.heap.size:=by
    rcases Nat.lt_or_ge g w.heap.size with hlt|hge
    · exact hlt
    · rw [Array.getElem?_eq_none hge] at hh;cases hh
   rw [hb.block g hlt];exact hh
theorem xv:(Tryz.prog.info? 25).map (fun i=>(i.zero,i.size,i.bytes))=some (some (.agg #[.int .u8 0,.int .i64 0,.string ⟨#[]⟩,.slice none 0 0,.slice none 0 0]),5,80):=by kernel_rfl
theorem qS {w w':World} {o:Obj} {row:Option Nat} {b j:Nat} {u:Value} (h:(w.alloc o).grownBy w' row) (hb:b<w.heap.size) (hn:some b≠row) (hc:w.cell? ⟨b,j,none⟩=some u):w'.cell? ⟨b,j,none⟩=some u:=by
 rw [World.cell?_of_block (w:=w.alloc o) (h.block b (by simp;omega) hn),qt o hb];exact hc
theorem qO {w w':World} {o:Obj} {row:Option Nat} {b j:Nat} (h:(w.alloc o).grownBy w' row) (hb:b<w.heap.size) (hn:some b≠row) (hc:w.frozen? ⟨b,j,none⟩=false):w'.frozen? ⟨b,j,none⟩=false:=by
 rw [World.frozen?_of_block (w:=w.alloc o) (h.block b (by simp;omega) hn),World.frozen?_of_block (w:=w) (Below.heap_alloc w o b hb)];exact hc
theorem wZ {v:JV} {w W wr:World} {cb:Nat} {ai a1 a5:Option Addr} {ni nn c1 ci:Nat} {v0 v1 v2 v3 v4:Value} (hM:Mid v w W cb ai a1 ni nn c1 ci) (ht:Touch (· = cb) W wr) (hv:qR wr W.heap.size wr.heap.size a5 v.items) {w6:World}
 (h6:w6=(((((wr.setCell ⟨w.heap.size+1,0,none⟩ v0).setCell ⟨w.heap.size+1,1,none⟩ v1).setCell ⟨w.heap.size+1,2,none⟩ v2).setCell ⟨w.heap.size+1,3,none⟩ v3).setCell ⟨w.heap.size+1,4,none⟩ v4)) :
 Below w.heap.size w w6∧qw w6 w.heap.size w6.heap.size a1 v.names∧qR w6 w.heap.size w6.heap.size a5 v.items∧w6.heap[w.heap.size+1]?=some (.cells #[v0,v1,v2,v3,v4] 25 (0,0)):=by
 have h1:=hM.below.size
 have h2:=hM.gt
 have h3:=hM.lt
 have h4:=ht.size
 have hz:w6.heap.size=wr.heap.size:=by rw [h6];simp [World.setCell]
 have hs:∀b,b≠w.heap.size+1→w6.heap[b]?=wr.heap[b]?:=fun b hw=>by
  rw [h6,Below.heap_setCell _ _ _ _ hw,Below.heap_setCell _ _ _ _ hw,Below.heap_setCell _ _ _ _ hw,Below.heap_setCell _ _ _ _ hw,Below.heap_setCell _ _ _ _ hw]
 have hb:Below w.heap.size w wr:=hM.below.trans (ht.below h1 fun k hk e=>by omega)
 have hw:w.heap.size≤w.heap.size+1:=by omega
 refine ⟨?_,?_,hv.carry h1 (by omega) fun b hb1 hb2=>hs b (by omega),?_⟩
 · rw [h6];exact ((((hb.setCell (by exact hw) _).setCell (by exact hw) _).setCell (by exact hw) _).setCell (by exact hw) _).setCell (by exact hw) _
 · obtain ⟨lo,hi,k1,k2,k3,k4⟩:=hM.names
   exact k4.carry (by omega) (by omega) fun b hb1 hb2=>by
    rw [hs b (by omega)];exact ht.block b (by omega) fun e=>k3 ⟨by omega,by omega⟩
 · have hr:=ht.row hM.res (by omega)
   have:=(((((hr.set 0 v0).set 1 v1).set 2 v2).set 3 v3).set 4 v4).congr (g:=qQ v0 v1 v2 v3 v4) fun j hj=>by
    rcases j with _|_|_|_|_|j <;> first|rfl|omega
   rw [← h6] at this
   exact qi this
def vm (v:JV) (w:World) (e:Ending) (w':World):Prop :=
 ∃an cn ai ci,e=.returned (.agg #[.int .u8 v.kind,.int .i64 v.n,.string v.t,.slice an v.names.length cn,.slice ai v.items.length ci]) ∧
  Rep w' w.heap.size w'.heap.size v (.agg #[.int .u8 v.kind,.int .i64 v.n,.string v.t,.slice an v.names.length cn,.slice ai v.items.length ci])∧Below w.heap.size w w'
set_option maxRecDepth 100000 in
set_option maxHeartbeats 400000 in
theorem kE (N:Nat):∀(v:JV) (x:Value) (w:World) (hi:Nat),v.wt≤N→N≤4294967296→hi≤w.heap.size→Rep w 0 hi v x →
 Calls Tryz.prog 160 #[x] w (vm v w):=by
 induction N with
 | zero=>intro v x w hi h;have:=v.wt_pos;omega
 | succ N ih =>
  intro v x w hi hN hM hhi hR
  obtain ⟨an,cn,ai,ci,rfl,h1,h2,h3,h4⟩:=hR.parts
  obtain ⟨b1,b2,b3,b4⟩:=v.wt_bd
  have IH:=Lh ih;clear ih
  have H3:=Lh h3
  have H4:=Lh h4
  clear h3 h4 hR
  obtain ⟨nn,hnn⟩:∃nn,nn=v.names.length:=⟨_,rfl⟩
  obtain ⟨ni,hni⟩:∃ni,ni=v.items.length:=⟨_,rfl⟩
  rw [← hnn,← hni]
  rw [← hnn] at b2
  rw [← hni] at b3
  have HNN:=Lh hnn
  have HNI:=Lh hni
  clear hnn hni h1 h2
  obtain ⟨i0,hi0,hz0,hz1,hz2⟩:=info_parts xv
  go_enter Tryz.func160,Tryz.ntmps160
  go_wp2_with fail
  have HC:=Lh (fun (w1:World) (h:Below w.heap.size w w1)=>show Calls Tryz.prog 103 #[.slice an nn cn] w1 (fun e w'=>∃a' c',e=.returned (.slice a' nn c')∧nn≤c'∧qw w' w1.heap.size w'.heap.size a' v.names∧Below w1.heap.size w1 w') by
   have:=pm v.names an cn w1 hi (H3.out.below h hhi lz lz) (by rw [← HNN.out];omega)
   rwa [← HNN.out] at this)
  have HCA:=Lh (show Calls Tryz.prog 103 #[.slice an nn cn] (((w.alloc (.cells #[.int .u8 v.kind,.int .i64 v.n,.string v.t,.slice an nn cn,.slice ai ni ci] 25)).alloc (.cells #[.int .u8 0,.int .i64 0,.string ⟨#[]⟩,.slice none 0 0,.slice none 0 0] 25)).drew) (fun e w1=>∃a1 c1,e=.returned (.slice a1 nn c1)∧nn≤c1∧qw w1 (w.heap.size+2) w1.heap.size a1 v.names∧Below (w.heap.size+2) (((w.alloc (.cells #[.int .u8 v.kind,.int .i64 v.n,.string v.t,.slice an nn cn,.slice ai ni ci] 25)).alloc (.cells #[.int .u8 0,.int .i64 0,.string ⟨#[]⟩,.slice none 0 0,.slice none 0 0] 25)).drew) w1∧w.heap.size+1<w1.heap.size∧w1.cell? ⟨w.heap.size,0,none⟩=some (.int .u8 v.kind)∧w1.cell? ⟨w.heap.size,1,none⟩=some (.int .i64 v.n)∧w1.cell? ⟨w.heap.size,2,none⟩=some (.string v.t)∧w1.cell? ⟨w.heap.size,3,none⟩=some (.slice an nn cn)) by
   refine (HC.out _ ((((Below.refl _ _).alloc lz _).alloc (by simp) _).drew)).mono ?_
   rintro e w1 ⟨a1,c1,rfl,hc1,hs1,hb1⟩
   have hz:(((w.alloc (.cells #[.int .u8 v.kind,.int .i64 v.n,.string v.t,.slice an nn cn,.slice ai ni ci] 25)).alloc (.cells #[.int .u8 0,.int .i64 0,.string ⟨#[]⟩,.slice none 0 0,.slice none 0 0] 25)).drew).heap.size=w.heap.size+2:=by simp
   rw [hz] at hs1 hb1
   have hsz:=hb1.size
   rw [hz] at hsz
   refine ⟨a1,c1,rfl,hc1,hs1,hb1,by omega,?_,?_,?_,?_⟩ <;> (rw [hb1.cell (by show w.heap.size<_;omega)];go_simp))
  have HCB:=Lh (show Calls Tryz.prog 103 #[.slice an nn cn] ((((w.alloc (.cells #[.int .u8 v.kind,.int .i64 v.n,.string v.t,.slice an nn cn,.slice ai ni ci] 25)).alloc (.cells #[.int .u8 0,.int .i64 0,.string ⟨#[]⟩,.slice none 0 0,.slice none 0 0] 25)).alloc (.cells #[.int .u8 0,.int .i64 0,.string ⟨#[]⟩,.slice none 0 0,.slice none 0 0] 25)).drew) (fun e w1=>∃a1 c1,e=.returned (.slice a1 nn c1)∧nn≤c1∧qw w1 (w.heap.size+3) w1.heap.size a1 v.names∧Below (w.heap.size+3) ((((w.alloc (.cells #[.int .u8 v.kind,.int .i64 v.n,.string v.t,.slice an nn cn,.slice ai ni ci] 25)).alloc (.cells #[.int .u8 0,.int .i64 0,.string ⟨#[]⟩,.slice none 0 0,.slice none 0 0] 25)).alloc (.cells #[.int .u8 0,.int .i64 0,.string ⟨#[]⟩,.slice none 0 0,.slice none 0 0] 25)).drew) w1∧w.heap.size+2<w1.heap.size∧w1.rowIs (w.heap.size+2) 25 5 (qQ (.int .u8 0) (.int .i64 0) (.string ⟨#[]⟩) (.slice none 0 0) (.slice none 0 0))∧w1.cell? ⟨w.heap.size,0,none⟩=some (.int .u8 v.kind)∧w1.cell? ⟨w.heap.size,1,none⟩=some (.int .i64 v.n)∧w1.cell? ⟨w.heap.size,2,none⟩=some (.string v.t)∧w1.cell? ⟨w.heap.size,3,none⟩=some (.slice an nn cn)) by
   refine (HC.out _ (((((Below.refl _ _).alloc lz _).alloc (by simp) _).alloc (by simp;omega) _).drew)).mono ?_
   rintro e w1 ⟨a1,c1,rfl,hc1,hs1,hb1⟩
   have hz:((((w.alloc (.cells #[.int .u8 v.kind,.int .i64 v.n,.string v.t,.slice an nn cn,.slice ai ni ci] 25)).alloc (.cells #[.int .u8 0,.int .i64 0,.string ⟨#[]⟩,.slice none 0 0,.slice none 0 0] 25)).alloc (.cells #[.int .u8 0,.int .i64 0,.string ⟨#[]⟩,.slice none 0 0,.slice none 0 0] 25)).drew).heap.size=w.heap.size+3:=by simp
   rw [hz] at hs1 hb1
   have hsz:=hb1.size
   rw [hz] at hsz
   have hr0:=(qp ((w.alloc (.cells #[.int .u8 v.kind,.int .i64 v.n,.string v.t,.slice an nn cn,.slice ai ni ci] 25)).alloc (.cells #[.int .u8 0,.int .i64 0,.string ⟨#[]⟩,.slice none 0 0,.slice none 0 0] 25)) (.int .u8 0) (.int .i64 0) (.string ⟨#[]⟩) (.slice none 0 0) (.slice none 0 0) 25).drew
   rw [show ((w.alloc (.cells #[.int .u8 v.kind,.int .i64 v.n,.string v.t,.slice an nn cn,.slice ai ni ci] 25)).alloc (.cells #[.int .u8 0,.int .i64 0,.string ⟨#[]⟩,.slice none 0 0,.slice none 0 0] 25)).heap.size=w.heap.size+2 by simp] at hr0
   refine ⟨a1,c1,rfl,hc1,hs1,hb1,by omega,qj hb1 hr0 (by omega),?_,?_,?_,?_⟩ <;> (rw [hb1.cell (by show w.heap.size<_;omega)];go_simp))
  clear HC
  go_region_held3 (fun w'=>w'.cell? ⟨w.heap.size,0,none⟩=some (.int .u8 v.kind)∧w'.cell? ⟨w.heap.size,1,none⟩=some (.int .i64 v.n)∧w'.cell? ⟨w.heap.size,2,none⟩=some (.string v.t)∧w'.cell? ⟨w.heap.size,3,none⟩=some (.slice an nn cn)) (first|(with_reducible exact ⟨q0,q1,q2,q3⟩)|(with_reducible exact ⟨(qt _ hz0).trans q0,(qt _ hz0).trans q1,(qt _ hz0).trans q2,(qt _ hz0).trans q3⟩)|(with_reducible exact ⟨wQ hq q0,wQ hq q1,wQ hq q2,wQ hq q3⟩)|(go_keep;done)) (first|(go_at_call 103;(with_reducible refine HCA.out.mono ?_);rintro e w1 ⟨a1,c1,rfl,hc1,hs1,hb1,hz1,q0,q1,q2,q3⟩;have hz0:w.heap.size<w1.heap.size:=Nat.lt_of_succ_lt hz1)|(go_at_call 103;(with_reducible refine HCB.out.mono ?_);rintro e w1 ⟨a1,c1,rfl,hc1,hs1,hb1,hz1,hr1,q0,q1,q2,q3⟩;have hq:w.heap.size≠w.heap.size+2:=Nat.ne_of_lt (Nat.lt_add_of_pos_right (by decide));obtain ⟨r0,r1,r2,r3,r4⟩:=rc5 hr1;obtain ⟨s0,s1,s2,s3,s4⟩:=rf5 hr1;have HR1:=Lh hr1;clear hr1;simp only [qQ] at r0 r1 r2 r3 r4))
  · have HM:=Lh (aj hc1 hs1 hb1 hz1)
    clear hs1 hb1 q0 q1 q2 q3 hz0 HCA HCB hc1 hz1
    generalize (w1.alloc (.cells #[.int .u8 v.kind,.int .i64 v.n,.string v.t,.slice a1 nn c1,.slice none 0 0] 25))=W at HM ⊢
    generalize w1.heap.size=cb at HM ⊢
    have x4:=HM.out.box
    have hgt:=HM.out.gt
    have hlt:=HM.out.lt
    go_wp2
    clear x4
    go_loopw [5,19] (fun _ i wr=>∃(k:Nat) (cs:List Value) (vi:Value),k≤ni∧i=.int .i64 k∧Touch (· = cb) W wr∧wr.rowIs cb 25 5 (qQ (.int .u8 v.kind) (.int .i64 v.n) (.string v.t) (.slice a1 nn c1) vi)∧wr.ownsRow W.heap.size 25 5 vi k cs∧qM wr W.heap.size (fun b=>b=cb∨vi.ownBlock=some b) (v.items.take k) cs) (fun _ i _=>ni - (intOf i).toNat)
    case atStart=>exact ⟨0,[],.slice none 0 0,by omega,rfl,Touch.refl _ _,HM.out.row,World.ownsRow_nil _ _ _ _,by simpa using qM.nil _ _ _⟩
    case round =>
     obtain ⟨k,cs,vi,hk,rfl,htch,hrow,hown,hrr⟩:=hrel
     by_cases hlt2:k<ni
     · have hlt':k<v.items.length:=by rw [← HNI.out];exact hlt2
       have HB:Hid (Below hi w wr):=(HM.out.below.mono hhi).trans (htch.below (by omega) fun j hj e=>by omega)
       obtain ⟨b,off,an',cn',ai',ci',rfl,_,hb,y0,y1,y2,y3,y4,hrep⟩:=(H4.out.below HB.out lz lz lz).get k hlt'
       have hwk:=JV.wts_get v.items k hlt'
       have HTK:=Lh (show v.items.take (k+1)=v.items.take k ++ [v.items[k]] from List.take_succ_eq_append_getElem hlt')
       have c4:wr.cell? ⟨cb,4,none⟩=some vi:=hrow.cell (by omega)
       have f4:wr.frozen? ⟨cb,4,none⟩=false:=hrow.frozen 4
       have hcz:cb<wr.heap.size:=hrow.lt
       have hwz:W.heap.size≤wr.heap.size:=htch.size
       have hnb:some cb≠vi.ownBlock:=fun e=>by have:=(hown.lt _ e.symm).1;omega
       have HRP:=Lh hrep
       have HRW:=Lh hrow
       have HTC:=Lh htch
       have HO:=Lh hown
       have HRR:=Lh hrr
       clear hrep hrow htch hown hrr
       generalize v.items[k]=it at *
       have HCI:=Lh (show Calls Tryz.prog 160 #[.agg #[.int .u8 it.kind,.int .i64 it.n,.string it.t,.slice an' it.names.length cn',.slice ai' it.items.length ci']] ((wr.alloc (.cells #[.int .u8 it.kind,.int .i64 it.n,.string it.t,.slice an' it.names.length cn',.slice ai' it.items.length ci'] 25)).drew) (fun e w3=>∃an3 cn3 ai3 ci3,e=.returned (.agg #[.int .u8 it.kind,.int .i64 it.n,.string it.t,.slice an3 it.names.length cn3,.slice ai3 it.items.length ci3])∧Rep w3 (wr.heap.size+1) w3.heap.size it (.agg #[.int .u8 it.kind,.int .i64 it.n,.string it.t,.slice an3 it.names.length cn3,.slice ai3 it.items.length ci3])∧Below (wr.heap.size+1) ((wr.alloc (.cells #[.int .u8 it.kind,.int .i64 it.n,.string it.t,.slice an' it.names.length cn',.slice ai' it.items.length ci'] 25)).drew) w3∧wr.heap.size<w3.heap.size∧w3.cell? ⟨cb,4,none⟩=some vi∧w3.frozen? ⟨cb,4,none⟩=false∧w3.ownsRow W.heap.size 25 5 vi k cs) by
        refine (IH.out it _ _ hi (by omega) (by omega) (by have:=HB.out.size;simp;omega) (HRP.out.below ((Below.refl _ _).alloc lz _).drew (by omega) lz lz)).mono ?_
        rintro e w3 ⟨an3,cn3,ai3,ci3,rfl,hr3,hb3⟩
        have hz:((wr.alloc (.cells #[.int .u8 it.kind,.int .i64 it.n,.string it.t,.slice an' it.names.length cn',.slice ai' it.items.length ci'] 25)).drew).heap.size=wr.heap.size+1:=by simp
        rw [hz] at hr3 hb3
        have hsz:=hb3.size
        rw [hz] at hsz
        have hb4:Below wr.heap.size wr w3:=((Below.refl _ _).alloc lz _).drew.trans (hb3.mono (by omega))
        exact ⟨an3,cn3,ai3,ci3,rfl,hr3,hb3,by omega,by rw [hb4.cell hcz];exact c4,by rw [hb4.frozen hcz];exact f4,qB HO.out hb4⟩)
       go_wp2_with fail
       go_region_law (first|(refine step_append_lies _ (by rfl) (.tmp 24) (.tmp 27) 23 (by rfl) W.heap.size 25 i0 _ 5 80 Tryz.underlying23 hi0 hz0 hz1 hz2 rfl (by omega) vi k cs (by rfl) (HO3.out.alloc _) ⟨w3.heap.size,0,none⟩ 1 1 (Array.toList #[.int .u8 it.kind,.int .i64 it.n,.string it.t,.slice an3 it.names.length cn3,.slice ai3 it.items.length ci3]) (by rfl) (by rfl) (World.news_of_block (cs:=#[.int .u8 it.kind,.int .i64 it.n,.string it.t,.slice an3 it.names.length cn3,.slice ai3 it.items.length ci3]) (t:=25) (fr:=(0,0)) (heap_alloc_new w3 _)) (by simp [Value.oneCell']) (by omega) (by unfold maxLen;omega) (by omega) (by simp;omega) (w3.heap.size+1) (by simp) ?_;intro g cap w4 hown4 hgrow4 hat4 hlt4;have c44:=qS hgrow4 hcz3 hnb c43;have f44:=qO hgrow4 hcz3 hnb f43;have HO4:=Lh hown4;have HG4:=Lh hgrow4;have HA4:=Lh hat4;clear hown4 hgrow4 hat4)|(go_simp;go_at_call 160;(with_reducible refine HCI.out.mono ?_);rintro e w3 ⟨an3,cn3,ai3,ci3,rfl,hr3,hb3,hz3,c43,f43,ho3⟩;have hcz3:cb<w3.heap.size:=Nat.lt_trans hcz hz3;have HO3:=Lh ho3;have HR3:=Lh hr3;have HB3:=Lh hb3;clear ho3 hr3 hb3))
       all_goals
        have HST:=Lh (row_step (j:=4) hlt HTC.out HRW.out HO.out HRR.out HB3.out HR3.out HG4.out HA4.out HO4.out)
        clear HTC HRW HO HRR HB3 HR3 HG4 HA4 HO4 HO3 HCI
        go_wp2
        go_roundw
        case rel =>
         obtain ⟨z1,z2,z3,z4⟩:=HST.out
         refine ⟨k+1,_,_,by omega,by go_num,z1,z2.congr fun i hi=>?_,z3,by rw [HTK.out];exact z4⟩
         rcases i with _|_|_|_|_|i <;> first|rfl|omega
        case measure=>simp [intOf];omega
     · obtain rfl:k=ni:=by omega
       have hni':v.items.take k=v.items:=List.take_of_length_le (by rw [← HNI.out];exact Nat.le_refl _)
       rw [hni'] at hrr
       obtain ⟨a5,c5,rfl,hc5,hv5⟩:=zC hown hrr HNI.out
       rw [← HNI.out] at hc5
       have HV5:=Lh hv5
       have hres:=(htch.row HM.out.res (by omega))
       obtain ⟨r0,r1,r2,r3,r4⟩:=rc5 hrow
       obtain ⟨t0,t1,t2,t3,t4⟩:=rc5 hres
       obtain ⟨s0,s1,s2,s3,s4⟩:=rf5 hres
       simp only [qQ] at r0 r1 r2 r3 r4 t0 t1 t2 t3 t4
       rw [← HNI.out] at r4
       have HT:=Lh htch
       clear hrow hres hown hrr hv5 htch
       go_wp2
       obtain ⟨z1,z2,z3,z4⟩:=wZ HM.out HT.out HV5.out rfl
       refine bodyPost_ret (results_cell_row Tryz.results160 _ _ (w.heap.size+1) 25 _ (0,0) _ rfl z4 Tryz.underlying25 rfl (by kernel_rfl)) rfl ⟨a1,c1,a5,c5,?_,?_,z1⟩
       · rw [← HNN.out,← HNI.out]
       · rw [← HNN.out,← HNI.out]
         have hrep:=Rep.mk (v:=v) (cn:=c1) (ci:=c5) (by rw [← HNN.out];exact HM.out.cap) (by rw [← HNI.out];exact hc5) z2 z3
         rwa [← HNN.out,← HNI.out] at hrep
  · have HM:=Lh (ak hc1 hs1 hb1 hz1 HR1.out)
    clear hs1 hb1 q0 q1 q2 q3 hq HCA HCB HR1 r0 r1 r2 r3 r4 s0 s1 s2 s3 s4 hc1 hz1
    generalize (((((w1.setCell ⟨w.heap.size+1+1,0,none⟩ (.int .u8 v.kind)).setCell ⟨w.heap.size+1+1,1,none⟩ (.int .i64 v.n)).setCell ⟨w.heap.size+1+1,2,none⟩ (.string v.t)).setCell ⟨w.heap.size+1+1,3,none⟩ (.slice a1 nn c1)).setCell ⟨w.heap.size+1+1,4,none⟩ (.slice none 0 0))=W at HM ⊢
    generalize w.heap.size+1+1=cb at HM ⊢
    have x4:=HM.out.box
    have hgt:=HM.out.gt
    have hlt:=HM.out.lt
    go_wp2
    clear x4
    go_loopw [5,19] (fun _ i wr=>∃(k:Nat) (cs:List Value) (vi:Value),k≤ni∧i=.int .i64 k∧Touch (· = cb) W wr∧wr.rowIs cb 25 5 (qQ (.int .u8 v.kind) (.int .i64 v.n) (.string v.t) (.slice a1 nn c1) vi)∧wr.ownsRow W.heap.size 25 5 vi k cs∧qM wr W.heap.size (fun b=>b=cb∨vi.ownBlock=some b) (v.items.take k) cs) (fun _ i _=>ni - (intOf i).toNat)
    case atStart=>exact ⟨0,[],.slice none 0 0,by omega,rfl,Touch.refl _ _,HM.out.row,World.ownsRow_nil _ _ _ _,by simpa using qM.nil _ _ _⟩
    case round =>
     obtain ⟨k,cs,vi,hk,rfl,htch,hrow,hown,hrr⟩:=hrel
     by_cases hlt2:k<ni
     · have hlt':k<v.items.length:=by rw [← HNI.out];exact hlt2
       have HB:Hid (Below hi w wr):=(HM.out.below.mono hhi).trans (htch.below (by omega) fun j hj e=>by omega)
       obtain ⟨b,off,an',cn',ai',ci',rfl,_,hb,y0,y1,y2,y3,y4,hrep⟩:=(H4.out.below HB.out lz lz lz).get k hlt'
       have hwk:=JV.wts_get v.items k hlt'
       have HTK:=Lh (show v.items.take (k+1)=v.items.take k ++ [v.items[k]] from List.take_succ_eq_append_getElem hlt')
       have c4:wr.cell? ⟨cb,4,none⟩=some vi:=hrow.cell (by omega)
       have f4:wr.frozen? ⟨cb,4,none⟩=false:=hrow.frozen 4
       have hcz:cb<wr.heap.size:=hrow.lt
       have hwz:W.heap.size≤wr.heap.size:=htch.size
       have hnb:some cb≠vi.ownBlock:=fun e=>by have:=(hown.lt _ e.symm).1;omega
       have HRP:=Lh hrep
       have HRW:=Lh hrow
       have HTC:=Lh htch
       have HO:=Lh hown
       have HRR:=Lh hrr
       clear hrep hrow htch hown hrr
       generalize v.items[k]=it at *
       have HCI:=Lh (show Calls Tryz.prog 160 #[.agg #[.int .u8 it.kind,.int .i64 it.n,.string it.t,.slice an' it.names.length cn',.slice ai' it.items.length ci']] ((wr.alloc (.cells #[.int .u8 it.kind,.int .i64 it.n,.string it.t,.slice an' it.names.length cn',.slice ai' it.items.length ci'] 25)).drew) (fun e w3=>∃an3 cn3 ai3 ci3,e=.returned (.agg #[.int .u8 it.kind,.int .i64 it.n,.string it.t,.slice an3 it.names.length cn3,.slice ai3 it.items.length ci3])∧Rep w3 (wr.heap.size+1) w3.heap.size it (.agg #[.int .u8 it.kind,.int .i64 it.n,.string it.t,.slice an3 it.names.length cn3,.slice ai3 it.items.length ci3])∧Below (wr.heap.size+1) ((wr.alloc (.cells #[.int .u8 it.kind,.int .i64 it.n,.string it.t,.slice an' it.names.length cn',.slice ai' it.items.length ci'] 25)).drew) w3∧wr.heap.size<w3.heap.size∧w3.cell? ⟨cb,4,none⟩=some vi∧w3.frozen? ⟨cb,4,none⟩=false∧w3.ownsRow W.heap.size 25 5 vi k cs) by
        refine (IH.out it _ _ hi (by omega) (by omega) (by have:=HB.out.size;simp;omega) (HRP.out.below ((Below.refl _ _).alloc lz _).drew (by omega) lz lz)).mono ?_
        rintro e w3 ⟨an3,cn3,ai3,ci3,rfl,hr3,hb3⟩
        have hz:((wr.alloc (.cells #[.int .u8 it.kind,.int .i64 it.n,.string it.t,.slice an' it.names.length cn',.slice ai' it.items.length ci'] 25)).drew).heap.size=wr.heap.size+1:=by simp
        rw [hz] at hr3 hb3
        have hsz:=hb3.size
        rw [hz] at hsz
        have hb4:Below wr.heap.size wr w3:=((Below.refl _ _).alloc lz _).drew.trans (hb3.mono (by omega))
        exact ⟨an3,cn3,ai3,ci3,rfl,hr3,hb3,by omega,by rw [hb4.cell hcz];exact c4,by rw [hb4.frozen hcz];exact f4,qB HO.out hb4⟩)
       go_wp2_with fail
       go_region_law (first|(refine step_append_lies _ (by rfl) (.tmp 24) (.tmp 27) 23 (by rfl) W.heap.size 25 i0 _ 5 80 Tryz.underlying23 hi0 hz0 hz1 hz2 rfl (by omega) vi k cs (by rfl) (HO3.out.alloc _) ⟨w3.heap.size,0,none⟩ 1 1 (Array.toList #[.int .u8 it.kind,.int .i64 it.n,.string it.t,.slice an3 it.names.length cn3,.slice ai3 it.items.length ci3]) (by rfl) (by rfl) (World.news_of_block (cs:=#[.int .u8 it.kind,.int .i64 it.n,.string it.t,.slice an3 it.names.length cn3,.slice ai3 it.items.length ci3]) (t:=25) (fr:=(0,0)) (heap_alloc_new w3 _)) (by simp [Value.oneCell']) (by omega) (by unfold maxLen;omega) (by omega) (by simp;omega) (w3.heap.size+1) (by simp) ?_;intro g cap w4 hown4 hgrow4 hat4 hlt4;have c44:=qS hgrow4 hcz3 hnb c43;have f44:=qO hgrow4 hcz3 hnb f43;have HO4:=Lh hown4;have HG4:=Lh hgrow4;have HA4:=Lh hat4;clear hown4 hgrow4 hat4)|(go_simp;go_at_call 160;(with_reducible refine HCI.out.mono ?_);rintro e w3 ⟨an3,cn3,ai3,ci3,rfl,hr3,hb3,hz3,c43,f43,ho3⟩;have hcz3:cb<w3.heap.size:=Nat.lt_trans hcz hz3;have HO3:=Lh ho3;have HR3:=Lh hr3;have HB3:=Lh hb3;clear ho3 hr3 hb3))
       all_goals
        have HST:=Lh (row_step (j:=4) hlt HTC.out HRW.out HO.out HRR.out HB3.out HR3.out HG4.out HA4.out HO4.out)
        clear HTC HRW HO HRR HB3 HR3 HG4 HA4 HO4 HO3 HCI
        go_wp2
        go_roundw
        case rel =>
         obtain ⟨z1,z2,z3,z4⟩:=HST.out
         refine ⟨k+1,_,_,by omega,by go_num,z1,z2.congr fun i hi=>?_,z3,by rw [HTK.out];exact z4⟩
         rcases i with _|_|_|_|_|i <;> first|rfl|omega
        case measure=>simp [intOf];omega
     · obtain rfl:k=ni:=by omega
       have hni':v.items.take k=v.items:=List.take_of_length_le (by rw [← HNI.out];exact Nat.le_refl _)
       rw [hni'] at hrr
       obtain ⟨a5,c5,rfl,hc5,hv5⟩:=zC hown hrr HNI.out
       rw [← HNI.out] at hc5
       have HV5:=Lh hv5
       have hres:=(htch.row HM.out.res (by omega))
       obtain ⟨r0,r1,r2,r3,r4⟩:=rc5 hrow
       obtain ⟨t0,t1,t2,t3,t4⟩:=rc5 hres
       obtain ⟨s0,s1,s2,s3,s4⟩:=rf5 hres
       simp only [qQ] at r0 r1 r2 r3 r4 t0 t1 t2 t3 t4
       rw [← HNI.out] at r4
       have HT:=Lh htch
       clear hrow hres hown hrr hv5 htch
       go_wp2
       obtain ⟨z1,z2,z3,z4⟩:=wZ HM.out HT.out HV5.out rfl
       refine bodyPost_ret (results_cell_row Tryz.results160 _ _ (w.heap.size+1) 25 _ (0,0) _ rfl z4 Tryz.underlying25 rfl (by kernel_rfl)) rfl ⟨a1,c1,a5,c5,?_,?_,z1⟩
       · rw [← HNN.out,← HNI.out]
       · rw [← HNN.out,← HNI.out]
         have hrep:=Rep.mk (v:=v) (cn:=c1) (ci:=c5) (by rw [← HNN.out];exact HM.out.cap) (by rw [← HNI.out];exact hc5) z2 z3
         rwa [← HNN.out,← HNI.out] at hrep
set_option maxRecDepth 100000 in
set_option maxHeartbeats 400000 in
theorem kq (v:JV) (x:Value) (w:World) (lo hi:Nat) (hN:v.wt≤4294967296) (hhi:hi≤w.heap.size) (hR:Rep w lo hi v x) (hSeen:∀k (h:k<v.items.length),bD lo v.items[k]) :
 Calls Tryz.prog 91 #[x] w (vm v w):=by
 have HSN:=Lh hSeen;clear hSeen
 obtain ⟨an,cn,ai,ci,rfl,h1,h2,h3,h4⟩:=hR.parts
 obtain ⟨b1,b2,b3,b4⟩:=v.wt_bd
 have H3:=Lh h3
 have H4:=Lh h4
 clear h3 h4 hR
 obtain ⟨nn,hnn⟩:∃nn,nn=v.names.length:=⟨_,rfl⟩
 obtain ⟨ni,hni⟩:∃ni,ni=v.items.length:=⟨_,rfl⟩
 rw [← hnn,← hni]
 rw [← hnn] at b2
 rw [← hni] at b3
 have HNN:=Lh hnn
 have HNI:=Lh hni
 clear hnn hni h1 h2
 obtain ⟨i0,hi0,hz0,hz1,hz2⟩:=info_parts xv
 go_enter Tryz.func91,Tryz.ntmps91
 go_wp2_with fail
 have HC:=Lh (fun (w1:World) (h:Below w.heap.size w w1)=>show Calls Tryz.prog 103 #[.slice an nn cn] w1 (fun e w'=>∃a' c',e=.returned (.slice a' nn c')∧nn≤c'∧qw w' w1.heap.size w'.heap.size a' v.names∧Below w1.heap.size w1 w') by
  have:=pm v.names an cn w1 hi (H3.out.below h hhi (Nat.zero_le _) lz) (by rw [← HNN.out];omega)
  rwa [← HNN.out] at this)
 have HCA:=Lh (show Calls Tryz.prog 103 #[.slice an nn cn] (((w.alloc (.cells #[.int .u8 v.kind,.int .i64 v.n,.string v.t,.slice an nn cn,.slice ai ni ci] 25)).alloc (.cells #[.int .u8 0,.int .i64 0,.string ⟨#[]⟩,.slice none 0 0,.slice none 0 0] 25)).drew) (fun e w1=>∃a1 c1,e=.returned (.slice a1 nn c1)∧nn≤c1∧qw w1 (w.heap.size+2) w1.heap.size a1 v.names∧Below (w.heap.size+2) (((w.alloc (.cells #[.int .u8 v.kind,.int .i64 v.n,.string v.t,.slice an nn cn,.slice ai ni ci] 25)).alloc (.cells #[.int .u8 0,.int .i64 0,.string ⟨#[]⟩,.slice none 0 0,.slice none 0 0] 25)).drew) w1∧w.heap.size+1<w1.heap.size∧w1.cell? ⟨w.heap.size,0,none⟩=some (.int .u8 v.kind)∧w1.cell? ⟨w.heap.size,1,none⟩=some (.int .i64 v.n)∧w1.cell? ⟨w.heap.size,2,none⟩=some (.string v.t)∧w1.cell? ⟨w.heap.size,3,none⟩=some (.slice an nn cn)) by
  refine (HC.out _ ((((Below.refl _ _).alloc lz _).alloc (by simp) _).drew)).mono ?_
  rintro e w1 ⟨a1,c1,rfl,hc1,hs1,hb1⟩
  have hz:(((w.alloc (.cells #[.int .u8 v.kind,.int .i64 v.n,.string v.t,.slice an nn cn,.slice ai ni ci] 25)).alloc (.cells #[.int .u8 0,.int .i64 0,.string ⟨#[]⟩,.slice none 0 0,.slice none 0 0] 25)).drew).heap.size=w.heap.size+2:=by simp
  rw [hz] at hs1 hb1
  have hsz:=hb1.size
  rw [hz] at hsz
  refine ⟨a1,c1,rfl,hc1,hs1,hb1,by omega,?_,?_,?_,?_⟩ <;> (rw [hb1.cell (by show w.heap.size<_;omega)];go_simp))
 have HCB:=Lh (show Calls Tryz.prog 103 #[.slice an nn cn] ((((w.alloc (.cells #[.int .u8 v.kind,.int .i64 v.n,.string v.t,.slice an nn cn,.slice ai ni ci] 25)).alloc (.cells #[.int .u8 0,.int .i64 0,.string ⟨#[]⟩,.slice none 0 0,.slice none 0 0] 25)).alloc (.cells #[.int .u8 0,.int .i64 0,.string ⟨#[]⟩,.slice none 0 0,.slice none 0 0] 25)).drew) (fun e w1=>∃a1 c1,e=.returned (.slice a1 nn c1)∧nn≤c1∧qw w1 (w.heap.size+3) w1.heap.size a1 v.names∧Below (w.heap.size+3) ((((w.alloc (.cells #[.int .u8 v.kind,.int .i64 v.n,.string v.t,.slice an nn cn,.slice ai ni ci] 25)).alloc (.cells #[.int .u8 0,.int .i64 0,.string ⟨#[]⟩,.slice none 0 0,.slice none 0 0] 25)).alloc (.cells #[.int .u8 0,.int .i64 0,.string ⟨#[]⟩,.slice none 0 0,.slice none 0 0] 25)).drew) w1∧w.heap.size+2<w1.heap.size∧w1.rowIs (w.heap.size+2) 25 5 (qQ (.int .u8 0) (.int .i64 0) (.string ⟨#[]⟩) (.slice none 0 0) (.slice none 0 0))∧w1.cell? ⟨w.heap.size,0,none⟩=some (.int .u8 v.kind)∧w1.cell? ⟨w.heap.size,1,none⟩=some (.int .i64 v.n)∧w1.cell? ⟨w.heap.size,2,none⟩=some (.string v.t)∧w1.cell? ⟨w.heap.size,3,none⟩=some (.slice an nn cn)) by
  refine (HC.out _ (((((Below.refl _ _).alloc lz _).alloc (by simp) _).alloc (by simp;omega) _).drew)).mono ?_
  rintro e w1 ⟨a1,c1,rfl,hc1,hs1,hb1⟩
  have hz:((((w.alloc (.cells #[.int .u8 v.kind,.int .i64 v.n,.string v.t,.slice an nn cn,.slice ai ni ci] 25)).alloc (.cells #[.int .u8 0,.int .i64 0,.string ⟨#[]⟩,.slice none 0 0,.slice none 0 0] 25)).alloc (.cells #[.int .u8 0,.int .i64 0,.string ⟨#[]⟩,.slice none 0 0,.slice none 0 0] 25)).drew).heap.size=w.heap.size+3:=by simp
  rw [hz] at hs1 hb1
  have hsz:=hb1.size
  rw [hz] at hsz
  have hr0:=(qp ((w.alloc (.cells #[.int .u8 v.kind,.int .i64 v.n,.string v.t,.slice an nn cn,.slice ai ni ci] 25)).alloc (.cells #[.int .u8 0,.int .i64 0,.string ⟨#[]⟩,.slice none 0 0,.slice none 0 0] 25)) (.int .u8 0) (.int .i64 0) (.string ⟨#[]⟩) (.slice none 0 0) (.slice none 0 0) 25).drew
  rw [show ((w.alloc (.cells #[.int .u8 v.kind,.int .i64 v.n,.string v.t,.slice an nn cn,.slice ai ni ci] 25)).alloc (.cells #[.int .u8 0,.int .i64 0,.string ⟨#[]⟩,.slice none 0 0,.slice none 0 0] 25)).heap.size=w.heap.size+2 by simp] at hr0
  refine ⟨a1,c1,rfl,hc1,hs1,hb1,by omega,qj hb1 hr0 (by omega),?_,?_,?_,?_⟩ <;> (rw [hb1.cell (by show w.heap.size<_;omega)];go_simp))
 clear HC
 go_region_held3 (fun w'=>w'.cell? ⟨w.heap.size,0,none⟩=some (.int .u8 v.kind)∧w'.cell? ⟨w.heap.size,1,none⟩=some (.int .i64 v.n)∧w'.cell? ⟨w.heap.size,2,none⟩=some (.string v.t)∧w'.cell? ⟨w.heap.size,3,none⟩=some (.slice an nn cn)) (first|(with_reducible exact ⟨q0,q1,q2,q3⟩)|(with_reducible exact ⟨(qt _ hz0).trans q0,(qt _ hz0).trans q1,(qt _ hz0).trans q2,(qt _ hz0).trans q3⟩)|(with_reducible exact ⟨wQ hq q0,wQ hq q1,wQ hq q2,wQ hq q3⟩)|(go_keep;done)) (first|(go_at_call 103;(with_reducible refine HCA.out.mono ?_);rintro e w1 ⟨a1,c1,rfl,hc1,hs1,hb1,hz1,q0,q1,q2,q3⟩;have hz0:w.heap.size<w1.heap.size:=Nat.lt_of_succ_lt hz1)|(go_at_call 103;(with_reducible refine HCB.out.mono ?_);rintro e w1 ⟨a1,c1,rfl,hc1,hs1,hb1,hz1,hr1,q0,q1,q2,q3⟩;have hq:w.heap.size≠w.heap.size+2:=Nat.ne_of_lt (Nat.lt_add_of_pos_right (by decide));obtain ⟨r0,r1,r2,r3,r4⟩:=rc5 hr1;obtain ⟨s0,s1,s2,s3,s4⟩:=rf5 hr1;have HR1:=Lh hr1;clear hr1;simp only [qQ] at r0 r1 r2 r3 r4))
 · have HM:=Lh (aj hc1 hs1 hb1 hz1)
   clear hs1 hb1 q0 q1 q2 q3 hz0 HCA HCB hc1 hz1
   generalize (w1.alloc (.cells #[.int .u8 v.kind,.int .i64 v.n,.string v.t,.slice a1 nn c1,.slice none 0 0] 25))=W at HM ⊢
   generalize w1.heap.size=cb at HM ⊢
   have x4:=HM.out.box
   have hgt:=HM.out.gt
   have hlt:=HM.out.lt
   go_wp2
   clear x4
   go_loopw [5,19] (fun _ i wr=>∃(k:Nat) (cs:List Value) (vi:Value),k≤ni∧i=.int .i64 k∧Touch (· = cb) W wr∧wr.rowIs cb 25 5 (qQ (.int .u8 v.kind) (.int .i64 v.n) (.string v.t) (.slice a1 nn c1) vi)∧wr.ownsRow W.heap.size 25 5 vi k cs∧qM wr W.heap.size (fun b=>b=cb∨vi.ownBlock=some b) (v.items.take k) cs) (fun _ i _=>ni - (intOf i).toNat)
   case atStart=>exact ⟨0,[],.slice none 0 0,by omega,rfl,Touch.refl _ _,HM.out.row,World.ownsRow_nil _ _ _ _,by simpa using qM.nil _ _ _⟩
   case round =>
    obtain ⟨k,cs,vi,hk,rfl,htch,hrow,hown,hrr⟩:=hrel
    by_cases hlt2:k<ni
    · have hlt':k<v.items.length:=by rw [← HNI.out];exact hlt2
      have HB:Hid (Below hi w wr):=(HM.out.below.mono hhi).trans (htch.below (by omega) fun j hj e=>by omega)
      obtain ⟨b,off,an',cn',ai',ci',rfl,_,hb,y0,y1,y2,y3,y4,hrep⟩:=(H4.out.below HB.out lz lz lz).get k hlt'
      have hwk:=JV.wts_get v.items k hlt'
      have HSK:=Lh (HSN.out k hlt')
      have HTK:=Lh (show v.items.take (k+1)=v.items.take k ++ [v.items[k]] from List.take_succ_eq_append_getElem hlt')
      have c4:wr.cell? ⟨cb,4,none⟩=some vi:=hrow.cell (by omega)
      have f4:wr.frozen? ⟨cb,4,none⟩=false:=hrow.frozen 4
      have hcz:cb<wr.heap.size:=hrow.lt
      have hwz:W.heap.size≤wr.heap.size:=htch.size
      have hnb:some cb≠vi.ownBlock:=fun e=>by have:=(hown.lt _ e.symm).1;omega
      have HRP:=Lh hrep
      have HRW:=Lh hrow
      have HTC:=Lh htch
      have HO:=Lh hown
      have HRR:=Lh hrr
      clear hrep hrow htch hown hrr
      generalize v.items[k]=it at *
      have HCI:=Lh (show Calls Tryz.prog 160 #[.agg #[.int .u8 it.kind,.int .i64 it.n,.string it.t,.slice an' it.names.length cn',.slice ai' it.items.length ci']] ((wr.alloc (.cells #[.int .u8 it.kind,.int .i64 it.n,.string it.t,.slice an' it.names.length cn',.slice ai' it.items.length ci'] 25)).drew) (fun e w3=>∃an3 cn3 ai3 ci3,e=.returned (.agg #[.int .u8 it.kind,.int .i64 it.n,.string it.t,.slice an3 it.names.length cn3,.slice ai3 it.items.length ci3])∧Rep w3 (wr.heap.size+1) w3.heap.size it (.agg #[.int .u8 it.kind,.int .i64 it.n,.string it.t,.slice an3 it.names.length cn3,.slice ai3 it.items.length ci3])∧Below (wr.heap.size+1) ((wr.alloc (.cells #[.int .u8 it.kind,.int .i64 it.n,.string it.t,.slice an' it.names.length cn',.slice ai' it.items.length ci'] 25)).drew) w3∧wr.heap.size<w3.heap.size∧w3.cell? ⟨cb,4,none⟩=some vi∧w3.frozen? ⟨cb,4,none⟩=false∧w3.ownsRow W.heap.size 25 5 vi k cs) by
       refine (kE 4294967296 it _ _ hi (by omega) (by omega) (by have:=HB.out.size;simp;omega) (HRP.out.below ((Below.refl _ _).alloc lz _).drew (by have:=HB.out.size;omega) (Nat.zero_le _) lz)).mono ?_
       rintro e w3 ⟨an3,cn3,ai3,ci3,rfl,hr3,hb3⟩
       have hz:((wr.alloc (.cells #[.int .u8 it.kind,.int .i64 it.n,.string it.t,.slice an' it.names.length cn',.slice ai' it.items.length ci'] 25)).drew).heap.size=wr.heap.size+1:=by simp
       rw [hz] at hr3 hb3
       have hsz:=hb3.size
       rw [hz] at hsz
       have hb4:Below wr.heap.size wr w3:=((Below.refl _ _).alloc lz _).drew.trans (hb3.mono (by omega))
       exact ⟨an3,cn3,ai3,ci3,rfl,hr3,hb3,by omega,by rw [hb4.cell hcz];exact c4,by rw [hb4.frozen hcz];exact f4,qB HO.out hb4⟩)
      go_wp2_with fail
      refine (yB it ai' ci' lo hi _ (by omega) (by
       obtain ⟨an2,cn2,ai2,ci2,hx,_,_,_,h5⟩:=HRP.out.parts
       simp only [Value.agg.injEq,Array.mk.injEq,List.cons.injEq,and_true,Value.slice.injEq] at hx
       obtain ⟨_,_,_,_,rfl,_,_⟩:=hx
       exact h5.carry lz lz fun b _ hb=>Below.heap_alloc _ _ _ (by have:=HB.out.size;omega)) HSK.out).mono ?_
      rintro e w9 ⟨rfl,rfl⟩
      go_wp2_with fail
      go_region_law (first|(refine step_append_lies _ (by rfl) (.tmp 28) (.tmp 31) 23 (by rfl) W.heap.size 25 i0 _ 5 80 Tryz.underlying23 hi0 hz0 hz1 hz2 rfl (by omega) vi k cs (by rfl) (HO3.out.alloc _) ⟨w3.heap.size,0,none⟩ 1 1 (Array.toList #[.int .u8 it.kind,.int .i64 it.n,.string it.t,.slice an3 it.names.length cn3,.slice ai3 it.items.length ci3]) (by rfl) (by rfl) (World.news_of_block (cs:=#[.int .u8 it.kind,.int .i64 it.n,.string it.t,.slice an3 it.names.length cn3,.slice ai3 it.items.length ci3]) (t:=25) (fr:=(0,0)) (heap_alloc_new w3 _)) (by simp [Value.oneCell']) (by omega) (by unfold maxLen;omega) (by omega) (by simp;omega) (w3.heap.size+1) (by simp) ?_;intro g cap w4 hown4 hgrow4 hat4 hlt4;have c44:=qS hgrow4 hcz3 hnb c43;have f44:=qO hgrow4 hcz3 hnb f43;have HO4:=Lh hown4;have HG4:=Lh hgrow4;have HA4:=Lh hat4;clear hown4 hgrow4 hat4)|(go_simp;go_at_call 160;(with_reducible refine HCI.out.mono ?_);rintro e w3 ⟨an3,cn3,ai3,ci3,rfl,hr3,hb3,hz3,c43,f43,ho3⟩;have hcz3:cb<w3.heap.size:=Nat.lt_trans hcz hz3;have HO3:=Lh ho3;have HR3:=Lh hr3;have HB3:=Lh hb3;clear ho3 hr3 hb3))
      all_goals
       have HST:=Lh (row_step (j:=4) hlt HTC.out HRW.out HO.out HRR.out HB3.out HR3.out HG4.out HA4.out HO4.out)
       clear HTC HRW HO HRR HB3 HR3 HG4 HA4 HO4 HO3 HCI
       go_wp2
       go_roundw
       case rel =>
        obtain ⟨z1,z2,z3,z4⟩:=HST.out
        refine ⟨k+1,_,_,by omega,by go_num,z1,z2.congr fun i hi=>?_,z3,by rw [HTK.out];exact z4⟩
        rcases i with _|_|_|_|_|i <;> first|rfl|omega
       case measure=>simp [intOf];omega
    · obtain rfl:k=ni:=by omega
      have hni':v.items.take k=v.items:=List.take_of_length_le (by rw [← HNI.out];exact Nat.le_refl _)
      rw [hni'] at hrr
      obtain ⟨a5,c5,rfl,hc5,hv5⟩:=zC hown hrr HNI.out
      rw [← HNI.out] at hc5
      have HV5:=Lh hv5
      have hres:=(htch.row HM.out.res (by omega))
      obtain ⟨r0,r1,r2,r3,r4⟩:=rc5 hrow
      obtain ⟨t0,t1,t2,t3,t4⟩:=rc5 hres
      obtain ⟨s0,s1,s2,s3,s4⟩:=rf5 hres
      simp only [qQ] at r0 r1 r2 r3 r4 t0 t1 t2 t3 t4
      rw [← HNI.out] at r4
      have HT:=Lh htch
      clear hrow hres hown hrr hv5 htch
      go_wp2
      obtain ⟨z1,z2,z3,z4⟩:=wZ HM.out HT.out HV5.out rfl
      refine bodyPost_ret (results_cell_row Tryz.results91 _ _ (w.heap.size+1) 25 _ (0,0) _ rfl z4 Tryz.underlying25 rfl (by kernel_rfl)) rfl ⟨a1,c1,a5,c5,?_,?_,z1⟩
      · rw [← HNN.out,← HNI.out]
      · rw [← HNN.out,← HNI.out]
        have hrep:=Rep.mk (v:=v) (cn:=c1) (ci:=c5) (by rw [← HNN.out];exact HM.out.cap) (by rw [← HNI.out];exact hc5) z2 z3
        rwa [← HNN.out,← HNI.out] at hrep
 · have HM:=Lh (ak hc1 hs1 hb1 hz1 HR1.out)
   clear hs1 hb1 q0 q1 q2 q3 hq HCA HCB HR1 r0 r1 r2 r3 r4 s0 s1 s2 s3 s4 hc1 hz1
   generalize (((((w1.setCell ⟨w.heap.size+1+1,0,none⟩ (.int .u8 v.kind)).setCell ⟨w.heap.size+1+1,1,none⟩ (.int .i64 v.n)).setCell ⟨w.heap.size+1+1,2,none⟩ (.string v.t)).setCell ⟨w.heap.size+1+1,3,none⟩ (.slice a1 nn c1)).setCell ⟨w.heap.size+1+1,4,none⟩ (.slice none 0 0))=W at HM ⊢
   generalize w.heap.size+1+1=cb at HM ⊢
   have x4:=HM.out.box
   have hgt:=HM.out.gt
   have hlt:=HM.out.lt
   go_wp2
   clear x4
   go_loopw [5,19] (fun _ i wr=>∃(k:Nat) (cs:List Value) (vi:Value),k≤ni∧i=.int .i64 k∧Touch (· = cb) W wr∧wr.rowIs cb 25 5 (qQ (.int .u8 v.kind) (.int .i64 v.n) (.string v.t) (.slice a1 nn c1) vi)∧wr.ownsRow W.heap.size 25 5 vi k cs∧qM wr W.heap.size (fun b=>b=cb∨vi.ownBlock=some b) (v.items.take k) cs) (fun _ i _=>ni - (intOf i).toNat)
   case atStart=>exact ⟨0,[],.slice none 0 0,by omega,rfl,Touch.refl _ _,HM.out.row,World.ownsRow_nil _ _ _ _,by simpa using qM.nil _ _ _⟩
   case round =>
    obtain ⟨k,cs,vi,hk,rfl,htch,hrow,hown,hrr⟩:=hrel
    by_cases hlt2:k<ni
    · have hlt':k<v.items.length:=by rw [← HNI.out];exact hlt2
      have HB:Hid (Below hi w wr):=(HM.out.below.mono hhi).trans (htch.below (by omega) fun j hj e=>by omega)
      obtain ⟨b,off,an',cn',ai',ci',rfl,_,hb,y0,y1,y2,y3,y4,hrep⟩:=(H4.out.below HB.out lz lz lz).get k hlt'
      have hwk:=JV.wts_get v.items k hlt'
      have HSK:=Lh (HSN.out k hlt')
      have HTK:=Lh (show v.items.take (k+1)=v.items.take k ++ [v.items[k]] from List.take_succ_eq_append_getElem hlt')
      have c4:wr.cell? ⟨cb,4,none⟩=some vi:=hrow.cell (by omega)
      have f4:wr.frozen? ⟨cb,4,none⟩=false:=hrow.frozen 4
      have hcz:cb<wr.heap.size:=hrow.lt
      have hwz:W.heap.size≤wr.heap.size:=htch.size
      have hnb:some cb≠vi.ownBlock:=fun e=>by have:=(hown.lt _ e.symm).1;omega
      have HRP:=Lh hrep
      have HRW:=Lh hrow
      have HTC:=Lh htch
      have HO:=Lh hown
      have HRR:=Lh hrr
      clear hrep hrow htch hown hrr
      generalize v.items[k]=it at *
      have HCI:=Lh (show Calls Tryz.prog 160 #[.agg #[.int .u8 it.kind,.int .i64 it.n,.string it.t,.slice an' it.names.length cn',.slice ai' it.items.length ci']] ((wr.alloc (.cells #[.int .u8 it.kind,.int .i64 it.n,.string it.t,.slice an' it.names.length cn',.slice ai' it.items.length ci'] 25)).drew) (fun e w3=>∃an3 cn3 ai3 ci3,e=.returned (.agg #[.int .u8 it.kind,.int .i64 it.n,.string it.t,.slice an3 it.names.length cn3,.slice ai3 it.items.length ci3])∧Rep w3 (wr.heap.size+1) w3.heap.size it (.agg #[.int .u8 it.kind,.int .i64 it.n,.string it.t,.slice an3 it.names.length cn3,.slice ai3 it.items.length ci3])∧Below (wr.heap.size+1) ((wr.alloc (.cells #[.int .u8 it.kind,.int .i64 it.n,.string it.t,.slice an' it.names.length cn',.slice ai' it.items.length ci'] 25)).drew) w3∧wr.heap.size<w3.heap.size∧w3.cell? ⟨cb,4,none⟩=some vi∧w3.frozen? ⟨cb,4,none⟩=false∧w3.ownsRow W.heap.size 25 5 vi k cs) by
       refine (kE 4294967296 it _ _ hi (by omega) (by omega) (by have:=HB.out.size;simp;omega) (HRP.out.below ((Below.refl _ _).alloc lz _).drew (by have:=HB.out.size;omega) (Nat.zero_le _) lz)).mono ?_
       rintro e w3 ⟨an3,cn3,ai3,ci3,rfl,hr3,hb3⟩
       have hz:((wr.alloc (.cells #[.int .u8 it.kind,.int .i64 it.n,.string it.t,.slice an' it.names.length cn',.slice ai' it.items.length ci'] 25)).drew).heap.size=wr.heap.size+1:=by simp
       rw [hz] at hr3 hb3
       have hsz:=hb3.size
       rw [hz] at hsz
       have hb4:Below wr.heap.size wr w3:=((Below.refl _ _).alloc lz _).drew.trans (hb3.mono (by omega))
       exact ⟨an3,cn3,ai3,ci3,rfl,hr3,hb3,by omega,by rw [hb4.cell hcz];exact c4,by rw [hb4.frozen hcz];exact f4,qB HO.out hb4⟩)
      go_wp2_with fail
      refine (yB it ai' ci' lo hi _ (by omega) (by
       obtain ⟨an2,cn2,ai2,ci2,hx,_,_,_,h5⟩:=HRP.out.parts
       simp only [Value.agg.injEq,Array.mk.injEq,List.cons.injEq,and_true,Value.slice.injEq] at hx
       obtain ⟨_,_,_,_,rfl,_,_⟩:=hx
       exact h5.carry lz lz fun b _ hb=>Below.heap_alloc _ _ _ (by have:=HB.out.size;omega)) HSK.out).mono ?_
      rintro e w9 ⟨rfl,rfl⟩
      go_wp2_with fail
      go_region_law (first|(refine step_append_lies _ (by rfl) (.tmp 28) (.tmp 31) 23 (by rfl) W.heap.size 25 i0 _ 5 80 Tryz.underlying23 hi0 hz0 hz1 hz2 rfl (by omega) vi k cs (by rfl) (HO3.out.alloc _) ⟨w3.heap.size,0,none⟩ 1 1 (Array.toList #[.int .u8 it.kind,.int .i64 it.n,.string it.t,.slice an3 it.names.length cn3,.slice ai3 it.items.length ci3]) (by rfl) (by rfl) (World.news_of_block (cs:=#[.int .u8 it.kind,.int .i64 it.n,.string it.t,.slice an3 it.names.length cn3,.slice ai3 it.items.length ci3]) (t:=25) (fr:=(0,0)) (heap_alloc_new w3 _)) (by simp [Value.oneCell']) (by omega) (by unfold maxLen;omega) (by omega) (by simp;omega) (w3.heap.size+1) (by simp) ?_;intro g cap w4 hown4 hgrow4 hat4 hlt4;have c44:=qS hgrow4 hcz3 hnb c43;have f44:=qO hgrow4 hcz3 hnb f43;have HO4:=Lh hown4;have HG4:=Lh hgrow4;have HA4:=Lh hat4;clear hown4 hgrow4 hat4)|(go_simp;go_at_call 160;(with_reducible refine HCI.out.mono ?_);rintro e w3 ⟨an3,cn3,ai3,ci3,rfl,hr3,hb3,hz3,c43,f43,ho3⟩;have hcz3:cb<w3.heap.size:=Nat.lt_trans hcz hz3;have HO3:=Lh ho3;have HR3:=Lh hr3;have HB3:=Lh hb3;clear ho3 hr3 hb3))
      all_goals
       have HST:=Lh (row_step (j:=4) hlt HTC.out HRW.out HO.out HRR.out HB3.out HR3.out HG4.out HA4.out HO4.out)
       clear HTC HRW HO HRR HB3 HR3 HG4 HA4 HO4 HO3 HCI
       go_wp2
       go_roundw
       case rel =>
        obtain ⟨z1,z2,z3,z4⟩:=HST.out
        refine ⟨k+1,_,_,by omega,by go_num,z1,z2.congr fun i hi=>?_,z3,by rw [HTK.out];exact z4⟩
        rcases i with _|_|_|_|_|i <;> first|rfl|omega
       case measure=>simp [intOf];omega
    · obtain rfl:k=ni:=by omega
      have hni':v.items.take k=v.items:=List.take_of_length_le (by rw [← HNI.out];exact Nat.le_refl _)
      rw [hni'] at hrr
      obtain ⟨a5,c5,rfl,hc5,hv5⟩:=zC hown hrr HNI.out
      rw [← HNI.out] at hc5
      have HV5:=Lh hv5
      have hres:=(htch.row HM.out.res (by omega))
      obtain ⟨r0,r1,r2,r3,r4⟩:=rc5 hrow
      obtain ⟨t0,t1,t2,t3,t4⟩:=rc5 hres
      obtain ⟨s0,s1,s2,s3,s4⟩:=rf5 hres
      simp only [qQ] at r0 r1 r2 r3 r4 t0 t1 t2 t3 t4
      rw [← HNI.out] at r4
      have HT:=Lh htch
      clear hrow hres hown hrr hv5 htch
      go_wp2
      obtain ⟨z1,z2,z3,z4⟩:=wZ HM.out HT.out HV5.out rfl
      refine bodyPost_ret (results_cell_row Tryz.results91 _ _ (w.heap.size+1) 25 _ (0,0) _ rfl z4 Tryz.underlying25 rfl (by kernel_rfl)) rfl ⟨a1,c1,a5,c5,?_,?_,z1⟩
      · rw [← HNN.out,← HNI.out]
      · rw [← HNN.out,← HNI.out]
        have hrep:=Rep.mk (v:=v) (cn:=c1) (ci:=c5) (by rw [← HNN.out];exact HM.out.cap) (by rw [← HNI.out];exact hc5) z2 z3
        rwa [← HNN.out,← HNI.out] at hrep
end Go.Proofs.YthgembbgcbaghaaGreatDoor
