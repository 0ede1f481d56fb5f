/- Plain: the examples of layer 20: where their paths go. No program in sight. -/
import Derived.Test.YthgembbgcbaghaaGreatDoorDb18
import Derived.Test.YthgembbgcbaghaaGreatDoorDb24

namespace Go.Proofs.YthgembbgcbaghaaGreatDoor
open Go.RowKit Go.WideMaps Go.Maps
def zM (o m lo hi:Nat) (v:JV) (an ai:Option Addr) (cn ci:Nat) (st:PS) (w:World):Prop :=
 PickAt o m lo hi v an ai cn ci st w∨(xb o st.err w∧o<w.heap.size∧m=o∧hi=0)
theorem zM.lt {o m lo hi:Nat} {v:JV} {an ai:Option Addr} {cn ci:Nat} {st:PS} {w:World} (h:zM o m lo hi v an ai cn ci st w):o<w.heap.size∧m<w.heap.size∧hi≤w.heap.size:=by
 rcases h with h|⟨-,h2,rfl,rfl⟩
 · exact ⟨qx h.obj,by obtain ⟨D,n,h1,_⟩:=h.map;exact h1.lt,h.le⟩
 · exact ⟨h2,h2,Nat.zero_le _⟩
theorem zM.below {o m lo hi:Nat} {v:JV} {an ai:Option Addr} {cn ci:Nat} {st:PS} {w w':World} (h:zM o m lo hi v an ai cn ci st w) (hb:Below w.heap.size w w'):zM o m lo hi v an ai cn ci st w':=by
 rcases h with h|⟨h1,h2,h3,h4⟩
 · exact .inl (h.below hb)
 · exact .inr ⟨h1.below hb h2,Nat.lt_of_lt_of_le h2 hb.size,h3,h4⟩
theorem zM.touch {o m lo hi g:Nat} {v:JV} {an ai:Option Addr} {cn ci:Nat} {st:PS} {w w':World} (h:zM o m lo hi v an ai cn ci st w) (hT:Touch (fun b=>b=g) w w') (ho:g≠o) (hm:g≠m) (hh:hi≤g):zM o m lo hi v an ai cn ci st w':=by
 rcases h with h|⟨h1,h2,h3,h4⟩
 · exact .inl (h.touch hT ho hm hh)
 · exact .inr ⟨h1.touch hT h2 (Ne.symm ho),Nat.lt_of_lt_of_le h2 hT.size,h3,h4⟩
theorem zM.cells {o m lo hi:Nat} {v:JV} {an ai:Option Addr} {cn ci:Nat} {st:PS} {w:World} (h:zM o m lo hi v an ai cn ci st w):∃k,w.cell? ⟨o,6,none⟩=some (.int .i64 st.err)∧w.cell? ⟨o,0,none⟩=some (.int .u8 k)∧(st.err=0→k=5):=by
 rcases h with h|⟨⟨h1,h2,k,h3⟩,-⟩
 · exact ⟨5,qq h.obj rfl,(qq (j:=0) h.obj rfl).trans (by rw [h.kind];rfl),fun _=>rfl⟩
 · exact ⟨k,h2,h3,fun e=>absurd e h1⟩
theorem od {o m lo hi:Nat} {v:JV} {an ai:Option Addr} {cn ci:Nat} {st:PS} {w:World} (h:zM o m lo hi v an ai cn ci st w) :
 Calls Tryz.prog 121 #[.pointer (some ⟨o,0,none⟩)] w fun e w'=>e=.returned (.int .i64 st.err)∧w=w':=by
 obtain ⟨k,h1,h2,h3⟩:=h.cells
 exact q6 o st.err k w h1 h2 h3
def vY (o m lo hi:Nat) (v:JV) (an ai:Option Addr) (cn ci:Nat) (st:PS) (w w':World):Prop :=
 zM o m lo hi v an ai cn ci st w'∧Touch (fun b=>b=o∨b=m) w w'
theorem uu {v:JV} {y:ByteArray} {st:PS} (h:st.err≠0):qp v y st=(⟨#[]⟩,st):=by unfold qp;rw [if_pos h]
theorem mK {v:JV} {y:ByteArray} {l h:Int} {st:PS} (he:st.err≠0):qF v y l h st=(0,st):=by unfold qF;rw [if_pos he]
theorem mV {v:JV} {y:ByteArray} {most:Nat} {st:PS} (h:st.err≠0):qr v y most st=(qo,st):=by unfold qr;rw [if_pos h]
theorem sR {st:PS} {e:Int} (h:st.err≠0):st.fail e=st:=by unfold PS.fail;rw [if_neg h]
theorem iw {o m lo hi:Nat} {v:JV} {an ai:Option Addr} {cn ci:Nat} {st:PS} {w:World} (y:ByteArray) (h:zM o m lo hi v an ai cn ci st w) (hy:y.size≤4294967296) (ha:st.asked.length≤4294967296) :
 Calls Tryz.prog 124 #[.pointer (some ⟨o,0,none⟩),.string y] w fun e w'=>e=.returned (.string (qp v y st).1)∧vY o m lo hi v an ai cn ci (qp v y st).2 w w':=by
 rcases h with h|⟨h1,h2,h3,h4⟩
 · exact (yA o m lo hi v an ai cn ci y st w h hy ha).mono fun e w' ⟨e1,e2,e3⟩=>⟨e1,.inl e2,e3⟩
 · refine (hF o st.err y w h1).mono fun e w' ⟨e1,e2⟩=>?_
   subst e2
   rw [uu h1.1]
   exact ⟨e1,.inr ⟨h1,h2,h3,h4⟩,Touch.refl _ _⟩
theorem iH {o m lo hi:Nat} {v:JV} {an ai:Option Addr} {cn ci:Nat} {st:PS} {w:World} (y:ByteArray) (l u:Int) (h:zM o m lo hi v an ai cn ci st w) (hy:y.size≤4294967296) (ha:st.asked.length≤4294967296) :
 Calls Tryz.prog 123 #[.pointer (some ⟨o,0,none⟩),.string y,.int .i64 l,.int .i64 u] w fun e w'=>e=.returned (.int .i64 (qF v y l u st).1)∧vY o m lo hi v an ai cn ci (qF v y l u st).2 w w':=by
 have hlt:=h.lt
 rcases h with h|⟨h1,h2,h3,h4⟩
 · exact (sm o m lo hi v an ai cn ci y l u st w h hy ha hlt.2.1 hlt.1).mono fun e w' ⟨e1,e2,e3⟩=>⟨e1,.inl e2,e3⟩
 · refine (iX o st.err y l u w h1 h2).mono fun e w' ⟨e1,e2⟩=>?_
   rw [mK h1.1]
   exact ⟨e1,.inr ⟨h1.below e2 h2,Nat.lt_of_lt_of_le h2 e2.size,h3,h4⟩,Touch.of_below e2 lz⟩
def tX (v:JV) (y:ByteArray) (most:Nat) (st:PS) (w:World) (e:Ending) (w':World):Prop :=
 ∃an' cn' ai' ci',e=.returned (.agg #[.int .u8 (qr v y most st).1.kind,.int .i64 (qr v y most st).1.n,.string (qr v y most st).1.t,.slice an' (qr v y most st).1.names.length cn',.slice ai' (qr v y most st).1.items.length ci'])∧Rep w' w.heap.size w'.heap.size (qr v y most st).1 (.agg #[.int .u8 (qr v y most st).1.kind,.int .i64 (qr v y most st).1.n,.string (qr v y most st).1.t,.slice an' (qr v y most st).1.names.length cn',.slice ai' (qr v y most st).1.items.length ci'])
theorem iy {o m lo hi:Nat} {v:JV} {an ai:Option Addr} {cn ci:Nat} {st:PS} {w:World} (y:ByteArray) (most:Nat) (h:zM o m lo hi v an ai cn ci st w) (hy:y.size≤4294967296) (ha:st.asked.length≤4294967296) :
 Calls Tryz.prog 62 #[.pointer (some ⟨o,0,none⟩),.string y,.int .i64 most] w fun e w'=>tX v y most st w e w'∧vY o m lo hi v an ai cn ci (qr v y most st).2 w w':=by
 rcases h with h|⟨h1,h2,h3,h4⟩
 · exact (sd o m lo hi v an ai cn ci y most st w h hy ha).mono fun e w' ⟨⟨a,b,c,d,e1,e2⟩,e3,e4⟩=>⟨⟨a,b,c,d,e1,e2⟩,.inl e3,e4⟩
 · refine (iJ o st.err y most w h1 h2).mono fun e w' ⟨e1,e2⟩=>?_
   unfold tX
   rw [mV h1.1]
   exact ⟨⟨none,0,none,0,e1,jY _ _ _⟩,.inr ⟨h1.below e2 h2,Nat.lt_of_lt_of_le h2 e2.size,h3,h4⟩,Touch.of_below e2 lz⟩
theorem fG {o m lo hi:Nat} {v:JV} {an ai:Option Addr} {cn ci:Nat} {st:PS} {w:World} (e:Int) (h:zM o m lo hi v an ai cn ci st w) :
 Calls Tryz.prog 63 #[.pointer (some ⟨o,0,none⟩),.int .i64 e] w fun r w'=>r=.returned (.tuple #[])∧vY o m lo hi v an ai cn ci (st.fail e) w w':=by
 rcases h with h|⟨h1,h2,h3,h4⟩
 · exact (rz o m lo hi v an ai cn ci e st w h).mono fun r w' ⟨e1,e2,e3⟩=>⟨e1,.inl e2,e3⟩
 · refine (tg o st.err e w h1).mono fun r w' ⟨e1,e2⟩=>?_
   subst e2
   rw [sR h1.1]
   exact ⟨e1,.inr ⟨h1,h2,h3,h4⟩,Touch.refl _ _⟩
theorem mW {o m lo hi:Nat} {v:JV} {an ai:Option Addr} {cn ci:Nat} {st:PS} {w:World} (h:zM o m lo hi v an ai cn ci st w) (hv:v.wt≤4294967296) :
 Calls Tryz.prog 68 #[.pointer (some ⟨o,0,none⟩)] w fun e w'=>e=.returned (.int .i64 (qf v st))∧w=w':=by
 rcases h with h|⟨⟨h1,c6,k,c0⟩,h2⟩
 · exact fh o m lo hi v an ai cn ci st w h (fun i hi=>by have h1:=kN v.names i hi;have h2:=v.wt_eq;omega)
 · refine (hO o st.err k w h1 c6 c0).mono fun e w' ⟨e1,e2⟩=>⟨?_,e2⟩
   rw [e1]
   unfold qf
   rw [if_pos h1]
def st0 (v:JV):PS:=if v.kind=5 then ⟨[],0⟩ else ⟨[],10⟩
def vE (C:JV→Prop) (st:PS) (w:World) (e:Ending) (w':World):Prop :=
 ∃u o m lo hi an ai cn ci,C u∧u.wt≤4294967296∧e=.returned (.pointer (some ⟨o,0,none⟩))∧zM o m lo hi u an ai cn ci st w'∧w.heap.size≤o∧w.heap.size≤m∧Below w.heap.size w w'
def gx (v u:JV):Prop:=if v.kind=5 then WeakCopy v u else u=qo
def jh (v u:JV):Prop:=u=if v.kind=5 then v else qo
theorem sN:qo.wt≤4294967296:=by rw [JV.wt_eq];decide
theorem sS {v:JV} {x:Value} {w:World} {lo hi:Nat} {C:JV→Prop} (hR:Rep w lo hi v x) (hk:v.kind≠5) (hC:C qo):Calls Tryz.prog 60 #[x] w (vE C (st0 v) w):=by
 obtain ⟨an,cn,ai,ci,rfl,-⟩:=hR.parts
 refine (bC v.kind v.n v.t _ _ w hk).mono ?_
 rintro e w' ⟨o,e1,e2,e3,e4,e5⟩
 refine ⟨qo,o,o,0,0,none,none,0,0,hC,sN,e1,?_,e2,e2,e5⟩
 unfold st0
 rw [if_neg hk]
 exact .inr ⟨e4,e3,rfl,rfl⟩
theorem oD {v:JV} {x:Value} {w:World} {hi:Nat} (hN:v.wt≤4294967296) (hhi:hi≤w.heap.size) (hR:Rep w 0 hi v x) (hm:v.mayB=true):Calls Tryz.prog 60 #[x] w (vE (gx v) (st0 v) w):=by
 by_cases hk:v.kind=5
 · have hp:=pz hm hk
   refine (uj v x w hi hN hhi hR hk hp.2.2.1 hp.2.2.2.1).mono ?_
   rintro e w' ⟨u,hu,o,m,lo,hi2,an,ai,cn,ci,e1,e2,e3,e4,e5⟩
   refine ⟨u,o,m,lo,hi2,an,ai,cn,ci,?_,e2.wt,e1,?_,e3,e4,e5⟩
   · unfold gx;rw [if_pos hk];exact hu
   · unfold st0;rw [if_pos hk];exact .inl e2
 · exact sS hR hk (by unfold gx;rw [if_neg hk])
theorem sA {v:JV} {x:Value} {w:World} {lo hi:Nat} (hN:v.wt≤4294967296) (hlo:0<lo) (hhi:hi≤w.heap.size) (hR:Rep w lo hi v x) (hp:v.kind=5→qQ v.names=true∧v.names.length=v.items.length):Calls Tryz.prog 60 #[x] w (vE (jh v) (st0 v) w):=by
 by_cases hk:v.kind=5
 · refine (gX v x w lo hi hN hhi hR hk (hp hk).1 (hp hk).2 (fun _ _=>.inl hlo)).mono ?_
   rintro e w' ⟨o,m,lo2,hi2,an,ai,cn,ci,e1,e2,e3,e4,e5⟩
   refine ⟨v,o,m,lo2,hi2,an,ai,cn,ci,?_,hN,e1,?_,e3,e4,e5⟩
   · unfold jh;rw [if_pos hk]
   · unfold st0;rw [if_pos hk];exact .inl e2
 · exact sS hR hk (by unfold jh;rw [if_neg hk])
def qN (it:JV) (most:Nat):Int:=if it.kind≠4 then 10 else if most<it.items.length then 5 else 0
def zn (it:JV) (most:Nat):Int:=if qN it most≠0 then qN it most else if it.items.all (fun x=>decide (x.kind=3)) then 0 else 10
def ku (it:JV) (most:Nat):List ByteArray:=if zn it most=0 then it.items.map JV.t else []
theorem mY {it:JV} {most:Nat} (e:zn it most=0):it.kind=4∧¬most<it.items.length∧it.items.all (fun x=>decide (x.kind=3))=true:=by
 unfold zn qN at e
 by_cases h1:it.kind=4
 · by_cases h2:most<it.items.length
   · simp [h1,h2] at e
   · cases h3:it.items.all (fun x=>decide (x.kind=3)) with
     | true=>exact ⟨h1,h2,rfl⟩
     | false=>simp [h1,h2,h3] at e
 · simp [h1] at e
theorem mG {it:JV} {a:List ByteArray} {most:Nat} {X:List ByteArray × PS} (e:¬zn it most=0) :
 (if it.kind≠4 then ([],(⟨a,10⟩:PS)) else if most<it.items.length then ([],⟨a,5⟩) else if it.items.all (fun x=>decide (x.kind=3)) then X else ([],⟨a,10⟩))=([],⟨a,zn it most⟩):=by
 unfold zn qN at e ⊢
 by_cases h1:it.kind=4
 · by_cases h2:most<it.items.length
   · simp [h1,h2]
   · cases h3:it.items.all (fun x=>decide (x.kind=3)) with
     | true=>simp [h1,h2,h3] at e
     | false=>simp [h1,h2]
 · simp [h1]
theorem pX {it:JV} {most:Nat} (h:qN it most≠0):zn it most=qN it most:=by unfold zn;rw [if_pos h]
set_option maxHeartbeats 1000000 in
set_option maxRecDepth 100000 in
theorem fB (it:JV) (most:Nat) (an' ai':Option Addr) (cn' ci':Nat) (w:World) :
 Calls Tryz.prog 129 #[.agg #[.int .u8 it.kind,.int .i64 it.n,.string it.t,.slice an' it.names.length cn',.slice ai' it.items.length ci'],.int .i64 most] w fun e w'=>e=.returned (.tuple #[if qN it most=0 then .slice ai' it.items.length ci' else .slice none 0 0,.int .i64 (qN it most)])∧Below w.heap.size w w':=by
 have HB:=Lh (show Below w.heap.size w (w.alloc (.cells #[.int .u8 it.kind,.int .i64 it.n,.string it.t,.slice an' it.names.length cn',.slice ai' it.items.length ci'] 25)) from (Below.refl _ _).alloc lz _)
 by_cases hk:it.kind=4
 · by_cases h1:most<it.items.length
   · have HV:=Lh (show qN it most=5 by unfold qN;rw [if_neg (by simp [hk]),if_pos h1])
     rw [HV.out,if_neg (show ¬(5:Int)=0 by decide)]
     rw [hk] at HB ⊢
     have h1':decide ((most:Int)<(it.items.length:Int))=true:=by simpa using h1
     clear hk
     go_enter Tryz.func129,Tryz.ntmps129
     go_wp2
     go_ret2
     exact ⟨rfl,HB.out⟩
   · have HV:=Lh (show qN it most=0 by unfold qN;rw [if_neg (by simp [hk]),if_neg h1])
     rw [HV.out,if_pos rfl]
     rw [hk] at HB ⊢
     have h1':decide ((most:Int)<(it.items.length:Int))=false:=by simpa using h1
     clear hk
     go_enter Tryz.func129,Tryz.ntmps129
     go_wp2
     go_ret2
     exact ⟨rfl,HB.out⟩
 · have HV:=Lh (show qN it most=10 by unfold qN;rw [if_pos hk])
   rw [HV.out,if_neg (show ¬(10:Int)=0 by decide)]
   have hk':(it.kind != 4)=true:=by simpa using hk
   clear hk
   go_enter Tryz.func129,Tryz.ntmps129
   go_wp2
   go_ret2
   exact ⟨rfl,HB.out⟩
theorem sI {w:World} {B T sz n c:Nat} {a:Option Addr} {l:List Value} (h:w.ownsRow B T sz (.slice a n c) n l):n≤c:=by
 rcases h.2 with ⟨hv,h0⟩|⟨g,cap,cur,hv,hg,hh,hc,r⟩
 · omega
 · simp only [Value.slice.injEq] at hv
   omega
def kF (it:JV) (most:Nat) (w:World) (e:Ending) (w':World):Prop :=
 ∃a c,e=.returned (.tuple #[.slice a (ku it most).length c,.int .i64 (zn it most)])∧(ku it most).length≤c∧qg w' w.heap.size w'.heap.size a (ku it most)∧Below w.heap.size w w'
theorem fP {it:JV} {most:Nat} {w w':World} {er:Int} (h:zn it most=er) (h0:er≠0) (hb:Below w.heap.size w w'):kF it most w (.returned (.tuple #[.slice none 0 0,.int .i64 er])) w':=by
 unfold kF ku
 rw [h,if_neg h0]
 exact ⟨none,0,rfl,Nat.le_refl _,.inl rfl,hb⟩
set_option maxHeartbeats 2000000 in
set_option maxRecDepth 100000 in
theorem rt (it:JV) (most p1:Nat) (an' ai':Option Addr) (cn' ci' lo:Nat) (w:World) (hN:it.wt≤4294967296) (hR:Rep w lo w.heap.size it (.agg #[.int .u8 it.kind,.int .i64 it.n,.string it.t,.slice an' it.names.length cn',.slice ai' it.items.length ci'])) (c1:w.cell? ⟨p1,0,none⟩=some (.int .i64 most)) :
 Calls Tryz.prog 237 #[.agg #[.int .u8 it.kind,.int .i64 it.n,.string it.t,.slice an' it.names.length cn',.slice ai' it.items.length ci'],.pointer (some ⟨p1,0,none⟩)] w (kF it most w):=by
 obtain ⟨an2,cn2,ai2,ci2,hx,-,-,-,h4⟩:=hR.parts
 simp only [Value.agg.injEq,Array.mk.injEq,List.cons.injEq,Value.slice.injEq,true_and,and_true] at hx
 obtain ⟨⟨rfl,rfl⟩,rfl,rfl⟩:=hx
 obtain ⟨W,hW⟩:∃W,W=w.alloc (.cells #[.int .u8 it.kind,.int .i64 it.n,.string it.t,.slice an' it.names.length cn',.slice ai' it.items.length ci'] 25):=⟨_,rfl⟩
 have hb:Below w.heap.size w W:=by rw [hW];exact (Below.refl _ _).alloc lz _
 have d1:W.cell? ⟨p1,0,none⟩=some (.int .i64 most):=by rw [hb.cell (World.block_lt_of_cell? w _ c1)];exact c1
 have hx0:W.heap[w.heap.size]?=some (.cells #[.int .u8 it.kind,.int .i64 it.n,.string it.t,.slice an' it.names.length cn',.slice ai' it.items.length ci'] 25 (0,0)):=by rw [hW];exact heap_alloc_new w _
 have HI:=Lh (fB it most an' ai' cn' ci' W)
 have HBW:=Lh hb
 have H4:=Lh h4
 have HW:=Lh hW
 have HLN:=Lh (show it.items.length≤4294967296 by have:=it.wt_bd;omega)
 obtain ⟨x0,x1,x2,x3,x4⟩:=bx5 hx0
 clear hb c1 hW h4 hR hx0 hN
 obtain ⟨nn,hnn⟩:∃nn,nn=it.items.length:=⟨_,rfl⟩
 rw [← hnn] at HI HLN x4 ⊢
 rw [← hnn] at HW
 have HNN:=Lh hnn
 clear hnn
 by_cases hie:qN it most=0
 case neg =>
  have HV:=Lh (pX hie)
  obtain ⟨er,her⟩:∃er,er=qN it most:=⟨_,rfl⟩
  rw [if_neg hie,← her] at HI
  rw [← her] at HV hie
  have h1:(er != 0)=true:=by simpa using hie
  have HNE:=Lh hie
  clear hie her
  go_enter Tryz.func237,Tryz.ntmps237
  go_upto_region 1 with fail
  rw [← HW.out]
  go_wp2_with fail
  refine HI.out.mono ?_
  rintro e w1 ⟨rfl,hb1⟩
  have HB1:=Lh (HBW.out.trans (hb1.mono HBW.out.size))
  clear hb1
  go_wp2
  go_ret2
  exact fP HV.out HNE.out HB1.out
 have HV:=Lh (show zn it most=if it.items.all (fun x=>decide (x.kind=3)) then 0 else 10 by unfold zn;rw [if_neg (by simp [hie])])
 rw [if_pos hie,hie] at HI
 clear hie
 obtain ⟨i2,hi2,hx0,hx1,hx2⟩:=info_parts h8
 go_enter Tryz.func237,Tryz.ntmps237
 go_upto_region 1 with fail
 rw [← HW.out]
 go_wp2_with fail
 refine HI.out.mono ?_
 clear HI
 rintro e w1 ⟨rfl,hb1⟩
 have HB1:=Lh (HBW.out.trans (hb1.mono HBW.out.size))
 clear hb1 HW x0 x1 x2 x3 x4 d1
 go_wp2
 go_loopw [7,9,21] (fun vs _ i wr=>∃(k:Nat),k≤nn∧i=.int .i64 k∧(∀j (h:j<it.items.length),j<k→it.items[j].kind=3)∧wr.ownsRow w1.heap.size 9 1 vs k (((it.items.map JV.t).take k).map .string)∧Below w1.heap.size w1 wr) (fun _ _ i _=>nn - (intOf i).toNat)
 case atStart=>exact ⟨0,by omega,rfl,fun j _ h=>by omega,World.ownsRow_nil _ _ _ _,Below.refl _ _⟩
 case round =>
  obtain ⟨k,hk,rfl,hal,hown,hbel⟩:=hrel
  have hlk:((it.items.map JV.t).take k).length=k:=by rw [List.length_take,List.length_map,← HNN.out];omega
  obtain ⟨am,cm,hv0,-,-⟩:=jj hown hlk.symm
  rw [hlk] at hv0
  subst hv0
  clear hlk
  have HB:Hid (Below w.heap.size w wr):=HB1.out.trans (hbel.mono HB1.out.size)
  have HBL:=Lh hbel
  have HO:=Lh hown
  have HAL:=Lh hal
  clear hal
  by_cases hlt:k<nn
  · have hlt':k<it.items.length:=by rw [← HNN.out];exact hlt
    obtain ⟨b,off,an3,cn3,ai3,ci3,rfl,_,hbz,y0,y1,y2,y3,y4,_⟩:=(H4.out.below HB.out lz lz HB.out.size).get k hlt'
    have HTK:=Lh (show ((it.items.map JV.t).take (k+1)).map Value.string=((it.items.map JV.t).take k).map .string ++ [.string it.items[k].t] by rw [List.take_succ_eq_append_getElem (by simpa using hlt'),List.map_append];simp)
    have HKA:=Lh (show it.items[k].kind≠3→it.items.all (fun x=>decide (x.kind=3))=false from fun h=>List.all_eq_false.2 ⟨it.items[k],List.getElem_mem _,by simpa using h⟩)
    have HKB:=Lh (show it.items[k].kind=3→∀j (h:j<it.items.length),j<k+1→it.items[j].kind=3 from fun h j hj hjk=>by
     rcases Nat.lt_succ_iff_lt_or_eq.1 hjk with h1|h1
     · exact HAL.out j hj h1
     · subst h1;exact h)
    obtain ⟨vo,hvo⟩:∃vo,vo=(Value.slice (some ⟨b,off,none⟩) nn ci'):=⟨_,rfl⟩
    clear vo hvo
    generalize it.items[k]=x at *
    have hz:w1.heap.size≤wr.heap.size:=hbel.size
    obtain ⟨WX,hWX⟩:∃WX,WX=wr.alloc (.cells #[.int .u8 x.kind,.int .i64 x.n,.string x.t,.slice an3 x.names.length cn3,.slice ai3 x.items.length ci3] 25):=⟨_,rfl⟩
    have hbX:Below wr.heap.size wr WX:=by rw [hWX];exact (Below.refl _ _).alloc lz _
    have hxX:WX.heap[wr.heap.size]?=some (.cells #[.int .u8 x.kind,.int .i64 x.n,.string x.t,.slice an3 x.names.length cn3,.slice ai3 x.items.length ci3] 25 (0,0)):=by rw [hWX];exact heap_alloc_new wr _
    have HBX:=Lh (HBL.out.trans (hbX.mono hz))
    have HOX:=Lh (qC HO.out hbX)
    have HBZ:=Lh (HB.out.trans (hbX.mono HB.out.size))
    have hzX:w1.heap.size≤WX.heap.size:=by rw [hWX];simp;omega
    have HWX:=Lh hWX
    have z0:WX.cell? ⟨wr.heap.size,0,none⟩=some (.int .u8 x.kind):=qq hxX rfl
    have z2:WX.cell? ⟨wr.heap.size,2,none⟩=some (.string x.t):=qq hxX rfl
    clear hbel hown hbX hxX hWX
    by_cases hk3:x.kind=3
    · have HK3:=Lh (HKB.out hk3)
      have h3:(x.kind != 3)=false:=by simpa using hk3
      have hnb:=HLN.out
      clear hk3 HKA HKB
      go_upto_region 8 with fail
      rw [← HWX.out]
      go_wp2_with (at_builtin;refine wpList_append_lies _ rfl (.tmp 28) (.tmp 31) 22 rfl w1.heap.size 9 i2 _ 1 16 Tryz.underlying22 hi2 hx0 hx1 hx2 rfl (by decide) (.slice am k cm) k (((it.items.map JV.t).take k).map .string) rfl (HOX.out.alloc _) ⟨WX.heap.size,0,none⟩ 1 1 [.string x.t] rfl rfl (World.news_of_block (cs:=#[.string x.t]) (t:=9) (fr:=(0,0)) (heap_alloc_new WX _)) (by simp [Value.oneCell']) (by omega) (by unfold maxLen;omega) (by omega) (by simp;omega) (WX.heap.size+1) (by simp) ?_;intro g1 cap2 w6 hown6 hgrow6 hat6 hlt6;have HO6:=Lh hown6;have HG6:=Lh hgrow6;clear hown6 hgrow6 hat6)
      go_roundw
      case rel =>
       refine ⟨k+1,by omega,by go_num,HK3.out,?_,below_grown (HBX.out.alloc (by omega) _) (by simp;omega) HG6.out (fun b hb=>(HOX.out.lt b hb).1)⟩
       rw [HTK.out]
       exact HO6.out
      case measure=>simp [intOf];omega
    · have HV2:=Lh (show zn it most=10 by rw [HV.out,HKA.out hk3];rfl)
      have h3:(x.kind != 3)=true:=by simpa using hk3
      clear hk3 HKA HKB
      go_upto_region 8 with fail
      rw [← HWX.out]
      go_wp2
      go_ret2
      exact fP HV2.out (by decide) HBZ.out
  · obtain rfl:k=nn:=by omega
    have HV2:=Lh (show zn it most=0 by
     rw [HV.out,if_pos]
     refine List.all_eq_true.2 fun x hx=>?_
     obtain ⟨j,hj,rfl⟩:=List.getElem_of_mem hx
     simpa using HAL.out j hj (by rw [HNN.out];exact hj))
    have hlm:(it.items.map JV.t).length=k:=by rw [List.length_map,HNN.out]
    rw [List.take_of_length_le (Nat.le_of_eq hlm)] at hown
    obtain ⟨a5,c5,hv6,_,hv5⟩:=jj hown hlm.symm
    rw [hlm] at hv6
    simp only [Value.slice.injEq,true_and] at hv6
    obtain ⟨rfl,rfl⟩:=hv6
    have HV5:=Lh hv5
    have HLM:=Lh hlm
    have HCM:=Lh (sI hown)
    clear hown hv5 hbel hlm
    go_wp2
    go_ret2
    have e1:ku it most=it.items.map JV.t:=by unfold ku;rw [if_pos HV2.out]
    unfold kF
    rw [e1,HV2.out,HLM.out]
    exact ⟨am,cm,rfl,HCM.out,HV5.out.carry HB1.out.size lz (fun _ _ _=>rfl),HB.out⟩
def vb (o m lo hi:Nat) (v:JV) (an ai:Option Addr) (cn ci:Nat) (y:ByteArray) (most:Nat) (st:PS) (w:World) (e:Ending) (w':World):Prop :=
 (∃a c,e=.returned (.slice a (qv v y most st).1.length c)∧(qv v y most st).1.length≤c∧qg w' w.heap.size w'.heap.size a (qv v y most st).1)∧PickAt o m lo hi v an ai cn ci (qv v y most st).2 w'∧Touch (fun b=>b=o∨b=m) w w'
theorem wN {o m lo hi:Nat} {v:JV} {an ai:Option Addr} {cn ci:Nat} {y:ByteArray} {most:Nat} {st st':PS} {w w':World} (h:qv v y most st=([],st')) (hP:PickAt o m lo hi v an ai cn ci st' w') (hT:Touch (fun b=>b=o∨b=m) w w'):vb o m lo hi v an ai cn ci y most st w (.returned (.slice none 0 0)) w':=by
 unfold vb
 rw [h]
 exact ⟨⟨none,0,rfl,Nat.le_refl _,.inl rfl⟩,hP,hT⟩
set_option maxHeartbeats 2000000 in
set_option maxRecDepth 100000 in
theorem ri (o m lo hi:Nat) (v:JV) (an ai:Option Addr) (cn ci:Nat) (y:ByteArray) (most:Nat) (st:PS) (w:World) (hP:PickAt o m lo hi v an ai cn ci st w) (hy:y.size≤4294967296) (ha:st.asked.length≤4294967296) (p1:Nat) (g1:w.heap[p1]?=some (.cells #[.int .i64 most] 3 (0,0))) :
 Calls Tryz.prog 236 #[.pointer (some ⟨o,0,none⟩),.string y,.func (.func 237) #[] #[.pointer (some ⟨p1,0,none⟩)]] w (vb o m lo hi v an ai cn ci y most st w):=by
 have HP:=Lh hP
 have HG1:=Lh g1
 clear hP g1
 have c6:w.cell? ⟨o,6,none⟩=some (.int .i64 st.err):=qq HP.out.obj rfl
 have c0:w.cell? ⟨o,0,none⟩=some (.int .u8 5):=(qq (j:=0) HP.out.obj rfl).trans (by rw [HP.out.kind];rfl)
 by_cases he:st.err=0
 · rw [he] at c6
   have HE:=Lh he
   clear he
   have c1:w.cell? ⟨o,1,none⟩=some (.int .i64 v.n):=qq HP.out.obj rfl
   have c2:w.cell? ⟨o,2,none⟩=some (.string v.t):=qq HP.out.obj rfl
   have c3:w.cell? ⟨o,3,none⟩=some (.slice an v.names.length cn):=qq HP.out.obj rfl
   have c4:w.cell? ⟨o,4,none⟩=some (.slice ai v.items.length ci):=qq HP.out.obj rfl
   have HR:=Lh HP.out.rep
   rw [HP.out.kind] at HR
   have HG:=Lh (jU v y _ w lo hi HP.out.wt HP.out.pos HP.out.le HR.out HP.out.kind HP.out.rise HP.out.len)
   go_enter Tryz.func236,Tryz.ntmps236
   go_wp2_with fail
   refine (q6 o 0 5 w c6 c0 (fun _=>rfl)).mono ?_
   rintro r w' ⟨rfl,rfl⟩
   go_wp2_with fail
   refine HG.out.mono ?_
   clear HG c0 c1 c2 c3 c4 c6
   rintro e w1 ⟨hh,hb1⟩
   have HB1:=Lh hb1
   clear hb1
   rcases hh with ⟨r,hr1,hr2,hre,an',cn',ai',ci',rfl,hrep⟩|⟨hno,rfl⟩
   · have HL:=Lh (xG HP.out.rise r hr1 hr2 hre)
     have HREP:=Lh hrep
     have HWT:=Lh (show v.items[r].wt≤4294967296 by have h1:=JV.wts_get v.items r hr2;have h2:=v.wt_bd;have h3:=HP.out.wt;omega)
     clear hre hrep
     generalize v.items[r]=it at *
     have hb2:Below w.heap.size w (w1.alloc (.cells #[.int .u8 it.kind,.int .i64 it.n,.string it.t,.slice an' it.names.length cn',.slice ai' it.items.length ci'] 25)):=HB1.out.alloc HB1.out.size _
     have HB2:=Lh hb2
     have HC:=Lh (rt it most p1 an' ai' cn' ci' w.heap.size (w1.alloc (.cells #[.int .u8 it.kind,.int .i64 it.n,.string it.t,.slice an' it.names.length cn',.slice ai' it.items.length ci'] 25)) HWT.out (HREP.out.below ((Below.refl _ _).alloc lz _) lz lz (by simp)) (qq ((hb2.block _ (qx HG1.out)).trans HG1.out) rfl))
     clear hb2
     unfold kF at HC
     by_cases hk:zn it most=0
     · have HX:=Lh (show qv v y most st=(it.items.map JV.t,⟨y :: st.asked,0⟩) by unfold qv;rw [if_neg (by simp [HE.out]),HL.out];obtain ⟨q1,q2,q3⟩:=mY hk;simp only;rw [if_neg (by simp [q1]),if_neg q2,if_pos q3])
       rw [show ku it most=it.items.map JV.t by unfold ku;rw [if_pos hk],hk] at HC
       clear hk
       obtain ⟨L,hL⟩:∃L,L=it.items.map JV.t:=⟨_,rfl⟩
       rw [← hL] at HC HX
       clear hL
       go_wp2_with fail
       refine HC.out.mono ?_
       clear HC
       rintro e w2 ⟨al,cl,rfl,hcl,hsl,hb3⟩
       have HCL:=Lh hcl
       clear hcl
       have HB3:=Lh (HB2.out.trans (hb3.mono HB2.out.size))
       have HP3:=Lh (HP.out.below HB3.out)
       have HSL:=Lh hsl
       have HZL:=Lh (show w.heap.size<(w1.alloc (.cells #[.int .u8 it.kind,.int .i64 it.n,.string it.t,.slice an' it.names.length cn',.slice ai' it.items.length ci'] 25)).heap.size from by have:=HB1.out.size;simp;omega)
       have HMZ:=Lh (show m<w.heap.size from by obtain ⟨D,n,h,_⟩:=HP.out.map;exact h.lt)
       clear hb3 HB2 hsl
       have d5:w2.cell? ⟨o,5,none⟩=some (.map (some m)):=qq HP3.out.obj rfl
       have hkey:Go.keyOf Tryz.prog 9 (.string y)=some (.string y.data.toList):=keyOf_string_mk Tryz.underlying9 (by unfold maxLen;omega)
       obtain ⟨D,n,hown,hn,hD⟩:=HP3.out.map
       obtain ⟨c,hat,hc0,hc1,hc2⟩:=hD.2 y
       obtain ⟨c',hrun,hat',_⟩:=hown.lookup_int jk Tryz.underlying150 Tryz.underlying3 (j8 _) hkey
       rw [hat] at hat'
       simp only [DataW.lit.injEq,Lit.int.injEq,true_and] at hat'
       subst hat'
       have HD:=Lh (hD.cons y c hat)
       have HKY:=Lh hkey
       have HOW:=Lh hown
       clear hD hat hc2 hkey hown
       go_wp2_with (at_mapUpdate;refine wpList_mapUpdate_own _ rfl _ _ _ 150 rfl 9 3 jk Tryz.underlying150 _ m n D rfl HOW.out (by unfold maxLen;omega) _ _ _ rfl rfl HKY.out _ [] (plainElem_int Tryz.underlying3 (WalkArith.wf_i64 (by omega))) ?_)
       intro w3 hown3 hgrow3
       have HP4:=Lh (HP3.out.ask y hgrow3 hown3 (by omega) HD.out)
       have HT:=Lh (show Touch (fun b=>b=o∨b=m) w w3 from ⟨by rw [hgrow3.os,HB3.out.os],by rw [hgrow3.tape,HB3.out.tape],by rw [hgrow3.output,HB3.out.output],Nat.le_trans HB3.out.size hgrow3.size,fun k hk hs=>by rw [hgrow3.block k (Nat.lt_of_lt_of_le hk HB3.out.size) (fun e=>hs (.inr (Option.some.inj e))),HB3.out.block k hk]⟩)
       have HS3:=Lh (show qg w3 w.heap.size w3.heap.size al L from HSL.out.carry (Nat.le_of_lt HZL.out) hgrow3.size fun b h1 h2=>hgrow3.block b h2 (fun e=>by have:=Option.some.inj e;have:=HZL.out;have:=HMZ.out;omega))
       clear hgrow3 hown3
       rw [HE.out] at HP4
       go_wp2
       go_ret
       unfold vb
       rw [HX.out]
       exact ⟨⟨al,cl,rfl,HCL.out,HS3.out⟩,HP4.out,HT.out⟩
     · have HX:=Lh (show qv v y most st=([],⟨st.asked,zn it most⟩) by unfold qv;rw [if_neg (by simp [HE.out]),HL.out];exact mG hk)
       rw [show ku it most=[] by unfold ku;rw [if_neg hk]] at HC
       obtain ⟨er,her⟩:∃er,er=zn it most:=⟨_,rfl⟩
       rw [← her] at HC HX hk
       have hk':(er != 0)=true:=by simpa using hk
       have hk2:(er == 0)=false:=by simpa using hk
       clear hk her
       go_wp2_with fail
       refine HC.out.mono ?_
       clear HC
       rintro e w2 ⟨al,cl,rfl,-,-,hb3⟩
       have HB3:=Lh (HB2.out.trans (hb3.mono HB2.out.size))
       have HP3:=Lh (HP.out.below HB3.out)
       clear hb3 HB2
       have d6:w2.cell? ⟨o,6,none⟩=some (.int .i64 0):=(qq (j:=6) HP3.out.obj rfl).trans (by rw [HE.out];rfl)
       have d0:w2.cell? ⟨o,0,none⟩=some (.int .u8 5):=(qq (j:=0) HP3.out.obj rfl).trans (by rw [HP.out.kind];rfl)
       have d7:w2.frozen? ⟨o,6,none⟩=false:=by simp [World.frozen?,HP3.out.obj]
       go_wp2_with fail
       refine (zS o er _ d6 d0 d7).mono ?_
       clear d6 d0 d7
       rintro e w3 ⟨rfl,rfl⟩
       have HP4:=Lh (HP3.out.fail er)
       have HT:=Lh (show Touch (fun b=>b=o∨b=m) w (w2.setCell ⟨o,6,none⟩ (.int .i64 er)) from (Touch.of_below HB3.out lz).setCell (.inl (.inl rfl)) _)
       go_wp2
       go_ret
       exact wN HX.out HP4.out HT.out
   · have HX:=Lh (show qv v y most st=([],⟨st.asked,6⟩) by unfold qv;rw [if_neg (by simp [HE.out]),show v.look y=none from xu _ _ _ hno])
     unfold zeroAgg
     have HB3:=Lh (show Below w.heap.size w (w1.alloc (.cells #[.int .u8 0,.int .i64 0,.string ⟨#[]⟩,.slice none 0 0,.slice none 0 0] 25)) from HB1.out.alloc HB1.out.size _)
     have HP3:=Lh (HP.out.below HB3.out)
     clear hno HB1
     have d6:(w1.alloc (.cells #[.int .u8 0,.int .i64 0,.string ⟨#[]⟩,.slice none 0 0,.slice none 0 0] 25)).cell? ⟨o,6,none⟩=some (.int .i64 0):=(qq (j:=6) HP3.out.obj rfl).trans (by rw [HE.out];rfl)
     have d0:(w1.alloc (.cells #[.int .u8 0,.int .i64 0,.string ⟨#[]⟩,.slice none 0 0,.slice none 0 0] 25)).cell? ⟨o,0,none⟩=some (.int .u8 5):=(qq (j:=0) HP3.out.obj rfl).trans (by rw [HP.out.kind];rfl)
     have d7:(w1.alloc (.cells #[.int .u8 0,.int .i64 0,.string ⟨#[]⟩,.slice none 0 0,.slice none 0 0] 25)).frozen? ⟨o,6,none⟩=false:=by simp [World.frozen?,HP3.out.obj]
     go_wp2_with fail
     refine (zS o 6 _ d6 d0 d7).mono ?_
     clear d6 d0 d7
     rintro e w3 ⟨rfl,rfl⟩
     have HP4:=Lh (HP3.out.fail 6)
     have HT:=Lh (show Touch (fun b=>b=o∨b=m) w ((w1.alloc (.cells #[.int .u8 0,.int .i64 0,.string ⟨#[]⟩,.slice none 0 0,.slice none 0 0] 25)).setCell ⟨o,6,none⟩ (.int .i64 6)) from (Touch.of_below HB3.out lz).setCell (.inl (.inl rfl)) _)
     go_wp2
     go_ret
     exact wN HX.out HP4.out HT.out
 · have he':(st.err == 0)=false:=by simpa using he
   have he2:(st.err != 0)=true:=by simpa using he
   have HX:=Lh (show qv v y most st=([],st) by unfold qv;rw [if_pos he])
   have HE:=Lh he
   clear he
   go_enter Tryz.func236,Tryz.ntmps236
   go_wp2_with fail
   refine (q6 o st.err 5 w c6 c0 (fun _=>rfl)).mono ?_
   rintro r w' ⟨rfl,rfl⟩
   go_wp2
   go_ret
   exact wN HX.out HP.out (Touch.refl _ _)
set_option maxHeartbeats 1000000 in
set_option maxRecDepth 100000 in
theorem dh {o m lo hi:Nat} {v:JV} {an ai:Option Addr} {cn ci:Nat} {st:PS} {w:World} (y:ByteArray) (most:Nat) (h:zM o m lo hi v an ai cn ci st w) (hy:y.size≤4294967296) (ha:st.asked.length≤4294967296) :
 Calls Tryz.prog 182 #[.pointer (some ⟨o,0,none⟩),.string y,.int .i64 most] w fun e w'=>(∃a c,e=.returned (.slice a (qv v y most st).1.length c)∧(qv v y most st).1.length≤c∧qg w' w.heap.size w'.heap.size a (qv v y most st).1)∧vY o m lo hi v an ai cn ci (qv v y most st).2 w w':=by
 have hb:Below w.heap.size w (w.alloc (.cells #[.int .i64 most] 3)):=(Below.refl _ _).alloc lz _
 have HT:=Lh (show Calls Tryz.prog 236 #[.pointer (some ⟨o,0,none⟩),.string y,.func (.func 237) #[] #[.pointer (some ⟨w.heap.size,0,none⟩)]] (w.alloc (.cells #[.int .i64 most] 3)) (fun e w'=>(∃a c,e=.returned (.slice a (qv v y most st).1.length c)∧(qv v y most st).1.length≤c∧qg w' w.heap.size w'.heap.size a (qv v y most st).1)∧vY o m lo hi v an ai cn ci (qv v y most st).2 w w') by
  have hT0:Touch (fun b=>b=o∨b=m) w (w.alloc (.cells #[.int .i64 most] 3)):=Touch.of_below hb lz
  rcases h with h|⟨⟨h1,c6,k,c0⟩,h2,h3,h4⟩
  · refine (ri o m lo hi v an ai cn ci y most st _ (h.below hb) hy ha w.heap.size (heap_alloc_new w _)).mono ?_
    rintro e w' ⟨⟨a,c,e1,ec,e2⟩,e3,e4⟩
    exact ⟨⟨a,c,e1,ec,e2.carry hb.size lz (fun _ _ _=>rfl)⟩,.inl e3,hT0.trans (e4.mono fun _ _ h=>h)⟩
  · obtain ⟨W2,hW2⟩:∃W2,W2=w.alloc (.cells #[.int .i64 most] 3):=⟨_,rfl⟩
    rw [← hW2] at hb hT0 ⊢
    have HPB:=Lh (show zM o m lo hi v an ai cn ci st W2 from (zM.below (.inr ⟨⟨h1,c6,k,c0⟩,h2,h3,h4⟩) hb))
    have e6:W2.cell? ⟨o,6,none⟩=some (.int .i64 st.err):=by rw [hb.cell h2];exact c6
    have e0:W2.cell? ⟨o,0,none⟩=some (.int .u8 k):=by rw [hb.cell h2];exact c0
    have he':(st.err == 0)=false:=by simpa using h1
    have he2:(st.err != 0)=true:=by simpa using h1
    have HE:=Lh h1
    have HT0:=Lh hT0
    have HX:=Lh (show qv v y most st=([],st) by unfold qv;rw [if_pos h1])
    clear h1 c6 c0 hW2 hb hT0
    go_enter Tryz.func236,Tryz.ntmps236
    go_wp2_with fail
    refine (q6 o st.err k W2 e6 e0 (fun h=>absurd h HE.out)).mono ?_
    rintro r w' ⟨rfl,h'⟩
    subst h'
    go_wp2
    go_ret
    rw [HX.out]
    exact ⟨⟨none,0,rfl,Nat.le_refl _,.inl rfl⟩,HPB.out,HT0.out⟩)
 clear h hb
 obtain ⟨R,hR⟩:∃R,R=qv v y most st:=⟨_,rfl⟩
 rw [← hR] at HT ⊢
 clear hR
 go_enter Tryz.func182,Tryz.ntmps182
 go_wp2_with fail
 refine HT.out.mono ?_
 rintro e w' ⟨⟨a,c,rfl,hc1,h1⟩,h2⟩
 have HC1:=Lh hc1
 clear hc1
 have H1:=Lh h1
 have H2:=Lh h2
 clear h1 h2
 go_wp2
 go_ret
 exact ⟨⟨a,c,rfl,HC1.out,H1.out⟩,H2.out⟩
theorem ol {o m lo hi:Nat} {v:JV} {an ai:Option Addr} {cn ci:Nat} {st:PS} {w:World} (y:ByteArray) (h:zM o m lo hi v an ai cn ci st w) :
 Calls Tryz.prog 64 #[.pointer (some ⟨o,0,none⟩),.string y] w fun e w'=>e=.returned (.bool (qT v y st))∧Below w.heap.size w w':=by
 rcases h with h|⟨h1,h2,h3,h4⟩
 · exact si o m lo hi v an ai cn ci y st w h
 · refine (iK o st.err y w h1).mono fun e w' ⟨e1,e2⟩=>?_
   subst e2
   have:qT v y st=false:=by unfold qT;simp [h1.1]
   rw [this]
   exact ⟨e1,Below.refl _ _⟩
def kx (k n:Int):Bool:=if k=1 then decide (n=1) else false
set_option maxHeartbeats 400000 in
theorem sO (k n:Int) (t:ByteArray) (a b:Value) (w:World) :
 Calls Tryz.prog 239 #[.agg #[.int .u8 k,.int .i64 n,.string t,a,b]] w fun e w'=>e=.returned (.tuple #[.bool (kx k n),.int .i64 (if k=1 then 0 else 10)])∧Below w.heap.size w w':=by
 have HB:=Lh (show Below w.heap.size w (w.alloc (.cells #[.int .u8 k,.int .i64 n,.string t,a,b] 25)) from (Below.refl _ _).alloc lz _)
 by_cases hk:k=1
 · subst hk
   have HV:=Lh (show kx 1 n=decide (n=1) from rfl)
   go_enter Tryz.func239,Tryz.ntmps239
   go_wp2
   go_ret2
   exact ⟨by rw [HV.out] <;> rfl,HB.out⟩
 · have HV:=Lh (show kx k n=false by unfold kx;rw [if_neg hk])
   rw [HV.out,if_neg hk]
   have hk':(k == 1)=false:=by simpa using hk
   have hk2:(k != 1)=true:=by simpa using hk
   clear hk
   go_enter Tryz.func239,Tryz.ntmps239
   go_wp2
   go_ret2
   exact ⟨rfl,HB.out⟩
def yQ (o m lo hi:Nat) (v:JV) (an ai:Option Addr) (cn ci:Nat) (y:ByteArray) (st:PS) (w:World) (e:Ending) (w':World):Prop :=
 e=.returned (.bool (qR v y st).1)∧PickAt o m lo hi v an ai cn ci (qR v y st).2 w'∧Touch (fun b=>b=o∨b=m) w w'
theorem gj {o m lo hi:Nat} {v:JV} {an ai:Option Addr} {cn ci:Nat} {y:ByteArray} {st st':PS} {w w':World} (h:qR v y st=(false,st')) (hP:PickAt o m lo hi v an ai cn ci st' w') (hT:Touch (fun b=>b=o∨b=m) w w'):yQ o m lo hi v an ai cn ci y st w (.returned (.bool false)) w':=by
 unfold yQ
 rw [h]
 exact ⟨rfl,hP,hT⟩
set_option maxHeartbeats 2000000 in
set_option maxRecDepth 100000 in
theorem sE (o m lo hi:Nat) (v:JV) (an ai:Option Addr) (cn ci:Nat) (y:ByteArray) (st:PS) (w:World) (hP:PickAt o m lo hi v an ai cn ci st w) (hy:y.size≤4294967296) (ha:st.asked.length≤4294967296) :
 Calls Tryz.prog 238 #[.pointer (some ⟨o,0,none⟩),.string y,.func (.func 239) #[] #[]] w (yQ o m lo hi v an ai cn ci y st w):=by
 have HP:=Lh hP
 clear hP
 have c6:w.cell? ⟨o,6,none⟩=some (.int .i64 st.err):=qq HP.out.obj rfl
 have c0:w.cell? ⟨o,0,none⟩=some (.int .u8 5):=(qq (j:=0) HP.out.obj rfl).trans (by rw [HP.out.kind];rfl)
 by_cases he:st.err=0
 · rw [he] at c6
   have HE:=Lh he
   clear he
   have c1:w.cell? ⟨o,1,none⟩=some (.int .i64 v.n):=qq HP.out.obj rfl
   have c2:w.cell? ⟨o,2,none⟩=some (.string v.t):=qq HP.out.obj rfl
   have c3:w.cell? ⟨o,3,none⟩=some (.slice an v.names.length cn):=qq HP.out.obj rfl
   have c4:w.cell? ⟨o,4,none⟩=some (.slice ai v.items.length ci):=qq HP.out.obj rfl
   have HR:=Lh HP.out.rep
   rw [HP.out.kind] at HR
   have HG:=Lh (jU v y _ w lo hi HP.out.wt HP.out.pos HP.out.le HR.out HP.out.kind HP.out.rise HP.out.len)
   go_enter Tryz.func238,Tryz.ntmps238
   go_wp2_with fail
   refine (q6 o 0 5 w c6 c0 (fun _=>rfl)).mono ?_
   rintro r w' ⟨rfl,rfl⟩
   go_wp2_with fail
   refine HG.out.mono ?_
   clear HG c0 c1 c2 c3 c4 c6
   rintro e w1 ⟨hh,hb1⟩
   have HB1:=Lh hb1
   clear hb1
   rcases hh with ⟨r,hr1,hr2,hre,an',cn',ai',ci',rfl,hrep⟩|⟨hno,rfl⟩
   · have HL:=Lh (xG HP.out.rise r hr1 hr2 hre)
     clear hre hrep
     generalize v.items[r]=it at *
     have hb2:Below w.heap.size w (w1.alloc (.cells #[.int .u8 it.kind,.int .i64 it.n,.string it.t,.slice an' it.names.length cn',.slice ai' it.items.length ci'] 25)):=HB1.out.alloc HB1.out.size _
     have HB2:=Lh hb2
     have HC:=Lh (sO it.kind it.n it.t (.slice an' it.names.length cn') (.slice ai' it.items.length ci') (w1.alloc (.cells #[.int .u8 it.kind,.int .i64 it.n,.string it.t,.slice an' it.names.length cn',.slice ai' it.items.length ci'] 25)))
     clear hb2
     by_cases hk:it.kind=1
     · have HX:=Lh (show qR v y st=(decide (it.n=1),⟨y :: st.asked,0⟩) by unfold qR;rw [if_neg (by simp [HE.out]),HL.out];simp [hk])
       rw [if_pos hk] at HC
       have e1:kx it.kind it.n=decide (it.n=1):=by unfold kx;rw [if_pos hk]
       rw [e1] at HC
       clear hk e1
       obtain ⟨L,hL⟩:∃L,L=decide (it.n=1):=⟨_,rfl⟩
       rw [← hL] at HC HX
       clear hL
       go_wp2_with fail
       refine HC.out.mono ?_
       clear HC
       rintro e w2 ⟨rfl,hb3⟩
       have HB3:=Lh (HB2.out.trans (hb3.mono HB2.out.size))
       have HP3:=Lh (HP.out.below HB3.out)
       clear hb3 HB2
       have d5:w2.cell? ⟨o,5,none⟩=some (.map (some m)):=qq HP3.out.obj rfl
       have hkey:Go.keyOf Tryz.prog 9 (.string y)=some (.string y.data.toList):=keyOf_string_mk Tryz.underlying9 (by unfold maxLen;omega)
       obtain ⟨D,n,hown,hn,hD⟩:=HP3.out.map
       obtain ⟨c,hat,hc0,hc1,hc2⟩:=hD.2 y
       obtain ⟨c',hrun,hat',_⟩:=hown.lookup_int jk Tryz.underlying150 Tryz.underlying3 (j8 _) hkey
       rw [hat] at hat'
       simp only [DataW.lit.injEq,Lit.int.injEq,true_and] at hat'
       subst hat'
       have HD:=Lh (hD.cons y c hat)
       have HKY:=Lh hkey
       have HOW:=Lh hown
       clear hD hat hc2 hkey hown
       go_wp2_with (at_mapUpdate;refine wpList_mapUpdate_own _ rfl _ _ _ 150 rfl 9 3 jk Tryz.underlying150 _ m n D rfl HOW.out (by unfold maxLen;omega) _ _ _ rfl rfl HKY.out _ [] (plainElem_int Tryz.underlying3 (WalkArith.wf_i64 (by omega))) ?_)
       intro w3 hown3 hgrow3
       have HP4:=Lh (HP3.out.ask y hgrow3 hown3 (by omega) HD.out)
       have HT:=Lh (show Touch (fun b=>b=o∨b=m) w w3 from ⟨by rw [hgrow3.os,HB3.out.os],by rw [hgrow3.tape,HB3.out.tape],by rw [hgrow3.output,HB3.out.output],Nat.le_trans HB3.out.size hgrow3.size,fun k hk hs=>by rw [hgrow3.block k (Nat.lt_of_lt_of_le hk HB3.out.size) (fun e=>hs (.inr (Option.some.inj e))),HB3.out.block k hk]⟩)
       clear hgrow3 hown3
       rw [HE.out] at HP4
       go_wp2
       go_ret
       unfold yQ
       rw [HX.out]
       exact ⟨rfl,HP4.out,HT.out⟩
     · have HX:=Lh (show qR v y st=(false,⟨st.asked,10⟩) by unfold qR;rw [if_neg (by simp [HE.out]),HL.out];simp [hk])
       rw [if_neg hk] at HC
       have e1:kx it.kind it.n=false:=by unfold kx;rw [if_neg hk]
       rw [e1] at HC
       clear hk e1
       go_wp2_with fail
       refine HC.out.mono ?_
       clear HC
       rintro e w2 ⟨rfl,hb3⟩
       have HB3:=Lh (HB2.out.trans (hb3.mono HB2.out.size))
       have HP3:=Lh (HP.out.below HB3.out)
       clear hb3 HB2
       have d6:w2.cell? ⟨o,6,none⟩=some (.int .i64 0):=(qq (j:=6) HP3.out.obj rfl).trans (by rw [HE.out];rfl)
       have d0:w2.cell? ⟨o,0,none⟩=some (.int .u8 5):=(qq (j:=0) HP3.out.obj rfl).trans (by rw [HP.out.kind];rfl)
       have d7:w2.frozen? ⟨o,6,none⟩=false:=by simp [World.frozen?,HP3.out.obj]
       go_wp2_with fail
       refine (zS o 10 _ d6 d0 d7).mono ?_
       clear d6 d0 d7
       rintro e w3 ⟨rfl,rfl⟩
       have HP4:=Lh (HP3.out.fail 10)
       have HT:=Lh (show Touch (fun b=>b=o∨b=m) w (w2.setCell ⟨o,6,none⟩ (.int .i64 10)) from (Touch.of_below HB3.out lz).setCell (.inl (.inl rfl)) _)
       go_wp2
       go_ret
       exact gj HX.out HP4.out HT.out
   · have HX:=Lh (show qR v y st=(false,⟨st.asked,6⟩) by unfold qR;rw [if_neg (by simp [HE.out]),show v.look y=none from xu _ _ _ hno])
     unfold zeroAgg
     have HB3:=Lh (show Below w.heap.size w (w1.alloc (.cells #[.int .u8 0,.int .i64 0,.string ⟨#[]⟩,.slice none 0 0,.slice none 0 0] 25)) from HB1.out.alloc HB1.out.size _)
     have HP3:=Lh (HP.out.below HB3.out)
     clear hno HB1
     have d6:(w1.alloc (.cells #[.int .u8 0,.int .i64 0,.string ⟨#[]⟩,.slice none 0 0,.slice none 0 0] 25)).cell? ⟨o,6,none⟩=some (.int .i64 0):=(qq (j:=6) HP3.out.obj rfl).trans (by rw [HE.out];rfl)
     have d0:(w1.alloc (.cells #[.int .u8 0,.int .i64 0,.string ⟨#[]⟩,.slice none 0 0,.slice none 0 0] 25)).cell? ⟨o,0,none⟩=some (.int .u8 5):=(qq (j:=0) HP3.out.obj rfl).trans (by rw [HP.out.kind];rfl)
     have d7:(w1.alloc (.cells #[.int .u8 0,.int .i64 0,.string ⟨#[]⟩,.slice none 0 0,.slice none 0 0] 25)).frozen? ⟨o,6,none⟩=false:=by simp [World.frozen?,HP3.out.obj]
     go_wp2_with fail
     refine (zS o 6 _ d6 d0 d7).mono ?_
     clear d6 d0 d7
     rintro e w3 ⟨rfl,rfl⟩
     have HP4:=Lh (HP3.out.fail 6)
     have HT:=Lh (show Touch (fun b=>b=o∨b=m) w ((w1.alloc (.cells #[.int .u8 0,.int .i64 0,.string ⟨#[]⟩,.slice none 0 0,.slice none 0 0] 25)).setCell ⟨o,6,none⟩ (.int .i64 6)) from (Touch.of_below HB3.out lz).setCell (.inl (.inl rfl)) _)
     go_wp2
     go_ret
     exact gj HX.out HP4.out HT.out
 · have he':(st.err == 0)=false:=by simpa using he
   have he2:(st.err != 0)=true:=by simpa using he
   have HX:=Lh (show qR v y st=(false,st) by unfold qR;rw [if_pos he])
   have HE:=Lh he
   clear he
   go_enter Tryz.func238,Tryz.ntmps238
   go_wp2_with fail
   refine (q6 o st.err 5 w c6 c0 (fun _=>rfl)).mono ?_
   rintro r w' ⟨rfl,rfl⟩
   go_wp2
   go_ret
   exact gj HX.out HP.out (Touch.refl _ _)
set_option maxHeartbeats 1000000 in
set_option maxRecDepth 100000 in
theorem oa {o m lo hi:Nat} {v:JV} {an ai:Option Addr} {cn ci:Nat} {st:PS} {w:World} (y:ByteArray) (h:zM o m lo hi v an ai cn ci st w) (hy:y.size≤4294967296) (ha:st.asked.length≤4294967296) :
 Calls Tryz.prog 188 #[.pointer (some ⟨o,0,none⟩),.string y] w fun e w'=>e=.returned (.bool (qR v y st).1)∧vY o m lo hi v an ai cn ci (qR v y st).2 w w':=by
 have HT:=Lh (show Calls Tryz.prog 238 #[.pointer (some ⟨o,0,none⟩),.string y,.func (.func 239) #[] #[]] w (fun e w'=>e=.returned (.bool (qR v y st).1)∧vY o m lo hi v an ai cn ci (qR v y st).2 w w') by
  rcases h with h|⟨⟨h1,c6,k,c0⟩,h2,h3,h4⟩
  · refine (sE o m lo hi v an ai cn ci y st _ h hy ha).mono ?_
    rintro e w' ⟨e1,e3,e4⟩
    exact ⟨e1,.inl e3,e4⟩
  · have HPB:=Lh (show zM o m lo hi v an ai cn ci st w from .inr ⟨⟨h1,c6,k,c0⟩,h2,h3,h4⟩)
    have he':(st.err == 0)=false:=by simpa using h1
    have he2:(st.err != 0)=true:=by simpa using h1
    have HE:=Lh h1
    have HX:=Lh (show qR v y st=(false,st) by unfold qR;rw [if_pos h1])
    clear h1
    go_enter Tryz.func238,Tryz.ntmps238
    go_wp2_with fail
    refine (q6 o st.err k w c6 c0 (fun h=>absurd h HE.out)).mono ?_
    rintro r w' ⟨rfl,h'⟩
    subst h'
    go_wp2
    go_ret
    rw [HX.out]
    exact ⟨rfl,HPB.out,Touch.refl _ _⟩)
 clear h
 obtain ⟨R,hR⟩:∃R,R=qR v y st:=⟨_,rfl⟩
 rw [← hR] at HT ⊢
 clear hR
 go_enter Tryz.func188,Tryz.ntmps188
 go_wp2_with fail
 refine HT.out.mono ?_
 rintro e w' ⟨rfl,h2⟩
 have H2:=Lh h2
 clear h2
 go_wp2
 go_ret
 exact ⟨rfl,H2.out⟩
def jR (it:JV) (most:Nat):List JV:=if qN it most=0 then it.items else []
theorem mB {it:JV} {most:Nat} (e:qN it most=0):it.kind=4∧¬most<it.items.length:=by
 unfold qN at e
 by_cases h1:it.kind=4
 · by_cases h2:most<it.items.length
   · simp [h1,h2] at e
   · exact ⟨h1,h2⟩
 · simp [h1] at e
theorem mP {it:JV} {a:List ByteArray} {most:Nat} {X:List JV × PS} (e:¬qN it most=0) :
 (if it.kind≠4 then ([],(⟨a,10⟩:PS)) else if most<it.items.length then ([],⟨a,5⟩) else X)=([],⟨a,qN it most⟩):=by
 unfold qN at e ⊢
 by_cases h1:it.kind=4
 · by_cases h2:most<it.items.length
   · simp [h1,h2]
   · simp [h1,h2] at e
 · simp [h1]
def v8 (it:JV) (most lo:Nat) (w:World) (e:Ending) (w':World):Prop :=
 ∃a c,e=.returned (.tuple #[.slice a (jR it most).length c,.int .i64 (qN it most)])∧(jR it most).length≤c∧qH w' lo w'.heap.size a (jR it most)∧Below w.heap.size w w'
set_option maxHeartbeats 1000000 in
set_option maxRecDepth 100000 in
theorem s8 (it:JV) (most p1:Nat) (an' ai':Option Addr) (cn' ci' lo:Nat) (w:World) (hR:Rep w lo w.heap.size it (.agg #[.int .u8 it.kind,.int .i64 it.n,.string it.t,.slice an' it.names.length cn',.slice ai' it.items.length ci'])) (c1:w.cell? ⟨p1,0,none⟩=some (.int .i64 most)) :
 Calls Tryz.prog 128 #[.agg #[.int .u8 it.kind,.int .i64 it.n,.string it.t,.slice an' it.names.length cn',.slice ai' it.items.length ci'],.pointer (some ⟨p1,0,none⟩)] w (v8 it most lo w):=by
 have hci:it.items.length≤ci'∧qH w lo w.heap.size ai' it.items:=by
  obtain ⟨an2,cn2,ai2,ci2,hx,h1,h2,h3,h4⟩:=hR.parts
  simp only [Value.agg.injEq,Array.mk.injEq,List.cons.injEq,Value.slice.injEq] at hx
  obtain ⟨-,-,-,-,⟨e1,-,e2⟩,-⟩:=hx
  rw [e1,e2]
  exact ⟨h2,h4⟩
 have hb:Below w.heap.size w (w.alloc (.cells #[.int .u8 it.kind,.int .i64 it.n,.string it.t,.slice an' it.names.length cn',.slice ai' it.items.length ci'] 25)):=(Below.refl _ _).alloc lz _
 have d1:(w.alloc (.cells #[.int .u8 it.kind,.int .i64 it.n,.string it.t,.slice an' it.names.length cn',.slice ai' it.items.length ci'] 25)).cell? ⟨p1,0,none⟩=some (.int .i64 most):=by rw [hb.cell (World.block_lt_of_cell? w _ c1)];exact c1
 have HPI:=Lh (fun w=>fB it most an' ai' cn' ci' w)
 have HB:=Lh hb
 have HCI:=Lh hci
 clear hR hb hci c1
 go_enter Tryz.func128,Tryz.ntmps128
 go_wp2_with fail
 refine (HPI.out _).mono ?_
 clear HPI
 rintro e w' ⟨rfl,hb2⟩
 have HB2:=Lh (HB.out.trans (hb2.mono HB.out.size))
 clear hb2 d1
 by_cases hk:qN it most=0
 · have HK:=Lh hk
   have HL:=Lh (show jR it most=it.items by unfold jR;rw [if_pos hk])
   rw [hk]
   simp only [if_true]
   clear hk
   go_wp2
   go_ret2
   unfold v8
   rw [HL.out,HK.out]
   exact ⟨ai',ci',rfl,HCI.out.1,HCI.out.2.below HB2.out lz lz HB2.out.size,HB2.out⟩
 · have HL:=Lh (show jR it most=[] by unfold jR;rw [if_neg hk])
   simp only [if_neg hk]
   clear hk
   go_wp2
   go_ret2
   unfold v8
   rw [HL.out]
   exact ⟨none,0,rfl,Nat.le_refl _,.inl rfl,HB2.out⟩
def wx (o m lo hi:Nat) (v:JV) (an ai:Option Addr) (cn ci:Nat) (y:ByteArray) (most:Nat) (st:PS) (w:World) (e:Ending) (w':World):Prop :=
 (∃a c,e=.returned (.slice a (qV v y most st).1.length c)∧(qV v y most st).1.length≤c∧qH w' w.heap.size w'.heap.size a (qV v y most st).1)∧PickAt o m lo hi v an ai cn ci (qV v y most st).2 w'∧Touch (fun b=>b=o∨b=m) w w'
theorem gk {o m lo hi:Nat} {v:JV} {an ai:Option Addr} {cn ci:Nat} {y:ByteArray} {most:Nat} {st st':PS} {w w':World} (h:qV v y most st=([],st')) (hP:PickAt o m lo hi v an ai cn ci st' w') (hT:Touch (fun b=>b=o∨b=m) w w'):wx o m lo hi v an ai cn ci y most st w (.returned (.slice none 0 0)) w':=by
 unfold wx
 rw [h]
 exact ⟨⟨none,0,rfl,Nat.le_refl _,.inl rfl⟩,hP,hT⟩
set_option maxHeartbeats 2000000 in
set_option maxRecDepth 100000 in
theorem s9 (o m lo hi:Nat) (v:JV) (an ai:Option Addr) (cn ci:Nat) (y:ByteArray) (most:Nat) (st:PS) (w:World) (hP:PickAt o m lo hi v an ai cn ci st w) (hy:y.size≤4294967296) (ha:st.asked.length≤4294967296) (p1:Nat) (g1:w.heap[p1]?=some (.cells #[.int .i64 most] 3 (0,0))) :
 Calls Tryz.prog 127 #[.pointer (some ⟨o,0,none⟩),.string y,.func (.func 128) #[] #[.pointer (some ⟨p1,0,none⟩)]] w (wx o m lo hi v an ai cn ci y most st w):=by
 have HP:=Lh hP
 have HG1:=Lh g1
 clear hP g1
 have c6:w.cell? ⟨o,6,none⟩=some (.int .i64 st.err):=qq HP.out.obj rfl
 have c0:w.cell? ⟨o,0,none⟩=some (.int .u8 5):=(qq (j:=0) HP.out.obj rfl).trans (by rw [HP.out.kind];rfl)
 by_cases he:st.err=0
 · rw [he] at c6
   have HE:=Lh he
   clear he
   have c1:w.cell? ⟨o,1,none⟩=some (.int .i64 v.n):=qq HP.out.obj rfl
   have c2:w.cell? ⟨o,2,none⟩=some (.string v.t):=qq HP.out.obj rfl
   have c3:w.cell? ⟨o,3,none⟩=some (.slice an v.names.length cn):=qq HP.out.obj rfl
   have c4:w.cell? ⟨o,4,none⟩=some (.slice ai v.items.length ci):=qq HP.out.obj rfl
   have HR:=Lh HP.out.rep
   rw [HP.out.kind] at HR
   have HG:=Lh (jU v y _ w lo hi HP.out.wt HP.out.pos HP.out.le HR.out HP.out.kind HP.out.rise HP.out.len)
   go_enter Tryz.func127,Tryz.ntmps127
   go_wp2_with fail
   refine (q6 o 0 5 w c6 c0 (fun _=>rfl)).mono ?_
   rintro r w' ⟨rfl,rfl⟩
   go_wp2_with fail
   refine HG.out.mono ?_
   clear HG c0 c1 c2 c3 c4 c6
   rintro e w1 ⟨hh,hb1⟩
   have HB1:=Lh hb1
   clear hb1
   rcases hh with ⟨r,hr1,hr2,hre,an',cn',ai',ci',rfl,hrep⟩|⟨hno,rfl⟩
   · have HL:=Lh (xG HP.out.rise r hr1 hr2 hre)
     have HREP:=Lh hrep
     clear hre hrep
     generalize v.items[r]=it at *
     have hb2:Below w.heap.size w (w1.alloc (.cells #[.int .u8 it.kind,.int .i64 it.n,.string it.t,.slice an' it.names.length cn',.slice ai' it.items.length ci'] 25)):=HB1.out.alloc HB1.out.size _
     have HB2:=Lh hb2
     have HC:=Lh (s8 it most p1 an' ai' cn' ci' w.heap.size (w1.alloc (.cells #[.int .u8 it.kind,.int .i64 it.n,.string it.t,.slice an' it.names.length cn',.slice ai' it.items.length ci'] 25)) (Rep.below HREP.out ((Below.refl _ _).alloc lz _) lz lz (by simp)) (qq ((hb2.block _ (qx HG1.out)).trans HG1.out) rfl))
     clear hb2
     unfold v8 at HC
     by_cases hk:qN it most=0
     · have HX:=Lh (show qV v y most st=(it.items,⟨y :: st.asked,0⟩) by unfold qV;rw [if_neg (by simp [HE.out]),HL.out];obtain ⟨q1,q2⟩:=mB hk;simp only;rw [if_neg (by simp [q1]),if_neg q2])
       rw [show jR it most=it.items by unfold jR;rw [if_pos hk],hk] at HC
       clear hk
       go_wp2_with fail
       refine HC.out.mono ?_
       clear HC
       rintro e w2 ⟨al,cl,rfl,hcl,hsl,hb3⟩
       have HB3:=Lh (HB2.out.trans (hb3.mono HB2.out.size))
       have HP3:=Lh (HP.out.below HB3.out)
       have HSL:=Lh hsl
       have HCL:=Lh hcl
       have HZL:=Lh (show w.heap.size<(w1.alloc (.cells #[.int .u8 it.kind,.int .i64 it.n,.string it.t,.slice an' it.names.length cn',.slice ai' it.items.length ci'] 25)).heap.size from by have:=HB1.out.size;simp;omega)
       have HMZ:=Lh (show m<w.heap.size from by obtain ⟨D,n,h,_⟩:=HP.out.map;exact h.lt)
       clear hb3 HB2 hsl hcl
       have d5:w2.cell? ⟨o,5,none⟩=some (.map (some m)):=qq HP3.out.obj rfl
       have hkey:Go.keyOf Tryz.prog 9 (.string y)=some (.string y.data.toList):=keyOf_string_mk Tryz.underlying9 (by unfold maxLen;omega)
       obtain ⟨D,n,hown,hn,hD⟩:=HP3.out.map
       obtain ⟨c,hat,hc0,hc1,hc2⟩:=hD.2 y
       obtain ⟨c',hrun,hat',_⟩:=hown.lookup_int jk Tryz.underlying150 Tryz.underlying3 (j8 _) hkey
       rw [hat] at hat'
       simp only [DataW.lit.injEq,Lit.int.injEq,true_and] at hat'
       subst hat'
       have HD:=Lh (hD.cons y c hat)
       have HKY:=Lh hkey
       have HOW:=Lh hown
       clear hD hat hc2 hkey hown
       go_wp2_with (at_mapUpdate;refine wpList_mapUpdate_own _ rfl _ _ _ 150 rfl 9 3 jk Tryz.underlying150 _ m n D rfl HOW.out (by unfold maxLen;omega) _ _ _ rfl rfl HKY.out _ [] (plainElem_int Tryz.underlying3 (WalkArith.wf_i64 (by omega))) ?_)
       intro w3 hown3 hgrow3
       have HP4:=Lh (HP3.out.ask y hgrow3 hown3 (by omega) HD.out)
       have HT:=Lh (show Touch (fun b=>b=o∨b=m) w w3 from ⟨by rw [hgrow3.os,HB3.out.os],by rw [hgrow3.tape,HB3.out.tape],by rw [hgrow3.output,HB3.out.output],Nat.le_trans HB3.out.size hgrow3.size,fun k hk hs=>by rw [hgrow3.block k (Nat.lt_of_lt_of_le hk HB3.out.size) (fun e=>hs (.inr (Option.some.inj e))),HB3.out.block k hk]⟩)
       have HS3:=Lh (show qH w3 w.heap.size w3.heap.size al it.items from HSL.out.carry lz hgrow3.size fun b h1 h2=>hgrow3.block b h2 (fun e=>by have:=Option.some.inj e;have:=HZL.out;have:=HMZ.out;omega))
       clear hgrow3 hown3
       rw [HE.out] at HP4
       go_wp2
       go_ret
       unfold wx
       rw [HX.out]
       exact ⟨⟨al,cl,rfl,HCL.out,HS3.out⟩,HP4.out,HT.out⟩
     · have HX:=Lh (show qV v y most st=([],⟨st.asked,qN it most⟩) by unfold qV;rw [if_neg (by simp [HE.out]),HL.out];exact mP hk)
       rw [show jR it most=[] by unfold jR;rw [if_neg hk]] at HC
       obtain ⟨er,her⟩:∃er,er=qN it most:=⟨_,rfl⟩
       rw [← her] at HC HX hk
       have hk':(er != 0)=true:=by simpa using hk
       have hk2:(er == 0)=false:=by simpa using hk
       clear hk her
       go_wp2_with fail
       refine HC.out.mono ?_
       clear HC
       rintro e w2 ⟨al,cl,rfl,-,-,hb3⟩
       have HB3:=Lh (HB2.out.trans (hb3.mono HB2.out.size))
       have HP3:=Lh (HP.out.below HB3.out)
       clear hb3 HB2
       have d6:w2.cell? ⟨o,6,none⟩=some (.int .i64 0):=(qq (j:=6) HP3.out.obj rfl).trans (by rw [HE.out];rfl)
       have d0:w2.cell? ⟨o,0,none⟩=some (.int .u8 5):=(qq (j:=0) HP3.out.obj rfl).trans (by rw [HP.out.kind];rfl)
       have d7:w2.frozen? ⟨o,6,none⟩=false:=by simp [World.frozen?,HP3.out.obj]
       go_wp2_with fail
       refine (zS o er _ d6 d0 d7).mono ?_
       clear d6 d0 d7
       rintro e w3 ⟨rfl,rfl⟩
       have HP4:=Lh (HP3.out.fail er)
       have HT:=Lh (show Touch (fun b=>b=o∨b=m) w (w2.setCell ⟨o,6,none⟩ (.int .i64 er)) from (Touch.of_below HB3.out lz).setCell (.inl (.inl rfl)) _)
       go_wp2
       go_ret
       exact gk HX.out HP4.out HT.out
   · have HX:=Lh (show qV v y most st=([],⟨st.asked,6⟩) by unfold qV;rw [if_neg (by simp [HE.out]),show v.look y=none from xu _ _ _ hno])
     unfold zeroAgg
     have HB3:=Lh (show Below w.heap.size w (w1.alloc (.cells #[.int .u8 0,.int .i64 0,.string ⟨#[]⟩,.slice none 0 0,.slice none 0 0] 25)) from HB1.out.alloc HB1.out.size _)
     have HP3:=Lh (HP.out.below HB3.out)
     clear hno HB1
     have d6:(w1.alloc (.cells #[.int .u8 0,.int .i64 0,.string ⟨#[]⟩,.slice none 0 0,.slice none 0 0] 25)).cell? ⟨o,6,none⟩=some (.int .i64 0):=(qq (j:=6) HP3.out.obj rfl).trans (by rw [HE.out];rfl)
     have d0:(w1.alloc (.cells #[.int .u8 0,.int .i64 0,.string ⟨#[]⟩,.slice none 0 0,.slice none 0 0] 25)).cell? ⟨o,0,none⟩=some (.int .u8 5):=(qq (j:=0) HP3.out.obj rfl).trans (by rw [HP.out.kind];rfl)
     have d7:(w1.alloc (.cells #[.int .u8 0,.int .i64 0,.string ⟨#[]⟩,.slice none 0 0,.slice none 0 0] 25)).frozen? ⟨o,6,none⟩=false:=by simp [World.frozen?,HP3.out.obj]
     go_wp2_with fail
     refine (zS o 6 _ d6 d0 d7).mono ?_
     clear d6 d0 d7
     rintro e w3 ⟨rfl,rfl⟩
     have HP4:=Lh (HP3.out.fail 6)
     have HT:=Lh (show Touch (fun b=>b=o∨b=m) w ((w1.alloc (.cells #[.int .u8 0,.int .i64 0,.string ⟨#[]⟩,.slice none 0 0,.slice none 0 0] 25)).setCell ⟨o,6,none⟩ (.int .i64 6)) from (Touch.of_below HB3.out lz).setCell (.inl (.inl rfl)) _)
     go_wp2
     go_ret
     exact gk HX.out HP4.out HT.out
 · have he':(st.err == 0)=false:=by simpa using he
   have he2:(st.err != 0)=true:=by simpa using he
   have HX:=Lh (show qV v y most st=([],st) by unfold qV;rw [if_pos he])
   have HE:=Lh he
   clear he
   go_enter Tryz.func127,Tryz.ntmps127
   go_wp2_with fail
   refine (q6 o st.err 5 w c6 c0 (fun _=>rfl)).mono ?_
   rintro r w' ⟨rfl,rfl⟩
   go_wp2
   go_ret
   exact gk HX.out HP.out (Touch.refl _ _)
set_option maxHeartbeats 1000000 in
set_option maxRecDepth 100000 in
theorem ot {o m lo hi:Nat} {v:JV} {an ai:Option Addr} {cn ci:Nat} {st:PS} {w:World} (y:ByteArray) (most:Nat) (h:zM o m lo hi v an ai cn ci st w) (hy:y.size≤4294967296) (ha:st.asked.length≤4294967296) :
 Calls Tryz.prog 67 #[.pointer (some ⟨o,0,none⟩),.string y,.int .i64 most] w fun e w'=>(∃a c,e=.returned (.slice a (qV v y most st).1.length c)∧(qV v y most st).1.length≤c∧qH w' w.heap.size w'.heap.size a (qV v y most st).1)∧vY o m lo hi v an ai cn ci (qV v y most st).2 w w':=by
 have hb:Below w.heap.size w (w.alloc (.cells #[.int .i64 most] 3)):=(Below.refl _ _).alloc lz _
 have HT:=Lh (show Calls Tryz.prog 127 #[.pointer (some ⟨o,0,none⟩),.string y,.func (.func 128) #[] #[.pointer (some ⟨w.heap.size,0,none⟩)]] (w.alloc (.cells #[.int .i64 most] 3)) (fun e w'=>(∃a c,e=.returned (.slice a (qV v y most st).1.length c)∧(qV v y most st).1.length≤c∧qH w' w.heap.size w'.heap.size a (qV v y most st).1)∧vY o m lo hi v an ai cn ci (qV v y most st).2 w w') by
  have hT0:Touch (fun b=>b=o∨b=m) w (w.alloc (.cells #[.int .i64 most] 3)):=Touch.of_below hb lz
  rcases h with h|⟨⟨h1,c6,k,c0⟩,h2,h3,h4⟩
  · refine (s9 o m lo hi v an ai cn ci y most st _ (h.below hb) hy ha w.heap.size (heap_alloc_new w _)).mono ?_
    rintro e w' ⟨⟨a,c,e1,ec,e2⟩,e3,e4⟩
    exact ⟨⟨a,c,e1,ec,e2.carry hb.size lz (fun _ _ _=>rfl)⟩,.inl e3,hT0.trans (e4.mono fun _ _ h=>h)⟩
  · obtain ⟨W2,hW2⟩:∃W2,W2=w.alloc (.cells #[.int .i64 most] 3):=⟨_,rfl⟩
    rw [← hW2] at hb hT0 ⊢
    have HPB:=Lh (show zM o m lo hi v an ai cn ci st W2 from (zM.below (.inr ⟨⟨h1,c6,k,c0⟩,h2,h3,h4⟩) hb))
    have e6:W2.cell? ⟨o,6,none⟩=some (.int .i64 st.err):=by rw [hb.cell h2];exact c6
    have e0:W2.cell? ⟨o,0,none⟩=some (.int .u8 k):=by rw [hb.cell h2];exact c0
    have he':(st.err == 0)=false:=by simpa using h1
    have he2:(st.err != 0)=true:=by simpa using h1
    have HE:=Lh h1
    have HT0:=Lh hT0
    have HX:=Lh (show qV v y most st=([],st) by unfold qV;rw [if_pos h1])
    clear h1 c6 c0 hW2 hb hT0
    go_enter Tryz.func127,Tryz.ntmps127
    go_wp2_with fail
    refine (q6 o st.err k W2 e6 e0 (fun h=>absurd h HE.out)).mono ?_
    rintro r w' ⟨rfl,h'⟩
    subst h'
    go_wp2
    go_ret
    rw [HX.out]
    exact ⟨⟨none,0,rfl,Nat.le_refl _,.inl rfl⟩,HPB.out,HT0.out⟩)
 clear h hb
 obtain ⟨R,hR⟩:∃R,R=qV v y most st:=⟨_,rfl⟩
 rw [← hR] at HT ⊢
 clear hR
 go_enter Tryz.func67,Tryz.ntmps67
 go_wp2_with fail
 refine HT.out.mono ?_
 rintro e w' ⟨⟨a,c,rfl,hc,h1⟩,h2⟩
 have HCC:=Lh hc
 clear hc
 have H1:=Lh h1
 have H2:=Lh h2
 clear h1 h2
 go_wp2
 go_ret
 exact ⟨⟨a,c,rfl,HCC.out,H1.out⟩,H2.out⟩
end Go.Proofs.YthgembbgcbaghaaGreatDoor

namespace Go.Proofs.YthgembbgcbaghaaGreatDoor
open Go.RowKit
structure DelegC where
 x:DelegV
 ia:Option Addr
 ic:Nat
 pa:Option Addr
 pc:Nat
 qa:Option Addr
 qc:Nat
def tJ (q:DelegC):List Value:=[.string q.x.name,.int .i64 q.x.au.thr,.slice q.ia q.x.au.ids.length q.ic,.bool q.x.term,.slice q.pa q.x.paths.length q.pc,.slice q.qa q.x.pres.length q.qc]
theorem aq (q:DelegC):(tJ q).length=6:=rfl
def delP (w:World) (lo hi:Nat) (q:DelegC):Prop:=q.x.au.ids.length≤q.ic∧q.x.paths.length≤q.pc∧q.x.pres.length≤q.qc∧DelegIn w lo hi q.x q.ia q.pa q.qa
theorem wS:bI delP:=fun _ _ _ _ _ hs h=>⟨h.1,h.2.1,h.2.2.1,h.2.2.2.carry lz lz hs⟩
def jX (T B:Nat) (w:World) (vs:Value) (qs:List DelegC):Prop:=ItemsOwn T 6 B tJ delP w vs qs
theorem jX.row {T B:Nat} {w:World} {v:Value} {qs:List DelegC} {l:List DelegV} (h:jX T B w v qs) (hl:qs.map (·.x)=l):∃a c,v=.slice a l.length c∧l.length≤c∧q8 w B w.heap.size a l:=by
 have ho:=ItemsOwn.own h
 have hv:∃a n c,v=.slice a n c:=by
  rcases ho.2 with ⟨rfl,_⟩|⟨g,cap,cur,rfl,_⟩
  · exact ⟨_,_,_,rfl⟩
  · exact ⟨_,_,_,rfl⟩
 obtain ⟨a,n,c,rfl⟩:=hv
 obtain ⟨h1,h2,h3⟩:=ItemsOwn.cells aq h
 subst hl
 subst h1
 rw [List.length_map]
 refine ⟨a,c,rfl,h2,?_⟩
 rcases h3 with h3|⟨g,rfl,hg,hlt,hf,hc⟩
 · exact .inl (by rw [h3];rfl)
 · refine .inr ⟨g,0,rfl,hg,hlt,fun i hi=>?_⟩
   have hi2:i<qs.length:=by simpa using hi
   obtain ⟨lo,hi',k1,k2,k3,k4,k5,k6,k7⟩:=ItemsOwn.each h qs[i] (List.getElem_mem hi2)
   have e:(qs.map (·.x))[i]=qs[i].x:=List.getElem_map ..
   rw [e]
   have cc:=fun q (hq:q<6)=>hc i hi2 q hq
   simp only [Nat.zero_add]
   exact ⟨qs[i].ia,qs[i].ic,qs[i].pa,qs[i].pc,qs[i].qa,qs[i].qc,cc 0 (by decide),cc 1 (by decide),cc 2 (by decide),cc 3 (by decide),cc 4 (by decide),cc 5 (by decide),k4,k5,k6,k7.carry k1 k2 (fun _ _ _=>rfl)⟩
def tK:ByteArray:=⟨#[120,47,42]⟩
def vp:ByteArray:=⟨#[120,47,121]⟩
def pxN:ByteArray:=⟨#[120]⟩
def oL:ByteArray:=⟨#[47,120]⟩
def pzN:ByteArray:=⟨#[122]⟩
def pcN:ByteArray:=⟨#[99]⟩
def kH (n p:ByteArray) (last:Bool):DelegV:=⟨n,iG 97,last,[p],[]⟩
def exD:DelegsV:=⟨[],[kH raN tK false,kH bbN sG true,kH pcN vp false],binsZ⟩
def exE:DelegsV:=⟨[],[kH pcN vp true,kH raN tK false],binsZ⟩
def exBin:DelegsV:=⟨[],[],⟨2,ppN,iG 97⟩⟩
theorem bk:qU exD=true∧qU exE=true∧qU exBin=true:=by
 rw [zQ,zQ,zQ]
 decide +kernel
theorem az:(kG runes vp exD.roles).map (·.name)=[raN,pcN]∧(kG runes pzN exD.roles).map (·.name)=[bbN]∧(kG runes vp exE.roles).map (·.name)=[pcN]:=by decide +kernel
theorem aj:q7 vp=true∧q7 pzN=true∧q7 pxN=true∧q7 oL=false:=by decide +kernel
theorem wj:(jz runes exD vp).map (·.name)=[raN,pcN]∧(jz runes exD pzN).map (·.name)=[bbN]∧(jz runes exE vp).map (·.name)=[pcN]∧(jz runes exBin vp).map (·.name)=[xS ppN 2 (yd vp 2)]:=by
 obtain ⟨m1,m2,m3⟩:=bk
 obtain ⟨p1,p2,p3,p4⟩:=aj
 obtain ⟨g1,g2,g3⟩:=az
 unfold jz
 rw [m1,m2,m3,p1,p2]
 exact ⟨g1,g2,g3,rfl⟩
end Go.Proofs.YthgembbgcbaghaaGreatDoor
