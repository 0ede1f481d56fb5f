/- What DelegApart writes over, and what stays: cells that live, headers that stay, blocks that nobody touches. No program in sight. -/
import Derived.Test.YthgembbgcbaghaaGreatDoorDa18
import Derived.Test.YthgembbgcbaghaaGreatDoorDa24

namespace Go.Proofs.YthgembbgcbaghaaGreatDoor
open Go.RowKit Go.WideMaps Go.Maps
def zo (o m lo hi:Nat) (v:JV) (an ai:Option Addr) (cn ci:Nat) (st:PS) (w:World):Prop :=
 PickAt o m lo hi v an ai cn ci st w∨(zO o st.err w∧o<w.heap.size∧m=o∧hi=0)
theorem zo.lt {o m lo hi:Nat} {v:JV} {an ai:Option Addr} {cn ci:Nat} {st:PS} {w:World} (h:zo o m lo hi v an ai cn ci st w):o<w.heap.size∧m<w.heap.size∧hi≤w.heap.size:=by
 rcases h with h|⟨-,h2,rfl,rfl⟩
 · exact ⟨qx h.obj,by obtain ⟨D,n,h1,_⟩:=h.map;exact h1.lt,h.le⟩
 · exact ⟨h2,h2,Nat.zero_le _⟩
theorem zo.below {o m lo hi:Nat} {v:JV} {an ai:Option Addr} {cn ci:Nat} {st:PS} {w w':World} (h:zo o m lo hi v an ai cn ci st w) (hb:Below w.heap.size w w'):zo o m lo hi v an ai cn ci st w':=by
 rcases h with h|⟨h1,h2,h3,h4⟩
 · exact .inl (h.below hb)
 · exact .inr ⟨h1.below hb h2,Nat.lt_of_lt_of_le h2 hb.size,h3,h4⟩
theorem zo.touch {o m lo hi g:Nat} {v:JV} {an ai:Option Addr} {cn ci:Nat} {st:PS} {w w':World} (h:zo o m lo hi v an ai cn ci st w) (hT:Touch (fun b=>b=g) w w') (ho:g≠o) (hm:g≠m) (hh:hi≤g):zo o m lo hi v an ai cn ci st w':=by
 rcases h with h|⟨h1,h2,h3,h4⟩
 · exact .inl (h.touch hT ho hm hh)
 · exact .inr ⟨h1.touch hT h2 (Ne.symm ho),Nat.lt_of_lt_of_le h2 hT.size,h3,h4⟩
theorem zo.cells {o m lo hi:Nat} {v:JV} {an ai:Option Addr} {cn ci:Nat} {st:PS} {w:World} (h:zo o m lo hi v an ai cn ci st w):∃k,w.cell? ⟨o,6,none⟩=some (.int .i64 st.err)∧w.cell? ⟨o,0,none⟩=some (.int .u8 k)∧(st.err=0→k=5):=by
 rcases h with h|⟨⟨h1,h2,k,h3⟩,-⟩
 · exact ⟨5,qq h.obj rfl,(qq (j:=0) h.obj rfl).trans (by rw [h.kind];rfl),fun _=>rfl⟩
 · exact ⟨k,h2,h3,fun e=>absurd e h1⟩
theorem tl {o m lo hi:Nat} {v:JV} {an ai:Option Addr} {cn ci:Nat} {st:PS} {w:World} (h:zo o m lo hi v an ai cn ci st w) :
 Calls Tryz.prog 121 #[.pointer (some ⟨o,0,none⟩)] w fun e w'=>e=.returned (.int .i64 st.err)∧w=w':=by
 obtain ⟨k,h1,h2,h3⟩:=h.cells
 exact qD o st.err k w h1 h2 h3
def vx (o m lo hi:Nat) (v:JV) (an ai:Option Addr) (cn ci:Nat) (st:PS) (w w':World):Prop :=
 zo o m lo hi v an ai cn ci st w'∧Touch (fun b=>b=o∨b=m) w w'
theorem fd {v:JV} {y:ByteArray} {st:PS} (h:st.err≠0):qf v y st=(⟨#[]⟩,st):=by unfold qf;rw [if_pos h]
theorem us {v:JV} {y:ByteArray} {l h:Int} {st:PS} (he:st.err≠0):qP v y l h st=(0,st):=by unfold qP;rw [if_pos he]
theorem ua {v:JV} {y:ByteArray} {most:Nat} {st:PS} (h:st.err≠0):qr v y most st=(zx,st):=by unfold qr;rw [if_pos h]
theorem rD {st:PS} {e:Int} (h:st.err≠0):st.fail e=st:=by unfold PS.fail;rw [if_neg h]
theorem ag {o m lo hi:Nat} {v:JV} {an ai:Option Addr} {cn ci:Nat} {st:PS} {w:World} (y:ByteArray) (h:zo o m lo hi v an ai cn ci st w) (hy:y.size≤4294967296) (ha:st.asked.length≤4294967296) :
 Calls Tryz.prog 124 #[.pointer (some ⟨o,0,none⟩),.string y] w fun e w'=>e=.returned (.string (qf v y st).1)∧vx o m lo hi v an ai cn ci (qf v y st).2 w w':=by
 rcases h with h|⟨h1,h2,h3,h4⟩
 · exact (yf o m lo hi v an ai cn ci y st w h hy ha).mono fun e w' ⟨e1,e2,e3⟩=>⟨e1,.inl e2,e3⟩
 · refine (fj o st.err y w h1).mono fun e w' ⟨e1,e2⟩=>?_
   subst e2
   rw [fd h1.1]
   exact ⟨e1,.inr ⟨h1,h2,h3,h4⟩,Touch.refl _ _⟩
theorem aH {o m lo hi:Nat} {v:JV} {an ai:Option Addr} {cn ci:Nat} {st:PS} {w:World} (y:ByteArray) (l u:Int) (h:zo o m lo hi v an ai cn ci st w) (hy:y.size≤4294967296) (ha:st.asked.length≤4294967296) :
 Calls Tryz.prog 123 #[.pointer (some ⟨o,0,none⟩),.string y,.int .i64 l,.int .i64 u] w fun e w'=>e=.returned (.int .i64 (qP v y l u st).1)∧vx o m lo hi v an ai cn ci (qP v y l u st).2 w w':=by
 have hlt:=h.lt
 rcases h with h|⟨h1,h2,h3,h4⟩
 · exact (rl o m lo hi v an ai cn ci y l u st w h hy ha hlt.2.1 hlt.1).mono fun e w' ⟨e1,e2,e3⟩=>⟨e1,.inl e2,e3⟩
 · refine (aV o st.err y l u w h1 h2).mono fun e w' ⟨e1,e2⟩=>?_
   rw [us h1.1]
   exact ⟨e1,.inr ⟨h1.below e2 h2,Nat.lt_of_lt_of_le h2 e2.size,h3,h4⟩,Touch.of_below e2 lz⟩
def sK (v:JV) (y:ByteArray) (most:Nat) (st:PS) (w:World) (e:Ending) (w':World):Prop :=
 ∃an' cn' ai' ci',e=.returned (.agg #[.int .u8 (qr v y most st).1.kind,.int .i64 (qr v y most st).1.n,.string (qr v y most st).1.t,.slice an' (qr v y most st).1.names.length cn',.slice ai' (qr v y most st).1.items.length ci'])∧Rep w' w.heap.size w'.heap.size (qr v y most st).1 (.agg #[.int .u8 (qr v y most st).1.kind,.int .i64 (qr v y most st).1.n,.string (qr v y most st).1.t,.slice an' (qr v y most st).1.names.length cn',.slice ai' (qr v y most st).1.items.length ci'])
theorem ab {o m lo hi:Nat} {v:JV} {an ai:Option Addr} {cn ci:Nat} {st:PS} {w:World} (y:ByteArray) (most:Nat) (h:zo o m lo hi v an ai cn ci st w) (hy:y.size≤4294967296) (ha:st.asked.length≤4294967296) :
 Calls Tryz.prog 62 #[.pointer (some ⟨o,0,none⟩),.string y,.int .i64 most] w fun e w'=>sK v y most st w e w'∧vx o m lo hi v an ai cn ci (qr v y most st).2 w w':=by
 rcases h with h|⟨h1,h2,h3,h4⟩
 · exact (rr o m lo hi v an ai cn ci y most st w h hy ha).mono fun e w' ⟨⟨a,b,c,d,e1,e2⟩,e3,e4⟩=>⟨⟨a,b,c,d,e1,e2⟩,.inl e3,e4⟩
 · refine (aW o st.err y most w h1 h2).mono fun e w' ⟨e1,e2⟩=>?_
   unfold sK
   rw [ua h1.1]
   exact ⟨⟨none,0,none,0,e1,kQ _ _ _⟩,.inr ⟨h1.below e2 h2,Nat.lt_of_lt_of_le h2 e2.size,h3,h4⟩,Touch.of_below e2 lz⟩
theorem pP {o m lo hi:Nat} {v:JV} {an ai:Option Addr} {cn ci:Nat} {st:PS} {w:World} (e:Int) (h:zo o m lo hi v an ai cn ci st w) :
 Calls Tryz.prog 63 #[.pointer (some ⟨o,0,none⟩),.int .i64 e] w fun r w'=>r=.returned (.tuple #[])∧vx o m lo hi v an ai cn ci (st.fail e) w w':=by
 rcases h with h|⟨h1,h2,h3,h4⟩
 · exact (dW o m lo hi v an ai cn ci e st w h).mono fun r w' ⟨e1,e2,e3⟩=>⟨e1,.inl e2,e3⟩
 · refine (sf o st.err e w h1).mono fun r w' ⟨e1,e2⟩=>?_
   subst e2
   rw [rD h1.1]
   exact ⟨e1,.inr ⟨h1,h2,h3,h4⟩,Touch.refl _ _⟩
theorem ut {o m lo hi:Nat} {v:JV} {an ai:Option Addr} {cn ci:Nat} {st:PS} {w:World} (h:zo o m lo hi v an ai cn ci st w) (hv:v.wt≤4294967296) :
 Calls Tryz.prog 68 #[.pointer (some ⟨o,0,none⟩)] w fun e w'=>e=.returned (.int .i64 (qh v st))∧w=w':=by
 rcases h with h|⟨⟨h1,c6,k,c0⟩,h2⟩
 · exact pn o m lo hi v an ai cn ci st w h (fun i hi=>by have h1:=ki v.names i hi;have h2:=v.wt_eq;omega)
 · refine (fk o st.err k w h1 c6 c0).mono fun e w' ⟨e1,e2⟩=>⟨?_,e2⟩
   rw [e1]
   unfold qh
   rw [if_pos h1]
def st0 (v:JV):PS:=if v.kind=5 then ⟨[],0⟩ else ⟨[],10⟩
def wD (C:JV→Prop) (st:PS) (w:World) (e:Ending) (w':World):Prop :=
 ∃u o m lo hi an ai cn ci,C u∧u.wt≤4294967296∧e=.returned (.pointer (some ⟨o,0,none⟩))∧zo o m lo hi u an ai cn ci st w'∧w.heap.size≤o∧w.heap.size≤m∧Below w.heap.size w w'
def xL (v u:JV):Prop:=u=if v.kind=5 then v else zx
theorem rL:zx.wt≤4294967296:=by rw [JV.wt_eq];decide
theorem aU {v:JV} {x:Value} {w:World} {lo hi:Nat} {C:JV→Prop} (hR:Rep w lo hi v x) (hk:v.kind≠5) (hC:C zx):Calls Tryz.prog 60 #[x] w (wD C (st0 v) w):=by
 obtain ⟨an,cn,ai,ci,rfl,-⟩:=hR.parts
 refine (gC v.kind v.n v.t _ _ w hk).mono ?_
 rintro e w' ⟨o,e1,e2,e3,e4,e5⟩
 refine ⟨zx,o,o,0,0,none,none,0,0,hC,rL,e1,?_,e2,e2,e5⟩
 unfold st0
 rw [if_neg hk]
 exact .inr ⟨e4,e3,rfl,rfl⟩
theorem rR {v:JV} {x:Value} {w:World} {lo hi:Nat} (hN:v.wt≤4294967296) (hlo:0<lo) (hhi:hi≤w.heap.size) (hR:Rep w lo hi v x) (hp:v.kind=5→qe v.names=true∧v.names.length=v.items.length):Calls Tryz.prog 60 #[x] w (wD (xL v) (st0 v) w):=by
 by_cases hk:v.kind=5
 · refine (yR v x w lo hi hN hhi hR hk (hp hk).1 (hp hk).2 (fun _ _=>.inl hlo)).mono ?_
   rintro e w' ⟨o,m,lo2,hi2,an,ai,cn,ci,e1,e2,e3,e4,e5⟩
   refine ⟨v,o,m,lo2,hi2,an,ai,cn,ci,?_,hN,e1,?_,e3,e4,e5⟩
   · unfold xL;rw [if_pos hk]
   · unfold st0;rw [if_pos hk];exact .inl e2
 · exact aU hR hk (by unfold xL;rw [if_neg hk])
def qY (it:JV) (most:Nat):Int:=if it.kind≠4 then 10 else if most<it.items.length then 5 else 0
def zw (it:JV) (most:Nat):Int:=if qY it most≠0 then qY it most else if it.items.all (fun x=>decide (x.kind=3)) then 0 else 10
def j5 (it:JV) (most:Nat):List ByteArray:=if zw it most=0 then it.items.map JV.t else []
theorem ui {it:JV} {most:Nat} (e:zw it most=0):it.kind=4∧¬most<it.items.length∧it.items.all (fun x=>decide (x.kind=3))=true:=by
 unfold zw qY at e
 by_cases h1:it.kind=4
 · by_cases h2:most<it.items.length
   · simp [h1,h2] at e
   · cases h3:it.items.all (fun x=>decide (x.kind=3)) with
     | true=>exact ⟨h1,h2,rfl⟩
     | false=>simp [h1,h2,h3] at e
 · simp [h1] at e
theorem uo {it:JV} {a:List ByteArray} {most:Nat} {X:List ByteArray × PS} (e:¬zw it most=0) :
 (if it.kind≠4 then ([],(⟨a,10⟩:PS)) else if most<it.items.length then ([],⟨a,5⟩) else if it.items.all (fun x=>decide (x.kind=3)) then X else ([],⟨a,10⟩))=([],⟨a,zw it most⟩):=by
 unfold zw qY at e ⊢
 by_cases h1:it.kind=4
 · by_cases h2:most<it.items.length
   · simp [h1,h2]
   · cases h3:it.items.all (fun x=>decide (x.kind=3)) with
     | true=>simp [h1,h2,h3] at e
     | false=>simp [h1,h2]
 · simp [h1]
theorem bo {it:JV} {most:Nat} (h:qY it most≠0):zw it most=qY it most:=by unfold zw;rw [if_pos h]
set_option maxHeartbeats 1000000 in
set_option maxRecDepth 100000 in
theorem pF (it:JV) (most:Nat) (an' ai':Option Addr) (cn' ci':Nat) (w:World) :
 Calls Tryz.prog 129 #[.agg #[.int .u8 it.kind,.int .i64 it.n,.string it.t,.slice an' it.names.length cn',.slice ai' it.items.length ci'],.int .i64 most] w fun e w'=>e=.returned (.tuple #[if qY it most=0 then .slice ai' it.items.length ci' else .slice none 0 0,.int .i64 (qY it most)])∧Below w.heap.size w w':=by
 have HB:=Lh (show Below w.heap.size w (w.alloc (.cells #[.int .u8 it.kind,.int .i64 it.n,.string it.t,.slice an' it.names.length cn',.slice ai' it.items.length ci'] 25)) from (Below.refl _ _).alloc lz _)
 by_cases hk:it.kind=4
 · by_cases h1:most<it.items.length
   · have HV:=Lh (show qY it most=5 by unfold qY;rw [if_neg (by simp [hk]),if_pos h1])
     rw [HV.out,if_neg (show ¬(5:Int)=0 by decide)]
     rw [hk] at HB ⊢
     have h1':decide ((most:Int)<(it.items.length:Int))=true:=by simpa using h1
     clear hk
     go_enter Tryz.func129,Tryz.ntmps129
     go_wp2
     go_ret2
     exact ⟨rfl,HB.out⟩
   · have HV:=Lh (show qY it most=0 by unfold qY;rw [if_neg (by simp [hk]),if_neg h1])
     rw [HV.out,if_pos rfl]
     rw [hk] at HB ⊢
     have h1':decide ((most:Int)<(it.items.length:Int))=false:=by simpa using h1
     clear hk
     go_enter Tryz.func129,Tryz.ntmps129
     go_wp2
     go_ret2
     exact ⟨rfl,HB.out⟩
 · have HV:=Lh (show qY it most=10 by unfold qY;rw [if_pos hk])
   rw [HV.out,if_neg (show ¬(10:Int)=0 by decide)]
   have hk':(it.kind != 4)=true:=by simpa using hk
   clear hk
   go_enter Tryz.func129,Tryz.ntmps129
   go_wp2
   go_ret2
   exact ⟨rfl,HB.out⟩
theorem rN {w:World} {B T sz n c:Nat} {a:Option Addr} {l:List Value} (h:w.ownsRow B T sz (.slice a n c) n l):n≤c:=by
 rcases h.2 with ⟨hv,h0⟩|⟨g,cap,cur,hv,hg,hh,hc,r⟩
 · omega
 · simp only [Value.slice.injEq] at hv
   omega
def kf (it:JV) (most:Nat) (w:World) (e:Ending) (w':World):Prop :=
 ∃a c,e=.returned (.tuple #[.slice a (j5 it most).length c,.int .i64 (zw it most)])∧(j5 it most).length≤c∧qw w' w.heap.size w'.heap.size a (j5 it most)∧Below w.heap.size w w'
theorem pH {it:JV} {most:Nat} {w w':World} {er:Int} (h:zw it most=er) (h0:er≠0) (hb:Below w.heap.size w w'):kf it most w (.returned (.tuple #[.slice none 0 0,.int .i64 er])) w':=by
 unfold kf j5
 rw [h,if_neg h0]
 exact ⟨none,0,rfl,Nat.le_refl _,.inl rfl,hb⟩
set_option maxHeartbeats 2000000 in
set_option maxRecDepth 100000 in
theorem dL (it:JV) (most p1:Nat) (an' ai':Option Addr) (cn' ci' lo:Nat) (w:World) (hN:it.wt≤4294967296) (hR:Rep w lo w.heap.size it (.agg #[.int .u8 it.kind,.int .i64 it.n,.string it.t,.slice an' it.names.length cn',.slice ai' it.items.length ci'])) (c1:w.cell? ⟨p1,0,none⟩=some (.int .i64 most)) :
 Calls Tryz.prog 237 #[.agg #[.int .u8 it.kind,.int .i64 it.n,.string it.t,.slice an' it.names.length cn',.slice ai' it.items.length ci'],.pointer (some ⟨p1,0,none⟩)] w (kf it most w):=by
 obtain ⟨an2,cn2,ai2,ci2,hx,-,-,-,h4⟩:=hR.parts
 simp only [Value.agg.injEq,Array.mk.injEq,List.cons.injEq,Value.slice.injEq,true_and,and_true] at hx
 obtain ⟨⟨rfl,rfl⟩,rfl,rfl⟩:=hx
 obtain ⟨W,hW⟩:∃W,W=w.alloc (.cells #[.int .u8 it.kind,.int .i64 it.n,.string it.t,.slice an' it.names.length cn',.slice ai' it.items.length ci'] 25):=⟨_,rfl⟩
 have hb:Below w.heap.size w W:=by rw [hW];exact (Below.refl _ _).alloc lz _
 have d1:W.cell? ⟨p1,0,none⟩=some (.int .i64 most):=by rw [hb.cell (World.block_lt_of_cell? w _ c1)];exact c1
 have hx0:W.heap[w.heap.size]?=some (.cells #[.int .u8 it.kind,.int .i64 it.n,.string it.t,.slice an' it.names.length cn',.slice ai' it.items.length ci'] 25 (0,0)):=by rw [hW];exact heap_alloc_new w _
 have HI:=Lh (pF it most an' ai' cn' ci' W)
 have HBW:=Lh hb
 have H4:=Lh h4
 have HW:=Lh hW
 have HLN:=Lh (show it.items.length≤4294967296 by have:=it.wt_bd;omega)
 obtain ⟨x0,x1,x2,x3,x4⟩:=bx5 hx0
 clear hb c1 hW h4 hR hx0 hN
 obtain ⟨nn,hnn⟩:∃nn,nn=it.items.length:=⟨_,rfl⟩
 rw [← hnn] at HI HLN x4 ⊢
 rw [← hnn] at HW
 have HNN:=Lh hnn
 clear hnn
 by_cases hie:qY it most=0
 case neg =>
  have HV:=Lh (bo hie)
  obtain ⟨er,her⟩:∃er,er=qY it most:=⟨_,rfl⟩
  rw [if_neg hie,← her] at HI
  rw [← her] at HV hie
  have h1:(er != 0)=true:=by simpa using hie
  have HNE:=Lh hie
  clear hie her
  go_enter Tryz.func237,Tryz.ntmps237
  go_upto_region 1 with fail
  rw [← HW.out]
  go_wp2_with fail
  refine HI.out.mono ?_
  rintro e w1 ⟨rfl,hb1⟩
  have HB1:=Lh (HBW.out.trans (hb1.mono HBW.out.size))
  clear hb1
  go_wp2
  go_ret2
  exact pH HV.out HNE.out HB1.out
 have HV:=Lh (show zw it most=if it.items.all (fun x=>decide (x.kind=3)) then 0 else 10 by unfold zw;rw [if_neg (by simp [hie])])
 rw [if_pos hie,hie] at HI
 clear hie
 obtain ⟨i2,hi2,hx0,hx1,hx2⟩:=info_parts gy
 go_enter Tryz.func237,Tryz.ntmps237
 go_upto_region 1 with fail
 rw [← HW.out]
 go_wp2_with fail
 refine HI.out.mono ?_
 clear HI
 rintro e w1 ⟨rfl,hb1⟩
 have HB1:=Lh (HBW.out.trans (hb1.mono HBW.out.size))
 clear hb1 HW x0 x1 x2 x3 x4 d1
 go_wp2
 go_loopw [7,9,21] (fun vs _ i wr=>∃(k:Nat),k≤nn∧i=.int .i64 k∧(∀j (h:j<it.items.length),j<k→it.items[j].kind=3)∧wr.ownsRow w1.heap.size 9 1 vs k (((it.items.map JV.t).take k).map .string)∧Below w1.heap.size w1 wr) (fun _ _ i _=>nn - (intOf i).toNat)
 case atStart=>exact ⟨0,by omega,rfl,fun j _ h=>by omega,World.ownsRow_nil _ _ _ _,Below.refl _ _⟩
 case round =>
  obtain ⟨k,hk,rfl,hal,hown,hbel⟩:=hrel
  have hlk:((it.items.map JV.t).take k).length=k:=by rw [List.length_take,List.length_map,← HNN.out];omega
  obtain ⟨am,cm,hv0,-,-⟩:=xG hown hlk.symm
  rw [hlk] at hv0
  subst hv0
  clear hlk
  have HB:Hid (Below w.heap.size w wr):=HB1.out.trans (hbel.mono HB1.out.size)
  have HBL:=Lh hbel
  have HO:=Lh hown
  have HAL:=Lh hal
  clear hal
  by_cases hlt:k<nn
  · have hlt':k<it.items.length:=by rw [← HNN.out];exact hlt
    obtain ⟨b,off,an3,cn3,ai3,ci3,rfl,_,hbz,y0,y1,y2,y3,y4,_⟩:=(H4.out.below HB.out lz lz HB.out.size).get k hlt'
    have HTK:=Lh (show ((it.items.map JV.t).take (k+1)).map Value.string=((it.items.map JV.t).take k).map .string ++ [.string it.items[k].t] by rw [List.take_succ_eq_append_getElem (by simpa using hlt'),List.map_append];simp)
    have HKA:=Lh (show it.items[k].kind≠3→it.items.all (fun x=>decide (x.kind=3))=false from fun h=>List.all_eq_false.2 ⟨it.items[k],List.getElem_mem _,by simpa using h⟩)
    have HKB:=Lh (show it.items[k].kind=3→∀j (h:j<it.items.length),j<k+1→it.items[j].kind=3 from fun h j hj hjk=>by
     rcases Nat.lt_succ_iff_lt_or_eq.1 hjk with h1|h1
     · exact HAL.out j hj h1
     · subst h1;exact h)
    obtain ⟨vo,hvo⟩:∃vo,vo=(Value.slice (some ⟨b,off,none⟩) nn ci'):=⟨_,rfl⟩
    clear vo hvo
    generalize it.items[k]=x at *
    have hz:w1.heap.size≤wr.heap.size:=hbel.size
    obtain ⟨WX,hWX⟩:∃WX,WX=wr.alloc (.cells #[.int .u8 x.kind,.int .i64 x.n,.string x.t,.slice an3 x.names.length cn3,.slice ai3 x.items.length ci3] 25):=⟨_,rfl⟩
    have hbX:Below wr.heap.size wr WX:=by rw [hWX];exact (Below.refl _ _).alloc lz _
    have hxX:WX.heap[wr.heap.size]?=some (.cells #[.int .u8 x.kind,.int .i64 x.n,.string x.t,.slice an3 x.names.length cn3,.slice ai3 x.items.length ci3] 25 (0,0)):=by rw [hWX];exact heap_alloc_new wr _
    have HBX:=Lh (HBL.out.trans (hbX.mono hz))
    have HOX:=Lh (qB HO.out hbX)
    have HBZ:=Lh (HB.out.trans (hbX.mono HB.out.size))
    have hzX:w1.heap.size≤WX.heap.size:=by rw [hWX];simp;omega
    have HWX:=Lh hWX
    have z0:WX.cell? ⟨wr.heap.size,0,none⟩=some (.int .u8 x.kind):=qq hxX rfl
    have z2:WX.cell? ⟨wr.heap.size,2,none⟩=some (.string x.t):=qq hxX rfl
    clear hbel hown hbX hxX hWX
    by_cases hk3:x.kind=3
    · have HK3:=Lh (HKB.out hk3)
      have h3:(x.kind != 3)=false:=by simpa using hk3
      have hnb:=HLN.out
      clear hk3 HKA HKB
      go_upto_region 8 with fail
      rw [← HWX.out]
      go_wp2_with (at_builtin;refine wpList_append_lies _ rfl (.tmp 28) (.tmp 31) 22 rfl w1.heap.size 9 i2 _ 1 16 Tryz.underlying22 hi2 hx0 hx1 hx2 rfl (by decide) (.slice am k cm) k (((it.items.map JV.t).take k).map .string) rfl (HOX.out.alloc _) ⟨WX.heap.size,0,none⟩ 1 1 [.string x.t] rfl rfl (World.news_of_block (cs:=#[.string x.t]) (t:=9) (fr:=(0,0)) (heap_alloc_new WX _)) (by simp [Value.oneCell']) (by omega) (by unfold maxLen;omega) (by omega) (by simp;omega) (WX.heap.size+1) (by simp) ?_;intro g1 cap2 w6 hown6 hgrow6 hat6 hlt6;have HO6:=Lh hown6;have HG6:=Lh hgrow6;clear hown6 hgrow6 hat6)
      go_roundw
      case rel =>
       refine ⟨k+1,by omega,by go_num,HK3.out,?_,below_grown (HBX.out.alloc (by omega) _) (by simp;omega) HG6.out (fun b hb=>(HOX.out.lt b hb).1)⟩
       rw [HTK.out]
       exact HO6.out
      case measure=>simp [intOf];omega
    · have HV2:=Lh (show zw it most=10 by rw [HV.out,HKA.out hk3];rfl)
      have h3:(x.kind != 3)=true:=by simpa using hk3
      clear hk3 HKA HKB
      go_upto_region 8 with fail
      rw [← HWX.out]
      go_wp2
      go_ret2
      exact pH HV2.out (by decide) HBZ.out
  · obtain rfl:k=nn:=by omega
    have HV2:=Lh (show zw it most=0 by
     rw [HV.out,if_pos]
     refine List.all_eq_true.2 fun x hx=>?_
     obtain ⟨j,hj,rfl⟩:=List.getElem_of_mem hx
     simpa using HAL.out j hj (by rw [HNN.out];exact hj))
    have hlm:(it.items.map JV.t).length=k:=by rw [List.length_map,HNN.out]
    rw [List.take_of_length_le (Nat.le_of_eq hlm)] at hown
    obtain ⟨a5,c5,hv6,_,hv5⟩:=xG hown hlm.symm
    rw [hlm] at hv6
    simp only [Value.slice.injEq,true_and] at hv6
    obtain ⟨rfl,rfl⟩:=hv6
    have HV5:=Lh hv5
    have HLM:=Lh hlm
    have HCM:=Lh (rN hown)
    clear hown hv5 hbel hlm
    go_wp2
    go_ret2
    have e1:j5 it most=it.items.map JV.t:=by unfold j5;rw [if_pos HV2.out]
    unfold kf
    rw [e1,HV2.out,HLM.out]
    exact ⟨am,cm,rfl,HCM.out,HV5.out.carry HB1.out.size lz (fun _ _ _=>rfl),HB.out⟩
def kG (o m lo hi:Nat) (v:JV) (an ai:Option Addr) (cn ci:Nat) (y:ByteArray) (most:Nat) (st:PS) (w:World) (e:Ending) (w':World):Prop :=
 (∃a c,e=.returned (.slice a (qv v y most st).1.length c)∧(qv v y most st).1.length≤c∧qw w' w.heap.size w'.heap.size a (qv v y most st).1)∧PickAt o m lo hi v an ai cn ci (qv v y most st).2 w'∧Touch (fun b=>b=o∨b=m) w w'
theorem wj {o m lo hi:Nat} {v:JV} {an ai:Option Addr} {cn ci:Nat} {y:ByteArray} {most:Nat} {st st':PS} {w w':World} (h:qv v y most st=([],st')) (hP:PickAt o m lo hi v an ai cn ci st' w') (hT:Touch (fun b=>b=o∨b=m) w w'):kG o m lo hi v an ai cn ci y most st w (.returned (.slice none 0 0)) w':=by
 unfold kG
 rw [h]
 exact ⟨⟨none,0,rfl,Nat.le_refl _,.inl rfl⟩,hP,hT⟩
set_option maxHeartbeats 2000000 in
set_option maxRecDepth 100000 in
theorem dR (o m lo hi:Nat) (v:JV) (an ai:Option Addr) (cn ci:Nat) (y:ByteArray) (most:Nat) (st:PS) (w:World) (hP:PickAt o m lo hi v an ai cn ci st w) (hy:y.size≤4294967296) (ha:st.asked.length≤4294967296) (p1:Nat) (g1:w.heap[p1]?=some (.cells #[.int .i64 most] 3 (0,0))) :
 Calls Tryz.prog 236 #[.pointer (some ⟨o,0,none⟩),.string y,.func (.func 237) #[] #[.pointer (some ⟨p1,0,none⟩)]] w (kG o m lo hi v an ai cn ci y most st w):=by
 have HP:=Lh hP
 have HG1:=Lh g1
 clear hP g1
 have c6:w.cell? ⟨o,6,none⟩=some (.int .i64 st.err):=qq HP.out.obj rfl
 have c0:w.cell? ⟨o,0,none⟩=some (.int .u8 5):=(qq (j:=0) HP.out.obj rfl).trans (by rw [HP.out.kind];rfl)
 by_cases he:st.err=0
 · rw [he] at c6
   have HE:=Lh he
   clear he
   have c1:w.cell? ⟨o,1,none⟩=some (.int .i64 v.n):=qq HP.out.obj rfl
   have c2:w.cell? ⟨o,2,none⟩=some (.string v.t):=qq HP.out.obj rfl
   have c3:w.cell? ⟨o,3,none⟩=some (.slice an v.names.length cn):=qq HP.out.obj rfl
   have c4:w.cell? ⟨o,4,none⟩=some (.slice ai v.items.length ci):=qq HP.out.obj rfl
   have HR:=Lh HP.out.rep
   rw [HP.out.kind] at HR
   have HG:=Lh (xS v y _ w lo hi HP.out.wt HP.out.pos HP.out.le HR.out HP.out.kind HP.out.rise HP.out.len)
   go_enter Tryz.func236,Tryz.ntmps236
   go_wp2_with fail
   refine (qD o 0 5 w c6 c0 (fun _=>rfl)).mono ?_
   rintro r w' ⟨rfl,rfl⟩
   go_wp2_with fail
   refine HG.out.mono ?_
   clear HG c0 c1 c2 c3 c4 c6
   rintro e w1 ⟨hh,hb1⟩
   have HB1:=Lh hb1
   clear hb1
   rcases hh with ⟨r,hr1,hr2,hre,an',cn',ai',ci',rfl,hrep⟩|⟨hno,rfl⟩
   · have HL:=Lh (xB HP.out.rise r hr1 hr2 hre)
     have HREP:=Lh hrep
     have HWT:=Lh (show v.items[r].wt≤4294967296 by have h1:=JV.wts_get v.items r hr2;have h2:=v.wt_bd;have h3:=HP.out.wt;omega)
     clear hre hrep
     generalize v.items[r]=it at *
     have hb2:Below w.heap.size w (w1.alloc (.cells #[.int .u8 it.kind,.int .i64 it.n,.string it.t,.slice an' it.names.length cn',.slice ai' it.items.length ci'] 25)):=HB1.out.alloc HB1.out.size _
     have HB2:=Lh hb2
     have HC:=Lh (dL it most p1 an' ai' cn' ci' w.heap.size (w1.alloc (.cells #[.int .u8 it.kind,.int .i64 it.n,.string it.t,.slice an' it.names.length cn',.slice ai' it.items.length ci'] 25)) HWT.out (HREP.out.below ((Below.refl _ _).alloc lz _) lz lz (by simp)) (qq ((hb2.block _ (qx HG1.out)).trans HG1.out) rfl))
     clear hb2
     unfold kf at HC
     by_cases hk:zw it most=0
     · have HX:=Lh (show qv v y most st=(it.items.map JV.t,⟨y :: st.asked,0⟩) by unfold qv;rw [if_neg (by simp [HE.out]),HL.out];obtain ⟨q1,q2,q3⟩:=ui hk;simp only;rw [if_neg (by simp [q1]),if_neg q2,if_pos q3])
       rw [show j5 it most=it.items.map JV.t by unfold j5;rw [if_pos hk],hk] at HC
       clear hk
       obtain ⟨L,hL⟩:∃L,L=it.items.map JV.t:=⟨_,rfl⟩
       rw [← hL] at HC HX
       clear hL
       go_wp2_with fail
       refine HC.out.mono ?_
       clear HC
       rintro e w2 ⟨al,cl,rfl,hcl,hsl,hb3⟩
       have HCL:=Lh hcl
       clear hcl
       have HB3:=Lh (HB2.out.trans (hb3.mono HB2.out.size))
       have HP3:=Lh (HP.out.below HB3.out)
       have HSL:=Lh hsl
       have HZL:=Lh (show w.heap.size<(w1.alloc (.cells #[.int .u8 it.kind,.int .i64 it.n,.string it.t,.slice an' it.names.length cn',.slice ai' it.items.length ci'] 25)).heap.size from by have:=HB1.out.size;simp;omega)
       have HMZ:=Lh (show m<w.heap.size from by obtain ⟨D,n,h,_⟩:=HP.out.map;exact h.lt)
       clear hb3 HB2 hsl
       have d5:w2.cell? ⟨o,5,none⟩=some (.map (some m)):=qq HP3.out.obj rfl
       have hkey:Go.keyOf Tryz.prog 9 (.string y)=some (.string y.data.toList):=keyOf_string_mk Tryz.underlying9 (by unfold maxLen;omega)
       obtain ⟨D,n,hown,hn,hD⟩:=HP3.out.map
       obtain ⟨c,hat,hc0,hc1,hc2⟩:=hD.2 y
       obtain ⟨c',hrun,hat',_⟩:=hown.lookup_int xP Tryz.underlying150 Tryz.underlying3 (jC _) hkey
       rw [hat] at hat'
       simp only [DataW.lit.injEq,Lit.int.injEq,true_and] at hat'
       subst hat'
       have HD:=Lh (hD.cons y c hat)
       have HKY:=Lh hkey
       have HOW:=Lh hown
       clear hD hat hc2 hkey hown
       go_wp2_with (at_mapUpdate;refine wpList_mapUpdate_own _ rfl _ _ _ 150 rfl 9 3 xP Tryz.underlying150 _ m n D rfl HOW.out (by unfold maxLen;omega) _ _ _ rfl rfl HKY.out _ [] (plainElem_int Tryz.underlying3 (WalkArith.wf_i64 (by omega))) ?_)
       intro w3 hown3 hgrow3
       have HP4:=Lh (HP3.out.ask y hgrow3 hown3 (by omega) HD.out)
       have HT:=Lh (show Touch (fun b=>b=o∨b=m) w w3 from ⟨by rw [hgrow3.os,HB3.out.os],by rw [hgrow3.tape,HB3.out.tape],by rw [hgrow3.output,HB3.out.output],Nat.le_trans HB3.out.size hgrow3.size,fun k hk hs=>by rw [hgrow3.block k (Nat.lt_of_lt_of_le hk HB3.out.size) (fun e=>hs (.inr (Option.some.inj e))),HB3.out.block k hk]⟩)
       have HS3:=Lh (show qw w3 w.heap.size w3.heap.size al L from HSL.out.carry (Nat.le_of_lt HZL.out) hgrow3.size fun b h1 h2=>hgrow3.block b h2 (fun e=>by have:=Option.some.inj e;have:=HZL.out;have:=HMZ.out;omega))
       clear hgrow3 hown3
       rw [HE.out] at HP4
       go_wp2
       go_ret
       unfold kG
       rw [HX.out]
       exact ⟨⟨al,cl,rfl,HCL.out,HS3.out⟩,HP4.out,HT.out⟩
     · have HX:=Lh (show qv v y most st=([],⟨st.asked,zw it most⟩) by unfold qv;rw [if_neg (by simp [HE.out]),HL.out];exact uo hk)
       rw [show j5 it most=[] by unfold j5;rw [if_neg hk]] at HC
       obtain ⟨er,her⟩:∃er,er=zw it most:=⟨_,rfl⟩
       rw [← her] at HC HX hk
       have hk':(er != 0)=true:=by simpa using hk
       have hk2:(er == 0)=false:=by simpa using hk
       clear hk her
       go_wp2_with fail
       refine HC.out.mono ?_
       clear HC
       rintro e w2 ⟨al,cl,rfl,-,-,hb3⟩
       have HB3:=Lh (HB2.out.trans (hb3.mono HB2.out.size))
       have HP3:=Lh (HP.out.below HB3.out)
       clear hb3 HB2
       have d6:w2.cell? ⟨o,6,none⟩=some (.int .i64 0):=(qq (j:=6) HP3.out.obj rfl).trans (by rw [HE.out];rfl)
       have d0:w2.cell? ⟨o,0,none⟩=some (.int .u8 5):=(qq (j:=0) HP3.out.obj rfl).trans (by rw [HP.out.kind];rfl)
       have d7:w2.frozen? ⟨o,6,none⟩=false:=by simp [World.frozen?,HP3.out.obj]
       go_wp2_with fail
       refine (zX o er _ d6 d0 d7).mono ?_
       clear d6 d0 d7
       rintro e w3 ⟨rfl,rfl⟩
       have HP4:=Lh (HP3.out.fail er)
       have HT:=Lh (show Touch (fun b=>b=o∨b=m) w (w2.setCell ⟨o,6,none⟩ (.int .i64 er)) from (Touch.of_below HB3.out lz).setCell (.inl (.inl rfl)) _)
       go_wp2
       go_ret
       exact wj HX.out HP4.out HT.out
   · have HX:=Lh (show qv v y most st=([],⟨st.asked,6⟩) by unfold qv;rw [if_neg (by simp [HE.out]),show v.look y=none from xz _ _ _ hno])
     unfold zeroAgg
     have HB3:=Lh (show Below w.heap.size w (w1.alloc (.cells #[.int .u8 0,.int .i64 0,.string ⟨#[]⟩,.slice none 0 0,.slice none 0 0] 25)) from HB1.out.alloc HB1.out.size _)
     have HP3:=Lh (HP.out.below HB3.out)
     clear hno HB1
     have d6:(w1.alloc (.cells #[.int .u8 0,.int .i64 0,.string ⟨#[]⟩,.slice none 0 0,.slice none 0 0] 25)).cell? ⟨o,6,none⟩=some (.int .i64 0):=(qq (j:=6) HP3.out.obj rfl).trans (by rw [HE.out];rfl)
     have d0:(w1.alloc (.cells #[.int .u8 0,.int .i64 0,.string ⟨#[]⟩,.slice none 0 0,.slice none 0 0] 25)).cell? ⟨o,0,none⟩=some (.int .u8 5):=(qq (j:=0) HP3.out.obj rfl).trans (by rw [HP.out.kind];rfl)
     have d7:(w1.alloc (.cells #[.int .u8 0,.int .i64 0,.string ⟨#[]⟩,.slice none 0 0,.slice none 0 0] 25)).frozen? ⟨o,6,none⟩=false:=by simp [World.frozen?,HP3.out.obj]
     go_wp2_with fail
     refine (zX o 6 _ d6 d0 d7).mono ?_
     clear d6 d0 d7
     rintro e w3 ⟨rfl,rfl⟩
     have HP4:=Lh (HP3.out.fail 6)
     have HT:=Lh (show Touch (fun b=>b=o∨b=m) w ((w1.alloc (.cells #[.int .u8 0,.int .i64 0,.string ⟨#[]⟩,.slice none 0 0,.slice none 0 0] 25)).setCell ⟨o,6,none⟩ (.int .i64 6)) from (Touch.of_below HB3.out lz).setCell (.inl (.inl rfl)) _)
     go_wp2
     go_ret
     exact wj HX.out HP4.out HT.out
 · have he':(st.err == 0)=false:=by simpa using he
   have he2:(st.err != 0)=true:=by simpa using he
   have HX:=Lh (show qv v y most st=([],st) by unfold qv;rw [if_pos he])
   have HE:=Lh he
   clear he
   go_enter Tryz.func236,Tryz.ntmps236
   go_wp2_with fail
   refine (qD o st.err 5 w c6 c0 (fun _=>rfl)).mono ?_
   rintro r w' ⟨rfl,rfl⟩
   go_wp2
   go_ret
   exact wj HX.out HP.out (Touch.refl _ _)
set_option maxHeartbeats 1000000 in
set_option maxRecDepth 100000 in
theorem mI {o m lo hi:Nat} {v:JV} {an ai:Option Addr} {cn ci:Nat} {st:PS} {w:World} (y:ByteArray) (most:Nat) (h:zo o m lo hi v an ai cn ci st w) (hy:y.size≤4294967296) (ha:st.asked.length≤4294967296) :
 Calls Tryz.prog 182 #[.pointer (some ⟨o,0,none⟩),.string y,.int .i64 most] w fun e w'=>(∃a c,e=.returned (.slice a (qv v y most st).1.length c)∧(qv v y most st).1.length≤c∧qw w' w.heap.size w'.heap.size a (qv v y most st).1)∧vx o m lo hi v an ai cn ci (qv v y most st).2 w w':=by
 have hb:Below w.heap.size w (w.alloc (.cells #[.int .i64 most] 3)):=(Below.refl _ _).alloc lz _
 have HT:=Lh (show Calls Tryz.prog 236 #[.pointer (some ⟨o,0,none⟩),.string y,.func (.func 237) #[] #[.pointer (some ⟨w.heap.size,0,none⟩)]] (w.alloc (.cells #[.int .i64 most] 3)) (fun e w'=>(∃a c,e=.returned (.slice a (qv v y most st).1.length c)∧(qv v y most st).1.length≤c∧qw w' w.heap.size w'.heap.size a (qv v y most st).1)∧vx o m lo hi v an ai cn ci (qv v y most st).2 w w') by
  have hT0:Touch (fun b=>b=o∨b=m) w (w.alloc (.cells #[.int .i64 most] 3)):=Touch.of_below hb lz
  rcases h with h|⟨⟨h1,c6,k,c0⟩,h2,h3,h4⟩
  · refine (dR o m lo hi v an ai cn ci y most st _ (h.below hb) hy ha w.heap.size (heap_alloc_new w _)).mono ?_
    rintro e w' ⟨⟨a,c,e1,ec,e2⟩,e3,e4⟩
    exact ⟨⟨a,c,e1,ec,e2.carry hb.size lz (fun _ _ _=>rfl)⟩,.inl e3,hT0.trans (e4.mono fun _ _ h=>h)⟩
  · obtain ⟨W2,hW2⟩:∃W2,W2=w.alloc (.cells #[.int .i64 most] 3):=⟨_,rfl⟩
    rw [← hW2] at hb hT0 ⊢
    have HPB:=Lh (show zo o m lo hi v an ai cn ci st W2 from (zo.below (.inr ⟨⟨h1,c6,k,c0⟩,h2,h3,h4⟩) hb))
    have e6:W2.cell? ⟨o,6,none⟩=some (.int .i64 st.err):=by rw [hb.cell h2];exact c6
    have e0:W2.cell? ⟨o,0,none⟩=some (.int .u8 k):=by rw [hb.cell h2];exact c0
    have he':(st.err == 0)=false:=by simpa using h1
    have he2:(st.err != 0)=true:=by simpa using h1
    have HE:=Lh h1
    have HT0:=Lh hT0
    have HX:=Lh (show qv v y most st=([],st) by unfold qv;rw [if_pos h1])
    clear h1 c6 c0 hW2 hb hT0
    go_enter Tryz.func236,Tryz.ntmps236
    go_wp2_with fail
    refine (qD o st.err k W2 e6 e0 (fun h=>absurd h HE.out)).mono ?_
    rintro r w' ⟨rfl,h'⟩
    subst h'
    go_wp2
    go_ret
    rw [HX.out]
    exact ⟨⟨none,0,rfl,Nat.le_refl _,.inl rfl⟩,HPB.out,HT0.out⟩)
 clear h hb
 obtain ⟨R,hR⟩:∃R,R=qv v y most st:=⟨_,rfl⟩
 rw [← hR] at HT ⊢
 clear hR
 go_enter Tryz.func182,Tryz.ntmps182
 go_wp2_with fail
 refine HT.out.mono ?_
 rintro e w' ⟨⟨a,c,rfl,hc1,h1⟩,h2⟩
 have HC1:=Lh hc1
 clear hc1
 have H1:=Lh h1
 have H2:=Lh h2
 clear h1 h2
 go_wp2
 go_ret
 exact ⟨⟨a,c,rfl,HC1.out,H1.out⟩,H2.out⟩
theorem tr {o m lo hi:Nat} {v:JV} {an ai:Option Addr} {cn ci:Nat} {st:PS} {w:World} (y:ByteArray) (h:zo o m lo hi v an ai cn ci st w) :
 Calls Tryz.prog 64 #[.pointer (some ⟨o,0,none⟩),.string y] w fun e w'=>e=.returned (.bool (qN v y st))∧Below w.heap.size w w':=by
 rcases h with h|⟨h1,h2,h3,h4⟩
 · exact ri o m lo hi v an ai cn ci y st w h
 · refine (aY o st.err y w h1).mono fun e w' ⟨e1,e2⟩=>?_
   subst e2
   have:qN v y st=false:=by unfold qN;simp [h1.1]
   rw [this]
   exact ⟨e1,Below.refl _ _⟩
def jA (k n:Int):Bool:=if k=1 then decide (n=1) else false
set_option maxHeartbeats 400000 in
theorem rS (k n:Int) (t:ByteArray) (a b:Value) (w:World) :
 Calls Tryz.prog 239 #[.agg #[.int .u8 k,.int .i64 n,.string t,a,b]] w fun e w'=>e=.returned (.tuple #[.bool (jA k n),.int .i64 (if k=1 then 0 else 10)])∧Below w.heap.size w w':=by
 have HB:=Lh (show Below w.heap.size w (w.alloc (.cells #[.int .u8 k,.int .i64 n,.string t,a,b] 25)) from (Below.refl _ _).alloc lz _)
 by_cases hk:k=1
 · subst hk
   have HV:=Lh (show jA 1 n=decide (n=1) from rfl)
   go_enter Tryz.func239,Tryz.ntmps239
   go_wp2
   go_ret2
   exact ⟨by rw [HV.out] <;> rfl,HB.out⟩
 · have HV:=Lh (show jA k n=false by unfold jA;rw [if_neg hk])
   rw [HV.out,if_neg hk]
   have hk':(k == 1)=false:=by simpa using hk
   have hk2:(k != 1)=true:=by simpa using hk
   clear hk
   go_enter Tryz.func239,Tryz.ntmps239
   go_wp2
   go_ret2
   exact ⟨rfl,HB.out⟩
def wL (o m lo hi:Nat) (v:JV) (an ai:Option Addr) (cn ci:Nat) (y:ByteArray) (st:PS) (w:World) (e:Ending) (w':World):Prop :=
 e=.returned (.bool (qH v y st).1)∧PickAt o m lo hi v an ai cn ci (qH v y st).2 w'∧Touch (fun b=>b=o∨b=m) w w'
theorem yt {o m lo hi:Nat} {v:JV} {an ai:Option Addr} {cn ci:Nat} {y:ByteArray} {st st':PS} {w w':World} (h:qH v y st=(false,st')) (hP:PickAt o m lo hi v an ai cn ci st' w') (hT:Touch (fun b=>b=o∨b=m) w w'):wL o m lo hi v an ai cn ci y st w (.returned (.bool false)) w':=by
 unfold wL
 rw [h]
 exact ⟨rfl,hP,hT⟩
set_option maxHeartbeats 2000000 in
set_option maxRecDepth 100000 in
theorem rA (o m lo hi:Nat) (v:JV) (an ai:Option Addr) (cn ci:Nat) (y:ByteArray) (st:PS) (w:World) (hP:PickAt o m lo hi v an ai cn ci st w) (hy:y.size≤4294967296) (ha:st.asked.length≤4294967296) :
 Calls Tryz.prog 238 #[.pointer (some ⟨o,0,none⟩),.string y,.func (.func 239) #[] #[]] w (wL o m lo hi v an ai cn ci y st w):=by
 have HP:=Lh hP
 clear hP
 have c6:w.cell? ⟨o,6,none⟩=some (.int .i64 st.err):=qq HP.out.obj rfl
 have c0:w.cell? ⟨o,0,none⟩=some (.int .u8 5):=(qq (j:=0) HP.out.obj rfl).trans (by rw [HP.out.kind];rfl)
 by_cases he:st.err=0
 · rw [he] at c6
   have HE:=Lh he
   clear he
   have c1:w.cell? ⟨o,1,none⟩=some (.int .i64 v.n):=qq HP.out.obj rfl
   have c2:w.cell? ⟨o,2,none⟩=some (.string v.t):=qq HP.out.obj rfl
   have c3:w.cell? ⟨o,3,none⟩=some (.slice an v.names.length cn):=qq HP.out.obj rfl
   have c4:w.cell? ⟨o,4,none⟩=some (.slice ai v.items.length ci):=qq HP.out.obj rfl
   have HR:=Lh HP.out.rep
   rw [HP.out.kind] at HR
   have HG:=Lh (xS v y _ w lo hi HP.out.wt HP.out.pos HP.out.le HR.out HP.out.kind HP.out.rise HP.out.len)
   go_enter Tryz.func238,Tryz.ntmps238
   go_wp2_with fail
   refine (qD o 0 5 w c6 c0 (fun _=>rfl)).mono ?_
   rintro r w' ⟨rfl,rfl⟩
   go_wp2_with fail
   refine HG.out.mono ?_
   clear HG c0 c1 c2 c3 c4 c6
   rintro e w1 ⟨hh,hb1⟩
   have HB1:=Lh hb1
   clear hb1
   rcases hh with ⟨r,hr1,hr2,hre,an',cn',ai',ci',rfl,hrep⟩|⟨hno,rfl⟩
   · have HL:=Lh (xB HP.out.rise r hr1 hr2 hre)
     clear hre hrep
     generalize v.items[r]=it at *
     have hb2:Below w.heap.size w (w1.alloc (.cells #[.int .u8 it.kind,.int .i64 it.n,.string it.t,.slice an' it.names.length cn',.slice ai' it.items.length ci'] 25)):=HB1.out.alloc HB1.out.size _
     have HB2:=Lh hb2
     have HC:=Lh (rS it.kind it.n it.t (.slice an' it.names.length cn') (.slice ai' it.items.length ci') (w1.alloc (.cells #[.int .u8 it.kind,.int .i64 it.n,.string it.t,.slice an' it.names.length cn',.slice ai' it.items.length ci'] 25)))
     clear hb2
     by_cases hk:it.kind=1
     · have HX:=Lh (show qH v y st=(decide (it.n=1),⟨y :: st.asked,0⟩) by unfold qH;rw [if_neg (by simp [HE.out]),HL.out];simp [hk])
       rw [if_pos hk] at HC
       have e1:jA it.kind it.n=decide (it.n=1):=by unfold jA;rw [if_pos hk]
       rw [e1] at HC
       clear hk e1
       obtain ⟨L,hL⟩:∃L,L=decide (it.n=1):=⟨_,rfl⟩
       rw [← hL] at HC HX
       clear hL
       go_wp2_with fail
       refine HC.out.mono ?_
       clear HC
       rintro e w2 ⟨rfl,hb3⟩
       have HB3:=Lh (HB2.out.trans (hb3.mono HB2.out.size))
       have HP3:=Lh (HP.out.below HB3.out)
       clear hb3 HB2
       have d5:w2.cell? ⟨o,5,none⟩=some (.map (some m)):=qq HP3.out.obj rfl
       have hkey:Go.keyOf Tryz.prog 9 (.string y)=some (.string y.data.toList):=keyOf_string_mk Tryz.underlying9 (by unfold maxLen;omega)
       obtain ⟨D,n,hown,hn,hD⟩:=HP3.out.map
       obtain ⟨c,hat,hc0,hc1,hc2⟩:=hD.2 y
       obtain ⟨c',hrun,hat',_⟩:=hown.lookup_int xP Tryz.underlying150 Tryz.underlying3 (jC _) hkey
       rw [hat] at hat'
       simp only [DataW.lit.injEq,Lit.int.injEq,true_and] at hat'
       subst hat'
       have HD:=Lh (hD.cons y c hat)
       have HKY:=Lh hkey
       have HOW:=Lh hown
       clear hD hat hc2 hkey hown
       go_wp2_with (at_mapUpdate;refine wpList_mapUpdate_own _ rfl _ _ _ 150 rfl 9 3 xP Tryz.underlying150 _ m n D rfl HOW.out (by unfold maxLen;omega) _ _ _ rfl rfl HKY.out _ [] (plainElem_int Tryz.underlying3 (WalkArith.wf_i64 (by omega))) ?_)
       intro w3 hown3 hgrow3
       have HP4:=Lh (HP3.out.ask y hgrow3 hown3 (by omega) HD.out)
       have HT:=Lh (show Touch (fun b=>b=o∨b=m) w w3 from ⟨by rw [hgrow3.os,HB3.out.os],by rw [hgrow3.tape,HB3.out.tape],by rw [hgrow3.output,HB3.out.output],Nat.le_trans HB3.out.size hgrow3.size,fun k hk hs=>by rw [hgrow3.block k (Nat.lt_of_lt_of_le hk HB3.out.size) (fun e=>hs (.inr (Option.some.inj e))),HB3.out.block k hk]⟩)
       clear hgrow3 hown3
       rw [HE.out] at HP4
       go_wp2
       go_ret
       unfold wL
       rw [HX.out]
       exact ⟨rfl,HP4.out,HT.out⟩
     · have HX:=Lh (show qH v y st=(false,⟨st.asked,10⟩) by unfold qH;rw [if_neg (by simp [HE.out]),HL.out];simp [hk])
       rw [if_neg hk] at HC
       have e1:jA it.kind it.n=false:=by unfold jA;rw [if_neg hk]
       rw [e1] at HC
       clear hk e1
       go_wp2_with fail
       refine HC.out.mono ?_
       clear HC
       rintro e w2 ⟨rfl,hb3⟩
       have HB3:=Lh (HB2.out.trans (hb3.mono HB2.out.size))
       have HP3:=Lh (HP.out.below HB3.out)
       clear hb3 HB2
       have d6:w2.cell? ⟨o,6,none⟩=some (.int .i64 0):=(qq (j:=6) HP3.out.obj rfl).trans (by rw [HE.out];rfl)
       have d0:w2.cell? ⟨o,0,none⟩=some (.int .u8 5):=(qq (j:=0) HP3.out.obj rfl).trans (by rw [HP.out.kind];rfl)
       have d7:w2.frozen? ⟨o,6,none⟩=false:=by simp [World.frozen?,HP3.out.obj]
       go_wp2_with fail
       refine (zX o 10 _ d6 d0 d7).mono ?_
       clear d6 d0 d7
       rintro e w3 ⟨rfl,rfl⟩
       have HP4:=Lh (HP3.out.fail 10)
       have HT:=Lh (show Touch (fun b=>b=o∨b=m) w (w2.setCell ⟨o,6,none⟩ (.int .i64 10)) from (Touch.of_below HB3.out lz).setCell (.inl (.inl rfl)) _)
       go_wp2
       go_ret
       exact yt HX.out HP4.out HT.out
   · have HX:=Lh (show qH v y st=(false,⟨st.asked,6⟩) by unfold qH;rw [if_neg (by simp [HE.out]),show v.look y=none from xz _ _ _ hno])
     unfold zeroAgg
     have HB3:=Lh (show Below w.heap.size w (w1.alloc (.cells #[.int .u8 0,.int .i64 0,.string ⟨#[]⟩,.slice none 0 0,.slice none 0 0] 25)) from HB1.out.alloc HB1.out.size _)
     have HP3:=Lh (HP.out.below HB3.out)
     clear hno HB1
     have d6:(w1.alloc (.cells #[.int .u8 0,.int .i64 0,.string ⟨#[]⟩,.slice none 0 0,.slice none 0 0] 25)).cell? ⟨o,6,none⟩=some (.int .i64 0):=(qq (j:=6) HP3.out.obj rfl).trans (by rw [HE.out];rfl)
     have d0:(w1.alloc (.cells #[.int .u8 0,.int .i64 0,.string ⟨#[]⟩,.slice none 0 0,.slice none 0 0] 25)).cell? ⟨o,0,none⟩=some (.int .u8 5):=(qq (j:=0) HP3.out.obj rfl).trans (by rw [HP.out.kind];rfl)
     have d7:(w1.alloc (.cells #[.int .u8 0,.int .i64 0,.string ⟨#[]⟩,.slice none 0 0,.slice none 0 0] 25)).frozen? ⟨o,6,none⟩=false:=by simp [World.frozen?,HP3.out.obj]
     go_wp2_with fail
     refine (zX o 6 _ d6 d0 d7).mono ?_
     clear d6 d0 d7
     rintro e w3 ⟨rfl,rfl⟩
     have HP4:=Lh (HP3.out.fail 6)
     have HT:=Lh (show Touch (fun b=>b=o∨b=m) w ((w1.alloc (.cells #[.int .u8 0,.int .i64 0,.string ⟨#[]⟩,.slice none 0 0,.slice none 0 0] 25)).setCell ⟨o,6,none⟩ (.int .i64 6)) from (Touch.of_below HB3.out lz).setCell (.inl (.inl rfl)) _)
     go_wp2
     go_ret
     exact yt HX.out HP4.out HT.out
 · have he':(st.err == 0)=false:=by simpa using he
   have he2:(st.err != 0)=true:=by simpa using he
   have HX:=Lh (show qH v y st=(false,st) by unfold qH;rw [if_pos he])
   have HE:=Lh he
   clear he
   go_enter Tryz.func238,Tryz.ntmps238
   go_wp2_with fail
   refine (qD o st.err 5 w c6 c0 (fun _=>rfl)).mono ?_
   rintro r w' ⟨rfl,rfl⟩
   go_wp2
   go_ret
   exact yt HX.out HP.out (Touch.refl _ _)
set_option maxHeartbeats 1000000 in
set_option maxRecDepth 100000 in
theorem tt {o m lo hi:Nat} {v:JV} {an ai:Option Addr} {cn ci:Nat} {st:PS} {w:World} (y:ByteArray) (h:zo o m lo hi v an ai cn ci st w) (hy:y.size≤4294967296) (ha:st.asked.length≤4294967296) :
 Calls Tryz.prog 188 #[.pointer (some ⟨o,0,none⟩),.string y] w fun e w'=>e=.returned (.bool (qH v y st).1)∧vx o m lo hi v an ai cn ci (qH v y st).2 w w':=by
 have HT:=Lh (show Calls Tryz.prog 238 #[.pointer (some ⟨o,0,none⟩),.string y,.func (.func 239) #[] #[]] w (fun e w'=>e=.returned (.bool (qH v y st).1)∧vx o m lo hi v an ai cn ci (qH v y st).2 w w') by
  rcases h with h|⟨⟨h1,c6,k,c0⟩,h2,h3,h4⟩
  · refine (rA o m lo hi v an ai cn ci y st _ h hy ha).mono ?_
    rintro e w' ⟨e1,e3,e4⟩
    exact ⟨e1,.inl e3,e4⟩
  · have HPB:=Lh (show zo o m lo hi v an ai cn ci st w from .inr ⟨⟨h1,c6,k,c0⟩,h2,h3,h4⟩)
    have he':(st.err == 0)=false:=by simpa using h1
    have he2:(st.err != 0)=true:=by simpa using h1
    have HE:=Lh h1
    have HX:=Lh (show qH v y st=(false,st) by unfold qH;rw [if_pos h1])
    clear h1
    go_enter Tryz.func238,Tryz.ntmps238
    go_wp2_with fail
    refine (qD o st.err k w c6 c0 (fun h=>absurd h HE.out)).mono ?_
    rintro r w' ⟨rfl,h'⟩
    subst h'
    go_wp2
    go_ret
    rw [HX.out]
    exact ⟨rfl,HPB.out,Touch.refl _ _⟩)
 clear h
 obtain ⟨R,hR⟩:∃R,R=qH v y st:=⟨_,rfl⟩
 rw [← hR] at HT ⊢
 clear hR
 go_enter Tryz.func188,Tryz.ntmps188
 go_wp2_with fail
 refine HT.out.mono ?_
 rintro e w' ⟨rfl,h2⟩
 have H2:=Lh h2
 clear h2
 go_wp2
 go_ret
 exact ⟨rfl,H2.out⟩
def jW (it:JV) (most:Nat):List JV:=if qY it most=0 then it.items else []
theorem ue {it:JV} {most:Nat} (e:qY it most=0):it.kind=4∧¬most<it.items.length:=by
 unfold qY at e
 by_cases h1:it.kind=4
 · by_cases h2:most<it.items.length
   · simp [h1,h2] at e
   · exact ⟨h1,h2⟩
 · simp [h1] at e
theorem uQ {it:JV} {a:List ByteArray} {most:Nat} {X:List JV × PS} (e:¬qY it most=0) :
 (if it.kind≠4 then ([],(⟨a,10⟩:PS)) else if most<it.items.length then ([],⟨a,5⟩) else X)=([],⟨a,qY it most⟩):=by
 unfold qY at e ⊢
 by_cases h1:it.kind=4
 · by_cases h2:most<it.items.length
   · simp [h1,h2]
   · simp [h1,h2] at e
 · simp [h1]
def vt (it:JV) (most lo:Nat) (w:World) (e:Ending) (w':World):Prop :=
 ∃a c,e=.returned (.tuple #[.slice a (jW it most).length c,.int .i64 (qY it most)])∧(jW it most).length≤c∧qR w' lo w'.heap.size a (jW it most)∧Below w.heap.size w w'
set_option maxHeartbeats 1000000 in
set_option maxRecDepth 100000 in
theorem rT (it:JV) (most p1:Nat) (an' ai':Option Addr) (cn' ci' lo:Nat) (w:World) (hR:Rep w lo w.heap.size it (.agg #[.int .u8 it.kind,.int .i64 it.n,.string it.t,.slice an' it.names.length cn',.slice ai' it.items.length ci'])) (c1:w.cell? ⟨p1,0,none⟩=some (.int .i64 most)) :
 Calls Tryz.prog 128 #[.agg #[.int .u8 it.kind,.int .i64 it.n,.string it.t,.slice an' it.names.length cn',.slice ai' it.items.length ci'],.pointer (some ⟨p1,0,none⟩)] w (vt it most lo w):=by
 have hci:it.items.length≤ci'∧qR w lo w.heap.size ai' it.items:=by
  obtain ⟨an2,cn2,ai2,ci2,hx,h1,h2,h3,h4⟩:=hR.parts
  simp only [Value.agg.injEq,Array.mk.injEq,List.cons.injEq,Value.slice.injEq] at hx
  obtain ⟨-,-,-,-,⟨e1,-,e2⟩,-⟩:=hx
  rw [e1,e2]
  exact ⟨h2,h4⟩
 have hb:Below w.heap.size w (w.alloc (.cells #[.int .u8 it.kind,.int .i64 it.n,.string it.t,.slice an' it.names.length cn',.slice ai' it.items.length ci'] 25)):=(Below.refl _ _).alloc lz _
 have d1:(w.alloc (.cells #[.int .u8 it.kind,.int .i64 it.n,.string it.t,.slice an' it.names.length cn',.slice ai' it.items.length ci'] 25)).cell? ⟨p1,0,none⟩=some (.int .i64 most):=by rw [hb.cell (World.block_lt_of_cell? w _ c1)];exact c1
 have HPI:=Lh (fun w=>pF it most an' ai' cn' ci' w)
 have HB:=Lh hb
 have HCI:=Lh hci
 clear hR hb hci c1
 go_enter Tryz.func128,Tryz.ntmps128
 go_wp2_with fail
 refine (HPI.out _).mono ?_
 clear HPI
 rintro e w' ⟨rfl,hb2⟩
 have HB2:=Lh (HB.out.trans (hb2.mono HB.out.size))
 clear hb2 d1
 by_cases hk:qY it most=0
 · have HK:=Lh hk
   have HL:=Lh (show jW it most=it.items by unfold jW;rw [if_pos hk])
   rw [hk]
   simp only [if_true]
   clear hk
   go_wp2
   go_ret2
   unfold vt
   rw [HL.out,HK.out]
   exact ⟨ai',ci',rfl,HCI.out.1,HCI.out.2.below HB2.out lz lz HB2.out.size,HB2.out⟩
 · have HL:=Lh (show jW it most=[] by unfold jW;rw [if_neg hk])
   simp only [if_neg hk]
   clear hk
   go_wp2
   go_ret2
   unfold vt
   rw [HL.out]
   exact ⟨none,0,rfl,Nat.le_refl _,.inl rfl,HB2.out⟩
def ve (o m lo hi:Nat) (v:JV) (an ai:Option Addr) (cn ci:Nat) (y:ByteArray) (most:Nat) (st:PS) (w:World) (e:Ending) (w':World):Prop :=
 (∃a c,e=.returned (.slice a (qJ v y most st).1.length c)∧(qJ v y most st).1.length≤c∧qR w' w.heap.size w'.heap.size a (qJ v y most st).1)∧PickAt o m lo hi v an ai cn ci (qJ v y most st).2 w'∧Touch (fun b=>b=o∨b=m) w w'
theorem yi {o m lo hi:Nat} {v:JV} {an ai:Option Addr} {cn ci:Nat} {y:ByteArray} {most:Nat} {st st':PS} {w w':World} (h:qJ v y most st=([],st')) (hP:PickAt o m lo hi v an ai cn ci st' w') (hT:Touch (fun b=>b=o∨b=m) w w'):ve o m lo hi v an ai cn ci y most st w (.returned (.slice none 0 0)) w':=by
 unfold ve
 rw [h]
 exact ⟨⟨none,0,rfl,Nat.le_refl _,.inl rfl⟩,hP,hT⟩
set_option maxHeartbeats 2000000 in
set_option maxRecDepth 100000 in
theorem rI (o m lo hi:Nat) (v:JV) (an ai:Option Addr) (cn ci:Nat) (y:ByteArray) (most:Nat) (st:PS) (w:World) (hP:PickAt o m lo hi v an ai cn ci st w) (hy:y.size≤4294967296) (ha:st.asked.length≤4294967296) (p1:Nat) (g1:w.heap[p1]?=some (.cells #[.int .i64 most] 3 (0,0))) :
 Calls Tryz.prog 127 #[.pointer (some ⟨o,0,none⟩),.string y,.func (.func 128) #[] #[.pointer (some ⟨p1,0,none⟩)]] w (ve o m lo hi v an ai cn ci y most st w):=by
 have HP:=Lh hP
 have HG1:=Lh g1
 clear hP g1
 have c6:w.cell? ⟨o,6,none⟩=some (.int .i64 st.err):=qq HP.out.obj rfl
 have c0:w.cell? ⟨o,0,none⟩=some (.int .u8 5):=(qq (j:=0) HP.out.obj rfl).trans (by rw [HP.out.kind];rfl)
 by_cases he:st.err=0
 · rw [he] at c6
   have HE:=Lh he
   clear he
   have c1:w.cell? ⟨o,1,none⟩=some (.int .i64 v.n):=qq HP.out.obj rfl
   have c2:w.cell? ⟨o,2,none⟩=some (.string v.t):=qq HP.out.obj rfl
   have c3:w.cell? ⟨o,3,none⟩=some (.slice an v.names.length cn):=qq HP.out.obj rfl
   have c4:w.cell? ⟨o,4,none⟩=some (.slice ai v.items.length ci):=qq HP.out.obj rfl
   have HR:=Lh HP.out.rep
   rw [HP.out.kind] at HR
   have HG:=Lh (xS v y _ w lo hi HP.out.wt HP.out.pos HP.out.le HR.out HP.out.kind HP.out.rise HP.out.len)
   go_enter Tryz.func127,Tryz.ntmps127
   go_wp2_with fail
   refine (qD o 0 5 w c6 c0 (fun _=>rfl)).mono ?_
   rintro r w' ⟨rfl,rfl⟩
   go_wp2_with fail
   refine HG.out.mono ?_
   clear HG c0 c1 c2 c3 c4 c6
   rintro e w1 ⟨hh,hb1⟩
   have HB1:=Lh hb1
   clear hb1
   rcases hh with ⟨r,hr1,hr2,hre,an',cn',ai',ci',rfl,hrep⟩|⟨hno,rfl⟩
   · have HL:=Lh (xB HP.out.rise r hr1 hr2 hre)
     have HREP:=Lh hrep
     clear hre hrep
     generalize v.items[r]=it at *
     have hb2:Below w.heap.size w (w1.alloc (.cells #[.int .u8 it.kind,.int .i64 it.n,.string it.t,.slice an' it.names.length cn',.slice ai' it.items.length ci'] 25)):=HB1.out.alloc HB1.out.size _
     have HB2:=Lh hb2
     have HC:=Lh (rT it most p1 an' ai' cn' ci' w.heap.size (w1.alloc (.cells #[.int .u8 it.kind,.int .i64 it.n,.string it.t,.slice an' it.names.length cn',.slice ai' it.items.length ci'] 25)) (Rep.below HREP.out ((Below.refl _ _).alloc lz _) lz lz (by simp)) (qq ((hb2.block _ (qx HG1.out)).trans HG1.out) rfl))
     clear hb2
     unfold vt at HC
     by_cases hk:qY it most=0
     · have HX:=Lh (show qJ v y most st=(it.items,⟨y :: st.asked,0⟩) by unfold qJ;rw [if_neg (by simp [HE.out]),HL.out];obtain ⟨q1,q2⟩:=ue hk;simp only;rw [if_neg (by simp [q1]),if_neg q2])
       rw [show jW it most=it.items by unfold jW;rw [if_pos hk],hk] at HC
       clear hk
       go_wp2_with fail
       refine HC.out.mono ?_
       clear HC
       rintro e w2 ⟨al,cl,rfl,hcl,hsl,hb3⟩
       have HB3:=Lh (HB2.out.trans (hb3.mono HB2.out.size))
       have HP3:=Lh (HP.out.below HB3.out)
       have HSL:=Lh hsl
       have HCL:=Lh hcl
       have HZL:=Lh (show w.heap.size<(w1.alloc (.cells #[.int .u8 it.kind,.int .i64 it.n,.string it.t,.slice an' it.names.length cn',.slice ai' it.items.length ci'] 25)).heap.size from by have:=HB1.out.size;simp;omega)
       have HMZ:=Lh (show m<w.heap.size from by obtain ⟨D,n,h,_⟩:=HP.out.map;exact h.lt)
       clear hb3 HB2 hsl hcl
       have d5:w2.cell? ⟨o,5,none⟩=some (.map (some m)):=qq HP3.out.obj rfl
       have hkey:Go.keyOf Tryz.prog 9 (.string y)=some (.string y.data.toList):=keyOf_string_mk Tryz.underlying9 (by unfold maxLen;omega)
       obtain ⟨D,n,hown,hn,hD⟩:=HP3.out.map
       obtain ⟨c,hat,hc0,hc1,hc2⟩:=hD.2 y
       obtain ⟨c',hrun,hat',_⟩:=hown.lookup_int xP Tryz.underlying150 Tryz.underlying3 (jC _) hkey
       rw [hat] at hat'
       simp only [DataW.lit.injEq,Lit.int.injEq,true_and] at hat'
       subst hat'
       have HD:=Lh (hD.cons y c hat)
       have HKY:=Lh hkey
       have HOW:=Lh hown
       clear hD hat hc2 hkey hown
       go_wp2_with (at_mapUpdate;refine wpList_mapUpdate_own _ rfl _ _ _ 150 rfl 9 3 xP Tryz.underlying150 _ m n D rfl HOW.out (by unfold maxLen;omega) _ _ _ rfl rfl HKY.out _ [] (plainElem_int Tryz.underlying3 (WalkArith.wf_i64 (by omega))) ?_)
       intro w3 hown3 hgrow3
       have HP4:=Lh (HP3.out.ask y hgrow3 hown3 (by omega) HD.out)
       have HT:=Lh (show Touch (fun b=>b=o∨b=m) w w3 from ⟨by rw [hgrow3.os,HB3.out.os],by rw [hgrow3.tape,HB3.out.tape],by rw [hgrow3.output,HB3.out.output],Nat.le_trans HB3.out.size hgrow3.size,fun k hk hs=>by rw [hgrow3.block k (Nat.lt_of_lt_of_le hk HB3.out.size) (fun e=>hs (.inr (Option.some.inj e))),HB3.out.block k hk]⟩)
       have HS3:=Lh (show qR w3 w.heap.size w3.heap.size al it.items from HSL.out.carry lz hgrow3.size fun b h1 h2=>hgrow3.block b h2 (fun e=>by have:=Option.some.inj e;have:=HZL.out;have:=HMZ.out;omega))
       clear hgrow3 hown3
       rw [HE.out] at HP4
       go_wp2
       go_ret
       unfold ve
       rw [HX.out]
       exact ⟨⟨al,cl,rfl,HCL.out,HS3.out⟩,HP4.out,HT.out⟩
     · have HX:=Lh (show qJ v y most st=([],⟨st.asked,qY it most⟩) by unfold qJ;rw [if_neg (by simp [HE.out]),HL.out];exact uQ hk)
       rw [show jW it most=[] by unfold jW;rw [if_neg hk]] at HC
       obtain ⟨er,her⟩:∃er,er=qY it most:=⟨_,rfl⟩
       rw [← her] at HC HX hk
       have hk':(er != 0)=true:=by simpa using hk
       have hk2:(er == 0)=false:=by simpa using hk
       clear hk her
       go_wp2_with fail
       refine HC.out.mono ?_
       clear HC
       rintro e w2 ⟨al,cl,rfl,-,-,hb3⟩
       have HB3:=Lh (HB2.out.trans (hb3.mono HB2.out.size))
       have HP3:=Lh (HP.out.below HB3.out)
       clear hb3 HB2
       have d6:w2.cell? ⟨o,6,none⟩=some (.int .i64 0):=(qq (j:=6) HP3.out.obj rfl).trans (by rw [HE.out];rfl)
       have d0:w2.cell? ⟨o,0,none⟩=some (.int .u8 5):=(qq (j:=0) HP3.out.obj rfl).trans (by rw [HP.out.kind];rfl)
       have d7:w2.frozen? ⟨o,6,none⟩=false:=by simp [World.frozen?,HP3.out.obj]
       go_wp2_with fail
       refine (zX o er _ d6 d0 d7).mono ?_
       clear d6 d0 d7
       rintro e w3 ⟨rfl,rfl⟩
       have HP4:=Lh (HP3.out.fail er)
       have HT:=Lh (show Touch (fun b=>b=o∨b=m) w (w2.setCell ⟨o,6,none⟩ (.int .i64 er)) from (Touch.of_below HB3.out lz).setCell (.inl (.inl rfl)) _)
       go_wp2
       go_ret
       exact yi HX.out HP4.out HT.out
   · have HX:=Lh (show qJ v y most st=([],⟨st.asked,6⟩) by unfold qJ;rw [if_neg (by simp [HE.out]),show v.look y=none from xz _ _ _ hno])
     unfold zeroAgg
     have HB3:=Lh (show Below w.heap.size w (w1.alloc (.cells #[.int .u8 0,.int .i64 0,.string ⟨#[]⟩,.slice none 0 0,.slice none 0 0] 25)) from HB1.out.alloc HB1.out.size _)
     have HP3:=Lh (HP.out.below HB3.out)
     clear hno HB1
     have d6:(w1.alloc (.cells #[.int .u8 0,.int .i64 0,.string ⟨#[]⟩,.slice none 0 0,.slice none 0 0] 25)).cell? ⟨o,6,none⟩=some (.int .i64 0):=(qq (j:=6) HP3.out.obj rfl).trans (by rw [HE.out];rfl)
     have d0:(w1.alloc (.cells #[.int .u8 0,.int .i64 0,.string ⟨#[]⟩,.slice none 0 0,.slice none 0 0] 25)).cell? ⟨o,0,none⟩=some (.int .u8 5):=(qq (j:=0) HP3.out.obj rfl).trans (by rw [HP.out.kind];rfl)
     have d7:(w1.alloc (.cells #[.int .u8 0,.int .i64 0,.string ⟨#[]⟩,.slice none 0 0,.slice none 0 0] 25)).frozen? ⟨o,6,none⟩=false:=by simp [World.frozen?,HP3.out.obj]
     go_wp2_with fail
     refine (zX o 6 _ d6 d0 d7).mono ?_
     clear d6 d0 d7
     rintro e w3 ⟨rfl,rfl⟩
     have HP4:=Lh (HP3.out.fail 6)
     have HT:=Lh (show Touch (fun b=>b=o∨b=m) w ((w1.alloc (.cells #[.int .u8 0,.int .i64 0,.string ⟨#[]⟩,.slice none 0 0,.slice none 0 0] 25)).setCell ⟨o,6,none⟩ (.int .i64 6)) from (Touch.of_below HB3.out lz).setCell (.inl (.inl rfl)) _)
     go_wp2
     go_ret
     exact yi HX.out HP4.out HT.out
 · have he':(st.err == 0)=false:=by simpa using he
   have he2:(st.err != 0)=true:=by simpa using he
   have HX:=Lh (show qJ v y most st=([],st) by unfold qJ;rw [if_pos he])
   have HE:=Lh he
   clear he
   go_enter Tryz.func127,Tryz.ntmps127
   go_wp2_with fail
   refine (qD o st.err 5 w c6 c0 (fun _=>rfl)).mono ?_
   rintro r w' ⟨rfl,rfl⟩
   go_wp2
   go_ret
   exact yi HX.out HP.out (Touch.refl _ _)
set_option maxHeartbeats 1000000 in
set_option maxRecDepth 100000 in
theorem tQ {o m lo hi:Nat} {v:JV} {an ai:Option Addr} {cn ci:Nat} {st:PS} {w:World} (y:ByteArray) (most:Nat) (h:zo o m lo hi v an ai cn ci st w) (hy:y.size≤4294967296) (ha:st.asked.length≤4294967296) :
 Calls Tryz.prog 67 #[.pointer (some ⟨o,0,none⟩),.string y,.int .i64 most] w fun e w'=>(∃a c,e=.returned (.slice a (qJ v y most st).1.length c)∧(qJ v y most st).1.length≤c∧qR w' w.heap.size w'.heap.size a (qJ v y most st).1)∧vx o m lo hi v an ai cn ci (qJ v y most st).2 w w':=by
 have hb:Below w.heap.size w (w.alloc (.cells #[.int .i64 most] 3)):=(Below.refl _ _).alloc lz _
 have HT:=Lh (show Calls Tryz.prog 127 #[.pointer (some ⟨o,0,none⟩),.string y,.func (.func 128) #[] #[.pointer (some ⟨w.heap.size,0,none⟩)]] (w.alloc (.cells #[.int .i64 most] 3)) (fun e w'=>(∃a c,e=.returned (.slice a (qJ v y most st).1.length c)∧(qJ v y most st).1.length≤c∧qR w' w.heap.size w'.heap.size a (qJ v y most st).1)∧vx o m lo hi v an ai cn ci (qJ v y most st).2 w w') by
  have hT0:Touch (fun b=>b=o∨b=m) w (w.alloc (.cells #[.int .i64 most] 3)):=Touch.of_below hb lz
  rcases h with h|⟨⟨h1,c6,k,c0⟩,h2,h3,h4⟩
  · refine (rI o m lo hi v an ai cn ci y most st _ (h.below hb) hy ha w.heap.size (heap_alloc_new w _)).mono ?_
    rintro e w' ⟨⟨a,c,e1,ec,e2⟩,e3,e4⟩
    exact ⟨⟨a,c,e1,ec,e2.carry hb.size lz (fun _ _ _=>rfl)⟩,.inl e3,hT0.trans (e4.mono fun _ _ h=>h)⟩
  · obtain ⟨W2,hW2⟩:∃W2,W2=w.alloc (.cells #[.int .i64 most] 3):=⟨_,rfl⟩
    rw [← hW2] at hb hT0 ⊢
    have HPB:=Lh (show zo o m lo hi v an ai cn ci st W2 from (zo.below (.inr ⟨⟨h1,c6,k,c0⟩,h2,h3,h4⟩) hb))
    have e6:W2.cell? ⟨o,6,none⟩=some (.int .i64 st.err):=by rw [hb.cell h2];exact c6
    have e0:W2.cell? ⟨o,0,none⟩=some (.int .u8 k):=by rw [hb.cell h2];exact c0
    have he':(st.err == 0)=false:=by simpa using h1
    have he2:(st.err != 0)=true:=by simpa using h1
    have HE:=Lh h1
    have HT0:=Lh hT0
    have HX:=Lh (show qJ v y most st=([],st) by unfold qJ;rw [if_pos h1])
    clear h1 c6 c0 hW2 hb hT0
    go_enter Tryz.func127,Tryz.ntmps127
    go_wp2_with fail
    refine (qD o st.err k W2 e6 e0 (fun h=>absurd h HE.out)).mono ?_
    rintro r w' ⟨rfl,h'⟩
    subst h'
    go_wp2
    go_ret
    rw [HX.out]
    exact ⟨⟨none,0,rfl,Nat.le_refl _,.inl rfl⟩,HPB.out,HT0.out⟩)
 clear h hb
 obtain ⟨R,hR⟩:∃R,R=qJ v y most st:=⟨_,rfl⟩
 rw [← hR] at HT ⊢
 clear hR
 go_enter Tryz.func67,Tryz.ntmps67
 go_wp2_with fail
 refine HT.out.mono ?_
 rintro e w' ⟨⟨a,c,rfl,hc,h1⟩,h2⟩
 have HCC:=Lh hc
 clear hc
 have H1:=Lh h1
 have H2:=Lh h2
 clear h1 h2
 go_wp2
 go_ret
 exact ⟨⟨a,c,rfl,HCC.out,H1.out⟩,H2.out⟩
end Go.Proofs.YthgembbgcbaghaaGreatDoor

namespace Go.Proofs.YthgembbgcbaghaaGreatDoor
open Go.RowKit
structure DelegC where
 x:DelegV
 ia:Option Addr
 ic:Nat
 pa:Option Addr
 pc:Nat
 qa:Option Addr
 qc:Nat
def sV (q:DelegC):List Value:=[.string q.x.name,.int .i64 q.x.au.thr,.slice q.ia q.x.au.ids.length q.ic,.bool q.x.term,.slice q.pa q.x.paths.length q.pc,.slice q.qa q.x.pres.length q.qc]
theorem rO (q:DelegC):(sV q).length=6:=rfl
def delP (w:World) (lo hi:Nat) (q:DelegC):Prop:=q.x.au.ids.length≤q.ic∧q.x.paths.length≤q.pc∧q.x.pres.length≤q.qc∧DelegIn w lo hi q.x q.ia q.pa q.qa
theorem wk:gT delP:=fun _ _ _ _ _ hs h=>⟨h.1,h.2.1,h.2.2.1,h.2.2.2.carry lz lz hs⟩
def jp (T B:Nat) (w:World) (vs:Value) (qs:List DelegC):Prop:=ItemsOwn T 6 B sV delP w vs qs
theorem jp.row {T B:Nat} {w:World} {v:Value} {qs:List DelegC} {l:List DelegV} (h:jp T B w v qs) (hl:qs.map (·.x)=l):∃a c,v=.slice a l.length c∧l.length≤c∧qE w B w.heap.size a l:=by
 have ho:=ItemsOwn.own h
 have hv:∃a n c,v=.slice a n c:=by
  rcases ho.2 with ⟨rfl,_⟩|⟨g,cap,cur,rfl,_⟩
  · exact ⟨_,_,_,rfl⟩
  · exact ⟨_,_,_,rfl⟩
 obtain ⟨a,n,c,rfl⟩:=hv
 obtain ⟨h1,h2,h3⟩:=ItemsOwn.cells rO h
 subst hl
 subst h1
 rw [List.length_map]
 refine ⟨a,c,rfl,h2,?_⟩
 rcases h3 with h3|⟨g,rfl,hg,hlt,hf,hc⟩
 · exact .inl (by rw [h3];rfl)
 · refine .inr ⟨g,0,rfl,hg,hlt,fun i hi=>?_⟩
   have hi2:i<qs.length:=by simpa using hi
   obtain ⟨lo,hi',k1,k2,k3,k4,k5,k6,k7⟩:=ItemsOwn.each h qs[i] (List.getElem_mem hi2)
   have e:(qs.map (·.x))[i]=qs[i].x:=List.getElem_map ..
   rw [e]
   have cc:=fun q (hq:q<6)=>hc i hi2 q hq
   simp only [Nat.zero_add]
   exact ⟨qs[i].ia,qs[i].ic,qs[i].pa,qs[i].pc,qs[i].qa,qs[i].qc,cc 0 (by decide),cc 1 (by decide),cc 2 (by decide),cc 3 (by decide),cc 4 (by decide),cc 5 (by decide),k4,k5,k6,k7.carry k1 k2 (fun _ _ _=>rfl)⟩
def sW:ByteArray:=⟨#[120,47,42]⟩
def kB:ByteArray:=⟨#[120,47,121]⟩
def pxN:ByteArray:=⟨#[120]⟩
def tS:ByteArray:=⟨#[47,120]⟩
def pzN:ByteArray:=⟨#[122]⟩
def pcN:ByteArray:=⟨#[99]⟩
def kh (n p:ByteArray) (last:Bool):DelegV:=⟨n,aF 97,last,[p],[]⟩
def exD:DelegsV:=⟨[],[kh raN sW false,kh bbN rW true,kh pcN kB false],xA⟩
def exE:DelegsV:=⟨[],[kh pcN kB true,kh raN sW false],xA⟩
def exBin:DelegsV:=⟨[],[],⟨2,ppN,aF 97⟩⟩
theorem gh:qG exD=true∧qG exE=true∧qG exBin=true:=by
 rw [q9,q9,q9]
 decide +kernel
theorem rE:(xI runes kB exD.roles).map (·.name)=[raN,pcN]∧(xI runes pzN exD.roles).map (·.name)=[bbN]∧(xI runes kB exE.roles).map (·.name)=[pcN]:=by decide +kernel
theorem r8:qL kB=true∧qL pzN=true∧qL pxN=true∧qL tS=false:=by decide +kernel
theorem vQ:(xg runes exD kB).map (·.name)=[raN,pcN]∧(xg runes exD pzN).map (·.name)=[bbN]∧(xg runes exE kB).map (·.name)=[pcN]∧(xg runes exBin kB).map (·.name)=[xZ ppN 2 (wB kB 2)]:=by
 obtain ⟨m1,m2,m3⟩:=gh
 obtain ⟨p1,p2,p3,p4⟩:=r8
 obtain ⟨g1,g2,g3⟩:=rE
 unfold xg
 rw [m1,m2,m3,p1,p2]
 exact ⟨g1,g2,g3,rfl⟩
def Lv (w:World) (b o:Nat):Prop:=(∃x,w.cell? ⟨b,o,none⟩=some x)∧w.frozen? ⟨b,o,none⟩=false
theorem Lv.set {w:World} {b o:Nat} (h:Lv w b o) (b' o':Nat) (v:Value):Lv (w.setCell ⟨b',o',none⟩ v) b o:=by
 obtain ⟨⟨x,hx⟩,hf⟩:=h
 refine ⟨cell?_setCell_some hx,?_⟩
 by_cases e:b=b'
 · subst e
   simp only [World.frozen?,World.setCell,Array.getElem?_modify] at hf ⊢
   cases hb:w.heap[b]? with
   | none=>simp
   | some ob =>
    rw [hb] at hf
    cases ob <;> simp_all
 · rw [World.frozen?_of_block (w:=w) (Below.heap_setCell w _ _ _ e)];exact hf
structure Sp (S:Nat→Prop) (C:Nat→Nat→Prop) (H:Nat→Nat→Value→Prop) (W w:World):Prop where
 touch:Touch S W w
 live:∀b o,C b o→Lv w b o
 hdr:∀b o v,H b o v→w.cell? ⟨b,o,none⟩=some v
theorem Sp.set {S:Nat→Prop} {C:Nat→Nat→Prop} {H:Nat→Nat→Value→Prop} {W w:World} (h:Sp S C H W w) (b o:Nat) (v:Value) (hS:S b) (hH:∀v',¬H b o v'):Sp S C H W (w.setCell ⟨b,o,none⟩ v) :=
 ⟨h.touch.setCell (.inl hS) v,fun b' o' hc=>(h.live b' o' hc).set b o v,fun b' o' v' hh=>by
  refine (World.cell?_setCell_other _ _ _ _ fun e=>?_).trans (h.hdr b' o' v' hh)
  simp only [Addr.mk.injEq,and_true] at e
  obtain ⟨e1,e2⟩:=e
  subst e1 e2
  exact hH v' hh⟩
def SS (l6 h7 l10:Nat) (b:Nat):Prop:=l10≤b∨(l6≤b∧b<h7)
def SC (W:World) (a ai:Option Addr) (n:Nat) (b o:Nat):Prop :=
 (∃j g off q m c,j<n∧a=some ⟨g,0,none⟩∧W.cell? ⟨g,j * 4+2,none⟩=some (.slice (some ⟨b,off,none⟩) m c)∧q<m∧o=off+q) ∨
 (∃i g off q r m c,i<2∧ai=some ⟨g,0,none⟩∧W.cell? ⟨g,i * 5+4,none⟩=some (.slice (some ⟨b,off,none⟩) m c)∧q<m∧r<5∧o=off+q * 5+r)
def SH (W:World) (a ai:Option Addr) (n:Nat) (b o:Nat) (v:Value):Prop :=
 W.cell? ⟨b,o,none⟩=some v∧((∃j,j<n∧a=some ⟨b,0,none⟩∧o=j * 4+2)∨(∃i,i<2∧ai=some ⟨b,0,none⟩∧o=i * 5+4))
theorem ap {T:Nat} {W:World} {a ai:Option Addr} {n c:Nat} {qs:List kg} {S:List StepV} {its:List JV} {l6 h7 l10:Nat} (hst:zW T l10 W (.slice a n c) qs) (hS:qs.map (·.1)=S) (hn:n=S.length) (hit:je W l6 h7 ai its) (h2:its.length=2) (h0:0<l6) (h710:h7≤l10) {b o:Nat} (hc:SC W a ai n b o) :
 Lv W b o∧SS l6 h7 l10 b∧∀v',¬SH W a ai n b o v':=by
 rcases hc with ⟨j,g,off,q,m,cc,hj,ha,hcell,hq,ho⟩|⟨i,g,off,q,r,m,cc,hi,ha,hcell,hq,hr,ho⟩
 · obtain ⟨g',ia,ic,lo,hi',ha',hg1,-,-,-,-,c2,-,-,k1,k2,k3,hss⟩:=hst.at hS j (by omega)
   rw [ha] at ha'
   cases ha'
   rw [hcell] at c2
   simp only [Option.some.injEq,Value.slice.injEq] at c2
   obtain ⟨rfl,hm,-⟩:=c2
   rw [hm] at hq
   have hne:S[j].au.ids≠[]:=fun e=>by rw [e] at hq;simp at hq
   rcases hss.1 with e|⟨b',off',e,hb1,hb2,hcl⟩
   · exact absurd e hne
   · cases e
     refine ⟨⟨⟨_,by rw [ho];exact hcl q hq⟩,hss.2 _ rfl hne _⟩,.inl (by omega),fun v' hh=>?_⟩
     rcases hh.2 with ⟨j',-,ha2,-⟩|⟨i',hi2,ha2,-⟩
     · rw [ha] at ha2
       cases ha2
       exact k3 ⟨hb1,hb2⟩
     · obtain ⟨g2,-,-,-,-,-,-,ha3,-,hg2,-⟩:=hit i' (by omega)
       rw [ha2] at ha3
       cases ha3
       omega
 · obtain ⟨g',lo,hi2,an,cn,bi,ci,ha',k1,k2,kc,k3,k4,k5,hrep⟩:=hit i (by omega)
   rw [ha] at ha'
   cases ha'
   rw [hcell] at kc
   simp only [Option.some.injEq,Value.slice.injEq] at kc
   obtain ⟨rfl,hm,-⟩:=kc
   rw [hm] at hq
   obtain ⟨_,_,bi',_,hx,_,_,_,hv⟩:=hrep.parts
   simp only [Value.agg.injEq,Array.mk.injEq,List.cons.injEq,Value.slice.injEq,and_true] at hx
   obtain ⟨-,-,-,-,rfl,-⟩:=hx
   rcases hv.room (by omega) with e|⟨b',off',e,hb1,hb2,hroom⟩
   · omega
   · cases e
     refine ⟨⟨hroom.cell o (by omega),hroom.frozen o⟩,.inr ⟨by omega,by omega⟩,fun v' hh=>?_⟩
     rcases hh.2 with ⟨j',hj',ha2,-⟩|⟨i',-,ha2,-⟩
     · obtain ⟨g2,-,-,-,-,ha3,hg2,-⟩:=hst.at hS j' (by omega)
       rw [ha2] at ha3
       cases ha3
       omega
     · rw [ha] at ha2
       cases ha2
       exact k5 ⟨hb1,hb2⟩
theorem r9 {T:Nat} {W:World} {a ai:Option Addr} {n c:Nat} {qs:List kg} {S:List StepV} {its:List JV} {l6 h7 l10:Nat} (hst:zW T l10 W (.slice a n c) qs) (hS:qs.map (·.1)=S) (hn:n=S.length) (hit:je W l6 h7 ai its) (h2:its.length=2) (h0:0<l6) (h710:h7≤l10) :
 Sp (SS l6 h7 l10) (SC W a ai n) (SH W a ai n) W W:=⟨Touch.refl _ _,fun _ _ hc=>(ap hst hS hn hit h2 h0 h710 hc).1,fun _ _ _ h=>h.1⟩
end Go.Proofs.YthgembbgcbaghaaGreatDoor
