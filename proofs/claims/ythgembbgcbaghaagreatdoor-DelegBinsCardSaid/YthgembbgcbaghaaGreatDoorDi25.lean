/- Delegations that lie in memory, cell by cell; delegations in a row of their own whose own rows lie elsewhere; steps that a call tells, as a slot of a drawn region. No program in sight. -/
import Derived.Test.YthgembbgcbaghaaGreatDoorDi18
import Derived.Test.YthgembbgcbaghaaGreatDoorDi24
import Derived.Test.YthgembbgcbaghaaGreatDoorDi04

namespace Go.Proofs.YthgembbgcbaghaaGreatDoor
open Go.RowKit Go.WideMaps Go.Maps
def zV (o m lo hi:Nat) (v:JV) (an ai:Option Addr) (cn ci:Nat) (st:PS) (w:World):Prop :=
 PickAt o m lo hi v an ai cn ci st w∨(xx o st.err w∧o<w.heap.size∧m=o∧hi=0)
theorem zV.lt {o m lo hi:Nat} {v:JV} {an ai:Option Addr} {cn ci:Nat} {st:PS} {w:World} (h:zV o m lo hi v an ai cn ci st w):o<w.heap.size∧m<w.heap.size∧hi≤w.heap.size:=by
 rcases h with h|⟨-,h2,rfl,rfl⟩
 · exact ⟨qx h.obj,by obtain ⟨D,n,h1,_⟩:=h.map;exact h1.lt,h.le⟩
 · exact ⟨h2,h2,Nat.zero_le _⟩
theorem zV.below {o m lo hi:Nat} {v:JV} {an ai:Option Addr} {cn ci:Nat} {st:PS} {w w':World} (h:zV o m lo hi v an ai cn ci st w) (hb:Below w.heap.size w w'):zV o m lo hi v an ai cn ci st w':=by
 rcases h with h|⟨h1,h2,h3,h4⟩
 · exact .inl (h.below hb)
 · exact .inr ⟨h1.below hb h2,Nat.lt_of_lt_of_le h2 hb.size,h3,h4⟩
theorem zV.touch {o m lo hi g:Nat} {v:JV} {an ai:Option Addr} {cn ci:Nat} {st:PS} {w w':World} (h:zV o m lo hi v an ai cn ci st w) (hT:Touch (fun b=>b=g) w w') (ho:g≠o) (hm:g≠m) (hh:hi≤g):zV o m lo hi v an ai cn ci st w':=by
 rcases h with h|⟨h1,h2,h3,h4⟩
 · exact .inl (h.touch hT ho hm hh)
 · exact .inr ⟨h1.touch hT h2 (Ne.symm ho),Nat.lt_of_lt_of_le h2 hT.size,h3,h4⟩
theorem zV.cells {o m lo hi:Nat} {v:JV} {an ai:Option Addr} {cn ci:Nat} {st:PS} {w:World} (h:zV o m lo hi v an ai cn ci st w):∃k,w.cell? ⟨o,6,none⟩=some (.int .i64 st.err)∧w.cell? ⟨o,0,none⟩=some (.int .u8 k)∧(st.err=0→k=5):=by
 rcases h with h|⟨⟨h1,h2,k,h3⟩,-⟩
 · exact ⟨5,qq h.obj rfl,(qq (j:=0) h.obj rfl).trans (by rw [h.kind];rfl),fun _=>rfl⟩
 · exact ⟨k,h2,h3,fun e=>absurd e h1⟩
theorem tR {o m lo hi:Nat} {v:JV} {an ai:Option Addr} {cn ci:Nat} {st:PS} {w:World} (h:zV o m lo hi v an ai cn ci st w) :
 Calls Tryz.prog 121 #[.pointer (some ⟨o,0,none⟩)] w fun e w'=>e=.returned (.int .i64 st.err)∧w=w':=by
 obtain ⟨k,h1,h2,h3⟩:=h.cells
 exact qN o st.err k w h1 h2 h3
def vk (o m lo hi:Nat) (v:JV) (an ai:Option Addr) (cn ci:Nat) (st:PS) (w w':World):Prop :=
 zV o m lo hi v an ai cn ci st w'∧Touch (fun b=>b=o∨b=m) w w'
theorem fm {v:JV} {y:ByteArray} {st:PS} (h:st.err≠0):qb v y st=(⟨#[]⟩,st):=by unfold qb;rw [if_pos h]
theorem ua {v:JV} {y:ByteArray} {l h:Int} {st:PS} (he:st.err≠0):qP v y l h st=(0,st):=by unfold qP;rw [if_pos he]
theorem ut {v:JV} {y:ByteArray} {most:Nat} {st:PS} (h:st.err≠0):qd v y most st=(zf,st):=by unfold qd;rw [if_pos h]
theorem nh {st:PS} {e:Int} (h:st.err≠0):st.fail e=st:=by unfold PS.fail;rw [if_neg h]
theorem aH {o m lo hi:Nat} {v:JV} {an ai:Option Addr} {cn ci:Nat} {st:PS} {w:World} (y:ByteArray) (h:zV o m lo hi v an ai cn ci st w) (hy:y.size≤4294967296) (ha:st.asked.length≤4294967296) :
 Calls Tryz.prog 124 #[.pointer (some ⟨o,0,none⟩),.string y] w fun e w'=>e=.returned (.string (qb v y st).1)∧vk o m lo hi v an ai cn ci (qb v y st).2 w w':=by
 rcases h with h|⟨h1,h2,h3,h4⟩
 · exact (ym o m lo hi v an ai cn ci y st w h hy ha).mono fun e w' ⟨e1,e2,e3⟩=>⟨e1,.inl e2,e3⟩
 · refine (fq o st.err y w h1).mono fun e w' ⟨e1,e2⟩=>?_
   subst e2
   rw [fm h1.1]
   exact ⟨e1,.inr ⟨h1,h2,h3,h4⟩,Touch.refl _ _⟩
theorem tg {o m lo hi:Nat} {v:JV} {an ai:Option Addr} {cn ci:Nat} {st:PS} {w:World} (y:ByteArray) (l u:Int) (h:zV o m lo hi v an ai cn ci st w) (hy:y.size≤4294967296) (ha:st.asked.length≤4294967296) :
 Calls Tryz.prog 123 #[.pointer (some ⟨o,0,none⟩),.string y,.int .i64 l,.int .i64 u] w fun e w'=>e=.returned (.int .i64 (qP v y l u st).1)∧vk o m lo hi v an ai cn ci (qP v y l u st).2 w w':=by
 have hlt:=h.lt
 rcases h with h|⟨h1,h2,h3,h4⟩
 · exact (rM o m lo hi v an ai cn ci y l u st w h hy ha hlt.2.1 hlt.1).mono fun e w' ⟨e1,e2,e3⟩=>⟨e1,.inl e2,e3⟩
 · refine (aE o st.err y l u w h1 h2).mono fun e w' ⟨e1,e2⟩=>?_
   rw [ua h1.1]
   exact ⟨e1,.inr ⟨h1.below e2 h2,Nat.lt_of_lt_of_le h2 e2.size,h3,h4⟩,Touch.of_below e2 lz⟩
def s8 (v:JV) (y:ByteArray) (most:Nat) (st:PS) (w:World) (e:Ending) (w':World):Prop :=
 ∃an' cn' ai' ci',e=.returned (.agg #[.int .u8 (qd v y most st).1.kind,.int .i64 (qd v y most st).1.n,.string (qd v y most st).1.t,.slice an' (qd v y most st).1.names.length cn',.slice ai' (qd v y most st).1.items.length ci'])∧Rep w' w.heap.size w'.heap.size (qd v y most st).1 (.agg #[.int .u8 (qd v y most st).1.kind,.int .i64 (qd v y most st).1.n,.string (qd v y most st).1.t,.slice an' (qd v y most st).1.names.length cn',.slice ai' (qd v y most st).1.items.length ci'])
theorem aU {o m lo hi:Nat} {v:JV} {an ai:Option Addr} {cn ci:Nat} {st:PS} {w:World} (y:ByteArray) (most:Nat) (h:zV o m lo hi v an ai cn ci st w) (hy:y.size≤4294967296) (ha:st.asked.length≤4294967296) :
 Calls Tryz.prog 62 #[.pointer (some ⟨o,0,none⟩),.string y,.int .i64 most] w fun e w'=>s8 v y most st w e w'∧vk o m lo hi v an ai cn ci (qd v y most st).2 w w':=by
 rcases h with h|⟨h1,h2,h3,h4⟩
 · exact (rC o m lo hi v an ai cn ci y most st w h hy ha).mono fun e w' ⟨⟨a,b,c,d,e1,e2⟩,e3,e4⟩=>⟨⟨a,b,c,d,e1,e2⟩,.inl e3,e4⟩
 · refine (tq o st.err y most w h1 h2).mono fun e w' ⟨e1,e2⟩=>?_
   unfold s8
   rw [ut h1.1]
   exact ⟨⟨none,0,none,0,e1,vI _ _ _⟩,.inr ⟨h1.below e2 h2,Nat.lt_of_lt_of_le h2 e2.size,h3,h4⟩,Touch.of_below e2 lz⟩
theorem pG {o m lo hi:Nat} {v:JV} {an ai:Option Addr} {cn ci:Nat} {st:PS} {w:World} (e:Int) (h:zV o m lo hi v an ai cn ci st w) :
 Calls Tryz.prog 63 #[.pointer (some ⟨o,0,none⟩),.int .i64 e] w fun r w'=>r=.returned (.tuple #[])∧vk o m lo hi v an ai cn ci (st.fail e) w w':=by
 rcases h with h|⟨h1,h2,h3,h4⟩
 · exact (dA o m lo hi v an ai cn ci e st w h).mono fun r w' ⟨e1,e2,e3⟩=>⟨e1,.inl e2,e3⟩
 · refine (sD o st.err e w h1).mono fun r w' ⟨e1,e2⟩=>?_
   subst e2
   rw [nh h1.1]
   exact ⟨e1,.inr ⟨h1,h2,h3,h4⟩,Touch.refl _ _⟩
theorem ui {o m lo hi:Nat} {v:JV} {an ai:Option Addr} {cn ci:Nat} {st:PS} {w:World} (h:zV o m lo hi v an ai cn ci st w) (hv:v.wt≤4294967296) :
 Calls Tryz.prog 68 #[.pointer (some ⟨o,0,none⟩)] w fun e w'=>e=.returned (.int .i64 (qp v st))∧w=w':=by
 rcases h with h|⟨⟨h1,c6,k,c0⟩,h2⟩
 · exact pl o m lo hi v an ai cn ci st w h (fun i hi=>by have h1:=kK v.names i hi;have h2:=v.wt_eq;omega)
 · refine (fx o st.err k w h1 c6 c0).mono fun e w' ⟨e1,e2⟩=>⟨?_,e2⟩
   rw [e1]
   unfold qp
   rw [if_pos h1]
def st0 (v:JV):PS:=if v.kind=5 then ⟨[],0⟩ else ⟨[],10⟩
def wR (C:JV→Prop) (st:PS) (w:World) (e:Ending) (w':World):Prop :=
 ∃u o m lo hi an ai cn ci,C u∧u.wt≤4294967296∧e=.returned (.pointer (some ⟨o,0,none⟩))∧zV o m lo hi u an ai cn ci st w'∧w.heap.size≤o∧w.heap.size≤m∧Below w.heap.size w w'
def xE (v u:JV):Prop:=u=if v.kind=5 then v else zf
theorem nu:zf.wt≤4294967296:=by rw [JV.wt_eq];decide
theorem tp {v:JV} {x:Value} {w:World} {lo hi:Nat} {C:JV→Prop} (hR:Rep w lo hi v x) (hk:v.kind≠5) (hC:C zf):Calls Tryz.prog 60 #[x] w (wR C (st0 v) w):=by
 obtain ⟨an,cn,ai,ci,rfl,-⟩:=hR.parts
 refine (gD v.kind v.n v.t _ _ w hk).mono ?_
 rintro e w' ⟨o,e1,e2,e3,e4,e5⟩
 refine ⟨zf,o,o,0,0,none,none,0,0,hC,nu,e1,?_,e2,e2,e5⟩
 unfold st0
 rw [if_neg hk]
 exact .inr ⟨e4,e3,rfl,rfl⟩
theorem nc {v:JV} {x:Value} {w:World} {lo hi:Nat} (hN:v.wt≤4294967296) (hlo:0<lo) (hhi:hi≤w.heap.size) (hR:Rep w lo hi v x) (hp:v.kind=5→qe v.names=true∧v.names.length=v.items.length):Calls Tryz.prog 60 #[x] w (wR (xE v) (st0 v) w):=by
 by_cases hk:v.kind=5
 · refine (yN v x w lo hi hN hhi hR hk (hp hk).1 (hp hk).2 (fun _ _=>.inl hlo)).mono ?_
   rintro e w' ⟨o,m,lo2,hi2,an,ai,cn,ci,e1,e2,e3,e4,e5⟩
   refine ⟨v,o,m,lo2,hi2,an,ai,cn,ci,?_,hN,e1,?_,e3,e4,e5⟩
   · unfold xE;rw [if_pos hk]
   · unfold st0;rw [if_pos hk];exact .inl e2
 · exact tp hR hk (by unfold xE;rw [if_neg hk])
def qG (it:JV) (most:Nat):Int:=if it.kind≠4 then 10 else if most<it.items.length then 5 else 0
def zg (it:JV) (most:Nat):Int:=if qG it most≠0 then qG it most else if it.items.all (fun x=>decide (x.kind=3)) then 0 else 10
def kz (it:JV) (most:Nat):List ByteArray:=if zg it most=0 then it.items.map JV.t else []
theorem uo {it:JV} {most:Nat} (e:zg it most=0):it.kind=4∧¬most<it.items.length∧it.items.all (fun x=>decide (x.kind=3))=true:=by
 unfold zg qG at e
 by_cases h1:it.kind=4
 · by_cases h2:most<it.items.length
   · simp [h1,h2] at e
   · cases h3:it.items.all (fun x=>decide (x.kind=3)) with
     | true=>exact ⟨h1,h2,rfl⟩
     | false=>simp [h1,h2,h3] at e
 · simp [h1] at e
theorem ue {it:JV} {a:List ByteArray} {most:Nat} {X:List ByteArray × PS} (e:¬zg it most=0) :
 (if it.kind≠4 then ([],(⟨a,10⟩:PS)) else if most<it.items.length then ([],⟨a,5⟩) else if it.items.all (fun x=>decide (x.kind=3)) then X else ([],⟨a,10⟩))=([],⟨a,zg it most⟩):=by
 unfold zg qG at e ⊢
 by_cases h1:it.kind=4
 · by_cases h2:most<it.items.length
   · simp [h1,h2]
   · cases h3:it.items.all (fun x=>decide (x.kind=3)) with
     | true=>simp [h1,h2,h3] at e
     | false=>simp [h1,h2]
 · simp [h1]
theorem bt {it:JV} {most:Nat} (h:qG it most≠0):zg it most=qG it most:=by unfold zg;rw [if_pos h]
set_option maxHeartbeats 1000000 in
set_option maxRecDepth 100000 in
theorem pB (it:JV) (most:Nat) (an' ai':Option Addr) (cn' ci':Nat) (w:World) :
 Calls Tryz.prog 129 #[.agg #[.int .u8 it.kind,.int .i64 it.n,.string it.t,.slice an' it.names.length cn',.slice ai' it.items.length ci'],.int .i64 most] w fun e w'=>e=.returned (.tuple #[if qG it most=0 then .slice ai' it.items.length ci' else .slice none 0 0,.int .i64 (qG it most)])∧Below w.heap.size w w':=by
 have HB:=Lh (show Below w.heap.size w (w.alloc (.cells #[.int .u8 it.kind,.int .i64 it.n,.string it.t,.slice an' it.names.length cn',.slice ai' it.items.length ci'] 25)) from (Below.refl _ _).alloc lz _)
 by_cases hk:it.kind=4
 · by_cases h1:most<it.items.length
   · have HV:=Lh (show qG it most=5 by unfold qG;rw [if_neg (by simp [hk]),if_pos h1])
     rw [HV.out,if_neg (show ¬(5:Int)=0 by decide)]
     rw [hk] at HB ⊢
     have h1':decide ((most:Int)<(it.items.length:Int))=true:=by simpa using h1
     clear hk
     go_enter Tryz.func129,Tryz.ntmps129
     go_wp2
     go_ret2
     exact ⟨rfl,HB.out⟩
   · have HV:=Lh (show qG it most=0 by unfold qG;rw [if_neg (by simp [hk]),if_neg h1])
     rw [HV.out,if_pos rfl]
     rw [hk] at HB ⊢
     have h1':decide ((most:Int)<(it.items.length:Int))=false:=by simpa using h1
     clear hk
     go_enter Tryz.func129,Tryz.ntmps129
     go_wp2
     go_ret2
     exact ⟨rfl,HB.out⟩
 · have HV:=Lh (show qG it most=10 by unfold qG;rw [if_pos hk])
   rw [HV.out,if_neg (show ¬(10:Int)=0 by decide)]
   have hk':(it.kind != 4)=true:=by simpa using hk
   clear hk
   go_enter Tryz.func129,Tryz.ntmps129
   go_wp2
   go_ret2
   exact ⟨rfl,HB.out⟩
theorem nl {w:World} {B T sz n c:Nat} {a:Option Addr} {l:List Value} (h:w.ownsRow B T sz (.slice a n c) n l):n≤c:=by
 rcases h.2 with ⟨hv,h0⟩|⟨g,cap,cur,hv,hg,hh,hc,r⟩
 · omega
 · simp only [Value.slice.injEq] at hv
   omega
def ki (it:JV) (most:Nat) (w:World) (e:Ending) (w':World):Prop :=
 ∃a c,e=.returned (.tuple #[.slice a (kz it most).length c,.int .i64 (zg it most)])∧(kz it most).length≤c∧qk w' w.heap.size w'.heap.size a (kz it most)∧Below w.heap.size w w'
theorem pP {it:JV} {most:Nat} {w w':World} {er:Int} (h:zg it most=er) (h0:er≠0) (hb:Below w.heap.size w w'):ki it most w (.returned (.tuple #[.slice none 0 0,.int .i64 er])) w':=by
 unfold ki kz
 rw [h,if_neg h0]
 exact ⟨none,0,rfl,Nat.le_refl _,.inl rfl,hb⟩
set_option maxHeartbeats 2000000 in
set_option maxRecDepth 100000 in
theorem lf (it:JV) (most p1:Nat) (an' ai':Option Addr) (cn' ci' lo:Nat) (w:World) (hN:it.wt≤4294967296) (hR:Rep w lo w.heap.size it (.agg #[.int .u8 it.kind,.int .i64 it.n,.string it.t,.slice an' it.names.length cn',.slice ai' it.items.length ci'])) (c1:w.cell? ⟨p1,0,none⟩=some (.int .i64 most)) :
 Calls Tryz.prog 237 #[.agg #[.int .u8 it.kind,.int .i64 it.n,.string it.t,.slice an' it.names.length cn',.slice ai' it.items.length ci'],.pointer (some ⟨p1,0,none⟩)] w (ki it most w):=by
 obtain ⟨an2,cn2,ai2,ci2,hx,-,-,-,h4⟩:=hR.parts
 simp only [Value.agg.injEq,Array.mk.injEq,List.cons.injEq,Value.slice.injEq,true_and,and_true] at hx
 obtain ⟨⟨rfl,rfl⟩,rfl,rfl⟩:=hx
 obtain ⟨W,hW⟩:∃W,W=w.alloc (.cells #[.int .u8 it.kind,.int .i64 it.n,.string it.t,.slice an' it.names.length cn',.slice ai' it.items.length ci'] 25):=⟨_,rfl⟩
 have hb:Below w.heap.size w W:=by rw [hW];exact (Below.refl _ _).alloc lz _
 have d1:W.cell? ⟨p1,0,none⟩=some (.int .i64 most):=by rw [hb.cell (World.block_lt_of_cell? w _ c1)];exact c1
 have hx0:W.heap[w.heap.size]?=some (.cells #[.int .u8 it.kind,.int .i64 it.n,.string it.t,.slice an' it.names.length cn',.slice ai' it.items.length ci'] 25 (0,0)):=by rw [hW];exact heap_alloc_new w _
 have HI:=Lh (pB it most an' ai' cn' ci' W)
 have HBW:=Lh hb
 have H4:=Lh h4
 have HW:=Lh hW
 have HLN:=Lh (show it.items.length≤4294967296 by have:=it.wt_bd;omega)
 obtain ⟨x0,x1,x2,x3,x4⟩:=bx5 hx0
 clear hb c1 hW h4 hR hx0 hN
 obtain ⟨nn,hnn⟩:∃nn,nn=it.items.length:=⟨_,rfl⟩
 rw [← hnn] at HI HLN x4 ⊢
 rw [← hnn] at HW
 have HNN:=Lh hnn
 clear hnn
 by_cases hie:qG it most=0
 case neg =>
  have HV:=Lh (bt hie)
  obtain ⟨er,her⟩:∃er,er=qG it most:=⟨_,rfl⟩
  rw [if_neg hie,← her] at HI
  rw [← her] at HV hie
  have h1:(er != 0)=true:=by simpa using hie
  have HNE:=Lh hie
  clear hie her
  go_enter Tryz.func237,Tryz.ntmps237
  go_upto_region 1 with fail
  rw [← HW.out]
  go_wp2_with fail
  refine HI.out.mono ?_
  rintro e w1 ⟨rfl,hb1⟩
  have HB1:=Lh (HBW.out.trans (hb1.mono HBW.out.size))
  clear hb1
  go_wp2
  go_ret2
  exact pP HV.out HNE.out HB1.out
 have HV:=Lh (show zg it most=if it.items.all (fun x=>decide (x.kind=3)) then 0 else 10 by unfold zg;rw [if_neg (by simp [hie])])
 rw [if_pos hie,hie] at HI
 clear hie
 obtain ⟨i2,hi2,hx0,hx1,hx2⟩:=info_parts gb
 go_enter Tryz.func237,Tryz.ntmps237
 go_upto_region 1 with fail
 rw [← HW.out]
 go_wp2_with fail
 refine HI.out.mono ?_
 clear HI
 rintro e w1 ⟨rfl,hb1⟩
 have HB1:=Lh (HBW.out.trans (hb1.mono HBW.out.size))
 clear hb1 HW x0 x1 x2 x3 x4 d1
 go_wp2
 go_loopw [7,9,21] (fun vs _ i wr=>∃(k:Nat),k≤nn∧i=.int .i64 k∧(∀j (h:j<it.items.length),j<k→it.items[j].kind=3)∧wr.ownsRow w1.heap.size 9 1 vs k (((it.items.map JV.t).take k).map .string)∧Below w1.heap.size w1 wr) (fun _ _ i _=>nn - (intOf i).toNat)
 case atStart=>exact ⟨0,by omega,rfl,fun j _ h=>by omega,World.ownsRow_nil _ _ _ _,Below.refl _ _⟩
 case round =>
  obtain ⟨k,hk,rfl,hal,hown,hbel⟩:=hrel
  have hlk:((it.items.map JV.t).take k).length=k:=by rw [List.length_take,List.length_map,← HNN.out];omega
  obtain ⟨am,cm,hv0,-,-⟩:=xC hown hlk.symm
  rw [hlk] at hv0
  subst hv0
  clear hlk
  have HB:Hid (Below w.heap.size w wr):=HB1.out.trans (hbel.mono HB1.out.size)
  have HBL:=Lh hbel
  have HO:=Lh hown
  have HAL:=Lh hal
  clear hal
  by_cases hlt:k<nn
  · have hlt':k<it.items.length:=by rw [← HNN.out];exact hlt
    obtain ⟨b,off,an3,cn3,ai3,ci3,rfl,_,hbz,y0,y1,y2,y3,y4,_⟩:=(H4.out.below HB.out lz lz HB.out.size).get k hlt'
    have HTK:=Lh (show ((it.items.map JV.t).take (k+1)).map Value.string=((it.items.map JV.t).take k).map .string ++ [.string it.items[k].t] by rw [List.take_succ_eq_append_getElem (by simpa using hlt'),List.map_append];simp)
    have HKA:=Lh (show it.items[k].kind≠3→it.items.all (fun x=>decide (x.kind=3))=false from fun h=>List.all_eq_false.2 ⟨it.items[k],List.getElem_mem _,by simpa using h⟩)
    have HKB:=Lh (show it.items[k].kind=3→∀j (h:j<it.items.length),j<k+1→it.items[j].kind=3 from fun h j hj hjk=>by
     rcases Nat.lt_succ_iff_lt_or_eq.1 hjk with h1|h1
     · exact HAL.out j hj h1
     · subst h1;exact h)
    obtain ⟨vo,hvo⟩:∃vo,vo=(Value.slice (some ⟨b,off,none⟩) nn ci'):=⟨_,rfl⟩
    clear vo hvo
    generalize it.items[k]=x at *
    have hz:w1.heap.size≤wr.heap.size:=hbel.size
    obtain ⟨WX,hWX⟩:∃WX,WX=wr.alloc (.cells #[.int .u8 x.kind,.int .i64 x.n,.string x.t,.slice an3 x.names.length cn3,.slice ai3 x.items.length ci3] 25):=⟨_,rfl⟩
    have hbX:Below wr.heap.size wr WX:=by rw [hWX];exact (Below.refl _ _).alloc lz _
    have hxX:WX.heap[wr.heap.size]?=some (.cells #[.int .u8 x.kind,.int .i64 x.n,.string x.t,.slice an3 x.names.length cn3,.slice ai3 x.items.length ci3] 25 (0,0)):=by rw [hWX];exact heap_alloc_new wr _
    have HBX:=Lh (HBL.out.trans (hbX.mono hz))
    have HOX:=Lh (qL HO.out hbX)
    have HBZ:=Lh (HB.out.trans (hbX.mono HB.out.size))
    have hzX:w1.heap.size≤WX.heap.size:=by rw [hWX];simp;omega
    have HWX:=Lh hWX
    have z0:WX.cell? ⟨wr.heap.size,0,none⟩=some (.int .u8 x.kind):=qq hxX rfl
    have z2:WX.cell? ⟨wr.heap.size,2,none⟩=some (.string x.t):=qq hxX rfl
    clear hbel hown hbX hxX hWX
    by_cases hk3:x.kind=3
    · have HK3:=Lh (HKB.out hk3)
      have h3:(x.kind != 3)=false:=by simpa using hk3
      have hnb:=HLN.out
      clear hk3 HKA HKB
      go_upto_region 8 with fail
      rw [← HWX.out]
      go_wp2_with (at_builtin;refine wpList_append_lies _ rfl (.tmp 28) (.tmp 31) 22 rfl w1.heap.size 9 i2 _ 1 16 Tryz.underlying22 hi2 hx0 hx1 hx2 rfl (by decide) (.slice am k cm) k (((it.items.map JV.t).take k).map .string) rfl (HOX.out.alloc _) ⟨WX.heap.size,0,none⟩ 1 1 [.string x.t] rfl rfl (World.news_of_block (cs:=#[.string x.t]) (t:=9) (fr:=(0,0)) (heap_alloc_new WX _)) (by simp [Value.oneCell']) (by omega) (by unfold maxLen;omega) (by omega) (by simp;omega) (WX.heap.size+1) (by simp) ?_;intro g1 cap2 w6 hown6 hgrow6 hat6 hlt6;have HO6:=Lh hown6;have HG6:=Lh hgrow6;clear hown6 hgrow6 hat6)
      go_roundw
      case rel =>
       refine ⟨k+1,by omega,by go_num,HK3.out,?_,below_grown (HBX.out.alloc (by omega) _) (by simp;omega) HG6.out (fun b hb=>(HOX.out.lt b hb).1)⟩
       rw [HTK.out]
       exact HO6.out
      case measure=>simp [intOf];omega
    · have HV2:=Lh (show zg it most=10 by rw [HV.out,HKA.out hk3];rfl)
      have h3:(x.kind != 3)=true:=by simpa using hk3
      clear hk3 HKA HKB
      go_upto_region 8 with fail
      rw [← HWX.out]
      go_wp2
      go_ret2
      exact pP HV2.out (by decide) HBZ.out
  · obtain rfl:k=nn:=by omega
    have HV2:=Lh (show zg it most=0 by
     rw [HV.out,if_pos]
     refine List.all_eq_true.2 fun x hx=>?_
     obtain ⟨j,hj,rfl⟩:=List.getElem_of_mem hx
     simpa using HAL.out j hj (by rw [HNN.out];exact hj))
    have hlm:(it.items.map JV.t).length=k:=by rw [List.length_map,HNN.out]
    rw [List.take_of_length_le (Nat.le_of_eq hlm)] at hown
    obtain ⟨a5,c5,hv6,_,hv5⟩:=xC hown hlm.symm
    rw [hlm] at hv6
    simp only [Value.slice.injEq,true_and] at hv6
    obtain ⟨rfl,rfl⟩:=hv6
    have HV5:=Lh hv5
    have HLM:=Lh hlm
    have HCM:=Lh (nl hown)
    clear hown hv5 hbel hlm
    go_wp2
    go_ret2
    have e1:kz it most=it.items.map JV.t:=by unfold kz;rw [if_pos HV2.out]
    unfold ki
    rw [e1,HV2.out,HLM.out]
    exact ⟨am,cm,rfl,HCM.out,HV5.out.carry HB1.out.size lz (fun _ _ _=>rfl),HB.out⟩
def kU (o m lo hi:Nat) (v:JV) (an ai:Option Addr) (cn ci:Nat) (y:ByteArray) (most:Nat) (st:PS) (w:World) (e:Ending) (w':World):Prop :=
 (∃a c,e=.returned (.slice a (qv v y most st).1.length c)∧(qv v y most st).1.length≤c∧qk w' w.heap.size w'.heap.size a (qv v y most st).1)∧PickAt o m lo hi v an ai cn ci (qv v y most st).2 w'∧Touch (fun b=>b=o∨b=m) w w'
theorem ww {o m lo hi:Nat} {v:JV} {an ai:Option Addr} {cn ci:Nat} {y:ByteArray} {most:Nat} {st st':PS} {w w':World} (h:qv v y most st=([],st')) (hP:PickAt o m lo hi v an ai cn ci st' w') (hT:Touch (fun b=>b=o∨b=m) w w'):kU o m lo hi v an ai cn ci y most st w (.returned (.slice none 0 0)) w':=by
 unfold kU
 rw [h]
 exact ⟨⟨none,0,rfl,Nat.le_refl _,.inl rfl⟩,hP,hT⟩
set_option maxHeartbeats 2000000 in
set_option maxRecDepth 100000 in
theorem lh (o m lo hi:Nat) (v:JV) (an ai:Option Addr) (cn ci:Nat) (y:ByteArray) (most:Nat) (st:PS) (w:World) (hP:PickAt o m lo hi v an ai cn ci st w) (hy:y.size≤4294967296) (ha:st.asked.length≤4294967296) (p1:Nat) (g1:w.heap[p1]?=some (.cells #[.int .i64 most] 3 (0,0))) :
 Calls Tryz.prog 236 #[.pointer (some ⟨o,0,none⟩),.string y,.func (.func 237) #[] #[.pointer (some ⟨p1,0,none⟩)]] w (kU o m lo hi v an ai cn ci y most st w):=by
 have HP:=Lh hP
 have HG1:=Lh g1
 clear hP g1
 have c6:w.cell? ⟨o,6,none⟩=some (.int .i64 st.err):=qq HP.out.obj rfl
 have c0:w.cell? ⟨o,0,none⟩=some (.int .u8 5):=(qq (j:=0) HP.out.obj rfl).trans (by rw [HP.out.kind];rfl)
 by_cases he:st.err=0
 · rw [he] at c6
   have HE:=Lh he
   clear he
   have c1:w.cell? ⟨o,1,none⟩=some (.int .i64 v.n):=qq HP.out.obj rfl
   have c2:w.cell? ⟨o,2,none⟩=some (.string v.t):=qq HP.out.obj rfl
   have c3:w.cell? ⟨o,3,none⟩=some (.slice an v.names.length cn):=qq HP.out.obj rfl
   have c4:w.cell? ⟨o,4,none⟩=some (.slice ai v.items.length ci):=qq HP.out.obj rfl
   have HR:=Lh HP.out.rep
   rw [HP.out.kind] at HR
   have HG:=Lh (je v y _ w lo hi HP.out.wt HP.out.pos HP.out.le HR.out HP.out.kind HP.out.rise HP.out.len)
   go_enter Tryz.func236,Tryz.ntmps236
   go_wp2_with fail
   refine (qN o 0 5 w c6 c0 (fun _=>rfl)).mono ?_
   rintro r w' ⟨rfl,rfl⟩
   go_wp2_with fail
   refine HG.out.mono ?_
   clear HG c0 c1 c2 c3 c4 c6
   rintro e w1 ⟨hh,hb1⟩
   have HB1:=Lh hb1
   clear hb1
   rcases hh with ⟨r,hr1,hr2,hre,an',cn',ai',ci',rfl,hrep⟩|⟨hno,rfl⟩
   · have HL:=Lh (xL HP.out.rise r hr1 hr2 hre)
     have HREP:=Lh hrep
     have HWT:=Lh (show v.items[r].wt≤4294967296 by have h1:=JV.wts_get v.items r hr2;have h2:=v.wt_bd;have h3:=HP.out.wt;omega)
     clear hre hrep
     generalize v.items[r]=it at *
     have hb2:Below w.heap.size w (w1.alloc (.cells #[.int .u8 it.kind,.int .i64 it.n,.string it.t,.slice an' it.names.length cn',.slice ai' it.items.length ci'] 25)):=HB1.out.alloc HB1.out.size _
     have HB2:=Lh hb2
     have HC:=Lh (lf it most p1 an' ai' cn' ci' w.heap.size (w1.alloc (.cells #[.int .u8 it.kind,.int .i64 it.n,.string it.t,.slice an' it.names.length cn',.slice ai' it.items.length ci'] 25)) HWT.out (HREP.out.below ((Below.refl _ _).alloc lz _) lz lz (by simp)) (qq ((hb2.block _ (qx HG1.out)).trans HG1.out) rfl))
     clear hb2
     unfold ki at HC
     by_cases hk:zg it most=0
     · have HX:=Lh (show qv v y most st=(it.items.map JV.t,⟨y :: st.asked,0⟩) by unfold qv;rw [if_neg (by simp [HE.out]),HL.out];obtain ⟨q1,q2,q3⟩:=uo hk;simp only;rw [if_neg (by simp [q1]),if_neg q2,if_pos q3])
       rw [show kz it most=it.items.map JV.t by unfold kz;rw [if_pos hk],hk] at HC
       clear hk
       obtain ⟨L,hL⟩:∃L,L=it.items.map JV.t:=⟨_,rfl⟩
       rw [← hL] at HC HX
       clear hL
       go_wp2_with fail
       refine HC.out.mono ?_
       clear HC
       rintro e w2 ⟨al,cl,rfl,hcl,hsl,hb3⟩
       have HCL:=Lh hcl
       clear hcl
       have HB3:=Lh (HB2.out.trans (hb3.mono HB2.out.size))
       have HP3:=Lh (HP.out.below HB3.out)
       have HSL:=Lh hsl
       have HZL:=Lh (show w.heap.size<(w1.alloc (.cells #[.int .u8 it.kind,.int .i64 it.n,.string it.t,.slice an' it.names.length cn',.slice ai' it.items.length ci'] 25)).heap.size from by have:=HB1.out.size;simp;omega)
       have HMZ:=Lh (show m<w.heap.size from by obtain ⟨D,n,h,_⟩:=HP.out.map;exact h.lt)
       clear hb3 HB2 hsl
       have d5:w2.cell? ⟨o,5,none⟩=some (.map (some m)):=qq HP3.out.obj rfl
       have hkey:Go.keyOf Tryz.prog 9 (.string y)=some (.string y.data.toList):=keyOf_string_mk Tryz.underlying9 (by unfold maxLen;omega)
       obtain ⟨D,n,hown,hn,hD⟩:=HP3.out.map
       obtain ⟨c,hat,hc0,hc1,hc2⟩:=hD.2 y
       obtain ⟨c',hrun,hat',_⟩:=hown.lookup_int xR Tryz.underlying150 Tryz.underlying3 (jN _) hkey
       rw [hat] at hat'
       simp only [DataW.lit.injEq,Lit.int.injEq,true_and] at hat'
       subst hat'
       have HD:=Lh (hD.cons y c hat)
       have HKY:=Lh hkey
       have HOW:=Lh hown
       clear hD hat hc2 hkey hown
       go_wp2_with (at_mapUpdate;refine wpList_mapUpdate_own _ rfl _ _ _ 150 rfl 9 3 xR Tryz.underlying150 _ m n D rfl HOW.out (by unfold maxLen;omega) _ _ _ rfl rfl HKY.out _ [] (plainElem_int Tryz.underlying3 (WalkArith.wf_i64 (by omega))) ?_)
       intro w3 hown3 hgrow3
       have HP4:=Lh (HP3.out.ask y hgrow3 hown3 (by omega) HD.out)
       have HT:=Lh (show Touch (fun b=>b=o∨b=m) w w3 from ⟨by rw [hgrow3.os,HB3.out.os],by rw [hgrow3.tape,HB3.out.tape],by rw [hgrow3.output,HB3.out.output],Nat.le_trans HB3.out.size hgrow3.size,fun k hk hs=>by rw [hgrow3.block k (Nat.lt_of_lt_of_le hk HB3.out.size) (fun e=>hs (.inr (Option.some.inj e))),HB3.out.block k hk]⟩)
       have HS3:=Lh (show qk w3 w.heap.size w3.heap.size al L from HSL.out.carry (Nat.le_of_lt HZL.out) hgrow3.size fun b h1 h2=>hgrow3.block b h2 (fun e=>by have:=Option.some.inj e;have:=HZL.out;have:=HMZ.out;omega))
       clear hgrow3 hown3
       rw [HE.out] at HP4
       go_wp2
       go_ret
       unfold kU
       rw [HX.out]
       exact ⟨⟨al,cl,rfl,HCL.out,HS3.out⟩,HP4.out,HT.out⟩
     · have HX:=Lh (show qv v y most st=([],⟨st.asked,zg it most⟩) by unfold qv;rw [if_neg (by simp [HE.out]),HL.out];exact ue hk)
       rw [show kz it most=[] by unfold kz;rw [if_neg hk]] at HC
       obtain ⟨er,her⟩:∃er,er=zg it most:=⟨_,rfl⟩
       rw [← her] at HC HX hk
       have hk':(er != 0)=true:=by simpa using hk
       have hk2:(er == 0)=false:=by simpa using hk
       clear hk her
       go_wp2_with fail
       refine HC.out.mono ?_
       clear HC
       rintro e w2 ⟨al,cl,rfl,-,-,hb3⟩
       have HB3:=Lh (HB2.out.trans (hb3.mono HB2.out.size))
       have HP3:=Lh (HP.out.below HB3.out)
       clear hb3 HB2
       have d6:w2.cell? ⟨o,6,none⟩=some (.int .i64 0):=(qq (j:=6) HP3.out.obj rfl).trans (by rw [HE.out];rfl)
       have d0:w2.cell? ⟨o,0,none⟩=some (.int .u8 5):=(qq (j:=0) HP3.out.obj rfl).trans (by rw [HP.out.kind];rfl)
       have d7:w2.frozen? ⟨o,6,none⟩=false:=by simp [World.frozen?,HP3.out.obj]
       go_wp2_with fail
       refine (zP o er _ d6 d0 d7).mono ?_
       clear d6 d0 d7
       rintro e w3 ⟨rfl,rfl⟩
       have HP4:=Lh (HP3.out.fail er)
       have HT:=Lh (show Touch (fun b=>b=o∨b=m) w (w2.setCell ⟨o,6,none⟩ (.int .i64 er)) from (Touch.of_below HB3.out lz).setCell (.inl (.inl rfl)) _)
       go_wp2
       go_ret
       exact ww HX.out HP4.out HT.out
   · have HX:=Lh (show qv v y most st=([],⟨st.asked,6⟩) by unfold qv;rw [if_neg (by simp [HE.out]),show v.look y=none from xv _ _ _ hno])
     unfold zeroAgg
     have HB3:=Lh (show Below w.heap.size w (w1.alloc (.cells #[.int .u8 0,.int .i64 0,.string ⟨#[]⟩,.slice none 0 0,.slice none 0 0] 25)) from HB1.out.alloc HB1.out.size _)
     have HP3:=Lh (HP.out.below HB3.out)
     clear hno HB1
     have d6:(w1.alloc (.cells #[.int .u8 0,.int .i64 0,.string ⟨#[]⟩,.slice none 0 0,.slice none 0 0] 25)).cell? ⟨o,6,none⟩=some (.int .i64 0):=(qq (j:=6) HP3.out.obj rfl).trans (by rw [HE.out];rfl)
     have d0:(w1.alloc (.cells #[.int .u8 0,.int .i64 0,.string ⟨#[]⟩,.slice none 0 0,.slice none 0 0] 25)).cell? ⟨o,0,none⟩=some (.int .u8 5):=(qq (j:=0) HP3.out.obj rfl).trans (by rw [HP.out.kind];rfl)
     have d7:(w1.alloc (.cells #[.int .u8 0,.int .i64 0,.string ⟨#[]⟩,.slice none 0 0,.slice none 0 0] 25)).frozen? ⟨o,6,none⟩=false:=by simp [World.frozen?,HP3.out.obj]
     go_wp2_with fail
     refine (zP o 6 _ d6 d0 d7).mono ?_
     clear d6 d0 d7
     rintro e w3 ⟨rfl,rfl⟩
     have HP4:=Lh (HP3.out.fail 6)
     have HT:=Lh (show Touch (fun b=>b=o∨b=m) w ((w1.alloc (.cells #[.int .u8 0,.int .i64 0,.string ⟨#[]⟩,.slice none 0 0,.slice none 0 0] 25)).setCell ⟨o,6,none⟩ (.int .i64 6)) from (Touch.of_below HB3.out lz).setCell (.inl (.inl rfl)) _)
     go_wp2
     go_ret
     exact ww HX.out HP4.out HT.out
 · have he':(st.err == 0)=false:=by simpa using he
   have he2:(st.err != 0)=true:=by simpa using he
   have HX:=Lh (show qv v y most st=([],st) by unfold qv;rw [if_pos he])
   have HE:=Lh he
   clear he
   go_enter Tryz.func236,Tryz.ntmps236
   go_wp2_with fail
   refine (qN o st.err 5 w c6 c0 (fun _=>rfl)).mono ?_
   rintro r w' ⟨rfl,rfl⟩
   go_wp2
   go_ret
   exact ww HX.out HP.out (Touch.refl _ _)
set_option maxHeartbeats 1000000 in
set_option maxRecDepth 100000 in
theorem m9 {o m lo hi:Nat} {v:JV} {an ai:Option Addr} {cn ci:Nat} {st:PS} {w:World} (y:ByteArray) (most:Nat) (h:zV o m lo hi v an ai cn ci st w) (hy:y.size≤4294967296) (ha:st.asked.length≤4294967296) :
 Calls Tryz.prog 182 #[.pointer (some ⟨o,0,none⟩),.string y,.int .i64 most] w fun e w'=>(∃a c,e=.returned (.slice a (qv v y most st).1.length c)∧(qv v y most st).1.length≤c∧qk w' w.heap.size w'.heap.size a (qv v y most st).1)∧vk o m lo hi v an ai cn ci (qv v y most st).2 w w':=by
 have hb:Below w.heap.size w (w.alloc (.cells #[.int .i64 most] 3)):=(Below.refl _ _).alloc lz _
 have HT:=Lh (show Calls Tryz.prog 236 #[.pointer (some ⟨o,0,none⟩),.string y,.func (.func 237) #[] #[.pointer (some ⟨w.heap.size,0,none⟩)]] (w.alloc (.cells #[.int .i64 most] 3)) (fun e w'=>(∃a c,e=.returned (.slice a (qv v y most st).1.length c)∧(qv v y most st).1.length≤c∧qk w' w.heap.size w'.heap.size a (qv v y most st).1)∧vk o m lo hi v an ai cn ci (qv v y most st).2 w w') by
  have hT0:Touch (fun b=>b=o∨b=m) w (w.alloc (.cells #[.int .i64 most] 3)):=Touch.of_below hb lz
  rcases h with h|⟨⟨h1,c6,k,c0⟩,h2,h3,h4⟩
  · refine (lh o m lo hi v an ai cn ci y most st _ (h.below hb) hy ha w.heap.size (heap_alloc_new w _)).mono ?_
    rintro e w' ⟨⟨a,c,e1,ec,e2⟩,e3,e4⟩
    exact ⟨⟨a,c,e1,ec,e2.carry hb.size lz (fun _ _ _=>rfl)⟩,.inl e3,hT0.trans (e4.mono fun _ _ h=>h)⟩
  · obtain ⟨W2,hW2⟩:∃W2,W2=w.alloc (.cells #[.int .i64 most] 3):=⟨_,rfl⟩
    rw [← hW2] at hb hT0 ⊢
    have HPB:=Lh (show zV o m lo hi v an ai cn ci st W2 from (zV.below (.inr ⟨⟨h1,c6,k,c0⟩,h2,h3,h4⟩) hb))
    have e6:W2.cell? ⟨o,6,none⟩=some (.int .i64 st.err):=by rw [hb.cell h2];exact c6
    have e0:W2.cell? ⟨o,0,none⟩=some (.int .u8 k):=by rw [hb.cell h2];exact c0
    have he':(st.err == 0)=false:=by simpa using h1
    have he2:(st.err != 0)=true:=by simpa using h1
    have HE:=Lh h1
    have HT0:=Lh hT0
    have HX:=Lh (show qv v y most st=([],st) by unfold qv;rw [if_pos h1])
    clear h1 c6 c0 hW2 hb hT0
    go_enter Tryz.func236,Tryz.ntmps236
    go_wp2_with fail
    refine (qN o st.err k W2 e6 e0 (fun h=>absurd h HE.out)).mono ?_
    rintro r w' ⟨rfl,h'⟩
    subst h'
    go_wp2
    go_ret
    rw [HX.out]
    exact ⟨⟨none,0,rfl,Nat.le_refl _,.inl rfl⟩,HPB.out,HT0.out⟩)
 clear h hb
 obtain ⟨R,hR⟩:∃R,R=qv v y most st:=⟨_,rfl⟩
 rw [← hR] at HT ⊢
 clear hR
 go_enter Tryz.func182,Tryz.ntmps182
 go_wp2_with fail
 refine HT.out.mono ?_
 rintro e w' ⟨⟨a,c,rfl,hc1,h1⟩,h2⟩
 have HC1:=Lh hc1
 clear hc1
 have H1:=Lh h1
 have H2:=Lh h2
 clear h1 h2
 go_wp2
 go_ret
 exact ⟨⟨a,c,rfl,HC1.out,H1.out⟩,H2.out⟩
theorem tN {o m lo hi:Nat} {v:JV} {an ai:Option Addr} {cn ci:Nat} {st:PS} {w:World} (y:ByteArray) (h:zV o m lo hi v an ai cn ci st w) :
 Calls Tryz.prog 64 #[.pointer (some ⟨o,0,none⟩),.string y] w fun e w'=>e=.returned (.bool (qA v y st))∧Below w.heap.size w w':=by
 rcases h with h|⟨h1,h2,h3,h4⟩
 · exact rR o m lo hi v an ai cn ci y st w h
 · refine (tz o st.err y w h1).mono fun e w' ⟨e1,e2⟩=>?_
   subst e2
   have:qA v y st=false:=by unfold qA;simp [h1.1]
   rw [this]
   exact ⟨e1,Below.refl _ _⟩
def jE (k n:Int):Bool:=if k=1 then decide (n=1) else false
set_option maxHeartbeats 400000 in
theorem nr (k n:Int) (t:ByteArray) (a b:Value) (w:World) :
 Calls Tryz.prog 239 #[.agg #[.int .u8 k,.int .i64 n,.string t,a,b]] w fun e w'=>e=.returned (.tuple #[.bool (jE k n),.int .i64 (if k=1 then 0 else 10)])∧Below w.heap.size w w':=by
 have HB:=Lh (show Below w.heap.size w (w.alloc (.cells #[.int .u8 k,.int .i64 n,.string t,a,b] 25)) from (Below.refl _ _).alloc lz _)
 by_cases hk:k=1
 · subst hk
   have HV:=Lh (show jE 1 n=decide (n=1) from rfl)
   go_enter Tryz.func239,Tryz.ntmps239
   go_wp2
   go_ret2
   exact ⟨by rw [HV.out] <;> rfl,HB.out⟩
 · have HV:=Lh (show jE k n=false by unfold jE;rw [if_neg hk])
   rw [HV.out,if_neg hk]
   have hk':(k == 1)=false:=by simpa using hk
   have hk2:(k != 1)=true:=by simpa using hk
   clear hk
   go_enter Tryz.func239,Tryz.ntmps239
   go_wp2
   go_ret2
   exact ⟨rfl,HB.out⟩
def wN (o m lo hi:Nat) (v:JV) (an ai:Option Addr) (cn ci:Nat) (y:ByteArray) (st:PS) (w:World) (e:Ending) (w':World):Prop :=
 e=.returned (.bool (qF v y st).1)∧PickAt o m lo hi v an ai cn ci (qF v y st).2 w'∧Touch (fun b=>b=o∨b=m) w w'
theorem ye {o m lo hi:Nat} {v:JV} {an ai:Option Addr} {cn ci:Nat} {y:ByteArray} {st st':PS} {w w':World} (h:qF v y st=(false,st')) (hP:PickAt o m lo hi v an ai cn ci st' w') (hT:Touch (fun b=>b=o∨b=m) w w'):wN o m lo hi v an ai cn ci y st w (.returned (.bool false)) w':=by
 unfold wN
 rw [h]
 exact ⟨rfl,hP,hT⟩
set_option maxHeartbeats 2000000 in
set_option maxRecDepth 100000 in
theorem nt (o m lo hi:Nat) (v:JV) (an ai:Option Addr) (cn ci:Nat) (y:ByteArray) (st:PS) (w:World) (hP:PickAt o m lo hi v an ai cn ci st w) (hy:y.size≤4294967296) (ha:st.asked.length≤4294967296) :
 Calls Tryz.prog 238 #[.pointer (some ⟨o,0,none⟩),.string y,.func (.func 239) #[] #[]] w (wN o m lo hi v an ai cn ci y st w):=by
 have HP:=Lh hP
 clear hP
 have c6:w.cell? ⟨o,6,none⟩=some (.int .i64 st.err):=qq HP.out.obj rfl
 have c0:w.cell? ⟨o,0,none⟩=some (.int .u8 5):=(qq (j:=0) HP.out.obj rfl).trans (by rw [HP.out.kind];rfl)
 by_cases he:st.err=0
 · rw [he] at c6
   have HE:=Lh he
   clear he
   have c1:w.cell? ⟨o,1,none⟩=some (.int .i64 v.n):=qq HP.out.obj rfl
   have c2:w.cell? ⟨o,2,none⟩=some (.string v.t):=qq HP.out.obj rfl
   have c3:w.cell? ⟨o,3,none⟩=some (.slice an v.names.length cn):=qq HP.out.obj rfl
   have c4:w.cell? ⟨o,4,none⟩=some (.slice ai v.items.length ci):=qq HP.out.obj rfl
   have HR:=Lh HP.out.rep
   rw [HP.out.kind] at HR
   have HG:=Lh (je v y _ w lo hi HP.out.wt HP.out.pos HP.out.le HR.out HP.out.kind HP.out.rise HP.out.len)
   go_enter Tryz.func238,Tryz.ntmps238
   go_wp2_with fail
   refine (qN o 0 5 w c6 c0 (fun _=>rfl)).mono ?_
   rintro r w' ⟨rfl,rfl⟩
   go_wp2_with fail
   refine HG.out.mono ?_
   clear HG c0 c1 c2 c3 c4 c6
   rintro e w1 ⟨hh,hb1⟩
   have HB1:=Lh hb1
   clear hb1
   rcases hh with ⟨r,hr1,hr2,hre,an',cn',ai',ci',rfl,hrep⟩|⟨hno,rfl⟩
   · have HL:=Lh (xL HP.out.rise r hr1 hr2 hre)
     clear hre hrep
     generalize v.items[r]=it at *
     have hb2:Below w.heap.size w (w1.alloc (.cells #[.int .u8 it.kind,.int .i64 it.n,.string it.t,.slice an' it.names.length cn',.slice ai' it.items.length ci'] 25)):=HB1.out.alloc HB1.out.size _
     have HB2:=Lh hb2
     have HC:=Lh (nr it.kind it.n it.t (.slice an' it.names.length cn') (.slice ai' it.items.length ci') (w1.alloc (.cells #[.int .u8 it.kind,.int .i64 it.n,.string it.t,.slice an' it.names.length cn',.slice ai' it.items.length ci'] 25)))
     clear hb2
     by_cases hk:it.kind=1
     · have HX:=Lh (show qF v y st=(decide (it.n=1),⟨y :: st.asked,0⟩) by unfold qF;rw [if_neg (by simp [HE.out]),HL.out];simp [hk])
       rw [if_pos hk] at HC
       have e1:jE it.kind it.n=decide (it.n=1):=by unfold jE;rw [if_pos hk]
       rw [e1] at HC
       clear hk e1
       obtain ⟨L,hL⟩:∃L,L=decide (it.n=1):=⟨_,rfl⟩
       rw [← hL] at HC HX
       clear hL
       go_wp2_with fail
       refine HC.out.mono ?_
       clear HC
       rintro e w2 ⟨rfl,hb3⟩
       have HB3:=Lh (HB2.out.trans (hb3.mono HB2.out.size))
       have HP3:=Lh (HP.out.below HB3.out)
       clear hb3 HB2
       have d5:w2.cell? ⟨o,5,none⟩=some (.map (some m)):=qq HP3.out.obj rfl
       have hkey:Go.keyOf Tryz.prog 9 (.string y)=some (.string y.data.toList):=keyOf_string_mk Tryz.underlying9 (by unfold maxLen;omega)
       obtain ⟨D,n,hown,hn,hD⟩:=HP3.out.map
       obtain ⟨c,hat,hc0,hc1,hc2⟩:=hD.2 y
       obtain ⟨c',hrun,hat',_⟩:=hown.lookup_int xR Tryz.underlying150 Tryz.underlying3 (jN _) hkey
       rw [hat] at hat'
       simp only [DataW.lit.injEq,Lit.int.injEq,true_and] at hat'
       subst hat'
       have HD:=Lh (hD.cons y c hat)
       have HKY:=Lh hkey
       have HOW:=Lh hown
       clear hD hat hc2 hkey hown
       go_wp2_with (at_mapUpdate;refine wpList_mapUpdate_own _ rfl _ _ _ 150 rfl 9 3 xR Tryz.underlying150 _ m n D rfl HOW.out (by unfold maxLen;omega) _ _ _ rfl rfl HKY.out _ [] (plainElem_int Tryz.underlying3 (WalkArith.wf_i64 (by omega))) ?_)
       intro w3 hown3 hgrow3
       have HP4:=Lh (HP3.out.ask y hgrow3 hown3 (by omega) HD.out)
       have HT:=Lh (show Touch (fun b=>b=o∨b=m) w w3 from ⟨by rw [hgrow3.os,HB3.out.os],by rw [hgrow3.tape,HB3.out.tape],by rw [hgrow3.output,HB3.out.output],Nat.le_trans HB3.out.size hgrow3.size,fun k hk hs=>by rw [hgrow3.block k (Nat.lt_of_lt_of_le hk HB3.out.size) (fun e=>hs (.inr (Option.some.inj e))),HB3.out.block k hk]⟩)
       clear hgrow3 hown3
       rw [HE.out] at HP4
       go_wp2
       go_ret
       unfold wN
       rw [HX.out]
       exact ⟨rfl,HP4.out,HT.out⟩
     · have HX:=Lh (show qF v y st=(false,⟨st.asked,10⟩) by unfold qF;rw [if_neg (by simp [HE.out]),HL.out];simp [hk])
       rw [if_neg hk] at HC
       have e1:jE it.kind it.n=false:=by unfold jE;rw [if_neg hk]
       rw [e1] at HC
       clear hk e1
       go_wp2_with fail
       refine HC.out.mono ?_
       clear HC
       rintro e w2 ⟨rfl,hb3⟩
       have HB3:=Lh (HB2.out.trans (hb3.mono HB2.out.size))
       have HP3:=Lh (HP.out.below HB3.out)
       clear hb3 HB2
       have d6:w2.cell? ⟨o,6,none⟩=some (.int .i64 0):=(qq (j:=6) HP3.out.obj rfl).trans (by rw [HE.out];rfl)
       have d0:w2.cell? ⟨o,0,none⟩=some (.int .u8 5):=(qq (j:=0) HP3.out.obj rfl).trans (by rw [HP.out.kind];rfl)
       have d7:w2.frozen? ⟨o,6,none⟩=false:=by simp [World.frozen?,HP3.out.obj]
       go_wp2_with fail
       refine (zP o 10 _ d6 d0 d7).mono ?_
       clear d6 d0 d7
       rintro e w3 ⟨rfl,rfl⟩
       have HP4:=Lh (HP3.out.fail 10)
       have HT:=Lh (show Touch (fun b=>b=o∨b=m) w (w2.setCell ⟨o,6,none⟩ (.int .i64 10)) from (Touch.of_below HB3.out lz).setCell (.inl (.inl rfl)) _)
       go_wp2
       go_ret
       exact ye HX.out HP4.out HT.out
   · have HX:=Lh (show qF v y st=(false,⟨st.asked,6⟩) by unfold qF;rw [if_neg (by simp [HE.out]),show v.look y=none from xv _ _ _ hno])
     unfold zeroAgg
     have HB3:=Lh (show Below w.heap.size w (w1.alloc (.cells #[.int .u8 0,.int .i64 0,.string ⟨#[]⟩,.slice none 0 0,.slice none 0 0] 25)) from HB1.out.alloc HB1.out.size _)
     have HP3:=Lh (HP.out.below HB3.out)
     clear hno HB1
     have d6:(w1.alloc (.cells #[.int .u8 0,.int .i64 0,.string ⟨#[]⟩,.slice none 0 0,.slice none 0 0] 25)).cell? ⟨o,6,none⟩=some (.int .i64 0):=(qq (j:=6) HP3.out.obj rfl).trans (by rw [HE.out];rfl)
     have d0:(w1.alloc (.cells #[.int .u8 0,.int .i64 0,.string ⟨#[]⟩,.slice none 0 0,.slice none 0 0] 25)).cell? ⟨o,0,none⟩=some (.int .u8 5):=(qq (j:=0) HP3.out.obj rfl).trans (by rw [HP.out.kind];rfl)
     have d7:(w1.alloc (.cells #[.int .u8 0,.int .i64 0,.string ⟨#[]⟩,.slice none 0 0,.slice none 0 0] 25)).frozen? ⟨o,6,none⟩=false:=by simp [World.frozen?,HP3.out.obj]
     go_wp2_with fail
     refine (zP o 6 _ d6 d0 d7).mono ?_
     clear d6 d0 d7
     rintro e w3 ⟨rfl,rfl⟩
     have HP4:=Lh (HP3.out.fail 6)
     have HT:=Lh (show Touch (fun b=>b=o∨b=m) w ((w1.alloc (.cells #[.int .u8 0,.int .i64 0,.string ⟨#[]⟩,.slice none 0 0,.slice none 0 0] 25)).setCell ⟨o,6,none⟩ (.int .i64 6)) from (Touch.of_below HB3.out lz).setCell (.inl (.inl rfl)) _)
     go_wp2
     go_ret
     exact ye HX.out HP4.out HT.out
 · have he':(st.err == 0)=false:=by simpa using he
   have he2:(st.err != 0)=true:=by simpa using he
   have HX:=Lh (show qF v y st=(false,st) by unfold qF;rw [if_pos he])
   have HE:=Lh he
   clear he
   go_enter Tryz.func238,Tryz.ntmps238
   go_wp2_with fail
   refine (qN o st.err 5 w c6 c0 (fun _=>rfl)).mono ?_
   rintro r w' ⟨rfl,rfl⟩
   go_wp2
   go_ret
   exact ye HX.out HP.out (Touch.refl _ _)
set_option maxHeartbeats 1000000 in
set_option maxRecDepth 100000 in
theorem tS {o m lo hi:Nat} {v:JV} {an ai:Option Addr} {cn ci:Nat} {st:PS} {w:World} (y:ByteArray) (h:zV o m lo hi v an ai cn ci st w) (hy:y.size≤4294967296) (ha:st.asked.length≤4294967296) :
 Calls Tryz.prog 188 #[.pointer (some ⟨o,0,none⟩),.string y] w fun e w'=>e=.returned (.bool (qF v y st).1)∧vk o m lo hi v an ai cn ci (qF v y st).2 w w':=by
 have HT:=Lh (show Calls Tryz.prog 238 #[.pointer (some ⟨o,0,none⟩),.string y,.func (.func 239) #[] #[]] w (fun e w'=>e=.returned (.bool (qF v y st).1)∧vk o m lo hi v an ai cn ci (qF v y st).2 w w') by
  rcases h with h|⟨⟨h1,c6,k,c0⟩,h2,h3,h4⟩
  · refine (nt o m lo hi v an ai cn ci y st _ h hy ha).mono ?_
    rintro e w' ⟨e1,e3,e4⟩
    exact ⟨e1,.inl e3,e4⟩
  · have HPB:=Lh (show zV o m lo hi v an ai cn ci st w from .inr ⟨⟨h1,c6,k,c0⟩,h2,h3,h4⟩)
    have he':(st.err == 0)=false:=by simpa using h1
    have he2:(st.err != 0)=true:=by simpa using h1
    have HE:=Lh h1
    have HX:=Lh (show qF v y st=(false,st) by unfold qF;rw [if_pos h1])
    clear h1
    go_enter Tryz.func238,Tryz.ntmps238
    go_wp2_with fail
    refine (qN o st.err k w c6 c0 (fun h=>absurd h HE.out)).mono ?_
    rintro r w' ⟨rfl,h'⟩
    subst h'
    go_wp2
    go_ret
    rw [HX.out]
    exact ⟨rfl,HPB.out,Touch.refl _ _⟩)
 clear h
 obtain ⟨R,hR⟩:∃R,R=qF v y st:=⟨_,rfl⟩
 rw [← hR] at HT ⊢
 clear hR
 go_enter Tryz.func188,Tryz.ntmps188
 go_wp2_with fail
 refine HT.out.mono ?_
 rintro e w' ⟨rfl,h2⟩
 have H2:=Lh h2
 clear h2
 go_wp2
 go_ret
 exact ⟨rfl,H2.out⟩
def jG (it:JV) (most:Nat):List JV:=if qG it most=0 then it.items else []
theorem uQ {it:JV} {most:Nat} (e:qG it most=0):it.kind=4∧¬most<it.items.length:=by
 unfold qG at e
 by_cases h1:it.kind=4
 · by_cases h2:most<it.items.length
   · simp [h1,h2] at e
   · exact ⟨h1,h2⟩
 · simp [h1] at e
theorem uZ {it:JV} {a:List ByteArray} {most:Nat} {X:List JV × PS} (e:¬qG it most=0) :
 (if it.kind≠4 then ([],(⟨a,10⟩:PS)) else if most<it.items.length then ([],⟨a,5⟩) else X)=([],⟨a,qG it most⟩):=by
 unfold qG at e ⊢
 by_cases h1:it.kind=4
 · by_cases h2:most<it.items.length
   · simp [h1,h2]
   · simp [h1,h2] at e
 · simp [h1]
def ve (it:JV) (most lo:Nat) (w:World) (e:Ending) (w':World):Prop :=
 ∃a c,e=.returned (.tuple #[.slice a (jG it most).length c,.int .i64 (qG it most)])∧(jG it most).length≤c∧q6 w' lo w'.heap.size a (jG it most)∧Below w.heap.size w w'
set_option maxHeartbeats 1000000 in
set_option maxRecDepth 100000 in
theorem nQ (it:JV) (most p1:Nat) (an' ai':Option Addr) (cn' ci' lo:Nat) (w:World) (hR:Rep w lo w.heap.size it (.agg #[.int .u8 it.kind,.int .i64 it.n,.string it.t,.slice an' it.names.length cn',.slice ai' it.items.length ci'])) (c1:w.cell? ⟨p1,0,none⟩=some (.int .i64 most)) :
 Calls Tryz.prog 128 #[.agg #[.int .u8 it.kind,.int .i64 it.n,.string it.t,.slice an' it.names.length cn',.slice ai' it.items.length ci'],.pointer (some ⟨p1,0,none⟩)] w (ve it most lo w):=by
 have hci:it.items.length≤ci'∧q6 w lo w.heap.size ai' it.items:=by
  obtain ⟨an2,cn2,ai2,ci2,hx,h1,h2,h3,h4⟩:=hR.parts
  simp only [Value.agg.injEq,Array.mk.injEq,List.cons.injEq,Value.slice.injEq] at hx
  obtain ⟨-,-,-,-,⟨e1,-,e2⟩,-⟩:=hx
  rw [e1,e2]
  exact ⟨h2,h4⟩
 have hb:Below w.heap.size w (w.alloc (.cells #[.int .u8 it.kind,.int .i64 it.n,.string it.t,.slice an' it.names.length cn',.slice ai' it.items.length ci'] 25)):=(Below.refl _ _).alloc lz _
 have d1:(w.alloc (.cells #[.int .u8 it.kind,.int .i64 it.n,.string it.t,.slice an' it.names.length cn',.slice ai' it.items.length ci'] 25)).cell? ⟨p1,0,none⟩=some (.int .i64 most):=by rw [hb.cell (World.block_lt_of_cell? w _ c1)];exact c1
 have HPI:=Lh (fun w=>pB it most an' ai' cn' ci' w)
 have HB:=Lh hb
 have HCI:=Lh hci
 clear hR hb hci c1
 go_enter Tryz.func128,Tryz.ntmps128
 go_wp2_with fail
 refine (HPI.out _).mono ?_
 clear HPI
 rintro e w' ⟨rfl,hb2⟩
 have HB2:=Lh (HB.out.trans (hb2.mono HB.out.size))
 clear hb2 d1
 by_cases hk:qG it most=0
 · have HK:=Lh hk
   have HL:=Lh (show jG it most=it.items by unfold jG;rw [if_pos hk])
   rw [hk]
   simp only [if_true]
   clear hk
   go_wp2
   go_ret2
   unfold ve
   rw [HL.out,HK.out]
   exact ⟨ai',ci',rfl,HCI.out.1,HCI.out.2.below HB2.out lz lz HB2.out.size,HB2.out⟩
 · have HL:=Lh (show jG it most=[] by unfold jG;rw [if_neg hk])
   simp only [if_neg hk]
   clear hk
   go_wp2
   go_ret2
   unfold ve
   rw [HL.out]
   exact ⟨none,0,rfl,Nat.le_refl _,.inl rfl,HB2.out⟩
def vQ (o m lo hi:Nat) (v:JV) (an ai:Option Addr) (cn ci:Nat) (y:ByteArray) (most:Nat) (st:PS) (w:World) (e:Ending) (w':World):Prop :=
 (∃a c,e=.returned (.slice a (qX v y most st).1.length c)∧(qX v y most st).1.length≤c∧q6 w' w.heap.size w'.heap.size a (qX v y most st).1)∧PickAt o m lo hi v an ai cn ci (qX v y most st).2 w'∧Touch (fun b=>b=o∨b=m) w w'
theorem yQ {o m lo hi:Nat} {v:JV} {an ai:Option Addr} {cn ci:Nat} {y:ByteArray} {most:Nat} {st st':PS} {w w':World} (h:qX v y most st=([],st')) (hP:PickAt o m lo hi v an ai cn ci st' w') (hT:Touch (fun b=>b=o∨b=m) w w'):vQ o m lo hi v an ai cn ci y most st w (.returned (.slice none 0 0)) w':=by
 unfold vQ
 rw [h]
 exact ⟨⟨none,0,rfl,Nat.le_refl _,.inl rfl⟩,hP,hT⟩
set_option maxHeartbeats 2000000 in
set_option maxRecDepth 100000 in
theorem nZ (o m lo hi:Nat) (v:JV) (an ai:Option Addr) (cn ci:Nat) (y:ByteArray) (most:Nat) (st:PS) (w:World) (hP:PickAt o m lo hi v an ai cn ci st w) (hy:y.size≤4294967296) (ha:st.asked.length≤4294967296) (p1:Nat) (g1:w.heap[p1]?=some (.cells #[.int .i64 most] 3 (0,0))) :
 Calls Tryz.prog 127 #[.pointer (some ⟨o,0,none⟩),.string y,.func (.func 128) #[] #[.pointer (some ⟨p1,0,none⟩)]] w (vQ o m lo hi v an ai cn ci y most st w):=by
 have HP:=Lh hP
 have HG1:=Lh g1
 clear hP g1
 have c6:w.cell? ⟨o,6,none⟩=some (.int .i64 st.err):=qq HP.out.obj rfl
 have c0:w.cell? ⟨o,0,none⟩=some (.int .u8 5):=(qq (j:=0) HP.out.obj rfl).trans (by rw [HP.out.kind];rfl)
 by_cases he:st.err=0
 · rw [he] at c6
   have HE:=Lh he
   clear he
   have c1:w.cell? ⟨o,1,none⟩=some (.int .i64 v.n):=qq HP.out.obj rfl
   have c2:w.cell? ⟨o,2,none⟩=some (.string v.t):=qq HP.out.obj rfl
   have c3:w.cell? ⟨o,3,none⟩=some (.slice an v.names.length cn):=qq HP.out.obj rfl
   have c4:w.cell? ⟨o,4,none⟩=some (.slice ai v.items.length ci):=qq HP.out.obj rfl
   have HR:=Lh HP.out.rep
   rw [HP.out.kind] at HR
   have HG:=Lh (je v y _ w lo hi HP.out.wt HP.out.pos HP.out.le HR.out HP.out.kind HP.out.rise HP.out.len)
   go_enter Tryz.func127,Tryz.ntmps127
   go_wp2_with fail
   refine (qN o 0 5 w c6 c0 (fun _=>rfl)).mono ?_
   rintro r w' ⟨rfl,rfl⟩
   go_wp2_with fail
   refine HG.out.mono ?_
   clear HG c0 c1 c2 c3 c4 c6
   rintro e w1 ⟨hh,hb1⟩
   have HB1:=Lh hb1
   clear hb1
   rcases hh with ⟨r,hr1,hr2,hre,an',cn',ai',ci',rfl,hrep⟩|⟨hno,rfl⟩
   · have HL:=Lh (xL HP.out.rise r hr1 hr2 hre)
     have HREP:=Lh hrep
     clear hre hrep
     generalize v.items[r]=it at *
     have hb2:Below w.heap.size w (w1.alloc (.cells #[.int .u8 it.kind,.int .i64 it.n,.string it.t,.slice an' it.names.length cn',.slice ai' it.items.length ci'] 25)):=HB1.out.alloc HB1.out.size _
     have HB2:=Lh hb2
     have HC:=Lh (nQ it most p1 an' ai' cn' ci' w.heap.size (w1.alloc (.cells #[.int .u8 it.kind,.int .i64 it.n,.string it.t,.slice an' it.names.length cn',.slice ai' it.items.length ci'] 25)) (Rep.below HREP.out ((Below.refl _ _).alloc lz _) lz lz (by simp)) (qq ((hb2.block _ (qx HG1.out)).trans HG1.out) rfl))
     clear hb2
     unfold ve at HC
     by_cases hk:qG it most=0
     · have HX:=Lh (show qX v y most st=(it.items,⟨y :: st.asked,0⟩) by unfold qX;rw [if_neg (by simp [HE.out]),HL.out];obtain ⟨q1,q2⟩:=uQ hk;simp only;rw [if_neg (by simp [q1]),if_neg q2])
       rw [show jG it most=it.items by unfold jG;rw [if_pos hk],hk] at HC
       clear hk
       go_wp2_with fail
       refine HC.out.mono ?_
       clear HC
       rintro e w2 ⟨al,cl,rfl,hcl,hsl,hb3⟩
       have HB3:=Lh (HB2.out.trans (hb3.mono HB2.out.size))
       have HP3:=Lh (HP.out.below HB3.out)
       have HSL:=Lh hsl
       have HCL:=Lh hcl
       have HZL:=Lh (show w.heap.size<(w1.alloc (.cells #[.int .u8 it.kind,.int .i64 it.n,.string it.t,.slice an' it.names.length cn',.slice ai' it.items.length ci'] 25)).heap.size from by have:=HB1.out.size;simp;omega)
       have HMZ:=Lh (show m<w.heap.size from by obtain ⟨D,n,h,_⟩:=HP.out.map;exact h.lt)
       clear hb3 HB2 hsl hcl
       have d5:w2.cell? ⟨o,5,none⟩=some (.map (some m)):=qq HP3.out.obj rfl
       have hkey:Go.keyOf Tryz.prog 9 (.string y)=some (.string y.data.toList):=keyOf_string_mk Tryz.underlying9 (by unfold maxLen;omega)
       obtain ⟨D,n,hown,hn,hD⟩:=HP3.out.map
       obtain ⟨c,hat,hc0,hc1,hc2⟩:=hD.2 y
       obtain ⟨c',hrun,hat',_⟩:=hown.lookup_int xR Tryz.underlying150 Tryz.underlying3 (jN _) hkey
       rw [hat] at hat'
       simp only [DataW.lit.injEq,Lit.int.injEq,true_and] at hat'
       subst hat'
       have HD:=Lh (hD.cons y c hat)
       have HKY:=Lh hkey
       have HOW:=Lh hown
       clear hD hat hc2 hkey hown
       go_wp2_with (at_mapUpdate;refine wpList_mapUpdate_own _ rfl _ _ _ 150 rfl 9 3 xR Tryz.underlying150 _ m n D rfl HOW.out (by unfold maxLen;omega) _ _ _ rfl rfl HKY.out _ [] (plainElem_int Tryz.underlying3 (WalkArith.wf_i64 (by omega))) ?_)
       intro w3 hown3 hgrow3
       have HP4:=Lh (HP3.out.ask y hgrow3 hown3 (by omega) HD.out)
       have HT:=Lh (show Touch (fun b=>b=o∨b=m) w w3 from ⟨by rw [hgrow3.os,HB3.out.os],by rw [hgrow3.tape,HB3.out.tape],by rw [hgrow3.output,HB3.out.output],Nat.le_trans HB3.out.size hgrow3.size,fun k hk hs=>by rw [hgrow3.block k (Nat.lt_of_lt_of_le hk HB3.out.size) (fun e=>hs (.inr (Option.some.inj e))),HB3.out.block k hk]⟩)
       have HS3:=Lh (show q6 w3 w.heap.size w3.heap.size al it.items from HSL.out.carry lz hgrow3.size fun b h1 h2=>hgrow3.block b h2 (fun e=>by have:=Option.some.inj e;have:=HZL.out;have:=HMZ.out;omega))
       clear hgrow3 hown3
       rw [HE.out] at HP4
       go_wp2
       go_ret
       unfold vQ
       rw [HX.out]
       exact ⟨⟨al,cl,rfl,HCL.out,HS3.out⟩,HP4.out,HT.out⟩
     · have HX:=Lh (show qX v y most st=([],⟨st.asked,qG it most⟩) by unfold qX;rw [if_neg (by simp [HE.out]),HL.out];exact uZ hk)
       rw [show jG it most=[] by unfold jG;rw [if_neg hk]] at HC
       obtain ⟨er,her⟩:∃er,er=qG it most:=⟨_,rfl⟩
       rw [← her] at HC HX hk
       have hk':(er != 0)=true:=by simpa using hk
       have hk2:(er == 0)=false:=by simpa using hk
       clear hk her
       go_wp2_with fail
       refine HC.out.mono ?_
       clear HC
       rintro e w2 ⟨al,cl,rfl,-,-,hb3⟩
       have HB3:=Lh (HB2.out.trans (hb3.mono HB2.out.size))
       have HP3:=Lh (HP.out.below HB3.out)
       clear hb3 HB2
       have d6:w2.cell? ⟨o,6,none⟩=some (.int .i64 0):=(qq (j:=6) HP3.out.obj rfl).trans (by rw [HE.out];rfl)
       have d0:w2.cell? ⟨o,0,none⟩=some (.int .u8 5):=(qq (j:=0) HP3.out.obj rfl).trans (by rw [HP.out.kind];rfl)
       have d7:w2.frozen? ⟨o,6,none⟩=false:=by simp [World.frozen?,HP3.out.obj]
       go_wp2_with fail
       refine (zP o er _ d6 d0 d7).mono ?_
       clear d6 d0 d7
       rintro e w3 ⟨rfl,rfl⟩
       have HP4:=Lh (HP3.out.fail er)
       have HT:=Lh (show Touch (fun b=>b=o∨b=m) w (w2.setCell ⟨o,6,none⟩ (.int .i64 er)) from (Touch.of_below HB3.out lz).setCell (.inl (.inl rfl)) _)
       go_wp2
       go_ret
       exact yQ HX.out HP4.out HT.out
   · have HX:=Lh (show qX v y most st=([],⟨st.asked,6⟩) by unfold qX;rw [if_neg (by simp [HE.out]),show v.look y=none from xv _ _ _ hno])
     unfold zeroAgg
     have HB3:=Lh (show Below w.heap.size w (w1.alloc (.cells #[.int .u8 0,.int .i64 0,.string ⟨#[]⟩,.slice none 0 0,.slice none 0 0] 25)) from HB1.out.alloc HB1.out.size _)
     have HP3:=Lh (HP.out.below HB3.out)
     clear hno HB1
     have d6:(w1.alloc (.cells #[.int .u8 0,.int .i64 0,.string ⟨#[]⟩,.slice none 0 0,.slice none 0 0] 25)).cell? ⟨o,6,none⟩=some (.int .i64 0):=(qq (j:=6) HP3.out.obj rfl).trans (by rw [HE.out];rfl)
     have d0:(w1.alloc (.cells #[.int .u8 0,.int .i64 0,.string ⟨#[]⟩,.slice none 0 0,.slice none 0 0] 25)).cell? ⟨o,0,none⟩=some (.int .u8 5):=(qq (j:=0) HP3.out.obj rfl).trans (by rw [HP.out.kind];rfl)
     have d7:(w1.alloc (.cells #[.int .u8 0,.int .i64 0,.string ⟨#[]⟩,.slice none 0 0,.slice none 0 0] 25)).frozen? ⟨o,6,none⟩=false:=by simp [World.frozen?,HP3.out.obj]
     go_wp2_with fail
     refine (zP o 6 _ d6 d0 d7).mono ?_
     clear d6 d0 d7
     rintro e w3 ⟨rfl,rfl⟩
     have HP4:=Lh (HP3.out.fail 6)
     have HT:=Lh (show Touch (fun b=>b=o∨b=m) w ((w1.alloc (.cells #[.int .u8 0,.int .i64 0,.string ⟨#[]⟩,.slice none 0 0,.slice none 0 0] 25)).setCell ⟨o,6,none⟩ (.int .i64 6)) from (Touch.of_below HB3.out lz).setCell (.inl (.inl rfl)) _)
     go_wp2
     go_ret
     exact yQ HX.out HP4.out HT.out
 · have he':(st.err == 0)=false:=by simpa using he
   have he2:(st.err != 0)=true:=by simpa using he
   have HX:=Lh (show qX v y most st=([],st) by unfold qX;rw [if_pos he])
   have HE:=Lh he
   clear he
   go_enter Tryz.func127,Tryz.ntmps127
   go_wp2_with fail
   refine (qN o st.err 5 w c6 c0 (fun _=>rfl)).mono ?_
   rintro r w' ⟨rfl,rfl⟩
   go_wp2
   go_ret
   exact yQ HX.out HP.out (Touch.refl _ _)
set_option maxHeartbeats 1000000 in
set_option maxRecDepth 100000 in
theorem tA {o m lo hi:Nat} {v:JV} {an ai:Option Addr} {cn ci:Nat} {st:PS} {w:World} (y:ByteArray) (most:Nat) (h:zV o m lo hi v an ai cn ci st w) (hy:y.size≤4294967296) (ha:st.asked.length≤4294967296) :
 Calls Tryz.prog 67 #[.pointer (some ⟨o,0,none⟩),.string y,.int .i64 most] w fun e w'=>(∃a c,e=.returned (.slice a (qX v y most st).1.length c)∧(qX v y most st).1.length≤c∧q6 w' w.heap.size w'.heap.size a (qX v y most st).1)∧vk o m lo hi v an ai cn ci (qX v y most st).2 w w':=by
 have hb:Below w.heap.size w (w.alloc (.cells #[.int .i64 most] 3)):=(Below.refl _ _).alloc lz _
 have HT:=Lh (show Calls Tryz.prog 127 #[.pointer (some ⟨o,0,none⟩),.string y,.func (.func 128) #[] #[.pointer (some ⟨w.heap.size,0,none⟩)]] (w.alloc (.cells #[.int .i64 most] 3)) (fun e w'=>(∃a c,e=.returned (.slice a (qX v y most st).1.length c)∧(qX v y most st).1.length≤c∧q6 w' w.heap.size w'.heap.size a (qX v y most st).1)∧vk o m lo hi v an ai cn ci (qX v y most st).2 w w') by
  have hT0:Touch (fun b=>b=o∨b=m) w (w.alloc (.cells #[.int .i64 most] 3)):=Touch.of_below hb lz
  rcases h with h|⟨⟨h1,c6,k,c0⟩,h2,h3,h4⟩
  · refine (nZ o m lo hi v an ai cn ci y most st _ (h.below hb) hy ha w.heap.size (heap_alloc_new w _)).mono ?_
    rintro e w' ⟨⟨a,c,e1,ec,e2⟩,e3,e4⟩
    exact ⟨⟨a,c,e1,ec,e2.carry hb.size lz (fun _ _ _=>rfl)⟩,.inl e3,hT0.trans (e4.mono fun _ _ h=>h)⟩
  · obtain ⟨W2,hW2⟩:∃W2,W2=w.alloc (.cells #[.int .i64 most] 3):=⟨_,rfl⟩
    rw [← hW2] at hb hT0 ⊢
    have HPB:=Lh (show zV o m lo hi v an ai cn ci st W2 from (zV.below (.inr ⟨⟨h1,c6,k,c0⟩,h2,h3,h4⟩) hb))
    have e6:W2.cell? ⟨o,6,none⟩=some (.int .i64 st.err):=by rw [hb.cell h2];exact c6
    have e0:W2.cell? ⟨o,0,none⟩=some (.int .u8 k):=by rw [hb.cell h2];exact c0
    have he':(st.err == 0)=false:=by simpa using h1
    have he2:(st.err != 0)=true:=by simpa using h1
    have HE:=Lh h1
    have HT0:=Lh hT0
    have HX:=Lh (show qX v y most st=([],st) by unfold qX;rw [if_pos h1])
    clear h1 c6 c0 hW2 hb hT0
    go_enter Tryz.func127,Tryz.ntmps127
    go_wp2_with fail
    refine (qN o st.err k W2 e6 e0 (fun h=>absurd h HE.out)).mono ?_
    rintro r w' ⟨rfl,h'⟩
    subst h'
    go_wp2
    go_ret
    rw [HX.out]
    exact ⟨⟨none,0,rfl,Nat.le_refl _,.inl rfl⟩,HPB.out,HT0.out⟩)
 clear h hb
 obtain ⟨R,hR⟩:∃R,R=qX v y most st:=⟨_,rfl⟩
 rw [← hR] at HT ⊢
 clear hR
 go_enter Tryz.func67,Tryz.ntmps67
 go_wp2_with fail
 refine HT.out.mono ?_
 rintro e w' ⟨⟨a,c,rfl,hc,h1⟩,h2⟩
 have HCC:=Lh hc
 clear hc
 have H1:=Lh h1
 have H2:=Lh h2
 clear h1 h2
 go_wp2
 go_ret
 exact ⟨⟨a,c,rfl,HCC.out,H1.out⟩,H2.out⟩
end Go.Proofs.YthgembbgcbaghaaGreatDoor

namespace Go.Proofs.YthgembbgcbaghaaGreatDoor
open Go.RowKit
structure DelegC where
 x:DelegV
 ia:Option Addr
 ic:Nat
 pa:Option Addr
 pc:Nat
 qa:Option Addr
 qc:Nat
def s9 (q:DelegC):List Value:=[.string q.x.name,.int .i64 q.x.au.thr,.slice q.ia q.x.au.ids.length q.ic,.bool q.x.term,.slice q.pa q.x.paths.length q.pc,.slice q.qa q.x.pres.length q.qc]
theorem nX (q:DelegC):(s9 q).length=6:=rfl
def delP (w:World) (lo hi:Nat) (q:DelegC):Prop:=q.x.au.ids.length≤q.ic∧q.x.paths.length≤q.pc∧q.x.pres.length≤q.qc∧DelegIn w lo hi q.x q.ia q.pa q.qa
theorem wy:yr delP:=fun _ _ _ _ _ hs h=>⟨h.1,h.2.1,h.2.2.1,h.2.2.2.carry lz lz hs⟩
def jh (T B:Nat) (w:World) (vs:Value) (qs:List DelegC):Prop:=ItemsOwn T 6 B s9 delP w vs qs
theorem jh.row {T B:Nat} {w:World} {v:Value} {qs:List DelegC} {l:List DelegV} (h:jh T B w v qs) (hl:qs.map (·.x)=l):∃a c,v=.slice a l.length c∧l.length≤c∧qI w B w.heap.size a l:=by
 have ho:=ItemsOwn.own h
 have hv:∃a n c,v=.slice a n c:=by
  rcases ho.2 with ⟨rfl,_⟩|⟨g,cap,cur,rfl,_⟩
  · exact ⟨_,_,_,rfl⟩
  · exact ⟨_,_,_,rfl⟩
 obtain ⟨a,n,c,rfl⟩:=hv
 obtain ⟨h1,h2,h3⟩:=ItemsOwn.cells nX h
 subst hl
 subst h1
 rw [List.length_map]
 refine ⟨a,c,rfl,h2,?_⟩
 rcases h3 with h3|⟨g,rfl,hg,hlt,hf,hc⟩
 · exact .inl (by rw [h3];rfl)
 · refine .inr ⟨g,0,rfl,hg,hlt,fun i hi=>?_⟩
   have hi2:i<qs.length:=by simpa using hi
   obtain ⟨lo,hi',k1,k2,k3,k4,k5,k6,k7⟩:=ItemsOwn.each h qs[i] (List.getElem_mem hi2)
   have e:(qs.map (·.x))[i]=qs[i].x:=List.getElem_map ..
   rw [e]
   have cc:=fun q (hq:q<6)=>hc i hi2 q hq
   simp only [Nat.zero_add]
   exact ⟨qs[i].ia,qs[i].ic,qs[i].pa,qs[i].pc,qs[i].qa,qs[i].qc,cc 0 (by decide),cc 1 (by decide),cc 2 (by decide),cc 3 (by decide),cc 4 (by decide),cc 5 (by decide),k4,k5,k6,k7.carry k1 k2 (fun _ _ _=>rfl)⟩
def aq:ByteArray:=⟨#[120,47,42]⟩
def kM:ByteArray:=⟨#[120,47,121]⟩
def pxN:ByteArray:=⟨#[120]⟩
def ir:ByteArray:=⟨#[47,120]⟩
def pzN:ByteArray:=⟨#[122]⟩
def pcN:ByteArray:=⟨#[99]⟩
def ko (n p:ByteArray) (last:Bool):DelegV:=⟨n,tv 97,last,[p],[]⟩
def exD:DelegsV:=⟨[],[ko raN aq false,ko bbN r8 true,ko pcN kM false],binsZ⟩
def exE:DelegsV:=⟨[],[ko pcN kM true,ko raN aq false],binsZ⟩
def exBin:DelegsV:=⟨[],[],⟨2,ppN,tv 97⟩⟩
theorem gu:qV exD=true∧qV exE=true∧qV exBin=true:=by
 rw [q7,q7,q7]
 decide +kernel
theorem nJ:(jW runes kM exD.roles).map (·.name)=[raN,pcN]∧(jW runes pzN exD.roles).map (·.name)=[bbN]∧(jW runes kM exE.roles).map (·.name)=[pcN]:=by decide +kernel
theorem nK:qU kM=true∧qU pzN=true∧qU pxN=true∧qU ir=false:=by decide +kernel
theorem vZ:(zT runes exD kM).map (·.name)=[raN,pcN]∧(zT runes exD pzN).map (·.name)=[bbN]∧(zT runes exE kM).map (·.name)=[pcN]∧(zT runes exBin kM).map (·.name)=[qT ppN 2 (jD kM 2)]:=by
 obtain ⟨m1,m2,m3⟩:=gu
 obtain ⟨p1,p2,p3,p4⟩:=nK
 obtain ⟨g1,g2,g3⟩:=nJ
 unfold zT
 rw [m1,m2,m3,p1,p2]
 exact ⟨g1,g2,g3,rfl⟩
def dx (bits b0 n:Nat):Bool:=decide (((qM bits n).any fun q=>q.data.toList.isPrefixOf [qB (b0 / 16),qB (b0 % 16)])=decide (n=b0 / 2 ^ (8 - bits)))
theorem uX:∀bits ∈ [1,2,3,4,5,6],∀n ∈ List.range (2 ^ bits),∀b0 ∈ List.range 256,dx bits b0 n=true:=by decide +kernel
theorem bo {bits:Nat} (h1:1≤bits) (h6:bits≤6):1≤xr bits∧xr bits≤2∧bits≤4 * xr bits∧2 ^ (4 * xr bits - bits)≤8:=by
 have:bits=1∨bits=2∨bits=3∨bits=4∨bits=5∨bits=6:=by omega
 rcases this with rfl|rfl|rfl|rfl|rfl|rfl <;> decide
theorem yE {bits n:Nat} {q:ByteArray} (h:q ∈ qM bits n):q.data.toList.length=xr bits∧xd q.data.toList=true:=by
 unfold qM at h
 obtain ⟨i,-,rfl⟩:=List.mem_map.1 h
 exact ⟨zA _ _,bj _ _⟩
theorem vv (bits n:Nat):(qM bits n).length=2 ^ (4 * xr bits - bits):=by
 unfold qM
 rw [List.length_map,List.length_range]
theorem bQ {bits n:Nat} (h1:1≤bits) (h6:bits≤6):qM bits n≠[]∧(qM bits n).length≤32∧(qM bits n).all preB=true:=by
 obtain ⟨w1,w2,w3,w4⟩:=bo h1 h6
 refine ⟨fun h=>?_,?_,List.all_eq_true.2 fun q hq=>?_⟩
 · have:=vv bits n
   rw [h] at this
   have:=Nat.two_pow_pos (4 * xr bits - bits)
   simp at *
   omega
 · rw [vv];omega
 · obtain ⟨a,b⟩:=yE hq
   unfold preB
   rw [b,decide_eq_true (by rw [← ByteArray.size_data,← Array.length_toList,a];omega)]
   rfl
theorem kC (pre:ByteArray) (bits n:Nat):(qT pre bits n).data.toList=pre.data.toList ++ 45 :: xA (xr bits) n:=by
 unfold qT r9
 simp
theorem nV {c:UInt8} (h:xn c=true):jq c=true:=by
 unfold xn at h
 rw [decide_eq_true_eq] at h
 refine jm ?_
 omega
theorem cz {b:BinsV} (h:qS b=true) (n:Nat):q9 (qT b.pre b.bits.toNat n).data.toList=true∧wF (qT b.pre b.bits.toNat n)=false:=by
 obtain ⟨h1,h2,h3,h4⟩:=zn h
 have hlen:b.pre.size+1+xr b.bits.toNat≤64:=by
  unfold qS at h
  simp only [Bool.and_eq_true,decide_eq_true_eq] at h
  have h0:=h.1.1
  unfold zm at h0
  rw [if_neg (by omega),if_neg (by rw [h2];decide)] at h0
  split at h0
  · omega
  · unfold xr;omega
 have hl:=kC b.pre b.bits.toNat n
 constructor
 · unfold q9 at h2 ⊢
   simp only [Bool.and_eq_true,decide_eq_true_eq,Bool.not_eq_true'] at h2 ⊢
   rw [hl]
   obtain ⟨⟨a1,a2⟩,a3⟩:=h2
   refine ⟨⟨?_,?_⟩,?_⟩
   · rw [List.length_append,List.length_cons,zA,Array.length_toList,ByteArray.size_data]
     omega
   · cases hp:b.pre.data.toList with
     | nil=>rw [hp] at a1;simp at a1
     | cons c r=>rw [hp] at a2;exact a2
   · rw [List.all_append,a3,List.all_cons]
     have:(xA (xr b.bits.toNat) n).all jq=true:=List.all_eq_true.2 fun c hc=>nV (List.all_eq_true.1 (bj _ _) c hc)
     rw [this]
     decide
 · unfold wF
   refine decide_eq_false fun hc=>?_
   have hm:(45:UInt8) ∈ (qT b.pre b.bits.toNat n).data.toList:=by rw [hl];simp
   rcases hc with hc|hc|hc <;> rw [hc] at hm <;> revert hm <;> decide
theorem uJ {pre:ByteArray} {bits a b:Nat} (ha:a<16 ^ xr bits) (hb:b<16 ^ xr bits) (h:qT pre bits a=qT pre bits b):a=b:=by
 have h:=congrArg (fun x:ByteArray=>x.data.toList) h
 rw [kC,kC] at h
 exact ud _ a b ha hb (List.cons.inj (List.append_cancel_left h)).2
theorem bZ {b:BinsV} (h:qS b=true) (h6:b.bits≤6) (n:Nat):qi (yi b n)=true:=by
 obtain ⟨h1,h2,h3,h4⟩:=zn h
 obtain ⟨r1,r2⟩:=cz h n
 obtain ⟨p1,p2,p3⟩:=bQ (bits:=b.bits.toNat) (n:=n) (by omega) (by omega)
 unfold qi yi
 rw [r1,r2,h3,if_neg (by simp),decide_eq_true p2,p3]
 have:(qM b.bits.toNat n).isEmpty=false:=by simpa [List.isEmpty_eq_false_iff] using p1
 rw [this]
 rfl
theorem vL {f:Nat→DelegV}:∀l:List Nat,l.Nodup→(∀a ∈ l,∀b ∈ l,(f a).name=(f b).name→a=b)→zt (l.map f)=true
 | [],_,_=>rfl
 | x :: r,hn,hi=>by
  rw [List.map_cons,zt,vL r (List.nodup_cons.1 hn).2 fun a ha b hb=>hi a (List.mem_cons_of_mem _ ha) b (List.mem_cons_of_mem _ hb),Bool.and_true]
  rw [Bool.not_eq_true',List.any_eq_false]
  intro y hy
  obtain ⟨k,hk,rfl⟩:=List.mem_map.1 hy
  simp only [decide_eq_true_eq]
  intro he
  have:=hi k (List.mem_cons_of_mem _ hk) x List.mem_cons_self he
  rw [this] at hk
  exact (List.nodup_cons.1 hn).1 hk
theorem bX {keys:List Key2} {b:BinsV} (h:qV ⟨keys,[],b⟩=true) (hb:qD b=false) (h6:b.bits≤6):qV ⟨keys,zc b,binsZ⟩=true:=by
 rw [q7] at h ⊢
 unfold zo at h ⊢
 dsimp only at h ⊢
 rw [hb] at h
 simp only [Bool.false_eq_true,if_false,Bool.and_eq_true] at h
 obtain ⟨hk,-,hm⟩:=h
 obtain ⟨h1,h2,h3,h4⟩:=zn hm
 obtain ⟨w1,w2,w3,w4⟩:=bo (bits:=b.bits.toNat) (by omega) (by omega)
 have hp:2 ^ b.bits.toNat≤2 ^ 6:=Nat.pow_le_pow_right (by decide) (by omega)
 have hp2:2 ^ b.bits.toNat≤16 ^ xr b.bits.toNat:=by
  rw [show (16:Nat)=2 ^ 4 from rfl,← Nat.pow_mul]
  exact Nat.pow_le_pow_right (by decide) w3
 have e1:(zc b).length≤64:=by
  unfold zc
  rw [List.length_map,List.length_range]
  omega
 have e2:(zc b).all qi=true:=List.all_eq_true.2 fun x hx=>by
  unfold zc at hx
  obtain ⟨n,-,rfl⟩:=List.mem_map.1 hx
  exact bZ hm h6 n
 have e3:zt (zc b)=true:=vL _ List.nodup_range fun a ha c hc he=>uJ (Nat.lt_of_lt_of_le (List.mem_range.1 ha) hp2) (Nat.lt_of_lt_of_le (List.mem_range.1 hc) hp2) he
 rw [hk,show qD binsZ=true from by decide,if_pos rfl,decide_eq_true e1,e2,e3]
 rfl
theorem cx {q:List UInt8} {a c:UInt8} {r:List UInt8} (h:q.length≤2):q.isPrefixOf (a :: c :: r)=q.isPrefixOf [a,c]:=by
 match q with
 | []=>rfl
 | [x]=>simp [List.isPrefixOf]
 | [x,y]=>simp [List.isPrefixOf]
 | x :: y :: z :: t=>simp at h
theorem nW {path:ByteArray} {bits:Nat} (h1:1≤bits) (h6:bits≤6):jD path bits=((qO path.data.toList).getD 0 0).toNat / 2 ^ (8 - bits):=by
 unfold jD ul
 have g1:=((qO path.data.toList).getD 1 0).toNat_lt
 have g2:=((qO path.data.toList).getD 2 0).toNat_lt
 have g3:=((qO path.data.toList).getD 3 0).toNat_lt
 generalize ((qO path.data.toList).getD 0 0).toNat=b0 at *
 generalize ((qO path.data.toList).getD 1 0).toNat=b1 at *
 generalize ((qO path.data.toList).getD 2 0).toNat=b2 at *
 generalize ((qO path.data.toList).getD 3 0).toNat=b3 at *
 have:bits=1∨bits=2∨bits=3∨bits=4∨bits=5∨bits=6:=by omega
 rcases this with rfl|rfl|rfl|rfl|rfl|rfl <;> simp only [Nat.reducePow,Nat.reduceSub] <;> omega
theorem fc {path:ByteArray} {bits n:Nat} (h1:1≤bits) (h6:bits≤6) (hn:n<2 ^ bits):z7 (qM bits n) path=decide (n=jD path bits):=by
 obtain ⟨w1,w2,w3,w4⟩:=bo h1 h6
 rw [nW h1 h6]
 obtain ⟨b0,hb⟩:∃b0 r,qO path.data.toList=b0 :: r:=by
  have:=xt path.data.toList
  cases e:qO path.data.toList with
  | nil=>rw [e] at this;simp at this
  | cons a r=>exact ⟨a,r,rfl⟩
 obtain ⟨r,hb⟩:=hb
 have hd:(lj path).data.toList=qB (b0.toNat / 16) :: qB (b0.toNat % 16) :: xw r:=by
  show jJ path.data.toList=_
  unfold jJ
  rw [hb]
  rfl
 have ht:=uX bits (by simp;omega) n (List.mem_range.2 hn) b0.toNat (List.mem_range.2 b0.toNat_lt)
 unfold dx at ht
 rw [decide_eq_true_eq] at ht
 rw [hb,List.getD_cons_zero,← ht]
 unfold z7
 refine Bool.eq_iff_iff.mpr ?_
 rw [List.any_eq_true,List.any_eq_true]
 have hq:∀q ∈ qM bits n,(preB q && bk q (lj path))=q.data.toList.isPrefixOf [qB (b0.toNat / 16),qB (b0.toNat % 16)]:=fun q hq=>by
  rw [List.all_eq_true.1 (bQ h1 h6).2.2 q hq,Bool.true_and]
  unfold bk
  rw [hd,cx (by rw [(yE hq).1];omega)]
 exact ⟨fun ⟨q,m,e⟩=>⟨q,m,by rw [← hq q m];exact e⟩,fun ⟨q,m,e⟩=>⟨q,m,by rw [hq q m];exact e⟩⟩
theorem lu {runes:ByteArray→List Int} {b:BinsV} {path:ByteArray} {n:Nat} (h:qS b=true) (h6:b.bits≤6) (hp:qU path=true) (hn:n<2 ^ b.bits.toNat):isD runes (yi b n) path=decide (n=jD path b.bits.toNat):=by
 obtain ⟨h1,-⟩:=zn h
 unfold isD
 rw [bZ h h6,hp,if_neg (by simp [yi]),Bool.and_true,Bool.true_and]
 exact fc (by omega) (by omega) hn
theorem uK {runes:ByteArray→List Int} {path:ByteArray} {f:Nat→DelegV} {m:Nat} (ht:∀n,(f n).term=true):∀l:List Nat,l.Nodup→m ∈ l→(∀n ∈ l,isD runes (f n) path=decide (n=m))→jW runes path (l.map f)=[mO (f m)]
 | [],_,hm,_=>absurd hm List.not_mem_nil
 | x :: r,hn,hm,hi=>by
  rw [List.map_cons,jW,hi x List.mem_cons_self]
  by_cases he:x=m
  · rw [decide_eq_true he,if_pos rfl,ht,if_pos rfl,he]
  · rw [decide_eq_false he,if_neg (by decide)]
    exact uK ht r (List.nodup_cons.1 hn).2 ((List.mem_cons.1 hm).resolve_left fun h=>he h.symm) fun n h=>hi n (List.mem_cons_of_mem _ h)
theorem lm {runes:ByteArray→List Int} {keys:List Key2} {b:BinsV} {path:ByteArray} (h:qV ⟨keys,[],b⟩=true) (hb:qD b=false) (hp:qU path=true):zT runes ⟨keys,[],b⟩ path=[⟨qT b.pre b.bits.toNat (jD path b.bits.toNat),b.au,true⟩]:=by
 unfold zT
 rw [h,hp]
 dsimp only
 rw [hb]
 rfl
theorem nY {runes:ByteArray→List Int} {keys:List Key2} {b:BinsV} {path:ByteArray} (h:qV ⟨keys,[],b⟩=true) (hb:qD b=false) (h6:b.bits≤6) (hp:qU path=true):zT runes ⟨keys,zc b,binsZ⟩ path=[⟨qT b.pre b.bits.toNat (jD path b.bits.toNat),b.au,true⟩]:=by
 have h2:=bX h hb h6
 rw [q7] at h
 unfold zo at h
 dsimp only at h
 rw [hb] at h
 simp only [Bool.false_eq_true,if_false,Bool.and_eq_true] at h
 obtain ⟨hk,-,hm⟩:=h
 obtain ⟨h1,-⟩:=zn hm
 unfold zT
 rw [h2,hp]
 dsimp only
 rw [show qD binsZ=true from by decide,Bool.and_true,if_pos rfl,if_pos rfl]
 exact uK (f:=yi b) (m:=jD path b.bits.toNat) (fun _=>rfl) _ List.nodup_range (List.mem_range.2 (cT (by omega))) fun n hn=>lu hm h6 hp (List.mem_range.1 hn)
def az (S:List StepV) (w:World) (x:Value):Prop:=∃a c,x=.slice a S.length c∧S.length≤c∧zd w 0 w.heap.size a S
end Go.Proofs.YthgembbgcbaghaaGreatDoor
