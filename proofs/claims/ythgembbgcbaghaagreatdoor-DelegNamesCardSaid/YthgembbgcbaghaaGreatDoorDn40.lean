import Derived.Test.YthgembbgcbaghaaGreatDoorDn39
import Derived.Test.YthgembbgcbaghaaGreatDoorDn32
set_option maxHeartbeats 4000000
set_option maxRecDepth 100000

namespace Go.Proofs.YthgembbgcbaghaaGreatDoor
open Go.RowKit Go.Shelf Go.Sort
def ogK (u:JV) (st:PS):JV × PS:=qi u qD 32 st
def ogL (u:JV) (st:PS):List Key2 × Int:=xK (ogK u st).1
def ogS (u:JV) (st:PS):PS:=(ogK u st).2.fail (ogL u st).2
def ogO (u:JV) (st:PS):JV × PS:=qi u xW 8192 (ogS u st)
def ogR (u:JV) (st:PS):List JV × PS:=qG u xZ 64 (ogS u st)
def ogB (u:JV) (st:PS):(BinsV × List DelegV) × PS:=if zq u xW (ogS u st) then (((xf (ogO u st).1).1,[]),(ogO u st).2.fail (xf (ogO u st).1).2) else ((xG,(xy (ogR u st).1 []).1),(ogR u st).2.fail (xy (ogR u st).1 []).2)
def gQ (u:JV) (st:PS):DelegsV × Int:=if qu u (ogB u st).2≠0 then (delegsZ,qu u (ogB u st).2) else (⟨(ogL u st).1,(ogB u st).1.2,(ogB u st).1.1⟩,0)
theorem mt:gQ qF ⟨[],10⟩=(delegsZ,10):=by decide +kernel
theorem rj {v:JV} {y:ByteArray} {e:Nat} {st:PS}:(qG v y e st).1.length<=e/\JV.wts (qG v y e st).1<=v.wt:=by
 unfold qG;split
 . exact ⟨Q2 _,by simp [JV.wts]⟩
 . split
   . exact ⟨Q2 _,by simp [JV.wts]⟩
   . rename_i it hit;split
     . exact ⟨Q2 _,by simp [JV.wts]⟩
     . split
       . exact ⟨Q2 _,by simp [JV.wts]⟩
       . refine ⟨by show it.items.length<=e;omega,?_⟩;have b:=it.wt_eq;obtain ⟨j,a,rfl⟩:=Y1 (kJ hit).2;have c:=JV.wts_get v.items j a;have d:=v.wt_eq;show JV.wts v.items[j].items<=v.wt;omega
theorem iy {u:JV} {st:PS} (h:st.asked.length<=1000):(ogS u st).asked.length<=1001:=by have a:=@tT u qD 32 st;unfold ogS ogK;rw [kX];omega
def hF (u:JV) (st:PS):Prop:=((ogO u st).1.kind=5->qK (ogO u st).1.names=true/\(ogO u st).1.names.length=(ogO u st).1.items.length)/\∀v ∈ (ogR u st).1,v.kind=5->qK v.names=true/\v.names.length=v.items.length
def kO (r:DelegsV × Int) (w:World) (e:Ending) (w':World):Prop :=
 ∃ka kc ra rc ba bc,e=.returned (.tuple #[.agg #[.slice ka r.1.keys.length kc,.slice ra r.1.roles.length rc,.int .i64 r.1.bins.au.thr,.slice ba r.1.bins.au.ids.length bc,.int .i64 r.1.bins.bits,.string r.1.bins.pre],.int .i64 r.2])/\r.1.roles.length<=rc/\DelegsIn w' w.heap.size w'.heap.size r.1 ka ra ba/\O5 w w'
theorem vK {a:Int} {w w':World} (b:O5 w w'):kO (delegsZ,a) w (.returned (.tuple #[.agg #[.slice none 0 0,.slice none 0 0,.int .i64 0,.slice none 0 0,.int .i64 0,.string ⟨#[]⟩],.int .i64 a])) w' :=
 ⟨none,0,none,0,none,0,rfl,Z9 _,⟨.inl rfl,.inl rfl,.inl rfl⟩,b⟩
def mi (C:JV->Prop) (st:PS) (mb:Bool) (w:World) (e:Ending) (w':World):Prop:=(mb=false/\kO (delegsZ,3) w e w')\/(mb=true/\∃u,C u/\kO (gQ u st) w e w')
theorem ff (C:JV->Prop) (st:PS) (v:JV) (x:Value) (w:World) (hN:v.wt<=4294967296) (hR:Rep w 0 w.heap.size v x) (ha:st.asked.length<=1000) (hT:Tabs w) (hC:∀u,C u->hF u st)
 (h1:v.mayB=true->∀w1,O5 w w1->Calls Tryz.prog 60 #[x] w1 (wE C st w1)) :
 Calls Tryz.prog 16 #[x] w (mi C st v.mayB w):=by
 obtain ⟨an,cn,ai,ci,hx,K,D,h3,h4⟩:=hR.parts;clear K D h3 h4;subst hx;obtain ⟨W,hW⟩:=O1 ((w.alloc (.cells #[.int .u8 v.kind,.int .i64 v.n,.string v.t,.slice an v.names.length cn,.slice ai v.items.length ci] 25)).alloc (.cells #[.slice none 0 0,.slice none 0 0,.int .i64 0,.slice none 0 0,.int .i64 0,.string ⟨#[]⟩] 35));have i0:(w.alloc (.cells #[.int .u8 v.kind,.int .i64 v.n,.string v.t,.slice an v.names.length cn,.slice ai v.items.length ci] 25)).heap.size=w.heap.size+1:=by simp
 have hb:O5 w W:=by rw [hW];exact (O4).alloc (by simp) _
 have h7:W.heap[w.heap.size]?=some (.cells #[.int .u8 v.kind,.int .i64 v.n,.string v.t,.slice an v.names.length cn,.slice ai v.items.length ci] 25 (0,0)):=by rw [hW];exact ze w _ _
 have d5:W.rowIs (w.heap.size+1) 35 6 (qe (.slice none 0 0) (.slice none 0 0) (.int .i64 0) (.slice none 0 0) (.int .i64 0) (.string ⟨#[]⟩)):=(by have:=zN (w.alloc (.cells #[.int .u8 v.kind,.int .i64 v.n,.string v.t,.slice an v.names.length cn,.slice ai v.items.length ci] 25)) (.slice none 0 0) (.slice none 0 0) (.int .i64 0) (.slice none 0 0) (.int .i64 0) (.string ⟨#[]⟩) 35;rw [i0,<- hW] at this;exact this);have a3:=U h1;have c6:=U (kZ v _ W hN (hR.below hb lz (Q2 _) hb.size));obtain ⟨mb,g5⟩:=O1 v.mayB;rw [<- g5] at c6 a3 ⊢;have d7:=U hC;have i2:=O0 (∀w':World,O5 w w'->Tabs w') (fun w' h=>hT.below h);have g:=U hb;have V:=U h7;have M:=U d5;have HW:=U hW;have HA:=U ha;have d0:=O0 (w.heap.size+2<=W.heap.size) d5.lt;clear h1 hW i0 hb h7 d5 hR ha g5 hN hC hT;obtain ⟨c0,c1,c2,c3,c4⟩:=bx5 V.o;go_enter Tryz.func16,Tryz.ntmps16;go_upto_region 1 with fail
 rw [<- HW.o];clear HW;go_wp2_with fail;refine c6.o.mono ?_;clear c6 c0 c1 c2 c3 c4;rintro e w1 ⟨rfl,b9⟩;replace V:=U ((b9.block _ (qz V.o)).trans V.o);have H:=qw b9 M.o M.o.lt;replace M:=U H;replace g:=U (O2 g b9);replace d0:=O0 (w.heap.size+2<=w1.heap.size) H.lt;clear b9;cases mb with
 | false => obtain ⟨t0,t1,t2,t3,t4⟩:=rc5 H;have t5:=H.cell (i:=5) (by decide);obtain ⟨s0,s1,s2,s3,s4⟩:=rf5 H;have s5:=H.frozen 5;simp only [qe] at t0 t1 t2 t3 t4 t5;clear H;go_wp2;refine Q3 (qb Tryz.results16 _ _ (w.heap.size+1) 35 _ (0,0) _ rfl (zv (vT _ _ _ _ _ _ M.o)) Tryz.underlying35 rfl (by kernel_rfl) _ rfl) rfl ?_;exact .inl ⟨rfl,vK (xi _ _ _ _ _ _ g.o (by omega))⟩
 | true =>
 clear H;replace a3:=U (a3.o rfl w1 g.o);obtain ⟨c0,c1,c2,c3,c4⟩:=bx5 V.o;go_wp2_with fail;refine a3.o.mono ?_;clear a3 c0 c1 c2 c3 c4;rintro e w2 ⟨u,o,m,lo,hi,j1,i7,k3,k0,hC,hu,rfl,d2,i5,i4,X⟩;have HC:=U hC;have a0:=U (d7.o u hC);have HU:=U hu;have i3:=d2.lt;obtain ⟨p,d3⟩:=O1 w2.heap.size;obtain ⟨J,b7⟩:=O1 (w2.alloc (.cells #[.slice none 0 0,.slice none 0 0,.int .i64 0,.slice none 0 0,.int .i64 0,.string ⟨#[]⟩] 35));have b0:=O7 b7
 have d4:J.rowIs p 35 6 (qe (.slice none 0 0) (.slice none 0 0) (.int .i64 0) (.slice none 0 0) (.int .i64 0) (.string ⟨#[]⟩)):=by rw [b7,d3];exact zN _ _ _ _ _ _ _ _
 have l:=U (show p≠o/\p≠m/\hi<=p/\w.heap.size+2<=o/\w.heap.size+2<=m/\w.heap.size+2<=p/\p<J.heap.size/\o<J.heap.size/\m<J.heap.size from by
  have K:=X.size;have D:=d4.lt;have h3:=d0.o;have h4:=b0.size;omega)
 have A:=U (d2.below b0);have y:=U (qw (X.trans (b0.mono X.size)) M.o M.o.lt);replace g:=U (g.o.trans ((X.trans (b0.mono X.size)).mono g.o.size));have d:=U d4;have z:=U (Z9 J.heap.size);have e8:=U b7;have e7:=U d3;clear d7 hC hu i3 d2 i5 i4 X b0 d4 b7 d3 M V d0;have c5:=U (@iy u st HA.o);have S:=U (tj qD 32 A.o (by decide) (by have:=HA.o;omega));unfold ah at S;have c7:=O0 ((ogK u st).1.wt<=4294967296) (bp HU.o);have b5:=O0 (ogL u st=xK (ogK u st).1) rfl;have T:=O0 (ogS u st=(ogK u st).2.fail (ogL u st).2) rfl;have s:=O0 (ogB u st=if zq u xW (ogS u st) then (((xf (ogO u st).1).1,[]),(ogO u st).2.fail (xf (ogO u st).1).2) else ((xG,(xy (ogR u st).1 []).1),(ogR u st).2.fail (xy (ogR u st).1 []).2)) rfl;have a4:=O0 (ogO u st=qi u xW 8192 (ogS u st)) rfl;have b6:=O0 (ogR u st=qG u xZ 64 (ogS u st)) rfl;have I:=O0 (gQ u st=if qu u (ogB u st).2≠0 then (delegsZ,qu u (ogB u st).2) else (⟨(ogL u st).1,(ogB u st).1.2,(ogB u st).1.1⟩,0)) rfl;unfold hF at a0;rw [show qi u qD 32 st=ogK u st from rfl] at S;obtain ⟨GK,f6⟩:=O1 (ogK u st);rw [<- f6] at S c7 b5 T;clear f6;obtain ⟨KJ,SK⟩:=GK;dsimp only at S c7 b5 T;go_upto_region 6 with fail
 rw [<- e8.o,<- e7.o];clear e7 e8;go_wp2_with fail;refine S.o.mono ?_;clear S;rintro e w4 ⟨⟨j2,k4,i9,k1,rfl,h5⟩,r,a⟩;have Q:=U (sr KJ _ w4 J.heap.size (Nat.lt_of_le_of_lt (Q2 _) d.o.lt) c7.o h5 (i2.o w4 (g.o.trans (a.below (by have:=g.o.size;omega) fun k hk e=>by have:=l.o;omega))));clear h5;replace A:=U r;replace y:=U (a.row y.o (by have:=l.o;omega));replace d:=U (a.row d.o (by have:=l.o;omega));replace g:=U (g.o.trans (a.below (by have:=g.o.size;omega) fun k hk e=>by have:=l.o;omega));replace z:=U (Z5 z.o a.size);clear r a;unfold ma at Q;rw [<- b5.o] at Q;obtain ⟨GL,f7⟩:=O1 (ogL u st);rw [<- f7] at Q T I;clear f7 b5;obtain ⟨kl,ke⟩:=GL;dsimp only at Q T I;go_wp2_with fail;refine Q.o.mono ?_;clear Q;rintro e w5 ⟨kv,rfl,h0,f⟩;obtain ⟨ka,kc,rfl,g4⟩:=pF h0 rfl;have q:=O0 (xv w5 J.heap.size w5.heap.size ka kl) (g4.carry z.o lz (fun _ _ _=>rfl));clear h0 g4;replace A:=U (A.o.below f);replace y:=U (qw f y.o y.o.lt);replace d:=U (qw f d.o d.o.lt);replace g:=U (O2 g f);replace z:=U (Z5 z.o f.size);clear f;have e0:=d.o.cell (i:=0) (by decide);have f0:=d.o.frozen 0;simp only [qe] at e0;obtain ⟨W6,b8⟩:=O1 (w5.setCell ⟨p,0,none⟩ (.slice ka kl.length kc));have c:Touch (fun b=>b=p) w5 W6:=by rw [b8];exact (Touch.refl _ _).trans (qC _)
 replace d:=U (show W6.rowIs p 35 6 (qe (.slice ka kl.length kc) (.slice none 0 0) (.int .i64 0) (.slice none 0 0) (.int .i64 0) (.string ⟨#[]⟩)) from by
  rw [b8];refine (d.o.set 0 _).congr fun j hj=>?_;rcases j with _|_|_|_|_|_|j <;> first|rfl|omega)
 replace A:=U (A.o.touch c l.o.1 l.o.2.1 l.o.2.2.1);replace y:=U (c.row y.o (by have:=l.o;omega));replace g:=U (g.o.trans (c.below (by have:=g.o.size;omega) fun k hk e=>by have:=l.o;omega));replace z:=U (Z5 z.o c.size);replace q:=U (q.o.carry lz c.size (fun b K D=>c.block b D (by have:=l.o;omega)));have e9:=U b8;clear c b8;go_upto_region 7 with fail
 rw [<- e9.o];clear e9 e0 f0;go_wp2_with fail;refine (p7 ke A.o).mono ?_;rintro e w7 ⟨rfl,r,a⟩;rw [<- T.o] at r;replace A:=U r;replace y:=U (a.row y.o (by have:=l.o;omega));replace d:=U (a.row d.o (by have:=l.o;omega));replace g:=U (g.o.trans (a.below (by have:=g.o.size;omega) fun k hk e=>by have:=l.o;omega));replace z:=U (Z5 z.o a.size);replace q:=U (q.o.carry lz a.size (fun b K D=>a.block b D (by have:=l.o;omega)));clear r a;clear T;obtain ⟨SS,g2⟩:=O1 (ogS u st);rw [<- g2] at A s a4 b6 c5;clear g2;have e6:=U (iW xW A.o);go_upto_region 8 with fail
 go_wp2_with fail
 refine e6.o.mono ?_;clear e6;rintro e w8 ⟨rfl,f⟩;replace A:=U (A.o.below f);replace y:=U (qw f y.o y.o.lt);replace d:=U (qw f d.o d.o.lt);replace g:=U (O2 g f);replace z:=U (Z5 z.o f.size);replace q:=U (q.o.below f lz lz f.size);clear f;obtain ⟨hv,g3⟩:=O1 (zq u xW SS);rw [<- g3] at s ⊢;clear g3;cases hv with
 | true =>
  rw [Q1 rfl] at s;have R:=U (tj xW 8192 A.o (by decide) (by have:=c5.o;omega));unfold ah at R;rw [<- a4.o] at R;have c9:=U (show (ogO u st).1.wt<=4294967296 by rw [a4.o];exact bp HU.o);have L:=U a0.o.1;obtain ⟨GO,g0⟩:=O1 (ogO u st);rw [<- g0] at R c9 s L;clear g0 a4 b6 a0;obtain ⟨OJ,SO⟩:=GO;dsimp only at R c9 s L;go_wp2_with fail;refine R.o.mono ?_;clear R;rintro e w9 ⟨⟨j3,k5,j0,k2,rfl,b2⟩,r,a⟩;have Y:=U (mg OJ _ w9 w8.heap.size (by have:=z.o;have:=l.o;omega) c9.o b2 L.o);clear b2;replace A:=U r;replace y:=U (a.row y.o (by have:=l.o;omega));replace d:=U (a.row d.o (by have:=l.o;omega));replace g:=U (g.o.trans (a.below (by have:=g.o.size;omega) fun k hk e=>by have:=l.o;omega));replace z:=U (Z5 z.o a.size);replace q:=U (q.o.carry lz a.size (fun b K D=>a.block b D (by have:=l.o;omega)));clear r a;unfold kI at Y;obtain ⟨GB,a9⟩:=O1 (xf OJ);rw [<- a9] at Y s;clear a9;obtain ⟨⟨a8,d6,au⟩,be⟩:=GB;dsimp only at Y s;obtain ⟨SP,P⟩:=O1 (SO.fail be);rw [<- P] at s;rw [s.o] at I;dsimp only at I;have a7:=U P;clear P s;go_wp2_with fail;refine Y.o.mono ?_;clear Y;rintro e F ⟨ba,bc,rfl,-,b3,f⟩;have Z:=O0 (qy F J.heap.size F.heap.size ba au.ids) (b3.carry z.o lz (fun _ _ _=>rfl));clear b3;replace A:=U (A.o.below f);replace y:=U (qw f y.o y.o.lt);replace d:=U (qw f d.o d.o.lt);replace g:=U (O2 g f);replace z:=U (Z5 z.o f.size);replace q:=U (q.o.below f lz lz f.size);clear f;have e2:=d.o.cell (i:=2) (by decide);have f2:=d.o.frozen 2;simp only [qe] at e2;have e3:=d.o.cell (i:=3) (by decide);have f3:=d.o.frozen 3;simp only [qe] at e3;have e4:=d.o.cell (i:=4) (by decide);have f4:=d.o.frozen 4;simp only [qe] at e4;have e5:=d.o.cell (i:=5) (by decide);have f5:=d.o.frozen 5;simp only [qe] at e5;obtain ⟨E,B⟩:=O1 ((((F.setCell ⟨p,2,none⟩ (.int .i64 au.thr)).setCell ⟨p,3,none⟩ (.slice ba au.ids.length bc)).setCell ⟨p,4,none⟩ (.int .i64 a8)).setCell ⟨p,5,none⟩ (.string d6));have c:Touch (fun b=>b=p) F E:=by rw [B];exact ((((Touch.refl _ _).trans (qC _)).trans (qC _)).trans (qC _)).trans (qC _)
  replace d:=U (show E.rowIs p 35 6 (qe (.slice ka kl.length kc) (.slice none 0 0) (.int .i64 au.thr) (.slice ba au.ids.length bc) (.int .i64 a8) (.string d6)) from by
   rw [B];refine ((((d.o.set 2 _).set 3 _).set 4 _).set 5 _).congr fun j hj=>?_;rcases j with _|_|_|_|_|_|j <;> first|rfl|omega)
  replace A:=U (A.o.touch c l.o.1 l.o.2.1 l.o.2.2.1);replace y:=U (c.row y.o (by have:=l.o;omega));replace g:=U (g.o.trans (c.below (by have:=g.o.size;omega) fun k hk e=>by have:=l.o;omega));replace z:=U (Z5 z.o c.size);replace q:=U (q.o.carry lz c.size (fun b K D=>c.block b D (by have:=l.o;omega)));replace Z:=U (Z.o.carry lz c.size (fun b K D=>c.block b D (by have:=l.o;omega)));have G:=U B;clear c B;go_upto_region 11 with fail
  rw [<- G.o];clear G e2 f2 e3 f3 e4 f4 e5 f5;go_wp2_with fail;refine (p7 be A.o).mono ?_;rintro e b4 ⟨rfl,r,a⟩;rw [<- a7.o] at r;clear a7;replace A:=U r;replace y:=U (a.row y.o (by have:=l.o;omega));replace d:=U (a.row d.o (by have:=l.o;omega));replace g:=U (g.o.trans (a.below (by have:=g.o.size;omega) fun k hk e=>by have:=l.o;omega));replace z:=U (Z5 z.o a.size);replace q:=U (q.o.carry lz a.size (fun b K D=>a.block b D (by have:=l.o;omega)));replace Z:=U (Z.o.carry lz a.size (fun b K D=>a.block b D (by have:=l.o;omega)));clear r a;have HD:=U (uH A.o HU.o);obtain ⟨dn,b1⟩:=O1 (qu u SP);rw [<- b1] at HD I;clear b1;have hR:=y.o;obtain ⟨t0,t1,t2,t3,t4⟩:=rc5 hR;have t5:=hR.cell (i:=5) (by decide);obtain ⟨s0,s1,s2,s3,s4⟩:=rf5 hR;have s5:=hR.frozen 5;simp only [qe] at t0 t1 t2 t3 t4 t5;have e0:=d.o.cell (i:=0) (by decide);have f0:=d.o.frozen 0;simp only [qe] at e0;have e1:=d.o.cell (i:=1) (by decide);have f1:=d.o.frozen 1;simp only [qe] at e1;have e2:=d.o.cell (i:=2) (by decide);have f2:=d.o.frozen 2;simp only [qe] at e2;have e3:=d.o.cell (i:=3) (by decide);have f3:=d.o.frozen 3;simp only [qe] at e3;have e4:=d.o.cell (i:=4) (by decide);have f4:=d.o.frozen 4;simp only [qe] at e4;have e5:=d.o.cell (i:=5) (by decide);have f5:=d.o.frozen 5;simp only [qe] at e5;clear hR;go_wp2_with fail;refine HD.o.mono ?_;clear HD;rintro e i6 ⟨rfl,h'⟩;subst h';by_cases hd:dn=0
  case neg =>
   have d1:(dn != 0)=true:=by simpa using hd
   rw [Q1 hd] at I;clear hd;go_wp2;refine Q3 (qb Tryz.results16 _ _ (w.heap.size+1) 35 _ (0,0) _ rfl (zv (vT _ _ _ _ _ _ y.o)) Tryz.underlying35 rfl (by kernel_rfl) _ rfl) rfl ?_;refine .inr ⟨rfl,u,HC.o,?_⟩;rw [I.o];exact vK (xi _ _ _ _ _ _ g.o (by omega))
  subst hd;rw [Z6 (by decide)] at I;have N:=O0 (w.heap.size+2<=J.heap.size) (by have:=l.o;omega);go_wp2;refine Q3 (qb Tryz.results16 _ _ (w.heap.size+1) 35 _ (0,0) _ rfl (zv (vT _ _ _ _ _ _ y.o)) Tryz.underlying35 rfl (by kernel_rfl) _ rfl) rfl ?_;refine .inr ⟨rfl,u,HC.o,?_⟩;rw [I.o];have hc:=fun b (K:J.heap.size<=b) (D:b<b4.heap.size)=>vw (W:=b4) (.slice ka kl.length kc) (.slice none 0 0) (.int .i64 au.thr) (.slice ba au.ids.length bc) (.int .i64 a8) (.string d6) (show b≠w.heap.size+1 by have:=N.o;omega);exact ⟨ka,kc,none,0,ba,bc,rfl,Z9 _,⟨q.o.carry (by have:=N.o;omega) (X6 wz.symm) hc,.inl rfl,Z.o.carry (by have:=N.o;omega) (X6 wz.symm) hc⟩,xi _ _ _ _ _ _ g.o (by omega)⟩
 | false =>
  rw [Z6 (by decide)] at s;have a2:=U (iG xZ 64 A.o (by decide) (by have:=c5.o;omega));have a1:=U (@rj u xZ 64 SS);rw [<- b6.o] at a2 a1;have L:=U a0.o.2;obtain ⟨GR,g1⟩:=O1 (ogR u st);rw [<- g1] at a2 a1 s L;clear g1 a4 b6 a0;obtain ⟨LJ,SL⟩:=GR;dsimp only at a2 a1 s L;go_wp2_with fail;refine a2.o.mono ?_;clear a2;rintro e w9 ⟨⟨al,cl,rfl,-,b2⟩,r,a⟩;have a5:=U (fA LJ al cl w9 w8.heap.size (by have:=z.o;have:=l.o;omega) (Z5 a1.o.2 HU.o) b2 L.o (Z5 a1.o.1 (by decide)));clear b2;replace A:=U r;replace y:=U (a.row y.o (by have:=l.o;omega));replace d:=U (a.row d.o (by have:=l.o;omega));replace g:=U (g.o.trans (a.below (by have:=g.o.size;omega) fun k hk e=>by have:=l.o;omega));replace z:=U (Z5 z.o a.size);replace q:=U (q.o.carry lz a.size (fun b K D=>a.block b D (by have:=l.o;omega)));clear r a;unfold vt at a5;obtain ⟨GB,a9⟩:=O1 (xy LJ []);rw [<- a9] at a5 s;clear a9;obtain ⟨rs,re⟩:=GB;dsimp only at a5 s;obtain ⟨SP,P⟩:=O1 (SL.fail re);rw [<- P] at s;rw [s.o] at I;dsimp only at I;have a7:=U P;clear P s;go_wp2_with fail;refine a5.o.mono ?_;clear a5;rintro e F ⟨ra,rc,rfl,h6,b3,f⟩;have i1:=U h6;have a6:=O0 (q9 F J.heap.size F.heap.size ra rs) (b3.carry z.o lz (fun _ _ _=>rfl));clear b3 h6;replace A:=U (A.o.below f);replace y:=U (qw f y.o y.o.lt);replace d:=U (qw f d.o d.o.lt);replace g:=U (O2 g f);replace z:=U (Z5 z.o f.size);replace q:=U (q.o.below f lz lz f.size);clear f;have e1:=d.o.cell (i:=1) (by decide);have f1:=d.o.frozen 1;simp only [qe] at e1;obtain ⟨E,B⟩:=O1 (F.setCell ⟨p,1,none⟩ (.slice ra rs.length rc));have c:Touch (fun b=>b=p) F E:=by rw [B];exact (Touch.refl _ _).trans (qC _)
  replace d:=U (show E.rowIs p 35 6 (qe (.slice ka kl.length kc) (.slice ra rs.length rc) (.int .i64 0) (.slice none 0 0) (.int .i64 0) (.string ⟨#[]⟩)) from by
   rw [B];refine (d.o.set 1 _).congr fun j hj=>?_;rcases j with _|_|_|_|_|_|j <;> first|rfl|omega)
  replace A:=U (A.o.touch c l.o.1 l.o.2.1 l.o.2.2.1);replace y:=U (c.row y.o (by have:=l.o;omega));replace g:=U (g.o.trans (c.below (by have:=g.o.size;omega) fun k hk e=>by have:=l.o;omega));replace z:=U (Z5 z.o c.size);replace q:=U (q.o.carry lz c.size (fun b K D=>c.block b D (by have:=l.o;omega)));replace a6:=U (a6.o.carry lz c.size (fun b K D=>c.block b D (by have:=l.o;omega)));have G:=U B;clear c B;go_upto_region 11 with fail
  rw [<- G.o];clear G e1 f1;go_wp2_with fail;refine (p7 re A.o).mono ?_;rintro e b4 ⟨rfl,r,a⟩;rw [<- a7.o] at r;clear a7;replace A:=U r;replace y:=U (a.row y.o (by have:=l.o;omega));replace d:=U (a.row d.o (by have:=l.o;omega));replace g:=U (g.o.trans (a.below (by have:=g.o.size;omega) fun k hk e=>by have:=l.o;omega));replace z:=U (Z5 z.o a.size);replace q:=U (q.o.carry lz a.size (fun b K D=>a.block b D (by have:=l.o;omega)));replace a6:=U (a6.o.carry lz a.size (fun b K D=>a.block b D (by have:=l.o;omega)));clear r a;have HD:=U (uH A.o HU.o);obtain ⟨dn,b1⟩:=O1 (qu u SP);rw [<- b1] at HD I;clear b1;have hR:=y.o;obtain ⟨t0,t1,t2,t3,t4⟩:=rc5 hR;have t5:=hR.cell (i:=5) (by decide);obtain ⟨s0,s1,s2,s3,s4⟩:=rf5 hR;have s5:=hR.frozen 5;simp only [qe] at t0 t1 t2 t3 t4 t5;have e0:=d.o.cell (i:=0) (by decide);have f0:=d.o.frozen 0;simp only [qe] at e0;have e1:=d.o.cell (i:=1) (by decide);have f1:=d.o.frozen 1;simp only [qe] at e1;have e2:=d.o.cell (i:=2) (by decide);have f2:=d.o.frozen 2;simp only [qe] at e2;have e3:=d.o.cell (i:=3) (by decide);have f3:=d.o.frozen 3;simp only [qe] at e3;have e4:=d.o.cell (i:=4) (by decide);have f4:=d.o.frozen 4;simp only [qe] at e4;have e5:=d.o.cell (i:=5) (by decide);have f5:=d.o.frozen 5;simp only [qe] at e5;clear hR;go_wp2_with fail;refine HD.o.mono ?_;clear HD;rintro e i6 ⟨rfl,h'⟩;subst h';by_cases hd:dn=0
  case neg =>
   have d1:(dn != 0)=true:=by simpa using hd
   rw [Q1 hd] at I;clear hd;go_wp2;refine Q3 (qb Tryz.results16 _ _ (w.heap.size+1) 35 _ (0,0) _ rfl (zv (vT _ _ _ _ _ _ y.o)) Tryz.underlying35 rfl (by kernel_rfl) _ rfl) rfl ?_;refine .inr ⟨rfl,u,HC.o,?_⟩;rw [I.o];exact vK (xi _ _ _ _ _ _ g.o (by omega))
  subst hd;rw [Z6 (by decide)] at I;have N:=O0 (w.heap.size+2<=J.heap.size) (by have:=l.o;omega);go_wp2;refine Q3 (qb Tryz.results16 _ _ (w.heap.size+1) 35 _ (0,0) _ rfl (zv (vT _ _ _ _ _ _ y.o)) Tryz.underlying35 rfl (by kernel_rfl) _ rfl) rfl ?_;refine .inr ⟨rfl,u,HC.o,?_⟩;rw [I.o];have hc:=fun b (K:J.heap.size<=b) (D:b<b4.heap.size)=>vw (W:=b4) (.slice ka kl.length kc) (.slice ra rs.length rc) (.int .i64 0) (.slice none 0 0) (.int .i64 0) (.string ⟨#[]⟩) (show b≠w.heap.size+1 by have:=N.o;omega);exact ⟨ka,kc,ra,rc,none,0,rfl,i1.o,⟨q.o.carry (by have:=N.o;omega) (X6 wz.symm) hc,a6.o.carry (by have:=N.o;omega) (X6 wz.symm) hc,.inl rfl⟩,xi _ _ _ _ _ _ g.o (by omega)⟩
theorem cA {x:JV} (h:x.partB=true):∀y ∈ x.items,y.partB=true:=by rw [JV.partB_eq,Q0] at h;exact bo h.2
theorem pp {x:JV} (h:x.partB=true) (a:x.kind=5):qK x.names=true/\x.names.length=x.items.length:=⟨(bh h a).2.2.1,(bh h a).2.1⟩
theorem cT {u:JV} {st:PS} (h:du u\/u=qF):hF u st:=by
 have a:∀(y:ByteArray) (it:JV),u.look y=some it->it.kind≠0->it.partB=true:=fun y it hit hk=>by
  rcases h with h|rfl
  . exact iZ h hit hk
  . cases (show (none:Option JV)=some it from hit)
 refine ⟨fun hk=>?_,fun v hv hk=>?_⟩
 . revert hk
   unfold ogO qi;split
   . intro hk;cases hk
   . split
     . intro hk;cases hk
     . rename_i it hit;split
       . intro hk;cases hk
       . split
         . intro hk;cases hk
         . intro hk;exact pp (a _ _ hit (by rw [hk];decide)) hk
 . revert hv
   unfold ogR qG;split
   . intro hv;cases hv
   . split
     . intro hv;cases hv
     . rename_i it hit;split
       . intro hv;cases hv
       . split
         . intro hv;cases hv
         . rename_i b _;intro hv;have b:it.kind=4:=by simpa using b
           exact pp (cA (a _ _ hit (by rw [b];decide)) v hv) hk
theorem vV (v:JV) (x:Value) (w:World) (lo:Nat) (g:0<lo) (d:v.wt<=4294967296) (f:Rep w lo w.heap.size v x) (i:Tabs w) :
 Calls Tryz.prog 16 #[x] w (kO (zy v) w):=by
 cases hmb:v.mayB with
 | false =>
  refine (ff (fun u=>False) (st0 v) v x w d (f.carry (Q2 _) lz (fun _ _ _=>rfl)) (by unfold st0;split <;> simp) i (fun u a=>a.elim) (fun b=>by rw [hmb] at b;cases b)).mono ?_;rintro e w' (⟨b,h⟩|⟨b,u,a,h⟩)
  . have:zy v=(delegsZ,3):=by unfold zy;rw [Q1 hmb]
    rw [this];exact h
  . exact a.elim
 | true =>
  have c:v.kind=5->du v:=ny hmb;refine (ff (jy v) (st0 v) v x w d (f.carry (Q2 _) lz (fun _ _ _=>rfl)) (by unfold st0;split <;> simp) i (fun u a=>cT (by
   unfold jy at a;by_cases h5:v.kind=5
   . rw [Q1 h5] at a;rw [a];exact .inl (c h5)
   . rw [Z6 h5] at a;exact .inr a)) (fun b w1 hb=>nW d g hb.size (f.below hb lz lz lz) (fun hk=>⟨(c hk).2.2.1,(c hk).2.2.2.1⟩))).mono ?_
  rintro e w' (⟨b,h⟩|⟨b,u,a,h⟩)
  . rw [hmb] at b;cases b
  . unfold jy at a;unfold st0 at h;by_cases hk:v.kind=5
    . rw [Q1 hk] at a h;subst a;have:zy u=gQ u ⟨[],0⟩:=by unfold zy;rw [Z6 (by rw [hmb];decide),Z6 (by simp [hk])];rfl
      rw [this];exact h
    . rw [Z6 hk] at a h;subst a;have:zy v=(delegsZ,10):=by unfold zy;rw [Z6 (by rw [hmb];decide),Q1 hk]
      rw [this];rw [mt] at h;exact h
theorem aP (a b:ByteArray):Op.bytesLess a.toList b.toList = !(Op.bytesLess b.toList a.toList || (b.toList == a.toList)):=by
 cases h1:Op.bytesLess b.toList a.toList with
 | true => have:Op.bytesLess a.toList b.toList=false:=ul (a:=b) (b:=a) h1;rw [this];rfl
 | false =>
  cases h2:Op.bytesLess a.toList b.toList with
  | true => have:(b.toList == a.toList)=false:=(by rw [Y3];intro e;rw [e] at h2;have:=zJ a;unfold bl at this;rw [h2] at this;cases this);rw [this];rfl
  | false => have:b.toList=a.toList:=gI _ _ h1 h2;rw [this];simp
theorem aF {k:Key2} (h:ok2 k=true):Op.bytesLess (⟨#[]⟩:ByteArray).toList (id2 k).toList=true:=by
 have c:(id2 k).toList=jR k.1.data.toList k.2.data.toList:=by rw [J3];rfl
 rw [c,J3];have b:(jR k.1.data.toList k.2.data.toList).length=64:=(by unfold jR;rw [Q1 (by unfold ok2 at h;exact h),ww]);cases hq:jR k.1.data.toList k.2.data.toList with
 | nil=>rw [hq] at b;simp at b
 | cons a r=>rfl
theorem hU {l:List Key2} (h:¬l.length<=32):zc l=false:=by unfold zc;rw [Q8 h];rfl
theorem mo {l:List Key2} {k:Nat} (h:k<l.length) (a:ok2 l[k]=false):zc l=false:=by unfold zc;rw [show l.all ok2=false from N9.2 ⟨l[k],J1 _,by simp [a]⟩,Bool.and_false,K9]
theorem hO {l:List Key2} {k:Nat} (b:1<=k) (h:k<l.length) (hb:Op.bytesLess (id2 l[k-1]).toList (id2 l[k]).toList=false):zc l=false:=by unfold zc;have a:(ids l).length=l.length:=J6 ..;rw [yo (ids l) k b (by omega) (by simpa [ids] using hb),Bool.and_false]
theorem h8 (l:List Key2) (a:Option Addr) (c:Nat) (w:World) (hK:xv w 0 w.heap.size a l) (hl:l.length<=4294967296) (hs:∀k ∈ l,k.1.size<=300/\k.2.size<=300) (hT:Tabs w) :
 Calls Tryz.prog 82 #[.slice a l.length c] w fun e w'=>e=.returned (.bool (zc l))/\O5 w w':=by
 have HK:=U hK;have HT:=U hT;have HS:=U hs;clear hK hT hs;obtain ⟨F,D⟩:=O1 l.length;have y:=U D;rw [<- D] at hl ⊢;by_cases h32:F<=32
 case neg =>
  have B:=U (hU (l:=l) (by omega));have d1:decide (32<(F:Int))=true:=by simp;omega
  clear D;go_enter Tryz.func82,Tryz.ntmps82;go_wp2;go_ret;exact ⟨qx B.o.symm,Z0 _ _⟩
 have d1:decide (32<(F:Int))=false:=by simp;omega
 clear D;go_enter Tryz.func82,Tryz.ntmps82;go_wp2;go_loopw [3,5,6,7,13] (fun ls _ _ _ i wr=>∃(k:Nat) (s:ByteArray),k<=F/\i=.int .i64 k/\ls=.string s/\(∀j (h:j<l.length),j<k->ok2 l[j]=true)/\qK ((ids l).take k)=true/\(k=0->s=⟨#[]⟩)/\(∀h:k - 1<l.length,1<=k->s=id2 l[k-1])/\O5 w wr) (fun _ _ _ _ i _=>F - (intOf i).toNat)
 case atStart=>exact ⟨0,⟨#[]⟩,by omega,rfl,rfl,fun j _ h=>by omega,rfl,fun _=>rfl,fun _ h=>by omega,Z0 _ _⟩
 case round =>
  obtain ⟨k,s,hk,rfl,rfl,a0,a5,a6,S,I⟩:=hrel;have J:=U a0;have N:=U a5;have X:=U a6;have P:=U S;have W:=U I;clear a0 a5 a6 S I;have a3:(ids l).length=l.length:=J6 ..;have L:=U a3;clear a3;by_cases hlt:k<F
  . have f:k<l.length:=by rw [<- y.o];exact hlt
    obtain ⟨b,a7,ha,_,hb,Z,e1⟩:=(HK.o.below W.o lz lz W.o.size).at k f;subst ha;have E:=HS.o l[k] (J1 f);have g:=U (mo (l:=l) f);have m:=U (fun h1=>hO (l:=l) (k:=k) h1 f);have G:=U (@aF l[k]);have A:=U (show ok2 l[k]=true->(k=0\/Op.bytesLess s.toList (id2 l[k]).toList=true)->(∀j (h:j<l.length),j<k+1->ok2 l[j]=true)/\qK ((ids l).take (k+1))=true/\(∀h:k+1 - 1<l.length,1<=k+1->id2 l[k]=id2 l[k+1-1]) from fun ho hle=>by
     refine ⟨fun j hj hjk=>?_,?_,fun _ _=>rfl⟩
     . rcases V3.1 hjk with h1|h1
       . exact J.o j hj h1
       . subst h1;exact ho
     . rcases G3 k with h0|h0
       . subst h0;have b1:(ids l).length=l.length:=L.o;cases hq:ids l with
         | nil=>rfl
         | cons x r=>rfl
       . rw [ko (ids l) k h0 (by have:=L.o;omega),N.o,X2];have h3:=hle.resolve_left (by omega);rw [P.o (by omega) h0] at h3;simpa [ids] using h3)
    have v:=O0 (1<=k->Op.bytesLess s.toList (id2 l[k]).toList=false->zc l=false) (fun h1 h2=>m.o h1 (by rw [<- P.o (by omega) h1];exact h2));have Y:=O0 (ok2 l[k]=true->k=0->Op.bytesLess s.toList (id2 l[k]).toList=true) (fun h1 h2=>by rw [X.o h2];exact G.o h1);obtain ⟨x,T⟩:∃x:Key2,x=l[k]:=⟨_,rfl⟩;have b0:=U (show id2 x=id2 l[k] by rw [T]);replace Z:=Z.trans (Q7 (fun z:Key2=>some (Value.string z.1)) T.symm);replace e1:=e1.trans (Q7 (fun z:Key2=>some (Value.string z.2)) T.symm);rw [<- T] at E g A v Y;clear T m G J X P N;obtain ⟨q,p⟩:=x;replace Z:wr.cell? ⟨b,a7+k * 2,none⟩=some (.string q):=Z;replace e1:wr.cell? ⟨b,a7+k * 2+1,none⟩=some (.string p):=e1;have S:q.size<=300:=E.1;have b2:p.size<=300:=E.2;obtain ⟨Q,C⟩:=O1 (wr.alloc (.cells #[.string q,.string p] 43));have a2:=O7 C
    have V:=O9 C
    have K:=U (O2 W a2);have o:=U (dQ q p Q (by omega) (by omega) (HT.o.below K.o));unfold jX at o;have a9:=U C;have z0:=qq V (j:=0) rfl;have z1:=qq V (j:=1) rfl;obtain ⟨H,R⟩:∃H:ByteArray,H=⟨(jR q.data.toList p.data.toList).toArray⟩:=⟨_,rfl⟩;rw [<- R] at o;have e2:id2 (q,p)=H:=R.symm;have a8:=O0 (H=id2 l[k]) (e2.symm.trans b0.o);rw [e2] at A v Y;have M:=O0 (ok2 (q,p)=zF q.data.toList p.data.toList) rfl;obtain ⟨ok,a4⟩:=O1 (zF q.data.toList p.data.toList);rw [<- a4] at M o;rw [M.o] at g A Y;clear a2 V C E R e2 a4 M;go_upto_region 7 with fail
    rw [<- a9.o];clear Z e1;go_wp2_with fail;refine o.o.mono ?_;clear o z0 z1;rintro r w3 ⟨rfl,a1⟩;have u:=U (O2 K a1);clear a1;cases ok with
    | false => have B:=U (g.o rfl);go_wp2;go_ret;exact ⟨qx B.o.symm,u.o⟩
    | true =>
     have d:=U (aP s H);cases lt:Op.bytesLess H.toList s.toList with
     | true =>
      rw [lt,Bool.true_or] at d;have B:=U (show zc l=false from by
       rcases G3 k with h0|h0
       . have:=Y.o rfl h0;rw [d.o] at this;cases this
       . exact v.o h0 (by rw [d.o];rfl))
      go_wp2;go_ret;exact ⟨qx B.o.symm,u.o⟩
     | false =>
      cases eqq:(H.toList == s.toList) with
      | true =>
       rw [lt,eqq] at d;have B:=U (show zc l=false from by
        rcases G3 k with h0|h0
        . have:=Y.o rfl h0;rw [d.o] at this;cases this
        . exact v.o h0 (by rw [d.o];rfl))
       go_wp2;go_ret;exact ⟨qx B.o.symm,u.o⟩
      | false =>
       rw [lt,eqq] at d;have HN:=U (A.o rfl (.inr d.o));go_wp2;go_roundw
       case rel => exact ⟨k+1,H,by omega,by go_num,rfl,HN.o.1,HN.o.2.1,fun h=>by omega,fun _ _=>a8.o,u.o⟩
       case measure=>simp [intOf];omega
  . obtain rfl:k=F:=by omega
    have B:=U (show zc l=true from by
     refine zo.2 ⟨by rw [<- y.o];exact h32,fun x T=>?_,?_⟩
     . obtain ⟨j,hj,rfl⟩:=Y1 T;exact J.o j hj (by rw [y.o];exact hj)
     . have:=N.o;rwa [Q4 (by rw [L.o,y.o];exact Z9 _)] at this)
    go_wp2;go_ret;exact ⟨qx B.o.symm,W.o⟩
theorem rk (l m:List Key2) (a b:Option Addr) (c d:Nat) (w:World) (hA:xv w 0 w.heap.size a l) (hB:xv w 0 w.heap.size b m) (hl:l.length<=4294967296) (_hm:m.length<=4294967296) :
 Calls Tryz.prog 69 #[.slice a l.length c,.slice b m.length d] w fun e w'=>e=.returned (.bool (decide (l=m)))/\O5 w w':=by
 have S:=U hA;have T:=U hB;clear hA hB;by_cases hlm:l.length=m.length
 case neg =>
  have I:((l.length:Int) != (m.length:Int))=true:=by simp;omega
  have V:=O0 (decide (l=m)=false) (Q8 fun e=>hlm (by rw [e]));go_enter Tryz.func69,Tryz.ntmps69;go_wp2;go_ret;exact ⟨by rw [V.o];rfl,Z0 _ _⟩
 obtain ⟨n,J⟩:=O1 l.length;have r:=U J;have s:=U (show n=m.length by rw [J,hlm]);rw [<- hlm,<- J];have W:n<=4294967296:=by omega
 clear hlm J hl;go_enter Tryz.func69,Tryz.ntmps69;go_wp2_with fail;go_loopw [5] (fun i wr=>∃k:Nat,k<=n/\i=.int .i64 k/\l.take k=m.take k/\O5 w wr) (fun i _=>n - (intOf i).toNat)
 case atStart=>exact ⟨0,by omega,rfl,rfl,Z0 _ _⟩
 case round =>
  obtain ⟨k,Y,rfl,D,A⟩:=hrel;have u:=U D;have h:=U A;clear D A;by_cases hlt:k<n
  . have B:k<l.length:=by rw [<- r.o];exact hlt
    have C:k<m.length:=by rw [<- s.o];exact hlt
    obtain ⟨p,f,M,_,Z,E,F⟩:=(S.o.below h.o lz lz lz).at k B;subst M;obtain ⟨q,g,M,_,hq,G,H⟩:=(T.o.below h.o lz lz lz).at k C;subst M;have v:=O0 (l[k]=m[k]->l.take (k+1)=m.take (k+1)) (fun e=>by rw [Z8 B,Z8 C,u.o,e]);have j:=O0 (l[k]≠m[k]->decide (l=m)=false) (fun e=>Q8 fun e2=>e (by subst e2;rfl));obtain ⟨x,K⟩:∃x:Key2,x=l[k]:=⟨_,rfl⟩;obtain ⟨y,L⟩:∃y:Key2,y=m[k]:=⟨_,rfl⟩;replace E:=E.trans (Q7 (fun z:Key2=>some (Value.string z.1)) K.symm);replace F:=F.trans (Q7 (fun z:Key2=>some (Value.string z.2)) K.symm);replace G:=G.trans (Q7 (fun z:Key2=>some (Value.string z.1)) L.symm);replace H:=H.trans (Q7 (fun z:Key2=>some (Value.string z.2)) L.symm);rw [<- K,<- L] at v j;clear K L;obtain ⟨P,N⟩:=x;obtain ⟨R,Q⟩:=y;replace E:wr.cell? ⟨p,f+k * 2,none⟩=some (.string P):=E;replace F:wr.cell? ⟨p,f+k * 2+1,none⟩=some (.string N):=F;replace G:wr.cell? ⟨q,g+k * 2,none⟩=some (.string R):=G;replace H:wr.cell? ⟨q,g+k * 2+1,none⟩=some (.string Q):=H;have m1:(0:Int)<=(k:Int):=by omega
    have m2:(k:Int)<(n:Int):=by omega
    have X:decide ((k:Int)<(n:Int))=true:=by simpa using hlt
    cases I:(P.toList == R.toList)
    . have o:=U (j.o fun e=>by rw [(Prod.mk.inj e).1] at I;simp at I);go_wp2_with fail;go_quiet (fail);go_wp2;go_ret;exact ⟨by rw [o.o];rfl,Below.drewN h.o _⟩
    . cases h2:(N.toList == Q.toList)
      . have o:=U (j.o fun e=>by rw [(Prod.mk.inj e).2] at h2;simp at h2);go_wp2_with fail;go_quiet (fail);go_wp2;go_ret;exact ⟨by rw [o.o];rfl,Below.drewN h.o _⟩
      . have o:=U (v.o (by rw [ye (eq_of_beq I),ye (eq_of_beq h2)]));go_wp2_with fail;go_quiet (fail);go_wp2;go_roundw
        case rel=>exact ⟨k+1,by omega,by go_num,o.o,Below.drewN h.o _⟩
        case measure=>simp [intOf];omega
  . have X:decide ((k:Int)<(n:Int))=false:=by simpa using hlt
    have o:=U (show decide (l=m)=true from Q9 (by
     have:=u.o;rwa [Q4 (by rw [<- r.o];omega),Q4 (by rw [<- s.o];omega)] at this))
    go_wp2;go_ret;exact ⟨by rw [o.o];rfl,h.o⟩
theorem kE (l m:List ByteArray) (a b:Option Addr) (c d:Nat) (w:World) (W:qy w 0 w.heap.size a l) (X:qy w 0 w.heap.size b m) (Y:l.length<=4294967296) :
 Calls Tryz.prog 35 #[.slice a l.length c,.slice b m.length d] w fun e w'=>e=.returned (.bool (decide (l=m)))/\∃n,w'=w.drewN n:=by
 have J:=U W;have B:=U X;clear W X;by_cases hlm:l.length=m.length
 case neg =>
  have N:((l.length:Int) != (m.length:Int))=true:=by simp;omega
  have K:=O0 (decide (l=m)=false) (Q8 fun e=>hlm (by rw [e]));clear hlm;go_enter Tryz.func35,Tryz.ntmps35;go_wp2;go_ret;exact ⟨qx K.o.symm,0,rfl⟩
 obtain ⟨n,A⟩:=O1 l.length;have j:=U A;have o:=U (show n=m.length by rw [A,hlm]);rw [<- hlm,<- A];have L:n<=4294967296:=by omega
 have N:((n:Int) != (n:Int))=false:=by simp
 clear hlm A Y;go_enter Tryz.func35,Tryz.ntmps35;go_wp2_with fail;go_loopw [5] (fun i wr=>∃k:Nat,k<=n/\i=.int .i64 k/\l.take k=m.take k/\∃z,wr=w.drewN z) (fun i _=>n - (intOf i).toNat)
 case atStart=>exact ⟨0,by omega,rfl,rfl,0,rfl⟩
 case round =>
  obtain ⟨k,P,rfl,v,z,rfl⟩:=hrel;have q:=U v;clear v;by_cases hlt:k<n
  . have s:k<l.length:=by rw [<- j.o];exact hlt
    have u:k<m.length:=by rw [<- o.o];exact hlt
    obtain ⟨p,f,E,_,Q,H⟩:=J.o.at k s;subst E;obtain ⟨V,g,E,_,M,I⟩:=B.o.at k u;subst E;have r:=O0 (l[k]=m[k]->l.take (k+1)=m.take (k+1)) (fun e=>by rw [Z8 s,Z8 u,q.o,e]);have h:=O0 (l[k]≠m[k]->decide (l=m)=false) (fun e=>Q8 fun e2=>e (by subst e2;rfl));obtain ⟨x,F⟩:∃x:ByteArray,x=l[k]:=⟨_,rfl⟩;obtain ⟨y,G⟩:∃y:ByteArray,y=m[k]:=⟨_,rfl⟩;replace H:=H.trans (Q7 (fun z:ByteArray=>some (Value.string z)) F.symm);replace I:=I.trans (Q7 (fun z:ByteArray=>some (Value.string z)) G.symm);rw [<- F,<- G] at r h;clear F G;have R:(0:Int)<=(k:Int):=by omega
    have S:(k:Int)<(n:Int):=by omega
    have T:decide ((k:Int)<(n:Int))=true:=by simpa using hlt
    cases h1:(x.toList == y.toList)
    . have D:=U (h.o fun e=>by rw [e] at h1;simp at h1);go_wp2_with fail;go_quiet (fail);go_wp2;go_ret;exact ⟨qx D.o.symm,_,World.drewN_drewN ..⟩
    . have C:=U (r.o (by rw [ba_eq,Z7] at h1;exact h1));go_wp2_with fail;go_quiet (fail);go_wp2;go_roundw
      case rel=>exact ⟨k+1,by omega,by go_num,C.o,_,rfl⟩
      case measure=>simp [intOf];omega
  . obtain rfl:k=n:=by omega
    have D:=U (show decide (l=m)=true by
     have:=q.o;rw [Q4 (by rw [<- j.o];exact Z9 _),Q4 (by rw [<- o.o];exact Z9 _)] at this;exact Q9 this)
    go_wp2;go_ret;exact ⟨qx D.o.symm,z,rfl⟩
theorem me (l g:List Key2) (rs f:List DelegV) (b a t h:Int) (e d:ByteArray) (ids c:List ByteArray):decide ((⟨l,rs,⟨b,e,⟨t,ids⟩⟩⟩:DelegsV)=⟨g,f,⟨a,d,⟨h,c⟩⟩⟩)=(decide (l=g) && (decide (b=a) && (decide (e=d) && (decide ((⟨t,ids⟩:AuthV)=⟨h,c⟩) && decide (rs=f))))):=by simp only [DelegsV.mk.injEq,BinsV.mk.injEq,Bool.decide_and];cases decide (l=g) <;> cases decide (rs=f) <;> cases decide (b=a) <;> cases decide (e=d) <;> cases decide ((⟨t,ids⟩:AuthV)=⟨h,c⟩) <;> rfl
theorem gb (n c:ByteArray) (a b:AuthV) (t f:Bool) (p d q e:List ByteArray):decide ((⟨n,a,t,p,q⟩:DelegV)=⟨c,b,f,d,e⟩)=(decide (n=c) && (decide (t=f) && (decide (a=b) && (decide (p=d) && decide (q=e))))):=by simp only [DelegV.mk.injEq,Bool.decide_and];cases decide (n=c) <;> cases decide (a=b) <;> cases decide (t=f) <;> cases decide (p=d) <;> cases decide (q=e) <;> rfl
theorem fh (l:List Key2) (rs:List DelegV) (t e7:Int) (ids:List ByteArray) (e9:ByteArray) (ka ra ba:Option Addr) (kc rc bc:Nat) (l2:List Key2) (d7:List DelegV) (t2 d6:Int) (e8:List ByteArray) (e6:ByteArray) (kb rb bb:Option Addr) (kd rd bd:Nat) (w:World)
 (hI:DelegsIn w 0 w.heap.size ⟨l,rs,⟨e7,e9,⟨t,ids⟩⟩⟩ ka ra ba) (hJ:DelegsIn w 0 w.heap.size ⟨l2,d7,⟨d6,e6,⟨t2,e8⟩⟩⟩ kb rb bb) (hf:DelegsFits ⟨l,rs,⟨e7,e9,⟨t,ids⟩⟩⟩) (hg:DelegsFits ⟨l2,d7,⟨d6,e6,⟨t2,e8⟩⟩⟩) :
 Calls Tryz.prog 17 #[.agg #[.slice ka l.length kc,.slice ra rs.length rc,.int .i64 t,.slice ba ids.length bc,.int .i64 e7,.string e9],.agg #[.slice kb l2.length kd,.slice rb d7.length rd,.int .i64 t2,.slice bb e8.length bd,.int .i64 d6,.string e6]] w fun r w'=>r=.returned (.bool (decide ((⟨l,rs,⟨e7,e9,⟨t,ids⟩⟩⟩:DelegsV)=⟨l2,d7,⟨d6,e6,⟨t2,e8⟩⟩⟩)))/\O5 w w':=by
 obtain ⟨W,hW⟩:=O1 ((w.alloc (.cells #[.slice ka l.length kc,.slice ra rs.length rc,.int .i64 t,.slice ba ids.length bc,.int .i64 e7,.string e9] 35)).alloc (.cells #[.slice kb l2.length kd,.slice rb d7.length rd,.int .i64 t2,.slice bb e8.length bd,.int .i64 d6,.string e6] 35));have hb:O5 w W:=by rw [hW];exact (O4).alloc (by simp) _
 have hx:W.heap[w.heap.size]?=some (.cells #[.slice ka l.length kc,.slice ra rs.length rc,.int .i64 t,.slice ba ids.length bc,.int .i64 e7,.string e9] 35 (0,0)):=by rw [hW];exact ze w _ _
 have hy:W.heap[w.heap.size+1]?=some (.cells #[.slice kb l2.length kd,.slice rb d7.length rd,.int .i64 t2,.slice bb e8.length bd,.int .i64 d6,.string e6] 35 (0,0)):=by rw [hW];exact jB w _ _
 have HC:=U (show ∀w':World,O5 W w'->w'.cell? ⟨w.heap.size,0,none⟩=some (.slice ka l.length kc)/\w'.cell? ⟨w.heap.size,1,none⟩=some (.slice ra rs.length rc)/\w'.cell? ⟨w.heap.size,2,none⟩=some (.int .i64 t)/\w'.cell? ⟨w.heap.size,3,none⟩=some (.slice ba ids.length bc)/\w'.cell? ⟨w.heap.size,4,none⟩=some (.int .i64 e7)/\w'.cell? ⟨w.heap.size,5,none⟩=some (.string e9)/\w'.cell? ⟨w.heap.size+1,0,none⟩=some (.slice kb l2.length kd)/\w'.cell? ⟨w.heap.size+1,1,none⟩=some (.slice rb d7.length rd)/\w'.cell? ⟨w.heap.size+1,2,none⟩=some (.int .i64 t2)/\w'.cell? ⟨w.heap.size+1,3,none⟩=some (.slice bb e8.length bd)/\w'.cell? ⟨w.heap.size+1,4,none⟩=some (.int .i64 d6)/\w'.cell? ⟨w.heap.size+1,5,none⟩=some (.string e6) from fun w' h=>by
  have H:=(h.block _ (qz hx)).trans hx;have I:=(h.block _ (qz hy)).trans hy;exact ⟨qq H rfl,qq H rfl,qq H rfl,qq H rfl,qq H rfl,qq H rfl,qq I rfl,qq I rfl,qq I rfl,qq I rfl,qq I rfl,qq I rfl⟩)
 have D:=U (me l l2 rs d7 e7 d6 t t2 e9 e6 ids e8);have HI:=O0 (∀w':World,O5 W w'->DelegsIn w' 0 w'.heap.size ⟨l,rs,⟨e7,e9,⟨t,ids⟩⟩⟩ ka ra ba/\DelegsIn w' 0 w'.heap.size ⟨l2,d7,⟨d6,e6,⟨t2,e8⟩⟩⟩ kb rb bb) (fun w' h=>⟨hI.below (hb.trans (h.mono hb.size)) lz lz (Z5 hb.size h.size),hJ.below (hb.trans (h.mono hb.size)) lz lz (Z5 hb.size h.size)⟩);have HF:=U (And.intro hf hg);have f1:l.length<=40:=hf.len;have f2:l2.length<=40:=hg.len;have f3:rs.length<=70:=hf.many;have f4:d7.length<=70:=hg.many;have f5:ids.length<=4294967296:=hf.au.2.1;have f6:e8.length<=4294967296:=hg.au.2.1;have s:=U hb;have c9:=U hW;have d4:=O0 (w.heap.size+1<W.heap.size) (qz hy);have a9:=U (rk l l2 ka kb kc kd W (HI.o W (Z0 _ _)).1.keys (HI.o W (Z0 _ _)).2.keys (by omega) (by omega));have a8:=O0 (∀w':World,O5 W w'->_) (fun w' h=>yF t t2 ids e8 ba bb bc bd w' (HI.o w' h).1.bids (HI.o w' h).2.bids f5 f6);obtain ⟨q,hq⟩:=O1 (decide ((⟨l,rs,⟨e7,e9,⟨t,ids⟩⟩⟩:DelegsV)=⟨l2,d7,⟨d6,e6,⟨t2,e8⟩⟩⟩));rw [<- hq] at D ⊢;obtain ⟨ek,d2⟩:=O1 (decide (l=l2));rw [<- d2] at a9 D;obtain ⟨ea,d1⟩:=O1 (decide ((⟨t,ids⟩:AuthV)=⟨t2,e8⟩));rw [<- d1] at a8 D;clear hb hW hx hy hI hJ hf hg hq d2 d1 f1 f2 f5 f6;obtain ⟨x0,x1,x2,x3,x4,x5,y0,y1,y2,y3,y4,y5⟩:=HC.o W (Z0 _ _);go_enter Tryz.func17,Tryz.ntmps17;go_upto_region 1 with fail
 rw [<- c9.o];clear c9;go_wp2_with fail;refine a9.o.mono ?_;clear a9;clear x0 x1 x2 x3 x4 x5 y0 y1 y2 y3 y4 y5;rintro r w1 ⟨rfl,b2⟩;have S:=U b2;obtain ⟨x0,x1,x2,x3,x4,x5,y0,y1,y2,y3,y4,y5⟩:=HC.o w1 b2;clear b2;cases ek with
 | false => rw [K9] at D;go_wp2;go_ret;exact ⟨qx D.o.symm,s.o.trans (S.o.mono s.o.size)⟩
 | true =>
 rw [X2] at D;by_cases hlr:rs.length=d7.length
 case neg =>
  have n2:((rs.length:Int) != (d7.length:Int))=true:=by simp;omega
  have C:=U (show q=false by rw [D.o,Q8 (p:=rs=d7) (fun e=>hlr (by rw [e]))];simp);clear hlr;go_wp2;go_ret;exact ⟨qx C.o.symm,s.o.trans (S.o.mono s.o.size)⟩
 obtain ⟨nn,a2⟩:=O1 rs.length;have b1:=U a2;have c6:=U (show nn=d7.length by rw [a2,hlr]);rw [<- hlr] at y1;rw [<- a2] at x1 y1 f3;have n2:((nn:Int) != (nn:Int))=false:=by simp
 by_cases hbt:e7=d6
 case neg =>
  have n3:(e7 != d6)=true:=by simpa using hbt
  have C:=U (show q=false by rw [D.o,Q8 hbt];simp);clear hbt hlr a2;go_wp2;go_ret;exact ⟨qx C.o.symm,s.o.trans (S.o.mono s.o.size)⟩
 have n3:(e7 != d6)=false:=by simpa using hbt
 rw [Q9 hbt,X2] at D;cases hpr:(e9.toList == e6.toList)
 . have n4:(e9.toList != e6.toList)=true:=by simpa [bne] using hpr
   have C:=U (show q=false by rw [D.o,Q8 (p:=e9=e6) (fun e=>by rw [e] at hpr;simp at hpr)];simp);clear hbt hlr a2;go_wp2;go_ret;exact ⟨qx C.o.symm,s.o.trans (S.o.mono s.o.size)⟩
 have n4:(e9.toList != e6.toList)=false:=by simpa [bne] using hpr
 rw [Q9 (p:=e9=e6) (by rw [ba_eq,Z7] at hpr;exact hpr),X2] at D;have c3:=U hlr;clear hbt hlr a2;go_wp2_with fail;refine (a8.o w1 S.o).mono ?_;clear a8;clear x0 x1 x2 x3 x4 x5 y0 y1 y2 y3 y4 y5;rintro r w2 ⟨rfl,d0⟩;have c2:=U (O2 S d0);clear d0;cases ea with
 | false => rw [K9] at D;go_wp2;go_ret;exact ⟨qx D.o.symm,s.o.trans (c2.o.mono s.o.size)⟩
 | true =>
 rw [X2] at D;rw [<- c3.o,<- b1.o] at HC;clear c3 n2 n3 n4 hpr;go_wp2_with fail;go_loopw [5,6,7] (fun i _ _ wr=>∃k:Nat,k<=nn/\i=.int .i64 k/\rs.take k=d7.take k/\O5 W wr) (fun i _ _ _=>nn - (intOf i).toNat)
 case atStart=>exact ⟨0,by omega,rfl,rfl,c2.o⟩
 case round =>
  obtain ⟨k,hk,rfl,d3,b3⟩:=hrel;have c7:=U d3;have Q:=U b3;obtain ⟨x0,x1,x2,x3,x4,x5,y0,y1,y2,y3,y4,y5⟩:=HC.o wr b3;clear d3 b3;by_cases hlt:k<nn
  . have b6:k<rs.length:=by rw [<- b1.o];exact hlt
    have b7:k<d7.length:=by rw [<- c6.o];exact hlt
    obtain ⟨p,o,ha,-,hp,ia,ic,pa,pc,qa,qc,e0,e1,e2,e3,e4,e5,-,-,-,b4⟩:=(HI.o wr Q.o).1.roles.at k b6;subst ha;obtain ⟨p2,o2,ha,-,d5,ja,jc,va,vc,sa,sc,g0,g1,g2,g3,g4,g5,-,-,-,b5⟩:=(HI.o wr Q.o).2.roles.at k b7;subst ha;have m1:(0:Int)<=(k:Int):=by omega
    have m2:(k:Int)<(nn:Int):=by omega
    have m3:decide ((k:Int)<(nn:Int))=true:=by simpa using hlt
    have R:=O0 (rs[k]=d7[k]->rs.take (k+1)=d7.take (k+1)) (fun e=>by rw [Z8 b6,Z8 b7,c7.o,e]);have m:=O0 (rs[k]≠d7[k]->decide (rs=d7)=false) (fun e=>Q8 fun e2=>e (by subst e2;rfl));have B:=HF.o.1.roles _ (J1 b6);have N:=HF.o.2.roles _ (J1 b7);obtain ⟨x,hx⟩:=O1 (rs[k]);rw [<- hx] at e0 e1 e2 e3 e4 e5 b4 R m B;obtain ⟨y,hy⟩:=O1 (d7[k]);rw [<- hy] at g0 g1 g2 g3 g4 g5 b5 R m N;clear hx hy;obtain ⟨F,⟨z,A⟩,G,ps,qs⟩:=x;obtain ⟨f,⟨c,d⟩,g,u,v⟩:=y;dsimp only at e0 e1 e2 e3 e4 e5 g0 g1 g2 g3 g4 g5;have a0:=U b4;have a1:=U b5;have c4:=U B;have c5:=U N;have HP:=O0 (w.heap.size+1<wr.heap.size) (J7 d4.o Q.o.size);clear b4 b5 B N;go_upto_region 6 with fail
    clear x0 x2 x3 x4 x5 y0 y2 y3 y4 y5
    go_region_held3 (fun w'=>w'.cell? ⟨w.heap.size,1,none⟩=some (.slice (some ⟨p,o,none⟩) nn rc)/\w'.cell? ⟨w.heap.size+1,1,none⟩=some (.slice (some ⟨p2,o2,none⟩) nn rd)/\w'.cell? ⟨p,o+k * 6,none⟩=some (.string F)/\w'.cell? ⟨p,o+k * 6+1,none⟩=some (.int .i64 z)/\w'.cell? ⟨p,o+k * 6+2,none⟩=some (.slice ia A.length ic)/\w'.cell? ⟨p,o+k * 6+3,none⟩=some (.bool G)/\w'.cell? ⟨p,o+k * 6+4,none⟩=some (.slice pa ps.length pc)/\w'.cell? ⟨p,o+k * 6+5,none⟩=some (.slice qa qs.length qc)/\w'.cell? ⟨p2,o2+k * 6,none⟩=some (.string f)/\w'.cell? ⟨p2,o2+k * 6+1,none⟩=some (.int .i64 c)/\w'.cell? ⟨p2,o2+k * 6+2,none⟩=some (.slice ja d.length jc)/\w'.cell? ⟨p2,o2+k * 6+3,none⟩=some (.bool g)/\w'.cell? ⟨p2,o2+k * 6+4,none⟩=some (.slice va u.length vc)/\w'.cell? ⟨p2,o2+k * 6+5,none⟩=some (.slice sa v.length sc)) (first|(with_reducible exact ⟨x1,y1,e0,e1,e2,e3,e4,e5,g0,g1,g2,g3,g4,g5⟩)|(go_keep;done)) (fail)
    . rename_i hS;clear hS;obtain ⟨j,E⟩:=O1 (((wr.alloc (.cells #[.string F,.int .i64 z,.slice ia A.length ic,.bool G,.slice pa ps.length pc,.slice qa qs.length qc] 41)).alloc (.cells #[.string f,.int .i64 c,.slice ja d.length jc,.bool g,.slice va u.length vc,.slice sa v.length sc] 41)).drew);rw [<- E];have M:O5 wr j:=by rw [E];exact ((O4).alloc (by simp) _).drew
      have Y:j.heap[wr.heap.size]?=some (.cells #[.string F,.int .i64 z,.slice ia A.length ic,.bool G,.slice pa ps.length pc,.slice qa qs.length qc] 41 (0,0)):=by rw [E];exact ze wr _ _
      have Z:j.heap[wr.heap.size+1]?=some (.cells #[.string f,.int .i64 c,.slice ja d.length jc,.bool g,.slice va u.length vc,.slice sa v.length sc] 41 (0,0)):=by rw [E];exact jB wr _ _
      have a4:=U (show ∀w':World,O5 j w'->w'.cell? ⟨wr.heap.size,0,none⟩=some (.string F)/\w'.cell? ⟨wr.heap.size,1,none⟩=some (.int .i64 z)/\w'.cell? ⟨wr.heap.size,2,none⟩=some (.slice ia A.length ic)/\w'.cell? ⟨wr.heap.size,3,none⟩=some (.bool G)/\w'.cell? ⟨wr.heap.size,4,none⟩=some (.slice pa ps.length pc)/\w'.cell? ⟨wr.heap.size,5,none⟩=some (.slice qa qs.length qc)/\w'.cell? ⟨wr.heap.size+1,0,none⟩=some (.string f)/\w'.cell? ⟨wr.heap.size+1,1,none⟩=some (.int .i64 c)/\w'.cell? ⟨wr.heap.size+1,2,none⟩=some (.slice ja d.length jc)/\w'.cell? ⟨wr.heap.size+1,3,none⟩=some (.bool g)/\w'.cell? ⟨wr.heap.size+1,4,none⟩=some (.slice va u.length vc)/\w'.cell? ⟨wr.heap.size+1,5,none⟩=some (.slice sa v.length sc) from fun w' h=>by
       have H:=(h.block _ (qz Y)).trans Y;have I:=(h.block _ (qz Z)).trans Z;exact ⟨qq H rfl,qq H rfl,qq H rfl,qq H rfl,qq H rfl,qq H rfl,qq I rfl,qq I rfl,qq I rfl,qq I rfl,qq I rfl,qq I rfl⟩)
      have K:=U (O2 Q M);have B:=c4.o;have N:=c5.o;have a:=fun (w':World) (h:O5 j w')=>M.trans (h.mono M.size);have T:=O0 (∀w':World,O5 j w'->_) (fun w' h=>yF z c A d ia ja ic jc w' (a0.o.ids.below (a w' h) lz lz (a w' h).size) (a1.o.ids.below (a w' h) lz lz (a w' h).size) B.au.2.1 N.au.2.1);have V:=O0 (∀w':World,O5 j w'->_) (fun w' h=>kE ps u pa va pc vc w' (a0.o.paths.below (a w' h) lz lz (a w' h).size) (a1.o.paths.below (a w' h) lz lz (a w' h).size) B.paths.1);have X:=O0 (∀w':World,O5 j w'->_) (fun w' h=>kE qs v qa sa qc sc w' (a0.o.pres.below (a w' h) lz lz (a w' h).size) (a1.o.pres.below (a w' h) lz lz (a w' h).size) B.pres.1);have b:=U (gb F f ⟨z,A⟩ ⟨c,d⟩ G g ps u qs v);obtain ⟨sx,P⟩:=O1 (decide ((⟨F,⟨z,A⟩,G,ps,qs⟩:DelegV)=⟨f,⟨c,d⟩,g,u,v⟩));rw [<- P] at b;replace m:=O0 (sx=false->decide (rs=d7)=false) (fun h=>m.o (by rw [P] at h;exact of_decide_eq_false h));replace R:=O0 (sx=true->rs.take (k+1)=d7.take (k+1)) (fun h=>R.o (by rw [P] at h;exact of_decide_eq_true h));obtain ⟨c1,a5⟩:∃s',s'=decide ((⟨z,A⟩:AuthV)=⟨c,d⟩):=⟨_,rfl⟩;rw [<- a5] at b T;obtain ⟨sp,a6⟩:∃s',s'=decide (ps=u):=⟨_,rfl⟩;rw [<- a6] at b V;obtain ⟨sq,a7⟩:∃s',s'=decide (qs=v):=⟨_,rfl⟩;rw [<- a7] at b X;clear E M Y Z B N a P a5 a6 a7 x1 y1 e0 e1 e2 e3 e4 e5 g0 g1 g2 g3 g4 g5;obtain ⟨u0,u1,u2,u3,u4,u5,v0,v1,v2,v3,v4,v5⟩:=a4.o j (Z0 _ _);cases hn:(F.toList == f.toList)
      . have b8:(F.toList != f.toList)=true:=by simpa [bne] using hn
        have C:=U (show q=false by rw [D.o];exact m.o (by rw [b.o,Q8 (p:=F=f) (fun e=>by rw [e] at hn;simp at hn)];rfl));go_wp2;go_ret;exact ⟨qx C.o.symm,s.o.trans (K.o.mono s.o.size)⟩
      have b8:(F.toList != f.toList)=false:=by simpa [bne] using hn
      rw [Q9 (p:=F=f) (by rw [ba_eq,Z7] at hn;exact hn),X2] at b;by_cases ht:G=g
      case neg =>
       have b9:(G != g)=true:=by simpa using ht
       have c0:(G == g)=false:=by simpa using ht
       have C:=U (show q=false by rw [D.o];exact m.o (by rw [b.o,Q8 ht];rfl));clear ht;go_wp2;go_ret;exact ⟨qx C.o.symm,s.o.trans (K.o.mono s.o.size)⟩
      have b9:(G != g)=false:=by simpa using ht
      have c0:(G == g)=true:=by simpa using ht
      rw [Q9 ht,X2] at b;clear ht;go_wp2_with fail;refine (T.o j (Z0 _ _)).mono ?_;clear T;clear u0 v0 u1 v1 u2 v2 u3 v3 u4 v4 u5 v5;rintro r w5 ⟨rfl,L⟩;obtain ⟨u0,u1,u2,u3,u4,u5,v0,v1,v2,v3,v4,v5⟩:=a4.o w5 L;have a3:=U L;have J:=U (O2 K L);clear L;cases c1 with
      | false => have C:=U (show q=false by rw [D.o];exact m.o (by rw [b.o];rfl));go_wp2;go_ret;exact ⟨qx C.o.symm,s.o.trans (J.o.mono s.o.size)⟩
      | true =>
      rw [X2] at b;go_wp2_with fail;refine (V.o w5 a3.o).mono ?_;clear V;rintro r w6 ⟨rfl,n6,rfl⟩;cases sp with
      | false => have C:=U (show q=false by rw [D.o];exact m.o (by rw [b.o];rfl));go_wp2;go_ret;exact ⟨qx C.o.symm,Below.drewN (s.o.trans (J.o.mono s.o.size)) _⟩
      | true =>
      rw [X2] at b;go_wp2_with fail;refine (X.o (w5.drewN n6) (Below.drewN a3.o _)).mono ?_;clear X;rintro r w7 ⟨rfl,n7,rfl⟩;cases sq with
      | false => have C:=U (show q=false by rw [D.o];exact m.o b.o);go_wp2;go_ret;exact ⟨qx C.o.symm,Below.drewN (s.o.trans (J.o.mono s.o.size)) _⟩
      | true =>
       have b0:=U (R.o b.o);go_wp2;go_roundw
       case rel=>exact ⟨k+1,by omega,by go_num,b0.o,Below.drewN J.o _⟩
       case measure=>simp [intOf];omega
    . rename_i hS;clear hS;obtain ⟨j,E⟩:=O1 (((wr.alloc (.cells #[.string f,.int .i64 c,.slice ja d.length jc,.bool g,.slice va u.length vc,.slice sa v.length sc] 41)).alloc (.cells #[.string F,.int .i64 z,.slice ia A.length ic,.bool G,.slice pa ps.length pc,.slice qa qs.length qc] 41)).drew);rw [<- E];have M:O5 wr j:=by rw [E];exact ((O4).alloc (by simp) _).drew
      have Y:j.heap[wr.heap.size+1]?=some (.cells #[.string F,.int .i64 z,.slice ia A.length ic,.bool G,.slice pa ps.length pc,.slice qa qs.length qc] 41 (0,0)):=by rw [E];exact jB wr _ _
      have Z:j.heap[wr.heap.size]?=some (.cells #[.string f,.int .i64 c,.slice ja d.length jc,.bool g,.slice va u.length vc,.slice sa v.length sc] 41 (0,0)):=by rw [E];exact ze wr _ _
      have a4:=U (show ∀w':World,O5 j w'->w'.cell? ⟨wr.heap.size+1,0,none⟩=some (.string F)/\w'.cell? ⟨wr.heap.size+1,1,none⟩=some (.int .i64 z)/\w'.cell? ⟨wr.heap.size+1,2,none⟩=some (.slice ia A.length ic)/\w'.cell? ⟨wr.heap.size+1,3,none⟩=some (.bool G)/\w'.cell? ⟨wr.heap.size+1,4,none⟩=some (.slice pa ps.length pc)/\w'.cell? ⟨wr.heap.size+1,5,none⟩=some (.slice qa qs.length qc)/\w'.cell? ⟨wr.heap.size,0,none⟩=some (.string f)/\w'.cell? ⟨wr.heap.size,1,none⟩=some (.int .i64 c)/\w'.cell? ⟨wr.heap.size,2,none⟩=some (.slice ja d.length jc)/\w'.cell? ⟨wr.heap.size,3,none⟩=some (.bool g)/\w'.cell? ⟨wr.heap.size,4,none⟩=some (.slice va u.length vc)/\w'.cell? ⟨wr.heap.size,5,none⟩=some (.slice sa v.length sc) from fun w' h=>by
       have H:=(h.block _ (qz Y)).trans Y;have I:=(h.block _ (qz Z)).trans Z;exact ⟨qq H rfl,qq H rfl,qq H rfl,qq H rfl,qq H rfl,qq H rfl,qq I rfl,qq I rfl,qq I rfl,qq I rfl,qq I rfl,qq I rfl⟩)
      have K:=U (O2 Q M);have B:=c4.o;have N:=c5.o;have a:=fun (w':World) (h:O5 j w')=>M.trans (h.mono M.size);have T:=O0 (∀w':World,O5 j w'->_) (fun w' h=>yF z c A d ia ja ic jc w' (a0.o.ids.below (a w' h) lz lz (a w' h).size) (a1.o.ids.below (a w' h) lz lz (a w' h).size) B.au.2.1 N.au.2.1);have V:=O0 (∀w':World,O5 j w'->_) (fun w' h=>kE ps u pa va pc vc w' (a0.o.paths.below (a w' h) lz lz (a w' h).size) (a1.o.paths.below (a w' h) lz lz (a w' h).size) B.paths.1);have X:=O0 (∀w':World,O5 j w'->_) (fun w' h=>kE qs v qa sa qc sc w' (a0.o.pres.below (a w' h) lz lz (a w' h).size) (a1.o.pres.below (a w' h) lz lz (a w' h).size) B.pres.1);have b:=U (gb F f ⟨z,A⟩ ⟨c,d⟩ G g ps u qs v);obtain ⟨sx,P⟩:=O1 (decide ((⟨F,⟨z,A⟩,G,ps,qs⟩:DelegV)=⟨f,⟨c,d⟩,g,u,v⟩));rw [<- P] at b;replace m:=O0 (sx=false->decide (rs=d7)=false) (fun h=>m.o (by rw [P] at h;exact of_decide_eq_false h));replace R:=O0 (sx=true->rs.take (k+1)=d7.take (k+1)) (fun h=>R.o (by rw [P] at h;exact of_decide_eq_true h));obtain ⟨c1,a5⟩:∃s',s'=decide ((⟨z,A⟩:AuthV)=⟨c,d⟩):=⟨_,rfl⟩;rw [<- a5] at b T;obtain ⟨sp,a6⟩:∃s',s'=decide (ps=u):=⟨_,rfl⟩;rw [<- a6] at b V;obtain ⟨sq,a7⟩:∃s',s'=decide (qs=v):=⟨_,rfl⟩;rw [<- a7] at b X;clear E M Y Z B N a P a5 a6 a7 x1 y1 e0 e1 e2 e3 e4 e5 g0 g1 g2 g3 g4 g5;obtain ⟨u0,u1,u2,u3,u4,u5,v0,v1,v2,v3,v4,v5⟩:=a4.o j (Z0 _ _);cases hn:(F.toList == f.toList)
      . have b8:(F.toList != f.toList)=true:=by simpa [bne] using hn
        have C:=U (show q=false by rw [D.o];exact m.o (by rw [b.o,Q8 (p:=F=f) (fun e=>by rw [e] at hn;simp at hn)];rfl));go_wp2;go_ret;exact ⟨qx C.o.symm,s.o.trans (K.o.mono s.o.size)⟩
      have b8:(F.toList != f.toList)=false:=by simpa [bne] using hn
      rw [Q9 (p:=F=f) (by rw [ba_eq,Z7] at hn;exact hn),X2] at b;by_cases ht:G=g
      case neg =>
       have b9:(G != g)=true:=by simpa using ht
       have c0:(G == g)=false:=by simpa using ht
       have C:=U (show q=false by rw [D.o];exact m.o (by rw [b.o,Q8 ht];rfl));clear ht;go_wp2;go_ret;exact ⟨qx C.o.symm,s.o.trans (K.o.mono s.o.size)⟩
      have b9:(G != g)=false:=by simpa using ht
      have c0:(G == g)=true:=by simpa using ht
      rw [Q9 ht,X2] at b;clear ht;go_wp2_with fail;refine (T.o j (Z0 _ _)).mono ?_;clear T;clear u0 v0 u1 v1 u2 v2 u3 v3 u4 v4 u5 v5;rintro r w5 ⟨rfl,L⟩;obtain ⟨u0,u1,u2,u3,u4,u5,v0,v1,v2,v3,v4,v5⟩:=a4.o w5 L;have a3:=U L;have J:=U (O2 K L);clear L;cases c1 with
      | false => have C:=U (show q=false by rw [D.o];exact m.o (by rw [b.o];rfl));go_wp2;go_ret;exact ⟨qx C.o.symm,s.o.trans (J.o.mono s.o.size)⟩
      | true =>
      rw [X2] at b;go_wp2_with fail;refine (V.o w5 a3.o).mono ?_;clear V;rintro r w6 ⟨rfl,n6,rfl⟩;cases sp with
      | false => have C:=U (show q=false by rw [D.o];exact m.o (by rw [b.o];rfl));go_wp2;go_ret;exact ⟨qx C.o.symm,Below.drewN (s.o.trans (J.o.mono s.o.size)) _⟩
      | true =>
      rw [X2] at b;go_wp2_with fail;refine (X.o (w5.drewN n6) (Below.drewN a3.o _)).mono ?_;clear X;rintro r w7 ⟨rfl,n7,rfl⟩;cases sq with
      | false => have C:=U (show q=false by rw [D.o];exact m.o b.o);go_wp2;go_ret;exact ⟨qx C.o.symm,Below.drewN (s.o.trans (J.o.mono s.o.size)) _⟩
      | true =>
       have b0:=U (R.o b.o);go_wp2;go_roundw
       case rel=>exact ⟨k+1,by omega,by go_num,b0.o,Below.drewN J.o _⟩
       case measure=>simp [intOf];omega
  . obtain rfl:k=nn:=by omega
    have m3:decide ((k:Int)<(k:Int))=false:=by simp
    have HR:=U (show q=true by
     rw [D.o];have:=c7.o;rw [Q4 (by rw [<- b1.o];exact Z9 _),Q4 (by rw [<- c6.o];exact Z9 _)] at this;exact Q9 this)
    go_wp2;go_ret;exact ⟨qx HR.o.symm,s.o.trans (Q.o.mono s.o.size)⟩
