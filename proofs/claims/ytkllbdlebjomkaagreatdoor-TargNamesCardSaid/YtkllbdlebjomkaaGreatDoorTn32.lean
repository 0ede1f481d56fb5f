import Derived.Test.YtkllbdlebjomkaaGreatDoorTn31
set_option maxHeartbeats 4000000
set_option maxRecDepth 100000

namespace Go.Proofs.YtkllbdlebjomkaaGreatDoor
open Go.RowKit Go.Shelf Go.Sort
def rgL (u:JV) (st:PS):Int × PS:=qG u ym 0 1099511627776 st
def rgO (u:JV) (st:PS):JV × PS:=qf u vD 4 (rgL u st).2
def rgH (u:JV) (st:PS):List Key2 × Int:=qM (rgO u st).1
def rgS (u:JV) (st:PS):PS:=(rgO u st).2.fail (rgH u st).2
def ex (u:JV) (st:PS):RecV × Int:=if qb u (rgS u st)≠0 then (uz,qb u (rgS u st)) else (⟨(rgL u st).1,(rgH u st).1,zeroJ⟩,0)
theorem iM:ex zeroJ ⟨[],10⟩=(uz,10):=by kernel_rfl
def vB (r:RecV × Int) (w:World) (e:Ending) (w':World):Prop :=
 ∃ha hc,e=.returned (.tuple #[.agg #[.int .i64 r.1.len,.slice ha r.1.hs.length hc,.int .u8 0,.int .i64 0,.string ⟨#[]⟩,.slice none 0 0,.slice none 0 0],.int .i64 r.2])/\r.1.cus=zeroJ/\r.1.hs.length<=hc/\qJ w' w.heap.size w'.heap.size ha r.1.hs/\O5 w w'
theorem fM {a:Int} {w w':World} (b:O5 w w'):vB (uz,a) w (.returned (.tuple #[.agg #[.int .i64 0,.slice none 0 0,.int .u8 0,.int .i64 0,.string ⟨#[]⟩,.slice none 0 0,.slice none 0 0],.int .i64 a])) w' :=
 ⟨none,0,rfl,rfl,J2 _,.inl rfl,b⟩
def iC (C:JV->Prop) (st:PS) (mb:Bool) (w:World) (e:Ending) (w':World):Prop:=(mb=false/\vB (uz,3) w e w')\/(mb=true/\∃u,C u/\vB (ex u st) w e w')
theorem iD (C:JV->Prop) (st:PS) (v:JV) (x:Value) (w:World) (hN:v.wt<=4294967296) (hR:Rep w 0 w.heap.size v x) (ha:st.asked.length<=1000) (hC:∀u,C u->∀s,qI u mD s=false)
 (g4:v.mayB=true->∀w1,O5 w w1->Calls Tryz.prog 25 #[x] w1 (vS C st w1)) :
 Calls Tryz.prog 70 #[x] w (iC C st v.mayB w):=by
 obtain ⟨an,cn,ai,ci,hx,h1,h2,h3,h4⟩:=hR.parts;clear h1 h2 h3 h4;subst hx;obtain ⟨W,hW⟩:=O1 ((w.alloc (.cells #[.int .u8 v.kind,.int .i64 v.n,.string v.t,.slice an v.names.length cn,.slice ai v.items.length ci] 26)).alloc (.cells #[.int .i64 0,.slice none 0 0,.int .u8 0,.int .i64 0,.string ⟨#[]⟩,.slice none 0 0,.slice none 0 0] 32));have c9:(w.alloc (.cells #[.int .u8 v.kind,.int .i64 v.n,.string v.t,.slice an v.names.length cn,.slice ai v.items.length ci] 26)).heap.size=w.heap.size+1:=by simp
 have hb:O5 w W:=by rw [hW];exact (O4).alloc (by simp) _
 have c7:W.heap[w.heap.size]?=some (.cells #[.int .u8 v.kind,.int .i64 v.n,.string v.t,.slice an v.names.length cn,.slice ai v.items.length ci] 26 (0,0)):=by rw [hW];exact qO w _ _
 have a4:W.rowIs (w.heap.size+1) 32 7 (xw (.int .i64 0) (.slice none 0 0) (.int .u8 0) (.int .i64 0) (.string ⟨#[]⟩) (.slice none 0 0) (.slice none 0 0)):=(by have:=ko (w.alloc (.cells #[.int .u8 v.kind,.int .i64 v.n,.string v.t,.slice an v.names.length cn,.slice ai v.items.length ci] 26)) (.int .i64 0) (.slice none 0 0) (.int .u8 0) (.int .i64 0) (.string ⟨#[]⟩) (.slice none 0 0) (.slice none 0 0) 32;rw [c9,<- hW] at this;exact this);have J:=U g4;have Y:=U (xm v _ W hN (hR.below hb lz (J0 _) hb.size));obtain ⟨mb,c5⟩:=O1 v.mayB;rw [<- c5] at Y J ⊢;have a5:=U hC;have f:=U hb;have G:=U c7;have A:=U a4;have HW:=U hW;have HA:=U ha;have a0:=O0 (w.heap.size+2<=W.heap.size) a4.lt;clear g4 hW c9 hb c7 a4 hR ha c5 hN hC;obtain ⟨c0,c1,c2,c3,c4⟩:=bx5 G.o;go_enter Tryz.func70,Tryz.ntmps70;go_upto_region 1 with fail
 rw [<- HW.o];clear HW;go_wp2_with fail;refine Y.o.mono ?_;clear Y c0 c1 c2 c3 c4;rintro e w1 ⟨rfl,T⟩;replace G:=U ((T.block _ (qz G.o)).trans G.o);have l:=qj T A.o A.o.lt;replace A:=U l;replace f:=U (O2 f T);replace a0:=O0 (w.heap.size+2<=w1.heap.size) l.lt;clear T;cases mb with
 | false => obtain ⟨t0,t1,t2,t3,t4⟩:=rc5 l;have t5:=l.cell (i:=5) (by decide);have t6:=l.cell (i:=6) (by decide);obtain ⟨s0,s1,s2,s3,s4⟩:=rf5 l;have s5:=l.frozen 5;have s6:=l.frozen 6;simp only [xw] at t0 t1 t2 t3 t4 t5 t6;clear l;go_wp2;refine Z8 (qk Tryz.results70 _ _ (w.heap.size+1) 32 _ (0,0) _ rfl (kq (sh _ _ _ _ _ _ _ A.o)) Tryz.underlying32 rfl (by kernel_rfl) _ rfl) rfl ?_;exact .inl ⟨rfl,fM (gU _ _ _ _ _ _ _ f.o (by omega))⟩
 | true =>
 clear l;replace J:=U (J.o rfl w1 f.o);obtain ⟨c0,c1,c2,c3,c4⟩:=bx5 G.o;go_wp2_with fail;refine J.o.mono ?_;clear J c0 c1 c2 c3 c4;rintro e w2 ⟨u,o,m,lo,hi,e8,d7,g1,f8,hC,hu,rfl,a1,d6,d5,H⟩;have HC:=U hC;have d2:=U (a5.o u hC);have HU:=U hu;have d4:=a1.lt;obtain ⟨p,a2⟩:=O1 w2.heap.size;obtain ⟨L,Q⟩:=O1 (w2.alloc (.cells #[.int .i64 0,.slice none 0 0,.int .u8 0,.int .i64 0,.string ⟨#[]⟩,.slice none 0 0,.slice none 0 0] 32));have M:=O7 Q
 have a3:L.rowIs p 32 7 (xw (.int .i64 0) (.slice none 0 0) (.int .u8 0) (.int .i64 0) (.string ⟨#[]⟩) (.slice none 0 0) (.slice none 0 0)):=by rw [Q,a2];exact ko _ _ _ _ _ _ _ _ _
 have h:=U (show p≠o/\p≠m/\hi<=p/\w.heap.size+2<=o/\w.heap.size+2<=m/\w.heap.size+2<=p/\p<L.heap.size/\o<L.heap.size/\m<L.heap.size from by
  have h1:=H.size;have h2:=a3.lt;have h3:=a0.o;have h4:=M.size;omega)
 have y:=U (a1.below M);have q:=U (qj (H.trans (M.mono H.size)) A.o A.o.lt);replace f:=U (f.o.trans ((H.trans (M.mono H.size)).mono f.o.size));have d:=U a3;have B:=U (J2 L.heap.size);have a7:=U Q;have a6:=U a2;clear a5 hC hu d4 a1 d6 d5 H M a3 Q a2 A G a0;have I:=U (sS ym 0 1099511627776 y.o (by decide) (by have:=HA.o;omega));rw [show qG u ym 0 1099511627776 st=rgL u st from rfl] at I;have X:=O0 ((rgL u st).2.asked.length<=1001) (by have h1:=@gf u ym 0 1099511627776 st;have:=HA.o;unfold rgL;omega);have K:=O0 (rgO u st=qf u vD 4 (rgL u st).2) rfl;have P:=O0 (rgH u st=qM (rgO u st).1) rfl;have F:=O0 (rgS u st=(rgO u st).2.fail (rgH u st).2) rfl;have N:=O0 (ex u st=if qb u (rgS u st)≠0 then (uz,qb u (rgS u st)) else (⟨(rgL u st).1,(rgH u st).1,zeroJ⟩,0)) rfl;obtain ⟨GL,b3⟩:=O1 (rgL u st);rw [<- b3] at I X K N;clear b3;obtain ⟨ln,SL⟩:=GL;dsimp only at I X K N;go_upto_region 6 with fail
 rw [<- a7.o,<- a6.o];clear a6 a7;go_wp2_with fail;refine I.o.mono ?_;clear I;rintro e w4 ⟨rfl,r,c⟩;replace y:=U r;replace q:=U (c.row q.o (by have:=h.o;omega));replace d:=U (c.row d.o (by have:=h.o;omega));replace f:=U (f.o.trans (c.below (by have:=f.o.size;omega) fun k hk e=>by have:=h.o;omega));replace B:=U (Z3 B.o c.size);clear r c;have e0:=d.o.cell (i:=0) (by decide);have f0:=d.o.frozen 0;simp only [xw] at e0;obtain ⟨W5,R⟩:=O1 (w4.setCell ⟨p,0,none⟩ (.int .i64 ln));have a:Touch (fun b=>b=p) w4 W5:=by rw [R];exact (Touch.refl _ _).trans (qp _)
 replace d:=U (show W5.rowIs p 32 7 (xw (.int .i64 ln) (.slice none 0 0) (.int .u8 0) (.int .i64 0) (.string ⟨#[]⟩) (.slice none 0 0) (.slice none 0 0)) from by
  rw [R];refine (d.o.set 0 _).congr fun j hj=>?_;rcases j with _|_|_|_|_|_|_|j <;> first|rfl|omega)
 replace y:=U (y.o.touch a h.o.1 h.o.2.1 h.o.2.2.1);replace q:=U (a.row q.o (by have:=h.o;omega));replace f:=U (f.o.trans (a.below (by have:=f.o.size;omega) fun k hk e=>by have:=h.o;omega));replace B:=U (Z3 B.o a.size);have a8:=U R;clear a R;have E:=U (fV vD 4 y.o (by decide) (by have:=X.o;omega));unfold mT at E;rw [<- K.o] at E;have Z:=U (show (rgO u st).1.wt<=4294967296 by rw [K.o];exact xF HU.o);obtain ⟨GK,b2⟩:=O1 (rgO u st);rw [<- b2] at E Z P F;clear b2 K;obtain ⟨KJ,SK⟩:=GK;dsimp only at E Z P F;go_upto_region 7 with fail
 rw [<- a8.o];clear a8 e0 f0;go_wp2_with fail;refine E.o.mono ?_;clear E;rintro e w6 ⟨⟨f7,g2,e7,g0,rfl,c6⟩,r,c⟩;have D:=U (dg KJ _ w6 Z.o (c6.carry (J0 _) lz (fun _ _ _=>rfl)));clear c6;replace y:=U r;replace q:=U (c.row q.o (by have:=h.o;omega));replace d:=U (c.row d.o (by have:=h.o;omega));replace f:=U (f.o.trans (c.below (by have:=f.o.size;omega) fun k hk e=>by have:=h.o;omega));replace B:=U (Z3 B.o c.size);clear r c;unfold jn at D;rw [<- P.o] at D;obtain ⟨GH,b1⟩:=O1 (rgH u st);rw [<- b1] at D F N;clear b1 P;obtain ⟨hl,he⟩:=GH;dsimp only at D F N;go_wp2_with fail;refine D.o.mono ?_;clear D;rintro e w7 ⟨ka,kc,rfl,b6,b7,g⟩;have d3:=U b7;have z:=O0 (qJ w7 L.heap.size w7.heap.size ka hl) (b6.1.carry B.o lz (fun _ _ _=>rfl));clear b6 b7;replace y:=U (y.o.below g);replace q:=U (qj g q.o q.o.lt);replace d:=U (qj g d.o d.o.lt);replace f:=U (O2 f g);replace B:=U (Z3 B.o g.size);clear g;have e1:=d.o.cell (i:=1) (by decide);have f1:=d.o.frozen 1;simp only [xw] at e1;obtain ⟨W8,S⟩:=O1 (w7.setCell ⟨p,1,none⟩ (.slice ka hl.length kc));have a:Touch (fun b=>b=p) w7 W8:=by rw [S];exact (Touch.refl _ _).trans (qp _)
 replace d:=U (show W8.rowIs p 32 7 (xw (.int .i64 ln) (.slice ka hl.length kc) (.int .u8 0) (.int .i64 0) (.string ⟨#[]⟩) (.slice none 0 0) (.slice none 0 0)) from by
  rw [S];refine (d.o.set 1 _).congr fun j hj=>?_;rcases j with _|_|_|_|_|_|_|j <;> first|rfl|omega)
 replace y:=U (y.o.touch a h.o.1 h.o.2.1 h.o.2.2.1);replace q:=U (a.row q.o (by have:=h.o;omega));replace f:=U (f.o.trans (a.below (by have:=f.o.size;omega) fun k hk e=>by have:=h.o;omega));replace B:=U (Z3 B.o a.size);replace z:=U (z.o.carry lz a.size (fun b h1 h2=>a.block b h2 (by have:=h.o;omega)));have a9:=U S;clear a S;go_upto_region 8 with fail
 rw [<- a9.o];clear a9 e1 f1;go_wp2_with fail;refine (vz he y.o).mono ?_;rintro e w9 ⟨rfl,r,c⟩;rw [<- F.o] at r;replace y:=U r;replace q:=U (c.row q.o (by have:=h.o;omega));replace d:=U (c.row d.o (by have:=h.o;omega));replace f:=U (f.o.trans (c.below (by have:=f.o.size;omega) fun k hk e=>by have:=h.o;omega));replace B:=U (Z3 B.o c.size);replace z:=U (z.o.carry lz c.size (fun b h1 h2=>c.block b h2 (by have:=h.o;omega)));clear r c;clear F;obtain ⟨SS,b4⟩:=O1 (rgS u st);rw [<- b4] at y N;clear b4;have V:=U (iq mD y.o);rw [d2.o SS] at V;go_wp2_with fail;refine V.o.mono ?_;clear V;rintro e d0 ⟨rfl,g⟩;replace y:=U (y.o.below g);replace q:=U (qj g q.o q.o.lt);replace d:=U (qj g d.o d.o.lt);replace f:=U (O2 f g);replace B:=U (Z3 B.o g.size);replace z:=U (z.o.below g lz lz g.size);clear g;have HD:=U (yJ y.o HU.o);obtain ⟨dn,b5⟩:=O1 (qb u SS);rw [<- b5] at HD N;clear b5;have hR:=q.o;obtain ⟨t0,t1,t2,t3,t4⟩:=rc5 hR;have t5:=hR.cell (i:=5) (by decide);have t6:=hR.cell (i:=6) (by decide);obtain ⟨s0,s1,s2,s3,s4⟩:=rf5 hR;have s5:=hR.frozen 5;have s6:=hR.frozen 6;simp only [xw] at t0 t1 t2 t3 t4 t5 t6;have e0:=d.o.cell (i:=0) (by decide);have f0:=d.o.frozen 0;simp only [xw] at e0;have e1:=d.o.cell (i:=1) (by decide);have f1:=d.o.frozen 1;simp only [xw] at e1;have e2:=d.o.cell (i:=2) (by decide);have f2:=d.o.frozen 2;simp only [xw] at e2;have e3:=d.o.cell (i:=3) (by decide);have f3:=d.o.frozen 3;simp only [xw] at e3;have e4:=d.o.cell (i:=4) (by decide);have f4:=d.o.frozen 4;simp only [xw] at e4;have e5:=d.o.cell (i:=5) (by decide);have f5:=d.o.frozen 5;simp only [xw] at e5;have e6:=d.o.cell (i:=6) (by decide);have f6:=d.o.frozen 6;simp only [xw] at e6;clear hR;go_wp2_with fail;refine HD.o.mono ?_;clear HD;rintro e g3 ⟨rfl,h'⟩;subst h';by_cases hd:dn=0
 case neg =>
  have d1:(dn != 0)=true:=by simpa using hd
  rw [J3 hd] at N;clear hd;go_wp2;refine Z8 (qk Tryz.results70 _ _ (w.heap.size+1) 32 _ (0,0) _ rfl (kq (sh _ _ _ _ _ _ _ q.o)) Tryz.underlying32 rfl (by kernel_rfl) _ rfl) rfl ?_;refine .inr ⟨rfl,u,HC.o,?_⟩;rw [N.o];exact fM (gU _ _ _ _ _ _ _ f.o (by omega))
 subst hd;rw [Z6 (by decide)] at N;have b0:=O0 (w.heap.size+2<=L.heap.size) (by have:=h.o;omega);go_wp2;refine Z8 (qk Tryz.results70 _ _ (w.heap.size+1) 32 _ (0,0) _ rfl (kq (sh _ _ _ _ _ _ _ q.o)) Tryz.underlying32 rfl (by kernel_rfl) _ rfl) rfl ?_;refine .inr ⟨rfl,u,HC.o,?_⟩;rw [N.o];have hc:=fun b (h1:L.heap.size<=b) (h2:b<d0.heap.size)=>tu (W:=d0) (.int .i64 ln) (.slice ka hl.length kc) (.int .u8 0) (.int .i64 0) (.string ⟨#[]⟩) (.slice none 0 0) (.slice none 0 0) (show b≠w.heap.size+1 by have:=b0.o;omega);exact ⟨ka,kc,rfl,rfl,d3.o,z.o.carry (by have:=b0.o;omega) (Y5 tc.symm) hc,gU _ _ _ _ _ _ _ f.o (by omega)⟩
theorem fC {v:JV} (h:v.look mD=none) (s:PS):qI v mD s=false:=by unfold qI;rw [h];simp
theorem iL (v:JV) (x:Value) (w:World) (lo:Nat) (i:0<lo) (f:v.wt<=4294967296) (g:Rep w lo w.heap.size v x) (j:v.look mD=none) :
 Calls Tryz.prog 70 #[x] w (vB (vq v) w):=by
 cases hmb:v.mayB with
 | false =>
  refine (iD (fun u=>False) (st0 v) v x w f (g.carry (J0 _) lz (fun _ _ _=>rfl)) (by unfold st0;split <;> simp) (fun u a=>a.elim) (fun b=>by rw [hmb] at b;cases b)).mono ?_;rintro e w' (⟨b,h⟩|⟨b,u,a,h⟩)
  . have:vq v=(uz,3):=by unfold vq;rw [J3 hmb]
    rw [this];exact h
  . exact a.elim
 | true =>
  have c:v.kind=5->uB v:=fm hmb;refine (iD (zC v) (st0 v) v x w f (g.carry (J0 _) lz (fun _ _ _=>rfl)) (by unfold st0;split <;> simp) (fun u a=>by
   unfold zC at a;by_cases h5:v.kind=5
   . rw [J3 h5] at a;rw [a];exact fC j
   . rw [Z6 h5] at a;rw [a];exact fC rfl) (fun b w1 hb=>dB f i hb.size (g.below hb lz lz lz) (fun hk=>⟨(c hk).2.2.1,(c hk).2.2.2.1⟩))).mono ?_
  rintro e w' (⟨b,h⟩|⟨b,u,a,h⟩)
  . rw [hmb] at b;cases b
  . unfold zC at a;unfold st0 at h;by_cases hk:v.kind=5
    . rw [J3 hk] at a h;subst a;have:vq u=ex u ⟨[],0⟩:=by
       have d:rcC u=(zeroJ,(rcH u).2):=by unfold rcC;rw [fC j];rfl
       unfold vq;rw [Z6 (by rw [hmb];decide),Z6 (by simp [hk]),d];rfl
      rw [this];exact h
    . rw [Z6 hk] at a h;subst a;have:vq v=(uz,10):=by unfold vq;rw [Z6 (by rw [hmb];decide),J3 hk]
      rw [this];rw [iM] at h;exact h
def bg (v:JV):Prop:=v.names.length=v.items.length/\∀x ∈ v.items,x.look mD=none
theorem lr:bg zeroJ:=⟨rfl,fun x hx=>by cases hx⟩
theorem iR {ns:List ByteArray} {xs:List JV} {acc:List (ByteArray × RecV)} {k:Nat} (a:k<ns.length) (b:k<xs.length):wU (ns.drop k) (xs.drop k) acc=if zu ns[k]=false then ([],3) else if (vq xs[k]).2≠0 then ([],(vq xs[k]).2) else wU (ns.drop (k+1)) (xs.drop (k+1)) (acc ++ [(ns[k],(vq xs[k]).1)]):=by rw [V3 a,V3 b];rfl
theorem aZ {ns:List ByteArray} {xs:List JV} {acc:List (ByteArray × RecV)} (k:Nat) (a:ns.length<=k):wU (ns.drop k) (xs.drop k) acc=(acc,0):=by rw [M7 a];rfl
theorem yT:(Tryz.prog.info? 34).map (fun i=>(i.zero,i.size,i.bytes))=some (some (.agg #[.string ⟨#[]⟩,.int .i64 0,.slice none 0 0,.int .u8 0,.int .i64 0,.string ⟨#[]⟩,.slice none 0 0,.slice none 0 0]),8,128):=by kernel_rfl
def wq (r:List (ByteArray × RecV) × Int) (w:World) (e:Ending) (w':World):Prop :=
 ∃a c,e=.returned (.tuple #[.slice a r.1.length c,.int .i64 r.2])/\r.1.length<=c/\qm w' w.heap.size w'.heap.size a r.1/\O5 w w'
theorem pj {a:Int} {w w':World} (b:O5 w w'):wq ([],a) w (.returned (.tuple #[.slice none 0 0,.int .i64 a])) w':=⟨none,0,rfl,J2 _,.inl rfl,b⟩
theorem fD (v:JV) (x:Value) (w:World) (lo:Nat) (k5:0<lo) (hN:v.wt<=4294967296) (hR:Rep w lo w.heap.size v x) (hL:bg v) :
 Calls Tryz.prog 30 #[x] w (wq (wU v.names v.items []) w):=by
 obtain ⟨an,cn,ai,ci,hx,h1,h2,h3,h4⟩:=hR.parts;subst hx;obtain ⟨W,hW⟩:=O1 (w.alloc (.cells #[.int .u8 v.kind,.int .i64 v.n,.string v.t,.slice an v.names.length cn,.slice ai v.items.length ci] 26));have s:=O7 hW
 have S:=O9 hW
 have a6:=O0 (∀w':World,O5 W w'->qy w' lo w'.heap.size an v.names/\zy w' lo w'.heap.size ai v.items/\w'.heap[w.heap.size]?=some (.cells #[.int .u8 v.kind,.int .i64 v.n,.string v.t,.slice an v.names.length cn,.slice ai v.items.length ci] 26 (0,0))) (fun w' h=>⟨h3.below (s.trans (h.mono s.size)) lz lz (Z3 s.size h.size),h4.below (s.trans (h.mono s.size)) lz lz (Z3 s.size h.size),(h.block _ (qz S)).trans S⟩);have g:=U s;have HW:=U hW;have h0:=U k5;have e6:=U hN;have h7:=U hL;obtain ⟨G,hG⟩:=O1 (wU v.names v.items []);rw [<- hG];have HG:=U hG;obtain ⟨J,D⟩:=O1 v.names.length;have a3:=U D;have hl:J<=4294967296:=by rw [D];have:=v.wt_bd;omega
 have d4:=U (show v.items.length=J by rw [D];exact hL.1.symm);obtain ⟨c0,c1,c2,c3,c4⟩:=bx5 S;rw [<- D] at c3;clear h1 h2 h3 h4 hR hW s S k5 hN hL hG D;go_enter Tryz.func30,Tryz.ntmps30;go_upto_region 1 with fail
 rw [<- HW.o];clear HW;go_wp2_with fail;clear c0 c1 c2 c3 c4;go_loopw [4,5,6,7,8,12] (fun s4 _ _ _ _ i wr=>∃(k:Nat) (a:Option Addr) (c:Nat) (qs:List TargC),k<=J/\qs.length=k/\i=.int .i64 k/\s4=.slice a k c/\G=wU (v.names.drop k) (v.items.drop k) (qs.map (fun q=>(q.nm,q.x)))/\kH 34 W.heap.size wr s4 qs/\O5 W wr) (fun _ _ _ _ _ i _=>J - (intOf i).toNat)
 case atStart=>exact ⟨0,none,0,[],by omega,rfl,rfl,rfl,HG.o,ItemsOwn.nil _ _ _ _ _ _,Z0 _ _⟩
 case round =>
  obtain ⟨k,a4,c4,F,hk,f7,rfl,rfl,f2,Z,f0⟩:=hrel;have K:=U f2;have HO:=U Z;have d:=U f0;have L:=U f7;clear f2 Z f0 HG f7;by_cases hlt:k<J
  . have b1:k<v.names.length:=by rw [<- a3.o];exact hlt
    have C:k<v.items.length:=by rw [d4.o];exact hlt
    obtain ⟨f8,i8,T⟩:=a6.o wr d.o;have i7:∃b2 o2,an=some ⟨b2,o2,none⟩/\wr.cell? ⟨b2,o2+k,none⟩=some (.string v.names[k]):=by
     rcases f8 with h|⟨b,off,y,_,hb',R⟩
     . have:=J6 List.length h;rw [zc4] at this;omega
     . exact ⟨b,off,y,R k b1⟩
    obtain ⟨b2,o2,rfl,n0⟩:=i7;have m1:(0:Int)<=(k:Int):=by omega
    have m2:(k:Int)<(J:Int):=by omega
    have m3:decide ((k:Int)<(J:Int))=true:=by simpa using hlt
    have m4:k<v.items.length:=C;have f:=U (iR (ns:=v.names) (xs:=v.items) (acc:=F.map (fun q=>(q.nm,q.x))) b1 C);have b7:v.items[k].wt<=4294967296:=by have:=JV.wts_get v.items k C;have:=v.wt_eq;have:=e6.o;omega
    have b4:v.names[k].size<=9223372036854775807:=by have:=jI v.names k b1;have:=v.wt_eq;have:=e6.o;omega
    have b5:=h7.o.2 _ (J8 C);have a7:=U (fun (w':World) (h:O5 W w')=>(a6.o w' h).2.1.get k C);obtain ⟨it,f3⟩:=O1 (v.items[k]);obtain ⟨I,f5⟩:=O1 (v.names[k]);rw [<- f3] at f b7 b5 a7;rw [<- f5] at n0 f b4;have u:=U (fK I wr b4);have i0:=U b5;have i4:=U b7;clear f3 f5 f8 i8 T b7 b5 b4;go_upto_region 5 with fail
    clear n0;cases hpb:zu I with
    | false => have HF:=O0 (G=([],3)) (by rw [K.o,f.o,J3 hpb]);rw [hpb] at u;clear hpb;go_wp2_with fail;refine u.o.mono ?_;clear u;rintro e H ⟨rfl,z⟩;have g0:=U (O2 g (O2 d z));clear z;go_wp2;go_ret2;rw [HF.o];exact pj g0.o
    | true =>
    rw [hpb] at u;rw [Z6 (by rw [hpb];decide)] at f;clear hpb;go_wp2_with fail;refine u.o.mono ?_;clear u;rintro e H ⟨rfl,z⟩;replace d:=U (O2 d z);replace HO:=U (ItemsOwn.below vN HO.o z);clear z;obtain ⟨-,-,T⟩:=a6.o H d.o;obtain ⟨b,o,k1,k3,k0,k2,y,-,k4,e0,e1,e2,e3,e4,a0⟩:=a7.o H d.o;obtain ⟨y0,y1,y2,y3,y4⟩:=bx5 T;rw [d4.o,y] at y4;rw [<- a3.o] at y3;have A:=U (iL it _ H lo h0.o i4.o a0 i0.o);obtain ⟨DX,e8⟩:=O1 (vq it);rw [<- e8] at A f;clear T a0 e8 a7 y;obtain ⟨r,er⟩:=DX;unfold vB at A;dsimp only at A f;go_wp2_with fail;refine A.o.mono ?_;clear A e0 e1 e2 e3 e4 y0 y1 y2 y3 y4;rintro e V ⟨y,R,rfl,hz,Y,f4,P⟩;obtain ⟨p,N⟩:=O1 (V.alloc (.cells #[.int .i64 r.len,.slice y r.hs.length R,.int .u8 0,.int .i64 0,.string ⟨#[]⟩,.slice none 0 0,.slice none 0 0] 32));have a8:=O7 N
    have c6:=O9 N
    have b0:O5 H p:=P.trans (a8.mono P.size);have h9:=U (ItemsOwn.below vN HO.o b0);have a1:=U (O2 d b0);have g4:=O0 (qJ p H.heap.size V.heap.size y r.hs) (f4.below a8 lz lz lz);have d2:=U (And.intro hz Y);have B:=O0 (W.heap.size<=H.heap.size/\H.heap.size<=V.heap.size/\V.heap.size<p.heap.size) (⟨d.o.size,P.size,qz c6⟩);have e7:=U N;have m:=U c6;have h6:=O0 (∀b,(Value.slice a4 k c4).ownBlock=some b->b<H.heap.size) (fun b s=>(HO.o.own.lt b s).2);clear N a8 c6 b0 hz Y f4 P HO;go_upto_region 8 with fail
    rw [<- e7.o];clear e7;by_cases her:er=0
    case neg =>
     have d1:(er != 0)=true:=by simpa using her
     rw [J3 her] at f;clear her;go_wp2;go_ret2;rw [K.o,f.o];exact pj (g.o.trans (a1.o.mono g.o.size))
    subst her;rw [Z6 (by decide)] at f;have z0:=qq m.o (j:=0) rfl;have z1:=qq m.o (j:=1) rfl;have z2:=qq m.o (j:=2) rfl;have z3:=qq m.o (j:=3) rfl;have z4:=qq m.o (j:=4) rfl;have z5:=qq m.o (j:=5) rfl;have z6:=qq m.o (j:=6) rfl;obtain ⟨X,M⟩:=O1 (p.alloc (.cells #[.string I,.int .i64 r.len,.slice y r.hs.length R,.int .u8 0,.int .i64 0,.string ⟨#[]⟩,.slice none 0 0,.slice none 0 0] 34));have Q:=O7 M
    have c5:=O9 M
    have d7:=U (ItemsOwn.below vN h9.o Q);have a5:=O0 (X.ownsRow W.heap.size 34 8 (.slice a4 k c4) k (F.flatMap dX)) (by have:=d7.o.own;rw [L.o] at this;exact this);have d0:=U (O2 a1 Q);have d3:=U (g4.o.below Q (by have:=B.o;omega) lz lz);have i5:=U c5;have i3:=U M;have e5:=O0 (p.heap.size<X.heap.size) (qz c5);obtain ⟨i1,i6,j0,j1,j2⟩:=V2 yT;have i9:W.heap.size<=X.heap.size:=d0.o.size;clear M Q c5;go_upto_region 11 with (at_builtin;rw [<- i3.o];(refine Y1 _ rfl (.tmp 32) (.tmp 36) 35 rfl W.heap.size 34 i1 _ 8 128 Tryz.underlying35 i6 j0 j1 j2 rfl (by omega) (.slice a4 k c4) k (F.flatMap dX) rfl a5.o ⟨p.heap.size,0,none⟩ 1 1 [.string I,.int .i64 r.len,.slice y r.hs.length R,.int .u8 0,.int .i64 0,.string ⟨#[]⟩,.slice none 0 0,.slice none 0 0] rfl rfl (J9 (cs:=#[.string I,.int .i64 r.len,.slice y r.hs.length R,.int .u8 0,.int .i64 0,.string ⟨#[]⟩,.slice none 0 0,.slice none 0 0]) (t:=34) (fr:=(0,0)) i5.o) (by simp [Value.oneCell']) (by omega) (by unfold maxLen;omega) (by omega) (by have:=e5.o;have:=B.o;omega) X.heap.size (by omega) ?_);intro g2 cap2 w7 hown6 hgrow6 hat6 hlt6;have d6:=U hown6;have a2:=U hgrow6;have c7:=U hat6;clear hown6 hgrow6 hat6)
    obtain ⟨qn,E⟩:∃qn:TargC,qn=⟨I,r,y,R⟩:=⟨_,rfl⟩;have j3:=U E;have h8:=U (show kH 34 W.heap.size w7 (.slice (some ⟨g2,0,none⟩) (k+1) cap2) (F ++ [qn]) from ItemsOwn.snoc vN (v':=.slice (some ⟨g2,0,none⟩) (k+1) cap2) d7.o qn H.heap.size V.heap.size B.o.1 (by have:=B.o;have:=e5.o;omega) (fun b s hbg=>by
     have h1:=h6.o b s;have:=B.o;omega) (by rw [E];exact ⟨d2.o.1,d2.o.2,d3.o⟩) a2.o (by rw [L.o,E];exact d6.o) (by
     rcases c7.o with h|h
     . exact .inl h.symm
     . exact .inr ⟨g2,rfl,by omega⟩))
    have g1:=U (below_grown d0.o i9 a2.o (fun b s=>(a5.o.lt b s).1));have g7:=O0 ((F ++ [qn]).length=k+1) (by rw [K3,L.o];rfl);have h5:=O0 ((F ++ [qn]).map (fun q=>(q.nm,q.x))=F.map (fun q=>(q.nm,q.x)) ++ [(I,r)]) (by rw [K6,E];rfl);clear d6 a2 c7 a5 E z0 z1 z2 z3 z4 z5 z6;go_wp2;go_roundw
    case rel=>exact ⟨k+1,some ⟨g2,0,none⟩,cap2,F ++ [qn],by omega,g7.o,by go_num,rfl,by rw [K.o,f.o,h5.o],h8.o,g1.o⟩
    case measure=>simp [intOf];omega
  . have m3:decide ((k:Int)<(J:Int))=false:=by simpa using hlt
    have d5:=U (show G=(F.map (fun q=>(q.nm,q.x)),0) from by
     rw [K.o,aZ k (by rw [<- a3.o];omega)])
    obtain ⟨a9,c9,b6,f1,f6⟩:=kH.row (l:=F.map (fun q=>(q.nm,q.x))) HO.o rfl;have b3:(F.map (fun q=>(q.nm,q.x))).length=k:=by rw [X7];exact L.o
    rw [b3] at b6;simp only [Y2,za5] at b6;obtain ⟨rfl,rfl⟩:=b6;have i2:=U f6;have g3:=U f1;have g5:=U b3;clear f6 f1 b3;go_wp2;go_ret2;rw [d5.o];exact ⟨a4,c4,by rw [g5.o] <;> rfl,g3.o,i2.o.carry g.o.size lz (fun _ _ _=>rfl),g.o.trans (d.o.mono g.o.size)⟩
theorem wz (l m:List ByteArray) (a b:Option Addr) (c d:Nat) (w:World) (W:qy w 0 w.heap.size a l) (X:qy w 0 w.heap.size b m) (Y:l.length<=4294967296) :
 Calls Tryz.prog 79 #[.slice a l.length c,.slice b m.length d] w fun e w'=>e=.returned (.bool (decide (l=m)))/\∃n,w'=w.drewN n:=by
 have J:=U W;have B:=U X;clear W X;by_cases hlm:l.length=m.length
 case neg =>
  have N:((l.length:Int) != (m.length:Int))=true:=by simp;omega
  have K:=O0 (decide (l=m)=false) (X0 fun e=>hlm (by rw [e]));clear hlm;go_enter Tryz.func79,Tryz.ntmps79;go_wp2;go_ret;exact ⟨qx K.o.symm,0,rfl⟩
 obtain ⟨n,A⟩:=O1 l.length;have j:=U A;have o:=U (show n=m.length by rw [A,hlm]);rw [<- hlm,<- A];have L:n<=4294967296:=by omega
 have N:((n:Int) != (n:Int))=false:=by simp
 clear hlm A Y;go_enter Tryz.func79,Tryz.ntmps79;go_wp2_with fail;go_loopw [5] (fun i wr=>∃k:Nat,k<=n/\i=.int .i64 k/\l.take k=m.take k/\∃z,wr=w.drewN z) (fun i _=>n - (intOf i).toNat)
 case atStart=>exact ⟨0,by omega,rfl,rfl,0,rfl⟩
 case round =>
  obtain ⟨k,P,rfl,v,z,rfl⟩:=hrel;have q:=U v;clear v;by_cases hlt:k<n
  . have s:k<l.length:=by rw [<- j.o];exact hlt
    have u:k<m.length:=by rw [<- o.o];exact hlt
    obtain ⟨p,f,E,_,Q,H⟩:=J.o.at k s;subst E;obtain ⟨V,g,E,_,M,I⟩:=B.o.at k u;subst E;have r:=O0 (l[k]=m[k]->l.take (k+1)=m.take (k+1)) (fun e=>by rw [Z7 s,Z7 u,q.o,e]);have h:=O0 (l[k]≠m[k]->decide (l=m)=false) (fun e=>X0 fun e2=>e (by subst e2;rfl));obtain ⟨x,F⟩:∃x:ByteArray,x=l[k]:=⟨_,rfl⟩;obtain ⟨y,G⟩:∃y:ByteArray,y=m[k]:=⟨_,rfl⟩;replace H:=H.trans (J6 (fun z:ByteArray=>some (Value.string z)) F.symm);replace I:=I.trans (J6 (fun z:ByteArray=>some (Value.string z)) G.symm);rw [<- F,<- G] at r h;clear F G;have R:(0:Int)<=(k:Int):=by omega
    have S:(k:Int)<(n:Int):=by omega
    have T:decide ((k:Int)<(n:Int))=true:=by simpa using hlt
    cases h1:(x.toList == y.toList)
    . have D:=U (h.o fun e=>by rw [e] at h1;simp at h1);go_wp2_with fail;go_quiet (fail);go_wp2;go_ret;exact ⟨qx D.o.symm,_,World.drewN_drewN ..⟩
    . have C:=U (r.o (by rw [ba_eq,J1] at h1;exact h1));go_wp2_with fail;go_quiet (fail);go_wp2;go_roundw
      case rel=>exact ⟨k+1,by omega,by go_num,C.o,_,rfl⟩
      case measure=>simp [intOf];omega
  . obtain rfl:k=n:=by omega
    have D:=U (show decide (l=m)=true by
     have:=q.o;rw [J4 (by rw [<- j.o];exact J2 _),J4 (by rw [<- o.o];exact J2 _)] at this;exact X3 this)
    go_wp2;go_ret;exact ⟨qx D.o.symm,z,rfl⟩
theorem lQ (l g:List Key2) (h f:List DelegV) (b a t i:Int) (e d:ByteArray) (ids c:List ByteArray):decide ((⟨l,h,⟨b,e,⟨t,ids⟩⟩⟩:DelegsV)=⟨g,f,⟨a,d,⟨i,c⟩⟩⟩)=(decide (l=g) && (decide (b=a) && (decide (e=d) && (decide ((⟨t,ids⟩:AuthV)=⟨i,c⟩) && decide (h=f))))):=by simp only [DelegsV.mk.injEq,BinsV.mk.injEq,Bool.decide_and];cases decide (l=g) <;> cases decide (h=f) <;> cases decide (b=a) <;> cases decide (e=d) <;> cases decide ((⟨t,ids⟩:AuthV)=⟨i,c⟩) <;> rfl
theorem pk (n c:ByteArray) (a b:AuthV) (t f:Bool) (p d q e:List ByteArray):decide ((⟨n,a,t,p,q⟩:DelegV)=⟨c,b,f,d,e⟩)=(decide (n=c) && (decide (t=f) && (decide (a=b) && (decide (p=d) && decide (q=e))))):=by simp only [DelegV.mk.injEq,Bool.decide_and];cases decide (n=c) <;> cases decide (a=b) <;> cases decide (t=f) <;> cases decide (p=d) <;> cases decide (q=e) <;> rfl
theorem aX (l:List Key2) (rs:List DelegV) (t f0:Int) (ids:List ByteArray) (f8:ByteArray) (ka ra ba:Option Addr) (kc rc bc:Nat) (l2:List Key2) (e7:List DelegV) (t2 e6:Int) (f7:List ByteArray) (e8:ByteArray) (kb rb bb:Option Addr) (kd rd bd:Nat) (w:World)
 (hI:DelegsIn w 0 w.heap.size ⟨l,rs,⟨f0,f8,⟨t,ids⟩⟩⟩ ka ra ba) (hJ:DelegsIn w 0 w.heap.size ⟨l2,e7,⟨e6,e8,⟨t2,f7⟩⟩⟩ kb rb bb) (hf:DelegsFits ⟨l,rs,⟨f0,f8,⟨t,ids⟩⟩⟩) (hg:DelegsFits ⟨l2,e7,⟨e6,e8,⟨t2,f7⟩⟩⟩) :
 Calls Tryz.prog 35 #[.agg #[.slice ka l.length kc,.slice ra rs.length rc,.int .i64 t,.slice ba ids.length bc,.int .i64 f0,.string f8],.agg #[.slice kb l2.length kd,.slice rb e7.length rd,.int .i64 t2,.slice bb f7.length bd,.int .i64 e6,.string e8]] w fun r w'=>r=.returned (.bool (decide ((⟨l,rs,⟨f0,f8,⟨t,ids⟩⟩⟩:DelegsV)=⟨l2,e7,⟨e6,e8,⟨t2,f7⟩⟩⟩)))/\O5 w w':=by
 obtain ⟨W,hW⟩:=O1 ((w.alloc (.cells #[.slice ka l.length kc,.slice ra rs.length rc,.int .i64 t,.slice ba ids.length bc,.int .i64 f0,.string f8] 43)).alloc (.cells #[.slice kb l2.length kd,.slice rb e7.length rd,.int .i64 t2,.slice bb f7.length bd,.int .i64 e6,.string e8] 43));have hb:O5 w W:=by rw [hW];exact (O4).alloc (by simp) _
 have hx:W.heap[w.heap.size]?=some (.cells #[.slice ka l.length kc,.slice ra rs.length rc,.int .i64 t,.slice ba ids.length bc,.int .i64 f0,.string f8] 43 (0,0)):=by rw [hW];exact qO w _ _
 have hy:W.heap[w.heap.size+1]?=some (.cells #[.slice kb l2.length kd,.slice rb e7.length rd,.int .i64 t2,.slice bb f7.length bd,.int .i64 e6,.string e8] 43 (0,0)):=by rw [hW];exact kt w _ _
 have HC:=U (show ∀w':World,O5 W w'->w'.cell? ⟨w.heap.size,0,none⟩=some (.slice ka l.length kc)/\w'.cell? ⟨w.heap.size,1,none⟩=some (.slice ra rs.length rc)/\w'.cell? ⟨w.heap.size,2,none⟩=some (.int .i64 t)/\w'.cell? ⟨w.heap.size,3,none⟩=some (.slice ba ids.length bc)/\w'.cell? ⟨w.heap.size,4,none⟩=some (.int .i64 f0)/\w'.cell? ⟨w.heap.size,5,none⟩=some (.string f8)/\w'.cell? ⟨w.heap.size+1,0,none⟩=some (.slice kb l2.length kd)/\w'.cell? ⟨w.heap.size+1,1,none⟩=some (.slice rb e7.length rd)/\w'.cell? ⟨w.heap.size+1,2,none⟩=some (.int .i64 t2)/\w'.cell? ⟨w.heap.size+1,3,none⟩=some (.slice bb f7.length bd)/\w'.cell? ⟨w.heap.size+1,4,none⟩=some (.int .i64 e6)/\w'.cell? ⟨w.heap.size+1,5,none⟩=some (.string e8) from fun w' h=>by
  have H:=(h.block _ (qz hx)).trans hx;have I:=(h.block _ (qz hy)).trans hy;exact ⟨qq H rfl,qq H rfl,qq H rfl,qq H rfl,qq H rfl,qq H rfl,qq I rfl,qq I rfl,qq I rfl,qq I rfl,qq I rfl,qq I rfl⟩)
 have D:=U (lQ l l2 rs e7 f0 e6 t t2 f8 e8 ids f7);have HI:=O0 (∀w':World,O5 W w'->DelegsIn w' 0 w'.heap.size ⟨l,rs,⟨f0,f8,⟨t,ids⟩⟩⟩ ka ra ba/\DelegsIn w' 0 w'.heap.size ⟨l2,e7,⟨e6,e8,⟨t2,f7⟩⟩⟩ kb rb bb) (fun w' h=>⟨hI.below (hb.trans (h.mono hb.size)) lz lz (Z3 hb.size h.size),hJ.below (hb.trans (h.mono hb.size)) lz lz (Z3 hb.size h.size)⟩);have HF:=U (And.intro hf hg);have f1:l.length<=40:=hf.len;have f2:l2.length<=40:=hg.len;have f3:rs.length<=70:=hf.many;have f4:e7.length<=70:=hg.many;have f5:ids.length<=4294967296:=hf.au.2.1;have f6:f7.length<=4294967296:=hg.au.2.1;have s:=U hb;have d1:=U hW;have d6:=O0 (w.heap.size+1<W.heap.size) (qz hy);have a9:=U (aQ l l2 ka kb kc kd W (HI.o W (Z0 _ _)).1.keys (HI.o W (Z0 _ _)).2.keys (by omega) (by omega));have a8:=O0 (∀w':World,O5 W w'->_) (fun w' h=>bw t t2 ids f7 ba bb bc bd w' (HI.o w' h).1.bids (HI.o w' h).2.bids f5 f6);obtain ⟨q,hq⟩:=O1 (decide ((⟨l,rs,⟨f0,f8,⟨t,ids⟩⟩⟩:DelegsV)=⟨l2,e7,⟨e6,e8,⟨t2,f7⟩⟩⟩));rw [<- hq] at D ⊢;obtain ⟨ek,d4⟩:=O1 (decide (l=l2));rw [<- d4] at a9 D;obtain ⟨ea,d3⟩:=O1 (decide ((⟨t,ids⟩:AuthV)=⟨t2,f7⟩));rw [<- d3] at a8 D;clear hb hW hx hy hI hJ hf hg hq d4 d3 f1 f2 f5 f6;obtain ⟨x0,x1,x2,x3,x4,x5,y0,y1,y2,y3,y4,y5⟩:=HC.o W (Z0 _ _);go_enter Tryz.func35,Tryz.ntmps35;go_upto_region 1 with fail
 rw [<- d1.o];clear d1;go_wp2_with fail;refine a9.o.mono ?_;clear a9;clear x0 x1 x2 x3 x4 x5 y0 y1 y2 y3 y4 y5;rintro r w1 ⟨rfl,b2⟩;have S:=U b2;obtain ⟨x0,x1,x2,x3,x4,x5,y0,y1,y2,y3,y4,y5⟩:=HC.o w1 b2;clear b2;cases ek with
 | false => rw [M0] at D;go_wp2;go_ret;exact ⟨qx D.o.symm,s.o.trans (S.o.mono s.o.size)⟩
 | true =>
 rw [Y4] at D;by_cases hlr:rs.length=e7.length
 case neg =>
  have n2:((rs.length:Int) != (e7.length:Int))=true:=by simp;omega
  have C:=U (show q=false by rw [D.o,X0 (p:=rs=e7) (fun e=>hlr (by rw [e]))];simp);clear hlr;go_wp2;go_ret;exact ⟨qx C.o.symm,s.o.trans (S.o.mono s.o.size)⟩
 obtain ⟨nn,a2⟩:=O1 rs.length;have b1:=U a2;have c9:=U (show nn=e7.length by rw [a2,hlr]);rw [<- hlr] at y1;rw [<- a2] at x1 y1 f3;have n2:((nn:Int) != (nn:Int))=false:=by simp
 by_cases hbt:f0=e6
 case neg =>
  have n3:(f0 != e6)=true:=by simpa using hbt
  have C:=U (show q=false by rw [D.o,X0 hbt];simp);clear hbt hlr a2;go_wp2;go_ret;exact ⟨qx C.o.symm,s.o.trans (S.o.mono s.o.size)⟩
 have n3:(f0 != e6)=false:=by simpa using hbt
 rw [X3 hbt,Y4] at D;cases hpr:(f8.toList == e8.toList)
 . have n4:(f8.toList != e8.toList)=true:=by simpa [bne] using hpr
   have C:=U (show q=false by rw [D.o,X0 (p:=f8=e8) (fun e=>by rw [e] at hpr;simp at hpr)];simp);clear hbt hlr a2;go_wp2;go_ret;exact ⟨qx C.o.symm,s.o.trans (S.o.mono s.o.size)⟩
 have n4:(f8.toList != e8.toList)=false:=by simpa [bne] using hpr
 rw [X3 (p:=f8=e8) (by rw [ba_eq,J1] at hpr;exact hpr),Y4] at D;have c5:=U hlr;clear hbt hlr a2;go_wp2_with fail;refine (a8.o w1 S.o).mono ?_;clear a8;clear x0 x1 x2 x3 x4 x5 y0 y1 y2 y3 y4 y5;rintro r w2 ⟨rfl,d2⟩;have c4:=U (O2 S d2);clear d2;cases ea with
 | false => rw [M0] at D;go_wp2;go_ret;exact ⟨qx D.o.symm,s.o.trans (c4.o.mono s.o.size)⟩
 | true =>
 rw [Y4] at D;rw [<- c5.o,<- b1.o] at HC;clear c5 n2 n3 n4 hpr;go_wp2_with fail;go_loopw [5,6,7] (fun i _ _ wr=>∃k:Nat,k<=nn/\i=.int .i64 k/\rs.take k=e7.take k/\O5 W wr) (fun i _ _ _=>nn - (intOf i).toNat)
 case atStart=>exact ⟨0,by omega,rfl,rfl,c4.o⟩
 case round =>
  obtain ⟨k,hk,rfl,d5,b3⟩:=hrel;have d0:=U d5;have Q:=U b3;obtain ⟨x0,x1,x2,x3,x4,x5,y0,y1,y2,y3,y4,y5⟩:=HC.o wr b3;clear d5 b3;by_cases hlt:k<nn
  . have b6:k<rs.length:=by rw [<- b1.o];exact hlt
    have b7:k<e7.length:=by rw [<- c9.o];exact hlt
    obtain ⟨p,o,ha,-,hp,ia,ic,pa,pc,qa,qc,e0,e1,e2,e3,e4,e5,-,-,-,b4⟩:=(HI.o wr Q.o).1.roles.at k b6;subst ha;obtain ⟨p2,o2,ha,-,d7,ja,jc,va,vc,sa,sc,g0,g1,g2,g3,g4,g5,-,-,-,b5⟩:=(HI.o wr Q.o).2.roles.at k b7;subst ha;have m1:(0:Int)<=(k:Int):=by omega
    have m2:(k:Int)<(nn:Int):=by omega
    have m3:decide ((k:Int)<(nn:Int))=true:=by simpa using hlt
    have R:=O0 (rs[k]=e7[k]->rs.take (k+1)=e7.take (k+1)) (fun e=>by rw [Z7 b6,Z7 b7,d0.o,e]);have m:=O0 (rs[k]≠e7[k]->decide (rs=e7)=false) (fun e=>X0 fun e2=>e (by subst e2;rfl));have B:=HF.o.1.roles _ (J8 b6);have N:=HF.o.2.roles _ (J8 b7);obtain ⟨x,hx⟩:=O1 (rs[k]);rw [<- hx] at e0 e1 e2 e3 e4 e5 b4 R m B;obtain ⟨y,hy⟩:=O1 (e7[k]);rw [<- hy] at g0 g1 g2 g3 g4 g5 b5 R m N;clear hx hy;obtain ⟨F,⟨z,A⟩,G,ps,qs⟩:=x;obtain ⟨f,⟨c,d⟩,g,u,v⟩:=y;dsimp only at e0 e1 e2 e3 e4 e5 g0 g1 g2 g3 g4 g5;have a0:=U b4;have a1:=U b5;have c6:=U B;have c7:=U N;have HP:=O0 (w.heap.size+1<wr.heap.size) (X1 d6.o Q.o.size);clear b4 b5 B N;go_upto_region 6 with fail
    clear x0 x2 x3 x4 x5 y0 y2 y3 y4 y5
    go_region_held3 (fun w'=>w'.cell? ⟨w.heap.size,1,none⟩=some (.slice (some ⟨p,o,none⟩) nn rc)/\w'.cell? ⟨w.heap.size+1,1,none⟩=some (.slice (some ⟨p2,o2,none⟩) nn rd)/\w'.cell? ⟨p,o+k * 6,none⟩=some (.string F)/\w'.cell? ⟨p,o+k * 6+1,none⟩=some (.int .i64 z)/\w'.cell? ⟨p,o+k * 6+2,none⟩=some (.slice ia A.length ic)/\w'.cell? ⟨p,o+k * 6+3,none⟩=some (.bool G)/\w'.cell? ⟨p,o+k * 6+4,none⟩=some (.slice pa ps.length pc)/\w'.cell? ⟨p,o+k * 6+5,none⟩=some (.slice qa qs.length qc)/\w'.cell? ⟨p2,o2+k * 6,none⟩=some (.string f)/\w'.cell? ⟨p2,o2+k * 6+1,none⟩=some (.int .i64 c)/\w'.cell? ⟨p2,o2+k * 6+2,none⟩=some (.slice ja d.length jc)/\w'.cell? ⟨p2,o2+k * 6+3,none⟩=some (.bool g)/\w'.cell? ⟨p2,o2+k * 6+4,none⟩=some (.slice va u.length vc)/\w'.cell? ⟨p2,o2+k * 6+5,none⟩=some (.slice sa v.length sc)) (first|(with_reducible exact ⟨x1,y1,e0,e1,e2,e3,e4,e5,g0,g1,g2,g3,g4,g5⟩)|(go_keep;done)) (fail)
    . rename_i hS;clear hS;obtain ⟨j,E⟩:=O1 (((wr.alloc (.cells #[.string F,.int .i64 z,.slice ia A.length ic,.bool G,.slice pa ps.length pc,.slice qa qs.length qc] 58)).alloc (.cells #[.string f,.int .i64 c,.slice ja d.length jc,.bool g,.slice va u.length vc,.slice sa v.length sc] 58)).drew);rw [<- E];have M:O5 wr j:=by rw [E];exact ((O4).alloc (by simp) _).drew
      have Y:j.heap[wr.heap.size]?=some (.cells #[.string F,.int .i64 z,.slice ia A.length ic,.bool G,.slice pa ps.length pc,.slice qa qs.length qc] 58 (0,0)):=by rw [E];exact qO wr _ _
      have Z:j.heap[wr.heap.size+1]?=some (.cells #[.string f,.int .i64 c,.slice ja d.length jc,.bool g,.slice va u.length vc,.slice sa v.length sc] 58 (0,0)):=by rw [E];exact kt wr _ _
      have a4:=U (show ∀w':World,O5 j w'->w'.cell? ⟨wr.heap.size,0,none⟩=some (.string F)/\w'.cell? ⟨wr.heap.size,1,none⟩=some (.int .i64 z)/\w'.cell? ⟨wr.heap.size,2,none⟩=some (.slice ia A.length ic)/\w'.cell? ⟨wr.heap.size,3,none⟩=some (.bool G)/\w'.cell? ⟨wr.heap.size,4,none⟩=some (.slice pa ps.length pc)/\w'.cell? ⟨wr.heap.size,5,none⟩=some (.slice qa qs.length qc)/\w'.cell? ⟨wr.heap.size+1,0,none⟩=some (.string f)/\w'.cell? ⟨wr.heap.size+1,1,none⟩=some (.int .i64 c)/\w'.cell? ⟨wr.heap.size+1,2,none⟩=some (.slice ja d.length jc)/\w'.cell? ⟨wr.heap.size+1,3,none⟩=some (.bool g)/\w'.cell? ⟨wr.heap.size+1,4,none⟩=some (.slice va u.length vc)/\w'.cell? ⟨wr.heap.size+1,5,none⟩=some (.slice sa v.length sc) from fun w' h=>by
       have H:=(h.block _ (qz Y)).trans Y;have I:=(h.block _ (qz Z)).trans Z;exact ⟨qq H rfl,qq H rfl,qq H rfl,qq H rfl,qq H rfl,qq H rfl,qq I rfl,qq I rfl,qq I rfl,qq I rfl,qq I rfl,qq I rfl⟩)
      have K:=U (O2 Q M);have B:=c6.o;have N:=c7.o;have a:=fun (w':World) (h:O5 j w')=>M.trans (h.mono M.size);have T:=O0 (∀w':World,O5 j w'->_) (fun w' h=>bw z c A d ia ja ic jc w' (a0.o.ids.below (a w' h) lz lz (a w' h).size) (a1.o.ids.below (a w' h) lz lz (a w' h).size) B.au.2.1 N.au.2.1);have V:=O0 (∀w':World,O5 j w'->_) (fun w' h=>wz ps u pa va pc vc w' (a0.o.paths.below (a w' h) lz lz (a w' h).size) (a1.o.paths.below (a w' h) lz lz (a w' h).size) B.paths.1);have X:=O0 (∀w':World,O5 j w'->_) (fun w' h=>wz qs v qa sa qc sc w' (a0.o.pres.below (a w' h) lz lz (a w' h).size) (a1.o.pres.below (a w' h) lz lz (a w' h).size) B.pres.1);have b:=U (pk F f ⟨z,A⟩ ⟨c,d⟩ G g ps u qs v);obtain ⟨sx,P⟩:=O1 (decide ((⟨F,⟨z,A⟩,G,ps,qs⟩:DelegV)=⟨f,⟨c,d⟩,g,u,v⟩));rw [<- P] at b;replace m:=O0 (sx=false->decide (rs=e7)=false) (fun h=>m.o (by rw [P] at h;exact of_decide_eq_false h));replace R:=O0 (sx=true->rs.take (k+1)=e7.take (k+1)) (fun h=>R.o (by rw [P] at h;exact of_decide_eq_true h));obtain ⟨c3,a5⟩:∃s',s'=decide ((⟨z,A⟩:AuthV)=⟨c,d⟩):=⟨_,rfl⟩;rw [<- a5] at b T;obtain ⟨sp,a6⟩:∃s',s'=decide (ps=u):=⟨_,rfl⟩;rw [<- a6] at b V;obtain ⟨sq,a7⟩:∃s',s'=decide (qs=v):=⟨_,rfl⟩;rw [<- a7] at b X;clear E M Y Z B N a P a5 a6 a7 x1 y1 e0 e1 e2 e3 e4 e5 g0 g1 g2 g3 g4 g5;obtain ⟨u0,u1,u2,u3,u4,u5,v0,v1,v2,v3,v4,v5⟩:=a4.o j (Z0 _ _);cases hn:(F.toList == f.toList)
      . have c0:(F.toList != f.toList)=true:=by simpa [bne] using hn
        have C:=U (show q=false by rw [D.o];exact m.o (by rw [b.o,X0 (p:=F=f) (fun e=>by rw [e] at hn;simp at hn)];rfl));go_wp2;go_ret;exact ⟨qx C.o.symm,s.o.trans (K.o.mono s.o.size)⟩
      have c0:(F.toList != f.toList)=false:=by simpa [bne] using hn
      rw [X3 (p:=F=f) (by rw [ba_eq,J1] at hn;exact hn),Y4] at b;by_cases ht:G=g
      case neg =>
       have c1:(G != g)=true:=by simpa using ht
       have c2:(G == g)=false:=by simpa using ht
       have C:=U (show q=false by rw [D.o];exact m.o (by rw [b.o,X0 ht];rfl));clear ht;go_wp2;go_ret;exact ⟨qx C.o.symm,s.o.trans (K.o.mono s.o.size)⟩
      have c1:(G != g)=false:=by simpa using ht
      have c2:(G == g)=true:=by simpa using ht
      rw [X3 ht,Y4] at b;clear ht;go_wp2_with fail;refine (T.o j (Z0 _ _)).mono ?_;clear T;clear u0 v0 u1 v1 u2 v2 u3 v3 u4 v4 u5 v5;rintro r w5 ⟨rfl,L⟩;obtain ⟨u0,u1,u2,u3,u4,u5,v0,v1,v2,v3,v4,v5⟩:=a4.o w5 L;have a3:=U L;have J:=U (O2 K L);clear L;cases c3 with
      | false => have C:=U (show q=false by rw [D.o];exact m.o (by rw [b.o];rfl));go_wp2;go_ret;exact ⟨qx C.o.symm,s.o.trans (J.o.mono s.o.size)⟩
      | true =>
      rw [Y4] at b;go_wp2_with fail;refine (V.o w5 a3.o).mono ?_;clear V;rintro r w6 ⟨rfl,n6,rfl⟩;cases sp with
      | false => have C:=U (show q=false by rw [D.o];exact m.o (by rw [b.o];rfl));go_wp2;go_ret;exact ⟨qx C.o.symm,Below.drewN (s.o.trans (J.o.mono s.o.size)) _⟩
      | true =>
      rw [Y4] at b;go_wp2_with fail;refine (X.o (w5.drewN n6) (Below.drewN a3.o _)).mono ?_;clear X;rintro r w7 ⟨rfl,n7,rfl⟩;cases sq with
      | false => have C:=U (show q=false by rw [D.o];exact m.o b.o);go_wp2;go_ret;exact ⟨qx C.o.symm,Below.drewN (s.o.trans (J.o.mono s.o.size)) _⟩
      | true =>
       have b0:=U (R.o b.o);go_wp2;go_roundw
       case rel=>exact ⟨k+1,by omega,by go_num,b0.o,Below.drewN J.o _⟩
       case measure=>simp [intOf];omega
    . rename_i hS;clear hS;obtain ⟨j,E⟩:=O1 (((wr.alloc (.cells #[.string f,.int .i64 c,.slice ja d.length jc,.bool g,.slice va u.length vc,.slice sa v.length sc] 58)).alloc (.cells #[.string F,.int .i64 z,.slice ia A.length ic,.bool G,.slice pa ps.length pc,.slice qa qs.length qc] 58)).drew);rw [<- E];have M:O5 wr j:=by rw [E];exact ((O4).alloc (by simp) _).drew
      have Y:j.heap[wr.heap.size+1]?=some (.cells #[.string F,.int .i64 z,.slice ia A.length ic,.bool G,.slice pa ps.length pc,.slice qa qs.length qc] 58 (0,0)):=by rw [E];exact kt wr _ _
      have Z:j.heap[wr.heap.size]?=some (.cells #[.string f,.int .i64 c,.slice ja d.length jc,.bool g,.slice va u.length vc,.slice sa v.length sc] 58 (0,0)):=by rw [E];exact qO wr _ _
      have a4:=U (show ∀w':World,O5 j w'->w'.cell? ⟨wr.heap.size+1,0,none⟩=some (.string F)/\w'.cell? ⟨wr.heap.size+1,1,none⟩=some (.int .i64 z)/\w'.cell? ⟨wr.heap.size+1,2,none⟩=some (.slice ia A.length ic)/\w'.cell? ⟨wr.heap.size+1,3,none⟩=some (.bool G)/\w'.cell? ⟨wr.heap.size+1,4,none⟩=some (.slice pa ps.length pc)/\w'.cell? ⟨wr.heap.size+1,5,none⟩=some (.slice qa qs.length qc)/\w'.cell? ⟨wr.heap.size,0,none⟩=some (.string f)/\w'.cell? ⟨wr.heap.size,1,none⟩=some (.int .i64 c)/\w'.cell? ⟨wr.heap.size,2,none⟩=some (.slice ja d.length jc)/\w'.cell? ⟨wr.heap.size,3,none⟩=some (.bool g)/\w'.cell? ⟨wr.heap.size,4,none⟩=some (.slice va u.length vc)/\w'.cell? ⟨wr.heap.size,5,none⟩=some (.slice sa v.length sc) from fun w' h=>by
       have H:=(h.block _ (qz Y)).trans Y;have I:=(h.block _ (qz Z)).trans Z;exact ⟨qq H rfl,qq H rfl,qq H rfl,qq H rfl,qq H rfl,qq H rfl,qq I rfl,qq I rfl,qq I rfl,qq I rfl,qq I rfl,qq I rfl⟩)
      have K:=U (O2 Q M);have B:=c6.o;have N:=c7.o;have a:=fun (w':World) (h:O5 j w')=>M.trans (h.mono M.size);have T:=O0 (∀w':World,O5 j w'->_) (fun w' h=>bw z c A d ia ja ic jc w' (a0.o.ids.below (a w' h) lz lz (a w' h).size) (a1.o.ids.below (a w' h) lz lz (a w' h).size) B.au.2.1 N.au.2.1);have V:=O0 (∀w':World,O5 j w'->_) (fun w' h=>wz ps u pa va pc vc w' (a0.o.paths.below (a w' h) lz lz (a w' h).size) (a1.o.paths.below (a w' h) lz lz (a w' h).size) B.paths.1);have X:=O0 (∀w':World,O5 j w'->_) (fun w' h=>wz qs v qa sa qc sc w' (a0.o.pres.below (a w' h) lz lz (a w' h).size) (a1.o.pres.below (a w' h) lz lz (a w' h).size) B.pres.1);have b:=U (pk F f ⟨z,A⟩ ⟨c,d⟩ G g ps u qs v);obtain ⟨sx,P⟩:=O1 (decide ((⟨F,⟨z,A⟩,G,ps,qs⟩:DelegV)=⟨f,⟨c,d⟩,g,u,v⟩));rw [<- P] at b;replace m:=O0 (sx=false->decide (rs=e7)=false) (fun h=>m.o (by rw [P] at h;exact of_decide_eq_false h));replace R:=O0 (sx=true->rs.take (k+1)=e7.take (k+1)) (fun h=>R.o (by rw [P] at h;exact of_decide_eq_true h));obtain ⟨c3,a5⟩:∃s',s'=decide ((⟨z,A⟩:AuthV)=⟨c,d⟩):=⟨_,rfl⟩;rw [<- a5] at b T;obtain ⟨sp,a6⟩:∃s',s'=decide (ps=u):=⟨_,rfl⟩;rw [<- a6] at b V;obtain ⟨sq,a7⟩:∃s',s'=decide (qs=v):=⟨_,rfl⟩;rw [<- a7] at b X;clear E M Y Z B N a P a5 a6 a7 x1 y1 e0 e1 e2 e3 e4 e5 g0 g1 g2 g3 g4 g5;obtain ⟨u0,u1,u2,u3,u4,u5,v0,v1,v2,v3,v4,v5⟩:=a4.o j (Z0 _ _);cases hn:(F.toList == f.toList)
      . have c0:(F.toList != f.toList)=true:=by simpa [bne] using hn
        have C:=U (show q=false by rw [D.o];exact m.o (by rw [b.o,X0 (p:=F=f) (fun e=>by rw [e] at hn;simp at hn)];rfl));go_wp2;go_ret;exact ⟨qx C.o.symm,s.o.trans (K.o.mono s.o.size)⟩
      have c0:(F.toList != f.toList)=false:=by simpa [bne] using hn
      rw [X3 (p:=F=f) (by rw [ba_eq,J1] at hn;exact hn),Y4] at b;by_cases ht:G=g
      case neg =>
       have c1:(G != g)=true:=by simpa using ht
       have c2:(G == g)=false:=by simpa using ht
       have C:=U (show q=false by rw [D.o];exact m.o (by rw [b.o,X0 ht];rfl));clear ht;go_wp2;go_ret;exact ⟨qx C.o.symm,s.o.trans (K.o.mono s.o.size)⟩
      have c1:(G != g)=false:=by simpa using ht
      have c2:(G == g)=true:=by simpa using ht
      rw [X3 ht,Y4] at b;clear ht;go_wp2_with fail;refine (T.o j (Z0 _ _)).mono ?_;clear T;clear u0 v0 u1 v1 u2 v2 u3 v3 u4 v4 u5 v5;rintro r w5 ⟨rfl,L⟩;obtain ⟨u0,u1,u2,u3,u4,u5,v0,v1,v2,v3,v4,v5⟩:=a4.o w5 L;have a3:=U L;have J:=U (O2 K L);clear L;cases c3 with
      | false => have C:=U (show q=false by rw [D.o];exact m.o (by rw [b.o];rfl));go_wp2;go_ret;exact ⟨qx C.o.symm,s.o.trans (J.o.mono s.o.size)⟩
      | true =>
      rw [Y4] at b;go_wp2_with fail;refine (V.o w5 a3.o).mono ?_;clear V;rintro r w6 ⟨rfl,n6,rfl⟩;cases sp with
      | false => have C:=U (show q=false by rw [D.o];exact m.o (by rw [b.o];rfl));go_wp2;go_ret;exact ⟨qx C.o.symm,Below.drewN (s.o.trans (J.o.mono s.o.size)) _⟩
      | true =>
      rw [Y4] at b;go_wp2_with fail;refine (X.o (w5.drewN n6) (Below.drewN a3.o _)).mono ?_;clear X;rintro r w7 ⟨rfl,n7,rfl⟩;cases sq with
      | false => have C:=U (show q=false by rw [D.o];exact m.o b.o);go_wp2;go_ret;exact ⟨qx C.o.symm,Below.drewN (s.o.trans (J.o.mono s.o.size)) _⟩
      | true =>
       have b0:=U (R.o b.o);go_wp2;go_roundw
       case rel=>exact ⟨k+1,by omega,by go_num,b0.o,Below.drewN J.o _⟩
       case measure=>simp [intOf];omega
  . obtain rfl:k=nn:=by omega
    have m3:decide ((k:Int)<(k:Int))=false:=by simp
    have HR:=U (show q=true by
     rw [D.o];have:=d0.o;rw [J4 (by rw [<- b1.o];exact J2 _),J4 (by rw [<- c9.o];exact J2 _)] at this;exact X3 this)
    go_wp2;go_ret;exact ⟨qx HR.o.symm,s.o.trans (Q.o.mono s.o.size)⟩
theorem pd (l:List Key2) (a b:Option Addr) (c d:Nat) (w:World) (A:qJ w 0 w.heap.size a l) (B:qJ w 0 w.heap.size b l) (C:l.length<=9223372036854775807) :
 Calls Tryz.prog 42 #[.slice a l.length c,.slice b l.length d] w fun e w'=>e=.returned (.bool true)/\O5 w w':=by
 have o:=U A;have g:=U B;clear A B;go_enter Tryz.func42,Tryz.ntmps42;go_wp2;go_loopw [5] (fun i wr=>∃k:Nat,k<=l.length/\i=.int .i64 k/\O5 w wr) (fun i _=>l.length - (intOf i).toNat)
 case atStart=>exact ⟨0,by omega,rfl,Z0 _ _⟩
 case round =>
  obtain ⟨k,u,rfl,f⟩:=hrel;have m:=U f;by_cases hlt:k<l.length
  . obtain ⟨p,v,h,_,_,r,s⟩:=(o.o.below f lz lz f.size).at k hlt;obtain ⟨q,x,j,_,_,y,z⟩:=(g.o.below f lz lz f.size).at k hlt;subst h j;generalize l[k].1=s0 at *;generalize l[k].2=s1 at *;clear f;go_wp2;go_quiet (fail);go_wp2;go_roundw
    case rel=>exact ⟨k+1,by omega,by go_num,Below.drewN m.o _⟩
    case measure=>simp [intOf];omega
  . clear f;go_wp2;go_ret;exact ⟨rfl,m.o⟩
theorem iN (a b c d:Option Addr) (f g h i:Nat) (w:World):Calls Tryz.prog 43 #[.agg #[.int .u8 0,.int .i64 0,.string ⟨#[]⟩,.slice a 0 f,.slice b 0 g],.agg #[.int .u8 0,.int .i64 0,.string ⟨#[]⟩,.slice c 0 h,.slice d 0 i]] w fun e w'=>e=.returned (.bool true)/\O5 w w':=by have:=oF 4294967296 zeroJ zeroJ (.agg #[.int .u8 0,.int .i64 0,.string ⟨#[]⟩,.slice a 0 f,.slice b 0 g]) (.agg #[.int .u8 0,.int .i64 0,.string ⟨#[]⟩,.slice c 0 h,.slice d 0 i]) 0 w.heap.size w (by decide +kernel) (by decide +kernel) lz lz ⟨a,f,b,g,rfl,J0 _,J0 _,.inl rfl,.inl rfl⟩ ⟨c,h,d,i,rfl,J0 _,J0 _,.inl rfl,.inl rfl⟩;rw [show zeroJ.sameB zeroJ=true by decide +kernel] at this;exact this
theorem uT (D:Int) (C:List Key2) (E F G H I J:Option Addr) (P Q K L M N:Nat) (w:World) (R:qJ w 0 w.heap.size E C) (S:qJ w 0 w.heap.size F C) (T:C.length<=1000) :
 Calls Tryz.prog 17 #[.agg #[.int .i64 D,.slice E C.length P,.int .u8 0,.int .i64 0,.string ⟨#[]⟩,.slice G 0 K,.slice H 0 L],.agg #[.int .i64 D,.slice F C.length Q,.int .u8 0,.int .i64 0,.string ⟨#[]⟩,.slice I 0 M,.slice J 0 N]] w fun e w'=>e=.returned (.bool true)/\O5 w w':=by
 obtain ⟨W,f⟩:=O1 ((w.alloc (.cells #[.int .i64 D,.slice E C.length P,.int .u8 0,.int .i64 0,.string ⟨#[]⟩,.slice G 0 K,.slice H 0 L] 32)).alloc (.cells #[.int .i64 D,.slice F C.length Q,.int .u8 0,.int .i64 0,.string ⟨#[]⟩,.slice I 0 M,.slice J 0 N] 32));have b:O5 w W:=by rw [f];exact (O4).alloc (by simp) _
 have j:W.heap[w.heap.size]?=some (.cells #[.int .i64 D,.slice E C.length P,.int .u8 0,.int .i64 0,.string ⟨#[]⟩,.slice G 0 K,.slice H 0 L] 32 (0,0)):=by rw [f];exact qO w _ _
 have k:W.heap[w.heap.size+1]?=some (.cells #[.int .i64 D,.slice F C.length Q,.int .u8 0,.int .i64 0,.string ⟨#[]⟩,.slice I 0 M,.slice J 0 N] 32 (0,0)):=by rw [f];exact kt w _ _
 have v:=U (show ∀w':World,O5 W w'->(w'.cell? ⟨w.heap.size,0,none⟩=some (.int .i64 D)/\w'.cell? ⟨w.heap.size,1,none⟩=some (.slice E C.length P)/\w'.cell? ⟨w.heap.size,2,none⟩=some (.int .u8 0)/\w'.cell? ⟨w.heap.size,3,none⟩=some (.int .i64 0)/\w'.cell? ⟨w.heap.size,4,none⟩=some (.string ⟨#[]⟩)/\w'.cell? ⟨w.heap.size,5,none⟩=some (.slice G 0 K)/\w'.cell? ⟨w.heap.size,6,none⟩=some (.slice H 0 L))/\w'.cell? ⟨w.heap.size+1,0,none⟩=some (.int .i64 D)/\w'.cell? ⟨w.heap.size+1,1,none⟩=some (.slice F C.length Q)/\w'.cell? ⟨w.heap.size+1,2,none⟩=some (.int .u8 0)/\w'.cell? ⟨w.heap.size+1,3,none⟩=some (.int .i64 0)/\w'.cell? ⟨w.heap.size+1,4,none⟩=some (.string ⟨#[]⟩)/\w'.cell? ⟨w.heap.size+1,5,none⟩=some (.slice I 0 M)/\w'.cell? ⟨w.heap.size+1,6,none⟩=some (.slice J 0 N) from fun w' h=>by
  have y:=(h.block _ (qz j)).trans j;have z:=(h.block _ (qz k)).trans k;exact ⟨⟨qq y rfl,qq y rfl,qq y rfl,qq y rfl,qq y rfl,qq y rfl,qq y rfl⟩,qq z rfl,qq z rfl,qq z rfl,qq z rfl,qq z rfl,qq z rfl,qq z rfl⟩)
 have d:=U (pd C E F P Q W (R.below b lz lz b.size) (S.below b lz lz b.size) (by omega));have u:=U b;have x:=U f;clear f b j k R S T;obtain ⟨⟨x0,x1,x2,x3,x4,x5,x6⟩,l,m,o,p,q,r,s⟩:=v.o W (Z0 _ _);go_enter Tryz.func17,Tryz.ntmps17;go_upto_region 1 with fail
 rw [<- x.o];clear x;go_wp2_with fail;refine d.o.mono ?_;clear d x0 x1 x2 x3 x4 x5 x6 l m o p q r s;rintro e A ⟨rfl,a⟩;obtain ⟨⟨x0,x1,x2,x3,x4,x5,x6⟩,l,m,o,p,q,r,s⟩:=v.o A a;have c:=U (O2 u a);clear a;go_wp2_with fail;refine (iN G H I J K L M N A).mono ?_;clear x0 x1 x2 x3 x4 x5 x6 l m o p q r s;rintro e B ⟨rfl,g⟩;have i:=U (O2 c g);clear g;go_wp2;go_ret;exact ⟨rfl,i.o⟩
theorem ev (a b:ByteArray):Op.bytesLess a.toList b.toList = !(Op.bytesLess b.toList a.toList || (b.toList == a.toList)):=by
 cases h1:Op.bytesLess b.toList a.toList with
 | true => have:Op.bytesLess a.toList b.toList=false:=cO (a:=b) (b:=a) h1;rw [this];rfl
 | false =>
  cases h2:Op.bytesLess a.toList b.toList with
  | true => have:(b.toList == a.toList)=false:=(by rw [N9];intro e;rw [e] at h2;have:=zY a;unfold bl at this;rw [h2] at this;cases this);rw [this];rfl
  | false => have:b.toList=a.toList:=wV _ _ h1 h2;rw [this];simp
theorem ew {k:Key2} (h:ok2 k=true):Op.bytesLess (⟨#[]⟩:ByteArray).toList (id2 k).toList=true:=by
 have c:(id2 k).toList=kY k.1.data.toList k.2.data.toList:=by rw [X4];rfl
 rw [c,X4];have b:(kY k.1.data.toList k.2.data.toList).length=64:=(by unfold kY;rw [J3 (by unfold ok2 at h;exact h),yQ]);cases hq:kY k.1.data.toList k.2.data.toList with
 | nil=>rw [hq] at b;simp at b
 | cons a r=>rfl
theorem cv {l:List Key2} (h:¬l.length<=32):zn l=false:=by unfold zn;rw [X0 h];rfl
theorem lZ {l:List Key2} {k:Nat} (h:k<l.length) (a:ok2 l[k]=false):zn l=false:=by unfold zn;rw [show l.all ok2=false from zb2.2 ⟨l[k],J8 _,by simp [a]⟩,zc1,M0]
theorem cy {l:List Key2} {k:Nat} (b:1<=k) (h:k<l.length) (hb:Op.bytesLess (id2 l[k-1]).toList (id2 l[k]).toList=false):zn l=false:=by unfold zn;have a:(ids l).length=l.length:=X7 ..;rw [vX (ids l) k b (by omega) (by simpa [ids] using hb),zc1]
theorem cg (l:List Key2) (a:Option Addr) (c:Nat) (w:World) (hK:qJ w 0 w.heap.size a l) (hl:l.length<=4294967296) (hs:∀k ∈ l,k.1.size<=300/\k.2.size<=300) (hT:Tabs w) :
 Calls Tryz.prog 81 #[.slice a l.length c] w fun e w'=>e=.returned (.bool (zn l))/\O5 w w':=by
 have HK:=U hK;have HT:=U hT;have HS:=U hs;clear hK hT hs;obtain ⟨F,D⟩:=O1 l.length;have y:=U D;rw [<- D] at hl ⊢;by_cases h32:F<=32
 case neg =>
  have B:=U (cv (l:=l) (by omega));have d1:decide (32<(F:Int))=true:=by simp;omega
  clear D;go_enter Tryz.func81,Tryz.ntmps81;go_wp2;go_ret;exact ⟨qx B.o.symm,Z0 _ _⟩
 have d1:decide (32<(F:Int))=false:=by simp;omega
 clear D;go_enter Tryz.func81,Tryz.ntmps81;go_wp2;go_loopw [3,5,6,7,13] (fun ls _ _ _ i wr=>∃(k:Nat) (s:ByteArray),k<=F/\i=.int .i64 k/\ls=.string s/\(∀j (h:j<l.length),j<k->ok2 l[j]=true)/\qd ((ids l).take k)=true/\(k=0->s=⟨#[]⟩)/\(∀h:k - 1<l.length,1<=k->s=id2 l[k-1])/\O5 w wr) (fun _ _ _ _ i _=>F - (intOf i).toNat)
 case atStart=>exact ⟨0,⟨#[]⟩,by omega,rfl,rfl,fun j _ h=>by omega,rfl,fun _=>rfl,fun _ h=>by omega,Z0 _ _⟩
 case round =>
  obtain ⟨k,s,hk,rfl,rfl,a0,a5,a6,S,I⟩:=hrel;have J:=U a0;have N:=U a5;have X:=U a6;have P:=U S;have W:=U I;clear a0 a5 a6 S I;have a3:(ids l).length=l.length:=X7 ..;have L:=U a3;clear a3;by_cases hlt:k<F
  . have f:k<l.length:=by rw [<- y.o];exact hlt
    obtain ⟨b,a7,ha,_,hb,Z,e1⟩:=(HK.o.below W.o lz lz W.o.size).at k f;subst ha;have E:=HS.o l[k] (J8 f);have g:=U (lZ (l:=l) f);have m:=U (fun h1=>cy (l:=l) (k:=k) h1 f);have G:=U (@ew l[k]);have A:=U (show ok2 l[k]=true->(k=0\/Op.bytesLess s.toList (id2 l[k]).toList=true)->(∀j (h:j<l.length),j<k+1->ok2 l[j]=true)/\qd ((ids l).take (k+1))=true/\(∀h:k+1 - 1<l.length,1<=k+1->id2 l[k]=id2 l[k+1-1]) from fun ho hle=>by
     refine ⟨fun j hj hjk=>?_,?_,fun _ _=>rfl⟩
     . rcases N1.1 hjk with h1|h1
       . exact J.o j hj h1
       . subst h1;exact ho
     . rcases za6 k with h0|h0
       . subst h0;have b1:(ids l).length=l.length:=L.o;cases hq:ids l with
         | nil=>rfl
         | cons x r=>rfl
       . rw [kz (ids l) k h0 (by have:=L.o;omega),N.o,Y4];have h3:=hle.resolve_left (by omega);rw [P.o (by omega) h0] at h3;simpa [ids] using h3)
    have v:=O0 (1<=k->Op.bytesLess s.toList (id2 l[k]).toList=false->zn l=false) (fun h1 h2=>m.o h1 (by rw [<- P.o (by omega) h1];exact h2));have Y:=O0 (ok2 l[k]=true->k=0->Op.bytesLess s.toList (id2 l[k]).toList=true) (fun h1 h2=>by rw [X.o h2];exact G.o h1);obtain ⟨x,T⟩:∃x:Key2,x=l[k]:=⟨_,rfl⟩;have b0:=U (show id2 x=id2 l[k] by rw [T]);replace Z:=Z.trans (J6 (fun z:Key2=>some (Value.string z.1)) T.symm);replace e1:=e1.trans (J6 (fun z:Key2=>some (Value.string z.2)) T.symm);rw [<- T] at E g A v Y;clear T m G J X P N;obtain ⟨q,p⟩:=x;replace Z:wr.cell? ⟨b,a7+k * 2,none⟩=some (.string q):=Z;replace e1:wr.cell? ⟨b,a7+k * 2+1,none⟩=some (.string p):=e1;have S:q.size<=300:=E.1;have b2:p.size<=300:=E.2;obtain ⟨Q,C⟩:=O1 (wr.alloc (.cells #[.string q,.string p] 156));have a2:=O7 C
    have V:=O9 C
    have K:=U (O2 W a2);have o:=U (nC q p Q (by omega) (by omega) (HT.o.below K.o));unfold kw at o;have a9:=U C;have z0:=qq V (j:=0) rfl;have z1:=qq V (j:=1) rfl;obtain ⟨H,R⟩:∃H:ByteArray,H=⟨(kY q.data.toList p.data.toList).toArray⟩:=⟨_,rfl⟩;rw [<- R] at o;have e2:id2 (q,p)=H:=R.symm;have a8:=O0 (H=id2 l[k]) (e2.symm.trans b0.o);rw [e2] at A v Y;have M:=O0 (ok2 (q,p)=zA q.data.toList p.data.toList) rfl;obtain ⟨ok,a4⟩:=O1 (zA q.data.toList p.data.toList);rw [<- a4] at M o;rw [M.o] at g A Y;clear a2 V C E R e2 a4 M;go_upto_region 7 with fail
    rw [<- a9.o];clear Z e1;go_wp2_with fail;refine o.o.mono ?_;clear o z0 z1;rintro r w3 ⟨rfl,a1⟩;have u:=U (O2 K a1);clear a1;cases ok with
    | false => have B:=U (g.o rfl);go_wp2;go_ret;exact ⟨qx B.o.symm,u.o⟩
    | true =>
     have d:=U (ev s H);cases lt:Op.bytesLess H.toList s.toList with
     | true =>
      rw [lt,Bool.true_or] at d;have B:=U (show zn l=false from by
       rcases za6 k with h0|h0
       . have:=Y.o rfl h0;rw [d.o] at this;cases this
       . exact v.o h0 (by rw [d.o];rfl))
      go_wp2;go_ret;exact ⟨qx B.o.symm,u.o⟩
     | false =>
      cases eqq:(H.toList == s.toList) with
      | true =>
       rw [lt,eqq] at d;have B:=U (show zn l=false from by
        rcases za6 k with h0|h0
        . have:=Y.o rfl h0;rw [d.o] at this;cases this
        . exact v.o h0 (by rw [d.o];rfl))
       go_wp2;go_ret;exact ⟨qx B.o.symm,u.o⟩
      | false =>
       rw [lt,eqq] at d;have HN:=U (A.o rfl (.inr d.o));go_wp2;go_roundw
       case rel => exact ⟨k+1,H,by omega,by go_num,rfl,HN.o.1,HN.o.2.1,fun h=>by omega,fun _ _=>a8.o,u.o⟩
       case measure=>simp [intOf];omega
  . obtain rfl:k=F:=by omega
    have B:=U (show zn l=true from by
     refine zP.2 ⟨by rw [<- y.o];exact h32,fun x T=>?_,?_⟩
     . obtain ⟨j,hj,rfl⟩:=Y0 T;exact J.o j hj (by rw [y.o];exact hj)
     . have:=N.o;rwa [J4 (by rw [L.o,y.o];exact J2 _)] at this)
    go_wp2;go_ret;exact ⟨qx B.o.symm,W.o⟩
