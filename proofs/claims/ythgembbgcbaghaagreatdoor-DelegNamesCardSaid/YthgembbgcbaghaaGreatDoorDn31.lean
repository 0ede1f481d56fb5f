import Derived.Test.YthgembbgcbaghaaGreatDoorDn30
import Derived.Test.YthgembbgcbaghaaGreatDoorDn04
import Derived.Shelf.SlSortCmp.WholeK
set_option maxHeartbeats 4000000
set_option maxRecDepth 100000

namespace Go.Proofs.YthgembbgcbaghaaGreatDoor
open Go.RowKit
theorem lI (f t:Int) (c:ByteArray) (ids:List ByteArray):zK ⟨f,c,⟨t,ids⟩⟩=(decide (f=0) && (decide (c.size=0) && (decide (t=0) && decide (ids.length=0)))):=by
 unfold zK;have a:c=⟨#[]⟩↔c.size=0:=⟨fun e=>by rw [e];rfl,fun e=>by
  obtain ⟨d⟩:=c;have:d.size=0:=e;rw [Array.size_eq_zero_iff] at this;rw [this]⟩
 have b:ids=[]↔ids.length=0:=List.length_eq_zero_iff.symm;simp only [a,b,Bool.decide_and]
theorem ve (t s:Int) (ids:List ByteArray) (u:ByteArray) (v:Option Addr) (x:Nat) (w:World) :
 Calls Tryz.prog 75 #[.agg #[.int .i64 t,.slice v ids.length x,.int .i64 s,.string u]] w fun e w'=>e=.returned (.bool (zK ⟨s,u,⟨t,ids⟩⟩))/\O5 w w':=by
 obtain ⟨W,g⟩:=O1 (w.alloc (.cells #[.int .i64 t,.slice v ids.length x,.int .i64 s,.string u] 33));have d:=O7 g
 have f:=O9 g
 have c:=U d;have o:=qq f (j:=0) rfl;have p:=qq f (j:=1) rfl;have q:=qq f (j:=2) rfl;have r:=qq f (j:=3) rfl;have a:=U (lI s t u ids);have b:=U g;obtain ⟨V,h⟩:=O1 (zK ⟨s,u,⟨t,ids⟩⟩);rw [<- h] at a ⊢;clear d f g h;by_cases h1:s=0
 case neg =>
  have i:(s == 0)=false:=by simpa using h1
  rw [Q8 h1] at a;clear h1;go_enter Tryz.func75,Tryz.ntmps75;go_upto_region 1 with fail
  rw [<- b.o];clear b;go_wp2;go_ret;exact ⟨qx a.o.symm,c.o⟩
 have i:(s == 0)=true:=by simpa using h1
 rw [Q9 h1,X2] at a;clear h1;by_cases h2:u.size=0
 case neg =>
  have k:(u.toList == [])=false:=by rw [Y3];exact (yb u (by omega)).1
  rw [Q8 h2] at a;clear h2;go_enter Tryz.func75,Tryz.ntmps75;go_upto_region 1 with fail
  rw [<- b.o];clear b;go_wp2;go_ret;exact ⟨qx a.o.symm,c.o⟩
 have k:u.toList=[]:=wm u h2;rw [Q9 h2,X2] at a;clear h2;by_cases h3:t=0
 case neg =>
  have l:(t == 0)=false:=by simpa using h3
  rw [Q8 h3] at a;clear h3;go_enter Tryz.func75,Tryz.ntmps75;go_upto_region 1 with fail
  rw [<- b.o];clear b;go_wp2;go_ret;exact ⟨qx a.o.symm,c.o⟩
 have l:(t == 0)=true:=by simpa using h3
 rw [Q9 h3,X2] at a;clear h3;by_cases h4:ids.length=0
 . have m:((ids.length:Int) == 0)=true:=by rw [h4];rfl
   rw [Q9 h4] at a;clear h4;go_enter Tryz.func75,Tryz.ntmps75;go_upto_region 1 with fail
   rw [<- b.o];clear b;go_wp2;go_ret;exact ⟨qx a.o.symm,c.o⟩
 . have m:((ids.length:Int) == 0)=false:=by rw [Y3];omega
   rw [Q8 h4] at a;clear h4;go_enter Tryz.func75,Tryz.ntmps75;go_upto_region 1 with fail
   rw [<- b.o];clear b;go_wp2;go_ret;exact ⟨qx a.o.symm,c.o⟩
theorem cU (a t:Int) (b:ByteArray) (ids:List ByteArray):zk ⟨a,b,⟨t,ids⟩⟩=(decide (zT ⟨a,b,⟨t,ids⟩⟩=0) && (jM t ids && !gc b)):=by unfold zk xD;rw [Bool.and_assoc]
theorem yw (t Q:Int) (ids:List ByteArray) (R:ByteArray) (T:Option Addr) (X:Nat) (w:World) (Y:qy w 0 w.heap.size T ids) (hp:R.size<=4294967296) (S:-9223372036854775808<=Q/\Q<=9223372036854775807) (Z:xq ⟨t,ids⟩) :
 Calls Tryz.prog 84 #[.agg #[.int .i64 t,.slice T ids.length X,.int .i64 Q,.string R]] w fun e w'=>e=.returned (.bool (zk ⟨Q,R,⟨t,ids⟩⟩))/\O5 w w':=by
 obtain ⟨W,v⟩:=O1 (w.alloc (.cells #[.int .i64 t,.slice T ids.length X,.int .i64 Q,.string R] 33));have s:=O7 v
 have q:=O9 v
 have o:=U s;have u:=U q;have A:=U Y;have K:=qq q (j:=0) rfl;have L:=qq q (j:=1) rfl;have M:=qq q (j:=2) rfl;have N:=qq q (j:=3) rfl;have f:=U (yG t Q ids R T X W hp S);have g:=U (fun (w':World) (h:O5 w w')=>dJ t ids T X w' (A.o.below h lz lz h.size) Z.2.2);have r:=U (fun w=>dm R w);have k:=U (cU Q t R ids);have p:=U v;obtain ⟨V,y⟩:=O1 (zk ⟨Q,R,⟨t,ids⟩⟩);obtain ⟨E,x⟩:=O1 (zT ⟨Q,R,⟨t,ids⟩⟩);obtain ⟨B,l⟩:∃b,b=jM t ids:=⟨_,rfl⟩;obtain ⟨C,m⟩:∃b,b=gc R:=⟨_,rfl⟩;rw [<- y,<- x,<- l,<- m] at k;rw [<- x] at f;rw [<- l] at g;rw [<- m] at r;rw [<- y];clear s q v y x l m Y Z hp S;by_cases h1:E=0
 case neg =>
  have D:(E == 0)=false:=by simpa using h1
  rw [Q8 h1] at k;clear h1;go_enter Tryz.func84,Tryz.ntmps84;go_upto_region 1 with fail
  rw [<- p.o];clear p;go_wp2_with (go_at_call 99;refine f.o.mono ?_;rintro e z ⟨rfl,S⟩;have a:=U (O2 o S);clear S);go_ret;exact ⟨qx k.o.symm,a.o⟩
 have D:(E == 0)=true:=by simpa using h1
 rw [Q9 h1,X2] at k;clear h1;cases B
 . go_enter Tryz.func84,Tryz.ntmps84;go_upto_region 1 with fail
   rw [<- p.o];clear p;go_wp2_with (first|(go_at_call 99;refine f.o.mono ?_;rintro e z ⟨rfl,S⟩;have a:=U (O2 o S);have c:=(S.block _ (qz u.o)).trans u.o;have H:=qq c (j:=0) rfl;have I:=qq c (j:=1) rfl;have J:=qq c (j:=3) rfl;have d:=U c;clear S c)|(go_at_call 136;refine (g.o _ a.o).mono ?_;rintro e F ⟨rfl,S⟩;have i:=U (O2 a S);have c:=(S.block _ (qz d.o)).trans d.o;have G:=qq c (j:=3) rfl;clear S c));go_ret;exact ⟨qx k.o.symm,i.o⟩
 . rw [X2] at k;cases C
   all_goals
    go_enter Tryz.func84,Tryz.ntmps84;go_upto_region 1 with fail
    rw [<- p.o];clear p;go_wp2_with (first|(go_at_call 99;refine f.o.mono ?_;rintro e z ⟨rfl,S⟩;have a:=U (O2 o S);have c:=(S.block _ (qz u.o)).trans u.o;have H:=qq c (j:=0) rfl;have I:=qq c (j:=1) rfl;have J:=qq c (j:=3) rfl;have d:=U c;clear S c)|(go_at_call 136;refine (g.o _ a.o).mono ?_;rintro e F ⟨rfl,S⟩;have i:=U (O2 a S);have c:=(S.block _ (qz d.o)).trans d.o;have G:=qq c (j:=3) rfl;clear S c)|(go_at_call 135;refine (r.o _).mono ?_;rintro e P ⟨rfl,rfl⟩));go_ret;exact ⟨qx k.o.symm,i.o⟩
open Go.Shelf Go.Sort
def kI (r:BinsV × Int) (w:World) (e:Ending) (w':World):Prop :=
 ∃ia ic,e=.returned (.tuple #[.agg #[.int .i64 r.1.au.thr,.slice ia r.1.au.ids.length ic,.int .i64 r.1.bits,.string r.1.pre],.int .i64 r.2])/\r.1.au.ids.length<=ic/\qy w' w.heap.size w'.heap.size ia r.1.au.ids/\O5 w w'
theorem gj {a:Int} {w w':World} (b:O5 w w'):kI (xG,a) w (.returned (.tuple #[.agg #[.int .i64 0,.slice none 0 0,.int .i64 0,.string ⟨#[]⟩],.int .i64 a])) w' :=
 ⟨none,0,rfl,Z9 _,.inl rfl,b⟩
theorem fT (C:JV->Prop) (st:PS) (v:JV) (x:Value) (w:World) (hR:Rep w 0 w.heap.size v x) (ha:st.asked.length<=1000)
 (e7:∀w1,O5 w w1->Calls Tryz.prog 60 #[x] w1 (wE C st w1)) :
 Calls Tryz.prog 65 #[x] w (fun e w'=>∃u,C u/\kI (dV u st) w e w'):=by
 obtain ⟨an,cn,ai,ci,hx,h1,E,h3,h4⟩:=hR.parts;clear h1 E h3 h4;subst hx;obtain ⟨W,hW⟩:=O1 ((w.alloc (.cells #[.int .u8 v.kind,.int .i64 v.n,.string v.t,.slice an v.names.length cn,.slice ai v.items.length ci] 25)).alloc (.cells #[.int .i64 0,.slice none 0 0,.int .i64 0,.string ⟨#[]⟩] 33));have c9:(w.alloc (.cells #[.int .u8 v.kind,.int .i64 v.n,.string v.t,.slice an v.names.length cn,.slice ai v.items.length ci] 25)).heap.size=w.heap.size+1:=by simp
 have hb:O5 w W:=by rw [hW];exact (O4).alloc (by simp) _
 have c7:W.heap[w.heap.size]?=some (.cells #[.int .u8 v.kind,.int .i64 v.n,.string v.t,.slice an v.names.length cn,.slice ai v.items.length ci] 25 (0,0)):=by rw [hW];exact ze w _ _
 have a6:W.rowIs (w.heap.size+1) 33 4 (xa (.int .i64 0) (.slice none 0 0) (.int .i64 0) (.string ⟨#[]⟩)):=(by have:=gR (w.alloc (.cells #[.int .u8 v.kind,.int .i64 v.n,.string v.t,.slice an v.names.length cn,.slice ai v.items.length ci] 25)) (.int .i64 0) (.slice none 0 0) (.int .i64 0) (.string ⟨#[]⟩) 33;rw [c9,<- hW] at this;exact this);have a8:=U (e7 W hb);have h:=U hb;have b3:=U c7;have a2:=U a6;have HW:=U hW;have HA:=U ha;have b4:=O0 (w.heap.size+2<=W.heap.size) a6.lt;clear e7 hW c9 hb c7 a6 hR ha;obtain ⟨c0,c1,c2,c3,c4⟩:=bx5 b3.o;go_enter Tryz.func65,Tryz.ntmps65;go_upto_region 1 with fail
 rw [<- HW.o];clear HW;go_wp2_with fail;refine a8.o.mono ?_;clear a8 c0 c1 c2 c3 c4;rintro e w2 ⟨u,o,m,lo,hi,d7,d6,e5,e4,hC,hu,rfl,a3,d5,d4,F⟩;have HC:=U hC;have HU:=U hu;have d3:=a3.lt;obtain ⟨p,a4⟩:=O1 w2.heap.size;obtain ⟨K,V⟩:=O1 (w2.alloc (.cells #[.int .i64 0,.slice none 0 0,.int .i64 0,.string ⟨#[]⟩] 33));have L:=O7 V
 have a5:K.rowIs p 33 4 (xa (.int .i64 0) (.slice none 0 0) (.int .i64 0) (.string ⟨#[]⟩)):=by rw [V,a4];exact gR _ _ _ _ _ _
 have f:=U (show p≠o/\p≠m/\hi<=p/\w.heap.size+2<=o/\w.heap.size+2<=m/\w.heap.size+2<=p/\p<K.heap.size/\o<K.heap.size/\m<K.heap.size from by
  have h1:=F.size;have E:=a5.lt;have h3:=b4.o;have h4:=L.size;omega)
 have A:=U (a3.below L);have l:=U (qw (F.trans (L.mono F.size)) a2.o a2.o.lt);replace h:=U (h.o.trans ((F.trans (L.mono F.size)).mono h.o.size));have d:=U a5;have B:=U (Z9 K.heap.size);have b0:=U V;have a9:=U a4;clear hC hu d3 a3 d5 d4 F L a5 V a4 a2 b3 b4;have a7:=U (@tO u st HA.o);have H:=U (mz A.o HU.o (by have:=HA.o;omega));have P:=U (@fy u st HU.o);rw [show kz u st=bgA u st from rfl] at H P;have N:=O0 (bgB u st=qR u jl 1 32 (bgA u st).2) rfl;have T:=O0 (bgP u st=qh u jS (bgB u st).2) rfl;have z:=O0 (dV u st=if qu u (bgP u st).2≠0 then (xG,qu u (bgP u st).2) else if zk ⟨(bgB u st).1,(bgP u st).1,(bgA u st).1⟩ then (⟨(bgB u st).1,(bgP u st).1,(bgA u st).1⟩,0) else (xG,3)) rfl;have a0:=U a7.o.1;obtain ⟨GA,b6⟩:=O1 (bgA u st);rw [<- b6] at H P N z a0;clear b6;obtain ⟨r,SA⟩:=GA;dsimp only at H P N z a0;go_upto_region 3 with fail
 rw [<- b0.o,<- a9.o];clear a9 b0;go_wp2_with fail;refine H.o.mono ?_;clear H;rintro e w4 ⟨⟨ia,ic,rfl,b9,hs⟩,y,c⟩;have d2:=O0 (r.ids.length<=ic) b9;have g:=O0 (qy w4 K.heap.size w4.heap.size ia r.ids) (hs.carry B.o lz (fun _ _ _=>rfl));clear b9 hs;replace A:=U y;replace l:=U (c.row l.o (by have:=f.o;omega));replace d:=U (c.row d.o (by have:=f.o;omega));replace h:=U (h.o.trans (c.below (by have:=h.o.size;omega) fun k hk e=>by have:=f.o;omega));replace B:=U (Z5 B.o c.size);clear y c;have e0:=d.o.cell (i:=0) (by decide);have f0:=d.o.frozen 0;simp only [xa] at e0;have e1:=d.o.cell (i:=1) (by decide);have f1:=d.o.frozen 1;simp only [xa] at e1;obtain ⟨W5,X⟩:=O1 ((w4.setCell ⟨p,0,none⟩ (.int .i64 r.thr)).setCell ⟨p,1,none⟩ (.slice ia r.ids.length ic));have a:Touch (fun b=>b=p) w4 W5:=by rw [X];exact ((Touch.refl _ _).trans (qC _)).trans (qC _)
 replace d:=U (show W5.rowIs p 33 4 (xa (.int .i64 r.thr) (.slice ia r.ids.length ic) (.int .i64 0) (.string ⟨#[]⟩)) from by
  rw [X];refine ((d.o.set 0 _).set 1 _).congr fun j hj=>?_;rcases j with _|_|_|_|j <;> first|rfl|omega)
 replace A:=U (A.o.touch a f.o.1 f.o.2.1 f.o.2.2.1);replace l:=U (a.row l.o (by have:=f.o;omega));replace h:=U (h.o.trans (a.below (by have:=h.o.size;omega) fun k hk e=>by have:=f.o;omega));replace B:=U (Z5 B.o a.size);replace g:=U (g.o.carry lz a.size (fun b h1 E=>a.block b E (by have:=f.o;omega)));have b1:=U X;clear a X;go_upto_region 4 with fail
 rw [<- b1.o];clear b1 e0 f0 e1 f1;have G:=U (tC jl 1 32 A.o (by decide) (by have:=a0.o;omega));have Q:=U (@mx u jl 1 32 SA (by decide) (by decide));rw [<- N.o] at G Q;have a1:=U a7.o.2;obtain ⟨GB,b7⟩:=O1 (bgB u st);rw [<- b7] at G Q T z a1;clear b7 N;obtain ⟨q,SB⟩:=GB;dsimp only at G Q T z a1;go_wp2_with fail;refine G.o.mono ?_;clear G;rintro e w6 ⟨rfl,y,c⟩;replace A:=U y;replace l:=U (c.row l.o (by have:=f.o;omega));replace d:=U (c.row d.o (by have:=f.o;omega));replace h:=U (h.o.trans (c.below (by have:=h.o.size;omega) fun k hk e=>by have:=f.o;omega));replace B:=U (Z5 B.o c.size);replace g:=U (g.o.carry lz c.size (fun b h1 E=>c.block b E (by have:=f.o;omega)));clear y c;have e2:=d.o.cell (i:=2) (by decide);have f2:=d.o.frozen 2;simp only [xa] at e2;obtain ⟨W7,Y⟩:=O1 (w6.setCell ⟨p,2,none⟩ (.int .i64 q));have a:Touch (fun b=>b=p) w6 W7:=by rw [Y];exact (Touch.refl _ _).trans (qC _)
 replace d:=U (show W7.rowIs p 33 4 (xa (.int .i64 r.thr) (.slice ia r.ids.length ic) (.int .i64 q) (.string ⟨#[]⟩)) from by
  rw [Y];refine (d.o.set 2 _).congr fun j hj=>?_;rcases j with _|_|_|_|j <;> first|rfl|omega)
 replace A:=U (A.o.touch a f.o.1 f.o.2.1 f.o.2.2.1);replace l:=U (a.row l.o (by have:=f.o;omega));replace h:=U (h.o.trans (a.below (by have:=h.o.size;omega) fun k hk e=>by have:=f.o;omega));replace B:=U (Z5 B.o a.size);replace g:=U (g.o.carry lz a.size (fun b h1 E=>a.block b E (by have:=f.o;omega)));have b2:=U Y;clear a Y;go_upto_region 5 with fail
 rw [<- b2.o];clear b2 e2 f2;have I:=U (tx jS A.o (by decide) (by have:=a1.o;omega));have R:=U (Z5 (@fw u jS SB) HU.o);rw [<- T.o] at I R;obtain ⟨GP,b8⟩:=O1 (bgP u st);rw [<- b8] at I R z;clear b8 T;obtain ⟨M,SP⟩:=GP;dsimp only at I R z;go_wp2_with fail;refine I.o.mono ?_;clear I;rintro e w8 ⟨rfl,y,c⟩;replace A:=U y;replace l:=U (c.row l.o (by have:=f.o;omega));replace d:=U (c.row d.o (by have:=f.o;omega));replace h:=U (h.o.trans (c.below (by have:=h.o.size;omega) fun k hk e=>by have:=f.o;omega));replace B:=U (Z5 B.o c.size);replace g:=U (g.o.carry lz c.size (fun b h1 E=>c.block b E (by have:=f.o;omega)));clear y c;have e3:=d.o.cell (i:=3) (by decide);have f3:=d.o.frozen 3;simp only [xa] at e3;obtain ⟨J,D⟩:=O1 (w8.setCell ⟨p,3,none⟩ (.string M));have a:Touch (fun b=>b=p) w8 J:=by rw [D];exact (Touch.refl _ _).trans (qC _)
 replace d:=U (show J.rowIs p 33 4 (xa (.int .i64 r.thr) (.slice ia r.ids.length ic) (.int .i64 q) (.string M)) from by
  rw [D];refine (d.o.set 3 _).congr fun j hj=>?_;rcases j with _|_|_|_|j <;> first|rfl|omega)
 replace A:=U (A.o.touch a f.o.1 f.o.2.1 f.o.2.2.1);replace l:=U (a.row l.o (by have:=f.o;omega));replace h:=U (h.o.trans (a.below (by have:=h.o.size;omega) fun k hk e=>by have:=f.o;omega));replace B:=U (Z5 B.o a.size);replace g:=U (g.o.carry lz a.size (fun b h1 E=>a.block b E (by have:=f.o;omega)));have Z:=U D;clear a D;go_upto_region 6 with fail
 rw [<- Z.o];clear Z e3 f3;have HD:=U (uH A.o HU.o);obtain ⟨dn,c5⟩:=O1 (qu u SP);rw [<- c5] at HD z;clear c5;have hR:=l.o;have t0:=hR.cell (i:=0) (by decide);have t1:=hR.cell (i:=1) (by decide);have t2:=hR.cell (i:=2) (by decide);have t3:=hR.cell (i:=3) (by decide);have s0:=hR.frozen 0;have s1:=hR.frozen 1;have s2:=hR.frozen 2;have s3:=hR.frozen 3;simp only [xa] at t0 t1 t2 t3;clear hR;go_wp2_with fail;refine HD.o.mono ?_;clear HD;rintro e e6 ⟨rfl,h'⟩;subst h';by_cases hd:dn=0
 case neg =>
  have d1:(dn != 0)=true:=by simpa using hd
  rw [Q1 hd] at z;clear hd;go_wp2;refine Q3 (qb Tryz.results65 _ _ (w.heap.size+1) 33 _ (0,0) _ rfl (yt (tK _ _ _ _ l.o)) Tryz.underlying33 rfl (by kernel_rfl) _ rfl) rfl ?_;refine ⟨u,HC.o,?_⟩;rw [z.o];exact gj (mC _ _ _ _ h.o (by omega))
 subst hd;rw [Z6 (by decide)] at z;have S:=U (yw r.thr q r.ids M ia ic J (g.o.carry (Q2 _) lz (fun _ _ _=>rfl)) R.o (by have:=Q.o;omega) P.o);rw [show (⟨r.thr,r.ids⟩:AuthV)=r from rfl] at S;obtain ⟨mb,c6⟩:=O1 (zk ⟨q,M,r⟩);rw [<- c6] at S z;clear c6;have e0:=d.o.cell (i:=0) (by decide);have f0:=d.o.frozen 0;simp only [xa] at e0;have e1:=d.o.cell (i:=1) (by decide);have f1:=d.o.frozen 1;simp only [xa] at e1;have e2:=d.o.cell (i:=2) (by decide);have f2:=d.o.frozen 2;simp only [xa] at e2;have e3:=d.o.cell (i:=3) (by decide);have f3:=d.o.frozen 3;simp only [xa] at e3;go_wp2_with fail;refine S.o.mono ?_;clear S e0 f0 e1 f1 e2 f2 e3 f3 t0 s0 t1 s1 t2 s2 t3 s3;rintro e d0 ⟨rfl,s⟩;replace A:=U (A.o.below s);replace l:=U (qw s l.o l.o.lt);replace d:=U (qw s d.o d.o.lt);replace h:=U (O2 h s);replace B:=U (Z5 B.o s.size);replace g:=U (g.o.below s lz lz s.size);clear s;have hR:=l.o;have t0:=hR.cell (i:=0) (by decide);have t1:=hR.cell (i:=1) (by decide);have t2:=hR.cell (i:=2) (by decide);have t3:=hR.cell (i:=3) (by decide);have s0:=hR.frozen 0;have s1:=hR.frozen 1;have s2:=hR.frozen 2;have s3:=hR.frozen 3;simp only [xa] at t0 t1 t2 t3;have e0:=d.o.cell (i:=0) (by decide);have f0:=d.o.frozen 0;simp only [xa] at e0;have e1:=d.o.cell (i:=1) (by decide);have f1:=d.o.frozen 1;simp only [xa] at e1;have e2:=d.o.cell (i:=2) (by decide);have f2:=d.o.frozen 2;simp only [xa] at e2;have e3:=d.o.cell (i:=3) (by decide);have f3:=d.o.frozen 3;simp only [xa] at e3;clear hR;cases mb with
 | false => rw [Z6 (by decide)] at z;go_wp2;refine Q3 (qb Tryz.results65 _ _ (w.heap.size+1) 33 _ (0,0) _ rfl (yt (tK _ _ _ _ l.o)) Tryz.underlying33 rfl (by kernel_rfl) _ rfl) rfl ?_;refine ⟨u,HC.o,?_⟩;rw [z.o];exact gj (mC _ _ _ _ h.o (by omega))
 | true => rw [Q1 rfl] at z;have b5:=O0 (w.heap.size+2<=K.heap.size) (by have:=f.o;omega);go_wp2;refine Q3 (qb Tryz.results65 _ _ (w.heap.size+1) 33 _ (0,0) _ rfl (yt (tK _ _ _ _ l.o)) Tryz.underlying33 rfl (by kernel_rfl) _ rfl) rfl ?_;refine ⟨u,HC.o,?_⟩;rw [z.o];have hc:=fun b (h1:K.heap.size<=b) (E:b<d0.heap.size)=>ii (W:=d0) (.int .i64 r.thr) (.slice ia r.ids.length ic) (.int .i64 q) (.string M) (show b≠w.heap.size+1 by have:=b5.o;omega);exact ⟨ia,ic,rfl,d2.o,g.o.carry (by have:=b5.o;omega) (X6 io.symm) hc,mC _ _ _ _ h.o (by omega)⟩
theorem mg (v:JV) (x:Value) (w:World) (lo:Nat) (b:0<lo) (d:v.wt<=4294967296) (c:Rep w lo w.heap.size v x) (f:v.kind=5->qK v.names=true/\v.names.length=v.items.length) :
 Calls Tryz.prog 65 #[x] w (kI (xf v) w):=by
 refine (fT (jy v) (st0 v) v x w (c.carry (Q2 _) lz (fun _ _ _=>rfl)) (by unfold st0;split <;> simp) (fun w1 hb=>nW d b hb.size (c.below hb lz lz lz) f)).mono ?_;rintro e w' ⟨u,a,h⟩;unfold jy at a;unfold st0 at h;by_cases hk:v.kind=5
 . rw [Q1 hk] at a h;subst a;rw [<- lN hk];exact h
 . rw [Z6 hk] at a h;subst a;have:xf v=(xG,10):=by unfold xf;rw [Q1 hk]
   rw [this];rw [lS] at h;exact h
def tk (w:World) (e:Ending) (w':World):Prop :=
 e=.returned (.tuple #[.agg #[.string ⟨#[]⟩,.int .u8 0,.int .i64 0,.string ⟨#[]⟩,.slice none 0 0,.slice none 0 0],.int .i64 3])/\O5 w w'
def cM (s t:ByteArray) (w:World) (e:Ending) (w':World):Prop :=
 ∃an cn ai ci,e=.returned (.tuple #[.agg #[.string (lX s t),.int .u8 5,.int .i64 0,.string ⟨#[]⟩,.slice an 2 cn,.slice ai 2 ci],.int .i64 0]) /\
  Rep w' w.heap.size w'.heap.size (jd s t) (.agg #[.int .u8 5,.int .i64 0,.string ⟨#[]⟩,.slice an 2 cn,.slice ai 2 ci])/\O5 w w'
theorem cC (s t:ByteArray) (w:World) (E:s.size<=4294967) (F:t.size<=4294967) (C:Tabs w) (D:zF s.data.toList t.data.toList=false) :
 Calls Tryz.prog 87 #[.agg #[.string s,.string t]] w (tk w):=by
 have k:O5 w ((w.alloc (.cells #[.string s,.string t] 43)).alloc (.cells #[.string ⟨#[]⟩,.int .u8 0,.int .i64 0,.string ⟨#[]⟩,.slice none 0 0,.slice none 0 0] 120)):=(O4).alloc (by simp) _;have g:=U (dQ s t ((w.alloc (.cells #[.string s,.string t] 43)).alloc (.cells #[.string ⟨#[]⟩,.int .u8 0,.int .i64 0,.string ⟨#[]⟩,.slice none 0 0,.slice none 0 0] 120)) E F (C.below k));unfold jX jR at g;rw [D] at g;have c:=zN (w.alloc (.cells #[.string s,.string t] 43)) (.string ⟨#[]⟩) (.int .u8 0) (.int .i64 0) (.string ⟨#[]⟩) (.slice none 0 0) (.slice none 0 0) 120;rw [show (w.alloc (.cells #[.string s,.string t] 43)).heap.size=w.heap.size+1 by simp] at c;have h:=U c;have d:=U k;clear D c k C;go_enter Tryz.func87,Tryz.ntmps87;go_wp2_with fail;refine g.o.mono ?_;rintro e B ⟨rfl,b⟩;have a:=qw b h.o (by simp);have j:=U a;have f:=U (d.o.trans (b.mono (by simp;omega)));obtain ⟨l,m,o,p,q⟩:=rc5 a;have r:=a.cell (i:=5) (by decide);obtain ⟨u,v,x,y,z⟩:=rf5 a;have A:=a.frozen 5;simp only [qe] at l m o p q r;clear a b;go_wp2;exact Q3 (qb Tryz.results87 _ _ (w.heap.size+1) 120 _ (0,0) _ rfl (zv (vT _ _ _ _ _ _ j.o)) Tryz.underlying120 rfl (by kernel_rfl) _ rfl) rfl ⟨rfl,xi _ _ _ _ _ _ f.o (by omega)⟩
theorem mf (s t:ByteArray) (w:World) (hs:s.size<=4294967) (ht:t.size<=4294967) (hT:Tabs w) (hk:zF s.data.toList t.data.toList=true) :
 Calls Tryz.prog 87 #[.agg #[.string s,.string t]] w (cM s t w):=by
 have E:O5 w ((w.alloc (.cells #[.string s,.string t] 43)).alloc (.cells #[.string ⟨#[]⟩,.int .u8 0,.int .i64 0,.string ⟨#[]⟩,.slice none 0 0,.slice none 0 0] 120)):=(O4).alloc (by simp) _;have m:=U (dQ s t ((w.alloc (.cells #[.string s,.string t] 43)).alloc (.cells #[.string ⟨#[]⟩,.int .u8 0,.int .i64 0,.string ⟨#[]⟩,.slice none 0 0,.slice none 0 0] 120)) hs ht (hT.below E));have p:=U (show ((w.alloc (.cells #[.string s,.string t] 43)).alloc (.cells #[.string ⟨#[]⟩,.int .u8 0,.int .i64 0,.string ⟨#[]⟩,.slice none 0 0,.slice none 0 0] 120)).heap[w.heap.size]?=some (.cells #[.string s,.string t] 43 (0,0)) by rw [J8 _ _ _ (by simp)];exact Z4 w _);unfold jX at m;rw [hk,Q1 rfl] at m;unfold cM lX;generalize (⟨(jR s.data.toList t.data.toList).toArray⟩:ByteArray)=ID at m ⊢;have G:=U hk;have f:=zN (w.alloc (.cells #[.string s,.string t] 43)) (.string ⟨#[]⟩) (.int .u8 0) (.int .i64 0) (.string ⟨#[]⟩) (.slice none 0 0) (.slice none 0 0) 120;rw [show (w.alloc (.cells #[.string s,.string t] 43)).heap.size=w.heap.size+1 by simp] at f;have o:=U f;have l:=U E;clear hk f E hT;go_enter Tryz.func87,Tryz.ntmps87;go_wp2_with fail;refine m.o.mono ?_;clear m;rintro e k ⟨rfl,d⟩;have D:=U (qw d o.o (by simp));have g:k.heap[w.heap.size]?=some (.cells #[.string s,.string t] 43 (0,0)):=by rw [d.block _ (by simp;omega)];exact p.o
 have J:w.heap.size+2<=k.heap.size:=by have:=d.size;simp at this;omega
 have z:=U (l.o.trans (d.mono (by simp;omega)));have H:=qq g (j:=0) rfl;have I:=qq g (j:=1) rfl;have F:=U (wN s t k (by omega) (by omega) G.o);clear d p o l g;go_wp2_with fail;refine F.o.mono ?_;clear F;rintro e y ⟨u,x,r,v,rfl,q,c⟩;have B:=U (q.carry (w':=y.alloc (.cells #[.int .u8 5,.int .i64 0,.string ⟨#[]⟩,.slice u 2 x,.slice r 2 v] 25)) lz lz (fun b _ h=>J8 _ _ _ h));have a:=qw (c.alloc c.size (.cells #[.int .u8 5,.int .i64 0,.string ⟨#[]⟩,.slice u 2 x,.slice r 2 v] 25)) D.o (by omega);have A:=U (z.o.trans ((c.alloc c.size (.cells #[.int .u8 5,.int .i64 0,.string ⟨#[]⟩,.slice u 2 x,.slice r 2 v] 25)).mono (by omega)));have K:k.heap.size<=y.heap.size:=c.size;have L:¬(w.heap.size+1=y.heap.size):=by omega
 have C:=U a;obtain ⟨M,N,P,Q,R⟩:=rc5 a;have S:=a.cell (i:=5) (by decide);obtain ⟨T,V,W,X,Y⟩:=rf5 a;have Z:=a.frozen 5;simp only [qe] at M N P Q R S;clear a c q H I;go_wp2;refine Q3 (qb Tryz.results87 _ _ (w.heap.size+1) 120 _ (0,0) _ rfl (zv (vT _ _ _ _ _ _ C.o)) Tryz.underlying120 rfl (by kernel_rfl) _ rfl) rfl ⟨u,x,r,v,rfl,?_,xi _ _ _ _ _ _ A.o (by omega)⟩;exact Rep.carry (by omega) (show y.heap.size<=_ by simp [World.setCell]) (fun j hj _=>vw _ _ _ _ _ _ (by omega)) _ _ B.o
theorem sy (x y:Mem) (W:World):Calls Tryz.prog 89 #[.agg (qU x).toArray,.agg (qU y).toArray] W fun e w'=>e=.returned (.int .i64 (cfM x y))/\∃q os',w'=grow (W.drewN q) os':=by have a:=fun W'=>Tryz.strings_Compare x.name y.name W';unfold cfM qU;generalize Lib.compareBytes x.name.data.toList y.name.data.toList=r at a ⊢;go_enter Tryz.func89,Tryz.ntmps89;go_wp2_with (go_at_call 155;refine (a _).mono ?_;rintro e w' ⟨rfl,rfl⟩);go_ret;exact ⟨rfl,0,_,by rw [alloc_eq_grow,alloc_eq_grow,grow_grow];rfl⟩
theorem mh:∀a b:List UInt8,decide (Lib.compareBytes a b<0)=Op.bytesLess a b
 | [],[]=>rfl
 | [],_ :: _=>rfl
 | _ :: _,[]=>rfl
 | a :: ax,b :: bx=>by
  unfold Lib.compareBytes Op.bytesLess;by_cases h1:a<b
  . simp [h1]
  . by_cases h2:b<a
    . have:¬a=b:=fun e=>by subst e;exact h1 h2
      simp [h1,h2,this]
    . have e:a=b:=UInt8.le_antisymm (UInt8.not_lt.1 h2) (UInt8.not_lt.1 h1);subst e;rw [Z6 h1,Z6 h1,mh ax bx];simp
theorem gk (x y:Mem):ltOf cfM x y=bl x.name y.name:=by unfold ltOf cfM bl;rw [mh,J3,J3]
theorem lO {a b c:ByteArray} (h:bl a b=false) (d:bl b c=false):bl a c=false:=by
 cases h2:bl a c
 . rfl
 . cases h3:bl b a
   . rw [fV h h3,d] at h2;cases h2
   . rw [xU h3 h2] at d;cases d
theorem oc:SWO (ltOf cfM) where
 irrefl x:=by rw [gk];exact zJ _
 trans x y z:=by rw [gk,gk,gk];exact xU
 ntrans x y z:=by rw [gk,gk,gk];exact lO
def lE (d d':Array Mem):Prop:=d'.size=d.size/\d'.toList.Perm d.toList/\∀i j,i<j->j<d.size->bl d'[j]!.name d'[i]!.name=false
def sg (blk off:Nat) (d:Array Mem) (w:World) (e:Ending) (w':World):Prop :=
 e=.returned (.tuple #[])/\∃d',lE d d'/\HoldsK qU 6 w' blk off d'/\Touch (· = blk) w w'
theorem aJ (m o cap:Nat) (d:Array Mem) (w:World) (q:HoldsK qU 6 w m o d) (p:m<w.heap.size) (r:d.size<=4294967296) :
 Calls Tryz.prog 88 #[.slice (some ⟨m,o,none⟩) d.size cap,.func (.func 89) #[] #[]] w (sg m o d w):=by
 have h:∀args w,(callFunc 89 args).run Tryz.prog w=.ok (.enter 89 args) w:=enters_of Tryz.func89 (by kernel_rfl) rfl;have a:=AnyQ.slices_SortFunc dR 6 Tryz.isAgg120 Tryz.sizeOf120 qU zC xM cfM oc 89 #[] m o cap d w h (fun _ _ _ _ x y=>sy x y _) q p (by omega);refine a.mono ?_;rintro e w' ⟨rfl,c,n,l,b,k,rfl⟩;refine ⟨rfl,c,⟨b.1,?_,fun i j hij hj=>?_⟩,holdsK_grow qU 6 _ _ _ _ _ (by simp [putRowK,Go.Sort.ahead];exact p) (holdsK_putRowK qU 6 _ _ _ d _ (holdsK_ahead qU 6 _ _ _ _ _ q) b.1),jm⟩
 . have:=b.2.2;have f:c.extract 0 d.size=c:=by rw [<- b.1];simp
   have g:d.extract 0 d.size=d:=by simp
   rwa [f,g] at this
 . have:=k i j (Q2 _) hij hj;rwa [gk] at this
def jk (seen:List ByteArray):List Key2->Int
 | []=>0
 | k :: r=>if ok2 k then (if xI seen (id2 k) then 7 else jk (seen ++ [id2 k]) r) else 3
def vI (l:List Key2):Int:=if 32<l.length then 5 else jk [] l
theorem gv (l:List Key2) (k:Nat) (h:k<l.length):jk (ids (l.take k)) (l.drop k)=if ok2 l[k] then (if xI (ids (l.take k)) (id2 l[k]) then 7 else jk (ids (l.take (k+1))) (l.drop (k+1))) else 3:=by
 rw [K6 h,jk];have:ids (l.take k) ++ [id2 l[k]]=ids (l.take (k+1)):=by unfold ids;rw [Z8 h,N0];rfl
 rw [this]
theorem vQ:∀(l:List Key2) (f:List ByteArray),jk f l=0↔(∀k ∈ l,ok2 k=true)/\(∀k ∈ l,id2 k ∉ f)/\(ids l).Nodup
 | [],f=>by simp [jk,ids]
 | k :: r,f=>by
  unfold jk;have ih:=vQ r (f ++ [id2 k]);by_cases h1:ok2 k=true
  . rw [Q1 h1];by_cases h2:xI f (id2 k)=true
    . rw [Q1 h2];have:=(kQ _ _).1 h2;constructor
      . intro h;cases h
      . rintro ⟨_,h,_⟩;exact absurd this (h k (V7 ..))
    . rw [Z6 h2,ih];have h3:id2 k ∉ f:=fun h=>h2 ((kQ _ _).2 h);unfold ids;rw [Y9,List.nodup_cons];constructor
      . rintro ⟨a,b,c⟩;refine ⟨fun x hx=>?_,fun x hx=>?_,fun hm=>?_,c⟩
        . rcases Y5.1 hx with rfl|hx
          . exact h1
          . exact a x hx
        . rcases Y5.1 hx with rfl|hx
          . exact h3
          . exact fun h=>b x hx (List.mem_append_left _ h)
        . obtain ⟨x,hx,e⟩:=V8.1 hm;exact b x hx (by rw [e];simp)
      . rintro ⟨a,b,c,d⟩;refine ⟨fun x hx=>a x (Y4 _ hx),fun x hx hm=>?_,d⟩;rcases List.mem_append.1 hm with hm|hm
        . exact b x (Y4 _ hx) hm
        . simp at hm;exact c (V8.2 ⟨x,hx,hm⟩)
  . rw [Z6 h1];constructor
    . intro h;cases h
    . rintro ⟨h,_⟩;exact absurd (h k (V7 ..)) h1
theorem mu {α β:Type} (f:α->β) {m o:List β} (h:m.Perm o):∀zs:List α,zs.map f=o->∃zs':List α,zs'.Perm zs/\zs'.map f=m:=by
 induction h with
 | nil=>intro zs h;exact ⟨[],by rw [List.map_eq_nil_iff.1 h],rfl⟩
 | cons x _ ih =>
  intro zs h
  match zs,h with
  | z :: zr,h => simp only [Y9,V4] at h;obtain ⟨zs',g,e⟩:=ih zr h.2;exact ⟨z :: zs',g.cons z,by simp [e,h.1]⟩
 | swap x y r =>
  intro zs h
  match zs,h with
  | [_],h=>simp at h
  | a :: b :: zr,h => simp only [Y9,V4] at h;exact ⟨b :: a :: zr,List.Perm.swap _ _ _,by simp [h.1,h.2.1,h.2.2]⟩
 | trans _ _ ih1 ih2 => intro zs h;obtain ⟨k,i,c⟩:=ih2 zs h;obtain ⟨l,j,d⟩:=ih1 k c;exact ⟨l,j.trans i,d⟩
theorem fg {l:List ByteArray} (h:∀i j (hi:i<l.length) (hj:j<l.length),i<j->bl l[i] l[j]=true):qK l=true:=by
 match l with
 | []=>rfl
 | [_]=>rfl
 | a :: b :: r => unfold qK;rw [Q0];refine ⟨h 0 1 (by simp) (by simp) (by omega),fg fun i j hi hj hij=>?_⟩;have:=h (i+1) (j+1) (by simpa using hi) (by simpa using hj) (by omega);simpa using this
theorem fI {d e:List Key2} (k:d.Perm e) (f:qK (ids d)=true) (g:qK (ids e)=true):d=e:=by
 have c:∀m:List Key2,qK (ids m)=true->m.Pairwise (fun a b=>bl (id2 a) (id2 b)=true):=fun m h=>by rw [N3];intro i j hi hj hij;have:=jb h i j (by simpa [ids] using hi) (by simpa [ids] using hj) hij;simpa [ids] using this
 refine k.eq_of_pairwise (le:=fun a b=>bl (id2 a) (id2 b)=true) (fun a b _ _ x y=>?_) (c d f) (c e g);rw [ul x] at y;cases y
def xr (w:World) (base:Nat) (X:Nat->Prop) (zs:List (Mem × Key2)):Prop :=
 ∀z ∈ zs,z.1.name=id2 z.2/\∃lo hi,base<=lo/\hi<=w.heap.size/\(∀b,X b->¬(lo<=b/\b<hi))/\Rep w lo hi (obj2 z.2) z.1.val
theorem xr.nil (w:World) (a:Nat) (X:Nat->Prop):xr w a X []:=fun z h=>by simp at h
theorem xr.carry {w w':World} {i:Nat} {X X':Nat->Prop} {j:List (Mem × Key2)} (h:xr w i X j) (m:w.heap.size<=w'.heap.size)
 (l:∀b,b<w.heap.size->¬X b->i<=b->w'.heap[b]?=w.heap[b]?) (k:∀b,X' b->X b\/w.heap.size<=b\/b<i):xr w' i X' j:=by
 intro z hz;obtain ⟨d,f,hi,c,g,a,e⟩:=h z hz;refine ⟨d,f,hi,c,by omega,fun b hx hb=>?_,Rep.carry lz lz (fun b hb1 hb2=>l b (by omega) (fun hx=>a b hx ⟨hb1,hb2⟩) (by omega)) _ _ e⟩;rcases k b hx with hx|hx|hx
 . exact a b hx hb
 . omega
 . omega
theorem xr.snoc {w:World} {a:Nat} {X:Nat->Prop} {c:List (Mem × Key2)} (h:xr w a X c) (x:Mem) (k:Key2) (lo hi:Nat) (g:x.name=id2 k) (d:a<=lo) (e:hi<=w.heap.size) (f:∀b,X b->¬(lo<=b/\b<hi)) (i:Rep w lo hi (obj2 k) x.val) :
 xr w a X (c ++ [(x,k)]):=by
 intro z hz;rcases List.mem_append.1 hz with hz|hz
 . exact h z hz
 . simp at hz;subst hz;exact ⟨g,lo,hi,d,e,f,i⟩
theorem xr.perm {w:World} {a:Nat} {X:Nat->Prop} {c b:List (Mem × Key2)} (h:xr w a X c) (d:b.Perm c):xr w a X b:=fun z hz=>h z (d.subset hz)
theorem flat_get {ms:List Mem} (i c:Nat) (hi:i<ms.length) (a:c<6):(ms.flatMap qU)[i * 6+c]?=some ((qU ms[i])[c]!):=by
 induction ms generalizing i with
 | nil=>simp at hi
 | cons m r ih =>
  rw [List.flatMap_cons];rcases i with _|i
  . rw [Y8 (by rw [zC];omega)];rw [Nat.zero_mul,N6];have:c<(qU m).length:=by rw [zC];exact a
    rw [V5 this];show some _=some ((qU m)[c]!);rw [getElem!_pos (qU m) c this]
  . rw [X8 (by rw [zC];omega),zC,show (i+1) * 6+c - 6=i * 6+c by omega];exact ih i (by simpa using hi)
theorem cL {w:World} {k e g cap n:Nat} {ms:List Mem} (h:w.ownsRow k e 6 (.slice (some ⟨g,0,none⟩) n cap) n (ms.flatMap qU)):HoldsK qU 6 w g 0 ms.toArray:=by
 intro j hj;have a:j<ms.length * 6:=by simpa using hj
 rcases h.2 with ⟨hx,_⟩|⟨g',cap',cur,hx,hg,hh,_⟩
 . cases hx
 . simp only [X4,Y2,Addr.mk.injEq,N7] at hx;obtain ⟨rfl,_⟩:=hx;refine ⟨?_,by simp [World.frozen?,hh]⟩;have d:j / 6<ms.length:=by omega
   have i:j % 6<6:=Nat.mod_lt _ (by decide);have c:=flat_get (ms:=ms) (j / 6) (j % 6) d i;rw [show j / 6 * 6+j % 6=j by omega] at c;have b:=h.cells (g:=g) rfl j _ c;have f:(⟨g,0,none⟩:Addr).add j=⟨g,j,none⟩:=by unfold Addr.add;split <;> simp_all
   rw [f] at b;rw [N6,b,get_flatK _ _ _ _ (by simpa using a)];congr 2;simp [d]
theorem tE (W:World):Calls Tryz.prog 209 #[.slice none 0 0,.int .i64 0,.int .i64 0,.func (.func 89) #[] #[]] W fun e w'=>e=.returned (.tuple #[])/\w'=W:=by
 go_enter Tryz.func209,Tryz.ntmps209;go_wp2;go_loopw [8] (fun i wr=>i=.int .i64 1/\wr=W) (fun _ _=>0)
 case atStart=>exact ⟨rfl,rfl⟩
 case round =>
  obtain ⟨rfl,rfl⟩:=hrel;go_wp2
  go_end0
  exact ⟨rfl,rfl⟩
theorem iq (W:World) (d:Int):Calls Tryz.prog 153 #[.slice none 0 0,.int .i64 0,.int .i64 0,.int .i64 d,.func (.func 89) #[] #[]] W fun e w'=>e=.returned (.tuple #[])/\w'=W:=by
 have H:=tE W;go_enter Tryz.func153,Tryz.ntmps153;go_wp2;go_loopw [1,2,3,10,11,12,13,14,15,16,17,18,19,20] (fun a b _ _ _ _ _ _ _ _ _ _ _ _ wr=>a=.int .i64 0/\b=.int .i64 0/\wr=W) (fun _ _ _ _ _ _ _ _ _ _ _ _ _ _ _=>0)
 case atStart=>exact ⟨rfl,rfl,rfl⟩
 case round =>
  obtain ⟨rfl,rfl,rfl⟩:=hrel;go_wp2_with fail;refine H.mono ?_;rintro e c ⟨rfl,rfl⟩;go_wp2
  (try simp only [Exit.inBlock,Exit.then])
  refine Q3 (results_none rfl _ _ _) rfl ?_;exact ⟨rfl,rfl⟩
theorem aK (w:World):Calls Tryz.prog 88 #[.slice none 0 0,.func (.func 89) #[] #[]] w fun e w'=>e=.returned (.tuple #[])/\w'=w:=by
 have a:=Tryz.bits_Len 0 w (by omega) (by omega);go_enter Tryz.func88,Tryz.ntmps88;go_wp2_with fail;refine a.mono ?_;rintro e b ⟨rfl,rfl⟩;go_wp2_with fail;refine (iq _ _).mono ?_;rintro e c ⟨rfl,rfl⟩;go_wp2
 go_end0
 exact ⟨rfl,rfl⟩
theorem fO {w:World} {g T N:Nat} {v:Value} {f:Nat->Value} (k:w.rowIs g T N f) (h:∀j,j<N->f j=v) (l:N<=maxLen):w.ownsRow g T 1 (.slice (some ⟨g,0,none⟩) N N) N (List.replicate N v):=by
 obtain ⟨a,e,i,d⟩:=k;refine ⟨by simp,.inr ⟨g,N,a,rfl,Z9 _,e,Z9 _,l,by omega,?_⟩⟩;apply List.ext_getElem?;intro j;by_cases hj:j<N
 . have b:=d j hj;rw [h j hj] at b;have c:j<a.size:=by omega
   rw [V1 c] at b;simp only [Y2] at b;simp [hj,c,b]
 . rw [List.getElem?_eq_none (by simp;omega),List.getElem?_eq_none (by simp;omega)]
theorem l4 (c:UInt8) (n:Nat):Lib.byteCells (List.replicate n c)=List.replicate n (.int .u8 c.toNat):=by simp [Lib.byteCells]
theorem tv (c:UInt8) (w:World):Calls Tryz.prog 27 #[.int .u8 c.toNat] w fun e w'=>e=.returned (.string (zA c))/\O5 w w':=by
 obtain ⟨s,x⟩:=O1 (zA c);have E:=O0 (s=⟨(List.replicate 64 c).toArray⟩) x;rw [<- x];obtain ⟨n,v⟩:∃n:Nat,n=c.toNat:=⟨_,rfl⟩;have C:=U v;rw [<- v];clear x v;obtain ⟨G,hi,y,z,A⟩:=V2 cP;go_enter Tryz.func27,Tryz.ntmps27;go_wp2_with (at_make;refine wpList_make_full _ rfl (.const (.int .i64 64)) (.const (.int .i64 64)) 114 rfl w.heap.size 5 G (.int .u8 0) 1 V0 hi y z .i64 .i64 _ _ 64 rfl rfl rfl rfl ?b2 ?b3 lz ?_)
 case b2=>rw [A];decide
 case b3=>unfold maxLen;decide
 intro w1 hown hgrow;have p:Hid (O5 w w1):=(Z0 _ _).grown hgrow lz (by simp);have m:=U (show ∃f,w1.rowIs w.heap.size 5 64 f from by
  rcases hown.2 with ⟨h,_⟩|⟨g,cap,cur,hv,hg,hh,hc,hm,hz,ht⟩
  . cases h
  . simp only [X4,Y2,Addr.mk.injEq,N7,H7] at hv;obtain ⟨rfl,rfl⟩:=hv;exact ⟨fun i=>cur[i]!,cur,hh,hz,fun i hi=>by show cur[i]?=some cur[i]!;rw [getElem!_pos cur i (by omega),V1 (by omega)]⟩)
 have F:=U (show w.heap.size<w1.heap.size from by
  obtain ⟨f,u⟩:=m.o;exact u.lt)
 clear hown hgrow;go_wp2;go_loopw [4] (fun i wr=>∃(k:Nat) (f:Nat->Value),k<=64/\i=.int .i64 k/\wr.rowIs w.heap.size 5 64 f/\(∀j,j<k->f j=.int .u8 n)/\O5 w wr) (fun i _=>64 - (intOf i).toNat)
 case atStart => obtain ⟨f,u⟩:=m.o;exact ⟨0,f,by omega,rfl,u,fun j h=>by omega,p.o⟩
 case round =>
  obtain ⟨k,f,K,rfl,a,o,d⟩:=hrel;have l:=U o;have B:=U d;have D:=U a;clear o d;by_cases hlt:k<64
  . have H:decide ((k:Int)<64)=true:=by simp;omega
    have L:(0:Int)<=(k:Int):=by omega
    have M:(k:Int)<64:=by omega
    have I:=a.cell (i:=k) hlt;have J:=a.frozen k;have q:=U (a.set k (.int .u8 (n:Int)));clear a;go_wp2;go_roundw
    case rel =>
     refine ⟨k+1,_,by omega,by go_num,q.o,fun j hj=>?_,B.o.setCell lz _⟩;by_cases e:j=k
     . simp [e]
     . simp only [e,if_false];exact l.o j (by omega)
    case measure=>simp [intOf];omega
  . obtain rfl:k=64:=by omega
    have H:decide (((64:Nat):Int)<64)=false:=by decide
    have b:=fO a (fun j hj=>l.o j hj) (by unfold maxLen;omega);rw [C.o,<- l4] at b;have r:=xH (P:=Tryz.prog) 114 9 5 V0 K0 X0 b;rw [<- E.o] at r;clear a b;go_wp2;go_ret;exact ⟨rfl,B.o⟩
theorem vZ (w:World):Calls Tryz.prog 32 #[] w fun e w'=>∃g,e=.returned (.agg #[.int .i64 1,.slice (some ⟨g,0,none⟩) 1 1])/\qy w' w.heap.size w'.heap.size (some ⟨g,0,none⟩) [zA 97]/\O5 w w':=by
 obtain ⟨W,j⟩:=O1 (w.alloc (.cells #[.int .i64 0,.slice none 0 0] 31));have q:=O7 j
 have u:W.rowIs w.heap.size 31 2 (jW (.int .i64 0) (.slice none 0 0)):=by rw [j];exact kF w _ _ _
 have b:=U (tv 97 W);obtain ⟨s,v⟩:=O1 (zA 97);rw [<- v] at b ⊢;have l:=U q;have m:=U u;have o:=U j;clear j q u v;go_enter Tryz.func32,Tryz.ntmps32;go_upto_region 1 with fail
 rw [<- o.o];clear o;go_wp2_with fail;refine b.o.mono ?_;clear b;rintro r h ⟨rfl,c⟩;have d:=qw c m.o m.o.lt;have a:=d.alloc (.cells #[.string s] 9);have k:=U a;have f:=U (O2 l c);have x:=U (Z4 h (.cells #[.string s] 9));have p:=O0 (w.heap.size<h.heap.size) d.lt;have y:=a.cell (i:=0) (by decide);have z:=a.cell (i:=1) (by decide);have A:=a.frozen 0;have B:=a.frozen 1;simp only [jW] at y z;clear d a c;go_wp2;refine Q3 (J2 Tryz.results32 _ _ w.heap.size 31 _ (0,0) _ rfl (zU (set2 _ _ k.o)) Tryz.underlying31 rfl (by kernel_rfl)) rfl ?_;refine ⟨h.heap.size,rfl,.inr ⟨_,0,rfl,by have:=p.o;omega,by simp [World.setCell],fun i hi=>?_⟩,wl _ _ (f.o.alloc f.o.size _) lz⟩;obtain rfl:i=0:=by simp at hi;omega
 rw [J9 (w:=h.alloc (.cells #[.string s] 9)) (aT _ _ (show h.heap.size≠w.heap.size by have:=p.o;omega))];exact qq x.o rfl
theorem jJ (n p:ByteArray) (M:Bool) (w:World):Calls Tryz.prog 31 #[.string n,.string p,.bool M] w fun e w'=>∃ga gp,e=.returned (.agg #[.string n,.int .i64 1,.slice (some ⟨ga,0,none⟩) 1 1,.bool M,.slice (some ⟨gp,0,none⟩) 1 1,.slice none 0 0])/\qy w' w.heap.size w'.heap.size (some ⟨ga,0,none⟩) [zA 97]/\qy w' w.heap.size w'.heap.size (some ⟨gp,0,none⟩) [p]/\O5 w w':=by
 obtain ⟨W,l⟩:=O1 (w.alloc (.cells #[.string ⟨#[]⟩,.int .i64 0,.slice none 0 0,.bool false,.slice none 0 0,.slice none 0 0] 41));have v:=O7 l
 have x:W.rowIs w.heap.size 41 6 (qe (.string ⟨#[]⟩) (.int .i64 0) (.slice none 0 0) (.bool false) (.slice none 0 0) (.slice none 0 0)):=by rw [l];exact zN w _ _ _ _ _ _ _
 have g:=U (vZ W);have s:=U v;have m:=U x;have u:=U l;clear l v x;go_enter Tryz.func31,Tryz.ntmps31;go_upto_region 1 with fail
 rw [<- u.o];clear u;go_wp2_with fail;refine g.o.mono ?_;clear g;rintro r d ⟨ga,rfl,j,c⟩;have h:=qw c m.o m.o.lt;have a:=h.alloc (.cells #[.string p] 9);have o:=U a;have f:=U (O2 s c);have y:=U (Z4 d (.cells #[.string p] 9));have k:=O0 (w.heap.size<W.heap.size/\W.heap.size<=d.heap.size) (⟨m.o.lt,c.size⟩);have q:=U (j.below (B:=d.heap.size) ((Z0 _ _).alloc lz (.cells #[.string p] 9)) lz lz (show d.heap.size<=(d.alloc (.cells #[.string p] 9)).heap.size by simp));obtain ⟨z,A,C,D,E⟩:=rc5 a;have F:=a.cell (i:=5) (by decide);obtain ⟨G,H,I,J,K⟩:=rf5 a;have L:=a.frozen 5;simp only [qe] at z A C D E F;clear h a c j;go_wp2;refine Q3 (J2 Tryz.results31 _ _ w.heap.size 41 _ (0,0) _ rfl (zv (vT _ _ _ _ _ _ o.o)) H6 rfl (by kernel_rfl)) rfl ?_;refine ⟨ga,d.heap.size,rfl,?_,?_,xi _ _ _ _ _ _ (f.o.alloc f.o.size _) lz⟩
 . exact q.o.carry (by have:=k.o;omega) (X6 wz.symm) (fun b h1 h2=>vw _ _ _ _ _ _ (by have:=k.o;omega))
 . refine .inr ⟨_,0,rfl,by have:=k.o;omega,by simp [World.setCell],fun i hi=>?_⟩;obtain rfl:i=0:=by simp at hi;omega
   rw [J9 (w:=d.alloc (.cells #[.string p] 9)) (vw _ _ _ _ _ _ (show d.heap.size≠w.heap.size by have:=k.o;omega))];exact qq y.o rfl
theorem aV (k n:Nat) (w:World) (d:k<=32) (f:n<4294967296) :
 Calls Tryz.prog 173 #[.int .i64 k,.int .u32 n] w fun e w'=>e=.returned (.bool (decide (n<2 ^ k)))/\w'=w:=by
 have c:(k:Int)<=64:=by omega
 have a:=U (show ((n:Int) / 2 ^ k == 0)=decide (n<2 ^ k) from by
  have b:=Nat.two_pow_pos k;have e:((n:Int) / 2 ^ k)=((n / 2 ^ k:Nat):Int):=by push_cast;rfl
  rw [e];by_cases h:n<2 ^ k
  . rw [Q9 h,Nat.div_eq_of_lt h];rfl
  . rw [Q8 h,Y3];have:0<n / 2 ^ k:=Nat.div_pos (by omega) b;omega)
 go_enter Tryz.func173,Tryz.ntmps173;go_wp2;go_ret;exact ⟨qx a.o,rfl⟩
def sf (count n q:Nat):Nat:=(zx (n / 16 ^ (count - 1 - q) % 16)).toNat
theorem mc:∀(a n q:Nat) (h:q<a),(yV a n)[q]'(by rw [jp];exact h)=zx (n / 16 ^ (a - 1 - q) % 16)
 | 0,_,_,h=>absurd h (by omega)
 | c+1,n,q,h=>by
  simp only [yV];by_cases e:q<c
  . rw [G1 (by rw [jp];exact e),mc c (n / 16) q e,Nat.div_div_eq_div_mul,show c+1 - 1 - q=(c - 1 - q)+1 from by omega,Nat.pow_succ,Nat.mul_comm 16]
  . obtain rfl:q=c:=by omega
    rw [N2 (by rw [jp];omega)];simp [jp]
abbrev dW:ByteArray:=⟨#[48,49,50,51,52,53,54,55,56,57,97,98,99,100,101,102]⟩
theorem cR (x:Nat) (h:x<16):(dW[x]'h)=zx x:=by
 have:∀m:Fin 16,(dW[m.val]'m.isLt)=zx m.val:=by decide
 exact this ⟨x,h⟩
theorem sh (n V:Nat) (w:World) (X:n<4294967296) (Y:V<=8) :
 Calls Tryz.prog 174 #[.int .u32 n,.int .i64 V] w fun e w'=>e=.returned (.string ⟨(yV V n).toArray⟩)/\O5 w w':=by
 obtain ⟨s,x⟩:∃s:ByteArray,s=⟨(yV V n).toArray⟩:=⟨_,rfl⟩;have B:=O0 (s=⟨(yV V n).toArray⟩) x;rw [<- x];clear x;obtain ⟨W,r⟩:=O1 (w.alloc (.cells #[.int .u8 0,.int .u8 0,.int .u8 0,.int .u8 0,.int .u8 0,.int .u8 0,.int .u8 0,.int .u8 0] 225));have z:=U (show O5 w W by rw [r];exact O4);have A:=O0 (∃f,W.rowIs w.heap.size 225 8 f) (⟨fun i=>(#[Value.int .u8 0,.int .u8 0,.int .u8 0,.int .u8 0,.int .u8 0,.int .u8 0,.int .u8 0,.int .u8 0]:Array Value)[i]!,by rw [r];exact jg rfl⟩);have y:=U r;clear r;go_enter Tryz.func174,Tryz.ntmps174;go_upto_region 2 with fail
 rw [<- y.o];clear y;go_wp2;go_loopw [0,6] (fun nv iv wr=>∃(j m:Nat) (f:Nat->Value),j<=V/\((j=0/\iv=.int .i64 (-1))\/(0<j/\iv=.int .i64 ((j - 1:Nat):Int)))/\nv=.int .u32 m/\m<4294967296/\(m=n / 16 ^ (V - j))/\wr.rowIs w.heap.size 225 8 f/\(∀q,j<=q->q<V->f q=.int .u8 (sf V n q))/\O5 w wr) (fun _ iv _=>(intOf iv+1).toNat)
 case atStart =>
  obtain ⟨f,E⟩:=A.o;refine ⟨V,n,f,Z9 _,?_,rfl,X,by simp,E,fun q h1 h2=>by omega,z.o⟩;by_cases h0:V=0
  . subst h0;exact .inl ⟨rfl,by first|rfl|go_num⟩
  . exact .inr ⟨by omega,by congr 1;omega⟩
 case round =>
  obtain ⟨j,m,f,Q,v,rfl,R,l,a,c,b⟩:=hrel;rcases v with ⟨rfl,rfl⟩|⟨h0,rfl⟩
  . have d:=U c;have g:=U b;have F:decide ((0:Int)<=-1)=false:=by decide
    have p:=run_convert_bytes_back wr 114 9 5 ⟨w.heap.size,0,none⟩ 8 (yV V n) V0 K0 X0 (fun q hq=>by
     rw [jp] at hq;rw [mc V n q hq];have e:(⟨w.heap.size,0,none⟩:Addr).add q=⟨w.heap.size,q,none⟩:=by unfold Addr.add;split <;> simp_all
     rw [e,a.cell (by omega),d.o q (Q2 _) hq];rfl)
    rw [jp] at p;rw [<- B.o] at p;have C:Tryz.prog.arrayLen 225=8:=by kernel_rfl
    have M:(0:Int)<=(V:Int):=by omega
    have N:(V:Int)<=8:=by omega
    have P:(V:Int)<=((Tryz.prog.arrayLen 225:Nat):Int):=by rw [C];omega
    clear a c b l;go_wp2;go_ret;exact ⟨rfl,g.o⟩
  . obtain ⟨k,rfl⟩:∃k,j=k+1:=⟨j - 1,by omega⟩;rw [Nat.add_sub_cancel];have d:=U c;have g:=U b;have o:=U l;have u:=U a;have F:decide ((0:Int)<=(k:Int))=true:=by rw [Z7];omega
    have S:(0:Int)<=(k:Int):=by omega
    have T:(k:Int)<8:=by omega
    have G:bits BinOp.and IntKind.u32 (m:Int) 15=(m:Int) % 16:=(by rw [u32_and _ _ (by omega) (by omega) (by omega) (by omega)];show ((m &&& 15:Nat):Int)=_;rw [nat_mask4];omega);have H:(0:Int)<=(m:Int) % 16:=by omega
    have I:(m:Int) % 16<16:=by omega
    have J:((m:Int) % 16).toNat=m % 16:=by omega
    have K:=a.cell (i:=k) (by omega);have L:=a.frozen k;clear c b l a;go_wp2;go_roundw
    case rel =>
     refine ⟨k,m / 16,_,by omega,?_,by push_cast;rfl,by omega,?_,u.o.set k _,fun q h1 h2=>?_,g.o.setCell lz _⟩
     . rcases G3 k with h|h
       . subst h;exact .inl ⟨rfl,rfl⟩
       . exact .inr ⟨h,by congr 1;omega⟩
     . rw [o.o,Nat.div_div_eq_div_mul,<- Nat.pow_succ];congr 2;omega
     . by_cases e:q=k
       . subst e;simp only [if_true];have D:=cR (m % 16) (by omega);unfold sf;rw [show V - 1 - q=V - (q+1) from by omega,<- o.o,<- D]
       . simp only [e,if_false];exact d.o q (by omega) h2
    case measure=>simp [intOf]
def yP (l:List UInt8):Nat->Nat
 | 0=>0
 | k+1=>yP l k * 256+(l.getD k 0).toNat
theorem l5 (path:ByteArray):yP (zW path.data.toList) 4=cQ path:=by simp only [yP,cQ];omega
theorem dY (l:List UInt8):∀k,yP l k<256 ^ k
 | 0=>by simp [yP]
 | k+1=>by have:=dY l k;have h2:=(l.getD k 0).toNat_lt;rw [yP,Nat.pow_succ];omega
theorem iz (a b:Nat) (h:b<256):a * 256 ||| b=a * 256+b:=by have:=Nat.two_pow_add_eq_or_of_lt (i:=8) h a;rw [Nat.mul_comm a 256];exact this.symm
theorem aW (path:ByteArray) (k:Nat) (w:World) (Y:1<=k) (Z:k<=32) (hp:path.size<=4294967296) (X:Tabs w) :
 Calls Tryz.prog 100 #[.string path,.int .i64 k] w fun e w'=>e=.returned (.tuple #[.int .u32 (wA path k:Nat),.int .i64 0])/\O5 w w':=by
 have F:=U (fun w=>(dl k w Y Z).mono fun e w' h=>show e=.returned (.bool true)/\w=w' from ⟨h.1,h.2.symm⟩);have y:=U (de path w (by omega) X.init X.rounds X.l2);obtain ⟨S,o⟩:∃S:ByteArray,S=⟨(zW path.data.toList).toArray⟩:=⟨_,rfl⟩;rw [<- o] at y;have g:S.size=32:=by rw [o];show (zW path.data.toList).toArray.size=32;rw [List.size_toArray,jv]
 have q:=U g;have v:=U (show ∀j (h:j<S.size),S[j]=(zW path.data.toList).getD j 0 from fun j h=>by
  subst o;rw [X7,V5 (by rw [jv];rw [g] at h;exact h)];rfl)
 have u:=U (l5 path);have x:=U (dY (zW path.data.toList));have l:=O0 (wA path k=cQ path / 2 ^ (32 - k)) rfl;obtain ⟨L,z⟩:=O1 (zW path.data.toList);rw [<- z] at v u x;obtain ⟨R,A⟩:=O1 (wA path k);rw [<- A] at l ⊢;clear o g z X A;go_enter Tryz.func100,Tryz.ntmps100;go_wp2_with (first|(go_at_call 170;refine (F.o _).mono ?_;rintro e I ⟨rfl,rfl⟩)|(go_at_call 172;refine y.o.mono ?_;rintro e I ⟨rfl,B⟩;have E:=U B;clear B));go_loopw [7,8] (fun nv iv wr=>∃j:Nat,j<=4/\iv=.int .i64 j/\nv=.int .u32 (yP L j:Nat)/\O5 w wr) (fun _ iv _=>4 - (intOf iv).toNat)
 case atStart=>exact ⟨0,by omega,rfl,rfl,E.o⟩
 case round =>
  obtain ⟨j,Q,rfl,rfl,b⟩:=hrel;have i:=U b;clear b;by_cases hlt:j<4
  . have r:j<S.size:=by rw [q.o];omega
    have T:(0:Int)<=(j:Int):=by omega
    have H:decide ((j:Int)<4)=true:=by rw [Z7];omega
    have V:(j:Int)<(S.size:Int):=by omega
    have W:decide ((j:Int)<(S.size:Int))=true:=by rw [Z7];omega
    have C:S[j].toNat<256:=S[j].toNat_lt;have s:yP L j<16777216:=J7 (x.o j) (by
     have:256 ^ j<=256 ^ 3:=Nat.pow_le_pow_right (by decide) (by omega);omega)
    have d:=O0 (yP L (j+1)=yP L j * 256+S[j].toNat) (by rw [yP,v.o j r]);obtain ⟨c,f⟩:=O1 (S[j].toNat);have D:(S[j].toNat:Int)=(c:Int):=by rw [f]
    rw [<- f] at C d;obtain ⟨p,a⟩:=O1 (yP L j);rw [<- a] at s d ⊢;clear f a;have J:(p:Int) * 256 % 4294967296=(p:Int) * 256:=by omega
    have K:bits BinOp.or IntKind.u32 ((p:Int) * 256) (c:Int)=((p * 256+c:Nat):Int):=by
     have:=u32_or_nat (p * 256) c (by omega) (by omega);rw [iz p c C] at this
     push_cast at this ⊢
     exact this
    go_wp2;go_roundw
    case rel=>exact ⟨j+1,by omega,by go_num,by rw [d.o];push_cast;rfl,i.o⟩
    case measure=>simp [intOf];omega
  . obtain rfl:j=4:=by omega
    have H:decide (((4:Nat):Int)<4)=false:=by decide
    obtain ⟨p,a⟩:=O1 (yP L 4);have m:p=cQ path:=a.trans u.o;rw [<- a];have M:(0:Int)<=32 - (k:Int):=by omega
    have N:(32:Int) - (k:Int)<=32:=by omega
    have P:((32:Int) - (k:Int)).toNat=32 - k:=by omega
    have G:=O0 (((R:Nat):Int)=(p:Int) / 2 ^ (32 - k)) (by rw [l.o,<- m];push_cast;rfl);clear a m;go_wp2;go_ret2;exact ⟨by rw [G.o];rfl,i.o⟩
