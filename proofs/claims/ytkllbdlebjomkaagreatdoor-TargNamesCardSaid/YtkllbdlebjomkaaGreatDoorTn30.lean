import Derived.Test.YtkllbdlebjomkaaGreatDoorTn29
import Derived.Shelf.SlSortCmp.WholeK
import Derived.Test.YtkllbdlebjomkaaGreatDoorTn12
set_option maxHeartbeats 4000000
set_option maxRecDepth 100000

namespace Go.Proofs.YtkllbdlebjomkaaGreatDoor
open Go.RowKit
theorem af (f t:Int) (c:ByteArray) (ids:List ByteArray):xG ⟨f,c,⟨t,ids⟩⟩=(decide (f=0) && (decide (c.size=0) && (decide (t=0) && decide (ids.length=0)))):=by
 unfold xG;have a:c=⟨#[]⟩↔c.size=0:=⟨fun e=>by rw [e];rfl,fun e=>by
  obtain ⟨d⟩:=c;have:d.size=0:=e;rw [Array.size_eq_zero_iff] at this;rw [this]⟩
 have b:ids=[]↔ids.length=0:=List.length_eq_zero_iff.symm;simp only [a,b,Bool.decide_and]
theorem b8 (t s:Int) (ids:List ByteArray) (u:ByteArray) (v:Option Addr) (x:Nat) (w:World) :
 Calls Tryz.prog 82 #[.agg #[.int .i64 t,.slice v ids.length x,.int .i64 s,.string u]] w fun e w'=>e=.returned (.bool (xG ⟨s,u,⟨t,ids⟩⟩))/\O5 w w':=by
 obtain ⟨W,g⟩:=O1 (w.alloc (.cells #[.int .i64 t,.slice v ids.length x,.int .i64 s,.string u] 41));have d:=O7 g
 have f:=O9 g
 have c:=U d;have o:=qq f (j:=0) rfl;have p:=qq f (j:=1) rfl;have q:=qq f (j:=2) rfl;have r:=qq f (j:=3) rfl;have a:=U (af s t u ids);have b:=U g;obtain ⟨V,h⟩:=O1 (xG ⟨s,u,⟨t,ids⟩⟩);rw [<- h] at a ⊢;clear d f g h;by_cases h1:s=0
 case neg =>
  have i:(s == 0)=false:=by simpa using h1
  rw [X0 h1] at a;clear h1;go_enter Tryz.func82,Tryz.ntmps82;go_upto_region 1 with fail
  rw [<- b.o];clear b;go_wp2;go_ret;exact ⟨qx a.o.symm,c.o⟩
 have i:(s == 0)=true:=by simpa using h1
 rw [X3 h1,Y4] at a;clear h1;by_cases h2:u.size=0
 case neg =>
  have k:(u.toList == [])=false:=by rw [N9];exact (gW u (by omega)).1
  rw [X0 h2] at a;clear h2;go_enter Tryz.func82,Tryz.ntmps82;go_upto_region 1 with fail
  rw [<- b.o];clear b;go_wp2;go_ret;exact ⟨qx a.o.symm,c.o⟩
 have k:u.toList=[]:=yB u h2;rw [X3 h2,Y4] at a;clear h2;by_cases h3:t=0
 case neg =>
  have l:(t == 0)=false:=by simpa using h3
  rw [X0 h3] at a;clear h3;go_enter Tryz.func82,Tryz.ntmps82;go_upto_region 1 with fail
  rw [<- b.o];clear b;go_wp2;go_ret;exact ⟨qx a.o.symm,c.o⟩
 have l:(t == 0)=true:=by simpa using h3
 rw [X3 h3,Y4] at a;clear h3;by_cases h4:ids.length=0
 . have m:((ids.length:Int) == 0)=true:=by rw [h4];rfl
   rw [X3 h4] at a;clear h4;go_enter Tryz.func82,Tryz.ntmps82;go_upto_region 1 with fail
   rw [<- b.o];clear b;go_wp2;go_ret;exact ⟨qx a.o.symm,c.o⟩
 . have m:((ids.length:Int) == 0)=false:=by rw [N9];omega
   rw [X0 h4] at a;clear h4;go_enter Tryz.func82,Tryz.ntmps82;go_upto_region 1 with fail
   rw [<- b.o];clear b;go_wp2;go_ret;exact ⟨qx a.o.symm,c.o⟩
theorem rF (a t:Int) (b:ByteArray) (ids:List ByteArray):zh ⟨a,b,⟨t,ids⟩⟩=(decide (j5 ⟨a,b,⟨t,ids⟩⟩=0) && (kJ t ids && !pu b)):=by unfold zh jJ;rw [Bool.and_assoc]
theorem gZ (t Q:Int) (ids:List ByteArray) (R:ByteArray) (T:Option Addr) (X:Nat) (w:World) (Y:qy w 0 w.heap.size T ids) (hp:R.size<=4294967296) (S:-9223372036854775808<=Q/\Q<=9223372036854775807) (Z:jH ⟨t,ids⟩) :
 Calls Tryz.prog 84 #[.agg #[.int .i64 t,.slice T ids.length X,.int .i64 Q,.string R]] w fun e w'=>e=.returned (.bool (zh ⟨Q,R,⟨t,ids⟩⟩))/\O5 w w':=by
 obtain ⟨W,v⟩:=O1 (w.alloc (.cells #[.int .i64 t,.slice T ids.length X,.int .i64 Q,.string R] 41));have s:=O7 v
 have q:=O9 v
 have o:=U s;have u:=U q;have A:=U Y;have K:=qq q (j:=0) rfl;have L:=qq q (j:=1) rfl;have M:=qq q (j:=2) rfl;have N:=qq q (j:=3) rfl;have f:=U (sE t Q ids R T X W hp S);have g:=U (fun (w':World) (h:O5 w w')=>nN t ids T X w' (A.o.below h lz lz h.size) Z.2.2);have r:=U (fun w=>nB R w);have k:=U (rF Q t R ids);have p:=U v;obtain ⟨V,y⟩:=O1 (zh ⟨Q,R,⟨t,ids⟩⟩);obtain ⟨E,x⟩:=O1 (j5 ⟨Q,R,⟨t,ids⟩⟩);obtain ⟨B,l⟩:∃b,b=kJ t ids:=⟨_,rfl⟩;obtain ⟨C,m⟩:∃b,b=pu R:=⟨_,rfl⟩;rw [<- y,<- x,<- l,<- m] at k;rw [<- x] at f;rw [<- l] at g;rw [<- m] at r;rw [<- y];clear s q v y x l m Y Z hp S;by_cases h1:E=0
 case neg =>
  have D:(E == 0)=false:=by simpa using h1
  rw [X0 h1] at k;clear h1;go_enter Tryz.func84,Tryz.ntmps84;go_upto_region 1 with fail
  rw [<- p.o];clear p;go_wp2_with (go_at_call 109;refine f.o.mono ?_;rintro e z ⟨rfl,S⟩;have a:=U (O2 o S);clear S);go_ret;exact ⟨qx k.o.symm,a.o⟩
 have D:(E == 0)=true:=by simpa using h1
 rw [X3 h1,Y4] at k;clear h1;cases B
 . go_enter Tryz.func84,Tryz.ntmps84;go_upto_region 1 with fail
   rw [<- p.o];clear p;go_wp2_with (first|(go_at_call 109;refine f.o.mono ?_;rintro e z ⟨rfl,S⟩;have a:=U (O2 o S);have c:=(S.block _ (qz u.o)).trans u.o;have H:=qq c (j:=0) rfl;have I:=qq c (j:=1) rfl;have J:=qq c (j:=3) rfl;have d:=U c;clear S c)|(go_at_call 110;refine (g.o _ a.o).mono ?_;rintro e F ⟨rfl,S⟩;have i:=U (O2 a S);have c:=(S.block _ (qz d.o)).trans d.o;have G:=qq c (j:=3) rfl;clear S c));go_ret;exact ⟨qx k.o.symm,i.o⟩
 . rw [Y4] at k;cases C
   all_goals
    go_enter Tryz.func84,Tryz.ntmps84;go_upto_region 1 with fail
    rw [<- p.o];clear p;go_wp2_with (first|(go_at_call 109;refine f.o.mono ?_;rintro e z ⟨rfl,S⟩;have a:=U (O2 o S);have c:=(S.block _ (qz u.o)).trans u.o;have H:=qq c (j:=0) rfl;have I:=qq c (j:=1) rfl;have J:=qq c (j:=3) rfl;have d:=U c;clear S c)|(go_at_call 110;refine (g.o _ a.o).mono ?_;rintro e F ⟨rfl,S⟩;have i:=U (O2 a S);have c:=(S.block _ (qz d.o)).trans d.o;have G:=qq c (j:=3) rfl;clear S c)|(go_at_call 111;refine (r.o _).mono ?_;rintro e P ⟨rfl,rfl⟩));go_ret;exact ⟨qx k.o.symm,i.o⟩
open Go.Shelf Go.Sort
def vE (r:BinsV × Int) (w:World) (e:Ending) (w':World):Prop :=
 ∃ia ic,e=.returned (.tuple #[.agg #[.int .i64 r.1.au.thr,.slice ia r.1.au.ids.length ic,.int .i64 r.1.bits,.string r.1.pre],.int .i64 r.2])/\r.1.au.ids.length<=ic/\qy w' w.heap.size w'.heap.size ia r.1.au.ids/\O5 w w'
theorem b9 {a:Int} {w w':World} (b:O5 w w'):vE (k8,a) w (.returned (.tuple #[.agg #[.int .i64 0,.slice none 0 0,.int .i64 0,.string ⟨#[]⟩],.int .i64 a])) w' :=
 ⟨none,0,rfl,J2 _,.inl rfl,b⟩
theorem m9 (C:JV->Prop) (st:PS) (v:JV) (x:Value) (w:World) (hR:Rep w 0 w.heap.size v x) (ha:st.asked.length<=1000)
 (f4:∀w1,O5 w w1->Calls Tryz.prog 25 #[x] w1 (vS C st w1)) :
 Calls Tryz.prog 74 #[x] w (fun e w'=>∃u,C u/\vE (nA u st) w e w'):=by
 obtain ⟨an,cn,ai,ci,hx,h1,E,h3,h4⟩:=hR.parts;clear h1 E h3 h4;subst hx;obtain ⟨W,hW⟩:=O1 ((w.alloc (.cells #[.int .u8 v.kind,.int .i64 v.n,.string v.t,.slice an v.names.length cn,.slice ai v.items.length ci] 26)).alloc (.cells #[.int .i64 0,.slice none 0 0,.int .i64 0,.string ⟨#[]⟩] 41));have d2:(w.alloc (.cells #[.int .u8 v.kind,.int .i64 v.n,.string v.t,.slice an v.names.length cn,.slice ai v.items.length ci] 26)).heap.size=w.heap.size+1:=by simp
 have hb:O5 w W:=by rw [hW];exact (O4).alloc (by simp) _
 have d0:W.heap[w.heap.size]?=some (.cells #[.int .u8 v.kind,.int .i64 v.n,.string v.t,.slice an v.names.length cn,.slice ai v.items.length ci] 26 (0,0)):=by rw [hW];exact qO w _ _
 have a6:W.rowIs (w.heap.size+1) 41 4 (xo (.int .i64 0) (.slice none 0 0) (.int .i64 0) (.string ⟨#[]⟩)):=(by have:=pN (w.alloc (.cells #[.int .u8 v.kind,.int .i64 v.n,.string v.t,.slice an v.names.length cn,.slice ai v.items.length ci] 26)) (.int .i64 0) (.slice none 0 0) (.int .i64 0) (.string ⟨#[]⟩) 41;rw [d2,<- hW] at this;exact this);have a8:=U (f4 W hb);have h:=U hb;have b3:=U d0;have a2:=U a6;have HW:=U hW;have HA:=U ha;have b4:=O0 (w.heap.size+2<=W.heap.size) a6.lt;clear f4 hW d2 hb d0 a6 hR ha;obtain ⟨c0,c1,c2,c3,c4⟩:=bx5 b3.o;go_enter Tryz.func74,Tryz.ntmps74;go_upto_region 1 with fail
 rw [<- HW.o];clear HW;go_wp2_with fail;refine a8.o.mono ?_;clear a8 c0 c1 c2 c3 c4;rintro e w2 ⟨u,o,m,lo,hi,e5,e4,e7,e6,hC,hu,rfl,a3,d7,d6,F⟩;have HC:=U hC;have HU:=U hu;have d5:=a3.lt;obtain ⟨p,a4⟩:=O1 w2.heap.size;obtain ⟨K,V⟩:=O1 (w2.alloc (.cells #[.int .i64 0,.slice none 0 0,.int .i64 0,.string ⟨#[]⟩] 41));have L:=O7 V
 have a5:K.rowIs p 41 4 (xo (.int .i64 0) (.slice none 0 0) (.int .i64 0) (.string ⟨#[]⟩)):=by rw [V,a4];exact pN _ _ _ _ _ _
 have f:=U (show p≠o/\p≠m/\hi<=p/\w.heap.size+2<=o/\w.heap.size+2<=m/\w.heap.size+2<=p/\p<K.heap.size/\o<K.heap.size/\m<K.heap.size from by
  have h1:=F.size;have E:=a5.lt;have h3:=b4.o;have h4:=L.size;omega)
 have A:=U (a3.below L);have l:=U (qj (F.trans (L.mono F.size)) a2.o a2.o.lt);replace h:=U (h.o.trans ((F.trans (L.mono F.size)).mono h.o.size));have d:=U a5;have B:=U (J2 K.heap.size);have b0:=U V;have a9:=U a4;clear hC hu d5 a3 d7 d6 F L a5 V a4 a2 b3 b4;have a7:=U (@Qe u st HA.o);have H:=U (d8 A.o HU.o (by have:=HA.o;omega));have P:=U (@uN u st HU.o);rw [show wu u st=bgA u st from rfl] at H P;have N:=O0 (bgB u st=qG u wl 1 32 (bgA u st).2) rfl;have T:=O0 (bgP u st=qw u wB (bgB u st).2) rfl;have z:=O0 (nA u st=if qb u (bgP u st).2≠0 then (k8,qb u (bgP u st).2) else if zh ⟨(bgB u st).1,(bgP u st).1,(bgA u st).1⟩ then (⟨(bgB u st).1,(bgP u st).1,(bgA u st).1⟩,0) else (k8,3)) rfl;have a0:=U a7.o.1;obtain ⟨GA,b6⟩:=O1 (bgA u st);rw [<- b6] at H P N z a0;clear b6;obtain ⟨r,SA⟩:=GA;dsimp only at H P N z a0;go_upto_region 3 with fail
 rw [<- b0.o,<- a9.o];clear a9 b0;go_wp2_with fail;refine H.o.mono ?_;clear H;rintro e w4 ⟨⟨ia,ic,rfl,c6,hs⟩,y,c⟩;have d4:=O0 (r.ids.length<=ic) c6;have g:=O0 (qy w4 K.heap.size w4.heap.size ia r.ids) (hs.carry B.o lz (fun _ _ _=>rfl));clear c6 hs;replace A:=U y;replace l:=U (c.row l.o (by have:=f.o;omega));replace d:=U (c.row d.o (by have:=f.o;omega));replace h:=U (h.o.trans (c.below (by have:=h.o.size;omega) fun k hk e=>by have:=f.o;omega));replace B:=U (Z3 B.o c.size);clear y c;have e0:=d.o.cell (i:=0) (by decide);have f0:=d.o.frozen 0;simp only [xo] at e0;have e1:=d.o.cell (i:=1) (by decide);have f1:=d.o.frozen 1;simp only [xo] at e1;obtain ⟨W5,X⟩:=O1 ((w4.setCell ⟨p,0,none⟩ (.int .i64 r.thr)).setCell ⟨p,1,none⟩ (.slice ia r.ids.length ic));have a:Touch (fun b=>b=p) w4 W5:=by rw [X];exact ((Touch.refl _ _).trans (qp _)).trans (qp _)
 replace d:=U (show W5.rowIs p 41 4 (xo (.int .i64 r.thr) (.slice ia r.ids.length ic) (.int .i64 0) (.string ⟨#[]⟩)) from by
  rw [X];refine ((d.o.set 0 _).set 1 _).congr fun j hj=>?_;rcases j with _|_|_|_|j <;> first|rfl|omega)
 replace A:=U (A.o.touch a f.o.1 f.o.2.1 f.o.2.2.1);replace l:=U (a.row l.o (by have:=f.o;omega));replace h:=U (h.o.trans (a.below (by have:=h.o.size;omega) fun k hk e=>by have:=f.o;omega));replace B:=U (Z3 B.o a.size);replace g:=U (g.o.carry lz a.size (fun b h1 E=>a.block b E (by have:=f.o;omega)));have b1:=U X;clear a X;go_upto_region 4 with fail
 rw [<- b1.o];clear b1 e0 f0 e1 f1;have G:=U (sS wl 1 32 A.o (by decide) (by have:=a0.o;omega));have Q:=U (@d9 u wl 1 32 SA (by decide) (by decide));rw [<- N.o] at G Q;have a1:=U a7.o.2;obtain ⟨GB,b7⟩:=O1 (bgB u st);rw [<- b7] at G Q T z a1;clear b7 N;obtain ⟨q,SB⟩:=GB;dsimp only at G Q T z a1;go_wp2_with fail;refine G.o.mono ?_;clear G;rintro e w6 ⟨rfl,y,c⟩;replace A:=U y;replace l:=U (c.row l.o (by have:=f.o;omega));replace d:=U (c.row d.o (by have:=f.o;omega));replace h:=U (h.o.trans (c.below (by have:=h.o.size;omega) fun k hk e=>by have:=f.o;omega));replace B:=U (Z3 B.o c.size);replace g:=U (g.o.carry lz c.size (fun b h1 E=>c.block b E (by have:=f.o;omega)));clear y c;have e2:=d.o.cell (i:=2) (by decide);have f2:=d.o.frozen 2;simp only [xo] at e2;obtain ⟨W7,Y⟩:=O1 (w6.setCell ⟨p,2,none⟩ (.int .i64 q));have a:Touch (fun b=>b=p) w6 W7:=by rw [Y];exact (Touch.refl _ _).trans (qp _)
 replace d:=U (show W7.rowIs p 41 4 (xo (.int .i64 r.thr) (.slice ia r.ids.length ic) (.int .i64 q) (.string ⟨#[]⟩)) from by
  rw [Y];refine (d.o.set 2 _).congr fun j hj=>?_;rcases j with _|_|_|_|j <;> first|rfl|omega)
 replace A:=U (A.o.touch a f.o.1 f.o.2.1 f.o.2.2.1);replace l:=U (a.row l.o (by have:=f.o;omega));replace h:=U (h.o.trans (a.below (by have:=h.o.size;omega) fun k hk e=>by have:=f.o;omega));replace B:=U (Z3 B.o a.size);replace g:=U (g.o.carry lz a.size (fun b h1 E=>a.block b E (by have:=f.o;omega)));have b2:=U Y;clear a Y;go_upto_region 5 with fail
 rw [<- b2.o];clear b2 e2 f2;have I:=U (dG wB A.o (by decide) (by have:=a1.o;omega));have R:=U (Z3 (@uR u wB SB) HU.o);rw [<- T.o] at I R;obtain ⟨GP,c5⟩:=O1 (bgP u st);rw [<- c5] at I R z;clear c5 T;obtain ⟨M,SP⟩:=GP;dsimp only at I R z;go_wp2_with fail;refine I.o.mono ?_;clear I;rintro e w8 ⟨rfl,y,c⟩;replace A:=U y;replace l:=U (c.row l.o (by have:=f.o;omega));replace d:=U (c.row d.o (by have:=f.o;omega));replace h:=U (h.o.trans (c.below (by have:=h.o.size;omega) fun k hk e=>by have:=f.o;omega));replace B:=U (Z3 B.o c.size);replace g:=U (g.o.carry lz c.size (fun b h1 E=>c.block b E (by have:=f.o;omega)));clear y c;have e3:=d.o.cell (i:=3) (by decide);have f3:=d.o.frozen 3;simp only [xo] at e3;obtain ⟨J,D⟩:=O1 (w8.setCell ⟨p,3,none⟩ (.string M));have a:Touch (fun b=>b=p) w8 J:=by rw [D];exact (Touch.refl _ _).trans (qp _)
 replace d:=U (show J.rowIs p 41 4 (xo (.int .i64 r.thr) (.slice ia r.ids.length ic) (.int .i64 q) (.string M)) from by
  rw [D];refine (d.o.set 3 _).congr fun j hj=>?_;rcases j with _|_|_|_|j <;> first|rfl|omega)
 replace A:=U (A.o.touch a f.o.1 f.o.2.1 f.o.2.2.1);replace l:=U (a.row l.o (by have:=f.o;omega));replace h:=U (h.o.trans (a.below (by have:=h.o.size;omega) fun k hk e=>by have:=f.o;omega));replace B:=U (Z3 B.o a.size);replace g:=U (g.o.carry lz a.size (fun b h1 E=>a.block b E (by have:=f.o;omega)));have Z:=U D;clear a D;go_upto_region 6 with fail
 rw [<- Z.o];clear Z e3 f3;have HD:=U (yJ A.o HU.o);obtain ⟨dn,c7⟩:=O1 (qb u SP);rw [<- c7] at HD z;clear c7;have hR:=l.o;have t0:=hR.cell (i:=0) (by decide);have t1:=hR.cell (i:=1) (by decide);have t2:=hR.cell (i:=2) (by decide);have t3:=hR.cell (i:=3) (by decide);have s0:=hR.frozen 0;have s1:=hR.frozen 1;have s2:=hR.frozen 2;have s3:=hR.frozen 3;simp only [xo] at t0 t1 t2 t3;clear hR;go_wp2_with fail;refine HD.o.mono ?_;clear HD;rintro e e8 ⟨rfl,h'⟩;subst h';by_cases hd:dn=0
 case neg =>
  have d1:(dn != 0)=true:=by simpa using hd
  rw [J3 hd] at z;clear hd;go_wp2;refine Z8 (qk Tryz.results74 _ _ (w.heap.size+1) 41 _ (0,0) _ rfl (gM (Qj _ _ _ _ l.o)) Tryz.underlying41 rfl (by kernel_rfl) _ rfl) rfl ?_;refine ⟨u,HC.o,?_⟩;rw [z.o];exact b9 (l4 _ _ _ _ h.o (by omega))
 subst hd;rw [Z6 (by decide)] at z;have S:=U (gZ r.thr q r.ids M ia ic J (g.o.carry (J0 _) lz (fun _ _ _=>rfl)) R.o (by have:=Q.o;omega) P.o);rw [show (⟨r.thr,r.ids⟩:AuthV)=r from rfl] at S;obtain ⟨mb,c9⟩:=O1 (zh ⟨q,M,r⟩);rw [<- c9] at S z;clear c9;have e0:=d.o.cell (i:=0) (by decide);have f0:=d.o.frozen 0;simp only [xo] at e0;have e1:=d.o.cell (i:=1) (by decide);have f1:=d.o.frozen 1;simp only [xo] at e1;have e2:=d.o.cell (i:=2) (by decide);have f2:=d.o.frozen 2;simp only [xo] at e2;have e3:=d.o.cell (i:=3) (by decide);have f3:=d.o.frozen 3;simp only [xo] at e3;go_wp2_with fail;refine S.o.mono ?_;clear S e0 f0 e1 f1 e2 f2 e3 f3 t0 s0 t1 s1 t2 s2 t3 s3;rintro e d3 ⟨rfl,s⟩;replace A:=U (A.o.below s);replace l:=U (qj s l.o l.o.lt);replace d:=U (qj s d.o d.o.lt);replace h:=U (O2 h s);replace B:=U (Z3 B.o s.size);replace g:=U (g.o.below s lz lz s.size);clear s;have hR:=l.o;have t0:=hR.cell (i:=0) (by decide);have t1:=hR.cell (i:=1) (by decide);have t2:=hR.cell (i:=2) (by decide);have t3:=hR.cell (i:=3) (by decide);have s0:=hR.frozen 0;have s1:=hR.frozen 1;have s2:=hR.frozen 2;have s3:=hR.frozen 3;simp only [xo] at t0 t1 t2 t3;have e0:=d.o.cell (i:=0) (by decide);have f0:=d.o.frozen 0;simp only [xo] at e0;have e1:=d.o.cell (i:=1) (by decide);have f1:=d.o.frozen 1;simp only [xo] at e1;have e2:=d.o.cell (i:=2) (by decide);have f2:=d.o.frozen 2;simp only [xo] at e2;have e3:=d.o.cell (i:=3) (by decide);have f3:=d.o.frozen 3;simp only [xo] at e3;clear hR;cases mb with
 | false => rw [Z6 (by decide)] at z;go_wp2;refine Z8 (qk Tryz.results74 _ _ (w.heap.size+1) 41 _ (0,0) _ rfl (gM (Qj _ _ _ _ l.o)) Tryz.underlying41 rfl (by kernel_rfl) _ rfl) rfl ?_;refine ⟨u,HC.o,?_⟩;rw [z.o];exact b9 (l4 _ _ _ _ h.o (by omega))
 | true => rw [J3 rfl] at z;have b5:=O0 (w.heap.size+2<=K.heap.size) (by have:=f.o;omega);go_wp2;refine Z8 (qk Tryz.results74 _ _ (w.heap.size+1) 41 _ (0,0) _ rfl (gM (Qj _ _ _ _ l.o)) Tryz.underlying41 rfl (by kernel_rfl) _ rfl) rfl ?_;refine ⟨u,HC.o,?_⟩;rw [z.o];have hc:=fun b (h1:K.heap.size<=b) (E:b<d3.heap.size)=>QN (W:=d3) (.int .i64 r.thr) (.slice ia r.ids.length ic) (.int .i64 q) (.string M) (show b≠w.heap.size+1 by have:=b5.o;omega);exact ⟨ia,ic,rfl,d4.o,g.o.carry (by have:=b5.o;omega) (Y5 QS.symm) hc,l4 _ _ _ _ h.o (by omega)⟩
theorem ly (v:JV) (x:Value) (w:World) (lo:Nat) (b:0<lo) (d:v.wt<=4294967296) (c:Rep w lo w.heap.size v x) (f:v.kind=5->qd v.names=true/\v.names.length=v.items.length) :
 Calls Tryz.prog 74 #[x] w (vE (xB v) w):=by
 refine (m9 (zC v) (st0 v) v x w (c.carry (J0 _) lz (fun _ _ _=>rfl)) (by unfold st0;split <;> simp) (fun w1 hb=>dB d b hb.size (c.below hb lz lz lz) f)).mono ?_;rintro e w' ⟨u,a,h⟩;unfold zC at a;unfold st0 at h;by_cases hk:v.kind=5
 . rw [J3 hk] at a h;subst a;rw [<- ay hk];exact h
 . rw [Z6 hk] at a h;subst a;have:xB v=(k8,10):=by unfold xB;rw [J3 hk]
   rw [this];rw [ag] at h;exact h
def eS (w:World) (e:Ending) (w':World):Prop :=
 e=.returned (.tuple #[.agg #[.string ⟨#[]⟩,.int .u8 0,.int .i64 0,.string ⟨#[]⟩,.slice none 0 0,.slice none 0 0],.int .i64 3])/\O5 w w'
def rH (s t:ByteArray) (w:World) (e:Ending) (w':World):Prop :=
 ∃an cn ai ci,e=.returned (.tuple #[.agg #[.string (sH s t),.int .u8 5,.int .i64 0,.string ⟨#[]⟩,.slice an 2 cn,.slice ai 2 ci],.int .i64 0]) /\
  Rep w' w.heap.size w'.heap.size (yN s t) (.agg #[.int .u8 5,.int .i64 0,.string ⟨#[]⟩,.slice an 2 cn,.slice ai 2 ci])/\O5 w w'
theorem rU (s t:ByteArray) (w:World) (E:s.size<=4294967) (F:t.size<=4294967) (C:Tabs w) (D:zA s.data.toList t.data.toList=false) :
 Calls Tryz.prog 143 #[.agg #[.string s,.string t]] w (eS w):=by
 have k:O5 w ((w.alloc (.cells #[.string s,.string t] 156)).alloc (.cells #[.string ⟨#[]⟩,.int .u8 0,.int .i64 0,.string ⟨#[]⟩,.slice none 0 0,.slice none 0 0] 202)):=(O4).alloc (by simp) _;have g:=U (nC s t ((w.alloc (.cells #[.string s,.string t] 156)).alloc (.cells #[.string ⟨#[]⟩,.int .u8 0,.int .i64 0,.string ⟨#[]⟩,.slice none 0 0,.slice none 0 0] 202)) E F (C.below k));unfold kw kY at g;rw [D] at g;have c:=jf (w.alloc (.cells #[.string s,.string t] 156)) (.string ⟨#[]⟩) (.int .u8 0) (.int .i64 0) (.string ⟨#[]⟩) (.slice none 0 0) (.slice none 0 0) 202;rw [show (w.alloc (.cells #[.string s,.string t] 156)).heap.size=w.heap.size+1 by simp] at c;have h:=U c;have d:=U k;clear D c k C;go_enter Tryz.func143,Tryz.ntmps143;go_wp2_with fail;refine g.o.mono ?_;rintro e B ⟨rfl,b⟩;have a:=qj b h.o (by simp);have j:=U a;have f:=U (d.o.trans (b.mono (by simp;omega)));obtain ⟨l,m,o,p,q⟩:=rc5 a;have r:=a.cell (i:=5) (by decide);obtain ⟨u,v,x,y,z⟩:=rf5 a;have A:=a.frozen 5;simp only [qZ] at l m o p q r;clear a b;go_wp2;exact Z8 (qk Tryz.results143 _ _ (w.heap.size+1) 202 _ (0,0) _ rfl (zX (gY _ _ _ _ _ _ j.o)) Tryz.underlying202 rfl (by kernel_rfl) _ rfl) rfl ⟨rfl,jh _ _ _ _ _ _ f.o (by omega)⟩
theorem lg (s t:ByteArray) (w:World) (hs:s.size<=4294967) (ht:t.size<=4294967) (hT:Tabs w) (hk:zA s.data.toList t.data.toList=true) :
 Calls Tryz.prog 143 #[.agg #[.string s,.string t]] w (rH s t w):=by
 have E:O5 w ((w.alloc (.cells #[.string s,.string t] 156)).alloc (.cells #[.string ⟨#[]⟩,.int .u8 0,.int .i64 0,.string ⟨#[]⟩,.slice none 0 0,.slice none 0 0] 202)):=(O4).alloc (by simp) _;have m:=U (nC s t ((w.alloc (.cells #[.string s,.string t] 156)).alloc (.cells #[.string ⟨#[]⟩,.int .u8 0,.int .i64 0,.string ⟨#[]⟩,.slice none 0 0,.slice none 0 0] 202)) hs ht (hT.below E));have p:=U (show ((w.alloc (.cells #[.string s,.string t] 156)).alloc (.cells #[.string ⟨#[]⟩,.int .u8 0,.int .i64 0,.string ⟨#[]⟩,.slice none 0 0,.slice none 0 0] 202)).heap[w.heap.size]?=some (.cells #[.string s,.string t] 156 (0,0)) by rw [X6 _ _ _ (by simp)];exact Z5 w _);unfold kw at m;rw [hk,J3 rfl] at m;unfold rH sH;generalize (⟨(kY s.data.toList t.data.toList).toArray⟩:ByteArray)=ID at m ⊢;have G:=U hk;have f:=jf (w.alloc (.cells #[.string s,.string t] 156)) (.string ⟨#[]⟩) (.int .u8 0) (.int .i64 0) (.string ⟨#[]⟩) (.slice none 0 0) (.slice none 0 0) 202;rw [show (w.alloc (.cells #[.string s,.string t] 156)).heap.size=w.heap.size+1 by simp] at f;have o:=U f;have l:=U E;clear hk f E hT;go_enter Tryz.func143,Tryz.ntmps143;go_wp2_with fail;refine m.o.mono ?_;clear m;rintro e k ⟨rfl,d⟩;have D:=U (qj d o.o (by simp));have g:k.heap[w.heap.size]?=some (.cells #[.string s,.string t] 156 (0,0)):=by rw [d.block _ (by simp;omega)];exact p.o
 have J:w.heap.size+2<=k.heap.size:=by have:=d.size;simp at this;omega
 have z:=U (l.o.trans (d.mono (by simp;omega)));have H:=qq g (j:=0) rfl;have I:=qq g (j:=1) rfl;have F:=U (gh s t k (by omega) (by omega) G.o);clear d p o l g;go_wp2_with fail;refine F.o.mono ?_;clear F;rintro e y ⟨u,x,r,v,rfl,q,c⟩;have B:=U (q.carry (w':=y.alloc (.cells #[.int .u8 5,.int .i64 0,.string ⟨#[]⟩,.slice u 2 x,.slice r 2 v] 26)) lz lz (fun b _ h=>X6 _ _ _ h));have a:=qj (c.alloc c.size (.cells #[.int .u8 5,.int .i64 0,.string ⟨#[]⟩,.slice u 2 x,.slice r 2 v] 26)) D.o (by omega);have A:=U (z.o.trans ((c.alloc c.size (.cells #[.int .u8 5,.int .i64 0,.string ⟨#[]⟩,.slice u 2 x,.slice r 2 v] 26)).mono (by omega)));have K:k.heap.size<=y.heap.size:=c.size;have L:¬(w.heap.size+1=y.heap.size):=by omega
 have C:=U a;obtain ⟨M,N,P,Q,R⟩:=rc5 a;have S:=a.cell (i:=5) (by decide);obtain ⟨T,V,W,X,Y⟩:=rf5 a;have Z:=a.frozen 5;simp only [qZ] at M N P Q R S;clear a c q H I;go_wp2;refine Z8 (qk Tryz.results143 _ _ (w.heap.size+1) 202 _ (0,0) _ rfl (zX (gY _ _ _ _ _ _ C.o)) Tryz.underlying202 rfl (by kernel_rfl) _ rfl) rfl ⟨u,x,r,v,rfl,?_,jh _ _ _ _ _ _ A.o (by omega)⟩;exact Rep.carry (by omega) (show y.heap.size<=_ by simp [World.setCell]) (fun j hj _=>cY _ _ _ _ _ _ (by omega)) _ _ B.o
theorem iP (x y:Mem) (W:World):Calls Tryz.prog 145 #[.agg (qY x).toArray,.agg (qY y).toArray] W fun e w'=>e=.returned (.int .i64 (cfM x y))/\∃q os',w'=grow (W.drewN q) os':=by have a:=fun W'=>Tryz.strings_Compare x.name y.name W';unfold cfM qY;generalize Lib.compareBytes x.name.data.toList y.name.data.toList=r at a ⊢;go_enter Tryz.func145,Tryz.ntmps145;go_wp2_with (go_at_call 92;refine (a _).mono ?_;rintro e w' ⟨rfl,rfl⟩);go_ret;exact ⟨rfl,0,_,by rw [alloc_eq_grow,alloc_eq_grow,grow_grow];rfl⟩
theorem lp:∀a b:List UInt8,decide (Lib.compareBytes a b<0)=Op.bytesLess a b
 | [],[]=>rfl
 | [],_ :: _=>rfl
 | _ :: _,[]=>rfl
 | a :: ax,b :: bx=>by
  unfold Lib.compareBytes Op.bytesLess;by_cases h1:a<b
  . simp [h1]
  . by_cases h2:b<a
    . have:¬a=b:=fun e=>by subst e;exact h1 h2
      simp [h1,h2,this]
    . have e:a=b:=UInt8.le_antisymm (UInt8.not_lt.1 h2) (UInt8.not_lt.1 h1);subst e;rw [Z6 h1,Z6 h1,lp ax bx];simp
theorem pq (x y:Mem):ltOf cfM x y=bl x.name y.name:=by unfold ltOf cfM bl;rw [lp,X4,X4]
theorem ah {a b c:ByteArray} (h:bl a b=false) (d:bl b c=false):bl a c=false:=by
 cases h2:bl a c
 . rfl
 . cases h3:bl b a
   . rw [mK h h3,d] at h2;cases h2
   . rw [xE h3 h2] at d;cases d
theorem ZV:SWO (ltOf cfM) where
 irrefl x:=by rw [pq];exact zY _
 trans x y z:=by rw [pq,pq,pq];exact xE
 ntrans x y z:=by rw [pq,pq,pq];exact ah
def ac (d d':Array Mem):Prop:=d'.size=d.size/\d'.toList.Perm d.toList/\∀i j,i<j->j<d.size->bl d'[j]!.name d'[i]!.name=false
def iF (blk off:Nat) (d:Array Mem) (w:World) (e:Ending) (w':World):Prop :=
 e=.returned (.tuple #[])/\∃d',ac d d'/\HoldsK qY 6 w' blk off d'/\Touch (· = blk) w w'
theorem o8 (m o cap:Nat) (d:Array Mem) (w:World) (q:HoldsK qY 6 w m o d) (p:m<w.heap.size) (r:d.size<=4294967296) :
 Calls Tryz.prog 144 #[.slice (some ⟨m,o,none⟩) d.size cap,.func (.func 145) #[] #[]] w (iF m o d w):=by
 have h:∀args w,(callFunc 145 args).run Tryz.prog w=.ok (.enter 145 args) w:=enters_of Tryz.func145 (by kernel_rfl) rfl;have a:=AnyQ.slices_SortFunc sm 6 Tryz.isAgg202 Tryz.sizeOf202 qY zL xh cfM ZV 145 #[] m o cap d w h (fun _ _ _ _ x y=>iP x y _) q p (by omega);refine a.mono ?_;rintro e w' ⟨rfl,c,n,l,b,k,rfl⟩;refine ⟨rfl,c,⟨b.1,?_,fun i j hij hj=>?_⟩,holdsK_grow qY 6 _ _ _ _ _ (by simp [putRowK,Go.Sort.ahead];exact p) (holdsK_putRowK qY 6 _ _ _ d _ (holdsK_ahead qY 6 _ _ _ _ _ q) b.1),jL⟩
 . have:=b.2.2;have f:c.extract 0 d.size=c:=by rw [<- b.1];simp
   have g:d.extract 0 d.size=d:=by simp
   rwa [f,g] at this
 . have:=k i j (J0 _) hij hj;rwa [pq] at this
def jo (seen:List ByteArray):List Key2->Int
 | []=>0
 | k :: r=>if ok2 k then (if jg seen (id2 k) then 7 else jo (seen ++ [id2 k]) r) else 3
def yc (l:List Key2):Int:=if 32<l.length then 5 else jo [] l
theorem pz (l:List Key2) (k:Nat) (h:k<l.length):jo (ids (l.take k)) (l.drop k)=if ok2 l[k] then (if jg (ids (l.take k)) (id2 l[k]) then 7 else jo (ids (l.take (k+1))) (l.drop (k+1))) else 3:=by
 rw [V3 h,jo];have:ids (l.take k) ++ [id2 l[k]]=ids (l.take (k+1)):=by unfold ids;rw [Z7 h,K6];rfl
 rw [this]
theorem wR:∀(l:List Key2) (f:List ByteArray),jo f l=0↔(∀k ∈ l,ok2 k=true)/\(∀k ∈ l,id2 k ∉ f)/\(ids l).Nodup
 | [],f=>by simp [jo,ids]
 | k :: r,f=>by
  unfold jo;have ih:=wR r (f ++ [id2 k]);by_cases h1:ok2 k=true
  . rw [J3 h1];by_cases h2:jg f (id2 k)=true
    . rw [J3 h2];have:=(vJ _ _).1 h2;constructor
      . intro h;cases h
      . rintro ⟨_,h,_⟩;exact absurd this (h k (G0 ..))
    . rw [Z6 h2,ih];have h3:id2 k ∉ f:=fun h=>h2 ((vJ _ _).2 h);unfold ids;rw [K8,List.nodup_cons];constructor
      . rintro ⟨a,b,c⟩;refine ⟨fun x hx=>?_,fun x hx=>?_,fun hm=>?_,c⟩
        . rcases V6.1 hx with rfl|hx
          . exact h1
          . exact a x hx
        . rcases V6.1 hx with rfl|hx
          . exact h3
          . exact fun h=>b x hx (List.mem_append_left _ h)
        . obtain ⟨x,hx,e⟩:=H7.1 hm;exact b x hx (by rw [e];simp)
      . rintro ⟨a,b,c,d⟩;refine ⟨fun x hx=>a x (V7 _ hx),fun x hx hm=>?_,d⟩;rcases List.mem_append.1 hm with hm|hm
        . exact b x (V7 _ hx) hm
        . simp at hm;exact c (H7.2 ⟨x,hx,hm⟩)
  . rw [Z6 h1];constructor
    . intro h;cases h
    . rintro ⟨h,_⟩;exact absurd (h k (G0 ..)) h1
theorem lf {α β:Type} (f:α->β) {m o:List β} (h:m.Perm o):∀zs:List α,zs.map f=o->∃zs':List α,zs'.Perm zs/\zs'.map f=m:=by
 induction h with
 | nil=>intro zs h;exact ⟨[],by rw [List.map_eq_nil_iff.1 h],rfl⟩
 | cons x _ ih =>
  intro zs h
  match zs,h with
  | z :: zr,h => simp only [K8,K0] at h;obtain ⟨zs',g,e⟩:=ih zr h.2;exact ⟨z :: zs',g.cons z,by simp [e,h.1]⟩
 | swap x y r =>
  intro zs h
  match zs,h with
  | [_],h=>simp at h
  | a :: b :: zr,h => simp only [K8,K0] at h;exact ⟨b :: a :: zr,List.Perm.swap _ _ _,by simp [h.1,h.2.1,h.2.2]⟩
 | trans _ _ ih1 ih2 => intro zs h;obtain ⟨k,i,c⟩:=ih2 zs h;obtain ⟨l,j,d⟩:=ih1 k c;exact ⟨l,j.trans i,d⟩
theorem uS {l:List ByteArray} (h:∀i j (hi:i<l.length) (hj:j<l.length),i<j->bl l[i] l[j]=true):qd l=true:=by
 match l with
 | []=>rfl
 | [_]=>rfl
 | a :: b :: r => unfold qd;rw [J5];refine ⟨h 0 1 (by simp) (by simp) (by omega),uS fun i j hi hj hij=>?_⟩;have:=h (i+1) (j+1) (by simpa using hi) (by simpa using hj) (by omega);simpa using this
theorem cq {d e:List Key2} (k:d.Perm e) (f:qd (ids d)=true) (g:qd (ids e)=true):d=e:=by
 have c:∀m:List Key2,qd (ids m)=true->m.Pairwise (fun a b=>bl (id2 a) (id2 b)=true):=fun m h=>by rw [za3];intro i j hi hj hij;have:=jG h i j (by simpa [ids] using hi) (by simpa [ids] using hj) hij;simpa [ids] using this
 refine k.eq_of_pairwise (le:=fun a b=>bl (id2 a) (id2 b)=true) (fun a b _ _ x y=>?_) (c d f) (c e g);rw [cO x] at y;cases y
def xr (w:World) (base:Nat) (X:Nat->Prop) (zs:List (Mem × Key2)):Prop :=
 ∀z ∈ zs,z.1.name=id2 z.2/\∃lo hi,base<=lo/\hi<=w.heap.size/\(∀b,X b->¬(lo<=b/\b<hi))/\Rep w lo hi (obj2 z.2) z.1.val
theorem xr.nil (w:World) (a:Nat) (X:Nat->Prop):xr w a X []:=fun z h=>by simp at h
theorem xr.carry {w w':World} {i:Nat} {X X':Nat->Prop} {j:List (Mem × Key2)} (h:xr w i X j) (m:w.heap.size<=w'.heap.size)
 (l:∀b,b<w.heap.size->¬X b->i<=b->w'.heap[b]?=w.heap[b]?) (k:∀b,X' b->X b\/w.heap.size<=b\/b<i):xr w' i X' j:=by
 intro z hz;obtain ⟨d,f,hi,c,g,a,e⟩:=h z hz;refine ⟨d,f,hi,c,by omega,fun b hx hb=>?_,Rep.carry lz lz (fun b hb1 hb2=>l b (by omega) (fun hx=>a b hx ⟨hb1,hb2⟩) (by omega)) _ _ e⟩;rcases k b hx with hx|hx|hx
 . exact a b hx hb
 . omega
 . omega
theorem xr.snoc {w:World} {a:Nat} {X:Nat->Prop} {c:List (Mem × Key2)} (h:xr w a X c) (x:Mem) (k:Key2) (lo hi:Nat) (g:x.name=id2 k) (d:a<=lo) (e:hi<=w.heap.size) (f:∀b,X b->¬(lo<=b/\b<hi)) (i:Rep w lo hi (obj2 k) x.val) :
 xr w a X (c ++ [(x,k)]):=by
 intro z hz;rcases List.mem_append.1 hz with hz|hz
 . exact h z hz
 . simp at hz;subst hz;exact ⟨g,lo,hi,d,e,f,i⟩
theorem xr.perm {w:World} {a:Nat} {X:Nat->Prop} {c b:List (Mem × Key2)} (h:xr w a X c) (d:b.Perm c):xr w a X b:=fun z hz=>h z (d.subset hz)
theorem flat_get {ms:List Mem} (i c:Nat) (hi:i<ms.length) (a:c<6):(ms.flatMap qY)[i * 6+c]?=some ((qY ms[i])[c]!):=by
 induction ms generalizing i with
 | nil=>simp at hi
 | cons m r ih =>
  rw [List.flatMap_cons];rcases i with _|i
  . rw [V4 (by rw [zL];omega)];rw [Nat.zero_mul,za9];have:c<(qY m).length:=by rw [zL];exact a
    rw [H9 this];show some _=some ((qY m)[c]!);rw [getElem!_pos (qY m) c this]
  . rw [Y8 (by rw [zL];omega),zL,show (i+1) * 6+c - 6=i * 6+c by omega];exact ih i (by simpa using hi)
theorem rM {w:World} {k e g cap n:Nat} {ms:List Mem} (h:w.ownsRow k e 6 (.slice (some ⟨g,0,none⟩) n cap) n (ms.flatMap qY)):HoldsK qY 6 w g 0 ms.toArray:=by
 intro j hj;have a:j<ms.length * 6:=by simpa using hj
 rcases h.2 with ⟨hx,_⟩|⟨g',cap',cur,hx,hg,hh,_⟩
 . cases hx
 . simp only [Y2,V0,Addr.mk.injEq,zb6] at hx;obtain ⟨rfl,_⟩:=hx;refine ⟨?_,by simp [World.frozen?,hh]⟩;have d:j / 6<ms.length:=by omega
   have i:j % 6<6:=Nat.mod_lt _ (by decide);have c:=flat_get (ms:=ms) (j / 6) (j % 6) d i;rw [show j / 6 * 6+j % 6=j by omega] at c;have b:=h.cells (g:=g) rfl j _ c;have f:(⟨g,0,none⟩:Addr).add j=⟨g,j,none⟩:=by unfold Addr.add;split <;> simp_all
   rw [f] at b;rw [za9,b,get_flatK _ _ _ _ (by simpa using a)];congr 2;simp [d]
theorem ar {w:World} {a e n cn:Nat} {an:Option Addr} {xs:List Value} (h:w.ownsRow a e 1 (.slice an n cn) n xs):n=0\/∃b,an=some ⟨b,0,none⟩/\a<=b/\QA w b 0 n:=by
 rcases h.2 with ⟨_,h0⟩|⟨g,cap,cur,hv,hg,hh,hc,_,hs,_⟩
 . exact .inl h0
 . simp only [Y2,za5] at hv;obtain ⟨rfl,rfl⟩:=hv;exact .inr ⟨g,rfl,hg,cur,e,hh,by rw [hs];omega⟩
def cz (u:JV) (er:Int) (w:World) (e:Ending) (w':World):Prop :=
 ∃an cn ai ci,e=.returned (.tuple #[.agg #[.int .u8 u.kind,.int .i64 u.n,.string u.t,.slice an u.names.length cn,.slice ai u.items.length ci],.int .i64 er]) /\
  Rep w' w.heap.size w'.heap.size u (.agg #[.int .u8 u.kind,.int .i64 u.n,.string u.t,.slice an u.names.length cn,.slice ai u.items.length ci])/\O5 w w' /\
  (u.names.length=0\/∃b,an=some ⟨b,0,none⟩/\w.heap.size<=b/\QA w' b 0 u.names.length)
theorem cz.val {u:JV} {j:Int} {w:World} {e:Ending} {w':World} (h:cz u j w e w'):nH u j w e w':=by obtain ⟨b,d,a,c,f,g,i,_⟩:=h;exact ⟨b,d,a,c,f,g,i⟩
def o9 (l:List Key2) (w:World) (e:Ending) (w':World):Prop :=
 (yc l≠0/\e=.returned (.tuple #[zeroAgg,.int .i64 (yc l)])/\O5 w w') \/
 (yc l=0/\∃m:List Key2,m.Perm l/\qd (ids m)=true/\cz (xb m) 0 w e w')
structure TabAt (w wr:World) (v:Value) (l:List Key2) (k:Nat) (zs:List (Mem × Key2)):Prop where
 below:O5 w wr
 res:wr.rowIs w.heap.size 26 5 (qo (.int .u8 0) (.int .i64 0) (.string ⟨#[]⟩) (.slice none 0 0) (.slice none 0 0))
 own:wr.ownsRow (w.heap.size+1) 202 6 v k ((zs.map (·.1)).flatMap qY)
 row:xr wr (w.heap.size+1) (fun b=>v.ownBlock=some b) zs
 keys:zs.map (·.2)=l.take k
 err:jo [] l=jo (ids (l.take k)) (l.drop k)
theorem TabAt.later {w wr w':World} {v:Value} {l:List Key2} {k:Nat} {c:List (Mem × Key2)} (h:TabAt w wr v l k c) (a:O5 wr w'):TabAt w w' v l k c where
 below:=h.below.trans (a.mono h.below.size)
 res:=qj a h.res h.res.lt
 own:=qV h.own a
 row:=h.row.carry a.size (fun b hb' _ _=>a.block b hb') (fun _ hx=>.inl hx)
 keys:=h.keys
 err:=h.err
theorem TabAt.len {w wr:World} {v:Value} {l:List Key2} {k:Nat} {a:List (Mem × Key2)} (h:TabAt w wr v l k a) (b:k<=l.length):a.length=k:=by have:=J6 List.length h.keys;simpa [b] using this
theorem TabAt.slice {w wr:World} {v:Value} {l:List Key2} {k:Nat} {f:List (Mem × Key2)} (h:TabAt w wr v l k f) (i:k<=l.length):(v=.slice none 0 0/\k=0)\/∃g cap,v=.slice (some ⟨g,0,none⟩) k cap/\w.heap.size<g/\g<wr.heap.size/\k<=cap /\
 ∀j c (hj:j<f.length),c<6->wr.cell? ⟨g,j * 6+c,none⟩=some ((qY f[j].1)[c]!):=by
 have e:=h.len i;rcases h.own.2 with ⟨rfl,h0⟩|⟨g,cap,cur,rfl,hg,hh,hc,_⟩
 . exact .inl ⟨rfl,h0⟩
 . refine .inr ⟨g,cap,rfl,by omega,qz hh,hc,fun j c hj hc6=>?_⟩;have d:=flat_get (ms:=f.map (·.1)) j c (by simpa using hj) hc6;have a:=h.own.cells (g:=g) rfl (j * 6+c) _ d;have b:(⟨g,0,none⟩:Addr).add (j * 6+c)=⟨g,j * 6+c,none⟩:=by unfold Addr.add;split <;> simp_all
   rw [b] at a;simpa using a
theorem aa:(Tryz.prog.info? 202).map (fun i=>(i.zero,i.size,i.bytes))=some (some (.agg #[.string ⟨#[]⟩,.int .u8 0,.int .i64 0,.string ⟨#[]⟩,.slice none 0 0,.slice none 0 0]),6,96):=by kernel_rfl
theorem TabAt.snoc {w wr r s:World} {v:Value} {l:List Key2} {k g cap lo hi:Nat} {y:List (Mem × Key2)} (x:Mem) (h:TabAt w wr v l k y) (z:k<l.length) (m:O5 wr r)
 (C:x.name=id2 l[k]) (u:ok2 l[k]=true) (q:jg (ids (l.take k)) (id2 l[k])=false)
 (B:wr.heap.size<=lo) (A:hi<=r.heap.size) (D:Rep r lo hi (obj2 l[k]) x.val)
 (o:r.grownBy s v.ownBlock) (p:v.ownBlock=some g\/r.heap.size<=g)
 (ho:s.ownsRow (w.heap.size+1) 202 6 (.slice (some ⟨g,0,none⟩) (k+1) cap) (k+1) ((y.map (·.1)).flatMap qY ++ qY x)) :
 TabAt w s (.slice (some ⟨g,0,none⟩) (k+1) cap) l (k+1) (y ++ [(x,l[k])]):=by
 have d:=h.res.lt;have a:∀b,v.ownBlock=some b->w.heap.size+1<=b/\b<wr.heap.size:=fun b hb=>h.own.lt b hb;have i:=m.size;have j:=o.size;have f:∀b,b<wr.heap.size->v.ownBlock≠some b->s.heap[b]?=wr.heap[b]?:=fun b hb hne=>by rw [o.block b (by omega) (fun e=>hne e.symm)];exact m.block b hb
 have c:∀b,(Value.slice (some ⟨g,0,none⟩) (k+1) cap).ownBlock=some b->b=g:=fun b hb=>by simp [Value.ownBlock] at hb;exact hb.symm
 refine ⟨⟨?_,?_,?_,by have:=h.below.size;omega,fun b hb=>?_⟩,h.res.of_block (f _ d (fun e=>by have:=(a _ e).1;omega)),?_,?_,?_,?_⟩
 . rw [o.os,m.os,h.below.os]
 . rw [o.tape,m.tape,h.below.tape]
 . rw [o.output,m.output,h.below.output]
 . rw [f b (by omega) (fun e=>by have:=(a _ e).1;omega)];exact h.below.block b hb
 . simpa [List.flatMap_append] using ho
 . refine xr.snoc (h.row.carry (by omega) (fun b hb hne _=>f b hb hne) fun b hx=>?_) x l[k] lo hi C (by omega) (by omega) (fun b hx hb=>?_) (Rep.carry lz lz (fun b h1 h2=>o.block b (by omega) (fun e=>by have:=(a b e.symm).2;omega)) _ _ D)
   . rw [c b hx];rcases p with ha|ha
     . exact .inl ha
     . exact .inr (.inl (by omega))
   . rw [c b hx] at hb;rcases p with ha|ha
     . have:=(a g ha).2;omega
     . omega
 . rw [K6,h.keys,Z7 z];rfl
 . rw [h.err,pz l k z,J3 u,Z6 (by rw [q];simp)]
theorem QQ (W:World):Calls Tryz.prog 194 #[.slice none 0 0,.int .i64 0,.int .i64 0,.func (.func 145) #[] #[]] W fun e w'=>e=.returned (.tuple #[])/\w'=W:=by
 go_enter Tryz.func194,Tryz.ntmps194;go_wp2;go_loopw [8] (fun i wr=>i=.int .i64 1/\wr=W) (fun _ _=>0)
 case atStart=>exact ⟨rfl,rfl⟩
 case round =>
  obtain ⟨rfl,rfl⟩:=hrel;go_wp2
  go_end0
  exact ⟨rfl,rfl⟩
theorem QZ (W:World) (d:Int):Calls Tryz.prog 178 #[.slice none 0 0,.int .i64 0,.int .i64 0,.int .i64 d,.func (.func 145) #[] #[]] W fun e w'=>e=.returned (.tuple #[])/\w'=W:=by
 have H:=QQ W;go_enter Tryz.func178,Tryz.ntmps178;go_wp2;go_loopw [1,2,3,10,11,12,13,14,15,16,17,18,19,20] (fun a b _ _ _ _ _ _ _ _ _ _ _ _ wr=>a=.int .i64 0/\b=.int .i64 0/\wr=W) (fun _ _ _ _ _ _ _ _ _ _ _ _ _ _ _=>0)
 case atStart=>exact ⟨rfl,rfl,rfl⟩
 case round =>
  obtain ⟨rfl,rfl,rfl⟩:=hrel;go_wp2_with fail;refine H.mono ?_;rintro e c ⟨rfl,rfl⟩;go_wp2
  (try simp only [Exit.inBlock,Exit.then])
  refine Z8 (results_none rfl _ _ _) rfl ?_;exact ⟨rfl,rfl⟩
theorem eq (w:World):Calls Tryz.prog 144 #[.slice none 0 0,.func (.func 145) #[] #[]] w fun e w'=>e=.returned (.tuple #[])/\w'=w:=by
 have a:=Tryz.bits_Len 0 w (by omega) (by omega);go_enter Tryz.func144,Tryz.ntmps144;go_wp2_with fail;refine a.mono ?_;rintro e b ⟨rfl,rfl⟩;go_wp2_with fail;refine (QZ _ _).mono ?_;rintro e c ⟨rfl,rfl⟩;go_wp2
 go_end0
 exact ⟨rfl,rfl⟩
theorem TabAt.sliced {w wr:World} {v:Value} {l:List Key2} {k:Nat} {a:List (Mem × Key2)} (h:TabAt w wr v l k a) (b:k<=l.length):∃av cap,v=.slice av k cap/\((k=0/\av=none/\cap=0)\/∃g,av=some ⟨g,0,none⟩/\w.heap.size<g/\g<wr.heap.size /\
 ∀j c (d:j<a.length),c<6->wr.cell? ⟨g,j * 6+c,none⟩=some ((qY a[j].1)[c]!)):=by
 rcases h.slice b with ⟨rfl,rfl⟩|⟨g,cap,rfl,h1,h2,_,h4⟩
 . exact ⟨none,0,rfl,.inl ⟨rfl,rfl,rfl⟩⟩
 . exact ⟨_,cap,rfl,.inr ⟨g,rfl,h1,h2,h4⟩⟩
theorem TabAt.names {w wr:World} {v:Value} {l:List Key2} {k:Nat} {a:List (Mem × Key2)} (h:TabAt w wr v l k a):ids (l.take k)=a.map (fun z=>z.1.name):=by rw [<- h.keys];unfold ids;rw [List.map_map];exact List.map_congr_left fun z hz=>(h.row z hz).1.symm
theorem TabAt.hit {w wr:World} {v:Value} {l:List Key2} {k:Nat} {a:List (Mem × Key2)} (h:TabAt w wr v l k a) (x:ByteArray) (j:Nat) (c:j<a.length) (b:(a[j].1.name.toList == x.toList)=true):jg (ids (l.take k)) x=true:=by rw [h.names];unfold jg;rw [List.any_map,List.any_eq_true];exact ⟨a[j],J8 c,b⟩
theorem TabAt.fresh {w wr:World} {v:Value} {l:List Key2} {k:Nat} {a:List (Mem × Key2)} (h:TabAt w wr v l k a) (x:ByteArray) (c:∀j (b:j<a.length),(a[j].1.name.toList == x.toList)=false):jg (ids (l.take k)) x=false:=by rw [h.names];unfold jg;rw [List.any_map,List.any_eq_false];intro z hz;obtain ⟨j,b,rfl⟩:=Y0 hz;show ¬(a[j].1.name.toList == x.toList)=true;rw [c j b];simp
structure SortedAt (w w':World) (av:Option Addr) (l m:List Key2) (zs:List (Mem × Key2)):Prop where
 perm:m.Perm l
 keys:zs.map (·.2)=m
 rise:qd (ids m)=true
 below:O5 w w'
 res:w'.rowIs w.heap.size 26 5 (qo (.int .u8 0) (.int .i64 0) (.string ⟨#[]⟩) (.slice none 0 0) (.slice none 0 0))
 row:xr w' (w.heap.size+1) (fun _=>False) zs
 cells:l.length=0\/∃g,av=some ⟨g,0,none⟩/\g<w'.heap.size/\∀j c (hj:j<zs.length),c<6->w'.cell? ⟨g,j * 6+c,none⟩=some ((qY zs[j].1)[c]!)
theorem TabAt.sorted {w wr:World} {R:Option Addr} {cap:Nat} {l:List Key2} {S:List (Mem × Key2)} (h:TabAt w wr (.slice R l.length cap) l l.length S) (V:l.length<=4294967)
 (T:(l.length=0/\R=none/\cap=0)\/∃g,R=some ⟨g,0,none⟩/\w.heap.size<g/\g<wr.heap.size) :
 Calls Tryz.prog 144 #[.slice R l.length cap,.func (.func 145) #[] #[]] wr fun e w'=>e=.returned (.tuple #[])/\∃m zs',SortedAt w w' R l m zs':=by
 have f:=h.len lz;have I:=h.err;rw [zc0,List.drop_length] at I;obtain ⟨N,_,D⟩:=(wR l []).1 I;have d:=h.keys;rw [zc0] at d;rcases T with ⟨h0,rfl,rfl⟩|⟨g,rfl,hg1,hg2⟩
 . rw [h0];have Q:l=[]:=X5 h0;subst Q;refine (eq wr).mono ?_;rintro e w' ⟨rfl,rfl⟩;have F:S=[]:=X5 f;subst F;exact ⟨rfl,[],[],List.Perm.refl _,rfl,rfl,h.below,h.res,xr.nil _ _ _,.inl rfl⟩
 . have L:=rM h.own;have r:(S.map (·.1)).toArray.size=l.length:=by simp [f]
   have H:=o8 g 0 cap (S.map (·.1)).toArray wr L hg2 (by omega);rw [r] at H;refine H.mono ?_;rintro e w' ⟨rfl,A,⟨E,P,y⟩,B,z⟩;refine ⟨rfl,?_⟩;rw [r] at E y;obtain ⟨zs',q,C⟩:=lf (·.1) (by simpa using P) S rfl;have M:zs'.length=l.length:=by rw [q.length_eq];exact f
   have p:∀i (hi:i<zs'.length),A[i]! = zs'[i].1:=fun i hi=>by
    have e:A.toList[i]?=(zs'.map (·.1))[i]?:=by rw [C]
    rw [List.getElem?_map,H9 hi] at e;have a:i<A.size:=by omega
    rw [getElem!_pos A i a];rw [Array.getElem?_toList,K7 a] at e;exact X2 e
   have o:xr w' (w.heap.size+1) (fun _=>False) zs':=(h.row.carry z.size (fun b hb k _=>z.block b hb (fun e=>k (by rw [e];rfl))) (fun b hx=>hx.elim)).perm q;have x:(zs'.map (·.2)).Perm l:=by rw [<- d];exact q.map _
   have v:∀i (hi:i<zs'.length),zs'[i].1.name=id2 zs'[i].2:=fun i hi=>(o _ (J8 hi)).1;refine ⟨zs'.map (·.2),zs',x,rfl,?_,h.below.trans (z.below h.below.size fun b hb e=>by omega),z.row h.res (by omega),o,.inr ⟨g,rfl,by have:=z.size;omega,fun j c hj T=>?_⟩⟩
   . have u:(ids (zs'.map (·.2))).Nodup:=((x.map id2).nodup_iff).2 D;refine uS fun i j hi hj hij=>?_;have a:i<zs'.length:=by simpa [ids] using hi
     have s:j<zs'.length:=by simpa [ids] using hj
     have J:(ids (zs'.map (·.2)))[i]=zs'[i].1.name:=by rw [v i a];simp [ids]
     have K:(ids (zs'.map (·.2)))[j]=zs'[j].1.name:=by rw [v j s];simp [ids]
     have k:(ids (zs'.map (·.2)))[i]≠(ids (zs'.map (·.2)))[j]:=fun e=>by exact (za3.1 u) i j hi hj hij e
     rw [J,K] at k ⊢;have G:=y i j hij (by omega);rw [p i a,p j s] at G;cases hb:bl zs'[i].1.name zs'[j].1.name
     . exact absurd (mK hb G) k
     . rfl
   . have:=(HoldsK.cell B (i:=j) (c:=c) (by omega) T).1;rw [p j hj] at this;simpa using this
theorem bw (t u:Int) (l m:List ByteArray) (a b:Option Addr) (c d:Nat) (w:World) (hA:qy w 0 w.heap.size a l) (hB:qy w 0 w.heap.size b m) (hl:l.length<=4294967296) (_hm:m.length<=4294967296) :
 Calls Tryz.prog 78 #[.agg #[.int .i64 t,.slice a l.length c],.agg #[.int .i64 u,.slice b m.length d]] w fun e w'=>e=.returned (.bool (decide ((⟨t,l⟩:AuthV)=⟨u,m⟩)))/\O5 w w':=by
 obtain ⟨W,K⟩:=O1 ((w.alloc (.cells #[.int .i64 t,.slice a l.length c] 39)).alloc (.cells #[.int .i64 u,.slice b m.length d] 39));have C:O5 w W:=by rw [K];exact (O4).alloc (by simp) _
 have v:W.heap[w.heap.size]?=some (.cells #[.int .i64 t,.slice a l.length c] 39 (0,0)):=by rw [K];exact qO w _ _
 have A:W.heap[w.heap.size+1]?=some (.cells #[.int .i64 u,.slice b m.length d] 39 (0,0)):=by rw [K];exact kt w _ _
 have R:=U (show ∀w':World,O5 W w'->w'.cell? ⟨w.heap.size,0,none⟩=some (.int .i64 t)/\w'.cell? ⟨w.heap.size,1,none⟩=some (.slice a l.length c)/\w'.cell? ⟨w.heap.size+1,0,none⟩=some (.int .i64 u)/\w'.cell? ⟨w.heap.size+1,1,none⟩=some (.slice b m.length d) from fun w' h=>by
  have o:=(h.block _ (qz v)).trans v;have P:=(h.block _ (qz A)).trans A;exact ⟨qq o rfl,qq o rfl,qq P rfl,qq P rfl⟩)
 have B:=U C;have J:=U K;have HA:=U (hA.below C lz lz C.size);have Q:=U (hB.below C lz lz C.size);have r:=U (show decide ((⟨t,l⟩:AuthV)=⟨u,m⟩)=(decide (t=u) && decide (l=m)) by
  by_cases o:t=u <;> by_cases P:l=m <;> simp [o,P])
 obtain ⟨q,hq⟩:=O1 (decide ((⟨t,l⟩:AuthV)=⟨u,m⟩));rw [<- hq] at r ⊢;clear C K v A hA hB hq;obtain ⟨x0,x1,y0,X⟩:=R.o W (Z0 _ _);by_cases h:t=u
 case neg =>
  have n1:(t != u)=true:=by simpa using h
  rw [X0 h,M0] at r;clear h;go_enter Tryz.func78,Tryz.ntmps78;go_upto_region 1 with fail
  rw [<- J.o];go_wp2;go_ret;exact ⟨qx r.o.symm,B.o⟩
 have n1:(t != u)=false:=by simpa using h
 rw [X3 h,Y4] at r;clear h;by_cases hlm:l.length=m.length
 case neg =>
  have n2:((l.length:Int) != (m.length:Int))=true:=by simp;omega
  have HD:=U (show q=false by rw [r.o];exact X0 fun e=>hlm (by rw [e]));clear hlm;go_enter Tryz.func78,Tryz.ntmps78;go_upto_region 1 with fail
  rw [<- J.o];go_wp2;go_ret;exact ⟨qx HD.o.symm,B.o⟩
 obtain ⟨n,D⟩:=O1 l.length;have F:=U D;have G:=U (show n=m.length by rw [D,hlm]);rw [<- hlm,<- D] at R J X;rw [<- D] at x1 ⊢;rw [<- hlm,<- D];have a0:n<=4294967296:=by omega
 have n2:((n:Int) != (n:Int))=false:=by simp
 clear hlm D hl;go_enter Tryz.func78,Tryz.ntmps78;go_upto_region 1 with fail
 rw [<- J.o];clear J;go_wp2_with fail;clear x0 x1 y0 X;go_loopw [5] (fun i wr=>∃k:Nat,k<=n/\i=.int .i64 k/\l.take k=m.take k/\O5 W wr) (fun i _=>n - (intOf i).toNat)
 case atStart=>exact ⟨0,by omega,rfl,rfl,Z0 _ _⟩
 case round =>
  obtain ⟨k,hk,rfl,N,s⟩:=hrel;have H:=U N;have j:=U s;obtain ⟨x0,x1,y0,X⟩:=R.o wr s;clear N s;by_cases hlt:k<n
  . have L:k<l.length:=by rw [<- F.o];exact hlt
    have M:k<m.length:=by rw [<- G.o];exact hlt
    obtain ⟨p,f,V,_,hp,Y⟩:=(HA.o.below j.o lz lz lz).at k L;subst V;obtain ⟨q2,g,V,_,a1,Z⟩:=(Q.o.below j.o lz lz lz).at k M;subst V;have I:=O0 (l[k]=m[k]->l.take (k+1)=m.take (k+1)) (fun e=>by rw [Z7 L,Z7 M,H.o,e]);have E:=O0 (l[k]≠m[k]->decide (l=m)=false) (fun e=>X0 fun e2=>e (by subst e2;rfl));obtain ⟨x,v⟩:∃x:ByteArray,x=l[k]:=⟨_,rfl⟩;obtain ⟨y,A⟩:∃y:ByteArray,y=m[k]:=⟨_,rfl⟩;replace Y:=Y.trans (J6 (fun z:ByteArray=>some (Value.string z)) v.symm);replace Z:=Z.trans (J6 (fun z:ByteArray=>some (Value.string z)) A.symm);rw [<- v,<- A] at I E;clear v A;have m1:(0:Int)<=(k:Int):=by omega
    have m2:(k:Int)<(n:Int):=by omega
    have m3:decide ((k:Int)<(n:Int))=true:=by simpa using hlt
    cases o:(x.toList == y.toList)
    . have T:=U (show q=false by rw [r.o];exact E.o fun e=>by rw [e] at o;simp at o);go_wp2_with fail;go_quiet (fail);go_wp2;go_ret;exact ⟨qx T.o.symm,Below.drewN (B.o.trans (j.o.mono B.o.size)) _⟩
    . have S:=U (I.o (by rw [ba_eq,J1] at o;exact o));go_wp2_with fail;go_quiet (fail);go_wp2;go_roundw
      case rel=>exact ⟨k+1,by omega,by go_num,S.o,Below.drewN j.o _⟩
      case measure=>simp [intOf];omega
  . obtain rfl:k=n:=by omega
    have T:=U (show q=true by
     rw [r.o];have:=H.o;rw [J4 (by rw [<- F.o];exact J2 _),J4 (by rw [<- G.o];exact J2 _)] at this;exact X3 this)
    go_wp2;go_ret;exact ⟨qx T.o.symm,B.o.trans (j.o.mono B.o.size)⟩
