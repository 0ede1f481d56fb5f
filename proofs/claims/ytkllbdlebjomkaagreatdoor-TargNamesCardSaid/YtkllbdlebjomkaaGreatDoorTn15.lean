import Derived.Test.YtkllbdlebjomkaaGreatDoorTn09
set_option maxHeartbeats 1000000

namespace Go.Proofs.YtkllbdlebjomkaaGreatDoor
open Go.RowKit
mutual
def JV.may:JV->Nat->Int->Bool × Int
 | .mk k n t ns xs,d,l =>
  if l - 1<0 then (false,l - 1) else if qK k n t ns xs.length=false then (false,l - 1) else if k≠4/\k≠5 then (true,l - 1) else if d=0 then (false,l - 1) else JV.mays xs (d - 1) (l - 1)
def JV.mays:List JV->Nat->Int->Bool × Int
 | [],_,l=>(true,l)
 | x :: r,d,l=>if (JV.may x d l).1 then JV.mays r d (JV.may x d l).2 else (false,(JV.may x d l).2)
end
def JV.mayB (v:JV):Bool:=(v.may 12 8192).1
theorem JV.may_eq (v:JV) (d:Nat) (l:Int):v.may d l =
 if l - 1<0 then (false,l - 1) else if qK v.kind v.n v.t v.names v.items.length=false then (false,l - 1) else if v.kind≠4/\v.kind≠5 then (true,l - 1) else if d=0 then (false,l - 1) else JV.mays v.items (d - 1) (l - 1):=by
 cases v;rw [JV.may];rfl
mutual
theorem JV.may_bd:∀(v:JV) (d:Nat) (l:Int),0<=l->-1<=(v.may d l).2/\(v.may d l).2<=l/\((v.may d l).1=true->0<=(v.may d l).2)
 | .mk k n t ns xs,d,l,hl=>by
  rw [JV.may];split
  . simp;omega
  . split
    . simp;omega
    . split
      . simp;omega
      . split
        . simp;omega
        . have:=JV.mays_bd xs (d - 1) (l - 1) (by omega);exact ⟨this.1,by omega,this.2.2⟩
theorem JV.mays_bd:∀(xs:List JV) (d:Nat) (l:Int),0<=l->-1<=(JV.mays xs d l).2/\(JV.mays xs d l).2<=l/\((JV.mays xs d l).1=true->0<=(JV.mays xs d l).2)
 | [],d,l,hl=>by simp [JV.mays];omega
 | x :: r,d,l,hl=>by
  rw [JV.mays];have h1:=JV.may_bd x d l hl;split
  . next h=>have:=JV.mays_bd r d (x.may d l).2 (h1.2.2 h);exact ⟨this.1,by omega,this.2.2⟩
  . exact ⟨h1.1,h1.2.1,fun h=>by simp at h⟩
end
theorem JV.mays_snoc:∀(xs:List JV) (k:Nat) (h:k<xs.length) (d:Nat) (l a:Int),JV.mays (xs.take k) d l=(true,a) ->
 JV.mays (xs.take (k+1)) d l=(if (JV.may xs[k] d a).1 then (true,(JV.may xs[k] d a).2) else (false,(JV.may xs[k] d a).2))/\((JV.may xs[k] d a).1=false->JV.mays xs d l=(false,(JV.may xs[k] d a).2))
 | [],k,h,_,_,_,_=>by simp at h
 | x :: r,0,_,d,l,a,hk=>by simp [JV.mays] at hk;subst hk;simp only [N2,List.take_zero,JV.mays,N6];exact ⟨trivial,fun h=>by rw [Z6 (by simp [h])]⟩
 | x :: r,k+1,h,d,l,a,hk=>by
  simp only [N2,JV.mays] at hk;cases hx:(x.may d l).1
  . rw [Z6 (by simp [hx])] at hk;cases hk
  . rw [J3 hx] at hk;have:=JV.mays_snoc r k (by simpa using h) d _ a hk;simp only [N2,JV.mays,J3 hx,G3];exact this
def oV (v:JV) (d:Nat) (l:Int) (q T:Nat) (w:World) (e:Ending) (w':World):Prop :=
 e=.returned (.bool (v.may d l).1)/\w'.rowIs q T 1 (fun _=>.int .i64 (v.may d l).2)/\Touch (· = q) w w'
theorem tW (N:Nat):∀(v:JV) (x:Value) (d:Nat) (l:Int) (q T:Nat) (w:World),v.wt<=N->N<=4294967296->d<=1000->0<=l->l<=8192->Rep w 0 q v x->w.rowIs q T 1 (fun _=>.int .i64 l) ->
 Calls Tryz.prog 58 #[x,.int .i64 d,.pointer (some ⟨q,0,none⟩)] w (oV v d l q T w):=by
 induction N with
 | zero=>intro v x d l q T w h;have:=v.wt_pos;omega
 | succ N ih =>
  intro v x d l q T w hN hM hd hl0 hl1 hR hq;obtain ⟨X,Y,L,M,rfl,h1,h2,h3,h4⟩:=hR.parts;obtain ⟨b1,b2,b3,b4⟩:=v.wt_bd;have IH:=U ih;clear ih;have H3:=U h3;have H4:=U h4;have K:=U (v.may_eq d l);have b0:=U (v.may_bd d l hl0);have c6:q<w.heap.size:=hq.lt;have c0:w.cell? ⟨q,0,none⟩=some (.int .i64 l):=hq.cell (by omega);have f0:w.frozen? ⟨q,0,none⟩=false:=hq.frozen 0;have HQ:=U hq;clear h3 h4 hR hq;have a4:=U (show qh v.names<=4294967296 by have:=v.wt_eq;omega);obtain ⟨J,D⟩:=O1 v.names.length;obtain ⟨o,C⟩:=O1 v.items.length;rw [<- D,<- C];rw [<- D] at b2 h1;rw [<- C] at b3 h2 K;have a6:=U D;have Q:=U C;clear D C;by_cases g1:l - 1<0
  . have a:=U (show v.may d l=(false,l - 1) by rw [K.o,J3 g1]);go_enter Tryz.func58,Tryz.ntmps58;go_wp2;go_ret;refine ⟨by rw [a.o];rfl,?_,?_⟩
    . rw [a.o];exact ((HQ.o.set 0 _).alloc _).congr fun j hj=>by rw [J3 (by omega)]
    . exact ((Touch.refl (· = q) _).setCell (p:=⟨q,0,none⟩) (.inl rfl) _).alloc _
  have c2:0<=l - 1:=by omega
  have g2:decide (l - 1<0)=false:=by simp;omega
  clear g1;go_enter Tryz.func58,Tryz.ntmps58;go_wp2_with fail;have a2:(w.setCell ⟨q,0,none⟩ (.int .i64 (l - 1))).heap.size=w.heap.size:=by simp
  have G:=O0 (((w.setCell ⟨q,0,none⟩ (.int .i64 (l - 1))).alloc (.cells #[.int .u8 v.kind,.int .i64 v.n,.string v.t,.slice X J Y,.slice L o M] 26)).rowIs q T 1 (fun _=>.int .i64 (l - 1))) (((HQ.o.set 0 _).alloc _).congr fun j hj=>by rw [J3 (by omega)]);have u:=U (qg (w.setCell ⟨q,0,none⟩ (.int .i64 (l - 1))) (.int .u8 v.kind) (.int .i64 v.n) (.string v.t) (.slice X J Y) (.slice L o M) 26);have B:=U (((Touch.refl (· = q) w).setCell (p:=⟨q,0,none⟩) (.inl rfl) (.int .i64 (l - 1))).alloc (.cells #[.int .u8 v.kind,.int .i64 v.n,.string v.t,.slice X J Y,.slice L o M] 26));rw [a2] at u;clear a2;generalize ((w.setCell ⟨q,0,none⟩ (.int .i64 (l - 1))).alloc (.cells #[.int .u8 v.kind,.int .i64 v.n,.string v.t,.slice X J Y,.slice L o M] 26))=w1 at G u B ⊢;have a8:w.heap.size<w1.heap.size:=u.o.lt;have a3:Hid (Below q w w1):=B.o.below (by omega) fun k hk e=>by omega
  clear c0 f0 HQ;refine (cI v.kind v.n v.t v.names X L Y J o M w1 (H3.o.below a3.o lz lz (by omega)) a6.o.symm (by omega) (by omega) a4.o (by omega)).mono ?_;rintro e w2 ⟨rfl,m⟩;have a9:=U m;have c9:w1.heap.size<=w2.heap.size:=m.size;have W:=U (qj m u.o a8);have r:=U (qj m G.o (by omega));have s:Hid (Touch (· = q) w w2):=B.o.trans (Touch.of_below m lz);have x0:w2.cell? ⟨w.heap.size,0,none⟩=some (.int .u8 v.kind):=W.o.cell (by omega);have x4:w2.cell? ⟨w.heap.size,4,none⟩=some (.slice L o M):=W.o.cell (by omega);clear m u G B;cases hp:qK v.kind v.n v.t v.names o
  . have a:=U (show v.may d l=(false,l - 1) by rw [K.o,Z6 (by omega),J3 hp]);clear hp;go_wp2;go_ret;exact ⟨by rw [a.o];rfl,by rw [a.o];exact r.o,s.o⟩
  by_cases hk:v.kind≠4/\v.kind≠5
  . have a:=U (show v.may d l=(true,l - 1) by rw [K.o,Z6 (by omega),Z6 (by simp [hp]),J3 hk]);have k4:(v.kind == 4)=false:=by simp [hk.1]
    have k5:(v.kind == 5)=false:=by simp [hk.2]
    have d1:(v.kind != 4)=true:=by simp [hk.1]
    have d2:(v.kind != 5)=true:=by simp [hk.2]
    clear hp hk;go_wp2;go_ret;exact ⟨by rw [a.o];rfl,by rw [a.o];exact r.o,s.o⟩
  by_cases hd0:d=0
  . have a:=U (show v.may d l=(false,l - 1) by rw [K.o,Z6 (by omega),Z6 (by simp [hp]),Z6 hk,J3 hd0]);subst hd0;have HK:=U hk;clear hp hk;by_cases k4:v.kind=4
    . go_wp2;go_ret;exact ⟨by rw [a.o];rfl,by rw [a.o];exact r.o,s.o⟩
    . have k5:v.kind=5:=by rcases Classical.em (v.kind=5) with h|h;exact h;exact absurd ⟨k4,h⟩ HK.o
      go_wp2;go_ret;exact ⟨by rw [a.o];rfl,by rw [a.o];exact r.o,s.o⟩
  have a:=U (show v.may d l=JV.mays v.items (d - 1) (l - 1) by rw [K.o,Z6 (by omega),Z6 (by simp [hp]),Z6 hk,Z6 hd0]);have c3:((d:Int) == 0)=false:=by simp;omega
  have c4:1<=d:=by omega
  have HK:=U (show v.kind=4\/v.kind=5 by
   rcases Classical.em (v.kind=4) with h|h
   . exact .inl h
   . rcases Classical.em (v.kind=5) with h'|h'
     . exact .inr h'
     . exact absurd ⟨h,h'⟩ hk)
  clear hp hk hd0;rcases HK.o with hk|hk
  all_goals
   go_wp2;clear x0 x4;go_loopw [8,36] (fun _ i wr=>∃(k:Nat) (z:Int),k<=o/\i=.int .i64 k/\JV.mays (v.items.take k) (d - 1) (l - 1)=(true,z)/\0<=z/\z<=8192/\wr.rowIs q T 1 (fun _=>.int .i64 z)/\Touch (· = q) w wr) (fun _ i _=>o - (intOf i).toNat)
   case atStart=>exact ⟨0,l - 1,by omega,rfl,by simp [JV.mays],by omega,by omega,r.o,s.o⟩
   case round =>
    obtain ⟨k,z,c5,rfl,hm,E,Z,g,c⟩:=hrel;by_cases hlt:k<o
    . have y:k<v.items.length:=by rw [<- Q.o];exact hlt
      have HB:Hid (Below q w wr):=c.below (by omega) fun j hj e=>by omega
      obtain ⟨b,d3,b6,c1,b5,b7,rfl,_,hb,y0,y1,y2,y3,y4,F⟩:=(H4.o.below HB.o lz lz lz).get k y;have c7:=JV.wts_get v.items k y;have S:=U (JV.mays_snoc v.items k y (d - 1) (l - 1) z hm);have P:=U (JV.may_bd v.items[k] (d - 1) z E);have a7:=U F;have A:=U g;have H:=U c;clear F g c hm;generalize v.items[k]=it at *;go_wp2_with fail;have d0:q<wr.heap.size:=A.o.lt;have I:(d:Int) - 1=((d - 1:Nat):Int):=by omega
      rw [I];refine (IH.o it _ (d - 1) z q T _ (by omega) (by omega) (by omega) E Z (a7.o.below O4 (by omega) lz lz) (A.o.alloc _)).mono ?_;rintro e w3 ⟨rfl,a0,a1⟩;have R:=U a0;have V:Hid (Touch (· = q) w w3):=(H.o.alloc _).trans a1;clear a0 a1;cases hres:(it.may (d - 1) z).1
      . have f:=U (S.o.2 hres);clear hres;go_wp2;go_ret;exact ⟨by rw [a.o,f.o];rfl,by rw [a.o,f.o];exact R.o,V.o⟩
      . have f:=U (show JV.mays (v.items.take (k+1)) (d - 1) (l - 1)=(true,(it.may (d - 1) z).2) by rw [S.o.1,J3 hres]);have a5:=U (P.o.2.2 hres);clear hres;go_wp2;go_roundw
        case rel=>exact ⟨k+1,_,by omega,by go_num,f.o,a5.o,by have:=P.o.2.1;omega,R.o,V.o⟩
        case measure=>simp [intOf];omega
    . have f:=U (show JV.mays v.items (d - 1) (l - 1)=(true,z) by
       rwa [J4 (by rw [<- Q.o];omega)] at hm)
      have A:=U g;have H:=U c;clear g c hm;go_wp2;go_ret;exact ⟨by rw [a.o,f.o];rfl,by rw [a.o,f.o];exact A.o,H.o⟩
theorem xm (v:JV) (x:Value) (w:World) (z:v.wt<=4294967296) (y:Rep w 0 w.heap.size v x) :
 Calls Tryz.prog 24 #[x] w fun e w'=>e=.returned (.bool v.mayB)/\O5 w w':=by
 have m:=U y;obtain ⟨g,i,d,h,rfl,s,u,p,q⟩:=y.parts;clear p q y;go_enter Tryz.func24,Tryz.ntmps24;go_wp2_with fail;have b:=U (show ((w.alloc (.cells #[.int .u8 v.kind,.int .i64 v.n,.string v.t,.slice g v.names.length i,.slice d v.items.length h] 26)).alloc (.cells #[.int .i64 8192] 3)).rowIs (w.heap.size+1) 3 1 (fun _=>.int .i64 8192) by
  have:=xS (w:=w.alloc (.cells #[.int .u8 v.kind,.int .i64 v.n,.string v.t,.slice g v.names.length i,.slice d v.items.length h] 26)) (c:=#[.int .i64 8192]) (t:=3) (n:=1) (f:=fun _=>.int .i64 8192) rfl;simpa using this)
 have l:Hid (O5 w ((w.alloc (.cells #[.int .u8 v.kind,.int .i64 v.n,.string v.t,.slice g v.names.length i,.slice d v.items.length h] 26)).alloc (.cells #[.int .i64 8192] 3))):=(O4).alloc (by simp) _;refine (tW 4294967296 v _ 12 8192 (w.heap.size+1) 3 _ z (by omega) (by omega) (by omega) (by omega) (m.o.below l.o lz lz (by omega)) b.o).mono ?_;rintro e r ⟨rfl,j,a⟩;have o:Hid (O5 w r):=l.o.trans (a.below (by simp;omega) fun k hk e=>by omega);clear j a;go_wp2;go_ret;exact ⟨rfl,o.o⟩
