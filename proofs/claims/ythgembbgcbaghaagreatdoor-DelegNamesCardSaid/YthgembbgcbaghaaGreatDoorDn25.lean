import Derived.Test.YthgembbgcbaghaaGreatDoorDn23
import Derived.Test.YthgembbgcbaghaaGreatDoorDn08
import Derived.Test.YthgembbgcbaghaaGreatDoorDn19
set_option maxHeartbeats 2000000
set_option maxRecDepth 100000

namespace Go.Proofs.YthgembbgcbaghaaGreatDoor
open Go.RowKit
def fx (v:JV) (w:World) (e:Ending) (w':World):Prop :=
 e=.returned (.tuple #[.agg #[.string (zu v).1.1,.string (zu v).1.2],.int .i64 (zu v).2])/\O5 w w'
theorem keyOf (v:JV) (x:Value) (w:World) (lo hi:Nat) (hN:v.wt<=4294967296) (e6:hi<=w.heap.size) (hR:Rep w lo hi v x) (hS:v.mayB=true->v.kind=5->∀k (h:k<v.items.length),uy lo v.items[k]) :
 Calls Tryz.prog 117 #[x] w (fx v w):=by
 obtain ⟨E,G,D,F,hx,h1,h2,h3,h4⟩:=hR.parts;have HR:=U hR;have HS:=U hS;clear h1 h2 h3 h4 hR hS;subst hx;have A:=O0 (O5 w ((w.alloc (.cells #[.int .u8 v.kind,.int .i64 v.n,.string v.t,.slice E v.names.length G,.slice D v.items.length F] 25)).alloc (.cells #[.string ⟨#[]⟩,.string ⟨#[]⟩] 43))) ((O4).alloc (by simp) _);have a1:=U (show ((w.alloc (.cells #[.int .u8 v.kind,.int .i64 v.n,.string v.t,.slice E v.names.length G,.slice D v.items.length F] 25)).alloc (.cells #[.string ⟨#[]⟩,.string ⟨#[]⟩] 43)).heap[w.heap.size]?=some (.cells #[.int .u8 v.kind,.int .i64 v.n,.string v.t,.slice E v.names.length G,.slice D v.items.length F] 25 (0,0)) by rw [J8 _ _ _ (by simp)];exact Z4 w _);have b0:=kF (w.alloc (.cells #[.int .u8 v.kind,.int .i64 v.n,.string v.t,.slice E v.names.length G,.slice D v.items.length F] 25)) (.string ⟨#[]⟩) (.string ⟨#[]⟩) 43;rw [show (w.alloc (.cells #[.int .u8 v.kind,.int .i64 v.n,.string v.t,.slice E v.names.length G,.slice D v.items.length F] 25)).heap.size=w.heap.size+1 by simp] at b0;have K:=U b0;clear b0;have Z:=U (kZ v _ ((w.alloc (.cells #[.int .u8 v.kind,.int .i64 v.n,.string v.t,.slice E v.names.length G,.slice D v.items.length F] 25)).alloc (.cells #[.string ⟨#[]⟩,.string ⟨#[]⟩] 43)) hN (HR.o.below A.o e6 (Q2 _) (by simp;omega)));cases hm:v.mayB
 . have z:=U (show zu v=((⟨#[]⟩,⟨#[]⟩),3) by unfold zu;rw [Q1 hm]);rw [hm] at Z;clear hm;go_enter Tryz.func117,Tryz.ntmps117;go_wp2_with fail;refine Z.o.mono ?_;rintro e g ⟨rfl,b⟩;have a:=qw b K.o (by simp);have q:=U a;have p:=U (A.o.trans (b.mono (by simp;omega)));have R:=a.cell (i:=0) (by decide);have S:=a.cell (i:=1) (by decide);have s0:=a.frozen 0;have s1:=a.frozen 1;simp only [jW] at R S;clear a b;go_wp2;refine Q3 (qb Tryz.results117 _ _ (w.heap.size+1) 43 _ (0,0) _ rfl (zU (set2 _ _ q.o)) Tryz.underlying43 rfl (by kernel_rfl) _ rfl) rfl ⟨?_,wl _ _ p.o (by omega)⟩;rw [z.o];rfl
 . rw [hm] at Z;have J:=U hm;clear hm;by_cases hk:v.kind=5
   . obtain ⟨c7,c5,c9⟩:=dh J.o hk;obtain ⟨d,s⟩:∃r,r=qh v xJ ⟨[],0⟩:=⟨_,rfl⟩;obtain ⟨f,u⟩:∃r,r=qh v schN d.2:=⟨_,rfl⟩;obtain ⟨dn,a6⟩:∃r,r=qu v f.2:=⟨_,rfl⟩;have z:=U (show zu v=if dn≠0 then ((⟨#[]⟩,⟨#[]⟩),dn) else if zF f.1.data.toList d.1.data.toList then ((f.1,d.1),0) else ((⟨#[]⟩,⟨#[]⟩),3) by
      unfold zu;rw [Z6 (by rw [J.o];simp),Z6 (by simp [hk]),a6,u,s])
     obtain ⟨z1,z2⟩:=pR (y:=xJ) (st:=⟨[],0⟩) hN;obtain ⟨z3,z4⟩:=pR (y:=schN) (st:=d.2) hN;rw [<- s] at z1 z2;rw [<- u] at z3 z4;simp only [List.length_nil] at z2;have b6:=U s;have b7:=U u;have X:=U a6;have d4:=U c7;have d2:=U c5;have d5:=U c9;have HK:=U hk;clear s u a6 c7 c5 c9 hk;go_enter Tryz.func117,Tryz.ntmps117;go_wp2_with fail;refine Z.o.mono ?_;clear Z;rintro e g ⟨rfl,b⟩;have d6:w.heap.size+2<=g.heap.size:=by have:=b.size;simp at this;omega
     have p:=U (A.o.trans (b.mono (by simp;omega)));have L:=U (qw b K.o (by simp));have c:g.heap[w.heap.size]?=some (.cells #[.int .u8 v.kind,.int .i64 v.n,.string v.t,.slice E v.names.length G,.slice D v.items.length F] 25 (0,0)):=by rw [b.block _ (by simp;omega)];exact a1.o
     have c0:=qq c (j:=0) rfl;have c1:=qq c (j:=1) rfl;have c2:=qq c (j:=2) rfl;have c3:=qq c (j:=3) rfl;have c4:=qq c (j:=4) rfl;have b3:=U (y6 v _ g lo hi hN (by omega) (HR.o.below p.o e6 lz lz) HK.o d4.o d2.o (HS.o J.o HK.o));clear b c;go_wp2_with fail;refine b3.o.mono ?_;clear b3 c0 c1 c2 c3 c4 HR HS a1 A K;rintro e w2 ⟨o,m,b2,a7,a3,a2,a5,a4,rfl,C,c6,e1,j⟩;have b8:=U (yZ o m b2 a7 v a3 a2 a5 a4 xJ ⟨[],0⟩ w2 C (by decide) (by simp));have M:=U (qw j L.o (by omega));have e3:=j.size;have B:=U (p.o.trans (j.mono (by omega)));clear C j L p;go_wp2_with fail;refine b8.o.mono ?_;clear b8;rintro e w3 ⟨rfl,a8,P⟩;rw [<- b6.o] at a8 ⊢;have b9:=U (yZ o m b2 a7 v a3 a2 a5 a4 schN d.2 w3 a8 (by decide) (by omega));have e4:=P.size;have b4:=U (P.row M.o (by omega));have H:=U (B.o.trans (P.below (by omega) fun k hk e=>by omega));clear a8 P M B;go_wp2_with fail;refine b9.o.mono ?_;clear b9;rintro e w4 ⟨rfl,a9,Q⟩;rw [<- b7.o] at a9 ⊢;have e5:=Q.size;have b5:=U (Q.row b4.o (by omega));have T:=U (H.o.trans (Q.below (by omega) fun k hk e=>by omega));have Y:=U (pD o m b2 a7 v a3 a2 a5 a4 f.2 (w4.alloc (.cells #[.string f.1,.string d.1] 43)) (a9.below O4) (fun i hi=>by
      have:=X3.1 d5.o _ (J1 hi);unfold qW at this;simp at this;omega))
     rw [<- X.o] at Y;clear a9 Q b4 H;go_wp2_with fail;refine Y.o.mono ?_;clear Y;rintro e w5 ⟨rfl,rfl⟩;have N:=U (b5.o.alloc (.cells #[.string f.1,.string d.1] 43));have V:=U (T.o.alloc T.o.size (.cells #[.string f.1,.string d.1] 43));clear b5 T;by_cases hd:dn=0
     . rw [hd] at z ⊢;simp only [ne_eq,not_true_eq_false,if_false] at z;clear hd X;have I:=U (mN f.1 d.1 (w4.alloc (.cells #[.string f.1,.string d.1] 43)) (by omega) (by omega));cases hko:zF f.1.data.toList d.1.data.toList
       . rw [hko] at I z;clear hko;go_wp2_with fail;refine I.o.mono ?_;rintro e w6 ⟨rfl,l⟩;have a:=qw l N.o (by simp;omega);have q:=U a;have W:=U (V.o.trans (l.mono (by simp;omega)));have R:=a.cell (i:=0) (by decide);have S:=a.cell (i:=1) (by decide);have s0:=a.frozen 0;have s1:=a.frozen 1;simp only [jW] at R S;clear a l;go_wp2;refine Q3 (qb Tryz.results117 _ _ (w.heap.size+1) 43 _ (0,0) _ rfl (zU (set2 _ _ q.o)) Tryz.underlying43 rfl (by kernel_rfl) _ rfl) rfl ⟨?_,wl _ _ W.o (by omega)⟩;rw [z.o];rfl
       . rw [hko] at I z;clear hko;go_wp2_with fail;refine I.o.mono ?_;rintro e w6 ⟨rfl,l⟩;have a:=qw l N.o (by simp;omega);have b1:w6.heap[w4.heap.size]?=some (.cells #[.string f.1,.string d.1] 43 (0,0)):=by rw [l.block _ (by simp)];exact Z4 _ _
         have d0:=qq b1 (j:=0) rfl;have d1:=qq b1 (j:=1) rfl;have q:=U a;have W:=U (V.o.trans (l.mono (by simp;omega)));have R:=a.cell (i:=0) (by decide);have S:=a.cell (i:=1) (by decide);have s0:=a.frozen 0;have s1:=a.frozen 1;simp only [jW] at R S;clear a l b1;go_wp2;refine Q3 (qb Tryz.results117 _ _ (w.heap.size+1) 43 _ (0,0) _ rfl (zU (set2 _ _ q.o)) Tryz.underlying43 rfl (by kernel_rfl) _ rfl) rfl ⟨?_,wl _ _ W.o (by omega)⟩;rw [z.o];rfl
     . rw [Q1 hd] at z;have d7:(dn == 0)=false:=by simpa using hd
       have e0:(dn != 0)=true:=by simpa using hd
       have a:=N.o;have R:=a.cell (i:=0) (by decide);have S:=a.cell (i:=1) (by decide);have s0:=a.frozen 0;have s1:=a.frozen 1;simp only [jW] at R S;clear a hd X;go_wp2;refine Q3 (qb Tryz.results117 _ _ (w.heap.size+1) 43 _ (0,0) _ rfl (zU (set2 _ _ N.o)) Tryz.underlying43 rfl (by kernel_rfl) _ rfl) rfl ⟨?_,wl _ _ V.o (by omega)⟩;rw [z.o];rfl
   . have z:=U (show zu v=((⟨#[]⟩,⟨#[]⟩),10) by unfold zu;rw [Z6 (by rw [J.o];simp),Q1 hk]);have HK:=U hk;clear hk;go_enter Tryz.func117,Tryz.ntmps117;go_wp2_with fail;refine Z.o.mono ?_;clear Z;rintro e g ⟨rfl,b⟩;have d6:w.heap.size+2<=g.heap.size:=by have:=b.size;simp at this;omega
     have p:=U (A.o.trans (b.mono (by simp;omega)));have L:=U (qw b K.o (by simp));have c:g.heap[w.heap.size]?=some (.cells #[.int .u8 v.kind,.int .i64 v.n,.string v.t,.slice E v.names.length G,.slice D v.items.length F] 25 (0,0)):=by rw [b.block _ (by simp;omega)];exact a1.o
     have c0:=qq c (j:=0) rfl;have c1:=qq c (j:=1) rfl;have c2:=qq c (j:=2) rfl;have c3:=qq c (j:=3) rfl;have c4:=qq c (j:=4) rfl;clear b c;go_wp2_with fail;refine (g6 v.kind v.n v.t _ _ g HK.o).mono ?_;clear c0 c1 c2 c3 c4;rintro e w2 ⟨o,rfl,e2,c6,C,j⟩;have a0:=U C;have M:=U (qw j L.o (by omega));have B:=U (p.o.trans (j.mono (by omega)));clear C j;go_wp2_with fail;refine (fW o 10 _ w2 a0.o).mono ?_;rintro e w3 ⟨rfl,rfl⟩;go_wp2_with fail;refine (fW o 10 _ w2 a0.o).mono ?_;rintro e w3 ⟨rfl,rfl⟩;have d3:=U (a0.o.below ((Z0 _ _).alloc lz (.cells #[.string ⟨#[]⟩,.string ⟨#[]⟩] 43)) c6);obtain ⟨p1,p2,kk,p3⟩:=d3.o;have HD:=U (fY o 10 kk _ p1 p2 p3);clear p1 p2 p3;go_wp2_with fail;refine HD.o.mono ?_;rintro e w3 ⟨rfl,rfl⟩;have a:=M.o.alloc (.cells #[.string ⟨#[]⟩,.string ⟨#[]⟩] 43);have q:=U a;have H:=U (B.o.alloc B.o.size (.cells #[.string ⟨#[]⟩,.string ⟨#[]⟩] 43));have R:=a.cell (i:=0) (by decide);have S:=a.cell (i:=1) (by decide);have s0:=a.frozen 0;have s1:=a.frozen 1;simp only [jW] at R S;clear a;go_wp2;refine Q3 (qb Tryz.results117 _ _ (w.heap.size+1) 43 _ (0,0) _ rfl (zU (set2 _ _ q.o)) Tryz.underlying43 rfl (by kernel_rfl) _ rfl) rfl ⟨?_,wl _ _ H.o (by omega)⟩;rw [z.o];rfl
def fj (l:List JV) (w:World) (e:Ending) (w':World):Prop :=
 ∃ai ci,e=.returned (.agg #[.int .u8 4,.int .i64 0,.string ⟨#[]⟩,.slice none 0 0,.slice ai l.length ci])/\Rep w' w.heap.size w'.heap.size (qk l) (.agg #[.int .u8 4,.int .i64 0,.string ⟨#[]⟩,.slice none 0 0,.slice ai l.length ci])/\O5 w w'
theorem tL (l:List JV) (a:Option Addr) (c lo:Nat) (w:World) (e8:0<lo) (hS:zj w lo w.heap.size a l) (hl:l.length<=4294967296) (e9:∀x ∈ l,x.wt<=4294967296) :
 Calls Tryz.prog 148 #[.slice a l.length c] w (fj l w):=by
 obtain ⟨W,Y⟩:=O1 ((w.alloc (.cells #[.int .u8 0,.int .i64 0,.string ⟨#[]⟩,.slice none 0 0,.slice none 0 0] 25)).alloc (.cells #[.int .u8 4,.int .i64 0,.string ⟨#[]⟩,.slice none 0 0,.slice none 0 0] 25));have K:(w.alloc (.cells #[.int .u8 0,.int .i64 0,.string ⟨#[]⟩,.slice none 0 0,.slice none 0 0] 25)).heap.size=w.heap.size+1:=by simp
 have L:W.heap.size=w.heap.size+2:=by rw [Y];simp
 have b4:O5 w W:=by rw [Y];exact (O4).alloc (by simp) _
 have b8:W.rowIs w.heap.size 25 5 (qB (.int .u8 0) (.int .i64 0) (.string ⟨#[]⟩) (.slice none 0 0) (.slice none 0 0)):=by rw [Y];exact (qt w (.int .u8 0) (.int .i64 0) (.string ⟨#[]⟩) (.slice none 0 0) (.slice none 0 0) 25).alloc _
 have b9:W.rowIs (w.heap.size+1) 25 5 (qB (.int .u8 4) (.int .i64 0) (.string ⟨#[]⟩) (.slice none 0 0) (.slice none 0 0)):=(by have:=qt (w.alloc (.cells #[.int .u8 0,.int .i64 0,.string ⟨#[]⟩,.slice none 0 0,.slice none 0 0] 25)) (.int .u8 4) (.int .i64 0) (.string ⟨#[]⟩) (.slice none 0 0) (.slice none 0 0) 25;rw [K,<- Y] at this;exact this);have HS:=U hS;have c2:=U e8;have d2:=U e9;have HW:=U Y;have a1:=U b4;have c3:=U b8;have a9:=U b9;have B:=U L;obtain ⟨Z,X⟩:=O1 l.length;have A:=U X;rw [<- X] at hl ⊢;clear hS e8 e9 Y b4 b8 b9 K L X;obtain ⟨i0,d6,e1,K,L⟩:=V2 xY;go_enter Tryz.func148,Tryz.ntmps148;go_upto_region 2 with fail
 rw [<- HW.o];clear HW;obtain ⟨z,T⟩:=O1 (w.heap.size+1);have Q:=U T;rw [<- T] at a9 ⊢;have b5:z<W.heap.size:=by have:=B.o;omega
 clear T;go_wp2;go_loopw [5,9] (fun _ i wr=>∃(k:Nat) (cs:List Value) (M:Value),k<=Z/\i=.int .i64 k/\Touch (· = z) W wr/\wr.rowIs z 25 5 (qB (.int .u8 4) (.int .i64 0) (.string ⟨#[]⟩) (.slice none 0 0) M)/\wr.ownsRow W.heap.size 25 5 M k cs/\q6 wr W.heap.size (fun b=>b=z\/M.ownBlock=some b) (l.take k) cs) (fun _ i _=>Z - (intOf i).toNat)
 case atStart=>exact ⟨0,[],.slice none 0 0,by omega,rfl,Touch.refl _ _,a9.o,Y0 _ _ _ _,by simpa using q6.nil _ _ _⟩
 case round =>
  obtain ⟨k,cs,M,hk,rfl,f,d,h,E⟩:=hrel;by_cases hlt2:k<Z
  . have C:k<l.length:=by rw [<- A.o];exact hlt2
    have HB:Hid (O5 w wr):=a1.o.trans (f.below (by have:=B.o;omega) fun j hj e=>by have:=Q.o;omega);obtain ⟨b,e7,G,I,F,H,rfl,_,hb,y0,y1,y2,y3,y4,m⟩:=(HS.o.below HB.o lz lz lz).get k C;have e0:=d2.o l[k] (J1 C);have d0:=O0 (l.take (k+1)=l.take k ++ [l[k]]) (Z8 C);have c6:=U m;clear m;have c4:wr.cell? ⟨z,4,none⟩=some M:=d.cell (by omega);have f4:wr.frozen? ⟨z,4,none⟩=false:=d.frozen 4;have V:z<wr.heap.size:=d.lt;have e6:W.heap.size<=wr.heap.size:=f.size;have b6:some z≠M.ownBlock:=fun e=>by have:=(h.lt _ e.symm).1;omega
    have b2:=U d;have b3:=U f;have HO:=U h;have b1:=U E;clear d f h E;generalize l[k]=it at *;have a3:=U (show Calls Tryz.prog 91 #[.agg #[.int .u8 it.kind,.int .i64 it.n,.string it.t,.slice G it.names.length I,.slice F it.items.length H]] ((wr.alloc (.cells #[.int .u8 it.kind,.int .i64 it.n,.string it.t,.slice G it.names.length I,.slice F it.items.length H] 25)).drew) (fun e y=>∃p r o q,e=.returned (.agg #[.int .u8 it.kind,.int .i64 it.n,.string it.t,.slice p it.names.length r,.slice o it.items.length q])/\Rep y (wr.heap.size+1) y.heap.size it (.agg #[.int .u8 it.kind,.int .i64 it.n,.string it.t,.slice p it.names.length r,.slice o it.items.length q])/\Below (wr.heap.size+1) ((wr.alloc (.cells #[.int .u8 it.kind,.int .i64 it.n,.string it.t,.slice G it.names.length I,.slice F it.items.length H] 25)).drew) y/\wr.heap.size<y.heap.size/\y.cell? ⟨z,4,none⟩=some M/\y.frozen? ⟨z,4,none⟩=false/\y.ownsRow W.heap.size 25 5 M k cs) by
     refine (vP it _ _ lo w.heap.size e0 (by have:=HB.o.size;simp;omega) (c6.o.below (O4).drew (by have:=HB.o.size;omega) lz lz) (fun _ _=>.inl c2.o)).mono ?_;rintro e y ⟨p,r,o,q,rfl,D,s⟩;have hz:((wr.alloc (.cells #[.int .u8 it.kind,.int .i64 it.n,.string it.t,.slice G it.names.length I,.slice F it.items.length H] 25)).drew).heap.size=wr.heap.size+1:=by simp
     rw [hz] at D s;have d7:=s.size;rw [hz] at d7;have R:O5 wr y:=(O4).drew.trans (s.mono (by omega));exact ⟨p,r,o,q,rfl,D,s,by omega,by rw [R.cell V];exact c4,by rw [R.frozen V];exact f4,qE HO.o R⟩)
    go_wp2_with fail
    go_region_law (first|(refine N5 _ (by rfl) (.tmp 14) (.tmp 17) 23 (by rfl) W.heap.size 25 i0 _ 5 80 W8 d6 e1 K L rfl (by omega) M k cs (by rfl) (a7.o.alloc _) ⟨y.heap.size,0,none⟩ 1 1 (Array.toList #[.int .u8 it.kind,.int .i64 it.n,.string it.t,.slice p it.names.length r,.slice o it.items.length q]) (by rfl) (by rfl) (J5 (cs:=#[.int .u8 it.kind,.int .i64 it.n,.string it.t,.slice p it.names.length r,.slice o it.items.length q]) (t:=25) (fr:=(0,0)) (Z4 y _)) (by simp [Value.oneCell']) (by omega) (by unfold maxLen;omega) (by omega) (by simp;omega) (y.heap.size+1) (by simp) ?_;intro g cap w4 hown4 hgrow4 hat4 hlt4;have e3:=zw hgrow4 N b6 d3;have e4:=zf hgrow4 N b6 d4;have a8:=U hown4;have a4:=U hgrow4;have a0:=U hat4;clear hown4 hgrow4 hat4)|(go_simp;go_at_call 91;(with_reducible refine a3.o.mono ?_);rintro e y ⟨p,r,o,q,rfl,D,s,e2,d3,d4,b7⟩;have N:z<y.heap.size:=za0 V e2;have a7:=U b7;have b0:=U D;have a2:=U s;clear b7 D s))
    all_goals
     have c9:=U (row_step (j:=4) b5 b3.o b2.o HO.o b1.o a2.o b0.o a4.o a0.o a8.o);clear b3 b2 HO b1 a2 b0 a4 a0 a8 a7 a3;go_wp2;go_roundw
     case rel => obtain ⟨z1,z2,z3,z4⟩:=c9.o;refine ⟨k+1,_,_,by omega,by go_num,z1,z2.congr fun i hi=>?_,z3,by rw [d0.o];exact z4⟩;rcases i with _|_|_|_|_|i <;> first|rfl|omega
     case measure=>simp [intOf];omega
  . obtain rfl:k=Z:=by omega
    have P:l.take k=l:=by rw [Q4 (by rw [<- A.o];exact Z9 _)]
    rw [P] at E;have J:l.length=k:=A.o.symm;obtain ⟨a5,c5,rfl,S,c0⟩:=xn h E J.symm;rw [J] at S d;have d1:=U c0;have c1:=U S;have a6:=U J;have u:=(f.row c3.o (by have:=Q.o;omega));obtain ⟨r0,r1,r2,r3,r4⟩:=rc5 d;obtain ⟨t0,t1,t2,t3,t4⟩:=rc5 u;obtain ⟨s0,s1,s2,s3,s4⟩:=rf5 u;simp only [qB] at r0 r1 r2 r3 r4 t0 t1 t2 t3 t4;have HT:=U f;have c7:=U u;clear d u h E c0 f P S J;go_wp2;refine Q3 (J2 Tryz.results148 _ _ w.heap.size 25 _ (0,0) _ rfl (qJ (set5 _ _ _ _ _ c7.o)) Q6 rfl (by kernel_rfl)) rfl ?_;have d5:O5 w wr:=a1.o.trans (HT.o.below (by have:=B.o;omega) fun j hj e=>by have:=Q.o;omega);refine ⟨a5,c5,by rw [<- A.o],?_,zn _ _ _ _ _ d5 lz⟩;rw [<- A.o];have m:=Rep.mk (v:=qk l) (an:=none) (cn:=0) (ai:=a5) (ci:=c5) (w:=wr) (lo:=W.heap.size) (hi:=wr.heap.size) lz (by show l.length<=c5;rw [a6.o];exact c1.o) (.inl rfl) d1.o;have e5:(qk l).items.length=k:=a6.o;rw [e5] at m;exact Rep.carry (by have:=B.o;omega) (show wr.heap.size<=_ by simp [World.setCell]) (fun j hj _=>js _ _ _ _ _ (by have:=B.o;omega)) _ _ m
theorem wg:∀(l:List DelegV) (k:Nat) (h:k<l.length),((l.take k).any fun y=>decide (y.name=l[k].name))=true->xk l=false
 | [],k,h,_=>by simp at h
 | x :: r,0,h,hb=>by simp at hb
 | x :: r,k+1,h,hb=>by
  rw [K7,List.any_cons,List.getElem_cons_succ,Bool.or_eq_true] at hb;unfold xk;rcases hb with hb|hb
  . have:(r.any fun y=>decide (y.name=x.name))=true:=by
     rw [M5];exact ⟨r[k]'(by simpa using h),J1 _,by rw [Z7] at hb ⊢;exact hb.symm⟩
    rw [this];rfl
  . rw [wg r k (by simpa using h) hb,Bool.and_false]
theorem yj:∀(l:List DelegV),(∀k (h:k<l.length),((l.take k).any fun y=>decide (y.name=l[k].name))=false)->xk l=true
 | [],_=>rfl
 | x :: r,h=>by unfold xk;have h1:(r.any fun y=>decide (y.name=x.name))=false:=(by rw [List.any_eq_false];intro y hy;obtain ⟨k,a,rfl⟩:=Y1 hy;have:=h (k+1) (by simpa using a);rw [K7,List.any_cons,List.getElem_cons_succ,Bool.or_eq_false_iff] at this;have b:=this.1;rw [X1] at b;rw [Z7];exact fun e=>b e.symm);rw [h1,Bool.not_false,X2];refine yj r fun k a=>?_;have:=h (k+1) (by simpa using a);rw [K7,List.any_cons,List.getElem_cons_succ,Bool.or_eq_false_iff] at this;exact this.2
def zt (l:List DelegV):Bool:=decide (l.length<=64) && l.all qV && xk l
theorem jh (d:DelegsV):xz d=(zc d.keys && (if zK d.bins then zt d.roles else d.roles.isEmpty && zk d.bins)):=rfl
theorem pQ {l:List DelegV} (h:¬l.length<=64):zt l=false:=by unfold zt;rw [Q8 h];rfl
theorem fR {l:List DelegV} {k:Nat} (h:k<l.length) (a:qV l[k]=false):zt l=false:=by unfold zt;rw [show l.all qV=false from N9.2 ⟨l[k],J1 _,by simp [a]⟩,Bool.and_false,K9]
theorem bT {l:List DelegV} {k:Nat} (h:k<l.length) (a:((l.take k).any fun y=>decide (y.name=l[k].name))=true):zt l=false:=by unfold zt;rw [wg l k h a,Bool.and_false]
theorem uN {l:List DelegV} (h:l.length<=64) (b:∀k (h:k<l.length),qV l[k]=true) (c:∀k (h:k<l.length),((l.take k).any fun y=>decide (y.name=l[k].name))=false):zt l=true:=by unfold zt;rw [Q9 h,yj l c,show l.all qV=true from X3.2 fun x hx=>by obtain ⟨k,a,rfl⟩:=Y1 hx;exact b k a];rfl
open Go.WideMaps Go.Maps
abbrev vl:=StepV × Option Addr × Nat
def encS (q:vl):List Value:=[.string q.1.name,.int .i64 q.1.au.thr,.slice q.2.1 q.1.au.ids.length q.2.2,.bool q.1.term]
theorem nC (q:vl):(encS q).length=4:=rfl
theorem nD (q:vl):∀v ∈ encS q,v.oneCell'=true:=by intro v hv;simp only [encS,Y5,Y7,M3] at hv;rcases hv with rfl|rfl|rfl|rfl <;> rfl
def stepP (w:World) (lo hi:Nat) (q:vl):Prop:=q.1.au.ids.length<=q.2.2/\xT w lo hi q.2.1 q.1.au.ids
theorem kw:bf stepP:=fun _ _ _ _ _ hs h=>⟨h.1,h.2.carry lz lz hs⟩
def xc (T B:Nat) (w:World) (vs:Value) (qs:List vl):Prop:=ItemsOwn T 4 B encS stepP w vs qs
def lU (T:Nat) (S:List StepV) (w:World) (e:Ending) (w':World):Prop :=
 ∃(a:Option Addr) (c:Nat) (qs:List vl),e=.returned (.slice a S.length c)/\qs.map (·.1)=S/\xc T w.heap.size w' (.slice a S.length c) qs/\O5 w w'
theorem xc.at {T B:Nat} {w:World} {a:Option Addr} {n c:Nat} {p:List vl} {S:List StepV} (h:xc T B w (.slice a n c) p) (q:p.map (·.1)=S) (i:Nat) (hi:i<S.length) :
 ∃g ia ic lo hi',a=some ⟨g,0,none⟩/\B<=g/\g<w.heap.size/\(∀o,w.frozen? ⟨g,o,none⟩=false)/\w.cell? ⟨g,i * 4,none⟩=some (.string S[i].name)/\w.cell? ⟨g,i * 4+1,none⟩=some (.int .i64 S[i].au.thr)/\w.cell? ⟨g,i * 4+2,none⟩=some (.slice ia S[i].au.ids.length ic)/\w.cell? ⟨g,i * 4+3,none⟩=some (.bool S[i].term) /\
  S[i].au.ids.length<=ic/\B<=lo/\hi'<=w.heap.size/\¬(lo<=g/\g<hi')/\xT w lo hi' ia S[i].au.ids:=by
 subst q;have b:i<p.length:=by simpa using hi
 obtain ⟨-,-,d⟩:=ItemsOwn.cells nC h;rcases d with d|⟨g,ha,hg,hlt,hf,hc⟩
 . rw [d] at b;simp at b
 . obtain ⟨lo,hi',f,j,k,l,m⟩:=ItemsOwn.each h p[i] (J1 b);subst ha;have e:(p.map (·.1))[i]=p[i].1:=N4 ..;rw [e];exact ⟨g,p[i].2.1,p[i].2.2,lo,hi',rfl,hg,hlt,hf,hc i b 0 (by decide),hc i b 1 (by decide),hc i b 2 (by decide),hc i b 3 (by decide),l,f,j,k g rfl,m⟩
def pq (w:World) (lo hi b o:Nat) (x:StepV):Prop :=
 ∃ia ic,w.cell? ⟨b,o,none⟩=some (.string x.name)/\w.cell? ⟨b,o+1,none⟩=some (.int .i64 x.au.thr)/\w.cell? ⟨b,o+2,none⟩=some (.slice ia x.au.ids.length ic)/\w.cell? ⟨b,o+3,none⟩=some (.bool x.term)/\x.au.ids.length<=ic/\qy w lo hi ia x.au.ids
theorem pq.carry {w w':World} {lo hi lo' hi' b o:Nat} {x:StepV} (h:pq w lo hi b o x) (m:lo'<=lo) (p:hi<=hi') (q:lo<=b) (k:b<hi) (l:∀b,lo<=b->b<hi->w'.heap[b]?=w.heap[b]?):pq w' lo' hi' b o x:=by have e:∀o,w'.cell? ⟨b,o,none⟩=w.cell? ⟨b,o,none⟩:=fun o=>J9 (w:=w) (w':=w') (l b q k);obtain ⟨g,i,a,c,d,f,j,hi⟩:=h;exact ⟨g,i,by rw [e];exact a,by rw [e];exact c,by rw [e];exact d,by rw [e];exact f,j,hi.carry m p l⟩
def je (w:World) (lo hi:Nat) (a:Option Addr) (l:List StepV):Prop :=
 l=[]\/∃b off,a=some ⟨b,off,none⟩/\lo<=b/\b<hi/\∀i (h:i<l.length),pq w lo hi b (off+i * 4) l[i]
theorem je.at {w:World} {lo hi:Nat} {a:Option Addr} {l:List StepV} (h:je w lo hi a l) (i:Nat) (hi':i<l.length) :
 ∃b off,a=some ⟨b,off,none⟩/\lo<=b/\b<hi/\pq w lo hi b (off+i * 4) l[i]:=by
 rcases h with h|⟨b,off,ha,hb,hb',hr⟩
 . rw [h] at hi';simp at hi'
 . exact ⟨b,off,ha,hb,hb',hr i hi'⟩
theorem je.carry {w w':World} {lo hi lo' hi':Nat} {a:Option Addr} {l:List StepV} (h:je w lo hi a l) (c:lo'<=lo) (d:hi<=hi') (e:∀b,lo<=b->b<hi->w'.heap[b]?=w.heap[b]?):je w' lo' hi' a l:=by
 rcases h with h|⟨b,off,ha,hb,hb',hr⟩
 . exact .inl h
 . exact .inr ⟨b,off,ha,by omega,by omega,fun i hi=>(hr i hi).carry c d hb hb' e⟩
theorem je.below {w w':World} {lo hi lo' hi' B:Nat} {a:Option Addr} {l:List StepV} (h:je w lo hi a l) (e:Below B w w') (f:hi<=B) (c:lo'<=lo) (d:hi<=hi'):je w' lo' hi' a l :=
 h.carry c d fun b _ hlt=>e.block b (by omega)
theorem xc.steps {T B:Nat} {w:World} {a:Option Addr} {n c:Nat} {A:List vl} {S:List StepV} (h:xc T B w (.slice a n c) A) (z:A.map (·.1)=S):je w B w.heap.size a S:=by
 by_cases h0:S=[]
 . exact .inl h0
 . obtain ⟨g,f,j,x,hi,e,p,d,-⟩:=h.at z 0 (M2.2 h0);refine .inr ⟨g,0,e,p,d,fun i hi=>?_⟩;obtain ⟨y,f,j,x,q,b,-,-,-,k,l,m,o,s,u,v,-,r⟩:=h.at z i hi;rw [e] at b;cases b;rw [N6];exact ⟨f,j,k,l,m,o,s,r.1.carry u v (fun _ _ _=>rfl)⟩
def dr (l:List ByteArray) (lo:Nat) (w:World) (x:Value):Prop:=∃a c,x=.slice a l.length c/\l.length<=c/\xT w lo w.heap.size a l
def MP.strsW (l:List ByteArray) (lo:Nat):MP:=⟨dr l lo,fun _ _ _ hb ⟨a,c,e,h1,h2⟩=>⟨a,c,e,h1,h2.below hb lz lz hb.size⟩⟩
def da (t:Int) (l:List ByteArray) (lo:Nat) (w:World) (x:Value):Prop:=∃a c,x=.agg #[.int .i64 t,.slice a l.length c]/\l.length<=c/\xT w lo w.heap.size a l
def MP.authW (t:Int) (l:List ByteArray) (lo:Nat):MP:=⟨da t l lo,fun _ _ _ hb ⟨a,c,e,h1,h2⟩=>⟨a,c,e,h1,h2.below hb lz lz hb.size⟩⟩
theorem wf (t:Int) (ids:List ByteArray) (ia:Option Addr) (ic lo:Nat) (w:World) (a0:lo<=w.heap.size) (hI:qy w 0 w.heap.size ia ids) (hl:ids.length<=4294967296) :
 Calls Tryz.prog 76 #[.agg #[.int .i64 t,.slice ia ids.length ic]] w fun e w'=>∃y,e=.returned y/\da t ids lo w' y/\O5 w w':=by
 obtain ⟨W,o⟩:=O1 ((w.alloc (.cells #[.int .i64 t,.slice ia ids.length ic] 31)).alloc (.cells #[.int .i64 0,.slice none 0 0] 31));have p:O5 w W:=by rw [o];exact (O4).alloc (by simp) _
 have L:W.heap[w.heap.size]?=some (.cells #[.int .i64 t,.slice ia ids.length ic] 31 (0,0)):=by rw [o];exact ze w _ _
 have l:W.rowIs (w.heap.size+1) 31 2 (jW (.int .i64 0) (.slice none 0 0)):=(by have:=kF (w.alloc (.cells #[.int .i64 t,.slice ia ids.length ic] 31)) (.int .i64 0) (.slice none 0 0) 31;rw [show (w.alloc (.cells #[.int .i64 t,.slice ia ids.length ic] 31)).heap.size=w.heap.size+1 by simp,<- o] at this;exact this);have v:=U (show ∀w':World,O5 W w'->w'.cell? ⟨w.heap.size,0,none⟩=some (.int .i64 t)/\w'.cell? ⟨w.heap.size,1,none⟩=some (.slice ia ids.length ic) from fun w' h=>by
  have y:=(h.block _ (qz L)).trans L;exact ⟨qq y rfl,qq y rfl⟩)
 have D:=U (show ∀w':World,O5 W w'->Calls Tryz.prog 103 #[.slice ia ids.length ic] w' (fun e A=>∃y,e=.returned y/\dr ids W.heap.size A y/\O5 w' A) from fun w' h=>by
  refine (mL ids ia ic w' w'.heap.size (hI.below (p.trans (h.mono p.size)) lz lz (Z5 p.size h.size)) hl).mono ?_;rintro e A ⟨a,c,rfl,Q,R,X⟩;exact ⟨_,rfl,⟨a,c,rfl,Q,R.carry h.size lz (fun _ _ _=>rfl)⟩,X⟩)
 have m:=U l;have M:=U p;have P:=O0 (w.heap.size+2<=W.heap.size) l.lt;have N:=U o;clear o p L l hI hl;obtain ⟨x,z⟩:=v.o W (Z0 _ _);go_enter Tryz.func76,Tryz.ntmps76;go_upto_region 1 with fail
 rw [<- N.o];clear N x z;obtain ⟨V,S⟩:∃V:List MP,V=[.con (.pointer (some ⟨w.heap.size,0,none⟩)),.con (.int .i64 t),.con (.pointer (some ⟨w.heap.size,1,none⟩)),.con (.slice ia ids.length ic),.strsW ids W.heap.size]:=⟨_,rfl⟩;have g:=U S;clear S;refine qM 5 (fun d G w'=>∃x3 x4 x5 x6 x7,G=⟨#[.agg #[.int .i64 t,.slice ia ids.length ic],.pointer (some ⟨w.heap.size,0,none⟩),.pointer (some ⟨w.heap.size+1,0,none⟩),x3,x4,x5,x6,x7,undef],[]⟩/\za W V d w' [x3,x4,x5,x6,x7]) (by kernel_rfl) (by kernel_rfl) ?first ?step ?last
 case first=>exact ⟨_,_,_,_,_,rfl,za.first _ _ _ (by rw [g.o];rfl)⟩
 case step =>
  rintro d G w' ⟨x3,x4,x5,x6,x7,rfl,h⟩ q hq hn J;rcases q with _|_|_|_|_|q
  . refine Z3 rfl fun K hK=>?_;go_simp;exact hK _ _ ⟨_,_,_,_,_,rfl,h.sameC 0 _ g rfl⟩
  . obtain rfl:=h.cn J g 0 .data;obtain ⟨x,z⟩:=v.o w' h.1;refine Z3 rfl fun K hK=>?_;go_simp;exact hK _ _ ⟨_,_,_,_,_,rfl,h.sameC 1 _ g rfl⟩
  . refine Z3 rfl fun K hK=>?_;go_simp;exact hK _ _ ⟨_,_,_,_,_,rfl,h.sameC 2 _ g rfl⟩
  . obtain rfl:=h.cn J g 2 .data;obtain ⟨x,z⟩:=v.o w' h.1;refine Z3 rfl fun K hK=>?_;go_simp;exact hK _ _ ⟨_,_,_,_,_,rfl,h.sameC 3 _ g rfl⟩
  . obtain rfl:=h.cn J g 3 .data;obtain ⟨x,z⟩:=v.o w' h.1;refine Z3 rfl fun K hK=>?_;go_simp;refine (D.o w' h.1).mono ?_;rintro e A ⟨y,rfl,Y,H⟩;exact hK _ _ ⟨_,_,_,_,_,rfl,h.did H 4 _ (.strsW ids W.heap.size) (by rw [g.o];rfl) Y⟩
  . omega
 case last => rintro d G w' j ⟨x3,x4,x5,x6,x7,rfl,h⟩;have s:=h.1;obtain rfl:=h.con 1 (j _ (by omega)) g rfl rfl;have I:=h.get 4 (j _ (by omega)) (.strsW ids W.heap.size) (by rw [g.o];rfl) _ rfl;have E:=U s;clear h j s g;have k:=E.o;obtain ⟨a,c,rfl,r,u⟩:=I;have f:=qw k m.o m.o.lt;have F:=U f;have T:=U u;have C:=U r;have B:=U (O2 M k);have Z:=f.cell (i:=0) (by decide);have t1:=f.cell (i:=1) (by decide);have s0:=f.frozen 0;have s1:=f.frozen 1;simp only [jW] at Z t1;simp only [List.drop_succ_cons,List.drop_zero];clear k u r f;go_wp2;refine Q3 (J2 Tryz.results76 _ _ (w.heap.size+1) 31 _ (0,0) _ rfl (zU (set2 _ _ F.o)) Tryz.underlying31 rfl (by kernel_rfl)) rfl ?_;refine ⟨_,rfl,⟨a,c,rfl,C.o,?_⟩,wl _ _ B.o (by omega)⟩;exact T.o.carry (by have:=P.o;omega) (X6 ir.symm) (fun b Q R=>aT _ _ (by have:=P.o;omega))
