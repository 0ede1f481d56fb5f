import Derived.Test.YthgembbgcbaghaaGreatDoorDg23
import GoSem.Conv.StringToRunes
set_option maxHeartbeats 2000000
set_option maxRecDepth 100000

namespace Go.Proofs.YthgembbgcbaghaaGreatDoor
open Go.RowKit
def mr (l:List JV) (w:World) (e:Ending) (w':World):Prop :=
 ∃ai ci,e=.returned (.agg #[.int .u8 4,.int .i64 0,.string ⟨#[]⟩,.slice none 0 0,.slice ai l.length ci])/\Rep w' w.heap.size w'.heap.size (zB l) (.agg #[.int .u8 4,.int .i64 0,.string ⟨#[]⟩,.slice none 0 0,.slice ai l.length ci])/\O5 w w'
theorem Zl (l:List JV) (a:Option Addr) (c lo:Nat) (w:World) (e9:0<lo) (hS:zm w lo w.heap.size a l) (hl:l.length<=4294967296) (f0:∀x ∈ l,x.wt<=4294967296) :
 Calls Tryz.prog 148 #[.slice a l.length c] w (mr l w):=by
 obtain ⟨W,Y⟩:=O1 ((w.alloc (.cells #[.int .u8 0,.int .i64 0,.string ⟨#[]⟩,.slice none 0 0,.slice none 0 0] 25)).alloc (.cells #[.int .u8 4,.int .i64 0,.string ⟨#[]⟩,.slice none 0 0,.slice none 0 0] 25));have K:(w.alloc (.cells #[.int .u8 0,.int .i64 0,.string ⟨#[]⟩,.slice none 0 0,.slice none 0 0] 25)).heap.size=w.heap.size+1:=by simp
 have L:W.heap.size=w.heap.size+2:=by rw [Y];simp
 have b4:O5 w W:=by rw [Y];exact (O4).alloc (by simp) _
 have b9:W.rowIs w.heap.size 25 5 (qZ (.int .u8 0) (.int .i64 0) (.string ⟨#[]⟩) (.slice none 0 0) (.slice none 0 0)):=by rw [Y];exact (qh w (.int .u8 0) (.int .i64 0) (.string ⟨#[]⟩) (.slice none 0 0) (.slice none 0 0) 25).alloc _
 have c0:W.rowIs (w.heap.size+1) 25 5 (qZ (.int .u8 4) (.int .i64 0) (.string ⟨#[]⟩) (.slice none 0 0) (.slice none 0 0)):=(by have:=qh (w.alloc (.cells #[.int .u8 0,.int .i64 0,.string ⟨#[]⟩,.slice none 0 0,.slice none 0 0] 25)) (.int .u8 4) (.int .i64 0) (.string ⟨#[]⟩) (.slice none 0 0) (.slice none 0 0) 25;rw [K,<- Y] at this;exact this);have HS:=U hS;have c3:=U e9;have d3:=U f0;have HW:=U Y;have a1:=U b4;have c6:=U b9;have a9:=U c0;have B:=U L;obtain ⟨Z,X⟩:=O1 l.length;have A:=U X;rw [<- X] at hl ⊢;clear hS e9 f0 Y b4 b9 c0 K L X;obtain ⟨i0,d7,e2,K,L⟩:=K9 xq;go_enter Tryz.func148,Tryz.ntmps148;go_upto_region 2 with fail
 rw [<- HW.o];clear HW;obtain ⟨z,T⟩:=O1 (w.heap.size+1);have Q:=U T;rw [<- T] at a9 ⊢;have b5:z<W.heap.size:=by have:=B.o;omega
 clear T;go_wp2;go_loopw [5,9] (fun _ i wr=>∃(k:Nat) (cs:List Value) (M:Value),k<=Z/\i=.int .i64 k/\Touch (· = z) W wr/\wr.rowIs z 25 5 (qZ (.int .u8 4) (.int .i64 0) (.string ⟨#[]⟩) (.slice none 0 0) M)/\wr.ownsRow W.heap.size 25 5 M k cs/\qU wr W.heap.size (fun b=>b=z\/M.ownBlock=some b) (l.take k) cs) (fun _ i _=>Z - (intOf i).toNat)
 case atStart=>exact ⟨0,[],.slice none 0 0,by omega,rfl,Touch.refl _ _,a9.o,W8 _ _ _ _,by simpa using qU.nil _ _ _⟩
 case round =>
  obtain ⟨k,cs,M,hk,rfl,f,d,h,E⟩:=hrel;by_cases hlt2:k<Z
  . have C:k<l.length:=by rw [<- A.o];exact hlt2
    have HB:Hid (O5 w wr):=a1.o.trans (f.below (by have:=B.o;omega) fun j hj e=>by have:=Q.o;omega);obtain ⟨b,e8,G,I,F,H,rfl,_,hb,y0,y1,y2,y3,y4,m⟩:=(HS.o.below HB.o lz lz lz).get k C;have e1:=d3.o l[k] (X6 C);have d1:=O0 (l.take (k+1)=l.take k ++ [l[k]]) (J7 C);have c7:=U m;clear m;have c4:wr.cell? ⟨z,4,none⟩=some M:=d.cell (by omega);have f4:wr.frozen? ⟨z,4,none⟩=false:=d.frozen 4;have V:z<wr.heap.size:=d.lt;have e7:W.heap.size<=wr.heap.size:=f.size;have b6:some z≠M.ownBlock:=fun e=>by have:=(h.lt _ e.symm).1;omega
    have b2:=U d;have b3:=U f;have HO:=U h;have b1:=U E;clear d f h E;generalize l[k]=it at *;have a3:=U (show Calls Tryz.prog 91 #[.agg #[.int .u8 it.kind,.int .i64 it.n,.string it.t,.slice G it.names.length I,.slice F it.items.length H]] ((wr.alloc (.cells #[.int .u8 it.kind,.int .i64 it.n,.string it.t,.slice G it.names.length I,.slice F it.items.length H] 25)).drew) (fun e y=>∃p r o q,e=.returned (.agg #[.int .u8 it.kind,.int .i64 it.n,.string it.t,.slice p it.names.length r,.slice o it.items.length q])/\Rep y (wr.heap.size+1) y.heap.size it (.agg #[.int .u8 it.kind,.int .i64 it.n,.string it.t,.slice p it.names.length r,.slice o it.items.length q])/\Below (wr.heap.size+1) ((wr.alloc (.cells #[.int .u8 it.kind,.int .i64 it.n,.string it.t,.slice G it.names.length I,.slice F it.items.length H] 25)).drew) y/\wr.heap.size<y.heap.size/\y.cell? ⟨z,4,none⟩=some M/\y.frozen? ⟨z,4,none⟩=false/\y.ownsRow W.heap.size 25 5 M k cs) by
     refine (wE it _ _ lo w.heap.size e1 (by have:=HB.o.size;simp;omega) (c7.o.below (O4).drew (by have:=HB.o.size;omega) lz lz) (fun _ _=>.inl c3.o)).mono ?_;rintro e y ⟨p,r,o,q,rfl,D,s⟩;have hz:((wr.alloc (.cells #[.int .u8 it.kind,.int .i64 it.n,.string it.t,.slice G it.names.length I,.slice F it.items.length H] 25)).drew).heap.size=wr.heap.size+1:=by simp
     rw [hz] at D s;have e0:=s.size;rw [hz] at e0;have R:O5 wr y:=(O4).drew.trans (s.mono (by omega));exact ⟨p,r,o,q,rfl,D,s,by omega,by rw [R.cell V];exact c4,by rw [R.frozen V];exact f4,qM HO.o R⟩)
    go_wp2_with fail
    go_region_law (first|(refine N5 _ (by rfl) (.tmp 14) (.tmp 17) 23 (by rfl) W.heap.size 25 i0 _ 5 80 N4 d7 e2 K L rfl (by omega) M k cs (by rfl) (a7.o.alloc _) ⟨y.heap.size,0,none⟩ 1 1 (Array.toList #[.int .u8 it.kind,.int .i64 it.n,.string it.t,.slice p it.names.length r,.slice o it.items.length q]) (by rfl) (by rfl) (Y0 (cs:=#[.int .u8 it.kind,.int .i64 it.n,.string it.t,.slice p it.names.length r,.slice o it.items.length q]) (t:=25) (fr:=(0,0)) (J2 y _)) (by simp [Value.oneCell']) (by omega) (by unfold maxLen;omega) (by omega) (by simp;omega) (y.heap.size+1) (by simp) ?_;intro g cap w4 hown4 hgrow4 hat4 hlt4;have e4:=zb hgrow4 N b6 d4;have e6:=zn hgrow4 N b6 d5;have a8:=U hown4;have a4:=U hgrow4;have a0:=U hat4;clear hown4 hgrow4 hat4)|(go_simp;go_at_call 91;(with_reducible refine a3.o.mono ?_);rintro e y ⟨p,r,o,q,rfl,D,s,e3,d4,d5,b7⟩;have N:z<y.heap.size:=ze0 V e3;have a7:=U b7;have b0:=U D;have a2:=U s;clear b7 D s))
    all_goals
     have d0:=U (row_step (j:=4) b5 b3.o b2.o HO.o b1.o a2.o b0.o a4.o a0.o a8.o);clear b3 b2 HO b1 a2 b0 a4 a0 a8 a7 a3;go_wp2;go_roundw
     case rel => obtain ⟨z1,z2,z3,z4⟩:=d0.o;refine ⟨k+1,_,_,by omega,by go_num,z1,z2.congr fun i hi=>?_,z3,by rw [d1.o];exact z4⟩;rcases i with _|_|_|_|_|i <;> first|rfl|omega
     case measure=>simp [intOf];omega
  . obtain rfl:k=Z:=by omega
    have P:l.take k=l:=by rw [X2 (by rw [<- A.o];exact J9 _)]
    rw [P] at E;have J:l.length=k:=A.o.symm;obtain ⟨a5,c5,rfl,S,c1⟩:=zN h E J.symm;rw [J] at S d;have d2:=U c1;have c2:=U S;have a6:=U J;have u:=(f.row c6.o (by have:=Q.o;omega));obtain ⟨r0,r1,r2,r3,r4⟩:=rc5 d;obtain ⟨t0,t1,t2,t3,t4⟩:=rc5 u;obtain ⟨s0,s1,s2,s3,s4⟩:=rf5 u;simp only [qZ] at r0 r1 r2 r3 r4 t0 t1 t2 t3 t4;have HT:=U f;have c9:=U u;clear d u h E c1 f P S J;go_wp2;refine X4 (Y7 Tryz.results148 _ _ w.heap.size 25 _ (0,0) _ rfl (qr (set5 _ _ _ _ _ c9.o)) X8 rfl (by kernel_rfl)) rfl ?_;have d6:O5 w wr:=a1.o.trans (HT.o.below (by have:=B.o;omega) fun j hj e=>by have:=Q.o;omega);refine ⟨a5,c5,by rw [<- A.o],?_,zj _ _ _ _ _ d6 lz⟩;rw [<- A.o];have m:=Rep.mk (v:=zB l) (an:=none) (cn:=0) (ai:=a5) (ci:=c5) (w:=wr) (lo:=W.heap.size) (hi:=wr.heap.size) lz (by show l.length<=c5;rw [a6.o];exact c2.o) (.inl rfl) d2.o;have e5:(zB l).items.length=k:=a6.o;rw [e5] at m;exact Rep.carry (by have:=B.o;omega) (show wr.heap.size<=_ by simp [World.setCell]) (fun j hj _=>jm _ _ _ _ _ (by have:=B.o;omega)) _ _ m
theorem ya:∀(l:List DelegV) (k:Nat) (h:k<l.length),((l.take k).any fun y=>decide (y.name=l[k].name))=true->xZ l=false
 | [],k,h,_=>by simp at h
 | x :: r,0,h,hb=>by simp at hb
 | x :: r,k+1,h,hb=>by
  rw [G7,List.any_cons,M9,Bool.or_eq_true] at hb;unfold xZ;rcases hb with hb|hb
  . have:(r.any fun y=>decide (y.name=x.name))=true:=by
     rw [zd4];exact ⟨r[k]'(by simpa using h),X6 _,by rw [J6] at hb ⊢;exact hb.symm⟩
    rw [this];rfl
  . rw [ya r k (by simpa using h) hb,N1]
theorem gQ:∀(l:List DelegV),(∀k (h:k<l.length),((l.take k).any fun y=>decide (y.name=l[k].name))=false)->xZ l=true
 | [],_=>rfl
 | x :: r,h=>by unfold xZ;have h1:(r.any fun y=>decide (y.name=x.name))=false:=(by rw [List.any_eq_false];intro y hy;obtain ⟨k,a,rfl⟩:=V4 hy;have:=h (k+1) (by simpa using a);rw [G7,List.any_cons,M9,Bool.or_eq_false_iff] at this;have b:=this.1;rw [V1] at b;rw [J6];exact fun e=>b e.symm);rw [h1,Bool.not_false,Y1];refine gQ r fun k a=>?_;have:=h (k+1) (by simpa using a);rw [G7,List.any_cons,M9,Bool.or_eq_false_iff] at this;exact this.2
def zl (l:List DelegV):Bool:=decide (l.length<=64) && l.all qi && xZ l
theorem zU (d:DelegsV):xo d=(zy d.keys && (if q8 d.bins then zl d.roles else d.roles.isEmpty && q6 d.bins)):=rfl
theorem yt {l:List DelegV} (h:¬l.length<=64):zl l=false:=by unfold zl;rw [J5 h];rfl
theorem gZ {l:List DelegV} {k:Nat} (h:k<l.length) (a:qi l[k]=false):zl l=false:=by unfold zl;rw [show l.all qi=false from zc6.2 ⟨l[k],X6 _,by simp [a]⟩,N1,V8]
theorem wF {l:List DelegV} {k:Nat} (h:k<l.length) (a:((l.take k).any fun y=>decide (y.name=l[k].name))=true):zl l=false:=by unfold zl;rw [ya l k h a,N1]
theorem pj {l:List DelegV} (h:l.length<=64) (b:∀k (h:k<l.length),qi l[k]=true) (c:∀k (h:k<l.length),((l.take k).any fun y=>decide (y.name=l[k].name))=false):zl l=true:=by unfold zl;rw [X0 h,gQ l c,show l.all qi=true from K7.2 fun x hx=>by obtain ⟨k,a,rfl⟩:=V4 hx;exact b k a];rfl
def mt (v:JV) (w:World) (e:Ending) (w':World):Prop :=
 e=.returned (.tuple #[.agg #[.string (ze v).1.1,.string (ze v).1.2],.int .i64 (ze v).2])/\O5 w w'
theorem keyOf (v:JV) (x:Value) (w:World) (lo hi:Nat) (hN:v.wt<=4294967296) (e7:hi<=w.heap.size) (hR:Rep w lo hi v x) (hS:v.mayB=true->v.kind=5->∀k (h:k<v.items.length),dc lo v.items[k]) :
 Calls Tryz.prog 117 #[x] w (mt v w):=by
 obtain ⟨E,G,D,F,hx,h1,h2,h3,h4⟩:=hR.parts;have HR:=U hR;have HS:=U hS;clear h1 h2 h3 h4 hR hS;subst hx;have A:=O0 (O5 w ((w.alloc (.cells #[.int .u8 v.kind,.int .i64 v.n,.string v.t,.slice E v.names.length G,.slice D v.items.length F] 25)).alloc (.cells #[.string ⟨#[]⟩,.string ⟨#[]⟩] 43))) ((O4).alloc (by simp) _);have a1:=U (show ((w.alloc (.cells #[.int .u8 v.kind,.int .i64 v.n,.string v.t,.slice E v.names.length G,.slice D v.items.length F] 25)).alloc (.cells #[.string ⟨#[]⟩,.string ⟨#[]⟩] 43)).heap[w.heap.size]?=some (.cells #[.int .u8 v.kind,.int .i64 v.n,.string v.t,.slice E v.names.length G,.slice D v.items.length F] 25 (0,0)) by rw [Y4 _ _ _ (by simp)];exact J2 w _);have b0:=vW (w.alloc (.cells #[.int .u8 v.kind,.int .i64 v.n,.string v.t,.slice E v.names.length G,.slice D v.items.length F] 25)) (.string ⟨#[]⟩) (.string ⟨#[]⟩) 43;rw [show (w.alloc (.cells #[.int .u8 v.kind,.int .i64 v.n,.string v.t,.slice E v.names.length G,.slice D v.items.length F] 25)).heap.size=w.heap.size+1 by simp] at b0;have K:=U b0;clear b0;have Z:=U (vu v _ ((w.alloc (.cells #[.int .u8 v.kind,.int .i64 v.n,.string v.t,.slice E v.names.length G,.slice D v.items.length F] 25)).alloc (.cells #[.string ⟨#[]⟩,.string ⟨#[]⟩] 43)) hN (HR.o.below A.o e7 (X7 _) (by simp;omega)));cases hm:v.mayB
 . have z:=U (show ze v=((⟨#[]⟩,⟨#[]⟩),3) by unfold ze;rw [J8 hm]);rw [hm] at Z;clear hm;go_enter Tryz.func117,Tryz.ntmps117;go_wp2_with fail;refine Z.o.mono ?_;rintro e g ⟨rfl,b⟩;have a:=qj b K.o (by simp);have q:=U a;have p:=U (A.o.trans (b.mono (by simp;omega)));have R:=a.cell (i:=0) (by decide);have S:=a.cell (i:=1) (by decide);have s0:=a.frozen 0;have s1:=a.frozen 1;simp only [kV] at R S;clear a b;go_wp2;refine X4 (qk Tryz.results117 _ _ (w.heap.size+1) 43 _ (0,0) _ rfl (z7 (set2 _ _ q.o)) Tryz.underlying43 rfl (by kernel_rfl) _ rfl) rfl ⟨?_,yQ _ _ p.o (by omega)⟩;rw [z.o];rfl
 . rw [hm] at Z;have J:=U hm;clear hm;by_cases hk:v.kind=5
   . obtain ⟨c9,c6,d2⟩:=sQ J.o hk;obtain ⟨d,s⟩:∃r,r=qm v xE ⟨[],0⟩:=⟨_,rfl⟩;obtain ⟨f,u⟩:∃r,r=qm v schN d.2:=⟨_,rfl⟩;obtain ⟨dn,a6⟩:∃r,r=qd v f.2:=⟨_,rfl⟩;have z:=U (show ze v=if dn≠0 then ((⟨#[]⟩,⟨#[]⟩),dn) else if zd f.1.data.toList d.1.data.toList then ((f.1,d.1),0) else ((⟨#[]⟩,⟨#[]⟩),3) by
      unfold ze;rw [J3 (by rw [J.o];simp),J3 (by simp [hk]),a6,u,s])
     obtain ⟨z1,z2⟩:=mv (y:=xE) (st:=⟨[],0⟩) hN;obtain ⟨z3,z4⟩:=mv (y:=schN) (st:=d.2) hN;rw [<- s] at z1 z2;rw [<- u] at z3 z4;simp only [zd9] at z2;have b6:=U s;have b7:=U u;have X:=U a6;have d5:=U c9;have d3:=U c6;have d6:=U d2;have HK:=U hk;clear s u a6 c9 c6 d2 hk;go_enter Tryz.func117,Tryz.ntmps117;go_wp2_with fail;refine Z.o.mono ?_;clear Z;rintro e g ⟨rfl,b⟩;have d7:w.heap.size+2<=g.heap.size:=by have:=b.size;simp at this;omega
     have p:=U (A.o.trans (b.mono (by simp;omega)));have L:=U (qj b K.o (by simp));have c:g.heap[w.heap.size]?=some (.cells #[.int .u8 v.kind,.int .i64 v.n,.string v.t,.slice E v.names.length G,.slice D v.items.length F] 25 (0,0)):=by rw [b.block _ (by simp;omega)];exact a1.o
     have c0:=qq c (j:=0) rfl;have c1:=qq c (j:=1) rfl;have c2:=qq c (j:=2) rfl;have c3:=qq c (j:=3) rfl;have c4:=qq c (j:=4) rfl;have b3:=U (bI v _ g lo hi hN (by omega) (HR.o.below p.o e7 lz lz) HK.o d5.o d3.o (HS.o J.o HK.o));clear b c;go_wp2_with fail;refine b3.o.mono ?_;clear b3 c0 c1 c2 c3 c4 HR HS a1 A K;rintro e w2 ⟨o,m,b2,a7,a3,a2,a5,a4,rfl,C,c7,e2,j⟩;have b9:=U (bw o m b2 a7 v a3 a2 a5 a4 xE ⟨[],0⟩ w2 C (by decide) (by simp));have M:=U (qj j L.o (by omega));have e4:=j.size;have B:=U (p.o.trans (j.mono (by omega)));clear C j L p;go_wp2_with fail;refine b9.o.mono ?_;clear b9;rintro e w3 ⟨rfl,a8,P⟩;rw [<- b6.o] at a8 ⊢;have c5:=U (bw o m b2 a7 v a3 a2 a5 a4 schN d.2 w3 a8 (by decide) (by omega));have e5:=P.size;have b4:=U (P.row M.o (by omega));have H:=U (B.o.trans (P.below (by omega) fun k hk e=>by omega));clear a8 P M B;go_wp2_with fail;refine c5.o.mono ?_;clear c5;rintro e w4 ⟨rfl,a9,Q⟩;rw [<- b7.o] at a9 ⊢;have e6:=Q.size;have b5:=U (Q.row b4.o (by omega));have T:=U (H.o.trans (Q.below (by omega) fun k hk e=>by omega));have Y:=U (mq o m b2 a7 v a3 a2 a5 a4 f.2 (w4.alloc (.cells #[.string f.1,.string d.1] 43)) (a9.below O4) (fun i hi=>by
      have:=K7.1 d6.o _ (X6 hi);unfold qe at this;simp at this;omega))
     rw [<- X.o] at Y;clear a9 Q b4 H;go_wp2_with fail;refine Y.o.mono ?_;clear Y;rintro e w5 ⟨rfl,rfl⟩;have N:=U (b5.o.alloc (.cells #[.string f.1,.string d.1] 43));have V:=U (T.o.alloc T.o.size (.cells #[.string f.1,.string d.1] 43));clear b5 T;by_cases hd:dn=0
     . rw [hd] at z ⊢;simp only [ne_eq,not_true_eq_false,zf1] at z;clear hd X;have I:=U (rU f.1 d.1 (w4.alloc (.cells #[.string f.1,.string d.1] 43)) (by omega) (by omega));cases hko:zd f.1.data.toList d.1.data.toList
       . rw [hko] at I z;clear hko;go_wp2_with fail;refine I.o.mono ?_;rintro e w6 ⟨rfl,l⟩;have a:=qj l N.o (by simp;omega);have q:=U a;have W:=U (V.o.trans (l.mono (by simp;omega)));have R:=a.cell (i:=0) (by decide);have S:=a.cell (i:=1) (by decide);have s0:=a.frozen 0;have s1:=a.frozen 1;simp only [kV] at R S;clear a l;go_wp2;refine X4 (qk Tryz.results117 _ _ (w.heap.size+1) 43 _ (0,0) _ rfl (z7 (set2 _ _ q.o)) Tryz.underlying43 rfl (by kernel_rfl) _ rfl) rfl ⟨?_,yQ _ _ W.o (by omega)⟩;rw [z.o];rfl
       . rw [hko] at I z;clear hko;go_wp2_with fail;refine I.o.mono ?_;rintro e w6 ⟨rfl,l⟩;have a:=qj l N.o (by simp;omega);have b1:w6.heap[w4.heap.size]?=some (.cells #[.string f.1,.string d.1] 43 (0,0)):=by rw [l.block _ (by simp)];exact J2 _ _
         have d0:=qq b1 (j:=0) rfl;have d1:=qq b1 (j:=1) rfl;have q:=U a;have W:=U (V.o.trans (l.mono (by simp;omega)));have R:=a.cell (i:=0) (by decide);have S:=a.cell (i:=1) (by decide);have s0:=a.frozen 0;have s1:=a.frozen 1;simp only [kV] at R S;clear a l b1;go_wp2;refine X4 (qk Tryz.results117 _ _ (w.heap.size+1) 43 _ (0,0) _ rfl (z7 (set2 _ _ q.o)) Tryz.underlying43 rfl (by kernel_rfl) _ rfl) rfl ⟨?_,yQ _ _ W.o (by omega)⟩;rw [z.o];rfl
     . rw [J8 hd] at z;have e0:(dn == 0)=false:=by simpa using hd
       have e1:(dn != 0)=true:=by simpa using hd
       have a:=N.o;have R:=a.cell (i:=0) (by decide);have S:=a.cell (i:=1) (by decide);have s0:=a.frozen 0;have s1:=a.frozen 1;simp only [kV] at R S;clear a hd X;go_wp2;refine X4 (qk Tryz.results117 _ _ (w.heap.size+1) 43 _ (0,0) _ rfl (z7 (set2 _ _ N.o)) Tryz.underlying43 rfl (by kernel_rfl) _ rfl) rfl ⟨?_,yQ _ _ V.o (by omega)⟩;rw [z.o];rfl
   . have z:=U (show ze v=((⟨#[]⟩,⟨#[]⟩),10) by unfold ze;rw [J3 (by rw [J.o];simp),J8 hk]);have HK:=U hk;clear hk;go_enter Tryz.func117,Tryz.ntmps117;go_wp2_with fail;refine Z.o.mono ?_;clear Z;rintro e g ⟨rfl,b⟩;have d7:w.heap.size+2<=g.heap.size:=by have:=b.size;simp at this;omega
     have p:=U (A.o.trans (b.mono (by simp;omega)));have L:=U (qj b K.o (by simp));have c:g.heap[w.heap.size]?=some (.cells #[.int .u8 v.kind,.int .i64 v.n,.string v.t,.slice E v.names.length G,.slice D v.items.length F] 25 (0,0)):=by rw [b.block _ (by simp;omega)];exact a1.o
     have c0:=qq c (j:=0) rfl;have c1:=qq c (j:=1) rfl;have c2:=qq c (j:=2) rfl;have c3:=qq c (j:=3) rfl;have c4:=qq c (j:=4) rfl;clear b c;go_wp2_with fail;refine (fJ v.kind v.n v.t _ _ g HK.o).mono ?_;clear c0 c1 c2 c3 c4;rintro e w2 ⟨o,rfl,e3,c7,C,j⟩;have a0:=U C;have M:=U (qj j L.o (by omega));have B:=U (p.o.trans (j.mono (by omega)));clear C j;go_wp2_with fail;refine (cQ o 10 _ w2 a0.o).mono ?_;rintro e w3 ⟨rfl,rfl⟩;go_wp2_with fail;refine (cQ o 10 _ w2 a0.o).mono ?_;rintro e w3 ⟨rfl,rfl⟩;have d4:=U (a0.o.below ((J0 _ _).alloc lz (.cells #[.string ⟨#[]⟩,.string ⟨#[]⟩] 43)) c7);obtain ⟨p1,p2,kk,p3⟩:=d4.o;have HD:=U (cZ o 10 kk _ p1 p2 p3);clear p1 p2 p3;go_wp2_with fail;refine HD.o.mono ?_;rintro e w3 ⟨rfl,rfl⟩;have a:=M.o.alloc (.cells #[.string ⟨#[]⟩,.string ⟨#[]⟩] 43);have q:=U a;have H:=U (B.o.alloc B.o.size (.cells #[.string ⟨#[]⟩,.string ⟨#[]⟩] 43));have R:=a.cell (i:=0) (by decide);have S:=a.cell (i:=1) (by decide);have s0:=a.frozen 0;have s1:=a.frozen 1;simp only [kV] at R S;clear a;go_wp2;refine X4 (qk Tryz.results117 _ _ (w.heap.size+1) 43 _ (0,0) _ rfl (z7 (set2 _ _ q.o)) Tryz.underlying43 rfl (by kernel_rfl) _ rfl) rfl ⟨?_,yQ _ _ H.o (by omega)⟩;rw [z.o];rfl
open Go.WideMaps Go.Maps
theorem gX {α:Type} {f:α->Bool} {l:List α} {k:Nat} (a:k<l.length) (h:f l[k]=false):l.all f=false:=zc6.2 ⟨_,X6 a,by rw [h];decide⟩
theorem pP {α:Type} {f:α->Bool} {l:List α} {n:Nat} (b:l.length<=n) (h:∀j (a:j<l.length),j<n->f l[j]=true):l.all f=true:=by rw [K7];intro x hx;obtain ⟨j,a,rfl⟩:=V4 hx;exact h j a (by omega)
theorem uV (l:List ByteArray) (a:Option Addr) (c:Nat) (w:World) (W:qv w 0 w.heap.size a l) (Y:l.length<=4294967296) (X:∀s ∈ l,s.size<=4294967296) :
 Calls Tryz.prog 137 #[.slice a l.length c,.func (.func (138:Nat)) #[] #[]] w fun e w'=>e=.returned (.bool (decide (l.length<=32) && l.all qG))/\O5 w w':=by
 have J:=U W;have K:=U X;clear W X;obtain ⟨n,F⟩:=O1 l.length;have G:=U F;rw [<- F] at Y ⊢;clear F;obtain ⟨V,E⟩:=O1 ((decide (n<=32) && l.all qG));have z:=U E;rw [<- E];clear E;by_cases h32:32<n
 . rw [J5 (by omega),V8] at z;have L:decide (32<(n:Int))=true:=by rw [J6];omega
   go_enter Tryz.func137,Tryz.ntmps137;go_wp2;go_ret;exact ⟨qz z.o.symm,J0 _ _⟩
 have L:decide (32<(n:Int))=false:=by rw [V1];omega
 rw [X0 (by omega),Y1] at z;go_enter Tryz.func137,Tryz.ntmps137;go_wp2;go_loopw [6,12] (fun _ i wr=>∃k:Nat,k<=n/\i=.int .i64 k/\(∀j (h:j<l.length),j<k->qG l[j]=true)/\O5 w wr) (fun _ i _=>n - (intOf i).toNat)
 case atStart=>exact ⟨0,by omega,rfl,fun j _ h=>by omega,J0 _ _⟩
 case round =>
  obtain ⟨k,R,rfl,B,A⟩:=hrel;have v:=U B;have d:=U A;clear B A;by_cases hlt:k<n
  . have r:k<l.length:=by rw [<- G.o];exact hlt
    obtain ⟨b,o,N,-,u,M⟩:=(J.o.below d.o lz lz lz).at k r;subst N;have S:(0:Int)<=(k:Int):=by omega
    have T:(k:Int)<(n:Int):=by omega
    have P:decide ((k:Int)<(n:Int))=true:=by simpa using hlt
    have g:=U (gX (f:=qG) r);have p:=U (show qG l[k]=true->∀j (h:j<l.length),j<k+1->qG l[j]=true from fun h0 j hj hjk=>by
     rcases V5.1 hjk with h1|h1
     . exact v.o j hj h1
     . subst h1;exact h0)
    have C:=K.o l[k] (X6 r);obtain ⟨q,H⟩:=O1 (l[k]);rw [<- H] at M g p C;have D:=U (fun w=>px q w (by omega));obtain ⟨y,I⟩:=O1 (qG q);rw [<- I] at D g p;clear H I C;cases y with
    | false => have x:=U (z.o.trans (g.o rfl));go_wp2_with (go_at_call 138;refine (D.o _).mono ?_;rintro e Q ⟨rfl,u⟩;have m:=U u;clear u);go_ret;exact ⟨qz x.o.symm,d.o.trans (m.o.mono d.o.size)⟩
    | true =>
     have x:=U (p.o rfl);go_wp2_with (go_at_call 138;refine (D.o _).mono ?_;rintro e Q ⟨rfl,u⟩;have m:=U u;clear u);go_roundw
     case rel=>exact ⟨k+1,by omega,by go_num,x.o,d.o.trans (m.o.mono d.o.size)⟩
     case measure=>simp [intOf];omega
  . have P:decide ((k:Int)<(n:Int))=false:=by simpa using hlt
    have x:=U (z.o.trans (pP (f:=qG) (l:=l) (n:=k) (by rw [<- G.o];omega) v.o));go_wp2;go_ret;exact ⟨qz x.o.symm,d.o⟩
theorem cH (l:List ByteArray) (a:Option Addr) (c:Nat) (w:World) (T:qv w 0 w.heap.size a l) (X:l.length<=4294967296) (W:∀s ∈ l,s.size<=4294967296) :
 Calls Tryz.prog 137 #[.slice a l.length c,.func (.func (139:Nat)) #[] #[]] w fun e w'=>e=.returned (.bool (decide (l.length<=32) && l.all preB))/\O5 w w':=by
 have H:=U T;have I:=U W;clear T W;obtain ⟨n,D⟩:=O1 l.length;have E:=U D;rw [<- D] at X ⊢;clear D;obtain ⟨V,C⟩:=O1 ((decide (n<=32) && l.all preB));have v:=U C;rw [<- C];clear C;by_cases h32:32<n
 . rw [J5 (by omega),V8] at v;have J:decide (32<(n:Int))=true:=by rw [J6];omega
   go_enter Tryz.func137,Tryz.ntmps137;go_wp2;go_ret;exact ⟨qz v.o.symm,J0 _ _⟩
 have J:decide (32<(n:Int))=false:=by rw [V1];omega
 rw [X0 (by omega),Y1] at v;go_enter Tryz.func137,Tryz.ntmps137;go_wp2;go_loopw [6,12] (fun _ i wr=>∃k:Nat,k<=n/\i=.int .i64 k/\(∀j (h:j<l.length),j<k->preB l[j]=true)/\O5 w wr) (fun _ i _=>n - (intOf i).toNat)
 case atStart=>exact ⟨0,by omega,rfl,fun j _ h=>by omega,J0 _ _⟩
 case round =>
  obtain ⟨k,Q,rfl,z,x⟩:=hrel;have r:=U z;have g:=U x;clear z x;by_cases hlt:k<n
  . have p:k<l.length:=by rw [<- E.o];exact hlt
    obtain ⟨b,o,L,-,P,K⟩:=(H.o.below g.o lz lz lz).at k p;subst L;have R:(0:Int)<=(k:Int):=by omega
    have S:(k:Int)<(n:Int):=by omega
    have M:decide ((k:Int)<(n:Int))=true:=by simpa using hlt
    have d:=U (gX (f:=preB) p);have m:=U (show preB l[k]=true->∀j (h:j<l.length),j<k+1->preB l[j]=true from fun h0 j hj hjk=>by
     rcases V5.1 hjk with h1|h1
     . exact r.o j hj h1
     . subst h1;exact h0)
    have A:=I.o l[k] (X6 p);obtain ⟨q,F⟩:=O1 (l[k]);rw [<- F] at K d m A;have B:=U (fun w=>oB q w (by omega));obtain ⟨y,G⟩:=O1 (preB q);rw [<- G] at B d m;clear F G A;cases y with
    | false => have u:=U (v.o.trans (d.o rfl));go_wp2_with (go_at_call 139;refine (B.o _).mono ?_;rintro e N ⟨rfl,rfl⟩);go_ret;exact ⟨qz u.o.symm,g.o⟩
    | true =>
     have u:=U (m.o rfl);go_wp2_with (go_at_call 139;refine (B.o _).mono ?_;rintro e N ⟨rfl,rfl⟩);go_roundw
     case rel=>exact ⟨k+1,by omega,by go_num,u.o,g.o⟩
     case measure=>simp [intOf];omega
  . have M:decide ((k:Int)<(n:Int))=false:=by simpa using hlt
    have u:=U (v.o.trans (pP (f:=preB) (l:=l) (n:=k) (by rw [<- E.o];omega) r.o));go_wp2;go_ret;exact ⟨qz u.o.symm,g.o⟩
def kr (s:ByteArray):Nat->Nat->List Int
 | 0,_=>[]
 | n+1,i=>if i<s.size then Int.ofNat (Utf8.decode s i).1 :: kr s n (i+(Utf8.decode s i).2) else []
def runes (s:ByteArray):List Int:=kr s s.size 0
theorem gJ (s:ByteArray):∀(n i:Nat) (acc:Array Value),Conv.runesFrom s n i acc=acc ++ ((kr s n i).map (Value.int .i32)).toArray
 | 0,i,acc=>by simp [Conv.runesFrom,kr]
 | n+1,i,acc=>by
  rw [Conv.runesFrom,kr];split
  . show Conv.runesFrom s n (i+(Utf8.decode s i).2) (acc.push (.int .i32 (Int.ofNat (Utf8.decode s i).1)))=_;rw [gJ s n];simp
  . simp
theorem kT (s:ByteArray):Conv.runesFrom s s.size 0 #[]=((runes s).map (Value.int .i32)).toArray:=by rw [gJ];simp [runes]
theorem mi (s:ByteArray):∀(n i:Nat),(kr s n i).length<=n
 | 0,_=>J9 _
 | n+1,i=>by
  rw [kr];split
  . have:=mi s n (i+(Utf8.decode s i).2);simp only [N3];omega
  . exact X7 _
theorem bZ (s:ByteArray):(runes s).length<=s.size:=mi s _ _
theorem hQ (l:List Int) (a:Array Value) {i:Nat} (hi:i<l.length):((l.map (Value.int .i32)).toArray ++ a)[i]?=some (.int .i32 (l.getD i 0)):=by rw [Array.getElem?_append_left (by simpa using hi)];simp [hi]
theorem nt (p s:ByteArray) (w:World) (hp:p.size<=9223372036854775807) (hs:s.size<=9223372036854775807) :
 Calls Tryz.prog 311 #[.string p,.string s] w fun e w'=>e=.returned (.bool (xk runes p s))/\O5 w w':=by
 have C:=U (fun w=>px p w hp);have G:=U (fun w=>ge s w hs);have q:=O0 (xk runes p s=(qG p && qG s && pO (runes p) (runes s))) rfl;have r:=O0 (qG p=true->p.size<=256) (fun h=>by unfold qG at h;simp only [X3,J6] at h;exact h.1.1.2);have u:=O0 (qG s=true->s.size<=256) (fun h=>by unfold qG at h;simp only [X3,J6] at h;exact h.1.1.2);obtain ⟨v,y⟩:∃b,b=qG p:=⟨_,rfl⟩;obtain ⟨x,z⟩:∃b,b=qG s:=⟨_,rfl⟩;rw [<- y] at C q r;rw [<- z] at G q u;clear y z;cases v
 . go_enter Tryz.func311,Tryz.ntmps311;go_wp2_with (go_at_call 138;refine (C.o _).mono ?_;rintro e w' ⟨rfl,a⟩;have m:=U a;clear a);go_ret;exact ⟨qz q.o.symm,m.o⟩
 cases x
 . go_enter Tryz.func311,Tryz.ntmps311;go_wp2_with (first|(go_at_call 138;refine (C.o _).mono ?_;rintro e w' ⟨rfl,a⟩;have m:=U a;clear a)|(go_at_call 34;refine (G.o _).mono ?_;rintro e w' ⟨rfl,a⟩;have j:=U a;clear a));go_ret;exact ⟨qz q.o.symm,m.o.trans (j.o.mono m.o.size)⟩
 go_enter Tryz.func311,Tryz.ntmps311;go_upto_region 3 with (first|(go_at_call 138;refine (C.o _).mono ?_;rintro e Y ⟨rfl,a⟩;have m:=U a;clear a)|(go_at_call 34;refine (G.o _).mono ?_;rintro e k ⟨rfl,a⟩;have j:=U a;clear a))
 have S:(runes p).length<=256:=J1 (bZ p) (r.o (by simp));have T:(runes s).length<=256:=J1 (bZ s) (u.o (by simp));have J:(Conv.runesFrom p p.size 0 #[]).size=(runes p).length:=by rw [kT];simp
 have K:(Conv.runesFrom s s.size 0 #[]).size=(runes s).length:=by rw [kT];simp
 have H:=run_runes_of_string (P:=Tryz.prog) k 9 204 21 p Y6 Tryz.underlying204 Tryz.underlying21 (by rw [J];omega);rw [J] at H;obtain ⟨D,A⟩:∃g,g=grownCap k (runes p).length 0 21:=⟨_,rfl⟩;rw [<- A,kT] at H;obtain ⟨c,d⟩:∃W,W=k.drew.alloc (.cells (((runes p).map (Value.int .i32)).toArray ++ Array.replicate (D - (runes p).length) (.int .i32 0)) 21):=⟨_,rfl⟩;rw [<- d] at H;have I:=run_runes_of_string (P:=Tryz.prog) c 9 204 21 s Y6 Tryz.underlying204 Tryz.underlying21 (by rw [K];omega);rw [K] at I;obtain ⟨E,B⟩:∃g,g=grownCap c (runes s).length 0 21:=⟨_,rfl⟩;rw [<- B,kT] at I;obtain ⟨l,f⟩:∃W,W=c.drew.alloc (.cells (((runes s).map (Value.int .i32)).toArray ++ Array.replicate (E - (runes s).length) (.int .i32 0)) 21):=⟨_,rfl⟩;rw [<- f] at I;have v:O5 k c:=by rw [d];exact (Below.drewN (J0 _ _) 1).alloc lz _
 have x:O5 c l:=by rw [f];exact (Below.drewN (J0 _ _) 1).alloc lz _
 have Q:k.heap.size<c.heap.size:=by rw [d];simp
 have X:c.heap.size<l.heap.size:=by rw [f];simp
 have x1:c.heap[k.heap.size]?=some (.cells (((runes p).map (Value.int .i32)).toArray ++ Array.replicate (D - (runes p).length) (.int .i32 0)) 21 (0,0)):=by rw [d];exact J2 k.drew _
 have x2:l.heap[c.heap.size]?=some (.cells (((runes s).map (Value.int .i32)).toArray ++ Array.replicate (E - (runes s).length) (.int .i32 0)) 21 (0,0)):=by rw [f];exact J2 c.drew _
 have M:zR l 0 l.heap.size (some ⟨k.heap.size,0,none⟩) (runes p):=(by refine .inr ⟨_,0,rfl,X7 _,by omega,fun i hi=>?_⟩;have V:=(x.block _ Q).trans x1;have L:=hQ (runes p) (Array.replicate (D - (runes p).length) (.int .i32 0)) hi;simp only [World.cell?,V];simpa using L);have N:zR l 0 l.heap.size (some ⟨c.heap.size,0,none⟩) (runes s):=(by refine .inr ⟨_,0,rfl,X7 _,by omega,fun i hi=>?_⟩;have L:=hQ (runes s) (Array.replicate (E - (runes s).length) (.int .i32 0)) hi;simp only [World.cell?,x2];simpa using L);have R:=U (af (runes p) (runes s) _ _ D E l M N (by omega) (by omega));have o:=U (m.o.trans ((j.o.trans ((v.trans (x.mono v.size)).mono j.o.size)).mono m.o.size));clear M N x1 x2 Q X v x d f A B J K S T;go_wp2_with (go_at_call 312;refine R.o.mono ?_;rintro e Z ⟨rfl,a⟩;have F:=U a;clear a);go_ret;exact ⟨qz q.o.symm,o.o.trans (F.o.mono o.o.size)⟩
theorem wH {α:Type} {f:α->Bool} {l:List α} {n:Nat} (b:l.length<=n) (h:∀j (a:j<l.length),j<n->f l[j]=false):l.any f=false:=by rw [List.any_eq_false];intro x hx;obtain ⟨j,a,rfl⟩:=V4 hx;rw [h j a (by omega)];decide
theorem gK {α:Type} {f:α->Bool} {l:List α} {k:Nat} (a:k<l.length) (h:f l[k]=true):l.any f=true :=
 zd4.2 ⟨_,X6 a,h⟩
theorem aS (l:List ByteArray) (path:ByteArray) (a:Option Addr) (c:Nat) (w:World) (R:qv w 0 w.heap.size a l) (T:l.length<=4294967296) (S:∀s ∈ l,s.size<=4294967296) (V:path.size<=4294967296) :
 Calls Tryz.prog 310 #[.slice a l.length c,.string path] w fun e w'=>(∃n,e=.returned (.tuple #[.int .i64 n,.bool (l.any fun q=>xk runes q path)]))/\O5 w w':=by
 have H:=U R;have I:=U S;clear R S;obtain ⟨n,D⟩:=O1 l.length;have E:=U D;rw [<- D] at T ⊢;clear D;go_enter Tryz.func310,Tryz.ntmps310;go_wp2;go_loopw [6,7,10] (fun _ _ i wr=>∃k:Nat,k<=n/\i=.int .i64 k/\(∀j (h:j<l.length),j<k->xk runes l[j] path=false)/\O5 w wr) (fun _ _ i _=>n - (intOf i).toNat)
 case atStart=>exact ⟨0,by omega,rfl,fun j _ h=>by omega,J0 _ _⟩
 case round =>
  obtain ⟨k,N,rfl,A,z⟩:=hrel;have v:=U A;have d:=U z;clear A z;by_cases hlt:k<n
  . have r:k<l.length:=by rw [<- E.o];exact hlt
    obtain ⟨b,o,K,-,u,J⟩:=(H.o.below d.o lz lz lz).at k r;subst K;have P:(0:Int)<=(k:Int):=by omega
    have Q:(k:Int)<(n:Int):=by omega
    have L:decide ((k:Int)<(n:Int))=true:=by simpa using hlt
    have g:=U (gK (f:=fun q=>xk runes q path) r);have p:=U (show xk runes l[k] path=false->∀j (h:j<l.length),j<k+1->xk runes l[j] path=false from fun h0 j hj hjk=>by
     rcases V5.1 hjk with h1|h1
     . exact v.o j hj h1
     . subst h1;exact h0)
    have B:=I.o l[k] (X6 r);obtain ⟨q,F⟩:=O1 (l[k]);rw [<- F] at J g p B;have C:=U (fun w=>nt q path w (by omega) (by omega));obtain ⟨y,G⟩:=O1 (xk runes q path);rw [<- G] at C g p;clear F G B;cases y with
    | true => have x:=U (g.o rfl);go_wp2_with (go_at_call 311;refine (C.o _).mono ?_;rintro e M ⟨rfl,u⟩;have m:=U u;clear u);go_ret2;exact ⟨⟨_,by rw [x.o];rfl⟩,d.o.trans (m.o.mono d.o.size)⟩
    | false =>
     have x:=U (p.o rfl);go_wp2_with (go_at_call 311;refine (C.o _).mono ?_;rintro e M ⟨rfl,u⟩;have m:=U u;clear u);go_roundw
     case rel=>exact ⟨k+1,by omega,by go_num,x.o,d.o.trans (m.o.mono d.o.size)⟩
     case measure=>simp [intOf];omega
  . have L:decide ((k:Int)<(n:Int))=false:=by simpa using hlt
    have x:=U (wH (f:=fun q=>xk runes q path) (l:=l) (n:=k) (by rw [<- E.o];omega) v.o);go_wp2;go_ret2;exact ⟨⟨_,by rw [x.o];rfl⟩,d.o⟩
theorem Qi (l:List ByteArray) (path:ByteArray) (a:Option Addr) (c:Nat) (w:World) (h:qv w 0 w.heap.size a l) (i:l.length<=4294967296) (k:∀s ∈ l,s.size<=4294967296) (j:path.size<=4294967296) :
 Calls Tryz.prog 309 #[.slice a l.length c,.string path] w fun e w'=>e=.returned (.bool (l.any fun q=>xk runes q path))/\O5 w w':=by
 have f:=U (aS l path a c w h i k j);clear h;go_enter Tryz.func309,Tryz.ntmps309;go_wp2_with (go_at_call 310;refine f.o.mono ?_;rintro e g ⟨⟨m,rfl⟩,d⟩;have b:=U d;clear d);go_ret;exact ⟨rfl,b.o⟩
theorem gV (l:List DelegV) (a0:ByteArray) (a:Option Addr) (c:Nat) (w:World) (hA:zh w 0 w.heap.size a l) (hl:l.length<=4294967296) :
 Calls Tryz.prog 126 #[.slice a l.length c,.string a0] w fun e w'=>e=.returned (.bool (l.any fun y=>decide (y.name=a0)))/\O5 w w':=by
 have T:=U hA;clear hA;obtain ⟨n,H⟩:=O1 l.length;have J:=U H;rw [<- H] at hl ⊢;clear H;obtain ⟨V,G⟩:=O1 (l.any (fun y=>decide (y.name=a0)));have K:=U G;rw [<- G];clear G;go_enter Tryz.func126,Tryz.ntmps126;go_wp2;go_loopw [6,9] (fun _ i wr=>∃k:Nat,k<=n/\i=.int .i64 k/\(∀j (h:j<l.length),j<k->decide (l[j].name=a0)=false)/\O5 w wr) (fun _ i _=>n - (intOf i).toNat)
 case atStart=>exact ⟨0,by omega,rfl,fun j _ h=>by omega,J0 _ _⟩
 case round =>
  obtain ⟨k,hk,rfl,D,A⟩:=hrel;have u:=U D;have d:=U A;clear D A;by_cases hlt:k<n
  . have B:k<l.length:=by rw [<- J.o];exact hlt
    obtain ⟨b,o,ha,-,hb,M,N,P,Q,R,S,L,W,X,Y,Z,e5,-⟩:=(T.o.below d.o lz lz d.o.size).at k B;subst ha;have m1:(0:Int)<=(k:Int):=by omega
    have m2:(k:Int)<(n:Int):=by omega
    have m3:decide ((k:Int)<(n:Int))=true:=by simpa using hlt
    have g:=U (gK (f:=fun y:DelegV=>decide (y.name=a0)) B);have q:=U (show decide (l[k].name=a0)=false->∀j (h:j<l.length),j<k+1->decide (l[j].name=a0)=false from fun h0 j hj hjk=>by
     rcases V5.1 hjk with h1|h1
     . exact u.o j hj h1
     . subst h1;exact h0)
    have p:=O0 ((l[k].name.toList == a0.toList)=decide (l[k].name=a0)) ba_eq;obtain ⟨r,C⟩:=O1 (l[k].name);rw [<- C] at L g q p;obtain ⟨y,I⟩:=O1 (decide (r=a0));have hq:(r.toList == a0.toList)=y:=by rw [I];exact p.o
    rw [<- I] at g q;clear C I p;generalize l[k].au=au at *;generalize l[k].term=tm at *;generalize l[k].paths=ps at *;generalize l[k].pres=qs at *;obtain ⟨F,m⟩:=O1 (wr.alloc (.cells #[.string r,.int .i64 au.thr,.slice M au.ids.length N,.bool tm,.slice P ps.length Q,.slice R qs.length S] 41));have z:=O7 m
    have E:=O9 m
    have s:=U (O2 d z);have x:=U m;have z0:=qq E (j:=0) rfl;clear z E m;go_upto_region 4 with fail
    rw [<- x.o];clear L W X Y Z e5 x;cases y with
    | false =>
     have v:=U (q.o rfl);go_wp2;go_roundw
     case rel=>exact ⟨k+1,by omega,by go_num,v.o,s.o⟩
     case measure=>simp [intOf];omega
    | true => have v:=U (K.o.trans (g.o rfl));go_wp2;go_ret;exact ⟨qz v.o.symm,s.o⟩
  . have m3:decide ((k:Int)<(n:Int))=false:=by simpa using hlt
    have v:=U (K.o.trans (wH (f:=fun y:DelegV=>decide (y.name=a0)) (l:=l) (n:=k) (by rw [<- J.o];omega) u.o));go_wp2;go_ret;exact ⟨qz v.o.symm,d.o⟩
