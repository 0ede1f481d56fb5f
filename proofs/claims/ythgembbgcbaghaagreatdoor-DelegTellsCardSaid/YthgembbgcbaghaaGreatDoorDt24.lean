import Derived.Test.YthgembbgcbaghaaGreatDoorDt23
import GoSem.Conv.StringToRunes
set_option maxHeartbeats 2000000
set_option maxRecDepth 100000

namespace Go.Proofs.YthgembbgcbaghaaGreatDoor
open Go.RowKit
def uM (l:List JV) (w:World) (e:Ending) (w':World):Prop :=
 ∃ai ci,e=.returned (.agg #[.int .u8 4,.int .i64 0,.string ⟨#[]⟩,.slice none 0 0,.slice ai l.length ci])/\Rep w' w.heap.size w'.heap.size (zY l) (.agg #[.int .u8 4,.int .i64 0,.string ⟨#[]⟩,.slice none 0 0,.slice ai l.length ci])/\Below w.heap.size w w'
theorem Qv (l:List JV) (a:Option Addr) (c lo:Nat) (w:World) (hlo:0<lo) (hS:zc w lo w.heap.size a l) (hl:l.length<=4294967296) (hwt:∀x ∈ l,x.wt<=4294967296) :
 Calls Tryz.prog 148 #[.slice a l.length c] w (uM l w):=by
 obtain ⟨W,Y⟩:=O1 ((w.alloc (.cells #[.int .u8 0,.int .i64 0,.string ⟨#[]⟩,.slice none 0 0,.slice none 0 0] 25)).alloc (.cells #[.int .u8 4,.int .i64 0,.string ⟨#[]⟩,.slice none 0 0,.slice none 0 0] 25));have K:(w.alloc (.cells #[.int .u8 0,.int .i64 0,.string ⟨#[]⟩,.slice none 0 0,.slice none 0 0] 25)).heap.size=w.heap.size+1:=by simp
 have L:W.heap.size=w.heap.size+2:=by rw [Y];simp
 have b4:Below w.heap.size w W:=by rw [Y];exact ((Z0 _ _).alloc lz _).alloc (by simp) _
 have b9:W.rowIs w.heap.size 25 5 (qZ (.int .u8 0) (.int .i64 0) (.string ⟨#[]⟩) (.slice none 0 0) (.slice none 0 0)):=by rw [Y];exact (qh w (.int .u8 0) (.int .i64 0) (.string ⟨#[]⟩) (.slice none 0 0) (.slice none 0 0) 25).alloc _
 have c0:W.rowIs (w.heap.size+1) 25 5 (qZ (.int .u8 4) (.int .i64 0) (.string ⟨#[]⟩) (.slice none 0 0) (.slice none 0 0)):=(by have:=qh (w.alloc (.cells #[.int .u8 0,.int .i64 0,.string ⟨#[]⟩,.slice none 0 0,.slice none 0 0] 25)) (.int .u8 4) (.int .i64 0) (.string ⟨#[]⟩) (.slice none 0 0) (.slice none 0 0) 25;rw [K,<- Y] at this;exact this);have HS:=U hS;have c3:=U hlo;have d3:=U hwt;have HW:=U Y;have a1:=U b4;have c6:=U b9;have a9:=U c0;have B:=U L;obtain ⟨Z,X⟩:=O1 l.length;have A:=U X;rw [<- X] at hl ⊢;clear hS hlo hwt Y b4 b9 c0 K L X;obtain ⟨i0,d7,e2,K,L⟩:=V9 z7;go_enter Tryz.func148,Tryz.ntmps148;go_upto_region 2 with fail
 rw [<- HW.o];clear HW;obtain ⟨z,T⟩:=O1 (w.heap.size+1);have Q:=U T;rw [<- T] at a9 ⊢;have b5:z<W.heap.size:=by have:=B.o;omega
 clear T;go_wp2;go_loopw [5,9] (fun _ i wr=>∃(k:Nat) (cs:List Value) (M:Value),k<=Z/\i=.int .i64 k/\Touch (· = z) W wr/\wr.rowIs z 25 5 (qZ (.int .u8 4) (.int .i64 0) (.string ⟨#[]⟩) (.slice none 0 0) M)/\wr.ownsRow W.heap.size 25 5 M k cs/\qF wr W.heap.size (fun b=>b=z\/M.ownBlock=some b) (l.take k) cs) (fun _ i _=>Z - (intOf i).toNat)
 case atStart=>exact ⟨0,[],.slice none 0 0,by omega,rfl,Touch.refl _ _,a9.o,Y7 _ _ _ _,by simpa using qF.nil _ _ _⟩
 case round =>
  obtain ⟨k,cs,M,hk,rfl,f,d,h,E⟩:=hrel;by_cases hlt2:k<Z
  . have C:k<l.length:=by rw [<- A.o];exact hlt2
    have HB:Hid (Below w.heap.size w wr):=a1.o.trans (f.below (by have:=B.o;omega) fun j hj e=>by have:=Q.o;omega);obtain ⟨b,e8,G,I,F,H,rfl,_,hb,y0,y1,y2,y3,y4,m⟩:=(HS.o.below HB.o lz lz lz).get k C;have e1:=d3.o l[k] (J7 C);have d1:=O0 (l.take (k+1)=l.take k ++ [l[k]]) (Z6 C);have c7:=U m;clear m;have c4:wr.cell? ⟨z,4,none⟩=some M:=d.cell (by omega);have f4:wr.frozen? ⟨z,4,none⟩=false:=d.frozen 4;have V:z<wr.heap.size:=d.lt;have e7:W.heap.size<=wr.heap.size:=f.size;have b6:some z≠M.ownBlock:=fun e=>by have:=(h.lt _ e.symm).1;omega
    have b2:=U d;have b3:=U f;have HO:=U h;have b1:=U E;clear d f h E;generalize l[k]=it at *;have a3:=U (show Calls Tryz.prog 91 #[.agg #[.int .u8 it.kind,.int .i64 it.n,.string it.t,.slice G it.names.length I,.slice F it.items.length H]] ((wr.alloc (.cells #[.int .u8 it.kind,.int .i64 it.n,.string it.t,.slice G it.names.length I,.slice F it.items.length H] 25)).drew) (fun e y=>∃p r o q,e=.returned (.agg #[.int .u8 it.kind,.int .i64 it.n,.string it.t,.slice p it.names.length r,.slice o it.items.length q])/\Rep y (wr.heap.size+1) y.heap.size it (.agg #[.int .u8 it.kind,.int .i64 it.n,.string it.t,.slice p it.names.length r,.slice o it.items.length q])/\Below (wr.heap.size+1) ((wr.alloc (.cells #[.int .u8 it.kind,.int .i64 it.n,.string it.t,.slice G it.names.length I,.slice F it.items.length H] 25)).drew) y/\wr.heap.size<y.heap.size/\y.cell? ⟨z,4,none⟩=some M/\y.frozen? ⟨z,4,none⟩=false/\y.ownsRow W.heap.size 25 5 M k cs) by
     refine (wU it _ _ lo w.heap.size e1 (by have:=HB.o.size;simp;omega) (c7.o.below ((Z0 _ _).alloc lz _).drew (by have:=HB.o.size;omega) lz lz) (fun _ _=>.inl c3.o)).mono ?_;rintro e y ⟨p,r,o,q,rfl,D,s⟩;have hz:((wr.alloc (.cells #[.int .u8 it.kind,.int .i64 it.n,.string it.t,.slice G it.names.length I,.slice F it.items.length H] 25)).drew).heap.size=wr.heap.size+1:=by simp
     rw [hz] at D s;have e0:=s.size;rw [hz] at e0;have R:Below wr.heap.size wr y:=((Z0 _ _).alloc lz _).drew.trans (s.mono (by omega));exact ⟨p,r,o,q,rfl,D,s,by omega,by rw [R.cell V];exact c4,by rw [R.frozen V];exact f4,qH HO.o R⟩)
    go_wp2_with fail
    go_region_law (first|(refine G8 _ (by rfl) (.tmp 14) (.tmp 17) 23 (by rfl) W.heap.size 25 i0 _ 5 80 G7 d7 e2 K L rfl (by omega) M k cs (by rfl) (a7.o.alloc _) ⟨y.heap.size,0,none⟩ 1 1 (Array.toList #[.int .u8 it.kind,.int .i64 it.n,.string it.t,.slice p it.names.length r,.slice o it.items.length q]) (by rfl) (by rfl) (X0 (cs:=#[.int .u8 it.kind,.int .i64 it.n,.string it.t,.slice p it.names.length r,.slice o it.items.length q]) (t:=25) (fr:=(0,0)) (Z4 y _)) (by simp [Value.oneCell']) (by omega) (by unfold maxLen;omega) (by omega) (by simp;omega) (y.heap.size+1) (by simp) ?_;intro g cap w4 hown4 hgrow4 hat4 hlt4;have e4:=zu hgrow4 N b6 d4;have e6:=za hgrow4 N b6 d5;have a8:=U hown4;have a4:=U hgrow4;have a0:=U hat4;clear hown4 hgrow4 hat4)|(go_simp;go_at_call 91;(with_reducible refine a3.o.mono ?_);rintro e y ⟨p,r,o,q,rfl,D,s,e3,d4,d5,b7⟩;have N:z<y.heap.size:=zc7 V e3;have a7:=U b7;have b0:=U D;have a2:=U s;clear b7 D s))
    all_goals
     have d0:=U (row_step (j:=4) b5 b3.o b2.o HO.o b1.o a2.o b0.o a4.o a0.o a8.o);clear b3 b2 HO b1 a2 b0 a4 a0 a8 a7 a3;go_wp2;go_roundw
     case rel => obtain ⟨z1,z2,z3,z4⟩:=d0.o;refine ⟨k+1,_,_,by omega,by go_num,z1,z2.congr fun i hi=>?_,z3,by rw [d1.o];exact z4⟩;rcases i with _|_|_|_|_|i <;> first|rfl|omega
     case measure=>simp [intOf];omega
  . obtain rfl:k=Z:=by omega
    have P:l.take k=l:=by rw [Z8 (by rw [<- A.o];exact J0 _)]
    rw [P] at E;have J:l.length=k:=A.o.symm;obtain ⟨a5,c5,rfl,S,c1⟩:=zM h E J.symm;rw [J] at S d;have d2:=U c1;have c2:=U S;have a6:=U J;have u:=(f.row c6.o (by have:=Q.o;omega));obtain ⟨r0,r1,r2,r3,r4⟩:=rc5 d;obtain ⟨t0,t1,t2,t3,t4⟩:=rc5 u;obtain ⟨s0,s1,s2,s3,s4⟩:=rf5 u;simp only [qZ] at r0 r1 r2 r3 r4 t0 t1 t2 t3 t4;have HT:=U f;have c9:=U u;clear d u h E c1 f P S J;go_wp2;refine J3 (X6 Tryz.results148 _ _ w.heap.size 25 _ (0,0) _ rfl (qm (set5 _ _ _ _ _ c9.o)) J5 rfl (by kernel_rfl)) rfl ?_;have d6:Below w.heap.size w wr:=a1.o.trans (HT.o.below (by have:=B.o;omega) fun j hj e=>by have:=Q.o;omega);refine ⟨a5,c5,by rw [<- A.o],?_,zx _ _ _ _ _ d6 lz⟩;rw [<- A.o];have m:=Rep.mk (v:=zY l) (an:=none) (cn:=0) (ai:=a5) (ci:=c5) (w:=wr) (lo:=W.heap.size) (hi:=wr.heap.size) lz (by show l.length<=c5;rw [a6.o];exact c2.o) (.inl rfl) d2.o;have e5:(zY l).items.length=k:=a6.o;rw [e5] at m;exact Rep.carry (by have:=B.o;omega) (show wr.heap.size<=_ by simp [World.setCell]) (fun j hj _=>xI _ _ _ _ _ (by have:=B.o;omega)) _ _ m
theorem yy:∀(l:List DelegV) (k:Nat) (h:k<l.length),((l.take k).any fun y=>decide (y.name=l[k].name))=true->xl l=false
 | [],k,h,_=>by simp at h
 | x :: r,0,h,hb=>by simp at hb
 | x :: r,k+1,h,hb=>by
  rw [V8,List.any_cons,H6,Bool.or_eq_true] at hb;unfold xl;rcases hb with hb|hb
  . have:(r.any fun y=>decide (y.name=x.name))=true:=by
     rw [za6];exact ⟨r[k]'(by simpa using h),J7 _,by rw [Q6] at hb ⊢;exact hb.symm⟩
    rw [this];rfl
  . rw [yy r k (by simpa using h) hb,N3]
theorem gx:∀(l:List DelegV),(∀k (h:k<l.length),((l.take k).any fun y=>decide (y.name=l[k].name))=false)->xl l=true
 | [],_=>rfl
 | x :: r,h=>by unfold xl;have h1:(r.any fun y=>decide (y.name=x.name))=false:=(by rw [List.any_eq_false];intro y hy;obtain ⟨k,a,rfl⟩:=Y3 hy;have:=h (k+1) (by simpa using a);rw [V8,List.any_cons,H6,Bool.or_eq_false_iff] at this;have b:=this.1;rw [Y4] at b;rw [Q6];exact fun e=>b e.symm);rw [h1,Bool.not_false,X4];refine gx r fun k a=>?_;have:=h (k+1) (by simpa using a);rw [V8,List.any_cons,H6,Bool.or_eq_false_iff] at this;exact this.2
def zn (l:List DelegV):Bool:=decide (l.length<=64) && l.all qt && xl l
theorem zN (d:DelegsV):xm d=(zg d.keys && (if zb d.bins then zn d.roles else d.roles.isEmpty && q8 d.bins)):=rfl
theorem yg {l:List DelegV} (h:¬l.length<=64):zn l=false:=by unfold zn;rw [Z7 h];rfl
theorem vF {l:List DelegV} {k:Nat} (h:k<l.length) (hb:qt l[k]=false):zn l=false:=by unfold zn;rw [show l.all qt=false from zb0.2 ⟨l[k],J7 _,by simp [hb]⟩,N3,V0]
theorem kW {l:List DelegV} {k:Nat} (h:k<l.length) (hb:((l.take k).any fun y=>decide (y.name=l[k].name))=true):zn l=false:=by unfold zn;rw [yy l k h hb,N3]
theorem wZ {l:List DelegV} (h:l.length<=64) (h1:∀k (h:k<l.length),qt l[k]=true) (h2:∀k (h:k<l.length),((l.take k).any fun y=>decide (y.name=l[k].name))=false):zn l=true:=by unfold zn;rw [J2 h,gx l h2,show l.all qt=true from V4.2 fun x hx=>by obtain ⟨k,a,rfl⟩:=Y3 hx;exact h1 k a];rfl
def uC (v:JV) (w:World) (e:Ending) (w':World):Prop :=
 e=.returned (.tuple #[.agg #[.string (zZ v).1.1,.string (zZ v).1.2],.int .i64 (zZ v).2])/\Below w.heap.size w w'
theorem keyOf (v:JV) (x:Value) (w:World) (lo hi:Nat) (hN:v.wt<=4294967296) (hhi:hi<=w.heap.size) (hR:Rep w lo hi v x) (hS:v.mayB=true->v.kind=5->∀k (h:k<v.items.length),cY lo v.items[k]) :
 Calls Tryz.prog 117 #[x] w (uC v w):=by
 obtain ⟨E,G,D,F,hx,h1,h2,h3,h4⟩:=hR.parts;have HR:=U hR;have HS:=U hS;clear h1 h2 h3 h4 hR hS;subst hx;have A:=O0 (Below w.heap.size w ((w.alloc (.cells #[.int .u8 v.kind,.int .i64 v.n,.string v.t,.slice E v.names.length G,.slice D v.items.length F] 25)).alloc (.cells #[.string ⟨#[]⟩,.string ⟨#[]⟩] 43))) (((Z0 _ _).alloc lz _).alloc (by simp) _);have a1:=U (show ((w.alloc (.cells #[.int .u8 v.kind,.int .i64 v.n,.string v.t,.slice E v.names.length G,.slice D v.items.length F] 25)).alloc (.cells #[.string ⟨#[]⟩,.string ⟨#[]⟩] 43)).heap[w.heap.size]?=some (.cells #[.int .u8 v.kind,.int .i64 v.n,.string v.t,.slice E v.names.length G,.slice D v.items.length F] 25 (0,0)) by rw [X5 _ _ _ (by simp)];exact Z4 w _);have b0:=ve (w.alloc (.cells #[.int .u8 v.kind,.int .i64 v.n,.string v.t,.slice E v.names.length G,.slice D v.items.length F] 25)) (.string ⟨#[]⟩) (.string ⟨#[]⟩) 43;rw [show (w.alloc (.cells #[.int .u8 v.kind,.int .i64 v.n,.string v.t,.slice E v.names.length G,.slice D v.items.length F] 25)).heap.size=w.heap.size+1 by simp] at b0;have K:=U b0;clear b0;have Z:=U (vy v _ ((w.alloc (.cells #[.int .u8 v.kind,.int .i64 v.n,.string v.t,.slice E v.names.length G,.slice D v.items.length F] 25)).alloc (.cells #[.string ⟨#[]⟩,.string ⟨#[]⟩] 43)) hN (HR.o.below A.o hhi (J8 _) (by simp;omega)));cases hm:v.mayB
 . have z:=U (show zZ v=((⟨#[]⟩,⟨#[]⟩),3) by unfold zZ;rw [J1 hm]);rw [hm] at Z;clear hm;go_enter Tryz.func117,Tryz.ntmps117;go_wp2_with fail;refine Z.o.mono ?_;rintro e g ⟨rfl,b⟩;have a:=qj b K.o (by simp);have q:=U a;have p:=U (A.o.trans (b.mono (by simp;omega)));have R:=a.cell (i:=0) (by decide);have S:=a.cell (i:=1) (by decide);have s0:=a.frozen 0;have s1:=a.frozen 1;simp only [kt] at R S;clear a b;go_wp2;refine J3 (qk Tryz.results117 _ _ (w.heap.size+1) 43 _ (0,0) _ rfl (z6 (set2 _ _ q.o)) Tryz.underlying43 rfl (by kernel_rfl) _ rfl) rfl ⟨?_,ym _ _ p.o (by omega)⟩;rw [z.o];rfl
 . rw [hm] at Z;have J:=U hm;clear hm;by_cases hk:v.kind=5
   . obtain ⟨c9,c6,d2⟩:=nx J.o hk;obtain ⟨d,s⟩:∃r,r=ql v xS ⟨[],0⟩:=⟨_,rfl⟩;obtain ⟨f,u⟩:∃r,r=ql v schN d.2:=⟨_,rfl⟩;obtain ⟨dn,a6⟩:∃r,r=qr v f.2:=⟨_,rfl⟩;have z:=U (show zZ v=if dn≠0 then ((⟨#[]⟩,⟨#[]⟩),dn) else if zh f.1.data.toList d.1.data.toList then ((f.1,d.1),0) else ((⟨#[]⟩,⟨#[]⟩),3) by
      unfold zZ;rw [Z5 (by rw [J.o];simp),Z5 (by simp [hk]),a6,u,s])
     obtain ⟨z1,z2⟩:=uW (y:=xS) (st:=⟨[],0⟩) hN;obtain ⟨z3,z4⟩:=uW (y:=schN) (st:=d.2) hN;rw [<- s] at z1 z2;rw [<- u] at z3 z4;simp only [zc3] at z2;have b6:=U s;have b7:=U u;have X:=U a6;have d5:=U c9;have d3:=U c6;have d6:=U d2;have HK:=U hk;clear s u a6 c9 c6 d2 hk;go_enter Tryz.func117,Tryz.ntmps117;go_wp2_with fail;refine Z.o.mono ?_;clear Z;rintro e g ⟨rfl,b⟩;have d7:w.heap.size+2<=g.heap.size:=by have:=b.size;simp at this;omega
     have p:=U (A.o.trans (b.mono (by simp;omega)));have L:=U (qj b K.o (by simp));have c:g.heap[w.heap.size]?=some (.cells #[.int .u8 v.kind,.int .i64 v.n,.string v.t,.slice E v.names.length G,.slice D v.items.length F] 25 (0,0)):=by rw [b.block _ (by simp;omega)];exact a1.o
     have c0:g.cell? ⟨w.heap.size,0,none⟩=some (.int .u8 v.kind):=qq c rfl;have c1:g.cell? ⟨w.heap.size,1,none⟩=some (.int .i64 v.n):=qq c rfl;have c2:g.cell? ⟨w.heap.size,2,none⟩=some (.string v.t):=qq c rfl;have c3:g.cell? ⟨w.heap.size,3,none⟩=some (.slice E v.names.length G):=qq c rfl;have c4:g.cell? ⟨w.heap.size,4,none⟩=some (.slice D v.items.length F):=qq c rfl;have b3:=U (bQ v _ g lo hi hN (by omega) (HR.o.below p.o hhi lz lz) HK.o d5.o d3.o (HS.o J.o HK.o));clear b c;go_wp2_with fail;refine b3.o.mono ?_;clear b3 c0 c1 c2 c3 c4 HR HS a1 A K;rintro e w2 ⟨o,m,b2,a7,a3,a2,a5,a4,rfl,C,c7,e2,j⟩;have b9:=U (gH o m b2 a7 v a3 a2 a5 a4 xS ⟨[],0⟩ w2 C (by decide) (by simp));have M:=U (qj j L.o (by omega));have e4:=j.size;have B:=U (p.o.trans (j.mono (by omega)));clear C j L p;go_wp2_with fail;refine b9.o.mono ?_;clear b9;rintro e w3 ⟨rfl,a8,P⟩;rw [<- b6.o] at a8 ⊢;have c5:=U (gH o m b2 a7 v a3 a2 a5 a4 schN d.2 w3 a8 (by decide) (by omega));have e5:=P.size;have b4:=U (P.row M.o (by omega));have H:=U (B.o.trans (P.below (by omega) fun k hk e=>by omega));clear a8 P M B;go_wp2_with fail;refine c5.o.mono ?_;clear c5;rintro e w4 ⟨rfl,a9,Q⟩;rw [<- b7.o] at a9 ⊢;have e6:=Q.size;have b5:=U (Q.row b4.o (by omega));have T:=U (H.o.trans (Q.below (by omega) fun k hk e=>by omega));have Y:=U (uJ o m b2 a7 v a3 a2 a5 a4 f.2 (w4.alloc (.cells #[.string f.1,.string d.1] 43)) (a9.below ((Z0 _ _).alloc lz _)) (fun i hi=>by
      have:=V4.1 d6.o _ (J7 hi);unfold qQ at this;simp at this;omega))
     rw [<- X.o] at Y;clear a9 Q b4 H;go_wp2_with fail;refine Y.o.mono ?_;clear Y;rintro e w5 ⟨rfl,rfl⟩;have N:=U (b5.o.alloc (.cells #[.string f.1,.string d.1] 43));have V:=U (T.o.alloc T.o.size (.cells #[.string f.1,.string d.1] 43));clear b5 T;by_cases hd:dn=0
     . rw [hd] at z ⊢;simp only [ne_eq,not_true_eq_false,zd4] at z;clear hd X;have I:=U (lC f.1 d.1 (w4.alloc (.cells #[.string f.1,.string d.1] 43)) (by omega) (by omega));cases hko:zh f.1.data.toList d.1.data.toList
       . rw [hko] at I z;clear hko;go_wp2_with fail;refine I.o.mono ?_;rintro e w6 ⟨rfl,l⟩;have a:=qj l N.o (by simp;omega);have q:=U a;have W:=U (V.o.trans (l.mono (by simp;omega)));have R:=a.cell (i:=0) (by decide);have S:=a.cell (i:=1) (by decide);have s0:=a.frozen 0;have s1:=a.frozen 1;simp only [kt] at R S;clear a l;go_wp2;refine J3 (qk Tryz.results117 _ _ (w.heap.size+1) 43 _ (0,0) _ rfl (z6 (set2 _ _ q.o)) Tryz.underlying43 rfl (by kernel_rfl) _ rfl) rfl ⟨?_,ym _ _ W.o (by omega)⟩;rw [z.o];rfl
       . rw [hko] at I z;clear hko;go_wp2_with fail;refine I.o.mono ?_;rintro e w6 ⟨rfl,l⟩;have a:=qj l N.o (by simp;omega);have b1:w6.heap[w4.heap.size]?=some (.cells #[.string f.1,.string d.1] 43 (0,0)):=by rw [l.block _ (by simp)];exact Z4 _ _
         have d0:w6.cell? ⟨w4.heap.size,0,none⟩=some (.string f.1):=qq b1 rfl;have d1:w6.cell? ⟨w4.heap.size,1,none⟩=some (.string d.1):=qq b1 rfl;have q:=U a;have W:=U (V.o.trans (l.mono (by simp;omega)));have R:=a.cell (i:=0) (by decide);have S:=a.cell (i:=1) (by decide);have s0:=a.frozen 0;have s1:=a.frozen 1;simp only [kt] at R S;clear a l b1;go_wp2;refine J3 (qk Tryz.results117 _ _ (w.heap.size+1) 43 _ (0,0) _ rfl (z6 (set2 _ _ q.o)) Tryz.underlying43 rfl (by kernel_rfl) _ rfl) rfl ⟨?_,ym _ _ W.o (by omega)⟩;rw [z.o];rfl
     . rw [J1 hd] at z;have e0:(dn == 0)=false:=by simpa using hd
       have e1:(dn != 0)=true:=by simpa using hd
       have a:=N.o;have R:=a.cell (i:=0) (by decide);have S:=a.cell (i:=1) (by decide);have s0:=a.frozen 0;have s1:=a.frozen 1;simp only [kt] at R S;clear a hd X;go_wp2;refine J3 (qk Tryz.results117 _ _ (w.heap.size+1) 43 _ (0,0) _ rfl (z6 (set2 _ _ N.o)) Tryz.underlying43 rfl (by kernel_rfl) _ rfl) rfl ⟨?_,ym _ _ V.o (by omega)⟩;rw [z.o];rfl
   . have z:=U (show zZ v=((⟨#[]⟩,⟨#[]⟩),10) by unfold zZ;rw [Z5 (by rw [J.o];simp),J1 hk]);have HK:=U hk;clear hk;go_enter Tryz.func117,Tryz.ntmps117;go_wp2_with fail;refine Z.o.mono ?_;clear Z;rintro e g ⟨rfl,b⟩;have d7:w.heap.size+2<=g.heap.size:=by have:=b.size;simp at this;omega
     have p:=U (A.o.trans (b.mono (by simp;omega)));have L:=U (qj b K.o (by simp));have c:g.heap[w.heap.size]?=some (.cells #[.int .u8 v.kind,.int .i64 v.n,.string v.t,.slice E v.names.length G,.slice D v.items.length F] 25 (0,0)):=by rw [b.block _ (by simp;omega)];exact a1.o
     have c0:g.cell? ⟨w.heap.size,0,none⟩=some (.int .u8 v.kind):=qq c rfl;have c1:g.cell? ⟨w.heap.size,1,none⟩=some (.int .i64 v.n):=qq c rfl;have c2:g.cell? ⟨w.heap.size,2,none⟩=some (.string v.t):=qq c rfl;have c3:g.cell? ⟨w.heap.size,3,none⟩=some (.slice E v.names.length G):=qq c rfl;have c4:g.cell? ⟨w.heap.size,4,none⟩=some (.slice D v.items.length F):=qq c rfl;clear b c;go_wp2_with fail;refine (p8 v.kind v.n v.t _ _ g HK.o).mono ?_;clear c0 c1 c2 c3 c4;rintro e w2 ⟨o,rfl,e3,c7,C,j⟩;have a0:=U C;have M:=U (qj j L.o (by omega));have B:=U (p.o.trans (j.mono (by omega)));clear C j;go_wp2_with fail;refine (mW o 10 _ w2 a0.o).mono ?_;rintro e w3 ⟨rfl,rfl⟩;go_wp2_with fail;refine (mW o 10 _ w2 a0.o).mono ?_;rintro e w3 ⟨rfl,rfl⟩;have d4:=U (a0.o.below ((Z0 _ _).alloc lz (.cells #[.string ⟨#[]⟩,.string ⟨#[]⟩] 43)) c7);obtain ⟨p1,p2,kk,p3⟩:=d4.o;have HD:=U (mY o 10 kk _ p1 p2 p3);clear p1 p2 p3;go_wp2_with fail;refine HD.o.mono ?_;rintro e w3 ⟨rfl,rfl⟩;have a:=M.o.alloc (.cells #[.string ⟨#[]⟩,.string ⟨#[]⟩] 43);have q:=U a;have H:=U (B.o.alloc B.o.size (.cells #[.string ⟨#[]⟩,.string ⟨#[]⟩] 43));have R:=a.cell (i:=0) (by decide);have S:=a.cell (i:=1) (by decide);have s0:=a.frozen 0;have s1:=a.frozen 1;simp only [kt] at R S;clear a;go_wp2;refine J3 (qk Tryz.results117 _ _ (w.heap.size+1) 43 _ (0,0) _ rfl (z6 (set2 _ _ q.o)) Tryz.underlying43 rfl (by kernel_rfl) _ rfl) rfl ⟨?_,ym _ _ H.o (by omega)⟩;rw [z.o];rfl
open Go.WideMaps Go.Maps
theorem gj {α:Type} {f:α->Bool} {l:List α} {k:Nat} (hk:k<l.length) (h:f l[k]=false):l.all f=false:=zb0.2 ⟨_,J7 hk,by rw [h];decide⟩
theorem pu {α:Type} {f:α->Bool} {l:List α} {n:Nat} (hn:l.length<=n) (h:∀j (hj:j<l.length),j<n->f l[j]=true):l.all f=true:=by rw [V4];intro x hx;obtain ⟨j,hj,rfl⟩:=Y3 hx;exact h j hj (by omega)
theorem ug (l:List ByteArray) (a:Option Addr) (c:Nat) (w:World) (hA:qv w 0 w.heap.size a l) (hl:l.length<=4294967296) (hs:∀s ∈ l,s.size<=4294967296) :
 Calls Tryz.prog 137 #[.slice a l.length c,.func (.func (138:Nat)) #[] #[]] w fun e w'=>e=.returned (.bool (decide (l.length<=32) && l.all qN))/\Below w.heap.size w w':=by
 have J:=U hA;have K:=U hs;clear hA hs;obtain ⟨n,F⟩:=O1 l.length;have G:=U F;rw [<- F] at hl ⊢;clear F;obtain ⟨V,E⟩:=O1 ((decide (n<=32) && l.all qN));have z:=U E;rw [<- E];clear E;by_cases h32:32<n
 . rw [Z7 (by omega),V0] at z;have L:decide (32<(n:Int))=true:=by rw [Q6];omega
   go_enter Tryz.func137,Tryz.ntmps137;go_wp2;go_ret;exact ⟨qz z.o.symm,Z0 _ _⟩
 have L:decide (32<(n:Int))=false:=by rw [Y4];omega
 rw [J2 (by omega),X4] at z;go_enter Tryz.func137,Tryz.ntmps137;go_wp2;go_loopw [6,12] (fun _ i wr=>∃k:Nat,k<=n/\i=.int .i64 k/\(∀j (h:j<l.length),j<k->qN l[j]=true)/\Below w.heap.size w wr) (fun _ i _=>n - (intOf i).toNat)
 case atStart=>exact ⟨0,by omega,rfl,fun j _ h=>by omega,Z0 _ _⟩
 case round =>
  obtain ⟨k,R,rfl,B,A⟩:=hrel;have v:=U B;have d:=U A;clear B A;by_cases hlt:k<n
  . have r:k<l.length:=by rw [<- G.o];exact hlt
    obtain ⟨b,o,N,-,u,M⟩:=(J.o.below d.o lz lz lz).at k r;subst N;have S:(0:Int)<=(k:Int):=by omega
    have T:(k:Int)<(n:Int):=by omega
    have P:decide ((k:Int)<(n:Int))=true:=by simpa using hlt
    have g:=U (gj (f:=qN) r);have p:=U (show qN l[k]=true->∀j (h:j<l.length),j<k+1->qN l[j]=true from fun h0 j hj hjk=>by
     rcases Y1.1 hjk with h1|h1
     . exact v.o j hj h1
     . subst h1;exact h0)
    have C:=K.o l[k] (J7 r);obtain ⟨q,H⟩:=O1 (l[k]);rw [<- H] at M g p C;have D:=U (fun w=>bG q w (by omega));obtain ⟨y,I⟩:=O1 (qN q);rw [<- I] at D g p;clear H I C;cases y with
    | false => have x:=U (z.o.trans (g.o rfl));go_wp2_with (go_at_call 138;refine (D.o _).mono ?_;rintro e Q ⟨rfl,u⟩;have m:=U u;clear u);go_ret;exact ⟨qz x.o.symm,d.o.trans (m.o.mono d.o.size)⟩
    | true =>
     have x:=U (p.o rfl);go_wp2_with (go_at_call 138;refine (D.o _).mono ?_;rintro e Q ⟨rfl,u⟩;have m:=U u;clear u);go_roundw
     case rel=>exact ⟨k+1,by omega,by go_num,x.o,d.o.trans (m.o.mono d.o.size)⟩
     case measure=>simp [intOf];omega
  . have P:decide ((k:Int)<(n:Int))=false:=by simpa using hlt
    have x:=U (z.o.trans (pu (f:=qN) (l:=l) (n:=k) (by rw [<- G.o];omega) v.o));go_wp2;go_ret;exact ⟨qz x.o.symm,d.o⟩
theorem mN (l:List ByteArray) (a:Option Addr) (c:Nat) (w:World) (hA:qv w 0 w.heap.size a l) (hl:l.length<=4294967296) (hs:∀s ∈ l,s.size<=4294967296) :
 Calls Tryz.prog 137 #[.slice a l.length c,.func (.func (139:Nat)) #[] #[]] w fun e w'=>e=.returned (.bool (decide (l.length<=32) && l.all preB))/\Below w.heap.size w w':=by
 have H:=U hA;have I:=U hs;clear hA hs;obtain ⟨n,D⟩:=O1 l.length;have E:=U D;rw [<- D] at hl ⊢;clear D;obtain ⟨V,C⟩:=O1 ((decide (n<=32) && l.all preB));have v:=U C;rw [<- C];clear C;by_cases h32:32<n
 . rw [Z7 (by omega),V0] at v;have J:decide (32<(n:Int))=true:=by rw [Q6];omega
   go_enter Tryz.func137,Tryz.ntmps137;go_wp2;go_ret;exact ⟨qz v.o.symm,Z0 _ _⟩
 have J:decide (32<(n:Int))=false:=by rw [Y4];omega
 rw [J2 (by omega),X4] at v;go_enter Tryz.func137,Tryz.ntmps137;go_wp2;go_loopw [6,12] (fun _ i wr=>∃k:Nat,k<=n/\i=.int .i64 k/\(∀j (h:j<l.length),j<k->preB l[j]=true)/\Below w.heap.size w wr) (fun _ i _=>n - (intOf i).toNat)
 case atStart=>exact ⟨0,by omega,rfl,fun j _ h=>by omega,Z0 _ _⟩
 case round =>
  obtain ⟨k,Q,rfl,z,x⟩:=hrel;have r:=U z;have g:=U x;clear z x;by_cases hlt:k<n
  . have p:k<l.length:=by rw [<- E.o];exact hlt
    obtain ⟨b,o,L,-,P,K⟩:=(H.o.below g.o lz lz lz).at k p;subst L;have R:(0:Int)<=(k:Int):=by omega
    have S:(k:Int)<(n:Int):=by omega
    have M:decide ((k:Int)<(n:Int))=true:=by simpa using hlt
    have d:=U (gj (f:=preB) p);have m:=U (show preB l[k]=true->∀j (h:j<l.length),j<k+1->preB l[j]=true from fun h0 j hj hjk=>by
     rcases Y1.1 hjk with h1|h1
     . exact r.o j hj h1
     . subst h1;exact h0)
    have A:=I.o l[k] (J7 p);obtain ⟨q,F⟩:=O1 (l[k]);rw [<- F] at K d m A;have B:=U (fun w=>tE q w (by omega));obtain ⟨y,G⟩:=O1 (preB q);rw [<- G] at B d m;clear F G A;cases y with
    | false => have u:=U (v.o.trans (d.o rfl));go_wp2_with (go_at_call 139;refine (B.o _).mono ?_;rintro e N ⟨rfl,rfl⟩);go_ret;exact ⟨qz u.o.symm,g.o⟩
    | true =>
     have u:=U (m.o rfl);go_wp2_with (go_at_call 139;refine (B.o _).mono ?_;rintro e N ⟨rfl,rfl⟩);go_roundw
     case rel=>exact ⟨k+1,by omega,by go_num,u.o,g.o⟩
     case measure=>simp [intOf];omega
  . have M:decide ((k:Int)<(n:Int))=false:=by simpa using hlt
    have u:=U (v.o.trans (pu (f:=preB) (l:=l) (n:=k) (by rw [<- E.o];omega) r.o));go_wp2;go_ret;exact ⟨qz u.o.symm,g.o⟩
def fY (s:ByteArray):Nat->Nat->List Int
 | 0,_=>[]
 | n+1,i=>if i<s.size then Int.ofNat (Utf8.decode s i).1 :: fY s n (i+(Utf8.decode s i).2) else []
def runes (s:ByteArray):List Int:=fY s s.size 0
theorem gk (s:ByteArray):∀(n i:Nat) (acc:Array Value),Conv.runesFrom s n i acc=acc ++ ((fY s n i).map (Value.int .i32)).toArray
 | 0,i,acc=>by simp [Conv.runesFrom,fY]
 | n+1,i,acc=>by
  rw [Conv.runesFrom,fY];split
  . show Conv.runesFrom s n (i+(Utf8.decode s i).2) (acc.push (.int .i32 (Int.ofNat (Utf8.decode s i).1)))=_;rw [gk s n];simp
  . simp
theorem kR (s:ByteArray):Conv.runesFrom s s.size 0 #[]=((runes s).map (Value.int .i32)).toArray:=by rw [gk];simp [runes]
theorem uD (s:ByteArray):∀(n i:Nat),(fY s n i).length<=n
 | 0,_=>J0 _
 | n+1,i=>by
  rw [fY];split
  . have:=uD s n (i+(Utf8.decode s i).2);simp only [N2];omega
  . exact J8 _
theorem uL (s:ByteArray):(runes s).length<=s.size:=uD s _ _
theorem fG (l:List Int) (rep:Array Value) {i:Nat} (hi:i<l.length):((l.map (Value.int .i32)).toArray ++ rep)[i]?=some (.int .i32 (l.getD i 0)):=by rw [Array.getElem?_append_left (by simpa using hi)];simp [hi]
theorem ru (p s:ByteArray) (w:World) (hp:p.size<=9223372036854775807) (hs:s.size<=9223372036854775807) :
 Calls Tryz.prog 311 #[.string p,.string s] w fun e w'=>e=.returned (.bool (kV runes p s))/\Below w.heap.size w w':=by
 have C:=U (fun w=>bG p w hp);have G:=U (fun w=>gz s w hs);have q:=O0 (kV runes p s=(qN p && qN s && cH (runes p) (runes s))) rfl;have r:=O0 (qN p=true->p.size<=256) (fun h=>by unfold qN at h;simp only [J4,Q6] at h;exact h.1.1.2);have u:=O0 (qN s=true->s.size<=256) (fun h=>by unfold qN at h;simp only [J4,Q6] at h;exact h.1.1.2);obtain ⟨v,y⟩:∃b,b=qN p:=⟨_,rfl⟩;obtain ⟨x,z⟩:∃b,b=qN s:=⟨_,rfl⟩;rw [<- y] at C q r;rw [<- z] at G q u;clear y z;cases v
 . go_enter Tryz.func311,Tryz.ntmps311;go_wp2_with (go_at_call 138;refine (C.o _).mono ?_;rintro e w' ⟨rfl,a⟩;have m:=U a;clear a);go_ret;exact ⟨qz q.o.symm,m.o⟩
 cases x
 . go_enter Tryz.func311,Tryz.ntmps311;go_wp2_with (first|(go_at_call 138;refine (C.o _).mono ?_;rintro e w' ⟨rfl,a⟩;have m:=U a;clear a)|(go_at_call 34;refine (G.o _).mono ?_;rintro e w' ⟨rfl,a⟩;have j:=U a;clear a));go_ret;exact ⟨qz q.o.symm,m.o.trans (j.o.mono m.o.size)⟩
 go_enter Tryz.func311,Tryz.ntmps311;go_upto_region 3 with (first|(go_at_call 138;refine (C.o _).mono ?_;rintro e Y ⟨rfl,a⟩;have m:=U a;clear a)|(go_at_call 34;refine (G.o _).mono ?_;rintro e k ⟨rfl,a⟩;have j:=U a;clear a))
 have S:(runes p).length<=256:=Z3 (uL p) (r.o (by simp));have T:(runes s).length<=256:=Z3 (uL s) (u.o (by simp));have J:(Conv.runesFrom p p.size 0 #[]).size=(runes p).length:=by rw [kR];simp
 have K:(Conv.runesFrom s s.size 0 #[]).size=(runes s).length:=by rw [kR];simp
 have H:=run_runes_of_string (P:=Tryz.prog) k 9 204 21 p X8 Tryz.underlying204 Tryz.underlying21 (by rw [J];omega);rw [J] at H;obtain ⟨D,A⟩:∃g,g=grownCap k (runes p).length 0 21:=⟨_,rfl⟩;rw [<- A,kR] at H;obtain ⟨c,d⟩:∃W,W=k.drew.alloc (.cells (((runes p).map (Value.int .i32)).toArray ++ Array.replicate (D - (runes p).length) (.int .i32 0)) 21):=⟨_,rfl⟩;rw [<- d] at H;have I:=run_runes_of_string (P:=Tryz.prog) c 9 204 21 s X8 Tryz.underlying204 Tryz.underlying21 (by rw [K];omega);rw [K] at I;obtain ⟨E,B⟩:∃g,g=grownCap c (runes s).length 0 21:=⟨_,rfl⟩;rw [<- B,kR] at I;obtain ⟨l,f⟩:∃W,W=c.drew.alloc (.cells (((runes s).map (Value.int .i32)).toArray ++ Array.replicate (E - (runes s).length) (.int .i32 0)) 21):=⟨_,rfl⟩;rw [<- f] at I;have v:Below k.heap.size k c:=by rw [d];exact (Below.drewN (Z0 _ _) 1).alloc lz _
 have x:Below c.heap.size c l:=by rw [f];exact (Below.drewN (Z0 _ _) 1).alloc lz _
 have Q:k.heap.size<c.heap.size:=by rw [d];simp
 have X:c.heap.size<l.heap.size:=by rw [f];simp
 have x1:c.heap[k.heap.size]?=some (.cells (((runes p).map (Value.int .i32)).toArray ++ Array.replicate (D - (runes p).length) (.int .i32 0)) 21 (0,0)):=by rw [d];exact Z4 k.drew _
 have x2:l.heap[c.heap.size]?=some (.cells (((runes s).map (Value.int .i32)).toArray ++ Array.replicate (E - (runes s).length) (.int .i32 0)) 21 (0,0)):=by rw [f];exact Z4 c.drew _
 have M:xe l 0 l.heap.size (some ⟨k.heap.size,0,none⟩) (runes p):=(by refine .inr ⟨_,0,rfl,J8 _,by omega,fun i hi=>?_⟩;have V:=(x.block _ Q).trans x1;have L:=fG (runes p) (Array.replicate (D - (runes p).length) (.int .i32 0)) hi;simp only [World.cell?,V];simpa using L);have N:xe l 0 l.heap.size (some ⟨c.heap.size,0,none⟩) (runes s):=(by refine .inr ⟨_,0,rfl,J8 _,by omega,fun i hi=>?_⟩;have L:=fG (runes s) (Array.replicate (E - (runes s).length) (.int .i32 0)) hi;simp only [World.cell?,x2];simpa using L);have R:=U (nD (runes p) (runes s) _ _ D E l M N (by omega) (by omega));have o:=U (m.o.trans ((j.o.trans ((v.trans (x.mono v.size)).mono j.o.size)).mono m.o.size));clear M N x1 x2 Q X v x d f A B J K S T;go_wp2_with (go_at_call 312;refine R.o.mono ?_;rintro e Z ⟨rfl,a⟩;have F:=U a;clear a);go_ret;exact ⟨qz q.o.symm,o.o.trans (F.o.mono o.o.size)⟩
theorem fB {α:Type} {f:α->Bool} {l:List α} {n:Nat} (hn:l.length<=n) (h:∀j (hj:j<l.length),j<n->f l[j]=false):l.any f=false:=by rw [List.any_eq_false];intro x hx;obtain ⟨j,hj,rfl⟩:=Y3 hx;rw [h j hj (by omega)];decide
theorem mS {α:Type} {f:α->Bool} {l:List α} {k:Nat} (hk:k<l.length) (h:f l[k]=true):l.any f=true :=
 za6.2 ⟨_,J7 hk,h⟩
theorem sK (l:List ByteArray) (path:ByteArray) (a:Option Addr) (c:Nat) (w:World) (hA:qv w 0 w.heap.size a l) (hl:l.length<=4294967296) (hs:∀s ∈ l,s.size<=4294967296) (hp:path.size<=4294967296) :
 Calls Tryz.prog 310 #[.slice a l.length c,.string path] w fun e w'=>(∃n,e=.returned (.tuple #[.int .i64 n,.bool (l.any fun q=>kV runes q path)]))/\Below w.heap.size w w':=by
 have H:=U hA;have I:=U hs;clear hA hs;obtain ⟨n,D⟩:=O1 l.length;have E:=U D;rw [<- D] at hl ⊢;clear D;go_enter Tryz.func310,Tryz.ntmps310;go_wp2;go_loopw [6,7,10] (fun _ _ i wr=>∃k:Nat,k<=n/\i=.int .i64 k/\(∀j (h:j<l.length),j<k->kV runes l[j] path=false)/\Below w.heap.size w wr) (fun _ _ i _=>n - (intOf i).toNat)
 case atStart=>exact ⟨0,by omega,rfl,fun j _ h=>by omega,Z0 _ _⟩
 case round =>
  obtain ⟨k,N,rfl,A,z⟩:=hrel;have v:=U A;have d:=U z;clear A z;by_cases hlt:k<n
  . have r:k<l.length:=by rw [<- E.o];exact hlt
    obtain ⟨b,o,K,-,u,J⟩:=(H.o.below d.o lz lz lz).at k r;subst K;have P:(0:Int)<=(k:Int):=by omega
    have Q:(k:Int)<(n:Int):=by omega
    have L:decide ((k:Int)<(n:Int))=true:=by simpa using hlt
    have g:=U (mS (f:=fun q=>kV runes q path) r);have p:=U (show kV runes l[k] path=false->∀j (h:j<l.length),j<k+1->kV runes l[j] path=false from fun h0 j hj hjk=>by
     rcases Y1.1 hjk with h1|h1
     . exact v.o j hj h1
     . subst h1;exact h0)
    have B:=I.o l[k] (J7 r);obtain ⟨q,F⟩:=O1 (l[k]);rw [<- F] at J g p B;have C:=U (fun w=>ru q path w (by omega) (by omega));obtain ⟨y,G⟩:=O1 (kV runes q path);rw [<- G] at C g p;clear F G B;cases y with
    | true => have x:=U (g.o rfl);go_wp2_with (go_at_call 311;refine (C.o _).mono ?_;rintro e M ⟨rfl,u⟩;have m:=U u;clear u);go_ret2;exact ⟨⟨_,by rw [x.o];rfl⟩,d.o.trans (m.o.mono d.o.size)⟩
    | false =>
     have x:=U (p.o rfl);go_wp2_with (go_at_call 311;refine (C.o _).mono ?_;rintro e M ⟨rfl,u⟩;have m:=U u;clear u);go_roundw
     case rel=>exact ⟨k+1,by omega,by go_num,x.o,d.o.trans (m.o.mono d.o.size)⟩
     case measure=>simp [intOf];omega
  . have L:decide ((k:Int)<(n:Int))=false:=by simpa using hlt
    have x:=U (fB (f:=fun q=>kV runes q path) (l:=l) (n:=k) (by rw [<- E.o];omega) v.o);go_wp2;go_ret2;exact ⟨⟨_,by rw [x.o];rfl⟩,d.o⟩
theorem oR (l:List ByteArray) (path:ByteArray) (a:Option Addr) (c:Nat) (w:World) (hA:qv w 0 w.heap.size a l) (hl:l.length<=4294967296) (hs:∀s ∈ l,s.size<=4294967296) (hp:path.size<=4294967296) :
 Calls Tryz.prog 309 #[.slice a l.length c,.string path] w fun e w'=>e=.returned (.bool (l.any fun q=>kV runes q path))/\Below w.heap.size w w':=by
 have f:=U (sK l path a c w hA hl hs hp);clear hA;go_enter Tryz.func309,Tryz.ntmps309;go_wp2_with (go_at_call 310;refine f.o.mono ?_;rintro e g ⟨⟨m,rfl⟩,d⟩;have b:=U d;clear d);go_ret;exact ⟨rfl,b.o⟩
theorem gv (l:List DelegV) (role:ByteArray) (a:Option Addr) (c:Nat) (w:World) (hA:zk w 0 w.heap.size a l) (hl:l.length<=4294967296) :
 Calls Tryz.prog 126 #[.slice a l.length c,.string role] w fun e w'=>e=.returned (.bool (l.any fun y=>decide (y.name=role)))/\Below w.heap.size w w':=by
 have T:=U hA;clear hA;obtain ⟨n,H⟩:=O1 l.length;have J:=U H;rw [<- H] at hl ⊢;clear H;obtain ⟨V,G⟩:=O1 (l.any (fun y=>decide (y.name=role)));have K:=U G;rw [<- G];clear G;go_enter Tryz.func126,Tryz.ntmps126;go_wp2;go_loopw [6,9] (fun _ i wr=>∃k:Nat,k<=n/\i=.int .i64 k/\(∀j (h:j<l.length),j<k->decide (l[j].name=role)=false)/\Below w.heap.size w wr) (fun _ i _=>n - (intOf i).toNat)
 case atStart=>exact ⟨0,by omega,rfl,fun j _ h=>by omega,Z0 _ _⟩
 case round =>
  obtain ⟨k,hk,rfl,D,A⟩:=hrel;have u:=U D;have d:=U A;clear D A;by_cases hlt:k<n
  . have B:k<l.length:=by rw [<- J.o];exact hlt
    obtain ⟨b,o,ha,-,hb,M,N,P,Q,R,S,L,W,X,Y,Z,e5,-⟩:=(T.o.below d.o lz lz d.o.size).at k B;subst ha;have m1:(0:Int)<=(k:Int):=by omega
    have m2:(k:Int)<(n:Int):=by omega
    have m3:decide ((k:Int)<(n:Int))=true:=by simpa using hlt
    have g:=U (mS (f:=fun y:DelegV=>decide (y.name=role)) B);have q:=U (show decide (l[k].name=role)=false->∀j (h:j<l.length),j<k+1->decide (l[j].name=role)=false from fun h0 j hj hjk=>by
     rcases Y1.1 hjk with h1|h1
     . exact u.o j hj h1
     . subst h1;exact h0)
    have p:=O0 ((l[k].name.toList == role.toList)=decide (l[k].name=role)) ba_eq;obtain ⟨r,C⟩:=O1 (l[k].name);rw [<- C] at L g q p;obtain ⟨y,I⟩:=O1 (decide (r=role));have hq:(r.toList == role.toList)=y:=by rw [I];exact p.o
    rw [<- I] at g q;clear C I p;generalize l[k].au=au at *;generalize l[k].term=tm at *;generalize l[k].paths=ps at *;generalize l[k].pres=qs at *;obtain ⟨F,m⟩:=O1 (wr.alloc (.cells #[.string r,.int .i64 au.thr,.slice M au.ids.length N,.bool tm,.slice P ps.length Q,.slice R qs.length S] 41));have z:Below wr.heap.size wr F:=by rw [m];exact (Z0 _ _).alloc lz _
    have E:F.heap[wr.heap.size]?=some (.cells #[.string r,.int .i64 au.thr,.slice M au.ids.length N,.bool tm,.slice P ps.length Q,.slice R qs.length S] 41 (0,0)):=by rw [m];exact Z4 wr _
    have s:=U (O2 d z);have x:=U m;have z0:=qq E (j:=0) rfl;clear z E m;go_upto_region 4 with fail
    rw [<- x.o];clear L W X Y Z e5 x;cases y with
    | false =>
     have v:=U (q.o rfl);go_wp2;go_roundw
     case rel=>exact ⟨k+1,by omega,by go_num,v.o,s.o⟩
     case measure=>simp [intOf];omega
    | true => have v:=U (K.o.trans (g.o rfl));go_wp2;go_ret;exact ⟨qz v.o.symm,s.o⟩
  . have m3:decide ((k:Int)<(n:Int))=false:=by simpa using hlt
    have v:=U (K.o.trans (fB (f:=fun y:DelegV=>decide (y.name=role)) (l:=l) (n:=k) (by rw [<- J.o];omega) u.o));go_wp2;go_ret;exact ⟨qz v.o.symm,d.o⟩
end Go.Proofs.YthgembbgcbaghaaGreatDoor
