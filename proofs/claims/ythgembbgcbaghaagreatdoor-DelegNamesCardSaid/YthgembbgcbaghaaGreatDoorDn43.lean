import Derived.Test.YthgembbgcbaghaaGreatDoorDn42
import Derived.Test.YthgembbgcbaghaaGreatDoorDn40
import Derived.Test.YthgembbgcbaghaaGreatDoorDn37
import Derived.Test.YthgembbgcbaghaaGreatDoorDn35
set_option maxHeartbeats 16000000
set_option maxRecDepth 100000

namespace Go.Proofs.YthgembbgcbaghaaGreatDoor
open Go.RowKit Go.Shelf Go.Sort
theorem rp (l:List Key2) (a:Option Addr) (c:Nat) (w:World) (x:xv w 0 w.heap.size a l) (z:zc l=true) (y:Tabs w) :
 Calls Tryz.prog 37 #[.slice a l.length c] w fun e w'=>∃an cn ai ci,e=.returned (.tuple #[.agg #[.int .u8 5,.int .i64 0,.string ⟨#[]⟩,.slice an l.length cn,.slice ai l.length ci],.int .i64 0])/\Rep w' w.heap.size w'.heap.size (zP l) (.agg #[.int .u8 5,.int .i64 0,.string ⟨#[]⟩,.slice an l.length cn,.slice ai l.length ci])/\O5 w w':=by
 obtain ⟨p,b,d⟩:=zo.1 z;refine (hY l a c w x (by omega) (fun k hk=>by have:=bJ (b k hk);omega) y).mono ?_;rintro e w' ⟨u,v,-,-,i⟩;have h:vI l=0:=aB b d p;obtain ⟨m,r,s,rfl⟩:=v h;obtain rfl:m=l:=fI r s d;rw [h] at i;obtain ⟨an,cn,ai,ci,f,g,q⟩:=i;have j:(zP m).names.length=m.length:=J6 ..;have o:(zP m).items.length=m.length:=J6 ..;rw [j,o] at f g;exact ⟨an,cn,ai,ci,f,g,q⟩
theorem vq:∀(l:List ByteArray),(∀x ∈ l,x.size<=1000000)->(qm l).wt<=1+1000001 * l.length:=fun l h=>by
 have h1:∀l:List ByteArray,(∀x ∈ l,x.size<=1000000)->JV.wts (l.map txtJ)<=1000001 * l.length:=fun l=>by
  induction l with
  | nil=>intro _;simp [JV.wts]
  | cons x r ih => intro h;have h1:=h x (V7 ..);have h2:=ih fun y hy=>h y (Y4 _ hy);rw [Y9,JV.wts,jf,G6];omega
 have h2:=h1 l h;have e2:(qm l).wt=1+JV.wts (l.map txtJ):=(by show 1+(⟨#[]⟩:ByteArray).size+ql [] + JV.wts (l.map txtJ)=_;rfl);omega
theorem fd (b:Bool):(qA b).wt=1:=by cases b <;> rfl
theorem fl {x:DelegV} (h:qV x=true):(qQ x).wt<=50000000:=by
 obtain ⟨g,⟨-,i,c⟩,⟨j,d⟩,⟨k,e⟩⟩:=vG h;have f:=vq _ c;rw [show qQ x=z7 (zG x) from rfl,cZ];unfold zG;split
 . have b:=vq _ d;show 1+ql [qp,zb,xm,trmN,thrN] + ((qm x.au.ids).wt+((txtJ x.name).wt+((qm x.paths).wt+((qA x.term).wt+((qZ x.au.thr).wt+0)))))<=_;have a:ql [qp,zb,xm,trmN,thrN]<=100:=by decide
   rw [jf,fd,wT];omega
 . have b:=vq _ e;show 1+ql [qp,zb,zY,trmN,thrN] + ((qm x.au.ids).wt+((txtJ x.name).wt+((qm x.pres).wt+((qA x.term).wt+((qZ x.au.thr).wt+0)))))<=_;have a:ql [qp,zb,zY,trmN,thrN]<=100:=by decide
   rw [jf,fd,wT];omega
theorem wY:∀(l:List DelegV),(∀x ∈ l,qV x=true)->JV.wts (l.map qQ)<=50000000 * l.length
 | [],_=>by simp [JV.wts]
 | x :: r,h=>by have h1:=fl (h x (V7 ..));have h2:=wY r fun y hy=>h y (Y4 _ hy);rw [Y9,JV.wts,G6];omega
theorem fs (l:List JV):(qk l).wt=1+JV.wts l:=by show 1+(⟨#[]⟩:ByteArray).size+ql [] + JV.wts l=_;rfl
theorem mX {b:BinsV} (h:zk b=true):(z8 b).wt<=50000000:=by
 obtain ⟨-,a,-,e⟩:=j5 h;have c:=xV a;have f:=vq b.au.ids fun s hs=>by have:=(vM (jN _ _ c.2.2 s hs)).2;omega
 rw [show z8 b=z7 (pE b) from rfl,cZ];show 1+ql [jl,qp,jS,thrN] + ((qZ b.bits).wt+((qm b.au.ids).wt+((txtJ b.pre).wt+((qZ b.au.thr).wt+0))))<=_;have d:ql [jl,qp,jS,thrN]<=100:=by decide
 rw [jf,wT,wT];omega
theorem rf {B g cap k:Nat} {wr q z v:World} {p:Value} {cs:List Value} {l:List JV} {it:JV} {an ai:Option Addr} {cn ci lo hi e:Nat} (u:wr.ownsRow B e 5 p k cs) (y:q6 wr B (fun b=>p.ownBlock=some b) l cs)
 (s:O5 wr q) (D:B<=wr.heap.size) (C:wr.heap.size<=lo) (A:hi<=q.heap.size) (x:Rep q lo hi it (.agg #[.int .u8 it.kind,.int .i64 it.n,.string it.t,.slice an it.names.length cn,.slice ai it.items.length ci]))
 (o:O5 q z) (w:z.grownBy v p.ownBlock) (r:p.ownBlock=some g\/q.heap.size<=g) :
 q6 v B (fun b=>(Value.slice (some ⟨g,0,none⟩) (k+1) cap).ownBlock=some b) (l ++ [it]) (cs ++ [.int .u8 it.kind,.int .i64 it.n,.string it.t,.slice an it.names.length cn,.slice ai it.items.length ci]):=by
 have f:=s.size;have j:=o.size;have i:=w.size;have c:∀b,p.ownBlock=some b->b<wr.heap.size:=fun b hb=>(u.lt b hb).2;have m:∀b,b<wr.heap.size->p.ownBlock≠some b->v.heap[b]?=wr.heap[b]?:=fun b hb hne=>by rw [w.block b (by omega) (fun e=>hne e.symm),o.block b (by omega),s.block b hb]
 have a:∀b,(Value.slice (some ⟨g,0,none⟩) (k+1) cap).ownBlock=some b->b=g:=fun b hb=>by simp [Value.ownBlock] at hb;exact hb.symm
 have d:=y.carry (w':=v) (base':=B) (X':=fun b=>(Value.slice (some ⟨g,0,none⟩) (k+1) cap).ownBlock=some b) (by omega) lz (fun b hb hx=>m b hb hx) (fun b hx=>by
  rw [a b hx];rcases r with h|h
  . exact .inl h
  . exact .inr (by omega))
 refine d.snoc it lo hi an cn ai ci (by omega) (by omega) (fun b hx hb=>?_) (Rep.carry lz lz (fun b h1 h2=>?_) _ _ x)
 . rw [a b hx] at hb;rcases r with h|h
   . have:=c g h;omega
   . omega
 . rw [w.block b (by omega) (fun e=>by have:=c b e.symm;omega),o.block b (by omega)]
theorem mJ {u:JV} {w w':World} {e:Ending} (h:kY u w e w') (j:u.kind=5) (k:u.n=0) (l:u.t=⟨#[]⟩):wC u w e w':=by
 obtain ⟨b,d,a,c,f,g,i⟩:=h;refine ⟨b,d,a,c,?_,?_,i⟩
 . rw [f,j,k,l]
 . rw [j,k,l];exact g
theorem gf (l:List Key2) (rs:List DelegV) (t p3:Int) (ids:List ByteArray) (p4:ByteArray) (ka ra ba:Option Addr) (kc rc bc:Nat) (w:World) (hI:DelegsIn w 0 w.heap.size ⟨l,rs,⟨p3,p4,⟨t,ids⟩⟩⟩ ka ra ba) (hm:xz ⟨l,rs,⟨p3,p4,⟨t,ids⟩⟩⟩=true) (hT:Tabs w) :
 Calls Tryz.prog 85 #[.agg #[.slice ka l.length kc,.slice ra rs.length rc,.int .i64 t,.slice ba ids.length bc,.int .i64 p3,.string p4]] w (kY (qo ⟨l,rs,⟨p3,p4,⟨t,ids⟩⟩⟩) w):=by
 have a1:=hm;rw [jh,Q0] at a1;dsimp only at a1;obtain ⟨hk,a1⟩:=a1;have o7:=U hk;have f3:=U a1;have o5:l.length<=32:=(zo.1 hk).1;obtain ⟨W,hW⟩:=O1 ((w.alloc (.cells #[.slice ka l.length kc,.slice ra rs.length rc,.int .i64 t,.slice ba ids.length bc,.int .i64 p3,.string p4] 35)).alloc (.cells #[.int .u8 0,.int .i64 0,.string ⟨#[]⟩,.slice none 0 0,.slice none 0 0] 25));have b8:(w.alloc (.cells #[.slice ka l.length kc,.slice ra rs.length rc,.int .i64 t,.slice ba ids.length bc,.int .i64 p3,.string p4] 35)).heap.size=w.heap.size+1:=by simp
 have z:O5 w W:=by rw [hW];exact (O4).alloc (by simp) _
 have hx:W.heap[w.heap.size]?=some (.cells #[.slice ka l.length kc,.slice ra rs.length rc,.int .i64 t,.slice ba ids.length bc,.int .i64 p3,.string p4] 35 (0,0)):=by rw [hW];exact ze w _ _
 have i9:W.rowIs (w.heap.size+1) 25 5 (qB (.int .u8 0) (.int .i64 0) (.string ⟨#[]⟩) (.slice none 0 0) (.slice none 0 0)):=(by have:=qt (w.alloc (.cells #[.slice ka l.length kc,.slice ra rs.length rc,.int .i64 t,.slice ba ids.length bc,.int .i64 p3,.string p4] 35)) (.int .u8 0) (.int .i64 0) (.string ⟨#[]⟩) (.slice none 0 0) (.slice none 0 0) 25;rw [b8,<- hW] at this;exact this);have HC:=U (show ∀w':World,O5 W w'->w'.cell? ⟨w.heap.size,0,none⟩=some (.slice ka l.length kc)/\w'.cell? ⟨w.heap.size,1,none⟩=some (.slice ra rs.length rc)/\w'.cell? ⟨w.heap.size,2,none⟩=some (.int .i64 t)/\w'.cell? ⟨w.heap.size,3,none⟩=some (.slice ba ids.length bc)/\w'.cell? ⟨w.heap.size,4,none⟩=some (.int .i64 p3)/\w'.cell? ⟨w.heap.size,5,none⟩=some (.string p4) from fun w' h=>by
  have y:=(h.block _ (qz hx)).trans hx;exact ⟨qq y rfl,qq y rfl,qq y rfl,qq y rfl,qq y rfl,qq y rfl⟩)
 have c1:=U i9;have HB:=U z;have b1:=O0 (w.heap.size+2<=W.heap.size) i9.lt;have HW:=U hW;have HI:=O0 (∀w':World,O5 W w'->DelegsIn w' 0 w'.heap.size ⟨l,rs,⟨p3,p4,⟨t,ids⟩⟩⟩ ka ra ba) (fun w' h=>hI.below (z.trans (h.mono z.size)) lz lz (Z5 z.size h.size));have j1:=U (rp l ka kc W (HI.o W (Z0 _ _)).keys hk (hT.below z));have f4:=U (fun w'=>ve t p3 ids p4 ba bc w');have n7:=O0 (∀w':World,O5 W w'->zk ⟨p3,p4,⟨t,ids⟩⟩=true->_) (fun w' h hmb=>gl p3 t ids p4 ba bc w' (HI.o w' h).bids hmb);have HJ:=O0 (qo ⟨l,rs,⟨p3,p4,⟨t,ids⟩⟩⟩=z7 (zp ⟨l,rs,⟨p3,p4,⟨t,ids⟩⟩⟩)) rfl;have k5:=U (show (zP l).wt<=4294967296 from by
  have:=fF (m:=l) (fun k hk'=>by have:=bJ ((zo.1 hk).2.1 k hk');omega);omega)
 obtain ⟨J,hJ⟩:=O1 (qo ⟨l,rs,⟨p3,p4,⟨t,ids⟩⟩⟩);rw [<- hJ] at HJ ⊢;obtain ⟨nb,i7⟩:=O1 (zK ⟨p3,p4,⟨t,ids⟩⟩);rw [<- i7] at f4 f3;have k1:=U i7;clear hW z hx i9 b8 hI hm a1 hk hJ i7 hT;obtain ⟨q0,q1,q2,q3,q4,q5⟩:=HC.o W (Z0 _ _);go_enter Tryz.func85,Tryz.ntmps85;go_upto_region 1 with fail
 rw [<- HW.o];clear HW;go_wp2_with fail;refine j1.o.mono ?_;clear j1 q0 q1 q2 q3 q4 q5;rintro r w1 ⟨an,cn,ai,ci,rfl,m4,l1⟩;obtain ⟨W2,c3⟩:=O1 (w1.alloc (.cells #[.int .u8 5,.int .i64 0,.string ⟨#[]⟩,.slice an l.length cn,.slice ai l.length ci] 25));have d3:=O7 c3
 have m9:=O9 c3
 have k3:=U m4;have e6:=U l1;have I:=U d3;have k7:=U c3;obtain ⟨z0,z1,z2,z3,z4⟩:=bx5 m9;clear m4 l1 d3 m9 c3;go_upto_region 2 with fail
 rw [<- k7.o];clear k7;obtain ⟨W3,c4⟩:=O1 (W2.alloc (.cells #[.string ⟨#[107,101,121,115]⟩,.int .u8 5,.int .i64 0,.string ⟨#[]⟩,.slice an l.length cn,.slice ai l.length ci] 169));have d4:=O7 c4
 have n0:=O9 c4
 obtain ⟨g0,i3⟩:=O1 W2.heap.size;have n8:=U i3;have b3:O5 w1 W3:=O2 I d4;have j2:=U (show MemsAt W.heap.size W3 (.slice (some ⟨g0,0,none⟩) 1 1) [(⟨qD,5,0,⟨#[]⟩,an,l.length,cn,ai,l.length,ci⟩:Mem)] [zP l] from by
  rw [i3];exact MemsAt.one (⟨qD,5,0,⟨#[]⟩,an,l.length,cn,ai,l.length,ci⟩:Mem) (zP l) W.heap.size w1.heap.size (Z5 e6.o.size I.o.size) lz I.o.size (k3.o.below b3 lz lz lz) n0)
 have e7:=U (O2 e6 b3);have k8:=U c4;clear d4 n0 c4 i3 b3 k3;go_upto_region 3 with fail
 rw [<- k8.o,<- n8.o];clear k8 z0 z1 z2 z3 z4;obtain ⟨q0,q1,q2,q3,q4,q5⟩:=HC.o W3 e7.o;go_wp2_with fail;refine (f4.o _).mono ?_;clear f4 q0 q1 q2 q3 q4 q5;rintro r w4 ⟨rfl,h6⟩;have j3:=U (j2.o.below h6);have D:=U (O2 e7 h6);obtain ⟨q0,q1,q2,q3,q4,q5⟩:=HC.o w4 D.o;clear h6 j2 I;obtain ⟨i1,l3,n1,n2,n3⟩:=V2 kM;cases nb with
 | true =>
  have o0:=O0 (zt rs=true) f3.o;have H:=U (show rs.length<=64/\∀x ∈ rs,qV x=true from by
   have h:=o0.o;unfold zt at h;simp only [Q0,Z7] at h;exact ⟨h.1.1,fun x hx=>X3.1 h.1.2 x hx⟩)
  replace HJ:=U (show J=z7 [(qD,zP l),(xZ,qk (rs.map qQ))] from by
   rw [HJ.o];unfold zp;rw [Q1 k1.o.symm])
  obtain ⟨i0,l2,n4,b8,n5⟩:=V2 xY;obtain ⟨nn,d0⟩:=O1 rs.length;have k2:=U d0;have p2:nn<=64:=by rw [d0];exact H.o.1
  rw [<- d0] at HC q1 ⊢;clear d0;have o4:W.heap.size<=w4.heap.size:=D.o.size;go_upto_region 5 with (at_make;refine wpList_make_own _ rfl (.const (.int .i64 0)) (.tmp 25) 23 rfl W.heap.size 25 i0 _ 5 W8 l2 n4 b8 .i64 .i64 _ nn rfl rfl rfl (by rw [n5];omega) (by unfold maxLen;omega) o4 ?_;intro C hown5 hgrow5;have A:=U hown5;have E:=U (below_grown (v:=.slice none 0 0) (Z0 w4.heap.size w4) lz hgrow5 (fun b z=>by cases z));obtain ⟨q0,q1,q2,q3,q4,q5⟩:=HC.o C (D.o.trans (E.o.mono D.o.size));clear hown5 hgrow5)
  go_wp2_with fail
  go_loopw [6,8,30] (fun s6 _ i wr=>∃(k:Nat) (cs:List Value),k<=nn/\i=.int .i64 k/\wr.ownsRow W.heap.size 25 5 s6 k cs/\q6 wr W.heap.size (fun b=>s6.ownBlock=some b) ((rs.take k).map qQ) cs/\(∀b,s6.ownBlock=some b->w4.heap.size<=b)/\O5 w4 wr) (fun _ _ i _=>nn - (intOf i).toNat)
  case atStart=>exact ⟨0,[],by omega,rfl,A.o,by simpa using q6.nil _ _ _,fun b z=>by simp only [Value.ownBlock,Y2] at z;omega,E.o⟩
  case round =>
   obtain ⟨k,cs,hk,rfl,d6,m7,d5,i2⟩:=hrel;have HO:=U d6;have f6:=U m7;have e9:=U d5;have a0:=U i2;have a3:=U (O2 D i2);clear d6 m7 d5 i2 A E q0 q1 q2 q3 q4 q5;by_cases hlt:k<nn
   . have i5:k<rs.length:=by rw [<- k2.o];exact hlt
     obtain ⟨b,o,ha,-,p1,ia,ic,pa,pc,qa,qc,e0,e1,e2,e3,e4,e5,-,-,-,i4⟩:=(HI.o wr a3.o).roles.at k i5;subst ha;have m1:(0:Int)<=(k:Int):=by omega
     have m2:(k:Int)<(nn:Int):=by omega
     have m3:decide ((k:Int)<(nn:Int))=true:=by simpa using hlt
     have i6:=H.o.2 rs[k] (J1 i5);have g1:=O0 ((rs.take (k+1)).map qQ=(rs.take k).map qQ ++ [qQ rs[k]]) (by rw [Z8 i5,N0];rfl);obtain ⟨x,hx⟩:=O1 (rs[k]);rw [<- hx] at e0 e1 e2 e3 e4 e5 i4 i6 g1;clear hx;obtain ⟨nm,au,tm,ps,qs⟩:=x;obtain ⟨d1,d2⟩:=au;dsimp only at e0 e1 e2 e3 e4 e5;obtain ⟨WX,c7⟩:=O1 (wr.alloc (.cells #[.string nm,.int .i64 d1,.slice ia d2.length ic,.bool tm,.slice pa ps.length pc,.slice qa qs.length qc] 41));have c9:=O7 c7
     have Z:=O9 c7
     have z0:=qq Z (j:=0) rfl;have z1:=qq Z (j:=1) rfl;have z2:=qq Z (j:=2) rfl;have z3:=qq Z (j:=3) rfl;have z4:=qq Z (j:=4) rfl;have z5:=qq Z (j:=5) rfl;have c2:=U ((gd nm d1 d2 tm ps qs ia pa qa ic pc qc WX (i4.below c9 lz lz c9.size) i6).mono fun e w' h=>mJ h rfl rfl rfl);unfold wC at c2;obtain ⟨u,hu⟩:=O1 (qQ ⟨nm,⟨d1,d2⟩,tm,ps,qs⟩);rw [<- hu] at c2 g1;have f1:=U c9;have l0:=U c7;clear c9 Z c7 i4 i6 hu;go_upto_region 8 with fail
     rw [<- l0.o];clear e0 e1 e2 e3 e4 e5 l0;go_wp2_with fail;refine c2.o.mono ?_;clear c2 z0 z1 z2 z3 z4 z5;rintro r w6 ⟨h0,h5,g5,h4,rfl,m5,h7⟩;have k4:=U m5;have K:=U (O2 f1 h7);have L:=U (qE HO.o K.o);have o3:=O0 (wr.heap.size<=WX.heap.size/\WX.heap.size<=w6.heap.size) (⟨f1.o.size,h7.size⟩);have o9:W.heap.size<=w6.heap.size:=Z5 a3.o.size K.o.size;clear m5 h7;go_wp2_with (at_builtin;refine X9 _ rfl (.tmp 34) (.tmp 37) 23 rfl W.heap.size 25 i0 _ 5 80 W8 l2 n4 b8 n5 rfl (by omega) u6 k cs rfl (L.o.alloc _) ⟨w6.heap.size,0,none⟩ 1 1 (Array.toList #[.int .u8 u.kind,.int .i64 u.n,.string u.t,.slice h0 u.names.length h5,.slice g5 u.items.length h4]) rfl rfl (J5 (cs:=#[.int .u8 u.kind,.int .i64 u.n,.string u.t,.slice h0 u.names.length h5,.slice g5 u.items.length h4]) (t:=25) (fr:=(0,0)) (Z4 w6 _)) (by simp [Value.oneCell']) (by omega) (by unfold maxLen;omega) (by omega) (by simp;omega) (w6.heap.size+1) (by simp) ?_;intro g cap w7 hown7 hgrow7 hat7 hlt7;have o1:=U hown7;have f2:=U hgrow7;have d7:=U hat7;clear hown7 hgrow7 hat7);have f:O5 w6 (w6.alloc (.cells #[.int .u8 u.kind,.int .i64 u.n,.string u.t,.slice h0 u.names.length h5,.slice g5 u.items.length h4] 25)):=O4;have o2:=U (rf (cap:=cap) (k:=k) (g:=g) HO.o f6.o K.o a3.o.size o3.o.1 lz k4.o f f2.o (by
      rcases d7.o with h|h
      . exact .inl h
      . exact .inr (by omega)))
     have n6:=U (below_grown ((a0.o.trans (K.o.mono a0.o.size)).trans (f.mono (Z5 a0.o.size K.o.size))) (by have:=a0.o.size;have:=K.o.size;simp;omega) f2.o (fun b z=>e9.o b z));have n9:=U (show w4.heap.size<=g from by
      rcases d7.o with h|h
      . exact e9.o g h
      . have:=a0.o.size;have:=K.o.size;omega)
     clear f f2 d7 k4 L K;go_roundw
     case rel=>exact ⟨k+1,_,by omega,by go_num,o1.o,by rw [g1.o];exact o2.o,fun b z=>by simp only [Value.ownBlock,Y2] at z;have:=n9.o;omega,n6.o⟩
     case measure=>simp [intOf];omega
   . have m3:decide ((k:Int)<(nn:Int))=false:=by simpa using hlt
     have a8:=O0 (k=rs.length) (by rw [<- k2.o];omega);have m0:rs.take k=rs:=Q4 (by rw [a8.o];exact Z9 _);have k6:=U (show ∃a c,u6=.slice a k c/\zj wr W.heap.size wr.heap.size a (rs.map qQ) from by
      have h:=f6.o;rw [m0] at h;obtain ⟨a,c,h1,h2,h3⟩:=xn HO.o h (by rw [J6,<- a8.o]);refine ⟨a,c,?_,h3⟩;rw [h1,J6,<- a8.o])
     clear m0 f6 HO e9;obtain ⟨va,vc,o6,m8⟩:=k6.o;subst o6;have c0:=U (tL (rs.map qQ) va vc W.heap.size wr (by have:=b1.o;omega) m8 (by rw [J6,<- a8.o];omega) (fun x hx=>by
      obtain ⟨y,hy,rfl⟩:=V8.1 hx;have:=fl (H.o.2 y hy);omega))
     unfold fj at c0;rw [J6,<- a8.o] at c0;have R:=U (j3.o.below a0.o);clear m8 k6;go_wp2_with fail;refine c0.o.mono ?_;clear c0;rintro r C ⟨a5,c5,rfl,b5,G⟩;have a9:=U b5;have E:=U G;have f0:=U a3.o;have Y:W.heap.size<=wr.heap.size:=a3.o.size;have j0:W.heap.size<=C.heap.size:=Z5 Y G.size;have Q:=U (R.o.below G);have A:=O0 (C.ownsRow W.heap.size 169 6 (.slice (some ⟨g0,0,none⟩) 1 1) 1 (zh [(⟨qD,5,0,⟨#[]⟩,an,l.length,cn,ai,l.length,ci⟩:Mem)])) Q.o.own;have g2:=O0 (g0<wr.heap.size) ((R.o.own.lt g0 rfl).2);clear b5 G;go_upto_region 12 with (at_builtin;refine X9 _ rfl (.tmp 40) (.tmp 44) 170 rfl W.heap.size 169 i1 _ 6 96 G4 l3 n1 n2 n3 rfl (by omega) (.slice (some ⟨g0,0,none⟩) 1 1) 1 (zh [(⟨qD,5,0,⟨#[]⟩,an,l.length,cn,ai,l.length,ci⟩:Mem)]) rfl (A.o.alloc _) ⟨C.heap.size,0,none⟩ 1 1 (qU (⟨xZ,4,0,⟨#[]⟩,none,0,0,a5,k,c5⟩:Mem)) rfl rfl (J5 (cs:=#[.string ⟨#[114,111,108,101,115]⟩,.int .u8 4,.int .i64 0,.string ⟨#[]⟩,.slice none 0 0,.slice a5 k c5]) (t:=169) (fr:=(0,0)) (Z4 C _)) (xM _) (by omega) (by unfold maxLen;omega) (by omega) (by simp;omega) (C.heap.size+1) (by simp) ?_;intro g3 cap3 w6 hown6 hgrow6 hat6 hlt6;have L:=U hown6;have P:=U hgrow6;have a2:=U hat6;clear hown6 hgrow6 hat6)
     have f:O5 C (C.alloc (.cells #[.string ⟨#[114,111,108,101,115]⟩,.int .u8 4,.int .i64 0,.string ⟨#[]⟩,.slice none 0 0,.slice a5 k c5] 169)):=O4;have M:=U (below_grown ((f0.o.trans (E.o.mono Y)).trans (f.mono j0)) (by simp;omega) P.o (fun b z=>(A.o.lt b z).1));have a4:=U (show MemsAt W.heap.size w6 (.slice (some ⟨g3,0,none⟩) 2 cap3) ([(⟨qD,5,0,⟨#[]⟩,an,l.length,cn,ai,l.length,ci⟩:Mem)] ++ [(⟨xZ,4,0,⟨#[]⟩,none,0,0,a5,k,c5⟩:Mem)]) ([zP l] ++ [qk (rs.map qQ)]) from (Q.o.below f).snoc (⟨xZ,4,0,⟨#[]⟩,none,0,0,a5,k,c5⟩:Mem) (qk (rs.map qQ)) wr.heap.size C.heap.size Y (by simp) (fun b z=>by simp only [Value.ownBlock,Y2] at z;have:=g2.o;omega) (a9.o.below f lz lz lz) P.o L.o (by
      rcases a2.o with h|h
      . exact .inl h.symm
      . exact .inr ⟨g3,rfl,by simp;omega⟩))
     have g4:=U b1.o;clear A L P a2 R Q E a9 f;have a7:=U (pf (v:=.slice (some ⟨g3,0,none⟩) 2 cap3) [(qD,zP l),(xZ,qk (rs.map qQ))] (N:=[(qD,zP l),(xZ,qk (rs.map qQ))]) ⟨_,by simpa using a4.o,by simp⟩ ⟨_,_,rfl⟩ (List.Perm.refl _) zR.2.2.2.1 (by simp) (fun p hp=>by
      simp only [Y5,Y7,M3] at hp;rcases hp with rfl|rfl
      . exact k5.o
      . show (qk (rs.map qQ)).wt<=4294967296;rw [fs];have h1:=wY rs H.o.2;have h2:=H.o.1;omega) (by have:=g4.o;omega))
     clear a4;go_wp2_with fail;refine a7.o.mono ?_;clear a7;rintro e w8 ⟨T,X,S,V,rfl,b6,b4⟩;have s:O5 W w8:=O2 M b4;obtain ⟨W9,F⟩:=O1 (w8.alloc (.cells #[.int .u8 5,.int .i64 0,.string ⟨#[]⟩,.slice T 2 X,.slice S 2 V] 25));have q:=O7 F
     have b7:=O9 F
     have d:=qw (s.trans (q.mono s.size)) c1.o c1.o.lt;have f7:=U d;have f5:=U (Rep.below b6 (B:=w8.heap.size) q lz lz q.size);have b2:=O0 (w.heap.size+2<=w6.heap.size) (Z5 b1.o M.o.size);have e8:=U (HB.o.trans ((s.trans (q.mono s.size)).mono HB.o.size));obtain ⟨z0,z1,z2,z3,z4⟩:=bx5 b7;obtain ⟨t0,t1,t2,t3,t4⟩:=rc5 d;obtain ⟨s0,s1,s2,s3,s4⟩:=rf5 d;simp only [qB] at t0 t1 t2 t3 t4;have b0:=U F;clear d b6 b4 s q b7 F;go_upto_region 13 with fail
     rw [<- b0.o];clear b0;go_wp2;refine Q3 (J2 Tryz.results85 _ _ (w.heap.size+1) 25 _ (0,0) _ rfl (qJ (set5 _ _ _ _ _ f7.o)) Q6 rfl (by kernel_rfl)) rfl ?_;rw [HJ.o];refine ⟨T,X,S,V,rfl,?_,zn _ _ _ _ _ e8.o (by omega)⟩;exact Rep.carry (by have:=b2.o;omega) (show W9.heap.size<=_ by simp [World.setCell]) (fun j hj _=>js _ _ _ _ _ (by have:=b2.o;omega)) _ _ f5.o
 | false =>
  have k0:=U (show zk ⟨p3,p4,⟨t,ids⟩⟩=true from by
   have h:=f3.o;simp only [Bool.false_eq_true,if_false,Q0] at h;exact h.2)
  replace HJ:=U (show J=z7 [(qD,zP l),(xW,z8 ⟨p3,p4,⟨t,ids⟩⟩)] from by
   rw [HJ.o];unfold zp;rw [Z6 (by rw [<- k1.o];decide)])
  have b9:=U (n7.o w4 D.o k0.o);unfold kY at b9;have k9:=U (mX k0.o);obtain ⟨u,hu⟩:=O1 (z8 ⟨p3,p4,⟨t,ids⟩⟩);have o8:=O0 (u.kind=5/\u.n=0/\u.t=⟨#[]⟩) (by rw [hu];exact ⟨rfl,rfl,rfl⟩);rw [<- hu] at b9 HJ k9;clear hu;have R:=U j3.o;have f0:=U D.o;have Y:W.heap.size<=w4.heap.size:=D.o.size;go_wp2_with fail;refine b9.o.mono ?_;clear b9 q0 q1 q2 q3 q4 q5;rintro r C ⟨a6,c6,a5,c5,rfl,b5,G⟩;have a9:=U b5;have E:=U G;have j0:W.heap.size<=C.heap.size:=Z5 Y G.size;have Q:=U (R.o.below G);have A:=O0 (C.ownsRow W.heap.size 169 6 (.slice (some ⟨g0,0,none⟩) 1 1) 1 (zh [(⟨qD,5,0,⟨#[]⟩,an,l.length,cn,ai,l.length,ci⟩:Mem)])) Q.o.own;have g2:=O0 (g0<w4.heap.size) ((R.o.own.lt g0 rfl).2);clear b5 G;go_upto_region 12 with (at_builtin;refine X9 _ rfl (.tmp 46) (.tmp 51) 170 rfl W.heap.size 169 i1 _ 6 96 G4 l3 n1 n2 n3 rfl (by omega) (.slice (some ⟨g0,0,none⟩) 1 1) 1 (zh [(⟨qD,5,0,⟨#[]⟩,an,l.length,cn,ai,l.length,ci⟩:Mem)]) rfl (A.o.alloc _) ⟨C.heap.size,0,none⟩ 1 1 (qU (⟨xW,5,0,⟨#[]⟩,a6,u.names.length,c6,a5,u.items.length,c5⟩:Mem)) rfl rfl (J5 (cs:=#[.string ⟨#[115,117,99,99,105,110,99,116,95,114,111,108,101,115]⟩,.int .u8 5,.int .i64 0,.string ⟨#[]⟩,.slice a6 u.names.length c6,.slice a5 u.items.length c5]) (t:=169) (fr:=(0,0)) (Z4 C _)) (xM _) (by omega) (by unfold maxLen;omega) (by omega) (by simp;omega) (C.heap.size+1) (by simp) ?_;intro g3 cap3 w6 hown6 hgrow6 hat6 hlt6;have L:=U hown6;have P:=U hgrow6;have a2:=U hat6;clear hown6 hgrow6 hat6)
  have f:O5 C (C.alloc (.cells #[.string ⟨#[115,117,99,99,105,110,99,116,95,114,111,108,101,115]⟩,.int .u8 5,.int .i64 0,.string ⟨#[]⟩,.slice a6 u.names.length c6,.slice a5 u.items.length c5] 169)):=O4;have M:=U (below_grown ((f0.o.trans (E.o.mono Y)).trans (f.mono j0)) (by simp;omega) P.o (fun b z=>(A.o.lt b z).1));have a4:=U (show MemsAt W.heap.size w6 (.slice (some ⟨g3,0,none⟩) 2 cap3) ([(⟨qD,5,0,⟨#[]⟩,an,l.length,cn,ai,l.length,ci⟩:Mem)] ++ [(⟨xW,5,0,⟨#[]⟩,a6,u.names.length,c6,a5,u.items.length,c5⟩:Mem)]) ([zP l] ++ [u]) from (Q.o.below f).snoc (⟨xW,5,0,⟨#[]⟩,a6,u.names.length,c6,a5,u.items.length,c5⟩:Mem) (u) w4.heap.size C.heap.size Y (by simp) (fun b z=>by simp only [Value.ownBlock,Y2] at z;have:=g2.o;omega) (a9.o.below f lz lz lz) P.o L.o (by
   rcases a2.o with h|h
   . exact .inl h.symm
   . exact .inr ⟨g3,rfl,by simp;omega⟩))
  have g4:=U b1.o;clear A L P a2 R Q E a9 f;have a7:=U (pf (v:=.slice (some ⟨g3,0,none⟩) 2 cap3) [(qD,zP l),(xW,u)] (N:=[(qD,zP l),(xW,u)]) ⟨_,by simpa using a4.o,by simp⟩ ⟨_,_,rfl⟩ (List.Perm.refl _) zR.2.2.2.2 (by simp) (fun p hp=>by
   simp only [Y5,Y7,M3] at hp;rcases hp with rfl|rfl
   . exact k5.o
   . show u.wt<=4294967296;have:=k9.o;omega) (by have:=g4.o;omega))
  clear a4;go_wp2_with fail;refine a7.o.mono ?_;clear a7;rintro e w8 ⟨T,X,S,V,rfl,b6,b4⟩;have s:O5 W w8:=O2 M b4;obtain ⟨W9,F⟩:=O1 (w8.alloc (.cells #[.int .u8 5,.int .i64 0,.string ⟨#[]⟩,.slice T 2 X,.slice S 2 V] 25));have q:=O7 F
  have b7:=O9 F
  have d:=qw (s.trans (q.mono s.size)) c1.o c1.o.lt;have f7:=U d;have f5:=U (Rep.below b6 (B:=w8.heap.size) q lz lz q.size);have b2:=O0 (w.heap.size+2<=w6.heap.size) (Z5 b1.o M.o.size);have e8:=U (HB.o.trans ((s.trans (q.mono s.size)).mono HB.o.size));obtain ⟨z0,z1,z2,z3,z4⟩:=bx5 b7;obtain ⟨t0,t1,t2,t3,t4⟩:=rc5 d;obtain ⟨s0,s1,s2,s3,s4⟩:=rf5 d;simp only [qB] at t0 t1 t2 t3 t4;have b0:=U F;clear d b6 b4 s q b7 F;go_upto_region 13 with fail
  rw [<- b0.o];clear b0;go_wp2;refine Q3 (J2 Tryz.results85 _ _ (w.heap.size+1) 25 _ (0,0) _ rfl (qJ (set5 _ _ _ _ _ f7.o)) Q6 rfl (by kernel_rfl)) rfl ?_;rw [HJ.o];refine ⟨T,X,S,V,rfl,?_,zn _ _ _ _ _ e8.o (by omega)⟩;exact Rep.carry (by have:=b2.o;omega) (show W9.heap.size<=_ by simp [World.setCell]) (fun j hj _=>js _ _ _ _ _ (by have:=b2.o;omega)) _ _ f5.o
theorem ph {d:DelegsV} (h:xz d=true):(qo d).wt<=4294967296:=by
 rw [jh,Q0] at h;obtain ⟨a,h⟩:=h;have e:=fF (m:=d.keys) (fun k hk'=>by have:=bJ ((zo.1 a).2.1 k hk');omega);have f:=(zo.1 a).1;rw [show qo d=z7 (zp d) from rfl,cZ];unfold zp;split
 . rename_i hb;rw [Q1 hb] at h;unfold zt at h;simp only [Q0,Z7] at h;have c:=wY d.roles fun x hx=>X3.1 h.1.2 x hx;show 1+ql [qD,xZ] + ((zP d.keys).wt+((qk (d.roles.map qQ)).wt+0))<=_;have b:ql [qD,xZ]<=100:=by decide
   rw [fs];have:=h.1.1;omega
 . rename_i hb;rw [Z6 hb,Q0] at h;have c:=mX h.2;show 1+ql [qD,xW] + ((zP d.keys).wt+((z8 d.bins).wt+0))<=_;have b:ql [qD,xW]<=100:=by decide
   omega
theorem pu (l:List Key2) (rs:List DelegV) (t a1:Int) (ids:List ByteArray) (a2:ByteArray) (ka ra ba:Option Addr) (kc rc bc:Nat) (w:World) (hI:DelegsIn w 0 w.heap.size ⟨l,rs,⟨a1,a2,⟨t,ids⟩⟩⟩ ka ra ba) (hf:DelegsFits ⟨l,rs,⟨a1,a2,⟨t,ids⟩⟩⟩) (a3:rs.length<=rc) (hT:Tabs w) :
 Calls Tryz.prog 33 #[.agg #[.slice ka l.length kc,.slice ra rs.length rc,.int .i64 t,.slice ba ids.length bc,.int .i64 a1,.string a2]] w fun e w'=>e=.returned (.bool (qH ⟨l,rs,⟨a1,a2,⟨t,ids⟩⟩⟩))/\O5 w w':=by
 obtain ⟨W,Y⟩:=O1 (w.alloc (.cells #[.slice ka l.length kc,.slice ra rs.length rc,.int .i64 t,.slice ba ids.length bc,.int .i64 a1,.string a2] 35));have H:=O7 Y
 have hx:=O9 Y
 have L:=U (show ∀w':World,O5 W w'->w'.cell? ⟨w.heap.size,0,none⟩=some (.slice ka l.length kc)/\w'.cell? ⟨w.heap.size,1,none⟩=some (.slice ra rs.length rc)/\w'.cell? ⟨w.heap.size,2,none⟩=some (.int .i64 t)/\w'.cell? ⟨w.heap.size,3,none⟩=some (.slice ba ids.length bc)/\w'.cell? ⟨w.heap.size,4,none⟩=some (.int .i64 a1)/\w'.cell? ⟨w.heap.size,5,none⟩=some (.string a2) from fun w' h=>by
  have y:=(h.block _ (qz hx)).trans hx;exact ⟨qq y rfl,qq y rfl,qq y rfl,qq y rfl,qq y rfl,qq y rfl⟩)
 have K:=O0 (∀w':World,O5 W w'->DelegsIn w' 0 w'.heap.size ⟨l,rs,⟨a1,a2,⟨t,ids⟩⟩⟩ ka ra ba/\Tabs w') (fun w' h=>⟨hI.below (H.trans (h.mono H.size)) lz lz (Z5 H.size h.size),hT.below (H.trans (h.mono H.size))⟩);have f1:l.length<=40:=hf.len;have f2:rs.length<=70:=hf.many;have f3:a2.size<=300:=hf.pre;have X:=U hf;have i:=U H;have a0:=U a3;have c:=U ((zI ⟨l,rs,⟨a1,a2,⟨t,ids⟩⟩⟩).trans (jh ⟨l,rs,⟨a1,a2,⟨t,ids⟩⟩⟩));dsimp only at c;have b:=O0 (zc l=true->(if zK ⟨a1,a2,⟨t,ids⟩⟩ then zt rs else rs.isEmpty && zk ⟨a1,a2,⟨t,ids⟩⟩)=true->xz ⟨l,rs,⟨a1,a2,⟨t,ids⟩⟩⟩=true) (fun h1 h2=>by rw [jh];dsimp only;rw [h1,h2];rfl);have E:=U (h8 l ka kc W (K.o W (Z0 _ _)).1.keys (by omega) X.o.keys (K.o W (Z0 _ _)).2);have F:=U (fun w'=>ve t a1 ids a2 ba bc w');have G:=O0 (∀w':World,O5 W w'->_) (fun w' h=>pJ rs ra rc w' (K.o w' h).1.roles (by omega) a0.o X.o.roles);have D:=O0 (∀w':World,O5 W w'->_) (fun w' h=>yw t a1 ids a2 ba bc w' (K.o w' h).1.bids (by omega) X.o.bits X.o.au);have g:=O0 (xz ⟨l,rs,⟨a1,a2,⟨t,ids⟩⟩⟩=true->∀w':World,O5 W w'->_) (fun hm w' h=>(gf l rs t a1 ids a2 ka ra ba kc rc bc w' (K.o w' h).1 hm (K.o w' h).2).mono fun e Z h=>mJ h rfl rfl rfl);have m:=O0 (xz ⟨l,rs,⟨a1,a2,⟨t,ids⟩⟩⟩=true->(qo ⟨l,rs,⟨a1,a2,⟨t,ids⟩⟩⟩).mayB=true/\(qo ⟨l,rs,⟨a1,a2,⟨t,ids⟩⟩⟩).wt<=4294967296) (fun hm=>⟨bM hm,ph hm⟩);unfold wC at g;have M:=U Y;obtain ⟨V,hV⟩:=O1 (qH ⟨l,rs,⟨a1,a2,⟨t,ids⟩⟩⟩);rw [<- hV] at c ⊢;obtain ⟨km,Q⟩:=O1 (zc l);rw [<- Q] at c b E;obtain ⟨nb,R⟩:=O1 (zK ⟨a1,a2,⟨t,ids⟩⟩);rw [<- R] at c b F;obtain ⟨rm,S⟩:=O1 (zt rs);rw [<- S] at c b G;obtain ⟨bm,P⟩:=O1 (zk ⟨a1,a2,⟨t,ids⟩⟩);rw [<- P] at c b D;obtain ⟨J,hJ⟩:=O1 (qo ⟨l,rs,⟨a1,a2,⟨t,ids⟩⟩⟩);rw [<- hJ] at g m;obtain ⟨s,u,v,x,z,A⟩:=L.o W (Z0 _ _);clear H hx Y hI hf a3 hT f1 f2 f3 hV Q R S P hJ;go_enter Tryz.func33,Tryz.ntmps33;go_upto_region 1 with fail
 rw [<- M.o];clear M;go_wp2_with fail;refine E.o.mono ?_;clear E s u v x z A;rintro e w1 ⟨rfl,I⟩;have B:=U I;obtain ⟨s,u,v,x,z,A⟩:=L.o w1 I;clear I;cases km with
 | false => rw [K9] at c;go_wp2;go_ret;exact ⟨qx c.o.symm,i.o.trans (B.o.mono i.o.size)⟩
 | true =>
  rw [X2] at c;go_wp2_with fail;refine (F.o _).mono ?_;clear F s u v x z A;rintro e Z ⟨rfl,N⟩;have d:=U (O2 B N);obtain ⟨s,u,v,x,z,A⟩:=L.o Z d.o;clear N;cases nb with
  | true =>
   rw [Q1 rfl] at c b;go_wp2_with fail;refine (G.o Z d.o).mono ?_;clear G s u v x z A;rintro e T ⟨rfl,o⟩;have a:=U (O2 d o);obtain ⟨s,u,v,x,z,A⟩:=L.o T a.o;clear o;cases rm with
   | false => go_wp2;go_ret;exact ⟨qx c.o.symm,i.o.trans (a.o.mono i.o.size)⟩
   | true => have f:=U (b.o (by first|exact rfl|exact trivial) (by first|exact rfl|exact trivial));go_wp2_with fail;refine (g.o f.o T a.o).mono ?_;clear g s u v x z A;rintro e w4 ⟨an,cn,ai,ci,rfl,r,p⟩;have k:=U (kZ J _ w4 (m.o f.o).2 (Rep.carry (Q2 _) lz (fun _ _ _=>rfl) _ _ r));rw [(m.o f.o).1] at k;have j:=U (O2 a p);clear r p;go_wp2_with fail;refine k.o.mono ?_;rintro e w5 ⟨rfl,q⟩;have C:=U (O2 i (O2 j q));clear q;go_wp2;go_ret;exact ⟨qx c.o.symm,C.o⟩
  | false =>
   rw [Z6 (by decide)] at c b;by_cases hr0:rs=[]
   . have n1:decide ((0:Int)<(rs.length:Int))=false:=by subst hr0;rfl
     have n2:((0:Int)<(rs.length:Int))=False:=by subst hr0;simp
     have n3:decide (0<rs.length)=false:=by subst hr0;rfl
     have n4:¬0<rs.length:=by subst hr0;simp
     rw [show rs.isEmpty=true from by subst hr0;rfl,X2] at c b;clear hr0;go_wp2_with fail;refine (D.o Z d.o).mono ?_;clear D s u v x z A;rintro e T ⟨rfl,o⟩;have a:=U (O2 d o);obtain ⟨s,u,v,x,z,A⟩:=L.o T a.o;clear o;cases bm with
     | false => go_wp2;go_ret;exact ⟨qx c.o.symm,i.o.trans (a.o.mono i.o.size)⟩
     | true => have f:=U (b.o (by first|exact rfl|exact trivial) (by first|exact rfl|exact trivial));go_wp2_with fail;refine (g.o f.o T a.o).mono ?_;clear g s u v x z A;rintro e w4 ⟨an,cn,ai,ci,rfl,r,p⟩;have k:=U (kZ J _ w4 (m.o f.o).2 (Rep.carry (Q2 _) lz (fun _ _ _=>rfl) _ _ r));rw [(m.o f.o).1] at k;have j:=U (O2 a p);clear r p;go_wp2_with fail;refine k.o.mono ?_;rintro e w5 ⟨rfl,q⟩;have C:=U (O2 i (O2 j q));clear q;go_wp2;go_ret;exact ⟨qx c.o.symm,C.o⟩
   . have n4:0<rs.length:=M2.2 hr0;have n1:decide ((0:Int)<(rs.length:Int))=true:=by rw [Z7];omega
     have n2:(0:Int)<(rs.length:Int):=by omega
     have n3:decide (0<rs.length)=true:=by rw [Z7];omega
     rw [show rs.isEmpty=false from by
      cases rs with
      | nil=>exact absurd rfl hr0
      | cons _ _=>rfl,K9] at c
     clear hr0;go_wp2;go_ret;exact ⟨qx c.o.symm,i.o.trans (d.o.mono i.o.size)⟩
def vz (d:DelegsV):JV × Int:=if qH d then (qo d,0) else (qF,3)
theorem cE (l:List Key2) (rs:List DelegV) (t a0:Int) (ids:List ByteArray) (a1:ByteArray) (ka ra ba:Option Addr) (kc rc bc:Nat) (w:World) (hI:DelegsIn w 0 w.heap.size ⟨l,rs,⟨a0,a1,⟨t,ids⟩⟩⟩ ka ra ba) (hf:DelegsFits ⟨l,rs,⟨a0,a1,⟨t,ids⟩⟩⟩) (a2:rs.length<=rc) (hT:Tabs w) :
 Calls Tryz.prog 36 #[.agg #[.slice ka l.length kc,.slice ra rs.length rc,.int .i64 t,.slice ba ids.length bc,.int .i64 a0,.string a1]] w (aI (vz ⟨l,rs,⟨a0,a1,⟨t,ids⟩⟩⟩) w):=by
 obtain ⟨W,v⟩:=O1 ((w.alloc (.cells #[.slice ka l.length kc,.slice ra rs.length rc,.int .i64 t,.slice ba ids.length bc,.int .i64 a0,.string a1] 35)).alloc (.cells #[.int .u8 0,.int .i64 0,.string ⟨#[]⟩,.slice none 0 0,.slice none 0 0] 25));have A:(w.alloc (.cells #[.slice ka l.length kc,.slice ra rs.length rc,.int .i64 t,.slice ba ids.length bc,.int .i64 a0,.string a1] 35)).heap.size=w.heap.size+1:=by simp
 have o:O5 w W:=by rw [v];exact (O4).alloc (by simp) _
 have I:W.heap[w.heap.size]?=some (.cells #[.slice ka l.length kc,.slice ra rs.length rc,.int .i64 t,.slice ba ids.length bc,.int .i64 a0,.string a1] 35 (0,0)):=by rw [v];exact ze w _ _
 have x:W.rowIs (w.heap.size+1) 25 5 (qB (.int .u8 0) (.int .i64 0) (.string ⟨#[]⟩) (.slice none 0 0) (.slice none 0 0)):=(by have:=qt (w.alloc (.cells #[.slice ka l.length kc,.slice ra rs.length rc,.int .i64 t,.slice ba ids.length bc,.int .i64 a0,.string a1] 35)) (.int .u8 0) (.int .i64 0) (.string ⟨#[]⟩) (.slice none 0 0) (.slice none 0 0) 25;rw [A,<- v] at this;exact this);have HC:=U (show ∀w':World,O5 W w'->w'.cell? ⟨w.heap.size,0,none⟩=some (.slice ka l.length kc)/\w'.cell? ⟨w.heap.size,1,none⟩=some (.slice ra rs.length rc)/\w'.cell? ⟨w.heap.size,2,none⟩=some (.int .i64 t)/\w'.cell? ⟨w.heap.size,3,none⟩=some (.slice ba ids.length bc)/\w'.cell? ⟨w.heap.size,4,none⟩=some (.int .i64 a0)/\w'.cell? ⟨w.heap.size,5,none⟩=some (.string a1) from fun w' h=>by
  have y:=(h.block _ (qz I)).trans I;exact ⟨qq y rfl,qq y rfl,qq y rfl,qq y rfl,qq y rfl,qq y rfl⟩)
 have B:=O0 (∀w':World,O5 W w'->DelegsIn w' 0 w'.heap.size ⟨l,rs,⟨a0,a1,⟨t,ids⟩⟩⟩ ka ra ba/\Tabs w') (fun w' h=>⟨hI.below (o.trans (h.mono o.size)) lz lz (Z5 o.size h.size),hT.below (o.trans (h.mono o.size))⟩);have s:=U x;have Z:=U o;have u:=U v;have i:=U (pu l rs t a0 ids a1 ka ra ba kc rc bc W (B.o W (Z0 _ _)).1 hf a2 (B.o W (Z0 _ _)).2);obtain ⟨D,f⟩:=O1 (qH ⟨l,rs,⟨a0,a1,⟨t,ids⟩⟩⟩);rw [<- f] at i;have q:=U f;have k:=O0 (D=true->∀w':World,O5 W w'->_) (fun hm w' h=>gf l rs t a0 ids a1 ka ra ba kc rc bc w' (B.o w' h).1 (by rw [<- zI,<- f];exact hm) (B.o w' h).2);unfold kY at k;clear v A o I x hI hf a2 hT f;obtain ⟨K,L,M,N,P,Q⟩:=HC.o W (Z0 _ _);go_enter Tryz.func36,Tryz.ntmps36;go_upto_region 1 with fail
 rw [<- u.o];clear u;go_wp2_with fail;refine i.o.mono ?_;clear i K L M N P Q;rintro r Y ⟨rfl,c⟩;have E:=U c;obtain ⟨K,L,M,N,P,Q⟩:=HC.o Y c;have d:=qw c s.o s.o.lt;have e:=U d;have g:=U (O2 Z c);clear c;cases D with
 | false => have C:=U (show vz ⟨l,rs,⟨a0,a1,⟨t,ids⟩⟩⟩=(qF,3) by unfold vz;rw [<- q.o];rfl);obtain ⟨R,S,T,V,X⟩:=rc5 d;obtain ⟨s0,s1,s2,s3,s4⟩:=rf5 d;simp only [qB] at R S T V X;clear d;go_wp2;refine Q3 (qb Tryz.results36 _ _ (w.heap.size+1) 25 _ (0,0) _ rfl (qJ (set5 _ _ _ _ _ e.o)) Q6 rfl (by kernel_rfl) _ rfl) rfl ?_;rw [C.o];exact mD ⟨rfl,zn _ _ _ _ _ g.o (by omega)⟩
 | true => have C:=U (show vz ⟨l,rs,⟨a0,a1,⟨t,ids⟩⟩⟩=(qo ⟨l,rs,⟨a0,a1,⟨t,ids⟩⟩⟩,0) by unfold vz;rw [<- q.o];rfl);have m:=U (k.o rfl Y E.o);have a:=O0 ((qo ⟨l,rs,⟨a0,a1,⟨t,ids⟩⟩⟩).kind=5/\(qo ⟨l,rs,⟨a0,a1,⟨t,ids⟩⟩⟩).n=0/\(qo ⟨l,rs,⟨a0,a1,⟨t,ids⟩⟩⟩).t=⟨#[]⟩) (⟨rfl,rfl,rfl⟩);obtain ⟨J,hJ⟩:=O1 (qo ⟨l,rs,⟨a0,a1,⟨t,ids⟩⟩⟩);rw [<- hJ] at C m a;clear hJ d k;go_wp2_with fail;refine m.o.mono ?_;clear m K L M N P Q;rintro r w2 ⟨an,cn,ai,ci,rfl,z,p⟩;have G:=U z;have b:=qw p e.o e.o.lt;have H:=U b;have F:=U (O2 g p);have HZ:=O0 (w.heap.size+2<=Y.heap.size) e.o.lt;obtain ⟨R,S,T,V,X⟩:=rc5 b;obtain ⟨s0,s1,s2,s3,s4⟩:=rf5 b;simp only [qB] at R S T V X;clear b z p;go_wp2;refine Q3 (qb Tryz.results36 _ _ (w.heap.size+1) 25 _ (0,0) _ rfl (qJ (set5 _ _ _ _ _ H.o)) Q6 rfl (by kernel_rfl) _ rfl) rfl ?_;rw [C.o];refine ⟨an,cn,ai,ci,by rw [a.o.1,a.o.2.1,a.o.2.2];rfl,?_,zn _ _ _ _ _ F.o (by omega)⟩;dsimp only;rw [a.o.1,a.o.2.1,a.o.2.2];exact Rep.carry (by have:=HZ.o;omega) (show w2.heap.size<=_ by simp [World.setCell]) (fun j hj _=>js _ _ _ _ _ (by have:=HZ.o;omega)) _ _ G.o
def i8 (er:Int) (w:World) (e:Ending) (w':World):Prop:=∃(z0 z1:Int) (s0:ByteArray) (n0 n1 n2:Nat) (y0 y1 y2:Option Addr) (m0 m1 m2:Nat),e=.returned (.tuple #[.agg #[.slice y0 n0 m0,.slice y1 n1 m1,.int .i64 z0,.slice y2 n2 m2,.int .i64 z1,.string s0],.int .i64 er])/\O5 w w'
theorem oa (v:JV) (x:Value) (w:World) (lo:Nat) (l:0<lo) (m:v.wt<=4294967296) (o:Rep w lo w.heap.size v x) (p:Tabs w):Calls Tryz.prog 16 #[x] w (i8 (zy v).2 w):=by refine (vV v x w lo l m o p).mono ?_;rintro e w' ⟨f,g,h,i,a,b,c,j,k,d⟩;exact ⟨_,_,_,_,_,_,f,h,a,g,i,b,c,d⟩
theorem qT {w n:World} {b:Nat} {o:Obj} (h:n=w.alloc o) (a:b=w.heap.size):n.heap[b]?=some o:=by rw [h,a];exact Z4 w _
theorem dP (f:Nat->Value):frD f=⟨(f 0 :: f 1 :: f 2 :: f 3 :: f 4 :: f 5 :: f 6 :: f 7 :: f 8 :: f 9 :: f 10 :: f 11 :: f 12 :: f 13 :: f 14 :: f 15 :: f 16 :: f 17 :: f 18 :: f 19 :: f 20 :: f 21 :: f 22 :: f 23 :: f 24 :: f 25 :: f 26 :: f 27 :: f 28 :: f 29 :: f 30 :: f 31 :: f 32 :: f 33 :: f 34 :: f 35 :: f 36 :: f 37 :: f 38 :: f 39 :: f 40 :: f 41 :: f 42 :: f 43 :: f 44 :: f 45 :: f 46 :: f 47 :: f 48 :: f 49 :: f 50 :: f 51 :: f 52 :: f 53 :: f 54 :: f 55 :: f 56 :: f 57 :: f 58 :: f 59 :: f 60 :: f 61 :: f 62 :: f 63 :: f 64 :: f 65 :: f 66 :: f 67 :: f 68 :: f 69 :: f 70 :: f 71 :: f 72 :: f 73 :: f 74 :: f 75 :: f 76 :: f 77 :: f 78 :: f 79 :: f 80 :: f 81 :: f 82 :: f 83 :: f 84 :: f 85 :: f 86 :: f 87 :: f 88 :: f 89 :: f 90 :: f 91 :: f 92 :: f 93 :: f 94 :: f 95 :: f 96 :: f 97 :: f 98 :: f 99 :: f 100 :: f 101 :: f 102 :: f 103 :: f 104 :: f 105 :: f 106 :: f 107 :: f 108 :: f 109 :: f 110 :: f 111 :: f 112 :: f 113 :: f 114 :: f 115 :: f 116 :: f 117 :: f 118 :: f 119 :: f 120 :: f 121 :: f 122 :: f 123 :: f 124 :: f 125 :: f 126 :: f 127 :: f 128 :: f 129 :: f 130 :: f 131 :: f 132 :: f 133 :: f 134 :: f 135 :: f 136 :: f 137 :: f 138 :: f 139 :: f 140 :: f 141 :: f 142 :: f 143 :: f 144 :: f 145 :: f 146 :: f 147 :: f 148 :: f 149 :: f 150 :: f 151 :: f 152 :: f 153 :: f 154 :: f 155 :: f 156 :: f 157 :: f 158 :: f 159 :: f 160 :: f 161 :: f 162 :: f 163 :: f 164 :: f 165 :: f 166 :: f 167 :: f 168 :: f 169 :: f 170 :: f 171 :: f 172 :: f 173 :: f 174 :: f 175 :: f 176 :: f 177 :: f 178 :: f 179 :: f 180 :: f 181 :: f 182 :: f 183 :: f 184 :: f 185 :: f 186 :: f 187 :: f 188 :: f 189 :: f 190 :: f 191 :: f 192 :: f 193 :: f 194 :: f 195 :: f 196 :: f 197 :: f 198 :: f 199 :: f 200 :: f 201 :: f 202 :: f 203 :: f 204 :: f 205 :: f 206 :: f 207 :: f 208 :: f 209 :: f 210 :: f 211 :: f 212 :: f 213 :: f 214 :: f 215 :: f 216 :: f 217 :: f 218 :: f 219 :: f 220 :: f 221 :: f 222 :: f 223 :: f 224 :: f 225 :: f 226 :: f 227 :: f 228 :: f 229 :: f 230 :: f 231 :: f 232 :: f 233 :: f 234 :: f 235 :: f 236 :: f 237 :: f 238 :: f 239 :: f 240 :: f 241 :: f 242 :: f 243 :: f 244 :: f 245 :: f 246 :: f 247 :: f 248 :: f 249 :: f 250 :: f 251 :: f 252 :: f 253 :: f 254 :: f 255 :: f 256 :: f 257 :: f 258 :: f 259 :: f 260 :: f 261 :: f 262 :: f 263 :: f 264 :: f 265 :: f 266 :: f 267 :: f 268 :: f 269 :: f 270 :: f 271 :: f 272 :: f 273 :: f 274 :: f 275 :: f 276 :: f 277 :: f 278 :: f 279 :: f 280 :: f 281 :: f 282 :: f 283 :: f 284 :: f 285 :: f 286 :: f 287 :: f 288 :: f 289 :: f 290 :: f 291 :: f 292 :: f 293 :: f 294 :: f 295 :: f 296 :: f 297 :: f 298 :: f 299 :: f 300 :: f 301 :: f 302 :: f 303 :: f 304 :: f 305 :: f 306 :: f 307 :: f 308 :: f 309 :: f 310 :: f 311 :: f 312 :: f 313 :: f 314 :: f 315 :: f 316 :: f 317 :: f 318 :: f 319 :: f 320 :: f 321 :: f 322 :: f 323 :: f 324 :: f 325 :: f 326 :: f 327 :: f 328 :: f 329 :: []).toArray,[]⟩:=by kernel_rfl
theorem aU (f:Nat->Value) {a b c:Value} (d:f 208=a) (e:f 209=b) (g:f 210=c):frD f=⟨(f 0 :: f 1 :: f 2 :: f 3 :: f 4 :: f 5 :: f 6 :: f 7 :: f 8 :: f 9 :: f 10 :: f 11 :: f 12 :: f 13 :: f 14 :: f 15 :: f 16 :: f 17 :: f 18 :: f 19 :: f 20 :: f 21 :: f 22 :: f 23 :: f 24 :: f 25 :: f 26 :: f 27 :: f 28 :: f 29 :: f 30 :: f 31 :: f 32 :: f 33 :: f 34 :: f 35 :: f 36 :: f 37 :: f 38 :: f 39 :: f 40 :: f 41 :: f 42 :: f 43 :: f 44 :: f 45 :: f 46 :: f 47 :: f 48 :: f 49 :: f 50 :: f 51 :: f 52 :: f 53 :: f 54 :: f 55 :: f 56 :: f 57 :: f 58 :: f 59 :: f 60 :: f 61 :: f 62 :: f 63 :: f 64 :: f 65 :: f 66 :: f 67 :: f 68 :: f 69 :: f 70 :: f 71 :: f 72 :: f 73 :: f 74 :: f 75 :: f 76 :: f 77 :: f 78 :: f 79 :: f 80 :: f 81 :: f 82 :: f 83 :: f 84 :: f 85 :: f 86 :: f 87 :: f 88 :: f 89 :: f 90 :: f 91 :: f 92 :: f 93 :: f 94 :: f 95 :: f 96 :: f 97 :: f 98 :: f 99 :: f 100 :: f 101 :: f 102 :: f 103 :: f 104 :: f 105 :: f 106 :: f 107 :: f 108 :: f 109 :: f 110 :: f 111 :: f 112 :: f 113 :: f 114 :: f 115 :: f 116 :: f 117 :: f 118 :: f 119 :: f 120 :: f 121 :: f 122 :: f 123 :: f 124 :: f 125 :: f 126 :: f 127 :: f 128 :: f 129 :: f 130 :: f 131 :: f 132 :: f 133 :: f 134 :: f 135 :: f 136 :: f 137 :: f 138 :: f 139 :: f 140 :: f 141 :: f 142 :: f 143 :: f 144 :: f 145 :: f 146 :: f 147 :: f 148 :: f 149 :: f 150 :: f 151 :: f 152 :: f 153 :: f 154 :: f 155 :: f 156 :: f 157 :: f 158 :: f 159 :: f 160 :: f 161 :: f 162 :: f 163 :: f 164 :: f 165 :: f 166 :: f 167 :: f 168 :: f 169 :: f 170 :: f 171 :: f 172 :: f 173 :: f 174 :: f 175 :: f 176 :: f 177 :: f 178 :: f 179 :: f 180 :: f 181 :: f 182 :: f 183 :: f 184 :: f 185 :: f 186 :: f 187 :: f 188 :: f 189 :: f 190 :: f 191 :: f 192 :: f 193 :: f 194 :: f 195 :: f 196 :: f 197 :: f 198 :: f 199 :: f 200 :: f 201 :: f 202 :: f 203 :: f 204 :: f 205 :: f 206 :: f 207 :: a :: b :: c :: f 211 :: f 212 :: f 213 :: f 214 :: f 215 :: f 216 :: f 217 :: f 218 :: f 219 :: f 220 :: f 221 :: f 222 :: f 223 :: f 224 :: f 225 :: f 226 :: f 227 :: f 228 :: f 229 :: f 230 :: f 231 :: f 232 :: f 233 :: f 234 :: f 235 :: f 236 :: f 237 :: f 238 :: f 239 :: f 240 :: f 241 :: f 242 :: f 243 :: f 244 :: f 245 :: f 246 :: f 247 :: f 248 :: f 249 :: f 250 :: f 251 :: f 252 :: f 253 :: f 254 :: f 255 :: f 256 :: f 257 :: f 258 :: f 259 :: f 260 :: f 261 :: f 262 :: f 263 :: f 264 :: f 265 :: f 266 :: f 267 :: f 268 :: f 269 :: f 270 :: f 271 :: f 272 :: f 273 :: f 274 :: f 275 :: f 276 :: f 277 :: f 278 :: f 279 :: f 280 :: f 281 :: f 282 :: f 283 :: f 284 :: f 285 :: f 286 :: f 287 :: f 288 :: f 289 :: f 290 :: f 291 :: f 292 :: f 293 :: f 294 :: f 295 :: f 296 :: f 297 :: f 298 :: f 299 :: f 300 :: f 301 :: f 302 :: f 303 :: f 304 :: f 305 :: f 306 :: f 307 :: f 308 :: f 309 :: f 310 :: f 311 :: f 312 :: f 313 :: f 314 :: f 315 :: f 316 :: f 317 :: f 318 :: f 319 :: f 320 :: f 321 :: f 322 :: f 323 :: f 324 :: f 325 :: f 326 :: f 327 :: f 328 :: f 329 :: []).toArray,[]⟩:=by rw [dP,d,e,g]
theorem sX (a:Array Value) (h:a.size=330):(⟨a,[]⟩:Act)=frD (fun i=>a.getD i undef):=by
 unfold frD;congr 1;apply Array.ext
 . simp [h]
 . intro i h1 h2;simp [Array.getD,h1]
theorem mK {v:JV} (h:(zy v).2≠0):(zy v).1=delegsZ:=by
 revert h
 unfold zy vC;split
 . intro _;rfl
 . split
   . intro _;rfl
   . split
     . intro _;rfl
     . intro h;exact absurd rfl h
theorem oq (v:JV) (x:Value) (w:World) (lo:Nat) (f:0<lo) (g:v.wt<=4294967296) (i:Rep w lo w.heap.size v x) (j:Tabs w) (h:(zy v).2≠0):Calls Tryz.prog 16 #[x] w fun e w'=>∃ka kc ra rc ba bc,e=.returned (.tuple #[.agg #[.slice ka 0 kc,.slice ra 0 rc,.int .i64 0,.slice ba 0 bc,.int .i64 0,.string ⟨#[]⟩],.int .i64 (zy v).2])/\O5 w w':=by refine (vV v x w lo f g i j).mono ?_;rintro e w' ⟨ka,kc,ra,rc,ba,bc,a,c,d,b⟩;refine ⟨ka,kc,ra,rc,ba,bc,?_,b⟩;rw [mK h] at a;exact a
theorem gZ:DelegsFits ⟨[],[],⟨0,⟨#[]⟩,⟨0,[]⟩⟩⟩:=⟨by decide,fun k hk=>(by cases hk),by decide,fun x hx=>(by cases hx),⟨by decide,by decide⟩,by decide,⟨⟨by decide,by decide⟩,by decide,fun s hs=>(by cases hs)⟩⟩
theorem aM (e g c:Option Addr) (f h d:Nat) (w:World):Calls Tryz.prog 17 #[.agg #[.slice e 0 f,.slice g 0 h,.int .i64 0,.slice c 0 d,.int .i64 0,.string ⟨#[]⟩],.agg #[.slice none 0 0,.slice none 0 0,.int .i64 0,.slice none 0 0,.int .i64 0,.string ⟨#[]⟩]] w fun r w'=>r=.returned (.bool true)/\O5 w w':=by refine (fh [] [] 0 0 [] ⟨#[]⟩ e g c f h d [] [] 0 0 [] ⟨#[]⟩ none none none 0 0 0 w ⟨.inl rfl,.inl rfl,.inl rfl⟩ ⟨.inl rfl,.inl rfl,.inl rfl⟩ gZ gZ).mono ?_;rintro r w' ⟨a,b⟩;rw [Q9 rfl] at a;exact ⟨a,b⟩
theorem c8 (B:Nat) (W:World) (f:Nat->Value) (K:Act->World->Prop) (Q:Exit->Act->World->Prop) (b5:0<B) (hT:Tabs W)
 (b6:vA B 61 jr W (f 208)) (b3:f 209=.int .i64 23) (b4:f 210=.int .i64 0)
 (hK:∀(f':Nat->Value) (w':World),O5 W w'->K (frD f') w') :
 Code.wp Tryz.prog (og (tY (vg 11 (Tryz.f5.body.getD .skip)))) (Exit.then K Q) (frD f) W:=by
 conv=>arg 2;whnf
 obtain ⟨b,cs,s,A,hm,hc⟩:=b6;replace s:f 208=.slice (some ⟨b,0,none⟩) 23 23:=s;rw [aU f s b3 b4];have HK:=U hK;have HM:=U hm;have HC:=U hc;have HT:=O0 (∀w',O5 W w'->Tabs w') (fun w' h=>hT.below h);have a8:=qz hm;clear hK hm hc hT s b3 b4;go_step;go_loopw [210] (fun i wr=>∃k:Nat,k<=23/\i=.int .i64 k/\O5 W wr) (fun i _=>23 - (intOf i).toNat)
 case atStart=>exact ⟨0,by omega,rfl,Z0 _ _⟩
 case round =>
  obtain ⟨k,hk,rfl,Z⟩:=hrel;have d:=U Z;clear Z;by_cases hlt:k<23
  case pos =>
   have a9:(k:Int)<23:=by omega
   have b0:(0:Int)<=(k:Int):=by omega
   obtain ⟨⟨c0,c1,c2,c3,c4,q0,q1,q2,q3,q4,F⟩,q5⟩:=HC.o k (show k<jr.length from hlt);have H:=J1 (show k<jr.length from hlt);generalize jr[k]'(show k<jr.length from hlt)=pr at q5 F H;have M:=U (lW pr H);have C:=U (co pr H);clear H;generalize pr.1=J at F M C;generalize pr.2=E at q5 C;have r:=(d.o.block _ a8).trans HM.o;obtain ⟨T,Y,S,X,a0,a1⟩:=F;simp only [K3,K8,V4,N7] at a0;obtain ⟨rfl,rfl,rfl,rfl,rfl⟩:=a0;have y0:=qq r q0;have y1:=qq r q1;have y2:=qq r q2;have y3:=qq r q3;have y4:=qq r q4;have y5:=qq r q5;have R:=O0 (∀w',O5 W w'->Rep w' B w'.heap.size J (.agg #[.int .u8 J.kind,.int .i64 J.n,.string J.t,.slice T J.names.length Y,.slice S J.items.length X])) (fun w' h=>a1.below h lz lz h.size);clear a1 q0 q1 q2 q3 q4 q5 r;obtain ⟨bX,N⟩:=O1 wr.heap.size;obtain ⟨p,G⟩:=O1 (wr.alloc (.cells #[.int .u8 J.kind,.int .i64 J.n,.string J.t,.slice T J.names.length Y,.slice S J.items.length X,.int .i64 E] 61));have l:=O7 G
   have c:=U (show p.heap[bX]?=some (.cells #[.int .u8 J.kind,.int .i64 J.n,.string J.t,.slice T J.names.length Y,.slice S J.items.length X,.int .i64 E] 61 (0,0)) by rw [G,N];exact Z4 wr _);replace d:=U (O2 d l);have L:=U (And.intro G N);clear G l N;go_upto_region 15 with fail
   rw [<- L.o.1,<- L.o.2];clear L y0 y1 y2 y3 y4 y5;by_cases hE:E=0
   case pos =>
    subst hE;have u:=qq c.o (j:=0) rfl;have v:=qq c.o (j:=1) rfl;have w:=qq c.o (j:=2) rfl;have x:=qq c.o (j:=3) rfl;have y:=qq c.o (j:=4) rfl;have z:=qq c.o (j:=5) rfl;have D:=O0 (Calls Tryz.prog 16 #[.agg #[.int .u8 J.kind,.int .i64 J.n,.string J.t,.slice T J.names.length Y,.slice S J.items.length X]] p (i8 0 p)) (by have h:=oa J _ p B b5 M.o (R.o p d.o) (HT.o p d.o);rw [C.o] at h;exact h);go_wp2_with fail;refine D.o.mono ?_;clear D;clear u v w x y z;rintro ee I ⟨z0,z1,s0,n0,n1,n2,y0,y1,y2,m0,m1,m2,rfl,A⟩;replace d:=U (O2 d A);replace c:=U ((A.block _ (qz c.o)).trans c.o);clear A;obtain ⟨V,q⟩:=O1 I.heap.size;obtain ⟨P,m⟩:=O1 (I.alloc (.cells #[.slice y0 n0 m0,.slice y1 n1 m1,.int .i64 z0,.slice y2 n2 m2,.int .i64 z1,.string s0] 35));have l:=O7 m
    have g:=U (qT m q);replace d:=U (O2 d l);replace c:=U ((l.block _ (qz c.o)).trans c.o);have o:=U (And.intro m q);clear l m q;go_upto_region 16 with fail
    rw [<- o.o.1,<- o.o.2];clear o;have u:=qq c.o (j:=0) rfl;have v:=qq c.o (j:=1) rfl;have w:=qq c.o (j:=2) rfl;have x:=qq c.o (j:=3) rfl;have y:=qq c.o (j:=4) rfl;have z:=qq c.o (j:=5) rfl;go_wp2;go_roundw
    case rel=>exact ⟨k+1,by omega,by go_num,d.o⟩
    case measure=>simp [intOf];omega
   case neg =>
    have u:=qq c.o (j:=0) rfl;have v:=qq c.o (j:=1) rfl;have w:=qq c.o (j:=2) rfl;have x:=qq c.o (j:=3) rfl;have y:=qq c.o (j:=4) rfl;have z:=qq c.o (j:=5) rfl;have D:=O0 (Calls Tryz.prog 16 #[.agg #[.int .u8 J.kind,.int .i64 J.n,.string J.t,.slice T J.names.length Y,.slice S J.items.length X]] p (fun e w'=>∃ka kc ra rc ba bc,e=.returned (.tuple #[.agg #[.slice ka 0 kc,.slice ra 0 rc,.int .i64 0,.slice ba 0 bc,.int .i64 0,.string ⟨#[]⟩],.int .i64 E])/\O5 p w')) (by have h:=oq J _ p B b5 M.o (R.o p d.o) (HT.o p d.o) (by rw [C.o];exact hE);rw [C.o] at h;exact h);go_wp2_with fail;refine D.o.mono ?_;clear D;clear u v w x y z;rintro ee I ⟨ka,kc,ra,rc,ba,bc,rfl,A⟩;replace d:=U (O2 d A);replace c:=U ((A.block _ (qz c.o)).trans c.o);clear A;obtain ⟨V,q⟩:=O1 I.heap.size;obtain ⟨P,m⟩:=O1 (I.alloc (.cells #[.slice ka 0 kc,.slice ra 0 rc,.int .i64 0,.slice ba 0 bc,.int .i64 0,.string ⟨#[]⟩] 35));have l:=O7 m
    have g:=U (qT m q);replace d:=U (O2 d l);replace c:=U ((l.block _ (qz c.o)).trans c.o);have o:=U (And.intro m q);clear l m q;go_upto_region 16 with fail
    rw [<- o.o.1,<- o.o.2];clear o;have u:=qq c.o (j:=0) rfl;have v:=qq c.o (j:=1) rfl;have w:=qq c.o (j:=2) rfl;have x:=qq c.o (j:=3) rfl;have y:=qq c.o (j:=4) rfl;have z:=qq c.o (j:=5) rfl;have b2:(E != E)=false:=by simp
    have b1:(E != 0)=true:=by simpa using hE
    have a2:=qq g.o (j:=0) rfl;have a3:=qq g.o (j:=1) rfl;have a4:=qq g.o (j:=2) rfl;have a5:=qq g.o (j:=3) rfl;have a6:=qq g.o (j:=4) rfl;have a7:=qq g.o (j:=5) rfl;go_wp2_with fail;refine (aM ka ra ba kc rc bc _).mono ?_;rintro ee w5 ⟨rfl,A⟩;clear a2 a3 a4 a5 a6 a7;clear u v w x y z;replace d:=U (O2 d A);replace c:=U ((A.block _ (qz c.o)).trans c.o);replace g:=U ((A.block _ (qz g.o)).trans g.o);clear A;go_wp2;go_roundw
    case rel=>exact ⟨k+1,by omega,by go_num,d.o⟩
    case measure=>simp [intOf];omega
  case neg =>
   obtain rfl:k=23:=by omega
   go_wp2;exact Eq.mpr (Q7 (fun a=>K a wr) (sX _ rfl)) (HK.o _ wr d.o)
