import Derived.Test.YtkllbdlebjomkaaGreatDoorTn37
import Derived.Test.YtkllbdlebjomkaaGreatDoorTn33
set_option maxHeartbeats 8000000
set_option maxRecDepth 100000

namespace Go.Proofs.YtkllbdlebjomkaaGreatDoor
open Go.RowKit Go.Shelf Go.Sort
theorem aP (l:List Key2) (a:Option Addr) (c:Nat) (w:World) (x:qJ w 0 w.heap.size a l) (z:zn l=true) (y:Tabs w) :
 Calls Tryz.prog 112 #[.slice a l.length c] w fun e w'=>∃an cn ai ci,e=.returned (.tuple #[.agg #[.int .u8 5,.int .i64 0,.string ⟨#[]⟩,.slice an l.length cn,.slice ai l.length ci],.int .i64 0])/\Rep w' w.heap.size w'.heap.size (xb l) (.agg #[.int .u8 5,.int .i64 0,.string ⟨#[]⟩,.slice an l.length cn,.slice ai l.length ci])/\O5 w w':=by
 obtain ⟨p,b,d⟩:=zP.1 z;refine (cx l a c w x (by omega) (fun k hk=>by have:=ft (b k hk);omega) y).mono ?_;rintro e w' ⟨u,v,-,-,i⟩;have h:yc l=0:=ez b d p;obtain ⟨m,r,s,rfl⟩:=v h;obtain rfl:m=l:=cq r s d;rw [h] at i;obtain ⟨an,cn,ai,ci,f,g,q⟩:=i;have j:(xb m).names.length=m.length:=X7 ..;have o:(xb m).items.length=m.length:=X7 ..;rw [j,o] at f g;exact ⟨an,cn,ai,ci,f,g,q⟩
theorem wk:∀(l:List ByteArray),(∀x ∈ l,x.size<=1000000)->(qe l).wt<=1+1000001 * l.length:=fun l h=>by
 have h1:∀l:List ByteArray,(∀x ∈ l,x.size<=1000000)->JV.wts (l.map txtJ)<=1000001 * l.length:=fun l=>by
  induction l with
  | nil=>intro _;simp [JV.wts]
  | cons x r ih => intro h;have h1:=h x (G0 ..);have h2:=ih fun y hy=>h y (V7 _ hy);rw [K8,JV.wts,xY,N0];omega
 have h2:=h1 l h;have e2:(qe l).wt=1+JV.wts (l.map txtJ):=(by show 1+(⟨#[]⟩:ByteArray).size+qh [] + JV.wts (l.map txtJ)=_;rfl);omega
theorem mz (b:Bool):(xe b).wt=1:=by cases b <;> rfl
theorem mx {x:DelegV} (h:qC x=true):(q9 x).wt<=50000000:=by
 obtain ⟨g,⟨-,i,c⟩,⟨j,d⟩,⟨k,e⟩⟩:=wT h;have f:=wk _ c;rw [show q9 x=qN (kP x) from rfl,ri];unfold kP;split
 . have b:=wk _ d;show 1+qh [qt,xH,vp,xL,zK] + ((qe x.au.ids).wt+((txtJ x.name).wt+((qe x.paths).wt+((xe x.term).wt+((qB x.au.thr).wt+0)))))<=_;have a:qh [qt,xH,vp,xL,zK]<=100:=by decide
   rw [xY,mz,gu];omega
 . have b:=wk _ e;show 1+qh [qt,xH,jF,xL,zK] + ((qe x.au.ids).wt+((txtJ x.name).wt+((qe x.pres).wt+((xe x.term).wt+((qB x.au.thr).wt+0)))))<=_;have a:qh [qt,xH,jF,xL,zK]<=100:=by decide
   rw [xY,mz,gu];omega
theorem yI:∀(l:List DelegV),(∀x ∈ l,qC x=true)->JV.wts (l.map q9)<=50000000 * l.length
 | [],_=>by simp [JV.wts]
 | x :: r,h=>by have h1:=mx (h x (G0 ..));have h2:=yI r fun y hy=>h y (V7 _ hy);rw [K8,JV.wts,N0];omega
theorem mw (l:List JV):(xV l).wt=1+JV.wts l:=by show 1+(⟨#[]⟩:ByteArray).size+qh [] + JV.wts l=_;rfl
theorem lW {b:BinsV} (h:zh b=true):(k9 b).wt<=50000000:=by
 obtain ⟨-,a,-,e⟩:=wI h;have c:=jK a;have f:=wk b.au.ids fun s hs=>by have:=(yw (kG _ _ c.2.2 s hs)).2;omega
 rw [show k9 b=qN (dQ b) from rfl,ri];show 1+qh [wl,qt,wB,zK] + ((qB b.bits).wt+((qe b.au.ids).wt+((txtJ b.pre).wt+((qB b.au.thr).wt+0))))<=_;have d:qh [wl,qt,wB,zK]<=100:=by decide
 rw [xY,gu,gu];omega
theorem aF {B g cap k:Nat} {wr q z v:World} {p:Value} {cs:List Value} {l:List JV} {it:JV} {an ai:Option Addr} {cn ci lo hi e:Nat} (u:wr.ownsRow B e 5 p k cs) (y:qS wr B (fun b=>p.ownBlock=some b) l cs)
 (s:O5 wr q) (D:B<=wr.heap.size) (C:wr.heap.size<=lo) (A:hi<=q.heap.size) (x:Rep q lo hi it (.agg #[.int .u8 it.kind,.int .i64 it.n,.string it.t,.slice an it.names.length cn,.slice ai it.items.length ci]))
 (o:O5 q z) (w:z.grownBy v p.ownBlock) (r:p.ownBlock=some g\/q.heap.size<=g) :
 qS v B (fun b=>(Value.slice (some ⟨g,0,none⟩) (k+1) cap).ownBlock=some b) (l ++ [it]) (cs ++ [.int .u8 it.kind,.int .i64 it.n,.string it.t,.slice an it.names.length cn,.slice ai it.items.length ci]):=by
 have f:=s.size;have j:=o.size;have i:=w.size;have c:∀b,p.ownBlock=some b->b<wr.heap.size:=fun b hb=>(u.lt b hb).2;have m:∀b,b<wr.heap.size->p.ownBlock≠some b->v.heap[b]?=wr.heap[b]?:=fun b hb hne=>by rw [w.block b (by omega) (fun e=>hne e.symm),o.block b (by omega),s.block b hb]
 have a:∀b,(Value.slice (some ⟨g,0,none⟩) (k+1) cap).ownBlock=some b->b=g:=fun b hb=>by simp [Value.ownBlock] at hb;exact hb.symm
 have d:=y.carry (w':=v) (base':=B) (X':=fun b=>(Value.slice (some ⟨g,0,none⟩) (k+1) cap).ownBlock=some b) (by omega) lz (fun b hb hx=>m b hb hx) (fun b hx=>by
  rw [a b hx];rcases r with h|h
  . exact .inl h
  . exact .inr (by omega))
 refine d.snoc it lo hi an cn ai ci (by omega) (by omega) (fun b hx hb=>?_) (Rep.carry lz lz (fun b h1 h2=>?_) _ _ x)
 . rw [a b hx] at hb;rcases r with h|h
   . have:=c g h;omega
   . omega
 . rw [w.block b (by omega) (fun e=>by have:=c b e.symm;omega),o.block b (by omega)]
theorem lY {u:JV} {w w':World} {e:Ending} (h:jW u w e w') (j:u.kind=5) (k:u.n=0) (l:u.t=⟨#[]⟩):gv u w e w':=by
 obtain ⟨b,d,a,c,f,g,i⟩:=h;refine ⟨b,d,a,c,?_,?_,i⟩
 . rw [f,j,k,l]
 . rw [j,k,l];exact g
theorem lG (l:List Key2) (rs:List DelegV) (t r1:Int) (ids:List ByteArray) (r2:ByteArray) (ka ra ba:Option Addr) (kc rc bc:Nat) (w:World) (hI:DelegsIn w 0 w.heap.size ⟨l,rs,⟨r1,r2,⟨t,ids⟩⟩⟩ ka ra ba) (hm:xj ⟨l,rs,⟨r1,r2,⟨t,ids⟩⟩⟩=true) (hT:Tabs w) :
 Calls Tryz.prog 85 #[.agg #[.slice ka l.length kc,.slice ra rs.length rc,.int .i64 t,.slice ba ids.length bc,.int .i64 r1,.string r2]] w (jW (zM ⟨l,rs,⟨r1,r2,⟨t,ids⟩⟩⟩) w):=by
 have a1:=hm;rw [vk,J5] at a1;dsimp only at a1;obtain ⟨hk,a1⟩:=a1;have p8:=U hk;have f6:=U a1;have p6:l.length<=32:=(zP.1 hk).1;obtain ⟨W,hW⟩:=O1 ((w.alloc (.cells #[.slice ka l.length kc,.slice ra rs.length rc,.int .i64 t,.slice ba ids.length bc,.int .i64 r1,.string r2] 43)).alloc (.cells #[.int .u8 0,.int .i64 0,.string ⟨#[]⟩,.slice none 0 0,.slice none 0 0] 26));have c0:(w.alloc (.cells #[.slice ka l.length kc,.slice ra rs.length rc,.int .i64 t,.slice ba ids.length bc,.int .i64 r1,.string r2] 43)).heap.size=w.heap.size+1:=by simp
 have z:O5 w W:=by rw [hW];exact (O4).alloc (by simp) _
 have hx:W.heap[w.heap.size]?=some (.cells #[.slice ka l.length kc,.slice ra rs.length rc,.int .i64 t,.slice ba ids.length bc,.int .i64 r1,.string r2] 43 (0,0)):=by rw [hW];exact qO w _ _
 have i7:W.rowIs (w.heap.size+1) 26 5 (qo (.int .u8 0) (.int .i64 0) (.string ⟨#[]⟩) (.slice none 0 0) (.slice none 0 0)):=(by have:=qg (w.alloc (.cells #[.slice ka l.length kc,.slice ra rs.length rc,.int .i64 t,.slice ba ids.length bc,.int .i64 r1,.string r2] 43)) (.int .u8 0) (.int .i64 0) (.string ⟨#[]⟩) (.slice none 0 0) (.slice none 0 0) 26;rw [c0,<- hW] at this;exact this);have HC:=U (show ∀w':World,O5 W w'->w'.cell? ⟨w.heap.size,0,none⟩=some (.slice ka l.length kc)/\w'.cell? ⟨w.heap.size,1,none⟩=some (.slice ra rs.length rc)/\w'.cell? ⟨w.heap.size,2,none⟩=some (.int .i64 t)/\w'.cell? ⟨w.heap.size,3,none⟩=some (.slice ba ids.length bc)/\w'.cell? ⟨w.heap.size,4,none⟩=some (.int .i64 r1)/\w'.cell? ⟨w.heap.size,5,none⟩=some (.string r2) from fun w' h=>by
  have y:=(h.block _ (qz hx)).trans hx;exact ⟨qq y rfl,qq y rfl,qq y rfl,qq y rfl,qq y rfl,qq y rfl⟩)
 have c3:=U i7;have HB:=U z;have b1:=O0 (w.heap.size+2<=W.heap.size) i7.lt;have HW:=U hW;have HI:=O0 (∀w':World,O5 W w'->DelegsIn w' 0 w'.heap.size ⟨l,rs,⟨r1,r2,⟨t,ids⟩⟩⟩ ka ra ba) (fun w' h=>hI.below (z.trans (h.mono z.size)) lz lz (Z3 z.size h.size));have i9:=U (aP l ka kc W (HI.o W (Z0 _ _)).keys hk (hT.below z));have f7:=U (fun w'=>b8 t r1 ids r2 ba bc w');have n9:=O0 (∀w':World,O5 W w'->zh ⟨r1,r2,⟨t,ids⟩⟩=true->_) (fun w' h hmb=>pt r1 t ids r2 ba bc w' (HI.o w' h).bids hmb);have HJ:=O0 (zM ⟨l,rs,⟨r1,r2,⟨t,ids⟩⟩⟩=qN (jj ⟨l,rs,⟨r1,r2,⟨t,ids⟩⟩⟩)) rfl;have k3:=U (show (xb l).wt<=4294967296 from by
  have:=mC (m:=l) (fun k hk'=>by have:=ft ((zP.1 hk).2.1 k hk');omega);omega)
 obtain ⟨J,hJ⟩:=O1 (zM ⟨l,rs,⟨r1,r2,⟨t,ids⟩⟩⟩);rw [<- hJ] at HJ ⊢;obtain ⟨nb,i6⟩:=O1 (xG ⟨r1,r2,⟨t,ids⟩⟩);rw [<- i6] at f7 f6;have j3:=U i6;clear hW z hx i7 c0 hI hm a1 hk hJ i6 hT;obtain ⟨q0,q1,q2,q3,q4,q5⟩:=HC.o W (Z0 _ _);go_enter Tryz.func85,Tryz.ntmps85;go_upto_region 1 with fail
 rw [<- HW.o];clear HW;go_wp2_with fail;refine i9.o.mono ?_;clear i9 q0 q1 q2 q3 q4 q5;rintro r w1 ⟨an,cn,ai,ci,rfl,m4,l1⟩;obtain ⟨W2,c7⟩:=O1 (w1.alloc (.cells #[.int .u8 5,.int .i64 0,.string ⟨#[]⟩,.slice an l.length cn,.slice ai l.length ci] 26));have d5:=O7 c7
 have n1:=O9 c7
 have k1:=U m4;have e8:=U l1;have I:=U d5;have k5:=U c7;obtain ⟨z0,z1,z2,z3,z4⟩:=bx5 n1;clear m4 l1 d5 n1 c7;go_upto_region 2 with fail
 rw [<- k5.o];clear k5;obtain ⟨W3,c9⟩:=O1 (W2.alloc (.cells #[.string ⟨#[107,101,121,115]⟩,.int .u8 5,.int .i64 0,.string ⟨#[]⟩,.slice an l.length cn,.slice ai l.length ci] 102));have d6:=O7 c9
 have n2:=O9 c9
 obtain ⟨g0,i2⟩:=O1 W2.heap.size;have o1:=U i2;have b3:O5 w1 W3:=O2 I d6;have j0:=U (show MemsAt W.heap.size W3 (.slice (some ⟨g0,0,none⟩) 1 1) [(⟨zd,5,0,⟨#[]⟩,an,l.length,cn,ai,l.length,ci⟩:Mem)] [xb l] from by
  rw [i2];exact MemsAt.one (⟨zd,5,0,⟨#[]⟩,an,l.length,cn,ai,l.length,ci⟩:Mem) (xb l) W.heap.size w1.heap.size (Z3 e8.o.size I.o.size) lz I.o.size (k1.o.below b3 lz lz lz) n2)
 have f0:=U (O2 e8 b3);have k6:=U c9;clear d6 n2 c9 i2 b3 k1;go_upto_region 3 with fail
 rw [<- k6.o,<- o1.o];clear k6 z0 z1 z2 z3 z4;obtain ⟨q0,q1,q2,q3,q4,q5⟩:=HC.o W3 f0.o;go_wp2_with fail;refine (f7.o _).mono ?_;clear f7 q0 q1 q2 q3 q4 q5;rintro r w4 ⟨rfl,h7⟩;have j1:=U (j0.o.below h7);have D:=U (O2 f0 h7);obtain ⟨q0,q1,q2,q3,q4,q5⟩:=HC.o w4 D.o;clear h7 j0 I;obtain ⟨i1,l3,n3,n4,n5⟩:=V2 jm;cases nb with
 | true =>
  have o3:=O0 (zo rs=true) f6.o;have H:=U (show rs.length<=64/\∀x ∈ rs,qC x=true from by
   have h:=o3.o;unfold zo at h;simp only [J5,J1] at h;exact ⟨h.1.1,fun x hx=>X9.1 h.1.2 x hx⟩)
  replace HJ:=U (show J=qN [(zd,xb l),(kB,xV (rs.map q9))] from by
   rw [HJ.o];unfold jj;rw [J3 j3.o.symm])
  obtain ⟨i0,l2,n6,c0,n7⟩:=V2 xi;obtain ⟨nn,d2⟩:=O1 rs.length;have k0:=U d2;have r0:nn<=64:=by rw [d2];exact H.o.1
  rw [<- d2] at HC q1 ⊢;clear d2;have p4:W.heap.size<=w4.heap.size:=D.o.size;go_upto_region 5 with (at_make;refine wpList_make_own _ rfl (.const (.int .i64 0)) (.tmp 25) 24 rfl W.heap.size 26 i0 _ 5 K2 l2 n6 c0 .i64 .i64 _ nn rfl rfl rfl (by rw [n7];omega) (by unfold maxLen;omega) p4 ?_;intro C hown5 hgrow5;have A:=U hown5;have E:=U (below_grown (v:=.slice none 0 0) (Z0 w4.heap.size w4) lz hgrow5 (fun b z=>by cases z));obtain ⟨q0,q1,q2,q3,q4,q5⟩:=HC.o C (D.o.trans (E.o.mono D.o.size));clear hown5 hgrow5)
  go_wp2_with fail
  go_loopw [6,8,30] (fun s6 _ i wr=>∃(k:Nat) (cs:List Value),k<=nn/\i=.int .i64 k/\wr.ownsRow W.heap.size 26 5 s6 k cs/\qS wr W.heap.size (fun b=>s6.ownBlock=some b) ((rs.take k).map q9) cs/\(∀b,s6.ownBlock=some b->w4.heap.size<=b)/\O5 w4 wr) (fun _ _ i _=>nn - (intOf i).toNat)
  case atStart=>exact ⟨0,[],by omega,rfl,A.o,by simpa using qS.nil _ _ _,fun b z=>by simp only [Value.ownBlock,V0] at z;omega,E.o⟩
  case round =>
   obtain ⟨k,cs,hk,rfl,e6,m6,d7,h9⟩:=hrel;have HO:=U e6;have g1:=U m6;have f2:=U d7;have a0:=U h9;have a3:=U (O2 D h9);clear e6 m6 d7 h9 A E q0 q1 q2 q3 q4 q5;by_cases hlt:k<nn
   . have i4:k<rs.length:=by rw [<- k0.o];exact hlt
     obtain ⟨b,o,ha,-,q8,ia,ic,pa,pc,qa,qc,e0,e1,e2,e3,e4,e5,-,-,-,i3⟩:=(HI.o wr a3.o).roles.at k i4;subst ha;have m1:(0:Int)<=(k:Int):=by omega
     have m2:(k:Int)<(nn:Int):=by omega
     have m3:decide ((k:Int)<(nn:Int))=true:=by simpa using hlt
     have i5:=H.o.2 rs[k] (J8 i4);have g4:=O0 ((rs.take (k+1)).map q9=(rs.take k).map q9 ++ [q9 rs[k]]) (by rw [Z7 i4,K6];rfl);obtain ⟨x,hx⟩:=O1 (rs[k]);rw [<- hx] at e0 e1 e2 e3 e4 e5 i3 i5 g4;clear hx;obtain ⟨nm,au,tm,ps,qs⟩:=x;obtain ⟨d3,d4⟩:=au;dsimp only at e0 e1 e2 e3 e4 e5;obtain ⟨WX,d0⟩:=O1 (wr.alloc (.cells #[.string nm,.int .i64 d3,.slice ia d4.length ic,.bool tm,.slice pa ps.length pc,.slice qa qs.length qc] 58));have d1:=O7 d0
     have Z:=O9 d0
     have z0:=qq Z (j:=0) rfl;have z1:=qq Z (j:=1) rfl;have z2:=qq Z (j:=2) rfl;have z3:=qq Z (j:=3) rfl;have z4:=qq Z (j:=4) rfl;have z5:=qq Z (j:=5) rfl;have c4:=U ((pn nm d3 d4 tm ps qs ia pa qa ic pc qc WX (i3.below d1 lz lz d1.size) i5).mono fun e w' h=>lY h rfl rfl rfl);unfold gv at c4;obtain ⟨u,hu⟩:=O1 (q9 ⟨nm,⟨d3,d4⟩,tm,ps,qs⟩);rw [<- hu] at c4 g4;have f4:=U d1;have l0:=U d0;clear d1 Z d0 i3 i5 hu;go_upto_region 8 with fail
     rw [<- l0.o];clear e0 e1 e2 e3 e4 e5 l0;go_wp2_with fail;refine c4.o.mono ?_;clear c4 z0 z1 z2 z3 z4 z5;rintro r w6 ⟨h4,h6,h0,h5,rfl,m5,h8⟩;have k2:=U m5;have K:=U (O2 f4 h8);have L:=U (qV HO.o K.o);have p3:=O0 (wr.heap.size<=WX.heap.size/\WX.heap.size<=w6.heap.size) (⟨f4.o.size,h8.size⟩);have q7:W.heap.size<=w6.heap.size:=Z3 a3.o.size K.o.size;clear m5 h8;go_wp2_with (at_builtin;refine Y1 _ rfl (.tmp 34) (.tmp 37) 24 rfl W.heap.size 26 i0 _ 5 80 K2 l2 n6 c0 n7 rfl (by omega) u6 k cs rfl (L.o.alloc _) ⟨w6.heap.size,0,none⟩ 1 1 (Array.toList #[.int .u8 u.kind,.int .i64 u.n,.string u.t,.slice h4 u.names.length h6,.slice h0 u.items.length h5]) rfl rfl (J9 (cs:=#[.int .u8 u.kind,.int .i64 u.n,.string u.t,.slice h4 u.names.length h6,.slice h0 u.items.length h5]) (t:=26) (fr:=(0,0)) (Z5 w6 _)) (by simp [Value.oneCell']) (by omega) (by unfold maxLen;omega) (by omega) (by simp;omega) (w6.heap.size+1) (by simp) ?_;intro g cap w7 hown7 hgrow7 hat7 hlt7;have p1:=U hown7;have f5:=U hgrow7;have e7:=U hat7;clear hown7 hgrow7 hat7);have f:O5 w6 (w6.alloc (.cells #[.int .u8 u.kind,.int .i64 u.n,.string u.t,.slice h4 u.names.length h6,.slice h0 u.items.length h5] 26)):=O4;have p2:=U (aF (cap:=cap) (k:=k) (g:=g) HO.o g1.o K.o a3.o.size p3.o.1 lz k2.o f f5.o (by
      rcases e7.o with h|h
      . exact .inl h
      . exact .inr (by omega)))
     have n8:=U (below_grown ((a0.o.trans (K.o.mono a0.o.size)).trans (f.mono (Z3 a0.o.size K.o.size))) (by have:=a0.o.size;have:=K.o.size;simp;omega) f5.o (fun b z=>f2.o b z));have o2:=U (show w4.heap.size<=g from by
      rcases e7.o with h|h
      . exact f2.o g h
      . have:=a0.o.size;have:=K.o.size;omega)
     clear f f5 e7 k2 L K;go_roundw
     case rel=>exact ⟨k+1,_,by omega,by go_num,p1.o,by rw [g4.o];exact p2.o,fun b z=>by simp only [Value.ownBlock,V0] at z;have:=o2.o;omega,n8.o⟩
     case measure=>simp [intOf];omega
   . have m3:decide ((k:Int)<(nn:Int))=false:=by simpa using hlt
     have a8:=O0 (k=rs.length) (by rw [<- k0.o];omega);have m0:rs.take k=rs:=J4 (by rw [a8.o];exact J2 _);have k4:=U (show ∃a c,u6=.slice a k c/\zy wr W.heap.size wr.heap.size a (rs.map q9) from by
      have h:=g1.o;rw [m0] at h;obtain ⟨a,c,h1,h2,h3⟩:=xa HO.o h (by rw [X7,<- a8.o]);refine ⟨a,c,?_,h3⟩;rw [h1,X7,<- a8.o])
     clear m0 g1 HO f2;obtain ⟨va,vc,p7,n0⟩:=k4.o;subst p7;have c2:=U (Ql (rs.map q9) va vc W.heap.size wr (by have:=b1.o;omega) n0 (by rw [X7,<- a8.o];omega) (fun x hx=>by
      obtain ⟨y,hy,rfl⟩:=H7.1 hx;have:=mx (H.o.2 y hy);omega))
     unfold uD at c2;rw [X7,<- a8.o] at c2;have R:=U (j1.o.below a0.o);clear n0 k4;go_wp2_with fail;refine c2.o.mono ?_;clear c2;rintro r C ⟨a5,c5,rfl,b5,G⟩;have a9:=U b5;have E:=U G;have f3:=U a3.o;have Y:W.heap.size<=wr.heap.size:=a3.o.size;have i8:W.heap.size<=C.heap.size:=Z3 Y G.size;have Q:=U (R.o.below G);have A:=O0 (C.ownsRow W.heap.size 102 6 (.slice (some ⟨g0,0,none⟩) 1 1) 1 (zg [(⟨zd,5,0,⟨#[]⟩,an,l.length,cn,ai,l.length,ci⟩:Mem)])) Q.o.own;have g5:=O0 (g0<wr.heap.size) ((R.o.own.lt g0 rfl).2);clear b5 G;go_upto_region 12 with (at_builtin;refine Y1 _ rfl (.tmp 40) (.tmp 44) 104 rfl W.heap.size 102 i1 _ 6 96 G1 l3 n3 n4 n5 rfl (by omega) (.slice (some ⟨g0,0,none⟩) 1 1) 1 (zg [(⟨zd,5,0,⟨#[]⟩,an,l.length,cn,ai,l.length,ci⟩:Mem)]) rfl (A.o.alloc _) ⟨C.heap.size,0,none⟩ 1 1 (qY (⟨kB,4,0,⟨#[]⟩,none,0,0,a5,k,c5⟩:Mem)) rfl rfl (J9 (cs:=#[.string ⟨#[114,111,108,101,115]⟩,.int .u8 4,.int .i64 0,.string ⟨#[]⟩,.slice none 0 0,.slice a5 k c5]) (t:=102) (fr:=(0,0)) (Z5 C _)) (xh _) (by omega) (by unfold maxLen;omega) (by omega) (by simp;omega) (C.heap.size+1) (by simp) ?_;intro g3 cap3 w6 hown6 hgrow6 hat6 hlt6;have L:=U hown6;have P:=U hgrow6;have a2:=U hat6;clear hown6 hgrow6 hat6)
     have f:O5 C (C.alloc (.cells #[.string ⟨#[114,111,108,101,115]⟩,.int .u8 4,.int .i64 0,.string ⟨#[]⟩,.slice none 0 0,.slice a5 k c5] 102)):=O4;have M:=U (below_grown ((f3.o.trans (E.o.mono Y)).trans (f.mono i8)) (by simp;omega) P.o (fun b z=>(A.o.lt b z).1));have a4:=U (show MemsAt W.heap.size w6 (.slice (some ⟨g3,0,none⟩) 2 cap3) ([(⟨zd,5,0,⟨#[]⟩,an,l.length,cn,ai,l.length,ci⟩:Mem)] ++ [(⟨kB,4,0,⟨#[]⟩,none,0,0,a5,k,c5⟩:Mem)]) ([xb l] ++ [xV (rs.map q9)]) from (Q.o.below f).snoc (⟨kB,4,0,⟨#[]⟩,none,0,0,a5,k,c5⟩:Mem) (xV (rs.map q9)) wr.heap.size C.heap.size Y (by simp) (fun b z=>by simp only [Value.ownBlock,V0] at z;have:=g5.o;omega) (a9.o.below f lz lz lz) P.o L.o (by
      rcases a2.o with h|h
      . exact .inl h.symm
      . exact .inr ⟨g3,rfl,by simp;omega⟩))
     have g7:=U b1.o;clear A L P a2 R Q E a9 f;have a7:=U (wj (v:=.slice (some ⟨g3,0,none⟩) 2 cap3) [(zd,xb l),(kB,xV (rs.map q9))] (N:=[(zd,xb l),(kB,xV (rs.map q9))]) ⟨_,by simpa using a4.o,by simp⟩ ⟨_,_,rfl⟩ (List.Perm.refl _) zI.2.2.2.1 (by simp) (fun p hp=>by
      simp only [V6,V1,za4] at hp;rcases hp with rfl|rfl
      . exact k3.o
      . show (xV (rs.map q9)).wt<=4294967296;rw [mw];have h1:=yI rs H.o.2;have h2:=H.o.1;omega) (by have:=g7.o;omega))
     clear a4;go_wp2_with fail;refine a7.o.mono ?_;clear a7;rintro e w8 ⟨T,X,S,V,rfl,b6,b4⟩;have s:O5 W w8:=O2 M b4;obtain ⟨W9,F⟩:=O1 (w8.alloc (.cells #[.int .u8 5,.int .i64 0,.string ⟨#[]⟩,.slice T 2 X,.slice S 2 V] 26));have q:=O7 F
     have b7:=O9 F
     have d:=qj (s.trans (q.mono s.size)) c3.o c3.o.lt;have g2:=U d;have f8:=U (Rep.below b6 (B:=w8.heap.size) q lz lz q.size);have b2:=O0 (w.heap.size+2<=w6.heap.size) (Z3 b1.o M.o.size);have f1:=U (HB.o.trans ((s.trans (q.mono s.size)).mono HB.o.size));obtain ⟨z0,z1,z2,z3,z4⟩:=bx5 b7;obtain ⟨t0,t1,t2,t3,t4⟩:=rc5 d;obtain ⟨s0,s1,s2,s3,s4⟩:=rf5 d;simp only [qo] at t0 t1 t2 t3 t4;have b0:=U F;clear d b6 b4 s q b7 F;go_upto_region 13 with fail
     rw [<- b0.o];clear b0;go_wp2;refine Z8 (X8 Tryz.results85 _ _ (w.heap.size+1) 26 _ (0,0) _ rfl (qr (set5 _ _ _ _ _ g2.o)) J7 rfl (by kernel_rfl)) rfl ?_;rw [HJ.o];refine ⟨T,X,S,V,rfl,?_,zf _ _ _ _ _ f1.o (by omega)⟩;exact Rep.carry (by have:=b2.o;omega) (show W9.heap.size<=_ by simp [World.setCell]) (fun j hj _=>xJ _ _ _ _ _ (by have:=b2.o;omega)) _ _ f8.o
 | false =>
  have j2:=U (show zh ⟨r1,r2,⟨t,ids⟩⟩=true from by
   have h:=f6.o;simp only [Bool.false_eq_true,if_false,J5] at h;exact h.2)
  replace HJ:=U (show J=qN [(zd,xb l),(vf,k9 ⟨r1,r2,⟨t,ids⟩⟩)] from by
   rw [HJ.o];unfold jj;rw [Z6 (by rw [<- j3.o];decide)])
  have c1:=U (n9.o w4 D.o j2.o);unfold jW at c1;have k7:=U (lW j2.o);obtain ⟨u,hu⟩:=O1 (k9 ⟨r1,r2,⟨t,ids⟩⟩);have q6:=O0 (u.kind=5/\u.n=0/\u.t=⟨#[]⟩) (by rw [hu];exact ⟨rfl,rfl,rfl⟩);rw [<- hu] at c1 HJ k7;clear hu;have R:=U j1.o;have f3:=U D.o;have Y:W.heap.size<=w4.heap.size:=D.o.size;go_wp2_with fail;refine c1.o.mono ?_;clear c1 q0 q1 q2 q3 q4 q5;rintro r C ⟨a6,c6,a5,c5,rfl,b5,G⟩;have a9:=U b5;have E:=U G;have i8:W.heap.size<=C.heap.size:=Z3 Y G.size;have Q:=U (R.o.below G);have A:=O0 (C.ownsRow W.heap.size 102 6 (.slice (some ⟨g0,0,none⟩) 1 1) 1 (zg [(⟨zd,5,0,⟨#[]⟩,an,l.length,cn,ai,l.length,ci⟩:Mem)])) Q.o.own;have g5:=O0 (g0<w4.heap.size) ((R.o.own.lt g0 rfl).2);clear b5 G;go_upto_region 12 with (at_builtin;refine Y1 _ rfl (.tmp 46) (.tmp 51) 104 rfl W.heap.size 102 i1 _ 6 96 G1 l3 n3 n4 n5 rfl (by omega) (.slice (some ⟨g0,0,none⟩) 1 1) 1 (zg [(⟨zd,5,0,⟨#[]⟩,an,l.length,cn,ai,l.length,ci⟩:Mem)]) rfl (A.o.alloc _) ⟨C.heap.size,0,none⟩ 1 1 (qY (⟨vf,5,0,⟨#[]⟩,a6,u.names.length,c6,a5,u.items.length,c5⟩:Mem)) rfl rfl (J9 (cs:=#[.string ⟨#[115,117,99,99,105,110,99,116,95,114,111,108,101,115]⟩,.int .u8 5,.int .i64 0,.string ⟨#[]⟩,.slice a6 u.names.length c6,.slice a5 u.items.length c5]) (t:=102) (fr:=(0,0)) (Z5 C _)) (xh _) (by omega) (by unfold maxLen;omega) (by omega) (by simp;omega) (C.heap.size+1) (by simp) ?_;intro g3 cap3 w6 hown6 hgrow6 hat6 hlt6;have L:=U hown6;have P:=U hgrow6;have a2:=U hat6;clear hown6 hgrow6 hat6)
  have f:O5 C (C.alloc (.cells #[.string ⟨#[115,117,99,99,105,110,99,116,95,114,111,108,101,115]⟩,.int .u8 5,.int .i64 0,.string ⟨#[]⟩,.slice a6 u.names.length c6,.slice a5 u.items.length c5] 102)):=O4;have M:=U (below_grown ((f3.o.trans (E.o.mono Y)).trans (f.mono i8)) (by simp;omega) P.o (fun b z=>(A.o.lt b z).1));have a4:=U (show MemsAt W.heap.size w6 (.slice (some ⟨g3,0,none⟩) 2 cap3) ([(⟨zd,5,0,⟨#[]⟩,an,l.length,cn,ai,l.length,ci⟩:Mem)] ++ [(⟨vf,5,0,⟨#[]⟩,a6,u.names.length,c6,a5,u.items.length,c5⟩:Mem)]) ([xb l] ++ [u]) from (Q.o.below f).snoc (⟨vf,5,0,⟨#[]⟩,a6,u.names.length,c6,a5,u.items.length,c5⟩:Mem) (u) w4.heap.size C.heap.size Y (by simp) (fun b z=>by simp only [Value.ownBlock,V0] at z;have:=g5.o;omega) (a9.o.below f lz lz lz) P.o L.o (by
   rcases a2.o with h|h
   . exact .inl h.symm
   . exact .inr ⟨g3,rfl,by simp;omega⟩))
  have g7:=U b1.o;clear A L P a2 R Q E a9 f;have a7:=U (wj (v:=.slice (some ⟨g3,0,none⟩) 2 cap3) [(zd,xb l),(vf,u)] (N:=[(zd,xb l),(vf,u)]) ⟨_,by simpa using a4.o,by simp⟩ ⟨_,_,rfl⟩ (List.Perm.refl _) zI.2.2.2.2 (by simp) (fun p hp=>by
   simp only [V6,V1,za4] at hp;rcases hp with rfl|rfl
   . exact k3.o
   . show u.wt<=4294967296;have:=k7.o;omega) (by have:=g7.o;omega))
  clear a4;go_wp2_with fail;refine a7.o.mono ?_;clear a7;rintro e w8 ⟨T,X,S,V,rfl,b6,b4⟩;have s:O5 W w8:=O2 M b4;obtain ⟨W9,F⟩:=O1 (w8.alloc (.cells #[.int .u8 5,.int .i64 0,.string ⟨#[]⟩,.slice T 2 X,.slice S 2 V] 26));have q:=O7 F
  have b7:=O9 F
  have d:=qj (s.trans (q.mono s.size)) c3.o c3.o.lt;have g2:=U d;have f8:=U (Rep.below b6 (B:=w8.heap.size) q lz lz q.size);have b2:=O0 (w.heap.size+2<=w6.heap.size) (Z3 b1.o M.o.size);have f1:=U (HB.o.trans ((s.trans (q.mono s.size)).mono HB.o.size));obtain ⟨z0,z1,z2,z3,z4⟩:=bx5 b7;obtain ⟨t0,t1,t2,t3,t4⟩:=rc5 d;obtain ⟨s0,s1,s2,s3,s4⟩:=rf5 d;simp only [qo] at t0 t1 t2 t3 t4;have b0:=U F;clear d b6 b4 s q b7 F;go_upto_region 13 with fail
  rw [<- b0.o];clear b0;go_wp2;refine Z8 (X8 Tryz.results85 _ _ (w.heap.size+1) 26 _ (0,0) _ rfl (qr (set5 _ _ _ _ _ g2.o)) J7 rfl (by kernel_rfl)) rfl ?_;rw [HJ.o];refine ⟨T,X,S,V,rfl,?_,zf _ _ _ _ _ f1.o (by omega)⟩;exact Rep.carry (by have:=b2.o;omega) (show W9.heap.size<=_ by simp [World.setCell]) (fun j hj _=>xJ _ _ _ _ _ (by have:=b2.o;omega)) _ _ f8.o
theorem rT {d:DelegsV} (h:xj d=true):(zM d).wt<=4294967296:=by
 rw [vk,J5] at h;obtain ⟨a,h⟩:=h;have e:=mC (m:=d.keys) (fun k hk'=>by have:=ft ((zP.1 a).2.1 k hk');omega);have f:=(zP.1 a).1;rw [show zM d=qN (jj d) from rfl,ri];unfold jj;split
 . rename_i hb;rw [J3 hb] at h;unfold zo at h;simp only [J5,J1] at h;have c:=yI d.roles fun x hx=>X9.1 h.1.2 x hx;show 1+qh [zd,kB] + ((xb d.keys).wt+((xV (d.roles.map q9)).wt+0))<=_;have b:qh [zd,kB]<=100:=by decide
   rw [mw];have:=h.1.1;omega
 . rename_i hb;rw [Z6 hb,J5] at h;have c:=lW h.2;show 1+qh [zd,vf] + ((xb d.keys).wt+((k9 d.bins).wt+0))<=_;have b:qh [zd,vf]<=100:=by decide
   omega
theorem lB (l:List Key2) (rs:List DelegV) (t a1:Int) (ids:List ByteArray) (a2:ByteArray) (ka ra ba:Option Addr) (kc rc bc:Nat) (w:World) (hI:DelegsIn w 0 w.heap.size ⟨l,rs,⟨a1,a2,⟨t,ids⟩⟩⟩ ka ra ba) (hf:DelegsFits ⟨l,rs,⟨a1,a2,⟨t,ids⟩⟩⟩) (a3:rs.length<=rc) (hT:Tabs w) :
 Calls Tryz.prog 38 #[.agg #[.slice ka l.length kc,.slice ra rs.length rc,.int .i64 t,.slice ba ids.length bc,.int .i64 a1,.string a2]] w fun e w'=>e=.returned (.bool (kx ⟨l,rs,⟨a1,a2,⟨t,ids⟩⟩⟩))/\O5 w w':=by
 obtain ⟨W,Y⟩:=O1 (w.alloc (.cells #[.slice ka l.length kc,.slice ra rs.length rc,.int .i64 t,.slice ba ids.length bc,.int .i64 a1,.string a2] 43));have H:=O7 Y
 have hx:=O9 Y
 have L:=U (show ∀w':World,O5 W w'->w'.cell? ⟨w.heap.size,0,none⟩=some (.slice ka l.length kc)/\w'.cell? ⟨w.heap.size,1,none⟩=some (.slice ra rs.length rc)/\w'.cell? ⟨w.heap.size,2,none⟩=some (.int .i64 t)/\w'.cell? ⟨w.heap.size,3,none⟩=some (.slice ba ids.length bc)/\w'.cell? ⟨w.heap.size,4,none⟩=some (.int .i64 a1)/\w'.cell? ⟨w.heap.size,5,none⟩=some (.string a2) from fun w' h=>by
  have y:=(h.block _ (qz hx)).trans hx;exact ⟨qq y rfl,qq y rfl,qq y rfl,qq y rfl,qq y rfl,qq y rfl⟩)
 have K:=O0 (∀w':World,O5 W w'->DelegsIn w' 0 w'.heap.size ⟨l,rs,⟨a1,a2,⟨t,ids⟩⟩⟩ ka ra ba/\Tabs w') (fun w' h=>⟨hI.below (H.trans (h.mono H.size)) lz lz (Z3 H.size h.size),hT.below (H.trans (h.mono H.size))⟩);have f1:l.length<=40:=hf.len;have f2:rs.length<=70:=hf.many;have f3:a2.size<=300:=hf.pre;have X:=U hf;have i:=U H;have a0:=U a3;have c:=U ((mS ⟨l,rs,⟨a1,a2,⟨t,ids⟩⟩⟩).trans (vk ⟨l,rs,⟨a1,a2,⟨t,ids⟩⟩⟩));dsimp only at c;have b:=O0 (zn l=true->(if xG ⟨a1,a2,⟨t,ids⟩⟩ then zo rs else rs.isEmpty && zh ⟨a1,a2,⟨t,ids⟩⟩)=true->xj ⟨l,rs,⟨a1,a2,⟨t,ids⟩⟩⟩=true) (fun h1 h2=>by rw [vk];dsimp only;rw [h1,h2];rfl);have E:=U (cg l ka kc W (K.o W (Z0 _ _)).1.keys (by omega) X.o.keys (K.o W (Z0 _ _)).2);have F:=U (fun w'=>b8 t a1 ids a2 ba bc w');have G:=O0 (∀w':World,O5 W w'->_) (fun w' h=>uv rs ra rc w' (K.o w' h).1.roles (by omega) a0.o X.o.roles);have D:=O0 (∀w':World,O5 W w'->_) (fun w' h=>gZ t a1 ids a2 ba bc w' (K.o w' h).1.bids (by omega) X.o.bits X.o.au);have g:=O0 (xj ⟨l,rs,⟨a1,a2,⟨t,ids⟩⟩⟩=true->∀w':World,O5 W w'->_) (fun hm w' h=>(lG l rs t a1 ids a2 ka ra ba kc rc bc w' (K.o w' h).1 hm (K.o w' h).2).mono fun e Z h=>lY h rfl rfl rfl);have m:=O0 (xj ⟨l,rs,⟨a1,a2,⟨t,ids⟩⟩⟩=true->(zM ⟨l,rs,⟨a1,a2,⟨t,ids⟩⟩⟩).mayB=true/\(zM ⟨l,rs,⟨a1,a2,⟨t,ids⟩⟩⟩).wt<=4294967296) (fun hm=>⟨fJ hm,rT hm⟩);unfold gv at g;have M:=U Y;obtain ⟨V,hV⟩:=O1 (kx ⟨l,rs,⟨a1,a2,⟨t,ids⟩⟩⟩);rw [<- hV] at c ⊢;obtain ⟨km,Q⟩:=O1 (zn l);rw [<- Q] at c b E;obtain ⟨nb,R⟩:=O1 (xG ⟨a1,a2,⟨t,ids⟩⟩);rw [<- R] at c b F;obtain ⟨rm,S⟩:=O1 (zo rs);rw [<- S] at c b G;obtain ⟨bm,P⟩:=O1 (zh ⟨a1,a2,⟨t,ids⟩⟩);rw [<- P] at c b D;obtain ⟨J,hJ⟩:=O1 (zM ⟨l,rs,⟨a1,a2,⟨t,ids⟩⟩⟩);rw [<- hJ] at g m;obtain ⟨s,u,v,x,z,A⟩:=L.o W (Z0 _ _);clear H hx Y hI hf a3 hT f1 f2 f3 hV Q R S P hJ;go_enter Tryz.func38,Tryz.ntmps38;go_upto_region 1 with fail
 rw [<- M.o];clear M;go_wp2_with fail;refine E.o.mono ?_;clear E s u v x z A;rintro e w1 ⟨rfl,I⟩;have B:=U I;obtain ⟨s,u,v,x,z,A⟩:=L.o w1 I;clear I;cases km with
 | false => rw [M0] at c;go_wp2;go_ret;exact ⟨qx c.o.symm,i.o.trans (B.o.mono i.o.size)⟩
 | true =>
  rw [Y4] at c;go_wp2_with fail;refine (F.o _).mono ?_;clear F s u v x z A;rintro e Z ⟨rfl,N⟩;have d:=U (O2 B N);obtain ⟨s,u,v,x,z,A⟩:=L.o Z d.o;clear N;cases nb with
  | true =>
   rw [J3 rfl] at c b;go_wp2_with fail;refine (G.o Z d.o).mono ?_;clear G s u v x z A;rintro e T ⟨rfl,o⟩;have a:=U (O2 d o);obtain ⟨s,u,v,x,z,A⟩:=L.o T a.o;clear o;cases rm with
   | false => go_wp2;go_ret;exact ⟨qx c.o.symm,i.o.trans (a.o.mono i.o.size)⟩
   | true => have f:=U (b.o (by first|exact rfl|exact trivial) (by first|exact rfl|exact trivial));go_wp2_with fail;refine (g.o f.o T a.o).mono ?_;clear g s u v x z A;rintro e w4 ⟨an,cn,ai,ci,rfl,r,p⟩;have k:=U (xm J _ w4 (m.o f.o).2 (Rep.carry (J0 _) lz (fun _ _ _=>rfl) _ _ r));rw [(m.o f.o).1] at k;have j:=U (O2 a p);clear r p;go_wp2_with fail;refine k.o.mono ?_;rintro e w5 ⟨rfl,q⟩;have C:=U (O2 i (O2 j q));clear q;go_wp2;go_ret;exact ⟨qx c.o.symm,C.o⟩
  | false =>
   rw [Z6 (by decide)] at c b;by_cases hr0:rs=[]
   . have n1:decide ((0:Int)<(rs.length:Int))=false:=by subst hr0;rfl
     have n2:((0:Int)<(rs.length:Int))=False:=by subst hr0;simp
     have n3:decide (0<rs.length)=false:=by subst hr0;rfl
     have n4:¬0<rs.length:=by subst hr0;simp
     rw [show rs.isEmpty=true from by subst hr0;rfl,Y4] at c b;clear hr0;go_wp2_with fail;refine (D.o Z d.o).mono ?_;clear D s u v x z A;rintro e T ⟨rfl,o⟩;have a:=U (O2 d o);obtain ⟨s,u,v,x,z,A⟩:=L.o T a.o;clear o;cases bm with
     | false => go_wp2;go_ret;exact ⟨qx c.o.symm,i.o.trans (a.o.mono i.o.size)⟩
     | true => have f:=U (b.o (by first|exact rfl|exact trivial) (by first|exact rfl|exact trivial));go_wp2_with fail;refine (g.o f.o T a.o).mono ?_;clear g s u v x z A;rintro e w4 ⟨an,cn,ai,ci,rfl,r,p⟩;have k:=U (xm J _ w4 (m.o f.o).2 (Rep.carry (J0 _) lz (fun _ _ _=>rfl) _ _ r));rw [(m.o f.o).1] at k;have j:=U (O2 a p);clear r p;go_wp2_with fail;refine k.o.mono ?_;rintro e w5 ⟨rfl,q⟩;have C:=U (O2 i (O2 j q));clear q;go_wp2;go_ret;exact ⟨qx c.o.symm,C.o⟩
   . have n4:0<rs.length:=List.length_pos_iff.2 hr0;have n1:decide ((0:Int)<(rs.length:Int))=true:=by rw [J1];omega
     have n2:(0:Int)<(rs.length:Int):=by omega
     have n3:decide (0<rs.length)=true:=by rw [J1];omega
     rw [show rs.isEmpty=false from by
      cases rs with
      | nil=>exact absurd rfl hr0
      | cons _ _=>rfl,M0] at c
     clear hr0;go_wp2;go_ret;exact ⟨qx c.o.symm,i.o.trans (d.o.mono i.o.size)⟩
