import Derived.Test.YthgembbgcbaghaaGreatDoorDg40
import Derived.Test.YthgembbgcbaghaaGreatDoorDg33
set_option maxHeartbeats 4000000
set_option maxRecDepth 100000

namespace Go.Proofs.YthgembbgcbaghaaGreatDoor
open Go.RowKit Go.Shelf Go.Sort
theorem rz (l g:List Key2) (rs f:List DelegV) (b a t h:Int) (e d:ByteArray) (ids c:List ByteArray):decide ((⟨l,rs,⟨b,e,⟨t,ids⟩⟩⟩:DelegsV)=⟨g,f,⟨a,d,⟨h,c⟩⟩⟩)=(decide (l=g) && (decide (b=a) && (decide (e=d) && (decide ((⟨t,ids⟩:AuthV)=⟨h,c⟩) && decide (rs=f))))):=by simp only [DelegsV.mk.injEq,BinsV.mk.injEq,Bool.decide_and];cases decide (l=g) <;> cases decide (rs=f) <;> cases decide (b=a) <;> cases decide (e=d) <;> cases decide ((⟨t,ids⟩:AuthV)=⟨h,c⟩) <;> rfl
theorem pl (n c:ByteArray) (a b:AuthV) (t f:Bool) (p d q e:List ByteArray):decide ((⟨n,a,t,p,q⟩:DelegV)=⟨c,b,f,d,e⟩)=(decide (n=c) && (decide (t=f) && (decide (a=b) && (decide (p=d) && decide (q=e))))):=by simp only [DelegV.mk.injEq,Bool.decide_and];cases decide (n=c) <;> cases decide (a=b) <;> cases decide (t=f) <;> cases decide (p=d) <;> cases decide (q=e) <;> rfl
theorem iq (l:List Key2) (rs:List DelegV) (t e8:Int) (ids:List ByteArray) (f0:ByteArray) (ka ra ba:Option Addr) (kc rc bc:Nat) (l2:List Key2) (e6:List DelegV) (t2 d7:Int) (e9:List ByteArray) (e7:ByteArray) (kb rb bb:Option Addr) (kd rd bd:Nat) (w:World)
 (hI:DelegsIn w 0 w.heap.size ⟨l,rs,⟨e8,f0,⟨t,ids⟩⟩⟩ ka ra ba) (hJ:DelegsIn w 0 w.heap.size ⟨l2,e6,⟨d7,e7,⟨t2,e9⟩⟩⟩ kb rb bb) (hf:DelegsFits ⟨l,rs,⟨e8,f0,⟨t,ids⟩⟩⟩) (hg:DelegsFits ⟨l2,e6,⟨d7,e7,⟨t2,e9⟩⟩⟩) :
 Calls Tryz.prog 17 #[.agg #[.slice ka l.length kc,.slice ra rs.length rc,.int .i64 t,.slice ba ids.length bc,.int .i64 e8,.string f0],.agg #[.slice kb l2.length kd,.slice rb e6.length rd,.int .i64 t2,.slice bb e9.length bd,.int .i64 d7,.string e7]] w fun r w'=>r=.returned (.bool (decide ((⟨l,rs,⟨e8,f0,⟨t,ids⟩⟩⟩:DelegsV)=⟨l2,e6,⟨d7,e7,⟨t2,e9⟩⟩⟩)))/\O5 w w':=by
 obtain ⟨W,hW⟩:=O1 ((w.alloc (.cells #[.slice ka l.length kc,.slice ra rs.length rc,.int .i64 t,.slice ba ids.length bc,.int .i64 e8,.string f0] 35)).alloc (.cells #[.slice kb l2.length kd,.slice rb e6.length rd,.int .i64 t2,.slice bb e9.length bd,.int .i64 d7,.string e7] 35));have hb:O5 w W:=by rw [hW];exact (O4).alloc (by simp) _
 have hx:W.heap[w.heap.size]?=some (.cells #[.slice ka l.length kc,.slice ra rs.length rc,.int .i64 t,.slice ba ids.length bc,.int .i64 e8,.string f0] 35 (0,0)):=by rw [hW];exact zG w _ _
 have hy:W.heap[w.heap.size+1]?=some (.cells #[.slice kb l2.length kd,.slice rb e6.length rd,.int .i64 t2,.slice bb e9.length bd,.int .i64 d7,.string e7] 35 (0,0)):=by rw [hW];exact j9 w _ _
 have HC:=U (show ∀w':World,O5 W w'->w'.cell? ⟨w.heap.size,0,none⟩=some (.slice ka l.length kc)/\w'.cell? ⟨w.heap.size,1,none⟩=some (.slice ra rs.length rc)/\w'.cell? ⟨w.heap.size,2,none⟩=some (.int .i64 t)/\w'.cell? ⟨w.heap.size,3,none⟩=some (.slice ba ids.length bc)/\w'.cell? ⟨w.heap.size,4,none⟩=some (.int .i64 e8)/\w'.cell? ⟨w.heap.size,5,none⟩=some (.string f0)/\w'.cell? ⟨w.heap.size+1,0,none⟩=some (.slice kb l2.length kd)/\w'.cell? ⟨w.heap.size+1,1,none⟩=some (.slice rb e6.length rd)/\w'.cell? ⟨w.heap.size+1,2,none⟩=some (.int .i64 t2)/\w'.cell? ⟨w.heap.size+1,3,none⟩=some (.slice bb e9.length bd)/\w'.cell? ⟨w.heap.size+1,4,none⟩=some (.int .i64 d7)/\w'.cell? ⟨w.heap.size+1,5,none⟩=some (.string e7) from fun w' h=>by
  have H:=(h.block _ (qx hx)).trans hx;have I:=(h.block _ (qx hy)).trans hy;exact ⟨qq H rfl,qq H rfl,qq H rfl,qq H rfl,qq H rfl,qq H rfl,qq I rfl,qq I rfl,qq I rfl,qq I rfl,qq I rfl,qq I rfl⟩)
 have D:=U (rz l l2 rs e6 e8 d7 t t2 f0 e7 ids e9);have HI:=O0 (∀w':World,O5 W w'->DelegsIn w' 0 w'.heap.size ⟨l,rs,⟨e8,f0,⟨t,ids⟩⟩⟩ ka ra ba/\DelegsIn w' 0 w'.heap.size ⟨l2,e6,⟨d7,e7,⟨t2,e9⟩⟩⟩ kb rb bb) (fun w' h=>⟨hI.below (hb.trans (h.mono hb.size)) lz lz (J1 hb.size h.size),hJ.below (hb.trans (h.mono hb.size)) lz lz (J1 hb.size h.size)⟩);have HF:=U (And.intro hf hg);have f1:l.length<=40:=hf.len;have f2:l2.length<=40:=hg.len;have f3:rs.length<=70:=hf.many;have f4:e6.length<=70:=hg.many;have f5:ids.length<=4294967296:=hf.au.2.1;have f6:e9.length<=4294967296:=hg.au.2.1;have s:=U hb;have d0:=U hW;have d5:=O0 (w.heap.size+1<W.heap.size) (qx hy);have a9:=U (tE l l2 ka kb kc kd W (HI.o W (J0 _ _)).1.keys (HI.o W (J0 _ _)).2.keys (by omega) (by omega));have a8:=O0 (∀w':World,O5 W w'->_) (fun w' h=>yg t t2 ids e9 ba bb bc bd w' (HI.o w' h).1.bids (HI.o w' h).2.bids f5 f6);obtain ⟨q,hq⟩:=O1 (decide ((⟨l,rs,⟨e8,f0,⟨t,ids⟩⟩⟩:DelegsV)=⟨l2,e6,⟨d7,e7,⟨t2,e9⟩⟩⟩));rw [<- hq] at D ⊢;obtain ⟨ek,d3⟩:=O1 (decide (l=l2));rw [<- d3] at a9 D;obtain ⟨ea,d2⟩:=O1 (decide ((⟨t,ids⟩:AuthV)=⟨t2,e9⟩));rw [<- d2] at a8 D;clear hb hW hx hy hI hJ hf hg hq d3 d2 f1 f2 f5 f6;obtain ⟨x0,x1,x2,x3,x4,x5,y0,y1,y2,y3,y4,y5⟩:=HC.o W (J0 _ _);go_enter Tryz.func17,Tryz.ntmps17;go_upto_region 1 with fail
 rw [<- d0.o];clear d0;go_wp2_with fail;refine a9.o.mono ?_;clear a9;clear x0 x1 x2 x3 x4 x5 y0 y1 y2 y3 y4 y5;rintro r w1 ⟨rfl,b2⟩;have S:=U b2;obtain ⟨x0,x1,x2,x3,x4,x5,y0,y1,y2,y3,y4,y5⟩:=HC.o w1 b2;clear b2;cases ek with
 | false => rw [V8] at D;go_wp2;go_ret;exact ⟨qz D.o.symm,s.o.trans (S.o.mono s.o.size)⟩
 | true =>
 rw [Y1] at D;by_cases hlr:rs.length=e6.length
 case neg =>
  have n2:((rs.length:Int) != (e6.length:Int))=true:=by simp;omega
  have C:=U (show q=false by rw [D.o,J5 (p:=rs=e6) (fun e=>hlr (by rw [e]))];simp);clear hlr;go_wp2;go_ret;exact ⟨qz C.o.symm,s.o.trans (S.o.mono s.o.size)⟩
 obtain ⟨nn,a2⟩:=O1 rs.length;have b1:=U a2;have c7:=U (show nn=e6.length by rw [a2,hlr]);rw [<- hlr] at y1;rw [<- a2] at x1 y1 f3;have n2:((nn:Int) != (nn:Int))=false:=by simp
 by_cases hbt:e8=d7
 case neg =>
  have n3:(e8 != d7)=true:=by simpa using hbt
  have C:=U (show q=false by rw [D.o,J5 hbt];simp);clear hbt hlr a2;go_wp2;go_ret;exact ⟨qz C.o.symm,s.o.trans (S.o.mono s.o.size)⟩
 have n3:(e8 != d7)=false:=by simpa using hbt
 rw [X0 hbt,Y1] at D;cases hpr:(f0.toList == e7.toList)
 . have n4:(f0.toList != e7.toList)=true:=by simpa [bne] using hpr
   have C:=U (show q=false by rw [D.o,J5 (p:=f0=e7) (fun e=>by rw [e] at hpr;simp at hpr)];simp);clear hbt hlr a2;go_wp2;go_ret;exact ⟨qz C.o.symm,s.o.trans (S.o.mono s.o.size)⟩
 have n4:(f0.toList != e7.toList)=false:=by simpa [bne] using hpr
 rw [X0 (p:=f0=e7) (by rw [ba_eq,J6] at hpr;exact hpr),Y1] at D;have c4:=U hlr;clear hbt hlr a2;go_wp2_with fail;refine (a8.o w1 S.o).mono ?_;clear a8;clear x0 x1 x2 x3 x4 x5 y0 y1 y2 y3 y4 y5;rintro r w2 ⟨rfl,d1⟩;have c3:=U (O2 S d1);clear d1;cases ea with
 | false => rw [V8] at D;go_wp2;go_ret;exact ⟨qz D.o.symm,s.o.trans (c3.o.mono s.o.size)⟩
 | true =>
 rw [Y1] at D;rw [<- c4.o,<- b1.o] at HC;clear c4 n2 n3 n4 hpr;go_wp2_with fail;go_loopw [5,6,7] (fun i _ _ wr=>∃k:Nat,k<=nn/\i=.int .i64 k/\rs.take k=e6.take k/\O5 W wr) (fun i _ _ _=>nn - (intOf i).toNat)
 case atStart=>exact ⟨0,by omega,rfl,rfl,c3.o⟩
 case round =>
  obtain ⟨k,hk,rfl,d4,b3⟩:=hrel;have c9:=U d4;have Q:=U b3;obtain ⟨x0,x1,x2,x3,x4,x5,y0,y1,y2,y3,y4,y5⟩:=HC.o wr b3;clear d4 b3;by_cases hlt:k<nn
  . have b6:k<rs.length:=by rw [<- b1.o];exact hlt
    have b7:k<e6.length:=by rw [<- c7.o];exact hlt
    obtain ⟨p,o,ha,-,hp,ia,ic,pa,pc,qa,qc,e0,e1,e2,e3,e4,e5,-,-,-,b4⟩:=(HI.o wr Q.o).1.roles.at k b6;subst ha;obtain ⟨p2,o2,ha,-,d6,ja,jc,va,vc,sa,sc,g0,g1,g2,g3,g4,g5,-,-,-,b5⟩:=(HI.o wr Q.o).2.roles.at k b7;subst ha;have m1:(0:Int)<=(k:Int):=by omega
    have m2:(k:Int)<(nn:Int):=by omega
    have m3:decide ((k:Int)<(nn:Int))=true:=by simpa using hlt
    have R:=O0 (rs[k]=e6[k]->rs.take (k+1)=e6.take (k+1)) (fun e=>by rw [J7 b6,J7 b7,c9.o,e]);have m:=O0 (rs[k]≠e6[k]->decide (rs=e6)=false) (fun e=>J5 fun e2=>e (by subst e2;rfl));have B:=HF.o.1.roles _ (X6 b6);have N:=HF.o.2.roles _ (X6 b7);obtain ⟨x,hx⟩:=O1 (rs[k]);rw [<- hx] at e0 e1 e2 e3 e4 e5 b4 R m B;obtain ⟨y,hy⟩:=O1 (e6[k]);rw [<- hy] at g0 g1 g2 g3 g4 g5 b5 R m N;clear hx hy;obtain ⟨F,⟨z,A⟩,G,ps,qs⟩:=x;obtain ⟨f,⟨c,d⟩,g,u,v⟩:=y;dsimp only at e0 e1 e2 e3 e4 e5 g0 g1 g2 g3 g4 g5;have a0:=U b4;have a1:=U b5;have c5:=U B;have c6:=U N;have HP:=O0 (w.heap.size+1<wr.heap.size) (Y5 d5.o Q.o.size);clear b4 b5 B N;go_upto_region 6 with fail
    clear x0 x2 x3 x4 x5 y0 y2 y3 y4 y5
    go_region_held3 (fun w'=>w'.cell? ⟨w.heap.size,1,none⟩=some (.slice (some ⟨p,o,none⟩) nn rc)/\w'.cell? ⟨w.heap.size+1,1,none⟩=some (.slice (some ⟨p2,o2,none⟩) nn rd)/\w'.cell? ⟨p,o+k * 6,none⟩=some (.string F)/\w'.cell? ⟨p,o+k * 6+1,none⟩=some (.int .i64 z)/\w'.cell? ⟨p,o+k * 6+2,none⟩=some (.slice ia A.length ic)/\w'.cell? ⟨p,o+k * 6+3,none⟩=some (.bool G)/\w'.cell? ⟨p,o+k * 6+4,none⟩=some (.slice pa ps.length pc)/\w'.cell? ⟨p,o+k * 6+5,none⟩=some (.slice qa qs.length qc)/\w'.cell? ⟨p2,o2+k * 6,none⟩=some (.string f)/\w'.cell? ⟨p2,o2+k * 6+1,none⟩=some (.int .i64 c)/\w'.cell? ⟨p2,o2+k * 6+2,none⟩=some (.slice ja d.length jc)/\w'.cell? ⟨p2,o2+k * 6+3,none⟩=some (.bool g)/\w'.cell? ⟨p2,o2+k * 6+4,none⟩=some (.slice va u.length vc)/\w'.cell? ⟨p2,o2+k * 6+5,none⟩=some (.slice sa v.length sc)) (first|(with_reducible exact ⟨x1,y1,e0,e1,e2,e3,e4,e5,g0,g1,g2,g3,g4,g5⟩)|(go_keep;done)) (fail)
    . rename_i hS;clear hS;obtain ⟨j,E⟩:=O1 (((wr.alloc (.cells #[.string F,.int .i64 z,.slice ia A.length ic,.bool G,.slice pa ps.length pc,.slice qa qs.length qc] 41)).alloc (.cells #[.string f,.int .i64 c,.slice ja d.length jc,.bool g,.slice va u.length vc,.slice sa v.length sc] 41)).drew);rw [<- E];have M:O5 wr j:=by rw [E];exact ((O4).alloc (by simp) _).drew
      have Y:j.heap[wr.heap.size]?=some (.cells #[.string F,.int .i64 z,.slice ia A.length ic,.bool G,.slice pa ps.length pc,.slice qa qs.length qc] 41 (0,0)):=by rw [E];exact zG wr _ _
      have Z:j.heap[wr.heap.size+1]?=some (.cells #[.string f,.int .i64 c,.slice ja d.length jc,.bool g,.slice va u.length vc,.slice sa v.length sc] 41 (0,0)):=by rw [E];exact j9 wr _ _
      have a4:=U (show ∀w':World,O5 j w'->w'.cell? ⟨wr.heap.size,0,none⟩=some (.string F)/\w'.cell? ⟨wr.heap.size,1,none⟩=some (.int .i64 z)/\w'.cell? ⟨wr.heap.size,2,none⟩=some (.slice ia A.length ic)/\w'.cell? ⟨wr.heap.size,3,none⟩=some (.bool G)/\w'.cell? ⟨wr.heap.size,4,none⟩=some (.slice pa ps.length pc)/\w'.cell? ⟨wr.heap.size,5,none⟩=some (.slice qa qs.length qc)/\w'.cell? ⟨wr.heap.size+1,0,none⟩=some (.string f)/\w'.cell? ⟨wr.heap.size+1,1,none⟩=some (.int .i64 c)/\w'.cell? ⟨wr.heap.size+1,2,none⟩=some (.slice ja d.length jc)/\w'.cell? ⟨wr.heap.size+1,3,none⟩=some (.bool g)/\w'.cell? ⟨wr.heap.size+1,4,none⟩=some (.slice va u.length vc)/\w'.cell? ⟨wr.heap.size+1,5,none⟩=some (.slice sa v.length sc) from fun w' h=>by
       have H:=(h.block _ (qx Y)).trans Y;have I:=(h.block _ (qx Z)).trans Z;exact ⟨qq H rfl,qq H rfl,qq H rfl,qq H rfl,qq H rfl,qq H rfl,qq I rfl,qq I rfl,qq I rfl,qq I rfl,qq I rfl,qq I rfl⟩)
      have K:=U (O2 Q M);have B:=c5.o;have N:=c6.o;have a:=fun (w':World) (h:O5 j w')=>M.trans (h.mono M.size);have T:=O0 (∀w':World,O5 j w'->_) (fun w' h=>yg z c A d ia ja ic jc w' (a0.o.ids.below (a w' h) lz lz (a w' h).size) (a1.o.ids.below (a w' h) lz lz (a w' h).size) B.au.2.1 N.au.2.1);have V:=O0 (∀w':World,O5 j w'->_) (fun w' h=>wk ps u pa va pc vc w' (a0.o.paths.below (a w' h) lz lz (a w' h).size) (a1.o.paths.below (a w' h) lz lz (a w' h).size) B.paths.1);have X:=O0 (∀w':World,O5 j w'->_) (fun w' h=>wk qs v qa sa qc sc w' (a0.o.pres.below (a w' h) lz lz (a w' h).size) (a1.o.pres.below (a w' h) lz lz (a w' h).size) B.pres.1);have b:=U (pl F f ⟨z,A⟩ ⟨c,d⟩ G g ps u qs v);obtain ⟨sx,P⟩:=O1 (decide ((⟨F,⟨z,A⟩,G,ps,qs⟩:DelegV)=⟨f,⟨c,d⟩,g,u,v⟩));rw [<- P] at b;replace m:=O0 (sx=false->decide (rs=e6)=false) (fun h=>m.o (by rw [P] at h;exact of_decide_eq_false h));replace R:=O0 (sx=true->rs.take (k+1)=e6.take (k+1)) (fun h=>R.o (by rw [P] at h;exact zb5 h));obtain ⟨c2,a5⟩:∃s',s'=decide ((⟨z,A⟩:AuthV)=⟨c,d⟩):=⟨_,rfl⟩;rw [<- a5] at b T;obtain ⟨sp,a6⟩:∃s',s'=decide (ps=u):=⟨_,rfl⟩;rw [<- a6] at b V;obtain ⟨sq,a7⟩:∃s',s'=decide (qs=v):=⟨_,rfl⟩;rw [<- a7] at b X;clear E M Y Z B N a P a5 a6 a7 x1 y1 e0 e1 e2 e3 e4 e5 g0 g1 g2 g3 g4 g5;obtain ⟨u0,u1,u2,u3,u4,u5,v0,v1,v2,v3,v4,v5⟩:=a4.o j (J0 _ _);cases hn:(F.toList == f.toList)
      . have b9:(F.toList != f.toList)=true:=by simpa [bne] using hn
        have C:=U (show q=false by rw [D.o];exact m.o (by rw [b.o,J5 (p:=F=f) (fun e=>by rw [e] at hn;simp at hn)];rfl));go_wp2;go_ret;exact ⟨qz C.o.symm,s.o.trans (K.o.mono s.o.size)⟩
      have b9:(F.toList != f.toList)=false:=by simpa [bne] using hn
      rw [X0 (p:=F=f) (by rw [ba_eq,J6] at hn;exact hn),Y1] at b;by_cases ht:G=g
      case neg =>
       have c0:(G != g)=true:=by simpa using ht
       have c1:(G == g)=false:=by simpa using ht
       have C:=U (show q=false by rw [D.o];exact m.o (by rw [b.o,J5 ht];rfl));clear ht;go_wp2;go_ret;exact ⟨qz C.o.symm,s.o.trans (K.o.mono s.o.size)⟩
      have c0:(G != g)=false:=by simpa using ht
      have c1:(G == g)=true:=by simpa using ht
      rw [X0 ht,Y1] at b;clear ht;go_wp2_with fail;refine (T.o j (J0 _ _)).mono ?_;clear T;clear u0 v0 u1 v1 u2 v2 u3 v3 u4 v4 u5 v5;rintro r w5 ⟨rfl,L⟩;obtain ⟨u0,u1,u2,u3,u4,u5,v0,v1,v2,v3,v4,v5⟩:=a4.o w5 L;have a3:=U L;have J:=U (O2 K L);clear L;cases c2 with
      | false => have C:=U (show q=false by rw [D.o];exact m.o (by rw [b.o];rfl));go_wp2;go_ret;exact ⟨qz C.o.symm,s.o.trans (J.o.mono s.o.size)⟩
      | true =>
      rw [Y1] at b;go_wp2_with fail;refine (V.o w5 a3.o).mono ?_;clear V;rintro r w6 ⟨rfl,n6,rfl⟩;cases sp with
      | false => have C:=U (show q=false by rw [D.o];exact m.o (by rw [b.o];rfl));go_wp2;go_ret;exact ⟨qz C.o.symm,Below.drewN (s.o.trans (J.o.mono s.o.size)) _⟩
      | true =>
      rw [Y1] at b;go_wp2_with fail;refine (X.o (w5.drewN n6) (Below.drewN a3.o _)).mono ?_;clear X;rintro r w7 ⟨rfl,n7,rfl⟩;cases sq with
      | false => have C:=U (show q=false by rw [D.o];exact m.o b.o);go_wp2;go_ret;exact ⟨qz C.o.symm,Below.drewN (s.o.trans (J.o.mono s.o.size)) _⟩
      | true =>
       have b0:=U (R.o b.o);go_wp2;go_roundw
       case rel=>exact ⟨k+1,by omega,by go_num,b0.o,Below.drewN J.o _⟩
       case measure=>simp [intOf];omega
    . rename_i hS;clear hS;obtain ⟨j,E⟩:=O1 (((wr.alloc (.cells #[.string f,.int .i64 c,.slice ja d.length jc,.bool g,.slice va u.length vc,.slice sa v.length sc] 41)).alloc (.cells #[.string F,.int .i64 z,.slice ia A.length ic,.bool G,.slice pa ps.length pc,.slice qa qs.length qc] 41)).drew);rw [<- E];have M:O5 wr j:=by rw [E];exact ((O4).alloc (by simp) _).drew
      have Y:j.heap[wr.heap.size+1]?=some (.cells #[.string F,.int .i64 z,.slice ia A.length ic,.bool G,.slice pa ps.length pc,.slice qa qs.length qc] 41 (0,0)):=by rw [E];exact j9 wr _ _
      have Z:j.heap[wr.heap.size]?=some (.cells #[.string f,.int .i64 c,.slice ja d.length jc,.bool g,.slice va u.length vc,.slice sa v.length sc] 41 (0,0)):=by rw [E];exact zG wr _ _
      have a4:=U (show ∀w':World,O5 j w'->w'.cell? ⟨wr.heap.size+1,0,none⟩=some (.string F)/\w'.cell? ⟨wr.heap.size+1,1,none⟩=some (.int .i64 z)/\w'.cell? ⟨wr.heap.size+1,2,none⟩=some (.slice ia A.length ic)/\w'.cell? ⟨wr.heap.size+1,3,none⟩=some (.bool G)/\w'.cell? ⟨wr.heap.size+1,4,none⟩=some (.slice pa ps.length pc)/\w'.cell? ⟨wr.heap.size+1,5,none⟩=some (.slice qa qs.length qc)/\w'.cell? ⟨wr.heap.size,0,none⟩=some (.string f)/\w'.cell? ⟨wr.heap.size,1,none⟩=some (.int .i64 c)/\w'.cell? ⟨wr.heap.size,2,none⟩=some (.slice ja d.length jc)/\w'.cell? ⟨wr.heap.size,3,none⟩=some (.bool g)/\w'.cell? ⟨wr.heap.size,4,none⟩=some (.slice va u.length vc)/\w'.cell? ⟨wr.heap.size,5,none⟩=some (.slice sa v.length sc) from fun w' h=>by
       have H:=(h.block _ (qx Y)).trans Y;have I:=(h.block _ (qx Z)).trans Z;exact ⟨qq H rfl,qq H rfl,qq H rfl,qq H rfl,qq H rfl,qq H rfl,qq I rfl,qq I rfl,qq I rfl,qq I rfl,qq I rfl,qq I rfl⟩)
      have K:=U (O2 Q M);have B:=c5.o;have N:=c6.o;have a:=fun (w':World) (h:O5 j w')=>M.trans (h.mono M.size);have T:=O0 (∀w':World,O5 j w'->_) (fun w' h=>yg z c A d ia ja ic jc w' (a0.o.ids.below (a w' h) lz lz (a w' h).size) (a1.o.ids.below (a w' h) lz lz (a w' h).size) B.au.2.1 N.au.2.1);have V:=O0 (∀w':World,O5 j w'->_) (fun w' h=>wk ps u pa va pc vc w' (a0.o.paths.below (a w' h) lz lz (a w' h).size) (a1.o.paths.below (a w' h) lz lz (a w' h).size) B.paths.1);have X:=O0 (∀w':World,O5 j w'->_) (fun w' h=>wk qs v qa sa qc sc w' (a0.o.pres.below (a w' h) lz lz (a w' h).size) (a1.o.pres.below (a w' h) lz lz (a w' h).size) B.pres.1);have b:=U (pl F f ⟨z,A⟩ ⟨c,d⟩ G g ps u qs v);obtain ⟨sx,P⟩:=O1 (decide ((⟨F,⟨z,A⟩,G,ps,qs⟩:DelegV)=⟨f,⟨c,d⟩,g,u,v⟩));rw [<- P] at b;replace m:=O0 (sx=false->decide (rs=e6)=false) (fun h=>m.o (by rw [P] at h;exact of_decide_eq_false h));replace R:=O0 (sx=true->rs.take (k+1)=e6.take (k+1)) (fun h=>R.o (by rw [P] at h;exact zb5 h));obtain ⟨c2,a5⟩:∃s',s'=decide ((⟨z,A⟩:AuthV)=⟨c,d⟩):=⟨_,rfl⟩;rw [<- a5] at b T;obtain ⟨sp,a6⟩:∃s',s'=decide (ps=u):=⟨_,rfl⟩;rw [<- a6] at b V;obtain ⟨sq,a7⟩:∃s',s'=decide (qs=v):=⟨_,rfl⟩;rw [<- a7] at b X;clear E M Y Z B N a P a5 a6 a7 x1 y1 e0 e1 e2 e3 e4 e5 g0 g1 g2 g3 g4 g5;obtain ⟨u0,u1,u2,u3,u4,u5,v0,v1,v2,v3,v4,v5⟩:=a4.o j (J0 _ _);cases hn:(F.toList == f.toList)
      . have b9:(F.toList != f.toList)=true:=by simpa [bne] using hn
        have C:=U (show q=false by rw [D.o];exact m.o (by rw [b.o,J5 (p:=F=f) (fun e=>by rw [e] at hn;simp at hn)];rfl));go_wp2;go_ret;exact ⟨qz C.o.symm,s.o.trans (K.o.mono s.o.size)⟩
      have b9:(F.toList != f.toList)=false:=by simpa [bne] using hn
      rw [X0 (p:=F=f) (by rw [ba_eq,J6] at hn;exact hn),Y1] at b;by_cases ht:G=g
      case neg =>
       have c0:(G != g)=true:=by simpa using ht
       have c1:(G == g)=false:=by simpa using ht
       have C:=U (show q=false by rw [D.o];exact m.o (by rw [b.o,J5 ht];rfl));clear ht;go_wp2;go_ret;exact ⟨qz C.o.symm,s.o.trans (K.o.mono s.o.size)⟩
      have c0:(G != g)=false:=by simpa using ht
      have c1:(G == g)=true:=by simpa using ht
      rw [X0 ht,Y1] at b;clear ht;go_wp2_with fail;refine (T.o j (J0 _ _)).mono ?_;clear T;clear u0 v0 u1 v1 u2 v2 u3 v3 u4 v4 u5 v5;rintro r w5 ⟨rfl,L⟩;obtain ⟨u0,u1,u2,u3,u4,u5,v0,v1,v2,v3,v4,v5⟩:=a4.o w5 L;have a3:=U L;have J:=U (O2 K L);clear L;cases c2 with
      | false => have C:=U (show q=false by rw [D.o];exact m.o (by rw [b.o];rfl));go_wp2;go_ret;exact ⟨qz C.o.symm,s.o.trans (J.o.mono s.o.size)⟩
      | true =>
      rw [Y1] at b;go_wp2_with fail;refine (V.o w5 a3.o).mono ?_;clear V;rintro r w6 ⟨rfl,n6,rfl⟩;cases sp with
      | false => have C:=U (show q=false by rw [D.o];exact m.o (by rw [b.o];rfl));go_wp2;go_ret;exact ⟨qz C.o.symm,Below.drewN (s.o.trans (J.o.mono s.o.size)) _⟩
      | true =>
      rw [Y1] at b;go_wp2_with fail;refine (X.o (w5.drewN n6) (Below.drewN a3.o _)).mono ?_;clear X;rintro r w7 ⟨rfl,n7,rfl⟩;cases sq with
      | false => have C:=U (show q=false by rw [D.o];exact m.o b.o);go_wp2;go_ret;exact ⟨qz C.o.symm,Below.drewN (s.o.trans (J.o.mono s.o.size)) _⟩
      | true =>
       have b0:=U (R.o b.o);go_wp2;go_roundw
       case rel=>exact ⟨k+1,by omega,by go_num,b0.o,Below.drewN J.o _⟩
       case measure=>simp [intOf];omega
  . obtain rfl:k=nn:=by omega
    have m3:decide ((k:Int)<(k:Int))=false:=by simp
    have HR:=U (show q=true by
     rw [D.o];have:=c9.o;rw [X2 (by rw [<- b1.o];exact J9 _),X2 (by rw [<- c7.o];exact J9 _)] at this;exact X0 this)
    go_wp2;go_ret;exact ⟨qz HR.o.symm,s.o.trans (Q.o.mono s.o.size)⟩
def ogK (u:JV) (st:PS):JV × PS:=qQ u qF 32 st
def ogL (u:JV) (st:PS):List Key2 × Int:=jk (ogK u st).1
def ogS (u:JV) (st:PS):PS:=(ogK u st).2.fail (ogL u st).2
def ogO (u:JV) (st:PS):JV × PS:=qQ u xP 8192 (ogS u st)
def ogR (u:JV) (st:PS):List JV × PS:=qY u xC 64 (ogS u st)
def ogB (u:JV) (st:PS):(BinsV × List DelegV) × PS:=if q9 u xP (ogS u st) then (((xG (ogO u st).1).1,[]),(ogO u st).2.fail (xG (ogO u st).1).2) else ((jW,(xK (ogR u st).1 []).1),(ogR u st).2.fail (xK (ogR u st).1 []).2)
def pM (u:JV) (st:PS):DelegsV × Int:=if qd u (ogB u st).2≠0 then (j4,qd u (ogB u st).2) else (⟨(ogL u st).1,(ogB u st).1.2,(ogB u st).1.1⟩,0)
theorem rx:pM zJ ⟨[],10⟩=(j4,10):=by decide +kernel
theorem iz {v:JV} {y:ByteArray} {e:Nat} {st:PS}:(qY v y e st).1.length<=e/\JV.wts (qY v y e st).1<=v.wt:=by
 unfold qY;split
 . exact ⟨X7 _,by simp [JV.wts]⟩
 . split
   . exact ⟨X7 _,by simp [JV.wts]⟩
   . rename_i it hit;split
     . exact ⟨X7 _,by simp [JV.wts]⟩
     . split
       . exact ⟨X7 _,by simp [JV.wts]⟩
       . refine ⟨by show it.items.length<=e;omega,?_⟩;have b:=it.wt_eq;obtain ⟨j,a,rfl⟩:=V4 (vd hit).2;have c:=JV.wts_get v.items j a;have d:=v.wt_eq;show JV.wts v.items[j].items<=v.wt;omega
theorem ZH {u:JV} {st:PS} (h:st.asked.length<=1000):(ogS u st).asked.length<=1001:=by have a:=@ZJ u qF 32 st;unfold ogS ogK;rw [vm];omega
def dw (u:JV) (st:PS):Prop:=((ogO u st).1.kind=5->qo (ogO u st).1.names=true/\(ogO u st).1.names.length=(ogO u st).1.items.length)/\∀v ∈ (ogR u st).1,v.kind=5->qo v.names=true/\v.names.length=v.items.length
def wv (r:DelegsV × Int) (w:World) (e:Ending) (w':World):Prop :=
 ∃ka kc ra rc ba bc,e=.returned (.tuple #[.agg #[.slice ka r.1.keys.length kc,.slice ra r.1.roles.length rc,.int .i64 r.1.bins.au.thr,.slice ba r.1.bins.au.ids.length bc,.int .i64 r.1.bins.bits,.string r.1.bins.pre],.int .i64 r.2])/\r.1.roles.length<=rc/\DelegsIn w' w.heap.size w'.heap.size r.1 ka ra ba/\O5 w w'
theorem wS {a:Int} {w w':World} (b:O5 w w'):wv (j4,a) w (.returned (.tuple #[.agg #[.slice none 0 0,.slice none 0 0,.int .i64 0,.slice none 0 0,.int .i64 0,.string ⟨#[]⟩],.int .i64 a])) w' :=
 ⟨none,0,none,0,none,0,rfl,J9 _,⟨.inl rfl,.inl rfl,.inl rfl⟩,b⟩
def rj (C:JV->Prop) (st:PS) (mb:Bool) (w:World) (e:Ending) (w':World):Prop:=(mb=false/\wv (j4,3) w e w')\/(mb=true/\∃u,C u/\wv (pM u st) w e w')
theorem mA (C:JV->Prop) (st:PS) (v:JV) (x:Value) (w:World) (hN:v.wt<=4294967296) (hR:Rep w 0 w.heap.size v x) (ha:st.asked.length<=1000) (hT:Tabs w) (hC:∀u,C u->dw u st)
 (h1:v.mayB=true->∀w1,O5 w w1->Calls Tryz.prog 60 #[x] w1 (gW C st w1)) :
 Calls Tryz.prog 16 #[x] w (rj C st v.mayB w):=by
 obtain ⟨an,cn,ai,ci,hx,K,D,h3,h4⟩:=hR.parts;clear K D h3 h4;subst hx;obtain ⟨W,hW⟩:=O1 ((w.alloc (.cells #[.int .u8 v.kind,.int .i64 v.n,.string v.t,.slice an v.names.length cn,.slice ai v.items.length ci] 25)).alloc (.cells #[.slice none 0 0,.slice none 0 0,.int .i64 0,.slice none 0 0,.int .i64 0,.string ⟨#[]⟩] 35));have h5:(w.alloc (.cells #[.int .u8 v.kind,.int .i64 v.n,.string v.t,.slice an v.names.length cn,.slice ai v.items.length ci] 25)).heap.size=w.heap.size+1:=by simp
 have hb:O5 w W:=by rw [hW];exact (O4).alloc (by simp) _
 have h0:W.heap[w.heap.size]?=some (.cells #[.int .u8 v.kind,.int .i64 v.n,.string v.t,.slice an v.names.length cn,.slice ai v.items.length ci] 25 (0,0)):=by rw [hW];exact zG w _ _
 have d6:W.rowIs (w.heap.size+1) 35 6 (qX (.slice none 0 0) (.slice none 0 0) (.int .i64 0) (.slice none 0 0) (.int .i64 0) (.string ⟨#[]⟩)):=(by have:=xH (w.alloc (.cells #[.int .u8 v.kind,.int .i64 v.n,.string v.t,.slice an v.names.length cn,.slice ai v.items.length ci] 25)) (.slice none 0 0) (.slice none 0 0) (.int .i64 0) (.slice none 0 0) (.int .i64 0) (.string ⟨#[]⟩) 35;rw [h5,<- hW] at this;exact this);have a3:=U h1;have c7:=U (vu v _ W hN (hR.below hb lz (X7 _) hb.size));obtain ⟨mb,g6⟩:=O1 v.mayB;rw [<- g6] at c7 a3 ⊢;have e6:=U hC;have h7:=O0 (∀w':World,O5 w w'->Tabs w') (fun w' h=>hT.below h);have g:=U hb;have V:=U h0;have M:=U d6;have HW:=U hW;have HA:=U ha;have d2:=O0 (w.heap.size+2<=W.heap.size) d6.lt;clear h1 hW h5 hb h0 d6 hR ha g6 hN hC hT;obtain ⟨c0,c1,c2,c3,c4⟩:=bx5 V.o;go_enter Tryz.func16,Tryz.ntmps16;go_upto_region 1 with fail
 rw [<- HW.o];clear HW;go_wp2_with fail;refine c7.o.mono ?_;clear c7 c0 c1 c2 c3 c4;rintro e w1 ⟨rfl,c5⟩;replace V:=U ((c5.block _ (qx V.o)).trans V.o);have H:=qj c5 M.o M.o.lt;replace M:=U H;replace g:=U (O2 g c5);replace d2:=O0 (w.heap.size+2<=w1.heap.size) H.lt;clear c5;cases mb with
 | false => obtain ⟨t0,t1,t2,t3,t4⟩:=rc5 H;have t5:=H.cell (i:=5) (by decide);obtain ⟨s0,s1,s2,s3,s4⟩:=rf5 H;have s5:=H.frozen 5;simp only [qX] at t0 t1 t2 t3 t4 t5;clear H;go_wp2;refine X4 (qk Tryz.results16 _ _ (w.heap.size+1) 35 _ (0,0) _ rfl (zX (yO _ _ _ _ _ _ M.o)) zd8 rfl (by kernel_rfl) _ rfl) rfl ?_;exact .inl ⟨rfl,wS (je _ _ _ _ _ _ g.o (by omega))⟩
 | true =>
 clear H;replace a3:=U (a3.o rfl w1 g.o);obtain ⟨c0,c1,c2,c3,c4⟩:=bx5 V.o;go_wp2_with fail;refine a3.o.mono ?_;clear a3 c0 c1 c2 c3 c4;rintro e w2 ⟨u,o,m,lo,hi,i5,i2,j2,i9,hC,hu,rfl,d3,i0,h9,X⟩;have HC:=U hC;have a0:=U (e6.o u hC);have HU:=U hu;have h8:=d3.lt;obtain ⟨p,d4⟩:=O1 w2.heap.size;obtain ⟨J,b7⟩:=O1 (w2.alloc (.cells #[.slice none 0 0,.slice none 0 0,.int .i64 0,.slice none 0 0,.int .i64 0,.string ⟨#[]⟩] 35));have b0:=O7 b7
 have d5:J.rowIs p 35 6 (qX (.slice none 0 0) (.slice none 0 0) (.int .i64 0) (.slice none 0 0) (.int .i64 0) (.string ⟨#[]⟩)):=by rw [b7,d4];exact xH _ _ _ _ _ _ _ _
 have l:=U (show p≠o/\p≠m/\hi<=p/\w.heap.size+2<=o/\w.heap.size+2<=m/\w.heap.size+2<=p/\p<J.heap.size/\o<J.heap.size/\m<J.heap.size from by
  have K:=X.size;have D:=d5.lt;have h3:=d2.o;have h4:=b0.size;omega)
 have A:=U (d3.below b0);have y:=U (qj (X.trans (b0.mono X.size)) M.o M.o.lt);replace g:=U (g.o.trans ((X.trans (b0.mono X.size)).mono g.o.size));have d:=U d5;have z:=U (J9 J.heap.size);have e9:=U b7;have e8:=U d4;clear e6 hC hu h8 d3 i0 h9 X b0 d5 b7 d4 M V d2;have c6:=U (@ZH u st HA.o);have S:=U (Q7 qF 32 A.o (by decide) (by have:=HA.o;omega));unfold Qo at S;have c9:=O0 ((ogK u st).1.wt<=4294967296) (fU HU.o);have b5:=O0 (ogL u st=jk (ogK u st).1) rfl;have T:=O0 (ogS u st=(ogK u st).2.fail (ogL u st).2) rfl;have s:=O0 (ogB u st=if q9 u xP (ogS u st) then (((xG (ogO u st).1).1,[]),(ogO u st).2.fail (xG (ogO u st).1).2) else ((jW,(xK (ogR u st).1 []).1),(ogR u st).2.fail (xK (ogR u st).1 []).2)) rfl;have a4:=O0 (ogO u st=qQ u xP 8192 (ogS u st)) rfl;have b6:=O0 (ogR u st=qY u xC 64 (ogS u st)) rfl;have I:=O0 (pM u st=if qd u (ogB u st).2≠0 then (j4,qd u (ogB u st).2) else (⟨(ogL u st).1,(ogB u st).1.2,(ogB u st).1.1⟩,0)) rfl;unfold dw at a0;rw [show qQ u qF 32 st=ogK u st from rfl] at S;obtain ⟨GK,f7⟩:=O1 (ogK u st);rw [<- f7] at S c9 b5 T;clear f7;obtain ⟨KJ,SK⟩:=GK;dsimp only at S c9 b5 T;go_upto_region 6 with fail
 rw [<- e9.o,<- e8.o];clear e8 e9;go_wp2_with fail;refine S.o.mono ?_;clear S;rintro e w4 ⟨⟨i6,j3,i3,j0,rfl,g8⟩,r,a⟩;have Q:=U (eF KJ _ w4 J.heap.size (Nat.lt_of_le_of_lt (X7 _) d.o.lt) c9.o g8 (h7.o w4 (g.o.trans (a.below (by have:=g.o.size;omega) fun k hk e=>by have:=l.o;omega))));clear g8;replace A:=U r;replace y:=U (a.row y.o (by have:=l.o;omega));replace d:=U (a.row d.o (by have:=l.o;omega));replace g:=U (g.o.trans (a.below (by have:=g.o.size;omega) fun k hk e=>by have:=l.o;omega));replace z:=U (J1 z.o a.size);clear r a;unfold lE at Q;rw [<- b5.o] at Q;obtain ⟨GL,g0⟩:=O1 (ogL u st);rw [<- g0] at Q T I;clear g0 b5;obtain ⟨kl,ke⟩:=GL;dsimp only at Q T I;go_wp2_with fail;refine Q.o.mono ?_;clear Q;rintro e w5 ⟨kv,rfl,g7,f⟩;obtain ⟨ka,kc,rfl,g5⟩:=uR g7 rfl;have q:=O0 (xu w5 J.heap.size w5.heap.size ka kl) (g5.carry z.o lz (fun _ _ _=>rfl));clear g7 g5;replace A:=U (A.o.below f);replace y:=U (qj f y.o y.o.lt);replace d:=U (qj f d.o d.o.lt);replace g:=U (O2 g f);replace z:=U (J1 z.o f.size);clear f;have e0:=d.o.cell (i:=0) (by decide);have f0:=d.o.frozen 0;simp only [qX] at e0;obtain ⟨W6,b9⟩:=O1 (w5.setCell ⟨p,0,none⟩ (.slice ka kl.length kc));have c:Touch (fun b=>b=p) w5 W6:=by rw [b9];exact (Touch.refl _ _).trans (qD _)
 replace d:=U (show W6.rowIs p 35 6 (qX (.slice ka kl.length kc) (.slice none 0 0) (.int .i64 0) (.slice none 0 0) (.int .i64 0) (.string ⟨#[]⟩)) from by
  rw [b9];refine (d.o.set 0 _).congr fun j hj=>?_;rcases j with _|_|_|_|_|_|j <;> first|rfl|omega)
 replace A:=U (A.o.touch c l.o.1 l.o.2.1 l.o.2.2.1);replace y:=U (c.row y.o (by have:=l.o;omega));replace g:=U (g.o.trans (c.below (by have:=g.o.size;omega) fun k hk e=>by have:=l.o;omega));replace z:=U (J1 z.o c.size);replace q:=U (q.o.carry lz c.size (fun b K D=>c.block b D (by have:=l.o;omega)));have f6:=U b9;clear c b9;go_upto_region 7 with fail
 rw [<- f6.o];clear f6 e0 f0;go_wp2_with fail;refine (mo ke A.o).mono ?_;rintro e w7 ⟨rfl,r,a⟩;rw [<- T.o] at r;replace A:=U r;replace y:=U (a.row y.o (by have:=l.o;omega));replace d:=U (a.row d.o (by have:=l.o;omega));replace g:=U (g.o.trans (a.below (by have:=g.o.size;omega) fun k hk e=>by have:=l.o;omega));replace z:=U (J1 z.o a.size);replace q:=U (q.o.carry lz a.size (fun b K D=>a.block b D (by have:=l.o;omega)));clear r a;clear T;obtain ⟨SS,g3⟩:=O1 (ogS u st);rw [<- g3] at A s a4 b6 c6;clear g3;have e7:=U (Z0 xP A.o);go_upto_region 8 with fail
 go_wp2_with fail
 refine e7.o.mono ?_;clear e7;rintro e w8 ⟨rfl,f⟩;replace A:=U (A.o.below f);replace y:=U (qj f y.o y.o.lt);replace d:=U (qj f d.o d.o.lt);replace g:=U (O2 g f);replace z:=U (J1 z.o f.size);replace q:=U (q.o.below f lz lz f.size);clear f;obtain ⟨hv,g4⟩:=O1 (q9 u xP SS);rw [<- g4] at s ⊢;clear g4;cases hv with
 | true =>
  rw [J8 rfl] at s;have R:=U (Q7 xP 8192 A.o (by decide) (by have:=c6.o;omega));unfold Qo at R;rw [<- a4.o] at R;have d0:=U (show (ogO u st).1.wt<=4294967296 by rw [a4.o];exact fU HU.o);have L:=U a0.o.1;obtain ⟨GO,g1⟩:=O1 (ogO u st);rw [<- g1] at R d0 s L;clear g1 a4 b6 a0;obtain ⟨OJ,SO⟩:=GO;dsimp only at R d0 s L;go_wp2_with fail;refine R.o.mono ?_;clear R;rintro e w9 ⟨⟨i7,k0,i4,j1,rfl,b2⟩,r,a⟩;have Y:=U (lC OJ _ w9 w8.heap.size (by have:=z.o;have:=l.o;omega) d0.o b2 L.o);clear b2;replace A:=U r;replace y:=U (a.row y.o (by have:=l.o;omega));replace d:=U (a.row d.o (by have:=l.o;omega));replace g:=U (g.o.trans (a.below (by have:=g.o.size;omega) fun k hk e=>by have:=l.o;omega));replace z:=U (J1 z.o a.size);replace q:=U (q.o.carry lz a.size (fun b K D=>a.block b D (by have:=l.o;omega)));clear r a;unfold vE at Y;obtain ⟨GB,a9⟩:=O1 (xG OJ);rw [<- a9] at Y s;clear a9;obtain ⟨⟨a8,d7,au⟩,be⟩:=GB;dsimp only at Y s;obtain ⟨SP,P⟩:=O1 (SO.fail be);rw [<- P] at s;rw [s.o] at I;dsimp only at I;have a7:=U P;clear P s;go_wp2_with fail;refine Y.o.mono ?_;clear Y;rintro e F ⟨ba,bc,rfl,-,b3,f⟩;have Z:=O0 (qv F J.heap.size F.heap.size ba au.ids) (b3.carry z.o lz (fun _ _ _=>rfl));clear b3;replace A:=U (A.o.below f);replace y:=U (qj f y.o y.o.lt);replace d:=U (qj f d.o d.o.lt);replace g:=U (O2 g f);replace z:=U (J1 z.o f.size);replace q:=U (q.o.below f lz lz f.size);clear f;have e2:=d.o.cell (i:=2) (by decide);have f2:=d.o.frozen 2;simp only [qX] at e2;have e3:=d.o.cell (i:=3) (by decide);have f3:=d.o.frozen 3;simp only [qX] at e3;have e4:=d.o.cell (i:=4) (by decide);have f4:=d.o.frozen 4;simp only [qX] at e4;have e5:=d.o.cell (i:=5) (by decide);have f5:=d.o.frozen 5;simp only [qX] at e5;obtain ⟨E,B⟩:=O1 ((((F.setCell ⟨p,2,none⟩ (.int .i64 au.thr)).setCell ⟨p,3,none⟩ (.slice ba au.ids.length bc)).setCell ⟨p,4,none⟩ (.int .i64 a8)).setCell ⟨p,5,none⟩ (.string d7));have c:Touch (fun b=>b=p) F E:=by rw [B];exact ((((Touch.refl _ _).trans (qD _)).trans (qD _)).trans (qD _)).trans (qD _)
  replace d:=U (show E.rowIs p 35 6 (qX (.slice ka kl.length kc) (.slice none 0 0) (.int .i64 au.thr) (.slice ba au.ids.length bc) (.int .i64 a8) (.string d7)) from by
   rw [B];refine ((((d.o.set 2 _).set 3 _).set 4 _).set 5 _).congr fun j hj=>?_;rcases j with _|_|_|_|_|_|j <;> first|rfl|omega)
  replace A:=U (A.o.touch c l.o.1 l.o.2.1 l.o.2.2.1);replace y:=U (c.row y.o (by have:=l.o;omega));replace g:=U (g.o.trans (c.below (by have:=g.o.size;omega) fun k hk e=>by have:=l.o;omega));replace z:=U (J1 z.o c.size);replace q:=U (q.o.carry lz c.size (fun b K D=>c.block b D (by have:=l.o;omega)));replace Z:=U (Z.o.carry lz c.size (fun b K D=>c.block b D (by have:=l.o;omega)));have G:=U B;clear c B;go_upto_region 11 with fail
  rw [<- G.o];clear G e2 f2 e3 f3 e4 f4 e5 f5;go_wp2_with fail;refine (mo be A.o).mono ?_;rintro e b4 ⟨rfl,r,a⟩;rw [<- a7.o] at r;clear a7;replace A:=U r;replace y:=U (a.row y.o (by have:=l.o;omega));replace d:=U (a.row d.o (by have:=l.o;omega));replace g:=U (g.o.trans (a.below (by have:=g.o.size;omega) fun k hk e=>by have:=l.o;omega));replace z:=U (J1 z.o a.size);replace q:=U (q.o.carry lz a.size (fun b K D=>a.block b D (by have:=l.o;omega)));replace Z:=U (Z.o.carry lz a.size (fun b K D=>a.block b D (by have:=l.o;omega)));clear r a;have HD:=U (lw A.o HU.o);obtain ⟨dn,b1⟩:=O1 (qd u SP);rw [<- b1] at HD I;clear b1;have hR:=y.o;obtain ⟨t0,t1,t2,t3,t4⟩:=rc5 hR;have t5:=hR.cell (i:=5) (by decide);obtain ⟨s0,s1,s2,s3,s4⟩:=rf5 hR;have s5:=hR.frozen 5;simp only [qX] at t0 t1 t2 t3 t4 t5;have e0:=d.o.cell (i:=0) (by decide);have f0:=d.o.frozen 0;simp only [qX] at e0;have e1:=d.o.cell (i:=1) (by decide);have f1:=d.o.frozen 1;simp only [qX] at e1;have e2:=d.o.cell (i:=2) (by decide);have f2:=d.o.frozen 2;simp only [qX] at e2;have e3:=d.o.cell (i:=3) (by decide);have f3:=d.o.frozen 3;simp only [qX] at e3;have e4:=d.o.cell (i:=4) (by decide);have f4:=d.o.frozen 4;simp only [qX] at e4;have e5:=d.o.cell (i:=5) (by decide);have f5:=d.o.frozen 5;simp only [qX] at e5;clear hR;go_wp2_with fail;refine HD.o.mono ?_;clear HD;rintro e i1 ⟨rfl,h'⟩;subst h';by_cases hd:dn=0
  case neg =>
   have d1:(dn != 0)=true:=by simpa using hd
   rw [J8 hd] at I;clear hd;go_wp2;refine X4 (qk Tryz.results16 _ _ (w.heap.size+1) 35 _ (0,0) _ rfl (zX (yO _ _ _ _ _ _ y.o)) zd8 rfl (by kernel_rfl) _ rfl) rfl ?_;refine .inr ⟨rfl,u,HC.o,?_⟩;rw [I.o];exact wS (je _ _ _ _ _ _ g.o (by omega))
  subst hd;rw [J3 (by decide)] at I;have N:=O0 (w.heap.size+2<=J.heap.size) (by have:=l.o;omega);go_wp2;refine X4 (qk Tryz.results16 _ _ (w.heap.size+1) 35 _ (0,0) _ rfl (zX (yO _ _ _ _ _ _ y.o)) zd8 rfl (by kernel_rfl) _ rfl) rfl ?_;refine .inr ⟨rfl,u,HC.o,?_⟩;rw [I.o];have hc:=fun b (K:J.heap.size<=b) (D:b<b4.heap.size)=>pR (W:=b4) (.slice ka kl.length kc) (.slice none 0 0) (.int .i64 au.thr) (.slice ba au.ids.length bc) (.int .i64 a8) (.string d7) (show b≠w.heap.size+1 by have:=N.o;omega);exact ⟨ka,kc,none,0,ba,bc,rfl,J9 _,⟨q.o.carry (by have:=N.o;omega) (G8 gz.symm) hc,.inl rfl,Z.o.carry (by have:=N.o;omega) (G8 gz.symm) hc⟩,je _ _ _ _ _ _ g.o (by omega)⟩
 | false =>
  rw [J3 (by decide)] at s;have a2:=U (Z4 xC 64 A.o (by decide) (by have:=c6.o;omega));have a1:=U (@iz u xC 64 SS);rw [<- b6.o] at a2 a1;have L:=U a0.o.2;obtain ⟨GR,g2⟩:=O1 (ogR u st);rw [<- g2] at a2 a1 s L;clear g2 a4 b6 a0;obtain ⟨LJ,SL⟩:=GR;dsimp only at a2 a1 s L;go_wp2_with fail;refine a2.o.mono ?_;clear a2;rintro e w9 ⟨⟨al,cl,rfl,-,b2⟩,r,a⟩;have a5:=U (cS LJ al cl w9 w8.heap.size (by have:=z.o;have:=l.o;omega) (J1 a1.o.2 HU.o) b2 L.o (J1 a1.o.1 (by decide)));clear b2;replace A:=U r;replace y:=U (a.row y.o (by have:=l.o;omega));replace d:=U (a.row d.o (by have:=l.o;omega));replace g:=U (g.o.trans (a.below (by have:=g.o.size;omega) fun k hk e=>by have:=l.o;omega));replace z:=U (J1 z.o a.size);replace q:=U (q.o.carry lz a.size (fun b K D=>a.block b D (by have:=l.o;omega)));clear r a;unfold wR at a5;obtain ⟨GB,a9⟩:=O1 (xK LJ []);rw [<- a9] at a5 s;clear a9;obtain ⟨rs,re⟩:=GB;dsimp only at a5 s;obtain ⟨SP,P⟩:=O1 (SL.fail re);rw [<- P] at s;rw [s.o] at I;dsimp only at I;have a7:=U P;clear P s;go_wp2_with fail;refine a5.o.mono ?_;clear a5;rintro e F ⟨ra,rc,rfl,g9,b3,f⟩;have h6:=U g9;have a6:=O0 (zh F J.heap.size F.heap.size ra rs) (b3.carry z.o lz (fun _ _ _=>rfl));clear b3 g9;replace A:=U (A.o.below f);replace y:=U (qj f y.o y.o.lt);replace d:=U (qj f d.o d.o.lt);replace g:=U (O2 g f);replace z:=U (J1 z.o f.size);replace q:=U (q.o.below f lz lz f.size);clear f;have e1:=d.o.cell (i:=1) (by decide);have f1:=d.o.frozen 1;simp only [qX] at e1;obtain ⟨E,B⟩:=O1 (F.setCell ⟨p,1,none⟩ (.slice ra rs.length rc));have c:Touch (fun b=>b=p) F E:=by rw [B];exact (Touch.refl _ _).trans (qD _)
  replace d:=U (show E.rowIs p 35 6 (qX (.slice ka kl.length kc) (.slice ra rs.length rc) (.int .i64 0) (.slice none 0 0) (.int .i64 0) (.string ⟨#[]⟩)) from by
   rw [B];refine (d.o.set 1 _).congr fun j hj=>?_;rcases j with _|_|_|_|_|_|j <;> first|rfl|omega)
  replace A:=U (A.o.touch c l.o.1 l.o.2.1 l.o.2.2.1);replace y:=U (c.row y.o (by have:=l.o;omega));replace g:=U (g.o.trans (c.below (by have:=g.o.size;omega) fun k hk e=>by have:=l.o;omega));replace z:=U (J1 z.o c.size);replace q:=U (q.o.carry lz c.size (fun b K D=>c.block b D (by have:=l.o;omega)));replace a6:=U (a6.o.carry lz c.size (fun b K D=>c.block b D (by have:=l.o;omega)));have G:=U B;clear c B;go_upto_region 11 with fail
  rw [<- G.o];clear G e1 f1;go_wp2_with fail;refine (mo re A.o).mono ?_;rintro e b4 ⟨rfl,r,a⟩;rw [<- a7.o] at r;clear a7;replace A:=U r;replace y:=U (a.row y.o (by have:=l.o;omega));replace d:=U (a.row d.o (by have:=l.o;omega));replace g:=U (g.o.trans (a.below (by have:=g.o.size;omega) fun k hk e=>by have:=l.o;omega));replace z:=U (J1 z.o a.size);replace q:=U (q.o.carry lz a.size (fun b K D=>a.block b D (by have:=l.o;omega)));replace a6:=U (a6.o.carry lz a.size (fun b K D=>a.block b D (by have:=l.o;omega)));clear r a;have HD:=U (lw A.o HU.o);obtain ⟨dn,b1⟩:=O1 (qd u SP);rw [<- b1] at HD I;clear b1;have hR:=y.o;obtain ⟨t0,t1,t2,t3,t4⟩:=rc5 hR;have t5:=hR.cell (i:=5) (by decide);obtain ⟨s0,s1,s2,s3,s4⟩:=rf5 hR;have s5:=hR.frozen 5;simp only [qX] at t0 t1 t2 t3 t4 t5;have e0:=d.o.cell (i:=0) (by decide);have f0:=d.o.frozen 0;simp only [qX] at e0;have e1:=d.o.cell (i:=1) (by decide);have f1:=d.o.frozen 1;simp only [qX] at e1;have e2:=d.o.cell (i:=2) (by decide);have f2:=d.o.frozen 2;simp only [qX] at e2;have e3:=d.o.cell (i:=3) (by decide);have f3:=d.o.frozen 3;simp only [qX] at e3;have e4:=d.o.cell (i:=4) (by decide);have f4:=d.o.frozen 4;simp only [qX] at e4;have e5:=d.o.cell (i:=5) (by decide);have f5:=d.o.frozen 5;simp only [qX] at e5;clear hR;go_wp2_with fail;refine HD.o.mono ?_;clear HD;rintro e i1 ⟨rfl,h'⟩;subst h';by_cases hd:dn=0
  case neg =>
   have d1:(dn != 0)=true:=by simpa using hd
   rw [J8 hd] at I;clear hd;go_wp2;refine X4 (qk Tryz.results16 _ _ (w.heap.size+1) 35 _ (0,0) _ rfl (zX (yO _ _ _ _ _ _ y.o)) zd8 rfl (by kernel_rfl) _ rfl) rfl ?_;refine .inr ⟨rfl,u,HC.o,?_⟩;rw [I.o];exact wS (je _ _ _ _ _ _ g.o (by omega))
  subst hd;rw [J3 (by decide)] at I;have N:=O0 (w.heap.size+2<=J.heap.size) (by have:=l.o;omega);go_wp2;refine X4 (qk Tryz.results16 _ _ (w.heap.size+1) 35 _ (0,0) _ rfl (zX (yO _ _ _ _ _ _ y.o)) zd8 rfl (by kernel_rfl) _ rfl) rfl ?_;refine .inr ⟨rfl,u,HC.o,?_⟩;rw [I.o];have hc:=fun b (K:J.heap.size<=b) (D:b<b4.heap.size)=>pR (W:=b4) (.slice ka kl.length kc) (.slice ra rs.length rc) (.int .i64 0) (.slice none 0 0) (.int .i64 0) (.string ⟨#[]⟩) (show b≠w.heap.size+1 by have:=N.o;omega);exact ⟨ka,kc,ra,rc,none,0,rfl,h6.o,⟨q.o.carry (by have:=N.o;omega) (G8 gz.symm) hc,a6.o.carry (by have:=N.o;omega) (G8 gz.symm) hc,.inl rfl⟩,je _ _ _ _ _ _ g.o (by omega)⟩
theorem nE {x:JV} (h:x.partB=true):∀y ∈ x.items,y.partB=true:=by rw [JV.partB_eq,X3] at h;exact fN h.2
theorem un {x:JV} (h:x.partB=true) (a:x.kind=5):qo x.names=true/\x.names.length=x.items.length:=⟨(fC h a).2.2.1,(fC h a).2.1⟩
theorem sj {u:JV} {st:PS} (h:sX u\/u=zJ):dw u st:=by
 have a:∀(y:ByteArray) (it:JV),u.look y=some it->it.kind≠0->it.partB=true:=fun y it hit hk=>by
  rcases h with h|rfl
  . exact ZO h hit hk
  . cases (show (none:Option JV)=some it from hit)
 refine ⟨fun hk=>?_,fun v hv hk=>?_⟩
 . revert hk
   unfold ogO qQ;split
   . intro hk;cases hk
   . split
     . intro hk;cases hk
     . rename_i it hit;split
       . intro hk;cases hk
       . split
         . intro hk;cases hk
         . intro hk;exact un (a _ _ hit (by rw [hk];decide)) hk
 . revert hv
   unfold ogR qY;split
   . intro hv;cases hv
   . split
     . intro hv;cases hv
     . rename_i it hit;split
       . intro hv;cases hv
       . split
         . intro hv;cases hv
         . rename_i b _;intro hv;have b:it.kind=4:=by simpa using b
           exact un (nE (a _ _ hit (by rw [b];decide)) v hv) hk
theorem rk (v:JV) (x:Value) (w:World) (lo:Nat) (g:0<lo) (d:v.wt<=4294967296) (f:Rep w lo w.heap.size v x) (i:Tabs w) :
 Calls Tryz.prog 16 #[x] w (wv (xA v) w):=by
 cases hmb:v.mayB with
 | false =>
  refine (mA (fun u=>False) (st0 v) v x w d (f.carry (X7 _) lz (fun _ _ _=>rfl)) (by unfold st0;split <;> simp) i (fun u a=>a.elim) (fun b=>by rw [hmb] at b;cases b)).mono ?_;rintro e w' (⟨b,h⟩|⟨b,u,a,h⟩)
  . have:xA v=(j4,3):=by unfold xA;rw [J8 hmb]
    rw [this];exact h
  . exact a.elim
 | true =>
  have c:v.kind=5->sX v:=oo hmb;refine (mA (j5 v) (st0 v) v x w d (f.carry (X7 _) lz (fun _ _ _=>rfl)) (by unfold st0;split <;> simp) i (fun u a=>sj (by
   unfold j5 at a;by_cases h5:v.kind=5
   . rw [J8 h5] at a;rw [a];exact .inl (c h5)
   . rw [J3 h5] at a;exact .inr a)) (fun b w1 hb=>oH d g hb.size (f.below hb lz lz lz) (fun hk=>⟨(c hk).2.2.1,(c hk).2.2.2.1⟩))).mono ?_
  rintro e w' (⟨b,h⟩|⟨b,u,a,h⟩)
  . rw [hmb] at b;cases b
  . unfold j5 at a;unfold st0 at h;by_cases hk:v.kind=5
    . rw [J8 hk] at a h;subst a;have:xA u=pM u ⟨[],0⟩:=by unfold xA;rw [J3 (by rw [hmb];decide),J3 (by simp [hk])];rfl
      rw [this];exact h
    . rw [J3 hk] at a h;subst a;have:xA v=(j4,10):=by unfold xA;rw [J3 (by rw [hmb];decide),J8 hk]
      rw [this];rw [rx] at h;exact h
theorem bB {n p:ByteArray} {b:Bool} (a:n.size<=100) (c:p.size<=100):DelegFits (ve n p b) :=
 ⟨by show n.size<=_;omega,⟨⟨by show -9223372036854775808<=(1:Int);decide,by show (1:Int)<=9223372036854775807;decide⟩,by show 1<=4294967296;decide,fun s hs=>by
  obtain rfl:s=br 97:=by simpa [ve,Zd] using hs
  decide⟩,⟨by show 1<=4294967296;decide,fun s hs=>by
  obtain rfl:s=p:=by simpa [ve] using hs
  omega⟩,⟨X7 _,fun s hs=>(by cases hs)⟩⟩
theorem vJ:DelegsFits exD/\DelegsFits exE/\DelegsFits exBin:=by
 have a:jw authZ:=⟨⟨by decide,by decide⟩,by decide,fun s hs=>(by cases hs)⟩;refine ⟨⟨by decide,fun k hk=>(by cases hk),by decide,fun x hx=>?_,⟨by decide,by decide⟩,by decide,a⟩,⟨by decide,fun k hk=>(by cases hk),by decide,fun x hx=>?_,⟨by decide,by decide⟩,by decide,a⟩,⟨by decide,fun k hk=>(by cases hk),by decide,fun x hx=>(by cases hx),⟨by decide,by decide⟩,by decide,(bB (n:=raN) (p:=raN) (b:=false) (by decide) (by decide)).au⟩⟩
 . simp only [exD,H0,N8,zf2] at hx;rcases hx with rfl|rfl|rfl <;> exact bB (by decide) (by decide)
 . simp only [exE,H0,N8,zf2] at hx;rcases hx with rfl|rfl <;> exact bB (by decide) (by decide)
structure RoleIn (w:World) (ga gp:Nat) (p:ByteArray):Prop where
 ids:qv w 0 w.heap.size (some ⟨ga,0,none⟩) [br 97]
 paths:qv w 0 w.heap.size (some ⟨gp,0,none⟩) [p]
theorem RoleIn.below {w w':World} {b c:Nat} {p:ByteArray} (h:RoleIn w b c p) (a:O5 w w'):RoleIn w' b c p :=
 ⟨h.ids.below a lz lz a.size,h.paths.below a lz lz a.size⟩
theorem ix {w:World} {q T a l b m:Nat} {g k x1 x2:ByteArray} {c d:Bool} (h:w.heap[q]?=some (.cells #[.string g,.int .i64 1,.slice (some ⟨a,0,none⟩) 1 1,.bool c,.slice (some ⟨l,0,none⟩) 1 1,.slice none 0 0,.string k,.int .i64 1,.slice (some ⟨b,0,none⟩) 1 1,.bool d,.slice (some ⟨m,0,none⟩) 1 1,.slice none 0 0] T (0,0))) (e:RoleIn w a l x1) (f:RoleIn w b m x2):zh w 0 w.heap.size (some ⟨q,0,none⟩) [ve g x1 c,ve k x2 d]:=by
 refine .inr ⟨q,0,rfl,X7 _,qx h,fun i hi=>?_⟩
 match i,hi with
 | 0,_=>exact ⟨_,1,_,1,none,0,qq h (j:=0) rfl,qq h (j:=1) rfl,qq h (j:=2) rfl,qq h (j:=3) rfl,qq h (j:=4) rfl,qq h (j:=5) rfl,J9 _,J9 _,J9 _,⟨e.ids,e.paths,.inl rfl⟩⟩
 | 1,_=>exact ⟨_,1,_,1,none,0,qq h (j:=6) rfl,qq h (j:=7) rfl,qq h (j:=8) rfl,qq h (j:=9) rfl,qq h (j:=10) rfl,qq h (j:=11) rfl,J9 _,J9 _,J9 _,⟨f.ids,f.paths,.inl rfl⟩⟩
theorem ij {w:World} {q T a r b s c u:Nat} {m o p x1 x2 x3:ByteArray} {d e f:Bool} (h:w.heap[q]?=some (.cells #[.string m,.int .i64 1,.slice (some ⟨a,0,none⟩) 1 1,.bool d,.slice (some ⟨r,0,none⟩) 1 1,.slice none 0 0,.string o,.int .i64 1,.slice (some ⟨b,0,none⟩) 1 1,.bool e,.slice (some ⟨s,0,none⟩) 1 1,.slice none 0 0,.string p,.int .i64 1,.slice (some ⟨c,0,none⟩) 1 1,.bool f,.slice (some ⟨u,0,none⟩) 1 1,.slice none 0 0] T (0,0))) (g:RoleIn w a r x1) (k:RoleIn w b s x2) (l:RoleIn w c u x3):zh w 0 w.heap.size (some ⟨q,0,none⟩) [ve m x1 d,ve o x2 e,ve p x3 f]:=by
 refine .inr ⟨q,0,rfl,X7 _,qx h,fun i hi=>?_⟩
 match i,hi with
 | 0,_=>exact ⟨_,1,_,1,none,0,qq h (j:=0) rfl,qq h (j:=1) rfl,qq h (j:=2) rfl,qq h (j:=3) rfl,qq h (j:=4) rfl,qq h (j:=5) rfl,J9 _,J9 _,J9 _,⟨g.ids,g.paths,.inl rfl⟩⟩
 | 1,_=>exact ⟨_,1,_,1,none,0,qq h (j:=6) rfl,qq h (j:=7) rfl,qq h (j:=8) rfl,qq h (j:=9) rfl,qq h (j:=10) rfl,qq h (j:=11) rfl,J9 _,J9 _,J9 _,⟨k.ids,k.paths,.inl rfl⟩⟩
 | 2,_=>exact ⟨_,1,_,1,none,0,qq h (j:=12) rfl,qq h (j:=13) rfl,qq h (j:=14) rfl,qq h (j:=15) rfl,qq h (j:=16) rfl,qq h (j:=17) rfl,J9 _,J9 _,J9 _,⟨l.ids,l.paths,.inl rfl⟩⟩
def QN (w:World) (ka ra ba:Option Addr):Prop:=DelegsIn w 0 w.heap.size exD ka ra ba
theorem QS (q:Nat) (w:World) (d:DelegsIn w 0 w.heap.size exD none (some ⟨q,0,none⟩) none) (f:Tabs w) :
 Calls Tryz.prog 36 #[.agg #[.slice none 0 0,.slice (some ⟨q,0,none⟩) 3 3,.int .i64 0,.slice none 0 0,.int .i64 0,.string ⟨#[]⟩]] w fun e w'=>∃an cn ai ci,e=.returned (.tuple #[.agg #[.int .u8 5,.int .i64 0,.string ⟨#[]⟩,.slice an 2 cn,.slice ai 2 ci],.int .i64 0])/\Rep w' w.heap.size w'.heap.size (qf exD) (.agg #[.int .u8 5,.int .i64 0,.string ⟨#[]⟩,.slice an 2 cn,.slice ai 2 ci])/\O5 w w':=by
 refine (nI [] exD.roles 0 0 [] ⟨#[]⟩ none (some ⟨q,0,none⟩) none 0 3 0 w d vJ.1 lz f).mono ?_;have e:wj ⟨[],exD.roles,⟨0,⟨#[]⟩,⟨0,[]⟩⟩⟩=(qf exD,0):=(by unfold wj;rw [J8 (show qL ⟨[],exD.roles,⟨0,⟨#[]⟩,⟨0,[]⟩⟩⟩=true from pF.1)];rfl);rw [e];rintro r w' ⟨an,cn,ai,ci,a,b,c⟩;exact ⟨an,cn,ai,ci,a,b,c⟩
theorem XX (x:Value) (w:World) (lo:Nat) (f:0<lo) (g:Rep w lo w.heap.size (qf exD) x) (h:Tabs w) :
 Calls Tryz.prog 16 #[x] w fun e w'=>∃ka kc ra rc ba bc,e=.returned (.tuple #[.agg #[.slice ka 0 kc,.slice ra 3 rc,.int .i64 0,.slice ba 0 bc,.int .i64 0,.string ⟨#[]⟩],.int .i64 0])/\QN w' ka ra ba/\O5 w w':=by
 refine (rk (qf exD) x w lo f (yC (by rw [<- qO];exact pF.1)) g h).mono ?_;rw [d8 pF.1];rintro r w' ⟨ka,kc,ra,rc,ba,bc,a,d,b,c⟩;exact ⟨ka,kc,ra,rc,ba,bc,a,b.carry (X7 _) lz (fun _ _ _=>rfl),c⟩
theorem ZU (d f c:Option Addr) (h i g q:Nat) (w:World) (j:QN w d f c) (k:DelegsIn w 0 w.heap.size exD none (some ⟨q,0,none⟩) none) :
 Calls Tryz.prog 17 #[.agg #[.slice d 0 h,.slice f 3 i,.int .i64 0,.slice c 0 g,.int .i64 0,.string ⟨#[]⟩],.agg #[.slice none 0 0,.slice (some ⟨q,0,none⟩) 3 3,.int .i64 0,.slice none 0 0,.int .i64 0,.string ⟨#[]⟩]] w fun e w'=>e=.returned (.bool true)/\O5 w w':=by
 refine (iq [] exD.roles 0 0 [] ⟨#[]⟩ d f c h i g [] exD.roles 0 0 [] ⟨#[]⟩ none (some ⟨q,0,none⟩) none 0 3 0 w j k vJ.1 vJ.1).mono ?_;rintro r w' ⟨a,b⟩;rw [X0 (by rfl)] at a;exact ⟨a,b⟩
def binS:ByteArray:=zP ppN 2 (jN vS 2)
theorem ZM (g:Nat) (w:World) (a:Tabs w):Calls Tryz.prog 43 #[.agg #[.int .i64 1,.slice (some ⟨g,0,none⟩) 1 1,.int .i64 2,.string ppN],.string vS] w fun e w'=>e=.returned (.tuple #[.string binS,.int .i64 0])/\O5 w w' :=
 lW 1 2 [br 97] ppN vS (some ⟨g,0,none⟩) 1 w (by decide) (by decide) (by decide +kernel) (by decide) (by decide) a
theorem rv (q g:Nat) (p:ByteArray) (L:List ByteArray) (w:World) (c:DelegsIn w 0 w.heap.size exD none (some ⟨q,0,none⟩) none) (d:qv w 0 w.heap.size (some ⟨g,0,none⟩) L) (j:p.size<=100) (i:L.length<=100) (h:(xv runes exD p).map (·.name)=L) (f:Tabs w) :
 Calls Tryz.prog 49 #[.agg #[.slice none 0 0,.slice (some ⟨q,0,none⟩) 3 3,.int .i64 0,.slice none 0 0,.int .i64 0,.string ⟨#[]⟩],.string p,.slice (some ⟨g,0,none⟩) L.length L.length] w fun e w'=>e=.returned (.bool true)/\O5 w w':=by
 refine (yD [] exD.roles 0 0 [] ⟨#[]⟩ p none (some ⟨q,0,none⟩) none 0 3 0 L (some ⟨g,0,none⟩) L.length w c vJ.1 lz (by omega) f d (by omega)).mono ?_;rintro r w' ⟨a,b⟩;rw [X0 (show (xv runes ⟨[],exD.roles,⟨0,⟨#[]⟩,⟨0,[]⟩⟩⟩ p).map (·.name)=L from h)] at a;exact ⟨a,b⟩
theorem eH (q g:Nat) (p:ByteArray) (L:List ByteArray) (w:World) (c:DelegsIn w 0 w.heap.size exE none (some ⟨q,0,none⟩) none) (d:qv w 0 w.heap.size (some ⟨g,0,none⟩) L) (j:p.size<=100) (i:L.length<=100) (h:(xv runes exE p).map (·.name)=L) (f:Tabs w) :
 Calls Tryz.prog 49 #[.agg #[.slice none 0 0,.slice (some ⟨q,0,none⟩) 2 2,.int .i64 0,.slice none 0 0,.int .i64 0,.string ⟨#[]⟩],.string p,.slice (some ⟨g,0,none⟩) L.length L.length] w fun e w'=>e=.returned (.bool true)/\O5 w w':=by
 refine (yD [] exE.roles 0 0 [] ⟨#[]⟩ p none (some ⟨q,0,none⟩) none 0 2 0 L (some ⟨g,0,none⟩) L.length w c vJ.2.1 lz (by omega) f d (by omega)).mono ?_;rintro r w' ⟨a,b⟩;rw [X0 (show (xv runes ⟨[],exE.roles,⟨0,⟨#[]⟩,⟨0,[]⟩⟩⟩ p).map (·.name)=L from h)] at a;exact ⟨a,b⟩
theorem eU (q g:Nat) (w:World) (c:qv w 0 w.heap.size (some ⟨q,0,none⟩) [br 97]) (d:qv w 0 w.heap.size (some ⟨g,0,none⟩) [binS]) (f:Tabs w) :
 Calls Tryz.prog 49 #[.agg #[.slice none 0 0,.slice none 0 0,.int .i64 1,.slice (some ⟨q,0,none⟩) 1 1,.int .i64 2,.string ppN],.string vS,.slice (some ⟨g,0,none⟩) 1 1] w fun e w'=>e=.returned (.bool true)/\O5 w w':=by
 refine (yD [] [] 1 2 [br 97] ppN vS none none (some ⟨q,0,none⟩) 0 0 1 [binS] (some ⟨g,0,none⟩) 1 w ⟨.inl rfl,.inl rfl,c⟩ vJ.2.2 lz (by decide) f d (by decide)).mono ?_;rintro r w' ⟨a,b⟩;rw [X0 (show (xv runes ⟨[],[],⟨2,ppN,⟨1,[br 97]⟩⟩⟩ vS).map (·.name)=[binS] from yv.2.2.2)] at a;exact ⟨a,b⟩
theorem bP {w:World} {g:Nat} {x:ByteArray} (h:w.heap[g]?=some (.cells #[.string x] 9 (0,0))):qv w 0 w.heap.size (some ⟨g,0,none⟩) [x]:=by
 refine .inr ⟨g,0,rfl,X7 _,qx h,fun i hi=>?_⟩
 match i,hi with
 | 0,_=>exact qq h (j:=0) rfl
theorem ik {w:World} {g:Nat} {x y:ByteArray} (h:w.heap[g]?=some (.cells #[.string x,.string y] 9 (0,0))):qv w 0 w.heap.size (some ⟨g,0,none⟩) [x,y]:=by
 refine .inr ⟨g,0,rfl,X7 _,qx h,fun i hi=>?_⟩
 match i,hi with
 | 0,_=>exact qq h (j:=0) rfl
 | 1,_=>exact qq h (j:=1) rfl
instance : DecidableEq StepV := fun a b => decidable_of_iff (a.name = b.name ∧ a.au = b.au ∧ a.term = b.term) (by cases a; cases b; simp)
theorem ry (n c:ByteArray) (a b:AuthV) (t d:Bool):decide ((⟨n,a,t⟩:StepV)=⟨c,b,d⟩)=(decide (n=c) && (decide (t=d) && decide (a=b))):=by simp only [StepV.mk.injEq,Bool.decide_and];cases decide (n=c) <;> cases decide (a=b) <;> cases decide (t=d) <;> rfl
theorem sk (S R:List StepV) (a b:Option Addr) (c d:Nat) (w:World) (hA:xl w 0 w.heap.size a S) (hB:xl w 0 w.heap.size b R) (hl:S.length<=1000) (hs:∀x ∈ S,x.au.ids.length<=4294967296) (hr:∀x ∈ R,x.au.ids.length<=4294967296) :
 Calls Tryz.prog 21 #[.slice a S.length c,.slice b R.length d] w fun e w'=>e=.returned (.bool (decide (S=R)))/\O5 w w':=by
 have HA:=U hA;have a0:=U hB;have T:=U (And.intro hs hr);obtain ⟨q,hq⟩:=O1 (decide (S=R));rw [<- hq];have HQ:=U hq;clear hA hB hs hr hq;by_cases hlm:S.length=R.length
 case neg =>
  have n2:((S.length:Int) != (R.length:Int))=true:=by simp;omega
  have HD:=O0 (q=false) (by rw [HQ.o];exact J5 fun e=>hlm (by rw [e]));clear hlm;go_enter Tryz.func21,Tryz.ntmps21;go_wp2;go_ret;exact ⟨qz HD.o.symm,J0 _ _⟩
 obtain ⟨n,hn⟩:=O1 S.length;have P:=U hn;have Q:=U (show n=R.length by rw [hn,hlm]);rw [<- hlm,<- hn];have a6:n<=1000:=by omega
 have n2:((n:Int) != (n:Int))=false:=by simp
 clear hlm hn hl;go_enter Tryz.func21,Tryz.ntmps21;go_wp2_with fail;go_loopw [5] (fun i wr=>∃k:Nat,k<=n/\i=.int .i64 k/\S.take k=R.take k/\O5 w wr) (fun i _=>n - (intOf i).toNat)
 case atStart=>exact ⟨0,by omega,rfl,rfl,J0 _ _⟩
 case round =>
  obtain ⟨k,hk,rfl,Z,X⟩:=hrel;have V:=U Z;have j:=U X;clear Z X;by_cases hlt:k<n
  . have K:k<S.length:=by rw [<- P.o];exact hlt
    have L:k<R.length:=by rw [<- Q.o];exact hlt
    obtain ⟨p,f,ha,_,hp,ia,ic,e0,e1,e2,e3,-,C⟩:=(HA.o.below j.o lz lz j.o.size).at k K;subst ha;obtain ⟨p2,g,ha,_,a7,ja,jc,g0,g1,g2,g3,-,D⟩:=(a0.o.below j.o lz lz j.o.size).at k L;subst ha;have z:=O0 (S[k]=R[k]->S.take (k+1)=R.take (k+1)) (fun e=>by rw [J7 K,J7 L,V.o,e]);have o:=U (show S[k]≠R[k]->q=false from fun e=>by
     rw [HQ.o];exact J5 fun e2=>e (by subst e2;rfl))
    have A:=T.o.1 _ (X6 K);have B:=T.o.2 _ (X6 L);obtain ⟨x,hx⟩:=O1 (S[k]);rw [<- hx] at e0 e1 e2 e3 C z o A;obtain ⟨y,hy⟩:=O1 (R[k]);rw [<- hy] at g0 g1 g2 g3 D z o B;clear hx hy;obtain ⟨M,⟨F,H⟩,G⟩:=x;obtain ⟨s,⟨u,v⟩,l⟩:=y;dsimp only at e0 e1 e2 e3 g0 g1 g2 g3 C D A B;have J:=O0 (∀w':World,O5 wr w'->_) (fun w' h=>yg F u H v ia ja ic jc w' (C.below h lz lz h.size) (D.below h lz lz h.size) A B);have m:=U (ry M s ⟨F,H⟩ ⟨u,v⟩ G l);obtain ⟨sx,E⟩:=O1 (decide ((⟨M,⟨F,H⟩,G⟩:StepV)=⟨s,⟨u,v⟩,l⟩));rw [<- E] at m;replace o:=O0 (sx=false->q=false) (fun h=>o.o (by rw [E] at h;exact of_decide_eq_false h));replace z:=O0 (sx=true->S.take (k+1)=R.take (k+1)) (fun h=>z.o (by rw [E] at h;exact zb5 h));obtain ⟨sa,Y⟩:∃s',s'=decide ((⟨F,H⟩:AuthV)=⟨u,v⟩):=⟨_,rfl⟩;rw [<- Y] at m J;clear E Y C D A B;have m1:(0:Int)<=(k:Int):=by omega
    have m2:(k:Int)<(n:Int):=by omega
    have m3:decide ((k:Int)<(n:Int))=true:=by simpa using hlt
    cases hn1:(M.toList == s.toList)
    . have a2:(M.toList != s.toList)=true:=by simpa [bne] using hn1
      have I:=U (o.o (by rw [m.o,J5 (p:=M=s) (fun e=>by rw [e] at hn1;simp at hn1)];rfl));go_wp2_with fail;go_quiet (fail)
      go_wp2;go_ret;exact ⟨qz I.o.symm,Below.drewN j.o _⟩
    have a2:(M.toList != s.toList)=false:=by simpa [bne] using hn1
    rw [X0 (p:=M=s) (by rw [ba_eq,J6] at hn1;exact hn1),Y1] at m;by_cases ht:G=l
    case neg =>
     have a3:(G != l)=true:=by simpa using ht
     have a4:(G == l)=false:=by simpa using ht
     have a5:decide (G=l)=false:=by simpa using ht
     have I:=U (o.o (by rw [m.o,J5 ht];rfl));clear ht;go_wp2_with fail;go_quiet (fail)
     go_wp2;go_ret;exact ⟨qz I.o.symm,Below.drewN j.o _⟩
    have a3:(G != l)=false:=by simpa using ht
    have a4:(G == l)=true:=by simpa using ht
    have a5:decide (G=l)=true:=by simpa using ht
    rw [X0 ht,Y1] at m;clear ht;go_upto_region 6 with fail
    go_still_tail 35,(by kernel_rfl)
    go_wp2_with fail
    refine (J.o wr.drew (J0 _ _).drew).mono ?_;clear J;rintro r w7 ⟨rfl,W⟩;have N:=U (j.o.trans (((J0 _ _).drew.trans W).mono j.o.size));clear W;cases sa with
    | false => have I:=U (o.o m.o);go_wp2;go_ret;exact ⟨qz I.o.symm,N.o⟩
    | true =>
     have a1:=U (z.o m.o);go_wp2;go_roundw
     case rel=>exact ⟨k+1,by omega,by go_num,a1.o,N.o⟩
     case measure=>simp [intOf];omega
  . obtain rfl:k=n:=by omega
    have m3:decide ((k:Int)<(k:Int))=false:=by simp
    have I:=U (show q=true by
     rw [HQ.o];have:=V.o;rw [X2 (by rw [<- P.o];exact J9 _),X2 (by rw [<- Q.o];exact J9 _)] at this;exact X0 this)
    go_wp2;go_ret;exact ⟨qz I.o.symm,j.o⟩
