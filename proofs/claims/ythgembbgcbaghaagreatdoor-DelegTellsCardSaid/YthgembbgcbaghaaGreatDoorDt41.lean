import Derived.Test.YthgembbgcbaghaaGreatDoorDt40
import Derived.Test.YthgembbgcbaghaaGreatDoorDt33
set_option maxHeartbeats 4000000
set_option maxRecDepth 100000

namespace Go.Proofs.YthgembbgcbaghaaGreatDoor
open Go.RowKit Go.Shelf Go.Sort
theorem lw (l l2:List Key2) (rs rs2:List DelegV) (bits bits2 t t2:Int) (pre pre2:ByteArray) (ids ids2:List ByteArray):decide ((⟨l,rs,⟨bits,pre,⟨t,ids⟩⟩⟩:DelegsV)=⟨l2,rs2,⟨bits2,pre2,⟨t2,ids2⟩⟩⟩)=(decide (l=l2) && (decide (bits=bits2) && (decide (pre=pre2) && (decide ((⟨t,ids⟩:AuthV)=⟨t2,ids2⟩) && decide (rs=rs2))))):=by simp only [DelegsV.mk.injEq,BinsV.mk.injEq,Bool.decide_and];cases decide (l=l2) <;> cases decide (rs=rs2) <;> cases decide (bits=bits2) <;> cases decide (pre=pre2) <;> cases decide ((⟨t,ids⟩:AuthV)=⟨t2,ids2⟩) <;> rfl
theorem bN (n n2:ByteArray) (a a2:AuthV) (t t2:Bool) (p p2 q q2:List ByteArray):decide ((⟨n,a,t,p,q⟩:DelegV)=⟨n2,a2,t2,p2,q2⟩)=(decide (n=n2) && (decide (t=t2) && (decide (a=a2) && (decide (p=p2) && decide (q=q2))))):=by simp only [DelegV.mk.injEq,Bool.decide_and];cases decide (n=n2) <;> cases decide (a=a2) <;> cases decide (t=t2) <;> cases decide (p=p2) <;> cases decide (q=q2) <;> rfl
theorem mh (l:List Key2) (rs:List DelegV) (t bits:Int) (ids:List ByteArray) (pre:ByteArray) (ka ra ba:Option Addr) (kc rc bc:Nat) (l2:List Key2) (rs2:List DelegV) (t2 bits2:Int) (ids2:List ByteArray) (pre2:ByteArray) (kb rb bb:Option Addr) (kd rd bd:Nat) (w:World)
 (hI:DelegsIn w 0 w.heap.size ⟨l,rs,⟨bits,pre,⟨t,ids⟩⟩⟩ ka ra ba) (hJ:DelegsIn w 0 w.heap.size ⟨l2,rs2,⟨bits2,pre2,⟨t2,ids2⟩⟩⟩ kb rb bb) (hf:DelegsFits ⟨l,rs,⟨bits,pre,⟨t,ids⟩⟩⟩) (hg:DelegsFits ⟨l2,rs2,⟨bits2,pre2,⟨t2,ids2⟩⟩⟩) :
 Calls Tryz.prog 17 #[.agg #[.slice ka l.length kc,.slice ra rs.length rc,.int .i64 t,.slice ba ids.length bc,.int .i64 bits,.string pre],.agg #[.slice kb l2.length kd,.slice rb rs2.length rd,.int .i64 t2,.slice bb ids2.length bd,.int .i64 bits2,.string pre2]] w fun r w'=>r=.returned (.bool (decide ((⟨l,rs,⟨bits,pre,⟨t,ids⟩⟩⟩:DelegsV)=⟨l2,rs2,⟨bits2,pre2,⟨t2,ids2⟩⟩⟩)))/\Below w.heap.size w w':=by
 obtain ⟨W,hW⟩:=O1 ((w.alloc (.cells #[.slice ka l.length kc,.slice ra rs.length rc,.int .i64 t,.slice ba ids.length bc,.int .i64 bits,.string pre] 35)).alloc (.cells #[.slice kb l2.length kd,.slice rb rs2.length rd,.int .i64 t2,.slice bb ids2.length bd,.int .i64 bits2,.string pre2] 35));have hb:Below w.heap.size w W:=by rw [hW];exact ((Z0 _ _).alloc lz _).alloc (by simp) _
 have hx:W.heap[w.heap.size]?=some (.cells #[.slice ka l.length kc,.slice ra rs.length rc,.int .i64 t,.slice ba ids.length bc,.int .i64 bits,.string pre] 35 (0,0)):=by rw [hW];exact zl w _ _
 have hy:W.heap[w.heap.size+1]?=some (.cells #[.slice kb l2.length kd,.slice rb rs2.length rd,.int .i64 t2,.slice bb ids2.length bd,.int .i64 bits2,.string pre2] 35 (0,0)):=by rw [hW];exact jq w _ _
 have HC:=U (show ∀w':World,Below W.heap.size W w'->w'.cell? ⟨w.heap.size,0,none⟩=some (.slice ka l.length kc)/\w'.cell? ⟨w.heap.size,1,none⟩=some (.slice ra rs.length rc)/\w'.cell? ⟨w.heap.size,2,none⟩=some (.int .i64 t)/\w'.cell? ⟨w.heap.size,3,none⟩=some (.slice ba ids.length bc)/\w'.cell? ⟨w.heap.size,4,none⟩=some (.int .i64 bits)/\w'.cell? ⟨w.heap.size,5,none⟩=some (.string pre)/\w'.cell? ⟨w.heap.size+1,0,none⟩=some (.slice kb l2.length kd)/\w'.cell? ⟨w.heap.size+1,1,none⟩=some (.slice rb rs2.length rd)/\w'.cell? ⟨w.heap.size+1,2,none⟩=some (.int .i64 t2)/\w'.cell? ⟨w.heap.size+1,3,none⟩=some (.slice bb ids2.length bd)/\w'.cell? ⟨w.heap.size+1,4,none⟩=some (.int .i64 bits2)/\w'.cell? ⟨w.heap.size+1,5,none⟩=some (.string pre2) from fun w' h=>by
  have H:=(h.block _ (qx hx)).trans hx;have I:=(h.block _ (qx hy)).trans hy;exact ⟨qq H rfl,qq H rfl,qq H rfl,qq H rfl,qq H rfl,qq H rfl,qq I rfl,qq I rfl,qq I rfl,qq I rfl,qq I rfl,qq I rfl⟩)
 have D:=U (lw l l2 rs rs2 bits bits2 t t2 pre pre2 ids ids2);have HI:=O0 (∀w':World,Below W.heap.size W w'->DelegsIn w' 0 w'.heap.size ⟨l,rs,⟨bits,pre,⟨t,ids⟩⟩⟩ ka ra ba/\DelegsIn w' 0 w'.heap.size ⟨l2,rs2,⟨bits2,pre2,⟨t2,ids2⟩⟩⟩ kb rb bb) (fun w' h=>⟨hI.below (hb.trans (h.mono hb.size)) lz lz (Z3 hb.size h.size),hJ.below (hb.trans (h.mono hb.size)) lz lz (Z3 hb.size h.size)⟩);have HF:=U (And.intro hf hg);have f1:l.length<=40:=hf.len;have f2:l2.length<=40:=hg.len;have f3:rs.length<=70:=hf.many;have f4:rs2.length<=70:=hg.many;have f5:ids.length<=4294967296:=hf.au.2.1;have f6:ids2.length<=4294967296:=hg.au.2.1;have s:=U hb;have d0:=U hW;have d5:=O0 (w.heap.size+1<W.heap.size) (qx hy);have a9:=U (aY l l2 ka kb kc kd W (HI.o W (Z0 _ _)).1.keys (HI.o W (Z0 _ _)).2.keys (by omega) (by omega));have a8:=O0 (∀w':World,Below W.heap.size W w'->_) (fun w' h=>gE t t2 ids ids2 ba bb bc bd w' (HI.o w' h).1.bids (HI.o w' h).2.bids f5 f6);obtain ⟨q,hq⟩:=O1 (decide ((⟨l,rs,⟨bits,pre,⟨t,ids⟩⟩⟩:DelegsV)=⟨l2,rs2,⟨bits2,pre2,⟨t2,ids2⟩⟩⟩));rw [<- hq] at D ⊢;obtain ⟨ek,d3⟩:=O1 (decide (l=l2));rw [<- d3] at a9 D;obtain ⟨ea,d2⟩:=O1 (decide ((⟨t,ids⟩:AuthV)=⟨t2,ids2⟩));rw [<- d2] at a8 D;clear hb hW hx hy hI hJ hf hg hq d3 d2 f1 f2 f5 f6;obtain ⟨x0,x1,x2,x3,x4,x5,y0,y1,y2,y3,y4,y5⟩:=HC.o W (Z0 _ _);go_enter Tryz.func17,Tryz.ntmps17;go_upto_region 1 with fail
 rw [<- d0.o];clear d0;go_wp2_with fail;refine a9.o.mono ?_;clear a9;clear x0 x1 x2 x3 x4 x5 y0 y1 y2 y3 y4 y5;rintro r w1 ⟨rfl,b2⟩;have S:=U b2;obtain ⟨x0,x1,x2,x3,x4,x5,y0,y1,y2,y3,y4,y5⟩:=HC.o w1 b2;clear b2;cases ek with
 | false => rw [V0] at D;go_wp2;go_ret;exact ⟨qz D.o.symm,s.o.trans (S.o.mono s.o.size)⟩
 | true =>
 rw [X4] at D;by_cases hlr:rs.length=rs2.length
 case neg =>
  have n2:((rs.length:Int) != (rs2.length:Int))=true:=by simp;omega
  have C:=U (show q=false by rw [D.o,Z7 (p:=rs=rs2) (fun e=>hlr (by rw [e]))];simp);clear hlr;go_wp2;go_ret;exact ⟨qz C.o.symm,s.o.trans (S.o.mono s.o.size)⟩
 obtain ⟨nn,a2⟩:=O1 rs.length;have b1:=U a2;have c7:=U (show nn=rs2.length by rw [a2,hlr]);rw [<- hlr] at y1;rw [<- a2] at x1 y1 f3;have n2:((nn:Int) != (nn:Int))=false:=by simp
 by_cases hbt:bits=bits2
 case neg =>
  have n3:(bits != bits2)=true:=by simpa using hbt
  have C:=U (show q=false by rw [D.o,Z7 hbt];simp);clear hbt hlr a2;go_wp2;go_ret;exact ⟨qz C.o.symm,s.o.trans (S.o.mono s.o.size)⟩
 have n3:(bits != bits2)=false:=by simpa using hbt
 rw [J2 hbt,X4] at D;cases hpr:(pre.toList == pre2.toList)
 . have n4:(pre.toList != pre2.toList)=true:=by simpa [bne] using hpr
   have C:=U (show q=false by rw [D.o,Z7 (p:=pre=pre2) (fun e=>by rw [e] at hpr;simp at hpr)];simp);clear hbt hlr a2;go_wp2;go_ret;exact ⟨qz C.o.symm,s.o.trans (S.o.mono s.o.size)⟩
 have n4:(pre.toList != pre2.toList)=false:=by simpa [bne] using hpr
 rw [J2 (p:=pre=pre2) (by rw [ba_eq,Q6] at hpr;exact hpr),X4] at D;have c4:=U hlr;clear hbt hlr a2;go_wp2_with fail;refine (a8.o w1 S.o).mono ?_;clear a8;clear x0 x1 x2 x3 x4 x5 y0 y1 y2 y3 y4 y5;rintro r w2 ⟨rfl,d1⟩;have c3:=U (O2 S d1);clear d1;cases ea with
 | false => rw [V0] at D;go_wp2;go_ret;exact ⟨qz D.o.symm,s.o.trans (c3.o.mono s.o.size)⟩
 | true =>
 rw [X4] at D;rw [<- c4.o,<- b1.o] at HC;clear c4 n2 n3 n4 hpr;go_wp2_with fail;go_loopw [5,6,7] (fun i _ _ wr=>∃k:Nat,k<=nn/\i=.int .i64 k/\rs.take k=rs2.take k/\Below W.heap.size W wr) (fun i _ _ _=>nn - (intOf i).toNat)
 case atStart=>exact ⟨0,by omega,rfl,rfl,c3.o⟩
 case round =>
  obtain ⟨k,hk,rfl,d4,b3⟩:=hrel;have c9:=U d4;have Q:=U b3;obtain ⟨x0,x1,x2,x3,x4,x5,y0,y1,y2,y3,y4,y5⟩:=HC.o wr b3;clear d4 b3;by_cases hlt:k<nn
  . have b6:k<rs.length:=by rw [<- b1.o];exact hlt
    have b7:k<rs2.length:=by rw [<- c7.o];exact hlt
    obtain ⟨p,o,ha,-,hp,ia,ic,pa,pc,qa,qc,e0,e1,e2,e3,e4,e5,-,-,-,b4⟩:=(HI.o wr Q.o).1.roles.at k b6;subst ha;obtain ⟨p2,o2,ha,-,d6,ja,jc,va,vc,sa,sc,g0,g1,g2,g3,g4,g5,-,-,-,b5⟩:=(HI.o wr Q.o).2.roles.at k b7;subst ha;have m1:(0:Int)<=(k:Int):=by omega
    have m2:(k:Int)<(nn:Int):=by omega
    have m3:decide ((k:Int)<(nn:Int))=true:=by simpa using hlt
    have R:=O0 (rs[k]=rs2[k]->rs.take (k+1)=rs2.take (k+1)) (fun e=>by rw [Z6 b6,Z6 b7,c9.o,e]);have m:=O0 (rs[k]≠rs2[k]->decide (rs=rs2)=false) (fun e=>Z7 fun e2=>e (by subst e2;rfl));have B:=HF.o.1.roles _ (J7 b6);have N:=HF.o.2.roles _ (J7 b7);obtain ⟨x,hx⟩:=O1 (rs[k]);rw [<- hx] at e0 e1 e2 e3 e4 e5 b4 R m B;obtain ⟨y,hy⟩:=O1 (rs2[k]);rw [<- hy] at g0 g1 g2 g3 g4 g5 b5 R m N;clear hx hy;obtain ⟨F,⟨z,A⟩,G,ps,qs⟩:=x;obtain ⟨f,⟨c,d⟩,g,u,v⟩:=y;dsimp only at e0 e1 e2 e3 e4 e5 g0 g1 g2 g3 g4 g5;have a0:=U b4;have a1:=U b5;have c5:=U B;have c6:=U N;have HP:=O0 (w.heap.size+1<wr.heap.size) (X9 d5.o Q.o.size);clear b4 b5 B N;go_upto_region 6 with fail
    clear x0 x2 x3 x4 x5 y0 y2 y3 y4 y5
    go_region_held3 (fun w'=>w'.cell? ⟨w.heap.size,1,none⟩=some (.slice (some ⟨p,o,none⟩) nn rc)/\w'.cell? ⟨w.heap.size+1,1,none⟩=some (.slice (some ⟨p2,o2,none⟩) nn rd)/\w'.cell? ⟨p,o+k * 6,none⟩=some (.string F)/\w'.cell? ⟨p,o+k * 6+1,none⟩=some (.int .i64 z)/\w'.cell? ⟨p,o+k * 6+2,none⟩=some (.slice ia A.length ic)/\w'.cell? ⟨p,o+k * 6+3,none⟩=some (.bool G)/\w'.cell? ⟨p,o+k * 6+4,none⟩=some (.slice pa ps.length pc)/\w'.cell? ⟨p,o+k * 6+5,none⟩=some (.slice qa qs.length qc)/\w'.cell? ⟨p2,o2+k * 6,none⟩=some (.string f)/\w'.cell? ⟨p2,o2+k * 6+1,none⟩=some (.int .i64 c)/\w'.cell? ⟨p2,o2+k * 6+2,none⟩=some (.slice ja d.length jc)/\w'.cell? ⟨p2,o2+k * 6+3,none⟩=some (.bool g)/\w'.cell? ⟨p2,o2+k * 6+4,none⟩=some (.slice va u.length vc)/\w'.cell? ⟨p2,o2+k * 6+5,none⟩=some (.slice sa v.length sc)) (first|(with_reducible exact ⟨x1,y1,e0,e1,e2,e3,e4,e5,g0,g1,g2,g3,g4,g5⟩)|(go_keep;done)) (fail)
    . rename_i hS;clear hS;obtain ⟨j,E⟩:=O1 (((wr.alloc (.cells #[.string F,.int .i64 z,.slice ia A.length ic,.bool G,.slice pa ps.length pc,.slice qa qs.length qc] 41)).alloc (.cells #[.string f,.int .i64 c,.slice ja d.length jc,.bool g,.slice va u.length vc,.slice sa v.length sc] 41)).drew);rw [<- E];have M:Below wr.heap.size wr j:=by rw [E];exact (((Z0 _ _).alloc lz _).alloc (by simp) _).drew
      have Y:j.heap[wr.heap.size]?=some (.cells #[.string F,.int .i64 z,.slice ia A.length ic,.bool G,.slice pa ps.length pc,.slice qa qs.length qc] 41 (0,0)):=by rw [E];exact zl wr _ _
      have Z:j.heap[wr.heap.size+1]?=some (.cells #[.string f,.int .i64 c,.slice ja d.length jc,.bool g,.slice va u.length vc,.slice sa v.length sc] 41 (0,0)):=by rw [E];exact jq wr _ _
      have a4:=U (show ∀w':World,Below j.heap.size j w'->w'.cell? ⟨wr.heap.size,0,none⟩=some (.string F)/\w'.cell? ⟨wr.heap.size,1,none⟩=some (.int .i64 z)/\w'.cell? ⟨wr.heap.size,2,none⟩=some (.slice ia A.length ic)/\w'.cell? ⟨wr.heap.size,3,none⟩=some (.bool G)/\w'.cell? ⟨wr.heap.size,4,none⟩=some (.slice pa ps.length pc)/\w'.cell? ⟨wr.heap.size,5,none⟩=some (.slice qa qs.length qc)/\w'.cell? ⟨wr.heap.size+1,0,none⟩=some (.string f)/\w'.cell? ⟨wr.heap.size+1,1,none⟩=some (.int .i64 c)/\w'.cell? ⟨wr.heap.size+1,2,none⟩=some (.slice ja d.length jc)/\w'.cell? ⟨wr.heap.size+1,3,none⟩=some (.bool g)/\w'.cell? ⟨wr.heap.size+1,4,none⟩=some (.slice va u.length vc)/\w'.cell? ⟨wr.heap.size+1,5,none⟩=some (.slice sa v.length sc) from fun w' h=>by
       have H:=(h.block _ (qx Y)).trans Y;have I:=(h.block _ (qx Z)).trans Z;exact ⟨qq H rfl,qq H rfl,qq H rfl,qq H rfl,qq H rfl,qq H rfl,qq I rfl,qq I rfl,qq I rfl,qq I rfl,qq I rfl,qq I rfl⟩)
      have K:=U (O2 Q M);have B:=c5.o;have N:=c6.o;have a:=fun (w':World) (h:Below j.heap.size j w')=>M.trans (h.mono M.size);have T:=O0 (∀w':World,Below j.heap.size j w'->_) (fun w' h=>gE z c A d ia ja ic jc w' (a0.o.ids.below (a w' h) lz lz (a w' h).size) (a1.o.ids.below (a w' h) lz lz (a w' h).size) B.au.2.1 N.au.2.1);have V:=O0 (∀w':World,Below j.heap.size j w'->_) (fun w' h=>vA ps u pa va pc vc w' (a0.o.paths.below (a w' h) lz lz (a w' h).size) (a1.o.paths.below (a w' h) lz lz (a w' h).size) B.paths.1);have X:=O0 (∀w':World,Below j.heap.size j w'->_) (fun w' h=>vA qs v qa sa qc sc w' (a0.o.pres.below (a w' h) lz lz (a w' h).size) (a1.o.pres.below (a w' h) lz lz (a w' h).size) B.pres.1);have b:=U (bN F f ⟨z,A⟩ ⟨c,d⟩ G g ps u qs v);obtain ⟨sx,P⟩:=O1 (decide ((⟨F,⟨z,A⟩,G,ps,qs⟩:DelegV)=⟨f,⟨c,d⟩,g,u,v⟩));rw [<- P] at b;replace m:=O0 (sx=false->decide (rs=rs2)=false) (fun h=>m.o (by rw [P] at h;exact of_decide_eq_false h));replace R:=O0 (sx=true->rs.take (k+1)=rs2.take (k+1)) (fun h=>R.o (by rw [P] at h;exact of_decide_eq_true h));obtain ⟨c2,a5⟩:∃s',s'=decide ((⟨z,A⟩:AuthV)=⟨c,d⟩):=⟨_,rfl⟩;rw [<- a5] at b T;obtain ⟨sp,a6⟩:∃s',s'=decide (ps=u):=⟨_,rfl⟩;rw [<- a6] at b V;obtain ⟨sq,a7⟩:∃s',s'=decide (qs=v):=⟨_,rfl⟩;rw [<- a7] at b X;clear E M Y Z B N a P a5 a6 a7 x1 y1 e0 e1 e2 e3 e4 e5 g0 g1 g2 g3 g4 g5;obtain ⟨u0,u1,u2,u3,u4,u5,v0,v1,v2,v3,v4,v5⟩:=a4.o j (Z0 _ _);cases hn:(F.toList == f.toList)
      . have b9:(F.toList != f.toList)=true:=by simpa [bne] using hn
        have C:=U (show q=false by rw [D.o];exact m.o (by rw [b.o,Z7 (p:=F=f) (fun e=>by rw [e] at hn;simp at hn)];rfl));go_wp2;go_ret;exact ⟨qz C.o.symm,s.o.trans (K.o.mono s.o.size)⟩
      have b9:(F.toList != f.toList)=false:=by simpa [bne] using hn
      rw [J2 (p:=F=f) (by rw [ba_eq,Q6] at hn;exact hn),X4] at b;by_cases ht:G=g
      case neg =>
       have c0:(G != g)=true:=by simpa using ht
       have c1:(G == g)=false:=by simpa using ht
       have C:=U (show q=false by rw [D.o];exact m.o (by rw [b.o,Z7 ht];rfl));clear ht;go_wp2;go_ret;exact ⟨qz C.o.symm,s.o.trans (K.o.mono s.o.size)⟩
      have c0:(G != g)=false:=by simpa using ht
      have c1:(G == g)=true:=by simpa using ht
      rw [J2 ht,X4] at b;clear ht;go_wp2_with fail;refine (T.o j (Z0 _ _)).mono ?_;clear T;clear u0 v0 u1 v1 u2 v2 u3 v3 u4 v4 u5 v5;rintro r w5 ⟨rfl,L⟩;obtain ⟨u0,u1,u2,u3,u4,u5,v0,v1,v2,v3,v4,v5⟩:=a4.o w5 L;have a3:=U L;have J:=U (O2 K L);clear L;cases c2 with
      | false => have C:=U (show q=false by rw [D.o];exact m.o (by rw [b.o];rfl));go_wp2;go_ret;exact ⟨qz C.o.symm,s.o.trans (J.o.mono s.o.size)⟩
      | true =>
      rw [X4] at b;go_wp2_with fail;refine (V.o w5 a3.o).mono ?_;clear V;rintro r w6 ⟨rfl,n6,rfl⟩;cases sp with
      | false => have C:=U (show q=false by rw [D.o];exact m.o (by rw [b.o];rfl));go_wp2;go_ret;exact ⟨qz C.o.symm,Below.drewN (s.o.trans (J.o.mono s.o.size)) _⟩
      | true =>
      rw [X4] at b;go_wp2_with fail;refine (X.o (w5.drewN n6) (Below.drewN a3.o _)).mono ?_;clear X;rintro r w7 ⟨rfl,n7,rfl⟩;cases sq with
      | false => have C:=U (show q=false by rw [D.o];exact m.o b.o);go_wp2;go_ret;exact ⟨qz C.o.symm,Below.drewN (s.o.trans (J.o.mono s.o.size)) _⟩
      | true =>
       have b0:=U (R.o b.o);go_wp2;go_roundw
       case rel=>exact ⟨k+1,by omega,by go_num,b0.o,Below.drewN J.o _⟩
       case measure=>simp [intOf];omega
    . rename_i hS;clear hS;obtain ⟨j,E⟩:=O1 (((wr.alloc (.cells #[.string f,.int .i64 c,.slice ja d.length jc,.bool g,.slice va u.length vc,.slice sa v.length sc] 41)).alloc (.cells #[.string F,.int .i64 z,.slice ia A.length ic,.bool G,.slice pa ps.length pc,.slice qa qs.length qc] 41)).drew);rw [<- E];have M:Below wr.heap.size wr j:=by rw [E];exact (((Z0 _ _).alloc lz _).alloc (by simp) _).drew
      have Y:j.heap[wr.heap.size+1]?=some (.cells #[.string F,.int .i64 z,.slice ia A.length ic,.bool G,.slice pa ps.length pc,.slice qa qs.length qc] 41 (0,0)):=by rw [E];exact jq wr _ _
      have Z:j.heap[wr.heap.size]?=some (.cells #[.string f,.int .i64 c,.slice ja d.length jc,.bool g,.slice va u.length vc,.slice sa v.length sc] 41 (0,0)):=by rw [E];exact zl wr _ _
      have a4:=U (show ∀w':World,Below j.heap.size j w'->w'.cell? ⟨wr.heap.size+1,0,none⟩=some (.string F)/\w'.cell? ⟨wr.heap.size+1,1,none⟩=some (.int .i64 z)/\w'.cell? ⟨wr.heap.size+1,2,none⟩=some (.slice ia A.length ic)/\w'.cell? ⟨wr.heap.size+1,3,none⟩=some (.bool G)/\w'.cell? ⟨wr.heap.size+1,4,none⟩=some (.slice pa ps.length pc)/\w'.cell? ⟨wr.heap.size+1,5,none⟩=some (.slice qa qs.length qc)/\w'.cell? ⟨wr.heap.size,0,none⟩=some (.string f)/\w'.cell? ⟨wr.heap.size,1,none⟩=some (.int .i64 c)/\w'.cell? ⟨wr.heap.size,2,none⟩=some (.slice ja d.length jc)/\w'.cell? ⟨wr.heap.size,3,none⟩=some (.bool g)/\w'.cell? ⟨wr.heap.size,4,none⟩=some (.slice va u.length vc)/\w'.cell? ⟨wr.heap.size,5,none⟩=some (.slice sa v.length sc) from fun w' h=>by
       have H:=(h.block _ (qx Y)).trans Y;have I:=(h.block _ (qx Z)).trans Z;exact ⟨qq H rfl,qq H rfl,qq H rfl,qq H rfl,qq H rfl,qq H rfl,qq I rfl,qq I rfl,qq I rfl,qq I rfl,qq I rfl,qq I rfl⟩)
      have K:=U (O2 Q M);have B:=c5.o;have N:=c6.o;have a:=fun (w':World) (h:Below j.heap.size j w')=>M.trans (h.mono M.size);have T:=O0 (∀w':World,Below j.heap.size j w'->_) (fun w' h=>gE z c A d ia ja ic jc w' (a0.o.ids.below (a w' h) lz lz (a w' h).size) (a1.o.ids.below (a w' h) lz lz (a w' h).size) B.au.2.1 N.au.2.1);have V:=O0 (∀w':World,Below j.heap.size j w'->_) (fun w' h=>vA ps u pa va pc vc w' (a0.o.paths.below (a w' h) lz lz (a w' h).size) (a1.o.paths.below (a w' h) lz lz (a w' h).size) B.paths.1);have X:=O0 (∀w':World,Below j.heap.size j w'->_) (fun w' h=>vA qs v qa sa qc sc w' (a0.o.pres.below (a w' h) lz lz (a w' h).size) (a1.o.pres.below (a w' h) lz lz (a w' h).size) B.pres.1);have b:=U (bN F f ⟨z,A⟩ ⟨c,d⟩ G g ps u qs v);obtain ⟨sx,P⟩:=O1 (decide ((⟨F,⟨z,A⟩,G,ps,qs⟩:DelegV)=⟨f,⟨c,d⟩,g,u,v⟩));rw [<- P] at b;replace m:=O0 (sx=false->decide (rs=rs2)=false) (fun h=>m.o (by rw [P] at h;exact of_decide_eq_false h));replace R:=O0 (sx=true->rs.take (k+1)=rs2.take (k+1)) (fun h=>R.o (by rw [P] at h;exact of_decide_eq_true h));obtain ⟨c2,a5⟩:∃s',s'=decide ((⟨z,A⟩:AuthV)=⟨c,d⟩):=⟨_,rfl⟩;rw [<- a5] at b T;obtain ⟨sp,a6⟩:∃s',s'=decide (ps=u):=⟨_,rfl⟩;rw [<- a6] at b V;obtain ⟨sq,a7⟩:∃s',s'=decide (qs=v):=⟨_,rfl⟩;rw [<- a7] at b X;clear E M Y Z B N a P a5 a6 a7 x1 y1 e0 e1 e2 e3 e4 e5 g0 g1 g2 g3 g4 g5;obtain ⟨u0,u1,u2,u3,u4,u5,v0,v1,v2,v3,v4,v5⟩:=a4.o j (Z0 _ _);cases hn:(F.toList == f.toList)
      . have b9:(F.toList != f.toList)=true:=by simpa [bne] using hn
        have C:=U (show q=false by rw [D.o];exact m.o (by rw [b.o,Z7 (p:=F=f) (fun e=>by rw [e] at hn;simp at hn)];rfl));go_wp2;go_ret;exact ⟨qz C.o.symm,s.o.trans (K.o.mono s.o.size)⟩
      have b9:(F.toList != f.toList)=false:=by simpa [bne] using hn
      rw [J2 (p:=F=f) (by rw [ba_eq,Q6] at hn;exact hn),X4] at b;by_cases ht:G=g
      case neg =>
       have c0:(G != g)=true:=by simpa using ht
       have c1:(G == g)=false:=by simpa using ht
       have C:=U (show q=false by rw [D.o];exact m.o (by rw [b.o,Z7 ht];rfl));clear ht;go_wp2;go_ret;exact ⟨qz C.o.symm,s.o.trans (K.o.mono s.o.size)⟩
      have c0:(G != g)=false:=by simpa using ht
      have c1:(G == g)=true:=by simpa using ht
      rw [J2 ht,X4] at b;clear ht;go_wp2_with fail;refine (T.o j (Z0 _ _)).mono ?_;clear T;clear u0 v0 u1 v1 u2 v2 u3 v3 u4 v4 u5 v5;rintro r w5 ⟨rfl,L⟩;obtain ⟨u0,u1,u2,u3,u4,u5,v0,v1,v2,v3,v4,v5⟩:=a4.o w5 L;have a3:=U L;have J:=U (O2 K L);clear L;cases c2 with
      | false => have C:=U (show q=false by rw [D.o];exact m.o (by rw [b.o];rfl));go_wp2;go_ret;exact ⟨qz C.o.symm,s.o.trans (J.o.mono s.o.size)⟩
      | true =>
      rw [X4] at b;go_wp2_with fail;refine (V.o w5 a3.o).mono ?_;clear V;rintro r w6 ⟨rfl,n6,rfl⟩;cases sp with
      | false => have C:=U (show q=false by rw [D.o];exact m.o (by rw [b.o];rfl));go_wp2;go_ret;exact ⟨qz C.o.symm,Below.drewN (s.o.trans (J.o.mono s.o.size)) _⟩
      | true =>
      rw [X4] at b;go_wp2_with fail;refine (X.o (w5.drewN n6) (Below.drewN a3.o _)).mono ?_;clear X;rintro r w7 ⟨rfl,n7,rfl⟩;cases sq with
      | false => have C:=U (show q=false by rw [D.o];exact m.o b.o);go_wp2;go_ret;exact ⟨qz C.o.symm,Below.drewN (s.o.trans (J.o.mono s.o.size)) _⟩
      | true =>
       have b0:=U (R.o b.o);go_wp2;go_roundw
       case rel=>exact ⟨k+1,by omega,by go_num,b0.o,Below.drewN J.o _⟩
       case measure=>simp [intOf];omega
  . obtain rfl:k=nn:=by omega
    have m3:decide ((k:Int)<(k:Int))=false:=by simp
    have HR:=U (show q=true by
     rw [D.o];have:=c9.o;rw [Z8 (by rw [<- b1.o];exact J0 _),Z8 (by rw [<- c7.o];exact J0 _)] at this;exact J2 this)
    go_wp2;go_ret;exact ⟨qz HR.o.symm,s.o.trans (Q.o.mono s.o.size)⟩
def ogK (u:JV) (st:PS):JV × PS:=qX u qP 32 st
def ogL (u:JV) (st:PS):List Key2 × Int:=jx (ogK u st).1
def ogS (u:JV) (st:PS):PS:=(ogK u st).2.fail (ogL u st).2
def ogO (u:JV) (st:PS):JV × PS:=qX u xK 8192 (ogS u st)
def ogR (u:JV) (st:PS):List JV × PS:=qB u xB 64 (ogS u st)
def ogB (u:JV) (st:PS):(BinsV × List DelegV) × PS:=if zv u xK (ogS u st) then (((xX (ogO u st).1).1,[]),(ogO u st).2.fail (xX (ogO u st).1).2) else ((j6,(xi (ogR u st).1 []).1),(ogR u st).2.fail (xi (ogR u st).1 []).2)
def pn (u:JV) (st:PS):DelegsV × Int:=if qr u (ogB u st).2≠0 then (jT,qr u (ogB u st).2) else (⟨(ogL u st).1,(ogB u st).1.2,(ogB u st).1.1⟩,0)
theorem ly:pn zo ⟨[],10⟩=(jT,10):=by decide +kernel
theorem aB {v:JV} {y:ByteArray} {most:Nat} {st:PS}:(qB v y most st).1.length<=most/\JV.wts (qB v y most st).1<=v.wt:=by
 unfold qB;split
 . exact ⟨J8 _,by simp [JV.wts]⟩
 . split
   . exact ⟨J8 _,by simp [JV.wts]⟩
   . rename_i it hit;split
     . exact ⟨J8 _,by simp [JV.wts]⟩
     . split
       . exact ⟨J8 _,by simp [JV.wts]⟩
       . refine ⟨by show it.items.length<=most;omega,?_⟩;have b:=it.wt_eq;obtain ⟨j,a,rfl⟩:=Y3 (vb hit).2;have c:=JV.wts_get v.items j a;have d:=v.wt_eq;show JV.wts v.items[j].items<=v.wt;omega
theorem QZ {u:JV} {st:PS} (h:st.asked.length<=1000):(ogS u st).asked.length<=1001:=by have a:=@Qr u qP 32 st;unfold ogS ogK;rw [vg];omega
def ct (u:JV) (st:PS):Prop:=((ogO u st).1.kind=5->qe (ogO u st).1.names=true/\(ogO u st).1.names.length=(ogO u st).1.items.length)/\∀v ∈ (ogR u st).1,v.kind=5->qe v.names=true/\v.names.length=v.items.length
def vT (r:DelegsV × Int) (w:World) (e:Ending) (w':World):Prop :=
 ∃ka kc ra rc ba bc,e=.returned (.tuple #[.agg #[.slice ka r.1.keys.length kc,.slice ra r.1.roles.length rc,.int .i64 r.1.bins.au.thr,.slice ba r.1.bins.au.ids.length bc,.int .i64 r.1.bins.bits,.string r.1.bins.pre],.int .i64 r.2])/\r.1.roles.length<=rc/\DelegsIn w' w.heap.size w'.heap.size r.1 ka ra ba/\Below w.heap.size w w'
theorem wP {er:Int} {w w':World} (hb:Below w.heap.size w w'):vT (jT,er) w (.returned (.tuple #[.agg #[.slice none 0 0,.slice none 0 0,.int .i64 0,.slice none 0 0,.int .i64 0,.string ⟨#[]⟩],.int .i64 er])) w' :=
 ⟨none,0,none,0,none,0,rfl,J0 _,⟨.inl rfl,.inl rfl,.inl rfl⟩,hb⟩
def lg (C:JV->Prop) (st:PS) (mb:Bool) (w:World) (e:Ending) (w':World):Prop:=(mb=false/\vT (jT,3) w e w')\/(mb=true/\∃u,C u/\vT (pn u st) w e w')
theorem mu (C:JV->Prop) (st:PS) (v:JV) (x:Value) (w:World) (hN:v.wt<=4294967296) (hR:Rep w 0 w.heap.size v x) (ha:st.asked.length<=1000) (hT:Tabs w) (hC:∀u,C u->ct u st)
 (hOf:v.mayB=true->∀w1,Below w.heap.size w w1->Calls Tryz.prog 60 #[x] w1 (gw C st w1)) :
 Calls Tryz.prog 16 #[x] w (lg C st v.mayB w):=by
 obtain ⟨an,cn,ai,ci,hx,K,D,h3,h4⟩:=hR.parts;clear K D h3 h4;subst hx;obtain ⟨W,hW⟩:=O1 ((w.alloc (.cells #[.int .u8 v.kind,.int .i64 v.n,.string v.t,.slice an v.names.length cn,.slice ai v.items.length ci] 25)).alloc (.cells #[.slice none 0 0,.slice none 0 0,.int .i64 0,.slice none 0 0,.int .i64 0,.string ⟨#[]⟩] 35));have h6:(w.alloc (.cells #[.int .u8 v.kind,.int .i64 v.n,.string v.t,.slice an v.names.length cn,.slice ai v.items.length ci] 25)).heap.size=w.heap.size+1:=by simp
 have hb:Below w.heap.size w W:=by rw [hW];exact ((Z0 _ _).alloc lz _).alloc (by simp) _
 have h5:W.heap[w.heap.size]?=some (.cells #[.int .u8 v.kind,.int .i64 v.n,.string v.t,.slice an v.names.length cn,.slice ai v.items.length ci] 25 (0,0)):=by rw [hW];exact zl w _ _
 have d6:W.rowIs (w.heap.size+1) 35 6 (qK (.slice none 0 0) (.slice none 0 0) (.int .i64 0) (.slice none 0 0) (.int .i64 0) (.string ⟨#[]⟩)):=(by have:=xW (w.alloc (.cells #[.int .u8 v.kind,.int .i64 v.n,.string v.t,.slice an v.names.length cn,.slice ai v.items.length ci] 25)) (.slice none 0 0) (.slice none 0 0) (.int .i64 0) (.slice none 0 0) (.int .i64 0) (.string ⟨#[]⟩) 35;rw [h6,<- hW] at this;exact this);have a3:=U hOf;have c7:=U (vy v _ W hN (hR.below hb lz (J8 _) hb.size));obtain ⟨mb,g5⟩:=O1 v.mayB;rw [<- g5] at c7 a3 ⊢;have e6:=U hC;have h8:=O0 (∀w':World,Below w.heap.size w w'->Tabs w') (fun w' h=>hT.below h);have g:=U hb;have V:=U h5;have M:=U d6;have HW:=U hW;have HA:=U ha;have d2:=O0 (w.heap.size+2<=W.heap.size) d6.lt;clear hOf hW h6 hb h5 d6 hR ha g5 hN hC hT;obtain ⟨c0,c1,c2,c3,c4⟩:=bx5 V.o;go_enter Tryz.func16,Tryz.ntmps16;go_upto_region 1 with fail
 rw [<- HW.o];clear HW;go_wp2_with fail;refine c7.o.mono ?_;clear c7 c0 c1 c2 c3 c4;rintro e w1 ⟨rfl,c5⟩;replace V:=U ((c5.block _ (qx V.o)).trans V.o);have H:=qj c5 M.o M.o.lt;replace M:=U H;replace g:=U (O2 g c5);replace d2:=O0 (w.heap.size+2<=w1.heap.size) H.lt;clear c5;cases mb with
 | false => obtain ⟨t0,t1,t2,t3,t4⟩:=rc5 H;have t5:=H.cell (i:=5) (by decide);obtain ⟨s0,s1,s2,s3,s4⟩:=rf5 H;have s5:=H.frozen 5;simp only [qK] at t0 t1 t2 t3 t4 t5;clear H;go_wp2;refine J3 (qk Tryz.results16 _ _ (w.heap.size+1) 35 _ (0,0) _ rfl (zJ (yB _ _ _ _ _ _ M.o)) zc2 rfl (by kernel_rfl) _ rfl) rfl ?_;exact .inl ⟨rfl,wP (ji _ _ _ _ _ _ g.o (by omega))⟩
 | true =>
 clear H;replace a3:=U (a3.o rfl w1 g.o);obtain ⟨c0,c1,c2,c3,c4⟩:=bx5 V.o;go_wp2_with fail;refine a3.o.mono ?_;clear a3 c0 c1 c2 c3 c4;rintro e w2 ⟨u,o,m,lo,hi,i6,i3,j3,j0,hC,hu,rfl,d3,i1,i0,X⟩;have HC:=U hC;have a0:=U (e6.o u hC);have HU:=U hu;have h9:=d3.lt;obtain ⟨p,d4⟩:=O1 w2.heap.size;obtain ⟨J,b7⟩:=O1 (w2.alloc (.cells #[.slice none 0 0,.slice none 0 0,.int .i64 0,.slice none 0 0,.int .i64 0,.string ⟨#[]⟩] 35));have b0:Below w2.heap.size w2 J:=by rw [b7];exact (Z0 _ _).alloc lz _
 have d5:J.rowIs p 35 6 (qK (.slice none 0 0) (.slice none 0 0) (.int .i64 0) (.slice none 0 0) (.int .i64 0) (.string ⟨#[]⟩)):=by rw [b7,d4];exact xW _ _ _ _ _ _ _ _
 have l:=U (show p≠o/\p≠m/\hi<=p/\w.heap.size+2<=o/\w.heap.size+2<=m/\w.heap.size+2<=p/\p<J.heap.size/\o<J.heap.size/\m<J.heap.size from by
  have K:=X.size;have D:=d5.lt;have h3:=d2.o;have h4:=b0.size;omega)
 have A:=U (d3.below b0);have y:=U (qj (X.trans (b0.mono X.size)) M.o M.o.lt);replace g:=U (g.o.trans ((X.trans (b0.mono X.size)).mono g.o.size));have d:=U d5;have z:=U (J0 J.heap.size);have e9:=U b7;have e8:=U d4;clear e6 hC hu h9 d3 i1 i0 X b0 d5 b7 d4 M V d2;have c6:=U (@QZ u st HA.o);have S:=U (eF qP 32 A.o (by decide) (by have:=HA.o;omega));unfold oN at S;have c9:=O0 ((ogK u st).1.wt<=4294967296) (fh HU.o);have b5:=O0 (ogL u st=jx (ogK u st).1) rfl;have T:=O0 (ogS u st=(ogK u st).2.fail (ogL u st).2) rfl;have s:=O0 (ogB u st=if zv u xK (ogS u st) then (((xX (ogO u st).1).1,[]),(ogO u st).2.fail (xX (ogO u st).1).2) else ((j6,(xi (ogR u st).1 []).1),(ogR u st).2.fail (xi (ogR u st).1 []).2)) rfl;have a4:=O0 (ogO u st=qX u xK 8192 (ogS u st)) rfl;have b6:=O0 (ogR u st=qB u xB 64 (ogS u st)) rfl;have I:=O0 (pn u st=if qr u (ogB u st).2≠0 then (jT,qr u (ogB u st).2) else (⟨(ogL u st).1,(ogB u st).1.2,(ogB u st).1.1⟩,0)) rfl;unfold ct at a0;rw [show qX u qP 32 st=ogK u st from rfl] at S;obtain ⟨GK,f7⟩:=O1 (ogK u st);rw [<- f7] at S c9 b5 T;clear f7;obtain ⟨KJ,SK⟩:=GK;dsimp only at S c9 b5 T;go_upto_region 6 with fail
 rw [<- e9.o,<- e8.o];clear e8 e9;go_wp2_with fail;refine S.o.mono ?_;clear S;rintro e w4 ⟨⟨i7,k0,i4,j1,rfl,g9⟩,r,a⟩;have Q:=U (iO KJ _ w4 J.heap.size (Nat.lt_of_le_of_lt (J8 _) d.o.lt) c9.o g9 (h8.o w4 (g.o.trans (a.below (by have:=g.o.size;omega) fun k hk e=>by have:=l.o;omega))));clear g9;replace A:=U r;replace y:=U (a.row y.o (by have:=l.o;omega));replace d:=U (a.row d.o (by have:=l.o;omega));replace g:=U (g.o.trans (a.below (by have:=g.o.size;omega) fun k hk e=>by have:=l.o;omega));replace z:=U (Z3 z.o a.size);clear r a;unfold d9 at Q;rw [<- b5.o] at Q;obtain ⟨GL,f9⟩:=O1 (ogL u st);rw [<- f9] at Q T I;clear f9 b5;obtain ⟨kl,ke⟩:=GL;dsimp only at Q T I;go_wp2_with fail;refine Q.o.mono ?_;clear Q;rintro e w5 ⟨kv,rfl,g6,f⟩;obtain ⟨ka,kc,rfl,g4⟩:=ua g6 rfl;have q:=O0 (zA w5 J.heap.size w5.heap.size ka kl) (g4.carry z.o lz (fun _ _ _=>rfl));clear g6 g4;replace A:=U (A.o.below f);replace y:=U (qj f y.o y.o.lt);replace d:=U (qj f d.o d.o.lt);replace g:=U (O2 g f);replace z:=U (Z3 z.o f.size);clear f;have e0:=d.o.cell (i:=0) (by decide);have f0:=d.o.frozen 0;simp only [qK] at e0;obtain ⟨W6,b9⟩:=O1 (w5.setCell ⟨p,0,none⟩ (.slice ka kl.length kc));have c:Touch (fun b=>b=p) w5 W6:=by rw [b9];exact (Touch.refl _ _).trans (qM _)
 replace d:=U (show W6.rowIs p 35 6 (qK (.slice ka kl.length kc) (.slice none 0 0) (.int .i64 0) (.slice none 0 0) (.int .i64 0) (.string ⟨#[]⟩)) from by
  rw [b9];refine (d.o.set 0 _).congr fun j hj=>?_;rcases j with _|_|_|_|_|_|j <;> first|rfl|omega)
 replace A:=U (A.o.touch c l.o.1 l.o.2.1 l.o.2.2.1);replace y:=U (c.row y.o (by have:=l.o;omega));replace g:=U (g.o.trans (c.below (by have:=g.o.size;omega) fun k hk e=>by have:=l.o;omega));replace z:=U (Z3 z.o c.size);replace q:=U (q.o.carry lz c.size (fun b K D=>c.block b D (by have:=l.o;omega)));have f6:=U b9;clear c b9;go_upto_region 7 with fail
 rw [<- f6.o];clear f6 e0 f0;go_wp2_with fail;refine (uR ke A.o).mono ?_;rintro e w7 ⟨rfl,r,a⟩;rw [<- T.o] at r;replace A:=U r;replace y:=U (a.row y.o (by have:=l.o;omega));replace d:=U (a.row d.o (by have:=l.o;omega));replace g:=U (g.o.trans (a.below (by have:=g.o.size;omega) fun k hk e=>by have:=l.o;omega));replace z:=U (Z3 z.o a.size);replace q:=U (q.o.carry lz a.size (fun b K D=>a.block b D (by have:=l.o;omega)));clear r a;clear T;obtain ⟨SS,g2⟩:=O1 (ogS u st);rw [<- g2] at A s a4 b6 c6;clear g2;have e7:=U (QM xK A.o);go_upto_region 8 with fail
 go_wp2_with fail
 refine e7.o.mono ?_;clear e7;rintro e w8 ⟨rfl,f⟩;replace A:=U (A.o.below f);replace y:=U (qj f y.o y.o.lt);replace d:=U (qj f d.o d.o.lt);replace g:=U (O2 g f);replace z:=U (Z3 z.o f.size);replace q:=U (q.o.below f lz lz f.size);clear f;obtain ⟨hv,g3⟩:=O1 (zv u xK SS);rw [<- g3] at s ⊢;clear g3;cases hv with
 | true =>
  rw [J1 rfl] at s;have R:=U (eF xK 8192 A.o (by decide) (by have:=c6.o;omega));unfold oN at R;rw [<- a4.o] at R;have d0:=U (show (ogO u st).1.wt<=4294967296 by rw [a4.o];exact fh HU.o);have L:=U a0.o.1;obtain ⟨GO,g0⟩:=O1 (ogO u st);rw [<- g0] at R d0 s L;clear g0 a4 b6 a0;obtain ⟨OJ,SO⟩:=GO;dsimp only at R d0 s L;go_wp2_with fail;refine R.o.mono ?_;clear R;rintro e w9 ⟨⟨i9,k1,i5,j2,rfl,b2⟩,r,a⟩;have Y:=U (dR OJ _ w9 w8.heap.size (by have:=z.o;have:=l.o;omega) d0.o b2 L.o);clear b2;replace A:=U r;replace y:=U (a.row y.o (by have:=l.o;omega));replace d:=U (a.row d.o (by have:=l.o;omega));replace g:=U (g.o.trans (a.below (by have:=g.o.size;omega) fun k hk e=>by have:=l.o;omega));replace z:=U (Z3 z.o a.size);replace q:=U (q.o.carry lz a.size (fun b K D=>a.block b D (by have:=l.o;omega)));clear r a;unfold vL at Y;obtain ⟨GB,a9⟩:=O1 (xX OJ);rw [<- a9] at Y s;clear a9;obtain ⟨⟨a8,d7,au⟩,be⟩:=GB;dsimp only at Y s;obtain ⟨SP,P⟩:=O1 (SO.fail be);rw [<- P] at s;rw [s.o] at I;dsimp only at I;have a7:=U P;clear P s;go_wp2_with fail;refine Y.o.mono ?_;clear Y;rintro e F ⟨ba,bc,rfl,-,b3,f⟩;have Z:=O0 (qv F J.heap.size F.heap.size ba au.ids) (b3.carry z.o lz (fun _ _ _=>rfl));clear b3;replace A:=U (A.o.below f);replace y:=U (qj f y.o y.o.lt);replace d:=U (qj f d.o d.o.lt);replace g:=U (O2 g f);replace z:=U (Z3 z.o f.size);replace q:=U (q.o.below f lz lz f.size);clear f;have e2:=d.o.cell (i:=2) (by decide);have f2:=d.o.frozen 2;simp only [qK] at e2;have e3:=d.o.cell (i:=3) (by decide);have f3:=d.o.frozen 3;simp only [qK] at e3;have e4:=d.o.cell (i:=4) (by decide);have f4:=d.o.frozen 4;simp only [qK] at e4;have e5:=d.o.cell (i:=5) (by decide);have f5:=d.o.frozen 5;simp only [qK] at e5;obtain ⟨E,B⟩:=O1 ((((F.setCell ⟨p,2,none⟩ (.int .i64 au.thr)).setCell ⟨p,3,none⟩ (.slice ba au.ids.length bc)).setCell ⟨p,4,none⟩ (.int .i64 a8)).setCell ⟨p,5,none⟩ (.string d7));have c:Touch (fun b=>b=p) F E:=by rw [B];exact ((((Touch.refl _ _).trans (qM _)).trans (qM _)).trans (qM _)).trans (qM _)
  replace d:=U (show E.rowIs p 35 6 (qK (.slice ka kl.length kc) (.slice none 0 0) (.int .i64 au.thr) (.slice ba au.ids.length bc) (.int .i64 a8) (.string d7)) from by
   rw [B];refine ((((d.o.set 2 _).set 3 _).set 4 _).set 5 _).congr fun j hj=>?_;rcases j with _|_|_|_|_|_|j <;> first|rfl|omega)
  replace A:=U (A.o.touch c l.o.1 l.o.2.1 l.o.2.2.1);replace y:=U (c.row y.o (by have:=l.o;omega));replace g:=U (g.o.trans (c.below (by have:=g.o.size;omega) fun k hk e=>by have:=l.o;omega));replace z:=U (Z3 z.o c.size);replace q:=U (q.o.carry lz c.size (fun b K D=>c.block b D (by have:=l.o;omega)));replace Z:=U (Z.o.carry lz c.size (fun b K D=>c.block b D (by have:=l.o;omega)));have G:=U B;clear c B;go_upto_region 11 with fail
  rw [<- G.o];clear G e2 f2 e3 f3 e4 f4 e5 f5;go_wp2_with fail;refine (uR be A.o).mono ?_;rintro e b4 ⟨rfl,r,a⟩;rw [<- a7.o] at r;clear a7;replace A:=U r;replace y:=U (a.row y.o (by have:=l.o;omega));replace d:=U (a.row d.o (by have:=l.o;omega));replace g:=U (g.o.trans (a.below (by have:=g.o.size;omega) fun k hk e=>by have:=l.o;omega));replace z:=U (Z3 z.o a.size);replace q:=U (q.o.carry lz a.size (fun b K D=>a.block b D (by have:=l.o;omega)));replace Z:=U (Z.o.carry lz a.size (fun b K D=>a.block b D (by have:=l.o;omega)));clear r a;have HD:=U (dl A.o HU.o);obtain ⟨dn,b1⟩:=O1 (qr u SP);rw [<- b1] at HD I;clear b1;have hR:=y.o;obtain ⟨t0,t1,t2,t3,t4⟩:=rc5 hR;have t5:=hR.cell (i:=5) (by decide);obtain ⟨s0,s1,s2,s3,s4⟩:=rf5 hR;have s5:=hR.frozen 5;simp only [qK] at t0 t1 t2 t3 t4 t5;have e0:=d.o.cell (i:=0) (by decide);have f0:=d.o.frozen 0;simp only [qK] at e0;have e1:=d.o.cell (i:=1) (by decide);have f1:=d.o.frozen 1;simp only [qK] at e1;have e2:=d.o.cell (i:=2) (by decide);have f2:=d.o.frozen 2;simp only [qK] at e2;have e3:=d.o.cell (i:=3) (by decide);have f3:=d.o.frozen 3;simp only [qK] at e3;have e4:=d.o.cell (i:=4) (by decide);have f4:=d.o.frozen 4;simp only [qK] at e4;have e5:=d.o.cell (i:=5) (by decide);have f5:=d.o.frozen 5;simp only [qK] at e5;clear hR;go_wp2_with fail;refine HD.o.mono ?_;clear HD;rintro e i2 ⟨rfl,h'⟩;subst h';by_cases hd:dn=0
  case neg =>
   have d1:(dn != 0)=true:=by simpa using hd
   rw [J1 hd] at I;clear hd;go_wp2;refine J3 (qk Tryz.results16 _ _ (w.heap.size+1) 35 _ (0,0) _ rfl (zJ (yB _ _ _ _ _ _ y.o)) zc2 rfl (by kernel_rfl) _ rfl) rfl ?_;refine .inr ⟨rfl,u,HC.o,?_⟩;rw [I.o];exact wP (ji _ _ _ _ _ _ g.o (by omega))
  subst hd;rw [Z5 (by decide)] at I;have N:=O0 (w.heap.size+2<=J.heap.size) (by have:=l.o;omega);go_wp2;refine J3 (qk Tryz.results16 _ _ (w.heap.size+1) 35 _ (0,0) _ rfl (zJ (yB _ _ _ _ _ _ y.o)) zc2 rfl (by kernel_rfl) _ rfl) rfl ?_;refine .inr ⟨rfl,u,HC.o,?_⟩;rw [I.o];have hc:=fun b (K:J.heap.size<=b) (D:b<b4.heap.size)=>pQ (W:=b4) (.slice ka kl.length kc) (.slice none 0 0) (.int .i64 au.thr) (.slice ba au.ids.length bc) (.int .i64 a8) (.string d7) (show b≠w.heap.size+1 by have:=N.o;omega);exact ⟨ka,kc,none,0,ba,bc,rfl,J0 _,⟨q.o.carry (by have:=N.o;omega) (K3 yH.symm) hc,.inl rfl,Z.o.carry (by have:=N.o;omega) (K3 yH.symm) hc⟩,ji _ _ _ _ _ _ g.o (by omega)⟩
 | false =>
  rw [Z5 (by decide)] at s;have a2:=U (QD xB 64 A.o (by decide) (by have:=c6.o;omega));have a1:=U (@aB u xB 64 SS);rw [<- b6.o] at a2 a1;have L:=U a0.o.2;obtain ⟨GR,g1⟩:=O1 (ogR u st);rw [<- g1] at a2 a1 s L;clear g1 a4 b6 a0;obtain ⟨LJ,SL⟩:=GR;dsimp only at a2 a1 s L;go_wp2_with fail;refine a2.o.mono ?_;clear a2;rintro e w9 ⟨⟨al,cl,rfl,-,b2⟩,r,a⟩;have a5:=U (m8 LJ al cl w9 w8.heap.size (by have:=z.o;have:=l.o;omega) (Z3 a1.o.2 HU.o) b2 L.o (Z3 a1.o.1 (by decide)));clear b2;replace A:=U r;replace y:=U (a.row y.o (by have:=l.o;omega));replace d:=U (a.row d.o (by have:=l.o;omega));replace g:=U (g.o.trans (a.below (by have:=g.o.size;omega) fun k hk e=>by have:=l.o;omega));replace z:=U (Z3 z.o a.size);replace q:=U (q.o.carry lz a.size (fun b K D=>a.block b D (by have:=l.o;omega)));clear r a;unfold wY at a5;obtain ⟨GB,a9⟩:=O1 (xi LJ []);rw [<- a9] at a5 s;clear a9;obtain ⟨rs,re⟩:=GB;dsimp only at a5 s;obtain ⟨SP,P⟩:=O1 (SL.fail re);rw [<- P] at s;rw [s.o] at I;dsimp only at I;have a7:=U P;clear P s;go_wp2_with fail;refine a5.o.mono ?_;clear a5;rintro e F ⟨ra,rc,rfl,h0,b3,f⟩;have h7:=U h0;have a6:=O0 (zk F J.heap.size F.heap.size ra rs) (b3.carry z.o lz (fun _ _ _=>rfl));clear b3 h0;replace A:=U (A.o.below f);replace y:=U (qj f y.o y.o.lt);replace d:=U (qj f d.o d.o.lt);replace g:=U (O2 g f);replace z:=U (Z3 z.o f.size);replace q:=U (q.o.below f lz lz f.size);clear f;have e1:=d.o.cell (i:=1) (by decide);have f1:=d.o.frozen 1;simp only [qK] at e1;obtain ⟨E,B⟩:=O1 (F.setCell ⟨p,1,none⟩ (.slice ra rs.length rc));have c:Touch (fun b=>b=p) F E:=by rw [B];exact (Touch.refl _ _).trans (qM _)
  replace d:=U (show E.rowIs p 35 6 (qK (.slice ka kl.length kc) (.slice ra rs.length rc) (.int .i64 0) (.slice none 0 0) (.int .i64 0) (.string ⟨#[]⟩)) from by
   rw [B];refine (d.o.set 1 _).congr fun j hj=>?_;rcases j with _|_|_|_|_|_|j <;> first|rfl|omega)
  replace A:=U (A.o.touch c l.o.1 l.o.2.1 l.o.2.2.1);replace y:=U (c.row y.o (by have:=l.o;omega));replace g:=U (g.o.trans (c.below (by have:=g.o.size;omega) fun k hk e=>by have:=l.o;omega));replace z:=U (Z3 z.o c.size);replace q:=U (q.o.carry lz c.size (fun b K D=>c.block b D (by have:=l.o;omega)));replace a6:=U (a6.o.carry lz c.size (fun b K D=>c.block b D (by have:=l.o;omega)));have G:=U B;clear c B;go_upto_region 11 with fail
  rw [<- G.o];clear G e1 f1;go_wp2_with fail;refine (uR re A.o).mono ?_;rintro e b4 ⟨rfl,r,a⟩;rw [<- a7.o] at r;clear a7;replace A:=U r;replace y:=U (a.row y.o (by have:=l.o;omega));replace d:=U (a.row d.o (by have:=l.o;omega));replace g:=U (g.o.trans (a.below (by have:=g.o.size;omega) fun k hk e=>by have:=l.o;omega));replace z:=U (Z3 z.o a.size);replace q:=U (q.o.carry lz a.size (fun b K D=>a.block b D (by have:=l.o;omega)));replace a6:=U (a6.o.carry lz a.size (fun b K D=>a.block b D (by have:=l.o;omega)));clear r a;have HD:=U (dl A.o HU.o);obtain ⟨dn,b1⟩:=O1 (qr u SP);rw [<- b1] at HD I;clear b1;have hR:=y.o;obtain ⟨t0,t1,t2,t3,t4⟩:=rc5 hR;have t5:=hR.cell (i:=5) (by decide);obtain ⟨s0,s1,s2,s3,s4⟩:=rf5 hR;have s5:=hR.frozen 5;simp only [qK] at t0 t1 t2 t3 t4 t5;have e0:=d.o.cell (i:=0) (by decide);have f0:=d.o.frozen 0;simp only [qK] at e0;have e1:=d.o.cell (i:=1) (by decide);have f1:=d.o.frozen 1;simp only [qK] at e1;have e2:=d.o.cell (i:=2) (by decide);have f2:=d.o.frozen 2;simp only [qK] at e2;have e3:=d.o.cell (i:=3) (by decide);have f3:=d.o.frozen 3;simp only [qK] at e3;have e4:=d.o.cell (i:=4) (by decide);have f4:=d.o.frozen 4;simp only [qK] at e4;have e5:=d.o.cell (i:=5) (by decide);have f5:=d.o.frozen 5;simp only [qK] at e5;clear hR;go_wp2_with fail;refine HD.o.mono ?_;clear HD;rintro e i2 ⟨rfl,h'⟩;subst h';by_cases hd:dn=0
  case neg =>
   have d1:(dn != 0)=true:=by simpa using hd
   rw [J1 hd] at I;clear hd;go_wp2;refine J3 (qk Tryz.results16 _ _ (w.heap.size+1) 35 _ (0,0) _ rfl (zJ (yB _ _ _ _ _ _ y.o)) zc2 rfl (by kernel_rfl) _ rfl) rfl ?_;refine .inr ⟨rfl,u,HC.o,?_⟩;rw [I.o];exact wP (ji _ _ _ _ _ _ g.o (by omega))
  subst hd;rw [Z5 (by decide)] at I;have N:=O0 (w.heap.size+2<=J.heap.size) (by have:=l.o;omega);go_wp2;refine J3 (qk Tryz.results16 _ _ (w.heap.size+1) 35 _ (0,0) _ rfl (zJ (yB _ _ _ _ _ _ y.o)) zc2 rfl (by kernel_rfl) _ rfl) rfl ?_;refine .inr ⟨rfl,u,HC.o,?_⟩;rw [I.o];have hc:=fun b (K:J.heap.size<=b) (D:b<b4.heap.size)=>pQ (W:=b4) (.slice ka kl.length kc) (.slice ra rs.length rc) (.int .i64 0) (.slice none 0 0) (.int .i64 0) (.string ⟨#[]⟩) (show b≠w.heap.size+1 by have:=N.o;omega);exact ⟨ka,kc,ra,rc,none,0,rfl,h7.o,⟨q.o.carry (by have:=N.o;omega) (K3 yH.symm) hc,a6.o.carry (by have:=N.o;omega) (K3 yH.symm) hc,.inl rfl⟩,ji _ _ _ _ _ _ g.o (by omega)⟩
theorem rD {x:JV} (h:x.partB=true):∀y ∈ x.items,y.partB=true:=by rw [JV.partB_eq,J4] at h;exact fe h.2
theorem fE {x:JV} (h:x.partB=true) (hk:x.kind=5):qe x.names=true/\x.names.length=x.items.length:=⟨(fm h hk).2.2.1,(fm h hk).2.1⟩
theorem rL {u:JV} {st:PS} (h:ny u\/u=zo):ct u st:=by
 have a:∀(y:ByteArray) (it:JV),u.look y=some it->it.kind≠0->it.partB=true:=fun y it hit hk=>by
  rcases h with h|rfl
  . exact QH h hit hk
  . cases (show (none:Option JV)=some it from hit)
 refine ⟨fun hk=>?_,fun v hv hk=>?_⟩
 . revert hk
   unfold ogO qX;split
   . intro hk;cases hk
   . split
     . intro hk;cases hk
     . rename_i it hit;split
       . intro hk;cases hk
       . split
         . intro hk;cases hk
         . intro hk;exact fE (a _ _ hit (by rw [hk];decide)) hk
 . revert hv
   unfold ogR qB;split
   . intro hv;cases hv
   . split
     . intro hv;cases hv
     . rename_i it hit;split
       . intro hv;cases hv
       . split
         . intro hv;cases hv
         . rename_i b _;intro hv;have b:it.kind=4:=by simpa using b
           exact fE (rD (a _ _ hit (by rw [b];decide)) v hv) hk
theorem lf (v:JV) (x:Value) (w:World) (lo:Nat) (hlo:0<lo) (hN:v.wt<=4294967296) (hR:Rep w lo w.heap.size v x) (hT:Tabs w) :
 Calls Tryz.prog 16 #[x] w (vT (xD v) w):=by
 cases hmb:v.mayB with
 | false =>
  refine (mu (fun u=>False) (st0 v) v x w hN (hR.carry (J8 _) lz (fun _ _ _=>rfl)) (by unfold st0;split <;> simp) hT (fun u a=>a.elim) (fun b=>by rw [hmb] at b;cases b)).mono ?_;rintro e w' (⟨b,h⟩|⟨b,u,a,h⟩)
  . have:xD v=(jT,3):=by unfold xD;rw [J1 hmb]
    rw [this];exact h
  . exact a.elim
 | true =>
  have c:v.kind=5->ny v:=tU hmb;refine (mu (jI v) (st0 v) v x w hN (hR.carry (J8 _) lz (fun _ _ _=>rfl)) (by unfold st0;split <;> simp) hT (fun u a=>rL (by
   unfold jI at a;by_cases h5:v.kind=5
   . rw [J1 h5] at a;rw [a];exact .inl (c h5)
   . rw [Z5 h5] at a;exact .inr a)) (fun b w1 hb=>ix hN hlo hb.size (hR.below hb lz lz lz) (fun hk=>⟨(c hk).2.2.1,(c hk).2.2.2.1⟩))).mono ?_
  rintro e w' (⟨b,h⟩|⟨b,u,a,h⟩)
  . rw [hmb] at b;cases b
  . unfold jI at a;unfold st0 at h;by_cases hk:v.kind=5
    . rw [J1 hk] at a h;subst a;have:xD u=pn u ⟨[],0⟩:=by unfold xD;rw [Z5 (by rw [hmb];decide),Z5 (by simp [hk])];rfl
      rw [this];exact h
    . rw [Z5 hk] at a h;subst a;have:xD v=(jT,10):=by unfold xD;rw [Z5 (by rw [hmb];decide),J1 hk]
      rw [this];rw [ly] at h;exact h
theorem g7 {n p:ByteArray} {b:Bool} (hn:n.size<=100) (hp:p.size<=100):DelegFits (vu n p b) :=
 ⟨by show n.size<=_;omega,⟨⟨by show -9223372036854775808<=(1:Int);decide,by show (1:Int)<=9223372036854775807;decide⟩,by show 1<=4294967296;decide,fun s hs=>by
  obtain rfl:s=gD 97:=by simpa [vu,Qk] using hs
  decide⟩,⟨by show 1<=4294967296;decide,fun s hs=>by
  obtain rfl:s=p:=by simpa [vu] using hs
  omega⟩,⟨J8 _,fun s hs=>(by cases hs)⟩⟩
theorem vr:DelegsFits exD/\DelegsFits exE/\DelegsFits exBin:=by
 have a:jj authZ:=⟨⟨by decide,by decide⟩,by decide,fun s hs=>(by cases hs)⟩;refine ⟨⟨by decide,fun k hk=>(by cases hk),by decide,fun x hx=>?_,⟨by decide,by decide⟩,by decide,a⟩,⟨by decide,fun k hk=>(by cases hk),by decide,fun x hx=>?_,⟨by decide,by decide⟩,by decide,a⟩,⟨by decide,fun k hk=>(by cases hk),by decide,fun x hx=>(by cases hx),⟨by decide,by decide⟩,by decide,(g7 (n:=raN) (p:=raN) (b:=false) (by decide) (by decide)).au⟩⟩
 . simp only [exD,G3,H9,zd5] at hx;rcases hx with rfl|rfl|rfl <;> exact g7 (by decide) (by decide)
 . simp only [exE,G3,H9,zd5] at hx;rcases hx with rfl|rfl <;> exact g7 (by decide) (by decide)
structure RoleIn (w:World) (ga gp:Nat) (p:ByteArray):Prop where
 ids:qv w 0 w.heap.size (some ⟨ga,0,none⟩) [gD 97]
 paths:qv w 0 w.heap.size (some ⟨gp,0,none⟩) [p]
theorem RoleIn.below {w w':World} {ga gp:Nat} {p:ByteArray} (h:RoleIn w ga gp p) (hb:Below w.heap.size w w'):RoleIn w' ga gp p :=
 ⟨h.ids.below hb lz lz hb.size,h.paths.below hb lz lz hb.size⟩
theorem aP {w:World} {q T a1 p1 a2 p2:Nat} {n1 n2 x1 x2:ByteArray} {b1 b2:Bool} (h:w.heap[q]?=some (.cells #[.string n1,.int .i64 1,.slice (some ⟨a1,0,none⟩) 1 1,.bool b1,.slice (some ⟨p1,0,none⟩) 1 1,.slice none 0 0,.string n2,.int .i64 1,.slice (some ⟨a2,0,none⟩) 1 1,.bool b2,.slice (some ⟨p2,0,none⟩) 1 1,.slice none 0 0] T (0,0))) (h1:RoleIn w a1 p1 x1) (h2:RoleIn w a2 p2 x2):zk w 0 w.heap.size (some ⟨q,0,none⟩) [vu n1 x1 b1,vu n2 x2 b2]:=by
 refine .inr ⟨q,0,rfl,J8 _,qx h,fun i hi=>?_⟩
 match i,hi with
 | 0,_=>exact ⟨_,1,_,1,none,0,qq h (j:=0) rfl,qq h (j:=1) rfl,qq h (j:=2) rfl,qq h (j:=3) rfl,qq h (j:=4) rfl,qq h (j:=5) rfl,J0 _,J0 _,J0 _,⟨h1.ids,h1.paths,.inl rfl⟩⟩
 | 1,_=>exact ⟨_,1,_,1,none,0,qq h (j:=6) rfl,qq h (j:=7) rfl,qq h (j:=8) rfl,qq h (j:=9) rfl,qq h (j:=10) rfl,qq h (j:=11) rfl,J0 _,J0 _,J0 _,⟨h2.ids,h2.paths,.inl rfl⟩⟩
theorem aF {w:World} {q T a1 p1 a2 p2 a3 p3:Nat} {n1 n2 n3 x1 x2 x3:ByteArray} {b1 b2 b3:Bool} (h:w.heap[q]?=some (.cells #[.string n1,.int .i64 1,.slice (some ⟨a1,0,none⟩) 1 1,.bool b1,.slice (some ⟨p1,0,none⟩) 1 1,.slice none 0 0,.string n2,.int .i64 1,.slice (some ⟨a2,0,none⟩) 1 1,.bool b2,.slice (some ⟨p2,0,none⟩) 1 1,.slice none 0 0,.string n3,.int .i64 1,.slice (some ⟨a3,0,none⟩) 1 1,.bool b3,.slice (some ⟨p3,0,none⟩) 1 1,.slice none 0 0] T (0,0))) (h1:RoleIn w a1 p1 x1) (h2:RoleIn w a2 p2 x2) (h3:RoleIn w a3 p3 x3):zk w 0 w.heap.size (some ⟨q,0,none⟩) [vu n1 x1 b1,vu n2 x2 b2,vu n3 x3 b3]:=by
 refine .inr ⟨q,0,rfl,J8 _,qx h,fun i hi=>?_⟩
 match i,hi with
 | 0,_=>exact ⟨_,1,_,1,none,0,qq h (j:=0) rfl,qq h (j:=1) rfl,qq h (j:=2) rfl,qq h (j:=3) rfl,qq h (j:=4) rfl,qq h (j:=5) rfl,J0 _,J0 _,J0 _,⟨h1.ids,h1.paths,.inl rfl⟩⟩
 | 1,_=>exact ⟨_,1,_,1,none,0,qq h (j:=6) rfl,qq h (j:=7) rfl,qq h (j:=8) rfl,qq h (j:=9) rfl,qq h (j:=10) rfl,qq h (j:=11) rfl,J0 _,J0 _,J0 _,⟨h2.ids,h2.paths,.inl rfl⟩⟩
 | 2,_=>exact ⟨_,1,_,1,none,0,qq h (j:=12) rfl,qq h (j:=13) rfl,qq h (j:=14) rfl,qq h (j:=15) rfl,qq h (j:=16) rfl,qq h (j:=17) rfl,J0 _,J0 _,J0 _,⟨h3.ids,h3.paths,.inl rfl⟩⟩
def eo (w:World) (ka ra ba:Option Addr):Prop:=DelegsIn w 0 w.heap.size exD ka ra ba
theorem eQ (q:Nat) (w:World) (hI:DelegsIn w 0 w.heap.size exD none (some ⟨q,0,none⟩) none) (hT:Tabs w) :
 Calls Tryz.prog 36 #[.agg #[.slice none 0 0,.slice (some ⟨q,0,none⟩) 3 3,.int .i64 0,.slice none 0 0,.int .i64 0,.string ⟨#[]⟩]] w fun e w'=>∃an cn ai ci,e=.returned (.tuple #[.agg #[.int .u8 5,.int .i64 0,.string ⟨#[]⟩,.slice an 2 cn,.slice ai 2 ci],.int .i64 0])/\Rep w' w.heap.size w'.heap.size (qf exD) (.agg #[.int .u8 5,.int .i64 0,.string ⟨#[]⟩,.slice an 2 cn,.slice ai 2 ci])/\Below w.heap.size w w':=by
 refine (fO [] exD.roles 0 0 [] ⟨#[]⟩ none (some ⟨q,0,none⟩) none 0 3 0 w hI vr.1 lz hT).mono ?_;have e:xh ⟨[],exD.roles,⟨0,⟨#[]⟩,⟨0,[]⟩⟩⟩=(qf exD,0):=(by unfold xh;rw [J1 (show qC ⟨[],exD.roles,⟨0,⟨#[]⟩,⟨0,[]⟩⟩⟩=true from pm.1)];rfl);rw [e];rintro r w' ⟨an,cn,ai,ci,a,b,c⟩;exact ⟨an,cn,ai,ci,a,b,c⟩
theorem Zm (x:Value) (w:World) (lo:Nat) (hlo:0<lo) (hR:Rep w lo w.heap.size (qf exD) x) (hT:Tabs w) :
 Calls Tryz.prog 16 #[x] w fun e w'=>∃ka kc ra rc ba bc,e=.returned (.tuple #[.agg #[.slice ka 0 kc,.slice ra 3 rc,.int .i64 0,.slice ba 0 bc,.int .i64 0,.string ⟨#[]⟩],.int .i64 0])/\eo w' ka ra ba/\Below w.heap.size w w':=by
 refine (lf (qf exD) x w lo hlo (vS (by rw [<- q6];exact pm.1)) hR hT).mono ?_;rw [du pm.1];rintro r w' ⟨ka,kc,ra,rc,ba,bc,a,d,b,c⟩;exact ⟨ka,kc,ra,rc,ba,bc,a,b.carry (J8 _) lz (fun _ _ _=>rfl),c⟩
theorem QX (ka ra ba:Option Addr) (kc rc bc q:Nat) (w:World) (hI:eo w ka ra ba) (hJ:DelegsIn w 0 w.heap.size exD none (some ⟨q,0,none⟩) none) :
 Calls Tryz.prog 17 #[.agg #[.slice ka 0 kc,.slice ra 3 rc,.int .i64 0,.slice ba 0 bc,.int .i64 0,.string ⟨#[]⟩],.agg #[.slice none 0 0,.slice (some ⟨q,0,none⟩) 3 3,.int .i64 0,.slice none 0 0,.int .i64 0,.string ⟨#[]⟩]] w fun e w'=>e=.returned (.bool true)/\Below w.heap.size w w':=by
 refine (mh [] exD.roles 0 0 [] ⟨#[]⟩ ka ra ba kc rc bc [] exD.roles 0 0 [] ⟨#[]⟩ none (some ⟨q,0,none⟩) none 0 3 0 w hI hJ vr.1 vr.1).mono ?_;rintro r w' ⟨a,b⟩;rw [J2 (by rfl)] at a;exact ⟨a,b⟩
def binS:ByteArray:=jV ppN 2 (yE vU 2)
theorem QJ (g:Nat) (w:World) (hT:Tabs w):Calls Tryz.prog 43 #[.agg #[.int .i64 1,.slice (some ⟨g,0,none⟩) 1 1,.int .i64 2,.string ppN],.string vU] w fun e w'=>e=.returned (.tuple #[.string binS,.int .i64 0])/\Below w.heap.size w w' :=
 dG 1 2 [gD 97] ppN vU (some ⟨g,0,none⟩) 1 w (by decide) (by decide) (by decide +kernel) (by decide) (by decide) hT
theorem lh (q g:Nat) (p:ByteArray) (L:List ByteArray) (w:World) (hI:DelegsIn w 0 w.heap.size exD none (some ⟨q,0,none⟩) none) (hL:qv w 0 w.heap.size (some ⟨g,0,none⟩) L) (hp:p.size<=100) (hl:L.length<=100) (h:(jP runes exD p).map (·.name)=L) (hT:Tabs w) :
 Calls Tryz.prog 49 #[.agg #[.slice none 0 0,.slice (some ⟨q,0,none⟩) 3 3,.int .i64 0,.slice none 0 0,.int .i64 0,.string ⟨#[]⟩],.string p,.slice (some ⟨g,0,none⟩) L.length L.length] w fun e w'=>e=.returned (.bool true)/\Below w.heap.size w w':=by
 refine (yX [] exD.roles 0 0 [] ⟨#[]⟩ p none (some ⟨q,0,none⟩) none 0 3 0 L (some ⟨g,0,none⟩) L.length w hI vr.1 lz (by omega) hT hL (by omega)).mono ?_;rintro r w' ⟨a,b⟩;rw [J2 (show (jP runes ⟨[],exD.roles,⟨0,⟨#[]⟩,⟨0,[]⟩⟩⟩ p).map (·.name)=L from h)] at a;exact ⟨a,b⟩
theorem iE (q g:Nat) (p:ByteArray) (L:List ByteArray) (w:World) (hI:DelegsIn w 0 w.heap.size exE none (some ⟨q,0,none⟩) none) (hL:qv w 0 w.heap.size (some ⟨g,0,none⟩) L) (hp:p.size<=100) (hl:L.length<=100) (h:(jP runes exE p).map (·.name)=L) (hT:Tabs w) :
 Calls Tryz.prog 49 #[.agg #[.slice none 0 0,.slice (some ⟨q,0,none⟩) 2 2,.int .i64 0,.slice none 0 0,.int .i64 0,.string ⟨#[]⟩],.string p,.slice (some ⟨g,0,none⟩) L.length L.length] w fun e w'=>e=.returned (.bool true)/\Below w.heap.size w w':=by
 refine (yX [] exE.roles 0 0 [] ⟨#[]⟩ p none (some ⟨q,0,none⟩) none 0 2 0 L (some ⟨g,0,none⟩) L.length w hI vr.2.1 lz (by omega) hT hL (by omega)).mono ?_;rintro r w' ⟨a,b⟩;rw [J2 (show (jP runes ⟨[],exE.roles,⟨0,⟨#[]⟩,⟨0,[]⟩⟩⟩ p).map (·.name)=L from h)] at a;exact ⟨a,b⟩
theorem i8 (q g:Nat) (w:World) (hI:qv w 0 w.heap.size (some ⟨q,0,none⟩) [gD 97]) (hL:qv w 0 w.heap.size (some ⟨g,0,none⟩) [binS]) (hT:Tabs w) :
 Calls Tryz.prog 49 #[.agg #[.slice none 0 0,.slice none 0 0,.int .i64 1,.slice (some ⟨q,0,none⟩) 1 1,.int .i64 2,.string ppN],.string vU,.slice (some ⟨g,0,none⟩) 1 1] w fun e w'=>e=.returned (.bool true)/\Below w.heap.size w w':=by
 refine (yX [] [] 1 2 [gD 97] ppN vU none none (some ⟨q,0,none⟩) 0 0 1 [binS] (some ⟨g,0,none⟩) 1 w ⟨.inl rfl,.inl rfl,hI⟩ vr.2.2 lz (by decide) hT hL (by decide)).mono ?_;rintro r w' ⟨a,b⟩;rw [J2 (show (jP runes ⟨[],[],⟨2,ppN,⟨1,[gD 97]⟩⟩⟩ vU).map (·.name)=[binS] from wN.2.2.2)] at a;exact ⟨a,b⟩
theorem g8 {w:World} {g:Nat} {x:ByteArray} (h:w.heap[g]?=some (.cells #[.string x] 9 (0,0))):qv w 0 w.heap.size (some ⟨g,0,none⟩) [x]:=by
 refine .inr ⟨g,0,rfl,J8 _,qx h,fun i hi=>?_⟩
 match i,hi with
 | 0,_=>exact qq h (j:=0) rfl
theorem aH {w:World} {g:Nat} {x y:ByteArray} (h:w.heap[g]?=some (.cells #[.string x,.string y] 9 (0,0))):qv w 0 w.heap.size (some ⟨g,0,none⟩) [x,y]:=by
 refine .inr ⟨g,0,rfl,J8 _,qx h,fun i hi=>?_⟩
 match i,hi with
 | 0,_=>exact qq h (j:=0) rfl
 | 1,_=>exact qq h (j:=1) rfl
theorem uu {x:DelegV} (h:qt x=true):DelegFits x:=by obtain ⟨c,-,⟨d,a⟩,⟨e,b⟩⟩:=kF h;exact ⟨by omega,mL (xP h).2.2.1,⟨by omega,fun s hs=>by have:=a s hs;omega⟩,⟨by omega,fun s hs=>by have:=b s hs;omega⟩⟩
end Go.Proofs.YthgembbgcbaghaaGreatDoor
