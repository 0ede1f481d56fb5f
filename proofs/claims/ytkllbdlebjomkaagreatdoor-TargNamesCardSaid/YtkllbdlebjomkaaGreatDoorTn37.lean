import Derived.Test.YtkllbdlebjomkaaGreatDoorTn36
set_option maxHeartbeats 8000000
set_option maxRecDepth 100000

namespace Go.Proofs.YtkllbdlebjomkaaGreatDoor
open Go.RowKit
theorem lV (
 l:List (ByteArray × RecV)) (a:Option Addr) (c:Nat) (w:World) (hA:qm w 0 w.heap.size a l) (hl:l.length<=1000000) (hz:∀p ∈ l,p.1.size<=1000000/\RecFits p.2) :
 Calls Tryz.prog 37 #[.slice a l.length c] w fun e w'=>e=.returned (.bool (qL l))/\O5 w w':=by
 have HK:=U hA;have HZ:=U hz;clear hA hz;by_cases h4:256<l.length
 . have B:=U (show qL l=false by unfold qL;rw [X0 (by omega)];rfl);have q2:decide (256<(l.length:Int))=true:=by simp;omega
   go_enter Tryz.func37,Tryz.ntmps37;go_wp2;go_ret;exact ⟨qx B.o.symm,Z0 _ _⟩
 have q2:decide (256<(l.length:Int))=false:=by simp;omega
 have HL:=U (show l.length<=256 by omega);clear h4;go_enter Tryz.func37,Tryz.ntmps37;go_wp2;go_loopw [3,4,10] (fun _ _ i wr=>∃k:Nat,k<=l.length/\i=.int .i64 k/\(∀j (h:j<l.length),j<k->(zu l[j].1 && zF l[j].2)=true)/\(∀j (_:1<=j) (h:j<l.length),j<k->Op.bytesLess l[j-1].1.toList l[j].1.toList=true)/\O5 w wr) (fun _ _ i _=>l.length - (intOf i).toNat)
 case atStart=>exact ⟨0,by omega,rfl,fun j _ h=>by omega,fun j _ _ h=>by omega,Z0 _ _⟩
 case round =>
  obtain ⟨k,hk,rfl,a1,a3,g⟩:=hrel;have V:=U a1;have Y:=U a3;have HB:=U g;clear a1 a3;by_cases hlt:k<l.length
  . obtain ⟨b,b2,ha,_,b0,N,x,I,e0,e1,e2,e3,e4,e5,e6,e7,v,J⟩:=(HK.o.below g lz lz g.size).at k hlt;subst ha;have A:=HZ.o l[k] (J8 hlt);have z:k=0\/(1<=k/\wr.cell? ⟨b,b2+(k - 1) * 8,none⟩=some (.string l[k-1].1)):=by
     by_cases h0:k=0
     . exact .inl h0
     . obtain ⟨b',b3,a8,_,_,_,_,_,x0,_⟩:=(HK.o.below g lz lz g.size).at (k - 1) (by omega);cases a8;exact .inr ⟨by omega,x0⟩
    have a7:=U z;obtain ⟨p,C⟩:=O1 (l[k]);rw [<- C] at e0 e1 e2 A J N v;have HS:=U C;clear g z C;obtain ⟨q,S,Q,b4⟩:=p;dsimp only at e0 e1 e2 A J N v;subst N;have G:=U (show (zu l[k].1 && zF l[k].2)=(zu q && zF ⟨S,Q,zeroJ⟩) by rw [<- HS.o]);have Z:=U (show l[k].1=q by rw [<- HS.o]);obtain ⟨K,H⟩:=O1 (wr.alloc (.cells #[.string q,.int .i64 S,.slice x Q.length I,.int .u8 0,.int .i64 0,.string ⟨#[]⟩,.slice none 0 0,.slice none 0 0] 34));have f:=O7 H
    have R:=O9 H
    have r:=U (O2 HB f);have a4:=U b0;have L:=U (show ∀w':World,O5 K w'->(w'.cell? ⟨wr.heap.size,0,none⟩=some (.string q)/\w'.cell? ⟨wr.heap.size,1,none⟩=some (.int .i64 S)/\w'.cell? ⟨wr.heap.size,2,none⟩=some (.slice x Q.length I)/\w'.cell? ⟨wr.heap.size,3,none⟩=some (.int .u8 0)/\w'.cell? ⟨wr.heap.size,4,none⟩=some (.int .i64 0)/\w'.cell? ⟨wr.heap.size,5,none⟩=some (.string ⟨#[]⟩)/\w'.cell? ⟨wr.heap.size,6,none⟩=some (.slice none 0 0)/\w'.cell? ⟨wr.heap.size,7,none⟩=some (.slice none 0 0))/\qJ w' 0 w'.heap.size x Q/\∀o,w'.cell? ⟨b,o,none⟩=wr.cell? ⟨b,o,none⟩ from fun w' h=>by
     have y:=(h.block _ (qz R)).trans R;exact ⟨⟨qq y rfl,qq y rfl,qq y rfl,qq y rfl,qq y rfl,qq y rfl,qq y rfl,qq y rfl⟩,J.below (f.trans (h.mono f.size)) lz lz (Z3 f.size h.size),fun o=>(f.trans (h.mono f.size)).cell a4.o⟩)
    have a5:=U A.2;have u:=U (fK q K (by have:=A.1;omega));have a0:=U H;clear H f R J A v;obtain ⟨⟨T,v1,v2,v3,v4,v5,v6,v7⟩,-,-⟩:=L.o K (Z0 _ _);go_upto_region 6 with fail
    rw [<- a0.o];clear a0 e0 e1 e2 e3 e4 e5 e6 e7;cases hr:zu q with
    | false => have B:=U (bI k hlt (by rw [G.o,hr];rfl));rw [hr] at u;clear hr;go_wp2_with fail;refine u.o.mono ?_;clear u T v1 v2 v3 v4 v5 v6 v7;rintro e w1 ⟨rfl,d⟩;have m:=U (O2 r d);clear d;go_wp2;go_ret;exact ⟨qx B.o.symm,m.o⟩
    | true =>
    rw [hr] at u G;clear hr;go_wp2_with fail;refine u.o.mono ?_;clear u T v1 v2 v3 v4 v5 v6 v7;rintro e w1 ⟨rfl,d⟩;have m:=U d;clear d;obtain ⟨⟨T,v1,v2,v3,v4,v5,v6,v7⟩,a2,-⟩:=L.o w1 m.o;have s:=U (iI S Q x I w1 a2 a5.o);clear a2;cases C:zF ⟨S,Q,zeroJ⟩ with
    | false => have B:=U (bI k hlt (by rw [G.o,C];rfl));rw [C] at s;clear C;go_wp2_with fail;refine s.o.mono ?_;clear s T v1 v2 v3 v4 v5 v6 v7;rintro e w3 ⟨rfl,d⟩;have E:=U (O2 r (O2 m d));clear d;go_wp2;go_ret;exact ⟨qx B.o.symm,E.o⟩
    | true =>
    have W:=U (show (zu l[k].1 && zF l[k].2)=true by rw [G.o,C];rfl);rw [C] at s;clear C;go_wp2_with fail;refine s.o.mono ?_;clear s T v1 v2 v3 v4 v5 v6 v7;rintro e w3 ⟨rfl,d⟩;have E:=U (O2 m d);have F:=U (r.o.trans (E.o.mono r.o.size));clear d;obtain ⟨⟨T,-,-,-,-,-,-,-⟩,-,M⟩:=L.o w3 E.o;rcases a7.o with h0|⟨h0,hc0⟩
    . subst h0;clear M;go_upto_region 8 with fail
      go_quiet (fail)
      go_wp2;go_roundw
      case rel =>
       refine ⟨1,by omega,by go_num,fun j hj hjk=>?_,fun j h1 hj hjk=>by omega,Below.drewN F.o _⟩;obtain rfl:j=0:=by omega
       exact W.o
      case measure=>simp [intOf];omega
    . have b1:=(M _).trans hc0;obtain ⟨D,P⟩:=O1 (l[k-1].1);rw [<- P] at b1;have X:=U P;have q5:0<k:=by omega
      clear hc0 P M;cases g:Op.bytesLess D.toList q.toList
      . have B:=U (mR k h0 hlt (by rw [<- X.o,Z.o];exact g));cases f:Op.bytesLess q.toList D.toList
        . have a9:(q.toList == D.toList)=true:=by simpa using wV _ _ f g
          clear g;go_upto_region 8 with fail
          go_quiet (fail)
          go_wp2;go_ret;exact ⟨qx B.o.symm,Below.drewN F.o _⟩
        . clear g;go_upto_region 8 with fail
          go_quiet (fail)
          go_wp2;go_ret;exact ⟨qx B.o.symm,Below.drewN F.o _⟩
      . have a6:=U g;have f:Op.bytesLess q.toList D.toList=false:=by
         cases h:Op.bytesLess q.toList D.toList with
         | false=>rfl
         | true=>have:=kQ _ _ _ h g;rw [zT] at this;cases this
        have a9:(
         q.toList == D.toList)=false:=by
         cases h:(q.toList == D.toList) with
         | false=>rfl
         | true =>
          have h2:q.toList=D.toList:=by simpa using h
          rw [h2,zT] at g;cases g
        clear g;go_upto_region 8 with fail
        go_quiet (fail)
        go_wp2;go_roundw
        case rel =>
         refine ⟨k+1,by omega,by go_num,fun j hj hjk=>?_,fun j h1 hj hjk=>?_,Below.drewN F.o _⟩
         . by_cases e:j=k
           . subst e;exact W.o
           . exact V.o j hj (by omega)
         . by_cases e:j=k
           . subst e;rw [<- X.o,Z.o];exact a6.o
           . exact Y.o j h1 hj (by omega)
        case measure=>simp [intOf];omega
  . have B:=U (dJ HL.o (fun j hj=>V.o j hj (by omega)) (fun j h1 hj=>Y.o j h1 hj (by omega)));clear g;go_wp2;go_ret;exact ⟨qx B.o.symm,HB.o⟩
open Go.Shelf Go.Sort
def wm (l:List (ByteArray × RecV)):List NJ:=l.map fun p=>(p.1,wM p.2)
theorem yu (l:List (ByteArray × RecV)):(wm l).length=l.length:=X7 ..
theorem eh (l:List (ByteArray × RecV)):(wm l).map (·.1)=l.map (·.1):=by unfold wm;rw [List.map_map];rfl
theorem eu (l:List (ByteArray × RecV)):jS l=.mk 5 0 ⟨#[]⟩ ((wm l).map (·.1)) ((wm l).map (·.2)):=rfl
def aG (nm:ByteArray) (an:Option Addr) (n cn:Nat) (ai:Option Addr) (ci:Nat):Mem:=⟨nm,5,0,⟨#[]⟩,an,n,cn,ai,n,ci⟩
theorem uy {l:List (ByteArray × RecV)} (h:qL l=true):l.length<=256/\(∀p ∈ l,zu p.1=true/\zF p.2=true)/\qd (l.map (·.1))=true:=by unfold qL fQ at h;simp only [J5,J1,X9] at h;exact ⟨h.1,fun p hp=>h.2.1 p hp,h.2.2⟩
theorem aB {r:RecV} (h:zF r=true):qP r.hs=true:=by unfold zF at h;simp only [J5] at h;exact h.2.2
theorem rA:qd [jz,kV,zS,kK]=true:=by decide +kernel
theorem QW {α:Type} (a b c d:α):[a,c,d,b].Perm [a,b,c,d] :=
 List.Perm.cons a (List.perm_append_comm (l₁:=[c,d]) (l₂:=[b]))
theorem fR (p8 r0:Int) (l:List (ByteArray × RecV)) (la:Option Addr) (lc:Nat) (w:World) (hA:qm w 0 w.heap.size la l) (hm:qL l=true) (hz:∀p ∈ l,p.1.size<=1000000/\RecFits p.2) (he:vZ r0=0) (r1:(jY r0).size<=1000) (r2:(jS l).wt<=4294967296) (hT:TabW w) (hP:zV w) :
 Calls Tryz.prog 22 #[.agg #[.int .i64 p8,.int .i64 r0,.slice la l.length lc,.slice none 0 0,.slice none 0 0,.int .i64 0,.slice none 0 0,.int .i64 0,.string ⟨#[]⟩]] w (pU (xc p8 r0 l) w):=by
 obtain ⟨hl,k0,k2⟩:=uy hm;obtain ⟨W,hW⟩:=O1 ((w.alloc (.cells #[.int .i64 p8,.int .i64 r0,.slice la l.length lc,.slice none 0 0,.slice none 0 0,.int .i64 0,.slice none 0 0,.int .i64 0,.string ⟨#[]⟩] 45)).alloc (.cells #[.int .u8 0,.int .i64 0,.string ⟨#[]⟩,.slice none 0 0,.slice none 0 0] 26));have k6:(w.alloc (.cells #[.int .i64 p8,.int .i64 r0,.slice la l.length lc,.slice none 0 0,.slice none 0 0,.int .i64 0,.slice none 0 0,.int .i64 0,.string ⟨#[]⟩] 45)).heap.size=w.heap.size+1:=by simp
 have s:O5 w W:=by rw [hW];exact (O4).alloc (by simp) _
 have hx:W.heap[w.heap.size]?=some (.cells #[.int .i64 p8,.int .i64 r0,.slice la l.length lc,.slice none 0 0,.slice none 0 0,.int .i64 0,.slice none 0 0,.int .i64 0,.string ⟨#[]⟩] 45 (0,0)):=by rw [hW];exact qO w _ _
 have f4:W.rowIs (w.heap.size+1) 26 5 (qo (.int .u8 0) (.int .i64 0) (.string ⟨#[]⟩) (.slice none 0 0) (.slice none 0 0)):=(by have:=qg (w.alloc (.cells #[.int .i64 p8,.int .i64 r0,.slice la l.length lc,.slice none 0 0,.slice none 0 0,.int .i64 0,.slice none 0 0,.int .i64 0,.string ⟨#[]⟩] 45)) (.int .u8 0) (.int .i64 0) (.string ⟨#[]⟩) (.slice none 0 0) (.slice none 0 0) 26;rw [k6,<- hW] at this;exact this);have HC:=U (show ∀w':World,O5 W w'->w'.cell? ⟨w.heap.size,0,none⟩=some (.int .i64 p8)/\w'.cell? ⟨w.heap.size,1,none⟩=some (.int .i64 r0)/\w'.cell? ⟨w.heap.size,2,none⟩=some (.slice la l.length lc)/\w'.cell? ⟨w.heap.size,3,none⟩=some (.slice none 0 0)/\w'.cell? ⟨w.heap.size,4,none⟩=some (.slice none 0 0)/\w'.cell? ⟨w.heap.size,5,none⟩=some (.int .i64 0)/\w'.cell? ⟨w.heap.size,6,none⟩=some (.slice none 0 0)/\w'.cell? ⟨w.heap.size,7,none⟩=some (.int .i64 0)/\w'.cell? ⟨w.heap.size,8,none⟩=some (.string ⟨#[]⟩) from fun w' h=>by
  have y:=(h.block _ (qz hx)).trans hx;exact ⟨qq y rfl,qq y rfl,qq y rfl,qq y rfl,qq y rfl,qq y rfl,qq y rfl,qq y rfl,qq y rfl⟩)
 have h8:=U f4;have HB:=U s;have a7:=O0 (w.heap.size+2<=W.heap.size) f4.lt;have HW:=U hW;have m1:=O0 (∀w':World,_) (fun w'=>(uY p8 w').mono fun e w2 (h:e=.returned (.agg #[.int .u8 2,.int .i64 p8,.string ⟨#[]⟩,.slice none 0 0,.slice none 0 0])/\w2=w'.alloc (.cells #[.int .u8 2,.int .i64 p8,.string ⟨#[]⟩,.slice none 0 0,.slice none 0 0] 26))=>show e=.returned (.agg #[.int .u8 2,.int .i64 p8,.string ⟨#[]⟩,.slice none 0 0,.slice none 0 0])/\O5 w' w2 from ⟨h.1,by rw [h.2];exact O4⟩);have HA:=O0 (∀w':World,O5 W w'->qm w' 0 w'.heap.size la l) (fun w' h=>hA.below (s.trans (h.mono s.size)) lz lz (Z3 s.size h.size));have a5:=U (cR r0 W (hT.below s) (hP.below s));rw [he] at a5;have h7:=U k0;have m5:=U k2;have n6:=U hz;have n2:=U r2;have g4:=U r1;have HJ:=O0 (xc p8 r0 l=qN [(jz,txtJ zS),(kV,txtJ (jY r0)),(zS,jS l),(kK,qB p8)]) rfl;obtain ⟨J,hJ⟩:=O1 (xc p8 r0 l);rw [<- hJ] at HJ ⊢;obtain ⟨z,c5⟩:=O1 (jY r0);rw [<- c5] at HJ a5 g4;have p1:0<W.heap.size:=by have:=a7.o;omega
 clear hW s hx f4 k6 hA hm hz he r2 hT hP hJ r1 c5 k0 k2;obtain ⟨q0,q1,q2,q3,q4,q5,q6,q7,q8⟩:=HC.o W (Z0 _ _);go_enter Tryz.func22,Tryz.ntmps22;go_upto_region 1 with fail
 rw [<- HW.o];clear HW;go_wp2_with fail;refine a5.o.mono ?_;clear a5 q0 q1 q2 q3 q4 q5 q6 q7 q8;rintro e w1 ⟨rfl,i6⟩;have a2:=U i6;clear i6;obtain ⟨q0,q1,q2,q3,q4,q5,q6,q7,q8⟩:=HC.o w1 a2.o;obtain ⟨i1,i8,k3,k4,k5⟩:=V2 jm;have d6:W.heap.size<=w1.heap.size:=a2.o.size;go_upto_region 5 with (at_make;refine wpList_make_own _ rfl (.const (.int .i64 0)) (.tmp 27) 104 rfl W.heap.size 102 i1 _ 6 G1 i8 k3 k4 .i64 .i64 _ l.length rfl rfl rfl (by rw [k5];omega) (by unfold maxLen;omega) d6 ?_;intro w4 hown4 hgrow4;have h5:=U hown4;have c7:=U (below_grown (v:=.slice none 0 0) a2.o d6 hgrow4 (fun b s=>by cases s));obtain ⟨q0,q1,q2,q3,q4,q5,q6,q7,q8⟩:=HC.o w4 c7.o;clear hown4 hgrow4)
 go_wp2_with fail
 clear q0 q1 q2 q3 q4 q5 q6 q7 q8;go_loopw [6,8,9,10,32] (fun s6 _ _ _ i wr=>∃k:Nat,k<=l.length/\i=.int .i64 k/\(∃g cap,s6=.slice (some ⟨g,0,none⟩) k cap)/\fL W.heap.size wr s6 (wm (l.take k))/\O5 W wr) (fun _ _ _ _ i _=>l.length - (intOf i).toNat)
 case atStart=>exact ⟨0,by omega,rfl,⟨_,_,rfl⟩,⟨[],⟨by simpa [zg] using h5.o,rfl,fun i h=>by simp [wm] at h⟩,rfl⟩,c7.o⟩
 case round =>
  obtain ⟨k,hk,rfl,p2,d7,s⟩:=hrel;have L:=U s;have a4:=U d7;clear h5 c7 a2 d6;obtain ⟨g0,B,rfl⟩:=p2;by_cases a1:k<l.length
  . obtain ⟨b1,o1,o3,-,p4,f3,b4,b5,e0,e1,e2,e3,e4,e5,e6,e7,a0,b7⟩:=(HA.o wr s).at k a1;subst o3;have c3:=n6.o l[k] (J8 a1);have c0:=(h7.o l[k] (J8 a1)).2;have a6:=U (show wm (l.take (k+1))=wm (l.take k) ++ [(l[k].1,wM l[k].2)] by rw [Z7 a1];unfold wm;rw [K6];rfl);obtain ⟨p,hp⟩:=O1 (l[k]);rw [<- hp] at e0 e1 e2 c3 b7 f3 a0 a6 c0;clear hp;obtain ⟨s0,ln,hs,p6⟩:=p;dsimp only at e0 e1 e2 c3 b7 f3 a0 a6 c0;subst f3;obtain ⟨ms,j1,j3,j0⟩:=a4.o.len;have d2:=U j1;have m0:=U j3;have h0:=U (show ms.length=k by rw [j0,yu,M3];omega);obtain ⟨E,b0⟩:=O1 (wr.alloc (.cells #[.string s0,.int .i64 ln,.slice b4 hs.length b5,.int .u8 0,.int .i64 0,.string ⟨#[]⟩,.slice none 0 0,.slice none 0 0] 34));have Z:=O7 b0
    have c2:=O9 b0
    have g3:=U (show ∀w':World,O5 E w'->w'.cell? ⟨wr.heap.size,0,none⟩=some (.string s0)/\w'.cell? ⟨wr.heap.size,1,none⟩=some (.int .i64 ln)/\w'.cell? ⟨wr.heap.size,2,none⟩=some (.slice b4 hs.length b5)/\w'.cell? ⟨wr.heap.size,3,none⟩=some (.int .u8 0)/\w'.cell? ⟨wr.heap.size,4,none⟩=some (.int .i64 0)/\w'.cell? ⟨wr.heap.size,5,none⟩=some (.string ⟨#[]⟩)/\w'.cell? ⟨wr.heap.size,6,none⟩=some (.slice none 0 0)/\w'.cell? ⟨wr.heap.size,7,none⟩=some (.slice none 0 0) from fun w' h=>by
     have y:=(h.block _ (qz c2)).trans c2;exact ⟨qq y rfl,qq y rfl,qq y rfl,qq y rfl,qq y rfl,qq y rfl,qq y rfl,qq y rfl⟩)
    have i0:=U (lK ln hs b4 b5 E (b7.below Z lz lz Z.size) c3.2 c0);have d0:=U (O2 L Z);have h4:=U (d2.o.below Z);have i3:=U b0;have n4:=U (qz c2);have m2:=O0 (g0<wr.heap.size) (((d2.o.own).lt g0 rfl).2);clear d7 s j1 j3 j0 b0 Z c2 b7 c3 c0 a0 d2 a4;obtain ⟨v0,v1,v2,v3,v4,v5,v6,v7⟩:=g3.o E (Z0 _ _);go_upto_region 8 with fail
    rw [<- i3.o];clear i3 e0 e1 e2 e3 e4 e5 e6 e7;go_wp2_with fail;refine i0.o.mono ?_;clear i0 v0 v1 v2 v3 v4 v5 v6 v7;rintro e x ⟨S,X,R,T,rfl,u,C⟩;rw [show (wM ⟨ln,hs,zeroJ⟩).names.length=2 from rfl,show (wM ⟨ln,hs,zeroJ⟩).items.length=2 from rfl];replace u:Rep x E.heap.size x.heap.size (wM ⟨ln,hs,zeroJ⟩) (.agg #[.int .u8 5,.int .i64 0,.string ⟨#[]⟩,.slice S 2 X,.slice R 2 T]):=u;obtain ⟨G,b2⟩:=O1 (x.alloc (.cells #[.int .u8 5,.int .i64 0,.string ⟨#[]⟩,.slice S 2 X,.slice R 2 T] 26));have f2:=O7 b2
    have f6:=O9 b2
    have H:O5 E G:=C.trans (f2.mono C.size);have A:=U (O2 d0 H);have g5:=U (h4.o.below H);have h9:=O0 (Rep G E.heap.size x.heap.size (wM ⟨ln,hs,zeroJ⟩) (.agg #[.int .u8 5,.int .i64 0,.string ⟨#[]⟩,.slice S 2 X,.slice R 2 T])) (u.below f2 lz lz lz);have Q:=O0 (W.heap.size<=wr.heap.size/\wr.heap.size<E.heap.size/\E.heap.size<=x.heap.size/\x.heap.size<G.heap.size) (⟨L.o.size,n4.o,C.size,qz f6⟩);have n5:=U f6;have i4:=U b2;obtain ⟨v0,-⟩:=g3.o G H;clear b2 f2 u C H h4 d0 f6;go_upto_region 9 with fail
    rw [<- i4.o];clear i4;obtain ⟨z0,z1,z2,z3,z4⟩:=bx5 n5.o;obtain ⟨WA,a9⟩:=O1 (G.alloc (.cells #[.string s0,.int .u8 5,.int .i64 0,.string ⟨#[]⟩,.slice S 2 X,.slice R 2 T] 102));have b3:=O7 a9
    have f5:=O9 a9
    have g7:=U (g5.o.below b3);have m4:=O0 (Rep WA E.heap.size x.heap.size (wM ⟨ln,hs,zeroJ⟩) (.agg #[.int .u8 5,.int .i64 0,.string ⟨#[]⟩,.slice S 2 X,.slice R 2 T])) (h9.o.below b3 (by have:=Q.o;omega) lz lz);have g1:=U (O2 A b3);have n3:=U f5;have n1:=U a9;have i2:=O0 (G.heap.size<WA.heap.size) (qz f5);have p3:W.heap.size<=WA.heap.size:=g1.o.size;have d3:=O0 (WA.ownsRow W.heap.size 102 6 (.slice (some ⟨g0,0,none⟩) k B) k (zg ms)) (by have:=g7.o.own;rwa [h0.o] at this);clear a9 b3 f5 g5 h9;go_upto_region 12 with (at_builtin;rw [<- n1.o];(refine Y1 _ rfl (.tmp 46) (.tmp 51) 104 rfl W.heap.size 102 i1 _ 6 96 G1 i8 k3 k4 k5 rfl (by omega) (.slice (some ⟨g0,0,none⟩) k B) k (zg ms) rfl d3.o ⟨G.heap.size,0,none⟩ 1 1 (qY (aG s0 S 2 X R T)) rfl rfl (J9 (cs:=#[.string s0,.int .u8 5,.int .i64 0,.string ⟨#[]⟩,.slice S 2 X,.slice R 2 T]) (t:=102) (fr:=(0,0)) n3.o) (xh _) (by omega) (by unfold maxLen;omega) (by omega) (by have:=i2.o;have:=Q.o;omega) WA.heap.size (by omega) ?_);intro g2 cap2 w7 hown6 hgrow6 hat6 hlt6;have h6:=U hown6;have d1:=U hgrow6;have f7:=U hat6;clear hown6 hgrow6 hat6)
    have l3:=U (show fL W.heap.size w7 (.slice (some ⟨g2,0,none⟩) (k+1) cap2) (wm (l.take (k+1))) from by
     have j2:=g7.o.snoc (v':=.slice (some ⟨g2,0,none⟩) (k+1) cap2) (aG s0 S 2 X R T) (wM ⟨ln,hs,zeroJ⟩) E.heap.size x.heap.size (by have:=Q.o;omega) (by have:=Q.o;have:=i2.o;omega) (fun b s=>by simp only [Value.ownBlock,V0] at s;have:=Q.o;have:=m2.o;omega) m4.o d1.o (by rw [h0.o];exact h6.o) (by
      rcases f7.o with h|h
      . exact .inl h.symm
      . exact .inr ⟨g2,rfl,by omega⟩)
     exact ⟨ms ++ [aG s0 S 2 X R T],by rw [a6.o];simpa using j2,by rw [a6.o,K6,K6,m0.o];rfl⟩)
    have l2:=U (below_grown g1.o p3 d1.o (fun b s=>(d3.o.lt b s).1));clear h6 d1 f7 d3 z0 z1 z2 z3 z4 v0;go_wp2;go_roundw
    case rel=>exact ⟨k+1,by omega,by go_num,⟨g2,cap2,rfl⟩,l3.o,l2.o⟩
    case measure=>simp [intOf];omega
  . obtain rfl:k=l.length:=by omega
    have P:=U (wj (wm l) (by have:=a4.o;rwa [zc0] at this) ⟨g0,B,by rw [yu]⟩ (List.Perm.refl _) (by rw [eh];exact m5.o) (by rw [yu];omega) (fun p hp=>by
     obtain ⟨q,hq,rfl⟩:=H7.1 hp;exact Z3 (nY (aB (h7.o q hq).2)) (by decide)) p1)
    clear d7 s;go_upto_region 13 with fail
    go_wp2_with fail
    refine P.o.mono ?_;clear P a4;rintro r x ⟨c,m,a,f,rfl,u,C⟩;rw [<- eu] at u;simp only [X7,yu] at u ⊢;obtain ⟨F,a8⟩:=O1 (x.alloc (.cells #[.int .u8 5,.int .i64 0,.string ⟨#[]⟩,.slice c l.length m,.slice a l.length f] 26));have D:=O7 a8
    have c1:=O9 a8
    have c6:O5 wr F:=C.trans (D.mono C.size);have A:=U (O2 L c6);have m6:=O0 (∀w':World,O5 F w'->Rep w' W.heap.size w'.heap.size (jS l) (.agg #[.int .u8 5,.int .i64 0,.string ⟨#[]⟩,.slice c l.length m,.slice a l.length f])) (fun w' h=>u.below (D.trans (h.mono D.size)) lz L.o.size (Z3 D.size h.size));obtain ⟨b6,f0⟩:=O1 x.heap.size;rw [<- f0] at c1;have M:=U (show ∀w':World,O5 F w'->(w'.cell? ⟨w.heap.size,0,none⟩=some (.int .i64 p8)/\w'.cell? ⟨w.heap.size,1,none⟩=some (.int .i64 r0)/\w'.cell? ⟨w.heap.size,2,none⟩=some (.slice la l.length lc)/\w'.cell? ⟨w.heap.size,3,none⟩=some (.slice none 0 0)/\w'.cell? ⟨w.heap.size,4,none⟩=some (.slice none 0 0)/\w'.cell? ⟨w.heap.size,5,none⟩=some (.int .i64 0)/\w'.cell? ⟨w.heap.size,6,none⟩=some (.slice none 0 0)/\w'.cell? ⟨w.heap.size,7,none⟩=some (.int .i64 0)/\w'.cell? ⟨w.heap.size,8,none⟩=some (.string ⟨#[]⟩))/\w'.cell? ⟨b6,0,none⟩=some (.int .u8 5)/\w'.cell? ⟨b6,1,none⟩=some (.int .i64 0)/\w'.cell? ⟨b6,2,none⟩=some (.string ⟨#[]⟩)/\w'.cell? ⟨b6,3,none⟩=some (.slice c l.length m)/\w'.cell? ⟨b6,4,none⟩=some (.slice a l.length f) from fun w' h=>by
     have y:=(h.block _ (qz c1)).trans c1;exact ⟨HC.o w' (O2 A h),qq y rfl,qq y rfl,qq y rfl,qq y rfl,qq y rfl⟩)
    have d4:=U (And.intro a8 f0);clear a8 D c1 c6 u C f0;go_upto_region 16 with fail
    rw [<- d4.o.1,<- d4.o.2];clear d4;obtain ⟨V,hV⟩:∃V:List MP,V=[.con (.agg #[.int .u8 3,.int .i64 0,.string ⟨#[116,97,114,103,101,116,115]⟩,.slice none 0 0,.slice none 0 0]),.con (.agg #[.string ⟨#[95,116,121,112,101]⟩,.int .u8 3,.int .i64 0,.string ⟨#[116,97,114,103,101,116,115]⟩,.slice none 0 0,.slice none 0 0]),.con (.pointer (some ⟨w.heap.size,0,none⟩)),.con (.int .i64 p8),.con (.agg #[.int .u8 2,.int .i64 p8,.string ⟨#[]⟩,.slice none 0 0,.slice none 0 0]),.con (.agg #[.string ⟨#[118,101,114,115,105,111,110]⟩,.int .u8 2,.int .i64 p8,.string ⟨#[]⟩,.slice none 0 0,.slice none 0 0]),.con (.string z),.con (.agg #[.int .u8 3,.int .i64 0,.string z,.slice none 0 0,.slice none 0 0]),.con (.agg #[.string ⟨#[101,120,112,105,114,101,115]⟩,.int .u8 3,.int .i64 0,.string z,.slice none 0 0,.slice none 0 0]),.con (.agg #[.int .u8 5,.int .i64 0,.string ⟨#[]⟩,.slice c l.length m,.slice a l.length f]),.con (.agg #[.string ⟨#[116,97,114,103,101,116,115]⟩,.int .u8 5,.int .i64 0,.string ⟨#[]⟩,.slice c l.length m,.slice a l.length f]),.row F.heap.size 4 102 #[.string ⟨#[95,116,121,112,101]⟩,.int .u8 3,.int .i64 0,.string ⟨#[116,97,114,103,101,116,115]⟩,.slice none 0 0,.slice none 0 0,.string ⟨#[118,101,114,115,105,111,110]⟩,.int .u8 2,.int .i64 p8,.string ⟨#[]⟩,.slice none 0 0,.slice none 0 0,.string ⟨#[101,120,112,105,114,101,115]⟩,.int .u8 3,.int .i64 0,.string z,.slice none 0 0,.slice none 0 0,.string ⟨#[116,97,114,103,101,116,115]⟩,.int .u8 5,.int .i64 0,.string ⟨#[]⟩,.slice c l.length m,.slice a l.length f]]:=⟨_,rfl⟩;have o:=U hV;clear hV;refine qH 12 (fun d a' w'=>∃x63 x64 x65 x66 x67 x68 x69 x70 x71 x72 x73 x74,a'=⟨#[Value.agg #[Value.int IntKind.i64 p8,Value.int IntKind.i64 r0,Value.slice la l.length lc,Value.slice none 0 0,Value.slice none 0 0,Value.int IntKind.i64 0,Value.slice none 0 0,Value.int IntKind.i64 0,Value.string ⟨#[]⟩],Value.pointer (some { block:=w.heap.size,off:=0 }),Value.pointer (some { block:=w.heap.size+1,off:=0 }),u3,Value.string z,Value.int IntKind.i64 0,Value.slice (some { block:=g0,off:=0 }) l.length B,undef,u8,u9,u10,Value.pointer (some { block:=b6,off:=0 }),undef,undef,undef,Value.tuple #[Value.string z,Value.int IntKind.i64 0],Value.pointer (some { block:=w.heap.size,off:=1 }),Value.int IntKind.i64 r0,Value.tuple #[Value.string z,Value.int IntKind.i64 0],Value.string z,Value.int IntKind.i64 0,Value.int IntKind.i64 0,Value.bool false,undef,undef,Value.pointer (some { block:=w.heap.size,off:=2 }),Value.slice la l.length lc,Value.int IntKind.i64 (l.length:Int),Value.slice (some { block:=w1.heap.size,off:=0 }) 0 l.length,Value.pointer (some { block:=w.heap.size,off:=2 }),Value.slice la l.length lc,Value.int IntKind.i64 (l.length:Int),Value.int IntKind.i64 (l.length:Int),Value.bool false,u34,u35,u36,u37,u38,u39,u40,u41,u42,u43,u44,u45,u46,u47,u48,u49,u50,u51,u52,u53,Value.tuple #[Value.agg #[Value.int IntKind.u8 5,Value.int IntKind.i64 0,Value.string ⟨#[]⟩,Value.slice c l.length m,Value.slice a l.length f],Value.int IntKind.i64 0],Value.slice (some { block:=g0,off:=0 }) l.length B,Value.tuple #[Value.agg #[Value.int IntKind.u8 5,Value.int IntKind.i64 0,Value.string ⟨#[]⟩,Value.slice c l.length m,Value.slice a l.length f],Value.int IntKind.i64 0],Value.agg #[Value.int IntKind.u8 5,Value.int IntKind.i64 0,Value.string ⟨#[]⟩,Value.slice c l.length m,Value.slice a l.length f],Value.int IntKind.i64 0,Value.int IntKind.i64 0,Value.bool false,undef,undef,x63,x64,x65,x66,x67,x68,x69,x70,x71,x72,x73,x74,undef,undef,undef,undef,undef,undef,undef,undef,undef,undef,undef,undef,undef,undef,undef,undef,undef,undef,undef,undef,undef,undef,undef],[]⟩/\zi F V d w' [x63,x64,x65,x66,x67,x68,x69,x70,x71,x72,x73,x74]) (by kernel_rfl) (by kernel_rfl) ?first ?step ?last
    case first=>exact ⟨_,_,_,_,_,_,_,_,_,_,_,_,rfl,zi.first _ _ _ (by rw [o.o];rfl)⟩
    case step =>
     rintro d a' w' ⟨x63,x64,x65,x66,x67,x68,x69,x70,x71,x72,x73,x74,rfl,h⟩ q hq hn hw;rcases q with _|_|_|_|_|_|_|_|_|_|_|_|q
     . obtain ⟨⟨q0,q1,q2,q3,q4,q5,q6,q7,q8⟩,y0,y1,y2,y3,y4⟩:=M.o w' h.1;refine Z4 rfl fun K hK=>?_;go_simp;refine (gI _ w').mono ?_;rintro e w2 ⟨rfl,Y⟩;exact hK _ _ ⟨_,_,_,_,_,_,_,_,_,_,_,_,rfl,h.didC Y 0 _ o rfl⟩
     . obtain rfl:=h.cn hw o 0 .data;refine Z4 rfl fun K hK=>?_;go_simp;exact hK _ _ ⟨_,_,_,_,_,_,_,_,_,_,_,_,rfl,h.sameC 1 _ o rfl⟩
     . refine Z4 rfl fun K hK=>?_;go_simp;exact hK _ _ ⟨_,_,_,_,_,_,_,_,_,_,_,_,rfl,h.sameC 2 _ o rfl⟩
     . obtain rfl:=h.cn hw o 2 .data;obtain ⟨⟨q0,q1,q2,q3,q4,q5,q6,q7,q8⟩,y0,y1,y2,y3,y4⟩:=M.o w' h.1;refine Z4 rfl fun K hK=>?_;go_simp;exact hK _ _ ⟨_,_,_,_,_,_,_,_,_,_,_,_,rfl,h.sameC 3 _ o rfl⟩
     . obtain rfl:=h.cn hw o 3 .data;obtain ⟨⟨q0,q1,q2,q3,q4,q5,q6,q7,q8⟩,y0,y1,y2,y3,y4⟩:=M.o w' h.1;refine Z4 rfl fun K hK=>?_;go_simp;refine (m1.o w').mono ?_;rintro e w2 ⟨rfl,Y⟩;exact hK _ _ ⟨_,_,_,_,_,_,_,_,_,_,_,_,rfl,h.didC Y 4 _ o rfl⟩
     . obtain rfl:=h.cn hw o 4 .data;refine Z4 rfl fun K hK=>?_;go_simp;exact hK _ _ ⟨_,_,_,_,_,_,_,_,_,_,_,_,rfl,h.sameC 5 _ o rfl⟩
     . refine Z4 rfl fun K hK=>?_;go_simp;exact hK _ _ ⟨_,_,_,_,_,_,_,_,_,_,_,_,rfl,h.sameC 6 _ o rfl⟩
     . obtain rfl:=h.cn hw o 6 .data;obtain ⟨⟨q0,q1,q2,q3,q4,q5,q6,q7,q8⟩,y0,y1,y2,y3,y4⟩:=M.o w' h.1;refine Z4 rfl fun K hK=>?_;go_simp;refine (gI z w').mono ?_;rintro e w2 ⟨rfl,Y⟩;exact hK _ _ ⟨_,_,_,_,_,_,_,_,_,_,_,_,rfl,h.didC Y 7 _ o rfl⟩
     . obtain rfl:=h.cn hw o 7 .data;refine Z4 rfl fun K hK=>?_;go_simp;exact hK _ _ ⟨_,_,_,_,_,_,_,_,_,_,_,_,rfl,h.sameC 8 _ o rfl⟩
     . obtain ⟨⟨q0,q1,q2,q3,q4,q5,q6,q7,q8⟩,y0,y1,y2,y3,y4⟩:=M.o w' h.1;refine Z4 rfl fun K hK=>?_;go_simp;exact hK _ _ ⟨_,_,_,_,_,_,_,_,_,_,_,_,rfl,h.sameC 9 _ o rfl⟩
     . obtain rfl:=h.cn hw o 9 .data;refine Z4 rfl fun K hK=>?_;go_simp;exact hK _ _ ⟨_,_,_,_,_,_,_,_,_,_,_,_,rfl,h.sameC 10 _ o rfl⟩
     . obtain rfl:=h.cn hw o 1 .data;obtain rfl:=h.cn hw o 5 .data;obtain rfl:=h.cn hw o 8 .data;obtain rfl:=h.cn hw o 10 .data;refine Z4 rfl fun K hK=>?_;go_simp;exact hK _ _ ⟨_,_,_,_,_,_,_,_,_,_,_,_,rfl,h.new _ 11 _ (.row F.heap.size 4 102 #[.string ⟨#[95,116,121,112,101]⟩,.int .u8 3,.int .i64 0,.string ⟨#[116,97,114,103,101,116,115]⟩,.slice none 0 0,.slice none 0 0,.string ⟨#[118,101,114,115,105,111,110]⟩,.int .u8 2,.int .i64 p8,.string ⟨#[]⟩,.slice none 0 0,.slice none 0 0,.string ⟨#[101,120,112,105,114,101,115]⟩,.int .u8 3,.int .i64 0,.string z,.slice none 0 0,.slice none 0 0,.string ⟨#[116,97,114,103,101,116,115]⟩,.int .u8 5,.int .i64 0,.string ⟨#[]⟩,.slice c l.length m,.slice a l.length f]) (by rw [o.o];rfl) (vQ.made _ h.1.size)⟩
     . omega
    case last =>
     rintro d a' w' c4 ⟨x63,x64,x65,x66,x67,x68,x69,x70,x71,x72,x73,x74,rfl,h⟩;have i9:=h.1;obtain ⟨d5,k7,rfl,l0⟩:=h.get 11 (c4 _ (by omega)) (.row F.heap.size 4 102 #[.string ⟨#[95,116,121,112,101]⟩,.int .u8 3,.int .i64 0,.string ⟨#[116,97,114,103,101,116,115]⟩,.slice none 0 0,.slice none 0 0,.string ⟨#[118,101,114,115,105,111,110]⟩,.int .u8 2,.int .i64 p8,.string ⟨#[]⟩,.slice none 0 0,.slice none 0 0,.string ⟨#[101,120,112,105,114,101,115]⟩,.int .u8 3,.int .i64 0,.string z,.slice none 0 0,.slice none 0 0,.string ⟨#[116,97,114,103,101,116,115]⟩,.int .u8 5,.int .i64 0,.string ⟨#[]⟩,.slice c l.length m,.slice a l.length f]) (by rw [o.o];rfl) _ rfl;have a3:=U i9;clear h c4 i9 o;have h3:=U (show MemsAt W.heap.size w' (.slice (some ⟨d5,0,none⟩) 4 4) [xP jz zS,jr kK p8,xP kV z,aG zS c l.length m a f] [txtJ zS,qB p8,txtJ z,jS l] from by
      have h2:=l0;have h1:=k7;have a1:=qz h2;have p7:=A.o.size;refine ⟨⟨rfl,.inr ⟨d5,4,_,rfl,by omega,h2,J2 _,by unfold maxLen;omega,rfl,?_⟩⟩,rfl,fun i hi=>?_⟩
      . simp [zg,qY,xP,jr,aG,jz,zS,kK,kV]
      . match i,hi with
        | 0,_=>exact ⟨W.heap.size,W.heap.size,J2 _,by omega,fun b s=>by omega,jZ _ _ _ _⟩
        | 1,_=>exact ⟨W.heap.size,W.heap.size,J2 _,by omega,fun b s=>by omega,gp _ _ _ _⟩
        | 2,_=>exact ⟨W.heap.size,W.heap.size,J2 _,by omega,fun b s=>by omega,jZ _ _ _ _⟩
        | 3,_=>exact ⟨W.heap.size,F.heap.size,J2 _,a3.o.size,fun b s=>by simp only [Value.ownBlock,V0] at s;omega,(m6.o F (Z0 _ _)).carry lz lz (fun b _ hbg=>a3.o.block b hbg)⟩)
     have f8:=U (A.o.trans (a3.o.mono A.o.size));clear l0 k7;obtain ⟨⟨q0,q1,q2,q3,q4,q5,q6,q7,q8⟩,-⟩:=M.o w' a3.o;go_wp2_with fail;refine (rk w').mono ?_;clear q0 q1 q2 q3 q4 q5 q6 q7 q8;rintro e w4 ⟨rfl,e8⟩;have c9:=U (O2 f8 e8);have P:=U (wj (v:=.slice (some ⟨d5,0,none⟩) 4 4) [(jz,txtJ zS),(kV,txtJ z),(zS,jS l),(kK,qB p8)] (N:=[(jz,txtJ zS),(kK,qB p8),(kV,txtJ z),(zS,jS l)]) ⟨_,by simpa using h3.o.below e8,by simp [xP,jr,aG]⟩ ⟨_,_,rfl⟩ (QW _ _ _ _) rA (by simp) (fun p hp=>by
      simp only [V6,V1,za4] at hp;rcases hp with rfl|rfl|rfl|rfl
      . show (txtJ zS).wt<=4294967296;rw [xY];decide
      . show (txtJ z).wt<=4294967296;rw [xY];have:=g4.o;omega
      . exact n2.o
      . show (qB _).wt<=4294967296;rw [vL];decide) (by have:=a7.o;omega))
     clear e8 h3;go_wp2_with fail;refine P.o.mono ?_;clear P;rintro e w8 ⟨n8,o2,n7,n9,rfl,k1,i7⟩;have f1:O5 W w8:=O2 c9 i7;have I:=qj f1 h8.o h8.o.lt;have n0:=U I;have m3:=U k1;have l1:=U (O2 HB f1);have i5:=O0 (W.heap.size<=w4.heap.size) c9.o.size;obtain ⟨t0,t1,t2,t3,t4⟩:=rc5 I;obtain ⟨s0,s1,s2,s3,s4⟩:=rf5 I;simp only [qo] at t0 t1 t2 t3 t4;clear I k1 i7 f1;go_wp2;refine Z8 (qk Tryz.results22 _ _ (w.heap.size+1) 26 _ (0,0) _ rfl (qr (set5 _ _ _ _ _ n0.o)) J7 rfl (by kernel_rfl) _ rfl) rfl ?_;rw [HJ.o];refine ⟨n8,o2,n7,n9,rfl,?_,zf _ _ _ _ _ l1.o (by omega)⟩;exact Rep.carry (by have:=a7.o;have:=i5.o;omega) (show w8.heap.size<=_ by simp [World.setCell]) (fun j hj _=>xJ _ _ _ _ _ (by have:=a7.o;have:=i5.o;omega)) _ _ m3.o
theorem ch (a0 a1:Int) (l:List (ByteArray × RecV)) (la ka ra ba:Option Addr) (lc kn kc rn rc bn bc:Nat) (a4 a2:Int) (a3:ByteArray) (bD:Bool) (w:World) (hA:qm w 0 w.heap.size la l) (hl:l.length<=1000000) (hz:∀p ∈ l,p.1.size<=1000000/\RecFits p.2) (hv:1<=a0/\a0<=1099511627776) (he:vZ a1=0) (a5:(jY a1).size<=1000) (a6:(jS l).wt<=4294967296) (hT:TabW w) (hP:zV w)
 (hD:∀w',O5 w w'->Calls Tryz.prog 38 #[.agg #[.slice ka kn kc,.slice ra rn rc,.int .i64 a4,.slice ba bn bc,.int .i64 a2,.string a3]] w' fun e w2=>e=.returned (.bool bD)/\O5 w' w2) (h0:bD=true->ka=none/\kn=0/\kc=0/\ra=none/\rn=0/\rc=0/\a4=0/\ba=none/\bn=0/\bc=0/\a2=0/\a3=⟨#[]⟩) (hj:qL l=true->(xc a0 a1 l).mayB=true/\(xc a0 a1 l).wt<=4294967296) :
 Calls Tryz.prog 14 #[.agg #[.int .i64 a0,.int .i64 a1,.slice la l.length lc,.slice ka kn kc,.slice ra rn rc,.int .i64 a4,.slice ba bn bc,.int .i64 a2,.string a3]] w fun e w'=>e=.returned (.bool (qL l && bD))/\O5 w w':=by
 obtain ⟨W,X⟩:=O1 (w.alloc (.cells #[.int .i64 a0,.int .i64 a1,.slice la l.length lc,.slice ka kn kc,.slice ra rn rc,.int .i64 a4,.slice ba bn bc,.int .i64 a2,.string a3] 45));have f:=O7 X
 have hx:=O9 X
 have T:=U (show ∀w':World,O5 W w'->w'.cell? ⟨w.heap.size,0,none⟩=some (.int .i64 a0)/\w'.cell? ⟨w.heap.size,1,none⟩=some (.int .i64 a1)/\w'.cell? ⟨w.heap.size,2,none⟩=some (.slice la l.length lc)/\w'.cell? ⟨w.heap.size,3,none⟩=some (.slice ka kn kc)/\w'.cell? ⟨w.heap.size,4,none⟩=some (.slice ra rn rc)/\w'.cell? ⟨w.heap.size,5,none⟩=some (.int .i64 a4)/\w'.cell? ⟨w.heap.size,6,none⟩=some (.slice ba bn bc)/\w'.cell? ⟨w.heap.size,7,none⟩=some (.int .i64 a2)/\w'.cell? ⟨w.heap.size,8,none⟩=some (.string a3) from fun w' h=>by
  have y:=(h.block _ (qz hx)).trans hx;exact ⟨qq y rfl,qq y rfl,qq y rfl,qq y rfl,qq y rfl,qq y rfl,qq y rfl,qq y rfl,qq y rfl⟩)
 have S:=O0 (∀w':World,O5 W w'->qm w' 0 w'.heap.size la l/\TabW w'/\zV w') (fun w' h=>⟨hA.below (f.trans (h.mono f.size)) lz lz (Z3 f.size h.size),hT.below (f.trans (h.mono f.size)),hP.below (f.trans (h.mono f.size))⟩);have HD:=O0 (∀w':World,O5 W w'->_) (fun w' h=>hD w' (f.trans (h.mono f.size)));have D:=U (cR a1 W (hT.below f) (hP.below f));rw [he] at D;have H:=U (And.intro hz (And.intro he (And.intro a5 (And.intro a6 hl))));have HJ:=U hj;have H0:=U h0;have G:=U f;have HW:=U X;have d0:decide (a0<1)=false:=by have:=hv.1;simp;omega
 have d1:decide (1099511627776<a0)=false:=by have:=hv.2;simp;omega
 obtain ⟨V,m⟩:=O1 (qL l);have Z:=O0 (∀w':World,O5 W w'->Calls Tryz.prog 37 #[.slice la l.length lc] w' fun e w2=>e=.returned (.bool V)/\O5 w' w2) (fun w' h=>by rw [m];exact lV l la lc w' (S.o w' h).1 H.o.2.2.2.2 H.o.1);have C:=U m;rw [<- m];clear X f hx hA hl hz hv he a5 a6 hT hP hD h0 hj m;obtain ⟨q,r,s,u,v,x,z,A,B⟩:=T.o W (Z0 _ _);go_enter Tryz.func14,Tryz.ntmps14;go_upto_region 1 with fail
 rw [<- HW.o];clear HW;go_wp2_with fail;refine D.o.mono ?_;clear D q r s u v x z A B;rintro e w1 ⟨rfl,N⟩;have d:=U N;clear N;obtain ⟨q,r,s,u,v,x,z,A,B⟩:=T.o w1 d.o;have c:=U (Z.o w1 d.o);cases V with
 | false =>
  go_wp2_with fail
  refine c.o.mono ?_;clear c q r s u v x z A B;rintro e w2 ⟨rfl,g⟩;have a:=U (O2 G (O2 d g));clear g;go_wp2;go_ret;exact ⟨rfl,a.o⟩
 | true =>
 go_wp2_with fail
 refine c.o.mono ?_;clear c q r s u v x z A B;rintro e w2 ⟨rfl,g⟩;have a:=U (O2 d g);clear g;obtain ⟨q,r,s,u,v,x,z,A,B⟩:=T.o w2 a.o;have j:=U (HD.o w2 a.o);cases bD with
 | false =>
  go_wp2_with fail
  refine j.o.mono ?_;clear j q r s u v x z A B;rintro e I ⟨rfl,i⟩;have b:=U (O2 G (O2 a i));clear i;go_wp2;go_ret;exact ⟨rfl,b.o⟩
 | true =>
 go_wp2_with fail
 refine j.o.mono ?_;clear j q r s u v x z A B;rintro e I ⟨rfl,i⟩;have b:=U (O2 a i);clear i;obtain ⟨q,r,s,u,v,x,z,A,B⟩:=T.o I b.o;obtain ⟨rfl,rfl,rfl,rfl,rfl,rfl,rfl,rfl,rfl,rfl,rfl,rfl⟩:=H0.o trivial;have K:=U (fR a0 a1 l la lc I (S.o I b.o).1 C.o.symm H.o.1 H.o.2.1 H.o.2.2.1 H.o.2.2.2.1 (S.o I b.o).2.1 (S.o I b.o).2.2);go_wp2_with fail;refine K.o.mono ?_;clear K q r s u v x z A B;rintro e R ⟨an,cn,ai,ci,rfl,hr,F⟩;rw [show (xc a0 a1 l).names.length=4 from rfl,show (xc a0 a1 l).items.length=4 from rfl] at hr ⊢;obtain ⟨M,k⟩:=O1 (R.alloc (.cells #[.int .u8 5,.int .i64 0,.string ⟨#[]⟩,.slice an 4 cn,.slice ai 4 ci] 26));have o:=O7 k
 have Q:=O9 k
 have E:=U (xm (xc a0 a1 l) _ M (HJ.o C.o.symm).2 (hr.below o lz (J0 _) o.size));rw [(HJ.o C.o.symm).1] at E;have J:=U (b.o.trans ((F.trans (o.mono F.size)).mono b.o.size));obtain ⟨z0,z1,z2,z3,z4⟩:=bx5 Q;have L:=U k;clear hr F o Q k;go_upto_region 9 with fail
 rw [<- L.o];clear L;go_wp2_with fail;refine E.o.mono ?_;clear E z0 z1 z2 z3 z4;rintro e w5 ⟨rfl,P⟩;have Y:=U (O2 G (O2 J P));clear P;go_wp2;go_ret;exact ⟨rfl,Y.o⟩
def eT (ver exp:Int) (l:List (ByteArray × RecV)) (b:Bool):JV × Int:=if b then (xc ver exp l,0) else (zeroJ,3)
theorem mq (a1 a0:Int) (l:List (ByteArray × RecV)) (la ka ra ba:Option Addr) (lc kn kc rn rc bn bc:Nat) (a4 a2:Int) (a3:ByteArray) (bD:Bool) (w:World) (hA:qm w 0 w.heap.size la l) (hl:l.length<=1000000) (hz:∀p ∈ l,p.1.size<=1000000/\RecFits p.2) (hv:1<=a1/\a1<=1099511627776) (he:vZ a0=0) (a5:(jY a0).size<=1000) (a6:(jS l).wt<=4294967296) (hT:TabW w) (hP:zV w)
 (hD:∀w',O5 w w'->Calls Tryz.prog 38 #[.agg #[.slice ka kn kc,.slice ra rn rc,.int .i64 a4,.slice ba bn bc,.int .i64 a2,.string a3]] w' fun e w2=>e=.returned (.bool bD)/\O5 w' w2) (h0:bD=true->ka=none/\kn=0/\kc=0/\ra=none/\rn=0/\rc=0/\a4=0/\ba=none/\bn=0/\bc=0/\a2=0/\a3=⟨#[]⟩) (hj:qL l=true->(xc a1 a0 l).mayB=true/\(xc a1 a0 l).wt<=4294967296) :
 Calls Tryz.prog 10 #[.agg #[.int .i64 a1,.int .i64 a0,.slice la l.length lc,.slice ka kn kc,.slice ra rn rc,.int .i64 a4,.slice ba bn bc,.int .i64 a2,.string a3]] w (nX (eT a1 a0 l (qL l && bD)) w):=by
 obtain ⟨W,E⟩:=O1 ((w.alloc (.cells #[.int .i64 a1,.int .i64 a0,.slice la l.length lc,.slice ka kn kc,.slice ra rn rc,.int .i64 a4,.slice ba bn bc,.int .i64 a2,.string a3] 45)).alloc (.cells #[.int .u8 0,.int .i64 0,.string ⟨#[]⟩,.slice none 0 0,.slice none 0 0] 26));have H:(w.alloc (.cells #[.int .i64 a1,.int .i64 a0,.slice la l.length lc,.slice ka kn kc,.slice ra rn rc,.int .i64 a4,.slice ba bn bc,.int .i64 a2,.string a3] 45)).heap.size=w.heap.size+1:=by simp
 have f:O5 w W:=by rw [E];exact (O4).alloc (by simp) _
 have hx:W.heap[w.heap.size]?=some (.cells #[.int .i64 a1,.int .i64 a0,.slice la l.length lc,.slice ka kn kc,.slice ra rn rc,.int .i64 a4,.slice ba bn bc,.int .i64 a2,.string a3] 45 (0,0)):=by rw [E];exact qO w _ _
 have z:W.rowIs (w.heap.size+1) 26 5 (qo (.int .u8 0) (.int .i64 0) (.string ⟨#[]⟩) (.slice none 0 0) (.slice none 0 0)):=(by have:=qg (w.alloc (.cells #[.int .i64 a1,.int .i64 a0,.slice la l.length lc,.slice ka kn kc,.slice ra rn rc,.int .i64 a4,.slice ba bn bc,.int .i64 a2,.string a3] 45)) (.int .u8 0) (.int .i64 0) (.string ⟨#[]⟩) (.slice none 0 0) (.slice none 0 0) 26;rw [H,<- E] at this;exact this);have HC:=U (show ∀w':World,O5 W w'->w'.cell? ⟨w.heap.size,0,none⟩=some (.int .i64 a1)/\w'.cell? ⟨w.heap.size,1,none⟩=some (.int .i64 a0)/\w'.cell? ⟨w.heap.size,2,none⟩=some (.slice la l.length lc)/\w'.cell? ⟨w.heap.size,3,none⟩=some (.slice ka kn kc)/\w'.cell? ⟨w.heap.size,4,none⟩=some (.slice ra rn rc)/\w'.cell? ⟨w.heap.size,5,none⟩=some (.int .i64 a4)/\w'.cell? ⟨w.heap.size,6,none⟩=some (.slice ba bn bc)/\w'.cell? ⟨w.heap.size,7,none⟩=some (.int .i64 a2)/\w'.cell? ⟨w.heap.size,8,none⟩=some (.string a3) from fun w' h=>by
  have y:=(h.block _ (qz hx)).trans hx;exact ⟨qq y rfl,qq y rfl,qq y rfl,qq y rfl,qq y rfl,qq y rfl,qq y rfl,qq y rfl,qq y rfl⟩)
 have k:=U z;have J:=U f;have C:=O0 (w.heap.size+2<=W.heap.size) z.lt;have HW:=U E;have g:=U (ch a1 a0 l la ka ra ba lc kn kc rn rc bn bc a4 a2 a3 bD W (hA.below f lz lz f.size) hl hz hv he a5 a6 (hT.below f) (hP.below f) (fun w' h=>hD w' (f.trans (h.mono f.size))) h0 hj);have i:=U (show ∀w':World,O5 W w'->qL l=true->bD=true->Calls Tryz.prog 22 #[.agg #[.int .i64 a1,.int .i64 a0,.slice la l.length lc,.slice ka kn kc,.slice ra rn rc,.int .i64 a4,.slice ba bn bc,.int .i64 a2,.string a3]] w' (pU (xc a1 a0 l) w') from fun w' h h1 h2=>by
  obtain ⟨rfl,rfl,rfl,rfl,rfl,rfl,rfl,rfl,rfl,rfl,rfl,rfl⟩:=h0 h2;have q:=f.trans (h.mono f.size);exact fR a1 a0 l la lc w' (hA.below q lz lz q.size) h1 hz he a5 a6 (hT.below q) (hP.below q))
 obtain ⟨M,F⟩:=O1 (qL l);rw [<- F] at g i ⊢;obtain ⟨V,Y⟩:=O1 ((M && bD));rw [<- Y] at g ⊢;have X:=O0 (V=true->M=true/\bD=true) (fun h=>by rw [Y] at h;simpa using h);clear E f hx z H hA hl hz hv he a5 a6 hT hP hD h0 hj F Y;obtain ⟨q0,q1,q2,q3,q4,q5,q6,q7,q8⟩:=HC.o W (Z0 _ _);go_enter Tryz.func10,Tryz.ntmps10;go_upto_region 1 with fail
 rw [<- HW.o];clear HW;go_wp2_with fail;refine g.o.mono ?_;clear g q0 q1 q2 q3 q4 q5 q6 q7 q8;rintro e Q ⟨rfl,u⟩;have b:=U u;have d:=qj u k.o k.o.lt;clear u;cases V with
 | false => have S:=U (J.o.trans (b.o.mono J.o.size));have s:=U d;obtain ⟨t0,t1,t2,t3,t4⟩:=rc5 d;obtain ⟨s0,s1,s2,s3,s4⟩:=rf5 d;simp only [qo] at t0 t1 t2 t3 t4;clear d i;go_wp2;refine Z8 (qk Tryz.results10 _ _ (w.heap.size+1) 26 _ (0,0) _ rfl (qr (set5 _ _ _ _ _ s.o)) J7 rfl (by kernel_rfl) _ rfl) rfl ?_;show nX (zeroJ,3) w _ _;exact lO ⟨rfl,zf _ _ _ _ _ S.o (by omega)⟩
 | true =>
 have c:=X.o rfl;clear d;obtain ⟨q0,q1,q2,q3,q4,q5,q6,q7,q8⟩:=HC.o Q b.o;have A:=U (i.o Q b.o c.1 c.2);clear i;go_wp2_with fail;refine A.o.mono ?_;clear A q0 q1 q2 q3 q4 q5 q6 q7 q8;rintro e I ⟨L,P,K,N,rfl,Z,v⟩;rw [show (xc a1 a0 l).names.length=4 from rfl,show (xc a1 a0 l).items.length=4 from rfl] at Z ⊢;obtain ⟨r,m⟩:=O1 (I.alloc (.cells #[.int .u8 5,.int .i64 0,.string ⟨#[]⟩,.slice L 4 P,.slice K 4 N] 26));have o:=O7 m
 have G:=O9 m
 have x:O5 W r:=b.o.trans ((v.trans (o.mono v.size)).mono b.o.size);have a:=qj x k.o k.o.lt;have s:=U a;have T:=O0 (Rep r Q.heap.size r.heap.size (xc a1 a0 l) (.agg #[.int .u8 5,.int .i64 0,.string ⟨#[]⟩,.slice L 4 P,.slice K 4 N])) (Z.below o lz lz o.size);have R:=U (O2 J x);have D:=O0 (W.heap.size<=Q.heap.size) b.o.size;obtain ⟨z0,z1,z2,z3,z4⟩:=bx5 G;obtain ⟨t0,t1,t2,t3,t4⟩:=rc5 a;obtain ⟨s0,s1,s2,s3,s4⟩:=rf5 a;simp only [qo] at t0 t1 t2 t3 t4;have B:=U m;clear a Z v x o G m c;go_upto_region 4 with fail
 rw [<- B.o];clear B;go_wp2;refine Z8 (qk Tryz.results10 _ _ (w.heap.size+1) 26 _ (0,0) _ rfl (qr (set5 _ _ _ _ _ s.o)) J7 rfl (by kernel_rfl) _ rfl) rfl ?_;show nX (xc a1 a0 l,0) w _ _;refine ⟨L,P,K,N,rfl,?_,zf _ _ _ _ _ R.o (by omega)⟩;exact Rep.carry (by have:=C.o;have:=D.o;omega) (show r.heap.size<=_ by simp [World.setCell]) (fun j hj _=>xJ _ _ _ _ _ (by have:=C.o;have:=D.o;omega)) _ _ T.o
theorem Zc {α:Type} (a b c d:α):[c,a,d,b].Perm [a,b,c,d]:=by have e:[c,a,d,b].Perm [a,c,d,b]:=List.Perm.swap a c [d,b];refine e.trans (List.Perm.cons a ?_);exact (List.perm_append_comm (l₁:=[c,d]) (l₂:=[b]))
theorem wI {b:BinsV} (h:zh b=true):j5 b=0/\jJ b.au=true/\pu b.pre=false/\b.pre.size<=64:=by
 unfold zh at h;simp only [J5,J1,Bool.not_eq_true'] at h;obtain ⟨⟨a,c⟩,d⟩:=h;refine ⟨a,c,d,?_⟩;unfold j5 at a;split at a
 . cases a
 . split at a
   . cases a
   . rename_i hr;exact yL (by simpa using hr)
theorem pt (d6 e0:Int) (ids:List ByteArray) (d7:ByteArray) (ia:Option Addr) (ic:Nat) (w:World) (hI:qy w 0 w.heap.size ia ids) (hm:zh ⟨d6,d7,⟨e0,ids⟩⟩=true) :
 Calls Tryz.prog 115 #[.agg #[.int .i64 e0,.slice ia ids.length ic,.int .i64 d6,.string d7]] w (jW (k9 ⟨d6,d7,⟨e0,ids⟩⟩) w):=by
 have u:=U (show d7.size<=64/\ids.length<=16/\∀s ∈ ids,s.size<=1000000 from by
  obtain ⟨h1,h2,h3,h4⟩:=wI hm;have ha:=jK h2;dsimp only at h4 ha;exact ⟨h4,ha.1.2,fun s hs=>by have:=(yw (kG _ _ ha.2.2 s hs)).2;omega⟩)
 obtain ⟨W,hW⟩:=O1 ((w.alloc (.cells #[.int .i64 e0,.slice ia ids.length ic,.int .i64 d6,.string d7] 41)).alloc (.cells #[.int .u8 0,.int .i64 0,.string ⟨#[]⟩,.slice none 0 0,.slice none 0 0] 26));have b4:(w.alloc (.cells #[.int .i64 e0,.slice ia ids.length ic,.int .i64 d6,.string d7] 41)).heap.size=w.heap.size+1:=by simp
 have z:O5 w W:=by rw [hW];exact (O4).alloc (by simp) _
 have hx:W.heap[w.heap.size]?=some (.cells #[.int .i64 e0,.slice ia ids.length ic,.int .i64 d6,.string d7] 41 (0,0)):=by rw [hW];exact qO w _ _
 have Q:W.rowIs (w.heap.size+1) 26 5 (qo (.int .u8 0) (.int .i64 0) (.string ⟨#[]⟩) (.slice none 0 0) (.slice none 0 0)):=(by have:=qg (w.alloc (.cells #[.int .i64 e0,.slice ia ids.length ic,.int .i64 d6,.string d7] 41)) (.int .u8 0) (.int .i64 0) (.string ⟨#[]⟩) (.slice none 0 0) (.slice none 0 0) 26;rw [b4,<- hW] at this;exact this);have D:=U (show ∀w':World,O5 W w'->w'.cell? ⟨w.heap.size,0,none⟩=some (.int .i64 e0)/\w'.cell? ⟨w.heap.size,1,none⟩=some (.slice ia ids.length ic)/\w'.cell? ⟨w.heap.size,2,none⟩=some (.int .i64 d6)/\w'.cell? ⟨w.heap.size,3,none⟩=some (.string d7) from fun w' h=>by
  have y:=(h.block _ (qz hx)).trans hx;exact ⟨qq y rfl,qq y rfl,qq y rfl,qq y rfl⟩)
 have a4:=U Q;have HB:=U z;have a6:=O0 (w.heap.size+2<=W.heap.size) Q.lt;have HW:=U hW;have HI:=O0 (∀w':World,O5 W w'->qy w' 0 w'.heap.size ia ids) (fun w' h=>hI.below (z.trans (h.mono z.size)) lz lz (Z3 z.size h.size));have c1:=O0 (∀w':World,O5 W w'->_) (fun w' h=>lX e0 ids ia ic W.heap.size w' h.size (HI.o w' h) (by have:=u.o.2.1;omega));have c5:=O0 (∀w':World,_) (fun w'=>(kZ d7 w').mono fun e A (h:e=.returned (.agg #[.int .u8 3,.int .i64 0,.string d7,.slice none 0 0,.slice none 0 0])/\A=w'.alloc (.cells #[.int .u8 3,.int .i64 0,.string d7,.slice none 0 0,.slice none 0 0] 26))=>show e=.returned (.agg #[.int .u8 3,.int .i64 0,.string d7,.slice none 0 0,.slice none 0 0])/\O5 w' A from ⟨h.1,by rw [h.2];exact O4⟩);have c2:=O0 (∀w':World,_) (fun w'=>(dI d6 w').mono fun e A (h:e=.returned (.agg #[.int .u8 2,.int .i64 d6,.string ⟨#[]⟩,.slice none 0 0,.slice none 0 0])/\A=w'.alloc (.cells #[.int .u8 2,.int .i64 d6,.string ⟨#[]⟩,.slice none 0 0,.slice none 0 0] 26))=>show e=.returned (.agg #[.int .u8 2,.int .i64 d6,.string ⟨#[]⟩,.slice none 0 0,.slice none 0 0])/\O5 w' A from ⟨h.1,by rw [h.2];exact O4⟩);have HJ:=O0 (k9 ⟨d6,d7,⟨e0,ids⟩⟩=qN [(wl,qB d6),(qt,qe ids),(wB,txtJ d7),(zK,qB e0)]) rfl;obtain ⟨J,hJ⟩:=O1 (k9 ⟨d6,d7,⟨e0,ids⟩⟩);rw [<- hJ] at HJ ⊢;clear hW z hx Q b4 hI hm hJ;obtain ⟨S,T,X,Y⟩:=D.o W (Z0 _ _);go_enter Tryz.func115,Tryz.ntmps115;go_upto_region 1 with fail
 rw [<- HW.o];clear HW S T X Y;obtain ⟨V,hV⟩:∃V:List MP,V=[.con (.pointer (some ⟨w.heap.size,0,none⟩)),.con (.agg #[.int .i64 e0,.slice ia ids.length ic]),.memb e0 ids W.heap.size,.con (.pointer (some ⟨w.heap.size,2,none⟩)),.con (.int .i64 d6),.con (.agg #[.int .u8 2,.int .i64 d6,.string ⟨#[]⟩,.slice none 0 0,.slice none 0 0]),.con (.agg #[.string ⟨#[98,105,116,95,108,101,110,103,116,104]⟩,.int .u8 2,.int .i64 d6,.string ⟨#[]⟩,.slice none 0 0,.slice none 0 0]),.con (.pointer (some ⟨w.heap.size,3,none⟩)),.con (.string d7),.con (.agg #[.int .u8 3,.int .i64 0,.string d7,.slice none 0 0,.slice none 0 0]),.con (.agg #[.string ⟨#[110,97,109,101,95,112,114,101,102,105,120]⟩,.int .u8 3,.int .i64 0,.string d7,.slice none 0 0,.slice none 0 0]),.row W.heap.size 2 102 #[.string ⟨#[98,105,116,95,108,101,110,103,116,104]⟩,.int .u8 2,.int .i64 d6,.string ⟨#[]⟩,.slice none 0 0,.slice none 0 0,.string ⟨#[110,97,109,101,95,112,114,101,102,105,120]⟩,.int .u8 3,.int .i64 0,.string d7,.slice none 0 0,.slice none 0 0]]:=⟨_,rfl⟩;have a:=U hV;clear hV;refine qH 12 (fun d a' w'=>∃x6 x7 x8 x9 x10 x11 x12 x13 x14 x15 x16 x17,a'=⟨#[.agg #[.int .i64 e0,.slice ia ids.length ic,.int .i64 d6,.string d7],.pointer (some ⟨w.heap.size,0,none⟩),.pointer (some ⟨w.heap.size+1,0,none⟩),undef,undef,undef,x6,x7,x8,x9,x10,x11,x12,x13,x14,x15,x16,x17,undef,undef,undef,undef,undef,undef,undef],[]⟩/\zi W V d w' [x6,x7,x8,x9,x10,x11,x12,x13,x14,x15,x16,x17]) (by kernel_rfl) (by kernel_rfl) ?first ?step ?last
 case first=>exact ⟨_,_,_,_,_,_,_,_,_,_,_,_,rfl,zi.first _ _ _ (by rw [a.o];rfl)⟩
 case step =>
  rintro d a' w' ⟨x6,x7,x8,x9,x10,x11,x12,x13,x14,x15,x16,x17,rfl,h⟩ q hq hn r;rcases q with _|_|_|_|_|_|_|_|_|_|_|_|q
  . refine Z4 rfl fun K hK=>?_;go_simp;exact hK _ _ ⟨_,_,_,_,_,_,_,_,_,_,_,_,rfl,h.sameC 0 _ a rfl⟩
  . obtain rfl:=h.cn r a 0 .data;obtain ⟨S,T,X,Y⟩:=D.o w' h.1;refine Z4 rfl fun K hK=>?_;go_simp;exact hK _ _ ⟨_,_,_,_,_,_,_,_,_,_,_,_,rfl,h.sameC 1 _ a rfl⟩
  . obtain rfl:=h.cn r a 1 .data;obtain ⟨S,T,X,Y⟩:=D.o w' h.1;refine Z4 rfl fun K hK=>?_;go_simp;refine (c1.o w' h.1).mono ?_;rintro e A ⟨y,rfl,hy,k⟩;exact hK _ _ ⟨_,_,_,_,_,_,_,_,_,_,_,_,rfl,h.did k 2 _ (.memb e0 ids W.heap.size) (by rw [a.o];rfl) hy⟩
  . refine Z4 rfl fun K hK=>?_;go_simp;exact hK _ _ ⟨_,_,_,_,_,_,_,_,_,_,_,_,rfl,h.sameC 3 _ a rfl⟩
  . obtain rfl:=h.cn r a 3 .data;obtain ⟨S,T,X,Y⟩:=D.o w' h.1;refine Z4 rfl fun K hK=>?_;go_simp;exact hK _ _ ⟨_,_,_,_,_,_,_,_,_,_,_,_,rfl,h.sameC 4 _ a rfl⟩
  . obtain rfl:=h.cn r a 4 .data;obtain ⟨S,T,X,Y⟩:=D.o w' h.1;refine Z4 rfl fun K hK=>?_;go_simp;refine (c2.o w').mono ?_;rintro e A ⟨rfl,k⟩;exact hK _ _ ⟨_,_,_,_,_,_,_,_,_,_,_,_,rfl,h.didC k 5 _ a rfl⟩
  . obtain rfl:=h.cn r a 5 .data;refine Z4 rfl fun K hK=>?_;go_simp;exact hK _ _ ⟨_,_,_,_,_,_,_,_,_,_,_,_,rfl,h.sameC 6 _ a rfl⟩
  . refine Z4 rfl fun K hK=>?_;go_simp;exact hK _ _ ⟨_,_,_,_,_,_,_,_,_,_,_,_,rfl,h.sameC 7 _ a rfl⟩
  . obtain rfl:=h.cn r a 7 .data;obtain ⟨S,T,X,Y⟩:=D.o w' h.1;refine Z4 rfl fun K hK=>?_;go_simp;exact hK _ _ ⟨_,_,_,_,_,_,_,_,_,_,_,_,rfl,h.sameC 8 _ a rfl⟩
  . obtain rfl:=h.cn r a 8 .data;obtain ⟨S,T,X,Y⟩:=D.o w' h.1;refine Z4 rfl fun K hK=>?_;go_simp;refine (c5.o w').mono ?_;rintro e A ⟨rfl,k⟩;exact hK _ _ ⟨_,_,_,_,_,_,_,_,_,_,_,_,rfl,h.didC k 9 _ a rfl⟩
  . obtain rfl:=h.cn r a 9 .data;refine Z4 rfl fun K hK=>?_;go_simp;exact hK _ _ ⟨_,_,_,_,_,_,_,_,_,_,_,_,rfl,h.sameC 10 _ a rfl⟩
  . obtain rfl:=h.cn r a 6 .data;obtain rfl:=h.cn r a 10 .data;refine Z4 rfl fun K hK=>?_;go_simp;exact hK _ _ ⟨_,_,_,_,_,_,_,_,_,_,_,_,rfl,h.new _ 11 _ (.row W.heap.size 2 102 #[.string ⟨#[98,105,116,95,108,101,110,103,116,104]⟩,.int .u8 2,.int .i64 d6,.string ⟨#[]⟩,.slice none 0 0,.slice none 0 0,.string ⟨#[110,97,109,101,95,112,114,101,102,105,120]⟩,.int .u8 3,.int .i64 0,.string d7,.slice none 0 0,.slice none 0 0]) (by rw [a.o];rfl) (vQ.made _ h.1.size)⟩
  . omega
 case last =>
  rintro d a' w' f ⟨x6,x7,x8,x9,x10,x11,x12,x13,x14,x15,x16,x17,rfl,h⟩;have b1:=h.1;have d0:=h.get 2 (f _ (by omega)) (.memb e0 ids W.heap.size) (by rw [a.o];rfl) _ rfl;obtain ⟨c7,d5,rfl,b5⟩:=h.get 11 (f _ (by omega)) (.row W.heap.size 2 102 #[.string ⟨#[98,105,116,95,108,101,110,103,116,104]⟩,.int .u8 2,.int .i64 d6,.string ⟨#[]⟩,.slice none 0 0,.slice none 0 0,.string ⟨#[110,97,109,101,95,112,114,101,102,105,120]⟩,.int .u8 3,.int .i64 0,.string d7,.slice none 0 0,.slice none 0 0]) (by rw [a.o];rfl) _ rfl;have c0:=U b1;clear h f b1 a;have l:=c0.o;obtain ⟨g,ai,ci,rfl,a9,P,b0⟩:=d0;have F:=U (uO a9 P b0);have G:=O0 (w'.ownsRow W.heap.size 102 6 (.slice (some ⟨g,0,none⟩) 2 2) 2 (zg [wA ai ids.length ci,jr zK e0])) F.o.own;have b6:=U l;have d4:=U (qz P);have R:W.heap.size<=w'.heap.size:=l.size;clear l a9 P b0;obtain ⟨i1,c9,d1,d2,d3⟩:=V2 jm;simp only [List.drop_succ_cons,List.drop_zero];go_upto_region 2 with (at_builtin;refine Y1 _ rfl (.tmp 8) (.tmp 17) 104 rfl W.heap.size 102 i1 _ 6 96 G1 c9 d1 d2 d3 rfl (by omega) (.slice (some ⟨g,0,none⟩) 2 2) 2 (zg [wA ai ids.length ci,jr zK e0]) rfl G.o ⟨c7,0,none⟩ 2 2 (zg [jr wl d6,xP wB d7]) rfl rfl (J9 (cs:=(zg [jr wl d6,xP wB d7]).toArray) (t:=102) (fr:=(0,0)) b5) (uE _) (by omega) (by unfold maxLen;omega) (by omega) (by have:=qz b5;omega) w'.heap.size (by omega) ?_;intro g2 cap2 w4 hown4 hgrow4 hat4 hlt4;have a3:=U hown4;have E:=U hgrow4;have a0:=U hat4;clear hown4 hgrow4 hat4)
  have C:=U (below_grown b6.o R E.o (fun b z=>(G.o.lt b z).1));have a1:=U (show MemsAt W.heap.size w4 (.slice (some ⟨g2,0,none⟩) 4 cap2) [wA ai ids.length ci,jr zK e0,jr wl d6,xP wB d7] [qe ids,qB e0,qB d6,txtJ d7] from F.o.cat (ms2:=[jr wl d6,xP wB d7]) (its2:=[qB d6,txtJ d7]) rfl (fun i hi=>by
   match i,hi with
   | 0,_=>exact ⟨W.heap.size,W.heap.size,J2 _,R,fun b z=>by omega,gp _ _ _ _⟩
   | 1,_=>exact ⟨W.heap.size,W.heap.size,J2 _,R,fun b z=>by omega,jZ _ _ _ _⟩) E.o a3.o (by
   rcases a0.o with h|h
   . exact .inl h.symm
   . exact .inr ⟨g2,rfl,by omega⟩))
  have c6:=U a6.o;clear a3 E a0 F G;have a2:=U (wj (v:=.slice (some ⟨g2,0,none⟩) 4 cap2) [(wl,qB d6),(qt,qe ids),(wB,txtJ d7),(zK,qB e0)] (N:=[(qt,qe ids),(zK,qB e0),(wl,qB d6),(wB,txtJ d7)]) ⟨_,by simpa using a1.o,by simp [wA,jr,xP]⟩ ⟨_,_,rfl⟩ (Zc _ _ _ _) zI.2.2.1 (by simp) (fun p hp=>by
   simp only [V6,V1,za4] at hp;rcases hp with rfl|rfl|rfl|rfl
   . show (qB _).wt<=4294967296;rw [vL];decide
   . exact kD u.o.2.2 (by have:=u.o.2.1;omega)
   . show (txtJ d7).wt<=4294967296;rw [xY];have:=u.o.1;omega
   . show (qB _).wt<=4294967296;rw [vL];decide) (by have:=c6.o;omega))
  clear a1;go_wp2_with fail;refine a2.o.mono ?_;clear a2;rintro e Z ⟨I,M,H,L,rfl,b2,a8⟩;have o:O5 W Z:=O2 C a8;obtain ⟨W9,x⟩:=O1 (Z.alloc (.cells #[.int .u8 5,.int .i64 0,.string ⟨#[]⟩,.slice I 4 M,.slice H 4 L] 26));have m:=O7 x
  have b3:=O9 x
  have c:=qj (o.trans (m.mono o.size)) a4.o a4.o.lt;have c4:=U c;have c3:=U (Rep.below b2 (B:=Z.heap.size) m lz lz m.size);have a7:=O0 (w.heap.size+2<=w4.heap.size) (Z3 a6.o C.o.size);have b7:=U (HB.o.trans ((o.trans (m.mono o.size)).mono HB.o.size));obtain ⟨z0,z1,z2,z3,z4⟩:=bx5 b3;obtain ⟨t0,t1,t2,t3,t4⟩:=rc5 c;obtain ⟨s0,s1,s2,s3,s4⟩:=rf5 c;simp only [qo] at t0 t1 t2 t3 t4;have a5:=U x;clear c b2 a8 o m b3 x;go_upto_region 3 with fail
  rw [<- a5.o];clear a5;go_wp2;refine Z8 (X8 Tryz.results115 _ _ (w.heap.size+1) 26 _ (0,0) _ rfl (qr (set5 _ _ _ _ _ c4.o)) J7 rfl (by kernel_rfl)) rfl ?_;rw [HJ.o];refine ⟨I,M,H,L,rfl,?_,zf _ _ _ _ _ b7.o (by omega)⟩;exact Rep.carry (by have:=a7.o;omega) (show W9.heap.size<=_ by simp [World.setCell]) (fun j hj _=>xJ _ _ _ _ _ (by have:=a7.o;omega)) _ _ c3.o
