import Derived.Test.YthgembbgcbaghaaGreatDoorDt51
import Derived.Test.YthgembbgcbaghaaGreatDoorDt42
import Derived.Test.YthgembbgcbaghaaGreatDoorDt26
set_option maxHeartbeats 8000000
set_option maxRecDepth 100000

namespace Go.Proofs.YthgembbgcbaghaaGreatDoor
open Go.RowKit Go.Shelf Go.Sort
theorem lZ (l:List Key2) (rs:List DelegV) (t bits:Int) (ids:List ByteArray) (pre:ByteArray) (ka ra ba:Option Addr) (kc rc bc:Nat) (w:World) (hI:DelegsIn w 0 w.heap.size ⟨l,rs,⟨bits,pre,⟨t,ids⟩⟩⟩ ka ra ba) (hf:DelegsFits ⟨l,rs,⟨bits,pre,⟨t,ids⟩⟩⟩) (hrc:rs.length<=rc) :
 Calls Tryz.prog 41 #[.agg #[.slice ka l.length kc,.slice ra rs.length rc,.int .i64 t,.slice ba ids.length bc,.int .i64 bits,.string pre]] w fun e w'=>e=.returned (.bool (qC ⟨l,rs,⟨bits,pre,⟨t,ids⟩⟩⟩))/\Below w.heap.size w w':=by
 obtain ⟨W,hW⟩:=O1 (w.alloc (.cells #[.slice ka l.length kc,.slice ra rs.length rc,.int .i64 t,.slice ba ids.length bc,.int .i64 bits,.string pre] 35));have hb:Below w.heap.size w W:=by rw [hW];exact (Z0 _ _).alloc lz _
 have hx:W.heap[w.heap.size]?=some (.cells #[.slice ka l.length kc,.slice ra rs.length rc,.int .i64 t,.slice ba ids.length bc,.int .i64 bits,.string pre] 35 (0,0)):=by rw [hW];exact Z4 w _
 have HC:=U (show ∀w':World,Below W.heap.size W w'->w'.cell? ⟨w.heap.size,0,none⟩=some (.slice ka l.length kc)/\w'.cell? ⟨w.heap.size,1,none⟩=some (.slice ra rs.length rc)/\w'.cell? ⟨w.heap.size,2,none⟩=some (.int .i64 t)/\w'.cell? ⟨w.heap.size,3,none⟩=some (.slice ba ids.length bc)/\w'.cell? ⟨w.heap.size,4,none⟩=some (.int .i64 bits)/\w'.cell? ⟨w.heap.size,5,none⟩=some (.string pre) from fun w' h=>by
  have y:=(h.block _ (qx hx)).trans hx;exact ⟨qq y rfl,qq y rfl,qq y rfl,qq y rfl,qq y rfl,qq y rfl⟩)
 have HI:=O0 (∀w':World,Below W.heap.size W w'->DelegsIn w' 0 w'.heap.size ⟨l,rs,⟨bits,pre,⟨t,ids⟩⟩⟩ ka ra ba) (fun w' h=>hI.below (hb.trans (h.mono hb.size)) lz lz (Z3 hb.size h.size));have f1:l.length<=40:=hf.len;have f2:rs.length<=70:=hf.many;have HF:=U hf;have L:=U hb;have j0:=U hrc;have HV:=U ((q6 ⟨l,rs,⟨bits,pre,⟨t,ids⟩⟩⟩).trans (zN ⟨l,rs,⟨bits,pre,⟨t,ids⟩⟩⟩));dsimp only at HV;have d1:=O0 (qC ⟨l,rs,⟨bits,pre,⟨t,ids⟩⟩⟩=true->(qf ⟨l,rs,⟨bits,pre,⟨t,ids⟩⟩⟩).mayB=true/\(qf ⟨l,rs,⟨bits,pre,⟨t,ids⟩⟩⟩).wt<=4294967296) (fun h=>⟨yo (by rw [<- q6];exact h),vS (by rw [<- q6];exact h)⟩);have c5:=O0 (qC ⟨l,rs,⟨bits,pre,⟨t,ids⟩⟩⟩=true->∀w':World,Below W.heap.size W w'->_) (fun h w' hw=>ux l rs t bits ids pre ka ra ba kc rc bc w' (HI.o w' hw) h hrc);have i1:=U (fun w'=>mz t bits ids pre ba bc w');have g9:=O0 (∀w':World,Below W.heap.size W w'->_) (fun w' h=>ap t bits ids pre ba bc w' (Z3 hf.pre (by decide)) (HI.o w' h).bids (fun s hs=>Z3 (hf.au.2.2 s hs) (by decide)) (Z3 hf.au.2.1 (by decide)));have i2:=U hW;obtain ⟨M,hM⟩:=O1 (qC ⟨l,rs,⟨bits,pre,⟨t,ids⟩⟩⟩);rw [<- hM] at HV d1 c5 ⊢;obtain ⟨nb,i6⟩:=O1 (zb ⟨bits,pre,⟨t,ids⟩⟩);rw [<- i6] at HV i1;obtain ⟨bm,b3⟩:=O1 (q8 ⟨bits,pre,⟨t,ids⟩⟩);rw [<- b3] at HV g9;obtain ⟨J,hJ⟩:=O1 (qf ⟨l,rs,⟨bits,pre,⟨t,ids⟩⟩⟩);rw [<- hJ] at d1 c5;obtain ⟨n,hn⟩:=O1 l.length;have S:=U hn;obtain ⟨K,f9⟩:=O1 rs.length;have u:=U f9;rw [<- hn,<- f9] at HC c5 i2;rw [<- hn] at f1;rw [<- f9] at f2;rw [<- hn,<- f9];obtain ⟨q0,N,q2,q3,q4,q5⟩:=HC.o W (Z0 _ _);clear hx hW hI hf hrc hM i6 b3 hJ hn f9 hb;go_enter Tryz.func41,Tryz.ntmps41;go_upto_region 1 with fail
 rw [<- i2.o];clear i2;by_cases h32:32<n
 case pos => have a1:decide (32<(n:Int))=true:=J2 (by omega);have a:=U (show M=false by rw [HV.o,gi (by rw [<- S.o];omega)];rfl);go_wp2;go_ret;exact ⟨qz a.o.symm,L.o⟩
 have a1:decide (32<(n:Int))=false:=Z7 (by omega);by_cases h64:64<K
 case pos =>
  have a2:decide (64<(K:Int))=true:=J2 (by omega);have a:=U (show M=false by
   rw [HV.o];cases nb
   . rw [Z5 (by decide),show rs.isEmpty=false from by
      cases rs with
      | nil=>have:=u.o;simp at this;omega
      | cons _ _=>rfl,V0,N3]
   . rw [J1 rfl,yg (by rw [<- u.o];omega),N3])
  go_wp2;go_ret;exact ⟨qz a.o.symm,L.o⟩
 have a2:decide (64<(K:Int))=false:=Z7 (by omega);have h4:n<=32:=by omega
 have h5:K<=64:=by omega
 clear h32 h64;go_wp2_with fail;refine (i1.o _).mono ?_;clear i1 q0 N q2 q3 q4 q5;rintro e w2 ⟨rfl,f0⟩;have d3:=U f0;obtain ⟨q0,N,q2,q3,q4,q5⟩:=HC.o w2 f0;clear f0;cases nb
 case true =>
  have HK:=O0 (zg l=false->M=false) (fun h=>by rw [HV.o,h];rfl);have HY:=O0 (zg l=true->M=zn rs) (fun h=>by rw [HV.o,h,J1 rfl,X4]);clear g9 HV;go_wp2;clear a1 a2 q0 N q2 q3 q4 q5;go_loopw [3,4,5,6] (fun ls i _ _ wr=>∃(k:Nat) (s:ByteArray),k<=n/\i=.int .i64 k/\ls=.string s/\(∀j (h:j<l.length),j<k->ok2 l[j]=true)/\qe ((Go.Proofs.YthgembbgcbaghaaGreatDoor.ids l).take k)=true/\(∀h:k - 1<l.length,1<=k->s=id2 l[k-1])/\Below W.heap.size W wr) (fun _ i _ _ _=>n - (intOf i).toNat)
  case atStart=>exact ⟨0,⟨#[]⟩,by omega,rfl,rfl,fun j _ h=>by omega,rfl,fun _ h=>by omega,d3.o⟩
  case round =>
   obtain ⟨k,s,hk,rfl,rfl,e8,g5,d0,b0⟩:=hrel;have Q:=U e8;have Z:=U g5;have a0:=U d0;have o:=U b0;clear e8 g5 d0 b0;have e6:=O0 ((Go.Proofs.YthgembbgcbaghaaGreatDoor.ids l).length=n) ((J9 ..).trans S.o.symm);obtain ⟨q0,N,q2,q3,q4,q5⟩:=HC.o wr o.o;by_cases hlt:k<n
   case pos =>
    have a6:k<l.length:=by rw [<- S.o];exact hlt
    obtain ⟨b,q,ha,_,hb,G,P⟩:=(HI.o wr o.o).keys.at k a6;subst ha;dsimp only at G P;have a8:=HF.o.keys l[k] (J7 a6);have c:=U (fun h=>HK.o (wB (l:=l) a6 h));have B:=U (show ok2 l[k]=true->(k=0\/Op.bytesLess s.toList (id2 l[k]).toList=true)->(∀j (h:j<l.length),j<k+1->ok2 l[j]=true)/\qe ((Go.Proofs.YthgembbgcbaghaaGreatDoor.ids l).take (k+1))=true/\(∀h:k<l.length,1<=k+1->id2 l[k]=id2 l[k]) from fun ho hle=>by
     refine ⟨fun j f hjk=>?_,?_,fun _ _=>rfl⟩
     . rcases Y1.1 hjk with h1|h1
       . exact Q.o j f h1
       . subst h1;exact ho
     . rcases N4 k with h0|h0
       . subst h0;cases hq:Go.Proofs.YthgembbgcbaghaaGreatDoor.ids l with
         | nil=>rfl
         | cons x r=>rfl
       . rw [jh (Go.Proofs.YthgembbgcbaghaaGreatDoor.ids l) k h0 (by have:=e6.o;omega),Z.o,X4];have h3:=hle.resolve_left (by omega);rw [a0.o (by omega) h0] at h3;simpa [Go.Proofs.YthgembbgcbaghaaGreatDoor.ids] using h3)
    have R:=O0 (1<=k->Op.bytesLess s.toList (id2 l[k]).toList=false->M=false) (fun h1 h2=>HK.o (vN (l:=l) (k:=k) h1 a6 (by rw [<- a0.o (by omega) h1];exact h2)));obtain ⟨x,H⟩:∃x:Key2,x=l[k]:=⟨_,rfl⟩;have i3:=U (show id2 x=id2 l[k] by rw [H]);replace G:=G.trans (X1 (fun z:Key2=>some (Value.string z.1)) H.symm);replace P:=P.trans (X1 (fun z:Key2=>some (Value.string z.2)) H.symm);rw [<- H] at a8 c B R;clear H Q a0 Z;obtain ⟨xs,xp⟩:=x;replace G:wr.cell? ⟨b,q+k * 2,none⟩=some (.string xs):=G;replace P:wr.cell? ⟨b,q+k * 2+1,none⟩=some (.string xp):=P;have d0:xs.size<=300:=a8.1;have i9:xp.size<=300:=a8.2;have A:=U (cZ xs xp wr (by omega) (by omega));unfold xx at A;obtain ⟨ID,c6⟩:∃ID:ByteArray,ID=⟨(jK xs.data.toList xp.data.toList).toArray⟩:=⟨_,rfl⟩;rw [<- c6] at A;have e2:id2 (xs,xp)=ID:=c6.symm;have d7:=O0 (ID=id2 l[k]) (e2.symm.trans i3.o);rw [e2] at B R;have c3:=O0 (ok2 (xs,xp)=zh xs.data.toList xp.data.toList) rfl;obtain ⟨ok,g3⟩:=O1 (zh xs.data.toList xp.data.toList);rw [<- g3] at c3 A;rw [c3.o] at c B;clear a8 c6 e2 g3 c3;go_wp2_with fail;refine A.o.mono ?_;clear A G P q0 N q2 q3 q4 q5;rintro r w4 ⟨rfl,f3⟩;have b5:=U (O2 o f3);have v:=U (L.o.trans (b5.o.mono L.o.size));clear f3;cases ok
    case false => have a:=U (c.o rfl);go_wp2;go_ret;exact ⟨qz a.o.symm,v.o⟩
    case true =>
     by_cases h0:k=0
     case pos =>
      have HN:=U (B.o rfl (.inl h0));have a4:decide (0<(k:Int))=false:=Z7 (by omega);go_wp2;go_roundw
      case rel => exact ⟨k+1,ID,by omega,by go_num,rfl,HN.o.1,HN.o.2.1,fun _ _=>d7.o,b5.o⟩
      case measure=>simp [intOf];omega
     case neg =>
      have a4:decide (0<(k:Int))=true:=J2 (by omega);have p:=U (cu s ID);cases lt:Op.bytesLess ID.toList s.toList
      case true => rw [lt,Bool.true_or] at p;have a:=U (R.o (by omega) (by rw [p.o];rfl));go_wp2;go_ret;exact ⟨qz a.o.symm,v.o⟩
      case false =>
       cases eqq:(ID.toList == s.toList)
       case true => rw [lt,eqq] at p;have a:=U (R.o (by omega) (by rw [p.o];rfl));go_wp2;go_ret;exact ⟨qz a.o.symm,v.o⟩
       case false =>
        rw [lt,eqq] at p;have HN:=U (B.o rfl (.inr p.o));go_wp2;go_roundw
        case rel => exact ⟨k+1,ID,by omega,by go_num,rfl,HN.o.1,HN.o.2.1,fun _ _=>d7.o,b5.o⟩
        case measure=>simp [intOf];omega
   case neg =>
    obtain rfl:k=n:=by omega
    have a3:decide ((k:Int)<(k:Int))=false:=by simp
    have c4:=U (HY.o (by
     refine q9.2 ⟨by rw [<- S.o];exact h4,fun x hx=>?_,?_⟩
     . obtain ⟨j,f,rfl⟩:=Y3 hx;exact Q.o j f (by rw [S.o];exact f)
     . have:=Z.o;rwa [Z8 (by rw [e6.o];exact J0 _)] at this))
    clear hlt Q Z a0 HK HY;go_wp2;clear q0 N q2 q3 q4 q5 a3;go_loopw [7,8] (fun i _ wr=>∃m:Nat,m<=K/\i=.int .i64 m/\(∀j (h:j<rs.length),j<m->qt rs[j]=true)/\(∀j (h:j<rs.length),j<m->((rs.take j).any fun y=>decide (y.name=rs[j].name))=false)/\Below W.heap.size W wr) (fun i _ _=>K - (intOf i).toNat)
    case atStart=>exact ⟨0,by omega,rfl,fun j _ h=>by omega,fun j _ h=>by omega,o.o⟩
    case round =>
     obtain ⟨m,hm,rfl,g1,g2,b3⟩:=hrel;have X:=U g1;have Y:=U g2;have d:=U b3;clear g1 g2 b3 o;obtain ⟨q0,N,q2,q3,q4,q5⟩:=HC.o wr d.o;by_cases hmr:m<K
     case pos =>
      have a7:m<rs.length:=by rw [<- u.o];exact hmr
      obtain ⟨b,q,ha,-,hb,ia,ic,pa,pc,qa,qc,G,P,e2,e3,e4,e5,-,-,-,c9⟩:=(HI.o wr d.o).roles.at m a7;subst ha;have m1:(0:Int)<=(m:Int):=by omega
      have m2:(m:Int)<(K:Int):=by omega
      have m3:decide ((m:Int)<(K:Int))=true:=by simpa using hmr
      have c:=U (fun h=>c4.o.trans (vF (l:=rs) a7 h));have E:=U (fun h=>c4.o.trans (kW (l:=rs) a7 h));have c0:=U (show qt rs[m]=true->∀j (h:j<rs.length),j<m+1->qt rs[j]=true from fun h0 j f hjk=>by
       rcases Y1.1 hjk with h1|h1
       . exact X.o j f h1
       . subst h1;exact h0)
      have c1:=U (show ((rs.take m).any fun y=>decide (y.name=rs[m].name))=false->∀j (h:j<rs.length),j<m+1->((rs.take j).any fun y=>decide (y.name=rs[j].name))=false from fun h0 j f hjk=>by
       rcases Y1.1 hjk with h1|h1
       . exact Y.o j f h1
       . subst h1;exact h0)
      have b9:=U (HF.o.roles rs[m] (J7 a7));have V:=O0 (∀w':World,Below wr.heap.size wr w'->w'.cell? ⟨b,q+m * 6,none⟩=some (.string rs[m].name)) (fun w' h=>((Y6 (h.block b hb)).trans G));obtain ⟨x,hx⟩:=O1 (rs[m]);rw [<- hx] at G P e2 e3 e4 e5 c9 c E c0 c1 b9 V;clear hx X Y;obtain ⟨I,⟨xt,b4⟩,tm,ps,qs⟩:=x;dsimp only at G P e2 e3 e4 e5 E c1 V;have D:=U (dI I xt b4 tm ps qs ia pa qa ic pc qc wr c9 b9.o);obtain ⟨b1,e9⟩:∃b,b=qt ⟨I,⟨xt,b4⟩,tm,ps,qs⟩:=⟨_,rfl⟩;rw [<- e9] at D c c0;clear e9 c9 b9;go_wp2_with fail;refine D.o.mono ?_;clear D G P e2 e3 e4 e5 q0 N q2 q3 q4 q5;rintro r w5 ⟨rfl,a5⟩;have b6:=U (O2 d a5);have h9:=O0 (∀w':World,Below w5.heap.size w5 w'->w'.cell? ⟨b,q+m * 6,none⟩=some (.string I)) (fun w' h=>V.o w' (a5.trans (h.mono a5.size)));have v:=U (L.o.trans (b6.o.mono L.o.size));have d2:=U (Z0 w5.heap.size w5);clear a5 V;cases b1
      case false => have a:=U (c.o rfl);go_wp2;go_ret;exact ⟨qz a.o.symm,v.o⟩
      case true =>
      go_wp2;go_loopw [8] (fun i wr=>∃j:Nat,j<=m/\i=.int .i64 j/\(∀z (h:z<rs.length),z<j->decide (rs[z].name=I)=false)/\Below w5.heap.size w5 wr) (fun i _=>m - (intOf i).toNat)
      case atStart=>exact ⟨0,by omega,rfl,fun z _ h=>by omega,d2.o⟩
      case round =>
       obtain ⟨j,f,rfl,f7,c7⟩:=hrel;have a9:=U f7;have d5:=U c7;have g:=U (O2 b6 c7);clear f7 c7 d2;by_cases hjm:j<m
       case pos =>
        have i4:j<rs.length:=by omega
        obtain ⟨b2,g6,ha,-,f0,ja,jc,va,vc,sa,sc,g0,-⟩:=(HI.o wr g.o).roles.at j i4;have h0:=h9.o wr d5.o;have N:=(HC.o wr g.o).2.1;obtain ⟨rfl,rfl⟩:b=b2/\q=g6:=by simpa using ha
        have j1:(0:Int)<=(j:Int):=by omega
        have j2:(j:Int)<(K:Int):=by omega
        have j3:decide ((j:Int)<(m:Int))=true:=by simpa using hjm
        have b7:=O0 ((rs[j].name.toList == I.toList)=decide (rs[j].name=I)) ba_eq;have F:=U (show decide (rs[j].name=I)=true->M=false from fun h=>E.o (by
         rw [za6];exact ⟨rs[j],M8.2 ⟨j,by omega,rfl⟩,h⟩))
        have C:=U (show decide (rs[j].name=I)=false->∀z (h:z<rs.length),z<j+1->decide (rs[z].name=I)=false from fun h0 z hz hzk=>by
         rcases Y1.1 hzk with h1|h1
         . exact a9.o z hz h1
         . subst h1;exact h0)
        obtain ⟨nj,f6⟩:=O1 (rs[j].name);rw [<- f6] at g0 b7 F C;obtain ⟨y,hy⟩:=O1 (decide (nj=I));have hq:(nj.toList == I.toList)=y:=by rw [hy];exact b7.o
        rw [<- hy] at F C;clear f6 hy b7 ha;go_wp2_with fail;go_quiet (fail);clear h0 g0 N;cases y
        case false =>
         have c2:=U (C.o rfl);go_wp2;go_roundw
         case rel=>exact ⟨j+1,by omega,by go_num,c2.o,Below.drewN d5.o _⟩
         case measure=>simp [intOf];omega
        case true => have a:=U (F.o rfl);have h8:=U (L.o.trans (g.o.mono L.o.size));go_wp2;go_ret;exact ⟨qz a.o.symm,Below.drewN h8.o _⟩
       case neg =>
        obtain rfl:j=m:=by omega
        have j3:decide ((j:Int)<(j:Int))=false:=by simp
        have c2:=U (c1.o (by
         rw [List.any_eq_false];intro y hy;obtain ⟨z,hz,rfl⟩:=M8.1 hy;have:=a9.o z (by omega) (by omega);simpa using this))
        have i0:=U (c0.o (by first|exact rfl|exact trivial));go_wp2;go_roundw
        case rel=>exact ⟨j+1,by omega,by go_num,i0.o,c2.o,g.o⟩
        case measure=>simp [intOf];omega
     case neg =>
      obtain rfl:m=K:=by omega
      have m3:decide ((m:Int)<(m:Int))=false:=by simp
      have T:=O0 (M=true) (c4.o.trans (wZ (by rw [<- u.o];exact h5) (fun j f=>X.o j f (by rw [u.o];exact f)) (fun j f=>Y.o j f (by rw [u.o];exact f))));have d6:=U (c5.o T.o wr d.o);clear X Y;go_wp2_with fail;refine d6.o.mono ?_;clear d6 c5 q0 N q2 q3 q4 q5;rintro r w6 ⟨an,cn,ai,ci,rfl,g4,f4⟩;have e7:=U (tF J _ w6 (d1.o T.o).2 (Rep.carry (J8 _) lz (fun _ _ _=>rfl) _ _ g4));rw [(d1.o T.o).1] at e7;have d4:=U (O2 d f4);clear g4 f4;go_wp2_with fail;refine e7.o.mono ?_;rintro r w7 ⟨rfl,f5⟩;have h7:=U (O2 L (O2 d4 f5));clear f5;go_wp2;go_ret;exact ⟨qz T.o.symm,h7.o⟩
 case false =>
  rw [Z5 (by decide)] at HV;by_cases hr0:0<K
  case pos =>
   have n1:decide ((0:Int)<(K:Int))=true:=by rw [Q6];omega
   have a:=U (show M=false by
    rw [HV.o,show rs.isEmpty=false from by
     cases rs with
     | nil=>have:=u.o;simp at this;omega
     | cons _ _=>rfl,V0,N3])
   go_wp2;go_ret;exact ⟨qz a.o.symm,L.o.trans (d3.o.mono L.o.size)⟩
  have n1:decide ((0:Int)<(K:Int))=false:=by rw [Y4];omega
  have i7:=O0 (rs=[]) (List.length_eq_zero_iff.1 (by rw [<- u.o];omega));go_wp2_with fail;refine (g9.o w2 d3.o).mono ?_;clear g9 q0 N q2 q3 q4 q5;rintro e w3 ⟨rfl,i5⟩;have h6:=U (O2 d3 i5);clear i5;obtain ⟨q0,N,q2,q3,q4,q5⟩:=HC.o w3 h6.o;cases bm
  case false => have a:=U (show M=false by rw [HV.o,N3,N3]);go_wp2;go_ret;exact ⟨qz a.o.symm,L.o.trans (h6.o.mono L.o.size)⟩
  have HK:=O0 (zg l=false->M=false) (fun h=>by rw [HV.o,h];rfl);have HY:=O0 (zg l=true->M=zn rs) (fun h=>by rw [HV.o,h,i7.o];rfl);clear HV hr0;go_wp2;clear a1 a2 q0 N q2 q3 q4 q5;go_loopw [3,4,5,6] (fun ls i _ _ wr=>∃(k:Nat) (s:ByteArray),k<=n/\i=.int .i64 k/\ls=.string s/\(∀j (h:j<l.length),j<k->ok2 l[j]=true)/\qe ((Go.Proofs.YthgembbgcbaghaaGreatDoor.ids l).take k)=true/\(∀h:k - 1<l.length,1<=k->s=id2 l[k-1])/\Below W.heap.size W wr) (fun _ i _ _ _=>n - (intOf i).toNat)
  case atStart=>exact ⟨0,⟨#[]⟩,by omega,rfl,rfl,fun j _ h=>by omega,rfl,fun _ h=>by omega,h6.o⟩
  case round =>
   obtain ⟨k,s,hk,rfl,rfl,e8,g5,d0,b0⟩:=hrel;have Q:=U e8;have Z:=U g5;have a0:=U d0;have o:=U b0;clear e8 g5 d0 b0;have e6:=O0 ((Go.Proofs.YthgembbgcbaghaaGreatDoor.ids l).length=n) ((J9 ..).trans S.o.symm);obtain ⟨q0,N,q2,q3,q4,q5⟩:=HC.o wr o.o;by_cases hlt:k<n
   case pos =>
    have a6:k<l.length:=by rw [<- S.o];exact hlt
    obtain ⟨b,q,ha,_,hb,G,P⟩:=(HI.o wr o.o).keys.at k a6;subst ha;dsimp only at G P;have a8:=HF.o.keys l[k] (J7 a6);have c:=U (fun h=>HK.o (wB (l:=l) a6 h));have B:=U (show ok2 l[k]=true->(k=0\/Op.bytesLess s.toList (id2 l[k]).toList=true)->(∀j (h:j<l.length),j<k+1->ok2 l[j]=true)/\qe ((Go.Proofs.YthgembbgcbaghaaGreatDoor.ids l).take (k+1))=true/\(∀h:k<l.length,1<=k+1->id2 l[k]=id2 l[k]) from fun ho hle=>by
     refine ⟨fun j f hjk=>?_,?_,fun _ _=>rfl⟩
     . rcases Y1.1 hjk with h1|h1
       . exact Q.o j f h1
       . subst h1;exact ho
     . rcases N4 k with h0|h0
       . subst h0;cases hq:Go.Proofs.YthgembbgcbaghaaGreatDoor.ids l with
         | nil=>rfl
         | cons x r=>rfl
       . rw [jh (Go.Proofs.YthgembbgcbaghaaGreatDoor.ids l) k h0 (by have:=e6.o;omega),Z.o,X4];have h3:=hle.resolve_left (by omega);rw [a0.o (by omega) h0] at h3;simpa [Go.Proofs.YthgembbgcbaghaaGreatDoor.ids] using h3)
    have R:=O0 (1<=k->Op.bytesLess s.toList (id2 l[k]).toList=false->M=false) (fun h1 h2=>HK.o (vN (l:=l) (k:=k) h1 a6 (by rw [<- a0.o (by omega) h1];exact h2)));obtain ⟨x,H⟩:∃x:Key2,x=l[k]:=⟨_,rfl⟩;have i3:=U (show id2 x=id2 l[k] by rw [H]);replace G:=G.trans (X1 (fun z:Key2=>some (Value.string z.1)) H.symm);replace P:=P.trans (X1 (fun z:Key2=>some (Value.string z.2)) H.symm);rw [<- H] at a8 c B R;clear H Q a0 Z;obtain ⟨xs,xp⟩:=x;replace G:wr.cell? ⟨b,q+k * 2,none⟩=some (.string xs):=G;replace P:wr.cell? ⟨b,q+k * 2+1,none⟩=some (.string xp):=P;have d0:xs.size<=300:=a8.1;have i9:xp.size<=300:=a8.2;have A:=U (cZ xs xp wr (by omega) (by omega));unfold xx at A;obtain ⟨ID,c6⟩:∃ID:ByteArray,ID=⟨(jK xs.data.toList xp.data.toList).toArray⟩:=⟨_,rfl⟩;rw [<- c6] at A;have e2:id2 (xs,xp)=ID:=c6.symm;have d7:=O0 (ID=id2 l[k]) (e2.symm.trans i3.o);rw [e2] at B R;have c3:=O0 (ok2 (xs,xp)=zh xs.data.toList xp.data.toList) rfl;obtain ⟨ok,g3⟩:=O1 (zh xs.data.toList xp.data.toList);rw [<- g3] at c3 A;rw [c3.o] at c B;clear a8 c6 e2 g3 c3;go_wp2_with fail;refine A.o.mono ?_;clear A G P q0 N q2 q3 q4 q5;rintro r w4 ⟨rfl,f3⟩;have b5:=U (O2 o f3);have v:=U (L.o.trans (b5.o.mono L.o.size));clear f3;cases ok
    case false => have a:=U (c.o rfl);go_wp2;go_ret;exact ⟨qz a.o.symm,v.o⟩
    case true =>
     by_cases h0:k=0
     case pos =>
      have HN:=U (B.o rfl (.inl h0));have a4:decide (0<(k:Int))=false:=Z7 (by omega);go_wp2;go_roundw
      case rel => exact ⟨k+1,ID,by omega,by go_num,rfl,HN.o.1,HN.o.2.1,fun _ _=>d7.o,b5.o⟩
      case measure=>simp [intOf];omega
     case neg =>
      have a4:decide (0<(k:Int))=true:=J2 (by omega);have p:=U (cu s ID);cases lt:Op.bytesLess ID.toList s.toList
      case true => rw [lt,Bool.true_or] at p;have a:=U (R.o (by omega) (by rw [p.o];rfl));go_wp2;go_ret;exact ⟨qz a.o.symm,v.o⟩
      case false =>
       cases eqq:(ID.toList == s.toList)
       case true => rw [lt,eqq] at p;have a:=U (R.o (by omega) (by rw [p.o];rfl));go_wp2;go_ret;exact ⟨qz a.o.symm,v.o⟩
       case false =>
        rw [lt,eqq] at p;have HN:=U (B.o rfl (.inr p.o));go_wp2;go_roundw
        case rel => exact ⟨k+1,ID,by omega,by go_num,rfl,HN.o.1,HN.o.2.1,fun _ _=>d7.o,b5.o⟩
        case measure=>simp [intOf];omega
   case neg =>
    obtain rfl:k=n:=by omega
    have a3:decide ((k:Int)<(k:Int))=false:=by simp
    have c4:=U (HY.o (by
     refine q9.2 ⟨by rw [<- S.o];exact h4,fun x hx=>?_,?_⟩
     . obtain ⟨j,f,rfl⟩:=Y3 hx;exact Q.o j f (by rw [S.o];exact f)
     . have:=Z.o;rwa [Z8 (by rw [e6.o];exact J0 _)] at this))
    clear hlt Q Z a0 HK HY;go_wp2;clear q0 N q2 q3 q4 q5 a3;go_loopw [7,8] (fun i _ wr=>∃m:Nat,m<=K/\i=.int .i64 m/\(∀j (h:j<rs.length),j<m->qt rs[j]=true)/\(∀j (h:j<rs.length),j<m->((rs.take j).any fun y=>decide (y.name=rs[j].name))=false)/\Below W.heap.size W wr) (fun i _ _=>K - (intOf i).toNat)
    case atStart=>exact ⟨0,by omega,rfl,fun j _ h=>by omega,fun j _ h=>by omega,o.o⟩
    case round =>
     obtain ⟨m,hm,rfl,g1,g2,b3⟩:=hrel;have X:=U g1;have Y:=U g2;have d:=U b3;clear g1 g2 b3 o;obtain ⟨q0,N,q2,q3,q4,q5⟩:=HC.o wr d.o;by_cases hmr:m<K
     case pos =>
      have a7:m<rs.length:=by rw [<- u.o];exact hmr
      obtain ⟨b,q,ha,-,hb,ia,ic,pa,pc,qa,qc,G,P,e2,e3,e4,e5,-,-,-,c9⟩:=(HI.o wr d.o).roles.at m a7;subst ha;have m1:(0:Int)<=(m:Int):=by omega
      have m2:(m:Int)<(K:Int):=by omega
      have m3:decide ((m:Int)<(K:Int))=true:=by simpa using hmr
      have c:=U (fun h=>c4.o.trans (vF (l:=rs) a7 h));have E:=U (fun h=>c4.o.trans (kW (l:=rs) a7 h));have c0:=U (show qt rs[m]=true->∀j (h:j<rs.length),j<m+1->qt rs[j]=true from fun h0 j f hjk=>by
       rcases Y1.1 hjk with h1|h1
       . exact X.o j f h1
       . subst h1;exact h0)
      have c1:=U (show ((rs.take m).any fun y=>decide (y.name=rs[m].name))=false->∀j (h:j<rs.length),j<m+1->((rs.take j).any fun y=>decide (y.name=rs[j].name))=false from fun h0 j f hjk=>by
       rcases Y1.1 hjk with h1|h1
       . exact Y.o j f h1
       . subst h1;exact h0)
      have b9:=U (HF.o.roles rs[m] (J7 a7));have V:=O0 (∀w':World,Below wr.heap.size wr w'->w'.cell? ⟨b,q+m * 6,none⟩=some (.string rs[m].name)) (fun w' h=>((Y6 (h.block b hb)).trans G));obtain ⟨x,hx⟩:=O1 (rs[m]);rw [<- hx] at G P e2 e3 e4 e5 c9 c E c0 c1 b9 V;clear hx X Y;obtain ⟨I,⟨xt,b4⟩,tm,ps,qs⟩:=x;dsimp only at G P e2 e3 e4 e5 E c1 V;have D:=U (dI I xt b4 tm ps qs ia pa qa ic pc qc wr c9 b9.o);obtain ⟨b1,e9⟩:∃b,b=qt ⟨I,⟨xt,b4⟩,tm,ps,qs⟩:=⟨_,rfl⟩;rw [<- e9] at D c c0;clear e9 c9 b9;go_wp2_with fail;refine D.o.mono ?_;clear D G P e2 e3 e4 e5 q0 N q2 q3 q4 q5;rintro r w5 ⟨rfl,a5⟩;have b6:=U (O2 d a5);have h9:=O0 (∀w':World,Below w5.heap.size w5 w'->w'.cell? ⟨b,q+m * 6,none⟩=some (.string I)) (fun w' h=>V.o w' (a5.trans (h.mono a5.size)));have v:=U (L.o.trans (b6.o.mono L.o.size));have d2:=U (Z0 w5.heap.size w5);clear a5 V;cases b1
      case false => have a:=U (c.o rfl);go_wp2;go_ret;exact ⟨qz a.o.symm,v.o⟩
      case true =>
      go_wp2;go_loopw [8] (fun i wr=>∃j:Nat,j<=m/\i=.int .i64 j/\(∀z (h:z<rs.length),z<j->decide (rs[z].name=I)=false)/\Below w5.heap.size w5 wr) (fun i _=>m - (intOf i).toNat)
      case atStart=>exact ⟨0,by omega,rfl,fun z _ h=>by omega,d2.o⟩
      case round =>
       obtain ⟨j,f,rfl,f7,c7⟩:=hrel;have a9:=U f7;have d5:=U c7;have g:=U (O2 b6 c7);clear f7 c7 d2;by_cases hjm:j<m
       case pos =>
        have i4:j<rs.length:=by omega
        obtain ⟨b2,g6,ha,-,f0,ja,jc,va,vc,sa,sc,g0,-⟩:=(HI.o wr g.o).roles.at j i4;have h0:=h9.o wr d5.o;have N:=(HC.o wr g.o).2.1;obtain ⟨rfl,rfl⟩:b=b2/\q=g6:=by simpa using ha
        have j1:(0:Int)<=(j:Int):=by omega
        have j2:(j:Int)<(K:Int):=by omega
        have j3:decide ((j:Int)<(m:Int))=true:=by simpa using hjm
        have b7:=O0 ((rs[j].name.toList == I.toList)=decide (rs[j].name=I)) ba_eq;have F:=U (show decide (rs[j].name=I)=true->M=false from fun h=>E.o (by
         rw [za6];exact ⟨rs[j],M8.2 ⟨j,by omega,rfl⟩,h⟩))
        have C:=U (show decide (rs[j].name=I)=false->∀z (h:z<rs.length),z<j+1->decide (rs[z].name=I)=false from fun h0 z hz hzk=>by
         rcases Y1.1 hzk with h1|h1
         . exact a9.o z hz h1
         . subst h1;exact h0)
        obtain ⟨nj,f6⟩:=O1 (rs[j].name);rw [<- f6] at g0 b7 F C;obtain ⟨y,hy⟩:=O1 (decide (nj=I));have hq:(nj.toList == I.toList)=y:=by rw [hy];exact b7.o
        rw [<- hy] at F C;clear f6 hy b7 ha;go_wp2_with fail;go_quiet (fail);clear h0 g0 N;cases y
        case false =>
         have c2:=U (C.o rfl);go_wp2;go_roundw
         case rel=>exact ⟨j+1,by omega,by go_num,c2.o,Below.drewN d5.o _⟩
         case measure=>simp [intOf];omega
        case true => have a:=U (F.o rfl);have h8:=U (L.o.trans (g.o.mono L.o.size));go_wp2;go_ret;exact ⟨qz a.o.symm,Below.drewN h8.o _⟩
       case neg =>
        obtain rfl:j=m:=by omega
        have j3:decide ((j:Int)<(j:Int))=false:=by simp
        have c2:=U (c1.o (by
         rw [List.any_eq_false];intro y hy;obtain ⟨z,hz,rfl⟩:=M8.1 hy;have:=a9.o z (by omega) (by omega);simpa using this))
        have i0:=U (c0.o (by first|exact rfl|exact trivial));go_wp2;go_roundw
        case rel=>exact ⟨j+1,by omega,by go_num,i0.o,c2.o,g.o⟩
        case measure=>simp [intOf];omega
     case neg =>
      obtain rfl:m=K:=by omega
      have m3:decide ((m:Int)<(m:Int))=false:=by simp
      have T:=O0 (M=true) (c4.o.trans (wZ (by rw [<- u.o];exact h5) (fun j f=>X.o j f (by rw [u.o];exact f)) (fun j f=>Y.o j f (by rw [u.o];exact f))));have d6:=U (c5.o T.o wr d.o);clear X Y;go_wp2_with fail;refine d6.o.mono ?_;clear d6 c5 q0 N q2 q3 q4 q5;rintro r w6 ⟨an,cn,ai,ci,rfl,g4,f4⟩;have e7:=U (tF J _ w6 (d1.o T.o).2 (Rep.carry (J8 _) lz (fun _ _ _=>rfl) _ _ g4));rw [(d1.o T.o).1] at e7;have d4:=U (O2 d f4);clear g4 f4;go_wp2_with fail;refine e7.o.mono ?_;rintro r w7 ⟨rfl,f5⟩;have h7:=U (O2 L (O2 d4 f5));clear f5;go_wp2;go_ret;exact ⟨qz T.o.symm,h7.o⟩
theorem rN (l:List Key2) (rs:List DelegV) (t bits:Int) (ids:List ByteArray) (pre:ByteArray) (ka ra ba:Option Addr) (kc rc bc:Nat) (w:World) (hI:DelegsIn w 0 w.heap.size ⟨l,rs,⟨bits,pre,⟨t,ids⟩⟩⟩ ka ra ba) (hf:DelegsFits ⟨l,rs,⟨bits,pre,⟨t,ids⟩⟩⟩) (hrc:rs.length<=rc) :
 Calls Tryz.prog 40 #[.agg #[.slice ka l.length kc,.slice ra rs.length rc,.int .i64 t,.slice ba ids.length bc,.int .i64 bits,.string pre]] w (rO (xh ⟨l,rs,⟨bits,pre,⟨t,ids⟩⟩⟩) w):=by
 obtain ⟨W,u⟩:=O1 ((w.alloc (.cells #[.slice ka l.length kc,.slice ra rs.length rc,.int .i64 t,.slice ba ids.length bc,.int .i64 bits,.string pre] 35)).alloc (.cells #[.int .u8 0,.int .i64 0,.string ⟨#[]⟩,.slice none 0 0,.slice none 0 0] 25));have A:(w.alloc (.cells #[.slice ka l.length kc,.slice ra rs.length rc,.int .i64 t,.slice ba ids.length bc,.int .i64 bits,.string pre] 35)).heap.size=w.heap.size+1:=by simp
 have v:Below w.heap.size w W:=by rw [u];exact ((Z0 _ _).alloc lz _).alloc (by simp) _
 have H:W.heap[w.heap.size]?=some (.cells #[.slice ka l.length kc,.slice ra rs.length rc,.int .i64 t,.slice ba ids.length bc,.int .i64 bits,.string pre] 35 (0,0)):=by rw [u];exact zl w _ _
 have x:W.rowIs (w.heap.size+1) 25 5 (qZ (.int .u8 0) (.int .i64 0) (.string ⟨#[]⟩) (.slice none 0 0) (.slice none 0 0)):=(by have:=qh (w.alloc (.cells #[.slice ka l.length kc,.slice ra rs.length rc,.int .i64 t,.slice ba ids.length bc,.int .i64 bits,.string pre] 35)) (.int .u8 0) (.int .i64 0) (.string ⟨#[]⟩) (.slice none 0 0) (.slice none 0 0) 25;rw [A,<- u] at this;exact this);have Z:=U (show ∀w':World,Below W.heap.size W w'->w'.cell? ⟨w.heap.size,0,none⟩=some (.slice ka l.length kc)/\w'.cell? ⟨w.heap.size,1,none⟩=some (.slice ra rs.length rc)/\w'.cell? ⟨w.heap.size,2,none⟩=some (.int .i64 t)/\w'.cell? ⟨w.heap.size,3,none⟩=some (.slice ba ids.length bc)/\w'.cell? ⟨w.heap.size,4,none⟩=some (.int .i64 bits)/\w'.cell? ⟨w.heap.size,5,none⟩=some (.string pre) from fun w' h=>by
  have y:=(h.block _ (qx H)).trans H;exact ⟨qq y rfl,qq y rfl,qq y rfl,qq y rfl,qq y rfl,qq y rfl⟩)
 have HI:=O0 (∀w':World,Below W.heap.size W w'->DelegsIn w' 0 w'.heap.size ⟨l,rs,⟨bits,pre,⟨t,ids⟩⟩⟩ ka ra ba) (fun w' h=>hI.below (v.trans (h.mono v.size)) lz lz (Z3 v.size h.size));have q:=U x;have Y:=U v;have s:=U u;have i:=U (lZ l rs t bits ids pre ka ra ba kc rc bc W (HI.o W (Z0 _ _)) hf hrc);obtain ⟨C,f⟩:=O1 (qC ⟨l,rs,⟨bits,pre,⟨t,ids⟩⟩⟩);rw [<- f] at i;have o:=U f;have p:=O0 (C=true->∀w':World,Below W.heap.size W w'->_) (fun hm w' h=>ux l rs t bits ids pre ka ra ba kc rc bc w' (HI.o w' h) (by rw [<- f];exact hm) hrc);clear u A v H x hI hf hrc f;obtain ⟨I,K,L,M,N,P⟩:=Z.o W (Z0 _ _);go_enter Tryz.func40,Tryz.ntmps40;go_upto_region 1 with fail
 rw [<- s.o];clear s;go_wp2_with fail;refine i.o.mono ?_;clear i I K L M N P;rintro r X ⟨rfl,c⟩;have D:=U c;obtain ⟨I,K,L,M,N,P⟩:=Z.o X c;have d:=qj c q.o q.o.lt;have e:=U d;have g:=U (O2 Y c);clear c;cases C with
 | false => have B:=U (show xh ⟨l,rs,⟨bits,pre,⟨t,ids⟩⟩⟩=(zo,3) by unfold xh;rw [<- o.o];rfl);obtain ⟨Q,R,S,T,V⟩:=rc5 d;obtain ⟨s0,s1,s2,s3,s4⟩:=rf5 d;simp only [qZ] at Q R S T V;clear d;go_wp2;refine J3 (qk Tryz.results40 _ _ (w.heap.size+1) 25 _ (0,0) _ rfl (qm (set5 _ _ _ _ _ e.o)) J5 rfl (by kernel_rfl) _ rfl) rfl ?_;rw [B.o];exact pP ⟨rfl,zx _ _ _ _ _ g.o (by omega)⟩
 | true => have B:=U (show xh ⟨l,rs,⟨bits,pre,⟨t,ids⟩⟩⟩=(qf ⟨l,rs,⟨bits,pre,⟨t,ids⟩⟩⟩,0) by unfold xh;rw [<- o.o];rfl);have k:=U (p.o rfl X D.o);have a:=O0 ((qf ⟨l,rs,⟨bits,pre,⟨t,ids⟩⟩⟩).kind=5/\(qf ⟨l,rs,⟨bits,pre,⟨t,ids⟩⟩⟩).n=0/\(qf ⟨l,rs,⟨bits,pre,⟨t,ids⟩⟩⟩).t=⟨#[]⟩) (⟨rfl,rfl,rfl⟩);obtain ⟨J,hJ⟩:=O1 (qf ⟨l,rs,⟨bits,pre,⟨t,ids⟩⟩⟩);rw [<- hJ] at B k a;clear hJ d p;go_wp2_with fail;refine k.o.mono ?_;clear k I K L M N P;rintro r w2 ⟨an,cn,ai,ci,rfl,z,m⟩;have F:=U z;have b:=qj m e.o e.o.lt;have G:=U b;have E:=U (O2 g m);have HZ:=O0 (w.heap.size+2<=X.heap.size) e.o.lt;obtain ⟨Q,R,S,T,V⟩:=rc5 b;obtain ⟨s0,s1,s2,s3,s4⟩:=rf5 b;simp only [qZ] at Q R S T V;clear b z m;go_wp2;refine J3 (qk Tryz.results40 _ _ (w.heap.size+1) 25 _ (0,0) _ rfl (qm (set5 _ _ _ _ _ G.o)) J5 rfl (by kernel_rfl) _ rfl) rfl ?_;rw [B.o];refine ⟨an,cn,ai,ci,by rw [a.o.1,a.o.2.1,a.o.2.2];rfl,?_,zx _ _ _ _ _ E.o (by omega)⟩;dsimp only;rw [a.o.1,a.o.2.1,a.o.2.2];exact Rep.carry (by have:=HZ.o;omega) (show w2.heap.size<=_ by simp [World.setCell]) (fun j hj _=>xI _ _ _ _ _ (by have:=HZ.o;omega)) _ _ F.o
theorem rS {r:DelegsV}:(xh r).1.wt<=4294967296:=by
 unfold xh;split
 . rename_i h;exact vS (by rw [<- q6];exact h)
 . decide
theorem uc (l:List Key2) (rs:List DelegV) (t bits:Int) (ids:List ByteArray) (pre:ByteArray) (ka ra ba:Option Addr) (kc rc bc:Nat) (l2:List Key2) (rs2:List DelegV) (t2 bits2:Int) (ids2:List ByteArray) (pre2:ByteArray) (kb rb bb:Option Addr) (kd rd bd:Nat) (w:World) (G:DelegsGot w ⟨l,rs,⟨bits,pre,⟨t,ids⟩⟩⟩ ka ra ba kc rc bc) (G2:DelegsGot w ⟨l2,rs2,⟨bits2,pre2,⟨t2,ids2⟩⟩⟩ kb rb bb kd rd bd) (hT:Tabs w) :
 Calls Tryz.prog 9 #[.agg #[.slice ka l.length kc,.slice ra rs.length rc,.int .i64 t,.slice ba ids.length bc,.int .i64 bits,.string pre],.agg #[.slice kb l2.length kd,.slice rb rs2.length rd,.int .i64 t2,.slice bb ids2.length bd,.int .i64 bits2,.string pre2]] w fun e w'=>e=.returned (.bool true)/\Below w.heap.size w w':=by
 have a6:=O0 (∀w':World,Below w.heap.size w w'->Tabs w') (fun w' h=>hT.below h);have k:=U (Z0 w.heap.size w);have u:=U G.rows;have v:=U G2.rows;have Z:=O0 (rs.length<=rc) G.cr;have c7:=O0 (NotLongD ⟨l,rs,⟨bits,pre,⟨t,ids⟩⟩⟩->DelegsFits ⟨l,rs,⟨bits,pre,⟨t,ids⟩⟩⟩) (fun h=>vE h G.bits G.thr (fun x hx=>(G.each x hx).1));have N:=O0 (l.length<=9223372036854775807/\rs.length<=9223372036854775807/\(∀x ∈ rs,Lens x)/\ids.length<=9223372036854775807) (⟨G.lk,G.lr,(fun x hx=>⟨(G.each x hx).2.2.1,(G.each x hx).2.2.2.1,(G.each x hx).2.2.2.2⟩),G.lb⟩);have b2:=O0 (NotLongD ⟨l2,rs2,⟨bits2,pre2,⟨t2,ids2⟩⟩⟩->DelegsFits ⟨l2,rs2,⟨bits2,pre2,⟨t2,ids2⟩⟩⟩) (fun h=>vE h G2.bits G2.thr (fun x hx=>(G2.each x hx).1));have y:=O0 (l2.length<=9223372036854775807/\rs2.length<=9223372036854775807/\(∀x ∈ rs2,Lens x)/\ids2.length<=9223372036854775807) (⟨G2.lk,G2.lr,(fun x hx=>⟨(G2.each x hx).2.2.1,(G2.each x hx).2.2.2.1,(G2.each x hx).2.2.2.2⟩),G2.lb⟩);clear hT G G2;go_enter Tryz.func9,Tryz.ntmps9;obtain ⟨bR,c1⟩:=O1 w.heap.size;obtain ⟨w1,a8⟩:=O1 (w.alloc (.cells #[.slice ka l.length kc,.slice ra rs.length rc,.int .i64 t,.slice ba ids.length bc,.int .i64 bits,.string pre] 35));have c:Below w.heap.size w w1:=by rw [a8];exact (Z0 _ _).alloc lz _
 have f:=U (zS a8 c1);replace k:=U (O2 k c);replace u:=U (u.o.below c lz lz c.size);replace v:=U (v.o.below c lz lz c.size);have P:=U (And.intro a8 c1);clear c a8 c1;obtain ⟨bX,c4⟩:=O1 w1.heap.size;obtain ⟨Q,a9⟩:=O1 (w1.alloc (.cells #[.slice kb l2.length kd,.slice rb rs2.length rd,.int .i64 t2,.slice bb ids2.length bd,.int .i64 bits2,.string pre2] 35));have c:Below w1.heap.size w1 Q:=by rw [a9];exact (Z0 _ _).alloc lz _
 have i:=U (zS a9 c4);replace k:=U (O2 k c);replace f:=U ((c.block _ (qx f.o)).trans f.o);replace u:=U (u.o.below c lz lz c.size);replace v:=U (v.o.below c lz lz c.size);have b7:=U (And.intro a9 c4);clear c a9 c4;go_upto_region 1 with fail
 rw [<- P.o.1,<- b7.o.1,<- P.o.2,show bR+1=bX by rw [b7.o.2,P.o.1,P.o.2];simp];clear P b7;obtain ⟨R,S,T,W,X,Y⟩:=xc f.o;go_wp2_with fail;refine (uA l rs t bits ids pre ka ra ba kc rc bc Q u.o N.o.1 N.o.2.1 N.o.2.2.1 N.o.2.2.2).mono ?_;clear R S T W X Y;rintro ee w3 ⟨b,rfl,hn,j⟩;replace k:=U (O2 k j);replace f:=U ((j.block _ (qx f.o)).trans f.o);replace i:=U ((j.block _ (qx i.o)).trans i.o);replace u:=U (u.o.below j lz lz j.size);replace v:=U (v.o.below j lz lz j.size);have HN:=U hn;clear hn j;cases b
 case true =>
  go_wp2_with fail
  refine (co w3 (a6.o w3 k.o)).mono ?_;rintro ee wz ⟨rfl,hz⟩;have b4:=U (O2 k hz);clear hz;go_wp2;go_ret;exact ⟨rfl,b4.o⟩
 case false =>
  have HF:=U (c7.o (HN.o rfl));clear HN c7 N;obtain ⟨e4,e5,e6,e7,e8,e9⟩:=xc i.o;go_wp2_with fail;refine (uA l2 rs2 t2 bits2 ids2 pre2 kb rb bb kd rd bd w3 v.o y.o.1 y.o.2.1 y.o.2.2.1 y.o.2.2.2).mono ?_;clear e4 e5 e6 e7 e8 e9;rintro ee w4 ⟨b,rfl,hn,j⟩;replace k:=U (O2 k j);replace f:=U ((j.block _ (qx f.o)).trans f.o);replace i:=U ((j.block _ (qx i.o)).trans i.o);replace u:=U (u.o.below j lz lz j.size);replace v:=U (v.o.below j lz lz j.size);have HN:=U hn;clear hn j;cases b
  case true =>
   go_wp2_with fail
   refine (co w4 (a6.o w4 k.o)).mono ?_;rintro ee wz ⟨rfl,hz⟩;have b4:=U (O2 k hz);clear hz;go_wp2;go_ret;exact ⟨rfl,b4.o⟩
  case false =>
   have HG:=U (b2.o (HN.o rfl));clear HN b2 y;go_upto_region 3 with fail
   obtain ⟨r0,a7⟩:=O1 (xh ⟨l,rs,⟨bits,pre,⟨t,ids⟩⟩⟩);have b6:=U (fO l rs t bits ids pre ka ra ba kc rc bc w4 u.o HF.o Z.o (a6.o w4 k.o));have c9:=O0 (∀w':World,Below w4.heap.size w4 w'->Calls Tryz.prog 40 #[.agg #[.slice ka l.length kc,.slice ra rs.length rc,.int .i64 t,.slice ba ids.length bc,.int .i64 bits,.string pre]] w' (rO r0 w')) (fun w' h=>by rw [a7];exact rN l rs t bits ids pre ka ra ba kc rc bc w' (u.o.below h lz lz h.size) HF.o Z.o);have d0:=U (show r0.1.wt<=4294967296 by rw [a7];exact rS);rw [<- a7] at b6;clear a7;obtain ⟨J,M⟩:=r0;have m:=U (Z0 w4.heap.size w4);obtain ⟨R,S,T,W,X,Y⟩:=xc f.o;go_wp2_with fail;refine (b6.o).mono ?_;clear R S T W X Y;rintro ee w5 ⟨C,E,B,D,rfl,hr,j⟩;dsimp only at hr ⊢;replace k:=U (O2 k j);replace f:=U ((j.block _ (qx f.o)).trans f.o);replace i:=U ((j.block _ (qx i.o)).trans i.o);replace u:=U (u.o.below j lz lz j.size);replace v:=U (v.o.below j lz lz j.size);replace m:=U (O2 m j);have A:=U (hr.carry (J8 _) lz (fun _ _ _=>rfl));clear hr j b6;obtain ⟨bV,c2⟩:=O1 w5.heap.size;obtain ⟨w6,b0⟩:=O1 (w5.alloc (.cells #[.int .u8 J.kind,.int .i64 J.n,.string J.t,.slice C J.names.length E,.slice B J.items.length D] 25));have c:Below w5.heap.size w5 w6:=by rw [b0];exact (Z0 _ _).alloc lz _
   have z:=U (zS b0 c2);replace k:=U (O2 k c);replace f:=U ((c.block _ (qx f.o)).trans f.o);replace i:=U ((c.block _ (qx i.o)).trans i.o);replace u:=U (u.o.below c lz lz c.size);replace v:=U (v.o.below c lz lz c.size);replace A:=U (A.o.below c lz lz c.size);replace m:=U (O2 m c);have b9:=U (And.intro b0 c2);clear c b0 c2;go_upto_region 4 with fail
   rw [<- b9.o.1,<- b9.o.2];clear b9;obtain ⟨R,S,T,W,X,Y⟩:=xc f.o;go_wp2_with fail;refine (c9.o w6 m.o).mono ?_;clear R S T W X Y;rintro ee w7 ⟨H,L,F,I,rfl,hr,j⟩;dsimp only at hr ⊢;replace k:=U (O2 k j);replace f:=U ((j.block _ (qx f.o)).trans f.o);replace i:=U ((j.block _ (qx i.o)).trans i.o);replace z:=U ((j.block _ (qx z.o)).trans z.o);replace u:=U (u.o.below j lz lz j.size);replace v:=U (v.o.below j lz lz j.size);replace A:=U (A.o.below j lz lz j.size);replace m:=U (O2 m j);have b5:=U (hr.carry (J8 _) lz (fun _ _ _=>rfl));clear hr j c9;obtain ⟨bW,c3⟩:=O1 w7.heap.size;obtain ⟨p,b1⟩:=O1 (w7.alloc (.cells #[.int .u8 J.kind,.int .i64 J.n,.string J.t,.slice H J.names.length L,.slice F J.items.length I] 25));have c:Below w7.heap.size w7 p:=by rw [b1];exact (Z0 _ _).alloc lz _
   have d1:=U (zS b1 c3);replace k:=U (O2 k c);replace f:=U ((c.block _ (qx f.o)).trans f.o);replace i:=U ((c.block _ (qx i.o)).trans i.o);replace z:=U ((c.block _ (qx z.o)).trans z.o);replace u:=U (u.o.below c lz lz c.size);replace v:=U (v.o.below c lz lz c.size);replace A:=U (A.o.below c lz lz c.size);replace b5:=U (b5.o.below c lz lz c.size);replace m:=U (O2 m c);have c0:=U (And.intro b1 c3);clear c b1 c3;go_upto_region 5 with fail
   rw [<- c0.o.1,<- c0.o.2];clear c0;have r:=O0 (∀w':World,Below p.heap.size p w'->w'.heap[bR]?=some (.cells #[.slice ka l.length kc,.slice ra rs.length rc,.int .i64 t,.slice ba ids.length bc,.int .i64 bits,.string pre] 35 (0,0))/\w'.heap[bX]?=some (.cells #[.slice kb l2.length kd,.slice rb rs2.length rd,.int .i64 t2,.slice bb ids2.length bd,.int .i64 bits2,.string pre2] 35 (0,0))/\w'.heap[bV]?=some (.cells #[.int .u8 J.kind,.int .i64 J.n,.string J.t,.slice C J.names.length E,.slice B J.items.length D] 25 (0,0))/\w'.heap[bW]?=some (.cells #[.int .u8 J.kind,.int .i64 J.n,.string J.t,.slice H J.names.length L,.slice F J.items.length I] 25 (0,0))) (fun w' h=>⟨(h.block _ (qx f.o)).trans f.o,(h.block _ (qx i.o)).trans i.o,(h.block _ (qx z.o)).trans z.o,(h.block _ (qx d1.o)).trans d1.o⟩);have s:=O0 (∀w':World,Below p.heap.size p w'->DelegsIn w' 0 w'.heap.size ⟨l,rs,⟨bits,pre,⟨t,ids⟩⟩⟩ ka ra ba/\DelegsIn w' 0 w'.heap.size ⟨l2,rs2,⟨bits2,pre2,⟨t2,ids2⟩⟩⟩ kb rb bb/\Tabs w') (fun w' h=>⟨u.o.below h lz lz h.size,v.o.below h lz lz h.size,a6.o w' (O2 k h)⟩);obtain ⟨mb,c6⟩:=O1 (qC ⟨l,rs,⟨bits,pre,⟨t,ids⟩⟩⟩);obtain ⟨eb,c5⟩:=O1 (decide ((⟨l,rs,⟨bits,pre,⟨t,ids⟩⟩⟩:DelegsV)=⟨l2,rs2,⟨bits2,pre2,⟨t2,ids2⟩⟩⟩));have d4:=O0 (∀w':World,Below p.heap.size p w'->Calls Tryz.prog 33 #[.agg #[.slice ka l.length kc,.slice ra rs.length rc,.int .i64 t,.slice ba ids.length bc,.int .i64 bits,.string pre]] w' (fun e w''=>e=.returned (.bool mb)/\Below w'.heap.size w' w'')) (fun w' h=>by rw [c6];exact fI l rs t bits ids pre ka ra ba kc rc bc w' (s.o w' h).1 HF.o Z.o (s.o w' h).2.2);have d5:=O0 (∀w':World,Below p.heap.size p w'->Calls Tryz.prog 41 #[.agg #[.slice ka l.length kc,.slice ra rs.length rc,.int .i64 t,.slice ba ids.length bc,.int .i64 bits,.string pre]] w' (fun e w''=>e=.returned (.bool mb)/\Below w'.heap.size w' w'')) (fun w' h=>by rw [c6];exact lZ l rs t bits ids pre ka ra ba kc rc bc w' (s.o w' h).1 HF.o Z.o);have d6:=O0 (∀w':World,Below p.heap.size p w'->Calls Tryz.prog 42 #[.agg #[.slice ka l.length kc,.slice ra rs.length rc,.int .i64 t,.slice ba ids.length bc,.int .i64 bits,.string pre],.agg #[.slice kb l2.length kd,.slice rb rs2.length rd,.int .i64 t2,.slice bb ids2.length bd,.int .i64 bits2,.string pre2]] w' (fun e w''=>e=.returned (.bool eb)/\Below w'.heap.size w' w'')) (fun w' h=>by rw [c5];exact mc l rs t bits ids pre ka ra ba kc rc bc l2 rs2 t2 bits2 ids2 pre2 kb rb bb kd rd bd w' (s.o w' h).1 (s.o w' h).2.1 HF.o HG.o);have d7:=O0 (∀w':World,Below p.heap.size p w'->Calls Tryz.prog 17 #[.agg #[.slice ka l.length kc,.slice ra rs.length rc,.int .i64 t,.slice ba ids.length bc,.int .i64 bits,.string pre],.agg #[.slice kb l2.length kd,.slice rb rs2.length rd,.int .i64 t2,.slice bb ids2.length bd,.int .i64 bits2,.string pre2]] w' (fun e w''=>e=.returned (.bool eb)/\Below w'.heap.size w' w'')) (fun w' h=>by rw [c5];exact mh l rs t bits ids pre ka ra ba kc rc bc l2 rs2 t2 bits2 ids2 pre2 kb rb bb kd rd bd w' (s.o w' h).1 (s.o w' h).2.1 HF.o HG.o);have e0:=U (show ∀w':World,Below p.heap.size p w'->Calls Tryz.prog 42 #[.agg #[.slice ka l.length kc,.slice ra rs.length rc,.int .i64 t,.slice ba ids.length bc,.int .i64 bits,.string pre],.agg #[.slice ka l.length kc,.slice ra rs.length rc,.int .i64 t,.slice ba ids.length bc,.int .i64 bits,.string pre]] w' (fun e w''=>e=.returned (.bool true)/\Below w'.heap.size w' w'') from fun w' h=>by
    have:=mc l rs t bits ids pre ka ra ba kc rc bc l rs t bits ids pre ka ra ba kc rc bc w' (s.o w' h).1 (s.o w' h).1 HF.o HF.o;rwa [J2 rfl] at this)
   have e1:=U (show ∀w':World,Below p.heap.size p w'->Calls Tryz.prog 39 #[.agg #[.int .u8 J.kind,.int .i64 J.n,.string J.t,.slice C J.names.length E,.slice B J.items.length D],.agg #[.int .u8 J.kind,.int .i64 J.n,.string J.t,.slice H J.names.length L,.slice F J.items.length I]] w' (fun e w''=>e=.returned (.bool true)/\Below w'.heap.size w' w'') from fun w' h=>by
    have:=oG 4294967296 J J _ _ 0 w'.heap.size w' d0.o d0.o lz lz (A.o.below h lz lz h.size) (b5.o.below h lz lz h.size);rwa [(JV.sameB_iff J J).2 rfl] at this)
   have e2:=O0 (∀w':World,Below p.heap.size p w'->Calls Tryz.prog 14 #[] w' (fun e w''=>e=.returned (.bool true)/\Below w'.heap.size w' w'')) (fun w' h=>co w' (s.o w' h).2.2);have p1:(M == M)=true:=by simp
   have p3:(mb == mb)=true:=by simp
   have p4:(eb == eb)=true:=by simp
   clear c6 c5;obtain ⟨V,hV⟩:∃V:List MP,V=[.con (.agg #[.slice ka l.length kc,.slice ra rs.length rc,.int .i64 t,.slice ba ids.length bc,.int .i64 bits,.string pre]),.con (.bool mb),.con (.agg #[.slice ka l.length kc,.slice ra rs.length rc,.int .i64 t,.slice ba ids.length bc,.int .i64 bits,.string pre]),.con (.bool mb),.con (.bool true),.con (.bool true),.con (.agg #[.slice ka l.length kc,.slice ra rs.length rc,.int .i64 t,.slice ba ids.length bc,.int .i64 bits,.string pre]),.con (.agg #[.slice kb l2.length kd,.slice rb rs2.length rd,.int .i64 t2,.slice bb ids2.length bd,.int .i64 bits2,.string pre2]),.con (.bool eb),.con (.agg #[.slice ka l.length kc,.slice ra rs.length rc,.int .i64 t,.slice ba ids.length bc,.int .i64 bits,.string pre]),.con (.agg #[.slice kb l2.length kd,.slice rb rs2.length rd,.int .i64 t2,.slice bb ids2.length bd,.int .i64 bits2,.string pre2]),.con (.bool eb),.con (.bool true),.con (.bool true),.con (.bool true),.con (.agg #[.slice ka l.length kc,.slice ra rs.length rc,.int .i64 t,.slice ba ids.length bc,.int .i64 bits,.string pre]),.con (.agg #[.slice ka l.length kc,.slice ra rs.length rc,.int .i64 t,.slice ba ids.length bc,.int .i64 bits,.string pre]),.con (.bool true),.con (.bool true),.con (.bool true),.con (.int .i64 M),.con (.int .i64 M),.con (.bool true),.con (.bool true),.con (.bool true),.con (.agg #[.int .u8 J.kind,.int .i64 J.n,.string J.t,.slice C J.names.length E,.slice B J.items.length D]),.con (.agg #[.int .u8 J.kind,.int .i64 J.n,.string J.t,.slice H J.names.length L,.slice F J.items.length I]),.con (.bool true),.con (.bool true),.con (.bool true),.con (.bool true),.con (.bool true)]:=⟨_,rfl⟩;have a:=U hV;clear hV;refine qE 32 (fun d a' w'=>∃x26 x27 x28 x29 x30 x31 x32 x33 x34 x35 x36 x37 x38 x39 x40 x41 x42 x43 x44 x45 x46 x47 x48 x49 x50 x51 x52 x53 x54 x55 x56 x57,a'=⟨#[Value.agg #[Value.slice ka l.length kc,Value.slice ra rs.length rc,Value.int IntKind.i64 t,Value.slice ba ids.length bc,Value.int IntKind.i64 bits,Value.string pre],Value.agg #[Value.slice kb l2.length kd,Value.slice rb rs2.length rd,Value.int IntKind.i64 t2,Value.slice bb ids2.length bd,Value.int IntKind.i64 bits2,Value.string pre2],Value.pointer (some { block:=bR,off:=0 }),Value.pointer (some { block:=bX,off:=0 }),Value.bool false,Value.pointer (some { block:=bV,off:=0 }),Value.int IntKind.i64 M,Value.pointer (some { block:=bW,off:=0 }),Value.int IntKind.i64 M,Value.agg #[Value.slice ka l.length kc,Value.slice ra rs.length rc,Value.int IntKind.i64 t,Value.slice ba ids.length bc,Value.int IntKind.i64 bits,Value.string pre],Value.bool false,Value.bool false,Value.agg #[Value.slice kb l2.length kd,Value.slice rb rs2.length rd,Value.int IntKind.i64 t2,Value.slice bb ids2.length bd,Value.int IntKind.i64 bits2,Value.string pre2],Value.bool false,Value.bool false,undef,Value.tuple #[Value.agg #[Value.int IntKind.u8 J.kind,Value.int IntKind.i64 J.n,Value.string J.t,Value.slice C J.names.length E,Value.slice B J.items.length D],Value.int IntKind.i64 M],Value.agg #[Value.slice ka l.length kc,Value.slice ra rs.length rc,Value.int IntKind.i64 t,Value.slice ba ids.length bc,Value.int IntKind.i64 bits,Value.string pre],Value.tuple #[Value.agg #[Value.int IntKind.u8 J.kind,Value.int IntKind.i64 J.n,Value.string J.t,Value.slice C J.names.length E,Value.slice B J.items.length D],Value.int IntKind.i64 M],Value.agg #[Value.int IntKind.u8 J.kind,Value.int IntKind.i64 J.n,Value.string J.t,Value.slice C J.names.length E,Value.slice B J.items.length D],Value.int IntKind.i64 M,Value.tuple #[Value.agg #[Value.int IntKind.u8 J.kind,Value.int IntKind.i64 J.n,Value.string J.t,Value.slice H J.names.length L,Value.slice F J.items.length I],Value.int IntKind.i64 M],Value.agg #[Value.slice ka l.length kc,Value.slice ra rs.length rc,Value.int IntKind.i64 t,Value.slice ba ids.length bc,Value.int IntKind.i64 bits,Value.string pre],Value.tuple #[Value.agg #[Value.int IntKind.u8 J.kind,Value.int IntKind.i64 J.n,Value.string J.t,Value.slice H J.names.length L,Value.slice F J.items.length I],Value.int IntKind.i64 M],Value.agg #[Value.int IntKind.u8 J.kind,Value.int IntKind.i64 J.n,Value.string J.t,Value.slice H J.names.length L,Value.slice F J.items.length I],Value.int IntKind.i64 M,x26,x27,x28,x29,x30,x31,x32,x33,x34,x35,x36,x37,x38,x39,x40,x41,x42,x43,x44,x45,x46,x47,x48,x49,x50,x51,x52,x53,x54,x55,x56,x57],[]⟩/\zT p V d w' [x26,x27,x28,x29,x30,x31,x32,x33,x34,x35,x36,x37,x38,x39,x40,x41,x42,x43,x44,x45,x46,x47,x48,x49,x50,x51,x52,x53,x54,x55,x56,x57]) (by kernel_rfl) (by kernel_rfl) ?first ?step ?last
   case first=>exact ⟨_,_,_,_,_,_,_,_,_,_,_,_,_,_,_,_,_,_,_,_,_,_,_,_,_,_,_,_,_,_,_,_,rfl,zT.first _ _ _ (by rw [a.o];rfl)⟩
   case step =>
    rintro d a' w' ⟨x26,x27,x28,x29,x30,x31,x32,x33,x34,x35,x36,x37,x38,x39,x40,x41,x42,x43,x44,x45,x46,x47,x48,x49,x50,x51,x52,x53,x54,x55,x56,x57,rfl,h⟩ q hq hn g;rcases q with _|_|_|_|_|_|_|_|_|_|_|_|_|_|_|_|_|_|_|_|_|_|_|_|_|_|_|_|_|_|_|_|q
    . obtain ⟨a0,a1,a2,a3,a4,a5⟩:=xc (r.o w' h.1).1;refine Z9 rfl fun K hK=>?_;go_simp;exact hK _ _ ⟨_,_,_,_,_,_,_,_,_,_,_,_,_,_,_,_,_,_,_,_,_,_,_,_,_,_,_,_,_,_,_,_,rfl,h.sameC 0 _ a rfl⟩
    . obtain rfl:=h.cn g a 0 .data
      skip
      refine Z9 rfl fun K hK=>?_;go_simp;refine (d4.o w' h.1).mono ?_;rintro e Q ⟨rfl,o⟩;exact hK _ _ ⟨_,_,_,_,_,_,_,_,_,_,_,_,_,_,_,_,_,_,_,_,_,_,_,_,_,_,_,_,_,_,_,_,rfl,h.didC o 1 _ a rfl⟩
    . obtain ⟨a0,a1,a2,a3,a4,a5⟩:=xc (r.o w' h.1).1;refine Z9 rfl fun K hK=>?_;go_simp;exact hK _ _ ⟨_,_,_,_,_,_,_,_,_,_,_,_,_,_,_,_,_,_,_,_,_,_,_,_,_,_,_,_,_,_,_,_,rfl,h.sameC 2 _ a rfl⟩
    . obtain rfl:=h.cn g a 2 .data
      skip
      refine Z9 rfl fun K hK=>?_;go_simp;refine (d5.o w' h.1).mono ?_;rintro e Q ⟨rfl,o⟩;exact hK _ _ ⟨_,_,_,_,_,_,_,_,_,_,_,_,_,_,_,_,_,_,_,_,_,_,_,_,_,_,_,_,_,_,_,_,rfl,h.didC o 3 _ a rfl⟩
    . obtain rfl:=h.cn g a 1 .data;obtain rfl:=h.cn g a 3 .data;refine Z9 rfl fun K hK=>?_;go_simp;exact hK _ _ ⟨_,_,_,_,_,_,_,_,_,_,_,_,_,_,_,_,_,_,_,_,_,_,_,_,_,_,_,_,_,_,_,_,rfl,h.sameC 4 _ a rfl⟩
    . obtain rfl:=h.cn g a 4 .data;refine Z9 rfl fun K hK=>?_;go_simp;exact hK _ _ ⟨_,_,_,_,_,_,_,_,_,_,_,_,_,_,_,_,_,_,_,_,_,_,_,_,_,_,_,_,_,_,_,_,rfl,h.sameC 5 _ a rfl⟩
    . obtain rfl:=h.cn g a 5 .guard;obtain ⟨a0,a1,a2,a3,a4,a5⟩:=xc (r.o w' h.1).1;refine Z9 rfl fun K hK=>?_;go_simp;exact hK _ _ ⟨_,_,_,_,_,_,_,_,_,_,_,_,_,_,_,_,_,_,_,_,_,_,_,_,_,_,_,_,_,_,_,_,rfl,h.sameC 6 _ a rfl⟩
    . obtain rfl:=h.cn g a 5 .guard;obtain ⟨a0,a1,a2,a3,a4,a5⟩:=xc (r.o w' h.1).2.1;refine Z9 rfl fun K hK=>?_;go_simp;exact hK _ _ ⟨_,_,_,_,_,_,_,_,_,_,_,_,_,_,_,_,_,_,_,_,_,_,_,_,_,_,_,_,_,_,_,_,rfl,h.sameC 7 _ a rfl⟩
    . obtain rfl:=h.cn g a 5 .chain;obtain rfl:=h.cn g a 6 .data;obtain rfl:=h.cn g a 7 .data
      skip
      refine Z9 rfl fun K hK=>?_;go_simp;refine (d6.o w' h.1).mono ?_;rintro e Q ⟨rfl,o⟩;exact hK _ _ ⟨_,_,_,_,_,_,_,_,_,_,_,_,_,_,_,_,_,_,_,_,_,_,_,_,_,_,_,_,_,_,_,_,rfl,h.didC o 8 _ a rfl⟩
    . obtain rfl:=h.cn g a 5 .guard;obtain ⟨a0,a1,a2,a3,a4,a5⟩:=xc (r.o w' h.1).1;refine Z9 rfl fun K hK=>?_;go_simp;exact hK _ _ ⟨_,_,_,_,_,_,_,_,_,_,_,_,_,_,_,_,_,_,_,_,_,_,_,_,_,_,_,_,_,_,_,_,rfl,h.sameC 9 _ a rfl⟩
    . obtain rfl:=h.cn g a 5 .guard;obtain ⟨a0,a1,a2,a3,a4,a5⟩:=xc (r.o w' h.1).2.1;refine Z9 rfl fun K hK=>?_;go_simp;exact hK _ _ ⟨_,_,_,_,_,_,_,_,_,_,_,_,_,_,_,_,_,_,_,_,_,_,_,_,_,_,_,_,_,_,_,_,rfl,h.sameC 10 _ a rfl⟩
    . obtain rfl:=h.cn g a 5 .guard;obtain rfl:=h.cn g a 9 .data;obtain rfl:=h.cn g a 10 .data
      skip
      refine Z9 rfl fun K hK=>?_;go_simp;refine (d7.o w' h.1).mono ?_;rintro e Q ⟨rfl,o⟩;exact hK _ _ ⟨_,_,_,_,_,_,_,_,_,_,_,_,_,_,_,_,_,_,_,_,_,_,_,_,_,_,_,_,_,_,_,_,rfl,h.didC o 11 _ a rfl⟩
    . obtain rfl:=h.cn g a 5 .guard;obtain rfl:=h.cn g a 8 .data;obtain rfl:=h.cn g a 11 .data;refine Z9 rfl fun K hK=>?_;go_simp;exact hK _ _ ⟨_,_,_,_,_,_,_,_,_,_,_,_,_,_,_,_,_,_,_,_,_,_,_,_,_,_,_,_,_,_,_,_,rfl,h.sameC 12 _ a rfl⟩
    . obtain rfl:=h.cn g a 5 .data;obtain rfl:=h.cn g a 12 .data;refine Z9 rfl fun K hK=>?_;go_simp;exact hK _ _ ⟨_,_,_,_,_,_,_,_,_,_,_,_,_,_,_,_,_,_,_,_,_,_,_,_,_,_,_,_,_,_,_,_,rfl,h.sameC 13 _ a rfl⟩
    . obtain rfl:=h.cn g a 13 .data;refine Z9 rfl fun K hK=>?_;go_simp;exact hK _ _ ⟨_,_,_,_,_,_,_,_,_,_,_,_,_,_,_,_,_,_,_,_,_,_,_,_,_,_,_,_,_,_,_,_,rfl,h.sameC 14 _ a rfl⟩
    . obtain rfl:=h.cn g a 14 .guard;obtain ⟨a0,a1,a2,a3,a4,a5⟩:=xc (r.o w' h.1).1;refine Z9 rfl fun K hK=>?_;go_simp;exact hK _ _ ⟨_,_,_,_,_,_,_,_,_,_,_,_,_,_,_,_,_,_,_,_,_,_,_,_,_,_,_,_,_,_,_,_,rfl,h.sameC 15 _ a rfl⟩
    . obtain rfl:=h.cn g a 14 .guard;obtain ⟨a0,a1,a2,a3,a4,a5⟩:=xc (r.o w' h.1).1;refine Z9 rfl fun K hK=>?_;go_simp;exact hK _ _ ⟨_,_,_,_,_,_,_,_,_,_,_,_,_,_,_,_,_,_,_,_,_,_,_,_,_,_,_,_,_,_,_,_,rfl,h.sameC 16 _ a rfl⟩
    . obtain rfl:=h.cn g a 14 .chain;obtain rfl:=h.cn g a 15 .data;obtain rfl:=h.cn g a 16 .data
      skip
      refine Z9 rfl fun K hK=>?_;go_simp;refine (e0.o w' h.1).mono ?_;rintro e Q ⟨rfl,o⟩;exact hK _ _ ⟨_,_,_,_,_,_,_,_,_,_,_,_,_,_,_,_,_,_,_,_,_,_,_,_,_,_,_,_,_,_,_,_,rfl,h.didC o 17 _ a rfl⟩
    . obtain rfl:=h.cn g a 14 .data;obtain rfl:=h.cn g a 17 .data;refine Z9 rfl fun K hK=>?_;go_simp;exact hK _ _ ⟨_,_,_,_,_,_,_,_,_,_,_,_,_,_,_,_,_,_,_,_,_,_,_,_,_,_,_,_,_,_,_,_,rfl,h.sameC 18 _ a rfl⟩
    . obtain rfl:=h.cn g a 18 .data;refine Z9 rfl fun K hK=>?_;go_simp;exact hK _ _ ⟨_,_,_,_,_,_,_,_,_,_,_,_,_,_,_,_,_,_,_,_,_,_,_,_,_,_,_,_,_,_,_,_,rfl,h.sameC 19 _ a rfl⟩
    . obtain rfl:=h.cn g a 19 .guard;refine Z9 rfl fun K hK=>?_;go_simp;exact hK _ _ ⟨_,_,_,_,_,_,_,_,_,_,_,_,_,_,_,_,_,_,_,_,_,_,_,_,_,_,_,_,_,_,_,_,rfl,h.sameC 20 _ a rfl⟩
    . obtain rfl:=h.cn g a 19 .guard;refine Z9 rfl fun K hK=>?_;go_simp;exact hK _ _ ⟨_,_,_,_,_,_,_,_,_,_,_,_,_,_,_,_,_,_,_,_,_,_,_,_,_,_,_,_,_,_,_,_,rfl,h.sameC 21 _ a rfl⟩
    . obtain rfl:=h.cn g a 19 .guard;obtain rfl:=h.cn g a 20 .data;obtain rfl:=h.cn g a 21 .data;refine Z9 rfl fun K hK=>?_;go_simp;exact hK _ _ ⟨_,_,_,_,_,_,_,_,_,_,_,_,_,_,_,_,_,_,_,_,_,_,_,_,_,_,_,_,_,_,_,_,rfl,h.sameC 22 _ a rfl⟩
    . obtain rfl:=h.cn g a 19 .data;obtain rfl:=h.cn g a 22 .data;refine Z9 rfl fun K hK=>?_;go_simp;exact hK _ _ ⟨_,_,_,_,_,_,_,_,_,_,_,_,_,_,_,_,_,_,_,_,_,_,_,_,_,_,_,_,_,_,_,_,rfl,h.sameC 23 _ a rfl⟩
    . obtain rfl:=h.cn g a 23 .data;refine Z9 rfl fun K hK=>?_;go_simp;exact hK _ _ ⟨_,_,_,_,_,_,_,_,_,_,_,_,_,_,_,_,_,_,_,_,_,_,_,_,_,_,_,_,_,_,_,_,rfl,h.sameC 24 _ a rfl⟩
    . obtain rfl:=h.cn g a 24 .guard;obtain ⟨a0,a1,a2,a3,a4⟩:=yh (r.o w' h.1).2.2.1;refine Z9 rfl fun K hK=>?_;go_simp;exact hK _ _ ⟨_,_,_,_,_,_,_,_,_,_,_,_,_,_,_,_,_,_,_,_,_,_,_,_,_,_,_,_,_,_,_,_,rfl,h.sameC 25 _ a rfl⟩
    . obtain rfl:=h.cn g a 24 .guard;obtain ⟨a0,a1,a2,a3,a4⟩:=yh (r.o w' h.1).2.2.2;refine Z9 rfl fun K hK=>?_;go_simp;exact hK _ _ ⟨_,_,_,_,_,_,_,_,_,_,_,_,_,_,_,_,_,_,_,_,_,_,_,_,_,_,_,_,_,_,_,_,rfl,h.sameC 26 _ a rfl⟩
    . obtain rfl:=h.cn g a 24 .chain;obtain rfl:=h.cn g a 25 .data;obtain rfl:=h.cn g a 26 .data
      skip
      refine Z9 rfl fun K hK=>?_;go_simp;refine (e1.o w' h.1).mono ?_;rintro e Q ⟨rfl,o⟩;exact hK _ _ ⟨_,_,_,_,_,_,_,_,_,_,_,_,_,_,_,_,_,_,_,_,_,_,_,_,_,_,_,_,_,_,_,_,rfl,h.didC o 27 _ a rfl⟩
    . obtain rfl:=h.cn g a 24 .data;obtain rfl:=h.cn g a 27 .data;refine Z9 rfl fun K hK=>?_;go_simp;exact hK _ _ ⟨_,_,_,_,_,_,_,_,_,_,_,_,_,_,_,_,_,_,_,_,_,_,_,_,_,_,_,_,_,_,_,_,rfl,h.sameC 28 _ a rfl⟩
    . obtain rfl:=h.cn g a 28 .data;refine Z9 rfl fun K hK=>?_;go_simp;exact hK _ _ ⟨_,_,_,_,_,_,_,_,_,_,_,_,_,_,_,_,_,_,_,_,_,_,_,_,_,_,_,_,_,_,_,_,rfl,h.sameC 29 _ a rfl⟩
    . obtain rfl:=h.cn g a 29 .chain
      skip
      refine Z9 rfl fun K hK=>?_;go_simp;refine (e2.o w' h.1).mono ?_;rintro e Q ⟨rfl,o⟩;exact hK _ _ ⟨_,_,_,_,_,_,_,_,_,_,_,_,_,_,_,_,_,_,_,_,_,_,_,_,_,_,_,_,_,_,_,_,rfl,h.didC o 30 _ a rfl⟩
    . obtain rfl:=h.cn g a 29 .data;obtain rfl:=h.cn g a 30 .data;refine Z9 rfl fun K hK=>?_;go_simp;exact hK _ _ ⟨_,_,_,_,_,_,_,_,_,_,_,_,_,_,_,_,_,_,_,_,_,_,_,_,_,_,_,_,_,_,_,_,rfl,h.sameC 31 _ a rfl⟩
    . omega
   case last => rintro d a' w' b3 ⟨x26,x27,x28,x29,x30,x31,x32,x33,x34,x35,x36,x37,x38,x39,x40,x41,x42,x43,x44,x45,x46,x47,x48,x49,x50,x51,x52,x53,x54,x55,x56,x57,rfl,h⟩;have d2:=h.1;obtain rfl:=h.con 31 (b3 _ (by omega)) a rfl rfl;have e3:=U d2;clear h b3 d2 a;have d3:=U (k.o.trans (e3.o.mono k.o.size));go_wp2;go_ret;exact ⟨rfl,d3.o⟩
end Go.Proofs.YthgembbgcbaghaaGreatDoor
