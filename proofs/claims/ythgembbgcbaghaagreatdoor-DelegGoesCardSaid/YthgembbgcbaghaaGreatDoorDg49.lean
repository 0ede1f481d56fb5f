import Derived.Test.YthgembbgcbaghaaGreatDoorDg37
set_option maxHeartbeats 4000000
set_option maxRecDepth 100000

namespace Go.Proofs.YthgembbgcbaghaaGreatDoor
open Go.RowKit Go.Shelf Go.Sort
def eT (ns:List ByteArray) (its:List JV) (lo:Nat) (w:World) (e:Ending) (w':World):Prop :=
 ∃an cn ai ci,e=.returned (.tuple #[.agg #[.int .u8 5,.int .i64 0,.string ⟨#[]⟩,.slice an ns.length cn,.slice ai its.length ci],.int .i64 0]) /\
  Rep w' lo w'.heap.size (.mk 5 0 ⟨#[]⟩ ns its) (.agg #[.int .u8 5,.int .i64 0,.string ⟨#[]⟩,.slice an ns.length cn,.slice ai its.length ci])/\O5 w w'
theorem iu {w:World} {a e size n q cn:Nat} {an:Option Addr} {b:List Value} (h:w.ownsRow a e size (.slice an q cn) n b) (c:0<n):∃gn,an=some ⟨gn,0,none⟩/\a<=gn/\gn<w.heap.size:=by
 rcases h.2 with ⟨_,hz⟩|⟨gn,cap,cur,hv,hg,hh,_⟩
 . omega
 . simp only [K6] at hv;exact ⟨gn,hv.1,hg,qx hh⟩
theorem jy (W0 g cap:Nat) (w:World) (M N:List NJ) (hM:eG 183 W0 w (.slice (some ⟨g,0,none⟩) N.length cap) N) (hp:M.Perm N) (hr:qo (M.map (·.1))=true) (hl:N.length<=4294967296) (hW:W0<=w.heap.size) (hg:g<w.heap.size) :
 Calls Tryz.prog 165 #[.slice (some ⟨g,0,none⟩) N.length cap] w (eT (M.map (·.1)) (M.map (·.2)) W0 w):=by
 obtain ⟨u,d5,A,c4⟩:=hM.len;obtain ⟨n,hn⟩:=O1 N.length;rw [<- hn] at d5 hl c4 ⊢;have HN:=U hn;have f1:=U A;have HP:=U hp;have HR:=U hr;have b3:=U c4;have l6:=U d5;have g9:=U (show ∀i j,i<n->j<i->u[i]!.name≠u[j]!.name from fun i j hi hj=>by
  have y:(M.map (·.1)).Nodup:=List.Pairwise.imp (fun {a b} (h:Op.bytesLess a.toList b.toList=true) e=>by rw [e,zo] at h;cases h) ((rI _).1 hr);have h2:(u.map (·.name)).Nodup:=by rw [A];exact ((hp.map (·.1)).nodup_iff).1 y
  have h3:=M8.1 h2 j i (by simp;omega) (by simp;omega) hj;rw [getElem!_pos u i (by omega),getElem!_pos u j (by omega)];simp only [N2] at h3;exact fun e=>h3 e.symm)
 have b1:=U (show ∀(w':World),w'.heap[g]?=w.heap[g]?->∀i c,i<n->c<6->w'.cell? ⟨g,i * 6+c,none⟩=some ((qW u[i]!)[c]!) from fun w' s i c hi hc=>by
  rw [V9 (w:=w) s,getElem!_pos u i (by omega),getElem!_pos (qW (u[i]'(by omega))) c (by rw [zD];exact hc)];exact d5.cell i (by omega) c hc)
 clear d5 A hp hr hM c4 hn;go_enter Tryz.func165,Tryz.ntmps165;go_wp2;obtain ⟨W,a3⟩:=O1 ((w.alloc (.cells #[.int .u8 0,.int .i64 0,.string ⟨#[]⟩,.slice none 0 0,.slice none 0 0] 25)).alloc (.cells #[.int .u8 5,.int .i64 0,.string ⟨#[]⟩,.slice none 0 0,.slice none 0 0] 25));rw [<- a3];have k7:(w.alloc (.cells #[.int .u8 0,.int .i64 0,.string ⟨#[]⟩,.slice none 0 0,.slice none 0 0] 25)).heap.size=w.heap.size+1:=by simp
 have l0:W.heap.size=w.heap.size+2:=by rw [a3];simp
 have a4:O5 w W:=by rw [a3];exact (O4).alloc (by simp) _
 have k3:W.rowIs w.heap.size 25 5 (qZ (.int .u8 0) (.int .i64 0) (.string ⟨#[]⟩) (.slice none 0 0) (.slice none 0 0)):=(by rw [a3];exact qj O4 (qh w (.int .u8 0) (.int .i64 0) (.string ⟨#[]⟩) (.slice none 0 0) (.slice none 0 0) 25) (by simp));have k4:W.rowIs (w.heap.size+1) 25 5 (qZ (.int .u8 5) (.int .i64 0) (.string ⟨#[]⟩) (.slice none 0 0) (.slice none 0 0)):=(by have:=qh (w.alloc (.cells #[.int .u8 0,.int .i64 0,.string ⟨#[]⟩,.slice none 0 0,.slice none 0 0] 25)) (.int .u8 5) (.int .i64 0) (.string ⟨#[]⟩) (.slice none 0 0) (.slice none 0 0) 25;rw [k7,<- a3] at this;exact this);have e4:=U a4;have i3:=U k3;have i4:=U k4;have Q:=U l0;clear a3 a4 k3 k4 k7 l0;go_loopw [5,6] (fun i _ wr=>∃k:Nat,k<=n/\i=.int .i64 k/\O5 W wr) (fun i _ _=>n - (intOf i).toNat)
 case atStart=>exact ⟨0,by omega,rfl,J0 _ _⟩
 case round =>
  obtain ⟨k,hk,rfl,c0⟩:=hrel;have e5:=U c0;clear c0;by_cases E:k<n
  . go_wp2;go_loopw [6] (fun i wr=>∃j:Nat,j<=k/\i=.int .i64 j/\O5 W wr) (fun i _=>k - (intOf i).toNat)
    case atStart=>exact ⟨0,by omega,rfl,e5.o⟩
    case round =>
     obtain ⟨j,hj,rfl,c0⟩:=hrel;have o:=U c0;clear c0;by_cases hjk:j<k
     . have g5:wr.heap[g]?=w.heap[g]?:=(o.o.block g (by have:=Q.o;omega)).trans (e4.o.block g hg);have y0:=b1.o wr g5 k 0 E (by decide);have y1:=b1.o wr g5 j 0 (by omega) (by decide);have d6:=g9.o k j E hjk;generalize u[k]! = ma at y0 d6;generalize u[j]! = mb at y1 d6;simp only [qW,za9,List.getElem!_cons_zero] at y0 y1;have o0:(ma.name.toList == mb.name.toList)=false:=by
        rw [Y3,Y3];cases hq:(ma.name.data.toList == mb.name.data.toList)
        . rfl
        . exact absurd (ByteArray.ext (Array.toList_inj.1 (eq_of_beq hq))) d6
       have d3:j<n:=by omega
       clear d6 g5;go_wp2_with fail;go_quiet (fail);go_wp2;go_roundw
       case rel=>exact ⟨j+1,by omega,by go_num,Below.drewN o.o _⟩
       case measure=>simp [intOf];omega
     . obtain rfl:j=k:=by omega
       go_wp2;go_roundw
       case rel=>exact ⟨j+1,by omega,by go_num,o.o⟩
       case measure=>simp [intOf];omega
  . obtain rfl:k=n:=by omega
    have s:=e5.o;have n1:=s.size;have i9:w.heap.size+1<wr.heap.size:=by have:=Q.o;omega
    have HO:=U (show ObjAt2 wr wr W0 (w.heap.size+1) 25 9 25 (.slice none 0 0) (.slice none 0 0) [] [] [] from
     ⟨i9,by omega,Touch.refl _ _,qj s i4.o (by have:=Q.o;omega),W8 _ _ _ _,W8 _ _ _ _,qU.nil _ _ _,fun b s=>by simp [Value.ownBlock] at s⟩)
    have c7:=O0 (O5 w wr) (e4.o.trans (s.mono (by have:=Q.o;omega)));have m0:=U (qj s i3.o (by have:=Q.o;omega));have P:=O0 (g<w.heap.size/\w.heap.size+1<wr.heap.size) (⟨hg,i9⟩);clear s n1 e5 e4 i3 i4 Q g9 E hk;generalize wr=Z at *;obtain ⟨m,i6⟩:=O1 (M.map (·.1));obtain ⟨D,d1⟩:=O1 (u.map (·.name));have f:=U i6;have h8:=U d1;have p:=U (show M.length=k by have:=HP.o.length_eq;rw [this,<- HN.o]);have f0:=U (show D.length=k by rw [d1,X9];exact b3.o);have h7:=U (show ∀i,i<k->∃h:i<D.length,D[i]=u[i]!.name from fun i hi=>by
     have y:i<u.length:=by have:=b3.o;omega
     subst d1;refine ⟨by simpa using y,?_⟩;rw [getElem!_pos u i y];simp)
    clear i6 d1;obtain ⟨i1,m9,n5,n6,n7⟩:=K9 xq;obtain ⟨i2,n0,n2,n3,n4⟩:=K9 gu;go_wp2;go_loopw [7,8] (fun _ _ wr=>∃(q:Nat) (cs:List Value) (S:Option Addr) (cn:Nat) (vi:Value),q<=k/\ObjAt2 Z wr W0 (w.heap.size+1) 25 9 25 (.slice S q cn) vi (m.take q) ((M.map (·.2)).take q) cs/\qU w W0 (fun b=>w.heap.size<=b) ((M.map (·.2)).take q) cs) (fun _ _ wr=>k - (match wr.cell? ⟨w.heap.size+1,3,none⟩ with|some (.slice _ l _)=>l|_=>0))
    case atStart=>exact ⟨0,[],none,0,.slice none 0 0,by omega,by simpa using HO.o,by simpa using qU.nil _ _ _⟩
    case round =>
     obtain ⟨q,cs,S,cn,vi,hq,d7,e3⟩:=hrel;have f3:=U e3;clear e3;have d:=U d7;clear d7;generalize wr=Y at *;have c3:Y.cell? ⟨w.heap.size+1,3,none⟩=some (.slice S q cn):=d.o.row.cell (by decide);have e7:=U (show ∀wx:World,O5 Y wx->wx.heap[g]?=w.heap[g]? from fun wx h=>by
      have y:=d.o.touch.size;have h2:=P.o;rw [h.block g (by omega),d.o.touch.block g (by omega) (by omega),c7.o.block g h2.1])
     have l5:=U c3;by_cases E:q<k
     . go_wp2;go_loopw [7,8] (fun at_ i wx=>∃(j:Nat) (a:Int),j<=k/\at_=.int .i64 a/\i=.int .i64 j/\zF m D q j a/\O5 Y wx) (fun _ i _=>k - (intOf i).toNat)
       case atStart=>exact ⟨0,-1,by omega,rfl,rfl,zF.start _ _ _,J0 _ _⟩
       case round =>
        obtain ⟨j,a,hj,rfl,rfl,j3,g1⟩:=hrel;have G:=U j3;have o:=U g1;replace c3:wr.cell? ⟨w.heap.size+1,3,none⟩=some (.slice S q cn):=(g1.cell d.o.row.lt).trans c3;clear j3 g1;by_cases hjk:j<k
        . have y0:=b1.o wr (e7.o wr o.o) j 0 hjk (by decide);have g8:=h7.o j hjk;generalize u[j]! = ma at y0 g8;have b4:=U g8;clear g8;simp only [qW,za9,List.getElem!_cons_zero] at y0;have f4:=U (show (0<q/\∃gn lp,S=some ⟨gn,0,none⟩/\wr.cell? ⟨gn,q - 1,none⟩=some (.string lp)/\m[q-1]?=some lp)\/q=0 from by
           rcases za0 q with h|h
           . exact .inr h
           . have o2:(m.take q).length=q:=by rw [M7,f.o,X9,p.o];omega
             have e0:=qM d.o.names o.o;obtain ⟨gn,rfl,_,_⟩:=iu e0 (by omega);have k2:q - 1<m.length:=by rw [f.o,X9,p.o];omega
             refine .inl ⟨h,gn,m[q-1],rfl,?_,V3 k2⟩;have:=e0.cells (g:=gn) rfl (q - 1) (.string m[q-1]) (by rw [List.getElem?_map,List.getElem?_take_of_lt (by omega),V3 k2];rfl);have e:(⟨gn,0,none⟩:Addr).add (q - 1)=⟨gn,q - 1,none⟩:=by unfold Addr.add;split <;> simp_all
             rwa [e] at this)
          have o1:((j:Int).toNat)=j:=by omega
          rcases f4.o with ⟨h0,gn,lp,rfl,z0,hlp⟩|rfl
          case' inl =>
           have e8:=U hlp;clear hlp f4;have i0:IntKind.i64.wrap ((q:Int) - 1)=(q:Int) - 1:=V0 _ (by omega);have j0:0<=(q:Int) - 1:=by omega
           have j1:1<=(q:Int):=by omega
           have j2:(q:Int) - 1<(q:Int):=by omega
           have t0:((q:Int) - 1).toNat=q - 1:=by omega
           have g3:decide (0<q)=true:=by simpa using h0
           cases s:Op.bytesLess lp.toList ma.name.toList
           case' false =>
            have l7:=U (show ¬Eli m D q j from by
             rintro (h|⟨y,h2,h⟩)
             . omega
             . obtain ⟨h3,h4⟩:=b4.o;rw [h4] at h;have e:m[q-1]=lp:=by have:=e8.o;rw [V3 y] at this;exact Y9 this
               rw [e] at h;unfold bl at h;rw [s] at h;cases h)
            cases a4:Op.bytesLess ma.name.toList lp.toList
            case' false=>have i7:(ma.name.toList == lp.toList)=true:=by simpa using wG _ _ a4 s
            all_goals
             clear s;go_wp2_with fail;go_quiet (fail);go_wp2;go_roundw
             case rel=>exact ⟨j+1,a,by omega,rfl,by go_num,G.o.skip l7.o,Below.drewN o.o _⟩
             case measure=>simp [intOf];omega
           case' true =>
            have e6:=U (show Eli m D q j from by
             obtain ⟨h3,h4⟩:=b4.o;have y:q - 1<m.length:=(by have:=e8.o;rw [List.getElem?_eq_some_iff] at this;exact this.1);refine .inr ⟨y,h3,?_⟩;have e:m[q-1]=lp:=by have:=e8.o;rw [V3 y] at this;exact Y9 this
             rw [e,h4];exact s)
            have a4:Op.bytesLess ma.name.toList lp.toList=false:=by
             cases h:Op.bytesLess ma.name.toList lp.toList with
             | false=>rfl
             | true=>have:=jU _ _ _ h s;rw [zo] at this;cases this
            have i7:(
             ma.name.toList == lp.toList)=false:=by
             cases h:(ma.name.toList == lp.toList) with
             | false=>rfl
             | true =>
              have h2:ma.name.toList=lp.toList:=by simpa using h
              rw [h2,zo] at s;cases s
            clear s;go_wp2_with fail;go_quiet (fail);clear i0 j0 j1 j2 t0 a4 i7 z0 g3
          case' inr =>
           have e6:=O0 (Eli m D 0 j) (.inl rfl);clear f4;have g3:decide ((0:Int)<((0:Nat):Int))=false:=by simp
           go_wp2_with fail
           go_quiet (fail)
           clear g3
          all_goals
           have b0:=O0 (O5 Y (wr.drewN nq)) (Below.drewN o.o _);replace y0:(wr.drewN nq).cell? ⟨g,j * 6,none⟩=some (.string ma.name):=y0;clear o c3;generalize wr.drewN nq=w5 at b0 y0 ⊢;have d3:=b4.o.1;by_cases ha:a<0
           . have l2:=U ha;have m7:decide (a<0)=true:=by simpa using ha
             clear ha;go_wp2_with fail;go_quiet (fail);go_wp2;go_roundw
             case rel=>exact ⟨j+1,(j:Int),by omega,rfl,by go_num,G.o.first d3 l2.o e6.o,Below.drewN b0.o _⟩
             case measure=>simp [intOf];omega
           . obtain ⟨b,b9,rfl⟩:∃b:Nat,b<D.length/\a=(b:Int):=by
              rcases G.o with ⟨e,_⟩|⟨b,s,e,_⟩
              . omega
              . exact ⟨b,s,e⟩
             have a5:b<k:=by have:=f0.o;omega
             have y1:=b1.o w5 (e7.o w5 b0.o) b 0 a5 (by decide);have c5:=h7.o b a5;generalize u[b]! = mb at y1 c5;have c9:=U c5;clear c5 ha;simp only [qW,za9,List.getElem!_cons_zero] at y1;have m7:decide ((b:Int)<0)=false:=by simp
             have m5:0<=(b:Int):=by omega
             have m6:((b:Int).toNat)=b:=by omega
             cases hc:Op.bytesLess ma.name.toList mb.name.toList
             . have e9:=U (show bl D[j] D[b]=false by unfold bl;rw [b4.o.2,c9.o.2];exact hc);go_wp2_with fail;go_quiet (fail);go_wp2;go_roundw
               case rel=>exact ⟨j+1,(b:Int),by omega,rfl,by go_num,G.o.keep d3 b9 e9.o,Below.drewN b0.o _⟩
               case measure=>simp [intOf];omega
             . have e9:=U (show bl D[j] D[b]=true by unfold bl;rw [b4.o.2,c9.o.2];exact hc);go_wp2_with fail;go_quiet (fail);go_wp2;go_roundw
               case rel=>exact ⟨j+1,(j:Int),by omega,rfl,by go_num,G.o.less d3 b9 e9.o e6.o,Below.drewN b0.o _⟩
               case measure=>simp [intOf];omega
        . obtain rfl:j=k:=by omega
          obtain ⟨b,b9,rfl,c5⟩:=zF.done (M:=m) (N:=D) (by rw [f.o];exact HR.o) (by rw [f.o,h8.o,f1.o];exact HP.o.map _) (by rw [f.o,X9,p.o];exact E) (by have:=G.o;rwa [<- f0.o] at this);have a5:b<j:=by have:=f0.o;omega
          have c9:=U c5;have n8:=U b9;clear G;have HY:=U (e7.o wr o.o);have C:=U (d.o.below o.o);have a8:q<M.length:=by rw [p.o];exact E
          have g0:b<N.length:=by rw [<- HN.o];exact a5
          have d2:b<u.length:=by rw [b3.o];exact a5
          have g4:N[b]=M[q]:=(by obtain ⟨c,hc,e⟩:=V4 (HP.o.mem_iff.2 (X6 g0));have e1:N[b].1=M[q].1:=(by have y:=c9.o;have h2:D[b]=N[b].1:=(by have h3:D=N.map (·.1):=h8.o.trans f1.o;have:=ze2 h3 b9;rw [N2] at this;exact this);have h4:m[q]'(by rw [f.o,X9];exact a8)=M[q].1:=(by have:=ze2 f.o (i:=q) (by rw [f.o,X9];exact a8);rw [N2] at this;exact this);rw [<- h2,<- h4];exact y);have e2:c=q:=ac (M.map (·.1)) HR.o c q (by simpa using hc) (by simpa using a8) (by simp only [N2];rw [e,e1]);subst e2;exact e.symm);obtain ⟨lo,hi,k0,m8,-,J⟩:=l6.o.reps b (by simpa using g0);simp only [N2] at J;rw [g4] at J;have A:(u[b]'d2).name=M[q].1:=(by have:=ze2 f1.o (i:=b) (by simpa using d2);simp only [N2] at this;rw [this,g4]);have f5:=U (show m.take (q+1)=m.take q ++ [M[q].1] by
           have y:q<m.length:=by rw [f.o,X9];exact a8
           rw [J7 y];have:=ze2 f.o y;rw [this];simp)
          have d0:=U (show (M.map (·.2)).take (q+1)=(M.map (·.2)).take q ++ [M[q].2] by
           rw [J7 (by simpa using a8)];simp)
          obtain ⟨T,a0,R,X,z,-,-,-,-⟩:=J.parts;have d4:u[b]! = ⟨M[q].1,M[q].2.kind,M[q].2.n,M[q].2.t,T,M[q].2.names.length,a0,R,M[q].2.items.length,X⟩:=(by rw [getElem!_pos u b d2];generalize u[b]=x at z A;obtain ⟨x0,x1,x2,x3,x4,x5,x6,x7,x8,x9⟩:=x;simp only [Mem.val,zb8,zc4,G5,Value.int.injEq,Value.string.injEq,K6,zc8,zb6] at z;dsimp only at A;obtain ⟨rfl,rfl,rfl,⟨rfl,rfl,rfl⟩,rfl,rfl,rfl⟩:=z;rw [A]);rw [z] at J;have f2:=U J;have B:=U (show ∀(w':World),w'.heap[g]?=w.heap[g]?->∀c,c<6->w'.cell? ⟨g,b * 6+c,none⟩=some ((qW ⟨M[q].1,M[q].2.kind,M[q].2.n,M[q].2.t,T,M[q].2.names.length,a0,R,M[q].2.items.length,X⟩)[c]!) from fun w' h c hc=>by
           have:=b1.o w' h b c a5 hc;rwa [d4] at this)
          generalize M[q].1=nm at f5 B A d4;generalize M[q].2=it at d0 B f2 J z d4;clear A d4 z J g4 d2 g0 a8;clear d o c3;generalize wr=V at *;have a6:w.heap.size+1<V.heap.size:=C.o.row.lt;have a7:some (w.heap.size+1)≠(Value.slice S q cn).ownBlock:=fun e=>by have:=(C.o.names.lt _ e.symm).1;omega
          have e2:V.cell? ⟨w.heap.size+1,3,none⟩=some (.slice S q cn):=C.o.row.cell (by decide);have b7:=C.o.row.frozen 3;have y0:=B.o V HY.o 0 (by decide);simp only [qW,za9,List.getElem!_cons_zero] at y0;have I:=U (show (m.take q).length=q by rw [M7,f.o,X9,p.o];omega);have b6:=U (show V.drew.ownsRow Z.heap.size 9 1 (.slice S q cn) q ((m.take q).map .string) by have:=C.o.names;rw [I.o] at this;exact this);have l1:Z.heap.size<=V.heap.size:=C.o.touch.size;have m5:0<=(b:Int):=by omega
          have m6:((b:Int).toNat)=b:=by omega
          go_upto_region 18 with fail
          go_region_law (refine N5 _ (by rfl) (.tmp 82) (.tmp 88) 22 (by rfl) Z.heap.size 9 i2 _ 1 16 zb3 n0 n2 n3 n4 rfl (by omega) (.slice S q cn) q ((m.take q).map .string) (by rfl) (b6.o.alloc _) ⟨V.heap.size,0,none⟩ 1 1 (Array.toList #[.string nm]) (by rfl) (by rfl) (Y0 (cs:=#[.string nm]) (t:=9) (fr:=(0,0)) (J2 V.drew _)) (by simp [Value.oneCell']) (by omega) (by unfold maxLen;omega) (by omega) (by simp;omega) (V.heap.size+1) (by simp) ?_;intro g2 cap3 w4 hown4 hgrow4 hat4 hlt4;have f6:w4.cell? ⟨w.heap.size+1,3,none⟩=some (.slice S q cn):=(V9 (hgrow4.block _ (by simp;omega) a7)).trans ((ql _ (show w.heap.size+1<V.drew.heap.size from a6)).trans e2);have f7:w4.frozen? ⟨w.heap.size+1,3,none⟩=false:=(M2 (hgrow4.block _ (by simp;omega) a7)).trans ((((J0 V.drew.heap.size V.drew).alloc lz _).frozen (show w.heap.size+1<V.drew.heap.size from a6)).trans b7);have b5:=U hown4;have b2:=U hgrow4;have a9:=U hat4;clear hown4 hgrow4 hat4)
          all_goals
           have r:=U (show ObjAt2 Z (w4.setCell ⟨w.heap.size+1,3,none⟩ (.slice (some ⟨g2,0,none⟩) (q+1) cap3)) W0 (w.heap.size+1) 25 9 25 (.slice (some ⟨g2,0,none⟩) (q+1) cap3) vi (m.take (q+1)) ((M.map (·.2)).take q) cs by
            have:=(C.o.below (((J0 V.heap.size V).drew).alloc lz (.cells #[.string nm] 9))).name nm (g:=g2) (cap:=cap3) b2.o (by
             rcases a9.o with h|h
             . exact .inl h
             . exact .inr (by simp;omega)) (by rw [I.o];exact b5.o)
            rw [I.o,<- f5.o] at this;exact this)
           clear C b5 b2 a9 f6 f7 e2 b7 y0 b6 I f5 a7 a6 l1 HY;generalize (w4.setCell ⟨w.heap.size+1,3,none⟩ (.slice (some ⟨g2,0,none⟩) (q+1) cap3))=V7 at r ⊢;have a6:w.heap.size+1<V7.heap.size:=r.o.row.lt;have a7:some (w.heap.size+1)≠vi.ownBlock:=fun e=>by have:=(r.o.items.lt _ e.symm).1;omega
           have e2:V7.cell? ⟨w.heap.size+1,4,none⟩=some vi:=r.o.row.cell (by decide);have b7:=r.o.row.frozen 4;have L:=U (show ∀x,x<w.heap.size->V7.heap[x]?=w.heap[x]? from fun x hx=>by
            rw [r.o.touch.block x (by omega) (by omega),c7.o.block x hx])
           have y1:=B.o V7 (L.o g P.o.1) 1 (by decide);have y2:=B.o V7 (L.o g P.o.1) 2 (by decide);have y3:=B.o V7 (L.o g P.o.1) 3 (by decide);have y4:=B.o V7 (L.o g P.o.1) 4 (by decide);have y5:=B.o V7 (L.o g P.o.1) 5 (by decide);simp only [qW,List.getElem!_cons_zero,List.getElem!_cons_succ] at y1 y2 y3 y4 y5;have H:=U (show ((M.map (·.2)).take q).length=q by rw [M7,X9,p.o];omega);have b6:=U (show V7.drew.ownsRow Z.heap.size 25 5 vi q cs by have:=r.o.items;rw [H.o] at this;exact this);have l1:Z.heap.size<=V7.heap.size:=r.o.touch.size;go_upto_region 19 with fail
           go_region_law (refine N5 _ (by rfl) (.tmp 92) (.tmp 98) 23 (by rfl) Z.heap.size 25 i1 _ 5 80 N4 m9 n5 n6 n7 rfl (by omega) vi q cs (by rfl) (b6.o.alloc _) ⟨V7.heap.size,0,none⟩ 1 1 (Array.toList #[.int .u8 it.kind,.int .i64 it.n,.string it.t,.slice T it.names.length a0,.slice R it.items.length X]) (by rfl) (by rfl) (Y0 (cs:=#[.int .u8 it.kind,.int .i64 it.n,.string it.t,.slice T it.names.length a0,.slice R it.items.length X]) (t:=25) (fr:=(0,0)) (J2 V7.drew _)) (by simp [Value.oneCell']) (by omega) (by unfold maxLen;omega) (by omega) (by simp;omega) (V7.heap.size+1) (by simp) ?_;intro g6 cap6 w6 hown4 hgrow4 hat4 hlt4;have f6:w6.cell? ⟨w.heap.size+1,4,none⟩=some vi:=(V9 (hgrow4.block _ (by simp;omega) a7)).trans ((ql _ (show w.heap.size+1<V7.drew.heap.size from a6)).trans e2);have f7:w6.frozen? ⟨w.heap.size+1,4,none⟩=false:=(M2 (hgrow4.block _ (by simp;omega) a7)).trans ((((J0 V7.drew.heap.size V7.drew).alloc lz _).frozen (show w.heap.size+1<V7.drew.heap.size from a6)).trans b7);have b5:=U hown4;have b2:=U hgrow4;have a9:=U hat4;clear hown4 hgrow4 hat4)
           all_goals
            have h9:=U (show ObjAt2 Z (w6.setCell ⟨w.heap.size+1,4,none⟩ (.slice (some ⟨g6,0,none⟩) (q+1) cap6)) W0 (w.heap.size+1) 25 9 25 (.slice (some ⟨g2,0,none⟩) (q+1) cap3) (.slice (some ⟨g6,0,none⟩) (q+1) cap6) (m.take (q+1)) ((M.map (·.2)).take (q+1)) _ by
             have:=(r.o.below (((J0 V7.heap.size V7).drew).alloc lz (.cells #[.int .u8 it.kind,.int .i64 it.n,.string it.t,.slice T it.names.length a0,.slice R it.items.length X] 25))).item (it:=it) (lo:=lo) (hi:=hi) (g:=g6) (cap:=cap6) k0 (by omega) (Rep.carry (w:=w) lz lz (fun x _ hx=>(Y4 _ _ _ (show x<V7.drew.heap.size from by show x<V7.heap.size;omega)).trans (L.o x (by omega))) _ _ f2.o) b2.o (by
              rcases a9.o with h|h
              . exact .inl h
              . exact .inr (by simp;omega)) (by rw [H.o];exact b5.o)
             rw [H.o,<- d0.o] at this;exact this)
            have i5:=U (f3.o.snoc it lo hi T a0 R X k0 m8 (fun x hx s=>by omega) f2.o);rw [<- d0.o] at i5;clear r b5 b2 a9 f6 f7 e2 b7 y1 y2 y3 y4 y5 b6 H d0;go_wp2;go_roundw
            case rel=>exact ⟨q+1,_,_,_,_,by omega,h9.o,i5.o⟩
            case measure => have y:=l5.o;have h2:=h9.o.row.cell (i:=3) (by decide);simp only [qZ] at h2;rw [y,h2];exact Nat.sub_lt_sub_left E (Nat.lt_succ_self _)
     . obtain rfl:q=k:=by omega
       have k1:m.take q=m:=X2 (by rw [f.o,X9,p.o];exact J9 _);have g7:(M.map (·.2)).take q=M.map (·.2):=X2 (by rw [X9,p.o];exact J9 _);rw [k1,g7] at d;rw [g7] at f3;have I:=U (show m.length=q by rw [f.o,X9,p.o]);have H:=U (show (M.map (·.2)).length=q by rw [X9,p.o]);obtain ⟨m3,m4,ai,ci,k6,rfl,k5⟩:=d.o.done;obtain ⟨rfl,rfl⟩:S=m3/\cn=m4:=by simpa [I.o] using k6
       have m1:=U (show ∀F:World,(∀x,x≠w.heap.size->F.heap[x]?=Y.heap[x]?)->Y.heap.size<=F.heap.size->Rep F W0 F.heap.size (.mk 5 0 ⟨#[]⟩ m (M.map (·.2))) (.agg #[.int .u8 5,.int .i64 0,.string ⟨#[]⟩,.slice S m.length cn,.slice ai (M.map (·.2)).length ci]) from fun F hF hz=>by
        have E:=d.o.lt;have o3:=d.o.touch.size;have nF:=kQ (zc d.o.names fun x hx=>hF x (by have:=(d.o.names.lt x hx).1;omega)) d.o.le;have iF:=kQ (zc d.o.items fun x hx=>hF x (by have:=(d.o.items.lt x hx).1;omega)) d.o.le;have rF:qU F W0 (fun b=>w.heap.size<=b) (M.map (·.2)) cs:=f3.o.carry (by omega) lz (fun x hx _=>by rw [hF x (by omega),d.o.touch.block x (by omega) (by omega),c7.o.block x hx]) (fun _ h=>.inl h);obtain ⟨a1,c1,y,h2,h3⟩:=ju nF rfl;obtain ⟨a2,c2,h4,h5,h6⟩:=zN iF rF rfl;simp only [K6] at y h4;obtain ⟨rfl,-,rfl⟩:=y;obtain ⟨rfl,-,rfl⟩:=h4;exact Rep.mk (v:=.mk 5 0 ⟨#[]⟩ m (M.map (·.2))) h2 h5 h3 h6)
       have c6:=d.o.row;have n9:=d.o.lt;have hz:=d.o.touch.size;have K:=d.o.touch.row m0.o (by omega);rw [H.o] at c6;obtain ⟨r0,r1,r2,r3,r4⟩:=rc5 c6;obtain ⟨t0,t1,t2,t3,t4⟩:=rc5 K;obtain ⟨s0,s1,s2,s3,s4⟩:=rf5 K;simp only [qZ] at r0 r1 r2 r3 r4 t0 t1 t2 t3 t4;have m2:=U K;have l3:=O0 (O5 w Y) (c7.o.trans (d.o.touch.below (by omega) fun j hj e=>by omega));clear c6 K k5 k1 g7 d c3 k6;go_wp2;refine X4 (qk Tryz.results165 _ _ w.heap.size 25 _ (0,0) _ rfl (qr (set5 _ _ _ _ _ m2.o)) X8 rfl (by kernel_rfl) _ rfl) rfl ⟨S,cn,ai,ci,?_,?_,zj _ _ _ _ _ l3.o lz⟩
       . rw [<- f.o,I.o,H.o];rfl
       . rw [<- f.o];exact m1.o _ (fun x hx=>jm _ _ _ _ _ hx) (by simp [World.setCell])
