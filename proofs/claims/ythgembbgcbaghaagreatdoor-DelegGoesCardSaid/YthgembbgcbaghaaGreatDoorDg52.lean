import Derived.Test.YthgembbgcbaghaaGreatDoorDg51
import Derived.Test.YthgembbgcbaghaaGreatDoorDg42
set_option maxHeartbeats 8000000
set_option maxRecDepth 100000

namespace Go.Proofs.YthgembbgcbaghaaGreatDoor
open Go.RowKit Go.Shelf Go.Sort
theorem eI (l:List Key2) (rs:List DelegV) (t e0:Int) (ids:List ByteArray) (k2:ByteArray) (ka ra ba:Option Addr) (kc rc bc:Nat) (w:World) (hI:DelegsIn w 0 w.heap.size ⟨l,rs,⟨e0,k2,⟨t,ids⟩⟩⟩ ka ra ba) (hf:DelegsFits ⟨l,rs,⟨e0,k2,⟨t,ids⟩⟩⟩) (k3:rs.length<=rc) :
 Calls Tryz.prog 41 #[.agg #[.slice ka l.length kc,.slice ra rs.length rc,.int .i64 t,.slice ba ids.length bc,.int .i64 e0,.string k2]] w fun e w'=>e=.returned (.bool (qL ⟨l,rs,⟨e0,k2,⟨t,ids⟩⟩⟩))/\O5 w w':=by
 obtain ⟨W,hW⟩:=O1 (w.alloc (.cells #[.slice ka l.length kc,.slice ra rs.length rc,.int .i64 t,.slice ba ids.length bc,.int .i64 e0,.string k2] 35));have hb:=O7 hW
 have hx:=O9 hW
 have HC:=U (show ∀w':World,O5 W w'->w'.cell? ⟨w.heap.size,0,none⟩=some (.slice ka l.length kc)/\w'.cell? ⟨w.heap.size,1,none⟩=some (.slice ra rs.length rc)/\w'.cell? ⟨w.heap.size,2,none⟩=some (.int .i64 t)/\w'.cell? ⟨w.heap.size,3,none⟩=some (.slice ba ids.length bc)/\w'.cell? ⟨w.heap.size,4,none⟩=some (.int .i64 e0)/\w'.cell? ⟨w.heap.size,5,none⟩=some (.string k2) from fun w' h=>by
  have y:=(h.block _ (qx hx)).trans hx;exact ⟨qq y rfl,qq y rfl,qq y rfl,qq y rfl,qq y rfl,qq y rfl⟩)
 have HI:=O0 (∀w':World,O5 W w'->DelegsIn w' 0 w'.heap.size ⟨l,rs,⟨e0,k2,⟨t,ids⟩⟩⟩ ka ra ba) (fun w' h=>hI.below (hb.trans (h.mono hb.size)) lz lz (J1 hb.size h.size));have f1:l.length<=40:=hf.len;have f2:rs.length<=70:=hf.many;have HF:=U hf;have q:=U hb;have k0:=U k3;have o:=U ((qO ⟨l,rs,⟨e0,k2,⟨t,ids⟩⟩⟩).trans (zU ⟨l,rs,⟨e0,k2,⟨t,ids⟩⟩⟩));dsimp only at o;have a8:=O0 (qL ⟨l,rs,⟨e0,k2,⟨t,ids⟩⟩⟩=true->(qf ⟨l,rs,⟨e0,k2,⟨t,ids⟩⟩⟩).mayB=true/\(qf ⟨l,rs,⟨e0,k2,⟨t,ids⟩⟩⟩).wt<=4294967296) (fun h=>⟨yG (by rw [<- qO];exact h),yC (by rw [<- qO];exact h)⟩);have N:=O0 (qL ⟨l,rs,⟨e0,k2,⟨t,ids⟩⟩⟩=true->∀w':World,O5 W w'->_) (fun h w' hw=>sw l rs t e0 ids k2 ka ra ba kc rc bc w' (HI.o w' hw) h k3);have d4:=U (fun w'=>bG t e0 ids k2 ba bc w');have a6:=O0 (∀w':World,O5 W w'->_) (fun w' h=>tH t e0 ids k2 ba bc w' (J1 hf.pre (by decide)) (HI.o w' h).bids (fun s hs=>J1 (hf.au.2.2 s hs) (by decide)) (J1 hf.au.2.1 (by decide)));have d7:=U hW;obtain ⟨M,hM⟩:=O1 (qL ⟨l,rs,⟨e0,k2,⟨t,ids⟩⟩⟩);rw [<- hM] at o a8 N ⊢;obtain ⟨nb,h4⟩:=O1 (q8 ⟨e0,k2,⟨t,ids⟩⟩);rw [<- h4] at o d4;obtain ⟨bm,R⟩:=O1 (q6 ⟨e0,k2,⟨t,ids⟩⟩);rw [<- R] at o a6;obtain ⟨J,hJ⟩:=O1 (qf ⟨l,rs,⟨e0,k2,⟨t,ids⟩⟩⟩);rw [<- hJ] at a8 N;obtain ⟨n,hn⟩:=O1 l.length;have G:=U hn;obtain ⟨g,S⟩:=O1 rs.length;have f:=U S;rw [<- hn,<- S] at HC N d7;rw [<- hn] at f1;rw [<- S] at f2;rw [<- hn,<- S];obtain ⟨X,C,Y,Z,q4,q5⟩:=HC.o W (J0 _ _);clear hx hW hI hf k3 hM h4 R hJ hn S hb;go_enter Tryz.func41,Tryz.ntmps41;go_upto_region 1 with fail
 rw [<- d7.o];clear d7;by_cases h32:32<n
 case pos => have a1:decide (32<(n:Int))=true:=X0 (by omega);have a:=U (show M=false by rw [o.o,gC (by rw [<- G.o];omega)];rfl);go_wp2;go_ret;exact ⟨qz a.o.symm,q.o⟩
 have a1:decide (32<(n:Int))=false:=J5 (by omega);by_cases h64:64<g
 case pos =>
  have a2:decide (64<(g:Int))=true:=X0 (by omega);have a:=U (show M=false by
   rw [o.o];cases nb
   . rw [J3 (by decide),show rs.isEmpty=false from by
      cases rs with
      | nil=>have:=f.o;simp at this;omega
      | cons _ _=>rfl,V8,N1]
   . rw [J8 rfl,yt (by rw [<- f.o];omega),N1])
  go_wp2;go_ret;exact ⟨qz a.o.symm,q.o⟩
 have a2:decide (64<(g:Int))=false:=J5 (by omega);have g2:n<=32:=by omega
 have g3:g<=64:=by omega
 clear h32 h64;go_wp2_with fail;refine (d4.o _).mono ?_;clear d4 X C Y Z q4 q5;rintro e w2 ⟨rfl,b7⟩;have D:=U b7;obtain ⟨X,C,Y,Z,q4,q5⟩:=HC.o w2 b7;clear b7;cases nb
 rotate_left
 focus
  have a5:=D;have HK:=O0 (zy l=false->M=false) (fun h=>by rw [o.o,h];rfl);have HY:=O0 (zy l=true->M=zl rs) (fun h=>by rw [o.o,h,J8 rfl,Y1]);clear a6 o
 rotate_left
 focus
  rw [J3 (by decide)] at o;by_cases hr0:0<g
  case pos =>
   have n1:decide ((0:Int)<(g:Int))=true:=by rw [J6];omega
   have a:=U (show M=false by
    rw [o.o,show rs.isEmpty=false from by
     cases rs with
     | nil=>have:=f.o;simp at this;omega
     | cons _ _=>rfl,V8,N1])
   go_wp2;go_ret;exact ⟨qz a.o.symm,q.o.trans (D.o.mono q.o.size)⟩
  have n1:decide ((0:Int)<(g:Int))=false:=by rw [V1];omega
  have i7:=O0 (rs=[]) (List.length_eq_zero_iff.1 (by rw [<- f.o];omega));go_wp2_with fail;refine (a6.o w2 D.o).mono ?_;clear a6 X C Y Z q4 q5;rintro e w3 ⟨rfl,g6⟩;have a5:=U (O2 D g6);clear g6;obtain ⟨X,C,Y,Z,q4,q5⟩:=HC.o w3 a5.o;cases bm
  case false => have a:=U (show M=false by rw [o.o,N1,N1]);go_wp2;go_ret;exact ⟨qz a.o.symm,q.o.trans (a5.o.mono q.o.size)⟩
  have HK:=O0 (zy l=false->M=false) (fun h=>by rw [o.o,h];rfl);have HY:=O0 (zy l=true->M=zl rs) (fun h=>by rw [o.o,h,i7.o];rfl);clear o hr0
 all_goals
  go_wp2;clear a1 a2 X C Y Z q4 q5;go_loopw [3,4,5,6] (fun ls i _ _ wr=>∃(k:Nat) (s:ByteArray),k<=n/\i=.int .i64 k/\ls=.string s/\(∀j (h:j<l.length),j<k->ok2 l[j]=true)/\qo ((Go.Proofs.YthgembbgcbaghaaGreatDoor.ids l).take k)=true/\(∀h:k - 1<l.length,1<=k->s=id2 l[k-1])/\O5 W wr) (fun _ i _ _ _=>n - (intOf i).toNat)
  case atStart=>exact ⟨0,⟨#[]⟩,by omega,rfl,rfl,fun j _ h=>by omega,rfl,fun _ h=>by omega,a5.o⟩
  case round =>
   obtain ⟨k,s,hk,rfl,rfl,g4,i1,e9,c4⟩:=hrel;have a0:=U g4;have b5:=U i1;have b6:=U e9;have v:=U c4;clear g4 i1 e9 c4;have f7:=O0 ((Go.Proofs.YthgembbgcbaghaaGreatDoor.ids l).length=n) ((X9 ..).trans G.o.symm);obtain ⟨X,C,Y,Z,q4,q5⟩:=HC.o wr v.o;by_cases hlt:k<n
   case pos =>
    have c0:k<l.length:=by rw [<- G.o];exact hlt
    obtain ⟨b,B,ha,_,hb,Q,e1⟩:=(HI.o wr v.o).keys.at k c0;subst ha;dsimp only at Q e1;have c2:=HF.o.keys l[k] (X6 c0);have c:=U (fun h=>HK.o (pd (l:=l) c0 h));have H:=U (show ok2 l[k]=true->(k=0\/Op.bytesLess s.toList (id2 l[k]).toList=true)->(∀j (h:j<l.length),j<k+1->ok2 l[j]=true)/\qo ((Go.Proofs.YthgembbgcbaghaaGreatDoor.ids l).take (k+1))=true/\(∀h:k<l.length,1<=k+1->id2 l[k]=id2 l[k]) from fun ho hle=>by
     refine ⟨fun j p hjk=>?_,?_,fun _ _=>rfl⟩
     . rcases V5.1 hjk with h1|h1
       . exact a0.o j p h1
       . subst h1;exact ho
     . rcases za0 k with h0|h0
       . subst h0;cases hq:Go.Proofs.YthgembbgcbaghaaGreatDoor.ids l with
         | nil=>rfl
         | cons x r=>rfl
       . rw [jH (Go.Proofs.YthgembbgcbaghaaGreatDoor.ids l) k h0 (by have:=f7.o;omega),b5.o,Y1];have h3:=hle.resolve_left (by omega);rw [b6.o (by omega) h0] at h3;simpa [Go.Proofs.YthgembbgcbaghaaGreatDoor.ids] using h3)
    have a7:=O0 (1<=k->Op.bytesLess s.toList (id2 l[k]).toList=false->M=false) (fun h1 h2=>HK.o (gD (l:=l) (k:=k) h1 c0 (by rw [<- b6.o (by omega) h1];exact h2)));obtain ⟨x,T⟩:∃x:Key2,x=l[k]:=⟨_,rfl⟩;have i9:=U (show id2 x=id2 l[k] by rw [T]);replace Q:=Q.trans (Y2 (fun z:Key2=>some (Value.string z.1)) T.symm);replace e1:=e1.trans (Y2 (fun z:Key2=>some (Value.string z.2)) T.symm);rw [<- T] at c2 c H a7;clear T a0 b6 b5;obtain ⟨xs,xp⟩:=x;replace Q:wr.cell? ⟨b,B+k * 2,none⟩=some (.string xs):=Q;replace e1:wr.cell? ⟨b,B+k * 2+1,none⟩=some (.string xp):=e1;have e9:xs.size<=300:=c2.1;have k1:xp.size<=300:=c2.2;have F:=U (ak xs xp wr (by omega) (by omega));unfold xX at F;obtain ⟨ID,e6⟩:∃ID:ByteArray,ID=⟨(jB xs.data.toList xp.data.toList).toArray⟩:=⟨_,rfl⟩;rw [<- e6] at F;have e2:id2 (xs,xp)=ID:=e6.symm;have f6:=O0 (ID=id2 l[k]) (e2.symm.trans i9.o);rw [e2] at H a7;have d5:=O0 (ok2 (xs,xp)=zd xs.data.toList xp.data.toList) rfl;obtain ⟨ok,h9⟩:=O1 (zd xs.data.toList xp.data.toList);rw [<- h9] at d5 F;rw [d5.o] at c H;clear c2 e6 e2 h9 d5;go_wp2_with fail;refine F.o.mono ?_;clear F Q e1 X C Y Z q4 q5;rintro r w4 ⟨rfl,g7⟩;have c6:=U (O2 v g7);have E:=U (q.o.trans (c6.o.mono q.o.size));clear g7;cases ok
    case false => have a:=U (c.o rfl);go_wp2;go_ret;exact ⟨qz a.o.symm,E.o⟩
    case true =>
     by_cases h0:k=0
     case pos =>
      have HN:=U (H.o rfl (.inl h0));have a4:decide (0<(k:Int))=false:=J5 (by omega);go_wp2;go_roundw
      case rel => exact ⟨k+1,ID,by omega,by go_num,rfl,HN.o.1,HN.o.2.1,fun _ _=>f6.o,c6.o⟩
      case measure=>simp [intOf];omega
     case neg =>
      have a4:decide (0<(k:Int))=true:=X0 (by omega);have A:=U (az s ID);cases lt:Op.bytesLess ID.toList s.toList
      case true => rw [lt,Bool.true_or] at A;have a:=U (a7.o (by omega) (by rw [A.o];rfl));go_wp2;go_ret;exact ⟨qz a.o.symm,E.o⟩
      case false =>
       cases eqq:(ID.toList == s.toList)
       case true => rw [lt,eqq] at A;have a:=U (a7.o (by omega) (by rw [A.o];rfl));go_wp2;go_ret;exact ⟨qz a.o.symm,E.o⟩
       case false =>
        rw [lt,eqq] at A;have HN:=U (H.o rfl (.inr A.o));go_wp2;go_roundw
        case rel => exact ⟨k+1,ID,by omega,by go_num,rfl,HN.o.1,HN.o.2.1,fun _ _=>f6.o,c6.o⟩
        case measure=>simp [intOf];omega
   case neg =>
    obtain rfl:k=n:=by omega
    have a3:decide ((k:Int)<(k:Int))=false:=by simp
    have d6:=U (HY.o (by
     refine zw.2 ⟨by rw [<- G.o];exact g2,fun x hx=>?_,?_⟩
     . obtain ⟨j,p,rfl⟩:=V4 hx;exact a0.o j p (by rw [G.o];exact p)
     . have:=b5.o;rwa [X2 (by rw [f7.o];exact J9 _)] at this))
    clear hlt a0 b5 b6 HK HY;go_wp2;clear X C Y Z q4 q5 a3;go_loopw [7,8] (fun i _ wr=>∃m:Nat,m<=g/\i=.int .i64 m/\(∀j (h:j<rs.length),j<m->qi rs[j]=true)/\(∀j (h:j<rs.length),j<m->((rs.take j).any fun y=>decide (y.name=rs[j].name))=false)/\O5 W wr) (fun i _ _=>g - (intOf i).toNat)
    case atStart=>exact ⟨0,by omega,rfl,fun j _ h=>by omega,fun j _ h=>by omega,v.o⟩
    case round =>
     obtain ⟨m,hm,rfl,h7,h8,R⟩:=hrel;have b3:=U h7;have b4:=U h8;have d:=U R;clear h7 h8 R v;obtain ⟨X,C,Y,Z,q4,q5⟩:=HC.o wr d.o;by_cases hmr:m<g
     case pos =>
      have c1:m<rs.length:=by rw [<- f.o];exact hmr
      obtain ⟨b,B,ha,-,hb,ia,ic,pa,pc,qa,qc,Q,e1,e2,e3,e4,e5,-,-,-,e8⟩:=(HI.o wr d.o).roles.at m c1;subst ha;have m1:(0:Int)<=(m:Int):=by omega
      have m2:(m:Int)<(g:Int):=by omega
      have m3:decide ((m:Int)<(g:Int))=true:=by simpa using hmr
      have c:=U (fun h=>d6.o.trans (gZ (l:=rs) c1 h));have L:=U (fun h=>d6.o.trans (wF (l:=rs) c1 h));have d1:=U (show qi rs[m]=true->∀j (h:j<rs.length),j<m+1->qi rs[j]=true from fun h0 j p hjk=>by
       rcases V5.1 hjk with h1|h1
       . exact b3.o j p h1
       . subst h1;exact h0)
      have d2:=U (show ((rs.take m).any fun y=>decide (y.name=rs[m].name))=false->∀j (h:j<rs.length),j<m+1->((rs.take j).any fun y=>decide (y.name=rs[j].name))=false from fun h0 j p hjk=>by
       rcases V5.1 hjk with h1|h1
       . exact b4.o j p h1
       . subst h1;exact h0)
      have d0:=U (HF.o.roles rs[m] (X6 c1));have b0:=O0 (∀w':World,O5 wr w'->w'.cell? ⟨b,B+m * 6,none⟩=some (.string rs[m].name)) (fun w' h=>((V9 (h.block b hb)).trans Q));obtain ⟨x,hx⟩:=O1 (rs[m]);rw [<- hx] at Q e1 e2 e3 e4 e5 e8 c L d1 d2 d0 b0;clear hx b3 b4;obtain ⟨V,⟨xt,c5⟩,tm,ps,qs⟩:=x;dsimp only at Q e1 e2 e3 e4 e5 L d2 b0;have K:=U (lA V xt c5 tm ps qs ia pa qa ic pc qc wr e8 d0.o);obtain ⟨b1,g5⟩:∃b,b=qi ⟨V,⟨xt,c5⟩,tm,ps,qs⟩:=⟨_,rfl⟩;rw [<- g5] at K c d1;clear g5 e8 d0;go_wp2_with fail;refine K.o.mono ?_;clear K Q e1 e2 e3 e4 e5 X C Y Z q4 q5;rintro r w5 ⟨rfl,b9⟩;have c7:=U (O2 d b9);have i5:=O0 (∀w':World,O5 w5 w'->w'.cell? ⟨b,B+m * 6,none⟩=some (.string V)) (fun w' h=>b0.o w' (b9.trans (h.mono b9.size)));have E:=U (q.o.trans (c7.o.mono q.o.size));have f0:=U (J0 w5.heap.size w5);clear b9 b0;cases b1
      case false => have a:=U (c.o rfl);go_wp2;go_ret;exact ⟨qz a.o.symm,E.o⟩
      case true =>
      go_wp2;go_loopw [8] (fun i wr=>∃j:Nat,j<=m/\i=.int .i64 j/\(∀z (h:z<rs.length),z<j->decide (rs[z].name=V)=false)/\O5 w5 wr) (fun i _=>m - (intOf i).toNat)
      case atStart=>exact ⟨0,by omega,rfl,fun z _ h=>by omega,f0.o⟩
      case round =>
       obtain ⟨j,p,rfl,h6,e7⟩:=hrel;have c3:=U h6;have f4:=U e7;have u:=U (O2 c7 e7);clear h6 e7 f0;by_cases hjm:j<m
       case pos =>
        have j0:j<rs.length:=by omega
        obtain ⟨b2,i2,ha,-,b7,ja,jc,va,vc,sa,sc,g0,-⟩:=(HI.o wr u.o).roles.at j j0;have h0:=i5.o wr f4.o;have C:=(HC.o wr u.o).2.1;obtain ⟨rfl,rfl⟩:b=b2/\B=i2:=by simpa using ha
        have j1:(0:Int)<=(j:Int):=by omega
        have j2:(j:Int)<(g:Int):=by omega
        have j3:decide ((j:Int)<(m:Int))=true:=by simpa using hjm
        have c9:=O0 ((rs[j].name.toList == V.toList)=decide (rs[j].name=V)) ba_eq;have P:=U (show decide (rs[j].name=V)=true->M=false from fun h=>L.o (by
         rw [zd4];exact ⟨rs[j],List.mem_take_iff_getElem.2 ⟨j,by omega,rfl⟩,h⟩))
        have I:=U (show decide (rs[j].name=V)=false->∀z (h:z<rs.length),z<j+1->decide (rs[z].name=V)=false from fun h0 z hz hzk=>by
         rcases V5.1 hzk with h1|h1
         . exact c3.o z hz h1
         . subst h1;exact h0)
        obtain ⟨nj,h5⟩:=O1 (rs[j].name);rw [<- h5] at g0 c9 P I;obtain ⟨y,hy⟩:=O1 (decide (nj=V));have hq:(nj.toList == V.toList)=y:=by rw [hy];exact c9.o
        rw [<- hy] at P I;clear h5 hy c9 ha;go_wp2_with fail;go_quiet (fail)
        clear h0 g0 C;cases y
        case false =>
         have d3:=U (I.o rfl);go_wp2;go_roundw
         case rel=>exact ⟨j+1,by omega,by go_num,d3.o,Below.drewN f4.o _⟩
         case measure=>simp [intOf];omega
        case true => have a:=U (P.o rfl);have i4:=U (q.o.trans (u.o.mono q.o.size));go_wp2;go_ret;exact ⟨qz a.o.symm,Below.drewN i4.o _⟩
       case neg =>
        obtain rfl:j=m:=by omega
        have j3:decide ((j:Int)<(j:Int))=false:=by simp
        have d3:=U (d2.o (by
         rw [List.any_eq_false];intro y hy;obtain ⟨z,hz,rfl⟩:=List.mem_take_iff_getElem.1 hy;have:=c3.o z (by omega) (by omega);simpa using this))
        have i6:=U (d1.o (by first|exact rfl|exact trivial));go_wp2;go_roundw
        case rel=>exact ⟨j+1,by omega,by go_num,i6.o,d3.o,u.o⟩
        case measure=>simp [intOf];omega
     case neg =>
      obtain rfl:m=g:=by omega
      have m3:decide ((m:Int)<(m:Int))=false:=by simp
      have a9:=O0 (M=true) (d6.o.trans (pj (by rw [<- f.o];exact g3) (fun j p=>b3.o j p (by rw [f.o];exact p)) (fun j p=>b4.o j p (by rw [f.o];exact p))));have f5:=U (N.o a9.o wr d.o);clear b3 b4;go_wp2_with fail;refine f5.o.mono ?_;clear f5 N X C Y Z q4 q5;rintro r w6 ⟨an,cn,ai,ci,rfl,i0,g8⟩;have g1:=U (Zh J _ w6 (a8.o a9.o).2 (Rep.carry (X7 _) lz (fun _ _ _=>rfl) _ _ i0));rw [(a8.o a9.o).1] at g1;have f3:=U (O2 d g8);clear i0 g8;go_wp2_with fail;refine g1.o.mono ?_;rintro r w7 ⟨rfl,g9⟩;have i3:=U (O2 q (O2 f3 g9));clear g9;go_wp2;go_ret;exact ⟨qz a9.o.symm,i3.o⟩
theorem QE (x:DelegV) (path:ByteArray):isD runes x path=(qi x && (qG path && ((x.paths.any fun p=>xk runes p path) || zV x.pres path))):=by
 rw [ed];cases hm:qi x with
 | false=>rfl
 | true =>
  rw [Y1,Y1];congr 1;rcases (xj hm).2.2.2 with ⟨h1,h2,-⟩|⟨h1,h2,-⟩
  . rw [J8 h1,h2];simp [zV]
  . rw [J3 (by rw [h1];simp),h1];simp
theorem aw (nm:ByteArray) (Z:Int) (a0:List ByteArray) (tm:Bool) (ps qs:List ByteArray) (path:ByteArray) (ia pa qa:Option Addr) (ic pc qc:Nat) (w:World) (hI:DelegIn w 0 w.heap.size ⟨nm,⟨Z,a0⟩,tm,ps,qs⟩ ia pa qa) (hf:DelegFits ⟨nm,⟨Z,a0⟩,tm,ps,qs⟩) (hp:path.size<=4294967296) :
 Calls Tryz.prog 24 #[.agg #[.string nm,.int .i64 Z,.slice ia a0.length ic,.bool tm,.slice pa ps.length pc,.slice qa qs.length qc],.string path] w fun e w'=>e=.returned (.bool (isD runes ⟨nm,⟨Z,a0⟩,tm,ps,qs⟩ path))/\O5 w w':=by
 obtain ⟨W,H⟩:=O1 (w.alloc (.cells #[.string nm,.int .i64 Z,.slice ia a0.length ic,.bool tm,.slice pa ps.length pc,.slice qa qs.length qc] 41));have o:=O7 H
 have M:=O9 H
 have J:=U (show ∀w':World,O5 W w'->w'.cell? ⟨w.heap.size,0,none⟩=some (.string nm)/\w'.cell? ⟨w.heap.size,1,none⟩=some (.int .i64 Z)/\w'.cell? ⟨w.heap.size,2,none⟩=some (.slice ia a0.length ic)/\w'.cell? ⟨w.heap.size,3,none⟩=some (.bool tm)/\w'.cell? ⟨w.heap.size,4,none⟩=some (.slice pa ps.length pc)/\w'.cell? ⟨w.heap.size,5,none⟩=some (.slice qa qs.length qc) from fun w' h=>by
  have y:=(h.block _ (qx M)).trans M;exact ⟨qq y rfl,qq y rfl,qq y rfl,qq y rfl,qq y rfl,qq y rfl⟩)
 have K:=O0 (∀w':World,O5 W w'->DelegIn w' 0 w'.heap.size ⟨nm,⟨Z,a0⟩,tm,ps,qs⟩ ia pa qa) (fun w' h=>hI.below (o.trans (h.mono o.size)) lz lz (J1 o.size h.size));have f:=U o;have a:=U (QE ⟨nm,⟨Z,a0⟩,tm,ps,qs⟩ path);have d:=U (lA nm Z a0 tm ps qs ia pa qa ic pc qc W (K.o W (J0 _ _)) hf);have j:=U (fun w'=>mF path w' (by omega));have i:=O0 (∀w':World,O5 W w'->_) (fun w' h=>nS ps path pa pc w' (K.o w' h).paths hf.paths.1 hf.paths.2 hp);have k:=O0 (∀w':World,O5 W w'->_) (fun w' h=>uF qs path qa qc w' (K.o w' h).pres hf.pres.1 hf.pres.2 hp);have l:=U H;obtain ⟨V,Q⟩:=O1 (isD runes ⟨nm,⟨Z,a0⟩,tm,ps,qs⟩ path);rw [<- Q] at a ⊢;dsimp only at a;obtain ⟨N,x⟩:=O1 (qi ⟨nm,⟨Z,a0⟩,tm,ps,qs⟩);rw [<- x] at a d;obtain ⟨P,z⟩:=O1 (qG path);rw [<- z] at a j;obtain ⟨L,v⟩:=O1 (ps.any (fun p=>xk runes p path));rw [<- v] at a i;obtain ⟨T,A⟩:=O1 (zV qs path);rw [<- A] at a k;clear o M H hI hf hp Q x z v A;obtain ⟨B,C,D,E,F,G⟩:=J.o W (J0 _ _);go_enter Tryz.func24,Tryz.ntmps24;go_upto_region 1 with fail
 rw [<- l.o];clear l;go_wp2_with fail;refine d.o.mono ?_;clear d B C D E F G;rintro e X ⟨rfl,q⟩;have g:=U q;clear q;cases N with
 | false => go_wp2;go_ret;exact ⟨qz a.o.symm,f.o.trans (g.o.mono f.o.size)⟩
 | true =>
 rw [Y1] at a;go_wp2_with fail;refine (j.o X).mono ?_;clear j;rintro e R ⟨rfl,r⟩;have b:=U (O2 g r);clear r;cases P with
 | false => go_wp2;go_ret;exact ⟨qz a.o.symm,f.o.trans (b.o.mono f.o.size)⟩
 | true =>
 rw [Y1] at a;obtain ⟨B,C,D,E,F,G⟩:=J.o R b.o;go_wp2_with fail;refine (i.o R b.o).mono ?_;clear i B C D E F G;rintro e S ⟨⟨m,rfl⟩,s⟩;have c:=U (O2 b s);clear s;obtain ⟨B,C,D,E,F,G⟩:=J.o S c.o;cases L with
 | true => rw [Bool.true_or] at a;go_wp2;go_ret;exact ⟨qz a.o.symm,f.o.trans (c.o.mono f.o.size)⟩
 | false =>
 rw [ze9] at a;go_wp2_with fail;refine (k.o S c.o).mono ?_;clear k B C D E F G;rintro e Y ⟨rfl,u⟩;have I:=U (O2 f (O2 c u));clear u;go_wp2;go_ret;exact ⟨qz a.o.symm,I.o⟩
theorem ir (l:List Key2) (rs:List DelegV) (t j2:Int) (ids:List ByteArray) (j3 path:ByteArray) (ka ra ba:Option Addr) (kc rc bc:Nat) (w:World) (hI:DelegsIn w 0 w.heap.size ⟨l,rs,⟨j2,j3,⟨t,ids⟩⟩⟩ ka ra ba) (hf:DelegsFits ⟨l,rs,⟨j2,j3,⟨t,ids⟩⟩⟩) (k1:rs.length<=rc) (k0:ids.length<=bc) (hp:path.size<=4294967296) :
 Calls Tryz.prog 19 #[.agg #[.slice ka l.length kc,.slice ra rs.length rc,.int .i64 t,.slice ba ids.length bc,.int .i64 j2,.string j3],.string path] w fun e w'=>∃a c,e=.returned (.slice a (xv runes ⟨l,rs,⟨j2,j3,⟨t,ids⟩⟩⟩ path).length c)/\xl w' 0 w'.heap.size a (xv runes ⟨l,rs,⟨j2,j3,⟨t,ids⟩⟩⟩ path)/\O5 w w':=by
 obtain ⟨W,hW⟩:=O1 (w.alloc (.cells #[.slice ka l.length kc,.slice ra rs.length rc,.int .i64 t,.slice ba ids.length bc,.int .i64 j2,.string j3] 35));have Y:=O7 hW
 have H:=O9 hW
 have HC:=U (show ∀w':World,O5 W w'->w'.cell? ⟨w.heap.size,0,none⟩=some (.slice ka l.length kc)/\w'.cell? ⟨w.heap.size,1,none⟩=some (.slice ra rs.length rc)/\w'.cell? ⟨w.heap.size,2,none⟩=some (.int .i64 t)/\w'.cell? ⟨w.heap.size,3,none⟩=some (.slice ba ids.length bc)/\w'.cell? ⟨w.heap.size,4,none⟩=some (.int .i64 j2)/\w'.cell? ⟨w.heap.size,5,none⟩=some (.string j3) from fun w' h=>by
  have y:=(h.block _ (qx H)).trans H;exact ⟨qq y rfl,qq y rfl,qq y rfl,qq y rfl,qq y rfl,qq y rfl⟩)
 have HI:=O0 (∀w':World,O5 W w'->DelegsIn w' 0 w'.heap.size ⟨l,rs,⟨j2,j3,⟨t,ids⟩⟩⟩ ka ra ba) (fun w' h=>hI.below (Y.trans (h.mono Y.size)) lz lz (J1 Y.size h.size));have HF:=U hf;have L:=U Y;have f2:rs.length<=70:=hf.many;have f3:j3.size<=300:=hf.pre;have h3:=U k0;have h6:=U hI;have b6:=U (eI l rs t j2 ids j3 ka ra ba kc rc bc W (HI.o W (J0 _ _)) hf k1);have c0:=U (fun w'=>mF path w' (by omega));have b7:=U (fun w'=>bG t j2 ids j3 ba bc w');have u:=U (@mS ⟨l,rs,⟨j2,j3,⟨t,ids⟩⟩⟩ path);have F:=U ((qO ⟨l,rs,⟨j2,j3,⟨t,ids⟩⟩⟩).trans (zU ⟨l,rs,⟨j2,j3,⟨t,ids⟩⟩⟩));dsimp only at F;have m:=O0 (qL ⟨l,rs,⟨j2,j3,⟨t,ids⟩⟩⟩=true->qG path=true->xv runes ⟨l,rs,⟨j2,j3,⟨t,ids⟩⟩⟩ path=(if q8 ⟨j2,j3,⟨t,ids⟩⟩ then jr runes path rs else [⟨zP j3 j2.toNat (jN path j2.toNat),⟨t,ids⟩,true⟩])) (fun h1 h2=>by unfold xv;rw [h1,h2];rfl);have a3:=U (show ∀w':World,zu ⟨j2,j3,⟨t,ids⟩⟩=0->Calls Tryz.prog 74 #[.agg #[.int .i64 t,.slice ba ids.length bc,.int .i64 j2,.string j3],.string path] w' (fun e w2=>e=.returned (.tuple #[.string (zP j3 j2.toNat (jN path j2.toNat)),.int .i64 0])/\O5 w' w2) from fun w' he=>by
  obtain ⟨k,hk,h1,h2⟩:=uh he;subst hk;rw [zb2];exact ip t k ids j3 path ba bc w' (by omega) hp he h1 h2)
 have h5:=O0 (∀(w':World) (B:ByteArray) (f:Int) (d:List ByteArray) (A:Bool) (Z qs:List ByteArray),⟨B,⟨f,d⟩,A,Z,qs⟩ ∈ rs->∀I pa qa K pc qc,DelegIn w' 0 w'.heap.size ⟨B,⟨f,d⟩,A,Z,qs⟩ I pa qa->_) (fun w' B f d A Z qs H I pa qa K pc qc J=>aw B f d A Z qs path I pa qa K pc qc w' J (HF.o.roles _ H) hp);have e6:=U hW;obtain ⟨G,hG⟩:=O1 (xv runes ⟨l,rs,⟨j2,j3,⟨t,ids⟩⟩⟩ path);rw [<- hG] at u m ⊢;obtain ⟨mb,g7⟩:=O1 (qL ⟨l,rs,⟨j2,j3,⟨t,ids⟩⟩⟩);rw [<- g7] at b6 u F m;obtain ⟨pb,g9⟩:=O1 (qG path);rw [<- g9] at c0 u m;obtain ⟨nb,g8⟩:=O1 (q8 ⟨j2,j3,⟨t,ids⟩⟩);rw [<- g8] at b7 F m;clear Y H hW hI hf k1 hp hG g7 g9 g8 k0;obtain ⟨q0,q1,q2,q3,q4,q5⟩:=HC.o W (J0 _ _);go_enter Tryz.func19,Tryz.ntmps19;go_upto_region 1 with fail
 rw [<- e6.o];clear e6;go_wp2_with fail;refine b6.o.mono ?_;clear b6 q0 q1 q2 q3 q4 q5;rintro e w1 ⟨rfl,g0⟩;have a1:=U g0;clear g0;cases mb with
 | false => have b4:=U (u.o (by simp));go_wp2;go_ret;rw [b4.o];exact ⟨none,0,rfl,.inl rfl,L.o.trans (a1.o.mono L.o.size)⟩
 | true =>
 go_wp2_with fail
 refine (c0.o w1).mono ?_;clear c0;rintro e w2 ⟨rfl,g1⟩;have M:=U (O2 a1 g1);clear g1;cases pb with
 | false => have b4:=U (u.o (by simp));go_wp2;go_ret;rw [b4.o];exact ⟨none,0,rfl,.inl rfl,L.o.trans (M.o.mono L.o.size)⟩
 | true =>
 replace m:=U (m.o (by first|exact rfl|exact trivial) (by first|exact rfl|exact trivial));obtain ⟨q0,q1,q2,q3,q4,q5⟩:=HC.o w2 M.o;go_wp2_with fail;refine (b7.o w2).mono ?_;clear b7 q0 q1 q2 q3 q4 q5;rintro e w3 ⟨rfl,g3⟩;have a2:=U (O2 M g3);obtain ⟨q0,q1,q2,q3,q4,q5⟩:=HC.o w3 a2.o;clear g3 a1 M u;cases nb with
 | false =>
  rw [J3 (by decide)] at m;have HE:=U (show zu ⟨j2,j3,⟨t,ids⟩⟩=0 from by
   have h:=F.o;rw [J3 (by decide)] at h;have h2:=h.symm;simp only [X3] at h2;exact (xN h2.2.2).1)
  obtain ⟨R,hR⟩:=O1 (zP j3 j2.toNat (jN path j2.toNat));rw [<- hR] at a3 m;clear hR;go_wp2_with fail;refine (a3.o w3 HE.o).mono ?_;clear a3 q0 q1 q2 q3 q4 q5;rintro e E ⟨rfl,C⟩;have v:=U (O2 a2 C);obtain ⟨q0,q1,q2,q3,q4,q5⟩:=HC.o E v.o;clear C;go_wp2;go_ret;rw [m.o];have H:=J2 E (.cells #[.string R,.int .i64 t,.slice ba ids.length bc,.bool true] 105);have i3:O5 E (E.alloc (.cells #[.string R,.int .i64 t,.slice ba ids.length bc,.bool true] 105)):=O4;have s:=O2 v i3;refine ⟨_,1,rfl,.inr ⟨_,0,rfl,X7 _,qx H,fun i hi=>?_⟩,O2 L s⟩;obtain rfl:i=0:=by simpa using hi
  exact ⟨ba,bc,qq H rfl,qq H rfl,qq H rfl,qq H rfl,h3.o,(HI.o _ s).bids⟩
 | true =>
  rw [J8 rfl] at m;obtain ⟨nn,c3⟩:=O1 rs.length;have d2:=U c3;rw [<- c3] at HC q1 f2 ⊢;clear c3 a3;go_wp2_with fail;clear q0 q1 q2 q3 q4 q5;go_loopw [7,8,9] (fun s7 i _ wr=>∃(k:Nat) (a:Option Addr) (c:Nat) (j:List jP),k<=nn/\j.length<=k/\i=.int .i64 k/\s7=.slice a j.length c/\G=j.map (·.1) ++ jr runes path (rs.drop k)/\(∀q ∈ j,q.1.au.ids.length<=q.2.2/\qv w 0 w.heap.size q.2.1 q.1.au.ids)/\ItemsOwn 105 4 W.heap.size encS anyP wr s7 j/\O5 W wr) (fun _ i _ _=>nn - (intOf i).toNat)
  case atStart=>exact ⟨0,none,0,[],by omega,J9 _,rfl,rfl,by rw [m.o];rfl,fun q hq=>(by cases hq),ItemsOwn.nil _ _ _ _ _ _,a2.o⟩
  case round =>
   obtain ⟨k,a7,c7,j,hk,i9,rfl,rfl,g6,f7,b1,g5⟩:=hrel;have a5:=U g6;have HO:=U b1;have N:=U g5;have a0:=U f7;clear g6 b1 g5 f7;obtain ⟨q0,q1,q2,q3,q4,q5⟩:=HC.o wr N.o;by_cases hlt:k<nn
   . have c2:k<rs.length:=by rw [<- d2.o];exact hlt
     obtain ⟨b,o,ha,-,D,I,K,pa,pc,qa,qc,f0,f1,e9,f6,f4,f5,l1,-,-,J⟩:=h6.o.roles.at k c2;subst ha;have g:=U (L.o.trans (N.o.mono L.o.size));have e0:=(g.o.cell (p:=⟨b,o+k * 6,none⟩) D).trans f0;have e1:=(g.o.cell (p:=⟨b,o+k * 6+1,none⟩) D).trans f1;have e2:=(g.o.cell (p:=⟨b,o+k * 6+2,none⟩) D).trans e9;have e3:=(g.o.cell (p:=⟨b,o+k * 6+3,none⟩) D).trans f6;have e4:=(g.o.cell (p:=⟨b,o+k * 6+4,none⟩) D).trans f4;have e5:=(g.o.cell (p:=⟨b,o+k * 6+5,none⟩) D).trans f5;clear f0 f1 e9 f6 f4 f5;have m1:(0:Int)<=(k:Int):=by omega
     have m2:(k:Int)<(nn:Int):=by omega
     have m3:decide ((k:Int)<(nn:Int))=true:=by simpa using hlt
     have r:=U (rq (rs:=rs) (path:=path) c2);have V:=X6 c2;obtain ⟨x,H⟩:=O1 (rs[k]);rw [<- H] at e0 e1 e2 e3 e4 e5 J r V l1;clear H;obtain ⟨B,⟨f,d⟩,A,Z,qs⟩:=x;dsimp only at e0 e1 e2 e3 e4 e5 l1;have h7:=O0 (d.length<=K/\qv w 0 w.heap.size I d) (⟨l1,J.ids⟩);obtain ⟨X,a9⟩:=O1 (wr.alloc (.cells #[.string B,.int .i64 f,.slice I d.length K,.bool A,.slice pa Z.length pc,.slice qa qs.length qc] 41));have S:=O7 a9
     have b0:=O9 a9
     have d0:=U (O2 N S);have b3:=U (show ∀w':World,O5 X w'->w'.cell? ⟨wr.heap.size,0,none⟩=some (.string B)/\w'.cell? ⟨wr.heap.size,1,none⟩=some (.int .i64 f)/\w'.cell? ⟨wr.heap.size,2,none⟩=some (.slice I d.length K)/\w'.cell? ⟨wr.heap.size,3,none⟩=some (.bool A)/\w'.cell? ⟨wr.heap.size,4,none⟩=some (.slice pa Z.length pc)/\w'.cell? ⟨wr.heap.size,5,none⟩=some (.slice qa qs.length qc) from fun w' h=>by
      have y:=(h.block _ (qx b0)).trans b0;exact ⟨qq y rfl,qq y rfl,qq y rfl,qq y rfl,qq y rfl,qq y rfl⟩)
     have a6:=U (h5.o X B f d A Z qs V I pa qa K pc qc (J.below (O2 g S) lz lz (J1 g.o.size S.size)));have d7:=U (ItemsOwn.below jS HO.o S);have i2:=U (qx b0);have e7:=U a9;have h8:=O0 (∀b,(Value.slice a7 j.length c7).ownBlock=some b->b<wr.heap.size) (fun b Y=>(HO.o.own.lt b Y).2);obtain ⟨bi,g4⟩:=O1 (isD runes ⟨B,⟨f,d⟩,A,Z,qs⟩ path);rw [<- g4] at a6 r;dsimp only at a6 r;clear S b0 a9 J V g4 l1 D;go_upto_region 11 with fail
     rw [<- e7.o];clear e0 e1 e2 e3 e4 e5 e7 q0 q1 q2 q3 q4 q5;obtain ⟨z0,z1,z2,z3,z4,z5⟩:=b3.o X (J0 _ _);go_wp2_with fail;refine a6.o.mono ?_;clear a6 z0 z1 z2 z3 z4 z5;rintro e E ⟨rfl,C⟩;have v:=U C;have d3:=U (ItemsOwn.below jS d7.o C);have P:=U (O2 d0 C);clear C d7;cases bi with
     | false =>
      rw [J3 (by decide)] at r;go_wp2;go_roundw
      case rel=>exact ⟨k+1,a7,c7,j,by omega,by omega,by go_num,rfl,by rw [a5.o,r.o],a0.o,d3.o,P.o⟩
      case measure=>simp [intOf];omega
     | true =>
      rw [J8 rfl] at r;obtain ⟨z0,z1,z2,z3,z4,z5⟩:=b3.o E v.o;obtain ⟨WA,a8⟩:=O1 (E.alloc (.cells #[.string B,.int .i64 f,.slice I d.length K,.bool A] 105));have Q:=O7 a8
      have i0:=U (O9 a8);have d5:=U (ItemsOwn.below jS d3.o Q);have b9:=O0 (WA.ownsRow W.heap.size 105 4 (.slice a7 j.length c7) j.length (j.flatMap encS)) d5.o.own;have c6:=U (O2 P Q);have h9:=U a8;have e8:=U (b3.o WA (O2 v Q));have c4:W.heap.size<=WA.heap.size:=c6.o.size;have h4:=O0 (wr.heap.size<X.heap.size/\X.heap.size<=E.heap.size/\E.heap.size<=WA.heap.size) (⟨i2.o,v.o.size,Q.size⟩);have j0:j.length<=70:=by omega
      obtain ⟨i1,i4,i5,i6,i7⟩:=K9 mV;obtain ⟨qn,h0⟩:∃qn:jP,qn=(⟨B,⟨f,d⟩,A⟩,I,K):=⟨_,rfl⟩;have c1:=U h0;clear a8 Q h0;go_upto_region 13 with (at_builtin;rw [<- h9.o];(refine V6 _ rfl (.tmp 50) (.tmp 58) 46 rfl W.heap.size 105 i1 _ 4 56 Tryz.underlying46 i4 i5 i6 i7 rfl (by omega) (.slice a7 j.length c7) j.length (j.flatMap encS) rfl b9.o ⟨E.heap.size,0,none⟩ 1 1 [.string B,.int .i64 f,.slice I d.length K,.bool A] rfl rfl (Y0 (cs:=#[.string B,.int .i64 f,.slice I d.length K,.bool A]) i0.o) (by simp [Value.oneCell']) (by decide) (by unfold maxLen;omega) (by omega) c4 _ rfl ?_;intro g2 cap2 w7 hown7 hgrow7 hat7 hlt7;have d4:=U hown7;have a4:=U hgrow7;have c5:=U hat7;clear hown7 hgrow7 hat7 hlt7))
      have d6:=U (show ItemsOwn 105 4 W.heap.size encS anyP w7 (.slice (some ⟨g2,0,none⟩) (j.length+1) cap2) (j ++ [qn]) from ItemsOwn.snoc jS (v':=.slice (some ⟨g2,0,none⟩) (j.length+1) cap2) d5.o qn W.heap.size W.heap.size lz c4 (fun b Y hbg=>by omega) trivial a4.o (by rw [c1.o];exact d4.o) (by
       rcases c5.o with h|h
       . exact .inl h.symm
       . exact .inr ⟨g2,rfl,by omega⟩))
      have c9:=U (below_grown c6.o c4 a4.o (fun b Y=>(b9.o.lt b Y).1));have b5:=O0 ((j ++ [qn]).length=j.length+1) (by rw [G6];rfl);have d1:=O0 ((j ++ [qn]).map (·.1)=j.map (·.1) ++ [⟨B,⟨f,d⟩,A⟩]) (by rw [M1,c1.o];rfl);have b2:=U (show ∀q ∈ j ++ [qn],q.1.au.ids.length<=q.2.2/\qv w 0 w.heap.size q.2.1 q.1.au.ids from fun q hq=>by
       rcases za5.1 hq with hq|hq
       . exact a0.o q hq
       . obtain rfl:q=qn:=by simpa using hq
         rw [c1.o];exact h7.o)
      have j1:=(V9 (w:=WA) (w':=w7) (a:=⟨wr.heap.size,3,none⟩) (a4.o.block wr.heap.size (by have:=h4.o;omega) (fun e=>by have:=h8.o _ e.symm;omega))).trans e8.o.2.2.2.1;clear d4 a4 c5 b9 e8 z0 z1 z2 z3 z4 z5;cases A with
      | true =>
       rw [J8 rfl] at r;have z:=O0 (G=(j ++ [qn]).map (·.1)) (by rw [a5.o,r.o,d1.o];rfl);go_wp2;go_ret;have T:G.length=j.length+1:=by rw [z.o,X9,b5.o]
       have s:=L.o.trans (c9.o.mono L.o.size);exact ⟨some ⟨g2,0,none⟩,⟨cap2,by rw [T];rfl⟩,vA d6.o z.o.symm (fun q hq=>⟨(b2.o q hq).1,(b2.o q hq).2.below s lz lz s.size⟩),s⟩
      | false =>
       rw [J3 (by decide)] at r;go_wp2;go_roundw
       case rel=>exact ⟨k+1,some ⟨g2,0,none⟩,cap2,j ++ [qn],by omega,by rw [b5.o];omega,by go_num,by rw [b5.o],by rw [a5.o,r.o,d1.o,List.append_assoc];rfl,b2.o,d6.o,c9.o⟩
       case measure=>simp [intOf];omega
   . have m3:decide ((k:Int)<(nn:Int))=false:=by simpa using hlt
     have z:=U (show G=j.map (·.1) from by
      rw [a5.o,N7 (by rw [<- d2.o];omega)];simp [jr])
     go_wp2;go_ret;have T:G.length=j.length:=by rw [z.o,X9]
     have s:=L.o.trans (N.o.mono L.o.size);exact ⟨a7,c7,by rw [T];rfl,vA HO.o z.o.symm (fun q hq=>⟨(a0.o q hq).1,(a0.o q hq).2.below s lz lz s.size⟩),s⟩
theorem yR {path:ByteArray}:∀ {rs:List DelegV} {s:StepV},s ∈ jr runes path rs->∃x ∈ rs,s=nu x
 | [],s,h=>(by cases h)
 | y :: r,s,h=>by
  rw [jr] at h;split at h
  . rcases H0.1 h with h|h
    . exact ⟨y,M3 ..,h⟩
    . split at h
      . cases h
      . obtain ⟨x,hx,e⟩:=yR h;exact ⟨x,G4 _ hx,e⟩
  . obtain ⟨x,hx,e⟩:=yR h;exact ⟨x,G4 _ hx,e⟩
theorem mE {path:ByteArray}:∀ {rs:List DelegV},(jr runes path rs).length<=rs.length
 | []=>J9 _
 | y :: r=>by
  rw [jr];have:=mE (path:=path) (rs:=r);split
  . split
    . simp
    . simp only [N3];omega
  . simp only [N3];omega
theorem ii {d:DelegsV} {path:ByteArray} (b:DelegsFits d):(xv runes d path).length<=1000/\∀s ∈ xv runes d path,s.au.ids.length<=4294967296:=by
 unfold xv;split
 . split
   . refine ⟨J1 (J1 mE b.many) (by decide),fun s hs=>?_⟩;obtain ⟨x,a,rfl⟩:=yR hs;exact (b.roles x a).au.2.1
   . refine ⟨by show 1<=1000;decide,fun s hs=>?_⟩;obtain rfl:=List.mem_singleton.1 hs;exact b.au.2.1
 . exact ⟨by show 0<=1000;decide,fun s hs=>(by cases hs)⟩
theorem rl {T B:Nat} {w:World} {a:Option Addr} {n c:Nat} {d:List jP} (h:xw T B w (.slice a n c) d):0<n->∃g N f,a=some ⟨g,0,none⟩/\B<=g/\n * 4<=N/\w.rowIs g T N f:=by
 intro h0;have b:=(ItemsOwn.cells fO h).1;rcases h.own.2 with ⟨hv,hz⟩|⟨g,cap,cur,hv,hg,hh,hc,hm,hs,ht⟩
 . omega
 . simp only [K6] at hv;exact ⟨g,cap * 4,fun i=>cur[i]!,hv.1,hg,by omega,cur,hh,by omega,fun i hi=>by show cur[i]?=some cur[i]!;rw [getElem!_pos cur i (by omega),K0 (by omega)]⟩
theorem df (l:List Key2) (rs:List DelegV) (t g9:Int) (ids:List ByteArray) (h5 path:ByteArray) (ka ra ba:Option Addr) (kc rc bc:Nat) (nm:ByteArray) (g8:Int) (g7:List ByteArray) (tm:Bool) (ps qs:List ByteArray) (ia pa qa:Option Addr) (ic pc qc:Nat) (w:World) (G:DelegsGot w ⟨l,rs,⟨g9,h5,⟨t,ids⟩⟩⟩ ka ra ba kc rc bc) (X:DelegGot w ⟨nm,⟨g8,g7⟩,tm,ps,qs⟩ ia pa qa ic pc qc) (hT:Tabs w) :
 Calls Tryz.prog 4 #[.agg #[.slice ka l.length kc,.slice ra rs.length rc,.int .i64 t,.slice ba ids.length bc,.int .i64 g9,.string h5],.agg #[.string nm,.int .i64 g8,.slice ia g7.length ic,.bool tm,.slice pa ps.length pc,.slice qa qs.length qc],.string path] w fun e w'=>e=.returned (.bool true)/\O5 w w':=by
 obtain ⟨W,hW⟩:=O1 ((w.alloc (.cells #[.slice ka l.length kc,.slice ra rs.length rc,.int .i64 t,.slice ba ids.length bc,.int .i64 g9,.string h5] 35)).alloc (.cells #[.string nm,.int .i64 g8,.slice ia g7.length ic,.bool tm,.slice pa ps.length pc,.slice qa qs.length qc] 41));have J:O5 w W:=by rw [hW];exact (O4).alloc (by simp) _
 have z:W.heap[w.heap.size]?=some (.cells #[.slice ka l.length kc,.slice ra rs.length rc,.int .i64 t,.slice ba ids.length bc,.int .i64 g9,.string h5] 35 (0,0)):=by rw [hW];exact zG w _ _
 have hy:W.heap[w.heap.size+1]?=some (.cells #[.string nm,.int .i64 g8,.slice ia g7.length ic,.bool tm,.slice pa ps.length pc,.slice qa qs.length qc] 41 (0,0)):=by rw [hW];exact j9 w _ _
 have HC:=U (show ∀w':World,O5 W w'->w'.cell? ⟨w.heap.size,0,none⟩=some (.slice ka l.length kc)/\w'.cell? ⟨w.heap.size,1,none⟩=some (.slice ra rs.length rc)/\w'.cell? ⟨w.heap.size,2,none⟩=some (.int .i64 t)/\w'.cell? ⟨w.heap.size,3,none⟩=some (.slice ba ids.length bc)/\w'.cell? ⟨w.heap.size,4,none⟩=some (.int .i64 g9)/\w'.cell? ⟨w.heap.size,5,none⟩=some (.string h5) from fun w' h=>by
  have y:=(h.block _ (qx z)).trans z;exact ⟨qq y rfl,qq y rfl,qq y rfl,qq y rfl,qq y rfl,qq y rfl⟩)
 have HX:=U (show ∀w':World,O5 W w'->w'.cell? ⟨w.heap.size+1,0,none⟩=some (.string nm)/\w'.cell? ⟨w.heap.size+1,1,none⟩=some (.int .i64 g8)/\w'.cell? ⟨w.heap.size+1,2,none⟩=some (.slice ia g7.length ic)/\w'.cell? ⟨w.heap.size+1,3,none⟩=some (.bool tm)/\w'.cell? ⟨w.heap.size+1,4,none⟩=some (.slice pa ps.length pc)/\w'.cell? ⟨w.heap.size+1,5,none⟩=some (.slice qa qs.length qc) from fun w' h=>by
  have y:=(h.block _ (qx hy)).trans hy;exact ⟨qq y rfl,qq y rfl,qq y rfl,qq y rfl,qq y rfl,qq y rfl⟩)
 have R:=O0 (∀w':World,O5 W w'->DelegsIn w' 0 w'.heap.size ⟨l,rs,⟨g9,h5,⟨t,ids⟩⟩⟩ ka ra ba/\Tabs w'/\DelegIn w' 0 w'.heap.size ⟨nm,⟨g8,g7⟩,tm,ps,qs⟩ ia pa qa) (fun w' h=>⟨G.rows.below (J.trans (h.mono J.size)) lz lz (J1 J.size h.size),hT.below (J.trans (h.mono J.size)),X.rows.below (J.trans (h.mono J.size)) lz lz (J1 J.size h.size)⟩);have e7:rs.length<=rc:=G.cr;have d1:=U (mK l rs t g9 ids h5 ka ra ba kc rc bc W (R.o W (J0 _ _)).1 G.lk G.lr (fun x z=>⟨(G.each x z).2.2.1,(G.each x z).2.2.2.1,(G.each x z).2.2.2.2⟩) G.lb);have P:=O0 (∀w':World,O5 W w'->_) (fun w' h=>QA w' (R.o w' h).2.1);have d0:=O0 (NotLongD ⟨l,rs,⟨g9,h5,⟨t,ids⟩⟩⟩->DelegsFits ⟨l,rs,⟨g9,h5,⟨t,ids⟩⟩⟩) (fun h=>wu h G.bits G.thr (fun x z=>(G.each x z).1));have d2:=U (show ∀(w':World) (g:Nat),O5 W w'->w'.heap[g]?=some (.cells #[.string nm,.int .i64 g8,.slice ia g7.length ic,.bool tm,.slice pa ps.length pc,.slice qa qs.length qc] 41 (0,0))->Calls Tryz.prog 18 #[.agg #[.slice none 0 0,.slice (some ⟨g,0,none⟩) 1 1,.int .i64 0,.slice none 0 0,.int .i64 0,.string ⟨#[]⟩]] w' (ux ⟨[],[⟨nm,⟨g8,g7⟩,tm,ps,qs⟩],jW⟩ w') from fun w' g h v=>mK [] [⟨nm,⟨g8,g7⟩,tm,ps,qs⟩] 0 0 [] ⟨#[]⟩ none (some ⟨g,0,none⟩) none 0 1 0 w' ⟨.inl rfl,.inr ⟨g,0,rfl,X7 _,qx v,fun i hi=>by
  match i,hi with
  | 0,_=>exact ⟨ia,ic,pa,pc,qa,qc,qq v (j:=0) rfl,qq v (j:=1) rfl,qq v (j:=2) rfl,qq v (j:=3) rfl,qq v (j:=4) rfl,qq v (j:=5) rfl,X.ci,X.cp,X.cq,(R.o w' h).2.2⟩⟩,.inl rfl⟩ (by decide) (by show 1<=9223372036854775807;decide) (fun x z=>by
  obtain rfl:x=⟨nm,⟨g8,g7⟩,tm,ps,qs⟩:=by simpa using z
  exact ⟨X.li,X.lp,X.lq⟩) (by decide))
 have F:=U (show NotLongD ⟨[],[⟨nm,⟨g8,g7⟩,tm,ps,qs⟩],jW⟩->DelegFits ⟨nm,⟨g8,g7⟩,tm,ps,qs⟩ from fun h=>(wu h (show -9223372036854775808<=(0:Int)/\(0:Int)<=9223372036854775807 from ⟨by decide,by decide⟩) (show -9223372036854775808<=(0:Int)/\(0:Int)<=9223372036854775807 from ⟨by decide,by decide⟩) (fun x z=>by
  obtain rfl:x=⟨nm,⟨g8,g7⟩,tm,ps,qs⟩:=by simpa using z
  exact X.thr)).roles _ (List.mem_singleton.2 rfl))
 have g5:=O0 (g7.length<=ic/\ps.length<=pc/\qs.length<=qc) (⟨X.ci,X.cp,X.cq⟩);have Z:=U J;have HW:=U hW;have d3:=U e7;have f6:=O0 (ids.length<=bc) G.cb;have g6:=O0 (w.heap.size+1<W.heap.size) (qx hy);clear J z hy hW G X hT e7;obtain ⟨q0,q1,q2,q3,q4,q5⟩:=HC.o W (J0 _ _);go_enter Tryz.func4,Tryz.ntmps4;go_upto_region 1 with fail
 rw [<- HW.o];clear HW;go_wp2_with fail;refine d1.o.mono ?_;clear d1 q0 q1 q2 q3 q4 q5;rintro e Y ⟨b,rfl,I,d7⟩;have s:=U d7;have H:=U I;clear d7 I;cases b with
 | true =>
  go_wp2_with fail
  refine (P.o Y s.o).mono ?_;rintro e wa ⟨rfl,p⟩;have C:=U (O2 s p);clear p;go_wp2;go_ret;exact ⟨rfl,Z.o.trans (C.o.mono Z.o.size)⟩
 | false =>
 have HF:=U (d0.o (H.o rfl));clear d0 H;obtain ⟨W2,T⟩:=O1 (Y.alloc (.cells #[.string nm,.int .i64 g8,.slice ia g7.length ic,.bool tm,.slice pa ps.length pc,.slice qa qs.length qc] 41));have o:=O7 T
 have Q:=U (O2 s o);have a2:=U (d2.o W2 Y.heap.size Q.o (by rw [T];exact J2 Y _));have d6:=U T;clear o T d2;obtain ⟨x0,x1,x2,x3,x4,x5⟩:=HX.o Y s.o;go_wp2_with fail;rw [<- d6.o];refine a2.o.mono ?_;clear a2 d6 x0 x1 x2 x3 x4 x5;rintro e w3 ⟨b,rfl,I,e0⟩;have c:=U (O2 Q e0);have H:=U I;clear e0 I;cases b with
 | true =>
  go_wp2_with fail
  refine (P.o w3 c.o).mono ?_;rintro e wa ⟨rfl,p⟩;have C:=U (O2 c p);clear p;go_wp2;go_ret;exact ⟨rfl,Z.o.trans (C.o.mono Z.o.size)⟩
 | false =>
 replace F:=U (F.o (H.o rfl));clear H;by_cases h1000:path.size<=1000
 case neg =>
  have g1:decide (1000<(path.size:Int))=true:=by simp;omega
  go_wp2_with fail
  refine (P.o w3 c.o).mono ?_;rintro e wa ⟨rfl,p⟩;have C:=U (O2 c p);clear p;go_wp2;go_ret;exact ⟨rfl,Z.o.trans (C.o.mono Z.o.size)⟩
 have g1:decide (1000<(path.size:Int))=false:=by simp;omega
 obtain ⟨q0,q1,q2,q3,q4,q5⟩:=HC.o w3 c.o;have hp:path.size<=4294967296:=by omega
 have b1:=U (ir l rs t g9 ids h5 path ka ra ba kc rc bc w3 (R.o w3 c.o).1 HF.o d3.o f6.o hp);obtain ⟨S,hS⟩:=O1 (xv runes ⟨l,rs,⟨g9,h5,⟨t,ids⟩⟩⟩ path);have E:=O0 (S.length<=1000/\∀x ∈ S,x.au.ids.length<=4294967296) (by rw [hS];exact ii HF.o);have HG:=O0 (∀w':World,O5 W w'->Calls Tryz.prog 20 #[.agg #[.slice ka l.length kc,.slice ra rs.length rc,.int .i64 t,.slice ba ids.length bc,.int .i64 g9,.string h5],.string path] w' (mc 53 S w')) (fun w' h=>by rw [hS];exact delegGoes l rs t g9 ids h5 path ka ra ba kc rc bc w' (R.o w' h).1 HF.o d3.o hp (R.o w' h).2.1);have a0:=O0 (∀w':World,O5 W w'->Calls Tryz.prog 23 #[.agg #[.string nm,.int .i64 g8,.slice ia g7.length ic,.bool tm,.slice pa ps.length pc,.slice qa qs.length qc],.string path] w' (fun e w2=>e=.returned (.bool (isD runes ⟨nm,⟨g8,g7⟩,tm,ps,qs⟩ path))/\O5 w' w2)) (fun w' h=>sA ⟨nm,⟨g8,g7⟩,tm,ps,qs⟩ path ia pa qa ic pc qc w' (R.o w' h).2.2 F.o hp (R.o w' h).2.1);have a1:=O0 (∀w':World,O5 W w'->Calls Tryz.prog 24 #[.agg #[.string nm,.int .i64 g8,.slice ia g7.length ic,.bool tm,.slice pa ps.length pc,.slice qa qs.length qc],.string path] w' (fun e w2=>e=.returned (.bool (isD runes ⟨nm,⟨g8,g7⟩,tm,ps,qs⟩ path))/\O5 w' w2)) (fun w' h=>aw nm g8 g7 tm ps qs path ia pa qa ic pc qc w' (R.o w' h).2.2 F.o hp);obtain ⟨ib,e4⟩:=O1 (isD runes ⟨nm,⟨g8,g7⟩,tm,ps,qs⟩ path);rw [<- e4] at a0 a1;rw [<- hS] at b1;clear hS e4 F HF g5;go_wp2_with fail;refine b1.o.mono ?_;clear b1 q0 q1 q2 q3 q4 q5;rintro e w4 ⟨a4,c4,rfl,e8,e1⟩;have g4:=U e8;have b7:=U (O2 c e1);clear e8 e1 s Q c g1;obtain ⟨n,hn⟩:=O1 S.length;have HN:=U hn;have f5:n<=1000:=by rw [hn];exact E.o.1
 rw [<- hn];clear hn;go_wp2;go_loopw [8,9,10] (fun r _ _ wr=>∃k:Nat,k<=2/\r=.int .i64 k/\O5 w4 wr) (fun r _ _ _=>2 - (intOf r).toNat)
 case atStart=>exact ⟨0,by omega,rfl,J0 _ _⟩
 case round =>
  obtain ⟨k,hk,rfl,b6⟩:=hrel;obtain ⟨u0,rfl⟩:=O1 wr;have D:=U b6;have a9:=U (O2 b7 b6);clear b6;by_cases hlt:k<2
  case pos =>
   have m3:decide ((k:Int)<2)=true:=by rw [J6];omega
   obtain ⟨q0,q1,q2,q3,q4,q5⟩:=HC.o u0 a9.o;go_wp2_with fail;refine (HG.o u0 a9.o).mono ?_;clear q0 q1 q2 q3 q4 q5;rintro e w5 ⟨a5,c5,sq,rfl,e6,u,e2⟩;have g3:=U u;have a8:=U e2;have d5:=U ((xw.steps u e6).carry (lo':=0) (hi':=w5.heap.size) (X7 _) lz (fun _ _ _=>rfl));have b0:=U (rl u);clear e6 u e2 g3;have b3:=U (tv S a5 c5 w5 d5.o E.o.1);rw [<- HN.o] at b3 b0;rw [<- HN.o];go_wp2_with fail;refine b3.o.mono ?_;clear b3 d5;rintro e w6 ⟨a6,c6,rfl,e9,b4⟩;have B:=U (O2 a8 b4);have b2:=U (sk S S a6 a4 c6 c4 w6 e9 (g4.o.below (D.o.trans (B.o.mono D.o.size)) lz lz (J1 D.o.size B.o.size)) E.o.1 E.o.2 E.o.2);rw [X0 rfl,<- HN.o] at b2;have A:=U b4;clear e9 b4;go_wp2_with fail;refine b2.o.mono ?_;clear b2;rintro e w7 ⟨rfl,b5⟩;have b9:=U (O2 B b5);have c9:=U (show 0<n->∃g N f,a5=some ⟨g,0,none⟩/\u0.heap.size<=g/\n * 4<=N/\w7.rowIs g 53 N f from fun h0=>by
    obtain ⟨g,N,f,h1,h2,h3,h4⟩:=b0.o h0;exact ⟨g,N,f,h1,h2,h3,h4.of_block ((O2 A b5).block _ h4.lt)⟩)
   clear b5 b0 a8 B A;go_wp2;go_loopw [10] (fun i wq=>∃j:Nat,j<=n/\i=.int .i64 j/\O5 u0 wq/\(0<n->∃g N f,a5=some ⟨g,0,none⟩/\u0.heap.size<=g/\n * 4<=N/\wq.rowIs g 53 N f)) (fun i _=>n - (intOf i).toNat)
   case atStart=>exact ⟨0,by omega,rfl,b9.o,c9.o⟩
   case round =>
    obtain ⟨j,hj,rfl,e3,a7⟩:=hrel;have c7:=U e3;have d4:=U a7;clear e3 a7 b9 c9;by_cases hjn:j<n
    case pos =>
     obtain ⟨g,N,f,rfl,v,hN,L⟩:=d4.o (by omega);have HR:=U L;have j1:(0:Int)<=(j:Int):=by omega
     have j2:(j:Int)<(n:Int):=by omega
     have j3:decide ((j:Int)<(n:Int))=true:=by simpa using hjn
     have c0:=L.cell (i:=j * 4) (by omega);have c1:=L.cell (i:=j * 4+1) (by omega);have c2:=L.cell (i:=j * 4+2) (by omega);have c3:=L.cell (i:=j * 4+3) (by omega);have f0:=L.frozen (j * 4);have f1:=L.frozen (j * 4+1);have f2:=L.frozen (j * 4+2);have f3:=L.frozen (j * 4+3);clear L d4;go_wp2;go_roundw
     case rel=>exact ⟨j+1,by omega,by go_num,(((c7.o.setCell v _).setCell v _).setCell v _).setCell v _,fun _=>⟨g,N,_,rfl,v,hN,(((HR.o.set (j * 4) _).set (j * 4+1) _).set (j * 4+2) _).set (j * 4+3) _⟩⟩
     case measure=>simp [intOf];omega
    case neg =>
     obtain rfl:j=n:=by omega
     have j3:decide ((j:Int)<(j:Int))=false:=by simp
     have g0:=U (D.o.trans (c7.o.mono D.o.size));go_wp2;go_roundw
     case rel=>exact ⟨k+1,by omega,by go_num,g0.o⟩
     case measure=>simp [intOf];omega
  case neg =>
   obtain rfl:k=2:=by omega
   go_upto_region 14 with fail
   obtain ⟨wb,f4⟩:=O1 u0;have a:=U a9.o;rw [<- f4] at a ⊢;clear f4;have p4:(ib == ib)=true:=by simp
   obtain ⟨V,hV⟩:∃V:List MP,V=[.con (.agg #[.string nm,.int .i64 g8,.slice ia g7.length ic,.bool tm,.slice pa ps.length pc,.slice qa qs.length qc]),.con (.string path),.con (.bool ib),.con (.agg #[.string nm,.int .i64 g8,.slice ia g7.length ic,.bool tm,.slice pa ps.length pc,.slice qa qs.length qc]),.con (.string path),.con (.bool ib),.con (.bool true),.con (.bool true),.con (.bool true),.con (.bool true)]:=⟨_,rfl⟩;have m:=U hV;clear hV;refine qP 10 (fun d a' w'=>∃x50 x51 x52 x53 x54 x55 x56 x57 x58 x59,a'=⟨#[Value.agg #[Value.slice ka l.length kc,Value.slice ra rs.length rc,Value.int IntKind.i64 t,Value.slice ba ids.length bc,Value.int IntKind.i64 g9,Value.string h5],Value.agg #[Value.string nm,Value.int IntKind.i64 g8,Value.slice ia g7.length ic,Value.bool tm,Value.slice pa ps.length pc,Value.slice qa qs.length qc],Value.string path,Value.pointer (some { block:=w.heap.size,off:=0 }),Value.pointer (some { block:=w.heap.size+1,off:=0 }),undef,u6,Value.slice a4 n c4,Value.int IntKind.i64 (2:Int),u9,u10,Value.agg #[Value.slice ka l.length kc,Value.slice ra rs.length rc,Value.int IntKind.i64 t,Value.slice ba ids.length bc,Value.int IntKind.i64 g9,Value.string h5],Value.bool false,Value.bool false,Value.agg #[Value.string nm,Value.int IntKind.i64 g8,Value.slice ia g7.length ic,Value.bool tm,Value.slice pa ps.length pc,Value.slice qa qs.length qc],Value.slice (some { block:=Y.heap.size,off:=0 }) 1 1,Value.agg #[Value.slice none 0 0,Value.slice (some { block:=Y.heap.size,off:=0 }) 1 1,Value.int IntKind.i64 0,Value.slice none 0 0,Value.int IntKind.i64 0,Value.string ⟨#[]⟩],Value.bool false,Value.bool false,Value.bool false,Value.string path,Value.int IntKind.i64 (path.size:Int),Value.bool false,Value.bool false,undef,Value.agg #[Value.slice ka l.length kc,Value.slice ra rs.length rc,Value.int IntKind.i64 t,Value.slice ba ids.length bc,Value.int IntKind.i64 g9,Value.string h5],Value.string path,Value.slice a4 n c4,Value.int IntKind.i64 (2:Int),Value.bool false,u30,u31,u32,u33,u34,u35,u36,u37,u38,u39,u40,u41,u42,u43,u44,u45,u46,u47,u48,u49,x50,x51,x52,x53,x54,x55,x56,x57,x58,x59],[]⟩/\zW wb V d w' [x50,x51,x52,x53,x54,x55,x56,x57,x58,x59]) (by kernel_rfl) (by kernel_rfl) ?first ?step ?last
   case first=>exact ⟨_,_,_,_,_,_,_,_,_,_,rfl,zW.first _ _ _ (by rw [m.o];rfl)⟩
   case step =>
    rintro d a' w' ⟨x50,x51,x52,x53,x54,x55,x56,x57,x58,x59,rfl,h⟩ q hq hn M;rcases q with _|_|_|_|_|_|_|_|_|_|q
    . obtain ⟨z0,z1,z2,z3,z4,z5⟩:=HX.o w' (a.o.trans (h.1.mono a.o.size));refine J4 rfl fun K hK=>?_;go_simp;exact hK _ _ ⟨_,_,_,_,_,_,_,_,_,_,rfl,h.sameC 0 _ m rfl⟩
    . refine J4 rfl fun K hK=>?_;go_simp;exact hK _ _ ⟨_,_,_,_,_,_,_,_,_,_,rfl,h.sameC 1 _ m rfl⟩
    . obtain rfl:=h.cn M m 0 .data;obtain rfl:=h.cn M m 1 .data
      skip
      refine J4 rfl fun K hK=>?_;go_simp;refine (a0.o w' (a.o.trans (h.1.mono a.o.size))).mono ?_;rintro e w2 ⟨rfl,o⟩;exact hK _ _ ⟨_,_,_,_,_,_,_,_,_,_,rfl,h.didC o 2 _ m rfl⟩
    . obtain ⟨z0,z1,z2,z3,z4,z5⟩:=HX.o w' (a.o.trans (h.1.mono a.o.size));refine J4 rfl fun K hK=>?_;go_simp;exact hK _ _ ⟨_,_,_,_,_,_,_,_,_,_,rfl,h.sameC 3 _ m rfl⟩
    . refine J4 rfl fun K hK=>?_;go_simp;exact hK _ _ ⟨_,_,_,_,_,_,_,_,_,_,rfl,h.sameC 4 _ m rfl⟩
    . obtain rfl:=h.cn M m 3 .data;obtain rfl:=h.cn M m 4 .data
      skip
      refine J4 rfl fun K hK=>?_;go_simp;refine (a1.o w' (a.o.trans (h.1.mono a.o.size))).mono ?_;rintro e w2 ⟨rfl,o⟩;exact hK _ _ ⟨_,_,_,_,_,_,_,_,_,_,rfl,h.didC o 5 _ m rfl⟩
    . obtain rfl:=h.cn M m 2 .data;obtain rfl:=h.cn M m 5 .data;refine J4 rfl fun K hK=>?_;go_simp;exact hK _ _ ⟨_,_,_,_,_,_,_,_,_,_,rfl,h.sameC 6 _ m rfl⟩
    . obtain rfl:=h.cn M m 6 .data;refine J4 rfl fun K hK=>?_;go_simp;exact hK _ _ ⟨_,_,_,_,_,_,_,_,_,_,rfl,h.sameC 7 _ m rfl⟩
    . obtain rfl:=h.cn M m 7 .chain
      skip
      refine J4 rfl fun K hK=>?_;go_simp;refine (P.o w' (a.o.trans (h.1.mono a.o.size))).mono ?_;rintro e w2 ⟨rfl,o⟩;exact hK _ _ ⟨_,_,_,_,_,_,_,_,_,_,rfl,h.didC o 8 _ m rfl⟩
    . obtain rfl:=h.cn M m 7 .data;obtain rfl:=h.cn M m 8 .data;refine J4 rfl fun K hK=>?_;go_simp;exact hK _ _ ⟨_,_,_,_,_,_,_,_,_,_,rfl,h.sameC 9 _ m rfl⟩
    . omega
   case last => rintro d a' w' a3 ⟨x50,x51,x52,x53,x54,x55,x56,x57,x58,x59,rfl,h⟩;have e5:=h.1;obtain rfl:=h.con 9 (a3 _ (by omega)) m rfl rfl;have g2:=U e5;clear h a3 e5 m;have f7:=U (Z.o.trans ((a.o.trans (g2.o.mono a.o.size)).mono Z.o.size));go_wp2;go_ret;exact ⟨rfl,f7.o⟩
