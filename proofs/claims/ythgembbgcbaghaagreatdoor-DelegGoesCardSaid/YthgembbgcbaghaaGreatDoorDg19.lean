import Derived.Test.YthgembbgcbaghaaGreatDoorDg18
set_option maxHeartbeats 2000000
set_option maxRecDepth 100000

namespace Go.Proofs.YthgembbgcbaghaaGreatDoor
open Go.RowKit
theorem dU:∀ {b:List ByteArray} {a:List JV} {y:ByteArray} {x:JV},qE b a y=some x->x.wt<=JV.wts a
 | n :: b,z :: a,y,x,h=>by
  rw [qE] at h;simp only [JV.wts];split at h
  . injection h with h;subst h;omega
  . have:=dU h;omega
theorem fU {v:JV} {y:ByteArray} {c:Nat} {st:PS} (h:v.wt<=4294967296):(qQ v y c st).1.wt<=4294967296:=by
 have a:zJ.wt<=4294967296:=by decide
 have b:=v.wt_bd;unfold qQ;split
 . exact a
 . split
   . exact a
   . rename_i it hit;have:=dU (show qE v.names v.items y=some it from hit);split
     . exact a
     . split
       . exact a
       . show it.wt<=_;omega
theorem fM (n:Int) (w:World):Calls Tryz.prog 163 #[.int .i64 n] w fun e w'=>e=.returned (.agg #[.int .u8 2,.int .i64 n,.string ⟨#[]⟩,.slice none 0 0,.slice none 0 0])/\w'=w.alloc (.cells #[.int .u8 2,.int .i64 n,.string ⟨#[]⟩,.slice none 0 0,.slice none 0 0] 25):=by go_enter Tryz.func163,Tryz.ntmps163;go_wp2;exact X4 (Y7 Tryz.results163 _ _ w.heap.size 25 _ (0,0) _ rfl (J2 w _) X8 rfl (by kernel_rfl)) rfl ⟨rfl,rfl⟩
theorem pq (t:ByteArray) (w:World):Calls Tryz.prog 164 #[.string t] w fun e w'=>e=.returned (.agg #[.int .u8 3,.int .i64 0,.string t,.slice none 0 0,.slice none 0 0])/\w'=w.alloc (.cells #[.int .u8 3,.int .i64 0,.string t,.slice none 0 0,.slice none 0 0] 25):=by go_enter Tryz.func164,Tryz.ntmps164;go_wp2;exact X4 (Y7 Tryz.results164 _ _ w.heap.size 25 _ (0,0) _ rfl (J2 w _) X8 rfl (by kernel_rfl)) rfl ⟨rfl,rfl⟩
theorem pY (N:List ByteArray) (an:Option Addr) (cn:Nat) (w:World) (h:qv w 0 w.heap.size an N) (P:N.length<=4294967296) :
 Calls Tryz.prog 177 #[.slice an N.length cn] w fun e w'=>e=.returned (.bool (qo N))/\O5 w w':=by
 have q:=U h;clear h;go_enter Tryz.func177,Tryz.ntmps177;go_wp2;go_loopw [3] (fun i wr=>∃k:Nat,1<=k/\(k<=N.length\/k=1)/\i=.int .i64 k/\qo (N.take k)=true/\O5 w wr) (fun i _=>N.length - (intOf i).toNat)
 case atStart=>exact ⟨1,by omega,.inr rfl,rfl,by cases N <;> rfl,J0 _ _⟩
 case round =>
  obtain ⟨k,d,E,rfl,j,a⟩:=hrel;by_cases hlt:k<N.length
  . obtain ⟨b,p,rfl,_,G,D⟩:=(q.o.below a lz lz a.size).at k hlt;obtain ⟨B,f,c,_,_,C⟩:=(q.o.below a lz lz a.size).at (k - 1) (by omega);obtain ⟨rfl,rfl⟩:b=B/\p=f:=by simpa using c
    have g:=U a;have A:=U j;have l:=U (jH N k d hlt);have o:=U (yq N k d hlt);clear a j c;obtain ⟨x,u⟩:=O1 (N[k-1]);obtain ⟨y,v⟩:=O1 (N[k]);rw [<- u] at C l o;rw [<- v] at D l o;clear u v;have H:IntKind.i64.wrap ((k:Int) - 1)=(k:Int) - 1:=V0 _ (by omega);have I:0<=(k:Int) - 1:=by omega
    have J:1<=(k:Int):=by omega
    have K:(k:Int) - 1<(N.length:Int):=by omega
    have L:(k:Int)<(N.length:Int):=by omega
    have M:((k:Int) - 1).toNat=k - 1:=by omega
    cases hlss:Op.bytesLess x.toList y.toList
    . have m:=U (o.o hlss);have F:(Op.bytesLess y.toList x.toList || y.toList == x.toList)=true:=by
       cases h:Op.bytesLess y.toList x.toList
       . rw [wG _ _ hlss h];simp
       . rfl
      clear hlss;go_wp2_with fail;go_quiet (fail)
      go_wp2;go_ret;exact ⟨by rw [m.o];rfl,Below.drewN g.o _⟩
    . have z:=U hlss;have r:Op.bytesLess y.toList x.toList=false:=by
       cases h:Op.bytesLess y.toList x.toList
       . rfl
       . have:=jU _ _ _ hlss h;rw [zo] at this;cases this
      have s:(y.toList == x.toList)=false:=(by rw [K3];intro h;rw [h,zo] at hlss;cases hlss);clear hlss;go_wp2_with fail;go_quiet (fail)
      go_wp2;go_roundw
      case rel=>exact ⟨k+1,by omega,by omega,by go_num,by rw [l.o,A.o,z.o];rfl,Below.drewN g.o _⟩
      case measure=>simp [intOf];omega
  . have g:=U a;have m:=U (show qo N=true by
     have:N.take k=N:=X2 (by omega);rwa [this] at j)
    clear j a;go_wp2;go_ret;exact ⟨by rw [m.o];rfl,g.o⟩
theorem oa (N:Nat):∀(v:JV) (x:Value) (w:World),v.wt<=N->N<=4294967296->Rep w 0 w.heap.size v x ->
 Calls Tryz.prog 108 #[x] w fun e w'=>e=.returned (.int .i64 v.depth)/\O5 w w':=by
 induction N with
 | zero=>intro v x w h;have:=v.wt_pos;omega
 | succ N ih =>
  intro v x w hN hM hR;obtain ⟨R,cn,H,I,rfl,h1,h2,K,y⟩:=hR.parts;obtain ⟨S,T,V,W⟩:=v.wt_bd;have G:=U ih;clear ih;have C:=U y;clear y hR K;have l:=U v.depth_eq;by_cases c:v.kind≠4/\v.kind≠5
  . rw [J8 c] at l;have J:(v.kind == 4)=false:=by simpa using c.1
    have e5:(v.kind == 5)=false:=by simpa using c.2
    have e6:(v.kind != 4)=true:=by simpa using c.1
    have e7:(v.kind != 5)=true:=by simpa using c.2
    clear c;go_enter Tryz.func108,Tryz.ntmps108;go_wp2;go_ret;exact ⟨by rw [l.o] <;> rfl,O4⟩
  . rw [J3 c] at l;have g:v.kind=4\/v.kind=5:=by omega
    obtain ⟨A,j⟩:=O1 v.kind;rw [<- j] at g ⊢;clear c j;have hD:=JV.depths_le v.items;rcases g with rfl|rfl
    all_goals
     go_enter Tryz.func108,Tryz.ntmps108;go_wp2;go_loopw [3,4] (fun s i wr=>∃k:Nat,k<=v.items.length/\i=.int .i64 k/\s=.int .i64 (JV.depths (v.items.take k):Nat)/\O5 w wr/\wr.cell? ⟨w.heap.size,4,none⟩=some (.slice H v.items.length I)/\w.heap.size<wr.heap.size) (fun _ i _=>v.items.length - (intOf i).toNat)
     case atStart=>exact ⟨0,X7 _,rfl,by simp [JV.depths],O4,by go_simp,by simp⟩
     case round =>
      obtain ⟨k,c,rfl,rfl,f,q,z⟩:=hrel;by_cases hlt:k<v.items.length
      . obtain ⟨b,Q,X,Y,Z,c3,c4,rfl,_,hb,e0,e1,e2,e3,J,d⟩:=(C.o.below f lz lz f.size).at k hlt;have L:=JV.wts_get v.items k hlt;have M:=JV.depth_le v.items[k];have r:=JV.depths_le (v.items.take k);have P:=JV.wts_take v.items k;have F:=U (JV.depths_take v.items k hlt);have m:=U f;clear f;have E:=U d;clear d;go_wp2_with fail;refine (G.o v.items[k] _ _ (by omega) (by omega) E.o).mono ?_;rintro e B ⟨rfl,a⟩;have p:=O0 (B.cell? ⟨w.heap.size,4,none⟩=_) ((a.cell z).trans q);have u:w.heap.size<B.heap.size:=Y5 z a.size;have o:=U a;clear a;generalize JV.depth v.items[k]=dk at *;generalize JV.depths (v.items.take k)=ds at *;go_wp2;go_roundw
        case rel=>exact ⟨k+1,by omega,by go_num,by rw [F.o] <;> (congr 1;omega),m.o.trans (o.o.mono m.o.size),p.o,u⟩
        case measure=>simp [intOf];omega
      . obtain rfl:k=v.items.length:=by omega
        have m:=U f;clear f;have D:=U (show v.depth=JV.depths (v.items.take v.items.length)+1 by rw [l.o,zd5]);have r:JV.depths (v.items.take v.items.length)<=4294967296:=by rw [zd5];omega
        generalize JV.depths (v.items.take v.items.length)=ds at *;go_wp2;go_ret;exact ⟨xV (by rw [D.o];push_cast;rfl),m.o⟩
theorem Ql (
 N:Nat):∀(v:JV) (x:Value) (w:World),v.wt<=N->N<=4294967296->Rep w 0 w.heap.size v x ->
 Calls Tryz.prog 106 #[x] w fun e w'=>e=.returned (.bool v.partB)/\O5 w w':=by
 induction N with
 | zero=>intro v x w h;have:=v.wt_pos;omega
 | succ N ih =>
  intro v x w hN hM hR;obtain ⟨F,I,X,Y,rfl,h1,h2,h3,h4⟩:=hR.parts;obtain ⟨b1,b2,b3,b4⟩:=v.wt_bd;have b5:=v.wt_eq;have IH:=U ih;have H3:=U h3;have H4:=U h4;have HP:=U v.partB_eq;have H:=U v.part_leaf;have b7:qt v.names<=4294967296:=by omega
  clear ih h3 h4 hR h1 h2 b5;obtain ⟨k,hk⟩:=O1 v.kind;obtain ⟨n,hn⟩:=O1 v.n;obtain ⟨t,ht⟩:=O1 v.t;obtain ⟨g,Z⟩:=O1 v.names;obtain ⟨z,a0⟩:=O1 v.items;obtain ⟨E,a7⟩:=O1 v.partB;rw [<- hk,<- hn,<- ht,<- Z,<- a0,<- a7] at HP H;rw [<- Z] at H3 b2 b7;rw [<- a0] at H4 b3 b4;rw [<- ht] at b1;rw [<- hk,<- hn,<- ht,<- Z,<- a0,<- a7];have c6:JV.wts z<=N:=by omega
  have c7:v.wt<=4294967296:=by omega
  clear hk hn ht Z a0 a7 hN;obtain ⟨p,a6⟩:=O1 g.length;obtain ⟨D,a4⟩:=O1 z.length;rw [<- a6] at b2 ⊢;rw [<- a4] at b3 HP H ⊢;have d:=U a6;have W:=U a4;clear a6 a4;by_cases hk1:k=1
  . subst hk1;have A:=U (show E=decide (t.toList=[]/\p=0/\D=0/\(n=0\/n=1)) by rw [H.o (by decide) (by decide),d.o];rfl);go_enter zb0,za2;go_wp2
    all_goals go_ret
    all_goals refine ⟨qz ?_,O4⟩
    all_goals rw [A.o]
    all_goals (first|(simp_all;done)|(rw [za4];simp_all;done)|(simp_all;omega))
  by_cases hk2:k=2
  . subst hk2;have A:=U (show E=decide (t.toList=[]/\p=0/\D=0) by rw [H.o (by decide) (by decide),d.o];rfl);clear hk1;go_enter zb0,za2;go_wp2
    all_goals go_ret
    all_goals refine ⟨qz ?_,O4⟩
    all_goals rw [A.o]
    all_goals (first|(simp_all;done)|(rw [za4];simp_all;done)|(simp_all;omega))
  by_cases hk3:k=3
  . subst hk3;have A:=U (show E=(decide (n=0/\p=0/\D=0) && qe t) by rw [H.o (by decide) (by decide),d.o];rfl);clear hk1 hk2;by_cases hn:n=0
    . subst hn;cases htx:qe t
      . rw [htx,N1] at A;have T:=U (fun w=>cX t w (by omega));rw [htx] at T;clear htx;go_enter zb0,za2;go_wp2_with (go_at_call 176;refine (T.o _).mono ?_;rintro e w1 ⟨rfl,c⟩;have m:=U c;clear c);go_ret;exact ⟨by rw [A.o] <;> rfl,(O4).trans (m.o.mono (by simp))⟩
      . rw [htx,Bool.and_true] at A;have T:=U (fun w=>cX t w (by omega));rw [htx] at T;clear htx;go_enter zb0,za2;go_wp2_with fail;refine (T.o _).mono ?_;rintro e w1 ⟨rfl,c⟩;have c3:w1.cell? ⟨w.heap.size,3,none⟩=some (.slice F p I):=by rw [c.cell (by simp)];go_simp
        have c4:w1.cell? ⟨w.heap.size,4,none⟩=some (.slice X D Y):=by rw [c.cell (by simp)];go_simp
        have m:=U ((O4).trans (c.mono (by simp)));clear c;go_wp2
        all_goals go_ret
        all_goals refine ⟨qz ?_,m.o⟩
        all_goals rw [A.o]
        all_goals (first|(simp_all;done)|(rw [za4];simp_all;done)|(simp_all;omega))
    . have u:=U (show E=false by rw [A.o,J5 (fun h=>hn h.1)];rfl);go_enter zb0,za2;go_wp2;go_ret;exact ⟨by rw [u.o] <;> rfl,O4⟩
  by_cases hk45:k=4\/k=5
  . clear hk1 hk2 hk3 H;by_cases hg:n=0/\t.toList=[]/\(k=4->p=0)/\(k=5->p=D)
    . obtain ⟨rfl,te,g4,g5⟩:=hg;have A:=U (show E=(qo g && g.all qe && JV.partsB z) by
       rw [HP.o];rcases hk45 with rfl|rfl
       . have hz:g=[]:=Y8 (by rw [<- d.o];exact g4 rfl);subst hz;simp [qJ,te,qo]
       . have hz:g.length=D:=by rw [<- d.o];exact g5 rfl
         simp [qJ,te,hz])
      clear HP;rcases hk45 with rfl|rfl
      . have h0:p=0:=g4 rfl;subst h0;clear g4 g5;cases hr:qo g
        . have u:=U (show E=false by rw [A.o,hr];rfl);have o:=U (fun w (h:qv w 0 w.heap.size F g)=>pY g F I w h (by rw [<- d.o];omega));rw [hr,<- d.o] at o;clear hr;go_enter zb0,za2;go_wp2_with fail;refine (o.o _ (H3.o.below O4 lz lz (by simp))).mono ?_;rintro e w1 ⟨rfl,c⟩;have m:=U ((O4).trans (c.mono (by simp)));clear c;go_wp2;go_ret;exact ⟨by rw [u.o] <;> rfl,m.o⟩
        . rw [hr,Y1] at A;have o:=U (fun w (h:qv w 0 w.heap.size F g)=>pY g F I w h (by rw [<- d.o];omega));rw [hr,<- d.o] at o;clear hr;go_enter zb0,za2;go_wp2_with fail;refine (o.o _ (H3.o.below O4 lz lz (by simp))).mono ?_;rintro e w1 ⟨rfl,c⟩;have M:=U (show w1.heap[w.heap.size]?=some (.cells #[.int .u8 4,.int .i64 0,.string t,.slice F 0 I,.slice X D Y] 25 (0,0)) by rw [c.block _ (by simp)];exact J2 w _);have m:=U ((O4).trans (c.mono (by simp)));clear c o;go_wp2_with fail;go_loopw [3] (fun i wr=>∃j:Nat,j<=0/\i=.int .i64 j/\(g.take j).all qe=true/\O5 w wr/\wr.heap[w.heap.size]?=some (.cells #[.int .u8 4,.int .i64 0,.string t,.slice F 0 I,.slice X D Y] 25 (0,0))) (fun i _=>0 - (intOf i).toNat)
          case atStart=>exact ⟨0,by omega,rfl,by simp,m.o,M.o⟩
          case round =>
           clear m M;obtain ⟨j,hj,rfl,Q,f,C⟩:=hrel;have c3:=qq C (j:=3) rfl;have V:=U C;have r:=U Q;have l:=U f;have hz:w.heap.size<wr.heap.size:=qx C;clear Q f C;by_cases hlt:j<0
           . exact absurd hlt (by omega)
           . have L:=U (show E=JV.partsB z by
              have:g.all qe=true:=(by have h:=r.o;rwa [X2 (by rw [<- d.o];omega)] at h);rw [A.o,this];rfl)
             clear r A;obtain ⟨wo,rfl⟩:∃wo:World,wo=wr:=⟨_,rfl⟩;go_wp2_with fail;go_loopw [4] (fun i wr=>∃q:Nat,q<=D/\i=.int .i64 q/\JV.partsB (z.take q)=true/\O5 w wr/\wr.heap[w.heap.size]?=some (.cells #[.int .u8 4,.int .i64 0,.string t,.slice F 0 I,.slice X D Y] 25 (0,0))) (fun i _=>D - (intOf i).toNat)
             case atStart=>exact ⟨0,by omega,rfl,rfl,l.o,V.o⟩
             case round =>
              clear l V c3;obtain ⟨q,hq,rfl,Q,f,C⟩:=hrel;have c4:=qq C (j:=4) rfl;have V:=U C;have r:=U Q;have l:=U f;have a9:w.heap.size<wr.heap.size:=qx C;clear Q f C;by_cases hql:q<D
              . have B:q<z.length:=by rw [<- W.o];exact hql
                obtain ⟨b,b6,c0,c1,c2,c3,c5,R,_,b0,e0,e1,e2,e3,e4,G⟩:=(H4.o.below l.o lz lz l.o.size).at q B;subst R;have a8:=JV.wts_get z q B;have J:=U (JV.partsB_take z q B);have HN:=U (JV.partsB_bad z q B);have K:=U (IH.o z[q] _ wr (by omega) (by omega) G);clear G;generalize z[q]=it at J HN K a8;cases hy:it.partB
                . have u:=U (show E=false by rw [L.o,HN.o hy]);rw [hy] at K;clear hy;go_wp2_with fail;refine K.o.mono ?_;rintro e w2 ⟨rfl,a⟩;have s:=U (O2 l a);clear a;go_wp2;go_ret;exact ⟨by rw [u.o] <;> rfl,s.o⟩
                . rw [hy] at K J;clear hy;go_wp2_with fail;refine K.o.mono ?_;rintro e w2 ⟨rfl,a⟩;have s:=U (O2 l a);have P:=O0 (w2.heap[w.heap.size]?=_) ((a.block _ a9).trans V.o);clear a;go_wp2;go_roundw
                  case rel=>exact ⟨q+1,by omega,by go_num,by rw [J.o,r.o];rfl,s.o,P.o⟩
                  case measure=>simp [intOf];omega
              . have u:=U (show E=true by
                 have h:=r.o;rw [X2 (by rw [<- W.o];omega)] at h;rw [L.o,h])
                go_wp2;go_ret;exact ⟨by rw [u.o] <;> rfl,l.o⟩
      . have h0:p=D:=g5 rfl;subst h0;clear g4 g5;cases hr:qo g
        . have u:=U (show E=false by rw [A.o,hr];rfl);have o:=U (fun w (h:qv w 0 w.heap.size F g)=>pY g F I w h (by rw [<- d.o];omega));rw [hr,<- d.o] at o;clear hr;go_enter zb0,za2;go_wp2_with fail;refine (o.o _ (H3.o.below O4 lz lz (by simp))).mono ?_;rintro e w1 ⟨rfl,c⟩;have m:=U ((O4).trans (c.mono (by simp)));clear c;go_wp2;go_ret;exact ⟨by rw [u.o] <;> rfl,m.o⟩
        . rw [hr,Y1] at A;have o:=U (fun w (h:qv w 0 w.heap.size F g)=>pY g F I w h (by rw [<- d.o];omega));rw [hr,<- d.o] at o;clear hr;go_enter zb0,za2;go_wp2_with fail;refine (o.o _ (H3.o.below O4 lz lz (by simp))).mono ?_;rintro e w1 ⟨rfl,c⟩;have M:=U (show w1.heap[w.heap.size]?=some (.cells #[.int .u8 5,.int .i64 0,.string t,.slice F p I,.slice X p Y] 25 (0,0)) by rw [c.block _ (by simp)];exact J2 w _);have m:=U ((O4).trans (c.mono (by simp)));clear c o;go_wp2_with fail;go_loopw [3] (fun i wr=>∃j:Nat,j<=p/\i=.int .i64 j/\(g.take j).all qe=true/\O5 w wr/\wr.heap[w.heap.size]?=some (.cells #[.int .u8 5,.int .i64 0,.string t,.slice F p I,.slice X p Y] 25 (0,0))) (fun i _=>p - (intOf i).toNat)
          case atStart=>exact ⟨0,by omega,rfl,by simp,m.o,M.o⟩
          case round =>
           clear m M;obtain ⟨j,hj,rfl,Q,f,C⟩:=hrel;have c3:=qq C (j:=3) rfl;have V:=U C;have r:=U Q;have l:=U f;have hz:w.heap.size<wr.heap.size:=qx C;clear Q f C;by_cases hlt:j<p
           . have S:j<g.length:=by rw [<- d.o];exact hlt
             obtain ⟨b,b6,R,_,b0,c0⟩:=(H3.o.below l.o lz lz l.o.size).at j S;subst R;have b9:=kn g j S;have J:=U (show (g.take (j+1)).all qe=((g.take j).all qe && qe g[j]) by rw [J7 S,List.all_append];simp);have HN:=O0 (qe g[j]=false->g.all qe=false) (fun hf=>by rw [zc6];exact ⟨g[j],X6 _,by simp [hf]⟩);generalize g[j]=y at c0 b9 J HN;have T:=U (cX y wr (by omega));cases hy:qe y
             . have u:=U (show E=false by rw [A.o,HN.o hy];rfl);rw [hy] at T;clear hy;go_wp2_with fail;refine T.o.mono ?_;rintro e w2 ⟨rfl,a⟩;have s:=U (O2 l a);clear a;go_wp2;go_ret;exact ⟨by rw [u.o] <;> rfl,s.o⟩
             . rw [hy] at T J;clear hy;go_wp2_with fail;refine T.o.mono ?_;rintro e w2 ⟨rfl,a⟩;have s:=U (O2 l a);have P:=O0 (w2.heap[w.heap.size]?=_) ((a.block _ hz).trans V.o);clear a;go_wp2;go_roundw
               case rel=>exact ⟨j+1,by omega,by go_num,by rw [J.o,r.o];rfl,s.o,P.o⟩
               case measure=>simp [intOf];omega
           . have L:=U (show E=JV.partsB z by
              have:g.all qe=true:=(by have h:=r.o;rwa [X2 (by rw [<- d.o];omega)] at h);rw [A.o,this];rfl)
             clear r A;obtain ⟨wo,rfl⟩:∃wo:World,wo=wr:=⟨_,rfl⟩;go_wp2_with fail;go_loopw [4] (fun i wr=>∃q:Nat,q<=p/\i=.int .i64 q/\JV.partsB (z.take q)=true/\O5 w wr/\wr.heap[w.heap.size]?=some (.cells #[.int .u8 5,.int .i64 0,.string t,.slice F p I,.slice X p Y] 25 (0,0))) (fun i _=>p - (intOf i).toNat)
             case atStart=>exact ⟨0,by omega,rfl,rfl,l.o,V.o⟩
             case round =>
              clear l V c3;obtain ⟨q,hq,rfl,Q,f,C⟩:=hrel;have c4:=qq C (j:=4) rfl;have V:=U C;have r:=U Q;have l:=U f;have a9:w.heap.size<wr.heap.size:=qx C;clear Q f C;by_cases hql:q<p
              . have B:q<z.length:=by rw [<- W.o];exact hql
                obtain ⟨b,b6,c0,c1,c2,c3,c5,R,_,b0,e0,e1,e2,e3,e4,G⟩:=(H4.o.below l.o lz lz l.o.size).at q B;subst R;have a8:=JV.wts_get z q B;have J:=U (JV.partsB_take z q B);have HN:=U (JV.partsB_bad z q B);have K:=U (IH.o z[q] _ wr (by omega) (by omega) G);clear G;generalize z[q]=it at J HN K a8;cases hy:it.partB
                . have u:=U (show E=false by rw [L.o,HN.o hy]);rw [hy] at K;clear hy;go_wp2_with fail;refine K.o.mono ?_;rintro e w2 ⟨rfl,a⟩;have s:=U (O2 l a);clear a;go_wp2;go_ret;exact ⟨by rw [u.o] <;> rfl,s.o⟩
                . rw [hy] at K J;clear hy;go_wp2_with fail;refine K.o.mono ?_;rintro e w2 ⟨rfl,a⟩;have s:=U (O2 l a);have P:=O0 (w2.heap[w.heap.size]?=_) ((a.block _ a9).trans V.o);clear a;go_wp2;go_roundw
                  case rel=>exact ⟨q+1,by omega,by go_num,by rw [J.o,r.o];rfl,s.o,P.o⟩
                  case measure=>simp [intOf];omega
              . have u:=U (show E=true by
                 have h:=r.o;rw [X2 (by rw [<- W.o];omega)] at h;rw [L.o,h])
                go_wp2;go_ret;exact ⟨by rw [u.o] <;> rfl,l.o⟩
    . have u:=U (show E=false by
       rw [HP.o];have:qJ k n t g D=false:=by
        rcases hk45 with rfl|rfl
        . simp only [qJ,show ¬(4:Int)=1 by decide,show ¬(4:Int)=2 by decide,show ¬(4:Int)=3 by decide,zf1,if_true];exact J5 fun h=>hg ⟨h.1,h.2.1,fun _=>by rw [d.o];exact h.2.2,fun h=>by omega⟩
        . simp only [qJ,show ¬(5:Int)=1 by decide,show ¬(5:Int)=2 by decide,show ¬(5:Int)=3 by decide,show ¬(5:Int)=4 by decide,zf1,if_true];rw [J5 fun h=>hg ⟨h.1,h.2.1,fun h=>by omega,fun _=>by rw [d.o];exact h.2.2⟩];rfl
       rw [this];rfl)
      clear HP;by_cases a1:n=0
      . subst a1;by_cases a2:t.toList=[]
        . rcases hk45 with rfl|rfl
          . have a5:0<p:=Nat.pos_of_ne_zero fun e=>hg ⟨rfl,a2,fun _=>e,fun h=>by omega⟩;clear hg;go_enter zb0,za2;go_wp2;go_ret;exact ⟨by rw [u.o] <;> rfl,O4⟩
          . have a5:¬(p:Int)=(D:Int):=fun e=>hg ⟨rfl,a2,fun h=>by omega,fun _=>by omega⟩;clear hg;go_enter zb0,za2;go_wp2_with fail
            all_goals first|(exfalso;omega)|(go_ret;exact ⟨by rw [u.o] <;> rfl,O4⟩)
        . have a3:t.toList.isEmpty=false:=by rw [bA];simp [a2]
          clear hg;rcases hk45 with rfl|rfl
          all_goals
           go_enter zb0,za2;go_wp2;go_ret;exact ⟨by rw [u.o] <;> rfl,O4⟩
      . clear hg;rcases hk45 with rfl|rfl
        all_goals
         go_enter zb0,za2;go_wp2;go_ret;exact ⟨by rw [u.o] <;> rfl,O4⟩
  . have u:=U (show E=false by rw [HP.o];unfold qJ;rw [J3 hk1,J3 hk2,J3 hk3,J3 (fun h=>hk45 (.inl h)),J3 (fun h=>hk45 (.inr h))];rfl);have e1:(k == 1)=false:=by simp [hk1]
    have e2:(k == 2)=false:=by simp [hk2]
    have e3:(k == 3)=false:=by simp [hk3]
    have e4:(k == 4)=false:=by simp;omega
    have e5:(k == 5)=false:=by simp;omega
    clear hk1 hk2 hk3 hk45;go_enter zb0,za2;go_wp2;go_ret;exact ⟨by rw [u.o] <;> rfl,O4⟩
theorem Zh (v:JV) (x:Value) (w:World) (hv:v.wt<=4294967296) (hR:Rep w 0 w.heap.size v x) :
 Calls Tryz.prog 50 #[x] w fun e w'=>e=.returned (.bool v.mayB)/\O5 w w':=by
 obtain ⟨r,u,q,s,rfl,X,Z,h3,h4⟩:=hR.parts;clear X Z h3 h4;have P:=U (J2 w (.cells #[.int .u8 v.kind,.int .i64 v.n,.string v.t,.slice r v.names.length u,.slice q v.items.length s] 25));have o:=O0 (O5 w (w.alloc (.cells #[.int .u8 v.kind,.int .i64 v.n,.string v.t,.slice r v.names.length u,.slice q v.items.length s] 25))) O4;have M:=U hR;have i:=U v.mayB_iff;clear hR;have hc:=JV.count_le v;have hd:=JV.depth_le v;have B:=U (Ql 4294967296 v _ _ hv lz (M.o.below o.o lz lz (by simp)));cases hp:v.partB
 . rw [hp] at B i;clear hp;go_enter Tryz.func50,Tryz.ntmps50;go_wp2_with fail;refine B.o.mono ?_;rintro e g ⟨rfl,b⟩;have l:=U (o.o.trans (b.mono (by simp)));clear b;go_wp2;go_ret;exact ⟨by rw [i.o] <;> rfl,l.o⟩
 rw [hp,Y1] at i;rw [hp] at B;clear hp;obtain ⟨C,k⟩:=O1 (w.alloc (.cells #[.int .u8 v.kind,.int .i64 v.n,.string v.t,.slice r v.names.length u,.slice q v.items.length s] 25));have a0:w.heap.size<C.heap.size:=by rw [k];simp
 have A:=U (show ∀g,O5 C g->O5 w g/\g.heap[w.heap.size]?=some (.cells #[.int .u8 v.kind,.int .i64 v.n,.string v.t,.slice r v.names.length u,.slice q v.items.length s] 25 (0,0)) from fun g h=>by
  rw [k] at h;exact ⟨o.o.trans (h.mono (by simp)),by rw [h.block _ (by simp)];exact P.o⟩)
 rw [<- k] at B;have N:=U k;clear k;go_enter Tryz.func50,Tryz.ntmps50;go_wp2_with fail;rw [<- N.o];refine B.o.mono ?_;rintro e g ⟨rfl,b⟩;obtain ⟨E,a⟩:=A.o g b;have l:=U E;have z:=U b;have W:=U a;have Q:=qq a (j:=0) rfl;have R:=qq a (j:=1) rfl;have S:=qq a (j:=2) rfl;have T:=qq a (j:=3) rfl;have V:=qq a (j:=4) rfl;clear b a E;have K:=U (iL 4294967296 v _ g hv lz (M.o.below l.o lz lz l.o.size));obtain ⟨c,I⟩:∃c:Nat,c=v.count:=⟨_,rfl⟩;rw [<- I] at K hc i;clear I;go_wp2_with fail;refine K.o.mono ?_;clear K Q R S T V;rintro e p ⟨rfl,G⟩;obtain ⟨F,f⟩:=A.o p (O2 z G);have j:=U F;have Q:=qq f (j:=0) rfl;have R:=qq f (j:=1) rfl;have S:=qq f (j:=2) rfl;have T:=qq f (j:=3) rfl;have V:=qq f (j:=4) rfl;clear G f F;by_cases h8:c<=8192
 . rw [X0 h8,Y1] at i;have D:(c:Int)<=8192:=by omega
   have L:=U (oa 4294967296 v _ p hv lz (M.o.below j.o lz lz j.o.size));obtain ⟨d,J⟩:∃d:Nat,d=v.depth:=⟨_,rfl⟩;rw [<- J] at L hd i;clear J;go_wp2_with fail;refine L.o.mono ?_;clear L;rintro e w3 ⟨rfl,H⟩;have y:=U (O2 j H);clear H;by_cases h12:d<=12
   . rw [X0 h12] at i;have m:(d:Int)<=12:=by omega
     go_wp2;go_ret;exact ⟨by rw [i.o] <;> rfl,y.o⟩
   . rw [J5 h12] at i;have m:¬(d:Int)<=12:=by omega
     have Y:decide ((d:Int)<=12)=false:=J5 m;go_wp2;go_ret;exact ⟨by rw [i.o] <;> rfl,y.o⟩
 . rw [J5 h8,V8] at i;have D:¬(c:Int)<=8192:=by omega
   have h9:decide ((c:Int)<=8192)=false:=J5 D;go_wp2;go_ret;exact ⟨by rw [i.o] <;> rfl,j.o⟩
