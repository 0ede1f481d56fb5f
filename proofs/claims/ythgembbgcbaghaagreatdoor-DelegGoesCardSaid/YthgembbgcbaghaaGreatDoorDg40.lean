import Derived.Test.YthgembbgcbaghaaGreatDoorDg39
set_option maxHeartbeats 8000000
set_option maxRecDepth 100000

namespace Go.Proofs.YthgembbgcbaghaaGreatDoor
open Go.RowKit Go.Shelf Go.Sort
theorem az (a b:ByteArray):Op.bytesLess a.toList b.toList = !(Op.bytesLess b.toList a.toList || (b.toList == a.toList)):=by
 cases h1:Op.bytesLess b.toList a.toList with
 | true => have:Op.bytesLess a.toList b.toList=false:=dV (a:=b) (b:=a) h1;rw [this];rfl
 | false =>
  cases h2:Op.bytesLess a.toList b.toList with
  | true => have:(b.toList == a.toList)=false:=(by rw [K3];intro e;rw [e] at h2;have:=zK a;unfold bl at this;rw [h2] at this;cases this);rw [this];rfl
  | false => have:b.toList=a.toList:=wG _ _ h1 h2;rw [this];simp
theorem QL {k:Key2} (h:ok2 k=true):Op.bytesLess (⟨#[]⟩:ByteArray).toList (id2 k).toList=true:=by
 have c:(id2 k).toList=jB k.1.data.toList k.2.data.toList:=by rw [Y3];rfl
 rw [c,Y3];have b:(jB k.1.data.toList k.2.data.toList).length=64:=(by unfold jB;rw [J8 (by unfold ok2 at h;exact h),k9]);cases hq:jB k.1.data.toList k.2.data.toList with
 | nil=>rw [hq] at b;simp at b
 | cons a r=>rfl
theorem gC {l:List Key2} (h:¬l.length<=32):zy l=false:=by unfold zy;rw [J5 h];rfl
theorem pd {l:List Key2} {k:Nat} (h:k<l.length) (a:ok2 l[k]=false):zy l=false:=by unfold zy;rw [show l.all ok2=false from zc6.2 ⟨l[k],X6 _,by simp [a]⟩,N1,V8]
theorem gD {l:List Key2} {k:Nat} (b:1<=k) (h:k<l.length) (hb:Op.bytesLess (id2 l[k-1]).toList (id2 l[k]).toList=false):zy l=false:=by unfold zy;have a:(ids l).length=l.length:=X9 ..;rw [yq (ids l) k b (by omega) (by simpa [ids] using hb),N1]
theorem dv (l:List Key2) (a:Option Addr) (c:Nat) (w:World) (hK:xu w 0 w.heap.size a l) (hl:l.length<=4294967296) (hs:∀k ∈ l,k.1.size<=300/\k.2.size<=300) (hT:Tabs w) :
 Calls Tryz.prog 82 #[.slice a l.length c] w fun e w'=>e=.returned (.bool (zy l))/\O5 w w':=by
 have HK:=U hK;have HT:=U hT;have HS:=U hs;clear hK hT hs;obtain ⟨F,D⟩:=O1 l.length;have y:=U D;rw [<- D] at hl ⊢;by_cases h32:F<=32
 case neg =>
  have B:=U (gC (l:=l) (by omega));have d1:decide (32<(F:Int))=true:=by simp;omega
  clear D;go_enter Tryz.func82,Tryz.ntmps82;go_wp2;go_ret;exact ⟨qz B.o.symm,J0 _ _⟩
 have d1:decide (32<(F:Int))=false:=by simp;omega
 clear D;go_enter Tryz.func82,Tryz.ntmps82;go_wp2;go_loopw [3,5,6,7,13] (fun ls _ _ _ i wr=>∃(k:Nat) (s:ByteArray),k<=F/\i=.int .i64 k/\ls=.string s/\(∀j (h:j<l.length),j<k->ok2 l[j]=true)/\qo ((ids l).take k)=true/\(k=0->s=⟨#[]⟩)/\(∀h:k - 1<l.length,1<=k->s=id2 l[k-1])/\O5 w wr) (fun _ _ _ _ i _=>F - (intOf i).toNat)
 case atStart=>exact ⟨0,⟨#[]⟩,by omega,rfl,rfl,fun j _ h=>by omega,rfl,fun _=>rfl,fun _ h=>by omega,J0 _ _⟩
 case round =>
  obtain ⟨k,s,hk,rfl,rfl,a0,a5,a6,S,I⟩:=hrel;have J:=U a0;have N:=U a5;have X:=U a6;have P:=U S;have W:=U I;clear a0 a5 a6 S I;have a3:(ids l).length=l.length:=X9 ..;have L:=U a3;clear a3;by_cases hlt:k<F
  . have f:k<l.length:=by rw [<- y.o];exact hlt
    obtain ⟨b,a7,ha,_,hb,Z,e1⟩:=(HK.o.below W.o lz lz W.o.size).at k f;subst ha;have E:=HS.o l[k] (X6 f);have g:=U (pd (l:=l) f);have m:=U (fun h1=>gD (l:=l) (k:=k) h1 f);have G:=U (@QL l[k]);have A:=U (show ok2 l[k]=true->(k=0\/Op.bytesLess s.toList (id2 l[k]).toList=true)->(∀j (h:j<l.length),j<k+1->ok2 l[j]=true)/\qo ((ids l).take (k+1))=true/\(∀h:k+1 - 1<l.length,1<=k+1->id2 l[k]=id2 l[k+1-1]) from fun ho hle=>by
     refine ⟨fun j hj hjk=>?_,?_,fun _ _=>rfl⟩
     . rcases V5.1 hjk with h1|h1
       . exact J.o j hj h1
       . subst h1;exact ho
     . rcases za0 k with h0|h0
       . subst h0;have b1:(ids l).length=l.length:=L.o;cases hq:ids l with
         | nil=>rfl
         | cons x r=>rfl
       . rw [jH (ids l) k h0 (by have:=L.o;omega),N.o,Y1];have h3:=hle.resolve_left (by omega);rw [P.o (by omega) h0] at h3;simpa [ids] using h3)
    have v:=O0 (1<=k->Op.bytesLess s.toList (id2 l[k]).toList=false->zy l=false) (fun h1 h2=>m.o h1 (by rw [<- P.o (by omega) h1];exact h2));have Y:=O0 (ok2 l[k]=true->k=0->Op.bytesLess s.toList (id2 l[k]).toList=true) (fun h1 h2=>by rw [X.o h2];exact G.o h1);obtain ⟨x,T⟩:∃x:Key2,x=l[k]:=⟨_,rfl⟩;have b0:=U (show id2 x=id2 l[k] by rw [T]);replace Z:=Z.trans (Y2 (fun z:Key2=>some (Value.string z.1)) T.symm);replace e1:=e1.trans (Y2 (fun z:Key2=>some (Value.string z.2)) T.symm);rw [<- T] at E g A v Y;clear T m G J X P N;obtain ⟨q,p⟩:=x;replace Z:wr.cell? ⟨b,a7+k * 2,none⟩=some (.string q):=Z;replace e1:wr.cell? ⟨b,a7+k * 2+1,none⟩=some (.string p):=e1;have S:q.size<=300:=E.1;have b2:p.size<=300:=E.2;obtain ⟨Q,C⟩:=O1 (wr.alloc (.cells #[.string q,.string p] 43));have a2:=O7 C
    have V:=O9 C
    have K:=U (O2 W a2);have o:=U (sC q p Q (by omega) (by omega) (HT.o.below K.o));unfold xX at o;have a9:=U C;have z0:=qq V (j:=0) rfl;have z1:=qq V (j:=1) rfl;obtain ⟨H,R⟩:∃H:ByteArray,H=⟨(jB q.data.toList p.data.toList).toArray⟩:=⟨_,rfl⟩;rw [<- R] at o;have e2:id2 (q,p)=H:=R.symm;have a8:=O0 (H=id2 l[k]) (e2.symm.trans b0.o);rw [e2] at A v Y;have M:=O0 (ok2 (q,p)=zd q.data.toList p.data.toList) rfl;obtain ⟨ok,a4⟩:=O1 (zd q.data.toList p.data.toList);rw [<- a4] at M o;rw [M.o] at g A Y;clear a2 V C E R e2 a4 M;go_upto_region 7 with fail
    rw [<- a9.o];clear Z e1;go_wp2_with fail;refine o.o.mono ?_;clear o z0 z1;rintro r w3 ⟨rfl,a1⟩;have u:=U (O2 K a1);clear a1;cases ok with
    | false => have B:=U (g.o rfl);go_wp2;go_ret;exact ⟨qz B.o.symm,u.o⟩
    | true =>
     have d:=U (az s H);cases lt:Op.bytesLess H.toList s.toList with
     | true =>
      rw [lt,Bool.true_or] at d;have B:=U (show zy l=false from by
       rcases za0 k with h0|h0
       . have:=Y.o rfl h0;rw [d.o] at this;cases this
       . exact v.o h0 (by rw [d.o];rfl))
      go_wp2;go_ret;exact ⟨qz B.o.symm,u.o⟩
     | false =>
      cases eqq:(H.toList == s.toList) with
      | true =>
       rw [lt,eqq] at d;have B:=U (show zy l=false from by
        rcases za0 k with h0|h0
        . have:=Y.o rfl h0;rw [d.o] at this;cases this
        . exact v.o h0 (by rw [d.o];rfl))
       go_wp2;go_ret;exact ⟨qz B.o.symm,u.o⟩
      | false =>
       rw [lt,eqq] at d;have HN:=U (A.o rfl (.inr d.o));go_wp2;go_roundw
       case rel => exact ⟨k+1,H,by omega,by go_num,rfl,HN.o.1,HN.o.2.1,fun h=>by omega,fun _ _=>a8.o,u.o⟩
       case measure=>simp [intOf];omega
  . obtain rfl:k=F:=by omega
    have B:=U (show zy l=true from by
     refine zw.2 ⟨by rw [<- y.o];exact h32,fun x T=>?_,?_⟩
     . obtain ⟨j,hj,rfl⟩:=V4 T;exact J.o j hj (by rw [y.o];exact hj)
     . have:=N.o;rwa [X2 (by rw [L.o,y.o];exact J9 _)] at this)
    go_wp2;go_ret;exact ⟨qz B.o.symm,W.o⟩
theorem yC {d:DelegsV} (h:xo d=true):(qf d).wt<=4294967296:=by
 rw [zU,X3] at h;obtain ⟨a,h⟩:=h;have e:=cG (m:=d.keys) (fun k hk'=>by have:=gm ((zw.1 a).2.1 k hk');omega);have f:=(zw.1 a).1;rw [show qf d=kx (qT d) from rfl,nc];unfold qT;split
 . rename_i hb;rw [J8 hb] at h;unfold zl at h;simp only [X3,J6] at h;have c:=yM d.roles fun x hx=>K7.1 h.1.2 x hx;show 1+qt [qF,xC] + ((zt d.keys).wt+((zB (d.roles.map qu)).wt+0))<=_;have b:qt [qF,xC]<=100:=by decide
   rw [mN];have:=h.1.1;omega
 . rename_i hb;rw [J3 hb,X3] at h;have c:=l4 h.2;show 1+qt [qF,xP] + ((zt d.keys).wt+((zL d.bins).wt+0))<=_;have b:qt [qF,xP]<=100:=by decide
   omega
theorem l9 (l:List Key2) (rs:List DelegV) (t a1:Int) (ids:List ByteArray) (a2:ByteArray) (ka ra ba:Option Addr) (kc rc bc:Nat) (w:World) (hI:DelegsIn w 0 w.heap.size ⟨l,rs,⟨a1,a2,⟨t,ids⟩⟩⟩ ka ra ba) (hf:DelegsFits ⟨l,rs,⟨a1,a2,⟨t,ids⟩⟩⟩) (a3:rs.length<=rc) (hT:Tabs w) :
 Calls Tryz.prog 33 #[.agg #[.slice ka l.length kc,.slice ra rs.length rc,.int .i64 t,.slice ba ids.length bc,.int .i64 a1,.string a2]] w fun e w'=>e=.returned (.bool (qL ⟨l,rs,⟨a1,a2,⟨t,ids⟩⟩⟩))/\O5 w w':=by
 obtain ⟨W,Y⟩:=O1 (w.alloc (.cells #[.slice ka l.length kc,.slice ra rs.length rc,.int .i64 t,.slice ba ids.length bc,.int .i64 a1,.string a2] 35));have H:=O7 Y
 have hx:=O9 Y
 have L:=U (show ∀w':World,O5 W w'->w'.cell? ⟨w.heap.size,0,none⟩=some (.slice ka l.length kc)/\w'.cell? ⟨w.heap.size,1,none⟩=some (.slice ra rs.length rc)/\w'.cell? ⟨w.heap.size,2,none⟩=some (.int .i64 t)/\w'.cell? ⟨w.heap.size,3,none⟩=some (.slice ba ids.length bc)/\w'.cell? ⟨w.heap.size,4,none⟩=some (.int .i64 a1)/\w'.cell? ⟨w.heap.size,5,none⟩=some (.string a2) from fun w' h=>by
  have y:=(h.block _ (qx hx)).trans hx;exact ⟨qq y rfl,qq y rfl,qq y rfl,qq y rfl,qq y rfl,qq y rfl⟩)
 have K:=O0 (∀w':World,O5 W w'->DelegsIn w' 0 w'.heap.size ⟨l,rs,⟨a1,a2,⟨t,ids⟩⟩⟩ ka ra ba/\Tabs w') (fun w' h=>⟨hI.below (H.trans (h.mono H.size)) lz lz (J1 H.size h.size),hT.below (H.trans (h.mono H.size))⟩);have f1:l.length<=40:=hf.len;have f2:rs.length<=70:=hf.many;have f3:a2.size<=300:=hf.pre;have X:=U hf;have i:=U H;have a0:=U a3;have c:=U ((qO ⟨l,rs,⟨a1,a2,⟨t,ids⟩⟩⟩).trans (zU ⟨l,rs,⟨a1,a2,⟨t,ids⟩⟩⟩));dsimp only at c;have b:=O0 (zy l=true->(if q8 ⟨a1,a2,⟨t,ids⟩⟩ then zl rs else rs.isEmpty && q6 ⟨a1,a2,⟨t,ids⟩⟩)=true->xo ⟨l,rs,⟨a1,a2,⟨t,ids⟩⟩⟩=true) (fun h1 h2=>by rw [zU];dsimp only;rw [h1,h2];rfl);have E:=U (dv l ka kc W (K.o W (J0 _ _)).1.keys (by omega) X.o.keys (K.o W (J0 _ _)).2);have F:=U (fun w'=>wC t a1 ids a2 ba bc w');have G:=O0 (∀w':World,O5 W w'->_) (fun w' h=>uY rs ra rc w' (K.o w' h).1.roles (by omega) a0.o X.o.roles);have D:=O0 (∀w':World,O5 W w'->_) (fun w' h=>gH t a1 ids a2 ba bc w' (K.o w' h).1.bids (by omega) X.o.bits X.o.au);have g:=O0 (xo ⟨l,rs,⟨a1,a2,⟨t,ids⟩⟩⟩=true->∀w':World,O5 W w'->_) (fun hm w' h=>(pm l rs t a1 ids a2 ka ra ba kc rc bc w' (K.o w' h).1 hm (K.o w' h).2).mono fun e Z h=>l8 h rfl rfl rfl);have m:=O0 (xo ⟨l,rs,⟨a1,a2,⟨t,ids⟩⟩⟩=true->(qf ⟨l,rs,⟨a1,a2,⟨t,ids⟩⟩⟩).mayB=true/\(qf ⟨l,rs,⟨a1,a2,⟨t,ids⟩⟩⟩).wt<=4294967296) (fun hm=>⟨yG hm,yC hm⟩);unfold gv at g;have M:=U Y;obtain ⟨V,hV⟩:=O1 (qL ⟨l,rs,⟨a1,a2,⟨t,ids⟩⟩⟩);rw [<- hV] at c ⊢;obtain ⟨km,Q⟩:=O1 (zy l);rw [<- Q] at c b E;obtain ⟨nb,R⟩:=O1 (q8 ⟨a1,a2,⟨t,ids⟩⟩);rw [<- R] at c b F;obtain ⟨rm,S⟩:=O1 (zl rs);rw [<- S] at c b G;obtain ⟨bm,P⟩:=O1 (q6 ⟨a1,a2,⟨t,ids⟩⟩);rw [<- P] at c b D;obtain ⟨J,hJ⟩:=O1 (qf ⟨l,rs,⟨a1,a2,⟨t,ids⟩⟩⟩);rw [<- hJ] at g m;obtain ⟨s,u,v,x,z,A⟩:=L.o W (J0 _ _);clear H hx Y hI hf a3 hT f1 f2 f3 hV Q R S P hJ;go_enter Tryz.func33,Tryz.ntmps33;go_upto_region 1 with fail
 rw [<- M.o];clear M;go_wp2_with fail;refine E.o.mono ?_;clear E s u v x z A;rintro e w1 ⟨rfl,I⟩;have B:=U I;obtain ⟨s,u,v,x,z,A⟩:=L.o w1 I;clear I;cases km with
 | false => rw [V8] at c;go_wp2;go_ret;exact ⟨qz c.o.symm,i.o.trans (B.o.mono i.o.size)⟩
 | true =>
  rw [Y1] at c;go_wp2_with fail;refine (F.o _).mono ?_;clear F s u v x z A;rintro e Z ⟨rfl,N⟩;have d:=U (O2 B N);obtain ⟨s,u,v,x,z,A⟩:=L.o Z d.o;clear N;cases nb with
  | true =>
   rw [J8 rfl] at c b;go_wp2_with fail;refine (G.o Z d.o).mono ?_;clear G s u v x z A;rintro e T ⟨rfl,o⟩;have a:=U (O2 d o);obtain ⟨s,u,v,x,z,A⟩:=L.o T a.o;clear o;cases rm with
   | false => go_wp2;go_ret;exact ⟨qz c.o.symm,i.o.trans (a.o.mono i.o.size)⟩
   | true => have f:=U (b.o (by first|exact rfl|exact trivial) (by first|exact rfl|exact trivial));go_wp2_with fail;refine (g.o f.o T a.o).mono ?_;clear g s u v x z A;rintro e w4 ⟨an,cn,ai,ci,rfl,r,p⟩;have k:=U (vu J _ w4 (m.o f.o).2 (Rep.carry (X7 _) lz (fun _ _ _=>rfl) _ _ r));rw [(m.o f.o).1] at k;have j:=U (O2 a p);clear r p;go_wp2_with fail;refine k.o.mono ?_;rintro e w5 ⟨rfl,q⟩;have C:=U (O2 i (O2 j q));clear q;go_wp2;go_ret;exact ⟨qz c.o.symm,C.o⟩
  | false =>
   rw [J3 (by decide)] at c b;by_cases hr0:rs=[]
   . have n1:decide ((0:Int)<(rs.length:Int))=false:=by subst hr0;rfl
     have n2:((0:Int)<(rs.length:Int))=False:=by subst hr0;simp
     have n3:decide (0<rs.length)=false:=by subst hr0;rfl
     have n4:¬0<rs.length:=by subst hr0;simp
     rw [show rs.isEmpty=true from by subst hr0;rfl,Y1] at c b;clear hr0;go_wp2_with fail;refine (D.o Z d.o).mono ?_;clear D s u v x z A;rintro e T ⟨rfl,o⟩;have a:=U (O2 d o);obtain ⟨s,u,v,x,z,A⟩:=L.o T a.o;clear o;cases bm with
     | false => go_wp2;go_ret;exact ⟨qz c.o.symm,i.o.trans (a.o.mono i.o.size)⟩
     | true => have f:=U (b.o (by first|exact rfl|exact trivial) (by first|exact rfl|exact trivial));go_wp2_with fail;refine (g.o f.o T a.o).mono ?_;clear g s u v x z A;rintro e w4 ⟨an,cn,ai,ci,rfl,r,p⟩;have k:=U (vu J _ w4 (m.o f.o).2 (Rep.carry (X7 _) lz (fun _ _ _=>rfl) _ _ r));rw [(m.o f.o).1] at k;have j:=U (O2 a p);clear r p;go_wp2_with fail;refine k.o.mono ?_;rintro e w5 ⟨rfl,q⟩;have C:=U (O2 i (O2 j q));clear q;go_wp2;go_ret;exact ⟨qz c.o.symm,C.o⟩
   . have n4:0<rs.length:=zd0.2 hr0;have n1:decide ((0:Int)<(rs.length:Int))=true:=by rw [J6];omega
     have n2:(0:Int)<(rs.length:Int):=by omega
     have n3:decide (0<rs.length)=true:=by rw [J6];omega
     rw [show rs.isEmpty=false from by
      cases rs with
      | nil=>exact absurd rfl hr0
      | cons _ _=>rfl,V8] at c
     clear hr0;go_wp2;go_ret;exact ⟨qz c.o.symm,i.o.trans (d.o.mono i.o.size)⟩
def wj (d:DelegsV):JV × Int:=if qL d then (qf d,0) else (zJ,3)
theorem nI (l:List Key2) (rs:List DelegV) (t a0:Int) (ids:List ByteArray) (a1:ByteArray) (ka ra ba:Option Addr) (kc rc bc:Nat) (w:World) (hI:DelegsIn w 0 w.heap.size ⟨l,rs,⟨a0,a1,⟨t,ids⟩⟩⟩ ka ra ba) (hf:DelegsFits ⟨l,rs,⟨a0,a1,⟨t,ids⟩⟩⟩) (a2:rs.length<=rc) (hT:Tabs w) :
 Calls Tryz.prog 36 #[.agg #[.slice ka l.length kc,.slice ra rs.length rc,.int .i64 t,.slice ba ids.length bc,.int .i64 a0,.string a1]] w (Q3 (wj ⟨l,rs,⟨a0,a1,⟨t,ids⟩⟩⟩) w):=by
 obtain ⟨W,v⟩:=O1 ((w.alloc (.cells #[.slice ka l.length kc,.slice ra rs.length rc,.int .i64 t,.slice ba ids.length bc,.int .i64 a0,.string a1] 35)).alloc (.cells #[.int .u8 0,.int .i64 0,.string ⟨#[]⟩,.slice none 0 0,.slice none 0 0] 25));have A:(w.alloc (.cells #[.slice ka l.length kc,.slice ra rs.length rc,.int .i64 t,.slice ba ids.length bc,.int .i64 a0,.string a1] 35)).heap.size=w.heap.size+1:=by simp
 have o:O5 w W:=by rw [v];exact (O4).alloc (by simp) _
 have I:W.heap[w.heap.size]?=some (.cells #[.slice ka l.length kc,.slice ra rs.length rc,.int .i64 t,.slice ba ids.length bc,.int .i64 a0,.string a1] 35 (0,0)):=by rw [v];exact zG w _ _
 have x:W.rowIs (w.heap.size+1) 25 5 (qZ (.int .u8 0) (.int .i64 0) (.string ⟨#[]⟩) (.slice none 0 0) (.slice none 0 0)):=(by have:=qh (w.alloc (.cells #[.slice ka l.length kc,.slice ra rs.length rc,.int .i64 t,.slice ba ids.length bc,.int .i64 a0,.string a1] 35)) (.int .u8 0) (.int .i64 0) (.string ⟨#[]⟩) (.slice none 0 0) (.slice none 0 0) 25;rw [A,<- v] at this;exact this);have HC:=U (show ∀w':World,O5 W w'->w'.cell? ⟨w.heap.size,0,none⟩=some (.slice ka l.length kc)/\w'.cell? ⟨w.heap.size,1,none⟩=some (.slice ra rs.length rc)/\w'.cell? ⟨w.heap.size,2,none⟩=some (.int .i64 t)/\w'.cell? ⟨w.heap.size,3,none⟩=some (.slice ba ids.length bc)/\w'.cell? ⟨w.heap.size,4,none⟩=some (.int .i64 a0)/\w'.cell? ⟨w.heap.size,5,none⟩=some (.string a1) from fun w' h=>by
  have y:=(h.block _ (qx I)).trans I;exact ⟨qq y rfl,qq y rfl,qq y rfl,qq y rfl,qq y rfl,qq y rfl⟩)
 have B:=O0 (∀w':World,O5 W w'->DelegsIn w' 0 w'.heap.size ⟨l,rs,⟨a0,a1,⟨t,ids⟩⟩⟩ ka ra ba/\Tabs w') (fun w' h=>⟨hI.below (o.trans (h.mono o.size)) lz lz (J1 o.size h.size),hT.below (o.trans (h.mono o.size))⟩);have s:=U x;have Z:=U o;have u:=U v;have i:=U (l9 l rs t a0 ids a1 ka ra ba kc rc bc W (B.o W (J0 _ _)).1 hf a2 (B.o W (J0 _ _)).2);obtain ⟨D,f⟩:=O1 (qL ⟨l,rs,⟨a0,a1,⟨t,ids⟩⟩⟩);rw [<- f] at i;have q:=U f;have k:=O0 (D=true->∀w':World,O5 W w'->_) (fun hm w' h=>pm l rs t a0 ids a1 ka ra ba kc rc bc w' (B.o w' h).1 (by rw [<- qO,<- f];exact hm) (B.o w' h).2);unfold vX at k;clear v A o I x hI hf a2 hT f;obtain ⟨K,L,M,N,P,Q⟩:=HC.o W (J0 _ _);go_enter Tryz.func36,Tryz.ntmps36;go_upto_region 1 with fail
 rw [<- u.o];clear u;go_wp2_with fail;refine i.o.mono ?_;clear i K L M N P Q;rintro r Y ⟨rfl,c⟩;have E:=U c;obtain ⟨K,L,M,N,P,Q⟩:=HC.o Y c;have d:=qj c s.o s.o.lt;have e:=U d;have g:=U (O2 Z c);clear c;cases D with
 | false => have C:=U (show wj ⟨l,rs,⟨a0,a1,⟨t,ids⟩⟩⟩=(zJ,3) by unfold wj;rw [<- q.o];rfl);obtain ⟨R,S,T,V,X⟩:=rc5 d;obtain ⟨s0,s1,s2,s3,s4⟩:=rf5 d;simp only [qZ] at R S T V X;clear d;go_wp2;refine X4 (qk Tryz.results36 _ _ (w.heap.size+1) 25 _ (0,0) _ rfl (qr (set5 _ _ _ _ _ e.o)) X8 rfl (by kernel_rfl) _ rfl) rfl ?_;rw [C.o];exact rG ⟨rfl,zj _ _ _ _ _ g.o (by omega)⟩
 | true => have C:=U (show wj ⟨l,rs,⟨a0,a1,⟨t,ids⟩⟩⟩=(qf ⟨l,rs,⟨a0,a1,⟨t,ids⟩⟩⟩,0) by unfold wj;rw [<- q.o];rfl);have m:=U (k.o rfl Y E.o);have a:=O0 ((qf ⟨l,rs,⟨a0,a1,⟨t,ids⟩⟩⟩).kind=5/\(qf ⟨l,rs,⟨a0,a1,⟨t,ids⟩⟩⟩).n=0/\(qf ⟨l,rs,⟨a0,a1,⟨t,ids⟩⟩⟩).t=⟨#[]⟩) (⟨rfl,rfl,rfl⟩);obtain ⟨J,hJ⟩:=O1 (qf ⟨l,rs,⟨a0,a1,⟨t,ids⟩⟩⟩);rw [<- hJ] at C m a;clear hJ d k;go_wp2_with fail;refine m.o.mono ?_;clear m K L M N P Q;rintro r w2 ⟨an,cn,ai,ci,rfl,z,p⟩;have G:=U z;have b:=qj p e.o e.o.lt;have H:=U b;have F:=U (O2 g p);have HZ:=O0 (w.heap.size+2<=Y.heap.size) e.o.lt;obtain ⟨R,S,T,V,X⟩:=rc5 b;obtain ⟨s0,s1,s2,s3,s4⟩:=rf5 b;simp only [qZ] at R S T V X;clear b z p;go_wp2;refine X4 (qk Tryz.results36 _ _ (w.heap.size+1) 25 _ (0,0) _ rfl (qr (set5 _ _ _ _ _ H.o)) X8 rfl (by kernel_rfl) _ rfl) rfl ?_;rw [C.o];refine ⟨an,cn,ai,ci,by rw [a.o.1,a.o.2.1,a.o.2.2];rfl,?_,zj _ _ _ _ _ F.o (by omega)⟩;dsimp only;rw [a.o.1,a.o.2.1,a.o.2.2];exact Rep.carry (by have:=HZ.o;omega) (show w2.heap.size<=_ by simp [World.setCell]) (fun j hj _=>jm _ _ _ _ _ (by have:=HZ.o;omega)) _ _ G.o
theorem xw.one {T B g:Nat} {w:World} (q:jP) (lo hi:Nat) (c:B<=g) (d:B<=lo) (f:hi<=g) (e:stepP w lo hi q) (b:w.heap[g]?=some (.cells (encS q).toArray T (0,0))):xw T B w (.slice (some ⟨g,0,none⟩) 1 1) [q]:=by
 have a:=qx b;refine ⟨⟨rfl,.inr ⟨g,1,_,rfl,c,b,J9 _,by unfold maxLen;omega,rfl,?_⟩⟩,fun p hp=>?_⟩
 . simp [encS]
 . obtain rfl:p=q:=by simpa using hp
   exact ⟨lo,hi,d,by omega,fun _ a=>by simp [Value.ownBlock] at a;omega,e⟩
theorem mS {d:DelegsV} {path:ByteArray} (h:(qL d && qG path)=false):xv runes d path=[]:=by unfold xv;rw [J3 (by rw [h];decide)]
theorem rq {rs:List DelegV} {path:ByteArray} {k:Nat} (a:k<rs.length):jr runes path (rs.drop k)=if isD runes rs[k] path then nu rs[k] :: (if rs[k].term then [] else jr runes path (rs.drop (k+1))) else jr runes path (rs.drop (k+1)):=by rw [G3 a,jr]
theorem eP:(Tryz.prog.info? 53).map (fun i=>(i.zero,i.size,i.bytes))=some (some (.agg #[.string ⟨#[]⟩,.int .i64 0,.slice none 0 0,.bool false]),4,56):=by kernel_rfl
def QR (nm:ByteArray) (thr:Int) (l:List ByteArray) (tm:Bool) (lo:Nat) (w:World) (x:Value):Prop:=∃a c,x=.agg #[.string nm,.int .i64 thr,.slice a l.length c,.bool tm]/\l.length<=c/\jG w lo w.heap.size a l
def MP.stepV (nm:ByteArray) (thr:Int) (l:List ByteArray) (tm:Bool) (lo:Nat):MP:=⟨QR nm thr l tm lo,fun _ _ _ hb ⟨a,c,e,h1,h2⟩=>⟨a,c,e,h1,h2.below hb lz lz hb.size⟩⟩
def aj (nm:ByteArray) (thr:Int) (l:List ByteArray) (tm:Bool) (lo lo2:Nat) (w:World) (x:Value):Prop:=∃g a c,x=.slice (some ⟨g,0,none⟩) 1 1/\lo2<=g/\w.heap[g]?=some (.cells #[.string nm,.int .i64 thr,.slice a l.length c,.bool tm] 53 (0,0))/\l.length<=c/\jG w lo g a l
def MP.stepR (nm:ByteArray) (thr:Int) (l:List ByteArray) (tm:Bool) (lo lo2:Nat):MP:=⟨aj nm thr l tm lo lo2,fun _ _ _ hb ⟨g,a,c,e,h1,h2,h3,h4⟩=>⟨g,a,c,e,h1,by rw [hb.block _ (qx h2)];exact h2,h3,h4.carry lz lz (fun j _ hbg=>hb.block j (ze0 hbg (qx h2)))⟩⟩
theorem nO {e:ByteArray} {d:Int} {l:List ByteArray} {f:Bool} {lo b c:Nat} {a:Option Addr} {w:World} (g:b<=w.heap.size) (h:l.length<=c) (i:jG w lo w.heap.size a l):aj e d l f lo b (w.alloc (.cells #[.string e,.int .i64 d,.slice a l.length c,.bool f] 53)) (.slice (some ⟨w.heap.size,0,none⟩) 1 1) :=
 ⟨w.heap.size,a,c,rfl,g,J2 w _,h,i.carry lz lz (fun _ _ hb=>Y4 _ _ _ hb)⟩
theorem delegGoes (l:List Key2) (rs:List DelegV) (t k1:Int) (ids:List ByteArray) (k2 path:ByteArray) (ka ra ba:Option Addr) (kc rc bc:Nat) (w:World) (hI:DelegsIn w 0 w.heap.size ⟨l,rs,⟨k1,k2,⟨t,ids⟩⟩⟩ ka ra ba) (hf:DelegsFits ⟨l,rs,⟨k1,k2,⟨t,ids⟩⟩⟩) (k3:rs.length<=rc) (hp:path.size<=4294967296) (hT:Tabs w) :
 Calls Tryz.prog 20 #[.agg #[.slice ka l.length kc,.slice ra rs.length rc,.int .i64 t,.slice ba ids.length bc,.int .i64 k1,.string k2],.string path] w (mc 53 (xv runes ⟨l,rs,⟨k1,k2,⟨t,ids⟩⟩⟩ path) w):=by
 obtain ⟨W,hW⟩:=O1 (w.alloc (.cells #[.slice ka l.length kc,.slice ra rs.length rc,.int .i64 t,.slice ba ids.length bc,.int .i64 k1,.string k2] 35));have p:=O7 hW
 have hx:=O9 hW
 have HC:=U (show ∀w':World,O5 W w'->w'.cell? ⟨w.heap.size,0,none⟩=some (.slice ka l.length kc)/\w'.cell? ⟨w.heap.size,1,none⟩=some (.slice ra rs.length rc)/\w'.cell? ⟨w.heap.size,2,none⟩=some (.int .i64 t)/\w'.cell? ⟨w.heap.size,3,none⟩=some (.slice ba ids.length bc)/\w'.cell? ⟨w.heap.size,4,none⟩=some (.int .i64 k1)/\w'.cell? ⟨w.heap.size,5,none⟩=some (.string k2) from fun w' h=>by
  have y:=(h.block _ (qx hx)).trans hx;exact ⟨qq y rfl,qq y rfl,qq y rfl,qq y rfl,qq y rfl,qq y rfl⟩)
 have HI:=O0 (∀w':World,O5 W w'->DelegsIn w' 0 w'.heap.size ⟨l,rs,⟨k1,k2,⟨t,ids⟩⟩⟩ ka ra ba/\Tabs w') (fun w' h=>⟨hI.below (p.trans (h.mono p.size)) lz lz (J1 p.size h.size),hT.below (p.trans (h.mono p.size))⟩);have HF:=U hf;have N:=U p;have f2:rs.length<=70:=hf.many;have f3:k2.size<=300:=hf.pre;have a2:=U (l9 l rs t k1 ids k2 ka ra ba kc rc bc W (HI.o W (J0 _ _)).1 hf k3 (HI.o W (J0 _ _)).2);have b2:=U (fun w=>ge path w (by omega));have c3:=U (fun w'=>wC t k1 ids k2 ba bc w');have A:=U (@mS ⟨l,rs,⟨k1,k2,⟨t,ids⟩⟩⟩ path);have P:=U ((qO ⟨l,rs,⟨k1,k2,⟨t,ids⟩⟩⟩).trans (zU ⟨l,rs,⟨k1,k2,⟨t,ids⟩⟩⟩));dsimp only at P;have u:=O0 (qL ⟨l,rs,⟨k1,k2,⟨t,ids⟩⟩⟩=true->qG path=true->xv runes ⟨l,rs,⟨k1,k2,⟨t,ids⟩⟩⟩ path=(if q8 ⟨k1,k2,⟨t,ids⟩⟩ then jr runes path rs else [⟨zP k2 k1.toNat (jN path k1.toNat),⟨t,ids⟩,true⟩])) (fun h1 h2=>by unfold xv;rw [h1,h2];rfl);have a4:=U (show ∀w':World,O5 W w'->zu ⟨k1,k2,⟨t,ids⟩⟩=0->Calls Tryz.prog 43 #[.agg #[.int .i64 t,.slice ba ids.length bc,.int .i64 k1,.string k2],.string path] w' (fun e w2=>e=.returned (.tuple #[.string (zP k2 k1.toNat (jN path k1.toNat)),.int .i64 0])/\O5 w' w2) from fun w' h he=>by
  obtain ⟨k,hk,h1,h2⟩:=uh he;subst hk;rw [zb2];exact lW t k ids k2 path ba bc w' (by omega) hp he h1 h2 (HI.o w' h).2)
 have b9:=O0 (∀w':World,O5 W w'->_) (fun w' h=>yr t ids ba bc W.heap.size w' h.size (HI.o w' h).1.bids hf.au.2.1);have h9:=O0 (∀w':World,O5 W w'->∀x ∈ rs,∀Y pa qa ic pc qc,DelegIn w' 0 w'.heap.size x Y pa qa->_) (fun w' h x hx Y pa qa ic pc qc X=>sA x path Y pa qa ic pc qc w' X (HF.o.roles x hx) hp (HI.o w' h).2);have f5:=U hW;have j1:=U hp;obtain ⟨G,hG⟩:=O1 (xv runes ⟨l,rs,⟨k1,k2,⟨t,ids⟩⟩⟩ path);rw [<- hG] at A u ⊢;obtain ⟨mb,g8⟩:=O1 (qL ⟨l,rs,⟨k1,k2,⟨t,ids⟩⟩⟩);rw [<- g8] at a2 A P u;obtain ⟨pb,h0⟩:=O1 (qG path);rw [<- h0] at b2 A u;obtain ⟨nb,g9⟩:=O1 (q8 ⟨k1,k2,⟨t,ids⟩⟩);rw [<- g9] at c3 P u;clear p hx hW hI hf k3 hp hT hG g8 h0 g9;obtain ⟨q0,q1,q2,q3,q4,q5⟩:=HC.o W (J0 _ _);go_enter Tryz.func20,Tryz.ntmps20;go_upto_region 1 with fail
 rw [<- f5.o];clear f5;cases mb with
 | false => have c0:=U (A.o (by simp));go_wp2_with (go_at_call 33;refine a2.o.mono ?_;rintro e w1 ⟨rfl,p⟩;have E:=U p;clear p);go_ret;rw [c0.o];exact ⟨none,0,[],rfl,rfl,ItemsOwn.nil _ _ _ _ _ _,N.o.trans (E.o.mono N.o.size)⟩
 | true =>
 cases pb with
 | false => have c0:=U (A.o (by simp));go_wp2_with (first|(go_at_call 33;refine a2.o.mono ?_;rintro e w1 ⟨rfl,p⟩;have E:=U p;clear p)|(go_at_call 34;refine (b2.o _).mono ?_;rintro e w2 ⟨rfl,p⟩;have S:=U (O2 E p);clear p));go_ret;rw [c0.o];exact ⟨none,0,[],rfl,rfl,ItemsOwn.nil _ _ _ _ _ _,N.o.trans (S.o.mono N.o.size)⟩
 | true =>
 replace u:=U (u.o (by first|exact rfl|exact trivial) (by first|exact rfl|exact trivial));go_upto_region 3 with (first|(go_at_call 33;refine a2.o.mono ?_;rintro e w1 ⟨rfl,p⟩;have E:=U p;clear p)|(go_at_call 34;refine (b2.o _).mono ?_;rintro e w2 ⟨rfl,p⟩;have S:=U (O2 E p);obtain ⟨z0,z1,z2,z3,z4,z5⟩:=HC.o _ S.o;clear p))
 go_wp2_with fail
 refine (c3.o _).mono ?_;clear c3 a2 b2 q0 q1 q2 q3 q4 q5 z0 z1 z2 z3 z4 z5;rintro e w3 ⟨rfl,g0⟩;have a0:=U (O2 S g0);obtain ⟨q0,q1,q2,q3,q4,q5⟩:=HC.o w3 a0.o;clear g0 E S A;cases nb with
 | false =>
  rw [J3 (by decide)] at u;have HE:=U (show zu ⟨k1,k2,⟨t,ids⟩⟩=0 from by
   have h:=P.o;rw [J3 (by decide)] at h;have h2:=h.symm;simp only [X3] at h2;exact (xN h2.2.2).1)
  obtain ⟨R,hR⟩:=O1 (zP k2 k1.toNat (jN path k1.toNat));rw [<- hR] at a4 u;clear hR;go_wp2_with fail;refine (a4.o w3 a0.o HE.o).mono ?_;clear a4 q0 q1 q2 q3 q4 q5;rintro e w4 ⟨rfl,M⟩;have m:=U (O2 a0 M);obtain ⟨q0,q1,q2,q3,q4,q5⟩:=HC.o w4 m.o;clear M;go_wp2_with fail;refine (b9.o w4 m.o).mono ?_;clear b9 q0 q1 q2 q3 q4 q5;rintro e w5 ⟨y,rfl,⟨a5,c5,rfl,B,C⟩,g1⟩;have c9:=U C;have b7:=U B;have d5:=U (O2 m g1);clear g1 C B;go_wp2;go_ret;rw [u.o];have hx:=J2 w5 (.cells #[.string R,.int .i64 t,.slice a5 ids.length c5,.bool true] 53);have i4:O5 w5 (w5.alloc (.cells #[.string R,.int .i64 t,.slice a5 ids.length c5,.bool true] 53)):=O4;have hz:=J1 N.o.size d5.o.size;exact ⟨_,1,[(⟨R,⟨t,ids⟩,true⟩,a5,c5)],rfl,rfl,xw.one (⟨R,⟨t,ids⟩,true⟩,a5,c5) W.heap.size w5.heap.size hz N.o.size lz ⟨b7.o,c9.o.below i4 lz lz lz⟩ hx,(N.o.trans (d5.o.mono N.o.size)).alloc hz _⟩
 | true =>
  rw [J8 rfl] at u;obtain ⟨Z,d2⟩:=O1 rs.length;have e6:=U d2;rw [<- d2] at HC q1 f2 ⊢;clear d2 b9 a4;go_wp2_with fail;go_loopw [7,9,41] (fun s7 _ i wr=>∃(k:Nat) (a:Option Addr) (c:Nat) (qs:List jP),k<=Z/\qs.length<=k/\i=.int .i64 k/\s7=.slice a qs.length c/\G=qs.map (·.1) ++ jr runes path (rs.drop k)/\xw 53 W.heap.size wr s7 qs/\O5 W wr) (fun _ _ i _=>Z - (intOf i).toNat)
  case atStart=>exact ⟨0,none,0,[],by omega,J9 _,rfl,rfl,by rw [u.o];rfl,ItemsOwn.nil _ _ _ _ _ _,a0.o⟩
  case round =>
   obtain ⟨k,a7,c7,r,hk,j3,rfl,rfl,g5,b6,g4⟩:=hrel;have b0:=U g5;have HO:=U b6;have a6:=U g4;clear g5 b6 g4 q0 q1 q2 q3 q4 q5;by_cases hlt:k<Z
   . have d1:k<rs.length:=by rw [<- e6.o];exact hlt
     obtain ⟨b,o,ha,-,j2,Y,ic,pa,pc,qa,qc,e0,e1,e2,e3,e4,e5,-,-,-,X⟩:=(HI.o wr a6.o).1.roles.at k d1;subst ha;have m1:(0:Int)<=(k:Int):=by omega
     have m2:(k:Int)<(Z:Int):=by omega
     have m3:decide ((k:Int)<(Z:Int))=true:=by simpa using hlt
     have z:=U (rq (rs:=rs) (path:=path) d1);have Q:=X6 d1;obtain ⟨x,hx⟩:=O1 (rs[k]);rw [<- hx] at e0 e1 e2 e3 e4 e5 X z Q;clear hx;obtain ⟨L,⟨f,j⟩,D,ps,qs⟩:=x;dsimp only at e0 e1 e2 e3 e4 e5;obtain ⟨s,b3⟩:=O1 (wr.alloc (.cells #[.string L,.int .i64 f,.slice Y j.length ic,.bool D,.slice pa ps.length pc,.slice qa qs.length qc] 41));have I:=O7 b3
     have b4:=O9 b3
     have a8:=U (O2 a6 I);have T:=U (show ∀w':World,O5 s w'->w'.cell? ⟨wr.heap.size,0,none⟩=some (.string L)/\w'.cell? ⟨wr.heap.size,1,none⟩=some (.int .i64 f)/\w'.cell? ⟨wr.heap.size,2,none⟩=some (.slice Y j.length ic)/\w'.cell? ⟨wr.heap.size,3,none⟩=some (.bool D)/\w'.cell? ⟨wr.heap.size,4,none⟩=some (.slice pa ps.length pc)/\w'.cell? ⟨wr.heap.size,5,none⟩=some (.slice qa qs.length qc) from fun w' h=>by
      have y:=(h.block _ (qx b4)).trans b4;exact ⟨qq y rfl,qq y rfl,qq y rfl,qq y rfl,qq y rfl,qq y rfl⟩)
     have b1:=U (h9.o s a8.o _ Q Y pa qa ic pc qc (X.below I lz lz I.size));have h7:=O0 (∀w':World,O5 s w'->_) (fun w' h=>yr f j Y ic s.heap.size w' h.size (X.ids.below (I.trans (h.mono I.size)) lz lz (J1 I.size h.size)) (HF.o.roles _ Q).au.2.1);have f1:=U (ItemsOwn.below kA HO.o I);have i2:=U (qx b4);have f6:=U b3;obtain ⟨bi,g3⟩:=O1 (isD runes ⟨L,⟨f,j⟩,D,ps,qs⟩ path);rw [<- g3] at b1 z;dsimp only at b1 z;clear I b4 b3 X Q g3;obtain ⟨z0,z1,z2,z3,z4,z5⟩:=T.o s (J0 _ _);go_upto_region 12 with fail
     rw [<- f6.o];clear e0 e1 e2 e3 e4 e5 f6;go_wp2_with fail;refine b1.o.mono ?_;clear b1 z0 z1 z2 z3 z4 z5;rintro e w4 ⟨rfl,M⟩;have m:=U M;have e7:=U (ItemsOwn.below kA f1.o M);have a1:=U (O2 a8 M);clear M f1;cases bi with
     | false =>
      rw [J3 (by decide)] at z;go_wp2;go_roundw
      case rel=>exact ⟨k+1,a7,c7,r,by omega,by omega,by go_num,rfl,by rw [b0.o,z.o],e7.o,a1.o⟩
      case measure=>simp [intOf];omega
     | true =>
      rw [J8 rfl] at z;go_upto_region 13 with fail
      obtain ⟨V,hV⟩:∃V:List MP,V=[.con (.slice a7 r.length c7),.con (.pointer (some ⟨wr.heap.size,0,none⟩)),.con (.string L),.con (.pointer (some ⟨wr.heap.size,1,none⟩)),.con (.agg #[.int .i64 f,.slice Y j.length ic]),.authW f j s.heap.size,.con (.pointer (some ⟨wr.heap.size,3,none⟩)),.con (.bool D),.stepV L f j D s.heap.size,.stepR L f j D s.heap.size w4.heap.size]:=⟨_,rfl⟩;have v:=U hV;clear hV;refine qP 10 (fun d a' w'=>∃x49 x50 x51 x52 x53 x54 x55 x56 x57 x58,a'=⟨#[Value.agg #[Value.slice ka l.length kc,Value.slice (some { block:=b,off:=o }) Z rc,Value.int IntKind.i64 t,Value.slice ba ids.length bc,Value.int IntKind.i64 k1,Value.string k2],Value.string path,Value.pointer (some { block:=w.heap.size,off:=0 }),undef,Value.slice none 0 0,undef,undef,Value.slice a7 r.length c7,undef,Value.pointer (some { block:=wr.heap.size,off:=0 }),Value.agg #[Value.slice ka l.length kc,Value.slice (some { block:=b,off:=o }) Z rc,Value.int IntKind.i64 t,Value.slice ba ids.length bc,Value.int IntKind.i64 k1,Value.string k2],Value.bool true,Value.bool false,Value.bool false,Value.string path,Value.bool true,Value.bool false,Value.bool false,Value.pointer (some { block:=w.heap.size,off:=2 }),Value.agg #[Value.int IntKind.i64 t,Value.slice ba ids.length bc,Value.int IntKind.i64 k1,Value.string k2],Value.bool true,Value.bool false,undef,undef,undef,undef,undef,undef,undef,undef,undef,undef,undef,undef,undef,undef,undef,undef,Value.pointer (some { block:=w.heap.size,off:=1 }),Value.slice (some { block:=b,off:=o }) Z rc,Value.int IntKind.i64 (Z:Int),Value.int IntKind.i64 (k:Int),Value.bool true,Value.pointer (some { block:=b,off:=o+k * 6 }),Value.agg #[Value.string L,Value.int IntKind.i64 f,Value.slice Y j.length ic,Value.bool D,Value.slice pa ps.length pc,Value.slice qa qs.length qc],Value.agg #[Value.string L,Value.int IntKind.i64 f,Value.slice Y j.length ic,Value.bool D,Value.slice pa ps.length pc,Value.slice qa qs.length qc],Value.string path,Value.bool true,Value.bool false,x49,x50,x51,x52,x53,x54,x55,x56,x57,x58,u59,u60,u61,u62,undef],[]⟩/\zW w4 V d w' [x49,x50,x51,x52,x53,x54,x55,x56,x57,x58]) (by kernel_rfl) (by kernel_rfl) ?first ?step ?last
      case first=>exact ⟨_,_,_,_,_,_,_,_,_,_,rfl,zW.first _ _ _ (by rw [v.o];rfl)⟩
      case step =>
       rintro d a' w' ⟨x49,x50,x51,x52,x53,x54,x55,x56,x57,x58,rfl,h⟩ q hq hn hw;rcases q with _|_|_|_|_|_|_|_|_|_|q
       . refine J4 rfl fun K hK=>?_;go_simp;exact hK _ _ ⟨_,_,_,_,_,_,_,_,_,_,rfl,h.sameC 0 _ v rfl⟩
       . refine J4 rfl fun K hK=>?_;go_simp;exact hK _ _ ⟨_,_,_,_,_,_,_,_,_,_,rfl,h.sameC 1 _ v rfl⟩
       . obtain rfl:=h.cn hw v 1 .data;obtain ⟨q0,q1,q2,q3,q4,q5⟩:=T.o w' (m.o.trans (h.1.mono m.o.size));refine J4 rfl fun K hK=>?_;go_simp;exact hK _ _ ⟨_,_,_,_,_,_,_,_,_,_,rfl,h.sameC 2 _ v rfl⟩
       . refine J4 rfl fun K hK=>?_;go_simp;exact hK _ _ ⟨_,_,_,_,_,_,_,_,_,_,rfl,h.sameC 3 _ v rfl⟩
       . obtain rfl:=h.cn hw v 3 .data;obtain ⟨q0,q1,q2,q3,q4,q5⟩:=T.o w' (m.o.trans (h.1.mono m.o.size));refine J4 rfl fun K hK=>?_;go_simp;exact hK _ _ ⟨_,_,_,_,_,_,_,_,_,_,rfl,h.sameC 4 _ v rfl⟩
       . obtain rfl:=h.cn hw v 4 .data;obtain ⟨q0,q1,q2,q3,q4,q5⟩:=T.o w' (m.o.trans (h.1.mono m.o.size));refine J4 rfl fun K hK=>?_;go_simp;refine (h7.o w' (m.o.trans (h.1.mono m.o.size))).mono ?_;rintro e w2 ⟨y,rfl,hy,i3⟩;exact hK _ _ ⟨_,_,_,_,_,_,_,_,_,_,rfl,h.did i3 5 _ (.authW f j s.heap.size) (by rw [v.o];rfl) hy⟩
       . refine J4 rfl fun K hK=>?_;go_simp;exact hK _ _ ⟨_,_,_,_,_,_,_,_,_,_,rfl,h.sameC 6 _ v rfl⟩
       . obtain rfl:=h.cn hw v 6 .data;obtain ⟨q0,q1,q2,q3,q4,q5⟩:=T.o w' (m.o.trans (h.1.mono m.o.size));refine J4 rfl fun K hK=>?_;go_simp;exact hK _ _ ⟨_,_,_,_,_,_,_,_,_,_,rfl,h.sameC 7 _ v rfl⟩
       . obtain rfl:=h.cn hw v 2 .data;have h3:=h.get 5 (O3 hw 5 .data) (.authW f j s.heap.size) (by rw [v.o];rfl) _ rfl;obtain ⟨a5,c5,rfl,B,C⟩:=h3;obtain rfl:=h.cn hw v 7 .data;refine J4 rfl fun K hK=>?_;go_simp;exact hK _ _ ⟨_,_,_,_,_,_,_,_,_,_,rfl,h.same 8 _ (.stepV L f j D s.heap.size) (by rw [v.o];rfl) ⟨a5,c5,rfl,B,C⟩⟩
       . have h4:=h.get 8 (O3 hw 8 .data) (.stepV L f j D s.heap.size) (by rw [v.o];rfl) _ rfl;obtain ⟨a5,c5,rfl,B,C⟩:=h4;refine J4 rfl fun K hK=>?_;go_simp;exact hK _ _ ⟨_,_,_,_,_,_,_,_,_,_,rfl,h.new _ 9 _ (.stepR L f j D s.heap.size w4.heap.size) (by rw [v.o];rfl) (nO h.1.size B C)⟩
       . omega
      case last =>
       rintro d a' w' a3 ⟨x49,x50,x51,x52,x53,x54,x55,x56,x57,x58,rfl,h⟩;have g7:=h.1;obtain rfl:=h.con 0 (a3 _ (by omega)) v rfl rfl;have h5:=h.get 9 (a3 _ (by omega)) (.stepR L f j D s.heap.size w4.heap.size) (by rw [v.o];rfl) _ rfl;have i0:=U g7;clear h a3 g7 v;have H:=i0.o;obtain ⟨g,a5,c5,rfl,g6,h6,B,C⟩:=h5;have c4:=U (ItemsOwn.below kA e7.o H);have c6:=O0 (w'.ownsRow W.heap.size 53 4 (.slice a7 r.length c7) r.length (r.flatMap encS)) c4.o.own;have b5:=U (O2 a1 H);have d0:=U h6;have c9:=U C;have b7:=U B;have c1:=O0 (w4.heap.size<=g/\s.heap.size<=w4.heap.size/\W.heap.size<=s.heap.size/\wr.heap.size<s.heap.size/\w4.heap.size<=w'.heap.size) (⟨g6,m.o.size,a8.o.size,i2.o,H.size⟩);have f7:=U (T.o w' (O2 m H));have e9:=O0 (∀b,(Value.slice a7 r.length c7).ownBlock=some b->b<wr.heap.size) (fun b p=>(HO.o.own.lt b p).2);have i6:W.heap.size<=w'.heap.size:=b5.o.size;have k0:r.length<=70:=by omega
       obtain ⟨i1,i5,i7,i9,j0⟩:=K9 eP;simp only [M4,za1];obtain ⟨qn,d3⟩:∃qn:jP,qn=(⟨L,⟨f,j⟩,D⟩,a5,c5):=⟨_,rfl⟩;have f4:=U d3;have h8:=O0 (encS qn=[.string L,.int .i64 f,.slice a5 j.length c5,.bool D]) (by rw [d3];rfl);clear H h6 C B g6 d3;go_upto_region 14 with (at_builtin;(refine V6 _ rfl (.tmp 49) (.tmp 58) 48 rfl W.heap.size 53 i1 _ 4 56 Tryz.underlying48 i5 i7 i9 j0 rfl (by omega) (.slice a7 r.length c7) r.length (r.flatMap encS) rfl c6.o ⟨g,0,none⟩ 1 1 (encS qn) rfl rfl (by rw [h8.o];exact Y0 (cs:=#[.string L,.int .i64 f,.slice a5 j.length c5,.bool D]) (t:=53) (fr:=(0,0)) d0.o) (oK _) (by omega) (by unfold maxLen;omega) (by omega) (by have:=qx d0.o;omega) w'.heap.size (by omega) ?_);intro g2 cap2 w6 hown6 hgrow6 hat6 hlt6;have e8:=U hown6;have a9:=U hgrow6;have d4:=U hat6;clear hown6 hgrow6 hat6)
       have f0:=U (show xw 53 W.heap.size w6 (.slice (some ⟨g2,0,none⟩) (r.length+1) cap2) (r ++ [qn]) from ItemsOwn.snoc kA (v':=.slice (some ⟨g2,0,none⟩) (r.length+1) cap2) c4.o qn s.heap.size g (by have:=c1.o;omega) (ze7 (qx d0.o)) (fun b p hbg=>by
        have h1:=e9.o b p;have:=c1.o;omega) (by rw [f4.o];exact ⟨b7.o,c9.o⟩) a9.o e8.o (by
        rcases d4.o with h|h
        . exact .inl h.symm
        . exact .inr ⟨g2,rfl,by omega⟩))
       have d6:=U (below_grown b5.o i6 a9.o (fun b p=>(c6.o.lt b p).1));have c2:=O0 ((r ++ [qn]).length=r.length+1) (by rw [G6];rfl);have d7:=O0 ((r ++ [qn]).map (·.1)=r.map (·.1) ++ [⟨L,⟨f,j⟩,D⟩]) (by rw [M1,f4.o];rfl);have z3:=(V9 (w:=w') (w':=w6) (a:=⟨wr.heap.size,3,none⟩) (a9.o.block wr.heap.size (by have:=c1.o;omega) (fun e=>by have:=e9.o _ e.symm;omega))).trans f7.o.2.2.2.1;clear e8 a9 d4 c6 c4 f7;cases D with
       | true =>
        rw [J8 rfl] at z;have F:=O0 (G=(r ++ [qn]).map (·.1)) (by rw [b0.o,z.o,d7.o];rfl);go_wp2;go_ret;have J:G.length=r.length+1:=by rw [F.o,X9,c2.o]
        exact ⟨some ⟨g2,0,none⟩,cap2,r ++ [qn],by rw [J];rfl,F.o.symm,ItemsOwn.mono (by rw [J];exact f0.o) N.o.size,N.o.trans (d6.o.mono N.o.size)⟩
       | false =>
        rw [J3 (by decide)] at z;go_wp2;go_roundw
        case rel=>exact ⟨k+1,some ⟨g2,0,none⟩,cap2,r ++ [qn],by omega,by rw [c2.o];omega,by go_num,by rw [c2.o],by rw [b0.o,z.o,d7.o,List.append_assoc];rfl,f0.o,d6.o⟩
        case measure=>simp [intOf];omega
   . have m3:decide ((k:Int)<(Z:Int))=false:=by simpa using hlt
     have F:=U (show G=r.map (·.1) from by
      rw [b0.o,N7 (by rw [<- e6.o];omega)];simp [jr])
     go_wp2;go_ret;have J:G.length=r.length:=by rw [F.o,X9]
     exact ⟨a7,c7,r,by rw [J];rfl,F.o.symm,ItemsOwn.mono (by rw [J];exact HO.o) N.o.size,N.o.trans (a6.o.mono N.o.size)⟩
theorem yD (l:List Key2) (rs:List DelegV) (t a2:Int) (ids:List ByteArray) (a3 path:ByteArray) (ka ra ba:Option Addr) (kc rc bc:Nat) (L:List ByteArray) (la:Option Addr) (lc:Nat) (w:World) (hI:DelegsIn w 0 w.heap.size ⟨l,rs,⟨a2,a3,⟨t,ids⟩⟩⟩ ka ra ba) (hf:DelegsFits ⟨l,rs,⟨a2,a3,⟨t,ids⟩⟩⟩) (a4:rs.length<=rc) (hp:path.size<=4294967296) (hT:Tabs w)
 (hL:qv w 0 w.heap.size la L) (hl:L.length<=1000) :
 Calls Tryz.prog 49 #[.agg #[.slice ka l.length kc,.slice ra rs.length rc,.int .i64 t,.slice ba ids.length bc,.int .i64 a2,.string a3],.string path,.slice la L.length lc] w fun e w'=>e=.returned (.bool (decide ((xv runes ⟨l,rs,⟨a2,a3,⟨t,ids⟩⟩⟩ path).map (·.name)=L)))/\O5 w w':=by
 obtain ⟨W,I⟩:=O1 (w.alloc (.cells #[.slice ka l.length kc,.slice ra rs.length rc,.int .i64 t,.slice ba ids.length bc,.int .i64 a2,.string a3] 35));have r:=O7 I
 have h:=O9 I
 have M:=U (delegGoes l rs t a2 ids a3 path ka ra ba kc rc bc W (hI.below r lz lz r.size) hf a4 hp (hT.below r));have N:=U (hL.below r lz lz r.size);obtain ⟨S,hS⟩:=O1 (xv runes ⟨l,rs,⟨a2,a3,⟨t,ids⟩⟩⟩ path);rw [<- hS] at M ⊢;obtain ⟨q,X⟩:=O1 (decide (S.map (·.name)=L));have P:=U X;rw [<- X];have Z:=U r;have HW:=U I;have q0:=qq h (j:=0) rfl;have q1:=qq h (j:=1) rfl;have q2:=qq h (j:=2) rfl;have q3:=qq h (j:=3) rfl;have q4:=qq h (j:=4) rfl;have q5:=qq h (j:=5) rfl;clear r I h hI hf a4 hp hT hL hS X;go_enter Tryz.func49,Tryz.ntmps49;go_upto_region 1 with fail
 rw [<- HW.o];clear HW;go_wp2_with fail;refine M.o.mono ?_;clear M q0 q1 q2 q3 q4 q5;rintro e w1 ⟨a,c,qs,rfl,G,o,m⟩;have R:=U (xw.steps o G);have d:=U (O2 Z m);replace N:=U (N.o.below m lz lz m.size);clear o G m;by_cases hlm:S.length=L.length
 case neg =>
  have n2:((S.length:Int) != (L.length:Int))=true:=by simp;omega
  have HD:=O0 (q=false) (by rw [P.o];exact J5 fun e=>hlm (by rw [<- e,X9]));clear hlm;go_wp2;go_ret;exact ⟨qz HD.o.symm,d.o⟩
 obtain ⟨n,J⟩:=O1 S.length;have A:=U J;have B:=U (show n=L.length by rw [J,hlm]);rw [<- hlm,<- J];have a0:n<=1000:=by omega
 have n2:((n:Int) != (n:Int))=false:=by simp
 clear hlm J hl;go_wp2_with fail;go_loopw [8] (fun i wr=>∃k:Nat,k<=n/\i=.int .i64 k/\(S.map (·.name)).take k=L.take k/\O5 w1 wr) (fun i _=>n - (intOf i).toNat)
 case atStart=>exact ⟨0,by omega,rfl,rfl,J0 _ _⟩
 case round =>
  obtain ⟨k,hk,rfl,H,E⟩:=hrel;have C:=U H;have b:=U E;clear H E;by_cases hlt:k<n
  . have s:k<S.length:=by rw [<- A.o];exact hlt
    have F:k<L.length:=by rw [<- B.o];exact hlt
    obtain ⟨p,f,V,_,hp,ia,ic,e0,e1,T,e3,-,-⟩:=(R.o.below b.o lz lz b.o.size).at k s;subst V;obtain ⟨p2,g,V,_,a1,f0⟩:=(N.o.below b.o lz lz b.o.size).at k F;subst V;have u:(S.map (·.name))[k]'(by rw [X9];exact s)=S[k].name:=N2 ..;have D:=O0 (S[k].name=L[k]->(S.map (·.name)).take (k+1)=L.take (k+1)) (fun e=>by rw [J7 (by rw [X9];exact s),J7 F,C.o,u,e]);have v:=U (show S[k].name≠L[k]->q=false from fun e=>by
     rw [P.o];refine J5 fun T=>e ?_;rw [<- u];subst T;rfl)
    obtain ⟨x,h⟩:∃x:ByteArray,x=S[k].name:=⟨_,rfl⟩;obtain ⟨y,Y⟩:∃y:ByteArray,y=L[k]:=⟨_,rfl⟩;replace e0:=e0.trans (Y2 (fun z:ByteArray=>some (Value.string z)) h.symm);replace f0:=f0.trans (Y2 (fun z:ByteArray=>some (Value.string z)) Y.symm);rw [<- h,<- Y] at D v;clear h Y u e1 T e3;have m1:(0:Int)<=(k:Int):=by omega
    have m2:(k:Int)<(n:Int):=by omega
    have m3:decide ((k:Int)<(n:Int))=true:=by simpa using hlt
    cases h1:(x.toList == y.toList)
    . have Q:=U (v.o fun e=>by rw [e] at h1;simp at h1);go_wp2_with fail;go_quiet (fail);go_wp2;go_ret;exact ⟨qz Q.o.symm,Below.drewN (d.o.trans (b.o.mono d.o.size)) _⟩
    . have K:=U (D.o (by rw [ba_eq,J6] at h1;exact h1));go_wp2_with fail;go_quiet (fail);go_wp2;go_roundw
      case rel=>exact ⟨k+1,by omega,by go_num,K.o,Below.drewN b.o _⟩
      case measure=>simp [intOf];omega
  . obtain rfl:k=n:=by omega
    have m3:decide ((k:Int)<(k:Int))=false:=by simp
    have Q:=U (show q=true by
     rw [P.o];have:=C.o;rw [X2 (by rw [X9,<- A.o];exact J9 _),X2 (by rw [<- B.o];exact J9 _)] at this;exact X0 this)
    go_wp2;go_ret;exact ⟨qz Q.o.symm,d.o.trans (b.o.mono d.o.size)⟩
theorem tE (l m:List Key2) (a b:Option Addr) (c d:Nat) (w:World) (hA:xu w 0 w.heap.size a l) (hB:xu w 0 w.heap.size b m) (hl:l.length<=4294967296) (_hm:m.length<=4294967296) :
 Calls Tryz.prog 69 #[.slice a l.length c,.slice b m.length d] w fun e w'=>e=.returned (.bool (decide (l=m)))/\O5 w w':=by
 have S:=U hA;have T:=U hB;clear hA hB;by_cases hlm:l.length=m.length
 case neg =>
  have I:((l.length:Int) != (m.length:Int))=true:=by simp;omega
  have V:=O0 (decide (l=m)=false) (J5 fun e=>hlm (by rw [e]));go_enter Tryz.func69,Tryz.ntmps69;go_wp2;go_ret;exact ⟨by rw [V.o];rfl,J0 _ _⟩
 obtain ⟨n,J⟩:=O1 l.length;have r:=U J;have s:=U (show n=m.length by rw [J,hlm]);rw [<- hlm,<- J];have W:n<=4294967296:=by omega
 clear hlm J hl;go_enter Tryz.func69,Tryz.ntmps69;go_wp2_with fail;go_loopw [5] (fun i wr=>∃k:Nat,k<=n/\i=.int .i64 k/\l.take k=m.take k/\O5 w wr) (fun i _=>n - (intOf i).toNat)
 case atStart=>exact ⟨0,by omega,rfl,rfl,J0 _ _⟩
 case round =>
  obtain ⟨k,Y,rfl,D,A⟩:=hrel;have u:=U D;have h:=U A;clear D A;by_cases hlt:k<n
  . have B:k<l.length:=by rw [<- r.o];exact hlt
    have C:k<m.length:=by rw [<- s.o];exact hlt
    obtain ⟨p,f,M,_,Z,E,F⟩:=(S.o.below h.o lz lz lz).at k B;subst M;obtain ⟨q,g,M,_,hq,G,H⟩:=(T.o.below h.o lz lz lz).at k C;subst M;have v:=O0 (l[k]=m[k]->l.take (k+1)=m.take (k+1)) (fun e=>by rw [J7 B,J7 C,u.o,e]);have j:=O0 (l[k]≠m[k]->decide (l=m)=false) (fun e=>J5 fun e2=>e (by subst e2;rfl));obtain ⟨x,K⟩:∃x:Key2,x=l[k]:=⟨_,rfl⟩;obtain ⟨y,L⟩:∃y:Key2,y=m[k]:=⟨_,rfl⟩;replace E:=E.trans (Y2 (fun z:Key2=>some (Value.string z.1)) K.symm);replace F:=F.trans (Y2 (fun z:Key2=>some (Value.string z.2)) K.symm);replace G:=G.trans (Y2 (fun z:Key2=>some (Value.string z.1)) L.symm);replace H:=H.trans (Y2 (fun z:Key2=>some (Value.string z.2)) L.symm);rw [<- K,<- L] at v j;clear K L;obtain ⟨P,N⟩:=x;obtain ⟨R,Q⟩:=y;replace E:wr.cell? ⟨p,f+k * 2,none⟩=some (.string P):=E;replace F:wr.cell? ⟨p,f+k * 2+1,none⟩=some (.string N):=F;replace G:wr.cell? ⟨q,g+k * 2,none⟩=some (.string R):=G;replace H:wr.cell? ⟨q,g+k * 2+1,none⟩=some (.string Q):=H;have m1:(0:Int)<=(k:Int):=by omega
    have m2:(k:Int)<(n:Int):=by omega
    have X:decide ((k:Int)<(n:Int))=true:=by simpa using hlt
    cases I:(P.toList == R.toList)
    . have o:=U (j.o fun e=>by rw [(Prod.mk.inj e).1] at I;simp at I);go_wp2_with fail;go_quiet (fail);go_wp2;go_ret;exact ⟨by rw [o.o];rfl,Below.drewN h.o _⟩
    . cases h2:(N.toList == Q.toList)
      . have o:=U (j.o fun e=>by rw [(Prod.mk.inj e).2] at h2;simp at h2);go_wp2_with fail;go_quiet (fail);go_wp2;go_ret;exact ⟨by rw [o.o];rfl,Below.drewN h.o _⟩
      . have o:=U (v.o (by rw [yV (eq_of_beq I),yV (eq_of_beq h2)]));go_wp2_with fail;go_quiet (fail);go_wp2;go_roundw
        case rel=>exact ⟨k+1,by omega,by go_num,o.o,Below.drewN h.o _⟩
        case measure=>simp [intOf];omega
  . have X:decide ((k:Int)<(n:Int))=false:=by simpa using hlt
    have o:=U (show decide (l=m)=true from X0 (by
     have:=u.o;rwa [X2 (by rw [<- r.o];omega),X2 (by rw [<- s.o];omega)] at this))
    go_wp2;go_ret;exact ⟨by rw [o.o];rfl,h.o⟩
theorem wk (l m:List ByteArray) (a b:Option Addr) (c d:Nat) (w:World) (W:qv w 0 w.heap.size a l) (X:qv w 0 w.heap.size b m) (Y:l.length<=4294967296) :
 Calls Tryz.prog 35 #[.slice a l.length c,.slice b m.length d] w fun e w'=>e=.returned (.bool (decide (l=m)))/\∃n,w'=w.drewN n:=by
 have J:=U W;have B:=U X;clear W X;by_cases hlm:l.length=m.length
 case neg =>
  have N:((l.length:Int) != (m.length:Int))=true:=by simp;omega
  have K:=O0 (decide (l=m)=false) (J5 fun e=>hlm (by rw [e]));clear hlm;go_enter Tryz.func35,Tryz.ntmps35;go_wp2;go_ret;exact ⟨qz K.o.symm,0,rfl⟩
 obtain ⟨n,A⟩:=O1 l.length;have j:=U A;have o:=U (show n=m.length by rw [A,hlm]);rw [<- hlm,<- A];have L:n<=4294967296:=by omega
 have N:((n:Int) != (n:Int))=false:=by simp
 clear hlm A Y;go_enter Tryz.func35,Tryz.ntmps35;go_wp2_with fail;go_loopw [5] (fun i wr=>∃k:Nat,k<=n/\i=.int .i64 k/\l.take k=m.take k/\∃z,wr=w.drewN z) (fun i _=>n - (intOf i).toNat)
 case atStart=>exact ⟨0,by omega,rfl,rfl,0,rfl⟩
 case round =>
  obtain ⟨k,P,rfl,v,z,rfl⟩:=hrel;have q:=U v;clear v;by_cases hlt:k<n
  . have s:k<l.length:=by rw [<- j.o];exact hlt
    have u:k<m.length:=by rw [<- o.o];exact hlt
    obtain ⟨p,f,E,_,Q,H⟩:=J.o.at k s;subst E;obtain ⟨V,g,E,_,M,I⟩:=B.o.at k u;subst E;have r:=O0 (l[k]=m[k]->l.take (k+1)=m.take (k+1)) (fun e=>by rw [J7 s,J7 u,q.o,e]);have h:=O0 (l[k]≠m[k]->decide (l=m)=false) (fun e=>J5 fun e2=>e (by subst e2;rfl));obtain ⟨x,F⟩:∃x:ByteArray,x=l[k]:=⟨_,rfl⟩;obtain ⟨y,G⟩:∃y:ByteArray,y=m[k]:=⟨_,rfl⟩;replace H:=H.trans (Y2 (fun z:ByteArray=>some (Value.string z)) F.symm);replace I:=I.trans (Y2 (fun z:ByteArray=>some (Value.string z)) G.symm);rw [<- F,<- G] at r h;clear F G;have R:(0:Int)<=(k:Int):=by omega
    have S:(k:Int)<(n:Int):=by omega
    have T:decide ((k:Int)<(n:Int))=true:=by simpa using hlt
    cases h1:(x.toList == y.toList)
    . have D:=U (h.o fun e=>by rw [e] at h1;simp at h1);go_wp2_with fail;go_quiet (fail);go_wp2;go_ret;exact ⟨qz D.o.symm,_,World.drewN_drewN ..⟩
    . have C:=U (r.o (by rw [ba_eq,J6] at h1;exact h1));go_wp2_with fail;go_quiet (fail);go_wp2;go_roundw
      case rel=>exact ⟨k+1,by omega,by go_num,C.o,_,rfl⟩
      case measure=>simp [intOf];omega
  . obtain rfl:k=n:=by omega
    have D:=U (show decide (l=m)=true by
     have:=q.o;rw [X2 (by rw [<- j.o];exact J9 _),X2 (by rw [<- o.o];exact J9 _)] at this;exact X0 this)
    go_wp2;go_ret;exact ⟨qz D.o.symm,z,rfl⟩
theorem eF (v:JV) (x:Value) (w:World) (lo:Nat) (f2:0<lo) (hN:v.wt<=4294967296) (hR:Rep w lo w.heap.size v x) (hT:Tabs w) :
 Calls Tryz.prog 61 #[x] w (lE v w):=by
 obtain ⟨J,L,Z,ci,hx,h1,h2,h3,h4⟩:=hR.parts;have HR:=U hR;have c7:=U f2;clear f2;have H3:=U h3;have H4:=U h4;obtain ⟨b1,b2,b3,b4⟩:=v.wt_bd;clear h1 h2 h3 h4 hR;subst hx;have HT:=U hT;clear hT;have u:=O0 (O5 w (w.alloc (.cells #[.int .u8 v.kind,.int .i64 v.n,.string v.t,.slice J v.names.length L,.slice Z v.items.length ci] 25))) O4;have F:=U (J2 w (.cells #[.int .u8 v.kind,.int .i64 v.n,.string v.t,.slice J v.names.length L,.slice Z v.items.length ci] 25));have Y:=U (vu v _ (w.alloc (.cells #[.int .u8 v.kind,.int .i64 v.n,.string v.t,.slice J v.names.length L,.slice Z v.items.length ci] 25)) hN (HR.o.below u.o lz (X7 _) (by simp)));cases hm:v.mayB
 . have X:=U (show jk v=([],3) by unfold jk;rw [J8 hm]);rw [hm] at Y;clear hm;go_enter Tryz.func61,Tryz.ntmps61;go_wp2_with fail;refine Y.o.mono ?_;rintro e s ⟨rfl,c⟩;have o:=U (u.o.trans (c.mono (by simp)));clear c;go_wp2;go_ret2;exact ⟨.slice none 0 0,by rw [X.o] <;> rfl,by rw [X.o];exact W8 _ _ _ _,o.o⟩
 rw [hm] at Y;have N:=U hm;clear hm;by_cases hk5:v.kind=5
 case neg =>
  have X:=U (show jk v=([],10) by unfold jk;rw [J3 (by simp [N.o]),J8 hk5]);have t1:(v.kind != 5)=true:=by simpa using hk5
  clear hk5;go_enter Tryz.func61,Tryz.ntmps61;go_wp2_with fail;refine Y.o.mono ?_;rintro e s ⟨rfl,c⟩;have g:s.heap[w.heap.size]?=some (.cells #[.int .u8 v.kind,.int .i64 v.n,.string v.t,.slice J v.names.length L,.slice Z v.items.length ci] 25 (0,0)):=by rw [c.block _ (by simp)];exact F.o
  have o:=U (u.o.trans (c.mono (by simp)));have c0:=qq g (j:=0) rfl;clear c g;go_wp2;go_ret2;exact ⟨.slice none 0 0,by rw [X.o] <;> rfl,by rw [X.o];exact W8 _ _ _ _,o.o⟩
 have t1:(v.kind != 5)=false:=by simpa using hk5
 obtain ⟨_,S,_⟩:=sQ N.o hk5;have a8:=U hk5;clear hk5;obtain ⟨j,H⟩:=O1 v.names.length;rw [<- S,<- H] at Y F u;rw [<- S,<- H];have P:=U H;have c9:=U (show v.items.length=j by rw [H,S]);clear H S;by_cases h32:j<=32
 case neg =>
  have X:=U (show jk v=([],5) by unfold jk;rw [J3 (by simp [N.o]),J3 (by simp [a8.o]),J8 (by rw [<- P.o];omega)]);have t2:decide (32<(j:Int))=true:=by simp;omega
  go_enter Tryz.func61,Tryz.ntmps61;go_wp2_with fail;refine Y.o.mono ?_;rintro e s ⟨rfl,c⟩;have g:s.heap[w.heap.size]?=some (.cells #[.int .u8 v.kind,.int .i64 v.n,.string v.t,.slice J j L,.slice Z j ci] 25 (0,0)):=by rw [c.block _ (by simp)];exact F.o
  have o:=U (u.o.trans (c.mono (by simp)));have c0:=qq g (j:=0) rfl;have c3:=qq g (j:=3) rfl;clear c g;go_wp2;go_ret2;exact ⟨.slice none 0 0,by rw [X.o] <;> rfl,by rw [X.o];exact W8 _ _ _ _,o.o⟩
 have t2:decide (32<(j:Int))=false:=by simp;omega
 have c6:=U (show jk v=ku v.names v.items [] by unfold jk;rw [J3 (by simp [N.o]),J3 (by simp [a8.o]),J3 (by rw [<- P.o];omega)]);obtain ⟨i3,d3,d6,d7,e5⟩:=K9 Qq;go_enter Tryz.func61,Tryz.ntmps61;go_wp2_with fail;refine Y.o.mono ?_;clear Y;rintro e s ⟨rfl,c⟩;have g:s.heap[w.heap.size]?=some (.cells #[.int .u8 v.kind,.int .i64 v.n,.string v.t,.slice J j L,.slice Z j ci] 25 (0,0)):=by rw [c.block _ (by simp)];exact F.o
 have d2:=U g;have o:=U (u.o.trans (c.mono (by simp)));have c1:w.heap.size<s.heap.size:=qx g;have c0:=qq g (j:=0) rfl;have c3:=qq g (j:=3) rfl;clear c g u F;go_wp2_with fail;clear c0 c3;go_loopw [4,5,6,7,8,9,23] (fun ks _ _ _ _ _ i wr=>∃(k:Nat) (a:List Key2),k<=j/\i=.int .i64 k/\a.length=k/\jk v=ku (v.names.drop k) (v.items.drop k) a/\wr.ownsRow s.heap.size 43 2 ks k (a.flatMap gE)/\O5 s wr) (fun ks _ _ _ _ _ i _=>j - (intOf i).toNat)
 case atStart=>exact ⟨0,[],by omega,rfl,rfl,c6.o,W8 _ _ _ _,J0 _ _⟩
 case round =>
  obtain ⟨k,a,hk,rfl,Q,b7,I,r⟩:=hrel;obtain ⟨am,cm,b9,_⟩:=uR I Q.symm;rw [Q] at b9;subst b9;have M:=U b7;have HO:=U I;have HB:=U r;have l:=U (O2 o r);have d5:s.heap.size<=wr.heap.size:=r.size;have V:wr.heap[w.heap.size]?=some (.cells #[.int .u8 v.kind,.int .i64 v.n,.string v.t,.slice J j L,.slice Z j ci] 25 (0,0)):=by rw [r.block _ c1];exact d2.o
  have e7:=U V;have c3:=qq V (j:=3) rfl;have c4:=qq V (j:=4) rfl;clear b7 I r V;by_cases hlt:k<j
  . have a4:k<v.names.length:=by rw [<- P.o];exact hlt
    have R:k<v.items.length:=by rw [c9.o];exact hlt
    have m:=U (ng v.names v.items k a a4 R);obtain ⟨p,f,ha,_,e8,y1⟩:=(H3.o.below l.o lz lz lz).at k a4;subst ha;obtain ⟨p',f',e0,e1,e2,e3,e4,ha,_,e6,g0,g1,g2,g3,g4,hr⟩:=(H4.o.below l.o lz lz lz).at k R;subst ha;have d4:=JV.wts_get v.items k R;have E:=U (keyOf v.items[k] _ wr lo w.heap.size (by omega) (by have:=l.o.size;omega) hr fun _ _ _ _=>.inl c7.o);unfold mt at E;have a9:=U (@aC v.items[k]);obtain ⟨K,hK⟩:=O1 (ze v.items[k]);obtain ⟨nk,a5⟩:=O1 (v.names[k]);rw [<- hK] at E a9;replace m:=U (m.o.trans (Y2 (fun z=>mg z v.names[k] (v.names.drop (k+1)) (v.items.drop (k+1)) a) hK.symm));replace m:=U (m.o.trans (Y2 (fun z=>mg K z (v.names.drop (k+1)) (v.items.drop (k+1)) a) a5.symm));replace y1:=y1.trans (Y2 (fun z=>some (Value.string z)) a5.symm);clear hK a5 hr d4 a4 R;obtain ⟨⟨d,A⟩,ke⟩:=K;have q0:(0:Int)<=(k:Int):=by omega
    have q1:(k:Int)<(j:Int):=by omega
    by_cases hke:ke=0
    case neg =>
     have t3:(ke != 0)=true:=by simpa using hke
     have h:=U (show jk v=([],ke) by rw [M.o,m.o];unfold mg;rw [J8 hke]);clear hke;go_wp2_with fail;refine E.o.mono ?_;rintro e W ⟨rfl,q⟩;have a2:=U ((O2 l q).alloc (by have:=l.o.size;have:=q.size;omega) (.cells #[.string d,.string A] 43));clear q;go_wp2;go_ret2;exact ⟨.slice none 0 0,by rw [h.o] <;> rfl,by rw [h.o];exact W8 _ _ _ _,a2.o⟩
    subst hke;obtain ⟨T,a0,a1⟩:=a9.o rfl;replace T:zd d.data.toList A.data.toList=true:=T;replace a0:d.size<=64:=a0;replace a1:A.size<=128:=a1;go_wp2_with fail;refine E.o.mono ?_;clear E;rintro e W ⟨rfl,q⟩;have e9:wr.heap.size<=W.heap.size:=q.size;obtain ⟨W2,G⟩:=O1 (W.alloc (.cells #[.string d,.string A] 43));have y:O5 wr W2:=by rw [G];exact q.alloc q.size _
    have a2:=U (HB.o.trans (y.mono d5));have C:=U (O2 l y);have d0:=U (qM HO.o y);have b6:=U (show W2.heap[W.heap.size]?=some (.cells #[.string d,.string A] 43 (0,0)) by rw [G];exact J2 W _);have D:=U (sC d A W2 (by omega) (by omega) (HT.o.below C.o));unfold xX at D;rw [T,J8 rfl] at D;obtain ⟨ID,a3⟩:∃ID:ByteArray,ID=⟨(jB d.data.toList A.data.toList).toArray⟩:=⟨_,rfl⟩;rw [<- a3] at D;replace m:=U (show ku (v.names.drop k) (v.items.drop k) a=if (ID.toList == nk.toList)=true then ku (v.names.drop (k+1)) (v.items.drop (k+1)) (a ++ [(d,A)]) else ([],3) by rw [m.o];unfold mg;rw [J3 (by simp)];rw [a3];rfl);have f1:W2.heap.size=W.heap.size+1:=by rw [G];simp
    have b5:=U G;clear a3 T q y G;go_wp2_with fail;rw [<- b5.o];refine D.o.mono ?_;clear D b5;rintro e w3 ⟨rfl,B⟩;have f0:W2.heap.size<=w3.heap.size:=B.size;have c2:=U (a2.o.trans (B.mono (by omega)));have a7:=U (C.o.trans (B.mono (C.o.size)));have b0:=U (qM d0.o B);have a6:w3.heap[W.heap.size]?=some (.cells #[.string d,.string A] 43 (0,0)):=by rw [B.block _ (qx b6.o)];exact b6.o
    have x0:=qq a6 (j:=0) rfl;have x1:=qq a6 (j:=1) rfl;clear B a6 g0 g1 g2 g3 g4 c3 c4 y1;cases hq:(ID.toList == nk.toList)
    . have t4:(ID.toList != nk.toList)=true:=by simpa [bne] using hq
      have h:=U (show jk v=([],3) by rw [M.o,m.o,hq];rfl);go_wp2_with fail
      skip
      go_ret2;exact ⟨.slice none 0 0,by rw [h.o] <;> rfl,by rw [h.o];exact W8 _ _ _ _,a7.o⟩
    . have t4:(ID.toList != nk.toList)=false:=by simpa [bne] using hq
      have h:=U (show jk v=ku (v.names.drop (k+1)) (v.items.drop (k+1)) (a ++ [(d,A)]) by rw [M.o,m.o,hq];rfl);go_wp2_with (at_builtin;refine V6 _ rfl (.tmp 51) (.tmp 53) 28 rfl s.heap.size 43 i3 _ 2 32 Tryz.underlying28 d3 d6 d7 e5 rfl (by decide) (.slice am k cm) k (a.flatMap gE) rfl (b0.o.alloc _) ⟨w3.heap.size,0,none⟩ 1 1 [.string d,.string A] rfl rfl (Y0 (cs:=#[.string d,.string A]) (t:=43) (fr:=(0,0)) (J2 w3 _)) (by simp [Value.oneCell']) (by omega) (by unfold maxLen;omega) (by omega) (by simp;omega) (w3.heap.size+1) (by simp) ?_;intro g1 cap2 w6 hown6 hgrow6 hat6 hlt6;have d1:=U hown6;have c5:=U hgrow6;clear hown6 hgrow6 hat6);go_roundw
      case rel => refine ⟨k+1,a ++ [(d,A)],by omega,by go_num,by simp [Q],h.o,?_,below_grown (c2.o.alloc (by omega) _) (by simp;omega) c5.o (fun b hb=>(b0.o.lt b hb).1)⟩;rw [List.flatMap_append];simpa [gE] using d1.o
      case measure=>simp [intOf];omega
  . obtain rfl:k=j:=by omega
    have h:=U (show jk v=(a,0) by
     rw [M.o,List.drop_of_length_le (by rw [<- P.o];exact J9 _),aD])
    go_wp2;go_ret2;exact ⟨_,by rw [h.o] <;> rfl,by rw [h.o];have:=kQ (base':=w.heap.size) HO.o (ze7 c1);show wr.ownsRow _ _ _ _ a.length _;rw [Q];exact this,l.o⟩
theorem uP {x:DelegV} (h:qi x=true):DelegFits x:=by obtain ⟨c,-,⟨d,a⟩,⟨e,b⟩⟩:=kD h;exact ⟨by omega,cP (xj h).2.2.1,⟨by omega,fun s hs=>by have:=a s hs;omega⟩,⟨by omega,fun s hs=>by have:=b s hs;omega⟩⟩
