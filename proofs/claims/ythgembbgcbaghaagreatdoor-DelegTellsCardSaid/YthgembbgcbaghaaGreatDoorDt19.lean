import Derived.Test.YthgembbgcbaghaaGreatDoorDt18
set_option maxHeartbeats 2000000
set_option maxRecDepth 100000

namespace Go.Proofs.YthgembbgcbaghaaGreatDoor
open Go.RowKit
theorem dq:∀ {ns:List ByteArray} {xs:List JV} {y:ByteArray} {x:JV},q7 ns xs y=some x->x.wt<=JV.wts xs
 | n :: ns,z :: xs,y,x,h=>by
  rw [q7] at h;simp only [JV.wts];split at h
  . injection h with h;subst h;omega
  . have:=dq h;omega
theorem fh {v:JV} {y:ByteArray} {most:Nat} {st:PS} (h:v.wt<=4294967296):(qX v y most st).1.wt<=4294967296:=by
 have a:zo.wt<=4294967296:=by decide
 have b:=v.wt_bd;unfold qX;split
 . exact a
 . split
   . exact a
   . rename_i it hit;have:=dq (show q7 v.names v.items y=some it from hit);split
     . exact a
     . split
       . exact a
       . show it.wt<=_;omega
theorem mM {α:Type} {l m:List α} {k:Nat} (h:k<l.length) (h':k<m.length) (e:l.take k=m.take k) (e2:l[k]=m[k]):l.take (k+1)=m.take (k+1):=by rw [Z6 h,Z6 h',e,e2]
theorem oG (N:Nat):∀(v u:JV) (x y:Value) (lo hi:Nat) (w:World),v.wt<=N->u.wt<=4294967296->N<=4294967296->hi<=w.heap.size->Rep w lo hi v x->Rep w lo hi u y ->
 Calls Tryz.prog 39 #[x,y] w fun e w'=>e=.returned (.bool (v.sameB u))/\Below w.heap.size w w':=by
 induction N with
 | zero=>intro v u x y lo hi w h;have:=v.wt_pos;omega
 | succ N ih =>
  intro v u x y lo hi w hN hU hM hhi hR hS;have IH:=U ih;clear ih;obtain ⟨B,D,A,C,rfl,_,_,h3,h4⟩:=hR.parts;obtain ⟨j,m,g,l,rfl,_,_,a1,a2⟩:=hS.parts;have a:=U (v.sameB_eq u);obtain ⟨b1,b2,b3,b4⟩:=v.wt_bd;obtain ⟨d1,d2,d3,d4⟩:=u.wt_bd;have H3:=U h3;have H4:=U h4;have a8:=U a1;have a9:=U a2;clear h3 h4 a1 a2 hR hS;have q:=O0 (Below w.heap.size w ((w.alloc (.cells #[.int .u8 v.kind,.int .i64 v.n,.string v.t,.slice B v.names.length D,.slice A v.items.length C] 25)).alloc (.cells #[.int .u8 u.kind,.int .i64 u.n,.string u.t,.slice j u.names.length m,.slice g u.items.length l] 25))) (((Z0 _ _).alloc lz _).alloc (by simp) _);by_cases K:v.kind=u.kind
  case neg =>
   have t1:(v.kind == u.kind)=false:=by simpa using K
   have t2:(v.kind != u.kind)=true:=by simpa using K
   rw [Z7 K] at a;clear K;go_enter Tryz.func39,Tryz.ntmps39;go_wp2;go_ret;exact ⟨by rw [a.o];rfl,q.o⟩
  have t1:(v.kind != u.kind)=false:=by simpa using K
  have HK:=U K;rw [J2 K] at a;clear K;by_cases hn:v.n=u.n
  case neg =>
   have t3:(v.n != u.n)=true:=by simpa using hn
   rw [Z7 hn] at a;clear hn;go_enter Tryz.func39,Tryz.ntmps39;go_wp2;go_ret;exact ⟨by rw [a.o];rfl,q.o⟩
  have t2:(v.n != u.n)=false:=by simpa using hn
  rw [J2 hn] at a;clear hn;by_cases ht:v.t=u.t
  case neg => have t3:(v.t.toList == u.t.toList)=false:=Y8.2 (fun e=>ht (pk e));have t4:(v.t.toList != u.t.toList)=true:=bne_iff_ne.2 (fun e=>ht (pk e));rw [Z7 ht] at a;clear ht;go_enter Tryz.func39,Tryz.ntmps39;go_wp2;go_ret;exact ⟨by rw [a.o];rfl,q.o⟩
  have t3:(v.t.toList == u.t.toList)=true:=by rw [ht];simp
  have t4:(v.t.toList != u.t.toList)=false:=by rw [ht];simp
  rw [J2 ht] at a;clear ht;by_cases hm:v.names.length=u.names.length
  case neg =>
   have t5:((v.names.length:Int) != (u.names.length:Int))=true:=by rw [bne_iff_ne];omega
   have t6:(v.names.length != u.names.length)=true:=by rw [bne_iff_ne];omega
   rw [Z7 (fun e:v.names=u.names=>hm (by rw [e]))] at a;clear hm;go_enter Tryz.func39,Tryz.ntmps39;go_wp2;go_ret;exact ⟨by rw [a.o];rfl,q.o⟩
  by_cases hl:v.items.length=u.items.length
  case neg =>
   have t5:((v.items.length:Int) != (u.items.length:Int))=true:=by rw [bne_iff_ne];omega
   have t6:(v.items.length != u.items.length)=true:=by rw [bne_iff_ne];omega
   have t7:((v.names.length:Int) != (u.names.length:Int))=false:=by rw [bne_eq_false_iff_eq];omega
   have t8:(v.names.length != u.names.length)=false:=by rw [bne_eq_false_iff_eq];omega
   rw [Z7 hl] at a;clear hl hm;go_enter Tryz.func39,Tryz.ntmps39;go_wp2;go_ret;exact ⟨by rw [a.o];simp,q.o⟩
  rw [J2 hl] at a;simp only [X4] at a;rw [<- hl,<- hm];obtain ⟨b,G⟩:=O1 v.items.length;obtain ⟨c,H⟩:=O1 v.names.length;rw [<- G,<- H];rw [<- G] at b3;rw [<- H] at b2;have R:=U G;have V:=U (show u.items.length=b by rw [G,hl]);have T:=U H;have S:=U (show u.names.length=c by rw [H,hm]);clear hl G hm H q;have a6:((w.alloc (.cells #[.int .u8 v.kind,.int .i64 v.n,.string v.t,.slice B c D,.slice A b C] 25)).alloc (.cells #[.int .u8 u.kind,.int .i64 u.n,.string u.t,.slice j c m,.slice g b l] 25)).heap[w.heap.size]?=some (.cells #[.int .u8 v.kind,.int .i64 v.n,.string v.t,.slice B c D,.slice A b C] 25 (0,0)):=(X5 _ _ _ (by simp)).trans (Z4 w _);have a7:((w.alloc (.cells #[.int .u8 v.kind,.int .i64 v.n,.string v.t,.slice B c D,.slice A b C] 25)).alloc (.cells #[.int .u8 u.kind,.int .i64 u.n,.string u.t,.slice j c m,.slice g b l] 25)).heap[w.heap.size+1]?=some (.cells #[.int .u8 u.kind,.int .i64 u.n,.string u.t,.slice j c m,.slice g b l] 25 (0,0)):=(by have:=Z4 (w.alloc (.cells #[.int .u8 v.kind,.int .i64 v.n,.string v.t,.slice B c D,.slice A b C] 25)) (.cells #[.int .u8 u.kind,.int .i64 u.n,.string u.t,.slice j c m,.slice g b l] 25);rwa [show (w.alloc (.cells #[.int .u8 v.kind,.int .i64 v.n,.string v.t,.slice B c D,.slice A b C] 25)).heap.size=w.heap.size+1 by simp] at this);have q:=O0 (Below w.heap.size w ((w.alloc (.cells #[.int .u8 v.kind,.int .i64 v.n,.string v.t,.slice B c D,.slice A b C] 25)).alloc (.cells #[.int .u8 u.kind,.int .i64 u.n,.string u.t,.slice j c m,.slice g b l] 25))) (((Z0 _ _).alloc lz _).alloc (by simp) _);have b7:=U a6;have b9:=U a7;clear a6 a7
  -- what each later world gives
  have HW:=U (show ∀w':World,Below (w.heap.size+2) ((w.alloc (.cells #[.int .u8 v.kind,.int .i64 v.n,.string v.t,.slice B c D,.slice A b C] 25)).alloc (.cells #[.int .u8 u.kind,.int .i64 u.n,.string u.t,.slice j c m,.slice g b l] 25)) w' ->
   Below w.heap.size w w'/\w.heap.size+2<=w'.heap.size/\w'.cell? ⟨w.heap.size,3,none⟩=some (.slice B c D)/\w'.cell? ⟨w.heap.size,4,none⟩=some (.slice A b C)/\w'.cell? ⟨w.heap.size+1,3,none⟩=some (.slice j c m)/\w'.cell? ⟨w.heap.size+1,4,none⟩=some (.slice g b l) from fun w' h=>by
   have hx:w'.heap[w.heap.size]?=_:=(h.block _ (by omega)).trans b7.o;have hy:w'.heap[w.heap.size+1]?=_:=(h.block _ (by omega)).trans b9.o;exact ⟨q.o.trans (h.mono (by omega)),by have:=h.size;simpa using this,qq hx rfl,qq hx rfl,qq hy rfl,qq hy rfl⟩)
  go_enter Tryz.func39,Tryz.ntmps39;go_wp2;clear t1 t2 t3 t4;go_loopw [5] (fun i wr=>∃k:Nat,k<=c/\i=.int .i64 k/\v.names.take k=u.names.take k/\Below (w.heap.size+2) ((w.alloc (.cells #[.int .u8 v.kind,.int .i64 v.n,.string v.t,.slice B c D,.slice A b C] 25)).alloc (.cells #[.int .u8 u.kind,.int .i64 u.n,.string u.t,.slice j c m,.slice g b l] 25)) wr) (fun i _=>c - (intOf i).toNat)
  case atStart=>exact ⟨0,by omega,rfl,by simp,Z0 _ _⟩
  case round =>
   obtain ⟨k,K,rfl,r,d⟩:=hrel;obtain ⟨F,hz,c3,c4,M,J⟩:=HW.o wr d;have P:=U r;have Q:=U d;have o:=U F;clear r d F;by_cases hlt:k<c
   . have a3:k<v.names.length:=by rw [<- T.o];exact hlt
     have a4:k<u.names.length:=by rw [S.o];exact hlt
     obtain ⟨p,f,rfl,_,_,y1⟩:=(H3.o.below o.o hhi lz lz).at k a3;obtain ⟨p',f',rfl,_,_,y2⟩:=(a8.o.below o.o hhi lz lz).at k a4;have g1:0<=(k:Int):=by omega
     have g2:(k:Int)<(c:Int):=by omega
     by_cases he:v.names[k]=u.names[k]
     . have I:=U (mM a3 a4 P.o he);have t1:(v.names[k].toList == u.names[k].toList)=true:=by rw [he];simp
       have t2:(v.names[k].toList != u.names[k].toList)=false:=by rw [he];simp
       clear he;generalize v.names[k]=na at *;generalize u.names[k]=nb at *;go_wp2_with fail;go_quiet (fail)
       go_wp2;go_roundw
       case rel=>exact ⟨k+1,by omega,by go_num,I.o,Below.drewN Q.o _⟩
       case measure=>simp [intOf];omega
     . have I:=O0 (decide (v.names=u.names)=false) (Z7 (fun e=>he (by simp only [e])));have t1:(v.names[k].toList == u.names[k].toList)=false:=Y8.2 (fun e=>he (pk e));have t2:(v.names[k].toList != u.names[k].toList)=true:=bne_iff_ne.2 (fun e=>he (pk e));clear he;generalize v.names[k]=na at *;generalize u.names[k]=nb at *;go_wp2_with fail;go_quiet (fail)
       go_wp2;go_ret;exact ⟨by rw [a.o,I.o];rfl,Below.drewN o.o _⟩
   . have b0:=U (show v.names=u.names by
      have:=P.o;rwa [Z8 (by rw [<- T.o];omega),Z8 (by rw [S.o];omega)] at this)
     rw [J2 b0.o,X4] at a;obtain ⟨k1,rfl⟩:∃k1:Nat,k1=k:=⟨_,rfl⟩;obtain ⟨wa,rfl⟩:∃wa:World,wa=wr:=⟨_,rfl⟩;go_wp2;clear c3 c4 M J;go_loopw [6] (fun i wr=>∃k:Nat,k<=b/\i=.int .i64 k/\JV.sameL (v.items.take k) (u.items.take k)=true/\Below (w.heap.size+2) ((w.alloc (.cells #[.int .u8 v.kind,.int .i64 v.n,.string v.t,.slice B c D,.slice A b C] 25)).alloc (.cells #[.int .u8 u.kind,.int .i64 u.n,.string u.t,.slice j c m,.slice g b l] 25)) wr) (fun i _=>b - (intOf i).toNat)
     case atStart=>exact ⟨0,by omega,rfl,by simp [JV.sameL],Q.o⟩
     case round =>
      clear P Q o hz;obtain ⟨k,c7,rfl,r,d⟩:=hrel;obtain ⟨F,hz,c3,c4,M,J⟩:=HW.o wr d;have P:=U r;have Q:=U d;have o:=U F;clear r d F c3 M;by_cases hlt2:k<b
      . have z:k<v.items.length:=by rw [<- R.o];exact hlt2
        have s:k<u.items.length:=by rw [V.o];exact hlt2
        obtain ⟨p,f,e0,e1,e2,e3,e4,rfl,_,_,g0,g1,g2,g3,g4,hr⟩:=(H4.o.below o.o hhi lz lz).at k z;obtain ⟨p',f',c0,c1,c2,c5,c6,rfl,_,_,W,X,Y,Z,a0,a5⟩:=(a9.o.below o.o hhi lz lz).at k s;have c9:=JV.wts_get v.items k z;have d0:=JV.wts_get u.items k s;have b6:=U (JV.sameL_take v.items u.items k z s);have b5:=U (JV.sameL_bad v.items u.items k z s);have HC:=U (IH.o v.items[k] u.items[k] _ _ lo hi wr.drew (by omega) (by omega) (by omega) (by show hi<=wr.heap.size;omega) (Rep.carry (w:=wr) (w':=wr.drew) lz lz (fun _ _ _=>rfl) _ _ hr) (Rep.carry (w:=wr) (w':=wr.drew) lz lz (fun _ _ _=>rfl) _ _ a5));clear hr a5;generalize v.items[k]=it at *;generalize u.items[k]=jt at *;have m1:0<=(k:Int):=by omega
        have m2:(k:Int)<(b:Int):=by omega
        cases hsb:it.sameB jt
        . have I:=U (b5.o hsb);rw [hsb] at HC;clear hsb;go_wp2_with fail;go_still_tail 10,(by kernel_rfl)
          go_wp2_with fail
          refine HC.o.mono ?_;rintro e w5 ⟨rfl,E⟩;have L:=U (o.o.drew.trans (E.mono (by show w.heap.size<=wr.heap.size;omega)));clear E g0 g1 g2 g3 g4 W X Y Z a0 c4 J;go_wp2;go_ret;exact ⟨by rw [a.o,I.o];rfl,L.o⟩
        . have I:=U (show JV.sameL (v.items.take (k+1)) (u.items.take (k+1))=true by rw [b6.o,P.o,hsb];rfl);rw [hsb] at HC;clear hsb;go_wp2_with fail;go_still_tail 10,(by kernel_rfl)
          go_wp2_with fail
          refine HC.o.mono ?_;rintro e w5 ⟨rfl,E⟩;have L:=U (Q.o.drew.trans (E.mono (by show w.heap.size+2<=wr.heap.size;omega)));clear E g0 g1 g2 g3 g4 W X Y Z a0 c4 J;go_wp2;go_roundw
          case rel=>exact ⟨k+1,by omega,by go_num,I.o,L.o⟩
          case measure=>simp [intOf];omega
      . have I:=U (show JV.sameL v.items u.items=true by
         have:=P.o;rwa [Z8 (by rw [<- R.o];omega),Z8 (by rw [V.o];omega)] at this)
        go_wp2;go_ret;exact ⟨by rw [a.o,I.o];rfl,o.o⟩
theorem fu (n:Int) (w:World):Calls Tryz.prog 163 #[.int .i64 n] w fun e w'=>e=.returned (.agg #[.int .u8 2,.int .i64 n,.string ⟨#[]⟩,.slice none 0 0,.slice none 0 0])/\w'=w.alloc (.cells #[.int .u8 2,.int .i64 n,.string ⟨#[]⟩,.slice none 0 0,.slice none 0 0] 25):=by go_enter Tryz.func163,Tryz.ntmps163;go_wp2;exact J3 (X6 Tryz.results163 _ _ w.heap.size 25 _ (0,0) _ rfl (Z4 w _) J5 rfl (by kernel_rfl)) rfl ⟨rfl,rfl⟩
theorem bK (t:ByteArray) (w:World):Calls Tryz.prog 164 #[.string t] w fun e w'=>e=.returned (.agg #[.int .u8 3,.int .i64 0,.string t,.slice none 0 0,.slice none 0 0])/\w'=w.alloc (.cells #[.int .u8 3,.int .i64 0,.string t,.slice none 0 0,.slice none 0 0] 25):=by go_enter Tryz.func164,Tryz.ntmps164;go_wp2;exact J3 (X6 Tryz.results164 _ _ w.heap.size 25 _ (0,0) _ rfl (Z4 w _) J5 rfl (by kernel_rfl)) rfl ⟨rfl,rfl⟩
theorem pp (ns:List ByteArray) (an:Option Addr) (cn:Nat) (w:World) (h:qv w 0 w.heap.size an ns) (hn:ns.length<=4294967296) :
 Calls Tryz.prog 177 #[.slice an ns.length cn] w fun e w'=>e=.returned (.bool (qe ns))/\Below w.heap.size w w':=by
 have q:=U h;clear h;go_enter Tryz.func177,Tryz.ntmps177;go_wp2;go_loopw [3] (fun i wr=>∃k:Nat,1<=k/\(k<=ns.length\/k=1)/\i=.int .i64 k/\qe (ns.take k)=true/\Below w.heap.size w wr) (fun i _=>ns.length - (intOf i).toNat)
 case atStart=>exact ⟨1,by omega,.inr rfl,rfl,by cases ns <;> rfl,Z0 _ _⟩
 case round =>
  obtain ⟨k,d,E,rfl,j,a⟩:=hrel;by_cases hlt:k<ns.length
  . obtain ⟨b,p,rfl,_,G,D⟩:=(q.o.below a lz lz a.size).at k hlt;obtain ⟨B,f,c,_,_,C⟩:=(q.o.below a lz lz a.size).at (k - 1) (by omega);obtain ⟨rfl,rfl⟩:b=B/\p=f:=by simpa using c
    have g:=U a;have A:=U j;have l:=U (jh ns k d hlt);have o:=U (wM ns k d hlt);clear a j c;obtain ⟨x,u⟩:=O1 (ns[k-1]);obtain ⟨y,v⟩:=O1 (ns[k]);rw [<- u] at C l o;rw [<- v] at D l o;clear u v;have H:IntKind.i64.wrap ((k:Int) - 1)=(k:Int) - 1:=Y2 _ (by omega);have I:0<=(k:Int) - 1:=by omega
    have J:1<=(k:Int):=by omega
    have K:(k:Int) - 1<(ns.length:Int):=by omega
    have L:(k:Int)<(ns.length:Int):=by omega
    have M:((k:Int) - 1).toNat=k - 1:=by omega
    cases hlss:Op.bytesLess x.toList y.toList
    . have m:=U (o.o hlss);have F:(Op.bytesLess y.toList x.toList || y.toList == x.toList)=true:=by
       cases h:Op.bytesLess y.toList x.toList
       . rw [wm _ _ hlss h];simp
       . rfl
      clear hlss;go_wp2_with fail;go_quiet (fail)
      go_wp2;go_ret;exact ⟨by rw [m.o];rfl,Below.drewN g.o _⟩
    . have z:=U hlss;have r:Op.bytesLess y.toList x.toList=false:=by
       cases h:Op.bytesLess y.toList x.toList
       . rfl
       . have:=jH _ _ _ hlss h;rw [zQ] at this;cases this
      have s:(y.toList == x.toList)=false:=(by rw [Y8];intro h;rw [h,zQ] at hlss;cases hlss);clear hlss;go_wp2_with fail;go_quiet (fail)
      go_wp2;go_roundw
      case rel=>exact ⟨k+1,by omega,by omega,by go_num,by rw [l.o,A.o,z.o];rfl,Below.drewN g.o _⟩
      case measure=>simp [intOf];omega
  . have g:=U a;have m:=U (show qe ns=true by
     have:ns.take k=ns:=Z8 (by omega);rwa [this] at j)
    clear j a;go_wp2;go_ret;exact ⟨by rw [m.o];rfl,g.o⟩
theorem tP (N:Nat):∀(v:JV) (x:Value) (w:World),v.wt<=N->N<=4294967296->Rep w 0 w.heap.size v x ->
 Calls Tryz.prog 108 #[x] w fun e w'=>e=.returned (.int .i64 v.depth)/\Below w.heap.size w w':=by
 induction N with
 | zero=>intro v x w h;have:=v.wt_pos;omega
 | succ N ih =>
  intro v x w hN hM hR;obtain ⟨R,cn,H,I,rfl,h1,h2,K,y⟩:=hR.parts;obtain ⟨S,T,V,W⟩:=v.wt_bd;have G:=U ih;clear ih;have C:=U y;clear y hR K;have l:=U v.depth_eq;by_cases c:v.kind≠4/\v.kind≠5
  . rw [J1 c] at l;have J:(v.kind == 4)=false:=by simpa using c.1
    have e5:(v.kind == 5)=false:=by simpa using c.2
    have e6:(v.kind != 4)=true:=by simpa using c.1
    have e7:(v.kind != 5)=true:=by simpa using c.2
    clear c;go_enter Tryz.func108,Tryz.ntmps108;go_wp2;go_ret;exact ⟨by rw [l.o] <;> rfl,(Z0 _ _).alloc lz _⟩
  . rw [Z5 c] at l;have g:v.kind=4\/v.kind=5:=by omega
    obtain ⟨A,j⟩:=O1 v.kind;rw [<- j] at g ⊢;clear c j;have hD:=JV.depths_le v.items;rcases g with rfl|rfl
    all_goals
     go_enter Tryz.func108,Tryz.ntmps108;go_wp2;go_loopw [3,4] (fun s i wr=>∃k:Nat,k<=v.items.length/\i=.int .i64 k/\s=.int .i64 (JV.depths (v.items.take k):Nat)/\Below w.heap.size w wr/\wr.cell? ⟨w.heap.size,4,none⟩=some (.slice H v.items.length I)/\w.heap.size<wr.heap.size) (fun _ i _=>v.items.length - (intOf i).toNat)
     case atStart=>exact ⟨0,J8 _,rfl,by simp [JV.depths],(Z0 _ _).alloc lz _,by go_simp,by simp⟩
     case round =>
      obtain ⟨k,c,rfl,rfl,f,q,z⟩:=hrel;by_cases hlt:k<v.items.length
      . obtain ⟨b,Q,X,Y,Z,c3,c4,rfl,_,hb,e0,e1,e2,e3,J,d⟩:=(C.o.below f lz lz f.size).at k hlt;have L:=JV.wts_get v.items k hlt;have M:=JV.depth_le v.items[k];have r:=JV.depths_le (v.items.take k);have P:=JV.wts_take v.items k;have F:=U (JV.depths_take v.items k hlt);have m:=U f;clear f;have E:=U d;clear d;go_wp2_with fail;refine (G.o v.items[k] _ _ (by omega) (by omega) E.o).mono ?_;rintro e B ⟨rfl,a⟩;have p:=O0 (B.cell? ⟨w.heap.size,4,none⟩=_) ((a.cell z).trans q);have u:w.heap.size<B.heap.size:=X9 z a.size;have o:=U a;clear a;generalize JV.depth v.items[k]=dk at *;generalize JV.depths (v.items.take k)=ds at *;go_wp2;go_roundw
        case rel=>exact ⟨k+1,by omega,by go_num,by rw [F.o] <;> (congr 1;omega),m.o.trans (o.o.mono m.o.size),p.o,u⟩
        case measure=>simp [intOf];omega
      . obtain rfl:k=v.items.length:=by omega
        have m:=U f;clear f;have D:=U (show v.depth=JV.depths (v.items.take v.items.length)+1 by rw [l.o,M5]);have r:JV.depths (v.items.take v.items.length)<=4294967296:=by rw [M5];omega
        generalize JV.depths (v.items.take v.items.length)=ds at *;go_wp2;go_ret;exact ⟨xo (by rw [D.o];push_cast;rfl),m.o⟩
theorem oB (
 N:Nat):∀(v:JV) (x:Value) (w:World),v.wt<=N->N<=4294967296->Rep w 0 w.heap.size v x ->
 Calls Tryz.prog 106 #[x] w fun e w'=>e=.returned (.bool v.partB)/\Below w.heap.size w w':=by
 induction N with
 | zero=>intro v x w h;have:=v.wt_pos;omega
 | succ N ih =>
  intro v x w hN hM hR;obtain ⟨F,I,X,Y,rfl,h1,h2,h3,h4⟩:=hR.parts;obtain ⟨b1,b2,b3,b4⟩:=v.wt_bd;have b5:=v.wt_eq;have IH:=U ih;have H3:=U h3;have H4:=U h4;have HP:=U v.partB_eq;have H:=U v.part_leaf;have b7:qo v.names<=4294967296:=by omega
  clear ih h3 h4 hR h1 h2 b5;obtain ⟨k,hk⟩:=O1 v.kind;obtain ⟨n,hn⟩:=O1 v.n;obtain ⟨t,ht⟩:=O1 v.t;obtain ⟨g,Z⟩:=O1 v.names;obtain ⟨z,a0⟩:=O1 v.items;obtain ⟨E,a7⟩:=O1 v.partB;rw [<- hk,<- hn,<- ht,<- Z,<- a0,<- a7] at HP H;rw [<- Z] at H3 b2 b7;rw [<- a0] at H4 b3 b4;rw [<- ht] at b1;rw [<- hk,<- hn,<- ht,<- Z,<- a0,<- a7];have c6:JV.wts z<=N:=by omega
  have c7:v.wt<=4294967296:=by omega
  clear hk hn ht Z a0 a7 hN;obtain ⟨p,a6⟩:=O1 g.length;obtain ⟨D,a4⟩:=O1 z.length;rw [<- a6] at b2 ⊢;rw [<- a4] at b3 HP H ⊢;have d:=U a6;have W:=U a4;clear a6 a4;by_cases hk1:k=1
  . subst hk1;have A:=U (show E=decide (t.toList=[]/\p=0/\D=0/\(n=0\/n=1)) by rw [H.o (by decide) (by decide),d.o];rfl);go_enter M7,M0;go_wp2
    all_goals go_ret
    all_goals refine ⟨qz ?_,(Z0 _ _).alloc lz _⟩
    all_goals rw [A.o]
    all_goals (first|(simp_all;done)|(rw [za0];simp_all;done)|(simp_all;omega))
  by_cases hk2:k=2
  . subst hk2;have A:=U (show E=decide (t.toList=[]/\p=0/\D=0) by rw [H.o (by decide) (by decide),d.o];rfl);clear hk1;go_enter M7,M0;go_wp2
    all_goals go_ret
    all_goals refine ⟨qz ?_,(Z0 _ _).alloc lz _⟩
    all_goals rw [A.o]
    all_goals (first|(simp_all;done)|(rw [za0];simp_all;done)|(simp_all;omega))
  by_cases hk3:k=3
  . subst hk3;have A:=U (show E=(decide (n=0/\p=0/\D=0) && qQ t) by rw [H.o (by decide) (by decide),d.o];rfl);clear hk1 hk2;by_cases hn:n=0
    . subst hn;cases htx:qQ t
      . rw [htx,N3] at A;have T:=U (fun w=>mG t w (by omega));rw [htx] at T;clear htx;go_enter M7,M0;go_wp2_with (go_at_call 176;refine (T.o _).mono ?_;rintro e w1 ⟨rfl,c⟩;have m:=U c;clear c);go_ret;exact ⟨by rw [A.o] <;> rfl,((Z0 _ _).alloc lz _).trans (m.o.mono (by simp))⟩
      . rw [htx,Bool.and_true] at A;have T:=U (fun w=>mG t w (by omega));rw [htx] at T;clear htx;go_enter M7,M0;go_wp2_with fail;refine (T.o _).mono ?_;rintro e w1 ⟨rfl,c⟩;have c3:w1.cell? ⟨w.heap.size,3,none⟩=some (.slice F p I):=by rw [c.cell (by simp)];go_simp
        have c4:w1.cell? ⟨w.heap.size,4,none⟩=some (.slice X D Y):=by rw [c.cell (by simp)];go_simp
        have m:=U (((Z0 _ _).alloc lz _).trans (c.mono (by simp)));clear c;go_wp2
        all_goals go_ret
        all_goals refine ⟨qz ?_,m.o⟩
        all_goals rw [A.o]
        all_goals (first|(simp_all;done)|(rw [za0];simp_all;done)|(simp_all;omega))
    . have u:=U (show E=false by rw [A.o,Z7 (fun h=>hn h.1)];rfl);go_enter M7,M0;go_wp2;go_ret;exact ⟨by rw [u.o] <;> rfl,(Z0 _ _).alloc lz _⟩
  by_cases hk45:k=4\/k=5
  . clear hk1 hk2 hk3 H;by_cases hg:n=0/\t.toList=[]/\(k=4->p=0)/\(k=5->p=D)
    . obtain ⟨rfl,te,g4,g5⟩:=hg;have A:=U (show E=(qe g && g.all qQ && JV.partsB z) by
       rw [HP.o];rcases hk45 with rfl|rfl
       . have hz:g=[]:=X3 (by rw [<- d.o];exact g4 rfl);subst hz;simp [qV,te,qe]
       . have hz:g.length=D:=by rw [<- d.o];exact g5 rfl
         simp [qV,te,hz])
      clear HP;rcases hk45 with rfl|rfl
      . have h0:p=0:=g4 rfl;subst h0;clear g4 g5;cases hr:qe g
        . have u:=U (show E=false by rw [A.o,hr];rfl);have o:=U (fun w (h:qv w 0 w.heap.size F g)=>pp g F I w h (by rw [<- d.o];omega));rw [hr,<- d.o] at o;clear hr;go_enter M7,M0;go_wp2_with fail;refine (o.o _ (H3.o.below ((Z0 _ _).alloc lz _) lz lz (by simp))).mono ?_;rintro e w1 ⟨rfl,c⟩;have m:=U (((Z0 _ _).alloc lz _).trans (c.mono (by simp)));clear c;go_wp2;go_ret;exact ⟨by rw [u.o] <;> rfl,m.o⟩
        . rw [hr,X4] at A;have o:=U (fun w (h:qv w 0 w.heap.size F g)=>pp g F I w h (by rw [<- d.o];omega));rw [hr,<- d.o] at o;clear hr;go_enter M7,M0;go_wp2_with fail;refine (o.o _ (H3.o.below ((Z0 _ _).alloc lz _) lz lz (by simp))).mono ?_;rintro e w1 ⟨rfl,c⟩;have M:=U (show w1.heap[w.heap.size]?=some (.cells #[.int .u8 4,.int .i64 0,.string t,.slice F 0 I,.slice X D Y] 25 (0,0)) by rw [c.block _ (by simp)];exact Z4 w _);have m:=U (((Z0 _ _).alloc lz _).trans (c.mono (by simp)));clear c o;go_wp2_with fail;go_loopw [3] (fun i wr=>∃j:Nat,j<=0/\i=.int .i64 j/\(g.take j).all qQ=true/\Below w.heap.size w wr/\wr.heap[w.heap.size]?=some (.cells #[.int .u8 4,.int .i64 0,.string t,.slice F 0 I,.slice X D Y] 25 (0,0))) (fun i _=>0 - (intOf i).toNat)
          case atStart=>exact ⟨0,by omega,rfl,by simp,m.o,M.o⟩
          case round =>
           clear m M;obtain ⟨j,hj,rfl,Q,f,C⟩:=hrel;have c3:wr.cell? ⟨w.heap.size,3,none⟩=some (.slice F 0 I):=qq C rfl;have V:=U C;have r:=U Q;have l:=U f;have hz:w.heap.size<wr.heap.size:=qx C;clear Q f C;by_cases hlt:j<0
           . exact absurd hlt (by omega)
           . have L:=U (show E=JV.partsB z by
              have:g.all qQ=true:=(by have h:=r.o;rwa [Z8 (by rw [<- d.o];omega)] at h);rw [A.o,this];rfl)
             clear r A;obtain ⟨wo,rfl⟩:∃wo:World,wo=wr:=⟨_,rfl⟩;go_wp2_with fail;go_loopw [4] (fun i wr=>∃q:Nat,q<=D/\i=.int .i64 q/\JV.partsB (z.take q)=true/\Below w.heap.size w wr/\wr.heap[w.heap.size]?=some (.cells #[.int .u8 4,.int .i64 0,.string t,.slice F 0 I,.slice X D Y] 25 (0,0))) (fun i _=>D - (intOf i).toNat)
             case atStart=>exact ⟨0,by omega,rfl,rfl,l.o,V.o⟩
             case round =>
              clear l V c3;obtain ⟨q,hq,rfl,Q,f,C⟩:=hrel;have c4:wr.cell? ⟨w.heap.size,4,none⟩=some (.slice X D Y):=qq C rfl;have V:=U C;have r:=U Q;have l:=U f;have a9:w.heap.size<wr.heap.size:=qx C;clear Q f C;by_cases hql:q<D
              . have B:q<z.length:=by rw [<- W.o];exact hql
                obtain ⟨b,b6,c0,c1,c2,c3,c5,R,_,b0,e0,e1,e2,e3,e4,G⟩:=(H4.o.below l.o lz lz l.o.size).at q B;subst R;have a8:=JV.wts_get z q B;have J:=U (JV.partsB_take z q B);have HN:=U (JV.partsB_bad z q B);have K:=U (IH.o z[q] _ wr (by omega) (by omega) G);clear G;generalize z[q]=it at J HN K a8;cases hy:it.partB
                . have u:=U (show E=false by rw [L.o,HN.o hy]);rw [hy] at K;clear hy;go_wp2_with fail;refine K.o.mono ?_;rintro e w2 ⟨rfl,a⟩;have s:=U (O2 l a);clear a;go_wp2;go_ret;exact ⟨by rw [u.o] <;> rfl,s.o⟩
                . rw [hy] at K J;clear hy;go_wp2_with fail;refine K.o.mono ?_;rintro e w2 ⟨rfl,a⟩;have s:=U (O2 l a);have P:=O0 (w2.heap[w.heap.size]?=_) ((a.block _ a9).trans V.o);clear a;go_wp2;go_roundw
                  case rel=>exact ⟨q+1,by omega,by go_num,by rw [J.o,r.o];rfl,s.o,P.o⟩
                  case measure=>simp [intOf];omega
              . have u:=U (show E=true by
                 have h:=r.o;rw [Z8 (by rw [<- W.o];omega)] at h;rw [L.o,h])
                go_wp2;go_ret;exact ⟨by rw [u.o] <;> rfl,l.o⟩
      . have h0:p=D:=g5 rfl;subst h0;clear g4 g5;cases hr:qe g
        . have u:=U (show E=false by rw [A.o,hr];rfl);have o:=U (fun w (h:qv w 0 w.heap.size F g)=>pp g F I w h (by rw [<- d.o];omega));rw [hr,<- d.o] at o;clear hr;go_enter M7,M0;go_wp2_with fail;refine (o.o _ (H3.o.below ((Z0 _ _).alloc lz _) lz lz (by simp))).mono ?_;rintro e w1 ⟨rfl,c⟩;have m:=U (((Z0 _ _).alloc lz _).trans (c.mono (by simp)));clear c;go_wp2;go_ret;exact ⟨by rw [u.o] <;> rfl,m.o⟩
        . rw [hr,X4] at A;have o:=U (fun w (h:qv w 0 w.heap.size F g)=>pp g F I w h (by rw [<- d.o];omega));rw [hr,<- d.o] at o;clear hr;go_enter M7,M0;go_wp2_with fail;refine (o.o _ (H3.o.below ((Z0 _ _).alloc lz _) lz lz (by simp))).mono ?_;rintro e w1 ⟨rfl,c⟩;have M:=U (show w1.heap[w.heap.size]?=some (.cells #[.int .u8 5,.int .i64 0,.string t,.slice F p I,.slice X p Y] 25 (0,0)) by rw [c.block _ (by simp)];exact Z4 w _);have m:=U (((Z0 _ _).alloc lz _).trans (c.mono (by simp)));clear c o;go_wp2_with fail;go_loopw [3] (fun i wr=>∃j:Nat,j<=p/\i=.int .i64 j/\(g.take j).all qQ=true/\Below w.heap.size w wr/\wr.heap[w.heap.size]?=some (.cells #[.int .u8 5,.int .i64 0,.string t,.slice F p I,.slice X p Y] 25 (0,0))) (fun i _=>p - (intOf i).toNat)
          case atStart=>exact ⟨0,by omega,rfl,by simp,m.o,M.o⟩
          case round =>
           clear m M;obtain ⟨j,hj,rfl,Q,f,C⟩:=hrel;have c3:wr.cell? ⟨w.heap.size,3,none⟩=some (.slice F p I):=qq C rfl;have V:=U C;have r:=U Q;have l:=U f;have hz:w.heap.size<wr.heap.size:=qx C;clear Q f C;by_cases hlt:j<p
           . have S:j<g.length:=by rw [<- d.o];exact hlt
             obtain ⟨b,b6,R,_,b0,c0⟩:=(H3.o.below l.o lz lz l.o.size).at j S;subst R;have b9:=kx g j S;have J:=U (show (g.take (j+1)).all qQ=((g.take j).all qQ && qQ g[j]) by rw [Z6 S,List.all_append];simp);have HN:=O0 (qQ g[j]=false->g.all qQ=false) (fun hf=>by rw [zb0];exact ⟨g[j],J7 _,by simp [hf]⟩);generalize g[j]=y at c0 b9 J HN;have T:=U (mG y wr (by omega));cases hy:qQ y
             . have u:=U (show E=false by rw [A.o,HN.o hy];rfl);rw [hy] at T;clear hy;go_wp2_with fail;refine T.o.mono ?_;rintro e w2 ⟨rfl,a⟩;have s:=U (O2 l a);clear a;go_wp2;go_ret;exact ⟨by rw [u.o] <;> rfl,s.o⟩
             . rw [hy] at T J;clear hy;go_wp2_with fail;refine T.o.mono ?_;rintro e w2 ⟨rfl,a⟩;have s:=U (O2 l a);have P:=O0 (w2.heap[w.heap.size]?=_) ((a.block _ hz).trans V.o);clear a;go_wp2;go_roundw
               case rel=>exact ⟨j+1,by omega,by go_num,by rw [J.o,r.o];rfl,s.o,P.o⟩
               case measure=>simp [intOf];omega
           . have L:=U (show E=JV.partsB z by
              have:g.all qQ=true:=(by have h:=r.o;rwa [Z8 (by rw [<- d.o];omega)] at h);rw [A.o,this];rfl)
             clear r A;obtain ⟨wo,rfl⟩:∃wo:World,wo=wr:=⟨_,rfl⟩;go_wp2_with fail;go_loopw [4] (fun i wr=>∃q:Nat,q<=p/\i=.int .i64 q/\JV.partsB (z.take q)=true/\Below w.heap.size w wr/\wr.heap[w.heap.size]?=some (.cells #[.int .u8 5,.int .i64 0,.string t,.slice F p I,.slice X p Y] 25 (0,0))) (fun i _=>p - (intOf i).toNat)
             case atStart=>exact ⟨0,by omega,rfl,rfl,l.o,V.o⟩
             case round =>
              clear l V c3;obtain ⟨q,hq,rfl,Q,f,C⟩:=hrel;have c4:wr.cell? ⟨w.heap.size,4,none⟩=some (.slice X p Y):=qq C rfl;have V:=U C;have r:=U Q;have l:=U f;have a9:w.heap.size<wr.heap.size:=qx C;clear Q f C;by_cases hql:q<p
              . have B:q<z.length:=by rw [<- W.o];exact hql
                obtain ⟨b,b6,c0,c1,c2,c3,c5,R,_,b0,e0,e1,e2,e3,e4,G⟩:=(H4.o.below l.o lz lz l.o.size).at q B;subst R;have a8:=JV.wts_get z q B;have J:=U (JV.partsB_take z q B);have HN:=U (JV.partsB_bad z q B);have K:=U (IH.o z[q] _ wr (by omega) (by omega) G);clear G;generalize z[q]=it at J HN K a8;cases hy:it.partB
                . have u:=U (show E=false by rw [L.o,HN.o hy]);rw [hy] at K;clear hy;go_wp2_with fail;refine K.o.mono ?_;rintro e w2 ⟨rfl,a⟩;have s:=U (O2 l a);clear a;go_wp2;go_ret;exact ⟨by rw [u.o] <;> rfl,s.o⟩
                . rw [hy] at K J;clear hy;go_wp2_with fail;refine K.o.mono ?_;rintro e w2 ⟨rfl,a⟩;have s:=U (O2 l a);have P:=O0 (w2.heap[w.heap.size]?=_) ((a.block _ a9).trans V.o);clear a;go_wp2;go_roundw
                  case rel=>exact ⟨q+1,by omega,by go_num,by rw [J.o,r.o];rfl,s.o,P.o⟩
                  case measure=>simp [intOf];omega
              . have u:=U (show E=true by
                 have h:=r.o;rw [Z8 (by rw [<- W.o];omega)] at h;rw [L.o,h])
                go_wp2;go_ret;exact ⟨by rw [u.o] <;> rfl,l.o⟩
    . have u:=U (show E=false by
       rw [HP.o];have:qV k n t g D=false:=by
        rcases hk45 with rfl|rfl
        . simp only [qV,show ¬(4:Int)=1 by decide,show ¬(4:Int)=2 by decide,show ¬(4:Int)=3 by decide,zd4,if_true];exact Z7 fun h=>hg ⟨h.1,h.2.1,fun _=>by rw [d.o];exact h.2.2,fun h=>by omega⟩
        . simp only [qV,show ¬(5:Int)=1 by decide,show ¬(5:Int)=2 by decide,show ¬(5:Int)=3 by decide,show ¬(5:Int)=4 by decide,zd4,if_true];rw [Z7 fun h=>hg ⟨h.1,h.2.1,fun h=>by omega,fun _=>by rw [d.o];exact h.2.2⟩];rfl
       rw [this];rfl)
      clear HP;by_cases a1:n=0
      . subst a1;by_cases a2:t.toList=[]
        . rcases hk45 with rfl|rfl
          . have a5:0<p:=Nat.pos_of_ne_zero fun e=>hg ⟨rfl,a2,fun _=>e,fun h=>by omega⟩;clear hg;go_enter M7,M0;go_wp2;go_ret;exact ⟨by rw [u.o] <;> rfl,(Z0 _ _).alloc lz _⟩
          . have a5:¬(p:Int)=(D:Int):=fun e=>hg ⟨rfl,a2,fun h=>by omega,fun _=>by omega⟩;clear hg;go_enter M7,M0;go_wp2_with fail
            all_goals first|(exfalso;omega)|(go_ret;exact ⟨by rw [u.o] <;> rfl,(Z0 _ _).alloc lz _⟩)
        . have a3:t.toList.isEmpty=false:=by rw [br];simp [a2]
          clear hg;rcases hk45 with rfl|rfl
          all_goals
           go_enter M7,M0;go_wp2;go_ret;exact ⟨by rw [u.o] <;> rfl,(Z0 _ _).alloc lz _⟩
      . clear hg;rcases hk45 with rfl|rfl
        all_goals
         go_enter M7,M0;go_wp2;go_ret;exact ⟨by rw [u.o] <;> rfl,(Z0 _ _).alloc lz _⟩
  . have u:=U (show E=false by rw [HP.o];unfold qV;rw [Z5 hk1,Z5 hk2,Z5 hk3,Z5 (fun h=>hk45 (.inl h)),Z5 (fun h=>hk45 (.inr h))];rfl);have e1:(k == 1)=false:=by simp [hk1]
    have e2:(k == 2)=false:=by simp [hk2]
    have e3:(k == 3)=false:=by simp [hk3]
    have e4:(k == 4)=false:=by simp;omega
    have e5:(k == 5)=false:=by simp;omega
    clear hk1 hk2 hk3 hk45;go_enter M7,M0;go_wp2;go_ret;exact ⟨by rw [u.o] <;> rfl,(Z0 _ _).alloc lz _⟩
theorem tF (v:JV) (x:Value) (w:World) (hv:v.wt<=4294967296) (hR:Rep w 0 w.heap.size v x) :
 Calls Tryz.prog 50 #[x] w fun e w'=>e=.returned (.bool v.mayB)/\Below w.heap.size w w':=by
 obtain ⟨r,u,q,s,rfl,X,Z,h3,h4⟩:=hR.parts;clear X Z h3 h4;have P:=U (Z4 w (.cells #[.int .u8 v.kind,.int .i64 v.n,.string v.t,.slice r v.names.length u,.slice q v.items.length s] 25));have o:=O0 (Below w.heap.size w (w.alloc (.cells #[.int .u8 v.kind,.int .i64 v.n,.string v.t,.slice r v.names.length u,.slice q v.items.length s] 25))) ((Z0 _ _).alloc lz _);have M:=U hR;have i:=U v.mayB_iff;clear hR;have hc:=JV.count_le v;have hd:=JV.depth_le v;have B:=U (oB 4294967296 v _ _ hv lz (M.o.below o.o lz lz (by simp)));cases hp:v.partB
 . rw [hp] at B i;clear hp;go_enter Tryz.func50,Tryz.ntmps50;go_wp2_with fail;refine B.o.mono ?_;rintro e g ⟨rfl,b⟩;have l:=U (o.o.trans (b.mono (by simp)));clear b;go_wp2;go_ret;exact ⟨by rw [i.o] <;> rfl,l.o⟩
 rw [hp,X4] at i;rw [hp] at B;clear hp;obtain ⟨C,k⟩:=O1 (w.alloc (.cells #[.int .u8 v.kind,.int .i64 v.n,.string v.t,.slice r v.names.length u,.slice q v.items.length s] 25));have a0:w.heap.size<C.heap.size:=by rw [k];simp
 have A:=U (show ∀g,Below C.heap.size C g->Below w.heap.size w g/\g.heap[w.heap.size]?=some (.cells #[.int .u8 v.kind,.int .i64 v.n,.string v.t,.slice r v.names.length u,.slice q v.items.length s] 25 (0,0)) from fun g h=>by
  rw [k] at h;exact ⟨o.o.trans (h.mono (by simp)),by rw [h.block _ (by simp)];exact P.o⟩)
 rw [<- k] at B;have N:=U k;clear k;go_enter Tryz.func50,Tryz.ntmps50;go_wp2_with fail;rw [<- N.o];refine B.o.mono ?_;rintro e g ⟨rfl,b⟩;obtain ⟨E,a⟩:=A.o g b;have l:=U E;have z:=U b;have W:=U a;have Q:g.cell? ⟨w.heap.size,0,none⟩=some (.int .u8 v.kind):=qq a rfl;have R:g.cell? ⟨w.heap.size,1,none⟩=some (.int .i64 v.n):=qq a rfl;have S:g.cell? ⟨w.heap.size,2,none⟩=some (.string v.t):=qq a rfl;have T:g.cell? ⟨w.heap.size,3,none⟩=some (.slice r v.names.length u):=qq a rfl;have V:g.cell? ⟨w.heap.size,4,none⟩=some (.slice q v.items.length s):=qq a rfl;clear b a E;have K:=U (tw 4294967296 v _ g hv lz (M.o.below l.o lz lz l.o.size));obtain ⟨c,I⟩:∃c:Nat,c=v.count:=⟨_,rfl⟩;rw [<- I] at K hc i;clear I;go_wp2_with fail;refine K.o.mono ?_;clear K Q R S T V;rintro e p ⟨rfl,G⟩;obtain ⟨F,f⟩:=A.o p (O2 z G);have j:=U F;have Q:p.cell? ⟨w.heap.size,0,none⟩=some (.int .u8 v.kind):=qq f rfl;have R:p.cell? ⟨w.heap.size,1,none⟩=some (.int .i64 v.n):=qq f rfl;have S:p.cell? ⟨w.heap.size,2,none⟩=some (.string v.t):=qq f rfl;have T:p.cell? ⟨w.heap.size,3,none⟩=some (.slice r v.names.length u):=qq f rfl;have V:p.cell? ⟨w.heap.size,4,none⟩=some (.slice q v.items.length s):=qq f rfl;clear G f F;by_cases h8:c<=8192
 . rw [J2 h8,X4] at i;have D:(c:Int)<=8192:=by omega
   have L:=U (tP 4294967296 v _ p hv lz (M.o.below j.o lz lz j.o.size));obtain ⟨d,J⟩:∃d:Nat,d=v.depth:=⟨_,rfl⟩;rw [<- J] at L hd i;clear J;go_wp2_with fail;refine L.o.mono ?_;clear L;rintro e w3 ⟨rfl,H⟩;have y:=U (O2 j H);clear H;by_cases h12:d<=12
   . rw [J2 h12] at i;have m:(d:Int)<=12:=by omega
     go_wp2;go_ret;exact ⟨by rw [i.o] <;> rfl,y.o⟩
   . rw [Z7 h12] at i;have m:¬(d:Int)<=12:=by omega
     have Y:decide ((d:Int)<=12)=false:=Z7 m;go_wp2;go_ret;exact ⟨by rw [i.o] <;> rfl,y.o⟩
 . rw [Z7 h8,V0] at i;have D:¬(c:Int)<=8192:=by omega
   have h9:decide ((c:Int)<=8192)=false:=Z7 D;go_wp2;go_ret;exact ⟨by rw [i.o] <;> rfl,j.o⟩
end Go.Proofs.YthgembbgcbaghaaGreatDoor
