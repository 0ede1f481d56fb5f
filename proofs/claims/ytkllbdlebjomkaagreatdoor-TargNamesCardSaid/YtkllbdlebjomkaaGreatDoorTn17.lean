import Derived.Test.YtkllbdlebjomkaaGreatDoorTn16
import Derived.OwnWalk
set_option maxHeartbeats 4000000
set_option maxRecDepth 100000

namespace Go.Proofs.YtkllbdlebjomkaaGreatDoor
open Go.RowKit
theorem uW {α:Type} (enc:α->List Value) (a:Nat) (b:∀x,(enc x).length=a):∀(l:List α) (i c:Nat) (hi:i<l.length) (d:c<a),(l.flatMap enc)[i * a+c]?=some ((enc l[i])[c]'(by rw [b];exact d))
 | [],i,c,hi,_=>by simp at hi
 | v :: r,i,c,hi,d=>by
  rw [List.flatMap_cons];rcases i with _|i
  . rw [V4 (by rw [b];omega)];simp
  . have e:(i+1) * a+c=a+(i * a+c):=by rw [Nat.add_mul];omega
    rw [Y8 (by rw [b,e];omega),b,e,Nat.add_sub_cancel_left];simpa using uW enc a b r i c (by simpa using hi) d
def fy {α:Type} (P:World->Nat->Nat->α->Prop):Prop:=∀(w w':World) (lo hi:Nat) (q:α),(∀b,lo<=b->b<hi->w'.heap[b]?=w.heap[b]?)->P w lo hi q->P w' lo hi q
structure ItemsOwn {α:Type} (T sz B:Nat) (enc:α->List Value) (P:World->Nat->Nat->α->Prop) (w:World) (vs:Value) (qs:List α):Prop where
 own:w.ownsRow B T sz vs qs.length (qs.flatMap enc)
 each:∀q ∈ qs,∃lo hi,B<=lo/\hi<=w.heap.size/\(∀b,vs.ownBlock=some b->¬(lo<=b/\b<hi))/\P w lo hi q
theorem ItemsOwn.nil {α:Type} (T a B:Nat) (enc:α->List Value) (P:World->Nat->Nat->α->Prop) (w:World):ItemsOwn T a B enc P w (.slice none 0 0) []:=⟨Y3 _ _ _ _,by simp⟩
theorem sX {S:Nat->Prop} {B T a n:Nat} {w w':World} {v:Value} {cs:List Value} (h:w.ownsRow B T a v n cs) (d:Touch S w w') (c:∀k,B<=k->¬S k):w'.ownsRow B T a v n cs:=by refine zB h fun b hb=>?_;have:=h.lt b hb;exact d.block b this.2 (c b this.1)
theorem ItemsOwn.touch {α:Type} {T e B:Nat} {enc:α->List Value} {P:World->Nat->Nat->α->Prop} (g:fy P) {S:Nat->Prop} {w w':World} {f:Value} {d:List α} (h:ItemsOwn T e B enc P w f d) (a:Touch S w w') (c:∀k,B<=k->¬S k):ItemsOwn T e B enc P w' f d :=
 ⟨sX h.own a c,fun q hq=>by
  obtain ⟨lo,hi,h1,h2,h3,hk⟩:=h.each q hq;exact ⟨lo,hi,h1,Z3 h2 a.size,h3,g _ _ _ _ _ (fun b b1 b2=>a.block b (by omega) (c b (by omega))) hk⟩⟩
theorem ItemsOwn.below {α:Type} {T b B:Nat} {enc:α->List Value} {P:World->Nat->Nat->α->Prop} (d:fy P) {w w':World} {c:Value} {a:List α} (h:ItemsOwn T b B enc P w c a) (e:O5 w w'):ItemsOwn T b B enc P w' c a :=
 h.touch d (Touch.of_below (S:=fun _=>False) e lz) (fun _ _ h=>h)
theorem ItemsOwn.snoc {α:Type} {T u B:Nat} {enc:α->List Value} {P:World->Nat->Nat->α->Prop} (A:fy P) {w w':World} {v v':Value} {m:List α} (h:ItemsOwn T u B enc P w v m) (q:α) (lo hi:Nat) (z:B<=lo) (o:hi<=w.heap.size) (y:∀b,v.ownBlock=some b->¬(lo<=b/\b<hi)) (C:P w lo hi q)
 (s:w.grownBy w' v.ownBlock) (hown:w'.ownsRow B T u v' (m.length+1) (m.flatMap enc ++ enc q)) (r:v'.ownBlock=v.ownBlock\/∃g,v'.ownBlock=some g/\w.heap.size<=g):ItemsOwn T u B enc P w' v' (m ++ [q]):=by
 have j:∀ {lo hi:Nat},hi<=w.heap.size->(∀b,v.ownBlock=some b->¬(lo<=b/\b<hi))->∀b,v'.ownBlock=some b->¬(lo<=b/\b<hi):=fun hz hn b hb=>by
  rcases r with e|⟨g,e,hge⟩
  . exact hn b (by rw [<- e];exact hb)
  . rw [e] at hb;simp at hb;omega
 have a:∀ {lo hi:Nat} {x:α},hi<=w.heap.size->(∀b,v.ownBlock=some b->¬(lo<=b/\b<hi))->P w lo hi x->P w' lo hi x:=fun hz hn hr =>
  A _ _ _ _ _ (fun b hb1 hb2=>s.block b (by omega) (fun e=>hn b e.symm ⟨hb1,hb2⟩)) hr
 refine ⟨?_,fun p hp=>?_⟩
 . rw [K3,List.flatMap_append];simpa using hown
 . rcases List.mem_append.1 hp with hp|hp
   . obtain ⟨i,c,l,f,k,d⟩:=h.each p hp;exact ⟨i,c,l,Z3 f s.size,j f k,a f k d⟩
   . obtain rfl:p=q:=by simpa using hp
     exact ⟨lo,hi,z,Z3 o s.size,j o y,a o y C⟩
theorem ItemsOwn.cells {α:Type} {T d B:Nat} {enc:α->List Value} {P:World->Nat->Nat->α->Prop} (k:∀x,(enc x).length=d) {w:World} {a:Option Addr} {n c:Nat} {f:List α} (h:ItemsOwn T d B enc P w (.slice a n c) f) :
 n=f.length/\n<=c/\(f=[]\/∃g,a=some ⟨g,0,none⟩/\B<=g/\g<w.heap.size/\(∀o,w.frozen? ⟨g,o,none⟩=false)/\∀i (hi:i<f.length) q (j:q<d),w.cell? ⟨g,i * d+q,none⟩=some ((enc f[i])[q]'(by rw [k];exact j))):=by
 have b:=h.own;rcases h.own.2 with ⟨hv,h0⟩|⟨g,cap,cur,hv,hg,hh,hc,hm,hs,ht⟩
 . simp only [Y2] at hv;exact ⟨by omega,by omega,.inl (X5 h0)⟩
 . simp only [Y2] at hv;obtain ⟨rfl,rfl,rfl⟩:=hv;refine ⟨rfl,hc,.inr ⟨g,rfl,hg,qz hh,fun o=>by simp [World.frozen?,hh],fun i hi2 q j=>?_⟩⟩;have e:(⟨g,0,none⟩:Addr).add (i * d+q)=⟨g,i * d+q,none⟩:=by unfold Addr.add;split <;> simp_all
   have:=b.cells (g:=g) rfl _ _ (uW enc d k f i q hi2 j);rw [e] at this;exact this
theorem uY (n:Int) (w:World):Calls Tryz.prog 47 #[.int .i64 n] w fun e w'=>e=.returned (.agg #[.int .u8 2,.int .i64 n,.string ⟨#[]⟩,.slice none 0 0,.slice none 0 0])/\w'=w.alloc (.cells #[.int .u8 2,.int .i64 n,.string ⟨#[]⟩,.slice none 0 0,.slice none 0 0] 26):=by go_enter Tryz.func47,Tryz.ntmps47;go_wp2;exact Z8 (X8 Tryz.results47 _ _ w.heap.size 26 _ (0,0) _ rfl (Z5 w _) J7 rfl (by kernel_rfl)) rfl ⟨rfl,rfl⟩
def jn (v:JV) (w:World) (e:Ending) (w':World):Prop :=
 ∃a c,e=.returned (.tuple #[.slice a (qM v).1.length c,.int .i64 (qM v).2])/\bK w' w.heap.size w'.heap.size a (qM v).1/\(qM v).1.length<=c/\O5 w w'
theorem js {v:JV} {a:Int} (h:qM v=([],a)) {w w':World} (b:O5 w w'):jn v w (.returned (.tuple #[.slice none 0 0,.int .i64 a])) w':=by unfold jn;rw [h];exact ⟨none,0,rfl,bK.nil _ _ _ _,J2 _,b⟩
theorem sJ {w:World} {b e d n c:Nat} {a:Option Addr} {xs:List Value} (h:w.ownsRow b e d (.slice a n c) n xs):n<=c:=by
 rcases h.2 with ⟨hv,h0⟩|⟨g,cap,cur,hv,_,_,hc,_⟩
 . omega
 . simp only [Y2] at hv;obtain ⟨-,-,rfl⟩:=hv;exact hc
theorem dg (v:JV) (x:Value) (w:World) (hN:v.wt<=4294967296) (hR:Rep w 0 w.heap.size v x):Calls Tryz.prog 96 #[x] w (jn v w):=by
 obtain ⟨an,cn,ai,ci,hx,f6,f5,h3,h4⟩:=hR.parts;subst hx;obtain ⟨f,H⟩:=O1 (w.alloc (.cells #[.int .u8 v.kind,.int .i64 v.n,.string v.t,.slice an v.names.length cn,.slice ai v.items.length ci] 26));have e:=O7 H
 have L:=O9 H
 have HM:=U (xm v _ f hN (hR.below e lz (J0 _) e.size));have HC:=U (show ∀w':World,O5 f w'->w'.cell? ⟨w.heap.size,0,none⟩=some (.int .u8 v.kind)/\w'.cell? ⟨w.heap.size,1,none⟩=some (.int .i64 v.n)/\w'.cell? ⟨w.heap.size,2,none⟩=some (.string v.t)/\w'.cell? ⟨w.heap.size,3,none⟩=some (.slice an v.names.length cn)/\w'.cell? ⟨w.heap.size,4,none⟩=some (.slice ai v.items.length ci) from fun w' h=>by
  have x:=(h.block _ (qz L)).trans L;exact ⟨qq x rfl,qq x rfl,qq x rfl,qq x rfl,qq x rfl⟩)
 have e4:=O0 (∀w':World,O5 f w'->qy w' 0 w'.heap.size an v.names/\zy w' 0 w'.heap.size ai v.items) (fun w' h=>⟨h3.below (e.trans (h.mono e.size)) lz (J0 _) (Z3 e.size h.size),h4.below (e.trans (h.mono e.size)) lz (J0 _) (Z3 e.size h.size)⟩);have a:=U e;have HW:=U H;have e6:=O0 (w.heap.size<f.heap.size) (qz L);clear h3 h4 hR H e L;obtain ⟨c0,c1,c2,c3,c4⟩:=HC.o f (Z0 _ _);go_enter Tryz.func96,Tryz.ntmps96;go_upto_region 1 with fail
 rw [<- HW.o];cases hm:v.mayB with
 | false => have G:=U (show qM v=([],3) by unfold qM;rw [J3 hm]);rw [hm] at HM;clear hm;go_wp2_with fail;refine HM.o.mono ?_;clear HM c0 c1 c2 c3 c4;rintro r w1 ⟨rfl,A⟩;have j:=U (O2 a A);clear A;go_wp2;go_ret2;exact js G.o j.o
 | true =>
  have B:=U hm;rw [hm] at HM;clear hm;go_wp2_with fail;refine HM.o.mono ?_;clear HM c0 c1 c2 c3 c4;rintro r w1 ⟨rfl,A⟩;have j:=U A;obtain ⟨c0,c1,c2,c3,c4⟩:=HC.o w1 A;clear A;by_cases Q:v.kind=5
  case neg => have hd:((v.kind:Int) != 5)=true:=bne_iff_ne.2 Q;have G:=U (show qM v=([],10) by unfold qM;rw [Z6 (by rw [B.o];decide),J3 Q]);clear Q;go_wp2;go_ret2;exact js G.o (a.o.trans (j.o.mono a.o.size))
  have hd:((v.kind:Int) != 5)=false:=by rw [Q];rfl
  obtain ⟨f0,c7,d2⟩:=mH B.o Q;have e5:=U (show ∀i (h:i<v.names.length),v.names[i].size<=4294967296 from fun i hi=>by
   have:=X9.1 d2 _ (J8 hi);unfold qX at this;simp at this;omega)
  have HK:=U Q;have e1:=U c7;clear f0 d2 Q c7;by_cases h4:4<v.names.length
  . have b6:decide ((4:Int)<v.names.length)=true:=by simp;omega
    have G:=U (show qM v=([],5) by unfold qM;rw [Z6 (by rw [B.o];decide),Z6 (by rw [HK.o];decide),J3 h4]);go_wp2;go_ret2;exact js G.o (a.o.trans (j.o.mono a.o.size))
  have b6:decide ((4:Int)<v.names.length)=false:=by simp;omega
  by_cases h0:v.names.length=0
  . have b7:((v.names.length:Int) == 0)=true:=by rw [h0];rfl
    have G:=U (show qM v=([],4) by unfold qM;rw [Z6 (by rw [B.o];decide),Z6 (by rw [HK.o];decide),Z6 h4,J3 h0]);go_wp2;go_ret2;exact js G.o (a.o.trans (j.o.mono a.o.size))
  have b7:((v.names.length:Int) == 0)=false:=N9.2 (by omega);have G:=U (show qM v=jP v.names v.items [] by unfold qM;rw [Z6 (by rw [B.o];decide),Z6 (by rw [HK.o];decide),Z6 h4,Z6 h0]);obtain ⟨i1,c5,d3,d4,d5⟩:=V2 cN;have a0:f.heap.size<=w1.heap.size:=j.o.size;go_upto_region 11 with (at_make;refine wpList_make_own _ rfl (.const (.int .i64 0)) (.tmp 24) 30 rfl f.heap.size 67 i1 _ 2 Tryz.underlying30 c5 d3 d4 .i64 .i64 _ v.names.length rfl rfl rfl (by rw [d5];omega) (by unfold maxLen;omega) a0 ?_;intro w4 hown4 hgrow4;have X:=U hown4;have T:=U (below_grown (v:=.slice none 0 0) j.o a0 hgrow4 (fun b J=>by cases J));obtain ⟨c0,c1,c2,c3,c4⟩:=HC.o w4 T.o;clear hown4 hgrow4)
  clear c0 c1 c2 c3 c4 hd b6 b7;obtain ⟨S,a3⟩:=O1 v.names.length;rw [<- a3] at X ⊢;have W:=U a3;have f7:0<S:=by omega
  have f8:S<=4:=by omega
  clear a3 h0 h4;go_loopw [4,5,6,7,29] (fun s4 _ _ _ i wr=>∃(k:Nat) (m:List Key2),k<=S/\i=.int .i64 k/\m.length=k/\qM v=jP (v.names.drop k) (v.items.drop k) m/\(∃g cap,s4=.slice (some ⟨g,0,none⟩) k cap)/\wr.ownsRow f.heap.size 67 2 s4 k (m.flatMap jV)/\O5 f wr) (fun _ _ _ _ i _=>S - (intOf i).toNat)
  case atStart=>exact ⟨0,[],by omega,rfl,rfl,G.o,⟨_,_,rfl⟩,X.o,T.o⟩
  case round =>
   obtain ⟨k,m,Q,rfl,P,hh,f1,R,J⟩:=hrel;have HB:=U J;have HH:=U hh;have Y:=U R;have a6:=U P;obtain ⟨g0,N,rfl⟩:=f1;clear X T j a0 hh R P;obtain ⟨c0,c1,c2,c3,c4⟩:=HC.o wr J;by_cases hlt:k<S
   . have a4:=e4.o wr J;have o:k<v.names.length:=by have:=W.o;omega
     have K:k<v.items.length:=by have:=e1.o;have:=W.o;omega
     have d0:∃b2 o2,an=some ⟨b2,o2,none⟩/\b2<wr.heap.size/\wr.cell? ⟨b2,o2+k,none⟩=some (.string v.names[k]):=by
      rcases a4.1 with h|⟨b,off,ha,_,hb',hc⟩
      . have:=J6 List.length h;rw [zc4] at this;omega
      . exact ⟨b,off,ha,hb',hc k o⟩
     have d1:∃M o3 q y p s,ai=some ⟨M,o3,none⟩/\M<wr.heap.size/\wr.cell? ⟨M,o3+k * 5,none⟩=some (.int .u8 v.items[k].kind)/\wr.cell? ⟨M,o3+k * 5+1,none⟩=some (.int .i64 v.items[k].n)/\wr.cell? ⟨M,o3+k * 5+2,none⟩=some (.string v.items[k].t)/\wr.cell? ⟨M,o3+k * 5+3,none⟩=some (.slice q v.items[k].names.length y)/\wr.cell? ⟨M,o3+k * 5+4,none⟩=some (.slice p v.items[k].items.length s):=by
      rcases a4.2 with h|⟨b,off,ha,_,hb',_,hr⟩
      . have:=J6 List.length h;rw [zc4] at this;omega
      . obtain ⟨x0,x1,x2,x3,x4,m0,m1,m2,m3,m4,_,hR⟩:=hr.at k K;obtain ⟨q,y,p,s,hx,_,_,_,_⟩:=hR.parts;simp only [G9,H8,K0,zb6] at hx;obtain ⟨rfl,rfl,rfl,rfl,rfl⟩:=hx;exact ⟨b,off,q,y,p,s,ha,hb',m0,m1,m2,m3,m4⟩
     obtain ⟨b2,o2,rfl,f3,n0⟩:=d0;obtain ⟨M,o3,q,y,p,s,rfl,f4,m0,m1,m2,m3,m4⟩:=d1;have c:=U (HH.o.trans (dw k o K));have b0:=U (e5.o k o);have a9:=U (show v.items[k].t.size<=4294967296 by
      have h1:=dy v.items k K;have h2:=v.wt_bd;have h3:=v.items[k].wt_bd;omega)
     obtain ⟨C,c9⟩:=O1 (v.names[k]'o);obtain ⟨d,c6⟩:=O1 (v.items[k]'K);rw [<- c9] at n0 c b0;rw [<- c6] at m0 m1 m2 m3 m4 c a9;have F:=U (fun w'=>xA C w' (Z3 b0.o (by decide)));have E:=U (fun w'=>us d.t w' (Z3 a9.o (by decide)));clear c9 c6 a4 J o;cases hro:zw C.data.toList with
     | false => have V:=U (show qM v=([],3) by rw [c.o,J3 hro]);rw [hro] at F;clear hro;go_wp2_with fail;refine (F.o wr).mono ?_;rintro r w5 ⟨rfl,rfl⟩;go_wp2;go_ret2;exact js V.o (a.o.trans (HB.o.mono a.o.size))
     | true =>
     have Z:=U hro;rw [hro] at F;clear hro;go_wp2_with fail;refine (F.o wr).mono ?_;rintro r w5 ⟨rfl,rfl⟩;go_upto_region 16 with fail
     obtain ⟨l,I⟩:=O1 (wr.alloc (.cells #[.int .u8 d.kind,.int .i64 d.n,.string d.t,.slice q d.names.length y,.slice p d.items.length s] 26));have a1:=O7 I
     have a5:=O9 I
     have y0:=qq a5 (j:=0) rfl;have y2:=qq a5 (j:=2) rfl;have D:=U (O2 HB a1);have e2:=U (qV Y.o a1);rw [<- I];clear I a5 a1 m0 m1 m2 m3 m4 n0 c0 c1 c2 c3 c4;by_cases hik:d.kind=3
     case neg => have hd:((d.kind:Int) != 3)=true:=bne_iff_ne.2 hik;have V:=U (show qM v=([],10) by rw [c.o,Z6 (by rw [Z.o];decide),J3 hik]);clear hik;go_wp2;go_ret2;exact js V.o (a.o.trans (D.o.mono a.o.size))
     have hd:((d.kind:Int) != 3)=false:=by rw [hik];rfl
     have a8:=U hik;clear hik;cases hpo:jw d.t.data.toList with
     | false => have V:=U (show qM v=([],3) by rw [c.o,Z6 (by rw [Z.o];decide),Z6 (by rw [a8.o];decide),J3 hpo]);rw [hpo] at E;clear hpo;go_wp2_with fail;refine (E.o l).mono ?_;rintro r w7 ⟨rfl,rfl⟩;go_wp2;go_ret2;exact js V.o (a.o.trans (D.o.mono a.o.size))
     | true =>
     have V:=U (show qM v=jP (v.names.drop (k+1)) (v.items.drop (k+1)) (m ++ [(C,d.t)]) by rw [c.o,Z6 (by rw [Z.o];decide),Z6 (by rw [a8.o];decide),Z6 (by rw [hpo];decide)]);rw [hpo] at E;clear hpo;go_wp2_with fail;refine (E.o l).mono ?_;rintro r w7 ⟨rfl,rfl⟩;have e7:f.heap.size<=l.heap.size:=D.o.size;have a2:O5 l (l.alloc (.cells #[.string C,.string d.t] 67)):=O4;have b1:=U (qV e2.o a2);have a7:=U (D.o.trans (a2.mono e7));have b4:f.heap.size<=(l.alloc (.cells #[.string C,.string d.t] 67)).heap.size:=a7.o.size;clear a2;go_wp2_with (at_builtin;refine Y1 _ rfl (.tmp 49) (.tmp 54) 30 rfl f.heap.size 67 i1 _ 2 32 Tryz.underlying30 c5 d3 d4 d5 rfl (by omega) (.slice (some ⟨g0,0,none⟩) k N) k (m.flatMap jV) rfl b1.o ⟨l.heap.size,0,none⟩ 1 1 (jV (C,d.t)) rfl rfl (J9 (cs:=#[.string C,.string d.t]) (t:=67) (fr:=(0,0)) (Z5 l _)) (fun u hu=>by simp [jV] at hu;rcases hu with rfl|rfl <;> rfl) (by omega) (by unfold maxLen;omega) (by omega) b4 _ rfl ?_;intro g2 cap3 w8 hown8 hgrow8 hat8 hlt8;have e3:=U hown8;have d7:=U (below_grown a7.o b4 hgrow8 (fun b J=>(b1.o.lt b J).1));clear hown8 hgrow8 hat8);go_roundw
     case rel=>exact ⟨k+1,m ++ [(C,d.t)],by omega,by go_num,by rw [K3,a6.o];rfl,V.o,⟨g2,cap3,rfl⟩,by rw [List.flatMap_append];simpa using e3.o,d7.o⟩
     case measure=>simp [intOf];omega
   . have e8:v.names.length<=k:=by have:=W.o;omega
     have HE:=U (HH.o.trans (mU k e8));have e0:=U (lE Y.o a6.o.symm);have o:k=S:=by omega
     subst o;clear J;go_wp2;go_ret2;obtain ⟨z,zc,hz,f2⟩:=e0.o;show jn v w (.returned (.tuple #[.slice (some ⟨g0,0,none⟩) k N,.int .i64 0])) wr;unfold jn;rw [HE.o];have b5:=sJ Y.o;simp only [Y2] at hz;obtain ⟨rfl,d6,rfl⟩:=hz;exact ⟨_,_,by rw [<- d6],f2.carry (Nat.le_of_lt e6.o) lz (fun _ _ _=>rfl),by rw [<- d6];exact b5,a.o.trans (HB.o.mono a.o.size)⟩
open Go.WideMaps Go.Maps
def zN (k n l h:Int):Int:=if k≠2 then 10 else if n<l\/h<n then 1 else 0
def ji (k n l h:Int):Int:=if k≠2 then 0 else if n<l\/h<n then 0 else n
theorem uG {k n l h:Int} (e:zN k n l h=0):k=2/\¬(n<l\/h<n):=by
 unfold zN at e;split at e
 . omega
 split at e
 . omega
 . exact ⟨by omega,by omega⟩
theorem sK {k n l h:Int} (e:zN k n l h=0):ji k n l h=n:=by obtain ⟨a,b⟩:=uG e;unfold ji;rw [Z6 (by simp [a]),Z6 b]
theorem sV {k n l h:Int} (e:¬zN k n l h=0):ji k n l h=0:=by
 unfold zN at e;unfold ji;split
 . rfl
 split
 . rfl
 . rename_i a b;rw [Z6 a,Z6 b] at e;omega
theorem sW {it:JV} {a:List ByteArray} {l h:Int} {X:Int × PS} (e:¬zN it.kind it.n l h=0) :
 (if it.kind≠2 then ((0:Int),(⟨a,10⟩:PS)) else if it.n<l\/h<it.n then (0,⟨a,1⟩) else X)=(0,⟨a,zN it.kind it.n l h⟩):=by
 unfold zN at e ⊢;split
 . rfl
 split
 . rfl
 . rename_i a b;rw [Z6 a,Z6 b] at e;omega
theorem oW (k n:Int) (t:ByteArray) (a b:Value) (l h:Int) (p q:Nat) (w:World) (r:w.cell? ⟨p,0,none⟩=some (.int .i64 l)) (s:w.cell? ⟨q,0,none⟩=some (.int .i64 h)) :
 Calls Tryz.prog 63 #[.agg #[.int .u8 k,.int .i64 n,.string t,a,b],.pointer (some ⟨p,0,none⟩),.pointer (some ⟨q,0,none⟩)] w fun e w'=>e=.returned (.tuple #[.int .i64 (ji k n l h),.int .i64 (zN k n l h)])/\O5 w w':=by
 have f:O5 w (w.alloc (.cells #[.int .u8 k,.int .i64 n,.string t,a,b] 26)):=O4;have m:(w.alloc (.cells #[.int .u8 k,.int .i64 n,.string t,a,b] 26)).cell? ⟨p,0,none⟩=some (.int .i64 l):=by rw [f.cell (G2 w _ r)];exact r
 have o:(w.alloc (.cells #[.int .u8 k,.int .i64 n,.string t,a,b] 26)).cell? ⟨q,0,none⟩=some (.int .i64 h):=by rw [f.cell (G2 w _ s)];exact s
 have d:=U f;clear f;by_cases hk:k=2
 . subst hk;by_cases h1:n<l
   . have c:=U (show ji 2 n l h=0/\zN 2 n l h=1 by unfold ji zN;simp [h1]);have g:decide (n<l)=true:=by simpa using h1
     go_enter Tryz.func63,Tryz.ntmps63;go_wp2;go_ret2;exact ⟨by rw [c.o.1,c.o.2];rfl,d.o.trans (by first|exact Z0 _ _|exact (Z0 _ _).drew)⟩
   . have g:decide (n<l)=false:=by simpa using h1
     by_cases h2:h<n
     . have c:=U (show ji 2 n l h=0/\zN 2 n l h=1 by unfold ji zN;simp [h2]);have i:decide (h<n)=true:=by simpa using h2
       go_enter Tryz.func63,Tryz.ntmps63;go_wp2;go_ret2;exact ⟨by rw [c.o.1,c.o.2];rfl,d.o.trans (by first|exact Z0 _ _|exact (Z0 _ _).drew)⟩
     . have c:=U (show ji 2 n l h=n/\zN 2 n l h=0 by unfold ji zN;simp [h1,h2]);have i:decide (h<n)=false:=by simpa using h2
       clear h1 h2;go_enter Tryz.func63,Tryz.ntmps63;go_wp2;go_ret2;exact ⟨by rw [c.o.1,c.o.2];rfl,d.o.trans (by first|exact Z0 _ _|exact (Z0 _ _).drew)⟩
 . have c:=U (show ji k n l h=0/\zN k n l h=10 by unfold ji zN;simp [hk]);have j:(k == 2)=false:=by simpa using hk
   clear hk;go_enter Tryz.func63,Tryz.ntmps63;go_wp2;go_ret2;exact ⟨by rw [c.o.1,c.o.2];rfl,d.o⟩
def nW (o m lo hi:Nat) (v:JV) (an ai:Option Addr) (cn ci:Nat) (y:ByteArray) (l h:Int) (st:PS) (w:World) (e:Ending) (w':World):Prop :=
 e=.returned (.int .i64 (qG v y l h st).1)/\PickAt o m lo hi v an ai cn ci (qG v y l h st).2 w'/\Touch (fun b=>b=o\/b=m) w w'
theorem oY (o m lo hi:Nat) (v:JV) (an ai:Option Addr) (cn ci:Nat) (y:ByteArray) (l h:Int) (st:PS) (w:World) (hP:PickAt o m lo hi v an ai cn ci st w) (hy:y.size<=4294967296) (ha:st.asked.length<=4294967296) (p1 p2:Nat) (g1:w.heap[p1]?=some (.cells #[.int .i64 l] 2 (0,0))) (g2:w.heap[p2]?=some (.cells #[.int .i64 h] 2 (0,0))) :
 Calls Tryz.prog 62 #[.pointer (some ⟨o,0,none⟩),.string y,.func (.func 63) #[] #[.pointer (some ⟨p1,0,none⟩),.pointer (some ⟨p2,0,none⟩)]] w (nW o m lo hi v an ai cn ci y l h st w):=by
 have f:=U hP;have J:=U g1;have K:=U g2;clear hP g1 g2;have R:=qq f.o.obj (j:=6) rfl;have V:w.cell? ⟨o,0,none⟩=some (.int .u8 5):=(qq (j:=0) f.o.obj rfl).trans (by rw [f.o.kind];rfl);by_cases he:st.err=0
 . rw [he] at R;have B:=U he;clear he;have c1:=qq f.o.obj (j:=1) rfl;have c2:=qq f.o.obj (j:=2) rfl;have c3:=qq f.o.obj (j:=3) rfl;have c4:=qq f.o.obj (j:=4) rfl;have HR:=U f.o.rep;rw [f.o.kind] at HR;have Z:=U (jB v y _ w lo hi f.o.wt f.o.pos f.o.le HR.o f.o.kind f.o.rise f.o.len);go_enter Tryz.func62,Tryz.ntmps62;go_wp2_with fail;refine (zx o 0 5 w R V (fun _=>rfl)).mono ?_;rintro r w' ⟨rfl,rfl⟩;go_wp2_with fail;refine Z.o.mono ?_;clear Z V c1 c2 c3 c4 R;rintro e G ⟨hh,Q⟩;have q:=U Q;clear Q;rcases hh with ⟨r,hr1,hr2,hre,an',cn',ai',ci',rfl,hrep⟩|⟨hno,rfl⟩
   . have HL:=U (jd f.o.rise r hr1 hr2 hre);clear hre hrep;generalize v.items[r]=it at *;have A:O5 w (G.alloc (.cells #[.int .u8 it.kind,.int .i64 it.n,.string it.t,.slice an' it.names.length cn',.slice ai' it.items.length ci'] 26)):=q.o.alloc q.o.size _;have g:=U A;have H:=U (oW it.kind it.n it.t (.slice an' it.names.length cn') (.slice ai' it.items.length ci') l h p1 p2 (G.alloc (.cells #[.int .u8 it.kind,.int .i64 it.n,.string it.t,.slice an' it.names.length cn',.slice ai' it.items.length ci'] 26)) (qq ((A.block _ (qz J.o)).trans J.o) rfl) (qq ((A.block _ (qz K.o)).trans K.o) rfl));clear A;by_cases hk:zN it.kind it.n l h=0
     . have HK:=U hk;have p:=U (show qG v y l h st=(it.n,⟨y :: st.asked,0⟩) by unfold qG;rw [Z6 (by simp [B.o]),HL.o];obtain ⟨q1,q2⟩:=uG hk;simp only;rw [Z6 (by simp [q1]),Z6 q2]);rw [sK hk,hk] at H;clear hk;go_wp2_with fail;refine H.o.mono ?_;clear H;rintro e I ⟨rfl,u⟩;have a:=U (O2 g u);have d:=U (f.o.below a.o);clear u g;have d5:=qq d.o.obj (j:=5) rfl;have x:keyOf Tryz.prog 9 (.string y)=some (.string y.data.toList):=keyOf_string_mk Y9 (by unfold maxLen;omega);obtain ⟨D,n,z,hn,W⟩:=d.o.map;obtain ⟨c,E,a1,a2,X⟩:=W.2 y;obtain ⟨c',a0,s,_⟩:=z.lookup_int jl V9 Y6 (kO _) x;rw [E] at s;simp only [za0,zb7,za5] at s;subst s;have HD:=U (W.cons y c E);have S:=U x;have T:=U z;clear W E X x z;go_wp2_with (at_mapUpdate;refine M4 _ rfl _ _ _ 115 rfl 9 3 jl V9 _ m n D rfl T.o (by unfold maxLen;omega) _ _ _ rfl rfl S.o _ [] (plainElem_int Y6 (WalkArith.wf_i64 (by omega))) ?_);intro Y hown3 hgrow3;have i:=U (d.o.ask y hgrow3 hown3 (by omega) HD.o);have L:=O0 (Touch (fun b=>b=o\/b=m) w Y) (⟨by rw [hgrow3.os,a.o.os],by rw [hgrow3.tape,a.o.tape],by rw [hgrow3.output,a.o.output],Z3 a.o.size hgrow3.size,fun k hk hs=>by rw [hgrow3.block k (X1 hk a.o.size) (fun e=>hs (.inr (X2 e))),a.o.block k hk]⟩);clear hgrow3 hown3;rw [B.o] at i;go_wp2;go_ret;exact ⟨by rw [p.o];rfl,by rw [p.o];exact i.o,L.o⟩
     . have p:=U (show qG v y l h st=(0,⟨st.asked,zN it.kind it.n l h⟩) by unfold qG;rw [Z6 (by simp [B.o]),HL.o];exact sW hk);obtain ⟨C,F⟩:=O1 (zN it.kind it.n l h);rw [sV hk,<- F] at H;rw [<- F] at p hk;have a5:(C != 0)=true:=by simpa using hk
       have a6:(C == 0)=false:=by simpa using hk
       clear hk F;go_wp2_with fail;refine H.o.mono ?_;clear H;rintro e I ⟨rfl,u⟩;have a:=U (O2 g u);have d:=U (f.o.below a.o);clear u g;have N:I.cell? ⟨o,6,none⟩=some (.int .i64 0):=(qq (j:=6) d.o.obj rfl).trans (by rw [B.o];rfl);have M:I.cell? ⟨o,0,none⟩=some (.int .u8 5):=(qq (j:=0) d.o.obj rfl).trans (by rw [f.o.kind];rfl);have P:I.frozen? ⟨o,6,none⟩=false:=by simp [World.frozen?,d.o.obj]
       go_wp2_with fail
       refine (zR o C _ N M P).mono ?_;clear N M P;rintro e Y ⟨rfl,rfl⟩;have i:=U (d.o.fail C);have L:=O0 (Touch (fun b=>b=o\/b=m) w (I.setCell ⟨o,6,none⟩ (.int .i64 C))) ((Touch.of_below a.o lz).setCell (.inl (.inl rfl)) _);go_wp2;go_ret;exact ⟨by rw [p.o];rfl,by rw [p.o];exact i.o,L.o⟩
   . have p:=U (show qG v y l h st=(0,⟨st.asked,6⟩) by unfold qG;rw [Z6 (by simp [B.o]),show v.look y=none from xu _ _ _ hno]);unfold zeroAgg;have a:=O0 (O5 w (G.alloc (.cells #[.int .u8 0,.int .i64 0,.string ⟨#[]⟩,.slice none 0 0,.slice none 0 0] 26))) (q.o.alloc q.o.size _);have d:=U (f.o.below a.o);clear hno q;have N:(G.alloc (.cells #[.int .u8 0,.int .i64 0,.string ⟨#[]⟩,.slice none 0 0,.slice none 0 0] 26)).cell? ⟨o,6,none⟩=some (.int .i64 0):=(qq (j:=6) d.o.obj rfl).trans (by rw [B.o];rfl);have M:(G.alloc (.cells #[.int .u8 0,.int .i64 0,.string ⟨#[]⟩,.slice none 0 0,.slice none 0 0] 26)).cell? ⟨o,0,none⟩=some (.int .u8 5):=(qq (j:=0) d.o.obj rfl).trans (by rw [f.o.kind];rfl);have P:(G.alloc (.cells #[.int .u8 0,.int .i64 0,.string ⟨#[]⟩,.slice none 0 0,.slice none 0 0] 26)).frozen? ⟨o,6,none⟩=false:=by simp [World.frozen?,d.o.obj]
     go_wp2_with fail
     refine (zR o 6 _ N M P).mono ?_;clear N M P;rintro e Y ⟨rfl,rfl⟩;have i:=U (d.o.fail 6);have L:=O0 (Touch (fun b=>b=o\/b=m) w ((G.alloc (.cells #[.int .u8 0,.int .i64 0,.string ⟨#[]⟩,.slice none 0 0,.slice none 0 0] 26)).setCell ⟨o,6,none⟩ (.int .i64 6))) ((Touch.of_below a.o lz).setCell (.inl (.inl rfl)) _);go_wp2;go_ret;exact ⟨by rw [p.o];rfl,by rw [p.o];exact i.o,L.o⟩
 . have a3:(st.err == 0)=false:=by simpa using he
   have a4:(st.err != 0)=true:=by simpa using he
   have p:=U (show qG v y l h st=(0,st) by unfold qG;rw [J3 he]);have B:=U he;clear he;go_enter Tryz.func62,Tryz.ntmps62;go_wp2_with fail;refine (zx o st.err 5 w R V (fun _=>rfl)).mono ?_;rintro r w' ⟨rfl,rfl⟩;go_wp2;go_ret;exact ⟨by rw [p.o];rfl,by rw [p.o];exact f.o,Touch.refl _ _⟩
theorem tY (o m lo hi:Nat) (v:JV) (an ai:Option Addr) (cn ci:Nat) (y:ByteArray) (l h:Int) (st:PS) (w:World) (q:PickAt o m lo hi v an ai cn ci st w) (x:y.size<=4294967296) (u:st.asked.length<=4294967296) (r:m<w.heap.size) (s:o<w.heap.size) :
 Calls Tryz.prog 28 #[.pointer (some ⟨o,0,none⟩),.string y,.int .i64 l,.int .i64 h] w (nW o m lo hi v an ai cn ci y l h st w):=by
 have a:O5 w ((w.alloc (.cells #[.int .i64 l] 2)).alloc (.cells #[.int .i64 h] 2)):=(O4).alloc (by simp) _;have f:(w.alloc (.cells #[.int .i64 l] 2)).heap.size=w.heap.size+1:=by simp
 have b:=Z5 (w.alloc (.cells #[.int .i64 l] 2)) (.cells #[.int .i64 h] 2);rw [f] at b;have k:=U (oY o m lo hi v an ai cn ci y l h st _ (q.below a) x u w.heap.size (w.heap.size+1) (by rw [X6 _ _ _ (by omega)];exact Z5 w _) b);have j:=U a;have p:=U (And.intro s r);clear q a f b s r;go_enter Tryz.func28,Tryz.ntmps28;go_wp2_with fail;refine k.o.mono ?_;rintro e w' ⟨rfl,c,d⟩;have g:=U c;have i:=U d;clear c d;go_wp2;go_ret;exact ⟨rfl,g.o,(Touch.of_below j.o lz).trans i.o⟩
def zO (it:JV) (most:Nat):Int:=if it.kind≠5 then 10 else if most<it.items.length then 5 else 0
theorem sG {it:JV} {a:Nat} (e:zO it a=0):it.kind=5/\¬a<it.items.length:=by
 unfold zO at e;split at e
 . omega
 split at e
 . omega
 . exact ⟨by omega,by omega⟩
theorem sB {it:JV} {a:List ByteArray} {c:Nat} {X:JV × PS} (e:¬zO it c=0) :
 (if it.kind≠5 then (zeroJ,(⟨a,10⟩:PS)) else if c<it.items.length then (zeroJ,⟨a,5⟩) else X)=(zeroJ,⟨a,zO it c⟩):=by
 unfold zO at e ⊢;split
 . rfl
 split
 . rfl
 . rename_i a b;rw [Z6 a,Z6 b] at e;omega
theorem oG (it:JV) (I J:Nat) (an' ai':Option Addr) (cn' ci':Nat) (w:World) (K:w.cell? ⟨J,0,none⟩=some (.int .i64 I)) :
 Calls Tryz.prog 72 #[.agg #[.int .u8 it.kind,.int .i64 it.n,.string it.t,.slice an' it.names.length cn',.slice ai' it.items.length ci'],.pointer (some ⟨J,0,none⟩)] w fun e w'=>e=.returned (.tuple #[if zO it I=0 then .agg #[.int .u8 it.kind,.int .i64 it.n,.string it.t,.slice an' it.names.length cn',.slice ai' it.items.length ci'] else zeroAgg,.int .i64 (zO it I)])/\O5 w w':=by
 have o:(w.alloc (.cells #[.int .u8 it.kind,.int .i64 it.n,.string it.t,.slice an' it.names.length cn',.slice ai' it.items.length ci'] 26)).heap.size=w.heap.size+1:=by simp
 have h:O5 w ((w.alloc (.cells #[.int .u8 it.kind,.int .i64 it.n,.string it.t,.slice an' it.names.length cn',.slice ai' it.items.length ci'] 26)).alloc (.cells #[.int .u8 0,.int .i64 0,.string ⟨#[]⟩,.slice none 0 0,.slice none 0 0] 26)):=(O4).alloc (by simp) _;have v:((w.alloc (.cells #[.int .u8 it.kind,.int .i64 it.n,.string it.t,.slice an' it.names.length cn',.slice ai' it.items.length ci'] 26)).alloc (.cells #[.int .u8 0,.int .i64 0,.string ⟨#[]⟩,.slice none 0 0,.slice none 0 0] 26)).cell? ⟨J,0,none⟩=some (.int .i64 I):=by rw [h.cell (G2 w _ K)];exact K
 have c:=(qg w (.int .u8 it.kind) (.int .i64 it.n) (.string it.t) (.slice an' it.names.length cn') (.slice ai' it.items.length ci') 26).alloc (.cells #[.int .u8 0,.int .i64 0,.string ⟨#[]⟩,.slice none 0 0,.slice none 0 0] 26);have a:=qg (w.alloc (.cells #[.int .u8 it.kind,.int .i64 it.n,.string it.t,.slice an' it.names.length cn',.slice ai' it.items.length ci'] 26)) (.int .u8 0) (.int .i64 0) (.string ⟨#[]⟩) (.slice none 0 0) (.slice none 0 0) 26;rw [o] at a;obtain ⟨m,g⟩:=O1 (((w.alloc (.cells #[.int .u8 it.kind,.int .i64 it.n,.string it.t,.slice an' it.names.length cn',.slice ai' it.items.length ci'] 26)).alloc (.cells #[.int .u8 0,.int .i64 0,.string ⟨#[]⟩,.slice none 0 0,.slice none 0 0] 26)));rw [<- g] at h v c a;obtain ⟨y,z,A,B,C⟩:=rc5 a;obtain ⟨D,E,F,G,H⟩:=rf5 a;obtain ⟨k,q,r,s,u⟩:=rc5 c;simp only [qo] at y z A B C k q r s u;have i:=U h;have f:=U a;have j:=U g;clear h c a o g;by_cases hk:it.kind=5
 . by_cases h1:I<it.items.length
   . have d:=U (show zO it I=5 by unfold zO;rw [Z6 (by simp [hk]),J3 h1]);have b:=U (show (if zO it I=0 then (.agg #[.int .u8 it.kind,.int .i64 it.n,.string it.t,.slice an' it.names.length cn',.slice ai' it.items.length ci']:Value) else zeroAgg)=zeroAgg by rw [d.o];rfl);rw [b.o,d.o];rw [hk] at k;have l:decide ((I:Int)<(it.items.length:Int))=true:=by simpa using h1
     clear hk;go_enter Tryz.func72,Tryz.ntmps72;go_upto_region 1 with fail
     rw [<- j.o];go_wp2;refine Z8 (qk Tryz.results72 _ _ (w.heap.size+1) 26 _ (0,0) _ rfl (qr (set5 _ _ _ _ _ f.o)) J7 rfl (by kernel_rfl) _ rfl) rfl ⟨rfl,zf _ _ _ _ _ i.o (by omega)⟩
   . have d:=U (show zO it I=0 by unfold zO;rw [Z6 (by simp [hk]),Z6 h1]);have b:=U (show (if zO it I=0 then (.agg #[.int .u8 it.kind,.int .i64 it.n,.string it.t,.slice an' it.names.length cn',.slice ai' it.items.length ci']:Value) else zeroAgg)=.agg #[.int .u8 it.kind,.int .i64 it.n,.string it.t,.slice an' it.names.length cn',.slice ai' it.items.length ci'] by rw [d.o];rfl);rw [b.o,d.o];have p:=U hk;rw [hk] at k;have l:decide ((I:Int)<(it.items.length:Int))=false:=by simpa using h1
     clear hk;go_enter Tryz.func72,Tryz.ntmps72;go_upto_region 1 with fail
     rw [<- j.o];go_wp2;refine Z8 (qk Tryz.results72 _ _ (w.heap.size+1) 26 _ (0,0) _ rfl (qr (set5 _ _ _ _ _ f.o)) J7 rfl (by kernel_rfl) _ rfl) rfl ⟨by rw [p.o] <;> rfl,zf _ _ _ _ _ i.o (by omega)⟩
 . have d:=U (show zO it I=10 by unfold zO;rw [J3 hk]);have b:=U (show (if zO it I=0 then (.agg #[.int .u8 it.kind,.int .i64 it.n,.string it.t,.slice an' it.names.length cn',.slice ai' it.items.length ci']:Value) else zeroAgg)=zeroAgg by rw [d.o];rfl);rw [b.o,d.o];have x:(it.kind == 5)=false:=by simpa using hk
   clear hk;go_enter Tryz.func72,Tryz.ntmps72;go_upto_region 1 with fail
   rw [<- j.o];go_wp2;refine Z8 (qk Tryz.results72 _ _ (w.heap.size+1) 26 _ (0,0) _ rfl (qr (set5 _ _ _ _ _ f.o)) J7 rfl (by kernel_rfl) _ rfl) rfl ⟨rfl,zf _ _ _ _ _ i.o (by omega)⟩
def wY (o m lo hi:Nat) (v:JV) (an ai:Option Addr) (cn ci:Nat) (y:ByteArray) (most:Nat) (st:PS) (w:World) (e:Ending) (w':World):Prop :=
 (∃an' cn' ai' ci',e=.returned (.agg #[.int .u8 (qf v y most st).1.kind,.int .i64 (qf v y most st).1.n,.string (qf v y most st).1.t,.slice an' (qf v y most st).1.names.length cn',.slice ai' (qf v y most st).1.items.length ci'])/\Rep w' w.heap.size w'.heap.size (qf v y most st).1 (.agg #[.int .u8 (qf v y most st).1.kind,.int .i64 (qf v y most st).1.n,.string (qf v y most st).1.t,.slice an' (qf v y most st).1.names.length cn',.slice ai' (qf v y most st).1.items.length ci'])) /\
 PickAt o m lo hi v an ai cn ci (qf v y most st).2 w'/\Touch (fun b=>b=o\/b=m) w w'
theorem PickAt.set5 {o m lo hi g:Nat} {v:JV} {an ai:Option Addr} {cn ci:Nat} {st:PS} {w:World} (h:PickAt o m lo hi v an ai cn ci st w) (v0 v1 v2 v3 v4:Value) (p:g≠o) (l:g≠m) (q:hi<=g):PickAt o m lo hi v an ai cn ci st (((((w.setCell ⟨g,0,none⟩ v0).setCell ⟨g,1,none⟩ v1).setCell ⟨g,2,none⟩ v2).setCell ⟨g,3,none⟩ v3).setCell ⟨g,4,none⟩ v4):=by
 have j:(((((w.setCell ⟨g,0,none⟩ v0).setCell ⟨g,1,none⟩ v1).setCell ⟨g,2,none⟩ v2).setCell ⟨g,3,none⟩ v3).setCell ⟨g,4,none⟩ v4).heap.size=w.heap.size:=eN;have a:=zf (b:=g) v0 v1 v2 v3 v4 (Z0 g w) lz;have c:=fun k (hk:k≠g)=>xJ (W:=w) v0 v1 v2 v3 v4 hk;refine ⟨by rw [c o (Ne.symm p)];exact h.obj,?_,?_,h.pos,h.o,by rw [j];exact h.le,h.kind,h.rise,h.len,h.wt⟩
 . obtain ⟨D,n,d,f,i⟩:=h.map;exact ⟨D,n,d.kept (row:=some g) ⟨a.os,a.tape,a.output,a.size,fun k hk hn=>c k (fun e=>hn (by rw [e]))⟩ (fun e=>l (X2 e).symm),f,i⟩
 . exact Rep.carry lz lz (fun k _ hk=>c k (by omega)) _ _ h.rep
theorem fg {o m lo hi:Nat} {v:JV} {an ai:Option Addr} {cn ci:Nat} {y:ByteArray} {j:Nat} {st q:PS} {it:JV} {w l:World} {lo1 hi1 g:Nat} {an' ai':Option Addr} {cn' ci':Nat} (h:qf v y j st=(it,q))
 (u:Rep l lo1 hi1 it (.agg #[.int .u8 it.kind,.int .i64 it.n,.string it.t,.slice an' it.names.length cn',.slice ai' it.items.length ci'])) (i:w.heap.size<=g) (A:g<lo1) (r:hi1<=l.heap.size) (s:PickAt o m lo hi v an ai cn ci q l) (x:Touch (fun b=>b=o\/b=m) w l) (C:g≠o) (B:g≠m) (z:hi<=g) :
 wY o m lo hi v an ai cn ci y j st w (.returned (.agg #[.int .u8 it.kind,.int .i64 it.n,.string it.t,.slice an' it.names.length cn',.slice ai' it.items.length ci'])) (((((l.setCell ⟨g,0,none⟩ (.int .u8 it.kind)).setCell ⟨g,1,none⟩ (.int .i64 it.n)).setCell ⟨g,2,none⟩ (.string it.t)).setCell ⟨g,3,none⟩ (.slice an' it.names.length cn')).setCell ⟨g,4,none⟩ (.slice ai' it.items.length ci')):=by
 have e:=fun k (hk:k≠g)=>xJ (W:=l) (.int .u8 it.kind) (.int .i64 it.n) (.string it.t) (.slice an' it.names.length cn') (.slice ai' it.items.length ci') hk;have f:=eN (W:=l) (b:=g) (v0:=.int .u8 it.kind) (v1:=.int .i64 it.n) (v2:=.string it.t) (v3:=.slice an' it.names.length cn') (v4:=.slice ai' it.items.length ci');have c:=Rep.carry (lo':=w.heap.size) (hi':=(((((l.setCell ⟨g,0,none⟩ (.int .u8 it.kind)).setCell ⟨g,1,none⟩ (.int .i64 it.n)).setCell ⟨g,2,none⟩ (.string it.t)).setCell ⟨g,3,none⟩ (.slice an' it.names.length cn')).setCell ⟨g,4,none⟩ (.slice ai' it.items.length ci')).heap.size) (by omega) (by rw [f];exact r) (fun k h1 _=>e k (by omega)) _ _ u;have a:=s.set5 (.int .u8 it.kind) (.int .i64 it.n) (.string it.t) (.slice an' it.names.length cn') (.slice ai' it.items.length ci') C B z;have d:=((((x.setCell (p:=⟨g,0,none⟩) (.inr i) (.int .u8 it.kind)).setCell (p:=⟨g,1,none⟩) (.inr i) (.int .i64 it.n)).setCell (p:=⟨g,2,none⟩) (.inr i) (.string it.t)).setCell (p:=⟨g,3,none⟩) (.inr i) (.slice an' it.names.length cn')).setCell (p:=⟨g,4,none⟩) (.inr i) (.slice ai' it.items.length ci');unfold wY;rw [h];exact ⟨⟨an',cn',ai',ci',rfl,c⟩,a,d⟩
theorem fp {o m lo hi:Nat} {v:JV} {an ai:Option Addr} {cn ci:Nat} {y:ByteArray} {a:Nat} {st c:PS} {w d:World} (h:qf v y a st=(zeroJ,c))
 (e:PickAt o m lo hi v an ai cn ci c d) (f:Touch (fun b=>b=o\/b=m) w d) (j:w.heap.size≠o) (i:w.heap.size≠m) (g:hi<=w.heap.size) :
 wY o m lo hi v an ai cn ci y a st w (.returned zeroAgg) (((((d.setCell ⟨w.heap.size,0,none⟩ (.int .u8 0)).setCell ⟨w.heap.size,1,none⟩ (.int .i64 0)).setCell ⟨w.heap.size,2,none⟩ (.string ⟨#[]⟩)).setCell ⟨w.heap.size,3,none⟩ (.slice none 0 0)).setCell ⟨w.heap.size,4,none⟩ (.slice none 0 0)) :=
 fg (it:=zeroJ) (an':=none) (ai':=none) (cn':=0) (ci':=0) (lo1:=w.heap.size+1) (hi1:=0) h (yP _ _ _) lz (by omega) (by omega) e f j i g
theorem oB (o m lo hi:Nat) (v:JV) (an ai:Option Addr) (cn ci:Nat) (y:ByteArray) (e7:Nat) (st:PS) (w:World) (hP:PickAt o m lo hi v an ai cn ci st w) (hy:y.size<=4294967296) (ha:st.asked.length<=4294967296) (p1:Nat) (g1:w.heap[p1]?=some (.cells #[.int .i64 e7] 3 (0,0))) :
 Calls Tryz.prog 71 #[.pointer (some ⟨o,0,none⟩),.string y,.func (.func 72) #[] #[.pointer (some ⟨p1,0,none⟩)]] w (wY o m lo hi v an ai cn ci y e7 st w):=by
 have ho:o<w.heap.size:=qz hP.obj;have hm:m<w.heap.size:=by obtain ⟨D,n,h,_⟩:=hP.map;exact h.lt
 have b3:=hP.le;obtain ⟨s,P⟩:=O1 ((w.alloc (.cells #[.int .u8 0,.int .i64 0,.string ⟨#[]⟩,.slice none 0 0,.slice none 0 0] 26)).alloc (.cells #[.int .u8 0,.int .i64 0,.string ⟨#[]⟩,.slice none 0 0,.slice none 0 0] 26));have b4:(w.alloc (.cells #[.int .u8 0,.int .i64 0,.string ⟨#[]⟩,.slice none 0 0,.slice none 0 0] 26)).heap.size=w.heap.size+1:=by simp
 have b5:s.heap.size=w.heap.size+2:=by rw [P];simp
 have a2:O5 w s:=by rw [P];exact (O4).alloc (by simp) _
 have a:s.rowIs w.heap.size 26 5 (qo (.int .u8 0) (.int .i64 0) (.string ⟨#[]⟩) (.slice none 0 0) (.slice none 0 0)):=by rw [P];exact (qg w (.int .u8 0) (.int .i64 0) (.string ⟨#[]⟩) (.slice none 0 0) (.slice none 0 0) 26).alloc _
 have d:s.rowIs (w.heap.size+1) 26 5 (qo (.int .u8 0) (.int .i64 0) (.string ⟨#[]⟩) (.slice none 0 0) (.slice none 0 0)):=(by have:=qg (w.alloc (.cells #[.int .u8 0,.int .i64 0,.string ⟨#[]⟩,.slice none 0 0,.slice none 0 0] 26)) (.int .u8 0) (.int .i64 0) (.string ⟨#[]⟩) (.slice none 0 0) (.slice none 0 0) 26;rw [b4,<- P] at this;exact this);have z:=U (hP.below a2);have a9:=U ((a2.block _ (qz g1)).trans g1);have G:=U (And.intro ho (And.intro hm (And.intro b3 b5)));have H:=U a2;have A:=U a;have J:=U d;have HW:=U P;clear hP g1 ho hm b3 b4 b5 a2 a d P;have c6:=qq z.o.obj (j:=6) rfl;have c0:s.cell? ⟨o,0,none⟩=some (.int .u8 5):=(qq (j:=0) z.o.obj rfl).trans (by rw [z.o.kind];rfl);by_cases he:st.err=0
 . rw [he] at c6;have HE:=U he;clear he;have c1:=qq z.o.obj (j:=1) rfl;have c2:=qq z.o.obj (j:=2) rfl;have c3:=qq z.o.obj (j:=3) rfl;have c4:=qq z.o.obj (j:=4) rfl;have HR:=U z.o.rep;rw [z.o.kind] at HR;have HG:=U (jB v y _ s lo hi z.o.wt z.o.pos z.o.le HR.o z.o.kind z.o.rise z.o.len);go_enter Tryz.func71,Tryz.ntmps71;go_upto_region 2 with fail
   rw [<- HW.o];go_wp2_with fail;refine (zx o 0 5 s c6 c0 (fun _=>rfl)).mono ?_;rintro r w' ⟨rfl,h'⟩;subst h';go_wp2_with fail;refine HG.o.mono ?_;clear HG c0 c1 c2 c3 c4 c6 HR;rintro e M ⟨hh,Y⟩;have a4:=U Y;have d4:=U (qj Y A.o A.o.lt);have e0:=U (qj Y J.o J.o.lt);have hz:=Y.size;clear Y;rcases hh with ⟨r,hr1,hr2,hre,an',cn',ai',ci',rfl,hrep⟩|⟨hno,rfl⟩
   . have HL:=U (jd z.o.rise r hr1 hr2 hre);have b1:=U hrep;clear hre hrep;generalize v.items[r]=it at *;clear hr1 hr2;have a7:O5 s (M.alloc (.cells #[.int .u8 it.kind,.int .i64 it.n,.string it.t,.slice an' it.names.length cn',.slice ai' it.items.length ci'] 26)):=a4.o.alloc a4.o.size _;have HC:=U (oG it e7 p1 an' ai' cn' ci' (M.alloc (.cells #[.int .u8 it.kind,.int .i64 it.n,.string it.t,.slice an' it.names.length cn',.slice ai' it.items.length ci'] 26)) (qq ((a7.block _ (qz a9.o)).trans a9.o) rfl));have C:=U a7;clear a7;by_cases hk:zO it e7=0
     . have HX:=U (show qf v y e7 st=(it,⟨y :: st.asked,0⟩) by unfold qf;rw [Z6 (by simp [HE.o]),HL.o];obtain ⟨q1,q2⟩:=sG hk;simp only;rw [Z6 (by simp [q1]),Z6 q2]);have HC:=O0 (Calls Tryz.prog 72 #[.agg #[.int .u8 it.kind,.int .i64 it.n,.string it.t,.slice an' it.names.length cn',.slice ai' it.items.length ci'],.pointer (some ⟨p1,0,none⟩)] (M.alloc (.cells #[.int .u8 it.kind,.int .i64 it.n,.string it.t,.slice an' it.names.length cn',.slice ai' it.items.length ci'] 26)) (fun e w'=>e=.returned (.tuple #[.agg #[.int .u8 it.kind,.int .i64 it.n,.string it.t,.slice an' it.names.length cn',.slice ai' it.items.length ci'],.int .i64 0])/\Below (M.alloc (.cells #[.int .u8 it.kind,.int .i64 it.n,.string it.t,.slice an' it.names.length cn',.slice ai' it.items.length ci'] 26)).heap.size (M.alloc (.cells #[.int .u8 it.kind,.int .i64 it.n,.string it.t,.slice an' it.names.length cn',.slice ai' it.items.length ci'] 26)) w')) (by have h:=HC.o;rw [hk] at h;exact h);clear hk;go_wp2_with fail;refine HC.o.mono ?_;clear HC;rintro e Q ⟨rfl,F⟩;obtain ⟨u,i⟩:=O1 (Q.alloc (.cells #[.int .u8 it.kind,.int .i64 it.n,.string it.t,.slice an' it.names.length cn',.slice ai' it.items.length ci'] 26));have b6:M.heap.size+1<=Q.heap.size:=by have:=F.size;simpa using this
       have l:O5 s u:=by rw [i];exact (O2 C F).alloc (O2 C F).size _
       have a3:=O9 i
       have Z:∀k,k<M.heap.size->u.heap[k]?=M.heap[k]?:=fun k hk=>by rw [i,X6 _ _ _ (by omega),F.block k (by simp;omega),X6 _ _ _ hk]
       have g:=U a3;have b7:=U Z;have I:=U l;have a5:=U b6;have b2:=U (show u.heap.size=Q.heap.size+1 by rw [i];simp);have W:=U i;have q:=U (z.o.below I.o);have B:=U (qj I.o A.o A.o.lt);clear F a3 Z l b6 i C;have d5:=qq q.o.obj (j:=5) rfl;have a0:keyOf Tryz.prog 9 (.string y)=some (.string y.data.toList):=keyOf_string_mk Y9 (by unfold maxLen;omega);obtain ⟨D,n,a1,hn,hD⟩:=q.o.map;obtain ⟨c,a6,e2,e3,d2⟩:=hD.2 y;obtain ⟨c',e1,X,_⟩:=a1.lookup_int jl V9 Y6 (kO _) a0;rw [a6] at X;simp only [za0,zb7,za5] at X;subst X;have HD:=U (hD.cons y c a6);have c5:=U a0;have c7:=U a1;clear hD a6 d2 a0 a1;go_upto_region 9 with fail
       rw [<- W.o];go_wp2_with (at_mapUpdate;refine M4 _ rfl _ _ _ 115 rfl 9 3 jl V9 _ m n D rfl c7.o (by unfold maxLen;omega) _ _ _ rfl rfl c5.o _ [] (plainElem_int Y6 (WalkArith.wf_i64 (by omega))) ?_;intro L hown3 hgrow3;have b0:=U hown3;have f:=U hgrow3;clear hown3 hgrow3;have T:=O0 (Q.heap.size≠m) (by have:=G.o;have:=a5.o;omega);have x0:L.cell? ⟨Q.heap.size,0,none⟩=_:=qq ((f.o.block _ (qz g.o) (fun e=>T.o (X2 e))).trans g.o) rfl;have x1:L.cell? ⟨Q.heap.size,1,none⟩=_:=qq ((f.o.block _ (qz g.o) (fun e=>T.o (X2 e))).trans g.o) rfl;have x2:L.cell? ⟨Q.heap.size,2,none⟩=_:=qq ((f.o.block _ (qz g.o) (fun e=>T.o (X2 e))).trans g.o) rfl;have x3:L.cell? ⟨Q.heap.size,3,none⟩=_:=qq ((f.o.block _ (qz g.o) (fun e=>T.o (X2 e))).trans g.o) rfl;have x4:L.cell? ⟨Q.heap.size,4,none⟩=_:=qq ((f.o.block _ (qz g.o) (fun e=>T.o (X2 e))).trans g.o) rfl;have a:=B.o.of_block (f.o.block _ B.o.lt (fun e=>by have:=X2 e;have:=G.o;omega));obtain ⟨t0,t1,t2,t3,t4⟩:=rc5 a;obtain ⟨s0,s1,s2,s3,s4⟩:=rf5 a;simp only [qo] at t0 t1 t2 t3 t4;have E:=U a;clear a);have N:=U (q.o.ask y f.o b0.o (by omega) HD.o);have HT:=U (show Touch (fun b=>b=o\/b=m) w L from by
        have h1:=H.o.trans (I.o.mono H.o.size);have h2:=f.o;exact ⟨by rw [h2.os,h1.os],by rw [h2.tape,h1.tape],by rw [h2.output,h1.output],Z3 h1.size h2.size,fun k hk hs=>by rw [h2.block k (X1 hk h1.size) (fun e=>hs (.inr (X2 e))),h1.block k hk]⟩)
       have c9:=U (Rep.carry (lo':=s.heap.size) (hi':=M.heap.size) lz lz (fun k h1 h2=>(f.o.block k (by have:=b2.o;have:=a5.o;omega) (fun e=>by have:=X2 e;have:=G.o;omega)).trans (b7.o k h2)) _ _ b1.o);have d1:=O0 (M.heap.size<=L.heap.size) (by have:=f.o.size;have:=b2.o;have:=a5.o;omega);rw [HE.o] at N;have x:=O0 (w.heap.size≠o/\w.heap.size≠m) (by have:=G.o;omega);go_wp2;refine Z8 (X8 Tryz.results71 _ _ w.heap.size 26 _ (0,0) _ rfl (qr (set5 _ _ _ _ _ E.o)) J7 rfl (by kernel_rfl)) rfl ?_;exact fg HX.o c9.o lz (by have:=G.o;omega) d1.o N.o HT.o x.o.1 x.o.2 G.o.2.2.1
     . have HX:=U (show qf v y e7 st=(zeroJ,⟨st.asked,zO it e7⟩) by unfold qf;rw [Z6 (by simp [HE.o]),HL.o];exact sB hk);obtain ⟨er,a8⟩:=O1 (zO it e7);have HC:=O0 (Calls Tryz.prog 72 #[.agg #[.int .u8 it.kind,.int .i64 it.n,.string it.t,.slice an' it.names.length cn',.slice ai' it.items.length ci'],.pointer (some ⟨p1,0,none⟩)] (M.alloc (.cells #[.int .u8 it.kind,.int .i64 it.n,.string it.t,.slice an' it.names.length cn',.slice ai' it.items.length ci'] 26)) (fun e w'=>e=.returned (.tuple #[zeroAgg,.int .i64 er])/\Below (M.alloc (.cells #[.int .u8 it.kind,.int .i64 it.n,.string it.t,.slice an' it.names.length cn',.slice ai' it.items.length ci'] 26)).heap.size (M.alloc (.cells #[.int .u8 it.kind,.int .i64 it.n,.string it.t,.slice an' it.names.length cn',.slice ai' it.items.length ci'] 26)) w')) (by have h:=HC.o;rw [Z6 hk,<- a8] at h;exact h);rw [<- a8] at HX hk;have e5:(er != 0)=true:=by simpa using hk
       have e6:(er == 0)=false:=by simpa using hk
       clear hk a8;go_wp2_with fail;refine HC.o.mono ?_;clear HC;rintro e Q ⟨rfl,F⟩;have R:=U (O2 C F);clear F C;unfold zeroAgg;obtain ⟨u,i⟩:=O1 (Q.alloc (.cells #[.int .u8 0,.int .i64 0,.string ⟨#[]⟩,.slice none 0 0,.slice none 0 0] 26));have l:O5 s u:=by rw [i];exact R.o.alloc R.o.size _
       have q:=U (z.o.below l);have a:=qj l A.o A.o.lt;have d:=qj l J.o J.o.lt;have I:=U l;have B:=U a;have V:=U d;have W:=U i;clear l a d i;have d6:u.cell? ⟨o,6,none⟩=some (.int .i64 0):=(qq (j:=6) q.o.obj rfl).trans (by rw [HE.o];rfl);have d0:u.cell? ⟨o,0,none⟩=some (.int .u8 5):=(qq (j:=0) q.o.obj rfl).trans (by rw [z.o.kind];rfl);have d7:u.frozen? ⟨o,6,none⟩=false:=by simp [World.frozen?,q.o.obj]
       go_upto_region 9 with fail
       rw [<- W.o];go_wp2_with fail;refine (zR o er u d6 d0 d7).mono ?_;clear d6 d0 d7;rintro e L ⟨rfl,h3⟩;have K:=O0 (Touch (fun b=>b=o) u L) (by rw [h3];exact Touch.setCell (S:=fun b=>b=o) (p:=⟨o,6,none⟩) (Touch.refl _ _) (.inl rfl) _);have N:=O0 (PickAt o m lo hi v an ai cn ci ⟨st.asked,er⟩ L) (by rw [h3];exact q.o.fail er);clear h3;have a:=K.o.row B.o (by have:=G.o;omega);have d:=K.o.row V.o (by have:=G.o;omega);obtain ⟨t0,t1,t2,t3,t4⟩:=rc5 a;obtain ⟨s0,s1,s2,s3,s4⟩:=rf5 a;obtain ⟨z0,z1,z2,z3,z4⟩:=rc5 d;simp only [qo] at t0 t1 t2 t3 t4 z0 z1 z2 z3 z4;have E:=U a;clear a d;have HT:=O0 (Touch (fun b=>b=o\/b=m) w L) ((Touch.of_below (H.o.trans (I.o.mono H.o.size)) lz).trans (K.o.mono (fun k _ h=>.inl h)));have x:=O0 (w.heap.size≠o/\w.heap.size≠m) (by have:=G.o;omega);go_wp2;refine Z8 (X8 Tryz.results71 _ _ w.heap.size 26 _ (0,0) _ rfl (qr (set5 _ _ _ _ _ E.o)) J7 rfl (by kernel_rfl)) rfl ?_;exact fp HX.o N.o HT.o x.o.1 x.o.2 G.o.2.2.1
   . have HX:=U (show qf v y e7 st=(zeroJ,⟨st.asked,6⟩) by unfold qf;rw [Z6 (by simp [HE.o]),show v.look y=none from xu _ _ _ hno]);clear hno;have R:=U a4.o;unfold zeroAgg;obtain ⟨u,i⟩:=O1 (M.alloc (.cells #[.int .u8 0,.int .i64 0,.string ⟨#[]⟩,.slice none 0 0,.slice none 0 0] 26));have l:O5 s u:=by rw [i];exact R.o.alloc R.o.size _
     have q:=U (z.o.below l);have a:=qj l A.o A.o.lt;have d:=qj l J.o J.o.lt;have I:=U l;have B:=U a;have V:=U d;have W:=U i;clear l a d i;have d6:u.cell? ⟨o,6,none⟩=some (.int .i64 0):=(qq (j:=6) q.o.obj rfl).trans (by rw [HE.o];rfl);have d0:u.cell? ⟨o,0,none⟩=some (.int .u8 5):=(qq (j:=0) q.o.obj rfl).trans (by rw [z.o.kind];rfl);have d7:u.frozen? ⟨o,6,none⟩=false:=by simp [World.frozen?,q.o.obj]
     go_upto_region 5 with fail
     rw [<- W.o];go_wp2_with fail;refine (zR o 6 u d6 d0 d7).mono ?_;clear d6 d0 d7;rintro e L ⟨rfl,h3⟩;have K:=O0 (Touch (fun b=>b=o) u L) (by rw [h3];exact Touch.setCell (S:=fun b=>b=o) (p:=⟨o,6,none⟩) (Touch.refl _ _) (.inl rfl) _);have N:=O0 (PickAt o m lo hi v an ai cn ci ⟨st.asked,6⟩ L) (by rw [h3];exact q.o.fail 6);clear h3;have a:=K.o.row B.o (by have:=G.o;omega);have d:=K.o.row V.o (by have:=G.o;omega);obtain ⟨t0,t1,t2,t3,t4⟩:=rc5 a;obtain ⟨s0,s1,s2,s3,s4⟩:=rf5 a;obtain ⟨z0,z1,z2,z3,z4⟩:=rc5 d;simp only [qo] at t0 t1 t2 t3 t4 z0 z1 z2 z3 z4;have E:=U a;clear a d;have HT:=O0 (Touch (fun b=>b=o\/b=m) w L) ((Touch.of_below (H.o.trans (I.o.mono H.o.size)) lz).trans (K.o.mono (fun k _ h=>.inl h)));have x:=O0 (w.heap.size≠o/\w.heap.size≠m) (by have:=G.o;omega);go_wp2;refine Z8 (X8 Tryz.results71 _ _ w.heap.size 26 _ (0,0) _ rfl (qr (set5 _ _ _ _ _ E.o)) J7 rfl (by kernel_rfl)) rfl ?_;exact fp HX.o N.o HT.o x.o.1 x.o.2 G.o.2.2.1
 . have d3:(st.err == 0)=false:=by simpa using he
   have e4:(st.err != 0)=true:=by simpa using he
   have HX:=U (show qf v y e7 st=(zeroJ,st) by unfold qf;rw [J3 he]);clear he;have a:=A.o;have d:=J.o;obtain ⟨t0,t1,t2,t3,t4⟩:=rc5 a;obtain ⟨s0,s1,s2,s3,s4⟩:=rf5 a;obtain ⟨z0,z1,z2,z3,z4⟩:=rc5 d;simp only [qo] at t0 t1 t2 t3 t4 z0 z1 z2 z3 z4;clear a d;have HT:=O0 (Touch (fun b=>b=o\/b=m) w s) (Touch.of_below H.o lz);have x:=O0 (w.heap.size≠o/\w.heap.size≠m) (by have:=G.o;omega);go_enter Tryz.func71,Tryz.ntmps71;go_upto_region 2 with fail
   rw [<- HW.o];go_wp2_with fail;refine (zx o st.err 5 s c6 c0 (fun h=>by simp [h] at d3)).mono ?_;rintro r w' ⟨rfl,h'⟩;subst h';go_wp2;refine Z8 (X8 Tryz.results71 _ _ w.heap.size 26 _ (0,0) _ rfl (qr (set5 _ _ _ _ _ A.o)) J7 rfl (by kernel_rfl)) rfl ?_;exact fp HX.o z.o HT.o x.o.1 x.o.2 G.o.2.2.1
theorem tG (o m lo hi:Nat) (v:JV) (an ai:Option Addr) (cn ci:Nat) (y:ByteArray) (a0:Nat) (st:PS) (w:World) (hP:PickAt o m lo hi v an ai cn ci st w) (hy:y.size<=4294967296) (ha:st.asked.length<=4294967296) :
 Calls Tryz.prog 31 #[.pointer (some ⟨o,0,none⟩),.string y,.int .i64 a0] w (wY o m lo hi v an ai cn ci y a0 st w):=by
 have J:o<w.heap.size:=qz hP.obj;have I:m<w.heap.size:=by obtain ⟨D,n,h,_⟩:=hP.map;exact h.lt
 have l:=hP.le;obtain ⟨g,c⟩:=O1 ((w.alloc (.cells #[.int .i64 a0] 3)).alloc (.cells #[.int .u8 0,.int .i64 0,.string ⟨#[]⟩,.slice none 0 0,.slice none 0 0] 26));have p:(w.alloc (.cells #[.int .i64 a0] 3)).heap.size=w.heap.size+1:=by simp
 have q:g.heap.size=w.heap.size+2:=by rw [c];simp
 have i:O5 w g:=by rw [c];exact (O4).alloc (by simp) _
 have H:g.heap[w.heap.size]?=some (.cells #[.int .i64 a0] 3 (0,0)):=by rw [c,X6 _ _ _ (by simp)];exact Z5 w _
 have a:g.rowIs (w.heap.size+1) 26 5 (qo (.int .u8 0) (.int .i64 0) (.string ⟨#[]⟩) (.slice none 0 0) (.slice none 0 0)):=(by have:=qg (w.alloc (.cells #[.int .i64 a0] 3)) (.int .u8 0) (.int .i64 0) (.string ⟨#[]⟩) (.slice none 0 0) (.slice none 0 0) 26;rw [p,<- c] at this;exact this);have G:=U (oB o m lo hi v an ai cn ci y a0 st g (hP.below i) hy ha w.heap.size H);have u:=U (And.intro J (And.intro I (And.intro l q)));have s:=U i;have z:=U a;have L:=U c;clear hP J I l p q i H a c;go_enter Tryz.func31,Tryz.ntmps31;go_upto_region 1 with fail
 rw [<- L.o];go_wp2_with fail;refine G.o.mono ?_;clear G;rintro e Y ⟨⟨P,R,N,Q,rfl,d⟩,C,E⟩;obtain ⟨K,r,F⟩:∃K r,qf v y a0 st=(K,r):=⟨_,_,rfl⟩;rw [F] at d C ⊢;have M:=U F;have k:=U d;have x:=U C;have A:=U E;have a:=E.row z.o (by have:=u.o;omega);clear F d C E;obtain ⟨S,T,V,W,X⟩:=rc5 a;obtain ⟨Z,s1,s2,s3,s4⟩:=rf5 a;simp only [qo] at S T V W X;have j:=U a;clear a;have B:=O0 (Touch (fun b=>b=o\/b=m) w Y) ((Touch.of_below s.o lz).trans A.o);have f:=O0 (w.heap.size+1≠o/\w.heap.size+1≠m/\hi<=w.heap.size+1) (by have:=u.o;omega);go_wp2;refine Z8 (X8 Tryz.results31 _ _ (w.heap.size+1) 26 _ (0,0) _ rfl (qr (set5 _ _ _ _ _ j.o)) J7 rfl (by kernel_rfl)) rfl ?_;exact fg M.o k.o (za1 _) (by have:=u.o;omega) lz x.o B.o f.o.1 f.o.2.1 f.o.2.2
theorem Qw (o:Nat) (u:Int) (y:ByteArray) (l h:Int) (w:World) (v:xy o u w) (x:o<w.heap.size) :
 Calls Tryz.prog 28 #[.pointer (some ⟨o,0,none⟩),.string y,.int .i64 l,.int .i64 h] w fun e w'=>e=.returned (.int .i64 0)/\O5 w w':=by
 obtain ⟨c,a⟩:=O1 ((w.alloc (.cells #[.int .i64 l] 2)).alloc (.cells #[.int .i64 h] 2));have b:O5 w c:=by rw [a];exact (O4).alloc (by simp) _
 obtain ⟨d,i,k,g⟩:=v.below b x;have f:=U b;have p:=U a;clear a b v;have m:=U (show ∀fv,Calls Tryz.prog 62 #[.pointer (some ⟨o,0,none⟩),.string y,fv] c (fun e w'=>e=.returned (.int .i64 0)/\c=w') from fun fv=>by
  have q:(u == 0)=false:=by simpa using d
  have s:(u != 0)=true:=by simpa using d
  have j:=U d;clear d;go_enter Tryz.func62,Tryz.ntmps62;go_wp2_with fail;refine (zx o u k c i g (fun h=>absurd h j.o)).mono ?_;rintro r w' ⟨rfl,rfl⟩;go_wp2;go_ret;exact ⟨rfl,rfl⟩)
 clear d i g;go_enter Tryz.func28,Tryz.ntmps28;go_wp2_with fail;rw [<- p.o];refine (m.o _).mono ?_;rintro e w' ⟨rfl,rfl⟩;go_wp2;go_ret;exact ⟨rfl,f.o⟩
theorem oP (o:Nat) (i e:Int) (w:World) (h:xy o i w) :
 Calls Tryz.prog 27 #[.pointer (some ⟨o,0,none⟩),.int .i64 e] w fun r w'=>r=.returned (.tuple #[])/\w'=w:=by
 obtain ⟨a,d,k,c⟩:=h;have f:(i == 0)=false:=by simpa using a
 have g:(i != 0)=true:=by simpa using a
 have b:=U a;clear a;go_enter Tryz.func27,Tryz.ntmps27;go_wp2_with fail;refine (zx o i k w d c (fun h=>absurd h b.o)).mono ?_;rintro r w' ⟨rfl,rfl⟩;go_wp2
 go_end0
 exact ⟨rfl,rfl⟩
theorem Qy (o:Nat) (Z:Int) (y:ByteArray) (Y:Int) (w:World) (hb:xy o Z w) (ho:o<w.heap.size) :
 Calls Tryz.prog 31 #[.pointer (some ⟨o,0,none⟩),.string y,.int .i64 Y] w fun e w'=>e=.returned (.agg #[.int .u8 0,.int .i64 0,.string ⟨#[]⟩,.slice none 0 0,.slice none 0 0])/\O5 w w':=by
 have J:=U (show ∀(fv:Value) (a:World),xy o Z a->o<a.heap.size->Calls Tryz.prog 71 #[.pointer (some ⟨o,0,none⟩),.string y,fv] a (fun e w'=>e=.returned (.agg #[.int .u8 0,.int .i64 0,.string ⟨#[]⟩,.slice none 0 0,.slice none 0 0])/\O5 a w') from fun fv a hp hz=>by
  obtain ⟨p,b⟩:=O1 ((a.alloc (.cells #[.int .u8 0,.int .i64 0,.string ⟨#[]⟩,.slice none 0 0,.slice none 0 0] 26)).alloc (.cells #[.int .u8 0,.int .i64 0,.string ⟨#[]⟩,.slice none 0 0,.slice none 0 0] 26));have m:O5 a p:=by rw [b];exact (O4).alloc (by simp) _
  have d:(a.alloc (.cells #[.int .u8 0,.int .i64 0,.string ⟨#[]⟩,.slice none 0 0,.slice none 0 0] 26)).heap.size=a.heap.size+1:=by simp
  have i:p.rowIs a.heap.size 26 5 (qo (.int .u8 0) (.int .i64 0) (.string ⟨#[]⟩) (.slice none 0 0) (.slice none 0 0)):=(by rw [b];exact qj O4 (qg a (.int .u8 0) (.int .i64 0) (.string ⟨#[]⟩) (.slice none 0 0) (.slice none 0 0) 26) (by simp));have c:p.rowIs (a.heap.size+1) 26 5 (qo (.int .u8 0) (.int .i64 0) (.string ⟨#[]⟩) (.slice none 0 0) (.slice none 0 0)):=(by have:=qg (a.alloc (.cells #[.int .u8 0,.int .i64 0,.string ⟨#[]⟩,.slice none 0 0,.slice none 0 0] 26)) (.int .u8 0) (.int .i64 0) (.string ⟨#[]⟩) (.slice none 0 0) (.slice none 0 0) 26;rw [d,<- b] at this;exact this);obtain ⟨v,M,k,L⟩:=hp.below m hz;have P:(Z == 0)=false:=by simpa using v
  have Q:(Z != 0)=true:=by simpa using v
  have K:=U v;obtain ⟨E,F,G,H,I⟩:=rc5 i;obtain ⟨R,S,T,V,W⟩:=rf5 i;obtain ⟨u0,u1,u2,u3,u4⟩:=rc5 c;simp only [qo] at E F G H I u0 u1 u2 u3 u4;have A:=U i;have z:=U m;have D:=U b;clear v b m i c d;go_enter Tryz.func71,Tryz.ntmps71;go_upto_region 2 with fail
  rw [<- D.o];go_wp2_with fail;refine (zx o Z k p M L (fun h=>absurd h K.o)).mono ?_;rintro r w' ⟨rfl,N⟩;subst N;go_wp2;refine Z8 (X8 Tryz.results71 _ _ a.heap.size 26 _ (0,0) _ rfl (qr (set5 _ _ _ _ _ A.o)) J7 rfl (by kernel_rfl)) rfl ?_;exact ⟨rfl,zf _ _ _ _ _ z.o lz⟩)
 obtain ⟨a,f⟩:=O1 ((w.alloc (.cells #[.int .i64 Y] 3)).alloc (.cells #[.int .u8 0,.int .i64 0,.string ⟨#[]⟩,.slice none 0 0,.slice none 0 0] 26));have g:O5 w a:=by rw [f];exact (O4).alloc (by simp) _
 have d:(w.alloc (.cells #[.int .i64 Y] 3)).heap.size=w.heap.size+1:=by simp
 have c:a.rowIs (w.heap.size+1) 26 5 (qo (.int .u8 0) (.int .i64 0) (.string ⟨#[]⟩) (.slice none 0 0) (.slice none 0 0)):=(by have:=qg (w.alloc (.cells #[.int .i64 Y] 3)) (.int .u8 0) (.int .i64 0) (.string ⟨#[]⟩) (.slice none 0 0) (.slice none 0 0) 26;rw [d,<- f] at this;exact this);have u:=U (fun fv=>J.o fv a (hb.below g ho) (X1 ho g.size));have q:=U g;have s:=U c;have C:=U f;clear f g c d hb J;go_enter Tryz.func31,Tryz.ntmps31;go_upto_region 1 with fail
 rw [<- C.o];go_wp2_with fail;refine (u.o _).mono ?_;clear u;rintro r X ⟨rfl,l⟩;have j:=qj l s.o s.o.lt;have B:=U j;have x:=U (O2 q l);obtain ⟨E,F,G,H,I⟩:=rc5 j;obtain ⟨R,S,T,V,W⟩:=rf5 j;simp only [qo] at E F G H I;clear j l;go_wp2;refine Z8 (X8 Tryz.results31 _ _ (w.heap.size+1) 26 _ (0,0) _ rfl (qr (set5 _ _ _ _ _ B.o)) J7 rfl (by kernel_rfl)) rfl ?_;exact ⟨rfl,zf _ _ _ _ _ x.o (by omega)⟩
def tB (o m lo hi:Nat) (v:JV) (an ai:Option Addr) (cn ci:Nat) (st:PS) (w:World) (r:Ending) (w':World):Prop:=r=.returned (.tuple #[])/\PickAt o m lo hi v an ai cn ci st w'/\Touch (fun b=>b=o\/b=m) w w'
theorem sP (o m lo hi:Nat) (v:JV) (an ai:Option Addr) (cn ci:Nat) (e:Int) (st:PS) (w:World) (l:PickAt o m lo hi v an ai cn ci st w) :
 Calls Tryz.prog 27 #[.pointer (some ⟨o,0,none⟩),.int .i64 e] w (tB o m lo hi v an ai cn ci (st.fail e) w):=by
 have a:=qq l.obj (j:=6) rfl;have b:w.cell? ⟨o,0,none⟩=some (.int .u8 5):=(qq (j:=0) l.obj rfl).trans (by rw [l.kind];rfl);have d:w.frozen? ⟨o,6,none⟩=false:=by simp [World.frozen?,l.obj]
 by_cases he:st.err=0
 . rw [he] at a;refine (zR o e w a b d).mono ?_;rintro r w' ⟨rfl,rfl⟩;refine ⟨rfl,?_,(Touch.refl _ _).setCell (.inl (.inl rfl)) _⟩;unfold PS.fail;rw [J3 he];exact l.fail e
 . have c:(st.err == 0)=false:=by simpa using he
   have i:=U (show st.fail e=st by unfold PS.fail;rw [Z6 he]);have g:=U l;have f:=U (zx o st.err 5 w a b (fun h=>by simp [h] at c));clear l he a b d;go_enter Tryz.func27,Tryz.ntmps27;go_wp2_with fail;refine f.o.mono ?_;rintro r w' ⟨rfl,k⟩;subst w';go_wp2
   go_end0
   exact ⟨rfl,by rw [i.o];exact g.o,Touch.refl _ _⟩
theorem PickAt.touch {o m lo hi g:Nat} {v:JV} {an ai:Option Addr} {cn ci:Nat} {st:PS} {w w':World} (h:PickAt o m lo hi v an ai cn ci st w) (i:Touch (fun b=>b=g) w w') (l:g≠o) (j:g≠m) (p:hi<=g):PickAt o m lo hi v an ai cn ci st w':=by
 have a:o<w.heap.size:=qz h.obj;refine ⟨by rw [i.block o a (fun e=>l e.symm)];exact h.obj,?_,?_,h.pos,h.o,Z3 h.le i.size,h.kind,h.rise,h.len,h.wt⟩
 . obtain ⟨D,n,c,d,f⟩:=h.map;exact ⟨D,n,c.kept (row:=some g) ⟨i.os,i.tape,i.output,i.size,fun k hk hn=>i.block k hk (fun e=>hn (by rw [e]))⟩ (fun e=>j (X2 e).symm),d,f⟩
 . exact Rep.carry lz lz (fun k _ hk=>i.block k (X1 hk h.le) (by omega)) _ _ h.rep
theorem qp {w:World} {g j:Nat} (u:Value):Touch (fun b=>b=g) w (w.setCell ⟨g,j,none⟩ u):=Touch.setCell (S:=fun b=>b=g) (p:=⟨g,j,none⟩) (Touch.refl _ _) (.inl rfl) u
theorem gf {v:JV} {y:ByteArray} {l h:Int} {st:PS}:(qG v y l h st).2.asked.length<=st.asked.length+1:=by
 unfold qG;split
 . simp
 split
 . simp
 split
 . simp
 split <;> simp
theorem xy.touch {o p:Nat} {e:Int} {w w':World} (h:xy o e w) (i:Touch (fun b=>b=p) w w') (g:o<w.heap.size) (f:o≠p):xy o e w':=by obtain ⟨a,c,k,d⟩:=h;exact ⟨a,by rw [i.cell (p:=⟨o,6,none⟩) g f];exact c,k,by rw [i.cell (p:=⟨o,0,none⟩) g f];exact d⟩
theorem xz {st:PS} {e:Int}:(st.fail e).asked=st.asked:=by unfold PS.fail;split <;> rfl
theorem ff {v:JV} {y:ByteArray} {st:PS}:(qw v y st).2.asked.length<=st.asked.length+1:=by
 unfold qw;split
 . simp
 split
 . simp
 . split <;> simp
