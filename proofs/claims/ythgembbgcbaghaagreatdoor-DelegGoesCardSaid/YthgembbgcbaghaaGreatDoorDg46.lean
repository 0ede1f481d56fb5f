import Derived.Test.YthgembbgcbaghaaGreatDoorDg45
set_option maxHeartbeats 1000000
set_option maxRecDepth 100000

namespace Go.Proofs.YthgembbgcbaghaaGreatDoor
open Go.RowKit
theorem ww (s:S8):∀i,i<8->(jq s)[i]?=some (.int .u32 (s.at i)):=by intro i hi;simp [jq,hi]
theorem bH {s:S8} {c:Array Value} (b:c.size=8) (a:∀i,i<8->c[i]?=some (.int .u32 (s.at i))):c=jq s:=by
 apply Array.ext
 . rw [b];simp [jq]
 . intro i h1 h2;have:=a i (by omega);rw [<- ww s i (by omega),K0 h1,K0 h2] at this;exact Y9 this
theorem dg {W:World} {b c t n:Nat} {f:Nat->Value} (v0 v1 v2 v3 v4 d e g:Value) (h:W.rowIs b t n f) (a:b≠c) :
 ((((((((W.setCell ⟨c,0,none⟩ v0).setCell ⟨c,1,none⟩ v1).setCell ⟨c,2,none⟩ v2).setCell ⟨c,3,none⟩ v3).setCell ⟨c,4,none⟩ v4).setCell ⟨c,5,none⟩ d).setCell ⟨c,6,none⟩ e).setCell ⟨c,7,none⟩ g).rowIs b t n f :=
 (((((((h.setOther a _).setOther a _).setOther a _).setOther a _).setOther a _).setOther a _).setOther a _).setOther a _
theorem eL (w:World):(Go.sizeOf 245).run Tryz.prog w=.ok 8 w:=by kernel_rfl
def kE (cs:Array Value) (blk:ByteArray) (H:Nat) (x5 x6 x7 x14 x15 x16 x17:Value):Act :=
 ⟨#[.agg cs,.string blk,.pointer (some ⟨H,0,none⟩),undef,.pointer (some ⟨H+1,0,none⟩),x5,x6,x7,undef,undef,undef,undef,undef,undef,x14,x15,x16,x17,undef,undef,undef,undef,undef,undef,undef,undef,undef,undef,undef,undef,undef,undef,undef,undef,undef,undef,undef,undef,undef,undef,undef,undef,undef,undef,undef,undef,undef,undef,undef,undef,undef,undef,undef,undef,undef,undef,undef,undef,undef,undef,undef,undef,undef,undef,undef,undef,undef,undef,undef,undef,undef,undef,undef,undef,undef,undef,undef,undef,undef,undef,undef,undef,undef,undef,undef,undef,undef,undef,undef,undef,undef,undef,undef,undef,undef,undef,undef,undef,undef,undef,undef,undef,undef,undef,undef,undef,undef,undef,undef,undef,undef,undef,undef,undef],[]⟩
theorem QO (s:S8) (hs:s.ok) (a7:ByteArray) (w:World) (hb:a7.size=64) :
 Calls Tryz.prog 241 #[.agg (jq s),.string a7] w fun e w'=>e=.returned (.agg (jq (vv s (fun j=>qV a7.data.toList j))))/\O5 w w':=by
 have HS:=U hs;have HZ:=U hb;have Q:=U (eD a7);have a4:=O0 (∀i,0<=(fun j=>qV a7.data.toList j) i/\(fun j=>qV a7.data.toList j) i<=255) (fun i=>vg _ _);generalize (fun j=>qV a7.data.toList j)=p at *;have h8:(jq s).size=8:=by simp [jq]
 have a3:=U (ww s);have M:=O0 ((w.alloc (.cells (jq s) 245)).rowIs w.heap.size 245 8 (fun j=>.int .u32 (s.at j))) (jz rfl);clear hs hb;generalize hcs:jq s=cs at *;have a1:=U hcs;clear hcs;go_enter Tryz.func241,Tryz.ntmps241;go_wp2_with fail;have N:=U (show ((w.alloc (.cells cs 245)).alloc (.cells #[.int .u32 0,.int .u32 0,.int .u32 0,.int .u32 0,.int .u32 0,.int .u32 0,.int .u32 0,.int .u32 0] 245)).rowIs (w.heap.size+1) 245 8 (fun _=>.int .u32 0) from by
  have:=wT (w.alloc (.cells cs 245)) (.int .u32 0) 8 245 (fun _=>.int .u32 0) (fun _ _=>rfl);rwa [show (w.alloc (.cells cs 245)).heap.size=w.heap.size+1 by simp] at this)
 refine qP 9 (fun d a' w'=>∃x5 x6 x7 x14 x15 x16 x17 m o l,a'=kE cs a7 w.heap.size x5 x6 x7 x14 x15 x16 x17/\R1 w s p a7 d w' x5 x6 x7 x14 x15 x16 x17 m o l) (by kernel_rfl) (by kernel_rfl) ?first ?step ?last
 case first => refine ⟨undef,undef,undef,undef,undef,undef,undef,0,0,0,rfl,?_⟩;exact { bel:=((O4).alloc (by simp) _).drew,rh:=M.o.alloc _,rr:=N.o,v0:=fun h=>h.elim,v1:=fun h=>h.elim,v2:=fun h=>h.elim,v3:=fun h=>h.elim,p4:=fun h=>h.elim,p5:=fun h=>h.elim,p6:=fun h=>h.elim,n45:=fun h=>h.elim,n46:=fun h=>h.elim,n56:=fun h=>h.elim,s7:=fun h=>h.elim,s8:=fun h=>h.elim }
 case step =>
  rintro d a' w' ⟨x5,x6,x7,x14,x15,x16,x17,m,o,l,rfl,h⟩ i hi L W;rcases i with _|_|_|_|_|_|_|_|_|i
  . unfold kE;refine J4 rfl fun K q=>?_;go_simp;exact q _ _ ⟨x5,x6,x7,_,x15,x16,x17,m,o,l,rfl,h.did0⟩
  . have d0:d 0:=W _ rfl ⟨0,.data⟩ (by simp) rfl;obtain rfl:=h.v0 d0;unfold kE;refine J4 rfl fun K q=>?_;go_simp;refine (Q.o w' HZ.o).mono ?_;rintro e w2 ⟨rfl,hb⟩;exact q _ _ ⟨x5,x6,x7,_,_,x16,x17,m,o,l,rfl,(h.below hb).did1⟩
  . unfold kE;refine J4 rfl fun K q=>?_;go_simp;refine (QI w').mono ?_;rintro e w2 ⟨rfl,hb⟩;exact q _ _ ⟨x5,x6,x7,x14,x15,_,x17,m,o,l,rfl,(h.below hb).did2⟩
  . obtain ⟨c,Z,V,hf⟩:=h.rh;obtain rfl:=bH V hf;exact us rfl rfl (wp_load_row 245 (.tmp 2) rfl w.heap.size rfl 245 _ (0,0) _ Z Tryz.underlying245 rfl (by rw [V];kernel_rfl) ⟨x5,x6,x7,x14,x15,x16,_,m,o,l,rfl,h.did3⟩)
  . unfold kE;refine J4 rfl fun K q=>?_;go_simp;exact q _ _ ⟨_,x6,x7,x14,x15,x16,x17,w'.heap.size,o,l,rfl,h.did4 _ (by simp) L⟩
  . unfold kE;refine J4 rfl fun K q=>?_;go_simp;exact q _ _ ⟨x5,_,x7,x14,x15,x16,x17,m,w'.heap.size,l,rfl,h.did5 _ (by simp) L⟩
  . unfold kE;refine J4 rfl fun K q=>?_;go_simp;exact q _ _ ⟨x5,x6,_,x14,x15,x16,x17,m,o,w'.heap.size,rfl,h.did6 _ (by simp)⟩
  . have d4:d 4:=W _ rfl ⟨4,.data⟩ (by simp) rfl;have d1:d 1:=W _ rfl ⟨1,.data⟩ (by simp) rfl;obtain rfl:=h.v1 d1;obtain ⟨rfl,x,f,hr⟩:=h.p4 d4;exact us rfl rfl (gL 263 (.tmp 5) (.tmp 15) rfl m 263 64 f (fun j=>.int .u32 (wrd p j)) rfl hr (vk p) rfl (by simp [vk]) (fun i hi=>by simp [vk,hi]) (fun _ _=>rfl) dy
     fun w2 hr2 ht=>⟨_,x6,x7,x14,_,x16,x17,m,o,l,rfl,R1.did7 d4 h ht hr2⟩)
  . have d5:d 5:=W _ rfl ⟨5,.data⟩ (by simp) rfl;have d2:d 2:=W _ rfl ⟨2,.data⟩ (by simp) rfl;obtain rfl:=h.v2 d2;obtain ⟨rfl,x,f,hr⟩:=h.p5 d5;exact us rfl rfl (gL 263 (.tmp 6) (.tmp 16) rfl o 263 64 f (fun j=>.int .u32 (kay j)) rfl hr kCells rfl rfl yL (fun _ _=>rfl) dy
     fun w2 hr2 ht=>⟨x5,_,x7,x14,x15,_,x17,m,o,l,rfl,R1.did8 d5 h ht hr2⟩)
  . omega
 case last =>
  rintro d a' w' b ⟨x5,x6,x7,x14,x15,x16,x17,m,o,l,rfl,h⟩;obtain rfl:=h.v0 (b 0 (by omega));obtain rfl:=h.v1 (b 1 (by omega));obtain rfl:=h.v2 (b 2 (by omega));obtain rfl:=h.v3 (b 3 (by omega));obtain ⟨rfl,l5,_⟩:=h.p4 (b 4 (by omega));obtain ⟨rfl,l6,_⟩:=h.p5 (b 5 (by omega));obtain ⟨rfl,l7,T,J⟩:=h.p6 (b 6 (by omega));have n1:=h.n46 (b 4 (by omega)) (b 6 (by omega));have n2:=h.n56 (b 5 (by omega)) (b 6 (by omega));have H:=(h.s7 (b 7 (by omega))).2;have I:=(h.s8 (b 8 (by omega))).2;unfold kE;refine wpList_store_row rfl 245 (.tmp 7) (.tmp 17) rfl l 245 8 T (fun j=>.int .u32 (s.at j)) rfl J (jq s) rfl (by simp [jq]) (ww s) (fun _ _=>rfl) eL ?_;intro w1 h3 h4;have r:=O0 (O5 w w1) (h.bel.trans (h4.o.below h.bel.size fun k hk e=>by omega));have u:=U (h4.o.row h.rh (fun e=>by omega));have v:=U (h4.o.row h.rr (fun e=>by omega));have E:=U (h4.o.row H n1);have C:=U (h4.o.row I n2);have D:=U h3.o;clear h3 h4 h H I J b M N Q;have n3:m≠l/\o≠l/\w.heap.size+1<l/\w.heap.size+1<m/\w.heap.size+1<o:=⟨n1,n2,l7,l5,l6⟩;clear n1 n2 l5 l6 l7 h8 a3 a1;go_wp2;go_loopw [8,9,10,11,12] (fun i _ _ _ _ wr=>∃k:Nat,k<=64/\i=.int .i64 k/\O5 w wr/\(wr.rowIs w.heap.size 245 8 fun j=>.int .u32 (s.at j))/\(wr.rowIs (w.heap.size+1) 245 8 fun _=>.int .u32 0)/\(wr.rowIs m 263 64 fun j=>.int .u32 (wrd p j))/\(wr.rowIs o 263 64 fun j=>.int .u32 (kay j))/\(wr.rowIs l 245 8 fun j=>.int .u32 ((kt p s k).at j))) (fun i _ _ _ _ _=>64 - (intOf i).toNat)
  case atStart=>exact ⟨0,by omega,rfl,r.o,u.o,v.o,E.o,C.o,D.o⟩
  case round =>
   clear r u v E C D;obtain ⟨k,hk,rfl,F,y,G,Y,q,g⟩:=hrel;have r:=U F;have u:=U y;have v:=U G;by_cases x:k<64
   . have HO:=U (cg p HS.o k);have HE:=O0 (kt p s (k+1)=rnd (kay k) (wrd p k) (kt p s k)) rfl;obtain ⟨S,hS⟩:=O1 (kt p s k);rw [<- hS] at g HO HE;clear hS;have r0:=g.cell (i:=0) (by omega);have r1:=g.cell (i:=1) (by omega);have r2:=g.cell (i:=2) (by omega);have r3:=g.cell (i:=3) (by omega);have r4:=g.cell (i:=4) (by omega);have H:=g.cell (i:=5) (by omega);have I:=g.cell (i:=6) (by omega);have J:=g.cell (i:=7) (by omega);simp only [S8.at] at r0 r1 r2 r3 r4 H I J;have f0:=g.frozen 0;have f1:=g.frozen 1;have f2:=g.frozen 2;have f3:=g.frozen 3;have f4:=g.frozen 4;have f5:=g.frozen 5;have f6:=g.frozen 6;have T:=g.frozen 7;have cw:wr.cell? ⟨m,k,none⟩=some (.int .u32 (wrd p k)):=Y.cell (by omega);have ck:wr.cell? ⟨o,k,none⟩=some (.int .u32 (kay k)):=q.cell (by omega);have z:=U HO.o.1;have A:=U HO.o.2.2.2.2.1;have E:=U Y;have C:=U q;have D:=U g;clear F y G Y q g;have m0:(k:Int)<64:=by omega
     go_wp2_with fail
     refine wp_region_still_tail 30 (by kernel_rfl) (by kernel_rfl) ?_;simp only [G7,List.take_zero,M4,za1]
     repeat still_step
     still_call (j6 S.e 6 _ A.o (by omega))
     repeat still_step
     still_call (j6 S.e 11 _ A.o (by omega))
     repeat still_step
     still_call (j6 S.e 25 _ A.o (by omega))
     repeat still_step
     refine wpStill_nil ?_;go_wp2_with fail;clear cw ck;replace r0:wr.drew.cell? _=_:=r0;replace f0:wr.drew.frozen? _=_:=f0;replace r1:wr.drew.cell? _=_:=r1;replace f1:wr.drew.frozen? _=_:=f1;replace r2:wr.drew.cell? _=_:=r2;replace f2:wr.drew.frozen? _=_:=f2;replace r3:wr.drew.cell? _=_:=r3;replace f3:wr.drew.frozen? _=_:=f3;replace r4:wr.drew.cell? _=_:=r4;replace f4:wr.drew.frozen? _=_:=f4;replace H:wr.drew.cell? _=_:=H;replace f5:wr.drew.frozen? _=_:=f5;replace I:wr.drew.cell? _=_:=I;replace f6:wr.drew.frozen? _=_:=f6;replace J:wr.drew.cell? _=_:=J;replace T:wr.drew.frozen? _=_:=T;replace r:=U (r.o.drew);replace u:=O0 (wr.drew.rowIs _ _ _ _) u.o;replace v:=O0 (wr.drew.rowIs _ _ _ _) v.o;replace E:=O0 (wr.drew.rowIs _ _ _ _) E.o;replace C:=O0 (wr.drew.rowIs _ _ _ _) C.o;replace D:=O0 (wr.drew.rowIs _ _ _ _) D.o;generalize wr.drew=w2 at r0 r1 r2 r3 r4 H I J f0 f1 f2 f3 f4 f5 f6 T r u v E C D ⊢;refine wp_region_still_tail 24 (by kernel_rfl) (by kernel_rfl) ?_;simp only [G7,List.take_zero,M4,za1]
     repeat still_step
     still_call (j6 S.a 2 _ z.o (by omega))
     repeat still_step
     still_call (j6 S.a 13 _ z.o (by omega))
     repeat still_step
     still_call (j6 S.a 22 _ z.o (by omega))
     repeat still_step
     refine wpStill_nil ?_;go_wp2_with fail;go_roundw
     case rel =>
      obtain ⟨q1,q2,q3,q4,q5⟩:=n3;refine ⟨k+1,by omega,by go_num,(io _ _ _ _ _ _ _ _ r.o (by omega)).drew,(dg _ _ _ _ _ _ _ _ u.o (by omega)).drew,(dg _ _ _ _ _ _ _ _ v.o (by omega)).drew,(dg _ _ _ _ _ _ _ _ E.o q1).drew,(dg _ _ _ _ _ _ _ _ C.o q2).drew,(ZD _ _ _ _ _ _ _ _ D.o).drew.congr fun j hj=>?_⟩;rw [HE.o];rcases j with _|_|_|_|_|_|_|_|j
      . exact Y2 (Value.int .u32) (by rw [<- Int.add_assoc];exact Q0 (kay k) (wrd p k) S)
      . rfl
      . rfl
      . rfl
      . exact Y2 (Value.int .u32) (Q1 (kay k) (wrd p k) S)
      . rfl
      . rfl
      . rfl
      . omega
     case measure=>simp [intOf];omega
   . have P:=O0 (wr.rowIs l 245 8 (fun j=>.int .u32 ((kt p s 64).at j))) (by rw [show k=64 by omega] at g;exact g);have a5:decide ((k:Int)<64)=false:=by simp;omega
     clear F y G Y q g x hk;obtain ⟨wc,rfl⟩:∃wc:World,wc=wr:=⟨_,rfl⟩;obtain ⟨k2,rfl⟩:∃k2:Nat,k2=k:=⟨_,rfl⟩;go_wp2;go_loopw [13] (fun i wr=>∃k:Nat,k<=8/\i=.int .i64 k/\O5 w wr/\(wr.rowIs (w.heap.size+1) 245 8 fun _=>.int .u32 0)/\(wr.rowIs l 245 8 fun j=>.int .u32 ((kt p s 64).at j))/\(wr.rowIs w.heap.size 245 8 fun j=>if j<k then .int .u32 (xS (s.at j) ((kt p s 64).at j)) else .int .u32 (s.at j))) (fun i _=>8 - (intOf i).toNat)
     case atStart=>exact ⟨0,by omega,rfl,r.o,v.o,P.o,u.o.congr fun j _=>by rw [J3 (by omega)]⟩
     case round =>
      clear r v P u;obtain ⟨k,hk,rfl,F,G,X,y⟩:=hrel;have r:=U F;have v:=U G;have P:=U X;have u:=U y;by_cases x:k<8
      . have c0:wr.cell? ⟨w.heap.size,k,none⟩=some (.int .u32 (s.at k)):=by rw [y.cell (by omega),J3 (by omega)]
        have c1:wr.cell? ⟨l,k,none⟩=some (.int .u32 ((kt p s 64).at k)):=X.cell x;have c2:wr.frozen? ⟨w.heap.size,k,none⟩=false:=y.frozen _;have m0:(k:Int)<8:=by omega
        clear F G X y;generalize (kt p s 64)=R at *;go_wp2_with fail;go_still_tail 9,(by kernel_rfl)
        go_wp2;go_roundw
        case rel =>
         obtain ⟨q1,q2,q3,q4,q5⟩:=n3;refine ⟨k+1,by omega,by go_num,(r.o.setCell lz _).drew,(v.o.setOther (by show w.heap.size+1≠w.heap.size;omega) _).drew,(P.o.setOther (by show l≠w.heap.size;omega) _).drew,(u.o.set _ _).drew.congr fun j hj=>?_⟩;by_cases e:j=k
         . subst e;rw [J8 rfl,J8 (by omega)];rfl
         . simp only [J3 e];by_cases e':j<k
           . rw [J8 e',J8 (by omega)]
           . rw [J3 e',J3 (by omega)]
        case measure=>simp [intOf];omega
      . have HF:=O0 (wr.rowIs w.heap.size 245 8 (fun j=>.int .u32 ((vv s p).at j))) (y.congr fun j hj=>by rw [J8 (by omega)];unfold vv;rw [iJ]);have a6:decide ((k:Int)<8)=false:=by simp;omega
        clear F G X y u P;go_wp2_with (with_reducible refine jX rfl 245 (.tmp 2) rfl w.heap.size 245 8 _ rfl HF.o _ Tryz.underlying245 rfl (by kernel_rfl) ?_);intro cs h1 h2;go_wp2_with (with_reducible refine wpList_store_row rfl 245 (.tmp 4) (.tmp 113) rfl (w.heap.size+1) 245 8 _ _ rfl v.o cs rfl h1.o h2.o (fun _ _=>rfl) eL ?_);intro w1 h3 h4;have a0:=O0 (O5 w w1) (r.o.trans (h4.o.below (B:=w.heap.size) r.o.size (fun k hk e=>by omega)));obtain ⟨c,Z,L,hf⟩:=h3.o;have HC:=U Z;have a2:=O0 (c=jq (vv s p)) (bH L hf);have HN:=U (show (Tryz.prog.info? 245).map (·.size)=some c.size by rw [L];kernel_rfl);clear Z L hf h1 h2 h3 h4;go_wp2;refine X4 (Y7 Tryz.results241 _ _ (w.heap.size+1) 245 _ (0,0) _ rfl HC.o Tryz.underlying245 rfl HN.o) rfl ⟨by rw [a2.o],a0.o⟩
