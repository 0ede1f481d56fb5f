import Derived.Test.YthgembbgcbaghaaGreatDoorDn31
import Derived.Test.YthgembbgcbaghaaGreatDoorDn25
set_option maxHeartbeats 4000000
set_option maxRecDepth 100000

namespace Go.Proofs.YthgembbgcbaghaaGreatDoor
open Go.RowKit
theorem su (t:Int) (k n:Nat) (ids:List ByteArray) (a0:ByteArray) (ia:Option Addr) (ic:Nat) (w:World) (hp:a0.size<=4294967296) (hw:zT ⟨(k:Int),a0,⟨t,ids⟩⟩=0) (h1:1<=k) (h2:k<=32) (hn:n<2 ^ k) :
 Calls Tryz.prog 101 #[.agg #[.int .i64 t,.slice ia ids.length ic,.int .i64 k,.string a0],.int .u32 n] w fun e w'=>e=.returned (.tuple #[.string (xN a0 k n),.int .i64 0])/\O5 w w':=by
 have g:n<4294967296:=J7 hn (Z5 (Nat.pow_le_pow_right (by decide) h2) (by decide));obtain ⟨W,D⟩:=O1 (w.alloc (.cells #[.int .i64 t,.slice ia ids.length ic,.int .i64 k,.string a0] 33));have u:=O7 D
 have J:=O9 D
 have L:=U u;have o:=U (show ∀w':World,O5 W w'->w'.cell? ⟨w.heap.size,0,none⟩=some (.int .i64 t)/\w'.cell? ⟨w.heap.size,1,none⟩=some (.slice ia ids.length ic)/\w'.cell? ⟨w.heap.size,2,none⟩=some (.int .i64 k)/\w'.cell? ⟨w.heap.size,3,none⟩=some (.string a0) from fun w' h=>by
  have y:=(h.block _ (qz J)).trans J;exact ⟨qq y rfl,qq y rfl,qq y rfl,qq y rfl⟩)
 have l:=U (yG t k ids a0 ia ic W hp (by omega));rw [hw] at l;have F:=U (fun w=>(aV k n w h2 g).mono fun e w' h=>show e=.returned (.bool true)/\w=w' from ⟨by rw [h.1,Q9 hn],h.2.symm⟩);have s:=U (fun w=>(fq k w h2).mono fun e w' h=>show e=.returned (.int .i64 ((bP k:Nat):Int))/\O5 w w' from ⟨h.1,by rw [h.2];exact Z0 _ _⟩);have x:bP k<=8:=by unfold bP;omega
 have j:=U (fun w=>sh n (bP k) w g x);obtain ⟨r,c⟩:=O1 (bP k);have i:=O0 (xN a0 k n=a0 ++ tz ++ ⟨(yV r n).toArray⟩) (by rw [c];rfl);rw [<- c] at s j;obtain ⟨T,I⟩:∃T:ByteArray,T=⟨(yV r n).toArray⟩:=⟨_,rfl⟩;rw [<- I] at j i;have S:T.size<=8:=by rw [I];show (yV r n).toArray.size<=8;rw [List.size_toArray,jp,c];exact x
 have s1:¬9223372036854775807<a0.size+1:=by omega
 have s2:¬9223372036854775807<a0.size+1+T.size:=by omega
 obtain ⟨R,N⟩:=O1 (xN a0 k n);rw [<- N] at i ⊢;have M:=U D;clear D J u hw hn c I N;obtain ⟨z,A,B,C⟩:=o.o W (Z0 _ _);go_enter Tryz.func101,Tryz.ntmps101;go_upto_region 1 with fail
 rw [<- M.o];clear M;go_wp2_with fail;refine l.o.mono ?_;rintro e Q ⟨rfl,p⟩;have a:=U p;obtain ⟨Y,Z,z2,z3⟩:=o.o Q p;clear p z A B C l;go_upto_region 6 with (go_at_call 173;refine (F.o _).mono ?_;rintro e w4 ⟨rfl,rfl⟩)
 clear Y Z z2 z3;obtain ⟨V,P⟩:∃V:List MP,V=[.con (.pointer (some ⟨w.heap.size,3,none⟩)),.con (.string a0),.con (.string (a0 ++ ⟨#[45]⟩)),.con (.int .u32 (n:Int)),.con (.pointer (some ⟨w.heap.size,2,none⟩)),.con (.int .i64 (k:Int)),.con (.int .i64 (r:Int)),.con (.string T),.con (.string (a0 ++ ⟨#[45]⟩ ++ T))]:=⟨_,rfl⟩;have b:=U P;clear P;refine qM 9 (fun d H w'=>∃x17 x18 x19 x20 x21 x22 x23 x24 x25,H=⟨#[.agg #[.int .i64 t,.slice ia ids.length ic,.int .i64 (k:Int),.string a0],.int .u32 (n:Int),.pointer (some ⟨w.heap.size,0,none⟩),undef,.string ⟨#[]⟩,.int .i64 0,.int .i64 0,.agg #[.int .i64 t,.slice ia ids.length ic,.int .i64 (k:Int),.string a0],.int .i64 0,.int .i64 0,.bool false,undef,.pointer (some ⟨w.heap.size,2,none⟩),.int .i64 (k:Int),.int .u32 (n:Int),.bool true,.bool false,x17,x18,x19,x20,x21,x22,x23,x24,x25],[]⟩/\za Q V d w' [x17,x18,x19,x20,x21,x22,x23,x24,x25]) (by kernel_rfl) (by kernel_rfl) ?first ?step ?last
 case first=>exact ⟨_,_,_,_,_,_,_,_,_,rfl,za.first _ _ _ (by rw [b.o];rfl)⟩
 case step =>
  rintro d H w' ⟨x17,x18,x19,x20,x21,x22,x23,x24,x25,rfl,h⟩ q hq hn hw;rcases q with _|_|_|_|_|_|_|_|_|q
  . refine Z3 rfl fun K hK=>?_;go_simp;exact hK _ _ ⟨_,_,_,_,_,_,_,_,_,rfl,h.sameC 0 _ b rfl⟩
  . obtain rfl:=h.cn hw b 0 .data;obtain ⟨z,A,B,C⟩:=o.o w' (a.o.trans (h.1.mono a.o.size));refine Z3 rfl fun K hK=>?_;go_simp;exact hK _ _ ⟨_,_,_,_,_,_,_,_,_,rfl,h.sameC 1 _ b rfl⟩
  . obtain rfl:=h.cn hw b 1 .data;refine Z3 rfl fun K hK=>?_;go_simp;exact hK _ _ ⟨_,_,_,_,_,_,_,_,_,rfl,h.sameC 2 _ b rfl⟩
  . refine Z3 rfl fun K hK=>?_;go_simp;exact hK _ _ ⟨_,_,_,_,_,_,_,_,_,rfl,h.sameC 3 _ b rfl⟩
  . refine Z3 rfl fun K hK=>?_;go_simp;exact hK _ _ ⟨_,_,_,_,_,_,_,_,_,rfl,h.sameC 4 _ b rfl⟩
  . obtain rfl:=h.cn hw b 4 .data;obtain ⟨z,A,B,C⟩:=o.o w' (a.o.trans (h.1.mono a.o.size));refine Z3 rfl fun K hK=>?_;go_simp;exact hK _ _ ⟨_,_,_,_,_,_,_,_,_,rfl,h.sameC 5 _ b rfl⟩
  . obtain rfl:=h.cn hw b 5 .data;obtain ⟨z,A,B,C⟩:=o.o w' (a.o.trans (h.1.mono a.o.size));refine Z3 rfl fun K hK=>?_;go_simp;refine (s.o w').mono ?_;rintro e X ⟨rfl,m⟩;exact hK _ _ ⟨_,_,_,_,_,_,_,_,_,rfl,h.didC m 6 _ b rfl⟩
  . obtain rfl:=h.cn hw b 3 .data;obtain rfl:=h.cn hw b 6 .data;obtain ⟨z,A,B,C⟩:=o.o w' (a.o.trans (h.1.mono a.o.size));refine Z3 rfl fun K hK=>?_;go_simp;refine (j.o w').mono ?_;rintro e X ⟨rfl,m⟩;exact hK _ _ ⟨_,_,_,_,_,_,_,_,_,rfl,h.didC m 7 _ b rfl⟩
  . obtain rfl:=h.cn hw b 2 .data;obtain rfl:=h.cn hw b 7 .data;refine Z3 rfl fun K hK=>?_;go_simp;exact hK _ _ ⟨_,_,_,_,_,_,_,_,_,rfl,h.sameC 8 _ b rfl⟩
  . omega
 case last => rintro d H w' f ⟨x17,x18,x19,x20,x21,x22,x23,x24,x25,rfl,h⟩;have v:=h.1;obtain rfl:=h.con 8 (f _ (by omega)) b rfl rfl;have G:=U v;clear h f v b;have p:=G.o;have E:=U (O2 L (O2 a p));clear p;go_wp2;go_ret2;exact ⟨by rw [i.o];rfl,E.o⟩
theorem cN {a t:Int} {b:ByteArray} {ids:List ByteArray} (h:zT ⟨a,b,⟨t,ids⟩⟩=0):∃k:Nat,a=(k:Int)/\1<=k/\k<=32:=by
 unfold zT at h;split at h
 . cases h
 . rename_i hn;dsimp only at hn;exact ⟨a.toNat,by omega,by omega,by omega⟩
theorem ml (t:Int) (k:Nat) (ids:List ByteArray) (H path:ByteArray) (I:Option Addr) (J:Nat) (w:World) (P:H.size<=4294967296) (Q:path.size<=4294967296) (L:zT ⟨(k:Int),H,⟨t,ids⟩⟩=0) (M:1<=k) (K:k<=32) (N:Tabs w) :
 Calls Tryz.prog 43 #[.agg #[.int .i64 t,.slice I ids.length J,.int .i64 k,.string H],.string path] w fun e w'=>e=.returned (.tuple #[.string (xN H k (wA path k)),.int .i64 0])/\O5 w w':=by
 obtain ⟨W,l⟩:=O1 (w.alloc (.cells #[.int .i64 t,.slice I ids.length J,.int .i64 k,.string H] 33));have i:=O7 l
 have p:=O9 l
 have j:=U i;have o:=U (show ∀w':World,O5 W w'->w'.cell? ⟨w.heap.size,0,none⟩=some (.int .i64 t)/\w'.cell? ⟨w.heap.size,1,none⟩=some (.slice I ids.length J)/\w'.cell? ⟨w.heap.size,2,none⟩=some (.int .i64 k)/\w'.cell? ⟨w.heap.size,3,none⟩=some (.string H) from fun w' h=>by
  have y:=(h.block _ (qz p)).trans p;exact ⟨qq y rfl,qq y rfl,qq y rfl,qq y rfl⟩)
 have g:=U (yG t k ids H I J W P (by omega));rw [L] at g;have d:=U (fun (w':World) (h:O5 w w')=>aW path k w' M K Q (N.below h));have f:=U (fun w'=>su t k (wA path k) ids H I J w' P L M K (ag K));obtain ⟨n,z⟩:=O1 (wA path k);rw [<- z] at d f ⊢;obtain ⟨R,x⟩:=O1 (xN H k n);rw [<- x] at f ⊢;have v:=U l;clear l p i L z x N;obtain ⟨A,B,C,D⟩:=o.o W (Z0 _ _);go_enter Tryz.func43,Tryz.ntmps43;go_upto_region 1 with fail
 rw [<- v.o];clear v;go_wp2_with fail;refine g.o.mono ?_;rintro e E ⟨rfl,a⟩;have b:=U a;obtain ⟨q,r,s,u⟩:=o.o E a;clear a A B C D g;go_wp2_with fail;refine (d.o _ (j.o.trans (b.o.mono j.o.size))).mono ?_;clear q r s u;rintro e F ⟨rfl,a⟩;have c:=U (O2 b a);clear a d;obtain ⟨q,r,s,u⟩:=o.o F c.o;go_wp2_with fail;refine (f.o _).mono ?_;clear q r s u;rintro e G ⟨rfl,a⟩;have m:=U (O2 j (O2 c a));clear a;go_wp2;go_ret2;exact ⟨rfl,m.o⟩
theorem pJ (l:List DelegV) (a:Option Addr) (c:Nat) (w:World) (hA:q9 w 0 w.heap.size a l) (hl:l.length<=4294967296) (hc:l.length<=c) (hf:∀x ∈ l,DelegFits x) :
 Calls Tryz.prog 83 #[.slice a l.length c] w fun e w'=>e=.returned (.bool (zt l))/\O5 w w':=by
 have HA:=U hA;have HF:=U hf;clear hA hf;obtain ⟨n,hn⟩:=O1 l.length;have HN:=U hn;rw [<- hn] at hl hc ⊢;clear hn;obtain ⟨V,C⟩:=O1 (zt l);have f:=U C;rw [<- C];clear C;by_cases h64:64<n
 . have HR:=U (f.o.trans (pQ (l:=l) (by rw [<- HN.o];omega)));have d1:decide (64<(n:Int))=true:=by rw [Z7];omega
   go_enter Tryz.func83,Tryz.ntmps83;go_wp2;go_ret;exact ⟨qx HR.o.symm,Z0 _ _⟩
 have d1:decide (64<(n:Int))=false:=by rw [X1];omega
 have a8:n<=64:=by omega
 clear h64;go_enter Tryz.func83,Tryz.ntmps83;go_wp2;go_loopw [3,4,10] (fun _ _ i wr=>∃k:Nat,k<=n/\i=.int .i64 k/\(∀j (h:j<l.length),j<k->qV l[j]=true)/\(∀j (h:j<l.length),j<k->((l.take j).any fun y=>decide (y.name=l[j].name))=false)/\O5 w wr) (fun _ _ i _=>n - (intOf i).toNat)
 case atStart=>exact ⟨0,by omega,rfl,fun j _ h=>by omega,fun j _ h=>by omega,Z0 _ _⟩
 case round =>
  obtain ⟨k,hk,rfl,b3,b4,b0⟩:=hrel;have a5:=U b3;have a6:=U b4;have F:=U b0;clear b3 b4 b0;by_cases hlt:k<n
  . have Z:k<l.length:=by rw [<- HN.o];exact hlt
    obtain ⟨b,o,ha,-,hb,N,P,Q,R,S,T,e0,e1,e2,e3,e4,e5,-,-,-,a2⟩:=(HA.o.below F.o lz lz F.o.size).at k Z;have b5:=U (HA.o.take k);subst ha;have m1:(0:Int)<=(k:Int):=by omega
    have m2:(k:Int)<(n:Int):=by omega
    have m3:decide ((k:Int)<(n:Int))=true:=by simpa using hlt
    have c0:(k:Int)<=(c:Int):=by omega
    have D:=U (fR (l:=l) Z);have H:=U (bT (l:=l) Z);have a0:=U (show qV l[k]=true->∀j (h:j<l.length),j<k+1->qV l[j]=true from fun h0 j hj hjk=>by
     rcases V3.1 hjk with h1|h1
     . exact a5.o j hj h1
     . subst h1;exact h0)
    have a1:=U (show ((l.take k).any fun y=>decide (y.name=l[k].name))=false->∀j (h:j<l.length),j<k+1->((l.take j).any fun y=>decide (y.name=l[j].name))=false from fun h0 j hj hjk=>by
     rcases V3.1 hjk with h1|h1
     . exact a6.o j hj h1
     . subst h1;exact h0)
    have a4:=U (HF.o l[k] (J1 Z));obtain ⟨x,hx⟩:=O1 (l[k]);rw [<- hx] at e0 e1 e2 e3 e4 e5 a2 D H a0 a1 a4;clear hx;obtain ⟨z,s,M,J,L⟩:=x;dsimp only at e0 e1 e2 e3 e4 e5;obtain ⟨A,Y⟩:=O1 (wr.alloc (.cells #[.string z,.int .i64 s.thr,.slice N s.ids.length P,.bool M,.slice Q J.length R,.slice S L.length T] 41));have B:=O7 Y
    have a3:=O9 Y
    have u:=U (O2 F B);have r:=U (show ∀w':World,O5 A w'->w'.cell? ⟨wr.heap.size,0,none⟩=some (.string z)/\w'.cell? ⟨wr.heap.size,1,none⟩=some (.int .i64 s.thr)/\w'.cell? ⟨wr.heap.size,2,none⟩=some (.slice N s.ids.length P)/\w'.cell? ⟨wr.heap.size,3,none⟩=some (.bool M)/\w'.cell? ⟨wr.heap.size,4,none⟩=some (.slice Q J.length R)/\w'.cell? ⟨wr.heap.size,5,none⟩=some (.slice S L.length T) from fun w' h=>by
     have hz:=(h.block _ (qz a3)).trans a3;exact ⟨qq hz rfl,qq hz rfl,qq hz rfl,qq hz rfl,qq hz rfl,qq hz rfl⟩)
    have X:=O0 (∀w':World,O5 A w'->_) (fun w' h=>jQ ⟨z,s,M,J,L⟩ N Q S P R T w' (a2.below (B.trans (h.mono B.size)) lz lz (Z5 B.size h.size)) a4.o);have W:=O0 (∀w':World,O5 A w'->_) (fun w' h=>yx (l.take k) z (some ⟨b,o,none⟩) c w' (b5.o.below (O2 u h) lz lz (Z5 u.o.size h.size)) (by rw [List.length_take];omega));have b8:=U (show (l.take k).length=k by rw [List.length_take];omega);rw [b8.o] at W;have a7:=U Y;have b9:=U B.size;obtain ⟨b1,a9⟩:∃b,b=qV ⟨z,s,M,J,L⟩:=⟨_,rfl⟩;obtain ⟨b2,p⟩:=O1 ((l.take k).any fun y=>decide (y.name=z));rw [<- a9] at X D a0;rw [<- p] at W H a1;clear B a3 Y a9 p a2;go_upto_region 6 with fail
    rw [<- a7.o];clear e0 e1 e2 e3 e4 e5 a7;cases b1
    . have HR:=U (f.o.trans (D.o rfl));obtain ⟨V,C⟩:∃V:List MP,V=[.con (.agg #[.string z,.int .i64 s.thr,.slice N s.ids.length P,.bool M,.slice Q J.length R,.slice S L.length T]),.con (.bool false),.con (.bool true),.con (.bool true),.any,.any,.any,.any,.any,.any]:=⟨_,rfl⟩;have f:=U C;clear C;refine qM 10 (fun d I w'=>∃x15 x16 x17 x18 x19 x20 x21 x22 x23 x24,I=⟨#[Value.slice (some { block:=b,off:=o }) n c,undef,u2,Value.int IntKind.i64 (k:Int),Value.pointer (some { block:=wr.heap.size,off:=0 }),Value.slice (some { block:=b,off:=o }) n c,Value.int IntKind.i64 (n:Int),Value.bool false,Value.slice (some { block:=b,off:=o }) n c,Value.int IntKind.i64 (n:Int),Value.int IntKind.i64 (k:Int),Value.bool true,Value.int IntKind.i64 (k:Int),Value.pointer (some { block:=b,off:=o+k * 6 }),Value.agg #[Value.string z,Value.int IntKind.i64 s.thr,Value.slice N s.ids.length P,Value.bool M,Value.slice Q J.length R,Value.slice S L.length T],x15,x16,x17,x18,x19,x20,x21,x22,x23,x24,u25,u26],[]⟩/\za A V d w' [x15,x16,x17,x18,x19,x20,x21,x22,x23,x24]) (by kernel_rfl) (by kernel_rfl) ?first ?step ?last
      case first=>exact ⟨_,_,_,_,_,_,_,_,_,_,rfl,za.first _ _ _ (by rw [f.o];rfl)⟩
      case step =>
       rintro d I w' ⟨x15,x16,x17,x18,x19,x20,x21,x22,x23,x24,rfl,h⟩ q hq hn g;rcases q with _|_|_|_|_|_|_|_|_|_|q
       . obtain ⟨q0,q1,q2,q3,q4,q5⟩:=r.o w' h.1;refine Z3 rfl fun K hK=>?_;go_simp;exact hK _ _ ⟨_,_,_,_,_,_,_,_,_,_,rfl,h.sameC 0 _ f rfl⟩
       . obtain rfl:=h.cn g f 0 .data;obtain ⟨q0,q1,q2,q3,q4,q5⟩:=r.o w' h.1;refine Z3 rfl fun K hK=>?_;go_simp;refine (X.o w' h.1).mono ?_;rintro e w2 ⟨rfl,p⟩;exact hK _ _ ⟨_,_,_,_,_,_,_,_,_,_,rfl,h.didC p 1 _ f rfl⟩
       . obtain rfl:=h.cn g f 1 .data;refine Z3 rfl fun K hK=>?_;go_simp;exact hK _ _ ⟨_,_,_,_,_,_,_,_,_,_,rfl,h.sameC 2 _ f rfl⟩
       . obtain rfl:=h.cn g f 2 .data;refine Z3 rfl fun K hK=>?_;go_simp;exact hK _ _ ⟨_,_,_,_,_,_,_,_,_,_,rfl,h.sameC 3 _ f rfl⟩
       . obtain rfl:=h.cn g f 3 .guard;refine Z3 rfl fun K hK=>?_;go_simp;exact hK _ _ ⟨_,_,_,_,_,_,_,_,_,_,rfl,h.same 4 _ .any (by rw [f.o];rfl) trivial⟩
       . obtain rfl:=h.cn g f 3 .guard;refine Z3 rfl fun K hK=>?_;go_simp;exact hK _ _ ⟨_,_,_,_,_,_,_,_,_,_,rfl,h.same 5 _ .any (by rw [f.o];rfl) trivial⟩
       . obtain rfl:=h.cn g f 3 .guard;refine Z3 rfl fun K hK=>?_;go_simp;exact hK _ _ ⟨_,_,_,_,_,_,_,_,_,_,rfl,h.same 6 _ .any (by rw [f.o];rfl) trivial⟩
       . obtain rfl:=h.cn g f 3 .guard;refine Z3 rfl fun K hK=>?_;go_simp;exact hK _ _ ⟨_,_,_,_,_,_,_,_,_,_,rfl,h.same 7 _ .any (by rw [f.o];rfl) trivial⟩
       . obtain rfl:=h.cn g f 3 .guard;refine Z3 rfl fun K hK=>?_;go_simp;exact hK _ _ ⟨_,_,_,_,_,_,_,_,_,_,rfl,h.same 8 _ .any (by rw [f.o];rfl) trivial⟩
       . obtain rfl:=h.cn g f 3 .chain;refine Z3 rfl fun K hK=>?_;go_simp;exact hK _ _ ⟨_,_,_,_,_,_,_,_,_,_,rfl,h.same 9 _ .any (by rw [f.o];rfl) trivial⟩
       . omega
      case last => rintro d I w' m ⟨x15,x16,x17,x18,x19,x20,x21,x22,x23,x24,rfl,h⟩;have v:=h.1;obtain rfl:=h.con 3 (m _ (by omega)) f rfl rfl;have G:=U v;clear h m v f;have E:=U (u.o.trans (G.o.mono u.o.size));go_wp2;go_ret;exact ⟨qx HR.o.symm,E.o⟩
    . cases b2
      . have b6:=U (a0.o rfl);have b7:=U (a1.o rfl);obtain ⟨V,C⟩:∃V:List MP,V=[.con (.agg #[.string z,.int .i64 s.thr,.slice N s.ids.length P,.bool M,.slice Q J.length R,.slice S L.length T]),.con (.bool true),.con (.bool false),.con (.bool false),.con (.slice (some ⟨b,o,none⟩) n c),.con (.int .i64 (k:Int)),.con (.slice (some ⟨b,o,none⟩) k c),.con (.pointer (some ⟨wr.heap.size,0,none⟩)),.con (.string z),.con (.bool false)]:=⟨_,rfl⟩;have f:=U C;clear C;refine qM 10 (fun d I w'=>∃x15 x16 x17 x18 x19 x20 x21 x22 x23 x24,I=⟨#[Value.slice (some { block:=b,off:=o }) n c,undef,u2,Value.int IntKind.i64 (k:Int),Value.pointer (some { block:=wr.heap.size,off:=0 }),Value.slice (some { block:=b,off:=o }) n c,Value.int IntKind.i64 (n:Int),Value.bool false,Value.slice (some { block:=b,off:=o }) n c,Value.int IntKind.i64 (n:Int),Value.int IntKind.i64 (k:Int),Value.bool true,Value.int IntKind.i64 (k:Int),Value.pointer (some { block:=b,off:=o+k * 6 }),Value.agg #[Value.string z,Value.int IntKind.i64 s.thr,Value.slice N s.ids.length P,Value.bool M,Value.slice Q J.length R,Value.slice S L.length T],x15,x16,x17,x18,x19,x20,x21,x22,x23,x24,u25,u26],[]⟩/\za A V d w' [x15,x16,x17,x18,x19,x20,x21,x22,x23,x24]) (by kernel_rfl) (by kernel_rfl) ?first ?step ?last
        case first=>exact ⟨_,_,_,_,_,_,_,_,_,_,rfl,za.first _ _ _ (by rw [f.o];rfl)⟩
        case step =>
         rintro d I w' ⟨x15,x16,x17,x18,x19,x20,x21,x22,x23,x24,rfl,h⟩ q hq hn g;rcases q with _|_|_|_|_|_|_|_|_|_|q
         . obtain ⟨q0,q1,q2,q3,q4,q5⟩:=r.o w' h.1;refine Z3 rfl fun K hK=>?_;go_simp;exact hK _ _ ⟨_,_,_,_,_,_,_,_,_,_,rfl,h.sameC 0 _ f rfl⟩
         . obtain rfl:=h.cn g f 0 .data;obtain ⟨q0,q1,q2,q3,q4,q5⟩:=r.o w' h.1;refine Z3 rfl fun K hK=>?_;go_simp;refine (X.o w' h.1).mono ?_;rintro e w2 ⟨rfl,p⟩;exact hK _ _ ⟨_,_,_,_,_,_,_,_,_,_,rfl,h.didC p 1 _ f rfl⟩
         . obtain rfl:=h.cn g f 1 .data;refine Z3 rfl fun K hK=>?_;go_simp;exact hK _ _ ⟨_,_,_,_,_,_,_,_,_,_,rfl,h.sameC 2 _ f rfl⟩
         . obtain rfl:=h.cn g f 2 .data;refine Z3 rfl fun K hK=>?_;go_simp;exact hK _ _ ⟨_,_,_,_,_,_,_,_,_,_,rfl,h.sameC 3 _ f rfl⟩
         . obtain rfl:=h.cn g f 3 .guard;refine Z3 rfl fun K hK=>?_;go_simp;exact hK _ _ ⟨_,_,_,_,_,_,_,_,_,_,rfl,h.sameC 4 _ f rfl⟩
         . obtain rfl:=h.cn g f 3 .guard;refine Z3 rfl fun K hK=>?_;go_simp;exact hK _ _ ⟨_,_,_,_,_,_,_,_,_,_,rfl,h.sameC 5 _ f rfl⟩
         . obtain rfl:=h.cn g f 3 .guard;obtain rfl:=h.cn g f 4 .data;obtain rfl:=h.cn g f 5 .data;refine Z3 rfl fun K hK=>?_;go_simp;exact hK _ _ ⟨_,_,_,_,_,_,_,_,_,_,rfl,h.sameC 6 _ f rfl⟩
         . obtain rfl:=h.cn g f 3 .guard;refine Z3 rfl fun K hK=>?_;go_simp;exact hK _ _ ⟨_,_,_,_,_,_,_,_,_,_,rfl,h.sameC 7 _ f rfl⟩
         . obtain rfl:=h.cn g f 3 .guard;obtain rfl:=h.cn g f 7 .data;obtain ⟨q0,q1,q2,q3,q4,q5⟩:=r.o w' h.1;refine Z3 rfl fun K hK=>?_;go_simp;exact hK _ _ ⟨_,_,_,_,_,_,_,_,_,_,rfl,h.sameC 8 _ f rfl⟩
         . obtain rfl:=h.cn g f 3 .chain;obtain rfl:=h.cn g f 6 .data;obtain rfl:=h.cn g f 8 .data;obtain ⟨q0,q1,q2,q3,q4,q5⟩:=r.o w' h.1;refine Z3 rfl fun K hK=>?_;go_simp;refine (W.o w' h.1).mono ?_;rintro e w2 ⟨rfl,p⟩;exact hK _ _ ⟨_,_,_,_,_,_,_,_,_,_,rfl,h.didC p 9 _ f rfl⟩
         . omega
        case last =>
         rintro d I w' m ⟨x15,x16,x17,x18,x19,x20,x21,x22,x23,x24,rfl,h⟩;have v:=h.1;obtain rfl:=h.con 3 (m _ (by omega)) f rfl rfl;obtain rfl:=h.con 9 (m _ (by omega)) f rfl rfl;have G:=U v;clear h m v f;have E:=U (u.o.trans (G.o.mono u.o.size));go_wp2;go_roundw
         case rel=>exact ⟨k+1,by omega,by go_num,b6.o,b7.o,E.o⟩
         case measure=>simp [intOf];omega
      . have HR:=U (f.o.trans (H.o rfl));obtain ⟨V,C⟩:∃V:List MP,V=[.con (.agg #[.string z,.int .i64 s.thr,.slice N s.ids.length P,.bool M,.slice Q J.length R,.slice S L.length T]),.con (.bool true),.con (.bool false),.con (.bool false),.con (.slice (some ⟨b,o,none⟩) n c),.con (.int .i64 (k:Int)),.con (.slice (some ⟨b,o,none⟩) k c),.con (.pointer (some ⟨wr.heap.size,0,none⟩)),.con (.string z),.con (.bool true)]:=⟨_,rfl⟩;have f:=U C;clear C;refine qM 10 (fun d I w'=>∃x15 x16 x17 x18 x19 x20 x21 x22 x23 x24,I=⟨#[Value.slice (some { block:=b,off:=o }) n c,undef,u2,Value.int IntKind.i64 (k:Int),Value.pointer (some { block:=wr.heap.size,off:=0 }),Value.slice (some { block:=b,off:=o }) n c,Value.int IntKind.i64 (n:Int),Value.bool false,Value.slice (some { block:=b,off:=o }) n c,Value.int IntKind.i64 (n:Int),Value.int IntKind.i64 (k:Int),Value.bool true,Value.int IntKind.i64 (k:Int),Value.pointer (some { block:=b,off:=o+k * 6 }),Value.agg #[Value.string z,Value.int IntKind.i64 s.thr,Value.slice N s.ids.length P,Value.bool M,Value.slice Q J.length R,Value.slice S L.length T],x15,x16,x17,x18,x19,x20,x21,x22,x23,x24,u25,u26],[]⟩/\za A V d w' [x15,x16,x17,x18,x19,x20,x21,x22,x23,x24]) (by kernel_rfl) (by kernel_rfl) ?first ?step ?last
        case first=>exact ⟨_,_,_,_,_,_,_,_,_,_,rfl,za.first _ _ _ (by rw [f.o];rfl)⟩
        case step =>
         rintro d I w' ⟨x15,x16,x17,x18,x19,x20,x21,x22,x23,x24,rfl,h⟩ q hq hn g;rcases q with _|_|_|_|_|_|_|_|_|_|q
         . obtain ⟨q0,q1,q2,q3,q4,q5⟩:=r.o w' h.1;refine Z3 rfl fun K hK=>?_;go_simp;exact hK _ _ ⟨_,_,_,_,_,_,_,_,_,_,rfl,h.sameC 0 _ f rfl⟩
         . obtain rfl:=h.cn g f 0 .data;obtain ⟨q0,q1,q2,q3,q4,q5⟩:=r.o w' h.1;refine Z3 rfl fun K hK=>?_;go_simp;refine (X.o w' h.1).mono ?_;rintro e w2 ⟨rfl,p⟩;exact hK _ _ ⟨_,_,_,_,_,_,_,_,_,_,rfl,h.didC p 1 _ f rfl⟩
         . obtain rfl:=h.cn g f 1 .data;refine Z3 rfl fun K hK=>?_;go_simp;exact hK _ _ ⟨_,_,_,_,_,_,_,_,_,_,rfl,h.sameC 2 _ f rfl⟩
         . obtain rfl:=h.cn g f 2 .data;refine Z3 rfl fun K hK=>?_;go_simp;exact hK _ _ ⟨_,_,_,_,_,_,_,_,_,_,rfl,h.sameC 3 _ f rfl⟩
         . obtain rfl:=h.cn g f 3 .guard;refine Z3 rfl fun K hK=>?_;go_simp;exact hK _ _ ⟨_,_,_,_,_,_,_,_,_,_,rfl,h.sameC 4 _ f rfl⟩
         . obtain rfl:=h.cn g f 3 .guard;refine Z3 rfl fun K hK=>?_;go_simp;exact hK _ _ ⟨_,_,_,_,_,_,_,_,_,_,rfl,h.sameC 5 _ f rfl⟩
         . obtain rfl:=h.cn g f 3 .guard;obtain rfl:=h.cn g f 4 .data;obtain rfl:=h.cn g f 5 .data;refine Z3 rfl fun K hK=>?_;go_simp;exact hK _ _ ⟨_,_,_,_,_,_,_,_,_,_,rfl,h.sameC 6 _ f rfl⟩
         . obtain rfl:=h.cn g f 3 .guard;refine Z3 rfl fun K hK=>?_;go_simp;exact hK _ _ ⟨_,_,_,_,_,_,_,_,_,_,rfl,h.sameC 7 _ f rfl⟩
         . obtain rfl:=h.cn g f 3 .guard;obtain rfl:=h.cn g f 7 .data;obtain ⟨q0,q1,q2,q3,q4,q5⟩:=r.o w' h.1;refine Z3 rfl fun K hK=>?_;go_simp;exact hK _ _ ⟨_,_,_,_,_,_,_,_,_,_,rfl,h.sameC 8 _ f rfl⟩
         . obtain rfl:=h.cn g f 3 .chain;obtain rfl:=h.cn g f 6 .data;obtain rfl:=h.cn g f 8 .data;obtain ⟨q0,q1,q2,q3,q4,q5⟩:=r.o w' h.1;refine Z3 rfl fun K hK=>?_;go_simp;refine (W.o w' h.1).mono ?_;rintro e w2 ⟨rfl,p⟩;exact hK _ _ ⟨_,_,_,_,_,_,_,_,_,_,rfl,h.didC p 9 _ f rfl⟩
         . omega
        case last => rintro d I w' m ⟨x15,x16,x17,x18,x19,x20,x21,x22,x23,x24,rfl,h⟩;have v:=h.1;obtain rfl:=h.con 3 (m _ (by omega)) f rfl rfl;obtain rfl:=h.con 9 (m _ (by omega)) f rfl rfl;have G:=U v;clear h m v f;have E:=U (u.o.trans (G.o.mono u.o.size));go_wp2;go_ret;exact ⟨qx HR.o.symm,E.o⟩
  . have m3:decide ((k:Int)<(n:Int))=false:=by simpa using hlt
    have HR:=U (f.o.trans (uN (l:=l) (by rw [<- HN.o];exact a8) (fun j hj=>a5.o j hj (by rw [<- HN.o] at hj;omega)) (fun j hj=>a6.o j hj (by rw [<- HN.o] at hj;omega))));go_wp2;go_ret;exact ⟨qx HR.o.symm,F.o⟩
open Go.Shelf Go.Sort
theorem yF (t u:Int) (l m:List ByteArray) (a b:Option Addr) (c d:Nat) (w:World) (hA:qy w 0 w.heap.size a l) (hB:qy w 0 w.heap.size b m) (hl:l.length<=4294967296) (_hm:m.length<=4294967296) :
 Calls Tryz.prog 70 #[.agg #[.int .i64 t,.slice a l.length c],.agg #[.int .i64 u,.slice b m.length d]] w fun e w'=>e=.returned (.bool (decide ((⟨t,l⟩:AuthV)=⟨u,m⟩)))/\O5 w w':=by
 obtain ⟨W,K⟩:=O1 ((w.alloc (.cells #[.int .i64 t,.slice a l.length c] 31)).alloc (.cells #[.int .i64 u,.slice b m.length d] 31));have C:O5 w W:=by rw [K];exact (O4).alloc (by simp) _
 have v:W.heap[w.heap.size]?=some (.cells #[.int .i64 t,.slice a l.length c] 31 (0,0)):=by rw [K];exact ze w _ _
 have A:W.heap[w.heap.size+1]?=some (.cells #[.int .i64 u,.slice b m.length d] 31 (0,0)):=by rw [K];exact jB w _ _
 have R:=U (show ∀w':World,O5 W w'->w'.cell? ⟨w.heap.size,0,none⟩=some (.int .i64 t)/\w'.cell? ⟨w.heap.size,1,none⟩=some (.slice a l.length c)/\w'.cell? ⟨w.heap.size+1,0,none⟩=some (.int .i64 u)/\w'.cell? ⟨w.heap.size+1,1,none⟩=some (.slice b m.length d) from fun w' h=>by
  have o:=(h.block _ (qz v)).trans v;have P:=(h.block _ (qz A)).trans A;exact ⟨qq o rfl,qq o rfl,qq P rfl,qq P rfl⟩)
 have B:=U C;have J:=U K;have HA:=U (hA.below C lz lz C.size);have Q:=U (hB.below C lz lz C.size);have r:=U (show decide ((⟨t,l⟩:AuthV)=⟨u,m⟩)=(decide (t=u) && decide (l=m)) by
  by_cases o:t=u <;> by_cases P:l=m <;> simp [o,P])
 obtain ⟨q,hq⟩:=O1 (decide ((⟨t,l⟩:AuthV)=⟨u,m⟩));rw [<- hq] at r ⊢;clear C K v A hA hB hq;obtain ⟨x0,x1,y0,X⟩:=R.o W (Z0 _ _);by_cases h:t=u
 case neg =>
  have n1:(t != u)=true:=by simpa using h
  rw [Q8 h,K9] at r;clear h;go_enter Tryz.func70,Tryz.ntmps70;go_upto_region 1 with fail
  rw [<- J.o];go_wp2;go_ret;exact ⟨qx r.o.symm,B.o⟩
 have n1:(t != u)=false:=by simpa using h
 rw [Q9 h,X2] at r;clear h;by_cases hlm:l.length=m.length
 case neg =>
  have n2:((l.length:Int) != (m.length:Int))=true:=by simp;omega
  have HD:=U (show q=false by rw [r.o];exact Q8 fun e=>hlm (by rw [e]));clear hlm;go_enter Tryz.func70,Tryz.ntmps70;go_upto_region 1 with fail
  rw [<- J.o];go_wp2;go_ret;exact ⟨qx HD.o.symm,B.o⟩
 obtain ⟨n,D⟩:=O1 l.length;have F:=U D;have G:=U (show n=m.length by rw [D,hlm]);rw [<- hlm,<- D] at R J X;rw [<- D] at x1 ⊢;rw [<- hlm,<- D];have a0:n<=4294967296:=by omega
 have n2:((n:Int) != (n:Int))=false:=by simp
 clear hlm D hl;go_enter Tryz.func70,Tryz.ntmps70;go_upto_region 1 with fail
 rw [<- J.o];clear J;go_wp2_with fail;clear x0 x1 y0 X;go_loopw [5] (fun i wr=>∃k:Nat,k<=n/\i=.int .i64 k/\l.take k=m.take k/\O5 W wr) (fun i _=>n - (intOf i).toNat)
 case atStart=>exact ⟨0,by omega,rfl,rfl,Z0 _ _⟩
 case round =>
  obtain ⟨k,hk,rfl,N,s⟩:=hrel;have H:=U N;have j:=U s;obtain ⟨x0,x1,y0,X⟩:=R.o wr s;clear N s;by_cases hlt:k<n
  . have L:k<l.length:=by rw [<- F.o];exact hlt
    have M:k<m.length:=by rw [<- G.o];exact hlt
    obtain ⟨p,f,V,_,hp,Y⟩:=(HA.o.below j.o lz lz lz).at k L;subst V;obtain ⟨q2,g,V,_,a1,Z⟩:=(Q.o.below j.o lz lz lz).at k M;subst V;have I:=O0 (l[k]=m[k]->l.take (k+1)=m.take (k+1)) (fun e=>by rw [Z8 L,Z8 M,H.o,e]);have E:=O0 (l[k]≠m[k]->decide (l=m)=false) (fun e=>Q8 fun e2=>e (by subst e2;rfl));obtain ⟨x,v⟩:∃x:ByteArray,x=l[k]:=⟨_,rfl⟩;obtain ⟨y,A⟩:∃y:ByteArray,y=m[k]:=⟨_,rfl⟩;replace Y:=Y.trans (Q7 (fun z:ByteArray=>some (Value.string z)) v.symm);replace Z:=Z.trans (Q7 (fun z:ByteArray=>some (Value.string z)) A.symm);rw [<- v,<- A] at I E;clear v A;have m1:(0:Int)<=(k:Int):=by omega
    have m2:(k:Int)<(n:Int):=by omega
    have m3:decide ((k:Int)<(n:Int))=true:=by simpa using hlt
    cases o:(x.toList == y.toList)
    . have T:=U (show q=false by rw [r.o];exact E.o fun e=>by rw [e] at o;simp at o);go_wp2_with fail;go_quiet (fail);go_wp2;go_ret;exact ⟨qx T.o.symm,Below.drewN (B.o.trans (j.o.mono B.o.size)) _⟩
    . have S:=U (I.o (by rw [ba_eq,Z7] at o;exact o));go_wp2_with fail;go_quiet (fail);go_wp2;go_roundw
      case rel=>exact ⟨k+1,by omega,by go_num,S.o,Below.drewN j.o _⟩
      case measure=>simp [intOf];omega
  . obtain rfl:k=n:=by omega
    have T:=U (show q=true by
     rw [r.o];have:=H.o;rw [Q4 (by rw [<- F.o];exact Z9 _),Q4 (by rw [<- G.o];exact Z9 _)] at this;exact Q9 this)
    go_wp2;go_ret;exact ⟨qx T.o.symm,B.o.trans (j.o.mono B.o.size)⟩
theorem fE (l:List ByteArray) (path:ByteArray) (a:Option Addr) (c:Nat) (w:World) (hA:qy w 0 w.heap.size a l) (hl:l.length<=4294967296) (hs:∀s ∈ l,s.size<=4294967296) (hp:path.size<=4294967296) (hT:Tabs w) :
 Calls Tryz.prog 315 #[.slice a l.length c,.string path] w fun e w'=>e=.returned (.bool (xP l path))/\O5 w w':=by
 have S:=U hA;have T:=U hs;have M:=U (nA path w (by omega) hT);have G:=O0 (xP l path=l.any (fun q=>preB q && fH q (ab path))) rfl;clear hA hs hT;obtain ⟨n,L⟩:=O1 l.length;have N:=U L;rw [<- L] at hl ⊢;clear L;obtain ⟨D,J⟩:=O1 (ab path);rw [<- J] at G;rw [show (⟨(kL path.data.toList).toArray⟩:ByteArray)=ab path from rfl,<- J] at M;obtain ⟨V,v⟩:=O1 (xP l path);rw [<- v] at G ⊢;clear J v;go_enter Tryz.func315,Tryz.ntmps315;go_wp2_with (go_at_call 181;refine M.o.mono ?_;rintro e w1 ⟨rfl,K⟩;have I:=U K;clear K);go_loopw [7,12] (fun _ i wr=>∃k:Nat,k<=n/\i=.int .i64 k/\(∀j (h:j<l.length),j<k->(preB l[j] && fH l[j] D)=false)/\O5 w wr) (fun _ i _=>n - (intOf i).toNat)
 case atStart=>exact ⟨0,by omega,rfl,fun j _ h=>by omega,I.o⟩
 case round =>
  obtain ⟨k,Z,rfl,A,x⟩:=hrel;have u:=U A;have g:=U x;clear A x;by_cases hlt:k<n
  . have r:k<l.length:=by rw [<- N.o];exact hlt
    obtain ⟨b,o,X,-,K,W⟩:=(S.o.below g.o lz lz lz).at k r;subst X;have m1:(0:Int)<=(k:Int):=by omega
    have m2:(k:Int)<(n:Int):=by omega
    have Y:decide ((k:Int)<(n:Int))=true:=by simpa using hlt
    have d:=U (fL (f:=fun q=>preB q && fH q D) r);have m:=U (show (preB l[k] && fH l[k] D)=false->∀j (h:j<l.length),j<k+1->(preB l[j] && fH l[j] D)=false from fun h0 j hj hjk=>by
     rcases V3.1 hjk with h1|h1
     . exact u.o j hj h1
     . subst h1;exact h0)
    have C:=T.o l[k] (J1 r);obtain ⟨q,P⟩:=O1 (l[k]);rw [<- P] at W d m C;have F:=U (fun w=>nU q w (by omega));have E:=U (fun w=>Tryz.strings_HasPrefix D q w);have B:Lib.hasPrefix D.data.toList q.data.toList=fH q D:=rfl;rw [B] at E;obtain ⟨y,Q⟩:=O1 (preB q);obtain ⟨z,R⟩:=O1 (fH q D);rw [<- Q] at F d m;rw [<- R] at E d m;clear P Q R C B;cases y with
    | false =>
     have p:=U (m.o rfl);go_wp2_with (go_at_call 139;refine (F.o _).mono ?_;rintro e H ⟨rfl,rfl⟩);go_roundw
     case rel=>exact ⟨k+1,by omega,by go_num,p.o,g.o⟩
     case measure=>simp [intOf];omega
    | true =>
     cases z with
     | false =>
      have p:=U (m.o rfl);go_wp2_with (first|(go_at_call 139;refine (F.o _).mono ?_;rintro e H ⟨rfl,rfl⟩)|(go_at_call 208;refine (E.o _).mono ?_;rintro e H ⟨rfl,rfl⟩));go_roundw
      case rel=>exact ⟨k+1,by omega,by go_num,p.o,g.o⟩
      case measure=>simp [intOf];omega
     | true => have p:=U (G.o.trans (d.o rfl));go_wp2_with (first|(go_at_call 139;refine (F.o _).mono ?_;rintro e H ⟨rfl,rfl⟩)|(go_at_call 208;refine (E.o _).mono ?_;rintro e H ⟨rfl,rfl⟩));go_ret;exact ⟨qx p.o.symm,g.o⟩
  . have Y:decide ((k:Int)<(n:Int))=false:=by simpa using hlt
    have p:=U (G.o.trans (bS (f:=fun q=>preB q && fH q D) (l:=l) (n:=k) (by rw [<- N.o];omega) u.o));go_wp2;go_ret;exact ⟨qx p.o.symm,g.o⟩
theorem l6 (a : Option Addr) (n c : Nat) (w : World) : (method 412 164 (.slice a n c) "legate/deleg.has").run Tryz.prog w = .ok (308, .slice a n c) w := by kernel_rfl
theorem l7 (a : Option Addr) (n c : Nat) (w : World) : (method 412 165 (.slice a n c) "legate/deleg.has").run Tryz.prog w = .ok (314, .slice a n c) w := by kernel_rfl
theorem ix (l:List ByteArray) (path:ByteArray) (a:Option Addr) (c:Nat) (w:World) (j:qy w 0 w.heap.size a l) (k:l.length<=4294967296) (m:∀s ∈ l,s.size<=4294967296) (q:path.size<=4294967296) :
 Calls Tryz.prog 308 #[.slice a l.length c,.string path] w fun e w'=>e=.returned (.bool (l.any fun p=>jT runes p path))/\O5 w w':=by
 have b:=U (ar l path a c w j k m q);obtain ⟨n,g⟩:=O1 l.length;obtain ⟨V,d⟩:=O1 (l.any (fun p=>jT runes p path));rw [<- d] at b ⊢;rw [<- g] at b ⊢;clear j k m g d;go_enter Tryz.func308,Tryz.ntmps308;go_wp2_with (go_at_call 309;refine b.o.mono ?_;rintro e i ⟨rfl,f⟩;have h:=U f;clear f);go_ret;exact ⟨rfl,h.o⟩
theorem ij (l:List ByteArray) (path:ByteArray) (a:Option Addr) (c:Nat) (w:World) (j:qy w 0 w.heap.size a l) (m:l.length<=4294967296) (p:∀s ∈ l,s.size<=4294967296) (q:path.size<=4294967296) (k:Tabs w) :
 Calls Tryz.prog 314 #[.slice a l.length c,.string path] w fun e w'=>e=.returned (.bool (xP l path))/\O5 w w':=by
 have b:=U (fE l path a c w j m p q k);obtain ⟨n,g⟩:=O1 l.length;obtain ⟨V,d⟩:=O1 (xP l path);rw [<- d] at b ⊢;rw [<- g] at b ⊢;clear j m p g d k;go_enter Tryz.func314,Tryz.ntmps314;go_wp2_with (go_at_call 315;refine b.o.mono ?_;rintro e i ⟨rfl,f⟩;have h:=U f;clear f);go_ret;exact ⟨rfl,h.o⟩
theorem f8 (x:ByteArray) (m:Int) (ids:List ByteArray) (y:Bool) (l s:List ByteArray) (u pa q:Option Addr) (v p r:Nat) (w:World) :
 Calls Tryz.prog 78 #[.agg #[.string x,.int .i64 m,.slice u ids.length v,.bool y,.slice pa l.length p,.slice q s.length r]] w fun e w'=>e=.returned (if l≠[] then .iface 164 (.slice pa l.length p) else .iface 165 (.slice q s.length r))/\O5 w w':=by
 obtain ⟨W,b⟩:=O1 (w.alloc (.cells #[.string x,.int .i64 m,.slice u ids.length v,.bool y,.slice pa l.length p,.slice q s.length r] 41));have d:=U (show O5 w W by rw [b];exact O4);have c:=O9 b
 have i:=qq c (j:=4) rfl;have k:=qq c (j:=5) rfl;have a:=U b;clear b c;by_cases hps:l=[]
 . have f:decide ((0:Int)<(l.length:Int))=false:=by subst hps;rfl
   have g:decide (0<l.length)=false:=by subst hps;rfl
   have h:¬0<l.length:=by subst hps;simp
   rw [Z6 (by simp [hps])];clear hps;go_enter Tryz.func78,Tryz.ntmps78;go_upto_region 1 with fail
   rw [<- a.o];clear a;go_wp2;go_ret;exact ⟨rfl,d.o⟩
 . have h:0<l.length:=M2.2 hps;have f:decide ((0:Int)<(l.length:Int))=true:=by rw [Z7];omega
   have g:decide (0<l.length)=true:=by rw [Z7];omega
   rw [Q1 hps];clear hps;go_enter Tryz.func78,Tryz.ntmps78;go_upto_region 1 with fail
   rw [<- a.o];clear a;go_wp2;go_ret;exact ⟨rfl,d.o⟩
theorem ik (x:DelegV) (path:ByteArray):isD runes x path=(qV x && (q8 path && (if x.paths≠[] then x.paths.any (fun p=>jT runes p path) else xP x.pres path))):=by unfold isD;rw [Bool.and_assoc]
theorem dG (x:DelegV) (path:ByteArray) (ia pa qa:Option Addr) (ic pc qc:Nat) (w:World) (hI:DelegIn w 0 w.heap.size x ia pa qa) (hf:DelegFits x) (hp:path.size<=4294967296) (hT:Tabs w) :
 Calls Tryz.prog 23 #[.agg #[.string x.name,.int .i64 x.au.thr,.slice ia x.au.ids.length ic,.bool x.term,.slice pa x.paths.length pc,.slice qa x.pres.length qc],.string path] w fun e w'=>e=.returned (.bool (isD runes x path))/\O5 w w':=by
 have k:=U (ik x path);obtain ⟨V,N⟩:=O1 (isD runes x path);rw [<- N] at k ⊢;clear N;obtain ⟨z,⟨i,g⟩,C,l,q⟩:=x;dsimp only at k ⊢;obtain ⟨W,H⟩:=O1 (w.alloc (.cells #[.string z,.int .i64 i,.slice ia g.length ic,.bool C,.slice pa l.length pc,.slice qa q.length qc] 41));have a:=O7 H
 have L:=O9 H
 have r:=U a;have I:=U (show ∀w':World,O5 W w'->w'.cell? ⟨w.heap.size,0,none⟩=some (.string z)/\w'.cell? ⟨w.heap.size,1,none⟩=some (.int .i64 i)/\w'.cell? ⟨w.heap.size,2,none⟩=some (.slice ia g.length ic)/\w'.cell? ⟨w.heap.size,3,none⟩=some (.bool C)/\w'.cell? ⟨w.heap.size,4,none⟩=some (.slice pa l.length pc)/\w'.cell? ⟨w.heap.size,5,none⟩=some (.slice qa q.length qc) from fun w' h=>by
  have y:=(h.block _ (qz L)).trans L;exact ⟨qq y rfl,qq y rfl,qq y rfl,qq y rfl,qq y rfl,qq y rfl⟩)
 have G:=O0 (∀w':World,O5 W w'->DelegIn w' 0 w'.heap.size ⟨z,⟨i,g⟩,C,l,q⟩ ia pa qa/\Tabs w') (fun w' h=>⟨hI.below (a.trans (h.mono a.size)) lz lz (Z5 a.size h.size),hT.below (a.trans (h.mono a.size))⟩);have j:=U (jQ ⟨z,⟨i,g⟩,C,l,q⟩ ia pa qa ic pc qc W (G.o W (Z0 _ _)).1 hf);have o:=U (fun w=>yz path w (by omega));have m:=U (fun w=>f8 z i g C l q ia pa qa ic pc qc w);have D:=O0 (∀w':World,O5 W w'->_) (fun w' h=>ix l path pa pc w' (G.o w' h).1.paths hf.paths.1 hf.paths.2 hp);have E:=O0 (∀w':World,O5 W w'->_) (fun w' h=>ij q path qa qc w' (G.o w' h).1.pres hf.pres.1 hf.pres.2 hp (G.o w' h).2);have S:=l6;have T:=l7;have F:=U H;obtain ⟨Q,u⟩:∃b,b=qV ⟨z,⟨i,g⟩,C,l,q⟩:=⟨_,rfl⟩;obtain ⟨R,v⟩:∃b,b=q8 path:=⟨_,rfl⟩;obtain ⟨A,J⟩:=O1 (l.any (fun p=>jT runes p path));obtain ⟨B,K⟩:=O1 (xP q path);rw [<- u,<- v,<- J,<- K] at k;rw [<- u] at j;rw [<- v] at o;rw [<- J] at D;rw [<- K] at E;clear a L H hI hf hp hT u v J K;obtain ⟨q0,q1,q2,q3,q4,q5⟩:=I.o W (Z0 _ _);go_enter Tryz.func23,Tryz.ntmps23;go_upto_region 1 with fail
 rw [<- F.o];clear F;cases Q with
 | false =>
  go_wp2_with (go_at_call 77;refine j.o.mono ?_;rintro e M ⟨rfl,a⟩;have c:=U a;clear a)
  go_ret;exact ⟨qx k.o.symm,r.o.trans (c.o.mono r.o.size)⟩
 | true =>
  rw [X2] at k;cases R with
  | false =>
   go_wp2_with (first|(go_at_call 77;refine j.o.mono ?_;rintro e M ⟨rfl,a⟩;have c:=U a;clear a)|(go_at_call 34;refine (o.o _).mono ?_;rintro e P ⟨rfl,a⟩;have d:=U (O2 c a);clear a))
   go_ret;exact ⟨qx k.o.symm,r.o.trans (d.o.mono r.o.size)⟩
  | true =>
   rw [X2] at k;by_cases hps:l=[]
   . rw [Z6 (by simp [hps])] at k;simp only [show ¬l≠[] from by simp [hps],if_false] at m;clear hps;go_wp2_with (first|(go_at_call 77;refine j.o.mono ?_;rintro e M ⟨rfl,a⟩;have c:=U a;clear a)|(go_at_call 34;refine (o.o _).mono ?_;rintro e P ⟨rfl,a⟩;have d:=U (O2 c a);obtain ⟨Z,z1,z2,z3,z4,z5⟩:=I.o _ d.o;clear a)|(go_at_call 78;refine (m.o _).mono ?_;rintro e X ⟨rfl,a⟩;have f:=U (O2 d a);clear a)|(go_at_call 314;refine (E.o _ f.o).mono ?_;rintro e Y ⟨rfl,a⟩;have s:=U (O2 f a);clear a));go_ret;exact ⟨qx k.o.symm,r.o.trans (s.o.mono r.o.size)⟩
   . rw [Q1 hps] at k;simp only [Q1 hps] at m;clear hps;go_wp2_with (first|(go_at_call 77;refine j.o.mono ?_;rintro e M ⟨rfl,a⟩;have c:=U a;clear a)|(go_at_call 34;refine (o.o _).mono ?_;rintro e P ⟨rfl,a⟩;have d:=U (O2 c a);obtain ⟨Z,z1,z2,z3,z4,z5⟩:=I.o _ d.o;clear a)|(go_at_call 78;refine (m.o _).mono ?_;rintro e X ⟨rfl,a⟩;have f:=U (O2 d a);clear a)|(go_at_call 308;refine (D.o _ f.o).mono ?_;rintro e Y ⟨rfl,a⟩;have s:=U (O2 f a);clear a));go_ret;exact ⟨qx k.o.symm,r.o.trans (s.o.mono r.o.size)⟩
