import Derived.Test.YthgembbgcbaghaaGreatDoorDg34
import Derived.Test.YthgembbgcbaghaaGreatDoorDg47
set_option maxHeartbeats 2000000
set_option maxRecDepth 100000

namespace Go.Proofs.YthgembbgcbaghaaGreatDoor
open Go.RowKit
theorem eN (path:ByteArray) (k:Nat) (w:World) (h1:1<=k) (h2:k<=32) (hp:path.size<=4294967296) :
 Calls Tryz.prog 132 #[.string path,.int .i64 k] w fun e w'=>e=.returned (.tuple #[.int .u32 ((jN path k:Nat):Int),.int .i64 0])/\O5 w w':=by
 have x:=U (eR path w (by omega));have v:=U (fun j (h:j<32)=>tz path h);have F:=U (fun j (h:j<=32)=>Y5 (cB (path:=path) h) (J1 (zc2 (by decide) h) (by decide:2 ^ 32<=4294967296)));obtain ⟨l,p⟩:∃l:ByteArray,l=⟨(zk path.data.toList).toArray⟩:=⟨_,rfl⟩;have G:=U (show ∀q (_:q<32),∃h:q<l.size,l[q]=(zk path.data.toList).getD q 0 from fun q C=>by
  have hl:=xe path.data.toList;have u:q<l.size:=by rw [p,ByteArray.size,za3,hl];omega
  refine ⟨u,?_⟩;have e:l.data.toList=zk path.data.toList:=by rw [p]
  rw [V2,<- e];simp only [ByteArray.getElem_eq_getElem_data,Array.getElem?_toList];rw [K0 u];rfl)
 rw [<- p] at x;obtain ⟨SL,I⟩:=O1 (zk path.data.toList);rw [<- I] at v G;obtain ⟨D,y⟩:=O1 (jN path);have X:=U (show D 0=0 by rw [y];exact tq path);rw [<- y] at v F ⊢;clear p I y;have d1:decide ((k:Int)<1)=false:=by rw [V1];omega
 have d2:decide (32<(k:Int))=false:=by rw [V1];omega
 go_enter Tryz.func132,Tryz.ntmps132;go_wp2_with fail;refine x.o.mono ?_;clear x d1 d2;rintro e w1 ⟨rfl,J⟩;have E:=U J;clear J;go_wp2;go_loopw [7,8,9] (fun nv i _ wr=>∃j N:Nat,j<=k/\i=.int .i64 j/\nv=.int .u32 (N:Int)/\Hid (N=D j)/\N<4294967296/\O5 w wr) (fun _ i _ _=>k - (intOf i).toNat)
 case atStart=>exact ⟨0,0,by omega,rfl,rfl,X.o.symm,by omega,E.o⟩
 case round =>
  obtain ⟨j,N,hj,rfl,rfl,HN,hN,M⟩:=hrel;have o:=U M;clear M E;by_cases hlt:j<k
  . have m3:decide ((j:Int)<(k:Int))=true:=by simpa using hlt
    obtain ⟨q,C⟩:=O1 (j / 8);obtain ⟨r,S⟩:=O1 (j % 8);obtain ⟨f,hf⟩:=O1 (7 - r);have a9:r<8:=by rw [S];exact Nat.mod_lt _ (by decide)
    have a0:q<32:=by omega
    have t1:(j:Int).tdiv 8=(q:Int):=by rw [M5 (by omega),C];rfl
    have t2:(j:Int).tmod 8=(r:Int):=by rw [M6 (by omega),S];rfl
    have t3:IntKind.i64.wrap (q:Int)=(q:Int):=V0 _ (by omega);have t4:IntKind.i64.wrap (r:Int)=(r:Int):=V0 _ (by omega);have t5:(7:Int) - (r:Int)=(f:Int):=by omega
    have t6:IntKind.i64.wrap (f:Int)=(f:Int):=V0 _ (by omega);have t7:(j:Int) / 8=(q:Int):=by rw [C];rfl
    have t8:(j:Int) % 8=(r:Int):=by rw [S];rfl
    obtain ⟨a1,R⟩:=G.o q a0;obtain ⟨b,W⟩:∃b:Nat,b=(SL.getD q 0).toNat:=⟨_,rfl⟩;have A:b<256:=by rw [W];exact UInt8.toNat_lt _
    have a8:∀w,(Instr.index 9 (.string l) (.int .i64 (q:Int))).run Tryz.prog w=.ok (.int .u8 (b:Int)) w:=fun w=>by rw [run_index_string w _ _ _ _ Y6,dif_pos ⟨by omega,by omega⟩];simp only [zb2];rw [R,W]
    have t9:IntKind.u64.wrap (b:Int)=(b:Int):=zc5 _ (by omega);obtain ⟨P,T⟩:∃P:Nat,P=2 ^ f:=⟨_,rfl⟩;have a7:0<P:=by rw [T];exact Nat.two_pow_pos _
    have Z:=U (fun w'=>(um f w' (by omega)).mono (fun e w2 (h:e=.returned (.int .u64 ((2 ^ f:Nat):Int))/\w2=w')=>show e=.returned (.int .u64 (P:Int))/\O5 w' w2 from ⟨by rw [h.1,T],by rw [h.2];exact J0 _ _⟩));obtain ⟨z,u⟩:=O1 (b / P);have a2:z<256:=by rw [u];exact Nat.lt_of_le_of_lt (Nat.div_le_self _ _) A
    have g1:(b:Int).tdiv (P:Int)=(z:Int):=by rw [M5 (by omega),u];rfl
    have g2:(b:Int) / (P:Int)=(z:Int):=by rw [u];rfl
    have g3:IntKind.u64.wrap (z:Int)=(z:Int):=zc5 _ (by omega);have g0:((P:Int) == 0)=false:=by rw [K3];omega
    have a4:¬(P:Int)=0:=by omega
    have a5:¬P=0:=by omega
    have a6:(P=0)=False:=by simp;omega
    obtain ⟨a,g⟩:=O1 (z % 2);have g4:(z:Int).tmod 2=(a:Int):=by rw [M6 (by omega),g];rfl
    have g5:(z:Int) % 2=(a:Int):=by rw [g];rfl
    have L:a<2:=by rw [g];exact Nat.mod_lt _ (by decide)
    have g6:IntKind.u64.wrap (a:Int)=(a:Int):=zc5 _ (by omega);have g7:IntKind.u32.wrap (a:Int)=(a:Int):=IntWalk.u32_in _ (by omega);have HS:=U (show D (j+1)=2 * N+a by rw [v.o j (by omega),<- HN.o,g,u,W,T,hf,S,C]);have hM:2 * N+a<4294967296:=by rw [<- HS.o];exact F.o (j+1) (by omega)
    have g8:IntKind.u32.wrap (2 * (N:Int))=2 * (N:Int):=IntWalk.u32_in _ (by omega);have g9:IntKind.u32.wrap (2 * (N:Int)+(a:Int))=2 * (N:Int)+(a:Int):=IntWalk.u32_in _ (by omega);clear C S hf a1 R W T u g;obtain ⟨wb,B⟩:=O1 wr;have a3:=U B;rw [<- B] at o ⊢;clear B;go_upto_region 8 with fail
    obtain ⟨V,hV⟩:∃V:List MP,V=[.con (.string l),.con (.int .i64 (j:Int)),.con (.int .i64 (q:Int)),.con (.int .u8 (b:Int)),.con (.int .u64 (b:Int)),.con (.int .i64 (j:Int)),.con (.int .i64 (r:Int)),.con (.int .i64 (f:Int)),.con (.int .u64 (P:Int)),.con (.int .u64 (z:Int)),.con (.int .u64 (a:Int))]:=⟨_,rfl⟩;have c:=U hV;clear hV;refine qP 11 (fun d a' w'=>∃x23 x24 x25 x26 x27 x28 x29 x30 x31 x32 x33,a'=⟨#[Value.string path,Value.int IntKind.i64 (k:Int),undef,undef,Value.int IntKind.u32 0,Value.int IntKind.i64 0,Value.string l,Value.int IntKind.u32 (N:Int),Value.int IntKind.i64 (j:Int),u9,Value.int IntKind.i64 (k:Int),Value.bool false,Value.bool false,Value.int IntKind.i64 (k:Int),Value.bool false,Value.bool false,Value.string path,Value.string l,Value.int IntKind.i64 (j:Int),Value.int IntKind.i64 (k:Int),Value.bool true,u21,u22,x23,x24,x25,x26,x27,x28,x29,x30,x31,x32,x33,u34,u35,u36,u37,u38,undef],[]⟩/\zW wb V d w' [x23,x24,x25,x26,x27,x28,x29,x30,x31,x32,x33]) (by kernel_rfl) (by kernel_rfl) ?first ?step ?last
    case first=>exact ⟨_,_,_,_,_,_,_,_,_,_,_,rfl,zW.first _ _ _ (by rw [c.o];rfl)⟩
    case step =>
     rintro d a' w' ⟨x23,x24,x25,x26,x27,x28,x29,x30,x31,x32,x33,rfl,h⟩ q C hn m;rcases q with _|_|_|_|_|_|_|_|_|_|_|q
     . refine J4 rfl fun K hK=>?_;go_simp;exact hK _ _ ⟨_,_,_,_,_,_,_,_,_,_,_,rfl,h.sameC 0 _ c rfl⟩
     . refine J4 rfl fun K hK=>?_;go_simp;exact hK _ _ ⟨_,_,_,_,_,_,_,_,_,_,_,rfl,h.sameC 1 _ c rfl⟩
     . obtain rfl:=h.cn m c 1 .data;refine J4 rfl fun K hK=>?_;go_simp;exact hK _ _ ⟨_,_,_,_,_,_,_,_,_,_,_,rfl,h.sameC 2 _ c rfl⟩
     . obtain rfl:=h.cn m c 0 .data;obtain rfl:=h.cn m c 2 .data;refine J4 rfl fun K hK=>?_;go_simp;exact hK _ _ ⟨_,_,_,_,_,_,_,_,_,_,_,rfl,h.sameC 3 _ c rfl⟩
     . obtain rfl:=h.cn m c 3 .data;refine J4 rfl fun K hK=>?_;go_simp;exact hK _ _ ⟨_,_,_,_,_,_,_,_,_,_,_,rfl,h.sameC 4 _ c rfl⟩
     . refine J4 rfl fun K hK=>?_;go_simp;exact hK _ _ ⟨_,_,_,_,_,_,_,_,_,_,_,rfl,h.sameC 5 _ c rfl⟩
     . obtain rfl:=h.cn m c 5 .data;refine J4 rfl fun K hK=>?_;go_simp;exact hK _ _ ⟨_,_,_,_,_,_,_,_,_,_,_,rfl,h.sameC 6 _ c rfl⟩
     . obtain rfl:=h.cn m c 6 .data;refine J4 rfl fun K hK=>?_;go_simp;exact hK _ _ ⟨_,_,_,_,_,_,_,_,_,_,_,rfl,h.sameC 7 _ c rfl⟩
     . obtain rfl:=h.cn m c 7 .data;refine J4 rfl fun K hK=>?_;go_simp;refine (Z.o w').mono ?_;rintro e w2 ⟨rfl,L⟩;exact hK _ _ ⟨_,_,_,_,_,_,_,_,_,_,_,rfl,h.didC L 8 _ c rfl⟩
     . obtain rfl:=h.cn m c 4 .data;obtain rfl:=h.cn m c 8 .data;refine J4 rfl fun K hK=>?_;go_simp;exact hK _ _ ⟨_,_,_,_,_,_,_,_,_,_,_,rfl,h.sameC 9 _ c rfl⟩
     . obtain rfl:=h.cn m c 9 .data;refine J4 rfl fun K hK=>?_;go_simp;exact hK _ _ ⟨_,_,_,_,_,_,_,_,_,_,_,rfl,h.sameC 10 _ c rfl⟩
     . omega
    case last =>
     rintro d a' w' s ⟨x23,x24,x25,x26,x27,x28,x29,x30,x31,x32,x33,rfl,h⟩;have Q:=h.1;obtain rfl:=h.con 10 (s _ (by omega)) c rfl rfl;have H:=U Q;clear h s Q c;have Y:=U (o.o.trans (H.o.mono o.o.size));clear H;go_wp2;go_roundw
     case rel=>exact ⟨j+1,2 * N+a,by omega,by go_num,by push_cast;rfl,HS.o.symm,hM,Y.o⟩
     case measure=>simp [intOf];omega
  . obtain rfl:j=k:=by omega
    have m3:decide ((j:Int)<(j:Int))=false:=by simp
    go_wp2;go_ret2;exact ⟨by rw [<- HN.o];rfl,o.o⟩
theorem ig (t:Int) (k n:Nat) (ids:List ByteArray) (a2:ByteArray) (ia:Option Addr) (ic:Nat) (w:World) (hp:a2.size<=4294967296) (hw:zu ⟨(k:Int),a2,⟨t,ids⟩⟩=0) (h1:1<=k) (h2:k<=32) (hn:n<2 ^ k) :
 Calls Tryz.prog 133 #[.agg #[.int .i64 t,.slice ia ids.length ic,.int .i64 k,.string a2],.int .u32 n] w fun e w'=>e=.returned (.tuple #[.string (zP a2 k n),.int .i64 0])/\O5 w w':=by
 have u:n<4294967296:=Y5 hn (J1 (zc2 (by decide) h2) (by decide));obtain ⟨W,z⟩:=O1 (w.alloc (.cells #[.int .i64 t,.slice ia ids.length ic,.int .i64 k,.string a2] 33));have r:=O7 z
 have H:=O9 z
 have N:=U r;have v:=U (show ∀w':World,O5 W w'->w'.cell? ⟨w.heap.size,0,none⟩=some (.int .i64 t)/\w'.cell? ⟨w.heap.size,1,none⟩=some (.slice ia ids.length ic)/\w'.cell? ⟨w.heap.size,2,none⟩=some (.int .i64 k)/\w'.cell? ⟨w.heap.size,3,none⟩=some (.string a2) from fun w' h=>by
  have y:=(h.block _ (qx H)).trans H;exact ⟨qq y rfl,qq y rfl,qq y rfl,qq y rfl⟩)
 have j:=U (yU t k ids a2 ia ic W hp);rw [hw] at j;obtain ⟨P,x⟩:∃P:Nat,P=2 ^ k:=⟨_,rfl⟩;have D:=U (fun w'=>(um k w' (by omega)).mono (fun e A (h:e=.returned (.int .u64 ((2 ^ k:Nat):Int))/\A=w')=>show e=.returned (.int .u64 (P:Int))/\w'=A from ⟨by rw [h.1,x],h.2.symm⟩));have a1:n<P:=by rw [x];exact hn
 have S:P<=4294967296:=by rw [x];exact J1 (zc2 (by decide) h2) (by decide)
 have p1:IntKind.u64.wrap (n:Int)=(n:Int):=zc5 _ (by omega);have p2:decide ((P:Int)<=(n:Int))=false:=by rw [V1];omega
 have p3:decide (P<=n)=false:=by rw [V1];omega
 have p4:¬P<=n:=by omega
 have p:=U (fun w=>(uu k w h2).mono fun e w' h=>show e=.returned (.int .i64 ((vz k:Nat):Int))/\O5 w w' from ⟨h.1,by rw [h.2];exact J0 _ _⟩);have G:vz k<=8:=by unfold vz;omega
 have i:=U (fun w=>lS n (vz k) w u (by omega));obtain ⟨o,c⟩:=O1 (vz k);have g:=O0 (zP a2 k n=a2 ++ oJ ++ ⟨(jR o n).toArray⟩) (by rw [c];rfl);rw [<- c] at p i;obtain ⟨T,F⟩:∃T:ByteArray,T=⟨(jR o n).toArray⟩:=⟨_,rfl⟩;rw [<- F] at i g;have a0:T.size<=8:=by rw [F];show (jR o n).toArray.size<=8;rw [za3,jv,c];exact G
 have s1:¬9223372036854775807<a2.size+1:=by omega
 have s2:¬9223372036854775807<a2.size+1+T.size:=by omega
 obtain ⟨R,X⟩:=O1 (zP a2 k n);rw [<- X] at g ⊢;have Q:=U z;clear z H r hw hn c F X x;obtain ⟨q0,q1,q2,q3⟩:=v.o W (J0 _ _);go_enter Tryz.func133,Tryz.ntmps133;go_upto_region 1 with fail
 rw [<- Q.o];clear Q;go_wp2_with fail;refine j.o.mono ?_;rintro e Z ⟨rfl,m⟩;have b:=U m;obtain ⟨I,J,L,M⟩:=v.o Z m;clear m q0 q1 q2 q3 j;go_upto_region 6 with (go_at_call 192;refine (D.o _).mono ?_;rintro e w4 ⟨rfl,rfl⟩)
 clear I J L M;obtain ⟨V,Y⟩:∃V:List MP,V=[.con (.pointer (some ⟨w.heap.size,3,none⟩)),.con (.string a2),.con (.string (a2 ++ ⟨#[45]⟩)),.con (.int .u32 (n:Int)),.con (.int .u64 (n:Int)),.con (.pointer (some ⟨w.heap.size,2,none⟩)),.con (.int .i64 (k:Int)),.con (.int .i64 (o:Int)),.con (.string T),.con (.string (a2 ++ ⟨#[45]⟩ ++ T))]:=⟨_,rfl⟩;have a:=U Y;clear Y;refine qP 10 (fun d E w'=>∃x18 x19 x20 x21 x22 x23 x24 x25 x26 x27,E=⟨#[Value.agg #[Value.int IntKind.i64 t,Value.slice ia ids.length ic,Value.int IntKind.i64 (k:Int),Value.string a2],Value.int IntKind.u32 (n:Int),Value.pointer (some { block:=w.heap.size,off:=0 }),undef,Value.string ⟨#[]⟩,Value.int IntKind.i64 0,Value.int IntKind.i64 0,Value.agg #[Value.int IntKind.i64 t,Value.slice ia ids.length ic,Value.int IntKind.i64 (k:Int),Value.string a2],Value.int IntKind.i64 0,Value.int IntKind.i64 0,Value.bool false,undef,Value.int IntKind.u32 (n:Int),Value.int IntKind.u64 (n:Int),Value.pointer (some { block:=w.heap.size,off:=2 }),Value.int IntKind.i64 (k:Int),Value.int IntKind.u64 (P:Int),Value.bool false,x18,x19,x20,x21,x22,x23,x24,x25,x26,x27],[]⟩/\zW Z V d w' [x18,x19,x20,x21,x22,x23,x24,x25,x26,x27]) (by kernel_rfl) (by kernel_rfl) ?first ?step ?last
 case first=>exact ⟨_,_,_,_,_,_,_,_,_,_,rfl,zW.first _ _ _ (by rw [a.o];rfl)⟩
 case step =>
  rintro d E w' ⟨x18,x19,x20,x21,x22,x23,x24,x25,x26,x27,rfl,h⟩ q hq hn hw;rcases q with _|_|_|_|_|_|_|_|_|_|q
  . refine J4 rfl fun K hK=>?_;go_simp;exact hK _ _ ⟨_,_,_,_,_,_,_,_,_,_,rfl,h.sameC 0 _ a rfl⟩
  . obtain rfl:=h.cn hw a 0 .data;obtain ⟨I,J,L,M⟩:=v.o w' (b.o.trans (h.1.mono b.o.size));refine J4 rfl fun K hK=>?_;go_simp;exact hK _ _ ⟨_,_,_,_,_,_,_,_,_,_,rfl,h.sameC 1 _ a rfl⟩
  . obtain rfl:=h.cn hw a 1 .data;refine J4 rfl fun K hK=>?_;go_simp;exact hK _ _ ⟨_,_,_,_,_,_,_,_,_,_,rfl,h.sameC 2 _ a rfl⟩
  . refine J4 rfl fun K hK=>?_;go_simp;exact hK _ _ ⟨_,_,_,_,_,_,_,_,_,_,rfl,h.sameC 3 _ a rfl⟩
  . obtain rfl:=h.cn hw a 3 .data;refine J4 rfl fun K hK=>?_;go_simp;exact hK _ _ ⟨_,_,_,_,_,_,_,_,_,_,rfl,h.sameC 4 _ a rfl⟩
  . refine J4 rfl fun K hK=>?_;go_simp;exact hK _ _ ⟨_,_,_,_,_,_,_,_,_,_,rfl,h.sameC 5 _ a rfl⟩
  . obtain rfl:=h.cn hw a 5 .data;obtain ⟨I,J,L,M⟩:=v.o w' (b.o.trans (h.1.mono b.o.size));refine J4 rfl fun K hK=>?_;go_simp;exact hK _ _ ⟨_,_,_,_,_,_,_,_,_,_,rfl,h.sameC 6 _ a rfl⟩
  . obtain rfl:=h.cn hw a 6 .data
    skip
    refine J4 rfl fun K hK=>?_;go_simp;refine (p.o w').mono ?_;rintro e A ⟨rfl,l⟩;exact hK _ _ ⟨_,_,_,_,_,_,_,_,_,_,rfl,h.didC l 7 _ a rfl⟩
  . obtain rfl:=h.cn hw a 4 .data;obtain rfl:=h.cn hw a 7 .data
    skip
    refine J4 rfl fun K hK=>?_;go_simp;refine (i.o w').mono ?_;rintro e A ⟨rfl,l⟩;exact hK _ _ ⟨_,_,_,_,_,_,_,_,_,_,rfl,h.didC l 8 _ a rfl⟩
  . obtain rfl:=h.cn hw a 2 .data;obtain rfl:=h.cn hw a 8 .data;refine J4 rfl fun K hK=>?_;go_simp;exact hK _ _ ⟨_,_,_,_,_,_,_,_,_,_,rfl,h.sameC 9 _ a rfl⟩
  . omega
 case last => rintro d E w' f ⟨x18,x19,x20,x21,x22,x23,x24,x25,x26,x27,rfl,h⟩;have s:=h.1;obtain rfl:=h.con 9 (f _ (by omega)) a rfl rfl;have C:=U s;clear h f s a;have m:=C.o;have B:=U (O2 N (O2 b m));clear m;go_wp2;go_ret2;exact ⟨by rw [g.o];rfl,B.o⟩
theorem ip (t:Int) (k:Nat) (ids:List ByteArray) (H path:ByteArray) (I:Option Addr) (J:Nat) (w:World) (N:H.size<=4294967296) (P:path.size<=4294967296) (L:zu ⟨(k:Int),H,⟨t,ids⟩⟩=0) (M:1<=k) (K:k<=32) :
 Calls Tryz.prog 74 #[.agg #[.int .i64 t,.slice I ids.length J,.int .i64 k,.string H],.string path] w fun e w'=>e=.returned (.tuple #[.string (zP H k (jN path k)),.int .i64 0])/\O5 w w':=by
 obtain ⟨W,l⟩:=O1 (w.alloc (.cells #[.int .i64 t,.slice I ids.length J,.int .i64 k,.string H] 33));have i:=O7 l
 have p:=O9 l
 have j:=U i;have o:=U (show ∀w':World,O5 W w'->w'.cell? ⟨w.heap.size,0,none⟩=some (.int .i64 t)/\w'.cell? ⟨w.heap.size,1,none⟩=some (.slice I ids.length J)/\w'.cell? ⟨w.heap.size,2,none⟩=some (.int .i64 k)/\w'.cell? ⟨w.heap.size,3,none⟩=some (.string H) from fun w' h=>by
  have y:=(h.block _ (qx p)).trans p;exact ⟨qq y rfl,qq y rfl,qq y rfl,qq y rfl⟩)
 have g:=U (yU t k ids H I J W N);rw [L] at g;have d:=U (fun (w':World) (h:O5 w w')=>eN path k w' M K P);have f:=U (fun w'=>ig t k (jN path k) ids H I J w' N L M K (cB K));obtain ⟨n,z⟩:=O1 (jN path k);rw [<- z] at d f ⊢;obtain ⟨R,x⟩:=O1 (zP H k n);rw [<- x] at f ⊢;have v:=U l;clear l p i L z x;obtain ⟨A,B,C,D⟩:=o.o W (J0 _ _);go_enter Tryz.func74,Tryz.ntmps74;go_upto_region 1 with fail
 rw [<- v.o];clear v;go_wp2_with fail;refine g.o.mono ?_;rintro e E ⟨rfl,a⟩;have b:=U a;obtain ⟨q,r,s,u⟩:=o.o E a;clear a A B C D g;go_wp2_with fail;refine (d.o _ (j.o.trans (b.o.mono j.o.size))).mono ?_;clear q r s u;rintro e F ⟨rfl,a⟩;have c:=U (O2 b a);clear a d;obtain ⟨q,r,s,u⟩:=o.o F c.o;go_wp2_with fail;refine (f.o _).mono ?_;clear q r s u;rintro e G ⟨rfl,a⟩;have m:=U (O2 j (O2 c a));clear a;go_wp2;go_ret2;exact ⟨rfl,m.o⟩
theorem eS (i:Nat) (h:i<16):(((⟨#[48,49,50,51,52,53,54,55,56,57,97,98,99,100,101,102]⟩:ByteArray)[i]'h).toNat:Int)=(qH i).toNat:=by
 have:∀m:Fin 16,(((⟨#[48,49,50,51,52,53,54,55,56,57,97,98,99,100,101,102]⟩:ByteArray)[m.val]'m.isLt).toNat:Int)=(qH m.val).toNat:=by decide
 exact this ⟨i,h⟩
theorem mT (j:Int) (i:Nat) (h:i<16) (b:j=(i:Int)) (w:World):(Instr.index 9 (.string ⟨#[48,49,50,51,52,53,54,55,56,57,97,98,99,100,101,102]⟩) (.int .u8 j)).run Tryz.prog w=.ok (.int .u8 (qH i).toNat) w:=by subst b;have a:i<(⟨#[48,49,50,51,52,53,54,55,56,57,97,98,99,100,101,102]⟩:ByteArray).size:=h;rw [run_index_string w _ _ _ _ Y6,dif_pos ⟨by omega,by omega⟩];congr 2;have:=eS i h;simpa using this
theorem mI (s:ByteArray) (w:World) (X:s.size<=1099511627000) :
 Calls Tryz.prog 145 #[.string s] w fun e w'=>e=.returned (.string ⟨(kg s.data.toList).toArray⟩)/\O5 w w':=by
 obtain ⟨Q,hi,C,D,E⟩:=K9 ug;have f:=U (eR s w X);obtain ⟨t,p⟩:∃t:ByteArray,t=⟨(zk s.data.toList).toArray⟩:=⟨_,rfl⟩;have I:=U (show xJ t.data.toList=kg s.data.toList by rw [p];rfl);have M:t.size<=32:=by rw [p];show (zk s.data.toList).toArray.size<=32;rw [za3,xe];omega
 rw [<- p] at f;clear p;go_enter Tryz.func145,Tryz.ntmps145;go_wp2_with fail;refine f.o.mono ?_;rintro e h ⟨rfl,l⟩;have j:=U l;clear l f;go_wp2;go_loopw [4,5] (fun v i wr=>∃k:Nat,k<=t.size/\i=.int .i64 k/\wr.ownsRow h.heap.size 5 1 v (2 * k) (Lib.byteCells (xJ (t.data.toList.take k)))/\O5 h wr) (fun _ i _=>t.size - (intOf i).toNat)
 case atStart=>exact ⟨0,by omega,rfl,⟨rfl,.inl ⟨rfl,rfl⟩⟩,J0 _ _⟩
 case round =>
  obtain ⟨k,R,rfl,b,a⟩:=hrel;by_cases hlt:k<t.size
  . have m:=hlt;have L:t[k].toNat<256:=t[k].toNat_lt;have S:(k:Int)<(t.size:Int):=by omega
    have N:h.heap.size<=wr.heap.size:=a.size;have F:=U b;clear b;have q:=U a;clear a;obtain ⟨c,d⟩:=O1 (t[k].toNat);have r:=U d;have G:(t[k].toNat:Int)=(c:Int):=by rw [d]
    rw [<- d] at L;clear d;have T:(c:Int).tdiv 16=(c:Int) / 16:=M5 (by omega);have V:(c:Int).tmod 16=(c:Int) % 16:=M6 (by omega);have W:IntKind.u8.wrap ((c:Int) / 16)=(c:Int) / 16:=zf0 _ (by omega);have J:∀w,(Instr.index 9 (.string ⟨#[48,49,50,51,52,53,54,55,56,57,97,98,99,100,101,102]⟩) (.int .u8 ((c:Int) / 16))).run Tryz.prog w=.ok (.int .u8 (qH (c / 16)).toNat) w:=mT _ (c / 16) (by omega) (by omega);have K:∀w,(Instr.index 9 (.string ⟨#[48,49,50,51,52,53,54,55,56,57,97,98,99,100,101,102]⟩) (.int .u8 ((c:Int) % 16))).run Tryz.prog w=.ok (.int .u8 (qH (c % 16)).toNat) w:=mT _ (c % 16) (by omega) (by omega);have x:=O0 (∀o,h.heap.size<=((wr.alloc o).drew).heap.size) (fun o=>by simp <;> omega);have y:=O0 (∀o,((wr.alloc o).drew).heap.size=wr.heap.size+1) (fun o=>by simp);have z:=U (show 2 * k+2<=maxLen by unfold maxLen;omega);have A:=U (show (2 * k+2) * 1<=140737488355328 by omega);go_wp2_with fail
    go_region_held3 (fun w'=>True) (first|trivial|go_keep) ((refine N5 _ (by rfl) _ _ _ (by rfl) h.heap.size 5 Q _ 1 1 G2 hi C D E rfl (by omega) _ (2 * k) _ (by rfl) ((F.o.alloc _).drew) ⟨wr.heap.size,0,none⟩ 2 2 [.int .u8 (qH (c / 16)).toNat,.int .u8 (qH (c % 16)).toNat] (by rfl) (by rfl) (Y0 (cs:=#[.int .u8 (qH (c / 16)).toNat,.int .u8 (qH (c % 16)).toNat]) (t:=5) (fr:=(0,0)) (J2 wr _)) (by simp [Value.oneCell']) (by omega) z.o A.o (x.o _) (wr.heap.size+1) (y.o _) ?_;intro gg cap w2 hown1 hgrow hat hlt6))
    all_goals
     have u:=U hown1;have H:=U hgrow;clear hown1 hgrow hat J K;go_wp2;go_roundw
     case rel =>
      refine ⟨k+1,by omega,by go_num,?_,?_⟩
      . rw [show 2 * (k+1)=2 * k+2 by omega,pk t k m c r.o];exact u.o
      . exact ((q.o.alloc (by omega) _).drew).grown H.o (by simp;omega) (fun g hg=>(F.o.lt g hg).1)
     case measure=>simp [intOf];omega
  . have B:=zA (P:=Tryz.prog) 114 9 5 G2 N9 Y6 b;rw [X2 (by rw [qp];omega),I.o] at B;have q:=U a;clear b a;go_wp2;go_ret;exact ⟨rfl,j.o.trans (q.o.mono j.o.size)⟩
theorem eA {q:ByteArray} (h:preB q=true):q.size<=64:=by unfold preB at h;simp only [X3,J6] at h;exact h.1.2
theorem rf {q s:ByteArray} (_h:q.size<=s.size):((s.extract 0 q.size).toList == q.toList)=vL q s:=by
 rw [Y3,Y3];have e:(s.extract 0 q.size).data.toList=s.data.toList.take q.data.toList.length:=(by rw [ByteArray.data_extract,Array.toList_extract];simp only [List.extract_eq_take_drop,za1,Nat.sub_zero,Array.length_toList,ByteArray.size]);rw [e,vL,za4,zd6,List.isPrefixOf_iff_prefix];constructor
 . intro h2;rw [<- h2];exact List.take_prefix _ _
 . intro h2;exact (List.prefix_iff_eq_take.1 h2).symm
theorem uF (l:List ByteArray) (path:ByteArray) (a:Option Addr) (c:Nat) (w:World) (hA:qv w 0 w.heap.size a l) (hl:l.length<=4294967296) (hs:∀s ∈ l,s.size<=4294967296) (hp:path.size<=4294967296) :
 Calls Tryz.prog 81 #[.slice a l.length c,.string path] w fun e w'=>e=.returned (.bool (zV l path))/\O5 w w':=by
 have HA:=U hA;have HS:=U hs;have HD:=U (mI path w (by omega));have g:=O0 (zV l path=l.any (fun q=>preB q && vL q (d9 path))) rfl;clear hA hs;obtain ⟨n,X⟩:=O1 l.length;have HN:=U X;rw [<- X] at hl ⊢;clear X;obtain ⟨D,hD⟩:=O1 (d9 path);rw [<- hD] at g;rw [show (⟨(kg path.data.toList).toArray⟩:ByteArray)=d9 path from rfl,<- hD] at HD;obtain ⟨V,T⟩:=O1 (zV l path);rw [<- T] at g ⊢;have R:D.size=64:=by rw [hD,d9,ByteArray.size,za3];rw [k9]
 have L:=U R;clear hD T;go_enter Tryz.func81,Tryz.ntmps81;go_wp2_with (go_at_call 145;refine HD.o.mono ?_;rintro e w1 ⟨rfl,hb⟩;have a0:=U hb;clear hb);go_loopw [6] (fun i wr=>∃k:Nat,k<=n/\i=.int .i64 k/\(∀j (h:j<l.length),j<k->(preB l[j] && vL l[j] D)=false)/\O5 w wr) (fun i _=>n - (intOf i).toNat)
 case atStart=>exact ⟨0,by omega,rfl,fun j _ h=>by omega,a0.o⟩
 case round =>
  obtain ⟨k,hk,rfl,Y,W⟩:=hrel;have N:=U Y;have r:=U W;clear Y W;by_cases hlt:k<n
  . have I:k<l.length:=by rw [<- HN.o];exact hlt
    obtain ⟨b,o,ha,-,hb,e0⟩:=(HA.o.below r.o lz lz lz).at k I;subst ha;have m1:(0:Int)<=(k:Int):=by omega
    have m2:(k:Int)<(n:Int):=by omega
    have m3:decide ((k:Int)<(n:Int))=true:=by simpa using hlt
    have u:=U (gK (f:=fun q=>preB q && vL q D) I);have x:=U (show (preB l[k] && vL l[k] D)=false->∀j (h:j<l.length),j<k+1->(preB l[j] && vL l[j] D)=false from fun h0 j hj hjk=>by
     rcases V5.1 hjk with h1|h1
     . exact N.o j hj h1
     . subst h1;exact h0)
    have J:=HS.o l[k] (X6 I);obtain ⟨q,hq⟩:=O1 (l[k]);rw [<- hq] at e0 u x J;have HM:=U (fun w'=>(sE q w' (by omega)).mono (fun e w2 (h:e=.returned (.bool (preB q))/\w'=w2)=>show e=.returned (.bool (preB q))/\O5 w' w2 from ⟨h.1,by rw [<- h.2];exact J0 _ _⟩));have C:=O0 (preB q=true->q.size<=64) eA;have a3:q.size<=4294967296:=J;obtain ⟨E,hE⟩:=O1 (D.extract 0 q.size);have a1:=U (show q.size<=64->∀w',(Instr.slice 9 (.string D) none (some (.int .i64 (q.size:Int))) none).run Tryz.prog w'=.ok (.string E) w' from fun hq64 w'=>by
     have:=run_slice_string_h (P:=Tryz.prog) w' 9 D Y6 .i64 (q.size:Int) (by omega) (by rw [L.o];omega);rw [this,hE];rfl)
    have M:=O0 (q.size<=64->(E.toList == q.toList)=vL q D) (fun hq64=>by rw [hE];exact rf (by rw [L.o];exact hq64));obtain ⟨y,hy⟩:=O1 (preB q);obtain ⟨z,hz⟩:=O1 (vL q D);rw [<- hy] at HM u x C;rw [<- hz] at u x M;have Q:=O0 (∀w':World,O5 wr w'->w'.cell? ⟨b,o+k,none⟩=some (.string q)) (fun w' h=>(V9 (h.block b (Y5 hb r.o.size))).trans e0);clear hq hy hz J hE e0;obtain ⟨wb,Z⟩:=O1 wr;rw [<- Z] at Q r ⊢;clear Z;go_upto_region 5 with fail
    cases y with
    | false =>
     have F:=U (x.o rfl);obtain ⟨V,S⟩:∃V:List MP,V=[.con (.slice (some ⟨b,o,none⟩) n c),.con (.int .i64 (k:Int)),.con (.pointer (some ⟨b,o+k,none⟩)),.con (.string q),.con (.bool false),.con (.bool false),.any,.any,.any,.any,.any,.any,.any,.any,.any,.any,.any,.any]:=⟨_,rfl⟩;have g:=U S;clear S;refine qP 18 (fun d G w'=>∃x15 x16 x17 x18 x19 x20 x21 x22 x23 x24 x25 x26 x27 x28 x29 x30 x31 x32,G=⟨#[Value.slice (some { block:=b,off:=o }) n c,Value.string path,undef,undef,u4,Value.string D,Value.int IntKind.i64 (k:Int),Value.string path,Value.string D,Value.int IntKind.i64 (k:Int),Value.slice (some { block:=b,off:=o }) n c,Value.int IntKind.i64 (n:Int),Value.bool true,u13,u14,x15,x16,x17,x18,x19,x20,x21,x22,x23,x24,x25,x26,x27,x28,x29,x30,x31,x32,u33],[]⟩/\zW wb V d w' [x15,x16,x17,x18,x19,x20,x21,x22,x23,x24,x25,x26,x27,x28,x29,x30,x31,x32]) (by kernel_rfl) (by kernel_rfl) ?first ?step ?last
     case first=>exact ⟨_,_,_,_,_,_,_,_,_,_,_,_,_,_,_,_,_,_,rfl,zW.first _ _ _ (by rw [g.o];rfl)⟩
     case step =>
      rintro d G w' ⟨x15,x16,x17,x18,x19,x20,x21,x22,x23,x24,x25,x26,x27,x28,x29,x30,x31,x32,rfl,h⟩ q hq X m;rcases q with _|_|_|_|_|_|_|_|_|_|_|_|_|_|_|_|_|_|q
      . refine J4 rfl fun K hK=>?_;go_simp;exact hK _ _ ⟨_,_,_,_,_,_,_,_,_,_,_,_,_,_,_,_,_,_,rfl,h.sameC 0 _ g rfl⟩
      . refine J4 rfl fun K hK=>?_;go_simp;exact hK _ _ ⟨_,_,_,_,_,_,_,_,_,_,_,_,_,_,_,_,_,_,rfl,h.sameC 1 _ g rfl⟩
      . obtain rfl:=h.cn m g 0 .data;obtain rfl:=h.cn m g 1 .data
        skip
        refine J4 rfl fun K hK=>?_;go_simp;exact hK _ _ ⟨_,_,_,_,_,_,_,_,_,_,_,_,_,_,_,_,_,_,rfl,h.sameC 2 _ g rfl⟩
      . obtain rfl:=h.cn m g 2 .data;obtain h0:=Q.o w' h.1;refine J4 rfl fun K hK=>?_;go_simp;exact hK _ _ ⟨_,_,_,_,_,_,_,_,_,_,_,_,_,_,_,_,_,_,rfl,h.sameC 3 _ g rfl⟩
      . obtain rfl:=h.cn m g 3 .data
        skip
        refine J4 rfl fun K hK=>?_;go_simp;refine (HM.o w').mono ?_;rintro e w2 ⟨rfl,H⟩;exact hK _ _ ⟨_,_,_,_,_,_,_,_,_,_,_,_,_,_,_,_,_,_,rfl,h.didC H 4 _ g rfl⟩
      . obtain rfl:=h.cn m g 4 .data;refine J4 rfl fun K hK=>?_;go_simp;exact hK _ _ ⟨_,_,_,_,_,_,_,_,_,_,_,_,_,_,_,_,_,_,rfl,h.sameC 5 _ g rfl⟩
      . obtain rfl:=h.cn m g 5 .guard;refine J4 rfl fun K hK=>?_;go_simp;exact hK _ _ ⟨_,_,_,_,_,_,_,_,_,_,_,_,_,_,_,_,_,_,rfl,h.same 6 _ .any (by rw [g.o];rfl) trivial⟩
      . obtain rfl:=h.cn m g 5 .guard;refine J4 rfl fun K hK=>?_;go_simp;exact hK _ _ ⟨_,_,_,_,_,_,_,_,_,_,_,_,_,_,_,_,_,_,rfl,h.same 7 _ .any (by rw [g.o];rfl) trivial⟩
      . obtain rfl:=h.cn m g 5 .guard;refine J4 rfl fun K hK=>?_;go_simp;exact hK _ _ ⟨_,_,_,_,_,_,_,_,_,_,_,_,_,_,_,_,_,_,rfl,h.same 8 _ .any (by rw [g.o];rfl) trivial⟩
      . obtain rfl:=h.cn m g 5 .guard;refine J4 rfl fun K hK=>?_;go_simp;exact hK _ _ ⟨_,_,_,_,_,_,_,_,_,_,_,_,_,_,_,_,_,_,rfl,h.same 9 _ .any (by rw [g.o];rfl) trivial⟩
      . obtain rfl:=h.cn m g 5 .guard;refine J4 rfl fun K hK=>?_;go_simp;exact hK _ _ ⟨_,_,_,_,_,_,_,_,_,_,_,_,_,_,_,_,_,_,rfl,h.same 10 _ .any (by rw [g.o];rfl) trivial⟩
      . obtain rfl:=h.cn m g 5 .guard;refine J4 rfl fun K hK=>?_;go_simp;exact hK _ _ ⟨_,_,_,_,_,_,_,_,_,_,_,_,_,_,_,_,_,_,rfl,h.same 11 _ .any (by rw [g.o];rfl) trivial⟩
      . obtain rfl:=h.cn m g 5 .guard;refine J4 rfl fun K hK=>?_;go_simp;exact hK _ _ ⟨_,_,_,_,_,_,_,_,_,_,_,_,_,_,_,_,_,_,rfl,h.same 12 _ .any (by rw [g.o];rfl) trivial⟩
      . obtain rfl:=h.cn m g 5 .guard;refine J4 rfl fun K hK=>?_;go_simp;exact hK _ _ ⟨_,_,_,_,_,_,_,_,_,_,_,_,_,_,_,_,_,_,rfl,h.same 13 _ .any (by rw [g.o];rfl) trivial⟩
      . obtain rfl:=h.cn m g 5 .guard;refine J4 rfl fun K hK=>?_;go_simp;exact hK _ _ ⟨_,_,_,_,_,_,_,_,_,_,_,_,_,_,_,_,_,_,rfl,h.same 14 _ .any (by rw [g.o];rfl) trivial⟩
      . obtain rfl:=h.cn m g 5 .guard;refine J4 rfl fun K hK=>?_;go_simp;exact hK _ _ ⟨_,_,_,_,_,_,_,_,_,_,_,_,_,_,_,_,_,_,rfl,h.same 15 _ .any (by rw [g.o];rfl) trivial⟩
      . obtain rfl:=h.cn m g 5 .guard;refine J4 rfl fun K hK=>?_;go_simp;exact hK _ _ ⟨_,_,_,_,_,_,_,_,_,_,_,_,_,_,_,_,_,_,rfl,h.same 16 _ .any (by rw [g.o];rfl) trivial⟩
      . obtain rfl:=h.cn m g 5 .guard;refine J4 rfl fun K hK=>?_;go_simp;exact hK _ _ ⟨_,_,_,_,_,_,_,_,_,_,_,_,_,_,_,_,_,_,rfl,h.same 17 _ .any (by rw [g.o];rfl) trivial⟩
      . omega
     case last =>
      rintro d G w' p ⟨x15,x16,x17,x18,x19,x20,x21,x22,x23,x24,x25,x26,x27,x28,x29,x30,x31,x32,rfl,h⟩;have A:=h.1;obtain rfl:=h.con 5 (p _ (by omega)) g rfl rfl;have v:=U A;clear h p A g;have B:=U (r.o.trans (v.o.mono r.o.size));clear v;go_wp2;go_roundw
      case rel=>exact ⟨k+1,by omega,by go_num,F.o,B.o⟩
      case measure=>simp [intOf];omega
    | true =>
     have a4:=a1.o (C.o rfl);have a2:=M.o (C.o rfl);obtain ⟨V,S⟩:∃V:List MP,V=[.con (.slice (some ⟨b,o,none⟩) n c),.con (.int .i64 (k:Int)),.con (.pointer (some ⟨b,o+k,none⟩)),.con (.string q),.con (.bool true),.con (.bool true),.con (.string D),.con (.slice (some ⟨b,o,none⟩) n c),.con (.int .i64 (k:Int)),.con (.pointer (some ⟨b,o+k,none⟩)),.con (.string q),.con (.int .i64 (q.size:Int)),.con (.string E),.con (.slice (some ⟨b,o,none⟩) n c),.con (.int .i64 (k:Int)),.con (.pointer (some ⟨b,o+k,none⟩)),.con (.string q),.con (.bool z)]:=⟨_,rfl⟩;have g:=U S;clear S;refine qP 18 (fun d G w'=>∃x15 x16 x17 x18 x19 x20 x21 x22 x23 x24 x25 x26 x27 x28 x29 x30 x31 x32,G=⟨#[Value.slice (some { block:=b,off:=o }) n c,Value.string path,undef,undef,u4,Value.string D,Value.int IntKind.i64 (k:Int),Value.string path,Value.string D,Value.int IntKind.i64 (k:Int),Value.slice (some { block:=b,off:=o }) n c,Value.int IntKind.i64 (n:Int),Value.bool true,u13,u14,x15,x16,x17,x18,x19,x20,x21,x22,x23,x24,x25,x26,x27,x28,x29,x30,x31,x32,u33],[]⟩/\zW wb V d w' [x15,x16,x17,x18,x19,x20,x21,x22,x23,x24,x25,x26,x27,x28,x29,x30,x31,x32]) (by kernel_rfl) (by kernel_rfl) ?first ?step ?last
     case first=>exact ⟨_,_,_,_,_,_,_,_,_,_,_,_,_,_,_,_,_,_,rfl,zW.first _ _ _ (by rw [g.o];rfl)⟩
     case step =>
      rintro d G w' ⟨x15,x16,x17,x18,x19,x20,x21,x22,x23,x24,x25,x26,x27,x28,x29,x30,x31,x32,rfl,h⟩ q hq X m;rcases q with _|_|_|_|_|_|_|_|_|_|_|_|_|_|_|_|_|_|q
      . refine J4 rfl fun K hK=>?_;go_simp;exact hK _ _ ⟨_,_,_,_,_,_,_,_,_,_,_,_,_,_,_,_,_,_,rfl,h.sameC 0 _ g rfl⟩
      . refine J4 rfl fun K hK=>?_;go_simp;exact hK _ _ ⟨_,_,_,_,_,_,_,_,_,_,_,_,_,_,_,_,_,_,rfl,h.sameC 1 _ g rfl⟩
      . obtain rfl:=h.cn m g 0 .data;obtain rfl:=h.cn m g 1 .data
        skip
        refine J4 rfl fun K hK=>?_;go_simp;exact hK _ _ ⟨_,_,_,_,_,_,_,_,_,_,_,_,_,_,_,_,_,_,rfl,h.sameC 2 _ g rfl⟩
      . obtain rfl:=h.cn m g 2 .data;obtain h0:=Q.o w' h.1;refine J4 rfl fun K hK=>?_;go_simp;exact hK _ _ ⟨_,_,_,_,_,_,_,_,_,_,_,_,_,_,_,_,_,_,rfl,h.sameC 3 _ g rfl⟩
      . obtain rfl:=h.cn m g 3 .data
        skip
        refine J4 rfl fun K hK=>?_;go_simp;refine (HM.o w').mono ?_;rintro e w2 ⟨rfl,H⟩;exact hK _ _ ⟨_,_,_,_,_,_,_,_,_,_,_,_,_,_,_,_,_,_,rfl,h.didC H 4 _ g rfl⟩
      . obtain rfl:=h.cn m g 4 .data;refine J4 rfl fun K hK=>?_;go_simp;exact hK _ _ ⟨_,_,_,_,_,_,_,_,_,_,_,_,_,_,_,_,_,_,rfl,h.sameC 5 _ g rfl⟩
      . obtain rfl:=h.cn m g 5 .guard;refine J4 rfl fun K hK=>?_;go_simp;exact hK _ _ ⟨_,_,_,_,_,_,_,_,_,_,_,_,_,_,_,_,_,_,rfl,h.sameC 6 _ g rfl⟩
      . obtain rfl:=h.cn m g 5 .guard;refine J4 rfl fun K hK=>?_;go_simp;exact hK _ _ ⟨_,_,_,_,_,_,_,_,_,_,_,_,_,_,_,_,_,_,rfl,h.sameC 7 _ g rfl⟩
      . obtain rfl:=h.cn m g 5 .guard;refine J4 rfl fun K hK=>?_;go_simp;exact hK _ _ ⟨_,_,_,_,_,_,_,_,_,_,_,_,_,_,_,_,_,_,rfl,h.sameC 8 _ g rfl⟩
      . obtain rfl:=h.cn m g 5 .guard;obtain rfl:=h.cn m g 7 .data;obtain rfl:=h.cn m g 8 .data
        skip
        refine J4 rfl fun K hK=>?_;go_simp;exact hK _ _ ⟨_,_,_,_,_,_,_,_,_,_,_,_,_,_,_,_,_,_,rfl,h.sameC 9 _ g rfl⟩
      . obtain rfl:=h.cn m g 5 .guard;obtain rfl:=h.cn m g 9 .data;obtain h0:=Q.o w' h.1;refine J4 rfl fun K hK=>?_;go_simp;exact hK _ _ ⟨_,_,_,_,_,_,_,_,_,_,_,_,_,_,_,_,_,_,rfl,h.sameC 10 _ g rfl⟩
      . obtain rfl:=h.cn m g 5 .guard;obtain rfl:=h.cn m g 10 .data;refine J4 rfl fun K hK=>?_;go_simp;exact hK _ _ ⟨_,_,_,_,_,_,_,_,_,_,_,_,_,_,_,_,_,_,rfl,h.sameC 11 _ g rfl⟩
      . obtain rfl:=h.cn m g 5 .guard;obtain rfl:=h.cn m g 6 .data;obtain rfl:=h.cn m g 11 .data;refine J4 rfl fun K hK=>?_;go_simp;exact hK _ _ ⟨_,_,_,_,_,_,_,_,_,_,_,_,_,_,_,_,_,_,rfl,h.sameC 12 _ g rfl⟩
      . obtain rfl:=h.cn m g 5 .guard;refine J4 rfl fun K hK=>?_;go_simp;exact hK _ _ ⟨_,_,_,_,_,_,_,_,_,_,_,_,_,_,_,_,_,_,rfl,h.sameC 13 _ g rfl⟩
      . obtain rfl:=h.cn m g 5 .guard;refine J4 rfl fun K hK=>?_;go_simp;exact hK _ _ ⟨_,_,_,_,_,_,_,_,_,_,_,_,_,_,_,_,_,_,rfl,h.sameC 14 _ g rfl⟩
      . obtain rfl:=h.cn m g 5 .guard;obtain rfl:=h.cn m g 13 .data;obtain rfl:=h.cn m g 14 .data
        skip
        refine J4 rfl fun K hK=>?_;go_simp;exact hK _ _ ⟨_,_,_,_,_,_,_,_,_,_,_,_,_,_,_,_,_,_,rfl,h.sameC 15 _ g rfl⟩
      . obtain rfl:=h.cn m g 5 .guard;obtain rfl:=h.cn m g 15 .data;obtain h0:=Q.o w' h.1;refine J4 rfl fun K hK=>?_;go_simp;exact hK _ _ ⟨_,_,_,_,_,_,_,_,_,_,_,_,_,_,_,_,_,_,rfl,h.sameC 16 _ g rfl⟩
      . obtain rfl:=h.cn m g 5 .guard;obtain rfl:=h.cn m g 12 .data;obtain rfl:=h.cn m g 16 .data;refine J4 rfl fun K hK=>?_;go_simp;exact hK _ _ ⟨_,_,_,_,_,_,_,_,_,_,_,_,_,_,_,_,_,_,rfl,h.sameC 17 _ g rfl⟩
      . omega
     case last =>
      rintro d G w' p ⟨x15,x16,x17,x18,x19,x20,x21,x22,x23,x24,x25,x26,x27,x28,x29,x30,x31,x32,rfl,h⟩;have A:=h.1;obtain rfl:=h.con 5 (p _ (by omega)) g rfl rfl;obtain rfl:=h.con 17 (p _ (by omega)) g rfl rfl;have v:=U A;clear h p A g;have B:=U (r.o.trans (v.o.mono r.o.size));clear v;cases z with
      | false =>
       have F:=U (x.o rfl);go_wp2;go_roundw
       case rel=>exact ⟨k+1,by omega,by go_num,F.o,B.o⟩
       case measure=>simp [intOf];omega
      | true => have F:=U (g.o.trans (u.o rfl));go_wp2;go_ret;exact ⟨qz F.o.symm,B.o⟩
  . have m3:decide ((k:Int)<(n:Int))=false:=by simpa using hlt
    have F:=U (g.o.trans (wH (f:=fun q=>preB q && vL q D) (l:=l) (n:=k) (by rw [<- HN.o];omega) N.o));go_wp2;go_ret;exact ⟨qz F.o.symm,r.o⟩
theorem ak (s t:ByteArray) (w:World) (v:s.size<=4294967) (x:t.size<=4294967) :
 Calls Tryz.prog 94 #[.agg #[.string s,.string t]] w (xX s t w):=by
 have i:=U (fs s t (w.alloc (.cells #[.string s,.string t] 43)) (by omega) (by omega));have g:=O0 (O5 w (w.alloc (.cells #[.string s,.string t] 43))) O4;have m:=U (J2 w (.cells #[.string s,.string t] 43));unfold xX jB;cases hk:zd s.data.toList t.data.toList
 . rw [hk] at i;clear hk;go_enter Tryz.func94,Tryz.ntmps94;go_wp2_with fail;refine i.o.mono ?_;rintro e d ⟨rfl,a⟩;have b:=U (g.o.trans (a.mono (by simp)));clear a;go_wp2;go_ret2;exact ⟨rfl,b.o⟩
 . rw [hk] at i;clear hk;obtain ⟨f,j⟩:∃f:ByteArray,f=((⟨#[123,34,112,117,98,108,105,99,34,58,34]⟩ ++ t ++ ⟨#[34,44,34,115,99,104,101,109,101,34,58,34]⟩) ++ s) ++ ⟨#[34,125]⟩:=⟨_,rfl⟩;have p:=U (show f.data.toList=jE s.data.toList t.data.toList by
    rw [j];simp only [gR];unfold jE;simp [sJ,sK])
   have o:f.size<=1099511627000:=(by rw [j];simp only [zd3];show 11+t.size+12+s.size+2<=_;omega);have l:=U j;clear j;go_enter Tryz.func94,Tryz.ntmps94;go_wp2_with fail;refine i.o.mono ?_;rintro e d ⟨rfl,a⟩;have b:=U (g.o.trans (a.mono (by simp)));have c:=a.block w.heap.size (by simp);rw [m.o] at c;have q:d.cell? ⟨w.heap.size,0,none⟩=some (.string s):=qq (w:=d) c rfl;have r:d.cell? ⟨w.heap.size,1,none⟩=some (.string t):=qq (w:=d) c rfl;clear a c;go_wp2_with fail;rw [<- l.o];refine (mI f d o).mono ?_;rintro e u ⟨rfl,h⟩;have k:=U (O2 b h);clear h;go_wp2;go_ret2;exact ⟨by rw [p.o];rfl,k.o⟩
