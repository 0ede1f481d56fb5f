import Derived.Test.YthgembbgcbaghaaGreatDoorDn43
set_option maxHeartbeats 8000000
set_option maxRecDepth 100000

namespace Go.Proofs.YthgembbgcbaghaaGreatDoor
open Go.RowKit Go.Shelf Go.Sort
theorem xc.one {T B g:Nat} {w:World} (q:vl) (lo hi:Nat) (c:B<=g) (d:B<=lo) (f:hi<=g) (e:stepP w lo hi q) (b:w.heap[g]?=some (.cells (encS q).toArray T (0,0))):xc T B w (.slice (some ⟨g,0,none⟩) 1 1) [q]:=by
 have a:=qz b;refine ⟨⟨rfl,.inr ⟨g,1,_,rfl,c,b,Z9 _,by unfold maxLen;omega,rfl,?_⟩⟩,fun p hp=>?_⟩
 . simp [encS]
 . obtain rfl:p=q:=by simpa using hp
   exact ⟨lo,hi,d,by omega,fun _ a=>by simp [Value.ownBlock] at a;omega,e⟩
theorem rh {d:DelegsV} {path:ByteArray} (h:(qH d && q8 path)=false):xt runes d path=[]:=by unfold xt;rw [Z6 (by rw [h];decide)]
theorem sJ {rs:List DelegV} {path:ByteArray} {k:Nat} (a:k<rs.length):kK runes path (rs.drop k)=if isD runes rs[k] path then nl rs[k] :: (if rs[k].term then [] else kK runes path (rs.drop (k+1))) else kK runes path (rs.drop (k+1)):=by rw [K6 a,kK]
theorem sK:(Tryz.prog.info? 53).map (fun i=>(i.zero,i.size,i.bytes))=some (some (.agg #[.string ⟨#[]⟩,.int .i64 0,.slice none 0 0,.bool false]),4,56):=by kernel_rfl
def aC (nm:ByteArray) (thr:Int) (l:List ByteArray) (tm:Bool) (lo:Nat) (w:World) (x:Value):Prop:=∃a c,x=.agg #[.string nm,.int .i64 thr,.slice a l.length c,.bool tm]/\l.length<=c/\xT w lo w.heap.size a l
def MP.stepV (nm:ByteArray) (thr:Int) (l:List ByteArray) (tm:Bool) (lo:Nat):MP:=⟨aC nm thr l tm lo,fun _ _ _ hb ⟨a,c,e,h1,h2⟩=>⟨a,c,e,h1,h2.below hb lz lz hb.size⟩⟩
def dF (nm:ByteArray) (thr:Int) (l:List ByteArray) (tm:Bool) (lo lo2:Nat) (w:World) (x:Value):Prop:=∃g a c,x=.slice (some ⟨g,0,none⟩) 1 1/\lo2<=g/\w.heap[g]?=some (.cells #[.string nm,.int .i64 thr,.slice a l.length c,.bool tm] 53 (0,0))/\l.length<=c/\xT w lo g a l
def MP.stepR (nm:ByteArray) (thr:Int) (l:List ByteArray) (tm:Bool) (lo lo2:Nat):MP:=⟨dF nm thr l tm lo lo2,fun _ _ _ hb ⟨g,a,c,e,h1,h2,h3,h4⟩=>⟨g,a,c,e,h1,by rw [hb.block _ (qz h2)];exact h2,h3,h4.carry lz lz (fun j _ hbg=>hb.block j (za0 hbg (qz h2)))⟩⟩
theorem dq {e:ByteArray} {d:Int} {l:List ByteArray} {f:Bool} {lo b c:Nat} {a:Option Addr} {w:World} (g:b<=w.heap.size) (h:l.length<=c) (i:xT w lo w.heap.size a l):dF e d l f lo b (w.alloc (.cells #[.string e,.int .i64 d,.slice a l.length c,.bool f] 53)) (.slice (some ⟨w.heap.size,0,none⟩) 1 1) :=
 ⟨w.heap.size,a,c,rfl,g,Z4 w _,h,i.carry lz lz (fun _ _ hb=>J8 _ _ _ hb)⟩
theorem ft (l:List Key2) (rs:List DelegV) (t k6:Int) (ids:List ByteArray) (k7 path:ByteArray) (ka ra ba:Option Addr) (kc rc bc:Nat) (w:World) (hI:DelegsIn w 0 w.heap.size ⟨l,rs,⟨k6,k7,⟨t,ids⟩⟩⟩ ka ra ba) (hf:DelegsFits ⟨l,rs,⟨k6,k7,⟨t,ids⟩⟩⟩) (k8:rs.length<=rc) (hp:path.size<=4294967296) (hT:Tabs w) :
 Calls Tryz.prog 20 #[.agg #[.slice ka l.length kc,.slice ra rs.length rc,.int .i64 t,.slice ba ids.length bc,.int .i64 k6,.string k7],.string path] w (lU 53 (xt runes ⟨l,rs,⟨k6,k7,⟨t,ids⟩⟩⟩ path) w):=by
 obtain ⟨W,hW⟩:=O1 (w.alloc (.cells #[.slice ka l.length kc,.slice ra rs.length rc,.int .i64 t,.slice ba ids.length bc,.int .i64 k6,.string k7] 35));have p:=O7 hW
 have hx:=O9 hW
 have HC:=U (show ∀w':World,O5 W w'->w'.cell? ⟨w.heap.size,0,none⟩=some (.slice ka l.length kc)/\w'.cell? ⟨w.heap.size,1,none⟩=some (.slice ra rs.length rc)/\w'.cell? ⟨w.heap.size,2,none⟩=some (.int .i64 t)/\w'.cell? ⟨w.heap.size,3,none⟩=some (.slice ba ids.length bc)/\w'.cell? ⟨w.heap.size,4,none⟩=some (.int .i64 k6)/\w'.cell? ⟨w.heap.size,5,none⟩=some (.string k7) from fun w' h=>by
  have y:=(h.block _ (qz hx)).trans hx;exact ⟨qq y rfl,qq y rfl,qq y rfl,qq y rfl,qq y rfl,qq y rfl⟩)
 have HI:=O0 (∀w':World,O5 W w'->DelegsIn w' 0 w'.heap.size ⟨l,rs,⟨k6,k7,⟨t,ids⟩⟩⟩ ka ra ba/\Tabs w') (fun w' h=>⟨hI.below (p.trans (h.mono p.size)) lz lz (Z5 p.size h.size),hT.below (p.trans (h.mono p.size))⟩);have HF:=U hf;have N:=U p;have f2:rs.length<=70:=hf.many;have f3:k7.size<=300:=hf.pre;have a2:=U (pu l rs t k6 ids k7 ka ra ba kc rc bc W (HI.o W (Z0 _ _)).1 hf k8 (HI.o W (Z0 _ _)).2);have b2:=U (fun w=>yz path w (by omega));have c2:=U (fun w'=>ve t k6 ids k7 ba bc w');have A:=U (@rh ⟨l,rs,⟨k6,k7,⟨t,ids⟩⟩⟩ path);have P:=U ((zI ⟨l,rs,⟨k6,k7,⟨t,ids⟩⟩⟩).trans (jh ⟨l,rs,⟨k6,k7,⟨t,ids⟩⟩⟩));dsimp only at P;have u:=O0 (qH ⟨l,rs,⟨k6,k7,⟨t,ids⟩⟩⟩=true->q8 path=true->xt runes ⟨l,rs,⟨k6,k7,⟨t,ids⟩⟩⟩ path=(if zK ⟨k6,k7,⟨t,ids⟩⟩ then kK runes path rs else [⟨xN k7 k6.toNat (wA path k6.toNat),⟨t,ids⟩,true⟩])) (fun h1 h2=>by unfold xt;rw [h1,h2];rfl);have a4:=U (show ∀w':World,O5 W w'->zT ⟨k6,k7,⟨t,ids⟩⟩=0->Calls Tryz.prog 43 #[.agg #[.int .i64 t,.slice ba ids.length bc,.int .i64 k6,.string k7],.string path] w' (fun e w2=>e=.returned (.tuple #[.string (xN k7 k6.toNat (wA path k6.toNat)),.int .i64 0])/\O5 w' w2) from fun w' h he=>by
  obtain ⟨k,hk,h1,h2⟩:=cN he;subst hk;rw [Int.toNat_natCast];exact ml t k ids k7 path ba bc w' (by omega) hp he h1 h2 (HI.o w' h).2)
 have b8:=O0 (∀w':World,O5 W w'->_) (fun w' h=>wf t ids ba bc W.heap.size w' h.size (HI.o w' h).1.bids hf.au.2.1);have i5:=O0 (∀w':World,O5 W w'->∀x ∈ rs,∀Y pa qa ic pc qc,DelegIn w' 0 w'.heap.size x Y pa qa->_) (fun w' h x hx Y pa qa ic pc qc X=>dG x path Y pa qa ic pc qc w' X (HF.o.roles x hx) hp (HI.o w' h).2);have f4:=U hW;have k2:=U hp;obtain ⟨G,hG⟩:=O1 (xt runes ⟨l,rs,⟨k6,k7,⟨t,ids⟩⟩⟩ path);rw [<- hG] at A u ⊢;obtain ⟨mb,h3⟩:=O1 (qH ⟨l,rs,⟨k6,k7,⟨t,ids⟩⟩⟩);rw [<- h3] at a2 A P u;obtain ⟨pb,h5⟩:=O1 (q8 path);rw [<- h5] at b2 A u;obtain ⟨nb,h4⟩:=O1 (zK ⟨k6,k7,⟨t,ids⟩⟩);rw [<- h4] at c2 P u;clear p hx hW hI hf k8 hp hT hG h3 h5 h4;obtain ⟨q0,q1,q2,q3,q4,q5⟩:=HC.o W (Z0 _ _);go_enter Tryz.func20,Tryz.ntmps20;go_upto_region 1 with fail
 rw [<- f4.o];clear f4;cases mb with
 | false => have b9:=U (A.o (by simp));go_wp2_with (go_at_call 33;refine a2.o.mono ?_;rintro e w1 ⟨rfl,p⟩;have E:=U p;clear p);go_ret;rw [b9.o];exact ⟨none,0,[],rfl,rfl,ItemsOwn.nil _ _ _ _ _ _,N.o.trans (E.o.mono N.o.size)⟩
 | true =>
 cases pb with
 | false => have b9:=U (A.o (by simp));go_wp2_with (first|(go_at_call 33;refine a2.o.mono ?_;rintro e w1 ⟨rfl,p⟩;have E:=U p;clear p)|(go_at_call 34;refine (b2.o _).mono ?_;rintro e w2 ⟨rfl,p⟩;have S:=U (O2 E p);clear p));go_ret;rw [b9.o];exact ⟨none,0,[],rfl,rfl,ItemsOwn.nil _ _ _ _ _ _,N.o.trans (S.o.mono N.o.size)⟩
 | true =>
 replace u:=U (u.o (by first|exact rfl|exact trivial) (by first|exact rfl|exact trivial));go_upto_region 3 with (first|(go_at_call 33;refine a2.o.mono ?_;rintro e w1 ⟨rfl,p⟩;have E:=U p;clear p)|(go_at_call 34;refine (b2.o _).mono ?_;rintro e w2 ⟨rfl,p⟩;have S:=U (O2 E p);obtain ⟨z0,z1,z2,z3,z4,z5⟩:=HC.o _ S.o;clear p))
 go_wp2_with fail
 refine (c2.o _).mono ?_;clear c2 a2 b2 q0 q1 q2 q3 q4 q5 z0 z1 z2 z3 z4 z5;rintro e w3 ⟨rfl,f7⟩;have a0:=U (O2 S f7);obtain ⟨q0,q1,q2,q3,q4,q5⟩:=HC.o w3 a0.o;clear f7 E S A;cases nb with
 | false =>
  rw [Z6 (by decide)] at u;have HE:=U (show zT ⟨k6,k7,⟨t,ids⟩⟩=0 from by
   have h:=P.o;rw [Z6 (by decide)] at h;have h2:=h.symm;simp only [Q0] at h2;exact (j5 h2.2.2).1)
  obtain ⟨R,hR⟩:=O1 (xN k7 k6.toNat (wA path k6.toNat));rw [<- hR] at a4 u;clear hR;go_wp2_with fail;refine (a4.o w3 a0.o HE.o).mono ?_;clear a4 q0 q1 q2 q3 q4 q5;rintro e w4 ⟨rfl,M⟩;have m:=U (O2 a0 M);obtain ⟨q0,q1,q2,q3,q4,q5⟩:=HC.o w4 m.o;clear M;go_wp2_with fail;refine (b8.o w4 m.o).mono ?_;clear b8 q0 q1 q2 q3 q4 q5;rintro e w5 ⟨y,rfl,⟨a5,c5,rfl,B,C⟩,g0⟩;have c6:=U C;have b7:=U B;have d4:=U (O2 m g0);clear g0 C B;go_wp2;go_ret;rw [u.o];have hx:=Z4 w5 (.cells #[.string R,.int .i64 t,.slice a5 ids.length c5,.bool true] 53);have j0:O5 w5 (w5.alloc (.cells #[.string R,.int .i64 t,.slice a5 ids.length c5,.bool true] 53)):=O4;have hz:=Z5 N.o.size d4.o.size;exact ⟨_,1,[(⟨R,⟨t,ids⟩,true⟩,a5,c5)],rfl,rfl,xc.one (⟨R,⟨t,ids⟩,true⟩,a5,c5) W.heap.size w5.heap.size hz N.o.size lz ⟨b7.o,c6.o.below j0 lz lz lz⟩ hx,(N.o.trans (d4.o.mono N.o.size)).alloc hz _⟩
 | true =>
  rw [Q1 rfl] at u;obtain ⟨Z,d1⟩:=O1 rs.length;have d7:=U d1;rw [<- d1] at HC q1 f2 ⊢;clear d1 b8 a4;go_wp2_with fail;go_loopw [7,9,41] (fun s7 _ i wr=>∃(k:Nat) (a:Option Addr) (c:Nat) (qs:List vl),k<=Z/\qs.length<=k/\i=.int .i64 k/\s7=.slice a qs.length c/\G=qs.map (·.1) ++ kK runes path (rs.drop k)/\xc 53 W.heap.size wr s7 qs/\O5 W wr) (fun _ _ i _=>Z - (intOf i).toNat)
  case atStart=>exact ⟨0,none,0,[],by omega,Z9 _,rfl,rfl,by rw [u.o];rfl,ItemsOwn.nil _ _ _ _ _ _,a0.o⟩
  case round =>
   obtain ⟨k,a7,c7,r,hk,k4,rfl,rfl,g4,b6,g3⟩:=hrel;have b0:=U g4;have HO:=U b6;have a6:=U g3;clear g4 b6 g3 q0 q1 q2 q3 q4 q5;by_cases hlt:k<Z
   . have d0:k<rs.length:=by rw [<- d7.o];exact hlt
     obtain ⟨b,o,ha,-,k3,Y,ic,pa,pc,qa,qc,e0,e1,e2,e3,e4,e5,-,-,-,X⟩:=(HI.o wr a6.o).1.roles.at k d0;subst ha;have m1:(0:Int)<=(k:Int):=by omega
     have m2:(k:Int)<(Z:Int):=by omega
     have m3:decide ((k:Int)<(Z:Int))=true:=by simpa using hlt
     have z:=U (sJ (rs:=rs) (path:=path) d0);have Q:=J1 d0;obtain ⟨x,hx⟩:=O1 (rs[k]);rw [<- hx] at e0 e1 e2 e3 e4 e5 X z Q;clear hx;obtain ⟨L,⟨f,j⟩,D,ps,qs⟩:=x;dsimp only at e0 e1 e2 e3 e4 e5;obtain ⟨s,b3⟩:=O1 (wr.alloc (.cells #[.string L,.int .i64 f,.slice Y j.length ic,.bool D,.slice pa ps.length pc,.slice qa qs.length qc] 41));have I:=O7 b3
     have b4:=O9 b3
     have a8:=U (O2 a6 I);have T:=U (show ∀w':World,O5 s w'->w'.cell? ⟨wr.heap.size,0,none⟩=some (.string L)/\w'.cell? ⟨wr.heap.size,1,none⟩=some (.int .i64 f)/\w'.cell? ⟨wr.heap.size,2,none⟩=some (.slice Y j.length ic)/\w'.cell? ⟨wr.heap.size,3,none⟩=some (.bool D)/\w'.cell? ⟨wr.heap.size,4,none⟩=some (.slice pa ps.length pc)/\w'.cell? ⟨wr.heap.size,5,none⟩=some (.slice qa qs.length qc) from fun w' h=>by
      have y:=(h.block _ (qz b4)).trans b4;exact ⟨qq y rfl,qq y rfl,qq y rfl,qq y rfl,qq y rfl,qq y rfl⟩)
     have b1:=U (i5.o s a8.o _ Q Y pa qa ic pc qc (X.below I lz lz I.size));have i3:=O0 (∀w':World,O5 s w'->_) (fun w' h=>wf f j Y ic s.heap.size w' h.size (X.ids.below (I.trans (h.mono I.size)) lz lz (Z5 I.size h.size)) (HF.o.roles _ Q).au.2.1);have f0:=U (ItemsOwn.below kw HO.o I);have i7:=U (qz b4);have f5:=U b3;obtain ⟨bi,g1⟩:=O1 (isD runes ⟨L,⟨f,j⟩,D,ps,qs⟩ path);rw [<- g1] at b1 z;dsimp only at b1 z;clear I b4 b3 X Q g1;obtain ⟨z0,z1,z2,z3,z4,z5⟩:=T.o s (Z0 _ _);go_upto_region 12 with fail
     rw [<- f5.o];clear e0 e1 e2 e3 e4 e5 f5;go_wp2_with fail;refine b1.o.mono ?_;clear b1 z0 z1 z2 z3 z4 z5;rintro e w4 ⟨rfl,M⟩;have m:=U M;have e6:=U (ItemsOwn.below kw f0.o M);have a1:=U (O2 a8 M);clear M f0;cases bi with
     | false =>
      rw [Z6 (by decide)] at z;go_wp2;go_roundw
      case rel=>exact ⟨k+1,a7,c7,r,by omega,by omega,by go_num,rfl,by rw [b0.o,z.o],e6.o,a1.o⟩
      case measure=>simp [intOf];omega
     | true =>
      rw [Q1 rfl] at z;go_upto_region 13 with fail
      obtain ⟨V,hV⟩:∃V:List MP,V=[.con (.slice a7 r.length c7),.con (.pointer (some ⟨wr.heap.size,0,none⟩)),.con (.string L),.con (.pointer (some ⟨wr.heap.size,1,none⟩)),.con (.agg #[.int .i64 f,.slice Y j.length ic]),.authW f j s.heap.size,.con (.pointer (some ⟨wr.heap.size,3,none⟩)),.con (.bool D),.stepV L f j D s.heap.size,.stepR L f j D s.heap.size w4.heap.size]:=⟨_,rfl⟩;have v:=U hV;clear hV;refine qM 10 (fun d a' w'=>∃x49 x50 x51 x52 x53 x54 x55 x56 x57 x58,a'=⟨#[Value.agg #[Value.slice ka l.length kc,Value.slice (some { block:=b,off:=o }) Z rc,Value.int IntKind.i64 t,Value.slice ba ids.length bc,Value.int IntKind.i64 k6,Value.string k7],Value.string path,Value.pointer (some { block:=w.heap.size,off:=0 }),undef,Value.slice none 0 0,undef,undef,Value.slice a7 r.length c7,undef,Value.pointer (some { block:=wr.heap.size,off:=0 }),Value.agg #[Value.slice ka l.length kc,Value.slice (some { block:=b,off:=o }) Z rc,Value.int IntKind.i64 t,Value.slice ba ids.length bc,Value.int IntKind.i64 k6,Value.string k7],Value.bool true,Value.bool false,Value.bool false,Value.string path,Value.bool true,Value.bool false,Value.bool false,Value.pointer (some { block:=w.heap.size,off:=2 }),Value.agg #[Value.int IntKind.i64 t,Value.slice ba ids.length bc,Value.int IntKind.i64 k6,Value.string k7],Value.bool true,Value.bool false,undef,undef,undef,undef,undef,undef,undef,undef,undef,undef,undef,undef,undef,undef,undef,undef,Value.pointer (some { block:=w.heap.size,off:=1 }),Value.slice (some { block:=b,off:=o }) Z rc,Value.int IntKind.i64 (Z:Int),Value.int IntKind.i64 (k:Int),Value.bool true,Value.pointer (some { block:=b,off:=o+k * 6 }),Value.agg #[Value.string L,Value.int IntKind.i64 f,Value.slice Y j.length ic,Value.bool D,Value.slice pa ps.length pc,Value.slice qa qs.length qc],Value.agg #[Value.string L,Value.int IntKind.i64 f,Value.slice Y j.length ic,Value.bool D,Value.slice pa ps.length pc,Value.slice qa qs.length qc],Value.string path,Value.bool true,Value.bool false,x49,x50,x51,x52,x53,x54,x55,x56,x57,x58,u59,u60,u61,u62,undef],[]⟩/\za w4 V d w' [x49,x50,x51,x52,x53,x54,x55,x56,x57,x58]) (by kernel_rfl) (by kernel_rfl) ?first ?step ?last
      case first=>exact ⟨_,_,_,_,_,_,_,_,_,_,rfl,za.first _ _ _ (by rw [v.o];rfl)⟩
      case step =>
       rintro d a' w' ⟨x49,x50,x51,x52,x53,x54,x55,x56,x57,x58,rfl,h⟩ q hq hn hw;rcases q with _|_|_|_|_|_|_|_|_|_|q
       . refine Z3 rfl fun K hK=>?_;go_simp;exact hK _ _ ⟨_,_,_,_,_,_,_,_,_,_,rfl,h.sameC 0 _ v rfl⟩
       . refine Z3 rfl fun K hK=>?_;go_simp;exact hK _ _ ⟨_,_,_,_,_,_,_,_,_,_,rfl,h.sameC 1 _ v rfl⟩
       . obtain rfl:=h.cn hw v 1 .data;obtain ⟨q0,q1,q2,q3,q4,q5⟩:=T.o w' (m.o.trans (h.1.mono m.o.size));refine Z3 rfl fun K hK=>?_;go_simp;exact hK _ _ ⟨_,_,_,_,_,_,_,_,_,_,rfl,h.sameC 2 _ v rfl⟩
       . refine Z3 rfl fun K hK=>?_;go_simp;exact hK _ _ ⟨_,_,_,_,_,_,_,_,_,_,rfl,h.sameC 3 _ v rfl⟩
       . obtain rfl:=h.cn hw v 3 .data;obtain ⟨q0,q1,q2,q3,q4,q5⟩:=T.o w' (m.o.trans (h.1.mono m.o.size));refine Z3 rfl fun K hK=>?_;go_simp;exact hK _ _ ⟨_,_,_,_,_,_,_,_,_,_,rfl,h.sameC 4 _ v rfl⟩
       . obtain rfl:=h.cn hw v 4 .data;obtain ⟨q0,q1,q2,q3,q4,q5⟩:=T.o w' (m.o.trans (h.1.mono m.o.size));refine Z3 rfl fun K hK=>?_;go_simp;refine (i3.o w' (m.o.trans (h.1.mono m.o.size))).mono ?_;rintro e w2 ⟨y,rfl,hy,i9⟩;exact hK _ _ ⟨_,_,_,_,_,_,_,_,_,_,rfl,h.did i9 5 _ (.authW f j s.heap.size) (by rw [v.o];rfl) hy⟩
       . refine Z3 rfl fun K hK=>?_;go_simp;exact hK _ _ ⟨_,_,_,_,_,_,_,_,_,_,rfl,h.sameC 6 _ v rfl⟩
       . obtain rfl:=h.cn hw v 6 .data;obtain ⟨q0,q1,q2,q3,q4,q5⟩:=T.o w' (m.o.trans (h.1.mono m.o.size));refine Z3 rfl fun K hK=>?_;go_simp;exact hK _ _ ⟨_,_,_,_,_,_,_,_,_,_,rfl,h.sameC 7 _ v rfl⟩
       . obtain rfl:=h.cn hw v 2 .data;have h6:=h.get 5 (O3 hw 5 .data) (.authW f j s.heap.size) (by rw [v.o];rfl) _ rfl;obtain ⟨a5,c5,rfl,B,C⟩:=h6;obtain rfl:=h.cn hw v 7 .data;refine Z3 rfl fun K hK=>?_;go_simp;exact hK _ _ ⟨_,_,_,_,_,_,_,_,_,_,rfl,h.same 8 _ (.stepV L f j D s.heap.size) (by rw [v.o];rfl) ⟨a5,c5,rfl,B,C⟩⟩
       . have h7:=h.get 8 (O3 hw 8 .data) (.stepV L f j D s.heap.size) (by rw [v.o];rfl) _ rfl;obtain ⟨a5,c5,rfl,B,C⟩:=h7;refine Z3 rfl fun K hK=>?_;go_simp;exact hK _ _ ⟨_,_,_,_,_,_,_,_,_,_,rfl,h.new _ 9 _ (.stepR L f j D s.heap.size w4.heap.size) (by rw [v.o];rfl) (dq h.1.size B C)⟩
       . omega
      case last =>
       rintro d a' w' a3 ⟨x49,x50,x51,x52,x53,x54,x55,x56,x57,x58,rfl,h⟩;have h0:=h.1;obtain rfl:=h.con 0 (a3 _ (by omega)) v rfl rfl;have i0:=h.get 9 (a3 _ (by omega)) (.stepR L f j D s.heap.size w4.heap.size) (by rw [v.o];rfl) _ rfl;have i6:=U h0;clear h a3 h0 v;have H:=i6.o;obtain ⟨g,a5,c5,rfl,g5,i2,B,C⟩:=i0;have c3:=U (ItemsOwn.below kw e6.o H);have c4:=O0 (w'.ownsRow W.heap.size 53 4 (.slice a7 r.length c7) r.length (r.flatMap encS)) c3.o.own;have b5:=U (O2 a1 H);have c9:=U i2;have c6:=U C;have b7:=U B;have c0:=O0 (w4.heap.size<=g/\s.heap.size<=w4.heap.size/\W.heap.size<=s.heap.size/\wr.heap.size<s.heap.size/\w4.heap.size<=w'.heap.size) (⟨g5,m.o.size,a8.o.size,i7.o,H.size⟩);have f6:=U (T.o w' (O2 m H));have e8:=O0 (∀b,(Value.slice a7 r.length c7).ownBlock=some b->b<wr.heap.size) (fun b p=>(HO.o.own.lt b p).2);have j2:W.heap.size<=w'.heap.size:=b5.o.size;have k5:r.length<=70:=by omega
       obtain ⟨i1,j1,j3,k0,k1⟩:=V2 sK;simp only [List.drop_succ_cons,List.drop_zero];obtain ⟨qn,d2⟩:∃qn:vl,qn=(⟨L,⟨f,j⟩,D⟩,a5,c5):=⟨_,rfl⟩;have f1:=U d2;have i4:=O0 (encS qn=[.string L,.int .i64 f,.slice a5 j.length c5,.bool D]) (by rw [d2];rfl);clear H i2 C B g5 d2;go_upto_region 14 with (at_builtin;(refine X9 _ rfl (.tmp 49) (.tmp 58) 48 rfl W.heap.size 53 i1 _ 4 56 Tryz.underlying48 j1 j3 k0 k1 rfl (by omega) (.slice a7 r.length c7) r.length (r.flatMap encS) rfl c4.o ⟨g,0,none⟩ 1 1 (encS qn) rfl rfl (by rw [i4.o];exact J5 (cs:=#[.string L,.int .i64 f,.slice a5 j.length c5,.bool D]) (t:=53) (fr:=(0,0)) c9.o) (nD _) (by omega) (by unfold maxLen;omega) (by omega) (by have:=qz c9.o;omega) w'.heap.size (by omega) ?_);intro g2 cap2 w6 hown6 hgrow6 hat6 hlt6;have e7:=U hown6;have a9:=U hgrow6;have d3:=U hat6;clear hown6 hgrow6 hat6)
       have e9:=U (show xc 53 W.heap.size w6 (.slice (some ⟨g2,0,none⟩) (r.length+1) cap2) (r ++ [qn]) from ItemsOwn.snoc kw (v':=.slice (some ⟨g2,0,none⟩) (r.length+1) cap2) c3.o qn s.heap.size g (by have:=c0.o;omega) (Nat.le_of_lt (qz c9.o)) (fun b p hbg=>by
        have h1:=e8.o b p;have:=c0.o;omega) (by rw [f1.o];exact ⟨b7.o,c6.o⟩) a9.o e7.o (by
        rcases d3.o with h|h
        . exact .inl h.symm
        . exact .inr ⟨g2,rfl,by omega⟩))
       have d5:=U (below_grown b5.o j2 a9.o (fun b p=>(c4.o.lt b p).1));have c1:=O0 ((r ++ [qn]).length=r.length+1) (by rw [V6];rfl);have d6:=O0 ((r ++ [qn]).map (·.1)=r.map (·.1) ++ [⟨L,⟨f,j⟩,D⟩]) (by rw [N0,f1.o];rfl);have z3:=(J9 (w:=w') (w':=w6) (a:=⟨wr.heap.size,3,none⟩) (a9.o.block wr.heap.size (by have:=c0.o;omega) (fun e=>by have:=e8.o _ e.symm;omega))).trans f6.o.2.2.2.1;clear e7 a9 d3 c4 c3 f6;cases D with
       | true =>
        rw [Q1 rfl] at z;have F:=O0 (G=(r ++ [qn]).map (·.1)) (by rw [b0.o,z.o,d6.o];rfl);go_wp2;go_ret;have J:G.length=r.length+1:=by rw [F.o,J6,c1.o]
        exact ⟨some ⟨g2,0,none⟩,cap2,r ++ [qn],by rw [J];rfl,F.o.symm,ItemsOwn.mono (by rw [J];exact e9.o) N.o.size,N.o.trans (d5.o.mono N.o.size)⟩
       | false =>
        rw [Z6 (by decide)] at z;go_wp2;go_roundw
        case rel=>exact ⟨k+1,some ⟨g2,0,none⟩,cap2,r ++ [qn],by omega,by rw [c1.o];omega,by go_num,by rw [c1.o],by rw [b0.o,z.o,d6.o,List.append_assoc];rfl,e9.o,d5.o⟩
        case measure=>simp [intOf];omega
   . have m3:decide ((k:Int)<(Z:Int))=false:=by simpa using hlt
     have F:=U (show G=r.map (·.1) from by
      rw [b0.o,List.drop_eq_nil_of_le (by rw [<- d7.o];omega)];simp [kK])
     go_wp2;go_ret;have J:G.length=r.length:=by rw [F.o,J6]
     exact ⟨a7,c7,r,by rw [J];rfl,F.o.symm,ItemsOwn.mono (by rw [J];exact HO.o) N.o.size,N.o.trans (a6.o.mono N.o.size)⟩
theorem wG (l:List Key2) (rs:List DelegV) (t a2:Int) (ids:List ByteArray) (a3 path:ByteArray) (ka ra ba:Option Addr) (kc rc bc:Nat) (L:List ByteArray) (la:Option Addr) (lc:Nat) (w:World) (hI:DelegsIn w 0 w.heap.size ⟨l,rs,⟨a2,a3,⟨t,ids⟩⟩⟩ ka ra ba) (hf:DelegsFits ⟨l,rs,⟨a2,a3,⟨t,ids⟩⟩⟩) (a4:rs.length<=rc) (hp:path.size<=4294967296) (hT:Tabs w)
 (hL:qy w 0 w.heap.size la L) (hl:L.length<=1000) :
 Calls Tryz.prog 49 #[.agg #[.slice ka l.length kc,.slice ra rs.length rc,.int .i64 t,.slice ba ids.length bc,.int .i64 a2,.string a3],.string path,.slice la L.length lc] w fun e w'=>e=.returned (.bool (decide ((xt runes ⟨l,rs,⟨a2,a3,⟨t,ids⟩⟩⟩ path).map (·.name)=L)))/\O5 w w':=by
 obtain ⟨W,I⟩:=O1 (w.alloc (.cells #[.slice ka l.length kc,.slice ra rs.length rc,.int .i64 t,.slice ba ids.length bc,.int .i64 a2,.string a3] 35));have r:=O7 I
 have h:=O9 I
 have M:=U (ft l rs t a2 ids a3 path ka ra ba kc rc bc W (hI.below r lz lz r.size) hf a4 hp (hT.below r));have N:=U (hL.below r lz lz r.size);obtain ⟨S,hS⟩:=O1 (xt runes ⟨l,rs,⟨a2,a3,⟨t,ids⟩⟩⟩ path);rw [<- hS] at M ⊢;obtain ⟨q,X⟩:=O1 (decide (S.map (·.name)=L));have P:=U X;rw [<- X];have Z:=U r;have HW:=U I;have q0:=qq h (j:=0) rfl;have q1:=qq h (j:=1) rfl;have q2:=qq h (j:=2) rfl;have q3:=qq h (j:=3) rfl;have q4:=qq h (j:=4) rfl;have q5:=qq h (j:=5) rfl;clear r I h hI hf a4 hp hT hL hS X;go_enter Tryz.func49,Tryz.ntmps49;go_upto_region 1 with fail
 rw [<- HW.o];clear HW;go_wp2_with fail;refine M.o.mono ?_;clear M q0 q1 q2 q3 q4 q5;rintro e w1 ⟨a,c,qs,rfl,G,o,m⟩;have R:=U (xc.steps o G);have d:=U (O2 Z m);replace N:=U (N.o.below m lz lz m.size);clear o G m;by_cases hlm:S.length=L.length
 case neg =>
  have n2:((S.length:Int) != (L.length:Int))=true:=by simp;omega
  have HD:=O0 (q=false) (by rw [P.o];exact Q8 fun e=>hlm (by rw [<- e,J6]));clear hlm;go_wp2;go_ret;exact ⟨qx HD.o.symm,d.o⟩
 obtain ⟨n,J⟩:=O1 S.length;have A:=U J;have B:=U (show n=L.length by rw [J,hlm]);rw [<- hlm,<- J];have a0:n<=1000:=by omega
 have n2:((n:Int) != (n:Int))=false:=by simp
 clear hlm J hl;go_wp2_with fail;go_loopw [8] (fun i wr=>∃k:Nat,k<=n/\i=.int .i64 k/\(S.map (·.name)).take k=L.take k/\O5 w1 wr) (fun i _=>n - (intOf i).toNat)
 case atStart=>exact ⟨0,by omega,rfl,rfl,Z0 _ _⟩
 case round =>
  obtain ⟨k,hk,rfl,H,E⟩:=hrel;have C:=U H;have b:=U E;clear H E;by_cases hlt:k<n
  . have s:k<S.length:=by rw [<- A.o];exact hlt
    have F:k<L.length:=by rw [<- B.o];exact hlt
    obtain ⟨p,f,V,_,hp,ia,ic,e0,e1,T,e3,-,-⟩:=(R.o.below b.o lz lz b.o.size).at k s;subst V;obtain ⟨p2,g,V,_,a1,f0⟩:=(N.o.below b.o lz lz b.o.size).at k F;subst V;have u:(S.map (·.name))[k]'(by rw [J6];exact s)=S[k].name:=N4 ..;have D:=O0 (S[k].name=L[k]->(S.map (·.name)).take (k+1)=L.take (k+1)) (fun e=>by rw [Z8 (by rw [J6];exact s),Z8 F,C.o,u,e]);have v:=U (show S[k].name≠L[k]->q=false from fun e=>by
     rw [P.o];refine Q8 fun T=>e ?_;rw [<- u];subst T;rfl)
    obtain ⟨x,h⟩:∃x:ByteArray,x=S[k].name:=⟨_,rfl⟩;obtain ⟨y,Y⟩:∃y:ByteArray,y=L[k]:=⟨_,rfl⟩;replace e0:=e0.trans (Q7 (fun z:ByteArray=>some (Value.string z)) h.symm);replace f0:=f0.trans (Q7 (fun z:ByteArray=>some (Value.string z)) Y.symm);rw [<- h,<- Y] at D v;clear h Y u e1 T e3;have m1:(0:Int)<=(k:Int):=by omega
    have m2:(k:Int)<(n:Int):=by omega
    have m3:decide ((k:Int)<(n:Int))=true:=by simpa using hlt
    cases h1:(x.toList == y.toList)
    . have Q:=U (v.o fun e=>by rw [e] at h1;simp at h1);go_wp2_with fail;go_quiet (fail);go_wp2;go_ret;exact ⟨qx Q.o.symm,Below.drewN (d.o.trans (b.o.mono d.o.size)) _⟩
    . have K:=U (D.o (by rw [ba_eq,Z7] at h1;exact h1));go_wp2_with fail;go_quiet (fail);go_wp2;go_roundw
      case rel=>exact ⟨k+1,by omega,by go_num,K.o,Below.drewN b.o _⟩
      case measure=>simp [intOf];omega
  . obtain rfl:k=n:=by omega
    have m3:decide ((k:Int)<(k:Int))=false:=by simp
    have Q:=U (show q=true by
     rw [P.o];have:=C.o;rw [Q4 (by rw [J6,<- A.o];exact Z9 _),Q4 (by rw [<- B.o];exact Z9 _)] at this;exact Q9 this)
    go_wp2;go_ret;exact ⟨qx Q.o.symm,d.o.trans (b.o.mono d.o.size)⟩
theorem jK {n p:ByteArray} {b:Bool} (a:n.size<=100) (c:p.size<=100):DelegFits (xS n p b) :=
 ⟨by show n.size<=_;omega,⟨⟨by show -9223372036854775808<=(1:Int);decide,by show (1:Int)<=9223372036854775807;decide⟩,by show 1<=4294967296;decide,fun s hs=>by
  obtain rfl:s=zA 97:=by simpa [xS,vv] using hs
  decide⟩,⟨by show 1<=4294967296;decide,fun s hs=>by
  obtain rfl:s=p:=by simpa [xS] using hs
  omega⟩,⟨Q2 _,fun s hs=>(by cases hs)⟩⟩
theorem kG:DelegsFits exD/\DelegsFits exE/\DelegsFits exBin:=by
 have a:xq authZ:=⟨⟨by decide,by decide⟩,by decide,fun s hs=>(by cases hs)⟩;refine ⟨⟨by decide,fun k hk=>(by cases hk),by decide,fun x hx=>?_,⟨by decide,by decide⟩,by decide,a⟩,⟨by decide,fun k hk=>(by cases hk),by decide,fun x hx=>?_,⟨by decide,by decide⟩,by decide,a⟩,⟨by decide,fun k hk=>(by cases hk),by decide,fun x hx=>(by cases hx),⟨by decide,by decide⟩,by decide,(jK (n:=raN) (p:=raN) (b:=false) (by decide) (by decide)).au⟩⟩
 . simp only [exD,Y5,Y7,M3] at hx;rcases hx with rfl|rfl|rfl <;> exact jK (by decide) (by decide)
 . simp only [exE,Y5,Y7,M3] at hx;rcases hx with rfl|rfl <;> exact jK (by decide) (by decide)
structure RoleIn (w:World) (ga gp:Nat) (p:ByteArray):Prop where
 ids:qy w 0 w.heap.size (some ⟨ga,0,none⟩) [zA 97]
 paths:qy w 0 w.heap.size (some ⟨gp,0,none⟩) [p]
theorem RoleIn.below {w w':World} {b c:Nat} {p:ByteArray} (h:RoleIn w b c p) (a:O5 w w'):RoleIn w' b c p :=
 ⟨h.ids.below a lz lz a.size,h.paths.below a lz lz a.size⟩
theorem fi {w:World} {q T a l b m:Nat} {g k x1 x2:ByteArray} {c d:Bool} (h:w.heap[q]?=some (.cells #[.string g,.int .i64 1,.slice (some ⟨a,0,none⟩) 1 1,.bool c,.slice (some ⟨l,0,none⟩) 1 1,.slice none 0 0,.string k,.int .i64 1,.slice (some ⟨b,0,none⟩) 1 1,.bool d,.slice (some ⟨m,0,none⟩) 1 1,.slice none 0 0] T (0,0))) (e:RoleIn w a l x1) (f:RoleIn w b m x2):q9 w 0 w.heap.size (some ⟨q,0,none⟩) [xS g x1 c,xS k x2 d]:=by
 refine .inr ⟨q,0,rfl,Q2 _,qz h,fun i hi=>?_⟩
 match i,hi with
 | 0,_=>exact ⟨_,1,_,1,none,0,qq h (j:=0) rfl,qq h (j:=1) rfl,qq h (j:=2) rfl,qq h (j:=3) rfl,qq h (j:=4) rfl,qq h (j:=5) rfl,Z9 _,Z9 _,Z9 _,⟨e.ids,e.paths,.inl rfl⟩⟩
 | 1,_=>exact ⟨_,1,_,1,none,0,qq h (j:=6) rfl,qq h (j:=7) rfl,qq h (j:=8) rfl,qq h (j:=9) rfl,qq h (j:=10) rfl,qq h (j:=11) rfl,Z9 _,Z9 _,Z9 _,⟨f.ids,f.paths,.inl rfl⟩⟩
theorem ru {w:World} {q T a r b s c u:Nat} {m o p x1 x2 x3:ByteArray} {d e f:Bool} (h:w.heap[q]?=some (.cells #[.string m,.int .i64 1,.slice (some ⟨a,0,none⟩) 1 1,.bool d,.slice (some ⟨r,0,none⟩) 1 1,.slice none 0 0,.string o,.int .i64 1,.slice (some ⟨b,0,none⟩) 1 1,.bool e,.slice (some ⟨s,0,none⟩) 1 1,.slice none 0 0,.string p,.int .i64 1,.slice (some ⟨c,0,none⟩) 1 1,.bool f,.slice (some ⟨u,0,none⟩) 1 1,.slice none 0 0] T (0,0))) (g:RoleIn w a r x1) (k:RoleIn w b s x2) (l:RoleIn w c u x3):q9 w 0 w.heap.size (some ⟨q,0,none⟩) [xS m x1 d,xS o x2 e,xS p x3 f]:=by
 refine .inr ⟨q,0,rfl,Q2 _,qz h,fun i hi=>?_⟩
 match i,hi with
 | 0,_=>exact ⟨_,1,_,1,none,0,qq h (j:=0) rfl,qq h (j:=1) rfl,qq h (j:=2) rfl,qq h (j:=3) rfl,qq h (j:=4) rfl,qq h (j:=5) rfl,Z9 _,Z9 _,Z9 _,⟨g.ids,g.paths,.inl rfl⟩⟩
 | 1,_=>exact ⟨_,1,_,1,none,0,qq h (j:=6) rfl,qq h (j:=7) rfl,qq h (j:=8) rfl,qq h (j:=9) rfl,qq h (j:=10) rfl,qq h (j:=11) rfl,Z9 _,Z9 _,Z9 _,⟨k.ids,k.paths,.inl rfl⟩⟩
 | 2,_=>exact ⟨_,1,_,1,none,0,qq h (j:=12) rfl,qq h (j:=13) rfl,qq h (j:=14) rfl,qq h (j:=15) rfl,qq h (j:=16) rfl,qq h (j:=17) rfl,Z9 _,Z9 _,Z9 _,⟨l.ids,l.paths,.inl rfl⟩⟩
def aD (w:World) (ka ra ba:Option Addr):Prop:=DelegsIn w 0 w.heap.size exD ka ra ba
theorem aL (q:Nat) (w:World) (d:DelegsIn w 0 w.heap.size exD none (some ⟨q,0,none⟩) none) (f:Tabs w) :
 Calls Tryz.prog 36 #[.agg #[.slice none 0 0,.slice (some ⟨q,0,none⟩) 3 3,.int .i64 0,.slice none 0 0,.int .i64 0,.string ⟨#[]⟩]] w fun e w'=>∃an cn ai ci,e=.returned (.tuple #[.agg #[.int .u8 5,.int .i64 0,.string ⟨#[]⟩,.slice an 2 cn,.slice ai 2 ci],.int .i64 0])/\Rep w' w.heap.size w'.heap.size (qo exD) (.agg #[.int .u8 5,.int .i64 0,.string ⟨#[]⟩,.slice an 2 cn,.slice ai 2 ci])/\O5 w w':=by
 refine (cE [] exD.roles 0 0 [] ⟨#[]⟩ none (some ⟨q,0,none⟩) none 0 3 0 w d kG.1 lz f).mono ?_;have e:vz ⟨[],exD.roles,⟨0,⟨#[]⟩,⟨0,[]⟩⟩⟩=(qo exD,0):=(by unfold vz;rw [Q1 (show qH ⟨[],exD.roles,⟨0,⟨#[]⟩,⟨0,[]⟩⟩⟩=true from go.1)];rfl);rw [e];rintro r w' ⟨an,cn,ai,ci,a,b,c⟩;exact ⟨an,cn,ai,ci,a,b,c⟩
theorem ot (x:Value) (w:World) (lo:Nat) (f:0<lo) (g:Rep w lo w.heap.size (qo exD) x) (h:Tabs w) :
 Calls Tryz.prog 16 #[x] w fun e w'=>∃ka kc ra rc ba bc,e=.returned (.tuple #[.agg #[.slice ka 0 kc,.slice ra 3 rc,.int .i64 0,.slice ba 0 bc,.int .i64 0,.string ⟨#[]⟩],.int .i64 0])/\aD w' ka ra ba/\O5 w w':=by
 refine (vV (qo exD) x w lo f (ph (by rw [<- zI];exact go.1)) g h).mono ?_;rw [uB go.1];rintro r w' ⟨ka,kc,ra,rc,ba,bc,a,d,b,c⟩;exact ⟨ka,kc,ra,rc,ba,bc,a,b.carry (Q2 _) lz (fun _ _ _=>rfl),c⟩
theorem ib (d f c:Option Addr) (h i g q:Nat) (w:World) (j:aD w d f c) (k:DelegsIn w 0 w.heap.size exD none (some ⟨q,0,none⟩) none) :
 Calls Tryz.prog 17 #[.agg #[.slice d 0 h,.slice f 3 i,.int .i64 0,.slice c 0 g,.int .i64 0,.string ⟨#[]⟩],.agg #[.slice none 0 0,.slice (some ⟨q,0,none⟩) 3 3,.int .i64 0,.slice none 0 0,.int .i64 0,.string ⟨#[]⟩]] w fun e w'=>e=.returned (.bool true)/\O5 w w':=by
 refine (fh [] exD.roles 0 0 [] ⟨#[]⟩ d f c h i g [] exD.roles 0 0 [] ⟨#[]⟩ none (some ⟨q,0,none⟩) none 0 3 0 w j k kG.1 kG.1).mono ?_;rintro r w' ⟨a,b⟩;rw [Q9 (by rfl)] at a;exact ⟨a,b⟩
def binS:ByteArray:=xN ppN 2 (wA kN 2)
theorem ip (g:Nat) (w:World) (a:Tabs w):Calls Tryz.prog 43 #[.agg #[.int .i64 1,.slice (some ⟨g,0,none⟩) 1 1,.int .i64 2,.string ppN],.string kN] w fun e w'=>e=.returned (.tuple #[.string binS,.int .i64 0])/\O5 w w' :=
 ml 1 2 [zA 97] ppN kN (some ⟨g,0,none⟩) 1 w (by decide) (by decide) (by decide +kernel) (by decide) (by decide) a
theorem mV (q g:Nat) (p:ByteArray) (L:List ByteArray) (w:World) (c:DelegsIn w 0 w.heap.size exD none (some ⟨q,0,none⟩) none) (d:qy w 0 w.heap.size (some ⟨g,0,none⟩) L) (j:p.size<=100) (i:L.length<=100) (h:(xt runes exD p).map (·.name)=L) (f:Tabs w) :
 Calls Tryz.prog 49 #[.agg #[.slice none 0 0,.slice (some ⟨q,0,none⟩) 3 3,.int .i64 0,.slice none 0 0,.int .i64 0,.string ⟨#[]⟩],.string p,.slice (some ⟨g,0,none⟩) L.length L.length] w fun e w'=>e=.returned (.bool true)/\O5 w w':=by
 refine (wG [] exD.roles 0 0 [] ⟨#[]⟩ p none (some ⟨q,0,none⟩) none 0 3 0 L (some ⟨g,0,none⟩) L.length w c kG.1 lz (by omega) f d (by omega)).mono ?_;rintro r w' ⟨a,b⟩;rw [Q9 (show (xt runes ⟨[],exD.roles,⟨0,⟨#[]⟩,⟨0,[]⟩⟩⟩ p).map (·.name)=L from h)] at a;exact ⟨a,b⟩
theorem sV (q g:Nat) (p:ByteArray) (L:List ByteArray) (w:World) (c:DelegsIn w 0 w.heap.size exE none (some ⟨q,0,none⟩) none) (d:qy w 0 w.heap.size (some ⟨g,0,none⟩) L) (j:p.size<=100) (i:L.length<=100) (h:(xt runes exE p).map (·.name)=L) (f:Tabs w) :
 Calls Tryz.prog 49 #[.agg #[.slice none 0 0,.slice (some ⟨q,0,none⟩) 2 2,.int .i64 0,.slice none 0 0,.int .i64 0,.string ⟨#[]⟩],.string p,.slice (some ⟨g,0,none⟩) L.length L.length] w fun e w'=>e=.returned (.bool true)/\O5 w w':=by
 refine (wG [] exE.roles 0 0 [] ⟨#[]⟩ p none (some ⟨q,0,none⟩) none 0 2 0 L (some ⟨g,0,none⟩) L.length w c kG.2.1 lz (by omega) f d (by omega)).mono ?_;rintro r w' ⟨a,b⟩;rw [Q9 (show (xt runes ⟨[],exE.roles,⟨0,⟨#[]⟩,⟨0,[]⟩⟩⟩ p).map (·.name)=L from h)] at a;exact ⟨a,b⟩
theorem sW (q g:Nat) (w:World) (c:qy w 0 w.heap.size (some ⟨q,0,none⟩) [zA 97]) (d:qy w 0 w.heap.size (some ⟨g,0,none⟩) [binS]) (f:Tabs w) :
 Calls Tryz.prog 49 #[.agg #[.slice none 0 0,.slice none 0 0,.int .i64 1,.slice (some ⟨q,0,none⟩) 1 1,.int .i64 2,.string ppN],.string kN,.slice (some ⟨g,0,none⟩) 1 1] w fun e w'=>e=.returned (.bool true)/\O5 w w':=by
 refine (wG [] [] 1 2 [zA 97] ppN kN none none (some ⟨q,0,none⟩) 0 0 1 [binS] (some ⟨g,0,none⟩) 1 w ⟨.inl rfl,.inl rfl,c⟩ kG.2.2 lz (by decide) f d (by decide)).mono ?_;rintro r w' ⟨a,b⟩;rw [Q9 (show (xt runes ⟨[],[],⟨2,ppN,⟨1,[zA 97]⟩⟩⟩ kN).map (·.name)=[binS] from vD.2.2.2)] at a;exact ⟨a,b⟩
theorem yU {w:World} {g:Nat} {x:ByteArray} (h:w.heap[g]?=some (.cells #[.string x] 9 (0,0))):qy w 0 w.heap.size (some ⟨g,0,none⟩) [x]:=by
 refine .inr ⟨g,0,rfl,Q2 _,qz h,fun i hi=>?_⟩
 match i,hi with
 | 0,_=>exact qq h (j:=0) rfl
theorem rl {w:World} {g:Nat} {x y:ByteArray} (h:w.heap[g]?=some (.cells #[.string x,.string y] 9 (0,0))):qy w 0 w.heap.size (some ⟨g,0,none⟩) [x,y]:=by
 refine .inr ⟨g,0,rfl,Q2 _,qz h,fun i hi=>?_⟩
 match i,hi with
 | 0,_=>exact qq h (j:=0) rfl
 | 1,_=>exact qq h (j:=1) rfl
theorem tf {P Q:List ByteArray} (d:P.length<=100) (e:Q.length<=100) (a:∀s ∈ P,s.size<=100) (c:∀s ∈ Q,s.size<=100):DelegFits ⟨raN,vv 97,false,P,Q⟩ :=
 ⟨by show raN.size<=4294967296;decide,(jK (n:=raN) (p:=raN) (b:=false) (by decide) (by decide)).au,⟨by show P.length<=4294967296;omega,fun s hs=>by have:=a s hs;omega⟩,⟨by show Q.length<=4294967296;omega,fun s hs=>by have:=c s hs;omega⟩⟩
theorem rr {n:Nat}:∀s ∈ List.replicate n xB,s.size<=100:=fun s hs=>by rw [List.eq_of_mem_replicate hs];decide
theorem fe (n:Nat) (h:n<=100):DelegFits ⟨raN,vv 97,false,List.replicate n xB,[]⟩ :=
 tf (by rw [List.length_replicate];exact h) (Q2 _) rr (fun s hs=>by cases hs)
theorem fitsL {rs:List DelegV} {a t:Int} {b:ByteArray} {ids:List ByteArray} (e:rs.length<=70) (g:∀x ∈ rs,DelegFits x) (d:-9223372036854775808<=a/\a<=9223372036854775807) (f:b.size<=300) (c:xq ⟨t,ids⟩):DelegsFits ⟨[],rs,⟨a,b,⟨t,ids⟩⟩⟩ :=
 ⟨Q2 _,fun k hk=>(by cases hk),e,g,d,f,c⟩
theorem uz:xq ⟨0,[]⟩:=⟨⟨by decide,by decide⟩,by decide,fun s hs=>(by cases hs)⟩
theorem dz:xq ⟨1,[zA 97]⟩:=(jK (n:=raN) (p:=raN) (b:=false) (by decide) (by decide)).au
theorem row_one {w:World} {q T b c n a:Nat} {P:List ByteArray} (f:n=P.length) (h:w.heap[q]?=some (.cells #[.string raN,.int .i64 1,.slice (some ⟨b,0,none⟩) 1 1,.bool false,.slice (some ⟨c,0,none⟩) n a,.slice none 0 0] T (0,0))) (d:qy w 0 w.heap.size (some ⟨b,0,none⟩) [zA 97]) (g:qy w 0 w.heap.size (some ⟨c,0,none⟩) P) (e:n<=a) :
 q9 w 0 w.heap.size (some ⟨q,0,none⟩) [⟨raN,vv 97,false,P,[]⟩]:=by
 subst f;refine .inr ⟨q,0,rfl,Q2 _,qz h,fun i hi=>?_⟩
 match i,hi with
 | 0,_=>exact ⟨_,1,_,a,none,0,qq h (j:=0) rfl,qq h (j:=1) rfl,qq h (j:=2) rfl,qq h (j:=3) rfl,qq h (j:=4) rfl,qq h (j:=5) rfl,Z9 _,e,Z9 _,⟨d,g,.inl rfl⟩⟩
theorem dx (rs:List DelegV) (t a:Int) (ids:List ByteArray) (c:ByteArray) (g d:Option Addr) (h i:Nat) (w:World) (o:q9 w 0 w.heap.size g rs) (k:qy w 0 w.heap.size d ids) (l:DelegsFits ⟨[],rs,⟨a,c,⟨t,ids⟩⟩⟩) (f:rs.length<=h) (j:Tabs w) (b:Bool) (m:qH ⟨[],rs,⟨a,c,⟨t,ids⟩⟩⟩=b) :
 Calls Tryz.prog 33 #[.agg #[.slice none 0 0,.slice g rs.length h,.int .i64 t,.slice d ids.length i,.int .i64 a,.string c]] w fun e w'=>e=.returned (.bool b)/\O5 w w':=by
 have:=pu [] rs t a ids c none g d 0 h i w ⟨.inl rfl,o,k⟩ l f j;rw [m] at this;exact this
theorem th (rs:List DelegV) (t g:Int) (ids:List ByteArray) (h path:ByteArray) (k i:Option Addr) (l m:Nat) (w:World) (u:q9 w 0 w.heap.size k rs) (p:qy w 0 w.heap.size i ids) (q:DelegsFits ⟨[],rs,⟨g,h,⟨t,ids⟩⟩⟩) (j:rs.length<=l) (s:path.size<=4294967296) (o:Tabs w) (r:xt runes ⟨[],rs,⟨g,h,⟨t,ids⟩⟩⟩ path=[]) :
 Calls Tryz.prog 20 #[.agg #[.slice none 0 0,.slice k rs.length l,.int .i64 t,.slice i ids.length m,.int .i64 g,.string h],.string path] w fun e w'=>∃a c,e=.returned (.slice a 0 c)/\O5 w w':=by
 have:=ft [] rs t g ids h path none k i 0 l m w ⟨.inl rfl,u,p⟩ q j s o;rw [r] at this;refine this.mono ?_;rintro e w' ⟨a,c,f,b,-,-,d⟩;exact ⟨a,c,b,d⟩
theorem isG (P Q:List ByteArray) (path:ByteArray) (a c:Nat) (d:Option Addr) (f g:Nat) (w:World) (i:qy w 0 w.heap.size (some ⟨a,0,none⟩) [zA 97]) (l:qy w 0 w.heap.size (some ⟨c,0,none⟩) P) (m:qy w 0 w.heap.size d Q) (j:DelegFits ⟨raN,vv 97,false,P,Q⟩) (o:path.size<=4294967296) (h:Tabs w) (b:Bool) (k:isD runes ⟨raN,vv 97,false,P,Q⟩ path=b) :
 Calls Tryz.prog 23 #[.agg #[.string raN,.int .i64 1,.slice (some ⟨a,0,none⟩) 1 1,.bool false,.slice (some ⟨c,0,none⟩) P.length f,.slice d Q.length g],.string path] w fun e w'=>e=.returned (.bool b)/\O5 w w':=by
 have:=dG ⟨raN,vv 97,false,P,Q⟩ path (some ⟨a,0,none⟩) (some ⟨c,0,none⟩) d 1 f g w ⟨i,l,m⟩ j o h;rw [k] at this;exact this
def MP.whoQ:MP:=⟨fun w x=>∃g,x=.agg #[.int .i64 1,.slice (some ⟨g,0,none⟩) 1 1]/\qy w 0 w.heap.size (some ⟨g,0,none⟩) [zA 97],fun _ _ _ hb ⟨g,e,h⟩=>⟨g,e,h.below hb lz lz hb.size⟩⟩
def MP.binQ:MP:=⟨fun w x=>∃g,x=.agg #[.int .i64 1,.slice (some ⟨g,0,none⟩) 1 1,.int .i64 2,.string ppN]/\qy w 0 w.heap.size (some ⟨g,0,none⟩) [zA 97],fun _ _ _ hb ⟨g,e,h⟩=>⟨g,e,h.below hb lz lz hb.size⟩⟩
def MP.fullQ (cs:Array Value):MP:=⟨fun w x=>∃b g,x=.agg #[.slice none 0 0,.slice (some ⟨b,0,none⟩) 1 1,.int .i64 1,.slice (some ⟨g,0,none⟩) 1 1,.int .i64 2,.string ppN]/\w.heap[b]?=some (.cells cs 41 (0,0))/\qy w 0 w.heap.size (some ⟨g,0,none⟩) [zA 97],fun _ _ _ hb ⟨b,g,e,hc,h⟩=>⟨b,g,e,(hb.block _ (qz hc)).trans hc,h.below hb lz lz hb.size⟩⟩
theorem whoQ (w:World):Calls Tryz.prog 32 #[] w fun e w'=>∃y,e=.returned y/\MP.whoQ.p w' y/\O5 w w' :=
 (vZ w).mono fun _ _ ⟨g,h1,h2,h3⟩=>⟨_,h1,⟨g,rfl,h2.carry (Q2 _) lz (fun _ _ _=>rfl)⟩,h3⟩
theorem oz {w:World} {b T:Nat} {a c d e f g:Value} (h:w.heap[b]?=some (.cells #[a,c,d,e,f,g] T (0,0))):w.rowIs b T 6 (qe a c d e f g):=⟨_,h,rfl,fun i hi=>by rcases i with _|_|_|_|_|_|i <;> first|rfl|omega⟩
theorem mW {a T k q m:Nat} {B w:World} {s u v x y z:Value} {cs:Array Value} {t:ByteArray} (r:w.heap[k]?=some (.cells #[.slice none 0 0,.slice none 0 0,.int .i64 0,.slice none 0 0,.int .i64 0,.string ⟨#[]⟩] T (0,0))) (C:Below a B w) (E:a<=k)
 (p:w.heap[q]?=some (.cells cs 41 (0,0))) (l:cs[0]?=some (.string t)) (A:qy w 0 w.heap.size (some ⟨m,0,none⟩) [zA 97]) {W:World} (D:W=(((((w.setCell ⟨k,0,none⟩ s).setCell ⟨k,1,none⟩ u).setCell ⟨k,2,none⟩ v).setCell ⟨k,3,none⟩ x).setCell ⟨k,4,none⟩ y).setCell ⟨k,5,none⟩ z) :
 W.heap[k]?=some (.cells #[s,u,v,x,y,z] T (0,0))/\Below a B W/\W.heap[q]?=some (.cells cs 41 (0,0))/\qy W 0 W.heap.size (some ⟨m,0,none⟩) [zA 97]:=by
 have d:q≠k:=fun e=>by rw [e,r] at p;simp only [Y2,Obj.cells.injEq] at p;rw [<- p.1] at l;cases l
 have f:m≠k:=fun e=>by
  rcases A with h|⟨b,o,e2,-,-,h3⟩
  . cases h
  . cases e2;have c:=h3 0 (by decide);rw [e] at c;have g:=qq r (j:=0) rfl;rw [g] at c;cases c
 rw [D];refine ⟨zv (vT _ _ _ _ _ _ (oz r)),xi _ _ _ _ _ _ C E,(vw _ _ _ _ _ _ d).trans p,?_⟩;rcases A with h|⟨b,o,e2,-,c,h3⟩
 . cases h
 . cases e2;exact .inr ⟨m,0,rfl,Q2 _,by rw [wz];exact c,fun i hi=>by rw [J9 (w:=w) (vw _ _ _ _ _ _ f)];exact h3 i hi⟩
theorem aR (w:World) (hT:Tabs w):Calls Tryz.prog 14 #[] w fun e w'=>e=.returned (.bool true)/\O5 w w':=by
 have HT:=O0 (∀w':World,O5 w w'->Tabs w') (fun w' h=>hT.below h);clear hT;have k7:=U (jJ raN af false w);go_enter Tryz.func14,Tryz.ntmps14;go_wp2_with fail;refine k7.o.mono ?_;clear k7;rintro e w1 ⟨a1,p1,rfl,v,u,d⟩;have X:=O0 (RoleIn w1 a1 p1 af) (⟨v.carry (Q2 _) lz (fun _ _ _=>rfl),u.carry (Q2 _) lz (fun _ _ _=>rfl)⟩);have i5:=U d;clear v u d;have k8:=U (jJ bbN xB true w1);go_wp2_with fail;refine k8.o.mono ?_;clear k8;rintro e w2 ⟨a2,p2,rfl,v,u,d⟩;have c6:=O0 (RoleIn w2 a2 p2 xB) (⟨v.carry (Q2 _) lz (fun _ _ _=>rfl),u.carry (Q2 _) lz (fun _ _ _=>rfl)⟩);replace X:=U (X.o.below d);have i6:=U (O2 i5 d);clear v u d;have k9:=U (jJ pcN kN false w2);go_wp2_with fail;refine k9.o.mono ?_;clear k9;rintro e p ⟨a3,p3,rfl,v,u,d⟩;have j3:=O0 (RoleIn p a3 p3 kN) (⟨v.carry (Q2 _) lz (fun _ _ _=>rfl),u.carry (Q2 _) lz (fun _ _ _=>rfl)⟩);replace X:=U (X.o.below d);replace c6:=U (c6.o.below d);have c4:=U (O2 i6 d);clear v u d;have c2:((p.alloc (.cells #[.string raN,.int .i64 1,.slice (some ⟨a1,0,none⟩) 1 1,.bool false,.slice (some ⟨p1,0,none⟩) 1 1,.slice none 0 0] 41)).alloc (.cells #[.string bbN,.int .i64 1,.slice (some ⟨a2,0,none⟩) 1 1,.bool true,.slice (some ⟨p2,0,none⟩) 1 1,.slice none 0 0] 41)).heap.size=p.heap.size+1+1:=by simp
 obtain ⟨b,D⟩:=O1 (((p.alloc (.cells #[.string raN,.int .i64 1,.slice (some ⟨a1,0,none⟩) 1 1,.bool false,.slice (some ⟨p1,0,none⟩) 1 1,.slice none 0 0] 41)).alloc (.cells #[.string bbN,.int .i64 1,.slice (some ⟨a2,0,none⟩) 1 1,.bool true,.slice (some ⟨p2,0,none⟩) 1 1,.slice none 0 0] 41)).alloc (.cells #[.string pcN,.int .i64 1,.slice (some ⟨a3,0,none⟩) 1 1,.bool false,.slice (some ⟨p3,0,none⟩) 1 1,.slice none 0 0] 41));have x:b.heap[p.heap.size]?=some (.cells #[.string raN,.int .i64 1,.slice (some ⟨a1,0,none⟩) 1 1,.bool false,.slice (some ⟨p1,0,none⟩) 1 1,.slice none 0 0] 41 (0,0)):=by rw [D,J8 _ _ _ (by rw [c2];omega)];exact ze p _ _
 have h2:b.heap[p.heap.size+1]?=some (.cells #[.string bbN,.int .i64 1,.slice (some ⟨a2,0,none⟩) 1 1,.bool true,.slice (some ⟨p2,0,none⟩) 1 1,.slice none 0 0] 41 (0,0)):=by rw [D,J8 _ _ _ (by rw [c2];omega)];exact jB p _ _
 have h3:b.rowIs (p.heap.size+1+1) 41 6 (qe (.string pcN) (.int .i64 1) (.slice (some ⟨a3,0,none⟩) 1 1) (.bool false) (.slice (some ⟨p3,0,none⟩) 1 1) (.slice none 0 0)):=(by have:=zN ((p.alloc (.cells #[.string raN,.int .i64 1,.slice (some ⟨a1,0,none⟩) 1 1,.bool false,.slice (some ⟨p1,0,none⟩) 1 1,.slice none 0 0] 41)).alloc (.cells #[.string bbN,.int .i64 1,.slice (some ⟨a2,0,none⟩) 1 1,.bool true,.slice (some ⟨p2,0,none⟩) 1 1,.slice none 0 0] 41)) (.string pcN) (.int .i64 1) (.slice (some ⟨a3,0,none⟩) 1 1) (.bool false) (.slice (some ⟨p3,0,none⟩) 1 1) (.slice none 0 0) 41;rw [c2,<- D] at this;exact this);have m3:=O0 (b.heap.size=p.heap.size+3) (by rw [D];simp);have g1:=O0 (O5 p b) (by rw [D];exact ((O4).alloc (by simp) _).alloc (by rw [c2];omega) _);have l1:=U D;go_upto_region 2 with fail
 rw [<- l1.o];clear l1 D c2;have x0:=qq x (j:=0) rfl;have x1:=qq x (j:=1) rfl;have x2:=qq x (j:=2) rfl;have x3:=qq x (j:=3) rfl;have x4:=qq x (j:=4) rfl;have x5:=qq x (j:=5) rfl;have y0:=qq h2 (j:=0) rfl;have y1:=qq h2 (j:=1) rfl;have y2:=qq h2 (j:=2) rfl;have y3:=qq h2 (j:=3) rfl;have y4:=qq h2 (j:=4) rfl;have y5:=qq h2 (j:=5) rfl;obtain ⟨z0,z1,z2,z3,z4⟩:=rc5 h3;have z5:=h3.cell (i:=5) (by decide);simp only [qe] at z0 z1 z2 z3 z4 z5;have H1:=U x;have H2:=U h2;have H3:=U h3;obtain ⟨W5,Y⟩:=O1 ((b.alloc (.cells #[.string raN,.int .i64 1,.slice (some ⟨a1,0,none⟩) 1 1,.bool false,.slice (some ⟨p1,0,none⟩) 1 1,.slice none 0 0,.string bbN,.int .i64 1,.slice (some ⟨a2,0,none⟩) 1 1,.bool true,.slice (some ⟨p2,0,none⟩) 1 1,.slice none 0 0,.string pcN,.int .i64 1,.slice (some ⟨a3,0,none⟩) 1 1,.bool false,.slice (some ⟨p3,0,none⟩) 1 1,.slice none 0 0] 41)).alloc (.cells #[.slice none 0 0,.slice (some ⟨b.heap.size,0,none⟩) 3 3,.int .i64 0,.slice none 0 0,.int .i64 0,.string ⟨#[]⟩] 35));have c5:=O0 (O5 b W5) (by rw [Y];exact (O4).alloc (by simp) _);have k6:=O0 (W5.heap[b.heap.size]?=some (.cells #[.string raN,.int .i64 1,.slice (some ⟨a1,0,none⟩) 1 1,.bool false,.slice (some ⟨p1,0,none⟩) 1 1,.slice none 0 0,.string bbN,.int .i64 1,.slice (some ⟨a2,0,none⟩) 1 1,.bool true,.slice (some ⟨p2,0,none⟩) 1 1,.slice none 0 0,.string pcN,.int .i64 1,.slice (some ⟨a3,0,none⟩) 1 1,.bool false,.slice (some ⟨p3,0,none⟩) 1 1,.slice none 0 0] 41 (0,0))) (by rw [Y];exact ze b _ _);have j1:=O0 (W5.heap[b.heap.size+1]?=some (.cells #[.slice none 0 0,.slice (some ⟨b.heap.size,0,none⟩) 3 3,.int .i64 0,.slice none 0 0,.int .i64 0,.string ⟨#[]⟩] 35 (0,0))) (by rw [Y];exact jB b _ _);have m9:=O0 (W5.heap.size=b.heap.size+2) (by rw [Y];simp);have l2:=U Y;clear x h2 h3 Y;go_upto_region 3 with fail
 rw [<- l2.o];clear l2 x0 x1 x2 x3 x4 x5 y0 y1 y2 y3 y4 y5 z0 z1 z2 z3 z4 z5;have c0:=qw c5.o H3.o H3.o.lt;obtain ⟨z0,z1,z2,z3,z4⟩:=rc5 c0;have z5:=c0.cell (i:=5) (by decide);have f3:=c0.frozen 3;simp only [qe] at z0 z1 z2 z3 z4 z5;obtain ⟨c,Z⟩:=O1 (W5.setCell ⟨p.heap.size+1+1,3,none⟩ (.bool true));have m4:c.rowIs (p.heap.size+1+1) 41 6 (qe (.string pcN) (.int .i64 1) (.slice (some ⟨a3,0,none⟩) 1 1) (.bool true) (.slice (some ⟨p3,0,none⟩) 1 1) (.slice none 0 0)):=(by rw [Z];refine (c0.set 3 _).congr fun j hj=>?_;rcases j with _|_|_|_|_|_|j <;> first|rfl|omega);have e0:∀k,k≠p.heap.size+1+1->c.heap[k]?=W5.heap[k]?:=fun k hk=>by rw [Z];exact Q5 _ _ _ _ hk
 have n0:=O0 (c.heap.size=W5.heap.size) (by rw [Z];simp [World.setCell]);have g2:=O0 (O5 p c) (by rw [Z];exact (g1.o.trans (c5.o.mono g1.o.size)).setCell (by show p.heap.size<=p.heap.size+1+1;omega) _);have i0:=U ((e0 p.heap.size (by omega)).trans ((c5.o.block _ (qz H1.o)).trans H1.o));have h0:=U ((e0 b.heap.size (by have:=m3.o;omega)).trans k6.o);have g5:=U ((e0 (b.heap.size+1) (by have:=m3.o;omega)).trans j1.o);have i4:=U m4;have l3:=U Z;clear c0 m4 e0 Z;go_upto_region 4 with fail
 rw [<- l3.o];clear l3 z0 z1 z2 z3 z4 z5 f3 H1 H2 H3 k6 j1;have x:=i0.o;have h3:=i4.o;have x0:=qq x (j:=0) rfl;have x1:=qq x (j:=1) rfl;have x2:=qq x (j:=2) rfl;have x3:=qq x (j:=3) rfl;have x4:=qq x (j:=4) rfl;have x5:=qq x (j:=5) rfl;obtain ⟨z0,z1,z2,z3,z4⟩:=rc5 h3;have z5:=h3.cell (i:=5) (by decide);simp only [qe] at z0 z1 z2 z3 z4 z5;obtain ⟨W7,b6⟩:=O1 ((c.alloc (.cells #[.string pcN,.int .i64 1,.slice (some ⟨a3,0,none⟩) 1 1,.bool true,.slice (some ⟨p3,0,none⟩) 1 1,.slice none 0 0,.string raN,.int .i64 1,.slice (some ⟨a1,0,none⟩) 1 1,.bool false,.slice (some ⟨p1,0,none⟩) 1 1,.slice none 0 0] 41)).alloc (.cells #[.slice none 0 0,.slice (some ⟨c.heap.size,0,none⟩) 2 2,.int .i64 0,.slice none 0 0,.int .i64 0,.string ⟨#[]⟩] 35));have c9:O5 c W7:=by rw [b6];exact (O4).alloc (by simp) _
 have h6:W7.heap[c.heap.size]?=some (.cells #[.string pcN,.int .i64 1,.slice (some ⟨a3,0,none⟩) 1 1,.bool true,.slice (some ⟨p3,0,none⟩) 1 1,.slice none 0 0,.string raN,.int .i64 1,.slice (some ⟨a1,0,none⟩) 1 1,.bool false,.slice (some ⟨p1,0,none⟩) 1 1,.slice none 0 0] 41 (0,0)):=by rw [b6];exact ze c _ _
 have d7:W7.heap[c.heap.size+1]?=some (.cells #[.slice none 0 0,.slice (some ⟨c.heap.size,0,none⟩) 2 2,.int .i64 0,.slice none 0 0,.int .i64 0,.string ⟨#[]⟩] 35 (0,0)):=by rw [b6];exact jB c _ _
 have h5:=(c9.block _ (qz g5.o)).trans g5.o;have h7:=(c9.block _ (qz h0.o)).trans h0.o;have g3:=U (O2 g2 c9);have y:=U (show ∀w':World,O5 W7 w'->(DelegsIn w' 0 w'.heap.size exD none (some ⟨b.heap.size,0,none⟩) none/\DelegsIn w' 0 w'.heap.size exE none (some ⟨c.heap.size,0,none⟩) none/\Tabs w')/\(w'.cell? ⟨b.heap.size+1,0,none⟩=some (.slice none 0 0)/\w'.cell? ⟨b.heap.size+1,1,none⟩=some (.slice (some ⟨b.heap.size,0,none⟩) 3 3)/\w'.cell? ⟨b.heap.size+1,2,none⟩=some (.int .i64 0)/\w'.cell? ⟨b.heap.size+1,3,none⟩=some (.slice none 0 0)/\w'.cell? ⟨b.heap.size+1,4,none⟩=some (.int .i64 0)/\w'.cell? ⟨b.heap.size+1,5,none⟩=some (.string ⟨#[]⟩))/\(w'.cell? ⟨c.heap.size+1,0,none⟩=some (.slice none 0 0)/\w'.cell? ⟨c.heap.size+1,1,none⟩=some (.slice (some ⟨c.heap.size,0,none⟩) 2 2)/\w'.cell? ⟨c.heap.size+1,2,none⟩=some (.int .i64 0)/\w'.cell? ⟨c.heap.size+1,3,none⟩=some (.slice none 0 0)/\w'.cell? ⟨c.heap.size+1,4,none⟩=some (.int .i64 0)/\w'.cell? ⟨c.heap.size+1,5,none⟩=some (.string ⟨#[]⟩)) from fun w' h=>by
  have a:=O2 g3 h;have r1:=X.o.below a;have r2:=c6.o.below a;have r3:=j3.o.below a;have k1:=(h.block _ (qz h7)).trans h7;have k2:=(h.block _ (qz h6)).trans h6;have k3:=(h.block _ (qz h5)).trans h5;have k4:=(h.block _ (qz d7)).trans d7;exact ⟨⟨⟨.inl rfl,ru k1 r1 r2 r3,.inl rfl⟩,⟨.inl rfl,fi k2 r3 r1,.inl rfl⟩,HT.o w' (O2 c4 a)⟩,⟨qq k3 rfl,qq k3 rfl,qq k3 rfl,qq k3 rfl,qq k3 rfl,qq k3 rfl⟩,⟨qq k4 rfl,qq k4 rfl,qq k4 rfl,qq k4 rfl,qq k4 rfl,qq k4 rfl⟩⟩)
 have m0:=U b6;have j0:=U (c4.o.trans (g3.o.mono c4.o.size));have k5:=O0 (0<W7.heap.size) (Nat.lt_of_le_of_lt (Q2 _) (qz d7));clear x h3 b6 c9 h6 d7 h5 h7;go_upto_region 5 with fail
 rw [<- m0.o];clear m0 x0 x1 x2 x3 x4 x5 z0 z1 z2 z3 z4 z5 i0 i4 h0 g5 g1 c5 g2 X c6 j3;obtain ⟨⟨i1,i2,i3⟩,⟨d0,d1,d2,d3,d4,d5⟩,-⟩:=y.o W7 (Z0 _ _);have HV:=U (aL b.heap.size W7 i1 i3);clear i1 i2 i3;go_wp2_with fail;refine HV.o.mono ?_;clear HV d0 d1 d2 d3 d4 d5;rintro e w8 ⟨an,cn,ai,ci,rfl,m5,h4⟩;obtain ⟨W9,c7⟩:=O1 (w8.alloc (.cells #[.int .u8 5,.int .i64 0,.string ⟨#[]⟩,.slice an 2 cn,.slice ai 2 ci] 25));have d6:=O7 c7
 have m7:=O9 c7
 have g4:=U (h4.trans (d6.mono h4.size));have k0:=U (ot _ W9 W7.heap.size k5.o (m5.below d6 lz lz d6.size) (y.o W9 g4.o).1.2.2);obtain ⟨v0,v1,v2,v3,v4⟩:=bx5 m7;have m1:=U c7;clear h4 m5 d6 m7 c7;go_upto_region 6 with fail
 rw [<- m1.o];clear m1;go_wp2_with fail;refine k0.o.mono ?_;clear k0 v0 v1 v2 v3 v4;rintro e l ⟨ka,kc,ra,rc,ba,bc,rfl,f7,b7⟩;obtain ⟨r,N⟩:=O1 (l.alloc (.cells #[.slice ka 0 kc,.slice ra 3 rc,.int .i64 0,.slice ba 0 bc,.int .i64 0,.string ⟨#[]⟩] 35));have W:=O7 N
 have f6:=U (O9 N);have j2:=O0 (aD r ka ra ba) (f7.below W lz lz W.size);have e1:=U (g4.o.trans ((b7.trans (W.mono b7.size)).mono g4.o.size));have e9:=U N;have m2:=U (vZ r);clear f7 b7 W N;go_upto_region 7 with fail
 rw [<- e9.o];clear e9;go_wp2_with fail;refine m2.o.mono ?_;clear m2;rintro e m ⟨g,rfl,g0,b8⟩;obtain ⟨o,P⟩:=O1 (m.alloc (.cells #[.slice none 0 0,.slice none 0 0,.int .i64 1,.slice (some ⟨g,0,none⟩) 1 1,.int .i64 2,.string ⟨#[112]⟩] 35));have s:=O7 P
 have q:O5 r o:=b8.trans (s.mono b8.size);have c1:=O9 P
 have a4:=U (O2 e1 q);have HF:=U (show ∀w':World,O5 o w'->(aD w' ka ra ba/\qy w' 0 w'.heap.size (some ⟨g,0,none⟩) [zA 97])/\(w'.cell? ⟨l.heap.size,0,none⟩=some (.slice ka 0 kc)/\w'.cell? ⟨l.heap.size,1,none⟩=some (.slice ra 3 rc)/\w'.cell? ⟨l.heap.size,2,none⟩=some (.int .i64 0)/\w'.cell? ⟨l.heap.size,3,none⟩=some (.slice ba 0 bc)/\w'.cell? ⟨l.heap.size,4,none⟩=some (.int .i64 0)/\w'.cell? ⟨l.heap.size,5,none⟩=some (.string ⟨#[]⟩))/\(w'.cell? ⟨m.heap.size,0,none⟩=some (.slice none 0 0)/\w'.cell? ⟨m.heap.size,1,none⟩=some (.slice none 0 0)/\w'.cell? ⟨m.heap.size,2,none⟩=some (.int .i64 1)/\w'.cell? ⟨m.heap.size,3,none⟩=some (.slice (some ⟨g,0,none⟩) 1 1)/\w'.cell? ⟨m.heap.size,4,none⟩=some (.int .i64 2)/\w'.cell? ⟨m.heap.size,5,none⟩=some (.string ⟨#[112]⟩)) from fun w' h=>by
  have a:=q.trans (h.mono q.size);have k1:=(a.block _ (qz f6.o)).trans f6.o;have k2:=(h.block _ (qz c1)).trans c1;exact ⟨⟨j2.o.below a lz lz a.size,(g0.carry (Q2 _) lz (fun _ _ _=>rfl)).below (s.trans (h.mono s.size)) lz lz (Z5 s.size h.size)⟩,⟨qq k1 rfl,qq k1 rfl,qq k1 rfl,qq k1 rfl,qq k1 rfl,qq k1 rfl⟩,⟨qq k2 rfl,qq k2 rfl,qq k2 rfl,qq k2 rfl,qq k2 rfl,qq k2 rfl⟩⟩)
 have i9:=U (ip g o (y.o o a4.o).1.2.2);have f0:=U P;clear g0 b8 P s q c1;go_upto_region 8 with fail
 rw [<- f0.o];clear f0;obtain ⟨-,-,b0,b1,b2,b3,b4,b5⟩:=HF.o o (Z0 _ _);go_wp2_with fail;refine i9.o.mono ?_;clear i9 b0 b1 b2 b3 b4 b5;rintro e E ⟨rfl,b9⟩;obtain ⟨S,hS⟩:=O1 binS;rw [<- hS];have HS:=U hS;have e6:=U b9;have a5:=U (O2 a4 b9);clear b9 hS;go_upto_region 9 with fail
 obtain ⟨z,Q⟩:=O1 (E.alloc (.cells #[.string ⟨#[97]⟩,.string ⟨#[99]⟩] 9));have a:=O7 Q
 have f:=O9 Q
 have I:=U (O2 a5 a);have e3:=U (O2 e6 a);have HM:=U (mV b.heap.size E.heap.size kN [raN,pcN] z (y.o z I.o).1.1 (rl f) (by decide) (by decide) vD.1 (y.o z I.o).1.2.2);have f1:=U Q;clear a f Q;obtain ⟨-,⟨d0,d1,d2,d3,d4,d5⟩,-⟩:=y.o E a5.o;go_wp2_with fail;rw [<- f1.o];refine HM.o.mono ?_;clear HM f1 d0 d1 d2 d3 d4 d5;rintro e F ⟨rfl,a⟩;have a6:=U (O2 I a);have e7:=U (O2 e3 a);clear a;obtain ⟨A,R⟩:=O1 (F.alloc (.cells #[.string ⟨#[98]⟩] 9));have a:=O7 R
 have f:=O9 R
 have J:=U (O2 a6 a);have e4:=U (O2 e7 a);have HM:=U (mV b.heap.size F.heap.size pzN [bbN] A (y.o A J.o).1.1 (yU f) (by decide) (by decide) vD.2.1 (y.o A J.o).1.2.2);have f2:=U R;clear a f R;obtain ⟨-,⟨d0,d1,d2,d3,d4,d5⟩,-⟩:=y.o F a6.o;go_wp2_with fail;rw [<- f2.o];refine HM.o.mono ?_;clear HM f2 d0 d1 d2 d3 d4 d5;rintro e G ⟨rfl,a⟩;have a7:=U (O2 J a);have e8:=U (O2 e4 a);clear a;obtain ⟨B,T⟩:=O1 (G.alloc (.cells #[.string ⟨#[99]⟩] 9));have a:=O7 T
 have f:=O9 T
 have K:=U (O2 a7 a);have e5:=U (O2 e8 a);have HM:=U (sV c.heap.size G.heap.size kN [pcN] B (y.o B K.o).1.2.1 (yU f) (by decide) (by decide) vD.2.2.1 (y.o B K.o).1.2.2);have f4:=U T;clear a f T;obtain ⟨-,-,d0,d1,d2,d3,d4,d5⟩:=y.o G a7.o;go_wp2_with fail;rw [<- f4.o];refine HM.o.mono ?_;clear HM f4 d0 d1 d2 d3 d4 d5;rintro e c3 ⟨rfl,a⟩;have L:=U (O2 K a);have M:=U (O2 e5 a);clear a;have l0:=U (ib ka ra ba kc rc bc b.heap.size c3 (HF.o c3 M.o).1.1 (y.o c3 L.o).1.1);obtain ⟨-,⟨d0,d1,d2,d3,d4,d5⟩,-⟩:=y.o c3 L.o;obtain ⟨-,⟨o0,o1,o2,o3,o4,o5⟩,-⟩:=HF.o c3 M.o;go_wp2_with fail;refine l0.o.mono ?_;clear l0 d0 d1 d2 d3 d4 d5 o0 o1 o2 o3 o4 o5;rintro e H ⟨rfl,a⟩;have e2:=U (O2 L a);have a9:=U (O2 M a);clear a;obtain ⟨C,V⟩:=O1 (H.alloc (.cells #[.string S] 9));have a:=O7 V
 have f:=O9 V
 have a0:=U (O2 e2 a);have a8:=U (O2 a9 a);have HM:=U (sW g H.heap.size C (HF.o C a8.o).1.2 (by rw [<- HS.o];exact yU f) (y.o C a0.o).1.2.2);have f5:=U V;clear a f V;obtain ⟨-,-,d0,d1,d2,d3,d4,d5⟩:=HF.o H a9.o;go_wp2_with fail;rw [<- f5.o];refine HM.o.mono ?_;clear HM f5 d0 d1 d2 d3 d4 d5;rintro e n1 ⟨rfl,a⟩;have i7:=U (O2 a0 a);have m8:=U (O2 a8 a);clear a;go_wp2;go_ret;exact ⟨rfl,j0.o.trans (i7.o.mono j0.o.size)⟩
