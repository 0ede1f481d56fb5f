import Derived.Test.YtkllbdlebjomkaaGreatDoorTn10
set_option maxHeartbeats 400000
set_option maxRecDepth 100000

namespace Go.Proofs.YtkllbdlebjomkaaGreatDoor
open Go.RowKit Go.Shelf Go.Sort
def gy (ns:List ByteArray) (its:List JV) (w:World) (e:Ending) (w':World):Prop :=
 ∃an cn ai ci,e=.returned (.tuple #[.agg #[.int .u8 5,.int .i64 0,.string ⟨#[]⟩,.slice an ns.length cn,.slice ai its.length ci],.int .i64 0]) /\
  Rep w' w.heap.size w'.heap.size (.mk 5 0 ⟨#[]⟩ ns its) (.agg #[.int .u8 5,.int .i64 0,.string ⟨#[]⟩,.slice an ns.length cn,.slice ai its.length ci])/\O5 w w'
theorem gb:(Tryz.prog.info? 9).map (fun i=>(i.zero,i.size,i.bytes))=some (some (.string ⟨#[]⟩),1,16):=by kernel_rfl
theorem ye (d d':Array Mem) (i7:List JV) (i8 j3 cap:Nat) (w:World) (lo hi:Nat) (hH:HoldsK qY 6 w i8 j3 d) (i9:i8<w.heap.size) (k2:d.size<=4294967296) (k3:d'.size=d.size)
 (hs:∀g cap1 w1,HoldsK qY 6 w1 g 0 d->g<w1.heap.size->Calls Tryz.prog 90 #[.slice (some ⟨g,0,none⟩) d.size cap1,.func (.func 91) #[] #[]] w1 fun e w'=>e=.returned (.tuple #[])/\HoldsK qY 6 w' g 0 d'/\Touch (· = g) w1 w')
 (hl:d'.size=i7.length) (hm:∀i (h:i<i7.length),Rep w lo hi i7[i] d'[i]!.val/\i7[i].wt<=4294967296/\∀k (h':k<i7[i].items.length),cV lo i7[i].items[k])
 (k1:∀i,i+1<d'.size->d'[i]!.name≠d'[i+1]!.name) (k0:hi<=w.heap.size) :
 Calls Tryz.prog 48 #[.slice (some ⟨i8,j3,none⟩) d.size cap] w (gy (d'.toList.map (·.name)) i7 w):=by
 have HH:=U hH;have HS:=U hs;have HM:=U hm;have e5:=U k1;clear hH hs hm k1;go_enter Tryz.func48,Tryz.ntmps48;go_wp2_with fail
 have m:=qg w (.int .u8 0) (.int .i64 0) (.string ⟨#[]⟩) (.slice none 0 0) (.slice none 0 0) 26;have a0:=O0 (O5 w (w.alloc (.cells #[.int .u8 0,.int .i64 0,.string ⟨#[]⟩,.slice none 0 0,.slice none 0 0] 26))) O4;have HC:=U (tQ i8 j3 cap d (w.alloc (.cells #[.int .u8 0,.int .i64 0,.string ⟨#[]⟩,.slice none 0 0,.slice none 0 0] 26)) (fun j hj=>by
  have:=HH.o j hj;exact ⟨(ql _ i9).trans this.1,by rw [a0.o.frozen (by exact i9)];exact this.2⟩) (by omega))
 refine HC.o.mono ?_;clear HC;rintro e w1 ⟨g,cap1,rfl,hg,f8,d4,a8⟩;have i4:w.heap.size<g:=by simp at hg;omega
 have T:O5 w w1:=a0.o.trans (a8.mono (by simp));have E:=qj a8 m (by simp);have d0:=U (HS.o g cap1 w1 d4 f8);clear d4 a8 m;go_wp2_with fail
 refine d0.o.mono ?_;clear d0;rintro e A ⟨rfl,d5,P⟩;have h7:w1.heap.size<=A.heap.size:=P.size;have V:O5 w A:=T.trans (P.below (by omega) fun k hk e=>by omega);have F:=P.row E (by omega);have b7:=U d5;have b4:=U V;have c7:=U F;clear d5 V F E P T a0;obtain ⟨nd,L⟩:=O1 d.size;rw [<- L];rw [<- L] at k3 k2;have h9:=U L;clear L;go_wp2;have HO:=U (show ObjAt (A.alloc (.cells #[.int .u8 5,.int .i64 0,.string ⟨#[]⟩,.slice none 0 0,.slice none 0 0] 26)) (A.alloc (.cells #[.int .u8 5,.int .i64 0,.string ⟨#[]⟩,.slice none 0 0,.slice none 0 0] 26)) A.heap.size 26 9 26 (.slice none 0 0) (.slice none 0 0) [] [] [] from
  ⟨by simp,Touch.refl _ _,qg _ _ _ _ _ _ _,Y3 _ _ _ _,Y3 _ _ _ _,qS.nil _ _ _,fun b hb=>by simp [Value.ownBlock] at hb⟩)
 have J:O5 A (A.alloc (.cells #[.int .u8 5,.int .i64 0,.string ⟨#[]⟩,.slice none 0 0,.slice none 0 0] 26)):=O4;have a1:=U (b4.o.trans (J.mono (by omega)));have c9:=U (qj J c7.o (by omega));have c0:=U (show HoldsK qY 6 (A.alloc (.cells #[.int .u8 5,.int .i64 0,.string ⟨#[]⟩,.slice none 0 0,.slice none 0 0] 26)) g 0 d' from fun j hj=>by
  have:=b7.o j hj;exact ⟨(ql _ (by show g<_;omega)).trans this.1,by rw [J.frozen (by show g<_;omega)];exact this.2⟩)
 have g0:g<A.heap.size:=by omega
 have h0:w.heap.size<A.heap.size:=by omega
 clear b4 c7 b7 J;generalize (A.alloc (.cells #[.int .u8 5,.int .i64 0,.string ⟨#[]⟩,.slice none 0 0,.slice none 0 0] 26))=W at HO a1 c9 c0 ⊢;clear h7;generalize A.heap.size=cb at HO g0 h0 ⊢;obtain ⟨i1,g4,h4,h5,h6⟩:=V2 xi;obtain ⟨i2,g5,h1,h2,h3⟩:=V2 gb;go_loopw [6,7,15] (fun _ _ i wr=>∃(k:Nat) (cs:List Value) (vn Q:Value),k<=nd/\i=.int .i64 k/\ObjAt W wr cb 26 9 26 vn Q ((d'.toList.map (·.name)).take k) (i7.take k) cs) (fun _ _ i _=>nd - (intOf i).toNat)
 case atStart=>exact ⟨0,[],.slice none 0 0,.slice none 0 0,by omega,rfl,by simpa using HO.o⟩
 case round =>
  obtain ⟨k,cs,vn,Q,hk,rfl,Y⟩:=hrel;have f:=U Y;clear Y;by_cases hlt:k<nd
  . have K:W.heap.size<=wr.heap.size:=f.o.touch.size;have f6:=f.o.lt;have a:∀i c,i<nd->c<6->wr.cell? ⟨g,i * 6+c,none⟩=some ((qY d'[i]!)[c]!):=fun i c hi hc=>by
     have:=c0.o.cell (i:=i) (c:=c) (by omega) hc;rw [f.o.touch.cell (show g<W.heap.size by omega) (show ¬g=cb by omega)];simpa using this.1
    have y0:=a k 0 hlt (by decide);have y1:=a k 1 hlt (by decide);have y2:=a k 2 hlt (by decide);have y3:=a k 3 hlt (by decide);have y4:=a k 4 hlt (by decide);have y5:=a k 5 hlt (by decide);have e4:=U a;clear a;generalize hmk:d'[k]! = mk at y0 y1 y2 y3 y4 y5;have a3:=U hmk;clear hmk;simp only [qY,Nat.add_zero,List.getElem!_cons_zero,List.getElem!_cons_succ] at y0 y1 y2 y3 y4 y5;rcases Nat.lt_or_ge 0 k with hk0|hk0
    case' inl =>
     have z0:=e4.o (k - 1) 0 (by omega) (by decide);have a4:=U (e5.o (k - 1) (by omega));rw [show k - 1+1=k by omega,a3.o] at a4;generalize d'[k - 1]! = mp at z0 a4;simp only [qY,Nat.add_zero,List.getElem!_cons_zero] at z0;have i0:IntKind.i64.wrap ((k:Int) - 1)=(k:Int) - 1:=N5 _ (by omega);have j0:0<=(k:Int) - 1:=by omega
     have j1:1<=(k:Int):=by omega
     have j2:(k:Int) - 1<(nd:Int):=by omega
     have t0:((k:Int) - 1).toNat=k - 1:=by omega
     have i3:(mp.name.toList == mk.name.toList)=false:=by
      rw [X4,X4];cases hq:(mp.name.data.toList == mk.name.data.toList)
      . rfl
      . exact absurd (ByteArray.ext (Array.toList_inj.1 (eq_of_beq hq))) a4.o
     have g3:g<wr.heap.size:=by omega
     have h8:¬g=wr.heap.size:=by omega
     have i6:(wr.alloc (.cells #[.string mk.name,.int .u8 mk.k,.int .i64 mk.n,.string mk.t,.slice mk.an mk.nn mk.cn,.slice mk.ai mk.ni mk.ci] 102)).cell? ⟨g,(k - 1) * 6,none⟩=some (.string mp.name):=(ql _ g3).trans z0;have f7:decide (0<k)=true:=by simpa using hk0
     go_wp2_with fail
     go_quiet (fail)
    case' inr =>
     have f7:decide (0<k)=false:=by simp;omega
     go_wp2_with fail
     go_quiet (fail)
    all_goals
     have a6:=O0 (O5 wr ((wr.alloc (.cells #[.string mk.name,.int .u8 mk.k,.int .i64 mk.n,.string mk.t,.slice mk.an mk.nn mk.cn,.slice mk.ai mk.ni mk.ci] 102)).drewN nq)) (Below.drewN O4 _);have o:=U (f.o.below a6.o);have H:=O0 (((wr.alloc (.cells #[.string mk.name,.int .u8 mk.k,.int .i64 mk.n,.string mk.t,.slice mk.an mk.nn mk.cn,.slice mk.ai mk.ni mk.ci] 102)).drewN nq).heap[wr.heap.size]?=some (.cells #[.string mk.name,.int .u8 mk.k,.int .i64 mk.n,.string mk.t,.slice mk.an mk.nn mk.cn,.slice mk.ai mk.ni mk.ci] 102 (0,0))) (Z5 wr _);have b1:((wr.alloc (.cells #[.string mk.name,.int .u8 mk.k,.int .i64 mk.n,.string mk.t,.slice mk.an mk.nn mk.cn,.slice mk.ai mk.ni mk.ci] 102)).drewN nq).heap.size=wr.heap.size+1:=by simp
     generalize ((wr.alloc (.cells #[.string mk.name,.int .u8 mk.k,.int .i64 mk.n,.string mk.t,.slice mk.an mk.nn mk.cn,.slice mk.ai mk.ni mk.ci] 102)).drewN nq)=w5 at a6 o H b1 ⊢;clear y0 y1 y2 y3 y4 y5;have c3:w5.cell? ⟨cb,3,none⟩=some vn:=o.o.row.cell (by decide);have f3:w5.frozen? ⟨cb,3,none⟩=false:=o.o.row.frozen 3;have m0:w5.cell? ⟨wr.heap.size,0,none⟩=some (.string mk.name):=by simp [World.cell?,H.o]
     have y:=U (show ((d'.toList.map (·.name)).take k).length=k by simp;omega);have HN:=U (show w5.ownsRow W.heap.size 9 1 vn k (((d'.toList.map (·.name)).take k).map .string) by have:=o.o.names;rwa [y.o] at this);have g7:W.heap.size<=w5.heap.size:=o.o.touch.size;have D:cb<w5.heap.size:=o.o.row.lt;have z:some cb≠vn.ownBlock:=fun e=>by have:=(o.o.names.lt _ e.symm).1;omega
     have c1:=O0 (some wr.heap.size≠vn.ownBlock) (fun e=>by have:=(f.o.names.lt _ e.symm).2;omega);have a7:=U b1;clear b1;go_wp2_with (at_builtin;refine Y1 _ rfl (.tmp 35) (.tmp 38) 23 rfl W.heap.size 9 i2 _ 1 16 M8 g5 h1 h2 h3 rfl (by decide) vn k (((d'.toList.map (·.name)).take k).map .string) rfl (HN.o.alloc _) ⟨w5.heap.size,0,none⟩ 1 1 [.string mk.name] rfl rfl (J9 (cs:=#[.string mk.name]) (t:=9) (fr:=(0,0)) (Z5 w5 _)) (by simp [Value.oneCell']) (by omega) (by unfold maxLen;omega) (by omega) (by simp;omega) (w5.heap.size+1) (by simp) ?_;intro g1 cap2 w6 hown6 hgrow6 hat6 hlt6;have f0:=qA hgrow6 D z c3;have f2:=qE hgrow6 D z f3;have c6:=U hown6;have a2:=U hgrow6;have b3:=U hat6;clear hown6 hgrow6 hat6)
     have l:=U (show ObjAt W (w6.setCell ⟨cb,3,none⟩ (.slice (some ⟨g1,0,none⟩) (k+1) cap2)) cb 26 9 26 (.slice (some ⟨g1,0,none⟩) (k+1) cap2) Q ((d'.toList.map (·.name)).take k ++ [mk.name]) (i7.take k) cs by
      have:=(o.o.below ((Z0 _ _).alloc lz (.cells #[.string mk.name] 9))).name mk.name (g:=g1) (cap:=cap2) a2.o (by rcases b3.o with h|h;exact .inl h;exact .inr (by simp;omega)) (by rw [y.o];exact c6.o);rwa [y.o] at this)
     have p:=U (show (w6.setCell ⟨cb,3,none⟩ (.slice (some ⟨g1,0,none⟩) (k+1) cap2)).heap[wr.heap.size]?=some (.cells #[.string mk.name,.int .u8 mk.k,.int .i64 mk.n,.string mk.t,.slice mk.an mk.nn mk.cn,.slice mk.ai mk.ni mk.ci] 102 (0,0)) by
      rw [Z9 _ _ _ _ (show wr.heap.size≠cb by omega),a2.o.block _ (by have:=a7.o;simp;omega) c1.o,X6 _ _ _ (by have:=a7.o;omega)];exact H.o)
     clear c6 a2 b3 HN c1 o H a6 a7 f0 f2 c3 f3 m0 z D g7 hlt6;generalize (w6.setCell ⟨cb,3,none⟩ (.slice (some ⟨g1,0,none⟩) (k+1) cap2))=w7 at l p ⊢;generalize (Value.slice (some ⟨g1,0,none⟩) (k+1) cap2)=vn7 at l ⊢;have c4:w7.cell? ⟨cb,4,none⟩=some Q:=l.o.row.cell (by decide);have f4:w7.frozen? ⟨cb,4,none⟩=false:=l.o.row.frozen 4;have i5:W.heap.size<=w7.heap.size:=l.o.touch.size;have m1:w7.cell? ⟨wr.heap.size,1,none⟩=some (.int .u8 mk.k):=by simp [World.cell?,p.o]
     have m2:w7.cell? ⟨wr.heap.size,2,none⟩=some (.int .i64 mk.n):=by simp [World.cell?,p.o]
     have m3:w7.cell? ⟨wr.heap.size,3,none⟩=some (.string mk.t):=by simp [World.cell?,p.o]
     have m4:w7.cell? ⟨wr.heap.size,4,none⟩=some (.slice mk.an mk.nn mk.cn):=by simp [World.cell?,p.o]
     have m5:w7.cell? ⟨wr.heap.size,5,none⟩=some (.slice mk.ai mk.ni mk.ci):=by simp [World.cell?,p.o]
     have d7:k<i7.length:=by omega
     obtain ⟨N,b0,a9⟩:=HM.o k d7;rw [a3.o] at N;have a5:=O0 (i7.take (k+1)=i7.take k ++ [i7[k]]) (Z7 d7);have d1:=U (show (d'.toList.map (·.name)).take (k+1)=(d'.toList.map (·.name)).take k ++ [mk.name] by
      have d6:k<d'.size:=by omega
      rw [Z7 (by simpa using d6),<- a3.o];simp [d6])
     have q:=U (show (i7.take k).length=k by simp;omega);generalize i7[k]=it at N b0 a9 a5;have B:=O0 (O5 w w7) (a1.o.trans (l.o.touch.below (by omega) fun j hj e=>by omega));have HI:=U (show w7.ownsRow W.heap.size 26 5 Q k cs by have:=l.o.items;rwa [q.o] at this);have K:cb<w7.heap.size:=l.o.row.lt;have z:some cb≠Q.ownBlock:=fun e=>by have:=(l.o.items.lt _ e.symm).1;omega
     have b5:=U (show Calls Tryz.prog 20 #[.agg #[.int .u8 mk.k,.int .i64 mk.n,.string mk.t,.slice mk.an mk.nn mk.cn,.slice mk.ai mk.ni mk.ci]] w7.drew (fun e x=>∃s v r u,e=.returned (.agg #[.int .u8 it.kind,.int .i64 it.n,.string it.t,.slice s it.names.length v,.slice r it.items.length u])/\Rep x w7.heap.size x.heap.size it (.agg #[.int .u8 it.kind,.int .i64 it.n,.string it.t,.slice s it.names.length v,.slice r it.items.length u])/\O5 w7 x/\w7.heap.size<=x.heap.size/\x.cell? ⟨cb,4,none⟩=some Q/\x.frozen? ⟨cb,4,none⟩=false/\x.ownsRow W.heap.size 26 5 Q k cs) by
      refine (ju it _ w7.drew lo hi b0 (by have:=B.o.size;exact Z3 k0 this) (Rep.below (show Rep w lo hi it _ from N) (B.o.drew) k0 lz lz) a9).mono ?_;rintro e x ⟨s,v,r,u,rfl,M,I⟩;have C:O5 w7 x:=(Z0 _ _).drew.trans I;exact ⟨s,v,r,u,rfl,M,C,C.size,by rw [C.cell K];exact c4,by rw [C.frozen K];exact f4,qV HI.o C⟩)
     clear N b0 a9 B HI;go_wp2_with fail
     go_region_law (first|(refine K9 _ (by rfl) (.tmp 42) (.tmp 46) 24 (by rfl) W.heap.size 26 i1 _ 5 80 K2 g4 h4 h5 h6 rfl (by omega) Q k cs (by rfl) (c2.o.alloc _) ⟨x.heap.size,0,none⟩ 1 1 (Array.toList #[.int .u8 it.kind,.int .i64 it.n,.string it.t,.slice s it.names.length v,.slice r it.items.length u]) (by rfl) (by rfl) (J9 (cs:=#[.int .u8 it.kind,.int .i64 it.n,.string it.t,.slice s it.names.length v,.slice r it.items.length u]) (t:=26) (fr:=(0,0)) (Z5 x _)) (by simp [Value.oneCell']) (by omega) (by unfold maxLen;omega) (by omega) (by simp;omega) (x.heap.size+1) (by simp) ?_;intro g2 cap3 w4 hown4 hgrow4 hat4 hlt4;have f1:=qA hgrow4 X z d2;have f5:=qE hgrow4 X z d3;have c5:=U hown4;have b6:=U hgrow4;have b2:=U hat4;clear hown4 hgrow4 hat4)|(go_simp;go_at_call 20;(with_reducible refine b5.o.mono ?_);rintro e x ⟨s,v,r,u,rfl,M,I,e3,d2,d3,e2⟩;have X:cb<x.heap.size:=X1 K e3;have c2:=U e2;have S:=U M;have R:=U I;clear e2 M I))
     all_goals
      have e8:=U (show ObjAt W (w4.setCell ⟨cb,4,none⟩ (.slice (some ⟨g2,0,none⟩) (k+1) cap3)) cb 26 9 26 vn7 (.slice (some ⟨g2,0,none⟩) (k+1) cap3) ((d'.toList.map (·.name)).take (k+1)) (i7.take (k+1)) _ by
       have:=l.o.item (it:=it) (lo:=w7.heap.size) (hi:=x.heap.size) (g:=g2) (cap:=cap3) (R.o.trans ((Z0 _ _).alloc e3 _)) lz (by simp) (S.o.carry lz lz fun b _ hb=>X6 _ _ _ hb) b6.o (by rcases b2.o with h|h;exact .inl h;exact .inr (by simp;omega)) (by rw [q.o];exact c5.o);rw [q.o,<- a5.o,<- d1.o] at this;exact this)
      clear l R S b6 b2 c5 c2 b5 a5 d1 q c4 f4 m1 m2 m3 m4 m5 d2 d3 f1 f5 p;go_wp2;go_roundw
      case rel=>exact ⟨k+1,_,_,_,by omega,by go_num,e8.o⟩
      case measure=>simp [intOf];omega
  . obtain rfl:k=nd:=by omega
    have e0:(d'.toList.map (·.name)).take k=d'.toList.map (·.name):=J4 (by simp;omega);have e1:i7.take k=i7:=J4 (by omega);rw [e0,e1] at f;have y:=U (show (d'.toList.map (·.name)).length=k by simp;omega);have q:=U (show i7.length=k by omega);obtain ⟨an,cn,ai,ci,rfl,rfl,Z⟩:=f.o.done;have e6:=U Z;have G:=f.o.row;have m:=f.o.touch.row c9.o (by omega);have f6:=f.o.lt;have hz:=f.o.touch.size;rw [y.o,q.o] at G;obtain ⟨r0,r1,r2,r3,r4⟩:=rc5 G;obtain ⟨t0,t1,t2,t3,t4⟩:=rc5 m;obtain ⟨s0,s1,s2,s3,s4⟩:=rf5 m;simp only [qo] at r0 r1 r2 r3 r4 t0 t1 t2 t3 t4;have e7:=U m;have B:=O0 (O5 w wr) (a1.o.trans (f.o.touch.below (by omega) fun j hj e=>by omega));clear G m Z e0 e1 f;go_wp2;refine Z8 (qk Tryz.results48 _ _ w.heap.size 26 _ (0,0) _ rfl (qr (set5 _ _ _ _ _ e7.o)) J7 rfl (by kernel_rfl) _ rfl) rfl ⟨an,cn,ai,ci,?_,?_,zf _ _ _ _ _ B.o lz⟩
    . rw [y.o,q.o];rfl
    . exact Rep.carry (by omega) (show wr.heap.size<=_ by simp [World.setCell]) (fun j hj _=>xJ _ _ _ _ _ (by omega)) _ _ e6.o
theorem mG (d c:Array Mem) (a:List JV) (b e cap:Nat) (w:World) (lo hi:Nat) (p:HoldsK qY 6 w b e d) (f:b<w.heap.size) (j:d.size<=12) (o:insertionSort (ltOf cfM) d 0 d.size=c)
 (q:c.size=a.length) (r:∀i (h:i<a.length),Rep w lo hi a[i] c[i]!.val/\a[i].wt<=4294967296/\∀k (s:k<a[i].items.length),cV lo a[i].items[k])
 (m:∀i,i+1<c.size->c[i]!.name≠c[i+1]!.name) (l:hi<=w.heap.size) :
 Calls Tryz.prog 48 #[.slice (some ⟨b,e,none⟩) d.size cap] w (gy (c.toList.map (·.name)) a w) :=
 ye d c a b e cap w lo hi p f (by omega) (by rw [<- o];exact kX _ _ _ _) (fun g cap1 w1 hH1 hg1=>by
  have:=oX g 0 cap1 d w1 hH1 hg1 j;rw [o] at this;exact this) q r m l
