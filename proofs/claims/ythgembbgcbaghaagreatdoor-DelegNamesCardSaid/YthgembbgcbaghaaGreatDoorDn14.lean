import Derived.Test.YthgembbgcbaghaaGreatDoorDn12
set_option maxHeartbeats 400000
set_option maxRecDepth 100000

namespace Go.Proofs.YthgembbgcbaghaaGreatDoor
open Go.RowKit Go.Shelf Go.Sort
def wR (ns:List ByteArray) (its:List JV) (w:World) (e:Ending) (w':World):Prop :=
 ∃an cn ai ci,e=.returned (.tuple #[.agg #[.int .u8 5,.int .i64 0,.string ⟨#[]⟩,.slice an ns.length cn,.slice ai its.length ci],.int .i64 0]) /\
  Rep w' w.heap.size w'.heap.size (.mk 5 0 ⟨#[]⟩ ns its) (.agg #[.int .u8 5,.int .i64 0,.string ⟨#[]⟩,.slice an ns.length cn,.slice ai its.length ci])/\O5 w w'
theorem gr:(Tryz.prog.info? 9).map (fun i=>(i.zero,i.size,i.bytes))=some (some (.string ⟨#[]⟩),1,16):=by kernel_rfl
theorem wv (d d':Array Mem) (i9:List JV) (j3 k1 cap:Nat) (w:World) (lo hi:Nat) (hH:HoldsK qU 6 w j3 k1 d) (k0:j3<w.heap.size) (k4:d.size<=4294967296) (k5:d'.size=d.size)
 (hs:∀g cap1 w1,HoldsK qU 6 w1 g 0 d->g<w1.heap.size->Calls Tryz.prog 206 #[.slice (some ⟨g,0,none⟩) d.size cap1,.func (.func 207) #[] #[]] w1 fun e w'=>e=.returned (.tuple #[])/\HoldsK qU 6 w' g 0 d'/\Touch (· = g) w1 w')
 (hl:d'.size=i9.length) (hm:∀i (h:i<i9.length),Rep w lo hi i9[i] d'[i]!.val/\i9[i].wt<=4294967296/\∀k (h':k<i9[i].items.length),uy lo i9[i].items[k])
 (k3:∀i,i+1<d'.size->d'[i]!.name≠d'[i+1]!.name) (k2:hi<=w.heap.size) :
 Calls Tryz.prog 150 #[.slice (some ⟨j3,k1,none⟩) d.size cap] w (wR (d'.toList.map (·.name)) i9 w):=by
 have HH:=U hH;have HS:=U hs;have HM:=U hm;have e3:=U k3;clear hH hs hm k3;go_enter Tryz.func150,Tryz.ntmps150;go_wp2_with fail
 have m:=qt w (.int .u8 0) (.int .i64 0) (.string ⟨#[]⟩) (.slice none 0 0) (.slice none 0 0) 25;have a0:=O0 (O5 w (w.alloc (.cells #[.int .u8 0,.int .i64 0,.string ⟨#[]⟩,.slice none 0 0,.slice none 0 0] 25))) O4;have HC:=U (rN j3 k1 cap d (w.alloc (.cells #[.int .u8 0,.int .i64 0,.string ⟨#[]⟩,.slice none 0 0,.slice none 0 0] 25)) (fun j hj=>by
  have:=HH.o j hj;exact ⟨(qX _ k0).trans this.1,by rw [a0.o.frozen (by exact k0)];exact this.2⟩) (by omega))
 refine HC.o.mono ?_;clear HC;rintro e w1 ⟨g,cap1,rfl,hg,f5,d2,a8⟩;have i5:w.heap.size<g:=by simp at hg;omega
 have T:O5 w w1:=a0.o.trans (a8.mono (by simp));have E:=qw a8 m (by simp);have c7:=U (HS.o g cap1 w1 d2 f5);clear d2 a8 m;go_wp2_with fail
 refine c7.o.mono ?_;clear c7;rintro e A ⟨rfl,d3,P⟩;have h6:w1.heap.size<=A.heap.size:=P.size;have V:O5 w A:=T.trans (P.below (by omega) fun k hk e=>by omega);have F:=P.row E (by omega);have b7:=U d3;have b4:=U V;have c5:=U F;clear d3 V F E P T a0;obtain ⟨nd,L⟩:=O1 d.size;rw [<- L];rw [<- L] at k5 k4;have i3:=U L;clear L;go_wp2;have HO:=U (show ObjAt (A.alloc (.cells #[.int .u8 5,.int .i64 0,.string ⟨#[]⟩,.slice none 0 0,.slice none 0 0] 25)) (A.alloc (.cells #[.int .u8 5,.int .i64 0,.string ⟨#[]⟩,.slice none 0 0,.slice none 0 0] 25)) A.heap.size 25 9 25 (.slice none 0 0) (.slice none 0 0) [] [] [] from
  ⟨by simp,Touch.refl _ _,qt _ _ _ _ _ _ _,Y0 _ _ _ _,Y0 _ _ _ _,q6.nil _ _ _,fun b hb=>by simp [Value.ownBlock] at hb⟩)
 have J:O5 A (A.alloc (.cells #[.int .u8 5,.int .i64 0,.string ⟨#[]⟩,.slice none 0 0,.slice none 0 0] 25)):=O4;have a1:=U (b4.o.trans (J.mono (by omega)));have c6:=U (qw J c5.o (by omega));have b8:=U (show HoldsK qU 6 (A.alloc (.cells #[.int .u8 5,.int .i64 0,.string ⟨#[]⟩,.slice none 0 0,.slice none 0 0] 25)) g 0 d' from fun j hj=>by
  have:=b7.o j hj;exact ⟨(qX _ (by show g<_;omega)).trans this.1,by rw [J.frozen (by show g<_;omega)];exact this.2⟩)
 have f6:g<A.heap.size:=by omega
 have g5:w.heap.size<A.heap.size:=by omega
 clear b4 c5 b7 J;generalize (A.alloc (.cells #[.int .u8 5,.int .i64 0,.string ⟨#[]⟩,.slice none 0 0,.slice none 0 0] 25))=W at HO a1 c6 b8 ⊢;clear h6;generalize A.heap.size=cb at HO f6 g5 ⊢;obtain ⟨i1,g0,h3,h4,h5⟩:=V2 xY;obtain ⟨i2,g3,h0,h1,h2⟩:=V2 gr;go_loopw [6,7,15] (fun _ _ i wr=>∃(k:Nat) (cs:List Value) (vn Q:Value),k<=nd/\i=.int .i64 k/\ObjAt W wr cb 25 9 25 vn Q ((d'.toList.map (·.name)).take k) (i9.take k) cs) (fun _ _ i _=>nd - (intOf i).toNat)
 case atStart=>exact ⟨0,[],.slice none 0 0,.slice none 0 0,by omega,rfl,by simpa using HO.o⟩
 case round =>
  obtain ⟨k,cs,vn,Q,hk,rfl,Y⟩:=hrel;have f:=U Y;clear Y;by_cases hlt:k<nd
  . have K:W.heap.size<=wr.heap.size:=f.o.touch.size;have f1:=f.o.lt;have a:∀i c,i<nd->c<6->wr.cell? ⟨g,i * 6+c,none⟩=some ((qU d'[i]!)[c]!):=fun i c hi hc=>by
     have:=b8.o.cell (i:=i) (c:=c) (by omega) hc;rw [f.o.touch.cell (show g<W.heap.size by omega) (show ¬g=cb by omega)];simpa using this.1
    have y0:=a k 0 hlt (by decide);have y1:=a k 1 hlt (by decide);have y2:=a k 2 hlt (by decide);have y3:=a k 3 hlt (by decide);have y4:=a k 4 hlt (by decide);have y5:=a k 5 hlt (by decide);have e2:=U a;clear a;generalize hmk:d'[k]! = mk at y0 y1 y2 y3 y4 y5;have a3:=U hmk;clear hmk;simp only [qU,Nat.add_zero,List.getElem!_cons_zero,List.getElem!_cons_succ] at y0 y1 y2 y3 y4 y5;rcases Nat.lt_or_ge 0 k with hk0|hk0
    case' inl =>
     have z0:=e2.o (k - 1) 0 (by omega) (by decide);have a4:=U (e3.o (k - 1) (by omega));rw [show k - 1+1=k by omega,a3.o] at a4;generalize d'[k - 1]! = mp at z0 a4;simp only [qU,Nat.add_zero,List.getElem!_cons_zero] at z0;have i0:IntKind.i64.wrap ((k:Int) - 1)=(k:Int) - 1:=G0 _ (by omega);have j0:0<=(k:Int) - 1:=by omega
     have j1:1<=(k:Int):=by omega
     have j2:(k:Int) - 1<(nd:Int):=by omega
     have t0:((k:Int) - 1).toNat=k - 1:=by omega
     have i4:(mp.name.toList == mk.name.toList)=false:=by
      rw [J3,J3];cases hq:(mp.name.data.toList == mk.name.data.toList)
      . rfl
      . exact absurd (ByteArray.ext (Array.toList_inj.1 (eq_of_beq hq))) a4.o
     have f7:g<wr.heap.size:=by omega
     have h7:¬g=wr.heap.size:=by omega
     have i7:(wr.alloc (.cells #[.string mk.name,.int .u8 mk.k,.int .i64 mk.n,.string mk.t,.slice mk.an mk.nn mk.cn,.slice mk.ai mk.ni mk.ci] 169)).cell? ⟨g,(k - 1) * 6,none⟩=some (.string mp.name):=(qX _ f7).trans z0;have f2:decide (0<k)=true:=by simpa using hk0
     go_wp2_with fail
     go_quiet (fail)
    case' inr =>
     have f2:decide (0<k)=false:=by simp;omega
     go_wp2_with fail
     go_quiet (fail)
    all_goals
     have a6:=O0 (O5 wr ((wr.alloc (.cells #[.string mk.name,.int .u8 mk.k,.int .i64 mk.n,.string mk.t,.slice mk.an mk.nn mk.cn,.slice mk.ai mk.ni mk.ci] 169)).drewN nq)) (Below.drewN O4 _);have o:=U (f.o.below a6.o);have H:=O0 (((wr.alloc (.cells #[.string mk.name,.int .u8 mk.k,.int .i64 mk.n,.string mk.t,.slice mk.an mk.nn mk.cn,.slice mk.ai mk.ni mk.ci] 169)).drewN nq).heap[wr.heap.size]?=some (.cells #[.string mk.name,.int .u8 mk.k,.int .i64 mk.n,.string mk.t,.slice mk.an mk.nn mk.cn,.slice mk.ai mk.ni mk.ci] 169 (0,0))) (Z4 wr _);have b1:((wr.alloc (.cells #[.string mk.name,.int .u8 mk.k,.int .i64 mk.n,.string mk.t,.slice mk.an mk.nn mk.cn,.slice mk.ai mk.ni mk.ci] 169)).drewN nq).heap.size=wr.heap.size+1:=by simp
     generalize ((wr.alloc (.cells #[.string mk.name,.int .u8 mk.k,.int .i64 mk.n,.string mk.t,.slice mk.an mk.nn mk.cn,.slice mk.ai mk.ni mk.ci] 169)).drewN nq)=w5 at a6 o H b1 ⊢;clear y0 y1 y2 y3 y4 y5;have c3:w5.cell? ⟨cb,3,none⟩=some vn:=o.o.row.cell (by decide);have f3:w5.frozen? ⟨cb,3,none⟩=false:=o.o.row.frozen 3;have m0:w5.cell? ⟨wr.heap.size,0,none⟩=some (.string mk.name):=by simp [World.cell?,H.o]
     have y:=U (show ((d'.toList.map (·.name)).take k).length=k by simp;omega);have HN:=U (show w5.ownsRow W.heap.size 9 1 vn k (((d'.toList.map (·.name)).take k).map .string) by have:=o.o.names;rwa [y.o] at this);have g4:W.heap.size<=w5.heap.size:=o.o.touch.size;have D:cb<w5.heap.size:=o.o.row.lt;have z:some cb≠vn.ownBlock:=fun e=>by have:=(o.o.names.lt _ e.symm).1;omega
     have b9:=O0 (some wr.heap.size≠vn.ownBlock) (fun e=>by have:=(f.o.names.lt _ e.symm).2;omega);have a7:=U b1;clear b1;go_wp2_with (at_builtin;refine X9 _ rfl (.tmp 35) (.tmp 38) 22 rfl W.heap.size 9 i2 _ 1 16 M0 g3 h0 h1 h2 rfl (by decide) vn k (((d'.toList.map (·.name)).take k).map .string) rfl (HN.o.alloc _) ⟨w5.heap.size,0,none⟩ 1 1 [.string mk.name] rfl rfl (J5 (cs:=#[.string mk.name]) (t:=9) (fr:=(0,0)) (Z4 w5 _)) (by simp [Value.oneCell']) (by omega) (by unfold maxLen;omega) (by omega) (by simp;omega) (w5.heap.size+1) (by simp) ?_;intro g1 cap2 w6 hown6 hgrow6 hat6 hlt6;have e7:=zw hgrow6 D z c3;have e9:=zf hgrow6 D z f3;have c2:=U hown6;have a2:=U hgrow6;have b3:=U hat6;clear hown6 hgrow6 hat6)
     have l:=U (show ObjAt W (w6.setCell ⟨cb,3,none⟩ (.slice (some ⟨g1,0,none⟩) (k+1) cap2)) cb 25 9 25 (.slice (some ⟨g1,0,none⟩) (k+1) cap2) Q ((d'.toList.map (·.name)).take k ++ [mk.name]) (i9.take k) cs by
      have:=(o.o.below ((Z0 _ _).alloc lz (.cells #[.string mk.name] 9))).name mk.name (g:=g1) (cap:=cap2) a2.o (by rcases b3.o with h|h;exact .inl h;exact .inr (by simp;omega)) (by rw [y.o];exact c2.o);rwa [y.o] at this)
     have p:=U (show (w6.setCell ⟨cb,3,none⟩ (.slice (some ⟨g1,0,none⟩) (k+1) cap2)).heap[wr.heap.size]?=some (.cells #[.string mk.name,.int .u8 mk.k,.int .i64 mk.n,.string mk.t,.slice mk.an mk.nn mk.cn,.slice mk.ai mk.ni mk.ci] 169 (0,0)) by
      rw [Q5 _ _ _ _ (show wr.heap.size≠cb by omega),a2.o.block _ (by have:=a7.o;simp;omega) b9.o,J8 _ _ _ (by have:=a7.o;omega)];exact H.o)
     clear c2 a2 b3 HN b9 o H a6 a7 e7 e9 c3 f3 m0 z D g4 hlt6;generalize (w6.setCell ⟨cb,3,none⟩ (.slice (some ⟨g1,0,none⟩) (k+1) cap2))=w7 at l p ⊢;generalize (Value.slice (some ⟨g1,0,none⟩) (k+1) cap2)=vn7 at l ⊢;have c4:w7.cell? ⟨cb,4,none⟩=some Q:=l.o.row.cell (by decide);have f4:w7.frozen? ⟨cb,4,none⟩=false:=l.o.row.frozen 4;have i6:W.heap.size<=w7.heap.size:=l.o.touch.size;have m1:w7.cell? ⟨wr.heap.size,1,none⟩=some (.int .u8 mk.k):=by simp [World.cell?,p.o]
     have m2:w7.cell? ⟨wr.heap.size,2,none⟩=some (.int .i64 mk.n):=by simp [World.cell?,p.o]
     have m3:w7.cell? ⟨wr.heap.size,3,none⟩=some (.string mk.t):=by simp [World.cell?,p.o]
     have m4:w7.cell? ⟨wr.heap.size,4,none⟩=some (.slice mk.an mk.nn mk.cn):=by simp [World.cell?,p.o]
     have m5:w7.cell? ⟨wr.heap.size,5,none⟩=some (.slice mk.ai mk.ni mk.ci):=by simp [World.cell?,p.o]
     have d5:k<i9.length:=by omega
     obtain ⟨N,b0,a9⟩:=HM.o k d5;rw [a3.o] at N;have a5:=O0 (i9.take (k+1)=i9.take k ++ [i9[k]]) (Z8 d5);have c9:=U (show (d'.toList.map (·.name)).take (k+1)=(d'.toList.map (·.name)).take k ++ [mk.name] by
      have d4:k<d'.size:=by omega
      rw [Z8 (by simpa using d4),<- a3.o];simp [d4])
     have q:=U (show (i9.take k).length=k by simp;omega);generalize i9[k]=it at N b0 a9 a5;have B:=O0 (O5 w w7) (a1.o.trans (l.o.touch.below (by omega) fun j hj e=>by omega));have HI:=U (show w7.ownsRow W.heap.size 25 5 Q k cs by have:=l.o.items;rwa [q.o] at this);have K:cb<w7.heap.size:=l.o.row.lt;have z:some cb≠Q.ownBlock:=fun e=>by have:=(l.o.items.lt _ e.symm).1;omega
     have b5:=U (show Calls Tryz.prog 91 #[.agg #[.int .u8 mk.k,.int .i64 mk.n,.string mk.t,.slice mk.an mk.nn mk.cn,.slice mk.ai mk.ni mk.ci]] w7.drew (fun e x=>∃s v r u,e=.returned (.agg #[.int .u8 it.kind,.int .i64 it.n,.string it.t,.slice s it.names.length v,.slice r it.items.length u])/\Rep x w7.heap.size x.heap.size it (.agg #[.int .u8 it.kind,.int .i64 it.n,.string it.t,.slice s it.names.length v,.slice r it.items.length u])/\O5 w7 x/\w7.heap.size<=x.heap.size/\x.cell? ⟨cb,4,none⟩=some Q/\x.frozen? ⟨cb,4,none⟩=false/\x.ownsRow W.heap.size 25 5 Q k cs) by
      refine (vP it _ w7.drew lo hi b0 (by have:=B.o.size;exact Z5 k2 this) (Rep.below (show Rep w lo hi it _ from N) (B.o.drew) k2 lz lz) a9).mono ?_;rintro e x ⟨s,v,r,u,rfl,M,I⟩;have C:O5 w7 x:=(Z0 _ _).drew.trans I;exact ⟨s,v,r,u,rfl,M,C,C.size,by rw [C.cell K];exact c4,by rw [C.frozen K];exact f4,qE HI.o C⟩)
     clear N b0 a9 B HI;go_wp2_with fail
     go_region_law (first|(refine N5 _ (by rfl) (.tmp 42) (.tmp 46) 23 (by rfl) W.heap.size 25 i1 _ 5 80 W8 g0 h3 h4 h5 rfl (by omega) Q k cs (by rfl) (c0.o.alloc _) ⟨x.heap.size,0,none⟩ 1 1 (Array.toList #[.int .u8 it.kind,.int .i64 it.n,.string it.t,.slice s it.names.length v,.slice r it.items.length u]) (by rfl) (by rfl) (J5 (cs:=#[.int .u8 it.kind,.int .i64 it.n,.string it.t,.slice s it.names.length v,.slice r it.items.length u]) (t:=25) (fr:=(0,0)) (Z4 x _)) (by simp [Value.oneCell']) (by omega) (by unfold maxLen;omega) (by omega) (by simp;omega) (x.heap.size+1) (by simp) ?_;intro g2 cap3 w4 hown4 hgrow4 hat4 hlt4;have e8:=zw hgrow4 X z d0;have f0:=zf hgrow4 X z d1;have c1:=U hown4;have b6:=U hgrow4;have b2:=U hat4;clear hown4 hgrow4 hat4)|(go_simp;go_at_call 91;(with_reducible refine b5.o.mono ?_);rintro e x ⟨s,v,r,u,rfl,M,I,e1,d0,d1,e0⟩;have X:cb<x.heap.size:=J7 K e1;have c0:=U e0;have S:=U M;have R:=U I;clear e0 M I))
     all_goals
      have e6:=U (show ObjAt W (w4.setCell ⟨cb,4,none⟩ (.slice (some ⟨g2,0,none⟩) (k+1) cap3)) cb 25 9 25 vn7 (.slice (some ⟨g2,0,none⟩) (k+1) cap3) ((d'.toList.map (·.name)).take (k+1)) (i9.take (k+1)) _ by
       have:=l.o.item (it:=it) (lo:=w7.heap.size) (hi:=x.heap.size) (g:=g2) (cap:=cap3) (R.o.trans ((Z0 _ _).alloc e1 _)) lz (by simp) (S.o.carry lz lz fun b _ hb=>J8 _ _ _ hb) b6.o (by rcases b2.o with h|h;exact .inl h;exact .inr (by simp;omega)) (by rw [q.o];exact c1.o);rw [q.o,<- a5.o,<- c9.o] at this;exact this)
      clear l R S b6 b2 c1 c0 b5 a5 c9 q c4 f4 m1 m2 m3 m4 m5 d0 d1 e8 f0 p;go_wp2;go_roundw
      case rel=>exact ⟨k+1,_,_,_,by omega,by go_num,e6.o⟩
      case measure=>simp [intOf];omega
  . obtain rfl:k=nd:=by omega
    have d6:(d'.toList.map (·.name)).take k=d'.toList.map (·.name):=Q4 (by simp;omega);have d7:i9.take k=i9:=Q4 (by omega);rw [d6,d7] at f;have y:=U (show (d'.toList.map (·.name)).length=k by simp;omega);have q:=U (show i9.length=k by omega);obtain ⟨an,cn,ai,ci,rfl,rfl,Z⟩:=f.o.done;have e4:=U Z;have G:=f.o.row;have m:=f.o.touch.row c6.o (by omega);have f1:=f.o.lt;have hz:=f.o.touch.size;rw [y.o,q.o] at G;obtain ⟨r0,r1,r2,r3,r4⟩:=rc5 G;obtain ⟨t0,t1,t2,t3,t4⟩:=rc5 m;obtain ⟨s0,s1,s2,s3,s4⟩:=rf5 m;simp only [qB] at r0 r1 r2 r3 r4 t0 t1 t2 t3 t4;have e5:=U m;have B:=O0 (O5 w wr) (a1.o.trans (f.o.touch.below (by omega) fun j hj e=>by omega));clear G m Z d6 d7 f;go_wp2;refine Q3 (qb Tryz.results150 _ _ w.heap.size 25 _ (0,0) _ rfl (qJ (set5 _ _ _ _ _ e5.o)) Q6 rfl (by kernel_rfl) _ rfl) rfl ⟨an,cn,ai,ci,?_,?_,zn _ _ _ _ _ B.o lz⟩
    . rw [y.o,q.o];rfl
    . exact Rep.carry (by omega) (show wr.heap.size<=_ by simp [World.setCell]) (fun j hj _=>js _ _ _ _ _ (by omega)) _ _ e4.o
theorem fG (d c:Array Mem) (a:List JV) (b e cap:Nat) (w:World) (lo hi:Nat) (p:HoldsK qU 6 w b e d) (f:b<w.heap.size) (j:d.size<=12) (o:insertionSort (ltOf cfM) d 0 d.size=c)
 (q:c.size=a.length) (r:∀i (h:i<a.length),Rep w lo hi a[i] c[i]!.val/\a[i].wt<=4294967296/\∀k (s:k<a[i].items.length),uy lo a[i].items[k])
 (m:∀i,i+1<c.size->c[i]!.name≠c[i+1]!.name) (l:hi<=w.heap.size) :
 Calls Tryz.prog 150 #[.slice (some ⟨b,e,none⟩) d.size cap] w (wR (c.toList.map (·.name)) a w) :=
 wv d c a b e cap w lo hi p f (by omega) (by rw [<- o];exact jH _ _ _ _) (fun g cap1 w1 hH1 hg1=>by
  have:=sR g 0 cap1 d w1 hH1 hg1 j;rw [o] at this;exact this) q r m l
