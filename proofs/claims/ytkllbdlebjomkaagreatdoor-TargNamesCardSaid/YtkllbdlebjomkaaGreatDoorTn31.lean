import Derived.Test.YtkllbdlebjomkaaGreatDoorTn30
import Derived.Test.YtkllbdlebjomkaaGreatDoorTn24
set_option maxHeartbeats 4000000
set_option maxRecDepth 100000

namespace Go.Proofs.YtkllbdlebjomkaaGreatDoor
open Go.RowKit Go.Shelf Go.Sort
theorem iH (l:List Key2) (a:Option Addr) (c:Nat) (w:World) (hK:qJ w 0 w.heap.size a l) (hl:l.length<=4294967) (hs:∀k ∈ l,k.1.size<=300/\k.2.size<=300) (hT:Tabs w) :
 Calls Tryz.prog 112 #[.slice a l.length c] w (o9 l w):=by
 have HK:=U hK;have HS:=U hs;have HT:=U hT;clear hK hs hT;have m2:=U (qg w (.int .u8 0) (.int .i64 0) (.string ⟨#[]⟩) (.slice none 0 0) (.slice none 0 0) 26);have f7:=O0 (O5 w (w.alloc (.cells #[.int .u8 0,.int .i64 0,.string ⟨#[]⟩,.slice none 0 0,.slice none 0 0] 26))) O4;by_cases h32:l.length<=32
 case neg =>
  have c9:decide (32<l.length)=true:=by simp;omega
  have d0:decide (32<(l.length:Int))=true:=by simp;omega
  have HE:=U (show yc l=5 by unfold yc;rw [J3 (by omega)]);go_enter Tryz.func112,Tryz.ntmps112;go_wp2;refine Z8 (qk Tryz.results112 _ _ w.heap.size 26 _ (0,0) _ rfl (Z5 w _) J7 rfl (by kernel_rfl) _ rfl) rfl (.inl ⟨by rw [HE.o];decide,by rw [HE.o];rfl,f7.o⟩)
 have c9:decide (32<l.length)=false:=by simp;omega
 have d0:decide (32<(l.length:Int))=false:=by simp;omega
 have HE:=U (show yc l=jo [] l by unfold yc;rw [Z6 (by omega)]);obtain ⟨i3,n6,q6,q7,q8⟩:=V2 aa;go_enter Tryz.func112,Tryz.ntmps112;go_wp2;go_loopw [4,6,7,8,10,20] (fun v _ _ _ _ i wr=>∃(k:Nat) (P:List (Mem × Key2)),k<=l.length/\i=.int .i64 k/\TabAt w wr v l k P) (fun _ _ _ _ _ i _=>l.length - (intOf i).toNat)
 case atStart=>exact ⟨0,[],by omega,rfl,f7.o,m2.o,Y3 _ _ _ _,xr.nil _ _ _,by simp,by simp [ids]⟩
 case round =>
  obtain ⟨k,P,hk,rfl,hA⟩:=hrel;have HA:=U hA;have v4:w.heap.size<wr.heap.size:=hA.res.lt;by_cases hlt:k<l.length
  . obtain ⟨b,k4,ha,_,hb,e0,e1⟩:=(HK.o.below hA.below lz lz hA.below.size).at k hlt;subst ha;obtain ⟨c5,c6⟩:=HS.o l[k] (J8 hlt);have b7:=U (pz l k hlt);have l3:=U hlt;obtain ⟨x,hx⟩:=O1 (l[k]);have HX:=U hx;replace e0:=e0.trans (J6 (fun z:Key2=>some (Value.string z.1)) hx.symm);replace e1:=e1.trans (J6 (fun z:Key2=>some (Value.string z.2)) hx.symm);replace c5:x.1.size<=300:=hx ▸ c5;replace c6:x.2.size<=300:=hx ▸ c6;replace b7:=O0 (jo (ids (l.take k)) (l.drop k)=if ok2 x then (if jg (ids (l.take k)) (id2 x) then 7 else jo (ids (l.take (k+1))) (l.drop (k+1))) else 3) (hx ▸ b7.o);clear hx hA;obtain ⟨xs,xp⟩:=x;replace c5:xs.size<=300:=c5;replace c6:xp.size<=300:=c6;replace e0:wr.cell? ⟨b,k4+k * 2,none⟩=some (.string xs):=e0;replace e1:wr.cell? ⟨b,k4+k * 2+1,none⟩=some (.string xp):=e1;have e3:=O0 (O5 wr (wr.alloc (.cells #[.string xs,.string xp] 156))) O4;have h7:=U ((HT.o.below HA.o.below).below e3.o);cases hok:zA xs.data.toList xp.data.toList
    . have B:=U (rU xs xp (wr.alloc (.cells #[.string xs,.string xp] 156)) (by omega) (by omega) h7.o hok);have I:=U (show yc l=3 by rw [HE.o,HA.o.err,b7.o];unfold ok2;rw [Z6 (by simp [hok])]);clear hok;unfold eS at B;go_wp2_with fail;refine B.o.mono ?_;clear B;rintro e A ⟨rfl,X⟩;have J:=e3.o.trans (X.mono (by simp));have u:=J.alloc J.size (.cells #[.string ⟨#[]⟩,.int .u8 0,.int .i64 0,.string ⟨#[]⟩,.slice none 0 0,.slice none 0 0] 202);have Q:=U (HA.o.later u);have f:=Q.o.res;obtain ⟨t0,t1,t2,t3,t4⟩:=rc5 f;obtain ⟨s0,s1,s2,s3,s4⟩:=rf5 f;simp only [qo] at t0 t1 t2 t3 t4;clear f X J u;go_wp2;refine Z8 (qk Tryz.results112 _ _ w.heap.size 26 _ (0,0) _ rfl (qr (set5 _ _ _ _ _ Q.o.res)) J7 rfl (by kernel_rfl) _ rfl) rfl (.inl ⟨by rw [I.o];decide,by rw [I.o];rfl,zf _ _ _ _ _ Q.o.below lz⟩)
    . have B:=U (lg xs xp (wr.alloc (.cells #[.string xs,.string xp] 156)) (by omega) (by omega) h7.o hok);have h5:=U hok;clear hok;unfold rH at B;obtain ⟨p,e7⟩:=O1 (sH xs xp);rw [<- e7] at B;have e5:=U e7;clear e7;go_wp2_with fail;refine B.o.mono ?_;clear B;rintro e A ⟨E,G,D,F,rfl,k2,X⟩;have J:=e3.o.trans (X.mono (by simp));have v5:wr.heap.size+1<=A.heap.size:=by have:=X.size;simpa using this
      obtain ⟨W1,V⟩:=O1 (A.alloc (.cells #[.string p,.int .u8 5,.int .i64 0,.string ⟨#[]⟩,.slice E 2 G,.slice D 2 F] 202));have u:O5 wr W1:=by rw [V];exact J.alloc J.size _
      have e2:=U u;have Q:=U (HA.o.later u);have m6:=U (show W1.heap[A.heap.size]?=some (.cells #[.string p,.int .u8 5,.int .i64 0,.string ⟨#[]⟩,.slice E 2 G,.slice D 2 F] 202 (0,0)) by rw [V];exact Z5 A _);have m3:=U (show Rep W1 (wr.heap.size+1) A.heap.size (yN xs xp) (.agg #[.int .u8 5,.int .i64 0,.string ⟨#[]⟩,.slice E 2 G,.slice D 2 F]) by
       rw [V];exact Rep.carry (by simp) lz (fun b _ h=>X6 _ _ _ h) _ _ k2)
      have i5:W1.heap.size=A.heap.size+1:=by rw [V];simp
      have i4:=U i5;obtain ⟨av,cap,rfl,c7⟩:=HA.o.sliced hk;have j1:P.length=k:=HA.o.len hk;have i0:=U V;clear V u J k2 X e0 e1 c7 i5;obtain ⟨wo,rfl⟩:∃wo:World,wo=wr:=⟨_,rfl⟩;go_wp2_with fail;rw [<- i0.o];clear i0;go_loopw [10,35] (fun _ i wr=>∃j:Nat,j<=k/\i=.int .i64 j/\(∀q (hq:q<P.length),q<j->(P[q].1.name.toList == p.toList)=false)/\O5 W1 wr) (fun _ i _=>k - (intOf i).toNat)
      case atStart=>exact ⟨0,by omega,rfl,fun q _ h=>by omega,Z0 _ _⟩
      case round =>
       obtain ⟨j,hj,rfl,k0,c0⟩:=hrel;have h4:=U k0;have a2:=U c0;have a0:=U (Q.o.later c0);have s:wr.heap[A.heap.size]?=some (.cells #[.string p,.int .u8 5,.int .i64 0,.string ⟨#[]⟩,.slice E 2 G,.slice D 2 F] 202 (0,0)):=by rw [c0.block _ (by rw [i4.o];omega)];exact m6.o
       have s5:=U s;have q5:A.heap.size<wr.heap.size:=qz s;have x0:=qq s (j:=0) rfl;clear k0 c0;by_cases hjk:j<k
       . have K:j<P.length:=by omega
         obtain ⟨g,ha,v1,i7,d⟩:∃g,av=some ⟨g,0,none⟩/\w.heap.size<g/\g<wr.heap.size/\∀j c (hj:j<P.length),c<6->wr.cell? ⟨g,j * 6+c,none⟩=some ((qY P[j].1)[c]!):=by
          obtain ⟨s6,r5,hv,hc⟩:=a0.o.sliced hk;simp only [Y2,za5] at hv;obtain ⟨rfl,rfl⟩:=hv;rcases hc with ⟨h0,_⟩|hc
          . omega
          . exact hc
         subst ha;have y0:=d j 0 K (by decide);have y1:=d j 1 K (by decide);have y2:=d j 2 K (by decide);have y3:=d j 3 K (by decide);have y4:=d j 4 K (by decide);have y5:=d j 5 K (by decide);have a9:=U (a0.o.hit p j K);have b0:=U (show (P[j].1.name.toList == p.toList)=false->∀q (hq:q<P.length),q<j+1->(P[q].1.name.toList == p.toList)=false from fun h q hq hqj=>by
          by_cases e:q=j
          . subst e;exact h
          . exact h4.o q hq (by omega))
         clear d s;generalize P[j].1=mj at y0 y1 y2 y3 y4 y5 a9 b0;simp only [qY,Nat.add_zero,List.getElem!_cons_zero,List.getElem!_cons_succ] at y0 y1 y2 y3 y4 y5;have v6:(wr.alloc (.cells #[.string mj.name,.int .u8 mj.k,.int .i64 mj.n,.string mj.t,.slice mj.an mj.nn mj.cn,.slice mj.ai mj.ni mj.ci] 202)).cell? ⟨A.heap.size,0,none⟩=some (.string p):=(ql _ q5).trans x0;have f8:=O0 (O5 W1 (wr.alloc (.cells #[.string mj.name,.int .u8 mj.k,.int .i64 mj.n,.string mj.t,.slice mj.an mj.nn mj.cn,.slice mj.ai mj.ni mj.ci] 202))) (a2.o.alloc a2.o.size _);have d7:=U (Q.o.later f8.o);have n1:(0:Int)<=(j:Int):=by omega
         have n2:(j:Int)<(k:Int):=by omega
         cases hq:(mj.name.toList == p.toList)
         . have e6:=U (b0.o hq);clear a9 b0;go_wp2;go_roundw
           case rel=>exact ⟨j+1,by omega,by go_num,e6.o,f8.o⟩
           case measure=>simp [intOf];omega
         . have I:=U (show yc l=7 by
            rw [HE.o,HA.o.err,b7.o];unfold ok2 id2;rw [J3 h5.o,J3 (by have:=a9.o hq;rw [e5.o] at this;exact this)])
           have f:=d7.o.res;obtain ⟨t0,t1,t2,t3,t4⟩:=rc5 f;obtain ⟨s0,s1,s2,s3,s4⟩:=rf5 f;simp only [qo] at t0 t1 t2 t3 t4;clear f a9 b0;go_wp2;refine Z8 (qk Tryz.results112 _ _ w.heap.size 26 _ (0,0) _ rfl (qr (set5 _ _ _ _ _ d7.o.res)) J7 rfl (by kernel_rfl) _ rfl) rfl (.inl ⟨by rw [I.o];decide,by rw [I.o];rfl,zf _ _ _ _ _ d7.o.below lz⟩)
       . have l0:=U (a0.o.fresh p (fun q hq=>h4.o q hq (by omega)));have x1:=qq s (j:=1) rfl;have x2:=qq s (j:=2) rfl;have x3:=qq s (j:=3) rfl;have x4:=qq s (j:=4) rfl;have x5:=qq s (j:=5) rfl;have HN:=U a0.o.own;have v3:w.heap.size+1<=wr.heap.size:=by have:=a0.o.res.lt;omega
         clear s;go_wp2_with (at_builtin;refine Y1 _ rfl (.tmp 46) (.tmp 48) 200 rfl (w.heap.size+1) 202 i3 _ 6 96 Tryz.underlying200 n6 q6 q7 q8 rfl (by decide) (.slice av k cap) k ((P.map (·.1)).flatMap qY) rfl (HN.o.alloc _) ⟨wr.heap.size,0,none⟩ 1 1 (qY ⟨p,5,0,⟨#[]⟩,E,2,G,D,2,F⟩) rfl rfl (J9 (cs:=#[.string p,.int .u8 5,.int .i64 0,.string ⟨#[]⟩,.slice E 2 G,.slice D 2 F]) (t:=202) (fr:=(0,0)) (Z5 wr _)) (by simp [qY,Value.oneCell']) (by omega) (by unfold maxLen;omega) (by omega) (by simp;omega) (wr.heap.size+1) (by simp) ?_;intro g1 cap2 w6 hown6 hgrow6 hat6 hlt6;have m0:=U hown6;have e4:=U hgrow6;have k5:=U hat6;clear hown6 hgrow6 hat6);go_roundw
         case rel =>
          refine ⟨k+1,P ++ [(⟨p,5,0,⟨#[]⟩,E,2,G,D,2,F⟩,l[k])],by omega,by go_num,?_⟩;have n0:O5 wo (wr.alloc (.cells #[.string p,.int .u8 5,.int .i64 0,.string ⟨#[]⟩,.slice E 2 G,.slice D 2 F] 202)):=(e2.o.trans (a2.o.mono e2.o.size)).alloc (by have:=e2.o.size;have:=a2.o.size;omega) _;refine TabAt.snoc (lo:=wo.heap.size+1) (hi:=A.heap.size) ⟨p,5,0,⟨#[]⟩,E,2,G,D,2,F⟩ HA.o l3.o n0 ?_ ?_ ?_ (by omega) (by simp;omega) ?_ e4.o (by rcases k5.o with h|h;exact .inl h;exact .inr (by simp;omega)) m0.o
          . exact e5.o.trans (J6 id2 HX.o)
          . exact (J6 ok2 HX.o).symm.trans h5.o
          . exact (J6 (fun z=>jg (ids (l.take k)) (id2 z)) HX.o).symm.trans (by have:=l0.o;rw [e5.o] at this;exact this)
          . have o2:Rep (wr.alloc (.cells #[.string p,.int .u8 5,.int .i64 0,.string ⟨#[]⟩,.slice E 2 G,.slice D 2 F] 202)) (wo.heap.size+1) A.heap.size (obj2 (xs,xp)) (Mem.val ⟨p,5,0,⟨#[]⟩,E,2,G,D,2,F⟩):=Rep.carry lz lz (fun b _ h=>by rw [X6 _ _ _ (by omega),a2.o.block b (by rw [i4.o];omega)]) _ _ m3.o;exact Eq.mp (J6 (fun z=>Rep (wr.alloc (.cells #[.string p,.int .u8 5,.int .i64 0,.string ⟨#[]⟩,.slice E 2 G,.slice D 2 F] 202)) (wo.heap.size+1) A.heap.size (obj2 z) (Mem.val ⟨p,5,0,⟨#[]⟩,E,2,G,D,2,F⟩)) HX.o) o2
         case measure=>simp [intOf];omega
  . obtain rfl:k=l.length:=by omega
    have I:=U (show yc l=0 by
     rw [HE.o,HA.o.err,List.drop_length];rfl)
    obtain ⟨av,cap,rfl,c7⟩:=HA.o.sliced lz;have h6:=U (HA.o.sorted hl (by rcases c7 with h|⟨g,h1,h2,h3,_⟩;exact .inl h;exact .inr ⟨g,h1,h2,h3⟩));clear c7 hA hlt hk;obtain ⟨wo,rfl⟩:∃wo:World,wo=wr:=⟨_,rfl⟩;go_wp2_with fail;refine h6.o.mono ?_;clear h6;rintro e w2 ⟨rfl,m,Z,L⟩;have T:=U L;have a1:=O0 (O5 w2 (w2.alloc (.cells #[.int .u8 5,.int .i64 0,.string ⟨#[]⟩,.slice none 0 0,.slice none 0 0] 26))) O4;have HO:=U (show ObjAt2 (w2.alloc (.cells #[.int .u8 5,.int .i64 0,.string ⟨#[]⟩,.slice none 0 0,.slice none 0 0] 26)) (w2.alloc (.cells #[.int .u8 5,.int .i64 0,.string ⟨#[]⟩,.slice none 0 0,.slice none 0 0] 26)) (w.heap.size+1) w2.heap.size 26 9 26 (.slice none 0 0) (.slice none 0 0) [] [] [] from
     ⟨by simp,by have:=L.res.lt;simp;omega,Touch.refl _ _,qg _ _ _ _ _ _ _,Y3 _ _ _ _,Y3 _ _ _ _,qS.nil _ _ _,fun b hb=>by simp [Value.ownBlock] at hb⟩)
    have n7:m.length=l.length:=L.perm.length_eq;have j1:Z.length=l.length:=by have:=J6 List.length L.keys;simp at this;omega
    have k3:w.heap.size<w2.heap.size:=L.res.lt;have g3:=U L.cells;clear L;obtain ⟨nd,c2⟩:=O1 l.length;rw [<- c2] at n7 j1 h32 hl g3;have r8:=U c2;obtain ⟨i1,n4,p3,p4,p6⟩:=V2 xi;obtain ⟨i2,n5,o3,p1,p2⟩:=V2 gb;rw [<- c2];clear c2 c9 d0;go_wp2_with fail;obtain ⟨r,a6⟩:=O1 w2.heap.size;obtain ⟨W,hW⟩:=O1 (w2.alloc (.cells #[.int .u8 5,.int .i64 0,.string ⟨#[]⟩,.slice none 0 0,.slice none 0 0] 26));rw [<- hW] at HO a1;rw [<- a6] at HO;rw [<- hW,<- a6];have H:=U a6;have C:=U (show W.heap.size=r+1 by rw [hW,a6];simp);clear hW a6;go_loopw [13,56] (fun _ i wr=>∃(k:Nat) (cs:List Value) (vn vi:Value),k<=nd/\i=.int .i64 k/\ObjAt2 W wr (w.heap.size+1) r 26 9 26 vn vi ((ids m).take k) ((m.map obj2).take k) cs) (fun _ i _=>nd - (intOf i).toNat)
    case atStart=>exact ⟨0,[],.slice none 0 0,.slice none 0 0,by omega,rfl,by simpa using HO.o⟩
    case round =>
     clear HO;obtain ⟨k,cs,vn,vi,hk,rfl,M⟩:=hrel;have o:=U M;have v0:W.heap.size<=wr.heap.size:=M.touch.size;have t9:r<wr.heap.size:=M.row.lt;clear M;by_cases hlt:k<nd
     . have e8:k<Z.length:=by omega
       have j0:k<m.length:=by omega
       obtain ⟨g,ha,i7,d⟩:∃g,av=some ⟨g,0,none⟩/\g<w2.heap.size/\∀j c (hj:j<Z.length),c<6->w2.cell? ⟨g,j * 6+c,none⟩=some ((qY Z[j].1)[c]!):=by
        rcases g3.o with h|h
        . omega
        . exact h
       subst ha;replace d:∀c,c<6->wr.cell? ⟨g,k * 6+c,none⟩=some ((qY Z[k].1)[c]!):=fun c hc=>by rw [o.o.touch.cell (show g<W.heap.size by rw [C.o,H.o];omega) (show ¬g=r by rw [H.o];omega),a1.o.cell (by exact i7)];exact d k c e8 hc
       have y0:=d 0 (by decide);have y1:=d 1 (by decide);have y2:=d 2 (by decide);have y3:=d 3 (by decide);have y4:=d 4 (by decide);have y5:=d 5 (by decide);clear d;obtain ⟨k1,lo,hi,n8,i9,_,y⟩:=T.o.row _ (J8 e8);have f0:m[k]=Z[k].2:=by
        have:(Z.map (·.2))[k]'(by simpa using e8)=m[k]:=by simp only [T.o.keys]
        rw [<- this];simp
       have h9:=U (show (ids m).take (k+1)=(ids m).take k ++ [Z[k].1.name] by
        rw [Z7 (by simpa [ids] using j0),k1];simp [ids,f0])
       have h8:=U (show (m.map obj2).take (k+1)=(m.map obj2).take k ++ [obj2 Z[k].2] by
        rw [Z7 (by simpa using j0)];simp [f0])
       have a4:=O0 (Rep wr lo hi (obj2 Z[k].2) Z[k].1.val) (Rep.carry lz lz (fun b h1 h2=>by rw [o.o.touch.block b (by rw [C.o,H.o];omega) (by rw [H.o];omega),a1.o.block b (by omega)]) _ _ y);have g4:=U (show hi<=r by rw [H.o];exact i9);obtain ⟨f2,f6,f1,f5,d6,_⟩:=y.parts;have a5:=U d6;clear k1 y i9 f0 d6;generalize Z[k].2=kk at h8 a4 a5;generalize Z[k].1=mk at y0 y1 y2 y3 y4 y5 h9 a4 a5;simp only [qY,Nat.add_zero,List.getElem!_cons_zero,List.getElem!_cons_succ] at y0 y1 y2 y3 y4 y5;have S:=U (show ((ids m).take k).length=k by simp [ids];omega);have R:=U (show ((m.map obj2).take k).length=k by simp;omega);have HN:=U (show wr.ownsRow W.heap.size 9 1 vn k (((ids m).take k).map .string) by have:=o.o.names;rwa [S.o] at this);have g0:=O0 (O5 wr (wr.alloc (.cells #[.string mk.name,.int .u8 mk.k,.int .i64 mk.n,.string mk.t,.slice mk.an mk.nn mk.cn,.slice mk.ai mk.ni mk.ci] 202))) O4;have a3:=U (o.o.below g0.o);have c3:(wr.alloc (.cells #[.string mk.name,.int .u8 mk.k,.int .i64 mk.n,.string mk.t,.slice mk.an mk.nn mk.cn,.slice mk.ai mk.ni mk.ci] 202)).cell? ⟨r,3,none⟩=some vn:=a3.o.row.cell (by decide);have f3:(wr.alloc (.cells #[.string mk.name,.int .u8 mk.k,.int .i64 mk.n,.string mk.t,.slice mk.an mk.nn mk.cn,.slice mk.ai mk.ni mk.ci] 202)).frozen? ⟨r,3,none⟩=false:=a3.o.row.frozen 3;have c4:(wr.alloc (.cells #[.string mk.name,.int .u8 mk.k,.int .i64 mk.n,.string mk.t,.slice mk.an mk.nn mk.cn,.slice mk.ai mk.ni mk.ci] 202)).cell? ⟨r,4,none⟩=some vi:=a3.o.row.cell (by decide);have f4:(wr.alloc (.cells #[.string mk.name,.int .u8 mk.k,.int .i64 mk.n,.string mk.t,.slice mk.an mk.nn mk.cn,.slice mk.ai mk.ni mk.ci] 202)).frozen? ⟨r,4,none⟩=false:=a3.o.row.frozen 4;have Y:=Z5 wr (.cells #[.string mk.name,.int .u8 mk.k,.int .i64 mk.n,.string mk.t,.slice mk.an mk.nn mk.cn,.slice mk.ai mk.ni mk.ci] 202);have b1:(wr.alloc (.cells #[.string mk.name,.int .u8 mk.k,.int .i64 mk.n,.string mk.t,.slice mk.an mk.nn mk.cn,.slice mk.ai mk.ni mk.ci] 202)).cell? ⟨wr.heap.size,1,none⟩=some (.int .u8 mk.k):=qq Y rfl;have b2:(wr.alloc (.cells #[.string mk.name,.int .u8 mk.k,.int .i64 mk.n,.string mk.t,.slice mk.an mk.nn mk.cn,.slice mk.ai mk.ni mk.ci] 202)).cell? ⟨wr.heap.size,2,none⟩=some (.int .i64 mk.n):=qq Y rfl;have b3:(wr.alloc (.cells #[.string mk.name,.int .u8 mk.k,.int .i64 mk.n,.string mk.t,.slice mk.an mk.nn mk.cn,.slice mk.ai mk.ni mk.ci] 202)).cell? ⟨wr.heap.size,3,none⟩=some (.string mk.t):=qq Y rfl;have b4:(wr.alloc (.cells #[.string mk.name,.int .u8 mk.k,.int .i64 mk.n,.string mk.t,.slice mk.an mk.nn mk.cn,.slice mk.ai mk.ni mk.ci] 202)).cell? ⟨wr.heap.size,4,none⟩=some (.slice mk.an mk.nn mk.cn):=qq Y rfl;have b5:(wr.alloc (.cells #[.string mk.name,.int .u8 mk.k,.int .i64 mk.n,.string mk.t,.slice mk.an mk.nn mk.cn,.slice mk.ai mk.ni mk.ci] 202)).cell? ⟨wr.heap.size,5,none⟩=some (.slice mk.ai mk.ni mk.ci):=qq Y rfl;have e6:=U (HN.o.alloc (.cells #[.string mk.name,.int .u8 mk.k,.int .i64 mk.n,.string mk.t,.slice mk.an mk.nn mk.cn,.slice mk.ai mk.ni mk.ci] 202));have p7:(wr.alloc (.cells #[.string mk.name,.int .u8 mk.k,.int .i64 mk.n,.string mk.t,.slice mk.an mk.nn mk.cn,.slice mk.ai mk.ni mk.ci] 202)).heap.size=wr.heap.size+1:=by simp
       have g5:=U (show ((wr.alloc (.cells #[.string mk.name,.int .u8 mk.k,.int .i64 mk.n,.string mk.t,.slice mk.an mk.nn mk.cn,.slice mk.ai mk.ni mk.ci] 202)).alloc (.cells #[.string mk.name] 9)).heap[wr.heap.size+1]?=some (.cells #[.string mk.name] 9 (0,0)) by have:=Z5 (wr.alloc (.cells #[.string mk.name,.int .u8 mk.k,.int .i64 mk.n,.string mk.t,.slice mk.an mk.nn mk.cn,.slice mk.ai mk.ni mk.ci] 202)) (.cells #[.string mk.name] 9);rwa [p7] at this);have c1:some r≠vn.ownBlock:=fun e=>by have:=(o.o.names.lt _ e.symm).1;have:=C.o;omega
       have a7:some wr.heap.size≠vn.ownBlock:=fun e=>by have:=(o.o.names.lt _ e.symm).2;omega
       have i6:some r≠vi.ownBlock:=fun e=>by have:=(o.o.items.lt _ e.symm).1;have:=C.o;omega
       have v2:W.heap.size<=(wr.alloc (.cells #[.string mk.name,.int .u8 mk.k,.int .i64 mk.n,.string mk.t,.slice mk.an mk.nn mk.cn,.slice mk.ai mk.ni mk.ci] 202)).heap.size:=by simp;omega
       clear Y;have n1:(0:Int)<=(k:Int):=by omega
       have n2:(k:Int)<(nd:Int):=by omega
       have r6:¬r=wr.heap.size:=by omega
       go_wp2_with (at_builtin;first
        | (
         refine Y1 _ rfl (.tmp 61) (.tmp 64) 23 rfl W.heap.size 9 i2 _ 1 16 M8 n5 o3 p1 p2 rfl (by decide) vn k (((ids m).take k).map .string) rfl (e6.o.alloc _) ⟨wr.heap.size+1,0,none⟩ 1 1 [.string mk.name] rfl rfl (J9 (cs:=#[.string mk.name]) (t:=9) (fr:=(0,0)) g5.o) (by simp [Value.oneCell']) (by omega) (by unfold maxLen;omega) (by omega) (by simp;omega) (wr.heap.size+2) (by simp) ?_;intro g1 cap2 w6 hown6 hgrow6 hat6 hlt6;have s7:=qA hgrow6 (by simp;omega) c1 c3;have t6:=qE hgrow6 (by simp;omega) c1 f3;have s8:=qA hgrow6 (by simp;omega) c1 c4;have t7:=qE hgrow6 (by simp;omega) c1 f4;have d1:=qA hgrow6 (by simp) a7 b1;have d2:=qA hgrow6 (by simp) a7 b2;have d3:=qA hgrow6 (by simp) a7 b3;have d4:=qA hgrow6 (by simp) a7 b4;have d5:=qA hgrow6 (by simp) a7 b5;have p8:=hgrow6.size;rw [show ((wr.alloc (.cells #[.string mk.name,.int .u8 mk.k,.int .i64 mk.n,.string mk.t,.slice mk.an mk.nn mk.cn,.slice mk.ai mk.ni mk.ci] 202)).alloc (.cells #[.string mk.name] 9)).heap.size=wr.heap.size+2 by simp] at p8;have b6:=U (show ObjAt2 W (w6.setCell ⟨r,3,none⟩ (.slice (some ⟨g1,0,none⟩) (k+1) cap2)) (w.heap.size+1) r 26 9 26 (.slice (some ⟨g1,0,none⟩) (k+1) cap2) vi ((ids m).take k ++ [mk.name]) ((m.map obj2).take k) cs by
          have:=(a3.o.below ((Z0 _ _).alloc lz (.cells #[.string mk.name] 9))).name mk.name (g:=g1) (cap:=cap2) hgrow6 (by rcases hat6 with h|h;exact .inl h;exact .inr (by simp;omega)) (by rw [S.o];exact hown6);rwa [S.o] at this)
         have l2:=U (show (w6.setCell ⟨r,3,none⟩ (.slice (some ⟨g1,0,none⟩) (k+1) cap2)).ownsRow W.heap.size 26 5 vi k cs by have:=b6.o.items;rwa [R.o] at this);have e4:=U hgrow6;clear hown6 hgrow6 hat6)
        | (
         refine Y1 _ rfl (.tmp 68) (.tmp 71) 24 rfl W.heap.size 26 i1 _ 5 80 K2 n4 p3 p4 p6 rfl (by decide) vi k cs rfl (l2.o.alloc _) ⟨w6.heap.size,0,none⟩ 1 1 [.int .u8 mk.k,.int .i64 mk.n,.string mk.t,.slice mk.an mk.nn mk.cn,.slice mk.ai mk.ni mk.ci] rfl rfl ?_ (by simp [Value.oneCell']) (by omega) (by unfold maxLen;omega) (by omega) ?_ (w6.heap.size+1) (by simp [World.setCell]) ?_
         . have:=J9 (cs:=#[.int .u8 mk.k,.int .i64 mk.n,.string mk.t,.slice mk.an mk.nn mk.cn,.slice mk.ai mk.ni mk.ci]) (t:=26) (fr:=(0,0)) (Z5 (w6.setCell ⟨r,3,none⟩ (.slice (some ⟨g1,0,none⟩) (k+1) cap2)) (.cells #[.int .u8 mk.k,.int .i64 mk.n,.string mk.t,.slice mk.an mk.nn mk.cn,.slice mk.ai mk.ni mk.ci] 26));rw [show (w6.setCell ⟨r,3,none⟩ (.slice (some ⟨g1,0,none⟩) (k+1) cap2)).heap.size=w6.heap.size by simp [World.setCell]] at this;exact this
         . simp [World.setCell];omega
         intro g2 cap3 w8 hown8 hgrow8 hat8 hlt8;have t5:=qA hgrow8 (by simp [World.setCell];omega) i6 (b6.o.row.cell (i:=4) (by decide));have t8:=qE hgrow8 (by simp [World.setCell];omega) i6 (b6.o.row.frozen 4);have m1:=U hown8;have l1:=U hgrow8;have k6:=U hat8;clear hown8 hgrow8 hat8))
       go_roundw
       case rel => refine ⟨k+1,cs ++ [.int .u8 mk.k,.int .i64 mk.n,.string mk.t,.slice mk.an mk.nn mk.cn,.slice mk.ai mk.ni mk.ci],.slice (some ⟨g1,0,none⟩) (k+1) cap2,.slice (some ⟨g2,0,none⟩) (k+1) cap3,by omega,by go_num,?_⟩;have hv:=a5.o;simp only [Mem.val,G9,H8,K0,Value.int.injEq,Value.string.injEq,za5,zb6] at hv;obtain ⟨q0,q1,q2,q3,q4⟩:=hv;have hr:=a4.o;unfold Mem.val at hr;rw [q0,q1,q2,q3,q4] at hr;have ho:=m1.o;rw [q0,q1,q2,q3,q4] at ho ⊢;rw [h9.o,h8.o];have n3:O5 wr ((wr.alloc (.cells #[.string mk.name,.int .u8 mk.k,.int .i64 mk.n,.string mk.t,.slice mk.an mk.nn mk.cn,.slice mk.ai mk.ni mk.ci] 202)).alloc (.cells #[.string mk.name] 9)):=g0.o.alloc (by simp) _;have o1:Rep ((w6.setCell ⟨r,3,none⟩ (.slice (some ⟨g1,0,none⟩) (k+1) cap2)).alloc (.cells #[.int .u8 (obj2 kk).kind,.int .i64 (obj2 kk).n,.string (obj2 kk).t,.slice f2 (obj2 kk).names.length f6,.slice f1 (obj2 kk).items.length f5] 26)) lo hi (obj2 kk) (.agg #[.int .u8 (obj2 kk).kind,.int .i64 (obj2 kk).n,.string (obj2 kk).t,.slice f2 (obj2 kk).names.length f6,.slice f1 (obj2 kk).items.length f5]):=(by refine Rep.carry lz lz (fun b h1 h2=>?_) _ _ hr;have:=g4.o;rw [X6 _ _ _ (by simp [World.setCell];omega),Z9 _ _ _ _ (by show b≠r;omega),e4.o.block b (by simp;omega) (fun e=>by have:=(o.o.names.lt b e.symm).1;have:=C.o;omega),n3.block b (by omega)]);have n9:=(b6.o.below ((Z0 _ _).alloc lz (.cells #[.int .u8 (obj2 kk).kind,.int .i64 (obj2 kk).n,.string (obj2 kk).t,.slice f2 (obj2 kk).names.length f6,.slice f1 (obj2 kk).items.length f5] 26)));have i8:=l1.o;rw [q0,q1,q2,q3,q4] at i8;have:=n9.item (it:=obj2 kk) (lo:=lo) (hi:=hi) (g:=g2) (cap:=cap3) n8 g4.o o1 i8 (by rcases k6.o with h|h;exact .inl h;exact .inr (by simp [World.setCell];omega)) (by rw [R.o];exact ho);rw [R.o] at this;exact this
       case measure=>simp [intOf];omega
     . obtain rfl:k=nd:=by omega
       have j2:(ids m).take k=ids m:=J4 (by simp [ids];omega);have j3:(m.map obj2).take k=m.map obj2:=J4 (by simp;omega);rw [j2,j3] at o;have S:=U (show (ids m).length=k by simp [ids];omega);have R:=U (show (m.map obj2).length=k by simp;omega);obtain ⟨E,G,D,F,rfl,rfl,y⟩:=o.o.done;have m4:=U y;have a8:=o.o.names;have f:=o.o.row;have N:=o.o.touch.row (qj a1.o T.o.res k3) (by rw [H.o];omega);have r7:w.heap.size<r:=by rw [H.o];exact k3
       rw [S.o,R.o] at f;obtain ⟨r0,r1,r2,r3,r4⟩:=rc5 f;obtain ⟨t0,t1,t2,t3,t4⟩:=rc5 N;obtain ⟨s0,s1,s2,s3,s4⟩:=rf5 N;simp only [qo] at r0 r1 r2 r3 r4 t0 t1 t2 t3 t4;have m5:=U N;have k7:=O0 (O5 w wr) ((T.o.below.trans (a1.o.mono (by omega))).trans (o.o.touch.below (by have:=C.o;omega) fun j hj e=>by omega));have g7:=U a8;clear f N y j2 j3 a8 o;go_wp2;refine Z8 (qk Tryz.results112 _ _ w.heap.size 26 _ (0,0) _ rfl (qr (set5 _ _ _ _ _ m5.o)) J7 rfl (by kernel_rfl) _ rfl) rfl (.inr ⟨I.o,m,T.o.perm,T.o.rise,E,G,D,F,?_,?_,zf _ _ _ _ _ k7.o lz,?_⟩)
       . show _=Ending.returned (.tuple #[.agg #[.int .u8 5,.int .i64 0,.string ⟨#[]⟩,.slice E (ids m).length G,.slice D (m.map obj2).length F],.int .i64 0]);rw [S.o,R.o];rfl
       . exact Rep.carry (by omega) (show wr.heap.size<=_ by simp [World.setCell]) (fun j hj _=>xJ _ _ _ _ _ (by omega)) _ _ m4.o
       . exact ar (yk (base':=w.heap.size) (zB g7.o fun b hb=>xJ _ _ _ _ _ (by have:=(g7.o.lt b hb).1;have:=C.o;omega)) (by have:=C.o;omega))
def ZW (l:List Key2) (y s:Nat):List Key2:=(List.range s).map fun j=>l.getD ((l.length - 1 - j+y) % l.length) (⟨#[]⟩,⟨#[]⟩)
def QX (l:List Key2) (w:World) (e:Ending) (w':World):Prop :=
 ∃u:JV,(yc l=0->∃m:List Key2,m.Perm l/\qd (ids m)=true/\u=xb m)/\(yc l≠0->u=zeroJ)/\u.wt<=4294967296/\nH u (yc l) w e w'
theorem cx (l:List Key2) (a:Option Addr) (c:Nat) (w:World) (o:qJ w 0 w.heap.size a l) (q:l.length<=40) (j:∀k ∈ l,k.1.size<=300/\k.2.size<=300) (p:Tabs w) :
 Calls Tryz.prog 112 #[.slice a l.length c] w (QX l w):=by
 refine (iH l a c w o (by omega) j p).mono ?_;rintro e w' (⟨b,rfl,f⟩|⟨b,m,d,g,i⟩)
 . exact ⟨zeroJ,fun h=>absurd h b,fun _=>rfl,by decide,none,0,none,0,rfl,s9 _ _ _,f⟩
 . refine ⟨xb m,fun _=>⟨m,d,g,rfl⟩,fun h=>absurd b h,?_,by rw [b];exact i.val⟩;have:=mC (m:=m) (fun k hk=>j k (d.subset hk));have:=d.length_eq;omega
def lu (v:JV) (w:World) (e:Ending) (w':World):Prop :=
 ∃val,e=.returned (.tuple #[val,.int .i64 (jx v).2])/\w'.ownsRow w.heap.size 156 2 val (jx v).1.length ((jx v).1.flatMap jV)/\O5 w w'
theorem iU (v:JV) (x:Value) (w:World) (lo:Nat) (f4:0<lo) (hN:v.wt<=4294967296) (hR:Rep w lo w.heap.size v x) (hT:Tabs w) :
 Calls Tryz.prog 73 #[x] w (lu v w):=by
 obtain ⟨J,L,Z,ci,hx,h1,h2,h3,h4⟩:=hR.parts;have HR:=U hR;have c9:=U f4;clear f4;have H3:=U h3;have H4:=U h4;obtain ⟨b1,b2,b3,b4⟩:=v.wt_bd;clear h1 h2 h3 h4 hR;subst hx;have HT:=U hT;clear hT;have u:=O0 (O5 w (w.alloc (.cells #[.int .u8 v.kind,.int .i64 v.n,.string v.t,.slice J v.names.length L,.slice Z v.items.length ci] 26))) O4;have F:=U (Z5 w (.cells #[.int .u8 v.kind,.int .i64 v.n,.string v.t,.slice J v.names.length L,.slice Z v.items.length ci] 26));have Y:=U (xm v _ (w.alloc (.cells #[.int .u8 v.kind,.int .i64 v.n,.string v.t,.slice J v.names.length L,.slice Z v.items.length ci] 26)) hN (HR.o.below u.o lz (J0 _) (by simp)));cases hm:v.mayB
 . have X:=U (show jx v=([],3) by unfold jx;rw [J3 hm]);rw [hm] at Y;clear hm;go_enter Tryz.func73,Tryz.ntmps73;go_wp2_with fail;refine Y.o.mono ?_;rintro e s ⟨rfl,c⟩;have o:=U (u.o.trans (c.mono (by simp)));clear c;go_wp2;go_ret2;exact ⟨.slice none 0 0,by rw [X.o] <;> rfl,by rw [X.o];exact Y3 _ _ _ _,o.o⟩
 rw [hm] at Y;have N:=U hm;clear hm;by_cases hk5:v.kind=5
 case neg =>
  have X:=U (show jx v=([],10) by unfold jx;rw [Z6 (by simp [N.o]),J3 hk5]);have t1:(v.kind != 5)=true:=by simpa using hk5
  clear hk5;go_enter Tryz.func73,Tryz.ntmps73;go_wp2_with fail;refine Y.o.mono ?_;rintro e s ⟨rfl,c⟩;have g:s.heap[w.heap.size]?=some (.cells #[.int .u8 v.kind,.int .i64 v.n,.string v.t,.slice J v.names.length L,.slice Z v.items.length ci] 26 (0,0)):=by rw [c.block _ (by simp)];exact F.o
  have o:=U (u.o.trans (c.mono (by simp)));have c0:=qq g (j:=0) rfl;clear c g;go_wp2;go_ret2;exact ⟨.slice none 0 0,by rw [X.o] <;> rfl,by rw [X.o];exact Y3 _ _ _ _,o.o⟩
 have t1:(v.kind != 5)=false:=by simpa using hk5
 obtain ⟨_,S,_⟩:=mH N.o hk5;have a8:=U hk5;clear hk5;obtain ⟨j,H⟩:=O1 v.names.length;rw [<- S,<- H] at Y F u;rw [<- S,<- H];have P:=U H;have d0:=U (show v.items.length=j by rw [H,S]);clear H S;by_cases h32:j<=32
 case neg =>
  have X:=U (show jx v=([],5) by unfold jx;rw [Z6 (by simp [N.o]),Z6 (by simp [a8.o]),J3 (by rw [<- P.o];omega)]);have t2:decide (32<(j:Int))=true:=by simp;omega
  go_enter Tryz.func73,Tryz.ntmps73;go_wp2_with fail;refine Y.o.mono ?_;rintro e s ⟨rfl,c⟩;have g:s.heap[w.heap.size]?=some (.cells #[.int .u8 v.kind,.int .i64 v.n,.string v.t,.slice J j L,.slice Z j ci] 26 (0,0)):=by rw [c.block _ (by simp)];exact F.o
  have o:=U (u.o.trans (c.mono (by simp)));have c0:=qq g (j:=0) rfl;have c3:=qq g (j:=3) rfl;clear c g;go_wp2;go_ret2;exact ⟨.slice none 0 0,by rw [X.o] <;> rfl,by rw [X.o];exact Y3 _ _ _ _,o.o⟩
 have t2:decide (32<(j:Int))=false:=by simp;omega
 have c7:=U (show jx v=wf v.names v.items [] by unfold jx;rw [Z6 (by simp [N.o]),Z6 (by simp [a8.o]),Z6 (by rw [<- P.o];omega)]);obtain ⟨i3,d4,d7,e5,e6⟩:=V2 oo;go_enter Tryz.func73,Tryz.ntmps73;go_wp2_with fail;refine Y.o.mono ?_;clear Y;rintro e s ⟨rfl,c⟩;have g:s.heap[w.heap.size]?=some (.cells #[.int .u8 v.kind,.int .i64 v.n,.string v.t,.slice J j L,.slice Z j ci] 26 (0,0)):=by rw [c.block _ (by simp)];exact F.o
 have d3:=U g;have o:=U (u.o.trans (c.mono (by simp)));have c2:w.heap.size<s.heap.size:=qz g;have c0:=qq g (j:=0) rfl;have c3:=qq g (j:=3) rfl;clear c g u F;go_wp2_with fail;clear c0 c3;go_loopw [4,5,6,7,8,9,23] (fun ks _ _ _ _ _ i wr=>∃(k:Nat) (a:List Key2),k<=j/\i=.int .i64 k/\a.length=k/\jx v=wf (v.names.drop k) (v.items.drop k) a/\wr.ownsRow s.heap.size 156 2 ks k (a.flatMap jV)/\O5 s wr) (fun ks _ _ _ _ _ i _=>j - (intOf i).toNat)
 case atStart=>exact ⟨0,[],by omega,rfl,rfl,c7.o,Y3 _ _ _ _,Z0 _ _⟩
 case round =>
  obtain ⟨k,a,hk,rfl,Q,b7,I,r⟩:=hrel;obtain ⟨am,cm,c1,_⟩:=yz I Q.symm;rw [Q] at c1;subst c1;have M:=U b7;have HO:=U I;have HB:=U r;have l:=U (O2 o r);have d6:s.heap.size<=wr.heap.size:=r.size;have V:wr.heap[w.heap.size]?=some (.cells #[.int .u8 v.kind,.int .i64 v.n,.string v.t,.slice J j L,.slice Z j ci] 26 (0,0)):=by rw [r.block _ c2];exact d3.o
  have e8:=U V;have c3:=qq V (j:=3) rfl;have c4:=qq V (j:=4) rfl;clear b7 I r V;by_cases hlt:k<j
  . have a4:k<v.names.length:=by rw [<- P.o];exact hlt
    have R:k<v.items.length:=by rw [d0.o];exact hlt
    have m:=U (rf v.names v.items k a a4 R);obtain ⟨p,f,ha,_,f0,y1⟩:=(H3.o.below l.o lz lz lz).at k a4;subst ha;obtain ⟨p',f',e0,e1,e2,e3,e4,ha,_,e7,g0,g1,g2,g3,g4,hr⟩:=(H4.o.below l.o lz lz lz).at k R;subst ha;have d5:=JV.wts_get v.items k R;have E:=U (keyOf v.items[k] _ wr lo w.heap.size (by omega) (by have:=l.o.size;omega) hr fun _ _ _ _=>.inl c9.o);unfold uM at E;have a9:=U (@sU v.items[k]);obtain ⟨K,hK⟩:=O1 (zQ v.items[k]);obtain ⟨nk,a5⟩:=O1 (v.names[k]);rw [<- hK] at E a9;replace m:=U (m.o.trans (J6 (fun z=>uF z v.names[k] (v.names.drop (k+1)) (v.items.drop (k+1)) a) hK.symm));replace m:=U (m.o.trans (J6 (fun z=>uF K z (v.names.drop (k+1)) (v.items.drop (k+1)) a) a5.symm));replace y1:=y1.trans (J6 (fun z=>some (Value.string z)) a5.symm);clear hK a5 hr d5 a4 R;obtain ⟨⟨d,A⟩,ke⟩:=K;have q0:(0:Int)<=(k:Int):=by omega
    have q1:(k:Int)<(j:Int):=by omega
    by_cases hke:ke=0
    case neg =>
     have t3:(ke != 0)=true:=by simpa using hke
     have h:=U (show jx v=([],ke) by rw [M.o,m.o];unfold uF;rw [J3 hke]);clear hke;go_wp2_with fail;refine E.o.mono ?_;rintro e W ⟨rfl,q⟩;have a2:=U ((O2 l q).alloc (by have:=l.o.size;have:=q.size;omega) (.cells #[.string d,.string A] 156));clear q;go_wp2;go_ret2;exact ⟨.slice none 0 0,by rw [h.o] <;> rfl,by rw [h.o];exact Y3 _ _ _ _,a2.o⟩
    subst hke;obtain ⟨T,a0,a1⟩:=a9.o rfl;replace T:zA d.data.toList A.data.toList=true:=T;replace a0:d.size<=64:=a0;replace a1:A.size<=128:=a1;go_wp2_with fail;refine E.o.mono ?_;clear E;rintro e W ⟨rfl,q⟩;have f1:wr.heap.size<=W.heap.size:=q.size;obtain ⟨W2,G⟩:=O1 (W.alloc (.cells #[.string d,.string A] 156));have y:O5 wr W2:=by rw [G];exact q.alloc q.size _
    have a2:=U (HB.o.trans (y.mono d6));have C:=U (O2 l y);have d1:=U (qV HO.o y);have b6:=U (show W2.heap[W.heap.size]?=some (.cells #[.string d,.string A] 156 (0,0)) by rw [G];exact Z5 W _);have D:=U (nC d A W2 (by omega) (by omega) (HT.o.below C.o));unfold kw at D;rw [T,J3 rfl] at D;obtain ⟨ID,a3⟩:∃ID:ByteArray,ID=⟨(kY d.data.toList A.data.toList).toArray⟩:=⟨_,rfl⟩;rw [<- a3] at D;replace m:=U (show wf (v.names.drop k) (v.items.drop k) a=if (ID.toList == nk.toList)=true then wf (v.names.drop (k+1)) (v.items.drop (k+1)) (a ++ [(d,A)]) else ([],3) by rw [m.o];unfold uF;rw [Z6 (by simp)];rw [a3];rfl);have f3:W2.heap.size=W.heap.size+1:=by rw [G];simp
    have b5:=U G;clear a3 T q y G;go_wp2_with fail;rw [<- b5.o];refine D.o.mono ?_;clear D b5;rintro e w3 ⟨rfl,B⟩;have f2:W2.heap.size<=w3.heap.size:=B.size;have c5:=U (a2.o.trans (B.mono (by omega)));have a7:=U (C.o.trans (B.mono (C.o.size)));have b0:=U (qV d1.o B);have a6:w3.heap[W.heap.size]?=some (.cells #[.string d,.string A] 156 (0,0)):=by rw [B.block _ (qz b6.o)];exact b6.o
    have x0:=qq a6 (j:=0) rfl;have x1:=qq a6 (j:=1) rfl;clear B a6 g0 g1 g2 g3 g4 c3 c4 y1;cases hq:(ID.toList == nk.toList)
    . have t4:(ID.toList != nk.toList)=true:=by simpa [bne] using hq
      have h:=U (show jx v=([],3) by rw [M.o,m.o,hq];rfl);go_wp2_with fail
      skip
      go_ret2;exact ⟨.slice none 0 0,by rw [h.o] <;> rfl,by rw [h.o];exact Y3 _ _ _ _,a7.o⟩
    . have t4:(ID.toList != nk.toList)=false:=by simpa [bne] using hq
      have h:=U (show jx v=wf (v.names.drop (k+1)) (v.items.drop (k+1)) (a ++ [(d,A)]) by rw [M.o,m.o,hq];rfl);go_wp2_with (at_builtin;refine Y1 _ rfl (.tmp 51) (.tmp 53) 36 rfl s.heap.size 156 i3 _ 2 32 Tryz.underlying36 d4 d7 e5 e6 rfl (by decide) (.slice am k cm) k (a.flatMap jV) rfl (b0.o.alloc _) ⟨w3.heap.size,0,none⟩ 1 1 [.string d,.string A] rfl rfl (J9 (cs:=#[.string d,.string A]) (t:=156) (fr:=(0,0)) (Z5 w3 _)) (by simp [Value.oneCell']) (by omega) (by unfold maxLen;omega) (by omega) (by simp;omega) (w3.heap.size+1) (by simp) ?_;intro g1 cap2 w6 hown6 hgrow6 hat6 hlt6;have d2:=U hown6;have c6:=U hgrow6;clear hown6 hgrow6 hat6);go_roundw
      case rel => refine ⟨k+1,a ++ [(d,A)],by omega,by go_num,by simp [Q],h.o,?_,below_grown (c5.o.alloc (by omega) _) (by simp;omega) c6.o (fun b hb=>(b0.o.lt b hb).1)⟩;rw [List.flatMap_append];simpa [jV] using d2.o
      case measure=>simp [intOf];omega
  . obtain rfl:k=j:=by omega
    have h:=U (show jx v=(a,0) by
     rw [M.o,List.drop_of_length_le (by rw [<- P.o];exact J2 _),sM])
    go_wp2;go_ret2;exact ⟨_,by rw [h.o] <;> rfl,by rw [h.o];have:=yk (base':=w.heap.size) HO.o (Nat.le_of_lt c2);show wr.ownsRow _ _ _ _ a.length _;rw [Q];exact this,l.o⟩
def ogK (u:JV) (st:PS):JV × PS:=qf u zd 32 st
def ogL (u:JV) (st:PS):List Key2 × Int:=jx (ogK u st).1
def ogS (u:JV) (st:PS):PS:=(ogK u st).2.fail (ogL u st).2
def ogO (u:JV) (st:PS):JV × PS:=qf u vf 8192 (ogS u st)
def ogR (u:JV) (st:PS):List JV × PS:=qW u kB 64 (ogS u st)
def ogB (u:JV) (st:PS):(BinsV × List DelegV) × PS:=if qI u vf (ogS u st) then (((xB (ogO u st).1).1,[]),(ogO u st).2.fail (xB (ogO u st).1).2) else ((k8,(xU (ogR u st).1 []).1),(ogR u st).2.fail (xU (ogR u st).1 []).2)
def pZ (u:JV) (st:PS):DelegsV × Int:=if qb u (ogB u st).2≠0 then (zU,qb u (ogB u st).2) else (⟨(ogL u st).1,(ogB u st).1.2,(ogB u st).1.1⟩,0)
theorem lm:pZ zeroJ ⟨[],10⟩=(zU,10):=by decide +kernel
theorem ae {v:JV} {y:ByteArray} {e:Nat} {st:PS}:(qW v y e st).1.length<=e/\JV.wts (qW v y e st).1<=v.wt:=by
 unfold qW;split
 . exact ⟨J0 _,by simp [JV.wts]⟩
 . split
   . exact ⟨J0 _,by simp [JV.wts]⟩
   . rename_i it hit;split
     . exact ⟨J0 _,by simp [JV.wts]⟩
     . split
       . exact ⟨J0 _,by simp [JV.wts]⟩
       . refine ⟨by show it.items.length<=e;omega,?_⟩;have b:=it.wt_eq;obtain ⟨j,a,rfl⟩:=Y0 (vW hit).2;have c:=JV.wts_get v.items j a;have d:=v.wt_eq;show JV.wts v.items[j].items<=v.wt;omega
theorem QJ {u:JV} {st:PS} (h:st.asked.length<=1000):(ogS u st).asked.length<=1001:=by have a:=@iG u zd 32 st;unfold ogS ogK;rw [xz];omega
def cj (u:JV) (st:PS):Prop:=((ogO u st).1.kind=5->qd (ogO u st).1.names=true/\(ogO u st).1.names.length=(ogO u st).1.items.length)/\∀v ∈ (ogR u st).1,v.kind=5->qd v.names=true/\v.names.length=v.items.length
def je (r:DelegsV × Int) (w:World) (e:Ending) (w':World):Prop :=
 ∃ka kc ra rc ba bc,e=.returned (.tuple #[.agg #[.slice ka r.1.keys.length kc,.slice ra r.1.roles.length rc,.int .i64 r.1.bins.au.thr,.slice ba r.1.bins.au.ids.length bc,.int .i64 r.1.bins.bits,.string r.1.bins.pre],.int .i64 r.2])/\r.1.roles.length<=rc/\DelegsIn w' w.heap.size w'.heap.size r.1 ka ra ba/\O5 w w'
theorem wN {a:Int} {w w':World} (b:O5 w w'):je (zU,a) w (.returned (.tuple #[.agg #[.slice none 0 0,.slice none 0 0,.int .i64 0,.slice none 0 0,.int .i64 0,.string ⟨#[]⟩],.int .i64 a])) w' :=
 ⟨none,0,none,0,none,0,rfl,J2 _,⟨.inl rfl,.inl rfl,.inl rfl⟩,b⟩
def ll (C:JV->Prop) (st:PS) (mb:Bool) (w:World) (e:Ending) (w':World):Prop:=(mb=false/\je (zU,3) w e w')\/(mb=true/\∃u,C u/\je (pZ u st) w e w')
theorem uA (C:JV->Prop) (st:PS) (v:JV) (x:Value) (w:World) (hN:v.wt<=4294967296) (hR:Rep w 0 w.heap.size v x) (ha:st.asked.length<=1000) (hT:Tabs w) (hC:∀u,C u->cj u st)
 (h1:v.mayB=true->∀w1,O5 w w1->Calls Tryz.prog 25 #[x] w1 (vS C st w1)) :
 Calls Tryz.prog 33 #[x] w (ll C st v.mayB w):=by
 obtain ⟨an,cn,ai,ci,hx,K,D,h3,h4⟩:=hR.parts;clear K D h3 h4;subst hx;obtain ⟨W,hW⟩:=O1 ((w.alloc (.cells #[.int .u8 v.kind,.int .i64 v.n,.string v.t,.slice an v.names.length cn,.slice ai v.items.length ci] 26)).alloc (.cells #[.slice none 0 0,.slice none 0 0,.int .i64 0,.slice none 0 0,.int .i64 0,.string ⟨#[]⟩] 43));have h9:(w.alloc (.cells #[.int .u8 v.kind,.int .i64 v.n,.string v.t,.slice an v.names.length cn,.slice ai v.items.length ci] 26)).heap.size=w.heap.size+1:=by simp
 have hb:O5 w W:=by rw [hW];exact (O4).alloc (by simp) _
 have h8:W.heap[w.heap.size]?=some (.cells #[.int .u8 v.kind,.int .i64 v.n,.string v.t,.slice an v.names.length cn,.slice ai v.items.length ci] 26 (0,0)):=by rw [hW];exact qO w _ _
 have d7:W.rowIs (w.heap.size+1) 43 6 (qZ (.slice none 0 0) (.slice none 0 0) (.int .i64 0) (.slice none 0 0) (.int .i64 0) (.string ⟨#[]⟩)):=(by have:=jf (w.alloc (.cells #[.int .u8 v.kind,.int .i64 v.n,.string v.t,.slice an v.names.length cn,.slice ai v.items.length ci] 26)) (.slice none 0 0) (.slice none 0 0) (.int .i64 0) (.slice none 0 0) (.int .i64 0) (.string ⟨#[]⟩) 43;rw [h9,<- hW] at this;exact this);have a3:=U h1;have c9:=U (xm v _ W hN (hR.below hb lz (J0 _) hb.size));obtain ⟨mb,h0⟩:=O1 v.mayB;rw [<- h0] at c9 a3 ⊢;have e7:=U hC;have i1:=O0 (∀w':World,O5 w w'->Tabs w') (fun w' h=>hT.below h);have g:=U hb;have V:=U h8;have M:=U d7;have HW:=U hW;have HA:=U ha;have d3:=O0 (w.heap.size+2<=W.heap.size) d7.lt;clear h1 hW h9 hb h8 d7 hR ha h0 hN hC hT;obtain ⟨c0,c1,c2,c3,c4⟩:=bx5 V.o;go_enter Tryz.func33,Tryz.ntmps33;go_upto_region 1 with fail
 rw [<- HW.o];clear HW;go_wp2_with fail;refine c9.o.mono ?_;clear c9 c0 c1 c2 c3 c4;rintro e w1 ⟨rfl,c6⟩;replace V:=U ((c6.block _ (qz V.o)).trans V.o);have H:=qj c6 M.o M.o.lt;replace M:=U H;replace g:=U (O2 g c6);replace d3:=O0 (w.heap.size+2<=w1.heap.size) H.lt;clear c6;cases mb with
 | false => obtain ⟨t0,t1,t2,t3,t4⟩:=rc5 H;have t5:=H.cell (i:=5) (by decide);obtain ⟨s0,s1,s2,s3,s4⟩:=rf5 H;have s5:=H.frozen 5;simp only [qZ] at t0 t1 t2 t3 t4 t5;clear H;go_wp2;refine Z8 (qk Tryz.results33 _ _ (w.heap.size+1) 43 _ (0,0) _ rfl (zX (gY _ _ _ _ _ _ M.o)) Tryz.underlying43 rfl (by kernel_rfl) _ rfl) rfl ?_;exact .inl ⟨rfl,wN (jh _ _ _ _ _ _ g.o (by omega))⟩
 | true =>
 clear H;replace a3:=U (a3.o rfl w1 g.o);obtain ⟨c0,c1,c2,c3,c4⟩:=bx5 V.o;go_wp2_with fail;refine a3.o.mono ?_;clear a3 c0 c1 c2 c3 c4;rintro e w2 ⟨u,o,m,lo,hi,i9,i6,k1,j2,hC,hu,rfl,d4,i4,i3,X⟩;have HC:=U hC;have a0:=U (e7.o u hC);have HU:=U hu;have i2:=d4.lt;obtain ⟨p,d5⟩:=O1 w2.heap.size;obtain ⟨J,b7⟩:=O1 (w2.alloc (.cells #[.slice none 0 0,.slice none 0 0,.int .i64 0,.slice none 0 0,.int .i64 0,.string ⟨#[]⟩] 43));have b0:=O7 b7
 have d6:J.rowIs p 43 6 (qZ (.slice none 0 0) (.slice none 0 0) (.int .i64 0) (.slice none 0 0) (.int .i64 0) (.string ⟨#[]⟩)):=by rw [b7,d5];exact jf _ _ _ _ _ _ _ _
 have l:=U (show p≠o/\p≠m/\hi<=p/\w.heap.size+2<=o/\w.heap.size+2<=m/\w.heap.size+2<=p/\p<J.heap.size/\o<J.heap.size/\m<J.heap.size from by
  have K:=X.size;have D:=d6.lt;have h3:=d3.o;have h4:=b0.size;omega)
 have A:=U (d4.below b0);have y:=U (qj (X.trans (b0.mono X.size)) M.o M.o.lt);replace g:=U (g.o.trans ((X.trans (b0.mono X.size)).mono g.o.size));have d:=U d6;have z:=U (J2 J.heap.size);have f7:=U b7;have f6:=U d5;clear e7 hC hu i2 d4 i4 i3 X b0 d6 b7 d5 M V d3;have c7:=U (@QJ u st HA.o);have S:=U (fV zd 32 A.o (by decide) (by have:=HA.o;omega));unfold mT at S;have d0:=O0 ((ogK u st).1.wt<=4294967296) (xF HU.o);have b5:=O0 (ogL u st=jx (ogK u st).1) rfl;have T:=O0 (ogS u st=(ogK u st).2.fail (ogL u st).2) rfl;have s:=O0 (ogB u st=if qI u vf (ogS u st) then (((xB (ogO u st).1).1,[]),(ogO u st).2.fail (xB (ogO u st).1).2) else ((k8,(xU (ogR u st).1 []).1),(ogR u st).2.fail (xU (ogR u st).1 []).2)) rfl;have a4:=O0 (ogO u st=qf u vf 8192 (ogS u st)) rfl;have b6:=O0 (ogR u st=qW u kB 64 (ogS u st)) rfl;have I:=O0 (pZ u st=if qb u (ogB u st).2≠0 then (zU,qb u (ogB u st).2) else (⟨(ogL u st).1,(ogB u st).1.2,(ogB u st).1.1⟩,0)) rfl;unfold cj at a0;rw [show qf u zd 32 st=ogK u st from rfl] at S;obtain ⟨GK,g0⟩:=O1 (ogK u st);rw [<- g0] at S d0 b5 T;clear g0;obtain ⟨KJ,SK⟩:=GK;dsimp only at S d0 b5 T;go_upto_region 6 with fail
 rw [<- f7.o,<- f6.o];clear f6 f7;go_wp2_with fail;refine S.o.mono ?_;clear S;rintro e w4 ⟨⟨j0,k2,i7,j3,rfl,h6⟩,r,a⟩;have Q:=U (iU KJ _ w4 J.heap.size (Nat.lt_of_le_of_lt (J0 _) d.o.lt) d0.o h6 (i1.o w4 (g.o.trans (a.below (by have:=g.o.size;omega) fun k hk e=>by have:=l.o;omega))));clear h6;replace A:=U r;replace y:=U (a.row y.o (by have:=l.o;omega));replace d:=U (a.row d.o (by have:=l.o;omega));replace g:=U (g.o.trans (a.below (by have:=g.o.size;omega) fun k hk e=>by have:=l.o;omega));replace z:=U (Z3 z.o a.size);clear r a;unfold lu at Q;rw [<- b5.o] at Q;obtain ⟨GL,g1⟩:=O1 (ogL u st);rw [<- g1] at Q T I;clear g1 b5;obtain ⟨kl,ke⟩:=GL;dsimp only at Q T I;go_wp2_with fail;refine Q.o.mono ?_;clear Q;rintro e w5 ⟨kv,rfl,h5,f⟩;obtain ⟨ka,kc,rfl,g7⟩:=yz h5 rfl;have q:=O0 (qJ w5 J.heap.size w5.heap.size ka kl) (g7.carry z.o lz (fun _ _ _=>rfl));clear h5 g7;replace A:=U (A.o.below f);replace y:=U (qj f y.o y.o.lt);replace d:=U (qj f d.o d.o.lt);replace g:=U (O2 g f);replace z:=U (Z3 z.o f.size);clear f;have e0:=d.o.cell (i:=0) (by decide);have f0:=d.o.frozen 0;simp only [qZ] at e0;obtain ⟨W6,c5⟩:=O1 (w5.setCell ⟨p,0,none⟩ (.slice ka kl.length kc));have c:Touch (fun b=>b=p) w5 W6:=by rw [c5];exact (Touch.refl _ _).trans (qp _)
 replace d:=U (show W6.rowIs p 43 6 (qZ (.slice ka kl.length kc) (.slice none 0 0) (.int .i64 0) (.slice none 0 0) (.int .i64 0) (.string ⟨#[]⟩)) from by
  rw [c5];refine (d.o.set 0 _).congr fun j hj=>?_;rcases j with _|_|_|_|_|_|j <;> first|rfl|omega)
 replace A:=U (A.o.touch c l.o.1 l.o.2.1 l.o.2.2.1);replace y:=U (c.row y.o (by have:=l.o;omega));replace g:=U (g.o.trans (c.below (by have:=g.o.size;omega) fun k hk e=>by have:=l.o;omega));replace z:=U (Z3 z.o c.size);replace q:=U (q.o.carry lz c.size (fun b K D=>c.block b D (by have:=l.o;omega)));have f8:=U c5;clear c c5;go_upto_region 7 with fail
 rw [<- f8.o];clear f8 e0 f0;go_wp2_with fail;refine (vz ke A.o).mono ?_;rintro e w7 ⟨rfl,r,a⟩;rw [<- T.o] at r;replace A:=U r;replace y:=U (a.row y.o (by have:=l.o;omega));replace d:=U (a.row d.o (by have:=l.o;omega));replace g:=U (g.o.trans (a.below (by have:=g.o.size;omega) fun k hk e=>by have:=l.o;omega));replace z:=U (Z3 z.o a.size);replace q:=U (q.o.carry lz a.size (fun b K D=>a.block b D (by have:=l.o;omega)));clear r a;clear T;obtain ⟨SS,g4⟩:=O1 (ogS u st);rw [<- g4] at A s a4 b6 c7;clear g4;have e8:=U (iq vf A.o);go_upto_region 8 with fail
 go_wp2_with fail
 refine e8.o.mono ?_;clear e8;rintro e w8 ⟨rfl,f⟩;replace A:=U (A.o.below f);replace y:=U (qj f y.o y.o.lt);replace d:=U (qj f d.o d.o.lt);replace g:=U (O2 g f);replace z:=U (Z3 z.o f.size);replace q:=U (q.o.below f lz lz f.size);clear f;obtain ⟨hv,g5⟩:=O1 (qI u vf SS);rw [<- g5] at s ⊢;clear g5;cases hv with
 | true =>
  rw [J3 rfl] at s;have R:=U (fV vf 8192 A.o (by decide) (by have:=c7.o;omega));unfold mT at R;rw [<- a4.o] at R;have d2:=U (show (ogO u st).1.wt<=4294967296 by rw [a4.o];exact xF HU.o);have L:=U a0.o.1;obtain ⟨GO,g2⟩:=O1 (ogO u st);rw [<- g2] at R d2 s L;clear g2 a4 b6 a0;obtain ⟨OJ,SO⟩:=GO;dsimp only at R d2 s L;go_wp2_with fail;refine R.o.mono ?_;clear R;rintro e w9 ⟨⟨j1,k3,i8,k0,rfl,b2⟩,r,a⟩;have Y:=U (ly OJ _ w9 w8.heap.size (by have:=z.o;have:=l.o;omega) d2.o b2 L.o);clear b2;replace A:=U r;replace y:=U (a.row y.o (by have:=l.o;omega));replace d:=U (a.row d.o (by have:=l.o;omega));replace g:=U (g.o.trans (a.below (by have:=g.o.size;omega) fun k hk e=>by have:=l.o;omega));replace z:=U (Z3 z.o a.size);replace q:=U (q.o.carry lz a.size (fun b K D=>a.block b D (by have:=l.o;omega)));clear r a;unfold vE at Y;obtain ⟨GB,a9⟩:=O1 (xB OJ);rw [<- a9] at Y s;clear a9;obtain ⟨⟨a8,e6,au⟩,be⟩:=GB;dsimp only at Y s;obtain ⟨SP,P⟩:=O1 (SO.fail be);rw [<- P] at s;rw [s.o] at I;dsimp only at I;have a7:=U P;clear P s;go_wp2_with fail;refine Y.o.mono ?_;clear Y;rintro e F ⟨ba,bc,rfl,-,b3,f⟩;have Z:=O0 (qy F J.heap.size F.heap.size ba au.ids) (b3.carry z.o lz (fun _ _ _=>rfl));clear b3;replace A:=U (A.o.below f);replace y:=U (qj f y.o y.o.lt);replace d:=U (qj f d.o d.o.lt);replace g:=U (O2 g f);replace z:=U (Z3 z.o f.size);replace q:=U (q.o.below f lz lz f.size);clear f;have e2:=d.o.cell (i:=2) (by decide);have f2:=d.o.frozen 2;simp only [qZ] at e2;have e3:=d.o.cell (i:=3) (by decide);have f3:=d.o.frozen 3;simp only [qZ] at e3;have e4:=d.o.cell (i:=4) (by decide);have f4:=d.o.frozen 4;simp only [qZ] at e4;have e5:=d.o.cell (i:=5) (by decide);have f5:=d.o.frozen 5;simp only [qZ] at e5;obtain ⟨E,B⟩:=O1 ((((F.setCell ⟨p,2,none⟩ (.int .i64 au.thr)).setCell ⟨p,3,none⟩ (.slice ba au.ids.length bc)).setCell ⟨p,4,none⟩ (.int .i64 a8)).setCell ⟨p,5,none⟩ (.string e6));have c:Touch (fun b=>b=p) F E:=by rw [B];exact ((((Touch.refl _ _).trans (qp _)).trans (qp _)).trans (qp _)).trans (qp _)
  replace d:=U (show E.rowIs p 43 6 (qZ (.slice ka kl.length kc) (.slice none 0 0) (.int .i64 au.thr) (.slice ba au.ids.length bc) (.int .i64 a8) (.string e6)) from by
   rw [B];refine ((((d.o.set 2 _).set 3 _).set 4 _).set 5 _).congr fun j hj=>?_;rcases j with _|_|_|_|_|_|j <;> first|rfl|omega)
  replace A:=U (A.o.touch c l.o.1 l.o.2.1 l.o.2.2.1);replace y:=U (c.row y.o (by have:=l.o;omega));replace g:=U (g.o.trans (c.below (by have:=g.o.size;omega) fun k hk e=>by have:=l.o;omega));replace z:=U (Z3 z.o c.size);replace q:=U (q.o.carry lz c.size (fun b K D=>c.block b D (by have:=l.o;omega)));replace Z:=U (Z.o.carry lz c.size (fun b K D=>c.block b D (by have:=l.o;omega)));have G:=U B;clear c B;go_upto_region 11 with fail
  rw [<- G.o];clear G e2 f2 e3 f3 e4 f4 e5 f5;go_wp2_with fail;refine (vz be A.o).mono ?_;rintro e b4 ⟨rfl,r,a⟩;rw [<- a7.o] at r;clear a7;replace A:=U r;replace y:=U (a.row y.o (by have:=l.o;omega));replace d:=U (a.row d.o (by have:=l.o;omega));replace g:=U (g.o.trans (a.below (by have:=g.o.size;omega) fun k hk e=>by have:=l.o;omega));replace z:=U (Z3 z.o a.size);replace q:=U (q.o.carry lz a.size (fun b K D=>a.block b D (by have:=l.o;omega)));replace Z:=U (Z.o.carry lz a.size (fun b K D=>a.block b D (by have:=l.o;omega)));clear r a;have HD:=U (yJ A.o HU.o);obtain ⟨dn,b1⟩:=O1 (qb u SP);rw [<- b1] at HD I;clear b1;have hR:=y.o;obtain ⟨t0,t1,t2,t3,t4⟩:=rc5 hR;have t5:=hR.cell (i:=5) (by decide);obtain ⟨s0,s1,s2,s3,s4⟩:=rf5 hR;have s5:=hR.frozen 5;simp only [qZ] at t0 t1 t2 t3 t4 t5;have e0:=d.o.cell (i:=0) (by decide);have f0:=d.o.frozen 0;simp only [qZ] at e0;have e1:=d.o.cell (i:=1) (by decide);have f1:=d.o.frozen 1;simp only [qZ] at e1;have e2:=d.o.cell (i:=2) (by decide);have f2:=d.o.frozen 2;simp only [qZ] at e2;have e3:=d.o.cell (i:=3) (by decide);have f3:=d.o.frozen 3;simp only [qZ] at e3;have e4:=d.o.cell (i:=4) (by decide);have f4:=d.o.frozen 4;simp only [qZ] at e4;have e5:=d.o.cell (i:=5) (by decide);have f5:=d.o.frozen 5;simp only [qZ] at e5;clear hR;go_wp2_with fail;refine HD.o.mono ?_;clear HD;rintro e i5 ⟨rfl,h'⟩;subst h';by_cases hd:dn=0
  case neg =>
   have d1:(dn != 0)=true:=by simpa using hd
   rw [J3 hd] at I;clear hd;go_wp2;refine Z8 (qk Tryz.results33 _ _ (w.heap.size+1) 43 _ (0,0) _ rfl (zX (gY _ _ _ _ _ _ y.o)) Tryz.underlying43 rfl (by kernel_rfl) _ rfl) rfl ?_;refine .inr ⟨rfl,u,HC.o,?_⟩;rw [I.o];exact wN (jh _ _ _ _ _ _ g.o (by omega))
  subst hd;rw [Z6 (by decide)] at I;have N:=O0 (w.heap.size+2<=J.heap.size) (by have:=l.o;omega);go_wp2;refine Z8 (qk Tryz.results33 _ _ (w.heap.size+1) 43 _ (0,0) _ rfl (zX (gY _ _ _ _ _ _ y.o)) Tryz.underlying43 rfl (by kernel_rfl) _ rfl) rfl ?_;refine .inr ⟨rfl,u,HC.o,?_⟩;rw [I.o];have hc:=fun b (K:J.heap.size<=b) (D:b<b4.heap.size)=>cY (W:=b4) (.slice ka kl.length kc) (.slice none 0 0) (.int .i64 au.thr) (.slice ba au.ids.length bc) (.int .i64 a8) (.string e6) (show b≠w.heap.size+1 by have:=N.o;omega);exact ⟨ka,kc,none,0,ba,bc,rfl,J2 _,⟨q.o.carry (by have:=N.o;omega) (Y5 bY.symm) hc,.inl rfl,Z.o.carry (by have:=N.o;omega) (Y5 bY.symm) hc⟩,jh _ _ _ _ _ _ g.o (by omega)⟩
 | false =>
  rw [Z6 (by decide)] at s;have a2:=U (Q1 kB 64 A.o (by decide) (by have:=c7.o;omega));have a1:=U (@ae u kB 64 SS);rw [<- b6.o] at a2 a1;have L:=U a0.o.2;obtain ⟨GR,g3⟩:=O1 (ogR u st);rw [<- g3] at a2 a1 s L;clear g3 a4 b6 a0;obtain ⟨LJ,SL⟩:=GR;dsimp only at a2 a1 s L;go_wp2_with fail;refine a2.o.mono ?_;clear a2;rintro e w9 ⟨⟨al,cl,rfl,-,b2⟩,r,a⟩;have a5:=U (m8 LJ al cl w9 w8.heap.size (by have:=z.o;have:=l.o;omega) (Z3 a1.o.2 HU.o) b2 L.o (Z3 a1.o.1 (by decide)));clear b2;replace A:=U r;replace y:=U (a.row y.o (by have:=l.o;omega));replace d:=U (a.row d.o (by have:=l.o;omega));replace g:=U (g.o.trans (a.below (by have:=g.o.size;omega) fun k hk e=>by have:=l.o;omega));replace z:=U (Z3 z.o a.size);replace q:=U (q.o.carry lz a.size (fun b K D=>a.block b D (by have:=l.o;omega)));clear r a;unfold wL at a5;obtain ⟨GB,a9⟩:=O1 (xU LJ []);rw [<- a9] at a5 s;clear a9;obtain ⟨rs,re⟩:=GB;dsimp only at a5 s;obtain ⟨SP,P⟩:=O1 (SL.fail re);rw [<- P] at s;rw [s.o] at I;dsimp only at I;have a7:=U P;clear P s;go_wp2_with fail;refine a5.o.mono ?_;clear a5;rintro e F ⟨ra,rc,rfl,h7,b3,f⟩;have i0:=U h7;have a6:=O0 (zm F J.heap.size F.heap.size ra rs) (b3.carry z.o lz (fun _ _ _=>rfl));clear b3 h7;replace A:=U (A.o.below f);replace y:=U (qj f y.o y.o.lt);replace d:=U (qj f d.o d.o.lt);replace g:=U (O2 g f);replace z:=U (Z3 z.o f.size);replace q:=U (q.o.below f lz lz f.size);clear f;have e1:=d.o.cell (i:=1) (by decide);have f1:=d.o.frozen 1;simp only [qZ] at e1;obtain ⟨E,B⟩:=O1 (F.setCell ⟨p,1,none⟩ (.slice ra rs.length rc));have c:Touch (fun b=>b=p) F E:=by rw [B];exact (Touch.refl _ _).trans (qp _)
  replace d:=U (show E.rowIs p 43 6 (qZ (.slice ka kl.length kc) (.slice ra rs.length rc) (.int .i64 0) (.slice none 0 0) (.int .i64 0) (.string ⟨#[]⟩)) from by
   rw [B];refine (d.o.set 1 _).congr fun j hj=>?_;rcases j with _|_|_|_|_|_|j <;> first|rfl|omega)
  replace A:=U (A.o.touch c l.o.1 l.o.2.1 l.o.2.2.1);replace y:=U (c.row y.o (by have:=l.o;omega));replace g:=U (g.o.trans (c.below (by have:=g.o.size;omega) fun k hk e=>by have:=l.o;omega));replace z:=U (Z3 z.o c.size);replace q:=U (q.o.carry lz c.size (fun b K D=>c.block b D (by have:=l.o;omega)));replace a6:=U (a6.o.carry lz c.size (fun b K D=>c.block b D (by have:=l.o;omega)));have G:=U B;clear c B;go_upto_region 11 with fail
  rw [<- G.o];clear G e1 f1;go_wp2_with fail;refine (vz re A.o).mono ?_;rintro e b4 ⟨rfl,r,a⟩;rw [<- a7.o] at r;clear a7;replace A:=U r;replace y:=U (a.row y.o (by have:=l.o;omega));replace d:=U (a.row d.o (by have:=l.o;omega));replace g:=U (g.o.trans (a.below (by have:=g.o.size;omega) fun k hk e=>by have:=l.o;omega));replace z:=U (Z3 z.o a.size);replace q:=U (q.o.carry lz a.size (fun b K D=>a.block b D (by have:=l.o;omega)));replace a6:=U (a6.o.carry lz a.size (fun b K D=>a.block b D (by have:=l.o;omega)));clear r a;have HD:=U (yJ A.o HU.o);obtain ⟨dn,b1⟩:=O1 (qb u SP);rw [<- b1] at HD I;clear b1;have hR:=y.o;obtain ⟨t0,t1,t2,t3,t4⟩:=rc5 hR;have t5:=hR.cell (i:=5) (by decide);obtain ⟨s0,s1,s2,s3,s4⟩:=rf5 hR;have s5:=hR.frozen 5;simp only [qZ] at t0 t1 t2 t3 t4 t5;have e0:=d.o.cell (i:=0) (by decide);have f0:=d.o.frozen 0;simp only [qZ] at e0;have e1:=d.o.cell (i:=1) (by decide);have f1:=d.o.frozen 1;simp only [qZ] at e1;have e2:=d.o.cell (i:=2) (by decide);have f2:=d.o.frozen 2;simp only [qZ] at e2;have e3:=d.o.cell (i:=3) (by decide);have f3:=d.o.frozen 3;simp only [qZ] at e3;have e4:=d.o.cell (i:=4) (by decide);have f4:=d.o.frozen 4;simp only [qZ] at e4;have e5:=d.o.cell (i:=5) (by decide);have f5:=d.o.frozen 5;simp only [qZ] at e5;clear hR;go_wp2_with fail;refine HD.o.mono ?_;clear HD;rintro e i5 ⟨rfl,h'⟩;subst h';by_cases hd:dn=0
  case neg =>
   have d1:(dn != 0)=true:=by simpa using hd
   rw [J3 hd] at I;clear hd;go_wp2;refine Z8 (qk Tryz.results33 _ _ (w.heap.size+1) 43 _ (0,0) _ rfl (zX (gY _ _ _ _ _ _ y.o)) Tryz.underlying43 rfl (by kernel_rfl) _ rfl) rfl ?_;refine .inr ⟨rfl,u,HC.o,?_⟩;rw [I.o];exact wN (jh _ _ _ _ _ _ g.o (by omega))
  subst hd;rw [Z6 (by decide)] at I;have N:=O0 (w.heap.size+2<=J.heap.size) (by have:=l.o;omega);go_wp2;refine Z8 (qk Tryz.results33 _ _ (w.heap.size+1) 43 _ (0,0) _ rfl (zX (gY _ _ _ _ _ _ y.o)) Tryz.underlying43 rfl (by kernel_rfl) _ rfl) rfl ?_;refine .inr ⟨rfl,u,HC.o,?_⟩;rw [I.o];have hc:=fun b (K:J.heap.size<=b) (D:b<b4.heap.size)=>cY (W:=b4) (.slice ka kl.length kc) (.slice ra rs.length rc) (.int .i64 0) (.slice none 0 0) (.int .i64 0) (.string ⟨#[]⟩) (show b≠w.heap.size+1 by have:=N.o;omega);exact ⟨ka,kc,ra,rc,none,0,rfl,i0.o,⟨q.o.carry (by have:=N.o;omega) (Y5 bY.symm) hc,a6.o.carry (by have:=N.o;omega) (Y5 bY.symm) hc,.inl rfl⟩,jh _ _ _ _ _ _ g.o (by omega)⟩
theorem rC {x:JV} (h:x.partB=true):∀y ∈ x.items,y.partB=true:=by rw [JV.partB_eq,J5] at h;exact fs h.2
theorem fU {x:JV} (h:x.partB=true) (a:x.kind=5):qd x.names=true/\x.names.length=x.items.length:=⟨(fu h a).2.2.1,(fu h a).2.1⟩
theorem rL {u:JV} {st:PS} (h:uB u\/u=zeroJ):cj u st:=by
 have a:∀(y:ByteArray) (it:JV),u.look y=some it->it.kind≠0->it.partB=true:=fun y it hit hk=>by
  rcases h with h|rfl
  . exact QO h hit hk
  . cases (show (none:Option JV)=some it from hit)
 refine ⟨fun hk=>?_,fun v hv hk=>?_⟩
 . revert hk
   unfold ogO qf;split
   . intro hk;cases hk
   . split
     . intro hk;cases hk
     . rename_i it hit;split
       . intro hk;cases hk
       . split
         . intro hk;cases hk
         . intro hk;exact fU (a _ _ hit (by rw [hk];decide)) hk
 . revert hv
   unfold ogR qW;split
   . intro hv;cases hv
   . split
     . intro hv;cases hv
     . rename_i it hit;split
       . intro hv;cases hv
       . split
         . intro hv;cases hv
         . rename_i b _;intro hv;have b:it.kind=4:=by simpa using b
           exact fU (rC (a _ _ hit (by rw [b];decide)) v hv) hk
theorem px (v:JV) (x:Value) (w:World) (lo:Nat) (g:0<lo) (d:v.wt<=4294967296) (f:Rep w lo w.heap.size v x) (i:Tabs w) :
 Calls Tryz.prog 33 #[x] w (je (zb v) w):=by
 cases hmb:v.mayB with
 | false =>
  refine (uA (fun u=>False) (st0 v) v x w d (f.carry (J0 _) lz (fun _ _ _=>rfl)) (by unfold st0;split <;> simp) i (fun u a=>a.elim) (fun b=>by rw [hmb] at b;cases b)).mono ?_;rintro e w' (⟨b,h⟩|⟨b,u,a,h⟩)
  . have:zb v=(zU,3):=by unfold zb;rw [J3 hmb]
    rw [this];exact h
  . exact a.elim
 | true =>
  have c:v.kind=5->uB v:=fm hmb;refine (uA (zC v) (st0 v) v x w d (f.carry (J0 _) lz (fun _ _ _=>rfl)) (by unfold st0;split <;> simp) i (fun u a=>rL (by
   unfold zC at a;by_cases h5:v.kind=5
   . rw [J3 h5] at a;rw [a];exact .inl (c h5)
   . rw [Z6 h5] at a;exact .inr a)) (fun b w1 hb=>dB d g hb.size (f.below hb lz lz lz) (fun hk=>⟨(c hk).2.2.1,(c hk).2.2.2.1⟩))).mono ?_
  rintro e w' (⟨b,h⟩|⟨b,u,a,h⟩)
  . rw [hmb] at b;cases b
  . unfold zC at a;unfold st0 at h;by_cases hk:v.kind=5
    . rw [J3 hk] at a h;subst a;have:zb u=pZ u ⟨[],0⟩:=by unfold zb;rw [Z6 (by rw [hmb];decide),Z6 (by simp [hk])];rfl
      rw [this];exact h
    . rw [Z6 hk] at a h;subst a;have:zb v=(zU,10):=by unfold zb;rw [Z6 (by rw [hmb];decide),J3 hk]
      rw [this];rw [lm] at h;exact h
theorem aQ (l m:List Key2) (a b:Option Addr) (c d:Nat) (w:World) (hA:qJ w 0 w.heap.size a l) (hB:qJ w 0 w.heap.size b m) (hl:l.length<=4294967296) (_hm:m.length<=4294967296) :
 Calls Tryz.prog 77 #[.slice a l.length c,.slice b m.length d] w fun e w'=>e=.returned (.bool (decide (l=m)))/\O5 w w':=by
 have S:=U hA;have T:=U hB;clear hA hB;by_cases hlm:l.length=m.length
 case neg =>
  have I:((l.length:Int) != (m.length:Int))=true:=by simp;omega
  have V:=O0 (decide (l=m)=false) (X0 fun e=>hlm (by rw [e]));go_enter Tryz.func77,Tryz.ntmps77;go_wp2;go_ret;exact ⟨by rw [V.o];rfl,Z0 _ _⟩
 obtain ⟨n,J⟩:=O1 l.length;have r:=U J;have s:=U (show n=m.length by rw [J,hlm]);rw [<- hlm,<- J];have W:n<=4294967296:=by omega
 clear hlm J hl;go_enter Tryz.func77,Tryz.ntmps77;go_wp2_with fail;go_loopw [5] (fun i wr=>∃k:Nat,k<=n/\i=.int .i64 k/\l.take k=m.take k/\O5 w wr) (fun i _=>n - (intOf i).toNat)
 case atStart=>exact ⟨0,by omega,rfl,rfl,Z0 _ _⟩
 case round =>
  obtain ⟨k,Y,rfl,D,A⟩:=hrel;have u:=U D;have h:=U A;clear D A;by_cases hlt:k<n
  . have B:k<l.length:=by rw [<- r.o];exact hlt
    have C:k<m.length:=by rw [<- s.o];exact hlt
    obtain ⟨p,f,M,_,Z,E,F⟩:=(S.o.below h.o lz lz lz).at k B;subst M;obtain ⟨q,g,M,_,hq,G,H⟩:=(T.o.below h.o lz lz lz).at k C;subst M;have v:=O0 (l[k]=m[k]->l.take (k+1)=m.take (k+1)) (fun e=>by rw [Z7 B,Z7 C,u.o,e]);have j:=O0 (l[k]≠m[k]->decide (l=m)=false) (fun e=>X0 fun e2=>e (by subst e2;rfl));obtain ⟨x,K⟩:∃x:Key2,x=l[k]:=⟨_,rfl⟩;obtain ⟨y,L⟩:∃y:Key2,y=m[k]:=⟨_,rfl⟩;replace E:=E.trans (J6 (fun z:Key2=>some (Value.string z.1)) K.symm);replace F:=F.trans (J6 (fun z:Key2=>some (Value.string z.2)) K.symm);replace G:=G.trans (J6 (fun z:Key2=>some (Value.string z.1)) L.symm);replace H:=H.trans (J6 (fun z:Key2=>some (Value.string z.2)) L.symm);rw [<- K,<- L] at v j;clear K L;obtain ⟨P,N⟩:=x;obtain ⟨R,Q⟩:=y;replace E:wr.cell? ⟨p,f+k * 2,none⟩=some (.string P):=E;replace F:wr.cell? ⟨p,f+k * 2+1,none⟩=some (.string N):=F;replace G:wr.cell? ⟨q,g+k * 2,none⟩=some (.string R):=G;replace H:wr.cell? ⟨q,g+k * 2+1,none⟩=some (.string Q):=H;have m1:(0:Int)<=(k:Int):=by omega
    have m2:(k:Int)<(n:Int):=by omega
    have X:decide ((k:Int)<(n:Int))=true:=by simpa using hlt
    cases I:(P.toList == R.toList)
    . have o:=U (j.o fun e=>by rw [(Prod.mk.inj e).1] at I;simp at I);go_wp2_with fail;go_quiet (fail);go_wp2;go_ret;exact ⟨by rw [o.o];rfl,Below.drewN h.o _⟩
    . cases h2:(N.toList == Q.toList)
      . have o:=U (j.o fun e=>by rw [(Prod.mk.inj e).2] at h2;simp at h2);go_wp2_with fail;go_quiet (fail);go_wp2;go_ret;exact ⟨by rw [o.o];rfl,Below.drewN h.o _⟩
      . have o:=U (v.o (by rw [gL (eq_of_beq I),gL (eq_of_beq h2)]));go_wp2_with fail;go_quiet (fail);go_wp2;go_roundw
        case rel=>exact ⟨k+1,by omega,by go_num,o.o,Below.drewN h.o _⟩
        case measure=>simp [intOf];omega
  . have X:decide ((k:Int)<(n:Int))=false:=by simpa using hlt
    have o:=U (show decide (l=m)=true from X3 (by
     have:=u.o;rwa [J4 (by rw [<- r.o];omega),J4 (by rw [<- s.o];omega)] at this))
    go_wp2;go_ret;exact ⟨by rw [o.o];rfl,h.o⟩
theorem ez {m:List Key2} (a:∀k ∈ m,ok2 k=true) (b:qd (ids m)=true) (c:m.length<=32):yc m=0:=by unfold yc;rw [Z6 (by omega)];exact (wR m []).2 ⟨a,by simp,dd b⟩
