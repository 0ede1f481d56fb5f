import Derived.Test.YthgembbgcbaghaaGreatDoorDg38
import Derived.Test.YthgembbgcbaghaaGreatDoorDg32
import Derived.Test.YthgembbgcbaghaaGreatDoorDg37
set_option maxHeartbeats 8000000
set_option maxRecDepth 100000

namespace Go.Proofs.YthgembbgcbaghaaGreatDoor
open Go.RowKit
def ZB (s t:ByteArray):JV:=if zd s.data.toList t.data.toList then jt s t else zJ
def ZP (s t:ByteArray):Int:=if zd s.data.toList t.data.toList then 0 else 3
def pU (u:JV) (er:Int) (w:World) (e:Ending) (w':World):Prop :=
 ∃an cn ai ci,e=.returned (.tuple #[.agg #[.int .u8 u.kind,.int .i64 u.n,.string u.t,.slice an u.names.length cn,.slice ai u.items.length ci],.int .i64 er]) /\
  Rep w' w.heap.size w'.heap.size u (.agg #[.int .u8 u.kind,.int .i64 u.n,.string u.t,.slice an u.names.length cn,.slice ai u.items.length ci])/\O5 w w'
theorem mD (w:World) (lo hi:Nat):Rep w lo hi zJ zeroAgg:=by unfold zJ Rep;exact ⟨none,0,none,0,rfl,J9 _,J9 _,.inl rfl,.inl rfl⟩
theorem ur (s t:ByteArray) (w:World) (h:s.size<=4294967000) (i:t.size<=4294967000):Calls Tryz.prog 161 #[.agg #[.string s,.string t]] w (pU (ZB s t) (ZP s t) w):=by
 unfold ZB ZP;cases hk:zd s.data.toList t.data.toList
 . refine (uB s t w h i hk).mono ?_;rintro e w' ⟨rfl,a⟩;exact ⟨none,0,none,0,rfl,mD _ _ _,a⟩
 . refine (ul s t w h i hk).mono ?_;rintro e w' ⟨c,f,b,d,rfl,g,a⟩;exact ⟨c,f,b,d,rfl,g,a⟩
open Go.Shelf Go.Sort
theorem tA {w:World} {a e n cn:Nat} {an:Option Addr} {c:List Value} (h:w.ownsRow a e 1 (.slice an n cn) n c):n=0\/∃b,an=some ⟨b,0,none⟩/\a<=b/\ZS w b 0 n:=by
 rcases h.2 with ⟨_,h0⟩|⟨g,cap,cur,hv,hg,hh,hc,_,hs,_⟩
 . exact .inl h0
 . simp only [K6,zc8] at hv;obtain ⟨rfl,rfl⟩:=hv;exact .inr ⟨g,rfl,hg,cur,e,hh,by rw [hs];omega⟩
def dx (u:JV) (er:Int) (w:World) (e:Ending) (w':World):Prop :=
 ∃an cn ai ci,e=.returned (.tuple #[.agg #[.int .u8 u.kind,.int .i64 u.n,.string u.t,.slice an u.names.length cn,.slice ai u.items.length ci],.int .i64 er]) /\
  Rep w' w.heap.size w'.heap.size u (.agg #[.int .u8 u.kind,.int .i64 u.n,.string u.t,.slice an u.names.length cn,.slice ai u.items.length ci])/\O5 w w' /\
  (u.names.length=0\/∃b,an=some ⟨b,0,none⟩/\w.heap.size<=b/\ZS w' b 0 u.names.length)
theorem dx.val {u:JV} {j:Int} {w:World} {e:Ending} {w':World} (h:dx u j w e w'):pU u j w e w':=by obtain ⟨b,d,a,c,f,g,i,_⟩:=h;exact ⟨b,d,a,c,f,g,i⟩
def QC (l:List Key2) (w:World) (e:Ending) (w':World):Prop :=
 (yb l≠0/\e=.returned (.tuple #[zeroAgg,.int .i64 (yb l)])/\O5 w w') \/
 (yb l=0/\∃m:List Key2,m.Perm l/\qo (ids m)=true/\dx (zt m) 0 w e w')
structure TabAt (w wr:World) (v:Value) (l:List Key2) (k:Nat) (zs:List (Mem × Key2)):Prop where
 below:O5 w wr
 res:wr.rowIs w.heap.size 25 5 (qZ (.int .u8 0) (.int .i64 0) (.string ⟨#[]⟩) (.slice none 0 0) (.slice none 0 0))
 own:wr.ownsRow (w.heap.size+1) 120 6 v k ((zs.map (·.1)).flatMap qW)
 row:xL wr (w.heap.size+1) (fun b=>v.ownBlock=some b) zs
 keys:zs.map (·.2)=l.take k
 err:jA [] l=jA (ids (l.take k)) (l.drop k)
theorem TabAt.later {w wr w':World} {v:Value} {l:List Key2} {k:Nat} {c:List (Mem × Key2)} (h:TabAt w wr v l k c) (a:O5 wr w'):TabAt w w' v l k c where
 below:=h.below.trans (a.mono h.below.size)
 res:=qj a h.res h.res.lt
 own:=qM h.own a
 row:=h.row.carry a.size (fun b hb' _ _=>a.block b hb') (fun _ hx=>.inl hx)
 keys:=h.keys
 err:=h.err
theorem TabAt.len {w wr:World} {v:Value} {l:List Key2} {k:Nat} {a:List (Mem × Key2)} (h:TabAt w wr v l k a) (b:k<=l.length):a.length=k:=by have:=Y2 List.length h.keys;simpa [b] using this
theorem TabAt.slice {w wr:World} {v:Value} {l:List Key2} {k:Nat} {f:List (Mem × Key2)} (h:TabAt w wr v l k f) (i:k<=l.length):(v=.slice none 0 0/\k=0)\/∃g cap,v=.slice (some ⟨g,0,none⟩) k cap/\w.heap.size<g/\g<wr.heap.size/\k<=cap /\
 ∀j c (hj:j<f.length),c<6->wr.cell? ⟨g,j * 6+c,none⟩=some ((qW f[j].1)[c]!):=by
 have e:=h.len i;rcases h.own.2 with ⟨rfl,h0⟩|⟨g,cap,cur,rfl,hg,hh,hc,_⟩
 . exact .inl ⟨rfl,h0⟩
 . refine .inr ⟨g,cap,rfl,by omega,qx hh,hc,fun j c hj hc6=>?_⟩;have d:=flat_get (ms:=f.map (·.1)) j c (by simpa using hj) hc6;have a:=h.own.cells (g:=g) rfl (j * 6+c) _ d;have b:(⟨g,0,none⟩:Addr).add (j * 6+c)=⟨g,j * 6+c,none⟩:=by unfold Addr.add;split <;> simp_all
   rw [b] at a;simpa using a
theorem tT:(Tryz.prog.info? 120).map (fun i=>(i.zero,i.size,i.bytes))=some (some (.agg #[.string ⟨#[]⟩,.int .u8 0,.int .i64 0,.string ⟨#[]⟩,.slice none 0 0,.slice none 0 0]),6,96):=by kernel_rfl
theorem TabAt.snoc {w wr r s:World} {v:Value} {l:List Key2} {k g cap lo hi:Nat} {y:List (Mem × Key2)} (x:Mem) (h:TabAt w wr v l k y) (z:k<l.length) (m:O5 wr r)
 (C:x.name=id2 l[k]) (u:ok2 l[k]=true) (q:jl (ids (l.take k)) (id2 l[k])=false)
 (B:wr.heap.size<=lo) (A:hi<=r.heap.size) (D:Rep r lo hi (obj2 l[k]) x.val)
 (o:r.grownBy s v.ownBlock) (p:v.ownBlock=some g\/r.heap.size<=g)
 (ho:s.ownsRow (w.heap.size+1) 120 6 (.slice (some ⟨g,0,none⟩) (k+1) cap) (k+1) ((y.map (·.1)).flatMap qW ++ qW x)) :
 TabAt w s (.slice (some ⟨g,0,none⟩) (k+1) cap) l (k+1) (y ++ [(x,l[k])]):=by
 have d:=h.res.lt;have a:∀b,v.ownBlock=some b->w.heap.size+1<=b/\b<wr.heap.size:=fun b hb=>h.own.lt b hb;have i:=m.size;have j:=o.size;have f:∀b,b<wr.heap.size->v.ownBlock≠some b->s.heap[b]?=wr.heap[b]?:=fun b hb hne=>by rw [o.block b (by omega) (fun e=>hne e.symm)];exact m.block b hb
 have c:∀b,(Value.slice (some ⟨g,0,none⟩) (k+1) cap).ownBlock=some b->b=g:=fun b hb=>by simp [Value.ownBlock] at hb;exact hb.symm
 refine ⟨⟨?_,?_,?_,by have:=h.below.size;omega,fun b hb=>?_⟩,h.res.of_block (f _ d (fun e=>by have:=(a _ e).1;omega)),?_,?_,?_,?_⟩
 . rw [o.os,m.os,h.below.os]
 . rw [o.tape,m.tape,h.below.tape]
 . rw [o.output,m.output,h.below.output]
 . rw [f b (by omega) (fun e=>by have:=(a _ e).1;omega)];exact h.below.block b hb
 . simpa [List.flatMap_append] using ho
 . refine xL.snoc (h.row.carry (by omega) (fun b hb hne _=>f b hb hne) fun b hx=>?_) x l[k] lo hi C (by omega) (by omega) (fun b hx hb=>?_) (Rep.carry lz lz (fun b h1 h2=>o.block b (by omega) (fun e=>by have:=(a b e.symm).2;omega)) _ _ D)
   . rw [c b hx];rcases p with ha|ha
     . exact .inl ha
     . exact .inr (.inl (by omega))
   . rw [c b hx] at hb;rcases p with ha|ha
     . have:=(a g ha).2;omega
     . omega
 . rw [M1,h.keys,J7 z];rfl
 . rw [h.err,pf l k z,J8 u,J3 (by rw [q];simp)]
theorem TabAt.sliced {w wr:World} {v:Value} {l:List Key2} {k:Nat} {a:List (Mem × Key2)} (h:TabAt w wr v l k a) (b:k<=l.length):∃av cap,v=.slice av k cap/\((k=0/\av=none/\cap=0)\/∃g,av=some ⟨g,0,none⟩/\w.heap.size<g/\g<wr.heap.size /\
 ∀j c (d:j<a.length),c<6->wr.cell? ⟨g,j * 6+c,none⟩=some ((qW a[j].1)[c]!)):=by
 rcases h.slice b with ⟨rfl,rfl⟩|⟨g,cap,rfl,h1,h2,_,h4⟩
 . exact ⟨none,0,rfl,.inl ⟨rfl,rfl,rfl⟩⟩
 . exact ⟨_,cap,rfl,.inr ⟨g,rfl,h1,h2,h4⟩⟩
theorem TabAt.names {w wr:World} {v:Value} {l:List Key2} {k:Nat} {a:List (Mem × Key2)} (h:TabAt w wr v l k a):ids (l.take k)=a.map (fun z=>z.1.name):=by rw [<- h.keys];unfold ids;rw [List.map_map];exact List.map_congr_left fun z hz=>(h.row z hz).1.symm
theorem TabAt.hit {w wr:World} {v:Value} {l:List Key2} {k:Nat} {a:List (Mem × Key2)} (h:TabAt w wr v l k a) (x:ByteArray) (j:Nat) (c:j<a.length) (b:(a[j].1.name.toList == x.toList)=true):jl (ids (l.take k)) x=true:=by rw [h.names];unfold jl;rw [List.any_map,zd4];exact ⟨a[j],X6 c,b⟩
theorem TabAt.fresh {w wr:World} {v:Value} {l:List Key2} {k:Nat} {a:List (Mem × Key2)} (h:TabAt w wr v l k a) (x:ByteArray) (c:∀j (b:j<a.length),(a[j].1.name.toList == x.toList)=false):jl (ids (l.take k)) x=false:=by rw [h.names];unfold jl;rw [List.any_map,List.any_eq_false];intro z hz;obtain ⟨j,b,rfl⟩:=V4 hz;show ¬(a[j].1.name.toList == x.toList)=true;rw [c j b];simp
structure SortedAt (w w':World) (av:Option Addr) (l m:List Key2) (zs:List (Mem × Key2)):Prop where
 perm:m.Perm l
 keys:zs.map (·.2)=m
 rise:qo (ids m)=true
 below:O5 w w'
 res:w'.rowIs w.heap.size 25 5 (qZ (.int .u8 0) (.int .i64 0) (.string ⟨#[]⟩) (.slice none 0 0) (.slice none 0 0))
 row:xL w' (w.heap.size+1) (fun _=>False) zs
 cells:l.length=0\/∃g,av=some ⟨g,0,none⟩/\g<w'.heap.size/\∀j c (hj:j<zs.length),c<6->w'.cell? ⟨g,j * 6+c,none⟩=some ((qW zs[j].1)[c]!)
theorem TabAt.sorted {w wr:World} {R:Option Addr} {cap:Nat} {l:List Key2} {S:List (Mem × Key2)} (h:TabAt w wr (.slice R l.length cap) l l.length S) (V:l.length<=4294967)
 (T:(l.length=0/\R=none/\cap=0)\/∃g,R=some ⟨g,0,none⟩/\w.heap.size<g/\g<wr.heap.size) :
 Calls Tryz.prog 88 #[.slice R l.length cap,.func (.func 89) #[] #[]] wr fun e w'=>e=.returned (.tuple #[])/\∃m zs',SortedAt w w' R l m zs':=by
 have f:=h.len lz;have I:=h.err;rw [zd5,List.drop_length] at I;obtain ⟨N,_,D⟩:=(wD l []).1 I;have d:=h.keys;rw [zd5] at d;rcases T with ⟨h0,rfl,rfl⟩|⟨g,rfl,hg1,hg2⟩
 . rw [h0];have Q:l=[]:=Y8 h0;subst Q;refine (QH wr).mono ?_;rintro e w' ⟨rfl,rfl⟩;have F:S=[]:=Y8 f;subst F;exact ⟨rfl,[],[],List.Perm.refl _,rfl,rfl,h.below,h.res,xL.nil _ _ _,.inl rfl⟩
 . have L:=nL h.own;have r:(S.map (·.1)).toArray.size=l.length:=by simp [f]
   have H:=QF g 0 cap (S.map (·.1)).toArray wr L hg2 (by omega);rw [r] at H;refine H.mono ?_;rintro e w' ⟨rfl,A,⟨E,P,y⟩,B,z⟩;refine ⟨rfl,?_⟩;rw [r] at E y;obtain ⟨zs',q,C⟩:=lB (·.1) (by simpa using P) S rfl;have M:zs'.length=l.length:=by rw [q.length_eq];exact f
   have p:∀i (hi:i<zs'.length),A[i]! = zs'[i].1:=fun i hi=>by
    have e:A.toList[i]?=(zs'.map (·.1))[i]?:=by rw [C]
    rw [List.getElem?_map,V3 hi] at e;have a:i<A.size:=by omega
    rw [getElem!_pos A i a];rw [Array.getElem?_toList,K0 a] at e;exact Y9 e
   have o:xL w' (w.heap.size+1) (fun _=>False) zs':=(h.row.carry z.size (fun b hb k _=>z.block b hb (fun e=>k (by rw [e];rfl))) (fun b hx=>hx.elim)).perm q;have x:(zs'.map (·.2)).Perm l:=by rw [<- d];exact q.map _
   have v:∀i (hi:i<zs'.length),zs'[i].1.name=id2 zs'[i].2:=fun i hi=>(o _ (X6 hi)).1;refine ⟨zs'.map (·.2),zs',x,rfl,?_,h.below.trans (z.below h.below.size fun b hb e=>by omega),z.row h.res (by omega),o,.inr ⟨g,rfl,by have:=z.size;omega,fun j c hj T=>?_⟩⟩
   . have u:(ids (zs'.map (·.2))).Nodup:=((x.map id2).nodup_iff).2 D;refine mG fun i j hi hj hij=>?_;have a:i<zs'.length:=by simpa [ids] using hi
     have s:j<zs'.length:=by simpa [ids] using hj
     have J:(ids (zs'.map (·.2)))[i]=zs'[i].1.name:=by rw [v i a];simp [ids]
     have K:(ids (zs'.map (·.2)))[j]=zs'[j].1.name:=by rw [v j s];simp [ids]
     have k:(ids (zs'.map (·.2)))[i]≠(ids (zs'.map (·.2)))[j]:=fun e=>by exact (M8.1 u) i j hi hj hij e
     rw [J,K] at k ⊢;have G:=y i j hij (by omega);rw [p i a,p j s] at G;cases hb:bl zs'[i].1.name zs'[j].1.name
     . exact absurd (ce hb G) k
     . rfl
   . have:=(HoldsK.cell B (i:=j) (c:=c) (by omega) T).1;rw [p j hj] at this;simpa using this
theorem eB (l:List Key2) (a:Option Addr) (c:Nat) (w:World) (hK:xu w 0 w.heap.size a l) (hl:l.length<=4294967) (hs:∀k ∈ l,k.1.size<=300/\k.2.size<=300) (hT:Tabs w) :
 Calls Tryz.prog 37 #[.slice a l.length c] w (QC l w):=by
 have HK:=U hK;have HS:=U hs;have HT:=U hT;clear hK hs hT;have l3:=U (qh w (.int .u8 0) (.int .i64 0) (.string ⟨#[]⟩) (.slice none 0 0) (.slice none 0 0) 25);have f5:=O0 (O5 w (w.alloc (.cells #[.int .u8 0,.int .i64 0,.string ⟨#[]⟩,.slice none 0 0,.slice none 0 0] 25))) O4;by_cases h32:l.length<=32
 case neg =>
  have c7:decide (32<l.length)=true:=by simp;omega
  have c9:decide (32<(l.length:Int))=true:=by simp;omega
  have HE:=U (show yb l=5 by unfold yb;rw [J8 (by omega)]);go_enter Tryz.func37,Tryz.ntmps37;go_wp2;refine X4 (qk Tryz.results37 _ _ w.heap.size 25 _ (0,0) _ rfl (J2 w _) X8 rfl (by kernel_rfl) _ rfl) rfl (.inl ⟨by rw [HE.o];decide,by rw [HE.o];rfl,f5.o⟩)
 have c7:decide (32<l.length)=false:=by simp;omega
 have c9:decide (32<(l.length:Int))=false:=by simp;omega
 have HE:=U (show yb l=jA [] l by unfold yb;rw [J3 (by omega)]);obtain ⟨i3,m7,o2,o3,o4⟩:=K9 tT;go_enter Tryz.func37,Tryz.ntmps37;go_wp2;go_loopw [4,6,7,8,10,20] (fun v _ _ _ _ i wr=>∃(k:Nat) (P:List (Mem × Key2)),k<=l.length/\i=.int .i64 k/\TabAt w wr v l k P) (fun _ _ _ _ _ i _=>l.length - (intOf i).toNat)
 case atStart=>exact ⟨0,[],by omega,rfl,f5.o,l3.o,W8 _ _ _ _,xL.nil _ _ _,by simp,by simp [ids]⟩
 case round =>
  obtain ⟨k,P,hk,rfl,hA⟩:=hrel;have HA:=U hA;have s9:w.heap.size<wr.heap.size:=hA.res.lt;by_cases hlt:k<l.length
  . obtain ⟨b,k1,ha,_,hb,e0,e1⟩:=(HK.o.below hA.below lz lz hA.below.size).at k hlt;subst ha;obtain ⟨c2,c5⟩:=HS.o l[k] (X6 hlt);have b7:=U (pf l k hlt);have l0:=U hlt;obtain ⟨x,hx⟩:=O1 (l[k]);have HX:=U hx;replace e0:=e0.trans (Y2 (fun z:Key2=>some (Value.string z.1)) hx.symm);replace e1:=e1.trans (Y2 (fun z:Key2=>some (Value.string z.2)) hx.symm);replace c2:x.1.size<=300:=hx ▸ c2;replace c5:x.2.size<=300:=hx ▸ c5;replace b7:=O0 (jA (ids (l.take k)) (l.drop k)=if ok2 x then (if jl (ids (l.take k)) (id2 x) then 7 else jA (ids (l.take (k+1))) (l.drop (k+1))) else 3) (hx ▸ b7.o);clear hx hA;obtain ⟨xs,xp⟩:=x;replace c2:xs.size<=300:=c2;replace c5:xp.size<=300:=c5;replace e0:wr.cell? ⟨b,k1+k * 2,none⟩=some (.string xs):=e0;replace e1:wr.cell? ⟨b,k1+k * 2+1,none⟩=some (.string xp):=e1;have e2:=O0 (O5 wr (wr.alloc (.cells #[.string xs,.string xp] 43))) O4;have g9:=U ((HT.o.below HA.o.below).below e2.o);cases hok:zd xs.data.toList xp.data.toList
    . have B:=U (nD xs xp (wr.alloc (.cells #[.string xs,.string xp] 43)) (by omega) (by omega) g9.o hok);have I:=U (show yb l=3 by rw [HE.o,HA.o.err,b7.o];unfold ok2;rw [J3 (by simp [hok])]);clear hok;unfold Q8 at B;go_wp2_with fail;refine B.o.mono ?_;clear B;rintro e A ⟨rfl,X⟩;have J:=e2.o.trans (X.mono (by simp));have u:=J.alloc J.size (.cells #[.string ⟨#[]⟩,.int .u8 0,.int .i64 0,.string ⟨#[]⟩,.slice none 0 0,.slice none 0 0] 120);have Q:=U (HA.o.later u);have f:=Q.o.res;obtain ⟨t0,t1,t2,t3,t4⟩:=rc5 f;obtain ⟨s0,s1,s2,s3,s4⟩:=rf5 f;simp only [qZ] at t0 t1 t2 t3 t4;clear f X J u;go_wp2;refine X4 (qk Tryz.results37 _ _ w.heap.size 25 _ (0,0) _ rfl (qr (set5 _ _ _ _ _ Q.o.res)) X8 rfl (by kernel_rfl) _ rfl) rfl (.inl ⟨by rw [I.o];decide,by rw [I.o];rfl,zj _ _ _ _ _ Q.o.below lz⟩)
    . have B:=U (lY xs xp (wr.alloc (.cells #[.string xs,.string xp] 43)) (by omega) (by omega) g9.o hok);have g7:=U hok;clear hok;unfold nC at B;obtain ⟨p,e6⟩:=O1 (aM xs xp);rw [<- e6] at B;have e4:=U e6;clear e6;go_wp2_with fail;refine B.o.mono ?_;clear B;rintro e A ⟨E,G,D,F,rfl,j3,X⟩;have J:=e2.o.trans (X.mono (by simp));have t5:wr.heap.size+1<=A.heap.size:=by have:=X.size;simpa using this
      obtain ⟨W1,V⟩:=O1 (A.alloc (.cells #[.string p,.int .u8 5,.int .i64 0,.string ⟨#[]⟩,.slice E 2 G,.slice D 2 F] 120));have u:O5 wr W1:=by rw [V];exact J.alloc J.size _
      have d7:=U u;have Q:=U (HA.o.later u);have m0:=U (show W1.heap[A.heap.size]?=some (.cells #[.string p,.int .u8 5,.int .i64 0,.string ⟨#[]⟩,.slice E 2 G,.slice D 2 F] 120 (0,0)) by rw [V];exact J2 A _);have l5:=U (show Rep W1 (wr.heap.size+1) A.heap.size (jt xs xp) (.agg #[.int .u8 5,.int .i64 0,.string ⟨#[]⟩,.slice E 2 G,.slice D 2 F]) by
       rw [V];exact Rep.carry (by simp) lz (fun b _ h=>Y4 _ _ _ h) _ _ j3)
      have h8:W1.heap.size=A.heap.size+1:=by rw [V];simp
      have h7:=U h8;obtain ⟨av,cap,rfl,c6⟩:=HA.o.sliced hk;have i7:P.length=k:=HA.o.len hk;have h6:=U V;clear V u J j3 X e0 e1 c6 h8;obtain ⟨wo,rfl⟩:∃wo:World,wo=wr:=⟨_,rfl⟩;go_wp2_with fail;rw [<- h6.o];clear h6;go_loopw [10,35] (fun _ i wr=>∃j:Nat,j<=k/\i=.int .i64 j/\(∀q (hq:q<P.length),q<j->(P[q].1.name.toList == p.toList)=false)/\O5 W1 wr) (fun _ i _=>k - (intOf i).toNat)
      case atStart=>exact ⟨0,by omega,rfl,fun q _ h=>by omega,J0 _ _⟩
      case round =>
       obtain ⟨j,hj,rfl,j1,b9⟩:=hrel;have g6:=U j1;have a2:=U b9;have a0:=U (Q.o.later b9);have s:wr.heap[A.heap.size]?=some (.cells #[.string p,.int .u8 5,.int .i64 0,.string ⟨#[]⟩,.slice E 2 G,.slice D 2 F] 120 (0,0)):=by rw [b9.block _ (by rw [h7.o];omega)];exact m0.o
       have p2:=U s;have o1:A.heap.size<wr.heap.size:=qx s;have x0:=qq s (j:=0) rfl;clear j1 b9;by_cases hjk:j<k
       . have K:j<P.length:=by omega
         obtain ⟨g,ha,s6,i0,d⟩:∃g,av=some ⟨g,0,none⟩/\w.heap.size<g/\g<wr.heap.size/\∀j c (hj:j<P.length),c<6->wr.cell? ⟨g,j * 6+c,none⟩=some ((qW P[j].1)[c]!):=by
          obtain ⟨p3,o5,hv,hc⟩:=a0.o.sliced hk;simp only [K6,zc8] at hv;obtain ⟨rfl,rfl⟩:=hv;rcases hc with ⟨h0,_⟩|hc
          . omega
          . exact hc
         subst ha;have y0:=d j 0 K (by decide);have y1:=d j 1 K (by decide);have y2:=d j 2 K (by decide);have y3:=d j 3 K (by decide);have y4:=d j 4 K (by decide);have y5:=d j 5 K (by decide);have a9:=U (a0.o.hit p j K);have b0:=U (show (P[j].1.name.toList == p.toList)=false->∀q (hq:q<P.length),q<j+1->(P[q].1.name.toList == p.toList)=false from fun h q hq hqj=>by
          by_cases e:q=j
          . subst e;exact h
          . exact g6.o q hq (by omega))
         clear d s;generalize P[j].1=mj at y0 y1 y2 y3 y4 y5 a9 b0;simp only [qW,za9,List.getElem!_cons_zero,List.getElem!_cons_succ] at y0 y1 y2 y3 y4 y5;have t6:(wr.alloc (.cells #[.string mj.name,.int .u8 mj.k,.int .i64 mj.n,.string mj.t,.slice mj.an mj.nn mj.cn,.slice mj.ai mj.ni mj.ci] 120)).cell? ⟨A.heap.size,0,none⟩=some (.string p):=(ql _ o1).trans x0;have f6:=O0 (O5 W1 (wr.alloc (.cells #[.string mj.name,.int .u8 mj.k,.int .i64 mj.n,.string mj.t,.slice mj.an mj.nn mj.cn,.slice mj.ai mj.ni mj.ci] 120))) (a2.o.alloc a2.o.size _);have d6:=U (Q.o.later f6.o);have m2:(0:Int)<=(j:Int):=by omega
         have m3:(j:Int)<(k:Int):=by omega
         cases hq:(mj.name.toList == p.toList)
         . have e5:=U (b0.o hq);clear a9 b0;go_wp2;go_roundw
           case rel=>exact ⟨j+1,by omega,by go_num,e5.o,f6.o⟩
           case measure=>simp [intOf];omega
         . have I:=U (show yb l=7 by
            rw [HE.o,HA.o.err,b7.o];unfold ok2 id2;rw [J8 g7.o,J8 (by have:=a9.o hq;rw [e4.o] at this;exact this)])
           have f:=d6.o.res;obtain ⟨t0,t1,t2,t3,t4⟩:=rc5 f;obtain ⟨s0,s1,s2,s3,s4⟩:=rf5 f;simp only [qZ] at t0 t1 t2 t3 t4;clear f a9 b0;go_wp2;refine X4 (qk Tryz.results37 _ _ w.heap.size 25 _ (0,0) _ rfl (qr (set5 _ _ _ _ _ d6.o.res)) X8 rfl (by kernel_rfl) _ rfl) rfl (.inl ⟨by rw [I.o];decide,by rw [I.o];rfl,zj _ _ _ _ _ d6.o.below lz⟩)
       . have k5:=U (a0.o.fresh p (fun q hq=>g6.o q hq (by omega)));have x1:=qq s (j:=1) rfl;have x2:=qq s (j:=2) rfl;have x3:=qq s (j:=3) rfl;have x4:=qq s (j:=4) rfl;have x5:=qq s (j:=5) rfl;have HN:=U a0.o.own;have s8:w.heap.size+1<=wr.heap.size:=by have:=a0.o.res.lt;omega
         clear s;go_wp2_with (at_builtin;refine V6 _ rfl (.tmp 46) (.tmp 48) 118 rfl (w.heap.size+1) 120 i3 _ 6 96 Tryz.underlying118 m7 o2 o3 o4 rfl (by decide) (.slice av k cap) k ((P.map (·.1)).flatMap qW) rfl (HN.o.alloc _) ⟨wr.heap.size,0,none⟩ 1 1 (qW ⟨p,5,0,⟨#[]⟩,E,2,G,D,2,F⟩) rfl rfl (Y0 (cs:=#[.string p,.int .u8 5,.int .i64 0,.string ⟨#[]⟩,.slice E 2 G,.slice D 2 F]) (t:=120) (fr:=(0,0)) (J2 wr _)) (by simp [qW,Value.oneCell']) (by omega) (by unfold maxLen;omega) (by omega) (by simp;omega) (wr.heap.size+1) (by simp) ?_;intro g1 cap2 w6 hown6 hgrow6 hat6 hlt6;have l1:=U hown6;have e3:=U hgrow6;have k2:=U hat6;clear hown6 hgrow6 hat6);go_roundw
         case rel =>
          refine ⟨k+1,P ++ [(⟨p,5,0,⟨#[]⟩,E,2,G,D,2,F⟩,l[k])],by omega,by go_num,?_⟩;have m1:O5 wo (wr.alloc (.cells #[.string p,.int .u8 5,.int .i64 0,.string ⟨#[]⟩,.slice E 2 G,.slice D 2 F] 120)):=(d7.o.trans (a2.o.mono d7.o.size)).alloc (by have:=d7.o.size;have:=a2.o.size;omega) _;refine TabAt.snoc (lo:=wo.heap.size+1) (hi:=A.heap.size) ⟨p,5,0,⟨#[]⟩,E,2,G,D,2,F⟩ HA.o l0.o m1 ?_ ?_ ?_ (by omega) (by simp;omega) ?_ e3.o (by rcases k2.o with h|h;exact .inl h;exact .inr (by simp;omega)) l1.o
          . exact e4.o.trans (Y2 id2 HX.o)
          . exact (Y2 ok2 HX.o).symm.trans g7.o
          . exact (Y2 (fun z=>jl (ids (l.take k)) (id2 z)) HX.o).symm.trans (by have:=k5.o;rw [e4.o] at this;exact this)
          . have n2:Rep (wr.alloc (.cells #[.string p,.int .u8 5,.int .i64 0,.string ⟨#[]⟩,.slice E 2 G,.slice D 2 F] 120)) (wo.heap.size+1) A.heap.size (obj2 (xs,xp)) (Mem.val ⟨p,5,0,⟨#[]⟩,E,2,G,D,2,F⟩):=Rep.carry lz lz (fun b _ h=>by rw [Y4 _ _ _ (by omega),a2.o.block b (by rw [h7.o];omega)]) _ _ l5.o;exact Eq.mp (Y2 (fun z=>Rep (wr.alloc (.cells #[.string p,.int .u8 5,.int .i64 0,.string ⟨#[]⟩,.slice E 2 G,.slice D 2 F] 120)) (wo.heap.size+1) A.heap.size (obj2 z) (Mem.val ⟨p,5,0,⟨#[]⟩,E,2,G,D,2,F⟩)) HX.o) n2
         case measure=>simp [intOf];omega
  . obtain rfl:k=l.length:=by omega
    have I:=U (show yb l=0 by
     rw [HE.o,HA.o.err,List.drop_length];rfl)
    obtain ⟨av,cap,rfl,c6⟩:=HA.o.sliced lz;have g8:=U (HA.o.sorted hl (by rcases c6 with h|⟨g,h1,h2,h3,_⟩;exact .inl h;exact .inr ⟨g,h1,h2,h3⟩));clear c6 hA hlt hk;obtain ⟨wo,rfl⟩:∃wo:World,wo=wr:=⟨_,rfl⟩;go_wp2_with fail;refine g8.o.mono ?_;clear g8;rintro e w2 ⟨rfl,m,Z,L⟩;have T:=U L;have a1:=O0 (O5 w2 (w2.alloc (.cells #[.int .u8 5,.int .i64 0,.string ⟨#[]⟩,.slice none 0 0,.slice none 0 0] 25))) O4;have HO:=U (show ObjAt2 (w2.alloc (.cells #[.int .u8 5,.int .i64 0,.string ⟨#[]⟩,.slice none 0 0,.slice none 0 0] 25)) (w2.alloc (.cells #[.int .u8 5,.int .i64 0,.string ⟨#[]⟩,.slice none 0 0,.slice none 0 0] 25)) (w.heap.size+1) w2.heap.size 25 9 25 (.slice none 0 0) (.slice none 0 0) [] [] [] from
     ⟨by simp,by have:=L.res.lt;simp;omega,Touch.refl _ _,qh _ _ _ _ _ _ _,W8 _ _ _ _,W8 _ _ _ _,qU.nil _ _ _,fun b hb=>by simp [Value.ownBlock] at hb⟩)
    have m8:m.length=l.length:=L.perm.length_eq;have i7:Z.length=l.length:=by have:=Y2 List.length L.keys;simp at this;omega
    have k0:w.heap.size<w2.heap.size:=L.res.lt;have g0:=U L.cells;clear L;obtain ⟨nd,c1⟩:=O1 l.length;rw [<- c1] at m8 i7 h32 hl g0;have p1:=U c1;obtain ⟨i1,m5,n6,n7,n8⟩:=K9 xq;obtain ⟨i2,m6,n3,n4,n5⟩:=K9 gu;rw [<- c1];clear c1 c7 c9;go_wp2_with fail;obtain ⟨r,a6⟩:=O1 w2.heap.size;obtain ⟨W,hW⟩:=O1 (w2.alloc (.cells #[.int .u8 5,.int .i64 0,.string ⟨#[]⟩,.slice none 0 0,.slice none 0 0] 25));rw [<- hW] at HO a1;rw [<- a6] at HO;rw [<- hW,<- a6];have H:=U a6;have C:=U (show W.heap.size=r+1 by rw [hW,a6];simp);clear hW a6;go_loopw [13,56] (fun _ i wr=>∃(k:Nat) (cs:List Value) (vn vi:Value),k<=nd/\i=.int .i64 k/\ObjAt2 W wr (w.heap.size+1) r 25 9 25 vn vi ((ids m).take k) ((m.map obj2).take k) cs) (fun _ i _=>nd - (intOf i).toNat)
    case atStart=>exact ⟨0,[],.slice none 0 0,.slice none 0 0,by omega,rfl,by simpa using HO.o⟩
    case round =>
     clear HO;obtain ⟨k,cs,vn,vi,hk,rfl,M⟩:=hrel;have o:=U M;have s5:W.heap.size<=wr.heap.size:=M.touch.size;have r7:r<wr.heap.size:=M.row.lt;clear M;by_cases hlt:k<nd
     . have e7:k<Z.length:=by omega
       have i6:k<m.length:=by omega
       obtain ⟨g,ha,i0,d⟩:∃g,av=some ⟨g,0,none⟩/\g<w2.heap.size/\∀j c (hj:j<Z.length),c<6->w2.cell? ⟨g,j * 6+c,none⟩=some ((qW Z[j].1)[c]!):=by
        rcases g0.o with h|h
        . omega
        . exact h
       subst ha;replace d:∀c,c<6->wr.cell? ⟨g,k * 6+c,none⟩=some ((qW Z[k].1)[c]!):=fun c hc=>by rw [o.o.touch.cell (show g<W.heap.size by rw [C.o,H.o];omega) (show ¬g=r by rw [H.o];omega),a1.o.cell (by exact i0)];exact d k c e7 hc
       have y0:=d 0 (by decide);have y1:=d 1 (by decide);have y2:=d 2 (by decide);have y3:=d 3 (by decide);have y4:=d 4 (by decide);have y5:=d 5 (by decide);clear d;obtain ⟨j2,lo,hi,m9,i5,_,y⟩:=T.o.row _ (X6 e7);have e8:m[k]=Z[k].2:=by
        have:(Z.map (·.2))[k]'(by simpa using e7)=m[k]:=by simp only [T.o.keys]
        rw [<- this];simp
       have h5:=U (show (ids m).take (k+1)=(ids m).take k ++ [Z[k].1.name] by
        rw [J7 (by simpa [ids] using i6),j2];simp [ids,e8])
       have h4:=U (show (m.map obj2).take (k+1)=(m.map obj2).take k ++ [obj2 Z[k].2] by
        rw [J7 (by simpa using i6)];simp [e8])
       have a4:=O0 (Rep wr lo hi (obj2 Z[k].2) Z[k].1.val) (Rep.carry lz lz (fun b h1 h2=>by rw [o.o.touch.block b (by rw [C.o,H.o];omega) (by rw [H.o];omega),a1.o.block b (by omega)]) _ _ y);have g3:=U (show hi<=r by rw [H.o];exact i5);obtain ⟨f0,f2,e9,f1,d0,_⟩:=y.parts;have a5:=U d0;clear j2 y i5 e8 d0;generalize Z[k].2=kk at h4 a4 a5;generalize Z[k].1=mk at y0 y1 y2 y3 y4 y5 h5 a4 a5;simp only [qW,za9,List.getElem!_cons_zero,List.getElem!_cons_succ] at y0 y1 y2 y3 y4 y5;have S:=U (show ((ids m).take k).length=k by simp [ids];omega);have R:=U (show ((m.map obj2).take k).length=k by simp;omega);have HN:=U (show wr.ownsRow W.heap.size 9 1 vn k (((ids m).take k).map .string) by have:=o.o.names;rwa [S.o] at this);have f7:=O0 (O5 wr (wr.alloc (.cells #[.string mk.name,.int .u8 mk.k,.int .i64 mk.n,.string mk.t,.slice mk.an mk.nn mk.cn,.slice mk.ai mk.ni mk.ci] 120))) O4;have a3:=U (o.o.below f7.o);have c3:(wr.alloc (.cells #[.string mk.name,.int .u8 mk.k,.int .i64 mk.n,.string mk.t,.slice mk.an mk.nn mk.cn,.slice mk.ai mk.ni mk.ci] 120)).cell? ⟨r,3,none⟩=some vn:=a3.o.row.cell (by decide);have f3:(wr.alloc (.cells #[.string mk.name,.int .u8 mk.k,.int .i64 mk.n,.string mk.t,.slice mk.an mk.nn mk.cn,.slice mk.ai mk.ni mk.ci] 120)).frozen? ⟨r,3,none⟩=false:=a3.o.row.frozen 3;have c4:(wr.alloc (.cells #[.string mk.name,.int .u8 mk.k,.int .i64 mk.n,.string mk.t,.slice mk.an mk.nn mk.cn,.slice mk.ai mk.ni mk.ci] 120)).cell? ⟨r,4,none⟩=some vi:=a3.o.row.cell (by decide);have f4:(wr.alloc (.cells #[.string mk.name,.int .u8 mk.k,.int .i64 mk.n,.string mk.t,.slice mk.an mk.nn mk.cn,.slice mk.ai mk.ni mk.ci] 120)).frozen? ⟨r,4,none⟩=false:=a3.o.row.frozen 4;have Y:=J2 wr (.cells #[.string mk.name,.int .u8 mk.k,.int .i64 mk.n,.string mk.t,.slice mk.an mk.nn mk.cn,.slice mk.ai mk.ni mk.ci] 120);have b1:(wr.alloc (.cells #[.string mk.name,.int .u8 mk.k,.int .i64 mk.n,.string mk.t,.slice mk.an mk.nn mk.cn,.slice mk.ai mk.ni mk.ci] 120)).cell? ⟨wr.heap.size,1,none⟩=some (.int .u8 mk.k):=qq Y rfl;have b2:(wr.alloc (.cells #[.string mk.name,.int .u8 mk.k,.int .i64 mk.n,.string mk.t,.slice mk.an mk.nn mk.cn,.slice mk.ai mk.ni mk.ci] 120)).cell? ⟨wr.heap.size,2,none⟩=some (.int .i64 mk.n):=qq Y rfl;have b3:(wr.alloc (.cells #[.string mk.name,.int .u8 mk.k,.int .i64 mk.n,.string mk.t,.slice mk.an mk.nn mk.cn,.slice mk.ai mk.ni mk.ci] 120)).cell? ⟨wr.heap.size,3,none⟩=some (.string mk.t):=qq Y rfl;have b4:(wr.alloc (.cells #[.string mk.name,.int .u8 mk.k,.int .i64 mk.n,.string mk.t,.slice mk.an mk.nn mk.cn,.slice mk.ai mk.ni mk.ci] 120)).cell? ⟨wr.heap.size,4,none⟩=some (.slice mk.an mk.nn mk.cn):=qq Y rfl;have b5:(wr.alloc (.cells #[.string mk.name,.int .u8 mk.k,.int .i64 mk.n,.string mk.t,.slice mk.an mk.nn mk.cn,.slice mk.ai mk.ni mk.ci] 120)).cell? ⟨wr.heap.size,5,none⟩=some (.slice mk.ai mk.ni mk.ci):=qq Y rfl;have e5:=U (HN.o.alloc (.cells #[.string mk.name,.int .u8 mk.k,.int .i64 mk.n,.string mk.t,.slice mk.an mk.nn mk.cn,.slice mk.ai mk.ni mk.ci] 120));have n9:(wr.alloc (.cells #[.string mk.name,.int .u8 mk.k,.int .i64 mk.n,.string mk.t,.slice mk.an mk.nn mk.cn,.slice mk.ai mk.ni mk.ci] 120)).heap.size=wr.heap.size+1:=by simp
       have g4:=U (show ((wr.alloc (.cells #[.string mk.name,.int .u8 mk.k,.int .i64 mk.n,.string mk.t,.slice mk.an mk.nn mk.cn,.slice mk.ai mk.ni mk.ci] 120)).alloc (.cells #[.string mk.name] 9)).heap[wr.heap.size+1]?=some (.cells #[.string mk.name] 9 (0,0)) by have:=J2 (wr.alloc (.cells #[.string mk.name,.int .u8 mk.k,.int .i64 mk.n,.string mk.t,.slice mk.an mk.nn mk.cn,.slice mk.ai mk.ni mk.ci] 120)) (.cells #[.string mk.name] 9);rwa [n9] at this);have c0:some r≠vn.ownBlock:=fun e=>by have:=(o.o.names.lt _ e.symm).1;have:=C.o;omega
       have a7:some wr.heap.size≠vn.ownBlock:=fun e=>by have:=(o.o.names.lt _ e.symm).2;omega
       have h9:some r≠vi.ownBlock:=fun e=>by have:=(o.o.items.lt _ e.symm).1;have:=C.o;omega
       have s7:W.heap.size<=(wr.alloc (.cells #[.string mk.name,.int .u8 mk.k,.int .i64 mk.n,.string mk.t,.slice mk.an mk.nn mk.cn,.slice mk.ai mk.ni mk.ci] 120)).heap.size:=by simp;omega
       clear Y;have m2:(0:Int)<=(k:Int):=by omega
       have m3:(k:Int)<(nd:Int):=by omega
       have o9:¬r=wr.heap.size:=by omega
       go_wp2_with (at_builtin;first
        | (
         refine V6 _ rfl (.tmp 61) (.tmp 64) 22 rfl W.heap.size 9 i2 _ 1 16 zb3 m6 n3 n4 n5 rfl (by decide) vn k (((ids m).take k).map .string) rfl (e5.o.alloc _) ⟨wr.heap.size+1,0,none⟩ 1 1 [.string mk.name] rfl rfl (Y0 (cs:=#[.string mk.name]) (t:=9) (fr:=(0,0)) g4.o) (by simp [Value.oneCell']) (by omega) (by unfold maxLen;omega) (by omega) (by simp;omega) (wr.heap.size+2) (by simp) ?_;intro g1 cap2 w6 hown6 hgrow6 hat6 hlt6;have p4:=zb hgrow6 (by simp;omega) c0 c3;have q5:=zn hgrow6 (by simp;omega) c0 f3;have p5:=zb hgrow6 (by simp;omega) c0 c4;have r5:=zn hgrow6 (by simp;omega) c0 f4;have d1:=zb hgrow6 (by simp) a7 b1;have d2:=zb hgrow6 (by simp) a7 b2;have d3:=zb hgrow6 (by simp) a7 b3;have d4:=zb hgrow6 (by simp) a7 b4;have d5:=zb hgrow6 (by simp) a7 b5;have o0:=hgrow6.size;rw [show ((wr.alloc (.cells #[.string mk.name,.int .u8 mk.k,.int .i64 mk.n,.string mk.t,.slice mk.an mk.nn mk.cn,.slice mk.ai mk.ni mk.ci] 120)).alloc (.cells #[.string mk.name] 9)).heap.size=wr.heap.size+2 by simp] at o0;have b6:=U (show ObjAt2 W (w6.setCell ⟨r,3,none⟩ (.slice (some ⟨g1,0,none⟩) (k+1) cap2)) (w.heap.size+1) r 25 9 25 (.slice (some ⟨g1,0,none⟩) (k+1) cap2) vi ((ids m).take k ++ [mk.name]) ((m.map obj2).take k) cs by
          have:=(a3.o.below ((J0 _ _).alloc lz (.cells #[.string mk.name] 9))).name mk.name (g:=g1) (cap:=cap2) hgrow6 (by rcases hat6 with h|h;exact .inl h;exact .inr (by simp;omega)) (by rw [S.o];exact hown6);rwa [S.o] at this)
         have k7:=U (show (w6.setCell ⟨r,3,none⟩ (.slice (some ⟨g1,0,none⟩) (k+1) cap2)).ownsRow W.heap.size 25 5 vi k cs by have:=b6.o.items;rwa [R.o] at this);have e3:=U hgrow6;clear hown6 hgrow6 hat6)
        | (
         refine V6 _ rfl (.tmp 68) (.tmp 71) 23 rfl W.heap.size 25 i1 _ 5 80 N4 m5 n6 n7 n8 rfl (by decide) vi k cs rfl (k7.o.alloc _) ⟨w6.heap.size,0,none⟩ 1 1 [.int .u8 mk.k,.int .i64 mk.n,.string mk.t,.slice mk.an mk.nn mk.cn,.slice mk.ai mk.ni mk.ci] rfl rfl ?_ (by simp [Value.oneCell']) (by omega) (by unfold maxLen;omega) (by omega) ?_ (w6.heap.size+1) (by simp [World.setCell]) ?_
         . have:=Y0 (cs:=#[.int .u8 mk.k,.int .i64 mk.n,.string mk.t,.slice mk.an mk.nn mk.cn,.slice mk.ai mk.ni mk.ci]) (t:=25) (fr:=(0,0)) (J2 (w6.setCell ⟨r,3,none⟩ (.slice (some ⟨g1,0,none⟩) (k+1) cap2)) (.cells #[.int .u8 mk.k,.int .i64 mk.n,.string mk.t,.slice mk.an mk.nn mk.cn,.slice mk.ai mk.ni mk.ci] 25));rw [show (w6.setCell ⟨r,3,none⟩ (.slice (some ⟨g1,0,none⟩) (k+1) cap2)).heap.size=w6.heap.size by simp [World.setCell]] at this;exact this
         . simp [World.setCell];omega
         intro g2 cap3 w8 hown8 hgrow8 hat8 hlt8;have p6:=zb hgrow8 (by simp [World.setCell];omega) h9 (b6.o.row.cell (i:=4) (by decide));have r6:=zn hgrow8 (by simp [World.setCell];omega) h9 (b6.o.row.frozen 4);have l2:=U hown8;have k6:=U hgrow8;have k3:=U hat8;clear hown8 hgrow8 hat8))
       go_roundw
       case rel => refine ⟨k+1,cs ++ [.int .u8 mk.k,.int .i64 mk.n,.string mk.t,.slice mk.an mk.nn mk.cn,.slice mk.ai mk.ni mk.ci],.slice (some ⟨g1,0,none⟩) (k+1) cap2,.slice (some ⟨g2,0,none⟩) (k+1) cap3,by omega,by go_num,?_⟩;have hv:=a5.o;simp only [Mem.val,zb8,zc4,G5,Value.int.injEq,Value.string.injEq,zc8,zb6] at hv;obtain ⟨q0,q1,q2,q3,q4⟩:=hv;have hr:=a4.o;unfold Mem.val at hr;rw [q0,q1,q2,q3,q4] at hr;have ho:=l2.o;rw [q0,q1,q2,q3,q4] at ho ⊢;rw [h5.o,h4.o];have m4:O5 wr ((wr.alloc (.cells #[.string mk.name,.int .u8 mk.k,.int .i64 mk.n,.string mk.t,.slice mk.an mk.nn mk.cn,.slice mk.ai mk.ni mk.ci] 120)).alloc (.cells #[.string mk.name] 9)):=f7.o.alloc (by simp) _;have n1:Rep ((w6.setCell ⟨r,3,none⟩ (.slice (some ⟨g1,0,none⟩) (k+1) cap2)).alloc (.cells #[.int .u8 (obj2 kk).kind,.int .i64 (obj2 kk).n,.string (obj2 kk).t,.slice f0 (obj2 kk).names.length f2,.slice e9 (obj2 kk).items.length f1] 25)) lo hi (obj2 kk) (.agg #[.int .u8 (obj2 kk).kind,.int .i64 (obj2 kk).n,.string (obj2 kk).t,.slice f0 (obj2 kk).names.length f2,.slice e9 (obj2 kk).items.length f1]):=(by refine Rep.carry lz lz (fun b h1 h2=>?_) _ _ hr;have:=g3.o;rw [Y4 _ _ _ (by simp [World.setCell];omega),X5 _ _ _ _ (by show b≠r;omega),e3.o.block b (by simp;omega) (fun e=>by have:=(o.o.names.lt b e.symm).1;have:=C.o;omega),m4.block b (by omega)]);have n0:=(b6.o.below ((J0 _ _).alloc lz (.cells #[.int .u8 (obj2 kk).kind,.int .i64 (obj2 kk).n,.string (obj2 kk).t,.slice f0 (obj2 kk).names.length f2,.slice e9 (obj2 kk).items.length f1] 25)));have i4:=k6.o;rw [q0,q1,q2,q3,q4] at i4;have:=n0.item (it:=obj2 kk) (lo:=lo) (hi:=hi) (g:=g2) (cap:=cap3) m9 g3.o n1 i4 (by rcases k3.o with h|h;exact .inl h;exact .inr (by simp [World.setCell];omega)) (by rw [R.o];exact ho);rw [R.o] at this;exact this
       case measure=>simp [intOf];omega
     . obtain rfl:k=nd:=by omega
       have i9:(ids m).take k=ids m:=X2 (by simp [ids];omega);have j0:(m.map obj2).take k=m.map obj2:=X2 (by simp;omega);rw [i9,j0] at o;have S:=U (show (ids m).length=k by simp [ids];omega);have R:=U (show (m.map obj2).length=k by simp;omega);obtain ⟨E,G,D,F,rfl,rfl,y⟩:=o.o.done;have l6:=U y;have a8:=o.o.names;have f:=o.o.row;have N:=o.o.touch.row (qj a1.o T.o.res k0) (by rw [H.o];omega);have p0:w.heap.size<r:=by rw [H.o];exact k0
       rw [S.o,R.o] at f;obtain ⟨r0,r1,r2,r3,r4⟩:=rc5 f;obtain ⟨t0,t1,t2,t3,t4⟩:=rc5 N;obtain ⟨s0,s1,s2,s3,s4⟩:=rf5 N;simp only [qZ] at r0 r1 r2 r3 r4 t0 t1 t2 t3 t4;have l7:=U N;have k4:=O0 (O5 w wr) ((T.o.below.trans (a1.o.mono (by omega))).trans (o.o.touch.below (by have:=C.o;omega) fun j hj e=>by omega));have g5:=U a8;clear f N y i9 j0 a8 o;go_wp2;refine X4 (qk Tryz.results37 _ _ w.heap.size 25 _ (0,0) _ rfl (qr (set5 _ _ _ _ _ l7.o)) X8 rfl (by kernel_rfl) _ rfl) rfl (.inr ⟨I.o,m,T.o.perm,T.o.rise,E,G,D,F,?_,?_,zj _ _ _ _ _ k4.o lz,?_⟩)
       . show _=Ending.returned (.tuple #[.agg #[.int .u8 5,.int .i64 0,.string ⟨#[]⟩,.slice E (ids m).length G,.slice D (m.map obj2).length F],.int .i64 0]);rw [S.o,R.o];rfl
       . exact Rep.carry (by omega) (show wr.heap.size<=_ by simp [World.setCell]) (fun j hj _=>jm _ _ _ _ _ (by omega)) _ _ l6.o
       . exact tA (kQ (base':=w.heap.size) (zc g5.o fun b hb=>jm _ _ _ _ _ (by have:=(g5.o.lt b hb).1;have:=C.o;omega)) (by have:=C.o;omega))
def XZ (l:List Key2) (y s:Nat):List Key2:=(List.range s).map fun j=>l.getD ((l.length - 1 - j+y) % l.length) (⟨#[]⟩,⟨#[]⟩)
def ZF (l:List Key2) (w:World) (e:Ending) (w':World):Prop :=
 ∃u:JV,(yb l=0->∃m:List Key2,m.Perm l/\qo (ids m)=true/\u=zt m)/\(yb l≠0->u=zJ)/\u.wt<=4294967296/\pU u (yb l) w e w'
theorem dj (l:List Key2) (a:Option Addr) (c:Nat) (w:World) (o:xu w 0 w.heap.size a l) (q:l.length<=40) (j:∀k ∈ l,k.1.size<=300/\k.2.size<=300) (p:Tabs w) :
 Calls Tryz.prog 37 #[.slice a l.length c] w (ZF l w):=by
 refine (eB l a c w o (by omega) j p).mono ?_;rintro e w' (⟨b,rfl,f⟩|⟨b,m,d,g,i⟩)
 . exact ⟨zJ,fun h=>absurd h b,fun _=>rfl,by decide,none,0,none,0,rfl,mD _ _ _,f⟩
 . refine ⟨zt m,fun _=>⟨m,d,g,rfl⟩,fun h=>absurd b h,?_,by rw [b];exact i.val⟩;have:=cG (m:=m) (fun k hk=>j k (d.subset hk));have:=d.length_eq;omega
def lE (v:JV) (w:World) (e:Ending) (w':World):Prop :=
 ∃val,e=.returned (.tuple #[val,.int .i64 (jk v).2])/\w'.ownsRow w.heap.size 43 2 val (jk v).1.length ((jk v).1.flatMap gE)/\O5 w w'
theorem QD {m:List Key2} (a:∀k ∈ m,ok2 k=true) (b:qo (ids m)=true) (c:m.length<=32):yb m=0:=by unfold yb;rw [J3 (by omega)];exact (wD m []).2 ⟨a,by simp,dL b⟩
theorem tI (l:List Key2) (a:Option Addr) (c:Nat) (w:World) (x:xu w 0 w.heap.size a l) (z:zy l=true) (y:Tabs w) :
 Calls Tryz.prog 37 #[.slice a l.length c] w fun e w'=>∃an cn ai ci,e=.returned (.tuple #[.agg #[.int .u8 5,.int .i64 0,.string ⟨#[]⟩,.slice an l.length cn,.slice ai l.length ci],.int .i64 0])/\Rep w' w.heap.size w'.heap.size (zt l) (.agg #[.int .u8 5,.int .i64 0,.string ⟨#[]⟩,.slice an l.length cn,.slice ai l.length ci])/\O5 w w':=by
 obtain ⟨p,b,d⟩:=zw.1 z;refine (dj l a c w x (by omega) (fun k hk=>by have:=gm (b k hk);omega) y).mono ?_;rintro e w' ⟨u,v,-,-,i⟩;have h:yb l=0:=QD b d p;obtain ⟨m,r,s,rfl⟩:=v h;obtain rfl:m=l:=cD r s d;rw [h] at i;obtain ⟨an,cn,ai,ci,f,g,q⟩:=i;have j:(zt m).names.length=m.length:=X9 ..;have o:(zt m).items.length=m.length:=X9 ..;rw [j,o] at f g;exact ⟨an,cn,ai,ci,f,g,q⟩
theorem wz:∀(l:List ByteArray),(∀x ∈ l,x.size<=1000000)->(qb l).wt<=1+1000001 * l.length:=fun l h=>by
 have h1:∀l:List ByteArray,(∀x ∈ l,x.size<=1000000)->JV.wts (l.map txtJ)<=1000001 * l.length:=fun l=>by
  induction l with
  | nil=>intro _;simp [JV.wts]
  | cons x r ih => intro h;have h1:=h x (M3 ..);have h2:=ih fun y hy=>h y (G4 _ hy);rw [N6,JV.wts,kj,N3];omega
 have h2:=h1 l h;have e2:(qb l).wt=1+JV.wts (l.map txtJ):=(by show 1+(⟨#[]⟩:ByteArray).size+qt [] + JV.wts (l.map txtJ)=_;rfl);omega
theorem mL (b:Bool):(za b).wt=1:=by cases b <;> rfl
theorem mR {x:DelegV} (h:qi x=true):(qu x).wt<=50000000:=by
 obtain ⟨g,⟨-,i,c⟩,⟨j,d⟩,⟨k,e⟩⟩:=kD h;have f:=wz _ c;rw [show qu x=kx (zY x) from rfl,nc];unfold zY;split
 . have b:=wz _ d;show 1+qt [qy,zx,xd,trmN,thrN] + ((qb x.au.ids).wt+((txtJ x.name).wt+((qb x.paths).wt+((za x.term).wt+((zv x.au.thr).wt+0)))))<=_;have a:qt [qy,zx,xd,trmN,thrN]<=100:=by decide
   rw [kj,mL,gi];omega
 . have b:=wz _ e;show 1+qt [qy,zx,zC,trmN,thrN] + ((qb x.au.ids).wt+((txtJ x.name).wt+((qb x.pres).wt+((za x.term).wt+((zv x.au.thr).wt+0)))))<=_;have a:qt [qy,zx,zC,trmN,thrN]<=100:=by decide
   rw [kj,mL,gi];omega
theorem yM:∀(l:List DelegV),(∀x ∈ l,qi x=true)->JV.wts (l.map qu)<=50000000 * l.length
 | [],_=>by simp [JV.wts]
 | x :: r,h=>by have h1:=mR (h x (M3 ..));have h2:=yM r fun y hy=>h y (G4 _ hy);rw [N6,JV.wts,N3];omega
theorem mN (l:List JV):(zB l).wt=1+JV.wts l:=by show 1+(⟨#[]⟩:ByteArray).size+qt [] + JV.wts l=_;rfl
theorem l4 {b:BinsV} (h:q6 b=true):(zL b).wt<=50000000:=by
 obtain ⟨-,a,-,e⟩:=xN h;have c:=zO a;have f:=wz b.au.ids fun s hs=>by have:=(kZ (jh _ _ c.2.2 s hs)).2;omega
 rw [show zL b=kx (mu b) from rfl,nc];show 1+qt [ji,qy,jY,thrN] + ((zv b.bits).wt+((qb b.au.ids).wt+((txtJ b.pre).wt+((zv b.au.thr).wt+0))))<=_;have d:qt [ji,qy,jY,thrN]<=100:=by decide
 rw [kj,gi,gi];omega
theorem tO {B g cap k:Nat} {wr q z v:World} {p:Value} {cs:List Value} {l:List JV} {it:JV} {an ai:Option Addr} {cn ci lo hi e:Nat} (u:wr.ownsRow B e 5 p k cs) (y:qU wr B (fun b=>p.ownBlock=some b) l cs)
 (s:O5 wr q) (D:B<=wr.heap.size) (C:wr.heap.size<=lo) (A:hi<=q.heap.size) (x:Rep q lo hi it (.agg #[.int .u8 it.kind,.int .i64 it.n,.string it.t,.slice an it.names.length cn,.slice ai it.items.length ci]))
 (o:O5 q z) (w:z.grownBy v p.ownBlock) (r:p.ownBlock=some g\/q.heap.size<=g) :
 qU v B (fun b=>(Value.slice (some ⟨g,0,none⟩) (k+1) cap).ownBlock=some b) (l ++ [it]) (cs ++ [.int .u8 it.kind,.int .i64 it.n,.string it.t,.slice an it.names.length cn,.slice ai it.items.length ci]):=by
 have f:=s.size;have j:=o.size;have i:=w.size;have c:∀b,p.ownBlock=some b->b<wr.heap.size:=fun b hb=>(u.lt b hb).2;have m:∀b,b<wr.heap.size->p.ownBlock≠some b->v.heap[b]?=wr.heap[b]?:=fun b hb hne=>by rw [w.block b (by omega) (fun e=>hne e.symm),o.block b (by omega),s.block b hb]
 have a:∀b,(Value.slice (some ⟨g,0,none⟩) (k+1) cap).ownBlock=some b->b=g:=fun b hb=>by simp [Value.ownBlock] at hb;exact hb.symm
 have d:=y.carry (w':=v) (base':=B) (X':=fun b=>(Value.slice (some ⟨g,0,none⟩) (k+1) cap).ownBlock=some b) (by omega) lz (fun b hb hx=>m b hb hx) (fun b hx=>by
  rw [a b hx];rcases r with h|h
  . exact .inl h
  . exact .inr (by omega))
 refine d.snoc it lo hi an cn ai ci (by omega) (by omega) (fun b hx hb=>?_) (Rep.carry lz lz (fun b h1 h2=>?_) _ _ x)
 . rw [a b hx] at hb;rcases r with h|h
   . have:=c g h;omega
   . omega
 . rw [w.block b (by omega) (fun e=>by have:=c b e.symm;omega),o.block b (by omega)]
theorem l8 {u:JV} {w w':World} {e:Ending} (h:vX u w e w') (j:u.kind=5) (k:u.n=0) (l:u.t=⟨#[]⟩):gv u w e w':=by
 obtain ⟨b,d,a,c,f,g,i⟩:=h;refine ⟨b,d,a,c,?_,?_,i⟩
 . rw [f,j,k,l]
 . rw [j,k,l];exact g
theorem pm (l:List Key2) (rs:List DelegV) (t o5:Int) (ids:List ByteArray) (o9:ByteArray) (ka ra ba:Option Addr) (kc rc bc:Nat) (w:World) (hI:DelegsIn w 0 w.heap.size ⟨l,rs,⟨o5,o9,⟨t,ids⟩⟩⟩ ka ra ba) (hm:xo ⟨l,rs,⟨o5,o9,⟨t,ids⟩⟩⟩=true) (hT:Tabs w) :
 Calls Tryz.prog 85 #[.agg #[.slice ka l.length kc,.slice ra rs.length rc,.int .i64 t,.slice ba ids.length bc,.int .i64 o5,.string o9]] w (vX (qf ⟨l,rs,⟨o5,o9,⟨t,ids⟩⟩⟩) w):=by
 have a1:=hm;rw [zU,X3] at a1;dsimp only at a1;obtain ⟨hk,a1⟩:=a1;have o0:=U hk;have f4:=U a1;have n8:l.length<=32:=(zw.1 hk).1;obtain ⟨W,hW⟩:=O1 ((w.alloc (.cells #[.slice ka l.length kc,.slice ra rs.length rc,.int .i64 t,.slice ba ids.length bc,.int .i64 o5,.string o9] 35)).alloc (.cells #[.int .u8 0,.int .i64 0,.string ⟨#[]⟩,.slice none 0 0,.slice none 0 0] 25));have b9:(w.alloc (.cells #[.slice ka l.length kc,.slice ra rs.length rc,.int .i64 t,.slice ba ids.length bc,.int .i64 o5,.string o9] 35)).heap.size=w.heap.size+1:=by simp
 have z:O5 w W:=by rw [hW];exact (O4).alloc (by simp) _
 have hx:W.heap[w.heap.size]?=some (.cells #[.slice ka l.length kc,.slice ra rs.length rc,.int .i64 t,.slice ba ids.length bc,.int .i64 o5,.string o9] 35 (0,0)):=by rw [hW];exact zG w _ _
 have i3:W.rowIs (w.heap.size+1) 25 5 (qZ (.int .u8 0) (.int .i64 0) (.string ⟨#[]⟩) (.slice none 0 0) (.slice none 0 0)):=(by have:=qh (w.alloc (.cells #[.slice ka l.length kc,.slice ra rs.length rc,.int .i64 t,.slice ba ids.length bc,.int .i64 o5,.string o9] 35)) (.int .u8 0) (.int .i64 0) (.string ⟨#[]⟩) (.slice none 0 0) (.slice none 0 0) 25;rw [b9,<- hW] at this;exact this);have HC:=U (show ∀w':World,O5 W w'->w'.cell? ⟨w.heap.size,0,none⟩=some (.slice ka l.length kc)/\w'.cell? ⟨w.heap.size,1,none⟩=some (.slice ra rs.length rc)/\w'.cell? ⟨w.heap.size,2,none⟩=some (.int .i64 t)/\w'.cell? ⟨w.heap.size,3,none⟩=some (.slice ba ids.length bc)/\w'.cell? ⟨w.heap.size,4,none⟩=some (.int .i64 o5)/\w'.cell? ⟨w.heap.size,5,none⟩=some (.string o9) from fun w' h=>by
  have y:=(h.block _ (qx hx)).trans hx;exact ⟨qq y rfl,qq y rfl,qq y rfl,qq y rfl,qq y rfl,qq y rfl⟩)
 have c2:=U i3;have HB:=U z;have b1:=O0 (w.heap.size+2<=W.heap.size) i3.lt;have HW:=U hW;have HI:=O0 (∀w':World,O5 W w'->DelegsIn w' 0 w'.heap.size ⟨l,rs,⟨o5,o9,⟨t,ids⟩⟩⟩ ka ra ba) (fun w' h=>hI.below (z.trans (h.mono z.size)) lz lz (J1 z.size h.size));have i5:=U (tI l ka kc W (HI.o W (J0 _ _)).keys hk (hT.below z));have f5:=U (fun w'=>wC t o5 ids o9 ba bc w');have n0:=O0 (∀w':World,O5 W w'->q6 ⟨o5,o9,⟨t,ids⟩⟩=true->_) (fun w' h hmb=>pJ o5 t ids o9 ba bc w' (HI.o w' h).bids hmb);have HJ:=O0 (qf ⟨l,rs,⟨o5,o9,⟨t,ids⟩⟩⟩=kx (qT ⟨l,rs,⟨o5,o9,⟨t,ids⟩⟩⟩)) rfl;have k0:=U (show (zt l).wt<=4294967296 from by
  have:=cG (m:=l) (fun k hk'=>by have:=gm ((zw.1 hk).2.1 k hk');omega);omega)
 obtain ⟨J,hJ⟩:=O1 (qf ⟨l,rs,⟨o5,o9,⟨t,ids⟩⟩⟩);rw [<- hJ] at HJ ⊢;obtain ⟨nb,i2⟩:=O1 (q8 ⟨o5,o9,⟨t,ids⟩⟩);rw [<- i2] at f5 f4;have j0:=U i2;clear hW z hx i3 b9 hI hm a1 hk hJ i2 hT;obtain ⟨q0,q1,q2,q3,q4,q5⟩:=HC.o W (J0 _ _);go_enter Tryz.func85,Tryz.ntmps85;go_upto_region 1 with fail
 rw [<- HW.o];clear HW;go_wp2_with fail;refine i5.o.mono ?_;clear i5 q0 q1 q2 q3 q4 q5;rintro r w1 ⟨an,cn,ai,ci,rfl,l2,k6⟩;obtain ⟨W2,c4⟩:=O1 (w1.alloc (.cells #[.int .u8 5,.int .i64 0,.string ⟨#[]⟩,.slice an l.length cn,.slice ai l.length ci] 25));have d4:=O7 c4
 have l7:=O9 c4
 have j2:=U l2;have e7:=U k6;have I:=U d4;have k2:=U c4;obtain ⟨z0,z1,z2,z3,z4⟩:=bx5 l7;clear l2 k6 d4 l7 c4;go_upto_region 2 with fail
 rw [<- k2.o];clear k2;obtain ⟨W3,c7⟩:=O1 (W2.alloc (.cells #[.string ⟨#[107,101,121,115]⟩,.int .u8 5,.int .i64 0,.string ⟨#[]⟩,.slice an l.length cn,.slice ai l.length ci] 169));have d5:=O7 c7
 have m0:=O9 c7
 obtain ⟨g0,h6⟩:=O1 W2.heap.size;have n1:=U h6;have b3:O5 w1 W3:=O2 I d5;have i6:=U (show MemsAt W.heap.size W3 (.slice (some ⟨g0,0,none⟩) 1 1) [(⟨qF,5,0,⟨#[]⟩,an,l.length,cn,ai,l.length,ci⟩:Mem)] [zt l] from by
  rw [h6];exact MemsAt.one (⟨qF,5,0,⟨#[]⟩,an,l.length,cn,ai,l.length,ci⟩:Mem) (zt l) W.heap.size w1.heap.size (J1 e7.o.size I.o.size) lz I.o.size (j2.o.below b3 lz lz lz) m0)
 have e8:=U (O2 e7 b3);have k3:=U c7;clear d5 m0 c7 h6 b3 j2;go_upto_region 3 with fail
 rw [<- k3.o,<- n1.o];clear k3 z0 z1 z2 z3 z4;obtain ⟨q0,q1,q2,q3,q4,q5⟩:=HC.o W3 e8.o;go_wp2_with fail;refine (f5.o _).mono ?_;clear f5 q0 q1 q2 q3 q4 q5;rintro r w4 ⟨rfl,h0⟩;have i7:=U (i6.o.below h0);have D:=U (O2 e8 h0);obtain ⟨q0,q1,q2,q3,q4,q5⟩:=HC.o w4 D.o;clear h0 i6 I;obtain ⟨i1,l0,m4,m5,m6⟩:=K9 vU;cases nb with
 | true =>
  have n3:=O0 (zl rs=true) f4.o;have H:=U (show rs.length<=64/\∀x ∈ rs,qi x=true from by
   have h:=n3.o;unfold zl at h;simp only [X3,J6] at h;exact ⟨h.1.1,fun x hx=>K7.1 h.1.2 x hx⟩)
  replace HJ:=U (show J=kx [(qF,zt l),(xC,zB (rs.map qu))] from by
   rw [HJ.o];unfold qT;rw [J8 j0.o.symm])
  obtain ⟨i0,k7,m7,b9,m8⟩:=K9 xq;obtain ⟨nn,d1⟩:=O1 rs.length;have j1:=U d1;have o4:nn<=64:=by rw [d1];exact H.o.1
  rw [<- d1] at HC q1 ⊢;clear d1;have n7:W.heap.size<=w4.heap.size:=D.o.size;go_upto_region 5 with (at_make;refine wpList_make_own _ rfl (.const (.int .i64 0)) (.tmp 25) 23 rfl W.heap.size 25 i0 _ 5 N4 k7 m7 b9 .i64 .i64 _ nn rfl rfl rfl (by rw [m8];omega) (by unfold maxLen;omega) n7 ?_;intro C hown5 hgrow5;have A:=U hown5;have E:=U (below_grown (v:=.slice none 0 0) (J0 w4.heap.size w4) lz hgrow5 (fun b z=>by cases z));obtain ⟨q0,q1,q2,q3,q4,q5⟩:=HC.o C (D.o.trans (E.o.mono D.o.size));clear hown5 hgrow5)
  go_wp2_with fail
  go_loopw [6,8,30] (fun s6 _ i wr=>∃(k:Nat) (cs:List Value),k<=nn/\i=.int .i64 k/\wr.ownsRow W.heap.size 25 5 s6 k cs/\qU wr W.heap.size (fun b=>s6.ownBlock=some b) ((rs.take k).map qu) cs/\(∀b,s6.ownBlock=some b->w4.heap.size<=b)/\O5 w4 wr) (fun _ _ i _=>nn - (intOf i).toNat)
  case atStart=>exact ⟨0,[],by omega,rfl,A.o,by simpa using qU.nil _ _ _,fun b z=>by simp only [Value.ownBlock,H6] at z;omega,E.o⟩
  case round =>
   obtain ⟨k,cs,hk,rfl,d7,l5,d6,h5⟩:=hrel;have HO:=U d7;have f7:=U l5;have f0:=U d6;have a0:=U h5;have a3:=U (O2 D h5);clear d7 l5 d6 h5 A E q0 q1 q2 q3 q4 q5;by_cases hlt:k<nn
   . have h8:k<rs.length:=by rw [<- j1.o];exact hlt
     obtain ⟨b,o,ha,-,o3,ia,ic,pa,pc,qa,qc,e0,e1,e2,e3,e4,e5,-,-,-,h7⟩:=(HI.o wr a3.o).roles.at k h8;subst ha;have m1:(0:Int)<=(k:Int):=by omega
     have m2:(k:Int)<(nn:Int):=by omega
     have m3:decide ((k:Int)<(nn:Int))=true:=by simpa using hlt
     have h9:=H.o.2 rs[k] (X6 h8);have g2:=O0 ((rs.take (k+1)).map qu=(rs.take k).map qu ++ [qu rs[k]]) (by rw [J7 h8,M1];rfl);obtain ⟨x,hx⟩:=O1 (rs[k]);rw [<- hx] at e0 e1 e2 e3 e4 e5 h7 h9 g2;clear hx;obtain ⟨nm,au,tm,ps,qs⟩:=x;obtain ⟨d2,d3⟩:=au;dsimp only at e0 e1 e2 e3 e4 e5;obtain ⟨WX,c9⟩:=O1 (wr.alloc (.cells #[.string nm,.int .i64 d2,.slice ia d3.length ic,.bool tm,.slice pa ps.length pc,.slice qa qs.length qc] 41));have d0:=O7 c9
     have Z:=O9 c9
     have z0:=qq Z (j:=0) rfl;have z1:=qq Z (j:=1) rfl;have z2:=qq Z (j:=2) rfl;have z3:=qq Z (j:=3) rfl;have z4:=qq Z (j:=4) rfl;have z5:=qq Z (j:=5) rfl;have c3:=U ((pX nm d2 d3 tm ps qs ia pa qa ic pc qc WX (h7.below d0 lz lz d0.size) h9).mono fun e w' h=>l8 h rfl rfl rfl);unfold gv at c3;obtain ⟨u,hu⟩:=O1 (qu ⟨nm,⟨d2,d3⟩,tm,ps,qs⟩);rw [<- hu] at c3 g2;have f2:=U d0;have k5:=U c9;clear d0 Z c9 h7 h9 hu;go_upto_region 8 with fail
     rw [<- k5.o];clear e0 e1 e2 e3 e4 e5 k5;go_wp2_with fail;refine c3.o.mono ?_;clear c3 z0 z1 z2 z3 z4 z5;rintro r w6 ⟨g7,g9,g6,g8,rfl,l3,h4⟩;have j3:=U l3;have K:=U (O2 f2 h4);have L:=U (qM HO.o K.o);have n6:=O0 (wr.heap.size<=WX.heap.size/\WX.heap.size<=w6.heap.size) (⟨f2.o.size,h4.size⟩);have o2:W.heap.size<=w6.heap.size:=J1 a3.o.size K.o.size;clear l3 h4;go_wp2_with (at_builtin;refine V6 _ rfl (.tmp 34) (.tmp 37) 23 rfl W.heap.size 25 i0 _ 5 80 N4 k7 m7 b9 m8 rfl (by omega) u6 k cs rfl (L.o.alloc _) ⟨w6.heap.size,0,none⟩ 1 1 (Array.toList #[.int .u8 u.kind,.int .i64 u.n,.string u.t,.slice g7 u.names.length g9,.slice g6 u.items.length g8]) rfl rfl (Y0 (cs:=#[.int .u8 u.kind,.int .i64 u.n,.string u.t,.slice g7 u.names.length g9,.slice g6 u.items.length g8]) (t:=25) (fr:=(0,0)) (J2 w6 _)) (by simp [Value.oneCell']) (by omega) (by unfold maxLen;omega) (by omega) (by simp;omega) (w6.heap.size+1) (by simp) ?_;intro g cap w7 hown7 hgrow7 hat7 hlt7;have n4:=U hown7;have f3:=U hgrow7;have e6:=U hat7;clear hown7 hgrow7 hat7);have f:O5 w6 (w6.alloc (.cells #[.int .u8 u.kind,.int .i64 u.n,.string u.t,.slice g7 u.names.length g9,.slice g6 u.items.length g8] 25)):=O4;have n5:=U (tO (cap:=cap) (k:=k) (g:=g) HO.o f7.o K.o a3.o.size n6.o.1 lz j3.o f f3.o (by
      rcases e6.o with h|h
      . exact .inl h
      . exact .inr (by omega)))
     have m9:=U (below_grown ((a0.o.trans (K.o.mono a0.o.size)).trans (f.mono (J1 a0.o.size K.o.size))) (by have:=a0.o.size;have:=K.o.size;simp;omega) f3.o (fun b z=>f0.o b z));have n2:=U (show w4.heap.size<=g from by
      rcases e6.o with h|h
      . exact f0.o g h
      . have:=a0.o.size;have:=K.o.size;omega)
     clear f f3 e6 j3 L K;go_roundw
     case rel=>exact ⟨k+1,_,by omega,by go_num,n4.o,by rw [g2.o];exact n5.o,fun b z=>by simp only [Value.ownBlock,H6] at z;have:=n2.o;omega,m9.o⟩
     case measure=>simp [intOf];omega
   . have m3:decide ((k:Int)<(nn:Int))=false:=by simpa using hlt
     have a8:=O0 (k=rs.length) (by rw [<- j1.o];omega);have l1:rs.take k=rs:=X2 (by rw [a8.o];exact J9 _);have k1:=U (show ∃a c,u6=.slice a k c/\zm wr W.heap.size wr.heap.size a (rs.map qu) from by
      have h:=f7.o;rw [l1] at h;obtain ⟨a,c,h1,h2,h3⟩:=zN HO.o h (by rw [X9,<- a8.o]);refine ⟨a,c,?_,h3⟩;rw [h1,X9,<- a8.o])
     clear l1 f7 HO f0;obtain ⟨va,vc,n9,l6⟩:=k1.o;subst n9;have c1:=U (Zl (rs.map qu) va vc W.heap.size wr (by have:=b1.o;omega) l6 (by rw [X9,<- a8.o];omega) (fun x hx=>by
      obtain ⟨y,hy,rfl⟩:=za8.1 hx;have:=mR (H.o.2 y hy);omega))
     unfold mr at c1;rw [X9,<- a8.o] at c1;have R:=U (i7.o.below a0.o);clear l6 k1;go_wp2_with fail;refine c1.o.mono ?_;clear c1;rintro r C ⟨a5,c5,rfl,b5,G⟩;have a9:=U b5;have E:=U G;have f1:=U a3.o;have Y:W.heap.size<=wr.heap.size:=a3.o.size;have i4:W.heap.size<=C.heap.size:=J1 Y G.size;have Q:=U (R.o.below G);have A:=O0 (C.ownsRow W.heap.size 169 6 (.slice (some ⟨g0,0,none⟩) 1 1) 1 (qK [(⟨qF,5,0,⟨#[]⟩,an,l.length,cn,ai,l.length,ci⟩:Mem)])) Q.o.own;have g4:=O0 (g0<wr.heap.size) ((R.o.own.lt g0 rfl).2);clear b5 G;go_upto_region 12 with (at_builtin;refine V6 _ rfl (.tmp 40) (.tmp 44) 170 rfl W.heap.size 169 i1 _ 6 96 zb9 l0 m4 m5 m6 rfl (by omega) (.slice (some ⟨g0,0,none⟩) 1 1) 1 (qK [(⟨qF,5,0,⟨#[]⟩,an,l.length,cn,ai,l.length,ci⟩:Mem)]) rfl (A.o.alloc _) ⟨C.heap.size,0,none⟩ 1 1 (qW (⟨xC,4,0,⟨#[]⟩,none,0,0,a5,k,c5⟩:Mem)) rfl rfl (Y0 (cs:=#[.string ⟨#[114,111,108,101,115]⟩,.int .u8 4,.int .i64 0,.string ⟨#[]⟩,.slice none 0 0,.slice a5 k c5]) (t:=169) (fr:=(0,0)) (J2 C _)) (jK _) (by omega) (by unfold maxLen;omega) (by omega) (by simp;omega) (C.heap.size+1) (by simp) ?_;intro g3 cap3 w6 hown6 hgrow6 hat6 hlt6;have L:=U hown6;have P:=U hgrow6;have a2:=U hat6;clear hown6 hgrow6 hat6)
     have f:O5 C (C.alloc (.cells #[.string ⟨#[114,111,108,101,115]⟩,.int .u8 4,.int .i64 0,.string ⟨#[]⟩,.slice none 0 0,.slice a5 k c5] 169)):=O4;have M:=U (below_grown ((f1.o.trans (E.o.mono Y)).trans (f.mono i4)) (by simp;omega) P.o (fun b z=>(A.o.lt b z).1));have a4:=U (show MemsAt W.heap.size w6 (.slice (some ⟨g3,0,none⟩) 2 cap3) ([(⟨qF,5,0,⟨#[]⟩,an,l.length,cn,ai,l.length,ci⟩:Mem)] ++ [(⟨xC,4,0,⟨#[]⟩,none,0,0,a5,k,c5⟩:Mem)]) ([zt l] ++ [zB (rs.map qu)]) from (Q.o.below f).snoc (⟨xC,4,0,⟨#[]⟩,none,0,0,a5,k,c5⟩:Mem) (zB (rs.map qu)) wr.heap.size C.heap.size Y (by simp) (fun b z=>by simp only [Value.ownBlock,H6] at z;have:=g4.o;omega) (a9.o.below f lz lz lz) P.o L.o (by
      rcases a2.o with h|h
      . exact .inl h.symm
      . exact .inr ⟨g3,rfl,by simp;omega⟩))
     have g5:=U b1.o;clear A L P a2 R Q E a9 f;have a7:=U (uc (v:=.slice (some ⟨g3,0,none⟩) 2 cap3) [(qF,zt l),(xC,zB (rs.map qu))] (N:=[(qF,zt l),(xC,zB (rs.map qu))]) ⟨_,by simpa using a4.o,by simp⟩ ⟨_,_,rfl⟩ (List.Perm.refl _) zf.2.2.2.1 (by simp) (fun p hp=>by
      simp only [H0,N8,zf2] at hp;rcases hp with rfl|rfl
      . exact k0.o
      . show (zB (rs.map qu)).wt<=4294967296;rw [mN];have h1:=yM rs H.o.2;have h2:=H.o.1;omega) (by have:=g5.o;omega))
     clear a4;go_wp2_with fail;refine a7.o.mono ?_;clear a7;rintro e w8 ⟨T,X,S,V,rfl,b6,b4⟩;have s:O5 W w8:=O2 M b4;obtain ⟨W9,F⟩:=O1 (w8.alloc (.cells #[.int .u8 5,.int .i64 0,.string ⟨#[]⟩,.slice T 2 X,.slice S 2 V] 25));have q:=O7 F
     have b7:=O9 F
     have d:=qj (s.trans (q.mono s.size)) c2.o c2.o.lt;have g1:=U d;have f6:=U (Rep.below b6 (B:=w8.heap.size) q lz lz q.size);have b2:=O0 (w.heap.size+2<=w6.heap.size) (J1 b1.o M.o.size);have e9:=U (HB.o.trans ((s.trans (q.mono s.size)).mono HB.o.size));obtain ⟨z0,z1,z2,z3,z4⟩:=bx5 b7;obtain ⟨t0,t1,t2,t3,t4⟩:=rc5 d;obtain ⟨s0,s1,s2,s3,s4⟩:=rf5 d;simp only [qZ] at t0 t1 t2 t3 t4;have b0:=U F;clear d b6 b4 s q b7 F;go_upto_region 13 with fail
     rw [<- b0.o];clear b0;go_wp2;refine X4 (Y7 Tryz.results85 _ _ (w.heap.size+1) 25 _ (0,0) _ rfl (qr (set5 _ _ _ _ _ g1.o)) X8 rfl (by kernel_rfl)) rfl ?_;rw [HJ.o];refine ⟨T,X,S,V,rfl,?_,zj _ _ _ _ _ e9.o (by omega)⟩;exact Rep.carry (by have:=b2.o;omega) (show W9.heap.size<=_ by simp [World.setCell]) (fun j hj _=>jm _ _ _ _ _ (by have:=b2.o;omega)) _ _ f6.o
 | false =>
  have i9:=U (show q6 ⟨o5,o9,⟨t,ids⟩⟩=true from by
   have h:=f4.o;simp only [Bool.false_eq_true,zf1,X3] at h;exact h.2)
  replace HJ:=U (show J=kx [(qF,zt l),(xP,zL ⟨o5,o9,⟨t,ids⟩⟩)] from by
   rw [HJ.o];unfold qT;rw [J3 (by rw [<- j0.o];decide)])
  have c0:=U (n0.o w4 D.o i9.o);unfold vX at c0;have k4:=U (l4 i9.o);obtain ⟨u,hu⟩:=O1 (zL ⟨o5,o9,⟨t,ids⟩⟩);have o1:=O0 (u.kind=5/\u.n=0/\u.t=⟨#[]⟩) (by rw [hu];exact ⟨rfl,rfl,rfl⟩);rw [<- hu] at c0 HJ k4;clear hu;have R:=U i7.o;have f1:=U D.o;have Y:W.heap.size<=w4.heap.size:=D.o.size;go_wp2_with fail;refine c0.o.mono ?_;clear c0 q0 q1 q2 q3 q4 q5;rintro r C ⟨a6,c6,a5,c5,rfl,b5,G⟩;have a9:=U b5;have E:=U G;have i4:W.heap.size<=C.heap.size:=J1 Y G.size;have Q:=U (R.o.below G);have A:=O0 (C.ownsRow W.heap.size 169 6 (.slice (some ⟨g0,0,none⟩) 1 1) 1 (qK [(⟨qF,5,0,⟨#[]⟩,an,l.length,cn,ai,l.length,ci⟩:Mem)])) Q.o.own;have g4:=O0 (g0<w4.heap.size) ((R.o.own.lt g0 rfl).2);clear b5 G;go_upto_region 12 with (at_builtin;refine V6 _ rfl (.tmp 46) (.tmp 51) 170 rfl W.heap.size 169 i1 _ 6 96 zb9 l0 m4 m5 m6 rfl (by omega) (.slice (some ⟨g0,0,none⟩) 1 1) 1 (qK [(⟨qF,5,0,⟨#[]⟩,an,l.length,cn,ai,l.length,ci⟩:Mem)]) rfl (A.o.alloc _) ⟨C.heap.size,0,none⟩ 1 1 (qW (⟨xP,5,0,⟨#[]⟩,a6,u.names.length,c6,a5,u.items.length,c5⟩:Mem)) rfl rfl (Y0 (cs:=#[.string ⟨#[115,117,99,99,105,110,99,116,95,114,111,108,101,115]⟩,.int .u8 5,.int .i64 0,.string ⟨#[]⟩,.slice a6 u.names.length c6,.slice a5 u.items.length c5]) (t:=169) (fr:=(0,0)) (J2 C _)) (jK _) (by omega) (by unfold maxLen;omega) (by omega) (by simp;omega) (C.heap.size+1) (by simp) ?_;intro g3 cap3 w6 hown6 hgrow6 hat6 hlt6;have L:=U hown6;have P:=U hgrow6;have a2:=U hat6;clear hown6 hgrow6 hat6)
  have f:O5 C (C.alloc (.cells #[.string ⟨#[115,117,99,99,105,110,99,116,95,114,111,108,101,115]⟩,.int .u8 5,.int .i64 0,.string ⟨#[]⟩,.slice a6 u.names.length c6,.slice a5 u.items.length c5] 169)):=O4;have M:=U (below_grown ((f1.o.trans (E.o.mono Y)).trans (f.mono i4)) (by simp;omega) P.o (fun b z=>(A.o.lt b z).1));have a4:=U (show MemsAt W.heap.size w6 (.slice (some ⟨g3,0,none⟩) 2 cap3) ([(⟨qF,5,0,⟨#[]⟩,an,l.length,cn,ai,l.length,ci⟩:Mem)] ++ [(⟨xP,5,0,⟨#[]⟩,a6,u.names.length,c6,a5,u.items.length,c5⟩:Mem)]) ([zt l] ++ [u]) from (Q.o.below f).snoc (⟨xP,5,0,⟨#[]⟩,a6,u.names.length,c6,a5,u.items.length,c5⟩:Mem) (u) w4.heap.size C.heap.size Y (by simp) (fun b z=>by simp only [Value.ownBlock,H6] at z;have:=g4.o;omega) (a9.o.below f lz lz lz) P.o L.o (by
   rcases a2.o with h|h
   . exact .inl h.symm
   . exact .inr ⟨g3,rfl,by simp;omega⟩))
  have g5:=U b1.o;clear A L P a2 R Q E a9 f;have a7:=U (uc (v:=.slice (some ⟨g3,0,none⟩) 2 cap3) [(qF,zt l),(xP,u)] (N:=[(qF,zt l),(xP,u)]) ⟨_,by simpa using a4.o,by simp⟩ ⟨_,_,rfl⟩ (List.Perm.refl _) zf.2.2.2.2 (by simp) (fun p hp=>by
   simp only [H0,N8,zf2] at hp;rcases hp with rfl|rfl
   . exact k0.o
   . show u.wt<=4294967296;have:=k4.o;omega) (by have:=g5.o;omega))
  clear a4;go_wp2_with fail;refine a7.o.mono ?_;clear a7;rintro e w8 ⟨T,X,S,V,rfl,b6,b4⟩;have s:O5 W w8:=O2 M b4;obtain ⟨W9,F⟩:=O1 (w8.alloc (.cells #[.int .u8 5,.int .i64 0,.string ⟨#[]⟩,.slice T 2 X,.slice S 2 V] 25));have q:=O7 F
  have b7:=O9 F
  have d:=qj (s.trans (q.mono s.size)) c2.o c2.o.lt;have g1:=U d;have f6:=U (Rep.below b6 (B:=w8.heap.size) q lz lz q.size);have b2:=O0 (w.heap.size+2<=w6.heap.size) (J1 b1.o M.o.size);have e9:=U (HB.o.trans ((s.trans (q.mono s.size)).mono HB.o.size));obtain ⟨z0,z1,z2,z3,z4⟩:=bx5 b7;obtain ⟨t0,t1,t2,t3,t4⟩:=rc5 d;obtain ⟨s0,s1,s2,s3,s4⟩:=rf5 d;simp only [qZ] at t0 t1 t2 t3 t4;have b0:=U F;clear d b6 b4 s q b7 F;go_upto_region 13 with fail
  rw [<- b0.o];clear b0;go_wp2;refine X4 (Y7 Tryz.results85 _ _ (w.heap.size+1) 25 _ (0,0) _ rfl (qr (set5 _ _ _ _ _ g1.o)) X8 rfl (by kernel_rfl)) rfl ?_;rw [HJ.o];refine ⟨T,X,S,V,rfl,?_,zj _ _ _ _ _ e9.o (by omega)⟩;exact Rep.carry (by have:=b2.o;omega) (show W9.heap.size<=_ by simp [World.setCell]) (fun j hj _=>jm _ _ _ _ _ (by have:=b2.o;omega)) _ _ f6.o
