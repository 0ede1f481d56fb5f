import Derived.Test.YthgembbgcbaghaaGreatDoorDn38
import Derived.Test.YthgembbgcbaghaaGreatDoorDn31
import Derived.Test.YthgembbgcbaghaaGreatDoorDn25
set_option maxHeartbeats 2000000
set_option maxRecDepth 100000

namespace Go.Proofs.YthgembbgcbaghaaGreatDoor
open Go.RowKit
def dB (u:JV) (er:Int) (w:World) (e:Ending) (w':World):Prop :=
 ∃an cn ai ci,e=.returned (.tuple #[.agg #[.int .u8 u.kind,.int .i64 u.n,.string u.t,.slice an u.names.length cn,.slice ai u.items.length ci],.int .i64 er]) /\
  Rep w' w.heap.size w'.heap.size u (.agg #[.int .u8 u.kind,.int .i64 u.n,.string u.t,.slice an u.names.length cn,.slice ai u.items.length ci])/\O5 w w'
theorem rq (w:World) (lo hi:Nat):Rep w lo hi qF zeroAgg:=by unfold qF Rep;exact ⟨none,0,none,0,rfl,Z9 _,Z9 _,.inl rfl,.inl rfl⟩
open Go.Shelf Go.Sort
theorem rz {w:World} {a e n cn:Nat} {an:Option Addr} {c:List Value} (h:w.ownsRow a e 1 (.slice an n cn) n c):n=0\/∃b,an=some ⟨b,0,none⟩/\a<=b/\iQ w b 0 n:=by
 rcases h.2 with ⟨_,h0⟩|⟨g,cap,cur,hv,hg,hh,hc,_,hs,_⟩
 . exact .inl h0
 . simp only [X4,H7] at hv;obtain ⟨rfl,rfl⟩:=hv;exact .inr ⟨g,rfl,hg,cur,e,hh,by rw [hs];omega⟩
def f9 (u:JV) (er:Int) (w:World) (e:Ending) (w':World):Prop :=
 ∃an cn ai ci,e=.returned (.tuple #[.agg #[.int .u8 u.kind,.int .i64 u.n,.string u.t,.slice an u.names.length cn,.slice ai u.items.length ci],.int .i64 er]) /\
  Rep w' w.heap.size w'.heap.size u (.agg #[.int .u8 u.kind,.int .i64 u.n,.string u.t,.slice an u.names.length cn,.slice ai u.items.length ci])/\O5 w w' /\
  (u.names.length=0\/∃b,an=some ⟨b,0,none⟩/\w.heap.size<=b/\iQ w' b 0 u.names.length)
theorem f9.val {u:JV} {j:Int} {w:World} {e:Ending} {w':World} (h:f9 u j w e w'):dB u j w e w':=by obtain ⟨b,d,a,c,f,g,i,_⟩:=h;exact ⟨b,d,a,c,f,g,i⟩
def aG (l:List Key2) (w:World) (e:Ending) (w':World):Prop :=
 (vI l≠0/\e=.returned (.tuple #[zeroAgg,.int .i64 (vI l)])/\O5 w w') \/
 (vI l=0/\∃m:List Key2,m.Perm l/\qK (ids m)=true/\f9 (zP m) 0 w e w')
structure TabAt (w wr:World) (v:Value) (l:List Key2) (k:Nat) (zs:List (Mem × Key2)):Prop where
 below:O5 w wr
 res:wr.rowIs w.heap.size 25 5 (qB (.int .u8 0) (.int .i64 0) (.string ⟨#[]⟩) (.slice none 0 0) (.slice none 0 0))
 own:wr.ownsRow (w.heap.size+1) 120 6 v k ((zs.map (·.1)).flatMap qU)
 row:xr wr (w.heap.size+1) (fun b=>v.ownBlock=some b) zs
 keys:zs.map (·.2)=l.take k
 err:jk [] l=jk (ids (l.take k)) (l.drop k)
theorem TabAt.later {w wr w':World} {v:Value} {l:List Key2} {k:Nat} {c:List (Mem × Key2)} (h:TabAt w wr v l k c) (a:O5 wr w'):TabAt w w' v l k c where
 below:=h.below.trans (a.mono h.below.size)
 res:=qw a h.res h.res.lt
 own:=qE h.own a
 row:=h.row.carry a.size (fun b hb' _ _=>a.block b hb') (fun _ hx=>.inl hx)
 keys:=h.keys
 err:=h.err
theorem TabAt.len {w wr:World} {v:Value} {l:List Key2} {k:Nat} {a:List (Mem × Key2)} (h:TabAt w wr v l k a) (b:k<=l.length):a.length=k:=by have:=Q7 List.length h.keys;simpa [b] using this
theorem TabAt.slice {w wr:World} {v:Value} {l:List Key2} {k:Nat} {f:List (Mem × Key2)} (h:TabAt w wr v l k f) (i:k<=l.length):(v=.slice none 0 0/\k=0)\/∃g cap,v=.slice (some ⟨g,0,none⟩) k cap/\w.heap.size<g/\g<wr.heap.size/\k<=cap /\
 ∀j c (hj:j<f.length),c<6->wr.cell? ⟨g,j * 6+c,none⟩=some ((qU f[j].1)[c]!):=by
 have e:=h.len i;rcases h.own.2 with ⟨rfl,h0⟩|⟨g,cap,cur,rfl,hg,hh,hc,_⟩
 . exact .inl ⟨rfl,h0⟩
 . refine .inr ⟨g,cap,rfl,by omega,qz hh,hc,fun j c hj hc6=>?_⟩;have d:=flat_get (ms:=f.map (·.1)) j c (by simpa using hj) hc6;have a:=h.own.cells (g:=g) rfl (j * 6+c) _ d;have b:(⟨g,0,none⟩:Addr).add (j * 6+c)=⟨g,j * 6+c,none⟩:=by unfold Addr.add;split <;> simp_all
   rw [b] at a;simpa using a
theorem rx:(Tryz.prog.info? 120).map (fun i=>(i.zero,i.size,i.bytes))=some (some (.agg #[.string ⟨#[]⟩,.int .u8 0,.int .i64 0,.string ⟨#[]⟩,.slice none 0 0,.slice none 0 0]),6,96):=by kernel_rfl
theorem TabAt.snoc {w wr r s:World} {v:Value} {l:List Key2} {k g cap lo hi:Nat} {y:List (Mem × Key2)} (x:Mem) (h:TabAt w wr v l k y) (z:k<l.length) (m:O5 wr r)
 (C:x.name=id2 l[k]) (u:ok2 l[k]=true) (q:xI (ids (l.take k)) (id2 l[k])=false)
 (B:wr.heap.size<=lo) (A:hi<=r.heap.size) (D:Rep r lo hi (obj2 l[k]) x.val)
 (o:r.grownBy s v.ownBlock) (p:v.ownBlock=some g\/r.heap.size<=g)
 (ho:s.ownsRow (w.heap.size+1) 120 6 (.slice (some ⟨g,0,none⟩) (k+1) cap) (k+1) ((y.map (·.1)).flatMap qU ++ qU x)) :
 TabAt w s (.slice (some ⟨g,0,none⟩) (k+1) cap) l (k+1) (y ++ [(x,l[k])]):=by
 have d:=h.res.lt;have a:∀b,v.ownBlock=some b->w.heap.size+1<=b/\b<wr.heap.size:=fun b hb=>h.own.lt b hb;have i:=m.size;have j:=o.size;have f:∀b,b<wr.heap.size->v.ownBlock≠some b->s.heap[b]?=wr.heap[b]?:=fun b hb hne=>by rw [o.block b (by omega) (fun e=>hne e.symm)];exact m.block b hb
 have c:∀b,(Value.slice (some ⟨g,0,none⟩) (k+1) cap).ownBlock=some b->b=g:=fun b hb=>by simp [Value.ownBlock] at hb;exact hb.symm
 refine ⟨⟨?_,?_,?_,by have:=h.below.size;omega,fun b hb=>?_⟩,h.res.of_block (f _ d (fun e=>by have:=(a _ e).1;omega)),?_,?_,?_,?_⟩
 . rw [o.os,m.os,h.below.os]
 . rw [o.tape,m.tape,h.below.tape]
 . rw [o.output,m.output,h.below.output]
 . rw [f b (by omega) (fun e=>by have:=(a _ e).1;omega)];exact h.below.block b hb
 . simpa [List.flatMap_append] using ho
 . refine xr.snoc (h.row.carry (by omega) (fun b hb hne _=>f b hb hne) fun b hx=>?_) x l[k] lo hi C (by omega) (by omega) (fun b hx hb=>?_) (Rep.carry lz lz (fun b h1 h2=>o.block b (by omega) (fun e=>by have:=(a b e.symm).2;omega)) _ _ D)
   . rw [c b hx];rcases p with ha|ha
     . exact .inl ha
     . exact .inr (.inl (by omega))
   . rw [c b hx] at hb;rcases p with ha|ha
     . have:=(a g ha).2;omega
     . omega
 . rw [N0,h.keys,Z8 z];rfl
 . rw [h.err,gv l k z,Q1 u,Z6 (by rw [q];simp)]
theorem TabAt.sliced {w wr:World} {v:Value} {l:List Key2} {k:Nat} {a:List (Mem × Key2)} (h:TabAt w wr v l k a) (b:k<=l.length):∃av cap,v=.slice av k cap/\((k=0/\av=none/\cap=0)\/∃g,av=some ⟨g,0,none⟩/\w.heap.size<g/\g<wr.heap.size /\
 ∀j c (d:j<a.length),c<6->wr.cell? ⟨g,j * 6+c,none⟩=some ((qU a[j].1)[c]!)):=by
 rcases h.slice b with ⟨rfl,rfl⟩|⟨g,cap,rfl,h1,h2,_,h4⟩
 . exact ⟨none,0,rfl,.inl ⟨rfl,rfl,rfl⟩⟩
 . exact ⟨_,cap,rfl,.inr ⟨g,rfl,h1,h2,h4⟩⟩
theorem TabAt.names {w wr:World} {v:Value} {l:List Key2} {k:Nat} {a:List (Mem × Key2)} (h:TabAt w wr v l k a):ids (l.take k)=a.map (fun z=>z.1.name):=by rw [<- h.keys];unfold ids;rw [List.map_map];exact List.map_congr_left fun z hz=>(h.row z hz).1.symm
theorem TabAt.hit {w wr:World} {v:Value} {l:List Key2} {k:Nat} {a:List (Mem × Key2)} (h:TabAt w wr v l k a) (x:ByteArray) (j:Nat) (c:j<a.length) (b:(a[j].1.name.toList == x.toList)=true):xI (ids (l.take k)) x=true:=by rw [h.names];unfold xI;rw [List.any_map,M5];exact ⟨a[j],J1 c,b⟩
theorem TabAt.fresh {w wr:World} {v:Value} {l:List Key2} {k:Nat} {a:List (Mem × Key2)} (h:TabAt w wr v l k a) (x:ByteArray) (c:∀j (b:j<a.length),(a[j].1.name.toList == x.toList)=false):xI (ids (l.take k)) x=false:=by rw [h.names];unfold xI;rw [List.any_map,List.any_eq_false];intro z hz;obtain ⟨j,b,rfl⟩:=Y1 hz;show ¬(a[j].1.name.toList == x.toList)=true;rw [c j b];simp
structure SortedAt (w w':World) (av:Option Addr) (l m:List Key2) (zs:List (Mem × Key2)):Prop where
 perm:m.Perm l
 keys:zs.map (·.2)=m
 rise:qK (ids m)=true
 below:O5 w w'
 res:w'.rowIs w.heap.size 25 5 (qB (.int .u8 0) (.int .i64 0) (.string ⟨#[]⟩) (.slice none 0 0) (.slice none 0 0))
 row:xr w' (w.heap.size+1) (fun _=>False) zs
 cells:l.length=0\/∃g,av=some ⟨g,0,none⟩/\g<w'.heap.size/\∀j c (hj:j<zs.length),c<6->w'.cell? ⟨g,j * 6+c,none⟩=some ((qU zs[j].1)[c]!)
theorem TabAt.sorted {w wr:World} {R:Option Addr} {cap:Nat} {l:List Key2} {S:List (Mem × Key2)} (h:TabAt w wr (.slice R l.length cap) l l.length S) (V:l.length<=4294967)
 (T:(l.length=0/\R=none/\cap=0)\/∃g,R=some ⟨g,0,none⟩/\w.heap.size<g/\g<wr.heap.size) :
 Calls Tryz.prog 88 #[.slice R l.length cap,.func (.func 89) #[] #[]] wr fun e w'=>e=.returned (.tuple #[])/\∃m zs',SortedAt w w' R l m zs':=by
 have f:=h.len lz;have I:=h.err;rw [List.take_length,List.drop_length] at I;obtain ⟨N,_,D⟩:=(vQ l []).1 I;have d:=h.keys;rw [List.take_length] at d;rcases T with ⟨h0,rfl,rfl⟩|⟨g,rfl,hg1,hg2⟩
 . rw [h0];have Q:l=[]:=J4 h0;subst Q;refine (aK wr).mono ?_;rintro e w' ⟨rfl,rfl⟩;have F:S=[]:=J4 f;subst F;exact ⟨rfl,[],[],List.Perm.refl _,rfl,rfl,h.below,h.res,xr.nil _ _ _,.inl rfl⟩
 . have L:=cL h.own;have r:(S.map (·.1)).toArray.size=l.length:=by simp [f]
   have H:=aJ g 0 cap (S.map (·.1)).toArray wr L hg2 (by omega);rw [r] at H;refine H.mono ?_;rintro e w' ⟨rfl,A,⟨E,P,y⟩,B,z⟩;refine ⟨rfl,?_⟩;rw [r] at E y;obtain ⟨zs',q,C⟩:=mu (·.1) (by simpa using P) S rfl;have M:zs'.length=l.length:=by rw [q.length_eq];exact f
   have p:∀i (hi:i<zs'.length),A[i]! = zs'[i].1:=fun i hi=>by
    have e:A.toList[i]?=(zs'.map (·.1))[i]?:=by rw [C]
    rw [List.getElem?_map,V5 hi] at e;have a:i<A.size:=by omega
    rw [getElem!_pos A i a];rw [Array.getElem?_toList,V1 a] at e;exact J0 e
   have o:xr w' (w.heap.size+1) (fun _=>False) zs':=(h.row.carry z.size (fun b hb k _=>z.block b hb (fun e=>k (by rw [e];rfl))) (fun b hx=>hx.elim)).perm q;have x:(zs'.map (·.2)).Perm l:=by rw [<- d];exact q.map _
   have v:∀i (hi:i<zs'.length),zs'[i].1.name=id2 zs'[i].2:=fun i hi=>(o _ (J1 hi)).1;refine ⟨zs'.map (·.2),zs',x,rfl,?_,h.below.trans (z.below h.below.size fun b hb e=>by omega),z.row h.res (by omega),o,.inr ⟨g,rfl,by have:=z.size;omega,fun j c hj T=>?_⟩⟩
   . have u:(ids (zs'.map (·.2))).Nodup:=((x.map id2).nodup_iff).2 D;refine fg fun i j hi hj hij=>?_;have a:i<zs'.length:=by simpa [ids] using hi
     have s:j<zs'.length:=by simpa [ids] using hj
     have J:(ids (zs'.map (·.2)))[i]=zs'[i].1.name:=by rw [v i a];simp [ids]
     have K:(ids (zs'.map (·.2)))[j]=zs'[j].1.name:=by rw [v j s];simp [ids]
     have k:(ids (zs'.map (·.2)))[i]≠(ids (zs'.map (·.2)))[j]:=fun e=>by exact (N3.1 u) i j hi hj hij e
     rw [J,K] at k ⊢;have G:=y i j hij (by omega);rw [p i a,p j s] at G;cases hb:bl zs'[i].1.name zs'[j].1.name
     . exact absurd (fV hb G) k
     . rfl
   . have:=(HoldsK.cell B (i:=j) (c:=c) (by omega) T).1;rw [p j hj] at this;simpa using this
theorem sl (l:List Key2) (a:Option Addr) (c:Nat) (w:World) (hK:xv w 0 w.heap.size a l) (hl:l.length<=4294967) (hs:∀k ∈ l,k.1.size<=300/\k.2.size<=300) (hT:Tabs w) :
 Calls Tryz.prog 37 #[.slice a l.length c] w (aG l w):=by
 have HK:=U hK;have HS:=U hs;have HT:=U hT;clear hK hs hT;have m2:=U (qt w (.int .u8 0) (.int .i64 0) (.string ⟨#[]⟩) (.slice none 0 0) (.slice none 0 0) 25);have f2:=O0 (O5 w (w.alloc (.cells #[.int .u8 0,.int .i64 0,.string ⟨#[]⟩,.slice none 0 0,.slice none 0 0] 25))) O4;by_cases h32:l.length<=32
 case neg =>
  have c6:decide (32<l.length)=true:=by simp;omega
  have c7:decide (32<(l.length:Int))=true:=by simp;omega
  have HE:=U (show vI l=5 by unfold vI;rw [Q1 (by omega)]);go_enter Tryz.func37,Tryz.ntmps37;go_wp2;refine Q3 (qb Tryz.results37 _ _ w.heap.size 25 _ (0,0) _ rfl (Z4 w _) Q6 rfl (by kernel_rfl) _ rfl) rfl (.inl ⟨by rw [HE.o];decide,by rw [HE.o];rfl,f2.o⟩)
 have c6:decide (32<l.length)=false:=by simp;omega
 have c7:decide (32<(l.length:Int))=false:=by simp;omega
 have HE:=U (show vI l=jk [] l by unfold vI;rw [Z6 (by omega)]);obtain ⟨i3,n4,o9,p1,p2⟩:=V2 rx;go_enter Tryz.func37,Tryz.ntmps37;go_wp2;go_loopw [4,6,7,8,10,20] (fun v _ _ _ _ i wr=>∃(k:Nat) (P:List (Mem × Key2)),k<=l.length/\i=.int .i64 k/\TabAt w wr v l k P) (fun _ _ _ _ _ i _=>l.length - (intOf i).toNat)
 case atStart=>exact ⟨0,[],by omega,rfl,f2.o,m2.o,Y0 _ _ _ _,xr.nil _ _ _,by simp,by simp [ids]⟩
 case round =>
  obtain ⟨k,P,hk,rfl,hA⟩:=hrel;have HA:=U hA;have v3:w.heap.size<wr.heap.size:=hA.res.lt;by_cases hlt:k<l.length
  . obtain ⟨b,k6,ha,_,hb,e0,e1⟩:=(HK.o.below hA.below lz lz hA.below.size).at k hlt;subst ha;obtain ⟨c1,c2⟩:=HS.o l[k] (J1 hlt);have b7:=U (gv l k hlt);have l3:=U hlt;obtain ⟨x,hx⟩:=O1 (l[k]);have HX:=U hx;replace e0:=e0.trans (Q7 (fun z:Key2=>some (Value.string z.1)) hx.symm);replace e1:=e1.trans (Q7 (fun z:Key2=>some (Value.string z.2)) hx.symm);replace c1:x.1.size<=300:=hx ▸ c1;replace c2:x.2.size<=300:=hx ▸ c2;replace b7:=O0 (jk (ids (l.take k)) (l.drop k)=if ok2 x then (if xI (ids (l.take k)) (id2 x) then 7 else jk (ids (l.take (k+1))) (l.drop (k+1))) else 3) (hx ▸ b7.o);clear hx hA;obtain ⟨xs,xp⟩:=x;replace c1:xs.size<=300:=c1;replace c2:xp.size<=300:=c2;replace e0:wr.cell? ⟨b,k6+k * 2,none⟩=some (.string xs):=e0;replace e1:wr.cell? ⟨b,k6+k * 2+1,none⟩=some (.string xp):=e1;have d7:=O0 (O5 wr (wr.alloc (.cells #[.string xs,.string xp] 43))) O4;have h6:=U ((HT.o.below HA.o.below).below d7.o);cases hok:zF xs.data.toList xp.data.toList
    . have B:=U (cC xs xp (wr.alloc (.cells #[.string xs,.string xp] 43)) (by omega) (by omega) h6.o hok);have I:=U (show vI l=3 by rw [HE.o,HA.o.err,b7.o];unfold ok2;rw [Z6 (by simp [hok])]);clear hok;unfold tk at B;go_wp2_with fail;refine B.o.mono ?_;clear B;rintro e A ⟨rfl,X⟩;have J:=d7.o.trans (X.mono (by simp));have u:=J.alloc J.size (.cells #[.string ⟨#[]⟩,.int .u8 0,.int .i64 0,.string ⟨#[]⟩,.slice none 0 0,.slice none 0 0] 120);have Q:=U (HA.o.later u);have f:=Q.o.res;obtain ⟨t0,t1,t2,t3,t4⟩:=rc5 f;obtain ⟨s0,s1,s2,s3,s4⟩:=rf5 f;simp only [qB] at t0 t1 t2 t3 t4;clear f X J u;go_wp2;refine Q3 (qb Tryz.results37 _ _ w.heap.size 25 _ (0,0) _ rfl (qJ (set5 _ _ _ _ _ Q.o.res)) Q6 rfl (by kernel_rfl) _ rfl) rfl (.inl ⟨by rw [I.o];decide,by rw [I.o];rfl,zn _ _ _ _ _ Q.o.below lz⟩)
    . have B:=U (mf xs xp (wr.alloc (.cells #[.string xs,.string xp] 43)) (by omega) (by omega) h6.o hok);have h4:=U hok;clear hok;unfold cM at B;obtain ⟨p,e5⟩:=O1 (lX xs xp);rw [<- e5] at B;have e3:=U e5;clear e5;go_wp2_with fail;refine B.o.mono ?_;clear B;rintro e A ⟨E,G,D,F,rfl,k4,X⟩;have J:=d7.o.trans (X.mono (by simp));have v4:wr.heap.size+1<=A.heap.size:=by have:=X.size;simpa using this
      obtain ⟨W1,V⟩:=O1 (A.alloc (.cells #[.string p,.int .u8 5,.int .i64 0,.string ⟨#[]⟩,.slice E 2 G,.slice D 2 F] 120));have u:O5 wr W1:=by rw [V];exact J.alloc J.size _
      have d6:=U u;have Q:=U (HA.o.later u);have m7:=U (show W1.heap[A.heap.size]?=some (.cells #[.string p,.int .u8 5,.int .i64 0,.string ⟨#[]⟩,.slice E 2 G,.slice D 2 F] 120 (0,0)) by rw [V];exact Z4 A _);have m3:=U (show Rep W1 (wr.heap.size+1) A.heap.size (jd xs xp) (.agg #[.int .u8 5,.int .i64 0,.string ⟨#[]⟩,.slice E 2 G,.slice D 2 F]) by
       rw [V];exact Rep.carry (by simp) lz (fun b _ h=>J8 _ _ _ h) _ _ k4)
      have i6:W1.heap.size=A.heap.size+1:=by rw [V];simp
      have i5:=U i6;obtain ⟨av,cap,rfl,c5⟩:=HA.o.sliced hk;have j3:P.length=k:=HA.o.len hk;have i4:=U V;clear V u J k4 X e0 e1 c5 i6;obtain ⟨wo,rfl⟩:∃wo:World,wo=wr:=⟨_,rfl⟩;go_wp2_with fail;rw [<- i4.o];clear i4;go_loopw [10,35] (fun _ i wr=>∃j:Nat,j<=k/\i=.int .i64 j/\(∀q (hq:q<P.length),q<j->(P[q].1.name.toList == p.toList)=false)/\O5 W1 wr) (fun _ i _=>k - (intOf i).toNat)
      case atStart=>exact ⟨0,by omega,rfl,fun q _ h=>by omega,Z0 _ _⟩
      case round =>
       obtain ⟨j,hj,rfl,k2,b8⟩:=hrel;have g5:=U k2;have a2:=U b8;have a0:=U (Q.o.later b8);have s:wr.heap[A.heap.size]?=some (.cells #[.string p,.int .u8 5,.int .i64 0,.string ⟨#[]⟩,.slice E 2 G,.slice D 2 F] 120 (0,0)):=by rw [b8.block _ (by rw [i5.o];omega)];exact m7.o
       have r6:=U s;have o8:A.heap.size<wr.heap.size:=qz s;have x0:=qq s (j:=0) rfl;clear k2 b8;by_cases hjk:j<k
       . have K:j<P.length:=by omega
         obtain ⟨g,ha,v0,i9,d⟩:∃g,av=some ⟨g,0,none⟩/\w.heap.size<g/\g<wr.heap.size/\∀j c (hj:j<P.length),c<6->wr.cell? ⟨g,j * 6+c,none⟩=some ((qU P[j].1)[c]!):=by
          obtain ⟨r7,p3,hv,hc⟩:=a0.o.sliced hk;simp only [X4,H7] at hv;obtain ⟨rfl,rfl⟩:=hv;rcases hc with ⟨h0,_⟩|hc
          . omega
          . exact hc
         subst ha;have y0:=d j 0 K (by decide);have y1:=d j 1 K (by decide);have y2:=d j 2 K (by decide);have y3:=d j 3 K (by decide);have y4:=d j 4 K (by decide);have y5:=d j 5 K (by decide);have a9:=U (a0.o.hit p j K);have b0:=U (show (P[j].1.name.toList == p.toList)=false->∀q (hq:q<P.length),q<j+1->(P[q].1.name.toList == p.toList)=false from fun h q hq hqj=>by
          by_cases e:q=j
          . subst e;exact h
          . exact g5.o q hq (by omega))
         clear d s;generalize P[j].1=mj at y0 y1 y2 y3 y4 y5 a9 b0;simp only [qU,Nat.add_zero,List.getElem!_cons_zero,List.getElem!_cons_succ] at y0 y1 y2 y3 y4 y5;have v5:(wr.alloc (.cells #[.string mj.name,.int .u8 mj.k,.int .i64 mj.n,.string mj.t,.slice mj.an mj.nn mj.cn,.slice mj.ai mj.ni mj.ci] 120)).cell? ⟨A.heap.size,0,none⟩=some (.string p):=(qX _ o8).trans x0;have f5:=O0 (O5 W1 (wr.alloc (.cells #[.string mj.name,.int .u8 mj.k,.int .i64 mj.n,.string mj.t,.slice mj.an mj.nn mj.cn,.slice mj.ai mj.ni mj.ci] 120))) (a2.o.alloc a2.o.size _);have d0:=U (Q.o.later f5.o);have m9:(0:Int)<=(j:Int):=by omega
         have n0:(j:Int)<(k:Int):=by omega
         cases hq:(mj.name.toList == p.toList)
         . have e4:=U (b0.o hq);clear a9 b0;go_wp2;go_roundw
           case rel=>exact ⟨j+1,by omega,by go_num,e4.o,f5.o⟩
           case measure=>simp [intOf];omega
         . have I:=U (show vI l=7 by
            rw [HE.o,HA.o.err,b7.o];unfold ok2 id2;rw [Q1 h4.o,Q1 (by have:=a9.o hq;rw [e3.o] at this;exact this)])
           have f:=d0.o.res;obtain ⟨t0,t1,t2,t3,t4⟩:=rc5 f;obtain ⟨s0,s1,s2,s3,s4⟩:=rf5 f;simp only [qB] at t0 t1 t2 t3 t4;clear f a9 b0;go_wp2;refine Q3 (qb Tryz.results37 _ _ w.heap.size 25 _ (0,0) _ rfl (qJ (set5 _ _ _ _ _ d0.o.res)) Q6 rfl (by kernel_rfl) _ rfl) rfl (.inl ⟨by rw [I.o];decide,by rw [I.o];rfl,zn _ _ _ _ _ d0.o.below lz⟩)
       . have l0:=U (a0.o.fresh p (fun q hq=>g5.o q hq (by omega)));have x1:=qq s (j:=1) rfl;have x2:=qq s (j:=2) rfl;have x3:=qq s (j:=3) rfl;have x4:=qq s (j:=4) rfl;have x5:=qq s (j:=5) rfl;have HN:=U a0.o.own;have v2:w.heap.size+1<=wr.heap.size:=by have:=a0.o.res.lt;omega
         clear s;go_wp2_with (at_builtin;refine X9 _ rfl (.tmp 46) (.tmp 48) 118 rfl (w.heap.size+1) 120 i3 _ 6 96 Tryz.underlying118 n4 o9 p1 p2 rfl (by decide) (.slice av k cap) k ((P.map (·.1)).flatMap qU) rfl (HN.o.alloc _) ⟨wr.heap.size,0,none⟩ 1 1 (qU ⟨p,5,0,⟨#[]⟩,E,2,G,D,2,F⟩) rfl rfl (J5 (cs:=#[.string p,.int .u8 5,.int .i64 0,.string ⟨#[]⟩,.slice E 2 G,.slice D 2 F]) (t:=120) (fr:=(0,0)) (Z4 wr _)) (by simp [qU,Value.oneCell']) (by omega) (by unfold maxLen;omega) (by omega) (by simp;omega) (wr.heap.size+1) (by simp) ?_;intro g1 cap2 w6 hown6 hgrow6 hat6 hlt6;have m0:=U hown6;have e2:=U hgrow6;have k7:=U hat6;clear hown6 hgrow6 hat6);go_roundw
         case rel =>
          refine ⟨k+1,P ++ [(⟨p,5,0,⟨#[]⟩,E,2,G,D,2,F⟩,l[k])],by omega,by go_num,?_⟩;have m8:O5 wo (wr.alloc (.cells #[.string p,.int .u8 5,.int .i64 0,.string ⟨#[]⟩,.slice E 2 G,.slice D 2 F] 120)):=(d6.o.trans (a2.o.mono d6.o.size)).alloc (by have:=d6.o.size;have:=a2.o.size;omega) _;refine TabAt.snoc (lo:=wo.heap.size+1) (hi:=A.heap.size) ⟨p,5,0,⟨#[]⟩,E,2,G,D,2,F⟩ HA.o l3.o m8 ?_ ?_ ?_ (by omega) (by simp;omega) ?_ e2.o (by rcases k7.o with h|h;exact .inl h;exact .inr (by simp;omega)) m0.o
          . exact e3.o.trans (Q7 id2 HX.o)
          . exact (Q7 ok2 HX.o).symm.trans h4.o
          . exact (Q7 (fun z=>xI (ids (l.take k)) (id2 z)) HX.o).symm.trans (by have:=l0.o;rw [e3.o] at this;exact this)
          . have n9:Rep (wr.alloc (.cells #[.string p,.int .u8 5,.int .i64 0,.string ⟨#[]⟩,.slice E 2 G,.slice D 2 F] 120)) (wo.heap.size+1) A.heap.size (obj2 (xs,xp)) (Mem.val ⟨p,5,0,⟨#[]⟩,E,2,G,D,2,F⟩):=Rep.carry lz lz (fun b _ h=>by rw [J8 _ _ _ (by omega),a2.o.block b (by rw [i5.o];omega)]) _ _ m3.o;exact Eq.mp (Q7 (fun z=>Rep (wr.alloc (.cells #[.string p,.int .u8 5,.int .i64 0,.string ⟨#[]⟩,.slice E 2 G,.slice D 2 F] 120)) (wo.heap.size+1) A.heap.size (obj2 z) (Mem.val ⟨p,5,0,⟨#[]⟩,E,2,G,D,2,F⟩)) HX.o) n9
         case measure=>simp [intOf];omega
  . obtain rfl:k=l.length:=by omega
    have I:=U (show vI l=0 by
     rw [HE.o,HA.o.err,List.drop_length];rfl)
    obtain ⟨av,cap,rfl,c5⟩:=HA.o.sliced lz;have h5:=U (HA.o.sorted hl (by rcases c5 with h|⟨g,h1,h2,h3,_⟩;exact .inl h;exact .inr ⟨g,h1,h2,h3⟩));clear c5 hA hlt hk;obtain ⟨wo,rfl⟩:∃wo:World,wo=wr:=⟨_,rfl⟩;go_wp2_with fail;refine h5.o.mono ?_;clear h5;rintro e w2 ⟨rfl,m,Z,L⟩;have T:=U L;have a1:=O0 (O5 w2 (w2.alloc (.cells #[.int .u8 5,.int .i64 0,.string ⟨#[]⟩,.slice none 0 0,.slice none 0 0] 25))) O4;have HO:=U (show ObjAt2 (w2.alloc (.cells #[.int .u8 5,.int .i64 0,.string ⟨#[]⟩,.slice none 0 0,.slice none 0 0] 25)) (w2.alloc (.cells #[.int .u8 5,.int .i64 0,.string ⟨#[]⟩,.slice none 0 0,.slice none 0 0] 25)) (w.heap.size+1) w2.heap.size 25 9 25 (.slice none 0 0) (.slice none 0 0) [] [] [] from
     ⟨by simp,by have:=L.res.lt;simp;omega,Touch.refl _ _,qt _ _ _ _ _ _ _,Y0 _ _ _ _,Y0 _ _ _ _,q6.nil _ _ _,fun b hb=>by simp [Value.ownBlock] at hb⟩)
    have n5:m.length=l.length:=L.perm.length_eq;have j3:Z.length=l.length:=by have:=Q7 List.length L.keys;simp at this;omega
    have k5:w.heap.size<w2.heap.size:=L.res.lt;have f7:=U L.cells;clear L;obtain ⟨nd,c0⟩:=O1 l.length;rw [<- c0] at n5 j3 h32 hl f7;have r5:=U c0;obtain ⟨i1,n2,o3,o4,o5⟩:=V2 xY;obtain ⟨i2,n3,o0,o1,o2⟩:=V2 gr;rw [<- c0];clear c0 c6 c7;go_wp2_with fail;obtain ⟨r,a6⟩:=O1 w2.heap.size;obtain ⟨W,hW⟩:=O1 (w2.alloc (.cells #[.int .u8 5,.int .i64 0,.string ⟨#[]⟩,.slice none 0 0,.slice none 0 0] 25));rw [<- hW] at HO a1;rw [<- a6] at HO;rw [<- hW,<- a6];have H:=U a6;have C:=U (show W.heap.size=r+1 by rw [hW,a6];simp);clear hW a6;go_loopw [13,56] (fun _ i wr=>∃(k:Nat) (cs:List Value) (vn vi:Value),k<=nd/\i=.int .i64 k/\ObjAt2 W wr (w.heap.size+1) r 25 9 25 vn vi ((ids m).take k) ((m.map obj2).take k) cs) (fun _ i _=>nd - (intOf i).toNat)
    case atStart=>exact ⟨0,[],.slice none 0 0,.slice none 0 0,by omega,rfl,by simpa using HO.o⟩
    case round =>
     clear HO;obtain ⟨k,cs,vn,vi,hk,rfl,M⟩:=hrel;have o:=U M;have t9:W.heap.size<=wr.heap.size:=M.touch.size;have t8:r<wr.heap.size:=M.row.lt;clear M;by_cases hlt:k<nd
     . have e6:k<Z.length:=by omega
       have j2:k<m.length:=by omega
       obtain ⟨g,ha,i9,d⟩:∃g,av=some ⟨g,0,none⟩/\g<w2.heap.size/\∀j c (hj:j<Z.length),c<6->w2.cell? ⟨g,j * 6+c,none⟩=some ((qU Z[j].1)[c]!):=by
        rcases f7.o with h|h
        . omega
        . exact h
       subst ha;replace d:∀c,c<6->wr.cell? ⟨g,k * 6+c,none⟩=some ((qU Z[k].1)[c]!):=fun c hc=>by rw [o.o.touch.cell (show g<W.heap.size by rw [C.o,H.o];omega) (show ¬g=r by rw [H.o];omega),a1.o.cell (by exact i9)];exact d k c e6 hc
       have y0:=d 0 (by decide);have y1:=d 1 (by decide);have y2:=d 2 (by decide);have y3:=d 3 (by decide);have y4:=d 4 (by decide);have y5:=d 5 (by decide);clear d;obtain ⟨k3,lo,hi,n6,j1,_,y⟩:=T.o.row _ (J1 e6);have e7:m[k]=Z[k].2:=by
        have:(Z.map (·.2))[k]'(by simpa using e6)=m[k]:=by simp only [T.o.keys]
        rw [<- this];simp
       have i0:=U (show (ids m).take (k+1)=(ids m).take k ++ [Z[k].1.name] by
        rw [Z8 (by simpa [ids] using j2),k3];simp [ids,e7])
       have h7:=U (show (m.map obj2).take (k+1)=(m.map obj2).take k ++ [obj2 Z[k].2] by
        rw [Z8 (by simpa using j2)];simp [e7])
       have a4:=O0 (Rep wr lo hi (obj2 Z[k].2) Z[k].1.val) (Rep.carry lz lz (fun b h1 h2=>by rw [o.o.touch.block b (by rw [C.o,H.o];omega) (by rw [H.o];omega),a1.o.block b (by omega)]) _ _ y);have g0:=U (show hi<=r by rw [H.o];exact j1);obtain ⟨e9,f1,e8,f0,c9,_⟩:=y.parts;have a5:=U c9;clear k3 y j1 e7 c9;generalize Z[k].2=kk at h7 a4 a5;generalize Z[k].1=mk at y0 y1 y2 y3 y4 y5 i0 a4 a5;simp only [qU,Nat.add_zero,List.getElem!_cons_zero,List.getElem!_cons_succ] at y0 y1 y2 y3 y4 y5;have S:=U (show ((ids m).take k).length=k by simp [ids];omega);have R:=U (show ((m.map obj2).take k).length=k by simp;omega);have HN:=U (show wr.ownsRow W.heap.size 9 1 vn k (((ids m).take k).map .string) by have:=o.o.names;rwa [S.o] at this);have f6:=O0 (O5 wr (wr.alloc (.cells #[.string mk.name,.int .u8 mk.k,.int .i64 mk.n,.string mk.t,.slice mk.an mk.nn mk.cn,.slice mk.ai mk.ni mk.ci] 120))) O4;have a3:=U (o.o.below f6.o);have c3:(wr.alloc (.cells #[.string mk.name,.int .u8 mk.k,.int .i64 mk.n,.string mk.t,.slice mk.an mk.nn mk.cn,.slice mk.ai mk.ni mk.ci] 120)).cell? ⟨r,3,none⟩=some vn:=a3.o.row.cell (by decide);have f3:(wr.alloc (.cells #[.string mk.name,.int .u8 mk.k,.int .i64 mk.n,.string mk.t,.slice mk.an mk.nn mk.cn,.slice mk.ai mk.ni mk.ci] 120)).frozen? ⟨r,3,none⟩=false:=a3.o.row.frozen 3;have c4:(wr.alloc (.cells #[.string mk.name,.int .u8 mk.k,.int .i64 mk.n,.string mk.t,.slice mk.an mk.nn mk.cn,.slice mk.ai mk.ni mk.ci] 120)).cell? ⟨r,4,none⟩=some vi:=a3.o.row.cell (by decide);have f4:(wr.alloc (.cells #[.string mk.name,.int .u8 mk.k,.int .i64 mk.n,.string mk.t,.slice mk.an mk.nn mk.cn,.slice mk.ai mk.ni mk.ci] 120)).frozen? ⟨r,4,none⟩=false:=a3.o.row.frozen 4;have Y:=Z4 wr (.cells #[.string mk.name,.int .u8 mk.k,.int .i64 mk.n,.string mk.t,.slice mk.an mk.nn mk.cn,.slice mk.ai mk.ni mk.ci] 120);have b1:(wr.alloc (.cells #[.string mk.name,.int .u8 mk.k,.int .i64 mk.n,.string mk.t,.slice mk.an mk.nn mk.cn,.slice mk.ai mk.ni mk.ci] 120)).cell? ⟨wr.heap.size,1,none⟩=some (.int .u8 mk.k):=qq Y rfl;have b2:(wr.alloc (.cells #[.string mk.name,.int .u8 mk.k,.int .i64 mk.n,.string mk.t,.slice mk.an mk.nn mk.cn,.slice mk.ai mk.ni mk.ci] 120)).cell? ⟨wr.heap.size,2,none⟩=some (.int .i64 mk.n):=qq Y rfl;have b3:(wr.alloc (.cells #[.string mk.name,.int .u8 mk.k,.int .i64 mk.n,.string mk.t,.slice mk.an mk.nn mk.cn,.slice mk.ai mk.ni mk.ci] 120)).cell? ⟨wr.heap.size,3,none⟩=some (.string mk.t):=qq Y rfl;have b4:(wr.alloc (.cells #[.string mk.name,.int .u8 mk.k,.int .i64 mk.n,.string mk.t,.slice mk.an mk.nn mk.cn,.slice mk.ai mk.ni mk.ci] 120)).cell? ⟨wr.heap.size,4,none⟩=some (.slice mk.an mk.nn mk.cn):=qq Y rfl;have b5:(wr.alloc (.cells #[.string mk.name,.int .u8 mk.k,.int .i64 mk.n,.string mk.t,.slice mk.an mk.nn mk.cn,.slice mk.ai mk.ni mk.ci] 120)).cell? ⟨wr.heap.size,5,none⟩=some (.slice mk.ai mk.ni mk.ci):=qq Y rfl;have e4:=U (HN.o.alloc (.cells #[.string mk.name,.int .u8 mk.k,.int .i64 mk.n,.string mk.t,.slice mk.an mk.nn mk.cn,.slice mk.ai mk.ni mk.ci] 120));have o6:(wr.alloc (.cells #[.string mk.name,.int .u8 mk.k,.int .i64 mk.n,.string mk.t,.slice mk.an mk.nn mk.cn,.slice mk.ai mk.ni mk.ci] 120)).heap.size=wr.heap.size+1:=by simp
       have g3:=U (show ((wr.alloc (.cells #[.string mk.name,.int .u8 mk.k,.int .i64 mk.n,.string mk.t,.slice mk.an mk.nn mk.cn,.slice mk.ai mk.ni mk.ci] 120)).alloc (.cells #[.string mk.name] 9)).heap[wr.heap.size+1]?=some (.cells #[.string mk.name] 9 (0,0)) by have:=Z4 (wr.alloc (.cells #[.string mk.name,.int .u8 mk.k,.int .i64 mk.n,.string mk.t,.slice mk.an mk.nn mk.cn,.slice mk.ai mk.ni mk.ci] 120)) (.cells #[.string mk.name] 9);rwa [o6] at this);have b9:some r≠vn.ownBlock:=fun e=>by have:=(o.o.names.lt _ e.symm).1;have:=C.o;omega
       have a7:some wr.heap.size≠vn.ownBlock:=fun e=>by have:=(o.o.names.lt _ e.symm).2;omega
       have i7:some r≠vi.ownBlock:=fun e=>by have:=(o.o.items.lt _ e.symm).1;have:=C.o;omega
       have v1:W.heap.size<=(wr.alloc (.cells #[.string mk.name,.int .u8 mk.k,.int .i64 mk.n,.string mk.t,.slice mk.an mk.nn mk.cn,.slice mk.ai mk.ni mk.ci] 120)).heap.size:=by simp;omega
       clear Y;have m9:(0:Int)<=(k:Int):=by omega
       have n0:(k:Int)<(nd:Int):=by omega
       have p4:¬r=wr.heap.size:=by omega
       go_wp2_with (at_builtin;first
        | (
         refine X9 _ rfl (.tmp 61) (.tmp 64) 22 rfl W.heap.size 9 i2 _ 1 16 M0 n3 o0 o1 o2 rfl (by decide) vn k (((ids m).take k).map .string) rfl (e4.o.alloc _) ⟨wr.heap.size+1,0,none⟩ 1 1 [.string mk.name] rfl rfl (J5 (cs:=#[.string mk.name]) (t:=9) (fr:=(0,0)) g3.o) (by simp [Value.oneCell']) (by omega) (by unfold maxLen;omega) (by omega) (by simp;omega) (wr.heap.size+2) (by simp) ?_;intro g1 cap2 w6 hown6 hgrow6 hat6 hlt6;have s5:=zw hgrow6 (by simp;omega) b9 c3;have t5:=zf hgrow6 (by simp;omega) b9 f3;have s6:=zw hgrow6 (by simp;omega) b9 c4;have t6:=zf hgrow6 (by simp;omega) b9 f4;have d1:=zw hgrow6 (by simp) a7 b1;have d2:=zw hgrow6 (by simp) a7 b2;have d3:=zw hgrow6 (by simp) a7 b3;have d4:=zw hgrow6 (by simp) a7 b4;have d5:=zw hgrow6 (by simp) a7 b5;have o7:=hgrow6.size;rw [show ((wr.alloc (.cells #[.string mk.name,.int .u8 mk.k,.int .i64 mk.n,.string mk.t,.slice mk.an mk.nn mk.cn,.slice mk.ai mk.ni mk.ci] 120)).alloc (.cells #[.string mk.name] 9)).heap.size=wr.heap.size+2 by simp] at o7;have b6:=U (show ObjAt2 W (w6.setCell ⟨r,3,none⟩ (.slice (some ⟨g1,0,none⟩) (k+1) cap2)) (w.heap.size+1) r 25 9 25 (.slice (some ⟨g1,0,none⟩) (k+1) cap2) vi ((ids m).take k ++ [mk.name]) ((m.map obj2).take k) cs by
          have:=(a3.o.below ((Z0 _ _).alloc lz (.cells #[.string mk.name] 9))).name mk.name (g:=g1) (cap:=cap2) hgrow6 (by rcases hat6 with h|h;exact .inl h;exact .inr (by simp;omega)) (by rw [S.o];exact hown6);rwa [S.o] at this)
         have l2:=U (show (w6.setCell ⟨r,3,none⟩ (.slice (some ⟨g1,0,none⟩) (k+1) cap2)).ownsRow W.heap.size 25 5 vi k cs by have:=b6.o.items;rwa [R.o] at this);have e2:=U hgrow6;clear hown6 hgrow6 hat6)
        | (
         refine X9 _ rfl (.tmp 68) (.tmp 71) 23 rfl W.heap.size 25 i1 _ 5 80 W8 n2 o3 o4 o5 rfl (by decide) vi k cs rfl (l2.o.alloc _) ⟨w6.heap.size,0,none⟩ 1 1 [.int .u8 mk.k,.int .i64 mk.n,.string mk.t,.slice mk.an mk.nn mk.cn,.slice mk.ai mk.ni mk.ci] rfl rfl ?_ (by simp [Value.oneCell']) (by omega) (by unfold maxLen;omega) (by omega) ?_ (w6.heap.size+1) (by simp [World.setCell]) ?_
         . have:=J5 (cs:=#[.int .u8 mk.k,.int .i64 mk.n,.string mk.t,.slice mk.an mk.nn mk.cn,.slice mk.ai mk.ni mk.ci]) (t:=25) (fr:=(0,0)) (Z4 (w6.setCell ⟨r,3,none⟩ (.slice (some ⟨g1,0,none⟩) (k+1) cap2)) (.cells #[.int .u8 mk.k,.int .i64 mk.n,.string mk.t,.slice mk.an mk.nn mk.cn,.slice mk.ai mk.ni mk.ci] 25));rw [show (w6.setCell ⟨r,3,none⟩ (.slice (some ⟨g1,0,none⟩) (k+1) cap2)).heap.size=w6.heap.size by simp [World.setCell]] at this;exact this
         . simp [World.setCell];omega
         intro g2 cap3 w8 hown8 hgrow8 hat8 hlt8;have s7:=zw hgrow8 (by simp [World.setCell];omega) i7 (b6.o.row.cell (i:=4) (by decide));have t7:=zf hgrow8 (by simp [World.setCell];omega) i7 (b6.o.row.frozen 4);have m1:=U hown8;have l1:=U hgrow8;have k8:=U hat8;clear hown8 hgrow8 hat8))
       go_roundw
       case rel => refine ⟨k+1,cs ++ [.int .u8 mk.k,.int .i64 mk.n,.string mk.t,.slice mk.an mk.nn mk.cn,.slice mk.ai mk.ni mk.ci],.slice (some ⟨g1,0,none⟩) (k+1) cap2,.slice (some ⟨g2,0,none⟩) (k+1) cap3,by omega,by go_num,?_⟩;have hv:=a5.o;simp only [Mem.val,K3,K8,V4,Value.int.injEq,Value.string.injEq,H7,N7] at hv;obtain ⟨q0,q1,q2,q3,q4⟩:=hv;have hr:=a4.o;unfold Mem.val at hr;rw [q0,q1,q2,q3,q4] at hr;have ho:=m1.o;rw [q0,q1,q2,q3,q4] at ho ⊢;rw [i0.o,h7.o];have n1:O5 wr ((wr.alloc (.cells #[.string mk.name,.int .u8 mk.k,.int .i64 mk.n,.string mk.t,.slice mk.an mk.nn mk.cn,.slice mk.ai mk.ni mk.ci] 120)).alloc (.cells #[.string mk.name] 9)):=f6.o.alloc (by simp) _;have n8:Rep ((w6.setCell ⟨r,3,none⟩ (.slice (some ⟨g1,0,none⟩) (k+1) cap2)).alloc (.cells #[.int .u8 (obj2 kk).kind,.int .i64 (obj2 kk).n,.string (obj2 kk).t,.slice e9 (obj2 kk).names.length f1,.slice e8 (obj2 kk).items.length f0] 25)) lo hi (obj2 kk) (.agg #[.int .u8 (obj2 kk).kind,.int .i64 (obj2 kk).n,.string (obj2 kk).t,.slice e9 (obj2 kk).names.length f1,.slice e8 (obj2 kk).items.length f0]):=(by refine Rep.carry lz lz (fun b h1 h2=>?_) _ _ hr;have:=g0.o;rw [J8 _ _ _ (by simp [World.setCell];omega),Q5 _ _ _ _ (by show b≠r;omega),e2.o.block b (by simp;omega) (fun e=>by have:=(o.o.names.lt b e.symm).1;have:=C.o;omega),n1.block b (by omega)]);have n7:=(b6.o.below ((Z0 _ _).alloc lz (.cells #[.int .u8 (obj2 kk).kind,.int .i64 (obj2 kk).n,.string (obj2 kk).t,.slice e9 (obj2 kk).names.length f1,.slice e8 (obj2 kk).items.length f0] 25)));have j0:=l1.o;rw [q0,q1,q2,q3,q4] at j0;have:=n7.item (it:=obj2 kk) (lo:=lo) (hi:=hi) (g:=g2) (cap:=cap3) n6 g0.o n8 j0 (by rcases k8.o with h|h;exact .inl h;exact .inr (by simp [World.setCell];omega)) (by rw [R.o];exact ho);rw [R.o] at this;exact this
       case measure=>simp [intOf];omega
     . obtain rfl:k=nd:=by omega
       have k0:(ids m).take k=ids m:=Q4 (by simp [ids];omega);have k1:(m.map obj2).take k=m.map obj2:=Q4 (by simp;omega);rw [k0,k1] at o;have S:=U (show (ids m).length=k by simp [ids];omega);have R:=U (show (m.map obj2).length=k by simp;omega);obtain ⟨E,G,D,F,rfl,rfl,y⟩:=o.o.done;have m4:=U y;have a8:=o.o.names;have f:=o.o.row;have N:=o.o.touch.row (qw a1.o T.o.res k5) (by rw [H.o];omega);have q5:w.heap.size<r:=by rw [H.o];exact k5
       rw [S.o,R.o] at f;obtain ⟨r0,r1,r2,r3,r4⟩:=rc5 f;obtain ⟨t0,t1,t2,t3,t4⟩:=rc5 N;obtain ⟨s0,s1,s2,s3,s4⟩:=rf5 N;simp only [qB] at r0 r1 r2 r3 r4 t0 t1 t2 t3 t4;have m5:=U N;have k9:=O0 (O5 w wr) ((T.o.below.trans (a1.o.mono (by omega))).trans (o.o.touch.below (by have:=C.o;omega) fun j hj e=>by omega));have g4:=U a8;clear f N y k0 k1 a8 o;go_wp2;refine Q3 (qb Tryz.results37 _ _ w.heap.size 25 _ (0,0) _ rfl (qJ (set5 _ _ _ _ _ m5.o)) Q6 rfl (by kernel_rfl) _ rfl) rfl (.inr ⟨I.o,m,T.o.perm,T.o.rise,E,G,D,F,?_,?_,zn _ _ _ _ _ k9.o lz,?_⟩)
       . show _=Ending.returned (.tuple #[.agg #[.int .u8 5,.int .i64 0,.string ⟨#[]⟩,.slice E (ids m).length G,.slice D (m.map obj2).length F],.int .i64 0]);rw [S.o,R.o];rfl
       . exact Rep.carry (by omega) (show wr.heap.size<=_ by simp [World.setCell]) (fun j hj _=>js _ _ _ _ _ (by omega)) _ _ m4.o
       . exact rz (vF (base':=w.heap.size) (xj g4.o fun b hb=>js _ _ _ _ _ (by have:=(g4.o.lt b hb).1;have:=C.o;omega)) (by have:=C.o;omega))
def ol (l:List Key2) (y s:Nat):List Key2:=(List.range s).map fun j=>l.getD ((l.length - 1 - j+y) % l.length) (⟨#[]⟩,⟨#[]⟩)
def iw (l:List Key2) (w:World) (e:Ending) (w':World):Prop :=
 ∃u:JV,(vI l=0->∃m:List Key2,m.Perm l/\qK (ids m)=true/\u=zP m)/\(vI l≠0->u=qF)/\u.wt<=4294967296/\dB u (vI l) w e w'
theorem hY (l:List Key2) (a:Option Addr) (c:Nat) (w:World) (o:xv w 0 w.heap.size a l) (q:l.length<=40) (j:∀k ∈ l,k.1.size<=300/\k.2.size<=300) (p:Tabs w) :
 Calls Tryz.prog 37 #[.slice a l.length c] w (iw l w):=by
 refine (sl l a c w o (by omega) j p).mono ?_;rintro e w' (⟨b,rfl,f⟩|⟨b,m,d,g,i⟩)
 . exact ⟨qF,fun h=>absurd h b,fun _=>rfl,by decide,none,0,none,0,rfl,rq _ _ _,f⟩
 . refine ⟨zP m,fun _=>⟨m,d,g,rfl⟩,fun h=>absurd b h,?_,by rw [b];exact i.val⟩;have:=fF (m:=m) (fun k hk=>j k (d.subset hk));have:=d.length_eq;omega
def ma (v:JV) (w:World) (e:Ending) (w':World):Prop :=
 ∃val,e=.returned (.tuple #[val,.int .i64 (xK v).2])/\w'.ownsRow w.heap.size 43 2 val (xK v).1.length ((xK v).1.flatMap ya)/\O5 w w'
theorem sr (v:JV) (x:Value) (w:World) (lo:Nat) (f1:0<lo) (hN:v.wt<=4294967296) (hR:Rep w lo w.heap.size v x) (hT:Tabs w) :
 Calls Tryz.prog 61 #[x] w (ma v w):=by
 obtain ⟨J,L,Z,ci,hx,h1,h2,h3,h4⟩:=hR.parts;have HR:=U hR;have c6:=U f1;clear f1;have H3:=U h3;have H4:=U h4;obtain ⟨b1,b2,b3,b4⟩:=v.wt_bd;clear h1 h2 h3 h4 hR;subst hx;have HT:=U hT;clear hT;have u:=O0 (O5 w (w.alloc (.cells #[.int .u8 v.kind,.int .i64 v.n,.string v.t,.slice J v.names.length L,.slice Z v.items.length ci] 25))) O4;have F:=U (Z4 w (.cells #[.int .u8 v.kind,.int .i64 v.n,.string v.t,.slice J v.names.length L,.slice Z v.items.length ci] 25));have Y:=U (kZ v _ (w.alloc (.cells #[.int .u8 v.kind,.int .i64 v.n,.string v.t,.slice J v.names.length L,.slice Z v.items.length ci] 25)) hN (HR.o.below u.o lz (Q2 _) (by simp)));cases hm:v.mayB
 . have X:=U (show xK v=([],3) by unfold xK;rw [Q1 hm]);rw [hm] at Y;clear hm;go_enter Tryz.func61,Tryz.ntmps61;go_wp2_with fail;refine Y.o.mono ?_;rintro e s ⟨rfl,c⟩;have o:=U (u.o.trans (c.mono (by simp)));clear c;go_wp2;go_ret2;exact ⟨.slice none 0 0,by rw [X.o] <;> rfl,by rw [X.o];exact Y0 _ _ _ _,o.o⟩
 rw [hm] at Y;have N:=U hm;clear hm;by_cases hk5:v.kind=5
 case neg =>
  have X:=U (show xK v=([],10) by unfold xK;rw [Z6 (by simp [N.o]),Q1 hk5]);have t1:(v.kind != 5)=true:=by simpa using hk5
  clear hk5;go_enter Tryz.func61,Tryz.ntmps61;go_wp2_with fail;refine Y.o.mono ?_;rintro e s ⟨rfl,c⟩;have g:s.heap[w.heap.size]?=some (.cells #[.int .u8 v.kind,.int .i64 v.n,.string v.t,.slice J v.names.length L,.slice Z v.items.length ci] 25 (0,0)):=by rw [c.block _ (by simp)];exact F.o
  have o:=U (u.o.trans (c.mono (by simp)));have c0:=qq g (j:=0) rfl;clear c g;go_wp2;go_ret2;exact ⟨.slice none 0 0,by rw [X.o] <;> rfl,by rw [X.o];exact Y0 _ _ _ _,o.o⟩
 have t1:(v.kind != 5)=false:=by simpa using hk5
 obtain ⟨_,S,_⟩:=dh N.o hk5;have a8:=U hk5;clear hk5;obtain ⟨j,H⟩:=O1 v.names.length;rw [<- S,<- H] at Y F u;rw [<- S,<- H];have P:=U H;have c7:=U (show v.items.length=j by rw [H,S]);clear H S;by_cases h32:j<=32
 case neg =>
  have X:=U (show xK v=([],5) by unfold xK;rw [Z6 (by simp [N.o]),Z6 (by simp [a8.o]),Q1 (by rw [<- P.o];omega)]);have t2:decide (32<(j:Int))=true:=by simp;omega
  go_enter Tryz.func61,Tryz.ntmps61;go_wp2_with fail;refine Y.o.mono ?_;rintro e s ⟨rfl,c⟩;have g:s.heap[w.heap.size]?=some (.cells #[.int .u8 v.kind,.int .i64 v.n,.string v.t,.slice J j L,.slice Z j ci] 25 (0,0)):=by rw [c.block _ (by simp)];exact F.o
  have o:=U (u.o.trans (c.mono (by simp)));have c0:=qq g (j:=0) rfl;have c3:=qq g (j:=3) rfl;clear c g;go_wp2;go_ret2;exact ⟨.slice none 0 0,by rw [X.o] <;> rfl,by rw [X.o];exact Y0 _ _ _ _,o.o⟩
 have t2:decide (32<(j:Int))=false:=by simp;omega
 have c5:=U (show xK v=ji v.names v.items [] by unfold xK;rw [Z6 (by simp [N.o]),Z6 (by simp [a8.o]),Z6 (by rw [<- P.o];omega)]);obtain ⟨i3,d2,d5,d6,d7⟩:=V2 sC;go_enter Tryz.func61,Tryz.ntmps61;go_wp2_with fail;refine Y.o.mono ?_;clear Y;rintro e s ⟨rfl,c⟩;have g:s.heap[w.heap.size]?=some (.cells #[.int .u8 v.kind,.int .i64 v.n,.string v.t,.slice J j L,.slice Z j ci] 25 (0,0)):=by rw [c.block _ (by simp)];exact F.o
 have d1:=U g;have o:=U (u.o.trans (c.mono (by simp)));have b9:w.heap.size<s.heap.size:=qz g;have c0:=qq g (j:=0) rfl;have c3:=qq g (j:=3) rfl;clear c g u F;go_wp2_with fail;clear c0 c3;go_loopw [4,5,6,7,8,9,23] (fun ks _ _ _ _ _ i wr=>∃(k:Nat) (a:List Key2),k<=j/\i=.int .i64 k/\a.length=k/\xK v=ji (v.names.drop k) (v.items.drop k) a/\wr.ownsRow s.heap.size 43 2 ks k (a.flatMap ya)/\O5 s wr) (fun ks _ _ _ _ _ i _=>j - (intOf i).toNat)
 case atStart=>exact ⟨0,[],by omega,rfl,rfl,c5.o,Y0 _ _ _ _,Z0 _ _⟩
 case round =>
  obtain ⟨k,a,hk,rfl,Q,b7,I,r⟩:=hrel;obtain ⟨am,cm,b8,_⟩:=pF I Q.symm;rw [Q] at b8;subst b8;have M:=U b7;have HO:=U I;have HB:=U r;have l:=U (O2 o r);have d4:s.heap.size<=wr.heap.size:=r.size;have V:wr.heap[w.heap.size]?=some (.cells #[.int .u8 v.kind,.int .i64 v.n,.string v.t,.slice J j L,.slice Z j ci] 25 (0,0)):=by rw [r.block _ b9];exact d1.o
  have e6:=U V;have c3:=qq V (j:=3) rfl;have c4:=qq V (j:=4) rfl;clear b7 I r V;by_cases hlt:k<j
  . have a4:k<v.names.length:=by rw [<- P.o];exact hlt
    have R:k<v.items.length:=by rw [c7.o];exact hlt
    have m:=U (cu v.names v.items k a a4 R);obtain ⟨p,f,ha,_,e7,y1⟩:=(H3.o.below l.o lz lz lz).at k a4;subst ha;obtain ⟨p',f',e0,e1,e2,e3,e4,ha,_,e5,g0,g1,g2,g3,g4,hr⟩:=(H4.o.below l.o lz lz lz).at k R;subst ha;have d3:=JV.wts_get v.items k R;have E:=U (keyOf v.items[k] _ wr lo w.heap.size (by omega) (by have:=l.o.size;omega) hr fun _ _ _ _=>.inl c6.o);unfold fx at E;have a9:=U (@lJ v.items[k]);obtain ⟨K,hK⟩:=O1 (zu v.items[k]);obtain ⟨nk,a5⟩:=O1 (v.names[k]);rw [<- hK] at E a9;replace m:=U (m.o.trans (Q7 (fun z=>pA z v.names[k] (v.names.drop (k+1)) (v.items.drop (k+1)) a) hK.symm));replace m:=U (m.o.trans (Q7 (fun z=>pA K z (v.names.drop (k+1)) (v.items.drop (k+1)) a) a5.symm));replace y1:=y1.trans (Q7 (fun z=>some (Value.string z)) a5.symm);clear hK a5 hr d3 a4 R;obtain ⟨⟨d,A⟩,ke⟩:=K;have q0:(0:Int)<=(k:Int):=by omega
    have q1:(k:Int)<(j:Int):=by omega
    by_cases hke:ke=0
    case neg =>
     have t3:(ke != 0)=true:=by simpa using hke
     have h:=U (show xK v=([],ke) by rw [M.o,m.o];unfold pA;rw [Q1 hke]);clear hke;go_wp2_with fail;refine E.o.mono ?_;rintro e W ⟨rfl,q⟩;have a2:=U ((O2 l q).alloc (by have:=l.o.size;have:=q.size;omega) (.cells #[.string d,.string A] 43));clear q;go_wp2;go_ret2;exact ⟨.slice none 0 0,by rw [h.o] <;> rfl,by rw [h.o];exact Y0 _ _ _ _,a2.o⟩
    subst hke;obtain ⟨T,a0,a1⟩:=a9.o rfl;replace T:zF d.data.toList A.data.toList=true:=T;replace a0:d.size<=64:=a0;replace a1:A.size<=128:=a1;go_wp2_with fail;refine E.o.mono ?_;clear E;rintro e W ⟨rfl,q⟩;have e8:wr.heap.size<=W.heap.size:=q.size;obtain ⟨W2,G⟩:=O1 (W.alloc (.cells #[.string d,.string A] 43));have y:O5 wr W2:=by rw [G];exact q.alloc q.size _
    have a2:=U (HB.o.trans (y.mono d4));have C:=U (O2 l y);have c9:=U (qE HO.o y);have b6:=U (show W2.heap[W.heap.size]?=some (.cells #[.string d,.string A] 43 (0,0)) by rw [G];exact Z4 W _);have D:=U (dQ d A W2 (by omega) (by omega) (HT.o.below C.o));unfold jX at D;rw [T,Q1 rfl] at D;obtain ⟨ID,a3⟩:∃ID:ByteArray,ID=⟨(jR d.data.toList A.data.toList).toArray⟩:=⟨_,rfl⟩;rw [<- a3] at D;replace m:=U (show ji (v.names.drop k) (v.items.drop k) a=if (ID.toList == nk.toList)=true then ji (v.names.drop (k+1)) (v.items.drop (k+1)) (a ++ [(d,A)]) else ([],3) by rw [m.o];unfold pA;rw [Z6 (by simp)];rw [a3];rfl);have f0:W2.heap.size=W.heap.size+1:=by rw [G];simp
    have b5:=U G;clear a3 T q y G;go_wp2_with fail;rw [<- b5.o];refine D.o.mono ?_;clear D b5;rintro e w3 ⟨rfl,B⟩;have e9:W2.heap.size<=w3.heap.size:=B.size;have c1:=U (a2.o.trans (B.mono (by omega)));have a7:=U (C.o.trans (B.mono (C.o.size)));have b0:=U (qE c9.o B);have a6:w3.heap[W.heap.size]?=some (.cells #[.string d,.string A] 43 (0,0)):=by rw [B.block _ (qz b6.o)];exact b6.o
    have x0:=qq a6 (j:=0) rfl;have x1:=qq a6 (j:=1) rfl;clear B a6 g0 g1 g2 g3 g4 c3 c4 y1;cases hq:(ID.toList == nk.toList)
    . have t4:(ID.toList != nk.toList)=true:=by simpa [bne] using hq
      have h:=U (show xK v=([],3) by rw [M.o,m.o,hq];rfl);go_wp2_with fail
      skip
      go_ret2;exact ⟨.slice none 0 0,by rw [h.o] <;> rfl,by rw [h.o];exact Y0 _ _ _ _,a7.o⟩
    . have t4:(ID.toList != nk.toList)=false:=by simpa [bne] using hq
      have h:=U (show xK v=ji (v.names.drop (k+1)) (v.items.drop (k+1)) (a ++ [(d,A)]) by rw [M.o,m.o,hq];rfl);go_wp2_with (at_builtin;refine X9 _ rfl (.tmp 51) (.tmp 53) 28 rfl s.heap.size 43 i3 _ 2 32 Tryz.underlying28 d2 d5 d6 d7 rfl (by decide) (.slice am k cm) k (a.flatMap ya) rfl (b0.o.alloc _) ⟨w3.heap.size,0,none⟩ 1 1 [.string d,.string A] rfl rfl (J5 (cs:=#[.string d,.string A]) (t:=43) (fr:=(0,0)) (Z4 w3 _)) (by simp [Value.oneCell']) (by omega) (by unfold maxLen;omega) (by omega) (by simp;omega) (w3.heap.size+1) (by simp) ?_;intro g1 cap2 w6 hown6 hgrow6 hat6 hlt6;have d0:=U hown6;have c2:=U hgrow6;clear hown6 hgrow6 hat6);go_roundw
      case rel => refine ⟨k+1,a ++ [(d,A)],by omega,by go_num,by simp [Q],h.o,?_,below_grown (c1.o.alloc (by omega) _) (by simp;omega) c2.o (fun b hb=>(b0.o.lt b hb).1)⟩;rw [List.flatMap_append];simpa [ya] using d0.o
      case measure=>simp [intOf];omega
  . obtain rfl:k=j:=by omega
    have h:=U (show xK v=(a,0) by
     rw [M.o,List.drop_of_length_le (by rw [<- P.o];exact Z9 _),lK])
    go_wp2;go_ret2;exact ⟨_,by rw [h.o] <;> rfl,by rw [h.o];have:=vF (base':=w.heap.size) HO.o (Nat.le_of_lt b9);show wr.ownsRow _ _ _ _ a.length _;rw [Q];exact this,l.o⟩
theorem aB {m:List Key2} (a:∀k ∈ m,ok2 k=true) (b:qK (ids m)=true) (c:m.length<=32):vI m=0:=by unfold vI;rw [Z6 (by omega)];exact (vQ m []).2 ⟨a,by simp,uZ b⟩
