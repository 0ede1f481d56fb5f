import Derived.Test.YthgembbgcbaghaaGreatDoorDt38
import Derived.Test.YthgembbgcbaghaaGreatDoorDt32
import Derived.Test.YthgembbgcbaghaaGreatDoorDt37
set_option maxHeartbeats 8000000
set_option maxRecDepth 100000

namespace Go.Proofs.YthgembbgcbaghaaGreatDoor
open Go.RowKit
def Qo (s t:ByteArray):JV:=if zh s.data.toList t.data.toList then jr s t else zo
def Qe (s t:ByteArray):Int:=if zh s.data.toList t.data.toList then 0 else 3
def pr (u:JV) (er:Int) (w:World) (e:Ending) (w':World):Prop :=
 ∃an cn ai ci,e=.returned (.tuple #[.agg #[.int .u8 u.kind,.int .i64 u.n,.string u.t,.slice an u.names.length cn,.slice ai u.items.length ci],.int .i64 er]) /\
  Rep w' w.heap.size w'.heap.size u (.agg #[.int .u8 u.kind,.int .i64 u.n,.string u.t,.slice an u.names.length cn,.slice ai u.items.length ci])/\Below w.heap.size w w'
theorem mw (w:World) (lo hi:Nat):Rep w lo hi zo zeroAgg:=by unfold zo Rep;exact ⟨none,0,none,0,rfl,J0 _,J0 _,.inl rfl,.inl rfl⟩
theorem fT (s t:ByteArray) (w:World) (hs:s.size<=4294967000) (ht:t.size<=4294967000):Calls Tryz.prog 161 #[.agg #[.string s,.string t]] w (pr (Qo s t) (Qe s t) w):=by
 unfold Qo Qe;cases hk:zh s.data.toList t.data.toList
 . refine (uh s t w hs ht hk).mono ?_;rintro e w' ⟨rfl,a⟩;exact ⟨none,0,none,0,rfl,mw _ _ _,a⟩
 . refine (fA s t w hs ht hk).mono ?_;rintro e w' ⟨c,f,b,d,rfl,g,a⟩;exact ⟨c,f,b,d,rfl,g,a⟩
open Go.Shelf Go.Sort
theorem aZ {w:World} {base e n cn:Nat} {an:Option Addr} {xs:List Value} (h:w.ownsRow base e 1 (.slice an n cn) n xs):n=0\/∃b,an=some ⟨b,0,none⟩/\base<=b/\QG w b 0 n:=by
 rcases h.2 with ⟨_,h0⟩|⟨g,cap,cur,hv,hg,hh,hc,_,hs,_⟩
 . exact .inl h0
 . simp only [V2,zc0] at hv;obtain ⟨rfl,rfl⟩:=hv;exact .inr ⟨g,rfl,hg,cur,e,hh,by rw [hs];omega⟩
def cf (u:JV) (er:Int) (w:World) (e:Ending) (w':World):Prop :=
 ∃an cn ai ci,e=.returned (.tuple #[.agg #[.int .u8 u.kind,.int .i64 u.n,.string u.t,.slice an u.names.length cn,.slice ai u.items.length ci],.int .i64 er]) /\
  Rep w' w.heap.size w'.heap.size u (.agg #[.int .u8 u.kind,.int .i64 u.n,.string u.t,.slice an u.names.length cn,.slice ai u.items.length ci])/\Below w.heap.size w w' /\
  (u.names.length=0\/∃b,an=some ⟨b,0,none⟩/\w.heap.size<=b/\QG w' b 0 u.names.length)
theorem cf.val {u:JV} {er:Int} {w:World} {e:Ending} {w':World} (h:cf u er w e w'):pr u er w e w':=by obtain ⟨b,d,a,c,f,g,i,_⟩:=h;exact ⟨b,d,a,c,f,g,i⟩
def eh (l:List Key2) (w:World) (e:Ending) (w':World):Prop :=
 (wI l≠0/\e=.returned (.tuple #[zeroAgg,.int .i64 (wI l)])/\Below w.heap.size w w') \/
 (wI l=0/\∃m:List Key2,m.Perm l/\qe (ids m)=true/\cf (zi m) 0 w e w')
structure TabAt (w wr:World) (v:Value) (l:List Key2) (k:Nat) (zs:List (Mem × Key2)):Prop where
 below:Below w.heap.size w wr
 res:wr.rowIs w.heap.size 25 5 (qZ (.int .u8 0) (.int .i64 0) (.string ⟨#[]⟩) (.slice none 0 0) (.slice none 0 0))
 own:wr.ownsRow (w.heap.size+1) 120 6 v k ((zs.map (·.1)).flatMap qG)
 row:xU wr (w.heap.size+1) (fun b=>v.ownBlock=some b) zs
 keys:zs.map (·.2)=l.take k
 err:jL [] l=jL (ids (l.take k)) (l.drop k)
theorem TabAt.later {w wr w':World} {v:Value} {l:List Key2} {k:Nat} {zs:List (Mem × Key2)} (h:TabAt w wr v l k zs) (hb:Below wr.heap.size wr w'):TabAt w w' v l k zs where
 below:=h.below.trans (hb.mono h.below.size)
 res:=qj hb h.res h.res.lt
 own:=qH h.own hb
 row:=h.row.carry hb.size (fun b hb' _ _=>hb.block b hb') (fun _ hx=>.inl hx)
 keys:=h.keys
 err:=h.err
theorem TabAt.len {w wr:World} {v:Value} {l:List Key2} {k:Nat} {zs:List (Mem × Key2)} (h:TabAt w wr v l k zs) (hk:k<=l.length):zs.length=k:=by have:=X1 List.length h.keys;simpa [hk] using this
theorem TabAt.slice {w wr:World} {v:Value} {l:List Key2} {k:Nat} {zs:List (Mem × Key2)} (h:TabAt w wr v l k zs) (hk:k<=l.length):(v=.slice none 0 0/\k=0)\/∃g cap,v=.slice (some ⟨g,0,none⟩) k cap/\w.heap.size<g/\g<wr.heap.size/\k<=cap /\
 ∀j c (hj:j<zs.length),c<6->wr.cell? ⟨g,j * 6+c,none⟩=some ((qG zs[j].1)[c]!):=by
 have e:=h.len hk;rcases h.own.2 with ⟨rfl,h0⟩|⟨g,cap,cur,rfl,hg,hh,hc,_⟩
 . exact .inl ⟨rfl,h0⟩
 . refine .inr ⟨g,cap,rfl,by omega,qx hh,hc,fun j c hj hc6=>?_⟩;have d:=flat_get (ms:=zs.map (·.1)) j c (by simpa using hj) hc6;have a:=h.own.cells (g:=g) rfl (j * 6+c) _ d;have b:(⟨g,0,none⟩:Addr).add (j * 6+c)=⟨g,j * 6+c,none⟩:=by unfold Addr.add;split <;> simp_all
   rw [b] at a;simpa using a
theorem aX:(Tryz.prog.info? 120).map (fun i=>(i.zero,i.size,i.bytes))=some (some (.agg #[.string ⟨#[]⟩,.int .u8 0,.int .i64 0,.string ⟨#[]⟩,.slice none 0 0,.slice none 0 0]),6,96):=by kernel_rfl
theorem TabAt.snoc {w wr wo w4:World} {v:Value} {l:List Key2} {k g cap lo hi:Nat} {zs:List (Mem × Key2)} (x:Mem) (h:TabAt w wr v l k zs) (hk:k<l.length) (hbo:Below wr.heap.size wr wo)
 (hn:x.name=id2 l[k]) (hok:ok2 l[k]=true) (hnew:ju (ids (l.take k)) (id2 l[k])=false)
 (hlo:wr.heap.size<=lo) (hhi:hi<=wo.heap.size) (hr:Rep wo lo hi (obj2 l[k]) x.val)
 (hg:wo.grownBy w4 v.ownBlock) (hat:v.ownBlock=some g\/wo.heap.size<=g)
 (ho:w4.ownsRow (w.heap.size+1) 120 6 (.slice (some ⟨g,0,none⟩) (k+1) cap) (k+1) ((zs.map (·.1)).flatMap qG ++ qG x)) :
 TabAt w w4 (.slice (some ⟨g,0,none⟩) (k+1) cap) l (k+1) (zs ++ [(x,l[k])]):=by
 have d:=h.res.lt;have a:∀b,v.ownBlock=some b->w.heap.size+1<=b/\b<wr.heap.size:=fun b hb=>h.own.lt b hb;have i:=hbo.size;have j:=hg.size;have f:∀b,b<wr.heap.size->v.ownBlock≠some b->w4.heap[b]?=wr.heap[b]?:=fun b hb hne=>by rw [hg.block b (by omega) (fun e=>hne e.symm)];exact hbo.block b hb
 have c:∀b,(Value.slice (some ⟨g,0,none⟩) (k+1) cap).ownBlock=some b->b=g:=fun b hb=>by simp [Value.ownBlock] at hb;exact hb.symm
 refine ⟨⟨?_,?_,?_,by have:=h.below.size;omega,fun b hb=>?_⟩,h.res.of_block (f _ d (fun e=>by have:=(a _ e).1;omega)),?_,?_,?_,?_⟩
 . rw [hg.os,hbo.os,h.below.os]
 . rw [hg.tape,hbo.tape,h.below.tape]
 . rw [hg.output,hbo.output,h.below.output]
 . rw [f b (by omega) (fun e=>by have:=(a _ e).1;omega)];exact h.below.block b hb
 . simpa [List.flatMap_append] using ho
 . refine xU.snoc (h.row.carry (by omega) (fun b hb hne _=>f b hb hne) fun b hx=>?_) x l[k] lo hi hn (by omega) (by omega) (fun b hx hb=>?_) (Rep.carry lz lz (fun b h1 h2=>hg.block b (by omega) (fun e=>by have:=(a b e.symm).2;omega)) _ _ hr)
   . rw [c b hx];rcases hat with ha|ha
     . exact .inl ha
     . exact .inr (.inl (by omega))
   . rw [c b hx] at hb;rcases hat with ha|ha
     . have:=(a g ha).2;omega
     . omega
 . rw [N6,h.keys,Z6 hk];rfl
 . rw [h.err,bU l k hk,J1 hok,Z5 (by rw [hnew];simp)]
theorem TabAt.sliced {w wr:World} {v:Value} {l:List Key2} {k:Nat} {zs:List (Mem × Key2)} (h:TabAt w wr v l k zs) (hk:k<=l.length):∃av cap,v=.slice av k cap/\((k=0/\av=none/\cap=0)\/∃g,av=some ⟨g,0,none⟩/\w.heap.size<g/\g<wr.heap.size /\
 ∀j c (hj:j<zs.length),c<6->wr.cell? ⟨g,j * 6+c,none⟩=some ((qG zs[j].1)[c]!)):=by
 rcases h.slice hk with ⟨rfl,rfl⟩|⟨g,cap,rfl,h1,h2,_,h4⟩
 . exact ⟨none,0,rfl,.inl ⟨rfl,rfl,rfl⟩⟩
 . exact ⟨_,cap,rfl,.inr ⟨g,rfl,h1,h2,h4⟩⟩
theorem TabAt.names {w wr:World} {v:Value} {l:List Key2} {k:Nat} {zs:List (Mem × Key2)} (h:TabAt w wr v l k zs):ids (l.take k)=zs.map (fun z=>z.1.name):=by rw [<- h.keys];unfold ids;rw [List.map_map];exact List.map_congr_left fun z hz=>(h.row z hz).1.symm
theorem TabAt.hit {w wr:World} {v:Value} {l:List Key2} {k:Nat} {zs:List (Mem × Key2)} (h:TabAt w wr v l k zs) (x:ByteArray) (j:Nat) (hj:j<zs.length) (he:(zs[j].1.name.toList == x.toList)=true):ju (ids (l.take k)) x=true:=by rw [h.names];unfold ju;rw [List.any_map,za6];exact ⟨zs[j],J7 hj,he⟩
theorem TabAt.fresh {w wr:World} {v:Value} {l:List Key2} {k:Nat} {zs:List (Mem × Key2)} (h:TabAt w wr v l k zs) (x:ByteArray) (hn:∀j (hj:j<zs.length),(zs[j].1.name.toList == x.toList)=false):ju (ids (l.take k)) x=false:=by rw [h.names];unfold ju;rw [List.any_map,List.any_eq_false];intro z hz;obtain ⟨j,hj,rfl⟩:=Y3 hz;show ¬(zs[j].1.name.toList == x.toList)=true;rw [hn j hj];simp
structure SortedAt (w w':World) (av:Option Addr) (l m:List Key2) (zs:List (Mem × Key2)):Prop where
 perm:m.Perm l
 keys:zs.map (·.2)=m
 rise:qe (ids m)=true
 below:Below w.heap.size w w'
 res:w'.rowIs w.heap.size 25 5 (qZ (.int .u8 0) (.int .i64 0) (.string ⟨#[]⟩) (.slice none 0 0) (.slice none 0 0))
 row:xU w' (w.heap.size+1) (fun _=>False) zs
 cells:l.length=0\/∃g,av=some ⟨g,0,none⟩/\g<w'.heap.size/\∀j c (hj:j<zs.length),c<6->w'.cell? ⟨g,j * 6+c,none⟩=some ((qG zs[j].1)[c]!)
theorem TabAt.sorted {w wr:World} {av:Option Addr} {cap:Nat} {l:List Key2} {zs:List (Mem × Key2)} (h:TabAt w wr (.slice av l.length cap) l l.length zs) (hl:l.length<=4294967)
 (hc:(l.length=0/\av=none/\cap=0)\/∃g,av=some ⟨g,0,none⟩/\w.heap.size<g/\g<wr.heap.size) :
 Calls Tryz.prog 88 #[.slice av l.length cap,.func (.func 89) #[] #[]] wr fun e w'=>e=.returned (.tuple #[])/\∃m zs',SortedAt w w' av l m zs':=by
 have f:=h.len lz;have I:=h.err;rw [M5,List.drop_length] at I;obtain ⟨N,_,D⟩:=(wV l []).1 I;have d:=h.keys;rw [M5] at d;rcases hc with ⟨h0,rfl,rfl⟩|⟨g,rfl,hg1,hg2⟩
 . rw [h0];have Q:l=[]:=X3 h0;subst Q;refine (ex wr).mono ?_;rintro e w' ⟨rfl,rfl⟩;have F:zs=[]:=X3 f;subst F;exact ⟨rfl,[],[],List.Perm.refl _,rfl,rfl,h.below,h.res,xU.nil _ _ _,.inl rfl⟩
 . have L:=rB h.own;have r:(zs.map (·.1)).toArray.size=l.length:=by simp [f]
   have H:=ez g 0 cap (zs.map (·.1)).toArray wr L hg2 (by omega);rw [r] at H;refine H.mono ?_;rintro e w' ⟨rfl,A,⟨E,P,y⟩,B,z⟩;refine ⟨rfl,?_⟩;rw [r] at E y;obtain ⟨zs',q,C⟩:=dF (·.1) (by simpa using P) zs rfl;have M:zs'.length=l.length:=by rw [q.length_eq];exact f
   have p:∀i (hi:i<zs'.length),A[i]! = zs'[i].1:=fun i hi=>by
    have e:A.toList[i]?=(zs'.map (·.1))[i]?:=by rw [C]
    rw [List.getElem?_map,Y5 hi] at e;have a:i<A.size:=by omega
    rw [getElem!_pos A i a];rw [Array.getElem?_toList,V3 a] at e;exact X7 e
   have o:xU w' (w.heap.size+1) (fun _=>False) zs':=(h.row.carry z.size (fun b hb k _=>z.block b hb (fun e=>k (by rw [e];rfl))) (fun b hx=>hx.elim)).perm q;have x:(zs'.map (·.2)).Perm l:=by rw [<- d];exact q.map _
   have v:∀i (hi:i<zs'.length),zs'[i].1.name=id2 zs'[i].2:=fun i hi=>(o _ (J7 hi)).1;refine ⟨zs'.map (·.2),zs',x,rfl,?_,h.below.trans (z.below h.below.size fun b hb e=>by omega),z.row h.res (by omega),o,.inr ⟨g,rfl,by have:=z.size;omega,fun j c hj hc=>?_⟩⟩
   . have u:(ids (zs'.map (·.2))).Nodup:=((x.map id2).nodup_iff).2 D;refine uO fun i j hi hj hij=>?_;have a:i<zs'.length:=by simpa [ids] using hi
     have s:j<zs'.length:=by simpa [ids] using hj
     have J:(ids (zs'.map (·.2)))[i]=zs'[i].1.name:=by rw [v i a];simp [ids]
     have K:(ids (zs'.map (·.2)))[j]=zs'[j].1.name:=by rw [v j s];simp [ids]
     have k:(ids (zs'.map (·.2)))[i]≠(ids (zs'.map (·.2)))[j]:=fun e=>by exact (N8.1 u) i j hi hj hij e
     rw [J,K] at k ⊢;have G:=y i j hij (by omega);rw [p i a,p j s] at G;cases hb:bl zs'[i].1.name zs'[j].1.name
     . exact absurd (mV hb G) k
     . rfl
   . have:=(HoldsK.cell B (i:=j) (c:=c) (by omega) hc).1;rw [p j hj] at this;simpa using this
theorem iA (l:List Key2) (a:Option Addr) (c:Nat) (w:World) (hK:zA w 0 w.heap.size a l) (hl:l.length<=4294967) (hs:∀k ∈ l,k.1.size<=300/\k.2.size<=300) (hT:Tabs w) :
 Calls Tryz.prog 37 #[.slice a l.length c] w (eh l w):=by
 have HK:=U hK;have HS:=U hs;have HT:=U hT;clear hK hs hT;have l5:=U (qh w (.int .u8 0) (.int .i64 0) (.string ⟨#[]⟩) (.slice none 0 0) (.slice none 0 0) 25);have f5:=O0 (Below w.heap.size w (w.alloc (.cells #[.int .u8 0,.int .i64 0,.string ⟨#[]⟩,.slice none 0 0,.slice none 0 0] 25))) ((Z0 _ _).alloc lz _);by_cases h32:l.length<=32
 case neg =>
  have c7:decide (32<l.length)=true:=by simp;omega
  have c9:decide (32<(l.length:Int))=true:=by simp;omega
  have HE:=U (show wI l=5 by unfold wI;rw [J1 (by omega)]);go_enter Tryz.func37,Tryz.ntmps37;go_wp2;refine J3 (qk Tryz.results37 _ _ w.heap.size 25 _ (0,0) _ rfl (Z4 w _) J5 rfl (by kernel_rfl) _ rfl) rfl (.inl ⟨by rw [HE.o];decide,by rw [HE.o];rfl,f5.o⟩)
 have c7:decide (32<l.length)=false:=by simp;omega
 have c9:decide (32<(l.length:Int))=false:=by simp;omega
 have HE:=U (show wI l=jL [] l by unfold wI;rw [Z5 (by omega)]);obtain ⟨i3,n2,o9,p0,p1⟩:=V9 aX;go_enter Tryz.func37,Tryz.ntmps37;go_wp2;go_loopw [4,6,7,8,10,20] (fun v _ _ _ _ i wr=>∃(k:Nat) (P:List (Mem × Key2)),k<=l.length/\i=.int .i64 k/\TabAt w wr v l k P) (fun _ _ _ _ _ i _=>l.length - (intOf i).toNat)
 case atStart=>exact ⟨0,[],by omega,rfl,f5.o,l5.o,Y7 _ _ _ _,xU.nil _ _ _,by simp,by simp [ids]⟩
 case round =>
  obtain ⟨k,P,hk,rfl,hA⟩:=hrel;have HA:=U hA;have t8:w.heap.size<wr.heap.size:=hA.res.lt;by_cases hlt:k<l.length
  . obtain ⟨b,k2,ha,_,hb,e0,e1⟩:=(HK.o.below hA.below lz lz hA.below.size).at k hlt;subst ha;obtain ⟨c2,c5⟩:=HS.o l[k] (J7 hlt);have b7:=U (bU l k hlt);have l1:=U hlt;obtain ⟨x,hx⟩:=O1 (l[k]);have HX:=U hx;replace e0:=e0.trans (X1 (fun z:Key2=>some (Value.string z.1)) hx.symm);replace e1:=e1.trans (X1 (fun z:Key2=>some (Value.string z.2)) hx.symm);replace c2:x.1.size<=300:=hx ▸ c2;replace c5:x.2.size<=300:=hx ▸ c5;replace b7:=O0 (jL (ids (l.take k)) (l.drop k)=if ok2 x then (if ju (ids (l.take k)) (id2 x) then 7 else jL (ids (l.take (k+1))) (l.drop (k+1))) else 3) (hx ▸ b7.o);clear hx hA;obtain ⟨xs,xp⟩:=x;replace c2:xs.size<=300:=c2;replace c5:xp.size<=300:=c5;replace e0:wr.cell? ⟨b,k2+k * 2,none⟩=some (.string xs):=e0;replace e1:wr.cell? ⟨b,k2+k * 2+1,none⟩=some (.string xp):=e1;have e2:=O0 (Below wr.heap.size wr (wr.alloc (.cells #[.string xs,.string xp] 43))) ((Z0 _ _).alloc lz _);have h4:=U ((HT.o.below HA.o.below).below e2.o);cases hok:zh xs.data.toList xp.data.toList
    . have B:=U (rG xs xp (wr.alloc (.cells #[.string xs,.string xp] 43)) (by omega) (by omega) h4.o hok);have I:=U (show wI l=3 by rw [HE.o,HA.o.err,b7.o];unfold ok2;rw [Z5 (by simp [hok])]);clear hok;unfold eH at B;go_wp2_with fail;refine B.o.mono ?_;clear B;rintro e A ⟨rfl,X⟩;have J:=e2.o.trans (X.mono (by simp));have u:=J.alloc J.size (.cells #[.string ⟨#[]⟩,.int .u8 0,.int .i64 0,.string ⟨#[]⟩,.slice none 0 0,.slice none 0 0] 120);have Q:=U (HA.o.later u);have f:=Q.o.res;obtain ⟨t0,t1,t2,t3,t4⟩:=rc5 f;obtain ⟨s0,s1,s2,s3,s4⟩:=rf5 f;simp only [qZ] at t0 t1 t2 t3 t4;clear f X J u;go_wp2;refine J3 (qk Tryz.results37 _ _ w.heap.size 25 _ (0,0) _ rfl (qm (set5 _ _ _ _ _ Q.o.res)) J5 rfl (by kernel_rfl) _ rfl) rfl (.inl ⟨by rw [I.o];decide,by rw [I.o];rfl,zx _ _ _ _ _ Q.o.below lz⟩)
    . have B:=U (dB xs xp (wr.alloc (.cells #[.string xs,.string xp] 43)) (by omega) (by omega) h4.o hok);have g6:=U hok;clear hok;unfold rY at B;obtain ⟨p,e6⟩:=O1 (sr xs xp);rw [<- e6] at B;have e4:=U e6;clear e6;go_wp2_with fail;refine B.o.mono ?_;clear B;rintro e A ⟨E,G,D,F,rfl,k0,X⟩;have J:=e2.o.trans (X.mono (by simp));have t9:wr.heap.size+1<=A.heap.size:=by have:=X.size;simpa using this
      obtain ⟨W1,V⟩:=O1 (A.alloc (.cells #[.string p,.int .u8 5,.int .i64 0,.string ⟨#[]⟩,.slice E 2 G,.slice D 2 F] 120));have u:Below wr.heap.size wr W1:=by rw [V];exact J.alloc J.size _
      have d7:=U u;have Q:=U (HA.o.later u);have m1:=U (show W1.heap[A.heap.size]?=some (.cells #[.string p,.int .u8 5,.int .i64 0,.string ⟨#[]⟩,.slice E 2 G,.slice D 2 F] 120 (0,0)) by rw [V];exact Z4 A _);have l6:=U (show Rep W1 (wr.heap.size+1) A.heap.size (jr xs xp) (.agg #[.int .u8 5,.int .i64 0,.string ⟨#[]⟩,.slice E 2 G,.slice D 2 F]) by
       rw [V];exact Rep.carry (by simp) lz (fun b _ h=>X5 _ _ _ h) _ _ k0)
      have h9:W1.heap.size=A.heap.size+1:=by rw [V];simp
      have h8:=U h9;obtain ⟨av,cap,rfl,c6⟩:=HA.o.sliced hk;have i9:P.length=k:=HA.o.len hk;have h7:=U V;clear V u J k0 X e0 e1 c6 h9;obtain ⟨wo,rfl⟩:∃wo:World,wo=wr:=⟨_,rfl⟩;go_wp2_with fail;rw [<- h7.o];clear h7;go_loopw [10,35] (fun _ i wr=>∃j:Nat,j<=k/\i=.int .i64 j/\(∀q (hq:q<P.length),q<j->(P[q].1.name.toList == p.toList)=false)/\Below W1.heap.size W1 wr) (fun _ i _=>k - (intOf i).toNat)
      case atStart=>exact ⟨0,by omega,rfl,fun q _ h=>by omega,Z0 _ _⟩
      case round =>
       obtain ⟨j,hj,rfl,j2,b9⟩:=hrel;have g5:=U j2;have a2:=U b9;have a0:=U (Q.o.later b9);have s:wr.heap[A.heap.size]?=some (.cells #[.string p,.int .u8 5,.int .i64 0,.string ⟨#[]⟩,.slice E 2 G,.slice D 2 F] 120 (0,0)):=by rw [b9.block _ (by rw [h8.o];omega)];exact m1.o
       have p6:=U s;have o6:A.heap.size<wr.heap.size:=qx s;have x0:wr.cell? ⟨A.heap.size,0,none⟩=some (.string p):=qq s rfl;clear j2 b9;by_cases hjk:j<k
       . have K:j<P.length:=by omega
         obtain ⟨g,ha,t5,i4,d⟩:∃g,av=some ⟨g,0,none⟩/\w.heap.size<g/\g<wr.heap.size/\∀j c (hj:j<P.length),c<6->wr.cell? ⟨g,j * 6+c,none⟩=some ((qG P[j].1)[c]!):=by
          obtain ⟨q5,p2,hv,hc⟩:=a0.o.sliced hk;simp only [V2,zc0] at hv;obtain ⟨rfl,rfl⟩:=hv;rcases hc with ⟨h0,_⟩|hc
          . omega
          . exact hc
         subst ha;have y0:=d j 0 K (by decide);have y1:=d j 1 K (by decide);have y2:=d j 2 K (by decide);have y3:=d j 3 K (by decide);have y4:=d j 4 K (by decide);have y5:=d j 5 K (by decide);have a9:=U (a0.o.hit p j K);have b0:=U (show (P[j].1.name.toList == p.toList)=false->∀q (hq:q<P.length),q<j+1->(P[q].1.name.toList == p.toList)=false from fun h q hq hqj=>by
          by_cases e:q=j
          . subst e;exact h
          . exact g5.o q hq (by omega))
         clear d s;generalize P[j].1=mj at y0 y1 y2 y3 y4 y5 a9 b0;simp only [qG,M6,List.getElem!_cons_zero,List.getElem!_cons_succ] at y0 y1 y2 y3 y4 y5;have v0:(wr.alloc (.cells #[.string mj.name,.int .u8 mj.k,.int .i64 mj.n,.string mj.t,.slice mj.an mj.nn mj.cn,.slice mj.ai mj.ni mj.ci] 120)).cell? ⟨A.heap.size,0,none⟩=some (.string p):=(qi _ o6).trans x0;have f6:=O0 (Below W1.heap.size W1 (wr.alloc (.cells #[.string mj.name,.int .u8 mj.k,.int .i64 mj.n,.string mj.t,.slice mj.an mj.nn mj.cn,.slice mj.ai mj.ni mj.ci] 120))) (a2.o.alloc a2.o.size _);have d6:=U (Q.o.later f6.o);have m3:(0:Int)<=(j:Int):=by omega
         have m4:(j:Int)<(k:Int):=by omega
         cases hq:(mj.name.toList == p.toList)
         . have e5:=U (b0.o hq);clear a9 b0;go_wp2;go_roundw
           case rel=>exact ⟨j+1,by omega,by go_num,e5.o,f6.o⟩
           case measure=>simp [intOf];omega
         . have I:=U (show wI l=7 by
            rw [HE.o,HA.o.err,b7.o];unfold ok2 id2;rw [J1 g6.o,J1 (by have:=a9.o hq;rw [e4.o] at this;exact this)])
           have f:=d6.o.res;obtain ⟨t0,t1,t2,t3,t4⟩:=rc5 f;obtain ⟨s0,s1,s2,s3,s4⟩:=rf5 f;simp only [qZ] at t0 t1 t2 t3 t4;clear f a9 b0;go_wp2;refine J3 (qk Tryz.results37 _ _ w.heap.size 25 _ (0,0) _ rfl (qm (set5 _ _ _ _ _ d6.o.res)) J5 rfl (by kernel_rfl) _ rfl) rfl (.inl ⟨by rw [I.o];decide,by rw [I.o];rfl,zx _ _ _ _ _ d6.o.below lz⟩)
       . have k6:=U (a0.o.fresh p (fun q hq=>g5.o q hq (by omega)));have x1:wr.cell? ⟨A.heap.size,1,none⟩=some (.int .u8 5):=qq s rfl;have x2:wr.cell? ⟨A.heap.size,2,none⟩=some (.int .i64 0):=qq s rfl;have x3:wr.cell? ⟨A.heap.size,3,none⟩=some (.string ⟨#[]⟩):=qq s rfl;have x4:wr.cell? ⟨A.heap.size,4,none⟩=some (.slice E 2 G):=qq s rfl;have x5:wr.cell? ⟨A.heap.size,5,none⟩=some (.slice D 2 F):=qq s rfl;have HN:=U a0.o.own;have t7:w.heap.size+1<=wr.heap.size:=by have:=a0.o.res.lt;omega
         clear s;go_wp2_with (at_builtin;refine Y9 _ rfl (.tmp 46) (.tmp 48) 118 rfl (w.heap.size+1) 120 i3 _ 6 96 Tryz.underlying118 n2 o9 p0 p1 rfl (by decide) (.slice av k cap) k ((P.map (·.1)).flatMap qG) rfl (HN.o.alloc _) ⟨wr.heap.size,0,none⟩ 1 1 (qG ⟨p,5,0,⟨#[]⟩,E,2,G,D,2,F⟩) rfl rfl (X0 (cs:=#[.string p,.int .u8 5,.int .i64 0,.string ⟨#[]⟩,.slice E 2 G,.slice D 2 F]) (t:=120) (fr:=(0,0)) (Z4 wr _)) (by simp [qG,Value.oneCell']) (by omega) (by unfold maxLen;omega) (by omega) (by simp;omega) (wr.heap.size+1) (by simp) ?_;intro g1 cap2 w6 hown6 hgrow6 hat6 hlt6;have l2:=U hown6;have e3:=U hgrow6;have k3:=U hat6;clear hown6 hgrow6 hat6);go_roundw
         case rel =>
          refine ⟨k+1,P ++ [(⟨p,5,0,⟨#[]⟩,E,2,G,D,2,F⟩,l[k])],by omega,by go_num,?_⟩;have m2:Below wo.heap.size wo (wr.alloc (.cells #[.string p,.int .u8 5,.int .i64 0,.string ⟨#[]⟩,.slice E 2 G,.slice D 2 F] 120)):=(d7.o.trans (a2.o.mono d7.o.size)).alloc (by have:=d7.o.size;have:=a2.o.size;omega) _;refine TabAt.snoc (lo:=wo.heap.size+1) (hi:=A.heap.size) ⟨p,5,0,⟨#[]⟩,E,2,G,D,2,F⟩ HA.o l1.o m2 ?_ ?_ ?_ (by omega) (by simp;omega) ?_ e3.o (by rcases k3.o with h|h;exact .inl h;exact .inr (by simp;omega)) l2.o
          . exact e4.o.trans (X1 id2 HX.o)
          . exact (X1 ok2 HX.o).symm.trans g6.o
          . exact (X1 (fun z=>ju (ids (l.take k)) (id2 z)) HX.o).symm.trans (by have:=k6.o;rw [e4.o] at this;exact this)
          . have n7:Rep (wr.alloc (.cells #[.string p,.int .u8 5,.int .i64 0,.string ⟨#[]⟩,.slice E 2 G,.slice D 2 F] 120)) (wo.heap.size+1) A.heap.size (obj2 (xs,xp)) (Mem.val ⟨p,5,0,⟨#[]⟩,E,2,G,D,2,F⟩):=Rep.carry lz lz (fun b _ h=>by rw [X5 _ _ _ (by omega),a2.o.block b (by rw [h8.o];omega)]) _ _ l6.o;exact Eq.mp (X1 (fun z=>Rep (wr.alloc (.cells #[.string p,.int .u8 5,.int .i64 0,.string ⟨#[]⟩,.slice E 2 G,.slice D 2 F] 120)) (wo.heap.size+1) A.heap.size (obj2 z) (Mem.val ⟨p,5,0,⟨#[]⟩,E,2,G,D,2,F⟩)) HX.o) n7
         case measure=>simp [intOf];omega
  . obtain rfl:k=l.length:=by omega
    have I:=U (show wI l=0 by
     rw [HE.o,HA.o.err,List.drop_length];rfl)
    obtain ⟨av,cap,rfl,c6⟩:=HA.o.sliced lz;have g9:=U (HA.o.sorted hl (by rcases c6 with h|⟨g,h1,h2,h3,_⟩;exact .inl h;exact .inr ⟨g,h1,h2,h3⟩));clear c6 hA hlt hk;obtain ⟨wo,rfl⟩:∃wo:World,wo=wr:=⟨_,rfl⟩;go_wp2_with fail;refine g9.o.mono ?_;clear g9;rintro e w2 ⟨rfl,m,Z,L⟩;have T:=U L;have a1:=O0 (Below w2.heap.size w2 (w2.alloc (.cells #[.int .u8 5,.int .i64 0,.string ⟨#[]⟩,.slice none 0 0,.slice none 0 0] 25))) ((Z0 _ _).alloc lz _);have HO:=U (show ObjAt2 (w2.alloc (.cells #[.int .u8 5,.int .i64 0,.string ⟨#[]⟩,.slice none 0 0,.slice none 0 0] 25)) (w2.alloc (.cells #[.int .u8 5,.int .i64 0,.string ⟨#[]⟩,.slice none 0 0,.slice none 0 0] 25)) (w.heap.size+1) w2.heap.size 25 9 25 (.slice none 0 0) (.slice none 0 0) [] [] [] from
     ⟨by simp,by have:=L.res.lt;simp;omega,Touch.refl _ _,qh _ _ _ _ _ _ _,Y7 _ _ _ _,Y7 _ _ _ _,qF.nil _ _ _,fun b hb=>by simp [Value.ownBlock] at hb⟩)
    have n3:m.length=l.length:=L.perm.length_eq;have i9:Z.length=l.length:=by have:=X1 List.length L.keys;simp at this;omega
    have k1:w.heap.size<w2.heap.size:=L.res.lt;have f9:=U L.cells;clear L;obtain ⟨nd,c1⟩:=O1 l.length;rw [<- c1] at n3 i9 h32 hl f9;have p5:=U c1;obtain ⟨i1,n0,o1,o2,o3⟩:=V9 z7;obtain ⟨i2,n1,n8,n9,o0⟩:=V9 yA;rw [<- c1];clear c1 c7 c9;go_wp2_with fail;obtain ⟨r,a6⟩:=O1 w2.heap.size;obtain ⟨W,hW⟩:=O1 (w2.alloc (.cells #[.int .u8 5,.int .i64 0,.string ⟨#[]⟩,.slice none 0 0,.slice none 0 0] 25));rw [<- hW] at HO a1;rw [<- a6] at HO;rw [<- hW,<- a6];have H:=U a6;have C:=U (show W.heap.size=r+1 by rw [hW,a6];simp);clear hW a6;go_loopw [13,56] (fun _ i wr=>∃(k:Nat) (cs:List Value) (vn vi:Value),k<=nd/\i=.int .i64 k/\ObjAt2 W wr (w.heap.size+1) r 25 9 25 vn vi ((ids m).take k) ((m.map obj2).take k) cs) (fun _ i _=>nd - (intOf i).toNat)
    case atStart=>exact ⟨0,[],.slice none 0 0,.slice none 0 0,by omega,rfl,by simpa using HO.o⟩
    case round =>
     clear HO;obtain ⟨k,cs,vn,vi,hk,rfl,M⟩:=hrel;have o:=U M;have s9:W.heap.size<=wr.heap.size:=M.touch.size;have s8:r<wr.heap.size:=M.row.lt;clear M;by_cases hlt:k<nd
     . have e7:k<Z.length:=by omega
       have i7:k<m.length:=by omega
       obtain ⟨g,ha,i4,d⟩:∃g,av=some ⟨g,0,none⟩/\g<w2.heap.size/\∀j c (hj:j<Z.length),c<6->w2.cell? ⟨g,j * 6+c,none⟩=some ((qG Z[j].1)[c]!):=by
        rcases f9.o with h|h
        . omega
        . exact h
       subst ha;replace d:∀c,c<6->wr.cell? ⟨g,k * 6+c,none⟩=some ((qG Z[k].1)[c]!):=fun c hc=>by rw [o.o.touch.cell (show g<W.heap.size by rw [C.o,H.o];omega) (show ¬g=r by rw [H.o];omega),a1.o.cell (by exact i4)];exact d k c e7 hc
       have y0:=d 0 (by decide);have y1:=d 1 (by decide);have y2:=d 2 (by decide);have y3:=d 3 (by decide);have y4:=d 4 (by decide);have y5:=d 5 (by decide);clear d;obtain ⟨j3,lo,hi,n4,i6,_,y⟩:=T.o.row _ (J7 e7);have e8:m[k]=Z[k].2:=by
        have:(Z.map (·.2))[k]'(by simpa using e7)=m[k]:=by simp only [T.o.keys]
        rw [<- this];simp
       have h6:=U (show (ids m).take (k+1)=(ids m).take k ++ [Z[k].1.name] by
        rw [Z6 (by simpa [ids] using i7),j3];simp [ids,e8])
       have h5:=U (show (m.map obj2).take (k+1)=(m.map obj2).take k ++ [obj2 Z[k].2] by
        rw [Z6 (by simpa using i7)];simp [e8])
       have a4:=O0 (Rep wr lo hi (obj2 Z[k].2) Z[k].1.val) (Rep.carry lz lz (fun b h1 h2=>by rw [o.o.touch.block b (by rw [C.o,H.o];omega) (by rw [H.o];omega),a1.o.block b (by omega)]) _ _ y);have g0:=U (show hi<=r by rw [H.o];exact i6);obtain ⟨f0,f2,e9,f1,d0,_⟩:=y.parts;have a5:=U d0;clear j3 y i6 e8 d0;generalize Z[k].2=kk at h5 a4 a5;generalize Z[k].1=mk at y0 y1 y2 y3 y4 y5 h6 a4 a5;simp only [qG,M6,List.getElem!_cons_zero,List.getElem!_cons_succ] at y0 y1 y2 y3 y4 y5;have S:=U (show ((ids m).take k).length=k by simp [ids];omega);have R:=U (show ((m.map obj2).take k).length=k by simp;omega);have HN:=U (show wr.ownsRow W.heap.size 9 1 vn k (((ids m).take k).map .string) by have:=o.o.names;rwa [S.o] at this);have f7:=O0 (Below wr.heap.size wr (wr.alloc (.cells #[.string mk.name,.int .u8 mk.k,.int .i64 mk.n,.string mk.t,.slice mk.an mk.nn mk.cn,.slice mk.ai mk.ni mk.ci] 120))) ((Z0 _ _).alloc lz _);have a3:=U (o.o.below f7.o);have c3:(wr.alloc (.cells #[.string mk.name,.int .u8 mk.k,.int .i64 mk.n,.string mk.t,.slice mk.an mk.nn mk.cn,.slice mk.ai mk.ni mk.ci] 120)).cell? ⟨r,3,none⟩=some vn:=a3.o.row.cell (by decide);have f3:(wr.alloc (.cells #[.string mk.name,.int .u8 mk.k,.int .i64 mk.n,.string mk.t,.slice mk.an mk.nn mk.cn,.slice mk.ai mk.ni mk.ci] 120)).frozen? ⟨r,3,none⟩=false:=a3.o.row.frozen 3;have c4:(wr.alloc (.cells #[.string mk.name,.int .u8 mk.k,.int .i64 mk.n,.string mk.t,.slice mk.an mk.nn mk.cn,.slice mk.ai mk.ni mk.ci] 120)).cell? ⟨r,4,none⟩=some vi:=a3.o.row.cell (by decide);have f4:(wr.alloc (.cells #[.string mk.name,.int .u8 mk.k,.int .i64 mk.n,.string mk.t,.slice mk.an mk.nn mk.cn,.slice mk.ai mk.ni mk.ci] 120)).frozen? ⟨r,4,none⟩=false:=a3.o.row.frozen 4;have Y:=Z4 wr (.cells #[.string mk.name,.int .u8 mk.k,.int .i64 mk.n,.string mk.t,.slice mk.an mk.nn mk.cn,.slice mk.ai mk.ni mk.ci] 120);have b1:(wr.alloc (.cells #[.string mk.name,.int .u8 mk.k,.int .i64 mk.n,.string mk.t,.slice mk.an mk.nn mk.cn,.slice mk.ai mk.ni mk.ci] 120)).cell? ⟨wr.heap.size,1,none⟩=some (.int .u8 mk.k):=qq Y rfl;have b2:(wr.alloc (.cells #[.string mk.name,.int .u8 mk.k,.int .i64 mk.n,.string mk.t,.slice mk.an mk.nn mk.cn,.slice mk.ai mk.ni mk.ci] 120)).cell? ⟨wr.heap.size,2,none⟩=some (.int .i64 mk.n):=qq Y rfl;have b3:(wr.alloc (.cells #[.string mk.name,.int .u8 mk.k,.int .i64 mk.n,.string mk.t,.slice mk.an mk.nn mk.cn,.slice mk.ai mk.ni mk.ci] 120)).cell? ⟨wr.heap.size,3,none⟩=some (.string mk.t):=qq Y rfl;have b4:(wr.alloc (.cells #[.string mk.name,.int .u8 mk.k,.int .i64 mk.n,.string mk.t,.slice mk.an mk.nn mk.cn,.slice mk.ai mk.ni mk.ci] 120)).cell? ⟨wr.heap.size,4,none⟩=some (.slice mk.an mk.nn mk.cn):=qq Y rfl;have b5:(wr.alloc (.cells #[.string mk.name,.int .u8 mk.k,.int .i64 mk.n,.string mk.t,.slice mk.an mk.nn mk.cn,.slice mk.ai mk.ni mk.ci] 120)).cell? ⟨wr.heap.size,5,none⟩=some (.slice mk.ai mk.ni mk.ci):=qq Y rfl;have e5:=U (HN.o.alloc (.cells #[.string mk.name,.int .u8 mk.k,.int .i64 mk.n,.string mk.t,.slice mk.an mk.nn mk.cn,.slice mk.ai mk.ni mk.ci] 120));have o4:(wr.alloc (.cells #[.string mk.name,.int .u8 mk.k,.int .i64 mk.n,.string mk.t,.slice mk.an mk.nn mk.cn,.slice mk.ai mk.ni mk.ci] 120)).heap.size=wr.heap.size+1:=by simp
       have g3:=U (show ((wr.alloc (.cells #[.string mk.name,.int .u8 mk.k,.int .i64 mk.n,.string mk.t,.slice mk.an mk.nn mk.cn,.slice mk.ai mk.ni mk.ci] 120)).alloc (.cells #[.string mk.name] 9)).heap[wr.heap.size+1]?=some (.cells #[.string mk.name] 9 (0,0)) by have:=Z4 (wr.alloc (.cells #[.string mk.name,.int .u8 mk.k,.int .i64 mk.n,.string mk.t,.slice mk.an mk.nn mk.cn,.slice mk.ai mk.ni mk.ci] 120)) (.cells #[.string mk.name] 9);rwa [o4] at this);have c0:some r≠vn.ownBlock:=fun e=>by have:=(o.o.names.lt _ e.symm).1;have:=C.o;omega
       have a7:some wr.heap.size≠vn.ownBlock:=fun e=>by have:=(o.o.names.lt _ e.symm).2;omega
       have i0:some r≠vi.ownBlock:=fun e=>by have:=(o.o.items.lt _ e.symm).1;have:=C.o;omega
       have t6:W.heap.size<=(wr.alloc (.cells #[.string mk.name,.int .u8 mk.k,.int .i64 mk.n,.string mk.t,.slice mk.an mk.nn mk.cn,.slice mk.ai mk.ni mk.ci] 120)).heap.size:=by simp;omega
       clear Y;have m3:(0:Int)<=(k:Int):=by omega
       have m4:(k:Int)<(nd:Int):=by omega
       have p3:¬r=wr.heap.size:=by omega
       go_wp2_with (at_builtin;first
        | (
         refine Y9 _ rfl (.tmp 61) (.tmp 64) 22 rfl W.heap.size 9 i2 _ 1 16 M2 n1 n8 n9 o0 rfl (by decide) vn k (((ids m).take k).map .string) rfl (e5.o.alloc _) ⟨wr.heap.size+1,0,none⟩ 1 1 [.string mk.name] rfl rfl (X0 (cs:=#[.string mk.name]) (t:=9) (fr:=(0,0)) g3.o) (by simp [Value.oneCell']) (by omega) (by unfold maxLen;omega) (by omega) (by simp;omega) (wr.heap.size+2) (by simp) ?_;intro g1 cap2 w6 hown6 hgrow6 hat6 hlt6;have r5:=zu hgrow6 (by simp;omega) c0 c3;have s5:=za hgrow6 (by simp;omega) c0 f3;have r6:=zu hgrow6 (by simp;omega) c0 c4;have s6:=za hgrow6 (by simp;omega) c0 f4;have d1:=zu hgrow6 (by simp) a7 b1;have d2:=zu hgrow6 (by simp) a7 b2;have d3:=zu hgrow6 (by simp) a7 b3;have d4:=zu hgrow6 (by simp) a7 b4;have d5:=zu hgrow6 (by simp) a7 b5;have o5:=hgrow6.size;rw [show ((wr.alloc (.cells #[.string mk.name,.int .u8 mk.k,.int .i64 mk.n,.string mk.t,.slice mk.an mk.nn mk.cn,.slice mk.ai mk.ni mk.ci] 120)).alloc (.cells #[.string mk.name] 9)).heap.size=wr.heap.size+2 by simp] at o5;have b6:=U (show ObjAt2 W (w6.setCell ⟨r,3,none⟩ (.slice (some ⟨g1,0,none⟩) (k+1) cap2)) (w.heap.size+1) r 25 9 25 (.slice (some ⟨g1,0,none⟩) (k+1) cap2) vi ((ids m).take k ++ [mk.name]) ((m.map obj2).take k) cs by
          have:=(a3.o.below ((Z0 _ _).alloc lz (.cells #[.string mk.name] 9))).name mk.name (g:=g1) (cap:=cap2) hgrow6 (by rcases hat6 with h|h;exact .inl h;exact .inr (by simp;omega)) (by rw [S.o];exact hown6);rwa [S.o] at this)
         have l0:=U (show (w6.setCell ⟨r,3,none⟩ (.slice (some ⟨g1,0,none⟩) (k+1) cap2)).ownsRow W.heap.size 25 5 vi k cs by have:=b6.o.items;rwa [R.o] at this);have e3:=U hgrow6;clear hown6 hgrow6 hat6)
        | (
         refine Y9 _ rfl (.tmp 68) (.tmp 71) 23 rfl W.heap.size 25 i1 _ 5 80 G7 n0 o1 o2 o3 rfl (by decide) vi k cs rfl (l0.o.alloc _) ⟨w6.heap.size,0,none⟩ 1 1 [.int .u8 mk.k,.int .i64 mk.n,.string mk.t,.slice mk.an mk.nn mk.cn,.slice mk.ai mk.ni mk.ci] rfl rfl ?_ (by simp [Value.oneCell']) (by omega) (by unfold maxLen;omega) (by omega) ?_ (w6.heap.size+1) (by simp [World.setCell]) ?_
         . have:=X0 (cs:=#[.int .u8 mk.k,.int .i64 mk.n,.string mk.t,.slice mk.an mk.nn mk.cn,.slice mk.ai mk.ni mk.ci]) (t:=25) (fr:=(0,0)) (Z4 (w6.setCell ⟨r,3,none⟩ (.slice (some ⟨g1,0,none⟩) (k+1) cap2)) (.cells #[.int .u8 mk.k,.int .i64 mk.n,.string mk.t,.slice mk.an mk.nn mk.cn,.slice mk.ai mk.ni mk.ci] 25));rw [show (w6.setCell ⟨r,3,none⟩ (.slice (some ⟨g1,0,none⟩) (k+1) cap2)).heap.size=w6.heap.size by simp [World.setCell]] at this;exact this
         . simp [World.setCell];omega
         intro g2 cap3 w8 hown8 hgrow8 hat8 hlt8;have r7:=zu hgrow8 (by simp [World.setCell];omega) i0 (b6.o.row.cell (i:=4) (by decide));have s7:=za hgrow8 (by simp [World.setCell];omega) i0 (b6.o.row.frozen 4);have l3:=U hown8;have k7:=U hgrow8;have k4:=U hat8;clear hown8 hgrow8 hat8))
       go_roundw
       case rel => refine ⟨k+1,cs ++ [.int .u8 mk.k,.int .i64 mk.n,.string mk.t,.slice mk.an mk.nn mk.cn,.slice mk.ai mk.ni mk.ci],.slice (some ⟨g1,0,none⟩) (k+1) cap2,.slice (some ⟨g2,0,none⟩) (k+1) cap3,by omega,by go_num,?_⟩;have hv:=a5.o;simp only [Mem.val,za2,za9,W8,Value.int.injEq,Value.string.injEq,zc0,M9] at hv;obtain ⟨q0,q1,q2,q3,q4⟩:=hv;have hr:=a4.o;unfold Mem.val at hr;rw [q0,q1,q2,q3,q4] at hr;have ho:=l3.o;rw [q0,q1,q2,q3,q4] at ho ⊢;rw [h6.o,h5.o];have m5:Below wr.heap.size wr ((wr.alloc (.cells #[.string mk.name,.int .u8 mk.k,.int .i64 mk.n,.string mk.t,.slice mk.an mk.nn mk.cn,.slice mk.ai mk.ni mk.ci] 120)).alloc (.cells #[.string mk.name] 9)):=f7.o.alloc (by simp) _;have n6:Rep ((w6.setCell ⟨r,3,none⟩ (.slice (some ⟨g1,0,none⟩) (k+1) cap2)).alloc (.cells #[.int .u8 (obj2 kk).kind,.int .i64 (obj2 kk).n,.string (obj2 kk).t,.slice f0 (obj2 kk).names.length f2,.slice e9 (obj2 kk).items.length f1] 25)) lo hi (obj2 kk) (.agg #[.int .u8 (obj2 kk).kind,.int .i64 (obj2 kk).n,.string (obj2 kk).t,.slice f0 (obj2 kk).names.length f2,.slice e9 (obj2 kk).items.length f1]):=(by refine Rep.carry lz lz (fun b h1 h2=>?_) _ _ hr;have:=g0.o;rw [X5 _ _ _ (by simp [World.setCell];omega),J6 _ _ _ _ (by show b≠r;omega),e3.o.block b (by simp;omega) (fun e=>by have:=(o.o.names.lt b e.symm).1;have:=C.o;omega),m5.block b (by omega)]);have n5:=(b6.o.below ((Z0 _ _).alloc lz (.cells #[.int .u8 (obj2 kk).kind,.int .i64 (obj2 kk).n,.string (obj2 kk).t,.slice f0 (obj2 kk).names.length f2,.slice e9 (obj2 kk).items.length f1] 25)));have i5:=k7.o;rw [q0,q1,q2,q3,q4] at i5;have:=n5.item (it:=obj2 kk) (lo:=lo) (hi:=hi) (g:=g2) (cap:=cap3) n4 g0.o n6 i5 (by rcases k4.o with h|h;exact .inl h;exact .inr (by simp [World.setCell];omega)) (by rw [R.o];exact ho);rw [R.o] at this;exact this
       case measure=>simp [intOf];omega
     . obtain rfl:k=nd:=by omega
       have j0:(ids m).take k=ids m:=Z8 (by simp [ids];omega);have j1:(m.map obj2).take k=m.map obj2:=Z8 (by simp;omega);rw [j0,j1] at o;have S:=U (show (ids m).length=k by simp [ids];omega);have R:=U (show (m.map obj2).length=k by simp;omega);obtain ⟨E,G,D,F,rfl,rfl,y⟩:=o.o.done;have l7:=U y;have a8:=o.o.names;have f:=o.o.row;have N:=o.o.touch.row (qj a1.o T.o.res k1) (by rw [H.o];omega);have p4:w.heap.size<r:=by rw [H.o];exact k1
       rw [S.o,R.o] at f;obtain ⟨r0,r1,r2,r3,r4⟩:=rc5 f;obtain ⟨t0,t1,t2,t3,t4⟩:=rc5 N;obtain ⟨s0,s1,s2,s3,s4⟩:=rf5 N;simp only [qZ] at r0 r1 r2 r3 r4 t0 t1 t2 t3 t4;have m0:=U N;have k5:=O0 (Below w.heap.size w wr) ((T.o.below.trans (a1.o.mono (by omega))).trans (o.o.touch.below (by have:=C.o;omega) fun j hj e=>by omega));have g4:=U a8;clear f N y j0 j1 a8 o;go_wp2;refine J3 (qk Tryz.results37 _ _ w.heap.size 25 _ (0,0) _ rfl (qm (set5 _ _ _ _ _ m0.o)) J5 rfl (by kernel_rfl) _ rfl) rfl (.inr ⟨I.o,m,T.o.perm,T.o.rise,E,G,D,F,?_,?_,zx _ _ _ _ _ k5.o lz,?_⟩)
       . show _=Ending.returned (.tuple #[.agg #[.int .u8 5,.int .i64 0,.string ⟨#[]⟩,.slice E (ids m).length G,.slice D (m.map obj2).length F],.int .i64 0]);rw [S.o,R.o];rfl
       . exact Rep.carry (by omega) (show wr.heap.size<=_ by simp [World.setCell]) (fun j hj _=>xI _ _ _ _ _ (by omega)) _ _ l7.o
       . exact aZ (kf (base':=w.heap.size) (zd g4.o fun b hb=>xI _ _ _ _ _ (by have:=(g4.o.lt b hb).1;have:=C.o;omega)) (by have:=C.o;omega))
def Zu (l:List Key2) (y s:Nat):List Key2:=(List.range s).map fun j=>l.getD ((l.length - 1 - j+y) % l.length) (⟨#[]⟩,⟨#[]⟩)
def QQ (l:List Key2) (w:World) (e:Ending) (w':World):Prop :=
 ∃u:JV,(wI l=0->∃m:List Key2,m.Perm l/\qe (ids m)=true/\u=zi m)/\(wI l≠0->u=zo)/\u.wt<=4294967296/\pr u (wI l) w e w'
theorem ch (l:List Key2) (a:Option Addr) (c:Nat) (w:World) (hK:zA w 0 w.heap.size a l) (hl:l.length<=40) (hs:∀k ∈ l,k.1.size<=300/\k.2.size<=300) (hT:Tabs w) :
 Calls Tryz.prog 37 #[.slice a l.length c] w (QQ l w):=by
 refine (iA l a c w hK (by omega) hs hT).mono ?_;rintro e w' (⟨b,rfl,f⟩|⟨b,m,d,g,i⟩)
 . exact ⟨zo,fun h=>absurd h b,fun _=>rfl,by decide,none,0,none,0,rfl,mw _ _ _,f⟩
 . refine ⟨zi m,fun _=>⟨m,d,g,rfl⟩,fun h=>absurd b h,?_,by rw [b];exact i.val⟩;have:=mC (m:=m) (fun k hk=>hs k (d.subset hk));have:=d.length_eq;omega
def d9 (v:JV) (w:World) (e:Ending) (w':World):Prop :=
 ∃val,e=.returned (.tuple #[val,.int .i64 (jx v).2])/\w'.ownsRow w.heap.size 43 2 val (jx v).1.length ((jx v).1.flatMap gY)/\Below w.heap.size w w'
theorem eu {m:List Key2} (hok:∀k ∈ m,ok2 k=true) (hr:qe (ids m)=true) (hl:m.length<=32):wI m=0:=by unfold wI;rw [Z5 (by omega)];exact (wV m []).2 ⟨hok,by simp,dv hr⟩
theorem aJ (l:List Key2) (a:Option Addr) (c:Nat) (w:World) (hK:zA w 0 w.heap.size a l) (hm:zg l=true) (hT:Tabs w) :
 Calls Tryz.prog 37 #[.slice a l.length c] w fun e w'=>∃an cn ai ci,e=.returned (.tuple #[.agg #[.int .u8 5,.int .i64 0,.string ⟨#[]⟩,.slice an l.length cn,.slice ai l.length ci],.int .i64 0])/\Rep w' w.heap.size w'.heap.size (zi l) (.agg #[.int .u8 5,.int .i64 0,.string ⟨#[]⟩,.slice an l.length cn,.slice ai l.length ci])/\Below w.heap.size w w':=by
 obtain ⟨p,b,d⟩:=q9.1 hm;refine (ch l a c w hK (by omega) (fun k hk=>by have:=yT (b k hk);omega) hT).mono ?_;rintro e w' ⟨u,v,-,-,i⟩;have h:wI l=0:=eu b d p;obtain ⟨m,r,s,rfl⟩:=v h;obtain rfl:m=l:=mO r s d;rw [h] at i;obtain ⟨an,cn,ai,ci,f,g,q⟩:=i;have j:(zi m).names.length=m.length:=J9 ..;have o:(zi m).items.length=m.length:=J9 ..;rw [j,o] at f g;exact ⟨an,cn,ai,ci,f,g,q⟩
theorem vR:∀(l:List ByteArray),(∀x ∈ l,x.size<=1000000)->(qg l).wt<=1+1000001 * l.length:=fun l h=>by
 have h1:∀l:List ByteArray,(∀x ∈ l,x.size<=1000000)->JV.wts (l.map txtJ)<=1000001 * l.length:=fun l=>by
  induction l with
  | nil=>intro _;simp [JV.wts]
  | cons x r ih => intro h;have h1:=h x (N9 ..);have h2:=ih fun y hy=>h y (K9 _ hy);rw [G9,JV.wts,j8,N2];omega
 have h2:=h1 l h;have e2:(qg l).wt=1+JV.wts (l.map txtJ):=(by show 1+(⟨#[]⟩:ByteArray).size+qo [] + JV.wts (l.map txtJ)=_;rfl);omega
theorem my (b:Bool):(zt b).wt=1:=by cases b <;> rfl
theorem mg {x:DelegV} (h:qt x=true):(qu x).wt<=50000000:=by
 obtain ⟨g,⟨-,i,c⟩,⟨j,d⟩,⟨k,e⟩⟩:=kF h;have f:=vR _ c;rw [show qu x=j5 (zW x) from rfl,rp];unfold zW;split
 . have b:=vR _ d;show 1+qo [qy,zw,xg,trmN,thrN] + ((qg x.au.ids).wt+((txtJ x.name).wt+((qg x.paths).wt+((zt x.term).wt+((zy x.au.thr).wt+0)))))<=_;have a:qo [qy,zw,xg,trmN,thrN]<=100:=by decide
   rw [j8,my,y6];omega
 . have b:=vR _ e;show 1+qo [qy,zw,zF,trmN,thrN] + ((qg x.au.ids).wt+((txtJ x.name).wt+((qg x.pres).wt+((zt x.term).wt+((zy x.au.thr).wt+0)))))<=_;have a:qo [qy,zw,zF,trmN,thrN]<=100:=by decide
   rw [j8,my,y6];omega
theorem yZ:∀(l:List DelegV),(∀x ∈ l,qt x=true)->JV.wts (l.map qu)<=50000000 * l.length
 | [],_=>by simp [JV.wts]
 | x :: r,h=>by have h1:=mg (h x (N9 ..));have h2:=yZ r fun y hy=>h y (K9 _ hy);rw [G9,JV.wts,N2];omega
theorem mf (l:List JV):(zY l).wt=1+JV.wts l:=by show 1+(⟨#[]⟩:ByteArray).size+qo [] + JV.wts l=_;rfl
theorem lx {b:BinsV} (h:q8 b=true):(zU b).wt<=50000000:=by
 obtain ⟨-,a,-,e⟩:=jW h;have c:=zI a;have f:=vR b.au.ids fun s hs=>by have:=(kh (jb _ _ c.2.2 s hs)).2;omega
 rw [show zU b=j5 (uH b) from rfl,rp];show 1+qo [jn,qy,jY,thrN] + ((zy b.bits).wt+((qg b.au.ids).wt+((txtJ b.pre).wt+((zy b.au.thr).wt+0))))<=_;have d:qo [jn,qy,jY,thrN]<=100:=by decide
 rw [j8,y6,y6];omega
theorem aK {B g cap k:Nat} {wr w3 wa w4:World} {vi:Value} {cs:List Value} {l:List JV} {it:JV} {an ai:Option Addr} {cn ci lo hi e:Nat} (hown:wr.ownsRow B e 5 vi k cs) (hrr:qF wr B (fun b=>vi.ownBlock=some b) l cs)
 (hb3:Below wr.heap.size wr w3) (hB:B<=wr.heap.size) (hlo:wr.heap.size<=lo) (hhi:hi<=w3.heap.size) (hr3:Rep w3 lo hi it (.agg #[.int .u8 it.kind,.int .i64 it.n,.string it.t,.slice an it.names.length cn,.slice ai it.items.length ci]))
 (hba:Below w3.heap.size w3 wa) (hg:wa.grownBy w4 vi.ownBlock) (hat:vi.ownBlock=some g\/w3.heap.size<=g) :
 qF w4 B (fun b=>(Value.slice (some ⟨g,0,none⟩) (k+1) cap).ownBlock=some b) (l ++ [it]) (cs ++ [.int .u8 it.kind,.int .i64 it.n,.string it.t,.slice an it.names.length cn,.slice ai it.items.length ci]):=by
 have f:=hb3.size;have j:=hba.size;have i:=hg.size;have c:∀b,vi.ownBlock=some b->b<wr.heap.size:=fun b hb=>(hown.lt b hb).2;have m:∀b,b<wr.heap.size->vi.ownBlock≠some b->w4.heap[b]?=wr.heap[b]?:=fun b hb hne=>by rw [hg.block b (by omega) (fun e=>hne e.symm),hba.block b (by omega),hb3.block b hb]
 have a:∀b,(Value.slice (some ⟨g,0,none⟩) (k+1) cap).ownBlock=some b->b=g:=fun b hb=>by simp [Value.ownBlock] at hb;exact hb.symm
 have d:=hrr.carry (w':=w4) (base':=B) (X':=fun b=>(Value.slice (some ⟨g,0,none⟩) (k+1) cap).ownBlock=some b) (by omega) lz (fun b hb hx=>m b hb hx) (fun b hx=>by
  rw [a b hx];rcases hat with h|h
  . exact .inl h
  . exact .inr (by omega))
 refine d.snoc it lo hi an cn ai ci (by omega) (by omega) (fun b hx hb=>?_) (Rep.carry lz lz (fun b h1 h2=>?_) _ _ hr3)
 . rw [a b hx] at hb;rcases hat with h|h
   . have:=c g h;omega
   . omega
 . rw [hg.block b (by omega) (fun e=>by have:=c b e.symm;omega),hba.block b (by omega)]
theorem lj {u:JV} {w w':World} {e:Ending} (h:vl u w e w') (hk:u.kind=5) (hn:u.n=0) (ht:u.t=⟨#[]⟩):yD u w e w':=by
 obtain ⟨b,d,a,c,f,g,i⟩:=h;refine ⟨b,d,a,c,?_,?_,i⟩
 . rw [f,hk,hn,ht]
 . rw [hk,hn,ht];exact g
theorem bD (l:List Key2) (rs:List DelegV) (t bits:Int) (ids:List ByteArray) (pre:ByteArray) (ka ra ba:Option Addr) (kc rc bc:Nat) (w:World) (hI:DelegsIn w 0 w.heap.size ⟨l,rs,⟨bits,pre,⟨t,ids⟩⟩⟩ ka ra ba) (hm:xm ⟨l,rs,⟨bits,pre,⟨t,ids⟩⟩⟩=true) (hT:Tabs w) :
 Calls Tryz.prog 85 #[.agg #[.slice ka l.length kc,.slice ra rs.length rc,.int .i64 t,.slice ba ids.length bc,.int .i64 bits,.string pre]] w (vl (qf ⟨l,rs,⟨bits,pre,⟨t,ids⟩⟩⟩) w):=by
 have a1:=hm;rw [zN,J4] at a1;dsimp only at a1;obtain ⟨hk,a1⟩:=a1;have o5:=U hk;have f4:=U a1;have o3:l.length<=32:=(q9.1 hk).1;obtain ⟨W,hW⟩:=O1 ((w.alloc (.cells #[.slice ka l.length kc,.slice ra rs.length rc,.int .i64 t,.slice ba ids.length bc,.int .i64 bits,.string pre] 35)).alloc (.cells #[.int .u8 0,.int .i64 0,.string ⟨#[]⟩,.slice none 0 0,.slice none 0 0] 25));have b9:(w.alloc (.cells #[.slice ka l.length kc,.slice ra rs.length rc,.int .i64 t,.slice ba ids.length bc,.int .i64 bits,.string pre] 35)).heap.size=w.heap.size+1:=by simp
 have z:Below w.heap.size w W:=by rw [hW];exact ((Z0 _ _).alloc lz _).alloc (by simp) _
 have hx:W.heap[w.heap.size]?=some (.cells #[.slice ka l.length kc,.slice ra rs.length rc,.int .i64 t,.slice ba ids.length bc,.int .i64 bits,.string pre] 35 (0,0)):=by rw [hW];exact zl w _ _
 have i4:W.rowIs (w.heap.size+1) 25 5 (qZ (.int .u8 0) (.int .i64 0) (.string ⟨#[]⟩) (.slice none 0 0) (.slice none 0 0)):=(by have:=qh (w.alloc (.cells #[.slice ka l.length kc,.slice ra rs.length rc,.int .i64 t,.slice ba ids.length bc,.int .i64 bits,.string pre] 35)) (.int .u8 0) (.int .i64 0) (.string ⟨#[]⟩) (.slice none 0 0) (.slice none 0 0) 25;rw [b9,<- hW] at this;exact this);have HC:=U (show ∀w':World,Below W.heap.size W w'->w'.cell? ⟨w.heap.size,0,none⟩=some (.slice ka l.length kc)/\w'.cell? ⟨w.heap.size,1,none⟩=some (.slice ra rs.length rc)/\w'.cell? ⟨w.heap.size,2,none⟩=some (.int .i64 t)/\w'.cell? ⟨w.heap.size,3,none⟩=some (.slice ba ids.length bc)/\w'.cell? ⟨w.heap.size,4,none⟩=some (.int .i64 bits)/\w'.cell? ⟨w.heap.size,5,none⟩=some (.string pre) from fun w' h=>by
  have y:=(h.block _ (qx hx)).trans hx;exact ⟨qq y rfl,qq y rfl,qq y rfl,qq y rfl,qq y rfl,qq y rfl⟩)
 have c2:=U i4;have HB:=U z;have b1:=O0 (w.heap.size+2<=W.heap.size) i4.lt;have HW:=U hW;have HI:=O0 (∀w':World,Below W.heap.size W w'->DelegsIn w' 0 w'.heap.size ⟨l,rs,⟨bits,pre,⟨t,ids⟩⟩⟩ ka ra ba) (fun w' h=>hI.below (z.trans (h.mono z.size)) lz lz (Z3 z.size h.size));have i6:=U (aJ l ka kc W (HI.o W (Z0 _ _)).keys hk (hT.below z));have f5:=U (fun w'=>wK t bits ids pre ba bc w');have n5:=O0 (∀w':World,Below W.heap.size W w'->q8 ⟨bits,pre,⟨t,ids⟩⟩=true->_) (fun w' h hmb=>px bits t ids pre ba bc w' (HI.o w' h).bids hmb);have HJ:=O0 (qf ⟨l,rs,⟨bits,pre,⟨t,ids⟩⟩⟩=j5 (qI ⟨l,rs,⟨bits,pre,⟨t,ids⟩⟩⟩)) rfl;have k1:=U (show (zi l).wt<=4294967296 from by
  have:=mC (m:=l) (fun k hk'=>by have:=yT ((q9.1 hk).2.1 k hk');omega);omega)
 obtain ⟨J,hJ⟩:=O1 (qf ⟨l,rs,⟨bits,pre,⟨t,ids⟩⟩⟩);rw [<- hJ] at HJ ⊢;obtain ⟨nb,i3⟩:=O1 (zb ⟨bits,pre,⟨t,ids⟩⟩);rw [<- i3] at f5 f4;have j1:=U i3;clear hW z hx i4 b9 hI hm a1 hk hJ i3 hT;obtain ⟨q0,q1,q2,q3,q4,q5⟩:=HC.o W (Z0 _ _);go_enter Tryz.func85,Tryz.ntmps85;go_upto_region 1 with fail
 rw [<- HW.o];clear HW;go_wp2_with fail;refine i6.o.mono ?_;clear i6 q0 q1 q2 q3 q4 q5;rintro r w1 ⟨an,cn,ai,ci,rfl,l3,k7⟩;obtain ⟨W2,c4⟩:=O1 (w1.alloc (.cells #[.int .u8 5,.int .i64 0,.string ⟨#[]⟩,.slice an l.length cn,.slice ai l.length ci] 25));have d4:Below w1.heap.size w1 W2:=by rw [c4];exact (Z0 _ _).alloc lz _
 have m0:W2.heap[w1.heap.size]?=some (.cells #[.int .u8 5,.int .i64 0,.string ⟨#[]⟩,.slice an l.length cn,.slice ai l.length ci] 25 (0,0)):=by rw [c4];exact Z4 w1 _
 have j3:=U l3;have e7:=U k7;have I:=U d4;have k3:=U c4;obtain ⟨z0,z1,z2,z3,z4⟩:=bx5 m0;clear l3 k7 d4 m0 c4;go_upto_region 2 with fail
 rw [<- k3.o];clear k3;obtain ⟨W3,c7⟩:=O1 (W2.alloc (.cells #[.string ⟨#[107,101,121,115]⟩,.int .u8 5,.int .i64 0,.string ⟨#[]⟩,.slice an l.length cn,.slice ai l.length ci] 169));have d5:Below W2.heap.size W2 W3:=by rw [c7];exact (Z0 _ _).alloc lz _
 have m4:W3.heap[W2.heap.size]?=some (.cells #[.string ⟨#[107,101,121,115]⟩,.int .u8 5,.int .i64 0,.string ⟨#[]⟩,.slice an l.length cn,.slice ai l.length ci] 169 (0,0)):=by rw [c7];exact Z4 W2 _
 obtain ⟨g0,h7⟩:=O1 W2.heap.size;have n6:=U h7;have b3:Below w1.heap.size w1 W3:=O2 I d5;have i7:=U (show MemsAt W.heap.size W3 (.slice (some ⟨g0,0,none⟩) 1 1) [(⟨qP,5,0,⟨#[]⟩,an,l.length,cn,ai,l.length,ci⟩:Mem)] [zi l] from by
  rw [h7];exact MemsAt.one (⟨qP,5,0,⟨#[]⟩,an,l.length,cn,ai,l.length,ci⟩:Mem) (zi l) W.heap.size w1.heap.size (Z3 e7.o.size I.o.size) lz I.o.size (j3.o.below b3 lz lz lz) m4)
 have e8:=U (O2 e7 b3);have k4:=U c7;clear d5 m4 c7 h7 b3 j3;go_upto_region 3 with fail
 rw [<- k4.o,<- n6.o];clear k4 z0 z1 z2 z3 z4;obtain ⟨q0,q1,q2,q3,q4,q5⟩:=HC.o W3 e8.o;go_wp2_with fail;refine (f5.o _).mono ?_;clear f5 q0 q1 q2 q3 q4 q5;rintro r w4 ⟨rfl,h4⟩;have i9:=U (i7.o.below h4);have D:=U (O2 e8 h4);obtain ⟨q0,q1,q2,q3,q4,q5⟩:=HC.o w4 D.o;clear h4 i7 I;obtain ⟨i1,l1,m5,n0,n1⟩:=V9 vY;cases nb with
 | true =>
  have n8:=O0 (zn rs=true) f4.o;have H:=U (show rs.length<=64/\∀x ∈ rs,qt x=true from by
   have h:=n8.o;unfold zn at h;simp only [J4,Q6] at h;exact ⟨h.1.1,fun x hx=>V4.1 h.1.2 x hx⟩)
  replace HJ:=U (show J=j5 [(qP,zi l),(xB,zY (rs.map qu))] from by
   rw [HJ.o];unfold qI;rw [J1 j1.o.symm])
  obtain ⟨i0,l0,n2,b9,n3⟩:=V9 z7;obtain ⟨nn,d1⟩:=O1 rs.length;have j2:=U d1;have p1:nn<=64:=by rw [d1];exact H.o.1
  rw [<- d1] at HC q1 ⊢;clear d1;have o2:W.heap.size<=w4.heap.size:=D.o.size;go_upto_region 5 with (at_make;refine wpList_make_own _ rfl (.const (.int .i64 0)) (.tmp 25) 23 rfl W.heap.size 25 i0 _ 5 G7 l0 n2 b9 .i64 .i64 _ nn rfl rfl rfl (by rw [n3];omega) (by unfold maxLen;omega) o2 ?_;intro C hown5 hgrow5;have A:=U hown5;have E:=U (below_grown (v:=.slice none 0 0) (Z0 w4.heap.size w4) lz hgrow5 (fun b z=>by cases z));obtain ⟨q0,q1,q2,q3,q4,q5⟩:=HC.o C (D.o.trans (E.o.mono D.o.size));clear hown5 hgrow5)
  go_wp2_with fail
  go_loopw [6,8,30] (fun s6 _ i wr=>∃(k:Nat) (cs:List Value),k<=nn/\i=.int .i64 k/\wr.ownsRow W.heap.size 25 5 s6 k cs/\qF wr W.heap.size (fun b=>s6.ownBlock=some b) ((rs.take k).map qu) cs/\(∀b,s6.ownBlock=some b->w4.heap.size<=b)/\Below w4.heap.size w4 wr) (fun _ _ i _=>nn - (intOf i).toNat)
  case atStart=>exact ⟨0,[],by omega,rfl,A.o,by simpa using qF.nil _ _ _,fun b z=>by simp only [Value.ownBlock,K7] at z;omega,E.o⟩
  case round =>
   obtain ⟨k,cs,hk,rfl,d7,l6,d6,h6⟩:=hrel;have HO:=U d7;have f7:=U l6;have f0:=U d6;have a0:=U h6;have a3:=U (O2 D h6);clear d7 l6 d6 h6 A E q0 q1 q2 q3 q4 q5;by_cases hlt:k<nn
   . have h9:k<rs.length:=by rw [<- j2.o];exact hlt
     obtain ⟨b,o,ha,-,p0,ia,ic,pa,pc,qa,qc,e0,e1,e2,e3,e4,e5,-,-,-,h8⟩:=(HI.o wr a3.o).roles.at k h9;subst ha;have m1:(0:Int)<=(k:Int):=by omega
     have m2:(k:Int)<(nn:Int):=by omega
     have m3:decide ((k:Int)<(nn:Int))=true:=by simpa using hlt
     have i2:=H.o.2 rs[k] (J7 h9);have g1:=O0 ((rs.take (k+1)).map qu=(rs.take k).map qu ++ [qu rs[k]]) (by rw [Z6 h9,N6];rfl);obtain ⟨x,hx⟩:=O1 (rs[k]);rw [<- hx] at e0 e1 e2 e3 e4 e5 h8 i2 g1;clear hx;obtain ⟨nm,au,tm,ps,qs⟩:=x;obtain ⟨d2,d3⟩:=au;dsimp only at e0 e1 e2 e3 e4 e5;obtain ⟨WX,c9⟩:=O1 (wr.alloc (.cells #[.string nm,.int .i64 d2,.slice ia d3.length ic,.bool tm,.slice pa ps.length pc,.slice qa qs.length qc] 41));have d0:Below wr.heap.size wr WX:=by rw [c9];exact (Z0 _ _).alloc lz _
     have Z:WX.heap[wr.heap.size]?=some (.cells #[.string nm,.int .i64 d2,.slice ia d3.length ic,.bool tm,.slice pa ps.length pc,.slice qa qs.length qc] 41 (0,0)):=by rw [c9];exact Z4 wr _
     have z0:=qq Z (j:=0) rfl;have z1:=qq Z (j:=1) rfl;have z2:=qq Z (j:=2) rfl;have z3:=qq Z (j:=3) rfl;have z4:=qq Z (j:=4) rfl;have z5:=qq Z (j:=5) rfl;have c3:=U ((pz nm d2 d3 tm ps qs ia pa qa ic pc qc WX (h8.below d0 lz lz d0.size) i2).mono fun e w' h=>lj h rfl rfl rfl);unfold yD at c3;obtain ⟨u,hu⟩:=O1 (qu ⟨nm,⟨d2,d3⟩,tm,ps,qs⟩);rw [<- hu] at c3 g1;have f2:=U d0;have k6:=U c9;clear d0 Z c9 h8 i2 hu;go_upto_region 8 with fail
     rw [<- k6.o];clear e0 e1 e2 e3 e4 e5 k6;go_wp2_with fail;refine c3.o.mono ?_;clear c3 z0 z1 z2 z3 z4 z5;rintro r w6 ⟨g6,h0,g5,g9,rfl,l5,h5⟩;have k0:=U l5;have K:=U (O2 f2 h5);have L:=U (qH HO.o K.o);have o1:=O0 (wr.heap.size<=WX.heap.size/\WX.heap.size<=w6.heap.size) (⟨f2.o.size,h5.size⟩);have o9:W.heap.size<=w6.heap.size:=Z3 a3.o.size K.o.size;clear l5 h5;go_wp2_with (at_builtin;refine Y9 _ rfl (.tmp 34) (.tmp 37) 23 rfl W.heap.size 25 i0 _ 5 80 G7 l0 n2 b9 n3 rfl (by omega) u6 k cs rfl (L.o.alloc _) ⟨w6.heap.size,0,none⟩ 1 1 (Array.toList #[.int .u8 u.kind,.int .i64 u.n,.string u.t,.slice g6 u.names.length h0,.slice g5 u.items.length g9]) rfl rfl (X0 (cs:=#[.int .u8 u.kind,.int .i64 u.n,.string u.t,.slice g6 u.names.length h0,.slice g5 u.items.length g9]) (t:=25) (fr:=(0,0)) (Z4 w6 _)) (by simp [Value.oneCell']) (by omega) (by unfold maxLen;omega) (by omega) (by simp;omega) (w6.heap.size+1) (by simp) ?_;intro g cap w7 hown7 hgrow7 hat7 hlt7;have n9:=U hown7;have f3:=U hgrow7;have e6:=U hat7;clear hown7 hgrow7 hat7);have f:Below w6.heap.size w6 (w6.alloc (.cells #[.int .u8 u.kind,.int .i64 u.n,.string u.t,.slice g6 u.names.length h0,.slice g5 u.items.length g9] 25)):=(Z0 _ _).alloc lz _;have o0:=U (aK (cap:=cap) (k:=k) (g:=g) HO.o f7.o K.o a3.o.size o1.o.1 lz k0.o f f3.o (by
      rcases e6.o with h|h
      . exact .inl h
      . exact .inr (by omega)))
     have n4:=U (below_grown ((a0.o.trans (K.o.mono a0.o.size)).trans (f.mono (Z3 a0.o.size K.o.size))) (by have:=a0.o.size;have:=K.o.size;simp;omega) f3.o (fun b z=>f0.o b z));have n7:=U (show w4.heap.size<=g from by
      rcases e6.o with h|h
      . exact f0.o g h
      . have:=a0.o.size;have:=K.o.size;omega)
     clear f f3 e6 k0 L K;go_roundw
     case rel=>exact ⟨k+1,_,by omega,by go_num,n9.o,by rw [g1.o];exact o0.o,fun b z=>by simp only [Value.ownBlock,K7] at z;have:=n7.o;omega,n4.o⟩
     case measure=>simp [intOf];omega
   . have m3:decide ((k:Int)<(nn:Int))=false:=by simpa using hlt
     have a8:=O0 (k=rs.length) (by rw [<- j2.o];omega);have l2:rs.take k=rs:=Z8 (by rw [a8.o];exact J0 _);have k2:=U (show ∃a c,u6=.slice a k c/\zc wr W.heap.size wr.heap.size a (rs.map qu) from by
      have h:=f7.o;rw [l2] at h;obtain ⟨a,c,h1,h2,h3⟩:=zM HO.o h (by rw [J9,<- a8.o]);refine ⟨a,c,?_,h3⟩;rw [h1,J9,<- a8.o])
     clear l2 f7 HO f0;obtain ⟨va,vc,o4,l7⟩:=k2.o;subst o4;have c1:=U (Qv (rs.map qu) va vc W.heap.size wr (by have:=b1.o;omega) l7 (by rw [J9,<- a8.o];omega) (fun x hx=>by
      obtain ⟨y,hy,rfl⟩:=M4.1 hx;have:=mg (H.o.2 y hy);omega))
     unfold uM at c1;rw [J9,<- a8.o] at c1;have R:=U (i9.o.below a0.o);clear l7 k2;go_wp2_with fail;refine c1.o.mono ?_;clear c1;rintro r C ⟨a5,c5,rfl,b5,G⟩;have a9:=U b5;have E:=U G;have f1:=U a3.o;have Y:W.heap.size<=wr.heap.size:=a3.o.size;have i5:W.heap.size<=C.heap.size:=Z3 Y G.size;have Q:=U (R.o.below G);have A:=O0 (C.ownsRow W.heap.size 169 6 (.slice (some ⟨g0,0,none⟩) 1 1) 1 (qW [(⟨qP,5,0,⟨#[]⟩,an,l.length,cn,ai,l.length,ci⟩:Mem)])) Q.o.own;have g2:=O0 (g0<wr.heap.size) ((R.o.own.lt g0 rfl).2);clear b5 G;go_upto_region 12 with (at_builtin;refine Y9 _ rfl (.tmp 40) (.tmp 44) 170 rfl W.heap.size 169 i1 _ 6 96 za3 l1 m5 n0 n1 rfl (by omega) (.slice (some ⟨g0,0,none⟩) 1 1) 1 (qW [(⟨qP,5,0,⟨#[]⟩,an,l.length,cn,ai,l.length,ci⟩:Mem)]) rfl (A.o.alloc _) ⟨C.heap.size,0,none⟩ 1 1 (qG (⟨xB,4,0,⟨#[]⟩,none,0,0,a5,k,c5⟩:Mem)) rfl rfl (X0 (cs:=#[.string ⟨#[114,111,108,101,115]⟩,.int .u8 4,.int .i64 0,.string ⟨#[]⟩,.slice none 0 0,.slice a5 k c5]) (t:=169) (fr:=(0,0)) (Z4 C _)) (jX _) (by omega) (by unfold maxLen;omega) (by omega) (by simp;omega) (C.heap.size+1) (by simp) ?_;intro g3 cap3 w6 hown6 hgrow6 hat6 hlt6;have L:=U hown6;have P:=U hgrow6;have a2:=U hat6;clear hown6 hgrow6 hat6)
     have f:Below C.heap.size C (C.alloc (.cells #[.string ⟨#[114,111,108,101,115]⟩,.int .u8 4,.int .i64 0,.string ⟨#[]⟩,.slice none 0 0,.slice a5 k c5] 169)):=(Z0 _ _).alloc lz _;have M:=U (below_grown ((f1.o.trans (E.o.mono Y)).trans (f.mono i5)) (by simp;omega) P.o (fun b z=>(A.o.lt b z).1));have a4:=U (show MemsAt W.heap.size w6 (.slice (some ⟨g3,0,none⟩) 2 cap3) ([(⟨qP,5,0,⟨#[]⟩,an,l.length,cn,ai,l.length,ci⟩:Mem)] ++ [(⟨xB,4,0,⟨#[]⟩,none,0,0,a5,k,c5⟩:Mem)]) ([zi l] ++ [zY (rs.map qu)]) from (Q.o.below f).snoc (⟨xB,4,0,⟨#[]⟩,none,0,0,a5,k,c5⟩:Mem) (zY (rs.map qu)) wr.heap.size C.heap.size Y (by simp) (fun b z=>by simp only [Value.ownBlock,K7] at z;have:=g2.o;omega) (a9.o.below f lz lz lz) P.o L.o (by
      rcases a2.o with h|h
      . exact .inl h.symm
      . exact .inr ⟨g3,rfl,by simp;omega⟩))
     have g4:=U b1.o;clear A L P a2 R Q E a9 f;have a7:=U (fN (v:=.slice (some ⟨g3,0,none⟩) 2 cap3) [(qP,zi l),(xB,zY (rs.map qu))] (N:=[(qP,zi l),(xB,zY (rs.map qu))]) ⟨_,by simpa using a4.o,by simp⟩ ⟨_,_,rfl⟩ (List.Perm.refl _) zm.2.2.2.1 (by simp) (fun p hp=>by
      simp only [G3,H9,zd5] at hp;rcases hp with rfl|rfl
      . exact k1.o
      . show (zY (rs.map qu)).wt<=4294967296;rw [mf];have h1:=yZ rs H.o.2;have h2:=H.o.1;omega) (by have:=g4.o;omega))
     clear a4;go_wp2_with fail;refine a7.o.mono ?_;clear a7;rintro e w8 ⟨T,X,S,V,rfl,b6,b4⟩;have s:Below W.heap.size W w8:=O2 M b4;obtain ⟨W9,F⟩:=O1 (w8.alloc (.cells #[.int .u8 5,.int .i64 0,.string ⟨#[]⟩,.slice T 2 X,.slice S 2 V] 25));have q:Below w8.heap.size w8 W9:=by rw [F];exact (Z0 _ _).alloc lz _
     have b7:W9.heap[w8.heap.size]?=some (.cells #[.int .u8 5,.int .i64 0,.string ⟨#[]⟩,.slice T 2 X,.slice S 2 V] 25 (0,0)):=by rw [F];exact Z4 w8 _
     have d:=qj (s.trans (q.mono s.size)) c2.o c2.o.lt;have f9:=U d;have f6:=U (Rep.below b6 (B:=w8.heap.size) q lz lz q.size);have b2:=O0 (w.heap.size+2<=w6.heap.size) (Z3 b1.o M.o.size);have e9:=U (HB.o.trans ((s.trans (q.mono s.size)).mono HB.o.size));obtain ⟨z0,z1,z2,z3,z4⟩:=bx5 b7;obtain ⟨t0,t1,t2,t3,t4⟩:=rc5 d;obtain ⟨s0,s1,s2,s3,s4⟩:=rf5 d;simp only [qZ] at t0 t1 t2 t3 t4;have b0:=U F;clear d b6 b4 s q b7 F;go_upto_region 13 with fail
     rw [<- b0.o];clear b0;go_wp2;refine J3 (X6 Tryz.results85 _ _ (w.heap.size+1) 25 _ (0,0) _ rfl (qm (set5 _ _ _ _ _ f9.o)) J5 rfl (by kernel_rfl)) rfl ?_;rw [HJ.o];refine ⟨T,X,S,V,rfl,?_,zx _ _ _ _ _ e9.o (by omega)⟩;exact Rep.carry (by have:=b2.o;omega) (show W9.heap.size<=_ by simp [World.setCell]) (fun j hj _=>xI _ _ _ _ _ (by have:=b2.o;omega)) _ _ f6.o
 | false =>
  have j0:=U (show q8 ⟨bits,pre,⟨t,ids⟩⟩=true from by
   have h:=f4.o;simp only [Bool.false_eq_true,zd4,J4] at h;exact h.2)
  replace HJ:=U (show J=j5 [(qP,zi l),(xK,zU ⟨bits,pre,⟨t,ids⟩⟩)] from by
   rw [HJ.o];unfold qI;rw [Z5 (by rw [<- j1.o];decide)])
  have c0:=U (n5.o w4 D.o j0.o);unfold vl at c0;have k5:=U (lx j0.o);obtain ⟨u,hu⟩:=O1 (zU ⟨bits,pre,⟨t,ids⟩⟩);have o6:=O0 (u.kind=5/\u.n=0/\u.t=⟨#[]⟩) (by rw [hu];exact ⟨rfl,rfl,rfl⟩);rw [<- hu] at c0 HJ k5;clear hu;have R:=U i9.o;have f1:=U D.o;have Y:W.heap.size<=w4.heap.size:=D.o.size;go_wp2_with fail;refine c0.o.mono ?_;clear c0 q0 q1 q2 q3 q4 q5;rintro r C ⟨a6,c6,a5,c5,rfl,b5,G⟩;have a9:=U b5;have E:=U G;have i5:W.heap.size<=C.heap.size:=Z3 Y G.size;have Q:=U (R.o.below G);have A:=O0 (C.ownsRow W.heap.size 169 6 (.slice (some ⟨g0,0,none⟩) 1 1) 1 (qW [(⟨qP,5,0,⟨#[]⟩,an,l.length,cn,ai,l.length,ci⟩:Mem)])) Q.o.own;have g2:=O0 (g0<w4.heap.size) ((R.o.own.lt g0 rfl).2);clear b5 G;go_upto_region 12 with (at_builtin;refine Y9 _ rfl (.tmp 46) (.tmp 51) 170 rfl W.heap.size 169 i1 _ 6 96 za3 l1 m5 n0 n1 rfl (by omega) (.slice (some ⟨g0,0,none⟩) 1 1) 1 (qW [(⟨qP,5,0,⟨#[]⟩,an,l.length,cn,ai,l.length,ci⟩:Mem)]) rfl (A.o.alloc _) ⟨C.heap.size,0,none⟩ 1 1 (qG (⟨xK,5,0,⟨#[]⟩,a6,u.names.length,c6,a5,u.items.length,c5⟩:Mem)) rfl rfl (X0 (cs:=#[.string ⟨#[115,117,99,99,105,110,99,116,95,114,111,108,101,115]⟩,.int .u8 5,.int .i64 0,.string ⟨#[]⟩,.slice a6 u.names.length c6,.slice a5 u.items.length c5]) (t:=169) (fr:=(0,0)) (Z4 C _)) (jX _) (by omega) (by unfold maxLen;omega) (by omega) (by simp;omega) (C.heap.size+1) (by simp) ?_;intro g3 cap3 w6 hown6 hgrow6 hat6 hlt6;have L:=U hown6;have P:=U hgrow6;have a2:=U hat6;clear hown6 hgrow6 hat6)
  have f:Below C.heap.size C (C.alloc (.cells #[.string ⟨#[115,117,99,99,105,110,99,116,95,114,111,108,101,115]⟩,.int .u8 5,.int .i64 0,.string ⟨#[]⟩,.slice a6 u.names.length c6,.slice a5 u.items.length c5] 169)):=(Z0 _ _).alloc lz _;have M:=U (below_grown ((f1.o.trans (E.o.mono Y)).trans (f.mono i5)) (by simp;omega) P.o (fun b z=>(A.o.lt b z).1));have a4:=U (show MemsAt W.heap.size w6 (.slice (some ⟨g3,0,none⟩) 2 cap3) ([(⟨qP,5,0,⟨#[]⟩,an,l.length,cn,ai,l.length,ci⟩:Mem)] ++ [(⟨xK,5,0,⟨#[]⟩,a6,u.names.length,c6,a5,u.items.length,c5⟩:Mem)]) ([zi l] ++ [u]) from (Q.o.below f).snoc (⟨xK,5,0,⟨#[]⟩,a6,u.names.length,c6,a5,u.items.length,c5⟩:Mem) (u) w4.heap.size C.heap.size Y (by simp) (fun b z=>by simp only [Value.ownBlock,K7] at z;have:=g2.o;omega) (a9.o.below f lz lz lz) P.o L.o (by
   rcases a2.o with h|h
   . exact .inl h.symm
   . exact .inr ⟨g3,rfl,by simp;omega⟩))
  have g4:=U b1.o;clear A L P a2 R Q E a9 f;have a7:=U (fN (v:=.slice (some ⟨g3,0,none⟩) 2 cap3) [(qP,zi l),(xK,u)] (N:=[(qP,zi l),(xK,u)]) ⟨_,by simpa using a4.o,by simp⟩ ⟨_,_,rfl⟩ (List.Perm.refl _) zm.2.2.2.2 (by simp) (fun p hp=>by
   simp only [G3,H9,zd5] at hp;rcases hp with rfl|rfl
   . exact k1.o
   . show u.wt<=4294967296;have:=k5.o;omega) (by have:=g4.o;omega))
  clear a4;go_wp2_with fail;refine a7.o.mono ?_;clear a7;rintro e w8 ⟨T,X,S,V,rfl,b6,b4⟩;have s:Below W.heap.size W w8:=O2 M b4;obtain ⟨W9,F⟩:=O1 (w8.alloc (.cells #[.int .u8 5,.int .i64 0,.string ⟨#[]⟩,.slice T 2 X,.slice S 2 V] 25));have q:Below w8.heap.size w8 W9:=by rw [F];exact (Z0 _ _).alloc lz _
  have b7:W9.heap[w8.heap.size]?=some (.cells #[.int .u8 5,.int .i64 0,.string ⟨#[]⟩,.slice T 2 X,.slice S 2 V] 25 (0,0)):=by rw [F];exact Z4 w8 _
  have d:=qj (s.trans (q.mono s.size)) c2.o c2.o.lt;have f9:=U d;have f6:=U (Rep.below b6 (B:=w8.heap.size) q lz lz q.size);have b2:=O0 (w.heap.size+2<=w6.heap.size) (Z3 b1.o M.o.size);have e9:=U (HB.o.trans ((s.trans (q.mono s.size)).mono HB.o.size));obtain ⟨z0,z1,z2,z3,z4⟩:=bx5 b7;obtain ⟨t0,t1,t2,t3,t4⟩:=rc5 d;obtain ⟨s0,s1,s2,s3,s4⟩:=rf5 d;simp only [qZ] at t0 t1 t2 t3 t4;have b0:=U F;clear d b6 b4 s q b7 F;go_upto_region 13 with fail
  rw [<- b0.o];clear b0;go_wp2;refine J3 (X6 Tryz.results85 _ _ (w.heap.size+1) 25 _ (0,0) _ rfl (qm (set5 _ _ _ _ _ f9.o)) J5 rfl (by kernel_rfl)) rfl ?_;rw [HJ.o];refine ⟨T,X,S,V,rfl,?_,zx _ _ _ _ _ e9.o (by omega)⟩;exact Rep.carry (by have:=b2.o;omega) (show W9.heap.size<=_ by simp [World.setCell]) (fun j hj _=>xI _ _ _ _ _ (by have:=b2.o;omega)) _ _ f6.o
end Go.Proofs.YthgembbgcbaghaaGreatDoor
