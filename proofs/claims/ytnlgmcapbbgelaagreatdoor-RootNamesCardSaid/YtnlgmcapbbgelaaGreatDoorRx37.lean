/- Plain: a value of which the key is told is that key's object; a table of which the keys are told is their table; and back. No program in sight. -/
import Derived.Test.YtnlgmcapbbgelaaGreatDoorRx36
import Derived.Test.YtnlgmcapbbgelaaGreatDoorRx35
import Derived.Test.YtnlgmcapbbgelaaGreatDoorRx28
import Derived.Test.YtnlgmcapbbgelaaGreatDoorRx23

namespace Go.Proofs.YtnlgmcapbbgelaaGreatDoor
open Go.RowKit
def cB (u:JV) (er:Int) (w:World) (e:Ending) (w':World):Prop :=
 ∃an cn ai ci,e=.returned (.tuple #[.agg #[.int .u8 u.kind,.int .i64 u.n,.string u.t,.slice an u.names.length cn,.slice ai u.items.length ci],.int .i64 er]) ∧
  Rep w' w.heap.size w'.heap.size u (.agg #[.int .u8 u.kind,.int .i64 u.n,.string u.t,.slice an u.names.length cn,.slice ai u.items.length ci])∧Below w.heap.size w w'
theorem dN (w:World) (lo hi:Nat):Rep w lo hi qL zeroAgg:=by
 unfold qL Rep;exact ⟨none,0,none,0,rfl,Nat.le_refl _,Nat.le_refl _,.inl rfl,.inl rfl⟩
end Go.Proofs.YtnlgmcapbbgelaaGreatDoor

namespace Go.Proofs.YtnlgmcapbbgelaaGreatDoor
open Go.RowKit Go.Shelf Go.Sort
theorem dS {w:World} {base e n cn:Nat} {an:Option Addr} {xs:List Value} (h:w.ownsRow base e 1 (.slice an n cn) n xs):n=0∨∃b,an=some ⟨b,0,none⟩∧base≤b∧aW w b 0 n:=by
 rcases h.2 with ⟨_,h0⟩|⟨g,cap,cur,hv,hg,hh,hc,_,hs,_⟩
 · exact .inl h0
 · simp only [Value.slice.injEq,true_and] at hv
   obtain ⟨rfl,rfl⟩:=hv
   exact .inr ⟨g,rfl,hg,cur,e,hh,by rw [hs];omega⟩
def fV (u:JV) (er:Int) (w:World) (e:Ending) (w':World):Prop :=
 ∃an cn ai ci,e=.returned (.tuple #[.agg #[.int .u8 u.kind,.int .i64 u.n,.string u.t,.slice an u.names.length cn,.slice ai u.items.length ci],.int .i64 er]) ∧
  Rep w' w.heap.size w'.heap.size u (.agg #[.int .u8 u.kind,.int .i64 u.n,.string u.t,.slice an u.names.length cn,.slice ai u.items.length ci])∧Below w.heap.size w w' ∧
  (u.names.length=0∨∃b,an=some ⟨b,0,none⟩∧w.heap.size≤b∧aW w' b 0 u.names.length)
theorem fV.val {u:JV} {er:Int} {w:World} {e:Ending} {w':World} (h:fV u er w e w'):cB u er w e w':=by
 obtain ⟨an,cn,ai,ci,h1,h2,h3,_⟩:=h
 exact ⟨an,cn,ai,ci,h1,h2,h3⟩
def nE (l:List Key2) (w:World) (e:Ending) (w':World):Prop :=
 (vw l≠0∧e=.returned (.tuple #[zeroAgg,.int .i64 (vw l)])∧Below w.heap.size w w') ∨
 (vw l=0∧∃m:List Key2,m.Perm l∧ql (ids m)=true∧fV (xk m) 0 w e w')
structure TabAt (w wr:World) (v:Value) (l:List Key2) (k:Nat) (zs:List (Mem × Key2)):Prop where
 below:Below w.heap.size w wr
 res:wr.rowIs w.heap.size 25 5 (qQ (.int .u8 0) (.int .i64 0) (.string ⟨#[]⟩) (.slice none 0 0) (.slice none 0 0))
 own:wr.ownsRow (w.heap.size+1) 144 6 v k ((zs.map (·.1)).flatMap qW)
 row:zM wr (w.heap.size+1) (fun b=>v.ownBlock=some b) zs
 keys:zs.map (·.2)=l.take k
 err:xZ [] l=xZ (ids (l.take k)) (l.drop k)
theorem TabAt.later {w wr w':World} {v:Value} {l:List Key2} {k:Nat} {zs:List (Mem × Key2)} (h:TabAt w wr v l k zs) (hb:Below wr.heap.size wr w'):TabAt w w' v l k zs where
 below:=h.below.trans (hb.mono h.below.size)
 res:=qx hb h.res h.res.lt
 own:=qJ h.own hb
 row:=h.row.carry hb.size (fun b hb' _ _=>hb.block b hb') (fun _ hx=>.inl hx)
 keys:=h.keys
 err:=h.err
theorem TabAt.len {w wr:World} {v:Value} {l:List Key2} {k:Nat} {zs:List (Mem × Key2)} (h:TabAt w wr v l k zs) (hk:k≤l.length):zs.length=k:=by
 have:=congrArg List.length h.keys
 simpa [hk] using this
theorem TabAt.slice {w wr:World} {v:Value} {l:List Key2} {k:Nat} {zs:List (Mem × Key2)} (h:TabAt w wr v l k zs) (hk:k≤l.length):(v=.slice none 0 0∧k=0)∨∃g cap,v=.slice (some ⟨g,0,none⟩) k cap∧w.heap.size<g∧g<wr.heap.size∧k≤cap ∧
 ∀j c (hj:j<zs.length),c<6→wr.cell? ⟨g,j * 6+c,none⟩=some ((qW zs[j].1)[c]!):=by
 have hl:=h.len hk
 rcases h.own.2 with ⟨rfl,h0⟩|⟨g,cap,cur,rfl,hg,hh,hc,_⟩
 · exact .inl ⟨rfl,h0⟩
 · refine .inr ⟨g,cap,rfl,by omega,qz hh,hc,fun j c hj hc6=>?_⟩
   have hf:=flat_get (ms:=zs.map (·.1)) j c (by simpa using hj) hc6
   have hcc:=h.own.cells (g:=g) rfl (j * 6+c) _ hf
   have ea:(⟨g,0,none⟩:Addr).add (j * 6+c)=⟨g,j * 6+c,none⟩:=by unfold Addr.add;split <;> simp_all
   rw [ea] at hcc
   simpa using hcc
theorem dA:(Tryz.prog.info? 144).map (fun i=>(i.zero,i.size,i.bytes))=some (some (.agg #[.string ⟨#[]⟩,.int .u8 0,.int .i64 0,.string ⟨#[]⟩,.slice none 0 0,.slice none 0 0]),6,96):=by kernel_rfl
theorem TabAt.snoc {w wr wo w4:World} {v:Value} {l:List Key2} {k g cap lo hi:Nat} {zs:List (Mem × Key2)} (x:Mem) (h:TabAt w wr v l k zs) (hk:k<l.length) (hbo:Below wr.heap.size wr wo)
 (hn:x.name=id2 l[k]) (hok:ok2 l[k]=true) (hnew:xt (ids (l.take k)) (id2 l[k])=false)
 (hlo:wr.heap.size≤lo) (hhi:hi≤wo.heap.size) (hr:Rep wo lo hi (obj2 l[k]) x.val)
 (hg:wo.grownBy w4 v.ownBlock) (hat:v.ownBlock=some g∨wo.heap.size≤g)
 (ho:w4.ownsRow (w.heap.size+1) 144 6 (.slice (some ⟨g,0,none⟩) (k+1) cap) (k+1) ((zs.map (·.1)).flatMap qW ++ qW x)) :
 TabAt w w4 (.slice (some ⟨g,0,none⟩) (k+1) cap) l (k+1) (zs ++ [(x,l[k])]):=by
 have hw0:=h.res.lt
 have hown:∀b,v.ownBlock=some b→w.heap.size+1≤b∧b<wr.heap.size:=fun b hb=>h.own.lt b hb
 have hz1:=hbo.size
 have hz2:=hg.size
 have s1:∀b,b<wr.heap.size→v.ownBlock≠some b→w4.heap[b]?=wr.heap[b]?:=fun b hb hne=>by rw [hg.block b (by omega) (fun e=>hne e.symm)];exact hbo.block b hb
 have hgb:∀b,(Value.slice (some ⟨g,0,none⟩) (k+1) cap).ownBlock=some b→b=g:=fun b hb=>by simp [Value.ownBlock] at hb;exact hb.symm
 refine ⟨⟨?_,?_,?_,by have:=h.below.size;omega,fun b hb=>?_⟩,h.res.of_block (s1 _ hw0 (fun e=>by have:=(hown _ e).1;omega)),?_,?_,?_,?_⟩
 · rw [hg.os,hbo.os,h.below.os]
 · rw [hg.tape,hbo.tape,h.below.tape]
 · rw [hg.output,hbo.output,h.below.output]
 · rw [s1 b (by omega) (fun e=>by have:=(hown _ e).1;omega)];exact h.below.block b hb
 · simpa [List.flatMap_append] using ho
 · refine zM.snoc (h.row.carry (by omega) (fun b hb hne _=>s1 b hb hne) fun b hx=>?_) x l[k] lo hi hn (by omega) (by omega) (fun b hx hb=>?_) (Rep.carry lz lz (fun b h1 h2=>hg.block b (by omega) (fun e=>by have:=(hown b e.symm).2;omega)) _ _ hr)
   · rw [hgb b hx]
     rcases hat with ha|ha
     · exact .inl ha
     · exact .inr (.inl (by omega))
   · rw [hgb b hx] at hb
     rcases hat with ha|ha
     · have:=(hown g ha).2;omega
     · omega
 · rw [List.map_append,h.keys,List.take_succ_eq_append_getElem hk];rfl
 · rw [h.err,yG l k hk,if_pos hok,if_neg (by rw [hnew];simp)]
theorem TabAt.sliced {w wr:World} {v:Value} {l:List Key2} {k:Nat} {zs:List (Mem × Key2)} (h:TabAt w wr v l k zs) (hk:k≤l.length):∃av cap,v=.slice av k cap∧((k=0∧av=none∧cap=0)∨∃g,av=some ⟨g,0,none⟩∧w.heap.size<g∧g<wr.heap.size ∧
 ∀j c (hj:j<zs.length),c<6→wr.cell? ⟨g,j * 6+c,none⟩=some ((qW zs[j].1)[c]!)):=by
 rcases h.slice hk with ⟨rfl,rfl⟩|⟨g,cap,rfl,h1,h2,_,h4⟩
 · exact ⟨none,0,rfl,.inl ⟨rfl,rfl,rfl⟩⟩
 · exact ⟨_,cap,rfl,.inr ⟨g,rfl,h1,h2,h4⟩⟩
theorem TabAt.names {w wr:World} {v:Value} {l:List Key2} {k:Nat} {zs:List (Mem × Key2)} (h:TabAt w wr v l k zs):ids (l.take k)=zs.map (fun z=>z.1.name):=by
 rw [← h.keys]
 unfold ids
 rw [List.map_map]
 exact List.map_congr_left fun z hz=>(h.row z hz).1.symm
theorem TabAt.hit {w wr:World} {v:Value} {l:List Key2} {k:Nat} {zs:List (Mem × Key2)} (h:TabAt w wr v l k zs) (x:ByteArray) (j:Nat) (hj:j<zs.length) (he:(zs[j].1.name.toList == x.toList)=true):xt (ids (l.take k)) x=true:=by
 rw [h.names]
 unfold xt
 rw [List.any_map,List.any_eq_true]
 exact ⟨zs[j],List.getElem_mem hj,he⟩
theorem TabAt.fresh {w wr:World} {v:Value} {l:List Key2} {k:Nat} {zs:List (Mem × Key2)} (h:TabAt w wr v l k zs) (x:ByteArray) (hn:∀j (hj:j<zs.length),(zs[j].1.name.toList == x.toList)=false):xt (ids (l.take k)) x=false:=by
 rw [h.names]
 unfold xt
 rw [List.any_map,List.any_eq_false]
 intro z hz
 obtain ⟨j,hj,rfl⟩:=List.getElem_of_mem hz
 show ¬(zs[j].1.name.toList == x.toList)=true
 rw [hn j hj];simp
structure SortedAt (w w':World) (av:Option Addr) (l m:List Key2) (zs:List (Mem × Key2)):Prop where
 perm:m.Perm l
 keys:zs.map (·.2)=m
 rise:ql (ids m)=true
 below:Below w.heap.size w w'
 res:w'.rowIs w.heap.size 25 5 (qQ (.int .u8 0) (.int .i64 0) (.string ⟨#[]⟩) (.slice none 0 0) (.slice none 0 0))
 row:zM w' (w.heap.size+1) (fun _=>False) zs
 cells:l.length=0∨∃g,av=some ⟨g,0,none⟩∧g<w'.heap.size∧∀j c (hj:j<zs.length),c<6→w'.cell? ⟨g,j * 6+c,none⟩=some ((qW zs[j].1)[c]!)
theorem TabAt.sorted {w wr:World} {av:Option Addr} {cap:Nat} {l:List Key2} {zs:List (Mem × Key2)} (h:TabAt w wr (.slice av l.length cap) l l.length zs) (hl:l.length≤4294967)
 (hc:(l.length=0∧av=none∧cap=0)∨∃g,av=some ⟨g,0,none⟩∧w.heap.size<g∧g<wr.heap.size) :
 Calls Tryz.prog 119 #[.slice av l.length cap,.func (.func 120) #[] #[]] wr fun e w'=>e=.returned (.tuple #[])∧∃m zs',SortedAt w w' av l m zs':=by
 have hlen:=h.len lz
 have he:=h.err
 rw [List.take_length,List.drop_length] at he
 obtain ⟨hok,_,hnd⟩:=(kD l []).1 he
 have hkeys:=h.keys
 rw [List.take_length] at hkeys
 rcases hc with ⟨h0,rfl,rfl⟩|⟨g,rfl,hg1,hg2⟩
 · rw [h0]
   have hz:l=[]:=List.eq_nil_of_length_eq_zero h0
   subst hz
   refine (nI wr).mono ?_
   rintro e w' ⟨rfl,rfl⟩
   have hzs:zs=[]:=List.eq_nil_of_length_eq_zero hlen
   subst hzs
   exact ⟨rfl,[],[],List.Perm.refl _,rfl,rfl,h.below,h.res,zM.nil _ _ _,.inl rfl⟩
 · have hH:=mS h.own
   have hds:(zs.map (·.1)).toArray.size=l.length:=by simp [hlen]
   have hS:=nT g 0 cap (zs.map (·.1)).toArray wr hH hg2 (by omega)
   rw [hds] at hS
   refine hS.mono ?_
   rintro e w' ⟨rfl,d',⟨hsz,hp,hso⟩,hH',ht⟩
   refine ⟨rfl,?_⟩
   rw [hds] at hsz hso
   obtain ⟨zs',hpz,hmz⟩:=uS (·.1) (by simpa using hp) zs rfl
   have hlz:zs'.length=l.length:=by rw [hpz.length_eq];exact hlen
   have hdz:∀i (hi:i<zs'.length),d'[i]! = zs'[i].1:=fun i hi=>by
    have e:d'.toList[i]?=(zs'.map (·.1))[i]?:=by rw [hmz]
    rw [List.getElem?_map,List.getElem?_eq_getElem hi] at e
    have hi':i<d'.size:=by omega
    rw [getElem!_pos d' i hi']
    rw [Array.getElem?_toList,Array.getElem?_eq_getElem hi'] at e
    exact Option.some.inj e
   have hrow:zM w' (w.heap.size+1) (fun _=>False) zs':=(h.row.carry ht.size (fun b hb hne _=>ht.block b hb (fun e=>hne (by rw [e];rfl))) (fun b hx=>hx.elim)).perm hpz
   have hpm:(zs'.map (·.2)).Perm l:=by rw [← hkeys];exact hpz.map _
   have hnm:∀i (hi:i<zs'.length),zs'[i].1.name=id2 zs'[i].2:=fun i hi=>(hrow _ (List.getElem_mem hi)).1
   refine ⟨zs'.map (·.2),zs',hpm,rfl,?_,h.below.trans (ht.below h.below.size fun b hb e=>by omega),ht.row h.res (by omega),hrow,.inr ⟨g,rfl,by have:=ht.size;omega,fun j c hj hc=>?_⟩⟩
   · have hnd':(ids (zs'.map (·.2))).Nodup:=((hpm.map id2).nodup_iff).2 hnd
     refine pA fun i j hi hj hij=>?_
     have hi':i<zs'.length:=by simpa [ids] using hi
     have hj':j<zs'.length:=by simpa [ids] using hj
     have ei:(ids (zs'.map (·.2)))[i]=zs'[i].1.name:=by rw [hnm i hi'];simp [ids]
     have ej:(ids (zs'.map (·.2)))[j]=zs'[j].1.name:=by rw [hnm j hj'];simp [ids]
     have hne:(ids (zs'.map (·.2)))[i]≠(ids (zs'.map (·.2)))[j]:=fun e=>by
      exact (List.pairwise_iff_getElem.1 hnd') i j hi hj hij e
     rw [ei,ej] at hne ⊢
     have h1:=hso i j hij (by omega)
     rw [hdz i hi',hdz j hj'] at h1
     cases hb:bl zs'[i].1.name zs'[j].1.name
     · exact absurd (fh hb h1) hne
     · rfl
   · have:=(HoldsK.cell hH' (i:=j) (c:=c) (by omega) hc).1
     rw [hdz j hj] at this
     simpa using this
set_option maxHeartbeats 1000000 in
set_option maxRecDepth 100000 in
theorem rD (l:List Key2) (a:Option Addr) (c:Nat) (w:World) (hK:zY w 0 w.heap.size a l) (hl:l.length≤4294967) (hs:∀k ∈ l,k.1.size≤300∧k.2.size≤300) (hT:Tabs w) :
 Calls Tryz.prog 67 #[.slice a l.length c] w (nE l w):=by
 have HK:=Lh hK
 have HS:=Lh hs
 have HT:=Lh hT
 clear hK hs hT
 have HR0:=Lh (qh w (.int .u8 0) (.int .i64 0) (.string ⟨#[]⟩) (.slice none 0 0) (.slice none 0 0) 25)
 have HB0:=Lh (show Below w.heap.size w (w.alloc (.cells #[.int .u8 0,.int .i64 0,.string ⟨#[]⟩,.slice none 0 0,.slice none 0 0] 25)) from (Below.refl _ _).alloc lz _)
 by_cases h32:l.length≤32
 case neg =>
  have h32':decide (32<l.length)=true:=by simp;omega
  have h33':decide (32<(l.length:Int))=true:=by simp;omega
  have HE:=Lh (show vw l=5 by unfold vw;rw [if_pos (by omega)])
  go_enter Tryz.func67,Tryz.ntmps67
  go_wp2
  refine bodyPost_ret (qj Tryz.results67 _ _ w.heap.size 25 _ (0,0) _ rfl (heap_alloc_new w _) Tryz.underlying25 rfl (by kernel_rfl) _ rfl) rfl (.inl ⟨by rw [HE.out];decide,by rw [HE.out];rfl,HB0.out⟩)
 have h32':decide (32<l.length)=false:=by simp;omega
 have h33':decide (32<(l.length:Int))=false:=by simp;omega
 have HE:=Lh (show vw l=xZ [] l by unfold vw;rw [if_neg (by omega)])
 obtain ⟨i3,hi3,iz0,iz1,iz2⟩:=info_parts dA
 go_enter Tryz.func67,Tryz.ntmps67
 go_wp2
 go_loopw [4,6,7,8,10,20] (fun v _ _ _ _ i wr=>∃(k:Nat) (zs:List (Mem × Key2)),k≤l.length∧i=.int .i64 k∧TabAt w wr v l k zs) (fun _ _ _ _ _ i _=>l.length - (intOf i).toNat)
 case atStart=>exact ⟨0,[],by omega,rfl,HB0.out,HR0.out,World.ownsRow_nil _ _ _ _,zM.nil _ _ _,by simp,by simp [ids]⟩
 case round =>
  obtain ⟨k,zs,hk,rfl,hA⟩:=hrel
  have HA:=Lh hA
  have hwz:w.heap.size<wr.heap.size:=hA.res.lt
  by_cases hlt:k<l.length
  · obtain ⟨b,off,ha,_,hb,e0,e1⟩:=(HK.out.below hA.below lz lz hA.below.size).at k hlt
    subst ha
    obtain ⟨hs1,hs2⟩:=HS.out l[k] (List.getElem_mem hlt)
    have HST:=Lh (yG l k hlt)
    have HLK:=Lh hlt
    obtain ⟨x,hx⟩:∃x,x=l[k]:=⟨_,rfl⟩
    have HX:=Lh hx
    replace e0:=e0.trans (congrArg (fun z:Key2=>some (Value.string z.1)) hx.symm)
    replace e1:=e1.trans (congrArg (fun z:Key2=>some (Value.string z.2)) hx.symm)
    replace hs1:x.1.size≤300:=hx ▸ hs1
    replace hs2:x.2.size≤300:=hx ▸ hs2
    replace HST:=Lh (show xZ (ids (l.take k)) (l.drop k)=if ok2 x then (if xt (ids (l.take k)) (id2 x) then 7 else xZ (ids (l.take (k+1))) (l.drop (k+1))) else 3 from hx ▸ HST.out)
    clear hx hA
    obtain ⟨xs,xp⟩:=x
    replace hs1:xs.size≤300:=hs1
    replace hs2:xp.size≤300:=hs2
    replace e0:wr.cell? ⟨b,off+k * 2,none⟩=some (.string xs):=e0
    replace e1:wr.cell? ⟨b,off+k * 2+1,none⟩=some (.string xp):=e1
    have HBA:=Lh (show Below wr.heap.size wr (wr.alloc (.cells #[.string xs,.string xp] 38)) from (Below.refl _ _).alloc lz _)
    have HTA:=Lh ((HT.out.below HA.out.below).below HBA.out)
    cases hok:zl xs.data.toList xp.data.toList
    · have HEN:=Lh (mN xs xp (wr.alloc (.cells #[.string xs,.string xp] 38)) (by omega) (by omega) HTA.out hok)
      have HTE:=Lh (show vw l=3 by rw [HE.out,HA.out.err,HST.out];unfold ok2;rw [if_neg (by simp [hok])])
      clear hok
      unfold sl at HEN
      go_wp2_with fail
      refine HEN.out.mono ?_
      clear HEN
      rintro e w1 ⟨rfl,hb1⟩
      have hbw:=HBA.out.trans (hb1.mono (by simp))
      have hb1':=hbw.alloc hbw.size (.cells #[.string ⟨#[]⟩,.int .u8 0,.int .i64 0,.string ⟨#[]⟩,.slice none 0 0,.slice none 0 0] 144)
      have HA1:=Lh (HA.out.later hb1')
      have hrow:=HA1.out.res
      obtain ⟨t0,t1,t2,t3,t4⟩:=rc5 hrow
      obtain ⟨s0,s1,s2,s3,s4⟩:=rf5 hrow
      simp only [qQ] at t0 t1 t2 t3 t4
      clear hrow hb1 hbw hb1'
      go_wp2
      refine bodyPost_ret (qj Tryz.results67 _ _ w.heap.size 25 _ (0,0) _ rfl (qs (set5 _ _ _ _ _ HA1.out.res)) Tryz.underlying25 rfl (by kernel_rfl) _ rfl) rfl (.inl ⟨by rw [HTE.out];decide,by rw [HTE.out];rfl,zy _ _ _ _ _ HA1.out.below lz⟩)
    · have HEN:=Lh (uR xs xp (wr.alloc (.cells #[.string xs,.string xp] 38)) (by omega) (by omega) HTA.out hok)
      have HOK:=Lh hok
      clear hok
      unfold mR at HEN
      obtain ⟨ID,hID⟩:∃ID,ID=dd xs xp:=⟨_,rfl⟩
      rw [← hID] at HEN
      have HID:=Lh hID
      clear hID
      go_wp2_with fail
      refine HEN.out.mono ?_
      clear HEN
      rintro e w1 ⟨an,cn,ai,ci,rfl,hr1,hb1⟩
      have hbw:=HBA.out.trans (hb1.mono (by simp))
      have hz1:wr.heap.size+1≤w1.heap.size:=by have:=hb1.size;simpa using this
      obtain ⟨W1,hW1⟩:∃W1,W1=w1.alloc (.cells #[.string ID,.int .u8 5,.int .i64 0,.string ⟨#[]⟩,.slice an 2 cn,.slice ai 2 ci] 144):=⟨_,rfl⟩
      have hb1':Below wr.heap.size wr W1:=by rw [hW1];exact hbw.alloc hbw.size _
      have HB1:=Lh hb1'
      have HA1:=Lh (HA.out.later hb1')
      have HX1:=Lh (show W1.heap[w1.heap.size]?=some (.cells #[.string ID,.int .u8 5,.int .i64 0,.string ⟨#[]⟩,.slice an 2 cn,.slice ai 2 ci] 144 (0,0)) by rw [hW1];exact heap_alloc_new w1 _)
      have HR1:=Lh (show Rep W1 (wr.heap.size+1) w1.heap.size (xQ xs xp) (.agg #[.int .u8 5,.int .i64 0,.string ⟨#[]⟩,.slice an 2 cn,.slice ai 2 ci]) by
       rw [hW1]
       exact Rep.carry (by simp) lz (fun b _ h=>Below.heap_alloc _ _ _ h) _ _ hr1)
      have hZ1:W1.heap.size=w1.heap.size+1:=by rw [hW1];simp
      have HZ1:=Lh hZ1
      obtain ⟨av,cap,rfl,hsl⟩:=HA.out.sliced hk
      have hlz:zs.length=k:=HA.out.len hk
      have HW1:=Lh hW1
      clear hW1 hb1' hbw hr1 hb1 e0 e1 hsl hZ1
      obtain ⟨wo,rfl⟩:∃wo:World,wo=wr:=⟨_,rfl⟩
      go_wp2_with fail
      rw [← HW1.out]
      clear HW1
      go_loopw [10,35] (fun _ i wr=>∃j:Nat,j≤k∧i=.int .i64 j∧(∀q (hq:q<zs.length),q<j→(zs[q].1.name.toList == ID.toList)=false)∧Below W1.heap.size W1 wr) (fun _ i _=>k - (intOf i).toNat)
      case atStart=>exact ⟨0,by omega,rfl,fun q _ h=>by omega,Below.refl _ _⟩
      case round =>
       obtain ⟨j,hj,rfl,hno,hbq⟩:=hrel
       have HNO:=Lh hno
       have HBQ:=Lh hbq
       have HAQ:=Lh (HA1.out.later hbq)
       have hxq:wr.heap[w1.heap.size]?=some (.cells #[.string ID,.int .u8 5,.int .i64 0,.string ⟨#[]⟩,.slice an 2 cn,.slice ai 2 ci] 144 (0,0)):=by rw [hbq.block _ (by rw [HZ1.out];omega)];exact HX1.out
       have HXQ:=Lh hxq
       have hzq:w1.heap.size<wr.heap.size:=qz hxq
       have x0:wr.cell? ⟨w1.heap.size,0,none⟩=some (.string ID):=qq hxq rfl
       clear hno hbq
       by_cases hjk:j<k
       · have hjz:j<zs.length:=by omega
         obtain ⟨g,ha,hg1,hg2,hcell⟩:∃g,av=some ⟨g,0,none⟩∧w.heap.size<g∧g<wr.heap.size∧∀j c (hj:j<zs.length),c<6→wr.cell? ⟨g,j * 6+c,none⟩=some ((qW zs[j].1)[c]!):=by
          obtain ⟨av',cap',hv,hc⟩:=HAQ.out.sliced hk
          simp only [Value.slice.injEq,true_and] at hv
          obtain ⟨rfl,rfl⟩:=hv
          rcases hc with ⟨h0,_⟩|hc
          · omega
          · exact hc
         subst ha
         have y0:=hcell j 0 hjz (by decide);have y1:=hcell j 1 hjz (by decide);have y2:=hcell j 2 hjz (by decide);have y3:=hcell j 3 hjz (by decide);have y4:=hcell j 4 hjz (by decide);have y5:=hcell j 5 hjz (by decide)
         have HHT:=Lh (HAQ.out.hit ID j hjz)
         have HNJ:=Lh (show (zs[j].1.name.toList == ID.toList)=false→∀q (hq:q<zs.length),q<j+1→(zs[q].1.name.toList == ID.toList)=false from fun h q hq hqj=>by
          by_cases e:q=j
          · subst e;exact h
          · exact HNO.out q hq (by omega))
         clear hcell hxq
         generalize zs[j].1=mj at y0 y1 y2 y3 y4 y5 HHT HNJ
         simp only [qW,Nat.add_zero,List.getElem!_cons_zero,List.getElem!_cons_succ] at y0 y1 y2 y3 y4 y5
         have x0':(wr.alloc (.cells #[.string mj.name,.int .u8 mj.k,.int .i64 mj.n,.string mj.t,.slice mj.an mj.nn mj.cn,.slice mj.ai mj.ni mj.ci] 144)).cell? ⟨w1.heap.size,0,none⟩=some (.string ID):=(qc _ hzq).trans x0
         have HBJ:=Lh (show Below W1.heap.size W1 (wr.alloc (.cells #[.string mj.name,.int .u8 mj.k,.int .i64 mj.n,.string mj.t,.slice mj.an mj.nn mj.cn,.slice mj.ai mj.ni mj.ci] 144)) from HBQ.out.alloc HBQ.out.size _)
         have HAJ:=Lh (HA1.out.later HBJ.out)
         have hg3:(0:Int)≤(j:Int):=by omega
         have hg4:(j:Int)<(k:Int):=by omega
         cases hq:(mj.name.toList == ID.toList)
         · have HN2:=Lh (HNJ.out hq)
           clear HHT HNJ
           go_wp2
           go_roundw
           case rel=>exact ⟨j+1,by omega,by go_num,HN2.out,HBJ.out⟩
           case measure=>simp [intOf];omega
         · have HTE:=Lh (show vw l=7 by
            rw [HE.out,HA.out.err,HST.out]
            unfold ok2 id2
            rw [if_pos HOK.out,if_pos (by have:=HHT.out hq;rw [HID.out] at this;exact this)])
           have hrow:=HAJ.out.res
           obtain ⟨t0,t1,t2,t3,t4⟩:=rc5 hrow
           obtain ⟨s0,s1,s2,s3,s4⟩:=rf5 hrow
           simp only [qQ] at t0 t1 t2 t3 t4
           clear hrow HHT HNJ
           go_wp2
           refine bodyPost_ret (qj Tryz.results67 _ _ w.heap.size 25 _ (0,0) _ rfl (qs (set5 _ _ _ _ _ HAJ.out.res)) Tryz.underlying25 rfl (by kernel_rfl) _ rfl) rfl (.inl ⟨by rw [HTE.out];decide,by rw [HTE.out];rfl,zy _ _ _ _ _ HAJ.out.below lz⟩)
       · have HFR:=Lh (HAQ.out.fresh ID (fun q hq=>HNO.out q hq (by omega)))
         have x1:wr.cell? ⟨w1.heap.size,1,none⟩=some (.int .u8 5):=qq hxq rfl
         have x2:wr.cell? ⟨w1.heap.size,2,none⟩=some (.int .i64 0):=qq hxq rfl
         have x3:wr.cell? ⟨w1.heap.size,3,none⟩=some (.string ⟨#[]⟩):=qq hxq rfl
         have x4:wr.cell? ⟨w1.heap.size,4,none⟩=some (.slice an 2 cn):=qq hxq rfl
         have x5:wr.cell? ⟨w1.heap.size,5,none⟩=some (.slice ai 2 ci):=qq hxq rfl
         have HN:=Lh HAQ.out.own
         have hwq:w.heap.size+1≤wr.heap.size:=by have:=HAQ.out.res.lt;omega
         clear hxq
         go_wp2_with (at_builtin;refine wpList_append_lies _ rfl (.tmp 46) (.tmp 48) 142 rfl (w.heap.size+1) 144 i3 _ 6 96 Tryz.underlying142 hi3 iz0 iz1 iz2 rfl (by decide) (.slice av k cap) k ((zs.map (·.1)).flatMap qW) rfl (HN.out.alloc _) ⟨wr.heap.size,0,none⟩ 1 1 (qW ⟨ID,5,0,⟨#[]⟩,an,2,cn,ai,2,ci⟩) rfl rfl (World.news_of_block (cs:=#[.string ID,.int .u8 5,.int .i64 0,.string ⟨#[]⟩,.slice an 2 cn,.slice ai 2 ci]) (t:=144) (fr:=(0,0)) (heap_alloc_new wr _)) (by simp [qW,Value.oneCell']) (by omega) (by unfold maxLen;omega) (by omega) (by simp;omega) (wr.heap.size+1) (by simp) ?_;intro g1 cap2 w6 hown6 hgrow6 hat6 hlt6;have HO6:=Lh hown6;have HG6:=Lh hgrow6;have HA6:=Lh hat6;clear hown6 hgrow6 hat6)
         go_roundw
         case rel =>
          refine ⟨k+1,zs ++ [(⟨ID,5,0,⟨#[]⟩,an,2,cn,ai,2,ci⟩,l[k])],by omega,by go_num,?_⟩
          have hbn:Below wo.heap.size wo (wr.alloc (.cells #[.string ID,.int .u8 5,.int .i64 0,.string ⟨#[]⟩,.slice an 2 cn,.slice ai 2 ci] 144)):=(HB1.out.trans (HBQ.out.mono HB1.out.size)).alloc (by have:=HB1.out.size;have:=HBQ.out.size;omega) _
          refine TabAt.snoc (lo:=wo.heap.size+1) (hi:=w1.heap.size) ⟨ID,5,0,⟨#[]⟩,an,2,cn,ai,2,ci⟩ HA.out HLK.out hbn ?_ ?_ ?_ (by omega) (by simp;omega) ?_ HG6.out (by rcases HA6.out with h|h;exact .inl h;exact .inr (by simp;omega)) HO6.out
          · exact HID.out.trans (congrArg id2 HX.out)
          · exact (congrArg ok2 HX.out).symm.trans HOK.out
          · exact (congrArg (fun z=>xt (ids (l.take k)) (id2 z)) HX.out).symm.trans (by have:=HFR.out;rw [HID.out] at this;exact this)
          · have hrr:Rep (wr.alloc (.cells #[.string ID,.int .u8 5,.int .i64 0,.string ⟨#[]⟩,.slice an 2 cn,.slice ai 2 ci] 144)) (wo.heap.size+1) w1.heap.size (obj2 (xs,xp)) (Mem.val ⟨ID,5,0,⟨#[]⟩,an,2,cn,ai,2,ci⟩):=Rep.carry lz lz (fun b _ h=>by rw [Below.heap_alloc _ _ _ (by omega),HBQ.out.block b (by rw [HZ1.out];omega)]) _ _ HR1.out
            exact Eq.mp (congrArg (fun z=>Rep (wr.alloc (.cells #[.string ID,.int .u8 5,.int .i64 0,.string ⟨#[]⟩,.slice an 2 cn,.slice ai 2 ci] 144)) (wo.heap.size+1) w1.heap.size (obj2 z) (Mem.val ⟨ID,5,0,⟨#[]⟩,an,2,cn,ai,2,ci⟩)) HX.out) hrr
         case measure=>simp [intOf];omega
  · obtain rfl:k=l.length:=by omega
    have HTE:=Lh (show vw l=0 by
     rw [HE.out,HA.out.err,List.drop_length];rfl)
    obtain ⟨av,cap,rfl,hsl⟩:=HA.out.sliced lz
    have HSO:=Lh (HA.out.sorted hl (by rcases hsl with h|⟨g,h1,h2,h3,_⟩;exact .inl h;exact .inr ⟨g,h1,h2,h3⟩))
    clear hsl hA hlt hk
    obtain ⟨wo,rfl⟩:∃wo:World,wo=wr:=⟨_,rfl⟩
    go_wp2_with fail
    refine HSO.out.mono ?_
    clear HSO
    rintro e w2 ⟨rfl,m,zz,hso⟩
    have HSA:=Lh hso
    have HB3:=Lh (show Below w2.heap.size w2 (w2.alloc (.cells #[.int .u8 5,.int .i64 0,.string ⟨#[]⟩,.slice none 0 0,.slice none 0 0] 25)) from (Below.refl _ _).alloc lz _)
    have HO:=Lh (show ObjAt2 (w2.alloc (.cells #[.int .u8 5,.int .i64 0,.string ⟨#[]⟩,.slice none 0 0,.slice none 0 0] 25)) (w2.alloc (.cells #[.int .u8 5,.int .i64 0,.string ⟨#[]⟩,.slice none 0 0,.slice none 0 0] 25)) (w.heap.size+1) w2.heap.size 25 9 25 (.slice none 0 0) (.slice none 0 0) [] [] [] from
     ⟨by simp,by have:=hso.res.lt;simp;omega,Touch.refl _ _,qh _ _ _ _ _ _ _,World.ownsRow_nil _ _ _ _,World.ownsRow_nil _ _ _ _,qM.nil _ _ _,fun b hb=>by simp [Value.ownBlock] at hb⟩)
    have hlm:m.length=l.length:=hso.perm.length_eq
    have hlz:zz.length=l.length:=by have:=congrArg List.length hso.keys;simp at this;omega
    have hw2:w.heap.size<w2.heap.size:=hso.res.lt
    have HCE:=Lh hso.cells
    clear hso
    obtain ⟨nd,hnd⟩:∃nd,nd=l.length:=⟨_,rfl⟩
    rw [← hnd] at hlm hlz h32 hl HCE
    have HND:=Lh hnd
    obtain ⟨i1,hi1,hy0,hy1,hy2⟩:=info_parts xo
    obtain ⟨i2,hi2,hx0,hx1,hx2⟩:=info_parts yU
    rw [← hnd]
    clear hnd h32' h33'
    go_wp2_with fail
    obtain ⟨cb,hcb⟩:∃cb,cb=w2.heap.size:=⟨_,rfl⟩
    obtain ⟨W,hW⟩:∃W,W=w2.alloc (.cells #[.int .u8 5,.int .i64 0,.string ⟨#[]⟩,.slice none 0 0,.slice none 0 0] 25):=⟨_,rfl⟩
    rw [← hW] at HO HB3
    rw [← hcb] at HO
    rw [← hW,← hcb]
    have HCB:=Lh hcb
    have HWZ:=Lh (show W.heap.size=cb+1 by rw [hW,hcb];simp)
    clear hW hcb
    go_loopw [13,56] (fun _ i wr=>∃(k:Nat) (cs:List Value) (vn vi:Value),k≤nd∧i=.int .i64 k∧ObjAt2 W wr (w.heap.size+1) cb 25 9 25 vn vi ((ids m).take k) ((m.map obj2).take k) cs) (fun _ i _=>nd - (intOf i).toNat)
    case atStart=>exact ⟨0,[],.slice none 0 0,.slice none 0 0,by omega,rfl,by simpa using HO.out⟩
    case round =>
     clear HO
     obtain ⟨k,cs,vn,vi,hk,rfl,hobj⟩:=hrel
     have HOB:=Lh hobj
     have hcz:W.heap.size≤wr.heap.size:=hobj.touch.size
     have hcw:cb<wr.heap.size:=hobj.row.lt
     clear hobj
     by_cases hlt:k<nd
     · have hkz:k<zz.length:=by omega
       have hkm:k<m.length:=by omega
       obtain ⟨g,ha,hg2,hcell⟩:∃g,av=some ⟨g,0,none⟩∧g<w2.heap.size∧∀j c (hj:j<zz.length),c<6→w2.cell? ⟨g,j * 6+c,none⟩=some ((qW zz[j].1)[c]!):=by
        rcases HCE.out with h|h
        · omega
        · exact h
       subst ha
       replace hcell:∀c,c<6→wr.cell? ⟨g,k * 6+c,none⟩=some ((qW zz[k].1)[c]!):=fun c hc=>by
        rw [HOB.out.touch.cell (show g<W.heap.size by rw [HWZ.out,HCB.out];omega) (show ¬g=cb by rw [HCB.out];omega),HB3.out.cell (by exact hg2)]
        exact hcell k c hkz hc
       have y0:=hcell 0 (by decide);have y1:=hcell 1 (by decide);have y2:=hcell 2 (by decide);have y3:=hcell 3 (by decide);have y4:=hcell 4 (by decide);have y5:=hcell 5 (by decide)
       clear hcell
       obtain ⟨hnz,lo,hi,hlo,hhi,_,hrep⟩:=HSA.out.row _ (List.getElem_mem hkz)
       have hmk:m[k]=zz[k].2:=by
        have:(zz.map (·.2))[k]'(by simpa using hkz)=m[k]:=by simp only [HSA.out.keys]
        rw [← this];simp
       have HTN:=Lh (show (ids m).take (k+1)=(ids m).take k ++ [zz[k].1.name] by
        rw [List.take_succ_eq_append_getElem (by simpa [ids] using hkm),hnz];simp [ids,hmk])
       have HTI:=Lh (show (m.map obj2).take (k+1)=(m.map obj2).take k ++ [obj2 zz[k].2] by
        rw [List.take_succ_eq_append_getElem (by simpa using hkm)];simp [hmk])
       have HREP:=Lh (show Rep wr lo hi (obj2 zz[k].2) zz[k].1.val from Rep.carry lz lz (fun b h1 h2=>by rw [HOB.out.touch.block b (by rw [HWZ.out,HCB.out];omega) (by rw [HCB.out];omega),HB3.out.block b (by omega)]) _ _ hrep)
       have HHI:=Lh (show hi≤cb by rw [HCB.out];exact hhi)
       obtain ⟨pan,pcn,pai,pci,hval,_⟩:=hrep.parts
       have HVAL:=Lh hval
       clear hnz hrep hhi hmk hval
       generalize zz[k].2=kk at HTI HREP HVAL
       generalize zz[k].1=mk at y0 y1 y2 y3 y4 y5 HTN HREP HVAL
       simp only [qW,Nat.add_zero,List.getElem!_cons_zero,List.getElem!_cons_succ] at y0 y1 y2 y3 y4 y5
       have HLN:=Lh (show ((ids m).take k).length=k by simp [ids];omega)
       have HLI:=Lh (show ((m.map obj2).take k).length=k by simp;omega)
       have HN:=Lh (show wr.ownsRow W.heap.size 9 1 vn k (((ids m).take k).map .string) by have:=HOB.out.names;rwa [HLN.out] at this)
       have HBO:=Lh (show Below wr.heap.size wr (wr.alloc (.cells #[.string mk.name,.int .u8 mk.k,.int .i64 mk.n,.string mk.t,.slice mk.an mk.nn mk.cn,.slice mk.ai mk.ni mk.ci] 144)) from (Below.refl _ _).alloc lz _)
       have HO2:=Lh (HOB.out.below HBO.out)
       have c3:(wr.alloc (.cells #[.string mk.name,.int .u8 mk.k,.int .i64 mk.n,.string mk.t,.slice mk.an mk.nn mk.cn,.slice mk.ai mk.ni mk.ci] 144)).cell? ⟨cb,3,none⟩=some vn:=HO2.out.row.cell (by decide)
       have f3:(wr.alloc (.cells #[.string mk.name,.int .u8 mk.k,.int .i64 mk.n,.string mk.t,.slice mk.an mk.nn mk.cn,.slice mk.ai mk.ni mk.ci] 144)).frozen? ⟨cb,3,none⟩=false:=HO2.out.row.frozen 3
       have c4:(wr.alloc (.cells #[.string mk.name,.int .u8 mk.k,.int .i64 mk.n,.string mk.t,.slice mk.an mk.nn mk.cn,.slice mk.ai mk.ni mk.ci] 144)).cell? ⟨cb,4,none⟩=some vi:=HO2.out.row.cell (by decide)
       have f4:(wr.alloc (.cells #[.string mk.name,.int .u8 mk.k,.int .i64 mk.n,.string mk.t,.slice mk.an mk.nn mk.cn,.slice mk.ai mk.ni mk.ci] 144)).frozen? ⟨cb,4,none⟩=false:=HO2.out.row.frozen 4
       have hxb:=heap_alloc_new wr (.cells #[.string mk.name,.int .u8 mk.k,.int .i64 mk.n,.string mk.t,.slice mk.an mk.nn mk.cn,.slice mk.ai mk.ni mk.ci] 144)
       have b1:(wr.alloc (.cells #[.string mk.name,.int .u8 mk.k,.int .i64 mk.n,.string mk.t,.slice mk.an mk.nn mk.cn,.slice mk.ai mk.ni mk.ci] 144)).cell? ⟨wr.heap.size,1,none⟩=some (.int .u8 mk.k):=qq hxb rfl
       have b2:(wr.alloc (.cells #[.string mk.name,.int .u8 mk.k,.int .i64 mk.n,.string mk.t,.slice mk.an mk.nn mk.cn,.slice mk.ai mk.ni mk.ci] 144)).cell? ⟨wr.heap.size,2,none⟩=some (.int .i64 mk.n):=qq hxb rfl
       have b3:(wr.alloc (.cells #[.string mk.name,.int .u8 mk.k,.int .i64 mk.n,.string mk.t,.slice mk.an mk.nn mk.cn,.slice mk.ai mk.ni mk.ci] 144)).cell? ⟨wr.heap.size,3,none⟩=some (.string mk.t):=qq hxb rfl
       have b4:(wr.alloc (.cells #[.string mk.name,.int .u8 mk.k,.int .i64 mk.n,.string mk.t,.slice mk.an mk.nn mk.cn,.slice mk.ai mk.ni mk.ci] 144)).cell? ⟨wr.heap.size,4,none⟩=some (.slice mk.an mk.nn mk.cn):=qq hxb rfl
       have b5:(wr.alloc (.cells #[.string mk.name,.int .u8 mk.k,.int .i64 mk.n,.string mk.t,.slice mk.an mk.nn mk.cn,.slice mk.ai mk.ni mk.ci] 144)).cell? ⟨wr.heap.size,5,none⟩=some (.slice mk.ai mk.ni mk.ci):=qq hxb rfl
       have HN2:=Lh (HN.out.alloc (.cells #[.string mk.name,.int .u8 mk.k,.int .i64 mk.n,.string mk.t,.slice mk.an mk.nn mk.cn,.slice mk.ai mk.ni mk.ci] 144))
       have hz5:(wr.alloc (.cells #[.string mk.name,.int .u8 mk.k,.int .i64 mk.n,.string mk.t,.slice mk.an mk.nn mk.cn,.slice mk.ai mk.ni mk.ci] 144)).heap.size=wr.heap.size+1:=by simp
       have HNEW:=Lh (show ((wr.alloc (.cells #[.string mk.name,.int .u8 mk.k,.int .i64 mk.n,.string mk.t,.slice mk.an mk.nn mk.cn,.slice mk.ai mk.ni mk.ci] 144)).alloc (.cells #[.string mk.name] 9)).heap[wr.heap.size+1]?=some (.cells #[.string mk.name] 9 (0,0)) by have:=heap_alloc_new (wr.alloc (.cells #[.string mk.name,.int .u8 mk.k,.int .i64 mk.n,.string mk.t,.slice mk.an mk.nn mk.cn,.slice mk.ai mk.ni mk.ci] 144)) (.cells #[.string mk.name] 9);rwa [hz5] at this)
       have hnb:some cb≠vn.ownBlock:=fun e=>by have:=(HOB.out.names.lt _ e.symm).1;have:=HWZ.out;omega
       have hnx:some wr.heap.size≠vn.ownBlock:=fun e=>by have:=(HOB.out.names.lt _ e.symm).2;omega
       have hci:some cb≠vi.ownBlock:=fun e=>by have:=(HOB.out.items.lt _ e.symm).1;have:=HWZ.out;omega
       have hw5:W.heap.size≤(wr.alloc (.cells #[.string mk.name,.int .u8 mk.k,.int .i64 mk.n,.string mk.t,.slice mk.an mk.nn mk.cn,.slice mk.ai mk.ni mk.ci] 144)).heap.size:=by simp;omega
       clear hxb
       have hg3:(0:Int)≤(k:Int):=by omega
       have hg4:(k:Int)<(nd:Int):=by omega
       have hcbn:¬cb=wr.heap.size:=by omega
       go_wp2_with (at_builtin;first
        | (
         refine wpList_append_lies _ rfl (.tmp 61) (.tmp 64) 22 rfl W.heap.size 9 i2 _ 1 16 Tryz.underlying22 hi2 hx0 hx1 hx2 rfl (by decide) vn k (((ids m).take k).map .string) rfl (HN2.out.alloc _) ⟨wr.heap.size+1,0,none⟩ 1 1 [.string mk.name] rfl rfl (World.news_of_block (cs:=#[.string mk.name]) (t:=9) (fr:=(0,0)) HNEW.out) (by simp [Value.oneCell']) (by omega) (by unfold maxLen;omega) (by omega) (by simp;omega) (wr.heap.size+2) (by simp) ?_;intro g1 cap2 w6 hown6 hgrow6 hat6 hlt6
         have c36:=qH hgrow6 (by simp;omega) hnb c3;have f36:=qU hgrow6 (by simp;omega) hnb f3;have c46:=qH hgrow6 (by simp;omega) hnb c4;have f46:=qU hgrow6 (by simp;omega) hnb f4
         have d1:=qH hgrow6 (by simp) hnx b1;have d2:=qH hgrow6 (by simp) hnx b2;have d3:=qH hgrow6 (by simp) hnx b3;have d4:=qH hgrow6 (by simp) hnx b4;have d5:=qH hgrow6 (by simp) hnx b5
         have hz6:=hgrow6.size
         rw [show ((wr.alloc (.cells #[.string mk.name,.int .u8 mk.k,.int .i64 mk.n,.string mk.t,.slice mk.an mk.nn mk.cn,.slice mk.ai mk.ni mk.ci] 144)).alloc (.cells #[.string mk.name] 9)).heap.size=wr.heap.size+2 by simp] at hz6
         have HO7:=Lh (show ObjAt2 W (w6.setCell ⟨cb,3,none⟩ (.slice (some ⟨g1,0,none⟩) (k+1) cap2)) (w.heap.size+1) cb 25 9 25 (.slice (some ⟨g1,0,none⟩) (k+1) cap2) vi ((ids m).take k ++ [mk.name]) ((m.map obj2).take k) cs by
          have:=(HO2.out.below ((Below.refl _ _).alloc lz (.cells #[.string mk.name] 9))).name mk.name (g:=g1) (cap:=cap2) hgrow6 (by rcases hat6 with h|h;exact .inl h;exact .inr (by simp;omega)) (by rw [HLN.out];exact hown6)
          rwa [HLN.out] at this)
         have HI7:=Lh (show (w6.setCell ⟨cb,3,none⟩ (.slice (some ⟨g1,0,none⟩) (k+1) cap2)).ownsRow W.heap.size 25 5 vi k cs by have:=HO7.out.items;rwa [HLI.out] at this)
         have HG6:=Lh hgrow6
         clear hown6 hgrow6 hat6)
        | (
         refine wpList_append_lies _ rfl (.tmp 68) (.tmp 71) 23 rfl W.heap.size 25 i1 _ 5 80 Tryz.underlying23 hi1 hy0 hy1 hy2 rfl (by decide) vi k cs rfl (HI7.out.alloc _) ⟨w6.heap.size,0,none⟩ 1 1 [.int .u8 mk.k,.int .i64 mk.n,.string mk.t,.slice mk.an mk.nn mk.cn,.slice mk.ai mk.ni mk.ci] rfl rfl ?_ (by simp [Value.oneCell']) (by omega) (by unfold maxLen;omega) (by omega) ?_ (w6.heap.size+1) (by simp [World.setCell]) ?_
         · have:=World.news_of_block (cs:=#[.int .u8 mk.k,.int .i64 mk.n,.string mk.t,.slice mk.an mk.nn mk.cn,.slice mk.ai mk.ni mk.ci]) (t:=25) (fr:=(0,0)) (heap_alloc_new (w6.setCell ⟨cb,3,none⟩ (.slice (some ⟨g1,0,none⟩) (k+1) cap2)) (.cells #[.int .u8 mk.k,.int .i64 mk.n,.string mk.t,.slice mk.an mk.nn mk.cn,.slice mk.ai mk.ni mk.ci] 25))
           rw [show (w6.setCell ⟨cb,3,none⟩ (.slice (some ⟨g1,0,none⟩) (k+1) cap2)).heap.size=w6.heap.size by simp [World.setCell]] at this
           exact this
         · simp [World.setCell];omega
         intro g2 cap3 w8 hown8 hgrow8 hat8 hlt8
         have c48:=qH hgrow8 (by simp [World.setCell];omega) hci (HO7.out.row.cell (i:=4) (by decide));have f48:=qU hgrow8 (by simp [World.setCell];omega) hci (HO7.out.row.frozen 4)
         have HO8:=Lh hown8;have HG8:=Lh hgrow8;have HA8:=Lh hat8
         clear hown8 hgrow8 hat8))
       go_roundw
       case rel =>
        refine ⟨k+1,cs ++ [.int .u8 mk.k,.int .i64 mk.n,.string mk.t,.slice mk.an mk.nn mk.cn,.slice mk.ai mk.ni mk.ci],.slice (some ⟨g1,0,none⟩) (k+1) cap2,.slice (some ⟨g2,0,none⟩) (k+1) cap3,by omega,by go_num,?_⟩
        have hv:=HVAL.out
        simp only [Mem.val,Value.agg.injEq,Array.mk.injEq,List.cons.injEq,Value.int.injEq,Value.string.injEq,true_and,and_true] at hv
        obtain ⟨q0,q1,q2,q3,q4⟩:=hv
        have hr:=HREP.out
        unfold Mem.val at hr
        rw [q0,q1,q2,q3,q4] at hr
        have ho:=HO8.out
        rw [q0,q1,q2,q3,q4] at ho ⊢
        rw [HTN.out,HTI.out]
        have hgw:Below wr.heap.size wr ((wr.alloc (.cells #[.string mk.name,.int .u8 mk.k,.int .i64 mk.n,.string mk.t,.slice mk.an mk.nn mk.cn,.slice mk.ai mk.ni mk.ci] 144)).alloc (.cells #[.string mk.name] 9)):=HBO.out.alloc (by simp) _
        have hr7:Rep ((w6.setCell ⟨cb,3,none⟩ (.slice (some ⟨g1,0,none⟩) (k+1) cap2)).alloc (.cells #[.int .u8 (obj2 kk).kind,.int .i64 (obj2 kk).n,.string (obj2 kk).t,.slice pan (obj2 kk).names.length pcn,.slice pai (obj2 kk).items.length pci] 25)) lo hi (obj2 kk) (.agg #[.int .u8 (obj2 kk).kind,.int .i64 (obj2 kk).n,.string (obj2 kk).t,.slice pan (obj2 kk).names.length pcn,.slice pai (obj2 kk).items.length pci]):=by
         refine Rep.carry lz lz (fun b h1 h2=>?_) _ _ hr
         have:=HHI.out
         rw [Below.heap_alloc _ _ _ (by simp [World.setCell];omega),Below.heap_setCell _ _ _ _ (by show b≠cb;omega),HG6.out.block b (by simp;omega) (fun e=>by have:=(HOB.out.names.lt b e.symm).1;have:=HWZ.out;omega),hgw.block b (by omega)]
        have hob:=(HO7.out.below ((Below.refl _ _).alloc lz (.cells #[.int .u8 (obj2 kk).kind,.int .i64 (obj2 kk).n,.string (obj2 kk).t,.slice pan (obj2 kk).names.length pcn,.slice pai (obj2 kk).items.length pci] 25)))
        have hg8:=HG8.out
        rw [q0,q1,q2,q3,q4] at hg8
        have:=hob.item (it:=obj2 kk) (lo:=lo) (hi:=hi) (g:=g2) (cap:=cap3) hlo HHI.out hr7 hg8 (by rcases HA8.out with h|h;exact .inl h;exact .inr (by simp [World.setCell];omega)) (by rw [HLI.out];exact ho)
        rw [HLI.out] at this
        exact this
       case measure=>simp [intOf];omega
     · obtain rfl:k=nd:=by omega
       have hn1:(ids m).take k=ids m:=List.take_of_length_le (by simp [ids];omega)
       have hn2:(m.map obj2).take k=m.map obj2:=List.take_of_length_le (by simp;omega)
       rw [hn1,hn2] at HOB
       have HLN:=Lh (show (ids m).length=k by simp [ids];omega)
       have HLI:=Lh (show (m.map obj2).length=k by simp;omega)
       obtain ⟨an,cn,ai,ci,rfl,rfl,hrep⟩:=HOB.out.done
       have HRP:=Lh hrep
       have hrow0:=HOB.out.names
       have hrow:=HOB.out.row
       have hres:=HOB.out.touch.row (qx HB3.out HSA.out.res hw2) (by rw [HCB.out];omega)
       have hcbw:w.heap.size<cb:=by rw [HCB.out];exact hw2
       rw [HLN.out,HLI.out] at hrow
       obtain ⟨r0,r1,r2,r3,r4⟩:=rc5 hrow
       obtain ⟨t0,t1,t2,t3,t4⟩:=rc5 hres
       obtain ⟨s0,s1,s2,s3,s4⟩:=rf5 hres
       simp only [qQ] at r0 r1 r2 r3 r4 t0 t1 t2 t3 t4
       have HRS:=Lh hres
       have HBW:=Lh (show Below w.heap.size w wr from (HSA.out.below.trans (HB3.out.mono (by omega))).trans (HOB.out.touch.below (by have:=HWZ.out;omega) fun j hj e=>by omega))
       have HNM:=Lh hrow0
       clear hrow hres hrep hn1 hn2 hrow0 HOB
       go_wp2
       refine bodyPost_ret (qj Tryz.results67 _ _ w.heap.size 25 _ (0,0) _ rfl (qs (set5 _ _ _ _ _ HRS.out)) Tryz.underlying25 rfl (by kernel_rfl) _ rfl) rfl (.inr ⟨HTE.out,m,HSA.out.perm,HSA.out.rise,an,cn,ai,ci,?_,?_,zy _ _ _ _ _ HBW.out lz,?_⟩)
       · show _=Ending.returned (.tuple #[.agg #[.int .u8 5,.int .i64 0,.string ⟨#[]⟩,.slice an (ids m).length cn,.slice ai (m.map obj2).length ci],.int .i64 0])
         rw [HLN.out,HLI.out];rfl
       · exact Rep.carry (by omega) (show wr.heap.size≤_ by simp [World.setCell]) (fun j hj _=>jB _ _ _ _ _ (by omega)) _ _ HRP.out
       · exact dS (k8 (base':=w.heap.size) (zI HNM.out fun b hb=>jB _ _ _ _ _ (by have:=(HNM.out.lt b hb).1;have:=HWZ.out;omega)) (by have:=HWZ.out;omega))
end Go.Proofs.YtnlgmcapbbgelaaGreatDoor

namespace Go.Proofs.YtnlgmcapbbgelaaGreatDoor
open Go.RowKit
def tK (l:List Key2) (y s:Nat):List Key2:=(List.range s).map fun j=>l.getD ((l.length - 1 - j+y) % l.length) (⟨#[]⟩,⟨#[]⟩)
def ay (l:List Key2) (w:World) (e:Ending) (w':World):Prop :=
 ∃u:JV,(vw l=0→∃m:List Key2,m.Perm l∧ql (ids m)=true∧u=xk m)∧(vw l≠0→u=qL)∧u.wt≤4294967296∧cB u (vw l) w e w'
theorem fW (l:List Key2) (a:Option Addr) (c:Nat) (w:World) (hK:zY w 0 w.heap.size a l) (hl:l.length≤40) (hs:∀k ∈ l,k.1.size≤300∧k.2.size≤300) (hT:Tabs w) :
 Calls Tryz.prog 67 #[.slice a l.length c] w (ay l w):=by
 refine (rD l a c w hK (by omega) hs hT).mono ?_
 rintro e w' (⟨h1,rfl,hb⟩|⟨h1,m,hp,hr,hv⟩)
 · exact ⟨qL,fun h=>absurd h h1,fun _=>rfl,by decide,none,0,none,0,rfl,dN _ _ _,hb⟩
 · refine ⟨xk m,fun _=>⟨m,hp,hr,rfl⟩,fun h=>absurd h1 h,?_,by rw [h1];exact hv.val⟩
   have:=ct (m:=m) (fun k hk=>hs k (hp.subset hk))
   have:=hp.length_eq
   omega
end Go.Proofs.YtnlgmcapbbgelaaGreatDoor

namespace Go.Proofs.YtnlgmcapbbgelaaGreatDoor
open Go.RowKit Go.Shelf Go.Sort
theorem yk (t1 t2 t3:Int) (d1 d2 d3:List ByteArray) (i1 i2 i3:Option Addr) (c1 c2 c3:Nat) (w:World):(Instr.index 89 (.agg #[.int .i64 t1,.slice i1 d1.length c1,.int .i64 t2,.slice i2 d2.length c2,.int .i64 t3,.slice i3 d3.length c3]) (.int .i64 0)).run Tryz.prog w=.ok (.agg #[.int .i64 t1,.slice i1 d1.length c1]) w:=by kernel_rfl
theorem yv (t1 t2 t3:Int) (d1 d2 d3:List ByteArray) (i1 i2 i3:Option Addr) (c1 c2 c3:Nat) (w:World):(Instr.index 89 (.agg #[.int .i64 t1,.slice i1 d1.length c1,.int .i64 t2,.slice i2 d2.length c2,.int .i64 t3,.slice i3 d3.length c3]) (.int .i64 1)).run Tryz.prog w=.ok (.agg #[.int .i64 t2,.slice i2 d2.length c2]) w:=by kernel_rfl
theorem yw (t1 t2 t3:Int) (d1 d2 d3:List ByteArray) (i1 i2 i3:Option Addr) (c1 c2 c3:Nat) (w:World):(Instr.index 89 (.agg #[.int .i64 t1,.slice i1 d1.length c1,.int .i64 t2,.slice i2 d2.length c2,.int .i64 t3,.slice i3 d3.length c3]) (.int .i64 2)).run Tryz.prog w=.ok (.agg #[.int .i64 t3,.slice i3 d3.length c3]) w:=by kernel_rfl
def vx (x:Value) (w:World) (e:Ending) (w':World):Prop:=e=.returned x∧Below w.heap.size w w'
set_option maxHeartbeats 1000000 in
set_option maxRecDepth 100000 in
theorem yy (v e:Int) (l:List Key2) (t1 t2 t3:Int) (d1 d2 d3:List ByteArray) (ka i1 i2 i3:Option Addr) (kc c1 c2 c3:Nat) (w:World) :
 Calls Tryz.prog 68 #[.agg #[.int .i64 v,.int .i64 e,.slice ka l.length kc,.int .i64 t1,.slice i1 d1.length c1,.int .i64 t2,.slice i2 d2.length c2,.int .i64 t3,.slice i3 d3.length c3]] w (vx (.agg #[.int .i64 t1,.slice i1 d1.length c1,.int .i64 t2,.slice i2 d2.length c2,.int .i64 t3,.slice i3 d3.length c3]) w):=by
 go_enter Tryz.func68,Tryz.ntmps68
 go_wp2
 refine bodyPost_ret (results_cell_row Tryz.results68 _ _ (w.heap.size+1) 89 _ (0,0) _ rfl (vE w _ _) Tryz.underlying89 rfl (by kernel_rfl)) rfl ?_
 exact ⟨rfl,((Below.refl _ _).alloc lz _).alloc (by simp) _⟩
theorem n7 (a b:ByteArray):Op.bytesLess a.toList b.toList = !(Op.bytesLess b.toList a.toList || (b.toList == a.toList)):=by
 cases h1:Op.bytesLess b.toList a.toList with
 | true =>
  have:Op.bytesLess a.toList b.toList=false:=ux (a:=b) (b:=a) h1
  rw [this];rfl
 | false =>
  cases h2:Op.bytesLess a.toList b.toList with
  | true =>
   have:(b.toList == a.toList)=false:=by
    rw [beq_eq_false_iff_ne]
    intro e
    rw [e] at h2
    have:=zh a
    unfold bl at this
    rw [h2] at this;cases this
   rw [this];rfl
  | false =>
   have:b.toList=a.toList:=gQ _ _ h1 h2
   rw [this];simp
theorem n8 {k:Key2} (h:ok2 k=true):Op.bytesLess (⟨#[]⟩:ByteArray).toList (id2 k).toList=true:=by
 have h1:(id2 k).toList=jm k.1.data.toList k.2.data.toList:=by rw [ByteArray.toList_eq];rfl
 rw [h1,ByteArray.toList_eq]
 have h2:(jm k.1.data.toList k.2.data.toList).length=64:=by
  unfold jm
  rw [if_pos (by unfold ok2 at h;exact h),ve]
 cases hq:jm k.1.data.toList k.2.data.toList with
 | nil=>rw [hq] at h2;simp at h2
 | cons a r=>rfl
theorem fY {l:List Key2} (h:¬l.length≤32):zq l=false:=by unfold zq;rw [decide_eq_false h];rfl
theorem uT {l:List Key2} {k:Nat} (h:k<l.length) (hb:ok2 l[k]=false):zq l=false:=by
 unfold zq
 rw [show l.all ok2=false from List.all_eq_false.2 ⟨l[k],List.getElem_mem _,by simp [hb]⟩,Bool.and_false,Bool.false_and]
theorem fG {l:List Key2} {k:Nat} (h1:1≤k) (h:k<l.length) (hb:Op.bytesLess (id2 l[k-1]).toList (id2 l[k]).toList=false):zq l=false:=by
 unfold zq
 have hl:(ids l).length=l.length:=List.length_map ..
 rw [wL (ids l) k h1 (by omega) (by simpa [ids] using hb),Bool.and_false]
set_option maxHeartbeats 1000000 in
set_option maxRecDepth 100000 in
theorem uI (l:List Key2) (a:Option Addr) (c:Nat) (w:World) (hK:zY w 0 w.heap.size a l) (hl:l.length≤4294967296) (hs:∀k ∈ l,k.1.size≤300∧k.2.size≤300) (hT:Tabs w) :
 Calls Tryz.prog 70 #[.slice a l.length c] w fun e w'=>e=.returned (.bool (zq l))∧Below w.heap.size w w':=by
 have HK:=Lh hK
 have HT:=Lh hT
 have HS:=Lh hs
 clear hK hT hs
 obtain ⟨nn,hnn⟩:∃nn,nn=l.length:=⟨_,rfl⟩
 have HNN:=Lh hnn
 rw [← hnn] at hl ⊢
 by_cases h32:nn≤32
 case neg =>
  have HV:=Lh (fY (l:=l) (by omega))
  have d1:decide (32<(nn:Int))=true:=by simp;omega
  clear hnn
  go_enter Tryz.func70,Tryz.ntmps70
  go_wp2
  go_ret
  exact ⟨qw HV.out.symm,Below.refl _ _⟩
 have d1:decide (32<(nn:Int))=false:=by simp;omega
 clear hnn
 go_enter Tryz.func70,Tryz.ntmps70
 go_wp2
 go_loopw [3,5,6,7,13] (fun ls _ _ _ i wr=>∃(k:Nat) (s:ByteArray),k≤nn∧i=.int .i64 k∧ls=.string s∧(∀j (h:j<l.length),j<k→ok2 l[j]=true)∧ql ((ids l).take k)=true∧(k=0→s=⟨#[]⟩)∧(∀h:k - 1<l.length,1≤k→s=id2 l[k-1])∧Below w.heap.size w wr) (fun _ _ _ _ i _=>nn - (intOf i).toNat)
 case atStart=>exact ⟨0,⟨#[]⟩,by omega,rfl,rfl,fun j _ h=>by omega,rfl,fun _=>rfl,fun _ h=>by omega,Below.refl _ _⟩
 case round =>
  obtain ⟨k,s,hk,rfl,rfl,hal,hri,hs0,hs1,hbel⟩:=hrel
  have HAL:=Lh hal
  have HRI:=Lh hri
  have HS0:=Lh hs0
  have HS1:=Lh hs1
  have HB:=Lh hbel
  clear hal hri hs0 hs1 hbel
  have hll:(ids l).length=l.length:=List.length_map ..
  have HLL:=Lh hll
  clear hll
  by_cases hlt:k<nn
  · have hlt':k<l.length:=by rw [← HNN.out];exact hlt
    obtain ⟨b,off,ha,_,hb,e0,e1⟩:=(HK.out.below HB.out lz lz HB.out.size).at k hlt'
    subst ha
    have hsz:=HS.out l[k] (List.getElem_mem hlt')
    have HBAD:=Lh (uT (l:=l) hlt')
    have HFALL:=Lh (fun h1=>fG (l:=l) (k:=k) h1 hlt')
    have HPOS:=Lh (@n8 l[k])
    have HNX:=Lh (show ok2 l[k]=true→(k=0∨Op.bytesLess s.toList (id2 l[k]).toList=true)→(∀j (h:j<l.length),j<k+1→ok2 l[j]=true)∧ql ((ids l).take (k+1))=true∧(∀h:k+1 - 1<l.length,1≤k+1→id2 l[k]=id2 l[k+1-1]) from fun ho hle=>by
     refine ⟨fun j hj hjk=>?_,?_,fun _ _=>rfl⟩
     · rcases Nat.lt_succ_iff_lt_or_eq.1 hjk with h1|h1
       · exact HAL.out j hj h1
       · subst h1;exact ho
     · rcases Nat.eq_zero_or_pos k with h0|h0
       · subst h0
         have hl0:(ids l).length=l.length:=HLL.out
         cases hq:ids l with
         | nil=>rfl
         | cons x r=>rfl
       · rw [jN (ids l) k h0 (by have:=HLL.out;omega),HRI.out,Bool.true_and]
         have h3:=hle.resolve_left (by omega)
         rw [HS1.out (by omega) h0] at h3
         simpa [ids] using h3)
    have HFL:=Lh (show 1≤k→Op.bytesLess s.toList (id2 l[k]).toList=false→zq l=false from fun h1 h2=>HFALL.out h1 (by rw [← HS1.out (by omega) h1];exact h2))
    have HZ:=Lh (show ok2 l[k]=true→k=0→Op.bytesLess s.toList (id2 l[k]).toList=true from fun h1 h2=>by rw [HS0.out h2];exact HPOS.out h1)
    obtain ⟨x,hx⟩:∃x:Key2,x=l[k]:=⟨_,rfl⟩
    have HXE:=Lh (show id2 x=id2 l[k] by rw [hx])
    replace e0:=e0.trans (congrArg (fun z:Key2=>some (Value.string z.1)) hx.symm)
    replace e1:=e1.trans (congrArg (fun z:Key2=>some (Value.string z.2)) hx.symm)
    rw [← hx] at hsz HBAD HNX HFL HZ
    clear hx HFALL HPOS HAL HS0 HS1 HRI
    obtain ⟨xs,xp⟩:=x
    replace e0:wr.cell? ⟨b,off+k * 2,none⟩=some (.string xs):=e0
    replace e1:wr.cell? ⟨b,off+k * 2+1,none⟩=some (.string xp):=e1
    have hs1:xs.size≤300:=hsz.1
    have hs2:xp.size≤300:=hsz.2
    obtain ⟨WX,hWX⟩:∃WX,WX=wr.alloc (.cells #[.string xs,.string xp] 38):=⟨_,rfl⟩
    have hbX:Below wr.heap.size wr WX:=by rw [hWX];exact (Below.refl _ _).alloc lz _
    have hxX:WX.heap[wr.heap.size]?=some (.cells #[.string xs,.string xp] 38 (0,0)):=by rw [hWX];exact heap_alloc_new wr _
    have HBX:=Lh (HB.out.trans (hbX.mono HB.out.size))
    have HID:=Lh (cJ xs xp WX (by omega) (by omega) (HT.out.below HBX.out))
    unfold xE at HID
    have HWX:=Lh hWX
    have z0:WX.cell? ⟨wr.heap.size,0,none⟩=some (.string xs):=qq hxX rfl
    have z1:WX.cell? ⟨wr.heap.size,1,none⟩=some (.string xp):=qq hxX rfl
    obtain ⟨ID,hID⟩:∃ID:ByteArray,ID=⟨(jm xs.data.toList xp.data.toList).toArray⟩:=⟨_,rfl⟩
    rw [← hID] at HID
    have e2:id2 (xs,xp)=ID:=hID.symm
    have HIX:=Lh (show ID=id2 l[k] from e2.symm.trans HXE.out)
    rw [e2] at HNX HFL HZ
    have HOK:=Lh (show ok2 (xs,xp)=zl xs.data.toList xp.data.toList from rfl)
    obtain ⟨ok,hok⟩:∃ok,ok=zl xs.data.toList xp.data.toList:=⟨_,rfl⟩
    rw [← hok] at HOK HID
    rw [HOK.out] at HBAD HNX HZ
    clear hbX hxX hWX hsz hID e2 hok HOK
    go_upto_region 7 with fail
    rw [← HWX.out]
    clear e0 e1
    go_wp2_with fail
    refine HID.out.mono ?_
    clear HID z0 z1
    rintro r w3 ⟨rfl,hb3⟩
    have HB3:=Lh (HBX.out.trans (hb3.mono HBX.out.size))
    clear hb3
    cases ok with
    | false =>
     have HV:=Lh (HBAD.out rfl)
     go_wp2
     go_ret
     exact ⟨qw HV.out.symm,HB3.out⟩
    | true =>
     have HLE:=Lh (n7 s ID)
     cases lt:Op.bytesLess ID.toList s.toList with
     | true =>
      rw [lt,Bool.true_or] at HLE
      have HV:=Lh (show zq l=false from by
       rcases Nat.eq_zero_or_pos k with h0|h0
       · have:=HZ.out rfl h0;rw [HLE.out] at this;cases this
       · exact HFL.out h0 (by rw [HLE.out];rfl))
      go_wp2
      go_ret
      exact ⟨qw HV.out.symm,HB3.out⟩
     | false =>
      cases eqq:(ID.toList == s.toList) with
      | true =>
       rw [lt,eqq] at HLE
       have HV:=Lh (show zq l=false from by
        rcases Nat.eq_zero_or_pos k with h0|h0
        · have:=HZ.out rfl h0;rw [HLE.out] at this;cases this
        · exact HFL.out h0 (by rw [HLE.out];rfl))
       go_wp2
       go_ret
       exact ⟨qw HV.out.symm,HB3.out⟩
      | false =>
       rw [lt,eqq] at HLE
       have HN:=Lh (HNX.out rfl (.inr HLE.out))
       go_wp2
       go_roundw
       case rel =>
        exact ⟨k+1,ID,by omega,by go_num,rfl,HN.out.1,HN.out.2.1,fun h=>by omega,fun _ _=>HIX.out,HB3.out⟩
       case measure=>simp [intOf];omega
  · obtain rfl:k=nn:=by omega
    have HV:=Lh (show zq l=true from by
     refine zV.2 ⟨by rw [← HNN.out];exact h32,fun x hx=>?_,?_⟩
     · obtain ⟨j,hj,rfl⟩:=List.getElem_of_mem hx
       exact HAL.out j hj (by rw [HNN.out];exact hj)
     · have:=HRI.out
       rwa [List.take_of_length_le (by rw [HLL.out,HNN.out];exact Nat.le_refl _)] at this)
    go_wp2
    go_ret
    exact ⟨qw HV.out.symm,HB.out⟩
theorem mA (r:RootV):qD r=(decide (1≤r.ver∧r.ver≤1099511627776) && (decide (0≤r.exp∧r.exp≤253402300799) && (zq r.keys && (qZ r.au.a && (qZ r.au.b && qZ r.au.c))))):=by
 unfold qD px
 simp only [Bool.and_assoc]
set_option maxHeartbeats 2000000 in
set_option maxRecDepth 100000 in
theorem fB (v e:Int) (l:List Key2) (t1 t2 t3:Int) (d1 d2 d3:List ByteArray) (ka i1 i2 i3:Option Addr) (kc c1 c2 c3:Nat) (w:World) (hI:RootIn w 0 w.heap.size ⟨v,e,l,⟨⟨t1,d1⟩,⟨t2,d2⟩,⟨t3,d3⟩⟩⟩ ka i1 i2 i3) (hf:RootFits ⟨v,e,l,⟨⟨t1,d1⟩,⟨t2,d2⟩,⟨t3,d3⟩⟩⟩) (hT:Tabs w) (hTW:TabW w) (hP:zo w) :
 Calls Tryz.prog 24 #[.agg #[.int .i64 v,.int .i64 e,.slice ka l.length kc,.int .i64 t1,.slice i1 d1.length c1,.int .i64 t2,.slice i2 d2.length c2,.int .i64 t3,.slice i3 d3.length c3]] w fun r w'=>r=.returned (.bool (qD ⟨v,e,l,⟨⟨t1,d1⟩,⟨t2,d2⟩,⟨t3,d3⟩⟩⟩))∧Below w.heap.size w w':=by
 obtain ⟨W,hW⟩:∃W,W=w.alloc (.cells #[.int .i64 v,.int .i64 e,.slice ka l.length kc,.int .i64 t1,.slice i1 d1.length c1,.int .i64 t2,.slice i2 d2.length c2,.int .i64 t3,.slice i3 d3.length c3] 32):=⟨_,rfl⟩
 have hb:Below w.heap.size w W:=by rw [hW];exact (Below.refl _ _).alloc lz _
 have hx:W.heap[w.heap.size]?=some (.cells #[.int .i64 v,.int .i64 e,.slice ka l.length kc,.int .i64 t1,.slice i1 d1.length c1,.int .i64 t2,.slice i2 d2.length c2,.int .i64 t3,.slice i3 d3.length c3] 32 (0,0)):=by rw [hW];exact heap_alloc_new w _
 have HV:=Lh (mA ⟨v,e,l,⟨⟨t1,d1⟩,⟨t2,d2⟩,⟨t3,d3⟩⟩⟩)
 have HI:=Lh (show ∀w':World,Below w.heap.size w w'→RootIn w' 0 w'.heap.size ⟨v,e,l,⟨⟨t1,d1⟩,⟨t2,d2⟩,⟨t3,d3⟩⟩⟩ ka i1 i2 i3 from fun w' h=>hI.below h lz lz h.size)
 have HF:=Lh hf
 have HT:=Lh (show ∀w':World,Below w.heap.size w w'→Tabs w'∧TabW w'∧zo w' from fun w' h=>⟨hT.below h,hTW.below h,hP.below h⟩)
 have HB:=Lh hb
 have HX:=Lh hx
 have HW:=Lh hW
 clear hI hf hT hTW hP hb hx hW
 have q0:=qq HX.out (j:=0) rfl
 obtain ⟨m0,hm0⟩:∃m0,m0=qD ⟨v,e,l,⟨⟨t1,d1⟩,⟨t2,d2⟩,⟨t3,d3⟩⟩⟩:=⟨_,rfl⟩
 rw [← hm0] at HV ⊢
 clear hm0
 dsimp only at HV
 by_cases h1:v<1
 · have f1:decide (v<1)=true:=by simpa using h1
   rw [decide_eq_false (by omega),Bool.false_and] at HV
   go_enter Tryz.func24,Tryz.ntmps24
   go_upto_region 1 with fail
   rw [← HW.out]
   go_wp2
   go_ret
   exact ⟨qw HV.out.symm,HB.out⟩
 have f1:decide (v<1)=false:=by simpa using h1
 by_cases h2:1099511627776<v
 · have f2:decide (1099511627776<v)=true:=by simpa using h2
   rw [decide_eq_false (by omega),Bool.false_and] at HV
   go_enter Tryz.func24,Tryz.ntmps24
   go_upto_region 1 with fail
   rw [← HW.out]
   go_wp2
   go_ret
   exact ⟨qw HV.out.symm,HB.out⟩
 have f2:decide (1099511627776<v)=false:=by simpa using h2
 rw [decide_eq_true (by omega),Bool.true_and] at HV
 have q1:=qq HX.out (j:=1) rfl
 have HSH:=Lh (hF e W (HT.out W HB.out).2.1 (HT.out W HB.out).2.2)
 have HSE:=Lh (show vh e=if 0≤e∧e≤253402300799 then 0 else 1 from rfl)
 obtain ⟨se,hse⟩:∃se,se=vh e:=⟨_,rfl⟩
 obtain ⟨ss,hss⟩:∃ss,ss=vu e:=⟨_,rfl⟩
 rw [← hse,← hss] at HSH
 rw [← hse] at HSE
 clear h1 h2 hse hss
 go_enter Tryz.func24,Tryz.ntmps24
 go_upto_region 1 with fail
 rw [← HW.out]
 clear HW
 go_wp2_with fail
 refine HSH.out.mono ?_
 clear HSH q0 q1
 rintro r w1 ⟨rfl,hb1⟩
 have HB1:=Lh (HB.out.trans (hb1.mono HB.out.size))
 have HX1:=Lh ((hb1.block _ (qz HX.out)).trans HX.out)
 clear hb1
 by_cases h3:0≤e∧e≤253402300799
 case neg =>
  have hse:se=1:=by rw [HSE.out,if_neg h3]
  subst hse
  rw [decide_eq_false h3,Bool.false_and] at HV
  clear h3
  go_wp2
  go_ret
  exact ⟨qw HV.out.symm,HB1.out⟩
 have hse:se=0:=by rw [HSE.out,if_pos h3]
 subst hse
 rw [decide_eq_true h3,Bool.true_and] at HV
 clear h3
 have q2:=qq HX1.out (j:=2) rfl
 have HKM:=Lh (uI l ka kc w1 (HI.out w1 HB1.out).keys (by have:l.length≤40:=HF.out.len;omega) HF.out.keys (HT.out w1 HB1.out).1)
 obtain ⟨mk,hmk⟩:∃mk,mk=zq l:=⟨_,rfl⟩
 rw [← hmk] at HKM HV
 clear hmk
 go_wp2_with fail
 refine HKM.out.mono ?_
 clear HKM q2
 rintro r w2 ⟨rfl,hb2⟩
 have HB2:=Lh (HB1.out.trans (hb2.mono HB1.out.size))
 have HX2:=Lh ((hb2.block _ (qz HX1.out)).trans HX1.out)
 clear hb2
 cases mk with
 | false =>
  rw [Bool.false_and] at HV
  go_wp2
  go_ret
  exact ⟨qw HV.out.symm,HB2.out⟩
 | true =>
  rw [Bool.true_and] at HV
  have HAU:=Lh (yy v e l t1 t2 t3 d1 d2 d3 ka i1 i2 i3 kc c1 c2 c3 w2)
  unfold vx at HAU
  obtain ⟨q0,q1,q2,q3,q4,q5,q6,q7,q8⟩:=bx9 HX2.out
  go_wp2_with fail
  refine HAU.out.mono ?_
  clear HAU q0 q1 q2 q3 q4 q5 q6 q7 q8
  rintro r w3 ⟨rfl,hb3⟩
  have HB3:=Lh (HB2.out.trans (hb3.mono HB2.out.size))
  clear hb3 HX HX1 HX2
  go_wp2
  go_loopw [6,29] (fun _ i wr=>Below w.heap.size w wr∧((i=.int .i64 0)∨(i=.int .i64 1∧qZ ⟨t1,d1⟩=true)∨(i=.int .i64 2∧qZ ⟨t1,d1⟩=true∧qZ ⟨t2,d2⟩=true)∨(i=.int .i64 3∧qZ ⟨t1,d1⟩=true∧qZ ⟨t2,d2⟩=true∧qZ ⟨t3,d3⟩=true))) (fun _ i _=>3 - (intOf i).toNat)
  case atStart=>exact ⟨HB3.out,.inl rfl⟩
  case round =>
   obtain ⟨hbr,hcase⟩:=hrel
   have HBR:=Lh hbr
   clear hbr
   rcases hcase with rfl|⟨rfl,ha⟩|⟨rfl,ha,hb⟩|⟨rfl,ha,hb,hc⟩
   · have HH:=Lh (show True from trivial)
     skip
     obtain ⟨WX,hWX⟩:∃WX,WX=wr.alloc (.cells #[.int .i64 t1,.slice i1 d1.length c1] 30):=⟨_,rfl⟩
     have hbX:Below wr.heap.size wr WX:=by rw [hWX];exact (Below.refl _ _).alloc lz _
     have hxX:WX.heap[wr.heap.size]?=some (.cells #[.int .i64 t1,.slice i1 d1.length c1] 30 (0,0)):=by rw [hWX];exact heap_alloc_new wr _
     have HBX:=Lh (HBR.out.trans (hbX.mono HBR.out.size))
     have HAM:=Lh (yR t1 d1 i1 c1 WX (HI.out WX HBX.out).a HF.out.a.2.2)
     obtain ⟨mb,hmb⟩:∃mb,mb=jf t1 d1:=⟨_,rfl⟩
     rw [← hmb] at HAM
     have HMB:=Lh (show qZ ⟨t1,d1⟩=mb by rw [hmb];rfl)
     have z0:=qq hxX (j:=0) rfl
     have z1:=qq hxX (j:=1) rfl
     have HWX:=Lh hWX
     have ix:=yk t1 t2 t3 d1 d2 d3 i1 i2 i3 c1 c2 c3
     clear hWX hbX hxX hmb
     go_upto_region 11 with fail
     rw [← HWX.out]
     go_wp2_with fail
     refine HAM.out.mono ?_
     clear HAM z0 z1
     rintro r w5 ⟨rfl,hb5⟩
     have HB5:=Lh (HBX.out.trans (hb5.mono HBX.out.size))
     clear hb5
     cases mb with
     | false =>
      have HV2:=Lh (show m0=false by
       rw [HV.out,HMB.out]
       simp)
      go_wp2
      go_ret
      exact ⟨qw HV2.out.symm,HB5.out⟩
     | true =>
      go_wp2
      go_roundw
      case rel=>exact ⟨HB5.out,.inr (.inl ⟨rfl,HMB.out⟩)⟩
      case measure=>simp [intOf]
   · have HH:=Lh (show True ∧qZ ⟨t1,d1⟩=true from ⟨trivial,ha⟩)
     clear ha
     obtain ⟨WX,hWX⟩:∃WX,WX=wr.alloc (.cells #[.int .i64 t2,.slice i2 d2.length c2] 30):=⟨_,rfl⟩
     have hbX:Below wr.heap.size wr WX:=by rw [hWX];exact (Below.refl _ _).alloc lz _
     have hxX:WX.heap[wr.heap.size]?=some (.cells #[.int .i64 t2,.slice i2 d2.length c2] 30 (0,0)):=by rw [hWX];exact heap_alloc_new wr _
     have HBX:=Lh (HBR.out.trans (hbX.mono HBR.out.size))
     have HAM:=Lh (yR t2 d2 i2 c2 WX (HI.out WX HBX.out).b HF.out.b.2.2)
     obtain ⟨mb,hmb⟩:∃mb,mb=jf t2 d2:=⟨_,rfl⟩
     rw [← hmb] at HAM
     have HMB:=Lh (show qZ ⟨t2,d2⟩=mb by rw [hmb];rfl)
     have z0:=qq hxX (j:=0) rfl
     have z1:=qq hxX (j:=1) rfl
     have HWX:=Lh hWX
     have ix:=yv t1 t2 t3 d1 d2 d3 i1 i2 i3 c1 c2 c3
     clear hWX hbX hxX hmb
     go_upto_region 11 with fail
     rw [← HWX.out]
     go_wp2_with fail
     refine HAM.out.mono ?_
     clear HAM z0 z1
     rintro r w5 ⟨rfl,hb5⟩
     have HB5:=Lh (HBX.out.trans (hb5.mono HBX.out.size))
     clear hb5
     cases mb with
     | false =>
      have HV2:=Lh (show m0=false by
       obtain ⟨-,g0⟩:=HH.out
       rw [HV.out,g0,HMB.out]
       simp)
      go_wp2
      go_ret
      exact ⟨qw HV2.out.symm,HB5.out⟩
     | true =>
      go_wp2
      go_roundw
      case rel=>exact ⟨HB5.out,.inr (.inr (.inl ⟨rfl,HH.out.2,HMB.out⟩))⟩
      case measure=>simp [intOf]
   · have HH:=Lh (show True ∧qZ ⟨t1,d1⟩=true∧qZ ⟨t2,d2⟩=true from ⟨trivial,ha,hb⟩)
     clear ha hb
     obtain ⟨WX,hWX⟩:∃WX,WX=wr.alloc (.cells #[.int .i64 t3,.slice i3 d3.length c3] 30):=⟨_,rfl⟩
     have hbX:Below wr.heap.size wr WX:=by rw [hWX];exact (Below.refl _ _).alloc lz _
     have hxX:WX.heap[wr.heap.size]?=some (.cells #[.int .i64 t3,.slice i3 d3.length c3] 30 (0,0)):=by rw [hWX];exact heap_alloc_new wr _
     have HBX:=Lh (HBR.out.trans (hbX.mono HBR.out.size))
     have HAM:=Lh (yR t3 d3 i3 c3 WX (HI.out WX HBX.out).c HF.out.c.2.2)
     obtain ⟨mb,hmb⟩:∃mb,mb=jf t3 d3:=⟨_,rfl⟩
     rw [← hmb] at HAM
     have HMB:=Lh (show qZ ⟨t3,d3⟩=mb by rw [hmb];rfl)
     have z0:=qq hxX (j:=0) rfl
     have z1:=qq hxX (j:=1) rfl
     have HWX:=Lh hWX
     have ix:=yw t1 t2 t3 d1 d2 d3 i1 i2 i3 c1 c2 c3
     clear hWX hbX hxX hmb
     go_upto_region 11 with fail
     rw [← HWX.out]
     go_wp2_with fail
     refine HAM.out.mono ?_
     clear HAM z0 z1
     rintro r w5 ⟨rfl,hb5⟩
     have HB5:=Lh (HBX.out.trans (hb5.mono HBX.out.size))
     clear hb5
     cases mb with
     | false =>
      have HV2:=Lh (show m0=false by
       obtain ⟨-,g0,g1⟩:=HH.out
       rw [HV.out,g0,g1,HMB.out]
       simp)
      go_wp2
      go_ret
      exact ⟨qw HV2.out.symm,HB5.out⟩
     | true =>
      go_wp2
      go_roundw
      case rel=>exact ⟨HB5.out,.inr (.inr (.inr ⟨rfl,HH.out.2.1,HH.out.2.2,HMB.out⟩))⟩
      case measure=>simp [intOf]
   · rw [ha,hb,hc,Bool.true_and,Bool.true_and] at HV
     clear ha hb hc
     go_wp2
     go_ret
     exact ⟨qw HV.out.symm,HBR.out⟩
end Go.Proofs.YtnlgmcapbbgelaaGreatDoor

namespace Go.Proofs.YtnlgmcapbbgelaaGreatDoor
open Go.RowKit
def bY (v:JV) (w:World) (e:Ending) (w':World):Prop :=
 ∃val,e=.returned (.tuple #[val,.int .i64 (zL v).2])∧w'.ownsRow w.heap.size 38 2 val (zL v).1.length ((zL v).1.flatMap wM)∧Below w.heap.size w w'
theorem n9 {m:List Key2} (hok:∀k ∈ m,ok2 k=true) (hr:ql (ids m)=true) (hl:m.length≤32):vw m=0:=by
 unfold vw
 rw [if_neg (by omega)]
 exact (kD m []).2 ⟨hok,by simp,us hr⟩
end Go.Proofs.YtnlgmcapbbgelaaGreatDoor
