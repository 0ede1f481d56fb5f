/- Weights; what key.Table tells of keys that may be; the contract of deleg.object. Printed by gendelegobj2.py. -/
import Derived.Test.YthgembbgcbaghaaGreatDoorDa36
import Derived.Test.YthgembbgcbaghaaGreatDoorDa32
import Derived.Test.YthgembbgcbaghaaGreatDoorDa35

namespace Go.Proofs.YthgembbgcbaghaaGreatDoor
open Go.RowKit
def dv (u:JV) (er:Int) (w:World) (e:Ending) (w':World):Prop :=
 ∃an cn ai ci,e=.returned (.tuple #[.agg #[.int .u8 u.kind,.int .i64 u.n,.string u.t,.slice an u.names.length cn,.slice ai u.items.length ci],.int .i64 er]) ∧
  Rep w' w.heap.size w'.heap.size u (.agg #[.int .u8 u.kind,.int .i64 u.n,.string u.t,.slice an u.names.length cn,.slice ai u.items.length ci])∧Below w.heap.size w w'
theorem lK (w:World) (lo hi:Nat):Rep w lo hi zx zeroAgg:=by
 unfold zx Rep;exact ⟨none,0,none,0,rfl,Nat.le_refl _,Nat.le_refl _,.inl rfl,.inl rfl⟩
end Go.Proofs.YthgembbgcbaghaaGreatDoor

namespace Go.Proofs.YthgembbgcbaghaaGreatDoor
open Go.RowKit Go.Shelf Go.Sort
theorem lV {w:World} {base e n cn:Nat} {an:Option Addr} {xs:List Value} (h:w.ownsRow base e 1 (.slice an n cn) n xs):n=0∨∃b,an=some ⟨b,0,none⟩∧base≤b∧mt w b 0 n:=by
 rcases h.2 with ⟨_,h0⟩|⟨g,cap,cur,hv,hg,hh,hc,_,hs,_⟩
 · exact .inl h0
 · simp only [Value.slice.injEq,true_and] at hv
   obtain ⟨rfl,rfl⟩:=hv
   exact .inr ⟨g,rfl,hg,cur,e,hh,by rw [hs];omega⟩
def fJ (u:JV) (er:Int) (w:World) (e:Ending) (w':World):Prop :=
 ∃an cn ai ci,e=.returned (.tuple #[.agg #[.int .u8 u.kind,.int .i64 u.n,.string u.t,.slice an u.names.length cn,.slice ai u.items.length ci],.int .i64 er]) ∧
  Rep w' w.heap.size w'.heap.size u (.agg #[.int .u8 u.kind,.int .i64 u.n,.string u.t,.slice an u.names.length cn,.slice ai u.items.length ci])∧Below w.heap.size w w' ∧
  (u.names.length=0∨∃b,an=some ⟨b,0,none⟩∧w.heap.size≤b∧mt w' b 0 u.names.length)
theorem fJ.val {u:JV} {er:Int} {w:World} {e:Ending} {w':World} (h:fJ u er w e w'):dv u er w e w':=by
 obtain ⟨an,cn,ai,ci,h1,h2,h3,_⟩:=h
 exact ⟨an,cn,ai,ci,h1,h2,h3⟩
def sS (l:List Key2) (w:World) (e:Ending) (w':World):Prop :=
 (vK l≠0∧e=.returned (.tuple #[zeroAgg,.int .i64 (vK l)])∧Below w.heap.size w w') ∨
 (vK l=0∧∃m:List Key2,m.Perm l∧qe (ids m)=true∧fJ (qT m) 0 w e w')
structure TabAt (w wr:World) (v:Value) (l:List Key2) (k:Nat) (zs:List (Mem × Key2)):Prop where
 below:Below w.heap.size w wr
 res:wr.rowIs w.heap.size 25 5 (qQ (.int .u8 0) (.int .i64 0) (.string ⟨#[]⟩) (.slice none 0 0) (.slice none 0 0))
 own:wr.ownsRow (w.heap.size+1) 120 6 v k ((zs.map (·.1)).flatMap qV)
 row:xj wr (w.heap.size+1) (fun b=>v.ownBlock=some b) zs
 keys:zs.map (·.2)=l.take k
 err:xH [] l=xH (ids (l.take k)) (l.drop k)
theorem TabAt.later {w wr w':World} {v:Value} {l:List Key2} {k:Nat} {zs:List (Mem × Key2)} (h:TabAt w wr v l k zs) (hb:Below wr.heap.size wr w'):TabAt w w' v l k zs where
 below:=h.below.trans (hb.mono h.below.size)
 res:=qj hb h.res h.res.lt
 own:=qB h.own hb
 row:=h.row.carry hb.size (fun b hb' _ _=>hb.block b hb') (fun _ hx=>.inl hx)
 keys:=h.keys
 err:=h.err
theorem TabAt.len {w wr:World} {v:Value} {l:List Key2} {k:Nat} {zs:List (Mem × Key2)} (h:TabAt w wr v l k zs) (hk:k≤l.length):zs.length=k:=by
 have:=congrArg List.length h.keys
 simpa [hk] using this
theorem TabAt.slice {w wr:World} {v:Value} {l:List Key2} {k:Nat} {zs:List (Mem × Key2)} (h:TabAt w wr v l k zs) (hk:k≤l.length):(v=.slice none 0 0∧k=0)∨∃g cap,v=.slice (some ⟨g,0,none⟩) k cap∧w.heap.size<g∧g<wr.heap.size∧k≤cap ∧
 ∀j c (hj:j<zs.length),c<6→wr.cell? ⟨g,j * 6+c,none⟩=some ((qV zs[j].1)[c]!):=by
 have hl:=h.len hk
 rcases h.own.2 with ⟨rfl,h0⟩|⟨g,cap,cur,rfl,hg,hh,hc,_⟩
 · exact .inl ⟨rfl,h0⟩
 · refine .inr ⟨g,cap,rfl,by omega,qx hh,hc,fun j c hj hc6=>?_⟩
   have hf:=flat_get (ms:=zs.map (·.1)) j c (by simpa using hj) hc6
   have hcc:=h.own.cells (g:=g) rfl (j * 6+c) _ hf
   have ea:(⟨g,0,none⟩:Addr).add (j * 6+c)=⟨g,j * 6+c,none⟩:=by unfold Addr.add;split <;> simp_all
   rw [ea] at hcc
   simpa using hcc
theorem lW:(Tryz.prog.info? 120).map (fun i=>(i.zero,i.size,i.bytes))=some (some (.agg #[.string ⟨#[]⟩,.int .u8 0,.int .i64 0,.string ⟨#[]⟩,.slice none 0 0,.slice none 0 0]),6,96):=by kernel_rfl
theorem TabAt.snoc {w wr wo w4:World} {v:Value} {l:List Key2} {k g cap lo hi:Nat} {zs:List (Mem × Key2)} (x:Mem) (h:TabAt w wr v l k zs) (hk:k<l.length) (hbo:Below wr.heap.size wr wo)
 (hn:x.name=id2 l[k]) (hok:ok2 l[k]=true) (hnew:xW (ids (l.take k)) (id2 l[k])=false)
 (hlo:wr.heap.size≤lo) (hhi:hi≤wo.heap.size) (hr:Rep wo lo hi (obj2 l[k]) x.val)
 (hg:wo.grownBy w4 v.ownBlock) (hat:v.ownBlock=some g∨wo.heap.size≤g)
 (ho:w4.ownsRow (w.heap.size+1) 120 6 (.slice (some ⟨g,0,none⟩) (k+1) cap) (k+1) ((zs.map (·.1)).flatMap qV ++ qV x)) :
 TabAt w w4 (.slice (some ⟨g,0,none⟩) (k+1) cap) l (k+1) (zs ++ [(x,l[k])]):=by
 have hw0:=h.res.lt
 have hown:∀b,v.ownBlock=some b→w.heap.size+1≤b∧b<wr.heap.size:=fun b hb=>h.own.lt b hb
 have hz1:=hbo.size
 have hz2:=hg.size
 have s1:∀b,b<wr.heap.size→v.ownBlock≠some b→w4.heap[b]?=wr.heap[b]?:=fun b hb hne=>by rw [hg.block b (by omega) (fun e=>hne e.symm)];exact hbo.block b hb
 have hgb:∀b,(Value.slice (some ⟨g,0,none⟩) (k+1) cap).ownBlock=some b→b=g:=fun b hb=>by simp [Value.ownBlock] at hb;exact hb.symm
 refine ⟨⟨?_,?_,?_,by have:=h.below.size;omega,fun b hb=>?_⟩,h.res.of_block (s1 _ hw0 (fun e=>by have:=(hown _ e).1;omega)),?_,?_,?_,?_⟩
 · rw [hg.os,hbo.os,h.below.os]
 · rw [hg.tape,hbo.tape,h.below.tape]
 · rw [hg.output,hbo.output,h.below.output]
 · rw [s1 b (by omega) (fun e=>by have:=(hown _ e).1;omega)];exact h.below.block b hb
 · simpa [List.flatMap_append] using ho
 · refine xj.snoc (h.row.carry (by omega) (fun b hb hne _=>s1 b hb hne) fun b hx=>?_) x l[k] lo hi hn (by omega) (by omega) (fun b hx hb=>?_) (Rep.carry lz lz (fun b h1 h2=>hg.block b (by omega) (fun e=>by have:=(hown b e.symm).2;omega)) _ _ hr)
   · rw [hgb b hx]
     rcases hat with ha|ha
     · exact .inl ha
     · exact .inr (.inl (by omega))
   · rw [hgb b hx] at hb
     rcases hat with ha|ha
     · have:=(hown g ha).2;omega
     · omega
 · rw [List.map_append,h.keys,List.take_succ_eq_append_getElem hk];rfl
 · rw [h.err,y6 l k hk,if_pos hok,if_neg (by rw [hnew];simp)]
theorem TabAt.sliced {w wr:World} {v:Value} {l:List Key2} {k:Nat} {zs:List (Mem × Key2)} (h:TabAt w wr v l k zs) (hk:k≤l.length):∃av cap,v=.slice av k cap∧((k=0∧av=none∧cap=0)∨∃g,av=some ⟨g,0,none⟩∧w.heap.size<g∧g<wr.heap.size ∧
 ∀j c (hj:j<zs.length),c<6→wr.cell? ⟨g,j * 6+c,none⟩=some ((qV zs[j].1)[c]!)):=by
 rcases h.slice hk with ⟨rfl,rfl⟩|⟨g,cap,rfl,h1,h2,_,h4⟩
 · exact ⟨none,0,rfl,.inl ⟨rfl,rfl,rfl⟩⟩
 · exact ⟨_,cap,rfl,.inr ⟨g,rfl,h1,h2,h4⟩⟩
theorem TabAt.names {w wr:World} {v:Value} {l:List Key2} {k:Nat} {zs:List (Mem × Key2)} (h:TabAt w wr v l k zs):ids (l.take k)=zs.map (fun z=>z.1.name):=by
 rw [← h.keys]
 unfold ids
 rw [List.map_map]
 exact List.map_congr_left fun z hz=>(h.row z hz).1.symm
theorem TabAt.hit {w wr:World} {v:Value} {l:List Key2} {k:Nat} {zs:List (Mem × Key2)} (h:TabAt w wr v l k zs) (x:ByteArray) (j:Nat) (hj:j<zs.length) (he:(zs[j].1.name.toList == x.toList)=true):xW (ids (l.take k)) x=true:=by
 rw [h.names]
 unfold xW
 rw [List.any_map,List.any_eq_true]
 exact ⟨zs[j],List.getElem_mem hj,he⟩
theorem TabAt.fresh {w wr:World} {v:Value} {l:List Key2} {k:Nat} {zs:List (Mem × Key2)} (h:TabAt w wr v l k zs) (x:ByteArray) (hn:∀j (hj:j<zs.length),(zs[j].1.name.toList == x.toList)=false):xW (ids (l.take k)) x=false:=by
 rw [h.names]
 unfold xW
 rw [List.any_map,List.any_eq_false]
 intro z hz
 obtain ⟨j,hj,rfl⟩:=List.getElem_of_mem hz
 show ¬(zs[j].1.name.toList == x.toList)=true
 rw [hn j hj];simp
structure SortedAt (w w':World) (av:Option Addr) (l m:List Key2) (zs:List (Mem × Key2)):Prop where
 perm:m.Perm l
 keys:zs.map (·.2)=m
 rise:qe (ids m)=true
 below:Below w.heap.size w w'
 res:w'.rowIs w.heap.size 25 5 (qQ (.int .u8 0) (.int .i64 0) (.string ⟨#[]⟩) (.slice none 0 0) (.slice none 0 0))
 row:xj w' (w.heap.size+1) (fun _=>False) zs
 cells:l.length=0∨∃g,av=some ⟨g,0,none⟩∧g<w'.heap.size∧∀j c (hj:j<zs.length),c<6→w'.cell? ⟨g,j * 6+c,none⟩=some ((qV zs[j].1)[c]!)
theorem TabAt.sorted {w wr:World} {av:Option Addr} {cap:Nat} {l:List Key2} {zs:List (Mem × Key2)} (h:TabAt w wr (.slice av l.length cap) l l.length zs) (hl:l.length≤4294967)
 (hc:(l.length=0∧av=none∧cap=0)∨∃g,av=some ⟨g,0,none⟩∧w.heap.size<g∧g<wr.heap.size) :
 Calls Tryz.prog 88 #[.slice av l.length cap,.func (.func 89) #[] #[]] wr fun e w'=>e=.returned (.tuple #[])∧∃m zs',SortedAt w w' av l m zs':=by
 have hlen:=h.len lz
 have he:=h.err
 rw [List.take_length,List.drop_length] at he
 obtain ⟨hok,_,hnd⟩:=(vv l []).1 he
 have hkeys:=h.keys
 rw [List.take_length] at hkeys
 rcases hc with ⟨h0,rfl,rfl⟩|⟨g,rfl,hg1,hg2⟩
 · rw [h0]
   have hz:l=[]:=List.eq_nil_of_length_eq_zero h0
   subst hz
   refine (sL wr).mono ?_
   rintro e w' ⟨rfl,rfl⟩
   have hzs:zs=[]:=List.eq_nil_of_length_eq_zero hlen
   subst hzs
   exact ⟨rfl,[],[],List.Perm.refl _,rfl,rfl,h.below,h.res,xj.nil _ _ _,.inl rfl⟩
 · have hH:=ct h.own
   have hds:(zs.map (·.1)).toArray.size=l.length:=by simp [hlen]
   have hS:=sD g 0 cap (zs.map (·.1)).toArray wr hH hg2 (by omega)
   rw [hds] at hS
   refine hS.mono ?_
   rintro e w' ⟨rfl,d',⟨hsz,hp,hso⟩,hH',ht⟩
   refine ⟨rfl,?_⟩
   rw [hds] at hsz hso
   obtain ⟨zs',hpz,hmz⟩:=uM (·.1) (by simpa using hp) zs rfl
   have hlz:zs'.length=l.length:=by rw [hpz.length_eq];exact hlen
   have hdz:∀i (hi:i<zs'.length),d'[i]! = zs'[i].1:=fun i hi=>by
    have e:d'.toList[i]?=(zs'.map (·.1))[i]?:=by rw [hmz]
    rw [List.getElem?_map,List.getElem?_eq_getElem hi] at e
    have hi':i<d'.size:=by omega
    rw [getElem!_pos d' i hi']
    rw [Array.getElem?_toList,Array.getElem?_eq_getElem hi'] at e
    exact Option.some.inj e
   have hrow:xj w' (w.heap.size+1) (fun _=>False) zs':=(h.row.carry ht.size (fun b hb hne _=>ht.block b hb (fun e=>hne (by rw [e];rfl))) (fun b hx=>hx.elim)).perm hpz
   have hpm:(zs'.map (·.2)).Perm l:=by rw [← hkeys];exact hpz.map _
   have hnm:∀i (hi:i<zs'.length),zs'[i].1.name=id2 zs'[i].2:=fun i hi=>(hrow _ (List.getElem_mem hi)).1
   refine ⟨zs'.map (·.2),zs',hpm,rfl,?_,h.below.trans (ht.below h.below.size fun b hb e=>by omega),ht.row h.res (by omega),hrow,.inr ⟨g,rfl,by have:=ht.size;omega,fun j c hj hc=>?_⟩⟩
   · have hnd':(ids (zs'.map (·.2))).Nodup:=((hpm.map id2).nodup_iff).2 hnd
     refine pC fun i j hi hj hij=>?_
     have hi':i<zs'.length:=by simpa [ids] using hi
     have hj':j<zs'.length:=by simpa [ids] using hj
     have ei:(ids (zs'.map (·.2)))[i]=zs'[i].1.name:=by rw [hnm i hi'];simp [ids]
     have ej:(ids (zs'.map (·.2)))[j]=zs'[j].1.name:=by rw [hnm j hj'];simp [ids]
     have hne:(ids (zs'.map (·.2)))[i]≠(ids (zs'.map (·.2)))[j]:=fun e=>by
      exact (List.pairwise_iff_getElem.1 hnd') i j hi hj hij e
     rw [ei,ej] at hne ⊢
     have h1:=hso i j hij (by omega)
     rw [hdz i hi',hdz j hj'] at h1
     cases hb:bl zs'[i].1.name zs'[j].1.name
     · exact absurd (fx hb h1) hne
     · rfl
   · have:=(HoldsK.cell hH' (i:=j) (c:=c) (by omega) hc).1
     rw [hdz j hj] at this
     simpa using this
set_option maxHeartbeats 1000000 in
set_option maxRecDepth 100000 in
theorem nB (l:List Key2) (a:Option Addr) (c:Nat) (w:World) (hK:zP w 0 w.heap.size a l) (hl:l.length≤4294967) (hs:∀k ∈ l,k.1.size≤300∧k.2.size≤300) (hT:Tabs w) :
 Calls Tryz.prog 37 #[.slice a l.length c] w (sS l w):=by
 have HK:=Lh hK
 have HS:=Lh hs
 have HT:=Lh hT
 clear hK hs hT
 have HR0:=Lh (qp w (.int .u8 0) (.int .i64 0) (.string ⟨#[]⟩) (.slice none 0 0) (.slice none 0 0) 25)
 have HB0:=Lh (show Below w.heap.size w (w.alloc (.cells #[.int .u8 0,.int .i64 0,.string ⟨#[]⟩,.slice none 0 0,.slice none 0 0] 25)) from (Below.refl _ _).alloc lz _)
 by_cases h32:l.length≤32
 case neg =>
  have h32':decide (32<l.length)=true:=by simp;omega
  have h33':decide (32<(l.length:Int))=true:=by simp;omega
  have HE:=Lh (show vK l=5 by unfold vK;rw [if_pos (by omega)])
  go_enter Tryz.func37,Tryz.ntmps37
  go_wp2
  refine bodyPost_ret (qk Tryz.results37 _ _ w.heap.size 25 _ (0,0) _ rfl (heap_alloc_new w _) Tryz.underlying25 rfl (by kernel_rfl) _ rfl) rfl (.inl ⟨by rw [HE.out];decide,by rw [HE.out];rfl,HB0.out⟩)
 have h32':decide (32<l.length)=false:=by simp;omega
 have h33':decide (32<(l.length:Int))=false:=by simp;omega
 have HE:=Lh (show vK l=xH [] l by unfold vK;rw [if_neg (by omega)])
 obtain ⟨i3,hi3,iz0,iz1,iz2⟩:=info_parts lW
 go_enter Tryz.func37,Tryz.ntmps37
 go_wp2
 go_loopw [4,6,7,8,10,20] (fun v _ _ _ _ i wr=>∃(k:Nat) (zs:List (Mem × Key2)),k≤l.length∧i=.int .i64 k∧TabAt w wr v l k zs) (fun _ _ _ _ _ i _=>l.length - (intOf i).toNat)
 case atStart=>exact ⟨0,[],by omega,rfl,HB0.out,HR0.out,World.ownsRow_nil _ _ _ _,xj.nil _ _ _,by simp,by simp [ids]⟩
 case round =>
  obtain ⟨k,zs,hk,rfl,hA⟩:=hrel
  have HA:=Lh hA
  have hwz:w.heap.size<wr.heap.size:=hA.res.lt
  by_cases hlt:k<l.length
  · obtain ⟨b,off,ha,_,hb,e0,e1⟩:=(HK.out.below hA.below lz lz hA.below.size).at k hlt
    subst ha
    obtain ⟨hs1,hs2⟩:=HS.out l[k] (List.getElem_mem hlt)
    have HST:=Lh (y6 l k hlt)
    have HLK:=Lh hlt
    obtain ⟨x,hx⟩:∃x,x=l[k]:=⟨_,rfl⟩
    have HX:=Lh hx
    replace e0:=e0.trans (congrArg (fun z:Key2=>some (Value.string z.1)) hx.symm)
    replace e1:=e1.trans (congrArg (fun z:Key2=>some (Value.string z.2)) hx.symm)
    replace hs1:x.1.size≤300:=hx ▸ hs1
    replace hs2:x.2.size≤300:=hx ▸ hs2
    replace HST:=Lh (show xH (ids (l.take k)) (l.drop k)=if ok2 x then (if xW (ids (l.take k)) (id2 x) then 7 else xH (ids (l.take (k+1))) (l.drop (k+1))) else 3 from hx ▸ HST.out)
    clear hx hA
    obtain ⟨xs,xp⟩:=x
    replace hs1:xs.size≤300:=hs1
    replace hs2:xp.size≤300:=hs2
    replace e0:wr.cell? ⟨b,off+k * 2,none⟩=some (.string xs):=e0
    replace e1:wr.cell? ⟨b,off+k * 2+1,none⟩=some (.string xp):=e1
    have HBA:=Lh (show Below wr.heap.size wr (wr.alloc (.cells #[.string xs,.string xp] 43)) from (Below.refl _ _).alloc lz _)
    have HTA:=Lh ((HT.out.below HA.out.below).below HBA.out)
    cases hok:ze xs.data.toList xp.data.toList
    · have HEN:=Lh (cd xs xp (wr.alloc (.cells #[.string xs,.string xp] 43)) (by omega) (by omega) HTA.out hok)
      have HTE:=Lh (show vK l=3 by rw [HE.out,HA.out.err,HST.out];unfold ok2;rw [if_neg (by simp [hok])])
      clear hok
      unfold af at HEN
      go_wp2_with fail
      refine HEN.out.mono ?_
      clear HEN
      rintro e w1 ⟨rfl,hb1⟩
      have hbw:=HBA.out.trans (hb1.mono (by simp))
      have hb1':=hbw.alloc hbw.size (.cells #[.string ⟨#[]⟩,.int .u8 0,.int .i64 0,.string ⟨#[]⟩,.slice none 0 0,.slice none 0 0] 120)
      have HA1:=Lh (HA.out.later hb1')
      have hrow:=HA1.out.res
      obtain ⟨t0,t1,t2,t3,t4⟩:=rc5 hrow
      obtain ⟨s0,s1,s2,s3,s4⟩:=rf5 hrow
      simp only [qQ] at t0 t1 t2 t3 t4
      clear hrow hb1 hbw hb1'
      go_wp2
      refine bodyPost_ret (qk Tryz.results37 _ _ w.heap.size 25 _ (0,0) _ rfl (qi (set5 _ _ _ _ _ HA1.out.res)) Tryz.underlying25 rfl (by kernel_rfl) _ rfl) rfl (.inl ⟨by rw [HTE.out];decide,by rw [HTE.out];rfl,q7 _ _ _ _ _ HA1.out.below lz⟩)
    · have HEN:=Lh (uH xs xp (wr.alloc (.cells #[.string xs,.string xp] 43)) (by omega) (by omega) HTA.out hok)
      have HOK:=Lh hok
      clear hok
      unfold cu at HEN
      obtain ⟨ID,hID⟩:∃ID,ID=dG xs xp:=⟨_,rfl⟩
      rw [← hID] at HEN
      have HID:=Lh hID
      clear hID
      go_wp2_with fail
      refine HEN.out.mono ?_
      clear HEN
      rintro e w1 ⟨an,cn,ai,ci,rfl,hr1,hb1⟩
      have hbw:=HBA.out.trans (hb1.mono (by simp))
      have hz1:wr.heap.size+1≤w1.heap.size:=by have:=hb1.size;simpa using this
      obtain ⟨W1,hW1⟩:∃W1,W1=w1.alloc (.cells #[.string ID,.int .u8 5,.int .i64 0,.string ⟨#[]⟩,.slice an 2 cn,.slice ai 2 ci] 120):=⟨_,rfl⟩
      have hb1':Below wr.heap.size wr W1:=by rw [hW1];exact hbw.alloc hbw.size _
      have HB1:=Lh hb1'
      have HA1:=Lh (HA.out.later hb1')
      have HX1:=Lh (show W1.heap[w1.heap.size]?=some (.cells #[.string ID,.int .u8 5,.int .i64 0,.string ⟨#[]⟩,.slice an 2 cn,.slice ai 2 ci] 120 (0,0)) by rw [hW1];exact heap_alloc_new w1 _)
      have HR1:=Lh (show Rep W1 (wr.heap.size+1) w1.heap.size (jx xs xp) (.agg #[.int .u8 5,.int .i64 0,.string ⟨#[]⟩,.slice an 2 cn,.slice ai 2 ci]) by
       rw [hW1]
       exact Rep.carry (by simp) lz (fun b _ h=>Below.heap_alloc _ _ _ h) _ _ hr1)
      have hZ1:W1.heap.size=w1.heap.size+1:=by rw [hW1];simp
      have HZ1:=Lh hZ1
      obtain ⟨av,cap,rfl,hsl⟩:=HA.out.sliced hk
      have hlz:zs.length=k:=HA.out.len hk
      have HW1:=Lh hW1
      clear hW1 hb1' hbw hr1 hb1 e0 e1 hsl hZ1
      obtain ⟨wo,rfl⟩:∃wo:World,wo=wr:=⟨_,rfl⟩
      go_wp2_with fail
      rw [← HW1.out]
      clear HW1
      go_loopw [10,35] (fun _ i wr=>∃j:Nat,j≤k∧i=.int .i64 j∧(∀q (hq:q<zs.length),q<j→(zs[q].1.name.toList == ID.toList)=false)∧Below W1.heap.size W1 wr) (fun _ i _=>k - (intOf i).toNat)
      case atStart=>exact ⟨0,by omega,rfl,fun q _ h=>by omega,Below.refl _ _⟩
      case round =>
       obtain ⟨j,hj,rfl,hno,hbq⟩:=hrel
       have HNO:=Lh hno
       have HBQ:=Lh hbq
       have HAQ:=Lh (HA1.out.later hbq)
       have hxq:wr.heap[w1.heap.size]?=some (.cells #[.string ID,.int .u8 5,.int .i64 0,.string ⟨#[]⟩,.slice an 2 cn,.slice ai 2 ci] 120 (0,0)):=by rw [hbq.block _ (by rw [HZ1.out];omega)];exact HX1.out
       have HXQ:=Lh hxq
       have hzq:w1.heap.size<wr.heap.size:=qx hxq
       have x0:wr.cell? ⟨w1.heap.size,0,none⟩=some (.string ID):=qq hxq rfl
       clear hno hbq
       by_cases hjk:j<k
       · have hjz:j<zs.length:=by omega
         obtain ⟨g,ha,hg1,hg2,hcell⟩:∃g,av=some ⟨g,0,none⟩∧w.heap.size<g∧g<wr.heap.size∧∀j c (hj:j<zs.length),c<6→wr.cell? ⟨g,j * 6+c,none⟩=some ((qV zs[j].1)[c]!):=by
          obtain ⟨av',cap',hv,hc⟩:=HAQ.out.sliced hk
          simp only [Value.slice.injEq,true_and] at hv
          obtain ⟨rfl,rfl⟩:=hv
          rcases hc with ⟨h0,_⟩|hc
          · omega
          · exact hc
         subst ha
         have y0:=hcell j 0 hjz (by decide);have y1:=hcell j 1 hjz (by decide);have y2:=hcell j 2 hjz (by decide);have y3:=hcell j 3 hjz (by decide);have y4:=hcell j 4 hjz (by decide);have y5:=hcell j 5 hjz (by decide)
         have HHT:=Lh (HAQ.out.hit ID j hjz)
         have HNJ:=Lh (show (zs[j].1.name.toList == ID.toList)=false→∀q (hq:q<zs.length),q<j+1→(zs[q].1.name.toList == ID.toList)=false from fun h q hq hqj=>by
          by_cases e:q=j
          · subst e;exact h
          · exact HNO.out q hq (by omega))
         clear hcell hxq
         generalize zs[j].1=mj at y0 y1 y2 y3 y4 y5 HHT HNJ
         simp only [qV,Nat.add_zero,List.getElem!_cons_zero,List.getElem!_cons_succ] at y0 y1 y2 y3 y4 y5
         have x0':(wr.alloc (.cells #[.string mj.name,.int .u8 mj.k,.int .i64 mj.n,.string mj.t,.slice mj.an mj.nn mj.cn,.slice mj.ai mj.ni mj.ci] 120)).cell? ⟨w1.heap.size,0,none⟩=some (.string ID):=(qt _ hzq).trans x0
         have HBJ:=Lh (show Below W1.heap.size W1 (wr.alloc (.cells #[.string mj.name,.int .u8 mj.k,.int .i64 mj.n,.string mj.t,.slice mj.an mj.nn mj.cn,.slice mj.ai mj.ni mj.ci] 120)) from HBQ.out.alloc HBQ.out.size _)
         have HAJ:=Lh (HA1.out.later HBJ.out)
         have hg3:(0:Int)≤(j:Int):=by omega
         have hg4:(j:Int)<(k:Int):=by omega
         cases hq:(mj.name.toList == ID.toList)
         · have HN2:=Lh (HNJ.out hq)
           clear HHT HNJ
           go_wp2
           go_roundw
           case rel=>exact ⟨j+1,by omega,by go_num,HN2.out,HBJ.out⟩
           case measure=>simp [intOf];omega
         · have HTE:=Lh (show vK l=7 by
            rw [HE.out,HA.out.err,HST.out]
            unfold ok2 id2
            rw [if_pos HOK.out,if_pos (by have:=HHT.out hq;rw [HID.out] at this;exact this)])
           have hrow:=HAJ.out.res
           obtain ⟨t0,t1,t2,t3,t4⟩:=rc5 hrow
           obtain ⟨s0,s1,s2,s3,s4⟩:=rf5 hrow
           simp only [qQ] at t0 t1 t2 t3 t4
           clear hrow HHT HNJ
           go_wp2
           refine bodyPost_ret (qk Tryz.results37 _ _ w.heap.size 25 _ (0,0) _ rfl (qi (set5 _ _ _ _ _ HAJ.out.res)) Tryz.underlying25 rfl (by kernel_rfl) _ rfl) rfl (.inl ⟨by rw [HTE.out];decide,by rw [HTE.out];rfl,q7 _ _ _ _ _ HAJ.out.below lz⟩)
       · have HFR:=Lh (HAQ.out.fresh ID (fun q hq=>HNO.out q hq (by omega)))
         have x1:wr.cell? ⟨w1.heap.size,1,none⟩=some (.int .u8 5):=qq hxq rfl
         have x2:wr.cell? ⟨w1.heap.size,2,none⟩=some (.int .i64 0):=qq hxq rfl
         have x3:wr.cell? ⟨w1.heap.size,3,none⟩=some (.string ⟨#[]⟩):=qq hxq rfl
         have x4:wr.cell? ⟨w1.heap.size,4,none⟩=some (.slice an 2 cn):=qq hxq rfl
         have x5:wr.cell? ⟨w1.heap.size,5,none⟩=some (.slice ai 2 ci):=qq hxq rfl
         have HN:=Lh HAQ.out.own
         have hwq:w.heap.size+1≤wr.heap.size:=by have:=HAQ.out.res.lt;omega
         clear hxq
         go_wp2_with (at_builtin;refine wpList_append_lies _ rfl (.tmp 46) (.tmp 48) 118 rfl (w.heap.size+1) 120 i3 _ 6 96 Tryz.underlying118 hi3 iz0 iz1 iz2 rfl (by decide) (.slice av k cap) k ((zs.map (·.1)).flatMap qV) rfl (HN.out.alloc _) ⟨wr.heap.size,0,none⟩ 1 1 (qV ⟨ID,5,0,⟨#[]⟩,an,2,cn,ai,2,ci⟩) rfl rfl (World.news_of_block (cs:=#[.string ID,.int .u8 5,.int .i64 0,.string ⟨#[]⟩,.slice an 2 cn,.slice ai 2 ci]) (t:=120) (fr:=(0,0)) (heap_alloc_new wr _)) (by simp [qV,Value.oneCell']) (by omega) (by unfold maxLen;omega) (by omega) (by simp;omega) (wr.heap.size+1) (by simp) ?_;intro g1 cap2 w6 hown6 hgrow6 hat6 hlt6;have HO6:=Lh hown6;have HG6:=Lh hgrow6;have HA6:=Lh hat6;clear hown6 hgrow6 hat6)
         go_roundw
         case rel =>
          refine ⟨k+1,zs ++ [(⟨ID,5,0,⟨#[]⟩,an,2,cn,ai,2,ci⟩,l[k])],by omega,by go_num,?_⟩
          have hbn:Below wo.heap.size wo (wr.alloc (.cells #[.string ID,.int .u8 5,.int .i64 0,.string ⟨#[]⟩,.slice an 2 cn,.slice ai 2 ci] 120)):=(HB1.out.trans (HBQ.out.mono HB1.out.size)).alloc (by have:=HB1.out.size;have:=HBQ.out.size;omega) _
          refine TabAt.snoc (lo:=wo.heap.size+1) (hi:=w1.heap.size) ⟨ID,5,0,⟨#[]⟩,an,2,cn,ai,2,ci⟩ HA.out HLK.out hbn ?_ ?_ ?_ (by omega) (by simp;omega) ?_ HG6.out (by rcases HA6.out with h|h;exact .inl h;exact .inr (by simp;omega)) HO6.out
          · exact HID.out.trans (congrArg id2 HX.out)
          · exact (congrArg ok2 HX.out).symm.trans HOK.out
          · exact (congrArg (fun z=>xW (ids (l.take k)) (id2 z)) HX.out).symm.trans (by have:=HFR.out;rw [HID.out] at this;exact this)
          · have hrr:Rep (wr.alloc (.cells #[.string ID,.int .u8 5,.int .i64 0,.string ⟨#[]⟩,.slice an 2 cn,.slice ai 2 ci] 120)) (wo.heap.size+1) w1.heap.size (obj2 (xs,xp)) (Mem.val ⟨ID,5,0,⟨#[]⟩,an,2,cn,ai,2,ci⟩):=Rep.carry lz lz (fun b _ h=>by rw [Below.heap_alloc _ _ _ (by omega),HBQ.out.block b (by rw [HZ1.out];omega)]) _ _ HR1.out
            exact Eq.mp (congrArg (fun z=>Rep (wr.alloc (.cells #[.string ID,.int .u8 5,.int .i64 0,.string ⟨#[]⟩,.slice an 2 cn,.slice ai 2 ci] 120)) (wo.heap.size+1) w1.heap.size (obj2 z) (Mem.val ⟨ID,5,0,⟨#[]⟩,an,2,cn,ai,2,ci⟩)) HX.out) hrr
         case measure=>simp [intOf];omega
  · obtain rfl:k=l.length:=by omega
    have HTE:=Lh (show vK l=0 by
     rw [HE.out,HA.out.err,List.drop_length];rfl)
    obtain ⟨av,cap,rfl,hsl⟩:=HA.out.sliced lz
    have HSO:=Lh (HA.out.sorted hl (by rcases hsl with h|⟨g,h1,h2,h3,_⟩;exact .inl h;exact .inr ⟨g,h1,h2,h3⟩))
    clear hsl hA hlt hk
    obtain ⟨wo,rfl⟩:∃wo:World,wo=wr:=⟨_,rfl⟩
    go_wp2_with fail
    refine HSO.out.mono ?_
    clear HSO
    rintro e w2 ⟨rfl,m,zz,hso⟩
    have HSA:=Lh hso
    have HB3:=Lh (show Below w2.heap.size w2 (w2.alloc (.cells #[.int .u8 5,.int .i64 0,.string ⟨#[]⟩,.slice none 0 0,.slice none 0 0] 25)) from (Below.refl _ _).alloc lz _)
    have HO:=Lh (show ObjAt2 (w2.alloc (.cells #[.int .u8 5,.int .i64 0,.string ⟨#[]⟩,.slice none 0 0,.slice none 0 0] 25)) (w2.alloc (.cells #[.int .u8 5,.int .i64 0,.string ⟨#[]⟩,.slice none 0 0,.slice none 0 0] 25)) (w.heap.size+1) w2.heap.size 25 9 25 (.slice none 0 0) (.slice none 0 0) [] [] [] from
     ⟨by simp,by have:=hso.res.lt;simp;omega,Touch.refl _ _,qp _ _ _ _ _ _ _,World.ownsRow_nil _ _ _ _,World.ownsRow_nil _ _ _ _,qM.nil _ _ _,fun b hb=>by simp [Value.ownBlock] at hb⟩)
    have hlm:m.length=l.length:=hso.perm.length_eq
    have hlz:zz.length=l.length:=by have:=congrArg List.length hso.keys;simp at this;omega
    have hw2:w.heap.size<w2.heap.size:=hso.res.lt
    have HCE:=Lh hso.cells
    clear hso
    obtain ⟨nd,hnd⟩:∃nd,nd=l.length:=⟨_,rfl⟩
    rw [← hnd] at hlm hlz h32 hl HCE
    have HND:=Lh hnd
    obtain ⟨i1,hi1,hy0,hy1,hy2⟩:=info_parts xv
    obtain ⟨i2,hi2,hx0,hx1,hx2⟩:=info_parts gy
    rw [← hnd]
    clear hnd h32' h33'
    go_wp2_with fail
    obtain ⟨cb,hcb⟩:∃cb,cb=w2.heap.size:=⟨_,rfl⟩
    obtain ⟨W,hW⟩:∃W,W=w2.alloc (.cells #[.int .u8 5,.int .i64 0,.string ⟨#[]⟩,.slice none 0 0,.slice none 0 0] 25):=⟨_,rfl⟩
    rw [← hW] at HO HB3
    rw [← hcb] at HO
    rw [← hW,← hcb]
    have HCB:=Lh hcb
    have HWZ:=Lh (show W.heap.size=cb+1 by rw [hW,hcb];simp)
    clear hW hcb
    go_loopw [13,56] (fun _ i wr=>∃(k:Nat) (cs:List Value) (vn vi:Value),k≤nd∧i=.int .i64 k∧ObjAt2 W wr (w.heap.size+1) cb 25 9 25 vn vi ((ids m).take k) ((m.map obj2).take k) cs) (fun _ i _=>nd - (intOf i).toNat)
    case atStart=>exact ⟨0,[],.slice none 0 0,.slice none 0 0,by omega,rfl,by simpa using HO.out⟩
    case round =>
     clear HO
     obtain ⟨k,cs,vn,vi,hk,rfl,hobj⟩:=hrel
     have HOB:=Lh hobj
     have hcz:W.heap.size≤wr.heap.size:=hobj.touch.size
     have hcw:cb<wr.heap.size:=hobj.row.lt
     clear hobj
     by_cases hlt:k<nd
     · have hkz:k<zz.length:=by omega
       have hkm:k<m.length:=by omega
       obtain ⟨g,ha,hg2,hcell⟩:∃g,av=some ⟨g,0,none⟩∧g<w2.heap.size∧∀j c (hj:j<zz.length),c<6→w2.cell? ⟨g,j * 6+c,none⟩=some ((qV zz[j].1)[c]!):=by
        rcases HCE.out with h|h
        · omega
        · exact h
       subst ha
       replace hcell:∀c,c<6→wr.cell? ⟨g,k * 6+c,none⟩=some ((qV zz[k].1)[c]!):=fun c hc=>by
        rw [HOB.out.touch.cell (show g<W.heap.size by rw [HWZ.out,HCB.out];omega) (show ¬g=cb by rw [HCB.out];omega),HB3.out.cell (by exact hg2)]
        exact hcell k c hkz hc
       have y0:=hcell 0 (by decide);have y1:=hcell 1 (by decide);have y2:=hcell 2 (by decide);have y3:=hcell 3 (by decide);have y4:=hcell 4 (by decide);have y5:=hcell 5 (by decide)
       clear hcell
       obtain ⟨hnz,lo,hi,hlo,hhi,_,hrep⟩:=HSA.out.row _ (List.getElem_mem hkz)
       have hmk:m[k]=zz[k].2:=by
        have:(zz.map (·.2))[k]'(by simpa using hkz)=m[k]:=by simp only [HSA.out.keys]
        rw [← this];simp
       have HTN:=Lh (show (ids m).take (k+1)=(ids m).take k ++ [zz[k].1.name] by
        rw [List.take_succ_eq_append_getElem (by simpa [ids] using hkm),hnz];simp [ids,hmk])
       have HTI:=Lh (show (m.map obj2).take (k+1)=(m.map obj2).take k ++ [obj2 zz[k].2] by
        rw [List.take_succ_eq_append_getElem (by simpa using hkm)];simp [hmk])
       have HREP:=Lh (show Rep wr lo hi (obj2 zz[k].2) zz[k].1.val from Rep.carry lz lz (fun b h1 h2=>by rw [HOB.out.touch.block b (by rw [HWZ.out,HCB.out];omega) (by rw [HCB.out];omega),HB3.out.block b (by omega)]) _ _ hrep)
       have HHI:=Lh (show hi≤cb by rw [HCB.out];exact hhi)
       obtain ⟨pan,pcn,pai,pci,hval,_⟩:=hrep.parts
       have HVAL:=Lh hval
       clear hnz hrep hhi hmk hval
       generalize zz[k].2=kk at HTI HREP HVAL
       generalize zz[k].1=mk at y0 y1 y2 y3 y4 y5 HTN HREP HVAL
       simp only [qV,Nat.add_zero,List.getElem!_cons_zero,List.getElem!_cons_succ] at y0 y1 y2 y3 y4 y5
       have HLN:=Lh (show ((ids m).take k).length=k by simp [ids];omega)
       have HLI:=Lh (show ((m.map obj2).take k).length=k by simp;omega)
       have HN:=Lh (show wr.ownsRow W.heap.size 9 1 vn k (((ids m).take k).map .string) by have:=HOB.out.names;rwa [HLN.out] at this)
       have HBO:=Lh (show Below wr.heap.size wr (wr.alloc (.cells #[.string mk.name,.int .u8 mk.k,.int .i64 mk.n,.string mk.t,.slice mk.an mk.nn mk.cn,.slice mk.ai mk.ni mk.ci] 120)) from (Below.refl _ _).alloc lz _)
       have HO2:=Lh (HOB.out.below HBO.out)
       have c3:(wr.alloc (.cells #[.string mk.name,.int .u8 mk.k,.int .i64 mk.n,.string mk.t,.slice mk.an mk.nn mk.cn,.slice mk.ai mk.ni mk.ci] 120)).cell? ⟨cb,3,none⟩=some vn:=HO2.out.row.cell (by decide)
       have f3:(wr.alloc (.cells #[.string mk.name,.int .u8 mk.k,.int .i64 mk.n,.string mk.t,.slice mk.an mk.nn mk.cn,.slice mk.ai mk.ni mk.ci] 120)).frozen? ⟨cb,3,none⟩=false:=HO2.out.row.frozen 3
       have c4:(wr.alloc (.cells #[.string mk.name,.int .u8 mk.k,.int .i64 mk.n,.string mk.t,.slice mk.an mk.nn mk.cn,.slice mk.ai mk.ni mk.ci] 120)).cell? ⟨cb,4,none⟩=some vi:=HO2.out.row.cell (by decide)
       have f4:(wr.alloc (.cells #[.string mk.name,.int .u8 mk.k,.int .i64 mk.n,.string mk.t,.slice mk.an mk.nn mk.cn,.slice mk.ai mk.ni mk.ci] 120)).frozen? ⟨cb,4,none⟩=false:=HO2.out.row.frozen 4
       have hxb:=heap_alloc_new wr (.cells #[.string mk.name,.int .u8 mk.k,.int .i64 mk.n,.string mk.t,.slice mk.an mk.nn mk.cn,.slice mk.ai mk.ni mk.ci] 120)
       have b1:(wr.alloc (.cells #[.string mk.name,.int .u8 mk.k,.int .i64 mk.n,.string mk.t,.slice mk.an mk.nn mk.cn,.slice mk.ai mk.ni mk.ci] 120)).cell? ⟨wr.heap.size,1,none⟩=some (.int .u8 mk.k):=qq hxb rfl
       have b2:(wr.alloc (.cells #[.string mk.name,.int .u8 mk.k,.int .i64 mk.n,.string mk.t,.slice mk.an mk.nn mk.cn,.slice mk.ai mk.ni mk.ci] 120)).cell? ⟨wr.heap.size,2,none⟩=some (.int .i64 mk.n):=qq hxb rfl
       have b3:(wr.alloc (.cells #[.string mk.name,.int .u8 mk.k,.int .i64 mk.n,.string mk.t,.slice mk.an mk.nn mk.cn,.slice mk.ai mk.ni mk.ci] 120)).cell? ⟨wr.heap.size,3,none⟩=some (.string mk.t):=qq hxb rfl
       have b4:(wr.alloc (.cells #[.string mk.name,.int .u8 mk.k,.int .i64 mk.n,.string mk.t,.slice mk.an mk.nn mk.cn,.slice mk.ai mk.ni mk.ci] 120)).cell? ⟨wr.heap.size,4,none⟩=some (.slice mk.an mk.nn mk.cn):=qq hxb rfl
       have b5:(wr.alloc (.cells #[.string mk.name,.int .u8 mk.k,.int .i64 mk.n,.string mk.t,.slice mk.an mk.nn mk.cn,.slice mk.ai mk.ni mk.ci] 120)).cell? ⟨wr.heap.size,5,none⟩=some (.slice mk.ai mk.ni mk.ci):=qq hxb rfl
       have HN2:=Lh (HN.out.alloc (.cells #[.string mk.name,.int .u8 mk.k,.int .i64 mk.n,.string mk.t,.slice mk.an mk.nn mk.cn,.slice mk.ai mk.ni mk.ci] 120))
       have hz5:(wr.alloc (.cells #[.string mk.name,.int .u8 mk.k,.int .i64 mk.n,.string mk.t,.slice mk.an mk.nn mk.cn,.slice mk.ai mk.ni mk.ci] 120)).heap.size=wr.heap.size+1:=by simp
       have HNEW:=Lh (show ((wr.alloc (.cells #[.string mk.name,.int .u8 mk.k,.int .i64 mk.n,.string mk.t,.slice mk.an mk.nn mk.cn,.slice mk.ai mk.ni mk.ci] 120)).alloc (.cells #[.string mk.name] 9)).heap[wr.heap.size+1]?=some (.cells #[.string mk.name] 9 (0,0)) by have:=heap_alloc_new (wr.alloc (.cells #[.string mk.name,.int .u8 mk.k,.int .i64 mk.n,.string mk.t,.slice mk.an mk.nn mk.cn,.slice mk.ai mk.ni mk.ci] 120)) (.cells #[.string mk.name] 9);rwa [hz5] at this)
       have hnb:some cb≠vn.ownBlock:=fun e=>by have:=(HOB.out.names.lt _ e.symm).1;have:=HWZ.out;omega
       have hnx:some wr.heap.size≠vn.ownBlock:=fun e=>by have:=(HOB.out.names.lt _ e.symm).2;omega
       have hci:some cb≠vi.ownBlock:=fun e=>by have:=(HOB.out.items.lt _ e.symm).1;have:=HWZ.out;omega
       have hw5:W.heap.size≤(wr.alloc (.cells #[.string mk.name,.int .u8 mk.k,.int .i64 mk.n,.string mk.t,.slice mk.an mk.nn mk.cn,.slice mk.ai mk.ni mk.ci] 120)).heap.size:=by simp;omega
       clear hxb
       have hg3:(0:Int)≤(k:Int):=by omega
       have hg4:(k:Int)<(nd:Int):=by omega
       have hcbn:¬cb=wr.heap.size:=by omega
       go_wp2_with (at_builtin;first
        | (
         refine wpList_append_lies _ rfl (.tmp 61) (.tmp 64) 22 rfl W.heap.size 9 i2 _ 1 16 Tryz.underlying22 hi2 hx0 hx1 hx2 rfl (by decide) vn k (((ids m).take k).map .string) rfl (HN2.out.alloc _) ⟨wr.heap.size+1,0,none⟩ 1 1 [.string mk.name] rfl rfl (World.news_of_block (cs:=#[.string mk.name]) (t:=9) (fr:=(0,0)) HNEW.out) (by simp [Value.oneCell']) (by omega) (by unfold maxLen;omega) (by omega) (by simp;omega) (wr.heap.size+2) (by simp) ?_;intro g1 cap2 w6 hown6 hgrow6 hat6 hlt6
         have c36:=qS hgrow6 (by simp;omega) hnb c3;have f36:=qO hgrow6 (by simp;omega) hnb f3;have c46:=qS hgrow6 (by simp;omega) hnb c4;have f46:=qO hgrow6 (by simp;omega) hnb f4
         have d1:=qS hgrow6 (by simp) hnx b1;have d2:=qS hgrow6 (by simp) hnx b2;have d3:=qS hgrow6 (by simp) hnx b3;have d4:=qS hgrow6 (by simp) hnx b4;have d5:=qS hgrow6 (by simp) hnx b5
         have hz6:=hgrow6.size
         rw [show ((wr.alloc (.cells #[.string mk.name,.int .u8 mk.k,.int .i64 mk.n,.string mk.t,.slice mk.an mk.nn mk.cn,.slice mk.ai mk.ni mk.ci] 120)).alloc (.cells #[.string mk.name] 9)).heap.size=wr.heap.size+2 by simp] at hz6
         have HO7:=Lh (show ObjAt2 W (w6.setCell ⟨cb,3,none⟩ (.slice (some ⟨g1,0,none⟩) (k+1) cap2)) (w.heap.size+1) cb 25 9 25 (.slice (some ⟨g1,0,none⟩) (k+1) cap2) vi ((ids m).take k ++ [mk.name]) ((m.map obj2).take k) cs by
          have:=(HO2.out.below ((Below.refl _ _).alloc lz (.cells #[.string mk.name] 9))).name mk.name (g:=g1) (cap:=cap2) hgrow6 (by rcases hat6 with h|h;exact .inl h;exact .inr (by simp;omega)) (by rw [HLN.out];exact hown6)
          rwa [HLN.out] at this)
         have HI7:=Lh (show (w6.setCell ⟨cb,3,none⟩ (.slice (some ⟨g1,0,none⟩) (k+1) cap2)).ownsRow W.heap.size 25 5 vi k cs by have:=HO7.out.items;rwa [HLI.out] at this)
         have HG6:=Lh hgrow6
         clear hown6 hgrow6 hat6)
        | (
         refine wpList_append_lies _ rfl (.tmp 68) (.tmp 71) 23 rfl W.heap.size 25 i1 _ 5 80 Tryz.underlying23 hi1 hy0 hy1 hy2 rfl (by decide) vi k cs rfl (HI7.out.alloc _) ⟨w6.heap.size,0,none⟩ 1 1 [.int .u8 mk.k,.int .i64 mk.n,.string mk.t,.slice mk.an mk.nn mk.cn,.slice mk.ai mk.ni mk.ci] rfl rfl ?_ (by simp [Value.oneCell']) (by omega) (by unfold maxLen;omega) (by omega) ?_ (w6.heap.size+1) (by simp [World.setCell]) ?_
         · have:=World.news_of_block (cs:=#[.int .u8 mk.k,.int .i64 mk.n,.string mk.t,.slice mk.an mk.nn mk.cn,.slice mk.ai mk.ni mk.ci]) (t:=25) (fr:=(0,0)) (heap_alloc_new (w6.setCell ⟨cb,3,none⟩ (.slice (some ⟨g1,0,none⟩) (k+1) cap2)) (.cells #[.int .u8 mk.k,.int .i64 mk.n,.string mk.t,.slice mk.an mk.nn mk.cn,.slice mk.ai mk.ni mk.ci] 25))
           rw [show (w6.setCell ⟨cb,3,none⟩ (.slice (some ⟨g1,0,none⟩) (k+1) cap2)).heap.size=w6.heap.size by simp [World.setCell]] at this
           exact this
         · simp [World.setCell];omega
         intro g2 cap3 w8 hown8 hgrow8 hat8 hlt8
         have c48:=qS hgrow8 (by simp [World.setCell];omega) hci (HO7.out.row.cell (i:=4) (by decide));have f48:=qO hgrow8 (by simp [World.setCell];omega) hci (HO7.out.row.frozen 4)
         have HO8:=Lh hown8;have HG8:=Lh hgrow8;have HA8:=Lh hat8
         clear hown8 hgrow8 hat8))
       go_roundw
       case rel =>
        refine ⟨k+1,cs ++ [.int .u8 mk.k,.int .i64 mk.n,.string mk.t,.slice mk.an mk.nn mk.cn,.slice mk.ai mk.ni mk.ci],.slice (some ⟨g1,0,none⟩) (k+1) cap2,.slice (some ⟨g2,0,none⟩) (k+1) cap3,by omega,by go_num,?_⟩
        have hv:=HVAL.out
        simp only [Mem.val,Value.agg.injEq,Array.mk.injEq,List.cons.injEq,Value.int.injEq,Value.string.injEq,true_and,and_true] at hv
        obtain ⟨q0,q1,q2,q3,q4⟩:=hv
        have hr:=HREP.out
        unfold Mem.val at hr
        rw [q0,q1,q2,q3,q4] at hr
        have ho:=HO8.out
        rw [q0,q1,q2,q3,q4] at ho ⊢
        rw [HTN.out,HTI.out]
        have hgw:Below wr.heap.size wr ((wr.alloc (.cells #[.string mk.name,.int .u8 mk.k,.int .i64 mk.n,.string mk.t,.slice mk.an mk.nn mk.cn,.slice mk.ai mk.ni mk.ci] 120)).alloc (.cells #[.string mk.name] 9)):=HBO.out.alloc (by simp) _
        have hr7:Rep ((w6.setCell ⟨cb,3,none⟩ (.slice (some ⟨g1,0,none⟩) (k+1) cap2)).alloc (.cells #[.int .u8 (obj2 kk).kind,.int .i64 (obj2 kk).n,.string (obj2 kk).t,.slice pan (obj2 kk).names.length pcn,.slice pai (obj2 kk).items.length pci] 25)) lo hi (obj2 kk) (.agg #[.int .u8 (obj2 kk).kind,.int .i64 (obj2 kk).n,.string (obj2 kk).t,.slice pan (obj2 kk).names.length pcn,.slice pai (obj2 kk).items.length pci]):=by
         refine Rep.carry lz lz (fun b h1 h2=>?_) _ _ hr
         have:=HHI.out
         rw [Below.heap_alloc _ _ _ (by simp [World.setCell];omega),Below.heap_setCell _ _ _ _ (by show b≠cb;omega),HG6.out.block b (by simp;omega) (fun e=>by have:=(HOB.out.names.lt b e.symm).1;have:=HWZ.out;omega),hgw.block b (by omega)]
        have hob:=(HO7.out.below ((Below.refl _ _).alloc lz (.cells #[.int .u8 (obj2 kk).kind,.int .i64 (obj2 kk).n,.string (obj2 kk).t,.slice pan (obj2 kk).names.length pcn,.slice pai (obj2 kk).items.length pci] 25)))
        have hg8:=HG8.out
        rw [q0,q1,q2,q3,q4] at hg8
        have:=hob.item (it:=obj2 kk) (lo:=lo) (hi:=hi) (g:=g2) (cap:=cap3) hlo HHI.out hr7 hg8 (by rcases HA8.out with h|h;exact .inl h;exact .inr (by simp [World.setCell];omega)) (by rw [HLI.out];exact ho)
        rw [HLI.out] at this
        exact this
       case measure=>simp [intOf];omega
     · obtain rfl:k=nd:=by omega
       have hn1:(ids m).take k=ids m:=List.take_of_length_le (by simp [ids];omega)
       have hn2:(m.map obj2).take k=m.map obj2:=List.take_of_length_le (by simp;omega)
       rw [hn1,hn2] at HOB
       have HLN:=Lh (show (ids m).length=k by simp [ids];omega)
       have HLI:=Lh (show (m.map obj2).length=k by simp;omega)
       obtain ⟨an,cn,ai,ci,rfl,rfl,hrep⟩:=HOB.out.done
       have HRP:=Lh hrep
       have hrow0:=HOB.out.names
       have hrow:=HOB.out.row
       have hres:=HOB.out.touch.row (qj HB3.out HSA.out.res hw2) (by rw [HCB.out];omega)
       have hcbw:w.heap.size<cb:=by rw [HCB.out];exact hw2
       rw [HLN.out,HLI.out] at hrow
       obtain ⟨r0,r1,r2,r3,r4⟩:=rc5 hrow
       obtain ⟨t0,t1,t2,t3,t4⟩:=rc5 hres
       obtain ⟨s0,s1,s2,s3,s4⟩:=rf5 hres
       simp only [qQ] at r0 r1 r2 r3 r4 t0 t1 t2 t3 t4
       have HRS:=Lh hres
       have HBW:=Lh (show Below w.heap.size w wr from (HSA.out.below.trans (HB3.out.mono (by omega))).trans (HOB.out.touch.below (by have:=HWZ.out;omega) fun j hj e=>by omega))
       have HNM:=Lh hrow0
       clear hrow hres hrep hn1 hn2 hrow0 HOB
       go_wp2
       refine bodyPost_ret (qk Tryz.results37 _ _ w.heap.size 25 _ (0,0) _ rfl (qi (set5 _ _ _ _ _ HRS.out)) Tryz.underlying25 rfl (by kernel_rfl) _ rfl) rfl (.inr ⟨HTE.out,m,HSA.out.perm,HSA.out.rise,an,cn,ai,ci,?_,?_,q7 _ _ _ _ _ HBW.out lz,?_⟩)
       · show _=Ending.returned (.tuple #[.agg #[.int .u8 5,.int .i64 0,.string ⟨#[]⟩,.slice an (ids m).length cn,.slice ai (m.map obj2).length ci],.int .i64 0])
         rw [HLN.out,HLI.out];rfl
       · exact Rep.carry (by omega) (show wr.heap.size≤_ by simp [World.setCell]) (fun j hj _=>xr _ _ _ _ _ (by omega)) _ _ HRP.out
       · exact lV (vd (base':=w.heap.size) (zL HNM.out fun b hb=>xr _ _ _ _ _ (by have:=(HNM.out.lt b hb).1;have:=HWZ.out;omega)) (by have:=HWZ.out;omega))
end Go.Proofs.YthgembbgcbaghaaGreatDoor

namespace Go.Proofs.YthgembbgcbaghaaGreatDoor
open Go.RowKit
def iq (l:List Key2) (y s:Nat):List Key2:=(List.range s).map fun j=>l.getD ((l.length - 1 - j+y) % l.length) (⟨#[]⟩,⟨#[]⟩)
def tz (l:List Key2) (w:World) (e:Ending) (w':World):Prop :=
 ∃u:JV,(vK l=0→∃m:List Key2,m.Perm l∧qe (ids m)=true∧u=qT m)∧(vK l≠0→u=zx)∧u.wt≤4294967296∧dv u (vK l) w e w'
theorem fK (l:List Key2) (a:Option Addr) (c:Nat) (w:World) (hK:zP w 0 w.heap.size a l) (hl:l.length≤40) (hs:∀k ∈ l,k.1.size≤300∧k.2.size≤300) (hT:Tabs w) :
 Calls Tryz.prog 37 #[.slice a l.length c] w (tz l w):=by
 refine (nB l a c w hK (by omega) hs hT).mono ?_
 rintro e w' (⟨h1,rfl,hb⟩|⟨h1,m,hp,hr,hv⟩)
 · exact ⟨zx,fun h=>absurd h h1,fun _=>rfl,by decide,none,0,none,0,rfl,lK _ _ _,hb⟩
 · refine ⟨qT m,fun _=>⟨m,hp,hr,rfl⟩,fun h=>absurd h1 h,?_,by rw [h1];exact hv.val⟩
   have:=wW (m:=m) (fun k hk=>hs k (hp.subset hk))
   have:=hp.length_eq
   omega
def uO (v:JV) (w:World) (e:Ending) (w':World):Prop :=
 ∃val,e=.returned (.tuple #[val,.int .i64 (xm v).2])∧w'.ownsRow w.heap.size 43 2 val (xm v).1.length ((xm v).1.flatMap yv)∧Below w.heap.size w w'
theorem sA {m:List Key2} (hok:∀k ∈ m,ok2 k=true) (hr:qe (ids m)=true) (hl:m.length≤32):vK m=0:=by
 unfold vK
 rw [if_neg (by omega)]
 exact (vv m []).2 ⟨hok,by simp,uy hr⟩
end Go.Proofs.YthgembbgcbaghaaGreatDoor

namespace Go.Proofs.YthgembbgcbaghaaGreatDoor
open Go.RowKit Go.Shelf Go.Sort
theorem yX (l:List Key2) (a:Option Addr) (c:Nat) (w:World) (hK:zP w 0 w.heap.size a l) (hm:zj l=true) (hT:Tabs w) :
 Calls Tryz.prog 37 #[.slice a l.length c] w fun e w'=>∃an cn ai ci,e=.returned (.tuple #[.agg #[.int .u8 5,.int .i64 0,.string ⟨#[]⟩,.slice an l.length cn,.slice ai l.length ci],.int .i64 0])∧Rep w' w.heap.size w'.heap.size (qT l) (.agg #[.int .u8 5,.int .i64 0,.string ⟨#[]⟩,.slice an l.length cn,.slice ai l.length ci])∧Below w.heap.size w w':=by
 obtain ⟨h1,h2,h3⟩:=qA.1 hm
 refine (fK l a c w hK (by omega) (fun k hk=>by have:=wY (h2 k hk);omega) hT).mono ?_
 rintro e w' ⟨u,hu,-,-,hv⟩
 have he:vK l=0:=sA h2 h3 h1
 obtain ⟨m,hp,hr,rfl⟩:=hu he
 obtain rfl:m=l:=fs hp hr h3
 rw [he] at hv
 obtain ⟨an,cn,ai,ci,h4,h5,h6⟩:=hv
 have e1:(qT m).names.length=m.length:=List.length_map ..
 have e2:(qT m).items.length=m.length:=List.length_map ..
 rw [e1,e2] at h4 h5
 exact ⟨an,cn,ai,ci,h4,h5,h6⟩
theorem kM:∀(l:List ByteArray),(∀x ∈ l,x.size≤1000000)→(qu l).wt≤1+1000001 * l.length:=fun l h=>by
 have h1:∀l:List ByteArray,(∀x ∈ l,x.size≤1000000)→JV.wts (l.map txtJ)≤1000001 * l.length:=fun l=>by
  induction l with
  | nil=>intro _;simp [JV.wts]
  | cons x r ih =>
   intro h
   have h1:=h x (List.mem_cons_self ..)
   have h2:=ih fun y hy=>h y (List.mem_cons_of_mem _ hy)
   rw [List.map_cons,JV.wts,xO,List.length_cons];omega
 have h2:=h1 l h
 have e2:(qu l).wt=1+JV.wts (l.map txtJ):=by
  show 1+(⟨#[]⟩:ByteArray).size+qd [] + JV.wts (l.map txtJ)=_
  rfl
 omega
theorem pI (b:Bool):(zi b).wt=1:=by cases b <;> rfl
theorem yJ {x:DelegV} (h:qX x=true):(qb x).wt≤50000000:=by
 obtain ⟨s1,⟨-,s2,s3⟩,⟨s4,s5⟩,⟨s6,s7⟩⟩:=vp h
 have h2:=kM _ s3
 rw [show qb x=jz (zt x) from rfl,mN]
 unfold zt
 split
 · have h3:=kM _ s5
   show 1+qd [qy,zp,xd,trmN,thrN] + ((qu x.au.ids).wt+((txtJ x.name).wt+((qu x.paths).wt+((zi x.term).wt+((zd x.au.thr).wt+0)))))≤_
   have e1:qd [qy,zp,xd,trmN,thrN]≤100:=by decide
   rw [xO,pI,wP]
   omega
 · have h3:=kM _ s7
   show 1+qd [qy,zp,zK,trmN,thrN] + ((qu x.au.ids).wt+((txtJ x.name).wt+((qu x.pres).wt+((zi x.term).wt+((zd x.au.thr).wt+0)))))≤_
   have e1:qd [qy,zp,zK,trmN,thrN]≤100:=by decide
   rw [xO,pI,wP]
   omega
theorem kC:∀(l:List DelegV),(∀x ∈ l,qX x=true)→JV.wts (l.map qb)≤50000000 * l.length
 | [],_=>by simp [JV.wts]
 | x :: r,h=>by
  have h1:=yJ (h x (List.mem_cons_self ..))
  have h2:=kC r fun y hy=>h y (List.mem_cons_of_mem _ hy)
  rw [List.map_cons,JV.wts,List.length_cons];omega
theorem yK (l:List JV):(zu l).wt=1+JV.wts l:=by
 show 1+(⟨#[]⟩:ByteArray).size+qd [] + JV.wts l=_
 rfl
theorem bF {b:BinsV} (h:qI b=true):(zV b).wt≤50000000:=by
 obtain ⟨-,h2,-,h4⟩:=jF h
 have ha:=xc h2
 have h5:=kM b.au.ids fun s hs=>by have:=(vr (jJ _ _ ha.2.2 s hs)).2;omega
 rw [show zV b=jz (bk b) from rfl,mN]
 show 1+qd [jy,qy,jH,thrN] + ((zd b.bits).wt+((qu b.au.ids).wt+((txtJ b.pre).wt+((zd b.au.thr).wt+0))))≤_
 have e1:qd [jy,qy,jH,thrN]≤100:=by decide
 rw [xO,wP,wP]
 omega
theorem pO {B g cap k:Nat} {wr w3 wa w4:World} {vi:Value} {cs:List Value} {l:List JV} {it:JV} {an ai:Option Addr} {cn ci lo hi e:Nat} (hown:wr.ownsRow B e 5 vi k cs) (hrr:qM wr B (fun b=>vi.ownBlock=some b) l cs)
 (hb3:Below wr.heap.size wr w3) (hB:B≤wr.heap.size) (hlo:wr.heap.size≤lo) (hhi:hi≤w3.heap.size) (hr3:Rep w3 lo hi it (.agg #[.int .u8 it.kind,.int .i64 it.n,.string it.t,.slice an it.names.length cn,.slice ai it.items.length ci]))
 (hba:Below w3.heap.size w3 wa) (hg:wa.grownBy w4 vi.ownBlock) (hat:vi.ownBlock=some g∨w3.heap.size≤g) :
 qM w4 B (fun b=>(Value.slice (some ⟨g,0,none⟩) (k+1) cap).ownBlock=some b) (l ++ [it]) (cs ++ [.int .u8 it.kind,.int .i64 it.n,.string it.t,.slice an it.names.length cn,.slice ai it.items.length ci]):=by
 have hz3:=hb3.size
 have hza:=hba.size
 have hz4:=hg.size
 have hoz:∀b,vi.ownBlock=some b→b<wr.heap.size:=fun b hb=>(hown.lt b hb).2
 have s1:∀b,b<wr.heap.size→vi.ownBlock≠some b→w4.heap[b]?=wr.heap[b]?:=fun b hb hne=>by
  rw [hg.block b (by omega) (fun e=>hne e.symm),hba.block b (by omega),hb3.block b hb]
 have hgb:∀b,(Value.slice (some ⟨g,0,none⟩) (k+1) cap).ownBlock=some b→b=g:=fun b hb=>by simp [Value.ownBlock] at hb;exact hb.symm
 have c1:=hrr.carry (w':=w4) (base':=B) (X':=fun b=>(Value.slice (some ⟨g,0,none⟩) (k+1) cap).ownBlock=some b) (by omega) lz (fun b hb hx=>s1 b hb hx) (fun b hx=>by
  rw [hgb b hx]
  rcases hat with h|h
  · exact .inl h
  · exact .inr (by omega))
 refine c1.snoc it lo hi an cn ai ci (by omega) (by omega) (fun b hx hb=>?_) (Rep.carry lz lz (fun b h1 h2=>?_) _ _ hr3)
 · rw [hgb b hx] at hb
   rcases hat with h|h
   · have:=hoz g h;omega
   · omega
 · rw [hg.block b (by omega) (fun e=>by have:=hoz b e.symm;omega),hba.block b (by omega)]
theorem bH {u:JV} {w w':World} {e:Ending} (h:jP u w e w') (hk:u.kind=5) (hn:u.n=0) (ht:u.t=⟨#[]⟩):vm u w e w':=by
 obtain ⟨an,cn,ai,ci,h1,h2,h3⟩:=h
 refine ⟨an,cn,ai,ci,?_,?_,h3⟩
 · rw [h1,hk,hn,ht]
 · rw [hk,hn,ht];exact h2
set_option maxHeartbeats 8000000 in
set_option maxRecDepth 100000 in
theorem y8 (l:List Key2) (rs:List DelegV) (t bits:Int) (ids:List ByteArray) (pre:ByteArray) (ka ra ba:Option Addr) (kc rc bc:Nat) (w:World) (hI:DelegsIn w 0 w.heap.size ⟨l,rs,⟨bits,pre,⟨t,ids⟩⟩⟩ ka ra ba) (hm:zY ⟨l,rs,⟨bits,pre,⟨t,ids⟩⟩⟩=true) (hT:Tabs w) :
 Calls Tryz.prog 85 #[.agg #[.slice ka l.length kc,.slice ra rs.length rc,.int .i64 t,.slice ba ids.length bc,.int .i64 bits,.string pre]] w (jP (qg ⟨l,rs,⟨bits,pre,⟨t,ids⟩⟩⟩) w):=by
 have hm2:=hm
 rw [zB,Bool.and_eq_true] at hm2
 dsimp only at hm2
 obtain ⟨hk,hm2⟩:=hm2
 have HMK:=Lh hk
 have HM2:=Lh hm2
 have hklen:l.length≤32:=(qA.1 hk).1
 obtain ⟨W,hW⟩:∃W,W=(w.alloc (.cells #[.slice ka l.length kc,.slice ra rs.length rc,.int .i64 t,.slice ba ids.length bc,.int .i64 bits,.string pre] 35)).alloc (.cells #[.int .u8 0,.int .i64 0,.string ⟨#[]⟩,.slice none 0 0,.slice none 0 0] 25):=⟨_,rfl⟩
 have hz1:(w.alloc (.cells #[.slice ka l.length kc,.slice ra rs.length rc,.int .i64 t,.slice ba ids.length bc,.int .i64 bits,.string pre] 35)).heap.size=w.heap.size+1:=by simp
 have hb:Below w.heap.size w W:=by rw [hW];exact ((Below.refl _ _).alloc lz _).alloc (by simp) _
 have hx:W.heap[w.heap.size]?=some (.cells #[.slice ka l.length kc,.slice ra rs.length rc,.int .i64 t,.slice ba ids.length bc,.int .i64 bits,.string pre] 35 (0,0)):=by rw [hW];exact zk w _ _
 have hr0:W.rowIs (w.heap.size+1) 25 5 (qQ (.int .u8 0) (.int .i64 0) (.string ⟨#[]⟩) (.slice none 0 0) (.slice none 0 0)):=by
  have:=qp (w.alloc (.cells #[.slice ka l.length kc,.slice ra rs.length rc,.int .i64 t,.slice ba ids.length bc,.int .i64 bits,.string pre] 35)) (.int .u8 0) (.int .i64 0) (.string ⟨#[]⟩) (.slice none 0 0) (.slice none 0 0) 25
  rw [hz1,← hW] at this
  exact this
 have HC:=Lh (show ∀w':World,Below W.heap.size W w'→w'.cell? ⟨w.heap.size,0,none⟩=some (.slice ka l.length kc)∧w'.cell? ⟨w.heap.size,1,none⟩=some (.slice ra rs.length rc)∧w'.cell? ⟨w.heap.size,2,none⟩=some (.int .i64 t)∧w'.cell? ⟨w.heap.size,3,none⟩=some (.slice ba ids.length bc)∧w'.cell? ⟨w.heap.size,4,none⟩=some (.int .i64 bits)∧w'.cell? ⟨w.heap.size,5,none⟩=some (.string pre) from fun w' h=>by
  have y:=(h.block _ (qx hx)).trans hx
  exact ⟨qq y rfl,qq y rfl,qq y rfl,qq y rfl,qq y rfl,qq y rfl⟩)
 have HR0:=Lh hr0
 have HB:=Lh hb
 have HZ2:=Lh (show w.heap.size+2≤W.heap.size from hr0.lt)
 have HW:=Lh hW
 have HI:=Lh (show ∀w':World,Below W.heap.size W w'→DelegsIn w' 0 w'.heap.size ⟨l,rs,⟨bits,pre,⟨t,ids⟩⟩⟩ ka ra ba from fun w' h=>hI.below (hb.trans (h.mono hb.size)) lz lz (Nat.le_trans hb.size h.size))
 have HKT:=Lh (yX l ka kc W (HI.out W (Below.refl _ _)).keys hk (hT.below hb))
 have HNO:=Lh (fun w'=>jT t bits ids pre ba bc w')
 have HBO:=Lh (show ∀w':World,Below W.heap.size W w'→qI ⟨bits,pre,⟨t,ids⟩⟩=true→_ from fun w' h hmb=>kA bits t ids pre ba bc w' (HI.out w' h).bids hmb)
 have HJ:=Lh (show qg ⟨l,rs,⟨bits,pre,⟨t,ids⟩⟩⟩=jz (qF ⟨l,rs,⟨bits,pre,⟨t,ids⟩⟩⟩) from rfl)
 have HTW:=Lh (show (qT l).wt≤4294967296 from by
  have:=wW (m:=l) (fun k hk'=>by have:=wY ((qA.1 hk).2.1 k hk');omega)
  omega)
 obtain ⟨J,hJ⟩:∃J,J=qg ⟨l,rs,⟨bits,pre,⟨t,ids⟩⟩⟩:=⟨_,rfl⟩
 rw [← hJ] at HJ ⊢
 obtain ⟨nb,hnb⟩:∃nb,nb=zg ⟨bits,pre,⟨t,ids⟩⟩:=⟨_,rfl⟩
 rw [← hnb] at HNO HM2
 have HNB:=Lh hnb
 clear hW hb hx hr0 hz1 hI hm hm2 hk hJ hnb hT
 obtain ⟨q0,q1,q2,q3,q4,q5⟩:=HC.out W (Below.refl _ _)
 go_enter Tryz.func85,Tryz.ntmps85
 go_upto_region 1 with fail
 rw [← HW.out]
 clear HW
 go_wp2_with fail
 refine HKT.out.mono ?_
 clear HKT q0 q1 q2 q3 q4 q5
 rintro r w1 ⟨an,cn,ai,ci,rfl,hr1,hb1⟩
 obtain ⟨W2,hW2⟩:∃W2,W2=w1.alloc (.cells #[.int .u8 5,.int .i64 0,.string ⟨#[]⟩,.slice an l.length cn,.slice ai l.length ci] 25):=⟨_,rfl⟩
 have hb12:Below w1.heap.size w1 W2:=by rw [hW2];exact (Below.refl _ _).alloc lz _
 have hx2:W2.heap[w1.heap.size]?=some (.cells #[.int .u8 5,.int .i64 0,.string ⟨#[]⟩,.slice an l.length cn,.slice ai l.length ci] 25 (0,0)):=by rw [hW2];exact heap_alloc_new w1 _
 have HR1:=Lh hr1
 have HB1:=Lh hb1
 have HB12:=Lh hb12
 have HW2:=Lh hW2
 obtain ⟨z0,z1,z2,z3,z4⟩:=bx5 hx2
 clear hr1 hb1 hb12 hx2 hW2
 go_upto_region 2 with fail
 rw [← HW2.out]
 clear HW2
 obtain ⟨W3,hW3⟩:∃W3,W3=W2.alloc (.cells #[.string ⟨#[107,101,121,115]⟩,.int .u8 5,.int .i64 0,.string ⟨#[]⟩,.slice an l.length cn,.slice ai l.length ci] 169):=⟨_,rfl⟩
 have hb23:Below W2.heap.size W2 W3:=by rw [hW3];exact (Below.refl _ _).alloc lz _
 have hx3:W3.heap[W2.heap.size]?=some (.cells #[.string ⟨#[107,101,121,115]⟩,.int .u8 5,.int .i64 0,.string ⟨#[]⟩,.slice an l.length cn,.slice ai l.length ci] 169 (0,0)):=by rw [hW3];exact heap_alloc_new W2 _
 obtain ⟨g0,hg0⟩:∃g0,g0=W2.heap.size:=⟨_,rfl⟩
 have HG0:=Lh hg0
 have hb13:Below w1.heap.size w1 W3:=HB12.out.trans (hb23.mono HB12.out.size)
 have HM3:=Lh (show MemsAt W.heap.size W3 (.slice (some ⟨g0,0,none⟩) 1 1) [(⟨keysN,5,0,⟨#[]⟩,an,l.length,cn,ai,l.length,ci⟩:Mem)] [qT l] from by
  rw [hg0]
  exact MemsAt.one (⟨keysN,5,0,⟨#[]⟩,an,l.length,cn,ai,l.length,ci⟩:Mem) (qT l) W.heap.size w1.heap.size (Nat.le_trans HB1.out.size HB12.out.size) lz HB12.out.size (HR1.out.below hb13 lz lz lz) hx3)
 have HB3:=Lh (HB1.out.trans (hb13.mono HB1.out.size))
 have HW3:=Lh hW3
 clear hb23 hx3 hW3 hg0 hb13 HR1
 go_upto_region 3 with fail
 rw [← HW3.out,← HG0.out]
 clear HW3 z0 z1 z2 z3 z4
 obtain ⟨q0,q1,q2,q3,q4,q5⟩:=HC.out W3 HB3.out
 go_wp2_with fail
 refine (HNO.out _).mono ?_
 clear HNO q0 q1 q2 q3 q4 q5
 rintro r w4 ⟨rfl,hb4⟩
 have HM4:=Lh (HM3.out.below hb4)
 have HB4:=Lh (HB3.out.trans (hb4.mono HB3.out.size))
 obtain ⟨q0,q1,q2,q3,q4,q5⟩:=HC.out w4 HB4.out
 clear hb4 HM3 HB12
 obtain ⟨i1,hi1,hy0,hy1,hy2⟩:=info_parts js
 cases nb with
 | true =>
  have HMR:=Lh (show zq rs=true from HM2.out)
  have HALL:=Lh (show rs.length≤64∧∀x ∈ rs,qX x=true from by
   have h:=HMR.out
   unfold zq at h
   simp only [Bool.and_eq_true,decide_eq_true_eq] at h
   exact ⟨h.1.1,fun x hx=>List.all_eq_true.1 h.1.2 x hx⟩)
  replace HJ:=Lh (show J=jz [(keysN,qT l),(z7,zu (rs.map qb))] from by
   rw [HJ.out]
   unfold qF
   rw [if_pos HNB.out.symm])
  obtain ⟨i0,hi0,hz0,hz1,hz2⟩:=info_parts xv
  obtain ⟨nn,hnn⟩:∃nn,nn=rs.length:=⟨_,rfl⟩
  have HNN:=Lh hnn
  have hnl:nn≤64:=by rw [hnn];exact HALL.out.1
  rw [← hnn] at HC q1 ⊢
  clear hnn
  have h4z:W.heap.size≤w4.heap.size:=HB4.out.size
  go_upto_region 5 with (at_make;refine wpList_make_own _ rfl (.const (.int .i64 0)) (.tmp 25) 23 rfl W.heap.size 25 i0 _ 5 Tryz.underlying23 hi0 hz0 hz1 .i64 .i64 _ nn rfl rfl rfl (by rw [hz2];omega) (by unfold maxLen;omega) h4z ?_;intro w5 hown5 hgrow5;have HO5:=Lh hown5;have HB5:=Lh (below_grown (v:=.slice none 0 0) (Below.refl w4.heap.size w4) lz hgrow5 (fun b hb=>by cases hb));obtain ⟨q0,q1,q2,q3,q4,q5⟩:=HC.out w5 (HB4.out.trans (HB5.out.mono HB4.out.size));clear hown5 hgrow5)
  go_wp2_with fail
  go_loopw [6,8,30] (fun s6 _ i wr=>∃(k:Nat) (cs:List Value),k≤nn∧i=.int .i64 k∧wr.ownsRow W.heap.size 25 5 s6 k cs∧qM wr W.heap.size (fun b=>s6.ownBlock=some b) ((rs.take k).map qb) cs∧(∀b,s6.ownBlock=some b→w4.heap.size≤b)∧Below w4.heap.size w4 wr) (fun _ _ i _=>nn - (intOf i).toNat)
  case atStart=>exact ⟨0,[],by omega,rfl,HO5.out,by simpa using qM.nil _ _ _,fun b hb=>by simp only [Value.ownBlock,Option.some.injEq] at hb;omega,HB5.out⟩
  case round =>
   obtain ⟨k,cs,hk,rfl,hown,hrr,hblk,hbr⟩:=hrel
   have HO:=Lh hown
   have HRR:=Lh hrr
   have HBL:=Lh hblk
   have HBR:=Lh hbr
   have HBW:=Lh (HB4.out.trans (hbr.mono HB4.out.size))
   clear hown hrr hblk hbr HO5 HB5 q0 q1 q2 q3 q4 q5
   by_cases hlt:k<nn
   · have hkl:k<rs.length:=by rw [← HNN.out];exact hlt
     obtain ⟨b,o,ha,-,hbb,ia,ic,pa,pc,qa,qc,e0,e1,e2,e3,e4,e5,-,-,-,hin⟩:=(HI.out wr HBW.out).roles.at k hkl
     subst ha
     have m1:(0:Int)≤(k:Int):=by omega
     have m2:(k:Int)<(nn:Int):=by omega
     have m3:decide ((k:Int)<(nn:Int))=true:=by simpa using hlt
     have hmx:=HALL.out.2 rs[k] (List.getElem_mem hkl)
     have HTK:=Lh (show (rs.take (k+1)).map qb=(rs.take k).map qb ++ [qb rs[k]] from by rw [List.take_succ_eq_append_getElem hkl,List.map_append];rfl)
     obtain ⟨x,hx⟩:∃x,x=rs[k]:=⟨_,rfl⟩
     rw [← hx] at e0 e1 e2 e3 e4 e5 hin hmx HTK
     clear hx
     obtain ⟨nm,au,tm,ps,qs⟩:=x
     obtain ⟨thr,xid⟩:=au
     dsimp only at e0 e1 e2 e3 e4 e5
     obtain ⟨WX,hWX⟩:∃WX,WX=wr.alloc (.cells #[.string nm,.int .i64 thr,.slice ia xid.length ic,.bool tm,.slice pa ps.length pc,.slice qa qs.length qc] 41):=⟨_,rfl⟩
     have hbX:Below wr.heap.size wr WX:=by rw [hWX];exact (Below.refl _ _).alloc lz _
     have hxX:WX.heap[wr.heap.size]?=some (.cells #[.string nm,.int .i64 thr,.slice ia xid.length ic,.bool tm,.slice pa ps.length pc,.slice qa qs.length qc] 41 (0,0)):=by rw [hWX];exact heap_alloc_new wr _
     have z0:=qq hxX (j:=0) rfl;have z1:=qq hxX (j:=1) rfl;have z2:=qq hxX (j:=2) rfl;have z3:=qq hxX (j:=3) rfl;have z4:=qq hxX (j:=4) rfl;have z5:=qq hxX (j:=5) rfl
     have HRO:=Lh ((kS nm thr xid tm ps qs ia pa qa ic pc qc WX (hin.below hbX lz lz hbX.size) hmx).mono fun e w' h=>bH h rfl rfl rfl)
     unfold vm at HRO
     obtain ⟨u,hu⟩:∃u,u=qb ⟨nm,⟨thr,xid⟩,tm,ps,qs⟩:=⟨_,rfl⟩
     rw [← hu] at HRO HTK
     have HBX:=Lh hbX
     have HWX:=Lh hWX
     clear hbX hxX hWX hin hmx hu
     go_upto_region 8 with fail
     rw [← HWX.out]
     clear e0 e1 e2 e3 e4 e5 HWX
     go_wp2_with fail
     refine HRO.out.mono ?_
     clear HRO z0 z1 z2 z3 z4 z5
     rintro r w6 ⟨an3,cn3,ai3,ci3,rfl,hr6,hb6⟩
     have HR6:=Lh hr6
     have HB6:=Lh (HBX.out.trans (hb6.mono HBX.out.size))
     have HO6:=Lh (qB HO.out HB6.out)
     have HZ6:=Lh (show wr.heap.size≤WX.heap.size∧WX.heap.size≤w6.heap.size from ⟨HBX.out.size,hb6.size⟩)
     have h6z:W.heap.size≤w6.heap.size:=Nat.le_trans HBW.out.size HB6.out.size
     clear hr6 hb6
     go_wp2_with (at_builtin;refine wpList_append_lies _ rfl (.tmp 34) (.tmp 37) 23 rfl W.heap.size 25 i0 _ 5 80 Tryz.underlying23 hi0 hz0 hz1 hz2 rfl (by omega) u6 k cs rfl (HO6.out.alloc _) ⟨w6.heap.size,0,none⟩ 1 1 (Array.toList #[.int .u8 u.kind,.int .i64 u.n,.string u.t,.slice an3 u.names.length cn3,.slice ai3 u.items.length ci3]) rfl rfl (World.news_of_block (cs:=#[.int .u8 u.kind,.int .i64 u.n,.string u.t,.slice an3 u.names.length cn3,.slice ai3 u.items.length ci3]) (t:=25) (fr:=(0,0)) (heap_alloc_new w6 _)) (by simp [Value.oneCell']) (by omega) (by unfold maxLen;omega) (by omega) (by simp;omega) (w6.heap.size+1) (by simp) ?_;intro g cap w7 hown7 hgrow7 hat7 hlt7;have HO7:=Lh hown7;have HG7:=Lh hgrow7;have HA7:=Lh hat7;clear hown7 hgrow7 hat7)
     have hga:Below w6.heap.size w6 (w6.alloc (.cells #[.int .u8 u.kind,.int .i64 u.n,.string u.t,.slice an3 u.names.length cn3,.slice ai3 u.items.length ci3] 25)):=(Below.refl _ _).alloc lz _
     have HRN:=Lh (pO (cap:=cap) (k:=k) (g:=g) HO.out HRR.out HB6.out HBW.out.size HZ6.out.1 lz HR6.out hga HG7.out (by
      rcases HA7.out with h|h
      · exact .inl h
      · exact .inr (by omega)))
     have HBN:=Lh (below_grown ((HBR.out.trans (HB6.out.mono HBR.out.size)).trans (hga.mono (Nat.le_trans HBR.out.size HB6.out.size))) (by have:=HBR.out.size;have:=HB6.out.size;simp;omega) HG7.out (fun b hb=>HBL.out b hb))
     have HGN:=Lh (show w4.heap.size≤g from by
      rcases HA7.out with h|h
      · exact HBL.out g h
      · have:=HBR.out.size;have:=HB6.out.size;omega)
     clear hga HG7 HA7 HR6 HO6 HB6
     go_roundw
     case rel=>exact ⟨k+1,_,by omega,by go_num,HO7.out,by rw [HTK.out];exact HRN.out,fun b hb=>by simp only [Value.ownBlock,Option.some.injEq] at hb;have:=HGN.out;omega,HBN.out⟩
     case measure=>simp [intOf];omega
   · have m3:decide ((k:Int)<(nn:Int))=false:=by simpa using hlt
     have HNK:=Lh (show k=rs.length from by rw [← HNN.out];omega)
     have hni:rs.take k=rs:=List.take_of_length_le (by rw [HNK.out];exact Nat.le_refl _)
     have HVA:=Lh (show ∃a c,u6=.slice a k c∧qR wr W.heap.size wr.heap.size a (rs.map qb) from by
      have h:=HRR.out
      rw [hni] at h
      obtain ⟨a,c,h1,h2,h3⟩:=zC HO.out h (by rw [List.length_map,← HNK.out])
      refine ⟨a,c,?_,h3⟩
      rw [h1,List.length_map,← HNK.out])
     clear hni HRR HO HBL
     obtain ⟨va,vc,hs6,hva⟩:=HVA.out
     subst hs6
     have HLS:=Lh (rC (rs.map qb) va vc W.heap.size wr (by have:=HZ2.out;omega) hva (by rw [List.length_map,← HNK.out];omega) (fun x hx=>by
      obtain ⟨y,hy,rfl⟩:=List.mem_map.1 hx
      have:=yJ (HALL.out.2 y hy);omega))
     unfold ya at HLS
     rw [List.length_map,← HNK.out] at HLS
     have HMW:=Lh (HM4.out.below HBR.out)
     clear hva HVA
     go_wp2_with fail
     refine HLS.out.mono ?_
     clear HLS
     rintro r w5 ⟨a5,c5,rfl,hr5,hb5⟩
     have HR5:=Lh hr5
     have HB5:=Lh hb5
     have HBQ:=Lh HBW.out
     have hwq:W.heap.size≤wr.heap.size:=HBW.out.size
     have hw5:W.heap.size≤w5.heap.size:=Nat.le_trans hwq hb5.size
     have HM5:=Lh (HMW.out.below hb5)
     have HO5:=Lh (show w5.ownsRow W.heap.size 169 6 (.slice (some ⟨g0,0,none⟩) 1 1) 1 (q8 [(⟨keysN,5,0,⟨#[]⟩,an,l.length,cn,ai,l.length,ci⟩:Mem)]) from HM5.out.own)
     have HZ5:=Lh (show g0<wr.heap.size from (HMW.out.own.lt g0 rfl).2)
     clear hr5 hb5
     go_upto_region 12 with (at_builtin;refine wpList_append_lies _ rfl (.tmp 40) (.tmp 44) 170 rfl W.heap.size 169 i1 _ 6 96 Tryz.underlying170 hi1 hy0 hy1 hy2 rfl (by omega) (.slice (some ⟨g0,0,none⟩) 1 1) 1 (q8 [(⟨keysN,5,0,⟨#[]⟩,an,l.length,cn,ai,l.length,ci⟩:Mem)]) rfl (HO5.out.alloc _) ⟨w5.heap.size,0,none⟩ 1 1 (qV (⟨z7,4,0,⟨#[]⟩,none,0,0,a5,k,c5⟩:Mem)) rfl rfl (World.news_of_block (cs:=#[.string ⟨#[114,111,108,101,115]⟩,.int .u8 4,.int .i64 0,.string ⟨#[]⟩,.slice none 0 0,.slice a5 k c5]) (t:=169) (fr:=(0,0)) (heap_alloc_new w5 _)) (xq _) (by omega) (by unfold maxLen;omega) (by omega) (by simp;omega) (w5.heap.size+1) (by simp) ?_;intro g3 cap3 w6 hown6 hgrow6 hat6 hlt6;have HO6:=Lh hown6;have HG6:=Lh hgrow6;have HA6:=Lh hat6;clear hown6 hgrow6 hat6)
     have hga:Below w5.heap.size w5 (w5.alloc (.cells #[.string ⟨#[114,111,108,101,115]⟩,.int .u8 4,.int .i64 0,.string ⟨#[]⟩,.slice none 0 0,.slice a5 k c5] 169)):=(Below.refl _ _).alloc lz _
     have HBF:=Lh (below_grown ((HBQ.out.trans (HB5.out.mono hwq)).trans (hga.mono hw5)) (by simp;omega) HG6.out (fun b hb=>(HO5.out.lt b hb).1))
     have HMF:=Lh (show MemsAt W.heap.size w6 (.slice (some ⟨g3,0,none⟩) 2 cap3) ([(⟨keysN,5,0,⟨#[]⟩,an,l.length,cn,ai,l.length,ci⟩:Mem)] ++ [(⟨z7,4,0,⟨#[]⟩,none,0,0,a5,k,c5⟩:Mem)]) ([qT l] ++ [zu (rs.map qb)]) from (HM5.out.below hga).snoc (⟨z7,4,0,⟨#[]⟩,none,0,0,a5,k,c5⟩:Mem) (zu (rs.map qb)) wr.heap.size w5.heap.size hwq (by simp) (fun b hb=>by simp only [Value.ownBlock,Option.some.injEq] at hb;have:=HZ5.out;omega) (HR5.out.below hga lz lz lz) HG6.out HO6.out (by
      rcases HA6.out with h|h
      · exact .inl h.symm
      · exact .inr ⟨g3,rfl,by simp;omega⟩))
     have HZF:=Lh HZ2.out
     clear HO5 HO6 HG6 HA6 HMW HM5 HB5 HR5 hga
     have HMO:=Lh (bB (v:=.slice (some ⟨g3,0,none⟩) 2 cap3) [(keysN,qT l),(z7,zu (rs.map qb))] (N:=[(keysN,qT l),(z7,zu (rs.map qb))]) ⟨_,by simpa using HMF.out,by simp⟩ ⟨_,_,rfl⟩ (List.Perm.refl _) zm.2.2.2.1 (by simp) (fun p hp=>by
      simp only [List.mem_cons,List.not_mem_nil,or_false] at hp
      rcases hp with rfl|rfl
      · exact HTW.out
      · show (zu (rs.map qb)).wt≤4294967296;rw [yK];have h1:=kC rs HALL.out.2;have h2:=HALL.out.1;omega) (by have:=HZF.out;omega))
     clear HMF
     go_wp2_with fail
     refine HMO.out.mono ?_
     clear HMO
     rintro e w8 ⟨an8,cn8,ai8,ci8,rfl,hr8,hb8⟩
     have hbF:Below W.heap.size W w8:=HBF.out.trans (hb8.mono HBF.out.size)
     obtain ⟨W9,hW9⟩:∃W9,W9=w8.alloc (.cells #[.int .u8 5,.int .i64 0,.string ⟨#[]⟩,.slice an8 2 cn8,.slice ai8 2 ci8] 25):=⟨_,rfl⟩
     have hb9:Below w8.heap.size w8 W9:=by rw [hW9];exact (Below.refl _ _).alloc lz _
     have hx9:W9.heap[w8.heap.size]?=some (.cells #[.int .u8 5,.int .i64 0,.string ⟨#[]⟩,.slice an8 2 cn8,.slice ai8 2 ci8] 25 (0,0)):=by rw [hW9];exact heap_alloc_new w8 _
     have hres:=qj (hbF.trans (hb9.mono hbF.size)) HR0.out HR0.out.lt
     have HRS:=Lh hres
     have HR8:=Lh (Rep.below hr8 (B:=w8.heap.size) hb9 lz lz hb9.size)
     have HZ8:=Lh (show w.heap.size+2≤w6.heap.size from Nat.le_trans HZ2.out HBF.out.size)
     have HB8:=Lh (HB.out.trans ((hbF.trans (hb9.mono hbF.size)).mono HB.out.size))
     obtain ⟨z0,z1,z2,z3,z4⟩:=bx5 hx9
     obtain ⟨t0,t1,t2,t3,t4⟩:=rc5 hres
     obtain ⟨s0,s1,s2,s3,s4⟩:=rf5 hres
     simp only [qQ] at t0 t1 t2 t3 t4
     have HW9:=Lh hW9
     clear hres hr8 hb8 hbF hb9 hx9 hW9
     go_upto_region 13 with fail
     rw [← HW9.out]
     clear HW9
     go_wp2
     refine bodyPost_ret (results_cell_row Tryz.results85 _ _ (w.heap.size+1) 25 _ (0,0) _ rfl (qi (set5 _ _ _ _ _ HRS.out)) Tryz.underlying25 rfl (by kernel_rfl)) rfl ?_
     rw [HJ.out]
     refine ⟨an8,cn8,ai8,ci8,rfl,?_,q7 _ _ _ _ _ HB8.out (by omega)⟩
     exact Rep.carry (by have:=HZ8.out;omega) (show W9.heap.size≤_ by simp [World.setCell]) (fun j hj _=>xr _ _ _ _ _ (by have:=HZ8.out;omega)) _ _ HR8.out
 | false =>
  have HMB:=Lh (show qI ⟨bits,pre,⟨t,ids⟩⟩=true from by
   have h:=HM2.out
   simp only [Bool.false_eq_true,if_false,Bool.and_eq_true] at h
   exact h.2)
  replace HJ:=Lh (show J=jz [(keysN,qT l),(zA,zV ⟨bits,pre,⟨t,ids⟩⟩)] from by
   rw [HJ.out]
   unfold qF
   rw [if_neg (by rw [← HNB.out];decide)])
  have HBB:=Lh (HBO.out w4 HB4.out HMB.out)
  unfold jP at HBB
  have HWB:=Lh (bF HMB.out)
  obtain ⟨u,hu⟩:∃u,u=zV ⟨bits,pre,⟨t,ids⟩⟩:=⟨_,rfl⟩
  have HUK:=Lh (show u.kind=5∧u.n=0∧u.t=⟨#[]⟩ from by rw [hu];exact ⟨rfl,rfl,rfl⟩)
  rw [← hu] at HBB HJ HWB
  clear hu
  have HMW:=Lh HM4.out
  have HBQ:=Lh HB4.out
  have hwq:W.heap.size≤w4.heap.size:=HB4.out.size
  go_wp2_with fail
  refine HBB.out.mono ?_
  clear HBB q0 q1 q2 q3 q4 q5
  rintro r w5 ⟨a6,c6,a5,c5,rfl,hr5,hb5⟩
  have HR5:=Lh hr5
  have HB5:=Lh hb5
  have hw5:W.heap.size≤w5.heap.size:=Nat.le_trans hwq hb5.size
  have HM5:=Lh (HMW.out.below hb5)
  have HO5:=Lh (show w5.ownsRow W.heap.size 169 6 (.slice (some ⟨g0,0,none⟩) 1 1) 1 (q8 [(⟨keysN,5,0,⟨#[]⟩,an,l.length,cn,ai,l.length,ci⟩:Mem)]) from HM5.out.own)
  have HZ5:=Lh (show g0<w4.heap.size from (HMW.out.own.lt g0 rfl).2)
  clear hr5 hb5
  go_upto_region 12 with (at_builtin;refine wpList_append_lies _ rfl (.tmp 46) (.tmp 51) 170 rfl W.heap.size 169 i1 _ 6 96 Tryz.underlying170 hi1 hy0 hy1 hy2 rfl (by omega) (.slice (some ⟨g0,0,none⟩) 1 1) 1 (q8 [(⟨keysN,5,0,⟨#[]⟩,an,l.length,cn,ai,l.length,ci⟩:Mem)]) rfl (HO5.out.alloc _) ⟨w5.heap.size,0,none⟩ 1 1 (qV (⟨zA,5,0,⟨#[]⟩,a6,u.names.length,c6,a5,u.items.length,c5⟩:Mem)) rfl rfl (World.news_of_block (cs:=#[.string ⟨#[115,117,99,99,105,110,99,116,95,114,111,108,101,115]⟩,.int .u8 5,.int .i64 0,.string ⟨#[]⟩,.slice a6 u.names.length c6,.slice a5 u.items.length c5]) (t:=169) (fr:=(0,0)) (heap_alloc_new w5 _)) (xq _) (by omega) (by unfold maxLen;omega) (by omega) (by simp;omega) (w5.heap.size+1) (by simp) ?_;intro g3 cap3 w6 hown6 hgrow6 hat6 hlt6;have HO6:=Lh hown6;have HG6:=Lh hgrow6;have HA6:=Lh hat6;clear hown6 hgrow6 hat6)
  have hga:Below w5.heap.size w5 (w5.alloc (.cells #[.string ⟨#[115,117,99,99,105,110,99,116,95,114,111,108,101,115]⟩,.int .u8 5,.int .i64 0,.string ⟨#[]⟩,.slice a6 u.names.length c6,.slice a5 u.items.length c5] 169)):=(Below.refl _ _).alloc lz _
  have HBF:=Lh (below_grown ((HBQ.out.trans (HB5.out.mono hwq)).trans (hga.mono hw5)) (by simp;omega) HG6.out (fun b hb=>(HO5.out.lt b hb).1))
  have HMF:=Lh (show MemsAt W.heap.size w6 (.slice (some ⟨g3,0,none⟩) 2 cap3) ([(⟨keysN,5,0,⟨#[]⟩,an,l.length,cn,ai,l.length,ci⟩:Mem)] ++ [(⟨zA,5,0,⟨#[]⟩,a6,u.names.length,c6,a5,u.items.length,c5⟩:Mem)]) ([qT l] ++ [u]) from (HM5.out.below hga).snoc (⟨zA,5,0,⟨#[]⟩,a6,u.names.length,c6,a5,u.items.length,c5⟩:Mem) (u) w4.heap.size w5.heap.size hwq (by simp) (fun b hb=>by simp only [Value.ownBlock,Option.some.injEq] at hb;have:=HZ5.out;omega) (HR5.out.below hga lz lz lz) HG6.out HO6.out (by
   rcases HA6.out with h|h
   · exact .inl h.symm
   · exact .inr ⟨g3,rfl,by simp;omega⟩))
  have HZF:=Lh HZ2.out
  clear HO5 HO6 HG6 HA6 HMW HM5 HB5 HR5 hga
  have HMO:=Lh (bB (v:=.slice (some ⟨g3,0,none⟩) 2 cap3) [(keysN,qT l),(zA,u)] (N:=[(keysN,qT l),(zA,u)]) ⟨_,by simpa using HMF.out,by simp⟩ ⟨_,_,rfl⟩ (List.Perm.refl _) zm.2.2.2.2 (by simp) (fun p hp=>by
   simp only [List.mem_cons,List.not_mem_nil,or_false] at hp
   rcases hp with rfl|rfl
   · exact HTW.out
   · show u.wt≤4294967296;have:=HWB.out;omega) (by have:=HZF.out;omega))
  clear HMF
  go_wp2_with fail
  refine HMO.out.mono ?_
  clear HMO
  rintro e w8 ⟨an8,cn8,ai8,ci8,rfl,hr8,hb8⟩
  have hbF:Below W.heap.size W w8:=HBF.out.trans (hb8.mono HBF.out.size)
  obtain ⟨W9,hW9⟩:∃W9,W9=w8.alloc (.cells #[.int .u8 5,.int .i64 0,.string ⟨#[]⟩,.slice an8 2 cn8,.slice ai8 2 ci8] 25):=⟨_,rfl⟩
  have hb9:Below w8.heap.size w8 W9:=by rw [hW9];exact (Below.refl _ _).alloc lz _
  have hx9:W9.heap[w8.heap.size]?=some (.cells #[.int .u8 5,.int .i64 0,.string ⟨#[]⟩,.slice an8 2 cn8,.slice ai8 2 ci8] 25 (0,0)):=by rw [hW9];exact heap_alloc_new w8 _
  have hres:=qj (hbF.trans (hb9.mono hbF.size)) HR0.out HR0.out.lt
  have HRS:=Lh hres
  have HR8:=Lh (Rep.below hr8 (B:=w8.heap.size) hb9 lz lz hb9.size)
  have HZ8:=Lh (show w.heap.size+2≤w6.heap.size from Nat.le_trans HZ2.out HBF.out.size)
  have HB8:=Lh (HB.out.trans ((hbF.trans (hb9.mono hbF.size)).mono HB.out.size))
  obtain ⟨z0,z1,z2,z3,z4⟩:=bx5 hx9
  obtain ⟨t0,t1,t2,t3,t4⟩:=rc5 hres
  obtain ⟨s0,s1,s2,s3,s4⟩:=rf5 hres
  simp only [qQ] at t0 t1 t2 t3 t4
  have HW9:=Lh hW9
  clear hres hr8 hb8 hbF hb9 hx9 hW9
  go_upto_region 13 with fail
  rw [← HW9.out]
  clear HW9
  go_wp2
  refine bodyPost_ret (results_cell_row Tryz.results85 _ _ (w.heap.size+1) 25 _ (0,0) _ rfl (qi (set5 _ _ _ _ _ HRS.out)) Tryz.underlying25 rfl (by kernel_rfl)) rfl ?_
  rw [HJ.out]
  refine ⟨an8,cn8,ai8,ci8,rfl,?_,q7 _ _ _ _ _ HB8.out (by omega)⟩
  exact Rep.carry (by have:=HZ8.out;omega) (show W9.heap.size≤_ by simp [World.setCell]) (fun j hj _=>xr _ _ _ _ _ (by have:=HZ8.out;omega)) _ _ HR8.out
end Go.Proofs.YthgembbgcbaghaaGreatDoor
