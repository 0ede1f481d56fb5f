/- pick.ObjectOf of members in any row, with what lies apart. Printed by mkx.py. -/
import Derived.Test.YthgembbgcbaghaaGreatDoorDa34
import Derived.Test.YthgembbgcbaghaaGreatDoorDa31
import Derived.OwnWalk

namespace Go.Proofs.YthgembbgcbaghaaGreatDoor
open Go.RowKit Go.Shelf Go.Sort
theorem nV (g cap:Nat) (d d':Array Mem) (w:World) (hH:HoldsK qV 6 w g 0 d) (hg:g<w.heap.size) (hn:d.size≤4294967296) (hp:d'.toList.Perm d.toList) (hr:bG d') :
 Calls Tryz.prog 206 #[.slice (some ⟨g,0,none⟩) d.size cap,.func (.func 207) #[] #[]] w fun e w'=>e=.returned (.tuple #[])∧HoldsK qV 6 w' g 0 d'∧Touch (· = g) w w':=by
 have eg:∀args w,(callFunc 207 args).run Tryz.prog w=.ok (.enter 207 args) w:=enters_of Tryz.func207 (by kernel_rfl) rfl
 have hcon:=AnyQ.slices_SortFunc gG 6 Tryz.isAgg169 Tryz.sizeOf169 qV zZ xq cfM tD 207 #[] g 0 cap d w eg (fun _ _ _ _ x y=>pd x y _) hH hg (by omega)
 refine hcon.mono ?_
 rintro e w' ⟨rfl,e',n,os,hpe,hs,rfl⟩
 have hsz:d'.size=d.size:=by simpa using hp.length_eq
 have hd:e'=d':=fX hr (by
  have:=hpe.2.2
  have e1:e'.extract 0 d.size=e':=by rw [← hpe.1];simp
  have e2:d.extract 0 d.size=d:=by simp
  rw [e1,e2] at this
  exact this.trans hp.symm) (fun i j hij hj=>by
  have:=hs i j (Nat.zero_le _) hij (by omega)
  rwa [vg] at this)
 subst hd
 exact ⟨rfl,holdsK_grow qV 6 _ _ _ _ _ (by simp [putRowK,Go.Sort.ahead];exact hg) (holdsK_putRowK qV 6 _ _ _ _ _ (holdsK_ahead qV 6 _ _ _ _ _ hH) hpe.1),jq⟩
theorem px (d d':Array Mem) (its:List JV) (blk off cap:Nat) (w:World) (lo hi:Nat) (hH:HoldsK qV 6 w blk off d) (hblk:blk<w.heap.size) (hn:d.size≤4294967296) (hp:d'.toList.Perm d.toList) (hr:bG d')
 (hl:d'.size=its.length) (hm:∀i (h:i<its.length),Rep w lo hi its[i] d'[i]!.val∧its[i].wt≤4294967296∧∀k (h':k<its[i].items.length),bD lo its[i].items[k])
 (hhi:hi≤w.heap.size) :
 Calls Tryz.prog 150 #[.slice (some ⟨blk,off,none⟩) d.size cap] w (wK (d'.toList.map (·.name)) its w) :=
 vF d d' its blk off cap w lo hi hH hblk hn (by simpa using hp.length_eq) (fun g cap1 w1 hH1 hg1=>nV g cap1 d d' w1 hH1 hg1 hn hp hr) hl hm (fun i h e=>by
  have:=hr i (i+1) h (by omega)
  rw [getElem!_pos d' i (by omega),getElem!_pos d' (i+1) h] at e
  rw [e,zc] at this;cases this) hhi
def dj (W0:Nat) (w:World) (v:Value) (N:List NJ):Prop :=
 ∃ms,MemsAt W0 w v ms (N.map (·.2))∧ms.map (·.name)=N.map (·.1)
theorem dj.len {W0:Nat} {w:World} {v:Value} {N:List NJ} (h:dj W0 w v N):∃ms,MemsAt W0 w v ms (N.map (·.2))∧ms.map (·.name)=N.map (·.1)∧ms.length=N.length:=by
 obtain ⟨ms,h1,h2⟩:=h
 exact ⟨ms,h1,h2,by have:=congrArg List.length h2;simpa using this⟩
theorem pN {α β:Type} (f:α→β):∀ {M L:List β},M.Perm L→∀Z:List α,Z.map f=L→∃Z':List α,Z'.Perm Z∧Z'.map f=M:=by
 intro M L h
 induction h with
 | nil=>intro Z hZ;exact ⟨Z,.refl _,by simpa using hZ⟩
 | @cons x l1 l2 h ih =>
  intro Z hZ
  cases Z with
  | nil=>simp at hZ
  | cons z zs =>
   simp only [List.map_cons,List.cons.injEq] at hZ
   obtain ⟨Z',h1,h2⟩:=ih zs hZ.2
   exact ⟨z :: Z',h1.cons z,by simp [h2,hZ.1]⟩
 | @swap x y l =>
  intro Z hZ
  cases Z with
  | nil=>simp at hZ
  | cons z zs =>
   cases zs with
   | nil=>simp at hZ
   | cons z2 zs =>
    simp only [List.map_cons,List.cons.injEq] at hZ
    exact ⟨z2 :: z :: zs,.swap _ _ _,by simp [hZ]⟩
 | @trans l1 l2 l3 h1 h2 ih1 ih2 =>
  intro Z hZ
  obtain ⟨Z2,a,b⟩:=ih2 Z hZ
  obtain ⟨Z1,c,d⟩:=ih1 Z2 b
  exact ⟨Z1,c.trans a,d⟩
theorem pS {ms:List Mem} {ns:List ByteArray} (h:qe ns=true) (hn:ms.map (·.name)=ns):bG ms.toArray:=by
 subst hn
 intro i j hj hij
 have hj':j<ms.length:=by simpa using hj
 have hs:=dm _ h i j (by simp;omega) (by simp;omega) hij
 simp only [List.getElem_toArray]
 unfold bl
 simpa using hs
theorem bB {W0:Nat} {w:World} {v:Value} {N:List NJ} (M:List NJ) (hM:dj W0 w v N) (hg:∃g cap,v=.slice (some ⟨g,0,none⟩) N.length cap) (hp:M.Perm N) (hr:qe (M.map (·.1))=true) (hl:N.length≤4294967296) (hw:∀p ∈ M,p.2.wt≤4294967296) (h0:0<W0) :
 Calls Tryz.prog 150 #[v] w (wK (M.map (·.1)) (M.map (·.2)) w):=by
 obtain ⟨ms,hms,hn,hlen⟩:=hM.len
 obtain ⟨g,cap,rfl⟩:=hg
 have hzl:(N.zip ms).length=N.length:=by simp [hlen]
 obtain ⟨Z,hZp,hZm⟩:=pN (fun z:NJ × Mem=>z.1) hp (N.zip ms) (by rw [List.map_fst_zip];omega)
 have hin:∀z ∈ Z,z.2.name=z.1.1∧Rep w W0 w.heap.size z.1.2 z.2.val:=fun z hz=>by
  obtain ⟨i,hi,rfl⟩:=List.getElem_of_mem (hZp.mem_iff.1 hz)
  have hi':i<N.length:=by omega
  rw [List.getElem_zip]
  have e1:=List.getElem_of_eq hn (i:=i) (by simp;omega)
  simp only [List.getElem_map] at e1
  obtain ⟨lo,hi2,h1,h2,_,hr⟩:=hms.reps i (by simp;omega)
  simp only [List.getElem_map] at hr
  exact ⟨e1,Rep.carry h1 h2 (fun _ _ _=>rfl) _ _ hr⟩
 have hlZ:Z.length=N.length:=by rw [hZp.length_eq,hzl]
 have hlM:M.length=Z.length:=by rw [← hZm,List.length_map]
 have hown:=hms.own
 rw [← hlen] at hown
 have hH:g<w.heap.size∧HoldsK qV 6 w g 0 ms.toArray:=by
  rcases Nat.eq_zero_or_pos ms.length with h|h
  · rcases hown.2 with ⟨hv,_⟩|⟨g',cap',cur,hv,hg,hh,hc,hm,hs,ht⟩
    · cases hv
    · cases hv
      refine ⟨qx hh,fun j hj=>?_⟩
      simp [h] at hj
  · obtain ⟨g',cap',hv,hlt,hH⟩:=pi hown h
    cases hv
    exact ⟨hlt,hH⟩
 have hnm:(Z.map (·.2)).map (·.name)=M.map (·.1):=by
  rw [List.map_map,← hZm,List.map_map]
  exact List.map_congr_left fun z hz=>(hin z hz).1
 have hms2:((N.zip ms).map (·.2))=ms:=by rw [List.map_snd_zip];omega
 have:=px ms.toArray (Z.map (·.2)).toArray (M.map (·.2)) g 0 cap w W0 w.heap.size hH.2 hH.1 (by simp;omega) (by
  have:=hZp.map (·.2)
  rw [hms2] at this
  simpa using this) (pS hr hnm) (by simp [hlM]) (fun i hi=>?_) lz
 · rw [show ((Z.map (·.2)).toArray.toList.map (·.name))=M.map (·.1) from hnm] at this
   rw [show ms.toArray.size=N.length by simp [hlen]] at this
   exact this
 · have hi':i<Z.length:=by have:=hi;simp at this;omega
   have hiM:i<M.length:=by omega
   have eM:M[i]=Z[i].1:=by
    have:=List.getElem_of_eq hZm (i:=i) (by simpa using hi')
    simpa using this.symm
   obtain ⟨_,hr⟩:=hin Z[i] (List.getElem_mem hi')
   refine ⟨?_,?_,fun k _=>.inl h0⟩
   · rw [getElem!_pos _ i (by simpa using hi')]
     simp only [List.getElem_toArray,List.getElem_map]
     rw [eM]
     exact hr
   · rw [List.getElem_map]
     exact hw _ (List.getElem_mem hiM)
def sN (b:Bool):Int:=if b then 1 else 0
theorem nW (w:World) (lo hi:Nat) (b:Bool):Rep w lo hi (zi b) (.agg #[.int .u8 1,.int .i64 (sN b),.string ⟨#[]⟩,.slice none 0 0,.slice none 0 0]):=by
 unfold zi Rep sN
 exact ⟨none,0,none,0,rfl,Nat.le_refl _,Nat.le_refl _,.inl rfl,.inl rfl⟩
set_option maxHeartbeats 400000 in
theorem ce (b:Bool) (w:World):Calls Tryz.prog 202 #[.bool b] w fun e w'=>e=.returned (.agg #[.int .u8 1,.int .i64 (sN b),.string ⟨#[]⟩,.slice none 0 0,.slice none 0 0])∧Below w.heap.size w w':=by
 have HB:=Lh (show Below w.heap.size w (w.alloc (.cells #[.int .u8 0,.int .i64 0,.string ⟨#[]⟩,.slice none 0 0,.slice none 0 0] 25)) from (Below.refl _ _).alloc lz _)
 have hres:=qp w (.int .u8 0) (.int .i64 0) (.string ⟨#[]⟩) (.slice none 0 0) (.slice none 0 0) 25
 have HRS:=Lh hres
 obtain ⟨W,hW⟩:∃W,W=w.alloc (.cells #[.int .u8 0,.int .i64 0,.string ⟨#[]⟩,.slice none 0 0,.slice none 0 0] 25):=⟨_,rfl⟩
 rw [← hW] at HB hres HRS
 have HW:=Lh hW
 obtain ⟨t0,t1,t2,t3,t4⟩:=rc5 hres
 obtain ⟨s0,s1,s2,s3,s4⟩:=rf5 hres
 simp only [qQ] at t0 t1 t2 t3 t4
 clear hres hW
 cases b
 all_goals
  go_enter Tryz.func202,Tryz.ntmps202
  go_upto_region 1 with fail
  rw [← HW.out]
  clear HW
  go_wp2
  exact bodyPost_ret (results_cell_row Tryz.results202 _ _ w.heap.size 25 _ (0,0) _ rfl (qi (set5 _ _ _ _ _ HRS.out)) Tryz.underlying25 rfl (by kernel_rfl)) rfl ⟨rfl,q7 _ _ _ _ _ HB.out lz⟩
theorem MemsAt.cat {W0:Nat} {w w':World} {v v':Value} {ms ms2:List Mem} {its its2:List JV} (h:MemsAt W0 w v ms its) (hl:its2.length=ms2.length) (hr:∀i (hi:i<its2.length),∃lo hi',W0≤lo∧hi'≤w.heap.size∧(∀b,v.ownBlock=some b→¬(lo≤b∧b<hi'))∧Rep w lo hi' its2[i] (ms2[i]'(by omega)).val)
 (hg:w.grownBy w' v.ownBlock) (hown:w'.ownsRow W0 169 6 v' (ms.length+ms2.length) (q8 ms ++ q8 ms2)) (hat:v'.ownBlock=v.ownBlock∨∃g,v'.ownBlock=some g∧w.heap.size≤g):MemsAt W0 w' v' (ms ++ ms2) (its ++ its2):=by
 have hx:∀ {lo hi:Nat},hi≤w.heap.size→(∀b,v.ownBlock=some b→¬(lo≤b∧b<hi))→∀b,v'.ownBlock=some b→¬(lo≤b∧b<hi):=fun hz hn b hb=>by
  rcases hat with e|⟨g,e,hge⟩
  · exact hn b (by rw [← e];exact hb)
  · rw [e] at hb;simp at hb;omega
 have hc:∀ {lo hi:Nat} {it:JV} {x:Value},hi≤w.heap.size→(∀b,v.ownBlock=some b→¬(lo≤b∧b<hi))→Rep w lo hi it x→Rep w' lo hi it x:=fun hz hn hr =>
  Rep.carry lz lz (fun b hb1 hb2=>hg.block b (by omega) (fun e=>hn b e.symm ⟨hb1,hb2⟩)) _ _ hr
 have hl0:=h.len
 refine ⟨?_,by simp [hl0,hl],fun i hi'=>?_⟩
 · have e:q8 (ms ++ ms2)=q8 ms ++ q8 ms2:=by simp [q8]
   rw [e,List.length_append];exact hown
 · by_cases e:i<its.length
   · obtain ⟨lo',hi'',k1,k2,k3,hr'⟩:=h.reps i e
     refine ⟨lo',hi'',k1,Nat.le_trans k2 hg.size,hx k2 k3,?_⟩
     rw [List.getElem_append_left e,List.getElem_append_left (by omega)]
     exact hc k2 k3 hr'
   · have hi2:i - its.length<its2.length:=by simp at hi';omega
     obtain ⟨lo',hi'',k1,k2,k3,hr'⟩:=hr (i - its.length) hi2
     refine ⟨lo',hi'',k1,Nat.le_trans k2 hg.size,hx k2 k3,?_⟩
     rw [List.getElem_append_right (by omega),List.getElem_append_right (by omega)]
     have e2:i - ms.length=i - its.length:=by omega
     simp only [e2]
     exact hc k2 k3 hr'
def nY (t:Int) (l:List ByteArray) (lo:Nat) (w:World) (x:Value):Prop :=
 ∃g ai ci,x=.slice (some ⟨g,0,none⟩) 2 2∧lo≤g∧w.heap[g]?=some (.cells #[.string ⟨#[107,101,121,105,100,115]⟩,.int .u8 4,.int .i64 0,.string ⟨#[]⟩,.slice none 0 0,.slice ai l.length ci,.string ⟨#[116,104,114,101,115,104,111,108,100]⟩,.int .u8 2,.int .i64 t,.string ⟨#[]⟩,.slice none 0 0,.slice none 0 0] 169 (0,0))∧Rep w lo g (qu l) (.agg #[.int .u8 4,.int .i64 0,.string ⟨#[]⟩,.slice none 0 0,.slice ai l.length ci])
def MP.memb (t:Int) (l:List ByteArray) (lo:Nat):MP:=⟨nY t l lo,fun _ _ _ hb ⟨g,ai,ci,e,h1,h2,h3⟩=>⟨g,ai,ci,e,h1,by rw [hb.block _ (qx h2)];exact h2,Rep.carry lz lz (fun b _ hbg=>hb.block b (Nat.lt_trans hbg (qx h2))) _ _ h3⟩⟩
theorem uT (t:Int) (l:List ByteArray) (a:Option Addr) (c lo:Nat) (w:World) (hlo:lo≤w.heap.size) (hS:qw w 0 w.heap.size a l) (hl:l.length≤4294967296) :
 Calls Tryz.prog 200 #[.agg #[.int .i64 t,.slice a l.length c]] w fun e w'=>∃y,e=.returned y∧nY t l lo w' y∧Below w.heap.size w w':=by
 refine (uG t l a c w hS hl).mono ?_
 rintro e w' ⟨g,ai,ci,rfl,hg,hr,hb,hge⟩
 exact ⟨_,rfl,⟨g,ai,ci,rfl,by omega,hg,Rep.carry hlo lz (fun _ _ _=>rfl) _ _ hr⟩,hb⟩
def vb (ai:Option Addr) (n ci:Nat):Mem:=⟨qy,4,0,⟨#[]⟩,none,0,0,ai,n,ci⟩
theorem pA {t:Int} {l:List ByteArray} {lo g:Nat} {ai:Option Addr} {ci:Nat} {w:World} (h1:lo≤g) (h2:w.heap[g]?=some (.cells #[.string ⟨#[107,101,121,105,100,115]⟩,.int .u8 4,.int .i64 0,.string ⟨#[]⟩,.slice none 0 0,.slice ai l.length ci,.string ⟨#[116,104,114,101,115,104,111,108,100]⟩,.int .u8 2,.int .i64 t,.string ⟨#[]⟩,.slice none 0 0,.slice none 0 0] 169 (0,0))) (h3:Rep w lo g (qu l) (.agg #[.int .u8 4,.int .i64 0,.string ⟨#[]⟩,.slice none 0 0,.slice ai l.length ci])) :
 MemsAt lo w (.slice (some ⟨g,0,none⟩) 2 2) [vb ai l.length ci,jE thrN t] [qu l,zd t]:=by
 refine ⟨⟨rfl,.inr ⟨g,2,_,rfl,h1,h2,Nat.le_refl _,by unfold maxLen;omega,rfl,?_⟩⟩,rfl,fun i hi=>?_⟩
 · simp [q8,qV,vb,jE,qy,thrN]
 · have hlt:=qx h2
   match i,hi with
   | 0,_=>exact ⟨lo,g,Nat.le_refl _,by omega,fun b hb=>by simp [Value.ownBlock] at hb;omega,h3⟩
   | 1,_=>exact ⟨lo,g,Nat.le_refl _,by omega,fun b hb=>by simp [Value.ownBlock] at hb;omega,cB _ _ _ _⟩
theorem jB {l:List ByteArray} (h:∀x ∈ l,x.size≤1000000) (hl:l.length≤1000):(qu l).wt≤4294967296:=by
 have:∀l:List ByteArray,(∀x ∈ l,x.size≤1000000)→JV.wts (l.map txtJ)≤1000001 * l.length:=fun l=>by
  induction l with
  | nil=>intro _;simp [JV.wts]
  | cons x r ih =>
   intro h
   have h1:=h x (List.mem_cons_self ..)
   have h2:=ih fun y hy=>h y (List.mem_cons_of_mem _ hy)
   rw [List.map_cons,JV.wts,xO,List.length_cons];omega
 have h1:=this l h
 have e2:(qu l).wt=1+JV.wts (l.map txtJ):=by
  show 1+(⟨#[]⟩:ByteArray).size+qd [] + JV.wts (l.map txtJ)=_
  rfl
 omega
theorem ah {α:Type} (a b c d e:α):[a,b,c,d,e].Perm [a,e,b,d,c]:=by
 refine List.Perm.cons a ?_
 have h1:[b,c,d,e].Perm ([e] ++ [b,c,d]):=List.perm_append_comm (l₁:=[b,c,d]) (l₂:=[e])
 refine h1.trans ?_
 exact (List.Perm.cons e (List.Perm.cons b (List.Perm.swap d c [])))
theorem uI (b:Bool):(zi b).wt≤4294967296:=by
 cases b <;> (rw [JV.wt_eq];decide)
def jP (v:JV) (w:World) (e:Ending) (w':World):Prop :=
 ∃an cn ai ci,e=.returned (.agg #[.int .u8 5,.int .i64 0,.string ⟨#[]⟩,.slice an v.names.length cn,.slice ai v.items.length ci])∧Rep w' w.heap.size w'.heap.size v (.agg #[.int .u8 5,.int .i64 0,.string ⟨#[]⟩,.slice an v.names.length cn,.slice ai v.items.length ci])∧Below w.heap.size w w'
theorem pT (ms:List Mem):∀v ∈ q8 ms,v.oneCell'=true:=by
 intro v hv
 unfold q8 at hv
 obtain ⟨m,_,hm⟩:=List.mem_flatMap.1 hv
 exact xq m v hm
theorem lJ {p:ByteArray} (h:qL p=true):p.size≤256:=by
 unfold qL at h
 simp only [Bool.and_eq_true,decide_eq_true_eq] at h
 exact h.1.1.2
theorem nG {p:ByteArray} (h:preB p=true):p.size≤64:=by
 unfold preB at h
 simp only [Bool.and_eq_true,decide_eq_true_eq] at h
 exact h.1.2
theorem vp {x:DelegV} (h:qX x=true):x.name.size≤64∧(x.au.ids.length≤4294967296∧x.au.ids.length≤16∧∀s ∈ x.au.ids,s.size≤1000000)∧(x.paths.length≤32∧∀s ∈ x.paths,s.size≤1000000)∧(x.pres.length≤32∧∀s ∈ x.pres,s.size≤1000000):=by
 obtain ⟨h1,-,h3,h4⟩:=jK h
 have ha:=xc h3
 refine ⟨gR h1,⟨by omega,ha.1.2,fun s hs=>by have:=(vr (jJ _ _ ha.2.2 s hs)).2;omega⟩,?_,?_⟩
 · rcases h4 with ⟨-,-,h5,h6⟩|⟨h5,-⟩
   · exact ⟨h5,fun s hs=>by have:=lJ (List.all_eq_true.1 h6 s hs);omega⟩
   · rw [h5];exact ⟨by simp,by simp⟩
 · rcases h4 with ⟨-,h5,-⟩|⟨-,-,h5,h6⟩
   · rw [h5];exact ⟨by simp,by simp⟩
   · exact ⟨h5,fun s hs=>by have:=nG (List.all_eq_true.1 h6 s hs);omega⟩
set_option maxHeartbeats 4000000 in
set_option maxRecDepth 100000 in
theorem kS (nm:ByteArray) (thr:Int) (ids:List ByteArray) (tm:Bool) (ps qs:List ByteArray) (ia pa qa:Option Addr) (ic pc qc:Nat) (w:World) (hI:DelegIn w 0 w.heap.size ⟨nm,⟨thr,ids⟩,tm,ps,qs⟩ ia pa qa) (hm:qX ⟨nm,⟨thr,ids⟩,tm,ps,qs⟩=true) :
 Calls Tryz.prog 147 #[.agg #[.string nm,.int .i64 thr,.slice ia ids.length ic,.bool tm,.slice pa ps.length pc,.slice qa qs.length qc]] w (jP (qb ⟨nm,⟨thr,ids⟩,tm,ps,qs⟩) w):=by
 have HPT:=Lh (vp hm)
 dsimp only at HPT
 obtain ⟨W,hW⟩:∃W,W=(w.alloc (.cells #[.string nm,.int .i64 thr,.slice ia ids.length ic,.bool tm,.slice pa ps.length pc,.slice qa qs.length qc] 41)).alloc (.cells #[.int .u8 0,.int .i64 0,.string ⟨#[]⟩,.slice none 0 0,.slice none 0 0] 25):=⟨_,rfl⟩
 have hz1:(w.alloc (.cells #[.string nm,.int .i64 thr,.slice ia ids.length ic,.bool tm,.slice pa ps.length pc,.slice qa qs.length qc] 41)).heap.size=w.heap.size+1:=by simp
 have hb:Below w.heap.size w W:=by rw [hW];exact ((Below.refl _ _).alloc lz _).alloc (by simp) _
 have hx:W.heap[w.heap.size]?=some (.cells #[.string nm,.int .i64 thr,.slice ia ids.length ic,.bool tm,.slice pa ps.length pc,.slice qa qs.length qc] 41 (0,0)):=by rw [hW];exact zk w _ _
 have hr0:W.rowIs (w.heap.size+1) 25 5 (qQ (.int .u8 0) (.int .i64 0) (.string ⟨#[]⟩) (.slice none 0 0) (.slice none 0 0)):=by
  have:=qp (w.alloc (.cells #[.string nm,.int .i64 thr,.slice ia ids.length ic,.bool tm,.slice pa ps.length pc,.slice qa qs.length qc] 41)) (.int .u8 0) (.int .i64 0) (.string ⟨#[]⟩) (.slice none 0 0) (.slice none 0 0) 25
  rw [hz1,← hW] at this
  exact this
 have HC:=Lh (show ∀w':World,Below W.heap.size W w'→w'.cell? ⟨w.heap.size,0,none⟩=some (.string nm)∧w'.cell? ⟨w.heap.size,1,none⟩=some (.int .i64 thr)∧w'.cell? ⟨w.heap.size,2,none⟩=some (.slice ia ids.length ic)∧w'.cell? ⟨w.heap.size,3,none⟩=some (.bool tm)∧w'.cell? ⟨w.heap.size,4,none⟩=some (.slice pa ps.length pc)∧w'.cell? ⟨w.heap.size,5,none⟩=some (.slice qa qs.length qc) from fun w' h=>by
  have y:=(h.block _ (qx hx)).trans hx
  exact ⟨qq y rfl,qq y rfl,qq y rfl,qq y rfl,qq y rfl,qq y rfl⟩)
 have HR0:=Lh hr0
 have HB:=Lh hb
 have HZ2:=Lh (show w.heap.size+2≤W.heap.size from hr0.lt)
 have HW:=Lh hW
 have HI:=Lh (show ∀w':World,Below W.heap.size W w'→DelegIn w' 0 w'.heap.size ⟨nm,⟨thr,ids⟩,tm,ps,qs⟩ ia pa qa from fun w' h=>hI.below (hb.trans (h.mono hb.size)) lz lz (Nat.le_trans hb.size h.size))
 have HME:=Lh (show ∀w':World,Below W.heap.size W w'→_ from fun w' h=>uT thr ids ia ic W.heap.size w' h.size (HI.out w' h).ids HPT.out.2.1.1)
 have HTX:=Lh (show ∀w':World,_ from fun w'=>(kK nm w').mono fun e w2 (h:e=.returned (.agg #[.int .u8 3,.int .i64 0,.string nm,.slice none 0 0,.slice none 0 0])∧w2=w'.alloc (.cells #[.int .u8 3,.int .i64 0,.string nm,.slice none 0 0,.slice none 0 0] 25))=>show e=.returned (.agg #[.int .u8 3,.int .i64 0,.string nm,.slice none 0 0,.slice none 0 0])∧Below w'.heap.size w' w2 from ⟨h.1,by rw [h.2];exact (Below.refl _ _).alloc lz _⟩)
 have HBO:=Lh (fun w'=>ce tm w')
 have HTS:=Lh (show ∀w':World,Below W.heap.size W w'→_ from fun w' h=>fh ps pa pc w' (HI.out w' h).paths (by have:=HPT.out.2.2.1.1;omega))
 have HQS:=Lh (show ∀w':World,Below W.heap.size W w'→_ from fun w' h=>fh qs qa qc w' (HI.out w' h).pres (by have:=HPT.out.2.2.2.1;omega))
 have HJ:=Lh (show qb ⟨nm,⟨thr,ids⟩,tm,ps,qs⟩=jz (zt ⟨nm,⟨thr,ids⟩,tm,ps,qs⟩) from rfl)
 obtain ⟨J,hJ⟩:∃J,J=qb ⟨nm,⟨thr,ids⟩,tm,ps,qs⟩:=⟨_,rfl⟩
 rw [← hJ] at HJ ⊢
 obtain ⟨bn,hbn⟩:∃bn,bn=sN tm:=⟨_,rfl⟩
 have HBN:=Lh hbn
 rw [← hbn] at HBO
 clear hW hb hx hr0 hz1 hI hm hJ hbn
 obtain ⟨q0,q1,q2,q3,q4,q5⟩:=HC.out W (Below.refl _ _)
 go_enter Tryz.func147,Tryz.ntmps147
 go_upto_region 1 with fail
 rw [← HW.out]
 clear HW q0 q1 q2 q3 q4 q5
 obtain ⟨V,hV⟩:∃V:List MP,V=[.con (.pointer (some ⟨w.heap.size,1,none⟩)),.con (.agg #[.int .i64 thr,.slice ia ids.length ic]),.memb thr ids W.heap.size,.con (.pointer (some ⟨w.heap.size,0,none⟩)),.con (.string nm),.con (.agg #[.int .u8 3,.int .i64 0,.string nm,.slice none 0 0,.slice none 0 0]),.con (.agg #[.string ⟨#[110,97,109,101]⟩,.int .u8 3,.int .i64 0,.string nm,.slice none 0 0,.slice none 0 0]),.con (.pointer (some ⟨w.heap.size,3,none⟩)),.con (.bool tm),.con (.agg #[.int .u8 1,.int .i64 bn,.string ⟨#[]⟩,.slice none 0 0,.slice none 0 0]),.con (.agg #[.string ⟨#[116,101,114,109,105,110,97,116,105,110,103]⟩,.int .u8 1,.int .i64 bn,.string ⟨#[]⟩,.slice none 0 0,.slice none 0 0]),.row W.heap.size 2 169 #[.string ⟨#[110,97,109,101]⟩,.int .u8 3,.int .i64 0,.string nm,.slice none 0 0,.slice none 0 0,.string ⟨#[116,101,114,109,105,110,97,116,105,110,103]⟩,.int .u8 1,.int .i64 bn,.string ⟨#[]⟩,.slice none 0 0,.slice none 0 0]]:=⟨_,rfl⟩
 have HV:=Lh hV
 clear hV
 refine zf 12 (fun d a' w'=>∃x6 x7 x8 x9 x10 x11 x12 x13 x14 x15 x16 x17,a'=⟨#[.agg #[.string nm,.int .i64 thr,.slice ia ids.length ic,.bool tm,.slice pa ps.length pc,.slice qa qs.length qc],.pointer (some ⟨w.heap.size,0,none⟩),.pointer (some ⟨w.heap.size+1,0,none⟩),undef,undef,undef,x6,x7,x8,x9,x10,x11,x12,x13,x14,x15,x16,x17,undef,undef,undef,undef,undef,undef,undef,undef,undef,undef,undef,undef,undef,undef,undef,undef,undef,undef,undef,undef,undef,undef,undef,undef,undef],[]⟩∧zN W V d w' [x6,x7,x8,x9,x10,x11,x12,x13,x14,x15,x16,x17]) (by kernel_rfl) (by kernel_rfl) ?first ?step ?last
 case first=>exact ⟨_,_,_,_,_,_,_,_,_,_,_,_,rfl,zN.first _ _ _ (by rw [HV.out];rfl)⟩
 case step =>
  rintro d a' w' ⟨x6,x7,x8,x9,x10,x11,x12,x13,x14,x15,x16,x17,rfl,h⟩ q hq hn hw
  rcases q with _|_|_|_|_|_|_|_|_|_|_|_|q
  · refine wpOp_step rfl fun K hK=>?_
    go_simp
    exact hK _ _ ⟨_,x7,x8,x9,x10,x11,x12,x13,x14,x15,x16,x17,rfl,h.sameC 0 _ HV rfl⟩
  · obtain rfl:=h.con 0 (hw _ rfl ⟨0,.data⟩ (by simp) rfl) HV rfl rfl
    obtain ⟨q0,q1,q2,q3,q4,q5⟩:=HC.out w' h.1
    refine wpOp_step rfl fun K hK=>?_
    go_simp
    exact hK _ _ ⟨_,_,x8,x9,x10,x11,x12,x13,x14,x15,x16,x17,rfl,h.sameC 1 _ HV rfl⟩
  · obtain rfl:=h.con 1 (hw _ rfl ⟨1,.data⟩ (by simp) rfl) HV rfl rfl
    obtain ⟨q0,q1,q2,q3,q4,q5⟩:=HC.out w' h.1
    refine wpOp_step rfl fun K hK=>?_
    go_simp
    refine (HME.out w' h.1).mono ?_
    rintro e w2 ⟨y,rfl,hy,hb2⟩
    exact hK _ _ ⟨x6,_,_,x9,x10,x11,x12,x13,x14,x15,x16,x17,rfl,h.did hb2 2 _ (.memb thr ids W.heap.size) (by rw [HV.out];rfl) hy⟩
  · refine wpOp_step rfl fun K hK=>?_
    go_simp
    exact hK _ _ ⟨x6,x7,x8,_,x10,x11,x12,x13,x14,x15,x16,x17,rfl,h.sameC 3 _ HV rfl⟩
  · obtain rfl:=h.con 3 (hw _ rfl ⟨3,.data⟩ (by simp) rfl) HV rfl rfl
    obtain ⟨q0,q1,q2,q3,q4,q5⟩:=HC.out w' h.1
    refine wpOp_step rfl fun K hK=>?_
    go_simp
    exact hK _ _ ⟨x6,x7,x8,_,_,x11,x12,x13,x14,x15,x16,x17,rfl,h.sameC 4 _ HV rfl⟩
  · obtain rfl:=h.con 4 (hw _ rfl ⟨4,.data⟩ (by simp) rfl) HV rfl rfl
    obtain ⟨q0,q1,q2,q3,q4,q5⟩:=HC.out w' h.1
    refine wpOp_step rfl fun K hK=>?_
    go_simp
    refine (HTX.out w').mono ?_
    rintro e w2 ⟨rfl,hb2⟩
    exact hK _ _ ⟨x6,x7,x8,x9,_,_,x12,x13,x14,x15,x16,x17,rfl,h.didC hb2 5 _ HV rfl⟩
  · obtain rfl:=h.con 5 (hw _ rfl ⟨5,.data⟩ (by simp) rfl) HV rfl rfl
    refine wpOp_step rfl fun K hK=>?_
    go_simp
    exact hK _ _ ⟨x6,x7,x8,x9,x10,_,_,x13,x14,x15,x16,x17,rfl,h.sameC 6 _ HV rfl⟩
  · refine wpOp_step rfl fun K hK=>?_
    go_simp
    exact hK _ _ ⟨x6,x7,x8,x9,x10,x11,x12,_,x14,x15,x16,x17,rfl,h.sameC 7 _ HV rfl⟩
  · obtain rfl:=h.con 7 (hw _ rfl ⟨7,.data⟩ (by simp) rfl) HV rfl rfl
    obtain ⟨q0,q1,q2,q3,q4,q5⟩:=HC.out w' h.1
    refine wpOp_step rfl fun K hK=>?_
    go_simp
    exact hK _ _ ⟨x6,x7,x8,x9,x10,x11,x12,_,_,x15,x16,x17,rfl,h.sameC 8 _ HV rfl⟩
  · obtain rfl:=h.con 8 (hw _ rfl ⟨8,.data⟩ (by simp) rfl) HV rfl rfl
    obtain ⟨q0,q1,q2,q3,q4,q5⟩:=HC.out w' h.1
    refine wpOp_step rfl fun K hK=>?_
    go_simp
    refine (HBO.out w').mono ?_
    rintro e w2 ⟨rfl,hb2⟩
    exact hK _ _ ⟨x6,x7,x8,x9,x10,x11,x12,x13,_,_,x16,x17,rfl,h.didC hb2 9 _ HV rfl⟩
  · obtain rfl:=h.con 9 (hw _ rfl ⟨9,.data⟩ (by simp) rfl) HV rfl rfl
    refine wpOp_step rfl fun K hK=>?_
    go_simp
    exact hK _ _ ⟨x6,x7,x8,x9,x10,x11,x12,x13,x14,_,_,x17,rfl,h.sameC 10 _ HV rfl⟩
  · obtain rfl:=h.con 6 (hw _ rfl ⟨6,.data⟩ (by simp) rfl) HV rfl rfl
    obtain rfl:=h.con 10 (hw _ rfl ⟨10,.data⟩ (by simp) rfl) HV rfl rfl
    refine wpOp_step rfl fun K hK=>?_
    go_simp
    exact hK _ _ ⟨x6,x7,x8,x9,x10,x11,_,x13,x14,x15,_,_,rfl,h.new _ 11 _ (.row W.heap.size 2 169 #[.string ⟨#[110,97,109,101]⟩,.int .u8 3,.int .i64 0,.string nm,.slice none 0 0,.slice none 0 0,.string ⟨#[116,101,114,109,105,110,97,116,105,110,103]⟩,.int .u8 1,.int .i64 bn,.string ⟨#[]⟩,.slice none 0 0,.slice none 0 0]) (by rw [HV.out];rfl) (yM.made _ h.1.size)⟩
  · omega
 case last =>
  rintro d a' w' hall ⟨x6,x7,x8,x9,x10,x11,x12,x13,x14,x15,x16,x17,rfl,h⟩
  have hle:=h.1
  have hs8:=h.get 2 (hall _ (by omega)) (.memb thr ids W.heap.size) (by rw [HV.out];rfl) _ rfl
  obtain ⟨b17,k17,rfl,m17⟩:=h.get 11 (hall _ (by omega)) (.row W.heap.size 2 169 #[.string ⟨#[110,97,109,101]⟩,.int .u8 3,.int .i64 0,.string nm,.slice none 0 0,.slice none 0 0,.string ⟨#[116,101,114,109,105,110,97,116,105,110,103]⟩,.int .u8 1,.int .i64 bn,.string ⟨#[]⟩,.slice none 0 0,.slice none 0 0]) (by rw [HV.out];rfl) _ rfl
  have HLE:=Lh hle
  clear h hall hle HV
  have hb67:=HLE.out
  obtain ⟨g,ai,ci,rfl,hge,hgc,hgr⟩:=hs8
  have HMM:=Lh (pA hge hgc hgr)
  have HOM:=Lh (show w'.ownsRow W.heap.size 169 6 (.slice (some ⟨g,0,none⟩) 2 2) 2 (q8 [vb ai ids.length ci,jE thrN thr]) from HMM.out.own)
  have HB3:=Lh hb67
  have HGL:=Lh (qx hgc)
  have hw3:W.heap.size≤w'.heap.size:=hb67.size
  clear hb67 hge hgc hgr
  obtain ⟨i1,hi1,hy0,hy1,hy2⟩:=info_parts js
  simp only [List.drop_succ_cons,List.drop_zero]
  go_upto_region 2 with (at_builtin;refine wpList_append_lies _ rfl (.tmp 8) (.tmp 17) 170 rfl W.heap.size 169 i1 _ 6 96 Tryz.underlying170 hi1 hy0 hy1 hy2 rfl (by omega) (.slice (some ⟨g,0,none⟩) 2 2) 2 (q8 [vb ai ids.length ci,jE thrN thr]) rfl HOM.out ⟨b17,0,none⟩ 2 2 (q8 [jQ zp nm,(⟨trmN,1,bn,⟨#[]⟩,none,0,0,none,0,0⟩:Mem)]) rfl rfl (World.news_of_block (cs:=(q8 [jQ zp nm,(⟨trmN,1,bn,⟨#[]⟩,none,0,0,none,0,0⟩:Mem)]).toArray) (t:=169) (fr:=(0,0)) m17) (pT _) (by omega) (by unfold maxLen;omega) (by omega) (by have:=qx m17;omega) w'.heap.size (by omega) ?_;intro g2 cap2 w4 hown4 hgrow4 hat4 hlt4;have HO4:=Lh hown4;have HG4:=Lh hgrow4;have HA4:=Lh hat4;clear hown4 hgrow4 hat4)
  have HB4:=Lh (below_grown HB3.out hw3 HG4.out (fun b hb=>(HOM.out.lt b hb).1))
  have HM4:=Lh (show MemsAt W.heap.size w4 (.slice (some ⟨g2,0,none⟩) 4 cap2) [vb ai ids.length ci,jE thrN thr,jQ zp nm,(⟨trmN,1,bn,⟨#[]⟩,none,0,0,none,0,0⟩:Mem)] [qu ids,zd thr,txtJ nm,zi tm] from HMM.out.cat (ms2:=[jQ zp nm,(⟨trmN,1,bn,⟨#[]⟩,none,0,0,none,0,0⟩:Mem)]) (its2:=[txtJ nm,zi tm]) rfl (fun i hi=>by
   match i,hi with
   | 0,_=>exact ⟨W.heap.size,W.heap.size,Nat.le_refl _,hw3,fun b hb=>by omega,wV _ _ _ _⟩
   | 1,_=>exact ⟨W.heap.size,W.heap.size,Nat.le_refl _,hw3,fun b hb=>by omega,by have:=nW w' W.heap.size W.heap.size tm;rw [← HBN.out] at this;exact this⟩) HG4.out HO4.out (by
   rcases HA4.out with h|h
   · exact .inl h.symm
   · exact .inr ⟨g2,rfl,by omega⟩))
  have HZ4:=Lh (show w'.heap.size≤w4.heap.size∧g2<w4.heap.size from ⟨HG4.out.size,(HM4.out.own.lt g2 rfl).2⟩)
  clear HO4 HG4 HA4 HMM HOM
  obtain ⟨q0,q1,q2,q3,q4,q5⟩:=HC.out w4 HB4.out
  have hw4:W.heap.size≤w4.heap.size:=HB4.out.size
  by_cases hps:ps=[]
  · have HJ2:=Lh (show J=jz [(qy,qu ids),(zp,txtJ nm),(zK,qu qs),(trmN,zi tm),(thrN,zd thr)] from by rw [HJ.out];unfold zt;rw [if_neg (by simp [hps])])
    have n0:((0:Int)<(ps.length:Int))=False:=by subst hps;simp
    have n1:decide ((0:Int)<(ps.length:Int))=false:=by subst hps;rfl
    have n2:¬0<ps.length:=by subst hps;simp
    clear hps
    go_upto_region 4 with fail
    go_wp2_with fail
    refine (HQS.out w4 HB4.out).mono ?_
    clear q0 q1 q2 q3 q4 q5
    rintro r w5 ⟨a5,c5,rfl,hr5,hb5⟩
    have HR5:=Lh hr5
    have HB5:=Lh hb5
    have HM5:=Lh (HM4.out.below hb5)
    have HO5:=Lh (show w5.ownsRow W.heap.size 169 6 (.slice (some ⟨g2,0,none⟩) 4 cap2) 4 (q8 [vb ai ids.length ci,jE thrN thr,jQ zp nm,(⟨trmN,1,bn,⟨#[]⟩,none,0,0,none,0,0⟩:Mem)]) from HM5.out.own)
    have hw5:W.heap.size≤w5.heap.size:=Nat.le_trans hw4 hb5.size
    clear hr5 hb5
    go_upto_region 5 with (at_builtin;refine wpList_append_lies _ rfl (.tmp 30) (.tmp 35) 170 rfl W.heap.size 169 i1 _ 6 96 Tryz.underlying170 hi1 hy0 hy1 hy2 rfl (by omega) (.slice (some ⟨g2,0,none⟩) 4 cap2) 4 (q8 [vb ai ids.length ci,jE thrN thr,jQ zp nm,(⟨trmN,1,bn,⟨#[]⟩,none,0,0,none,0,0⟩:Mem)]) rfl (HO5.out.alloc _) ⟨w5.heap.size,0,none⟩ 1 1 (qV (⟨zK,4,0,⟨#[]⟩,none,0,0,a5,qs.length,c5⟩:Mem)) rfl rfl (World.news_of_block (cs:=#[.string ⟨#[112,97,116,104,95,104,97,115,104,95,112,114,101,102,105,120,101,115]⟩,.int .u8 4,.int .i64 0,.string ⟨#[]⟩,.slice none 0 0,.slice a5 qs.length c5]) (t:=169) (fr:=(0,0)) (heap_alloc_new w5 _)) (xq _) (by omega) (by unfold maxLen;omega) (by omega) (by simp;omega) (w5.heap.size+1) (by simp) ?_;intro g3 cap3 w6 hown6 hgrow6 hat6 hlt6;have HO6:=Lh hown6;have HG6:=Lh hgrow6;have HA6:=Lh hat6;clear hown6 hgrow6 hat6)
    have hga:Below w5.heap.size w5 (w5.alloc (.cells #[.string ⟨#[112,97,116,104,95,104,97,115,104,95,112,114,101,102,105,120,101,115]⟩,.int .u8 4,.int .i64 0,.string ⟨#[]⟩,.slice none 0 0,.slice a5 qs.length c5] 169)):=(Below.refl _ _).alloc lz _
    have HBF:=Lh (below_grown ((HB4.out.trans (HB5.out.mono HB4.out.size)).trans (hga.mono hw5)) (by simp;omega) HG6.out (fun b hb=>(HO5.out.lt b hb).1))
    have HMF:=Lh (show MemsAt W.heap.size w6 (.slice (some ⟨g3,0,none⟩) 5 cap3) ([vb ai ids.length ci,jE thrN thr,jQ zp nm,(⟨trmN,1,bn,⟨#[]⟩,none,0,0,none,0,0⟩:Mem)] ++ [(⟨zK,4,0,⟨#[]⟩,none,0,0,a5,qs.length,c5⟩:Mem)]) ([qu ids,zd thr,txtJ nm,zi tm] ++ [qu qs]) from (HM5.out.below hga).snoc (⟨zK,4,0,⟨#[]⟩,none,0,0,a5,qs.length,c5⟩:Mem) (qu qs) w4.heap.size w5.heap.size hw4 (by simp) (fun b hb=>by simp only [Value.ownBlock,Option.some.injEq] at hb;have:=HZ4.out;omega) (HR5.out.below hga lz lz lz) HG6.out HO6.out (by
     rcases HA6.out with h|h
     · exact .inl h.symm
     · exact .inr ⟨g3,rfl,by simp;omega⟩))
    have HZF:=Lh HZ2.out
    replace HJ:=Lh HJ2.out
    clear HO5 HO6 HG6 HA6 HM4 HM5 HB5 HR5 hga HJ2
    have HMO:=Lh (bB (v:=.slice (some ⟨g3,0,none⟩) 5 cap3) [(qy,qu ids),(zp,txtJ nm),(zK,qu qs),(trmN,zi tm),(thrN,zd thr)] (N:=[(qy,qu ids),(thrN,zd thr),(zp,txtJ nm),(trmN,zi tm),(zK,qu qs)]) ⟨_,by simpa using HMF.out,by simp [vb,jE,jQ]⟩ ⟨_,_,rfl⟩ (ah _ _ _ _ _) zm.2.1 (by simp) (fun p hp=>by
     simp only [List.mem_cons,List.not_mem_nil,or_false] at hp
     rcases hp with rfl|rfl|rfl|rfl|rfl
     · exact jB HPT.out.2.1.2.2 (by have:=HPT.out.2.1.2.1;omega)
     · show (txtJ nm).wt≤4294967296;rw [xO];have:=HPT.out.1;omega
     · exact jB HPT.out.2.2.2.2 (by have:=HPT.out.2.2.2.1;omega)
     · exact uI tm
     · show (zd _).wt≤4294967296;rw [gb];decide) (by have:=HZF.out;omega))
    clear HMF
    go_wp2_with fail
    refine HMO.out.mono ?_
    clear HMO
    rintro e w8 ⟨an8,cn8,ai8,ci8,rfl,hr8,hb8⟩
    have hbF:Below W.heap.size W w8:=HBF.out.trans (hb8.mono HBF.out.size)
    obtain ⟨W9,hW9⟩:∃W9,W9=w8.alloc (.cells #[.int .u8 5,.int .i64 0,.string ⟨#[]⟩,.slice an8 5 cn8,.slice ai8 5 ci8] 25):=⟨_,rfl⟩
    have hb9:Below w8.heap.size w8 W9:=by rw [hW9];exact (Below.refl _ _).alloc lz _
    have hx9:W9.heap[w8.heap.size]?=some (.cells #[.int .u8 5,.int .i64 0,.string ⟨#[]⟩,.slice an8 5 cn8,.slice ai8 5 ci8] 25 (0,0)):=by rw [hW9];exact heap_alloc_new w8 _
    have hres:=qj (hbF.trans (hb9.mono hbF.size)) HR0.out HR0.out.lt
    have HRS:=Lh hres
    have HR8:=Lh (Rep.below hr8 (B:=w8.heap.size) hb9 lz lz hb9.size)
    have HZ8:=Lh (show w.heap.size+2≤w6.heap.size from Nat.le_trans HZ2.out HBF.out.size)
    have HB8:=Lh (HB.out.trans ((hbF.trans (hb9.mono hbF.size)).mono HB.out.size))
    obtain ⟨z0,z1,z2,z3,z4⟩:=bx5 hx9
    obtain ⟨t0,t1,t2,t3,t4⟩:=rc5 hres
    obtain ⟨s0,s1,s2,s3,s4⟩:=rf5 hres
    simp only [qQ] at t0 t1 t2 t3 t4
    have HW9:=Lh hW9
    clear hres hr8 hb8 hbF hb9 hx9 hW9
    go_upto_region 6 with fail
    rw [← HW9.out]
    clear HW9
    go_wp2
    refine bodyPost_ret (results_cell_row Tryz.results147 _ _ (w.heap.size+1) 25 _ (0,0) _ rfl (qi (set5 _ _ _ _ _ HRS.out)) Tryz.underlying25 rfl (by kernel_rfl)) rfl ?_
    rw [HJ.out]
    refine ⟨an8,cn8,ai8,ci8,rfl,?_,q7 _ _ _ _ _ HB8.out (by omega)⟩
    exact Rep.carry (by have:=HZ8.out;omega) (show W9.heap.size≤_ by simp [World.setCell]) (fun j hj _=>xr _ _ _ _ _ (by have:=HZ8.out;omega)) _ _ HR8.out
  · have HJ2:=Lh (show J=jz [(qy,qu ids),(zp,txtJ nm),(xd,qu ps),(trmN,zi tm),(thrN,zd thr)] from by rw [HJ.out];unfold zt;rw [if_pos hps])
    have n2:0<ps.length:=List.length_pos_iff.2 hps
    have n1:decide ((0:Int)<(ps.length:Int))=true:=by rw [decide_eq_true_eq];omega
    have n3:(0:Int)<(ps.length:Int):=by omega
    clear hps
    go_upto_region 3 with fail
    go_wp2_with fail
    refine (HTS.out w4 HB4.out).mono ?_
    clear q0 q1 q2 q3 q4 q5
    rintro r w5 ⟨a5,c5,rfl,hr5,hb5⟩
    have HR5:=Lh hr5
    have HB5:=Lh hb5
    have HM5:=Lh (HM4.out.below hb5)
    have HO5:=Lh (show w5.ownsRow W.heap.size 169 6 (.slice (some ⟨g2,0,none⟩) 4 cap2) 4 (q8 [vb ai ids.length ci,jE thrN thr,jQ zp nm,(⟨trmN,1,bn,⟨#[]⟩,none,0,0,none,0,0⟩:Mem)]) from HM5.out.own)
    have hw5:W.heap.size≤w5.heap.size:=Nat.le_trans hw4 hb5.size
    clear hr5 hb5
    go_upto_region 5 with (at_builtin;refine wpList_append_lies _ rfl (.tmp 23) (.tmp 28) 170 rfl W.heap.size 169 i1 _ 6 96 Tryz.underlying170 hi1 hy0 hy1 hy2 rfl (by omega) (.slice (some ⟨g2,0,none⟩) 4 cap2) 4 (q8 [vb ai ids.length ci,jE thrN thr,jQ zp nm,(⟨trmN,1,bn,⟨#[]⟩,none,0,0,none,0,0⟩:Mem)]) rfl (HO5.out.alloc _) ⟨w5.heap.size,0,none⟩ 1 1 (qV (⟨xd,4,0,⟨#[]⟩,none,0,0,a5,ps.length,c5⟩:Mem)) rfl rfl (World.news_of_block (cs:=#[.string ⟨#[112,97,116,104,115]⟩,.int .u8 4,.int .i64 0,.string ⟨#[]⟩,.slice none 0 0,.slice a5 ps.length c5]) (t:=169) (fr:=(0,0)) (heap_alloc_new w5 _)) (xq _) (by omega) (by unfold maxLen;omega) (by omega) (by simp;omega) (w5.heap.size+1) (by simp) ?_;intro g3 cap3 w6 hown6 hgrow6 hat6 hlt6;have HO6:=Lh hown6;have HG6:=Lh hgrow6;have HA6:=Lh hat6;clear hown6 hgrow6 hat6)
    have hga:Below w5.heap.size w5 (w5.alloc (.cells #[.string ⟨#[112,97,116,104,115]⟩,.int .u8 4,.int .i64 0,.string ⟨#[]⟩,.slice none 0 0,.slice a5 ps.length c5] 169)):=(Below.refl _ _).alloc lz _
    have HBF:=Lh (below_grown ((HB4.out.trans (HB5.out.mono HB4.out.size)).trans (hga.mono hw5)) (by simp;omega) HG6.out (fun b hb=>(HO5.out.lt b hb).1))
    have HMF:=Lh (show MemsAt W.heap.size w6 (.slice (some ⟨g3,0,none⟩) 5 cap3) ([vb ai ids.length ci,jE thrN thr,jQ zp nm,(⟨trmN,1,bn,⟨#[]⟩,none,0,0,none,0,0⟩:Mem)] ++ [(⟨xd,4,0,⟨#[]⟩,none,0,0,a5,ps.length,c5⟩:Mem)]) ([qu ids,zd thr,txtJ nm,zi tm] ++ [qu ps]) from (HM5.out.below hga).snoc (⟨xd,4,0,⟨#[]⟩,none,0,0,a5,ps.length,c5⟩:Mem) (qu ps) w4.heap.size w5.heap.size hw4 (by simp) (fun b hb=>by simp only [Value.ownBlock,Option.some.injEq] at hb;have:=HZ4.out;omega) (HR5.out.below hga lz lz lz) HG6.out HO6.out (by
     rcases HA6.out with h|h
     · exact .inl h.symm
     · exact .inr ⟨g3,rfl,by simp;omega⟩))
    have HZF:=Lh HZ2.out
    replace HJ:=Lh HJ2.out
    clear HO5 HO6 HG6 HA6 HM4 HM5 HB5 HR5 hga HJ2
    have HMO:=Lh (bB (v:=.slice (some ⟨g3,0,none⟩) 5 cap3) [(qy,qu ids),(zp,txtJ nm),(xd,qu ps),(trmN,zi tm),(thrN,zd thr)] (N:=[(qy,qu ids),(thrN,zd thr),(zp,txtJ nm),(trmN,zi tm),(xd,qu ps)]) ⟨_,by simpa using HMF.out,by simp [vb,jE,jQ]⟩ ⟨_,_,rfl⟩ (ah _ _ _ _ _) zm.1 (by simp) (fun p hp=>by
     simp only [List.mem_cons,List.not_mem_nil,or_false] at hp
     rcases hp with rfl|rfl|rfl|rfl|rfl
     · exact jB HPT.out.2.1.2.2 (by have:=HPT.out.2.1.2.1;omega)
     · show (txtJ nm).wt≤4294967296;rw [xO];have:=HPT.out.1;omega
     · exact jB HPT.out.2.2.1.2 (by have:=HPT.out.2.2.1.1;omega)
     · exact uI tm
     · show (zd _).wt≤4294967296;rw [gb];decide) (by have:=HZF.out;omega))
    clear HMF
    go_wp2_with fail
    refine HMO.out.mono ?_
    clear HMO
    rintro e w8 ⟨an8,cn8,ai8,ci8,rfl,hr8,hb8⟩
    have hbF:Below W.heap.size W w8:=HBF.out.trans (hb8.mono HBF.out.size)
    obtain ⟨W9,hW9⟩:∃W9,W9=w8.alloc (.cells #[.int .u8 5,.int .i64 0,.string ⟨#[]⟩,.slice an8 5 cn8,.slice ai8 5 ci8] 25):=⟨_,rfl⟩
    have hb9:Below w8.heap.size w8 W9:=by rw [hW9];exact (Below.refl _ _).alloc lz _
    have hx9:W9.heap[w8.heap.size]?=some (.cells #[.int .u8 5,.int .i64 0,.string ⟨#[]⟩,.slice an8 5 cn8,.slice ai8 5 ci8] 25 (0,0)):=by rw [hW9];exact heap_alloc_new w8 _
    have hres:=qj (hbF.trans (hb9.mono hbF.size)) HR0.out HR0.out.lt
    have HRS:=Lh hres
    have HR8:=Lh (Rep.below hr8 (B:=w8.heap.size) hb9 lz lz hb9.size)
    have HZ8:=Lh (show w.heap.size+2≤w6.heap.size from Nat.le_trans HZ2.out HBF.out.size)
    have HB8:=Lh (HB.out.trans ((hbF.trans (hb9.mono hbF.size)).mono HB.out.size))
    obtain ⟨z0,z1,z2,z3,z4⟩:=bx5 hx9
    obtain ⟨t0,t1,t2,t3,t4⟩:=rc5 hres
    obtain ⟨s0,s1,s2,s3,s4⟩:=rf5 hres
    simp only [qQ] at t0 t1 t2 t3 t4
    have HW9:=Lh hW9
    clear hres hr8 hb8 hbF hb9 hx9 hW9
    go_upto_region 6 with fail
    rw [← HW9.out]
    clear HW9
    go_wp2
    refine bodyPost_ret (results_cell_row Tryz.results147 _ _ (w.heap.size+1) 25 _ (0,0) _ rfl (qi (set5 _ _ _ _ _ HRS.out)) Tryz.underlying25 rfl (by kernel_rfl)) rfl ?_
    rw [HJ.out]
    refine ⟨an8,cn8,ai8,ci8,rfl,?_,q7 _ _ _ _ _ HB8.out (by omega)⟩
    exact Rep.carry (by have:=HZ8.out;omega) (show W9.heap.size≤_ by simp [World.setCell]) (fun j hj _=>xr _ _ _ _ _ (by have:=HZ8.out;omega)) _ _ HR8.out
theorem tL {α:Type} (a b c d:α):[c,a,d,b].Perm [a,b,c,d]:=by
 have h1:[c,a,d,b].Perm [a,c,d,b]:=List.Perm.swap a c [d,b]
 refine h1.trans (List.Perm.cons a ?_)
 exact (List.perm_append_comm (l₁:=[c,d]) (l₂:=[b]))
theorem jF {b:BinsV} (h:qI b=true):zH b=0∧xe b.au=true∧gk b.pre=false∧b.pre.size≤64:=by
 unfold qI at h
 simp only [Bool.and_eq_true,decide_eq_true_eq,Bool.not_eq_true'] at h
 obtain ⟨⟨h1,h2⟩,h3⟩:=h
 refine ⟨h1,h2,h3,?_⟩
 unfold zH at h1
 split at h1
 · cases h1
 · split at h1
   · cases h1
   · rename_i hr
     exact gR (by simpa using hr)
set_option maxHeartbeats 4000000 in
set_option maxRecDepth 100000 in
theorem kA (bits thr:Int) (ids:List ByteArray) (pre:ByteArray) (ia:Option Addr) (ic:Nat) (w:World) (hI:qw w 0 w.heap.size ia ids) (hm:qI ⟨bits,pre,⟨thr,ids⟩⟩=true) :
 Calls Tryz.prog 149 #[.agg #[.int .i64 thr,.slice ia ids.length ic,.int .i64 bits,.string pre]] w (jP (zV ⟨bits,pre,⟨thr,ids⟩⟩) w):=by
 have HPT:=Lh (show pre.size≤64∧ids.length≤16∧∀s ∈ ids,s.size≤1000000 from by
  obtain ⟨h1,h2,h3,h4⟩:=jF hm
  have ha:=xc h2
  dsimp only at h4 ha
  exact ⟨h4,ha.1.2,fun s hs=>by have:=(vr (jJ _ _ ha.2.2 s hs)).2;omega⟩)
 obtain ⟨W,hW⟩:∃W,W=(w.alloc (.cells #[.int .i64 thr,.slice ia ids.length ic,.int .i64 bits,.string pre] 33)).alloc (.cells #[.int .u8 0,.int .i64 0,.string ⟨#[]⟩,.slice none 0 0,.slice none 0 0] 25):=⟨_,rfl⟩
 have hz1:(w.alloc (.cells #[.int .i64 thr,.slice ia ids.length ic,.int .i64 bits,.string pre] 33)).heap.size=w.heap.size+1:=by simp
 have hb:Below w.heap.size w W:=by rw [hW];exact ((Below.refl _ _).alloc lz _).alloc (by simp) _
 have hx:W.heap[w.heap.size]?=some (.cells #[.int .i64 thr,.slice ia ids.length ic,.int .i64 bits,.string pre] 33 (0,0)):=by rw [hW];exact zk w _ _
 have hr0:W.rowIs (w.heap.size+1) 25 5 (qQ (.int .u8 0) (.int .i64 0) (.string ⟨#[]⟩) (.slice none 0 0) (.slice none 0 0)):=by
  have:=qp (w.alloc (.cells #[.int .i64 thr,.slice ia ids.length ic,.int .i64 bits,.string pre] 33)) (.int .u8 0) (.int .i64 0) (.string ⟨#[]⟩) (.slice none 0 0) (.slice none 0 0) 25
  rw [hz1,← hW] at this
  exact this
 have HC:=Lh (show ∀w':World,Below W.heap.size W w'→w'.cell? ⟨w.heap.size,0,none⟩=some (.int .i64 thr)∧w'.cell? ⟨w.heap.size,1,none⟩=some (.slice ia ids.length ic)∧w'.cell? ⟨w.heap.size,2,none⟩=some (.int .i64 bits)∧w'.cell? ⟨w.heap.size,3,none⟩=some (.string pre) from fun w' h=>by
  have y:=(h.block _ (qx hx)).trans hx
  exact ⟨qq y rfl,qq y rfl,qq y rfl,qq y rfl⟩)
 have HR0:=Lh hr0
 have HB:=Lh hb
 have HZ2:=Lh (show w.heap.size+2≤W.heap.size from hr0.lt)
 have HW:=Lh hW
 have HI:=Lh (show ∀w':World,Below W.heap.size W w'→qw w' 0 w'.heap.size ia ids from fun w' h=>hI.below (hb.trans (h.mono hb.size)) lz lz (Nat.le_trans hb.size h.size))
 have HME:=Lh (show ∀w':World,Below W.heap.size W w'→_ from fun w' h=>uT thr ids ia ic W.heap.size w' h.size (HI.out w' h) (by have:=HPT.out.2.1;omega))
 have HTX:=Lh (show ∀w':World,_ from fun w'=>(kK pre w').mono fun e w2 (h:e=.returned (.agg #[.int .u8 3,.int .i64 0,.string pre,.slice none 0 0,.slice none 0 0])∧w2=w'.alloc (.cells #[.int .u8 3,.int .i64 0,.string pre,.slice none 0 0,.slice none 0 0] 25))=>show e=.returned (.agg #[.int .u8 3,.int .i64 0,.string pre,.slice none 0 0,.slice none 0 0])∧Below w'.heap.size w' w2 from ⟨h.1,by rw [h.2];exact (Below.refl _ _).alloc lz _⟩)
 have HNU:=Lh (show ∀w':World,_ from fun w'=>(uW bits w').mono fun e w2 (h:e=.returned (.agg #[.int .u8 2,.int .i64 bits,.string ⟨#[]⟩,.slice none 0 0,.slice none 0 0])∧w2=w'.alloc (.cells #[.int .u8 2,.int .i64 bits,.string ⟨#[]⟩,.slice none 0 0,.slice none 0 0] 25))=>show e=.returned (.agg #[.int .u8 2,.int .i64 bits,.string ⟨#[]⟩,.slice none 0 0,.slice none 0 0])∧Below w'.heap.size w' w2 from ⟨h.1,by rw [h.2];exact (Below.refl _ _).alloc lz _⟩)
 have HJ:=Lh (show zV ⟨bits,pre,⟨thr,ids⟩⟩=jz [(jy,zd bits),(qy,qu ids),(jH,txtJ pre),(thrN,zd thr)] from rfl)
 obtain ⟨J,hJ⟩:∃J,J=zV ⟨bits,pre,⟨thr,ids⟩⟩:=⟨_,rfl⟩
 rw [← hJ] at HJ ⊢
 clear hW hb hx hr0 hz1 hI hm hJ
 obtain ⟨q0,q1,q2,q3⟩:=HC.out W (Below.refl _ _)
 go_enter Tryz.func149,Tryz.ntmps149
 go_upto_region 1 with fail
 rw [← HW.out]
 clear HW q0 q1 q2 q3
 obtain ⟨V,hV⟩:∃V:List MP,V=[.con (.pointer (some ⟨w.heap.size,0,none⟩)),.con (.agg #[.int .i64 thr,.slice ia ids.length ic]),.memb thr ids W.heap.size,.con (.pointer (some ⟨w.heap.size,2,none⟩)),.con (.int .i64 bits),.con (.agg #[.int .u8 2,.int .i64 bits,.string ⟨#[]⟩,.slice none 0 0,.slice none 0 0]),.con (.agg #[.string ⟨#[98,105,116,95,108,101,110,103,116,104]⟩,.int .u8 2,.int .i64 bits,.string ⟨#[]⟩,.slice none 0 0,.slice none 0 0]),.con (.pointer (some ⟨w.heap.size,3,none⟩)),.con (.string pre),.con (.agg #[.int .u8 3,.int .i64 0,.string pre,.slice none 0 0,.slice none 0 0]),.con (.agg #[.string ⟨#[110,97,109,101,95,112,114,101,102,105,120]⟩,.int .u8 3,.int .i64 0,.string pre,.slice none 0 0,.slice none 0 0]),.row W.heap.size 2 169 #[.string ⟨#[98,105,116,95,108,101,110,103,116,104]⟩,.int .u8 2,.int .i64 bits,.string ⟨#[]⟩,.slice none 0 0,.slice none 0 0,.string ⟨#[110,97,109,101,95,112,114,101,102,105,120]⟩,.int .u8 3,.int .i64 0,.string pre,.slice none 0 0,.slice none 0 0]]:=⟨_,rfl⟩
 have HV:=Lh hV
 clear hV
 refine zf 12 (fun d a' w'=>∃x6 x7 x8 x9 x10 x11 x12 x13 x14 x15 x16 x17,a'=⟨#[.agg #[.int .i64 thr,.slice ia ids.length ic,.int .i64 bits,.string pre],.pointer (some ⟨w.heap.size,0,none⟩),.pointer (some ⟨w.heap.size+1,0,none⟩),undef,undef,undef,x6,x7,x8,x9,x10,x11,x12,x13,x14,x15,x16,x17,undef,undef,undef,undef,undef,undef,undef],[]⟩∧zN W V d w' [x6,x7,x8,x9,x10,x11,x12,x13,x14,x15,x16,x17]) (by kernel_rfl) (by kernel_rfl) ?first ?step ?last
 case first=>exact ⟨_,_,_,_,_,_,_,_,_,_,_,_,rfl,zN.first _ _ _ (by rw [HV.out];rfl)⟩
 case step =>
  rintro d a' w' ⟨x6,x7,x8,x9,x10,x11,x12,x13,x14,x15,x16,x17,rfl,h⟩ q hq hn hw
  rcases q with _|_|_|_|_|_|_|_|_|_|_|_|q
  · refine wpOp_step rfl fun K hK=>?_
    go_simp
    exact hK _ _ ⟨_,x7,x8,x9,x10,x11,x12,x13,x14,x15,x16,x17,rfl,h.sameC 0 _ HV rfl⟩
  · obtain rfl:=h.con 0 (hw _ rfl ⟨0,.data⟩ (by simp) rfl) HV rfl rfl
    obtain ⟨q0,q1,q2,q3⟩:=HC.out w' h.1
    refine wpOp_step rfl fun K hK=>?_
    go_simp
    exact hK _ _ ⟨_,_,x8,x9,x10,x11,x12,x13,x14,x15,x16,x17,rfl,h.sameC 1 _ HV rfl⟩
  · obtain rfl:=h.con 1 (hw _ rfl ⟨1,.data⟩ (by simp) rfl) HV rfl rfl
    obtain ⟨q0,q1,q2,q3⟩:=HC.out w' h.1
    refine wpOp_step rfl fun K hK=>?_
    go_simp
    refine (HME.out w' h.1).mono ?_
    rintro e w2 ⟨y,rfl,hy,hb2⟩
    exact hK _ _ ⟨x6,_,_,x9,x10,x11,x12,x13,x14,x15,x16,x17,rfl,h.did hb2 2 _ (.memb thr ids W.heap.size) (by rw [HV.out];rfl) hy⟩
  · refine wpOp_step rfl fun K hK=>?_
    go_simp
    exact hK _ _ ⟨x6,x7,x8,_,x10,x11,x12,x13,x14,x15,x16,x17,rfl,h.sameC 3 _ HV rfl⟩
  · obtain rfl:=h.con 3 (hw _ rfl ⟨3,.data⟩ (by simp) rfl) HV rfl rfl
    obtain ⟨q0,q1,q2,q3⟩:=HC.out w' h.1
    refine wpOp_step rfl fun K hK=>?_
    go_simp
    exact hK _ _ ⟨x6,x7,x8,_,_,x11,x12,x13,x14,x15,x16,x17,rfl,h.sameC 4 _ HV rfl⟩
  · obtain rfl:=h.con 4 (hw _ rfl ⟨4,.data⟩ (by simp) rfl) HV rfl rfl
    obtain ⟨q0,q1,q2,q3⟩:=HC.out w' h.1
    refine wpOp_step rfl fun K hK=>?_
    go_simp
    refine (HNU.out w').mono ?_
    rintro e w2 ⟨rfl,hb2⟩
    exact hK _ _ ⟨x6,x7,x8,x9,_,_,x12,x13,x14,x15,x16,x17,rfl,h.didC hb2 5 _ HV rfl⟩
  · obtain rfl:=h.con 5 (hw _ rfl ⟨5,.data⟩ (by simp) rfl) HV rfl rfl
    refine wpOp_step rfl fun K hK=>?_
    go_simp
    exact hK _ _ ⟨x6,x7,x8,x9,x10,_,_,x13,x14,x15,x16,x17,rfl,h.sameC 6 _ HV rfl⟩
  · refine wpOp_step rfl fun K hK=>?_
    go_simp
    exact hK _ _ ⟨x6,x7,x8,x9,x10,x11,x12,_,x14,x15,x16,x17,rfl,h.sameC 7 _ HV rfl⟩
  · obtain rfl:=h.con 7 (hw _ rfl ⟨7,.data⟩ (by simp) rfl) HV rfl rfl
    obtain ⟨q0,q1,q2,q3⟩:=HC.out w' h.1
    refine wpOp_step rfl fun K hK=>?_
    go_simp
    exact hK _ _ ⟨x6,x7,x8,x9,x10,x11,x12,_,_,x15,x16,x17,rfl,h.sameC 8 _ HV rfl⟩
  · obtain rfl:=h.con 8 (hw _ rfl ⟨8,.data⟩ (by simp) rfl) HV rfl rfl
    obtain ⟨q0,q1,q2,q3⟩:=HC.out w' h.1
    refine wpOp_step rfl fun K hK=>?_
    go_simp
    refine (HTX.out w').mono ?_
    rintro e w2 ⟨rfl,hb2⟩
    exact hK _ _ ⟨x6,x7,x8,x9,x10,x11,x12,x13,_,_,x16,x17,rfl,h.didC hb2 9 _ HV rfl⟩
  · obtain rfl:=h.con 9 (hw _ rfl ⟨9,.data⟩ (by simp) rfl) HV rfl rfl
    refine wpOp_step rfl fun K hK=>?_
    go_simp
    exact hK _ _ ⟨x6,x7,x8,x9,x10,x11,x12,x13,x14,_,_,x17,rfl,h.sameC 10 _ HV rfl⟩
  · obtain rfl:=h.con 6 (hw _ rfl ⟨6,.data⟩ (by simp) rfl) HV rfl rfl
    obtain rfl:=h.con 10 (hw _ rfl ⟨10,.data⟩ (by simp) rfl) HV rfl rfl
    refine wpOp_step rfl fun K hK=>?_
    go_simp
    exact hK _ _ ⟨x6,x7,x8,x9,x10,x11,_,x13,x14,x15,_,_,rfl,h.new _ 11 _ (.row W.heap.size 2 169 #[.string ⟨#[98,105,116,95,108,101,110,103,116,104]⟩,.int .u8 2,.int .i64 bits,.string ⟨#[]⟩,.slice none 0 0,.slice none 0 0,.string ⟨#[110,97,109,101,95,112,114,101,102,105,120]⟩,.int .u8 3,.int .i64 0,.string pre,.slice none 0 0,.slice none 0 0]) (by rw [HV.out];rfl) (yM.made _ h.1.size)⟩
  · omega
 case last =>
  rintro d a' w' hall ⟨x6,x7,x8,x9,x10,x11,x12,x13,x14,x15,x16,x17,rfl,h⟩
  have hle:=h.1
  have hs8:=h.get 2 (hall _ (by omega)) (.memb thr ids W.heap.size) (by rw [HV.out];rfl) _ rfl
  obtain ⟨b17,k17,rfl,m17⟩:=h.get 11 (hall _ (by omega)) (.row W.heap.size 2 169 #[.string ⟨#[98,105,116,95,108,101,110,103,116,104]⟩,.int .u8 2,.int .i64 bits,.string ⟨#[]⟩,.slice none 0 0,.slice none 0 0,.string ⟨#[110,97,109,101,95,112,114,101,102,105,120]⟩,.int .u8 3,.int .i64 0,.string pre,.slice none 0 0,.slice none 0 0]) (by rw [HV.out];rfl) _ rfl
  have HLE:=Lh hle
  clear h hall hle HV
  have hb67:=HLE.out
  obtain ⟨g,ai,ci,rfl,hge,hgc,hgr⟩:=hs8
  have HMM:=Lh (pA hge hgc hgr)
  have HOM:=Lh (show w'.ownsRow W.heap.size 169 6 (.slice (some ⟨g,0,none⟩) 2 2) 2 (q8 [vb ai ids.length ci,jE thrN thr]) from HMM.out.own)
  have HB3:=Lh hb67
  have HGL:=Lh (qx hgc)
  have hw3:W.heap.size≤w'.heap.size:=hb67.size
  clear hb67 hge hgc hgr
  obtain ⟨i1,hi1,hy0,hy1,hy2⟩:=info_parts js
  simp only [List.drop_succ_cons,List.drop_zero]
  go_upto_region 2 with (at_builtin;refine wpList_append_lies _ rfl (.tmp 8) (.tmp 17) 170 rfl W.heap.size 169 i1 _ 6 96 Tryz.underlying170 hi1 hy0 hy1 hy2 rfl (by omega) (.slice (some ⟨g,0,none⟩) 2 2) 2 (q8 [vb ai ids.length ci,jE thrN thr]) rfl HOM.out ⟨b17,0,none⟩ 2 2 (q8 [jE jy bits,jQ jH pre]) rfl rfl (World.news_of_block (cs:=(q8 [jE jy bits,jQ jH pre]).toArray) (t:=169) (fr:=(0,0)) m17) (pT _) (by omega) (by unfold maxLen;omega) (by omega) (by have:=qx m17;omega) w'.heap.size (by omega) ?_;intro g2 cap2 w4 hown4 hgrow4 hat4 hlt4;have HO4:=Lh hown4;have HG4:=Lh hgrow4;have HA4:=Lh hat4;clear hown4 hgrow4 hat4)
  have HBF:=Lh (below_grown HB3.out hw3 HG4.out (fun b hb=>(HOM.out.lt b hb).1))
  have HMF:=Lh (show MemsAt W.heap.size w4 (.slice (some ⟨g2,0,none⟩) 4 cap2) [vb ai ids.length ci,jE thrN thr,jE jy bits,jQ jH pre] [qu ids,zd thr,zd bits,txtJ pre] from HMM.out.cat (ms2:=[jE jy bits,jQ jH pre]) (its2:=[zd bits,txtJ pre]) rfl (fun i hi=>by
   match i,hi with
   | 0,_=>exact ⟨W.heap.size,W.heap.size,Nat.le_refl _,hw3,fun b hb=>by omega,cB _ _ _ _⟩
   | 1,_=>exact ⟨W.heap.size,W.heap.size,Nat.le_refl _,hw3,fun b hb=>by omega,wV _ _ _ _⟩) HG4.out HO4.out (by
   rcases HA4.out with h|h
   · exact .inl h.symm
   · exact .inr ⟨g2,rfl,by omega⟩))
  have HZF:=Lh HZ2.out
  clear HO4 HG4 HA4 HMM HOM
  have HMO:=Lh (bB (v:=.slice (some ⟨g2,0,none⟩) 4 cap2) [(jy,zd bits),(qy,qu ids),(jH,txtJ pre),(thrN,zd thr)] (N:=[(qy,qu ids),(thrN,zd thr),(jy,zd bits),(jH,txtJ pre)]) ⟨_,by simpa using HMF.out,by simp [vb,jE,jQ]⟩ ⟨_,_,rfl⟩ (tL _ _ _ _) zm.2.2.1 (by simp) (fun p hp=>by
   simp only [List.mem_cons,List.not_mem_nil,or_false] at hp
   rcases hp with rfl|rfl|rfl|rfl
   · show (zd _).wt≤4294967296;rw [gb];decide
   · exact jB HPT.out.2.2 (by have:=HPT.out.2.1;omega)
   · show (txtJ pre).wt≤4294967296;rw [xO];have:=HPT.out.1;omega
   · show (zd _).wt≤4294967296;rw [gb];decide) (by have:=HZF.out;omega))
  clear HMF
  go_wp2_with fail
  refine HMO.out.mono ?_
  clear HMO
  rintro e w8 ⟨an8,cn8,ai8,ci8,rfl,hr8,hb8⟩
  have hbF:Below W.heap.size W w8:=HBF.out.trans (hb8.mono HBF.out.size)
  obtain ⟨W9,hW9⟩:∃W9,W9=w8.alloc (.cells #[.int .u8 5,.int .i64 0,.string ⟨#[]⟩,.slice an8 4 cn8,.slice ai8 4 ci8] 25):=⟨_,rfl⟩
  have hb9:Below w8.heap.size w8 W9:=by rw [hW9];exact (Below.refl _ _).alloc lz _
  have hx9:W9.heap[w8.heap.size]?=some (.cells #[.int .u8 5,.int .i64 0,.string ⟨#[]⟩,.slice an8 4 cn8,.slice ai8 4 ci8] 25 (0,0)):=by rw [hW9];exact heap_alloc_new w8 _
  have hres:=qj (hbF.trans (hb9.mono hbF.size)) HR0.out HR0.out.lt
  have HRS:=Lh hres
  have HR8:=Lh (Rep.below hr8 (B:=w8.heap.size) hb9 lz lz hb9.size)
  have HZ8:=Lh (show w.heap.size+2≤w4.heap.size from Nat.le_trans HZ2.out HBF.out.size)
  have HB8:=Lh (HB.out.trans ((hbF.trans (hb9.mono hbF.size)).mono HB.out.size))
  obtain ⟨z0,z1,z2,z3,z4⟩:=bx5 hx9
  obtain ⟨t0,t1,t2,t3,t4⟩:=rc5 hres
  obtain ⟨s0,s1,s2,s3,s4⟩:=rf5 hres
  simp only [qQ] at t0 t1 t2 t3 t4
  have HW9:=Lh hW9
  clear hres hr8 hb8 hbF hb9 hx9 hW9
  go_upto_region 3 with fail
  rw [← HW9.out]
  clear HW9
  go_wp2
  refine bodyPost_ret (results_cell_row Tryz.results149 _ _ (w.heap.size+1) 25 _ (0,0) _ rfl (qi (set5 _ _ _ _ _ HRS.out)) Tryz.underlying25 rfl (by kernel_rfl)) rfl ?_
  rw [HJ.out]
  refine ⟨an8,cn8,ai8,ci8,rfl,?_,q7 _ _ _ _ _ HB8.out (by omega)⟩
  exact Rep.carry (by have:=HZ8.out;omega) (show W9.heap.size≤_ by simp [World.setCell]) (fun j hj _=>xr _ _ _ _ _ (by have:=HZ8.out;omega)) _ _ HR8.out
theorem bP (d d':Array Mem) (its:List JV) (blk off cap:Nat) (w:World) (lo hi:Nat) (hH:HoldsK qV 6 w blk off d) (hblk:blk<w.heap.size) (hn:d.size≤4294967296) (hp:d'.toList.Perm d.toList) (hr:bG d')
 (hl:d'.size=its.length) (hm:∀i (h:i<its.length),Rep w lo hi its[i] d'[i]!.val∧its[i].wt≤4294967296∧∀k (h':k<its[i].items.length),bD lo its[i].items[k])
 (hhi:hi≤w.heap.size) :
 Calls Tryz.prog 150 #[.slice (some ⟨blk,off,none⟩) d.size cap] w (gL (d'.toList.map (·.name)) its w) :=
 bS d d' its blk off cap w lo hi hH hblk hn (by simpa using hp.length_eq) (fun g cap1 w1 hH1 hg1=>nV g cap1 d d' w1 hH1 hg1 hn hp hr) hl hm (fun i h e=>by
  have:=hr i (i+1) h (by omega)
  rw [getElem!_pos d' i (by omega),getElem!_pos d' (i+1) h] at e
  rw [e,zc] at this;cases this) hhi
theorem dk {W0:Nat} {w:World} {v:Value} {N:List NJ} (M:List NJ) (hM:dj W0 w v N) (hg:∃g cap,v=.slice (some ⟨g,0,none⟩) N.length cap) (hp:M.Perm N) (hr:qe (M.map (·.1))=true) (hl:N.length≤4294967296) (hw:∀p ∈ M,p.2.wt≤4294967296) (h0:0<W0) :
 Calls Tryz.prog 150 #[v] w (gL (M.map (·.1)) (M.map (·.2)) w):=by
 obtain ⟨ms,hms,hn,hlen⟩:=hM.len
 obtain ⟨g,cap,rfl⟩:=hg
 have hzl:(N.zip ms).length=N.length:=by simp [hlen]
 obtain ⟨Z,hZp,hZm⟩:=pN (fun z:NJ × Mem=>z.1) hp (N.zip ms) (by rw [List.map_fst_zip];omega)
 have hin:∀z ∈ Z,z.2.name=z.1.1∧Rep w W0 w.heap.size z.1.2 z.2.val:=fun z hz=>by
  obtain ⟨i,hi,rfl⟩:=List.getElem_of_mem (hZp.mem_iff.1 hz)
  have hi':i<N.length:=by omega
  rw [List.getElem_zip]
  have e1:=List.getElem_of_eq hn (i:=i) (by simp;omega)
  simp only [List.getElem_map] at e1
  obtain ⟨lo,hi2,h1,h2,_,hr⟩:=hms.reps i (by simp;omega)
  simp only [List.getElem_map] at hr
  exact ⟨e1,Rep.carry h1 h2 (fun _ _ _=>rfl) _ _ hr⟩
 have hlZ:Z.length=N.length:=by rw [hZp.length_eq,hzl]
 have hlM:M.length=Z.length:=by rw [← hZm,List.length_map]
 have hown:=hms.own
 rw [← hlen] at hown
 have hH:g<w.heap.size∧HoldsK qV 6 w g 0 ms.toArray:=by
  rcases Nat.eq_zero_or_pos ms.length with h|h
  · rcases hown.2 with ⟨hv,_⟩|⟨g',cap',cur,hv,hg,hh,hc,hm,hs,ht⟩
    · cases hv
    · cases hv
      refine ⟨qx hh,fun j hj=>?_⟩
      simp [h] at hj
  · obtain ⟨g',cap',hv,hlt,hH⟩:=pi hown h
    cases hv
    exact ⟨hlt,hH⟩
 have hnm:(Z.map (·.2)).map (·.name)=M.map (·.1):=by
  rw [List.map_map,← hZm,List.map_map]
  exact List.map_congr_left fun z hz=>(hin z hz).1
 have hms2:((N.zip ms).map (·.2))=ms:=by rw [List.map_snd_zip];omega
 have:=bP ms.toArray (Z.map (·.2)).toArray (M.map (·.2)) g 0 cap w W0 w.heap.size hH.2 hH.1 (by simp;omega) (by
  have:=hZp.map (·.2)
  rw [hms2] at this
  simpa using this) (pS hr hnm) (by simp [hlM]) (fun i hi=>?_) lz
 · rw [show ((Z.map (·.2)).toArray.toList.map (·.name))=M.map (·.1) from hnm] at this
   rw [show ms.toArray.size=N.length by simp [hlen]] at this
   exact this
 · have hi':i<Z.length:=by have:=hi;simp at this;omega
   have hiM:i<M.length:=by omega
   have eM:M[i]=Z[i].1:=by
    have:=List.getElem_of_eq hZm (i:=i) (by simpa using hi')
    simpa using this.symm
   obtain ⟨_,hr⟩:=hin Z[i] (List.getElem_mem hi')
   refine ⟨?_,?_,fun k _=>.inl h0⟩
   · rw [getElem!_pos _ i (by simpa using hi')]
     simp only [List.getElem_toArray,List.getElem_map]
     rw [eM]
     exact hr
   · rw [List.getElem_map]
     exact hw _ (List.getElem_mem hiM)
end Go.Proofs.YthgembbgcbaghaaGreatDoor
