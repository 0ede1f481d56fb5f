/- The contract of bins.Wrong. -/
import Derived.Test.YthgembbgcbaghaaGreatDoorDa22
import Derived.Test.YthgembbgcbaghaaGreatDoorDa08

namespace Go.Proofs.YthgembbgcbaghaaGreatDoor
open Go.RowKit
structure RootIn (w:World) (lo hi:Nat) (r:RootV) (ka i1 i2 i3:Option Addr):Prop where
 keys:zP w lo hi ka r.keys
 a:qw w lo hi i1 r.au.a.ids
 b:qw w lo hi i2 r.au.b.ids
 c:qw w lo hi i3 r.au.c.ids
def xX (a:AuthV):Prop:=(-9223372036854775808≤a.thr∧a.thr≤9223372036854775807)∧a.ids.length≤4294967296∧∀s ∈ a.ids,s.size≤4294967296
structure RootFits (r:RootV):Prop where
 ver:-9223372036854775808≤r.ver∧r.ver≤9223372036854775807
 exp:-9223372036854775808≤r.exp∧r.exp≤9223372036854775807
 len:r.keys.length≤40
 keys:∀k ∈ r.keys,k.1.size≤300∧k.2.size≤300
 a:xX r.au.a
 b:xX r.au.b
 c:xX r.au.c
structure DelegIn (w:World) (lo hi:Nat) (x:DelegV) (ia pa qa:Option Addr):Prop where
 ids:qw w lo hi ia x.au.ids
 paths:qw w lo hi pa x.paths
 pres:qw w lo hi qa x.pres
theorem DelegIn.carry {w w':World} {lo hi lo' hi':Nat} {x:DelegV} {ia pa qa:Option Addr} (h:DelegIn w lo hi x ia pa qa) (h1:lo'≤lo) (h2:hi≤hi') (hs:∀b,lo≤b→b<hi→w'.heap[b]?=w.heap[b]?):DelegIn w' lo' hi' x ia pa qa :=
 ⟨h.ids.carry h1 h2 hs,h.paths.carry h1 h2 hs,h.pres.carry h1 h2 hs⟩
theorem DelegIn.below {w w':World} {lo hi lo' hi' B:Nat} {x:DelegV} {ia pa qa:Option Addr} (h:DelegIn w lo hi x ia pa qa) (hb:Below B w w') (hB:hi≤B) (h1:lo'≤lo) (h2:hi≤hi'):DelegIn w' lo' hi' x ia pa qa :=
 h.carry h1 h2 fun b _ hlt=>hb.block b (by omega)
def wF (w:World) (lo hi b o:Nat) (x:DelegV):Prop :=
 ∃ia ic pa pc qa qc,w.cell? ⟨b,o,none⟩=some (.string x.name)∧w.cell? ⟨b,o+1,none⟩=some (.int .i64 x.au.thr)∧w.cell? ⟨b,o+2,none⟩=some (.slice ia x.au.ids.length ic)∧w.cell? ⟨b,o+3,none⟩=some (.bool x.term) ∧
  w.cell? ⟨b,o+4,none⟩=some (.slice pa x.paths.length pc)∧w.cell? ⟨b,o+5,none⟩=some (.slice qa x.pres.length qc)∧x.au.ids.length≤ic∧x.paths.length≤pc∧x.pres.length≤qc∧DelegIn w lo hi x ia pa qa
theorem wF.carry {w w':World} {lo hi lo' hi' b o:Nat} {x:DelegV} (h:wF w lo hi b o x) (h1:lo'≤lo) (h2:hi≤hi') (hb:lo≤b) (hb':b<hi) (hs:∀b,lo≤b→b<hi→w'.heap[b]?=w.heap[b]?):wF w' lo' hi' b o x:=by
 have e:∀o,w'.cell? ⟨b,o,none⟩=w.cell? ⟨b,o,none⟩:=fun o=>World.cell?_of_block (w:=w) (w':=w') (hs b hb hb')
 obtain ⟨ia,ic,pa,pc,qa,qc,c0,c1,c2,c3,c4,c5,l1,l2,l3,hi⟩:=h
 exact ⟨ia,ic,pa,pc,qa,qc,by rw [e];exact c0,by rw [e];exact c1,by rw [e];exact c2,by rw [e];exact c3,by rw [e];exact c4,by rw [e];exact c5,l1,l2,l3,hi.carry h1 h2 hs⟩
def qE (w:World) (lo hi:Nat) (a:Option Addr) (l:List DelegV):Prop :=
 l=[]∨∃b off,a=some ⟨b,off,none⟩∧lo≤b∧b<hi∧∀i (h:i<l.length),wF w lo hi b (off+i * 6) l[i]
theorem qE.at {w:World} {lo hi:Nat} {a:Option Addr} {l:List DelegV} (h:qE w lo hi a l) (i:Nat) (hi':i<l.length) :
 ∃b off,a=some ⟨b,off,none⟩∧lo≤b∧b<hi∧wF w lo hi b (off+i * 6) l[i]:=by
 rcases h with h|⟨b,off,ha,hb,hb',hr⟩
 · rw [h] at hi';simp at hi'
 · exact ⟨b,off,ha,hb,hb',hr i hi'⟩
theorem qE.carry {w w':World} {lo hi lo' hi':Nat} {a:Option Addr} {l:List DelegV} (h:qE w lo hi a l) (h1:lo'≤lo) (h2:hi≤hi') (hs:∀b,lo≤b→b<hi→w'.heap[b]?=w.heap[b]?):qE w' lo' hi' a l:=by
 rcases h with h|⟨b,off,ha,hb,hb',hr⟩
 · exact .inl h
 · exact .inr ⟨b,off,ha,by omega,by omega,fun i hi=>(hr i hi).carry h1 h2 hb hb' hs⟩
theorem qE.below {w w':World} {lo hi lo' hi' B:Nat} {a:Option Addr} {l:List DelegV} (h:qE w lo hi a l) (hb:Below B w w') (hB:hi≤B) (h1:lo'≤lo) (h2:hi≤hi'):qE w' lo' hi' a l :=
 h.carry h1 h2 fun b _ hlt=>hb.block b (by omega)
theorem qE.take {w:World} {lo hi:Nat} {a:Option Addr} {l:List DelegV} (h:qE w lo hi a l) (k:Nat):qE w lo hi a (l.take k):=by
 rcases h with h|⟨b,off,ha,hb,hb',hr⟩
 · exact .inl (by rw [h,List.take_nil])
 · refine .inr ⟨b,off,ha,hb,hb',fun i hi=>?_⟩
   rw [List.length_take] at hi
   rw [List.getElem_take]
   exact hr i (by omega)
structure DelegsIn (w:World) (lo hi:Nat) (d:DelegsV) (ka ra ba:Option Addr):Prop where
 keys:zP w lo hi ka d.keys
 roles:qE w lo hi ra d.roles
 bids:qw w lo hi ba d.bins.au.ids
theorem DelegsIn.carry {w w':World} {lo hi lo' hi':Nat} {d:DelegsV} {ka ra ba:Option Addr} (h:DelegsIn w lo hi d ka ra ba) (h1:lo'≤lo) (h2:hi≤hi') (hs:∀b,lo≤b→b<hi→w'.heap[b]?=w.heap[b]?):DelegsIn w' lo' hi' d ka ra ba :=
 ⟨h.keys.carry h1 h2 hs,h.roles.carry h1 h2 hs,h.bids.carry h1 h2 hs⟩
theorem DelegsIn.below {w w':World} {lo hi lo' hi' B:Nat} {d:DelegsV} {ka ra ba:Option Addr} (h:DelegsIn w lo hi d ka ra ba) (hb:Below B w w') (hB:hi≤B) (h1:lo'≤lo) (h2:hi≤hi'):DelegsIn w' lo' hi' d ka ra ba :=
 h.carry h1 h2 fun b _ hlt=>hb.block b (by omega)
structure DelegFits (x:DelegV):Prop where
 name:x.name.size≤4294967296
 au:xX x.au
 paths:x.paths.length≤4294967296∧∀s ∈ x.paths,s.size≤4294967296
 pres:x.pres.length≤4294967296∧∀s ∈ x.pres,s.size≤4294967296
structure DelegsFits (d:DelegsV):Prop where
 len:d.keys.length≤40
 keys:∀k ∈ d.keys,k.1.size≤300∧k.2.size≤300
 many:d.roles.length≤70
 roles:∀x ∈ d.roles,DelegFits x
 bits:-9223372036854775808≤d.bins.bits∧d.bins.bits≤9223372036854775807
 pre:d.bins.pre.size≤300
 au:xX d.bins.au
abbrev kg:=StepV × Option Addr × Nat
def encS (q:kg):List Value:=[.string q.1.name,.int .i64 q.1.au.thr,.slice q.2.1 q.1.au.ids.length q.2.2,.bool q.1.term]
theorem rY (q:kg):(encS q).length=4:=rfl
theorem rG (q:kg):∀v ∈ encS q,v.oneCell'=true:=by
 intro v hv
 simp only [encS,List.mem_cons,List.not_mem_nil,or_false] at hv
 rcases hv with rfl|rfl|rfl|rfl <;> rfl
def stepP (w:World) (lo hi:Nat) (q:kg):Prop:=q.1.au.ids.length≤q.2.2∧xV w lo hi q.2.1 q.1.au.ids
theorem jN:gT stepP:=fun _ _ _ _ _ hs h=>⟨h.1,h.2.carry lz lz hs⟩
def zW (T B:Nat) (w:World) (vs:Value) (qs:List kg):Prop:=ItemsOwn T 4 B encS stepP w vs qs
def dU (T:Nat) (S:List StepV) (w:World) (e:Ending) (w':World):Prop :=
 ∃(a:Option Addr) (c:Nat) (qs:List kg),e=.returned (.slice a S.length c)∧qs.map (·.1)=S∧zW T w.heap.size w' (.slice a S.length c) qs∧Below w.heap.size w w'
theorem zW.at {T B:Nat} {w:World} {a:Option Addr} {n c:Nat} {qs:List kg} {S:List StepV} (h:zW T B w (.slice a n c) qs) (hS:qs.map (·.1)=S) (i:Nat) (hi:i<S.length) :
 ∃g ia ic lo hi',a=some ⟨g,0,none⟩∧B≤g∧g<w.heap.size∧(∀o,w.frozen? ⟨g,o,none⟩=false)∧w.cell? ⟨g,i * 4,none⟩=some (.string S[i].name)∧w.cell? ⟨g,i * 4+1,none⟩=some (.int .i64 S[i].au.thr)∧w.cell? ⟨g,i * 4+2,none⟩=some (.slice ia S[i].au.ids.length ic)∧w.cell? ⟨g,i * 4+3,none⟩=some (.bool S[i].term) ∧
  S[i].au.ids.length≤ic∧B≤lo∧hi'≤w.heap.size∧¬(lo≤g∧g<hi')∧xV w lo hi' ia S[i].au.ids:=by
 subst hS
 have hi2:i<qs.length:=by simpa using hi
 obtain ⟨-,-,h3⟩:=ItemsOwn.cells rY h
 rcases h3 with h3|⟨g,ha,hg,hlt,hf,hc⟩
 · rw [h3] at hi2;simp at hi2
 · obtain ⟨lo,hi',k1,k2,k3,k4,k5⟩:=ItemsOwn.each h qs[i] (List.getElem_mem hi2)
   subst ha
   have e:(qs.map (·.1))[i]=qs[i].1:=List.getElem_map ..
   rw [e]
   exact ⟨g,qs[i].2.1,qs[i].2.2,lo,hi',rfl,hg,hlt,hf,hc i hi2 0 (by decide),hc i hi2 1 (by decide),hc i hi2 2 (by decide),hc i hi2 3 (by decide),k4,k1,k2,k3 g rfl,k5⟩
def bg (w:World) (lo hi b o:Nat) (x:StepV):Prop :=
 ∃ia ic,w.cell? ⟨b,o,none⟩=some (.string x.name)∧w.cell? ⟨b,o+1,none⟩=some (.int .i64 x.au.thr)∧w.cell? ⟨b,o+2,none⟩=some (.slice ia x.au.ids.length ic)∧w.cell? ⟨b,o+3,none⟩=some (.bool x.term)∧x.au.ids.length≤ic∧qw w lo hi ia x.au.ids
theorem bg.carry {w w':World} {lo hi lo' hi' b o:Nat} {x:StepV} (h:bg w lo hi b o x) (h1:lo'≤lo) (h2:hi≤hi') (hb:lo≤b) (hb':b<hi) (hs:∀b,lo≤b→b<hi→w'.heap[b]?=w.heap[b]?):bg w' lo' hi' b o x:=by
 have e:∀o,w'.cell? ⟨b,o,none⟩=w.cell? ⟨b,o,none⟩:=fun o=>World.cell?_of_block (w:=w) (w':=w') (hs b hb hb')
 obtain ⟨ia,ic,c0,c1,c2,c3,l1,hi⟩:=h
 exact ⟨ia,ic,by rw [e];exact c0,by rw [e];exact c1,by rw [e];exact c2,by rw [e];exact c3,l1,hi.carry h1 h2 hs⟩
def jg (w:World) (lo hi:Nat) (a:Option Addr) (l:List StepV):Prop :=
 l=[]∨∃b off,a=some ⟨b,off,none⟩∧lo≤b∧b<hi∧∀i (h:i<l.length),bg w lo hi b (off+i * 4) l[i]
theorem jg.at {w:World} {lo hi:Nat} {a:Option Addr} {l:List StepV} (h:jg w lo hi a l) (i:Nat) (hi':i<l.length) :
 ∃b off,a=some ⟨b,off,none⟩∧lo≤b∧b<hi∧bg w lo hi b (off+i * 4) l[i]:=by
 rcases h with h|⟨b,off,ha,hb,hb',hr⟩
 · rw [h] at hi';simp at hi'
 · exact ⟨b,off,ha,hb,hb',hr i hi'⟩
theorem jg.carry {w w':World} {lo hi lo' hi':Nat} {a:Option Addr} {l:List StepV} (h:jg w lo hi a l) (h1:lo'≤lo) (h2:hi≤hi') (hs:∀b,lo≤b→b<hi→w'.heap[b]?=w.heap[b]?):jg w' lo' hi' a l:=by
 rcases h with h|⟨b,off,ha,hb,hb',hr⟩
 · exact .inl h
 · exact .inr ⟨b,off,ha,by omega,by omega,fun i hi=>(hr i hi).carry h1 h2 hb hb' hs⟩
theorem jg.below {w w':World} {lo hi lo' hi' B:Nat} {a:Option Addr} {l:List StepV} (h:jg w lo hi a l) (hb:Below B w w') (hB:hi≤B) (h1:lo'≤lo) (h2:hi≤hi'):jg w' lo' hi' a l :=
 h.carry h1 h2 fun b _ hlt=>hb.block b (by omega)
theorem zW.steps {T B:Nat} {w:World} {a:Option Addr} {n c:Nat} {qs:List kg} {S:List StepV} (h:zW T B w (.slice a n c) qs) (hS:qs.map (·.1)=S):jg w B w.heap.size a S:=by
 by_cases h0:S=[]
 · exact .inl h0
 · obtain ⟨g,ia,ic,lo,hi,ha,hg,hlt,-⟩:=h.at hS 0 (List.length_pos_iff.2 h0)
   refine .inr ⟨g,0,ha,hg,hlt,fun i hi=>?_⟩
   obtain ⟨g2,ia,ic,lo,hi',ha2,-,-,-,c0,c1,c2,c3,l1,l2,l3,-,hs⟩:=h.at hS i hi
   rw [ha] at ha2
   cases ha2
   rw [Nat.zero_add]
   exact ⟨ia,ic,c0,c1,c2,c3,l1,hs.1.carry l2 l3 (fun _ _ _=>rfl)⟩
def cU (l:List ByteArray) (lo:Nat) (w:World) (x:Value):Prop:=∃a c,x=.slice a l.length c∧l.length≤c∧xV w lo w.heap.size a l
def MP.strsW (l:List ByteArray) (lo:Nat):MP:=⟨cU l lo,fun _ _ _ hb ⟨a,c,e,h1,h2⟩=>⟨a,c,e,h1,h2.below hb lz lz hb.size⟩⟩
def cM (t:Int) (l:List ByteArray) (lo:Nat) (w:World) (x:Value):Prop:=∃a c,x=.agg #[.int .i64 t,.slice a l.length c]∧l.length≤c∧xV w lo w.heap.size a l
def MP.authW (t:Int) (l:List ByteArray) (lo:Nat):MP:=⟨cM t l lo,fun _ _ _ hb ⟨a,c,e,h1,h2⟩=>⟨a,c,e,h1,h2.below hb lz lz hb.size⟩⟩
set_option maxHeartbeats 2000000 in
set_option maxRecDepth 100000 in
theorem vM (t:Int) (ids:List ByteArray) (ia:Option Addr) (ic lo:Nat) (w:World) (hlo:lo≤w.heap.size) (hI:qw w 0 w.heap.size ia ids) (hl:ids.length≤4294967296) :
 Calls Tryz.prog 76 #[.agg #[.int .i64 t,.slice ia ids.length ic]] w fun e w'=>∃y,e=.returned y∧cM t ids lo w' y∧Below w.heap.size w w':=by
 obtain ⟨W,hW⟩:∃W,W=(w.alloc (.cells #[.int .i64 t,.slice ia ids.length ic] 31)).alloc (.cells #[.int .i64 0,.slice none 0 0] 31):=⟨_,rfl⟩
 have hb:Below w.heap.size w W:=by rw [hW];exact ((Below.refl _ _).alloc lz _).alloc (by simp) _
 have hx:W.heap[w.heap.size]?=some (.cells #[.int .i64 t,.slice ia ids.length ic] 31 (0,0)):=by rw [hW];exact zk w _ _
 have hr0:W.rowIs (w.heap.size+1) 31 2 (ju (.int .i64 0) (.slice none 0 0)):=by
  have:=ko (w.alloc (.cells #[.int .i64 t,.slice ia ids.length ic] 31)) (.int .i64 0) (.slice none 0 0) 31
  rw [show (w.alloc (.cells #[.int .i64 t,.slice ia ids.length ic] 31)).heap.size=w.heap.size+1 by simp,← hW] at this
  exact this
 have HC:=Lh (show ∀w':World,Below W.heap.size W w'→w'.cell? ⟨w.heap.size,0,none⟩=some (.int .i64 t)∧w'.cell? ⟨w.heap.size,1,none⟩=some (.slice ia ids.length ic) from fun w' h=>by
  have y:=(h.block _ (qx hx)).trans hx
  exact ⟨qq y rfl,qq y rfl⟩)
 have HCL:=Lh (show ∀w':World,Below W.heap.size W w'→Calls Tryz.prog 103 #[.slice ia ids.length ic] w' (fun e w2=>∃y,e=.returned y∧cU ids W.heap.size w2 y∧Below w'.heap.size w' w2) from fun w' h=>by
  refine (mQ ids ia ic w' w'.heap.size (hI.below (hb.trans (h.mono hb.size)) lz lz (Nat.le_trans hb.size h.size)) hl).mono ?_
  rintro e w2 ⟨a,c,rfl,h1,h2,h3⟩
  exact ⟨_,rfl,⟨a,c,rfl,h1,h2.carry h.size lz (fun _ _ _=>rfl)⟩,h3⟩)
 have HR0:=Lh hr0
 have HB:=Lh hb
 have HZ:=Lh (show w.heap.size+2≤W.heap.size from hr0.lt)
 have HW:=Lh hW
 clear hW hb hx hr0 hI hl
 obtain ⟨q0,q1⟩:=HC.out W (Below.refl _ _)
 go_enter Tryz.func76,Tryz.ntmps76
 go_upto_region 1 with fail
 rw [← HW.out]
 clear HW q0 q1
 obtain ⟨V,hV⟩:∃V:List MP,V=[.con (.pointer (some ⟨w.heap.size,0,none⟩)),.con (.int .i64 t),.con (.pointer (some ⟨w.heap.size,1,none⟩)),.con (.slice ia ids.length ic),.strsW ids W.heap.size]:=⟨_,rfl⟩
 have HV:=Lh hV
 clear hV
 refine zf 5 (fun d a' w'=>∃x3 x4 x5 x6 x7,a'=⟨#[.agg #[.int .i64 t,.slice ia ids.length ic],.pointer (some ⟨w.heap.size,0,none⟩),.pointer (some ⟨w.heap.size+1,0,none⟩),x3,x4,x5,x6,x7,undef],[]⟩∧zN W V d w' [x3,x4,x5,x6,x7]) (by kernel_rfl) (by kernel_rfl) ?first ?step ?last
 case first=>exact ⟨_,_,_,_,_,rfl,zN.first _ _ _ (by rw [HV.out];rfl)⟩
 case step =>
  rintro d a' w' ⟨x3,x4,x5,x6,x7,rfl,h⟩ q hq hn hw
  rcases q with _|_|_|_|_|q
  · refine wpOp_step rfl fun K hK=>?_
    go_simp
    exact hK _ _ ⟨_,x4,x5,x6,x7,rfl,h.sameC 0 _ HV rfl⟩
  · obtain rfl:=h.con 0 (hw _ rfl ⟨0,.data⟩ (by simp) rfl) HV rfl rfl
    obtain ⟨q0,q1⟩:=HC.out w' h.1
    refine wpOp_step rfl fun K hK=>?_
    go_simp
    exact hK _ _ ⟨_,_,x5,x6,x7,rfl,h.sameC 1 _ HV rfl⟩
  · refine wpOp_step rfl fun K hK=>?_
    go_simp
    exact hK _ _ ⟨x3,x4,_,x6,x7,rfl,h.sameC 2 _ HV rfl⟩
  · obtain rfl:=h.con 2 (hw _ rfl ⟨2,.data⟩ (by simp) rfl) HV rfl rfl
    obtain ⟨q0,q1⟩:=HC.out w' h.1
    refine wpOp_step rfl fun K hK=>?_
    go_simp
    exact hK _ _ ⟨x3,x4,_,_,x7,rfl,h.sameC 3 _ HV rfl⟩
  · obtain rfl:=h.con 3 (hw _ rfl ⟨3,.data⟩ (by simp) rfl) HV rfl rfl
    obtain ⟨q0,q1⟩:=HC.out w' h.1
    refine wpOp_step rfl fun K hK=>?_
    go_simp
    refine (HCL.out w' h.1).mono ?_
    rintro e w2 ⟨y,rfl,hy,hb2⟩
    exact hK _ _ ⟨x3,x4,x5,_,_,rfl,h.did hb2 4 _ (.strsW ids W.heap.size) (by rw [HV.out];rfl) hy⟩
  · omega
 case last =>
  rintro d a' w' hall ⟨x3,x4,x5,x6,x7,rfl,h⟩
  have hle:=h.1
  obtain rfl:=h.con 1 (hall _ (by omega)) HV rfl rfl
  have hs7:=h.get 4 (hall _ (by omega)) (.strsW ids W.heap.size) (by rw [HV.out];rfl) _ rfl
  have HLE:=Lh hle
  clear h hall hle HV
  have hb67:=HLE.out
  obtain ⟨a,c,rfl,hc1,hs1⟩:=hs7
  have hres:=qj hb67 HR0.out HR0.out.lt
  have HRS:=Lh hres
  have HS:=Lh hs1
  have HC1:=Lh hc1
  have HBF:=Lh (HB.out.trans (hb67.mono HB.out.size))
  have t0:=hres.cell (i:=0) (by decide);have t1:=hres.cell (i:=1) (by decide)
  have s0:=hres.frozen 0;have s1:=hres.frozen 1
  simp only [ju] at t0 t1
  simp only [List.drop_succ_cons,List.drop_zero]
  clear hb67 hs1 hc1 hres
  go_wp2
  refine bodyPost_ret (results_cell_row Tryz.results76 _ _ (w.heap.size+1) 31 _ (0,0) _ rfl (zQ (set2 _ _ HRS.out)) Tryz.underlying31 rfl (by kernel_rfl)) rfl ?_
  refine ⟨_,rfl,⟨a,c,rfl,HC1.out,?_⟩,vS _ _ HBF.out (by omega)⟩
  exact HS.out.carry (by have:=HZ.out;omega) (Nat.le_of_eq tp.symm) (fun b h1 h2=>aq _ _ (by have:=HZ.out;omega))
def dM (l:List ByteArray) (w:World) (e:Ending) (w':World):Prop :=
 ∃ai ci,e=.returned (.agg #[.int .u8 4,.int .i64 0,.string ⟨#[]⟩,.slice none 0 0,.slice ai l.length ci])∧Rep w' w.heap.size w'.heap.size (qu l) (.agg #[.int .u8 4,.int .i64 0,.string ⟨#[]⟩,.slice none 0 0,.slice ai l.length ci])∧Below w.heap.size w w'
set_option maxHeartbeats 2000000 in
set_option maxRecDepth 100000 in
theorem fh (l:List ByteArray) (a:Option Addr) (c:Nat) (w:World) (hS:qw w 0 w.heap.size a l) (hl:l.length≤4294967296) :
 Calls Tryz.prog 203 #[.slice a l.length c] w (dM l w):=by
 obtain ⟨W,hW⟩:∃W,W=(w.alloc (.cells #[.int .u8 0,.int .i64 0,.string ⟨#[]⟩,.slice none 0 0,.slice none 0 0] 25)).alloc (.cells #[.int .u8 4,.int .i64 0,.string ⟨#[]⟩,.slice none 0 0,.slice none 0 0] 25):=⟨_,rfl⟩
 have hz1:(w.alloc (.cells #[.int .u8 0,.int .i64 0,.string ⟨#[]⟩,.slice none 0 0,.slice none 0 0] 25)).heap.size=w.heap.size+1:=by simp
 have hz2:W.heap.size=w.heap.size+2:=by rw [hW];simp
 have hb2:Below w.heap.size w W:=by rw [hW];exact ((Below.refl _ _).alloc lz _).alloc (by simp) _
 have hr0:W.rowIs w.heap.size 25 5 (qQ (.int .u8 0) (.int .i64 0) (.string ⟨#[]⟩) (.slice none 0 0) (.slice none 0 0)):=by rw [hW];exact (qp w (.int .u8 0) (.int .i64 0) (.string ⟨#[]⟩) (.slice none 0 0) (.slice none 0 0) 25).alloc _
 have hr1:W.rowIs (w.heap.size+1) 25 5 (qQ (.int .u8 4) (.int .i64 0) (.string ⟨#[]⟩) (.slice none 0 0) (.slice none 0 0)):=by
  have:=qp (w.alloc (.cells #[.int .u8 0,.int .i64 0,.string ⟨#[]⟩,.slice none 0 0,.slice none 0 0] 25)) (.int .u8 4) (.int .i64 0) (.string ⟨#[]⟩) (.slice none 0 0) (.slice none 0 0) 25
  rw [hz1,← hW] at this
  exact this
 have HS:=Lh hS
 have HW:=Lh hW
 have HB2:=Lh hb2
 have HR0:=Lh hr0
 have HR1:=Lh hr1
 have HZ2:=Lh hz2
 obtain ⟨nn,hnn⟩:∃nn,nn=l.length:=⟨_,rfl⟩
 have HNN:=Lh hnn
 rw [← hnn] at hl ⊢
 clear hS hW hb2 hr0 hr1 hz1 hz2 hnn
 obtain ⟨i0,hi0,hz0,hz1,hz2⟩:=info_parts xv
 go_enter Tryz.func203,Tryz.ntmps203
 go_upto_region 2 with fail
 rw [← HW.out]
 clear HW
 obtain ⟨cb,hcb⟩:∃cb,cb=w.heap.size+1:=⟨_,rfl⟩
 have HCB:=Lh hcb
 rw [← hcb] at HR1 ⊢
 have hltW:cb<W.heap.size:=by have:=HZ2.out;omega
 clear hcb
 go_wp2
 go_loopw [5,9] (fun _ i wr=>∃(k:Nat) (cs:List Value) (vi:Value),k≤nn∧i=.int .i64 k∧Touch (· = cb) W wr∧wr.rowIs cb 25 5 (qQ (.int .u8 4) (.int .i64 0) (.string ⟨#[]⟩) (.slice none 0 0) vi)∧wr.ownsRow W.heap.size 25 5 vi k cs∧qM wr W.heap.size (fun b=>b=cb∨vi.ownBlock=some b) ((l.take k).map txtJ) cs) (fun _ i _=>nn - (intOf i).toNat)
 case atStart=>exact ⟨0,[],.slice none 0 0,by omega,rfl,Touch.refl _ _,HR1.out,World.ownsRow_nil _ _ _ _,by simpa using qM.nil _ _ _⟩
 case round =>
  obtain ⟨k,cs,vi,hk,rfl,htch,hrow,hown,hrr⟩:=hrel
  by_cases hlt2:k<nn
  · have hlt':k<l.length:=by rw [← HNN.out];exact hlt2
    have HB:Hid (Below w.heap.size w wr):=HB2.out.trans (htch.below (by have:=HZ2.out;omega) fun j hj e=>by have:=HCB.out;omega)
    obtain ⟨b,off,rfl,_,hb,y0⟩:=(HS.out.below HB.out lz lz lz).at k hlt'
    have HTK:=Lh (show (l.take (k+1)).map txtJ=(l.take k).map txtJ ++ [txtJ l[k]] by rw [List.take_succ_eq_append_getElem hlt',List.map_append];rfl)
    have c4:wr.cell? ⟨cb,4,none⟩=some vi:=hrow.cell (by omega)
    have f4:wr.frozen? ⟨cb,4,none⟩=false:=hrow.frozen 4
    have hcz:cb<wr.heap.size:=hrow.lt
    have hwz:W.heap.size≤wr.heap.size:=htch.size
    have hnb:some cb≠vi.ownBlock:=fun e=>by have:=(hown.lt _ e.symm).1;omega
    have HRW:=Lh hrow
    have HTC:=Lh htch
    have HO:=Lh hown
    have HRR:=Lh hrr
    clear hrow htch hown hrr
    generalize l[k]=it at *
    have HCI:=Lh (show Calls Tryz.prog 201 #[.string it] wr.drew (fun e w3=>e=.returned (.agg #[.int .u8 3,.int .i64 0,.string it,.slice none 0 0,.slice none 0 0])∧Rep w3 (wr.heap.size+1) w3.heap.size (txtJ it) (.agg #[.int .u8 3,.int .i64 0,.string it,.slice none 0 0,.slice none 0 0])∧Below (wr.heap.size+1) ((wr.alloc (.cells #[.int .u8 3,.int .i64 0,.string it,.slice none 0 0,.slice none 0 0] 25)).drew) w3∧wr.heap.size<w3.heap.size∧w3.cell? ⟨cb,4,none⟩=some vi∧w3.frozen? ⟨cb,4,none⟩=false∧w3.ownsRow W.heap.size 25 5 vi k cs) by
     refine (kK it wr.drew).mono ?_
     rintro e w3 ⟨rfl,rfl⟩
     have hb4:Below wr.heap.size wr (wr.drew.alloc (.cells #[.int .u8 3,.int .i64 0,.string it,.slice none 0 0,.slice none 0 0] 25)):=(Below.refl _ _).drew.alloc lz _
     exact ⟨rfl,wV _ _ _ _,Below.refl _ _,by simp,by rw [hb4.cell hcz];exact c4,by rw [hb4.frozen hcz];exact f4,qB HO.out hb4⟩)
    go_wp2_with fail
    go_region_law (first|(refine step_append_lies _ (by rfl) (.tmp 14) (.tmp 17) 23 (by rfl) W.heap.size 25 i0 _ 5 80 Tryz.underlying23 hi0 hz0 hz1 hz2 rfl (by omega) vi k cs (by rfl) (HO3.out.alloc _) ⟨w3.heap.size,0,none⟩ 1 1 (Array.toList #[.int .u8 3,.int .i64 0,.string it,.slice none 0 0,.slice none 0 0]) (by rfl) (by rfl) (World.news_of_block (cs:=#[.int .u8 3,.int .i64 0,.string it,.slice none 0 0,.slice none 0 0]) (t:=25) (fr:=(0,0)) (heap_alloc_new w3 _)) (by simp [Value.oneCell']) (by omega) (by unfold maxLen;omega) (by omega) (by simp;omega) (w3.heap.size+1) (by simp) ?_;intro g cap w4 hown4 hgrow4 hat4 hlt4;have c44:=qS hgrow4 hcz3 hnb c43;have f44:=qO hgrow4 hcz3 hnb f43;have HO4:=Lh hown4;have HG4:=Lh hgrow4;have HA4:=Lh hat4;clear hown4 hgrow4 hat4)|(go_simp;go_at_call 201;(with_reducible refine HCI.out.mono ?_);rintro e w3 ⟨rfl,hr3,hb3,hz3,c43,f43,ho3⟩;have hcz3:cb<w3.heap.size:=Nat.lt_trans hcz hz3;have HO3:=Lh ho3;have HR3:=Lh hr3;have HB3:=Lh hb3;clear ho3 hr3 hb3))
    all_goals
     have HST:=Lh (row_step (j:=4) (it:=txtJ it) (an:=none) (cn:=0) (ai:=none) (ci:=0) hltW HTC.out HRW.out HO.out HRR.out HB3.out HR3.out HG4.out HA4.out HO4.out)
     clear HTC HRW HO HRR HB3 HR3 HG4 HA4 HO4 HO3 HCI
     go_wp2
     go_roundw
     case rel =>
      obtain ⟨z1,z2,z3,z4⟩:=HST.out
      refine ⟨k+1,_,_,by omega,by go_num,z1,z2.congr fun i hi=>?_,z3,by rw [HTK.out];exact z4⟩
      rcases i with _|_|_|_|_|i <;> first|rfl|omega
     case measure=>simp [intOf];omega
  · obtain rfl:k=nn:=by omega
    have hni':(l.take k).map txtJ=l.map txtJ:=by rw [List.take_of_length_le (by rw [← HNN.out];exact Nat.le_refl _)]
    rw [hni'] at hrr
    have hml:(l.map txtJ).length=k:=by rw [List.length_map,← HNN.out]
    obtain ⟨a5,c5,rfl,hc5,hv5⟩:=zC hown hrr hml.symm
    rw [hml] at hc5 hrow
    have HV5:=Lh hv5
    have HC5:=Lh hc5
    have HML:=Lh hml
    have hres:=(htch.row HR0.out (by have:=HCB.out;omega))
    obtain ⟨r0,r1,r2,r3,r4⟩:=rc5 hrow
    obtain ⟨t0,t1,t2,t3,t4⟩:=rc5 hres
    obtain ⟨s0,s1,s2,s3,s4⟩:=rf5 hres
    simp only [qQ] at r0 r1 r2 r3 r4 t0 t1 t2 t3 t4
    have HT:=Lh htch
    have HRS:=Lh hres
    clear hrow hres hown hrr hv5 htch hni' hc5 hml
    go_wp2
    refine bodyPost_ret (results_cell_row Tryz.results203 _ _ w.heap.size 25 _ (0,0) _ rfl (qi (set5 _ _ _ _ _ HRS.out)) Tryz.underlying25 rfl (by kernel_rfl)) rfl ?_
    have hbw:Below w.heap.size w wr:=HB2.out.trans (HT.out.below (by have:=HZ2.out;omega) fun j hj e=>by have:=HCB.out;omega)
    refine ⟨a5,c5,by rw [← HNN.out],?_,q7 _ _ _ _ _ hbw lz⟩
    rw [← HNN.out]
    have hrep:=Rep.mk (v:=qu l) (an:=none) (cn:=0) (ai:=a5) (ci:=c5) (w:=wr) (lo:=W.heap.size) (hi:=wr.heap.size) lz (by show (l.map txtJ).length≤c5;rw [HML.out];exact HC5.out) (.inl rfl) HV5.out
    have e5:(qu l).items.length=k:=HML.out
    rw [e5] at hrep
    exact Rep.carry (by have:=HZ2.out;omega) (show wr.heap.size≤_ by simp [World.setCell]) (fun j hj _=>xr _ _ _ _ _ (by have:=HZ2.out;omega)) _ _ hrep
theorem rB (b:Bool):(zi b).count=1∧(zi b).depth=0:=by
 constructor
 · rw [JV.count_eq];rfl
 · rw [JV.depth_eq];rfl
theorem bp {l:List ByteArray} {n:Nat} (hl:l.length≤n) (h:∀x ∈ l,qZ x=true):(qu l).partB=true∧(qu l).count≤n+1∧(qu l).depth≤1:=by
 have h0:∀x ∈ l.map txtJ,x.partB=true∧x.count≤1∧x.depth≤0:=fun x hx'=>by
  obtain ⟨b,hb,rfl⟩:=List.mem_map.1 hx'
  have:=fy b
  exact ⟨yu (h b hb),Nat.le_of_eq this.1,Nat.le_of_eq this.2⟩
 refine ⟨bj fun x hx=>(h0 x hx).1,?_,?_⟩
 · rw [JV.count_eq]
   have:=counts_le 1 (l.map txtJ) fun x hx'=>(h0 x hx').2.1
   rw [List.length_map] at this
   show 1+JV.counts (l.map txtJ)≤_
   omega
 · rw [JV.depth_eq]
   have:=jZ 0 (l.map txtJ) fun x hx'=>(h0 x hx').2.2
   rw [if_neg (by simp [qu,zu,JV.kind])]
   show JV.depths (l.map txtJ)+1≤_
   omega
theorem rP {p:ByteArray} (h:qL p=true):qZ p=true:=by
 unfold qL at h
 simp only [Bool.and_eq_true,decide_eq_true_eq] at h
 unfold qZ
 rw [h.2,decide_eq_true (by omega)]
 rfl
theorem sZ {p:ByteArray} (h:preB p=true):qZ p=true:=by
 unfold preB at h
 simp only [Bool.and_eq_true,decide_eq_true_eq] at h
 refine zh (fun c hc=>yb (List.all_eq_true.1 h.2 c hc)) (by omega)
theorem mS (b:Bool):(zi b).partB=true:=by
 cases b <;> kernel_rfl
theorem jj:qZ qy=true∧qZ zp=true∧qZ zK=true∧qZ xd=true∧qZ thrN=true∧qZ trmN=true∧qZ jy=true∧qZ jH=true∧qZ zA=true:=by
 refine ⟨?_,?_,?_,?_,?_,?_,?_,?_,?_⟩
 all_goals
  refine zh ?_ (by decide)
  intro c hc
  unfold xo
  revert c
  decide
theorem rF {a:AuthV} (h:xe a=true):(qu a.ids).partB=true∧(qu a.ids).count≤17∧(qu a.ids).depth≤1:=by
 obtain ⟨hl,ht,hi⟩:=xc h
 exact bp hl.2 fun x hx=>(vr (jJ _ _ hi x hx)).1
theorem dC {x:DelegV} (h:qX x=true):(qb x).partB=true∧(qb x).count≤60∧(qb x).depth≤2:=by
 obtain ⟨h1,h2,h3,h4⟩:=jK h
 obtain ⟨n1,n2,n3,n4,n5,n6,n7,n8,n9⟩:=jj
 obtain ⟨r1,r2,r3,r4,r5⟩:=zm
 obtain ⟨i1,i2,i3⟩:=rF h3
 have t1:=fy x.name
 have t2:=rB x.term
 have t3:=fg x.au.thr
 have t4:=yu (hO h1)
 have hr:qe ((zt x).map (·.1))=true:=by
  by_cases hp:x.paths=[]
  · simp only [zt,hp,ne_eq,not_true_eq_false,if_false,List.map_cons,List.map_nil];exact r2
  · simp only [zt,hp,ne_eq,not_false_eq_true,if_true,List.map_cons,List.map_nil];exact r1
 -- the five members,with the bound of each
 have hq:∃y v,(if x.paths≠[] then (xd,qu x.paths) else (zK,qu x.pres))=(y,v)∧qZ y=true∧v.partB=true∧v.count≤33∧v.depth≤1:=by
  rcases h4 with ⟨a1,a2,a3,a4⟩|⟨a1,a2,a3,a4⟩
  · exact ⟨_,_,if_pos a1,n4,bp a3 fun y hy=>rP (List.all_eq_true.1 a4 y hy)⟩
  · exact ⟨_,_,if_neg (by simp [a1]),n3,bp a3 fun y hy=>sZ (List.all_eq_true.1 a4 y hy)⟩
 obtain ⟨y,v,e,q1,q2,q3,q4⟩:=hq
 have hM:zt x=[(qy,qu x.au.ids),(zp,txtJ x.name),(y,v),(trmN,zi x.term),(thrN,zd x.au.thr)]:=by
  unfold zt
  rw [e]
 unfold qb
 refine ⟨vl ⟨hr,?_⟩,?_,?_⟩
 · rw [hM]
   intro p hp
   simp only [List.mem_cons,List.not_mem_nil,or_false] at hp
   rcases hp with rfl|rfl|rfl|rfl|rfl
   · exact ⟨n1,i1⟩
   · exact ⟨n2,t4⟩
   · exact ⟨q1,q2⟩
   · exact ⟨n6,mS _⟩
   · exact ⟨n5,ym _⟩
 · rw [hM,JV.count_eq]
   show 1+((qu x.au.ids).count+((txtJ x.name).count+(v.count+((zi x.term).count+((zd x.au.thr).count+0)))))≤60
   omega
 · refine kV 1 ?_
   rw [hM]
   intro p hp
   simp only [List.mem_cons,List.not_mem_nil,or_false] at hp
   rcases hp with rfl|rfl|rfl|rfl|rfl
   · exact i3
   · exact Nat.le_trans (Nat.le_of_eq t1.2) (by decide)
   · exact q4
   · exact Nat.le_trans (Nat.le_of_eq t2.2) (by decide)
   · exact Nat.le_trans (Nat.le_of_eq t3.2) (by decide)
theorem rH {b:BinsV} (h:qI b=true):(zV b).partB=true∧(zV b).count≤80∧(zV b).depth≤2:=by
 obtain ⟨h1,h2,h3,h4⟩:=vU h
 obtain ⟨n1,n2,n3,n4,n5,n6,n7,n8,n9⟩:=jj
 obtain ⟨r1,r2,r3,r4,r5⟩:=zm
 obtain ⟨i1,i2,i3⟩:=rF h3
 have t1:=fy b.pre
 have t2:=fg b.bits
 have t3:=fg b.au.thr
 have t4:=yu (hO h2)
 have hp:∀p ∈ bk b,qZ p.1=true∧p.2.partB=true∧p.2.count≤17∧p.2.depth≤1:=by
  intro p hp
  simp only [bk,List.mem_cons,List.not_mem_nil,or_false] at hp
  rcases hp with rfl|rfl|rfl|rfl
  · exact ⟨n7,ym _,Nat.le_trans (Nat.le_of_eq t2.1) (by decide),Nat.le_trans (Nat.le_of_eq t2.2) (by decide)⟩
  · exact ⟨n1,i1,i2,i3⟩
  · exact ⟨n8,t4,Nat.le_trans (Nat.le_of_eq t1.1) (by decide),Nat.le_trans (Nat.le_of_eq t1.2) (by decide)⟩
  · exact ⟨n5,ym _,Nat.le_trans (Nat.le_of_eq t3.1) (by decide),Nat.le_trans (Nat.le_of_eq t3.2) (by decide)⟩
 unfold zV
 refine ⟨vl ⟨r3,fun p h=>⟨(hp p h).1,(hp p h).2.1⟩⟩,?_,kV 1 fun p h=>(hp p h).2.2.2⟩
 have:=gN 17 fun p h=>(hp p h).2.2.1
 have e:(bk b).length=4:=rfl
 rw [e] at this
 omega
def zY (d:DelegsV):Bool:=zj d.keys && (if zg d.bins then decide (d.roles.length≤64) && d.roles.all qX && zR d.roles else d.roles.isEmpty && qI d.bins)
theorem bf {d:DelegsV} (h:zY d=true):(qg d).mayB=true:=by
 unfold zY at h
 rw [Bool.and_eq_true] at h
 obtain ⟨hk,h⟩:=h
 obtain ⟨k1,k2,k3⟩:=sl hk
 obtain ⟨n1,n2,n3,n4,n5,n6,n7,n8,n9⟩:=jj
 obtain ⟨r1,r2,r3,r4,r5⟩:=zm
 obtain ⟨-,⟨m1,m2,m3,m4,m5⟩,-⟩:=mC
 cases hb:zg d.bins
 · rw [hb] at h
   simp only [Bool.false_eq_true,if_false,Bool.and_eq_true] at h
   obtain ⟨b1,b2,b3⟩:=rH h.2
   have hM:qF d=[(keysN,qT d.keys),(zA,zV d.bins)]:=by unfold qF;rw [hb];rfl
   unfold qg
   rw [hM]
   refine sr r5 (by show 2≤6;decide) fun p hp=>?_
   simp only [List.mem_cons,List.not_mem_nil,or_false] at hp
   rcases hp with rfl|rfl
   · exact ⟨m3,k1,k2,k3⟩
   · exact ⟨n9,b1,Nat.le_trans b2 (by decide),Nat.le_trans b3 (by decide)⟩
 · rw [hb] at h
   simp only [if_true,Bool.and_eq_true,decide_eq_true_eq] at h
   obtain ⟨⟨h1,h2⟩,h3⟩:=h
   have hM:qF d=[(keysN,qT d.keys),(z7,zu (d.roles.map qb))]:=by unfold qF;rw [hb];rfl
   have h0:∀x ∈ d.roles.map qb,x.partB=true∧x.count≤60∧x.depth≤2:=fun x hx=>by
    obtain ⟨y,hy,rfl⟩:=List.mem_map.1 hx
    exact dC (List.all_eq_true.1 h2 y hy)
   have l1:(zu (d.roles.map qb)).partB=true:=bj fun x hx=>(h0 x hx).1
   have l2:(zu (d.roles.map qb)).count≤3841:=by
    rw [JV.count_eq]
    have:=counts_le 60 (d.roles.map qb) fun x hx=>(h0 x hx).2.1
    rw [List.length_map] at this
    show 1+JV.counts (d.roles.map qb)≤_
    omega
   have l3:(zu (d.roles.map qb)).depth≤3:=by
    rw [JV.depth_eq]
    have:=jZ 2 (d.roles.map qb) fun x hx=>(h0 x hx).2.2
    rw [if_neg (by simp [zu,JV.kind])]
    show JV.depths (d.roles.map qb)+1≤_
    omega
   have hp:∀p ∈ qF d,qZ p.1=true∧p.2.partB=true∧p.2.depth≤3:=by
    rw [hM]
    intro p hp
    simp only [List.mem_cons,List.not_mem_nil,or_false] at hp
    rcases hp with rfl|rfl
    · exact ⟨m3,k1,k3⟩
    · exact ⟨m4,l1,l3⟩
   have p1:(qg d).partB=true:=vl ⟨by rw [hM];exact r4,fun p h=>⟨(hp p h).1,(hp p h).2.1⟩⟩
   have p3:(qg d).depth≤4:=kV 3 fun p h=>(hp p h).2.2
   have p2:(qg d).count≤4000:=by
    unfold qg
    rw [hM,JV.count_eq]
    show 1+((qT d.keys).count+((zu (d.roles.map qb)).count+0))≤4000
    omega
   rw [JV.mayB_iff,p1,decide_eq_true (by omega),decide_eq_true (by omega)]
   rfl
theorem q9 (d:DelegsV):qG d=zY d:=by
 unfold qG
 change (zY d && (qg d).mayB)=zY d
 cases h:zY d
 · rfl
 · rw [bf h];rfl
set_option maxHeartbeats 400000 in
theorem cC (s:ByteArray) (w:World) :
 Calls Tryz.prog 135 #[.string s] w fun e w'=>e=.returned (.bool (gk s))∧w'=w:=by
 have f1:(s.toList == [114,111,111,116])=decide (s=uh):=by rw [← ba_eq,show uh.toList=[114,111,111,116] from by rw [ByteArray.toList_eq];rfl]
 have f2:(s.toList == [115,110,97,112,115,104,111,116])=decide (s=rh):=by rw [← ba_eq,show rh.toList=[115,110,97,112,115,104,111,116] from by rw [ByteArray.toList_eq];rfl]
 have f3:(s.toList == [116,97,114,103,101,116,115])=decide (s=ru):=by rw [← ba_eq,show ru.toList=[116,97,114,103,101,116,115] from by rw [ByteArray.toList_eq];rfl]
 have HV:=Lh (show gk s=(decide (s=uh) || (decide (s=rh) || decide (s=ru))) by unfold gk;simp only [Bool.decide_or])
 obtain ⟨b1,hb1⟩:∃b,b=decide (s=uh):=⟨_,rfl⟩
 obtain ⟨b2,hb2⟩:∃b,b=decide (s=rh):=⟨_,rfl⟩
 obtain ⟨b3,hb3⟩:∃b,b=decide (s=ru):=⟨_,rfl⟩
 rw [← hb1] at f1 HV
 rw [← hb2] at f2 HV
 rw [← hb3] at f3 HV
 clear hb1 hb2 hb3
 cases b1
 · cases b2
   · cases b3
     · go_enter Tryz.func135,Tryz.ntmps135
       go_wp2
       go_ret
       exact ⟨qz HV.out.symm,rfl⟩
     · go_enter Tryz.func135,Tryz.ntmps135
       go_wp2
       go_ret
       exact ⟨qz HV.out.symm,rfl⟩
   · go_enter Tryz.func135,Tryz.ntmps135
     go_wp2
     go_ret
     exact ⟨qz HV.out.symm,rfl⟩
 · go_enter Tryz.func135,Tryz.ntmps135
   go_wp2
   go_ret
   exact ⟨qz HV.out.symm,rfl⟩
theorem ul {s:ByteArray} (h:s.size<1∨256<s.size):qL s=false:=by
 unfold qL
 rw [decide_eq_false (by omega)]
 rfl
theorem mA {s:ByteArray} (h0:0<s.size) (h:s[0].toNat=47):qL s=false:=by
 unfold qL
 rw [vu s h0]
 have:s[0]=47:=by apply UInt8.toNat_inj.1;exact h
 rw [this]
 simp
theorem rU {s:ByteArray} (h0:0<s.size) (h1:s.size≤256) (h:¬s[0].toNat=47):qL s=wX s:=by
 unfold qL
 rw [vu s h0,decide_eq_true (by omega)]
 have:¬s[0]=47:=fun e=>h (by rw [e];rfl)
 simp [this]
set_option maxHeartbeats 400000 in
theorem wH (s:ByteArray) (w:World) (hs:s.size≤9223372036854775807) :
 Calls Tryz.prog 34 #[.string s] w fun e w'=>e=.returned (.bool (qL s))∧Below w.heap.size w w':=by
 by_cases h0:s.size=0
 · have HF:=Lh (ul (s:=s) (by omega))
   have he:=vN s h0
   clear h0
   go_enter Tryz.func34,Tryz.ntmps34
   go_wp2
   go_ret
   exact ⟨qz HF.out.symm,Below.refl _ _⟩
 obtain ⟨hne,hem⟩:=wO s (by omega)
 have h0':0<s.size:=by omega
 clear h0
 by_cases h1:256<s.size
 · have HF:=Lh (ul (s:=s) (by omega))
   go_enter Tryz.func34,Tryz.ntmps34
   go_wp2
   go_ret
   exact ⟨qz HF.out.symm,Below.refl _ _⟩
 by_cases h2:s[0].toNat=47
 · have HF:=Lh (mA h0' h2)
   have hd:((s[0].toNat:Int) != 47)=false:=by simp;omega
   clear h2
   go_enter Tryz.func34,Tryz.ntmps34
   go_wp2
   go_ret
   exact ⟨qz HF.out.symm,Below.refl _ _⟩
 have hd:((s[0].toNat:Int) != 47)=true:=by simp;omega
 have HF:=Lh (rU h0' (by omega) h2)
 have HU:=Lh (fun w=>gF s w hs)
 rw [← HF.out] at HU
 have h1':s.size≤256:=by omega
 clear h2 h1
 go_enter Tryz.func34,Tryz.ntmps34
 go_wp2_with (go_at_call 86;refine (HU.out _).mono ?_;rintro e w' ⟨rfl,hb⟩;have HB:=Lh hb;clear hb)
 go_ret
 exact ⟨rfl,HB.out⟩
set_option maxHeartbeats 400000 in
theorem yI (s:ByteArray) (w:World) (hs:s.size≤9223372036854775807) :
 Calls Tryz.prog 138 #[.string s] w fun e w'=>e=.returned (.bool (qL s))∧Below w.heap.size w w':=by
 have HU:=Lh (fun w=>wH s w hs)
 go_enter Tryz.func138,Tryz.ntmps138
 go_wp2_with (go_at_call 34;refine (HU.out _).mono ?_;rintro e w' ⟨rfl,hb⟩;have HB:=Lh hb;clear hb)
 go_ret
 exact ⟨rfl,HB.out⟩
theorem cD {s:ByteArray} (h:s.size<1∨64<s.size):preB s=false:=by
 unfold preB
 rw [decide_eq_false (by omega)]
 rfl
theorem sX {s:ByteArray} (h1:1≤s.size) (h2:s.size≤64):preB s=xY s.data.toList:=by
 unfold preB
 rw [decide_eq_true ⟨h1,h2⟩]
 rfl
set_option maxHeartbeats 400000 in
theorem rM (s:ByteArray) (w:World) (hs:s.size≤9223372036854775807) :
 Calls Tryz.prog 139 #[.string s] w fun e w'=>e=.returned (.bool (preB s))∧w=w':=by
 by_cases h1:s.size<1
 · have HF:=Lh (cD (s:=s) (.inl h1))
   go_enter Tryz.func139,Tryz.ntmps139
   go_wp2
   go_ret
   exact ⟨qz HF.out.symm,rfl⟩
 by_cases h2:64<s.size
 · have HF:=Lh (cD (s:=s) (.inr h2))
   go_enter Tryz.func139,Tryz.ntmps139
   go_wp2
   go_ret
   exact ⟨qz HF.out.symm,rfl⟩
 have g1:1≤s.size:=by omega
 have g2:s.size≤64:=by omega
 have HF:=Lh (sX g1 g2)
 have HX:=Lh (fun w=>l9 s w hs)
 rw [← HF.out] at HX
 clear h1 h2
 go_enter Tryz.func139,Tryz.ntmps139
 go_wp2_with (go_at_call 195;refine (HX.out _).mono ?_;rintro e w' ⟨rfl,rfl⟩)
 go_ret
 exact ⟨rfl,rfl⟩
theorem cL (k:Nat) (w:World) (h1:1≤k) (h2:k≤32):Calls Tryz.prog 170 #[.int .i64 k] w fun e w'=>e=.returned (.bool true)∧w'=w:=by
 have d2:decide ((k:Int)≤32)=true:=by rw [decide_eq_true_eq];omega
 have d1:decide (1≤(k:Int))=true:=by rw [decide_eq_true_eq];omega
 go_enter Tryz.func170,Tryz.ntmps170
 go_wp2
 go_ret
 exact ⟨rfl,rfl⟩
theorem pW (k:Nat) (w:World) (h2:k≤32):Calls Tryz.prog 171 #[.int .i64 k] w fun e w'=>e=.returned (.int .i64 ((bw k:Nat):Int))∧w'=w:=by
 have HV:=Lh (show ((bw k:Nat):Int)=((k:Int)+3) / 4 by unfold bw;omega)
 go_enter Tryz.func171,Tryz.ntmps171
 go_wp2
 go_ret
 exact ⟨by rw [HV.out];first|rfl|go_num,rfl⟩
set_option maxHeartbeats 1000000 in
theorem yr (t bits:Int) (ids:List ByteArray) (pre:ByteArray) (ia:Option Addr) (ic:Nat) (w:World) (hp:pre.size≤4294967296) (hb:-9223372036854775808≤bits∧bits≤9223372036854775807) :
 Calls Tryz.prog 99 #[.agg #[.int .i64 t,.slice ia ids.length ic,.int .i64 bits,.string pre]] w fun e w'=>e=.returned (.int .i64 (zH ⟨bits,pre,⟨t,ids⟩⟩))∧Below w.heap.size w w':=by
 obtain ⟨W,hW⟩:∃W,W=w.alloc (.cells #[.int .i64 t,.slice ia ids.length ic,.int .i64 bits,.string pre] 33):=⟨_,rfl⟩
 have hbw:Below w.heap.size w W:=by rw [hW];exact (Below.refl _ _).alloc lz _
 have hx:W.heap[w.heap.size]?=some (.cells #[.int .i64 t,.slice ia ids.length ic,.int .i64 bits,.string pre] 33 (0,0)):=by rw [hW];exact heap_alloc_new w _
 have HB:=Lh hbw
 have HW:=Lh hW
 have q2:W.cell? ⟨w.heap.size,2,none⟩=some (.int .i64 bits):=qq hx rfl
 have q3:W.cell? ⟨w.heap.size,3,none⟩=some (.string pre):=qq hx rfl
 have HV:=Lh (show zH ⟨bits,pre,⟨t,ids⟩⟩=if bits<1∨32<bits then 1 else if zb pre.data.toList=false then 3 else if 64<pre.size+1+(bits.toNat+3) / 4 then 5 else 0 from rfl)
 obtain ⟨E,hE⟩:∃E,E=zH ⟨bits,pre,⟨t,ids⟩⟩:=⟨_,rfl⟩
 rw [← hE] at HV ⊢
 clear hbw hx hW hE
 by_cases h1:bits<1
 · rw [if_pos (.inl h1)] at HV
   go_enter Tryz.func99,Tryz.ntmps99
   go_upto_region 1 with fail
   rw [← HW.out]
   clear HW
   go_wp2
   go_ret
   exact ⟨by rw [HV.out];rfl,HB.out⟩
 by_cases h2:32<bits
 · rw [if_pos (.inr h2)] at HV
   have d2:decide (bits≤32)=false:=by rw [decide_eq_false_iff_not];omega
   have d1:decide (1≤bits)=true:=by rw [decide_eq_true_eq];omega
   go_enter Tryz.func99,Tryz.ntmps99
   go_upto_region 1 with fail
   rw [← HW.out]
   clear HW
   go_wp2
   go_ret
   exact ⟨by rw [HV.out];rfl,HB.out⟩
 rw [if_neg (by omega)] at HV
 obtain ⟨k,rfl⟩:∃k:Nat,bits=(k:Int):=⟨bits.toNat,by omega⟩
 have HN:=Lh (fun w=>jr pre w (by omega))
 rw [Int.toNat_natCast] at HV
 have g1:1≤k:=by omega
 have g2:k≤32:=by omega
 have d2:decide ((k:Int)≤32)=true:=by rw [decide_eq_true_eq];omega
 have d1:decide (1≤(k:Int))=true:=by rw [decide_eq_true_eq];omega
 have HM:=Lh (fun w=>cL k w (by omega) (by omega))
 have HWD:=Lh (fun w=>pW k w (by omega))
 obtain ⟨wd,hwd⟩:∃wd,wd=bw k:=⟨_,rfl⟩
 rw [← hwd] at HWD
 have hw8:wd≤8:=by rw [hwd];unfold bw;omega
 rw [show (k+3) / 4=wd from hwd.symm] at HV
 clear h1 h2 hb hwd
 cases hr:zb pre.data.toList
 · rw [hr] at HN HV
   rw [if_pos rfl] at HV
   clear hr
   go_enter Tryz.func99,Tryz.ntmps99
   go_upto_region 1 with fail
   rw [← HW.out]
   clear HW
   go_wp2_with (first|(go_at_call 170;refine (HM.out _).mono ?_;rintro e w3 ⟨rfl,rfl⟩)|(go_at_call 134;refine (HN.out _).mono ?_;rintro e w3 ⟨rfl,rfl⟩))
   go_ret
   exact ⟨by rw [HV.out];rfl,HB.out⟩
 rw [hr] at HN HV
 rw [if_neg (by decide)] at HV
 clear hr
 by_cases h3:64<pre.size+1+wd
 · rw [if_pos h3] at HV
   have d3:decide ((64:Int)<(pre.size:Int)+1+(wd:Int))=true:=by rw [decide_eq_true_eq];omega
   go_enter Tryz.func99,Tryz.ntmps99
   go_upto_region 1 with fail
   rw [← HW.out]
   clear HW
   go_wp2_with (first|(go_at_call 170;refine (HM.out _).mono ?_;rintro e w3 ⟨rfl,rfl⟩)|(go_at_call 134;refine (HN.out _).mono ?_;rintro e w3 ⟨rfl,rfl⟩))
   go_quiet ((go_at_call 171;exact Calls.quiet_of_same (HWD.out _)))
   go_wp2
   go_ret
   exact ⟨by rw [HV.out];rfl,Below.drewN HB.out _⟩
 · rw [if_neg h3] at HV
   have d3:decide ((64:Int)<(pre.size:Int)+1+(wd:Int))=false:=by rw [decide_eq_false_iff_not];omega
   go_enter Tryz.func99,Tryz.ntmps99
   go_upto_region 1 with fail
   rw [← HW.out]
   clear HW
   go_wp2_with (first|(go_at_call 170;refine (HM.out _).mono ?_;rintro e w3 ⟨rfl,rfl⟩)|(go_at_call 134;refine (HN.out _).mono ?_;rintro e w3 ⟨rfl,rfl⟩))
   go_quiet ((go_at_call 171;exact Calls.quiet_of_same (HWD.out _)))
   go_wp2
   go_ret
   exact ⟨by rw [HV.out];rfl,Below.drewN HB.out _⟩
end Go.Proofs.YthgembbgcbaghaaGreatDoor
