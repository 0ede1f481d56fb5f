import Derived.Test.YthgembbgcbaghaaGreatDoorDt36
import Derived.Test.YthgembbgcbaghaaGreatDoorDt31
import Derived.OwnWalk
set_option maxHeartbeats 4000000
set_option maxRecDepth 100000

namespace Go.Proofs.YthgembbgcbaghaaGreatDoor
open Go.RowKit Go.Shelf Go.Sort
theorem Qi (g cap:Nat) (d d':Array Mem) (w:World) (hH:HoldsK qG 6 w g 0 d) (hg:g<w.heap.size) (hn:d.size<=4294967296) (hp:d'.toList.Perm d.toList) (hr:cx d') :
 Calls Tryz.prog 206 #[.slice (some ⟨g,0,none⟩) d.size cap,.func (.func 207) #[] #[]] w fun e w'=>e=.returned (.tuple #[])/\HoldsK qG 6 w' g 0 d'/\Touch (· = g) w w':=by
 have k:∀args w,(callFunc 207 args).run Tryz.prog w=.ok (.enter 207 args) w:=enters_of Tryz.func207 (by kernel_rfl) rfl;have b:=AnyQ.slices_SortFunc pC 6 Tryz.isAgg169 Tryz.sizeOf169 qG zH jX cfM Q7 207 #[] g 0 cap d w k (fun _ _ _ _ x y=>uQ x y _) hH hg (by omega);refine b.mono ?_;rintro e w' ⟨rfl,c,n,p,a,m,rfl⟩;have o:d'.size=d.size:=by simpa using hp.length_eq
 have l:c=d':=cj hr (by
  have:=a.2.2;have f:c.extract 0 d.size=c:=by rw [<- a.1];simp
  have h:d.extract 0 d.size=d:=by simp
  rw [f,h] at this;exact this.trans hp.symm) (fun i j hij hj=>by
  have:=m i j (J8 _) hij (by omega);rwa [wG] at this)
 subst l;exact ⟨rfl,holdsK_grow qG 6 _ _ _ _ _ (by simp [putRowK,Go.Sort.ahead];exact hg) (holdsK_putRowK qG 6 _ _ _ _ _ (holdsK_ahead qG 6 _ _ _ _ _ hH) a.1),j9⟩
theorem uf (d d':Array Mem) (its:List JV) (blk off cap:Nat) (w:World) (lo hi:Nat) (hH:HoldsK qG 6 w blk off d) (hblk:blk<w.heap.size) (hn:d.size<=4294967296) (hp:d'.toList.Perm d.toList) (hr:cx d')
 (hl:d'.size=its.length) (hm:∀i (h:i<its.length),Rep w lo hi its[i] d'[i]!.val/\its[i].wt<=4294967296/\∀k (h':k<its[i].items.length),cY lo its[i].items[k])
 (hhi:hi<=w.heap.size) :
 Calls Tryz.prog 150 #[.slice (some ⟨blk,off,none⟩) d.size cap] w (yS (d'.toList.map (·.name)) its w) :=
 yj d d' its blk off cap w lo hi hH hblk hn (by simpa using hp.length_eq) (fun g cap1 w1 hH1 hg1=>Qi g cap1 d d' w1 hH1 hg1 hn hp hr) hl hm (fun i h e=>by
  have:=hr i (i+1) h (by omega);rw [getElem!_pos d' i (by omega),getElem!_pos d' (i+1) h] at e;rw [e,zK] at this;cases this) hhi
def iL (W0:Nat) (w:World) (v:Value) (N:List NJ):Prop :=
 ∃ms,MemsAt W0 w v ms (N.map (·.2))/\ms.map (·.name)=N.map (·.1)
theorem iL.len {W0:Nat} {w:World} {v:Value} {N:List NJ} (h:iL W0 w v N):∃ms,MemsAt W0 w v ms (N.map (·.2))/\ms.map (·.name)=N.map (·.1)/\ms.length=N.length:=by obtain ⟨ms,b,a⟩:=h;exact ⟨ms,b,a,by have:=X1 List.length a;simpa using this⟩
theorem ar {α β:Type} (f:α->β):∀ {M L:List β},M.Perm L->∀Z:List α,Z.map f=L->∃Z':List α,Z'.Perm Z/\Z'.map f=M:=by
 intro M L h
 induction h with
 | nil=>intro Z hZ;exact ⟨Z,.refl _,by simpa using hZ⟩
 | @cons x l1 l2 h ih =>
  intro Z hZ;cases Z with
  | nil=>simp at hZ
  | cons z zs => simp only [G9,W8] at hZ;obtain ⟨Z',e,g⟩:=ih zs hZ.2;exact ⟨z :: Z',e.cons z,by simp [g,hZ.1]⟩
 | @swap x y l =>
  intro Z hZ;cases Z with
  | nil=>simp at hZ
  | cons z zs =>
   cases zs with
   | nil=>simp at hZ
   | cons z2 zs => simp only [G9,W8] at hZ;exact ⟨z2 :: z :: zs,.swap _ _ _,by simp [hZ]⟩
 | @trans l1 l2 l3 e g ih1 ih2 => intro Z hZ;obtain ⟨j,a,b⟩:=ih2 Z hZ;obtain ⟨i,c,d⟩:=ih1 j b;exact ⟨i,c.trans a,d⟩
theorem aa {ms:List Mem} {ns:List ByteArray} (h:qe ns=true) (hn:ms.map (·.name)=ns):cx ms.toArray:=by
 subst hn;intro i j hj hij;have a:j<ms.length:=by simpa using hj
 have b:=wC _ h i j (by simp;omega) (by simp;omega) hij;simp only [List.getElem_toArray];unfold bl;simpa using b
theorem fN {W0:Nat} {w:World} {v:Value} {N:List NJ} (M:List NJ) (hM:iL W0 w v N) (hg:∃g cap,v=.slice (some ⟨g,0,none⟩) N.length cap) (hp:M.Perm N) (hr:qe (M.map (·.1))=true) (hl:N.length<=4294967296) (hw:∀p ∈ M,p.2.wt<=4294967296) (h0:0<W0) :
 Calls Tryz.prog 150 #[v] w (yS (M.map (·.1)) (M.map (·.2)) w):=by
 obtain ⟨d,o,J,a⟩:=hM.len;obtain ⟨g,cap,rfl⟩:=hg;have B:(N.zip d).length=N.length:=by simp [a]
 obtain ⟨Z,f,e⟩:=ar (fun z:NJ × Mem=>z.1) hp (N.zip d) (by rw [List.map_fst_zip];omega);have m:∀z ∈ Z,z.2.name=z.1.1/\Rep w W0 w.heap.size z.1.2 z.2.val:=fun z hz=>by
  obtain ⟨i,hi,rfl⟩:=Y3 (f.mem_iff.1 hz);have c:i<N.length:=by omega
  rw [List.getElem_zip];have C:=zc9 J (i:=i) (by simp;omega);simp only [H8] at C;obtain ⟨K,H,F,G,_,hr⟩:=o.reps i (by simp;omega);simp only [H8] at hr;exact ⟨C,Rep.carry F G (fun _ _ _=>rfl) _ _ hr⟩
 have I:Z.length=N.length:=by rw [f.length_eq,B]
 have y:M.length=Z.length:=by rw [<- e,J9]
 have b:=o.own;rw [<- a] at b;have u:g<w.heap.size/\HoldsK qG 6 w g 0 d.toArray:=by
  rcases N4 d.length with h|h
  . rcases b.2 with ⟨s,_⟩|⟨E,l,cur,s,hg,hh,hc,hm,hs,ht⟩
    . cases s
    . cases s;refine ⟨qx hh,fun j hj=>?_⟩;simp [h] at hj
  . obtain ⟨E,l,s,A,u⟩:=sj b h;cases s;exact ⟨A,u⟩
 have r:(Z.map (·.2)).map (·.name)=M.map (·.1):=(by rw [List.map_map,<- e,List.map_map];exact List.map_congr_left fun z hz=>(m z hz).1);have q:((N.zip d).map (·.2))=d:=by rw [List.map_snd_zip];omega
 have:=uf d.toArray (Z.map (·.2)).toArray (M.map (·.2)) g 0 cap w W0 w.heap.size u.2 u.1 (by simp;omega) (by
  have:=f.map (·.2);rw [q] at this;simpa using this) (aa hr r) (by simp [y]) (fun i hi=>?_) lz
 . rw [show ((Z.map (·.2)).toArray.toList.map (·.name))=M.map (·.1) from r] at this;rw [show d.toArray.size=N.length by simp [a]] at this;exact this
 . have c:i<Z.length:=by have:=hi;simp at this;omega
   have x:i<M.length:=by omega
   have D:M[i]=Z[i].1:=(by have:=zc9 e (i:=i) (by simpa using c);simpa using this.symm);obtain ⟨_,hr⟩:=m Z[i] (J7 c);refine ⟨?_,?_,fun k _=>.inl h0⟩
   . rw [getElem!_pos _ i (by simpa using c)];simp only [List.getElem_toArray,H8];rw [D];exact hr
   . rw [H8];exact hw _ (J7 x)
def fS (b:Bool):Int:=if b then 1 else 0
theorem dO (w:World) (lo hi:Nat) (b:Bool):Rep w lo hi (zt b) (.agg #[.int .u8 1,.int .i64 (fS b),.string ⟨#[]⟩,.slice none 0 0,.slice none 0 0]):=by unfold zt Rep fS;exact ⟨none,0,none,0,rfl,J0 _,J0 _,.inl rfl,.inl rfl⟩
theorem rM (b:Bool) (w:World):Calls Tryz.prog 202 #[.bool b] w fun e w'=>e=.returned (.agg #[.int .u8 1,.int .i64 (fS b),.string ⟨#[]⟩,.slice none 0 0,.slice none 0 0])/\Below w.heap.size w w':=by
 have f:=O0 (Below w.heap.size w (w.alloc (.cells #[.int .u8 0,.int .i64 0,.string ⟨#[]⟩,.slice none 0 0,.slice none 0 0] 25))) ((Z0 _ _).alloc lz _);have a:=qh w (.int .u8 0) (.int .i64 0) (.string ⟨#[]⟩) (.slice none 0 0) (.slice none 0 0) 25;have c:=U a;obtain ⟨W,d⟩:=O1 (w.alloc (.cells #[.int .u8 0,.int .i64 0,.string ⟨#[]⟩,.slice none 0 0,.slice none 0 0] 25));rw [<- d] at f a c;have g:=U d;obtain ⟨h,i,j,k,l⟩:=rc5 a;obtain ⟨m,o,p,q,r⟩:=rf5 a;simp only [qZ] at h i j k l;clear a d;cases b
 all_goals
  go_enter Tryz.func202,Tryz.ntmps202;go_upto_region 1 with fail
  rw [<- g.o];clear g;go_wp2;exact J3 (X6 Tryz.results202 _ _ w.heap.size 25 _ (0,0) _ rfl (qm (set5 _ _ _ _ _ c.o)) J5 rfl (by kernel_rfl)) rfl ⟨rfl,zx _ _ _ _ _ f.o lz⟩
theorem MemsAt.cat {W0:Nat} {w w':World} {v v':Value} {ms ms2:List Mem} {its its2:List JV} (h:MemsAt W0 w v ms its) (hl:its2.length=ms2.length) (hr:∀i (hi:i<its2.length),∃lo hi',W0<=lo/\hi'<=w.heap.size/\(∀b,v.ownBlock=some b->¬(lo<=b/\b<hi'))/\Rep w lo hi' its2[i] (ms2[i]'(by omega)).val)
 (hg:w.grownBy w' v.ownBlock) (hown:w'.ownsRow W0 169 6 v' (ms.length+ms2.length) (qW ms ++ qW ms2)) (hat:v'.ownBlock=v.ownBlock\/∃g,v'.ownBlock=some g/\w.heap.size<=g):MemsAt W0 w' v' (ms ++ ms2) (its ++ its2):=by
 have p:∀ {lo hi:Nat},hi<=w.heap.size->(∀b,v.ownBlock=some b->¬(lo<=b/\b<hi))->∀b,v'.ownBlock=some b->¬(lo<=b/\b<hi):=fun hz hn b hb=>by
  rcases hat with e|⟨g,e,hge⟩
  . exact hn b (by rw [<- e];exact hb)
  . rw [e] at hb;simp at hb;omega
 have o:∀ {lo hi:Nat} {it:JV} {x:Value},hi<=w.heap.size->(∀b,v.ownBlock=some b->¬(lo<=b/\b<hi))->Rep w lo hi it x->Rep w' lo hi it x:=fun hz hn hr =>
  Rep.carry lz lz (fun b hb1 hb2=>hg.block b (by omega) (fun e=>hn b e.symm ⟨hb1,hb2⟩)) _ _ hr
 have l:=h.len;refine ⟨?_,by simp [l,hl],fun i hi'=>?_⟩
 . have e:qW (ms ++ ms2)=qW ms ++ qW ms2:=by simp [qW]
   rw [e,H0];exact hown
 . by_cases e:i<its.length
   . obtain ⟨f,a,m,d,j,c⟩:=h.reps i e;refine ⟨f,a,m,Z3 d hg.size,p d j,?_⟩;rw [K6 e,K6 (by omega)];exact o d j c
   . have k:i - its.length<its2.length:=by simp at hi';omega
     obtain ⟨f,a,m,d,j,c⟩:=hr (i - its.length) k;refine ⟨f,a,m,Z3 d hg.size,p d j,?_⟩;rw [G6 (by omega),G6 (by omega)];have q:i - ms.length=i - its.length:=by omega
     simp only [q];exact o d j c
def iR (t:Int) (l:List ByteArray) (lo:Nat) (w:World) (x:Value):Prop :=
 ∃g ai ci,x=.slice (some ⟨g,0,none⟩) 2 2/\lo<=g/\w.heap[g]?=some (.cells #[.string ⟨#[107,101,121,105,100,115]⟩,.int .u8 4,.int .i64 0,.string ⟨#[]⟩,.slice none 0 0,.slice ai l.length ci,.string ⟨#[116,104,114,101,115,104,111,108,100]⟩,.int .u8 2,.int .i64 t,.string ⟨#[]⟩,.slice none 0 0,.slice none 0 0] 169 (0,0))/\Rep w lo g (qg l) (.agg #[.int .u8 4,.int .i64 0,.string ⟨#[]⟩,.slice none 0 0,.slice ai l.length ci])
def MP.memb (t:Int) (l:List ByteArray) (lo:Nat):MP:=⟨iR t l lo,fun _ _ _ hb ⟨g,ai,ci,e,h1,h2,h3⟩=>⟨g,ai,ci,e,h1,by rw [hb.block _ (qx h2)];exact h2,Rep.carry lz lz (fun b _ hbg=>hb.block b (zc7 hbg (qx h2))) _ _ h3⟩⟩
theorem dE (t:Int) (l:List ByteArray) (a:Option Addr) (c lo:Nat) (w:World) (hlo:lo<=w.heap.size) (hS:qv w 0 w.heap.size a l) (hl:l.length<=4294967296) :
 Calls Tryz.prog 200 #[.agg #[.int .i64 t,.slice a l.length c]] w fun e w'=>∃y,e=.returned y/\iR t l lo w' y/\Below w.heap.size w w':=by
 refine (dV t l a c w hS hl).mono ?_;rintro e w' ⟨g,b,d,rfl,h,j,f,i⟩;exact ⟨_,rfl,⟨g,b,d,rfl,by omega,h,Rep.carry hlo lz (fun _ _ _=>rfl) _ _ j⟩,f⟩
def xL (ai:Option Addr) (n ci:Nat):Mem:=⟨qy,4,0,⟨#[]⟩,none,0,0,ai,n,ci⟩
theorem mv {t:Int} {l:List ByteArray} {lo g:Nat} {ai:Option Addr} {ci:Nat} {w:World} (h1:lo<=g) (h2:w.heap[g]?=some (.cells #[.string ⟨#[107,101,121,105,100,115]⟩,.int .u8 4,.int .i64 0,.string ⟨#[]⟩,.slice none 0 0,.slice ai l.length ci,.string ⟨#[116,104,114,101,115,104,111,108,100]⟩,.int .u8 2,.int .i64 t,.string ⟨#[]⟩,.slice none 0 0,.slice none 0 0] 169 (0,0))) (h3:Rep w lo g (qg l) (.agg #[.int .u8 4,.int .i64 0,.string ⟨#[]⟩,.slice none 0 0,.slice ai l.length ci])) :
 MemsAt lo w (.slice (some ⟨g,0,none⟩) 2 2) [xL ai l.length ci,zE thrN t] [qg l,zy t]:=by
 refine ⟨⟨rfl,.inr ⟨g,2,_,rfl,h1,h2,J0 _,by unfold maxLen;omega,rfl,?_⟩⟩,rfl,fun i hi=>?_⟩
 . simp [qW,qG,xL,zE,qy,thrN]
 . have a:=qx h2
   match i,hi with
   | 0,_=>exact ⟨lo,g,J0 _,by omega,fun b hb=>by simp [Value.ownBlock] at hb;omega,h3⟩
   | 1,_=>exact ⟨lo,g,J0 _,by omega,fun b hb=>by simp [Value.ownBlock] at hb;omega,pg _ _ _ _⟩
def pq (nm:ByteArray) (b:Bool):Mem:=⟨nm,1,fS b,⟨#[]⟩,none,0,0,none,0,0⟩
theorem kP {l:List ByteArray} (h:∀x ∈ l,x.size<=1000000) (hl:l.length<=1000):(qg l).wt<=4294967296:=by
 have:∀l:List ByteArray,(∀x ∈ l,x.size<=1000000)->JV.wts (l.map txtJ)<=1000001 * l.length:=fun l=>by
  induction l with
  | nil=>intro _;simp [JV.wts]
  | cons x r ih => intro h;have a:=h x (N9 ..);have c:=ih fun y hy=>h y (K9 _ hy);rw [G9,JV.wts,j8,N2];omega
 have a:=this l h;have b:(qg l).wt=1+JV.wts (l.map txtJ):=(by show 1+(⟨#[]⟩:ByteArray).size+qo [] + JV.wts (l.map txtJ)=_;rfl);omega
theorem nH {α:Type} (a b c d e:α):[a,b,c,d,e].Perm [a,e,b,d,c]:=by refine List.Perm.cons a ?_;have f:[b,c,d,e].Perm ([e] ++ [b,c,d]):=List.perm_append_comm (l₁:=[b,c,d]) (l₂:=[e]);refine f.trans ?_;exact (List.Perm.cons e (List.Perm.cons b (List.Perm.swap d c [])))
theorem d8 (b:Bool):(zt b).wt<=4294967296:=by cases b <;> (rw [JV.wt_eq];decide)
def vl (v:JV) (w:World) (e:Ending) (w':World):Prop :=
 ∃an cn ai ci,e=.returned (.agg #[.int .u8 5,.int .i64 0,.string ⟨#[]⟩,.slice an v.names.length cn,.slice ai v.items.length ci])/\Rep w' w.heap.size w'.heap.size v (.agg #[.int .u8 5,.int .i64 0,.string ⟨#[]⟩,.slice an v.names.length cn,.slice ai v.items.length ci])/\Below w.heap.size w w'
theorem jl (ms:List Mem):∀v ∈ qW ms,v.oneCell'=true:=by intro v hv;unfold qW at hv;obtain ⟨m,_,a⟩:=List.mem_flatMap.1 hv;exact jX m v a
theorem ae {p:ByteArray} (h:qN p=true):p.size<=256:=by unfold qN at h;simp only [J4,Q6] at h;exact h.1.1.2
theorem iN {p:ByteArray} (h:preB p=true):p.size<=64:=by unfold preB at h;simp only [J4,Q6] at h;exact h.1.2
theorem kF {x:DelegV} (h:qt x=true):x.name.size<=64/\(x.au.ids.length<=4294967296/\x.au.ids.length<=16/\∀s ∈ x.au.ids,s.size<=1000000)/\(x.paths.length<=32/\∀s ∈ x.paths,s.size<=1000000)/\(x.pres.length<=32/\∀s ∈ x.pres,s.size<=1000000):=by
 obtain ⟨c,-,d,a⟩:=xP h;have b:=zI d;refine ⟨fj c,⟨by omega,b.1.2,fun s hs=>by have:=(kh (jb _ _ b.2.2 s hs)).2;omega⟩,?_,?_⟩
 . rcases a with ⟨-,-,h5,h6⟩|⟨h5,-⟩
   . exact ⟨h5,fun s hs=>by have:=ae (V4.1 h6 s hs);omega⟩
   . rw [h5];exact ⟨by simp,by simp⟩
 . rcases a with ⟨-,h5,-⟩|⟨-,-,h5,h6⟩
   . rw [h5];exact ⟨by simp,by simp⟩
   . exact ⟨h5,fun s hs=>by have:=iN (V4.1 h6 s hs);omega⟩
theorem pz (nm:ByteArray) (thr:Int) (ids:List ByteArray) (tm:Bool) (ps qs:List ByteArray) (ia pa qa:Option Addr) (ic pc qc:Nat) (w:World) (hI:DelegIn w 0 w.heap.size ⟨nm,⟨thr,ids⟩,tm,ps,qs⟩ ia pa qa) (hm:qt ⟨nm,⟨thr,ids⟩,tm,ps,qs⟩=true) :
 Calls Tryz.prog 147 #[.agg #[.string nm,.int .i64 thr,.slice ia ids.length ic,.bool tm,.slice pa ps.length pc,.slice qa qs.length qc]] w (vl (qu ⟨nm,⟨thr,ids⟩,tm,ps,qs⟩) w):=by
 have a:=U (kF hm);dsimp only at a;obtain ⟨W,hW⟩:=O1 ((w.alloc (.cells #[.string nm,.int .i64 thr,.slice ia ids.length ic,.bool tm,.slice pa ps.length pc,.slice qa qs.length qc] 41)).alloc (.cells #[.int .u8 0,.int .i64 0,.string ⟨#[]⟩,.slice none 0 0,.slice none 0 0] 25));have e1:(w.alloc (.cells #[.string nm,.int .i64 thr,.slice ia ids.length ic,.bool tm,.slice pa ps.length pc,.slice qa qs.length qc] 41)).heap.size=w.heap.size+1:=by simp
 have A:Below w.heap.size w W:=by rw [hW];exact ((Z0 _ _).alloc lz _).alloc (by simp) _
 have hx:W.heap[w.heap.size]?=some (.cells #[.string nm,.int .i64 thr,.slice ia ids.length ic,.bool tm,.slice pa ps.length pc,.slice qa qs.length qc] 41 (0,0)):=by rw [hW];exact zl w _ _
 have c4:W.rowIs (w.heap.size+1) 25 5 (qZ (.int .u8 0) (.int .i64 0) (.string ⟨#[]⟩) (.slice none 0 0) (.slice none 0 0)):=(by have:=qh (w.alloc (.cells #[.string nm,.int .i64 thr,.slice ia ids.length ic,.bool tm,.slice pa ps.length pc,.slice qa qs.length qc] 41)) (.int .u8 0) (.int .i64 0) (.string ⟨#[]⟩) (.slice none 0 0) (.slice none 0 0) 25;rw [e1,<- hW] at this;exact this);have HC:=U (show ∀w':World,Below W.heap.size W w'->w'.cell? ⟨w.heap.size,0,none⟩=some (.string nm)/\w'.cell? ⟨w.heap.size,1,none⟩=some (.int .i64 thr)/\w'.cell? ⟨w.heap.size,2,none⟩=some (.slice ia ids.length ic)/\w'.cell? ⟨w.heap.size,3,none⟩=some (.bool tm)/\w'.cell? ⟨w.heap.size,4,none⟩=some (.slice pa ps.length pc)/\w'.cell? ⟨w.heap.size,5,none⟩=some (.slice qa qs.length qc) from fun w' h=>by
  have y:=(h.block _ (qx hx)).trans hx;exact ⟨qq y rfl,qq y rfl,qq y rfl,qq y rfl,qq y rfl,qq y rfl⟩)
 have b1:=U c4;have HB:=U A;have b2:=O0 (w.heap.size+2<=W.heap.size) c4.lt;have HW:=U hW;have HI:=O0 (∀w':World,Below W.heap.size W w'->DelegIn w' 0 w'.heap.size ⟨nm,⟨thr,ids⟩,tm,ps,qs⟩ ia pa qa) (fun w' h=>hI.below (A.trans (h.mono A.size)) lz lz (Z3 A.size h.size));have e6:=O0 (∀w':World,Below W.heap.size W w'->_) (fun w' h=>dE thr ids ia ic W.heap.size w' h.size (HI.o w' h).ids a.o.2.1.1);have e9:=O0 (∀w':World,_) (fun w'=>(vG nm w').mono fun e w2 (h:e=.returned (.agg #[.int .u8 3,.int .i64 0,.string nm,.slice none 0 0,.slice none 0 0])/\w2=w'.alloc (.cells #[.int .u8 3,.int .i64 0,.string nm,.slice none 0 0,.slice none 0 0] 25))=>show e=.returned (.agg #[.int .u8 3,.int .i64 0,.string nm,.slice none 0 0,.slice none 0 0])/\Below w'.heap.size w' w2 from ⟨h.1,by rw [h.2];exact (Z0 _ _).alloc lz _⟩);have d3:=U (fun w'=>rM tm w');have e8:=O0 (∀w':World,Below W.heap.size W w'->_) (fun w' h=>mR ps pa pc w' (HI.o w' h).paths (by have:=a.o.2.2.1.1;omega));have e7:=O0 (∀w':World,Below W.heap.size W w'->_) (fun w' h=>mR qs qa qc w' (HI.o w' h).pres (by have:=a.o.2.2.2.1;omega));have HJ:=O0 (qu ⟨nm,⟨thr,ids⟩,tm,ps,qs⟩=j5 (zW ⟨nm,⟨thr,ids⟩,tm,ps,qs⟩)) rfl;obtain ⟨J,hJ⟩:=O1 (qu ⟨nm,⟨thr,ids⟩,tm,ps,qs⟩);rw [<- hJ] at HJ ⊢;obtain ⟨z,c1⟩:=O1 (fS tm);have e4:=U c1;rw [<- c1] at d3;clear hW A hx c4 e1 hI hm hJ c1;obtain ⟨q0,q1,q2,q3,q4,q5⟩:=HC.o W (Z0 _ _);go_enter Tryz.func147,Tryz.ntmps147;go_upto_region 1 with fail
 rw [<- HW.o];clear HW q0 q1 q2 q3 q4 q5;obtain ⟨V,hV⟩:∃V:List MP,V=[.con (.pointer (some ⟨w.heap.size,1,none⟩)),.con (.agg #[.int .i64 thr,.slice ia ids.length ic]),.memb thr ids W.heap.size,.con (.pointer (some ⟨w.heap.size,0,none⟩)),.con (.string nm),.con (.agg #[.int .u8 3,.int .i64 0,.string nm,.slice none 0 0,.slice none 0 0]),.con (.agg #[.string ⟨#[110,97,109,101]⟩,.int .u8 3,.int .i64 0,.string nm,.slice none 0 0,.slice none 0 0]),.con (.pointer (some ⟨w.heap.size,3,none⟩)),.con (.bool tm),.con (.agg #[.int .u8 1,.int .i64 z,.string ⟨#[]⟩,.slice none 0 0,.slice none 0 0]),.con (.agg #[.string ⟨#[116,101,114,109,105,110,97,116,105,110,103]⟩,.int .u8 1,.int .i64 z,.string ⟨#[]⟩,.slice none 0 0,.slice none 0 0]),.row W.heap.size 2 169 #[.string ⟨#[110,97,109,101]⟩,.int .u8 3,.int .i64 0,.string nm,.slice none 0 0,.slice none 0 0,.string ⟨#[116,101,114,109,105,110,97,116,105,110,103]⟩,.int .u8 1,.int .i64 z,.string ⟨#[]⟩,.slice none 0 0,.slice none 0 0]]:=⟨_,rfl⟩;have f:=U hV;clear hV;refine qE 12 (fun d a' w'=>∃x6 x7 x8 x9 x10 x11 x12 x13 x14 x15 x16 x17,a'=⟨#[.agg #[.string nm,.int .i64 thr,.slice ia ids.length ic,.bool tm,.slice pa ps.length pc,.slice qa qs.length qc],.pointer (some ⟨w.heap.size,0,none⟩),.pointer (some ⟨w.heap.size+1,0,none⟩),undef,undef,undef,x6,x7,x8,x9,x10,x11,x12,x13,x14,x15,x16,x17,undef,undef,undef,undef,undef,undef,undef,undef,undef,undef,undef,undef,undef,undef,undef,undef,undef,undef,undef,undef,undef,undef,undef,undef,undef],[]⟩/\zT W V d w' [x6,x7,x8,x9,x10,x11,x12,x13,x14,x15,x16,x17]) (by kernel_rfl) (by kernel_rfl) ?first ?step ?last
 case first=>exact ⟨_,_,_,_,_,_,_,_,_,_,_,_,rfl,zT.first _ _ _ (by rw [f.o];rfl)⟩
 case step =>
  rintro d a' w' ⟨x6,x7,x8,x9,x10,x11,x12,x13,x14,x15,x16,x17,rfl,h⟩ q hq hn hw;rcases q with _|_|_|_|_|_|_|_|_|_|_|_|q
  . refine Z9 rfl fun K hK=>?_;go_simp;exact hK _ _ ⟨_,_,_,_,_,_,_,_,_,_,_,_,rfl,h.sameC 0 _ f rfl⟩
  . obtain rfl:=h.cn hw f 0 .data;obtain ⟨q0,q1,q2,q3,q4,q5⟩:=HC.o w' h.1;refine Z9 rfl fun K hK=>?_;go_simp;exact hK _ _ ⟨_,_,_,_,_,_,_,_,_,_,_,_,rfl,h.sameC 1 _ f rfl⟩
  . obtain rfl:=h.cn hw f 1 .data;obtain ⟨q0,q1,q2,q3,q4,q5⟩:=HC.o w' h.1;refine Z9 rfl fun K hK=>?_;go_simp;refine (e6.o w' h.1).mono ?_;rintro e w2 ⟨y,rfl,hy,a3⟩;exact hK _ _ ⟨_,_,_,_,_,_,_,_,_,_,_,_,rfl,h.did a3 2 _ (.memb thr ids W.heap.size) (by rw [f.o];rfl) hy⟩
  . refine Z9 rfl fun K hK=>?_;go_simp;exact hK _ _ ⟨_,_,_,_,_,_,_,_,_,_,_,_,rfl,h.sameC 3 _ f rfl⟩
  . obtain rfl:=h.cn hw f 3 .data;obtain ⟨q0,q1,q2,q3,q4,q5⟩:=HC.o w' h.1;refine Z9 rfl fun K hK=>?_;go_simp;exact hK _ _ ⟨_,_,_,_,_,_,_,_,_,_,_,_,rfl,h.sameC 4 _ f rfl⟩
  . obtain rfl:=h.cn hw f 4 .data;obtain ⟨q0,q1,q2,q3,q4,q5⟩:=HC.o w' h.1;refine Z9 rfl fun K hK=>?_;go_simp;refine (e9.o w').mono ?_;rintro e w2 ⟨rfl,a3⟩;exact hK _ _ ⟨_,_,_,_,_,_,_,_,_,_,_,_,rfl,h.didC a3 5 _ f rfl⟩
  . obtain rfl:=h.cn hw f 5 .data;refine Z9 rfl fun K hK=>?_;go_simp;exact hK _ _ ⟨_,_,_,_,_,_,_,_,_,_,_,_,rfl,h.sameC 6 _ f rfl⟩
  . refine Z9 rfl fun K hK=>?_;go_simp;exact hK _ _ ⟨_,_,_,_,_,_,_,_,_,_,_,_,rfl,h.sameC 7 _ f rfl⟩
  . obtain rfl:=h.cn hw f 7 .data;obtain ⟨q0,q1,q2,q3,q4,q5⟩:=HC.o w' h.1;refine Z9 rfl fun K hK=>?_;go_simp;exact hK _ _ ⟨_,_,_,_,_,_,_,_,_,_,_,_,rfl,h.sameC 8 _ f rfl⟩
  . obtain rfl:=h.cn hw f 8 .data;obtain ⟨q0,q1,q2,q3,q4,q5⟩:=HC.o w' h.1;refine Z9 rfl fun K hK=>?_;go_simp;refine (d3.o w').mono ?_;rintro e w2 ⟨rfl,a3⟩;exact hK _ _ ⟨_,_,_,_,_,_,_,_,_,_,_,_,rfl,h.didC a3 9 _ f rfl⟩
  . obtain rfl:=h.cn hw f 9 .data;refine Z9 rfl fun K hK=>?_;go_simp;exact hK _ _ ⟨_,_,_,_,_,_,_,_,_,_,_,_,rfl,h.sameC 10 _ f rfl⟩
  . obtain rfl:=h.cn hw f 6 .data;obtain rfl:=h.cn hw f 10 .data;refine Z9 rfl fun K hK=>?_;go_simp;exact hK _ _ ⟨_,_,_,_,_,_,_,_,_,_,_,_,rfl,h.new _ 11 _ (.row W.heap.size 2 169 #[.string ⟨#[110,97,109,101]⟩,.int .u8 3,.int .i64 0,.string nm,.slice none 0 0,.slice none 0 0,.string ⟨#[116,101,114,109,105,110,97,116,105,110,103]⟩,.int .u8 1,.int .i64 z,.string ⟨#[]⟩,.slice none 0 0,.slice none 0 0]) (by rw [f.o];rfl) (yq.made _ h.1.size)⟩
  . omega
 case last =>
  rintro d a' w' a2 ⟨x6,x7,x8,x9,x10,x11,x12,x13,x14,x15,x16,x17,rfl,h⟩;have e0:=h.1;have f1:=h.get 2 (a2 _ (by omega)) (.memb thr ids W.heap.size) (by rw [f.o];rfl) _ rfl;obtain ⟨f0,f3,rfl,e2⟩:=h.get 11 (a2 _ (by omega)) (.row W.heap.size 2 169 #[.string ⟨#[110,97,109,101]⟩,.int .u8 3,.int .i64 0,.string nm,.slice none 0 0,.slice none 0 0,.string ⟨#[116,101,114,109,105,110,97,116,105,110,103]⟩,.int .u8 1,.int .i64 z,.string ⟨#[]⟩,.slice none 0 0,.slice none 0 0]) (by rw [f.o];rfl) _ rfl;have e5:=U e0;clear h a2 e0 f;have a4:=e5.o;obtain ⟨g,ai,ci,rfl,d6,c2,d7⟩:=f1;have b5:=U (mv d6 c2 d7);have b6:=O0 (w'.ownsRow W.heap.size 169 6 (.slice (some ⟨g,0,none⟩) 2 2) 2 (qW [xL ai ids.length ci,zE thrN thr])) b5.o.own;have e3:=U a4;have f2:=U (qx c2);have c6:W.heap.size<=w'.heap.size:=a4.size;clear a4 d6 c2 d7;obtain ⟨i1,c3,c9,d0,d1⟩:=V9 vY;simp only [N5,zb1];go_upto_region 2 with (at_builtin;refine Y9 _ rfl (.tmp 8) (.tmp 17) 170 rfl W.heap.size 169 i1 _ 6 96 za3 c3 c9 d0 d1 rfl (by omega) (.slice (some ⟨g,0,none⟩) 2 2) 2 (qW [xL ai ids.length ci,zE thrN thr]) rfl b6.o ⟨f0,0,none⟩ 2 2 (qW [xj zw nm,(⟨trmN,1,z,⟨#[]⟩,none,0,0,none,0,0⟩:Mem)]) rfl rfl (X0 (cs:=(qW [xj zw nm,(⟨trmN,1,z,⟨#[]⟩,none,0,0,none,0,0⟩:Mem)]).toArray) (t:=169) (fr:=(0,0)) e2) (jl _) (by omega) (by unfold maxLen;omega) (by omega) (by have:=qx e2;omega) w'.heap.size (by omega) ?_;intro g2 cap2 w4 hown4 hgrow4 hat4 hlt4;have d4:=U hown4;have b0:=U hgrow4;have d2:=U hat4;clear hown4 hgrow4 hat4)
  have x:=U (below_grown e3.o c6 b0.o (fun b A=>(b6.o.lt b A).1));have S:=U (show MemsAt W.heap.size w4 (.slice (some ⟨g2,0,none⟩) 4 cap2) [xL ai ids.length ci,zE thrN thr,xj zw nm,(⟨trmN,1,z,⟨#[]⟩,none,0,0,none,0,0⟩:Mem)] [qg ids,zy thr,txtJ nm,zt tm] from b5.o.cat (ms2:=[xj zw nm,(⟨trmN,1,z,⟨#[]⟩,none,0,0,none,0,0⟩:Mem)]) (its2:=[txtJ nm,zt tm]) rfl (fun i hi=>by
   match i,hi with
   | 0,_=>exact ⟨W.heap.size,W.heap.size,J0 _,c6,fun b A=>by omega,jN _ _ _ _⟩
   | 1,_=>exact ⟨W.heap.size,W.heap.size,J0 _,c6,fun b A=>by omega,by have:=dO w' W.heap.size W.heap.size tm;rw [<- e4.o] at this;exact this⟩) b0.o d4.o (by
   rcases d2.o with h|h
   . exact .inl h.symm
   . exact .inr ⟨g2,rfl,by omega⟩))
  have d5:=O0 (w'.heap.size<=w4.heap.size/\g2<w4.heap.size) (⟨b0.o.size,(S.o.own.lt g2 rfl).2⟩);clear d4 b0 d2 b5 b6;obtain ⟨q0,q1,q2,q3,q4,q5⟩:=HC.o w4 x.o;have b3:W.heap.size<=w4.heap.size:=x.o.size;by_cases hps:ps=[]
  . have R:=O0 (J=j5 [(qy,qg ids),(zw,txtJ nm),(zF,qg qs),(trmN,zt tm),(thrN,zy thr)]) (by rw [HJ.o];unfold zW;rw [Z5 (by simp [hps])]);have n0:((0:Int)<(ps.length:Int))=False:=by subst hps;simp
    have n1:decide ((0:Int)<(ps.length:Int))=false:=by subst hps;rfl
    have n2:¬0<ps.length:=by subst hps;simp
    clear hps;go_upto_region 4 with fail
    go_wp2_with fail
    refine (e7.o w4 x.o).mono ?_;clear q0 q1 q2 q3 q4 q5;rintro r u ⟨a5,c5,rfl,a7,o⟩;have Z:=U a7;have Q:=U o;have E:=U (S.o.below o);have F:=O0 (u.ownsRow W.heap.size 169 6 (.slice (some ⟨g2,0,none⟩) 4 cap2) 4 (qW [xL ai ids.length ci,zE thrN thr,xj zw nm,(⟨trmN,1,z,⟨#[]⟩,none,0,0,none,0,0⟩:Mem)])) E.o.own;have c7:W.heap.size<=u.heap.size:=Z3 b3 o.size;clear a7 o;go_upto_region 5 with (at_builtin;refine Y9 _ rfl (.tmp 30) (.tmp 35) 170 rfl W.heap.size 169 i1 _ 6 96 za3 c3 c9 d0 d1 rfl (by omega) (.slice (some ⟨g2,0,none⟩) 4 cap2) 4 (qW [xL ai ids.length ci,zE thrN thr,xj zw nm,(⟨trmN,1,z,⟨#[]⟩,none,0,0,none,0,0⟩:Mem)]) rfl (F.o.alloc _) ⟨u.heap.size,0,none⟩ 1 1 (qG (⟨zF,4,0,⟨#[]⟩,none,0,0,a5,qs.length,c5⟩:Mem)) rfl rfl (X0 (cs:=#[.string ⟨#[112,97,116,104,95,104,97,115,104,95,112,114,101,102,105,120,101,115]⟩,.int .u8 4,.int .i64 0,.string ⟨#[]⟩,.slice none 0 0,.slice a5 qs.length c5]) (t:=169) (fr:=(0,0)) (Z4 u _)) (jX _) (by omega) (by unfold maxLen;omega) (by omega) (by simp;omega) (u.heap.size+1) (by simp) ?_;intro g3 cap3 w6 hown6 hgrow6 hat6 hlt6;have Y:=U hown6;have D:=U hgrow6;have P:=U hat6;clear hown6 hgrow6 hat6)
    have s:Below u.heap.size u (u.alloc (.cells #[.string ⟨#[112,97,116,104,95,104,97,115,104,95,112,114,101,102,105,120,101,115]⟩,.int .u8 4,.int .i64 0,.string ⟨#[]⟩,.slice none 0 0,.slice a5 qs.length c5] 169)):=(Z0 _ _).alloc lz _;have C:=U (below_grown ((x.o.trans (Q.o.mono x.o.size)).trans (s.mono c7)) (by simp;omega) D.o (fun b A=>(F.o.lt b A).1));have T:=U (show MemsAt W.heap.size w6 (.slice (some ⟨g3,0,none⟩) 5 cap3) ([xL ai ids.length ci,zE thrN thr,xj zw nm,(⟨trmN,1,z,⟨#[]⟩,none,0,0,none,0,0⟩:Mem)] ++ [(⟨zF,4,0,⟨#[]⟩,none,0,0,a5,qs.length,c5⟩:Mem)]) ([qg ids,zy thr,txtJ nm,zt tm] ++ [qg qs]) from (E.o.below s).snoc (⟨zF,4,0,⟨#[]⟩,none,0,0,a5,qs.length,c5⟩:Mem) (qg qs) w4.heap.size u.heap.size b3 (by simp) (fun b A=>by simp only [Value.ownBlock,K7] at A;have:=d5.o;omega) (Z.o.below s lz lz lz) D.o Y.o (by
     rcases P.o with h|h
     . exact .inl h.symm
     . exact .inr ⟨g3,rfl,by simp;omega⟩))
    have c0:=U b2.o;replace HJ:=U R.o;clear F Y D P S E Q Z s R;have X:=U (fN (v:=.slice (some ⟨g3,0,none⟩) 5 cap3) [(qy,qg ids),(zw,txtJ nm),(zF,qg qs),(trmN,zt tm),(thrN,zy thr)] (N:=[(qy,qg ids),(thrN,zy thr),(zw,txtJ nm),(trmN,zt tm),(zF,qg qs)]) ⟨_,by simpa using T.o,by simp [xL,zE,xj]⟩ ⟨_,_,rfl⟩ (nH _ _ _ _ _) zm.2.1 (by simp) (fun p hp=>by
     simp only [G3,H9,zd5] at hp;rcases hp with rfl|rfl|rfl|rfl|rfl
     . exact kP a.o.2.1.2.2 (by have:=a.o.2.1.2.1;omega)
     . show (txtJ nm).wt<=4294967296;rw [j8];have:=a.o.1;omega
     . exact kP a.o.2.2.2.2 (by have:=a.o.2.2.2.1;omega)
     . exact d8 tm
     . show (zy _).wt<=4294967296;rw [py];decide) (by have:=c0.o;omega))
    clear T;go_wp2_with fail;refine X.o.mono ?_;clear X;rintro e M ⟨H,L,G,I,rfl,a8,a6⟩;have l:Below W.heap.size W M:=O2 C a6;obtain ⟨W9,m⟩:=O1 (M.alloc (.cells #[.int .u8 5,.int .i64 0,.string ⟨#[]⟩,.slice H 5 L,.slice G 5 I] 25));have k:Below M.heap.size M W9:=by rw [m];exact (Z0 _ _).alloc lz _
    have a9:W9.heap[M.heap.size]?=some (.cells #[.int .u8 5,.int .i64 0,.string ⟨#[]⟩,.slice H 5 L,.slice G 5 I] 25 (0,0)):=by rw [m];exact Z4 M _
    have c:=qj (l.trans (k.mono l.size)) b1.o b1.o.lt;have b9:=U c;have b7:=U (Rep.below a8 (B:=M.heap.size) k lz lz k.size);have a1:=O0 (w.heap.size+2<=w6.heap.size) (Z3 b2.o C.o.size);have b4:=U (HB.o.trans ((l.trans (k.mono l.size)).mono HB.o.size));obtain ⟨z0,z1,z2,z3,z4⟩:=bx5 a9;obtain ⟨t0,t1,t2,t3,t4⟩:=rc5 c;obtain ⟨s0,s1,s2,s3,s4⟩:=rf5 c;simp only [qZ] at t0 t1 t2 t3 t4;have a0:=U m;clear c a8 a6 l k a9 m;go_upto_region 6 with fail
    rw [<- a0.o];clear a0;go_wp2;refine J3 (X6 Tryz.results147 _ _ (w.heap.size+1) 25 _ (0,0) _ rfl (qm (set5 _ _ _ _ _ b9.o)) J5 rfl (by kernel_rfl)) rfl ?_;rw [HJ.o];refine ⟨H,L,G,I,rfl,?_,zx _ _ _ _ _ b4.o (by omega)⟩;exact Rep.carry (by have:=a1.o;omega) (show W9.heap.size<=_ by simp [World.setCell]) (fun j hj _=>xI _ _ _ _ _ (by have:=a1.o;omega)) _ _ b7.o
  . have R:=O0 (J=j5 [(qy,qg ids),(zw,txtJ nm),(xg,qg ps),(trmN,zt tm),(thrN,zy thr)]) (by rw [HJ.o];unfold zW;rw [J1 hps]);have n2:0<ps.length:=zb5.2 hps;have n1:decide ((0:Int)<(ps.length:Int))=true:=by rw [Q6];omega
    have n3:(0:Int)<(ps.length:Int):=by omega
    clear hps;go_upto_region 3 with fail
    go_wp2_with fail
    refine (e8.o w4 x.o).mono ?_;clear q0 q1 q2 q3 q4 q5;rintro r u ⟨a5,c5,rfl,a7,o⟩;have Z:=U a7;have Q:=U o;have E:=U (S.o.below o);have F:=O0 (u.ownsRow W.heap.size 169 6 (.slice (some ⟨g2,0,none⟩) 4 cap2) 4 (qW [xL ai ids.length ci,zE thrN thr,xj zw nm,(⟨trmN,1,z,⟨#[]⟩,none,0,0,none,0,0⟩:Mem)])) E.o.own;have c7:W.heap.size<=u.heap.size:=Z3 b3 o.size;clear a7 o;go_upto_region 5 with (at_builtin;refine Y9 _ rfl (.tmp 23) (.tmp 28) 170 rfl W.heap.size 169 i1 _ 6 96 za3 c3 c9 d0 d1 rfl (by omega) (.slice (some ⟨g2,0,none⟩) 4 cap2) 4 (qW [xL ai ids.length ci,zE thrN thr,xj zw nm,(⟨trmN,1,z,⟨#[]⟩,none,0,0,none,0,0⟩:Mem)]) rfl (F.o.alloc _) ⟨u.heap.size,0,none⟩ 1 1 (qG (⟨xg,4,0,⟨#[]⟩,none,0,0,a5,ps.length,c5⟩:Mem)) rfl rfl (X0 (cs:=#[.string ⟨#[112,97,116,104,115]⟩,.int .u8 4,.int .i64 0,.string ⟨#[]⟩,.slice none 0 0,.slice a5 ps.length c5]) (t:=169) (fr:=(0,0)) (Z4 u _)) (jX _) (by omega) (by unfold maxLen;omega) (by omega) (by simp;omega) (u.heap.size+1) (by simp) ?_;intro g3 cap3 w6 hown6 hgrow6 hat6 hlt6;have Y:=U hown6;have D:=U hgrow6;have P:=U hat6;clear hown6 hgrow6 hat6)
    have s:Below u.heap.size u (u.alloc (.cells #[.string ⟨#[112,97,116,104,115]⟩,.int .u8 4,.int .i64 0,.string ⟨#[]⟩,.slice none 0 0,.slice a5 ps.length c5] 169)):=(Z0 _ _).alloc lz _;have C:=U (below_grown ((x.o.trans (Q.o.mono x.o.size)).trans (s.mono c7)) (by simp;omega) D.o (fun b A=>(F.o.lt b A).1));have T:=U (show MemsAt W.heap.size w6 (.slice (some ⟨g3,0,none⟩) 5 cap3) ([xL ai ids.length ci,zE thrN thr,xj zw nm,(⟨trmN,1,z,⟨#[]⟩,none,0,0,none,0,0⟩:Mem)] ++ [(⟨xg,4,0,⟨#[]⟩,none,0,0,a5,ps.length,c5⟩:Mem)]) ([qg ids,zy thr,txtJ nm,zt tm] ++ [qg ps]) from (E.o.below s).snoc (⟨xg,4,0,⟨#[]⟩,none,0,0,a5,ps.length,c5⟩:Mem) (qg ps) w4.heap.size u.heap.size b3 (by simp) (fun b A=>by simp only [Value.ownBlock,K7] at A;have:=d5.o;omega) (Z.o.below s lz lz lz) D.o Y.o (by
     rcases P.o with h|h
     . exact .inl h.symm
     . exact .inr ⟨g3,rfl,by simp;omega⟩))
    have c0:=U b2.o;replace HJ:=U R.o;clear F Y D P S E Q Z s R;have X:=U (fN (v:=.slice (some ⟨g3,0,none⟩) 5 cap3) [(qy,qg ids),(zw,txtJ nm),(xg,qg ps),(trmN,zt tm),(thrN,zy thr)] (N:=[(qy,qg ids),(thrN,zy thr),(zw,txtJ nm),(trmN,zt tm),(xg,qg ps)]) ⟨_,by simpa using T.o,by simp [xL,zE,xj]⟩ ⟨_,_,rfl⟩ (nH _ _ _ _ _) zm.1 (by simp) (fun p hp=>by
     simp only [G3,H9,zd5] at hp;rcases hp with rfl|rfl|rfl|rfl|rfl
     . exact kP a.o.2.1.2.2 (by have:=a.o.2.1.2.1;omega)
     . show (txtJ nm).wt<=4294967296;rw [j8];have:=a.o.1;omega
     . exact kP a.o.2.2.1.2 (by have:=a.o.2.2.1.1;omega)
     . exact d8 tm
     . show (zy _).wt<=4294967296;rw [py];decide) (by have:=c0.o;omega))
    clear T;go_wp2_with fail;refine X.o.mono ?_;clear X;rintro e M ⟨H,L,G,I,rfl,a8,a6⟩;have l:Below W.heap.size W M:=O2 C a6;obtain ⟨W9,m⟩:=O1 (M.alloc (.cells #[.int .u8 5,.int .i64 0,.string ⟨#[]⟩,.slice H 5 L,.slice G 5 I] 25));have k:Below M.heap.size M W9:=by rw [m];exact (Z0 _ _).alloc lz _
    have a9:W9.heap[M.heap.size]?=some (.cells #[.int .u8 5,.int .i64 0,.string ⟨#[]⟩,.slice H 5 L,.slice G 5 I] 25 (0,0)):=by rw [m];exact Z4 M _
    have c:=qj (l.trans (k.mono l.size)) b1.o b1.o.lt;have b9:=U c;have b7:=U (Rep.below a8 (B:=M.heap.size) k lz lz k.size);have a1:=O0 (w.heap.size+2<=w6.heap.size) (Z3 b2.o C.o.size);have b4:=U (HB.o.trans ((l.trans (k.mono l.size)).mono HB.o.size));obtain ⟨z0,z1,z2,z3,z4⟩:=bx5 a9;obtain ⟨t0,t1,t2,t3,t4⟩:=rc5 c;obtain ⟨s0,s1,s2,s3,s4⟩:=rf5 c;simp only [qZ] at t0 t1 t2 t3 t4;have a0:=U m;clear c a8 a6 l k a9 m;go_upto_region 6 with fail
    rw [<- a0.o];clear a0;go_wp2;refine J3 (X6 Tryz.results147 _ _ (w.heap.size+1) 25 _ (0,0) _ rfl (qm (set5 _ _ _ _ _ b9.o)) J5 rfl (by kernel_rfl)) rfl ?_;rw [HJ.o];refine ⟨H,L,G,I,rfl,?_,zx _ _ _ _ _ b4.o (by omega)⟩;exact Rep.carry (by have:=a1.o;omega) (show W9.heap.size<=_ by simp [World.setCell]) (fun j hj _=>xI _ _ _ _ _ (by have:=a1.o;omega)) _ _ b7.o
theorem eU {α:Type} (a b c d:α):[c,a,d,b].Perm [a,b,c,d]:=by have e:[c,a,d,b].Perm [a,c,d,b]:=List.Perm.swap a c [d,b];refine e.trans (List.Perm.cons a ?_);exact (List.perm_append_comm (l₁:=[c,d]) (l₂:=[b]))
theorem jW {b:BinsV} (h:q8 b=true):zV b=0/\jv b.au=true/\vp b.pre=false/\b.pre.size<=64:=by
 unfold q8 at h;simp only [J4,Q6,Bool.not_eq_true'] at h;obtain ⟨⟨a,c⟩,d⟩:=h;refine ⟨a,c,d,?_⟩;unfold zV at a;split at a
 . cases a
 . split at a
   . cases a
   . rename_i hr;exact fj (by simpa using hr)
theorem px (bits thr:Int) (ids:List ByteArray) (pre:ByteArray) (ia:Option Addr) (ic:Nat) (w:World) (hI:qv w 0 w.heap.size ia ids) (hm:q8 ⟨bits,pre,⟨thr,ids⟩⟩=true) :
 Calls Tryz.prog 149 #[.agg #[.int .i64 thr,.slice ia ids.length ic,.int .i64 bits,.string pre]] w (vl (zU ⟨bits,pre,⟨thr,ids⟩⟩) w):=by
 have u:=U (show pre.size<=64/\ids.length<=16/\∀s ∈ ids,s.size<=1000000 from by
  obtain ⟨h1,h2,h3,h4⟩:=jW hm;have ha:=zI h2;dsimp only at h4 ha;exact ⟨h4,ha.1.2,fun s hs=>by have:=(kh (jb _ _ ha.2.2 s hs)).2;omega⟩)
 obtain ⟨W,hW⟩:=O1 ((w.alloc (.cells #[.int .i64 thr,.slice ia ids.length ic,.int .i64 bits,.string pre] 33)).alloc (.cells #[.int .u8 0,.int .i64 0,.string ⟨#[]⟩,.slice none 0 0,.slice none 0 0] 25));have b4:(w.alloc (.cells #[.int .i64 thr,.slice ia ids.length ic,.int .i64 bits,.string pre] 33)).heap.size=w.heap.size+1:=by simp
 have z:Below w.heap.size w W:=by rw [hW];exact ((Z0 _ _).alloc lz _).alloc (by simp) _
 have hx:W.heap[w.heap.size]?=some (.cells #[.int .i64 thr,.slice ia ids.length ic,.int .i64 bits,.string pre] 33 (0,0)):=by rw [hW];exact zl w _ _
 have Q:W.rowIs (w.heap.size+1) 25 5 (qZ (.int .u8 0) (.int .i64 0) (.string ⟨#[]⟩) (.slice none 0 0) (.slice none 0 0)):=(by have:=qh (w.alloc (.cells #[.int .i64 thr,.slice ia ids.length ic,.int .i64 bits,.string pre] 33)) (.int .u8 0) (.int .i64 0) (.string ⟨#[]⟩) (.slice none 0 0) (.slice none 0 0) 25;rw [b4,<- hW] at this;exact this);have D:=U (show ∀w':World,Below W.heap.size W w'->w'.cell? ⟨w.heap.size,0,none⟩=some (.int .i64 thr)/\w'.cell? ⟨w.heap.size,1,none⟩=some (.slice ia ids.length ic)/\w'.cell? ⟨w.heap.size,2,none⟩=some (.int .i64 bits)/\w'.cell? ⟨w.heap.size,3,none⟩=some (.string pre) from fun w' h=>by
  have y:=(h.block _ (qx hx)).trans hx;exact ⟨qq y rfl,qq y rfl,qq y rfl,qq y rfl⟩)
 have a4:=U Q;have HB:=U z;have a6:=O0 (w.heap.size+2<=W.heap.size) Q.lt;have HW:=U hW;have HI:=O0 (∀w':World,Below W.heap.size W w'->qv w' 0 w'.heap.size ia ids) (fun w' h=>hI.below (z.trans (h.mono z.size)) lz lz (Z3 z.size h.size));have c0:=O0 (∀w':World,Below W.heap.size W w'->_) (fun w' h=>dE thr ids ia ic W.heap.size w' h.size (HI.o w' h) (by have:=u.o.2.1;omega));have c4:=O0 (∀w':World,_) (fun w'=>(vG pre w').mono fun e A (h:e=.returned (.agg #[.int .u8 3,.int .i64 0,.string pre,.slice none 0 0,.slice none 0 0])/\A=w'.alloc (.cells #[.int .u8 3,.int .i64 0,.string pre,.slice none 0 0,.slice none 0 0] 25))=>show e=.returned (.agg #[.int .u8 3,.int .i64 0,.string pre,.slice none 0 0,.slice none 0 0])/\Below w'.heap.size w' A from ⟨h.1,by rw [h.2];exact (Z0 _ _).alloc lz _⟩);have c1:=O0 (∀w':World,_) (fun w'=>(dJ bits w').mono fun e A (h:e=.returned (.agg #[.int .u8 2,.int .i64 bits,.string ⟨#[]⟩,.slice none 0 0,.slice none 0 0])/\A=w'.alloc (.cells #[.int .u8 2,.int .i64 bits,.string ⟨#[]⟩,.slice none 0 0,.slice none 0 0] 25))=>show e=.returned (.agg #[.int .u8 2,.int .i64 bits,.string ⟨#[]⟩,.slice none 0 0,.slice none 0 0])/\Below w'.heap.size w' A from ⟨h.1,by rw [h.2];exact (Z0 _ _).alloc lz _⟩);have HJ:=O0 (zU ⟨bits,pre,⟨thr,ids⟩⟩=j5 [(jn,zy bits),(qy,qg ids),(jY,txtJ pre),(thrN,zy thr)]) rfl;obtain ⟨J,hJ⟩:=O1 (zU ⟨bits,pre,⟨thr,ids⟩⟩);rw [<- hJ] at HJ ⊢;clear hW z hx Q b4 hI hm hJ;obtain ⟨S,T,X,Y⟩:=D.o W (Z0 _ _);go_enter Tryz.func149,Tryz.ntmps149;go_upto_region 1 with fail
 rw [<- HW.o];clear HW S T X Y;obtain ⟨V,hV⟩:∃V:List MP,V=[.con (.pointer (some ⟨w.heap.size,0,none⟩)),.con (.agg #[.int .i64 thr,.slice ia ids.length ic]),.memb thr ids W.heap.size,.con (.pointer (some ⟨w.heap.size,2,none⟩)),.con (.int .i64 bits),.con (.agg #[.int .u8 2,.int .i64 bits,.string ⟨#[]⟩,.slice none 0 0,.slice none 0 0]),.con (.agg #[.string ⟨#[98,105,116,95,108,101,110,103,116,104]⟩,.int .u8 2,.int .i64 bits,.string ⟨#[]⟩,.slice none 0 0,.slice none 0 0]),.con (.pointer (some ⟨w.heap.size,3,none⟩)),.con (.string pre),.con (.agg #[.int .u8 3,.int .i64 0,.string pre,.slice none 0 0,.slice none 0 0]),.con (.agg #[.string ⟨#[110,97,109,101,95,112,114,101,102,105,120]⟩,.int .u8 3,.int .i64 0,.string pre,.slice none 0 0,.slice none 0 0]),.row W.heap.size 2 169 #[.string ⟨#[98,105,116,95,108,101,110,103,116,104]⟩,.int .u8 2,.int .i64 bits,.string ⟨#[]⟩,.slice none 0 0,.slice none 0 0,.string ⟨#[110,97,109,101,95,112,114,101,102,105,120]⟩,.int .u8 3,.int .i64 0,.string pre,.slice none 0 0,.slice none 0 0]]:=⟨_,rfl⟩;have a:=U hV;clear hV;refine qE 12 (fun d a' w'=>∃x6 x7 x8 x9 x10 x11 x12 x13 x14 x15 x16 x17,a'=⟨#[.agg #[.int .i64 thr,.slice ia ids.length ic,.int .i64 bits,.string pre],.pointer (some ⟨w.heap.size,0,none⟩),.pointer (some ⟨w.heap.size+1,0,none⟩),undef,undef,undef,x6,x7,x8,x9,x10,x11,x12,x13,x14,x15,x16,x17,undef,undef,undef,undef,undef,undef,undef],[]⟩/\zT W V d w' [x6,x7,x8,x9,x10,x11,x12,x13,x14,x15,x16,x17]) (by kernel_rfl) (by kernel_rfl) ?first ?step ?last
 case first=>exact ⟨_,_,_,_,_,_,_,_,_,_,_,_,rfl,zT.first _ _ _ (by rw [a.o];rfl)⟩
 case step =>
  rintro d a' w' ⟨x6,x7,x8,x9,x10,x11,x12,x13,x14,x15,x16,x17,rfl,h⟩ q hq hn r;rcases q with _|_|_|_|_|_|_|_|_|_|_|_|q
  . refine Z9 rfl fun K hK=>?_;go_simp;exact hK _ _ ⟨_,_,_,_,_,_,_,_,_,_,_,_,rfl,h.sameC 0 _ a rfl⟩
  . obtain rfl:=h.cn r a 0 .data;obtain ⟨S,T,X,Y⟩:=D.o w' h.1;refine Z9 rfl fun K hK=>?_;go_simp;exact hK _ _ ⟨_,_,_,_,_,_,_,_,_,_,_,_,rfl,h.sameC 1 _ a rfl⟩
  . obtain rfl:=h.cn r a 1 .data;obtain ⟨S,T,X,Y⟩:=D.o w' h.1;refine Z9 rfl fun K hK=>?_;go_simp;refine (c0.o w' h.1).mono ?_;rintro e A ⟨y,rfl,hy,k⟩;exact hK _ _ ⟨_,_,_,_,_,_,_,_,_,_,_,_,rfl,h.did k 2 _ (.memb thr ids W.heap.size) (by rw [a.o];rfl) hy⟩
  . refine Z9 rfl fun K hK=>?_;go_simp;exact hK _ _ ⟨_,_,_,_,_,_,_,_,_,_,_,_,rfl,h.sameC 3 _ a rfl⟩
  . obtain rfl:=h.cn r a 3 .data;obtain ⟨S,T,X,Y⟩:=D.o w' h.1;refine Z9 rfl fun K hK=>?_;go_simp;exact hK _ _ ⟨_,_,_,_,_,_,_,_,_,_,_,_,rfl,h.sameC 4 _ a rfl⟩
  . obtain rfl:=h.cn r a 4 .data;obtain ⟨S,T,X,Y⟩:=D.o w' h.1;refine Z9 rfl fun K hK=>?_;go_simp;refine (c1.o w').mono ?_;rintro e A ⟨rfl,k⟩;exact hK _ _ ⟨_,_,_,_,_,_,_,_,_,_,_,_,rfl,h.didC k 5 _ a rfl⟩
  . obtain rfl:=h.cn r a 5 .data;refine Z9 rfl fun K hK=>?_;go_simp;exact hK _ _ ⟨_,_,_,_,_,_,_,_,_,_,_,_,rfl,h.sameC 6 _ a rfl⟩
  . refine Z9 rfl fun K hK=>?_;go_simp;exact hK _ _ ⟨_,_,_,_,_,_,_,_,_,_,_,_,rfl,h.sameC 7 _ a rfl⟩
  . obtain rfl:=h.cn r a 7 .data;obtain ⟨S,T,X,Y⟩:=D.o w' h.1;refine Z9 rfl fun K hK=>?_;go_simp;exact hK _ _ ⟨_,_,_,_,_,_,_,_,_,_,_,_,rfl,h.sameC 8 _ a rfl⟩
  . obtain rfl:=h.cn r a 8 .data;obtain ⟨S,T,X,Y⟩:=D.o w' h.1;refine Z9 rfl fun K hK=>?_;go_simp;refine (c4.o w').mono ?_;rintro e A ⟨rfl,k⟩;exact hK _ _ ⟨_,_,_,_,_,_,_,_,_,_,_,_,rfl,h.didC k 9 _ a rfl⟩
  . obtain rfl:=h.cn r a 9 .data;refine Z9 rfl fun K hK=>?_;go_simp;exact hK _ _ ⟨_,_,_,_,_,_,_,_,_,_,_,_,rfl,h.sameC 10 _ a rfl⟩
  . obtain rfl:=h.cn r a 6 .data;obtain rfl:=h.cn r a 10 .data;refine Z9 rfl fun K hK=>?_;go_simp;exact hK _ _ ⟨_,_,_,_,_,_,_,_,_,_,_,_,rfl,h.new _ 11 _ (.row W.heap.size 2 169 #[.string ⟨#[98,105,116,95,108,101,110,103,116,104]⟩,.int .u8 2,.int .i64 bits,.string ⟨#[]⟩,.slice none 0 0,.slice none 0 0,.string ⟨#[110,97,109,101,95,112,114,101,102,105,120]⟩,.int .u8 3,.int .i64 0,.string pre,.slice none 0 0,.slice none 0 0]) (by rw [a.o];rfl) (yq.made _ h.1.size)⟩
  . omega
 case last =>
  rintro d a' w' f ⟨x6,x7,x8,x9,x10,x11,x12,x13,x14,x15,x16,x17,rfl,h⟩;have b1:=h.1;have c9:=h.get 2 (f _ (by omega)) (.memb thr ids W.heap.size) (by rw [a.o];rfl) _ rfl;obtain ⟨c6,d4,rfl,b5⟩:=h.get 11 (f _ (by omega)) (.row W.heap.size 2 169 #[.string ⟨#[98,105,116,95,108,101,110,103,116,104]⟩,.int .u8 2,.int .i64 bits,.string ⟨#[]⟩,.slice none 0 0,.slice none 0 0,.string ⟨#[110,97,109,101,95,112,114,101,102,105,120]⟩,.int .u8 3,.int .i64 0,.string pre,.slice none 0 0,.slice none 0 0]) (by rw [a.o];rfl) _ rfl;have b9:=U b1;clear h f b1 a;have l:=b9.o;obtain ⟨g,ai,ci,rfl,a9,P,b0⟩:=c9;have F:=U (mv a9 P b0);have G:=O0 (w'.ownsRow W.heap.size 169 6 (.slice (some ⟨g,0,none⟩) 2 2) 2 (qW [xL ai ids.length ci,zE thrN thr])) F.o.own;have b6:=U l;have d3:=U (qx P);have R:W.heap.size<=w'.heap.size:=l.size;clear l a9 P b0;obtain ⟨i1,c7,d0,d1,d2⟩:=V9 vY;simp only [N5,zb1];go_upto_region 2 with (at_builtin;refine Y9 _ rfl (.tmp 8) (.tmp 17) 170 rfl W.heap.size 169 i1 _ 6 96 za3 c7 d0 d1 d2 rfl (by omega) (.slice (some ⟨g,0,none⟩) 2 2) 2 (qW [xL ai ids.length ci,zE thrN thr]) rfl G.o ⟨c6,0,none⟩ 2 2 (qW [zE jn bits,xj jY pre]) rfl rfl (X0 (cs:=(qW [zE jn bits,xj jY pre]).toArray) (t:=169) (fr:=(0,0)) b5) (jl _) (by omega) (by unfold maxLen;omega) (by omega) (by have:=qx b5;omega) w'.heap.size (by omega) ?_;intro g2 cap2 w4 hown4 hgrow4 hat4 hlt4;have a3:=U hown4;have E:=U hgrow4;have a0:=U hat4;clear hown4 hgrow4 hat4)
  have C:=U (below_grown b6.o R E.o (fun b z=>(G.o.lt b z).1));have a1:=U (show MemsAt W.heap.size w4 (.slice (some ⟨g2,0,none⟩) 4 cap2) [xL ai ids.length ci,zE thrN thr,zE jn bits,xj jY pre] [qg ids,zy thr,zy bits,txtJ pre] from F.o.cat (ms2:=[zE jn bits,xj jY pre]) (its2:=[zy bits,txtJ pre]) rfl (fun i hi=>by
   match i,hi with
   | 0,_=>exact ⟨W.heap.size,W.heap.size,J0 _,R,fun b z=>by omega,pg _ _ _ _⟩
   | 1,_=>exact ⟨W.heap.size,W.heap.size,J0 _,R,fun b z=>by omega,jN _ _ _ _⟩) E.o a3.o (by
   rcases a0.o with h|h
   . exact .inl h.symm
   . exact .inr ⟨g2,rfl,by omega⟩))
  have c5:=U a6.o;clear a3 E a0 F G;have a2:=U (fN (v:=.slice (some ⟨g2,0,none⟩) 4 cap2) [(jn,zy bits),(qy,qg ids),(jY,txtJ pre),(thrN,zy thr)] (N:=[(qy,qg ids),(thrN,zy thr),(jn,zy bits),(jY,txtJ pre)]) ⟨_,by simpa using a1.o,by simp [xL,zE,xj]⟩ ⟨_,_,rfl⟩ (eU _ _ _ _) zm.2.2.1 (by simp) (fun p hp=>by
   simp only [G3,H9,zd5] at hp;rcases hp with rfl|rfl|rfl|rfl
   . show (zy _).wt<=4294967296;rw [py];decide
   . exact kP u.o.2.2 (by have:=u.o.2.1;omega)
   . show (txtJ pre).wt<=4294967296;rw [j8];have:=u.o.1;omega
   . show (zy _).wt<=4294967296;rw [py];decide) (by have:=c5.o;omega))
  clear a1;go_wp2_with fail;refine a2.o.mono ?_;clear a2;rintro e Z ⟨I,M,H,L,rfl,b2,a8⟩;have o:Below W.heap.size W Z:=O2 C a8;obtain ⟨W9,x⟩:=O1 (Z.alloc (.cells #[.int .u8 5,.int .i64 0,.string ⟨#[]⟩,.slice I 4 M,.slice H 4 L] 25));have m:Below Z.heap.size Z W9:=by rw [x];exact (Z0 _ _).alloc lz _
  have b3:W9.heap[Z.heap.size]?=some (.cells #[.int .u8 5,.int .i64 0,.string ⟨#[]⟩,.slice I 4 M,.slice H 4 L] 25 (0,0)):=by rw [x];exact Z4 Z _
  have c:=qj (o.trans (m.mono o.size)) a4.o a4.o.lt;have c3:=U c;have c2:=U (Rep.below b2 (B:=Z.heap.size) m lz lz m.size);have a7:=O0 (w.heap.size+2<=w4.heap.size) (Z3 a6.o C.o.size);have b7:=U (HB.o.trans ((o.trans (m.mono o.size)).mono HB.o.size));obtain ⟨z0,z1,z2,z3,z4⟩:=bx5 b3;obtain ⟨t0,t1,t2,t3,t4⟩:=rc5 c;obtain ⟨s0,s1,s2,s3,s4⟩:=rf5 c;simp only [qZ] at t0 t1 t2 t3 t4;have a5:=U x;clear c b2 a8 o m b3 x;go_upto_region 3 with fail
  rw [<- a5.o];clear a5;go_wp2;refine J3 (X6 Tryz.results149 _ _ (w.heap.size+1) 25 _ (0,0) _ rfl (qm (set5 _ _ _ _ _ c3.o)) J5 rfl (by kernel_rfl)) rfl ?_;rw [HJ.o];refine ⟨I,M,H,L,rfl,?_,zx _ _ _ _ _ b7.o (by omega)⟩;exact Rep.carry (by have:=a7.o;omega) (show W9.heap.size<=_ by simp [World.setCell]) (fun j hj _=>xI _ _ _ _ _ (by have:=a7.o;omega)) _ _ c2.o
structure MemsT (T W0:Nat) (w:World) (v:Value) (ms:List Mem) (its:List JV):Prop where
 own:w.ownsRow W0 T 6 v ms.length (qW ms)
 len:its.length=ms.length
 reps:∀i (h:i<its.length),∃lo hi,W0<=lo/\hi<=w.heap.size/\(∀b,v.ownBlock=some b->¬(lo<=b/\b<hi))/\Rep w lo hi its[i] (ms[i]'(by omega)).val
theorem MemsT.below {T W0:Nat} {w w':World} {v:Value} {ms:List Mem} {its:List JV} (h:MemsT T W0 w v ms its) (hb:Below w.heap.size w w'):MemsT T W0 w' v ms its :=
 ⟨qH h.own hb,h.len,fun i hi=>by
  obtain ⟨lo,hi',h1,h2,h3,hr⟩:=h.reps i hi;exact ⟨lo,hi',h1,Z3 h2 hb.size,h3,Rep.carry lz lz (fun b _ h=>hb.block b (by omega)) _ _ hr⟩⟩
theorem MemsT.snoc {T W0:Nat} {w w':World} {v v':Value} {ms:List Mem} {its:List JV} (h:MemsT T W0 w v ms its) (m:Mem) (it:JV) (lo hi:Nat) (h1:W0<=lo) (h2:hi<=w.heap.size) (h3:∀b,v.ownBlock=some b->¬(lo<=b/\b<hi)) (hr:Rep w lo hi it m.val)
 (hg:w.grownBy w' v.ownBlock) (hown:w'.ownsRow W0 T 6 v' (ms.length+1) (qW ms ++ qG m)) (hat:v'.ownBlock=v.ownBlock\/∃g,v'.ownBlock=some g/\w.heap.size<=g):MemsT T W0 w' v' (ms ++ [m]) (its ++ [it]):=by
 have k:∀ {lo hi:Nat},hi<=w.heap.size->(∀b,v.ownBlock=some b->¬(lo<=b/\b<hi))->∀b,v'.ownBlock=some b->¬(lo<=b/\b<hi):=fun hz hn b hb=>by
  rcases hat with e|⟨g,e,hge⟩
  . exact hn b (by rw [<- e];exact hb)
  . rw [e] at hb;simp at hb;omega
 have j:∀ {lo hi:Nat} {it:JV} {x:Value},hi<=w.heap.size->(∀b,v.ownBlock=some b->¬(lo<=b/\b<hi))->Rep w lo hi it x->Rep w' lo hi it x:=fun hz hn hr =>
  Rep.carry lz lz (fun b hb1 hb2=>hg.block b (by omega) (fun e=>hn b e.symm ⟨hb1,hb2⟩)) _ _ hr
 have o:=h.len;refine ⟨?_,by simp [o],fun i hi'=>?_⟩
 . have e:qW (ms ++ [m])=qW ms ++ qG m:=by simp [qW]
   rw [e,H0];exact hown
 . by_cases e:i<its.length
   . obtain ⟨f,a,p,d,l,c⟩:=h.reps i e;refine ⟨f,a,p,Z3 d hg.size,k d l,?_⟩;rw [K6 e,K6 (by omega)];exact j d l c
   . obtain rfl:i=its.length:=by simp at hi';omega
     refine ⟨lo,hi,h1,Z3 h2 hg.size,k h2 h3,?_⟩;rw [G6 (by omega),G6 (by omega)];simpa using j h2 h3 hr
theorem MemsT.one {T W0:Nat} {w:World} {blk:Nat} (m:Mem) (it:JV) (lo hi:Nat) (h0:W0<=blk) (h1:W0<=lo) (h2:hi<=blk) (hr:Rep w lo hi it m.val) (hx:w.heap[blk]?=some (.cells (qG m).toArray T (0,0))):MemsT T W0 w (.slice (some ⟨blk,0,none⟩) 1 1) [m] [it]:=by
 have a:=qx hx;refine ⟨⟨rfl,.inr ⟨blk,1,_,rfl,h0,hx,J0 _,by unfold maxLen;omega,rfl,?_⟩⟩,rfl,fun i hi'=>?_⟩
 . simp [qW,qG]
 . obtain rfl:i=0:=by simp at hi';omega
   exact ⟨lo,hi,h1,by omega,fun b a=>by simp [Value.ownBlock] at a;omega,hr⟩
theorem MemsT.cell {T W0:Nat} {w:World} {g cap n:Nat} {ms:List Mem} {its:List JV} (h:MemsT T W0 w (.slice (some ⟨g,0,none⟩) n cap) ms its) (i:Nat) (hi:i<ms.length) (c:Nat) (hc:c<6):w.cell? ⟨g,i * 6+c,none⟩=some ((qG ms[i])[c]'(by rw [zH];exact hc)):=by
 have e:(⟨g,0,none⟩:Addr).add (i * 6+c)=⟨g,i * 6+c,none⟩:=by unfold Addr.add;split <;> simp_all
 have:=h.own.cells (g:=g) rfl (i * 6+c) _ (uK ms i c hi hc);rwa [e] at this
def iS (T W0:Nat) (w:World) (v:Value) (N:List NJ):Prop :=
 ∃ms,MemsT T W0 w v ms (N.map (·.2))/\ms.map (·.name)=N.map (·.1)
theorem iS.len {T W0:Nat} {w:World} {v:Value} {N:List NJ} (h:iS T W0 w v N):∃ms,MemsT T W0 w v ms (N.map (·.2))/\ms.map (·.name)=N.map (·.1)/\ms.length=N.length:=by obtain ⟨ms,b,a⟩:=h;exact ⟨ms,b,a,by have:=X1 List.length a;simpa using this⟩
def Eli (M N:List ByteArray) (k j:Nat):Prop:=k=0\/∃(h1:k - 1<M.length) (h2:j<N.length),bl M[k-1] N[j]=true
def zG (M N:List ByteArray) (k i:Nat) (at_:Int):Prop :=
 (at_ = -1/\∀j,j<i->j<N.length->¬Eli M N k j)\/∃a,∃h:a<N.length,at_=(a:Int)/\a<i/\Eli M N k a/\∀j (hj:j<N.length),j<i->Eli M N k j->bl N[j] N[a]=false
theorem zG.start (M N:List ByteArray) (k:Nat):zG M N k 0 (-1):=.inl ⟨rfl,fun j h=>by omega⟩
theorem zG.skip {M N:List ByteArray} {k i:Nat} {a:Int} (h:zG M N k i a) (hn:¬Eli M N k i):zG M N k (i+1) a:=by
 rcases h with ⟨e,h⟩|⟨b,hb,e,h1,h2,h3⟩
 . exact .inl ⟨e,fun j hj hl=>by
    by_cases c:j=i
    . subst c;exact hn
    . exact h j (by omega) hl⟩
 . exact .inr ⟨b,hb,e,by omega,h2,fun j hj hl he=>by
    by_cases c:j=i
    . subst c;exact absurd he hn
    . exact h3 j hj (by omega) he⟩
theorem zG.keep {M N:List ByteArray} {k i a:Nat} (hi:i<N.length) (ha:a<N.length) (h:zG M N k i (a:Int)) (hn:bl N[i] N[a]=false):zG M N k (i+1) (a:Int):=by
 rcases h with ⟨e,h⟩|⟨b,hb,e,h1,h2,h3⟩
 . omega
 . obtain rfl:a=b:=by omega
   exact .inr ⟨a,hb,rfl,by omega,h2,fun j hj hl he=>by
    by_cases c:j=i
    . subst c;exact hn
    . exact h3 j hj (by omega) he⟩
theorem zG.first {M N:List ByteArray} {k i:Nat} {a:Int} (hi:i<N.length) (h:zG M N k i a) (hn:a<0) (he:Eli M N k i):zG M N k (i+1) (i:Int):=by
 rcases h with ⟨e,h⟩|⟨b,hb,e,h1,h2,h3⟩
 . exact .inr ⟨i,hi,rfl,by omega,he,fun j hj hl hj2=>by
    by_cases c:j=i
    . subst c;exact zK _
    . exact absurd hj2 (h j (by omega) hj)⟩
 . omega
theorem zG.less {M N:List ByteArray} {k i a:Nat} (hi:i<N.length) (ha:a<N.length) (h:zG M N k i (a:Int)) (hn:bl N[i] N[a]=true) (he:Eli M N k i):zG M N k (i+1) (i:Int):=by
 rcases h with ⟨e,h⟩|⟨b,hb,e,h1,h2,h3⟩
 . omega
 . obtain rfl:a=b:=by omega
   exact .inr ⟨i,hi,rfl,by omega,he,fun j hj hl hj2=>by
    by_cases c:j=i
    . subst c;exact zK _
    . have:=h3 j hj (by omega) hj2;cases hb2:bl N[j] N[i] with
      | false=>rfl
      | true=>rw [jz hb2 hn] at this;cases this⟩
theorem zG.done {M N:List ByteArray} {k:Nat} {at_:Int} (hr:qe M=true) (hp:M.Perm N) (hk:k<M.length) (h:zG M N k N.length at_):∃a,∃h:a<N.length,at_=(a:Int)/\N[a]=M[k]:=by
 have g:∀j (c:j<N.length),N[j] ∈ M:=fun j c=>hp.mem_iff.2 (J7 c);have m:∀i j (hi:i<M.length) (c:j<M.length),i<j->Op.bytesLess M[i].toList M[j].toList=true:=fun i j hi c hlt=>jZ hr i j hi c hlt;have d:∀j (c:j<N.length),Eli M N k j↔(k=0\/Op.bytesLess M[k-1].toList N[j].toList=true):=fun j c=>by
  unfold Eli bl;constructor
  . rintro (h|⟨_,_,h⟩)
    . exact .inl h
    . exact .inr h
  . rintro (h|h)
    . exact .inl h
    . exact .inr ⟨by omega,c,h⟩
 obtain ⟨x,o,f⟩:=nT (fun b:ByteArray=>b) m k hk;obtain ⟨j,c,rfl⟩:=Y3 (hp.mem_iff.1 o);rcases h with ⟨_,h⟩|⟨a,ha,e,_,h2,h3⟩
 . exact absurd ((d j c).2 f) (h j c c)
 . refine ⟨a,ha,e,l9 (fun b:ByteArray=>b) m k hk N[a] (g a ha) ((d a ha).1 h2) fun y hy hgy=>?_⟩;obtain ⟨q,l,rfl⟩:=Y3 (hp.mem_iff.1 hy);exact h3 q l l ((d q l).2 hgy)
end Go.Proofs.YthgembbgcbaghaaGreatDoor
