import Derived.Test.YthgembbgcbaghaaGreatDoorDn41
import Derived.OwnWalk
import Derived.Test.YthgembbgcbaghaaGreatDoorDn32
set_option maxHeartbeats 4000000
set_option maxRecDepth 100000

namespace Go.Proofs.YthgembbgcbaghaaGreatDoor
open Go.RowKit Go.Shelf Go.Sort
theorem ig (g cap:Nat) (d q:Array Mem) (w:World) (r:HoldsK qU 6 w g 0 d) (s:g<w.heap.size) (v:d.size<=4294967296) (hp:q.toList.Perm d.toList) (u:h9 q) :
 Calls Tryz.prog 206 #[.slice (some ⟨g,0,none⟩) d.size cap,.func (.func 207) #[] #[]] w fun e w'=>e=.returned (.tuple #[])/\HoldsK qU 6 w' g 0 q/\Touch (· = g) w w':=by
 have k:∀args w,(callFunc 207 args).run Tryz.prog w=.ok (.enter 207 args) w:=enters_of Tryz.func207 (by kernel_rfl) rfl;have b:=AnyQ.slices_SortFunc gN 6 Tryz.isAgg169 Tryz.sizeOf169 qU zC xM cfM iO 207 #[] g 0 cap d w k (fun _ _ _ _ x y=>pU x y _) r s (by omega);refine b.mono ?_;rintro e w' ⟨rfl,c,n,p,a,m,rfl⟩;have o:q.size=d.size:=by simpa using hp.length_eq
 have l:c=q:=uq u (by
  have:=a.2.2;have f:c.extract 0 d.size=c:=by rw [<- a.1];simp
  have h:d.extract 0 d.size=d:=by simp
  rw [f,h] at this;exact this.trans hp.symm) (fun i j hij hj=>by
  have:=m i j (Q2 _) hij (by omega);rwa [vW] at this)
 subst l;exact ⟨rfl,holdsK_grow qU 6 _ _ _ _ _ (by simp [putRowK,Go.Sort.ahead];exact s) (holdsK_putRowK qU 6 _ _ _ _ _ (holdsK_ahead qU 6 _ _ _ _ _ r) a.1),jm⟩
theorem pK (d c:Array Mem) (a:List JV) (b f cap:Nat) (w:World) (lo hi:Nat) (p:HoldsK qU 6 w b f d) (j:b<w.heap.size) (m:d.size<=4294967296) (hp:c.toList.Perm d.toList) (o:h9 c)
 (q:c.size=a.length) (r:∀i (h:i<a.length),Rep w lo hi a[i] c[i]!.val/\a[i].wt<=4294967296/\∀k (s:k<a[i].items.length),uy lo a[i].items[k])
 (l:hi<=w.heap.size) :
 Calls Tryz.prog 150 #[.slice (some ⟨b,f,none⟩) d.size cap] w (wR (c.toList.map (·.name)) a w) :=
 wv d c a b f cap w lo hi p j m (by simpa using hp.length_eq) (fun g cap1 w1 hH1 hg1=>ig g cap1 d c w1 hH1 hg1 m hp o) q r (fun i h e=>by
  have:=o i (i+1) h (by omega);rw [getElem!_pos c i (by omega),getElem!_pos c (i+1) h] at e;rw [e,zJ] at this;cases this) l
def ss (W0:Nat) (w:World) (v:Value) (N:List NJ):Prop :=
 ∃ms,MemsAt W0 w v ms (N.map (·.2))/\ms.map (·.name)=N.map (·.1)
theorem ss.len {c:Nat} {w:World} {v:Value} {N:List NJ} (h:ss c w v N):∃ms,MemsAt c w v ms (N.map (·.2))/\ms.map (·.name)=N.map (·.1)/\ms.length=N.length:=by obtain ⟨ms,b,a⟩:=h;exact ⟨ms,b,a,by have:=Q7 List.length a;simpa using this⟩
theorem rv {α β:Type} (f:α->β):∀ {M L:List β},M.Perm L->∀Z:List α,Z.map f=L->∃Z':List α,Z'.Perm Z/\Z'.map f=M:=by
 intro M L h
 induction h with
 | nil=>intro Z hZ;exact ⟨Z,.refl _,by simpa using hZ⟩
 | @cons x l1 l2 h ih =>
  intro Z hZ;cases Z with
  | nil=>simp at hZ
  | cons z zs => simp only [Y9,V4] at hZ;obtain ⟨Z',e,g⟩:=ih zs hZ.2;exact ⟨z :: Z',e.cons z,by simp [g,hZ.1]⟩
 | @swap x y l =>
  intro Z hZ;cases Z with
  | nil=>simp at hZ
  | cons z zs =>
   cases zs with
   | nil=>simp at hZ
   | cons z2 zs => simp only [Y9,V4] at hZ;exact ⟨z2 :: z :: zs,.swap _ _ _,by simp [hZ]⟩
 | @trans l1 l2 l3 e g ih1 ih2 => intro Z hZ;obtain ⟨j,a,b⟩:=ih2 Z hZ;obtain ⟨i,c,d⟩:=ih1 j b;exact ⟨i,c.trans a,d⟩
theorem ry {ms:List Mem} {c:List ByteArray} (h:qK c=true) (d:ms.map (·.name)=c):h9 ms.toArray:=by
 subst d;intro i j hj hij;have a:j<ms.length:=by simpa using hj
 have b:=dA _ h i j (by simp;omega) (by simp;omega) hij;simp only [List.getElem_toArray];unfold bl;simpa using b
theorem pf {P:Nat} {w:World} {v:Value} {N:List NJ} (M:List NJ) (S:ss P w v N) (Q:∃g cap,v=.slice (some ⟨g,0,none⟩) N.length cap) (T:M.Perm N) (L:qK (M.map (·.1))=true) (W:N.length<=4294967296) (V:∀p ∈ M,p.2.wt<=4294967296) (R:0<P) :
 Calls Tryz.prog 150 #[v] w (wR (M.map (·.1)) (M.map (·.2)) w):=by
 obtain ⟨d,o,J,a⟩:=S.len;obtain ⟨g,cap,rfl⟩:=Q;have B:(N.zip d).length=N.length:=by simp [a]
 obtain ⟨Z,f,e⟩:=rv (fun z:NJ × Mem=>z.1) T (N.zip d) (by rw [List.map_fst_zip];omega);have m:∀z ∈ Z,z.2.name=z.1.1/\Rep w P w.heap.size z.1.2 z.2.val:=fun z hz=>by
  obtain ⟨i,hi,rfl⟩:=Y1 (f.mem_iff.1 hz);have c:i<N.length:=by omega
  rw [List.getElem_zip];have C:=List.getElem_of_eq J (i:=i) (by simp;omega);simp only [N4] at C;obtain ⟨K,H,F,G,_,L⟩:=o.reps i (by simp;omega);simp only [N4] at L;exact ⟨C,Rep.carry F G (fun _ _ _=>rfl) _ _ L⟩
 have I:Z.length=N.length:=by rw [f.length_eq,B]
 have y:M.length=Z.length:=by rw [<- e,J6]
 have b:=o.own;rw [<- a] at b;have u:g<w.heap.size/\HoldsK qU 6 w g 0 d.toArray:=by
  rcases G3 d.length with h|h
  . rcases b.2 with ⟨s,_⟩|⟨E,l,cur,s,Q,hh,hc,hm,hs,ht⟩
    . cases s
    . cases s;refine ⟨qz hh,fun j hj=>?_⟩;simp [h] at hj
  . obtain ⟨E,l,s,A,u⟩:=ly b h;cases s;exact ⟨A,u⟩
 have r:(Z.map (·.2)).map (·.name)=M.map (·.1):=(by rw [List.map_map,<- e,List.map_map];exact List.map_congr_left fun z hz=>(m z hz).1);have q:((N.zip d).map (·.2))=d:=by rw [List.map_snd_zip];omega
 have:=pK d.toArray (Z.map (·.2)).toArray (M.map (·.2)) g 0 cap w P w.heap.size u.2 u.1 (by simp;omega) (by
  have:=f.map (·.2);rw [q] at this;simpa using this) (ry L r) (by simp [y]) (fun i hi=>?_) lz
 . rw [show ((Z.map (·.2)).toArray.toList.map (·.name))=M.map (·.1) from r] at this;rw [show d.toArray.size=N.length by simp [a]] at this;exact this
 . have c:i<Z.length:=by have:=hi;simp at this;omega
   have x:i<M.length:=by omega
   have D:M[i]=Z[i].1:=(by have:=List.getElem_of_eq e (i:=i) (by simpa using c);simpa using this.symm);obtain ⟨_,L⟩:=m Z[i] (J1 c);refine ⟨?_,?_,fun k _=>.inl R⟩
   . rw [getElem!_pos _ i (by simpa using c)];simp only [List.getElem_toArray,N4];rw [D];exact L
   . rw [N4];exact V _ (J1 x)
def aH (b:Bool):Int:=if b then 1 else 0
theorem si (w:World) (lo hi:Nat) (b:Bool):Rep w lo hi (qA b) (.agg #[.int .u8 1,.int .i64 (aH b),.string ⟨#[]⟩,.slice none 0 0,.slice none 0 0]):=by unfold qA Rep aH;exact ⟨none,0,none,0,rfl,Z9 _,Z9 _,.inl rfl,.inl rfl⟩
theorem cO (b:Bool) (w:World):Calls Tryz.prog 202 #[.bool b] w fun e w'=>e=.returned (.agg #[.int .u8 1,.int .i64 (aH b),.string ⟨#[]⟩,.slice none 0 0,.slice none 0 0])/\O5 w w':=by
 have f:=O0 (O5 w (w.alloc (.cells #[.int .u8 0,.int .i64 0,.string ⟨#[]⟩,.slice none 0 0,.slice none 0 0] 25))) O4;have a:=qt w (.int .u8 0) (.int .i64 0) (.string ⟨#[]⟩) (.slice none 0 0) (.slice none 0 0) 25;have c:=U a;obtain ⟨W,d⟩:=O1 (w.alloc (.cells #[.int .u8 0,.int .i64 0,.string ⟨#[]⟩,.slice none 0 0,.slice none 0 0] 25));rw [<- d] at f a c;have g:=U d;obtain ⟨h,i,j,k,l⟩:=rc5 a;obtain ⟨m,o,p,q,r⟩:=rf5 a;simp only [qB] at h i j k l;clear a d;cases b
 all_goals
  go_enter Tryz.func202,Tryz.ntmps202;go_upto_region 1 with fail
  rw [<- g.o];clear g;go_wp2;exact Q3 (J2 Tryz.results202 _ _ w.heap.size 25 _ (0,0) _ rfl (qJ (set5 _ _ _ _ _ c.o)) Q6 rfl (by kernel_rfl)) rfl ⟨rfl,zn _ _ _ _ _ f.o lz⟩
theorem MemsAt.cat {u:Nat} {w w':World} {v v':Value} {ms ms2:List Mem} {r its2:List JV} (h:MemsAt u w v ms r) (B:its2.length=ms2.length) (A:∀i (hi:i<its2.length),∃lo hi',u<=lo/\hi'<=w.heap.size/\(∀b,v.ownBlock=some b->¬(lo<=b/\b<hi'))/\Rep w lo hi' its2[i] (ms2[i]'(by omega)).val)
 (z:w.grownBy w' v.ownBlock) (s:w'.ownsRow u 169 6 v' (ms.length+ms2.length) (zh ms ++ zh ms2)) (y:v'.ownBlock=v.ownBlock\/∃g,v'.ownBlock=some g/\w.heap.size<=g):MemsAt u w' v' (ms ++ ms2) (r ++ its2):=by
 have p:∀ {lo hi:Nat},hi<=w.heap.size->(∀b,v.ownBlock=some b->¬(lo<=b/\b<hi))->∀b,v'.ownBlock=some b->¬(lo<=b/\b<hi):=fun hz hn b hb=>by
  rcases y with e|⟨g,e,hge⟩
  . exact hn b (by rw [<- e];exact hb)
  . rw [e] at hb;simp at hb;omega
 have o:∀ {lo hi:Nat} {it:JV} {x:Value},hi<=w.heap.size->(∀b,v.ownBlock=some b->¬(lo<=b/\b<hi))->Rep w lo hi it x->Rep w' lo hi it x:=fun hz hn A =>
  Rep.carry lz lz (fun b hb1 hb2=>z.block b (by omega) (fun e=>hn b e.symm ⟨hb1,hb2⟩)) _ _ A
 have l:=h.len;refine ⟨?_,by simp [l,B],fun i hi'=>?_⟩
 . have e:zh (ms ++ ms2)=zh ms ++ zh ms2:=by simp [zh]
   rw [e,V6];exact s
 . by_cases e:i<r.length
   . obtain ⟨f,a,m,d,j,c⟩:=h.reps i e;refine ⟨f,a,m,Z5 d z.size,p d j,?_⟩;rw [G1 e,G1 (by omega)];exact o d j c
   . have k:i - r.length<its2.length:=by simp at hi';omega
     obtain ⟨f,a,m,d,j,c⟩:=A (i - r.length) k;refine ⟨f,a,m,Z5 d z.size,p d j,?_⟩;rw [N2 (by omega),N2 (by omega)];have q:i - ms.length=i - r.length:=by omega
     simp only [q];exact o d j c
def sQ (t:Int) (l:List ByteArray) (lo:Nat) (w:World) (x:Value):Prop :=
 ∃g ai ci,x=.slice (some ⟨g,0,none⟩) 2 2/\lo<=g/\w.heap[g]?=some (.cells #[.string ⟨#[107,101,121,105,100,115]⟩,.int .u8 4,.int .i64 0,.string ⟨#[]⟩,.slice none 0 0,.slice ai l.length ci,.string ⟨#[116,104,114,101,115,104,111,108,100]⟩,.int .u8 2,.int .i64 t,.string ⟨#[]⟩,.slice none 0 0,.slice none 0 0] 169 (0,0))/\Rep w lo g (qm l) (.agg #[.int .u8 4,.int .i64 0,.string ⟨#[]⟩,.slice none 0 0,.slice ai l.length ci])
def MP.memb (t:Int) (l:List ByteArray) (lo:Nat):MP:=⟨sQ t l lo,fun _ _ _ hb ⟨g,ai,ci,e,h1,h2,h3⟩=>⟨g,ai,ci,e,h1,by rw [hb.block _ (qz h2)];exact h2,Rep.carry lz lz (fun b _ hbg=>hb.block b (za0 hbg (qz h2))) _ _ h3⟩⟩
theorem mQ (t:Int) (l:List ByteArray) (a:Option Addr) (c lo:Nat) (w:World) (k:lo<=w.heap.size) (m:qy w 0 w.heap.size a l) (o:l.length<=4294967296) :
 Calls Tryz.prog 200 #[.agg #[.int .i64 t,.slice a l.length c]] w fun e w'=>∃y,e=.returned y/\sQ t l lo w' y/\O5 w w':=by
 refine (mq t l a c w m o).mono ?_;rintro e w' ⟨g,b,d,rfl,h,j,f,i⟩;exact ⟨_,rfl,⟨g,b,d,rfl,by omega,h,Rep.carry k lz (fun _ _ _=>rfl) _ _ j⟩,f⟩
def vY (ai:Option Addr) (n ci:Nat):Mem:=⟨qp,4,0,⟨#[]⟩,none,0,0,ai,n,ci⟩
theorem fm {t:Int} {l:List ByteArray} {lo g:Nat} {ai:Option Addr} {ci:Nat} {w:World} (d:lo<=g) (c:w.heap[g]?=some (.cells #[.string ⟨#[107,101,121,105,100,115]⟩,.int .u8 4,.int .i64 0,.string ⟨#[]⟩,.slice none 0 0,.slice ai l.length ci,.string ⟨#[116,104,114,101,115,104,111,108,100]⟩,.int .u8 2,.int .i64 t,.string ⟨#[]⟩,.slice none 0 0,.slice none 0 0] 169 (0,0))) (e:Rep w lo g (qm l) (.agg #[.int .u8 4,.int .i64 0,.string ⟨#[]⟩,.slice none 0 0,.slice ai l.length ci])) :
 MemsAt lo w (.slice (some ⟨g,0,none⟩) 2 2) [vY ai l.length ci,kg thrN t] [qm l,qZ t]:=by
 refine ⟨⟨rfl,.inr ⟨g,2,_,rfl,d,c,Z9 _,by unfold maxLen;omega,rfl,?_⟩⟩,rfl,fun i hi=>?_⟩
 . simp [zh,qU,vY,kg,qp,thrN]
 . have a:=qz c
   match i,hi with
   | 0,_=>exact ⟨lo,g,Z9 _,by omega,fun b hb=>by simp [Value.ownBlock] at hb;omega,e⟩
   | 1,_=>exact ⟨lo,g,Z9 _,by omega,fun b hb=>by simp [Value.ownBlock] at hb;omega,dp _ _ _ _⟩
theorem j4 {l:List ByteArray} (h:∀x ∈ l,x.size<=1000000) (d:l.length<=1000):(qm l).wt<=4294967296:=by
 have:∀l:List ByteArray,(∀x ∈ l,x.size<=1000000)->JV.wts (l.map txtJ)<=1000001 * l.length:=fun l=>by
  induction l with
  | nil=>intro _;simp [JV.wts]
  | cons x r ih => intro h;have a:=h x (V7 ..);have c:=ih fun y hy=>h y (Y4 _ hy);rw [Y9,JV.wts,jf,G6];omega
 have a:=this l h;have b:(qm l).wt=1+JV.wts (l.map txtJ):=(by show 1+(⟨#[]⟩:ByteArray).size+ql [] + JV.wts (l.map txtJ)=_;rfl);omega
theorem tp {α:Type} (a b c d e:α):[a,b,c,d,e].Perm [a,e,b,d,c]:=by refine List.Perm.cons a ?_;have f:[b,c,d,e].Perm ([e] ++ [b,c,d]):=List.perm_append_comm (l₁:=[b,c,d]) (l₂:=[e]);refine f.trans ?_;exact (List.Perm.cons e (List.Perm.cons b (List.Perm.swap d c [])))
theorem mZ (b:Bool):(qA b).wt<=4294967296:=by cases b <;> (rw [JV.wt_eq];decide)
def kY (v:JV) (w:World) (e:Ending) (w':World):Prop :=
 ∃an cn ai ci,e=.returned (.agg #[.int .u8 5,.int .i64 0,.string ⟨#[]⟩,.slice an v.names.length cn,.slice ai v.items.length ci])/\Rep w' w.heap.size w'.heap.size v (.agg #[.int .u8 5,.int .i64 0,.string ⟨#[]⟩,.slice an v.names.length cn,.slice ai v.items.length ci])/\O5 w w'
theorem fc (ms:List Mem):∀v ∈ zh ms,v.oneCell'=true:=by intro v hv;unfold zh at hv;obtain ⟨m,_,a⟩:=List.mem_flatMap.1 hv;exact xM m v a
theorem rg {p:ByteArray} (h:q8 p=true):p.size<=256:=by unfold q8 at h;simp only [Q0,Z7] at h;exact h.1.1.2
theorem sZ {p:ByteArray} (h:preB p=true):p.size<=64:=by unfold preB at h;simp only [Q0,Z7] at h;exact h.1.2
theorem vG {x:DelegV} (h:qV x=true):x.name.size<=64/\(x.au.ids.length<=4294967296/\x.au.ids.length<=16/\∀s ∈ x.au.ids,s.size<=1000000)/\(x.paths.length<=32/\∀s ∈ x.paths,s.size<=1000000)/\(x.pres.length<=32/\∀s ∈ x.pres,s.size<=1000000):=by
 obtain ⟨c,-,d,a⟩:=jA h;have b:=xV d;refine ⟨g8 c,⟨by omega,b.1.2,fun s hs=>by have:=(vM (jN _ _ b.2.2 s hs)).2;omega⟩,?_,?_⟩
 . rcases a with ⟨-,-,h5,h6⟩|⟨h5,-⟩
   . exact ⟨h5,fun s hs=>by have:=rg (X3.1 h6 s hs);omega⟩
   . rw [h5];exact ⟨by simp,by simp⟩
 . rcases a with ⟨-,h5,-⟩|⟨-,-,h5,h6⟩
   . rw [h5];exact ⟨by simp,by simp⟩
   . exact ⟨h5,fun s hs=>by have:=sZ (X3.1 h6 s hs);omega⟩
theorem gd (nm:ByteArray) (f3:Int) (ids:List ByteArray) (tm:Bool) (ps qs:List ByteArray) (ia pa qa:Option Addr) (ic pc qc:Nat) (w:World) (hI:DelegIn w 0 w.heap.size ⟨nm,⟨f3,ids⟩,tm,ps,qs⟩ ia pa qa) (hm:qV ⟨nm,⟨f3,ids⟩,tm,ps,qs⟩=true) :
 Calls Tryz.prog 147 #[.agg #[.string nm,.int .i64 f3,.slice ia ids.length ic,.bool tm,.slice pa ps.length pc,.slice qa qs.length qc]] w (kY (qQ ⟨nm,⟨f3,ids⟩,tm,ps,qs⟩) w):=by
 have a:=U (vG hm);dsimp only at a;obtain ⟨W,hW⟩:=O1 ((w.alloc (.cells #[.string nm,.int .i64 f3,.slice ia ids.length ic,.bool tm,.slice pa ps.length pc,.slice qa qs.length qc] 41)).alloc (.cells #[.int .u8 0,.int .i64 0,.string ⟨#[]⟩,.slice none 0 0,.slice none 0 0] 25));have e0:(w.alloc (.cells #[.string nm,.int .i64 f3,.slice ia ids.length ic,.bool tm,.slice pa ps.length pc,.slice qa qs.length qc] 41)).heap.size=w.heap.size+1:=by simp
 have A:O5 w W:=by rw [hW];exact (O4).alloc (by simp) _
 have hx:W.heap[w.heap.size]?=some (.cells #[.string nm,.int .i64 f3,.slice ia ids.length ic,.bool tm,.slice pa ps.length pc,.slice qa qs.length qc] 41 (0,0)):=by rw [hW];exact ze w _ _
 have c3:W.rowIs (w.heap.size+1) 25 5 (qB (.int .u8 0) (.int .i64 0) (.string ⟨#[]⟩) (.slice none 0 0) (.slice none 0 0)):=(by have:=qt (w.alloc (.cells #[.string nm,.int .i64 f3,.slice ia ids.length ic,.bool tm,.slice pa ps.length pc,.slice qa qs.length qc] 41)) (.int .u8 0) (.int .i64 0) (.string ⟨#[]⟩) (.slice none 0 0) (.slice none 0 0) 25;rw [e0,<- hW] at this;exact this);have HC:=U (show ∀w':World,O5 W w'->w'.cell? ⟨w.heap.size,0,none⟩=some (.string nm)/\w'.cell? ⟨w.heap.size,1,none⟩=some (.int .i64 f3)/\w'.cell? ⟨w.heap.size,2,none⟩=some (.slice ia ids.length ic)/\w'.cell? ⟨w.heap.size,3,none⟩=some (.bool tm)/\w'.cell? ⟨w.heap.size,4,none⟩=some (.slice pa ps.length pc)/\w'.cell? ⟨w.heap.size,5,none⟩=some (.slice qa qs.length qc) from fun w' h=>by
  have y:=(h.block _ (qz hx)).trans hx;exact ⟨qq y rfl,qq y rfl,qq y rfl,qq y rfl,qq y rfl,qq y rfl⟩)
 have b1:=U c3;have HB:=U A;have b2:=O0 (w.heap.size+2<=W.heap.size) c3.lt;have HW:=U hW;have HI:=O0 (∀w':World,O5 W w'->DelegIn w' 0 w'.heap.size ⟨nm,⟨f3,ids⟩,tm,ps,qs⟩ ia pa qa) (fun w' h=>hI.below (A.trans (h.mono A.size)) lz lz (Z5 A.size h.size));have e5:=O0 (∀w':World,O5 W w'->_) (fun w' h=>mQ f3 ids ia ic W.heap.size w' h.size (HI.o w' h).ids a.o.2.1.1);have e8:=O0 (∀w':World,_) (fun w'=>(kC nm w').mono fun e w2 (h:e=.returned (.agg #[.int .u8 3,.int .i64 0,.string nm,.slice none 0 0,.slice none 0 0])/\w2=w'.alloc (.cells #[.int .u8 3,.int .i64 0,.string nm,.slice none 0 0,.slice none 0 0] 25))=>show e=.returned (.agg #[.int .u8 3,.int .i64 0,.string nm,.slice none 0 0,.slice none 0 0])/\O5 w' w2 from ⟨h.1,by rw [h.2];exact O4⟩);have d2:=U (fun w'=>cO tm w');have e7:=O0 (∀w':World,O5 W w'->_) (fun w' h=>fC ps pa pc w' (HI.o w' h).paths (by have:=a.o.2.2.1.1;omega));have e6:=O0 (∀w':World,O5 W w'->_) (fun w' h=>fC qs qa qc w' (HI.o w' h).pres (by have:=a.o.2.2.2.1;omega));have HJ:=O0 (qQ ⟨nm,⟨f3,ids⟩,tm,ps,qs⟩=z7 (zG ⟨nm,⟨f3,ids⟩,tm,ps,qs⟩)) rfl;obtain ⟨J,hJ⟩:=O1 (qQ ⟨nm,⟨f3,ids⟩,tm,ps,qs⟩);rw [<- hJ] at HJ ⊢;obtain ⟨z,c0⟩:=O1 (aH tm);have e3:=U c0;rw [<- c0] at d2;clear hW A hx c3 e0 hI hm hJ c0;obtain ⟨q0,q1,q2,q3,q4,q5⟩:=HC.o W (Z0 _ _);go_enter Tryz.func147,Tryz.ntmps147;go_upto_region 1 with fail
 rw [<- HW.o];clear HW q0 q1 q2 q3 q4 q5;obtain ⟨V,hV⟩:∃V:List MP,V=[.con (.pointer (some ⟨w.heap.size,1,none⟩)),.con (.agg #[.int .i64 f3,.slice ia ids.length ic]),.memb f3 ids W.heap.size,.con (.pointer (some ⟨w.heap.size,0,none⟩)),.con (.string nm),.con (.agg #[.int .u8 3,.int .i64 0,.string nm,.slice none 0 0,.slice none 0 0]),.con (.agg #[.string ⟨#[110,97,109,101]⟩,.int .u8 3,.int .i64 0,.string nm,.slice none 0 0,.slice none 0 0]),.con (.pointer (some ⟨w.heap.size,3,none⟩)),.con (.bool tm),.con (.agg #[.int .u8 1,.int .i64 z,.string ⟨#[]⟩,.slice none 0 0,.slice none 0 0]),.con (.agg #[.string ⟨#[116,101,114,109,105,110,97,116,105,110,103]⟩,.int .u8 1,.int .i64 z,.string ⟨#[]⟩,.slice none 0 0,.slice none 0 0]),.row W.heap.size 2 169 #[.string ⟨#[110,97,109,101]⟩,.int .u8 3,.int .i64 0,.string nm,.slice none 0 0,.slice none 0 0,.string ⟨#[116,101,114,109,105,110,97,116,105,110,103]⟩,.int .u8 1,.int .i64 z,.string ⟨#[]⟩,.slice none 0 0,.slice none 0 0]]:=⟨_,rfl⟩;have f:=U hV;clear hV;refine qM 12 (fun d a' w'=>∃x6 x7 x8 x9 x10 x11 x12 x13 x14 x15 x16 x17,a'=⟨#[.agg #[.string nm,.int .i64 f3,.slice ia ids.length ic,.bool tm,.slice pa ps.length pc,.slice qa qs.length qc],.pointer (some ⟨w.heap.size,0,none⟩),.pointer (some ⟨w.heap.size+1,0,none⟩),undef,undef,undef,x6,x7,x8,x9,x10,x11,x12,x13,x14,x15,x16,x17,undef,undef,undef,undef,undef,undef,undef,undef,undef,undef,undef,undef,undef,undef,undef,undef,undef,undef,undef,undef,undef,undef,undef,undef,undef],[]⟩/\za W V d w' [x6,x7,x8,x9,x10,x11,x12,x13,x14,x15,x16,x17]) (by kernel_rfl) (by kernel_rfl) ?first ?step ?last
 case first=>exact ⟨_,_,_,_,_,_,_,_,_,_,_,_,rfl,za.first _ _ _ (by rw [f.o];rfl)⟩
 case step =>
  rintro d a' w' ⟨x6,x7,x8,x9,x10,x11,x12,x13,x14,x15,x16,x17,rfl,h⟩ q hq hn hw;rcases q with _|_|_|_|_|_|_|_|_|_|_|_|q
  . refine Z3 rfl fun K hK=>?_;go_simp;exact hK _ _ ⟨_,_,_,_,_,_,_,_,_,_,_,_,rfl,h.sameC 0 _ f rfl⟩
  . obtain rfl:=h.cn hw f 0 .data;obtain ⟨q0,q1,q2,q3,q4,q5⟩:=HC.o w' h.1;refine Z3 rfl fun K hK=>?_;go_simp;exact hK _ _ ⟨_,_,_,_,_,_,_,_,_,_,_,_,rfl,h.sameC 1 _ f rfl⟩
  . obtain rfl:=h.cn hw f 1 .data;obtain ⟨q0,q1,q2,q3,q4,q5⟩:=HC.o w' h.1;refine Z3 rfl fun K hK=>?_;go_simp;refine (e5.o w' h.1).mono ?_;rintro e w2 ⟨y,rfl,hy,a3⟩;exact hK _ _ ⟨_,_,_,_,_,_,_,_,_,_,_,_,rfl,h.did a3 2 _ (.memb f3 ids W.heap.size) (by rw [f.o];rfl) hy⟩
  . refine Z3 rfl fun K hK=>?_;go_simp;exact hK _ _ ⟨_,_,_,_,_,_,_,_,_,_,_,_,rfl,h.sameC 3 _ f rfl⟩
  . obtain rfl:=h.cn hw f 3 .data;obtain ⟨q0,q1,q2,q3,q4,q5⟩:=HC.o w' h.1;refine Z3 rfl fun K hK=>?_;go_simp;exact hK _ _ ⟨_,_,_,_,_,_,_,_,_,_,_,_,rfl,h.sameC 4 _ f rfl⟩
  . obtain rfl:=h.cn hw f 4 .data;obtain ⟨q0,q1,q2,q3,q4,q5⟩:=HC.o w' h.1;refine Z3 rfl fun K hK=>?_;go_simp;refine (e8.o w').mono ?_;rintro e w2 ⟨rfl,a3⟩;exact hK _ _ ⟨_,_,_,_,_,_,_,_,_,_,_,_,rfl,h.didC a3 5 _ f rfl⟩
  . obtain rfl:=h.cn hw f 5 .data;refine Z3 rfl fun K hK=>?_;go_simp;exact hK _ _ ⟨_,_,_,_,_,_,_,_,_,_,_,_,rfl,h.sameC 6 _ f rfl⟩
  . refine Z3 rfl fun K hK=>?_;go_simp;exact hK _ _ ⟨_,_,_,_,_,_,_,_,_,_,_,_,rfl,h.sameC 7 _ f rfl⟩
  . obtain rfl:=h.cn hw f 7 .data;obtain ⟨q0,q1,q2,q3,q4,q5⟩:=HC.o w' h.1;refine Z3 rfl fun K hK=>?_;go_simp;exact hK _ _ ⟨_,_,_,_,_,_,_,_,_,_,_,_,rfl,h.sameC 8 _ f rfl⟩
  . obtain rfl:=h.cn hw f 8 .data;obtain ⟨q0,q1,q2,q3,q4,q5⟩:=HC.o w' h.1;refine Z3 rfl fun K hK=>?_;go_simp;refine (d2.o w').mono ?_;rintro e w2 ⟨rfl,a3⟩;exact hK _ _ ⟨_,_,_,_,_,_,_,_,_,_,_,_,rfl,h.didC a3 9 _ f rfl⟩
  . obtain rfl:=h.cn hw f 9 .data;refine Z3 rfl fun K hK=>?_;go_simp;exact hK _ _ ⟨_,_,_,_,_,_,_,_,_,_,_,_,rfl,h.sameC 10 _ f rfl⟩
  . obtain rfl:=h.cn hw f 6 .data;obtain rfl:=h.cn hw f 10 .data;refine Z3 rfl fun K hK=>?_;go_simp;exact hK _ _ ⟨_,_,_,_,_,_,_,_,_,_,_,_,rfl,h.new _ 11 _ (.row W.heap.size 2 169 #[.string ⟨#[110,97,109,101]⟩,.int .u8 3,.int .i64 0,.string nm,.slice none 0 0,.slice none 0 0,.string ⟨#[116,101,114,109,105,110,97,116,105,110,103]⟩,.int .u8 1,.int .i64 z,.string ⟨#[]⟩,.slice none 0 0,.slice none 0 0]) (by rw [f.o];rfl) (zM.made _ h.1.size)⟩
  . omega
 case last =>
  rintro d a' w' a2 ⟨x6,x7,x8,x9,x10,x11,x12,x13,x14,x15,x16,x17,rfl,h⟩;have d7:=h.1;have f0:=h.get 2 (a2 _ (by omega)) (.memb f3 ids W.heap.size) (by rw [f.o];rfl) _ rfl;obtain ⟨e9,f2,rfl,e1⟩:=h.get 11 (a2 _ (by omega)) (.row W.heap.size 2 169 #[.string ⟨#[110,97,109,101]⟩,.int .u8 3,.int .i64 0,.string nm,.slice none 0 0,.slice none 0 0,.string ⟨#[116,101,114,109,105,110,97,116,105,110,103]⟩,.int .u8 1,.int .i64 z,.string ⟨#[]⟩,.slice none 0 0,.slice none 0 0]) (by rw [f.o];rfl) _ rfl;have e4:=U d7;clear h a2 d7 f;have a4:=e4.o;obtain ⟨g,ai,ci,rfl,d5,c1,d6⟩:=f0;have b5:=U (fm d5 c1 d6);have b6:=O0 (w'.ownsRow W.heap.size 169 6 (.slice (some ⟨g,0,none⟩) 2 2) 2 (zh [vY ai ids.length ci,kg thrN f3])) b5.o.own;have e2:=U a4;have f1:=U (qz c1);have c4:W.heap.size<=w'.heap.size:=a4.size;clear a4 d5 c1 d6;obtain ⟨i1,c2,c7,c9,d0⟩:=V2 kM;simp only [List.drop_succ_cons,List.drop_zero];go_upto_region 2 with (at_builtin;refine X9 _ rfl (.tmp 8) (.tmp 17) 170 rfl W.heap.size 169 i1 _ 6 96 G4 c2 c7 c9 d0 rfl (by omega) (.slice (some ⟨g,0,none⟩) 2 2) 2 (zh [vY ai ids.length ci,kg thrN f3]) rfl b6.o ⟨e9,0,none⟩ 2 2 (zh [jC zb nm,(⟨trmN,1,z,⟨#[]⟩,none,0,0,none,0,0⟩:Mem)]) rfl rfl (J5 (cs:=(zh [jC zb nm,(⟨trmN,1,z,⟨#[]⟩,none,0,0,none,0,0⟩:Mem)]).toArray) (t:=169) (fr:=(0,0)) e1) (fc _) (by omega) (by unfold maxLen;omega) (by omega) (by have:=qz e1;omega) w'.heap.size (by omega) ?_;intro g2 cap2 w4 hown4 hgrow4 hat4 hlt4;have d3:=U hown4;have b0:=U hgrow4;have d1:=U hat4;clear hown4 hgrow4 hat4)
  have x:=U (below_grown e2.o c4 b0.o (fun b A=>(b6.o.lt b A).1));have S:=U (show MemsAt W.heap.size w4 (.slice (some ⟨g2,0,none⟩) 4 cap2) [vY ai ids.length ci,kg thrN f3,jC zb nm,(⟨trmN,1,z,⟨#[]⟩,none,0,0,none,0,0⟩:Mem)] [qm ids,qZ f3,txtJ nm,qA tm] from b5.o.cat (ms2:=[jC zb nm,(⟨trmN,1,z,⟨#[]⟩,none,0,0,none,0,0⟩:Mem)]) (its2:=[txtJ nm,qA tm]) rfl (fun i hi=>by
   match i,hi with
   | 0,_=>exact ⟨W.heap.size,W.heap.size,Z9 _,c4,fun b A=>by omega,vH _ _ _ _⟩
   | 1,_=>exact ⟨W.heap.size,W.heap.size,Z9 _,c4,fun b A=>by omega,by have:=si w' W.heap.size W.heap.size tm;rw [<- e3.o] at this;exact this⟩) b0.o d3.o (by
   rcases d1.o with h|h
   . exact .inl h.symm
   . exact .inr ⟨g2,rfl,by omega⟩))
  have d4:=O0 (w'.heap.size<=w4.heap.size/\g2<w4.heap.size) (⟨b0.o.size,(S.o.own.lt g2 rfl).2⟩);clear d3 b0 d1 b5 b6;obtain ⟨q0,q1,q2,q3,q4,q5⟩:=HC.o w4 x.o;have b3:W.heap.size<=w4.heap.size:=x.o.size;by_cases hps:ps=[]
  . have R:=O0 (J=z7 [(qp,qm ids),(zb,txtJ nm),(zY,qm qs),(trmN,qA tm),(thrN,qZ f3)]) (by rw [HJ.o];unfold zG;rw [Z6 (by simp [hps])]);have n0:((0:Int)<(ps.length:Int))=False:=by subst hps;simp
    have n1:decide ((0:Int)<(ps.length:Int))=false:=by subst hps;rfl
    have n2:¬0<ps.length:=by subst hps;simp
    clear hps;go_upto_region 4 with fail
    go_wp2_with fail
    refine (e6.o w4 x.o).mono ?_;clear q0 q1 q2 q3 q4 q5;rintro r u ⟨a5,c5,rfl,a7,o⟩;have Z:=U a7;have Q:=U o;have E:=U (S.o.below o);have F:=O0 (u.ownsRow W.heap.size 169 6 (.slice (some ⟨g2,0,none⟩) 4 cap2) 4 (zh [vY ai ids.length ci,kg thrN f3,jC zb nm,(⟨trmN,1,z,⟨#[]⟩,none,0,0,none,0,0⟩:Mem)])) E.o.own;have c6:W.heap.size<=u.heap.size:=Z5 b3 o.size;clear a7 o;go_upto_region 5 with (at_builtin;refine X9 _ rfl (.tmp 30) (.tmp 35) 170 rfl W.heap.size 169 i1 _ 6 96 G4 c2 c7 c9 d0 rfl (by omega) (.slice (some ⟨g2,0,none⟩) 4 cap2) 4 (zh [vY ai ids.length ci,kg thrN f3,jC zb nm,(⟨trmN,1,z,⟨#[]⟩,none,0,0,none,0,0⟩:Mem)]) rfl (F.o.alloc _) ⟨u.heap.size,0,none⟩ 1 1 (qU (⟨zY,4,0,⟨#[]⟩,none,0,0,a5,qs.length,c5⟩:Mem)) rfl rfl (J5 (cs:=#[.string ⟨#[112,97,116,104,95,104,97,115,104,95,112,114,101,102,105,120,101,115]⟩,.int .u8 4,.int .i64 0,.string ⟨#[]⟩,.slice none 0 0,.slice a5 qs.length c5]) (t:=169) (fr:=(0,0)) (Z4 u _)) (xM _) (by omega) (by unfold maxLen;omega) (by omega) (by simp;omega) (u.heap.size+1) (by simp) ?_;intro g3 cap3 w6 hown6 hgrow6 hat6 hlt6;have Y:=U hown6;have D:=U hgrow6;have P:=U hat6;clear hown6 hgrow6 hat6)
    have s:O5 u (u.alloc (.cells #[.string ⟨#[112,97,116,104,95,104,97,115,104,95,112,114,101,102,105,120,101,115]⟩,.int .u8 4,.int .i64 0,.string ⟨#[]⟩,.slice none 0 0,.slice a5 qs.length c5] 169)):=O4;have C:=U (below_grown ((x.o.trans (Q.o.mono x.o.size)).trans (s.mono c6)) (by simp;omega) D.o (fun b A=>(F.o.lt b A).1));have T:=U (show MemsAt W.heap.size w6 (.slice (some ⟨g3,0,none⟩) 5 cap3) ([vY ai ids.length ci,kg thrN f3,jC zb nm,(⟨trmN,1,z,⟨#[]⟩,none,0,0,none,0,0⟩:Mem)] ++ [(⟨zY,4,0,⟨#[]⟩,none,0,0,a5,qs.length,c5⟩:Mem)]) ([qm ids,qZ f3,txtJ nm,qA tm] ++ [qm qs]) from (E.o.below s).snoc (⟨zY,4,0,⟨#[]⟩,none,0,0,a5,qs.length,c5⟩:Mem) (qm qs) w4.heap.size u.heap.size b3 (by simp) (fun b A=>by simp only [Value.ownBlock,Y2] at A;have:=d4.o;omega) (Z.o.below s lz lz lz) D.o Y.o (by
     rcases P.o with h|h
     . exact .inl h.symm
     . exact .inr ⟨g3,rfl,by simp;omega⟩))
    have b9:=U b2.o;replace HJ:=U R.o;clear F Y D P S E Q Z s R;have X:=U (pf (v:=.slice (some ⟨g3,0,none⟩) 5 cap3) [(qp,qm ids),(zb,txtJ nm),(zY,qm qs),(trmN,qA tm),(thrN,qZ f3)] (N:=[(qp,qm ids),(thrN,qZ f3),(zb,txtJ nm),(trmN,qA tm),(zY,qm qs)]) ⟨_,by simpa using T.o,by simp [vY,kg,jC]⟩ ⟨_,_,rfl⟩ (tp _ _ _ _ _) zR.2.1 (by simp) (fun p hp=>by
     simp only [Y5,Y7,M3] at hp;rcases hp with rfl|rfl|rfl|rfl|rfl
     . exact j4 a.o.2.1.2.2 (by have:=a.o.2.1.2.1;omega)
     . show (txtJ nm).wt<=4294967296;rw [jf];have:=a.o.1;omega
     . exact j4 a.o.2.2.2.2 (by have:=a.o.2.2.2.1;omega)
     . exact mZ tm
     . show (qZ _).wt<=4294967296;rw [gn];decide) (by have:=b9.o;omega))
    clear T;go_wp2_with fail;refine X.o.mono ?_;clear X;rintro e M ⟨H,L,G,I,rfl,a8,a6⟩;have l:O5 W M:=O2 C a6;obtain ⟨W9,m⟩:=O1 (M.alloc (.cells #[.int .u8 5,.int .i64 0,.string ⟨#[]⟩,.slice H 5 L,.slice G 5 I] 25));have k:=O7 m
    have a9:=O9 m
    have c:=qw (l.trans (k.mono l.size)) b1.o b1.o.lt;have b8:=U c;have b7:=U (Rep.below a8 (B:=M.heap.size) k lz lz k.size);have a1:=O0 (w.heap.size+2<=w6.heap.size) (Z5 b2.o C.o.size);have b4:=U (HB.o.trans ((l.trans (k.mono l.size)).mono HB.o.size));obtain ⟨z0,z1,z2,z3,z4⟩:=bx5 a9;obtain ⟨t0,t1,t2,t3,t4⟩:=rc5 c;obtain ⟨s0,s1,s2,s3,s4⟩:=rf5 c;simp only [qB] at t0 t1 t2 t3 t4;have a0:=U m;clear c a8 a6 l k a9 m;go_upto_region 6 with fail
    rw [<- a0.o];clear a0;go_wp2;refine Q3 (J2 Tryz.results147 _ _ (w.heap.size+1) 25 _ (0,0) _ rfl (qJ (set5 _ _ _ _ _ b8.o)) Q6 rfl (by kernel_rfl)) rfl ?_;rw [HJ.o];refine ⟨H,L,G,I,rfl,?_,zn _ _ _ _ _ b4.o (by omega)⟩;exact Rep.carry (by have:=a1.o;omega) (show W9.heap.size<=_ by simp [World.setCell]) (fun j hj _=>js _ _ _ _ _ (by have:=a1.o;omega)) _ _ b7.o
  . have R:=O0 (J=z7 [(qp,qm ids),(zb,txtJ nm),(xm,qm ps),(trmN,qA tm),(thrN,qZ f3)]) (by rw [HJ.o];unfold zG;rw [Q1 hps]);have n2:0<ps.length:=M2.2 hps;have n1:decide ((0:Int)<(ps.length:Int))=true:=by rw [Z7];omega
    have n3:(0:Int)<(ps.length:Int):=by omega
    clear hps;go_upto_region 3 with fail
    go_wp2_with fail
    refine (e7.o w4 x.o).mono ?_;clear q0 q1 q2 q3 q4 q5;rintro r u ⟨a5,c5,rfl,a7,o⟩;have Z:=U a7;have Q:=U o;have E:=U (S.o.below o);have F:=O0 (u.ownsRow W.heap.size 169 6 (.slice (some ⟨g2,0,none⟩) 4 cap2) 4 (zh [vY ai ids.length ci,kg thrN f3,jC zb nm,(⟨trmN,1,z,⟨#[]⟩,none,0,0,none,0,0⟩:Mem)])) E.o.own;have c6:W.heap.size<=u.heap.size:=Z5 b3 o.size;clear a7 o;go_upto_region 5 with (at_builtin;refine X9 _ rfl (.tmp 23) (.tmp 28) 170 rfl W.heap.size 169 i1 _ 6 96 G4 c2 c7 c9 d0 rfl (by omega) (.slice (some ⟨g2,0,none⟩) 4 cap2) 4 (zh [vY ai ids.length ci,kg thrN f3,jC zb nm,(⟨trmN,1,z,⟨#[]⟩,none,0,0,none,0,0⟩:Mem)]) rfl (F.o.alloc _) ⟨u.heap.size,0,none⟩ 1 1 (qU (⟨xm,4,0,⟨#[]⟩,none,0,0,a5,ps.length,c5⟩:Mem)) rfl rfl (J5 (cs:=#[.string ⟨#[112,97,116,104,115]⟩,.int .u8 4,.int .i64 0,.string ⟨#[]⟩,.slice none 0 0,.slice a5 ps.length c5]) (t:=169) (fr:=(0,0)) (Z4 u _)) (xM _) (by omega) (by unfold maxLen;omega) (by omega) (by simp;omega) (u.heap.size+1) (by simp) ?_;intro g3 cap3 w6 hown6 hgrow6 hat6 hlt6;have Y:=U hown6;have D:=U hgrow6;have P:=U hat6;clear hown6 hgrow6 hat6)
    have s:O5 u (u.alloc (.cells #[.string ⟨#[112,97,116,104,115]⟩,.int .u8 4,.int .i64 0,.string ⟨#[]⟩,.slice none 0 0,.slice a5 ps.length c5] 169)):=O4;have C:=U (below_grown ((x.o.trans (Q.o.mono x.o.size)).trans (s.mono c6)) (by simp;omega) D.o (fun b A=>(F.o.lt b A).1));have T:=U (show MemsAt W.heap.size w6 (.slice (some ⟨g3,0,none⟩) 5 cap3) ([vY ai ids.length ci,kg thrN f3,jC zb nm,(⟨trmN,1,z,⟨#[]⟩,none,0,0,none,0,0⟩:Mem)] ++ [(⟨xm,4,0,⟨#[]⟩,none,0,0,a5,ps.length,c5⟩:Mem)]) ([qm ids,qZ f3,txtJ nm,qA tm] ++ [qm ps]) from (E.o.below s).snoc (⟨xm,4,0,⟨#[]⟩,none,0,0,a5,ps.length,c5⟩:Mem) (qm ps) w4.heap.size u.heap.size b3 (by simp) (fun b A=>by simp only [Value.ownBlock,Y2] at A;have:=d4.o;omega) (Z.o.below s lz lz lz) D.o Y.o (by
     rcases P.o with h|h
     . exact .inl h.symm
     . exact .inr ⟨g3,rfl,by simp;omega⟩))
    have b9:=U b2.o;replace HJ:=U R.o;clear F Y D P S E Q Z s R;have X:=U (pf (v:=.slice (some ⟨g3,0,none⟩) 5 cap3) [(qp,qm ids),(zb,txtJ nm),(xm,qm ps),(trmN,qA tm),(thrN,qZ f3)] (N:=[(qp,qm ids),(thrN,qZ f3),(zb,txtJ nm),(trmN,qA tm),(xm,qm ps)]) ⟨_,by simpa using T.o,by simp [vY,kg,jC]⟩ ⟨_,_,rfl⟩ (tp _ _ _ _ _) zR.1 (by simp) (fun p hp=>by
     simp only [Y5,Y7,M3] at hp;rcases hp with rfl|rfl|rfl|rfl|rfl
     . exact j4 a.o.2.1.2.2 (by have:=a.o.2.1.2.1;omega)
     . show (txtJ nm).wt<=4294967296;rw [jf];have:=a.o.1;omega
     . exact j4 a.o.2.2.1.2 (by have:=a.o.2.2.1.1;omega)
     . exact mZ tm
     . show (qZ _).wt<=4294967296;rw [gn];decide) (by have:=b9.o;omega))
    clear T;go_wp2_with fail;refine X.o.mono ?_;clear X;rintro e M ⟨H,L,G,I,rfl,a8,a6⟩;have l:O5 W M:=O2 C a6;obtain ⟨W9,m⟩:=O1 (M.alloc (.cells #[.int .u8 5,.int .i64 0,.string ⟨#[]⟩,.slice H 5 L,.slice G 5 I] 25));have k:=O7 m
    have a9:=O9 m
    have c:=qw (l.trans (k.mono l.size)) b1.o b1.o.lt;have b8:=U c;have b7:=U (Rep.below a8 (B:=M.heap.size) k lz lz k.size);have a1:=O0 (w.heap.size+2<=w6.heap.size) (Z5 b2.o C.o.size);have b4:=U (HB.o.trans ((l.trans (k.mono l.size)).mono HB.o.size));obtain ⟨z0,z1,z2,z3,z4⟩:=bx5 a9;obtain ⟨t0,t1,t2,t3,t4⟩:=rc5 c;obtain ⟨s0,s1,s2,s3,s4⟩:=rf5 c;simp only [qB] at t0 t1 t2 t3 t4;have a0:=U m;clear c a8 a6 l k a9 m;go_upto_region 6 with fail
    rw [<- a0.o];clear a0;go_wp2;refine Q3 (J2 Tryz.results147 _ _ (w.heap.size+1) 25 _ (0,0) _ rfl (qJ (set5 _ _ _ _ _ b8.o)) Q6 rfl (by kernel_rfl)) rfl ?_;rw [HJ.o];refine ⟨H,L,G,I,rfl,?_,zn _ _ _ _ _ b4.o (by omega)⟩;exact Rep.carry (by have:=a1.o;omega) (show W9.heap.size<=_ by simp [World.setCell]) (fun j hj _=>js _ _ _ _ _ (by have:=a1.o;omega)) _ _ b7.o
theorem iE {α:Type} (a b c d:α):[c,a,d,b].Perm [a,b,c,d]:=by have e:[c,a,d,b].Perm [a,c,d,b]:=List.Perm.swap a c [d,b];refine e.trans (List.Perm.cons a ?_);exact (List.perm_append_comm (l₁:=[c,d]) (l₂:=[b]))
theorem j5 {b:BinsV} (h:zk b=true):zT b=0/\xD b.au=true/\gc b.pre=false/\b.pre.size<=64:=by
 unfold zk at h;simp only [Q0,Z7,Bool.not_eq_true'] at h;obtain ⟨⟨a,c⟩,d⟩:=h;refine ⟨a,c,d,?_⟩;unfold zT at a;split at a
 . cases a
 . split at a
   . cases a
   . rename_i hr;exact g8 (by simpa using hr)
theorem gl (d4 d6:Int) (ids:List ByteArray) (d5:ByteArray) (ia:Option Addr) (ic:Nat) (w:World) (hI:qy w 0 w.heap.size ia ids) (hm:zk ⟨d4,d5,⟨d6,ids⟩⟩=true) :
 Calls Tryz.prog 149 #[.agg #[.int .i64 d6,.slice ia ids.length ic,.int .i64 d4,.string d5]] w (kY (z8 ⟨d4,d5,⟨d6,ids⟩⟩) w):=by
 have u:=U (show d5.size<=64/\ids.length<=16/\∀s ∈ ids,s.size<=1000000 from by
  obtain ⟨h1,h2,h3,h4⟩:=j5 hm;have ha:=xV h2;dsimp only at h4 ha;exact ⟨h4,ha.1.2,fun s hs=>by have:=(vM (jN _ _ ha.2.2 s hs)).2;omega⟩)
 obtain ⟨W,hW⟩:=O1 ((w.alloc (.cells #[.int .i64 d6,.slice ia ids.length ic,.int .i64 d4,.string d5] 33)).alloc (.cells #[.int .u8 0,.int .i64 0,.string ⟨#[]⟩,.slice none 0 0,.slice none 0 0] 25));have b4:(w.alloc (.cells #[.int .i64 d6,.slice ia ids.length ic,.int .i64 d4,.string d5] 33)).heap.size=w.heap.size+1:=by simp
 have z:O5 w W:=by rw [hW];exact (O4).alloc (by simp) _
 have hx:W.heap[w.heap.size]?=some (.cells #[.int .i64 d6,.slice ia ids.length ic,.int .i64 d4,.string d5] 33 (0,0)):=by rw [hW];exact ze w _ _
 have Q:W.rowIs (w.heap.size+1) 25 5 (qB (.int .u8 0) (.int .i64 0) (.string ⟨#[]⟩) (.slice none 0 0) (.slice none 0 0)):=(by have:=qt (w.alloc (.cells #[.int .i64 d6,.slice ia ids.length ic,.int .i64 d4,.string d5] 33)) (.int .u8 0) (.int .i64 0) (.string ⟨#[]⟩) (.slice none 0 0) (.slice none 0 0) 25;rw [b4,<- hW] at this;exact this);have D:=U (show ∀w':World,O5 W w'->w'.cell? ⟨w.heap.size,0,none⟩=some (.int .i64 d6)/\w'.cell? ⟨w.heap.size,1,none⟩=some (.slice ia ids.length ic)/\w'.cell? ⟨w.heap.size,2,none⟩=some (.int .i64 d4)/\w'.cell? ⟨w.heap.size,3,none⟩=some (.string d5) from fun w' h=>by
  have y:=(h.block _ (qz hx)).trans hx;exact ⟨qq y rfl,qq y rfl,qq y rfl,qq y rfl⟩)
 have a4:=U Q;have HB:=U z;have a6:=O0 (w.heap.size+2<=W.heap.size) Q.lt;have HW:=U hW;have HI:=O0 (∀w':World,O5 W w'->qy w' 0 w'.heap.size ia ids) (fun w' h=>hI.below (z.trans (h.mono z.size)) lz lz (Z5 z.size h.size));have b9:=O0 (∀w':World,O5 W w'->_) (fun w' h=>mQ d6 ids ia ic W.heap.size w' h.size (HI.o w' h) (by have:=u.o.2.1;omega));have c3:=O0 (∀w':World,_) (fun w'=>(kC d5 w').mono fun e A (h:e=.returned (.agg #[.int .u8 3,.int .i64 0,.string d5,.slice none 0 0,.slice none 0 0])/\A=w'.alloc (.cells #[.int .u8 3,.int .i64 0,.string d5,.slice none 0 0,.slice none 0 0] 25))=>show e=.returned (.agg #[.int .u8 3,.int .i64 0,.string d5,.slice none 0 0,.slice none 0 0])/\O5 w' A from ⟨h.1,by rw [h.2];exact O4⟩);have c0:=O0 (∀w':World,_) (fun w'=>(uE d4 w').mono fun e A (h:e=.returned (.agg #[.int .u8 2,.int .i64 d4,.string ⟨#[]⟩,.slice none 0 0,.slice none 0 0])/\A=w'.alloc (.cells #[.int .u8 2,.int .i64 d4,.string ⟨#[]⟩,.slice none 0 0,.slice none 0 0] 25))=>show e=.returned (.agg #[.int .u8 2,.int .i64 d4,.string ⟨#[]⟩,.slice none 0 0,.slice none 0 0])/\O5 w' A from ⟨h.1,by rw [h.2];exact O4⟩);have HJ:=O0 (z8 ⟨d4,d5,⟨d6,ids⟩⟩=z7 [(jl,qZ d4),(qp,qm ids),(jS,txtJ d5),(thrN,qZ d6)]) rfl;obtain ⟨J,hJ⟩:=O1 (z8 ⟨d4,d5,⟨d6,ids⟩⟩);rw [<- hJ] at HJ ⊢;clear hW z hx Q b4 hI hm hJ;obtain ⟨S,T,X,Y⟩:=D.o W (Z0 _ _);go_enter Tryz.func149,Tryz.ntmps149;go_upto_region 1 with fail
 rw [<- HW.o];clear HW S T X Y;obtain ⟨V,hV⟩:∃V:List MP,V=[.con (.pointer (some ⟨w.heap.size,0,none⟩)),.con (.agg #[.int .i64 d6,.slice ia ids.length ic]),.memb d6 ids W.heap.size,.con (.pointer (some ⟨w.heap.size,2,none⟩)),.con (.int .i64 d4),.con (.agg #[.int .u8 2,.int .i64 d4,.string ⟨#[]⟩,.slice none 0 0,.slice none 0 0]),.con (.agg #[.string ⟨#[98,105,116,95,108,101,110,103,116,104]⟩,.int .u8 2,.int .i64 d4,.string ⟨#[]⟩,.slice none 0 0,.slice none 0 0]),.con (.pointer (some ⟨w.heap.size,3,none⟩)),.con (.string d5),.con (.agg #[.int .u8 3,.int .i64 0,.string d5,.slice none 0 0,.slice none 0 0]),.con (.agg #[.string ⟨#[110,97,109,101,95,112,114,101,102,105,120]⟩,.int .u8 3,.int .i64 0,.string d5,.slice none 0 0,.slice none 0 0]),.row W.heap.size 2 169 #[.string ⟨#[98,105,116,95,108,101,110,103,116,104]⟩,.int .u8 2,.int .i64 d4,.string ⟨#[]⟩,.slice none 0 0,.slice none 0 0,.string ⟨#[110,97,109,101,95,112,114,101,102,105,120]⟩,.int .u8 3,.int .i64 0,.string d5,.slice none 0 0,.slice none 0 0]]:=⟨_,rfl⟩;have a:=U hV;clear hV;refine qM 12 (fun d a' w'=>∃x6 x7 x8 x9 x10 x11 x12 x13 x14 x15 x16 x17,a'=⟨#[.agg #[.int .i64 d6,.slice ia ids.length ic,.int .i64 d4,.string d5],.pointer (some ⟨w.heap.size,0,none⟩),.pointer (some ⟨w.heap.size+1,0,none⟩),undef,undef,undef,x6,x7,x8,x9,x10,x11,x12,x13,x14,x15,x16,x17,undef,undef,undef,undef,undef,undef,undef],[]⟩/\za W V d w' [x6,x7,x8,x9,x10,x11,x12,x13,x14,x15,x16,x17]) (by kernel_rfl) (by kernel_rfl) ?first ?step ?last
 case first=>exact ⟨_,_,_,_,_,_,_,_,_,_,_,_,rfl,za.first _ _ _ (by rw [a.o];rfl)⟩
 case step =>
  rintro d a' w' ⟨x6,x7,x8,x9,x10,x11,x12,x13,x14,x15,x16,x17,rfl,h⟩ q hq hn r;rcases q with _|_|_|_|_|_|_|_|_|_|_|_|q
  . refine Z3 rfl fun K hK=>?_;go_simp;exact hK _ _ ⟨_,_,_,_,_,_,_,_,_,_,_,_,rfl,h.sameC 0 _ a rfl⟩
  . obtain rfl:=h.cn r a 0 .data;obtain ⟨S,T,X,Y⟩:=D.o w' h.1;refine Z3 rfl fun K hK=>?_;go_simp;exact hK _ _ ⟨_,_,_,_,_,_,_,_,_,_,_,_,rfl,h.sameC 1 _ a rfl⟩
  . obtain rfl:=h.cn r a 1 .data;obtain ⟨S,T,X,Y⟩:=D.o w' h.1;refine Z3 rfl fun K hK=>?_;go_simp;refine (b9.o w' h.1).mono ?_;rintro e A ⟨y,rfl,hy,k⟩;exact hK _ _ ⟨_,_,_,_,_,_,_,_,_,_,_,_,rfl,h.did k 2 _ (.memb d6 ids W.heap.size) (by rw [a.o];rfl) hy⟩
  . refine Z3 rfl fun K hK=>?_;go_simp;exact hK _ _ ⟨_,_,_,_,_,_,_,_,_,_,_,_,rfl,h.sameC 3 _ a rfl⟩
  . obtain rfl:=h.cn r a 3 .data;obtain ⟨S,T,X,Y⟩:=D.o w' h.1;refine Z3 rfl fun K hK=>?_;go_simp;exact hK _ _ ⟨_,_,_,_,_,_,_,_,_,_,_,_,rfl,h.sameC 4 _ a rfl⟩
  . obtain rfl:=h.cn r a 4 .data;obtain ⟨S,T,X,Y⟩:=D.o w' h.1;refine Z3 rfl fun K hK=>?_;go_simp;refine (c0.o w').mono ?_;rintro e A ⟨rfl,k⟩;exact hK _ _ ⟨_,_,_,_,_,_,_,_,_,_,_,_,rfl,h.didC k 5 _ a rfl⟩
  . obtain rfl:=h.cn r a 5 .data;refine Z3 rfl fun K hK=>?_;go_simp;exact hK _ _ ⟨_,_,_,_,_,_,_,_,_,_,_,_,rfl,h.sameC 6 _ a rfl⟩
  . refine Z3 rfl fun K hK=>?_;go_simp;exact hK _ _ ⟨_,_,_,_,_,_,_,_,_,_,_,_,rfl,h.sameC 7 _ a rfl⟩
  . obtain rfl:=h.cn r a 7 .data;obtain ⟨S,T,X,Y⟩:=D.o w' h.1;refine Z3 rfl fun K hK=>?_;go_simp;exact hK _ _ ⟨_,_,_,_,_,_,_,_,_,_,_,_,rfl,h.sameC 8 _ a rfl⟩
  . obtain rfl:=h.cn r a 8 .data;obtain ⟨S,T,X,Y⟩:=D.o w' h.1;refine Z3 rfl fun K hK=>?_;go_simp;refine (c3.o w').mono ?_;rintro e A ⟨rfl,k⟩;exact hK _ _ ⟨_,_,_,_,_,_,_,_,_,_,_,_,rfl,h.didC k 9 _ a rfl⟩
  . obtain rfl:=h.cn r a 9 .data;refine Z3 rfl fun K hK=>?_;go_simp;exact hK _ _ ⟨_,_,_,_,_,_,_,_,_,_,_,_,rfl,h.sameC 10 _ a rfl⟩
  . obtain rfl:=h.cn r a 6 .data;obtain rfl:=h.cn r a 10 .data;refine Z3 rfl fun K hK=>?_;go_simp;exact hK _ _ ⟨_,_,_,_,_,_,_,_,_,_,_,_,rfl,h.new _ 11 _ (.row W.heap.size 2 169 #[.string ⟨#[98,105,116,95,108,101,110,103,116,104]⟩,.int .u8 2,.int .i64 d4,.string ⟨#[]⟩,.slice none 0 0,.slice none 0 0,.string ⟨#[110,97,109,101,95,112,114,101,102,105,120]⟩,.int .u8 3,.int .i64 0,.string d5,.slice none 0 0,.slice none 0 0]) (by rw [a.o];rfl) (zM.made _ h.1.size)⟩
  . omega
 case last =>
  rintro d a' w' f ⟨x6,x7,x8,x9,x10,x11,x12,x13,x14,x15,x16,x17,rfl,h⟩;have b1:=h.1;have c7:=h.get 2 (f _ (by omega)) (.memb d6 ids W.heap.size) (by rw [a.o];rfl) _ rfl;obtain ⟨c5,d3,rfl,b5⟩:=h.get 11 (f _ (by omega)) (.row W.heap.size 2 169 #[.string ⟨#[98,105,116,95,108,101,110,103,116,104]⟩,.int .u8 2,.int .i64 d4,.string ⟨#[]⟩,.slice none 0 0,.slice none 0 0,.string ⟨#[110,97,109,101,95,112,114,101,102,105,120]⟩,.int .u8 3,.int .i64 0,.string d5,.slice none 0 0,.slice none 0 0]) (by rw [a.o];rfl) _ rfl;have b8:=U b1;clear h f b1 a;have l:=b8.o;obtain ⟨g,ai,ci,rfl,a9,P,b0⟩:=c7;have F:=U (fm a9 P b0);have G:=O0 (w'.ownsRow W.heap.size 169 6 (.slice (some ⟨g,0,none⟩) 2 2) 2 (zh [vY ai ids.length ci,kg thrN d6])) F.o.own;have b6:=U l;have d2:=U (qz P);have R:W.heap.size<=w'.heap.size:=l.size;clear l a9 P b0;obtain ⟨i1,c6,c9,d0,d1⟩:=V2 kM;simp only [List.drop_succ_cons,List.drop_zero];go_upto_region 2 with (at_builtin;refine X9 _ rfl (.tmp 8) (.tmp 17) 170 rfl W.heap.size 169 i1 _ 6 96 G4 c6 c9 d0 d1 rfl (by omega) (.slice (some ⟨g,0,none⟩) 2 2) 2 (zh [vY ai ids.length ci,kg thrN d6]) rfl G.o ⟨c5,0,none⟩ 2 2 (zh [kg jl d4,jC jS d5]) rfl rfl (J5 (cs:=(zh [kg jl d4,jC jS d5]).toArray) (t:=169) (fr:=(0,0)) b5) (fc _) (by omega) (by unfold maxLen;omega) (by omega) (by have:=qz b5;omega) w'.heap.size (by omega) ?_;intro g2 cap2 w4 hown4 hgrow4 hat4 hlt4;have a3:=U hown4;have E:=U hgrow4;have a0:=U hat4;clear hown4 hgrow4 hat4)
  have C:=U (below_grown b6.o R E.o (fun b z=>(G.o.lt b z).1));have a1:=U (show MemsAt W.heap.size w4 (.slice (some ⟨g2,0,none⟩) 4 cap2) [vY ai ids.length ci,kg thrN d6,kg jl d4,jC jS d5] [qm ids,qZ d6,qZ d4,txtJ d5] from F.o.cat (ms2:=[kg jl d4,jC jS d5]) (its2:=[qZ d4,txtJ d5]) rfl (fun i hi=>by
   match i,hi with
   | 0,_=>exact ⟨W.heap.size,W.heap.size,Z9 _,R,fun b z=>by omega,dp _ _ _ _⟩
   | 1,_=>exact ⟨W.heap.size,W.heap.size,Z9 _,R,fun b z=>by omega,vH _ _ _ _⟩) E.o a3.o (by
   rcases a0.o with h|h
   . exact .inl h.symm
   . exact .inr ⟨g2,rfl,by omega⟩))
  have c4:=U a6.o;clear a3 E a0 F G;have a2:=U (pf (v:=.slice (some ⟨g2,0,none⟩) 4 cap2) [(jl,qZ d4),(qp,qm ids),(jS,txtJ d5),(thrN,qZ d6)] (N:=[(qp,qm ids),(thrN,qZ d6),(jl,qZ d4),(jS,txtJ d5)]) ⟨_,by simpa using a1.o,by simp [vY,kg,jC]⟩ ⟨_,_,rfl⟩ (iE _ _ _ _) zR.2.2.1 (by simp) (fun p hp=>by
   simp only [Y5,Y7,M3] at hp;rcases hp with rfl|rfl|rfl|rfl
   . show (qZ _).wt<=4294967296;rw [gn];decide
   . exact j4 u.o.2.2 (by have:=u.o.2.1;omega)
   . show (txtJ d5).wt<=4294967296;rw [jf];have:=u.o.1;omega
   . show (qZ _).wt<=4294967296;rw [gn];decide) (by have:=c4.o;omega))
  clear a1;go_wp2_with fail;refine a2.o.mono ?_;clear a2;rintro e Z ⟨I,M,H,L,rfl,b2,a8⟩;have o:O5 W Z:=O2 C a8;obtain ⟨W9,x⟩:=O1 (Z.alloc (.cells #[.int .u8 5,.int .i64 0,.string ⟨#[]⟩,.slice I 4 M,.slice H 4 L] 25));have m:=O7 x
  have b3:=O9 x
  have c:=qw (o.trans (m.mono o.size)) a4.o a4.o.lt;have c2:=U c;have c1:=U (Rep.below b2 (B:=Z.heap.size) m lz lz m.size);have a7:=O0 (w.heap.size+2<=w4.heap.size) (Z5 a6.o C.o.size);have b7:=U (HB.o.trans ((o.trans (m.mono o.size)).mono HB.o.size));obtain ⟨z0,z1,z2,z3,z4⟩:=bx5 b3;obtain ⟨t0,t1,t2,t3,t4⟩:=rc5 c;obtain ⟨s0,s1,s2,s3,s4⟩:=rf5 c;simp only [qB] at t0 t1 t2 t3 t4;have a5:=U x;clear c b2 a8 o m b3 x;go_upto_region 3 with fail
  rw [<- a5.o];clear a5;go_wp2;refine Q3 (J2 Tryz.results149 _ _ (w.heap.size+1) 25 _ (0,0) _ rfl (qJ (set5 _ _ _ _ _ c2.o)) Q6 rfl (by kernel_rfl)) rfl ?_;rw [HJ.o];refine ⟨I,M,H,L,rfl,?_,zn _ _ _ _ _ b7.o (by omega)⟩;exact Rep.carry (by have:=a7.o;omega) (show W9.heap.size<=_ by simp [World.setCell]) (fun j hj _=>js _ _ _ _ _ (by have:=a7.o;omega)) _ _ c1.o
