import Derived.Test.YthgembbgcbaghaaGreatDoorDg34
import Derived.Test.YthgembbgcbaghaaGreatDoorDg26
import Derived.Test.YthgembbgcbaghaaGreatDoorDg49
set_option maxHeartbeats 2000000
set_option maxRecDepth 100000

namespace Go.Proofs.YthgembbgcbaghaaGreatDoor
open Go.RowKit Go.Shelf Go.Sort
def im (t:Int) (l:List ByteArray) (w:World) (e:Ending) (w':World):Prop :=
 ∃g ai ci,e=.returned (.slice (some ⟨g,0,none⟩) 2 2)/\w.heap.size<=g/\w'.heap[g]?=some (.cells #[.string ⟨#[107,101,121,105,100,115]⟩,.int .u8 4,.int .i64 0,.string ⟨#[]⟩,.slice none 0 0,.slice ai l.length ci,.string ⟨#[116,104,114,101,115,104,111,108,100]⟩,.int .u8 2,.int .i64 t,.string ⟨#[]⟩,.slice none 0 0,.slice none 0 0] 183 (0,0)) /\
  (∃hi,hi<=g/\Rep w' w.heap.size hi (qb l) (.agg #[.int .u8 4,.int .i64 0,.string ⟨#[]⟩,.slice none 0 0,.slice ai l.length ci]))/\O5 w w'
theorem db (t:Int) (l:List ByteArray) (a:Option Addr) (c:Nat) (w:World) (F:qv w 0 w.heap.size a l) (G:l.length<=4294967296) :
 Calls Tryz.prog 162 #[.agg #[.int .i64 t,.slice a l.length c]] w (im t l w):=by
 obtain ⟨W,v⟩:=O1 (w.alloc (.cells #[.int .i64 t,.slice a l.length c] 31));have x:=O7 v
 have y:=O9 v
 have z:=U (show ∀w':World,O5 W w'->w'.cell? ⟨w.heap.size,0,none⟩=some (.int .i64 t)/\w'.cell? ⟨w.heap.size,1,none⟩=some (.slice a l.length c)/\w.heap.size<w'.heap.size from fun w' h=>by
  have C:=(h.block _ (qx y)).trans y;exact ⟨qq C rfl,qq C rfl,Y5 (qx y) h.size⟩)
 have D:=U (show ∀w':World,O5 W w'->Calls Tryz.prog 221 #[.slice a l.length c] w' (fun e d=>∃k m,e=.returned (.agg #[.int .u8 4,.int .i64 0,.string ⟨#[]⟩,.slice none 0 0,.slice k l.length m])/\Hid (Rep d W.heap.size d.heap.size (qb l) (.agg #[.int .u8 4,.int .i64 0,.string ⟨#[]⟩,.slice none 0 0,.slice k l.length m]))/\O5 W d/\d.cell? ⟨w.heap.size,0,none⟩=some (.int .i64 t)/\d.cell? ⟨w.heap.size,1,none⟩=some (.slice a l.length c)/\w.heap.size<d.heap.size) from fun w' h=>by
  have u:=x.trans (h.mono x.size);refine (gP l a c w' (F.below u lz lz u.size) G).mono ?_;rintro e d ⟨k,m,rfl,E,g⟩;have r:=h.trans (g.mono h.size);exact ⟨k,m,rfl,U (Rep.carry h.size lz (fun _ _ _=>rfl) _ _ E),r,z.o _ r⟩)
 have A:=U (show ∀w':World,O5 W w'->Calls Tryz.prog 163 #[.int .i64 t] w' (fun e d=>e=.returned (.agg #[.int .u8 2,.int .i64 t,.string ⟨#[]⟩,.slice none 0 0,.slice none 0 0])/\O5 w' d/\O5 W d/\d.cell? ⟨w.heap.size,0,none⟩=some (.int .i64 t)/\d.cell? ⟨w.heap.size,1,none⟩=some (.slice a l.length c)/\w.heap.size<d.heap.size) from fun w' h=>by
  refine (fM t w').mono ?_;rintro e d ⟨rfl,rfl⟩;have g:O5 w' (w'.alloc (.cells #[.int .u8 2,.int .i64 t,.string ⟨#[]⟩,.slice none 0 0,.slice none 0 0] 25)):=O4;have r:=h.trans (g.mono h.size);exact ⟨rfl,g,r,z.o _ r⟩)
 have q:=U x;have B:=U v;clear F x y v;have b:O5 W W.drew:=(J0 _ _).drew;obtain ⟨o,p,f⟩:=z.o W (J0 _ _);go_enter Tryz.func162,Tryz.ntmps162;go_upto_region 1 with fail
 rw [<- B.o];clear B
 go_region_held3 (fun w'=>w'.cell? ⟨w.heap.size,0,none⟩=some (.int .i64 t)/\w'.cell? ⟨w.heap.size,1,none⟩=some (.slice a l.length c)) (first|(with_reducible exact ⟨o,p⟩)|(with_reducible exact ⟨(ql _ f).trans o,(ql _ f).trans p⟩)|(go_keep;done)) (first|(go_at_call 221;(with_reducible refine (D.o _ b).mono ?_);rintro e d ⟨k,m,rfl,j,b,o,p,f⟩)|(go_at_call 163;(with_reducible refine (A.o _ b).mono ?_);rintro e d ⟨rfl,s,b,o,p,f⟩;replace j:=U (j.o.below s lz lz s.size))|(go_at_call 163;(with_reducible refine (A.o _ b).mono ?_);rintro e d ⟨rfl,-,b,o,p,f⟩))
 all_goals
  have i:=U b;clear b o p f;go_wp2;go_ret;exact ⟨_,k,m,rfl,J1 q.o.size i.o.size,J2 _ _,⟨_,J9 _,Rep.carry q.o.size lz (fun _ _ _=>rfl) _ _ (j.o.below O4 lz lz lz)⟩,(q.o.trans (i.o.mono q.o.size)).alloc (J1 q.o.size i.o.size) _⟩
theorem ru (b:Bool) (w:World):Calls Tryz.prog 166 #[.bool b] w fun e w'=>e=.returned (.agg #[.int .u8 1,.int .i64 (ud b),.string ⟨#[]⟩,.slice none 0 0,.slice none 0 0])/\O5 w w':=by
 have f:=O0 (O5 w (w.alloc (.cells #[.int .u8 0,.int .i64 0,.string ⟨#[]⟩,.slice none 0 0,.slice none 0 0] 25))) O4;have a:=qh w (.int .u8 0) (.int .i64 0) (.string ⟨#[]⟩) (.slice none 0 0) (.slice none 0 0) 25;have c:=U a;obtain ⟨W,d⟩:=O1 (w.alloc (.cells #[.int .u8 0,.int .i64 0,.string ⟨#[]⟩,.slice none 0 0,.slice none 0 0] 25));rw [<- d] at f a c;have g:=U d;obtain ⟨h,i,j,k,l⟩:=rc5 a;obtain ⟨m,o,p,q,r⟩:=rf5 a;simp only [qZ] at h i j k l;clear a d;cases b
 all_goals
  go_enter Tryz.func166,Tryz.ntmps166;go_upto_region 1 with fail
  rw [<- g.o];clear g;go_wp2;exact X4 (Y7 Tryz.results166 _ _ w.heap.size 25 _ (0,0) _ rfl (qr (set5 _ _ _ _ _ c.o)) X8 rfl (by kernel_rfl)) rfl ⟨rfl,zj _ _ _ _ _ f.o lz⟩
theorem MemsT.cat {T u:Nat} {w w':World} {v v':Value} {ms ms2:List Mem} {r its2:List JV} (h:MemsT T u w v ms r) (B:its2.length=ms2.length) (A:∀i (hi:i<its2.length),∃lo hi',u<=lo/\hi'<=w.heap.size/\(∀b,v.ownBlock=some b->¬(lo<=b/\b<hi'))/\Rep w lo hi' its2[i] (ms2[i]'(by omega)).val)
 (z:w.grownBy w' v.ownBlock) (s:w'.ownsRow u T 6 v' (ms.length+ms2.length) (qK ms ++ qK ms2)) (y:v'.ownBlock=v.ownBlock\/∃g,v'.ownBlock=some g/\w.heap.size<=g):MemsT T u w' v' (ms ++ ms2) (r ++ its2):=by
 have p:∀ {lo hi:Nat},hi<=w.heap.size->(∀b,v.ownBlock=some b->¬(lo<=b/\b<hi))->∀b,v'.ownBlock=some b->¬(lo<=b/\b<hi):=fun hz hn b hb=>by
  rcases y with e|⟨g,e,hge⟩
  . exact hn b (by rw [<- e];exact hb)
  . rw [e] at hb;simp at hb;omega
 have o:∀ {lo hi:Nat} {it:JV} {x:Value},hi<=w.heap.size->(∀b,v.ownBlock=some b->¬(lo<=b/\b<hi))->Rep w lo hi it x->Rep w' lo hi it x:=fun hz hn A =>
  Rep.carry lz lz (fun b hb1 hb2=>z.block b (by omega) (fun e=>hn b e.symm ⟨hb1,hb2⟩)) _ _ A
 have l:=h.len;refine ⟨?_,by simp [l,B],fun i hi'=>?_⟩
 . have e:qK (ms ++ ms2)=qK ms ++ qK ms2:=by simp [qK]
   rw [e,G6];exact s
 . by_cases e:i<r.length
   . obtain ⟨f,a,m,d,j,c⟩:=h.reps i e;refine ⟨f,a,m,J1 d z.size,p d j,?_⟩;rw [G9 e,G9 (by omega)];exact o d j c
   . have k:i - r.length<its2.length:=by simp at hi';omega
     obtain ⟨f,a,m,d,j,c⟩:=A (i - r.length) k;refine ⟨f,a,m,J1 d z.size,p d j,?_⟩;rw [N0 (by omega),N0 (by omega)];have q:i - ms.length=i - r.length:=by omega
     simp only [q];exact o d j c
def pC (t:Int) (l:List ByteArray) (lo:Nat) (w:World) (x:Value):Prop :=
 ∃g ai ci,x=.slice (some ⟨g,0,none⟩) 2 2/\lo<=g/\w.heap[g]?=some (.cells #[.string ⟨#[107,101,121,105,100,115]⟩,.int .u8 4,.int .i64 0,.string ⟨#[]⟩,.slice none 0 0,.slice ai l.length ci,.string ⟨#[116,104,114,101,115,104,111,108,100]⟩,.int .u8 2,.int .i64 t,.string ⟨#[]⟩,.slice none 0 0,.slice none 0 0] 183 (0,0))/\Rep w lo g (qb l) (.agg #[.int .u8 4,.int .i64 0,.string ⟨#[]⟩,.slice none 0 0,.slice ai l.length ci])
def MP.membR (t:Int) (l:List ByteArray) (lo:Nat):MP:=⟨pC t l lo,fun _ _ _ hb ⟨g,ai,ci,e,h1,h2,h3⟩=>⟨g,ai,ci,e,h1,by rw [hb.block _ (qx h2)];exact h2,Rep.carry lz lz (fun b _ hbg=>hb.block b (ze0 hbg (qx h2))) _ _ h3⟩⟩
theorem mO (t:Int) (l:List ByteArray) (a:Option Addr) (c lo:Nat) (w:World) (m:lo<=w.heap.size) (o:qv w 0 w.heap.size a l) (p:l.length<=4294967296) :
 Calls Tryz.prog 162 #[.agg #[.int .i64 t,.slice a l.length c]] w fun e w'=>∃y,e=.returned y/\pC t l lo w' y/\O5 w w':=by
 refine (db t l a c w o p).mono ?_;rintro e w' ⟨g,d,f,rfl,j,i,⟨hi,b,k⟩,h⟩;exact ⟨_,rfl,⟨g,d,f,rfl,J1 m j,i,Rep.carry m b (fun _ _ _=>rfl) _ _ k⟩,h⟩
theorem ua {t:Int} {l:List ByteArray} {lo g:Nat} {ai:Option Addr} {ci:Nat} {w:World} (d:lo<=g) (c:w.heap[g]?=some (.cells #[.string ⟨#[107,101,121,105,100,115]⟩,.int .u8 4,.int .i64 0,.string ⟨#[]⟩,.slice none 0 0,.slice ai l.length ci,.string ⟨#[116,104,114,101,115,104,111,108,100]⟩,.int .u8 2,.int .i64 t,.string ⟨#[]⟩,.slice none 0 0,.slice none 0 0] 183 (0,0))) (e:Rep w lo g (qb l) (.agg #[.int .u8 4,.int .i64 0,.string ⟨#[]⟩,.slice none 0 0,.slice ai l.length ci])) :
 MemsT 183 lo w (.slice (some ⟨g,0,none⟩) 2 2) [xT ai l.length ci,z6 thrN t] [qb l,zv t]:=by
 refine ⟨⟨rfl,.inr ⟨g,2,_,rfl,d,c,J9 _,by unfold maxLen;omega,rfl,?_⟩⟩,rfl,fun i hi=>?_⟩
 . simp [qK,qW,xT,z6,qy,thrN]
 . have a:=qx c
   match i,hi with
   | 0,_=>exact ⟨lo,g,J9 _,by omega,fun b hb=>by simp [Value.ownBlock] at hb;omega,e⟩
   | 1,_=>exact ⟨lo,g,J9 _,by omega,fun b hb=>by simp [Value.ownBlock] at hb;omega,pW _ _ _ _⟩
theorem ut (t:ByteArray) (w:World):Calls Tryz.prog 164 #[.string t] w fun e w'=>e=.returned (.agg #[.int .u8 3,.int .i64 0,.string t,.slice none 0 0,.slice none 0 0])/\O5 w w' :=
 (pq t w).mono fun e w' h=>⟨h.1,by rw [h.2];exact O4⟩
theorem il (n:Int) (w:World):Calls Tryz.prog 163 #[.int .i64 n] w fun e w'=>e=.returned (.agg #[.int .u8 2,.int .i64 n,.string ⟨#[]⟩,.slice none 0 0,.slice none 0 0])/\O5 w w' :=
 (fM n w).mono fun e w' h=>⟨h.1,by rw [h.2];exact O4⟩
theorem ui (l:List ByteArray) (a:Option Addr) (c:Nat) (w:World) (J:qv w 0 w.heap.size a l) (K:l.length<=4294967296) :
 Calls Tryz.prog 167 #[.slice a l.length c] w (kX l w):=by
 obtain ⟨W,h⟩:=O1 (w.alloc (.cells #[.int .u8 0,.int .i64 0,.string ⟨#[]⟩,.slice none 0 0,.slice none 0 0] 25));have i:=O7 h
 have g:W.rowIs w.heap.size 25 5 (qZ (.int .u8 0) (.int .i64 0) (.string ⟨#[]⟩) (.slice none 0 0) (.slice none 0 0)):=by rw [h];exact qh w _ _ _ _ _ _
 have p:=U (gP l a c W (J.below i lz lz i.size) K);unfold kX at p;have q:=U i;have d:=U g;have r:=U h;clear h i g J;go_enter Tryz.func167,Tryz.ntmps167;go_upto_region 1 with fail
 rw [<- r.o];clear r;go_wp2_with fail
 refine p.o.mono ?_;clear p;rintro e D ⟨v,x,rfl,u,f⟩;have b:=qj f d.o d.o.lt;have o:=U b;have m:=U u;have k:=U (O2 q f);have s:=O0 (w.heap.size<W.heap.size) d.o.lt;obtain ⟨y,z,A,B,C⟩:=rc5 b;obtain ⟨E,F,G,H,I⟩:=rf5 b;simp only [qZ] at y z A B C;clear b u f;go_wp2;refine X4 (Y7 Tryz.results167 _ _ w.heap.size 25 _ (0,0) _ rfl (qr (set5 _ _ _ _ _ o.o)) X8 rfl (by kernel_rfl)) rfl ?_;exact ⟨v,x,rfl,Rep.carry (ze7 s.o) (show D.heap.size<=_ by simp [World.setCell]) (fun j hj _=>jm _ _ _ _ _ (by have:=s.o;omega)) _ _ m.o,zj _ _ _ _ _ k.o lz⟩
