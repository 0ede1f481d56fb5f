import Derived.Test.YthgembbgcbaghaaGreatDoorDg21
import Derived.Test.YthgembbgcbaghaaGreatDoorDg27
set_option maxHeartbeats 1000000
set_option maxRecDepth 100000

namespace Go.Proofs.YthgembbgcbaghaaGreatDoor
open Go.RowKit
theorem QM {w:World} {lo hi b a T c:Nat} {s t:ByteArray} (d:w.heap[b]?=some (.cells #[.string ⟨#[112,117,98,108,105,99]⟩,.string ⟨#[115,99,104,101,109,101]⟩] T (0,0)))
 (hi':w.heap[a]?=some (.cells #[.int .u8 3,.int .i64 0,.string t,.slice none 0 0,.slice none 0 0,.int .u8 3,.int .i64 0,.string s,.slice none 0 0,.slice none 0 0] c (0,0))) (e:lo<=b) (g:b<hi) (j:lo<=a) (k:a<hi) :
 Rep w lo hi (jt s t) (.agg #[.int .u8 5,.int .i64 0,.string ⟨#[]⟩,.slice (some ⟨b,0,none⟩) 2 2,.slice (some ⟨a,0,none⟩) 2 2]):=by
 unfold jt Rep;refine ⟨_,2,_,2,rfl,J9 _,J9 _,.inr ⟨b,0,rfl,e,g,fun i hi=>?_⟩,.inr ⟨a,0,rfl,j,k,⟨_,c,(0,0),hi',fun _=>rfl⟩,?_⟩⟩
 . have h:i<2:=hi
   match i,h with
   | 0,_=>simp [World.cell?,d,xE]
   | 1,_=>simp [World.cell?,d,schN]
 . unfold jp jp jp;have f:∀o,w.frozen? ⟨a,o,none⟩=false:=fun o=>by simp [World.frozen?,hi']
   exact ⟨⟨_,_,_,_,_,qq hi' rfl,qq hi' rfl,qq hi' rfl,qq hi' rfl,qq hi' rfl,f _,jI _ _ _ _⟩,⟨_,_,_,_,_,qq hi' rfl,qq hi' rfl,qq hi' rfl,qq hi' rfl,qq hi' rfl,f _,jI _ _ _ _⟩,trivial⟩
theorem c8 {w a c:World} {e d:Nat} {f:Nat->Value} (h:w.heap.size+2<=a.heap.size) (g:a.rowIs (w.heap.size+1) 25 5 f) (b:O5 a c) :
 ((((((c.setCell ⟨w.heap.size+1,0,none⟩ (.int .u8 5)).setCell ⟨w.heap.size+1,1,none⟩ (.int .i64 0)).setCell ⟨w.heap.size+1,2,none⟩ (.string ⟨#[]⟩)).setCell ⟨w.heap.size+1,3,none⟩ (.slice (some ⟨e,0,none⟩) 2 2)).setCell ⟨w.heap.size+1,4,none⟩ (.slice (some ⟨d,0,none⟩) 2 2)).drew).heap[w.heap.size+1]?=some (.cells #[.int .u8 5,.int .i64 0,.string ⟨#[]⟩,.slice (some ⟨e,0,none⟩) 2 2,.slice (some ⟨d,0,none⟩) 2 2] 25 (0,0)) :=
 qr ((set5 _ _ _ _ _ (qj b g (by omega))).drew)
theorem dq {w d c:World} {s t:ByteArray} {b a T f:Nat} (g:w.heap.size+2<=d.heap.size)
 (e:c.heap[b]?=some (.cells #[.string ⟨#[112,117,98,108,105,99]⟩,.string ⟨#[115,99,104,101,109,101]⟩] T (0,0)))
 (hi:c.heap[a]?=some (.cells #[.int .u8 3,.int .i64 0,.string t,.slice none 0 0,.slice none 0 0,.int .u8 3,.int .i64 0,.string s,.slice none 0 0,.slice none 0 0] f (0,0)))
 (h:d.heap.size<=b) (i:d.heap.size<=a) :
 Rep ((((((c.setCell ⟨w.heap.size+1,0,none⟩ (.int .u8 5)).setCell ⟨w.heap.size+1,1,none⟩ (.int .i64 0)).setCell ⟨w.heap.size+1,2,none⟩ (.string ⟨#[]⟩)).setCell ⟨w.heap.size+1,3,none⟩ (.slice (some ⟨b,0,none⟩) 2 2)).setCell ⟨w.heap.size+1,4,none⟩ (.slice (some ⟨a,0,none⟩) 2 2)).drew) w.heap.size ((((((c.setCell ⟨w.heap.size+1,0,none⟩ (.int .u8 5)).setCell ⟨w.heap.size+1,1,none⟩ (.int .i64 0)).setCell ⟨w.heap.size+1,2,none⟩ (.string ⟨#[]⟩)).setCell ⟨w.heap.size+1,3,none⟩ (.slice (some ⟨b,0,none⟩) 2 2)).setCell ⟨w.heap.size+1,4,none⟩ (.slice (some ⟨a,0,none⟩) 2 2)).drew).heap.size (jt s t) (.agg #[.int .u8 5,.int .i64 0,.string ⟨#[]⟩,.slice (some ⟨b,0,none⟩) 2 2,.slice (some ⟨a,0,none⟩) 2 2]) :=
 by
 have e1:=qx e;have e2:=qx hi;exact oy (QM (ow (by omega) e) (ow (by omega) hi) (by omega) (by rw [si];exact e1) (by omega) (by rw [si];exact e2))
theorem dz {w c d:World} {v0 v1 v2 v3 v4:Value} (a:O5 w c) (b:O5 c d) :
 O5 w ((((((d.setCell ⟨w.heap.size+1,0,none⟩ v0).setCell ⟨w.heap.size+1,1,none⟩ v1).setCell ⟨w.heap.size+1,2,none⟩ v2).setCell ⟨w.heap.size+1,3,none⟩ v3).setCell ⟨w.heap.size+1,4,none⟩ v4).drew) :=
 (zj _ _ _ _ _ (a.trans (b.mono a.size)) (by omega)).drew
theorem tS (t:ByteArray) (w:World):Calls Tryz.prog 220 #[.string t] w fun e w'=>e=.returned (.agg #[.int .u8 3,.int .i64 0,.string t,.slice none 0 0,.slice none 0 0])/\w'=w.alloc (.cells #[.int .u8 3,.int .i64 0,.string t,.slice none 0 0,.slice none 0 0] 25):=by go_enter Tryz.func220,Tryz.ntmps220;go_wp2;exact X4 (Y7 Tryz.results220 _ _ w.heap.size 25 _ (0,0) _ rfl (J2 w _) X8 rfl (by kernel_rfl)) rfl ⟨rfl,rfl⟩
theorem uB (s t:ByteArray) (w:World) (z:s.size<=4294967000) (A:t.size<=4294967000) (y:zd s.data.toList t.data.toList=false) :
 Calls Tryz.prog 161 #[.agg #[.string s,.string t]] w fun e w'=>e=.returned (.tuple #[zeroAgg,.int .i64 3])/\O5 w w':=by
 have i:=U (fs s t ((w.alloc (.cells #[.string s,.string t] 43)).alloc (.cells #[.int .u8 0,.int .i64 0,.string ⟨#[]⟩,.slice none 0 0,.slice none 0 0] 25)) (by omega) (by omega));rw [y] at i;have c:=qh (w.alloc (.cells #[.string s,.string t] 43)) (.int .u8 0) (.int .i64 0) (.string ⟨#[]⟩) (.slice none 0 0) (.slice none 0 0) 25;rw [show (w.alloc (.cells #[.string s,.string t] 43)).heap.size=w.heap.size+1 by simp] at c;have g:=U c;have d:=O0 (O5 w ((w.alloc (.cells #[.string s,.string t] 43)).alloc (.cells #[.int .u8 0,.int .i64 0,.string ⟨#[]⟩,.slice none 0 0,.slice none 0 0] 25))) ((O4).alloc (by simp) _);clear y c;go_enter Tryz.func161,Tryz.ntmps161;go_wp2_with fail;refine i.o.mono ?_;rintro e x ⟨rfl,b⟩;have a:=qj b g.o (by simp);have h:=U a;have f:=U (d.o.trans (b.mono (by simp;omega)));obtain ⟨j,k,l,m,o⟩:=rc5 a;obtain ⟨p,q,r,u,v⟩:=rf5 a;simp only [qZ] at j k l m o;clear a b;go_wp2;exact X4 (qk Tryz.results161 _ _ (w.heap.size+1) 25 _ (0,0) _ rfl (qr (set5 _ _ _ _ _ h.o)) X8 rfl (by kernel_rfl) _ rfl) rfl ⟨rfl,zj _ _ _ _ _ f.o (by omega)⟩
theorem ul (s t:ByteArray) (w:World) (T:s.size<=4294967000) (V:t.size<=4294967000) (S:zd s.data.toList t.data.toList=true) :
 Calls Tryz.prog 161 #[.agg #[.string s,.string t]] w (fS s t w):=by
 have v:=U (fs s t ((w.alloc (.cells #[.string s,.string t] 43)).alloc (.cells #[.int .u8 0,.int .i64 0,.string ⟨#[]⟩,.slice none 0 0,.slice none 0 0] 25)) (by omega) (by omega));rw [S] at v;have m:=qh (w.alloc (.cells #[.string s,.string t] 43)) (.int .u8 0) (.int .i64 0) (.string ⟨#[]⟩) (.slice none 0 0) (.slice none 0 0) 25;rw [show (w.alloc (.cells #[.string s,.string t] 43)).heap.size=w.heap.size+1 by simp] at m;have q:=U m;have p:=O0 (O5 w ((w.alloc (.cells #[.string s,.string t] 43)).alloc (.cells #[.int .u8 0,.int .i64 0,.string ⟨#[]⟩,.slice none 0 0,.slice none 0 0] 25))) ((O4).alloc (by simp) _);have r:=U (show ((w.alloc (.cells #[.string s,.string t] 43)).alloc (.cells #[.int .u8 0,.int .i64 0,.string ⟨#[]⟩,.slice none 0 0,.slice none 0 0] 25)).heap[w.heap.size]?=some (.cells #[.string s,.string t] 43 (0,0)) by rw [Y4 _ _ _ (by simp)];exact J2 w _);clear S m;go_enter Tryz.func161,Tryz.ntmps161;go_wp2_with fail;refine v.o.mono ?_;clear v;rintro e f ⟨rfl,i⟩;have h:=qj i q.o (by simp);have g:w.heap.size+2<=f.heap.size:=by have:=i.size;simp at this;omega
 have o:f.heap[w.heap.size]?=some (.cells #[.string s,.string t] 43 (0,0)):=by rw [i.block _ (by simp;omega)];exact r.o
 have k:=U (p.o.trans (i.mono (by simp;omega)));have l:=O0 (f.drew.rowIs _ _ _ _) h;clear i r p q;have P:f.cell? ⟨w.heap.size,0,none⟩=some (.string s):=qq (w:=f) o rfl;have Q:f.cell? ⟨w.heap.size,1,none⟩=some (.string t):=qq (w:=f) o rfl;obtain ⟨E,F,G,H,I⟩:=rc5 h;obtain ⟨J,K,L,M,N⟩:=rf5 h;simp only [qZ] at E F G H I;have u:w.heap.size<f.heap.size:=by omega
 have x:w.heap.size+1<f.heap.size:=by omega
 have y:∀(a:Obj) (j:Nat),(f.alloc a).cell? ⟨w.heap.size,j,none⟩=f.cell? ⟨w.heap.size,j,none⟩:=fun a j=>ql a u;have z:∀(a b:Obj) (j:Nat),((f.alloc a).alloc b).cell? ⟨w.heap.size,j,none⟩=f.cell? ⟨w.heap.size,j,none⟩:=fun a b j=>(fV f a b).cell u;have A:∀(a b c:Obj) (j:Nat),(((f.alloc a).alloc b).alloc c).cell? ⟨w.heap.size,j,none⟩=f.cell? ⟨w.heap.size,j,none⟩:=fun a b c j=>(fW f a b c).cell u;have B:∀(a b c d:Obj) (j:Nat),((((f.alloc a).alloc b).alloc c).alloc d).cell? ⟨w.heap.size,j,none⟩=f.cell? ⟨w.heap.size,j,none⟩:=fun a b c d j=>(xM f a b c d).cell u;have C:∀(a b c d:Obj) (j:Nat),((((f.alloc a).alloc b).alloc c).alloc d).cell? ⟨w.heap.size+1,j,none⟩=f.cell? ⟨w.heap.size+1,j,none⟩:=fun a b c d j=>(xM f a b c d).cell x;have D:∀(a b c d:Obj) (j:Nat),((((f.alloc a).alloc b).alloc c).alloc d).frozen? ⟨w.heap.size+1,j,none⟩=f.frozen? ⟨w.heap.size+1,j,none⟩:=fun a b c d j=>(xM f a b c d).frozen x;clear h o;go_wp2_with fail
 go_region_held3 (fun w'=>w'.cell? ⟨w.heap.size,0,none⟩=some (.string s)/\w'.cell? ⟨w.heap.size,1,none⟩=some (.string t)) ((go_keep;done)) ((go_at_call 220;(with_reducible refine (tS _ _).mono ?_);rintro e R ⟨rfl,rfl⟩))
 all_goals clear y z A B C D
 all_goals go_wp2
 . refine X4 (qk Tryz.results161 _ _ (w.heap.size+1) 25 #[.int .u8 5,.int .i64 0,.string ⟨#[]⟩,.slice (some ⟨f.heap.size,0,none⟩) 2 2,.slice (some ⟨f.heap.size+1+1+1,0,none⟩) 2 2] (0,0) _ rfl ?_ X8 rfl (by kernel_rfl) _ rfl) rfl ⟨_,_,_,_,rfl,?_,?_⟩
   . exact c8 g l.o (xM f _ _ _ _)
   . exact dq g (h40 f _ _ _ _) (h43 f _ _ _ _) (by omega) (by omega)
   . exact dz k.o (xM f _ _ _ _)
 . refine X4 (qk Tryz.results161 _ _ (w.heap.size+1) 25 #[.int .u8 5,.int .i64 0,.string ⟨#[]⟩,.slice (some ⟨f.heap.size+1,0,none⟩) 2 2,.slice (some ⟨f.heap.size+1+1+1,0,none⟩) 2 2] (0,0) _ rfl ?_ X8 rfl (by kernel_rfl) _ rfl) rfl ⟨_,_,_,_,rfl,?_,?_⟩
   . exact c8 g l.o (xM f _ _ _ _)
   . exact dq g (h41 f _ _ _ _) (h43 f _ _ _ _) (by omega) (by omega)
   . exact dz k.o (xM f _ _ _ _)
 . refine X4 (qk Tryz.results161 _ _ (w.heap.size+1) 25 #[.int .u8 5,.int .i64 0,.string ⟨#[]⟩,.slice (some ⟨f.heap.size+1+1,0,none⟩) 2 2,.slice (some ⟨f.heap.size+1+1+1,0,none⟩) 2 2] (0,0) _ rfl ?_ X8 rfl (by kernel_rfl) _ rfl) rfl ⟨_,_,_,_,rfl,?_,?_⟩
   . exact c8 g l.o (xM f _ _ _ _)
   . exact dq g (h42 f _ _ _ _) (h43 f _ _ _ _) (by omega) (by omega)
   . exact dz k.o (xM f _ _ _ _)
 . refine X4 (qk Tryz.results161 _ _ (w.heap.size+1) 25 #[.int .u8 5,.int .i64 0,.string ⟨#[]⟩,.slice (some ⟨f.heap.size+1+1+1,0,none⟩) 2 2,.slice (some ⟨f.heap.size+1+1,0,none⟩) 2 2] (0,0) _ rfl ?_ X8 rfl (by kernel_rfl) _ rfl) rfl ⟨_,_,_,_,rfl,?_,?_⟩
   . exact c8 g l.o (xM f _ _ _ _)
   . exact dq g (h43 f _ _ _ _) (h42 f _ _ _ _) (by omega) (by omega)
   . exact dz k.o (xM f _ _ _ _)
