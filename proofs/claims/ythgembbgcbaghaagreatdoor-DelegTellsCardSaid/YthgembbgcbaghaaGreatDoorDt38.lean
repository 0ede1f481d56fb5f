import Derived.Test.YthgembbgcbaghaaGreatDoorDt21
import Derived.Test.YthgembbgcbaghaaGreatDoorDt27
set_option maxHeartbeats 1000000
set_option maxRecDepth 100000

namespace Go.Proofs.YthgembbgcbaghaaGreatDoor
open Go.RowKit
theorem ef {w:World} {lo hi bn bi T T':Nat} {s t:ByteArray} (hn:w.heap[bn]?=some (.cells #[.string ⟨#[112,117,98,108,105,99]⟩,.string ⟨#[115,99,104,101,109,101]⟩] T (0,0)))
 (hi':w.heap[bi]?=some (.cells #[.int .u8 3,.int .i64 0,.string t,.slice none 0 0,.slice none 0 0,.int .u8 3,.int .i64 0,.string s,.slice none 0 0,.slice none 0 0] T' (0,0))) (h1:lo<=bn) (h2:bn<hi) (h3:lo<=bi) (h4:bi<hi) :
 Rep w lo hi (jr s t) (.agg #[.int .u8 5,.int .i64 0,.string ⟨#[]⟩,.slice (some ⟨bn,0,none⟩) 2 2,.slice (some ⟨bi,0,none⟩) 2 2]):=by
 unfold jr Rep;refine ⟨_,2,_,2,rfl,J0 _,J0 _,.inr ⟨bn,0,rfl,h1,h2,fun i hi=>?_⟩,.inr ⟨bi,0,rfl,h3,h4,⟨_,T',(0,0),hi',fun _=>rfl⟩,?_⟩⟩
 . have h:i<2:=hi
   match i,h with
   | 0,_=>simp [World.cell?,hn,xS]
   | 1,_=>simp [World.cell?,hn,schN]
 . unfold jy jy jy;have f:∀o,w.frozen? ⟨bi,o,none⟩=false:=fun o=>by simp [World.frozen?,hi']
   exact ⟨⟨_,_,_,_,_,qq hi' rfl,qq hi' rfl,qq hi' rfl,qq hi' rfl,qq hi' rfl,f _,jN _ _ _ _⟩,⟨_,_,_,_,_,qq hi' rfl,qq hi' rfl,qq hi' rfl,qq hi' rfl,qq hi' rfl,f _,jN _ _ _ _⟩,trivial⟩
theorem cv {w w1 W4:World} {bn bi:Nat} {f:Nat->Value} (hz1:w.heap.size+2<=w1.heap.size) (hR:w1.rowIs (w.heap.size+1) 25 5 f) (hb4:Below w1.heap.size w1 W4) :
 ((((((W4.setCell ⟨w.heap.size+1,0,none⟩ (.int .u8 5)).setCell ⟨w.heap.size+1,1,none⟩ (.int .i64 0)).setCell ⟨w.heap.size+1,2,none⟩ (.string ⟨#[]⟩)).setCell ⟨w.heap.size+1,3,none⟩ (.slice (some ⟨bn,0,none⟩) 2 2)).setCell ⟨w.heap.size+1,4,none⟩ (.slice (some ⟨bi,0,none⟩) 2 2)).drew).heap[w.heap.size+1]?=some (.cells #[.int .u8 5,.int .i64 0,.string ⟨#[]⟩,.slice (some ⟨bn,0,none⟩) 2 2,.slice (some ⟨bi,0,none⟩) 2 2] 25 (0,0)) :=
 qm ((set5 _ _ _ _ _ (qj hb4 hR (by omega))).drew)
theorem cy {w w1 W4:World} {s t:ByteArray} {bn bi T T':Nat} (hz1:w.heap.size+2<=w1.heap.size)
 (hn:W4.heap[bn]?=some (.cells #[.string ⟨#[112,117,98,108,105,99]⟩,.string ⟨#[115,99,104,101,109,101]⟩] T (0,0)))
 (hi:W4.heap[bi]?=some (.cells #[.int .u8 3,.int .i64 0,.string t,.slice none 0 0,.slice none 0 0,.int .u8 3,.int .i64 0,.string s,.slice none 0 0,.slice none 0 0] T' (0,0)))
 (h1:w1.heap.size<=bn) (h3:w1.heap.size<=bi) :
 Rep ((((((W4.setCell ⟨w.heap.size+1,0,none⟩ (.int .u8 5)).setCell ⟨w.heap.size+1,1,none⟩ (.int .i64 0)).setCell ⟨w.heap.size+1,2,none⟩ (.string ⟨#[]⟩)).setCell ⟨w.heap.size+1,3,none⟩ (.slice (some ⟨bn,0,none⟩) 2 2)).setCell ⟨w.heap.size+1,4,none⟩ (.slice (some ⟨bi,0,none⟩) 2 2)).drew) w.heap.size ((((((W4.setCell ⟨w.heap.size+1,0,none⟩ (.int .u8 5)).setCell ⟨w.heap.size+1,1,none⟩ (.int .i64 0)).setCell ⟨w.heap.size+1,2,none⟩ (.string ⟨#[]⟩)).setCell ⟨w.heap.size+1,3,none⟩ (.slice (some ⟨bn,0,none⟩) 2 2)).setCell ⟨w.heap.size+1,4,none⟩ (.slice (some ⟨bi,0,none⟩) 2 2)).drew).heap.size (jr s t) (.agg #[.int .u8 5,.int .i64 0,.string ⟨#[]⟩,.slice (some ⟨bn,0,none⟩) 2 2,.slice (some ⟨bi,0,none⟩) 2 2]) :=
 by
 have e1:=qx hn;have e2:=qx hi;exact tJ (ef (tX (by omega) hn) (tX (by omega) hi) (by omega) (by rw [r9];exact e1) (by omega) (by rw [r9];exact e2))
theorem cg {w w1 W4:World} {v0 v1 v2 v3 v4:Value} (hB1:Below w.heap.size w w1) (hb4:Below w1.heap.size w1 W4) :
 Below w.heap.size w ((((((W4.setCell ⟨w.heap.size+1,0,none⟩ v0).setCell ⟨w.heap.size+1,1,none⟩ v1).setCell ⟨w.heap.size+1,2,none⟩ v2).setCell ⟨w.heap.size+1,3,none⟩ v3).setCell ⟨w.heap.size+1,4,none⟩ v4).drew) :=
 (zx _ _ _ _ _ (hB1.trans (hb4.mono hB1.size)) (by omega)).drew
theorem aQ (t:ByteArray) (w:World):Calls Tryz.prog 220 #[.string t] w fun e w'=>e=.returned (.agg #[.int .u8 3,.int .i64 0,.string t,.slice none 0 0,.slice none 0 0])/\w'=w.alloc (.cells #[.int .u8 3,.int .i64 0,.string t,.slice none 0 0,.slice none 0 0] 25):=by go_enter Tryz.func220,Tryz.ntmps220;go_wp2;exact J3 (X6 Tryz.results220 _ _ w.heap.size 25 _ (0,0) _ rfl (Z4 w _) J5 rfl (by kernel_rfl)) rfl ⟨rfl,rfl⟩
theorem uh (s t:ByteArray) (w:World) (hs:s.size<=4294967000) (ht:t.size<=4294967000) (hk:zh s.data.toList t.data.toList=false) :
 Calls Tryz.prog 161 #[.agg #[.string s,.string t]] w fun e w'=>e=.returned (.tuple #[zeroAgg,.int .i64 3])/\Below w.heap.size w w':=by
 have i:=U (pA s t ((w.alloc (.cells #[.string s,.string t] 43)).alloc (.cells #[.int .u8 0,.int .i64 0,.string ⟨#[]⟩,.slice none 0 0,.slice none 0 0] 25)) (by omega) (by omega));rw [hk] at i;have c:=qh (w.alloc (.cells #[.string s,.string t] 43)) (.int .u8 0) (.int .i64 0) (.string ⟨#[]⟩) (.slice none 0 0) (.slice none 0 0) 25;rw [show (w.alloc (.cells #[.string s,.string t] 43)).heap.size=w.heap.size+1 by simp] at c;have g:=U c;have d:=O0 (Below w.heap.size w ((w.alloc (.cells #[.string s,.string t] 43)).alloc (.cells #[.int .u8 0,.int .i64 0,.string ⟨#[]⟩,.slice none 0 0,.slice none 0 0] 25))) (((Z0 _ _).alloc lz _).alloc (by simp) _);clear hk c;go_enter Tryz.func161,Tryz.ntmps161;go_wp2_with fail;refine i.o.mono ?_;rintro e x ⟨rfl,b⟩;have a:=qj b g.o (by simp);have h:=U a;have f:=U (d.o.trans (b.mono (by simp;omega)));obtain ⟨j,k,l,m,o⟩:=rc5 a;obtain ⟨p,q,r,u,v⟩:=rf5 a;simp only [qZ] at j k l m o;clear a b;go_wp2;exact J3 (qk Tryz.results161 _ _ (w.heap.size+1) 25 _ (0,0) _ rfl (qm (set5 _ _ _ _ _ h.o)) J5 rfl (by kernel_rfl) _ rfl) rfl ⟨rfl,zx _ _ _ _ _ f.o (by omega)⟩
theorem fA (s t:ByteArray) (w:World) (hs:s.size<=4294967000) (ht:t.size<=4294967000) (hk:zh s.data.toList t.data.toList=true) :
 Calls Tryz.prog 161 #[.agg #[.string s,.string t]] w (fQ s t w):=by
 have v:=U (pA s t ((w.alloc (.cells #[.string s,.string t] 43)).alloc (.cells #[.int .u8 0,.int .i64 0,.string ⟨#[]⟩,.slice none 0 0,.slice none 0 0] 25)) (by omega) (by omega));rw [hk] at v;have m:=qh (w.alloc (.cells #[.string s,.string t] 43)) (.int .u8 0) (.int .i64 0) (.string ⟨#[]⟩) (.slice none 0 0) (.slice none 0 0) 25;rw [show (w.alloc (.cells #[.string s,.string t] 43)).heap.size=w.heap.size+1 by simp] at m;have q:=U m;have p:=O0 (Below w.heap.size w ((w.alloc (.cells #[.string s,.string t] 43)).alloc (.cells #[.int .u8 0,.int .i64 0,.string ⟨#[]⟩,.slice none 0 0,.slice none 0 0] 25))) (((Z0 _ _).alloc lz _).alloc (by simp) _);have r:=U (show ((w.alloc (.cells #[.string s,.string t] 43)).alloc (.cells #[.int .u8 0,.int .i64 0,.string ⟨#[]⟩,.slice none 0 0,.slice none 0 0] 25)).heap[w.heap.size]?=some (.cells #[.string s,.string t] 43 (0,0)) by rw [X5 _ _ _ (by simp)];exact Z4 w _);clear hk m;go_enter Tryz.func161,Tryz.ntmps161;go_wp2_with fail;refine v.o.mono ?_;clear v;rintro e f ⟨rfl,i⟩;have h:=qj i q.o (by simp);have g:w.heap.size+2<=f.heap.size:=by have:=i.size;simp at this;omega
 have o:f.heap[w.heap.size]?=some (.cells #[.string s,.string t] 43 (0,0)):=by rw [i.block _ (by simp;omega)];exact r.o
 have k:=U (p.o.trans (i.mono (by simp;omega)));have l:=O0 (f.drew.rowIs _ _ _ _) h;clear i r p q;have P:f.cell? ⟨w.heap.size,0,none⟩=some (.string s):=qq (w:=f) o rfl;have Q:f.cell? ⟨w.heap.size,1,none⟩=some (.string t):=qq (w:=f) o rfl;obtain ⟨E,F,G,H,I⟩:=rc5 h;obtain ⟨J,K,L,M,N⟩:=rf5 h;simp only [qZ] at E F G H I;have u:w.heap.size<f.heap.size:=by omega
 have x:w.heap.size+1<f.heap.size:=by omega
 have y:∀(a:Obj) (j:Nat),(f.alloc a).cell? ⟨w.heap.size,j,none⟩=f.cell? ⟨w.heap.size,j,none⟩:=fun a j=>qi a u;have z:∀(a b:Obj) (j:Nat),((f.alloc a).alloc b).cell? ⟨w.heap.size,j,none⟩=f.cell? ⟨w.heap.size,j,none⟩:=fun a b j=>(fq f a b).cell u;have A:∀(a b c:Obj) (j:Nat),(((f.alloc a).alloc b).alloc c).cell? ⟨w.heap.size,j,none⟩=f.cell? ⟨w.heap.size,j,none⟩:=fun a b c j=>(fx f a b c).cell u;have B:∀(a b c d:Obj) (j:Nat),((((f.alloc a).alloc b).alloc c).alloc d).cell? ⟨w.heap.size,j,none⟩=f.cell? ⟨w.heap.size,j,none⟩:=fun a b c d j=>(xG f a b c d).cell u;have C:∀(a b c d:Obj) (j:Nat),((((f.alloc a).alloc b).alloc c).alloc d).cell? ⟨w.heap.size+1,j,none⟩=f.cell? ⟨w.heap.size+1,j,none⟩:=fun a b c d j=>(xG f a b c d).cell x;have D:∀(a b c d:Obj) (j:Nat),((((f.alloc a).alloc b).alloc c).alloc d).frozen? ⟨w.heap.size+1,j,none⟩=f.frozen? ⟨w.heap.size+1,j,none⟩:=fun a b c d j=>(xG f a b c d).frozen x;clear h o;go_wp2_with fail
 go_region_held3 (fun w'=>w'.cell? ⟨w.heap.size,0,none⟩=some (.string s)/\w'.cell? ⟨w.heap.size,1,none⟩=some (.string t)) ((go_keep;done)) ((go_at_call 220;(with_reducible refine (aQ _ _).mono ?_);rintro e R ⟨rfl,rfl⟩))
 all_goals clear y z A B C D
 all_goals go_wp2
 . refine J3 (qk Tryz.results161 _ _ (w.heap.size+1) 25 #[.int .u8 5,.int .i64 0,.string ⟨#[]⟩,.slice (some ⟨f.heap.size,0,none⟩) 2 2,.slice (some ⟨f.heap.size+1+1+1,0,none⟩) 2 2] (0,0) _ rfl ?_ J5 rfl (by kernel_rfl) _ rfl) rfl ⟨_,_,_,_,rfl,?_,?_⟩
   . exact cv g l.o (xG f _ _ _ _)
   . exact cy g (h40 f _ _ _ _) (h43 f _ _ _ _) (by omega) (by omega)
   . exact cg k.o (xG f _ _ _ _)
 . refine J3 (qk Tryz.results161 _ _ (w.heap.size+1) 25 #[.int .u8 5,.int .i64 0,.string ⟨#[]⟩,.slice (some ⟨f.heap.size+1,0,none⟩) 2 2,.slice (some ⟨f.heap.size+1+1+1,0,none⟩) 2 2] (0,0) _ rfl ?_ J5 rfl (by kernel_rfl) _ rfl) rfl ⟨_,_,_,_,rfl,?_,?_⟩
   . exact cv g l.o (xG f _ _ _ _)
   . exact cy g (h41 f _ _ _ _) (h43 f _ _ _ _) (by omega) (by omega)
   . exact cg k.o (xG f _ _ _ _)
 . refine J3 (qk Tryz.results161 _ _ (w.heap.size+1) 25 #[.int .u8 5,.int .i64 0,.string ⟨#[]⟩,.slice (some ⟨f.heap.size+1+1,0,none⟩) 2 2,.slice (some ⟨f.heap.size+1+1+1,0,none⟩) 2 2] (0,0) _ rfl ?_ J5 rfl (by kernel_rfl) _ rfl) rfl ⟨_,_,_,_,rfl,?_,?_⟩
   . exact cv g l.o (xG f _ _ _ _)
   . exact cy g (h42 f _ _ _ _) (h43 f _ _ _ _) (by omega) (by omega)
   . exact cg k.o (xG f _ _ _ _)
 . refine J3 (qk Tryz.results161 _ _ (w.heap.size+1) 25 #[.int .u8 5,.int .i64 0,.string ⟨#[]⟩,.slice (some ⟨f.heap.size+1+1+1,0,none⟩) 2 2,.slice (some ⟨f.heap.size+1+1,0,none⟩) 2 2] (0,0) _ rfl ?_ J5 rfl (by kernel_rfl) _ rfl) rfl ⟨_,_,_,_,rfl,?_,?_⟩
   . exact cv g l.o (xG f _ _ _ _)
   . exact cy g (h43 f _ _ _ _) (h42 f _ _ _ _) (by omega) (by omega)
   . exact cg k.o (xG f _ _ _ _)
end Go.Proofs.YthgembbgcbaghaaGreatDoor
