/- The contracts of legateref14.text and legateref14.Value. -/
import Derived.Test.YtnlgmcapbbgelaaGreatDoorRt19
import Derived.Test.YtnlgmcapbbgelaaGreatDoorRt22

namespace Go.Proofs.YtnlgmcapbbgelaaGreatDoor
open Go.RowKit
theorem tD {w:World} {lo hi bn bi T T':Nat} {s t:ByteArray} (hn:w.heap[bn]?=some (.cells #[.string ⟨#[112,117,98,108,105,99]⟩,.string ⟨#[115,99,104,101,109,101]⟩] T (0,0)))
 (hi':w.heap[bi]?=some (.cells #[.int .u8 3,.int .i64 0,.string t,.slice none 0 0,.slice none 0 0,.int .u8 3,.int .i64 0,.string s,.slice none 0 0,.slice none 0 0] T' (0,0))) (h1:lo≤bn) (h2:bn<hi) (h3:lo≤bi) (h4:bi<hi) :
 Rep w lo hi (xO s t) (.agg #[.int .u8 5,.int .i64 0,.string ⟨#[]⟩,.slice (some ⟨bn,0,none⟩) 2 2,.slice (some ⟨bi,0,none⟩) 2 2]):=by
 unfold xO Rep
 refine ⟨_,2,_,2,rfl,Nat.le_refl _,Nat.le_refl _,.inr ⟨bn,0,rfl,h1,h2,fun i hi=>?_⟩,.inr ⟨bi,0,rfl,h3,h4,⟨_,T',(0,0),hi',fun _=>rfl⟩,?_⟩⟩
 · have h:i<2:=hi
   match i,h with
   | 0,_=>simp [World.cell?,hn,xV]
   | 1,_=>simp [World.cell?,hn,schN]
 · unfold xY xY xY
   have f:∀o,w.frozen? ⟨bi,o,none⟩=false:=fun o=>by simp [World.frozen?,hi']
   exact ⟨⟨_,_,_,_,_,qq hi' rfl,qq hi' rfl,qq hi' rfl,qq hi' rfl,qq hi' rfl,f _,jh _ _ _ _⟩,⟨_,_,_,_,_,qq hi' rfl,qq hi' rfl,qq hi' rfl,qq hi' rfl,qq hi' rfl,f _,jh _ _ _ _⟩,trivial⟩
theorem uN {w w1 W4:World} {bn bi:Nat} {f:Nat→Value} (hz1:w.heap.size+2≤w1.heap.size) (hR:w1.rowIs (w.heap.size+1) 25 5 f) (hb4:Below w1.heap.size w1 W4) :
 ((((((W4.setCell ⟨w.heap.size+1,0,none⟩ (.int .u8 5)).setCell ⟨w.heap.size+1,1,none⟩ (.int .i64 0)).setCell ⟨w.heap.size+1,2,none⟩ (.string ⟨#[]⟩)).setCell ⟨w.heap.size+1,3,none⟩ (.slice (some ⟨bn,0,none⟩) 2 2)).setCell ⟨w.heap.size+1,4,none⟩ (.slice (some ⟨bi,0,none⟩) 2 2)).drew).heap[w.heap.size+1]?=some (.cells #[.int .u8 5,.int .i64 0,.string ⟨#[]⟩,.slice (some ⟨bn,0,none⟩) 2 2,.slice (some ⟨bi,0,none⟩) 2 2] 25 (0,0)) :=
 qm ((set5 _ _ _ _ _ (qx hb4 hR (by omega))).drew)
theorem uS {w w1 W4:World} {s t:ByteArray} {bn bi T T':Nat} (hz1:w.heap.size+2≤w1.heap.size)
 (hn:W4.heap[bn]?=some (.cells #[.string ⟨#[112,117,98,108,105,99]⟩,.string ⟨#[115,99,104,101,109,101]⟩] T (0,0)))
 (hi:W4.heap[bi]?=some (.cells #[.int .u8 3,.int .i64 0,.string t,.slice none 0 0,.slice none 0 0,.int .u8 3,.int .i64 0,.string s,.slice none 0 0,.slice none 0 0] T' (0,0)))
 (h1:w1.heap.size≤bn) (h3:w1.heap.size≤bi) :
 Rep ((((((W4.setCell ⟨w.heap.size+1,0,none⟩ (.int .u8 5)).setCell ⟨w.heap.size+1,1,none⟩ (.int .i64 0)).setCell ⟨w.heap.size+1,2,none⟩ (.string ⟨#[]⟩)).setCell ⟨w.heap.size+1,3,none⟩ (.slice (some ⟨bn,0,none⟩) 2 2)).setCell ⟨w.heap.size+1,4,none⟩ (.slice (some ⟨bi,0,none⟩) 2 2)).drew) w.heap.size ((((((W4.setCell ⟨w.heap.size+1,0,none⟩ (.int .u8 5)).setCell ⟨w.heap.size+1,1,none⟩ (.int .i64 0)).setCell ⟨w.heap.size+1,2,none⟩ (.string ⟨#[]⟩)).setCell ⟨w.heap.size+1,3,none⟩ (.slice (some ⟨bn,0,none⟩) 2 2)).setCell ⟨w.heap.size+1,4,none⟩ (.slice (some ⟨bi,0,none⟩) 2 2)).drew).heap.size (xO s t) (.agg #[.int .u8 5,.int .i64 0,.string ⟨#[]⟩,.slice (some ⟨bn,0,none⟩) 2 2,.slice (some ⟨bi,0,none⟩) 2 2]) :=
 by
 have e1:=qz hn
 have e2:=qz hi
 exact sg (tD (sy (by omega) hn) (sy (by omega) hi) (by omega) (by rw [lr];exact e1) (by omega) (by rw [lr];exact e2))
theorem uA {w w1 W4:World} {v0 v1 v2 v3 v4:Value} (hB1:Below w.heap.size w w1) (hb4:Below w1.heap.size w1 W4) :
 Below w.heap.size w ((((((W4.setCell ⟨w.heap.size+1,0,none⟩ v0).setCell ⟨w.heap.size+1,1,none⟩ v1).setCell ⟨w.heap.size+1,2,none⟩ v2).setCell ⟨w.heap.size+1,3,none⟩ v3).setCell ⟨w.heap.size+1,4,none⟩ v4).drew) :=
 (qT _ _ _ _ _ (hB1.trans (hb4.mono hB1.size)) (by omega)).drew
theorem nu (t:ByteArray) (w:World):Calls Tryz.prog 160 #[.string t] w fun e w'=>e=.returned (.agg #[.int .u8 3,.int .i64 0,.string t,.slice none 0 0,.slice none 0 0])∧w'=w.alloc (.cells #[.int .u8 3,.int .i64 0,.string t,.slice none 0 0,.slice none 0 0] 25):=by
 go_enter Tryz.func160,Tryz.ntmps160
 go_wp2
 exact bodyPost_ret (results_cell_row Tryz.results160 _ _ w.heap.size 25 _ (0,0) _ rfl (heap_alloc_new w _) Tryz.underlying25 rfl (by kernel_rfl)) rfl ⟨rfl,rfl⟩
set_option maxHeartbeats 1000000 in
set_option maxRecDepth 100000 in
theorem pS (s t:ByteArray) (w:World) (hs:s.size≤4294967000) (ht:t.size≤4294967000) (hk:zp s.data.toList t.data.toList=true) :
 Calls Tryz.prog 129 #[.agg #[.string s,.string t]] w (wR s t w):=by
 have HM:=Lh (mP s t ((w.alloc (.cells #[.string s,.string t] 38)).alloc (.cells #[.int .u8 0,.int .i64 0,.string ⟨#[]⟩,.slice none 0 0,.slice none 0 0] 25)) (by omega) (by omega))
 rw [hk] at HM
 have hr0:=qf (w.alloc (.cells #[.string s,.string t] 38)) (.int .u8 0) (.int .i64 0) (.string ⟨#[]⟩) (.slice none 0 0) (.slice none 0 0) 25
 rw [show (w.alloc (.cells #[.string s,.string t] 38)).heap.size=w.heap.size+1 by simp] at hr0
 have HR0:=Lh hr0
 have HB0:=Lh (show Below w.heap.size w ((w.alloc (.cells #[.string s,.string t] 38)).alloc (.cells #[.int .u8 0,.int .i64 0,.string ⟨#[]⟩,.slice none 0 0,.slice none 0 0] 25)) from ((Below.refl _ _).alloc lz _).alloc (by simp) _)
 have HX0:=Lh (show ((w.alloc (.cells #[.string s,.string t] 38)).alloc (.cells #[.int .u8 0,.int .i64 0,.string ⟨#[]⟩,.slice none 0 0,.slice none 0 0] 25)).heap[w.heap.size]?=some (.cells #[.string s,.string t] 38 (0,0)) by rw [Below.heap_alloc _ _ _ (by simp)];exact heap_alloc_new w _)
 clear hk hr0
 go_enter Tryz.func129,Tryz.ntmps129
 go_wp2_with fail
 refine HM.out.mono ?_
 clear HM
 rintro e w1 ⟨rfl,hb1⟩
 have hres:=qx hb1 HR0.out (by simp)
 have hz1:w.heap.size+2≤w1.heap.size:=by have:=hb1.size;simp at this;omega
 have hx1:w1.heap[w.heap.size]?=some (.cells #[.string s,.string t] 38 (0,0)):=by rw [hb1.block _ (by simp;omega)];exact HX0.out
 have HB1:=Lh (HB0.out.trans (hb1.mono (by simp;omega)))
 have HRS:=Lh (show w1.drew.rowIs _ _ _ _ from hres)
 clear hb1 HX0 HB0 HR0
 have q0:w1.cell? ⟨w.heap.size,0,none⟩=some (.string s):=qq (w:=w1) hx1 rfl
 have q1:w1.cell? ⟨w.heap.size,1,none⟩=some (.string t):=qq (w:=w1) hx1 rfl
 obtain ⟨r0,r1,r2,r3,r4⟩:=rc5 hres
 obtain ⟨f0,f1,f2,f3,f4⟩:=rf5 hres
 simp only [qs] at r0 r1 r2 r3 r4
 have p0:w.heap.size<w1.heap.size:=by omega
 have p1:w.heap.size+1<w1.heap.size:=by omega
 have a1:∀(a:Obj) (j:Nat),(w1.alloc a).cell? ⟨w.heap.size,j,none⟩=w1.cell? ⟨w.heap.size,j,none⟩:=fun a j=>qh a p0
 have a2:∀(a b:Obj) (j:Nat),((w1.alloc a).alloc b).cell? ⟨w.heap.size,j,none⟩=w1.cell? ⟨w.heap.size,j,none⟩:=fun a b j=>(ph w1 a b).cell p0
 have a3:∀(a b c:Obj) (j:Nat),(((w1.alloc a).alloc b).alloc c).cell? ⟨w.heap.size,j,none⟩=w1.cell? ⟨w.heap.size,j,none⟩:=fun a b c j=>(pu w1 a b c).cell p0
 have a4:∀(a b c d:Obj) (j:Nat),((((w1.alloc a).alloc b).alloc c).alloc d).cell? ⟨w.heap.size,j,none⟩=w1.cell? ⟨w.heap.size,j,none⟩:=fun a b c d j=>(xc w1 a b c d).cell p0
 have b4:∀(a b c d:Obj) (j:Nat),((((w1.alloc a).alloc b).alloc c).alloc d).cell? ⟨w.heap.size+1,j,none⟩=w1.cell? ⟨w.heap.size+1,j,none⟩:=fun a b c d j=>(xc w1 a b c d).cell p1
 have g4:∀(a b c d:Obj) (j:Nat),((((w1.alloc a).alloc b).alloc c).alloc d).frozen? ⟨w.heap.size+1,j,none⟩=w1.frozen? ⟨w.heap.size+1,j,none⟩:=fun a b c d j=>(xc w1 a b c d).frozen p1
 clear hres hx1
 go_wp2_with fail
 go_region_held3 (fun w'=>w'.cell? ⟨w.heap.size,0,none⟩=some (.string s)∧w'.cell? ⟨w.heap.size,1,none⟩=some (.string t)) ((go_keep;done)) ((go_at_call 160;(with_reducible refine (nu _ _).mono ?_);rintro e w2 ⟨rfl,rfl⟩))
 all_goals clear a1 a2 a3 a4 b4 g4
 all_goals go_wp2
 · refine bodyPost_ret (qj Tryz.results129 _ _ (w.heap.size+1) 25 #[.int .u8 5,.int .i64 0,.string ⟨#[]⟩,.slice (some ⟨w1.heap.size,0,none⟩) 2 2,.slice (some ⟨w1.heap.size+1+1+1,0,none⟩) 2 2] (0,0) _ rfl ?_ Tryz.underlying25 rfl (by kernel_rfl) _ rfl) rfl ⟨_,_,_,_,rfl,?_,?_⟩
   · exact uN hz1 HRS.out (xc w1 _ _ _ _)
   · exact uS hz1 (h40 w1 _ _ _ _) (h43 w1 _ _ _ _) (by omega) (by omega)
   · exact uA HB1.out (xc w1 _ _ _ _)
 · refine bodyPost_ret (qj Tryz.results129 _ _ (w.heap.size+1) 25 #[.int .u8 5,.int .i64 0,.string ⟨#[]⟩,.slice (some ⟨w1.heap.size+1,0,none⟩) 2 2,.slice (some ⟨w1.heap.size+1+1+1,0,none⟩) 2 2] (0,0) _ rfl ?_ Tryz.underlying25 rfl (by kernel_rfl) _ rfl) rfl ⟨_,_,_,_,rfl,?_,?_⟩
   · exact uN hz1 HRS.out (xc w1 _ _ _ _)
   · exact uS hz1 (h41 w1 _ _ _ _) (h43 w1 _ _ _ _) (by omega) (by omega)
   · exact uA HB1.out (xc w1 _ _ _ _)
 · refine bodyPost_ret (qj Tryz.results129 _ _ (w.heap.size+1) 25 #[.int .u8 5,.int .i64 0,.string ⟨#[]⟩,.slice (some ⟨w1.heap.size+1+1,0,none⟩) 2 2,.slice (some ⟨w1.heap.size+1+1+1,0,none⟩) 2 2] (0,0) _ rfl ?_ Tryz.underlying25 rfl (by kernel_rfl) _ rfl) rfl ⟨_,_,_,_,rfl,?_,?_⟩
   · exact uN hz1 HRS.out (xc w1 _ _ _ _)
   · exact uS hz1 (h42 w1 _ _ _ _) (h43 w1 _ _ _ _) (by omega) (by omega)
   · exact uA HB1.out (xc w1 _ _ _ _)
 · refine bodyPost_ret (qj Tryz.results129 _ _ (w.heap.size+1) 25 #[.int .u8 5,.int .i64 0,.string ⟨#[]⟩,.slice (some ⟨w1.heap.size+1+1+1,0,none⟩) 2 2,.slice (some ⟨w1.heap.size+1+1,0,none⟩) 2 2] (0,0) _ rfl ?_ Tryz.underlying25 rfl (by kernel_rfl) _ rfl) rfl ⟨_,_,_,_,rfl,?_,?_⟩
   · exact uN hz1 HRS.out (xc w1 _ _ _ _)
   · exact uS hz1 (h43 w1 _ _ _ _) (h42 w1 _ _ _ _) (by omega) (by omega)
   · exact uA HB1.out (xc w1 _ _ _ _)
end Go.Proofs.YtnlgmcapbbgelaaGreatDoor
