/- Four blocks laid behind a world, and an object of two texts out of its two rows. No program in sight. -/
import Derived.Test.YthgembbgcbaghaaGreatDoorDi14

namespace Go.Proofs.YthgembbgcbaghaaGreatDoor
open Go.RowKit Go.Shelf Go.Sort
def txtJ (t:ByteArray):JV:=.mk 3 0 t [] []
theorem wG (w:World) (lo hi:Nat) (t:ByteArray):Rep w lo hi (txtJ t) (.agg #[.int .u8 3,.int .i64 0,.string t,.slice none 0 0,.slice none 0 0]):=by
 unfold txtJ Rep
 exact ⟨none,0,none,0,rfl,Nat.le_refl _,Nat.le_refl _,.inl rfl,.inl rfl⟩
def jZ (nm t:ByteArray):Mem:=⟨nm,3,0,t,none,0,0,none,0,0⟩
theorem mD {w:World} {blk T:Nat} {d:Array Mem} (h:w.heap[blk]?=some (.cells (flatK qW 6 d) T (0,0))):HoldsK qW 6 w blk 0 d:=fun j hj=>by
 refine ⟨?_,by simp [World.frozen?,h]⟩
 have e:(flatK qW 6 d)[j]?=some (flatK qW 6 d)[j]!:=by rw [getElem!_pos _ j hj,Array.getElem?_eq_getElem hj]
 simp [World.cell?,h,e]
theorem rP (a b:Mem):flatK qW 6 #[a,b]=#[.string a.name,.int .u8 a.k,.int .i64 a.n,.string a.t,.slice a.an a.nn a.cn,.slice a.ai a.ni a.ci,.string b.name,.int .u8 b.k,.int .i64 b.n,.string b.t,.slice b.an b.nn b.cn,.slice b.ai b.ni b.ci]:=by
 apply Array.ext
 · simp
 · intro i h1 h2
   have h3:i<12:=by simpa using h2
   simp only [flatK,Array.getElem_map,Array.getElem_range]
   match i,h3 with
   | 0,_=>rfl
   | 1,_=>rfl
   | 2,_=>rfl
   | 3,_=>rfl
   | 4,_=>rfl
   | 5,_=>rfl
   | 6,_=>rfl
   | 7,_=>rfl
   | 8,_=>rfl
   | 9,_=>rfl
   | 10,_=>rfl
   | 11,_=>rfl
end Go.Proofs.YthgembbgcbaghaaGreatDoor

namespace Go.Proofs.YthgembbgcbaghaaGreatDoor
open Go.RowKit
theorem h40 (w:World) (a b c d:Obj):((((w.alloc a).alloc b).alloc c).alloc d).heap[w.heap.size]?=some a:=by
 rw [Below.heap_alloc _ _ _ (by simp <;> omega),Below.heap_alloc _ _ _ (by simp <;> omega),Below.heap_alloc _ _ _ (by simp)];exact heap_alloc_new w a
theorem aF {W:World} {b:Nat} {v0 v1 v2 v3 v4:Value}:(((((W.setCell ⟨b,0,none⟩ v0).setCell ⟨b,1,none⟩ v1).setCell ⟨b,2,none⟩ v2).setCell ⟨b,3,none⟩ v3).setCell ⟨b,4,none⟩ v4).heap.size=W.heap.size:=by simp [World.setCell]
end Go.Proofs.YthgembbgcbaghaaGreatDoor
