import Derived.Test.YthgembbgcbaghaaGreatDoorDg14

namespace Go.Proofs.YthgembbgcbaghaaGreatDoor
open Go.RowKit Go.Shelf Go.Sort
def txtJ (t:ByteArray):JV:=.mk 3 0 t [] []
theorem jI (w:World) (lo hi:Nat) (t:ByteArray):Rep w lo hi (txtJ t) (.agg #[.int .u8 3,.int .i64 0,.string t,.slice none 0 0,.slice none 0 0]):=by unfold txtJ Rep;exact ⟨none,0,none,0,rfl,J9 _,J9 _,.inl rfl,.inl rfl⟩
def xf (nm t:ByteArray):Mem:=⟨nm,3,0,t,none,0,0,none,0,0⟩
theorem nz {w:World} {a T:Nat} {d:Array Mem} (h:w.heap[a]?=some (.cells (flatK qW 6 d) T (0,0))):HoldsK qW 6 w a 0 d:=fun j hj=>by
 refine ⟨?_,by simp [World.frozen?,h]⟩;have e:(flatK qW 6 d)[j]?=some (flatK qW 6 d)[j]!:=by rw [getElem!_pos _ j hj,K0 hj]
 simp [World.cell?,h,e]
theorem ox (a b:Mem):flatK qW 6 #[a,b]=#[.string a.name,.int .u8 a.k,.int .i64 a.n,.string a.t,.slice a.an a.nn a.cn,.slice a.ai a.ni a.ci,.string b.name,.int .u8 b.k,.int .i64 b.n,.string b.t,.slice b.an b.nn b.cn,.slice b.ai b.ni b.ci]:=by
 apply Array.ext
 . simp
 . intro i h1 h2;have c:i<12:=by simpa using h2
   simp only [flatK,Array.getElem_map,Array.getElem_range]
   match i,c with
   | 0,_=>rfl
   | 1,_=>rfl
   | 2,_=>rfl
   | 3,_=>rfl
   | 4,_=>rfl
   | 5,_=>rfl
   | 6,_=>rfl
   | 7,_=>rfl
   | 8,_=>rfl
   | 9,_=>rfl
   | 10,_=>rfl
   | 11,_=>rfl
theorem h40 (w:World) (a b c d:Obj):((((w.alloc a).alloc b).alloc c).alloc d).heap[w.heap.size]?=some a:=by rw [Y4 _ _ _ (by simp <;> omega),Y4 _ _ _ (by simp <;> omega),Y4 _ _ _ (by simp)];exact J2 w a
theorem h41 (w:World) (a b c d:Obj):((((w.alloc a).alloc b).alloc c).alloc d).heap[w.heap.size+1]?=some b:=by rw [Y4 _ _ _ (by simp <;> omega),Y4 _ _ _ (by simp)];have:=J2 (w.alloc a) b;rwa [show (w.alloc a).heap.size=w.heap.size+1 by simp] at this
theorem h42 (w:World) (a b c d:Obj):((((w.alloc a).alloc b).alloc c).alloc d).heap[w.heap.size+1+1]?=some c:=by rw [Y4 _ _ _ (by simp)];have:=J2 ((w.alloc a).alloc b) c;rwa [show ((w.alloc a).alloc b).heap.size=w.heap.size+1+1 by simp] at this
theorem h43 (w:World) (a b c d:Obj):((((w.alloc a).alloc b).alloc c).alloc d).heap[w.heap.size+1+1+1]?=some d:=by have:=J2 (((w.alloc a).alloc b).alloc c) d;rwa [show (((w.alloc a).alloc b).alloc c).heap.size=w.heap.size+1+1+1 by simp] at this
theorem fV (w:World) (a b:Obj):O5 w ((w.alloc a).alloc b):=(O4).alloc (by simp) _
theorem fW (w:World) (a b c:Obj):O5 w (((w.alloc a).alloc b).alloc c):=(fV w a b).alloc (fV w a b).size _
theorem xM (w:World) (a b c d:Obj):O5 w ((((w.alloc a).alloc b).alloc c).alloc d):=(fW w a b c).alloc (fW w a b c).size _
theorem ow {W:World} {b c:Nat} {o:Obj} {v0 v1 v2 v3 v4:Value} (a:c≠b) (h:W.heap[c]?=some o) :
 (((((W.setCell ⟨b,0,none⟩ v0).setCell ⟨b,1,none⟩ v1).setCell ⟨b,2,none⟩ v2).setCell ⟨b,3,none⟩ v3).setCell ⟨b,4,none⟩ v4).heap[c]?=some o:=by
 rw [X5 _ _ _ _ a,X5 _ _ _ _ a,X5 _ _ _ _ a,X5 _ _ _ _ a,X5 _ _ _ _ a];exact h
theorem si {W:World} {b:Nat} {v0 v1 v2 v3 v4:Value}:(((((W.setCell ⟨b,0,none⟩ v0).setCell ⟨b,1,none⟩ v1).setCell ⟨b,2,none⟩ v2).setCell ⟨b,3,none⟩ v3).setCell ⟨b,4,none⟩ v4).heap.size=W.heap.size:=by simp [World.setCell]
theorem oy {W:World} {lo:Nat} {v:JV} {x:Value} (h:Rep W lo W.heap.size v x):Rep W.drew lo W.drew.heap.size v x:=Rep.carry (w:=W) (w':=W.drew) lz lz (fun _ _ _=>rfl) v x h
