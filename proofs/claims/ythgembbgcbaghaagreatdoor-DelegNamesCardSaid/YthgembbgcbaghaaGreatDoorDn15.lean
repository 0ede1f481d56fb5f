import Derived.Test.YthgembbgcbaghaaGreatDoorDn14

namespace Go.Proofs.YthgembbgcbaghaaGreatDoor
open Go.RowKit Go.Shelf Go.Sort
def txtJ (t:ByteArray):JV:=.mk 3 0 t [] []
theorem vH (w:World) (lo hi:Nat) (t:ByteArray):Rep w lo hi (txtJ t) (.agg #[.int .u8 3,.int .i64 0,.string t,.slice none 0 0,.slice none 0 0]):=by unfold txtJ Rep;exact ⟨none,0,none,0,rfl,Z9 _,Z9 _,.inl rfl,.inl rfl⟩
def jC (nm t:ByteArray):Mem:=⟨nm,3,0,t,none,0,0,none,0,0⟩
theorem m6 {w:World} {a T:Nat} {d:Array Mem} (h:w.heap[a]?=some (.cells (flatK qU 6 d) T (0,0))):HoldsK qU 6 w a 0 d:=fun j hj=>by
 refine ⟨?_,by simp [World.frozen?,h]⟩;have e:(flatK qU 6 d)[j]?=some (flatK qU 6 d)[j]!:=by rw [getElem!_pos _ j hj,V1 hj]
 simp [World.cell?,h,e]
theorem rI (a b:Mem):flatK qU 6 #[a,b]=#[.string a.name,.int .u8 a.k,.int .i64 a.n,.string a.t,.slice a.an a.nn a.cn,.slice a.ai a.ni a.ci,.string b.name,.int .u8 b.k,.int .i64 b.n,.string b.t,.slice b.an b.nn b.cn,.slice b.ai b.ni b.ci]:=by
 apply Array.ext
 . simp
 . intro i h1 h2;have c:i<12:=by simpa using h2
   simp only [flatK,Array.getElem_map,Array.getElem_range]
   match i,c with
   | 0,_=>rfl
   | 1,_=>rfl
   | 2,_=>rfl
   | 3,_=>rfl
   | 4,_=>rfl
   | 5,_=>rfl
   | 6,_=>rfl
   | 7,_=>rfl
   | 8,_=>rfl
   | 9,_=>rfl
   | 10,_=>rfl
   | 11,_=>rfl
theorem tq {W:World} {b:Nat} {v0 v1 v2 v3 v4:Value}:(((((W.setCell ⟨b,0,none⟩ v0).setCell ⟨b,1,none⟩ v1).setCell ⟨b,2,none⟩ v2).setCell ⟨b,3,none⟩ v3).setCell ⟨b,4,none⟩ v4).heap.size=W.heap.size:=by simp [World.setCell]
