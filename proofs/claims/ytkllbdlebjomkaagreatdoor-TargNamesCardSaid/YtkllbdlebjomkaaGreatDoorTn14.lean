import Derived.Test.YtkllbdlebjomkaaGreatDoorTn13
import Derived.Test.YtkllbdlebjomkaaGreatDoorTn03

namespace Go.Proofs.YtkllbdlebjomkaaGreatDoor
open Go.RowKit Go.Shelf Go.Sort
def txtJ (t:ByteArray):JV:=.mk 3 0 t [] []
theorem jZ (w:World) (lo hi:Nat) (t:ByteArray):Rep w lo hi (txtJ t) (.agg #[.int .u8 3,.int .i64 0,.string t,.slice none 0 0,.slice none 0 0]):=by unfold txtJ Rep;exact ⟨none,0,none,0,rfl,J2 _,J2 _,.inl rfl,.inl rfl⟩
def xP (nm t:ByteArray):Mem:=⟨nm,3,0,t,none,0,0,none,0,0⟩
theorem rv {w:World} {a T:Nat} {d:Array Mem} (h:w.heap[a]?=some (.cells (flatK qY 6 d) T (0,0))):HoldsK qY 6 w a 0 d:=fun j hj=>by
 refine ⟨?_,by simp [World.frozen?,h]⟩;have e:(flatK qY 6 d)[j]?=some (flatK qY 6 d)[j]!:=by rw [getElem!_pos _ j hj,K7 hj]
 simp [World.cell?,h,e]
theorem tV (a b:Mem):flatK qY 6 #[a,b]=#[.string a.name,.int .u8 a.k,.int .i64 a.n,.string a.t,.slice a.an a.nn a.cn,.slice a.ai a.ni a.ci,.string b.name,.int .u8 b.k,.int .i64 b.n,.string b.t,.slice b.an b.nn b.cn,.slice b.ai b.ni b.ci]:=by
 apply Array.ext
 . simp
 . intro i h1 h2;have c:i<12:=by simpa using h2
   simp only [flatK,Array.getElem_map,Array.getElem_range]
   match i,c with
   | 0,_=>rfl
   | 1,_=>rfl
   | 2,_=>rfl
   | 3,_=>rfl
   | 4,_=>rfl
   | 5,_=>rfl
   | 6,_=>rfl
   | 7,_=>rfl
   | 8,_=>rfl
   | 9,_=>rfl
   | 10,_=>rfl
   | 11,_=>rfl
theorem gI (t:ByteArray) (w:World):Calls Tryz.prog 55 #[.string t] w fun e w'=>e=.returned (.agg #[.int .u8 3,.int .i64 0,.string t,.slice none 0 0,.slice none 0 0])/\O5 w w' :=
 (kZ t w).mono fun e w' h=>⟨h.1,by rw [h.2];exact O4⟩
theorem eN {W:World} {b:Nat} {v0 v1 v2 v3 v4:Value}:(((((W.setCell ⟨b,0,none⟩ v0).setCell ⟨b,1,none⟩ v1).setCell ⟨b,2,none⟩ v2).setCell ⟨b,3,none⟩ v3).setCell ⟨b,4,none⟩ v4).heap.size=W.heap.size:=by simp [World.setCell]
theorem vC {W wr w':World} {row:Option Nat} {b j:Nat} {u:Value} (h:W.grownBy w' row) (c:O5 wr W) (a:b<wr.heap.size) (e:some b≠row) (d:wr.cell? ⟨b,j,none⟩=some u):w'.cell? ⟨b,j,none⟩=some u:=by rw [G5 (w:=wr) (show w'.heap[b]?=wr.heap[b]? by rw [h.block b (X1 a c.size) e,c.block b a])];exact d
theorem jE {W wr w':World} {row:Option Nat} {b j:Nat} (h:W.grownBy w' row) (c:O5 wr W) (a:b<wr.heap.size) (f:some b≠row) (d:wr.frozen? ⟨b,j,none⟩=false):w'.frozen? ⟨b,j,none⟩=false:=by
 have e:w'.heap[b]?=wr.heap[b]?:=by rw [h.block b (X1 a c.size) f,c.block b a]
 unfold World.frozen? at d ⊢;rw [e];exact d
