import Derived.Test.YtkllbdlebjomkaaGreatDoorTn01

namespace Go.Proofs.YtkllbdlebjomkaaGreatDoor
open Go.RowKit
abbrev V5:=Value × Value × Value × Value × Value
theorem cell_of {w:World} {b T j:Nat} {cs:List Value} {u:Value} (h:w.heap[b]?=some (.cells cs.toArray T (0,0))) (a:cs[j]?=some u):w.cell? ⟨b,j,none⟩=some u:=by simp [World.cell?,h,a]
theorem cD {w:World} {lo hi a T1:Nat} (ns:List ByteArray) (b:lo<=a) (c:a<hi) (d:w.heap[a]?=some (.cells (ns.map Value.string).toArray T1 (0,0))):qy w lo hi (some ⟨a,0,none⟩) ns :=
 .inr ⟨a,0,rfl,b,c,fun i hi'=>by rw [za9];exact cell_of d (by simp [hi'])⟩
def wX:Nat->Code->Code
 | 0,c=>c
 | n+1,.seq _ b=>wX n b
 | _+1,_=>.skip
