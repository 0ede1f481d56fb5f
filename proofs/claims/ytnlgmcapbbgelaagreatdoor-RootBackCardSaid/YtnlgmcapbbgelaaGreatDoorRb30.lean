/- The contract of legateref02.step. -/
import Derived.Test.YtnlgmcapbbgelaaGreatDoorRb28
import Derived.Test.YtnlgmcapbbgelaaGreatDoorRb29
import Derived.Test.YtnlgmcapbbgelaaGreatDoorRb03
import Derived.Deep.MidRow

namespace Go.Proofs.YtnlgmcapbbgelaaGreatDoor
open Go.RowKit
section
variable {P : Program}
end
def sCells (s : S8) : Array Value := ((List.range 8).map fun j => Value.int .u32 (s.at j)).toArray
structure R1 (W : World) (s : S8) (p : Nat → Int) (blk : ByteArray) (d : Nat → Prop) (w : World) (x5 x6 x7 x14 x15 x16 x17 : Value) (b5 b6 b7 : Nat) : Prop where
 bel : Below W.heap.size W w
 rh : w.rowIs W.heap.size 211 8 (fun j => .int .u32 (s.at j))
 rr : w.rowIs (W.heap.size + 1) 211 8 (fun _ => .int .u32 0)
 v0 : d 0 → x14 = .string blk
 v1 : d 1 → x15 = .agg (wCells p)
 v2 : d 2 → x16 = .agg kCells
 v3 : d 3 → x17 = .agg (sCells s)
 p4 : d 4 → x5 = .pointer (some ⟨b5, 0, none⟩) ∧ W.heap.size + 1 < b5 ∧ ∃ f, w.rowIs b5 238 64 f
 p5 : d 5 → x6 = .pointer (some ⟨b6, 0, none⟩) ∧ W.heap.size + 1 < b6 ∧ ∃ f, w.rowIs b6 238 64 f
 p6 : d 6 → x7 = .pointer (some ⟨b7, 0, none⟩) ∧ W.heap.size + 1 < b7 ∧ ∃ f, w.rowIs b7 211 8 f
 n45 : d 4 → d 5 → b5 ≠ b6
 n46 : d 4 → d 6 → b5 ≠ b7
 n56 : d 5 → d 6 → b6 ≠ b7
 s7 : d 7 → d 4 ∧ w.rowIs b5 238 64 (fun j => .int .u32 (wrd p j))
 s8 : d 8 → d 5 ∧ w.rowIs b6 238 64 (fun j => .int .u32 (kay j))
section
variable {W w w' : World} {s : S8} {p : Nat → Int} {blk : ByteArray} {d : Nat → Prop} {x5 x6 x7 x14 x15 x16 x17 : Value} {b5 b6 b7 : Nat}
theorem R1.below (h : R1 W s p blk d w x5 x6 x7 x14 x15 x16 x17 b5 b6 b7) (hb : Below w.heap.size w w') : R1 W s p blk d w' x5 x6 x7 x14 x15 x16 x17 b5 b6 b7 where
 bel := h.bel.trans (hb.mono h.bel.size)
 rh := below_row hb h.rh h.rh.lt
 rr := below_row hb h.rr h.rr.lt
 v0 := h.v0
 v1 := h.v1
 v2 := h.v2
 v3 := h.v3
 p4 := fun q => let ⟨a, b, f, r⟩ := h.p4 q; ⟨a, b, f, below_row hb r r.lt⟩
 p5 := fun q => let ⟨a, b, f, r⟩ := h.p5 q; ⟨a, b, f, below_row hb r r.lt⟩
 p6 := fun q => let ⟨a, b, f, r⟩ := h.p6 q; ⟨a, b, f, below_row hb r r.lt⟩
 n45 := h.n45
 n46 := h.n46
 n56 := h.n56
 s7 := fun q => let ⟨a, r⟩ := h.s7 q; ⟨a, below_row hb r r.lt⟩
 s8 := fun q => let ⟨a, r⟩ := h.s8 q; ⟨a, below_row hb r r.lt⟩
end
end Go.Proofs.YtnlgmcapbbgelaaGreatDoor
