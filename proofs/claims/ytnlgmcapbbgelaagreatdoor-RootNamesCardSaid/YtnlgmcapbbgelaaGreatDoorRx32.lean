/- The contract of legateref02.step. -/
import Derived.Test.YtnlgmcapbbgelaaGreatDoorRx30
import Derived.Test.YtnlgmcapbbgelaaGreatDoorRx31
import Derived.Deep.MidRow

namespace Go.Proofs.YtnlgmcapbbgelaaGreatDoor
open Go.RowKit
section
variable {P:Program}
end
def aw (s:S8):Array Value:=((List.range 8).map fun j=>Value.int .u32 (s.at j)).toArray
structure R1 (W:World) (s:S8) (p:Nat→Int) (blk:ByteArray) (d:Nat→Prop) (w:World) (x5 x6 x7 x14 x15 x16 x17:Value) (b5 b6 b7:Nat):Prop where
 bel:Below W.heap.size W w
 rh:w.rowIs W.heap.size 211 8 (fun j=>.int .u32 (s.at j))
 rr:w.rowIs (W.heap.size+1) 211 8 (fun _=>.int .u32 0)
 v0:d 0→x14=.string blk
 v1:d 1→x15=.agg (aj p)
 v2:d 2→x16=.agg ak
 v3:d 3→x17=.agg (aw s)
 p4:d 4→x5=.pointer (some ⟨b5,0,none⟩)∧W.heap.size+1<b5∧∃f,w.rowIs b5 238 64 f
 p5:d 5→x6=.pointer (some ⟨b6,0,none⟩)∧W.heap.size+1<b6∧∃f,w.rowIs b6 238 64 f
 p6:d 6→x7=.pointer (some ⟨b7,0,none⟩)∧W.heap.size+1<b7∧∃f,w.rowIs b7 211 8 f
 n45:d 4→d 5→b5≠b6
 n46:d 4→d 6→b5≠b7
 n56:d 5→d 6→b6≠b7
 s7:d 7→d 4∧w.rowIs b5 238 64 (fun j=>.int .u32 (wrd p j))
 s8:d 8→d 5∧w.rowIs b6 238 64 (fun j=>.int .u32 (kay j))
section
variable {W w w':World} {s:S8} {p:Nat→Int} {blk:ByteArray} {d:Nat→Prop} {x5 x6 x7 x14 x15 x16 x17:Value} {b5 b6 b7:Nat}
end
end Go.Proofs.YtnlgmcapbbgelaaGreatDoor
