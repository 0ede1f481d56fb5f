/- What pin an object is, hashes and all, plain. No program in sight. -/
import Derived.Test.YthgembbgcbaghaaGreatDoorDi18

namespace Go.Proofs.YthgembbgcbaghaaGreatDoor
open Go.RowKit
theorem uq:∀ {ns:List ByteArray} {xs:List JV} {y:ByteArray} {x:JV},qC ns xs y=some x→x.wt≤JV.wts xs
 | n :: ns,z :: xs,y,x,h=>by
  rw [qC] at h
  simp only [JV.wts]
  split at h
  · injection h with h;subst h;omega
  · have:=uq h;omega
theorem gO {v:JV} {y:ByteArray} {most:Nat} {st:PS} (h:v.wt≤4294967296):(qd v y most st).1.wt≤4294967296:=by
 have hz:zf.wt≤4294967296:=by decide
 have h2:=v.wt_bd
 unfold qd
 split
 · exact hz
 · split
   · exact hz
   · rename_i it hit
     have:=uq (show qC v.names v.items y=some it from hit)
     split
     · exact hz
     · split
       · exact hz
       · show it.wt≤_;omega
end Go.Proofs.YthgembbgcbaghaaGreatDoor
