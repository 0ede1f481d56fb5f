/- What pin an object is, hashes and all, plain. No program in sight. -/
import Derived.Test.YthgembbgcbaghaaGreatDoorDn18

namespace Go.Proofs.YthgembbgcbaghaaGreatDoor
open Go.RowKit
theorem mq:∀ {ns:List ByteArray} {xs:List JV} {y:ByteArray} {x:JV},qB ns xs y=some x→x.wt≤JV.wts xs
 | n :: ns,z :: xs,y,x,h=>by
  rw [qB] at h
  simp only [JV.wts]
  split at h
  · injection h with h;subst h;omega
  · have:=mq h;omega
theorem pz {v:JV} {y:ByteArray} {most:Nat} {st:PS} (h:v.wt≤4294967296):(qr v y most st).1.wt≤4294967296:=by
 have hz:qi.wt≤4294967296:=by decide
 have h2:=v.wt_bd
 unfold qr
 split
 · exact hz
 · split
   · exact hz
   · rename_i it hit
     have:=mq (show qB v.names v.items y=some it from hit)
     split
     · exact hz
     · split
       · exact hz
       · show it.wt≤_;omega
end Go.Proofs.YthgembbgcbaghaaGreatDoor
