/- The contract of value.Copy for a value that came in, whatever marks its blocks bear: an Item that is nested two deep, or more, may have become zero (the model draws how two marked blocks' pointers compare). -/
import Derived.Test.YthgembbgcbaghaaGreatDoorDi07
import Derived.Test.YthgembbgcbaghaaGreatDoorDi01

namespace Go.Proofs.YthgembbgcbaghaaGreatDoor
open Go.RowKit
def rN (it it':JV):Prop:=it'=it∨(it'=zf∧¬fL 0 it)
structure WeakCopy (v v':JV):Prop where
 kind:v'.kind=v.kind
 n:v'.n=v.n
 t:v'.t=v.t
 names:v'.names=v.names
 len:v'.items.length=v.items.length
 items:∀j (h:j<v'.items.length) (h':j<v.items.length),rN v.items[j] v'.items[j]
end Go.Proofs.YthgembbgcbaghaaGreatDoor
