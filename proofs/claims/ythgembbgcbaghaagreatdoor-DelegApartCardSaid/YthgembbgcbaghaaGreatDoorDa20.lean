/- The contract of value.Copy for a value that came in, whatever marks its blocks bear: an Item that is nested two deep, or more, may have become zero (the model draws how two marked blocks' pointers compare). -/
import Derived.Test.YthgembbgcbaghaaGreatDoorDa07
import Derived.Test.YthgembbgcbaghaaGreatDoorDa01

namespace Go.Proofs.YthgembbgcbaghaaGreatDoor
open Go.RowKit
def ro (it it':JV):Prop:=it'=it∨(it'=zx∧¬bD 0 it)
structure WeakCopy (v v':JV):Prop where
 kind:v'.kind=v.kind
 n:v'.n=v.n
 t:v'.t=v.t
 names:v'.names=v.names
 len:v'.items.length=v.items.length
 items:∀j (h:j<v'.items.length) (h':j<v.items.length),ro v.items[j] v'.items[j]
end Go.Proofs.YthgembbgcbaghaaGreatDoor
