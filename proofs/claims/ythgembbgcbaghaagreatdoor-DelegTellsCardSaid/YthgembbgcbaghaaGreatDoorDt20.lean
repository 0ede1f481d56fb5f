import Derived.Test.YthgembbgcbaghaaGreatDoorDt07
import Derived.Test.YthgembbgcbaghaaGreatDoorDt01

namespace Go.Proofs.YthgembbgcbaghaaGreatDoor
open Go.RowKit
def tH (it it':JV):Prop:=it'=it\/(it'=zo/\¬cY 0 it)
structure WeakCopy (v v':JV):Prop where
 kind:v'.kind=v.kind
 n:v'.n=v.n
 t:v'.t=v.t
 names:v'.names=v.names
 len:v'.items.length=v.items.length
 items:∀j (h:j<v'.items.length) (h':j<v.items.length),tH v.items[j] v'.items[j]
end Go.Proofs.YthgembbgcbaghaaGreatDoor
