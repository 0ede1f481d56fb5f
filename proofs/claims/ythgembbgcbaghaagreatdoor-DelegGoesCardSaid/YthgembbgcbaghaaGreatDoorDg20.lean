import Derived.Test.YthgembbgcbaghaaGreatDoorDg07
import Derived.Test.YthgembbgcbaghaaGreatDoorDg01

namespace Go.Proofs.YthgembbgcbaghaaGreatDoor
open Go.RowKit
def ot (it it':JV):Prop:=it'=it\/(it'=zJ/\¬dc 0 it)
structure WeakCopy (v v':JV):Prop where
 kind:v'.kind=v.kind
 n:v'.n=v.n
 t:v'.t=v.t
 names:v'.names=v.names
 len:v'.items.length=v.items.length
 items:∀j (h:j<v'.items.length) (h':j<v.items.length),ot v.items[j] v'.items[j]
