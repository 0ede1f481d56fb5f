import Derived.Test.YthgembbgcbaghaaGreatDoorDn07
import Derived.Test.YthgembbgcbaghaaGreatDoorDn01

namespace Go.Proofs.YthgembbgcbaghaaGreatDoor
open Go.RowKit
def nw (it it':JV):Prop:=it'=it\/(it'=qF/\¬uy 0 it)
structure WeakCopy (v v':JV):Prop where
 kind:v'.kind=v.kind
 n:v'.n=v.n
 t:v'.t=v.t
 names:v'.names=v.names
 len:v'.items.length=v.items.length
 items:∀j (h:j<v'.items.length) (h':j<v.items.length),nw v.items[j] v'.items[j]
