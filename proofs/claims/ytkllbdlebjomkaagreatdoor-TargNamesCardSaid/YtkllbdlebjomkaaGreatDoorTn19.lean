import Derived.Test.YtkllbdlebjomkaaGreatDoorTn08
import Derived.Test.YtkllbdlebjomkaaGreatDoorTn01

namespace Go.Proofs.YtkllbdlebjomkaaGreatDoor
open Go.RowKit
def tF (it it':JV):Prop:=it'=it\/(it'=zeroJ/\¬cV 0 it)
structure WeakCopy (v v':JV):Prop where
 kind:v'.kind=v.kind
 n:v'.n=v.n
 t:v'.t=v.t
 names:v'.names=v.names
 len:v'.items.length=v.items.length
 items:∀j (h:j<v'.items.length) (h':j<v.items.length),tF v.items[j] v'.items[j]
