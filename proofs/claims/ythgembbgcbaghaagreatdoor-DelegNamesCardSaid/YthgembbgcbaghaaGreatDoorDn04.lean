import Derived.Test.YthgembbgcbaghaaGreatDoorDn03

namespace Go.Proofs.YthgembbgcbaghaaGreatDoor
open Go.RowKit
def xa (v0 v1 v2 v3:Value):Nat->Value
 | 0=>v0|1=>v1|2=>v2|_=>v3
theorem gR (w:World) (v0 v1 v2 v3:Value) (t:Nat):(w.alloc (.cells #[v0,v1,v2,v3] t)).rowIs w.heap.size t 4 (xa v0 v1 v2 v3):=jg rfl
theorem yt {w:World} {b t:Nat} {v0 v1 v2 v3:Value} (h:w.rowIs b t 4 (xa v0 v1 v2 v3)):w.heap[b]?=some (.cells #[v0,v1,v2,v3] t (0,0)):=by obtain ⟨c,d,g,f⟩:=h;have e:c=#[v0,v1,v2,v3]:=(by apply Array.ext (by simp [g]);intro i h1 h2;have:=f i (by omega);rw [V1 h1] at this;have a:=J0 this;rw [a];rcases i with _|_|_|_|i <;> first|rfl|(simp at h2;omega));rw [d,e]
theorem tK {W:World} {b t:Nat} {f:Nat->Value} (v0 v1 v2 v3:Value) (h:W.rowIs b t 4 f):((((W.setCell ⟨b,0,none⟩ v0).setCell ⟨b,1,none⟩ v1).setCell ⟨b,2,none⟩ v2).setCell ⟨b,3,none⟩ v3).rowIs b t 4 (xa v0 v1 v2 v3):=by refine ((((h.set 0 v0).set 1 v1).set 2 v2).set 3 v3).congr fun j hj=>?_;rcases j with _|_|_|_|j <;> first|rfl|omega
theorem mC {B:Nat} {a W:World} {b:Nat} (v0 v1 v2 v3:Value) (h:Below B a W) (c:B<=b):Below B a ((((W.setCell ⟨b,0,none⟩ v0).setCell ⟨b,1,none⟩ v1).setCell ⟨b,2,none⟩ v2).setCell ⟨b,3,none⟩ v3):=((((h.setCell c v0).setCell c v1).setCell c v2).setCell c v3)
theorem ii {W:World} {b k:Nat} (v0 v1 v2 v3:Value) (a:k≠b):((((W.setCell ⟨b,0,none⟩ v0).setCell ⟨b,1,none⟩ v1).setCell ⟨b,2,none⟩ v2).setCell ⟨b,3,none⟩ v3).heap[k]?=W.heap[k]?:=by rw [Q5 _ _ _ _ a,Q5 _ _ _ _ a,Q5 _ _ _ _ a,Q5 _ _ _ _ a]
theorem io {W:World} {b:Nat} {v0 v1 v2 v3:Value}:((((W.setCell ⟨b,0,none⟩ v0).setCell ⟨b,1,none⟩ v1).setCell ⟨b,2,none⟩ v2).setCell ⟨b,3,none⟩ v3).heap.size=W.heap.size:=by simp [World.setCell]
def iQ (w:World) (b off m:Nat):Prop:=∃cs t,w.heap[b]?=some (.cells cs t (0,0))/\off+m<=cs.size
theorem sC:(Tryz.prog.info? 43).map (fun i=>(i.zero,i.size,i.bytes))=some (some (.agg #[.string ⟨#[]⟩,.string ⟨#[]⟩]),2,32):=by kernel_rfl
def aI (r:JV × Int) (w:World) (e:Ending) (w':World):Prop :=
 ∃an cn ai ci,e=.returned (.tuple #[.agg #[.int .u8 r.1.kind,.int .i64 r.1.n,.string r.1.t,.slice an r.1.names.length cn,.slice ai r.1.items.length ci],.int .i64 r.2]) /\
  Rep w' w.heap.size w'.heap.size r.1 (.agg #[.int .u8 r.1.kind,.int .i64 r.1.n,.string r.1.t,.slice an r.1.names.length cn,.slice ai r.1.items.length ci])/\O5 w w'
theorem mD {a:Int} {w:World} {e:Ending} {w':World} (b:e=.returned (.tuple #[.agg #[.int .u8 0,.int .i64 0,.string ⟨#[]⟩,.slice none 0 0,.slice none 0 0],.int .i64 a])/\O5 w w'):aI (qF,a) w e w' :=
 ⟨none,0,none,0,b.1,wn _ _ _,b.2⟩
