/- A row of six cells each that is appended to twice in a region whose order is drawn (DelegMore). Printed by mkchain6.py. No program in sight. -/
import Derived.Test.YthgembbgcbaghaaGreatDoorDm03

namespace Go.Proofs.YthgembbgcbaghaaGreatDoor
open Go.RowKit
def xg (v0 v1 v2 v3:Value):Nat→Value
 | 0=>v0|1=>v1|2=>v2|_=>v3
theorem gG (w:World) (v0 v1 v2 v3:Value) (t:Nat):(w.alloc (.cells #[v0,v1,v2,v3] t)).rowIs w.heap.size t 4 (xg v0 v1 v2 v3):=xT rfl
theorem yw {w:World} {b t:Nat} {v0 v1 v2 v3:Value} (h:w.rowIs b t 4 (xg v0 v1 v2 v3)):w.heap[b]?=some (.cells #[v0,v1,v2,v3] t (0,0)):=by
 obtain ⟨c,hc,hn,hf⟩:=h
 have e:c=#[v0,v1,v2,v3]:=by
  apply Array.ext (by simp [hn])
  intro i h1 h2
  have:=hf i (by omega)
  rw [Array.getElem?_eq_getElem h1] at this
  have h3:=Option.some.inj this
  rw [h3]
  rcases i with _|_|_|_|i <;> first|rfl|(simp at h2;omega)
 rw [hc,e]
theorem ar {W:World} {b t:Nat} {f:Nat→Value} (v0 v1 v2 v3:Value) (h:W.rowIs b t 4 f):((((W.setCell ⟨b,0,none⟩ v0).setCell ⟨b,1,none⟩ v1).setCell ⟨b,2,none⟩ v2).setCell ⟨b,3,none⟩ v3).rowIs b t 4 (xg v0 v1 v2 v3):=by
 refine ((((h.set 0 v0).set 1 v1).set 2 v2).set 3 v3).congr fun j hj=>?_
 rcases j with _|_|_|_|j <;> first|rfl|omega
theorem ma {B:Nat} {a W:World} {b:Nat} (v0 v1 v2 v3:Value) (h:Below B a W) (hb:B≤b):Below B a ((((W.setCell ⟨b,0,none⟩ v0).setCell ⟨b,1,none⟩ v1).setCell ⟨b,2,none⟩ v2).setCell ⟨b,3,none⟩ v3):=((((h.setCell hb v0).setCell hb v1).setCell hb v2).setCell hb v3)
theorem tg {W:World} {b k:Nat} (v0 v1 v2 v3:Value) (hk:k≠b):((((W.setCell ⟨b,0,none⟩ v0).setCell ⟨b,1,none⟩ v1).setCell ⟨b,2,none⟩ v2).setCell ⟨b,3,none⟩ v3).heap[k]?=W.heap[k]?:=by
 rw [Below.heap_setCell _ _ _ _ hk,Below.heap_setCell _ _ _ _ hk,Below.heap_setCell _ _ _ _ hk,Below.heap_setCell _ _ _ _ hk]
theorem tp {W:World} {b:Nat} {v0 v1 v2 v3:Value}:((((W.setCell ⟨b,0,none⟩ v0).setCell ⟨b,1,none⟩ v1).setCell ⟨b,2,none⟩ v2).setCell ⟨b,3,none⟩ v3).heap.size=W.heap.size:=by simp [World.setCell]
def gv (wb:World) (V:List (Option Value)) (d:Nat→Prop) (w':World) (xs:List Value):Prop :=
 Below wb.heap.size wb w'∧xs.length=V.length∧∀(j:Nat) (v x:Value),V[j]?=some (some v)→xs[j]?=some x→d j→x=v
theorem gv.first (wb:World) (V:List (Option Value)) (xs:List Value) (h:xs.length=V.length):gv wb V (fun _=>False) wb.drew xs:=⟨(Below.refl _ _).drew,h,fun _ _ _ _ _ hd=>hd.elim⟩
theorem gv.get {wb w':World} {V:List (Option Value)} {d:Nat→Prop} {xs:List Value} (h:gv wb V d w' xs) (j:Nat) (hd:d j) (v:Value) (hV:V[j]?=some (some v)) (x:Value) (hx:xs[j]?=some x):x=v:=h.2.2 j v x hV hx hd
theorem gv.did {wb w' w'':World} {V:List (Option Value)} {d:Nat→Prop} {xs:List Value} (h:gv wb V d w' xs) (hb:Below wb.heap.size wb w'') (j:Nat) (y:Value) (o:Option Value) (hV:V[j]?=some o) (hy:∀v,o=some v→y=v):gv wb V (fun i=>i=j∨d i) w'' (xs.set j y):=by
 refine ⟨hb,by rw [List.length_set];exact h.2.1,fun i v x hm hx hd=>?_⟩
 by_cases e:i=j
 · subst e
   rw [hV] at hm
   have hl:i<xs.length:=by rw [h.2.1];exact (List.getElem?_eq_some_iff.1 hV).1
   rw [List.getElem?_set_self hl] at hx
   cases hx
   exact hy v (Option.some.inj hm)
 · rw [List.getElem?_set_ne (Ne.symm e)] at hx
   exact h.2.2 i v x hm hx (hd.resolve_left e)
theorem gv.same {wb w':World} {V:List (Option Value)} {d:Nat→Prop} {xs:List Value} (h:gv wb V d w' xs) (j:Nat) (y v:Value) (hV:V[j]?=some (some v)) (hy:y=v):gv wb V (fun i=>i=j∨d i) w' (xs.set j y) :=
 h.did h.1 j y (some v) hV fun v' e=>by cases e;exact hy
structure ChnD (H T:Nat) (L:List Value) (one:Array Value) (i:Nat) (d:Nat→Prop) (w':World) (y0 y1 y2 y3:Value):Prop where
 o1:d 3→d 0
 o2:d 6→d 3∧d 5
 own0:d 0→¬d 3→w'.ownsRow H T 6 y0 0 []
 own1:d 3→¬d 6→w'.ownsRow H T 6 y1 i L
 row:d 5→¬d 6→∃b,y2=.slice (some ⟨b,0,none⟩) 1 1∧H≤b∧w'.heap[b]?=some (.cells one T (0,0))∧(d 0→¬d 3→y0.ownBlock≠some b)∧(d 3→y1.ownBlock≠some b)
 own2:d 6→w'.ownsRow H T 6 y3 (i+1) (L ++ one.toList)
variable {H T i:Nat} {L:List Value} {one:Array Value} {d:Nat→Prop} {w' w2:World} {y0 y1 y2 y3:Value}
theorem ChnD.first (w':World) (y0 y1 y2 y3:Value):ChnD H T L one i (fun _=>False) w' y0 y1 y2 y3:=⟨fun h=>h.elim,fun h=>h.elim,fun h=>h.elim,fun h=>h.elim,fun h=>h.elim,fun h=>h.elim⟩
theorem ChnD.same (h:ChnD H T L one i d w' y0 y1 y2 y3) (k:Nat) (h0:k≠0) (h5:k≠3) (h7:k≠5) (h8:k≠6):ChnD H T L one i (fun j=>j=k∨d j) w' y0 y1 y2 y3:=by
 have e:∀q,q≠k→((q=k∨d q)↔d q):=fun q hq=>⟨fun h=>h.resolve_left hq,.inr⟩
 have e0:=e 0 (Ne.symm h0);have e5:=e 3 (Ne.symm h5);have e7:=e 5 (Ne.symm h7);have e8:=e 6 (Ne.symm h8)
 exact ⟨by rw [e0,e5];exact h.o1,by rw [e5,e7,e8];exact h.o2,by rw [e0,e5];exact h.own0,by rw [e5,e8];exact h.own1,by rw [e0,e5,e7,e8];exact h.row,by rw [e8];exact h.own2⟩
theorem ChnD.s0 (h:ChnD H T L one i d w' y0 y1 y2 y3) (hH:H≤w'.heap.size) (hn:¬d 0) :
 ChnD H T L one i (fun j=>j=0∨d j) (w'.alloc (.cells #[] T)) (.slice (some ⟨w'.heap.size,0,none⟩) 0 0) y1 y2 y3:=by
 have n5:¬d 3:=fun h5=>hn (h.o1 h5)
 have n8:¬d 6:=fun h8=>n5 (h.o2 h8).1
 refine ⟨fun _=>.inl rfl,fun h8=>(n8 (h8.resolve_left (by decide))).elim,fun _ _=>World.ownsRow_made w' #[] 0 hH (Nat.zero_le _) (by simp),fun h5=>(n5 (h5.resolve_left (by decide))).elim,fun h7 _=>?_,fun h8=>(n8 (h8.resolve_left (by decide))).elim⟩
 obtain ⟨b,e1,e2,e3,_,_⟩:=h.row (h7.resolve_left (by decide)) n8
 have hlt:=qk e3
 exact ⟨b,e1,e2,by rw [Below.heap_alloc _ _ _ hlt];exact e3,fun _ _ hx=>by simp [Value.ownBlock] at hx;omega,fun h5=>(n5 (h5.resolve_left (by decide))).elim⟩
theorem ChnD.s7 (h:ChnD H T L one i d w' y0 y1 y2 y3) (hH:H≤w'.heap.size) (hn:¬d 5) :
 ChnD H T L one i (fun j=>j=5∨d j) (w'.alloc (.cells one T)) y0 y1 (.slice (some ⟨w'.heap.size,0,none⟩) 1 1) y3:=by
 have n8:¬d 6:=fun h8=>hn (h.o2 h8).2
 have r:∀q,q≠5→(q=5∨d q)→d q:=fun q hq h=>h.resolve_left hq
 refine ⟨fun h5=>.inr (h.o1 (r 3 (by decide) h5)),fun h8=>(n8 (r 6 (by decide) h8)).elim,fun a b=>(h.own0 (r 0 (by decide) a) fun h5=>b (.inr h5)).alloc _,fun a b=>(h.own1 (r 3 (by decide) a) fun h8=>b (.inr h8)).alloc _,fun _ _=>?_,fun h8=>(n8 (r 6 (by decide) h8)).elim⟩
 refine ⟨w'.heap.size,rfl,hH,heap_alloc_new w' _,fun a b e=>?_,fun a e=>?_⟩
 · have:=((h.own0 (r 0 (by decide) a) fun h5=>b (.inr h5)).lt _ e).2;omega
 · have:=((h.own1 (r 3 (by decide) a) n8).lt _ e).2;omega
theorem ChnD.s5 (h:ChnD H T L one i d w' y0 y1 y2 y3) (h0:d 0) (hn:¬d 3) {a2:Option Addr} {c2:Nat} (ho:w2.ownsRow H T 6 (.slice a2 (0+i) c2) (0+i) ([] ++ L)) (hg:w'.grownBy w2 y0.ownBlock)
 (hat:(Value.slice a2 (0+i) c2).ownBlock=y0.ownBlock∨(Value.slice a2 (0+i) c2).ownBlock=some w'.heap.size) :
 ChnD H T L one i (fun j=>j=3∨d j) w2 y0 (.slice a2 (0+i) c2) y2 y3:=by
 have n8:¬d 6:=fun h8=>hn (h.o2 h8).1
 have r:∀q,q≠3→(q=3∨d q)→d q:=fun q hq h=>h.resolve_left hq
 rw [Nat.zero_add] at *
 refine ⟨fun _=>.inr h0,fun h8=>(n8 (r 6 (by decide) h8)).elim,fun _ b=>(b (.inl rfl)).elim,fun _ _=>ho,fun h7 _=>?_,fun h8=>(n8 (r 6 (by decide) h8)).elim⟩
 obtain ⟨b,e1,e2,e3,e4,_⟩:=h.row (r 5 (by decide) h7) n8
 have hne:=e4 h0 hn
 have hlt:=qk e3
 refine ⟨b,e1,e2,by rw [hg.block b hlt (fun e=>hne e.symm)];exact e3,fun _ b=>(b (.inl rfl)).elim,fun _ e=>?_⟩
 rcases hat with ha|ha
 · exact hne (ha.symm.trans e)
 · rw [ha] at e;cases e;omega
theorem ChnD.s8 (h:ChnD H T L one i d w' y0 y1 y2 y3) (h5:d 3) (h7:d 5) {v:Value} (ho:w2.ownsRow H T 6 v (i+1) (L ++ one.toList)) :
 ChnD H T L one i (fun j=>j=6∨d j) w2 y0 y1 y2 v :=
 ⟨fun _=>.inr (h.o1 h5),fun _=>⟨.inr h5,.inr h7⟩,fun _ b=>(b (.inr h5)).elim,fun _ b=>(b (.inl rfl)).elim,fun _ b=>(b (.inl rfl)).elim,fun _=>ho⟩
end Go.Proofs.YthgembbgcbaghaaGreatDoor
