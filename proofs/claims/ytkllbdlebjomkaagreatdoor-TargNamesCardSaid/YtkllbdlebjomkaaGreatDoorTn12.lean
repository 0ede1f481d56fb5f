import Derived.Test.YtkllbdlebjomkaaGreatDoorTn10

namespace Go.Proofs.YtkllbdlebjomkaaGreatDoor
open Go.RowKit
theorem yk {w:World} {a base' e b n:Nat} {v:Value} {cs:List Value} (h:w.ownsRow a e b v n cs) (c:base'<=a):w.ownsRow base' e b v n cs:=by
 refine ⟨h.1,?_⟩;rcases h.2 with h2|⟨g,cap,cur,hv,hg,r⟩
 . exact .inl h2
 . exact .inr ⟨g,cap,cur,hv,Z3 c hg,r⟩
structure ObjAt2 (W wr:World) (B cb T e1 e5:Nat) (vn vi:Value) (ns:List ByteArray) (its:List JV) (cs:List Value):Prop where
 lt:cb<W.heap.size
 le:B<=W.heap.size
 touch:Touch (· = cb) W wr
 row:wr.rowIs cb T 5 (qo (.int .u8 5) (.int .i64 0) (.string ⟨#[]⟩) vn vi)
 names:wr.ownsRow W.heap.size e1 1 vn ns.length (ns.map .string)
 items:wr.ownsRow W.heap.size e5 5 vi its.length cs
 reps:qS wr B (fun b=>b=cb\/vn.ownBlock=some b\/vi.ownBlock=some b) its cs
 ne:∀b,vn.ownBlock=some b->vi.ownBlock≠some b
theorem ObjAt2.below {W wr w':World} {B d T e f:Nat} {i g:Value} {ns:List ByteArray} {c:List JV} {cs:List Value} (h:ObjAt2 W wr B d T e f i g ns c cs) (a:O5 wr w'):ObjAt2 W w' B d T e f i g ns c cs where
 lt:=h.lt
 le:=h.le
 touch:=h.touch.trans (Touch.of_below a lz)
 row:=qj a h.row h.row.lt
 names:=qV h.names a
 items:=qV h.items a
 reps:=h.reps.carry a.size lz (fun b hb' _=>a.block b hb') (fun _ hx=>.inl hx)
 ne:=h.ne
theorem ObjAt2.name {W wr u:World} {B v T D F g cap:Nat} {w C:Value} {ns:List ByteArray} {A:List JV} {cs:List Value} (h:ObjAt2 W wr B v T D F w C ns A cs) (x:ByteArray)
 (z:wr.grownBy u w.ownBlock) (y:w.ownBlock=some g\/wr.heap.size<=g)
 (E:u.ownsRow W.heap.size D 1 (.slice (some ⟨g,0,none⟩) (ns.length+1) cap) (ns.length+1) (ns.map .string ++ [.string x])) :
 ObjAt2 W (u.setCell ⟨v,3,none⟩ (.slice (some ⟨g,0,none⟩) (ns.length+1) cap)) B v T D F (.slice (some ⟨g,0,none⟩) (ns.length+1) cap) C (ns ++ [x]) A cs:=by
 have q:W.heap.size<=wr.heap.size:=h.touch.size;have r:=z.size;have f:=h.lt;have j:∀b,w.ownBlock=some b->W.heap.size<=b/\b<wr.heap.size:=fun b hb=>h.names.lt b hb;have c:∀b,C.ownBlock=some b->W.heap.size<=b/\b<wr.heap.size:=fun b hb=>h.items.lt b hb;have k:∀b,b<wr.heap.size->w.ownBlock≠some b->u.heap[b]?=wr.heap[b]?:=fun b hb hne=>z.block b hb (fun e=>hne e.symm);have o:∀b,b≠v->(u.setCell ⟨v,3,none⟩ (.slice (some ⟨g,0,none⟩) (ns.length+1) cap)).heap[b]?=u.heap[b]?:=fun b hb=>Z9 _ _ _ _ hb;have l:w.ownBlock≠some v:=fun e=>by have:=(j v e).1;omega
 have s:(u.setCell ⟨v,3,none⟩ (.slice (some ⟨g,0,none⟩) (ns.length+1) cap)).heap.size=u.heap.size:=by simp [World.setCell]
 have d:∀b,(Value.slice (some ⟨g,0,none⟩) (ns.length+1) cap).ownBlock=some b->b=g:=fun b hb=>by simp [Value.ownBlock] at hb;exact hb.symm
 have m:C.ownBlock≠some g:=fun e=>by
  rcases y with ha|ha
  . exact h.ne g ha e
  . have:=(c g e).2;omega
 refine ⟨f,h.le,⟨?_,?_,?_,by omega,fun b hb hne=>?_⟩,?_,?_,?_,?_,?_⟩
 . show u.os=_;rw [z.os,h.touch.os]
 . show u.tape=_;rw [z.tape,h.touch.tape]
 . show u.output=_;rw [z.output,h.touch.output]
 . rw [o b hne,k b (by omega) (fun e=>by have:=(j b e).1;omega)];exact h.touch.block b hb hne
 . have p:u.rowIs v T 5 _:=h.row.of_block (k v (by omega) l);refine (p.set 3 _).congr fun i hi=>?_;rcases i with _|_|_|_|_|i <;> first|rfl|omega
 . have:=ownsRow_setCell_below E f (Value.slice (some ⟨g,0,none⟩) (ns.length+1) cap) (a:=⟨v,3,none⟩);simpa using this
 . refine zB h.items fun b hb=>?_;rw [o b (fun e=>by have:=(c b hb).1;omega),k b (c b hb).2 (fun e=>h.ne b e hb)]
 . refine h.reps.carry (by omega) lz (fun b hb hx=>?_) (fun b hx=>?_)
   . rw [o b (fun e=>hx (.inl e)),k b hb (fun e=>hx (.inr (.inl e)))]
   . rcases hx with hx|hx|hx
     . exact .inl (.inl hx)
     . rw [d b hx];rcases y with ha|ha
       . exact .inl (.inr (.inl ha))
       . exact .inr ha
     . exact .inl (.inr (.inr hx))
 . intro b hb;rw [d b hb];exact m
theorem ObjAt2.item {W wr w:World} {B v T F C g cap lo hi:Nat} {A y:Value} {ns:List ByteArray} {u:List JV} {cs:List Value} {it:JV} {an ai:Option Addr} {cn ci:Nat} (h:ObjAt2 W wr B v T F C A y ns u cs)
 (H:B<=lo) (G:hi<=v) (E:Rep wr lo hi it (.agg #[.int .u8 it.kind,.int .i64 it.n,.string it.t,.slice an it.names.length cn,.slice ai it.items.length ci]))
 (z:wr.grownBy w y.ownBlock) (x:y.ownBlock=some g\/wr.heap.size<=g)
 (D:w.ownsRow W.heap.size C 5 (.slice (some ⟨g,0,none⟩) (u.length+1) cap) (u.length+1) (cs ++ [.int .u8 it.kind,.int .i64 it.n,.string it.t,.slice an it.names.length cn,.slice ai it.items.length ci])) :
 ObjAt2 W (w.setCell ⟨v,4,none⟩ (.slice (some ⟨g,0,none⟩) (u.length+1) cap)) B v T F C A (.slice (some ⟨g,0,none⟩) (u.length+1) cap) ns (u ++ [it]) (cs ++ [.int .u8 it.kind,.int .i64 it.n,.string it.t,.slice an it.names.length cn,.slice ai it.items.length ci]):=by
 have q:W.heap.size<=wr.heap.size:=h.touch.size;have r:=z.size;have j:=h.lt;have f:∀b,A.ownBlock=some b->W.heap.size<=b/\b<wr.heap.size:=fun b hb=>h.names.lt b hb;have c:∀b,y.ownBlock=some b->W.heap.size<=b/\b<wr.heap.size:=fun b hb=>h.items.lt b hb;have k:∀b,b<wr.heap.size->y.ownBlock≠some b->w.heap[b]?=wr.heap[b]?:=fun b hb hne=>z.block b hb (fun e=>hne e.symm);have l:∀b,b≠v->(w.setCell ⟨v,4,none⟩ (.slice (some ⟨g,0,none⟩) (u.length+1) cap)).heap[b]?=w.heap[b]?:=fun b hb=>Z9 _ _ _ _ hb;have m:y.ownBlock≠some v:=fun e=>by have:=(c v e).1;omega
 have s:(w.setCell ⟨v,4,none⟩ (.slice (some ⟨g,0,none⟩) (u.length+1) cap)).heap.size=w.heap.size:=by simp [World.setCell]
 have d:∀b,(Value.slice (some ⟨g,0,none⟩) (u.length+1) cap).ownBlock=some b->b=g:=fun b hb=>by simp [Value.ownBlock] at hb;exact hb.symm
 refine ⟨j,h.le,⟨?_,?_,?_,by omega,fun b hb hne=>?_⟩,?_,?_,?_,?_,?_⟩
 . show w.os=_;rw [z.os,h.touch.os]
 . show w.tape=_;rw [z.tape,h.touch.tape]
 . show w.output=_;rw [z.output,h.touch.output]
 . rw [l b hne,k b (by omega) (fun e=>by have:=(c b e).1;omega)];exact h.touch.block b hb hne
 . have p:w.rowIs v T 5 _:=h.row.of_block (by rw [k v (by omega) m]);refine (p.set 4 _).congr fun i hi=>?_;rcases i with _|_|_|_|_|i <;> first|rfl|omega
 . refine zB h.names fun b hb=>?_;have:=f b hb;rw [l b (fun e=>by omega),k b (by omega) (h.ne b hb)]
 . have:=ownsRow_setCell_below D j (Value.slice (some ⟨g,0,none⟩) (u.length+1) cap) (a:=⟨v,4,none⟩);simpa using this
 . have o:qS (w.setCell ⟨v,4,none⟩ (.slice (some ⟨g,0,none⟩) (u.length+1) cap)) B (fun b=>b=v\/A.ownBlock=some b\/(Value.slice (some ⟨g,0,none⟩) (u.length+1) cap).ownBlock=some b) u cs:=by
    refine h.reps.carry (by omega) lz (fun b hb hx=>?_) (fun b hx=>?_)
    . rw [l b (fun e=>hx (.inl e)),k b (by omega) (fun e=>hx (.inr (.inr e)))]
    . rcases hx with hx|hx|hx
      . exact .inl (.inl hx)
      . exact .inl (.inr (.inl hx))
      . rw [d b hx];rcases x with ha|ha
        . exact .inl (.inr (.inr ha))
        . exact .inr (by omega)
   refine o.snoc it lo hi an cn ai ci (by omega) (by omega) (fun b hx hb=>?_) (Rep.carry lz lz (fun b h1 h2=>?_) _ _ E)
   . rcases hx with hx|hx|hx
     . omega
     . have:=f b hx;omega
     . rw [d b hx] at hb;rcases x with ha|ha
       . have:=c g ha;omega
       . omega
   . rw [l b (by omega),k b (by omega) (fun e=>by have:=(c b e).1;omega)]
 . intro b hb e;rw [d b e] at hb;rcases x with ha|ha
   . exact h.ne g hb ha
   . have:=(f g hb).2;omega
theorem ObjAt2.done {W wr:World} {B k T l m:Nat} {j i:Value} {ns:List ByteArray} {g:List JV} {cs:List Value} (h:ObjAt2 W wr B k T l m j i ns g cs) :
 ∃an cn ai ci,j=.slice an ns.length cn/\i=.slice ai g.length ci/\Rep wr B wr.heap.size (.mk 5 0 ⟨#[]⟩ ns g) (.agg #[.int .u8 5,.int .i64 0,.string ⟨#[]⟩,.slice an ns.length cn,.slice ai g.length ci]):=by
 obtain ⟨an,cn,a,b,c⟩:=j9 (yk h.names h.le) rfl;obtain ⟨ai,ci,d,e,f⟩:=xa (yk h.items h.le) h.reps rfl;exact ⟨an,cn,ai,ci,a,d,Rep.mk (v:=.mk 5 0 ⟨#[]⟩ ns g) b e c f⟩
