import Derived.Test.YthgembbgcbaghaaGreatDoorDg43
import Derived.Test.YthgembbgcbaghaaGreatDoorDg44
import Derived.Deep.MidRow

namespace Go.Proofs.YthgembbgcbaghaaGreatDoor
open Go.RowKit
section
variable {P:Program}
theorem us {b:Array Oper} {i:Nat} {o:Oper} {K:Act->World->Prop} {a:Act} {w:World} {Q:Exit->Act->World->Prop} (d:b[i]?=some o) (c:o.guard=none)
 (h:Oper.wp P o a w K Q):wpOp P b Q i K a w :=
 J4 d fun _ hK=>by simp only [Region.wanted,c,if_true];exact Oper.wp_mono hK h
theorem gL {o:Oper} {K:Act->World->Prop} {a:Act} {w:World} {Q:Exit->Act->World->Prop} (m:TypeId) (x y:Operand)
 (q:o.op=.store m x y) (g t n:Nat) (f k:Nat->Value) (r:a.eval x=.pointer (some ⟨g,0,none⟩)) (l:w.rowIs g t n f) (cs:Array Value) (s:a.eval y=.agg cs) (e:cs.size=n) (d:∀i,i<n->cs[i]?=some (k i))
 (p:∀i,i<n->(k i).oneCell'=true) (hi:∀w,(Go.sizeOf m).run P w=.ok n w)
 (h:∀w',w'.rowIs g t n k->Touch (· = g) w w'->K (a.put o.dst undef) w'):Oper.wp P o a w K Q:=by
 have c:=run_storeCells_cells (P:=P) g 0 cs.toList 0 w (fun j hj=>by simp at hj;rw [l.cell (i:=0+0+j) (by omega)];rfl) (fun j _=>l.frozen _) (dr p cs e d);unfold Oper.wp execOp;simp only [q,r,s,Instr.storeAt,Instr.sureAddr,Sem.run_bind,Sem.run_pure,Result.andThen_ok,storeVar,Value.cells,hi];simp [e,c,Oper.upon];refine h _ ?_ (jZ (S:=(· = g)) (b:=g) (a:=w) (.inl rfl) _ _ _ (Touch.refl _ _));refine (rowIs_setCells _ 0 w f l).congr fun j hj=>?_;rw [J8 (by simp;omega)];have:=d j hj;simp at this ⊢;rw [this];rfl
end
def jq (s:S8):Array Value:=((List.range 8).map fun j=>Value.int .u32 (s.at j)).toArray
structure R1 (W:World) (s:S8) (p:Nat->Int) (blk:ByteArray) (d:Nat->Prop) (w:World) (x5 x6 x7 x14 x15 x16 x17:Value) (b5 b6 b7:Nat):Prop where
 bel:O5 W w
 rh:w.rowIs W.heap.size 245 8 (fun j=>.int .u32 (s.at j))
 rr:w.rowIs (W.heap.size+1) 245 8 (fun _=>.int .u32 0)
 v0:d 0->x14=.string blk
 v1:d 1->x15=.agg (vk p)
 v2:d 2->x16=.agg kCells
 v3:d 3->x17=.agg (jq s)
 p4:d 4->x5=.pointer (some ⟨b5,0,none⟩)/\W.heap.size+1<b5/\∃f,w.rowIs b5 263 64 f
 p5:d 5->x6=.pointer (some ⟨b6,0,none⟩)/\W.heap.size+1<b6/\∃f,w.rowIs b6 263 64 f
 p6:d 6->x7=.pointer (some ⟨b7,0,none⟩)/\W.heap.size+1<b7/\∃f,w.rowIs b7 245 8 f
 n45:d 4->d 5->b5≠b6
 n46:d 4->d 6->b5≠b7
 n56:d 5->d 6->b6≠b7
 s7:d 7->d 4/\w.rowIs b5 263 64 (fun j=>.int .u32 (wrd p j))
 s8:d 8->d 5/\w.rowIs b6 263 64 (fun j=>.int .u32 (kay j))
section
variable {W w w':World} {s:S8} {p:Nat->Int} {blk:ByteArray} {d:Nat->Prop} {x5 x6 x7 x14 x15 x16 x17:Value} {b5 b6 b7:Nat}
theorem R1.below (h:R1 W s p blk d w x5 x6 x7 x14 x15 x16 x17 b5 b6 b7) (c:O5 w w'):R1 W s p blk d w' x5 x6 x7 x14 x15 x16 x17 b5 b6 b7 where
 bel:=h.bel.trans (c.mono h.bel.size)
 rh:=qj c h.rh h.rh.lt
 rr:=qj c h.rr h.rr.lt
 v0:=h.v0
 v1:=h.v1
 v2:=h.v2
 v3:=h.v3
 p4:=fun q=>let ⟨a,b,f,r⟩:=h.p4 q;⟨a,b,f,qj c r r.lt⟩
 p5:=fun q=>let ⟨a,b,f,r⟩:=h.p5 q;⟨a,b,f,qj c r r.lt⟩
 p6:=fun q=>let ⟨a,b,f,r⟩:=h.p6 q;⟨a,b,f,qj c r r.lt⟩
 n45:=h.n45
 n46:=h.n46
 n56:=h.n56
 s7:=fun q=>let ⟨a,r⟩:=h.s7 q;⟨a,qj c r r.lt⟩
 s8:=fun q=>let ⟨a,r⟩:=h.s8 q;⟨a,qj c r r.lt⟩
theorem R1.did0 (h:R1 W s p blk d w x5 x6 x7 x14 x15 x16 x17 b5 b6 b7):R1 W s p blk (fun j=>j=0\/d j) w x5 x6 x7 (.string blk) x15 x16 x17 b5 b6 b7 where
 bel:=h.bel
 rh:=h.rh
 rr:=h.rr
 v0:=fun _=>rfl
 v1:=fun q=>h.v1 (q.resolve_left (by decide))
 v2:=fun q=>h.v2 (q.resolve_left (by decide))
 v3:=fun q=>h.v3 (q.resolve_left (by decide))
 p4:=fun q=>h.p4 (q.resolve_left (by decide))
 p5:=fun q=>h.p5 (q.resolve_left (by decide))
 p6:=fun q=>h.p6 (q.resolve_left (by decide))
 n45:=fun q r=>h.n45 (q.resolve_left (by decide)) (r.resolve_left (by decide))
 n46:=fun q r=>h.n46 (q.resolve_left (by decide)) (r.resolve_left (by decide))
 n56:=fun q r=>h.n56 (q.resolve_left (by decide)) (r.resolve_left (by decide))
 s7:=fun q=>let ⟨a,r⟩:=h.s7 (q.resolve_left (by decide));⟨.inr a,r⟩
 s8:=fun q=>let ⟨a,r⟩:=h.s8 (q.resolve_left (by decide));⟨.inr a,r⟩
theorem R1.did1 (h:R1 W s p blk d w x5 x6 x7 x14 x15 x16 x17 b5 b6 b7):R1 W s p blk (fun j=>j=1\/d j) w x5 x6 x7 x14 (.agg (vk p)) x16 x17 b5 b6 b7 where
 bel:=h.bel
 rh:=h.rh
 rr:=h.rr
 v0:=fun q=>h.v0 (q.resolve_left (by decide))
 v1:=fun _=>rfl
 v2:=fun q=>h.v2 (q.resolve_left (by decide))
 v3:=fun q=>h.v3 (q.resolve_left (by decide))
 p4:=fun q=>h.p4 (q.resolve_left (by decide))
 p5:=fun q=>h.p5 (q.resolve_left (by decide))
 p6:=fun q=>h.p6 (q.resolve_left (by decide))
 n45:=fun q r=>h.n45 (q.resolve_left (by decide)) (r.resolve_left (by decide))
 n46:=fun q r=>h.n46 (q.resolve_left (by decide)) (r.resolve_left (by decide))
 n56:=fun q r=>h.n56 (q.resolve_left (by decide)) (r.resolve_left (by decide))
 s7:=fun q=>let ⟨a,r⟩:=h.s7 (q.resolve_left (by decide));⟨.inr a,r⟩
 s8:=fun q=>let ⟨a,r⟩:=h.s8 (q.resolve_left (by decide));⟨.inr a,r⟩
theorem R1.did2 (h:R1 W s p blk d w x5 x6 x7 x14 x15 x16 x17 b5 b6 b7):R1 W s p blk (fun j=>j=2\/d j) w x5 x6 x7 x14 x15 (.agg kCells) x17 b5 b6 b7 where
 bel:=h.bel
 rh:=h.rh
 rr:=h.rr
 v0:=fun q=>h.v0 (q.resolve_left (by decide))
 v1:=fun q=>h.v1 (q.resolve_left (by decide))
 v2:=fun _=>rfl
 v3:=fun q=>h.v3 (q.resolve_left (by decide))
 p4:=fun q=>h.p4 (q.resolve_left (by decide))
 p5:=fun q=>h.p5 (q.resolve_left (by decide))
 p6:=fun q=>h.p6 (q.resolve_left (by decide))
 n45:=fun q r=>h.n45 (q.resolve_left (by decide)) (r.resolve_left (by decide))
 n46:=fun q r=>h.n46 (q.resolve_left (by decide)) (r.resolve_left (by decide))
 n56:=fun q r=>h.n56 (q.resolve_left (by decide)) (r.resolve_left (by decide))
 s7:=fun q=>let ⟨a,r⟩:=h.s7 (q.resolve_left (by decide));⟨.inr a,r⟩
 s8:=fun q=>let ⟨a,r⟩:=h.s8 (q.resolve_left (by decide));⟨.inr a,r⟩
theorem R1.did3 (h:R1 W s p blk d w x5 x6 x7 x14 x15 x16 x17 b5 b6 b7):R1 W s p blk (fun j=>j=3\/d j) w x5 x6 x7 x14 x15 x16 (.agg (jq s)) b5 b6 b7 where
 bel:=h.bel
 rh:=h.rh
 rr:=h.rr
 v0:=fun q=>h.v0 (q.resolve_left (by decide))
 v1:=fun q=>h.v1 (q.resolve_left (by decide))
 v2:=fun q=>h.v2 (q.resolve_left (by decide))
 v3:=fun _=>rfl
 p4:=fun q=>h.p4 (q.resolve_left (by decide))
 p5:=fun q=>h.p5 (q.resolve_left (by decide))
 p6:=fun q=>h.p6 (q.resolve_left (by decide))
 n45:=fun q r=>h.n45 (q.resolve_left (by decide)) (r.resolve_left (by decide))
 n46:=fun q r=>h.n46 (q.resolve_left (by decide)) (r.resolve_left (by decide))
 n56:=fun q r=>h.n56 (q.resolve_left (by decide)) (r.resolve_left (by decide))
 s7:=fun q=>let ⟨a,r⟩:=h.s7 (q.resolve_left (by decide));⟨.inr a,r⟩
 s8:=fun q=>let ⟨a,r⟩:=h.s8 (q.resolve_left (by decide));⟨.inr a,r⟩
theorem R1.did4 (c:Array Value) (b:c.size=64) (e:¬d 4) (h:R1 W s p blk d w x5 x6 x7 x14 x15 x16 x17 b5 b6 b7):R1 W s p blk (fun j=>j=4\/d j) (w.alloc (.cells c 263)) (.pointer (some ⟨w.heap.size,0,none⟩)) x6 x7 x14 x15 x16 x17 w.heap.size b6 b7:=by
 have g:=h.below (w':=w.alloc (.cells c 263)) O4;exact {
 bel:=g.bel
 rh:=g.rh
 rr:=g.rr
 v0:=fun q=>g.v0 (q.resolve_left (by decide))
 v1:=fun q=>g.v1 (q.resolve_left (by decide))
 v2:=fun q=>g.v2 (q.resolve_left (by decide))
 v3:=fun q=>g.v3 (q.resolve_left (by decide))
 p4:=fun _=>⟨rfl,h.rr.lt,_,ko w c 263 64 b⟩
 p5:=fun q=>g.p5 (q.resolve_left (by decide))
 p6:=fun q=>g.p6 (q.resolve_left (by decide))
 n45:=fun _ q=>Ne.symm (zc7 ((h.p5 (q.resolve_left (by decide))).2.2.elim fun _ r=>r.lt))
 n46:=fun _ q=>Ne.symm (zc7 ((h.p6 (q.resolve_left (by decide))).2.2.elim fun _ r=>r.lt))
 n56:=fun q r=>g.n56 (q.resolve_left (by decide)) (r.resolve_left (by decide))
 s7:=fun q=>absurd (h.s7 (q.resolve_left (by decide))).1 e
 s8:=fun q=>let ⟨a,r⟩:=g.s8 (q.resolve_left (by decide));⟨.inr a,r⟩ }
theorem R1.did5 (c:Array Value) (b:c.size=64) (e:¬d 5) (h:R1 W s p blk d w x5 x6 x7 x14 x15 x16 x17 b5 b6 b7):R1 W s p blk (fun j=>j=5\/d j) (w.alloc (.cells c 263)) x5 (.pointer (some ⟨w.heap.size,0,none⟩)) x7 x14 x15 x16 x17 b5 w.heap.size b7:=by
 have g:=h.below (w':=w.alloc (.cells c 263)) O4;exact {
 bel:=g.bel
 rh:=g.rh
 rr:=g.rr
 v0:=fun q=>g.v0 (q.resolve_left (by decide))
 v1:=fun q=>g.v1 (q.resolve_left (by decide))
 v2:=fun q=>g.v2 (q.resolve_left (by decide))
 v3:=fun q=>g.v3 (q.resolve_left (by decide))
 p4:=fun q=>g.p4 (q.resolve_left (by decide))
 p5:=fun _=>⟨rfl,h.rr.lt,_,ko w c 263 64 b⟩
 p6:=fun q=>g.p6 (q.resolve_left (by decide))
 n45:=fun q _=>zc7 ((h.p4 (q.resolve_left (by decide))).2.2.elim fun _ r=>r.lt)
 n46:=fun q r=>g.n46 (q.resolve_left (by decide)) (r.resolve_left (by decide))
 n56:=fun _ q=>Ne.symm (zc7 ((h.p6 (q.resolve_left (by decide))).2.2.elim fun _ r=>r.lt))
 s7:=fun q=>let ⟨a,r⟩:=g.s7 (q.resolve_left (by decide));⟨.inr a,r⟩
 s8:=fun q=>absurd (h.s8 (q.resolve_left (by decide))).1 e }
theorem R1.did6 (c:Array Value) (b:c.size=8) (h:R1 W s p blk d w x5 x6 x7 x14 x15 x16 x17 b5 b6 b7):R1 W s p blk (fun j=>j=6\/d j) (w.alloc (.cells c 245)) x5 x6 (.pointer (some ⟨w.heap.size,0,none⟩)) x14 x15 x16 x17 b5 b6 w.heap.size:=by
 have g:=h.below (w':=w.alloc (.cells c 245)) O4;exact {
 bel:=g.bel
 rh:=g.rh
 rr:=g.rr
 v0:=fun q=>g.v0 (q.resolve_left (by decide))
 v1:=fun q=>g.v1 (q.resolve_left (by decide))
 v2:=fun q=>g.v2 (q.resolve_left (by decide))
 v3:=fun q=>g.v3 (q.resolve_left (by decide))
 p4:=fun q=>g.p4 (q.resolve_left (by decide))
 p5:=fun q=>g.p5 (q.resolve_left (by decide))
 p6:=fun _=>⟨rfl,h.rr.lt,_,ko w c 245 8 b⟩
 n45:=fun q r=>g.n45 (q.resolve_left (by decide)) (r.resolve_left (by decide))
 n46:=fun q _=>zc7 ((h.p4 (q.resolve_left (by decide))).2.2.elim fun _ r=>r.lt)
 n56:=fun q _=>zc7 ((h.p5 (q.resolve_left (by decide))).2.2.elim fun _ r=>r.lt)
 s7:=fun q=>let ⟨a,r⟩:=g.s7 (q.resolve_left (by decide));⟨.inr a,r⟩
 s8:=fun q=>let ⟨a,r⟩:=g.s8 (q.resolve_left (by decide));⟨.inr a,r⟩ }
theorem R1.did7 (c:d 4) (h:R1 W s p blk d w x5 x6 x7 x14 x15 x16 x17 b5 b6 b7) (g:Touch (· = b5) w w') (i:w'.rowIs b5 263 64 (fun j=>.int .u32 (wrd p j))):R1 W s p blk (fun j=>j=7\/d j) w' x5 x6 x7 x14 x15 x16 x17 b5 b6 b7 where
 bel:=h.bel.trans (g.below h.bel.size fun k hk e=>by have:=(h.p4 c).2.1;omega)
 rh:=g.row h.rh (fun e=>by have:=(h.p4 c).2.1;omega)
 rr:=g.row h.rr (fun e=>by have:=(h.p4 c).2.1;omega)
 v0:=fun q=>h.v0 (q.resolve_left (by decide))
 v1:=fun q=>h.v1 (q.resolve_left (by decide))
 v2:=fun q=>h.v2 (q.resolve_left (by decide))
 v3:=fun q=>h.v3 (q.resolve_left (by decide))
 p4:=fun q=>⟨(h.p4 c).1,(h.p4 c).2.1,_,i⟩
 p5:=fun q=>let ⟨a,b,f,r⟩:=h.p5 (q.resolve_left (by decide));⟨a,b,f,g.row r fun e=>h.n45 c (q.resolve_left (by decide)) e.symm⟩
 p6:=fun q=>let ⟨a,b,f,r⟩:=h.p6 (q.resolve_left (by decide));⟨a,b,f,g.row r fun e=>h.n46 c (q.resolve_left (by decide)) e.symm⟩
 n45:=fun q r=>h.n45 (q.resolve_left (by decide)) (r.resolve_left (by decide))
 n46:=fun q r=>h.n46 (q.resolve_left (by decide)) (r.resolve_left (by decide))
 n56:=fun q r=>h.n56 (q.resolve_left (by decide)) (r.resolve_left (by decide))
 s7:=fun _=>⟨.inr c,i⟩
 s8:=fun q=>let ⟨a,r⟩:=h.s8 (q.resolve_left (by decide));⟨.inr a,g.row r fun e=>h.n45 c a e.symm⟩
theorem R1.did8 (c:d 5) (h:R1 W s p blk d w x5 x6 x7 x14 x15 x16 x17 b5 b6 b7) (g:Touch (· = b6) w w') (i:w'.rowIs b6 263 64 (fun j=>.int .u32 (kay j))):R1 W s p blk (fun j=>j=8\/d j) w' x5 x6 x7 x14 x15 x16 x17 b5 b6 b7 where
 bel:=h.bel.trans (g.below h.bel.size fun k hk e=>by have:=(h.p5 c).2.1;omega)
 rh:=g.row h.rh (fun e=>by have:=(h.p5 c).2.1;omega)
 rr:=g.row h.rr (fun e=>by have:=(h.p5 c).2.1;omega)
 v0:=fun q=>h.v0 (q.resolve_left (by decide))
 v1:=fun q=>h.v1 (q.resolve_left (by decide))
 v2:=fun q=>h.v2 (q.resolve_left (by decide))
 v3:=fun q=>h.v3 (q.resolve_left (by decide))
 p4:=fun q=>let ⟨a,b,f,r⟩:=h.p4 (q.resolve_left (by decide));⟨a,b,f,g.row r fun e=>h.n45 (q.resolve_left (by decide)) c e⟩
 p5:=fun q=>⟨(h.p5 c).1,(h.p5 c).2.1,_,i⟩
 p6:=fun q=>let ⟨a,b,f,r⟩:=h.p6 (q.resolve_left (by decide));⟨a,b,f,g.row r fun e=>h.n56 c (q.resolve_left (by decide)) e.symm⟩
 n45:=fun q r=>h.n45 (q.resolve_left (by decide)) (r.resolve_left (by decide))
 n46:=fun q r=>h.n46 (q.resolve_left (by decide)) (r.resolve_left (by decide))
 n56:=fun q r=>h.n56 (q.resolve_left (by decide)) (r.resolve_left (by decide))
 s7:=fun q=>let ⟨a,r⟩:=h.s7 (q.resolve_left (by decide));⟨.inr a,g.row r fun e=>h.n45 a c e⟩
 s8:=fun _=>⟨.inr c,i⟩
end
