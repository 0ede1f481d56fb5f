/- An object that a call builds: 'obj.Names = append(obj.Names, x); obj.Items = append(obj.Items, f(y))'. No program in sight. -/
import Derived.Test.YtcahpjejpimdhaaGreatDoorMember
namespace Go.Proofs.YtcahpjejpimdhaaGreatDoor
open Go.RowKit

theorem owns_of_block {w w' : World} {base e size n : Nat} {v : Value} {cs : List Value} (h : w.ownsRow base e size v n cs) (hb : ∀ b, v.ownBlock = some b → w'.heap[b]? = w.heap[b]?) : w'.ownsRow base e size v n cs := by
  refine ⟨h.1, ?_⟩
  rcases h.2 with h2 | ⟨g, cap, cur, hv, hg, hh, r⟩
  · exact .inl h2
  · refine .inr ⟨g, cap, cur, hv, hg, ?_, r⟩
    rw [hb g (by rw [hv]; rfl)]
    exact hh

/-- The object's variable (block cb), its names and its items so far. -/
structure ObjAt (W wr : World) (cb T e1 e5 : Nat) (vn vi : Value) (ns : List ByteArray) (its : List JV) (cs : List Value) : Prop where
  lt : cb < W.heap.size
  touch : Touch (· = cb) W wr
  row : wr.rowIs cb T 5 (pick5 (.int .u8 5) (.int .i64 0) (.string { data := #[] }) vn vi)
  names : wr.ownsRow W.heap.size e1 1 vn ns.length (ns.map .string)
  items : wr.ownsRow W.heap.size e5 5 vi its.length cs
  reps : RepRow wr W.heap.size (fun b => b = cb ∨ vn.ownBlock = some b ∨ vi.ownBlock = some b) its cs
  ne : ∀ b, vn.ownBlock = some b → vi.ownBlock ≠ some b

theorem ObjAt.below {W wr w' : World} {cb T e1 e5 : Nat} {vn vi : Value} {ns : List ByteArray} {its : List JV} {cs : List Value} (h : ObjAt W wr cb T e1 e5 vn vi ns its cs) (hb : Below wr.heap.size wr w') : ObjAt W w' cb T e1 e5 vn vi ns its cs where
  lt := h.lt
  touch := h.touch.trans (Touch.of_below hb (Nat.le_refl _))
  row := below_row hb h.row h.row.lt
  names := owns_below h.names hb
  items := owns_below h.items hb
  reps := h.reps.carry hb.size (Nat.le_refl _) (fun b hb' _ => hb.block b hb') (fun _ hx => .inl hx)
  ne := h.ne

/-- One name more: 'obj.Names = append(obj.Names, x)'. -/
theorem ObjAt.name {W wr w4 : World} {cb T e1 e5 g cap : Nat} {vn vi : Value} {ns : List ByteArray} {its : List JV} {cs : List Value} (h : ObjAt W wr cb T e1 e5 vn vi ns its cs) (x : ByteArray)
    (hg : wr.grownBy w4 vn.ownBlock) (hat : vn.ownBlock = some g ∨ wr.heap.size ≤ g)
    (ho4 : w4.ownsRow W.heap.size e1 1 (.slice (some ⟨g, 0, none⟩) (ns.length + 1) cap) (ns.length + 1) (ns.map .string ++ [.string x])) :
    ObjAt W (w4.setCell ⟨cb, 3, none⟩ (.slice (some ⟨g, 0, none⟩) (ns.length + 1) cap)) cb T e1 e5 (.slice (some ⟨g, 0, none⟩) (ns.length + 1) cap) vi (ns ++ [x]) its cs := by
  have hwz : W.heap.size ≤ wr.heap.size := h.touch.size
  have hz4 := hg.size
  have hlt := h.lt
  have hon : ∀ b, vn.ownBlock = some b → W.heap.size ≤ b ∧ b < wr.heap.size := fun b hb => h.names.lt b hb
  have hoi : ∀ b, vi.ownBlock = some b → W.heap.size ≤ b ∧ b < wr.heap.size := fun b hb => h.items.lt b hb
  have s2 : ∀ b, b < wr.heap.size → vn.ownBlock ≠ some b → w4.heap[b]? = wr.heap[b]? := fun b hb hne => hg.block b hb (fun e => hne e.symm)
  have s3 : ∀ b, b ≠ cb → (w4.setCell ⟨cb, 3, none⟩ (.slice (some ⟨g, 0, none⟩) (ns.length + 1) cap)).heap[b]? = w4.heap[b]? := fun b hb => Below.heap_setCell _ _ _ _ hb
  have hcn : vn.ownBlock ≠ some cb := fun e => by have := (hon cb e).1; omega
  have hz5 : (w4.setCell ⟨cb, 3, none⟩ (.slice (some ⟨g, 0, none⟩) (ns.length + 1) cap)).heap.size = w4.heap.size := by simp [World.setCell]
  have hgb : ∀ b, (Value.slice (some ⟨g, 0, none⟩) (ns.length + 1) cap).ownBlock = some b → b = g := fun b hb => by simp [Value.ownBlock] at hb; exact hb.symm
  have hgi : vi.ownBlock ≠ some g := fun e => by
    rcases hat with ha | ha
    · exact h.ne g ha e
    · have := (hoi g e).2; omega
  refine ⟨hlt, ⟨?_, ?_, ?_, by omega, fun b hb hne => ?_⟩, ?_, ?_, ?_, ?_, ?_⟩
  · show w4.os = _; rw [hg.os, h.touch.os]
  · show w4.tape = _; rw [hg.tape, h.touch.tape]
  · show w4.output = _; rw [hg.output, h.touch.output]
  · rw [s3 b hne, s2 b (by omega) (fun e => by have := (hon b e).1; omega)]; exact h.touch.block b hb hne
  · have h4 : w4.rowIs cb T 5 _ := h.row.of_block (s2 cb (by omega) hcn)
    refine (h4.set 3 _).congr fun i hi => ?_
    rcases i with _ | _ | _ | _ | _ | i <;> first | rfl | omega
  · have := ownsRow_setCell_below ho4 hlt (Value.slice (some ⟨g, 0, none⟩) (ns.length + 1) cap) (a := ⟨cb, 3, none⟩)
    simpa using this
  · refine owns_of_block h.items fun b hb => ?_
    rw [s3 b (fun e => by have := (hoi b hb).1; omega), s2 b (hoi b hb).2 (fun e => h.ne b e hb)]
  · refine h.reps.carry (by omega) (Nat.le_refl _) (fun b hb hx => ?_) (fun b hx => ?_)
    · rw [s3 b (fun e => hx (.inl e)), s2 b hb (fun e => hx (.inr (.inl e)))]
    · rcases hx with hx | hx | hx
      · exact .inl (.inl hx)
      · rw [hgb b hx]
        rcases hat with ha | ha
        · exact .inl (.inr (.inl ha))
        · exact .inr ha
      · exact .inl (.inr (.inr hx))
  · intro b hb
    rw [hgb b hb]; exact hgi

/-- One item more: 'obj.Items = append(obj.Items, it)', the item's parts in memory behind wr. -/
theorem ObjAt.item {W wr w3 w4 : World} {cb T e1 e5 g cap lo hi : Nat} {vn vi : Value} {ns : List ByteArray} {its : List JV} {cs : List Value} {it : JV} {an ai : Option Addr} {cn ci : Nat} (h : ObjAt W wr cb T e1 e5 vn vi ns its cs)
    (hb3 : Below wr.heap.size wr w3) (hlo : wr.heap.size ≤ lo) (hhi : hi ≤ w3.heap.size) (hr3 : Rep w3 lo hi it (.agg #[.int .u8 it.kind, .int .i64 it.n, .string it.t, .slice an it.names.length cn, .slice ai it.items.length ci]))
    (hg : w3.grownBy w4 vi.ownBlock) (hat : vi.ownBlock = some g ∨ w3.heap.size ≤ g)
    (ho4 : w4.ownsRow W.heap.size e5 5 (.slice (some ⟨g, 0, none⟩) (its.length + 1) cap) (its.length + 1) (cs ++ [.int .u8 it.kind, .int .i64 it.n, .string it.t, .slice an it.names.length cn, .slice ai it.items.length ci])) :
    ObjAt W (w4.setCell ⟨cb, 4, none⟩ (.slice (some ⟨g, 0, none⟩) (its.length + 1) cap)) cb T e1 e5 vn (.slice (some ⟨g, 0, none⟩) (its.length + 1) cap) ns (its ++ [it]) (cs ++ [.int .u8 it.kind, .int .i64 it.n, .string it.t, .slice an it.names.length cn, .slice ai it.items.length ci]) := by
  have hwz : W.heap.size ≤ wr.heap.size := h.touch.size
  have hz3 := hb3.size
  have hz4 := hg.size
  have hlt := h.lt
  have hon : ∀ b, vn.ownBlock = some b → W.heap.size ≤ b ∧ b < wr.heap.size := fun b hb => h.names.lt b hb
  have hoi : ∀ b, vi.ownBlock = some b → W.heap.size ≤ b ∧ b < wr.heap.size := fun b hb => h.items.lt b hb
  have s1 : ∀ b, b < wr.heap.size → w3.heap[b]? = wr.heap[b]? := fun b hb => hb3.block b hb
  have s2 : ∀ b, b < w3.heap.size → vi.ownBlock ≠ some b → w4.heap[b]? = w3.heap[b]? := fun b hb hne => hg.block b hb (fun e => hne e.symm)
  have s3 : ∀ b, b ≠ cb → (w4.setCell ⟨cb, 4, none⟩ (.slice (some ⟨g, 0, none⟩) (its.length + 1) cap)).heap[b]? = w4.heap[b]? := fun b hb => Below.heap_setCell _ _ _ _ hb
  have hcn : vi.ownBlock ≠ some cb := fun e => by have := (hoi cb e).1; omega
  have hz5 : (w4.setCell ⟨cb, 4, none⟩ (.slice (some ⟨g, 0, none⟩) (its.length + 1) cap)).heap.size = w4.heap.size := by simp [World.setCell]
  have hgb : ∀ b, (Value.slice (some ⟨g, 0, none⟩) (its.length + 1) cap).ownBlock = some b → b = g := fun b hb => by simp [Value.ownBlock] at hb; exact hb.symm
  refine ⟨hlt, ⟨?_, ?_, ?_, by omega, fun b hb hne => ?_⟩, ?_, ?_, ?_, ?_, ?_⟩
  · show w4.os = _; rw [hg.os, hb3.os, h.touch.os]
  · show w4.tape = _; rw [hg.tape, hb3.tape, h.touch.tape]
  · show w4.output = _; rw [hg.output, hb3.output, h.touch.output]
  · rw [s3 b hne, s2 b (by omega) (fun e => by have := (hoi b e).1; omega), s1 b (by omega)]; exact h.touch.block b hb hne
  · have h4 : w4.rowIs cb T 5 _ := h.row.of_block (by rw [s2 cb (by omega) hcn, s1 cb (by omega)])
    refine (h4.set 4 _).congr fun i hi => ?_
    rcases i with _ | _ | _ | _ | _ | i <;> first | rfl | omega
  · refine owns_of_block h.names fun b hb => ?_
    have := hon b hb
    rw [s3 b (fun e => by omega), s2 b (by omega) (h.ne b hb), s1 b this.2]
  · have := ownsRow_setCell_below ho4 hlt (Value.slice (some ⟨g, 0, none⟩) (its.length + 1) cap) (a := ⟨cb, 4, none⟩)
    simpa using this
  · have c1 : RepRow (w4.setCell ⟨cb, 4, none⟩ (.slice (some ⟨g, 0, none⟩) (its.length + 1) cap)) W.heap.size (fun b => b = cb ∨ vn.ownBlock = some b ∨ (Value.slice (some ⟨g, 0, none⟩) (its.length + 1) cap).ownBlock = some b) its cs := by
      refine h.reps.carry (by omega) (Nat.le_refl _) (fun b hb hx => ?_) (fun b hx => ?_)
      · rw [s3 b (fun e => hx (.inl e)), s2 b (by omega) (fun e => hx (.inr (.inr e))), s1 b hb]
      · rcases hx with hx | hx | hx
        · exact .inl (.inl hx)
        · exact .inl (.inr (.inl hx))
        · rw [hgb b hx]
          rcases hat with ha | ha
          · exact .inl (.inr (.inr ha))
          · exact .inr (by omega)
    refine c1.snoc it lo hi an cn ai ci (by omega) (by omega) (fun b hx hb => ?_) (Rep.carry (Nat.le_refl _) (Nat.le_refl _) (fun b h1 h2 => ?_) _ _ hr3)
    · rcases hx with hx | hx | hx
      · omega
      · have := (hon b hx).2; omega
      · rw [hgb b hx] at hb
        rcases hat with ha | ha
        · have := (hoi g ha).2; omega
        · omega
    · rw [s3 b (by omega), s2 b (by omega) (fun e => by have := (hoi b e).2; omega)]
  · intro b hb e
    rw [hgb b e] at hb
    rcases hat with ha | ha
    · exact h.ne g hb ha
    · have := (hon g hb).2; omega

/-- The object at the end, as a value. -/
theorem ObjAt.done {W wr : World} {cb T e1 e5 : Nat} {vn vi : Value} {ns : List ByteArray} {its : List JV} {cs : List Value} (h : ObjAt W wr cb T e1 e5 vn vi ns its cs) :
    ∃ an cn ai ci, vn = .slice an ns.length cn ∧ vi = .slice ai its.length ci ∧ Rep wr W.heap.size wr.heap.size (.mk 5 0 { data := #[] } ns its) (.agg #[.int .u8 5, .int .i64 0, .string { data := #[] }, .slice an ns.length cn, .slice ai its.length ci]) := by
  obtain ⟨an, cn, h1, h2, h3⟩ := owns_strs h.names rfl
  obtain ⟨ai, ci, h4, h5, h6⟩ := owns_vals h.items h.reps rfl
  exact ⟨an, cn, ai, ci, h1, h4, Rep.mk (v := .mk 5 0 { data := #[] } ns its) h2 h5 h3 h6⟩

end Go.Proofs.YtcahpjejpimdhaaGreatDoor
