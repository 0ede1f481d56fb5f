/- The contracts of legateref11's picker: Take, Text. The contracts of legateref11's picker: Text, Done, Of. The contract of legateref11.Of. The contract of legateref14.Of. The contract of legateref14.Keys. Plain: a value of which the key is told is that key's object; a table of which the keys are told is their table; and back. No program in sight. -/
import Derived.Test.YtcahpjejpimdhaaGreatDoorZt232
import Derived.Deep.AppendLies
import Derived.Deep.QuietTactic
import Derived.BigQuiet
import Derived.Test.YtcahpjejpimdhaaGreatDoorZt215
import Derived.Test.YtcahpjejpimdhaaGreatDoorZt229
import Derived.Test.YtcahpjejpimdhaaGreatDoorZt213
import Derived.Test.YtcahpjejpimdhaaGreatDoorZt222

namespace Go.Proofs.YtcahpjejpimdhaaGreatDoor
open Go.RowKit

/-- What Take tells, and what it leaves behind. -/
def takeR (v : JV) (y : ByteArray) (kd : Int) (st : PS) : Option JV × PS :=
  if st.err ≠ 0 then (none, st) else match v.look y with
    | none => (none, ⟨st.asked, 6⟩)
    | some it => if kd ≠ 0 ∧ it.kind ≠ kd then (none, ⟨st.asked, 10⟩) else (some it, ⟨y :: st.asked, 0⟩)
theorem takeR_text (v : JV) (y : ByteArray) (st : PS) : pickText v y st = (match (takeR v y 3 st).1 with | none => { data := #[] } | some it => it.t, (takeR v y 3 st).2) := by
  unfold pickText takeR
  split
  · rfl
  · cases v.look y with
    | none => rfl
    | some it =>
      by_cases h : it.kind = 3
      · simp [h]
      · simp [h]

structure RefAt (o base : Nat) (v : JV) (an ai : Option Addr) (cn ci : Nat) (st : PS) (blk : Option Nat) (w : World) : Prop where
  obj : ∃ ask L, w.heap[o]? = some (.cells #[.int .u8 v.kind, .int .i64 v.n, .string v.t, .slice an v.names.length cn, .slice ai v.items.length ci, ask, .int .i64 st.err] 122 (0, 0)) ∧
    w.ownsRow base 9 1 ask L.length (L.map Value.string) ∧ ask.ownBlock = blk ∧ (st.err = 0 → L = st.asked.reverse) ∧ L.length ≤ 4294967296 + st.asked.length ∧ (st.err = 0 → L.length ≤ st.asked.length)
  rep : Rep w 0 base v (.agg #[.int .u8 v.kind, .int .i64 v.n, .string v.t, .slice an v.names.length cn, .slice ai v.items.length ci])
  le : base ≤ o
  nb : blk ≠ some o
  good : st.err = 0 → v.kind = 5

theorem RefAt.lt {o base : Nat} {v : JV} {an ai : Option Addr} {cn ci : Nat} {st : PS} {blk : Option Nat} {w : World} (h : RefAt o base v an ai cn ci st blk w) : o < w.heap.size := by
  obtain ⟨_, _, h1, _⟩ := h.obj; exact heap_lt h1
theorem RefAt.below {o base : Nat} {v : JV} {an ai : Option Addr} {cn ci : Nat} {st : PS} {blk : Option Nat} {w w' : World} (h : RefAt o base v an ai cn ci st blk w) (hb : Below w.heap.size w w') : RefAt o base v an ai cn ci st blk w' where
  obj := by
    obtain ⟨ask, L, h1, h2, h3, h4, h5, h6⟩ := h.obj
    exact ⟨ask, L, by rw [hb.block _ (heap_lt h1)]; exact h1, owns_below h2 hb, h3, h4, h5, h6⟩
  rep := h.rep.below hb (Nat.le_trans h.le (Nat.le_of_lt h.lt)) (Nat.le_refl _) (Nat.le_refl _)
  le := h.le
  nb := h.nb
  good := h.good

def TakePost (o base : Nat) (v : JV) (an ai : Option Addr) (cn ci : Nat) (y : ByteArray) (kd : Int) (st : PS) (blk : Option Nat) (w : World) (e : Ending) (w' : World) : Prop :=
  ∃ blk', (((takeR v y kd st).1 = none ∧ e = .returned (.tuple #[zeroAgg, .bool false])) ∨ ∃ it an' cn' ai' ci', (takeR v y kd st).1 = some it ∧ e = .returned (.tuple #[.agg #[.int .u8 it.kind, .int .i64 it.n, .string it.t, .slice an' it.names.length cn', .slice ai' it.items.length ci'], .bool true]) ∧ it.wt ≤ v.wt ∧
      Rep w' 0 base it (.agg #[.int .u8 it.kind, .int .i64 it.n, .string it.t, .slice an' it.names.length cn', .slice ai' it.items.length ci'])) ∧
    RefAt o base v an ai cn ci (takeR v y kd st).2 blk' w' ∧ (blk' = blk ∨ ∃ g, blk' = some g ∧ w.heap.size ≤ g) ∧ Touch (fun b => b = o ∨ blk = some b) w w'

theorem below_touch {S : Nat → Prop} {w w' : World} (hb : Below w.heap.size w w') : Touch S w w' := Touch.of_below hb (Nat.le_refl _)

theorem owns_same {w w' : World} {base e size n : Nat} {v : Value} {cs : List Value} (h : w.ownsRow base e size v n cs) (hb : ∀ g, v.ownBlock = some g → w'.heap[g]? = w.heap[g]?) : w'.ownsRow base e size v n cs := by
  refine ⟨h.1, ?_⟩
  rcases h.2 with h2 | ⟨g, cap, cur, hv, hg, hh, r⟩
  · exact .inl h2
  · refine .inr ⟨g, cap, cur, hv, hg, ?_, r⟩
    rw [hb g (by rw [hv]; rfl)]; exact hh
theorem obj_set5 {w : World} {o T : Nat} {a0 a1 a2 a3 a4 a5 a6 : Value} (h : w.heap[o]? = some (.cells #[a0, a1, a2, a3, a4, a5, a6] T (0, 0))) (x : Value) : (w.setCell ⟨o, 5, none⟩ x).heap[o]? = some (.cells #[a0, a1, a2, a3, a4, x, a6] T (0, 0)) := by
  simp [World.setCell, Array.getElem?_modify, h]
theorem obj_set6 {w : World} {o T : Nat} {a0 a1 a2 a3 a4 a5 a6 : Value} (h : w.heap[o]? = some (.cells #[a0, a1, a2, a3, a4, a5, a6] T (0, 0))) (x : Value) : (w.setCell ⟨o, 6, none⟩ x).heap[o]? = some (.cells #[a0, a1, a2, a3, a4, a5, x] T (0, 0)) := by
  simp [World.setCell, Array.getElem?_modify, h]

/-- Behind the stores: the picker stands. -/
theorem ref_end {o base g p cap : Nat} {v : JV} {an ai : Option Addr} {cn ci : Nat} {st st' : PS} {blk : Option Nat} {w w2 W3 : World} {L : List ByteArray} {y : ByteArray} {v0 v1 v2 v3 v4 : Value} (hP : RefAt o base v an ai cn ci st blk w) (hbb : ∀ b, blk = some b → base ≤ b)
    (_hT : Touch (fun b => b = o ∨ blk = some b) w w2) (hown : w2.ownsRow base 9 1 (.slice (some ⟨g, 0, none⟩) (L.length + 1) cap) (L.length + 1) (L.map Value.string ++ [.string y])) (hgo : g ≠ o) (hgp : g ≠ p) (hp : w.heap.size ≤ p)
    (hobj : W3.heap[o]? = some (.cells #[.int .u8 v.kind, .int .i64 v.n, .string v.t, .slice an v.names.length cn, .slice ai v.items.length ci, .slice (some ⟨g, 0, none⟩) (L.length + 1) cap, .int .i64 st'.err] 122 (0, 0)))
    (hk : ∀ k, k ≠ o → W3.heap[k]? = w2.heap[k]?) (hT3 : Touch (fun b => b = o ∨ blk = some b) w W3) (hL : st.err = 0 → L = st.asked.reverse) (he : st.err = 0) (h1 : st'.err = 0 → st'.asked = y :: st.asked) (h2 : st'.err ≠ 0 → st'.asked = st.asked) (hl : L.length ≤ 4294967290) :
    RefAt o base v an ai cn ci st' (some g) (((((W3.setCell ⟨p, 0, none⟩ v0).setCell ⟨p, 1, none⟩ v1).setCell ⟨p, 2, none⟩ v2).setCell ⟨p, 3, none⟩ v3).setCell ⟨p, 4, none⟩ v4) ∧
      Touch (fun b => b = o ∨ blk = some b) w (((((W3.setCell ⟨p, 0, none⟩ v0).setCell ⟨p, 1, none⟩ v1).setCell ⟨p, 2, none⟩ v2).setCell ⟨p, 3, none⟩ v3).setCell ⟨p, 4, none⟩ v4) := by
  have hop : o ≠ p := by have := hP.lt; omega
  have hs : ∀ k, k ≠ o → k ≠ p → (((((W3.setCell ⟨p, 0, none⟩ v0).setCell ⟨p, 1, none⟩ v1).setCell ⟨p, 2, none⟩ v2).setCell ⟨p, 3, none⟩ v3).setCell ⟨p, 4, none⟩ v4).heap[k]? = w2.heap[k]? := fun k h1 h2 => by rw [heap5 _ _ _ _ _ h2]; exact hk k h1
  have hTf : Touch (fun b => b = o ∨ blk = some b) w (((((W3.setCell ⟨p, 0, none⟩ v0).setCell ⟨p, 1, none⟩ v1).setCell ⟨p, 2, none⟩ v2).setCell ⟨p, 3, none⟩ v3).setCell ⟨p, 4, none⟩ v4) := ((((hT3.setCell (.inr hp) _).setCell (.inr hp) _).setCell (.inr hp) _).setCell (.inr hp) _).setCell (.inr hp) _
  refine ⟨⟨⟨.slice (some ⟨g, 0, none⟩) (L.length + 1) cap, L ++ [y], ?_, ?_, rfl, fun h => ?_, ?_, fun h => ?_⟩, ?_, hP.le, fun e => hgo (by simpa using e), fun _ => hP.good he⟩, hTf⟩
  · rw [heap5 _ _ _ _ _ hop]; exact hobj
  · have hge : ∀ k, (Value.slice (some ⟨g, 0, none⟩) (L.length + 1) cap).ownBlock = some k → k = g := fun k hk' => by
      have : g = k := by simpa [Value.ownBlock] using hk'
      omega
    have := owns_same (w' := ((((W3.setCell ⟨p, 0, none⟩ v0).setCell ⟨p, 1, none⟩ v1).setCell ⟨p, 2, none⟩ v2).setCell ⟨p, 3, none⟩ v3).setCell ⟨p, 4, none⟩ v4) hown (fun k hk' => by rw [hge k hk']; exact hs g hgo hgp)
    simpa using this
  · rw [h1 h, hL he]; simp
  · by_cases e : st'.err = 0
    · rw [h1 e]; simp; omega
    · rw [h2 e]; simp; omega
  · rw [h1 h, hL he]; simp
  · exact hP.rep.carry (Nat.le_refl _) (Nat.le_refl _) fun b _ hb => hTf.block b (by have := hP.lt; have := hP.le; omega) (fun h => by
      rcases h with h | h
      · have := hP.le; omega
      · have := hbb b h; omega)

set_option maxHeartbeats 1000000 in
set_option maxRecDepth 100000 in
theorem refTake (o base : Nat) (v : JV) (an ai : Option Addr) (cn ci : Nat) (y : ByteArray) (kd : Int) (st : PS) (blk : Option Nat) (w : World) (hP : RefAt o base v an ai cn ci st blk w) (hv : v.wt ≤ 4294967296) (ha : st.asked.length ≤ 4294967290) :
    Calls Tryz.prog 92 #[.pointer (some ⟨o, 0, none⟩), .string y, .int .u8 kd] w (TakePost o base v an ai cn ci y kd st blk w) := by
  have HP := Lib.hid hP
  obtain ⟨ask, L, hobj, hown, hblk, hL, hLl, hL6⟩ := hP.obj
  have hoz : o < w.heap.size := heap_lt hobj
  have hle := hP.le
  clear hP
  have c6 : w.cell? ⟨o, 6, none⟩ = some (.int .i64 st.err) := box_cell hobj rfl
  by_cases he : st.err = 0
  · have c0 : w.cell? ⟨o, 0, none⟩ = some (.int .u8 v.kind) := box_cell hobj rfl
    have c1 : w.cell? ⟨o, 1, none⟩ = some (.int .i64 v.n) := box_cell hobj rfl
    have c2 : w.cell? ⟨o, 2, none⟩ = some (.string v.t) := box_cell hobj rfl
    have c3 : w.cell? ⟨o, 3, none⟩ = some (.slice an v.names.length cn) := box_cell hobj rfl
    have c4 : w.cell? ⟨o, 4, none⟩ = some (.slice ai v.items.length ci) := box_cell hobj rfl
    have c5 : w.cell? ⟨o, 5, none⟩ = some ask := box_cell hobj rfl
    have hk5 := HP.out.good he
    have hLe := hL he
    have hLz := hL6 he
    obtain ⟨i0, hi, hz0, hz1, hz2⟩ := info_parts infoStr
    have HOB := Lib.hid hobj
    have HOW := Lib.hid hown
    have HBK := Lib.hid hblk
    have HLE := Lib.hid hLe
    have HE := Lib.hid he
    have hLb : L.length ≤ 4294967290 := by omega
    have HTK := Lib.hid (show takeR v y kd st = match v.look y with | none => (none, ⟨st.asked, 6⟩) | some it => if kd ≠ 0 ∧ it.kind ≠ kd then (none, ⟨st.asked, 10⟩) else (some it, ⟨y :: st.asked, 0⟩) by unfold takeR; rw [if_neg (fun h => h he)])
    have HG := Lib.hid (refGet v _ y (w.alloc (.cells #[.int .u8 0, .int .i64 0, .string { data := #[] }, .slice none 0 0, .slice none 0 0] 29)) base (by simp; omega) hv hk5 (HP.out.rep.below ((Below.refl _ _).alloc (Nat.le_refl _) _) (by omega) (Nat.le_refl _) (Nat.le_refl _)))
    rw [he] at c6
    rw [hk5] at c0 HG
    clear hobj hown hblk hL hLl hL6 hLe hLz he hk5
    go_enter Tryz.func92, Tryz.ntmps92
    go_wp2_with fail
    refine HG.out.mono ?_
    clear HG c0 c1 c2 c3 c4 c5 c6
    rintro e w1 ⟨hcase, hb1⟩
    obtain ⟨xk, xn, xt, xan, xai, xnn, xcn, xni, xci, b, rfl, hI⟩ : ∃ (xk xn : Int) (xt : ByteArray) (xan xai : Option Addr) (xnn xcn xni xci : Nat) (b : Bool), e = .returned (.tuple #[.agg #[.int .u8 xk, .int .i64 xn, .string xt, .slice xan xnn xcn, .slice xai xni xci], .bool b]) ∧ ((b = false ∧ v.look y = none) ∨ (b = true ∧ ∃ it an' cn' ai' ci', v.look y = some it ∧ xk = it.kind ∧ xn = it.n ∧ xt = it.t ∧ xan = an' ∧ xnn = it.names.length ∧ xcn = cn' ∧ xai = ai' ∧ xni = it.items.length ∧ xci = ci' ∧ it.wt ≤ v.wt ∧ Rep w 0 base it (.agg #[.int .u8 it.kind, .int .i64 it.n, .string it.t, .slice an' it.names.length cn', .slice ai' it.items.length ci']))) := by
      rcases hcase with ⟨h1, rfl⟩ | ⟨it, an', cn', ai', ci', h1, rfl, h2, h3⟩
      · exact ⟨0, 0, { data := #[] }, none, none, 0, 0, 0, 0, false, rfl, .inl ⟨rfl, h1⟩⟩
      · exact ⟨_, _, _, _, _, _, _, _, _, true, rfl, .inr ⟨rfl, it, an', cn', ai', ci', h1, rfl, rfl, rfl, rfl, rfl, rfl, rfl, rfl, rfl, h2, h3.carry (Nat.le_refl _) (Nat.le_refl _) fun b _ hb => (Below.heap_alloc _ _ _ (by omega)).symm⟩⟩
    have HI := Lib.hid hI
    clear hI hcase
    have hzw : w.heap.size < w1.heap.size := by have := hb1.size; simp at this; omega
    have hBW : Below w.heap.size w (w1.alloc (.cells #[.int .u8 xk, .int .i64 xn, .string xt, .slice xan xnn xcn, .slice xai xni xci] 29)) := (((Below.refl _ _).alloc (Nat.le_refl _) _).trans (hb1.mono (by simp))).alloc (by omega) _
    have hrow := below_row ((Below.refl _ _).alloc (Nat.le_refl _) (.cells #[.int .u8 xk, .int .i64 xn, .string xt, .slice xan xnn xcn, .slice xai xni xci] 29)) (below_row hb1 (rowIs_box5 w (.int .u8 0) (.int .i64 0) (.string { data := #[] }) (.slice none 0 0) (.slice none 0 0) 29) (by simp)) hzw
    have hbox := heap_alloc_new w1 (.cells #[.int .u8 xk, .int .i64 xn, .string xt, .slice xan xnn xcn, .slice xai xni xci] 29)
    have hobj : (w1.alloc (.cells #[.int .u8 xk, .int .i64 xn, .string xt, .slice xan xnn xcn, .slice xai xni xci] 29)).heap[o]? = _ := (hBW.block o hoz).trans HOB.out
    have c5 : (w1.alloc (.cells #[.int .u8 xk, .int .i64 xn, .string xt, .slice xan xnn xcn, .slice xai xni xci] 29)).cell? ⟨o, 5, none⟩ = some ask := box_cell hobj rfl
    have hWz : (w1.alloc (.cells #[.int .u8 xk, .int .i64 xn, .string xt, .slice xan xnn xcn, .slice xai xni xci] 29)).heap.size = w1.heap.size + 1 := by simp
    have hownW := owns_below HOW.out hBW
    have HBW := Lib.hid hBW
    have HRW := Lib.hid hrow
    have HBX := Lib.hid hbox
    have HOJ := Lib.hid hobj
    have HWZ := Lib.hid hWz
    have HOW1 := Lib.hid hownW
    clear hb1 hBW hrow hbox hobj hWz hownW
    go_wp2_with (at_builtin; refine wpList_append_lies _ (by rfl) (.tmp 29) (.tmp 31) 26 (by rfl) base 9 i0 _ 1 16 Tryz.underlying26 hi hz0 hz1 hz2 rfl (by decide) ask L.length (L.map Value.string) (by rfl) (HOW1.out.alloc _) ⟨w1.heap.size + 1, 0, none⟩ 1 1 [.string y] (by rfl) (by rfl) ?c1 ?c2 (by decide) ?c3 ?c4 ?c5 (w1.heap.size + 2) ?c6 ?_)
    case c1 => exact World.news_of_block (cs := #[.string y]) (t := 9) (fr := (0, 0)) (by have := heap_alloc_new (w1.alloc (.cells #[.int .u8 xk, .int .i64 xn, .string xt, .slice xan xnn xcn, .slice xai xni xci] 29)) (.cells #[.string y] 9); rwa [HWZ.out] at this)
    case c2 => intro u hu; simp at hu; subst hu; rfl
    case c3 => unfold maxLen; omega
    case c4 => omega
    case c5 => simp; omega
    case c6 => simp
    intro g cap w2 hown2 hgrow hat hlt2
    have hnbo : some o ≠ ask.ownBlock := fun e => HP.out.nb (by rw [← HBK.out]; exact e.symm)
    have hnbp : ∀ q, w.heap.size ≤ q → some q ≠ ask.ownBlock := fun q hq e => by have := (HOW.out.lt _ e.symm).2; omega
    have hkeep : ∀ q, q < w1.heap.size + 1 → some q ≠ ask.ownBlock → w2.heap[q]? = (w1.alloc (.cells #[.int .u8 xk, .int .i64 xn, .string xt, .slice xan xnn xcn, .slice xai xni xci] 29)).heap[q]? := fun q hq hn => (hgrow.block q (by simp; omega) hn).trans (Below.heap_alloc _ _ _ (by simp; omega))
    have ho2 : w2.heap[o]? = some (.cells #[.int .u8 v.kind, .int .i64 v.n, .string v.t, .slice an v.names.length cn, .slice ai v.items.length ci, ask, .int .i64 st.err] 122 (0, 0)) := (hkeep o (by omega) hnbo).trans HOJ.out
    have hx2 : w2.heap[w1.heap.size]? = some (.cells #[.int .u8 xk, .int .i64 xn, .string xt, .slice xan xnn xcn, .slice xai xni xci] 29 (0, 0)) := (hkeep _ (by omega) (hnbp _ (by omega))).trans HBX.out
    have hr2 : w2.rowIs w.heap.size 29 5 (pick5 (.int .u8 0) (.int .i64 0) (.string { data := #[] }) (.slice none 0 0) (.slice none 0 0)) := HRW.out.of_block (hkeep _ (by omega) (hnbp _ (by omega)))
    have HT2 := Lib.hid (show Touch (fun b => b = o ∨ blk = some b) w w2 from
      ((below_touch HBW.out).alloc _).trans ⟨hgrow.os, hgrow.tape, hgrow.output, hgrow.size, fun k hk hn => hgrow.block k hk (fun e => hn (.inr (by rw [← HBK.out]; exact e.symm)))⟩)
    have hz2 : w1.heap.size + 2 ≤ w2.heap.size := by have := hgrow.size; simp at this; omega
    have hgo : g ≠ o := fun e => by
      rcases hat with h | h
      · exact hnbo (by rw [h, e])
      · omega
    have HAT := Lib.hid hat
    have HO2 := Lib.hid hown2
    have HOJ2 := Lib.hid ho2
    have HR2 := Lib.hid hr2
    have o5 : w2.cell? ⟨o, 5, none⟩ = some ask := box_cell ho2 rfl
    have z5 : w2.frozen? ⟨o, 5, none⟩ = false := by simp [World.frozen?, ho2]
    have o6 : w2.cell? ⟨o, 6, none⟩ = some (.int .i64 st.err) := box_cell ho2 rfl
    have z6 : w2.frozen? ⟨o, 6, none⟩ = false := by simp [World.frozen?, ho2]
    have x0 : w2.cell? ⟨w1.heap.size, 0, none⟩ = some (.int .u8 xk) := box_cell hx2 rfl
    have x1 : w2.cell? ⟨w1.heap.size, 1, none⟩ = some (.int .i64 xn) := box_cell hx2 rfl
    have x2 : w2.cell? ⟨w1.heap.size, 2, none⟩ = some (.string xt) := box_cell hx2 rfl
    have x3 : w2.cell? ⟨w1.heap.size, 3, none⟩ = some (.slice xan xnn xcn) := box_cell hx2 rfl
    have x4 : w2.cell? ⟨w1.heap.size, 4, none⟩ = some (.slice xai xni xci) := box_cell hx2 rfl
    have t0 := hr2.cell (i := 0) (by decide); have t1 := hr2.cell (i := 1) (by decide); have t2 := hr2.cell (i := 2) (by decide); have t3 := hr2.cell (i := 3) (by decide); have t4 := hr2.cell (i := 4) (by decide)
    have s0 := hr2.frozen 0; have s1 := hr2.frozen 1; have s2 := hr2.frozen 2; have s3 := hr2.frozen 3; have s4 := hr2.frozen 4
    simp only [pick5] at t0 t1 t2 t3 t4
    have n1 : w.heap.size ≠ o := by omega
    have n2 : w1.heap.size ≠ o := by omega
    have n3 : w1.heap.size ≠ w.heap.size := by omega
    clear hgrow hat hown2 ho2 hx2 hr2 hnbo hnbp hkeep c5 HOW1 HOJ HBX HRW HBW HOB
    have HOWK := Lib.hid HOW.out
    clear HOW
    have HBB := Lib.hid (show ∀ b, blk = some b → base ≤ b from fun b hb => (HOWK.out.lt b (by rw [HBK.out]; exact hb)).1)
    have HGP := Lib.hid (show g ≠ w.heap.size from fun e => by
      rcases HAT.out with h | h
      · have := (HOWK.out.lt g h).2; omega
      · omega)
    have HBN := Lib.hid (show (some g : Option Nat) = blk ∨ ∃ g', some g = some g' ∧ w.heap.size ≤ g' by
      rcases HAT.out with h | h
      · exact .inl (by rw [← HBK.out]; exact h.symm)
      · exact .inr ⟨g, rfl, by omega⟩)
    clear HAT
    rcases HI.out with ⟨rfl, hlk⟩ | ⟨rfl, it, an', cn', ai', ci', hlk, rfl, rfl, rfl, rfl, rfl, rfl, rfl, rfl, rfl, hwi, hri⟩
    · have HTR := Lib.hid (show takeR v y kd st = (none, ⟨st.asked, 6⟩) by rw [HTK.out, hlk])
      clear hlk HI HTK
      go_wp2
      have hend := ref_end (st' := ⟨st.asked, 6⟩) (p := w.heap.size) (v0 := .int .u8 0) (v1 := .int .i64 0) (v2 := .string { data := #[] }) (v3 := .slice none 0 0) (v4 := .slice none 0 0) HP.out HBB.out HT2.out HO2.out hgo HGP.out (Nat.le_refl _) (obj_set6 (obj_set5 HOJ2.out _) (.int .i64 6)) (fun k hk => by rw [Below.heap_setCell _ _ _ _ hk, Below.heap_setCell _ _ _ _ hk]) ((HT2.out.setCell (.inl (.inl rfl)) _).setCell (.inl (.inl rfl)) _) (fun _ => HLE.out) HE.out (fun h => by cases h) (fun _ => rfl) (by omega)
      refine bodyPost_ret (results_row_tmp Tryz.results92 _ _ w.heap.size 29 #[.int .u8 0, .int .i64 0, .string { data := #[] }, .slice none 0 0, .slice none 0 0] (0, 0) _ rfl (row5_heap (set5 _ _ _ _ _ ((HR2.out.of_block (Below.heap_setCell _ _ _ _ n1)).of_block (Below.heap_setCell _ _ _ _ n1)))) Tryz.underlying29 rfl (by kernel_rfl) _ rfl) rfl ?_
      unfold TakePost
      rw [HTR.out]
      exact ⟨some g, .inl ⟨rfl, rfl⟩, hend.1, HBN.out, hend.2⟩
    · have hri' := Lib.hid hri
      clear hri
      have hri2 := Lib.hid (show ∀ W, Touch (fun b => b = o ∨ blk = some b) w W → Rep W 0 base it (.agg #[.int .u8 it.kind, .int .i64 it.n, .string it.t, .slice xan it.names.length xcn, .slice xai it.items.length xci]) from fun W hW =>
        hri'.out.carry (Nat.le_refl _) (Nat.le_refl _) fun b _ hb => hW.block b (by omega) (fun h => by
          rcases h with h | h
          · omega
          · have := HBB.out b h; omega))
      by_cases hkd : kd ≠ 0 ∧ it.kind ≠ kd
      · have HTR := Lib.hid (show takeR v y kd st = (none, ⟨st.asked, 10⟩) by rw [HTK.out, hlk]; simp only; rw [if_pos hkd])
        have k1 : (kd != 0) = true := by simpa using hkd.1
        have k2 : (it.kind != kd) = true := by simpa using hkd.2
        have k3 : (kd == 0) = false := by simpa using hkd.1
        have k4 : (it.kind == kd) = false := by simpa using hkd.2
        clear hlk HI HTK hkd
        go_wp2
        have hend := ref_end (st' := ⟨st.asked, 10⟩) (p := w.heap.size) (v0 := .int .u8 0) (v1 := .int .i64 0) (v2 := .string { data := #[] }) (v3 := .slice none 0 0) (v4 := .slice none 0 0) HP.out HBB.out HT2.out HO2.out hgo HGP.out (Nat.le_refl _) (obj_set6 (obj_set5 HOJ2.out _) (.int .i64 10)) (fun k hk => by rw [Below.heap_setCell _ _ _ _ hk, Below.heap_setCell _ _ _ _ hk]) ((HT2.out.setCell (.inl (.inl rfl)) _).setCell (.inl (.inl rfl)) _) (fun _ => HLE.out) HE.out (fun h => by cases h) (fun _ => rfl) (by omega)
        refine bodyPost_ret (results_row_tmp Tryz.results92 _ _ w.heap.size 29 #[.int .u8 0, .int .i64 0, .string { data := #[] }, .slice none 0 0, .slice none 0 0] (0, 0) _ rfl (row5_heap (set5 _ _ _ _ _ ((HR2.out.of_block (Below.heap_setCell _ _ _ _ n1)).of_block (Below.heap_setCell _ _ _ _ n1)))) Tryz.underlying29 rfl (by kernel_rfl) _ rfl) rfl ?_
        unfold TakePost
        rw [HTR.out]
        exact ⟨some g, .inl ⟨rfl, rfl⟩, hend.1, HBN.out, hend.2⟩
      · have HTR := Lib.hid (show takeR v y kd st = (some it, ⟨y :: st.asked, 0⟩) by rw [HTK.out, hlk]; simp only; rw [if_neg hkd])
        have HOJ3 := Lib.hid (show w2.heap[o]? = some (.cells #[.int .u8 v.kind, .int .i64 v.n, .string v.t, .slice an v.names.length cn, .slice ai v.items.length ci, ask, .int .i64 0] 122 (0, 0)) by rw [← HE.out]; exact HOJ2.out)
        by_cases hk0 : kd = 0
        · subst hk0
          clear hlk HI HTK hkd
          go_wp2
          have hend := ref_end (st' := ⟨y :: st.asked, 0⟩) (p := w.heap.size) (v0 := .int .u8 it.kind) (v1 := .int .i64 it.n) (v2 := .string it.t) (v3 := .slice xan it.names.length xcn) (v4 := .slice xai it.items.length xci) HP.out HBB.out HT2.out HO2.out hgo HGP.out (Nat.le_refl _) (obj_set5 HOJ3.out _) (fun k hk => by rw [Below.heap_setCell _ _ _ _ hk]) (HT2.out.setCell (.inl (.inl rfl)) _) (fun _ => HLE.out) HE.out (fun _ => rfl) (fun h => absurd rfl h) (by omega)
          refine bodyPost_ret (results_row_tmp Tryz.results92 _ _ w.heap.size 29 #[.int .u8 it.kind, .int .i64 it.n, .string it.t, .slice xan it.names.length xcn, .slice xai it.items.length xci] (0, 0) _ rfl (row5_heap (set5 _ _ _ _ _ (HR2.out.of_block (Below.heap_setCell _ _ _ _ n1)))) Tryz.underlying29 rfl (by kernel_rfl) _ rfl) rfl ?_
          unfold TakePost
          rw [HTR.out]
          exact ⟨some g, .inr ⟨it, xan, xcn, xai, xci, rfl, rfl, hwi, hri2.out _ hend.2⟩, hend.1, HBN.out, hend.2⟩
        · have hke : it.kind = kd := by
            by_cases e : it.kind = kd
            · exact e
            · exact absurd ⟨hk0, e⟩ hkd
          subst hke
          have k1 : (it.kind != 0) = true := by simpa using hk0
          have k3 : (it.kind == 0) = false := by simpa using hk0
          clear hlk HI HTK hkd hk0
          go_wp2
          have hend := ref_end (st' := ⟨y :: st.asked, 0⟩) (p := w.heap.size) (v0 := .int .u8 it.kind) (v1 := .int .i64 it.n) (v2 := .string it.t) (v3 := .slice xan it.names.length xcn) (v4 := .slice xai it.items.length xci) HP.out HBB.out HT2.out HO2.out hgo HGP.out (Nat.le_refl _) (obj_set5 HOJ3.out _) (fun k hk => by rw [Below.heap_setCell _ _ _ _ hk]) (HT2.out.setCell (.inl (.inl rfl)) _) (fun _ => HLE.out) HE.out (fun _ => rfl) (fun h => absurd rfl h) (by omega)
          refine bodyPost_ret (results_row_tmp Tryz.results92 _ _ w.heap.size 29 #[.int .u8 it.kind, .int .i64 it.n, .string it.t, .slice xan it.names.length xcn, .slice xai it.items.length xci] (0, 0) _ rfl (row5_heap (set5 _ _ _ _ _ (HR2.out.of_block (Below.heap_setCell _ _ _ _ n1)))) Tryz.underlying29 rfl (by kernel_rfl) _ rfl) rfl ?_
          unfold TakePost
          rw [HTR.out]
          exact ⟨some g, .inr ⟨it, xan, xcn, xai, xci, rfl, rfl, hwi, hri2.out _ hend.2⟩, hend.1, HBN.out, hend.2⟩
  · have he1 : (st.err == 0) = false := by simpa using he
    have he2 : (st.err != 0) = true := by simpa using he
    have HT := Lib.hid (show takeR v y kd st = (none, st) by unfold takeR; rw [if_pos he])
    clear he hobj hown hblk hL hLl hL6
    go_enter Tryz.func92, Tryz.ntmps92
    go_wp2
    have hb : Below w.heap.size w (w.alloc (.cells #[.int .u8 0, .int .i64 0, .string { data := #[] }, .slice none 0 0, .slice none 0 0] 29)) := (Below.refl _ _).alloc (Nat.le_refl _) _
    refine bodyPost_ret (results_row_tmp Tryz.results92 _ _ w.heap.size 29 #[.int .u8 0, .int .i64 0, .string { data := #[] }, .slice none 0 0, .slice none 0 0] (0, 0) _ rfl (heap_alloc_new w _) Tryz.underlying29 rfl (by kernel_rfl) _ rfl) rfl ?_
    unfold TakePost
    rw [HT.out]
    exact ⟨blk, .inl ⟨rfl, rfl⟩, HP.out.below hb, .inl rfl, below_touch hb⟩

end Go.Proofs.YtcahpjejpimdhaaGreatDoor

namespace Go.Proofs.YtcahpjejpimdhaaGreatDoor
open Go.RowKit

def RTextPost (o base : Nat) (v : JV) (an ai : Option Addr) (cn ci : Nat) (y : ByteArray) (st : PS) (blk : Option Nat) (w : World) (e : Ending) (w' : World) : Prop :=
  ∃ blk', e = .returned (.string (pickText v y st).1) ∧ RefAt o base v an ai cn ci (pickText v y st).2 blk' w' ∧ (blk' = blk ∨ ∃ g, blk' = some g ∧ w.heap.size ≤ g) ∧ Touch (fun b => b = o ∨ blk = some b) w w'

set_option maxHeartbeats 400000 in
set_option maxRecDepth 100000 in
theorem refTextF (o base : Nat) (v : JV) (an ai : Option Addr) (cn ci : Nat) (y : ByteArray) (st : PS) (blk : Option Nat) (w : World) (hP : RefAt o base v an ai cn ci st blk w) (hv : v.wt ≤ 4294967296) (ha : st.asked.length ≤ 4294967290) :
    Calls Tryz.prog 57 #[.pointer (some ⟨o, 0, none⟩), .string y] w (RTextPost o base v an ai cn ci y st blk w) := by
  have HC := Lib.hid (refTake o base v an ai cn ci y 3 st blk w hP hv ha)
  have HT := Lib.hid (takeR_text v y st)
  clear hP
  go_enter Tryz.func57, Tryz.ntmps57
  go_wp2_with fail
  refine HC.out.mono ?_
  clear HC
  rintro e w1 ⟨blk', hcase, hR, hbk, hT⟩
  have HR := Lib.hid hR
  have HBK := Lib.hid hbk
  have HTO := Lib.hid hT
  clear hR hbk hT
  rcases hcase with ⟨h1, rfl⟩ | ⟨it, an', cn', ai', ci', h1, rfl, h2, h3⟩
  · have HX := Lib.hid (show pickText v y st = ({ data := #[] }, (takeR v y 3 st).2) by rw [HT.out, h1])
    clear h1
    unfold zeroAgg
    go_wp2
    go_ret
    unfold RTextPost
    rw [HX.out]
    exact ⟨blk', rfl, HR.out.below ((Below.refl _ _).alloc (Nat.le_refl _) _), HBK.out, HTO.out.alloc _⟩
  · have HX := Lib.hid (show pickText v y st = (it.t, (takeR v y 3 st).2) by rw [HT.out, h1])
    clear h1 h2 h3
    go_wp2
    go_ret
    unfold RTextPost
    rw [HX.out]
    exact ⟨blk', rfl, HR.out.below ((Below.refl _ _).alloc (Nat.le_refl _) _), HBK.out, HTO.out.alloc _⟩

theorem all_take2 {α : Type} (p : α → Bool) (l : List α) (k : Nat) (h : k < l.length) : (l.take (k + 1)).all p = ((l.take k).all p && p l[k]) := by
  rw [List.take_succ_eq_append_getElem h, List.all_append]; simp
theorem all_bad2 {α : Type} (p : α → Bool) (l : List α) (k : Nat) (h : k < l.length) (hp : p l[k] = false) : l.all p = false := by
  rw [List.all_eq_false]; exact ⟨l[k], List.getElem_mem h, by simp [hp]⟩
theorem any_take {α : Type} (p : α → Bool) (l : List α) (k : Nat) (h : k < l.length) : (l.take (k + 1)).any p = ((l.take k).any p || p l[k]) := by
  rw [List.take_succ_eq_append_getElem h, List.any_append]; simp

set_option maxHeartbeats 1000000 in
set_option maxRecDepth 100000 in
theorem refDoneF (o base : Nat) (v : JV) (an ai : Option Addr) (cn ci : Nat) (st : PS) (blk : Option Nat) (w : World) (hP : RefAt o base v an ai cn ci st blk w) (hv : v.wt ≤ 4294967296) (ha : st.asked.length ≤ 4294967290) :
    Calls Tryz.prog 58 #[.pointer (some ⟨o, 0, none⟩)] w fun e w' => e = .returned (.int .i64 (pickDone v st)) ∧ Below w.heap.size w w' := by
  have HP := Lib.hid hP
  obtain ⟨ask, L, hobj, hown, hblk, hL, hLl, hL6⟩ := hP.obj
  have hoz : o < w.heap.size := heap_lt hobj
  have c6 : w.cell? ⟨o, 6, none⟩ = some (.int .i64 st.err) := box_cell hobj rfl
  by_cases he : st.err = 0
  · have hLe := hL he
    have HD := Lib.hid (show pickDone v st = if v.names.all (fun n => st.asked.any fun a => decide (a = n)) then 0 else 11 by unfold pickDone; rw [if_neg (fun h => h he)])
    have HLA := Lib.hid (show ∀ n, st.asked.any (fun a => decide (a = n)) = L.any (fun a => decide (a = n)) from fun n => by rw [hLe, List.any_reverse])
    have hLb : L.length ≤ 4294967290 := by have := hL6 he; omega
    rw [he] at c6
    obtain ⟨b1, b2, b3, b4⟩ := v.wt_bd
    obtain ⟨an2, cn2, ai2, ci2, hx, _, _, h3, _⟩ := hP.rep.parts
    simp only [Value.agg.injEq, Array.mk.injEq, List.cons.injEq, Value.slice.injEq, true_and, and_true] at hx
    obtain ⟨⟨rfl, rfl⟩, rfl, rfl⟩ := hx
    have H3 := Lib.hid h3
    have HOB := Lib.hid hobj
    have HOW := Lib.hid hown
    have hbo : base ≤ w.heap.size := by have := hP.le; omega
    obtain ⟨aa, cap, hask, hca⟩ : ∃ aa cap, ask = .slice aa L.length cap ∧ ∀ w', Below w.heap.size w w' → ∀ k (h : k < L.length), ∃ g off, aa = some ⟨g, off, none⟩ ∧ w'.cell? ⟨g, off + k, none⟩ = some (.string L[k]) := by
      rcases hown.2 with ⟨h', hn⟩ | ⟨g, cap, cur, h', _⟩
      · have h0 : L = [] := by simpa using hn
        subst h0
        exact ⟨none, 0, h', fun _ _ k hk => by simp at hk⟩
      · refine ⟨some ⟨g, 0, none⟩, cap, h', fun w' hw' k hk => ⟨g, 0, rfl, ?_⟩⟩
        have ho := owns_below hown hw'
        rw [h'] at ho
        rw [Nat.zero_add, ho.cellAt k (by omega), List.getElem?_map, List.getElem?_eq_getElem hk]; rfl
    have HCA := Lib.hid hca
    subst hask
    clear hP hobj hown hblk hL hLl hL6 hLe h3 he hca
    go_enter Tryz.func58, Tryz.ntmps58
    go_wp2
    go_loopw [3, 4, 5] (fun i _ _ wr => ∃ k : Nat, k ≤ v.names.length ∧ i = .int .i64 k ∧ (v.names.take k).all (fun n => st.asked.any fun a => decide (a = n)) = true ∧ Below w.heap.size w wr) (fun i _ _ _ => v.names.length - (intOf i).toNat)
    case atStart => exact ⟨0, by omega, rfl, by simp, Below.refl _ _⟩
    case round =>
      obtain ⟨k, hk, rfl, hall, hbel⟩ := hrel
      have HAL := Lib.hid hall
      have HB := Lib.hid hbel
      have hobw : wr.heap[o]? = _ := (hbel.block o hoz).trans HOB.out
      have c3 : wr.cell? ⟨o, 3, none⟩ = some (.slice an v.names.length cn) := box_cell hobw rfl
      have c5 : wr.cell? ⟨o, 5, none⟩ = some (.slice aa L.length cap) := box_cell hobw rfl
      clear hall hbel hobw
      by_cases hlt : k < v.names.length
      · obtain ⟨b, off, hae, _, hb2, cn0⟩ := (H3.out.below HB.out hbo (Nat.le_refl _) (Nat.le_refl _)).at k hlt
        subst hae
        have HA2 := Lib.hid (all_take2 (fun n => st.asked.any fun a => decide (a = n)) v.names k hlt)
        have HA3 := Lib.hid (all_bad2 (fun n => st.asked.any fun a => decide (a = n)) v.names k hlt)
        rw [HLA.out] at HA2 HA3
        obtain ⟨nm, hnm⟩ : ∃ nm, nm = v.names[k] := ⟨_, rfl⟩
        rw [← hnm] at cn0 HA2 HA3
        clear hnm
        obtain ⟨wo, rfl⟩ : ∃ wo : World, wo = wr := ⟨_, rfl⟩
        go_wp2
        go_loopw [4, 5] (fun is j wr => ∃ q : Nat, q ≤ L.length ∧ j = .int .i64 q ∧ is = .bool ((L.take q).any fun a => decide (a = nm)) ∧ Below w.heap.size w wr) (fun _ j _ => L.length - (intOf j).toNat)
        case atStart => exact ⟨0, by omega, rfl, rfl, HB.out⟩
        case round =>
          obtain ⟨q, hq, rfl, rfl, hbel⟩ := hrel
          have HB2 := Lib.hid hbel
          have hobw : wr.heap[o]? = _ := (hbel.block o hoz).trans HOB.out
          have d3 : wr.cell? ⟨o, 3, none⟩ = some (.slice (some ⟨b, off, none⟩) v.names.length cn) := box_cell hobw rfl
          have d5 : wr.cell? ⟨o, 5, none⟩ = some (.slice aa L.length cap) := box_cell hobw rfl
          have dn : wr.cell? ⟨b, off + k, none⟩ = some (.string nm) := by
            have e1 : wo.cell? ⟨b, off + k, none⟩ = w.cell? ⟨b, off + k, none⟩ := HB.out.cell (show b < w.heap.size by omega)
            have e2 : wr.cell? ⟨b, off + k, none⟩ = w.cell? ⟨b, off + k, none⟩ := hbel.cell (show b < w.heap.size by omega)
            rw [e2, ← e1]; exact cn0
          clear hobw hbel
          have hki : (k : Int) < (v.names.length : Int) := by omega
          have hk0 : (0 : Int) ≤ (k : Int) := by omega
          by_cases hql : q < L.length
          · obtain ⟨g, off', hae, dq⟩ := HCA.out wr HB2.out q hql
            subst hae
            have HAN := Lib.hid (any_take (fun a => decide (a = nm)) L q hql)
            obtain ⟨isb, hisb⟩ : ∃ isb, isb = (L.take q).any (fun a => decide (a = nm)) := ⟨_, rfl⟩
            rw [← hisb] at HAN
            rw [← hisb]
            clear hisb
            obtain ⟨x, hx⟩ : ∃ x, x = L[q] := ⟨_, rfl⟩
            rw [← hx] at dq HAN
            clear hx
            have hqi : (q : Int) < (L.length : Int) := by omega
            have hq0 : (0 : Int) ≤ (q : Int) := by omega
            cases isb
            · by_cases hxn : x = nm
              · subst hxn
                rw [decide_eq_true rfl] at HAN
                go_wp2_with fail
                go_quiet (fail)
                go_wp2
                go_roundw
                case rel => exact ⟨q + 1, by omega, by go_num, by rw [HAN.out]; rfl, Below.drewN HB2.out _⟩
                case measure => simp [intOf]; omega
              · have hxn2 : (x.toList == nm.toList) = false := beq_eq_false_iff_ne.2 fun e => hxn (ba_ext2 e)
                rw [decide_eq_false hxn] at HAN
                clear hxn
                go_wp2_with fail
                go_quiet (fail)
                go_wp2
                go_roundw
                case rel => exact ⟨q + 1, by omega, by go_num, by rw [HAN.out]; rfl, Below.drewN HB2.out _⟩
                case measure => simp [intOf]; omega
            · rw [Bool.true_or] at HAN
              go_wp2_with fail
              go_quiet (fail)
              go_wp2
              go_roundw
              case rel => exact ⟨q + 1, by omega, by go_num, by rw [HAN.out], Below.drewN HB2.out _⟩
              case measure => simp [intOf]; omega
          · have hqe : L.take q = L := List.take_of_length_le (by omega)
            rw [hqe]
            clear hqe
            cases hany : L.any (fun a => decide (a = nm))
            · have HF := Lib.hid (show pickDone v st = 11 by rw [HD.out, HA3.out hany]; rfl)
              clear hany
              go_wp2
              go_ret
              exact ⟨ret_int HF.out.symm, HB2.out⟩
            · have HF := Lib.hid (show (v.names.take (k + 1)).all (fun n => st.asked.any fun a => decide (a = n)) = true by rw [HA2.out, HAL.out, hany]; rfl)
              clear hany
              go_wp2
              go_roundw
              case rel => exact ⟨k + 1, by omega, by go_num, HF.out, HB2.out⟩
              case measure => simp [intOf]; omega
      · have HF := Lib.hid (show pickDone v st = 0 by
          have h := HAL.out
          rw [List.take_of_length_le (by omega)] at h
          rw [HD.out, h]; rfl)
        go_wp2
        go_ret
        exact ⟨ret_int HF.out.symm, HB.out⟩
  · have HD := Lib.hid (show pickDone v st = st.err by unfold pickDone; rw [if_pos he])
    have he1 : (st.err == 0) = false := by simpa using he
    have he2 : (st.err != 0) = true := by simpa using he
    clear he hP hobj hown hblk hL hLl hL6
    go_enter Tryz.func58, Tryz.ntmps58
    go_wp2
    go_ret
    exact ⟨ret_int HD.out.symm, Below.refl _ _⟩

end Go.Proofs.YtcahpjejpimdhaaGreatDoor

namespace Go.Proofs.YtcahpjejpimdhaaGreatDoor
open Go.RowKit

def ROfPost (v : JV) (er : Int) (w : World) (e : Ending) (w' : World) : Prop :=
  ∃ o an ai cn ci, e = .returned (.pointer (some ⟨o, 0, none⟩)) ∧ RefAt o w.heap.size v an ai cn ci ⟨[], er⟩ none w' ∧ w.heap.size ≤ o ∧ Below w.heap.size w w'

theorem ref_made {v : JV} {w w' : World} {an ai : Option Addr} {cn ci o : Nat} {er : Int} (hobj : w'.heap[o]? = some (.cells #[.int .u8 v.kind, .int .i64 v.n, .string v.t, .slice an v.names.length cn, .slice ai v.items.length ci, .slice none 0 0, .int .i64 er] 122 (0, 0)))
    (hR : Rep w 0 w.heap.size v (.agg #[.int .u8 v.kind, .int .i64 v.n, .string v.t, .slice an v.names.length cn, .slice ai v.items.length ci])) (ho : w.heap.size ≤ o) (hb : Below w.heap.size w w') (hg : er = 0 → v.kind = 5) : RefAt o w.heap.size v an ai cn ci ⟨[], er⟩ none w' where
  obj := ⟨.slice none 0 0, [], hobj, ⟨rfl, .inl ⟨rfl, rfl⟩⟩, rfl, fun _ => rfl, by simp, fun _ => by simp⟩
  rep := hR.below hb (Nat.le_refl _) (Nat.le_refl _) (Nat.le_refl _)
  le := ho
  nb := by simp
  good := hg

set_option maxHeartbeats 400000 in
set_option maxRecDepth 100000 in
theorem refOf_bad (v : JV) (x : Value) (w : World) (hR : Rep w 0 w.heap.size v x) (hk : v.kind ≠ 5) : Calls Tryz.prog 56 #[x] w (ROfPost v 10 w) := by
  obtain ⟨an, cn, ai, ci, rfl, h1, h2, h3, h4⟩ := hR.parts
  have HR := Lib.hid hR
  have HK := Lib.hid hk
  have k1 : (v.kind == 5) = false := by simpa using hk
  have k2 : (v.kind != 5) = true := by simpa using hk
  clear h1 h2 h3 h4 hR hk
  go_enter Tryz.func56, Tryz.ntmps56
  go_wp2
  go_ret
  have hb : Below w.heap.size w ((w.alloc (.cells #[.int .u8 v.kind, .int .i64 v.n, .string v.t, .slice an v.names.length cn, .slice ai v.items.length ci] 29)).alloc (.cells #[.int .u8 v.kind, .int .i64 v.n, .string v.t, .slice an v.names.length cn, .slice ai v.items.length ci, .slice none 0 0, .int .i64 10] 122)) := ((Below.refl _ _).alloc (Nat.le_refl _) _).alloc (by simp) _
  refine ⟨w.heap.size + 1, an, ai, cn, ci, rfl, ref_made ?_ HR.out (by omega) hb (fun h => by cases h), by omega, hb⟩
  have := heap_alloc_new (w.alloc (.cells #[.int .u8 v.kind, .int .i64 v.n, .string v.t, .slice an v.names.length cn, .slice ai v.items.length ci] 29)) (.cells #[.int .u8 v.kind, .int .i64 v.n, .string v.t, .slice an v.names.length cn, .slice ai v.items.length ci, .slice none 0 0, .int .i64 10] 122)
  rwa [show (w.alloc (.cells #[.int .u8 v.kind, .int .i64 v.n, .string v.t, .slice an v.names.length cn, .slice ai v.items.length ci] 29)).heap.size = w.heap.size + 1 by simp] at this

set_option maxHeartbeats 400000 in
set_option maxRecDepth 100000 in
theorem refOf_good (v : JV) (x : Value) (w : World) (hN : v.wt ≤ 4294967296) (hR : Rep w 0 w.heap.size v x) (hk : v.kind = 5) (hr : rises v.names = true) (hl : v.names.length = v.items.length) : Calls Tryz.prog 56 #[x] w (ROfPost v 0 w) := by
  obtain ⟨an, cn, ai, ci, rfl, h1, h2, h3, h4⟩ := hR.parts
  obtain ⟨b1, b2, b3, b4⟩ := v.wt_bd
  have H3 := Lib.hid h3
  have HR := Lib.hid hR
  have HRS := Lib.hid hr
  have HK := Lib.hid hk
  rw [hl] at hR
  obtain ⟨nn, hnn⟩ : ∃ nn, nn = v.items.length := ⟨_, rfl⟩
  obtain ⟨W0, hW0⟩ : ∃ W0, W0 = (w.alloc (.cells #[.int .u8 v.kind, .int .i64 v.n, .string v.t, .slice an v.names.length cn, .slice ai v.items.length ci] 29)).alloc (.cells #[.int .u8 v.kind, .int .i64 v.n, .string v.t, .slice an v.names.length cn, .slice ai v.items.length ci, .slice none 0 0, .int .i64 0] 122) := ⟨_, rfl⟩
  have HBW0 := Lib.hid (show Below w.heap.size w W0 by rw [hW0]; exact ((Below.refl _ _).alloc (Nat.le_refl _) _).alloc (by simp) _)
  have HX0 := Lib.hid (show W0.heap[w.heap.size]? = some (.cells #[.int .u8 v.kind, .int .i64 v.n, .string v.t, .slice an v.names.length cn, .slice ai v.items.length ci] 29 (0, 0)) by rw [hW0, Below.heap_alloc _ _ _ (by simp)]; exact heap_alloc_new w _)
  have HO0 := Lib.hid (show W0.heap[w.heap.size + 1]? = some (.cells #[.int .u8 v.kind, .int .i64 v.n, .string v.t, .slice an v.names.length cn, .slice ai v.items.length ci, .slice none 0 0, .int .i64 0] 122 (0, 0)) by
    rw [hW0]
    have := heap_alloc_new (w.alloc (.cells #[.int .u8 v.kind, .int .i64 v.n, .string v.t, .slice an v.names.length cn, .slice ai v.items.length ci] 29)) (.cells #[.int .u8 v.kind, .int .i64 v.n, .string v.t, .slice an v.names.length cn, .slice ai v.items.length ci, .slice none 0 0, .int .i64 0] 122)
    rwa [show (w.alloc (.cells #[.int .u8 v.kind, .int .i64 v.n, .string v.t, .slice an v.names.length cn, .slice ai v.items.length ci] 29)).heap.size = w.heap.size + 1 by simp] at this)
  have hWz : w.heap.size + 2 ≤ W0.heap.size := by rw [hW0]; simp
  rw [hl, ← hnn, hk] at hW0 ⊢
  have HNN := Lib.hid hnn
  have HL := Lib.hid hl
  have HW0 := Lib.hid hW0
  rw [← hnn] at b3
  clear h1 h2 h3 h4 hR hr hk hnn hl hW0
  go_enter Tryz.func56, Tryz.ntmps56
  go_wp2_with fail
  rw [← HW0.out]
  go_loopw [4] (fun i wr => ∃ k : Nat, 1 ≤ k ∧ (k ≤ nn ∨ k = 1) ∧ i = .int .i64 k ∧ Below W0.heap.size W0 wr) (fun i _ => nn - (intOf i).toNat)
  case atStart => exact ⟨1, by omega, .inr rfl, rfl, Below.refl _ _⟩
  case round =>
    obtain ⟨k, hk1, hk2, rfl, hbel⟩ := hrel
    have hx1 : wr.heap[w.heap.size]? = some (.cells #[.int .u8 5, .int .i64 v.n, .string v.t, .slice an nn cn, .slice ai nn ci] 29 (0, 0)) := by
      rw [hbel.block _ (by omega)]
      have := HX0.out
      rw [HK.out, HL.out, ← HNN.out] at this
      exact this
    have HBW := Lib.hid (show Below w.heap.size w wr from HBW0.out.trans (hbel.mono (by omega)))
    have c3 : wr.cell? ⟨w.heap.size, 3, none⟩ = some (.slice an nn cn) := box_cell hx1 rfl
    have HB := Lib.hid hbel
    clear hx1 hbel
    by_cases hlt : k < nn
    · have hltn : k < v.names.length := by rw [HL.out, ← HNN.out]; exact hlt
      obtain ⟨b, off, hae, _, hb, y1⟩ := (H3.out.below HBW.out (Nat.le_refl _) (Nat.le_refl _) (Nat.le_refl _)).at k hltn
      obtain ⟨b', off', hbb, _, _, y0⟩ := (H3.out.below HBW.out (Nat.le_refl _) (Nat.le_refl _) (Nat.le_refl _)).at (k - 1) (by omega)
      subst hae
      obtain ⟨rfl, rfl⟩ : b = b' ∧ off = off' := by simpa using hbb
      clear hbb
      have hless := rises_lt HRS.out (k - 1) k (by omega) hltn (by omega)
      unfold bl at hless
      generalize v.names[k - 1] = na at hless y0
      generalize v.names[k] = nb at hless y1
      have i0 : IntKind.i64.wrap ((k : Int) - 1) = (k : Int) - 1 := IntWalk.i64_in _ (by omega)
      have j0 : 0 ≤ (k : Int) - 1 := by omega
      have j1 : 1 ≤ (k : Int) := by omega
      have j2 : (k : Int) - 1 < (nn : Int) := by omega
      have j3 : (k : Int) < (nn : Int) := by omega
      have t0 : ((k : Int) - 1).toNat = k - 1 := by omega
      go_wp2_with fail
      go_quiet (fail)
      go_wp2
      go_roundw
      case rel => exact ⟨k + 1, by omega, by omega, by go_num, Below.drewN HB.out _⟩
      case measure => simp [intOf]; omega
    · go_wp2
      go_ret
      exact ⟨w.heap.size + 1, an, ai, cn, ci, rfl, ref_made (by rw [HB.out.block _ (by omega)]; exact HO0.out) HR.out (by omega) HBW.out (fun _ => HK.out), by omega, HBW.out⟩

end Go.Proofs.YtcahpjejpimdhaaGreatDoor

namespace Go.Proofs.YtcahpjejpimdhaaGreatDoor
open Go.RowKit

theorem RefAt.other {o base p : Nat} {v : JV} {an ai : Option Addr} {cn ci : Nat} {st : PS} {blk : Option Nat} {w w' : World} (h : RefAt o base v an ai cn ci st blk w) (hk : ∀ k, k ≠ p → w'.heap[k]? = w.heap[k]?) (hp : p ≠ o) (hb : blk ≠ some p) (hbp : base ≤ p) : RefAt o base v an ai cn ci st blk w' where
  obj := by
    obtain ⟨ask, L, h1, h2, h3, h4, h5, h6⟩ := h.obj
    exact ⟨ask, L, by rw [hk o (Ne.symm hp)]; exact h1, owns_same h2 (fun g hg => hk g (fun e => hb (by rw [← h3, hg, e]))), h3, h4, h5, h6⟩
  rep := h.rep.carry (Nat.le_refl _) (Nat.le_refl _) fun b _ hlt => hk b (by omega)
  le := h.le
  nb := h.nb
  good := h.good

set_option maxHeartbeats 2000000 in
set_option maxRecDepth 100000 in
theorem ref14Of (v : JV) (x : Value) (w : World) (hN : v.wt ≤ 4294967296) (hR : Rep w 0 w.heap.size v x) :
    Calls Tryz.prog 24 #[x] w (KeyOfPost v w) := by
  obtain ⟨an, cn, ai, ci, hx, h1, h2, h3, h4⟩ := hR.parts
  have HR := Lib.hid hR
  clear h1 h2 h3 h4 hR
  subst hx
  have HB0 := Lib.hid (show Below w.heap.size w ((w.alloc (.cells #[.int .u8 v.kind, .int .i64 v.n, .string v.t, .slice an v.names.length cn, .slice ai v.items.length ci] 29)).alloc (.cells #[.string { data := #[] }, .string { data := #[] }] 23)) from ((Below.refl _ _).alloc (Nat.le_refl _) _).alloc (by simp) _)
  have HX0 := Lib.hid (show ((w.alloc (.cells #[.int .u8 v.kind, .int .i64 v.n, .string v.t, .slice an v.names.length cn, .slice ai v.items.length ci] 29)).alloc (.cells #[.string { data := #[] }, .string { data := #[] }] 23)).heap[w.heap.size]? = some (.cells #[.int .u8 v.kind, .int .i64 v.n, .string v.t, .slice an v.names.length cn, .slice ai v.items.length ci] 29 (0, 0)) by rw [Below.heap_alloc _ _ _ (by simp)]; exact heap_alloc_new w _)
  have hr0 := rowIs_box2 (w.alloc (.cells #[.int .u8 v.kind, .int .i64 v.n, .string v.t, .slice an v.names.length cn, .slice ai v.items.length ci] 29)) (.string { data := #[] }) (.string { data := #[] }) 23
  rw [show (w.alloc (.cells #[.int .u8 v.kind, .int .i64 v.n, .string v.t, .slice an v.names.length cn, .slice ai v.items.length ci] 29)).heap.size = w.heap.size + 1 by simp] at hr0
  have HR0 := Lib.hid hr0
  clear hr0
  have HM := Lib.hid (refMay v _ ((w.alloc (.cells #[.int .u8 v.kind, .int .i64 v.n, .string v.t, .slice an v.names.length cn, .slice ai v.items.length ci] 29)).alloc (.cells #[.string { data := #[] }, .string { data := #[] }] 23)) hN (HR.out.below HB0.out (Nat.le_refl _) (Nat.le_refl _) (by simp; omega)))
  cases hm : v.mayB
  · have HX := Lib.hid (show keyOfJ v = (({ data := #[] }, { data := #[] }), 3) by unfold keyOfJ; rw [if_pos hm])
    rw [hm] at HM
    clear hm
    go_enter Tryz.func24, Tryz.ntmps24
    go_wp2_with fail
    refine HM.out.mono ?_
    rintro e w1 ⟨rfl, hb1⟩
    have hres := below_row hb1 HR0.out (by simp)
    have HRS := Lib.hid hres
    have HB1 := Lib.hid (HB0.out.trans (hb1.mono (by simp; omega)))
    have t0 := hres.cell (i := 0) (by decide); have t1 := hres.cell (i := 1) (by decide)
    have s0 := hres.frozen 0; have s1 := hres.frozen 1
    simp only [pick2] at t0 t1
    clear hres hb1
    go_wp2
    refine bodyPost_ret (results_row_tmp Tryz.results24 _ _ (w.heap.size + 1) 23 _ (0, 0) _ rfl (row2_heap (set2 _ _ HRS.out)) Tryz.underlying23 rfl (by kernel_rfl) _ rfl) rfl ⟨?_, below2 _ _ HB1.out (by omega)⟩
    rw [HX.out]; rfl
  rw [hm] at HM
  have HMB := Lib.hid hm
  clear hm
  obtain ⟨er, her⟩ : ∃ er : Int, er = if v.kind = 5 then 0 else 10 := ⟨_, rfl⟩
  have HOFA := Lib.hid (show ∀ w' : World, Rep w' 0 w'.heap.size v (.agg #[.int .u8 v.kind, .int .i64 v.n, .string v.t, .slice an v.names.length cn, .slice ai v.items.length ci]) → Calls Tryz.prog 56 #[.agg #[.int .u8 v.kind, .int .i64 v.n, .string v.t, .slice an v.names.length cn, .slice ai v.items.length ci]] w' (ROfPost v er w') from fun w' h => by
    by_cases hk : v.kind = 5
    · obtain ⟨hri, hle, _⟩ := may_obj HMB.out hk
      rw [her, if_pos hk]; exact refOf_good v _ w' hN h hk hri hle
    · rw [her, if_neg hk]; exact refOf_bad v _ w' h hk)
  obtain ⟨st1, hst1⟩ : ∃ r, r = pickText v pubN ⟨[], er⟩ := ⟨_, rfl⟩
  obtain ⟨st2, hst2⟩ : ∃ r, r = pickText v schN st1.2 := ⟨_, rfl⟩
  obtain ⟨dn, hdn⟩ : ∃ r, r = pickDone v st2.2 := ⟨_, rfl⟩
  have HX := Lib.hid (show keyOfJ v = if dn ≠ 0 then (({ data := #[] }, { data := #[] }), dn) else if keyOk st2.1.data.toList st1.1.data.toList then ((st2.1, st1.1), 0) else (({ data := #[] }, { data := #[] }), 3) by
    unfold keyOfJ
    rw [if_neg (by rw [HMB.out]; simp)]
    by_cases hk : v.kind = 5
    · rw [if_pos hk] at her; subst her
      rw [if_neg (by simp [hk]), hdn, hst2, hst1]
    · rw [if_neg hk] at her; subst her
      have e1 : st1 = ({ data := #[] }, ⟨[], 10⟩) := by rw [hst1]; simp [pickText]
      have e2 : st2 = ({ data := #[] }, ⟨[], 10⟩) := by rw [hst2, e1]; simp [pickText]
      have e3 : dn = 10 := by rw [hdn, e2]; simp [pickDone]
      rw [if_pos hk, e3]; rfl)
  obtain ⟨z1, z2⟩ := text_size (y := pubN) (st := ⟨[], er⟩) hN
  obtain ⟨z3, z4⟩ := text_size (y := schN) (st := st1.2) hN
  rw [← hst1] at z1 z2
  rw [← hst2] at z3 z4
  simp only [List.length_nil] at z2
  have HST1 := Lib.hid hst1
  have HST2 := Lib.hid hst2
  have HDN := Lib.hid hdn
  clear hst1 hst2 hdn her
  go_enter Tryz.func24, Tryz.ntmps24
  go_wp2_with fail
  refine HM.out.mono ?_
  clear HM
  rintro e w1 ⟨rfl, hb1⟩
  have hz1 : w.heap.size + 2 ≤ w1.heap.size := by have := hb1.size; simp at this; omega
  have HB1 := Lib.hid (HB0.out.trans (hb1.mono (by simp; omega)))
  have HR1 := Lib.hid (below_row hb1 HR0.out (by simp))
  have hx1 : w1.heap[w.heap.size]? = some (.cells #[.int .u8 v.kind, .int .i64 v.n, .string v.t, .slice an v.names.length cn, .slice ai v.items.length ci] 29 (0, 0)) := by rw [hb1.block _ (by simp; omega)]; exact HX0.out
  have c0 : w1.cell? ⟨w.heap.size, 0, none⟩ = some (.int .u8 v.kind) := box_cell hx1 rfl
  have c1 : w1.cell? ⟨w.heap.size, 1, none⟩ = some (.int .i64 v.n) := box_cell hx1 rfl
  have c2 : w1.cell? ⟨w.heap.size, 2, none⟩ = some (.string v.t) := box_cell hx1 rfl
  have c3 : w1.cell? ⟨w.heap.size, 3, none⟩ = some (.slice an v.names.length cn) := box_cell hx1 rfl
  have c4 : w1.cell? ⟨w.heap.size, 4, none⟩ = some (.slice ai v.items.length ci) := box_cell hx1 rfl
  have HOF := Lib.hid (HOFA.out w1 (HR.out.below HB1.out (Nat.le_refl _) (Nat.le_refl _) (by omega)))
  clear hb1 hx1
  go_wp2_with fail
  refine HOF.out.mono ?_
  clear HOF HOFA c0 c1 c2 c3 c4 HR HX0 HB0 HR0
  rintro e w2 ⟨o, an2, ai2, cn2, ci2, rfl, hp2, ho2, hb2⟩
  have hz2 := hb2.size
  have hoz := hp2.lt
  have hP3 := hp2.below ((Below.refl _ _).alloc (Nat.le_refl _) (.cells #[.string { data := #[] }, .string { data := #[] }] 23))
  have HT1 := Lib.hid (refTextF o w1.heap.size v an2 ai2 cn2 ci2 pubN ⟨[], er⟩ none _ hP3 hN (by simp))
  have HR2 := Lib.hid ((below_row hb2 HR1.out (by omega)).alloc (.cells #[.string { data := #[] }, .string { data := #[] }] 23))
  have HK2 := Lib.hid (rowIs_box2 w2 (.string { data := #[] }) (.string { data := #[] }) 23)
  have HB2 := Lib.hid ((HB1.out.trans (hb2.mono (by omega))).alloc (by omega) (.cells #[.string { data := #[] }, .string { data := #[] }] 23))
  clear hp2 hb2 hP3 HR1 HB1
  go_wp2_with fail
  refine HT1.out.mono ?_
  clear HT1
  rintro e w3 ⟨blk1, rfl, hp3, hbk1, ht3⟩
  rw [← HST1.out] at hp3 ⊢
  have hz3 : w2.heap.size + 1 ≤ w3.heap.size := by have := ht3.size; simp at this; omega
  have hnb1 : ∀ q, q < w2.heap.size + 1 → blk1 ≠ some q := fun q hq e => by
    rcases hbk1 with h | ⟨g, h, hg⟩
    · rw [h] at e; cases e
    · rw [h] at e; simp at e hg; omega
  have hR3 := ht3.row HR2.out (by simp; omega)
  have hK3 := ht3.row HK2.out (by simp; omega)
  have HB3 := Lib.hid (HB2.out.trans (ht3.below (by simp; omega) fun k hk e => by simp at e; omega))
  have t1 := hK3.cell (i := 1) (by decide)
  have s1 := hK3.frozen 1
  simp only [pick2] at t1
  have HK3 := Lib.hid (show (w3.setCell ⟨w2.heap.size, 1, none⟩ (.string st1.1)).rowIs w2.heap.size 23 2 (pick2 (.string { data := #[] }) (.string st1.1)) from (hK3.set 1 (.string st1.1)).congr fun j hj => by rcases j with _ | _ | j <;> first | rfl | omega)
  have HR3 := Lib.hid (show (w3.setCell ⟨w2.heap.size, 1, none⟩ (.string st1.1)).rowIs (w.heap.size + 1) 23 2 (pick2 (.string { data := #[] }) (.string { data := #[] })) from hR3.of_block (Below.heap_setCell _ _ _ _ (by show w.heap.size + 1 ≠ w2.heap.size; omega)))
  have HP3 := Lib.hid (show RefAt o w1.heap.size v an2 ai2 cn2 ci2 st1.2 blk1 (w3.setCell ⟨w2.heap.size, 1, none⟩ (.string st1.1)) from hp3.other (p := w2.heap.size) (fun k hk => Below.heap_setCell _ _ _ _ hk) (by omega) (hnb1 _ (by omega)) (by omega))
  have HB3' := Lib.hid (show Below w.heap.size w (w3.setCell ⟨w2.heap.size, 1, none⟩ (.string st1.1)) from HB3.out.setCell (by show w.heap.size ≤ w2.heap.size; omega) _)
  have HN1 := Lib.hid hnb1
  clear hp3 hbk1 ht3 hnb1 hR3 hK3 HB3 HK2 HR2 HB2
  have HT2 := Lib.hid (refTextF o w1.heap.size v an2 ai2 cn2 ci2 schN st1.2 blk1 _ HP3.out hN (by omega))
  have hzs : (w3.setCell ⟨w2.heap.size, 1, none⟩ (.string st1.1)).heap.size = w3.heap.size := by simp [World.setCell]
  have HZS := Lib.hid hzs
  clear hzs
  go_wp2_with fail
  refine HT2.out.mono ?_
  clear HT2 t1 s1
  rintro e w4 ⟨blk2, rfl, hp4, hbk2, ht4⟩
  rw [← HST2.out] at hp4 ⊢
  have hz4 : w3.heap.size ≤ w4.heap.size := by have := ht4.size; rw [HZS.out] at this; exact this
  have hnb2 : ∀ q, q < w2.heap.size + 1 → blk2 ≠ some q := fun q hq e => by
    rcases hbk2 with h | ⟨g, h, hg⟩
    · exact HN1.out q hq (h ▸ e)
    · rw [h] at e; simp at e; rw [HZS.out] at hg; omega
  have hR4 := ht4.row HR3.out (fun h => by
    rcases h with h | h
    · omega
    · exact HN1.out _ (by omega) h)
  have hK4 := ht4.row HK3.out (fun h => by
    rcases h with h | h
    · omega
    · exact HN1.out _ (by omega) h)
  have HB4 := Lib.hid (show Below w.heap.size w w4 from HB3'.out.trans (ht4.below (by rw [HZS.out]; omega) fun k hk h => by
    rcases h with h | h
    · omega
    · exact HN1.out _ (by omega) h))
  have t0 := hK4.cell (i := 0) (by decide)
  have s0 := hK4.frozen 0
  simp only [pick2] at t0
  have HK4 := Lib.hid (show (w4.setCell ⟨w2.heap.size, 0, none⟩ (.string st2.1)).rowIs w2.heap.size 23 2 (pick2 (.string st2.1) (.string st1.1)) from (hK4.set 0 (.string st2.1)).congr fun j hj => by rcases j with _ | _ | j <;> first | rfl | omega)
  have HR4 := Lib.hid (show (w4.setCell ⟨w2.heap.size, 0, none⟩ (.string st2.1)).rowIs (w.heap.size + 1) 23 2 (pick2 (.string { data := #[] }) (.string { data := #[] })) from hR4.of_block (Below.heap_setCell _ _ _ _ (by show w.heap.size + 1 ≠ w2.heap.size; omega)))
  have HP4 := Lib.hid (show RefAt o w1.heap.size v an2 ai2 cn2 ci2 st2.2 blk2 (w4.setCell ⟨w2.heap.size, 0, none⟩ (.string st2.1)) from hp4.other (p := w2.heap.size) (fun k hk => Below.heap_setCell _ _ _ _ hk) (by omega) (hnb2 _ (by omega)) (by omega))
  have HB4' := Lib.hid (show Below w.heap.size w (w4.setCell ⟨w2.heap.size, 0, none⟩ (.string st2.1)) from HB4.out.setCell (by show w.heap.size ≤ w2.heap.size; omega) _)
  have HDO := Lib.hid (refDoneF o w1.heap.size v an2 ai2 cn2 ci2 st2.2 blk2 _ HP4.out hN (by omega))
  rw [← HDN.out] at HDO
  clear hp4 hbk2 ht4 hnb2 hR4 hK4 HB4 HK3 HR3 HP3 HB3' HN1
  go_wp2_with fail
  refine HDO.out.mono ?_
  clear HDO t0 s0
  rintro e w5 ⟨rfl, hb5⟩
  have hz5 : w4.heap.size ≤ w5.heap.size := by have := hb5.size; simpa [World.setCell] using this
  have HR5 := Lib.hid (below_row hb5 HR4.out (by simp [World.setCell]; omega))
  have HK5 := Lib.hid (below_row hb5 HK4.out (by simp [World.setCell]; omega))
  have HB5 := Lib.hid (HB4'.out.trans (hb5.mono HB4'.out.size))
  clear hb5 HR4 HK4 HB4' HP4
  have k0 := HK5.out.cell (i := 0) (by decide); have k1 := HK5.out.cell (i := 1) (by decide)
  have r0 := HR5.out.cell (i := 0) (by decide); have r1 := HR5.out.cell (i := 1) (by decide)
  have f0 := HR5.out.frozen 0; have f1 := HR5.out.frozen 1
  simp only [pick2] at k0 k1 r0 r1
  by_cases hd : dn = 0
  · rw [hd] at HX ⊢
    simp only [ne_eq, not_true_eq_false, if_false] at HX
    clear hd HDN
    have HKM := Lib.hid (ref14May st2.1 st1.1 w5 (by omega) (by omega))
    cases hko : keyOk st2.1.data.toList st1.1.data.toList
    · rw [hko] at HKM HX
      simp only [Bool.false_eq_true, if_false] at HX
      clear hko
      go_wp2_with fail
      refine HKM.out.mono ?_
      clear HKM k0 k1 r0 r1 f0 f1
      rintro e w6 ⟨rfl, hb6⟩
      have hz6 := hb6.size
      have HR6 := Lib.hid (below_row hb6 HR5.out (by omega))
      have HB6 := Lib.hid (HB5.out.trans (hb6.mono HB5.out.size))
      have r0 := HR6.out.cell (i := 0) (by decide); have r1 := HR6.out.cell (i := 1) (by decide)
      have f0 := HR6.out.frozen 0; have f1 := HR6.out.frozen 1
      simp only [pick2] at r0 r1
      clear hb6
      go_wp2
      exact bodyPost_ret (results_row_tmp Tryz.results24 _ _ (w.heap.size + 1) 23 #[.string { data := #[] }, .string { data := #[] }] (0, 0) _ rfl (row2_heap (set2 _ _ HR6.out)) Tryz.underlying23 rfl (by kernel_rfl) _ rfl) rfl ⟨by rw [HX.out] <;> rfl, below2 _ _ HB6.out (by omega)⟩
    · rw [hko] at HKM HX
      rw [if_pos rfl] at HX
      clear hko
      go_wp2_with fail
      refine HKM.out.mono ?_
      clear HKM k0 k1 r0 r1 f0 f1
      rintro e w6 ⟨rfl, hb6⟩
      have hz6 := hb6.size
      have HR6 := Lib.hid (below_row hb6 HR5.out (by omega))
      have HK6 := Lib.hid (below_row hb6 HK5.out (by omega))
      have HB6 := Lib.hid (HB5.out.trans (hb6.mono HB5.out.size))
      have k0 := HK6.out.cell (i := 0) (by decide); have k1 := HK6.out.cell (i := 1) (by decide)
      have r0 := HR6.out.cell (i := 0) (by decide); have r1 := HR6.out.cell (i := 1) (by decide)
      have f0 := HR6.out.frozen 0; have f1 := HR6.out.frozen 1
      simp only [pick2] at k0 k1 r0 r1
      have n1 : w2.heap.size ≠ w.heap.size + 1 := by omega
      clear hb6
      go_wp2
      exact bodyPost_ret (results_row_tmp Tryz.results24 _ _ (w.heap.size + 1) 23 #[.string st2.1, .string st1.1] (0, 0) _ rfl (row2_heap (set2 _ _ HR6.out)) Tryz.underlying23 rfl (by kernel_rfl) _ rfl) rfl ⟨by rw [HX.out] <;> rfl, below2 _ _ HB6.out (by omega)⟩
  · rw [if_pos hd] at HX
    have hd1 : (dn == 0) = false := by simpa using hd
    have hd2 : (dn != 0) = true := by simpa using hd
    clear hd HDN
    go_wp2
    exact bodyPost_ret (results_row_tmp Tryz.results24 _ _ (w.heap.size + 1) 23 #[.string { data := #[] }, .string { data := #[] }] (0, 0) _ rfl (row2_heap (set2 _ _ HR5.out)) Tryz.underlying23 rfl (by kernel_rfl) _ rfl) rfl ⟨by rw [HX.out] <;> rfl, below2 _ _ HB5.out (by omega)⟩

end Go.Proofs.YtcahpjejpimdhaaGreatDoor

namespace Go.Proofs.YtcahpjejpimdhaaGreatDoor
open Go.RowKit

set_option maxHeartbeats 2000000 in
set_option maxRecDepth 100000 in
theorem ref14Keys (v : JV) (x : Value) (w : World) (hN : v.wt ≤ 4294967296) (hR : Rep w 0 w.heap.size v x) :
    Calls Tryz.prog 34 #[x] w (KeysPost v w) := by
  obtain ⟨an, cn, ai, ci, hx, h1, h2, h3, h4⟩ := hR.parts
  have HR := Lib.hid hR
  have H3 := Lib.hid h3
  have H4 := Lib.hid h4
  obtain ⟨b1, b2, b3, b4⟩ := v.wt_bd
  clear h1 h2 h3 h4 hR
  subst hx
  have HB0 := Lib.hid (show Below w.heap.size w (w.alloc (.cells #[.int .u8 v.kind, .int .i64 v.n, .string v.t, .slice an v.names.length cn, .slice ai v.items.length ci] 29)) from (Below.refl _ _).alloc (Nat.le_refl _) _)
  have HX0 := Lib.hid (heap_alloc_new w (.cells #[.int .u8 v.kind, .int .i64 v.n, .string v.t, .slice an v.names.length cn, .slice ai v.items.length ci] 29))
  have HM := Lib.hid (refMay v _ (w.alloc (.cells #[.int .u8 v.kind, .int .i64 v.n, .string v.t, .slice an v.names.length cn, .slice ai v.items.length ci] 29)) hN (HR.out.below HB0.out (Nat.le_refl _) (Nat.le_refl _) (by simp)))
  cases hm : v.mayB
  · have HK := Lib.hid (show keysJ v = ([], 3) by unfold keysJ; rw [if_pos hm])
    rw [hm] at HM
    clear hm
    go_enter Tryz.func34, Tryz.ntmps34
    go_wp2_with fail
    refine HM.out.mono ?_
    rintro e w1 ⟨rfl, hb1⟩
    have HB1 := Lib.hid (HB0.out.trans (hb1.mono (by simp)))
    clear hb1
    go_wp2
    go_ret2
    exact ⟨.slice none 0 0, by rw [HK.out] <;> rfl, by rw [HK.out]; exact World.ownsRow_nil _ _ _ _, HB1.out⟩
  rw [hm] at HM
  have HMB := Lib.hid hm
  clear hm
  by_cases hk5 : v.kind = 5
  case neg =>
    have HK := Lib.hid (show keysJ v = ([], 10) by unfold keysJ; rw [if_neg (by simp [HMB.out]), if_pos hk5])
    have t1 : (v.kind != 5) = true := by simpa using hk5
    clear hk5
    go_enter Tryz.func34, Tryz.ntmps34
    go_wp2_with fail
    refine HM.out.mono ?_
    rintro e w1 ⟨rfl, hb1⟩
    have hx1 : w1.heap[w.heap.size]? = some (.cells #[.int .u8 v.kind, .int .i64 v.n, .string v.t, .slice an v.names.length cn, .slice ai v.items.length ci] 29 (0, 0)) := by rw [hb1.block _ (by simp)]; exact HX0.out
    have HB1 := Lib.hid (HB0.out.trans (hb1.mono (by simp)))
    have c0 : w1.cell? ⟨w.heap.size, 0, none⟩ = some (.int .u8 v.kind) := box_cell hx1 rfl
    clear hb1 hx1
    go_wp2
    go_ret2
    exact ⟨.slice none 0 0, by rw [HK.out] <;> rfl, by rw [HK.out]; exact World.ownsRow_nil _ _ _ _, HB1.out⟩
  have t1 : (v.kind != 5) = false := by simpa using hk5
  obtain ⟨_, hll, _⟩ := may_obj HMB.out hk5
  have HK5 := Lib.hid hk5
  clear hk5
  obtain ⟨nn, hnn⟩ : ∃ nn, nn = v.names.length := ⟨_, rfl⟩
  rw [← hll, ← hnn] at HM HX0 HB0
  rw [← hll, ← hnn]
  have HNN := Lib.hid hnn
  have HNI := Lib.hid (show v.items.length = nn by rw [hnn, hll])
  clear hnn hll
  by_cases h32 : nn ≤ 32
  case neg =>
    have HK := Lib.hid (show keysJ v = ([], 5) by unfold keysJ; rw [if_neg (by simp [HMB.out]), if_neg (by simp [HK5.out]), if_pos (by rw [← HNN.out]; omega)])
    have t2 : decide (32 < (nn : Int)) = true := by simp; omega
    go_enter Tryz.func34, Tryz.ntmps34
    go_wp2_with fail
    refine HM.out.mono ?_
    rintro e w1 ⟨rfl, hb1⟩
    have hx1 : w1.heap[w.heap.size]? = some (.cells #[.int .u8 v.kind, .int .i64 v.n, .string v.t, .slice an nn cn, .slice ai nn ci] 29 (0, 0)) := by rw [hb1.block _ (by simp)]; exact HX0.out
    have HB1 := Lib.hid (HB0.out.trans (hb1.mono (by simp)))
    have c0 : w1.cell? ⟨w.heap.size, 0, none⟩ = some (.int .u8 v.kind) := box_cell hx1 rfl
    have c3 : w1.cell? ⟨w.heap.size, 3, none⟩ = some (.slice an nn cn) := box_cell hx1 rfl
    clear hb1 hx1
    go_wp2
    go_ret2
    exact ⟨.slice none 0 0, by rw [HK.out] <;> rfl, by rw [HK.out]; exact World.ownsRow_nil _ _ _ _, HB1.out⟩
  have t2 : decide (32 < (nn : Int)) = false := by simp; omega
  have HKJ := Lib.hid (show keysJ v = keysL v.names v.items [] by unfold keysJ; rw [if_neg (by simp [HMB.out]), if_neg (by simp [HK5.out]), if_neg (by rw [← HNN.out]; omega)])
  obtain ⟨i3, hi3, iz0, iz1, iz2⟩ := info_parts infoKey
  go_enter Tryz.func34, Tryz.ntmps34
  go_wp2_with fail
  refine HM.out.mono ?_
  clear HM
  rintro e w1 ⟨rfl, hb1⟩
  have hx1 : w1.heap[w.heap.size]? = some (.cells #[.int .u8 v.kind, .int .i64 v.n, .string v.t, .slice an nn cn, .slice ai nn ci] 29 (0, 0)) := by rw [hb1.block _ (by simp)]; exact HX0.out
  have HX1 := Lib.hid hx1
  have HB1 := Lib.hid (HB0.out.trans (hb1.mono (by simp)))
  have hz1 : w.heap.size < w1.heap.size := heap_lt hx1
  have c0 : w1.cell? ⟨w.heap.size, 0, none⟩ = some (.int .u8 v.kind) := box_cell hx1 rfl
  have c3 : w1.cell? ⟨w.heap.size, 3, none⟩ = some (.slice an nn cn) := box_cell hx1 rfl
  clear hb1 hx1 HB0 HX0
  go_wp2_with fail
  clear c0 c3
  go_loopw [4, 5, 6, 7, 8, 9] (fun ks i _ _ _ _ wr => ∃ (k : Nat) (acc : List Key2), k ≤ nn ∧ i = .int .i64 k ∧ acc.length = k ∧ keysJ v = keysL (v.names.drop k) (v.items.drop k) acc ∧ wr.ownsRow w1.heap.size 23 2 ks k (acc.flatMap encK) ∧ Below w1.heap.size w1 wr) (fun ks i _ _ _ _ _ => nn - (intOf i).toNat)
  case atStart => exact ⟨0, [], by omega, rfl, rfl, HKJ.out, World.ownsRow_nil _ _ _ _, Below.refl _ _⟩
  case round =>
    obtain ⟨k, acc, hk, rfl, hac, hkj, hown, hbel⟩ := hrel
    obtain ⟨am, cm, hv0, _⟩ := owns_keys hown hac.symm
    rw [hac] at hv0
    subst hv0
    have HKK := Lib.hid hkj
    have HO := Lib.hid hown
    have HB := Lib.hid hbel
    have HBT := Lib.hid (HB1.out.trans (hbel.mono HB1.out.size))
    have hzw : w1.heap.size ≤ wr.heap.size := hbel.size
    have hxw : wr.heap[w.heap.size]? = some (.cells #[.int .u8 v.kind, .int .i64 v.n, .string v.t, .slice an nn cn, .slice ai nn ci] 29 (0, 0)) := by rw [hbel.block _ hz1]; exact HX1.out
    have HXW := Lib.hid hxw
    have c3 : wr.cell? ⟨w.heap.size, 3, none⟩ = some (.slice an nn cn) := box_cell hxw rfl
    have c4 : wr.cell? ⟨w.heap.size, 4, none⟩ = some (.slice ai nn ci) := box_cell hxw rfl
    clear hkj hown hbel hxw
    by_cases hlt : k < nn
    · have hlv : k < v.names.length := by rw [← HNN.out]; exact hlt
      have hli : k < v.items.length := by rw [HNI.out]; exact hlt
      have HST := Lib.hid (keysL_step v.names v.items k acc hlv hli)
      obtain ⟨p, f, ha, _, hpb, y1⟩ := (H3.out.below HBT.out (Nat.le_refl _) (Nat.le_refl _) (Nat.le_refl _)).at k hlv
      subst ha
      obtain ⟨p', f', e0, e1, e2, e3, e4, ha, _, hpb', g0, g1, g2, g3, g4, hr⟩ := (H4.out.below HBT.out (Nat.le_refl _) (Nat.le_refl _) (Nat.le_refl _)).at k hli
      subst ha
      have hw1 := JV.wts_get v.items k hli
      have HOF := Lib.hid (ref14Of v.items[k] _ wr (by omega) (Rep.carry (Nat.le_refl _) HBT.out.size (fun _ _ _ => rfl) _ _ hr))
      unfold KeyOfPost at HOF
      have HKO := Lib.hid (@keyOfJ_ok v.items[k])
      obtain ⟨K, hK⟩ : ∃ K, K = keyOfJ v.items[k] := ⟨_, rfl⟩
      obtain ⟨nk, hnk⟩ : ∃ nk, nk = v.names[k] := ⟨_, rfl⟩
      rw [← hK] at HOF HKO
      replace HST := Lib.hid (HST.out.trans (congrArg (fun z => stepL z v.names[k] (v.names.drop (k + 1)) (v.items.drop (k + 1)) acc) hK.symm))
      replace HST := Lib.hid (HST.out.trans (congrArg (fun z => stepL K z (v.names.drop (k + 1)) (v.items.drop (k + 1)) acc) hnk.symm))
      replace y1 := y1.trans (congrArg (fun z => some (Value.string z)) hnk.symm)
      clear hK hnk hr hw1 hlv hli
      obtain ⟨⟨sch, kp⟩, ke⟩ := K
      have q0 : (0 : Int) ≤ (k : Int) := by omega
      have q1 : (k : Int) < (nn : Int) := by omega
      by_cases hke : ke = 0
      case neg =>
        have t3 : (ke != 0) = true := by simpa using hke
        have HKE := Lib.hid (show keysJ v = ([], ke) by rw [HKK.out, HST.out]; unfold stepL; rw [if_pos hke])
        clear hke
        go_wp2_with fail
        refine HOF.out.mono ?_
        rintro e w2 ⟨rfl, hb2⟩
        have HB2 := Lib.hid ((HBT.out.trans (hb2.mono HBT.out.size)).alloc (by have := HBT.out.size; have := hb2.size; omega) (.cells #[.string sch, .string kp] 23))
        clear hb2
        go_wp2
        go_ret2
        exact ⟨.slice none 0 0, by rw [HKE.out] <;> rfl, by rw [HKE.out]; exact World.ownsRow_nil _ _ _ _, HB2.out⟩
      subst hke
      obtain ⟨hok, hsz1, hsz2⟩ := HKO.out rfl
      replace hok : keyOk sch.data.toList kp.data.toList = true := hok
      replace hsz1 : sch.size ≤ 64 := hsz1
      replace hsz2 : kp.size ≤ 128 := hsz2
      go_wp2_with fail
      refine HOF.out.mono ?_
      clear HOF
      rintro e w2 ⟨rfl, hb2⟩
      have hz2 : wr.heap.size ≤ w2.heap.size := hb2.size
      obtain ⟨W2, hW2⟩ : ∃ W2, W2 = w2.alloc (.cells #[.string sch, .string kp] 23) := ⟨_, rfl⟩
      have hb22 : Below wr.heap.size wr W2 := by rw [hW2]; exact hb2.alloc hb2.size _
      have HB2 := Lib.hid (HB.out.trans (hb22.mono hzw))
      have HB22 := Lib.hid hb22
      have HBT2 := Lib.hid (HBT.out.trans (hb22.mono HBT.out.size))
      have HO2 := Lib.hid (owns_below HO.out hb22)
      have HX2 := Lib.hid (show W2.heap[w2.heap.size]? = some (.cells #[.string sch, .string kp] 23 (0, 0)) by rw [hW2]; exact heap_alloc_new w2 _)
      have HID := Lib.hid (ref14ID sch kp W2 (by omega) (by omega))
      unfold KeyIdPost at HID
      rw [hok, if_pos rfl] at HID
      obtain ⟨ID, hID⟩ : ∃ ID : ByteArray, ID = ⟨(keyId sch.data.toList kp.data.toList).toArray⟩ := ⟨_, rfl⟩
      rw [← hID] at HID
      replace HST := Lib.hid (show keysL (v.names.drop k) (v.items.drop k) acc = if (ID.toList == nk.toList) = true then keysL (v.names.drop (k + 1)) (v.items.drop (k + 1)) (acc ++ [(sch, kp)]) else ([], 3) by rw [HST.out]; unfold stepL; rw [if_neg (by simp)]; rw [hID]; rfl)
      have hzW : W2.heap.size = w2.heap.size + 1 := by rw [hW2]; simp
      have HW2 := Lib.hid hW2
      clear hID hok hb2 hb22 hW2
      go_wp2_with fail
      rw [← HW2.out]
      refine HID.out.mono ?_
      clear HID HW2
      rintro e w3 ⟨rfl, hb3⟩
      have hz3 : W2.heap.size ≤ w3.heap.size := hb3.size
      have HB3 := Lib.hid (HB2.out.trans (hb3.mono (by omega)))
      have HBT3 := Lib.hid (HBT2.out.trans (hb3.mono (HBT2.out.size)))
      have HO3 := Lib.hid (owns_below HO2.out hb3)
      have hx3 : w3.heap[w2.heap.size]? = some (.cells #[.string sch, .string kp] 23 (0, 0)) := by rw [hb3.block _ (heap_lt HX2.out)]; exact HX2.out
      have x0 : w3.cell? ⟨w2.heap.size, 0, none⟩ = some (.string sch) := box_cell hx3 rfl
      have x1 : w3.cell? ⟨w2.heap.size, 1, none⟩ = some (.string kp) := box_cell hx3 rfl
      have hz3' : w.heap.size < wr.heap.size := by omega
      have c3' : w3.cell? ⟨w.heap.size, 3, none⟩ = some (.slice (some ⟨p, f, none⟩) nn cn) := by rw [hb3.cell (show w.heap.size < W2.heap.size by omega), HB22.out.cell hz3']; exact c3
      have y1' : w3.cell? ⟨p, f + k, none⟩ = some (.string nk) := by rw [hb3.cell (show p < W2.heap.size by omega), HB22.out.cell (show p < wr.heap.size by omega)]; exact y1
      clear hb3 hx3 g0 g1 g2 g3 g4 c3 c4 y1
      cases hq : (ID.toList == nk.toList)
      · have t4 : (ID.toList != nk.toList) = true := by simpa [bne] using hq
        have HKE := Lib.hid (show keysJ v = ([], 3) by rw [HKK.out, HST.out, hq]; rfl)
        go_wp2_with fail
        skip
        go_ret2
        exact ⟨.slice none 0 0, by rw [HKE.out] <;> rfl, by rw [HKE.out]; exact World.ownsRow_nil _ _ _ _, HBT3.out⟩
      · have t4 : (ID.toList != nk.toList) = false := by simpa [bne] using hq
        have HKE := Lib.hid (show keysJ v = keysL (v.names.drop (k + 1)) (v.items.drop (k + 1)) (acc ++ [(sch, kp)]) by rw [HKK.out, HST.out, hq]; rfl)
        go_wp2_with (at_builtin; refine wpList_append_lies _ rfl (.tmp 51) (.tmp 53) 43 rfl w1.heap.size 23 i3 _ 2 32 Tryz.underlying43 hi3 iz0 iz1 iz2 rfl (by decide) (.slice am k cm) k (acc.flatMap encK) rfl (HO3.out.alloc _) ⟨w3.heap.size, 0, none⟩ 1 1 [.string sch, .string kp] rfl rfl (World.news_of_block (cs := #[.string sch, .string kp]) (t := 23) (fr := (0, 0)) (heap_alloc_new w3 _)) (by simp [Value.oneCell']) (by omega) (by unfold maxLen; omega) (by omega) (by simp; omega) (w3.heap.size + 1) (by simp) ?_; intro g1 cap2 w6 hown6 hgrow6 hat6 hlt6; have HO6 := Lib.hid hown6; have HG6 := Lib.hid hgrow6; clear hown6 hgrow6 hat6)
        go_roundw
        case rel =>
          refine ⟨k + 1, acc ++ [(sch, kp)], by omega, by go_num, by simp [hac], HKE.out, ?_, below_grown (HB3.out.alloc (by omega) _) (by simp; omega) HG6.out (fun b hb => (HO3.out.lt b hb).1)⟩
          rw [List.flatMap_append]
          simpa [encK] using HO6.out
        case measure => simp [intOf]; omega
    · obtain rfl : k = nn := by omega
      have HKE := Lib.hid (show keysJ v = (acc, 0) by
        rw [HKK.out, List.drop_of_length_le (by rw [← HNN.out]; exact Nat.le_refl _), keysL_nil])
      go_wp2
      go_ret2
      exact ⟨_, by rw [HKE.out] <;> rfl, by rw [HKE.out]; have := owns_mono (base' := w.heap.size) HO.out (Nat.le_of_lt hz1); show wr.ownsRow _ _ _ _ acc.length _; rw [hac]; exact this, HBT.out⟩

end Go.Proofs.YtcahpjejpimdhaaGreatDoor

namespace Go.Proofs.YtcahpjejpimdhaaGreatDoor
open Go.RowKit

theorem ba_nil {t : ByteArray} (h : t.toList = []) : t = { data := #[] } := ba_ext (by rw [h, ByteArray.toList_eq])
theorem proper5 {n : Int} {t : ByteArray} {ns : List ByteArray} {li : Nat} (h : properB 5 n t ns li = true) : n = 0 ∧ t = { data := #[] } ∧ ns.length = li ∧ rises ns = true ∧ ns.all txtOk = true := by
  have e : properB 5 n t ns li = (decide (n = 0 ∧ t.toList = [] ∧ ns.length = li) && rises ns && ns.all txtOk) := rfl
  rw [e] at h
  simp only [Bool.and_eq_true, decide_eq_true_eq] at h
  exact ⟨h.1.1.1, ba_nil h.1.1.2.1, h.1.1.2.2, h.1.2, h.2⟩
theorem proper3 {n : Int} {t : ByteArray} {ns : List ByteArray} {li : Nat} (h : properB 3 n t ns li = true) : n = 0 ∧ ns = [] ∧ li = 0 := by
  have e : properB 3 n t ns li = (decide (n = 0 ∧ ns.length = 0 ∧ li = 0) && txtOk t) := rfl
  rw [e] at h
  simp only [Bool.and_eq_true, decide_eq_true_eq] at h
  exact ⟨h.1.1, List.eq_nil_of_length_eq_zero h.1.2.1, h.1.2.2⟩
theorem partsB_mem : ∀ {l : List JV}, JV.partsB l = true → ∀ x ∈ l, JV.partB x = true
  | [], _, x, hx => by simp at hx
  | y :: r, h, x, hx => by
    rw [JV.partsB, Bool.and_eq_true] at h
    rcases List.mem_cons.1 hx with rfl | hx
    · exact h.1
    · exact partsB_mem h.2 x hx
theorem may_part {v : JV} (h : v.mayB = true) : v.partB = true := by
  rw [JV.mayB_iff] at h
  simp only [Bool.and_eq_true] at h
  exact h.1.1
theorem part_txt {x : JV} (h : x.partB = true) (h3 : x.kind = 3) : x = txtJ x.t := by
  obtain ⟨k, n, t, ns, xs⟩ := x
  obtain rfl : k = 3 := h3
  rw [JV.partB, Bool.and_eq_true] at h
  obtain ⟨rfl, rfl, hx⟩ := proper3 h.1
  obtain rfl : xs = [] := List.eq_nil_of_length_eq_zero hx
  rfl
theorem lookL_mem : ∀ {ns : List ByteArray} {xs : List JV} {y : ByteArray} {x : JV}, lookL ns xs y = some x → y ∈ ns ∧ x ∈ xs
  | [], _, _, _, h => by simp [lookL] at h
  | _ :: _, [], _, _, h => by simp [lookL] at h
  | n :: ns, z :: xs, y, x, h => by
    rw [lookL] at h
    split at h
    · next e => cases h; exact ⟨by simp [e], by simp⟩
    · have := lookL_mem h; exact ⟨by simp [this.1], by simp [this.2]⟩
/-- Names that rise, and are public and scheme, are these two. -/
theorem names_two {ns : List ByteArray} (hr : rises ns = true) (hp : pubN ∈ ns) (hs : schN ∈ ns) (ho : ∀ n ∈ ns, n = pubN ∨ n = schN) : ns = [pubN, schN] := by
  have hlt : bl schN pubN = false := by
    have := names_ok.2.2
    unfold rises at this
    rw [Bool.and_eq_true] at this
    exact bl_asymm this.1
  have hnd := rises_nodup hr
  match ns, hr, hp, hs, ho, hnd with
  | [], _, hp, _, _, _ => simp at hp
  | [a], _, hp, hs, _, _ =>
    simp at hp hs
    exact absurd (hp.trans hs.symm) pub_ne
  | [a, b], hr, hp, hs, ho, hnd =>
    rcases ho a (by simp) with rfl | rfl <;> rcases ho b (by simp) with rfl | rfl
    · simp at hnd
    · rfl
    · unfold rises at hr
      rw [Bool.and_eq_true] at hr
      have := hr.1
      rw [show Op.bytesLess schN.toList pubN.toList = bl schN pubN from rfl, hlt] at this
      cases this
    · simp at hnd
  | a :: b :: c :: r, _, _, _, ho, hnd =>
    rcases ho a (by simp) with rfl | rfl <;> rcases ho b (by simp) with rfl | rfl <;> rcases ho c (by simp) with rfl | rfl <;> simp at hnd
theorem keyOf_back {v : JV} (h : (keyOfJ v).2 = 0) : v.mayB = true ∧ v = keyJ (keyOfJ v).1.1 (keyOfJ v).1.2 := by
  unfold keyOfJ at h ⊢
  split at h
  · cases h
  next c1 =>
  rw [if_neg c1]
  split at h
  · cases h
  next c2 =>
  rw [if_neg c2]
  split at h
  · next c3 => exact absurd h c3
  next c3 =>
  rw [if_neg c3]
  split at h
  case isFalse => cases h
  next c4 =>
  rw [if_pos c4]
  have hm : v.mayB = true := by simpa using c1
  have hk : v.kind = 5 := by simpa using c2
  refine ⟨hm, ?_⟩
  have hpt := may_part hm
  replace c3 : pickDone v (pickText v schN (pickText v pubN ⟨[], 0⟩).2).2 = 0 := by simpa using c3
  clear c4 c1 c2
  cases h1 : v.look pubN with
  | none =>
    have e1 : pickText v pubN ⟨[], 0⟩ = ({ data := #[] }, ⟨[], 6⟩) := by unfold pickText; rw [if_neg (by simp), h1]
    have e2 : pickText v schN ⟨[], 6⟩ = ({ data := #[] }, ⟨[], 6⟩) := by unfold pickText; rw [if_pos (by simp)]
    rw [e1] at c3; simp only at c3; rw [e2] at c3; unfold pickDone at c3; rw [if_pos (by simp)] at c3; cases c3
  | some a =>
    by_cases ka : a.kind = 3
    case neg =>
      have e1 : pickText v pubN ⟨[], 0⟩ = ({ data := #[] }, ⟨[], 10⟩) := by unfold pickText; rw [if_neg (by simp), h1]; simp only; rw [if_neg ka]
      have e2 : pickText v schN ⟨[], 10⟩ = ({ data := #[] }, ⟨[], 10⟩) := by unfold pickText; rw [if_pos (by simp)]
      rw [e1] at c3; simp only at c3; rw [e2] at c3; unfold pickDone at c3; rw [if_pos (by simp)] at c3; cases c3
    have e1 : pickText v pubN ⟨[], 0⟩ = (a.t, ⟨[pubN], 0⟩) := by unfold pickText; rw [if_neg (by simp), h1]; simp only; rw [if_pos ka]
    rw [e1] at c3 ⊢
    simp only at c3 ⊢
    cases h2 : v.look schN with
    | none =>
      have e2 : pickText v schN ⟨[pubN], 0⟩ = ({ data := #[] }, ⟨[pubN], 6⟩) := by unfold pickText; rw [if_neg (by simp), h2]
      rw [e2] at c3; unfold pickDone at c3; rw [if_pos (by simp)] at c3; cases c3
    | some b =>
      by_cases kb : b.kind = 3
      case neg =>
        have e2 : pickText v schN ⟨[pubN], 0⟩ = ({ data := #[] }, ⟨[pubN], 10⟩) := by unfold pickText; rw [if_neg (by simp), h2]; simp only; rw [if_neg kb]
        rw [e2] at c3; unfold pickDone at c3; rw [if_pos (by simp)] at c3; cases c3
      have e2 : pickText v schN ⟨[pubN], 0⟩ = (b.t, ⟨[schN, pubN], 0⟩) := by unfold pickText; rw [if_neg (by simp), h2]; simp only; rw [if_pos kb]
      rw [e2] at c3 ⊢
      simp only at c3 ⊢
      unfold pickDone at c3
      rw [if_neg (by simp)] at c3
      have hall : v.names.all (fun n => [schN, pubN].any fun a => decide (a = n)) = true := by
        split at c3
        · assumption
        · cases c3
      obtain ⟨k, n, t, ns, xs⟩ := v
      obtain rfl : k = 5 := hk
      rw [JV.partB, Bool.and_eq_true] at hpt
      obtain ⟨rfl, rfl, hlen, hris, _⟩ := proper5 hpt.1
      have hal2 : ∀ x ∈ ns, x = pubN ∨ x = schN := fun x hx => by
        have := List.all_eq_true.1 hall x hx
        simp at this
        rcases this with e | e
        · exact .inr e.symm
        · exact .inl e.symm
      obtain rfl := names_two hris (lookL_mem h1).1 (lookL_mem h2).1 hal2
      match xs, hlen with
      | [p, q], _ =>
        have w1 : lookL [pubN, schN] [p, q] pubN = some p := by simp [lookL]
        have w2 : lookL [pubN, schN] [p, q] schN = some q := by simp [lookL, pub_ne]
        obtain rfl : p = a := Option.some.inj (w1.symm.trans h1)
        obtain rfl : q = b := Option.some.inj (w2.symm.trans h2)
        have p1 := part_txt (partsB_mem hpt.2 p (by simp)) ka
        have p2 := part_txt (partsB_mem hpt.2 q (by simp)) kb
        unfold keyJ
        rw [← p1, ← p2]

theorem txt_id {k : Key2} (h : ok2 k = true) : txtOk (id2 k) = true := by
  have e : (id2 k).data.toList = shaHex (keyForm k.1.data.toList k.2.data.toList) := by
    show (keyId _ _) = _
    unfold keyId
    rw [if_pos (show keyOk k.1.data.toList k.2.data.toList = true from h)]
  refine txtOk_plain ?_ (Nat.le_trans id2_size (by decide))
  rw [e]
  have := allHex_sha (keyForm k.1.data.toList k.2.data.toList)
  unfold allHex at this
  exact fun c hc => plain_hex (List.all_eq_true.1 this c hc)
theorem tabJ_may {m : List Key2} (hok : ∀ k ∈ m, ok2 k = true) (hr : rises (ids m) = true) (hl : m.length ≤ 32) : (tabJ m).mayB = true := by
  rw [JV.mayB_iff]
  have hp : ∀ m : List Key2, (∀ k ∈ m, ok2 k = true) → JV.partsB (m.map obj2) = true := fun m => by
    induction m with
    | nil => intro _; rfl
    | cons k r ih =>
      intro h
      rw [List.map_cons, JV.partsB, Bool.and_eq_true]
      exact ⟨may_part (keyJ_may (h k (by simp))), ih fun x hx => h x (List.mem_cons_of_mem _ hx)⟩
  have hc : ∀ m : List Key2, JV.counts (m.map obj2) = 3 * m.length := fun m => by
    induction m with
    | nil => rfl
    | cons k r ih =>
      have : JV.count (obj2 k) = 3 := rfl
      rw [List.map_cons, JV.counts, ih, this, List.length_cons]; omega
  have hd : ∀ m : List Key2, JV.depths (m.map obj2) ≤ 1 := fun m => by
    induction m with
    | nil => exact Nat.zero_le _
    | cons k r ih =>
      have : JV.depth (obj2 k) = 1 := rfl
      rw [List.map_cons, JV.depths, this]; omega
  have h1 : (tabJ m).partB = true := by
    unfold tabJ
    rw [JV.partB, hp m hok]
    have : properB 5 0 { data := #[] } (m.map id2) (m.map obj2).length = (decide ((0 : Int) = 0 ∧ ({ data := #[] } : ByteArray).toList = [] ∧ (m.map id2).length = (m.map obj2).length) && rises (m.map id2) && (m.map id2).all txtOk) := rfl
    rw [this, show rises (m.map id2) = true from hr, ByteArray.toList_eq]
    have h2 : (m.map id2).all txtOk = true := by
      rw [List.all_eq_true]
      intro x hx
      obtain ⟨k, hk, rfl⟩ := List.mem_map.1 hx
      exact txt_id (hok k hk)
    rw [h2]
    simp
  have h2 : (tabJ m).count ≤ 8192 := by unfold tabJ; rw [JV.count, hc]; omega
  have h3 : (tabJ m).depth ≤ 12 := by
    unfold tabJ; rw [JV.depth, if_neg (by simp)]; have := hd m; omega
  rw [h1]
  simp [h2, h3]
theorem keysL_tab : ∀ (m : List Key2) (acc : List Key2), (∀ k ∈ m, ok2 k = true) → keysL (m.map id2) (m.map obj2) acc = (acc ++ m, 0)
  | [], acc, _ => by simp [keysL]
  | k :: r, acc, h => by
    have e := keyOf_keyJ (s := k.1) (t := k.2) (h k (by simp))
    rw [List.map_cons, List.map_cons, keysL, show obj2 k = keyJ k.1 k.2 from rfl, e]
    simp only
    rw [if_neg (by simp), if_pos (by simp [id2]), keysL_tab r _ fun x hx => h x (List.mem_cons_of_mem _ hx)]
    simp
theorem keysJ_tab {m : List Key2} (hok : ∀ k ∈ m, ok2 k = true) (hr : rises (ids m) = true) (hl : m.length ≤ 32) : keysJ (tabJ m) = (m, 0) := by
  unfold keysJ
  rw [if_neg (by rw [tabJ_may hok hr hl]; simp), if_neg (by show ¬ (5 : Int) ≠ 5; simp), if_neg (by show ¬ 32 < (m.map id2).length; simp; omega)]
  show keysL (m.map id2) (m.map obj2) [] = _
  rw [keysL_tab m [] hok, List.nil_append]
theorem keysL_back : ∀ (ns : List ByteArray) (its : List JV) (acc : List Key2), ns.length = its.length → (keysL ns its acc).2 = 0 → ∃ m : List Key2, (keysL ns its acc).1 = acc ++ m ∧ ns = m.map id2 ∧ its = m.map obj2 ∧ ∀ k ∈ m, ok2 k = true
  | [], [], acc, _, _ => ⟨[], by simp [keysL]⟩
  | id :: ns, it :: its, acc, hl, h => by
    rw [keysL] at h ⊢
    split at h
    · next c => exact absurd h c
    next c =>
    rw [if_neg c]
    split at h
    case isFalse => cases h
    next c2 =>
    rw [if_pos c2]
    obtain ⟨m, e1, e2, e3, e4⟩ := keysL_back ns its _ (by simpa using hl) h
    have c' : (keyOfJ it).2 = 0 := by simpa using c
    obtain ⟨_, hb⟩ := keyOf_back c'
    obtain ⟨hok, _, _⟩ := keyOfJ_ok c'
    refine ⟨(keyOfJ it).1 :: m, by rw [e1]; simp, ?_, ?_, ?_⟩
    · rw [List.map_cons, ← e2]
      congr 1
      exact (ba_ext (eq_of_beq c2)).symm
    · rw [List.map_cons, ← e3]
      congr 1
    · intro k hk
      rcases List.mem_cons.1 hk with rfl | hk
      · exact hok
      · exact e4 k hk
theorem keysL_none : ∀ (ns : List ByteArray) (its : List JV) (acc : List Key2), (keysL ns its acc).2 ≠ 0 → (keysL ns its acc).1 = []
  | [], _, acc, h => by simp [keysL] at h
  | _ :: _, [], acc, h => by simp [keysL] at h
  | id :: ns, it :: its, acc, h => by
    rw [keysL] at h ⊢
    split
    · rfl
    · split
      · next c1 c2 => rw [if_neg c1, if_pos c2] at h; exact keysL_none ns its _ h
      · rfl
theorem keysJ_none {v : JV} (h : (keysJ v).2 ≠ 0) : (keysJ v).1 = [] := by
  unfold keysJ at h ⊢
  split
  · rfl
  next c1 =>
  rw [if_neg c1] at h
  split
  · rfl
  next c2 =>
  rw [if_neg c2] at h
  split
  · rfl
  next c3 =>
  rw [if_neg c3] at h
  exact keysL_none _ _ _ h
theorem keysJ_back {v : JV} (h : (keysJ v).2 = 0) : v = tabJ (keysJ v).1 ∧ (∀ k ∈ (keysJ v).1, ok2 k = true) ∧ rises (ids (keysJ v).1) = true ∧ (keysJ v).1.length ≤ 32 := by
  unfold keysJ at h ⊢
  split at h
  · cases h
  next c1 =>
  rw [if_neg c1]
  split at h
  · cases h
  next c2 =>
  rw [if_neg c2]
  split at h
  · cases h
  next c3 =>
  rw [if_neg c3]
  have hm : v.mayB = true := by simpa using c1
  have hk : v.kind = 5 := by simpa using c2
  have hpt := may_part hm
  obtain ⟨k, n, t, ns, xs⟩ := v
  obtain rfl : k = 5 := hk
  rw [JV.partB, Bool.and_eq_true] at hpt
  obtain ⟨rfl, rfl, hlen, hris, _⟩ := proper5 hpt.1
  obtain ⟨m, e1, e2, e3, e4⟩ := keysL_back ns xs [] hlen h
  have e1' : (keysL (JV.names (.mk 5 0 { data := #[] } ns xs)) (JV.items (.mk 5 0 { data := #[] } ns xs)) []).1 = m := by
    show (keysL ns xs []).1 = m
    rw [e1, List.nil_append]
  rw [e1']
  refine ⟨by unfold tabJ; rw [← e2, ← e3], e4, by unfold ids; rw [← e2]; exact hris, ?_⟩
  have : ns.length = m.length := by rw [e2, List.length_map]
  have c3' : ¬ 32 < ns.length := c3
  omega
theorem tabE_ok {m : List Key2} (hok : ∀ k ∈ m, ok2 k = true) (hr : rises (ids m) = true) (hl : m.length ≤ 32) : tabE m = 0 := by
  unfold tabE
  rw [if_neg (by omega)]
  exact (tabErr_zero m []).2 ⟨hok, by simp, rises_nodup hr⟩
theorem ok2_size {k : Key2} (h : ok2 k = true) : k.1.size ≤ 300 ∧ k.2.size ≤ 300 := by
  obtain ⟨_, _, a, b⟩ := key_txt h
  omega

end Go.Proofs.YtcahpjejpimdhaaGreatDoor
