/- The contract of record.MayHashes. -/
import Derived.Test.YtgghgcilpfdbjaaGreatDoorSu08
import Derived.Test.YtgghgcilpfdbjaaGreatDoorSu00
import Derived.Lib.Strings
import Derived.Test.YtgghgcilpfdbjaaGreatDoorCards
import Derived.Test.YtgghgcilpfdbjaaGreatDoorTie
import Derived.Test.YtgghgcilpfdbjaaGreatDoorSu07
import Derived.WalkKit
import Derived.ProofKit
import Derived.OpenShut
import Derived.ChangeSame
import Derived.Deep.DeepHandedRow
import Derived.Lib.LaidTab
import Derived.Lib.SmallJoins
import Derived.Carry
import Derived.ChangeMaps5
import Derived.Test.YtgghgcilpfdbjaaGreatDoorSu05

namespace Go.Proofs.YtgghgcilpfdbjaaGreatDoor
open Go.RowKit
theorem less_irrefl : ∀ x : List UInt8, Op.bytesLess x x = false
 | [] => rfl
 | a :: x => by simp [Op.bytesLess, less_irrefl x]
theorem less_trans : ∀ x y z : List UInt8, Op.bytesLess x y = true → Op.bytesLess y z = true → Op.bytesLess x z = true
 | _, _, [], _, h => by simp [Op.bytesLess] at h
 | _, [], _ :: _, h, _ => by simp [Op.bytesLess] at h
 | [], _ :: _, _ :: _, _, _ => rfl
 | a :: x, b :: y, c :: z, h1, h2 => by
   simp only [Op.bytesLess, Bool.or_eq_true, decide_eq_true_eq, Bool.and_eq_true, beq_iff_eq] at h1 h2 ⊢
   rcases h1 with h1 | ⟨rfl, h1⟩
   · rcases h2 with h2 | ⟨rfl, h2⟩
     · exact .inl (UInt8.lt_trans h1 h2)
     · exact .inl h1
   · rcases h2 with h2 | ⟨rfl, h2⟩
     · exact .inl h2
     · exact .inr ⟨rfl, less_trans x y z h1 h2⟩
theorem less_tri : ∀ x y : List UInt8, Op.bytesLess x y = false → Op.bytesLess y x = false → x = y
 | [], [], _, _ => rfl
 | [], _ :: _, h, _ => by simp [Op.bytesLess] at h
 | _ :: _, [], _, h => by simp [Op.bytesLess] at h
 | a :: x, b :: y, h1, h2 => by
   simp only [Op.bytesLess, Bool.or_eq_false_iff, decide_eq_false_iff_not, Bool.and_eq_false_iff] at h1 h2
   have e : a = b := UInt8.le_antisymm (UInt8.not_lt.1 h2.1) (UInt8.not_lt.1 h1.1)
   subst e
   have g1 : Op.bytesLess x y = false := by rcases h1.2 with h | h; simp at h; exact h
   have g2 : Op.bytesLess y x = false := by rcases h2.2 with h | h; simp at h; exact h
   rw [less_tri x y g1 g2]
def bl (a b : ByteArray) : Bool := Op.bytesLess a.toList b.toList
theorem ba_ext {a b : ByteArray} (h : a.toList = b.toList) : a = b := by
 rw [ByteArray.toList_eq, ByteArray.toList_eq] at h
 exact ByteArray.ext (Array.toList_inj.1 h)
theorem bl_irrefl (a : ByteArray) : bl a a = false := less_irrefl _
theorem bl_trans {a b c : ByteArray} (h : bl a b = true) (h' : bl b c = true) : bl a c = true := less_trans _ _ _ h h'
theorem bl_tri {a b : ByteArray} (h : bl a b = false) (h' : bl b a = false) : a = b := ba_ext (less_tri _ _ h h')
theorem rises_tail {a : ByteArray} {l : List ByteArray} (h : rises (a :: l) = true) : rises l = true := by
 cases l with
 | nil => rfl
 | cons b r => simp only [rises, Bool.and_eq_true] at h; exact h.2
theorem rises_head : ∀ {l : List ByteArray} {a : ByteArray} (_ : rises (a :: l) = true) (j : Nat) (h : j < l.length), bl a l[j] = true
 | [], _, _, j, h => by simp at h
 | b :: r, a, h, 0, _ => by simp only [rises, Bool.and_eq_true] at h; exact h.1
 | b :: r, a, h, j + 1, hj => by
   simp only [rises, Bool.and_eq_true] at h
   exact bl_trans h.1 (rises_head h.2 j (by simpa using hj))
theorem rises_lt : ∀ {l : List ByteArray} (_ : rises l = true) (i j : Nat) (hi : i < l.length) (hj : j < l.length), i < j → bl l[i] l[j] = true
 | [], _, i, j, hi, _, _ => by simp at hi
 | a :: r, h, 0, j + 1, _, hj, _ => rises_head h j (by simpa using hj)
 | a :: r, h, i + 1, j + 1, hi, hj, hlt => by
   simp only [List.getElem_cons_succ]
   exact rises_lt (rises_tail h) i j (by simpa using hi) (by simpa using hj) (by omega)
 | a :: r, h, i, 0, _, _, hlt => by omega
def FindPost (l : List ByteArray) (x : ByteArray) (w : World) (e : Ending) (w' : World) : Prop :=
 ∃ (r : Nat) (f : Bool), e = .returned (.tuple #[.int .i64 r, .bool f]) ∧ r ≤ l.length ∧ (∀ t (h : t < l.length), t < r → bl l[t] x = true) ∧ (∀ t (h : t < l.length), r ≤ t → bl l[t] x = false) ∧
   (f = true → ∃ h : r < l.length, l[r] = x) ∧ (f = false → ∀ t (h : t < l.length), l[t] ≠ x) ∧ Below w.heap.size w w'
structure PinV where
 name : ByteArray
 ver : Int
 len : Int
 hs : List Key2
structure SnapV where
 ver : Int
 exp : Int
 pins : List PinV
def pinZ : PinV := ⟨⟨#[]⟩, 0, 0, []⟩
def json : List UInt8 := [46, 106, 115, 111, 110]
def roleOf (f : ByteArray) : Option (List UInt8) := if Lib.hasSuffix f.data.toList json && roleOk (Lib.trimSuffix f.data.toList json) then some (Lib.trimSuffix f.data.toList json) else none
def roleStr (f : ByteArray) : ByteArray := match roleOf f with | some r => ⟨r.toArray⟩ | none => ⟨#[]⟩
def hashOk (h : Key2) : Bool := roleOk h.1.data.toList && pubOk h.2.data.toList
def mayHashes (l : List Key2) : Bool := decide (1 ≤ l.length ∧ l.length ≤ 4) && l.all hashOk && rises (l.map (·.1))
def mayPin (p : PinV) : Bool := (roleOf p.name).isSome && decide (1 ≤ p.ver ∧ p.ver ≤ 1099511627776) && decide (-1 ≤ p.len ∧ p.len ≤ 1099511627776) && (decide (p.hs.length = 0) || mayHashes p.hs)
def maySnap (s : SnapV) : Bool := decide (1 ≤ s.ver ∧ s.ver ≤ 1099511627776) && decide (0 ≤ s.exp ∧ s.exp ≤ 253402300799) && decide (s.pins.length ≤ 256) && s.pins.all mayPin && rises (s.pins.map (·.name))
def pinOf (l : List PinV) (role : ByteArray) : Option PinV := if roleOk role.data.toList then l.find? (fun p => decide (p.name.data.toList = role.data.toList ++ json)) else none
theorem bytes_ext {a b : ByteArray} (h : a.data.toList = b.data.toList) : a = b := by
 obtain ⟨⟨a⟩⟩ := a
 obtain ⟨⟨b⟩⟩ := b
 simp at h; simp [h]
theorem trim_app (r : List UInt8) : Lib.hasSuffix (r ++ json) json = true ∧ Lib.trimSuffix (r ++ json) json = r := by
 have h : Lib.hasSuffix (r ++ json) json = true := by unfold Lib.hasSuffix; exact List.isSuffixOf_iff_suffix.2 (List.suffix_append _ _)
 refine ⟨h, ?_⟩
 unfold Lib.trimSuffix
 rw [if_pos h]
 simp
theorem role_name {f : ByteArray} {r : List UInt8} (h : roleOf f = some r) : roleOk r = true ∧ f.data.toList = r ++ json := by
 unfold roleOf at h
 split at h
 · rename_i hc
   simp only [Bool.and_eq_true] at hc
   simp only [Option.some.injEq] at h
   obtain ⟨hs, hr⟩ := hc
   unfold Lib.hasSuffix at hs
   obtain ⟨t, ht⟩ := List.isSuffixOf_iff_suffix.1 hs
   rw [← ht] at h hr
   rw [(trim_app t).2] at h hr
   exact ⟨h ▸ hr, by rw [← ht, h]⟩
 · cases h
theorem rises_lts (l : List ByteArray) (h : rises l = true) : ∀ i j (hi : i < l.length) (hj : j < l.length), i < j → Op.bytesLess l[i].toList l[j].toList = true := by
 have step : ∀ k (h1 : 1 ≤ k) (hk : k < l.length), Op.bytesLess l[k-1].toList l[k].toList = true := by
   intro k h1 hk
   cases hb : Op.bytesLess l[k-1].toList l[k].toList with
   | true => rfl
   | false => rw [rises_bad l k h1 hk hb] at h; cases h
 intro i j
 induction j with
 | zero => intro _ _ hlt; omega
 | succ j ih =>
   intro hi hj hlt
   have hs := step (j + 1) (by omega) hj
   simp only [Nat.add_sub_cancel] at hs
   by_cases e : i = j
   · subst e; exact hs
   · exact less_trans _ _ _ (ih hi (by omega) (by omega)) hs
theorem rises_neq (l : List ByteArray) (h : rises l = true) (i j : Nat) (hi : i < l.length) (hj : j < l.length) (hij : l[i] = l[j]) : i = j := by
 rcases Nat.lt_trichotomy i j with c | c | c
 · have := rises_lts l h i j hi hj c; rw [hij, less_irrefl] at this; cases this
 · exact c
 · have := rises_lts l h j i hj hi c; rw [hij, less_irrefl] at this; cases this
end Go.Proofs.YtgghgcilpfdbjaaGreatDoor

namespace Go.Proofs.YtgghgcilpfdbjaaGreatDoor
open Go.ChangeShapes Go.WideShapes Go.ChangeAt Go.RowKit Go.Joins Go.Deep
def PinAt (w : World) (lo hi b o : Nat) (p : PinV) : Prop :=
 w.cell? ⟨b, o, none⟩ = some (.string p.name) ∧ w.cell? ⟨b, o + 1, none⟩ = some (.int .i64 p.ver) ∧ w.cell? ⟨b, o + 2, none⟩ = some (.int .i64 p.len) ∧ ∃ ha hc, w.cell? ⟨b, o + 3, none⟩ = some (.slice ha p.hs.length hc) ∧ p.hs.length ≤ hc ∧ KeysAt w lo hi ha p.hs
def PinsAt (w : World) (lo hi : Nat) (a : Option Addr) (l : List PinV) : Prop :=
 l = [] ∨ ∃ b off, a = some ⟨b, off, none⟩ ∧ lo ≤ b ∧ b < hi ∧ ∀ i (h : i < l.length), PinAt w lo hi b (off + i * 4) l[i]
theorem PinAt.carry {w w' : World} {lo hi lo' hi' b o : Nat} {p : PinV} (h : PinAt w lo hi b o p) (h1 : lo' ≤ lo) (h2 : hi ≤ hi') (hb : lo ≤ b) (hb' : b < hi) (hs : ∀ b, lo ≤ b → b < hi → w'.heap[b]? = w.heap[b]?) : PinAt w' lo' hi' b o p := by
 have e : ∀ o, w'.cell? ⟨b, o, none⟩ = w.cell? ⟨b, o, none⟩ := fun o => World.cell?_of_block (w := w) (w' := w') (hs b hb hb')
 obtain ⟨c0, c1, c2, ha, hc, c3, hl, hk⟩ := h
 exact ⟨by rw [e]; exact c0, by rw [e]; exact c1, by rw [e]; exact c2, ha, hc, by rw [e]; exact c3, hl, hk.carry h1 h2 hs⟩
theorem PinsAt.at {w : World} {lo hi : Nat} {a : Option Addr} {l : List PinV} (h : PinsAt w lo hi a l) (i : Nat) (hi' : i < l.length) :
   ∃ b off, a = some ⟨b, off, none⟩ ∧ lo ≤ b ∧ b < hi ∧ PinAt w lo hi b (off + i * 4) l[i] := by
 rcases h with h | ⟨b, off, ha, hb, hb', hr⟩
 · rw [h] at hi'; simp at hi'
 · exact ⟨b, off, ha, hb, hb', hr i hi'⟩
theorem PinsAt.carry {w w' : World} {lo hi lo' hi' : Nat} {a : Option Addr} {l : List PinV} (h : PinsAt w lo hi a l) (h1 : lo' ≤ lo) (h2 : hi ≤ hi') (hs : ∀ b, lo ≤ b → b < hi → w'.heap[b]? = w.heap[b]?) : PinsAt w' lo' hi' a l := by
 rcases h with h | ⟨b, off, ha, hb, hb', hr⟩
 · exact .inl h
 · exact .inr ⟨b, off, ha, by omega, by omega, fun i hi => (hr i hi).carry h1 h2 hb hb' hs⟩
theorem PinsAt.below {w w' : World} {lo hi lo' hi' B : Nat} {a : Option Addr} {l : List PinV} (h : PinsAt w lo hi a l) (hb : Below B w w') (hB : hi ≤ B) (h1 : lo' ≤ lo) (h2 : hi ≤ hi') : PinsAt w' lo' hi' a l :=
 h.carry h1 h2 fun b _ hlt => hb.block b (by omega)
section
variable {H : Type} {enc : TypeId × Value → H} {P : Program} {w : World} {spare : Nat → Bool} {held : Bool}
theorem trod_four {base : Nat} {t : TypeId} {f0 f1 f2 f3 : Field} {fuel : Nat} {cs : List Value} {x : DataW H × List MemPlace} (hs : P.underlying t = some (.struct #[f0, f1, f2, f3])) (hone : oneCellFields P #[f0, f1, f2, f3] = true) (hC : P.cellsOf t = 4)
   (h : DataW.trod enc P w base spare held fuel t cs = some x) :
   ∃ (c0 c1 c2 c3 : Value) (y0 y1 y2 y3 : DataW H × List MemPlace) (n : Nat), cs = [c0, c1, c2, c3] ∧ DataW.trod enc P w base spare held n f0.type [c0] = some y0 ∧ DataW.trod enc P w base spare held n f1.type [c1] = some y1 ∧ DataW.trod enc P w base spare held n f2.type [c2] = some y2 ∧ DataW.trod enc P w base spare held n f3.type [c3] = some y3 := by
 obtain ⟨xs, n, hn, rfl, hl, hlen, hf⟩ := DataW.trod_struct hs h
 rw [hC] at hl
 obtain ⟨o0, k0⟩ := hone_of hone 0 f0 rfl
 obtain ⟨o1, k1⟩ := hone_of hone 1 f1 rfl
 obtain ⟨o2, k2⟩ := hone_of hone 2 f2 rfl
 obtain ⟨o3, k3⟩ := hone_of hone 3 f3 rfl
 match xs, hlen, cs, hl with
 | [y0, y1, y2, y3], _, [c0, c1, c2, c3], _ => exact ⟨c0, c1, c2, c3, y0, y1, y2, y3, n, rfl, by simpa [o0, k0] using hf 0 f0 rfl, by simpa [o1, k1] using hf 1 f1 rfl, by simpa [o2, k2] using hf 2 f2 rfl, by simpa [o3, k3] using hf 3 f3 rfl⟩
def in64 (n : Int) : Prop := -9223372036854775808 ≤ n ∧ n ≤ 9223372036854775807
theorem in64_of {n : Int} (h : (Lit.int .i64 n).wf = true) : in64 n := by
 unfold Lit.wf at h
 rw [Bool.and_eq_true, decide_eq_true_eq, decide_eq_true_eq] at h
 exact h
def PinFits (p : PinV) : Prop := in64 p.ver ∧ in64 p.len ∧ p.name.size ≤ maxLen ∧ p.hs.length ≤ maxLen ∧ ∀ k ∈ p.hs, k.1.size ≤ maxLen ∧ k.2.size ≤ maxLen
theorem open_pins {t e : TypeId} {f0 f1 f2 f3 : Field} {th eh : TypeId} {g0 g1 : Field} {fuel : Nat} {c : Value} {x : DataW H × List MemPlace} (ht : P.underlying t = some (.slice e)) (hs : P.underlying e = some (.struct #[f0, f1, f2, f3])) (hone : oneCellFields P #[f0, f1, f2, f3] = true) (hC : P.cellsOf e = 4)
   (u0 : P.underlying f0.type = some .string) (u1 : P.underlying f1.type = some (.int .i64)) (u2 : P.underlying f2.type = some (.int .i64)) (e3 : f3.type = th)
   (hh : P.underlying th = some (.slice eh)) (hhs : P.underlying eh = some (.struct #[g0, g1])) (hhone : oneCellFields P #[g0, g1] = true) (hhC : P.cellsOf eh = 2) (v0 : P.underlying g0.type = some .string) (v1 : P.underlying g1.type = some .string)
   (h : DataW.trod enc P w 0 spare held fuel t [c] = some x) :
   ∃ (a : Option Addr) (cap : Nat) (l : List PinV), c = .slice a l.length cap ∧ l.length ≤ cap ∧ l.length ≤ maxLen ∧ (∀ p ∈ l, PinFits p) ∧ PinsAt w 0 w.heap.size a l := by
 rcases DataW.trod_slice ht h with ⟨e4, _⟩ | ⟨a, len, cap, elems, rest, n', hn', e4, hy, _, hl, hcm, hlen, hel, _, _⟩
 · simp at e4; subst e4
   exact ⟨none, 0, [], rfl, Nat.le_refl _, by simp, by simp, .inl rfl⟩
 · simp at e4; subst e4
   rw [hC] at hel
   have each : ∀ i, i < len → ∃ p : PinV, PinFits p ∧ w.cell? (a.add (i * 4)) = some (.string p.name) ∧ w.cell? ((a.add (i * 4)).add 1) = some (.int .i64 p.ver) ∧ w.cell? ((a.add (i * 4)).add 2) = some (.int .i64 p.len) ∧ ∃ ha hc, w.cell? ((a.add (i * 4)).add 3) = some (.slice ha p.hs.length hc) ∧ p.hs.length ≤ hc ∧ KeysAt w 0 w.heap.size ha p.hs := by
     intro i hi
     have := hel i hi
     rw [List.getElem?_eq_getElem (by omega)] at this
     obtain ⟨cs', g1, g2⟩ := Option.bind_eq_some_iff.1 this
     obtain ⟨_, gl, gc⟩ := World.cells?_some g1
     obtain ⟨d0, d1, d2, d3, y0, y1, y2, y3, m, rfl, r0, r1, r2, r3⟩ := trod_four hs hone hC g2
     obtain ⟨s, es, _, ws⟩ := DataW.trod_string u0 r0
     obtain ⟨p, ep, _, wp⟩ := DataW.trod_int u1 r1
     obtain ⟨q, eq, _, wq⟩ := DataW.trod_int u2 r2
     rw [e3] at r3
     obtain ⟨ha, hc, hsl, eh', hcap, hm, hsz, hK⟩ := open_pairs hh hhs hhone hhC v0 v1 r3
     simp only [List.cons.injEq, and_true] at es ep eq
     subst es ep eq eh'
     have q0 := gc 0 (by omega); have q1 := gc 1 (by omega); have q2 := gc 2 (by omega); have q3 := gc 3 (by omega)
     rw [show (a.add (i * 4)).add 0 = a.add (i * 4) by simp [Addr.add]] at q0
     exact ⟨⟨s, p, q, hsl⟩, ⟨in64_of wp, in64_of wq, ws, hm, hsz⟩, q0, q1, q2, ha, hc, q3, hcap, hK⟩
   obtain ⟨l, hll, hls⟩ := choose_list len each
   refine ⟨some a, cap, l, by rw [hll], by omega, by omega, fun k hk => ?_, ?_⟩
   · obtain ⟨i, hi, rfl⟩ := List.getElem_of_mem hk
     exact (hls i hi).1
   · by_cases h0 : len = 0
     · exact .inl (List.eq_nil_of_length_eq_zero (by omega))
     · have q0 := (hls 0 (by omega)).2.1
       rw [Nat.zero_mul, show a.add 0 = a by simp [Addr.add]] at q0
       have ea := addr_plain q0
       refine .inr ⟨a.block, a.off, by rw [← ea], Nat.zero_le _, World.block_lt_of_cell? w _ q0, fun i hi => ?_⟩
       obtain ⟨_, q0, q1, q2, ha, hc, q3, hcap, hK⟩ := hls i hi
       rw [ea, add_off] at q0 q1 q2 q3
       rw [add_off] at q1 q2 q3
       exact ⟨q0, q1, q2, ha, hc, q3, hcap, hK⟩
end
end Go.Proofs.YtgghgcilpfdbjaaGreatDoor

namespace Go.Proofs.YtgghgcilpfdbjaaGreatDoor
open Go.ChangeShapes Go.WideShapes Go.ChangeAt Go.RowKit Go.Joins Go.ChangeMaps
theorem own : ownKnob Tryz.prog.godebug = none := by kernel_rfl
theorem gPow : Tryz.prog.globalNamed "internal/strconv.uint64pow10" = some 2 := by kernel_rfl
theorem gBef : Tryz.prog.globalNamed "legate/when.before" = some 0 := by kernel_rfl
theorem gPowT : (Tryz.prog.globals[2]?).map (·.type) = some 207 := by kernel_rfl
theorem gBefT : (Tryz.prog.globals[0]?).map (·.type) = some 143 := by kernel_rfl
theorem cellsPow : Tryz.prog.cellsOf 207 = 20 := by kernel_rfl
theorem cellsBef : Tryz.prog.cellsOf 143 = 13 := by kernel_rfl
theorem cells64 : Tryz.prog.cellsOf 158 = 1 := by kernel_rfl
theorem cellsInt : Tryz.prog.cellsOf 3 = 1 := by kernel_rfl
theorem cellsSnp : Tryz.prog.cellsOf 24 = 3 := by kernel_rfl
theorem cellsPin : Tryz.prog.cellsOf 36 = 4 := by kernel_rfl
theorem cellsHsh : Tryz.prog.cellsOf 62 = 2 := by kernel_rfl
def befZs : List Int := [0, 31, 59, 90, 120, 151, 181, 212, 243, 273, 304, 334, 365]
abbrev laidAll : List (String × DataW Unit) := [("math/bits.deBruijn32tab", Rows.laid_math_bits_deBruijn32tab), ("math/bits.deBruijn64tab", Rows.laid_math_bits_deBruijn64tab), ("internal/strconv.uint64pow10", Rows.laid_internal_strconv_uint64pow10), ("legate/when.before", Rows.laid_legate_when_before)]
theorem laid_drop {P : Program} {W : World} {x : String × DataW Unit} {r : List (String × DataW Unit)} (h : laidMet P (x :: r) W) : laidMet P r W := by
 obtain ⟨ps, ⟨g, t, cs, fuel, p, q, h1, h2, h3, h4, h5, rfl⟩, hn, ha⟩ := h
 exact ⟨q, h5, (List.nodup_append.1 hn).2.1, fun b off hp => ha b off (List.mem_append.2 (.inr hp))⟩
theorem pow_of {W : World} (h : laidMet Tryz.prog laidAll W) : Pow10 W :=
 Lib.tabIs_of_head gPow gPowT Tryz.underlying207 Tryz.underlying158 cells64 cellsPow (laid_drop (laid_drop h))
theorem tabw_of {W : World} (h : laidMet Tryz.prog laidAll W) : TabW W := by
 have h1 : Lib.TabIs Tryz.prog W "legate/when.before" .i64 befZs := Lib.tabIs_of_head gBef gBefT Tryz.underlying143 Tryz.underlying3 cellsInt cellsBef (laid_drop (laid_drop (laid_drop h)))
 have c1 : ∀ i, i < 13 → W.cell? ⟨0, i, none⟩ = some (.int .i64 (beforeN i)) := fun i hi => by
   rw [h1.cell gBef i hi]
   have : ∀ m : Fin 13, befZs.getD m.val 0 = beforeN m.val := by decide
   rw [this ⟨i, hi⟩]
 exact ⟨c1, World.block_lt_of_cell? W _ (c1 0 (by decide))⟩
def tabCells : DataW Unit → Array Value
 | .agg l => (l.map fun
   | .lit (.int k n) => Value.int k n
   | _ => undef).toArray
 | _ => #[]
def lay (g : Nat) (d : DataW Unit) (h : Array Obj) : Array Obj := h.modify g fun
 | .cells _ t frozen => .cells (tabCells d) t frozen
 | o => o
noncomputable def laidWorld (os : Os) : World :=
 { World.holding Tryz.prog os ⟨#[], #[], []⟩ with heap := lay 0 Rows.laid_legate_when_before (lay 2 Rows.laid_internal_strconv_uint64pow10 (lay 4 Rows.laid_math_bits_deBruijn64tab (lay 3 Rows.laid_math_bits_deBruijn32tab (World.holding Tryz.prog os ⟨#[], #[], []⟩).heap))) }
theorem post_below {H : Type} {enc : TypeId × Value → H} {P : Program} {f : Func} {s : ChangeSpec} {a1 a2 a3 a4 : Bool} {W W' : World} {args : Array Value} {v : Value} {ds gs : List (DataW H)} {before pa pv : List MemPlace}
   (hW : DataW.Whole enc P f.params.toList s.vars a1 W args.toList ds gs before)
   (hr : ∀ (b : Nat) (sp : Nat → Bool) (hd : Bool), DataW.TrodAll enc P W' b sp hd f.resultTypes.toList (v.resultList f.resultTypes.size) (s.fn H (ds ++ gs)).results [])
   (ha : ∀ sp : Nat → Bool, (∀ p ∈ before, sp p.block = true) → DataW.TrodAll enc P W' 0 sp true f.params.toList args.toList (s.fn H (ds ++ gs)).args pa)
   (hv : ∀ sp : Nat → Bool, (∀ p ∈ before, sp p.block = true) → DataW.TrodVars enc P W' sp s.vars (s.fn H (ds ++ gs)).vars pv)
   (he : before = pa ++ pv) (hb : Below W.heap.size W W')
   (hok : ∀ (j : Nat) (t : TypeId) (r : Value), f.resultTypes[j]? = some t → (v.resultList f.resultTypes.size)[j]? = some r → Value.okWide P W' .any 0 t r) :
   s.post enc P f a1 a2 a3 a4 W args v W' := by
 have hlt := hW.lt
 have hold : ∀ p ∈ before, (fun b => decide (b < W.heap.size)) p.block = true := fun p hp => decide_eq_true (hlt p hp)
 refine ⟨ds, gs, before, [], pa, pv, hW, hr _ _ _, ha _ hold, hv _ hold, World.keptBut_mono (fun p hp => ⟨hp, .inr ?_⟩) (hb.frame (· ∈ before)), fun _ => ?_⟩
 · rw [he] at hp; exact List.mem_append.1 hp
 obtain ⟨_, _, _, _, _, hz, hn⟩ := hW
 refine ⟨hok, _, _, ([] ++ pa) ++ pv, ⟨[] ++ pa, pv, trodAll_append (ha _ fun _ _ => rfl) (hr _ _ _), hv _ fun _ _ => rfl, rfl, fun b off hp => ?_, fun h1 => ?_⟩, fun p hp _ => ?_⟩
 · have hin : MemPlace.cell b off ∈ before := by rw [he]; exact hp
   rw [hb.frozen (hlt _ hin)]; exact hz b off hin
 · have := hn h1; rwa [he] at this
 · rw [he]; exact hp
theorem laidOut : laidOutB Tryz.prog = true := by kernel_rfl
theorem trodAll_stays {H : Type} {enc : TypeId × Value → H} {W W' : World} {sp : Nat → Bool} (hb : Below W.heap.size W W') : ∀ (ts : List TypeId) (vs : List Value) (ds : List (DataW H)) (ps : List MemPlace),
   (∀ t ∈ ts, Tryz.prog.readableRec t = true ∧ t < Tryz.prog.types.size) → DataW.TrodAll enc Tryz.prog W 0 (fun _ => true) true ts vs ds ps → (∀ x ∈ ps, x.block < W.heap.size) → (∀ x ∈ ps, sp x.block = true) → DataW.TrodAll enc Tryz.prog W' 0 sp true ts vs ds ps
 | [], vs, ds, ps, _, h, _, _ => by
   cases vs <;> cases ds <;> simp [DataW.TrodAll] at h
   subst h; simp [DataW.TrodAll]
 | t :: ts, vs, ds, ps, ht, h, hlt, hs => by
   obtain ⟨v, vs', d, ds', p, q, rfl, rfl, rfl, hd, hr⟩ := trodAll_cons h
   obtain ⟨h1, h2⟩ := ht t (by simp)
   have e1 := WideElems.Trod_stays (sp' := sp) laidOut h1 h2 hd (fun x hx => hb.same (hlt x (List.mem_append.2 (.inl hx)))) (fun x hx => hs x (List.mem_append.2 (.inl hx)))
   have e2 := trodAll_stays hb ts vs' ds' q (fun t' h' => ht t' (List.mem_cons.2 (.inr h'))) hr (fun x hx => hlt x (List.mem_append.2 (.inr hx))) (fun x hx => hs x (List.mem_append.2 (.inr hx)))
   exact ⟨p, q, e1, e2, rfl⟩
section
variable {H : Type} {enc : TypeId × Value → H} {W : World} {base : Nat}
set_option maxRecDepth 100000 in
theorem arg_str {v : Value} {d : DataW H} {p : List MemPlace} (hv : Value.okWide Tryz.prog W .any base 9 v) (h : DataW.Trod enc Tryz.prog W 0 (fun _ => true) true 9 v d p) :
   ∃ s : ByteArray, v = .string s := by
 obtain ⟨s, rfl, _⟩ := open_string Tryz.underlying9 hv h
 exact ⟨s, rfl⟩
set_option maxRecDepth 100000 in
theorem arg_snap {v : Value} {d : DataW H} {p : List MemPlace} (hv : Value.okWide Tryz.prog W .any base 24 v) (h : DataW.Trod enc Tryz.prog W 0 (fun _ => true) true 24 v d p) :
   ∃ (n e : Int) (a : Option Addr) (cap : Nat) (l : List PinV), v = .agg #[.int .i64 n, .int .i64 e, .slice a l.length cap] ∧ in64 n ∧ in64 e ∧ l.length ≤ cap ∧ l.length ≤ 9223372036854775807 ∧ (∀ q ∈ l, PinFits q) ∧ PinsAt W 0 W.heap.size a l := by
 obtain ⟨cs, rfl, hsz⟩ := okWide_struct Tryz.underlying24 hv
 obtain ⟨fuel, hf⟩ := h
 obtain ⟨c0, c1, c2, y0, y1, y2, n, e, h0, h1, h2⟩ := trod_three Tryz.underlying24 (by kernel_rfl) cellsSnp (by simpa [Value.cells] using hf)
 obtain ⟨t, e0, _, w0⟩ := DataW.trod_int Tryz.underlying2 h0
 obtain ⟨u, e1, _, w1⟩ := DataW.trod_int Tryz.underlying2 h1
 obtain ⟨a, cap, l, e2, hc, hm, hfit, hP⟩ := open_pins Tryz.underlying22 Tryz.underlying36 (by kernel_rfl) cellsPin Tryz.underlying9 Tryz.underlying2 Tryz.underlying2 rfl Tryz.underlying34 Tryz.underlying62 (by kernel_rfl) cellsHsh Tryz.underlying9 Tryz.underlying9 h2
 simp only [List.cons.injEq, and_true] at e0 e1
 subst e0 e1 e2
 obtain ⟨cs⟩ := cs
 simp only at e
 subst e
 exact ⟨t, u, a, cap, l, rfl, in64_of w0, in64_of w1, hc, by unfold maxLen at hm; omega, hfit, hP⟩
end
section
variable {H : Type} {enc : TypeId × Value → H} {W : World} {base : Nat}
set_option maxRecDepth 100000 in
theorem arg_int {v : Value} {d : DataW H} {p : List MemPlace} (hv : Value.okWide Tryz.prog W .any base 3 v) (h : DataW.Trod enc Tryz.prog W 0 (fun _ => true) true 3 v d p) :
   ∃ n : Int, v = .int .i64 n ∧ in64 n := by
 obtain ⟨n, rfl, _, _, hw⟩ := open_int Tryz.underlying3 hv h
 exact ⟨n, rfl, in64_of hw⟩
end
theorem trodAll_five {H : Type} {P : Program} {enc : TypeId × Value → H} {w : World} {base : Nat} {spare : Nat → Bool} {held : Bool} {t0 t1 t2 t3 t4 : TypeId} {args : Array Value} {ds : List (DataW H)} {ps : List MemPlace} (h : DataW.TrodAll enc P w base spare held [t0, t1, t2, t3, t4] args.toList ds ps) :
   ∃ v0 v1 v2 v3 v4 d0 d1 d2 d3 d4 p0 p1 p2 p3 p4, args = #[v0, v1, v2, v3, v4] ∧ ds = [d0, d1, d2, d3, d4] ∧ ps = p0 ++ p1 ++ p2 ++ p3 ++ p4 ∧ DataW.Trod enc P w base spare held t0 v0 d0 p0 ∧ DataW.Trod enc P w base spare held t1 v1 d1 p1 ∧ DataW.Trod enc P w base spare held t2 v2 d2 p2 ∧ DataW.Trod enc P w base spare held t3 v3 d3 p3 ∧ DataW.Trod enc P w base spare held t4 v4 d4 p4 := by
 obtain ⟨v0, vs0, d0, ds0, p0, q0, hargs, rfl, rfl, hd0, hr0⟩ := trodAll_cons h
 obtain ⟨v1, vs1, d1, ds1, p1, q1, rfl, rfl, rfl, hd1, hr1⟩ := trodAll_cons hr0
 obtain ⟨v2, vs2, d2, ds2, p2, q2, rfl, rfl, rfl, hd2, hr2⟩ := trodAll_cons hr1
 obtain ⟨v3, vs3, d3, ds3, p3, q3, rfl, rfl, rfl, hd3, hr3⟩ := trodAll_cons hr2
 obtain ⟨v4, vs4, d4, ds4, p4, q4, rfl, rfl, rfl, hd4, hr4⟩ := trodAll_cons hr3
 obtain ⟨rfl, rfl, rfl⟩ := trodAll_nil hr4
 exact ⟨v0, v1, v2, v3, v4, d0, d1, d2, d3, d4, p0, p1, p2, p3, p4, by cases args; simp_all, rfl, by simp, hd0, hd1, hd2, hd3, hd4⟩
section
variable {H : Type} {enc : TypeId × Value → H} {W : World} {base : Nat}
set_option maxRecDepth 100000 in
theorem arg_val {v : Value} {d : DataW H} {p : List MemPlace} (hv : Value.okWide Tryz.prog W .any base 30 v) (h : DataW.Trod enc Tryz.prog W 0 (fun _ => true) true 30 v d p) (hz : W.noneFrozen p) :
   ∃ (u : JV) (an ai : Option Addr) (cn ci : Nat), v = .agg #[.int .u8 u.kind, .int .i64 u.n, .string u.t, .slice an u.names.length cn, .slice ai u.items.length ci] ∧ Rep W 0 W.heap.size u (.agg #[.int .u8 u.kind, .int .i64 u.n, .string u.t, .slice an u.names.length cn, .slice ai u.items.length ci]) := by
 obtain ⟨cs, rfl, hsz⟩ := okWide_struct Tryz.underlying30 hv
 obtain ⟨fuel, hf⟩ := h
 obtain ⟨u, h1, h2, h3, _⟩ := open_val fuel cs.toList _ (by simpa [Value.cells] using hf) hz
 have h4 : Rep W 0 W.heap.size u (.agg cs) := by simpa using h3
 obtain ⟨an, cn, ai, ci, e, _⟩ := h4.parts
 exact ⟨u, an, ai, cn, ci, e, by rw [← e]; exact h4⟩
set_option maxRecDepth 100000 in
theorem arg_pin {v : Value} {d : DataW H} {p : List MemPlace} (hv : Value.okWide Tryz.prog W .any base 36 v) (h : DataW.Trod enc Tryz.prog W 0 (fun _ => true) true 36 v d p) :
   ∃ (q : PinV) (a : Option Addr) (cap : Nat), v = .agg #[.string q.name, .int .i64 q.ver, .int .i64 q.len, .slice a q.hs.length cap] ∧ q.hs.length ≤ 9223372036854775807 ∧ KeysAt W 0 W.heap.size a q.hs ∧ PinFits q := by
 obtain ⟨cs, rfl, hsz⟩ := okWide_struct Tryz.underlying36 hv
 obtain ⟨fuel, hf⟩ := h
 obtain ⟨c0, c1, c2, c3, y0, y1, y2, y3, n, e, h0, h1, h2, h3⟩ := trod_four Tryz.underlying36 (by kernel_rfl) cellsPin (by simpa [Value.cells] using hf)
 obtain ⟨s, e0, _, w0⟩ := DataW.trod_string Tryz.underlying9 h0
 obtain ⟨t, e1, _, w1⟩ := DataW.trod_int Tryz.underlying2 h1
 obtain ⟨r, e2, _, w2⟩ := DataW.trod_int Tryz.underlying2 h2
 obtain ⟨a, cap, l, e3, hc, hm, hfit, hK⟩ := open_pairs Tryz.underlying34 Tryz.underlying62 (by kernel_rfl) cellsHsh Tryz.underlying9 Tryz.underlying9 h3
 simp only [List.cons.injEq, and_true] at e0 e1 e2
 subst e0 e1 e2 e3
 obtain ⟨cs⟩ := cs
 simp only at e
 subst e
 exact ⟨⟨s, t, r, l⟩, a, cap, rfl, by unfold maxLen at hm; exact hm, hK, in64_of w1, in64_of w2, w0, hm, hfit⟩
end
end Go.Proofs.YtgghgcilpfdbjaaGreatDoor

namespace Go.Proofs.YtgghgcilpfdbjaaGreatDoor
open Go.RowKit
set_option maxHeartbeats 400000 in
theorem findLess (l : List ByteArray) (x : ByteArray) (a : Option Addr) (n c i p1 p2 : Nat) (lo hi : Nat) (w : World) (hS : StrsAt w lo hi a l) (hi' : i < l.length) (hn : l.length = n) (_hb : n ≤ 4294967296)
   (c1 : w.cell? ⟨p1, 0, none⟩ = some (.slice a n c)) (c2 : w.cell? ⟨p2, 0, none⟩ = some (.string x)) :
   Calls Tryz.prog 163 #[.int .i64 i, .pointer (some ⟨p1, 0, none⟩), .pointer (some ⟨p2, 0, none⟩)] w fun e w' => e = .returned (.bool (!bl l[i] x)) ∧ ∃ m, w' = w.drewN m := by
 obtain ⟨b, off, rfl, _, _, c3⟩ := hS.at i hi'
 have j0 : (0 : Int) ≤ (i : Int) := by omega
 have j1 : (i : Int) < (n : Int) := by omega
 have HB := Lib.hid (show bl l[i] x = Op.bytesLess l[i].toList x.toList from rfl)
 generalize l[i] = y at *
 clear hS hn hi'
 go_enter Tryz.func163, Tryz.ntmps163
 go_wp2_with fail
 go_quiet (fail)
 go_wp2
 go_ret
 exact ⟨by rw [HB.out]; rfl, _, rfl⟩
set_option maxHeartbeats 400000 in
theorem sortSearch (l : List ByteArray) (x : ByteArray) (a : Option Addr) (n c p1 p2 : Nat) (lo hi : Nat) (w : World) (hS : StrsAt w lo hi a l) (hn : l.length = n) (hb : n ≤ 4294967296) (hr : rises l = true)
   (c1 : w.cell? ⟨p1, 0, none⟩ = some (.slice a n c)) (c2 : w.cell? ⟨p2, 0, none⟩ = some (.string x)) :
   Calls Tryz.prog 162 #[.int .i64 n, .func (.func 163) #[] #[.pointer (some ⟨p1, 0, none⟩), .pointer (some ⟨p2, 0, none⟩)]] w fun e w' => (∃ r : Nat, e = .returned (.int .i64 r) ∧ r ≤ l.length ∧ (∀ t (h : t < l.length), t < r → bl l[t] x = true) ∧ (∀ t (h : t < l.length), r ≤ t → bl l[t] x = false)) ∧ ∃ m, w' = w.drewN m := by
 have HS := Lib.hid hS; clear hS
 have HR := Lib.hid hr; clear hr
 have HN := Lib.hid hn; clear hn
 have HC1 := Lib.hid c1; clear c1
 have HC2 := Lib.hid c2; clear c2
 go_enter Tryz.func162, Tryz.ntmps162
 go_wp2
 go_loopw [5, 6, 7] (fun vi vj _ wr => ∃ (i j m : Nat), i ≤ j ∧ j ≤ n ∧ vi = .int .i64 i ∧ vj = .int .i64 j ∧ (∀ t (h : t < l.length), t < i → bl l[t] x = true) ∧ (∀ t (h : t < l.length), j ≤ t → bl l[t] x = false) ∧ wr = w.drewN m) (fun vi vj _ _ => (intOf vj - intOf vi).toNat)
 case atStart => exact ⟨0, n, 0, by omega, by omega, rfl, rfl, fun t _ h => by omega, fun t h h' => by have := HN.out; omega, rfl⟩
 case round =>
   obtain ⟨i, j, m, hij, hjn, rfl, rfl, h1, h2, rfl⟩ := hrel
   have H1 := Lib.hid h1
   have H2 := Lib.hid h2
   clear h1 h2
   by_cases hlt : i < j
   · obtain ⟨h, hh⟩ : ∃ h : Nat, ((i : Int) + (j : Int)) / 2 = (h : Int) := ⟨(i + j) / 2, by omega⟩
     have hh1 : i ≤ h := by omega
     have hh2 : h < j := by omega
     have hl : h < l.length := by have := HN.out; omega
     have HH := Lib.hid hh; clear hh
     have HL := Lib.hid hl; clear hl
     cases hb2 : bl (l[h]'HL.out) x
     · have HX := Lib.hid hb2; clear hb2
       go_wp2_with fail
       rw [HH.out]
       refine (findLess l x a n c h p1 p2 lo hi (w.drewN m) (show StrsAt (w.drewN m) lo hi a l from HS.out) HL.out HN.out hb HC1.out HC2.out).mono ?_
       rintro e w1 ⟨rfl, m2, rfl⟩
       rw [HX.out]
       go_wp2
       go_roundw
       case rel =>
         refine ⟨i, h, m + m2, by omega, by omega, rfl, by first | rfl | (rw [HH.out]), H1.out, fun t ht hle => ?_, by first | rfl | (rw [World.drewN_drewN])⟩
         by_cases e : t = h
         · subst e; exact HX.out
         · have h3 := rises_lt HR.out h t HL.out ht (by omega)
           cases h4 : bl l[t] x
           · rfl
           · have := bl_trans h3 h4; rw [HX.out] at this; cases this
       case measure => simp [intOf]; have := HH.out; omega
     · have HX := Lib.hid hb2; clear hb2
       go_wp2_with fail
       rw [HH.out]
       refine (findLess l x a n c h p1 p2 lo hi (w.drewN m) (show StrsAt (w.drewN m) lo hi a l from HS.out) HL.out HN.out hb HC1.out HC2.out).mono ?_
       rintro e w1 ⟨rfl, m2, rfl⟩
       rw [HX.out]
       go_wp2
       go_roundw
       case rel =>
         refine ⟨h + 1, j, m + m2, by omega, by omega, by first | go_num | (rw [HH.out]; go_num), rfl, fun t ht hle => ?_, H2.out, by first | rfl | (rw [World.drewN_drewN])⟩
         by_cases e : t = h
         · subst e; exact HX.out
         · exact bl_trans (rises_lt HR.out t h ht HL.out (by omega)) HX.out
       case measure => simp [intOf]; have := HH.out; omega
   · obtain rfl : i = j := by omega
     go_wp2
     go_ret
     exact ⟨⟨i, rfl, by have := HN.out; omega, H1.out, H2.out⟩, _, rfl⟩
set_option maxRecDepth 100000 in
set_option maxHeartbeats 400000 in
theorem valueFind (l : List ByteArray) (x : ByteArray) (a : Option Addr) (c : Nat) (w : World) (hS : StrsAt w 0 w.heap.size a l) (hb : l.length ≤ 4294967296) (hr : rises l = true) :
   Calls Tryz.prog 134 #[.slice a l.length c, .string x] w (FindPost l x w) := by
 have HS := Lib.hid hS; clear hS
 have HR := Lib.hid hr; clear hr
 obtain ⟨n, hn⟩ : ∃ n, l.length = n := ⟨_, rfl⟩
 rw [hn]
 have hb' : n ≤ 4294967296 := by omega
 have HN := Lib.hid hn; clear hn
 go_enter Tryz.func134, Tryz.ntmps134
 go_wp2_with fail
 have HB0 := Lib.hid (show Below w.heap.size w ((w.alloc (.cells #[.slice a n c] 27)).alloc (.cells #[.string x] 9)) from ((Below.refl _ _).alloc (Nat.le_refl _) _).alloc (by simp) _)
 have hasc := valueAscending l a c ((w.alloc (.cells #[.slice a n c] 27)).alloc (.cells #[.string x] 9)) (HS.out.below HB0.out (Nat.le_refl _) (Nat.le_refl _) HB0.out.size) hb
 rw [HN.out, HR.out] at hasc
 refine hasc.mono ?_
 clear hasc
 rintro e w1 ⟨rfl, hb1⟩
 have hz1 : w.heap.size + 2 ≤ w1.heap.size := by have := hb1.size; simp at this; omega
 have c1 : w1.cell? ⟨w.heap.size, 0, none⟩ = some (.slice a n c) := by rw [hb1.cell (by simp; omega)]; go_simp
 have c2 : w1.cell? ⟨w.heap.size + 1, 0, none⟩ = some (.string x) := by rw [hb1.cell (by simp)]; go_simp
 have HB1 : Hid (Below w.heap.size w w1) := HB0.out.trans (hb1.mono (by simp; omega))
 clear hb1 HB0
 go_wp2_with fail
 refine (sortSearch l x a n c w.heap.size (w.heap.size + 1) 0 w.heap.size w1 (HS.out.below HB1.out (Nat.le_refl _) (Nat.le_refl _) (Nat.le_refl _)) HN.out hb' HR.out c1 c2).mono ?_
 rintro e w2 ⟨⟨r, rfl, h1, h2, h3⟩, m, rfl⟩
 have H1 := Lib.hid h1
 have H2 := Lib.hid h2
 have H3 := Lib.hid h3
 have h1' : r ≤ n := by rw [← HN.out]; exact h1
 clear h1 h2 h3
 replace c1 : (w1.drewN m).cell? ⟨w.heap.size, 0, none⟩ = some (.slice a n c) := c1
 replace c2 : (w1.drewN m).cell? ⟨w.heap.size + 1, 0, none⟩ = some (.string x) := c2
 have HB2 := Lib.hid (Below.drewN HB1.out m)
 clear HB1
 generalize w1.drewN m = w3 at *
 clear hz1
 by_cases hlt : r < n
 · have hlt' : r < l.length := by rw [HN.out]; exact hlt
   obtain ⟨b, off, rfl, _, _, c3⟩ := (HS.out.below HB2.out (Nat.le_refl _) (Nat.le_refl _) (Nat.le_refl _)).at r hlt'
   have HY := Lib.hid (show ∃ y, y = l[r] from ⟨_, rfl⟩)
   have HNO := Lib.hid (show ¬ l[r] = x → ∀ t (h : t < l.length), l[t] ≠ x by
     intro hne t ht e
     by_cases e1 : t < r
     · have := H2.out t ht e1; rw [e, bl_irrefl] at this; cases this
     · by_cases e2 : t = r
       · subst e2; exact hne e
       · have h4 := rises_lt HR.out r t hlt' ht (by omega)
         have h5 := H3.out r hlt' (Nat.le_refl _)
         rw [e] at h4; rw [h4] at h5; cases h5)
   have j0 : (0 : Int) ≤ (r : Int) := by omega
   have j1 : (r : Int) < (n : Int) := by omega
   have HEX := Lib.hid (show l[r] = x → ∃ h : r < l.length, l[r] = x from fun e => ⟨hlt', e⟩)
   generalize l[r] = y at *
   clear HY
   go_wp2_with fail
   go_quiet (fail)
   go_wp2
   go_ret2
   refine ⟨r, (y.toList == x.toList), rfl, H1.out, H2.out, H3.out, fun e => HEX.out (ba_ext (by simpa using e)), fun e => HNO.out (fun e' => by rw [e'] at e; simp at e), Below.drewN HB2.out _⟩
 · have HNO := Lib.hid (show ∀ t (h : t < l.length), l[t] ≠ x by
     intro t ht e
     have := H2.out t ht (by have := HN.out; omega)
     rw [e, bl_irrefl] at this; cases this)
   have hd : decide ((r : Int) < (n : Int)) = false := by simp; omega
   have hd2 : decide (r < n) = false := by simp; omega
   go_wp2_with fail
   go_quiet (fail)
   go_wp2
   go_ret2
   exact ⟨r, false, rfl, H1.out, H2.out, H3.out, (fun e => by cases e), fun _ => HNO.out, Below.drewN HB2.out _⟩
theorem mayH_take (l : List Key2) (k : Nat) (hk : k < l.length) (h : hashOk l[k] = false) : mayHashes l = false := by
 unfold mayHashes
 have : l.all hashOk = false := by
   rw [Bool.eq_false_iff]
   intro ha
   rw [List.all_eq_true.1 ha _ (List.getElem_mem hk)] at h; cases h
 rw [this]; simp
theorem mayH_less (l : List Key2) (k : Nat) (h1 : 1 ≤ k) (hk : k < l.length) (h : Op.bytesLess l[k-1].1.toList l[k].1.toList = false) : mayHashes l = false := by
 unfold mayHashes
 have : rises (l.map (·.1)) = false := rises_bad _ k h1 (by simpa using hk) (by simpa using h)
 rw [this]; simp
theorem mayH_all (l : List Key2) (h1 : 1 ≤ l.length) (h4 : l.length ≤ 4) (ha : ∀ k (hk : k < l.length), hashOk l[k] = true) (hr : ∀ k (_ : 1 ≤ k) (hk : k < l.length), Op.bytesLess l[k-1].1.toList l[k].1.toList = true) : mayHashes l = true := by
 unfold mayHashes
 have a1 : l.all hashOk = true := List.all_eq_true.2 fun x hx => by obtain ⟨i, hi, rfl⟩ := List.getElem_of_mem hx; exact ha i hi
 have a2 : rises (l.map (·.1)) = true := by
   match l, h4, hr with
   | [], _, _ => rfl
   | [_], _, _ => rfl
   | [a, b], _, hr => have := hr 1 (by omega) (by simp); simp only [List.map, rises]; simpa using this
   | [a, b, c], _, hr => have x1 := hr 1 (by omega) (by simp); have x2 := hr 2 (by omega) (by simp); simp only [List.map, rises]; simp at x1 x2; simp [x1, x2]
   | [a, b, c, d], _, hr => have x1 := hr 1 (by omega) (by simp); have x2 := hr 2 (by omega) (by simp); have x3 := hr 3 (by omega) (by simp); simp only [List.map, rises]; simp at x1 x2 x3; simp [x1, x2, x3]
   | _ :: _ :: _ :: _ :: _ :: _, h, _ => simp at h
 rw [a1, a2]; simp [h1, h4]
end Go.Proofs.YtgghgcilpfdbjaaGreatDoor
