/- The contracts of snap.MayPin, snap.SamePin of pins without hashes. -/
import Derived.Test.YtgghgcilpfdbjaaGreatDoorSy07
import Derived.Test.YtgghgcilpfdbjaaGreatDoorSy00
import Derived.Lib.Strings
import Derived.Test.YtgghgcilpfdbjaaGreatDoorCards
import Derived.Test.YtgghgcilpfdbjaaGreatDoorTie
import Derived.Test.YtgghgcilpfdbjaaGreatDoorSy06
import Derived.WalkKit
import Derived.ProofKit
import Derived.OpenShut
import Derived.ChangeSame
import Derived.Deep.DeepHandedRow
import Derived.Lib.LaidTab
import Derived.Lib.SmallJoins
import Derived.Carry
import Derived.ChangeMaps5
import Derived.Test.YtgghgcilpfdbjaaGreatDoorSy03
import Derived.Test.YtgghgcilpfdbjaaGreatDoorSy05
import Derived.Lib.Hide
import Derived.Test.YtgghgcilpfdbjaaGreatDoorSy04
import Derived.Test.YtgghgcilpfdbjaaGreatDoorSy01
import Derived.Deep.Cut

namespace Go.Proofs.YtgghgcilpfdbjaaGreatDoor
open Go.RowKit
theorem less_irrefl : ∀ x : List UInt8, Op.bytesLess x x = false
 | [] => rfl
 | a :: x => by simp [Op.bytesLess, less_irrefl x]
theorem less_trans : ∀ x y z : List UInt8, Op.bytesLess x y = true → Op.bytesLess y z = true → Op.bytesLess x z = true
 | _, _, [], _, h => by simp [Op.bytesLess] at h
 | _, [], _ :: _, h, _ => by simp [Op.bytesLess] at h
 | [], _ :: _, _ :: _, _, _ => rfl
 | a :: x, b :: y, c :: z, h1, h2 => by
   simp only [Op.bytesLess, Bool.or_eq_true, decide_eq_true_eq, Bool.and_eq_true, beq_iff_eq] at h1 h2 ⊢
   rcases h1 with h1 | ⟨rfl, h1⟩
   · rcases h2 with h2 | ⟨rfl, h2⟩
     · exact .inl (UInt8.lt_trans h1 h2)
     · exact .inl h1
   · rcases h2 with h2 | ⟨rfl, h2⟩
     · exact .inl h2
     · exact .inr ⟨rfl, less_trans x y z h1 h2⟩
theorem less_tri : ∀ x y : List UInt8, Op.bytesLess x y = false → Op.bytesLess y x = false → x = y
 | [], [], _, _ => rfl
 | [], _ :: _, h, _ => by simp [Op.bytesLess] at h
 | _ :: _, [], _, h => by simp [Op.bytesLess] at h
 | a :: x, b :: y, h1, h2 => by
   simp only [Op.bytesLess, Bool.or_eq_false_iff, decide_eq_false_iff_not, Bool.and_eq_false_iff] at h1 h2
   have e : a = b := UInt8.le_antisymm (UInt8.not_lt.1 h2.1) (UInt8.not_lt.1 h1.1)
   subst e
   have g1 : Op.bytesLess x y = false := by rcases h1.2 with h | h; simp at h; exact h
   have g2 : Op.bytesLess y x = false := by rcases h2.2 with h | h; simp at h; exact h
   rw [less_tri x y g1 g2]
def bl (a b : ByteArray) : Bool := Op.bytesLess a.toList b.toList
theorem ba_ext {a b : ByteArray} (h : a.toList = b.toList) : a = b := by
 rw [ByteArray.toList_eq, ByteArray.toList_eq] at h
 exact ByteArray.ext (Array.toList_inj.1 h)
theorem bl_irrefl (a : ByteArray) : bl a a = false := less_irrefl _
theorem bl_trans {a b c : ByteArray} (h : bl a b = true) (h' : bl b c = true) : bl a c = true := less_trans _ _ _ h h'
theorem bl_tri {a b : ByteArray} (h : bl a b = false) (h' : bl b a = false) : a = b := ba_ext (less_tri _ _ h h')
theorem rises_tail {a : ByteArray} {l : List ByteArray} (h : rises (a :: l) = true) : rises l = true := by
 cases l with
 | nil => rfl
 | cons b r => simp only [rises, Bool.and_eq_true] at h; exact h.2
theorem rises_head : ∀ {l : List ByteArray} {a : ByteArray} (_ : rises (a :: l) = true) (j : Nat) (h : j < l.length), bl a l[j] = true
 | [], _, _, j, h => by simp at h
 | b :: r, a, h, 0, _ => by simp only [rises, Bool.and_eq_true] at h; exact h.1
 | b :: r, a, h, j + 1, hj => by
   simp only [rises, Bool.and_eq_true] at h
   exact bl_trans h.1 (rises_head h.2 j (by simpa using hj))
theorem rises_lt : ∀ {l : List ByteArray} (_ : rises l = true) (i j : Nat) (hi : i < l.length) (hj : j < l.length), i < j → bl l[i] l[j] = true
 | [], _, i, j, hi, _, _ => by simp at hi
 | a :: r, h, 0, j + 1, _, hj, _ => rises_head h j (by simpa using hj)
 | a :: r, h, i + 1, j + 1, hi, hj, hlt => by
   simp only [List.getElem_cons_succ]
   exact rises_lt (rises_tail h) i j (by simpa using hi) (by simpa using hj) (by omega)
 | a :: r, h, i, 0, _, _, hlt => by omega
def FindPost (l : List ByteArray) (x : ByteArray) (w : World) (e : Ending) (w' : World) : Prop :=
 ∃ (r : Nat) (f : Bool), e = .returned (.tuple #[.int .i64 r, .bool f]) ∧ r ≤ l.length ∧ (∀ t (h : t < l.length), t < r → bl l[t] x = true) ∧ (∀ t (h : t < l.length), r ≤ t → bl l[t] x = false) ∧
   (f = true → ∃ h : r < l.length, l[r] = x) ∧ (f = false → ∀ t (h : t < l.length), l[t] ≠ x) ∧ Below w.heap.size w w'
structure PinV where
 name : ByteArray
 ver : Int
 len : Int
 hs : List Key2
structure SnapV where
 ver : Int
 exp : Int
 pins : List PinV
def pinZ : PinV := ⟨⟨#[]⟩, 0, 0, []⟩
def json : List UInt8 := [46, 106, 115, 111, 110]
def roleOf (f : ByteArray) : Option (List UInt8) := if Lib.hasSuffix f.data.toList json && roleOk (Lib.trimSuffix f.data.toList json) then some (Lib.trimSuffix f.data.toList json) else none
def roleStr (f : ByteArray) : ByteArray := match roleOf f with | some r => ⟨r.toArray⟩ | none => ⟨#[]⟩
def hashOk (h : Key2) : Bool := roleOk h.1.data.toList && pubOk h.2.data.toList
def mayHashes (l : List Key2) : Bool := decide (1 ≤ l.length ∧ l.length ≤ 4) && l.all hashOk && rises (l.map (·.1))
def mayPin (p : PinV) : Bool := (roleOf p.name).isSome && decide (1 ≤ p.ver ∧ p.ver ≤ 1099511627776) && decide (-1 ≤ p.len ∧ p.len ≤ 1099511627776) && (decide (p.hs.length = 0) || mayHashes p.hs)
def maySnap (s : SnapV) : Bool := decide (1 ≤ s.ver ∧ s.ver ≤ 1099511627776) && decide (0 ≤ s.exp ∧ s.exp ≤ 253402300799) && decide (s.pins.length ≤ 256) && s.pins.all mayPin && rises (s.pins.map (·.name))
def pinOf (l : List PinV) (role : ByteArray) : Option PinV := if roleOk role.data.toList then l.find? (fun p => decide (p.name.data.toList = role.data.toList ++ json)) else none
theorem bytes_ext {a b : ByteArray} (h : a.data.toList = b.data.toList) : a = b := by
 obtain ⟨⟨a⟩⟩ := a
 obtain ⟨⟨b⟩⟩ := b
 simp at h; simp [h]
theorem trim_app (r : List UInt8) : Lib.hasSuffix (r ++ json) json = true ∧ Lib.trimSuffix (r ++ json) json = r := by
 have h : Lib.hasSuffix (r ++ json) json = true := by unfold Lib.hasSuffix; exact List.isSuffixOf_iff_suffix.2 (List.suffix_append _ _)
 refine ⟨h, ?_⟩
 unfold Lib.trimSuffix
 rw [if_pos h]
 simp
theorem role_name {f : ByteArray} {r : List UInt8} (h : roleOf f = some r) : roleOk r = true ∧ f.data.toList = r ++ json := by
 unfold roleOf at h
 split at h
 · rename_i hc
   simp only [Bool.and_eq_true] at hc
   simp only [Option.some.injEq] at h
   obtain ⟨hs, hr⟩ := hc
   unfold Lib.hasSuffix at hs
   obtain ⟨t, ht⟩ := List.isSuffixOf_iff_suffix.1 hs
   rw [← ht] at h hr
   rw [(trim_app t).2] at h hr
   exact ⟨h ▸ hr, by rw [← ht, h]⟩
 · cases h
theorem rises_lts (l : List ByteArray) (h : rises l = true) : ∀ i j (hi : i < l.length) (hj : j < l.length), i < j → Op.bytesLess l[i].toList l[j].toList = true := by
 have step : ∀ k (h1 : 1 ≤ k) (hk : k < l.length), Op.bytesLess l[k-1].toList l[k].toList = true := by
   intro k h1 hk
   cases hb : Op.bytesLess l[k-1].toList l[k].toList with
   | true => rfl
   | false => rw [rises_bad l k h1 hk hb] at h; cases h
 intro i j
 induction j with
 | zero => intro _ _ hlt; omega
 | succ j ih =>
   intro hi hj hlt
   have hs := step (j + 1) (by omega) hj
   simp only [Nat.add_sub_cancel] at hs
   by_cases e : i = j
   · subst e; exact hs
   · exact less_trans _ _ _ (ih hi (by omega) (by omega)) hs
end Go.Proofs.YtgghgcilpfdbjaaGreatDoor

namespace Go.Proofs.YtgghgcilpfdbjaaGreatDoor
open Go.ChangeShapes Go.WideShapes Go.ChangeAt Go.RowKit Go.Joins Go.Deep
def PinAt (w : World) (lo hi b o : Nat) (p : PinV) : Prop :=
 w.cell? ⟨b, o, none⟩ = some (.string p.name) ∧ w.cell? ⟨b, o + 1, none⟩ = some (.int .i64 p.ver) ∧ w.cell? ⟨b, o + 2, none⟩ = some (.int .i64 p.len) ∧ ∃ ha hc, w.cell? ⟨b, o + 3, none⟩ = some (.slice ha p.hs.length hc) ∧ p.hs.length ≤ hc ∧ KeysAt w lo hi ha p.hs
def PinsAt (w : World) (lo hi : Nat) (a : Option Addr) (l : List PinV) : Prop :=
 l = [] ∨ ∃ b off, a = some ⟨b, off, none⟩ ∧ lo ≤ b ∧ b < hi ∧ ∀ i (h : i < l.length), PinAt w lo hi b (off + i * 4) l[i]
theorem PinAt.carry {w w' : World} {lo hi lo' hi' b o : Nat} {p : PinV} (h : PinAt w lo hi b o p) (h1 : lo' ≤ lo) (h2 : hi ≤ hi') (hb : lo ≤ b) (hb' : b < hi) (hs : ∀ b, lo ≤ b → b < hi → w'.heap[b]? = w.heap[b]?) : PinAt w' lo' hi' b o p := by
 have e : ∀ o, w'.cell? ⟨b, o, none⟩ = w.cell? ⟨b, o, none⟩ := fun o => World.cell?_of_block (w := w) (w' := w') (hs b hb hb')
 obtain ⟨c0, c1, c2, ha, hc, c3, hl, hk⟩ := h
 exact ⟨by rw [e]; exact c0, by rw [e]; exact c1, by rw [e]; exact c2, ha, hc, by rw [e]; exact c3, hl, hk.carry h1 h2 hs⟩
theorem PinsAt.at {w : World} {lo hi : Nat} {a : Option Addr} {l : List PinV} (h : PinsAt w lo hi a l) (i : Nat) (hi' : i < l.length) :
   ∃ b off, a = some ⟨b, off, none⟩ ∧ lo ≤ b ∧ b < hi ∧ PinAt w lo hi b (off + i * 4) l[i] := by
 rcases h with h | ⟨b, off, ha, hb, hb', hr⟩
 · rw [h] at hi'; simp at hi'
 · exact ⟨b, off, ha, hb, hb', hr i hi'⟩
theorem PinsAt.carry {w w' : World} {lo hi lo' hi' : Nat} {a : Option Addr} {l : List PinV} (h : PinsAt w lo hi a l) (h1 : lo' ≤ lo) (h2 : hi ≤ hi') (hs : ∀ b, lo ≤ b → b < hi → w'.heap[b]? = w.heap[b]?) : PinsAt w' lo' hi' a l := by
 rcases h with h | ⟨b, off, ha, hb, hb', hr⟩
 · exact .inl h
 · exact .inr ⟨b, off, ha, by omega, by omega, fun i hi => (hr i hi).carry h1 h2 hb hb' hs⟩
theorem PinsAt.below {w w' : World} {lo hi lo' hi' B : Nat} {a : Option Addr} {l : List PinV} (h : PinsAt w lo hi a l) (hb : Below B w w') (hB : hi ≤ B) (h1 : lo' ≤ lo) (h2 : hi ≤ hi') : PinsAt w' lo' hi' a l :=
 h.carry h1 h2 fun b _ hlt => hb.block b (by omega)
section
variable {H : Type} {enc : TypeId × Value → H} {P : Program} {w : World} {spare : Nat → Bool} {held : Bool}
def in64 (n : Int) : Prop := -9223372036854775808 ≤ n ∧ n ≤ 9223372036854775807
def PinFits (p : PinV) : Prop := in64 p.ver ∧ in64 p.len ∧ p.name.size ≤ maxLen ∧ p.hs.length ≤ maxLen ∧ ∀ k ∈ p.hs, k.1.size ≤ maxLen ∧ k.2.size ≤ maxLen
end
end Go.Proofs.YtgghgcilpfdbjaaGreatDoor

namespace Go.Proofs.YtgghgcilpfdbjaaGreatDoor
open Go.ChangeShapes Go.WideShapes Go.ChangeAt Go.RowKit Go.Joins Go.ChangeMaps
theorem own : ownKnob Tryz.prog.godebug = none := by kernel_rfl
theorem gPow : Tryz.prog.globalNamed "internal/strconv.uint64pow10" = some 2 := by kernel_rfl
theorem gBef : Tryz.prog.globalNamed "legate/when.before" = some 0 := by kernel_rfl
theorem gPowT : (Tryz.prog.globals[2]?).map (·.type) = some 207 := by kernel_rfl
theorem gBefT : (Tryz.prog.globals[0]?).map (·.type) = some 143 := by kernel_rfl
theorem cellsPow : Tryz.prog.cellsOf 207 = 20 := by kernel_rfl
theorem cellsBef : Tryz.prog.cellsOf 143 = 13 := by kernel_rfl
theorem cells64 : Tryz.prog.cellsOf 158 = 1 := by kernel_rfl
theorem cellsInt : Tryz.prog.cellsOf 3 = 1 := by kernel_rfl
def befZs : List Int := [0, 31, 59, 90, 120, 151, 181, 212, 243, 273, 304, 334, 365]
abbrev laidAll : List (String × DataW Unit) := [("math/bits.deBruijn32tab", Rows.laid_math_bits_deBruijn32tab), ("math/bits.deBruijn64tab", Rows.laid_math_bits_deBruijn64tab), ("internal/strconv.uint64pow10", Rows.laid_internal_strconv_uint64pow10), ("legate/when.before", Rows.laid_legate_when_before)]
theorem laid_drop {P : Program} {W : World} {x : String × DataW Unit} {r : List (String × DataW Unit)} (h : laidMet P (x :: r) W) : laidMet P r W := by
 obtain ⟨ps, ⟨g, t, cs, fuel, p, q, h1, h2, h3, h4, h5, rfl⟩, hn, ha⟩ := h
 exact ⟨q, h5, (List.nodup_append.1 hn).2.1, fun b off hp => ha b off (List.mem_append.2 (.inr hp))⟩
theorem pow_of {W : World} (h : laidMet Tryz.prog laidAll W) : Pow10 W :=
 Lib.tabIs_of_head gPow gPowT Tryz.underlying207 Tryz.underlying158 cells64 cellsPow (laid_drop (laid_drop h))
theorem tabw_of {W : World} (h : laidMet Tryz.prog laidAll W) : TabW W := by
 have h1 : Lib.TabIs Tryz.prog W "legate/when.before" .i64 befZs := Lib.tabIs_of_head gBef gBefT Tryz.underlying143 Tryz.underlying3 cellsInt cellsBef (laid_drop (laid_drop (laid_drop h)))
 have c1 : ∀ i, i < 13 → W.cell? ⟨0, i, none⟩ = some (.int .i64 (beforeN i)) := fun i hi => by
   rw [h1.cell gBef i hi]
   have : ∀ m : Fin 13, befZs.getD m.val 0 = beforeN m.val := by decide
   rw [this ⟨i, hi⟩]
 exact ⟨c1, World.block_lt_of_cell? W _ (c1 0 (by decide))⟩
def tabCells : DataW Unit → Array Value
 | .agg l => (l.map fun
   | .lit (.int k n) => Value.int k n
   | _ => undef).toArray
 | _ => #[]
def lay (g : Nat) (d : DataW Unit) (h : Array Obj) : Array Obj := h.modify g fun
 | .cells _ t frozen => .cells (tabCells d) t frozen
 | o => o
noncomputable def laidWorld (os : Os) : World :=
 { World.holding Tryz.prog os ⟨#[], #[], []⟩ with heap := lay 0 Rows.laid_legate_when_before (lay 2 Rows.laid_internal_strconv_uint64pow10 (lay 4 Rows.laid_math_bits_deBruijn64tab (lay 3 Rows.laid_math_bits_deBruijn32tab (World.holding Tryz.prog os ⟨#[], #[], []⟩).heap))) }
theorem post_below {H : Type} {enc : TypeId × Value → H} {P : Program} {f : Func} {s : ChangeSpec} {a1 a2 a3 a4 : Bool} {W W' : World} {args : Array Value} {v : Value} {ds gs : List (DataW H)} {before pa pv : List MemPlace}
   (hW : DataW.Whole enc P f.params.toList s.vars a1 W args.toList ds gs before)
   (hr : ∀ (b : Nat) (sp : Nat → Bool) (hd : Bool), DataW.TrodAll enc P W' b sp hd f.resultTypes.toList (v.resultList f.resultTypes.size) (s.fn H (ds ++ gs)).results [])
   (ha : ∀ sp : Nat → Bool, (∀ p ∈ before, sp p.block = true) → DataW.TrodAll enc P W' 0 sp true f.params.toList args.toList (s.fn H (ds ++ gs)).args pa)
   (hv : ∀ sp : Nat → Bool, (∀ p ∈ before, sp p.block = true) → DataW.TrodVars enc P W' sp s.vars (s.fn H (ds ++ gs)).vars pv)
   (he : before = pa ++ pv) (hb : Below W.heap.size W W')
   (hok : ∀ (j : Nat) (t : TypeId) (r : Value), f.resultTypes[j]? = some t → (v.resultList f.resultTypes.size)[j]? = some r → Value.okWide P W' .any 0 t r) :
   s.post enc P f a1 a2 a3 a4 W args v W' := by
 have hlt := hW.lt
 have hold : ∀ p ∈ before, (fun b => decide (b < W.heap.size)) p.block = true := fun p hp => decide_eq_true (hlt p hp)
 refine ⟨ds, gs, before, [], pa, pv, hW, hr _ _ _, ha _ hold, hv _ hold, World.keptBut_mono (fun p hp => ⟨hp, .inr ?_⟩) (hb.frame (· ∈ before)), fun _ => ?_⟩
 · rw [he] at hp; exact List.mem_append.1 hp
 obtain ⟨_, _, _, _, _, hz, hn⟩ := hW
 refine ⟨hok, _, _, ([] ++ pa) ++ pv, ⟨[] ++ pa, pv, trodAll_append (ha _ fun _ _ => rfl) (hr _ _ _), hv _ fun _ _ => rfl, rfl, fun b off hp => ?_, fun h1 => ?_⟩, fun p hp _ => ?_⟩
 · have hin : MemPlace.cell b off ∈ before := by rw [he]; exact hp
   rw [hb.frozen (hlt _ hin)]; exact hz b off hin
 · have := hn h1; rwa [he] at this
 · rw [he]; exact hp
section
variable {H : Type} {enc : TypeId × Value → H} {W : World} {base : Nat}
end
end Go.Proofs.YtgghgcilpfdbjaaGreatDoor

namespace Go.Proofs.YtgghgcilpfdbjaaGreatDoor
open Go.RowKit
set_option maxHeartbeats 400000 in
theorem findLess (l : List ByteArray) (x : ByteArray) (a : Option Addr) (n c i p1 p2 : Nat) (lo hi : Nat) (w : World) (hS : StrsAt w lo hi a l) (hi' : i < l.length) (hn : l.length = n) (_hb : n ≤ 4294967296)
   (c1 : w.cell? ⟨p1, 0, none⟩ = some (.slice a n c)) (c2 : w.cell? ⟨p2, 0, none⟩ = some (.string x)) :
   Calls Tryz.prog 163 #[.int .i64 i, .pointer (some ⟨p1, 0, none⟩), .pointer (some ⟨p2, 0, none⟩)] w fun e w' => e = .returned (.bool (!bl l[i] x)) ∧ ∃ m, w' = w.drewN m := by
 obtain ⟨b, off, rfl, _, _, c3⟩ := hS.at i hi'
 have j0 : (0 : Int) ≤ (i : Int) := by omega
 have j1 : (i : Int) < (n : Int) := by omega
 have HB := Lib.hid (show bl l[i] x = Op.bytesLess l[i].toList x.toList from rfl)
 generalize l[i] = y at *
 clear hS hn hi'
 go_enter Tryz.func163, Tryz.ntmps163
 go_wp2_with fail
 go_quiet (fail)
 go_wp2
 go_ret
 exact ⟨by rw [HB.out]; rfl, _, rfl⟩
set_option maxHeartbeats 400000 in
theorem sortSearch (l : List ByteArray) (x : ByteArray) (a : Option Addr) (n c p1 p2 : Nat) (lo hi : Nat) (w : World) (hS : StrsAt w lo hi a l) (hn : l.length = n) (hb : n ≤ 4294967296) (hr : rises l = true)
   (c1 : w.cell? ⟨p1, 0, none⟩ = some (.slice a n c)) (c2 : w.cell? ⟨p2, 0, none⟩ = some (.string x)) :
   Calls Tryz.prog 162 #[.int .i64 n, .func (.func 163) #[] #[.pointer (some ⟨p1, 0, none⟩), .pointer (some ⟨p2, 0, none⟩)]] w fun e w' => (∃ r : Nat, e = .returned (.int .i64 r) ∧ r ≤ l.length ∧ (∀ t (h : t < l.length), t < r → bl l[t] x = true) ∧ (∀ t (h : t < l.length), r ≤ t → bl l[t] x = false)) ∧ ∃ m, w' = w.drewN m := by
 have HS := Lib.hid hS; clear hS
 have HR := Lib.hid hr; clear hr
 have HN := Lib.hid hn; clear hn
 have HC1 := Lib.hid c1; clear c1
 have HC2 := Lib.hid c2; clear c2
 go_enter Tryz.func162, Tryz.ntmps162
 go_wp2
 go_loopw [5, 6, 7] (fun vi vj _ wr => ∃ (i j m : Nat), i ≤ j ∧ j ≤ n ∧ vi = .int .i64 i ∧ vj = .int .i64 j ∧ (∀ t (h : t < l.length), t < i → bl l[t] x = true) ∧ (∀ t (h : t < l.length), j ≤ t → bl l[t] x = false) ∧ wr = w.drewN m) (fun vi vj _ _ => (intOf vj - intOf vi).toNat)
 case atStart => exact ⟨0, n, 0, by omega, by omega, rfl, rfl, fun t _ h => by omega, fun t h h' => by have := HN.out; omega, rfl⟩
 case round =>
   obtain ⟨i, j, m, hij, hjn, rfl, rfl, h1, h2, rfl⟩ := hrel
   have H1 := Lib.hid h1
   have H2 := Lib.hid h2
   clear h1 h2
   by_cases hlt : i < j
   · obtain ⟨h, hh⟩ : ∃ h : Nat, ((i : Int) + (j : Int)) / 2 = (h : Int) := ⟨(i + j) / 2, by omega⟩
     have hh1 : i ≤ h := by omega
     have hh2 : h < j := by omega
     have hl : h < l.length := by have := HN.out; omega
     have HH := Lib.hid hh; clear hh
     have HL := Lib.hid hl; clear hl
     cases hb2 : bl (l[h]'HL.out) x
     · have HX := Lib.hid hb2; clear hb2
       go_wp2_with fail
       rw [HH.out]
       refine (findLess l x a n c h p1 p2 lo hi (w.drewN m) (show StrsAt (w.drewN m) lo hi a l from HS.out) HL.out HN.out hb HC1.out HC2.out).mono ?_
       rintro e w1 ⟨rfl, m2, rfl⟩
       rw [HX.out]
       go_wp2
       go_roundw
       case rel =>
         refine ⟨i, h, m + m2, by omega, by omega, rfl, by first | rfl | (rw [HH.out]), H1.out, fun t ht hle => ?_, by first | rfl | (rw [World.drewN_drewN])⟩
         by_cases e : t = h
         · subst e; exact HX.out
         · have h3 := rises_lt HR.out h t HL.out ht (by omega)
           cases h4 : bl l[t] x
           · rfl
           · have := bl_trans h3 h4; rw [HX.out] at this; cases this
       case measure => simp [intOf]; have := HH.out; omega
     · have HX := Lib.hid hb2; clear hb2
       go_wp2_with fail
       rw [HH.out]
       refine (findLess l x a n c h p1 p2 lo hi (w.drewN m) (show StrsAt (w.drewN m) lo hi a l from HS.out) HL.out HN.out hb HC1.out HC2.out).mono ?_
       rintro e w1 ⟨rfl, m2, rfl⟩
       rw [HX.out]
       go_wp2
       go_roundw
       case rel =>
         refine ⟨h + 1, j, m + m2, by omega, by omega, by first | go_num | (rw [HH.out]; go_num), rfl, fun t ht hle => ?_, H2.out, by first | rfl | (rw [World.drewN_drewN])⟩
         by_cases e : t = h
         · subst e; exact HX.out
         · exact bl_trans (rises_lt HR.out t h ht HL.out (by omega)) HX.out
       case measure => simp [intOf]; have := HH.out; omega
   · obtain rfl : i = j := by omega
     go_wp2
     go_ret
     exact ⟨⟨i, rfl, by have := HN.out; omega, H1.out, H2.out⟩, _, rfl⟩
set_option maxRecDepth 100000 in
set_option maxHeartbeats 400000 in
theorem valueFind (l : List ByteArray) (x : ByteArray) (a : Option Addr) (c : Nat) (w : World) (hS : StrsAt w 0 w.heap.size a l) (hb : l.length ≤ 4294967296) (hr : rises l = true) :
   Calls Tryz.prog 134 #[.slice a l.length c, .string x] w (FindPost l x w) := by
 have HS := Lib.hid hS; clear hS
 have HR := Lib.hid hr; clear hr
 obtain ⟨n, hn⟩ : ∃ n, l.length = n := ⟨_, rfl⟩
 rw [hn]
 have hb' : n ≤ 4294967296 := by omega
 have HN := Lib.hid hn; clear hn
 go_enter Tryz.func134, Tryz.ntmps134
 go_wp2_with fail
 have HB0 := Lib.hid (show Below w.heap.size w ((w.alloc (.cells #[.slice a n c] 27)).alloc (.cells #[.string x] 9)) from ((Below.refl _ _).alloc (Nat.le_refl _) _).alloc (by simp) _)
 have hasc := valueAscending l a c ((w.alloc (.cells #[.slice a n c] 27)).alloc (.cells #[.string x] 9)) (HS.out.below HB0.out (Nat.le_refl _) (Nat.le_refl _) HB0.out.size) hb
 rw [HN.out, HR.out] at hasc
 refine hasc.mono ?_
 clear hasc
 rintro e w1 ⟨rfl, hb1⟩
 have hz1 : w.heap.size + 2 ≤ w1.heap.size := by have := hb1.size; simp at this; omega
 have c1 : w1.cell? ⟨w.heap.size, 0, none⟩ = some (.slice a n c) := by rw [hb1.cell (by simp; omega)]; go_simp
 have c2 : w1.cell? ⟨w.heap.size + 1, 0, none⟩ = some (.string x) := by rw [hb1.cell (by simp)]; go_simp
 have HB1 : Hid (Below w.heap.size w w1) := HB0.out.trans (hb1.mono (by simp; omega))
 clear hb1 HB0
 go_wp2_with fail
 refine (sortSearch l x a n c w.heap.size (w.heap.size + 1) 0 w.heap.size w1 (HS.out.below HB1.out (Nat.le_refl _) (Nat.le_refl _) (Nat.le_refl _)) HN.out hb' HR.out c1 c2).mono ?_
 rintro e w2 ⟨⟨r, rfl, h1, h2, h3⟩, m, rfl⟩
 have H1 := Lib.hid h1
 have H2 := Lib.hid h2
 have H3 := Lib.hid h3
 have h1' : r ≤ n := by rw [← HN.out]; exact h1
 clear h1 h2 h3
 replace c1 : (w1.drewN m).cell? ⟨w.heap.size, 0, none⟩ = some (.slice a n c) := c1
 replace c2 : (w1.drewN m).cell? ⟨w.heap.size + 1, 0, none⟩ = some (.string x) := c2
 have HB2 := Lib.hid (Below.drewN HB1.out m)
 clear HB1
 generalize w1.drewN m = w3 at *
 clear hz1
 by_cases hlt : r < n
 · have hlt' : r < l.length := by rw [HN.out]; exact hlt
   obtain ⟨b, off, rfl, _, _, c3⟩ := (HS.out.below HB2.out (Nat.le_refl _) (Nat.le_refl _) (Nat.le_refl _)).at r hlt'
   have HY := Lib.hid (show ∃ y, y = l[r] from ⟨_, rfl⟩)
   have HNO := Lib.hid (show ¬ l[r] = x → ∀ t (h : t < l.length), l[t] ≠ x by
     intro hne t ht e
     by_cases e1 : t < r
     · have := H2.out t ht e1; rw [e, bl_irrefl] at this; cases this
     · by_cases e2 : t = r
       · subst e2; exact hne e
       · have h4 := rises_lt HR.out r t hlt' ht (by omega)
         have h5 := H3.out r hlt' (Nat.le_refl _)
         rw [e] at h4; rw [h4] at h5; cases h5)
   have j0 : (0 : Int) ≤ (r : Int) := by omega
   have j1 : (r : Int) < (n : Int) := by omega
   have HEX := Lib.hid (show l[r] = x → ∃ h : r < l.length, l[r] = x from fun e => ⟨hlt', e⟩)
   generalize l[r] = y at *
   clear HY
   go_wp2_with fail
   go_quiet (fail)
   go_wp2
   go_ret2
   refine ⟨r, (y.toList == x.toList), rfl, H1.out, H2.out, H3.out, fun e => HEX.out (ba_ext (by simpa using e)), fun e => HNO.out (fun e' => by rw [e'] at e; simp at e), Below.drewN HB2.out _⟩
 · have HNO := Lib.hid (show ∀ t (h : t < l.length), l[t] ≠ x by
     intro t ht e
     have := H2.out t ht (by have := HN.out; omega)
     rw [e, bl_irrefl] at this; cases this)
   have hd : decide ((r : Int) < (n : Int)) = false := by simp; omega
   have hd2 : decide (r < n) = false := by simp; omega
   go_wp2_with fail
   go_quiet (fail)
   go_wp2
   go_ret2
   exact ⟨r, false, rfl, H1.out, H2.out, H3.out, (fun e => by cases e), fun _ => HNO.out, Below.drewN HB2.out _⟩
def roleErr (f : ByteArray) : Int := if (roleOf f).isSome then 0 else 3
def fileErr (r : ByteArray) : Int := if roleOk r.data.toList then 0 else 3
theorem json_lit : ({ data := #[46, 106, 115, 111, 110] } : ByteArray).data.toList = json := rfl
set_option maxHeartbeats 1000000 in
theorem nameRoleOf (f : ByteArray) (w : World) (hf : f.size ≤ 9223372036854775807) :
   Calls Tryz.prog 40 #[.string f] w fun e w' => e = .returned (.tuple #[.string (roleStr f), .int .i64 (roleErr f)]) ∧ w' = w := by
 have HC := Lib.hid (Tryz.strings_CutSuffix f { data := #[46, 106, 115, 111, 110] } w hf)
 rw [json_lit] at HC
 obtain ⟨r, hr⟩ : ∃ r, r = Lib.trimSuffix f.data.toList json := ⟨_, rfl⟩
 have hrs : (⟨r.toArray⟩ : ByteArray).size ≤ 9223372036854775807 := by
   show r.toArray.size ≤ _
   have h1 : r.length ≤ f.data.toList.length := by rw [hr]; unfold Lib.trimSuffix; split
                                                   · rw [List.length_take]; omega
                                                   · exact Nat.le_refl _
   have h2 : f.data.toList.length = f.size := by rw [Array.length_toList]; rfl
   simp only [List.size_toArray]; omega
 have HN := Lib.hid (nameRole ⟨r.toArray⟩ w hrs)
 have hx : roleOf f = if Lib.hasSuffix f.data.toList json && roleOk r then some r else none := by rw [hr]; rfl
 rw [← hr] at HC
 have HX := Lib.hid hx
 have HS := Lib.hid (And.intro (show roleStr f = match roleOf f with | some r => ⟨r.toArray⟩ | none => ⟨#[]⟩ from rfl) (show roleErr f = if (roleOf f).isSome then 0 else 3 from rfl))
 clear hx hr hrs
 cases hs : Lib.hasSuffix f.data.toList json
 · rw [hs] at HC HX
   have HX' := Lib.hid (show roleOf f = none from HX.out)
   rw [HX'.out] at HS
   clear hs
   go_enter Tryz.func40, Tryz.ntmps40
   go_wp2_with fail
   refine HC.out.mono ?_
   rintro e w' ⟨rfl, rfl⟩
   go_wp2
   go_ret2
   exact ⟨by rw [HS.out.1, HS.out.2]; rfl, rfl⟩
 · rw [hs] at HC HX
   clear hs
   cases hh : roleOk r
   · rw [hh] at HX
     have hh2 : roleOk (⟨r.toArray⟩ : ByteArray).data.toList = false := hh
     rw [hh2] at HN
     have HX' := Lib.hid (show roleOf f = none from HX.out)
     rw [HX'.out] at HS
     clear hh hh2
     go_enter Tryz.func40, Tryz.ntmps40
     go_wp2_with fail
     refine HC.out.mono ?_
     rintro e w' ⟨rfl, rfl⟩
     go_wp2_with fail
     refine HN.out.mono ?_
     rintro e w' ⟨rfl, rfl⟩
     go_wp2
     go_ret2
     exact ⟨by rw [HS.out.1, HS.out.2]; rfl, rfl⟩
   · rw [hh] at HX
     have hh2 : roleOk (⟨r.toArray⟩ : ByteArray).data.toList = true := hh
     rw [hh2] at HN
     have HX' := Lib.hid (show roleOf f = some r from HX.out)
     rw [HX'.out] at HS
     clear hh hh2
     go_enter Tryz.func40, Tryz.ntmps40
     go_wp2_with fail
     refine HC.out.mono ?_
     rintro e w' ⟨rfl, rfl⟩
     go_wp2_with fail
     refine HN.out.mono ?_
     rintro e w' ⟨rfl, rfl⟩
     go_wp2
     go_ret2
     exact ⟨by rw [HS.out.1, HS.out.2]; rfl, rfl⟩
def fileStr (r : ByteArray) : ByteArray := if roleOk r.data.toList then r ++ { data := #[46, 106, 115, 111, 110] } else { data := #[] }
set_option maxHeartbeats 1000000 in
theorem nameFile (r : ByteArray) (w : World) (hr : r.size ≤ 1000000) :
   Calls Tryz.prog 51 #[.string r] w fun e w' => e = .returned (.tuple #[.string (fileStr r), .int .i64 (fileErr r)]) ∧ w' = w := by
 have HN := Lib.hid (nameRole r w (by omega))
 have HF := Lib.hid (And.intro (show fileStr r = if roleOk r.data.toList then r ++ { data := #[46, 106, 115, 111, 110] } else { data := #[] } from rfl) (show fileErr r = if roleOk r.data.toList then 0 else 3 from rfl))
 cases hh : roleOk r.data.toList
 · rw [hh] at HN HF
   clear hh
   go_enter Tryz.func51, Tryz.ntmps51
   go_wp2_with fail
   refine HN.out.mono ?_
   rintro e w' ⟨rfl, rfl⟩
   go_wp2
   go_ret2
   exact ⟨by rw [HF.out.1, HF.out.2]; rfl, rfl⟩
 · rw [hh] at HN HF
   clear hh
   go_enter Tryz.func51, Tryz.ntmps51
   go_wp2_with fail
   refine HN.out.mono ?_
   rintro e w' ⟨rfl, rfl⟩
   go_wp2
   go_ret2
   exact ⟨by rw [HF.out.1, HF.out.2]; rfl, rfl⟩
theorem mayH_take (l : List Key2) (k : Nat) (hk : k < l.length) (h : hashOk l[k] = false) : mayHashes l = false := by
 unfold mayHashes
 have : l.all hashOk = false := by
   rw [Bool.eq_false_iff]
   intro ha
   rw [List.all_eq_true.1 ha _ (List.getElem_mem hk)] at h; cases h
 rw [this]; simp
theorem mayH_less (l : List Key2) (k : Nat) (h1 : 1 ≤ k) (hk : k < l.length) (h : Op.bytesLess l[k-1].1.toList l[k].1.toList = false) : mayHashes l = false := by
 unfold mayHashes
 have : rises (l.map (·.1)) = false := rises_bad _ k h1 (by simpa using hk) (by simpa using h)
 rw [this]; simp
theorem mayH_all (l : List Key2) (h1 : 1 ≤ l.length) (h4 : l.length ≤ 4) (ha : ∀ k (hk : k < l.length), hashOk l[k] = true) (hr : ∀ k (_ : 1 ≤ k) (hk : k < l.length), Op.bytesLess l[k-1].1.toList l[k].1.toList = true) : mayHashes l = true := by
 unfold mayHashes
 have a1 : l.all hashOk = true := List.all_eq_true.2 fun x hx => by obtain ⟨i, hi, rfl⟩ := List.getElem_of_mem hx; exact ha i hi
 have a2 : rises (l.map (·.1)) = true := by
   match l, h4, hr with
   | [], _, _ => rfl
   | [_], _, _ => rfl
   | [a, b], _, hr => have := hr 1 (by omega) (by simp); simp only [List.map, rises]; simpa using this
   | [a, b, c], _, hr => have x1 := hr 1 (by omega) (by simp); have x2 := hr 2 (by omega) (by simp); simp only [List.map, rises]; simp at x1 x2; simp [x1, x2]
   | [a, b, c, d], _, hr => have x1 := hr 1 (by omega) (by simp); have x2 := hr 2 (by omega) (by simp); have x3 := hr 3 (by omega) (by simp); simp only [List.map, rises]; simp at x1 x2 x3; simp [x1, x2, x3]
   | _ :: _ :: _ :: _ :: _ :: _, h, _ => simp at h
 rw [a1, a2]; simp [h1, h4]
set_option maxHeartbeats 2000000 in
set_option maxRecDepth 100000 in
theorem recMayHashes (l : List Key2) (a : Option Addr) (c : Nat) (w : World) (hK : KeysAt w 0 w.heap.size a l) (hl : l.length ≤ 9223372036854775807) (hz : ∀ k ∈ l, k.1.size ≤ 9223372036854775807 ∧ k.2.size ≤ 9223372036854775807) :
   Calls Tryz.prog 76 #[.slice a l.length c] w fun e w' => e = .returned (.bool (mayHashes l)) ∧ Below w.heap.size w w' := by
 have HK := Lib.hid hK
 have HZ := Lib.hid hz
 clear hK hz
 by_cases h1 : l.length < 1
 · have HX := Lib.hid (show mayHashes l = false by unfold mayHashes; rw [decide_eq_false (by omega)]; rfl)
   have q1 : decide ((l.length : Int) < 1) = true := by simp; omega
   go_enter Tryz.func76, Tryz.ntmps76
   go_wp2
   go_ret
   exact ⟨ret_bool HX.out.symm, Below.refl _ _⟩
 have q1 : decide ((l.length : Int) < 1) = false := by simp; omega
 by_cases h4 : 4 < l.length
 · have HX := Lib.hid (show mayHashes l = false by unfold mayHashes; rw [decide_eq_false (by omega)]; rfl)
   have q2 : decide (4 < (l.length : Int)) = true := by simp; omega
   clear h1
   go_enter Tryz.func76, Tryz.ntmps76
   go_wp2
   go_ret
   exact ⟨ret_bool HX.out.symm, Below.refl _ _⟩
 have q2 : decide (4 < (l.length : Int)) = false := by simp; omega
 have HL := Lib.hid (show 1 ≤ l.length ∧ l.length ≤ 4 from ⟨by omega, by omega⟩)
 clear h1 h4
 go_enter Tryz.func76, Tryz.ntmps76
 go_wp2
 go_loopw [3, 4, 15] (fun _ _ i wr => ∃ k : Nat, k ≤ l.length ∧ i = .int .i64 k ∧ (∀ j (h : j < l.length), j < k → hashOk l[j] = true) ∧ (∀ j (_ : 1 ≤ j) (h : j < l.length), j < k → Op.bytesLess l[j-1].1.toList l[j].1.toList = true) ∧ Below w.heap.size w wr) (fun _ _ i _ => l.length - (intOf i).toNat)
 case atStart => exact ⟨0, by omega, rfl, fun j _ h => by omega, fun j _ _ h => by omega, Below.refl _ _⟩
 case round =>
   obtain ⟨k, hk, rfl, hal, hri, hb⟩ := hrel
   have HAL := Lib.hid hal
   have HRI := Lib.hid hri
   have HB := Lib.hid hb
   clear hal hri
   by_cases hlt : k < l.length
   · obtain ⟨b, off, ha, _, hbl, e0, e1⟩ := (HK.out.below hb (Nat.le_refl _) (Nat.le_refl _) hb.size).at k hlt
     subst ha
     have hzz := HZ.out l[k] (List.getElem_mem hlt)
     obtain ⟨s0, hs0⟩ : ∃ s0, s0 = l[k].1 := ⟨_, rfl⟩
     obtain ⟨s1, hs1⟩ : ∃ s1, s1 = l[k].2 := ⟨_, rfl⟩
     rw [← hs0] at e0 hzz
     rw [← hs1] at e1 hzz
     have HS := Lib.hid (And.intro hs0 hs1)
     have HHO := Lib.hid (show hashOk l[k] = (roleOk s0.data.toList && pubOk s1.data.toList) by unfold hashOk; rw [hs0, hs1])
     have hprev : k = 0 ∨ (1 ≤ k ∧ wr.cell? ⟨b, off + (k - 1) * 2, none⟩ = some (.string l[k-1].1)) := by
       by_cases h0 : k = 0
       · exact .inl h0
       · obtain ⟨b', off', ha', _, _, x0, _⟩ := (HK.out.below hb (Nat.le_refl _) (Nat.le_refl _) hb.size).at (k - 1) (by omega)
         cases ha'
         exact .inr ⟨by omega, x0⟩
     have HPV := Lib.hid hprev
     clear hs0 hs1 hb hprev
     have HRO := Lib.hid (nameRole s0 (wr.alloc (.cells #[.string s0, .string s1] 62)) (by omega))
     cases hr : roleOk s0.data.toList
     · have HX := Lib.hid (mayH_take l k hlt (by rw [HHO.out, hr]; rfl))
       rw [hr] at HRO
       clear hr
       go_wp2_with fail
       refine HRO.out.mono ?_
       rintro e w' ⟨rfl, h'⟩
       subst h'
       go_wp2
       go_ret
       exact ⟨ret_bool HX.out.symm, HB.out.alloc HB.out.size _⟩
     · rw [hr] at HRO HHO
       clear hr
       have HDG := Lib.hid (recDigits s1 (wr.alloc (.cells #[.string s0, .string s1] 62)) (by omega))
       go_wp2_with fail
       refine HRO.out.mono ?_
       rintro e w' ⟨rfl, h'⟩
       subst h'
       go_wp2_with fail
       refine HDG.out.mono ?_
       rintro e w' ⟨rfl, h'⟩
       subst h'
       cases hp : pubOk s1.data.toList
       · have HX := Lib.hid (mayH_take l k hlt (by rw [HHO.out, hp]; rfl))
         clear hp
         go_wp2
         go_ret
         exact ⟨ret_bool HX.out.symm, HB.out.alloc HB.out.size _⟩
       · have HOK := Lib.hid (show hashOk l[k] = true by rw [HHO.out, hp]; rfl)
         clear hp
         obtain ⟨W2, hW2⟩ : ∃ W2, W2 = wr.alloc (.cells #[.string s0, .string s1] 62) := ⟨_, rfl⟩
         have HB2 := Lib.hid (show Below w.heap.size w W2 by rw [hW2]; exact HB.out.alloc HB.out.size _)
         have v0 : W2.cell? ⟨wr.heap.size, 0, none⟩ = some (.string s0) := by rw [hW2]; exact box_cell (heap_alloc_new wr _) rfl
         have HAW := Lib.hid (show ∀ o, W2.cell? ⟨b, o, none⟩ = wr.cell? ⟨b, o, none⟩ from fun o => by rw [hW2]; exact ((Below.refl wr.heap.size wr).alloc (Nat.le_refl _) _).cell hbl)
         have HW2 := Lib.hid hW2
         clear hW2
         rcases HPV.out with h0 | ⟨h0, hc⟩
         · subst h0
           clear e0 e1
           go_upto_region 8 with fail
           rw [← HW2.out]
           go_quiet (fail)
           go_wp2
           go_roundw
           case rel =>
             refine ⟨1, by omega, by go_num, fun j hj hjk => ?_, fun j h1 hj hjk => by omega, Below.drewN HB2.out _⟩
             obtain rfl : j = 0 := by omega
             exact HOK.out
           case measure => simp [intOf]; omega
         · have hc2 := (HAW.out _).trans hc
           obtain ⟨pv, hpv⟩ : ∃ pv, pv = l[k-1].1 := ⟨_, rfl⟩
           rw [← hpv] at hc2
           have HPP := Lib.hid hpv
           have q5 : 0 < k := by omega
           clear e0 e1 hc hpv
           cases hb : Op.bytesLess pv.toList s0.toList
           · have HX := Lib.hid (mayH_less l k h0 hlt (by rw [← HPP.out, ← HS.out.1]; exact hb))
             cases hb2 : Op.bytesLess s0.toList pv.toList
             · have hb3 : (s0.toList == pv.toList) = true := by simpa using less_tri _ _ hb2 hb
               clear hb
               go_upto_region 8 with fail
               rw [← HW2.out]
               go_quiet (fail)
               go_wp2
               go_ret
               exact ⟨ret_bool HX.out.symm, Below.drewN HB2.out _⟩
             · clear hb
               go_upto_region 8 with fail
               rw [← HW2.out]
               go_quiet (fail)
               go_wp2
               go_ret
               exact ⟨ret_bool HX.out.symm, Below.drewN HB2.out _⟩
           · have HLS := Lib.hid hb
             have hb2 : Op.bytesLess s0.toList pv.toList = false := by
               cases h : Op.bytesLess s0.toList pv.toList with
               | false => rfl
               | true => have := less_trans _ _ _ h hb; rw [less_irrefl] at this; cases this
             have hb3 : (s0.toList == pv.toList) = false := by
               cases h : (s0.toList == pv.toList) with
               | false => rfl
               | true => have h2 : s0.toList = pv.toList := by simpa using h
                         rw [h2, less_irrefl] at hb; cases hb
             clear hb
             go_upto_region 8 with fail
             rw [← HW2.out]
             go_quiet (fail)
             go_wp2
             go_roundw
             case rel =>
               refine ⟨k + 1, by omega, by go_num, fun j hj hjk => ?_, fun j h1 hj hjk => ?_, Below.drewN HB2.out _⟩
               · by_cases e : j = k
                 · subst e; exact HOK.out
                 · exact HAL.out j hj (by omega)
               · by_cases e : j = k
                 · subst e; rw [← HPP.out, ← HS.out.1]; exact HLS.out
                 · exact HRI.out j h1 hj (by omega)
             case measure => simp [intOf]; omega
   · have HX := Lib.hid (mayH_all l HL.out.1 HL.out.2 (fun j hj => HAL.out j hj (by omega)) (fun j h1 hj => HRI.out j h1 hj (by omega)))
     clear hb
     go_wp2
     go_ret
     exact ⟨ret_bool HX.out.symm, HB.out⟩
theorem recSameHashes0 (a b : Option Addr) (c d : Nat) (w : World) :
   Calls Tryz.prog 78 #[.slice a 0 c, .slice b 0 d] w fun e w' => e = .returned (.bool true) ∧ w' = w := by
 go_enter Tryz.func78, Tryz.ntmps78
 go_wp2
 go_loopw [5, 6, 14] (fun _ _ i wr => i = .int .i64 0 ∧ wr = w) (fun _ _ _ _ => 0)
 case atStart => exact ⟨rfl, rfl⟩
 case round =>
   obtain ⟨rfl, rfl⟩ := hrel
   go_wp2
   go_ret
   exact ⟨rfl, rfl⟩
def PinV.arg (p : PinV) (ha : Option Addr) (hc : Nat) : Value := .agg #[.string p.name, .int .i64 p.ver, .int .i64 p.len, .slice ha p.hs.length hc]
theorem mayPin_eq (p : PinV) : mayPin p = ((roleOf p.name).isSome && (decide (1 ≤ p.ver ∧ p.ver ≤ 1099511627776) && (decide (-1 ≤ p.len ∧ p.len ≤ 1099511627776) && (decide (p.hs.length = 0) || mayHashes p.hs)))) := by
 unfold mayPin; rw [Bool.and_assoc, Bool.and_assoc]
set_option maxHeartbeats 2000000 in
set_option maxRecDepth 100000 in
theorem snapMayPin (nm : ByteArray) (vr ln : Int) (hs : List Key2) (ha : Option Addr) (hc : Nat) (w : World) (hK : KeysAt w 0 w.heap.size ha hs) (hn : nm.size ≤ 9223372036854775807) (hl : hs.length ≤ 9223372036854775807) (hz : ∀ k ∈ hs, k.1.size ≤ 9223372036854775807 ∧ k.2.size ≤ 9223372036854775807) :
   Calls Tryz.prog 31 #[.agg #[.string nm, .int .i64 vr, .int .i64 ln, .slice ha hs.length hc]] w fun e w' => e = .returned (.bool (mayPin ⟨nm, vr, ln, hs⟩)) ∧ Below w.heap.size w w' := by
 obtain ⟨W2, hW2⟩ : ∃ W2, W2 = w.alloc (.cells #[.string nm, .int .i64 vr, .int .i64 ln, .slice ha hs.length hc] 36) := ⟨_, rfl⟩
 have hb2 : Below w.heap.size w W2 := by rw [hW2]; exact (Below.refl _ _).alloc (Nat.le_refl _) _
 have hx : W2.heap[w.heap.size]? = some (.cells #[.string nm, .int .i64 vr, .int .i64 ln, .slice ha hs.length hc] 36 (0, 0)) := by rw [hW2]; exact heap_alloc_new w _
 have v0 : W2.cell? ⟨w.heap.size, 0, none⟩ = some (.string nm) := box_cell hx rfl
 have v1 : W2.cell? ⟨w.heap.size, 1, none⟩ = some (.int .i64 vr) := box_cell hx rfl
 have v2 : W2.cell? ⟨w.heap.size, 2, none⟩ = some (.int .i64 ln) := box_cell hx rfl
 have v3 : W2.cell? ⟨w.heap.size, 3, none⟩ = some (.slice ha hs.length hc) := box_cell hx rfl
 have HE := Lib.hid (mayPin_eq ⟨nm, vr, ln, hs⟩)
 have HRN := Lib.hid (nameRoleOf nm W2 hn)
 have HMH := Lib.hid (recMayHashes hs ha hc W2 (hK.below hb2 (Nat.le_refl _) (Nat.le_refl _) hb2.size) hl hz)
 have HB := Lib.hid hb2
 have HW := Lib.hid hW2
 clear hW2 hb2 hx hK hz
 by_cases hr : roleErr nm = 0
 · have HS := Lib.hid (show (roleOf nm).isSome = true by unfold roleErr at hr; split at hr <;> first | assumption | omega)
   rw [hr] at HRN
   clear hr
   by_cases h1 : vr < 1
   · have HX := Lib.hid (show mayPin ⟨nm, vr, ln, hs⟩ = false by rw [HE.out]; show (_ && (decide (1 ≤ vr ∧ vr ≤ 1099511627776) && _)) = false; rw [decide_eq_false (show ¬ (1 ≤ vr ∧ vr ≤ 1099511627776) by omega)]; simp)
     have q1 : decide (vr < 1) = true := by simpa using h1
     clear h1
     go_enter Tryz.func31, Tryz.ntmps31
     go_upto_region 1 with fail
     rw [← HW.out]
     go_wp2_with fail
     refine HRN.out.mono ?_
     rintro e w' ⟨rfl, h'⟩
     subst h'
     go_wp2
     go_ret
     exact ⟨ret_bool HX.out.symm, HB.out⟩
   have q1 : decide (vr < 1) = false := by simpa using h1
   by_cases h2 : 1099511627776 < vr
   · have HX := Lib.hid (show mayPin ⟨nm, vr, ln, hs⟩ = false by rw [HE.out]; show (_ && (decide (1 ≤ vr ∧ vr ≤ 1099511627776) && _)) = false; rw [decide_eq_false (show ¬ (1 ≤ vr ∧ vr ≤ 1099511627776) by omega)]; simp)
     have q2 : decide (1099511627776 < vr) = true := by simpa using h2
     clear h1 h2
     go_enter Tryz.func31, Tryz.ntmps31
     go_upto_region 1 with fail
     rw [← HW.out]
     go_wp2_with fail
     refine HRN.out.mono ?_
     rintro e w' ⟨rfl, h'⟩
     subst h'
     go_wp2
     go_ret
     exact ⟨ret_bool HX.out.symm, HB.out⟩
   have q2 : decide (1099511627776 < vr) = false := by simpa using h2
   have HV := Lib.hid (show decide (1 ≤ vr ∧ vr ≤ 1099511627776) = true by simp; omega)
   clear h1 h2
   by_cases h1 : ln < -1
   · have HX := Lib.hid (show mayPin ⟨nm, vr, ln, hs⟩ = false by rw [HE.out]; show (_ && (_ && (decide (-1 ≤ ln ∧ ln ≤ 1099511627776) && _))) = false; rw [decide_eq_false (show ¬ (-1 ≤ ln ∧ ln ≤ 1099511627776) by omega)]; simp)
     have q3 : decide (ln < -1) = true := by simpa using h1
     clear h1
     go_enter Tryz.func31, Tryz.ntmps31
     go_upto_region 1 with fail
     rw [← HW.out]
     go_wp2_with fail
     refine HRN.out.mono ?_
     rintro e w' ⟨rfl, h'⟩
     subst h'
     go_wp2
     go_ret
     exact ⟨ret_bool HX.out.symm, HB.out⟩
   have q3 : decide (ln < -1) = false := by simpa using h1
   by_cases h2 : 1099511627776 < ln
   · have HX := Lib.hid (show mayPin ⟨nm, vr, ln, hs⟩ = false by rw [HE.out]; show (_ && (_ && (decide (-1 ≤ ln ∧ ln ≤ 1099511627776) && _))) = false; rw [decide_eq_false (show ¬ (-1 ≤ ln ∧ ln ≤ 1099511627776) by omega)]; simp)
     have q4 : decide (1099511627776 < ln) = true := by simpa using h2
     clear h1 h2
     go_enter Tryz.func31, Tryz.ntmps31
     go_upto_region 1 with fail
     rw [← HW.out]
     go_wp2_with fail
     refine HRN.out.mono ?_
     rintro e w' ⟨rfl, h'⟩
     subst h'
     go_wp2
     go_ret
     exact ⟨ret_bool HX.out.symm, HB.out⟩
   have q4 : decide (1099511627776 < ln) = false := by simpa using h2
   have HN := Lib.hid (show decide (-1 ≤ ln ∧ ln ≤ 1099511627776) = true by simp; omega)
   clear h1 h2
   have HX0 := Lib.hid (show mayPin ⟨nm, vr, ln, hs⟩ = (decide (hs.length = 0) || mayHashes hs) by
     rw [HE.out]; show ((roleOf nm).isSome && (decide (1 ≤ vr ∧ vr ≤ 1099511627776) && (decide (-1 ≤ ln ∧ ln ≤ 1099511627776) && (decide (hs.length = 0) || mayHashes hs)))) = _
     rw [HS.out, HV.out, HN.out]; simp)
   by_cases h0 : hs.length = 0
   · have HX := Lib.hid (show mayPin ⟨nm, vr, ln, hs⟩ = true by rw [HX0.out]; simp [h0])
     have q5 : ((hs.length : Int) == 0) = true := by simp only [beq_iff_eq]; omega
     clear h0
     go_enter Tryz.func31, Tryz.ntmps31
     go_upto_region 1 with fail
     rw [← HW.out]
     go_wp2_with fail
     refine HRN.out.mono ?_
     rintro e w' ⟨rfl, h'⟩
     subst h'
     go_wp2
     go_ret
     exact ⟨ret_bool HX.out.symm, HB.out⟩
   · have HX := Lib.hid (show mayPin ⟨nm, vr, ln, hs⟩ = mayHashes hs by rw [HX0.out]; simp [h0])
     have q5 : ((hs.length : Int) == 0) = false := by simp only [beq_eq_false_iff_ne, ne_eq]; omega
     clear h0
     go_enter Tryz.func31, Tryz.ntmps31
     go_upto_region 1 with fail
     rw [← HW.out]
     go_wp2_with fail
     refine HRN.out.mono ?_
     rintro e w' ⟨rfl, h'⟩
     subst h'
     go_wp2_with fail
     refine HMH.out.mono ?_
     rintro e w' ⟨rfl, hb⟩
     have HBB := Lib.hid (HB.out.trans (hb.mono HB.out.size))
     clear hb
     go_wp2
     go_ret
     exact ⟨ret_bool HX.out.symm, HBB.out⟩
 · have HX := Lib.hid (show mayPin ⟨nm, vr, ln, hs⟩ = false by
     have : (roleOf nm).isSome = false := by unfold roleErr at hr; split at hr <;> simp_all
     rw [HE.out]; show ((roleOf nm).isSome && _) = false; rw [this]; rfl)
   obtain ⟨re, hre⟩ : ∃ re, re = roleErr nm := ⟨_, rfl⟩
   rw [← hre] at hr HRN
   have hd2 : (re != 0) = true := by simpa using hr
   clear hr hre
   go_enter Tryz.func31, Tryz.ntmps31
   go_upto_region 1 with fail
   rw [← HW.out]
   go_wp2_with fail
   refine HRN.out.mono ?_
   rintro e w' ⟨rfl, h'⟩
   subst h'
   go_wp2
   go_ret
   exact ⟨ret_bool HX.out.symm, HB.out⟩
set_option maxHeartbeats 2000000 in
set_option maxRecDepth 100000 in
theorem snapSamePin0 (nm : ByteArray) (vr ln : Int) (a b : Option Addr) (c d : Nat) (w : World) :
   Calls Tryz.prog 33 #[.agg #[.string nm, .int .i64 vr, .int .i64 ln, .slice a 0 c], .agg #[.string nm, .int .i64 vr, .int .i64 ln, .slice b 0 d]] w fun e w' => e = .returned (.bool true) ∧ Below w.heap.size w w' := by
 obtain ⟨W2, hW2⟩ : ∃ W2, W2 = (w.alloc (.cells #[.string nm, .int .i64 vr, .int .i64 ln, .slice a 0 c] 36)).alloc (.cells #[.string nm, .int .i64 vr, .int .i64 ln, .slice b 0 d] 36) := ⟨_, rfl⟩
 have hb2 : Below w.heap.size w W2 := by rw [hW2]; exact ((Below.refl _ _).alloc (Nat.le_refl _) _).alloc (by simp) _
 have hx : W2.heap[w.heap.size]? = some (.cells #[.string nm, .int .i64 vr, .int .i64 ln, .slice a 0 c] 36 (0, 0)) := by rw [hW2, Below.heap_alloc _ _ _ (by simp)]; exact heap_alloc_new w _
 have hy : W2.heap[w.heap.size + 1]? = some (.cells #[.string nm, .int .i64 vr, .int .i64 ln, .slice b 0 d] 36 (0, 0)) := by
   have := heap_alloc_new (w.alloc (.cells #[.string nm, .int .i64 vr, .int .i64 ln, .slice a 0 c] 36)) (.cells #[.string nm, .int .i64 vr, .int .i64 ln, .slice b 0 d] 36)
   rw [show (w.alloc (.cells #[.string nm, .int .i64 vr, .int .i64 ln, .slice a 0 c] 36)).heap.size = w.heap.size + 1 by simp, ← hW2] at this
   exact this
 have v0 : W2.cell? ⟨w.heap.size, 0, none⟩ = some (.string nm) := box_cell hx rfl
 have v1 : W2.cell? ⟨w.heap.size, 1, none⟩ = some (.int .i64 vr) := box_cell hx rfl
 have v2 : W2.cell? ⟨w.heap.size, 2, none⟩ = some (.int .i64 ln) := box_cell hx rfl
 have v3 : W2.cell? ⟨w.heap.size, 3, none⟩ = some (.slice a 0 c) := box_cell hx rfl
 have u0 : W2.cell? ⟨w.heap.size + 1, 0, none⟩ = some (.string nm) := box_cell hy rfl
 have u1 : W2.cell? ⟨w.heap.size + 1, 1, none⟩ = some (.int .i64 vr) := box_cell hy rfl
 have u2 : W2.cell? ⟨w.heap.size + 1, 2, none⟩ = some (.int .i64 ln) := box_cell hy rfl
 have u3 : W2.cell? ⟨w.heap.size + 1, 3, none⟩ = some (.slice b 0 d) := box_cell hy rfl
 have HB := Lib.hid hb2
 have HW := Lib.hid hW2
 clear hb2 hW2 hx hy
 go_enter Tryz.func33, Tryz.ntmps33
 go_upto_region 1 with fail
 rw [← HW.out]
 go_wp2_with fail
 refine (recSameHashes0 a b c d W2).mono ?_
 rintro e w' ⟨rfl, h'⟩
 subst h'
 go_wp2
 go_ret
 exact ⟨rfl, HB.out⟩
end Go.Proofs.YtgghgcilpfdbjaaGreatDoor
