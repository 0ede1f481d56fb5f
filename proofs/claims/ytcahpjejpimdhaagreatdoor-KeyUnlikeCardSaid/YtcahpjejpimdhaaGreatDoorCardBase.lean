/- What every card of this seat leans on: the laid tables, a world for the witness, the last step of a row. -/
import Derived.Test.YtcahpjejpimdhaaGreatDoorCards
import Derived.Test.YtcahpjejpimdhaaGreatDoorTie
import Derived.Test.YtcahpjejpimdhaaGreatDoorKeyID
import Derived.WalkKit
import Derived.ProofKit
import Derived.OpenShut
import Derived.ChangeSame
import Derived.Deep.DeepHandedRow
import Derived.Lib.LaidTab
import Derived.Lib.SmallJoins
namespace Go.Proofs.YtcahpjejpimdhaaGreatDoor
open Go.ChangeShapes Go.WideShapes Go.ChangeAt Go.RowKit

theorem own : ownKnob Tryz.prog.godebug = none := by kernel_rfl
theorem gHex : Tryz.prog.globalNamed "legate/hex.digits" = some 0 := by kernel_rfl
theorem gIni : Tryz.prog.globalNamed "legate/sha.initial" = some 1 := by kernel_rfl
theorem gRou : Tryz.prog.globalNamed "legate/sha.rounds" = some 3 := by kernel_rfl
theorem gHexT : (Tryz.prog.globals[0]?).map (·.type) = some 108 := by kernel_rfl
theorem gIniT : (Tryz.prog.globals[1]?).map (·.type) = some 141 := by kernel_rfl
theorem gRouT : (Tryz.prog.globals[3]?).map (·.type) = some 168 := by kernel_rfl
theorem cellsHex : Tryz.prog.cellsOf 108 = 16 := by kernel_rfl
theorem cellsIni : Tryz.prog.cellsOf 141 = 8 := by kernel_rfl
theorem cellsRou : Tryz.prog.cellsOf 168 = 64 := by kernel_rfl
theorem cellsKey : Tryz.prog.cellsOf 23 = 2 := by kernel_rfl
theorem cells5 : Tryz.prog.cellsOf 5 = 1 := by kernel_rfl
theorem cells32 : Tryz.prog.cellsOf 140 = 1 := by kernel_rfl

def hexZs : List Int := [48, 49, 50, 51, 52, 53, 54, 55, 56, 57, 97, 98, 99, 100, 101, 102]
def iniZs : List Int := [1779033703, 3144134277, 1013904242, 2773480762, 1359893119, 2600822924, 528734635, 1541459225]
abbrev laidAll : List (String × DataW Unit) := [("legate/hex.digits", Rows.laid_legate_hex_digits), ("math/bits.deBruijn32tab", Rows.laid_math_bits_deBruijn32tab), ("math/bits.deBruijn64tab", Rows.laid_math_bits_deBruijn64tab), ("internal/strconv.uint64pow10", Rows.laid_internal_strconv_uint64pow10), ("legate/sha.initial", Rows.laid_legate_sha_initial), ("legate/sha.rounds", Rows.laid_legate_sha_rounds)]

theorem laid_drop {P : Program} {W : World} {x : String × DataW Unit} {r : List (String × DataW Unit)} (h : laidMet P (x :: r) W) : laidMet P r W := by
  obtain ⟨ps, ⟨g, t, cs, fuel, p, q, h1, h2, h3, h4, h5, rfl⟩, hn, ha⟩ := h
  exact ⟨q, h5, (List.nodup_append.1 hn).2.1, fun b off hp => ha b off (List.mem_append.2 (.inr hp))⟩

theorem tabs_of {W : World} (h : laidMet Tryz.prog laidAll W) : Tabs W := by
  have h1 : Lib.TabIs Tryz.prog W "legate/hex.digits" .u8 hexZs := Lib.tabIs_of_head gHex gHexT Tryz.underlying108 Tryz.underlying5 cells5 cellsHex h
  have h5 := laid_drop (laid_drop (laid_drop (laid_drop h)))
  have h2 : Lib.TabIs Tryz.prog W "legate/sha.initial" .u32 iniZs := Lib.tabIs_of_head gIni gIniT Tryz.underlying141 Tryz.underlying140 cells32 cellsIni h5
  have h3 : Lib.TabIs Tryz.prog W "legate/sha.rounds" .u32 kays := Lib.tabIs_of_head gRou gRouT Tryz.underlying168 Tryz.underlying140 cells32 cellsRou (laid_drop h5)
  have c1 : ∀ i, i < 16 → W.cell? ⟨0, i, none⟩ = some (.int .u8 (hexChar i).toNat) := fun i hi => by
    rw [h1.cell gHex i hi]
    have : ∀ m : Fin 16, hexZs.getD m.val 0 = ((hexChar m.val).toNat : Int) := by decide
    rw [this ⟨i, hi⟩]
  have c2 : ∀ i, i < 8 → W.cell? ⟨1, i, none⟩ = some (.int .u32 (hinit.at i)) := fun i hi => by
    rw [h2.cell gIni i hi]
    have : ∀ m : Fin 8, iniZs.getD m.val 0 = hinit.at m.val := by decide
    rw [this ⟨i, hi⟩]
  have c3 : ∀ i, i < 64 → W.cell? ⟨3, i, none⟩ = some (.int .u32 (kay i)) := fun i hi => h3.cell gRou i (show i < kays.length by exact hi)
  exact ⟨c2, c3, c1, World.block_lt_of_cell? W _ (c2 0 (by decide)), World.block_lt_of_cell? W _ (c3 0 (by decide)), World.block_lt_of_cell? W _ (c1 0 (by decide))⟩

/-- The cells of a table. -/
def tabCells : DataW Unit → Array Value
  | .agg l => (l.map fun
    | .lit (.int k n) => Value.int k n
    | _ => undef).toArray
  | _ => #[]
def lay (g : Nat) (d : DataW Unit) (h : Array Obj) : Array Obj := h.modify g fun
  | .cells _ t frozen => .cells (tabCells d) t frozen
  | o => o
/-- A world for the witness: the settled one, the tables as their initialisers lay them. -/
noncomputable def laidWorld (os : Os) : World :=
  { World.holding Tryz.prog os ⟨#[], #[], []⟩ with heap := lay 3 Rows.laid_legate_sha_rounds (lay 1 Rows.laid_legate_sha_initial (lay 4 Rows.laid_internal_strconv_uint64pow10 (lay 6 Rows.laid_math_bits_deBruijn64tab (lay 5 Rows.laid_math_bits_deBruijn32tab (lay 0 Rows.laid_legate_hex_digits (World.holding Tryz.prog os ⟨#[], #[], []⟩).heap))))) }

/-- The row's last step where the call has made memory, and marked some of it. -/
theorem post_below {H : Type} {enc : TypeId × Value → H} {P : Program} {f : Func} {s : ChangeSpec} {a1 a2 a3 a4 : Bool} {W W' : World} {args : Array Value} {v : Value} {ds gs : List (DataW H)} {before pa pv : List MemPlace}
    (hW : DataW.Whole enc P f.params.toList s.vars a1 W args.toList ds gs before)
    (hr : ∀ (b : Nat) (sp : Nat → Bool) (hd : Bool), DataW.TrodAll enc P W' b sp hd f.resultTypes.toList (v.resultList f.resultTypes.size) (s.fn H (ds ++ gs)).results [])
    (ha : ∀ sp : Nat → Bool, (∀ p ∈ before, sp p.block = true) → DataW.TrodAll enc P W' 0 sp true f.params.toList args.toList (s.fn H (ds ++ gs)).args pa)
    (hv : ∀ sp : Nat → Bool, (∀ p ∈ before, sp p.block = true) → DataW.TrodVars enc P W' sp s.vars (s.fn H (ds ++ gs)).vars pv)
    (he : before = pa ++ pv) (hb : Below W.heap.size W W')
    (hok : ∀ (j : Nat) (t : TypeId) (r : Value), f.resultTypes[j]? = some t → (v.resultList f.resultTypes.size)[j]? = some r → Value.okWide P W' .any 0 t r) :
    s.post enc P f a1 a2 a3 a4 W args v W' := by
  have hlt := hW.lt
  have hold : ∀ p ∈ before, (fun b => decide (b < W.heap.size)) p.block = true := fun p hp => decide_eq_true (hlt p hp)
  refine ⟨ds, gs, before, [], pa, pv, hW, hr _ _ _, ha _ hold, hv _ hold, World.keptBut_mono (fun p hp => ⟨hp, .inr ?_⟩) (hb.frame (· ∈ before)), fun _ => ?_⟩
  · rw [he] at hp; exact List.mem_append.1 hp
  obtain ⟨_, _, _, _, _, hz, hn⟩ := hW
  refine ⟨hok, _, _, ([] ++ pa) ++ pv, ⟨[] ++ pa, pv, trodAll_append (ha _ fun _ _ => rfl) (hr _ _ _), hv _ fun _ _ => rfl, rfl, fun b off hp => ?_, fun h1 => ?_⟩, fun p hp _ => ?_⟩
  · have hin : MemPlace.cell b off ∈ before := by rw [he]; exact hp
    rw [hb.frozen (hlt _ hin)]; exact hz b off hin
  · have := hn h1; rwa [he] at this
  · rw [he]; exact hp

end Go.Proofs.YtcahpjejpimdhaaGreatDoor
