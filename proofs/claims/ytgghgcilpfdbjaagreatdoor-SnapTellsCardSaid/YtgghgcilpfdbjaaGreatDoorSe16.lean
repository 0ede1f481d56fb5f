/- What a snapshot's object is, and what snapshot an object is, plain; the examples. No program in sight. The contract of a picker's Num. Printed by genpick.py. The contract of a picker's Has. What a proper value's kind tells, plain. No program in sight. Objects that may be, and texts that are picked out of them, plain. No program in sight. The contract of a picker's Object. The contracts of pick.NumOf, and of the law's own num, text, obj. The contract of legatelaw23.snapshot. Printed by gensnapobj.py. Members of an object in a row that the call owns: what they hold, that it stays, one more of them; what pick.ObjectOf makes of them. -/
import Derived.Test.YtgghgcilpfdbjaaGreatDoorSe12
import Derived.Test.YtgghgcilpfdbjaaGreatDoorSe14
import Derived.Test.YtgghgcilpfdbjaaGreatDoorSe01
import Derived.Test.YtgghgcilpfdbjaaGreatDoorSe15
import Derived.Test.YtgghgcilpfdbjaaGreatDoorSe08
import Derived.Test.YtgghgcilpfdbjaaGreatDoorSe00
import Derived.Test.YtgghgcilpfdbjaaGreatDoorSe02
import Derived.Outline

namespace Go.Proofs.YtgghgcilpfdbjaaGreatDoor
open Go.RowKit

def numJ (n : Int) : JV := .mk 2 n { data := #[] } [] []
def verN : ByteArray := { data := #[118, 101, 114, 115, 105, 111, 110] }
def lenN : ByteArray := { data := #[108, 101, 110, 103, 116, 104] }
def hasN : ByteArray := { data := #[104, 97, 115, 104, 101, 115] }
def typN : ByteArray := { data := #[95, 116, 121, 112, 101] }
def expN : ByteArray := { data := #[101, 120, 112, 105, 114, 101, 115] }
def metN : ByteArray := { data := #[109, 101, 116, 97] }
def snpN : ByteArray := { data := #[115, 110, 97, 112, 115, 104, 111, 116] }
def tgtN : ByteArray := { data := #[116, 97, 114, 103, 101, 116, 115] }
def aJsN : ByteArray := { data := #[97, 46, 106, 115, 111, 110] }
def xN : ByteArray := { data := #[120] }
def nineN : ByteArray := { data := #[49, 57, 55, 48, 45, 48, 49, 45, 48, 49, 84, 48, 48, 58, 48, 48, 58, 48, 57, 90] }
def pickNum (v : JV) (y : ByteArray) (lo hi : Int) (st : PS) : Int × PS :=
  if st.err ≠ 0 then (0, st) else match v.look y with
  | none => (0, ⟨st.asked, 6⟩)
  | some it => if it.kind ≠ 2 then (0, ⟨st.asked, 10⟩) else if it.n < lo ∨ hi < it.n then (0, ⟨st.asked, 1⟩) else (it.n, ⟨y :: st.asked, 0⟩)
def pickObj (v : JV) (y : ByteArray) (most : Nat) (st : PS) : JV × PS :=
  if st.err ≠ 0 then (zeroJ, st) else match v.look y with
  | none => (zeroJ, ⟨st.asked, 6⟩)
  | some it => if it.kind ≠ 5 then (zeroJ, ⟨st.asked, 10⟩) else if most < it.items.length then (zeroJ, ⟨st.asked, 5⟩) else (it, ⟨y :: st.asked, 0⟩)
def pickHas (v : JV) (y : ByteArray) (st : PS) : Bool := decide (st.err = 0) && (v.look y).isSome
def PS.fail (st : PS) (e : Int) : PS := if st.err = 0 then ⟨st.asked, e⟩ else st
/-- The pin of a file, of an object that has no hashes, and the error. -/
def pinOfJ (f : ByteArray) (v : JV) : PinV × Int :=
  if (roleOf f).isNone || !v.mayB then (pinZ, 3) else if v.kind ≠ 5 then (pinZ, 10) else
  let a := pickNum v verN 1 1099511627776 ⟨[], 0⟩
  let b := if pickHas v lenN a.2 then pickNum v lenN 0 1099511627776 a.2 else (-1, a.2)
  let d := pickDone v b.2
  if d ≠ 0 then (pinZ, d) else (⟨f, a.1, b.1, []⟩, 0)
def metaOf : List ByteArray → List JV → PS → List PinV → List PinV × PS
  | f :: fs, x :: xs, st, acc => if (pinOfJ f x).2 ≠ 0 then (acc, st.fail (pinOfJ f x).2) else metaOf fs xs st (acc ++ [(pinOfJ f x).1])
  | _, _, st, acc => (acc, st)
def snapZ : SnapV := ⟨0, 0, []⟩
/-- The snapshot of an object (of which no pin has hashes), and the error. -/
def snapOfJ (v : JV) : SnapV × Int :=
  if !v.mayB then (snapZ, 3) else if v.kind ≠ 5 then (snapZ, 10) else
  let a := pickText v typN ⟨[], 0⟩
  let st1 := if a.1 ≠ snpN then a.2.fail 13 else a.2
  let b := pickNum v verN 1 1099511627776 st1
  let c := pickText v expN b.2
  let r := readD c.1.data.toList
  let m := pickObj v metN 256 (c.2.fail r.2)
  let l := metaOf m.1.names m.1.items m.2 []
  let d := pickDone v l.2
  if d ≠ 0 then (snapZ, d) else (⟨b.1, r.1, l.1⟩, 0)
/-- The object of hashes. -/
def hashJ (l : List Key2) : JV := .mk 5 0 { data := #[] } (l.map (·.1)) (l.map fun k => txtJ k.2)
/-- A pin's object: its names with their values, in their row. -/
def pinM (p : PinV) : List (ByteArray × JV) := (if p.hs.isEmpty then [] else [(hasN, hashJ p.hs)]) ++ (if p.len = -1 then [] else [(lenN, numJ p.len)]) ++ [(verN, numJ p.ver)]
def pinJ (p : PinV) : JV := .mk 5 0 { data := #[] } ((pinM p).map (·.1)) ((pinM p).map (·.2))
def metaJ (l : List PinV) : JV := .mk 5 0 { data := #[] } (l.map (·.name)) (l.map pinJ)
def snapO (kind exp : ByteArray) (m : JV) (n : Int) : JV := .mk 5 0 { data := #[] } [typN, expN, metN, verN] [txtJ kind, txtJ exp, m, numJ n]
def snapJ (s : SnapV) : JV := snapO snpN ⟨(dateL s.exp.toNat).toArray⟩ (metaJ s.pins) s.ver
def pinE : PinV := ⟨aJsN, 2, 7, []⟩
def snapE : SnapV := ⟨1, 9, [pinE]⟩
theorem sn_0 : snapOfJ (snapO snpN nineN (metaJ [pinE]) 1) = (snapE, 0) := by kernel_rfl
theorem sn_1 : snapOfJ (snapO tgtN nineN (metaJ [pinE]) 1) = (snapZ, 13) := by kernel_rfl
theorem sn_2 : snapOfJ (snapO snpN nineN (metaJ [pinE]) 0) = (snapZ, 1) := by kernel_rfl
theorem sn_3 : snapOfJ (snapO snpN xN (metaJ [pinE]) 1) = (snapZ, 3) := by kernel_rfl
theorem sn_j : snapJ snapE = snapO snpN nineN (metaJ [pinE]) 1 := by kernel_rfl
theorem sn_may : maySnap snapE = true ∧ mayPin pinE = true := by decide +kernel
end Go.Proofs.YtgghgcilpfdbjaaGreatDoor

namespace Go.Proofs.YtgghgcilpfdbjaaGreatDoor
open Go.RowKit Go.WideMaps Go.Maps

def numErr (k n l h : Int) : Int := if k ≠ 2 then 10 else if n < l ∨ h < n then 1 else 0
def numVal (k n l h : Int) : Int := if k ≠ 2 then 0 else if n < l ∨ h < n then 0 else n
theorem numErr_ok {k n l h : Int} (e : numErr k n l h = 0) : k = 2 ∧ ¬ (n < l ∨ h < n) := by
  unfold numErr at e
  split at e
  · omega
  split at e
  · omega
  · exact ⟨by omega, by omega⟩
theorem numVal_ok {k n l h : Int} (e : numErr k n l h = 0) : numVal k n l h = n := by
  obtain ⟨a, b⟩ := numErr_ok e
  unfold numVal; rw [if_neg (by simp [a]), if_neg b]
theorem numVal_no {k n l h : Int} (e : ¬ numErr k n l h = 0) : numVal k n l h = 0 := by
  unfold numErr at e; unfold numVal
  split
  · rfl
  split
  · rfl
  · rename_i a b; rw [if_neg a, if_neg b] at e; omega
theorem numErr_no {it : JV} {a : List ByteArray} {l h : Int} {X : Int × PS} (e : ¬ numErr it.kind it.n l h = 0) :
    (if it.kind ≠ 2 then ((0 : Int), (⟨a, 10⟩ : PS)) else if it.n < l ∨ h < it.n then (0, ⟨a, 1⟩) else X) = (0, ⟨a, numErr it.kind it.n l h⟩) := by
  unfold numErr at e ⊢
  split
  · rfl
  split
  · rfl
  · rename_i a b; rw [if_neg a, if_neg b] at e; omega

set_option maxHeartbeats 400000 in
theorem numConv (k n : Int) (t : ByteArray) (a b : Value) (l h : Int) (p1 p2 : Nat) (w : World) (c1 : w.cell? ⟨p1, 0, none⟩ = some (.int .i64 l)) (c2 : w.cell? ⟨p2, 0, none⟩ = some (.int .i64 h)) :
    Calls Tryz.prog 103 #[.agg #[.int .u8 k, .int .i64 n, .string t, a, b], .pointer (some ⟨p1, 0, none⟩), .pointer (some ⟨p2, 0, none⟩)] w fun e w' => e = .returned (.tuple #[.int .i64 (numVal k n l h), .int .i64 (numErr k n l h)]) ∧ Below w.heap.size w w' := by
  have hb : Below w.heap.size w (w.alloc (.cells #[.int .u8 k, .int .i64 n, .string t, a, b] 30)) := (Below.refl _ _).alloc (Nat.le_refl _) _
  have d1 : (w.alloc (.cells #[.int .u8 k, .int .i64 n, .string t, a, b] 30)).cell? ⟨p1, 0, none⟩ = some (.int .i64 l) := by rw [hb.cell (World.block_lt_of_cell? w _ c1)]; exact c1
  have d2 : (w.alloc (.cells #[.int .u8 k, .int .i64 n, .string t, a, b] 30)).cell? ⟨p2, 0, none⟩ = some (.int .i64 h) := by rw [hb.cell (World.block_lt_of_cell? w _ c2)]; exact c2
  have HB := Lib.hid hb
  clear hb
  by_cases hk : k = 2
  · subst hk
    by_cases h1 : n < l
    · have HV := Lib.hid (show numVal 2 n l h = 0 ∧ numErr 2 n l h = 1 by unfold numVal numErr; simp [h1])
      have h1' : decide (n < l) = true := by simpa using h1
      go_enter Tryz.func103, Tryz.ntmps103
      go_wp2
      go_ret2
      exact ⟨by rw [HV.out.1, HV.out.2]; rfl, HB.out.trans (by first | exact Below.refl _ _ | exact (Below.refl _ _).drew)⟩
    · have h1' : decide (n < l) = false := by simpa using h1
      by_cases h2 : h < n
      · have HV := Lib.hid (show numVal 2 n l h = 0 ∧ numErr 2 n l h = 1 by unfold numVal numErr; simp [h2])
        have h2' : decide (h < n) = true := by simpa using h2
        go_enter Tryz.func103, Tryz.ntmps103
        go_wp2
        go_ret2
        exact ⟨by rw [HV.out.1, HV.out.2]; rfl, HB.out.trans (by first | exact Below.refl _ _ | exact (Below.refl _ _).drew)⟩
      · have HV := Lib.hid (show numVal 2 n l h = n ∧ numErr 2 n l h = 0 by unfold numVal numErr; simp [h1, h2])
        have h2' : decide (h < n) = false := by simpa using h2
        clear h1 h2
        go_enter Tryz.func103, Tryz.ntmps103
        go_wp2
        go_ret2
        exact ⟨by rw [HV.out.1, HV.out.2]; rfl, HB.out.trans (by first | exact Below.refl _ _ | exact (Below.refl _ _).drew)⟩
  · have HV := Lib.hid (show numVal k n l h = 0 ∧ numErr k n l h = 10 by unfold numVal numErr; simp [hk])
    have hk' : (k == 2) = false := by simpa using hk
    clear hk
    go_enter Tryz.func103, Tryz.ntmps103
    go_wp2
    go_ret2
    exact ⟨by rw [HV.out.1, HV.out.2]; rfl, HB.out⟩

def NumPost (o m lo hi : Nat) (v : JV) (an ai : Option Addr) (cn ci : Nat) (y : ByteArray) (l h : Int) (st : PS) (w : World) (e : Ending) (w' : World) : Prop :=
  e = .returned (.int .i64 (pickNum v y l h st).1) ∧ PickAt o m lo hi v an ai cn ci (pickNum v y l h st).2 w' ∧ Touch (fun b => b = o ∨ b = m) w w'

set_option maxHeartbeats 1000000 in
set_option maxRecDepth 100000 in
theorem takeNum (o m lo hi : Nat) (v : JV) (an ai : Option Addr) (cn ci : Nat) (y : ByteArray) (l h : Int) (st : PS) (w : World) (hP : PickAt o m lo hi v an ai cn ci st w) (hy : y.size ≤ 4294967296) (ha : st.asked.length ≤ 4294967296) (p1 p2 : Nat) (g1 : w.heap[p1]? = some (.cells #[.int .i64 l] 2 (0, 0))) (g2 : w.heap[p2]? = some (.cells #[.int .i64 h] 2 (0, 0))) :
    Calls Tryz.prog 102 #[.pointer (some ⟨o, 0, none⟩), .string y, .func (.func 103) #[] #[.pointer (some ⟨p1, 0, none⟩), .pointer (some ⟨p2, 0, none⟩)]] w (NumPost o m lo hi v an ai cn ci y l h st w) := by
  have HP := Lib.hid hP
  have HG1 := Lib.hid g1
  have HG2 := Lib.hid g2
  clear hP g1 g2
  have c6 : w.cell? ⟨o, 6, none⟩ = some (.int .i64 st.err) := box_cell HP.out.obj rfl
  have c0 : w.cell? ⟨o, 0, none⟩ = some (.int .u8 5) := (box_cell (j := 0) HP.out.obj rfl).trans (by rw [HP.out.kind]; rfl)
  by_cases he : st.err = 0
  · rw [he] at c6
    have HE := Lib.hid he
    clear he
    have c1 : w.cell? ⟨o, 1, none⟩ = some (.int .i64 v.n) := box_cell HP.out.obj rfl
    have c2 : w.cell? ⟨o, 2, none⟩ = some (.string v.t) := box_cell HP.out.obj rfl
    have c3 : w.cell? ⟨o, 3, none⟩ = some (.slice an v.names.length cn) := box_cell HP.out.obj rfl
    have c4 : w.cell? ⟨o, 4, none⟩ = some (.slice ai v.items.length ci) := box_cell HP.out.obj rfl
    have HR := Lib.hid HP.out.rep
    rw [HP.out.kind] at HR
    have HG := Lib.hid (valueGet v y _ w lo hi HP.out.wt HP.out.pos HP.out.le HR.out HP.out.kind HP.out.rise HP.out.len)
    go_enter Tryz.func102, Tryz.ntmps102
    go_wp2_with fail
    refine (pickErr o 0 5 w c6 c0 (fun _ => rfl)).mono ?_
    rintro r w' ⟨rfl, rfl⟩
    go_wp2_with fail
    refine HG.out.mono ?_
    clear HG c0 c1 c2 c3 c4 c6
    rintro e w1 ⟨hh, hb1⟩
    have HB1 := Lib.hid hb1
    clear hb1
    rcases hh with ⟨r, hr1, hr2, hre, an', cn', ai', ci', rfl, hrep⟩ | ⟨hno, rfl⟩
    · have HL := Lib.hid (look_some HP.out.rise r hr1 hr2 hre)
      clear hre hrep
      generalize v.items[r] = it at *
      have hb2 : Below w.heap.size w (w1.alloc (.cells #[.int .u8 it.kind, .int .i64 it.n, .string it.t, .slice an' it.names.length cn', .slice ai' it.items.length ci'] 30)) := HB1.out.alloc HB1.out.size _
      have HB2 := Lib.hid hb2
      have HC := Lib.hid (numConv it.kind it.n it.t (.slice an' it.names.length cn') (.slice ai' it.items.length ci') l h p1 p2 (w1.alloc (.cells #[.int .u8 it.kind, .int .i64 it.n, .string it.t, .slice an' it.names.length cn', .slice ai' it.items.length ci'] 30)) (box_cell ((hb2.block _ (heap_lt HG1.out)).trans HG1.out) rfl) (box_cell ((hb2.block _ (heap_lt HG2.out)).trans HG2.out) rfl))
      clear hb2
      by_cases hk : numErr it.kind it.n l h = 0
      · have HK := Lib.hid hk
        have HX := Lib.hid (show pickNum v y l h st = (it.n, ⟨y :: st.asked, 0⟩) by unfold pickNum; rw [if_neg (by simp [HE.out]), HL.out]; obtain ⟨q1, q2⟩ := numErr_ok hk; simp only; rw [if_neg (by simp [q1]), if_neg q2])
        rw [numVal_ok hk, hk] at HC
        clear hk
        go_wp2_with fail
        refine HC.out.mono ?_
        clear HC
        rintro e w2 ⟨rfl, hb3⟩
        have HB3 := Lib.hid (HB2.out.trans (hb3.mono HB2.out.size))
        have HP3 := Lib.hid (HP.out.below HB3.out)
        clear hb3 HB2
        have d5 : w2.cell? ⟨o, 5, none⟩ = some (.map (some m)) := box_cell HP3.out.obj rfl
        have hkey : keyOf Tryz.prog 9 (.string y) = some (.string y.data.toList) := keyOf_string_mk Tryz.underlying9 (by unfold maxLen; omega)
        obtain ⟨D, n, hown, hn, hD⟩ := HP3.out.map
        obtain ⟨c, hat, hc0, hc1, hc2⟩ := hD.2 y
        obtain ⟨c', hrun, hat', _⟩ := hown.lookup_int lawStr Tryz.underlying126 Tryz.underlying3 (zeroInt _) hkey
        rw [hat] at hat'
        simp only [DataW.lit.injEq, Lit.int.injEq, true_and] at hat'
        subst hat'
        have HD := Lib.hid (hD.cons y c hat)
        have HKY := Lib.hid hkey
        have HOW := Lib.hid hown
        clear hD hat hc2 hkey hown
        go_wp2_with (at_mapUpdate; refine wpList_mapUpdate_own _ rfl _ _ _ 126 rfl 9 3 lawStr Tryz.underlying126 _ m n D rfl HOW.out (by unfold maxLen; omega) _ _ _ rfl rfl HKY.out _ [] (plainElem_int Tryz.underlying3 (WalkArith.wf_i64 (by omega))) ?_)
        intro w3 hown3 hgrow3
        have HP4 := Lib.hid (HP3.out.ask y hgrow3 hown3 (by omega) HD.out)
        have HT := Lib.hid (show Touch (fun b => b = o ∨ b = m) w w3 from ⟨by rw [hgrow3.os, HB3.out.os], by rw [hgrow3.tape, HB3.out.tape], by rw [hgrow3.output, HB3.out.output], Nat.le_trans HB3.out.size hgrow3.size, fun k hk hs => by rw [hgrow3.block k (Nat.lt_of_lt_of_le hk HB3.out.size) (fun e => hs (.inr (Option.some.inj e))), HB3.out.block k hk]⟩)
        clear hgrow3 hown3
        rw [HE.out] at HP4
        go_wp2
        go_ret
        exact ⟨by rw [HX.out]; rfl, by rw [HX.out]; exact HP4.out, HT.out⟩
      · have HX := Lib.hid (show pickNum v y l h st = (0, ⟨st.asked, numErr it.kind it.n l h⟩) by unfold pickNum; rw [if_neg (by simp [HE.out]), HL.out]; exact numErr_no hk)
        obtain ⟨er, her⟩ : ∃ er, er = numErr it.kind it.n l h := ⟨_, rfl⟩
        rw [numVal_no hk, ← her] at HC
        rw [← her] at HX hk
        have hk' : (er != 0) = true := by simpa using hk
        have hk2 : (er == 0) = false := by simpa using hk
        clear hk her
        go_wp2_with fail
        refine HC.out.mono ?_
        clear HC
        rintro e w2 ⟨rfl, hb3⟩
        have HB3 := Lib.hid (HB2.out.trans (hb3.mono HB2.out.size))
        have HP3 := Lib.hid (HP.out.below HB3.out)
        clear hb3 HB2
        have d6 : w2.cell? ⟨o, 6, none⟩ = some (.int .i64 0) := (box_cell (j := 6) HP3.out.obj rfl).trans (by rw [HE.out]; rfl)
        have d0 : w2.cell? ⟨o, 0, none⟩ = some (.int .u8 5) := (box_cell (j := 0) HP3.out.obj rfl).trans (by rw [HP.out.kind]; rfl)
        have d7 : w2.frozen? ⟨o, 6, none⟩ = false := by simp [World.frozen?, HP3.out.obj]
        go_wp2_with fail
        refine (pickFail o er _ d6 d0 d7).mono ?_
        clear d6 d0 d7
        rintro e w3 ⟨rfl, rfl⟩
        have HP4 := Lib.hid (HP3.out.fail er)
        have HT := Lib.hid (show Touch (fun b => b = o ∨ b = m) w (w2.setCell ⟨o, 6, none⟩ (.int .i64 er)) from (Touch.of_below HB3.out (Nat.le_refl _)).setCell (.inl (.inl rfl)) _)
        go_wp2
        go_ret
        exact ⟨by rw [HX.out]; rfl, by rw [HX.out]; exact HP4.out, HT.out⟩
    · have HX := Lib.hid (show pickNum v y l h st = (0, ⟨st.asked, 6⟩) by unfold pickNum; rw [if_neg (by simp [HE.out]), show v.look y = none from lookL_none _ _ _ hno])
      unfold zeroAgg
      have HB3 := Lib.hid (show Below w.heap.size w (w1.alloc (.cells #[.int .u8 0, .int .i64 0, .string { data := #[] }, .slice none 0 0, .slice none 0 0] 30)) from HB1.out.alloc HB1.out.size _)
      have HP3 := Lib.hid (HP.out.below HB3.out)
      clear hno HB1
      have d6 : (w1.alloc (.cells #[.int .u8 0, .int .i64 0, .string { data := #[] }, .slice none 0 0, .slice none 0 0] 30)).cell? ⟨o, 6, none⟩ = some (.int .i64 0) := (box_cell (j := 6) HP3.out.obj rfl).trans (by rw [HE.out]; rfl)
      have d0 : (w1.alloc (.cells #[.int .u8 0, .int .i64 0, .string { data := #[] }, .slice none 0 0, .slice none 0 0] 30)).cell? ⟨o, 0, none⟩ = some (.int .u8 5) := (box_cell (j := 0) HP3.out.obj rfl).trans (by rw [HP.out.kind]; rfl)
      have d7 : (w1.alloc (.cells #[.int .u8 0, .int .i64 0, .string { data := #[] }, .slice none 0 0, .slice none 0 0] 30)).frozen? ⟨o, 6, none⟩ = false := by simp [World.frozen?, HP3.out.obj]
      go_wp2_with fail
      refine (pickFail o 6 _ d6 d0 d7).mono ?_
      clear d6 d0 d7
      rintro e w3 ⟨rfl, rfl⟩
      have HP4 := Lib.hid (HP3.out.fail 6)
      have HT := Lib.hid (show Touch (fun b => b = o ∨ b = m) w ((w1.alloc (.cells #[.int .u8 0, .int .i64 0, .string { data := #[] }, .slice none 0 0, .slice none 0 0] 30)).setCell ⟨o, 6, none⟩ (.int .i64 6)) from (Touch.of_below HB3.out (Nat.le_refl _)).setCell (.inl (.inl rfl)) _)
      go_wp2
      go_ret
      exact ⟨by rw [HX.out]; rfl, by rw [HX.out]; exact HP4.out, HT.out⟩
  · have he' : (st.err == 0) = false := by simpa using he
    have he2 : (st.err != 0) = true := by simpa using he
    have HX := Lib.hid (show pickNum v y l h st = (0, st) by unfold pickNum; rw [if_pos he])
    have HE := Lib.hid he
    clear he
    go_enter Tryz.func102, Tryz.ntmps102
    go_wp2_with fail
    refine (pickErr o st.err 5 w c6 c0 (fun _ => rfl)).mono ?_
    rintro r w' ⟨rfl, rfl⟩
    go_wp2
    go_ret
    exact ⟨by rw [HX.out]; rfl, by rw [HX.out]; exact HP.out, Touch.refl _ _⟩


set_option maxHeartbeats 1000000 in
theorem pickNumF (o m lo hi : Nat) (v : JV) (an ai : Option Addr) (cn ci : Nat) (y : ByteArray) (l h : Int) (st : PS) (w : World) (hP : PickAt o m lo hi v an ai cn ci st w) (hy : y.size ≤ 4294967296) (ha : st.asked.length ≤ 4294967296) (hm : m < w.heap.size) (ho : o < w.heap.size) :
    Calls Tryz.prog 62 #[.pointer (some ⟨o, 0, none⟩), .string y, .int .i64 l, .int .i64 h] w (NumPost o m lo hi v an ai cn ci y l h st w) := by
  have hb : Below w.heap.size w ((w.alloc (.cells #[.int .i64 l] 2)).alloc (.cells #[.int .i64 h] 2)) := ((Below.refl _ _).alloc (Nat.le_refl _) _).alloc (by simp) _
  have hz : (w.alloc (.cells #[.int .i64 l] 2)).heap.size = w.heap.size + 1 := by simp
  have hn := heap_alloc_new (w.alloc (.cells #[.int .i64 l] 2)) (.cells #[.int .i64 h] 2)
  rw [hz] at hn
  have HC := Lib.hid (takeNum o m lo hi v an ai cn ci y l h st _ (hP.below hb) hy ha w.heap.size (w.heap.size + 1) (by rw [Below.heap_alloc _ _ _ (by omega)]; exact heap_alloc_new w _) hn)
  have HB := Lib.hid hb
  have HO := Lib.hid (And.intro ho hm)
  clear hP hb hz hn ho hm
  go_enter Tryz.func62, Tryz.ntmps62
  go_wp2_with fail
  refine HC.out.mono ?_
  rintro e w' ⟨rfl, h1, h2⟩
  have H1 := Lib.hid h1
  have H2 := Lib.hid h2
  clear h1 h2
  go_wp2
  go_ret
  exact ⟨rfl, H1.out, (Touch.of_below HB.out (Nat.le_refl _)).trans H2.out⟩

end Go.Proofs.YtgghgcilpfdbjaaGreatDoor

namespace Go.Proofs.YtgghgcilpfdbjaaGreatDoor
open Go.RowKit Go.WideMaps Go.Maps

set_option maxHeartbeats 1000000 in
set_option maxRecDepth 100000 in
theorem pickHasF (o m lo hi : Nat) (v : JV) (an ai : Option Addr) (cn ci : Nat) (y : ByteArray) (st : PS) (w : World) (hP : PickAt o m lo hi v an ai cn ci st w) :
    Calls Tryz.prog 63 #[.pointer (some ⟨o, 0, none⟩), .string y] w fun e w' => e = .returned (.bool (pickHas v y st)) ∧ Below w.heap.size w w' := by
  have HP := Lib.hid hP
  clear hP
  have c6 : w.cell? ⟨o, 6, none⟩ = some (.int .i64 st.err) := box_cell HP.out.obj rfl
  have c0 : w.cell? ⟨o, 0, none⟩ = some (.int .u8 5) := (box_cell (j := 0) HP.out.obj rfl).trans (by rw [HP.out.kind]; rfl)
  by_cases he : st.err = 0
  · rw [he] at c6
    have HE := Lib.hid he
    clear he
    have c1 : w.cell? ⟨o, 1, none⟩ = some (.int .i64 v.n) := box_cell HP.out.obj rfl
    have c2 : w.cell? ⟨o, 2, none⟩ = some (.string v.t) := box_cell HP.out.obj rfl
    have c3 : w.cell? ⟨o, 3, none⟩ = some (.slice an v.names.length cn) := box_cell HP.out.obj rfl
    have c4 : w.cell? ⟨o, 4, none⟩ = some (.slice ai v.items.length ci) := box_cell HP.out.obj rfl
    have HR := Lib.hid HP.out.rep
    rw [HP.out.kind] at HR
    have HG := Lib.hid (valueGet v y _ w lo hi HP.out.wt HP.out.pos HP.out.le HR.out HP.out.kind HP.out.rise HP.out.len)
    go_enter Tryz.func63, Tryz.ntmps63
    go_wp2_with fail
    refine (pickErr o 0 5 w c6 c0 (fun _ => rfl)).mono ?_
    rintro r w' ⟨rfl, rfl⟩
    go_wp2_with fail
    refine HG.out.mono ?_
    clear HG c0 c1 c2 c3 c4 c6
    rintro e w1 ⟨hh, hb1⟩
    have HB1 := Lib.hid hb1
    clear hb1
    rcases hh with ⟨r, hr1, hr2, hre, an', cn', ai', ci', rfl, hrep⟩ | ⟨hno, rfl⟩
    · have HX := Lib.hid (show pickHas v y st = true by unfold pickHas; rw [look_some HP.out.rise r hr1 hr2 hre, HE.out]; rfl)
      clear hre hrep
      go_wp2
      go_ret
      exact ⟨ret_bool HX.out.symm, HB1.out.alloc HB1.out.size _⟩
    · have HX := Lib.hid (show pickHas v y st = false by unfold pickHas; rw [show v.look y = none from lookL_none _ _ _ hno, HE.out]; rfl)
      clear hno
      unfold zeroAgg
      go_wp2
      go_ret
      exact ⟨ret_bool HX.out.symm, HB1.out.alloc HB1.out.size _⟩
  · have he' : (st.err == 0) = false := by simpa using he
    have he2 : (st.err != 0) = true := by simpa using he
    have HX := Lib.hid (show pickHas v y st = false by unfold pickHas; simp [he])
    clear he
    go_enter Tryz.func63, Tryz.ntmps63
    go_wp2_with fail
    refine (pickErr o st.err 5 w c6 c0 (fun h => by simp [h] at he')).mono ?_
    rintro r w' ⟨rfl, rfl⟩
    go_wp2
    go_ret
    exact ⟨ret_bool HX.out.symm, Below.refl _ _⟩
end Go.Proofs.YtgghgcilpfdbjaaGreatDoor

namespace Go.Proofs.YtgghgcilpfdbjaaGreatDoor
open Go.RowKit

theorem proper_kind {k n : Int} {t : ByteArray} {ns : List ByteArray} {li : Nat} (h : properB k n t ns li = true) : (k = 1 ∧ li = 0) ∨ (k = 2 ∧ li = 0) ∨ (k = 3 ∧ txtOk t = true ∧ li = 0) ∨ k = 4 ∨ (k = 5 ∧ ns.length = li ∧ rises ns = true ∧ ns.all txtOk = true) := by
  unfold properB at h
  by_cases h1 : k = 1
  · rw [if_pos h1] at h; simp at h; exact .inl ⟨h1, h.2.2.1⟩
  rw [if_neg h1] at h
  by_cases h2 : k = 2
  · rw [if_pos h2] at h; simp at h; exact .inr (.inl ⟨h2, h.2.2⟩)
  rw [if_neg h2] at h
  by_cases h3 : k = 3
  · rw [if_pos h3] at h; simp at h; exact .inr (.inr (.inl ⟨h3, h.2, h.1.2.2⟩))
  rw [if_neg h3] at h
  by_cases h4 : k = 4
  · exact .inr (.inr (.inr (.inl h4)))
  rw [if_neg h4] at h
  by_cases h5 : k = 5
  · rw [if_pos h5] at h
    simp only [Bool.and_eq_true, decide_eq_true_eq] at h
    exact .inr (.inr (.inr (.inr ⟨h5, h.1.1.2.2, h.1.2, h.2⟩)))
  · rw [if_neg h5] at h; cases h

end Go.Proofs.YtgghgcilpfdbjaaGreatDoor

namespace Go.Proofs.YtgghgcilpfdbjaaGreatDoor
open Go.RowKit

theorem may_obj {v : JV} (h : v.mayB = true) (hk : v.kind = 5) : rises v.names = true ∧ v.names.length = v.items.length ∧ v.names.all txtOk = true := by
  unfold JV.mayB at h
  rw [JV.may_eq] at h
  split at h
  · cases h
  split at h
  · cases h
  next h2 =>
  rcases proper_kind (by simpa using h2) with ⟨e, _⟩ | ⟨e, _⟩ | ⟨e, _⟩ | e | ⟨_, e1, e2, e3⟩ <;> first | omega | exact ⟨e2, e1, e3⟩
theorem text_size {v : JV} {y : ByteArray} {st : PS} (hv : v.wt ≤ 4294967296) : (pickText v y st).1.size ≤ 4294967296 ∧ (pickText v y st).2.asked.length ≤ st.asked.length + 1 := by
  unfold pickText
  split
  · exact ⟨by show 0 ≤ _; omega, by simp⟩
  split
  · exact ⟨by show 0 ≤ _; omega, by simp⟩
  · next it hit =>
    split
    · refine ⟨?_, by simp⟩
      have : ∀ (ns : List ByteArray) (xs : List JV), lookL ns xs y = some it → it.wt ≤ JV.wts xs := by
        intro ns
        induction ns with
        | nil => intro xs h; simp [lookL] at h
        | cons n ns ih =>
          intro xs h
          cases xs with
          | nil => simp [lookL] at h
          | cons x xs =>
            rw [lookL] at h
            split at h
            · cases h; simp [JV.wts]
            · have := ih xs h; simp [JV.wts]; omega
      have h1 := this _ _ hit
      have h2 := it.wt_bd
      have h3 := v.wt_bd
      show it.t.size ≤ _
      omega
    · exact ⟨by show 0 ≤ _; omega, by simp⟩

end Go.Proofs.YtgghgcilpfdbjaaGreatDoor

namespace Go.Proofs.YtgghgcilpfdbjaaGreatDoor
open Go.RowKit Go.WideMaps Go.Maps

def objErr (it : JV) (most : Nat) : Int := if it.kind ≠ 5 then 10 else if most < it.items.length then 5 else 0
theorem objErr_ok {it : JV} {most : Nat} (e : objErr it most = 0) : it.kind = 5 ∧ ¬ most < it.items.length := by
  unfold objErr at e
  split at e
  · omega
  split at e
  · omega
  · exact ⟨by omega, by omega⟩
theorem objErr_no {it : JV} {a : List ByteArray} {most : Nat} {X : JV × PS} (e : ¬ objErr it most = 0) :
    (if it.kind ≠ 5 then (zeroJ, (⟨a, 10⟩ : PS)) else if most < it.items.length then (zeroJ, ⟨a, 5⟩) else X) = (zeroJ, ⟨a, objErr it most⟩) := by
  unfold objErr at e ⊢
  split
  · rfl
  split
  · rfl
  · rename_i a b; rw [if_neg a, if_neg b] at e; omega

set_option maxHeartbeats 1000000 in
set_option maxRecDepth 100000 in
theorem objConv (it : JV) (most p1 : Nat) (an' ai' : Option Addr) (cn' ci' : Nat) (w : World) (c1 : w.cell? ⟨p1, 0, none⟩ = some (.int .i64 most)) :
    Calls Tryz.prog 108 #[.agg #[.int .u8 it.kind, .int .i64 it.n, .string it.t, .slice an' it.names.length cn', .slice ai' it.items.length ci'], .pointer (some ⟨p1, 0, none⟩)] w fun e w' => e = .returned (.tuple #[if objErr it most = 0 then .agg #[.int .u8 it.kind, .int .i64 it.n, .string it.t, .slice an' it.names.length cn', .slice ai' it.items.length ci'] else zeroAgg, .int .i64 (objErr it most)]) ∧ Below w.heap.size w w' := by
  have hz : (w.alloc (.cells #[.int .u8 it.kind, .int .i64 it.n, .string it.t, .slice an' it.names.length cn', .slice ai' it.items.length ci'] 30)).heap.size = w.heap.size + 1 := by simp
  have hb : Below w.heap.size w ((w.alloc (.cells #[.int .u8 it.kind, .int .i64 it.n, .string it.t, .slice an' it.names.length cn', .slice ai' it.items.length ci'] 30)).alloc (.cells #[.int .u8 0, .int .i64 0, .string { data := #[] }, .slice none 0 0, .slice none 0 0] 30)) := ((Below.refl _ _).alloc (Nat.le_refl _) _).alloc (by simp) _
  have d1 : ((w.alloc (.cells #[.int .u8 it.kind, .int .i64 it.n, .string it.t, .slice an' it.names.length cn', .slice ai' it.items.length ci'] 30)).alloc (.cells #[.int .u8 0, .int .i64 0, .string { data := #[] }, .slice none 0 0, .slice none 0 0] 30)).cell? ⟨p1, 0, none⟩ = some (.int .i64 most) := by rw [hb.cell (World.block_lt_of_cell? w _ c1)]; exact c1
  have hbox := (rowIs_box5 w (.int .u8 it.kind) (.int .i64 it.n) (.string it.t) (.slice an' it.names.length cn') (.slice ai' it.items.length ci') 30).alloc (.cells #[.int .u8 0, .int .i64 0, .string { data := #[] }, .slice none 0 0, .slice none 0 0] 30)
  have hres := rowIs_box5 (w.alloc (.cells #[.int .u8 it.kind, .int .i64 it.n, .string it.t, .slice an' it.names.length cn', .slice ai' it.items.length ci'] 30)) (.int .u8 0) (.int .i64 0) (.string { data := #[] }) (.slice none 0 0) (.slice none 0 0) 30
  rw [hz] at hres
  obtain ⟨W2, hW2⟩ : ∃ W2, W2 = ((w.alloc (.cells #[.int .u8 it.kind, .int .i64 it.n, .string it.t, .slice an' it.names.length cn', .slice ai' it.items.length ci'] 30)).alloc (.cells #[.int .u8 0, .int .i64 0, .string { data := #[] }, .slice none 0 0, .slice none 0 0] 30)) := ⟨_, rfl⟩
  rw [← hW2] at hb d1 hbox hres
  have t0 := hres.cell (i := 0) (by decide); have t1 := hres.cell (i := 1) (by decide); have t2 := hres.cell (i := 2) (by decide); have t3 := hres.cell (i := 3) (by decide); have t4 := hres.cell (i := 4) (by decide)
  have s0 := hres.frozen 0; have s1 := hres.frozen 1; have s2 := hres.frozen 2; have s3 := hres.frozen 3; have s4 := hres.frozen 4
  have b0 := hbox.cell (i := 0) (by decide); have b1 := hbox.cell (i := 1) (by decide); have b2 := hbox.cell (i := 2) (by decide); have b3 := hbox.cell (i := 3) (by decide); have b4 := hbox.cell (i := 4) (by decide)
  simp only [pick5] at t0 t1 t2 t3 t4 b0 b1 b2 b3 b4
  have HB := Lib.hid hb
  have HRS := Lib.hid hres
  have HW := Lib.hid hW2
  clear hb hbox hres hz hW2
  by_cases hk : it.kind = 5
  · by_cases h1 : most < it.items.length
    · have HV := Lib.hid (show objErr it most = 5 by unfold objErr; rw [if_neg (by simp [hk]), if_pos h1])
      have HV2 := Lib.hid (show (if objErr it most = 0 then (.agg #[.int .u8 it.kind, .int .i64 it.n, .string it.t, .slice an' it.names.length cn', .slice ai' it.items.length ci'] : Value) else zeroAgg) = zeroAgg by rw [HV.out]; rfl)
      rw [HV2.out, HV.out]
      rw [hk] at b0
      have h1' : decide ((most : Int) < (it.items.length : Int)) = true := by simpa using h1
      clear hk
      go_enter Tryz.func108, Tryz.ntmps108
      go_upto_region 1 with fail
      rw [← HW.out]
      go_wp2
      refine bodyPost_ret (results_row_tmp Tryz.results108 _ _ (w.heap.size + 1) 30 _ (0, 0) _ rfl (row5_heap (set5 _ _ _ _ _ HRS.out)) Tryz.underlying30 rfl (by kernel_rfl) _ rfl) rfl ⟨rfl, below5 _ _ _ _ _ HB.out (by omega)⟩
    · have HV := Lib.hid (show objErr it most = 0 by unfold objErr; rw [if_neg (by simp [hk]), if_neg h1])
      have HV2 := Lib.hid (show (if objErr it most = 0 then (.agg #[.int .u8 it.kind, .int .i64 it.n, .string it.t, .slice an' it.names.length cn', .slice ai' it.items.length ci'] : Value) else zeroAgg) = .agg #[.int .u8 it.kind, .int .i64 it.n, .string it.t, .slice an' it.names.length cn', .slice ai' it.items.length ci'] by rw [HV.out]; rfl)
      rw [HV2.out, HV.out]
      have HK := Lib.hid hk
      rw [hk] at b0
      have h1' : decide ((most : Int) < (it.items.length : Int)) = false := by simpa using h1
      clear hk
      go_enter Tryz.func108, Tryz.ntmps108
      go_upto_region 1 with fail
      rw [← HW.out]
      go_wp2
      refine bodyPost_ret (results_row_tmp Tryz.results108 _ _ (w.heap.size + 1) 30 _ (0, 0) _ rfl (row5_heap (set5 _ _ _ _ _ HRS.out)) Tryz.underlying30 rfl (by kernel_rfl) _ rfl) rfl ⟨by rw [HK.out] <;> rfl, below5 _ _ _ _ _ HB.out (by omega)⟩
  · have HV := Lib.hid (show objErr it most = 10 by unfold objErr; rw [if_pos hk])
    have HV2 := Lib.hid (show (if objErr it most = 0 then (.agg #[.int .u8 it.kind, .int .i64 it.n, .string it.t, .slice an' it.names.length cn', .slice ai' it.items.length ci'] : Value) else zeroAgg) = zeroAgg by rw [HV.out]; rfl)
    rw [HV2.out, HV.out]
    have hk' : (it.kind == 5) = false := by simpa using hk
    clear hk
    go_enter Tryz.func108, Tryz.ntmps108
    go_upto_region 1 with fail
    rw [← HW.out]
    go_wp2
    refine bodyPost_ret (results_row_tmp Tryz.results108 _ _ (w.heap.size + 1) 30 _ (0, 0) _ rfl (row5_heap (set5 _ _ _ _ _ HRS.out)) Tryz.underlying30 rfl (by kernel_rfl) _ rfl) rfl ⟨rfl, below5 _ _ _ _ _ HB.out (by omega)⟩

/-- What a picker's Object has told: the value, laid above the world that was. -/
def ObjPostP (o m lo hi : Nat) (v : JV) (an ai : Option Addr) (cn ci : Nat) (y : ByteArray) (most : Nat) (st : PS) (w : World) (e : Ending) (w' : World) : Prop :=
  (∃ an' cn' ai' ci', e = .returned (.agg #[.int .u8 (pickObj v y most st).1.kind, .int .i64 (pickObj v y most st).1.n, .string (pickObj v y most st).1.t, .slice an' (pickObj v y most st).1.names.length cn', .slice ai' (pickObj v y most st).1.items.length ci']) ∧ Rep w' w.heap.size w'.heap.size (pickObj v y most st).1 (.agg #[.int .u8 (pickObj v y most st).1.kind, .int .i64 (pickObj v y most st).1.n, .string (pickObj v y most st).1.t, .slice an' (pickObj v y most st).1.names.length cn', .slice ai' (pickObj v y most st).1.items.length ci'])) ∧
  PickAt o m lo hi v an ai cn ci (pickObj v y most st).2 w' ∧ Touch (fun b => b = o ∨ b = m) w w'
theorem objPostZ {o m lo hi : Nat} {v : JV} {an ai : Option Addr} {cn ci : Nat} {y : ByteArray} {most : Nat} {st st' : PS} {w w' : World} (h : pickObj v y most st = (zeroJ, st')) (hP : PickAt o m lo hi v an ai cn ci st' w') (hT : Touch (fun b => b = o ∨ b = m) w w') : ObjPostP o m lo hi v an ai cn ci y most st w (.returned zeroAgg) w' := by
  unfold ObjPostP
  rw [h]
  exact ⟨⟨none, 0, none, 0, rfl, rep_zeroJW _ _ _⟩, hP, hT⟩
theorem PickAt.set5 {o m lo hi g : Nat} {v : JV} {an ai : Option Addr} {cn ci : Nat} {st : PS} {w : World} (h : PickAt o m lo hi v an ai cn ci st w) (v0 v1 v2 v3 v4 : Value) (ho : g ≠ o) (hm : g ≠ m) (hh : hi ≤ g) : PickAt o m lo hi v an ai cn ci st (((((w.setCell ⟨g, 0, none⟩ v0).setCell ⟨g, 1, none⟩ v1).setCell ⟨g, 2, none⟩ v2).setCell ⟨g, 3, none⟩ v3).setCell ⟨g, 4, none⟩ v4) := by
  have hs : (((((w.setCell ⟨g, 0, none⟩ v0).setCell ⟨g, 1, none⟩ v1).setCell ⟨g, 2, none⟩ v2).setCell ⟨g, 3, none⟩ v3).setCell ⟨g, 4, none⟩ v4).heap.size = w.heap.size := size5
  have h5 := below5 (b := g) v0 v1 v2 v3 v4 (Below.refl g w) (Nat.le_refl _)
  have hg := fun k (hk : k ≠ g) => heap5 (W := w) v0 v1 v2 v3 v4 hk
  refine ⟨by rw [hg o (Ne.symm ho)]; exact h.obj, ?_, ?_, h.pos, h.out, by rw [hs]; exact h.le, h.kind, h.rise, h.len, h.wt⟩
  · obtain ⟨D, n, h1, h2, h3⟩ := h.map
    exact ⟨D, n, h1.kept (row := some g) ⟨h5.os, h5.tape, h5.output, h5.size, fun k hk hn => hg k (fun e => hn (by rw [e]))⟩ (fun e => hm (Option.some.inj e).symm), h2, h3⟩
  · exact Rep.carry (Nat.le_refl _) (Nat.le_refl _) (fun k _ hk => hg k (by omega)) _ _ h.rep

theorem objPost5 {o m lo hi : Nat} {v : JV} {an ai : Option Addr} {cn ci : Nat} {y : ByteArray} {most : Nat} {st st' : PS} {it : JV} {w w3 : World} {lo1 hi1 g : Nat} {an' ai' : Option Addr} {cn' ci' : Nat} (h : pickObj v y most st = (it, st'))
    (hR : Rep w3 lo1 hi1 it (.agg #[.int .u8 it.kind, .int .i64 it.n, .string it.t, .slice an' it.names.length cn', .slice ai' it.items.length ci'])) (hwg : w.heap.size ≤ g) (hlo : g < lo1) (hhi : hi1 ≤ w3.heap.size) (hP : PickAt o m lo hi v an ai cn ci st' w3) (hT : Touch (fun b => b = o ∨ b = m) w w3) (ho : g ≠ o) (hm : g ≠ m) (hh : hi ≤ g) :
    ObjPostP o m lo hi v an ai cn ci y most st w (.returned (.agg #[.int .u8 it.kind, .int .i64 it.n, .string it.t, .slice an' it.names.length cn', .slice ai' it.items.length ci'])) (((((w3.setCell ⟨g, 0, none⟩ (.int .u8 it.kind)).setCell ⟨g, 1, none⟩ (.int .i64 it.n)).setCell ⟨g, 2, none⟩ (.string it.t)).setCell ⟨g, 3, none⟩ (.slice an' it.names.length cn')).setCell ⟨g, 4, none⟩ (.slice ai' it.items.length ci')) := by
  have hg := fun k (hk : k ≠ g) => heap5 (W := w3) (.int .u8 it.kind) (.int .i64 it.n) (.string it.t) (.slice an' it.names.length cn') (.slice ai' it.items.length ci') hk
  have hs := size5 (W := w3) (b := g) (v0 := .int .u8 it.kind) (v1 := .int .i64 it.n) (v2 := .string it.t) (v3 := .slice an' it.names.length cn') (v4 := .slice ai' it.items.length ci')
  have hR2 := Rep.carry (lo' := w.heap.size) (hi' := (((((w3.setCell ⟨g, 0, none⟩ (.int .u8 it.kind)).setCell ⟨g, 1, none⟩ (.int .i64 it.n)).setCell ⟨g, 2, none⟩ (.string it.t)).setCell ⟨g, 3, none⟩ (.slice an' it.names.length cn')).setCell ⟨g, 4, none⟩ (.slice ai' it.items.length ci')).heap.size) (by omega) (by rw [hs]; exact hhi) (fun k h1 _ => hg k (by omega)) _ _ hR
  have hP2 := hP.set5 (.int .u8 it.kind) (.int .i64 it.n) (.string it.t) (.slice an' it.names.length cn') (.slice ai' it.items.length ci') ho hm hh
  have hT2 := ((((hT.setCell (p := ⟨g, 0, none⟩) (.inr hwg) (.int .u8 it.kind)).setCell (p := ⟨g, 1, none⟩) (.inr hwg) (.int .i64 it.n)).setCell (p := ⟨g, 2, none⟩) (.inr hwg) (.string it.t)).setCell (p := ⟨g, 3, none⟩) (.inr hwg) (.slice an' it.names.length cn')).setCell (p := ⟨g, 4, none⟩) (.inr hwg) (.slice ai' it.items.length ci')
  unfold ObjPostP
  rw [h]
  exact ⟨⟨an', cn', ai', ci', rfl, hR2⟩, hP2, hT2⟩
theorem objPost0 {o m lo hi : Nat} {v : JV} {an ai : Option Addr} {cn ci : Nat} {y : ByteArray} {most : Nat} {st st' : PS} {w w3 : World} (h : pickObj v y most st = (zeroJ, st'))
    (hP : PickAt o m lo hi v an ai cn ci st' w3) (hT : Touch (fun b => b = o ∨ b = m) w w3) (ho : w.heap.size ≠ o) (hm : w.heap.size ≠ m) (hh : hi ≤ w.heap.size) :
    ObjPostP o m lo hi v an ai cn ci y most st w (.returned zeroAgg) (((((w3.setCell ⟨w.heap.size, 0, none⟩ (.int .u8 0)).setCell ⟨w.heap.size, 1, none⟩ (.int .i64 0)).setCell ⟨w.heap.size, 2, none⟩ (.string { data := #[] })).setCell ⟨w.heap.size, 3, none⟩ (.slice none 0 0)).setCell ⟨w.heap.size, 4, none⟩ (.slice none 0 0)) :=
  objPost5 (it := zeroJ) (an' := none) (ai' := none) (cn' := 0) (ci' := 0) (lo1 := w.heap.size + 1) (hi1 := 0) h (rep_zeroJW _ _ _) (Nat.le_refl _) (by omega) (by omega) hP hT ho hm hh

set_option maxHeartbeats 4000000 in
set_option maxRecDepth 100000 in
theorem takeObj (o m lo hi : Nat) (v : JV) (an ai : Option Addr) (cn ci : Nat) (y : ByteArray) (most : Nat) (st : PS) (w : World) (hP : PickAt o m lo hi v an ai cn ci st w) (hy : y.size ≤ 4294967296) (ha : st.asked.length ≤ 4294967296) (p1 : Nat) (g1 : w.heap[p1]? = some (.cells #[.int .i64 most] 3 (0, 0))) :
    Calls Tryz.prog 107 #[.pointer (some ⟨o, 0, none⟩), .string y, .func (.func 108) #[] #[.pointer (some ⟨p1, 0, none⟩)]] w (ObjPostP o m lo hi v an ai cn ci y most st w) := by
  have ho : o < w.heap.size := heap_lt hP.obj
  have hm : m < w.heap.size := by obtain ⟨D, n, h, _⟩ := hP.map; exact h.lt
  have hle := hP.le
  obtain ⟨W2, hW2⟩ : ∃ W2, W2 = (w.alloc (.cells #[.int .u8 0, .int .i64 0, .string { data := #[] }, .slice none 0 0, .slice none 0 0] 30)).alloc (.cells #[.int .u8 0, .int .i64 0, .string { data := #[] }, .slice none 0 0, .slice none 0 0] 30) := ⟨_, rfl⟩
  have hz1 : (w.alloc (.cells #[.int .u8 0, .int .i64 0, .string { data := #[] }, .slice none 0 0, .slice none 0 0] 30)).heap.size = w.heap.size + 1 := by simp
  have hz2 : W2.heap.size = w.heap.size + 2 := by rw [hW2]; simp
  have hb2 : Below w.heap.size w W2 := by rw [hW2]; exact ((Below.refl _ _).alloc (Nat.le_refl _) _).alloc (by simp) _
  have hr6 : W2.rowIs w.heap.size 30 5 (pick5 (.int .u8 0) (.int .i64 0) (.string { data := #[] }) (.slice none 0 0) (.slice none 0 0)) := by rw [hW2]; exact (rowIs_box5 w (.int .u8 0) (.int .i64 0) (.string { data := #[] }) (.slice none 0 0) (.slice none 0 0) 30).alloc _
  have hr7 : W2.rowIs (w.heap.size + 1) 30 5 (pick5 (.int .u8 0) (.int .i64 0) (.string { data := #[] }) (.slice none 0 0) (.slice none 0 0)) := by
    have := rowIs_box5 (w.alloc (.cells #[.int .u8 0, .int .i64 0, .string { data := #[] }, .slice none 0 0, .slice none 0 0] 30)) (.int .u8 0) (.int .i64 0) (.string { data := #[] }) (.slice none 0 0) (.slice none 0 0) 30
    rw [hz1, ← hW2] at this
    exact this
  have HP := Lib.hid (hP.below hb2)
  have HG1 := Lib.hid ((hb2.block _ (heap_lt g1)).trans g1)
  have HO := Lib.hid (And.intro ho (And.intro hm (And.intro hle hz2)))
  have HB2 := Lib.hid hb2
  have HR6 := Lib.hid hr6
  have HR7 := Lib.hid hr7
  have HW := Lib.hid hW2
  clear hP g1 ho hm hle hz1 hz2 hb2 hr6 hr7 hW2
  have c6 : W2.cell? ⟨o, 6, none⟩ = some (.int .i64 st.err) := box_cell HP.out.obj rfl
  have c0 : W2.cell? ⟨o, 0, none⟩ = some (.int .u8 5) := (box_cell (j := 0) HP.out.obj rfl).trans (by rw [HP.out.kind]; rfl)
  by_cases he : st.err = 0
  · rw [he] at c6
    have HE := Lib.hid he
    clear he
    have c1 : W2.cell? ⟨o, 1, none⟩ = some (.int .i64 v.n) := box_cell HP.out.obj rfl
    have c2 : W2.cell? ⟨o, 2, none⟩ = some (.string v.t) := box_cell HP.out.obj rfl
    have c3 : W2.cell? ⟨o, 3, none⟩ = some (.slice an v.names.length cn) := box_cell HP.out.obj rfl
    have c4 : W2.cell? ⟨o, 4, none⟩ = some (.slice ai v.items.length ci) := box_cell HP.out.obj rfl
    have HR := Lib.hid HP.out.rep
    rw [HP.out.kind] at HR
    have HG := Lib.hid (valueGet v y _ W2 lo hi HP.out.wt HP.out.pos HP.out.le HR.out HP.out.kind HP.out.rise HP.out.len)
    go_enter Tryz.func107, Tryz.ntmps107
    go_upto_region 2 with fail
    rw [← HW.out]
    go_wp2_with fail
    refine (pickErr o 0 5 W2 c6 c0 (fun _ => rfl)).mono ?_
    rintro r w' ⟨rfl, h'⟩
    subst h'
    go_wp2_with fail
    refine HG.out.mono ?_
    clear HG c0 c1 c2 c3 c4 c6 HR
    rintro e w1 ⟨hh, hb1⟩
    have HB1 := Lib.hid hb1
    have HR6a := Lib.hid (below_row hb1 HR6.out HR6.out.lt)
    have HR7a := Lib.hid (below_row hb1 HR7.out HR7.out.lt)
    have hz := hb1.size
    clear hb1
    rcases hh with ⟨r, hr1, hr2, hre, an', cn', ai', ci', rfl, hrep⟩ | ⟨hno, rfl⟩
    · have HL := Lib.hid (look_some HP.out.rise r hr1 hr2 hre)
      have HREP := Lib.hid hrep
      clear hre hrep
      generalize v.items[r] = it at *
      clear hr1 hr2
      have hb3 : Below W2.heap.size W2 (w1.alloc (.cells #[.int .u8 it.kind, .int .i64 it.n, .string it.t, .slice an' it.names.length cn', .slice ai' it.items.length ci'] 30)) := HB1.out.alloc HB1.out.size _
      have HC := Lib.hid (objConv it most p1 an' ai' cn' ci' (w1.alloc (.cells #[.int .u8 it.kind, .int .i64 it.n, .string it.t, .slice an' it.names.length cn', .slice ai' it.items.length ci'] 30)) (box_cell ((hb3.block _ (heap_lt HG1.out)).trans HG1.out) rfl))
      have HB3 := Lib.hid hb3
      clear hb3
      by_cases hk : objErr it most = 0
      · have HX := Lib.hid (show pickObj v y most st = (it, ⟨y :: st.asked, 0⟩) by unfold pickObj; rw [if_neg (by simp [HE.out]), HL.out]; obtain ⟨q1, q2⟩ := objErr_ok hk; simp only; rw [if_neg (by simp [q1]), if_neg q2])
        have HC := Lib.hid (show Calls Tryz.prog 108 #[.agg #[.int .u8 it.kind, .int .i64 it.n, .string it.t, .slice an' it.names.length cn', .slice ai' it.items.length ci'], .pointer (some ⟨p1, 0, none⟩)] (w1.alloc (.cells #[.int .u8 it.kind, .int .i64 it.n, .string it.t, .slice an' it.names.length cn', .slice ai' it.items.length ci'] 30)) (fun e w' => e = .returned (.tuple #[.agg #[.int .u8 it.kind, .int .i64 it.n, .string it.t, .slice an' it.names.length cn', .slice ai' it.items.length ci'], .int .i64 0]) ∧ Below (w1.alloc (.cells #[.int .u8 it.kind, .int .i64 it.n, .string it.t, .slice an' it.names.length cn', .slice ai' it.items.length ci'] 30)).heap.size (w1.alloc (.cells #[.int .u8 it.kind, .int .i64 it.n, .string it.t, .slice an' it.names.length cn', .slice ai' it.items.length ci'] 30)) w') from by have h := HC.out; rw [hk] at h; exact h)
        clear hk
        go_wp2_with fail
        refine HC.out.mono ?_
        clear HC
        rintro e w2 ⟨rfl, hb4⟩
        obtain ⟨W3, hW3⟩ : ∃ W3, W3 = w2.alloc (.cells #[.int .u8 it.kind, .int .i64 it.n, .string it.t, .slice an' it.names.length cn', .slice ai' it.items.length ci'] 30) := ⟨_, rfl⟩
        have hzz : w1.heap.size + 1 ≤ w2.heap.size := by have := hb4.size; simpa using this
        have hb5 : Below W2.heap.size W2 W3 := by rw [hW3]; exact (HB3.out.trans (hb4.mono HB3.out.size)).alloc (HB3.out.trans (hb4.mono HB3.out.size)).size _
        have hx10 : W3.heap[w2.heap.size]? = some (.cells #[.int .u8 it.kind, .int .i64 it.n, .string it.t, .slice an' it.names.length cn', .slice ai' it.items.length ci'] 30 (0, 0)) := by rw [hW3]; exact heap_alloc_new w2 _
        have hkeep : ∀ k, k < w1.heap.size → W3.heap[k]? = w1.heap[k]? := fun k hk => by rw [hW3, Below.heap_alloc _ _ _ (by omega), hb4.block k (by simp; omega), Below.heap_alloc _ _ _ hk]
        have HX10 := Lib.hid hx10
        have HKP := Lib.hid hkeep
        have HB5 := Lib.hid hb5
        have HZZ := Lib.hid hzz
        have HZ3 := Lib.hid (show W3.heap.size = w2.heap.size + 1 by rw [hW3]; simp)
        have HW3 := Lib.hid hW3
        have HP3 := Lib.hid (HP.out.below HB5.out)
        have HR6b := Lib.hid (below_row HB5.out HR6.out HR6.out.lt)
        clear hb4 hx10 hkeep hb5 hzz hW3 HB3
        have d5 : W3.cell? ⟨o, 5, none⟩ = some (.map (some m)) := box_cell HP3.out.obj rfl
        have hkey : keyOf Tryz.prog 9 (.string y) = some (.string y.data.toList) := keyOf_string_mk Tryz.underlying9 (by unfold maxLen; omega)
        obtain ⟨D, n, hown, hn, hD⟩ := HP3.out.map
        obtain ⟨c, hat, hc0, hc1, hc2⟩ := hD.2 y
        obtain ⟨c', hrun, hat', _⟩ := hown.lookup_int lawStr Tryz.underlying126 Tryz.underlying3 (zeroInt _) hkey
        rw [hat] at hat'
        simp only [DataW.lit.injEq, Lit.int.injEq, true_and] at hat'
        subst hat'
        have HD := Lib.hid (hD.cons y c hat)
        have HKY := Lib.hid hkey
        have HOW := Lib.hid hown
        clear hD hat hc2 hkey hown
        go_upto_region 9 with fail
        rw [← HW3.out]
        go_wp2_with (at_mapUpdate; refine wpList_mapUpdate_own _ rfl _ _ _ 126 rfl 9 3 lawStr Tryz.underlying126 _ m n D rfl HOW.out (by unfold maxLen; omega) _ _ _ rfl rfl HKY.out _ [] (plainElem_int Tryz.underlying3 (WalkArith.wf_i64 (by omega))) ?_; intro w3 hown3 hgrow3; have HOW3 := Lib.hid hown3; have HGR3 := Lib.hid hgrow3; clear hown3 hgrow3; have HNM := Lib.hid (show w2.heap.size ≠ m from by have := HO.out; have := HZZ.out; omega); have x0 : w3.cell? ⟨w2.heap.size, 0, none⟩ = _ := box_cell ((HGR3.out.block _ (heap_lt HX10.out) (fun e => HNM.out (Option.some.inj e))).trans HX10.out) rfl; have x1 : w3.cell? ⟨w2.heap.size, 1, none⟩ = _ := box_cell ((HGR3.out.block _ (heap_lt HX10.out) (fun e => HNM.out (Option.some.inj e))).trans HX10.out) rfl; have x2 : w3.cell? ⟨w2.heap.size, 2, none⟩ = _ := box_cell ((HGR3.out.block _ (heap_lt HX10.out) (fun e => HNM.out (Option.some.inj e))).trans HX10.out) rfl; have x3 : w3.cell? ⟨w2.heap.size, 3, none⟩ = _ := box_cell ((HGR3.out.block _ (heap_lt HX10.out) (fun e => HNM.out (Option.some.inj e))).trans HX10.out) rfl; have x4 : w3.cell? ⟨w2.heap.size, 4, none⟩ = _ := box_cell ((HGR3.out.block _ (heap_lt HX10.out) (fun e => HNM.out (Option.some.inj e))).trans HX10.out) rfl; have hr6 := HR6b.out.of_block (HGR3.out.block _ HR6b.out.lt (fun e => by have := Option.some.inj e; have := HO.out; omega)); have t0 := hr6.cell (i := 0) (by decide); have t1 := hr6.cell (i := 1) (by decide); have t2 := hr6.cell (i := 2) (by decide); have t3 := hr6.cell (i := 3) (by decide); have t4 := hr6.cell (i := 4) (by decide); have s0 := hr6.frozen 0; have s1 := hr6.frozen 1; have s2 := hr6.frozen 2; have s3 := hr6.frozen 3; have s4 := hr6.frozen 4; simp only [pick5] at t0 t1 t2 t3 t4; have HR6c := Lib.hid hr6; clear hr6)
        have HP4 := Lib.hid (HP3.out.ask y HGR3.out HOW3.out (by omega) HD.out)
        have HT := Lib.hid (show Touch (fun b => b = o ∨ b = m) w w3 from by
          have h1 := HB2.out.trans (HB5.out.mono HB2.out.size)
          have h2 := HGR3.out
          exact ⟨by rw [h2.os, h1.os], by rw [h2.tape, h1.tape], by rw [h2.output, h1.output], Nat.le_trans h1.size h2.size, fun k hk hs => by rw [h2.block k (Nat.lt_of_lt_of_le hk h1.size) (fun e => hs (.inr (Option.some.inj e))), h1.block k hk]⟩)
        have HRE := Lib.hid (Rep.carry (lo' := W2.heap.size) (hi' := w1.heap.size) (Nat.le_refl _) (Nat.le_refl _) (fun k h1 h2 => (HGR3.out.block k (by have := HZ3.out; have := HZZ.out; omega) (fun e => by have := Option.some.inj e; have := HO.out; omega)).trans (HKP.out k h2)) _ _ HREP.out)
        have HSZ := Lib.hid (show w1.heap.size ≤ w3.heap.size from by have := HGR3.out.size; have := HZ3.out; have := HZZ.out; omega)
        rw [HE.out] at HP4
        have HNO := Lib.hid (show w.heap.size ≠ o ∧ w.heap.size ≠ m from by have := HO.out; omega)
        go_wp2
        refine bodyPost_ret (results_cell_row Tryz.results107 _ _ w.heap.size 30 _ (0, 0) _ rfl (row5_heap (set5 _ _ _ _ _ HR6c.out)) Tryz.underlying30 rfl (by kernel_rfl)) rfl ?_
        exact objPost5 HX.out HRE.out (Nat.le_refl _) (by have := HO.out; omega) HSZ.out HP4.out HT.out HNO.out.1 HNO.out.2 HO.out.2.2.1
      · have HX := Lib.hid (show pickObj v y most st = (zeroJ, ⟨st.asked, objErr it most⟩) by unfold pickObj; rw [if_neg (by simp [HE.out]), HL.out]; exact objErr_no hk)
        obtain ⟨er, her⟩ : ∃ er, er = objErr it most := ⟨_, rfl⟩
        have HC := Lib.hid (show Calls Tryz.prog 108 #[.agg #[.int .u8 it.kind, .int .i64 it.n, .string it.t, .slice an' it.names.length cn', .slice ai' it.items.length ci'], .pointer (some ⟨p1, 0, none⟩)] (w1.alloc (.cells #[.int .u8 it.kind, .int .i64 it.n, .string it.t, .slice an' it.names.length cn', .slice ai' it.items.length ci'] 30)) (fun e w' => e = .returned (.tuple #[zeroAgg, .int .i64 er]) ∧ Below (w1.alloc (.cells #[.int .u8 it.kind, .int .i64 it.n, .string it.t, .slice an' it.names.length cn', .slice ai' it.items.length ci'] 30)).heap.size (w1.alloc (.cells #[.int .u8 it.kind, .int .i64 it.n, .string it.t, .slice an' it.names.length cn', .slice ai' it.items.length ci'] 30)) w') from by have h := HC.out; rw [if_neg hk, ← her] at h; exact h)
        rw [← her] at HX hk
        have hk' : (er != 0) = true := by simpa using hk
        have hk2 : (er == 0) = false := by simpa using hk
        clear hk her
        go_wp2_with fail
        refine HC.out.mono ?_
        clear HC
        rintro e w2 ⟨rfl, hb4⟩
        have HBX := Lib.hid (HB3.out.trans (hb4.mono HB3.out.size))
        clear hb4 HB3
        unfold zeroAgg
        obtain ⟨W3, hW3⟩ : ∃ W3, W3 = w2.alloc (.cells #[.int .u8 0, .int .i64 0, .string { data := #[] }, .slice none 0 0, .slice none 0 0] 30) := ⟨_, rfl⟩
        have hb5 : Below W2.heap.size W2 W3 := by rw [hW3]; exact HBX.out.alloc HBX.out.size _
        have HP3 := Lib.hid (HP.out.below hb5)
        have hr6 := below_row hb5 HR6.out HR6.out.lt
        have hr7 := below_row hb5 HR7.out HR7.out.lt
        have HB5 := Lib.hid hb5
        have HR6b := Lib.hid hr6
        have HR7b := Lib.hid hr7
        have HW3 := Lib.hid hW3
        clear hb5 hr6 hr7 hW3
        have d6 : W3.cell? ⟨o, 6, none⟩ = some (.int .i64 0) := (box_cell (j := 6) HP3.out.obj rfl).trans (by rw [HE.out]; rfl)
        have d0 : W3.cell? ⟨o, 0, none⟩ = some (.int .u8 5) := (box_cell (j := 0) HP3.out.obj rfl).trans (by rw [HP.out.kind]; rfl)
        have d7 : W3.frozen? ⟨o, 6, none⟩ = false := by simp [World.frozen?, HP3.out.obj]
        go_upto_region 9 with fail
        rw [← HW3.out]
        go_wp2_with fail
        refine (pickFail o er W3 d6 d0 d7).mono ?_
        clear d6 d0 d7
        rintro e w3 ⟨rfl, h3⟩
        have HT3 := Lib.hid (show Touch (fun b => b = o) W3 w3 from by rw [h3]; exact Touch.setCell (S := fun b => b = o) (p := ⟨o, 6, none⟩) (Touch.refl _ _) (.inl rfl) _)
        have HP4 := Lib.hid (show PickAt o m lo hi v an ai cn ci ⟨st.asked, er⟩ w3 from by rw [h3]; exact HP3.out.fail er)
        clear h3
        have hr6 := HT3.out.row HR6b.out (by have := HO.out; omega)
        have hr7 := HT3.out.row HR7b.out (by have := HO.out; omega)
        have t0 := hr6.cell (i := 0) (by decide); have t1 := hr6.cell (i := 1) (by decide); have t2 := hr6.cell (i := 2) (by decide); have t3 := hr6.cell (i := 3) (by decide); have t4 := hr6.cell (i := 4) (by decide)
        have s0 := hr6.frozen 0; have s1 := hr6.frozen 1; have s2 := hr6.frozen 2; have s3 := hr6.frozen 3; have s4 := hr6.frozen 4
        have z0 := hr7.cell (i := 0) (by decide); have z1 := hr7.cell (i := 1) (by decide); have z2 := hr7.cell (i := 2) (by decide); have z3 := hr7.cell (i := 3) (by decide); have z4 := hr7.cell (i := 4) (by decide)
        simp only [pick5] at t0 t1 t2 t3 t4 z0 z1 z2 z3 z4
        have HR6c := Lib.hid hr6
        clear hr6 hr7
        have HT := Lib.hid (show Touch (fun b => b = o ∨ b = m) w w3 from (Touch.of_below (HB2.out.trans (HB5.out.mono HB2.out.size)) (Nat.le_refl _)).trans (HT3.out.mono (fun k _ h => .inl h)))
        have HNO := Lib.hid (show w.heap.size ≠ o ∧ w.heap.size ≠ m from by have := HO.out; omega)
        go_wp2
        refine bodyPost_ret (results_cell_row Tryz.results107 _ _ w.heap.size 30 _ (0, 0) _ rfl (row5_heap (set5 _ _ _ _ _ HR6c.out)) Tryz.underlying30 rfl (by kernel_rfl)) rfl ?_
        exact objPost0 HX.out HP4.out HT.out HNO.out.1 HNO.out.2 HO.out.2.2.1
    · have HX := Lib.hid (show pickObj v y most st = (zeroJ, ⟨st.asked, 6⟩) by unfold pickObj; rw [if_neg (by simp [HE.out]), show v.look y = none from lookL_none _ _ _ hno])
      clear hno
      have HBX := Lib.hid HB1.out
      unfold zeroAgg
      obtain ⟨W3, hW3⟩ : ∃ W3, W3 = w1.alloc (.cells #[.int .u8 0, .int .i64 0, .string { data := #[] }, .slice none 0 0, .slice none 0 0] 30) := ⟨_, rfl⟩
      have hb5 : Below W2.heap.size W2 W3 := by rw [hW3]; exact HBX.out.alloc HBX.out.size _
      have HP3 := Lib.hid (HP.out.below hb5)
      have hr6 := below_row hb5 HR6.out HR6.out.lt
      have hr7 := below_row hb5 HR7.out HR7.out.lt
      have HB5 := Lib.hid hb5
      have HR6b := Lib.hid hr6
      have HR7b := Lib.hid hr7
      have HW3 := Lib.hid hW3
      clear hb5 hr6 hr7 hW3
      have d6 : W3.cell? ⟨o, 6, none⟩ = some (.int .i64 0) := (box_cell (j := 6) HP3.out.obj rfl).trans (by rw [HE.out]; rfl)
      have d0 : W3.cell? ⟨o, 0, none⟩ = some (.int .u8 5) := (box_cell (j := 0) HP3.out.obj rfl).trans (by rw [HP.out.kind]; rfl)
      have d7 : W3.frozen? ⟨o, 6, none⟩ = false := by simp [World.frozen?, HP3.out.obj]
      go_upto_region 5 with fail
      rw [← HW3.out]
      go_wp2_with fail
      refine (pickFail o 6 W3 d6 d0 d7).mono ?_
      clear d6 d0 d7
      rintro e w3 ⟨rfl, h3⟩
      have HT3 := Lib.hid (show Touch (fun b => b = o) W3 w3 from by rw [h3]; exact Touch.setCell (S := fun b => b = o) (p := ⟨o, 6, none⟩) (Touch.refl _ _) (.inl rfl) _)
      have HP4 := Lib.hid (show PickAt o m lo hi v an ai cn ci ⟨st.asked, 6⟩ w3 from by rw [h3]; exact HP3.out.fail 6)
      clear h3
      have hr6 := HT3.out.row HR6b.out (by have := HO.out; omega)
      have hr7 := HT3.out.row HR7b.out (by have := HO.out; omega)
      have t0 := hr6.cell (i := 0) (by decide); have t1 := hr6.cell (i := 1) (by decide); have t2 := hr6.cell (i := 2) (by decide); have t3 := hr6.cell (i := 3) (by decide); have t4 := hr6.cell (i := 4) (by decide)
      have s0 := hr6.frozen 0; have s1 := hr6.frozen 1; have s2 := hr6.frozen 2; have s3 := hr6.frozen 3; have s4 := hr6.frozen 4
      have z0 := hr7.cell (i := 0) (by decide); have z1 := hr7.cell (i := 1) (by decide); have z2 := hr7.cell (i := 2) (by decide); have z3 := hr7.cell (i := 3) (by decide); have z4 := hr7.cell (i := 4) (by decide)
      simp only [pick5] at t0 t1 t2 t3 t4 z0 z1 z2 z3 z4
      have HR6c := Lib.hid hr6
      clear hr6 hr7
      have HT := Lib.hid (show Touch (fun b => b = o ∨ b = m) w w3 from (Touch.of_below (HB2.out.trans (HB5.out.mono HB2.out.size)) (Nat.le_refl _)).trans (HT3.out.mono (fun k _ h => .inl h)))
      have HNO := Lib.hid (show w.heap.size ≠ o ∧ w.heap.size ≠ m from by have := HO.out; omega)
      go_wp2
      refine bodyPost_ret (results_cell_row Tryz.results107 _ _ w.heap.size 30 _ (0, 0) _ rfl (row5_heap (set5 _ _ _ _ _ HR6c.out)) Tryz.underlying30 rfl (by kernel_rfl)) rfl ?_
      exact objPost0 HX.out HP4.out HT.out HNO.out.1 HNO.out.2 HO.out.2.2.1
  · have he' : (st.err == 0) = false := by simpa using he
    have he2 : (st.err != 0) = true := by simpa using he
    have HX := Lib.hid (show pickObj v y most st = (zeroJ, st) by unfold pickObj; rw [if_pos he])
    clear he
    have hr6 := HR6.out
    have hr7 := HR7.out
    have t0 := hr6.cell (i := 0) (by decide); have t1 := hr6.cell (i := 1) (by decide); have t2 := hr6.cell (i := 2) (by decide); have t3 := hr6.cell (i := 3) (by decide); have t4 := hr6.cell (i := 4) (by decide)
    have s0 := hr6.frozen 0; have s1 := hr6.frozen 1; have s2 := hr6.frozen 2; have s3 := hr6.frozen 3; have s4 := hr6.frozen 4
    have z0 := hr7.cell (i := 0) (by decide); have z1 := hr7.cell (i := 1) (by decide); have z2 := hr7.cell (i := 2) (by decide); have z3 := hr7.cell (i := 3) (by decide); have z4 := hr7.cell (i := 4) (by decide)
    simp only [pick5] at t0 t1 t2 t3 t4 z0 z1 z2 z3 z4
    clear hr6 hr7
    have HT := Lib.hid (show Touch (fun b => b = o ∨ b = m) w W2 from Touch.of_below HB2.out (Nat.le_refl _))
    have HNO := Lib.hid (show w.heap.size ≠ o ∧ w.heap.size ≠ m from by have := HO.out; omega)
    go_enter Tryz.func107, Tryz.ntmps107
    go_upto_region 2 with fail
    rw [← HW.out]
    go_wp2_with fail
    refine (pickErr o st.err 5 W2 c6 c0 (fun h => by simp [h] at he')).mono ?_
    rintro r w' ⟨rfl, h'⟩
    subst h'
    go_wp2
    refine bodyPost_ret (results_cell_row Tryz.results107 _ _ w.heap.size 30 _ (0, 0) _ rfl (row5_heap (set5 _ _ _ _ _ HR6.out)) Tryz.underlying30 rfl (by kernel_rfl)) rfl ?_
    exact objPost0 HX.out HP.out HT.out HNO.out.1 HNO.out.2 HO.out.2.2.1

set_option maxHeartbeats 2000000 in
set_option maxRecDepth 100000 in
theorem pickObjF (o m lo hi : Nat) (v : JV) (an ai : Option Addr) (cn ci : Nat) (y : ByteArray) (most : Nat) (st : PS) (w : World) (hP : PickAt o m lo hi v an ai cn ci st w) (hy : y.size ≤ 4294967296) (ha : st.asked.length ≤ 4294967296) :
    Calls Tryz.prog 65 #[.pointer (some ⟨o, 0, none⟩), .string y, .int .i64 most] w (ObjPostP o m lo hi v an ai cn ci y most st w) := by
  have ho : o < w.heap.size := heap_lt hP.obj
  have hm : m < w.heap.size := by obtain ⟨D, n, h, _⟩ := hP.map; exact h.lt
  have hle := hP.le
  obtain ⟨W2, hW2⟩ : ∃ W2, W2 = (w.alloc (.cells #[.int .i64 most] 3)).alloc (.cells #[.int .u8 0, .int .i64 0, .string { data := #[] }, .slice none 0 0, .slice none 0 0] 30) := ⟨_, rfl⟩
  have hz1 : (w.alloc (.cells #[.int .i64 most] 3)).heap.size = w.heap.size + 1 := by simp
  have hz2 : W2.heap.size = w.heap.size + 2 := by rw [hW2]; simp
  have hb2 : Below w.heap.size w W2 := by rw [hW2]; exact ((Below.refl _ _).alloc (Nat.le_refl _) _).alloc (by simp) _
  have hg : W2.heap[w.heap.size]? = some (.cells #[.int .i64 most] 3 (0, 0)) := by rw [hW2, Below.heap_alloc _ _ _ (by simp)]; exact heap_alloc_new w _
  have hr7 : W2.rowIs (w.heap.size + 1) 30 5 (pick5 (.int .u8 0) (.int .i64 0) (.string { data := #[] }) (.slice none 0 0) (.slice none 0 0)) := by
    have := rowIs_box5 (w.alloc (.cells #[.int .i64 most] 3)) (.int .u8 0) (.int .i64 0) (.string { data := #[] }) (.slice none 0 0) (.slice none 0 0) 30
    rw [hz1, ← hW2] at this
    exact this
  have HT := Lib.hid (takeObj o m lo hi v an ai cn ci y most st W2 (hP.below hb2) hy ha w.heap.size hg)
  have HO := Lib.hid (And.intro ho (And.intro hm (And.intro hle hz2)))
  have HB2 := Lib.hid hb2
  have HR7 := Lib.hid hr7
  have HW := Lib.hid hW2
  clear hP ho hm hle hz1 hz2 hb2 hg hr7 hW2
  go_enter Tryz.func65, Tryz.ntmps65
  go_upto_region 1 with fail
  rw [← HW.out]
  go_wp2_with fail
  refine HT.out.mono ?_
  clear HT
  rintro e w3 ⟨⟨an', cn', ai', ci', rfl, hrep⟩, hp, ht⟩
  obtain ⟨it, st', hx⟩ : ∃ it st', pickObj v y most st = (it, st') := ⟨_, _, rfl⟩
  rw [hx] at hrep hp ⊢
  have HX := Lib.hid hx
  have HREP := Lib.hid hrep
  have HP3 := Lib.hid hp
  have HT3 := Lib.hid ht
  have hr7 := ht.row HR7.out (by have := HO.out; omega)
  clear hx hrep hp ht
  have t0 := hr7.cell (i := 0) (by decide); have t1 := hr7.cell (i := 1) (by decide); have t2 := hr7.cell (i := 2) (by decide); have t3 := hr7.cell (i := 3) (by decide); have t4 := hr7.cell (i := 4) (by decide)
  have s0 := hr7.frozen 0; have s1 := hr7.frozen 1; have s2 := hr7.frozen 2; have s3 := hr7.frozen 3; have s4 := hr7.frozen 4
  simp only [pick5] at t0 t1 t2 t3 t4
  have HR7c := Lib.hid hr7
  clear hr7
  have HT4 := Lib.hid (show Touch (fun b => b = o ∨ b = m) w w3 from (Touch.of_below HB2.out (Nat.le_refl _)).trans HT3.out)
  have HNO := Lib.hid (show w.heap.size + 1 ≠ o ∧ w.heap.size + 1 ≠ m ∧ hi ≤ w.heap.size + 1 from by have := HO.out; omega)
  go_wp2
  refine bodyPost_ret (results_cell_row Tryz.results65 _ _ (w.heap.size + 1) 30 _ (0, 0) _ rfl (row5_heap (set5 _ _ _ _ _ HR7c.out)) Tryz.underlying30 rfl (by kernel_rfl)) rfl ?_
  exact objPost5 HX.out HREP.out (Nat.le_succ _) (by have := HO.out; omega) (Nat.le_refl _) HP3.out HT4.out HNO.out.1 HNO.out.2.1 HNO.out.2.2
end Go.Proofs.YtgghgcilpfdbjaaGreatDoor

namespace Go.Proofs.YtgghgcilpfdbjaaGreatDoor
open Go.RowKit

theorem pickNumOf (n : Int) (w : World) : Calls Tryz.prog 46 #[.int .i64 n] w fun e w' => e = .returned (.agg #[.int .u8 2, .int .i64 n, .string { data := #[] }, .slice none 0 0, .slice none 0 0]) ∧ w' = w.alloc (.cells #[.int .u8 2, .int .i64 n, .string { data := #[] }, .slice none 0 0, .slice none 0 0] 30) := by
  go_enter Tryz.func46, Tryz.ntmps46
  go_wp2
  exact bodyPost_ret (results_cell_row Tryz.results46 _ _ w.heap.size 30 _ (0, 0) _ rfl (heap_alloc_new w _) Tryz.underlying30 rfl (by kernel_rfl)) rfl ⟨rfl, rfl⟩
theorem lawNum (n : Int) (w : World) : Calls Tryz.prog 37 #[.int .i64 n] w fun e w' => e = .returned (.agg #[.int .u8 2, .int .i64 n, .string { data := #[] }, .slice none 0 0, .slice none 0 0]) ∧ w' = w.alloc (.cells #[.int .u8 2, .int .i64 n, .string { data := #[] }, .slice none 0 0, .slice none 0 0] 30) := by
  go_enter Tryz.func37, Tryz.ntmps37
  go_wp2
  exact bodyPost_ret (results_cell_row Tryz.results37 _ _ w.heap.size 30 _ (0, 0) _ rfl (heap_alloc_new w _) Tryz.underlying30 rfl (by kernel_rfl)) rfl ⟨rfl, rfl⟩
theorem lawText (t : ByteArray) (w : World) : Calls Tryz.prog 39 #[.string t] w fun e w' => e = .returned (.agg #[.int .u8 3, .int .i64 0, .string t, .slice none 0 0, .slice none 0 0]) ∧ w' = w.alloc (.cells #[.int .u8 3, .int .i64 0, .string t, .slice none 0 0, .slice none 0 0] 30) := by
  go_enter Tryz.func39, Tryz.ntmps39
  go_wp2
  exact bodyPost_ret (results_cell_row Tryz.results39 _ _ w.heap.size 30 _ (0, 0) _ rfl (heap_alloc_new w _) Tryz.underlying30 rfl (by kernel_rfl)) rfl ⟨rfl, rfl⟩
theorem lawObj (a b : Option Addr) (n c m d : Nat) (w : World) : Calls Tryz.prog 36 #[.slice a n c, .slice b m d] w fun e w' => e = .returned (.agg #[.int .u8 5, .int .i64 0, .string { data := #[] }, .slice a n c, .slice b m d]) ∧ w' = w.alloc (.cells #[.int .u8 5, .int .i64 0, .string { data := #[] }, .slice a n c, .slice b m d] 30) := by
  go_enter Tryz.func36, Tryz.ntmps36
  go_wp2
  exact bodyPost_ret (results_cell_row Tryz.results36 _ _ w.heap.size 30 _ (0, 0) _ rfl (heap_alloc_new w _) Tryz.underlying30 rfl (by kernel_rfl)) rfl ⟨rfl, rfl⟩
end Go.Proofs.YtgghgcilpfdbjaaGreatDoor

namespace Go.Proofs.YtgghgcilpfdbjaaGreatDoor
open Go.RowKit

/-- An object whose names and Items lie each in a block. -/
theorem rep_obj {w : World} {lo hi bn bi T T' : Nat} {ns : List ByteArray} {its : List JV} {csn cs : Array Value} (h1 : w.heap[bn]? = some (.cells csn T (0, 0))) (hn : ∀ i (h : i < ns.length), csn[i]? = some (.string ns[i]))
    (h2 : w.heap[bi]? = some (.cells cs T' (0, 0))) (hc : ∀ i (h : i < its.length), ∃ c0 c1 c2 c3 c4, cs[i * 5]? = some c0 ∧ cs[i * 5 + 1]? = some c1 ∧ cs[i * 5 + 2]? = some c2 ∧ cs[i * 5 + 3]? = some c3 ∧ cs[i * 5 + 4]? = some c4 ∧ Rep w lo hi its[i] (.agg #[c0, c1, c2, c3, c4]))
    (b1 : lo ≤ bn ∧ bn < hi) (b2 : lo ≤ bi ∧ bi < hi) {n m : Nat} (en : n = ns.length) (em : m = its.length) :
    Rep w lo hi (.mk 5 0 { data := #[] } ns its) (.agg #[.int .u8 5, .int .i64 0, .string { data := #[] }, .slice (some ⟨bn, 0, none⟩) n n, .slice (some ⟨bi, 0, none⟩) m m]) := by
  subst en em
  refine Rep.mk (v := .mk 5 0 { data := #[] } ns its) (Nat.le_refl _) (Nat.le_refl _) (.inr ⟨bn, 0, rfl, b1.1, b1.2, fun i hi => ?_⟩) (.inr ⟨bi, 0, rfl, b2.1, b2.2, ⟨_, _, _, h2, fun _ => rfl⟩, RepL.of_at fun i hi => ?_⟩)
  · rw [Nat.zero_add]; exact box_cell h1 (hn i hi)
  · obtain ⟨c0, c1, c2, c3, c4, k0, k1, k2, k3, k4, hr⟩ := hc i hi
    rw [Nat.zero_add]
    exact ⟨c0, c1, c2, c3, c4, box_cell h2 k0, box_cell h2 k1, box_cell h2 k2, box_cell h2 k3, box_cell h2 k4, by simp [World.frozen?, h2], hr⟩
theorem lawNumB (n : Int) (w : World) : Calls Tryz.prog 37 #[.int .i64 n] w fun e w' => e = .returned (.agg #[.int .u8 2, .int .i64 n, .string { data := #[] }, .slice none 0 0, .slice none 0 0]) ∧ Below w.heap.size w w' :=
  (lawNum n w).mono fun e w' h => ⟨h.1, by rw [h.2]; exact (Below.refl _ _).alloc (Nat.le_refl _) _⟩
theorem lawTextB (t : ByteArray) (w : World) : Calls Tryz.prog 39 #[.string t] w fun e w' => e = .returned (.agg #[.int .u8 3, .int .i64 0, .string t, .slice none 0 0, .slice none 0 0]) ∧ Below w.heap.size w w' :=
  (lawText t w).mono fun e w' h => ⟨h.1, by rw [h.2]; exact (Below.refl _ _).alloc (Nat.le_refl _) _⟩
theorem rep_numS (w : World) (lo hi : Nat) (n : Int) : Rep w lo hi (numJ n) (.agg #[.int .u8 2, .int .i64 n, .string { data := #[] }, .slice none 0 0, .slice none 0 0]) := by
  unfold numJ Rep
  exact ⟨none, 0, none, 0, rfl, Nat.le_refl _, Nat.le_refl _, .inl rfl, .inl rfl⟩

def SnapObjPost (lo : Nat) (k e : ByteArray) (m : JV) (n : Int) (w : World) (r : Ending) (w' : World) : Prop :=
  ∃ an ai, r = .returned (.agg #[.int .u8 5, .int .i64 0, .string { data := #[] }, .slice an 4 4, .slice ai 4 4]) ∧ Rep w' lo w'.heap.size (snapO k e m n) (.agg #[.int .u8 5, .int .i64 0, .string { data := #[] }, .slice an 4 4, .slice ai 4 4]) ∧ Below w.heap.size w w'

set_option maxHeartbeats 4000000 in
set_option maxRecDepth 100000 in
theorem lawSnapshot (kd ex : ByteArray) (m : JV) (an ai : Option Addr) (cn ci : Nat) (n : Int) (w : World) (lo hi : Nat) (hR : Rep w lo hi m (.agg #[.int .u8 m.kind, .int .i64 m.n, .string m.t, .slice an m.names.length cn, .slice ai m.items.length ci])) (hlo : lo ≤ w.heap.size) (hhi : hi ≤ w.heap.size) :
    Calls Tryz.prog 38 #[.string kd, .string ex, .agg #[.int .u8 m.kind, .int .i64 m.n, .string m.t, .slice an m.names.length cn, .slice ai m.items.length ci], .int .i64 n] w (SnapObjPost lo kd ex m n w) := by
  obtain ⟨W2, hW2⟩ : ∃ W2, W2 = (w.alloc (.cells #[.int .u8 m.kind, .int .i64 m.n, .string m.t, .slice an m.names.length cn, .slice ai m.items.length ci] 30)).alloc (.cells #[.int .u8 0, .int .i64 0, .string { data := #[] }, .slice none 0 0, .slice none 0 0] 30) := ⟨_, rfl⟩
  have hz2 : W2.heap.size = w.heap.size + 2 := by rw [hW2]; simp
  have hb2 : Below w.heap.size w W2 := by rw [hW2]; exact ((Below.refl _ _).alloc (Nat.le_refl _) _).alloc (by simp) _
  have hx : W2.heap[w.heap.size]? = some (.cells #[.int .u8 m.kind, .int .i64 m.n, .string m.t, .slice an m.names.length cn, .slice ai m.items.length ci] 30 (0, 0)) := by rw [hW2, Below.heap_alloc _ _ _ (by simp)]; exact heap_alloc_new w _
  have hr0 : W2.rowIs (w.heap.size + 1) 30 5 (pick5 (.int .u8 0) (.int .i64 0) (.string { data := #[] }) (.slice none 0 0) (.slice none 0 0)) := by
    have := rowIs_box5 (w.alloc (.cells #[.int .u8 m.kind, .int .i64 m.n, .string m.t, .slice an m.names.length cn, .slice ai m.items.length ci] 30)) (.int .u8 0) (.int .i64 0) (.string { data := #[] }) (.slice none 0 0) (.slice none 0 0) 30
    rw [show (w.alloc (.cells #[.int .u8 m.kind, .int .i64 m.n, .string m.t, .slice an m.names.length cn, .slice ai m.items.length ci] 30)).heap.size = w.heap.size + 1 by simp, ← hW2] at this
    exact this
  have HC := Lib.hid (show ∀ w' : World, Below W2.heap.size W2 w' → w'.cell? ⟨w.heap.size, 0, none⟩ = some (.int .u8 m.kind) ∧ w'.cell? ⟨w.heap.size, 1, none⟩ = some (.int .i64 m.n) ∧ w'.cell? ⟨w.heap.size, 2, none⟩ = some (.string m.t) ∧ w'.cell? ⟨w.heap.size, 3, none⟩ = some (.slice an m.names.length cn) ∧ w'.cell? ⟨w.heap.size, 4, none⟩ = some (.slice ai m.items.length ci) from fun w' h => by
    have x := (h.block _ (heap_lt hx)).trans hx
    exact ⟨box_cell x rfl, box_cell x rfl, box_cell x rfl, box_cell x rfl, box_cell x rfl⟩)
  have HR := Lib.hid hR
  have HLH := Lib.hid (And.intro hlo hhi)
  have HR0 := Lib.hid hr0
  have HB2 := Lib.hid hb2
  have HW := Lib.hid hW2
  have HZ := Lib.hid hz2
  clear hR hlo hhi hW2 hb2 hx hr0 hz2
  go_enter Tryz.func38, Tryz.ntmps38
  go_upto_region 1 with fail
  rw [← HW.out]
  obtain ⟨V, hV⟩ : ∃ V : List MP, V = [.row W2.heap.size 4 9 #[.string { data := #[95, 116, 121, 112, 101] }, .string { data := #[101, 120, 112, 105, 114, 101, 115] }, .string { data := #[109, 101, 116, 97] }, .string { data := #[118, 101, 114, 115, 105, 111, 110] }], .con (.string kd), .con (.agg #[.int .u8 3, .int .i64 0, .string kd, .slice none 0 0, .slice none 0 0]), .con (.string ex), .con (.agg #[.int .u8 3, .int .i64 0, .string ex, .slice none 0 0, .slice none 0 0]), .con (.agg #[.int .u8 m.kind, .int .i64 m.n, .string m.t, .slice an m.names.length cn, .slice ai m.items.length ci]), .con (.int .i64 n), .con (.agg #[.int .u8 2, .int .i64 n, .string { data := #[] }, .slice none 0 0, .slice none 0 0]), .row W2.heap.size 4 30 #[.int .u8 3, .int .i64 0, .string kd, .slice none 0 0, .slice none 0 0, .int .u8 3, .int .i64 0, .string ex, .slice none 0 0, .slice none 0 0, .int .u8 m.kind, .int .i64 m.n, .string m.t, .slice an m.names.length cn, .slice ai m.items.length ci, .int .u8 2, .int .i64 n, .string { data := #[] }, .slice none 0 0, .slice none 0 0]] := ⟨_, rfl⟩
  have HV := Lib.hid hV
  clear hV
  refine wp_region_inv 9 (fun d a' w' => ∃ x9 x10 x11 x12 x13 x14 x15 x16 x17, a' = ⟨#[.string kd, .string ex, .agg #[.int .u8 m.kind, .int .i64 m.n, .string m.t, .slice an m.names.length cn, .slice ai m.items.length ci], .int .i64 n, undef, undef, .pointer (some ⟨w.heap.size, 0, none⟩), undef, .pointer (some ⟨w.heap.size + 1, 0, none⟩), x9, x10, x11, x12, x13, x14, x15, x16, x17, undef], []⟩ ∧ RegI W2 V d w' [x9, x10, x11, x12, x13, x14, x15, x16, x17]) (by kernel_rfl) (by kernel_rfl) ?first ?step ?last
  case first => exact ⟨_, _, _, _, _, _, _, _, _, rfl, RegI.first _ _ _ (by rw [HV.out]; rfl)⟩
  case step =>
    rintro d a' w' ⟨x9, x10, x11, x12, x13, x14, x15, x16, x17, rfl, h⟩ q hq hn hw
    rcases q with _ | _ | _ | _ | _ | _ | _ | _ | _ | q
    · refine wpOp_step rfl fun K hK => ?_
      go_simp
      exact hK _ _ ⟨_, x10, x11, x12, x13, x14, x15, x16, x17, rfl, h.new _ 0 _ (.row W2.heap.size 4 9 #[.string { data := #[95, 116, 121, 112, 101] }, .string { data := #[101, 120, 112, 105, 114, 101, 115] }, .string { data := #[109, 101, 116, 97] }, .string { data := #[118, 101, 114, 115, 105, 111, 110] }]) (by rw [HV.out]; rfl) (IsRow.made _ h.1.size)⟩
    · refine wpOp_step rfl fun K hK => ?_
      go_simp
      exact hK _ _ ⟨x9, _, x11, x12, x13, x14, x15, x16, x17, rfl, h.same 1 _ (.con (.string kd)) (by rw [HV.out]; rfl) rfl⟩
    · obtain rfl : x10 = .string kd := h.get 1 (hw _ rfl ⟨1, .data⟩ (by simp) rfl) (.con (.string kd)) (by rw [HV.out]; rfl) _ rfl
      obtain ⟨q0, q1, q2, q3, q4⟩ := HC.out w' h.1
      refine wpOp_step rfl fun K hK => ?_
      go_simp
      refine (lawTextB kd w').mono ?_
      rintro e w2 ⟨rfl, hb2⟩
      exact hK _ _ ⟨x9, _, _, x12, x13, x14, x15, x16, x17, rfl, h.did hb2 2 _ (.con (.agg #[.int .u8 3, .int .i64 0, .string kd, .slice none 0 0, .slice none 0 0])) (by rw [HV.out]; rfl) rfl⟩
    · refine wpOp_step rfl fun K hK => ?_
      go_simp
      exact hK _ _ ⟨x9, x10, x11, _, x13, x14, x15, x16, x17, rfl, h.same 3 _ (.con (.string ex)) (by rw [HV.out]; rfl) rfl⟩
    · obtain rfl : x12 = .string ex := h.get 3 (hw _ rfl ⟨3, .data⟩ (by simp) rfl) (.con (.string ex)) (by rw [HV.out]; rfl) _ rfl
      obtain ⟨q0, q1, q2, q3, q4⟩ := HC.out w' h.1
      refine wpOp_step rfl fun K hK => ?_
      go_simp
      refine (lawTextB ex w').mono ?_
      rintro e w2 ⟨rfl, hb2⟩
      exact hK _ _ ⟨x9, x10, x11, _, _, x14, x15, x16, x17, rfl, h.did hb2 4 _ (.con (.agg #[.int .u8 3, .int .i64 0, .string ex, .slice none 0 0, .slice none 0 0])) (by rw [HV.out]; rfl) rfl⟩
    · obtain ⟨q0, q1, q2, q3, q4⟩ := HC.out w' h.1
      refine wpOp_step rfl fun K hK => ?_
      go_simp
      exact hK _ _ ⟨x9, x10, x11, x12, x13, _, x15, x16, x17, rfl, h.same 5 _ (.con (.agg #[.int .u8 m.kind, .int .i64 m.n, .string m.t, .slice an m.names.length cn, .slice ai m.items.length ci])) (by rw [HV.out]; rfl) rfl⟩
    · refine wpOp_step rfl fun K hK => ?_
      go_simp
      exact hK _ _ ⟨x9, x10, x11, x12, x13, x14, _, x16, x17, rfl, h.same 6 _ (.con (.int .i64 n)) (by rw [HV.out]; rfl) rfl⟩
    · obtain rfl : x15 = .int .i64 n := h.get 6 (hw _ rfl ⟨6, .data⟩ (by simp) rfl) (.con (.int .i64 n)) (by rw [HV.out]; rfl) _ rfl
      obtain ⟨q0, q1, q2, q3, q4⟩ := HC.out w' h.1
      refine wpOp_step rfl fun K hK => ?_
      go_simp
      refine (lawNumB n w').mono ?_
      rintro e w2 ⟨rfl, hb2⟩
      exact hK _ _ ⟨x9, x10, x11, x12, x13, x14, _, _, x17, rfl, h.did hb2 7 _ (.con (.agg #[.int .u8 2, .int .i64 n, .string { data := #[] }, .slice none 0 0, .slice none 0 0])) (by rw [HV.out]; rfl) rfl⟩
    · obtain rfl : x11 = .agg #[.int .u8 3, .int .i64 0, .string kd, .slice none 0 0, .slice none 0 0] := h.get 2 (hw _ rfl ⟨2, .data⟩ (by simp) rfl) (.con (.agg #[.int .u8 3, .int .i64 0, .string kd, .slice none 0 0, .slice none 0 0])) (by rw [HV.out]; rfl) _ rfl
      obtain rfl : x13 = .agg #[.int .u8 3, .int .i64 0, .string ex, .slice none 0 0, .slice none 0 0] := h.get 4 (hw _ rfl ⟨4, .data⟩ (by simp) rfl) (.con (.agg #[.int .u8 3, .int .i64 0, .string ex, .slice none 0 0, .slice none 0 0])) (by rw [HV.out]; rfl) _ rfl
      obtain rfl : x14 = .agg #[.int .u8 m.kind, .int .i64 m.n, .string m.t, .slice an m.names.length cn, .slice ai m.items.length ci] := h.get 5 (hw _ rfl ⟨5, .data⟩ (by simp) rfl) (.con (.agg #[.int .u8 m.kind, .int .i64 m.n, .string m.t, .slice an m.names.length cn, .slice ai m.items.length ci])) (by rw [HV.out]; rfl) _ rfl
      obtain rfl : x16 = .agg #[.int .u8 2, .int .i64 n, .string { data := #[] }, .slice none 0 0, .slice none 0 0] := h.get 7 (hw _ rfl ⟨7, .data⟩ (by simp) rfl) (.con (.agg #[.int .u8 2, .int .i64 n, .string { data := #[] }, .slice none 0 0, .slice none 0 0])) (by rw [HV.out]; rfl) _ rfl
      refine wpOp_step rfl fun K hK => ?_
      go_simp
      exact hK _ _ ⟨x9, x10, _, x12, _, _, x15, _, _, rfl, h.new _ 8 _ (.row W2.heap.size 4 30 #[.int .u8 3, .int .i64 0, .string kd, .slice none 0 0, .slice none 0 0, .int .u8 3, .int .i64 0, .string ex, .slice none 0 0, .slice none 0 0, .int .u8 m.kind, .int .i64 m.n, .string m.t, .slice an m.names.length cn, .slice ai m.items.length ci, .int .u8 2, .int .i64 n, .string { data := #[] }, .slice none 0 0, .slice none 0 0]) (by rw [HV.out]; rfl) (IsRow.made _ h.1.size)⟩
    · omega
  case last =>
    rintro d a' w' hall ⟨x9, x10, x11, x12, x13, x14, x15, x16, x17, rfl, h⟩
    have hle := h.1
    obtain ⟨b9, k9, rfl, m9⟩ := h.get 0 (hall _ (by omega)) (.row W2.heap.size 4 9 #[.string { data := #[95, 116, 121, 112, 101] }, .string { data := #[101, 120, 112, 105, 114, 101, 115] }, .string { data := #[109, 101, 116, 97] }, .string { data := #[118, 101, 114, 115, 105, 111, 110] }]) (by rw [HV.out]; rfl) _ rfl
    obtain ⟨b17, k17, rfl, m17⟩ := h.get 8 (hall _ (by omega)) (.row W2.heap.size 4 30 #[.int .u8 3, .int .i64 0, .string kd, .slice none 0 0, .slice none 0 0, .int .u8 3, .int .i64 0, .string ex, .slice none 0 0, .slice none 0 0, .int .u8 m.kind, .int .i64 m.n, .string m.t, .slice an m.names.length cn, .slice ai m.items.length ci, .int .u8 2, .int .i64 n, .string { data := #[] }, .slice none 0 0, .slice none 0 0]) (by rw [HV.out]; rfl) _ rfl
    have HLE := Lib.hid hle
    clear h hall hle HV
    have hb3 := HLE.out
    have hres := below_row hb3 HR0.out (by have := HZ.out; omega)
    have HRS := Lib.hid hres
    have HBX := Lib.hid (show Below W2.heap.size W2 w' from hb3)
    have HM9 := Lib.hid m9
    have HM17 := Lib.hid m17
    have HK := Lib.hid (And.intro k9 k17)
    clear hb3 hres m9 m17 k9 k17
    go_wp2_with fail
    refine (lawObj _ _ _ _ _ _ w').mono ?_
    rintro e w3 ⟨rfl, h3⟩
    have hb3 : Below w'.heap.size w' w3 := by rw [h3]; exact (Below.refl _ _).alloc (Nat.le_refl _) _
    have hz3 : w'.heap.size < w3.heap.size := by rw [h3]; simp
    clear h3
    have HB3 := Lib.hid (HBX.out.trans (hb3.mono HBX.out.size))
    have HBB := Lib.hid hb3
    have hres := below_row hb3 HRS.out HRS.out.lt
    have HR3 := Lib.hid hres
    have s0 := hres.frozen 0; have s1 := hres.frozen 1; have s2 := hres.frozen 2; have s3 := hres.frozen 3; have s4 := hres.frozen 4
    have t0 := hres.cell (i := 0) (by decide); have t1 := hres.cell (i := 1) (by decide); have t2 := hres.cell (i := 2) (by decide); have t3 := hres.cell (i := 3) (by decide); have t4 := hres.cell (i := 4) (by decide)
    simp only [pick5] at t0 t1 t2 t3 t4
    clear hres hb3
    go_wp2
    refine bodyPost_ret (results_cell_row Tryz.results38 _ _ (w.heap.size + 1) 30 _ (0, 0) _ rfl (row5_heap (set5 _ _ _ _ _ HR3.out)) Tryz.underlying30 rfl (by kernel_rfl)) rfl ?_
    refine ⟨some ⟨b9, 0, none⟩, some ⟨b17, 0, none⟩, rfl, ?_, below5 _ _ _ _ _ (HB2.out.trans (HB3.out.mono HB2.out.size)) (by omega)⟩
    have hz := HZ.out
    have hlh := HLH.out
    have hk := HK.out
    have l9 : b9 < w'.heap.size := heap_lt HM9.out
    have l17 : b17 < w'.heap.size := heap_lt HM17.out
    have hbf := below5 (b := w.heap.size + 1) (.int .u8 5) (.int .i64 0) (.string { data := #[] }) (.slice (some ⟨b9, 0, none⟩) 4 4) (.slice (some ⟨b17, 0, none⟩) 4 4) (HB2.out.trans (HB3.out.mono HB2.out.size)) (by omega)
    have hsf : ∀ {v0 v1 v2 v3 v4 : Value}, (((((w3.setCell ⟨w.heap.size + 1, 0, none⟩ v0).setCell ⟨w.heap.size + 1, 1, none⟩ v1).setCell ⟨w.heap.size + 1, 2, none⟩ v2).setCell ⟨w.heap.size + 1, 3, none⟩ v3).setCell ⟨w.heap.size + 1, 4, none⟩ v4).heap.size = w3.heap.size := size5
    rw [hsf]
    refine rep_obj (ns := [typN, expN, metN, verN]) (its := [txtJ kd, txtJ ex, m, numJ n]) ((heap5 _ _ _ _ _ (by omega)).trans ((HBB.out.block _ l9).trans HM9.out)) (fun i hi => ?_) ((heap5 _ _ _ _ _ (by omega)).trans ((HBB.out.block _ l17).trans HM17.out)) (fun i hi => ?_) ⟨by omega, by omega⟩ ⟨by omega, by omega⟩ rfl rfl
    · match i, hi with
      | 0, _ => rfl
      | 1, _ => rfl
      | 2, _ => rfl
      | 3, _ => rfl
    · match i, hi with
      | 0, _ => exact ⟨_, _, _, _, _, rfl, rfl, rfl, rfl, rfl, rep_txt _ _ _ _⟩
      | 1, _ => exact ⟨_, _, _, _, _, rfl, rfl, rfl, rfl, rfl, rep_txt _ _ _ _⟩
      | 2, _ => exact ⟨_, _, _, _, _, rfl, rfl, rfl, rfl, rfl, HR.out.below hbf hlh.2 (Nat.le_refl _) (by have := HB2.out.size; have := HB3.out.size; omega)⟩
      | 3, _ => exact ⟨_, _, _, _, _, rfl, rfl, rfl, rfl, rfl, rep_numS _ _ _ _⟩
end Go.Proofs.YtgghgcilpfdbjaaGreatDoor

namespace Go.Proofs.YtgghgcilpfdbjaaGreatDoor
open Go.RowKit Go.Shelf Go.Sort

def flatM (ms : List Mem) : List Value := ms.flatMap encM
theorem flatM_len (ms : List Mem) : (flatM ms).length = ms.length * 6 := by
  unfold flatM
  induction ms with
  | nil => rfl
  | cons v r ih => rw [List.flatMap_cons, List.length_append, ih]; show 6 + r.length * 6 = (r.length + 1) * 6; omega
theorem flatM_get (ms : List Mem) (i c : Nat) (hi : i < ms.length) (hc : c < 6) : (flatM ms)[i * 6 + c]? = some ((encM ms[i])[c]'(by rw [encM_len]; exact hc)) := by
  induction ms generalizing i with
  | nil => simp at hi
  | cons v r ih =>
    unfold flatM
    rw [List.flatMap_cons]
    rcases i with _ | i
    · rw [List.getElem?_append_left (by rw [encM_len]; omega)]
      simp
    · rw [List.getElem?_append_right (by rw [encM_len]; omega), encM_len]
      have := ih i (by simpa using hi)
      rw [show (i + 1) * 6 + c - 6 = i * 6 + c by omega]
      simpa [flatM] using this
/-- Members in a row of the call's own; where each one's value lies. -/
structure MemsAt (W0 : Nat) (w : World) (v : Value) (ms : List Mem) (its : List JV) : Prop where
  own : w.ownsRow W0 74 6 v ms.length (flatM ms)
  len : its.length = ms.length
  reps : ∀ i (h : i < its.length), ∃ lo hi, W0 ≤ lo ∧ hi ≤ w.heap.size ∧ (∀ b, v.ownBlock = some b → ¬ (lo ≤ b ∧ b < hi)) ∧ Rep w lo hi its[i] (ms[i]'(by omega)).val
theorem MemsAt.below {W0 : Nat} {w w' : World} {v : Value} {ms : List Mem} {its : List JV} (h : MemsAt W0 w v ms its) (hb : Below w.heap.size w w') : MemsAt W0 w' v ms its :=
  ⟨owns_below h.own hb, h.len, fun i hi => by
    obtain ⟨lo, hi', h1, h2, h3, hr⟩ := h.reps i hi
    exact ⟨lo, hi', h1, Nat.le_trans h2 hb.size, h3, Rep.carry (Nat.le_refl _) (Nat.le_refl _) (fun b _ h => hb.block b (by omega)) _ _ hr⟩⟩
theorem MemsAt.nil (W0 : Nat) (w : World) : MemsAt W0 w (.slice none 0 0) [] [] := ⟨World.ownsRow_nil _ _ _ _, rfl, fun i h => by simp at h⟩
/-- One member more. -/
theorem MemsAt.snoc {W0 : Nat} {w w' : World} {v v' : Value} {ms : List Mem} {its : List JV} (h : MemsAt W0 w v ms its) (m : Mem) (it : JV) (lo hi : Nat) (h1 : W0 ≤ lo) (h2 : hi ≤ w.heap.size) (h3 : ∀ b, v.ownBlock = some b → ¬ (lo ≤ b ∧ b < hi)) (hr : Rep w lo hi it m.val)
    (hg : w.grownBy w' v.ownBlock) (hown : w'.ownsRow W0 74 6 v' (ms.length + 1) (flatM ms ++ encM m)) (hat : v'.ownBlock = v.ownBlock ∨ ∃ g, v'.ownBlock = some g ∧ w.heap.size ≤ g) : MemsAt W0 w' v' (ms ++ [m]) (its ++ [it]) := by
  have hx : ∀ {lo hi : Nat}, hi ≤ w.heap.size → (∀ b, v.ownBlock = some b → ¬ (lo ≤ b ∧ b < hi)) → ∀ b, v'.ownBlock = some b → ¬ (lo ≤ b ∧ b < hi) := fun hz hn b hb => by
    rcases hat with e | ⟨g, e, hge⟩
    · exact hn b (by rw [← e]; exact hb)
    · rw [e] at hb; simp at hb; omega
  have hc : ∀ {lo hi : Nat} {it : JV} {x : Value}, hi ≤ w.heap.size → (∀ b, v.ownBlock = some b → ¬ (lo ≤ b ∧ b < hi)) → Rep w lo hi it x → Rep w' lo hi it x := fun hz hn hr =>
    Rep.carry (Nat.le_refl _) (Nat.le_refl _) (fun b hb1 hb2 => hg.block b (by omega) (fun e => hn b e.symm ⟨hb1, hb2⟩)) _ _ hr
  have hl := h.len
  refine ⟨?_, by simp [hl], fun i hi' => ?_⟩
  · have e : flatM (ms ++ [m]) = flatM ms ++ encM m := by simp [flatM]
    rw [e, List.length_append]; exact hown
  · by_cases e : i < its.length
    · obtain ⟨lo', hi'', k1, k2, k3, hr'⟩ := h.reps i e
      refine ⟨lo', hi'', k1, Nat.le_trans k2 hg.size, hx k2 k3, ?_⟩
      rw [List.getElem_append_left e, List.getElem_append_left (by omega)]
      exact hc k2 k3 hr'
    · obtain rfl : i = its.length := by simp at hi'; omega
      refine ⟨lo, hi, h1, Nat.le_trans h2 hg.size, hx h2 h3, ?_⟩
      rw [List.getElem_append_right (by omega), List.getElem_append_right (by omega)]
      simpa using hc h2 h3 hr
/-- The first member, in a row laid anew. -/
theorem MemsAt.one {W0 : Nat} {w : World} {blk : Nat} (m : Mem) (it : JV) (lo hi : Nat) (h0 : W0 ≤ blk) (h1 : W0 ≤ lo) (h2 : hi ≤ blk) (hr : Rep w lo hi it m.val) (hx : w.heap[blk]? = some (.cells (encM m).toArray 74 (0, 0))) : MemsAt W0 w (.slice (some ⟨blk, 0, none⟩) 1 1) [m] [it] := by
  have hb := heap_lt hx
  refine ⟨⟨rfl, .inr ⟨blk, 1, _, rfl, h0, hx, Nat.le_refl _, by unfold maxLen; omega, rfl, ?_⟩⟩, rfl, fun i hi' => ?_⟩
  · simp [flatM, encM]
  · obtain rfl : i = 0 := by simp at hi'; omega
    exact ⟨lo, hi, h1, by omega, fun b hb => by simp [Value.ownBlock] at hb; omega, hr⟩
/-- The row as pick.ObjectOf takes it. -/
theorem holds_own {W0 : Nat} {w : World} {v : Value} {ms : List Mem} (ho : w.ownsRow W0 74 6 v ms.length (flatM ms)) (h0 : 0 < ms.length) : ∃ g cap, v = .slice (some ⟨g, 0, none⟩) ms.length cap ∧ g < w.heap.size ∧ HoldsK encM 6 w g 0 ms.toArray := by
  rcases ho.2 with ⟨rfl, h00⟩ | ⟨g, cap, cur, rfl, hg, hh, hc, hm, hs, ht⟩
  · omega
  · refine ⟨g, cap, rfl, heap_lt hh, fun j hj => ⟨?_, by simp [World.frozen?, hh]⟩⟩
    have hj2 : j < ms.length * 6 := by simpa using hj
    have e : (⟨g, 0, none⟩ : Addr).add j = ⟨g, j, none⟩ := by unfold Addr.add; split <;> simp_all
    have hf := flatM_get ms (j / 6) (j % 6) (by omega) (by omega)
    rw [show j / 6 * 6 + j % 6 = j by omega] at hf
    have := ho.cells (g := g) rfl j _ hf
    rw [e] at this
    rw [Nat.zero_add, this, get_flatK encM 6 ms.toArray j (by simpa using hj2)]
    have h6 : j % 6 < (encM (ms[j / 6]'(by omega))).length := by rw [encM_len]; omega
    have h7 : ms.toArray[j / 6]! = ms[j / 6]'(by omega) := by rw [getElem!_pos _ _ (by simp; omega)]; simp
    rw [h7, getElem!_pos (encM (ms[j / 6]'(by omega))) (j % 6) h6]
    rfl
theorem MemsAt.holds {W0 : Nat} {w : World} {v : Value} {ms : List Mem} {its : List JV} (h : MemsAt W0 w v ms its) (h0 : 0 < ms.length) : ∃ g cap, v = .slice (some ⟨g, 0, none⟩) ms.length cap ∧ g < w.heap.size ∧ HoldsK encM 6 w g 0 ms.toArray := holds_own h.own h0
theorem rep_num (w : World) (lo hi : Nat) (n : Int) : Rep w lo hi (numJ n) (.agg #[.int .u8 2, .int .i64 n, .string { data := #[] }, .slice none 0 0, .slice none 0 0]) := by
  unfold numJ Rep
  exact ⟨none, 0, none, 0, rfl, Nat.le_refl _, Nat.le_refl _, .inl rfl, .inl rfl⟩
theorem heap_2nd (w : World) (o o' : Obj) : ((w.alloc o).alloc o').heap[w.heap.size + 1]? = some o' := by
  have := heap_alloc_new (w.alloc o) o'
  rwa [show (w.alloc o).heap.size = w.heap.size + 1 by simp] at this
def memN (nm : ByteArray) (n : Int) : Mem := ⟨nm, 2, n, { data := #[] }, none, 0, 0, none, 0, 0⟩
end Go.Proofs.YtgghgcilpfdbjaaGreatDoor
