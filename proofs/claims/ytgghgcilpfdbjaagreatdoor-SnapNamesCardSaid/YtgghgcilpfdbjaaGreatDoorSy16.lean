/- What pin an object is, hashes and all, plain. No program in sight. -/
import Derived.Test.YtgghgcilpfdbjaaGreatDoorSy12
import Derived.Test.YtgghgcilpfdbjaaGreatDoorSy14
import Derived.Test.YtgghgcilpfdbjaaGreatDoorSy01
import Derived.Test.YtgghgcilpfdbjaaGreatDoorSy15
import Derived.Test.YtgghgcilpfdbjaaGreatDoorSy08
import Derived.Test.YtgghgcilpfdbjaaGreatDoorSy00
import Derived.Test.YtgghgcilpfdbjaaGreatDoorSy09

namespace Go.Proofs.YtgghgcilpfdbjaaGreatDoor
open Go.RowKit
def numJ (n : Int) : JV := .mk 2 n { data := #[] } [] []
def verN : ByteArray := { data := #[118, 101, 114, 115, 105, 111, 110] }
def lenN : ByteArray := { data := #[108, 101, 110, 103, 116, 104] }
def hasN : ByteArray := { data := #[104, 97, 115, 104, 101, 115] }
def typN : ByteArray := { data := #[95, 116, 121, 112, 101] }
def expN : ByteArray := { data := #[101, 120, 112, 105, 114, 101, 115] }
def metN : ByteArray := { data := #[109, 101, 116, 97] }
def snpN : ByteArray := { data := #[115, 110, 97, 112, 115, 104, 111, 116] }
def tgtN : ByteArray := { data := #[116, 97, 114, 103, 101, 116, 115] }
def aJsN : ByteArray := { data := #[97, 46, 106, 115, 111, 110] }
def xN : ByteArray := { data := #[120] }
def nineN : ByteArray := { data := #[49, 57, 55, 48, 45, 48, 49, 45, 48, 49, 84, 48, 48, 58, 48, 48, 58, 48, 57, 90] }
def pickNum (v : JV) (y : ByteArray) (lo hi : Int) (st : PS) : Int × PS :=
 if st.err ≠ 0 then (0, st) else match v.look y with
 | none => (0, ⟨st.asked, 6⟩)
 | some it => if it.kind ≠ 2 then (0, ⟨st.asked, 10⟩) else if it.n < lo ∨ hi < it.n then (0, ⟨st.asked, 1⟩) else (it.n, ⟨y :: st.asked, 0⟩)
def pickObj (v : JV) (y : ByteArray) (most : Nat) (st : PS) : JV × PS :=
 if st.err ≠ 0 then (zeroJ, st) else match v.look y with
 | none => (zeroJ, ⟨st.asked, 6⟩)
 | some it => if it.kind ≠ 5 then (zeroJ, ⟨st.asked, 10⟩) else if most < it.items.length then (zeroJ, ⟨st.asked, 5⟩) else (it, ⟨y :: st.asked, 0⟩)
def pickHas (v : JV) (y : ByteArray) (st : PS) : Bool := decide (st.err = 0) && (v.look y).isSome
def PS.fail (st : PS) (e : Int) : PS := if st.err = 0 then ⟨st.asked, e⟩ else st
def pinOfJ (f : ByteArray) (v : JV) : PinV × Int :=
 if (roleOf f).isNone || !v.mayB then (pinZ, 3) else if v.kind ≠ 5 then (pinZ, 10) else
 let a := pickNum v verN 1 1099511627776 ⟨[], 0⟩
 let b := if pickHas v lenN a.2 then pickNum v lenN 0 1099511627776 a.2 else (-1, a.2)
 let d := pickDone v b.2
 if d ≠ 0 then (pinZ, d) else (⟨f, a.1, b.1, []⟩, 0)
def metaOf : List ByteArray → List JV → PS → List PinV → List PinV × PS
 | f :: fs, x :: xs, st, acc => if (pinOfJ f x).2 ≠ 0 then (acc, st.fail (pinOfJ f x).2) else metaOf fs xs st (acc ++ [(pinOfJ f x).1])
 | _, _, st, acc => (acc, st)
def snapZ : SnapV := ⟨0, 0, []⟩
def snapOfJ (v : JV) : SnapV × Int :=
 if !v.mayB then (snapZ, 3) else if v.kind ≠ 5 then (snapZ, 10) else
 let a := pickText v typN ⟨[], 0⟩
 let st1 := if a.1 ≠ snpN then a.2.fail 13 else a.2
 let b := pickNum v verN 1 1099511627776 st1
 let c := pickText v expN b.2
 let r := readD c.1.data.toList
 let m := pickObj v metN 256 (c.2.fail r.2)
 let l := metaOf m.1.names m.1.items m.2 []
 let d := pickDone v l.2
 if d ≠ 0 then (snapZ, d) else (⟨b.1, r.1, l.1⟩, 0)
def hashJ (l : List Key2) : JV := .mk 5 0 { data := #[] } (l.map (·.1)) (l.map fun k => txtJ k.2)
def pinM (p : PinV) : List (ByteArray × JV) := (if p.hs.isEmpty then [] else [(hasN, hashJ p.hs)]) ++ (if p.len = -1 then [] else [(lenN, numJ p.len)]) ++ [(verN, numJ p.ver)]
def pinJ (p : PinV) : JV := .mk 5 0 { data := #[] } ((pinM p).map (·.1)) ((pinM p).map (·.2))
def metaJ (l : List PinV) : JV := .mk 5 0 { data := #[] } (l.map (·.name)) (l.map pinJ)
def snapO (kind exp : ByteArray) (m : JV) (n : Int) : JV := .mk 5 0 { data := #[] } [typN, expN, metN, verN] [txtJ kind, txtJ exp, m, numJ n]
def snapJ (s : SnapV) : JV := snapO snpN ⟨(dateL s.exp.toNat).toArray⟩ (metaJ s.pins) s.ver
def pinE : PinV := ⟨aJsN, 2, 7, []⟩
def snapE : SnapV := ⟨1, 9, [pinE]⟩
theorem sn_0 : snapOfJ (snapO snpN nineN (metaJ [pinE]) 1) = (snapE, 0) := by kernel_rfl
theorem sn_1 : snapOfJ (snapO tgtN nineN (metaJ [pinE]) 1) = (snapZ, 13) := by kernel_rfl
theorem sn_2 : snapOfJ (snapO snpN nineN (metaJ [pinE]) 0) = (snapZ, 1) := by kernel_rfl
theorem sn_3 : snapOfJ (snapO snpN xN (metaJ [pinE]) 1) = (snapZ, 3) := by kernel_rfl
theorem sn_j : snapJ snapE = snapO snpN nineN (metaJ [pinE]) 1 := by kernel_rfl
theorem sn_may : maySnap snapE = true ∧ mayPin pinE = true := by decide +kernel
end Go.Proofs.YtgghgcilpfdbjaaGreatDoor

namespace Go.Proofs.YtgghgcilpfdbjaaGreatDoor
open Go.RowKit Go.WideMaps Go.Maps
def numErr (k n l h : Int) : Int := if k ≠ 2 then 10 else if n < l ∨ h < n then 1 else 0
def numVal (k n l h : Int) : Int := if k ≠ 2 then 0 else if n < l ∨ h < n then 0 else n
theorem numErr_ok {k n l h : Int} (e : numErr k n l h = 0) : k = 2 ∧ ¬ (n < l ∨ h < n) := by
 unfold numErr at e
 split at e
 · omega
 split at e
 · omega
 · exact ⟨by omega, by omega⟩
theorem numVal_ok {k n l h : Int} (e : numErr k n l h = 0) : numVal k n l h = n := by
 obtain ⟨a, b⟩ := numErr_ok e
 unfold numVal; rw [if_neg (by simp [a]), if_neg b]
theorem numVal_no {k n l h : Int} (e : ¬ numErr k n l h = 0) : numVal k n l h = 0 := by
 unfold numErr at e; unfold numVal
 split
 · rfl
 split
 · rfl
 · rename_i a b; rw [if_neg a, if_neg b] at e; omega
theorem numErr_no {it : JV} {a : List ByteArray} {l h : Int} {X : Int × PS} (e : ¬ numErr it.kind it.n l h = 0) :
   (if it.kind ≠ 2 then ((0 : Int), (⟨a, 10⟩ : PS)) else if it.n < l ∨ h < it.n then (0, ⟨a, 1⟩) else X) = (0, ⟨a, numErr it.kind it.n l h⟩) := by
 unfold numErr at e ⊢
 split
 · rfl
 split
 · rfl
 · rename_i a b; rw [if_neg a, if_neg b] at e; omega
set_option maxHeartbeats 400000 in
theorem numConv (k n : Int) (t : ByteArray) (a b : Value) (l h : Int) (p1 p2 : Nat) (w : World) (c1 : w.cell? ⟨p1, 0, none⟩ = some (.int .i64 l)) (c2 : w.cell? ⟨p2, 0, none⟩ = some (.int .i64 h)) :
   Calls Tryz.prog 103 #[.agg #[.int .u8 k, .int .i64 n, .string t, a, b], .pointer (some ⟨p1, 0, none⟩), .pointer (some ⟨p2, 0, none⟩)] w fun e w' => e = .returned (.tuple #[.int .i64 (numVal k n l h), .int .i64 (numErr k n l h)]) ∧ Below w.heap.size w w' := by
 have hb : Below w.heap.size w (w.alloc (.cells #[.int .u8 k, .int .i64 n, .string t, a, b] 30)) := (Below.refl _ _).alloc (Nat.le_refl _) _
 have d1 : (w.alloc (.cells #[.int .u8 k, .int .i64 n, .string t, a, b] 30)).cell? ⟨p1, 0, none⟩ = some (.int .i64 l) := by rw [hb.cell (World.block_lt_of_cell? w _ c1)]; exact c1
 have d2 : (w.alloc (.cells #[.int .u8 k, .int .i64 n, .string t, a, b] 30)).cell? ⟨p2, 0, none⟩ = some (.int .i64 h) := by rw [hb.cell (World.block_lt_of_cell? w _ c2)]; exact c2
 have HB := Lib.hid hb
 clear hb
 by_cases hk : k = 2
 · subst hk
   by_cases h1 : n < l
   · have HV := Lib.hid (show numVal 2 n l h = 0 ∧ numErr 2 n l h = 1 by unfold numVal numErr; simp [h1])
     have h1' : decide (n < l) = true := by simpa using h1
     go_enter Tryz.func103, Tryz.ntmps103
     go_wp2
     go_ret2
     exact ⟨by rw [HV.out.1, HV.out.2]; rfl, HB.out.trans (by first | exact Below.refl _ _ | exact (Below.refl _ _).drew)⟩
   · have h1' : decide (n < l) = false := by simpa using h1
     by_cases h2 : h < n
     · have HV := Lib.hid (show numVal 2 n l h = 0 ∧ numErr 2 n l h = 1 by unfold numVal numErr; simp [h2])
       have h2' : decide (h < n) = true := by simpa using h2
       go_enter Tryz.func103, Tryz.ntmps103
       go_wp2
       go_ret2
       exact ⟨by rw [HV.out.1, HV.out.2]; rfl, HB.out.trans (by first | exact Below.refl _ _ | exact (Below.refl _ _).drew)⟩
     · have HV := Lib.hid (show numVal 2 n l h = n ∧ numErr 2 n l h = 0 by unfold numVal numErr; simp [h1, h2])
       have h2' : decide (h < n) = false := by simpa using h2
       clear h1 h2
       go_enter Tryz.func103, Tryz.ntmps103
       go_wp2
       go_ret2
       exact ⟨by rw [HV.out.1, HV.out.2]; rfl, HB.out.trans (by first | exact Below.refl _ _ | exact (Below.refl _ _).drew)⟩
 · have HV := Lib.hid (show numVal k n l h = 0 ∧ numErr k n l h = 10 by unfold numVal numErr; simp [hk])
   have hk' : (k == 2) = false := by simpa using hk
   clear hk
   go_enter Tryz.func103, Tryz.ntmps103
   go_wp2
   go_ret2
   exact ⟨by rw [HV.out.1, HV.out.2]; rfl, HB.out⟩
def NumPost (o m lo hi : Nat) (v : JV) (an ai : Option Addr) (cn ci : Nat) (y : ByteArray) (l h : Int) (st : PS) (w : World) (e : Ending) (w' : World) : Prop :=
 e = .returned (.int .i64 (pickNum v y l h st).1) ∧ PickAt o m lo hi v an ai cn ci (pickNum v y l h st).2 w' ∧ Touch (fun b => b = o ∨ b = m) w w'
set_option maxHeartbeats 1000000 in
set_option maxRecDepth 100000 in
theorem takeNum (o m lo hi : Nat) (v : JV) (an ai : Option Addr) (cn ci : Nat) (y : ByteArray) (l h : Int) (st : PS) (w : World) (hP : PickAt o m lo hi v an ai cn ci st w) (hy : y.size ≤ 4294967296) (ha : st.asked.length ≤ 4294967296) (p1 p2 : Nat) (g1 : w.heap[p1]? = some (.cells #[.int .i64 l] 2 (0, 0))) (g2 : w.heap[p2]? = some (.cells #[.int .i64 h] 2 (0, 0))) :
   Calls Tryz.prog 102 #[.pointer (some ⟨o, 0, none⟩), .string y, .func (.func 103) #[] #[.pointer (some ⟨p1, 0, none⟩), .pointer (some ⟨p2, 0, none⟩)]] w (NumPost o m lo hi v an ai cn ci y l h st w) := by
 have HP := Lib.hid hP
 have HG1 := Lib.hid g1
 have HG2 := Lib.hid g2
 clear hP g1 g2
 have c6 : w.cell? ⟨o, 6, none⟩ = some (.int .i64 st.err) := box_cell HP.out.obj rfl
 have c0 : w.cell? ⟨o, 0, none⟩ = some (.int .u8 5) := (box_cell (j := 0) HP.out.obj rfl).trans (by rw [HP.out.kind]; rfl)
 by_cases he : st.err = 0
 · rw [he] at c6
   have HE := Lib.hid he
   clear he
   have c1 : w.cell? ⟨o, 1, none⟩ = some (.int .i64 v.n) := box_cell HP.out.obj rfl
   have c2 : w.cell? ⟨o, 2, none⟩ = some (.string v.t) := box_cell HP.out.obj rfl
   have c3 : w.cell? ⟨o, 3, none⟩ = some (.slice an v.names.length cn) := box_cell HP.out.obj rfl
   have c4 : w.cell? ⟨o, 4, none⟩ = some (.slice ai v.items.length ci) := box_cell HP.out.obj rfl
   have HR := Lib.hid HP.out.rep
   rw [HP.out.kind] at HR
   have HG := Lib.hid (valueGet v y _ w lo hi HP.out.wt HP.out.pos HP.out.le HR.out HP.out.kind HP.out.rise HP.out.len)
   go_enter Tryz.func102, Tryz.ntmps102
   go_wp2_with fail
   refine (pickErr o 0 5 w c6 c0 (fun _ => rfl)).mono ?_
   rintro r w' ⟨rfl, rfl⟩
   go_wp2_with fail
   refine HG.out.mono ?_
   clear HG c0 c1 c2 c3 c4 c6
   rintro e w1 ⟨hh, hb1⟩
   have HB1 := Lib.hid hb1
   clear hb1
   rcases hh with ⟨r, hr1, hr2, hre, an', cn', ai', ci', rfl, hrep⟩ | ⟨hno, rfl⟩
   · have HL := Lib.hid (look_some HP.out.rise r hr1 hr2 hre)
     clear hre hrep
     generalize v.items[r] = it at *
     have hb2 : Below w.heap.size w (w1.alloc (.cells #[.int .u8 it.kind, .int .i64 it.n, .string it.t, .slice an' it.names.length cn', .slice ai' it.items.length ci'] 30)) := HB1.out.alloc HB1.out.size _
     have HB2 := Lib.hid hb2
     have HC := Lib.hid (numConv it.kind it.n it.t (.slice an' it.names.length cn') (.slice ai' it.items.length ci') l h p1 p2 (w1.alloc (.cells #[.int .u8 it.kind, .int .i64 it.n, .string it.t, .slice an' it.names.length cn', .slice ai' it.items.length ci'] 30)) (box_cell ((hb2.block _ (heap_lt HG1.out)).trans HG1.out) rfl) (box_cell ((hb2.block _ (heap_lt HG2.out)).trans HG2.out) rfl))
     clear hb2
     by_cases hk : numErr it.kind it.n l h = 0
     · have HK := Lib.hid hk
       have HX := Lib.hid (show pickNum v y l h st = (it.n, ⟨y :: st.asked, 0⟩) by unfold pickNum; rw [if_neg (by simp [HE.out]), HL.out]; obtain ⟨q1, q2⟩ := numErr_ok hk; simp only; rw [if_neg (by simp [q1]), if_neg q2])
       rw [numVal_ok hk, hk] at HC
       clear hk
       go_wp2_with fail
       refine HC.out.mono ?_
       clear HC
       rintro e w2 ⟨rfl, hb3⟩
       have HB3 := Lib.hid (HB2.out.trans (hb3.mono HB2.out.size))
       have HP3 := Lib.hid (HP.out.below HB3.out)
       clear hb3 HB2
       have d5 : w2.cell? ⟨o, 5, none⟩ = some (.map (some m)) := box_cell HP3.out.obj rfl
       have hkey : keyOf Tryz.prog 9 (.string y) = some (.string y.data.toList) := keyOf_string_mk Tryz.underlying9 (by unfold maxLen; omega)
       obtain ⟨D, n, hown, hn, hD⟩ := HP3.out.map
       obtain ⟨c, hat, hc0, hc1, hc2⟩ := hD.2 y
       obtain ⟨c', hrun, hat', _⟩ := hown.lookup_int lawStr Tryz.underlying126 Tryz.underlying3 (zeroInt _) hkey
       rw [hat] at hat'
       simp only [DataW.lit.injEq, Lit.int.injEq, true_and] at hat'
       subst hat'
       have HD := Lib.hid (hD.cons y c hat)
       have HKY := Lib.hid hkey
       have HOW := Lib.hid hown
       clear hD hat hc2 hkey hown
       go_wp2_with (at_mapUpdate; refine wpList_mapUpdate_own _ rfl _ _ _ 126 rfl 9 3 lawStr Tryz.underlying126 _ m n D rfl HOW.out (by unfold maxLen; omega) _ _ _ rfl rfl HKY.out _ [] (plainElem_int Tryz.underlying3 (WalkArith.wf_i64 (by omega))) ?_)
       intro w3 hown3 hgrow3
       have HP4 := Lib.hid (HP3.out.ask y hgrow3 hown3 (by omega) HD.out)
       have HT := Lib.hid (show Touch (fun b => b = o ∨ b = m) w w3 from ⟨by rw [hgrow3.os, HB3.out.os], by rw [hgrow3.tape, HB3.out.tape], by rw [hgrow3.output, HB3.out.output], Nat.le_trans HB3.out.size hgrow3.size, fun k hk hs => by rw [hgrow3.block k (Nat.lt_of_lt_of_le hk HB3.out.size) (fun e => hs (.inr (Option.some.inj e))), HB3.out.block k hk]⟩)
       clear hgrow3 hown3
       rw [HE.out] at HP4
       go_wp2
       go_ret
       exact ⟨by rw [HX.out]; rfl, by rw [HX.out]; exact HP4.out, HT.out⟩
     · have HX := Lib.hid (show pickNum v y l h st = (0, ⟨st.asked, numErr it.kind it.n l h⟩) by unfold pickNum; rw [if_neg (by simp [HE.out]), HL.out]; exact numErr_no hk)
       obtain ⟨er, her⟩ : ∃ er, er = numErr it.kind it.n l h := ⟨_, rfl⟩
       rw [numVal_no hk, ← her] at HC
       rw [← her] at HX hk
       have hk' : (er != 0) = true := by simpa using hk
       have hk2 : (er == 0) = false := by simpa using hk
       clear hk her
       go_wp2_with fail
       refine HC.out.mono ?_
       clear HC
       rintro e w2 ⟨rfl, hb3⟩
       have HB3 := Lib.hid (HB2.out.trans (hb3.mono HB2.out.size))
       have HP3 := Lib.hid (HP.out.below HB3.out)
       clear hb3 HB2
       have d6 : w2.cell? ⟨o, 6, none⟩ = some (.int .i64 0) := (box_cell (j := 6) HP3.out.obj rfl).trans (by rw [HE.out]; rfl)
       have d0 : w2.cell? ⟨o, 0, none⟩ = some (.int .u8 5) := (box_cell (j := 0) HP3.out.obj rfl).trans (by rw [HP.out.kind]; rfl)
       have d7 : w2.frozen? ⟨o, 6, none⟩ = false := by simp [World.frozen?, HP3.out.obj]
       go_wp2_with fail
       refine (pickFail o er _ d6 d0 d7).mono ?_
       clear d6 d0 d7
       rintro e w3 ⟨rfl, rfl⟩
       have HP4 := Lib.hid (HP3.out.fail er)
       have HT := Lib.hid (show Touch (fun b => b = o ∨ b = m) w (w2.setCell ⟨o, 6, none⟩ (.int .i64 er)) from (Touch.of_below HB3.out (Nat.le_refl _)).setCell (.inl (.inl rfl)) _)
       go_wp2
       go_ret
       exact ⟨by rw [HX.out]; rfl, by rw [HX.out]; exact HP4.out, HT.out⟩
   · have HX := Lib.hid (show pickNum v y l h st = (0, ⟨st.asked, 6⟩) by unfold pickNum; rw [if_neg (by simp [HE.out]), show v.look y = none from lookL_none _ _ _ hno])
     unfold zeroAgg
     have HB3 := Lib.hid (show Below w.heap.size w (w1.alloc (.cells #[.int .u8 0, .int .i64 0, .string { data := #[] }, .slice none 0 0, .slice none 0 0] 30)) from HB1.out.alloc HB1.out.size _)
     have HP3 := Lib.hid (HP.out.below HB3.out)
     clear hno HB1
     have d6 : (w1.alloc (.cells #[.int .u8 0, .int .i64 0, .string { data := #[] }, .slice none 0 0, .slice none 0 0] 30)).cell? ⟨o, 6, none⟩ = some (.int .i64 0) := (box_cell (j := 6) HP3.out.obj rfl).trans (by rw [HE.out]; rfl)
     have d0 : (w1.alloc (.cells #[.int .u8 0, .int .i64 0, .string { data := #[] }, .slice none 0 0, .slice none 0 0] 30)).cell? ⟨o, 0, none⟩ = some (.int .u8 5) := (box_cell (j := 0) HP3.out.obj rfl).trans (by rw [HP.out.kind]; rfl)
     have d7 : (w1.alloc (.cells #[.int .u8 0, .int .i64 0, .string { data := #[] }, .slice none 0 0, .slice none 0 0] 30)).frozen? ⟨o, 6, none⟩ = false := by simp [World.frozen?, HP3.out.obj]
     go_wp2_with fail
     refine (pickFail o 6 _ d6 d0 d7).mono ?_
     clear d6 d0 d7
     rintro e w3 ⟨rfl, rfl⟩
     have HP4 := Lib.hid (HP3.out.fail 6)
     have HT := Lib.hid (show Touch (fun b => b = o ∨ b = m) w ((w1.alloc (.cells #[.int .u8 0, .int .i64 0, .string { data := #[] }, .slice none 0 0, .slice none 0 0] 30)).setCell ⟨o, 6, none⟩ (.int .i64 6)) from (Touch.of_below HB3.out (Nat.le_refl _)).setCell (.inl (.inl rfl)) _)
     go_wp2
     go_ret
     exact ⟨by rw [HX.out]; rfl, by rw [HX.out]; exact HP4.out, HT.out⟩
 · have he' : (st.err == 0) = false := by simpa using he
   have he2 : (st.err != 0) = true := by simpa using he
   have HX := Lib.hid (show pickNum v y l h st = (0, st) by unfold pickNum; rw [if_pos he])
   have HE := Lib.hid he
   clear he
   go_enter Tryz.func102, Tryz.ntmps102
   go_wp2_with fail
   refine (pickErr o st.err 5 w c6 c0 (fun _ => rfl)).mono ?_
   rintro r w' ⟨rfl, rfl⟩
   go_wp2
   go_ret
   exact ⟨by rw [HX.out]; rfl, by rw [HX.out]; exact HP.out, Touch.refl _ _⟩
set_option maxHeartbeats 1000000 in
theorem pickNumF (o m lo hi : Nat) (v : JV) (an ai : Option Addr) (cn ci : Nat) (y : ByteArray) (l h : Int) (st : PS) (w : World) (hP : PickAt o m lo hi v an ai cn ci st w) (hy : y.size ≤ 4294967296) (ha : st.asked.length ≤ 4294967296) (hm : m < w.heap.size) (ho : o < w.heap.size) :
   Calls Tryz.prog 62 #[.pointer (some ⟨o, 0, none⟩), .string y, .int .i64 l, .int .i64 h] w (NumPost o m lo hi v an ai cn ci y l h st w) := by
 have hb : Below w.heap.size w ((w.alloc (.cells #[.int .i64 l] 2)).alloc (.cells #[.int .i64 h] 2)) := ((Below.refl _ _).alloc (Nat.le_refl _) _).alloc (by simp) _
 have hz : (w.alloc (.cells #[.int .i64 l] 2)).heap.size = w.heap.size + 1 := by simp
 have hn := heap_alloc_new (w.alloc (.cells #[.int .i64 l] 2)) (.cells #[.int .i64 h] 2)
 rw [hz] at hn
 have HC := Lib.hid (takeNum o m lo hi v an ai cn ci y l h st _ (hP.below hb) hy ha w.heap.size (w.heap.size + 1) (by rw [Below.heap_alloc _ _ _ (by omega)]; exact heap_alloc_new w _) hn)
 have HB := Lib.hid hb
 have HO := Lib.hid (And.intro ho hm)
 clear hP hb hz hn ho hm
 go_enter Tryz.func62, Tryz.ntmps62
 go_wp2_with fail
 refine HC.out.mono ?_
 rintro e w' ⟨rfl, h1, h2⟩
 have H1 := Lib.hid h1
 have H2 := Lib.hid h2
 clear h1 h2
 go_wp2
 go_ret
 exact ⟨rfl, H1.out, (Touch.of_below HB.out (Nat.le_refl _)).trans H2.out⟩
set_option maxHeartbeats 1000000 in
set_option maxRecDepth 100000 in
theorem pickHasF (o m lo hi : Nat) (v : JV) (an ai : Option Addr) (cn ci : Nat) (y : ByteArray) (st : PS) (w : World) (hP : PickAt o m lo hi v an ai cn ci st w) :
   Calls Tryz.prog 63 #[.pointer (some ⟨o, 0, none⟩), .string y] w fun e w' => e = .returned (.bool (pickHas v y st)) ∧ Below w.heap.size w w' := by
 have HP := Lib.hid hP
 clear hP
 have c6 : w.cell? ⟨o, 6, none⟩ = some (.int .i64 st.err) := box_cell HP.out.obj rfl
 have c0 : w.cell? ⟨o, 0, none⟩ = some (.int .u8 5) := (box_cell (j := 0) HP.out.obj rfl).trans (by rw [HP.out.kind]; rfl)
 by_cases he : st.err = 0
 · rw [he] at c6
   have HE := Lib.hid he
   clear he
   have c1 : w.cell? ⟨o, 1, none⟩ = some (.int .i64 v.n) := box_cell HP.out.obj rfl
   have c2 : w.cell? ⟨o, 2, none⟩ = some (.string v.t) := box_cell HP.out.obj rfl
   have c3 : w.cell? ⟨o, 3, none⟩ = some (.slice an v.names.length cn) := box_cell HP.out.obj rfl
   have c4 : w.cell? ⟨o, 4, none⟩ = some (.slice ai v.items.length ci) := box_cell HP.out.obj rfl
   have HR := Lib.hid HP.out.rep
   rw [HP.out.kind] at HR
   have HG := Lib.hid (valueGet v y _ w lo hi HP.out.wt HP.out.pos HP.out.le HR.out HP.out.kind HP.out.rise HP.out.len)
   go_enter Tryz.func63, Tryz.ntmps63
   go_wp2_with fail
   refine (pickErr o 0 5 w c6 c0 (fun _ => rfl)).mono ?_
   rintro r w' ⟨rfl, rfl⟩
   go_wp2_with fail
   refine HG.out.mono ?_
   clear HG c0 c1 c2 c3 c4 c6
   rintro e w1 ⟨hh, hb1⟩
   have HB1 := Lib.hid hb1
   clear hb1
   rcases hh with ⟨r, hr1, hr2, hre, an', cn', ai', ci', rfl, hrep⟩ | ⟨hno, rfl⟩
   · have HX := Lib.hid (show pickHas v y st = true by unfold pickHas; rw [look_some HP.out.rise r hr1 hr2 hre, HE.out]; rfl)
     clear hre hrep
     go_wp2
     go_ret
     exact ⟨ret_bool HX.out.symm, HB1.out.alloc HB1.out.size _⟩
   · have HX := Lib.hid (show pickHas v y st = false by unfold pickHas; rw [show v.look y = none from lookL_none _ _ _ hno, HE.out]; rfl)
     clear hno
     unfold zeroAgg
     go_wp2
     go_ret
     exact ⟨ret_bool HX.out.symm, HB1.out.alloc HB1.out.size _⟩
 · have he' : (st.err == 0) = false := by simpa using he
   have he2 : (st.err != 0) = true := by simpa using he
   have HX := Lib.hid (show pickHas v y st = false by unfold pickHas; simp [he])
   clear he
   go_enter Tryz.func63, Tryz.ntmps63
   go_wp2_with fail
   refine (pickErr o st.err 5 w c6 c0 (fun h => by simp [h] at he')).mono ?_
   rintro r w' ⟨rfl, rfl⟩
   go_wp2
   go_ret
   exact ⟨ret_bool HX.out.symm, Below.refl _ _⟩
end Go.Proofs.YtgghgcilpfdbjaaGreatDoor

namespace Go.Proofs.YtgghgcilpfdbjaaGreatDoor
open Go.RowKit
theorem proper_kind {k n : Int} {t : ByteArray} {ns : List ByteArray} {li : Nat} (h : properB k n t ns li = true) : (k = 1 ∧ li = 0) ∨ (k = 2 ∧ li = 0) ∨ (k = 3 ∧ txtOk t = true ∧ li = 0) ∨ k = 4 ∨ (k = 5 ∧ ns.length = li ∧ rises ns = true ∧ ns.all txtOk = true) := by
 unfold properB at h
 by_cases h1 : k = 1
 · rw [if_pos h1] at h; simp at h; exact .inl ⟨h1, h.2.2.1⟩
 rw [if_neg h1] at h
 by_cases h2 : k = 2
 · rw [if_pos h2] at h; simp at h; exact .inr (.inl ⟨h2, h.2.2⟩)
 rw [if_neg h2] at h
 by_cases h3 : k = 3
 · rw [if_pos h3] at h; simp at h; exact .inr (.inr (.inl ⟨h3, h.2, h.1.2.2⟩))
 rw [if_neg h3] at h
 by_cases h4 : k = 4
 · exact .inr (.inr (.inr (.inl h4)))
 rw [if_neg h4] at h
 by_cases h5 : k = 5
 · rw [if_pos h5] at h
   simp only [Bool.and_eq_true, decide_eq_true_eq] at h
   exact .inr (.inr (.inr (.inr ⟨h5, h.1.1.2.2, h.1.2, h.2⟩)))
 · rw [if_neg h5] at h; cases h
theorem may_obj {v : JV} (h : v.mayB = true) (hk : v.kind = 5) : rises v.names = true ∧ v.names.length = v.items.length ∧ v.names.all txtOk = true := by
 unfold JV.mayB at h
 rw [JV.may_eq] at h
 split at h
 · cases h
 split at h
 · cases h
 next h2 =>
 rcases proper_kind (by simpa using h2) with ⟨e, _⟩ | ⟨e, _⟩ | ⟨e, _⟩ | e | ⟨_, e1, e2, e3⟩ <;> first | omega | exact ⟨e2, e1, e3⟩
end Go.Proofs.YtgghgcilpfdbjaaGreatDoor

namespace Go.Proofs.YtgghgcilpfdbjaaGreatDoor
open Go.RowKit Go.WideMaps Go.Maps
def objErr (it : JV) (most : Nat) : Int := if it.kind ≠ 5 then 10 else if most < it.items.length then 5 else 0
theorem objErr_ok {it : JV} {most : Nat} (e : objErr it most = 0) : it.kind = 5 ∧ ¬ most < it.items.length := by
 unfold objErr at e
 split at e
 · omega
 split at e
 · omega
 · exact ⟨by omega, by omega⟩
theorem objErr_no {it : JV} {a : List ByteArray} {most : Nat} {X : JV × PS} (e : ¬ objErr it most = 0) :
   (if it.kind ≠ 5 then (zeroJ, (⟨a, 10⟩ : PS)) else if most < it.items.length then (zeroJ, ⟨a, 5⟩) else X) = (zeroJ, ⟨a, objErr it most⟩) := by
 unfold objErr at e ⊢
 split
 · rfl
 split
 · rfl
 · rename_i a b; rw [if_neg a, if_neg b] at e; omega
set_option maxHeartbeats 1000000 in
set_option maxRecDepth 100000 in
theorem objConv (it : JV) (most p1 : Nat) (an' ai' : Option Addr) (cn' ci' : Nat) (w : World) (c1 : w.cell? ⟨p1, 0, none⟩ = some (.int .i64 most)) :
   Calls Tryz.prog 108 #[.agg #[.int .u8 it.kind, .int .i64 it.n, .string it.t, .slice an' it.names.length cn', .slice ai' it.items.length ci'], .pointer (some ⟨p1, 0, none⟩)] w fun e w' => e = .returned (.tuple #[if objErr it most = 0 then .agg #[.int .u8 it.kind, .int .i64 it.n, .string it.t, .slice an' it.names.length cn', .slice ai' it.items.length ci'] else zeroAgg, .int .i64 (objErr it most)]) ∧ Below w.heap.size w w' := by
 have hz : (w.alloc (.cells #[.int .u8 it.kind, .int .i64 it.n, .string it.t, .slice an' it.names.length cn', .slice ai' it.items.length ci'] 30)).heap.size = w.heap.size + 1 := by simp
 have hb : Below w.heap.size w ((w.alloc (.cells #[.int .u8 it.kind, .int .i64 it.n, .string it.t, .slice an' it.names.length cn', .slice ai' it.items.length ci'] 30)).alloc (.cells #[.int .u8 0, .int .i64 0, .string { data := #[] }, .slice none 0 0, .slice none 0 0] 30)) := ((Below.refl _ _).alloc (Nat.le_refl _) _).alloc (by simp) _
 have d1 : ((w.alloc (.cells #[.int .u8 it.kind, .int .i64 it.n, .string it.t, .slice an' it.names.length cn', .slice ai' it.items.length ci'] 30)).alloc (.cells #[.int .u8 0, .int .i64 0, .string { data := #[] }, .slice none 0 0, .slice none 0 0] 30)).cell? ⟨p1, 0, none⟩ = some (.int .i64 most) := by rw [hb.cell (World.block_lt_of_cell? w _ c1)]; exact c1
 have hbox := (rowIs_box5 w (.int .u8 it.kind) (.int .i64 it.n) (.string it.t) (.slice an' it.names.length cn') (.slice ai' it.items.length ci') 30).alloc (.cells #[.int .u8 0, .int .i64 0, .string { data := #[] }, .slice none 0 0, .slice none 0 0] 30)
 have hres := rowIs_box5 (w.alloc (.cells #[.int .u8 it.kind, .int .i64 it.n, .string it.t, .slice an' it.names.length cn', .slice ai' it.items.length ci'] 30)) (.int .u8 0) (.int .i64 0) (.string { data := #[] }) (.slice none 0 0) (.slice none 0 0) 30
 rw [hz] at hres
 obtain ⟨W2, hW2⟩ : ∃ W2, W2 = ((w.alloc (.cells #[.int .u8 it.kind, .int .i64 it.n, .string it.t, .slice an' it.names.length cn', .slice ai' it.items.length ci'] 30)).alloc (.cells #[.int .u8 0, .int .i64 0, .string { data := #[] }, .slice none 0 0, .slice none 0 0] 30)) := ⟨_, rfl⟩
 rw [← hW2] at hb d1 hbox hres
 have t0 := hres.cell (i := 0) (by decide); have t1 := hres.cell (i := 1) (by decide); have t2 := hres.cell (i := 2) (by decide); have t3 := hres.cell (i := 3) (by decide); have t4 := hres.cell (i := 4) (by decide)
 have s0 := hres.frozen 0; have s1 := hres.frozen 1; have s2 := hres.frozen 2; have s3 := hres.frozen 3; have s4 := hres.frozen 4
 have b0 := hbox.cell (i := 0) (by decide); have b1 := hbox.cell (i := 1) (by decide); have b2 := hbox.cell (i := 2) (by decide); have b3 := hbox.cell (i := 3) (by decide); have b4 := hbox.cell (i := 4) (by decide)
 simp only [pick5] at t0 t1 t2 t3 t4 b0 b1 b2 b3 b4
 have HB := Lib.hid hb
 have HRS := Lib.hid hres
 have HW := Lib.hid hW2
 clear hb hbox hres hz hW2
 by_cases hk : it.kind = 5
 · by_cases h1 : most < it.items.length
   · have HV := Lib.hid (show objErr it most = 5 by unfold objErr; rw [if_neg (by simp [hk]), if_pos h1])
     have HV2 := Lib.hid (show (if objErr it most = 0 then (.agg #[.int .u8 it.kind, .int .i64 it.n, .string it.t, .slice an' it.names.length cn', .slice ai' it.items.length ci'] : Value) else zeroAgg) = zeroAgg by rw [HV.out]; rfl)
     rw [HV2.out, HV.out]
     rw [hk] at b0
     have h1' : decide ((most : Int) < (it.items.length : Int)) = true := by simpa using h1
     clear hk
     go_enter Tryz.func108, Tryz.ntmps108
     go_upto_region 1 with fail
     rw [← HW.out]
     go_wp2
     refine bodyPost_ret (results_row_tmp Tryz.results108 _ _ (w.heap.size + 1) 30 _ (0, 0) _ rfl (row5_heap (set5 _ _ _ _ _ HRS.out)) Tryz.underlying30 rfl (by kernel_rfl) _ rfl) rfl ⟨rfl, below5 _ _ _ _ _ HB.out (by omega)⟩
   · have HV := Lib.hid (show objErr it most = 0 by unfold objErr; rw [if_neg (by simp [hk]), if_neg h1])
     have HV2 := Lib.hid (show (if objErr it most = 0 then (.agg #[.int .u8 it.kind, .int .i64 it.n, .string it.t, .slice an' it.names.length cn', .slice ai' it.items.length ci'] : Value) else zeroAgg) = .agg #[.int .u8 it.kind, .int .i64 it.n, .string it.t, .slice an' it.names.length cn', .slice ai' it.items.length ci'] by rw [HV.out]; rfl)
     rw [HV2.out, HV.out]
     have HK := Lib.hid hk
     rw [hk] at b0
     have h1' : decide ((most : Int) < (it.items.length : Int)) = false := by simpa using h1
     clear hk
     go_enter Tryz.func108, Tryz.ntmps108
     go_upto_region 1 with fail
     rw [← HW.out]
     go_wp2
     refine bodyPost_ret (results_row_tmp Tryz.results108 _ _ (w.heap.size + 1) 30 _ (0, 0) _ rfl (row5_heap (set5 _ _ _ _ _ HRS.out)) Tryz.underlying30 rfl (by kernel_rfl) _ rfl) rfl ⟨by rw [HK.out] <;> rfl, below5 _ _ _ _ _ HB.out (by omega)⟩
 · have HV := Lib.hid (show objErr it most = 10 by unfold objErr; rw [if_pos hk])
   have HV2 := Lib.hid (show (if objErr it most = 0 then (.agg #[.int .u8 it.kind, .int .i64 it.n, .string it.t, .slice an' it.names.length cn', .slice ai' it.items.length ci'] : Value) else zeroAgg) = zeroAgg by rw [HV.out]; rfl)
   rw [HV2.out, HV.out]
   have hk' : (it.kind == 5) = false := by simpa using hk
   clear hk
   go_enter Tryz.func108, Tryz.ntmps108
   go_upto_region 1 with fail
   rw [← HW.out]
   go_wp2
   refine bodyPost_ret (results_row_tmp Tryz.results108 _ _ (w.heap.size + 1) 30 _ (0, 0) _ rfl (row5_heap (set5 _ _ _ _ _ HRS.out)) Tryz.underlying30 rfl (by kernel_rfl) _ rfl) rfl ⟨rfl, below5 _ _ _ _ _ HB.out (by omega)⟩
def ObjPostP (o m lo hi : Nat) (v : JV) (an ai : Option Addr) (cn ci : Nat) (y : ByteArray) (most : Nat) (st : PS) (w : World) (e : Ending) (w' : World) : Prop :=
 (∃ an' cn' ai' ci', e = .returned (.agg #[.int .u8 (pickObj v y most st).1.kind, .int .i64 (pickObj v y most st).1.n, .string (pickObj v y most st).1.t, .slice an' (pickObj v y most st).1.names.length cn', .slice ai' (pickObj v y most st).1.items.length ci']) ∧ Rep w' w.heap.size w'.heap.size (pickObj v y most st).1 (.agg #[.int .u8 (pickObj v y most st).1.kind, .int .i64 (pickObj v y most st).1.n, .string (pickObj v y most st).1.t, .slice an' (pickObj v y most st).1.names.length cn', .slice ai' (pickObj v y most st).1.items.length ci'])) ∧
 PickAt o m lo hi v an ai cn ci (pickObj v y most st).2 w' ∧ Touch (fun b => b = o ∨ b = m) w w'
theorem PickAt.set5 {o m lo hi g : Nat} {v : JV} {an ai : Option Addr} {cn ci : Nat} {st : PS} {w : World} (h : PickAt o m lo hi v an ai cn ci st w) (v0 v1 v2 v3 v4 : Value) (ho : g ≠ o) (hm : g ≠ m) (hh : hi ≤ g) : PickAt o m lo hi v an ai cn ci st (((((w.setCell ⟨g, 0, none⟩ v0).setCell ⟨g, 1, none⟩ v1).setCell ⟨g, 2, none⟩ v2).setCell ⟨g, 3, none⟩ v3).setCell ⟨g, 4, none⟩ v4) := by
 have hs : (((((w.setCell ⟨g, 0, none⟩ v0).setCell ⟨g, 1, none⟩ v1).setCell ⟨g, 2, none⟩ v2).setCell ⟨g, 3, none⟩ v3).setCell ⟨g, 4, none⟩ v4).heap.size = w.heap.size := size5
 have h5 := below5 (b := g) v0 v1 v2 v3 v4 (Below.refl g w) (Nat.le_refl _)
 have hg := fun k (hk : k ≠ g) => heap5 (W := w) v0 v1 v2 v3 v4 hk
 refine ⟨by rw [hg o (Ne.symm ho)]; exact h.obj, ?_, ?_, h.pos, h.out, by rw [hs]; exact h.le, h.kind, h.rise, h.len, h.wt⟩
 · obtain ⟨D, n, h1, h2, h3⟩ := h.map
   exact ⟨D, n, h1.kept (row := some g) ⟨h5.os, h5.tape, h5.output, h5.size, fun k hk hn => hg k (fun e => hn (by rw [e]))⟩ (fun e => hm (Option.some.inj e).symm), h2, h3⟩
 · exact Rep.carry (Nat.le_refl _) (Nat.le_refl _) (fun k _ hk => hg k (by omega)) _ _ h.rep
theorem objPost5 {o m lo hi : Nat} {v : JV} {an ai : Option Addr} {cn ci : Nat} {y : ByteArray} {most : Nat} {st st' : PS} {it : JV} {w w3 : World} {lo1 hi1 g : Nat} {an' ai' : Option Addr} {cn' ci' : Nat} (h : pickObj v y most st = (it, st'))
   (hR : Rep w3 lo1 hi1 it (.agg #[.int .u8 it.kind, .int .i64 it.n, .string it.t, .slice an' it.names.length cn', .slice ai' it.items.length ci'])) (hwg : w.heap.size ≤ g) (hlo : g < lo1) (hhi : hi1 ≤ w3.heap.size) (hP : PickAt o m lo hi v an ai cn ci st' w3) (hT : Touch (fun b => b = o ∨ b = m) w w3) (ho : g ≠ o) (hm : g ≠ m) (hh : hi ≤ g) :
   ObjPostP o m lo hi v an ai cn ci y most st w (.returned (.agg #[.int .u8 it.kind, .int .i64 it.n, .string it.t, .slice an' it.names.length cn', .slice ai' it.items.length ci'])) (((((w3.setCell ⟨g, 0, none⟩ (.int .u8 it.kind)).setCell ⟨g, 1, none⟩ (.int .i64 it.n)).setCell ⟨g, 2, none⟩ (.string it.t)).setCell ⟨g, 3, none⟩ (.slice an' it.names.length cn')).setCell ⟨g, 4, none⟩ (.slice ai' it.items.length ci')) := by
 have hg := fun k (hk : k ≠ g) => heap5 (W := w3) (.int .u8 it.kind) (.int .i64 it.n) (.string it.t) (.slice an' it.names.length cn') (.slice ai' it.items.length ci') hk
 have hs := size5 (W := w3) (b := g) (v0 := .int .u8 it.kind) (v1 := .int .i64 it.n) (v2 := .string it.t) (v3 := .slice an' it.names.length cn') (v4 := .slice ai' it.items.length ci')
 have hR2 := Rep.carry (lo' := w.heap.size) (hi' := (((((w3.setCell ⟨g, 0, none⟩ (.int .u8 it.kind)).setCell ⟨g, 1, none⟩ (.int .i64 it.n)).setCell ⟨g, 2, none⟩ (.string it.t)).setCell ⟨g, 3, none⟩ (.slice an' it.names.length cn')).setCell ⟨g, 4, none⟩ (.slice ai' it.items.length ci')).heap.size) (by omega) (by rw [hs]; exact hhi) (fun k h1 _ => hg k (by omega)) _ _ hR
 have hP2 := hP.set5 (.int .u8 it.kind) (.int .i64 it.n) (.string it.t) (.slice an' it.names.length cn') (.slice ai' it.items.length ci') ho hm hh
 have hT2 := ((((hT.setCell (p := ⟨g, 0, none⟩) (.inr hwg) (.int .u8 it.kind)).setCell (p := ⟨g, 1, none⟩) (.inr hwg) (.int .i64 it.n)).setCell (p := ⟨g, 2, none⟩) (.inr hwg) (.string it.t)).setCell (p := ⟨g, 3, none⟩) (.inr hwg) (.slice an' it.names.length cn')).setCell (p := ⟨g, 4, none⟩) (.inr hwg) (.slice ai' it.items.length ci')
 unfold ObjPostP
 rw [h]
 exact ⟨⟨an', cn', ai', ci', rfl, hR2⟩, hP2, hT2⟩
theorem objPost0 {o m lo hi : Nat} {v : JV} {an ai : Option Addr} {cn ci : Nat} {y : ByteArray} {most : Nat} {st st' : PS} {w w3 : World} (h : pickObj v y most st = (zeroJ, st'))
   (hP : PickAt o m lo hi v an ai cn ci st' w3) (hT : Touch (fun b => b = o ∨ b = m) w w3) (ho : w.heap.size ≠ o) (hm : w.heap.size ≠ m) (hh : hi ≤ w.heap.size) :
   ObjPostP o m lo hi v an ai cn ci y most st w (.returned zeroAgg) (((((w3.setCell ⟨w.heap.size, 0, none⟩ (.int .u8 0)).setCell ⟨w.heap.size, 1, none⟩ (.int .i64 0)).setCell ⟨w.heap.size, 2, none⟩ (.string { data := #[] })).setCell ⟨w.heap.size, 3, none⟩ (.slice none 0 0)).setCell ⟨w.heap.size, 4, none⟩ (.slice none 0 0)) :=
 objPost5 (it := zeroJ) (an' := none) (ai' := none) (cn' := 0) (ci' := 0) (lo1 := w.heap.size + 1) (hi1 := 0) h (rep_zeroJW _ _ _) (Nat.le_refl _) (by omega) (by omega) hP hT ho hm hh
set_option maxHeartbeats 4000000 in
set_option maxRecDepth 100000 in
theorem takeObj (o m lo hi : Nat) (v : JV) (an ai : Option Addr) (cn ci : Nat) (y : ByteArray) (most : Nat) (st : PS) (w : World) (hP : PickAt o m lo hi v an ai cn ci st w) (hy : y.size ≤ 4294967296) (ha : st.asked.length ≤ 4294967296) (p1 : Nat) (g1 : w.heap[p1]? = some (.cells #[.int .i64 most] 3 (0, 0))) :
   Calls Tryz.prog 107 #[.pointer (some ⟨o, 0, none⟩), .string y, .func (.func 108) #[] #[.pointer (some ⟨p1, 0, none⟩)]] w (ObjPostP o m lo hi v an ai cn ci y most st w) := by
 have ho : o < w.heap.size := heap_lt hP.obj
 have hm : m < w.heap.size := by obtain ⟨D, n, h, _⟩ := hP.map; exact h.lt
 have hle := hP.le
 obtain ⟨W2, hW2⟩ : ∃ W2, W2 = (w.alloc (.cells #[.int .u8 0, .int .i64 0, .string { data := #[] }, .slice none 0 0, .slice none 0 0] 30)).alloc (.cells #[.int .u8 0, .int .i64 0, .string { data := #[] }, .slice none 0 0, .slice none 0 0] 30) := ⟨_, rfl⟩
 have hz1 : (w.alloc (.cells #[.int .u8 0, .int .i64 0, .string { data := #[] }, .slice none 0 0, .slice none 0 0] 30)).heap.size = w.heap.size + 1 := by simp
 have hz2 : W2.heap.size = w.heap.size + 2 := by rw [hW2]; simp
 have hb2 : Below w.heap.size w W2 := by rw [hW2]; exact ((Below.refl _ _).alloc (Nat.le_refl _) _).alloc (by simp) _
 have hr6 : W2.rowIs w.heap.size 30 5 (pick5 (.int .u8 0) (.int .i64 0) (.string { data := #[] }) (.slice none 0 0) (.slice none 0 0)) := by rw [hW2]; exact (rowIs_box5 w (.int .u8 0) (.int .i64 0) (.string { data := #[] }) (.slice none 0 0) (.slice none 0 0) 30).alloc _
 have hr7 : W2.rowIs (w.heap.size + 1) 30 5 (pick5 (.int .u8 0) (.int .i64 0) (.string { data := #[] }) (.slice none 0 0) (.slice none 0 0)) := by
   have := rowIs_box5 (w.alloc (.cells #[.int .u8 0, .int .i64 0, .string { data := #[] }, .slice none 0 0, .slice none 0 0] 30)) (.int .u8 0) (.int .i64 0) (.string { data := #[] }) (.slice none 0 0) (.slice none 0 0) 30
   rw [hz1, ← hW2] at this
   exact this
 have HP := Lib.hid (hP.below hb2)
 have HG1 := Lib.hid ((hb2.block _ (heap_lt g1)).trans g1)
 have HO := Lib.hid (And.intro ho (And.intro hm (And.intro hle hz2)))
 have HB2 := Lib.hid hb2
 have HR6 := Lib.hid hr6
 have HR7 := Lib.hid hr7
 have HW := Lib.hid hW2
 clear hP g1 ho hm hle hz1 hz2 hb2 hr6 hr7 hW2
 have c6 : W2.cell? ⟨o, 6, none⟩ = some (.int .i64 st.err) := box_cell HP.out.obj rfl
 have c0 : W2.cell? ⟨o, 0, none⟩ = some (.int .u8 5) := (box_cell (j := 0) HP.out.obj rfl).trans (by rw [HP.out.kind]; rfl)
 by_cases he : st.err = 0
 · rw [he] at c6
   have HE := Lib.hid he
   clear he
   have c1 : W2.cell? ⟨o, 1, none⟩ = some (.int .i64 v.n) := box_cell HP.out.obj rfl
   have c2 : W2.cell? ⟨o, 2, none⟩ = some (.string v.t) := box_cell HP.out.obj rfl
   have c3 : W2.cell? ⟨o, 3, none⟩ = some (.slice an v.names.length cn) := box_cell HP.out.obj rfl
   have c4 : W2.cell? ⟨o, 4, none⟩ = some (.slice ai v.items.length ci) := box_cell HP.out.obj rfl
   have HR := Lib.hid HP.out.rep
   rw [HP.out.kind] at HR
   have HG := Lib.hid (valueGet v y _ W2 lo hi HP.out.wt HP.out.pos HP.out.le HR.out HP.out.kind HP.out.rise HP.out.len)
   go_enter Tryz.func107, Tryz.ntmps107
   go_upto_region 2 with fail
   rw [← HW.out]
   go_wp2_with fail
   refine (pickErr o 0 5 W2 c6 c0 (fun _ => rfl)).mono ?_
   rintro r w' ⟨rfl, h'⟩
   subst h'
   go_wp2_with fail
   refine HG.out.mono ?_
   clear HG c0 c1 c2 c3 c4 c6 HR
   rintro e w1 ⟨hh, hb1⟩
   have HB1 := Lib.hid hb1
   have HR6a := Lib.hid (below_row hb1 HR6.out HR6.out.lt)
   have HR7a := Lib.hid (below_row hb1 HR7.out HR7.out.lt)
   have hz := hb1.size
   clear hb1
   rcases hh with ⟨r, hr1, hr2, hre, an', cn', ai', ci', rfl, hrep⟩ | ⟨hno, rfl⟩
   · have HL := Lib.hid (look_some HP.out.rise r hr1 hr2 hre)
     have HREP := Lib.hid hrep
     clear hre hrep
     generalize v.items[r] = it at *
     clear hr1 hr2
     have hb3 : Below W2.heap.size W2 (w1.alloc (.cells #[.int .u8 it.kind, .int .i64 it.n, .string it.t, .slice an' it.names.length cn', .slice ai' it.items.length ci'] 30)) := HB1.out.alloc HB1.out.size _
     have HC := Lib.hid (objConv it most p1 an' ai' cn' ci' (w1.alloc (.cells #[.int .u8 it.kind, .int .i64 it.n, .string it.t, .slice an' it.names.length cn', .slice ai' it.items.length ci'] 30)) (box_cell ((hb3.block _ (heap_lt HG1.out)).trans HG1.out) rfl))
     have HB3 := Lib.hid hb3
     clear hb3
     by_cases hk : objErr it most = 0
     · have HX := Lib.hid (show pickObj v y most st = (it, ⟨y :: st.asked, 0⟩) by unfold pickObj; rw [if_neg (by simp [HE.out]), HL.out]; obtain ⟨q1, q2⟩ := objErr_ok hk; simp only; rw [if_neg (by simp [q1]), if_neg q2])
       have HC := Lib.hid (show Calls Tryz.prog 108 #[.agg #[.int .u8 it.kind, .int .i64 it.n, .string it.t, .slice an' it.names.length cn', .slice ai' it.items.length ci'], .pointer (some ⟨p1, 0, none⟩)] (w1.alloc (.cells #[.int .u8 it.kind, .int .i64 it.n, .string it.t, .slice an' it.names.length cn', .slice ai' it.items.length ci'] 30)) (fun e w' => e = .returned (.tuple #[.agg #[.int .u8 it.kind, .int .i64 it.n, .string it.t, .slice an' it.names.length cn', .slice ai' it.items.length ci'], .int .i64 0]) ∧ Below (w1.alloc (.cells #[.int .u8 it.kind, .int .i64 it.n, .string it.t, .slice an' it.names.length cn', .slice ai' it.items.length ci'] 30)).heap.size (w1.alloc (.cells #[.int .u8 it.kind, .int .i64 it.n, .string it.t, .slice an' it.names.length cn', .slice ai' it.items.length ci'] 30)) w') from by have h := HC.out; rw [hk] at h; exact h)
       clear hk
       go_wp2_with fail
       refine HC.out.mono ?_
       clear HC
       rintro e w2 ⟨rfl, hb4⟩
       obtain ⟨W3, hW3⟩ : ∃ W3, W3 = w2.alloc (.cells #[.int .u8 it.kind, .int .i64 it.n, .string it.t, .slice an' it.names.length cn', .slice ai' it.items.length ci'] 30) := ⟨_, rfl⟩
       have hzz : w1.heap.size + 1 ≤ w2.heap.size := by have := hb4.size; simpa using this
       have hb5 : Below W2.heap.size W2 W3 := by rw [hW3]; exact (HB3.out.trans (hb4.mono HB3.out.size)).alloc (HB3.out.trans (hb4.mono HB3.out.size)).size _
       have hx10 : W3.heap[w2.heap.size]? = some (.cells #[.int .u8 it.kind, .int .i64 it.n, .string it.t, .slice an' it.names.length cn', .slice ai' it.items.length ci'] 30 (0, 0)) := by rw [hW3]; exact heap_alloc_new w2 _
       have hkeep : ∀ k, k < w1.heap.size → W3.heap[k]? = w1.heap[k]? := fun k hk => by rw [hW3, Below.heap_alloc _ _ _ (by omega), hb4.block k (by simp; omega), Below.heap_alloc _ _ _ hk]
       have HX10 := Lib.hid hx10
       have HKP := Lib.hid hkeep
       have HB5 := Lib.hid hb5
       have HZZ := Lib.hid hzz
       have HZ3 := Lib.hid (show W3.heap.size = w2.heap.size + 1 by rw [hW3]; simp)
       have HW3 := Lib.hid hW3
       have HP3 := Lib.hid (HP.out.below HB5.out)
       have HR6b := Lib.hid (below_row HB5.out HR6.out HR6.out.lt)
       clear hb4 hx10 hkeep hb5 hzz hW3 HB3
       have d5 : W3.cell? ⟨o, 5, none⟩ = some (.map (some m)) := box_cell HP3.out.obj rfl
       have hkey : keyOf Tryz.prog 9 (.string y) = some (.string y.data.toList) := keyOf_string_mk Tryz.underlying9 (by unfold maxLen; omega)
       obtain ⟨D, n, hown, hn, hD⟩ := HP3.out.map
       obtain ⟨c, hat, hc0, hc1, hc2⟩ := hD.2 y
       obtain ⟨c', hrun, hat', _⟩ := hown.lookup_int lawStr Tryz.underlying126 Tryz.underlying3 (zeroInt _) hkey
       rw [hat] at hat'
       simp only [DataW.lit.injEq, Lit.int.injEq, true_and] at hat'
       subst hat'
       have HD := Lib.hid (hD.cons y c hat)
       have HKY := Lib.hid hkey
       have HOW := Lib.hid hown
       clear hD hat hc2 hkey hown
       go_upto_region 9 with fail
       rw [← HW3.out]
       go_wp2_with (at_mapUpdate; refine wpList_mapUpdate_own _ rfl _ _ _ 126 rfl 9 3 lawStr Tryz.underlying126 _ m n D rfl HOW.out (by unfold maxLen; omega) _ _ _ rfl rfl HKY.out _ [] (plainElem_int Tryz.underlying3 (WalkArith.wf_i64 (by omega))) ?_; intro w3 hown3 hgrow3; have HOW3 := Lib.hid hown3; have HGR3 := Lib.hid hgrow3; clear hown3 hgrow3; have HNM := Lib.hid (show w2.heap.size ≠ m from by have := HO.out; have := HZZ.out; omega); have x0 : w3.cell? ⟨w2.heap.size, 0, none⟩ = _ := box_cell ((HGR3.out.block _ (heap_lt HX10.out) (fun e => HNM.out (Option.some.inj e))).trans HX10.out) rfl; have x1 : w3.cell? ⟨w2.heap.size, 1, none⟩ = _ := box_cell ((HGR3.out.block _ (heap_lt HX10.out) (fun e => HNM.out (Option.some.inj e))).trans HX10.out) rfl; have x2 : w3.cell? ⟨w2.heap.size, 2, none⟩ = _ := box_cell ((HGR3.out.block _ (heap_lt HX10.out) (fun e => HNM.out (Option.some.inj e))).trans HX10.out) rfl; have x3 : w3.cell? ⟨w2.heap.size, 3, none⟩ = _ := box_cell ((HGR3.out.block _ (heap_lt HX10.out) (fun e => HNM.out (Option.some.inj e))).trans HX10.out) rfl; have x4 : w3.cell? ⟨w2.heap.size, 4, none⟩ = _ := box_cell ((HGR3.out.block _ (heap_lt HX10.out) (fun e => HNM.out (Option.some.inj e))).trans HX10.out) rfl; have hr6 := HR6b.out.of_block (HGR3.out.block _ HR6b.out.lt (fun e => by have := Option.some.inj e; have := HO.out; omega)); have t0 := hr6.cell (i := 0) (by decide); have t1 := hr6.cell (i := 1) (by decide); have t2 := hr6.cell (i := 2) (by decide); have t3 := hr6.cell (i := 3) (by decide); have t4 := hr6.cell (i := 4) (by decide); have s0 := hr6.frozen 0; have s1 := hr6.frozen 1; have s2 := hr6.frozen 2; have s3 := hr6.frozen 3; have s4 := hr6.frozen 4; simp only [pick5] at t0 t1 t2 t3 t4; have HR6c := Lib.hid hr6; clear hr6)
       have HP4 := Lib.hid (HP3.out.ask y HGR3.out HOW3.out (by omega) HD.out)
       have HT := Lib.hid (show Touch (fun b => b = o ∨ b = m) w w3 from by
         have h1 := HB2.out.trans (HB5.out.mono HB2.out.size)
         have h2 := HGR3.out
         exact ⟨by rw [h2.os, h1.os], by rw [h2.tape, h1.tape], by rw [h2.output, h1.output], Nat.le_trans h1.size h2.size, fun k hk hs => by rw [h2.block k (Nat.lt_of_lt_of_le hk h1.size) (fun e => hs (.inr (Option.some.inj e))), h1.block k hk]⟩)
       have HRE := Lib.hid (Rep.carry (lo' := W2.heap.size) (hi' := w1.heap.size) (Nat.le_refl _) (Nat.le_refl _) (fun k h1 h2 => (HGR3.out.block k (by have := HZ3.out; have := HZZ.out; omega) (fun e => by have := Option.some.inj e; have := HO.out; omega)).trans (HKP.out k h2)) _ _ HREP.out)
       have HSZ := Lib.hid (show w1.heap.size ≤ w3.heap.size from by have := HGR3.out.size; have := HZ3.out; have := HZZ.out; omega)
       rw [HE.out] at HP4
       have HNO := Lib.hid (show w.heap.size ≠ o ∧ w.heap.size ≠ m from by have := HO.out; omega)
       go_wp2
       refine bodyPost_ret (results_cell_row Tryz.results107 _ _ w.heap.size 30 _ (0, 0) _ rfl (row5_heap (set5 _ _ _ _ _ HR6c.out)) Tryz.underlying30 rfl (by kernel_rfl)) rfl ?_
       exact objPost5 HX.out HRE.out (Nat.le_refl _) (by have := HO.out; omega) HSZ.out HP4.out HT.out HNO.out.1 HNO.out.2 HO.out.2.2.1
     · have HX := Lib.hid (show pickObj v y most st = (zeroJ, ⟨st.asked, objErr it most⟩) by unfold pickObj; rw [if_neg (by simp [HE.out]), HL.out]; exact objErr_no hk)
       obtain ⟨er, her⟩ : ∃ er, er = objErr it most := ⟨_, rfl⟩
       have HC := Lib.hid (show Calls Tryz.prog 108 #[.agg #[.int .u8 it.kind, .int .i64 it.n, .string it.t, .slice an' it.names.length cn', .slice ai' it.items.length ci'], .pointer (some ⟨p1, 0, none⟩)] (w1.alloc (.cells #[.int .u8 it.kind, .int .i64 it.n, .string it.t, .slice an' it.names.length cn', .slice ai' it.items.length ci'] 30)) (fun e w' => e = .returned (.tuple #[zeroAgg, .int .i64 er]) ∧ Below (w1.alloc (.cells #[.int .u8 it.kind, .int .i64 it.n, .string it.t, .slice an' it.names.length cn', .slice ai' it.items.length ci'] 30)).heap.size (w1.alloc (.cells #[.int .u8 it.kind, .int .i64 it.n, .string it.t, .slice an' it.names.length cn', .slice ai' it.items.length ci'] 30)) w') from by have h := HC.out; rw [if_neg hk, ← her] at h; exact h)
       rw [← her] at HX hk
       have hk' : (er != 0) = true := by simpa using hk
       have hk2 : (er == 0) = false := by simpa using hk
       clear hk her
       go_wp2_with fail
       refine HC.out.mono ?_
       clear HC
       rintro e w2 ⟨rfl, hb4⟩
       have HBX := Lib.hid (HB3.out.trans (hb4.mono HB3.out.size))
       clear hb4 HB3
       unfold zeroAgg
       obtain ⟨W3, hW3⟩ : ∃ W3, W3 = w2.alloc (.cells #[.int .u8 0, .int .i64 0, .string { data := #[] }, .slice none 0 0, .slice none 0 0] 30) := ⟨_, rfl⟩
       have hb5 : Below W2.heap.size W2 W3 := by rw [hW3]; exact HBX.out.alloc HBX.out.size _
       have HP3 := Lib.hid (HP.out.below hb5)
       have hr6 := below_row hb5 HR6.out HR6.out.lt
       have hr7 := below_row hb5 HR7.out HR7.out.lt
       have HB5 := Lib.hid hb5
       have HR6b := Lib.hid hr6
       have HR7b := Lib.hid hr7
       have HW3 := Lib.hid hW3
       clear hb5 hr6 hr7 hW3
       have d6 : W3.cell? ⟨o, 6, none⟩ = some (.int .i64 0) := (box_cell (j := 6) HP3.out.obj rfl).trans (by rw [HE.out]; rfl)
       have d0 : W3.cell? ⟨o, 0, none⟩ = some (.int .u8 5) := (box_cell (j := 0) HP3.out.obj rfl).trans (by rw [HP.out.kind]; rfl)
       have d7 : W3.frozen? ⟨o, 6, none⟩ = false := by simp [World.frozen?, HP3.out.obj]
       go_upto_region 9 with fail
       rw [← HW3.out]
       go_wp2_with fail
       refine (pickFail o er W3 d6 d0 d7).mono ?_
       clear d6 d0 d7
       rintro e w3 ⟨rfl, h3⟩
       have HT3 := Lib.hid (show Touch (fun b => b = o) W3 w3 from by rw [h3]; exact Touch.setCell (S := fun b => b = o) (p := ⟨o, 6, none⟩) (Touch.refl _ _) (.inl rfl) _)
       have HP4 := Lib.hid (show PickAt o m lo hi v an ai cn ci ⟨st.asked, er⟩ w3 from by rw [h3]; exact HP3.out.fail er)
       clear h3
       have hr6 := HT3.out.row HR6b.out (by have := HO.out; omega)
       have hr7 := HT3.out.row HR7b.out (by have := HO.out; omega)
       have t0 := hr6.cell (i := 0) (by decide); have t1 := hr6.cell (i := 1) (by decide); have t2 := hr6.cell (i := 2) (by decide); have t3 := hr6.cell (i := 3) (by decide); have t4 := hr6.cell (i := 4) (by decide)
       have s0 := hr6.frozen 0; have s1 := hr6.frozen 1; have s2 := hr6.frozen 2; have s3 := hr6.frozen 3; have s4 := hr6.frozen 4
       have z0 := hr7.cell (i := 0) (by decide); have z1 := hr7.cell (i := 1) (by decide); have z2 := hr7.cell (i := 2) (by decide); have z3 := hr7.cell (i := 3) (by decide); have z4 := hr7.cell (i := 4) (by decide)
       simp only [pick5] at t0 t1 t2 t3 t4 z0 z1 z2 z3 z4
       have HR6c := Lib.hid hr6
       clear hr6 hr7
       have HT := Lib.hid (show Touch (fun b => b = o ∨ b = m) w w3 from (Touch.of_below (HB2.out.trans (HB5.out.mono HB2.out.size)) (Nat.le_refl _)).trans (HT3.out.mono (fun k _ h => .inl h)))
       have HNO := Lib.hid (show w.heap.size ≠ o ∧ w.heap.size ≠ m from by have := HO.out; omega)
       go_wp2
       refine bodyPost_ret (results_cell_row Tryz.results107 _ _ w.heap.size 30 _ (0, 0) _ rfl (row5_heap (set5 _ _ _ _ _ HR6c.out)) Tryz.underlying30 rfl (by kernel_rfl)) rfl ?_
       exact objPost0 HX.out HP4.out HT.out HNO.out.1 HNO.out.2 HO.out.2.2.1
   · have HX := Lib.hid (show pickObj v y most st = (zeroJ, ⟨st.asked, 6⟩) by unfold pickObj; rw [if_neg (by simp [HE.out]), show v.look y = none from lookL_none _ _ _ hno])
     clear hno
     have HBX := Lib.hid HB1.out
     unfold zeroAgg
     obtain ⟨W3, hW3⟩ : ∃ W3, W3 = w1.alloc (.cells #[.int .u8 0, .int .i64 0, .string { data := #[] }, .slice none 0 0, .slice none 0 0] 30) := ⟨_, rfl⟩
     have hb5 : Below W2.heap.size W2 W3 := by rw [hW3]; exact HBX.out.alloc HBX.out.size _
     have HP3 := Lib.hid (HP.out.below hb5)
     have hr6 := below_row hb5 HR6.out HR6.out.lt
     have hr7 := below_row hb5 HR7.out HR7.out.lt
     have HB5 := Lib.hid hb5
     have HR6b := Lib.hid hr6
     have HR7b := Lib.hid hr7
     have HW3 := Lib.hid hW3
     clear hb5 hr6 hr7 hW3
     have d6 : W3.cell? ⟨o, 6, none⟩ = some (.int .i64 0) := (box_cell (j := 6) HP3.out.obj rfl).trans (by rw [HE.out]; rfl)
     have d0 : W3.cell? ⟨o, 0, none⟩ = some (.int .u8 5) := (box_cell (j := 0) HP3.out.obj rfl).trans (by rw [HP.out.kind]; rfl)
     have d7 : W3.frozen? ⟨o, 6, none⟩ = false := by simp [World.frozen?, HP3.out.obj]
     go_upto_region 5 with fail
     rw [← HW3.out]
     go_wp2_with fail
     refine (pickFail o 6 W3 d6 d0 d7).mono ?_
     clear d6 d0 d7
     rintro e w3 ⟨rfl, h3⟩
     have HT3 := Lib.hid (show Touch (fun b => b = o) W3 w3 from by rw [h3]; exact Touch.setCell (S := fun b => b = o) (p := ⟨o, 6, none⟩) (Touch.refl _ _) (.inl rfl) _)
     have HP4 := Lib.hid (show PickAt o m lo hi v an ai cn ci ⟨st.asked, 6⟩ w3 from by rw [h3]; exact HP3.out.fail 6)
     clear h3
     have hr6 := HT3.out.row HR6b.out (by have := HO.out; omega)
     have hr7 := HT3.out.row HR7b.out (by have := HO.out; omega)
     have t0 := hr6.cell (i := 0) (by decide); have t1 := hr6.cell (i := 1) (by decide); have t2 := hr6.cell (i := 2) (by decide); have t3 := hr6.cell (i := 3) (by decide); have t4 := hr6.cell (i := 4) (by decide)
     have s0 := hr6.frozen 0; have s1 := hr6.frozen 1; have s2 := hr6.frozen 2; have s3 := hr6.frozen 3; have s4 := hr6.frozen 4
     have z0 := hr7.cell (i := 0) (by decide); have z1 := hr7.cell (i := 1) (by decide); have z2 := hr7.cell (i := 2) (by decide); have z3 := hr7.cell (i := 3) (by decide); have z4 := hr7.cell (i := 4) (by decide)
     simp only [pick5] at t0 t1 t2 t3 t4 z0 z1 z2 z3 z4
     have HR6c := Lib.hid hr6
     clear hr6 hr7
     have HT := Lib.hid (show Touch (fun b => b = o ∨ b = m) w w3 from (Touch.of_below (HB2.out.trans (HB5.out.mono HB2.out.size)) (Nat.le_refl _)).trans (HT3.out.mono (fun k _ h => .inl h)))
     have HNO := Lib.hid (show w.heap.size ≠ o ∧ w.heap.size ≠ m from by have := HO.out; omega)
     go_wp2
     refine bodyPost_ret (results_cell_row Tryz.results107 _ _ w.heap.size 30 _ (0, 0) _ rfl (row5_heap (set5 _ _ _ _ _ HR6c.out)) Tryz.underlying30 rfl (by kernel_rfl)) rfl ?_
     exact objPost0 HX.out HP4.out HT.out HNO.out.1 HNO.out.2 HO.out.2.2.1
 · have he' : (st.err == 0) = false := by simpa using he
   have he2 : (st.err != 0) = true := by simpa using he
   have HX := Lib.hid (show pickObj v y most st = (zeroJ, st) by unfold pickObj; rw [if_pos he])
   clear he
   have hr6 := HR6.out
   have hr7 := HR7.out
   have t0 := hr6.cell (i := 0) (by decide); have t1 := hr6.cell (i := 1) (by decide); have t2 := hr6.cell (i := 2) (by decide); have t3 := hr6.cell (i := 3) (by decide); have t4 := hr6.cell (i := 4) (by decide)
   have s0 := hr6.frozen 0; have s1 := hr6.frozen 1; have s2 := hr6.frozen 2; have s3 := hr6.frozen 3; have s4 := hr6.frozen 4
   have z0 := hr7.cell (i := 0) (by decide); have z1 := hr7.cell (i := 1) (by decide); have z2 := hr7.cell (i := 2) (by decide); have z3 := hr7.cell (i := 3) (by decide); have z4 := hr7.cell (i := 4) (by decide)
   simp only [pick5] at t0 t1 t2 t3 t4 z0 z1 z2 z3 z4
   clear hr6 hr7
   have HT := Lib.hid (show Touch (fun b => b = o ∨ b = m) w W2 from Touch.of_below HB2.out (Nat.le_refl _))
   have HNO := Lib.hid (show w.heap.size ≠ o ∧ w.heap.size ≠ m from by have := HO.out; omega)
   go_enter Tryz.func107, Tryz.ntmps107
   go_upto_region 2 with fail
   rw [← HW.out]
   go_wp2_with fail
   refine (pickErr o st.err 5 W2 c6 c0 (fun h => by simp [h] at he')).mono ?_
   rintro r w' ⟨rfl, h'⟩
   subst h'
   go_wp2
   refine bodyPost_ret (results_cell_row Tryz.results107 _ _ w.heap.size 30 _ (0, 0) _ rfl (row5_heap (set5 _ _ _ _ _ HR6.out)) Tryz.underlying30 rfl (by kernel_rfl)) rfl ?_
   exact objPost0 HX.out HP.out HT.out HNO.out.1 HNO.out.2 HO.out.2.2.1
set_option maxHeartbeats 2000000 in
set_option maxRecDepth 100000 in
theorem pickObjF (o m lo hi : Nat) (v : JV) (an ai : Option Addr) (cn ci : Nat) (y : ByteArray) (most : Nat) (st : PS) (w : World) (hP : PickAt o m lo hi v an ai cn ci st w) (hy : y.size ≤ 4294967296) (ha : st.asked.length ≤ 4294967296) :
   Calls Tryz.prog 65 #[.pointer (some ⟨o, 0, none⟩), .string y, .int .i64 most] w (ObjPostP o m lo hi v an ai cn ci y most st w) := by
 have ho : o < w.heap.size := heap_lt hP.obj
 have hm : m < w.heap.size := by obtain ⟨D, n, h, _⟩ := hP.map; exact h.lt
 have hle := hP.le
 obtain ⟨W2, hW2⟩ : ∃ W2, W2 = (w.alloc (.cells #[.int .i64 most] 3)).alloc (.cells #[.int .u8 0, .int .i64 0, .string { data := #[] }, .slice none 0 0, .slice none 0 0] 30) := ⟨_, rfl⟩
 have hz1 : (w.alloc (.cells #[.int .i64 most] 3)).heap.size = w.heap.size + 1 := by simp
 have hz2 : W2.heap.size = w.heap.size + 2 := by rw [hW2]; simp
 have hb2 : Below w.heap.size w W2 := by rw [hW2]; exact ((Below.refl _ _).alloc (Nat.le_refl _) _).alloc (by simp) _
 have hg : W2.heap[w.heap.size]? = some (.cells #[.int .i64 most] 3 (0, 0)) := by rw [hW2, Below.heap_alloc _ _ _ (by simp)]; exact heap_alloc_new w _
 have hr7 : W2.rowIs (w.heap.size + 1) 30 5 (pick5 (.int .u8 0) (.int .i64 0) (.string { data := #[] }) (.slice none 0 0) (.slice none 0 0)) := by
   have := rowIs_box5 (w.alloc (.cells #[.int .i64 most] 3)) (.int .u8 0) (.int .i64 0) (.string { data := #[] }) (.slice none 0 0) (.slice none 0 0) 30
   rw [hz1, ← hW2] at this
   exact this
 have HT := Lib.hid (takeObj o m lo hi v an ai cn ci y most st W2 (hP.below hb2) hy ha w.heap.size hg)
 have HO := Lib.hid (And.intro ho (And.intro hm (And.intro hle hz2)))
 have HB2 := Lib.hid hb2
 have HR7 := Lib.hid hr7
 have HW := Lib.hid hW2
 clear hP ho hm hle hz1 hz2 hb2 hg hr7 hW2
 go_enter Tryz.func65, Tryz.ntmps65
 go_upto_region 1 with fail
 rw [← HW.out]
 go_wp2_with fail
 refine HT.out.mono ?_
 clear HT
 rintro e w3 ⟨⟨an', cn', ai', ci', rfl, hrep⟩, hp, ht⟩
 obtain ⟨it, st', hx⟩ : ∃ it st', pickObj v y most st = (it, st') := ⟨_, _, rfl⟩
 rw [hx] at hrep hp ⊢
 have HX := Lib.hid hx
 have HREP := Lib.hid hrep
 have HP3 := Lib.hid hp
 have HT3 := Lib.hid ht
 have hr7 := ht.row HR7.out (by have := HO.out; omega)
 clear hx hrep hp ht
 have t0 := hr7.cell (i := 0) (by decide); have t1 := hr7.cell (i := 1) (by decide); have t2 := hr7.cell (i := 2) (by decide); have t3 := hr7.cell (i := 3) (by decide); have t4 := hr7.cell (i := 4) (by decide)
 have s0 := hr7.frozen 0; have s1 := hr7.frozen 1; have s2 := hr7.frozen 2; have s3 := hr7.frozen 3; have s4 := hr7.frozen 4
 simp only [pick5] at t0 t1 t2 t3 t4
 have HR7c := Lib.hid hr7
 clear hr7
 have HT4 := Lib.hid (show Touch (fun b => b = o ∨ b = m) w w3 from (Touch.of_below HB2.out (Nat.le_refl _)).trans HT3.out)
 have HNO := Lib.hid (show w.heap.size + 1 ≠ o ∧ w.heap.size + 1 ≠ m ∧ hi ≤ w.heap.size + 1 from by have := HO.out; omega)
 go_wp2
 refine bodyPost_ret (results_cell_row Tryz.results65 _ _ (w.heap.size + 1) 30 _ (0, 0) _ rfl (row5_heap (set5 _ _ _ _ _ HR7c.out)) Tryz.underlying30 rfl (by kernel_rfl)) rfl ?_
 exact objPost5 HX.out HREP.out (Nat.le_succ _) (by have := HO.out; omega) (Nat.le_refl _) HP3.out HT4.out HNO.out.1 HNO.out.2.1 HNO.out.2.2
end Go.Proofs.YtgghgcilpfdbjaaGreatDoor

namespace Go.Proofs.YtgghgcilpfdbjaaGreatDoor
open Go.RowKit
abbrev NJ := ByteArray × JV
def hashN (l : List Key2) : List NJ := l.map fun k => (k.1, txtJ k.2)
theorem hashN_1 (l : List Key2) : (hashN l).map (·.1) = l.map (·.1) := by simp [hashN]
theorem hashN_2 (l : List Key2) : (hashN l).map (·.2) = l.map fun k => txtJ k.2 := by simp [hashN]
theorem hashN_len (l : List Key2) : (hashN l).length = l.length := by simp [hashN]
theorem mayHashes_parts {l : List Key2} (h : mayHashes l = true) : (1 ≤ l.length ∧ l.length ≤ 4) ∧ (∀ k ∈ l, roleOk k.1.data.toList = true ∧ pubOk k.2.data.toList = true) ∧ rises (l.map (·.1)) = true := by
 unfold mayHashes at h
 simp only [Bool.and_eq_true, decide_eq_true_eq] at h
 refine ⟨h.1.1, fun k hk => ?_, h.2⟩
 have := List.all_eq_true.1 h.1.2 k hk
 unfold hashOk at this
 simpa using this
theorem pub_size {b : ByteArray} (h : pubOk b.data.toList = true) : b.size ≤ 128 := by
 unfold pubOk at h
 simp only [Bool.and_eq_true, decide_eq_true_eq] at h
 have := h.1.2.1
 simpa using this
theorem role_size2 {b : ByteArray} (h : roleOk b.data.toList = true) : b.size ≤ 64 := by
 unfold roleOk at h
 simp only [Bool.and_eq_true, decide_eq_true_eq] at h
 have := h.1.1.2
 simpa using this
theorem sum_map_le {α : Type} (f : α → ByteArray) (b : Nat) : ∀ l : List α, (∀ x ∈ l, (f x).size ≤ b) → bytesSum (l.map f) ≤ l.length * (b + 1)
 | [], _ => by simp [bytesSum]
 | x :: r, h => by
   have := sum_map_le f b r fun y hy => h y (List.mem_cons_of_mem _ hy)
   have h0 := h x (List.mem_cons_self ..)
   simp only [List.map_cons, bytesSum, List.length_cons]
   rw [Nat.succ_mul]
   omega
theorem wts_map_le {α : Type} (f : α → JV) (b : Nat) : ∀ l : List α, (∀ x ∈ l, (f x).wt ≤ b) → JV.wts (l.map f) ≤ l.length * b
 | [], _ => by simp [JV.wts]
 | x :: r, h => by
   have := wts_map_le f b r fun y hy => h y (List.mem_cons_of_mem _ hy)
   have h0 := h x (List.mem_cons_self ..)
   simp only [List.map_cons, JV.wts, List.length_cons]
   rw [Nat.succ_mul]
   omega
theorem hashJ_wt {l : List Key2} (h : mayHashes l = true) : (hashJ l).wt ≤ 1000 := by
 obtain ⟨hl, hok, _⟩ := mayHashes_parts h
 have a := sum_map_le (fun k : Key2 => k.1) 64 l fun k hk => role_size2 (hok k hk).1
 have b := wts_map_le (fun k : Key2 => txtJ k.2) 129 l fun k hk => by
   have := pub_size (hok k hk).2
   simp [txtJ, JV.wt, JV.wts, bytesSum]; omega
 have c : l.length * (64 + 1) ≤ 4 * 65 := Nat.mul_le_mul_right _ hl.2
 have d : l.length * 129 ≤ 4 * 129 := Nat.mul_le_mul_right _ hl.2
 unfold hashJ
 simp only [JV.wt]
 have : ({ data := #[] } : ByteArray).size = 0 := rfl
 omega
theorem numJ_wt (n : Int) : (numJ n).wt = 1 := by simp [numJ, JV.wt, JV.wts, bytesSum, ByteArray.size]
theorem mayPin_parts {p : PinV} (h : mayPin p = true) : (roleOf p.name).isSome = true ∧ (1 ≤ p.ver ∧ p.ver ≤ 1099511627776) ∧ (-1 ≤ p.len ∧ p.len ≤ 1099511627776) ∧ (p.hs = [] ∨ mayHashes p.hs = true) := by
 unfold mayPin at h
 simp only [Bool.and_eq_true, Bool.or_eq_true, decide_eq_true_eq] at h
 exact ⟨h.1.1.1, h.1.1.2, h.1.2, h.2.imp List.eq_nil_of_length_eq_zero id⟩
theorem pinJ_wt {p : PinV} (h : mayPin p = true) : (pinJ p).wt ≤ 2000 := by
 obtain ⟨_, _, _, hh⟩ := mayPin_parts h
 have e1 : hasN.size = 6 := rfl
 have e2 : lenN.size = 6 := rfl
 have e3 : verN.size = 7 := rfl
 have e4 : ({ data := #[] } : ByteArray).size = 0 := rfl
 have e5 : p.hs = [] ∨ ((hashJ p.hs).wt ≤ 1000 ∧ p.hs.isEmpty = false) := by
   rcases hh with h | h
   · exact .inl h
   · refine .inr ⟨hashJ_wt h, ?_⟩
     have := (mayHashes_parts h).1.1
     cases hp : p.hs with
     | nil => rw [hp] at this; simp at this
     | cons _ _ => rfl
 unfold pinJ pinM
 rcases e5 with e | ⟨e, e'⟩
 · rw [e]
   by_cases h1 : p.len = -1 <;> simp [h1, JV.wt, JV.wts, bytesSum, numJ_wt] <;> omega
 · rw [e']
   by_cases h1 : p.len = -1 <;> simp [h1, JV.wt, JV.wts, bytesSum, numJ_wt] <;> omega
theorem file_size {f : ByteArray} (h : (roleOf f).isSome = true) : f.size ≤ 69 := by
 obtain ⟨r, hr⟩ := Option.isSome_iff_exists.1 h
 obtain ⟨h1, h2⟩ := role_name hr
 have h3 := congrArg List.length h2
 unfold roleOk at h1
 simp only [Bool.and_eq_true, decide_eq_true_eq] at h1
 simp only [List.length_append, Array.length_toList, json, List.length_cons, List.length_nil] at h3
 show f.data.size ≤ 69
 omega
theorem metaJ_wt {l : List PinV} (h : l.all mayPin = true) (hl : l.length ≤ 256) : (metaJ l).wt ≤ 1000000 := by
 have ha := List.all_eq_true.1 h
 have a := sum_map_le (fun p : PinV => p.name) 69 l fun p hp => file_size (mayPin_parts (ha p hp)).1
 have b := wts_map_le pinJ 2000 l fun p hp => pinJ_wt (ha p hp)
 have c : l.length * (69 + 1) ≤ 256 * 70 := Nat.mul_le_mul_right _ hl
 have d : l.length * 2000 ≤ 256 * 2000 := Nat.mul_le_mul_right _ hl
 unfold metaJ
 simp only [JV.wt]
 have : ({ data := #[] } : ByteArray).size = 0 := rfl
 omega
def hashLoop : List ByteArray → List JV → List Key2 → List Key2 × Int
 | n :: ns, x :: xs, acc => if roleOk n.data.toList = false then ([], 3) else if x.kind ≠ 3 then ([], 10) else if pubOk x.t.data.toList = false then ([], 3) else hashLoop ns xs (acc ++ [(n, x.t)])
 | _, _, acc => (acc, 0)
def hashesOfJ (v : JV) : List Key2 × Int :=
 if v.mayB = false then ([], 3) else if v.kind ≠ 5 then ([], 10) else if 4 < v.names.length then ([], 5) else if v.names.length = 0 then ([], 4) else hashLoop v.names v.items []
theorem hashLoop_at {ns : List ByteArray} {xs : List JV} {acc : List Key2} (k : Nat) (h1 : k < ns.length) (h2 : k < xs.length) :
   hashLoop (ns.drop k) (xs.drop k) acc = if roleOk ns[k].data.toList = false then ([], 3) else if xs[k].kind ≠ 3 then ([], 10) else if pubOk xs[k].t.data.toList = false then ([], 3) else hashLoop (ns.drop (k + 1)) (xs.drop (k + 1)) (acc ++ [(ns[k], xs[k].t)]) := by
 rw [List.drop_eq_getElem_cons h1, List.drop_eq_getElem_cons h2]; rfl
theorem hashLoop_end {ns : List ByteArray} {xs : List JV} {acc : List Key2} (k : Nat) (h1 : ns.length ≤ k) : hashLoop (ns.drop k) (xs.drop k) acc = (acc, 0) := by
 rw [List.drop_eq_nil_of_le h1]; rfl
theorem hashLoop_back : ∀ (l acc : List Key2), (∀ k ∈ l, roleOk k.1.data.toList = true ∧ pubOk k.2.data.toList = true) → hashLoop (l.map (·.1)) (l.map fun k => txtJ k.2) acc = (acc ++ l, 0)
 | [], acc, _ => by simp [hashLoop]
 | k :: r, acc, h => by
   obtain ⟨h1, h2⟩ := h k (List.mem_cons_self ..)
   simp only [List.map_cons, hashLoop]
   rw [if_neg (by rw [h1]; decide), if_neg (by simp [txtJ, JV.kind]), if_neg (by show ¬ pubOk k.2.data.toList = false; rw [h2]; decide)]
   rw [hashLoop_back r _ fun q hq => h q (List.mem_cons_of_mem _ hq)]
   show (acc ++ [(k.1, (txtJ k.2).t)] ++ r, (0 : Int)) = _
   simp [txtJ, JV.t]
theorem wts_item : ∀ (l : List JV) (k : Nat) (h : k < l.length), l[k].wt ≤ JV.wts l
 | x :: r, 0, _ => by simp only [JV.wts, List.getElem_cons_zero]; omega
 | x :: r, k + 1, h => by
   have := wts_item r k (by simpa using h)
   simp only [JV.wts, List.getElem_cons_succ]; omega
def hasSt (v : JV) (st : PS) : List Key2 × PS := if pickHas v hasN st then ((hashesOfJ (pickObj v hasN 4 st).1).1, (pickObj v hasN 4 st).2.fail (hashesOfJ (pickObj v hasN 4 st).1).2) else ([], st)
def lenSt (v : JV) (st : PS) : Int × PS := if pickHas v lenN st then pickNum v lenN 0 1099511627776 st else (-1, st)
def pinOfK (f : ByteArray) (v : JV) : PinV × Int :=
 let a := pickNum v verN 1 1099511627776 ⟨[], 0⟩
 let b := lenSt v a.2
 let c := hasSt v b.2
 if pickDone v c.2 ≠ 0 then (pinZ, pickDone v c.2) else (⟨f, a.1, b.1, c.1⟩, 0)
theorem pinOfK_eq (f : ByteArray) (v : JV) : pinOfK f v = if pickDone v (hasSt v (lenSt v (pickNum v verN 1 1099511627776 ⟨[], 0⟩).2).2).2 ≠ 0 then (pinZ, pickDone v (hasSt v (lenSt v (pickNum v verN 1 1099511627776 ⟨[], 0⟩).2).2).2) else (⟨f, (pickNum v verN 1 1099511627776 ⟨[], 0⟩).1, (lenSt v (pickNum v verN 1 1099511627776 ⟨[], 0⟩).2).1, (hasSt v (lenSt v (pickNum v verN 1 1099511627776 ⟨[], 0⟩).2).2).1⟩, 0) := rfl
def PinOfR (C : JV → Prop) (f : ByteArray) (v : JV) (r : PinV × Int) : Prop :=
 (((roleOf f).isNone || !v.mayB) = true ∧ r = (pinZ, 3)) ∨ (((roleOf f).isNone || !v.mayB) = false ∧ ∃ u, C u ∧ r = pinOfK f u)
theorem lookL_wt : ∀ {ns : List ByteArray} {xs : List JV} {y : ByteArray} {x : JV}, lookL ns xs y = some x → x.wt ≤ JV.wts xs
 | n :: ns, z :: xs, y, x, h => by
   rw [lookL] at h
   simp only [JV.wts]
   split at h
   · injection h with h; subst h; omega
   · have := lookL_wt h; omega
theorem pickObj_wt {v : JV} {y : ByteArray} {most : Nat} {st : PS} (h : v.wt ≤ 4294967296) : (pickObj v y most st).1.wt ≤ 4294967296 := by
 have hz : zeroJ.wt ≤ 4294967296 := by decide
 have h2 := v.wt_bd
 unfold pickObj
 split
 · exact hz
 · split
   · exact hz
   · rename_i it hit
     have := lookL_wt (show lookL v.names v.items y = some it from hit)
     split
     · exact hz
     · split
       · exact hz
       · show it.wt ≤ _; omega
theorem names_wt {v : JV} (h : v.wt ≤ 4294967296) : ∀ i (hi : i < v.names.length), v.names[i].size ≤ 4294967296 := fun i hi => by
 have h1 := v.wt_eq
 have : ∀ (l : List ByteArray) (i : Nat) (hi : i < l.length), l[i].size ≤ bytesSum l := by
   intro l
   induction l with
   | nil => intro i hi; simp at hi
   | cons a r ih =>
     intro i hi
     rcases i with _ | i
     · simp [bytesSum]; omega
     · have := ih i (by simpa using hi)
       simp [bytesSum]; omega
 have := this v.names i hi
 omega
end Go.Proofs.YtgghgcilpfdbjaaGreatDoor
