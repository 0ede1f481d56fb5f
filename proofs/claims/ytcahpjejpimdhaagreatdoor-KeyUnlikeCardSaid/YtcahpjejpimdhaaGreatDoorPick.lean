/- The contracts of a picker's methods: Err, Fail, Text, Done. -/
import Derived.Test.YtcahpjejpimdhaaGreatDoorPickP
import Derived.Test.YtcahpjejpimdhaaGreatDoorEnc
import Derived.Maps.OwnOps
namespace Go.Proofs.YtcahpjejpimdhaaGreatDoor
open Go.RowKit Go.WideMaps Go.Maps

set_option maxHeartbeats 400000 in
theorem pickErr (o : Nat) (err kind : Int) (w : World) (h6 : w.cell? ⟨o, 6, none⟩ = some (.int .i64 err)) (h0 : w.cell? ⟨o, 0, none⟩ = some (.int .u8 kind)) (hk : err = 0 → kind = 5) :
    Calls Tryz.prog 88 #[.pointer (some ⟨o, 0, none⟩)] w fun e w' => e = .returned (.int .i64 err) ∧ w = w' := by
  by_cases he : err = 0
  · have hk' := hk he
    subst he hk'
    clear hk
    go_enter Tryz.func88, Tryz.ntmps88
    go_wp2
    go_ret
    exact ⟨rfl, rfl⟩
  · have he' : (err == 0) = false := by simpa using he
    clear hk he
    go_enter Tryz.func88, Tryz.ntmps88
    go_wp2
    go_ret
    exact ⟨rfl, rfl⟩

set_option maxHeartbeats 400000 in
theorem pickFail (o : Nat) (e : Int) (w : World) (h6 : w.cell? ⟨o, 6, none⟩ = some (.int .i64 0)) (h0 : w.cell? ⟨o, 0, none⟩ = some (.int .u8 5)) (hf : w.frozen? ⟨o, 6, none⟩ = false) :
    Calls Tryz.prog 114 #[.pointer (some ⟨o, 0, none⟩), .int .i64 e] w fun r w' => r = .returned (.tuple #[]) ∧ w' = w.setCell ⟨o, 6, none⟩ (.int .i64 e) := by
  go_enter Tryz.func114, Tryz.ntmps114
  go_wp2_with fail
  refine (pickErr o 0 5 w h6 h0 (fun _ => rfl)).mono ?_
  rintro r w' ⟨rfl, rfl⟩
  go_wp2
  go_end0
  exact ⟨rfl, rfl⟩

set_option maxHeartbeats 400000 in
theorem textConv (k n : Int) (t : ByteArray) (a b : Value) (w : World) :
    Calls Tryz.prog 87 #[.agg #[.int .u8 k, .int .i64 n, .string t, a, b]] w fun e w' => e = .returned (.tuple #[.string (if k = 3 then t else { data := #[] }), .int .i64 (if k = 3 then 0 else 10)]) ∧ Below w.heap.size w w' := by
  have HB := Lib.hid (show Below w.heap.size w (w.alloc (.cells #[.int .u8 k, .int .i64 n, .string t, a, b] 29)) from (Below.refl _ _).alloc (Nat.le_refl _) _)
  by_cases hk : k = 3
  · subst hk
    go_enter Tryz.func87, Tryz.ntmps87
    go_wp2
    go_ret2
    exact ⟨by simp, HB.out⟩
  · have hk' : (k == 3) = false := by simpa using hk
    have HK := Lib.hid hk
    clear hk
    go_enter Tryz.func87, Tryz.ntmps87
    go_wp2
    go_ret2
    exact ⟨by simp, HB.out⟩

theorem lawStr : Keyed Tryz.prog 9 := string_keyed Tryz.underlying9
theorem zeroInt (w : World) : (zeroValue 3).run Tryz.prog w = .ok (.int .i64 0) w := by kernel_rfl

def TextPost (o m lo hi : Nat) (v : JV) (an ai : Option Addr) (cn ci : Nat) (y : ByteArray) (st : PS) (w : World) (e : Ending) (w' : World) : Prop :=
  e = .returned (.string (pickText v y st).1) ∧ PickAt o m lo hi v an ai cn ci (pickText v y st).2 w' ∧ Touch (fun b => b = o ∨ b = m) w w'

set_option maxHeartbeats 1000000 in
set_option maxRecDepth 100000 in
theorem takeText (o m lo hi : Nat) (v : JV) (an ai : Option Addr) (cn ci : Nat) (y : ByteArray) (st : PS) (w : World) (hP : PickAt o m lo hi v an ai cn ci st w) (hy : y.size ≤ 4294967296) (ha : st.asked.length ≤ 4294967296) :
    Calls Tryz.prog 86 #[.pointer (some ⟨o, 0, none⟩), .string y, .func (.func 87) #[] #[]] w (TextPost o m lo hi v an ai cn ci y st w) := by
  have HP := Lib.hid hP
  clear hP
  have c6 : w.cell? ⟨o, 6, none⟩ = some (.int .i64 st.err) := box_cell HP.out.obj rfl
  have c0 : w.cell? ⟨o, 0, none⟩ = some (.int .u8 5) := (box_cell (j := 0) HP.out.obj rfl).trans (by rw [HP.out.kind]; rfl)
  by_cases he : st.err = 0
  · rw [he] at c6
    have HE := Lib.hid he
    clear he
    have c1 : w.cell? ⟨o, 1, none⟩ = some (.int .i64 v.n) := box_cell HP.out.obj rfl
    have c2 : w.cell? ⟨o, 2, none⟩ = some (.string v.t) := box_cell HP.out.obj rfl
    have c3 : w.cell? ⟨o, 3, none⟩ = some (.slice an v.names.length cn) := box_cell HP.out.obj rfl
    have c4 : w.cell? ⟨o, 4, none⟩ = some (.slice ai v.items.length ci) := box_cell HP.out.obj rfl
    have HR := Lib.hid HP.out.rep
    rw [HP.out.kind] at HR
    have HG := Lib.hid (valueGet v y _ w lo hi HP.out.wt HP.out.pos HP.out.le HR.out HP.out.kind HP.out.rise HP.out.len)
    go_enter Tryz.func86, Tryz.ntmps86
    go_wp2_with fail
    refine (pickErr o 0 5 w c6 c0 (fun _ => rfl)).mono ?_
    rintro r w' ⟨rfl, rfl⟩
    go_wp2_with fail
    refine HG.out.mono ?_
    clear HG c0 c1 c2 c3 c4 c6
    rintro e w1 ⟨hh, hb1⟩
    have HB1 := Lib.hid hb1
    clear hb1
    rcases hh with ⟨r, hr1, hr2, hre, an', cn', ai', ci', rfl, hrep⟩ | ⟨hno, rfl⟩
    · have HL := Lib.hid (look_some HP.out.rise r hr1 hr2 hre)
      clear hre hrep
      generalize v.items[r] = it at *
      have hb2 : Below w.heap.size w (w1.alloc (.cells #[.int .u8 it.kind, .int .i64 it.n, .string it.t, .slice an' it.names.length cn', .slice ai' it.items.length ci'] 29)) := HB1.out.alloc HB1.out.size _
      have HB2 := Lib.hid hb2
      have HC := Lib.hid (textConv it.kind it.n it.t (.slice an' it.names.length cn') (.slice ai' it.items.length ci') (w1.alloc (.cells #[.int .u8 it.kind, .int .i64 it.n, .string it.t, .slice an' it.names.length cn', .slice ai' it.items.length ci'] 29)))
      clear hb2
      by_cases hk : it.kind = 3
      · have HK := Lib.hid hk
        rw [if_pos hk, if_pos hk] at HC
        clear hk
        go_wp2_with fail
        refine HC.out.mono ?_
        clear HC
        rintro e w2 ⟨rfl, hb3⟩
        have HB3 := Lib.hid (HB2.out.trans (hb3.mono HB2.out.size))
        have HP3 := Lib.hid (HP.out.below HB3.out)
        clear hb3 HB2
        have d5 : w2.cell? ⟨o, 5, none⟩ = some (.map (some m)) := box_cell HP3.out.obj rfl
        have hkey : keyOf Tryz.prog 9 (.string y) = some (.string y.data.toList) := keyOf_string_mk Tryz.underlying9 (by unfold maxLen; omega)
        obtain ⟨D, n, hown, hn, hD⟩ := HP3.out.map
        obtain ⟨c, hat, hc0, hc1, hc2⟩ := hD.2 y
        obtain ⟨c', hrun, hat', _⟩ := hown.lookup_int lawStr Tryz.underlying116 Tryz.underlying3 (zeroInt _) hkey
        rw [hat] at hat'
        simp only [DataW.lit.injEq, Lit.int.injEq, true_and] at hat'
        subst hat'
        have HD := Lib.hid (hD.cons y c hat)
        have HKY := Lib.hid hkey
        have HOW := Lib.hid hown
        clear hD hat hc2 hkey hown
        go_wp2_with (at_mapUpdate; refine wpList_mapUpdate_own _ rfl _ _ _ 116 rfl 9 3 lawStr Tryz.underlying116 _ m n D rfl HOW.out (by unfold maxLen; omega) _ _ _ rfl rfl HKY.out _ [] (plainElem_int Tryz.underlying3 (WalkArith.wf_i64 (by omega))) ?_)
        intro w3 hown3 hgrow3
        have HP4 := Lib.hid (HP3.out.ask y hgrow3 hown3 (by omega) HD.out)
        have HT := Lib.hid (show Touch (fun b => b = o ∨ b = m) w w3 from ⟨by rw [hgrow3.os, HB3.out.os], by rw [hgrow3.tape, HB3.out.tape], by rw [hgrow3.output, HB3.out.output], Nat.le_trans HB3.out.size hgrow3.size, fun k hk hs => by rw [hgrow3.block k (Nat.lt_of_lt_of_le hk HB3.out.size) (fun e => hs (.inr (Option.some.inj e))), HB3.out.block k hk]⟩)
        clear hgrow3 hown3
        have HX := Lib.hid (show pickText v y st = (it.t, ⟨y :: st.asked, 0⟩) by unfold pickText; rw [if_neg (by simp [HE.out]), HL.out]; simp [HK.out])
        rw [HE.out] at HP4
        go_wp2
        go_ret
        exact ⟨by rw [HX.out]; rfl, by rw [HX.out]; exact HP4.out, HT.out⟩
      · have HX := Lib.hid (show pickText v y st = ({ data := #[] }, ⟨st.asked, 10⟩) by unfold pickText; rw [if_neg (by simp [HE.out]), HL.out]; simp [hk])
        rw [if_neg hk, if_neg hk] at HC
        clear hk
        go_wp2_with fail
        refine HC.out.mono ?_
        clear HC
        rintro e w2 ⟨rfl, hb3⟩
        have HB3 := Lib.hid (HB2.out.trans (hb3.mono HB2.out.size))
        have HP3 := Lib.hid (HP.out.below HB3.out)
        clear hb3 HB2
        have d6 : w2.cell? ⟨o, 6, none⟩ = some (.int .i64 0) := (box_cell (j := 6) HP3.out.obj rfl).trans (by rw [HE.out]; rfl)
        have d0 : w2.cell? ⟨o, 0, none⟩ = some (.int .u8 5) := (box_cell (j := 0) HP3.out.obj rfl).trans (by rw [HP.out.kind]; rfl)
        have d7 : w2.frozen? ⟨o, 6, none⟩ = false := by simp [World.frozen?, HP3.out.obj]
        go_wp2_with fail
        refine (pickFail o 10 _ d6 d0 d7).mono ?_
        clear d6 d0 d7
        rintro e w3 ⟨rfl, rfl⟩
        have HP4 := Lib.hid (HP3.out.fail 10)
        have HT := Lib.hid (show Touch (fun b => b = o ∨ b = m) w (w2.setCell ⟨o, 6, none⟩ (.int .i64 10)) from (Touch.of_below HB3.out (Nat.le_refl _)).setCell (.inl (.inl rfl)) _)
        go_wp2
        go_ret
        exact ⟨by rw [HX.out]; rfl, by rw [HX.out]; exact HP4.out, HT.out⟩
    · have HX := Lib.hid (show pickText v y st = ({ data := #[] }, ⟨st.asked, 6⟩) by unfold pickText; rw [if_neg (by simp [HE.out]), show v.look y = none from lookL_none _ _ _ hno])
      unfold zeroAgg
      have HB3 := Lib.hid (show Below w.heap.size w (w1.alloc (.cells #[.int .u8 0, .int .i64 0, .string { data := #[] }, .slice none 0 0, .slice none 0 0] 29)) from HB1.out.alloc HB1.out.size _)
      have HP3 := Lib.hid (HP.out.below HB3.out)
      clear hno HB1
      have d6 : (w1.alloc (.cells #[.int .u8 0, .int .i64 0, .string { data := #[] }, .slice none 0 0, .slice none 0 0] 29)).cell? ⟨o, 6, none⟩ = some (.int .i64 0) := (box_cell (j := 6) HP3.out.obj rfl).trans (by rw [HE.out]; rfl)
      have d0 : (w1.alloc (.cells #[.int .u8 0, .int .i64 0, .string { data := #[] }, .slice none 0 0, .slice none 0 0] 29)).cell? ⟨o, 0, none⟩ = some (.int .u8 5) := (box_cell (j := 0) HP3.out.obj rfl).trans (by rw [HP.out.kind]; rfl)
      have d7 : (w1.alloc (.cells #[.int .u8 0, .int .i64 0, .string { data := #[] }, .slice none 0 0, .slice none 0 0] 29)).frozen? ⟨o, 6, none⟩ = false := by simp [World.frozen?, HP3.out.obj]
      go_wp2_with fail
      refine (pickFail o 6 _ d6 d0 d7).mono ?_
      clear d6 d0 d7
      rintro e w3 ⟨rfl, rfl⟩
      have HP4 := Lib.hid (HP3.out.fail 6)
      have HT := Lib.hid (show Touch (fun b => b = o ∨ b = m) w ((w1.alloc (.cells #[.int .u8 0, .int .i64 0, .string { data := #[] }, .slice none 0 0, .slice none 0 0] 29)).setCell ⟨o, 6, none⟩ (.int .i64 6)) from (Touch.of_below HB3.out (Nat.le_refl _)).setCell (.inl (.inl rfl)) _)
      go_wp2
      go_ret
      exact ⟨by rw [HX.out]; rfl, by rw [HX.out]; exact HP4.out, HT.out⟩
  · have he' : (st.err == 0) = false := by simpa using he
    have he2 : (st.err != 0) = true := by simpa using he
    have HX := Lib.hid (show pickText v y st = ({ data := #[] }, st) by unfold pickText; rw [if_pos he])
    have HE := Lib.hid he
    clear he
    go_enter Tryz.func86, Tryz.ntmps86
    go_wp2_with fail
    refine (pickErr o st.err 5 w c6 c0 (fun _ => rfl)).mono ?_
    rintro r w' ⟨rfl, rfl⟩
    go_wp2
    go_ret
    exact ⟨by rw [HX.out]; rfl, by rw [HX.out]; exact HP.out, Touch.refl _ _⟩

set_option maxHeartbeats 400000 in
theorem pickTextF (o m lo hi : Nat) (v : JV) (an ai : Option Addr) (cn ci : Nat) (y : ByteArray) (st : PS) (w : World) (hP : PickAt o m lo hi v an ai cn ci st w) (hy : y.size ≤ 4294967296) (ha : st.asked.length ≤ 4294967296) :
    Calls Tryz.prog 53 #[.pointer (some ⟨o, 0, none⟩), .string y] w (TextPost o m lo hi v an ai cn ci y st w) := by
  have HC := Lib.hid (takeText o m lo hi v an ai cn ci y st w hP hy ha)
  clear hP
  go_enter Tryz.func53, Tryz.ntmps53
  go_wp2_with fail
  refine HC.out.mono ?_
  rintro e w' ⟨rfl, h1, h2⟩
  have H1 := Lib.hid h1
  have H2 := Lib.hid h2
  clear h1 h2
  go_wp2
  go_ret
  exact ⟨rfl, H1.out, H2.out⟩

end Go.Proofs.YtcahpjejpimdhaaGreatDoor
