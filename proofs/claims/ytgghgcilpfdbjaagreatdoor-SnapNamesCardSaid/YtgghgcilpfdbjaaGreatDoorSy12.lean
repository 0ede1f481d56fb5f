/- An object that a call builds: 'obj.Names = append(obj.Names, x); obj.Items = append(obj.Items, f(y))'. No program in sight. -/
import Derived.Test.YtgghgcilpfdbjaaGreatDoorSy08
import Derived.Test.YtgghgcilpfdbjaaGreatDoorSy11
import Derived.Test.YtgghgcilpfdbjaaGreatDoorSy01
import Derived.Laws.ResultCell
import Derived.Maps.OwnOps
import Derived.Maps.Views
import Derived.StringKeys
import Derived.Test.YtgghgcilpfdbjaaGreatDoorSy00
import Derived.Shelf.SlSortCmp.SmallK
import Derived.Shelf.SlicesE.Clone
import Derived.Ground.SlsfProg

namespace Go.Proofs.YtgghgcilpfdbjaaGreatDoor
open Go.RowKit
def GetPost (v : JV) (x : ByteArray) (w : World) (e : Ending) (w' : World) : Prop :=
 ((∃ (r : Nat) (h : r < v.names.length) (h' : r < v.items.length), v.names[r] = x ∧ ∃ an cn ai ci, e = .returned (.tuple #[.agg #[.int .u8 v.items[r].kind, .int .i64 v.items[r].n, .string v.items[r].t, .slice an v.items[r].names.length cn, .slice ai v.items[r].items.length ci], .bool true]) ∧
     Rep w' w.heap.size w'.heap.size v.items[r] (.agg #[.int .u8 v.items[r].kind, .int .i64 v.items[r].n, .string v.items[r].t, .slice an v.items[r].names.length cn, .slice ai v.items[r].items.length ci])) ∨
   ((∀ t (h : t < v.names.length), v.names[t] ≠ x) ∧ e = .returned (.tuple #[zeroAgg, .bool false]))) ∧ Below w.heap.size w w'
set_option maxRecDepth 100000 in
set_option maxHeartbeats 400000 in
theorem valueGet (v : JV) (x : ByteArray) (y : Value) (w : World) (lo hi : Nat) (hN : v.wt ≤ 4294967296) (hlo : 0 < lo) (hhi : hi ≤ w.heap.size) (hR : Rep w lo hi v y) (hk : v.kind = 5) (hr : rises v.names = true) (hl : v.names.length = v.items.length) :
   Calls Tryz.prog 105 #[y, .string x] w (GetPost v x w) := by
 obtain ⟨an, cn, ai, ci, rfl, h1, h2, h3, h4⟩ := hR.parts
 obtain ⟨b1, b2, b3, b4⟩ := v.wt_bd
 have H3 := Lib.hid h3
 have H4 := Lib.hid h4
 have HR := Lib.hid hr
 clear h3 h4 hR hr
 obtain ⟨ni, hni⟩ : ∃ ni, ni = v.items.length := ⟨_, rfl⟩
 rw [hl, ← hni]
 rw [← hni] at b3 h2
 have HNI := Lib.hid hni
 have HL := Lib.hid hl
 clear hni hl
 go_enter Tryz.func105, Tryz.ntmps105
 go_wp2_with fail
 have HB0 := Lib.hid (show Below w.heap.size w ((w.alloc (.cells #[.int .u8 5, .int .i64 v.n, .string v.t, .slice an ni cn, .slice ai ni ci] 30)).alloc (.cells #[.int .u8 0, .int .i64 0, .string { data := #[] }, .slice none 0 0, .slice none 0 0] 30)) from ((Below.refl _ _).alloc (Nat.le_refl _) _).alloc (by simp) _)
 have hf := valueFind v.names x an cn ((w.alloc (.cells #[.int .u8 5, .int .i64 v.n, .string v.t, .slice an ni cn, .slice ai ni ci] 30)).alloc (.cells #[.int .u8 0, .int .i64 0, .string { data := #[] }, .slice none 0 0, .slice none 0 0] 30)) (H3.out.below HB0.out hhi (Nat.zero_le _) (by have := HB0.out.size; omega)) (by omega) HR.out
 rw [HL.out, ← HNI.out] at hf
 refine hf.mono ?_
 clear hf
 rintro e w1 ⟨r, f, rfl, k1, k2, k3, k4, k5, hb1⟩
 have hz1 : w.heap.size + 2 ≤ w1.heap.size := by have := hb1.size; simp at this; omega
 have hbox := (rowIs_box5 w (.int .u8 5) (.int .i64 v.n) (.string v.t) (.slice an ni cn) (.slice ai ni ci) 30).alloc (.cells #[.int .u8 0, .int .i64 0, .string { data := #[] }, .slice none 0 0, .slice none 0 0] 30)
 have hres := rowIs_box5 (w.alloc (.cells #[.int .u8 5, .int .i64 v.n, .string v.t, .slice an ni cn, .slice ai ni ci] 30)) (.int .u8 0) (.int .i64 0) (.string { data := #[] }) (.slice none 0 0) (.slice none 0 0) 30
 rw [show (w.alloc (.cells #[.int .u8 5, .int .i64 v.n, .string v.t, .slice an ni cn, .slice ai ni ci] 30)).heap.size = w.heap.size + 1 by simp] at hres
 have HBX := Lib.hid (below_row hb1 hbox (by simp; omega))
 have HRS := Lib.hid (below_row hb1 hres (by simp))
 have HB1 : Hid (Below w.heap.size w w1) := HB0.out.trans (hb1.mono (by simp; omega))
 have c4 : w1.cell? ⟨w.heap.size, 4, none⟩ = some (.slice ai ni ci) := HBX.out.cell (by omega)
 have K1 := Lib.hid k1
 have K4 := Lib.hid k4
 have K5 := Lib.hid k5
 clear hbox hres hb1 HB0 k1 k2 k3 k4 k5
 cases f
 · have HNO := Lib.hid (K5.out rfl)
   have t0 := HRS.out.cell (i := 0) (by decide); have t1 := HRS.out.cell (i := 1) (by decide); have t2 := HRS.out.cell (i := 2) (by decide); have t3 := HRS.out.cell (i := 3) (by decide); have t4 := HRS.out.cell (i := 4) (by decide)
   have s0 := HRS.out.frozen 0; have s1 := HRS.out.frozen 1; have s2 := HRS.out.frozen 2; have s3 := HRS.out.frozen 3; have s4 := HRS.out.frozen 4
   simp only [pick5] at t0 t1 t2 t3 t4
   go_wp2
   refine bodyPost_ret (results_row_tmp Tryz.results105 _ _ (w.heap.size + 1) 30 _ (0, 0) _ rfl (row5_heap (set5 _ _ _ _ _ HRS.out)) Tryz.underlying30 rfl (by kernel_rfl) _ rfl) rfl ⟨.inr ⟨HNO.out, rfl⟩, below5 _ _ _ _ _ HB1.out (by omega)⟩
 · obtain ⟨hrl, hre⟩ := K4.out rfl
   have hrl' : r < v.items.length := by rw [← HL.out]; exact hrl
   have hrn : r < ni := by rw [HNI.out]; exact hrl'
   have HRE := Lib.hid hre
   clear hre
   obtain ⟨b, off, an', cn', ai', ci', rfl, _, hb, y0, y1, y2, y3, y4, hrep⟩ := (H4.out.below HB1.out hhi (Nat.le_refl _) (Nat.le_refl _)).get r hrl'
   have hwk := JV.wts_get v.items r hrl'
   have hvc := valueCopy v.items[r] _ w1 lo hi (by omega) (by omega) hrep (fun k h => .inl hlo)
   have HVC := Lib.hid hvc
   clear hvc hrep
   go_wp2_with fail
   refine HVC.out.mono ?_
   clear HVC y0 y1 y2 y3 y4 c4 hb
   rintro e w2 ⟨a2, c2, a3, c3, rfl, hr2, hb2⟩
   have hres2 := below_row hb2 HRS.out (by omega)
   have t0 := hres2.cell (i := 0) (by decide); have t1 := hres2.cell (i := 1) (by decide); have t2 := hres2.cell (i := 2) (by decide); have t3 := hres2.cell (i := 3) (by decide); have t4 := hres2.cell (i := 4) (by decide)
   have s0 := hres2.frozen 0; have s1 := hres2.frozen 1; have s2 := hres2.frozen 2; have s3 := hres2.frozen 3; have s4 := hres2.frozen 4
   simp only [pick5] at t0 t1 t2 t3 t4
   have HR2 := Lib.hid hr2
   have HB2 := Lib.hid hb2
   have HS2 := Lib.hid hres2
   clear hr2 hb2 hres2
   go_wp2
   refine bodyPost_ret (results_row_tmp Tryz.results105 _ _ (w.heap.size + 1) 30 _ (0, 0) _ rfl (row5_heap (set5 _ _ _ _ _ HS2.out)) Tryz.underlying30 rfl (by kernel_rfl) _ rfl) rfl ⟨.inl ⟨r, hrl, hrl', HRE.out, a2, c2, a3, c3, rfl, ?_⟩, below5 _ _ _ _ _ (HB1.out.trans (HB2.out.mono (by omega))) (by omega)⟩
   exact Rep.carry (by omega) (show w2.heap.size ≤ _ by simp [World.setCell]) (fun k hk _ => heap5 _ _ _ _ _ (by omega)) _ _ HR2.out
end Go.Proofs.YtgghgcilpfdbjaaGreatDoor

namespace Go.Proofs.YtgghgcilpfdbjaaGreatDoor
open Go.RowKit Go.WideMaps Go.Maps
def lookL : List ByteArray → List JV → ByteArray → Option JV
 | n :: ns, x :: xs, y => if n = y then some x else lookL ns xs y
 | _, _, _ => none
def JV.look (v : JV) (y : ByteArray) : Option JV := lookL v.names v.items y
theorem lookL_none : ∀ (ns : List ByteArray) (xs : List JV) (y : ByteArray), (∀ t (h : t < ns.length), ns[t] ≠ y) → lookL ns xs y = none
 | [], _, _, _ => by simp [lookL]
 | n :: ns, [], _, _ => by simp [lookL]
 | n :: ns, x :: xs, y, h => by
   have h0 := h 0 (by simp)
   simp only [List.getElem_cons_zero] at h0
   rw [lookL, if_neg h0]
   exact lookL_none ns xs y fun t ht => by have := h (t + 1) (by simp; omega); simpa using this
theorem lookL_some : ∀ (ns : List ByteArray) (xs : List JV) (y : ByteArray) (r : Nat) (h : r < ns.length) (h' : r < xs.length), (∀ t (ht : t < ns.length), t < r → ns[t] ≠ y) → ns[r] = y → lookL ns xs y = some xs[r]
 | n :: ns, x :: xs, y, 0, _, _, _, e => by simp only [List.getElem_cons_zero] at e; rw [lookL, if_pos e]; rfl
 | n :: ns, x :: xs, y, r + 1, h, h', hn, e => by
   have h0 := hn 0 (by simp) (by omega)
   simp only [List.getElem_cons_zero] at h0
   rw [lookL, if_neg h0]
   exact lookL_some ns xs y r (by simpa using h) (by simpa using h') (fun t ht hr => by have := hn (t + 1) (by simp; omega) (by omega); simpa using this) (by simpa using e)
theorem look_some {v : JV} {y : ByteArray} (hr : rises v.names = true) (r : Nat) (h : r < v.names.length) (h' : r < v.items.length) (e : v.names[r] = y) : v.look y = some v.items[r] :=
 lookL_some _ _ _ r h h' (fun t ht hlt e2 => by
   have := rises_lt hr t r ht h hlt
   rw [e2, e, bl_irrefl] at this; cases this) e
structure PS where
 asked : List ByteArray
 err : Int
def pickText (v : JV) (y : ByteArray) (st : PS) : ByteArray × PS :=
 if st.err ≠ 0 then ({ data := #[] }, st) else match v.look y with
   | none => ({ data := #[] }, ⟨st.asked, 6⟩)
   | some it => if it.kind = 3 then (it.t, ⟨y :: st.asked, 0⟩) else ({ data := #[] }, ⟨st.asked, 10⟩)
def pickDone (v : JV) (st : PS) : Int := if st.err ≠ 0 then st.err else if v.names.all (fun n => st.asked.any fun a => decide (a = n)) then 0 else 11
def AskD (D : DataW Unit) (asked : List ByteArray) : Prop :=
 IsMap D ∧ ∀ s : ByteArray, ∃ c : Int, D.atKey (.string s.data.toList) (.lit (.int .i64 0)) = .lit (.int .i64 c) ∧ 0 ≤ c ∧ c ≤ asked.length ∧ (c = 0 ↔ s ∉ asked)
theorem AskD.nil : AskD (.map []) [] := ⟨isMap_empty, fun s => ⟨0, rfl, by omega, by simp, by simp⟩⟩
theorem AskD.cons {D : DataW Unit} {asked : List ByteArray} (h : AskD D asked) (y : ByteArray) (c : Int) (hc : D.atKey (.string y.data.toList) (.lit (.int .i64 0)) = .lit (.int .i64 c)) :
   AskD (D.put (.string y.data.toList) (.lit (.int .i64 (c + 1)))) (y :: asked) := by
 refine ⟨h.1.put _ _, fun s => ?_⟩
 by_cases e : s = y
 · subst e
   obtain ⟨c', h1, h2, h3, h4⟩ := h.2 s
   rw [hc] at h1
   simp only [DataW.lit.injEq, Lit.int.injEq, true_and] at h1
   subst h1
   exact ⟨c + 1, atKey_put_same h.1 (by trivial) _ _, by omega, by simp; omega, by simp; omega⟩
 · obtain ⟨c', h1, h2, h3, h4⟩ := h.2 s
   have ne : Lit.string s.data.toList ≠ Lit.string y.data.toList := fun e2 => e (by
     have e3 : s.data.toList = y.data.toList := by simpa using e2
     exact ByteArray.ext (Array.toList_inj.1 e3))
   exact ⟨c', by rw [atKey_put_other ne]; exact h1, h2, by simp; omega, by simp [e, h4]⟩
structure PickAt (o m lo hi : Nat) (v : JV) (an ai : Option Addr) (cn ci : Nat) (st : PS) (w : World) : Prop where
 obj : w.heap[o]? = some (.cells #[.int .u8 v.kind, .int .i64 v.n, .string v.t, .slice an v.names.length cn, .slice ai v.items.length ci, .map (some m), .int .i64 st.err] 128 (0, 0))
 map : ∃ D n, w.ownsMap Tryz.prog 9 (plainElem (H := Unit) Tryz.prog 3) m n D ∧ n ≤ 1000000 + st.asked.length ∧ AskD D st.asked
 rep : Rep w lo hi v (.agg #[.int .u8 v.kind, .int .i64 v.n, .string v.t, .slice an v.names.length cn, .slice ai v.items.length ci])
 pos : 0 < lo
 out : ¬ (lo ≤ o ∧ o < hi) ∧ ¬ (lo ≤ m ∧ m < hi)
 le : hi ≤ w.heap.size
 kind : v.kind = 5
 rise : rises v.names = true
 len : v.names.length = v.items.length
 wt : v.wt ≤ 4294967296
theorem PickAt.below {o m lo hi : Nat} {v : JV} {an ai : Option Addr} {cn ci : Nat} {st : PS} {w w' : World} (h : PickAt o m lo hi v an ai cn ci st w) (hb : Below w.heap.size w w') : PickAt o m lo hi v an ai cn ci st w' where
 obj := by rw [hb.block o ((Array.getElem?_eq_some_iff.1 h.obj).1)]; exact h.obj
 map := by
   obtain ⟨D, n, h1, h2, h3⟩ := h.map
   exact ⟨D, n, h1.kept (row := none) ⟨hb.os, hb.tape, hb.output, hb.size, fun k hk _ => hb.block k hk⟩ (by simp), h2, h3⟩
 rep := h.rep.below hb h.le (Nat.le_refl _) (Nat.le_refl _)
 pos := h.pos
 out := h.out
 le := Nat.le_trans h.le hb.size
 kind := h.kind
 rise := h.rise
 len := h.len
 wt := h.wt
theorem PickAt.ne {o m lo hi : Nat} {v : JV} {an ai : Option Addr} {cn ci : Nat} {st : PS} {w : World} (h : PickAt o m lo hi v an ai cn ci st w) : m ≠ o := fun e => by
 obtain ⟨D, n, ⟨es, clock, h1, _⟩, _⟩ := h.map
 rw [e, h.obj] at h1; cases h1
theorem PickAt.fail {o m lo hi : Nat} {v : JV} {an ai : Option Addr} {cn ci : Nat} {st : PS} {w : World} (h : PickAt o m lo hi v an ai cn ci st w) (e : Int) : PickAt o m lo hi v an ai cn ci ⟨st.asked, e⟩ (w.setCell ⟨o, 6, none⟩ (.int .i64 e)) where
 obj := by simp [World.setCell, Array.getElem?_modify, h.obj]
 map := by
   obtain ⟨D, n, h1, h2, h3⟩ := h.map
   exact ⟨D, n, h1.kept (row := some o) ⟨rfl, rfl, rfl, by simp [World.setCell], fun k _ hk => Below.heap_setCell _ _ _ _ (fun e => hk (by simp [e]))⟩ (fun e => h.ne (Option.some.inj e)), h2, h3⟩
 rep := h.rep.carry (Nat.le_refl _) (Nat.le_refl _) fun b h1 h2 => Below.heap_setCell _ _ _ _ (fun (e : b = o) => h.out.1 ⟨e ▸ h1, e ▸ h2⟩)
 pos := h.pos
 out := h.out
 le := by have := h.le; simpa [World.setCell] using this
 kind := h.kind
 rise := h.rise
 len := h.len
 wt := h.wt
theorem PickAt.ask {o m lo hi : Nat} {v : JV} {an ai : Option Addr} {cn ci : Nat} {st : PS} {w w' : World} (h : PickAt o m lo hi v an ai cn ci st w) (y : ByteArray) (hg : w.grownBy w' (some m)) {D : DataW Unit} {n : Nat}
   (hm : w'.ownsMap Tryz.prog 9 (plainElem (H := Unit) Tryz.prog 3) m n D) (hn : n ≤ 1000000 + st.asked.length + 1) (hD : AskD D (y :: st.asked)) : PickAt o m lo hi v an ai cn ci ⟨y :: st.asked, st.err⟩ w' where
 obj := by rw [hg.block o ((Array.getElem?_eq_some_iff.1 h.obj).1) (fun e => h.ne (Option.some.inj e).symm)]; exact h.obj
 map := ⟨D, n, hm, by simp; omega, hD⟩
 rep := h.rep.carry (Nat.le_refl _) (Nat.le_refl _) fun b h1 h2 => hg.block b (Nat.lt_of_lt_of_le h2 h.le) (fun e => h.out.2 ⟨by rw [← Option.some.inj e]; exact h1, by rw [← Option.some.inj e]; exact h2⟩)
 pos := h.pos
 out := h.out
 le := Nat.le_trans h.le hg.size
 kind := h.kind
 rise := h.rise
 len := h.len
 wt := h.wt
set_option maxHeartbeats 400000 in
theorem pickErr (o : Nat) (err kind : Int) (w : World) (h6 : w.cell? ⟨o, 6, none⟩ = some (.int .i64 err)) (h0 : w.cell? ⟨o, 0, none⟩ = some (.int .u8 kind)) (hk : err = 0 → kind = 5) :
   Calls Tryz.prog 104 #[.pointer (some ⟨o, 0, none⟩)] w fun e w' => e = .returned (.int .i64 err) ∧ w = w' := by
 by_cases he : err = 0
 · have hk' := hk he
   subst he hk'
   clear hk
   go_enter Tryz.func104, Tryz.ntmps104
   go_wp2
   go_ret
   exact ⟨rfl, rfl⟩
 · have he' : (err == 0) = false := by simpa using he
   clear hk he
   go_enter Tryz.func104, Tryz.ntmps104
   go_wp2
   go_ret
   exact ⟨rfl, rfl⟩
set_option maxHeartbeats 400000 in
theorem pickFail (o : Nat) (e : Int) (w : World) (h6 : w.cell? ⟨o, 6, none⟩ = some (.int .i64 0)) (h0 : w.cell? ⟨o, 0, none⟩ = some (.int .u8 5)) (hf : w.frozen? ⟨o, 6, none⟩ = false) :
   Calls Tryz.prog 66 #[.pointer (some ⟨o, 0, none⟩), .int .i64 e] w fun r w' => r = .returned (.tuple #[]) ∧ w' = w.setCell ⟨o, 6, none⟩ (.int .i64 e) := by
 go_enter Tryz.func66, Tryz.ntmps66
 go_wp2_with fail
 refine (pickErr o 0 5 w h6 h0 (fun _ => rfl)).mono ?_
 rintro r w' ⟨rfl, rfl⟩
 go_wp2
 go_end0
 exact ⟨rfl, rfl⟩
set_option maxHeartbeats 400000 in
theorem textConv (k n : Int) (t : ByteArray) (a b : Value) (w : World) :
   Calls Tryz.prog 167 #[.agg #[.int .u8 k, .int .i64 n, .string t, a, b]] w fun e w' => e = .returned (.tuple #[.string (if k = 3 then t else { data := #[] }), .int .i64 (if k = 3 then 0 else 10)]) ∧ Below w.heap.size w w' := by
 have HB := Lib.hid (show Below w.heap.size w (w.alloc (.cells #[.int .u8 k, .int .i64 n, .string t, a, b] 30)) from (Below.refl _ _).alloc (Nat.le_refl _) _)
 by_cases hk : k = 3
 · subst hk
   go_enter Tryz.func167, Tryz.ntmps167
   go_wp2
   go_ret2
   exact ⟨by simp, HB.out⟩
 · have hk' : (k == 3) = false := by simpa using hk
   have HK := Lib.hid hk
   clear hk
   go_enter Tryz.func167, Tryz.ntmps167
   go_wp2
   go_ret2
   exact ⟨by simp, HB.out⟩
theorem lawStr : Keyed Tryz.prog 9 := string_keyed Tryz.underlying9
theorem zeroInt (w : World) : (zeroValue 3).run Tryz.prog w = .ok (.int .i64 0) w := by kernel_rfl
def TextPost (o m lo hi : Nat) (v : JV) (an ai : Option Addr) (cn ci : Nat) (y : ByteArray) (st : PS) (w : World) (e : Ending) (w' : World) : Prop :=
 e = .returned (.string (pickText v y st).1) ∧ PickAt o m lo hi v an ai cn ci (pickText v y st).2 w' ∧ Touch (fun b => b = o ∨ b = m) w w'
set_option maxHeartbeats 1000000 in
set_option maxRecDepth 100000 in
theorem takeText (o m lo hi : Nat) (v : JV) (an ai : Option Addr) (cn ci : Nat) (y : ByteArray) (st : PS) (w : World) (hP : PickAt o m lo hi v an ai cn ci st w) (hy : y.size ≤ 4294967296) (ha : st.asked.length ≤ 4294967296) :
   Calls Tryz.prog 166 #[.pointer (some ⟨o, 0, none⟩), .string y, .func (.func 167) #[] #[]] w (TextPost o m lo hi v an ai cn ci y st w) := by
 have HP := Lib.hid hP
 clear hP
 have c6 : w.cell? ⟨o, 6, none⟩ = some (.int .i64 st.err) := box_cell HP.out.obj rfl
 have c0 : w.cell? ⟨o, 0, none⟩ = some (.int .u8 5) := (box_cell (j := 0) HP.out.obj rfl).trans (by rw [HP.out.kind]; rfl)
 by_cases he : st.err = 0
 · rw [he] at c6
   have HE := Lib.hid he
   clear he
   have c1 : w.cell? ⟨o, 1, none⟩ = some (.int .i64 v.n) := box_cell HP.out.obj rfl
   have c2 : w.cell? ⟨o, 2, none⟩ = some (.string v.t) := box_cell HP.out.obj rfl
   have c3 : w.cell? ⟨o, 3, none⟩ = some (.slice an v.names.length cn) := box_cell HP.out.obj rfl
   have c4 : w.cell? ⟨o, 4, none⟩ = some (.slice ai v.items.length ci) := box_cell HP.out.obj rfl
   have HR := Lib.hid HP.out.rep
   rw [HP.out.kind] at HR
   have HG := Lib.hid (valueGet v y _ w lo hi HP.out.wt HP.out.pos HP.out.le HR.out HP.out.kind HP.out.rise HP.out.len)
   go_enter Tryz.func166, Tryz.ntmps166
   go_wp2_with fail
   refine (pickErr o 0 5 w c6 c0 (fun _ => rfl)).mono ?_
   rintro r w' ⟨rfl, rfl⟩
   go_wp2_with fail
   refine HG.out.mono ?_
   clear HG c0 c1 c2 c3 c4 c6
   rintro e w1 ⟨hh, hb1⟩
   have HB1 := Lib.hid hb1
   clear hb1
   rcases hh with ⟨r, hr1, hr2, hre, an', cn', ai', ci', rfl, hrep⟩ | ⟨hno, rfl⟩
   · have HL := Lib.hid (look_some HP.out.rise r hr1 hr2 hre)
     clear hre hrep
     generalize v.items[r] = it at *
     have hb2 : Below w.heap.size w (w1.alloc (.cells #[.int .u8 it.kind, .int .i64 it.n, .string it.t, .slice an' it.names.length cn', .slice ai' it.items.length ci'] 30)) := HB1.out.alloc HB1.out.size _
     have HB2 := Lib.hid hb2
     have HC := Lib.hid (textConv it.kind it.n it.t (.slice an' it.names.length cn') (.slice ai' it.items.length ci') (w1.alloc (.cells #[.int .u8 it.kind, .int .i64 it.n, .string it.t, .slice an' it.names.length cn', .slice ai' it.items.length ci'] 30)))
     clear hb2
     by_cases hk : it.kind = 3
     · have HK := Lib.hid hk
       rw [if_pos hk, if_pos hk] at HC
       clear hk
       go_wp2_with fail
       refine HC.out.mono ?_
       clear HC
       rintro e w2 ⟨rfl, hb3⟩
       have HB3 := Lib.hid (HB2.out.trans (hb3.mono HB2.out.size))
       have HP3 := Lib.hid (HP.out.below HB3.out)
       clear hb3 HB2
       have d5 : w2.cell? ⟨o, 5, none⟩ = some (.map (some m)) := box_cell HP3.out.obj rfl
       have hkey : keyOf Tryz.prog 9 (.string y) = some (.string y.data.toList) := keyOf_string_mk Tryz.underlying9 (by unfold maxLen; omega)
       obtain ⟨D, n, hown, hn, hD⟩ := HP3.out.map
       obtain ⟨c, hat, hc0, hc1, hc2⟩ := hD.2 y
       obtain ⟨c', hrun, hat', _⟩ := hown.lookup_int lawStr Tryz.underlying126 Tryz.underlying3 (zeroInt _) hkey
       rw [hat] at hat'
       simp only [DataW.lit.injEq, Lit.int.injEq, true_and] at hat'
       subst hat'
       have HD := Lib.hid (hD.cons y c hat)
       have HKY := Lib.hid hkey
       have HOW := Lib.hid hown
       clear hD hat hc2 hkey hown
       go_wp2_with (at_mapUpdate; refine wpList_mapUpdate_own _ rfl _ _ _ 126 rfl 9 3 lawStr Tryz.underlying126 _ m n D rfl HOW.out (by unfold maxLen; omega) _ _ _ rfl rfl HKY.out _ [] (plainElem_int Tryz.underlying3 (WalkArith.wf_i64 (by omega))) ?_)
       intro w3 hown3 hgrow3
       have HP4 := Lib.hid (HP3.out.ask y hgrow3 hown3 (by omega) HD.out)
       have HT := Lib.hid (show Touch (fun b => b = o ∨ b = m) w w3 from ⟨by rw [hgrow3.os, HB3.out.os], by rw [hgrow3.tape, HB3.out.tape], by rw [hgrow3.output, HB3.out.output], Nat.le_trans HB3.out.size hgrow3.size, fun k hk hs => by rw [hgrow3.block k (Nat.lt_of_lt_of_le hk HB3.out.size) (fun e => hs (.inr (Option.some.inj e))), HB3.out.block k hk]⟩)
       clear hgrow3 hown3
       have HX := Lib.hid (show pickText v y st = (it.t, ⟨y :: st.asked, 0⟩) by unfold pickText; rw [if_neg (by simp [HE.out]), HL.out]; simp [HK.out])
       rw [HE.out] at HP4
       go_wp2
       go_ret
       exact ⟨by rw [HX.out]; rfl, by rw [HX.out]; exact HP4.out, HT.out⟩
     · have HX := Lib.hid (show pickText v y st = ({ data := #[] }, ⟨st.asked, 10⟩) by unfold pickText; rw [if_neg (by simp [HE.out]), HL.out]; simp [hk])
       rw [if_neg hk, if_neg hk] at HC
       clear hk
       go_wp2_with fail
       refine HC.out.mono ?_
       clear HC
       rintro e w2 ⟨rfl, hb3⟩
       have HB3 := Lib.hid (HB2.out.trans (hb3.mono HB2.out.size))
       have HP3 := Lib.hid (HP.out.below HB3.out)
       clear hb3 HB2
       have d6 : w2.cell? ⟨o, 6, none⟩ = some (.int .i64 0) := (box_cell (j := 6) HP3.out.obj rfl).trans (by rw [HE.out]; rfl)
       have d0 : w2.cell? ⟨o, 0, none⟩ = some (.int .u8 5) := (box_cell (j := 0) HP3.out.obj rfl).trans (by rw [HP.out.kind]; rfl)
       have d7 : w2.frozen? ⟨o, 6, none⟩ = false := by simp [World.frozen?, HP3.out.obj]
       go_wp2_with fail
       refine (pickFail o 10 _ d6 d0 d7).mono ?_
       clear d6 d0 d7
       rintro e w3 ⟨rfl, rfl⟩
       have HP4 := Lib.hid (HP3.out.fail 10)
       have HT := Lib.hid (show Touch (fun b => b = o ∨ b = m) w (w2.setCell ⟨o, 6, none⟩ (.int .i64 10)) from (Touch.of_below HB3.out (Nat.le_refl _)).setCell (.inl (.inl rfl)) _)
       go_wp2
       go_ret
       exact ⟨by rw [HX.out]; rfl, by rw [HX.out]; exact HP4.out, HT.out⟩
   · have HX := Lib.hid (show pickText v y st = ({ data := #[] }, ⟨st.asked, 6⟩) by unfold pickText; rw [if_neg (by simp [HE.out]), show v.look y = none from lookL_none _ _ _ hno])
     unfold zeroAgg
     have HB3 := Lib.hid (show Below w.heap.size w (w1.alloc (.cells #[.int .u8 0, .int .i64 0, .string { data := #[] }, .slice none 0 0, .slice none 0 0] 30)) from HB1.out.alloc HB1.out.size _)
     have HP3 := Lib.hid (HP.out.below HB3.out)
     clear hno HB1
     have d6 : (w1.alloc (.cells #[.int .u8 0, .int .i64 0, .string { data := #[] }, .slice none 0 0, .slice none 0 0] 30)).cell? ⟨o, 6, none⟩ = some (.int .i64 0) := (box_cell (j := 6) HP3.out.obj rfl).trans (by rw [HE.out]; rfl)
     have d0 : (w1.alloc (.cells #[.int .u8 0, .int .i64 0, .string { data := #[] }, .slice none 0 0, .slice none 0 0] 30)).cell? ⟨o, 0, none⟩ = some (.int .u8 5) := (box_cell (j := 0) HP3.out.obj rfl).trans (by rw [HP.out.kind]; rfl)
     have d7 : (w1.alloc (.cells #[.int .u8 0, .int .i64 0, .string { data := #[] }, .slice none 0 0, .slice none 0 0] 30)).frozen? ⟨o, 6, none⟩ = false := by simp [World.frozen?, HP3.out.obj]
     go_wp2_with fail
     refine (pickFail o 6 _ d6 d0 d7).mono ?_
     clear d6 d0 d7
     rintro e w3 ⟨rfl, rfl⟩
     have HP4 := Lib.hid (HP3.out.fail 6)
     have HT := Lib.hid (show Touch (fun b => b = o ∨ b = m) w ((w1.alloc (.cells #[.int .u8 0, .int .i64 0, .string { data := #[] }, .slice none 0 0, .slice none 0 0] 30)).setCell ⟨o, 6, none⟩ (.int .i64 6)) from (Touch.of_below HB3.out (Nat.le_refl _)).setCell (.inl (.inl rfl)) _)
     go_wp2
     go_ret
     exact ⟨by rw [HX.out]; rfl, by rw [HX.out]; exact HP4.out, HT.out⟩
 · have he' : (st.err == 0) = false := by simpa using he
   have he2 : (st.err != 0) = true := by simpa using he
   have HX := Lib.hid (show pickText v y st = ({ data := #[] }, st) by unfold pickText; rw [if_pos he])
   have HE := Lib.hid he
   clear he
   go_enter Tryz.func166, Tryz.ntmps166
   go_wp2_with fail
   refine (pickErr o st.err 5 w c6 c0 (fun _ => rfl)).mono ?_
   rintro r w' ⟨rfl, rfl⟩
   go_wp2
   go_ret
   exact ⟨by rw [HX.out]; rfl, by rw [HX.out]; exact HP.out, Touch.refl _ _⟩
set_option maxHeartbeats 400000 in
theorem pickTextF (o m lo hi : Nat) (v : JV) (an ai : Option Addr) (cn ci : Nat) (y : ByteArray) (st : PS) (w : World) (hP : PickAt o m lo hi v an ai cn ci st w) (hy : y.size ≤ 4294967296) (ha : st.asked.length ≤ 4294967296) :
   Calls Tryz.prog 137 #[.pointer (some ⟨o, 0, none⟩), .string y] w (TextPost o m lo hi v an ai cn ci y st w) := by
 have HC := Lib.hid (takeText o m lo hi v an ai cn ci y st w hP hy ha)
 clear hP
 go_enter Tryz.func137, Tryz.ntmps137
 go_wp2_with fail
 refine HC.out.mono ?_
 rintro e w' ⟨rfl, h1, h2⟩
 have H1 := Lib.hid h1
 have H2 := Lib.hid h2
 clear h1 h2
 go_wp2
 go_ret
 exact ⟨rfl, H1.out, H2.out⟩
def PickBad (o : Nat) (err : Int) (w : World) : Prop := err ≠ 0 ∧ w.cell? ⟨o, 6, none⟩ = some (.int .i64 err) ∧ ∃ k, w.cell? ⟨o, 0, none⟩ = some (.int .u8 k)
theorem PickBad.below {o : Nat} {err : Int} {w w' : World} (h : PickBad o err w) (hb : Below w.heap.size w w') (ho : o < w.heap.size) : PickBad o err w' := by
 obtain ⟨h1, h2, k, h3⟩ := h
 exact ⟨h1, by rw [hb.cell ho]; exact h2, k, by rw [hb.cell ho]; exact h3⟩
set_option maxHeartbeats 400000 in
theorem textBad (o : Nat) (err : Int) (y : ByteArray) (w : World) (h : PickBad o err w) :
   Calls Tryz.prog 137 #[.pointer (some ⟨o, 0, none⟩), .string y] w fun e w' => e = .returned (.string { data := #[] }) ∧ w = w' := by
 obtain ⟨he, c6, k, c0⟩ := h
 have HT := Lib.hid (show Calls Tryz.prog 166 #[.pointer (some ⟨o, 0, none⟩), .string y, .func (.func 167) #[] #[]] w (fun e w' => e = .returned (.string { data := #[] }) ∧ w = w') by
   have he' : (err == 0) = false := by simpa using he
   have he2 : (err != 0) = true := by simpa using he
   have HE := Lib.hid he
   clear he
   go_enter Tryz.func166, Tryz.ntmps166
   go_wp2_with fail
   refine (pickErr o err k w c6 c0 (fun h => absurd h HE.out)).mono ?_
   rintro r w' ⟨rfl, rfl⟩
   go_wp2
   go_ret
   exact ⟨rfl, rfl⟩)
 clear he c6 c0
 go_enter Tryz.func137, Tryz.ntmps137
 go_wp2_with fail
 refine HT.out.mono ?_
 rintro e w' ⟨rfl, rfl⟩
 go_wp2
 go_ret
 exact ⟨rfl, rfl⟩
set_option maxHeartbeats 400000 in
theorem doneErr (o : Nat) (err k : Int) (w : World) (he : err ≠ 0) (c6 : w.cell? ⟨o, 6, none⟩ = some (.int .i64 err)) (c0 : w.cell? ⟨o, 0, none⟩ = some (.int .u8 k)) :
   Calls Tryz.prog 67 #[.pointer (some ⟨o, 0, none⟩)] w fun e w' => e = .returned (.int .i64 err) ∧ w = w' := by
 have he' : (err == 0) = false := by simpa using he
 have he2 : (err != 0) = true := by simpa using he
 have HE := Lib.hid he
 clear he
 go_enter Tryz.func67, Tryz.ntmps67
 go_wp2_with fail
 refine (pickErr o err k w c6 c0 (fun h => absurd h HE.out)).mono ?_
 rintro r w' ⟨rfl, rfl⟩
 go_wp2
 go_ret
 exact ⟨rfl, rfl⟩
theorem all_take {α : Type} (p : α → Bool) (l : List α) (k : Nat) (h : k < l.length) (ha : (l.take k).all p = true) (hp : p l[k] = true) : (l.take (k + 1)).all p = true := by
 rw [List.take_succ_eq_append_getElem h, List.all_append, ha]; simp [hp]
theorem all_bad {α : Type} (p : α → Bool) (l : List α) (k : Nat) (h : k < l.length) (hp : p l[k] = false) : l.all p = false := by
 rw [List.all_eq_false]; exact ⟨l[k], List.getElem_mem h, by simp [hp]⟩
set_option maxHeartbeats 400000 in
set_option maxRecDepth 100000 in
theorem pickDoneF (o m lo hi : Nat) (v : JV) (an ai : Option Addr) (cn ci : Nat) (st : PS) (w : World) (hP : PickAt o m lo hi v an ai cn ci st w) (hn : ∀ i (h : i < v.names.length), v.names[i].size ≤ 4294967296) :
   Calls Tryz.prog 67 #[.pointer (some ⟨o, 0, none⟩)] w fun e w' => e = .returned (.int .i64 (pickDone v st)) ∧ w = w' := by
 have c6 : w.cell? ⟨o, 6, none⟩ = some (.int .i64 st.err) := box_cell hP.obj rfl
 have c0 : w.cell? ⟨o, 0, none⟩ = some (.int .u8 5) := (box_cell (j := 0) hP.obj rfl).trans (by rw [hP.kind]; rfl)
 by_cases he : st.err = 0
 · have c3 : w.cell? ⟨o, 3, none⟩ = some (.slice an v.names.length cn) := box_cell hP.obj rfl
   have c5 : w.cell? ⟨o, 5, none⟩ = some (.map (some m)) := box_cell hP.obj rfl
   rw [he] at c6
   have HX := Lib.hid (show pickDone v st = if v.names.all (fun n => st.asked.any fun a => decide (a = n)) then 0 else 11 by unfold pickDone; rw [if_neg (by simp [he])])
   have hnl := (v.wt_bd).2.1
   have hwt := hP.wt
   have HP := Lib.hid hP
   have HN := Lib.hid hn
   obtain ⟨nn, hnn⟩ : ∃ nn, nn = v.names.length := ⟨_, rfl⟩
   rw [← hnn] at c3 hnl
   have HNN := Lib.hid hnn
   clear hP he hn hnn
   go_enter Tryz.func67, Tryz.ntmps67
   go_wp2_with fail
   refine (pickErr o 0 5 w c6 c0 (fun _ => rfl)).mono ?_
   rintro r w' ⟨rfl, rfl⟩
   go_wp2
   clear c6 c0 c3
   go_loop [5, 17] (fun _ i => ∃ k : Nat, k ≤ nn ∧ i = .int .i64 k ∧ (v.names.take k).all (fun n => st.asked.any fun a => decide (a = n)) = true) (fun _ i => nn - (intOf i).toNat)
   case atStart => exact ⟨0, by omega, rfl, by simp⟩
   case round =>
     obtain ⟨k, hk, rfl, hall⟩ := hrel
     have HA := Lib.hid hall
     clear hall
     by_cases hlt : k < nn
     · have hlt' : k < v.names.length := by rw [← HNN.out]; exact hlt
       obtain ⟨_, _, _, h3, _⟩ : True ∧ True ∧ True ∧ StrsAt w lo hi an v.names ∧ True := by
         obtain ⟨an', cn', ai', ci', hx, _, _, h3, _⟩ := HP.out.rep.parts
         simp only [Value.agg.injEq, Array.mk.injEq, List.cons.injEq, and_true, Value.slice.injEq] at hx
         obtain ⟨_, _, _, ⟨rfl, _, _⟩, _⟩ := hx
         exact ⟨trivial, trivial, trivial, h3, trivial⟩
       obtain ⟨nb, noff, rfl, _, _, yn⟩ := h3.at k hlt'
       have hsz := HN.out k hlt'
       have HTK := Lib.hid (all_take (fun n => st.asked.any fun a => decide (a = n)) v.names k hlt' HA.out)
       have HTB := Lib.hid (all_bad (fun n => st.asked.any fun a => decide (a = n)) v.names k hlt')
       clear h3
       generalize v.names[k] = nk at *
       have hkey : keyOf Tryz.prog 9 (.string nk) = some (.string nk.data.toList) := keyOf_string_mk Tryz.underlying9 (by unfold maxLen; omega)
       obtain ⟨D, n, hown, hn, hD⟩ := HP.out.map
       obtain ⟨c, hat, hc0, hc1, hc2⟩ := hD.2 nk
       obtain ⟨c', hrun, hat', _⟩ := hown.lookup_int lawStr Tryz.underlying126 Tryz.underlying3 (zeroInt _) hkey
       rw [hat] at hat'
       simp only [DataW.lit.injEq, Lit.int.injEq, true_and] at hat'
       subst hat'
       clear hown hat hD hn hkey
       by_cases hc : c = 0
       · have hm := hc2.1 hc
         have HF := Lib.hid (HTB.out (by
           rw [List.any_eq_false]; intro a ha; simp only [decide_eq_true_eq]; intro e; subst e; exact hm ha))
         subst hc
         clear hc2 hm
         go_wp2
         go_ret
         exact ⟨by rw [HX.out, HF.out]; rfl, rfl⟩
       · have hm : nk ∈ st.asked := by
           by_cases h : nk ∈ st.asked
           · exact h
           · exact absurd (hc2.2 h) hc
         have HF := Lib.hid (HTK.out (by rw [List.any_eq_true]; exact ⟨nk, hm, by simp⟩))
         have hcb : (c == 0) = false := by simpa using hc
         clear hc2 hm hc
         go_wp2
         go_round
         case rel => exact ⟨k + 1, by omega, by go_num, HF.out⟩
         case measure => simp [intOf]; omega
     · have HF := Lib.hid (show v.names.all (fun n => st.asked.any fun a => decide (a = n)) = true by
         have := HA.out; rwa [List.take_of_length_le (by rw [← HNN.out]; omega)] at this)
       go_wp2
       go_ret
       exact ⟨by rw [HX.out, HF.out]; rfl, rfl⟩
 · have HX := Lib.hid (show pickDone v st = st.err by unfold pickDone; rw [if_pos he])
   refine (doneErr o st.err 5 w he c6 c0).mono ?_
   rintro e w' ⟨rfl, rfl⟩
   exact ⟨by rw [HX.out], rfl⟩
def OfBadPost (w : World) (e : Ending) (w' : World) : Prop := ∃ o, e = .returned (.pointer (some ⟨o, 0, none⟩)) ∧ w.heap.size ≤ o ∧ o < w'.heap.size ∧ PickBad o 10 w' ∧ Below w.heap.size w w'
set_option maxHeartbeats 400000 in
theorem pickOf_bad (k n : Int) (t : ByteArray) (a b : Value) (w : World) (hk : k ≠ 5) :
   Calls Tryz.prog 61 #[.agg #[.int .u8 k, .int .i64 n, .string t, a, b]] w (OfBadPost w) := by
 have hk' : (k == 5) = false := by simpa using hk
 have hk2 : (k != 5) = true := by simpa using hk
 clear hk
 go_enter Tryz.func61, Tryz.ntmps61
 go_wp2
 go_ret
 refine ⟨_, rfl, by omega, by simp, ⟨by decide, ?_, 0, ?_⟩, ((Below.refl _ _).alloc (Nat.le_refl _) _).alloc (by simp) _⟩
 · go_simp
 · go_simp
def OfPost (v : JV) (w : World) (e : Ending) (w' : World) : Prop := ∃ o m lo hi an ai cn ci, e = .returned (.pointer (some ⟨o, 0, none⟩)) ∧ PickAt o m lo hi v an ai cn ci ⟨[], 0⟩ w' ∧ w.heap.size ≤ o ∧ w.heap.size ≤ m ∧ Below w.heap.size w w'
set_option maxHeartbeats 400000 in
set_option maxRecDepth 100000 in
theorem pickOf_good (v : JV) (x : Value) (w : World) (lo hi : Nat) (hN : v.wt ≤ 4294967296) (hhi : hi ≤ w.heap.size) (hR : Rep w lo hi v x) (hk : v.kind = 5) (hr : rises v.names = true) (hl : v.names.length = v.items.length) (hS : ∀ k (h : k < v.items.length), Seen lo v.items[k]) :
   Calls Tryz.prog 61 #[x] w (OfPost v w) := by
 obtain ⟨an, cn, ai, ci, rfl, h1, h2, h3, h4⟩ := hR.parts
 obtain ⟨b1, b2, b3, b4⟩ := v.wt_bd
 rw [hl, hk]
 rw [hl, hk] at hR
 obtain ⟨nn, hnn⟩ : ∃ nn, nn = v.items.length := ⟨_, rfl⟩
 rw [← hnn] at hR b3 ⊢
 have HNN := Lib.hid hnn
 have H3 := Lib.hid h3
 have HR := Lib.hid hR
 have HRS := Lib.hid hr
 have HS := Lib.hid hS
 have HK := Lib.hid hk
 have HL := Lib.hid hl
 clear h1 h2 h3 h4 hR hr hS hk hnn hl
 have hmm := @run_makeMap Tryz.prog
 have HB0 := Lib.hid (show Below w.heap.size w (w.alloc (.cells #[.int .u8 5, .int .i64 v.n, .string v.t, .slice an nn cn, .slice ai nn ci] 30)) from (Below.refl _ _).alloc (Nat.le_refl _) _)
 have HX0 := Lib.hid (heap_alloc_new w (.cells #[.int .u8 5, .int .i64 v.n, .string v.t, .slice an nn cn, .slice ai nn ci] 30))
 go_enter Tryz.func61, Tryz.ntmps61
 go_wp2
 go_loopw [3] (fun i wr => ∃ k : Nat, 1 ≤ k ∧ (k ≤ nn ∨ k = 1) ∧ i = .int .i64 k ∧ Below (w.heap.size + 1) (w.alloc (.cells #[.int .u8 5, .int .i64 v.n, .string v.t, .slice an nn cn, .slice ai nn ci] 30)) wr) (fun i _ => nn - (intOf i).toNat)
 case atStart => exact ⟨1, by omega, .inr rfl, rfl, Below.refl _ _⟩
 case round =>
   obtain ⟨k, hk1, hk2, rfl, hbel⟩ := hrel
   have hz : w.heap.size + 1 ≤ wr.heap.size := by have := hbel.size; simpa using this
   have hx1 : wr.heap[w.heap.size]? = some (.cells #[.int .u8 5, .int .i64 v.n, .string v.t, .slice an nn cn, .slice ai nn ci] 30 (0, 0)) := by rw [hbel.block _ (by omega)]; exact HX0.out
   have HX1 := Lib.hid hx1
   have HBW := Lib.hid (show Below w.heap.size w wr from HB0.out.trans (hbel.mono (by omega)))
   have c3 : wr.cell? ⟨w.heap.size, 3, none⟩ = some (.slice an nn cn) := box_cell hx1 rfl
   have HB := Lib.hid hbel
   clear hx1 hbel
   by_cases hlt : k < nn
   · have hltn : k < v.names.length := by rw [HL.out, ← HNN.out]; exact hlt
     obtain ⟨b, off, rfl, _, hb, y1⟩ := (H3.out.below HBW.out hhi (Nat.le_refl _) (Nat.le_refl _)).at k hltn
     obtain ⟨b', off', hbb, _, _, y0⟩ := (H3.out.below HBW.out hhi (Nat.le_refl _) (Nat.le_refl _)).at (k - 1) (by omega)
     obtain ⟨rfl, rfl⟩ : b = b' ∧ off = off' := by simpa using hbb
     clear hbb
     have hless := rises_lt HRS.out (k - 1) k (by omega) hltn (by omega)
     unfold bl at hless
     generalize v.names[k - 1] = na at hless y0
     generalize v.names[k] = nb at hless y1
     have i0 : IntKind.i64.wrap ((k : Int) - 1) = (k : Int) - 1 := IntWalk.i64_in _ (by omega)
     have j0 : 0 ≤ (k : Int) - 1 := by omega
     have j1 : 1 ≤ (k : Int) := by omega
     have j2 : (k : Int) - 1 < (nn : Int) := by omega
     have j3 : (k : Int) < (nn : Int) := by omega
     have t0 : ((k : Int) - 1).toNat = k - 1 := by omega
     go_wp2_with fail
     go_quiet (fail)
     go_wp2
     go_roundw
     case rel => exact ⟨k + 1, by omega, by omega, by go_num, Below.drewN HB.out _⟩
     case measure => simp [intOf]; omega
   · have c0 : wr.cell? ⟨w.heap.size, 0, none⟩ = some (.int .u8 5) := box_cell HX1.out rfl
     have c1 : wr.cell? ⟨w.heap.size, 1, none⟩ = some (.int .i64 v.n) := box_cell HX1.out rfl
     have c2 : wr.cell? ⟨w.heap.size, 2, none⟩ = some (.string v.t) := box_cell HX1.out rfl
     have c4 : wr.cell? ⟨w.heap.size, 4, none⟩ = some (.slice ai nn ci) := box_cell HX1.out rfl
     have HC := Lib.hid (valueCopy v _ wr lo hi hN (by omega) (HR.out.below HBW.out hhi (Nat.le_refl _) (Nat.le_refl _)) HS.out)
     go_wp2_with fail
     refine HC.out.mono ?_
     clear HC c0 c1 c2 c3 c4
     rintro e w2 ⟨an2, cn2, ai2, ci2, rfl, hr2, hb2⟩
     have hz2 := hb2.size
     have HR2 := Lib.hid hr2
     have HB2 := Lib.hid (HBW.out.trans (hb2.mono (by omega)))
     clear hr2 hb2
     go_wp2
     go_ret
     refine ⟨w2.heap.size + 1, w2.heap.size, wr.heap.size, w2.heap.size, an2, ai2, cn2, ci2, rfl, ?_, by omega, by omega, (HB2.out.alloc (by omega) _).alloc (by simp; omega) _⟩
     have hbb : Below w2.heap.size w2 ((w2.alloc (.map #[] 0)).alloc (.cells #[.int .u8 v.kind, .int .i64 v.n, .string v.t, .slice an2 v.names.length cn2, .slice ai2 v.items.length ci2, .map (some w2.heap.size), .int .i64 0] 128)) := ((Below.refl _ _).alloc (Nat.le_refl _) _).alloc (by simp) _
     exact { obj := by
               have := heap_alloc_new (w2.alloc (.map #[] 0)) (.cells #[.int .u8 v.kind, .int .i64 v.n, .string v.t, .slice an2 v.names.length cn2, .slice ai2 v.items.length ci2, .map (some w2.heap.size), .int .i64 0] 128)
               rw [show (w2.alloc (.map #[] 0)).heap.size = w2.heap.size + 1 by simp] at this
               exact this
             map := ⟨_, 0, (World.ownsMap_made w2 _ _ _).alloc _, by omega, AskD.nil⟩
             rep := HR2.out.below hbb (Nat.le_refl _) (Nat.le_refl _) (Nat.le_refl _)
             pos := by omega
             out := ⟨by omega, by omega⟩
             le := hbb.size
             kind := HK.out
             rise := HRS.out
             len := HL.out
             wt := hN }
end Go.Proofs.YtgghgcilpfdbjaaGreatDoor

namespace Go.Proofs.YtgghgcilpfdbjaaGreatDoor
open Go.RowKit Go.Shelf Go.Sort
structure Mem where
 name : ByteArray
 k : Int
 n : Int
 t : ByteArray
 an : Option Addr
 nn : Nat
 cn : Nat
 ai : Option Addr
 ni : Nat
 ci : Nat
instance : Inhabited Mem := ⟨⟨{ data := #[] }, 0, 0, { data := #[] }, none, 0, 0, none, 0, 0⟩⟩
def Mem.val (x : Mem) : Value := .agg #[.int .u8 x.k, .int .i64 x.n, .string x.t, .slice x.an x.nn x.cn, .slice x.ai x.ni x.ci]
def encM (x : Mem) : List Value := [.string x.name, .int .u8 x.k, .int .i64 x.n, .string x.t, .slice x.an x.nn x.cn, .slice x.ai x.ni x.ci]
def cfM (x y : Mem) : Int := Lib.compareBytes x.name.data.toList y.name.data.toList
theorem encM_len (x : Mem) : (encM x).length = 6 := rfl
theorem encM_one (x : Mem) : ∀ v ∈ encM x, v.oneCell' = true := by
 intro v hv
 simp only [encM, List.mem_cons, List.not_mem_nil, or_false] at hv
 rcases hv with rfl | rfl | rfl | rfl | rfl | rfl <;> rfl
theorem infoMember : (Tryz.prog.info? 74).map (fun i => (i.zero, i.size, i.bytes)) = some (some (.agg #[.string { data := #[] }, .int .u8 0, .int .i64 0, .string { data := #[] }, .slice none 0 0, .slice none 0 0]), 6, 96) := by kernel_rfl
theorem pickTextOf (t : ByteArray) (w : World) : Calls Tryz.prog 45 #[.string t] w fun e w' => e = .returned (.agg #[.int .u8 3, .int .i64 0, .string t, .slice none 0 0, .slice none 0 0]) ∧ w' = w.alloc (.cells #[.int .u8 3, .int .i64 0, .string t, .slice none 0 0, .slice none 0 0] 30) := by
 go_enter Tryz.func45, Tryz.ntmps45
 go_wp2
 exact bodyPost_ret (results_cell_row Tryz.results45 _ _ w.heap.size 30 _ (0, 0) _ rfl (heap_alloc_new w _) Tryz.underlying30 rfl (by kernel_rfl)) rfl ⟨rfl, rfl⟩
theorem cmpMember (x y : Mem) (W : World) : Calls Tryz.prog 86 #[.agg (encM x).toArray, .agg (encM y).toArray] W fun e w' => e = .returned (.int .i64 (cfM x y)) ∧ ∃ q os', w' = grow (W.drewN q) os' := by
 have hcon := fun W' => Tryz.strings_Compare x.name y.name W'
 unfold cfM encM
 generalize Lib.compareBytes x.name.data.toList y.name.data.toList = r at hcon ⊢
 go_enter Tryz.func86, Tryz.ntmps86
 go_wp2_with (go_at_call 87; refine (hcon _).mono ?_; rintro e w' ⟨rfl, rfl⟩)
 go_ret
 exact ⟨rfl, 0, _, by rw [alloc_eq_grow, alloc_eq_grow, grow_grow]; rfl⟩
theorem size_insInner (lt : Mem → Mem → Bool) (a : Nat) : ∀ (j : Nat) (d : Array Mem), (insInner lt a j d).size = d.size
 | 0, d => rfl
 | j + 1, d => by
   unfold insInner
   split
   · rw [size_insInner lt a j, size_swp]
   · rfl
theorem size_insOuter (lt : Mem → Mem → Bool) (a b : Nat) : ∀ (m i : Nat) (d : Array Mem), b - i ≤ m → (insOuter lt a b i d).size = d.size
 | 0, i, d, h => by unfold insOuter; rw [if_neg (by omega)]
 | m + 1, i, d, h => by
   unfold insOuter
   split
   · rw [size_insOuter lt a b m (i + 1) _ (by omega), size_insInner]
   · rfl
theorem size_insertionSort (lt : Mem → Mem → Bool) (d : Array Mem) (a b : Nat) : (insertionSort lt d a b).size = d.size := size_insOuter lt a b _ _ d (Nat.le_refl _)
theorem ins_sorted (lt : Mem → Mem → Bool) (d : Array Mem) (b : Nat) (h : ∀ j, j + 1 < b → lt d[j + 1]! d[j]! = false) : insertionSort lt d 0 b = d := by
 have h2 : ∀ (m i : Nat), b - i ≤ m → insOuter lt 0 b i d = d := by
   intro m
   induction m with
   | zero => intro i hi; unfold insOuter; rw [if_neg (by omega)]
   | succ m ih =>
     intro i hi
     unfold insOuter
     split
     · rename_i hib
       have : insInner lt 0 i d = d := by
         rcases i with _ | j
         · rfl
         · unfold insInner; rw [h j hib]; simp
       rw [this]
       exact ih (i + 1) (by omega)
     · rfl
 exact h2 _ _ (Nat.le_refl _)
theorem cloneMem (blk off cap : Nat) (d : Array Mem) (w : World) (hH : HoldsK encM 6 w blk off d) (hd : d.size ≤ 4294967296) :
   Calls Tryz.prog 84 #[.slice (some ⟨blk, off, none⟩) d.size cap] w fun e w' => ∃ g cap', e = .returned (.slice (some ⟨g, 0, none⟩) d.size cap') ∧ w.heap.size ≤ g ∧ g < w'.heap.size ∧
     HoldsK encM 6 w' g 0 d ∧ Below w.heap.size w w' := by
 obtain ⟨i0, hi0, hz0, hz1, hz2⟩ := info_parts infoMember
 have hget : ∀ j u, (flatK encM 6 d).toList[j]? = some u → j < d.size * 6 ∧ (flatK encM 6 d)[j]! = u := fun j u hj => by
   obtain ⟨hlt, he⟩ := List.getElem?_eq_some_iff.1 hj
   have hlt' : j < (flatK encM 6 d).size := by simpa using hlt
   refine ⟨by simpa using hlt', ?_⟩
   rw [getElem!_pos _ j hlt']
   simpa using he
 refine (AnyE.slices_Clone cloneMember i0 _ 6 96 hi0 hz0 hz1 hz2 rfl (by decide) Tryz.sizeOf74 blk off d.size cap (flatK encM 6 d).toList w (by simp) (by unfold maxLen; omega) (by omega) (fun j u hj => ?_) (fun u hu => ?_)).mono ?_
 · obtain ⟨h1, h2⟩ := hget j u hj
   rw [(hH j (by simpa using h1)).1, h2]
   rfl
 · obtain ⟨j, hj⟩ := List.getElem?_of_mem hu
   obtain ⟨h1, h2⟩ := hget j u hj
   rw [get_flatK _ _ _ _ h1] at h2
   subst h2
   have hm : j % 6 < (encM d[j / 6]!).length := by rw [encM_len]; omega
   rw [getElem!_pos (encM d[j / 6]!) (j % 6) hm]
   exact encM_one _ _ (List.getElem_mem hm)
 · rintro e w' ⟨v', rfl, hown, hne, hb⟩
   have hcs := hown
   rcases hown.2 with ⟨rfl, h0⟩ | ⟨g, cap', cur, rfl, hg, hh, hc, hm, hs, ht⟩
   · exact absurd rfl hne
   · have hlt : g < w'.heap.size := by
       rcases Nat.lt_or_ge g w'.heap.size with hlt | hge
       · exact hlt
       · rw [Array.getElem?_eq_none hge] at hh; cases hh
     refine ⟨g, cap', rfl, hg, hlt, fun j hj => ⟨?_, by simp [World.frozen?, hh]⟩, hb⟩
     have := hcs.cells (g := g) rfl j (flatK encM 6 d)[j]! (by rw [getElem!_pos _ j hj]; simp)
     have e : (⟨g, 0, none⟩ : Addr).add j = ⟨g, j, none⟩ := by unfold Addr.add; split <;> simp_all
     rw [e] at this
     rw [Nat.zero_add]
     exact this
theorem touch_sortWorld {w : World} {blk off n : Nat} {d : Array Mem} {os : Array Obj} : Touch (· = blk) w (sortWorldK encM 6 w blk off n d os) := by
 refine ⟨rfl, rfl, rfl, by simp [sortWorldK, putRowK, Go.Sort.ahead], fun k hk hs => ?_⟩
 rw [sortWorldK, heap_grow_old _ _ (by simp [putRowK, Go.Sort.ahead]; exact hk)]
 show (((Go.Sort.ahead w n).heap.modify blk _))[k]? = _
 rw [Array.getElem?_modify, if_neg (fun e => hs e.symm)]
 rfl
theorem sortMem (blk off cap : Nat) (d : Array Mem) (w : World) (hH : HoldsK encM 6 w blk off d) (hblk : blk < w.heap.size) (h12 : d.size ≤ 12) :
   Calls Tryz.prog 85 #[.slice (some ⟨blk, off, none⟩) d.size cap, .func (.func 86) #[] #[]] w fun e w' => e = .returned (.tuple #[]) ∧
     HoldsK encM 6 w' blk off (insertionSort (ltOf cfM) d 0 d.size) ∧ Touch (· = blk) w w' := by
 have eg : ∀ args w, (callFunc 86 args).run Tryz.prog w = .ok (.enter 86 args) w := enters_of Tryz.func86 (by kernel_rfl) rfl
 have hl : ∀ (n : Nat) (W : World), n ≤ 12 → Calls Tryz.prog 121 #[.int .u64 n] W fun e w' => (∃ l : Int, e = .returned (.int .i64 l)) ∧ w' = W := fun n W h =>
   (Tryz.bits_Len n W (by omega) (by omega)).mono fun _ _ ⟨he, hw⟩ => ⟨⟨_, he⟩, hw⟩
 have hcon := AnyQ.slices_SortFunc_small sortMember 6 Tryz.isAgg74 Tryz.sizeOf74 encM encM_len encM_one cfM 86 #[] blk off cap d w eg (fun _ _ _ _ x y => cmpMember x y _) hH hblk h12 hl
 refine hcon.mono ?_
 rintro e w' ⟨rfl, n, os, rfl⟩
 have hsz : (insertionSort (ltOf cfM) d 0 d.size).size = d.size := size_insertionSort _ _ _ _
 refine ⟨rfl, holdsK_grow encM 6 _ _ _ _ _ (by simp [putRowK, Go.Sort.ahead]; exact hblk) (holdsK_putRowK encM 6 _ _ _ d _ (holdsK_ahead encM 6 _ _ _ _ _ hH) hsz), touch_sortWorld⟩
end Go.Proofs.YtgghgcilpfdbjaaGreatDoor

namespace Go.Proofs.YtgghgcilpfdbjaaGreatDoor
open Go.RowKit
theorem owns_of_block {w w' : World} {base e size n : Nat} {v : Value} {cs : List Value} (h : w.ownsRow base e size v n cs) (hb : ∀ b, v.ownBlock = some b → w'.heap[b]? = w.heap[b]?) : w'.ownsRow base e size v n cs := by
 refine ⟨h.1, ?_⟩
 rcases h.2 with h2 | ⟨g, cap, cur, hv, hg, hh, r⟩
 · exact .inl h2
 · refine .inr ⟨g, cap, cur, hv, hg, ?_, r⟩
   rw [hb g (by rw [hv]; rfl)]
   exact hh
structure ObjAt (W wr : World) (cb T e1 e5 : Nat) (vn vi : Value) (ns : List ByteArray) (its : List JV) (cs : List Value) : Prop where
 lt : cb < W.heap.size
 touch : Touch (· = cb) W wr
 row : wr.rowIs cb T 5 (pick5 (.int .u8 5) (.int .i64 0) (.string { data := #[] }) vn vi)
 names : wr.ownsRow W.heap.size e1 1 vn ns.length (ns.map .string)
 items : wr.ownsRow W.heap.size e5 5 vi its.length cs
 reps : RepRow wr W.heap.size (fun b => b = cb ∨ vn.ownBlock = some b ∨ vi.ownBlock = some b) its cs
 ne : ∀ b, vn.ownBlock = some b → vi.ownBlock ≠ some b
theorem ObjAt.below {W wr w' : World} {cb T e1 e5 : Nat} {vn vi : Value} {ns : List ByteArray} {its : List JV} {cs : List Value} (h : ObjAt W wr cb T e1 e5 vn vi ns its cs) (hb : Below wr.heap.size wr w') : ObjAt W w' cb T e1 e5 vn vi ns its cs where
 lt := h.lt
 touch := h.touch.trans (Touch.of_below hb (Nat.le_refl _))
 row := below_row hb h.row h.row.lt
 names := owns_below h.names hb
 items := owns_below h.items hb
 reps := h.reps.carry hb.size (Nat.le_refl _) (fun b hb' _ => hb.block b hb') (fun _ hx => .inl hx)
 ne := h.ne
theorem ObjAt.name {W wr w4 : World} {cb T e1 e5 g cap : Nat} {vn vi : Value} {ns : List ByteArray} {its : List JV} {cs : List Value} (h : ObjAt W wr cb T e1 e5 vn vi ns its cs) (x : ByteArray)
   (hg : wr.grownBy w4 vn.ownBlock) (hat : vn.ownBlock = some g ∨ wr.heap.size ≤ g)
   (ho4 : w4.ownsRow W.heap.size e1 1 (.slice (some ⟨g, 0, none⟩) (ns.length + 1) cap) (ns.length + 1) (ns.map .string ++ [.string x])) :
   ObjAt W (w4.setCell ⟨cb, 3, none⟩ (.slice (some ⟨g, 0, none⟩) (ns.length + 1) cap)) cb T e1 e5 (.slice (some ⟨g, 0, none⟩) (ns.length + 1) cap) vi (ns ++ [x]) its cs := by
 have hwz : W.heap.size ≤ wr.heap.size := h.touch.size
 have hz4 := hg.size
 have hlt := h.lt
 have hon : ∀ b, vn.ownBlock = some b → W.heap.size ≤ b ∧ b < wr.heap.size := fun b hb => h.names.lt b hb
 have hoi : ∀ b, vi.ownBlock = some b → W.heap.size ≤ b ∧ b < wr.heap.size := fun b hb => h.items.lt b hb
 have s2 : ∀ b, b < wr.heap.size → vn.ownBlock ≠ some b → w4.heap[b]? = wr.heap[b]? := fun b hb hne => hg.block b hb (fun e => hne e.symm)
 have s3 : ∀ b, b ≠ cb → (w4.setCell ⟨cb, 3, none⟩ (.slice (some ⟨g, 0, none⟩) (ns.length + 1) cap)).heap[b]? = w4.heap[b]? := fun b hb => Below.heap_setCell _ _ _ _ hb
 have hcn : vn.ownBlock ≠ some cb := fun e => by have := (hon cb e).1; omega
 have hz5 : (w4.setCell ⟨cb, 3, none⟩ (.slice (some ⟨g, 0, none⟩) (ns.length + 1) cap)).heap.size = w4.heap.size := by simp [World.setCell]
 have hgb : ∀ b, (Value.slice (some ⟨g, 0, none⟩) (ns.length + 1) cap).ownBlock = some b → b = g := fun b hb => by simp [Value.ownBlock] at hb; exact hb.symm
 have hgi : vi.ownBlock ≠ some g := fun e => by
   rcases hat with ha | ha
   · exact h.ne g ha e
   · have := (hoi g e).2; omega
 refine ⟨hlt, ⟨?_, ?_, ?_, by omega, fun b hb hne => ?_⟩, ?_, ?_, ?_, ?_, ?_⟩
 · show w4.os = _; rw [hg.os, h.touch.os]
 · show w4.tape = _; rw [hg.tape, h.touch.tape]
 · show w4.output = _; rw [hg.output, h.touch.output]
 · rw [s3 b hne, s2 b (by omega) (fun e => by have := (hon b e).1; omega)]; exact h.touch.block b hb hne
 · have h4 : w4.rowIs cb T 5 _ := h.row.of_block (s2 cb (by omega) hcn)
   refine (h4.set 3 _).congr fun i hi => ?_
   rcases i with _ | _ | _ | _ | _ | i <;> first | rfl | omega
 · have := ownsRow_setCell_below ho4 hlt (Value.slice (some ⟨g, 0, none⟩) (ns.length + 1) cap) (a := ⟨cb, 3, none⟩)
   simpa using this
 · refine owns_of_block h.items fun b hb => ?_
   rw [s3 b (fun e => by have := (hoi b hb).1; omega), s2 b (hoi b hb).2 (fun e => h.ne b e hb)]
 · refine h.reps.carry (by omega) (Nat.le_refl _) (fun b hb hx => ?_) (fun b hx => ?_)
   · rw [s3 b (fun e => hx (.inl e)), s2 b hb (fun e => hx (.inr (.inl e)))]
   · rcases hx with hx | hx | hx
     · exact .inl (.inl hx)
     · rw [hgb b hx]
       rcases hat with ha | ha
       · exact .inl (.inr (.inl ha))
       · exact .inr ha
     · exact .inl (.inr (.inr hx))
 · intro b hb
   rw [hgb b hb]; exact hgi
theorem ObjAt.item {W wr w3 w4 : World} {cb T e1 e5 g cap lo hi : Nat} {vn vi : Value} {ns : List ByteArray} {its : List JV} {cs : List Value} {it : JV} {an ai : Option Addr} {cn ci : Nat} (h : ObjAt W wr cb T e1 e5 vn vi ns its cs)
   (hb3 : Below wr.heap.size wr w3) (hlo : wr.heap.size ≤ lo) (hhi : hi ≤ w3.heap.size) (hr3 : Rep w3 lo hi it (.agg #[.int .u8 it.kind, .int .i64 it.n, .string it.t, .slice an it.names.length cn, .slice ai it.items.length ci]))
   (hg : w3.grownBy w4 vi.ownBlock) (hat : vi.ownBlock = some g ∨ w3.heap.size ≤ g)
   (ho4 : w4.ownsRow W.heap.size e5 5 (.slice (some ⟨g, 0, none⟩) (its.length + 1) cap) (its.length + 1) (cs ++ [.int .u8 it.kind, .int .i64 it.n, .string it.t, .slice an it.names.length cn, .slice ai it.items.length ci])) :
   ObjAt W (w4.setCell ⟨cb, 4, none⟩ (.slice (some ⟨g, 0, none⟩) (its.length + 1) cap)) cb T e1 e5 vn (.slice (some ⟨g, 0, none⟩) (its.length + 1) cap) ns (its ++ [it]) (cs ++ [.int .u8 it.kind, .int .i64 it.n, .string it.t, .slice an it.names.length cn, .slice ai it.items.length ci]) := by
 have hwz : W.heap.size ≤ wr.heap.size := h.touch.size
 have hz3 := hb3.size
 have hz4 := hg.size
 have hlt := h.lt
 have hon : ∀ b, vn.ownBlock = some b → W.heap.size ≤ b ∧ b < wr.heap.size := fun b hb => h.names.lt b hb
 have hoi : ∀ b, vi.ownBlock = some b → W.heap.size ≤ b ∧ b < wr.heap.size := fun b hb => h.items.lt b hb
 have s1 : ∀ b, b < wr.heap.size → w3.heap[b]? = wr.heap[b]? := fun b hb => hb3.block b hb
 have s2 : ∀ b, b < w3.heap.size → vi.ownBlock ≠ some b → w4.heap[b]? = w3.heap[b]? := fun b hb hne => hg.block b hb (fun e => hne e.symm)
 have s3 : ∀ b, b ≠ cb → (w4.setCell ⟨cb, 4, none⟩ (.slice (some ⟨g, 0, none⟩) (its.length + 1) cap)).heap[b]? = w4.heap[b]? := fun b hb => Below.heap_setCell _ _ _ _ hb
 have hcn : vi.ownBlock ≠ some cb := fun e => by have := (hoi cb e).1; omega
 have hz5 : (w4.setCell ⟨cb, 4, none⟩ (.slice (some ⟨g, 0, none⟩) (its.length + 1) cap)).heap.size = w4.heap.size := by simp [World.setCell]
 have hgb : ∀ b, (Value.slice (some ⟨g, 0, none⟩) (its.length + 1) cap).ownBlock = some b → b = g := fun b hb => by simp [Value.ownBlock] at hb; exact hb.symm
 refine ⟨hlt, ⟨?_, ?_, ?_, by omega, fun b hb hne => ?_⟩, ?_, ?_, ?_, ?_, ?_⟩
 · show w4.os = _; rw [hg.os, hb3.os, h.touch.os]
 · show w4.tape = _; rw [hg.tape, hb3.tape, h.touch.tape]
 · show w4.output = _; rw [hg.output, hb3.output, h.touch.output]
 · rw [s3 b hne, s2 b (by omega) (fun e => by have := (hoi b e).1; omega), s1 b (by omega)]; exact h.touch.block b hb hne
 · have h4 : w4.rowIs cb T 5 _ := h.row.of_block (by rw [s2 cb (by omega) hcn, s1 cb (by omega)])
   refine (h4.set 4 _).congr fun i hi => ?_
   rcases i with _ | _ | _ | _ | _ | i <;> first | rfl | omega
 · refine owns_of_block h.names fun b hb => ?_
   have := hon b hb
   rw [s3 b (fun e => by omega), s2 b (by omega) (h.ne b hb), s1 b this.2]
 · have := ownsRow_setCell_below ho4 hlt (Value.slice (some ⟨g, 0, none⟩) (its.length + 1) cap) (a := ⟨cb, 4, none⟩)
   simpa using this
 · have c1 : RepRow (w4.setCell ⟨cb, 4, none⟩ (.slice (some ⟨g, 0, none⟩) (its.length + 1) cap)) W.heap.size (fun b => b = cb ∨ vn.ownBlock = some b ∨ (Value.slice (some ⟨g, 0, none⟩) (its.length + 1) cap).ownBlock = some b) its cs := by
     refine h.reps.carry (by omega) (Nat.le_refl _) (fun b hb hx => ?_) (fun b hx => ?_)
     · rw [s3 b (fun e => hx (.inl e)), s2 b (by omega) (fun e => hx (.inr (.inr e))), s1 b hb]
     · rcases hx with hx | hx | hx
       · exact .inl (.inl hx)
       · exact .inl (.inr (.inl hx))
       · rw [hgb b hx]
         rcases hat with ha | ha
         · exact .inl (.inr (.inr ha))
         · exact .inr (by omega)
   refine c1.snoc it lo hi an cn ai ci (by omega) (by omega) (fun b hx hb => ?_) (Rep.carry (Nat.le_refl _) (Nat.le_refl _) (fun b h1 h2 => ?_) _ _ hr3)
   · rcases hx with hx | hx | hx
     · omega
     · have := (hon b hx).2; omega
     · rw [hgb b hx] at hb
       rcases hat with ha | ha
       · have := (hoi g ha).2; omega
       · omega
   · rw [s3 b (by omega), s2 b (by omega) (fun e => by have := (hoi b e).2; omega)]
 · intro b hb e
   rw [hgb b e] at hb
   rcases hat with ha | ha
   · exact h.ne g hb ha
   · have := (hon g hb).2; omega
theorem ObjAt.done {W wr : World} {cb T e1 e5 : Nat} {vn vi : Value} {ns : List ByteArray} {its : List JV} {cs : List Value} (h : ObjAt W wr cb T e1 e5 vn vi ns its cs) :
   ∃ an cn ai ci, vn = .slice an ns.length cn ∧ vi = .slice ai its.length ci ∧ Rep wr W.heap.size wr.heap.size (.mk 5 0 { data := #[] } ns its) (.agg #[.int .u8 5, .int .i64 0, .string { data := #[] }, .slice an ns.length cn, .slice ai its.length ci]) := by
 obtain ⟨an, cn, h1, h2, h3⟩ := owns_strs h.names rfl
 obtain ⟨ai, ci, h4, h5, h6⟩ := owns_vals h.items h.reps rfl
 exact ⟨an, cn, ai, ci, h1, h4, Rep.mk (v := .mk 5 0 { data := #[] } ns its) h2 h5 h3 h6⟩
end Go.Proofs.YtgghgcilpfdbjaaGreatDoor
