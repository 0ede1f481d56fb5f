/- legatelaw22.awake returns true. Printed by genawake22.py. -/
import Derived.Test.YtnlgmcapbbgelaaGreatDoorRb38
import Derived.Test.YtnlgmcapbbgelaaGreatDoorRb40
import Derived.Test.YtnlgmcapbbgelaaGreatDoorRb36
import Derived.Test.YtnlgmcapbbgelaaGreatDoorRb27
import Derived.Test.YtnlgmcapbbgelaaGreatDoorRb41
import Derived.Test.YtnlgmcapbbgelaaGreatDoorRb03
import Derived.Outline

namespace Go.Proofs.YtnlgmcapbbgelaaGreatDoor
open Go.RowKit
theorem vq42 {V l : List MP} (h : Hid (V = l)) {j : Nat} {f : MP} (e : l[j]? = some f) : V[j]? = some f := by rw [h.out]; exact e
end Go.Proofs.YtnlgmcapbbgelaaGreatDoor
namespace Go.Proofs.YtnlgmcapbbgelaaGreatDoor
open Go.RowKit Go.Shelf Go.Sort
def nine22 : ByteArray := { data := #[49, 57, 55, 48, 45, 48, 49, 45, 48, 49, 84, 48, 48, 58, 48, 48, 58, 48, 57, 90] }
theorem nine22_eq : dateB 9 = nine22 := by decide +kernel
theorem exR_fits : RootFits exR := rootFits_may exR_may
def snpJ1 : JV := withJ exRJ 0 true typN (txtJ snpN)
theorem snpJ1_of : rootOfA snpJ1 = (rootZ, 13) := by decide +kernel
theorem snpJ1_wt : snpJ1.wt ≤ 4294967296 := by decide +kernel
def AwVal (w : World) (e : Ending) (w' : World) : Prop := ∃ an cn ai ci, e = .returned (.tuple #[.agg #[.int .u8 5, .int .i64 0, .string { data := #[] }, .slice an 5 cn, .slice ai 5 ci], .int .i64 0]) ∧ Rep w' w.heap.size w'.heap.size exRJ (.agg #[.int .u8 5, .int .i64 0, .string { data := #[] }, .slice an 5 cn, .slice ai 5 ci]) ∧ Below w.heap.size w w'
theorem awVal22 (ia ib ic : Option Addr) (w : World) (hI : RootIn w 0 w.heap.size exR none ia ib ic) (hT : Tabs w) (hTW : TabW w) (hP : Pow10 w) (hTP : TopsW w) : Calls Tryz.prog 23 #[.agg #[.int .i64 1, .int .i64 9, .slice none 0 0, .int .i64 1, .slice ia 1 1, .int .i64 1, .slice ib 1 1, .int .i64 1, .slice ic 1 1]] w (AwVal w) := by
 refine (rootValue 1 9 [] 1 1 1 [digN 97] [digN 98] [digN 99] none ia ib ic 0 1 1 1 w hI exR_fits hT hTW hP hTP).mono ?_
 have e : rootR ⟨1, 9, [], ⟨⟨1, [digN 97]⟩, ⟨1, [digN 98]⟩, ⟨1, [digN 99]⟩⟩⟩ = (exRJ, 0) := by
   unfold rootR
   rw [if_pos (show mayRoot ⟨1, 9, [], ⟨⟨1, [digN 97]⟩, ⟨1, [digN 98]⟩, ⟨1, [digN 99]⟩⟩⟩ = true from exR_may)]; rfl
 rw [e]
 rintro r w' ⟨an, cn, ai, ci, h1, h2, h3⟩
 exact ⟨an, cn, ai, ci, h1, h2, h3⟩
def AwOf (w : World) (e : Ending) (w' : World) : Prop := ∃ ka kc j1 c1 j2 c2 j3 c3, e = .returned (.tuple #[.agg #[.int .i64 1, .int .i64 9, .slice ka 0 kc, .int .i64 1, .slice j1 1 c1, .int .i64 1, .slice j2 1 c2, .int .i64 1, .slice j3 1 c3], .int .i64 0]) ∧ RootIn w' w.heap.size w'.heap.size exR ka j1 j2 j3 ∧ Below w.heap.size w w'
theorem awOf22 (x : Value) (w : World) (lo : Nat) (hlo : 0 < lo) (hR : Rep w lo w.heap.size exRJ x) (hT : Tabs w) (hTW : TabW w) (_hP : Pow10 w) (hTP : TopsW w) : Calls Tryz.prog 13 #[x] w (AwOf w) := by
 refine (rootOfOwn exRJ x w lo hlo (Nat.le_trans exRJ_wt (by decide)) hR hT hTW hTP).mono ?_
 rw [exR_back]
 rintro r w' ⟨ka, kc, j1, c1, j2, c2, j3, c3, h1, h2, h3⟩
 exact ⟨ka, kc, j1, c1, j2, c2, j3, c3, h1, h2, h3⟩
def AwOfZ (er : Int) (w : World) (e : Ending) (w' : World) : Prop := ∃ za zb z1 y1 z2 y2 z3 y3, e = .returned (.tuple #[.agg #[.int .i64 0, .int .i64 0, .slice za 0 zb, .int .i64 0, .slice z1 0 y1, .int .i64 0, .slice z2 0 y2, .int .i64 0, .slice z3 0 y3], .int .i64 er]) ∧ Below w.heap.size w w'
theorem awOfZ22 (v : JV) (er : Int) (x : Value) (w : World) (lo : Nat) (hlo : 0 < lo) (hw : v.wt ≤ 4294967296) (h0 : rootOfA v = (rootZ, er)) (hR : Rep w lo w.heap.size v x) (hT : Tabs w) (hTW : TabW w) (_hP : Pow10 w) (hTP : TopsW w) : Calls Tryz.prog 13 #[x] w (AwOfZ er w) := by
 refine (rootOfOwn v x w lo hlo hw hR hT hTW hTP).mono ?_
 rw [h0]
 rintro r w' ⟨ka, kc, j1, c1, j2, c2, j3, c3, h1, h2, h3⟩
 exact ⟨ka, kc, j1, c1, j2, c2, j3, c3, h1, h3⟩
theorem awGet22 (x : Value) (w : World) (lo : Nat) (hlo : 0 < lo) (hR : Rep w lo w.heap.size exRJ x) : Calls Tryz.prog 28 #[x, .string { data := #[101, 120, 112, 105, 114, 101, 115] }] w fun e w' => ∃ gn gc gi gd, e = .returned (.tuple #[.agg #[.int .u8 3, .int .i64 0, .string { data := #[49, 57, 55, 48, 45, 48, 49, 45, 48, 49, 84, 48, 48, 58, 48, 48, 58, 48, 57, 90] }, .slice gn 0 gc, .slice gi 0 gd], .bool true]) ∧ Below w.heap.size w w' := by
 refine (valueGet exRJ expN x w lo w.heap.size (Nat.le_trans exRJ_wt (by decide)) hlo (Nat.le_refl _) hR rfl root_names.1 rfl).mono ?_
 rintro e w' ⟨h | h, hb⟩
 · obtain ⟨r, h1, h2, h3, gn, gc, gi, gd, h4, h5⟩ := h
   have hr : r = 1 := rises_neq exRJ.names root_names.1 r 1 h1 (by decide) h3
   subst hr
   refine ⟨gn, gc, gi, gd, ?_, hb⟩
   rw [h4]
   have e1 : exRJ.items[1] = txtJ nine22 := by rw [← nine22_eq]; rfl
   have e2 : ∀ (J : JV), J = txtJ nine22 → (Ending.returned (.tuple #[.agg #[.int .u8 J.kind, .int .i64 J.n, .string J.t, .slice gn J.names.length gc, .slice gi J.items.length gd], .bool true])) = .returned (.tuple #[.agg #[.int .u8 3, .int .i64 0, .string { data := #[49, 57, 55, 48, 45, 48, 49, 45, 48, 49, 84, 48, 48, 58, 48, 48, 58, 48, 57, 90] }, .slice gn 0 gc, .slice gi 0 gd], .bool true]) := fun J hJ => by subst hJ; rfl
   exact e2 _ e1
 · exact absurd rfl (h.1 1 (by decide))
theorem weak_flat {x u : JV} (h : WeakCopy x u) (hi : x.items = []) : u = x := weak_eq h (by
 intro y hy
 have h0 : u.items.length = 0 := by rw [h.len, hi]; rfl
 rw [List.eq_nil_of_length_eq_zero h0] at hy; cases hy)
def WithFPost (v : JV) (y : ByteArray) (x : JV) (w : World) (e : Ending) (w' : World) : Prop :=
 ∃ (r : Nat) (f : Bool) (an : Option Addr) (cn : Nat) (ai : Option Addr) (ci : Nat), r ≤ v.names.length ∧ (∀ t (h : t < v.names.length), t < r → bl v.names[t] y = true) ∧ (∀ t (h : t < v.names.length), r ≤ t → bl v.names[t] y = false) ∧
   (f = true → ∃ h : r < v.names.length, v.names[r] = y) ∧ (f = false → ∀ t (h : t < v.names.length), v.names[t] ≠ y) ∧
   e = .returned (.tuple #[.agg #[.int .u8 5, .int .i64 0, .string { data := #[] }, .slice an (withN v r f y).length cn, .slice ai (withI v r f x).length ci], .int .i64 0]) ∧
   Rep w' w.heap.size w'.heap.size (withJ v r f y x) (.agg #[.int .u8 5, .int .i64 0, .string { data := #[] }, .slice an (withN v r f y).length cn, .slice ai (withI v r f x).length ci]) ∧ Below w.heap.size w w'
theorem valueWithF (lo : Nat) (hlo : 0 < lo) (v : JV) (y : ByteArray) (x : JV) (xv xx : Value) (w : World) (hwv : v.wt ≤ 2000000000) (hwx : x.wt ≤ 2000000000) (hk : v.kind = 5) (hn0 : v.n = 0) (ht0 : v.t = { data := #[] }) (hlen : v.names.length = v.items.length)
   (hr : rises v.names = true) (hxi : x.items = []) (hV : Rep w lo w.heap.size v xv) (hX : Rep w 0 w.heap.size x xx) : Calls Tryz.prog 29 #[xv, .string y, xx] w (WithFPost v y x w) := by
 refine (valueWithE lo v y x xv xx w hwv hwx hk hn0 ht0 hlen hr (fun it hit => copyEx_own lo it (by
   obtain ⟨i, hi, rfl⟩ := List.getElem_of_mem hit
   have h1 := JV.wts_get v.items i hi; have h2 := v.wt_bd; omega) hlo) hV hX).mono ?_
 rintro e w' ⟨r, f, x', an, cn, ai, ci, h1, h2, h3, h4, h5, h6, h7, h8, h9⟩
 have := weak_flat h6 hxi
 subst this
 exact ⟨r, f, an, cn, ai, ci, h1, h2, h3, h4, h5, h7, h8, h9⟩
def AwWith (w : World) (e : Ending) (w' : World) : Prop := ∃ an cn ai ci, e = .returned (.tuple #[.agg #[.int .u8 5, .int .i64 0, .string { data := #[] }, .slice an 5 cn, .slice ai 5 ci], .int .i64 0]) ∧ Rep w' w.heap.size w'.heap.size snpJ1 (.agg #[.int .u8 5, .int .i64 0, .string { data := #[] }, .slice an 5 cn, .slice ai 5 ci]) ∧ Below w.heap.size w w'
theorem awWith22 (x : Value) (w : World) (lo : Nat) (hlo : 0 < lo) (hR : Rep w lo w.heap.size exRJ x) : Calls Tryz.prog 29 #[x, .string { data := #[95, 116, 121, 112, 101] }, .agg #[.int .u8 3, .int .i64 0, .string { data := #[115, 110, 97, 112, 115, 104, 111, 116] }, .slice none 0 0, .slice none 0 0]] w (AwWith w) := by
 refine (valueWithF lo hlo exRJ typN (txtJ snpN) x _ w (Nat.le_trans exRJ_wt (by decide)) (by decide) rfl rfl rfl rfl root_names.1 rfl hR (rep_txt _ _ _ snpN)).mono ?_
 rintro e w' ⟨r, f, an, cn, ai, ci, h1, h2, h3, h4, h5, h6, h7, h8⟩
 have hf : f = true := by
   cases f with
   | true => rfl
   | false => exact absurd rfl (h5 rfl 0 (by decide))
 subst hf
 obtain ⟨h9, h10⟩ := h4 rfl
 have hr : r = 0 := rises_neq exRJ.names root_names.1 r 0 h9 (by decide) h10
 subst hr
 exact ⟨an, cn, ai, ci, h6, h7, h8⟩
theorem awAuth22 (ka j1 j2 j3 : Option Addr) (kc c1 c2 c3 : Nat) (w : World) (hI : RootIn w 0 w.heap.size exR ka j1 j2 j3) (hTP : TopsW w) : Calls Tryz.prog 30 #[.agg #[.int .i64 1, .int .i64 9, .slice ka 0 kc, .int .i64 1, .slice j1 1 c1, .int .i64 1, .slice j2 1 c2, .int .i64 1, .slice j3 1 c3], .string { data := #[115, 110, 97, 112, 115, 104, 111, 116] }] w fun e w' => ∃ ja jc, e = .returned (.tuple #[.agg #[.int .i64 1, .slice ja 1 jc], .bool true]) ∧ StrsAt w' w.heap.size w'.heap.size ja [digN 98] ∧ Below w.heap.size w w' := by
 refine (rootAuthF 1 9 [] 1 1 1 [digN 97] [digN 98] [digN 99] ka j1 j2 j3 kc c1 c2 c3 snpN w hI exR_fits hTP).mono ?_
 have e : rootAuth ⟨1, 9, [], ⟨⟨1, [digN 97]⟩, ⟨1, [digN 98]⟩, ⟨1, [digN 99]⟩⟩⟩ snpN = (⟨1, [digN 98]⟩, true) := by
   unfold rootAuth
   rw [if_neg roles_names.2.2.1, if_pos rfl]
 rw [e]
 rintro r w' ⟨ja, jc, h1, h2, h3⟩
 exact ⟨ja, jc, h1, h2, h3⟩
theorem awNo22 (ka j1 j2 j3 : Option Addr) (kc c1 c2 c3 : Nat) (w : World) (hI : RootIn w 0 w.heap.size exR ka j1 j2 j3) (hTP : TopsW w) : Calls Tryz.prog 30 #[.agg #[.int .i64 1, .int .i64 9, .slice ka 0 kc, .int .i64 1, .slice j1 1 c1, .int .i64 1, .slice j2 1 c2, .int .i64 1, .slice j3 1 c3], .string { data := #[116, 105, 109, 101, 115, 116, 97, 109, 112] }] w fun e w' => ∃ ja jc, e = .returned (.tuple #[.agg #[.int .i64 0, .slice ja 0 jc], .bool false]) ∧ Below w.heap.size w w' := by
 refine (rootAuthF 1 9 [] 1 1 1 [digN 97] [digN 98] [digN 99] ka j1 j2 j3 kc c1 c2 c3 tstN w hI exR_fits hTP).mono ?_
 have e : rootAuth ⟨1, 9, [], ⟨⟨1, [digN 97]⟩, ⟨1, [digN 98]⟩, ⟨1, [digN 99]⟩⟩⟩ tstN = (authZ, false) := rootAuth_none _ (by
   intro h
   rcases List.mem_cons.mp h with h | h
   · exact absurd h (by decide)
   rcases List.mem_cons.mp h with h | h
   · exact absurd h (by decide)
   rcases List.mem_cons.mp h with h | h
   · exact absurd h (by decide)
   cases h)
 rw [e]
 rintro r w' ⟨ja, jc, h1, h2, h3⟩
 exact ⟨ja, jc, h1, h3⟩
def IsEx (lo : Nat) (w : World) (x : Value) : Prop := ∃ ia ib ic, x = .agg #[.int .i64 1, .int .i64 9, .slice none 0 0, .int .i64 1, .slice ia 1 1, .int .i64 1, .slice ib 1 1, .int .i64 1, .slice ic 1 1] ∧ RootIn w lo w.heap.size exR none ia ib ic
def MP.ex (lo : Nat) : MP := ⟨IsEx lo, fun _ _ _ hb ⟨ia, ib, ic, e, hr⟩ => ⟨ia, ib, ic, e, hr.below hb (Nat.le_refl _) (Nat.le_refl _) hb.size⟩⟩
def IsWho (c : UInt8) (lo : Nat) (w : World) (x : Value) : Prop := ∃ ga, x = .agg #[.int .i64 1, .slice ga 1 1] ∧ StrsAt w lo w.heap.size ga [digN c]
def MP.who (c : UInt8) (lo : Nat) : MP := ⟨IsWho c lo, fun _ _ _ hb ⟨ga, e, hr⟩ => ⟨ga, e, hr.below hb (Nat.le_refl _) (Nat.le_refl _) hb.size⟩⟩
theorem awEx22 (w : World) : Calls Tryz.prog 22 #[] w fun e w' => ∃ y, e = .returned y ∧ IsEx 0 w' y ∧ Below w.heap.size w w' :=
 (lawEx22 w).mono fun _ _ ⟨ia, ib, ic, h1, h2, h3⟩ => ⟨_, h1, ⟨ia, ib, ic, rfl, h2.carry (Nat.zero_le _) (Nat.le_refl _) (fun _ _ _ => rfl)⟩, h3⟩
theorem awWho22 (c : UInt8) (w : World) : Calls Tryz.prog 16 #[.int .u8 c.toNat] w fun e w' => ∃ y, e = .returned y ∧ IsWho c 0 w' y ∧ Below w.heap.size w w' :=
 (lawWho c w).mono fun _ _ ⟨_, h1, h2, h3⟩ => ⟨_, h1, ⟨_, rfl, h2.carry (Nat.zero_le _) (Nat.le_refl _) (fun _ _ _ => rfl)⟩, h3⟩
theorem awSame22 (ka j1 j2 j3 ia ib ic : Option Addr) (kc c1 c2 c3 : Nat) (w : World) (hI : RootIn w 0 w.heap.size exR ka j1 j2 j3) (hJ : RootIn w 0 w.heap.size exR none ia ib ic) : Calls Tryz.prog 14 #[.agg #[.int .i64 1, .int .i64 9, .slice ka 0 kc, .int .i64 1, .slice j1 1 c1, .int .i64 1, .slice j2 1 c2, .int .i64 1, .slice j3 1 c3], .agg #[.int .i64 1, .int .i64 9, .slice none 0 0, .int .i64 1, .slice ia 1 1, .int .i64 1, .slice ib 1 1, .int .i64 1, .slice ic 1 1]] w fun e w' => e = .returned (.bool true) ∧ Below w.heap.size w w' := by
 refine (ref22Same 1 9 [] 1 1 1 [digN 97] [digN 98] [digN 99] ka j1 j2 j3 kc c1 c2 c3 1 9 [] 1 1 1 [digN 97] [digN 98] [digN 99] none ia ib ic 0 1 1 1 w hI hJ exR_fits exR_fits).mono ?_
 rintro e w' ⟨h1, h2⟩
 exact ⟨by rw [h1, sameRoot_self], h2⟩
theorem awSameA22 (ja ga : Option Addr) (jc : Nat) (w : World) (hI : StrsAt w 0 w.heap.size ja [digN 98]) (hJ : StrsAt w 0 w.heap.size ga [digN 98]) : Calls Tryz.prog 31 #[.agg #[.int .i64 1, .slice ja 1 jc], .agg #[.int .i64 1, .slice ga 1 1]] w fun e w' => e = .returned (.bool true) ∧ Below w.heap.size w w' := by
 refine (ref15Same 1 1 [digN 98] [digN 98] ja ga jc 1 w hI hJ (by decide) (by decide)).mono ?_
 rintro e w' ⟨h1, h2⟩
 exact ⟨by rw [h1, decide_eq_true rfl], h2⟩
end Go.Proofs.YtnlgmcapbbgelaaGreatDoor

namespace Go.Proofs.YtnlgmcapbbgelaaGreatDoor
open Go.RowKit Go.Shelf Go.Sort
set_option maxHeartbeats 8000000 in
set_option maxRecDepth 100000 in
theorem lawAwake22 (w : World) (hT : Tabs w) (hTW : TabW w) (hP : Pow10 w) (hTP : TopsW w) : Calls Tryz.prog 11 #[] w fun e w' => e = .returned (.bool true) ∧ Below w.heap.size w w' := by
 have HTB := Lib.hid (show ∀ w' : World, Below w.heap.size w w' → Tabs w' ∧ TabW w' ∧ Pow10 w' ∧ TopsW w' from fun w' h => ⟨hT.below h, hTW.below h, hP.below h, hTP.below h⟩)
 have HB := Lib.hid (Below.refl w.heap.size w)
 have HZ0 := Lib.hid (show 0 < w.heap.size from Nat.lt_of_le_of_lt (Nat.zero_le _) hTP.lt)
 clear hT hTW hP hTP
 go_enter Tryz.func11, Tryz.ntmps11
 go_wp2_with fail
 refine (lawEx22 w).mono ?_
 rintro e w1 ⟨ia, ib, ic, rfl, hI, hb⟩
 replace HB := Lib.hid (HB.out.trans (hb.mono HB.out.size))
 have HI := Lib.hid (hI.carry (Nat.zero_le _) (Nat.le_refl _) (fun _ _ _ => rfl))
 clear hI hb
 go_wp2_with fail
 refine (awVal22 ia ib ic w1 HI.out (HTB.out w1 HB.out).1 (HTB.out w1 HB.out).2.1 (HTB.out w1 HB.out).2.2.1 (HTB.out w1 HB.out).2.2.2).mono ?_
 rintro e w2 ⟨an, cn, ai, ci, rfl, hr, hb⟩
 have HLO := Lib.hid (show 0 < w1.heap.size from Nat.lt_of_lt_of_le HZ0.out HB.out.size)
 have HZ7 := Lib.hid (Nat.le_refl w1.heap.size)
 replace HB := Lib.hid (HB.out.trans (hb.mono HB.out.size))
 replace HZ7 := Lib.hid (Nat.le_trans HZ7.out hb.size)
 have HV := Lib.hid hr
 clear hr hb HI
 obtain ⟨bV, hbV⟩ : ∃ bV, bV = w2.heap.size := ⟨_, rfl⟩
 obtain ⟨w3, hw3⟩ : ∃ w3, w3 = w2.alloc (.cells #[.int .u8 5, .int .i64 0, .string { data := #[] }, .slice an 5 cn, .slice ai 5 ci] 25) := ⟨_, rfl⟩
 have hbx : Below w2.heap.size w2 w3 := by rw [hw3]; exact (Below.refl _ _).alloc (Nat.le_refl _) _
 have HXV := Lib.hid (show w3.heap[bV]? = some (.cells #[.int .u8 5, .int .i64 0, .string { data := #[] }, .slice an 5 cn, .slice ai 5 ci] 25 (0, 0)) by rw [hw3, hbV]; exact heap_alloc_new w2 _)
 replace HB := Lib.hid (HB.out.trans (hbx.mono HB.out.size))
 replace HV := Lib.hid (HV.out.below hbx (Nat.le_refl _) (Nat.le_refl _) hbx.size)
 replace HZ7 := Lib.hid (Nat.le_trans HZ7.out hbx.size)
 have Hw3 := Lib.hid (And.intro hw3 hbV)
 clear hbx hw3 hbV
 go_upto_region 2 with fail
 rw [← Hw3.out.1, ← Hw3.out.2]
 clear Hw3
 have xV0 := box_cell HXV.out (j := 0) rfl; have xV1 := box_cell HXV.out (j := 1) rfl; have xV2 := box_cell HXV.out (j := 2) rfl; have xV3 := box_cell HXV.out (j := 3) rfl; have xV4 := box_cell HXV.out (j := 4) rfl
 go_wp2_with fail
 refine (awOf22 _ w3 w1.heap.size HLO.out HV.out (HTB.out w3 HB.out).1 (HTB.out w3 HB.out).2.1 (HTB.out w3 HB.out).2.2.1 (HTB.out w3 HB.out).2.2.2).mono ?_
 clear xV0 xV1 xV2 xV3 xV4
 rintro e w4 ⟨ka, kc, j1, c1, j2, c2, j3, c3, rfl, hI, hb⟩
 replace HB := Lib.hid (HB.out.trans (hb.mono HB.out.size))
 replace HXV := Lib.hid ((hb.block _ (heap_lt HXV.out)).trans HXV.out)
 replace HV := Lib.hid (HV.out.below hb (Nat.le_refl _) (Nat.le_refl _) hb.size)
 replace HZ7 := Lib.hid (Nat.le_trans HZ7.out hb.size)
 have HI := Lib.hid (hI.carry (Nat.zero_le _) (Nat.le_refl _) (fun _ _ _ => rfl))
 clear hI hb
 obtain ⟨bR, hbR⟩ : ∃ bR, bR = w4.heap.size := ⟨_, rfl⟩
 obtain ⟨w5, hw5⟩ : ∃ w5, w5 = w4.alloc (.cells #[.int .i64 1, .int .i64 9, .slice ka 0 kc, .int .i64 1, .slice j1 1 c1, .int .i64 1, .slice j2 1 c2, .int .i64 1, .slice j3 1 c3] 32) := ⟨_, rfl⟩
 have hbx : Below w4.heap.size w4 w5 := by rw [hw5]; exact (Below.refl _ _).alloc (Nat.le_refl _) _
 have HXR := Lib.hid (show w5.heap[bR]? = some (.cells #[.int .i64 1, .int .i64 9, .slice ka 0 kc, .int .i64 1, .slice j1 1 c1, .int .i64 1, .slice j2 1 c2, .int .i64 1, .slice j3 1 c3] 32 (0, 0)) by rw [hw5, hbR]; exact heap_alloc_new w4 _)
 replace HB := Lib.hid (HB.out.trans (hbx.mono HB.out.size))
 replace HXV := Lib.hid ((hbx.block _ (heap_lt HXV.out)).trans HXV.out)
 replace HV := Lib.hid (HV.out.below hbx (Nat.le_refl _) (Nat.le_refl _) hbx.size)
 replace HI := Lib.hid (HI.out.below hbx (Nat.le_refl _) (Nat.le_refl _) hbx.size)
 replace HZ7 := Lib.hid (Nat.le_trans HZ7.out hbx.size)
 have Hw5 := Lib.hid (And.intro hw5 hbR)
 clear hbx hw5 hbR
 go_upto_region 3 with fail
 rw [← Hw5.out.1, ← Hw5.out.2]
 clear Hw5
 have xV0 := box_cell HXV.out (j := 0) rfl; have xV1 := box_cell HXV.out (j := 1) rfl; have xV2 := box_cell HXV.out (j := 2) rfl; have xV3 := box_cell HXV.out (j := 3) rfl; have xV4 := box_cell HXV.out (j := 4) rfl
 go_wp2_with fail
 refine (awGet22 _ w5 w1.heap.size HLO.out HV.out).mono ?_
 clear xV0 xV1 xV2 xV3 xV4
 rintro e w6 ⟨gn, gc, gi, gd, rfl, hb⟩
 replace HB := Lib.hid (HB.out.trans (hb.mono HB.out.size))
 replace HXV := Lib.hid ((hb.block _ (heap_lt HXV.out)).trans HXV.out)
 replace HXR := Lib.hid ((hb.block _ (heap_lt HXR.out)).trans HXR.out)
 replace HV := Lib.hid (HV.out.below hb (Nat.le_refl _) (Nat.le_refl _) hb.size)
 replace HI := Lib.hid (HI.out.below hb (Nat.le_refl _) (Nat.le_refl _) hb.size)
 replace HZ7 := Lib.hid (Nat.le_trans HZ7.out hb.size)
 clear hb
 obtain ⟨bT, hbT⟩ : ∃ bT, bT = w6.heap.size := ⟨_, rfl⟩
 obtain ⟨w7, hw7⟩ : ∃ w7, w7 = w6.alloc (.cells #[.int .u8 3, .int .i64 0, .string { data := #[49, 57, 55, 48, 45, 48, 49, 45, 48, 49, 84, 48, 48, 58, 48, 48, 58, 48, 57, 90] }, .slice gn 0 gc, .slice gi 0 gd] 25) := ⟨_, rfl⟩
 have hbx : Below w6.heap.size w6 w7 := by rw [hw7]; exact (Below.refl _ _).alloc (Nat.le_refl _) _
 have HXT := Lib.hid (show w7.heap[bT]? = some (.cells #[.int .u8 3, .int .i64 0, .string { data := #[49, 57, 55, 48, 45, 48, 49, 45, 48, 49, 84, 48, 48, 58, 48, 48, 58, 48, 57, 90] }, .slice gn 0 gc, .slice gi 0 gd] 25 (0, 0)) by rw [hw7, hbT]; exact heap_alloc_new w6 _)
 replace HB := Lib.hid (HB.out.trans (hbx.mono HB.out.size))
 replace HXV := Lib.hid ((hbx.block _ (heap_lt HXV.out)).trans HXV.out)
 replace HXR := Lib.hid ((hbx.block _ (heap_lt HXR.out)).trans HXR.out)
 replace HV := Lib.hid (HV.out.below hbx (Nat.le_refl _) (Nat.le_refl _) hbx.size)
 replace HI := Lib.hid (HI.out.below hbx (Nat.le_refl _) (Nat.le_refl _) hbx.size)
 replace HZ7 := Lib.hid (Nat.le_trans HZ7.out hbx.size)
 have Hw7 := Lib.hid (And.intro hw7 hbT)
 clear hbx hw7 hbT
 go_upto_region 4 with fail
 rw [← Hw7.out.1, ← Hw7.out.2]
 clear Hw7
 have HZ8 := Lib.hid HZ7.out
 have xV0 := box_cell HXV.out (j := 0) rfl; have xV1 := box_cell HXV.out (j := 1) rfl; have xV2 := box_cell HXV.out (j := 2) rfl; have xV3 := box_cell HXV.out (j := 3) rfl; have xV4 := box_cell HXV.out (j := 4) rfl
 go_wp2_with fail
 refine (awWith22 _ w7 w1.heap.size HLO.out HV.out).mono ?_
 clear xV0 xV1 xV2 xV3 xV4
 rintro e w8 ⟨hn, hc, hi, hd, rfl, hr, hb⟩
 replace HB := Lib.hid (HB.out.trans (hb.mono HB.out.size))
 replace HXV := Lib.hid ((hb.block _ (heap_lt HXV.out)).trans HXV.out)
 replace HXR := Lib.hid ((hb.block _ (heap_lt HXR.out)).trans HXR.out)
 replace HXT := Lib.hid ((hb.block _ (heap_lt HXT.out)).trans HXT.out)
 replace HV := Lib.hid (HV.out.below hb (Nat.le_refl _) (Nat.le_refl _) hb.size)
 replace HI := Lib.hid (HI.out.below hb (Nat.le_refl _) (Nat.le_refl _) hb.size)
 replace HZ7 := Lib.hid (Nat.le_trans HZ7.out hb.size)
 have HW := Lib.hid (hr.carry (lo' := w1.heap.size) (HZ8.out) (Nat.le_refl _) (fun _ _ _ => rfl))
 clear hr hb
 obtain ⟨bW, hbW⟩ : ∃ bW, bW = w8.heap.size := ⟨_, rfl⟩
 obtain ⟨w9, hw9⟩ : ∃ w9, w9 = w8.alloc (.cells #[.int .u8 5, .int .i64 0, .string { data := #[] }, .slice hn 5 hc, .slice hi 5 hd] 25) := ⟨_, rfl⟩
 have hbx : Below w8.heap.size w8 w9 := by rw [hw9]; exact (Below.refl _ _).alloc (Nat.le_refl _) _
 have HXW := Lib.hid (show w9.heap[bW]? = some (.cells #[.int .u8 5, .int .i64 0, .string { data := #[] }, .slice hn 5 hc, .slice hi 5 hd] 25 (0, 0)) by rw [hw9, hbW]; exact heap_alloc_new w8 _)
 replace HB := Lib.hid (HB.out.trans (hbx.mono HB.out.size))
 replace HXV := Lib.hid ((hbx.block _ (heap_lt HXV.out)).trans HXV.out)
 replace HXR := Lib.hid ((hbx.block _ (heap_lt HXR.out)).trans HXR.out)
 replace HXT := Lib.hid ((hbx.block _ (heap_lt HXT.out)).trans HXT.out)
 replace HV := Lib.hid (HV.out.below hbx (Nat.le_refl _) (Nat.le_refl _) hbx.size)
 replace HI := Lib.hid (HI.out.below hbx (Nat.le_refl _) (Nat.le_refl _) hbx.size)
 replace HW := Lib.hid (HW.out.below hbx (Nat.le_refl _) (Nat.le_refl _) hbx.size)
 replace HZ7 := Lib.hid (Nat.le_trans HZ7.out hbx.size)
 have Hw9 := Lib.hid (And.intro hw9 hbW)
 clear hbx hw9 hbW
 go_upto_region 5 with fail
 rw [← Hw9.out.1, ← Hw9.out.2]
 clear Hw9
 have xW0 := box_cell HXW.out (j := 0) rfl; have xW1 := box_cell HXW.out (j := 1) rfl; have xW2 := box_cell HXW.out (j := 2) rfl; have xW3 := box_cell HXW.out (j := 3) rfl; have xW4 := box_cell HXW.out (j := 4) rfl
 go_wp2_with fail
 refine (awOfZ22 snpJ1 13 _ w9 w1.heap.size HLO.out snpJ1_wt snpJ1_of HW.out (HTB.out w9 HB.out).1 (HTB.out w9 HB.out).2.1 (HTB.out w9 HB.out).2.2.1 (HTB.out w9 HB.out).2.2.2).mono ?_
 clear xW0 xW1 xW2 xW3 xW4
 rintro e w10 ⟨za, zb, z1, y1, z2, y2, z3, y3, rfl, hb⟩
 replace HB := Lib.hid (HB.out.trans (hb.mono HB.out.size))
 replace HXV := Lib.hid ((hb.block _ (heap_lt HXV.out)).trans HXV.out)
 replace HXR := Lib.hid ((hb.block _ (heap_lt HXR.out)).trans HXR.out)
 replace HXT := Lib.hid ((hb.block _ (heap_lt HXT.out)).trans HXT.out)
 replace HXW := Lib.hid ((hb.block _ (heap_lt HXW.out)).trans HXW.out)
 replace HV := Lib.hid (HV.out.below hb (Nat.le_refl _) (Nat.le_refl _) hb.size)
 replace HI := Lib.hid (HI.out.below hb (Nat.le_refl _) (Nat.le_refl _) hb.size)
 replace HW := Lib.hid (HW.out.below hb (Nat.le_refl _) (Nat.le_refl _) hb.size)
 replace HZ7 := Lib.hid (Nat.le_trans HZ7.out hb.size)
 clear hb HW HXW
 obtain ⟨bZ, hbZ⟩ : ∃ bZ, bZ = w10.heap.size := ⟨_, rfl⟩
 obtain ⟨w11, hw11⟩ : ∃ w11, w11 = w10.alloc (.cells #[.int .i64 0, .int .i64 0, .slice za 0 zb, .int .i64 0, .slice z1 0 y1, .int .i64 0, .slice z2 0 y2, .int .i64 0, .slice z3 0 y3] 32) := ⟨_, rfl⟩
 have hbx : Below w10.heap.size w10 w11 := by rw [hw11]; exact (Below.refl _ _).alloc (Nat.le_refl _) _
 have HXZ := Lib.hid (show w11.heap[bZ]? = some (.cells #[.int .i64 0, .int .i64 0, .slice za 0 zb, .int .i64 0, .slice z1 0 y1, .int .i64 0, .slice z2 0 y2, .int .i64 0, .slice z3 0 y3] 32 (0, 0)) by rw [hw11, hbZ]; exact heap_alloc_new w10 _)
 replace HB := Lib.hid (HB.out.trans (hbx.mono HB.out.size))
 replace HXV := Lib.hid ((hbx.block _ (heap_lt HXV.out)).trans HXV.out)
 replace HXR := Lib.hid ((hbx.block _ (heap_lt HXR.out)).trans HXR.out)
 replace HXT := Lib.hid ((hbx.block _ (heap_lt HXT.out)).trans HXT.out)
 replace HV := Lib.hid (HV.out.below hbx (Nat.le_refl _) (Nat.le_refl _) hbx.size)
 replace HI := Lib.hid (HI.out.below hbx (Nat.le_refl _) (Nat.le_refl _) hbx.size)
 replace HZ7 := Lib.hid (Nat.le_trans HZ7.out hbx.size)
 have Hw11 := Lib.hid (And.intro hw11 hbZ)
 clear hbx hw11 hbZ
 go_upto_region 6 with fail
 rw [← Hw11.out.1, ← Hw11.out.2]
 clear Hw11
 have xR0 := box_cell HXR.out (j := 0) rfl; have xR1 := box_cell HXR.out (j := 1) rfl; have xR2 := box_cell HXR.out (j := 2) rfl; have xR3 := box_cell HXR.out (j := 3) rfl; have xR4 := box_cell HXR.out (j := 4) rfl; have xR5 := box_cell HXR.out (j := 5) rfl; have xR6 := box_cell HXR.out (j := 6) rfl; have xR7 := box_cell HXR.out (j := 7) rfl; have xR8 := box_cell HXR.out (j := 8) rfl
 go_wp2_with fail
 refine (awAuth22 ka j1 j2 j3 kc c1 c2 c3 w11 HI.out (HTB.out w11 HB.out).2.2.2).mono ?_
 clear xR0 xR1 xR2 xR3 xR4 xR5 xR6 xR7 xR8
 rintro e w12 ⟨ja, jc, rfl, hs, hb⟩
 replace HB := Lib.hid (HB.out.trans (hb.mono HB.out.size))
 replace HXV := Lib.hid ((hb.block _ (heap_lt HXV.out)).trans HXV.out)
 replace HXR := Lib.hid ((hb.block _ (heap_lt HXR.out)).trans HXR.out)
 replace HXT := Lib.hid ((hb.block _ (heap_lt HXT.out)).trans HXT.out)
 replace HV := Lib.hid (HV.out.below hb (Nat.le_refl _) (Nat.le_refl _) hb.size)
 replace HI := Lib.hid (HI.out.below hb (Nat.le_refl _) (Nat.le_refl _) hb.size)
 replace HZ7 := Lib.hid (Nat.le_trans HZ7.out hb.size)
 have HS := Lib.hid (hs.carry (Nat.zero_le _) (Nat.le_refl _) (fun _ _ _ => rfl))
 clear hs hb HXZ
 obtain ⟨bA, hbA⟩ : ∃ bA, bA = w12.heap.size := ⟨_, rfl⟩
 obtain ⟨w13, hw13⟩ : ∃ w13, w13 = w12.alloc (.cells #[.int .i64 1, .slice ja 1 jc] 30) := ⟨_, rfl⟩
 have hbx : Below w12.heap.size w12 w13 := by rw [hw13]; exact (Below.refl _ _).alloc (Nat.le_refl _) _
 have HXA := Lib.hid (show w13.heap[bA]? = some (.cells #[.int .i64 1, .slice ja 1 jc] 30 (0, 0)) by rw [hw13, hbA]; exact heap_alloc_new w12 _)
 replace HB := Lib.hid (HB.out.trans (hbx.mono HB.out.size))
 replace HXV := Lib.hid ((hbx.block _ (heap_lt HXV.out)).trans HXV.out)
 replace HXR := Lib.hid ((hbx.block _ (heap_lt HXR.out)).trans HXR.out)
 replace HXT := Lib.hid ((hbx.block _ (heap_lt HXT.out)).trans HXT.out)
 replace HV := Lib.hid (HV.out.below hbx (Nat.le_refl _) (Nat.le_refl _) hbx.size)
 replace HI := Lib.hid (HI.out.below hbx (Nat.le_refl _) (Nat.le_refl _) hbx.size)
 replace HS := Lib.hid (HS.out.below hbx (Nat.le_refl _) (Nat.le_refl _) hbx.size)
 replace HZ7 := Lib.hid (Nat.le_trans HZ7.out hbx.size)
 have Hw13 := Lib.hid (And.intro hw13 hbA)
 clear hbx hw13 hbA
 go_upto_region 7 with fail
 rw [← Hw13.out.1, ← Hw13.out.2]
 clear Hw13
 have xR0 := box_cell HXR.out (j := 0) rfl; have xR1 := box_cell HXR.out (j := 1) rfl; have xR2 := box_cell HXR.out (j := 2) rfl; have xR3 := box_cell HXR.out (j := 3) rfl; have xR4 := box_cell HXR.out (j := 4) rfl; have xR5 := box_cell HXR.out (j := 5) rfl; have xR6 := box_cell HXR.out (j := 6) rfl; have xR7 := box_cell HXR.out (j := 7) rfl; have xR8 := box_cell HXR.out (j := 8) rfl
 go_wp2_with fail
 refine (awNo22 ka j1 j2 j3 kc c1 c2 c3 w13 HI.out (HTB.out w13 HB.out).2.2.2).mono ?_
 clear xR0 xR1 xR2 xR3 xR4 xR5 xR6 xR7 xR8
 rintro e w14 ⟨jb, jd, rfl, hb⟩
 replace HB := Lib.hid (HB.out.trans (hb.mono HB.out.size))
 replace HXV := Lib.hid ((hb.block _ (heap_lt HXV.out)).trans HXV.out)
 replace HXR := Lib.hid ((hb.block _ (heap_lt HXR.out)).trans HXR.out)
 replace HXT := Lib.hid ((hb.block _ (heap_lt HXT.out)).trans HXT.out)
 replace HXA := Lib.hid ((hb.block _ (heap_lt HXA.out)).trans HXA.out)
 replace HV := Lib.hid (HV.out.below hb (Nat.le_refl _) (Nat.le_refl _) hb.size)
 replace HI := Lib.hid (HI.out.below hb (Nat.le_refl _) (Nat.le_refl _) hb.size)
 replace HS := Lib.hid (HS.out.below hb (Nat.le_refl _) (Nat.le_refl _) hb.size)
 replace HZ7 := Lib.hid (Nat.le_trans HZ7.out hb.size)
 clear hb
 obtain ⟨bN, hbN⟩ : ∃ bN, bN = w14.heap.size := ⟨_, rfl⟩
 obtain ⟨w15, hw15⟩ : ∃ w15, w15 = w14.alloc (.cells #[.int .i64 0, .slice jb 0 jd] 30) := ⟨_, rfl⟩
 have hbx : Below w14.heap.size w14 w15 := by rw [hw15]; exact (Below.refl _ _).alloc (Nat.le_refl _) _
 have HXN := Lib.hid (show w15.heap[bN]? = some (.cells #[.int .i64 0, .slice jb 0 jd] 30 (0, 0)) by rw [hw15, hbN]; exact heap_alloc_new w14 _)
 replace HB := Lib.hid (HB.out.trans (hbx.mono HB.out.size))
 replace HXV := Lib.hid ((hbx.block _ (heap_lt HXV.out)).trans HXV.out)
 replace HXR := Lib.hid ((hbx.block _ (heap_lt HXR.out)).trans HXR.out)
 replace HXT := Lib.hid ((hbx.block _ (heap_lt HXT.out)).trans HXT.out)
 replace HXA := Lib.hid ((hbx.block _ (heap_lt HXA.out)).trans HXA.out)
 replace HV := Lib.hid (HV.out.below hbx (Nat.le_refl _) (Nat.le_refl _) hbx.size)
 replace HI := Lib.hid (HI.out.below hbx (Nat.le_refl _) (Nat.le_refl _) hbx.size)
 replace HS := Lib.hid (HS.out.below hbx (Nat.le_refl _) (Nat.le_refl _) hbx.size)
 replace HZ7 := Lib.hid (Nat.le_trans HZ7.out hbx.size)
 have Hw15 := Lib.hid (And.intro hw15 hbN)
 clear hbx hw15 hbN
 go_upto_region 8 with fail
 rw [← Hw15.out.1, ← Hw15.out.2]
 clear Hw15
 have HC := Lib.hid (show ∀ w' : World, Below w15.heap.size w15 w' → (w'.cell? ⟨bT, 2, none⟩ = some (.string { data := #[49, 57, 55, 48, 45, 48, 49, 45, 48, 49, 84, 48, 48, 58, 48, 48, 58, 48, 57, 90] }) ∧ w'.cell? ⟨bV, 3, none⟩ = some (.slice an 5 cn) ∧ w'.cell? ⟨bA, 0, none⟩ = some (.int .i64 1) ∧ w'.cell? ⟨bA, 1, none⟩ = some (.slice ja 1 jc)) ∧ (w'.cell? ⟨bR, 0, none⟩ = some (.int .i64 1) ∧ w'.cell? ⟨bR, 1, none⟩ = some (.int .i64 9) ∧ w'.cell? ⟨bR, 2, none⟩ = some (.slice ka 0 kc) ∧ w'.cell? ⟨bR, 3, none⟩ = some (.int .i64 1) ∧ w'.cell? ⟨bR, 4, none⟩ = some (.slice j1 1 c1) ∧ w'.cell? ⟨bR, 5, none⟩ = some (.int .i64 1) ∧ w'.cell? ⟨bR, 6, none⟩ = some (.slice j2 1 c2) ∧ w'.cell? ⟨bR, 7, none⟩ = some (.int .i64 1) ∧ w'.cell? ⟨bR, 8, none⟩ = some (.slice j3 1 c3)) from fun w' h => by
   have y1 := (h.block _ (heap_lt HXT.out)).trans HXT.out
   have y2 := (h.block _ (heap_lt HXV.out)).trans HXV.out
   have y3 := (h.block _ (heap_lt HXA.out)).trans HXA.out
   have y4 := (h.block _ (heap_lt HXR.out)).trans HXR.out
   exact ⟨⟨box_cell y1 rfl, box_cell y2 rfl, box_cell y3 rfl, box_cell y3 rfl⟩, box_cell y4 rfl, box_cell y4 rfl, box_cell y4 rfl, box_cell y4 rfl, box_cell y4 rfl, box_cell y4 rfl, box_cell y4 rfl, box_cell y4 rfl, box_cell y4 rfl⟩)
 have HSM := Lib.hid (show ∀ (w' : World) (ia ib ic : Option Addr), Below w15.heap.size w15 w' → RootIn w' 0 w'.heap.size exR none ia ib ic → Calls Tryz.prog 14 #[.agg #[.int .i64 1, .int .i64 9, .slice ka 0 kc, .int .i64 1, .slice j1 1 c1, .int .i64 1, .slice j2 1 c2, .int .i64 1, .slice j3 1 c3], .agg #[.int .i64 1, .int .i64 9, .slice none 0 0, .int .i64 1, .slice ia 1 1, .int .i64 1, .slice ib 1 1, .int .i64 1, .slice ic 1 1]] w' (fun e w'' => e = .returned (.bool true) ∧ Below w'.heap.size w' w'') from fun w' ia ib ic h hj => awSame22 ka j1 j2 j3 ia ib ic kc c1 c2 c3 w' (HI.out.below h (Nat.le_refl _) (Nat.le_refl _) h.size) hj)
 have HSA := Lib.hid (show ∀ (w' : World) (ga : Option Addr), Below w15.heap.size w15 w' → StrsAt w' 0 w'.heap.size ga [digN 98] → Calls Tryz.prog 31 #[.agg #[.int .i64 1, .slice ja 1 jc], .agg #[.int .i64 1, .slice ga 1 1]] w' (fun e w'' => e = .returned (.bool true) ∧ Below w'.heap.size w' w'') from fun w' ga h hj => awSameA22 ja ga jc w' (HS.out.below h (Nat.le_refl _) (Nat.le_refl _) h.size) hj)
 obtain ⟨V, hV⟩ : ∃ V : List MP, V = [.con (.int .i64 0), .con (.bool true), .con (.bool true), .con (.int .i64 0), .con (.bool true), .con (.bool true), .con (.bool true), .con (.agg #[.int .i64 1, .int .i64 9, .slice ka 0 kc, .int .i64 1, .slice j1 1 c1, .int .i64 1, .slice j2 1 c2, .int .i64 1, .slice j3 1 c3]), MP.ex 0, .con (.bool true), .con (.bool true), .con (.bool true), .con (.bool true), .con (.bool true), .con (.bool true), .con (.pointer (some ⟨bT, 2, none⟩)), .con (.string { data := #[49, 57, 55, 48, 45, 48, 49, 45, 48, 49, 84, 48, 48, 58, 48, 48, 58, 48, 57, 90] }), .con (.bool true), .con (.bool true), .con (.bool true), .con (.int .i64 0), .con (.bool true), .con (.bool true), .con (.bool true), .con (.int .i64 13), .con (.bool true), .con (.bool true), .con (.bool true), .con (.bool true), .con (.bool true), .con (.bool true), .con (.bool false), .con (.bool true), .con (.bool true), .con (.bool true), .con (.agg #[.int .i64 1, .slice ja 1 jc]), MP.who 98 0, .con (.bool true), .con (.bool true), .con (.bool true), .con (.pointer (some ⟨bV, 3, none⟩)), .con (.slice an 5 cn), .con (.int .i64 5), .con (.bool true), .con (.bool true)] := ⟨_, rfl⟩
 have HV := Lib.hid hV
 clear hV
 refine wp_region_inv 45 (fun d a' w' => ∃ XZ Xa Xb Xc Xd Xe Xf Xg Xh Xi Xj Xk Xl Xm Xn Xo Xp Xq Xr Xs Xt Xu Xv Xw Xx Xy Xz XA XB XC XD XE XF XG XH XI XJ XK XL XM XN XO XP XQ XR, a' = ⟨#[.bool false, .pointer (some ⟨bV, 0, none⟩), .int .i64 0, .pointer (some ⟨bR, 0, none⟩), .int .i64 0, .pointer (some ⟨bT, 0, none⟩), .bool true, .pointer (some ⟨bW, 0, none⟩), .int .i64 0, .pointer (some ⟨bZ, 0, none⟩), .int .i64 13, .pointer (some ⟨bA, 0, none⟩), .bool true, .pointer (some ⟨bN, 0, none⟩), .bool false, .tuple #[.agg #[.int .u8 5, .int .i64 0, .string { data := #[] }, .slice an 5 cn, .slice ai 5 ci], .int .i64 0], .agg #[.int .i64 1, .int .i64 9, .slice none 0 0, .int .i64 1, .slice ia 1 1, .int .i64 1, .slice ib 1 1, .int .i64 1, .slice ic 1 1], .tuple #[.agg #[.int .u8 5, .int .i64 0, .string { data := #[] }, .slice an 5 cn, .slice ai 5 ci], .int .i64 0], .agg #[.int .u8 5, .int .i64 0, .string { data := #[] }, .slice an 5 cn, .slice ai 5 ci], .int .i64 0, .tuple #[.agg #[.int .i64 1, .int .i64 9, .slice ka 0 kc, .int .i64 1, .slice j1 1 c1, .int .i64 1, .slice j2 1 c2, .int .i64 1, .slice j3 1 c3], .int .i64 0], .agg #[.int .u8 5, .int .i64 0, .string { data := #[] }, .slice an 5 cn, .slice ai 5 ci], .tuple #[.agg #[.int .i64 1, .int .i64 9, .slice ka 0 kc, .int .i64 1, .slice j1 1 c1, .int .i64 1, .slice j2 1 c2, .int .i64 1, .slice j3 1 c3], .int .i64 0], .agg #[.int .i64 1, .int .i64 9, .slice ka 0 kc, .int .i64 1, .slice j1 1 c1, .int .i64 1, .slice j2 1 c2, .int .i64 1, .slice j3 1 c3], .int .i64 0, .tuple #[.agg #[.int .u8 3, .int .i64 0, .string { data := #[49, 57, 55, 48, 45, 48, 49, 45, 48, 49, 84, 48, 48, 58, 48, 48, 58, 48, 57, 90] }, .slice gn 0 gc, .slice gi 0 gd], .bool true], .agg #[.int .u8 5, .int .i64 0, .string { data := #[] }, .slice an 5 cn, .slice ai 5 ci], .tuple #[.agg #[.int .u8 3, .int .i64 0, .string { data := #[49, 57, 55, 48, 45, 48, 49, 45, 48, 49, 84, 48, 48, 58, 48, 48, 58, 48, 57, 90] }, .slice gn 0 gc, .slice gi 0 gd], .bool true], .agg #[.int .u8 3, .int .i64 0, .string { data := #[49, 57, 55, 48, 45, 48, 49, 45, 48, 49, 84, 48, 48, 58, 48, 48, 58, 48, 57, 90] }, .slice gn 0 gc, .slice gi 0 gd], .bool true, .tuple #[.agg #[.int .u8 5, .int .i64 0, .string { data := #[] }, .slice hn 5 hc, .slice hi 5 hd], .int .i64 0], .agg #[.int .u8 5, .int .i64 0, .string { data := #[] }, .slice an 5 cn, .slice ai 5 ci], .agg #[.int .u8 3, .int .i64 0, .string { data := #[115, 110, 97, 112, 115, 104, 111, 116] }, .slice none 0 0, .slice none 0 0], .tuple #[.agg #[.int .u8 5, .int .i64 0, .string { data := #[] }, .slice hn 5 hc, .slice hi 5 hd], .int .i64 0], .agg #[.int .u8 5, .int .i64 0, .string { data := #[] }, .slice hn 5 hc, .slice hi 5 hd], .int .i64 0, .tuple #[.agg #[.int .i64 0, .int .i64 0, .slice za 0 zb, .int .i64 0, .slice z1 0 y1, .int .i64 0, .slice z2 0 y2, .int .i64 0, .slice z3 0 y3], .int .i64 13], .agg #[.int .u8 5, .int .i64 0, .string { data := #[] }, .slice hn 5 hc, .slice hi 5 hd], .tuple #[.agg #[.int .i64 0, .int .i64 0, .slice za 0 zb, .int .i64 0, .slice z1 0 y1, .int .i64 0, .slice z2 0 y2, .int .i64 0, .slice z3 0 y3], .int .i64 13], .agg #[.int .i64 0, .int .i64 0, .slice za 0 zb, .int .i64 0, .slice z1 0 y1, .int .i64 0, .slice z2 0 y2, .int .i64 0, .slice z3 0 y3], .int .i64 13, .tuple #[.agg #[.int .i64 1, .slice ja 1 jc], .bool true], .agg #[.int .i64 1, .int .i64 9, .slice ka 0 kc, .int .i64 1, .slice j1 1 c1, .int .i64 1, .slice j2 1 c2, .int .i64 1, .slice j3 1 c3], .tuple #[.agg #[.int .i64 1, .slice ja 1 jc], .bool true], .agg #[.int .i64 1, .slice ja 1 jc], .bool true, .tuple #[.agg #[.int .i64 0, .slice jb 0 jd], .bool false], .agg #[.int .i64 1, .int .i64 9, .slice ka 0 kc, .int .i64 1, .slice j1 1 c1, .int .i64 1, .slice j2 1 c2, .int .i64 1, .slice j3 1 c3], .tuple #[.agg #[.int .i64 0, .slice jb 0 jd], .bool false], .agg #[.int .i64 0, .slice jb 0 jd], .bool false, XZ, Xa, Xb, Xc, Xd, Xe, Xf, Xg, Xh, Xi, Xj, Xk, Xl, Xm, Xn, Xo, Xp, Xq, Xr, Xs, Xt, Xu, Xv, Xw, Xx, Xy, Xz, XA, XB, XC, XD, XE, XF, XG, XH, XI, XJ, XK, XL, XM, XN, XO, XP, XQ, XR], []⟩ ∧ RegI w15 V d w' [XZ, Xa, Xb, Xc, Xd, Xe, Xf, Xg, Xh, Xi, Xj, Xk, Xl, Xm, Xn, Xo, Xp, Xq, Xr, Xs, Xt, Xu, Xv, Xw, Xx, Xy, Xz, XA, XB, XC, XD, XE, XF, XG, XH, XI, XJ, XK, XL, XM, XN, XO, XP, XQ, XR]) (by kernel_rfl) (by kernel_rfl) ?first ?step ?last
 case first => exact ⟨_, _, _, _, _, _, _, _, _, _, _, _, _, _, _, _, _, _, _, _, _, _, _, _, _, _, _, _, _, _, _, _, _, _, _, _, _, _, _, _, _, _, _, _, _, rfl, RegI.first _ _ _ (by rw [HV.out]; rfl)⟩
 case step =>
   rintro d a' w' ⟨XZ, Xa, Xb, Xc, Xd, Xe, Xf, Xg, Xh, Xi, Xj, Xk, Xl, Xm, Xn, Xo, Xp, Xq, Xr, Xs, Xt, Xu, Xv, Xw, Xx, Xy, Xz, XA, XB, XC, XD, XE, XF, XG, XH, XI, XJ, XK, XL, XM, XN, XO, XP, XQ, XR, rfl, h⟩ q hq hn hw
   rcases q with _ | _ | _ | _ | _ | _ | _ | _ | _ | _ | _ | _ | _ | _ | _ | _ | _ | _ | _ | _ | _ | _ | _ | _ | _ | _ | _ | _ | _ | _ | _ | _ | _ | _ | _ | _ | _ | _ | _ | _ | _ | _ | _ | _ | _ | q
   · refine wpOp_step rfl fun K hK => ?_
     go_simp
     exact hK _ _ ⟨_, Xa, Xb, Xc, Xd, Xe, Xf, Xg, Xh, Xi, Xj, Xk, Xl, Xm, Xn, Xo, Xp, Xq, Xr, Xs, Xt, Xu, Xv, Xw, Xx, Xy, Xz, XA, XB, XC, XD, XE, XF, XG, XH, XI, XJ, XK, XL, XM, XN, XO, XP, XQ, XR, rfl, h.same 0 _ (.con (.int .i64 0)) (vq42 HV rfl) rfl⟩
   · obtain rfl : XZ = .int .i64 0 := h.get 0 (hw _ rfl ⟨0, .data⟩ (by simp) rfl) (.con (.int .i64 0)) (vq42 HV rfl) _ rfl
     refine wpOp_step rfl fun K hK => ?_
     go_simp
     exact hK _ _ ⟨_, _, Xb, Xc, Xd, Xe, Xf, Xg, Xh, Xi, Xj, Xk, Xl, Xm, Xn, Xo, Xp, Xq, Xr, Xs, Xt, Xu, Xv, Xw, Xx, Xy, Xz, XA, XB, XC, XD, XE, XF, XG, XH, XI, XJ, XK, XL, XM, XN, XO, XP, XQ, XR, rfl, h.same 1 _ (.con (.bool true)) (vq42 HV rfl) rfl⟩
   · obtain rfl : Xa = .bool true := h.get 1 (hw _ rfl ⟨1, .data⟩ (by simp) rfl) (.con (.bool true)) (vq42 HV rfl) _ rfl
     refine wpOp_step rfl fun K hK => ?_
     go_simp
     exact hK _ _ ⟨XZ, _, _, Xc, Xd, Xe, Xf, Xg, Xh, Xi, Xj, Xk, Xl, Xm, Xn, Xo, Xp, Xq, Xr, Xs, Xt, Xu, Xv, Xw, Xx, Xy, Xz, XA, XB, XC, XD, XE, XF, XG, XH, XI, XJ, XK, XL, XM, XN, XO, XP, XQ, XR, rfl, h.same 2 _ (.con (.bool true)) (vq42 HV rfl) rfl⟩
   · obtain rfl : Xb = .bool true := h.get 2 (hw _ rfl ⟨2, .guard⟩ (by simp) rfl) (.con (.bool true)) (vq42 HV rfl) _ rfl
     refine wpOp_step rfl fun K hK => ?_
     go_simp
     exact hK _ _ ⟨XZ, Xa, _, _, Xd, Xe, Xf, Xg, Xh, Xi, Xj, Xk, Xl, Xm, Xn, Xo, Xp, Xq, Xr, Xs, Xt, Xu, Xv, Xw, Xx, Xy, Xz, XA, XB, XC, XD, XE, XF, XG, XH, XI, XJ, XK, XL, XM, XN, XO, XP, XQ, XR, rfl, h.same 3 _ (.con (.int .i64 0)) (vq42 HV rfl) rfl⟩
   · obtain rfl : Xb = .bool true := h.get 2 (hw _ rfl ⟨2, .guard⟩ (by simp) rfl) (.con (.bool true)) (vq42 HV rfl) _ rfl
     obtain rfl : Xc = .int .i64 0 := h.get 3 (hw _ rfl ⟨3, .data⟩ (by simp) rfl) (.con (.int .i64 0)) (vq42 HV rfl) _ rfl
     refine wpOp_step rfl fun K hK => ?_
     go_simp
     exact hK _ _ ⟨XZ, Xa, _, _, _, Xe, Xf, Xg, Xh, Xi, Xj, Xk, Xl, Xm, Xn, Xo, Xp, Xq, Xr, Xs, Xt, Xu, Xv, Xw, Xx, Xy, Xz, XA, XB, XC, XD, XE, XF, XG, XH, XI, XJ, XK, XL, XM, XN, XO, XP, XQ, XR, rfl, h.same 4 _ (.con (.bool true)) (vq42 HV rfl) rfl⟩
   · obtain rfl : Xb = .bool true := h.get 2 (hw _ rfl ⟨2, .data⟩ (by simp) rfl) (.con (.bool true)) (vq42 HV rfl) _ rfl
     obtain rfl : Xd = .bool true := h.get 4 (hw _ rfl ⟨4, .data⟩ (by simp) rfl) (.con (.bool true)) (vq42 HV rfl) _ rfl
     refine wpOp_step rfl fun K hK => ?_
     go_simp
     exact hK _ _ ⟨XZ, Xa, _, Xc, _, _, Xf, Xg, Xh, Xi, Xj, Xk, Xl, Xm, Xn, Xo, Xp, Xq, Xr, Xs, Xt, Xu, Xv, Xw, Xx, Xy, Xz, XA, XB, XC, XD, XE, XF, XG, XH, XI, XJ, XK, XL, XM, XN, XO, XP, XQ, XR, rfl, h.same 5 _ (.con (.bool true)) (vq42 HV rfl) rfl⟩
   · obtain rfl : Xe = .bool true := h.get 5 (hw _ rfl ⟨5, .data⟩ (by simp) rfl) (.con (.bool true)) (vq42 HV rfl) _ rfl
     refine wpOp_step rfl fun K hK => ?_
     go_simp
     exact hK _ _ ⟨XZ, Xa, Xb, Xc, Xd, _, _, Xg, Xh, Xi, Xj, Xk, Xl, Xm, Xn, Xo, Xp, Xq, Xr, Xs, Xt, Xu, Xv, Xw, Xx, Xy, Xz, XA, XB, XC, XD, XE, XF, XG, XH, XI, XJ, XK, XL, XM, XN, XO, XP, XQ, XR, rfl, h.same 6 _ (.con (.bool true)) (vq42 HV rfl) rfl⟩
   · obtain rfl : Xf = .bool true := h.get 6 (hw _ rfl ⟨6, .guard⟩ (by simp) rfl) (.con (.bool true)) (vq42 HV rfl) _ rfl
     obtain ⟨⟨q0, q1, q2, q3⟩, r0, r1, r2, r3, r4, r5, r6, r7, r8⟩ := HC.out w' h.1
     refine wpOp_step rfl fun K hK => ?_
     go_simp
     exact hK _ _ ⟨XZ, Xa, Xb, Xc, Xd, Xe, _, _, Xh, Xi, Xj, Xk, Xl, Xm, Xn, Xo, Xp, Xq, Xr, Xs, Xt, Xu, Xv, Xw, Xx, Xy, Xz, XA, XB, XC, XD, XE, XF, XG, XH, XI, XJ, XK, XL, XM, XN, XO, XP, XQ, XR, rfl, h.same 7 _ (.con (.agg #[.int .i64 1, .int .i64 9, .slice ka 0 kc, .int .i64 1, .slice j1 1 c1, .int .i64 1, .slice j2 1 c2, .int .i64 1, .slice j3 1 c3])) (vq42 HV rfl) rfl⟩
   · obtain rfl : Xf = .bool true := h.get 6 (hw _ rfl ⟨6, .chain⟩ (by simp) rfl) (.con (.bool true)) (vq42 HV rfl) _ rfl
     obtain ⟨⟨q0, q1, q2, q3⟩, r0, r1, r2, r3, r4, r5, r6, r7, r8⟩ := HC.out w' h.1
     refine wpOp_step rfl fun K hK => ?_
     go_simp
     refine (awEx22 w').mono ?_
     rintro e w2 ⟨y, rfl, hy, hb2⟩
     exact hK _ _ ⟨XZ, Xa, Xb, Xc, Xd, Xe, _, Xg, _, Xi, Xj, Xk, Xl, Xm, Xn, Xo, Xp, Xq, Xr, Xs, Xt, Xu, Xv, Xw, Xx, Xy, Xz, XA, XB, XC, XD, XE, XF, XG, XH, XI, XJ, XK, XL, XM, XN, XO, XP, XQ, XR, rfl, h.did hb2 8 _ (MP.ex 0) (vq42 HV rfl) hy⟩
   · obtain rfl : Xf = .bool true := h.get 6 (hw _ rfl ⟨6, .guard⟩ (by simp) rfl) (.con (.bool true)) (vq42 HV rfl) _ rfl
     obtain rfl : Xg = .agg #[.int .i64 1, .int .i64 9, .slice ka 0 kc, .int .i64 1, .slice j1 1 c1, .int .i64 1, .slice j2 1 c2, .int .i64 1, .slice j3 1 c3] := h.get 7 (hw _ rfl ⟨7, .data⟩ (by simp) rfl) (.con (.agg #[.int .i64 1, .int .i64 9, .slice ka 0 kc, .int .i64 1, .slice j1 1 c1, .int .i64 1, .slice j2 1 c2, .int .i64 1, .slice j3 1 c3])) (vq42 HV rfl) _ rfl
     have hs59 := h.get 8 (hw _ rfl ⟨8, .data⟩ (by simp) rfl) (MP.ex 0) (vq42 HV rfl) _ rfl
     obtain ⟨ia2, ib2, ic2, rfl, hj2⟩ := hs59
     obtain ⟨⟨q0, q1, q2, q3⟩, r0, r1, r2, r3, r4, r5, r6, r7, r8⟩ := HC.out w' h.1
     refine wpOp_step rfl fun K hK => ?_
     go_simp
     refine (HSM.out w' ia2 ib2 ic2 h.1 hj2).mono ?_
     rintro e w2 ⟨rfl, hb2⟩
     exact hK _ _ ⟨XZ, Xa, Xb, Xc, Xd, Xe, _, _, _, _, Xj, Xk, Xl, Xm, Xn, Xo, Xp, Xq, Xr, Xs, Xt, Xu, Xv, Xw, Xx, Xy, Xz, XA, XB, XC, XD, XE, XF, XG, XH, XI, XJ, XK, XL, XM, XN, XO, XP, XQ, XR, rfl, h.did hb2 9 _ (.con (.bool true)) (vq42 HV rfl) rfl⟩
   · obtain rfl : Xf = .bool true := h.get 6 (hw _ rfl ⟨6, .data⟩ (by simp) rfl) (.con (.bool true)) (vq42 HV rfl) _ rfl
     obtain rfl : Xi = .bool true := h.get 9 (hw _ rfl ⟨9, .data⟩ (by simp) rfl) (.con (.bool true)) (vq42 HV rfl) _ rfl
     refine wpOp_step rfl fun K hK => ?_
     go_simp
     exact hK _ _ ⟨XZ, Xa, Xb, Xc, Xd, Xe, _, Xg, Xh, _, _, Xk, Xl, Xm, Xn, Xo, Xp, Xq, Xr, Xs, Xt, Xu, Xv, Xw, Xx, Xy, Xz, XA, XB, XC, XD, XE, XF, XG, XH, XI, XJ, XK, XL, XM, XN, XO, XP, XQ, XR, rfl, h.same 10 _ (.con (.bool true)) (vq42 HV rfl) rfl⟩
   · obtain rfl : Xj = .bool true := h.get 10 (hw _ rfl ⟨10, .data⟩ (by simp) rfl) (.con (.bool true)) (vq42 HV rfl) _ rfl
     refine wpOp_step rfl fun K hK => ?_
     go_simp
     exact hK _ _ ⟨XZ, Xa, Xb, Xc, Xd, Xe, Xf, Xg, Xh, Xi, _, _, Xl, Xm, Xn, Xo, Xp, Xq, Xr, Xs, Xt, Xu, Xv, Xw, Xx, Xy, Xz, XA, XB, XC, XD, XE, XF, XG, XH, XI, XJ, XK, XL, XM, XN, XO, XP, XQ, XR, rfl, h.same 11 _ (.con (.bool true)) (vq42 HV rfl) rfl⟩
   · obtain rfl : Xk = .bool true := h.get 11 (hw _ rfl ⟨11, .guard⟩ (by simp) rfl) (.con (.bool true)) (vq42 HV rfl) _ rfl
     refine wpOp_step rfl fun K hK => ?_
     go_simp
     exact hK _ _ ⟨XZ, Xa, Xb, Xc, Xd, Xe, Xf, Xg, Xh, Xi, Xj, _, _, Xm, Xn, Xo, Xp, Xq, Xr, Xs, Xt, Xu, Xv, Xw, Xx, Xy, Xz, XA, XB, XC, XD, XE, XF, XG, XH, XI, XJ, XK, XL, XM, XN, XO, XP, XQ, XR, rfl, h.same 12 _ (.con (.bool true)) (vq42 HV rfl) rfl⟩
   · obtain rfl : Xk = .bool true := h.get 11 (hw _ rfl ⟨11, .data⟩ (by simp) rfl) (.con (.bool true)) (vq42 HV rfl) _ rfl
     obtain rfl : Xl = .bool true := h.get 12 (hw _ rfl ⟨12, .data⟩ (by simp) rfl) (.con (.bool true)) (vq42 HV rfl) _ rfl
     refine wpOp_step rfl fun K hK => ?_
     go_simp
     exact hK _ _ ⟨XZ, Xa, Xb, Xc, Xd, Xe, Xf, Xg, Xh, Xi, Xj, _, _, _, Xn, Xo, Xp, Xq, Xr, Xs, Xt, Xu, Xv, Xw, Xx, Xy, Xz, XA, XB, XC, XD, XE, XF, XG, XH, XI, XJ, XK, XL, XM, XN, XO, XP, XQ, XR, rfl, h.same 13 _ (.con (.bool true)) (vq42 HV rfl) rfl⟩
   · obtain rfl : Xm = .bool true := h.get 13 (hw _ rfl ⟨13, .data⟩ (by simp) rfl) (.con (.bool true)) (vq42 HV rfl) _ rfl
     refine wpOp_step rfl fun K hK => ?_
     go_simp
     exact hK _ _ ⟨XZ, Xa, Xb, Xc, Xd, Xe, Xf, Xg, Xh, Xi, Xj, Xk, Xl, _, _, Xo, Xp, Xq, Xr, Xs, Xt, Xu, Xv, Xw, Xx, Xy, Xz, XA, XB, XC, XD, XE, XF, XG, XH, XI, XJ, XK, XL, XM, XN, XO, XP, XQ, XR, rfl, h.same 14 _ (.con (.bool true)) (vq42 HV rfl) rfl⟩
   · obtain rfl : Xn = .bool true := h.get 14 (hw _ rfl ⟨14, .guard⟩ (by simp) rfl) (.con (.bool true)) (vq42 HV rfl) _ rfl
     refine wpOp_step rfl fun K hK => ?_
     go_simp
     exact hK _ _ ⟨XZ, Xa, Xb, Xc, Xd, Xe, Xf, Xg, Xh, Xi, Xj, Xk, Xl, Xm, _, _, Xp, Xq, Xr, Xs, Xt, Xu, Xv, Xw, Xx, Xy, Xz, XA, XB, XC, XD, XE, XF, XG, XH, XI, XJ, XK, XL, XM, XN, XO, XP, XQ, XR, rfl, h.same 15 _ (.con (.pointer (some ⟨bT, 2, none⟩))) (vq42 HV rfl) rfl⟩
   · obtain rfl : Xn = .bool true := h.get 14 (hw _ rfl ⟨14, .guard⟩ (by simp) rfl) (.con (.bool true)) (vq42 HV rfl) _ rfl
     obtain rfl : Xo = .pointer (some ⟨bT, 2, none⟩) := h.get 15 (hw _ rfl ⟨15, .data⟩ (by simp) rfl) (.con (.pointer (some ⟨bT, 2, none⟩))) (vq42 HV rfl) _ rfl
     obtain ⟨⟨q0, q1, q2, q3⟩, r0, r1, r2, r3, r4, r5, r6, r7, r8⟩ := HC.out w' h.1
     refine wpOp_step rfl fun K hK => ?_
     go_simp
     exact hK _ _ ⟨XZ, Xa, Xb, Xc, Xd, Xe, Xf, Xg, Xh, Xi, Xj, Xk, Xl, Xm, _, _, _, Xq, Xr, Xs, Xt, Xu, Xv, Xw, Xx, Xy, Xz, XA, XB, XC, XD, XE, XF, XG, XH, XI, XJ, XK, XL, XM, XN, XO, XP, XQ, XR, rfl, h.same 16 _ (.con (.string { data := #[49, 57, 55, 48, 45, 48, 49, 45, 48, 49, 84, 48, 48, 58, 48, 48, 58, 48, 57, 90] })) (vq42 HV rfl) rfl⟩
   · obtain rfl : Xn = .bool true := h.get 14 (hw _ rfl ⟨14, .guard⟩ (by simp) rfl) (.con (.bool true)) (vq42 HV rfl) _ rfl
     obtain rfl : Xp = .string { data := #[49, 57, 55, 48, 45, 48, 49, 45, 48, 49, 84, 48, 48, 58, 48, 48, 58, 48, 57, 90] } := h.get 16 (hw _ rfl ⟨16, .data⟩ (by simp) rfl) (.con (.string { data := #[49, 57, 55, 48, 45, 48, 49, 45, 48, 49, 84, 48, 48, 58, 48, 48, 58, 48, 57, 90] })) (vq42 HV rfl) _ rfl
     refine wpOp_step rfl fun K hK => ?_
     go_simp
     exact hK _ _ ⟨XZ, Xa, Xb, Xc, Xd, Xe, Xf, Xg, Xh, Xi, Xj, Xk, Xl, Xm, _, Xo, _, _, Xr, Xs, Xt, Xu, Xv, Xw, Xx, Xy, Xz, XA, XB, XC, XD, XE, XF, XG, XH, XI, XJ, XK, XL, XM, XN, XO, XP, XQ, XR, rfl, h.same 17 _ (.con (.bool true)) (vq42 HV rfl) rfl⟩
   · obtain rfl : Xn = .bool true := h.get 14 (hw _ rfl ⟨14, .data⟩ (by simp) rfl) (.con (.bool true)) (vq42 HV rfl) _ rfl
     obtain rfl : Xq = .bool true := h.get 17 (hw _ rfl ⟨17, .data⟩ (by simp) rfl) (.con (.bool true)) (vq42 HV rfl) _ rfl
     refine wpOp_step rfl fun K hK => ?_
     go_simp
     exact hK _ _ ⟨XZ, Xa, Xb, Xc, Xd, Xe, Xf, Xg, Xh, Xi, Xj, Xk, Xl, Xm, _, Xo, Xp, _, _, Xs, Xt, Xu, Xv, Xw, Xx, Xy, Xz, XA, XB, XC, XD, XE, XF, XG, XH, XI, XJ, XK, XL, XM, XN, XO, XP, XQ, XR, rfl, h.same 18 _ (.con (.bool true)) (vq42 HV rfl) rfl⟩
   · obtain rfl : Xr = .bool true := h.get 18 (hw _ rfl ⟨18, .data⟩ (by simp) rfl) (.con (.bool true)) (vq42 HV rfl) _ rfl
     refine wpOp_step rfl fun K hK => ?_
     go_simp
     exact hK _ _ ⟨XZ, Xa, Xb, Xc, Xd, Xe, Xf, Xg, Xh, Xi, Xj, Xk, Xl, Xm, Xn, Xo, Xp, Xq, _, _, Xt, Xu, Xv, Xw, Xx, Xy, Xz, XA, XB, XC, XD, XE, XF, XG, XH, XI, XJ, XK, XL, XM, XN, XO, XP, XQ, XR, rfl, h.same 19 _ (.con (.bool true)) (vq42 HV rfl) rfl⟩
   · obtain rfl : Xs = .bool true := h.get 19 (hw _ rfl ⟨19, .guard⟩ (by simp) rfl) (.con (.bool true)) (vq42 HV rfl) _ rfl
     refine wpOp_step rfl fun K hK => ?_
     go_simp
     exact hK _ _ ⟨XZ, Xa, Xb, Xc, Xd, Xe, Xf, Xg, Xh, Xi, Xj, Xk, Xl, Xm, Xn, Xo, Xp, Xq, Xr, _, _, Xu, Xv, Xw, Xx, Xy, Xz, XA, XB, XC, XD, XE, XF, XG, XH, XI, XJ, XK, XL, XM, XN, XO, XP, XQ, XR, rfl, h.same 20 _ (.con (.int .i64 0)) (vq42 HV rfl) rfl⟩
   · obtain rfl : Xs = .bool true := h.get 19 (hw _ rfl ⟨19, .guard⟩ (by simp) rfl) (.con (.bool true)) (vq42 HV rfl) _ rfl
     obtain rfl : Xt = .int .i64 0 := h.get 20 (hw _ rfl ⟨20, .data⟩ (by simp) rfl) (.con (.int .i64 0)) (vq42 HV rfl) _ rfl
     refine wpOp_step rfl fun K hK => ?_
     go_simp
     exact hK _ _ ⟨XZ, Xa, Xb, Xc, Xd, Xe, Xf, Xg, Xh, Xi, Xj, Xk, Xl, Xm, Xn, Xo, Xp, Xq, Xr, _, _, _, Xv, Xw, Xx, Xy, Xz, XA, XB, XC, XD, XE, XF, XG, XH, XI, XJ, XK, XL, XM, XN, XO, XP, XQ, XR, rfl, h.same 21 _ (.con (.bool true)) (vq42 HV rfl) rfl⟩
   · obtain rfl : Xs = .bool true := h.get 19 (hw _ rfl ⟨19, .data⟩ (by simp) rfl) (.con (.bool true)) (vq42 HV rfl) _ rfl
     obtain rfl : Xu = .bool true := h.get 21 (hw _ rfl ⟨21, .data⟩ (by simp) rfl) (.con (.bool true)) (vq42 HV rfl) _ rfl
     refine wpOp_step rfl fun K hK => ?_
     go_simp
     exact hK _ _ ⟨XZ, Xa, Xb, Xc, Xd, Xe, Xf, Xg, Xh, Xi, Xj, Xk, Xl, Xm, Xn, Xo, Xp, Xq, Xr, _, Xt, _, _, Xw, Xx, Xy, Xz, XA, XB, XC, XD, XE, XF, XG, XH, XI, XJ, XK, XL, XM, XN, XO, XP, XQ, XR, rfl, h.same 22 _ (.con (.bool true)) (vq42 HV rfl) rfl⟩
   · obtain rfl : Xv = .bool true := h.get 22 (hw _ rfl ⟨22, .data⟩ (by simp) rfl) (.con (.bool true)) (vq42 HV rfl) _ rfl
     refine wpOp_step rfl fun K hK => ?_
     go_simp
     exact hK _ _ ⟨XZ, Xa, Xb, Xc, Xd, Xe, Xf, Xg, Xh, Xi, Xj, Xk, Xl, Xm, Xn, Xo, Xp, Xq, Xr, Xs, Xt, Xu, _, _, Xx, Xy, Xz, XA, XB, XC, XD, XE, XF, XG, XH, XI, XJ, XK, XL, XM, XN, XO, XP, XQ, XR, rfl, h.same 23 _ (.con (.bool true)) (vq42 HV rfl) rfl⟩
   · obtain rfl : Xw = .bool true := h.get 23 (hw _ rfl ⟨23, .guard⟩ (by simp) rfl) (.con (.bool true)) (vq42 HV rfl) _ rfl
     refine wpOp_step rfl fun K hK => ?_
     go_simp
     exact hK _ _ ⟨XZ, Xa, Xb, Xc, Xd, Xe, Xf, Xg, Xh, Xi, Xj, Xk, Xl, Xm, Xn, Xo, Xp, Xq, Xr, Xs, Xt, Xu, Xv, _, _, Xy, Xz, XA, XB, XC, XD, XE, XF, XG, XH, XI, XJ, XK, XL, XM, XN, XO, XP, XQ, XR, rfl, h.same 24 _ (.con (.int .i64 13)) (vq42 HV rfl) rfl⟩
   · obtain rfl : Xw = .bool true := h.get 23 (hw _ rfl ⟨23, .guard⟩ (by simp) rfl) (.con (.bool true)) (vq42 HV rfl) _ rfl
     obtain rfl : Xx = .int .i64 13 := h.get 24 (hw _ rfl ⟨24, .data⟩ (by simp) rfl) (.con (.int .i64 13)) (vq42 HV rfl) _ rfl
     refine wpOp_step rfl fun K hK => ?_
     go_simp
     exact hK _ _ ⟨XZ, Xa, Xb, Xc, Xd, Xe, Xf, Xg, Xh, Xi, Xj, Xk, Xl, Xm, Xn, Xo, Xp, Xq, Xr, Xs, Xt, Xu, Xv, _, _, _, Xz, XA, XB, XC, XD, XE, XF, XG, XH, XI, XJ, XK, XL, XM, XN, XO, XP, XQ, XR, rfl, h.same 25 _ (.con (.bool true)) (vq42 HV rfl) rfl⟩
   · obtain rfl : Xw = .bool true := h.get 23 (hw _ rfl ⟨23, .data⟩ (by simp) rfl) (.con (.bool true)) (vq42 HV rfl) _ rfl
     obtain rfl : Xy = .bool true := h.get 25 (hw _ rfl ⟨25, .data⟩ (by simp) rfl) (.con (.bool true)) (vq42 HV rfl) _ rfl
     refine wpOp_step rfl fun K hK => ?_
     go_simp
     exact hK _ _ ⟨XZ, Xa, Xb, Xc, Xd, Xe, Xf, Xg, Xh, Xi, Xj, Xk, Xl, Xm, Xn, Xo, Xp, Xq, Xr, Xs, Xt, Xu, Xv, _, Xx, _, _, XA, XB, XC, XD, XE, XF, XG, XH, XI, XJ, XK, XL, XM, XN, XO, XP, XQ, XR, rfl, h.same 26 _ (.con (.bool true)) (vq42 HV rfl) rfl⟩
   · obtain rfl : Xz = .bool true := h.get 26 (hw _ rfl ⟨26, .data⟩ (by simp) rfl) (.con (.bool true)) (vq42 HV rfl) _ rfl
     refine wpOp_step rfl fun K hK => ?_
     go_simp
     exact hK _ _ ⟨XZ, Xa, Xb, Xc, Xd, Xe, Xf, Xg, Xh, Xi, Xj, Xk, Xl, Xm, Xn, Xo, Xp, Xq, Xr, Xs, Xt, Xu, Xv, Xw, Xx, Xy, _, _, XB, XC, XD, XE, XF, XG, XH, XI, XJ, XK, XL, XM, XN, XO, XP, XQ, XR, rfl, h.same 27 _ (.con (.bool true)) (vq42 HV rfl) rfl⟩
   · obtain rfl : XA = .bool true := h.get 27 (hw _ rfl ⟨27, .guard⟩ (by simp) rfl) (.con (.bool true)) (vq42 HV rfl) _ rfl
     refine wpOp_step rfl fun K hK => ?_
     go_simp
     exact hK _ _ ⟨XZ, Xa, Xb, Xc, Xd, Xe, Xf, Xg, Xh, Xi, Xj, Xk, Xl, Xm, Xn, Xo, Xp, Xq, Xr, Xs, Xt, Xu, Xv, Xw, Xx, Xy, Xz, _, _, XC, XD, XE, XF, XG, XH, XI, XJ, XK, XL, XM, XN, XO, XP, XQ, XR, rfl, h.same 28 _ (.con (.bool true)) (vq42 HV rfl) rfl⟩
   · obtain rfl : XA = .bool true := h.get 27 (hw _ rfl ⟨27, .data⟩ (by simp) rfl) (.con (.bool true)) (vq42 HV rfl) _ rfl
     obtain rfl : XB = .bool true := h.get 28 (hw _ rfl ⟨28, .data⟩ (by simp) rfl) (.con (.bool true)) (vq42 HV rfl) _ rfl
     refine wpOp_step rfl fun K hK => ?_
     go_simp
     exact hK _ _ ⟨XZ, Xa, Xb, Xc, Xd, Xe, Xf, Xg, Xh, Xi, Xj, Xk, Xl, Xm, Xn, Xo, Xp, Xq, Xr, Xs, Xt, Xu, Xv, Xw, Xx, Xy, Xz, _, _, _, XD, XE, XF, XG, XH, XI, XJ, XK, XL, XM, XN, XO, XP, XQ, XR, rfl, h.same 29 _ (.con (.bool true)) (vq42 HV rfl) rfl⟩
   · obtain rfl : XC = .bool true := h.get 29 (hw _ rfl ⟨29, .data⟩ (by simp) rfl) (.con (.bool true)) (vq42 HV rfl) _ rfl
     refine wpOp_step rfl fun K hK => ?_
     go_simp
     exact hK _ _ ⟨XZ, Xa, Xb, Xc, Xd, Xe, Xf, Xg, Xh, Xi, Xj, Xk, Xl, Xm, Xn, Xo, Xp, Xq, Xr, Xs, Xt, Xu, Xv, Xw, Xx, Xy, Xz, XA, XB, _, _, XE, XF, XG, XH, XI, XJ, XK, XL, XM, XN, XO, XP, XQ, XR, rfl, h.same 30 _ (.con (.bool true)) (vq42 HV rfl) rfl⟩
   · obtain rfl : XD = .bool true := h.get 30 (hw _ rfl ⟨30, .guard⟩ (by simp) rfl) (.con (.bool true)) (vq42 HV rfl) _ rfl
     refine wpOp_step rfl fun K hK => ?_
     go_simp
     exact hK _ _ ⟨XZ, Xa, Xb, Xc, Xd, Xe, Xf, Xg, Xh, Xi, Xj, Xk, Xl, Xm, Xn, Xo, Xp, Xq, Xr, Xs, Xt, Xu, Xv, Xw, Xx, Xy, Xz, XA, XB, XC, _, _, XF, XG, XH, XI, XJ, XK, XL, XM, XN, XO, XP, XQ, XR, rfl, h.same 31 _ (.con (.bool false)) (vq42 HV rfl) rfl⟩
   · obtain rfl : XD = .bool true := h.get 30 (hw _ rfl ⟨30, .guard⟩ (by simp) rfl) (.con (.bool true)) (vq42 HV rfl) _ rfl
     obtain rfl : XE = .bool false := h.get 31 (hw _ rfl ⟨31, .data⟩ (by simp) rfl) (.con (.bool false)) (vq42 HV rfl) _ rfl
     refine wpOp_step rfl fun K hK => ?_
     go_simp
     exact hK _ _ ⟨XZ, Xa, Xb, Xc, Xd, Xe, Xf, Xg, Xh, Xi, Xj, Xk, Xl, Xm, Xn, Xo, Xp, Xq, Xr, Xs, Xt, Xu, Xv, Xw, Xx, Xy, Xz, XA, XB, XC, _, _, _, XG, XH, XI, XJ, XK, XL, XM, XN, XO, XP, XQ, XR, rfl, h.same 32 _ (.con (.bool true)) (vq42 HV rfl) rfl⟩
   · obtain rfl : XD = .bool true := h.get 30 (hw _ rfl ⟨30, .data⟩ (by simp) rfl) (.con (.bool true)) (vq42 HV rfl) _ rfl
     obtain rfl : XF = .bool true := h.get 32 (hw _ rfl ⟨32, .data⟩ (by simp) rfl) (.con (.bool true)) (vq42 HV rfl) _ rfl
     refine wpOp_step rfl fun K hK => ?_
     go_simp
     exact hK _ _ ⟨XZ, Xa, Xb, Xc, Xd, Xe, Xf, Xg, Xh, Xi, Xj, Xk, Xl, Xm, Xn, Xo, Xp, Xq, Xr, Xs, Xt, Xu, Xv, Xw, Xx, Xy, Xz, XA, XB, XC, _, XE, _, _, XH, XI, XJ, XK, XL, XM, XN, XO, XP, XQ, XR, rfl, h.same 33 _ (.con (.bool true)) (vq42 HV rfl) rfl⟩
   · obtain rfl : XG = .bool true := h.get 33 (hw _ rfl ⟨33, .data⟩ (by simp) rfl) (.con (.bool true)) (vq42 HV rfl) _ rfl
     refine wpOp_step rfl fun K hK => ?_
     go_simp
     exact hK _ _ ⟨XZ, Xa, Xb, Xc, Xd, Xe, Xf, Xg, Xh, Xi, Xj, Xk, Xl, Xm, Xn, Xo, Xp, Xq, Xr, Xs, Xt, Xu, Xv, Xw, Xx, Xy, Xz, XA, XB, XC, XD, XE, XF, _, _, XI, XJ, XK, XL, XM, XN, XO, XP, XQ, XR, rfl, h.same 34 _ (.con (.bool true)) (vq42 HV rfl) rfl⟩
   · obtain rfl : XH = .bool true := h.get 34 (hw _ rfl ⟨34, .guard⟩ (by simp) rfl) (.con (.bool true)) (vq42 HV rfl) _ rfl
     obtain ⟨⟨q0, q1, q2, q3⟩, r0, r1, r2, r3, r4, r5, r6, r7, r8⟩ := HC.out w' h.1
     refine wpOp_step rfl fun K hK => ?_
     go_simp
     exact hK _ _ ⟨XZ, Xa, Xb, Xc, Xd, Xe, Xf, Xg, Xh, Xi, Xj, Xk, Xl, Xm, Xn, Xo, Xp, Xq, Xr, Xs, Xt, Xu, Xv, Xw, Xx, Xy, Xz, XA, XB, XC, XD, XE, XF, XG, _, _, XJ, XK, XL, XM, XN, XO, XP, XQ, XR, rfl, h.same 35 _ (.con (.agg #[.int .i64 1, .slice ja 1 jc])) (vq42 HV rfl) rfl⟩
   · obtain rfl : XH = .bool true := h.get 34 (hw _ rfl ⟨34, .chain⟩ (by simp) rfl) (.con (.bool true)) (vq42 HV rfl) _ rfl
     obtain ⟨⟨q0, q1, q2, q3⟩, r0, r1, r2, r3, r4, r5, r6, r7, r8⟩ := HC.out w' h.1
     refine wpOp_step rfl fun K hK => ?_
     go_simp
     refine (awWho22 98 w').mono ?_
     rintro e w2 ⟨y, rfl, hy, hb2⟩
     exact hK _ _ ⟨XZ, Xa, Xb, Xc, Xd, Xe, Xf, Xg, Xh, Xi, Xj, Xk, Xl, Xm, Xn, Xo, Xp, Xq, Xr, Xs, Xt, Xu, Xv, Xw, Xx, Xy, Xz, XA, XB, XC, XD, XE, XF, XG, _, XI, _, XK, XL, XM, XN, XO, XP, XQ, XR, rfl, h.did hb2 36 _ (MP.who 98 0) (vq42 HV rfl) hy⟩
   · obtain rfl : XH = .bool true := h.get 34 (hw _ rfl ⟨34, .guard⟩ (by simp) rfl) (.con (.bool true)) (vq42 HV rfl) _ rfl
     obtain rfl : XI = .agg #[.int .i64 1, .slice ja 1 jc] := h.get 35 (hw _ rfl ⟨35, .data⟩ (by simp) rfl) (.con (.agg #[.int .i64 1, .slice ja 1 jc])) (vq42 HV rfl) _ rfl
     have hs87 := h.get 36 (hw _ rfl ⟨36, .data⟩ (by simp) rfl) (MP.who 98 0) (vq42 HV rfl) _ rfl
     obtain ⟨ga2, rfl, hj3⟩ := hs87
     obtain ⟨⟨q0, q1, q2, q3⟩, r0, r1, r2, r3, r4, r5, r6, r7, r8⟩ := HC.out w' h.1
     refine wpOp_step rfl fun K hK => ?_
     go_simp
     refine (HSA.out w' ga2 h.1 hj3).mono ?_
     rintro e w2 ⟨rfl, hb2⟩
     exact hK _ _ ⟨XZ, Xa, Xb, Xc, Xd, Xe, Xf, Xg, Xh, Xi, Xj, Xk, Xl, Xm, Xn, Xo, Xp, Xq, Xr, Xs, Xt, Xu, Xv, Xw, Xx, Xy, Xz, XA, XB, XC, XD, XE, XF, XG, _, _, _, _, XL, XM, XN, XO, XP, XQ, XR, rfl, h.did hb2 37 _ (.con (.bool true)) (vq42 HV rfl) rfl⟩
   · obtain rfl : XH = .bool true := h.get 34 (hw _ rfl ⟨34, .data⟩ (by simp) rfl) (.con (.bool true)) (vq42 HV rfl) _ rfl
     obtain rfl : XK = .bool true := h.get 37 (hw _ rfl ⟨37, .data⟩ (by simp) rfl) (.con (.bool true)) (vq42 HV rfl) _ rfl
     refine wpOp_step rfl fun K hK => ?_
     go_simp
     exact hK _ _ ⟨XZ, Xa, Xb, Xc, Xd, Xe, Xf, Xg, Xh, Xi, Xj, Xk, Xl, Xm, Xn, Xo, Xp, Xq, Xr, Xs, Xt, Xu, Xv, Xw, Xx, Xy, Xz, XA, XB, XC, XD, XE, XF, XG, _, XI, XJ, _, _, XM, XN, XO, XP, XQ, XR, rfl, h.same 38 _ (.con (.bool true)) (vq42 HV rfl) rfl⟩
   · obtain rfl : XL = .bool true := h.get 38 (hw _ rfl ⟨38, .data⟩ (by simp) rfl) (.con (.bool true)) (vq42 HV rfl) _ rfl
     refine wpOp_step rfl fun K hK => ?_
     go_simp
     exact hK _ _ ⟨XZ, Xa, Xb, Xc, Xd, Xe, Xf, Xg, Xh, Xi, Xj, Xk, Xl, Xm, Xn, Xo, Xp, Xq, Xr, Xs, Xt, Xu, Xv, Xw, Xx, Xy, Xz, XA, XB, XC, XD, XE, XF, XG, XH, XI, XJ, XK, _, _, XN, XO, XP, XQ, XR, rfl, h.same 39 _ (.con (.bool true)) (vq42 HV rfl) rfl⟩
   · obtain rfl : XM = .bool true := h.get 39 (hw _ rfl ⟨39, .guard⟩ (by simp) rfl) (.con (.bool true)) (vq42 HV rfl) _ rfl
     refine wpOp_step rfl fun K hK => ?_
     go_simp
     exact hK _ _ ⟨XZ, Xa, Xb, Xc, Xd, Xe, Xf, Xg, Xh, Xi, Xj, Xk, Xl, Xm, Xn, Xo, Xp, Xq, Xr, Xs, Xt, Xu, Xv, Xw, Xx, Xy, Xz, XA, XB, XC, XD, XE, XF, XG, XH, XI, XJ, XK, XL, _, _, XO, XP, XQ, XR, rfl, h.same 40 _ (.con (.pointer (some ⟨bV, 3, none⟩))) (vq42 HV rfl) rfl⟩
   · obtain rfl : XM = .bool true := h.get 39 (hw _ rfl ⟨39, .guard⟩ (by simp) rfl) (.con (.bool true)) (vq42 HV rfl) _ rfl
     obtain rfl : XN = .pointer (some ⟨bV, 3, none⟩) := h.get 40 (hw _ rfl ⟨40, .data⟩ (by simp) rfl) (.con (.pointer (some ⟨bV, 3, none⟩))) (vq42 HV rfl) _ rfl
     obtain ⟨⟨q0, q1, q2, q3⟩, r0, r1, r2, r3, r4, r5, r6, r7, r8⟩ := HC.out w' h.1
     refine wpOp_step rfl fun K hK => ?_
     go_simp
     exact hK _ _ ⟨XZ, Xa, Xb, Xc, Xd, Xe, Xf, Xg, Xh, Xi, Xj, Xk, Xl, Xm, Xn, Xo, Xp, Xq, Xr, Xs, Xt, Xu, Xv, Xw, Xx, Xy, Xz, XA, XB, XC, XD, XE, XF, XG, XH, XI, XJ, XK, XL, _, _, _, XP, XQ, XR, rfl, h.same 41 _ (.con (.slice an 5 cn)) (vq42 HV rfl) rfl⟩
   · obtain rfl : XM = .bool true := h.get 39 (hw _ rfl ⟨39, .guard⟩ (by simp) rfl) (.con (.bool true)) (vq42 HV rfl) _ rfl
     obtain rfl : XO = .slice an 5 cn := h.get 41 (hw _ rfl ⟨41, .data⟩ (by simp) rfl) (.con (.slice an 5 cn)) (vq42 HV rfl) _ rfl
     refine wpOp_step rfl fun K hK => ?_
     go_simp
     exact hK _ _ ⟨XZ, Xa, Xb, Xc, Xd, Xe, Xf, Xg, Xh, Xi, Xj, Xk, Xl, Xm, Xn, Xo, Xp, Xq, Xr, Xs, Xt, Xu, Xv, Xw, Xx, Xy, Xz, XA, XB, XC, XD, XE, XF, XG, XH, XI, XJ, XK, XL, _, XN, _, _, XQ, XR, rfl, h.same 42 _ (.con (.int .i64 5)) (vq42 HV rfl) rfl⟩
   · obtain rfl : XM = .bool true := h.get 39 (hw _ rfl ⟨39, .guard⟩ (by simp) rfl) (.con (.bool true)) (vq42 HV rfl) _ rfl
     obtain rfl : XP = .int .i64 5 := h.get 42 (hw _ rfl ⟨42, .data⟩ (by simp) rfl) (.con (.int .i64 5)) (vq42 HV rfl) _ rfl
     refine wpOp_step rfl fun K hK => ?_
     go_simp
     exact hK _ _ ⟨XZ, Xa, Xb, Xc, Xd, Xe, Xf, Xg, Xh, Xi, Xj, Xk, Xl, Xm, Xn, Xo, Xp, Xq, Xr, Xs, Xt, Xu, Xv, Xw, Xx, Xy, Xz, XA, XB, XC, XD, XE, XF, XG, XH, XI, XJ, XK, XL, _, XN, XO, _, _, XR, rfl, h.same 43 _ (.con (.bool true)) (vq42 HV rfl) rfl⟩
   · obtain rfl : XM = .bool true := h.get 39 (hw _ rfl ⟨39, .data⟩ (by simp) rfl) (.con (.bool true)) (vq42 HV rfl) _ rfl
     obtain rfl : XQ = .bool true := h.get 43 (hw _ rfl ⟨43, .data⟩ (by simp) rfl) (.con (.bool true)) (vq42 HV rfl) _ rfl
     refine wpOp_step rfl fun K hK => ?_
     go_simp
     exact hK _ _ ⟨XZ, Xa, Xb, Xc, Xd, Xe, Xf, Xg, Xh, Xi, Xj, Xk, Xl, Xm, Xn, Xo, Xp, Xq, Xr, Xs, Xt, Xu, Xv, Xw, Xx, Xy, Xz, XA, XB, XC, XD, XE, XF, XG, XH, XI, XJ, XK, XL, _, XN, XO, XP, _, _, rfl, h.same 44 _ (.con (.bool true)) (vq42 HV rfl) rfl⟩
   · omega
 case last =>
   rintro d a' w' hall ⟨XZ, Xa, Xb, Xc, Xd, Xe, Xf, Xg, Xh, Xi, Xj, Xk, Xl, Xm, Xn, Xo, Xp, Xq, Xr, Xs, Xt, Xu, Xv, Xw, Xx, Xy, Xz, XA, XB, XC, XD, XE, XF, XG, XH, XI, XJ, XK, XL, XM, XN, XO, XP, XQ, XR, rfl, h⟩
   have hle := h.1
   obtain rfl : XR = .bool true := h.get 44 (hall _ (by omega)) (.con (.bool true)) (vq42 HV rfl) _ rfl
   have HLE := Lib.hid hle
   clear h hall hle HV
   have hb := HLE.out
   have HBF := Lib.hid (HB.out.trans (hb.mono HB.out.size))
   clear hb
   go_wp2
   go_ret
   exact ⟨rfl, HBF.out⟩
end Go.Proofs.YtnlgmcapbbgelaaGreatDoor
