/- Keys and their IDs, in plain words. No program in sight. Which key of a row has an ID, in plain words. No program in sight. Plain: which signatures are good; what is signed of an envelope; how many keys of an authority have signed. No program in sight. The contracts of mac.block, mac.combine (with each of its two closures) and mac.Of. The contracts of the reference's small functions on words (legateref02: turned, low, keys, words). The contract of hex.Decode. Which texts a map of counts has seen. No program in sight. The contracts of auth.wrong, auth.May and auth.Has. Plain: how the counting of signatures answers as the laws say. No program in sight. -/
import Derived.Test.YtaekmmnpdbmoeaaGreatDoorJh15
import Derived.Test.YtaekmmnpdbmoeaaGreatDoorJh01
import Derived.Test.YtaekmmnpdbmoeaaGreatDoorJh07
import Derived.Test.YtaekmmnpdbmoeaaGreatDoorJh11
import Derived.Test.YtaekmmnpdbmoeaaGreatDoorJh14
import Derived.Deep.RegionHeld3
import Derived.Laws.ResultCell
import Derived.Test.YtaekmmnpdbmoeaaGreatDoorJh04
import Derived.Outline
import Derived.Maps.Views
import Derived.Maps.Own
import Derived.Test.YtaekmmnpdbmoeaaGreatDoorJh12
import Derived.Test.YtaekmmnpdbmoeaaGreatDoorJh02
import Derived.Maps.OwnOps

namespace Go.Proofs.YtaekmmnpdbmoeaaGreatDoor
open Go.RowKit

/-- The ID as a text. -/
def idOf (s t : ByteArray) : ByteArray := ⟨(keyId s.data.toList t.data.toList).toArray⟩
def ok2 (k : Key2) : Bool := keyOk k.1.data.toList k.2.data.toList
def id2 (k : Key2) : ByteArray := idOf k.1 k.2
def ids (l : List Key2) : List ByteArray := l.map id2

def hasId (seen : List ByteArray) (x : ByteArray) : Bool := seen.any fun y => y.toList == x.toList
theorem hasId_iff (seen : List ByteArray) (x : ByteArray) : hasId seen x = true ↔ x ∈ seen := by
  unfold hasId
  rw [List.any_eq_true]
  constructor
  · rintro ⟨y, hy, e⟩; rw [← ba_ext (eq_of_beq e)]; exact hy
  · intro h; exact ⟨x, h, by simp⟩

end Go.Proofs.YtaekmmnpdbmoeaaGreatDoor

namespace Go.Proofs.YtaekmmnpdbmoeaaGreatDoor
open Go.RowKit

/-- Has a key this ID? -/
def keyHit (id : ByteArray) (k : Key2) : Bool := keyOk k.1.data.toList k.2.data.toList && ((⟨(keyId k.1.data.toList k.2.data.toList).toArray⟩ : ByteArray).toList == id.toList)
def findK (id : ByteArray) : List Key2 → Key2 × Bool
  | [] => (({ data := #[] }, { data := #[] }), false)
  | k :: r => if keyHit id k then (k, true) else findK id r
theorem findK_drop (id : ByteArray) (l : List Key2) (k : Nat) (h : k < l.length) : findK id (l.drop k) = if keyHit id l[k] then (l[k], true) else findK id (l.drop (k + 1)) := by
  rw [List.drop_eq_getElem_cons h, findK]


end Go.Proofs.YtaekmmnpdbmoeaaGreatDoor

namespace Go.Proofs.YtaekmmnpdbmoeaaGreatDoor
open Go.RowKit

/-- A signature: its ID, its digits. A verdict: a signature, and the digest of what is signed. -/
abbrev Sig2 := ByteArray × ByteArray
abbrev Ver3 := ByteArray × ByteArray × ByteArray

/-- hmac-sha256 -/
def schemeH : ByteArray := ⟨#[104, 109, 97, 99, 45, 115, 104, 97, 50, 53, 54]⟩
inductive Ver where
  | mac
  | tab (l : List Ver3)
/-- Whether a verifier calls a signature good, of a key that may be, and of digits that may be. -/
def Ver.by (v : Ver) (k : Key2) (s : Sig2) (m : List UInt8) : Bool :=
  match v with
  | .mac => decide (k.1 = schemeH) && decide (hexDec s.2.data.toList = macL (hexDec k.2.data.toList) m)
  | .tab l => l.any fun v => decide (v.1 = s.1 ∧ v.2.1 = s.2 ∧ v.2.2 = (⟨(shaHex m).toArray⟩ : ByteArray))
def Ver.good (v : Ver) (k : Key2) (s : Sig2) (m : List UInt8) : Bool := pubOk s.2.data.toList && (ok2 k && (decide (s.1 = id2 k) && v.by k s m))
/-- The signature that a key makes. -/
def makeE (k : Key2) : Int := if ok2 k then (if k.1 = schemeH then 0 else 10) else 3
def makeS (k : Key2) (m : List UInt8) : Sig2 := if ok2 k = true ∧ k.1 = schemeH then (id2 k, ⟨(macHex k.2.data.toList m).toArray⟩) else (⟨#[]⟩, ⟨#[]⟩)

/-- Digits that may be stand for one text each. -/
theorem hexEnc_hexDec : ∀ l : List UInt8, allHex l = true → l.length % 2 = 0 → hexEnc (hexDec l) = l
  | [], _, _ => rfl
  | [_], _, h => by simp at h
  | a :: b :: r, h, h2 => by
    have ha : isHex a = true := by unfold allHex at h; simp at h; exact h.1
    have hb : isHex b = true := by unfold allHex at h; simp at h; exact h.2.1
    have hr : allHex r = true := by unfold allHex at h ⊢; simp at h ⊢; exact h.2.2
    have ih := hexEnc_hexDec r hr (by simp at h2; omega)
    have la := hexN_lt a
    have lb := hexN_lt b
    have e : (UInt8.ofNat (16 * (hexN a).toNat + (hexN b).toNat)).toNat = 16 * (hexN a).toNat + (hexN b).toNat := by
      rw [UInt8.toNat_ofNat']; omega
    have e1 : (16 * (hexN a).toNat + (hexN b).toNat) / 16 = (hexN a).toNat := by omega
    have e2 : (16 * (hexN a).toNat + (hexN b).toNat) % 16 = (hexN b).toNat := by omega
    simp only [hexDec, hexEnc, e, e1, e2, hexChar_hexN ha, hexChar_hexN hb, ih]
theorem hexN_hexChar (n : Nat) (h : n < 16) : (hexN (hexChar n)).toNat = n := by
  have : ∀ m : Fin 16, (hexN (hexChar m.val)).toNat = m.val := by decide
  exact this ⟨n, h⟩
theorem hexDec_hexEnc : ∀ l : List UInt8, hexDec (hexEnc l) = l
  | [] => rfl
  | c :: r => by
    have hc : c.toNat < 256 := c.toNat_lt
    simp only [hexEnc, hexDec, hexN_hexChar (c.toNat / 16) (by omega), hexN_hexChar (c.toNat % 16) (by omega), hexDec_hexEnc r]
    have e : 16 * (c.toNat / 16) + c.toNat % 16 = c.toNat := by omega
    rw [e]; simp
theorem dec_iff {s : ByteArray} (h : pubOk s.data.toList = true) (m : List UInt8) : hexDec s.data.toList = m ↔ s.data.toList = hexEnc m := by
  unfold pubOk at h
  rw [Bool.and_eq_true, decide_eq_true_eq] at h
  constructor
  · intro e; rw [← e, hexEnc_hexDec _ h.2 h.1.2.2]
  · intro e; rw [e, hexDec_hexEnc]

/-- Signatures and authorities that may be. -/
def hex64 (s : ByteArray) : Bool := decide (s.size = 64) && allHex s.data.toList
def sigOk (s : Sig2) : Bool := hex64 s.1 && pubOk s.2.data.toList
/-- What is wrong of IDs. -/
def idsErr (seen : List ByteArray) : List ByteArray → Int
  | [] => 0
  | x :: r => if hex64 x then (if hasId seen x then 7 else idsErr (seen ++ [x]) r) else 3
def authOk (t : Int) (ids : List ByteArray) : Bool := decide (1 ≤ ids.length ∧ ids.length ≤ 16 ∧ 1 ≤ t ∧ t ≤ ids.length) && decide (idsErr [] ids = 0)

/-- keyid, sig, signatures, signed -/
def nKeyid : ByteArray := ⟨#[107, 101, 121, 105, 100]⟩
def nSig : ByteArray := ⟨#[115, 105, 103]⟩
def nSigs : ByteArray := ⟨#[115, 105, 103, 110, 97, 116, 117, 114, 101, 115]⟩
def nSigned : ByteArray := ⟨#[115, 105, 103, 110, 101, 100]⟩
def sigJ (s : Sig2) : JV := .mk 5 0 ⟨#[]⟩ [nKeyid, nSig] [txtJ s.1, txtJ s.2]
def sigsJ (l : List Sig2) : JV := .mk 4 0 ⟨#[]⟩ [] (l.map sigJ)
def envJ (v : JV) (l : List Sig2) : JV := .mk 5 0 ⟨#[]⟩ [nSigs, nSigned] [sigsJ l, v]
def envOk (v : JV) (l : List Sig2) : Bool := decide (l.length ≤ 32 ∧ v.kind = 5) && (l.all sigOk && (envJ v l).mayB)
/-- How many keys of an authority have signed. -/
def hasV (v : Ver) (k : Key2) (id : ByteArray) (l : List Sig2) (m : List UInt8) : Bool := l.any fun s => decide (s.1 = id) && v.good k s m
def idV (v : Ver) (keys : List Key2) (l : List Sig2) (m : List UInt8) (id : ByteArray) : Bool := (findK id keys).2 && hasV v (findK id keys).1 id l m
def countV (v : Ver) (x : JV) (l : List Sig2) (t : Int) (ids : List ByteArray) (keys : List Key2) : Nat :=
  if authOk t ids = true ∧ envOk x l = true then (ids.filter (idV v keys l x.enc)).length else 0
def enoughV (v : Ver) (x : JV) (l : List Sig2) (t : Int) (ids : List ByteArray) (keys : List Key2) : Bool :=
  authOk t ids && decide (t ≤ countV v x l t ids keys)

end Go.Proofs.YtaekmmnpdbmoeaaGreatDoor

namespace Go.Proofs.YtaekmmnpdbmoeaaGreatDoor
open Go.RowKit

/-- The cells of bytes. -/
def bCells (l : List UInt8) : Array Value := (l.map fun c => Value.int .u8 (c.toNat : Int)).toArray
theorem bCells_size (l : List UInt8) : (bCells l).size = l.length := by simp [bCells]
theorem bCells_get (l : List UInt8) : ∀ j, j < l.length → (bCells l)[j]? = some (.int .u8 (byteI l j)) := by
  intro j hj
  simp only [bCells, List.getElem?_toArray, List.getElem?_map, List.getElem?_eq_getElem hj, Option.map_some, byteI, List.getD_eq_getElem?_getD, Option.getD_some]
theorem bCells_of {c : Array Value} {l : List UInt8} (hn : c.size = l.length) (hf : ∀ j, j < l.length → c[j]? = some (.int .u8 (byteI l j))) : c = bCells l := by
  apply Array.ext
  · rw [hn, bCells_size]
  · intro i h1 h2
    have := hf i (by omega)
    rw [← bCells_get l i (by omega), Array.getElem?_eq_getElem h1, Array.getElem?_eq_getElem h2] at this
    exact Option.some.inj this
theorem sizeA64 (w : World) : (Go.sizeOf 112).run Tryz.prog w = .ok 64 w := by kernel_rfl
theorem blk_byte {k r : List UInt8} (h : macBlk k = r ++ List.replicate (64 - r.length) 0) (j : Nat) : byteI (macBlk k) j = if j < r.length then byteI r j else 0 := by
  rw [h]
  unfold byteI
  by_cases hj : j < r.length
  · rw [if_pos hj, List.getD_eq_getElem?_getD, List.getElem?_append_left hj, ← List.getD_eq_getElem?_getD]
  · rw [if_neg hj, List.getD_eq_getElem?_getD, List.getElem?_append_right (by omega)]
    by_cases h2 : j - r.length < 64 - r.length
    · rw [List.getElem?_replicate, if_pos h2]; rfl
    · rw [List.getElem?_eq_none (by simp; omega)]; rfl

set_option maxRecDepth 100000 in
set_option maxHeartbeats 1000000 in
theorem macBlock (key : ByteArray) (w : World) (hs : key.size ≤ 1099511627000) (hT : Tabs w) :
    Calls Tryz.prog 72 #[.string key] w fun e w' => e = .returned (.agg (bCells (macBlk key.data.toList))) ∧ Below w.heap.size w w' := by
  have HT := Lib.hid hT; clear hT
  have HB0 := Lib.hid (show Below w.heap.size w ((w.alloc (.cells (Array.replicate 64 (.int .u8 0)) 112)).alloc (.cells (Array.replicate 64 (.int .u8 0)) 112)) from ((Below.refl _ _).alloc (Nat.le_refl _) _).alloc (by simp) _)
  have HR0 := Lib.hid (show ((w.alloc (.cells (Array.replicate 64 (.int .u8 0)) 112)).alloc (.cells (Array.replicate 64 (.int .u8 0)) 112)).rowIs w.heap.size 112 64 (fun _ => .int .u8 0) from (rowIs_rep w (.int .u8 0) 64 112 _ (fun _ _ => rfl)).alloc _)
  have HR1 := Lib.hid (show ((w.alloc (.cells (Array.replicate 64 (.int .u8 0)) 112)).alloc (.cells (Array.replicate 64 (.int .u8 0)) 112)).rowIs (w.heap.size + 1) 112 64 (fun _ => .int .u8 0) from by
    have := rowIs_rep (w.alloc (.cells (Array.replicate 64 (.int .u8 0)) 112)) (.int .u8 0) 64 112 (fun _ => .int .u8 0) (fun _ _ => rfl)
    rwa [show (w.alloc (.cells (Array.replicate 64 (.int .u8 0)) 112)).heap.size = w.heap.size + 1 by simp] at this)
  by_cases h64 : 64 < key.size
  · have HS := Lib.hid (shaSumF key _ hs (HT.out.below HB0.out).init (HT.out.below HB0.out).rounds (HT.out.below HB0.out).l2)
    obtain ⟨r, hr⟩ : ∃ r : ByteArray, r = ⟨(shaSum key.data.toList).toArray⟩ := ⟨_, rfl⟩
    have hrl : r.data.toList = shaSum key.data.toList := by rw [hr]
    have hrz : r.size = 32 := by rw [hr]; show (shaSum key.data.toList).toArray.size = 32; rw [List.size_toArray, shaSum_length]
    have HM := Lib.hid (show macBlk key.data.toList = r.data.toList ++ List.replicate (64 - r.data.toList.length) 0 by
      unfold macBlk; rw [if_pos (by rw [toList_length]; exact h64), hrl])
    rw [← hr] at HS
    have HN := Lib.hid (show r.size = Nat.min r.size 64 from (Nat.min_eq_left (by omega)).symm)
    have hr64 : r.size ≤ 64 := by omega
    clear hr hrl hrz
    go_enter Tryz.func72, Tryz.ntmps72
    go_wp2_with fail
    refine HS.out.mono ?_
    clear HS
    rintro e w1 ⟨rfl, hb1⟩
    have hz1 : w.heap.size + 2 ≤ w1.heap.size := by have := hb1.size; simp at this; omega
    have HRB := Lib.hid (below_row hb1 HR1.out HR1.out.lt)
    have HRR := Lib.hid (below_row hb1 HR0.out HR0.out.lt)
    have HB1 := Lib.hid (HB0.out.trans (hb1.mono (by simp; omega)))
    clear hb1
    go_wp2_with (with_reducible refine wpList_copy_str rfl (.tmp 9) (.tmp 10) 108 9 rfl 5 Tryz.underlying108 sizeU8 (w.heap.size + 1) 0 64 64 r rfl rfl 112 64 _ HRB.out r.size HN.out (by omega) ?_)
    intro w2 h1 h2
    have HW := Lib.hid (show w2.rowIs (w.heap.size + 1) 112 64 (fun j => .int .u8 (byteI (macBlk key.data.toList) j)) from h1.out.congr fun j hj => by
      rw [blk_byte HM.out]
      by_cases hjr : j < r.size
      · rw [if_pos (by omega), if_pos (by rw [toList_length]; exact hjr)]; rfl
      · rw [if_neg (by omega), if_neg (by rw [toList_length]; exact hjr)])
    have HRR2 := Lib.hid (h2.out.row HRR.out (by show ¬ w.heap.size = w.heap.size + 1; omega))
    have HB2 := Lib.hid (HB1.out.trans (h2.out.below (B := w.heap.size) (by omega) (fun k hk e => by omega)))
    clear h1 h2 HRB HRR HB1
    go_wp2_with (with_reducible refine wpList_load_rowIs rfl 112 (.tmp 3) rfl (w.heap.size + 1) 112 64 _ rfl HW.out _ Tryz.underlying112 rfl (by kernel_rfl) ?_)
    intro cs h3 h4
    go_wp2_with (with_reducible refine wpList_store_row rfl 112 (.tmp 2) (.tmp 12) rfl w.heap.size 112 64 _ _ rfl HRR2.out cs rfl h3.out h4.out (fun _ _ => rfl) sizeA64 ?_)
    intro w3 h5 h6
    have HB3 := Lib.hid (show Below w.heap.size w w3 from HB2.out.trans (h6.out.below (B := w.heap.size) HB2.out.size (fun k hk e => by omega)))
    obtain ⟨c, hc, hn, hf⟩ := h5.out
    have HC := Lib.hid hc
    have HCW := Lib.hid (show c = bCells (macBlk key.data.toList) from bCells_of (by rw [hn, macBlk_length]) (by rw [macBlk_length]; exact hf))
    have HNN := Lib.hid (show (Tryz.prog.info? 112).map (·.size) = some c.size by rw [hn]; kernel_rfl)
    clear hc hn hf h3 h4 h5 h6
    go_wp2
    refine bodyPost_ret (results_cell_row Tryz.results72 _ _ w.heap.size 112 _ (0, 0) _ rfl HC.out Tryz.underlying112 rfl HNN.out) rfl ⟨by rw [HCW.out], HB3.out⟩
  · have HM := Lib.hid (show macBlk key.data.toList = key.data.toList ++ List.replicate (64 - key.data.toList.length) 0 by
      unfold macBlk; rw [if_neg (by rw [toList_length]; exact h64)])
    have HN := Lib.hid (show key.size = Nat.min key.size 64 from (Nat.min_eq_left (by omega)).symm)
    have hr64 : key.size ≤ 64 := by omega
    go_enter Tryz.func72, Tryz.ntmps72
    go_wp2_with (refine wpList_copy_str rfl (.tmp 9) (.tmp 10) 108 9 rfl 5 Tryz.underlying108 sizeU8 (w.heap.size + 1) 0 64 64 key rfl rfl 112 64 _ HR1.out key.size HN.out (by omega) ?_)
    intro w2 h1 h2
    have HW := Lib.hid (show w2.rowIs (w.heap.size + 1) 112 64 (fun j => .int .u8 (byteI (macBlk key.data.toList) j)) from h1.out.congr fun j hj => by
      rw [blk_byte HM.out]
      by_cases hjr : j < key.size
      · rw [if_pos (by omega), if_pos (by rw [toList_length]; exact hjr)]; rfl
      · rw [if_neg (by omega), if_neg (by rw [toList_length]; exact hjr)])
    have HRR2 := Lib.hid (h2.out.row HR0.out (by show ¬ w.heap.size = w.heap.size + 1; omega))
    have HB2 := Lib.hid (HB0.out.trans (h2.out.below (B := w.heap.size) (by simp; omega) (fun k hk e => by omega)))
    clear h1 h2
    go_wp2_with (with_reducible refine wpList_load_rowIs rfl 112 (.tmp 3) rfl (w.heap.size + 1) 112 64 _ rfl HW.out _ Tryz.underlying112 rfl (by kernel_rfl) ?_)
    intro cs h3 h4
    go_wp2_with (with_reducible refine wpList_store_row rfl 112 (.tmp 2) (.tmp 12) rfl w.heap.size 112 64 _ _ rfl HRR2.out cs rfl h3.out h4.out (fun _ _ => rfl) sizeA64 ?_)
    intro w3 h5 h6
    have HB3 := Lib.hid (show Below w.heap.size w w3 from HB2.out.trans (h6.out.below (B := w.heap.size) HB2.out.size (fun k hk e => by omega)))
    obtain ⟨c, hc, hn, hf⟩ := h5.out
    have HC := Lib.hid hc
    have HCW := Lib.hid (show c = bCells (macBlk key.data.toList) from bCells_of (by rw [hn, macBlk_length]) (by rw [macBlk_length]; exact hf))
    have HNN := Lib.hid (show (Tryz.prog.info? 112).map (·.size) = some c.size by rw [hn]; kernel_rfl)
    clear hc hn hf h3 h4 h5 h6
    go_wp2
    refine bodyPost_ret (results_cell_row Tryz.results72 _ _ w.heap.size 112 _ (0, 0) _ rfl HC.out Tryz.underlying112 rfl HNN.out) rfl ⟨by rw [HCW.out], HB3.out⟩

/-- What the closures make of a byte. -/
theorem xor36 (c : UInt8) : bits BinOp.xor IntKind.u8 (c.toNat : Int) 54 = ((c ^^^ 0x36).toNat : Int) := by
  have : ∀ x : Fin 256, bits BinOp.xor IntKind.u8 ((UInt8.ofNat x.val).toNat : Int) 54 = ((UInt8.ofNat x.val ^^^ 0x36).toNat : Int) := by decide +kernel
  have h := this ⟨c.toNat, c.toNat_lt⟩
  simpa using h
theorem xor5c (c : UInt8) : bits BinOp.xor IntKind.u8 (c.toNat : Int) 92 = ((c ^^^ 0x5c).toNat : Int) := by
  have : ∀ x : Fin 256, bits BinOp.xor IntKind.u8 ((UInt8.ofNat x.val).toNat : Int) 92 = ((UInt8.ofNat x.val ^^^ 0x5c).toNat : Int) := by decide +kernel
  have h := this ⟨c.toNat, c.toNat_lt⟩
  simpa using h
theorem macOf1 (c : UInt8) (w : World) : Calls Tryz.prog 74 #[.int .u8 c.toNat] w fun e w' => e = .returned (.int .u8 ((c ^^^ 0x36).toNat : Int)) ∧ w = w' := by
  have HX := Lib.hid (xor36 c)
  go_enter Tryz.func74, Tryz.ntmps74
  go_wp2
  go_ret
  exact ⟨ret_int HX.out, rfl⟩
theorem macOf2 (c : UInt8) (w : World) : Calls Tryz.prog 75 #[.int .u8 c.toNat] w fun e w' => e = .returned (.int .u8 ((c ^^^ 0x5c).toNat : Int)) ∧ w = w' := by
  have HX := Lib.hid (xor5c c)
  go_enter Tryz.func75, Tryz.ntmps75
  go_wp2
  go_ret
  exact ⟨ret_int HX.out, rfl⟩

end Go.Proofs.YtaekmmnpdbmoeaaGreatDoor

namespace Go.Proofs.YtaekmmnpdbmoeaaGreatDoor
open Go.RowKit

theorem rotr_zero (x : Int) : rotr x 0 = x := by unfold rotr; simp
theorem rotr_succ (x : Int) (h : w32 x) (n : Nat) (hn : n < 32) : rotr x (n + 1) = rotr x n / 2 + rotr x n % 2 * 2147483648 := by
  obtain ⟨h0, _⟩ := h
  obtain ⟨X, rfl⟩ := Int.eq_ofNat_of_zero_le h0
  have e1 : (2 : Int) ^ (32 - n) = 2 * 2 ^ (32 - (n + 1)) := by
    rw [show 32 - n = (32 - (n + 1)) + 1 by omega, Int.pow_succ]; omega
  have e2 : (2 : Int) ^ (n + 1) = 2 * 2 ^ n := by rw [Int.pow_succ]; omega
  have e3 : (2 : Int) ^ n * 2 ^ (32 - (n + 1)) = 2147483648 := by rw [← Int.pow_add, show n + (32 - (n + 1)) = 31 by omega]; rfl
  unfold rotr
  rw [e1, e2]
  generalize hA : (2 : Int) ^ n = A at *
  generalize hB : (2 : Int) ^ (32 - (n + 1)) = B at *
  have hA0 : 0 < A := by rw [← hA]; exact Int.pow_pos (by omega)
  obtain ⟨q, hq⟩ : ∃ q, q = (X : Int) / A := ⟨_, rfl⟩
  have hm : (X : Int) % A = X - A * q := by rw [hq]; have := Int.emod_add_mul_ediv (X : Int) A; omega
  have hd : (X : Int) / (2 * A) = q / 2 := by rw [hq, Int.mul_comm 2 A, Int.ediv_ediv_of_nonneg (by omega)]
  have hm2 : (X : Int) % (2 * A) = X - 2 * A * (q / 2) := by have := Int.emod_add_mul_ediv (X : Int) (2 * A); rw [hd] at this; omega
  rw [hm2, hd, ← hq, hm]
  have f1 : ((X : Int) - A * q) * (2 * B) + q = 2 * (((X : Int) - A * q) * B) + q := by rw [← Int.mul_assoc, Int.mul_comm _ 2, Int.mul_assoc]
  rw [f1]
  have f2 : ((X : Int) - 2 * A * (q / 2)) * B = ((X : Int) - A * q) * B + (q % 2) * (A * B) := by
    have : q = 2 * (q / 2) + q % 2 := by omega
    have f3 : (X : Int) - 2 * A * (q / 2) = (X - A * q) + A * (q % 2) := by
      have g : A * q = A * (2 * (q / 2)) + A * (q % 2) := by rw [← Int.mul_add, ← this]
      have g2 : A * (2 * (q / 2)) = 2 * A * (q / 2) := by rw [← Int.mul_assoc, Int.mul_comm A 2]
      omega
    rw [f3, Int.add_mul, Int.mul_comm A (q % 2), Int.mul_assoc]
  rw [f2, e3]
  omega

set_option maxHeartbeats 400000 in
theorem refTurned (x : Int) (n : Nat) (w : World) (h : w32 x) (hn : n ≤ 31) :
    Calls Tryz.prog 119 #[.int .u32 x, .int .i64 n] w fun e w' => e = .returned (.int .u32 (rotr x n)) ∧ w = w' := by
  have HX := Lib.hid h
  clear h
  go_enter Tryz.func119, Tryz.ntmps119
  go_wp2
  go_loop [0, 5] (fun y i => ∃ k : Nat, k ≤ n ∧ i = .int .i64 k ∧ y = .int .u32 (rotr x k)) (fun _ i => n - (intOf i).toNat)
  case atStart => exact ⟨0, by omega, rfl, by rw [rotr_zero]⟩
  case round =>
    obtain ⟨k, hk, rfl, rfl⟩ := hrel
    obtain ⟨b1, b2⟩ := rotr_bd HX.out k (by omega)
    by_cases hlt : k < n
    · have HS := Lib.hid (rotr_succ x HX.out k (by omega))
      generalize rotr x k = y at *
      go_wp2
      go_round
      case rel => exact ⟨k + 1, by omega, by go_num, by rw [HS.out]⟩
      case measure => simp [intOf]; omega
    · obtain rfl : k = n := by omega
      go_wp2
      go_ret
      exact ⟨rfl, rfl⟩

set_option maxHeartbeats 400000 in
theorem refLow (x : Int) (n : Nat) (w : World) (h : w32 x) (hn : n ≤ 31) :
    Calls Tryz.prog 142 #[.int .u32 x, .int .i64 n] w fun e w' => e = .returned (.int .u32 (x / 2 ^ n)) ∧ w = w' := by
  obtain ⟨b1, b2⟩ := h
  go_enter Tryz.func142, Tryz.ntmps142
  go_wp2
  go_loop [0, 5] (fun y i => ∃ k : Nat, k ≤ n ∧ i = .int .i64 k ∧ y = .int .u32 (x / 2 ^ k)) (fun _ i => n - (intOf i).toNat)
  case atStart => exact ⟨0, by omega, rfl, by simp⟩
  case round =>
    obtain ⟨k, hk, rfl, rfl⟩ := hrel
    have c1 : 0 ≤ x / 2 ^ k := Int.ediv_nonneg b1 (by have := Int.pow_pos (n := 2) (m := k) (by omega); omega)
    have c2 : x / 2 ^ k < 4294967296 := by have := Int.ediv_le_self (2 ^ k) b1; omega
    by_cases hlt : k < n
    · have HS := Lib.hid (show x / 2 ^ (k + 1) = x / 2 ^ k / 2 by rw [Int.pow_succ, Int.ediv_ediv_of_nonneg (by have := Int.pow_pos (n := 2) (m := k) (by omega); omega)])
      generalize x / 2 ^ k = y at *
      go_wp2
      go_round
      case rel => exact ⟨k + 1, by omega, by go_num, by rw [HS.out]⟩
      case measure => simp [intOf]; omega
    · obtain rfl : k = n := by omega
      go_wp2
      go_ret
      exact ⟨rfl, rfl⟩

end Go.Proofs.YtaekmmnpdbmoeaaGreatDoor

namespace Go.Proofs.YtaekmmnpdbmoeaaGreatDoor
open Go.RowKit

/-- What Decode tells of digits: the error, the bytes. -/
def decE (l : List UInt8) : Int := if allHex l then (if l.length % 2 = 0 then 0 else 4) else 3
def decS (l : List UInt8) : List UInt8 := if decE l = 0 then hexDec l else []
theorem decE_ok {l : List UInt8} (h : allHex l = true) (h2 : l.length % 2 = 0) : decE l = 0 ∧ decS l = hexDec l := by
  have e : decE l = 0 := by unfold decE; rw [h, if_pos rfl, if_pos h2]
  exact ⟨e, by unfold decS; rw [if_pos e]⟩
theorem decE_odd {l : List UInt8} (h : allHex l = true) (h2 : l.length % 2 = 1) : decE l = 4 ∧ decS l = [] := by
  have e : decE l = 4 := by unfold decE; rw [h, if_pos rfl, if_neg (by omega)]
  exact ⟨e, by unfold decS; rw [if_neg (by rw [e]; decide)]⟩
theorem decE_no {l : List UInt8} (h : allHex l = false) : decE l = 3 ∧ decS l = [] := by
  have e : decE l = 3 := by unfold decE; rw [h]; rfl
  exact ⟨e, by unfold decS; rw [if_neg (by rw [e]; decide)]⟩
theorem dec_snoc (s : ByteArray) (k : Nat) (h : 2 * k + 1 < s.size) (a b : Int) (ha : a = hexN s[2 * k]) (hb : b = hexN s[2 * k + 1]) :
    Lib.byteCells (hexDec (s.data.toList.take (2 * (k + 1)))) = Lib.byteCells (hexDec (s.data.toList.take (2 * k))) ++ [.int .u8 (a * 16 + b)] := by
  subst ha hb
  have h1 := hexDec_snoc s.data.toList k (by rw [toList_length]; exact h)
  rw [show 2 * (k + 1) = 2 * k + 2 by omega, h1]
  have la := hexN_lt s[2 * k]
  have lb := hexN_lt s[2 * k + 1]
  rw [toList_get s (2 * k) (by omega), toList_get s (2 * k + 1) h]
  have e : ((UInt8.ofNat (16 * (hexN s[2 * k]).toNat + (hexN s[2 * k + 1]).toNat)).toNat : Int) = hexN s[2 * k] * 16 + hexN s[2 * k + 1] := by
    rw [UInt8.toNat_ofNat']; omega
  simp only [Lib.byteCells, List.map_append, List.map_cons, List.map_nil, e]
theorem or_nib {a b : Int} (ha : 0 ≤ a ∧ a < 16) (hb : 0 ≤ b ∧ b < 16) : bits BinOp.or IntKind.i64 (a * 16) b = a * 16 + b := by
  obtain ⟨n, rfl⟩ : ∃ n : Nat, a = n := ⟨a.toNat, by omega⟩
  obtain ⟨m, rfl⟩ : ∃ m : Nat, b = m := ⟨b.toNat, by omega⟩
  have : ∀ (x y : Fin 16), bits BinOp.or IntKind.i64 ((x.val : Int) * 16) (y.val : Int) = (x.val : Int) * 16 + (y.val : Int) := by decide +kernel
  exact this ⟨n, by omega⟩ ⟨m, by omega⟩

set_option maxRecDepth 100000 in
set_option maxHeartbeats 800000 in
theorem hexDecode (s : ByteArray) (w : World) (hs : s.size ≤ 1099511627776) :
    Calls Tryz.prog 45 #[.string s] w fun e w' => e = .returned (.tuple #[.string ⟨(decS s.data.toList).toArray⟩, .int .i64 (decE s.data.toList)]) ∧ Below w.heap.size w w' := by
  have HI := Lib.hid (hexIs s w (by omega))
  cases hx : allHex s.data.toList
  · rw [hx] at HI
    have HE := Lib.hid (decE_no hx)
    clear hx
    go_enter Tryz.func45, Tryz.ntmps45
    go_wp2_with fail
    refine HI.out.mono ?_
    rintro e w1 ⟨rfl, rfl⟩
    go_wp2
    go_ret2
    exact ⟨by rw [HE.out.1, HE.out.2] <;> rfl, Below.refl _ _⟩
  rw [hx] at HI
  by_cases h2 : s.size % 2 = 1
  · have HE := Lib.hid (decE_odd hx (by rw [toList_length]; exact h2))
    clear hx
    have hm : (s.size : Int).tmod 2 = 1 := by rw [Int.tmod_eq_emod_of_nonneg (by omega)]; omega
    go_enter Tryz.func45, Tryz.ntmps45
    go_wp2_with fail
    refine HI.out.mono ?_
    rintro e w1 ⟨rfl, rfl⟩
    go_wp2
    go_ret2
    exact ⟨by rw [HE.out.1, HE.out.2] <;> rfl, Below.refl _ _⟩
  have HE := Lib.hid (decE_ok hx (by rw [toList_length]; omega))
  clear hx
  have hm : (s.size : Int).tmod 2 = 0 := by rw [Int.tmod_eq_emod_of_nonneg (by omega)]; omega
  have h20 : s.size % 2 = 0 := by omega
  have H20 := Lib.hid h20
  clear h2 h20
  obtain ⟨i0, hi, hz0, hz1, hz2⟩ := info_parts infoU8
  have hq : (s.size : Int).tdiv 2 = ((s.size / 2 : Nat) : Int) := by rw [Int.tdiv_eq_ediv_of_nonneg (by omega)]; omega
  go_enter Tryz.func45, Tryz.ntmps45
  go_wp2_with fail
  refine HI.out.mono ?_
  rintro e w1 ⟨rfl, rfl⟩
  go_wp2_with (at_make; refine wpList_make_own _ rfl (.const (.int .i64 0)) (.tmp 19) 108 rfl w.heap.size 5 i0 (.int .u8 0) 1 Tryz.underlying108 hi hz0 hz1 .i64 .i64 _ (s.size / 2) rfl rfl ?hC ?b2 ?b3 (Nat.le_refl _) ?_)
  case hC => push_cast; rfl
  case b2 => rw [hz2]; omega
  case b3 => unfold maxLen; omega
  intro w1 hown hgrow
  have HB1 : Hid (Below w.heap.size w w1) := (Below.refl _ _).grown hgrow (Nat.le_refl _) (by simp)
  have HO1 := Lib.hid hown
  clear hown hgrow HI
  go_wp2
  go_loopw [4, 5, 6, 7, 8, 9] (fun v i _ _ _ _ wr => ∃ k : Nat, 2 * k ≤ s.size ∧ i = .int .i64 (2 * (k : Int)) ∧ wr.ownsRow w.heap.size 5 1 v k (Lib.byteCells (hexDec (s.data.toList.take (2 * k)))) ∧ Below w.heap.size w wr) (fun _ i _ _ _ _ _ => s.size - (intOf i).toNat)
  case atStart => exact ⟨0, by omega, rfl, by simpa [hexDec, Lib.byteCells] using HO1.out, HB1.out⟩
  case round =>
    clear HO1 HB1
    obtain ⟨k, hk, rfl, hown, hbel⟩ := hrel
    by_cases hlt : 2 * k < s.size
    · have hlt0 : 2 * k + 1 < s.size := by have := H20.out; omega
      have m0 : 2 * (k : Int) < (s.size : Int) := by omega
      have HO := Lib.hid hown; clear hown
      have HB := Lib.hid hbel; clear hbel
      have hD1 := hexDigit s (2 * k) wr hlt (by omega)
      have hD2 := hexDigit s (2 * k + 1) wr hlt0 (by omega)
      rw [show (((2 * k : Nat)) : Int) = 2 * (k : Int) by push_cast; rfl] at hD1
      rw [show (((2 * k + 1 : Nat)) : Int) = 2 * (k : Int) + 1 by push_cast; rfl] at hD2
      have la := hexN_lt s[2 * k]
      have lb := hexN_lt s[2 * k + 1]
      have HS := Lib.hid (dec_snoc s k hlt0)
      obtain ⟨a, ha⟩ : ∃ a, a = hexN s[2 * k] := ⟨_, rfl⟩
      obtain ⟨b, hb⟩ : ∃ b, b = hexN s[2 * k + 1] := ⟨_, rfl⟩
      rw [← ha] at hD1 la
      rw [← hb] at hD2 lb
      have HSS := Lib.hid (HS.out a b ha hb)
      have HD1 := Lib.hid hD1
      have HD2 := Lib.hid hD2
      clear hD1 hD2 ha hb HS
      go_wp2_with fail
      refine HD1.out.mono ?_
      clear HD1
      rintro e w1 ⟨rfl, rfl⟩
      go_wp2_with fail
      refine HD2.out.mono ?_
      clear HD2
      rintro e w1 ⟨rfl, rfl⟩
      have ho := or_nib la lb
      have hm8 : (a * 16 + b) % 256 = a * 16 + b := by omega
      go_wp2_with (at_builtin; refine wpList_append_own _ rfl (.tmp 40) (.tmp 46) 108 rfl w.heap.size 5 i0 (.int .u8 0) 1 1 Tryz.underlying108 hi hz0 hz1 hz2 rfl (by decide) _ k (Lib.byteCells (hexDec (s.data.toList.take (2 * k)))) rfl (HO.out.alloc _) ⟨wr.heap.size, 0, none⟩ 1 1 [.int .u8 (a * 16 + b)] rfl rfl ?c1 ?c2 ?c3 ?c4 ?c5 ?_)
      case c1 => exact cell_one_new _ _ _
      case c2 => intro u hu; simp at hu; subst hu; rfl
      case c3 => unfold maxLen; omega
      case c4 => omega
      case c5 => have := HB.out.size; simp; omega
      intro v' w6 hown' hgrow _
      have HO2 := Lib.hid hown'; clear hown'
      have HG := Lib.hid hgrow; clear hgrow ho hm8
      go_wp2
      go_roundw
      case rel =>
        refine ⟨k + 1, by omega, by go_num, ?_, ?_⟩
        · rw [HSS.out]; exact HO2.out
        · exact (HB.out.alloc (by have := HB.out.size; omega) _).grown HG.out (by have := HB.out.size; simp; omega) (fun g hg => (HO.out.lt g hg).1)
      case measure => simp [intOf]; omega
    · have hks : 2 * k = s.size := by omega
      have hcv := run_convert_owned (P := Tryz.prog) 108 9 5 Tryz.underlying108 Tryz.underlying5 Tryz.underlying9 hown
      rw [List.take_of_length_le (by rw [toList_length]; omega)] at hcv
      have HB := Lib.hid hbel
      clear hown hbel
      go_wp2
      go_ret2
      exact ⟨by rw [HE.out.1, HE.out.2] <;> rfl, HB.out⟩

end Go.Proofs.YtaekmmnpdbmoeaaGreatDoor

namespace Go.Proofs.YtaekmmnpdbmoeaaGreatDoor
open Go.RowKit Go.Maps

/-- A map of counts in which each text of a row has 1, any other one nothing. -/
def SeenD (D : DataW Unit) (l : List ByteArray) : Prop := ∀ s : ByteArray, D.atKey (.string s.data.toList) (.lit (.int .i64 0)) = .lit (.int .i64 (if hasId l s then 1 else 0))
theorem seen_nil : SeenD (.map []) [] := fun _ => rfl
theorem seen_put {D : DataW Unit} {l : List ByteArray} {x : ByteArray} (h : SeenD D l) (hD : IsMap D) : SeenD (D.put (.string x.data.toList) (.lit (.int .i64 1))) (l ++ [x]) := fun s => by
  by_cases e : s = x
  · subst e
    rw [atKey_put_same hD (by simp [WideAt.IsKeyLit])]
    rw [if_pos ((hasId_iff _ _).2 (by simp))]
  · rw [atKey_put_other (fun e' => e (by
      have e2 : s.data.toList = x.data.toList := by injection e'
      exact ba_ext (by rw [ByteArray.toList_eq, ByteArray.toList_eq]; exact e2))), h s]
    have : hasId (l ++ [x]) s = hasId l s := by
      rw [Bool.eq_iff_iff, hasId_iff, hasId_iff]
      simp [e]
    rw [this]

end Go.Proofs.YtaekmmnpdbmoeaaGreatDoor

namespace Go.Proofs.YtaekmmnpdbmoeaaGreatDoor
open Go.RowKit Go.WideMaps Go.Maps

theorem strKeyed : Keyed Tryz.prog 9 := string_keyed Tryz.underlying9
theorem zeroInt (w : World) : (zeroValue 3).run Tryz.prog w = .ok (.int .i64 0) w := by kernel_rfl
theorem idsErr_step (l : List ByteArray) (k : Nat) (h : k < l.length) : idsErr (l.take k) (l.drop k) = if hex64 l[k] then (if hasId (l.take k) l[k] then 7 else idsErr (l.take (k + 1)) (l.drop (k + 1))) else 3 := by
  rw [List.drop_eq_getElem_cons h, idsErr, List.take_succ_eq_append_getElem h]

set_option maxHeartbeats 1000000 in
set_option maxRecDepth 100000 in
theorem authWrong (l : List ByteArray) (a : Option Addr) (c : Nat) (w : World) (hS : StrsAt w 0 w.heap.size a l) (hl : l.length ≤ 1000) (hs : ∀ s ∈ l, s.size ≤ 1000000) :
    Calls Tryz.prog 59 #[.slice a l.length c] w fun e w' => e = .returned (.int .i64 (idsErr [] l)) ∧ Below w.heap.size w w' := by
  have HS := Lib.hid hS
  have HZ := Lib.hid hs
  clear hS hs
  have hmm := @run_makeMap Tryz.prog
  go_enter Tryz.func59, Tryz.ntmps59
  go_wp2
  go_loopw [5, 9] (fun _ i wr => ∃ (k : Nat) (D : DataW Unit), k ≤ l.length ∧ i = .int .i64 k ∧ idsErr [] l = idsErr (l.take k) (l.drop k) ∧ SeenD D (l.take k) ∧ wr.ownsMap Tryz.prog 9 (plainElem (H := Unit) Tryz.prog 3) w.heap.size k D ∧ Below w.heap.size w wr) (fun _ i _ => l.length - (intOf i).toNat)
  case atStart => exact ⟨0, .map [], by omega, rfl, rfl, seen_nil, World.ownsMap_made _ _ _ _, (Below.refl _ _).alloc (Nat.le_refl _) _⟩
  case round =>
    obtain ⟨k, D, hk, rfl, hid, hD, hown, hbel⟩ := hrel
    have HID := Lib.hid hid
    have HD := Lib.hid hD
    have HB := Lib.hid hbel
    clear hid hD
    by_cases hlt : k < l.length
    · obtain ⟨b, off, ha, _, hb, e0⟩ := (HS.out.below hbel (Nat.le_refl _) (Nat.le_refl _) hbel.size).at k hlt
      subst ha
      have HST := Lib.hid (idsErr_step l k hlt)
      have hsz := HZ.out l[k] (List.getElem_mem hlt)
      have HSN := Lib.hid (seen_put (x := l[k]) HD.out (hown.isMap))
      have HSE := Lib.hid (HD.out l[k])
      have htk : l.take (k + 1) = l.take k ++ [l[k]] := List.take_succ_eq_append_getElem hlt
      have HTK := Lib.hid htk
      have HI := Lib.hid (hexIs l[k] wr (by omega))
      obtain ⟨x, hx⟩ : ∃ x, x = l[k] := ⟨_, rfl⟩
      rw [← hx] at e0 HST hsz HSN HSE HTK HI
      have hkey : keyOf Tryz.prog 9 (.string x) = some (.string x.data.toList) := keyOf_string_mk Tryz.underlying9 (by unfold maxLen; omega)
      obtain ⟨hb64, hhb⟩ : ∃ q, q = allHex x.data.toList := ⟨_, rfl⟩
      rw [← hhb] at HI
      have HX := Lib.hid (show hex64 x = (decide (x.size = 64) && hb64) by unfold hex64; rw [hhb])
      clear hx hbel hhb htk
      obtain ⟨sn, hsn⟩ : ∃ sn, sn = hasId (l.take k) x := ⟨_, rfl⟩
      rw [← hsn] at HST HSE
      clear hsn
      have m0 : (k : Int) < (l.length : Int) := by omega
      by_cases h64 : x.size = 64
      · have hd : ((x.size : Int) != 64) = false := by simp; omega
        rw [decide_eq_true h64, Bool.true_and] at HX
        cases hb64
        · clear h64
          go_wp2_with fail
          refine HI.out.mono ?_
          rintro e w1 ⟨rfl, rfl⟩
          go_wp2
          go_ret
          exact ⟨ret_int (by rw [HID.out, HST.out, HX.out]; rfl), HB.out⟩
        · clear h64
          have HHX := Lib.hid (show hex64 x = true from HX.out)
          obtain ⟨cnt, hrun, hat, _⟩ := hown.lookup_int strKeyed Tryz.underlying130 Tryz.underlying3 (zeroInt _) hkey
          rw [HSE.out] at hat
          have HCN := Lib.hid (show cnt = if sn = true then 1 else 0 by
            simp only [DataW.lit.injEq, Lit.int.injEq, true_and] at hat; exact hat.symm)
          clear hat
          cases sn
          · obtain rfl : cnt = 0 := HCN.out
            have HO := Lib.hid hown
            clear hown
            go_wp2_with (first | (go_at_call 57; refine HI.out.mono ?_; rintro e w1 ⟨rfl, rfl⟩) | (at_mapUpdate; refine wpList_mapUpdate_own _ rfl _ _ _ 130 rfl 9 3 strKeyed Tryz.underlying130 _ w.heap.size k _ rfl HO.out (by unfold maxLen; omega) _ _ _ rfl rfl hkey _ [] (plainElem_int Tryz.underlying3 (by decide)) ?_; intro w1 hown1 hgrow1) | go_in)
            have HO1 := Lib.hid hown1
            have HG1 := Lib.hid hgrow1
            clear hown1 hgrow1 hrun
            go_wp2
            go_roundw
            case rel =>
              exact ⟨k + 1, _, by omega, by go_num, by rw [HID.out, HST.out, HHX.out]; rfl, by rw [HTK.out]; exact HSN.out, HO1.out, HB.out.grown HG1.out HB.out.size (fun j hj => by cases hj; exact Nat.le_refl _)⟩
            case measure => simp [intOf]; omega
          · obtain rfl : cnt = 1 := HCN.out
            clear hown
            go_wp2_with (go_at_call 57; refine HI.out.mono ?_; rintro e w1 ⟨rfl, rfl⟩)
            go_ret
            exact ⟨ret_int (by rw [HID.out, HST.out, HHX.out]; rfl), HB.out⟩
      · have hd : ((x.size : Int) != 64) = true := by simp; omega
        rw [decide_eq_false h64, Bool.false_and] at HX
        clear h64 HI
        go_wp2
        go_ret
        exact ⟨ret_int (by rw [HID.out, HST.out, HX.out]; rfl), HB.out⟩
    · have HF := Lib.hid (show idsErr [] l = 0 by
        rw [HID.out, List.drop_eq_nil_of_le (by omega)]; rfl)
      clear hown hbel
      go_wp2
      go_ret
      exact ⟨ret_int HF.out.symm, HB.out⟩

theorem authOk_no {t : Int} {l : List ByteArray} (h : ¬ (1 ≤ l.length ∧ l.length ≤ 16 ∧ 1 ≤ t ∧ t ≤ l.length)) : authOk t l = false := by
  unfold authOk; rw [decide_eq_false h]; rfl
theorem authOk_in {t : Int} {l : List ByteArray} (h : 1 ≤ l.length ∧ l.length ≤ 16 ∧ 1 ≤ t ∧ t ≤ l.length) : authOk t l = (idsErr [] l == 0) := by
  unfold authOk; rw [decide_eq_true h, Bool.true_and, Bool.eq_iff_iff, decide_eq_true_eq, beq_iff_eq]

set_option maxHeartbeats 1000000 in
set_option maxRecDepth 100000 in
theorem authMay (t : Int) (l : List ByteArray) (a : Option Addr) (c : Nat) (w : World) (hS : StrsAt w 0 w.heap.size a l) (hs : ∀ s ∈ l, s.size ≤ 1000000) :
    Calls Tryz.prog 32 #[.agg #[.int .i64 t, .slice a l.length c]] w fun e w' => e = .returned (.bool (authOk t l)) ∧ Below w.heap.size w w' := by
  have HB0 := Lib.hid (show Below w.heap.size w (w.alloc (.cells #[.int .i64 t, .slice a l.length c] 49)) from (Below.refl _ _).alloc (Nat.le_refl _) _)
  have HA := Lib.hid (fun h16 : l.length ≤ 16 => authWrong l a c _ (hS.below HB0.out (Nat.le_refl _) (Nat.le_refl _) (by simp)) (by omega) hs)
  clear hS hs
  by_cases h1 : l.length < 1
  · have HF := Lib.hid (authOk_no (t := t) (l := l) (by omega))
    have d1 : decide ((l.length : Int) < 1) = true := by simp; omega
    go_enter Tryz.func32, Tryz.ntmps32
    go_wp2
    go_ret
    exact ⟨ret_bool HF.out.symm, HB0.out⟩
  have d1 : decide ((l.length : Int) < 1) = false := by simp; omega
  by_cases h2 : 16 < l.length
  · have HF := Lib.hid (authOk_no (t := t) (l := l) (by omega))
    have d2 : decide (16 < (l.length : Int)) = true := by simp; omega
    go_enter Tryz.func32, Tryz.ntmps32
    go_wp2
    go_ret
    exact ⟨ret_bool HF.out.symm, HB0.out⟩
  have d2 : decide (16 < (l.length : Int)) = false := by simp; omega
  by_cases h3 : t < 1
  · have HF := Lib.hid (authOk_no (t := t) (l := l) (by omega))
    have d3 : decide (t < 1) = true := by simp; omega
    go_enter Tryz.func32, Tryz.ntmps32
    go_wp2
    go_ret
    exact ⟨ret_bool HF.out.symm, HB0.out⟩
  have d3 : decide (t < 1) = false := by simp; omega
  by_cases h4 : (l.length : Int) < t
  · have HF := Lib.hid (authOk_no (t := t) (l := l) (by omega))
    have d4 : decide ((l.length : Int) < t) = true := by simp; omega
    go_enter Tryz.func32, Tryz.ntmps32
    go_wp2
    go_ret
    exact ⟨ret_bool HF.out.symm, HB0.out⟩
  have d4 : decide ((l.length : Int) < t) = false := by simp; omega
  have HF := Lib.hid (authOk_in (t := t) (l := l) (by omega))
  have HW := Lib.hid (HA.out (by omega))
  clear HA
  obtain ⟨E, hE⟩ : ∃ E, E = idsErr [] l := ⟨_, rfl⟩
  rw [← hE] at HF HW
  clear hE
  go_enter Tryz.func32, Tryz.ntmps32
  go_wp2_with fail
  refine HW.out.mono ?_
  rintro e w1 ⟨rfl, hb1⟩
  have HB1 := Lib.hid (HB0.out.trans (hb1.mono (by simp)))
  clear hb1
  go_wp2
  go_ret
  exact ⟨ret_bool HF.out.symm, HB1.out⟩

set_option maxHeartbeats 400000 in
theorem authHas (t : Int) (l : List ByteArray) (id : ByteArray) (a : Option Addr) (c : Nat) (w : World) (hS : StrsAt w 0 w.heap.size a l) (hl : l.length ≤ 9223372036854775807) :
    Calls Tryz.prog 31 #[.agg #[.int .i64 t, .slice a l.length c], .string id] w fun e w' => e = .returned (.bool (l.any fun i => decide (i = id))) ∧ Below w.heap.size w w' := by
  have HB0 := Lib.hid (show Below w.heap.size w (w.alloc (.cells #[.int .i64 t, .slice a l.length c] 49)) from (Below.refl _ _).alloc (Nat.le_refl _) _)
  have HC := Lib.hid (show Calls Tryz.prog 58 #[.slice a l.length c, .string id] (w.alloc (.cells #[.int .i64 t, .slice a l.length c] 49)) (fun e w' => e = .returned (.bool (l.any fun i => decide (i = id))) ∧ w' = w.alloc (.cells #[.int .i64 t, .slice a l.length c] 49)) by
    rcases hS.below HB0.out (Nat.le_refl _) (Nat.le_refl _) (by simp : w.heap.size ≤ (w.alloc (.cells #[.int .i64 t, .slice a l.length c] 49)).heap.size) with h | ⟨b, off, rfl, _, hb, hc⟩
    · subst h
      refine (Tryz.slices_Contains_string_empty a c id _).mono ?_
      rintro e w' ⟨rfl, rfl⟩
      exact ⟨rfl, rfl⟩
    · refine (Tryz.slices_Contains_string b off l.length c l id _ (Nat.le_refl _) hl (fun j hj => ?_)).mono ?_
      · rw [hc j hj, List.getD_eq_getElem?_getD, List.getElem?_eq_getElem hj]; rfl
      · rintro e w' ⟨rfl, rfl⟩
        refine ⟨?_, rfl⟩
        rw [List.take_length]
        have : Lib.containsS l id = l.any fun i => decide (i = id) := by
          rw [Bool.eq_iff_iff, Lib.containsS_iff, List.any_eq_true]
          simp
        rw [this])
  clear hS
  generalize (l.any fun i => decide (i = id)) = r at HC ⊢
  go_enter Tryz.func31, Tryz.ntmps31
  go_wp2_with fail
  refine HC.out.mono ?_
  rintro e w1 ⟨rfl, rfl⟩
  go_wp2
  go_ret
  exact ⟨rfl, HB0.out⟩

end Go.Proofs.YtaekmmnpdbmoeaaGreatDoor

namespace Go.Proofs.YtaekmmnpdbmoeaaGreatDoor
open Go.RowKit

theorem idsErr_zero : ∀ (l seen : List ByteArray), idsErr seen l = 0 ↔ (∀ x ∈ l, hex64 x = true) ∧ l.Nodup ∧ ∀ x ∈ l, x ∉ seen
  | [], seen => by simp [idsErr]
  | x :: r, seen => by
    rw [idsErr]
    by_cases h1 : hex64 x = true
    · rw [if_pos h1]
      by_cases h2 : hasId seen x = true
      · rw [if_pos h2]
        rw [hasId_iff] at h2
        constructor
        · intro h; cases h
        · intro ⟨_, _, h⟩; exact absurd h2 (h x (by simp))
      · rw [if_neg h2, idsErr_zero r]
        rw [hasId_iff] at h2
        constructor
        · intro ⟨a, b, c⟩
          refine ⟨fun y hy => ?_, ?_, fun y hy => ?_⟩
          · rcases List.mem_cons.1 hy with rfl | hy
            · exact h1
            · exact a y hy
          · rw [List.nodup_cons]
            exact ⟨fun hx => c x hx (by simp), b⟩
          · rcases List.mem_cons.1 hy with rfl | hy
            · exact h2
            · exact fun hs => c y hy (by simp [hs])
        · intro ⟨a, b, c⟩
          rw [List.nodup_cons] at b
          refine ⟨fun y hy => a y (by simp [hy]), b.2, fun y hy hs => ?_⟩
          rcases List.mem_append.1 hs with hs | hs
          · exact c y (by simp [hy]) hs
          · rw [List.mem_singleton] at hs
            subst hs; exact b.1 hy
    · rw [if_neg h1]
      constructor
      · intro h; cases h
      · intro ⟨h, _⟩; exact absurd (h x (by simp)) h1
theorem authOk_iff (t : Int) (ids : List ByteArray) : authOk t ids = true ↔ (1 ≤ ids.length ∧ ids.length ≤ 16 ∧ 1 ≤ t ∧ t ≤ ids.length) ∧ (∀ x ∈ ids, hex64 x = true) ∧ ids.Nodup := by
  unfold authOk
  rw [Bool.and_eq_true, decide_eq_true_eq, decide_eq_true_eq, idsErr_zero]
  constructor
  · intro ⟨a, b, c, _⟩; exact ⟨a, b, c⟩
  · intro ⟨a, b, c⟩; exact ⟨a, b, c, fun _ _ h => by cases h⟩
theorem authOk_perm {t : Int} {l m : List ByteArray} (h : l.Perm m) : authOk t l = authOk t m := by
  rw [Bool.eq_iff_iff, authOk_iff, authOk_iff, h.length_eq, h.nodup_iff]
  constructor
  · intro ⟨a, b, c⟩; exact ⟨a, fun x hx => b x (h.symm.subset hx), c⟩
  · intro ⟨a, b, c⟩; exact ⟨a, fun x hx => b x (h.subset hx), c⟩

/-- What has signed hangs on which signatures there are, not on their row. -/
theorem hasV_ext {v : Ver} {k : Key2} {id : ByteArray} {l m : List Sig2} {s : List UInt8} (h : ∀ x, x ∈ l ↔ x ∈ m) : hasV v k id l s = hasV v k id m s := by
  unfold hasV
  rw [Bool.eq_iff_iff, List.any_eq_true, List.any_eq_true]
  constructor
  · intro ⟨x, hx, hp⟩; exact ⟨x, (h x).1 hx, hp⟩
  · intro ⟨x, hx, hp⟩; exact ⟨x, (h x).2 hx, hp⟩
theorem filter_perm_len {p : ByteArray → Bool} {l m : List ByteArray} (h : l.Perm m) : (l.filter p).length = (m.filter p).length := (h.filter p).length_eq
theorem countV_le (v : Ver) (x : JV) (l : List Sig2) (t : Int) (ids : List ByteArray) (keys : List Key2) : countV v x l t ids keys ≤ ids.length := by
  unfold countV
  split
  · exact List.length_filter_le _ _
  · exact Nat.zero_le _

/-- An envelope's object. -/
theorem hex64_txt {s : ByteArray} (h : hex64 s = true) : txtOk s = true := by
  unfold hex64 allHex at h
  simp only [Bool.and_eq_true, decide_eq_true_eq] at h
  exact txtOk_plain (fun c hc => plain_hex (List.all_eq_true.1 h.2 c hc)) (by omega)
theorem pub_txt {s : ByteArray} (h : pubOk s.data.toList = true) : txtOk s = true := by
  have h4 := pub_plain h
  rw [toList_length] at h4
  exact txtOk_plain h4.1 (by omega)
theorem env_names : txtOk nKeyid = true ∧ txtOk nSig = true ∧ txtOk nSigs = true ∧ txtOk nSigned = true ∧ rises [nKeyid, nSig] = true ∧ rises [nSigs, nSigned] = true := by
  refine ⟨txtOk_plain ?_ (by decide), txtOk_plain ?_ (by decide), txtOk_plain ?_ (by decide), txtOk_plain ?_ (by decide), ?_, ?_⟩
  · intro c hc; unfold plainC; revert c; decide
  · intro c hc; unfold plainC; revert c; decide
  · intro c hc; unfold plainC; revert c; decide
  · intro c hc; unfold plainC; revert c; decide
  · unfold rises rises; rw [ByteArray.toList_eq, ByteArray.toList_eq]; decide
  · unfold rises rises; rw [ByteArray.toList_eq, ByteArray.toList_eq]; decide
theorem txtJ_part {s : ByteArray} (h : txtOk s = true) : (txtJ s).partB = true ∧ (txtJ s).count = 1 ∧ (txtJ s).depth = 0 := by
  unfold txtJ
  refine ⟨?_, rfl, rfl⟩
  rw [JV.partB]
  simp [JV.partsB, properB, h]
theorem sigJ_part {s : Sig2} (h : sigOk s = true) : (sigJ s).partB = true ∧ (sigJ s).count = 3 ∧ (sigJ s).depth = 1 := by
  unfold sigOk at h
  rw [Bool.and_eq_true] at h
  obtain ⟨a1, a2, a3⟩ := txtJ_part (hex64_txt h.1)
  obtain ⟨b1, b2, b3⟩ := txtJ_part (pub_txt h.2)
  obtain ⟨e1, e2, _, _, e5, _⟩ := env_names
  unfold sigJ
  refine ⟨?_, ?_, ?_⟩
  · rw [JV.partB]
    simp [JV.partsB, a1, b1, properB, e1, e2, e5]
  · rw [JV.count]; simp [JV.counts, a2, b2]
  · rw [JV.depth]; simp [JV.depths, a3, b3]
theorem sigs_part : ∀ {l : List Sig2}, (∀ s ∈ l, sigOk s = true) → JV.partsB (l.map sigJ) = true ∧ JV.counts (l.map sigJ) = 3 * l.length ∧ JV.depths (l.map sigJ) ≤ 1
  | [], _ => ⟨rfl, rfl, Nat.zero_le _⟩
  | s :: r, h => by
    obtain ⟨a1, a2, a3⟩ := sigJ_part (h s (by simp))
    obtain ⟨b1, b2, b3⟩ := sigs_part (l := r) fun x hx => h x (by simp [hx])
    simp only [List.map_cons, JV.partsB, JV.counts, JV.depths, a1, a2, a3, b1, b2, List.length_cons]
    exact ⟨rfl, by omega, by omega⟩
theorem envJ_may {v : JV} {l : List Sig2} (h : ∀ s ∈ l, sigOk s = true) (hv : v.kind = 5) : (envJ v l).mayB = true ↔ v.partB = true ∧ 2 + 3 * l.length + v.count ≤ 8192 ∧ v.depth ≤ 11 := by
  obtain ⟨b1, b2, b3⟩ := sigs_part h
  obtain ⟨_, _, e3, e4, _, e6⟩ := env_names
  have p1 : (sigsJ l).partB = true := by unfold sigsJ; rw [JV.partB]; simp [b1, properB]
  have p2 : (sigsJ l).count = 1 + 3 * l.length := by unfold sigsJ; rw [JV.count, b2]
  have p3 : (sigsJ l).depth ≤ 2 := by unfold sigsJ; rw [JV.depth, if_neg (by simp)]; omega
  have dv : 1 ≤ v.depth := by rw [JV.depth_eq, if_neg (by simp [hv])]; omega
  have e : properB 5 0 { data := #[] } [nSigs, nSigned] [sigsJ l, v].length = true := by simp [properB, e3, e4, e6]
  have q1 : (envJ v l).partB = v.partB := by unfold envJ; rw [JV.partB, e]; simp [JV.partsB, p1]
  have q2 : (envJ v l).count = 2 + 3 * l.length + v.count := by unfold envJ; rw [JV.count]; simp only [JV.counts, p2]; omega
  have q3 : (envJ v l).depth = max (sigsJ l).depth v.depth + 1 := by unfold envJ; rw [JV.depth, if_neg (by simp)]; simp [JV.depths]
  rw [JV.mayB_iff, q1, q2, q3]
  simp only [Bool.and_eq_true, decide_eq_true_eq]
  constructor
  · intro ⟨⟨a, b⟩, c⟩; exact ⟨a, by omega, by omega⟩
  · intro ⟨a, b, c⟩; exact ⟨⟨a, by omega⟩, by omega⟩
theorem envOk_iff (v : JV) (l : List Sig2) : envOk v l = true ↔ l.length ≤ 32 ∧ v.kind = 5 ∧ (∀ s ∈ l, sigOk s = true) ∧ v.partB = true ∧ 2 + 3 * l.length + v.count ≤ 8192 ∧ v.depth ≤ 11 := by
  unfold envOk
  rw [Bool.and_eq_true, Bool.and_eq_true, decide_eq_true_eq, List.all_eq_true]
  constructor
  · intro ⟨⟨a, b⟩, c, d⟩; exact ⟨a, b, c, (envJ_may c b).1 d⟩
  · intro ⟨a, b, c, d⟩; exact ⟨⟨a, b⟩, c, (envJ_may c b).2 d⟩
theorem envOk_may {v : JV} {l : List Sig2} (h : envOk v l = true) : v.mayB = true := by
  obtain ⟨_, _, _, d, e, f⟩ := (envOk_iff v l).1 h
  rw [JV.mayB_iff, d, decide_eq_true (by omega), decide_eq_true (by omega)]; rfl
theorem envOk_perm {v : JV} {l m : List Sig2} (h : l.Perm m) : envOk v l = envOk v m := by
  rw [Bool.eq_iff_iff, envOk_iff, envOk_iff, h.length_eq]
  constructor
  · intro ⟨a, b, c, d⟩; exact ⟨a, b, fun x hx => c x (h.symm.subset hx), d⟩
  · intro ⟨a, b, c, d⟩; exact ⟨a, b, fun x hx => c x (h.subset hx), d⟩
theorem envOk_less {v : JV} {l m : List Sig2} (h : envOk v m = true) (hs : ∀ x ∈ l, x ∈ m) (hl : l.length ≤ m.length) : envOk v l = true := by
  rw [envOk_iff] at h ⊢
  obtain ⟨a, b, c, d, e, f⟩ := h
  exact ⟨by omega, b, fun x hx => c x (hs x hx), d, by omega, f⟩

theorem keyHit_iff (id : ByteArray) (k : Key2) : keyHit id k = true ↔ ok2 k = true ∧ id2 k = id := by
  unfold keyHit ok2
  rw [Bool.and_eq_true]
  constructor
  · intro ⟨a, b⟩; exact ⟨a, ba_ext (eq_of_beq b)⟩
  · intro ⟨a, b⟩; refine ⟨a, ?_⟩; rw [← b]; exact beq_self_eq_true _
theorem findK_some {id : ByteArray} : ∀ {l : List Key2}, (findK id l).2 = true → (findK id l).1 ∈ l ∧ ok2 (findK id l).1 = true ∧ id2 (findK id l).1 = id
  | [], h => by cases h
  | k :: r, h => by
    rw [findK] at h ⊢
    by_cases hk : keyHit id k = true
    · rw [if_pos hk]
      obtain ⟨a, b⟩ := (keyHit_iff id k).1 hk
      exact ⟨by simp, a, b⟩
    · rw [if_neg hk] at h ⊢
      obtain ⟨a, b⟩ := findK_some h
      exact ⟨by simp [a], b⟩
theorem findK_none {id : ByteArray} : ∀ {l : List Key2}, (findK id l).2 = false → ∀ k ∈ l, keyHit id k = false
  | [], _, k, hk => by cases hk
  | k :: r, h, x, hx => by
    rw [findK] at h
    by_cases hk : keyHit id k = true
    · rw [if_pos hk] at h; cases h
    · rw [if_neg hk] at h
      rcases List.mem_cons.1 hx with rfl | hx
      · simpa using hk
      · exact findK_none h x hx
theorem filter_ext {p q : ByteArray → Bool} {l : List ByteArray} (h : ∀ x ∈ l, p x = q x) : (l.filter p).length = (l.filter q).length := by
  rw [List.filter_congr h]

/-- JudgeWho. -/
theorem who_keys {v : Ver} {x : JV} {l : List Sig2} {t : Int} {ids : List ByteArray} {k : Key2} {keys : List Key2} (h : ok2 k = true → id2 k ∉ ids) : countV v x l t ids (k :: keys) = countV v x l t ids keys := by
  unfold countV
  split
  · refine filter_ext fun id hid => ?_
    have : keyHit id k = false := by
      cases hk : keyHit id k
      · rfl
      · obtain ⟨a, b⟩ := (keyHit_iff id k).1 hk
        exact absurd (b ▸ hid) (h a)
    unfold idV
    rw [findK, this]
    rfl
  · rfl
theorem who_ids {v : Ver} {x : JV} {l : List Sig2} {t : Int} {ids : List ByteArray} {id : ByteArray} {keys : List Key2} (h : (findK id keys).2 = false) (h1 : authOk t ids = true) (h2 : authOk t (ids ++ [id]) = true) : countV v x l t (ids ++ [id]) keys = countV v x l t ids keys := by
  unfold countV
  rw [h1, h2]
  split
  · rw [List.filter_append, List.length_append]
    have : idV v keys l x.enc id = false := by unfold idV; rw [h]; rfl
    simp [this]
  · rfl
/-- JudgeRows. -/
theorem rows_same {v : Ver} {x : JV} {l m : List Sig2} {t : Int} {ids ids' : List ByteArray} {keys : List Key2} (h1 : envOk x l = envOk x m) (h2 : ∀ s, s ∈ l ↔ s ∈ m) (h3 : ids.Perm ids') : countV v x l t ids keys = countV v x m t ids' keys := by
  unfold countV
  rw [h1, authOk_perm h3]
  split
  · rw [filter_perm_len h3]
    exact filter_ext fun id _ => by unfold idV; rw [hasV_ext h2]
  · rfl
theorem enough_same {v : Ver} {x : JV} {l m : List Sig2} {t : Int} {ids ids' : List ByteArray} {keys keys' : List Key2} (h1 : countV v x l t ids keys = countV v x m t ids' keys') (h2 : ids.Perm ids') : enoughV v x l t ids keys = enoughV v x m t ids' keys' := by
  unfold enoughV
  rw [h1, authOk_perm h2]

/-- JudgeTable. -/
def dig (m : List UInt8) : ByteArray := ⟨(shaHex m).toArray⟩
theorem tab_yes {x : JV} {l : List Sig2} {t : Int} {ids : List ByteArray} {keys : List Key2} (he : envOk x l = true) (ha : authOk t ids = true) :
    countV (.tab (l.map fun s => (s.1, s.2, dig x.enc))) x l t ids keys = (ids.filter fun id => (findK id keys).2 && l.any fun s => decide (s.1 = id)).length := by
  unfold countV
  rw [if_pos ⟨ha, he⟩]
  refine filter_ext fun id _ => ?_
  unfold idV
  cases hf : (findK id keys).2
  · rfl
  · obtain ⟨_, hok, hid⟩ := findK_some hf
    rw [Bool.true_and, Bool.true_and]
    unfold hasV
    rw [Bool.eq_iff_iff, List.any_eq_true, List.any_eq_true]
    constructor
    · intro ⟨s, hs, h⟩
      rw [Bool.and_eq_true] at h
      exact ⟨s, hs, h.1⟩
    · intro ⟨s, hs, h⟩
      refine ⟨s, hs, ?_⟩
      rw [decide_eq_true_eq] at h
      have hsok := ((envOk_iff x l).1 he).2.2.1 s hs
      unfold sigOk at hsok
      rw [Bool.and_eq_true] at hsok
      unfold Ver.good
      rw [hsok.2, hok, decide_eq_true h, decide_eq_true (h.trans hid.symm)]
      simp only [Bool.true_and]
      unfold Ver.by
      rw [List.any_eq_true]
      exact ⟨_, List.mem_map.2 ⟨s, hs, rfl⟩, by simp [dig]⟩
theorem tab_no {x : JV} {l : List Sig2} {L : List Ver3} {t : Int} {ids : List ByteArray} {keys : List Key2} (h : ∀ v ∈ L, v.2.2 ≠ dig x.enc) : countV (.tab L) x l t ids keys = 0 := by
  unfold countV
  split
  · rw [List.length_eq_zero_iff, List.filter_eq_nil_iff]
    intro id _ hi
    unfold idV at hi
    rw [Bool.and_eq_true] at hi
    obtain ⟨_, hi⟩ := hi
    unfold hasV at hi
    rw [List.any_eq_true] at hi
    obtain ⟨s, _, hs⟩ := hi
    unfold Ver.good Ver.by at hs
    simp only [Bool.and_eq_true, List.any_eq_true, decide_eq_true_eq] at hs
    obtain ⟨_, _, _, _, v, hv, _, _, e⟩ := hs
    exact h v hv e
  · rfl

end Go.Proofs.YtaekmmnpdbmoeaaGreatDoor
