/- snap.Value: what its loop has made so far; the contract's parts in plain words. -/
import Derived.Test.YtgghgcilpfdbjaaGreatDoorSy24
import Derived.Test.YtgghgcilpfdbjaaGreatDoorSy17
import Derived.Test.YtgghgcilpfdbjaaGreatDoorSy16
import Derived.Test.YtgghgcilpfdbjaaGreatDoorSy06
import Derived.Test.YtgghgcilpfdbjaaGreatDoorSy09
import Derived.Test.YtgghgcilpfdbjaaGreatDoorSy02

namespace Go.Proofs.YtgghgcilpfdbjaaGreatDoor
open Go.RowKit Go.Shelf Go.Sort
theorem sortTo (g cap : Nat) (d d' : Array Mem) (w : World) (hH : HoldsK encM 6 w g 0 d) (hg : g < w.heap.size) (hn : d.size ≤ 4294967296) (hp : d'.toList.Perm d.toList) (hr : RisesM d') :
   Calls Tryz.prog 85 #[.slice (some ⟨g, 0, none⟩) d.size cap, .func (.func 86) #[] #[]] w fun e w' => e = .returned (.tuple #[]) ∧ HoldsK encM 6 w' g 0 d' ∧ Touch (· = g) w w' := by
 have eg : ∀ args w, (callFunc 86 args).run Tryz.prog w = .ok (.enter 86 args) w := enters_of Tryz.func86 (by kernel_rfl) rfl
 have hcon := AnyQ.slices_SortFunc sortMember 6 Tryz.isAgg74 Tryz.sizeOf74 encM encM_len encM_one cfM swoMM 86 #[] g 0 cap d w eg (fun _ _ _ _ x y => cmpMember x y _) hH hg (by omega)
 refine hcon.mono ?_
 rintro e w' ⟨rfl, e', n, os, hpe, hs, rfl⟩
 have hsz : d'.size = d.size := by simpa using hp.length_eq
 have hd : e' = d' := sorted_rises hr (by
   have := hpe.2.2
   have e1 : e'.extract 0 d.size = e' := by rw [← hpe.1]; simp
   have e2 : d.extract 0 d.size = d := by simp
   rw [e1, e2] at this
   exact this.trans hp.symm) (fun i j hij hj => by
   have := hs i j (Nat.zero_le _) hij (by omega)
   rwa [lt_blM] at this)
 subst hd
 exact ⟨rfl, holdsK_grow encM 6 _ _ _ _ _ (by simp [putRowK, Go.Sort.ahead]; exact hg) (holdsK_putRowK encM 6 _ _ _ _ _ (holdsK_ahead encM 6 _ _ _ _ _ hH) hpe.1), touch_sortWorld⟩
theorem pickObjectOfP (d d' : Array Mem) (its : List JV) (blk off cap : Nat) (w : World) (lo hi : Nat) (hH : HoldsK encM 6 w blk off d) (hblk : blk < w.heap.size) (hn : d.size ≤ 4294967296) (hp : d'.toList.Perm d.toList) (hr : RisesM d')
   (hl : d'.size = its.length) (hm : ∀ i (h : i < its.length), Rep w lo hi its[i] d'[i]!.val ∧ its[i].wt ≤ 4294967296 ∧ ∀ k (h' : k < its[i].items.length), Seen lo its[i].items[k])
   (hhi : hi ≤ w.heap.size) :
   Calls Tryz.prog 42 #[.slice (some ⟨blk, off, none⟩) d.size cap] w (ObjPost (d'.toList.map (·.name)) its w) :=
 pickObjectOfS d d' its blk off cap w lo hi hH hblk hn (by simpa using hp.length_eq) (fun g cap1 w1 hH1 hg1 => sortTo g cap1 d d' w1 hH1 hg1 hn hp hr) hl hm (fun i h e => by
   have := hr i (i + 1) h (by omega)
   rw [getElem!_pos d' i (by omega), getElem!_pos d' (i + 1) h] at e
   rw [e, bl_irrefl] at this; cases this) hhi
def MembG (W0 : Nat) (w : World) (v : Value) (N : List NJ) : Prop :=
 ∃ ms, MemsAt W0 w v ms (N.map (·.2)) ∧ ms.map (·.name) = N.map (·.1)
theorem MembG.below {W0 : Nat} {w w' : World} {v : Value} {N : List NJ} (h : MembG W0 w v N) (hb : Below w.heap.size w w') : MembG W0 w' v N := by
 obtain ⟨ms, h1, h2⟩ := h
 exact ⟨ms, h1.below hb, h2⟩
theorem MembG.len {W0 : Nat} {w : World} {v : Value} {N : List NJ} (h : MembG W0 w v N) : ∃ ms, MemsAt W0 w v ms (N.map (·.2)) ∧ ms.map (·.name) = N.map (·.1) ∧ ms.length = N.length := by
 obtain ⟨ms, h1, h2⟩ := h
 exact ⟨ms, h1, h2, by have := congrArg List.length h2; simpa using this⟩
theorem perm_lift {α β : Type} (f : α → β) : ∀ {M L : List β}, M.Perm L → ∀ Z : List α, Z.map f = L → ∃ Z' : List α, Z'.Perm Z ∧ Z'.map f = M := by
 intro M L h
 induction h with
 | nil => intro Z hZ; exact ⟨Z, .refl _, by simpa using hZ⟩
 | @cons x l1 l2 h ih =>
   intro Z hZ
   cases Z with
   | nil => simp at hZ
   | cons z zs =>
     simp only [List.map_cons, List.cons.injEq] at hZ
     obtain ⟨Z', h1, h2⟩ := ih zs hZ.2
     exact ⟨z :: Z', h1.cons z, by simp [h2, hZ.1]⟩
 | @swap x y l =>
   intro Z hZ
   cases Z with
   | nil => simp at hZ
   | cons z zs =>
     cases zs with
     | nil => simp at hZ
     | cons z2 zs =>
       simp only [List.map_cons, List.cons.injEq] at hZ
       exact ⟨z2 :: z :: zs, .swap _ _ _, by simp [hZ]⟩
 | @trans l1 l2 l3 h1 h2 ih1 ih2 =>
   intro Z hZ
   obtain ⟨Z2, a, b⟩ := ih2 Z hZ
   obtain ⟨Z1, c, d⟩ := ih1 Z2 b
   exact ⟨Z1, c.trans a, d⟩
theorem rises_mem {ms : List Mem} {ns : List ByteArray} (h : rises ns = true) (hn : ms.map (·.name) = ns) : RisesM ms.toArray := by
 subst hn
 intro i j hj hij
 have hj' : j < ms.length := by simpa using hj
 have hs := rises_lts _ h i j (by simp; omega) (by simp; omega) hij
 simp only [List.getElem_toArray]
 unfold bl
 simpa using hs
theorem objOfG {W0 : Nat} {w : World} {v : Value} {N : List NJ} (M : List NJ) (hM : MembG W0 w v N) (hg : ∃ g cap, v = .slice (some ⟨g, 0, none⟩) N.length cap) (hp : M.Perm N) (hr : rises (M.map (·.1)) = true) (hl : N.length ≤ 4294967296) (hw : ∀ p ∈ M, p.2.wt ≤ 4294967296) (h0 : 0 < W0) :
   Calls Tryz.prog 42 #[v] w (ObjPost (M.map (·.1)) (M.map (·.2)) w) := by
 obtain ⟨ms, hms, hn, hlen⟩ := hM.len
 obtain ⟨g, cap, rfl⟩ := hg
 have hzl : (N.zip ms).length = N.length := by simp [hlen]
 obtain ⟨Z, hZp, hZm⟩ := perm_lift (fun z : NJ × Mem => z.1) hp (N.zip ms) (by rw [List.map_fst_zip]; omega)
 have hin : ∀ z ∈ Z, z.2.name = z.1.1 ∧ Rep w W0 w.heap.size z.1.2 z.2.val := fun z hz => by
   obtain ⟨i, hi, rfl⟩ := List.getElem_of_mem (hZp.mem_iff.1 hz)
   have hi' : i < N.length := by omega
   rw [List.getElem_zip]
   have e1 := List.getElem_of_eq hn (i := i) (by simp; omega)
   simp only [List.getElem_map] at e1
   obtain ⟨lo, hi2, h1, h2, _, hr⟩ := hms.reps i (by simp; omega)
   simp only [List.getElem_map] at hr
   exact ⟨e1, Rep.carry h1 h2 (fun _ _ _ => rfl) _ _ hr⟩
 have hlZ : Z.length = N.length := by rw [hZp.length_eq, hzl]
 have hlM : M.length = Z.length := by rw [← hZm, List.length_map]
 have hown := hms.own
 rw [← hlen] at hown
 have hH : g < w.heap.size ∧ HoldsK encM 6 w g 0 ms.toArray := by
   rcases Nat.eq_zero_or_pos ms.length with h | h
   · rcases hown.2 with ⟨hv, _⟩ | ⟨g', cap', cur, hv, hg, hh, hc, hm, hs, ht⟩
     · cases hv
     · cases hv
       refine ⟨heap_lt hh, fun j hj => ?_⟩
       simp [h] at hj
   · obtain ⟨g', cap', hv, hlt, hH⟩ := holds_own hown h
     cases hv
     exact ⟨hlt, hH⟩
 have hnm : (Z.map (·.2)).map (·.name) = M.map (·.1) := by
   rw [List.map_map, ← hZm, List.map_map]
   exact List.map_congr_left fun z hz => (hin z hz).1
 have hms2 : ((N.zip ms).map (·.2)) = ms := by rw [List.map_snd_zip]; omega
 have := pickObjectOfP ms.toArray (Z.map (·.2)).toArray (M.map (·.2)) g 0 cap w W0 w.heap.size hH.2 hH.1 (by simp; omega) (by
     have := hZp.map (·.2)
     rw [hms2] at this
     simpa using this) (rises_mem hr hnm) (by simp [hlM]) (fun i hi => ?_) (Nat.le_refl _)
 · rw [show ((Z.map (·.2)).toArray.toList.map (·.name)) = M.map (·.1) from hnm] at this
   rw [show ms.toArray.size = N.length by simp [hlen]] at this
   exact this
 · have hi' : i < Z.length := by have := hi; simp at this; omega
   have hiM : i < M.length := by omega
   have eM : M[i] = Z[i].1 := by
     have := List.getElem_of_eq hZm (i := i) (by simpa using hi')
     simpa using this.symm
   obtain ⟨_, hr⟩ := hin Z[i] (List.getElem_mem hi')
   refine ⟨?_, ?_, fun k _ => .inl h0⟩
   · rw [getElem!_pos _ i (by simpa using hi')]
     simp only [List.getElem_toArray, List.getElem_map]
     rw [eM]
     exact hr
   · rw [List.getElem_map]
     exact hw _ (List.getElem_mem hiM)
theorem year_top (f y d : Nat) : yearN f y d ≤ y + f := by
 induction f generalizing y with
 | zero => exact Nat.le_refl _
 | succ f ih =>
   unfold yearN
   split
   · have := ih (y + 1); omega
   · omega
theorem month_top (y f m d : Nat) : (monthN y f m d).1 ≤ m + f ∧ (monthN y f m d).2 ≤ d := by
 induction f generalizing m d with
 | zero => exact ⟨Nat.le_refl _, Nat.le_refl _⟩
 | succ f ih =>
   unfold monthN
   split
   · have := ih (m + 1) (d - daysN y m); omega
   · exact ⟨by omega, Nat.le_refl _⟩
theorem pad_top (n wd : Nat) (hn : n ≤ 9223372036854775806) (hw : wd ≤ 4) : (padL n wd).length ≤ 40 := by
 unfold padL
 have := Lib.itoa_length_le (n : Int) (by omega) (by omega)
 simp only [List.length_append, List.length_replicate]
 omega
theorem dateL_short (n : Nat) (h : n ≤ 253402300799) : (dateL n).length ≤ 1000 := by
 unfold dateL
 have h1 := year_top 8030 1970 (n / 86400)
 have h2 := month_top (yearN 8030 1970 (n / 86400)) 12 1 (n / 86400 - startN (yearN 8030 1970 (n / 86400)))
 have a1 := pad_top (yearN 8030 1970 (n / 86400)) 4 (by omega) (by decide)
 have a2 := pad_top (monthN (yearN 8030 1970 (n / 86400)) 12 1 (n / 86400 - startN (yearN 8030 1970 (n / 86400)))).1 2 (by omega) (by decide)
 have a3 := pad_top ((monthN (yearN 8030 1970 (n / 86400)) 12 1 (n / 86400 - startN (yearN 8030 1970 (n / 86400)))).2 + 1) 2 (by omega) (by decide)
 have a4 := pad_top (n % 86400 / 3600) 2 (by omega) (by decide)
 have a5 := pad_top (n % 86400 / 60 % 60) 2 (by omega) (by decide)
 have a6 := pad_top (n % 86400 % 60) 2 (by omega) (by decide)
 simp only [List.length_append, List.length_cons, List.length_nil]
 omega
def SnapValPost (s : SnapV) (w : World) (e : Ending) (w' : World) : Prop :=
 ∃ an cn ai ci, e = .returned (.tuple #[.agg #[.int .u8 5, .int .i64 0, .string { data := #[] }, .slice an 4 cn, .slice ai 4 ci], .int .i64 0]) ∧
   Rep w' w.heap.size w'.heap.size (snapJ s) (.agg #[.int .u8 5, .int .i64 0, .string { data := #[] }, .slice an 4 cn, .slice ai 4 ci]) ∧ Below w.heap.size w w'
def PinsMade (l : List PinV) : Prop := ∀ p ∈ l, ∀ ha hc w, KeysAt w 0 w.heap.size ha p.hs → Calls Tryz.prog 27 #[.agg #[.string p.name, .int .i64 p.ver, .int .i64 p.len, .slice ha p.hs.length hc]] w (PinValPost p w)
def MembsAt (W0 : Nat) (w : World) (v : Value) (l : List PinV) (k : Nat) : Prop :=
 (∃ g cap, v = .slice (some ⟨g, 0, none⟩) k cap) ∧ ∃ ms, MemsAt W0 w v ms ((l.take k).map pinJ) ∧ ms.map (·.name) = (l.take k).map (·.name)
theorem holds_some {W0 : Nat} {w : World} {g cap : Nat} {ms : List Mem} (ho : w.ownsRow W0 74 6 (.slice (some ⟨g, 0, none⟩) ms.length cap) ms.length (flatM ms)) : g < w.heap.size ∧ HoldsK encM 6 w g 0 ms.toArray := by
 rcases Nat.eq_zero_or_pos ms.length with h | h
 · rcases ho.2 with ⟨hv, _⟩ | ⟨g', cap', cur, hv, hg, hh, hc, hm, hs, ht⟩
   · cases hv
   · cases hv
     refine ⟨heap_lt hh, fun j hj => ?_⟩
     simp [h] at hj
 · obtain ⟨g', cap', hv, hlt, hH⟩ := holds_own ho h
   cases hv
   exact ⟨hlt, hH⟩
theorem rises_bl {l : List PinV} (h : rises (l.map (·.name)) = true) {ms : List Mem} (hn : ms.map (·.name) = l.map (·.name)) : RisesM ms.toArray := by
 intro i j hj hij
 have hl : ms.length = l.length := by have := congrArg List.length hn; simpa using this
 have hj' : j < ms.length := by simpa using hj
 have hs := rises_lts _ h i j (by simp; omega) (by simp; omega) hij
 have e : ∀ q (hq : q < ms.length), ms[q].name = l[q].name := fun q hq => by
   have := List.getElem_of_eq hn (i := q) (by simpa using hq)
   simpa using this
 simp only [List.getElem_toArray]
 unfold bl
 rw [e i (by omega), e j hj']
 simpa using hs
theorem metaObj {l : List PinV} (h : rises (l.map (·.name)) = true) (hl : l.length ≤ 256) (hw : ∀ p ∈ l, (pinJ p).wt ≤ 4294967296) {W0 : Nat} (h0 : 0 < W0) {w : World} {v : Value} (hM : MembsAt W0 w v l l.length) :
   Calls Tryz.prog 42 #[v] w (ObjPost (l.map (·.name)) (l.map pinJ) w) := by
 obtain ⟨⟨g, cap, rfl⟩, ms, hms, hn⟩ := hM
 rw [List.take_length] at hms hn
 have hlen : ms.length = l.length := by have := congrArg List.length hn; simpa using this
 have hown := hms.own
 rw [← hlen] at hown ⊢
 obtain ⟨hlt, hH⟩ := holds_some hown
 have := pickObjectOfR ms.toArray (l.map pinJ) g 0 cap w W0 w.heap.size hH hlt (by simp; omega) (rises_bl h hn) (by simp [hlen]) (fun i hi => ?_) (Nat.le_refl _)
 · rw [show (ms.toArray.toList.map (·.name)) = l.map (·.name) by simpa using hn] at this
   simpa using this
 · have hi' : i < l.length := by simpa using hi
   obtain ⟨lo, hi2, h1, h2, _, hr⟩ := hms.reps i hi
   refine ⟨?_, ?_, fun k _ => .inl h0⟩
   · rw [getElem!_pos ms.toArray i (by simp; omega)]
     simp only [List.getElem_toArray]
     exact Rep.carry h1 h2 (fun _ _ _ => rfl) _ _ hr
   · rw [List.getElem_map]
     exact hw _ (List.getElem_mem hi')
theorem ins_four (a b c d : Mem) (h1 : ltOf cfM b a = false) (h2 : ltOf cfM c b = true) (h3 : ltOf cfM c a = false) (h4 : ltOf cfM d b = true) (h5 : ltOf cfM d c = false) : insertionSort (ltOf cfM) #[a, b, c, d] 0 4 = #[a, c, d, b] := by
 unfold insertionSort insOuter
 rw [if_pos (by decide)]
 unfold insOuter
 rw [if_pos (by decide)]
 unfold insOuter
 rw [if_pos (by decide)]
 unfold insOuter
 rw [if_neg (by decide)]
 have s1 : insInner (ltOf cfM) 0 (0 + 1) #[a, b, c, d] = #[a, b, c, d] := by
   unfold insInner
   have e : (decide (0 + 1 > 0) && ltOf cfM #[a, b, c, d][0 + 1]! #[a, b, c, d][0]!) = false := by simpa using h1
   rw [e]; rfl
 have s2 : insInner (ltOf cfM) 0 (0 + 1 + 1) #[a, b, c, d] = #[a, c, b, d] := by
   unfold insInner
   have e : (decide (0 + 1 + 1 > 0) && ltOf cfM #[a, b, c, d][0 + 1 + 1]! #[a, b, c, d][0 + 1]!) = true := by simpa using h2
   rw [if_pos e]
   have f : swp #[a, b, c, d] (0 + 1 + 1) (0 + 1) = #[a, c, b, d] := rfl
   rw [f]
   unfold insInner
   have e : (decide (0 + 1 > 0) && ltOf cfM #[a, c, b, d][0 + 1]! #[a, c, b, d][0]!) = false := by simpa using h3
   rw [e]; rfl
 have s3 : insInner (ltOf cfM) 0 (0 + 1 + 1 + 1) #[a, c, b, d] = #[a, c, d, b] := by
   unfold insInner
   have e : (decide (0 + 1 + 1 + 1 > 0) && ltOf cfM #[a, c, b, d][0 + 1 + 1 + 1]! #[a, c, b, d][0 + 1 + 1]!) = true := by simpa using h4
   rw [if_pos e]
   have f : swp #[a, c, b, d] (0 + 1 + 1 + 1) (0 + 1 + 1) = #[a, c, d, b] := rfl
   rw [f]
   unfold insInner
   have e : (decide (0 + 1 + 1 > 0) && ltOf cfM #[a, c, d, b][0 + 1 + 1]! #[a, c, d, b][0 + 1]!) = false := by simpa using h5
   rw [e]; rfl
 rw [s1, s2, s3]
def snapMs (n : Int) (t : ByteArray) (an : Option Addr) (nn cn : Nat) (ai : Option Addr) (ni ci : Nat) : Array Mem := #[memT typN snpN, memN verN n, memT expN t, ⟨metN, 5, 0, { data := #[] }, an, nn, cn, ai, ni, ci⟩]
theorem objSnap (n : Int) (t : ByteArray) (m : JV) (an : Option Addr) (cn : Nat) (ai : Option Addr) (ci : Nat) (blk cap : Nat) (w : World) (lo hi : Nat) (_hk : m.kind = 5 ∧ m.n = 0 ∧ m.t = { data := #[] }) (hlo : 0 < lo) (hhi : hi ≤ w.heap.size) (ht : t.size ≤ 4294967000) (hwt : m.wt ≤ 4294967296)
   (hR : Rep w lo hi m (.agg #[.int .u8 5, .int .i64 0, .string { data := #[] }, .slice an m.names.length cn, .slice ai m.items.length ci]))
   (hH : HoldsK encM 6 w blk 0 (snapMs n t an m.names.length cn ai m.items.length ci)) (hb : blk < w.heap.size) :
   Calls Tryz.prog 42 #[.slice (some ⟨blk, 0, none⟩) 4 cap] w (ObjPost [typN, expN, metN, verN] [txtJ snpN, txtJ t, m, numJ n] w) := by
 refine pickObjectOf (snapMs n t an m.names.length cn ai m.items.length ci) #[memT typN snpN, memT expN t, ⟨metN, 5, 0, { data := #[] }, an, m.names.length, cn, ai, m.items.length, ci⟩, memN verN n] [txtJ snpN, txtJ t, m, numJ n] blk 0 cap w lo hi hH hb (by simp [snapMs]) ?_ rfl ?_ ?_ hhi
 · unfold snapMs
   refine ins_four _ _ _ _ ?_ ?_ ?_ ?_ ?_
   · show decide (Lib.compareBytes verN.data.toList typN.data.toList < 0) = false; decide
   · show decide (Lib.compareBytes expN.data.toList verN.data.toList < 0) = true; decide
   · show decide (Lib.compareBytes expN.data.toList typN.data.toList < 0) = false; decide
   · show decide (Lib.compareBytes metN.data.toList verN.data.toList < 0) = true; decide
   · show decide (Lib.compareBytes metN.data.toList expN.data.toList < 0) = false; decide
 · intro i hi
   match i, hi with
   | 0, _ => exact ⟨rep_txt _ _ _ _, by simp [txtJ, JV.wt, JV.wts, bytesSum, snpN, ByteArray.size], fun k h => by simp [txtJ, JV.items] at h⟩
   | 1, _ => exact ⟨rep_txt _ _ _ _, by simp [txtJ, JV.wt, JV.wts, bytesSum]; omega, fun k h => by simp [txtJ, JV.items] at h⟩
   | 2, _ => exact ⟨hR, hwt, fun k h => .inl hlo⟩
   | 3, _ => exact ⟨rep_num _ _ _ _, by simp [numJ, JV.wt, JV.wts, bytesSum, ByteArray.size], fun k h => by simp [numJ, JV.items] at h⟩
 · intro i hi
   have : i = 0 ∨ i = 1 ∨ i = 2 := by simp at hi; omega
   rcases this with rfl | rfl | rfl
   · show typN ≠ expN; decide
   · show expN ≠ metN; decide
   · show metN ≠ verN; decide
end Go.Proofs.YtgghgcilpfdbjaaGreatDoor
