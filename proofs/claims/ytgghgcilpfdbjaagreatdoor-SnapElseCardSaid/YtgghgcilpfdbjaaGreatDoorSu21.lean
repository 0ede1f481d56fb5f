/- The contract of pick.ObjectOf, of members whatever their names, whatever copy value.Copy makes of each value. -/
import Derived.Test.YtgghgcilpfdbjaaGreatDoorSu17
import Derived.Test.YtgghgcilpfdbjaaGreatDoorSu20
import Derived.Test.YtgghgcilpfdbjaaGreatDoorSu07
import Derived.Test.YtgghgcilpfdbjaaGreatDoorSu10
import Derived.Test.YtgghgcilpfdbjaaGreatDoorSu02
import Derived.Test.YtgghgcilpfdbjaaGreatDoorSu13
import Derived.Test.YtgghgcilpfdbjaaGreatDoorSu15

namespace Go.Proofs.YtgghgcilpfdbjaaGreatDoor
open Go.RowKit Go.Shelf Go.Sort
theorem year_top (f y d : Nat) : yearN f y d ≤ y + f := by
 induction f generalizing y with
 | zero => exact Nat.le_refl _
 | succ f ih =>
   unfold yearN
   split
   · have := ih (y + 1); omega
   · omega
theorem month_top (y f m d : Nat) : (monthN y f m d).1 ≤ m + f ∧ (monthN y f m d).2 ≤ d := by
 induction f generalizing m d with
 | zero => exact ⟨Nat.le_refl _, Nat.le_refl _⟩
 | succ f ih =>
   unfold monthN
   split
   · have := ih (m + 1) (d - daysN y m); omega
   · exact ⟨by omega, Nat.le_refl _⟩
theorem pad_top (n wd : Nat) (hn : n ≤ 9223372036854775806) (hw : wd ≤ 4) : (padL n wd).length ≤ 40 := by
 unfold padL
 have := Lib.itoa_length_le (n : Int) (by omega) (by omega)
 simp only [List.length_append, List.length_replicate]
 omega
theorem dateL_short (n : Nat) (h : n ≤ 253402300799) : (dateL n).length ≤ 1000 := by
 unfold dateL
 have h1 := year_top 8030 1970 (n / 86400)
 have h2 := month_top (yearN 8030 1970 (n / 86400)) 12 1 (n / 86400 - startN (yearN 8030 1970 (n / 86400)))
 have a1 := pad_top (yearN 8030 1970 (n / 86400)) 4 (by omega) (by decide)
 have a2 := pad_top (monthN (yearN 8030 1970 (n / 86400)) 12 1 (n / 86400 - startN (yearN 8030 1970 (n / 86400)))).1 2 (by omega) (by decide)
 have a3 := pad_top ((monthN (yearN 8030 1970 (n / 86400)) 12 1 (n / 86400 - startN (yearN 8030 1970 (n / 86400)))).2 + 1) 2 (by omega) (by decide)
 have a4 := pad_top (n % 86400 / 3600) 2 (by omega) (by decide)
 have a5 := pad_top (n % 86400 / 60 % 60) 2 (by omega) (by decide)
 have a6 := pad_top (n % 86400 % 60) 2 (by omega) (by decide)
 simp only [List.length_append, List.length_cons, List.length_nil]
 omega
def SnapValPost (s : SnapV) (w : World) (e : Ending) (w' : World) : Prop :=
 ∃ an cn ai ci, e = .returned (.tuple #[.agg #[.int .u8 5, .int .i64 0, .string { data := #[] }, .slice an 4 cn, .slice ai 4 ci], .int .i64 0]) ∧
   Rep w' w.heap.size w'.heap.size (snapJ s) (.agg #[.int .u8 5, .int .i64 0, .string { data := #[] }, .slice an 4 cn, .slice ai 4 ci]) ∧ Below w.heap.size w w'
def PinsMade (l : List PinV) : Prop := ∀ p ∈ l, ∀ ha hc w, KeysAt w 0 w.heap.size ha p.hs → Calls Tryz.prog 27 #[.agg #[.string p.name, .int .i64 p.ver, .int .i64 p.len, .slice ha p.hs.length hc]] w (PinValPost p w)
def MembsAt (W0 : Nat) (w : World) (v : Value) (l : List PinV) (k : Nat) : Prop :=
 (∃ g cap, v = .slice (some ⟨g, 0, none⟩) k cap) ∧ ∃ ms, MemsAt W0 w v ms ((l.take k).map pinJ) ∧ ms.map (·.name) = (l.take k).map (·.name)
theorem holds_some {W0 : Nat} {w : World} {g cap : Nat} {ms : List Mem} (ho : w.ownsRow W0 74 6 (.slice (some ⟨g, 0, none⟩) ms.length cap) ms.length (flatM ms)) : g < w.heap.size ∧ HoldsK encM 6 w g 0 ms.toArray := by
 rcases Nat.eq_zero_or_pos ms.length with h | h
 · rcases ho.2 with ⟨hv, _⟩ | ⟨g', cap', cur, hv, hg, hh, hc, hm, hs, ht⟩
   · cases hv
   · cases hv
     refine ⟨heap_lt hh, fun j hj => ?_⟩
     simp [h] at hj
 · obtain ⟨g', cap', hv, hlt, hH⟩ := holds_own ho h
   cases hv
   exact ⟨hlt, hH⟩
theorem rises_bl {l : List PinV} (h : rises (l.map (·.name)) = true) {ms : List Mem} (hn : ms.map (·.name) = l.map (·.name)) : RisesM ms.toArray := by
 intro i j hj hij
 have hl : ms.length = l.length := by have := congrArg List.length hn; simpa using this
 have hj' : j < ms.length := by simpa using hj
 have hs := rises_lts _ h i j (by simp; omega) (by simp; omega) hij
 have e : ∀ q (hq : q < ms.length), ms[q].name = l[q].name := fun q hq => by
   have := List.getElem_of_eq hn (i := q) (by simpa using hq)
   simpa using this
 simp only [List.getElem_toArray]
 unfold bl
 rw [e i (by omega), e j hj']
 simpa using hs
theorem metaObj {l : List PinV} (h : rises (l.map (·.name)) = true) (hl : l.length ≤ 256) (hw : ∀ p ∈ l, (pinJ p).wt ≤ 4294967296) {W0 : Nat} (h0 : 0 < W0) {w : World} {v : Value} (hM : MembsAt W0 w v l l.length) :
   Calls Tryz.prog 42 #[v] w (ObjPost (l.map (·.name)) (l.map pinJ) w) := by
 obtain ⟨⟨g, cap, rfl⟩, ms, hms, hn⟩ := hM
 rw [List.take_length] at hms hn
 have hlen : ms.length = l.length := by have := congrArg List.length hn; simpa using this
 have hown := hms.own
 rw [← hlen] at hown ⊢
 obtain ⟨hlt, hH⟩ := holds_some hown
 have := pickObjectOfR ms.toArray (l.map pinJ) g 0 cap w W0 w.heap.size hH hlt (by simp; omega) (rises_bl h hn) (by simp [hlen]) (fun i hi => ?_) (Nat.le_refl _)
 · rw [show (ms.toArray.toList.map (·.name)) = l.map (·.name) by simpa using hn] at this
   simpa using this
 · have hi' : i < l.length := by simpa using hi
   obtain ⟨lo, hi2, h1, h2, _, hr⟩ := hms.reps i hi
   refine ⟨?_, ?_, fun k _ => .inl h0⟩
   · rw [getElem!_pos ms.toArray i (by simp; omega)]
     simp only [List.getElem_toArray]
     exact Rep.carry h1 h2 (fun _ _ _ => rfl) _ _ hr
   · rw [List.getElem_map]
     exact hw _ (List.getElem_mem hi')
theorem ins_four (a b c d : Mem) (h1 : ltOf cfM b a = false) (h2 : ltOf cfM c b = true) (h3 : ltOf cfM c a = false) (h4 : ltOf cfM d b = true) (h5 : ltOf cfM d c = false) : insertionSort (ltOf cfM) #[a, b, c, d] 0 4 = #[a, c, d, b] := by
 unfold insertionSort insOuter
 rw [if_pos (by decide)]
 unfold insOuter
 rw [if_pos (by decide)]
 unfold insOuter
 rw [if_pos (by decide)]
 unfold insOuter
 rw [if_neg (by decide)]
 have s1 : insInner (ltOf cfM) 0 (0 + 1) #[a, b, c, d] = #[a, b, c, d] := by
   unfold insInner
   have e : (decide (0 + 1 > 0) && ltOf cfM #[a, b, c, d][0 + 1]! #[a, b, c, d][0]!) = false := by simpa using h1
   rw [e]; rfl
 have s2 : insInner (ltOf cfM) 0 (0 + 1 + 1) #[a, b, c, d] = #[a, c, b, d] := by
   unfold insInner
   have e : (decide (0 + 1 + 1 > 0) && ltOf cfM #[a, b, c, d][0 + 1 + 1]! #[a, b, c, d][0 + 1]!) = true := by simpa using h2
   rw [if_pos e]
   have f : swp #[a, b, c, d] (0 + 1 + 1) (0 + 1) = #[a, c, b, d] := rfl
   rw [f]
   unfold insInner
   have e : (decide (0 + 1 > 0) && ltOf cfM #[a, c, b, d][0 + 1]! #[a, c, b, d][0]!) = false := by simpa using h3
   rw [e]; rfl
 have s3 : insInner (ltOf cfM) 0 (0 + 1 + 1 + 1) #[a, c, b, d] = #[a, c, d, b] := by
   unfold insInner
   have e : (decide (0 + 1 + 1 + 1 > 0) && ltOf cfM #[a, c, b, d][0 + 1 + 1 + 1]! #[a, c, b, d][0 + 1 + 1]!) = true := by simpa using h4
   rw [if_pos e]
   have f : swp #[a, c, b, d] (0 + 1 + 1 + 1) (0 + 1 + 1) = #[a, c, d, b] := rfl
   rw [f]
   unfold insInner
   have e : (decide (0 + 1 + 1 > 0) && ltOf cfM #[a, c, d, b][0 + 1 + 1]! #[a, c, d, b][0 + 1]!) = false := by simpa using h5
   rw [e]; rfl
 rw [s1, s2, s3]
def snapMs (n : Int) (t : ByteArray) (an : Option Addr) (nn cn : Nat) (ai : Option Addr) (ni ci : Nat) : Array Mem := #[memT typN snpN, memN verN n, memT expN t, ⟨metN, 5, 0, { data := #[] }, an, nn, cn, ai, ni, ci⟩]
theorem objSnap (n : Int) (t : ByteArray) (m : JV) (an : Option Addr) (cn : Nat) (ai : Option Addr) (ci : Nat) (blk cap : Nat) (w : World) (lo hi : Nat) (_hk : m.kind = 5 ∧ m.n = 0 ∧ m.t = { data := #[] }) (hlo : 0 < lo) (hhi : hi ≤ w.heap.size) (ht : t.size ≤ 4294967000) (hwt : m.wt ≤ 4294967296)
   (hR : Rep w lo hi m (.agg #[.int .u8 5, .int .i64 0, .string { data := #[] }, .slice an m.names.length cn, .slice ai m.items.length ci]))
   (hH : HoldsK encM 6 w blk 0 (snapMs n t an m.names.length cn ai m.items.length ci)) (hb : blk < w.heap.size) :
   Calls Tryz.prog 42 #[.slice (some ⟨blk, 0, none⟩) 4 cap] w (ObjPost [typN, expN, metN, verN] [txtJ snpN, txtJ t, m, numJ n] w) := by
 refine pickObjectOf (snapMs n t an m.names.length cn ai m.items.length ci) #[memT typN snpN, memT expN t, ⟨metN, 5, 0, { data := #[] }, an, m.names.length, cn, ai, m.items.length, ci⟩, memN verN n] [txtJ snpN, txtJ t, m, numJ n] blk 0 cap w lo hi hH hb (by simp [snapMs]) ?_ rfl ?_ ?_ hhi
 · unfold snapMs
   refine ins_four _ _ _ _ ?_ ?_ ?_ ?_ ?_
   · show decide (Lib.compareBytes verN.data.toList typN.data.toList < 0) = false; decide
   · show decide (Lib.compareBytes expN.data.toList verN.data.toList < 0) = true; decide
   · show decide (Lib.compareBytes expN.data.toList typN.data.toList < 0) = false; decide
   · show decide (Lib.compareBytes metN.data.toList verN.data.toList < 0) = true; decide
   · show decide (Lib.compareBytes metN.data.toList expN.data.toList < 0) = false; decide
 · intro i hi
   match i, hi with
   | 0, _ => exact ⟨rep_txt _ _ _ _, by simp [txtJ, JV.wt, JV.wts, bytesSum, snpN, ByteArray.size], fun k h => by simp [txtJ, JV.items] at h⟩
   | 1, _ => exact ⟨rep_txt _ _ _ _, by simp [txtJ, JV.wt, JV.wts, bytesSum]; omega, fun k h => by simp [txtJ, JV.items] at h⟩
   | 2, _ => exact ⟨hR, hwt, fun k h => .inl hlo⟩
   | 3, _ => exact ⟨rep_num _ _ _ _, by simp [numJ, JV.wt, JV.wts, bytesSum, ByteArray.size], fun k h => by simp [numJ, JV.items] at h⟩
 · intro i hi
   have : i = 0 ∨ i = 1 ∨ i = 2 := by simp at hi; omega
   rcases this with rfl | rfl | rfl
   · show typN ≠ expN; decide
   · show expN ≠ metN; decide
   · show metN ≠ verN; decide
theorem sortTo (g cap : Nat) (d d' : Array Mem) (w : World) (hH : HoldsK encM 6 w g 0 d) (hg : g < w.heap.size) (hn : d.size ≤ 4294967296) (hp : d'.toList.Perm d.toList) (hr : RisesM d') :
   Calls Tryz.prog 85 #[.slice (some ⟨g, 0, none⟩) d.size cap, .func (.func 86) #[] #[]] w fun e w' => e = .returned (.tuple #[]) ∧ HoldsK encM 6 w' g 0 d' ∧ Touch (· = g) w w' := by
 have eg : ∀ args w, (callFunc 86 args).run Tryz.prog w = .ok (.enter 86 args) w := enters_of Tryz.func86 (by kernel_rfl) rfl
 have hcon := AnyQ.slices_SortFunc sortMember 6 Tryz.isAgg74 Tryz.sizeOf74 encM encM_len encM_one cfM swoMM 86 #[] g 0 cap d w eg (fun _ _ _ _ x y => cmpMember x y _) hH hg (by omega)
 refine hcon.mono ?_
 rintro e w' ⟨rfl, e', n, os, hpe, hs, rfl⟩
 have hsz : d'.size = d.size := by simpa using hp.length_eq
 have hd : e' = d' := sorted_rises hr (by
   have := hpe.2.2
   have e1 : e'.extract 0 d.size = e' := by rw [← hpe.1]; simp
   have e2 : d.extract 0 d.size = d := by simp
   rw [e1, e2] at this
   exact this.trans hp.symm) (fun i j hij hj => by
   have := hs i j (Nat.zero_le _) hij (by omega)
   rwa [lt_blM] at this)
 subst hd
 exact ⟨rfl, holdsK_grow encM 6 _ _ _ _ _ (by simp [putRowK, Go.Sort.ahead]; exact hg) (holdsK_putRowK encM 6 _ _ _ _ _ (holdsK_ahead encM 6 _ _ _ _ _ hH) hpe.1), touch_sortWorld⟩
theorem pickObjectOfP (d d' : Array Mem) (its : List JV) (blk off cap : Nat) (w : World) (lo hi : Nat) (hH : HoldsK encM 6 w blk off d) (hblk : blk < w.heap.size) (hn : d.size ≤ 4294967296) (hp : d'.toList.Perm d.toList) (hr : RisesM d')
   (hl : d'.size = its.length) (hm : ∀ i (h : i < its.length), Rep w lo hi its[i] d'[i]!.val ∧ its[i].wt ≤ 4294967296 ∧ ∀ k (h' : k < its[i].items.length), Seen lo its[i].items[k])
   (hhi : hi ≤ w.heap.size) :
   Calls Tryz.prog 42 #[.slice (some ⟨blk, off, none⟩) d.size cap] w (ObjPost (d'.toList.map (·.name)) its w) :=
 pickObjectOfS d d' its blk off cap w lo hi hH hblk hn (by simpa using hp.length_eq) (fun g cap1 w1 hH1 hg1 => sortTo g cap1 d d' w1 hH1 hg1 hn hp hr) hl hm (fun i h e => by
   have := hr i (i + 1) h (by omega)
   rw [getElem!_pos d' i (by omega), getElem!_pos d' (i + 1) h] at e
   rw [e, bl_irrefl] at this; cases this) hhi
def MembG (W0 : Nat) (w : World) (v : Value) (N : List NJ) : Prop :=
 ∃ ms, MemsAt W0 w v ms (N.map (·.2)) ∧ ms.map (·.name) = N.map (·.1)
theorem MembG.below {W0 : Nat} {w w' : World} {v : Value} {N : List NJ} (h : MembG W0 w v N) (hb : Below w.heap.size w w') : MembG W0 w' v N := by
 obtain ⟨ms, h1, h2⟩ := h
 exact ⟨ms, h1.below hb, h2⟩
theorem MembG.len {W0 : Nat} {w : World} {v : Value} {N : List NJ} (h : MembG W0 w v N) : ∃ ms, MemsAt W0 w v ms (N.map (·.2)) ∧ ms.map (·.name) = N.map (·.1) ∧ ms.length = N.length := by
 obtain ⟨ms, h1, h2⟩ := h
 exact ⟨ms, h1, h2, by have := congrArg List.length h2; simpa using this⟩
theorem perm_lift {α β : Type} (f : α → β) : ∀ {M L : List β}, M.Perm L → ∀ Z : List α, Z.map f = L → ∃ Z' : List α, Z'.Perm Z ∧ Z'.map f = M := by
 intro M L h
 induction h with
 | nil => intro Z hZ; exact ⟨Z, .refl _, by simpa using hZ⟩
 | @cons x l1 l2 h ih =>
   intro Z hZ
   cases Z with
   | nil => simp at hZ
   | cons z zs =>
     simp only [List.map_cons, List.cons.injEq] at hZ
     obtain ⟨Z', h1, h2⟩ := ih zs hZ.2
     exact ⟨z :: Z', h1.cons z, by simp [h2, hZ.1]⟩
 | @swap x y l =>
   intro Z hZ
   cases Z with
   | nil => simp at hZ
   | cons z zs =>
     cases zs with
     | nil => simp at hZ
     | cons z2 zs =>
       simp only [List.map_cons, List.cons.injEq] at hZ
       exact ⟨z2 :: z :: zs, .swap _ _ _, by simp [hZ]⟩
 | @trans l1 l2 l3 h1 h2 ih1 ih2 =>
   intro Z hZ
   obtain ⟨Z2, a, b⟩ := ih2 Z hZ
   obtain ⟨Z1, c, d⟩ := ih1 Z2 b
   exact ⟨Z1, c.trans a, d⟩
theorem rises_mem {ms : List Mem} {ns : List ByteArray} (h : rises ns = true) (hn : ms.map (·.name) = ns) : RisesM ms.toArray := by
 subst hn
 intro i j hj hij
 have hj' : j < ms.length := by simpa using hj
 have hs := rises_lts _ h i j (by simp; omega) (by simp; omega) hij
 simp only [List.getElem_toArray]
 unfold bl
 simpa using hs
theorem objOfG {W0 : Nat} {w : World} {v : Value} {N : List NJ} (M : List NJ) (hM : MembG W0 w v N) (hg : ∃ g cap, v = .slice (some ⟨g, 0, none⟩) N.length cap) (hp : M.Perm N) (hr : rises (M.map (·.1)) = true) (hl : N.length ≤ 4294967296) (hw : ∀ p ∈ M, p.2.wt ≤ 4294967296) (h0 : 0 < W0) :
   Calls Tryz.prog 42 #[v] w (ObjPost (M.map (·.1)) (M.map (·.2)) w) := by
 obtain ⟨ms, hms, hn, hlen⟩ := hM.len
 obtain ⟨g, cap, rfl⟩ := hg
 have hzl : (N.zip ms).length = N.length := by simp [hlen]
 obtain ⟨Z, hZp, hZm⟩ := perm_lift (fun z : NJ × Mem => z.1) hp (N.zip ms) (by rw [List.map_fst_zip]; omega)
 have hin : ∀ z ∈ Z, z.2.name = z.1.1 ∧ Rep w W0 w.heap.size z.1.2 z.2.val := fun z hz => by
   obtain ⟨i, hi, rfl⟩ := List.getElem_of_mem (hZp.mem_iff.1 hz)
   have hi' : i < N.length := by omega
   rw [List.getElem_zip]
   have e1 := List.getElem_of_eq hn (i := i) (by simp; omega)
   simp only [List.getElem_map] at e1
   obtain ⟨lo, hi2, h1, h2, _, hr⟩ := hms.reps i (by simp; omega)
   simp only [List.getElem_map] at hr
   exact ⟨e1, Rep.carry h1 h2 (fun _ _ _ => rfl) _ _ hr⟩
 have hlZ : Z.length = N.length := by rw [hZp.length_eq, hzl]
 have hlM : M.length = Z.length := by rw [← hZm, List.length_map]
 have hown := hms.own
 rw [← hlen] at hown
 have hH : g < w.heap.size ∧ HoldsK encM 6 w g 0 ms.toArray := by
   rcases Nat.eq_zero_or_pos ms.length with h | h
   · rcases hown.2 with ⟨hv, _⟩ | ⟨g', cap', cur, hv, hg, hh, hc, hm, hs, ht⟩
     · cases hv
     · cases hv
       refine ⟨heap_lt hh, fun j hj => ?_⟩
       simp [h] at hj
   · obtain ⟨g', cap', hv, hlt, hH⟩ := holds_own hown h
     cases hv
     exact ⟨hlt, hH⟩
 have hnm : (Z.map (·.2)).map (·.name) = M.map (·.1) := by
   rw [List.map_map, ← hZm, List.map_map]
   exact List.map_congr_left fun z hz => (hin z hz).1
 have hms2 : ((N.zip ms).map (·.2)) = ms := by rw [List.map_snd_zip]; omega
 have := pickObjectOfP ms.toArray (Z.map (·.2)).toArray (M.map (·.2)) g 0 cap w W0 w.heap.size hH.2 hH.1 (by simp; omega) (by
     have := hZp.map (·.2)
     rw [hms2] at this
     simpa using this) (rises_mem hr hnm) (by simp [hlM]) (fun i hi => ?_) (Nat.le_refl _)
 · rw [show ((Z.map (·.2)).toArray.toList.map (·.name)) = M.map (·.1) from hnm] at this
   rw [show ms.toArray.size = N.length by simp [hlen]] at this
   exact this
 · have hi' : i < Z.length := by have := hi; simp at this; omega
   have hiM : i < M.length := by omega
   have eM : M[i] = Z[i].1 := by
     have := List.getElem_of_eq hZm (i := i) (by simpa using hi')
     simpa using this.symm
   obtain ⟨_, hr⟩ := hin Z[i] (List.getElem_mem hi')
   refine ⟨?_, ?_, fun k _ => .inl h0⟩
   · rw [getElem!_pos _ i (by simpa using hi')]
     simp only [List.getElem_toArray, List.getElem_map]
     rw [eM]
     exact hr
   · rw [List.getElem_map]
     exact hw _ (List.getElem_mem hiM)
set_option maxHeartbeats 4000000 in
set_option maxRecDepth 100000 in
theorem lawMembers (v : JV) (nn : Nat) (an ai : Option Addr) (cn ci : Nat) (lo hi : Nat) (w : World) (hS : StrsAt w lo hi an v.names) (hV : ValsAt w lo hi ai v.items) (hlh : hi ≤ w.heap.size) (hlo : lo ≤ w.heap.size) (h1 : v.names.length = nn) (h2 : v.items.length = nn) (hm : nn ≤ 1000) :
   Calls Tryz.prog 41 #[.agg #[.int .u8 v.kind, .int .i64 v.n, .string v.t, .slice an nn cn, .slice ai nn ci]] w (fun e w' => ∃ s ms, e = .returned s ∧ MemsAt lo w' s ms v.items ∧ ms.map (·.name) = v.names ∧ w'.ownsRow w.heap.size 74 6 s nn (flatM ms) ∧ Below w.heap.size w w' ∧ ∀ (i : Nat) (it : JV) (m : Mem), v.items[i]? = some it → ms[i]? = some m → Rep w' lo hi it m.val) := by
 obtain ⟨W2, hW2⟩ : ∃ W2, W2 = w.alloc (.cells #[.int .u8 v.kind, .int .i64 v.n, .string v.t, .slice an nn cn, .slice ai nn ci] 30) := ⟨_, rfl⟩
 have hb2 : Below w.heap.size w W2 := by rw [hW2]; exact (Below.refl _ _).alloc (Nat.le_refl _) _
 have hx0 : W2.heap[w.heap.size]? = some (.cells #[.int .u8 v.kind, .int .i64 v.n, .string v.t, .slice an nn cn, .slice ai nn ci] 30 (0, 0)) := by rw [hW2]; exact heap_alloc_new w _
 have HX0 := Lib.hid hx0
 have HB2 := Lib.hid hb2
 have HW := Lib.hid hW2
 have HZ := Lib.hid (show W2.heap.size = w.heap.size + 1 by rw [hW2]; simp)
 have HS := Lib.hid (hS.below hb2 hlh (Nat.le_refl _) (Nat.le_refl _))
 have HV := Lib.hid (hV.below hb2 hlh (Nat.le_refl _) (Nat.le_refl _))
 have HN1 := Lib.hid h1
 have HN2 := Lib.hid h2
 have HLH := Lib.hid (And.intro hlh hlo)
 clear hW2 hb2 hx0 hS hV h1 h2 hlh hlo
 obtain ⟨i1, hi1, hy0, hy1, hy2⟩ := info_parts infoMember
 go_enter Tryz.func41, Tryz.ntmps41
 go_wp2
 rw [← HW.out]
 go_loopw [3, 4] (fun s i wr => ∃ (k : Nat) (ms : List Mem), k ≤ nn ∧ i = .int .i64 k ∧ MemsAt lo wr s ms (v.items.take k) ∧ ms.map (·.name) = v.names.take k ∧ wr.ownsRow W2.heap.size 74 6 s k (flatM ms) ∧ Below W2.heap.size W2 wr ∧ ∀ (i : Nat) (it : JV) (m : Mem), (v.items.take k)[i]? = some it → ms[i]? = some m → Rep wr lo hi it m.val) (fun _ i _ => nn - (intOf i).toNat)
 case atStart => exact ⟨0, [], by omega, rfl, by simpa using MemsAt.nil lo W2, by simp, World.ownsRow_nil _ _ _ _, Below.refl _ _, fun i it m h => by simp at h⟩
 case round =>
   obtain ⟨k, ms, hk, rfl, hms, hnm, hown, hb, hrp⟩ := hrel
   have HRP0 := Lib.hid hrp
   clear hrp
   have HMS := Lib.hid hms
   have HNM := Lib.hid hnm
   have HOW := Lib.hid hown
   have HB := Lib.hid hb
   have hx1 := (hb.block _ (heap_lt HX0.out)).trans HX0.out
   have c3 : wr.cell? ⟨w.heap.size, 3, none⟩ = some (.slice an nn cn) := box_cell hx1 rfl
   have c4 : wr.cell? ⟨w.heap.size, 4, none⟩ = some (.slice ai nn ci) := box_cell hx1 rfl
   clear hms hnm hb hx1
   by_cases hlt : k < nn
   · have hz2 := HZ.out
     have hlh := HLH.out
     obtain ⟨b1, o1, rfl, _, hbl1, y0⟩ := (HS.out.below HB.out (by omega) (Nat.le_refl _) (Nat.le_refl _)).at k (by rw [HN1.out]; exact hlt)
     obtain ⟨b2, o2, ian, icn, iai, ici, rfl, _, hbl2, z0, z1, z2, z3, z4, hrk⟩ := (HV.out.below HB.out (by omega) (Nat.le_refl _) (Nat.le_refl _)).get k (by rw [HN2.out]; exact hlt)
     have HTN := Lib.hid (show v.names.take (k + 1) = v.names.take k ++ [v.names[k]'(by rw [HN1.out]; exact hlt)] from List.take_succ_eq_append_getElem _)
     have HTI := Lib.hid (show v.items.take (k + 1) = v.items.take k ++ [v.items[k]'(by rw [HN2.out]; exact hlt)] from List.take_succ_eq_append_getElem _)
     generalize v.names[k]'(by rw [HN1.out]; exact hlt) = nm at y0 HTN
     generalize v.items[k]'(by rw [HN2.out]; exact hlt) = it at z0 z1 z2 z3 z4 hrk HTI
     have HRK := Lib.hid hrk
     have HML := Lib.hid (show ms.length = k by have := congrArg List.length HNM.out; simp only [List.length_map, List.length_take, HN1.out] at this; omega)
     have HOD := Lib.hid (show wr.drew.ownsRow W2.heap.size 74 6 u3 k (flatM ms) from hown)
     have hzw : W2.heap.size ≤ wr.heap.size := HB.out.size
     clear hrk hown
     go_upto_region 5 with fail
     go_region_law (refine step_append_lies _ (by rfl) (.tmp 19) (.tmp 31) 70 (by rfl) W2.heap.size 74 i1 _ 6 96 Tryz.underlying70 hi1 hy0 hy1 hy2 rfl (by omega) u3 k (flatM ms) (by rfl) (HOD.out.alloc _) ⟨wr.heap.size, 0, none⟩ 1 1 (Array.toList #[.string nm, .int .u8 it.kind, .int .i64 it.n, .string it.t, .slice ian it.names.length icn, .slice iai it.items.length ici]) (by rfl) (by rfl) (World.news_of_block (cs := #[.string nm, .int .u8 it.kind, .int .i64 it.n, .string it.t, .slice ian it.names.length icn, .slice iai it.items.length ici]) (t := 74) (fr := (0, 0)) (heap_alloc_new wr.drew _)) (by simp [Value.oneCell']) (by omega) (by unfold maxLen; omega) (by omega) (by simp; omega) (wr.heap.size + 1) (by simp) ?_; intro g2 cap3 w4 hown4 hgrow4 hat4 hlt4; have HO4 := Lib.hid hown4; have HG4 := Lib.hid hgrow4; have HA4 := Lib.hid hat4; clear hown4 hgrow4 hat4)
     all_goals
       have hb1 : Below wr.heap.size wr (wr.drew.alloc (.cells #[.string nm, .int .u8 it.kind, .int .i64 it.n, .string it.t, .slice ian it.names.length icn, .slice iai it.items.length ici] 74)) := (Below.refl _ _).drew.alloc (Nat.le_refl _) _
       have HB4 := Lib.hid (below_grown (HB.out.trans (hb1.mono hzw)) (by simp; omega) HG4.out (fun b hb => (HOW.out.lt b hb).1))
       have hms4 := (HMS.out.below hb1).snoc (v' := .slice (some ⟨g2, 0, none⟩) (k + 1) cap3) (⟨nm, it.kind, it.n, it.t, ian, it.names.length, icn, iai, it.items.length, ici⟩ : Mem) it lo hi (Nat.le_refl _) (by simp; omega) (fun b hb => by have := (HOW.out.lt b hb).1; omega) (HRK.out.below hb1 (by omega) (Nat.le_refl _) (Nat.le_refl _)) HG4.out (by rw [HML.out]; exact owns_mono HO4.out (by omega)) (by
         rcases HA4.out with h | h
         · exact .inl h.symm
         · exact .inr ⟨g2, rfl, by simp; omega⟩)
       have HM4 := Lib.hid hms4
       clear hms4 hb1
       go_wp2
       go_roundw
       case rel => exact ⟨k + 1, _, by omega, by go_num, by rw [HTI.out]; exact HM4.out, by rw [HTN.out, List.map_append, HNM.out]; rfl, by have := HO4.out; simpa [flatM, encM] using this, HB4.out, fun i it' m' e1 e2 => by
         have hlen : (v.items.take k).length = k := by rw [List.length_take, HN2.out]; omega
         have hml := HML.out
         have hlh2 := HLH.out
         have hz3 := HZ.out
         rw [HTI.out] at e1
         rcases Nat.lt_or_ge i k with hi2 | hi2
         · rw [List.getElem?_append_left (by omega)] at e1 e2
           exact Rep.carry (Nat.le_refl _) (Nat.le_refl _) (fun b _ q => by rw [HB4.out.block b (by omega), HB.out.block b (by omega)]) _ _ (HRP0.out i it' m' e1 e2)
         · rw [List.getElem?_append_right (by omega)] at e1 e2
           rw [hlen] at e1
           rw [hml] at e2
           rcases hq : i - k with _ | n
           · rw [hq] at e1 e2
             cases e1
             cases e2
             exact Rep.carry (Nat.le_refl _) (Nat.le_refl _) (fun b _ q => by rw [HB4.out.block b (by omega), HB.out.block b (by omega)]) _ _ HRK.out
           · rw [hq] at e1
             simp at e1⟩
       case measure => simp [intOf]; omega
   · obtain rfl : k = nn := by omega
     have hn1 : v.items.take k = v.items := List.take_of_length_le (by rw [HN2.out]; exact Nat.le_refl _)
     have hn2 : v.names.take k = v.names := List.take_of_length_le (by rw [HN1.out]; exact Nat.le_refl _)
     rw [hn1] at HMS HRP0
     rw [hn2] at HNM
     clear hn1 hn2 hown
     go_wp2
     go_ret
     exact ⟨_, ms, rfl, HMS.out, HNM.out, owns_mono HOW.out (by have := HZ.out; omega), HB2.out.trans (HB.out.mono HB2.out.size), HRP0.out⟩
def CopyQPost (Q : JV → Prop) (w : World) (e : Ending) (w' : World) : Prop :=
 ∃ it an cn ai ci, Q it ∧ e = .returned (.agg #[.int .u8 it.kind, .int .i64 it.n, .string it.t, .slice an it.names.length cn, .slice ai it.items.length ci]) ∧
   Rep w' w.heap.size w'.heap.size it (.agg #[.int .u8 it.kind, .int .i64 it.n, .string it.t, .slice an it.names.length cn, .slice ai it.items.length ci]) ∧ Below w.heap.size w w'
def ObjQPost (Q : Nat → JV → Prop) (d' : Array Mem) (w : World) (e : Ending) (w' : World) : Prop :=
 ((∀ i, i + 1 < d'.size → d'[i]!.name ≠ d'[i + 1]!.name) ∧ ∃ its : List JV, its.length = d'.size ∧ (∀ i (h : i < its.length), Q i its[i]) ∧ ObjPost (d'.toList.map (·.name)) its w e w') ∨
 ((∃ i, i + 1 < d'.size ∧ d'[i]!.name = d'[i + 1]!.name) ∧ e = .returned (.tuple #[.agg #[.int .u8 0, .int .i64 0, .string { data := #[] }, .slice none 0 0, .slice none 0 0], .int .i64 7]) ∧ Below w.heap.size w w')
def SortedM (d d' : Array Mem) : Prop := d'.toList.Perm d.toList ∧ ∀ i j, i < j → j < d.size → bl d'[j]!.name d'[i]!.name = false
theorem SortedM.size {d d' : Array Mem} (h : SortedM d d') : d'.size = d.size := by simpa using h.1.length_eq
theorem SortedM.mem {d d' : Array Mem} (h : SortedM d d') {i : Nat} (hi : i < d'.size) : d'[i]! ∈ d.toList := by
 rw [getElem!_pos d' i hi]
 exact h.1.mem_iff.1 (by simp)
theorem sortAny (g cap : Nat) (d : Array Mem) (w : World) (hH : HoldsK encM 6 w g 0 d) (hg : g < w.heap.size) (hn : d.size ≤ 4294967296) :
   Calls Tryz.prog 85 #[.slice (some ⟨g, 0, none⟩) d.size cap, .func (.func 86) #[] #[]] w fun e w' => e = .returned (.tuple #[]) ∧ ∃ d', SortedM d d' ∧ HoldsK encM 6 w' g 0 d' ∧ Touch (· = g) w w' := by
 have eg : ∀ args w, (callFunc 86 args).run Tryz.prog w = .ok (.enter 86 args) w := enters_of Tryz.func86 (by kernel_rfl) rfl
 have hcon := AnyQ.slices_SortFunc sortMember 6 Tryz.isAgg74 Tryz.sizeOf74 encM encM_len encM_one cfM swoMM 86 #[] g 0 cap d w eg (fun _ _ _ _ x y => cmpMember x y _) hH hg (by omega)
 refine hcon.mono ?_
 rintro e w' ⟨rfl, e', n, os, hpe, hs, rfl⟩
 refine ⟨rfl, e', ⟨?_, fun i j hij hj => ?_⟩, holdsK_grow encM 6 _ _ _ _ _ (by simp [putRowK, Go.Sort.ahead]; exact hg) (holdsK_putRowK encM 6 _ _ _ _ _ (holdsK_ahead encM 6 _ _ _ _ _ hH) hpe.1), touch_sortWorld⟩
 · have := hpe.2.2
   have e1 : e'.extract 0 d.size = e' := by rw [← hpe.1]; simp
   have e2 : d.extract 0 d.size = d := by simp
   rwa [e1, e2] at this
 · have := hs i j (Nat.zero_le _) hij (by omega)
   rwa [lt_blM] at this
set_option maxRecDepth 100000 in
set_option maxHeartbeats 2000000 in
theorem pickObjectOfQ (Q : Mem → JV → Prop) (d : Array Mem) (blk off cap : Nat) (w : World) (hH : HoldsK encM 6 w blk off d) (hblk : blk < w.heap.size) (h12 : d.size ≤ 4294967296)
   (hm : ∀ m ∈ d.toList, ∀ w1, Below w.heap.size w w1 → Calls Tryz.prog 88 #[m.val] w1 (CopyQPost (Q m) w1)) :
   Calls Tryz.prog 42 #[.slice (some ⟨blk, off, none⟩) d.size cap] w (fun e w' => ∃ d', SortedM d d' ∧ ObjQPost (fun i => Q d'[i]!) d' w e w') := by
 have HH := Lib.hid hH
 have HM := Lib.hid hm
 clear hH hm
 go_enter Tryz.func42, Tryz.ntmps42
 go_wp2_with fail
 have hres := rowIs_box5 w (.int .u8 0) (.int .i64 0) (.string { data := #[] }) (.slice none 0 0) (.slice none 0 0) 30
 have HB0 := Lib.hid (show Below w.heap.size w (w.alloc (.cells #[.int .u8 0, .int .i64 0, .string { data := #[] }, .slice none 0 0, .slice none 0 0] 30)) from (Below.refl _ _).alloc (Nat.le_refl _) _)
 have HC := Lib.hid (cloneMem blk off cap d (w.alloc (.cells #[.int .u8 0, .int .i64 0, .string { data := #[] }, .slice none 0 0, .slice none 0 0] 30)) (fun j hj => by
   have := HH.out j hj
   exact ⟨(cell_alloc_lt _ hblk).trans this.1, by rw [HB0.out.frozen (by exact hblk)]; exact this.2⟩) (by omega))
 refine HC.out.mono ?_
 clear HC
 rintro e w1 ⟨g, cap1, rfl, hg, hg1, hH1, hb1⟩
 have hg' : w.heap.size < g := by simp at hg; omega
 have hb01 : Below w.heap.size w w1 := HB0.out.trans (hb1.mono (by simp))
 have hres1 := below_row hb1 hres (by simp)
 have HSM := Lib.hid (sortAny g cap1 d w1 hH1 hg1 h12)
 clear hH1 hb1 hres
 go_wp2_with fail
 refine HSM.out.mono ?_
 clear HSM
 rintro e w2 ⟨rfl, d', hsd, hH2, ht2⟩
 have hds := hsd.size
 have HSD := Lib.hid (show SortedM d d' from hsd)
 clear hsd
 have hz2 : w1.heap.size ≤ w2.heap.size := ht2.size
 have hb02 : Below w.heap.size w w2 := hb01.trans (ht2.below (by omega) fun k hk e => by omega)
 have hres2 := ht2.row hres1 (by omega)
 have HH2 := Lib.hid hH2
 have HB2 := Lib.hid hb02
 have HR2 := Lib.hid hres2
 clear hH2 hb02 hres2 hres1 ht2 hb01 HB0
 obtain ⟨nd, hnd⟩ : ∃ nd, nd = d.size := ⟨_, rfl⟩
 rw [← hnd]
 rw [← hnd] at hds h12
 have HND := Lib.hid hnd
 clear hnd
 go_wp2
 have HO := Lib.hid (show ObjAt (w2.alloc (.cells #[.int .u8 5, .int .i64 0, .string { data := #[] }, .slice none 0 0, .slice none 0 0] 30)) (w2.alloc (.cells #[.int .u8 5, .int .i64 0, .string { data := #[] }, .slice none 0 0, .slice none 0 0] 30)) w2.heap.size 30 9 30 (.slice none 0 0) (.slice none 0 0) [] [] [] from
   ⟨by simp, Touch.refl _ _, rowIs_box5 _ _ _ _ _ _ _, World.ownsRow_nil _ _ _ _, World.ownsRow_nil _ _ _ _, RepRow.nil _ _ _, fun b hb => by simp [Value.ownBlock] at hb⟩)
 have hbw : Below w2.heap.size w2 (w2.alloc (.cells #[.int .u8 5, .int .i64 0, .string { data := #[] }, .slice none 0 0, .slice none 0 0] 30)) := (Below.refl _ _).alloc (Nat.le_refl _) _
 have HB3 := Lib.hid (HB2.out.trans (hbw.mono (by omega)))
 have HR3 := Lib.hid (below_row hbw HR2.out (by omega))
 have HH3 := Lib.hid (show HoldsK encM 6 (w2.alloc (.cells #[.int .u8 5, .int .i64 0, .string { data := #[] }, .slice none 0 0, .slice none 0 0] 30)) g 0 d' from fun j hj => by
   have := HH2.out j hj
   exact ⟨(cell_alloc_lt _ (by show g < _; omega)).trans this.1, by rw [hbw.frozen (by show g < _; omega)]; exact this.2⟩)
 have hgc : g < w2.heap.size := by omega
 have hwc : w.heap.size < w2.heap.size := by omega
 clear HB2 HR2 HH2 hbw
 generalize (w2.alloc (.cells #[.int .u8 5, .int .i64 0, .string { data := #[] }, .slice none 0 0, .slice none 0 0] 30)) = W at HO HB3 HR3 HH3 ⊢
 clear hz2
 generalize w2.heap.size = cb at HO hgc hwc ⊢
 obtain ⟨i1, hi1, hy0, hy1, hy2⟩ := info_parts infoValue
 obtain ⟨i2, hi2, hx0, hx1, hx2⟩ := info_parts infoStr
 go_loopw [6, 7, 15] (fun _ _ i wr => ∃ (k : Nat) (cs : List Value) (vn vi : Value) (its : List JV), k ≤ nd ∧ i = .int .i64 k ∧ its.length = k ∧ (∀ j (h : j < its.length), Q d'[j]! its[j]) ∧ (∀ j, 0 < j → j < k → d'[j - 1]!.name ≠ d'[j]!.name) ∧ ObjAt W wr cb 30 9 30 vn vi ((d'.toList.map (·.name)).take k) its cs) (fun _ _ i _ => nd - (intOf i).toNat)
 case atStart => exact ⟨0, [], .slice none 0 0, .slice none 0 0, [], by omega, rfl, rfl, fun j h => by simp at h, fun j _ h => by omega, by simpa using HO.out⟩
 case round =>
   obtain ⟨k, cs, vn, vi, its, hk, rfl, hlen, hqs, hdif, hobj⟩ := hrel
   have HQS := Lib.hid hqs
   have HDF := Lib.hid hdif
   have HLN0 := Lib.hid hlen
   clear hqs hdif
   have HOB := Lib.hid hobj
   clear hobj
   by_cases hlt : k < nd
   · have hcz : W.heap.size ≤ wr.heap.size := HOB.out.touch.size
     have hcw := HOB.out.lt
     have hcell : ∀ i c, i < nd → c < 6 → wr.cell? ⟨g, i * 6 + c, none⟩ = some ((encM d'[i]!)[c]!) := fun i c hi hc => by
       have := HH3.out.cell (i := i) (c := c) (by omega) hc
       rw [HOB.out.touch.cell (show g < W.heap.size by omega) (show ¬ g = cb by omega)]
       simpa using this.1
     have y0 := hcell k 0 hlt (by decide); have y1 := hcell k 1 hlt (by decide); have y2 := hcell k 2 hlt (by decide); have y3 := hcell k 3 hlt (by decide); have y4 := hcell k 4 hlt (by decide); have y5 := hcell k 5 hlt (by decide)
     have HCE := Lib.hid hcell
     clear hcell
     generalize hmk : d'[k]! = mk at y0 y1 y2 y3 y4 y5
     have HMK := Lib.hid hmk
     clear hmk
     simp only [encM, Nat.add_zero, List.getElem!_cons_zero, List.getElem!_cons_succ] at y0 y1 y2 y3 y4 y5
     by_cases hdup : 0 < k ∧ d'[k - 1]!.name = mk.name
     · obtain ⟨hk0, hdn⟩ := hdup
       have z0 := HCE.out (k - 1) 0 (by omega) (by decide)
       have HDN := Lib.hid (show ∃ j, j + 1 < d'.size ∧ d'[j]!.name = d'[j + 1]!.name from ⟨k - 1, by omega, by rw [show k - 1 + 1 = k by omega, HMK.out]; exact hdn⟩)
       generalize d'[k - 1]! = mp at z0 hdn
       simp only [encM, Nat.add_zero, List.getElem!_cons_zero] at z0
       have i0 : IntKind.i64.wrap ((k : Int) - 1) = (k : Int) - 1 := IntWalk.i64_in _ (by omega)
       have j0 : 0 ≤ (k : Int) - 1 := by omega
       have j1 : 1 ≤ (k : Int) := by omega
       have j2 : (k : Int) - 1 < (nd : Int) := by omega
       have t0 : ((k : Int) - 1).toNat = k - 1 := by omega
       have hd2 : (mp.name.toList == mk.name.toList) = true := by rw [hdn]; simp
       have hgz : g < wr.heap.size := by omega
       have hgz2 : ¬ g = wr.heap.size := by omega
       have z0' : (wr.alloc (.cells #[.string mk.name, .int .u8 mk.k, .int .i64 mk.n, .string mk.t, .slice mk.an mk.nn mk.cn, .slice mk.ai mk.ni mk.ci] 74)).cell? ⟨g, (k - 1) * 6, none⟩ = some (.string mp.name) := (cell_alloc_lt _ hgz).trans z0
       have hdd : decide (0 < k) = true := by simpa using hk0
       clear hdn
       go_wp2_with fail
       go_quiet (fail)
       have hbx : Below wr.heap.size wr ((wr.alloc (.cells #[.string mk.name, .int .u8 mk.k, .int .i64 mk.n, .string mk.t, .slice mk.an mk.nn mk.cn, .slice mk.ai mk.ni mk.ci] 74)).drewN nq) := Below.drewN ((Below.refl _ _).alloc (Nat.le_refl _) _) _
       have hres := below_row hbx (HOB.out.touch.row HR3.out (by omega)) (by have := HB3.out.size; omega)
       have HBX := Lib.hid (show Below w.heap.size w _ from (HB3.out.trans (HOB.out.touch.below (by omega) fun j hj e => by omega)).trans (hbx.mono (by omega)))
       generalize ((wr.alloc (.cells #[.string mk.name, .int .u8 mk.k, .int .i64 mk.n, .string mk.t, .slice mk.an mk.nn mk.cn, .slice mk.ai mk.ni mk.ci] 74)).drewN nq) = w5 at hres HBX ⊢
       have HRS := Lib.hid hres
       have u0 := hres.cell (i := 0) (by decide); have u1 := hres.cell (i := 1) (by decide); have u2 := hres.cell (i := 2) (by decide); have u3 := hres.cell (i := 3) (by decide); have u4 := hres.cell (i := 4) (by decide)
       have s0 := hres.frozen 0; have s1 := hres.frozen 1; have s2 := hres.frozen 2; have s3 := hres.frozen 3; have s4 := hres.frozen 4
       simp only [pick5] at u0 u1 u2 u3 u4
       clear hres hbx y0 y1 y2 y3 y4 y5 z0 z0' i0 j0 j1 j2 t0 hd2 hdd
       go_wp2
       refine bodyPost_ret (results_row_tmp Tryz.results42 _ _ w.heap.size 30 _ (0, 0) _ rfl (row5_heap (set5 _ _ _ _ _ HRS.out)) Tryz.underlying30 rfl (by kernel_rfl) _ rfl) rfl ?_
       exact ⟨d', HSD.out, .inr ⟨HDN.out, rfl, below5 _ _ _ _ _ HBX.out (Nat.le_refl _)⟩⟩
     have HNK0 := Lib.hid (show 0 < k → d'[k - 1]!.name ≠ mk.name from fun h e => hdup ⟨h, e⟩)
     clear hdup
     rcases Nat.lt_or_ge 0 k with hk0 | hk0
     case' inl =>
       have z0 := HCE.out (k - 1) 0 (by omega) (by decide)
       have HNK := Lib.hid (HNK0.out hk0)
       generalize d'[k - 1]! = mp at z0 HNK
       simp only [encM, Nat.add_zero, List.getElem!_cons_zero] at z0
       have i0 : IntKind.i64.wrap ((k : Int) - 1) = (k : Int) - 1 := IntWalk.i64_in _ (by omega)
       have j0 : 0 ≤ (k : Int) - 1 := by omega
       have j1 : 1 ≤ (k : Int) := by omega
       have j2 : (k : Int) - 1 < (nd : Int) := by omega
       have t0 : ((k : Int) - 1).toNat = k - 1 := by omega
       have hd2 : (mp.name.toList == mk.name.toList) = false := by
         rw [ByteArray.toList_eq, ByteArray.toList_eq]
         cases hq : (mp.name.data.toList == mk.name.data.toList)
         · rfl
         · exact absurd (ByteArray.ext (Array.toList_inj.1 (eq_of_beq hq))) HNK.out
       have hgz : g < wr.heap.size := by omega
       have hgz2 : ¬ g = wr.heap.size := by omega
       have z0' : (wr.alloc (.cells #[.string mk.name, .int .u8 mk.k, .int .i64 mk.n, .string mk.t, .slice mk.an mk.nn mk.cn, .slice mk.ai mk.ni mk.ci] 74)).cell? ⟨g, (k - 1) * 6, none⟩ = some (.string mp.name) := (cell_alloc_lt _ hgz).trans z0
       have hdd : decide (0 < k) = true := by simpa using hk0
       go_wp2_with fail
       go_quiet (fail)
     case' inr =>
       have hdd : decide (0 < k) = false := by simp; omega
       go_wp2_with fail
       go_quiet (fail)
     all_goals
       have HW2 := Lib.hid (show Below wr.heap.size wr ((wr.alloc (.cells #[.string mk.name, .int .u8 mk.k, .int .i64 mk.n, .string mk.t, .slice mk.an mk.nn mk.cn, .slice mk.ai mk.ni mk.ci] 74)).drewN nq) from Below.drewN ((Below.refl _ _).alloc (Nat.le_refl _) _) _)
       have HO2 := Lib.hid (HOB.out.below HW2.out)
       have HE2 := Lib.hid (show ((wr.alloc (.cells #[.string mk.name, .int .u8 mk.k, .int .i64 mk.n, .string mk.t, .slice mk.an mk.nn mk.cn, .slice mk.ai mk.ni mk.ci] 74)).drewN nq).heap[wr.heap.size]? = some (.cells #[.string mk.name, .int .u8 mk.k, .int .i64 mk.n, .string mk.t, .slice mk.an mk.nn mk.cn, .slice mk.ai mk.ni mk.ci] 74 (0, 0)) from heap_alloc_new wr _)
       have hz9 : ((wr.alloc (.cells #[.string mk.name, .int .u8 mk.k, .int .i64 mk.n, .string mk.t, .slice mk.an mk.nn mk.cn, .slice mk.ai mk.ni mk.ci] 74)).drewN nq).heap.size = wr.heap.size + 1 := by simp
       generalize ((wr.alloc (.cells #[.string mk.name, .int .u8 mk.k, .int .i64 mk.n, .string mk.t, .slice mk.an mk.nn mk.cn, .slice mk.ai mk.ni mk.ci] 74)).drewN nq) = w5 at HW2 HO2 HE2 hz9 ⊢
       clear y0 y1 y2 y3 y4 y5
       have c3 : w5.cell? ⟨cb, 3, none⟩ = some vn := HO2.out.row.cell (by decide)
       have f3 : w5.frozen? ⟨cb, 3, none⟩ = false := HO2.out.row.frozen 3
       have m0 : w5.cell? ⟨wr.heap.size, 0, none⟩ = some (.string mk.name) := by simp [World.cell?, HE2.out]
       have HLN := Lib.hid (show ((d'.toList.map (·.name)).take k).length = k by simp; omega)
       have HN := Lib.hid (show w5.ownsRow W.heap.size 9 1 vn k (((d'.toList.map (·.name)).take k).map .string) by have := HO2.out.names; rwa [HLN.out] at this)
       have hw5 : W.heap.size ≤ w5.heap.size := HO2.out.touch.size
       have hcw5 : cb < w5.heap.size := HO2.out.row.lt
       have hnb : some cb ≠ vn.ownBlock := fun e => by have := (HO2.out.names.lt _ e.symm).1; omega
       have HNW := Lib.hid (show some wr.heap.size ≠ vn.ownBlock from fun e => by have := (HOB.out.names.lt _ e.symm).2; omega)
       have HZ9 := Lib.hid hz9
       clear hz9
       go_wp2_with (at_builtin; refine wpList_append_lies _ rfl (.tmp 35) (.tmp 38) 27 rfl W.heap.size 9 i2 _ 1 16 Tryz.underlying27 hi2 hx0 hx1 hx2 rfl (by decide) vn k (((d'.toList.map (·.name)).take k).map .string) rfl (HN.out.alloc _) ⟨w5.heap.size, 0, none⟩ 1 1 [.string mk.name] rfl rfl (World.news_of_block (cs := #[.string mk.name]) (t := 9) (fr := (0, 0)) (heap_alloc_new w5 _)) (by simp [Value.oneCell']) (by omega) (by unfold maxLen; omega) (by omega) (by simp; omega) (w5.heap.size + 1) (by simp) ?_; intro g1 cap2 w6 hown6 hgrow6 hat6 hlt6; have c36 := grow_cell hgrow6 hcw5 hnb c3; have f36 := grow_frozen hgrow6 hcw5 hnb f3; have HO6 := Lib.hid hown6; have HG6 := Lib.hid hgrow6; have HA6 := Lib.hid hat6; clear hown6 hgrow6 hat6)
       have HO7 := Lib.hid (show ObjAt W (w6.setCell ⟨cb, 3, none⟩ (.slice (some ⟨g1, 0, none⟩) (k + 1) cap2)) cb 30 9 30 (.slice (some ⟨g1, 0, none⟩) (k + 1) cap2) vi ((d'.toList.map (·.name)).take k ++ [mk.name]) its cs by
         have := (HO2.out.below ((Below.refl _ _).alloc (Nat.le_refl _) (.cells #[.string mk.name] 9))).name mk.name (g := g1) (cap := cap2) HG6.out (by rcases HA6.out with h | h; exact .inl h; exact .inr (by simp; omega)) (by rw [HLN.out]; exact HO6.out)
         rwa [HLN.out] at this)
       have HE7 := Lib.hid (show (w6.setCell ⟨cb, 3, none⟩ (.slice (some ⟨g1, 0, none⟩) (k + 1) cap2)).heap[wr.heap.size]? = some (.cells #[.string mk.name, .int .u8 mk.k, .int .i64 mk.n, .string mk.t, .slice mk.an mk.nn mk.cn, .slice mk.ai mk.ni mk.ci] 74 (0, 0)) by
         rw [Below.heap_setCell _ _ _ _ (show wr.heap.size ≠ cb by omega), HG6.out.block _ (by have := HZ9.out; simp; omega) HNW.out, Below.heap_alloc _ _ _ (by have := HZ9.out; omega)]; exact HE2.out)
       clear HO6 HG6 HA6 HN HNW HO2 HE2 HW2 HZ9 c36 f36 c3 f3 m0 hnb hcw5 hw5 hlt6
       generalize (w6.setCell ⟨cb, 3, none⟩ (.slice (some ⟨g1, 0, none⟩) (k + 1) cap2)) = w7 at HO7 HE7 ⊢
       generalize (Value.slice (some ⟨g1, 0, none⟩) (k + 1) cap2) = vn7 at HO7 ⊢
       have c4 : w7.cell? ⟨cb, 4, none⟩ = some vi := HO7.out.row.cell (by decide)
       have f4 : w7.frozen? ⟨cb, 4, none⟩ = false := HO7.out.row.frozen 4
       have hz7 : W.heap.size ≤ w7.heap.size := HO7.out.touch.size
       have m1 : w7.cell? ⟨wr.heap.size, 1, none⟩ = some (.int .u8 mk.k) := by simp [World.cell?, HE7.out]
       have m2 : w7.cell? ⟨wr.heap.size, 2, none⟩ = some (.int .i64 mk.n) := by simp [World.cell?, HE7.out]
       have m3 : w7.cell? ⟨wr.heap.size, 3, none⟩ = some (.string mk.t) := by simp [World.cell?, HE7.out]
       have m4 : w7.cell? ⟨wr.heap.size, 4, none⟩ = some (.slice mk.an mk.nn mk.cn) := by simp [World.cell?, HE7.out]
       have m5 : w7.cell? ⟨wr.heap.size, 5, none⟩ = some (.slice mk.ai mk.ni mk.ci) := by simp [World.cell?, HE7.out]
       have HTN := Lib.hid (show (d'.toList.map (·.name)).take (k + 1) = (d'.toList.map (·.name)).take k ++ [mk.name] by
         have hkd : k < d'.size := by omega
         rw [List.take_succ_eq_append_getElem (by simpa using hkd), ← HMK.out]; simp [hkd])
       have HLI := HLN0
       have HBW := Lib.hid (show Below w.heap.size w w7 from HB3.out.trans (HO7.out.touch.below (by omega) fun j hj e => by omega))
       have HI := Lib.hid (show w7.ownsRow W.heap.size 30 5 vi k cs by have := HO7.out.items; rwa [HLI.out] at this)
       have hcz : cb < w7.heap.size := HO7.out.row.lt
       have hnb : some cb ≠ vi.ownBlock := fun e => by have := (HO7.out.items.lt _ e.symm).1; omega
       have HCI := Lib.hid (show Calls Tryz.prog 88 #[.agg #[.int .u8 mk.k, .int .i64 mk.n, .string mk.t, .slice mk.an mk.nn mk.cn, .slice mk.ai mk.ni mk.ci]] w7.drew (fun e w3 => ∃ it an3 cn3 ai3 ci3, e = .returned (.agg #[.int .u8 it.kind, .int .i64 it.n, .string it.t, .slice an3 it.names.length cn3, .slice ai3 it.items.length ci3]) ∧ Q mk it ∧ Rep w3 w7.heap.size w3.heap.size it (.agg #[.int .u8 it.kind, .int .i64 it.n, .string it.t, .slice an3 it.names.length cn3, .slice ai3 it.items.length ci3]) ∧ Below w7.heap.size w7 w3 ∧ w7.heap.size ≤ w3.heap.size ∧ w3.cell? ⟨cb, 4, none⟩ = some vi ∧ w3.frozen? ⟨cb, 4, none⟩ = false ∧ w3.ownsRow W.heap.size 30 5 vi k cs) by
         have hcq := HM.out d'[k]! (HSD.out.mem (by omega)) w7.drew HBW.out.drew
         rw [HMK.out] at hcq
         refine Calls.mono hcq ?_
         rintro e w3 ⟨it, an3, cn3, ai3, ci3, hq3, rfl, hr3, hb3⟩
         have hb4 : Below w7.heap.size w7 w3 := (Below.refl _ _).drew.trans hb3
         exact ⟨it, an3, cn3, ai3, ci3, rfl, hq3, hr3, hb4, hb4.size, by rw [hb4.cell hcz]; exact c4, by rw [hb4.frozen hcz]; exact f4, owns_below HI.out hb4⟩)
       clear HBW HI
       go_wp2_with fail
       go_region_law (first | (refine step_append_lies _ (by rfl) (.tmp 42) (.tmp 46) 28 (by rfl) W.heap.size 30 i1 _ 5 80 Tryz.underlying28 hi1 hy0 hy1 hy2 rfl (by omega) vi k cs (by rfl) (HO3.out.alloc _) ⟨w3.heap.size, 0, none⟩ 1 1 (Array.toList #[.int .u8 it.kind, .int .i64 it.n, .string it.t, .slice an3 it.names.length cn3, .slice ai3 it.items.length ci3]) (by rfl) (by rfl) (World.news_of_block (cs := #[.int .u8 it.kind, .int .i64 it.n, .string it.t, .slice an3 it.names.length cn3, .slice ai3 it.items.length ci3]) (t := 30) (fr := (0, 0)) (heap_alloc_new w3 _)) (by simp [Value.oneCell']) (by omega) (by unfold maxLen; omega) (by omega) (by simp; omega) (w3.heap.size + 1) (by simp) ?_; intro g2 cap3 w4 hown4 hgrow4 hat4 hlt4; have c44 := grow_cell hgrow4 hcz3 hnb c43; have f44 := grow_frozen hgrow4 hcz3 hnb f43; have HO4 := Lib.hid hown4; have HG4 := Lib.hid hgrow4; have HA4 := Lib.hid hat4; clear hown4 hgrow4 hat4) | (go_simp; go_at_call 88; (with_reducible refine HCI.out.mono ?_); rintro e w3 ⟨it, an3, cn3, ai3, ci3, rfl, hq3, hr3, hb3, hz3, c43, f43, ho3⟩; have HQ3 := Lib.hid hq3; clear hq3; have hcz3 : cb < w3.heap.size := Nat.lt_of_lt_of_le hcz hz3; have HO3 := Lib.hid ho3; have HR3' := Lib.hid hr3; have HB3' := Lib.hid hb3; clear ho3 hr3 hb3))
       all_goals
         have HST := Lib.hid (show ObjAt W (w4.setCell ⟨cb, 4, none⟩ (.slice (some ⟨g2, 0, none⟩) (k + 1) cap3)) cb 30 9 30 vn7 (.slice (some ⟨g2, 0, none⟩) (k + 1) cap3) ((d'.toList.map (·.name)).take (k + 1)) (its ++ [it]) _ by
           have := HO7.out.item (it := it) (lo := w7.heap.size) (hi := w3.heap.size) (g := g2) (cap := cap3) (HB3'.out.trans ((Below.refl _ _).alloc hz3 _)) (Nat.le_refl _) (by simp) (HR3'.out.carry (Nat.le_refl _) (Nat.le_refl _) fun b _ hb => Below.heap_alloc _ _ _ hb) HG4.out (by rcases HA4.out with h | h; exact .inl h; exact .inr (by simp; omega)) (by rw [HLI.out]; exact HO4.out)
           rw [HLI.out, ← HTN.out] at this
           exact this)
         clear HO7 HB3' HR3' HG4 HA4 HO4 HO3 HCI HTN HLI c4 f4 m1 m2 m3 m4 m5 c43 f43 c44 f44 HE7
         go_wp2
         go_roundw
         case rel =>
           refine ⟨k + 1, _, _, _, _, by omega, by go_num, by simp; exact HLN0.out, fun j hj => ?_, fun j h0 hj => ?_, HST.out⟩
           · by_cases e : j < its.length
             · rw [List.getElem_append_left e]; exact HQS.out j e
             · have hj2 : j = its.length := by simp at hj; omega
               subst hj2
               rw [List.getElem_append_right (Nat.le_refl _)]
               have hq := HQ3.out
               rw [← HMK.out] at hq
               simpa [HLN0.out] using hq
           · by_cases e : j < k
             · exact HDF.out j h0 e
             · obtain rfl : j = k := by omega
               rw [HMK.out]; exact HNK0.out h0
         case measure => simp [intOf]; omega
   · obtain rfl : k = nd := by omega
     have hn1 : (d'.toList.map (·.name)).take k = d'.toList.map (·.name) := List.take_of_length_le (by simp; omega)
     rw [hn1] at HOB
     have HLN := Lib.hid (show (d'.toList.map (·.name)).length = k by simp; omega)
     have HLI := HLN0
     obtain ⟨an, cn, ai, ci, rfl, rfl, hrep⟩ := HOB.out.done
     have HRP := Lib.hid hrep
     have hrow := HOB.out.row
     have hres := HOB.out.touch.row HR3.out (by omega)
     have hcw := HOB.out.lt
     have hz := HOB.out.touch.size
     rw [HLN.out, HLI.out] at hrow
     have r0 := hrow.cell (i := 0) (by decide); have r1 := hrow.cell (i := 1) (by decide); have r2 := hrow.cell (i := 2) (by decide); have r3 := hrow.cell (i := 3) (by decide); have r4 := hrow.cell (i := 4) (by decide)
     have t0 := hres.cell (i := 0) (by decide); have t1 := hres.cell (i := 1) (by decide); have t2 := hres.cell (i := 2) (by decide); have t3 := hres.cell (i := 3) (by decide); have t4 := hres.cell (i := 4) (by decide)
     have s0 := hres.frozen 0; have s1 := hres.frozen 1; have s2 := hres.frozen 2; have s3 := hres.frozen 3; have s4 := hres.frozen 4
     simp only [pick5] at r0 r1 r2 r3 r4 t0 t1 t2 t3 t4
     have HRS := Lib.hid hres
     have HBW := Lib.hid (show Below w.heap.size w wr from HB3.out.trans (HOB.out.touch.below (by omega) fun j hj e => by omega))
     clear hrow hres hrep hn1 HOB
     go_wp2
     refine bodyPost_ret (results_row_tmp Tryz.results42 _ _ w.heap.size 30 _ (0, 0) _ rfl (row5_heap (set5 _ _ _ _ _ HRS.out)) Tryz.underlying30 rfl (by kernel_rfl) _ rfl) rfl ⟨d', HSD.out, .inl ⟨fun j hj => by have := HDF.out (j + 1) (by omega) (by omega); simpa using this, its, by rw [HLN0.out]; omega, HQS.out, an, cn, ai, ci, ?_, ?_, below5 _ _ _ _ _ HBW.out (Nat.le_refl _)⟩⟩
     · rw [HLN.out, HLI.out]; rfl
     · exact Rep.carry (by omega) (show wr.heap.size ≤ _ by simp [World.setCell]) (fun j hj _ => heap5 _ _ _ _ _ (by omega)) _ _ HRP.out
end Go.Proofs.YtgghgcilpfdbjaaGreatDoor
