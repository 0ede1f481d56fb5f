/- The contract of legatelaw23.Long of one snapshot: what is not long is few, and short. -/
import Derived.Test.YtgghgcilpfdbjaaGreatDoorSu11

namespace Go.Proofs.YtgghgcilpfdbjaaGreatDoor
open Go.RowKit
def PinShort (p : PinV) : Prop := p.name.size ≤ 1000 ∧ p.hs.length ≤ 500 ∧ ∀ k ∈ p.hs, k.1.size ≤ 5000 ∧ k.2.size ≤ 5000
def LongSPost (l : List PinV) (w : World) (e : Ending) (w' : World) : Prop := ∃ b : Bool, e = .returned (.bool b) ∧ (b = false → l.length ≤ 600 ∧ ∀ p ∈ l, PinShort p) ∧ Below w.heap.size w w'
set_option maxHeartbeats 4000000 in
set_option maxRecDepth 100000 in
theorem lawLong1 (l : List PinV) (v e : Int) (a : Option Addr) (c sb sc : Nat) (w : World) (hP : PinsAt w 0 w.heap.size a l) (hf : ∀ p ∈ l, PinFits p) (hl : l.length ≤ 9223372036854775807) (hs : w.heap[sb]? = some (.cells #[.int .i64 v, .int .i64 e, .slice a l.length c] 24 (0, 0))) :
   Calls Tryz.prog 13 #[.slice (some ⟨sb, 0, none⟩) 1 sc] w (LongSPost l w) := by
 have HPI := Lib.hid hP
 have HF := Lib.hid hf
 have HS := Lib.hid hs
 clear hP hf hs
 go_enter Tryz.func13, Tryz.ntmps13
 go_wp2
 go_loopw [3, 4, 5] (fun n i _ wr => Below w.heap.size w wr ∧ ((i = .int .i64 0 ∧ n = .int .i64 0) ∨ (i = .int .i64 1 ∧ l.length ≤ 600 ∧ ∀ p ∈ l, PinShort p))) (fun _ i _ _ => 1 - (intOf i).toNat)
 case atStart => exact ⟨Below.refl _ _, .inl ⟨rfl, rfl⟩⟩
 case round =>
   obtain ⟨hb, hcase⟩ := hrel
   have HB := Lib.hid hb
   clear hb
   rcases hcase with ⟨rfl, rfl⟩ | ⟨rfl, hlen, hall⟩
   · go_wp2
     go_loopw [3, 5] (fun n i wq => ∃ k : Nat, k ≤ l.length ∧ k ≤ 600 ∧ i = .int .i64 k ∧ n = .int .i64 k ∧ (∀ j (h : j < l.length), j < k → PinShort l[j]) ∧ Below w.heap.size w wq) (fun _ i _ => l.length - (intOf i).toNat)
     case atStart => exact ⟨0, by omega, by omega, rfl, rfl, fun j _ h => by omega, HB.out⟩
     case round =>
       obtain ⟨k, hk, hk6, rfl, rfl, hal, hb⟩ := hrel
       have HAL := Lib.hid hal
       have HBQ := Lib.hid hb
       have x2 : wr.cell? ⟨sb, 2, none⟩ = some (.slice a l.length c) := box_cell ((hb.block _ (heap_lt HS.out)).trans HS.out) rfl
       by_cases hlt : k < l.length
       · by_cases h6 : k = 600
         · subst h6
           clear hal hb
           go_wp2
           go_ret
           exact ⟨true, rfl, (fun h => by cases h), HBQ.out⟩
         · obtain ⟨b1, o1, ha1, _, _, e0, e1, e2, hh, hc, e3, _, hkk⟩ := (HPI.out.below hb (Nat.le_refl _) (Nat.le_refl _) hb.size).at k hlt
           subst ha1
           obtain ⟨_, _, _, f4, _⟩ := HF.out l[k] (List.getElem_mem hlt)
           obtain ⟨p, hp⟩ : ∃ p, p = l[k] := ⟨_, rfl⟩
           rw [← hp] at e0 e1 e2 e3 hkk f4
           have HPK := Lib.hid hp
           obtain ⟨nm, vr, ln, hs⟩ := p
           have e0 : wr.cell? ⟨b1, o1 + k * 4, none⟩ = some (.string nm) := e0
           have e1 : wr.cell? ⟨b1, o1 + k * 4 + 1, none⟩ = some (.int .i64 vr) := e1
           have e2 : wr.cell? ⟨b1, o1 + k * 4 + 2, none⟩ = some (.int .i64 ln) := e2
           have e3 : wr.cell? ⟨b1, o1 + k * 4 + 3, none⟩ = some (.slice hh hs.length hc) := e3
           have HLP := Lib.hid (lawLongPin nm vr ln hs hh hc wr hkk (by unfold maxLen at f4; exact f4))
           have hk7 : k < 600 := by omega
           have hk8 : ¬ (600 : Int) < (k : Int) + 1 := by omega
           clear hp hkk f4 hal hb h6
           go_wp2_with fail
           refine HLP.out.mono ?_
           clear HLP
           rintro r w3 ⟨b, rfl, hf, hb⟩
           have HFF := Lib.hid hf
           have HB3 := Lib.hid (HBQ.out.trans (hb.mono HBQ.out.size))
           clear hb hf e0 e1 e2 e3 x2
           cases b
           · have HSH := Lib.hid (show PinShort l[k] from by rw [← HPK.out]; exact HFF.out rfl)
             go_wp2
             go_roundw
             case rel =>
               refine ⟨k + 1, by omega, by omega, by go_num, by go_num, fun j hj hjk => ?_, HB3.out⟩
               by_cases e : j = k
               · subst e; exact HSH.out
               · exact HAL.out j hj (by omega)
             case measure => simp [intOf]; omega
           · go_wp2
             go_ret
             exact ⟨true, rfl, (fun h => by cases h), HB3.out⟩
       · have HA := Lib.hid (show l.length ≤ 600 ∧ ∀ p ∈ l, PinShort p from ⟨by omega, fun p hp => by obtain ⟨j, hj, rfl⟩ := List.getElem_of_mem hp; exact hal j hj (by omega)⟩)
         clear hal hb
         go_wp2
         go_roundw
         case rel => exact ⟨HBQ.out, .inr ⟨rfl, HA.out⟩⟩
         case measure => simp [intOf]
   · have HA := Lib.hid (And.intro hlen hall)
     clear hlen hall
     go_wp2
     go_ret
     exact ⟨false, rfl, fun _ => HA.out, HB.out⟩
end Go.Proofs.YtgghgcilpfdbjaaGreatDoor
