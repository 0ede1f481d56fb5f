/- The contract of slices.Equal of texts. -/
import Derived.Test.YthgembbgcbaghaaGreatDoorDb07
import Derived.Test.YthgembbgcbaghaaGreatDoorDb03

namespace Go.Proofs.YthgembbgcbaghaaGreatDoor
open Go.RowKit
def xE (w:World) (lo hi:Nat) (a:Option Addr) (l:List ByteArray):Prop:=qg w lo hi a l∧∀ad,a=some ad→l≠[]→∀j,w.frozen? ⟨ad.block,j,none⟩=false
theorem xE.nil (w:World) (lo hi:Nat) (a:Option Addr):xE w lo hi a []:=⟨.inl rfl,fun _ _ h=>absurd rfl h⟩
theorem xE.carry {w w':World} {lo hi lo' hi':Nat} {a:Option Addr} {l:List ByteArray} (h:xE w lo hi a l) (h1:lo'≤lo) (h2:hi≤hi') (hs:∀b,lo≤b→b<hi→w'.heap[b]?=w.heap[b]?):xE w' lo' hi' a l :=
 ⟨h.1.carry h1 h2 hs,fun ad ha hl j=>by
  rcases h.1 with e|⟨b,off,e,hb,hb',_⟩
  · exact absurd e hl
  · have hf:=h.2 ad ha hl j
    rw [e] at ha
    cases ha
    exact (World.frozen?_of_block (w:=w) (hs b hb hb')).trans hf⟩
theorem xE.below {w w':World} {lo hi lo' hi' B:Nat} {a:Option Addr} {l:List ByteArray} (h:xE w lo hi a l) (hb:Below B w w') (hB:hi≤B) (h1:lo'≤lo) (h2:hi≤hi'):xE w' lo' hi' a l :=
 h.carry h1 h2 fun b _ hlt=>hb.block b (by omega)
theorem bB {w:World} {base e:Nat} {v:Value} {n:Nat} {l:List ByteArray} (h:w.ownsRow base e 1 v n (l.map .string)) (hn:n=l.length) :
 ∃a c,v=.slice a l.length c∧l.length≤c∧xE w base w.heap.size a l:=by
 obtain ⟨a,c,hv,hc0,hk⟩:=jj h hn
 refine ⟨a,c,hv,hc0,hk,fun ad ha hl j=>?_⟩
 rcases h.2 with ⟨hv2,h0⟩|⟨g,cap,cur,hv2,hg,hh,_⟩
 · rw [hv] at hv2
   simp only [Value.slice.injEq] at hv2
   rw [hv2.1] at ha
   cases ha
 · rw [hv] at hv2
   simp only [Value.slice.injEq] at hv2
   rw [hv2.1] at ha
   cases ha
   simp [World.frozen?,hh]
theorem cM (l:List ByteArray) (a:Option Addr) (c:Nat) (w:World) (hi:Nat) (h:qg w 0 hi a l) (hl:l.length≤4294967296) :
 Calls Tryz.prog 103 #[.slice a l.length c] w fun e w'=>∃a' c',e=.returned (.slice a' l.length c')∧l.length≤c'∧xE w' w.heap.size w'.heap.size a' l∧Below w.heap.size w w':=by
 rcases a with _|ad
 · have h0:l=[]:=by
    rcases h with h|⟨b,off,ha,_⟩
    · exact h
    · cases ha
   subst h0
   refine (Tryz.slices_Clone_string_nil 0 c w).mono ?_
   rintro e w' ⟨rfl,rfl⟩
   exact ⟨none,0,rfl,Nat.le_refl _,xE.nil _ _ _ _,Below.refl _ _⟩
 · by_cases h0:l=[]
   · subst h0
     refine (Tryz.slices_Clone_string_zero ad c w).mono ?_
     rintro e w' ⟨v',rfl,hown,_,hb⟩
     obtain ⟨a',c',rfl,hc,hs⟩:=bB (l:=[]) hown rfl
     exact ⟨a',c',rfl,hc,hs,hb⟩
   · rcases h with h|⟨b,off,ha,_,_,hc⟩
     · exact absurd h h0
     · obtain rfl:ad=⟨b,off,none⟩:=Option.some.inj ha
       refine (Tryz.slices_Clone_string b off l.length c l w lz (by omega) (fun j hj=>by rw [hc j hj,List.getD_eq_getElem?_getD,List.getElem?_eq_getElem hj];rfl)).mono ?_
       rintro e w' ⟨v',rfl,hown,_,hb⟩
       rw [List.take_length] at hown
       obtain ⟨a',c',rfl,hc',hs⟩:=bB hown rfl
       exact ⟨a',c',rfl,hc',hs,hb⟩
theorem yR (l m:List ByteArray) (a1 a2:Option Addr) (c d:Nat) (w:World) (lo hi:Nat) (h1:qg w lo hi a1 l) (h2:qg w lo hi a2 m) (hl:l.length≤4294967296) (hm:m.length≤4294967296) :
 Calls Tryz.prog 169 #[.slice a1 l.length c,.slice a2 m.length d] w fun e w'=>e=.returned (.bool (decide (l=m)))∧∃q,w'=w.drewN q:=by
 by_cases hn:l.length=m.length
 · by_cases h0:l=[]
   · subst h0
     have hm0:m=[]:=List.eq_nil_of_length_eq_zero (by rw [← hn];rfl)
     subst hm0
     refine (Tryz.slices_Equal_string_empty a1 a2 c 0 d w (by omega)).mono ?_
     rintro e w' ⟨rfl,rfl⟩
     exact ⟨rfl,0,rfl⟩
   · have h0':m≠[]:=fun e=>h0 (List.eq_nil_of_length_eq_zero (by rw [hn,e];rfl))
     rcases h1 with h1|⟨b,off,rfl,_,_,hc⟩
     · exact absurd h1 h0
     rcases h2 with h2|⟨b',off',rfl,_,_,hc'⟩
     · exact absurd h2 h0'
     refine (Tryz.slices_Equal_string b off l.length c b' off' m.length d l m w lz lz (by omega) (by omega) (fun j hj=>by rw [hc j hj,List.getD_eq_getElem?_getD,List.getElem?_eq_getElem hj];rfl) (fun j hj=>by rw [hc' j hj,List.getD_eq_getElem?_getD,List.getElem?_eq_getElem hj];rfl)).mono ?_
     rintro e w' ⟨rfl,hq⟩
     exact ⟨by rw [List.take_length,List.take_length],hq⟩
 · refine (Tryz.slices_Equal_string_lens a1 a2 l.length c m.length d w hn).mono ?_
   rintro e w' ⟨rfl,rfl⟩
   exact ⟨by rw [decide_eq_false (fun e=>hn (by rw [e]))],0,rfl⟩
end Go.Proofs.YthgembbgcbaghaaGreatDoor
