/- The contract of slices.Equal of texts. -/
import Derived.Test.YthgembbgcbaghaaGreatDoorDa07
import Derived.Test.YthgembbgcbaghaaGreatDoorDa03

namespace Go.Proofs.YthgembbgcbaghaaGreatDoor
open Go.RowKit
def xV (w:World) (lo hi:Nat) (a:Option Addr) (l:List ByteArray):Prop:=qw w lo hi a l∧∀ad,a=some ad→l≠[]→∀j,w.frozen? ⟨ad.block,j,none⟩=false
theorem xV.nil (w:World) (lo hi:Nat) (a:Option Addr):xV w lo hi a []:=⟨.inl rfl,fun _ _ h=>absurd rfl h⟩
theorem xV.carry {w w':World} {lo hi lo' hi':Nat} {a:Option Addr} {l:List ByteArray} (h:xV w lo hi a l) (h1:lo'≤lo) (h2:hi≤hi') (hs:∀b,lo≤b→b<hi→w'.heap[b]?=w.heap[b]?):xV w' lo' hi' a l :=
 ⟨h.1.carry h1 h2 hs,fun ad ha hl j=>by
  rcases h.1 with e|⟨b,off,e,hb,hb',_⟩
  · exact absurd e hl
  · have hf:=h.2 ad ha hl j
    rw [e] at ha
    cases ha
    exact (World.frozen?_of_block (w:=w) (hs b hb hb')).trans hf⟩
theorem xV.below {w w':World} {lo hi lo' hi' B:Nat} {a:Option Addr} {l:List ByteArray} (h:xV w lo hi a l) (hb:Below B w w') (hB:hi≤B) (h1:lo'≤lo) (h2:hi≤hi'):xV w' lo' hi' a l :=
 h.carry h1 h2 fun b _ hlt=>hb.block b (by omega)
theorem gB {w:World} {base e:Nat} {v:Value} {n:Nat} {l:List ByteArray} (h:w.ownsRow base e 1 v n (l.map .string)) (hn:n=l.length) :
 ∃a c,v=.slice a l.length c∧l.length≤c∧xV w base w.heap.size a l:=by
 obtain ⟨a,c,hv,hc0,hk⟩:=xG h hn
 refine ⟨a,c,hv,hc0,hk,fun ad ha hl j=>?_⟩
 rcases h.2 with ⟨hv2,h0⟩|⟨g,cap,cur,hv2,hg,hh,_⟩
 · rw [hv] at hv2
   simp only [Value.slice.injEq] at hv2
   rw [hv2.1] at ha
   cases ha
 · rw [hv] at hv2
   simp only [Value.slice.injEq] at hv2
   rw [hv2.1] at ha
   cases ha
   simp [World.frozen?,hh]
theorem mQ (l:List ByteArray) (a:Option Addr) (c:Nat) (w:World) (hi:Nat) (h:qw w 0 hi a l) (hl:l.length≤4294967296) :
 Calls Tryz.prog 103 #[.slice a l.length c] w fun e w'=>∃a' c',e=.returned (.slice a' l.length c')∧l.length≤c'∧xV w' w.heap.size w'.heap.size a' l∧Below w.heap.size w w':=by
 rcases a with _|ad
 · have h0:l=[]:=by
    rcases h with h|⟨b,off,ha,_⟩
    · exact h
    · cases ha
   subst h0
   refine (Tryz.slices_Clone_string_nil 0 c w).mono ?_
   rintro e w' ⟨rfl,rfl⟩
   exact ⟨none,0,rfl,Nat.le_refl _,xV.nil _ _ _ _,Below.refl _ _⟩
 · by_cases h0:l=[]
   · subst h0
     refine (Tryz.slices_Clone_string_zero ad c w).mono ?_
     rintro e w' ⟨v',rfl,hown,_,hb⟩
     obtain ⟨a',c',rfl,hc,hs⟩:=gB (l:=[]) hown rfl
     exact ⟨a',c',rfl,hc,hs,hb⟩
   · rcases h with h|⟨b,off,ha,_,_,hc⟩
     · exact absurd h h0
     · obtain rfl:ad=⟨b,off,none⟩:=Option.some.inj ha
       refine (Tryz.slices_Clone_string b off l.length c l w lz (by omega) (fun j hj=>by rw [hc j hj,List.getD_eq_getElem?_getD,List.getElem?_eq_getElem hj];rfl)).mono ?_
       rintro e w' ⟨v',rfl,hown,_,hb⟩
       rw [List.take_length] at hown
       obtain ⟨a',c',rfl,hc',hs⟩:=gB hown rfl
       exact ⟨a',c',rfl,hc',hs,hb⟩
end Go.Proofs.YthgembbgcbaghaaGreatDoor
