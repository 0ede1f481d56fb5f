import Derived.Test.YthgembbgcbaghaaGreatDoorDn07
import Derived.Test.YthgembbgcbaghaaGreatDoorDn03

namespace Go.Proofs.YthgembbgcbaghaaGreatDoor
open Go.RowKit
def xT (w:World) (lo hi:Nat) (a:Option Addr) (l:List ByteArray):Prop:=qy w lo hi a l/\∀ad,a=some ad->l≠[]->∀j,w.frozen? ⟨ad.block,j,none⟩=false
theorem xT.nil (w:World) (lo hi:Nat) (a:Option Addr):xT w lo hi a []:=⟨.inl rfl,fun _ _ h=>absurd rfl h⟩
theorem xT.carry {w w':World} {lo hi lo' hi':Nat} {a:Option Addr} {l:List ByteArray} (h:xT w lo hi a l) (d:lo'<=lo) (f:hi<=hi') (c:∀b,lo<=b->b<hi->w'.heap[b]?=w.heap[b]?):xT w' lo' hi' a l :=
 ⟨h.1.carry d f c,fun ad ha hl j=>by
  rcases h.1 with e|⟨b,off,e,hb,hb',_⟩
  . exact absurd e hl
  . have hf:=h.2 ad ha hl j;rw [e] at ha;cases ha;exact (World.frozen?_of_block (w:=w) (c b hb hb')).trans hf⟩
theorem xT.below {w w':World} {lo hi lo' hi' B:Nat} {a:Option Addr} {l:List ByteArray} (h:xT w lo hi a l) (e:Below B w w') (f:hi<=B) (c:lo'<=lo) (d:hi<=hi'):xT w' lo' hi' a l :=
 h.carry c d fun b _ hlt=>e.block b (by omega)
theorem gS {w:World} {i e:Nat} {v:Value} {n:Nat} {l:List ByteArray} (h:w.ownsRow i e 1 v n (l.map .string)) (k:n=l.length) :
 ∃a c,v=.slice a l.length c/\l.length<=c/\xT w i w.heap.size a l:=by
 obtain ⟨a,c,d,b,f⟩:=zH h k;refine ⟨a,c,d,b,f,fun ad ha hl j=>?_⟩;rcases h.2 with ⟨hv2,h0⟩|⟨g,cap,cur,hv2,hg,hh,_⟩
 . rw [d] at hv2;simp only [X4] at hv2;rw [hv2.1] at ha;cases ha
 . rw [d] at hv2;simp only [X4] at hv2;rw [hv2.1] at ha;cases ha;simp [World.frozen?,hh]
theorem mL (l:List ByteArray) (a:Option Addr) (c:Nat) (w:World) (hi:Nat) (h:qy w 0 hi a l) (p:l.length<=4294967296) :
 Calls Tryz.prog 103 #[.slice a l.length c] w fun e w'=>∃a' c',e=.returned (.slice a' l.length c')/\l.length<=c'/\xT w' w.heap.size w'.heap.size a' l/\O5 w w':=by
 rcases a with _|ad
 . have f:l=[]:=by
    rcases h with h|⟨b,off,ha,_⟩
    . exact h
    . cases ha
   subst f;refine (Tryz.slices_Clone_string_nil 0 c w).mono ?_;rintro e w' ⟨rfl,rfl⟩;exact ⟨none,0,rfl,Z9 _,xT.nil _ _ _ _,Z0 _ _⟩
 . by_cases f:l=[]
   . subst f;refine (Tryz.slices_Clone_string_zero ad c w).mono ?_;rintro e w' ⟨o,rfl,d,_,g⟩;obtain ⟨a',c',rfl,i,m⟩:=gS (l:=[]) d rfl;exact ⟨a',c',rfl,i,m,g⟩
   . rcases h with h|⟨b,off,ha,_,_,i⟩
     . exact absurd h f
     . obtain rfl:ad=⟨b,off,none⟩:=J0 ha;refine (Tryz.slices_Clone_string b off l.length c l w lz (by omega) (fun j hj=>by rw [i j hj,X7,V5 hj];rfl)).mono ?_;rintro e w' ⟨o,rfl,d,_,g⟩;rw [List.take_length] at d;obtain ⟨a',c',rfl,k,m⟩:=gS d rfl;exact ⟨a',c',rfl,k,m,g⟩
