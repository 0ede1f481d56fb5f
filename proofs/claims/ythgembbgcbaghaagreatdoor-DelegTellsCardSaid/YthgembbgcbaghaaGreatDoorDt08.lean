import Derived.Test.YthgembbgcbaghaaGreatDoorDt07
import Derived.Test.YthgembbgcbaghaaGreatDoorDt03

namespace Go.Proofs.YthgembbgcbaghaaGreatDoor
open Go.RowKit
def jG (w:World) (lo hi:Nat) (a:Option Addr) (l:List ByteArray):Prop:=qv w lo hi a l/\∀ad,a=some ad->l≠[]->∀j,w.frozen? ⟨ad.block,j,none⟩=false
theorem jG.nil (w:World) (lo hi:Nat) (a:Option Addr):jG w lo hi a []:=⟨.inl rfl,fun _ _ h=>absurd rfl h⟩
theorem jG.carry {w w':World} {lo hi lo' hi':Nat} {a:Option Addr} {l:List ByteArray} (h:jG w lo hi a l) (h1:lo'<=lo) (h2:hi<=hi') (hs:∀b,lo<=b->b<hi->w'.heap[b]?=w.heap[b]?):jG w' lo' hi' a l :=
 ⟨h.1.carry h1 h2 hs,fun ad ha hl j=>by
  rcases h.1 with e|⟨b,off,e,hb,hb',_⟩
  . exact absurd e hl
  . have hf:=h.2 ad ha hl j;rw [e] at ha;cases ha;exact (H7 (w:=w) (hs b hb hb')).trans hf⟩
theorem jG.below {w w':World} {lo hi lo' hi' B:Nat} {a:Option Addr} {l:List ByteArray} (h:jG w lo hi a l) (hb:Below B w w') (hB:hi<=B) (h1:lo'<=lo) (h2:hi<=hi'):jG w' lo' hi' a l :=
 h.carry h1 h2 fun b _ hlt=>hb.block b (by omega)
theorem pD {w:World} {base e:Nat} {v:Value} {n:Nat} {l:List ByteArray} (h:w.ownsRow base e 1 v n (l.map .string)) (hn:n=l.length) :
 ∃a c,v=.slice a l.length c/\l.length<=c/\jG w base w.heap.size a l:=by
 obtain ⟨a,c,d,b,f⟩:=jp h hn;refine ⟨a,c,d,b,f,fun ad ha hl j=>?_⟩;rcases h.2 with ⟨hv2,h0⟩|⟨g,cap,cur,hv2,hg,hh,_⟩
 . rw [d] at hv2;simp only [V2] at hv2;rw [hv2.1] at ha;cases ha
 . rw [d] at hv2;simp only [V2] at hv2;rw [hv2.1] at ha;cases ha;simp [World.frozen?,hh]
theorem lU (l:List ByteArray) (a:Option Addr) (c:Nat) (w:World) (hi:Nat) (h:qv w 0 hi a l) (hl:l.length<=4294967296) :
 Calls Tryz.prog 103 #[.slice a l.length c] w fun e w'=>∃a' c',e=.returned (.slice a' l.length c')/\l.length<=c'/\jG w' w.heap.size w'.heap.size a' l/\Below w.heap.size w w':=by
 rcases a with _|ad
 . have f:l=[]:=by
    rcases h with h|⟨b,off,ha,_⟩
    . exact h
    . cases ha
   subst f;refine (Tryz.slices_Clone_string_nil 0 c w).mono ?_;rintro e w' ⟨rfl,rfl⟩;exact ⟨none,0,rfl,J0 _,jG.nil _ _ _ _,Z0 _ _⟩
 . by_cases f:l=[]
   . subst f;refine (Tryz.slices_Clone_string_zero ad c w).mono ?_;rintro e w' ⟨o,rfl,d,_,g⟩;obtain ⟨a',c',rfl,i,m⟩:=pD (l:=[]) d rfl;exact ⟨a',c',rfl,i,m,g⟩
   . rcases h with h|⟨b,off,ha,_,_,i⟩
     . exact absurd h f
     . obtain rfl:ad=⟨b,off,none⟩:=X7 ha;refine (Tryz.slices_Clone_string b off l.length c l w lz (by omega) (fun j hj=>by rw [i j hj,Y0,Y5 hj];rfl)).mono ?_;rintro e w' ⟨o,rfl,d,_,g⟩;rw [M5] at d;obtain ⟨a',c',rfl,k,m⟩:=pD d rfl;exact ⟨a',c',rfl,k,m,g⟩
theorem gB (l m:List ByteArray) (a1 a2:Option Addr) (c d:Nat) (w:World) (lo hi:Nat) (h1:qv w lo hi a1 l) (h2:qv w lo hi a2 m) (hl:l.length<=4294967296) (hm:m.length<=4294967296) :
 Calls Tryz.prog 169 #[.slice a1 l.length c,.slice a2 m.length d] w fun e w'=>e=.returned (.bool (decide (l=m)))/\∃q,w'=w.drewN q:=by
 by_cases hn:l.length=m.length
 . by_cases h0:l=[]
   . subst h0;have f:m=[]:=X3 (by rw [<- hn];rfl);subst f;refine (Tryz.slices_Equal_string_empty a1 a2 c 0 d w (by omega)).mono ?_;rintro e w' ⟨rfl,rfl⟩;exact ⟨rfl,0,rfl⟩
   . have a:m≠[]:=fun e=>h0 (X3 (by rw [hn,e];rfl));rcases h1 with h1|⟨b,off,rfl,_,_,hc⟩
     . exact absurd h1 h0
     rcases h2 with h2|⟨b',off',rfl,_,_,hc'⟩
     . exact absurd h2 a
     refine (Tryz.slices_Equal_string b off l.length c b' off' m.length d l m w lz lz (by omega) (by omega) (fun j hj=>by rw [hc j hj,Y0,Y5 hj];rfl) (fun j hj=>by rw [hc' j hj,Y0,Y5 hj];rfl)).mono ?_;rintro e w' ⟨rfl,g⟩;exact ⟨by rw [M5,M5],g⟩
 . refine (Tryz.slices_Equal_string_lens a1 a2 l.length c m.length d w hn).mono ?_;rintro e w' ⟨rfl,rfl⟩;exact ⟨by rw [Z7 (fun e=>hn (by rw [e]))],0,rfl⟩
end Go.Proofs.YthgembbgcbaghaaGreatDoor
