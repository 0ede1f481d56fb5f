/- A block laid anew, as a fact of a region's invariant; a store of a whole row; a value that has no zero in it does not hang on a zero block. No program in sight. -/
import Derived.Test.YtnlgmcapbbgelaaGreatDoorRx03

namespace Go.Proofs.YtnlgmcapbbgelaaGreatDoor
open Go.RowKit
def gl (B T:Nat) (cs:Array Value) (w:World) (x:Value):Prop:=∃b,B≤b∧x=.pointer (some ⟨b,0,none⟩)∧w.heap[b]?=some (.cells cs T (0,0))
theorem gl.mono {B T:Nat} {cs:Array Value} {w w':World} {x:Value} (hb:Below w.heap.size w w') (h:gl B T cs w x):gl B T cs w' x:=by
 obtain ⟨b,h1,h2,h3⟩:=h
 exact ⟨b,h1,h2,by rw [hb.block _ (qz h3)];exact h3⟩
theorem gl.made {w:World} {B T:Nat} (cs:Array Value) (hB:B≤w.heap.size):gl B T cs (w.alloc (.cells cs T)) (.pointer (some ⟨w.heap.size,0,none⟩)):=⟨_,hB,rfl,heap_alloc_new w _⟩
def MP.blk (B T:Nat) (cs:Array Value):MP:=⟨gl B T cs,fun _ _ _ hb h=>h.mono hb⟩
mutual
def JV.solid:JV→Bool
 | .mk k _ _ ns xs=>decide (k≠0) && ns.all (fun n=>decide (n≠⟨#[]⟩)) && JV.solids xs
def JV.solids:List JV→Bool
 | []=>true
 | x :: r=>JV.solid x && JV.solids r
end
def xg:Array Value:=#[.int .u8 0,.int .i64 0,.string ⟨#[]⟩,.slice none 0 0,.slice none 0 0]
theorem cE {w:World} {b off T:Nat} {fr:Nat × Nat} {t:ByteArray} (hb:w.heap[b]?=some (.cells xg T fr)) (h:w.cell? ⟨b,off,none⟩=some (.string t)):t=⟨#[]⟩:=by
 have e:w.cell? ⟨b,off,none⟩=xg[off]?:=by simp [World.cell?,hb]
 rw [e] at h
 match off,h with
 | 0,h=>simp [xg] at h
 | 1,h=>simp [xg] at h
 | 2,h=>simpa [xg] using h.symm
 | 3,h=>simp [xg] at h
 | 4,h=>simp [xg] at h
 | n+5,h=>simp [xg] at h
theorem c8 {w:World} {b off T:Nat} {fr:Nat × Nat} {k:Int} (hb:w.heap[b]?=some (.cells xg T fr)) (h:w.cell? ⟨b,off,none⟩=some (.int .u8 k)):k=0:=by
 have e:w.cell? ⟨b,off,none⟩=xg[off]?:=by simp [World.cell?,hb]
 rw [e] at h
 match off,h with
 | 0,h=>simpa [xg] using h.symm
 | 1,h=>simp [xg] at h
 | 2,h=>simp [xg] at h
 | 3,h=>simp [xg] at h
 | 4,h=>simp [xg] at h
 | n+5,h=>simp [xg] at h
theorem qk.skip {w w':World} {lo hi b T:Nat} {fr:Nat × Nat} {a:Option Addr} {l:List ByteArray} (hb:w.heap[b]?=some (.cells xg T fr)) (hw:∀x,x≠b→w'.heap[x]?=w.heap[x]?) (hl:l.all (fun n=>decide (n≠⟨#[]⟩))=true) (h:qk w lo hi a l):qk w' lo hi a l:=by
 rcases h with h|⟨b0,off,ha,h1,h2,hc⟩
 · exact .inl h
 · by_cases e:b0=b
   · subst e
     cases l with
     | nil=>exact .inl rfl
     | cons x r =>
      have:=cE hb (hc 0 (by simp))
      simp only [List.all_cons,Bool.and_eq_true,decide_eq_true_eq] at hl
      exact absurd this hl.1
   · exact .inr ⟨b0,off,ha,h1,h2,fun i hi=>(World.cell?_of_block (w:=w) (hw b0 e)).trans (hc i hi)⟩
mutual
theorem Rep.skip {w w':World} {lo hi b T:Nat} {fr:Nat × Nat} (hb:w.heap[b]?=some (.cells xg T fr)) (hw:∀x,x≠b→w'.heap[x]?=w.heap[x]?):∀(v:JV) (x:Value),v.solid=true→Rep w lo hi v x→Rep w' lo hi v x
 | .mk k n t ns xs,x,hs,h=>by
  unfold JV.solid at hs
  simp only [Bool.and_eq_true] at hs
  unfold Rep at h ⊢
  obtain ⟨an,cn,ai,ci,rfl,h3,h4,h5,h6⟩:=h
  refine ⟨an,cn,ai,ci,rfl,h3,h4,h5.skip hb hw hs.1.2,?_⟩
  rcases h6 with h6|⟨b0,off,ha,hb0,hb1,hu,hr⟩
  · exact .inl h6
  · by_cases hx:xs=[]
    · exact .inl hx
    · have hne:b0≠b:=fun e=>by
       subst e
       cases xs with
       | nil=>exact hx rfl
       | cons y r =>
        unfold zW at hr
        obtain ⟨⟨c0,c1,c2,c3,c4,e0,-,-,-,-,-,hv⟩,-⟩:=hr
        obtain ⟨k',n',t',ns',xs'⟩:=y
        unfold Rep at hv
        obtain ⟨_,_,_,_,hv,-⟩:=hv
        simp only [Value.agg.injEq,Array.mk.injEq,List.cons.injEq] at hv
        rw [hv.1] at e0
        have:=c8 hb e0
        have h2:=hs.2
        unfold JV.solids at h2
        unfold JV.solid at h2
        simp only [Bool.and_eq_true,decide_eq_true_eq] at h2
        exact h2.1.1.1 this
      exact .inr ⟨b0,off,ha,hb0,hb1,hu.carry lz (hw b0 hne),zW.skip hb hw xs b0 off hne hs.2 hr⟩
theorem zW.skip {w w':World} {lo hi b T:Nat} {fr:Nat × Nat} (hb:w.heap[b]?=some (.cells xg T fr)) (hw:∀x,x≠b→w'.heap[x]?=w.heap[x]?):∀(l:List JV) (b0 off:Nat),b0≠b→JV.solids l=true→zW w lo hi l b0 off→zW w' lo hi l b0 off
 | [],_,_,_,_,_=>by unfold zW;trivial
 | v :: r,b0,off,hne,hs,h=>by
  unfold JV.solids at hs
  simp only [Bool.and_eq_true] at hs
  unfold zW at h ⊢
  obtain ⟨⟨c0,c1,c2,c3,c4,e0,e1,e2,e3,e4,hf,hv⟩,hr⟩:=h
  have hz:w'.frozen? ⟨b0,off,none⟩=w.frozen? ⟨b0,off,none⟩:=World.frozen?_of_block (w:=w) (hw b0 hne)
  have hc:∀o,w'.cell? ⟨b0,o,none⟩=w.cell? ⟨b0,o,none⟩:=fun o=>World.cell?_of_block (w:=w) (hw b0 hne)
  exact ⟨⟨c0,c1,c2,c3,c4,by rw [hc,e0],by rw [hc,e1],by rw [hc,e2],by rw [hc,e3],by rw [hc,e4],by rw [hz,hf],Rep.skip hb hw v _ hs.1 hv⟩,zW.skip hb hw r b0 (off+5) hne hs.2 hr⟩
end
end Go.Proofs.YtnlgmcapbbgelaaGreatDoor
