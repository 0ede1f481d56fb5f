/- Rows of pairs of texts that the call has made, and what an element of a row of keys is. -/
import Derived.StillTail
import Derived.RegionTactic
import Derived.KernelRfl
import Derived.Test.YtnlgmcapbbgelaaGreatDoorRx02

namespace Go.Proofs.YtnlgmcapbbgelaaGreatDoor
open Go.RowKit
theorem vE (w:World) (o o':Obj):((w.alloc o).alloc o').heap[w.heap.size+1]?=some o':=by
 have:=heap_alloc_new (w.alloc o) o'
 rwa [show (w.alloc o).heap.size=w.heap.size+1 by simp] at this
theorem xG (w:World) (o o':Obj):((w.alloc o).alloc o').heap[w.heap.size]?=some o:=(Below.heap_alloc _ _ _ (by simp)).trans (heap_alloc_new w o)
end Go.Proofs.YtnlgmcapbbgelaaGreatDoor

namespace Go.Proofs.YtnlgmcapbbgelaaGreatDoor
open Go.ChangeShapes Go.WideShapes Go.ChangeAt Go.RowKit Go.Joins Go.Deep
section
variable {H:Type} {enc:TypeId × Value→H} {P:Program} {w:World} {spare:Nat→Bool} {held:Bool}
end
end Go.Proofs.YtnlgmcapbbgelaaGreatDoor

namespace Go.Proofs.YtnlgmcapbbgelaaGreatDoor
open Go
section
variable {P:Program} {ops:Array Oper} {md:Region.Mode} {Q:Exit→Act→World→Prop}
def pn (md:Region.Mode) (ops:Array Oper) (n:Nat):Bool :=
 (List.range n).all fun i=>match ops[i]? with
  | some o=>o.after.all fun e=>!(Region.binds md e) || decide (e.on<i)
  | none=>false
def ff (md:Region.Mode) (ops:Array Oper) (d:Nat→Prop) (i:Nat):Prop :=
 ∀o,ops[i]?=some o→∀e ∈ o.after,Region.binds md e=true→d e.on
def zF (listed:Array Bool):Nat→Prop:=fun i=>listed.getD i false=true
theorem gp {listed:Array Bool} {i:Nat} (hi:i<listed.size):zF (listed.setIfInBounds i true)=fun j=>j=i∨zF listed j:=by
 funext j
 apply propext
 unfold zF
 by_cases h:i=j
 · subst h
   simp [hi]
 · rw [getD_set_ne false h]
   constructor
   · exact .inr
   · rintro (e|e)
     · exact absurd e.symm h
     · exact e
theorem mg {n:Nat} {listed:Array Bool} (hd:pn md ops n=true) (inv:HeadInv md ops n listed) (hn:n<ops.size) :
 ∀i,i<n→listed.getD i false=false→Region.ready md ops listed≠[]:=by
 intro i
 induction i using Nat.strongRecOn with
 | _ i ih =>
  intro hi hun h0
  have h1:=List.all_eq_true.1 hd i (List.mem_range.2 hi)
  cases ho:ops[i]? with
  | none=>rw [ho] at h1;cases h1
  | some o =>
   rw [ho] at h1
   by_cases hall:∀e ∈ o.after,Region.binds md e=true→listed.getD e.on false=true
   · have:i ∈ Region.ready md ops listed:=mem_ready.2 ⟨getD_in (by rw [inv.size];omega) hun,o,ho,hall⟩
     rw [h0] at this
     cases this
   · have:∃e,e ∈ o.after∧Region.binds md e=true∧listed.getD e.on false=false:=by
      apply Classical.byContradiction
      intro hne
      apply hall
      intro e he hb
      cases hl:listed.getD e.on false with
      | true=>rfl
      | false=>exact absurd ⟨e,he,hb,hl⟩ hne
     obtain ⟨e,he,hb,hl⟩:=this
     have h2:=Array.all_eq_true'.1 h1 e he
     simp only [hb,Bool.not_true,Bool.false_or,decide_eq_true_eq] at h2
     exact ih e.on h2 (by omega) hl h0
def xU (n:Nat) (listed:Array Bool):Nat:=((List.range n).filter fun i=>!(listed.getD i false)).length
theorem gf (listed:Array Bool) (i:Nat) (hl:listed.getD i false=false) (hs:i<listed.size):∀n,
 ((List.range n).filter fun j=>!((listed.setIfInBounds i true).getD j false)).length+(if i<n then 1 else 0)=((List.range n).filter fun j=>!(listed.getD j false)).length:=by
 intro n
 induction n with
 | zero=>simp
 | succ n ih =>
  rw [List.range_succ,List.filter_append,List.filter_append,List.length_append,List.length_append,← ih]
  by_cases h:i=n
  · subst h
    have e1:(listed.setIfInBounds i true).getD i false=true:=by simp [hs]
    simp only [List.filter_cons,List.filter_nil,e1,hl]
    simp
  · have e:(if i<n+1 then 1 else 0)=(if i<n then 1 else 0):=by
     by_cases h2:i<n
     · rw [if_pos h2,if_pos (Nat.lt_succ_of_lt h2)]
     · rw [if_neg h2,if_neg (fun h3=>h2 (by omega))]
    rw [e]
    simp only [List.filter_cons,List.filter_nil]
    rw [getD_set_ne false h]
    omega
theorem gh {n i:Nat} {listed:Array Bool} (hi:i<n) (hs:i<listed.size) (hl:listed.getD i false=false):xU n (listed.setIfInBounds i true)+1=xU n listed:=by
 have:=gf listed i hl hs n
 rw [if_pos hi] at this
 exact this
theorem ya {n:Nat} {listed:Array Bool} (h:xU n listed=0):∀i,i<n→listed.getD i false=true:=by
 intro i hi
 unfold xU at h
 rw [List.length_eq_zero_iff,List.filter_eq_nil_iff] at h
 have:=h i (List.mem_range.2 hi)
 simpa using this
theorem gu {n:Nat} {listed:Array Bool} (h:0<xU n listed):∃i,i<n∧listed.getD i false=false:=by
 unfold xU at h
 obtain ⟨i,hi⟩:=List.exists_mem_of_length_pos h
 rw [List.mem_filter] at hi
 exact ⟨i,List.mem_range.1 hi.1,by simpa using hi.2⟩
theorem pt {n g:Nat} (I:(Nat→Prop)→Act→World→Prop)
 (hs:Region.sinkB md ops n=true) (hc:Region.chainB md ops n=true) (hn:n<ops.size) (hd:pn md ops n=true)
 (step:∀d a w,I d a w→∀i,i<n→¬d i→ff md ops d i→wpOp P ops Q i (I (fun j=>j=i∨d j)) a w)
 (last:∀listed a w,HeadInv md ops n listed→(∀i,i<n→listed.getD i false=true)→I (zF listed) a w→wpAny P md ops Q g listed a w) :
 ∀(f:Nat) (listed:Array Bool) (a:Act) (w:World),HeadInv md ops n listed→xU n listed=f→I (zF listed) a w→wpAny P md ops Q (f+g) listed a w
 | 0,listed,a,w,inv,h0,h=>by rw [Nat.zero_add];exact last listed a w inv (ya h0) h
 | f+1,listed,a,w,inv,h0,h=>by
  rw [show f+1+g=(f+g)+1 by omega]
  obtain ⟨i,hi,hl⟩:=gu (n:=n) (listed:=listed) (by omega)
  refine ⟨fun h1=>absurd h1 (mg hd inv hn i hi hl),fun j hj=>?_⟩
  have hjn:j<n:=by
   rcases Nat.lt_or_ge j n with h|h
   · exact h
   · exact absurd hj (tail_waits hs hc hn inv _ i rfl hi (getD_in (by rw [inv.size];omega) hl) j h)
  obtain ⟨hun,oj,hoj,hall⟩:=mem_ready.1 hj
  have hjs:j<listed.size:=by rw [inv.size];omega
  have hun':=getD_both hun
  refine wpOp_mono (fun a' w' h'=>pt I hs hc hn hd step last f _ a' w' (inv.set hj hjn) ?_ ?_) (step (zF listed) a w h j hjn ?_ ?_)
  · have:=gh hjn hjs hun';omega
  · rw [gp hjs];exact h'
  · unfold zF;rw [hun'];simp
  · intro o ho e he hb
    have:o=oj:=Option.some.inj (ho.symm.trans hoj)
    subst this
    exact hall e he hb
def jM (n m:Nat):Array Bool:=((List.range m).map fun i=>decide (i<n)).toArray
theorem yt {n:Nat} {listed:Array Bool} (inv:HeadInv md ops n listed) (h:∀i,i<n→listed.getD i false=true):listed=jM n ops.size:=by
 apply Array.ext
 · simp [jM,inv.size]
 · intro i h1 h2
   by_cases hi:i<n
   · have:=h i hi
     simp [jM,hi]
     simpa [h1] using this
   · have:=getD_both (inv.tail i (by omega) (by rw [← inv.size];exact h1))
     simp [jM,hi]
     simpa [h1] using this
theorem xJ {id:Nat} {a:Act} {w:World} {l:List Oper} (n:Nat) (I:(Nat→Prop)→Act→World→Prop) (hm:P.follows .mixedOrders=true)
 (hB:(decide (n<l.length) && Region.sinkB .any l.toArray n && Region.chainB .any l.toArray n && pn .any l.toArray n && Region.seqB .any l.toArray (l.length - n) n (jM n l.length))=true)
 (first:I (fun _=>False) a { w with drawn:=w.drawn+1 })
 (step:∀d a w,I d a w→∀i,i<n→¬d i→ff .any l.toArray d i→wpOp P l.toArray Q i (I (fun j=>j=i∨d j)) a w)
 (last:∀d a w,(∀i,i<n→d i)→I d a w→wpList P l.toArray Q (l.drop n) a w):(Code.region id l.toArray true).wp P Q a w:=by
 simp only [Bool.and_eq_true,decide_eq_true_eq] at hB
 obtain ⟨⟨⟨⟨hn,hs⟩,hc⟩,hd⟩,hq⟩:=hB
 refine wp_region_any hm ?_
 have inv0:HeadInv .any l.toArray n (Array.replicate l.toArray.size false) :=
  ⟨by simp,fun j oj _ hl=>(by rw [getD_replicate_false] at hl;cases hl),fun t _ ht=>getD_in (by simpa using ht) (getD_replicate_false _ _)⟩
 have h0:zF (Array.replicate l.toArray.size false)=fun _=>False:=by
  funext i;unfold zF;rw [getD_replicate_false];simp
 have hz:xU n (Array.replicate l.toArray.size false)=n:=by
  unfold xU
  rw [List.filter_eq_self.2 (fun i _=>by rw [getD_replicate_false];rfl),List.length_range]
 have hdl:(l.drop n).length=l.length - n:=by simp
 have:=pt (P:=P) (Q:=Q) (g:=l.length - n) I hs hc (by simpa using hn) hd step (fun listed a' w' inv hall hI=>by
  have hf:=yt inv hall
  have hr:=last (zF listed) a' w' hall hI
  have:=wpAny_of_seq (md:=.any) (Q':=Q) (l.drop n) n listed a' w' (fun j=>by simp [List.getElem?_drop]) (by rw [hdl,hf];simpa using hq) hr
  rwa [hdl] at this) n _ a { w with drawn:=w.drawn+1 } inv0 hz (by rw [h0];exact first)
 rw [show n+(l.length - n)=l.toArray.size by simp;omega] at this
 exact this
end
end Go.Proofs.YtnlgmcapbbgelaaGreatDoor

namespace Go.Proofs.YtnlgmcapbbgelaaGreatDoor
open Go.RowKit
structure MP where
 p:World→Value→Prop
 mono:∀(w w':World) (x:Value),Below w.heap.size w w'→p w x→p w' x
def MP.con (v:Value):MP:=⟨fun _ x=>x=v,fun _ _ _ _ h=>h⟩
def jC (B n T:Nat) (cs:Array Value) (w:World) (x:Value):Prop:=∃b,B≤b∧x=.slice (some ⟨b,0,none⟩) n n∧w.heap[b]?=some (.cells cs T (0,0))
theorem jC.mono {B n T:Nat} {cs:Array Value} {w w':World} {x:Value} (hb:Below w.heap.size w w') (h:jC B n T cs w x):jC B n T cs w' x:=by
 obtain ⟨b,h1,h2,h3⟩:=h
 exact ⟨b,h1,h2,by rw [hb.block _ (qz h3)];exact h3⟩
theorem jC.made {w:World} {B n T:Nat} (cs:Array Value) (hB:B≤w.heap.size):jC B n T cs (w.alloc (.cells cs T)) (.slice (some ⟨w.heap.size,0,none⟩) n n):=⟨_,hB,rfl,heap_alloc_new w _⟩
def MP.row (B n T:Nat) (cs:Array Value):MP:=⟨jC B n T cs,fun _ _ _ hb h=>h.mono hb⟩
def xm (wb:World) (V:List MP) (d:Nat→Prop) (w':World) (xs:List Value):Prop :=
 Below wb.heap.size wb w'∧xs.length=V.length∧∀(j:Nat) (m:MP) (x:Value),V[j]?=some m→xs[j]?=some x→d j→m.p w' x
theorem xm.first (wb:World) (V:List MP) (xs:List Value) (h:xs.length=V.length):xm wb V (fun _=>False) wb.drew xs:=⟨(Below.refl _ _).drew,h,fun _ _ _ _ _ hd=>hd.elim⟩
theorem xm.get {wb w':World} {V:List MP} {d:Nat→Prop} {xs:List Value} (h:xm wb V d w' xs) (j:Nat) (hd:d j) (m:MP) (hV:V[j]?=some m) (x:Value) (hx:xs[j]?=some x):m.p w' x:=h.2.2 j m x hV hx hd
theorem xm.did {wb w' w'':World} {V:List MP} {d:Nat→Prop} {xs:List Value} (h:xm wb V d w' xs) (hb:Below w'.heap.size w' w'') (j:Nat) (y:Value) (m:MP) (hV:V[j]?=some m) (hy:m.p w'' y):xm wb V (fun i=>i=j∨d i) w'' (xs.set j y):=by
 refine ⟨h.1.trans (hb.mono h.1.size),by rw [List.length_set];exact h.2.1,fun i m' x hm hx hd=>?_⟩
 by_cases e:i=j
 · subst e
   rw [hV] at hm
   cases hm
   have hl:i<xs.length:=by rw [h.2.1];exact (List.getElem?_eq_some_iff.1 hV).1
   rw [List.getElem?_set_self hl] at hx
   cases hx
   exact hy
 · rw [List.getElem?_set_ne (Ne.symm e)] at hx
   exact m'.mono _ _ _ hb (h.2.2 i m' x hm hx (hd.resolve_left e))
theorem xm.same {wb w':World} {V:List MP} {d:Nat→Prop} {xs:List Value} (h:xm wb V d w' xs) (j:Nat) (y:Value) (m:MP) (hV:V[j]?=some m) (hy:m.p w' y):xm wb V (fun i=>i=j∨d i) w' (xs.set j y):=h.did (Below.refl _ _) j y m hV hy
theorem xm.new {wb w':World} {V:List MP} {d:Nat→Prop} {xs:List Value} (h:xm wb V d w' xs) (o:Obj) (j:Nat) (y:Value) (m:MP) (hV:V[j]?=some m) (hy:m.p (w'.alloc o) y):xm wb V (fun i=>i=j∨d i) (w'.alloc o) (xs.set j y):=h.did ((Below.refl _ _).alloc lz _) j y m hV hy
theorem xm.con {wb w':World} {V l:List MP} {d:Nat→Prop} {xs:List Value} {v x:Value} (h:xm wb V d w' xs) (j:Nat) (hd:d j) (hV:Hid (V=l)) (e:l[j]?=some (.con v)) (hx:xs[j]?=some x):x=v:=h.get j hd (.con v) (by rw [hV.out];exact e) x hx
theorem xm.sameC {wb w':World} {V l:List MP} {d:Nat→Prop} {xs:List Value} (h:xm wb V d w' xs) (j:Nat) (y:Value) (hV:Hid (V=l)) (e:l[j]?=some (.con y)):xm wb V (fun i=>i=j∨d i) w' (xs.set j y):=h.same j y (.con y) (by rw [hV.out];exact e) rfl
theorem xm.didC {wb w' w'':World} {V l:List MP} {d:Nat→Prop} {xs:List Value} (h:xm wb V d w' xs) (hb:Below w'.heap.size w' w'') (j:Nat) (y:Value) (hV:Hid (V=l)) (e:l[j]?=some (.con y)):xm wb V (fun i=>i=j∨d i) w'' (xs.set j y):=h.did hb j y (.con y) (by rw [hV.out];exact e) rfl
end Go.Proofs.YtnlgmcapbbgelaaGreatDoor

namespace Go.Proofs.YtnlgmcapbbgelaaGreatDoor
open Go Go.RowKit
section
variable {P:Program} {ops:Array Oper} {md:Region.Mode} {Q:Exit→Act→World→Prop}
theorem fE {n:Nat} {listed:Array Bool} (hd:pn md ops n=true) (inv:HeadInv md ops n listed) (hn:n≤ops.size) :
 ∀i,i<n→listed.getD i false=false→Region.ready md ops listed≠[]:=by
 intro i
 induction i using Nat.strongRecOn with
 | _ i ih =>
  intro hi hun h0
  have h1:=List.all_eq_true.1 hd i (List.mem_range.2 hi)
  cases ho:ops[i]? with
  | none=>rw [ho] at h1;cases h1
  | some o =>
   rw [ho] at h1
   by_cases hall:∀e ∈ o.after,Region.binds md e=true→listed.getD e.on false=true
   · have:i ∈ Region.ready md ops listed:=mem_ready.2 ⟨getD_in (by rw [inv.size];omega) hun,o,ho,hall⟩
     rw [h0] at this
     cases this
   · have:∃e,e ∈ o.after∧Region.binds md e=true∧listed.getD e.on false=false:=by
      apply Classical.byContradiction
      intro hne
      apply hall
      intro e he hb
      cases hl:listed.getD e.on false with
      | true=>rfl
      | false=>exact absurd ⟨e,he,hb,hl⟩ hne
     obtain ⟨e,he,hb,hl⟩:=this
     have h2:=Array.all_eq_true'.1 h1 e he
     simp only [hb,Bool.not_true,Bool.false_or,decide_eq_true_eq] at h2
     exact ih e.on h2 (by omega) hl h0
theorem gm {n g:Nat} (I:(Nat→Prop)→Act→World→Prop) (hn:n=ops.size) (hd:pn md ops n=true)
 (step:∀d a w,I d a w→∀i,i<n→¬d i→ff md ops d i→wpOp P ops Q i (I (fun j=>j=i∨d j)) a w)
 (last:∀listed a w,HeadInv md ops n listed→(∀i,i<n→listed.getD i false=true)→I (zF listed) a w→wpAny P md ops Q g listed a w) :
 ∀(f:Nat) (listed:Array Bool) (a:Act) (w:World),HeadInv md ops n listed→xU n listed=f→I (zF listed) a w→wpAny P md ops Q (f+g) listed a w
 | 0,listed,a,w,inv,h0,h=>by rw [Nat.zero_add];exact last listed a w inv (ya h0) h
 | f+1,listed,a,w,inv,h0,h=>by
  rw [show f+1+g=(f+g)+1 by omega]
  obtain ⟨i,hi,hl⟩:=gu (n:=n) (listed:=listed) (by omega)
  refine ⟨fun h1=>absurd h1 (fE hd inv (by omega) i hi hl),fun j hj=>?_⟩
  obtain ⟨hun,oj,hoj,hall⟩:=mem_ready.1 hj
  have hjn:j<n:=by rw [hn];exact (Array.getElem?_eq_some_iff.1 hoj).1
  have hjs:j<listed.size:=by rw [inv.size];omega
  have hun':=getD_both hun
  refine wpOp_mono (fun a' w' h'=>gm I hn hd step last f _ a' w' (inv.set hj hjn) ?_ ?_) (step (zF listed) a w h j hjn ?_ ?_)
  · have:=gh hjn hjs hun';omega
  · rw [gp hjs];exact h'
  · unfold zF;rw [hun'];simp
  · intro o ho e he hb
    have:o=oj:=Option.some.inj (ho.symm.trans hoj)
    subst this
    exact hall e he hb
theorem b8 {id:Nat} {a:Act} {w:World} {l:List Oper} (I:(Nat→Prop)→Act→World→Prop) (hm:P.follows .mixedOrders=true) (n:Nat) (hl:l.length=n)
 (hB:(pn .any l.toArray n && Region.seqB .any l.toArray 0 n (jM n n))=true)
 (first:I (fun _=>False) a { w with drawn:=w.drawn+1 })
 (step:∀d a w,I d a w→∀i,i<n→¬d i→ff .any l.toArray d i→wpOp P l.toArray Q i (I (fun j=>j=i∨d j)) a w)
 (last:∀d a w,(∀i,i<n→d i)→I d a w→wpList P l.toArray Q [] a w):(Code.region id l.toArray true).wp P Q a w:=by
 subst hl
 simp only [Bool.and_eq_true] at hB
 obtain ⟨hd,hq⟩:=hB
 refine wp_region_any hm ?_
 have inv0:HeadInv .any l.toArray l.length (Array.replicate l.toArray.size false) :=
  ⟨by simp,fun j oj _ hl=>(by rw [getD_replicate_false] at hl;cases hl),fun t _ ht=>getD_in (by simpa using ht) (getD_replicate_false _ _)⟩
 have h0:zF (Array.replicate l.toArray.size false)=fun _=>False:=by
  funext i;unfold zF;rw [getD_replicate_false];simp
 have hz:xU l.length (Array.replicate l.toArray.size false)=l.length:=by
  unfold xU
  rw [List.filter_eq_self.2 (fun i _=>by rw [getD_replicate_false];rfl),List.length_range]
 have:=gm (P:=P) (Q:=Q) (g:=0) I (by simp) hd step (fun listed a' w' inv hall hI=>by
  have hf:=yt inv hall
  have hr:=last (zF listed) a' w' hall hI
  have:=wpAny_of_seq (P:=P) (md:=.any) (ops:=l.toArray) (Q':=Q) [] l.length listed a' w' (fun j=>by simp) (by rw [hf];simpa using hq) hr
  simpa using this) _ _ a { w with drawn:=w.drawn+1 } inv0 hz (by rw [h0];exact first)
 simpa using this
end
def upd (f:Nat→Value) (k:Nat) (y:Value):Nat→Value:=fun i=>if i=k then y else f i
def vF (wb:World) (V:List MP) (s:Nat) (d:Nat→Prop) (w':World) (f:Nat→Value):Prop :=
 Below wb.heap.size wb w'∧∀(j:Nat) (m:MP),V[j]?=some m→d j→m.p w' (f (s+j))
theorem vF.first (wb:World) (V:List MP) (s:Nat) (f:Nat→Value):vF wb V s (fun _=>False) wb.drew f:=⟨(Below.refl _ _).drew,fun _ _ _ hd=>hd.elim⟩
theorem vF.get {wb w':World} {V:List MP} {s:Nat} {d:Nat→Prop} {f:Nat→Value} (h:vF wb V s d w' f) (j:Nat) (hd:d j) (m:MP) (hV:V[j]?=some m):m.p w' (f (s+j)):=h.2 j m hV hd
theorem vF.did {wb w' w'':World} {V:List MP} {s:Nat} {d:Nat→Prop} {f:Nat→Value} (h:vF wb V s d w' f) (hb:Below w'.heap.size w' w'') (j:Nat) (y:Value) (m:MP) (hV:V[j]?=some m) (hy:m.p w'' y):vF wb V s (fun i=>i=j∨d i) w'' (upd f (s+j) y):=by
 refine ⟨h.1.trans (hb.mono h.1.size),fun i m' hm hd=>?_⟩
 unfold upd
 by_cases e:i=j
 · subst e
   rw [hV] at hm
   cases hm
   rw [if_pos rfl]
   exact hy
 · rw [if_neg (by omega)]
   exact m'.mono _ _ _ hb (h.2 i m' hm (hd.resolve_left e))
theorem vF.same {wb w':World} {V:List MP} {s:Nat} {d:Nat→Prop} {f:Nat→Value} (h:vF wb V s d w' f) (j:Nat) (y:Value) (m:MP) (hV:V[j]?=some m) (hy:m.p w' y):vF wb V s (fun i=>i=j∨d i) w' (upd f (s+j) y):=h.did (Below.refl _ _) j y m hV hy
theorem vF.new {wb w':World} {V:List MP} {s:Nat} {d:Nat→Prop} {f:Nat→Value} (h:vF wb V s d w' f) (o:Obj) (j:Nat) (y:Value) (m:MP) (hV:V[j]?=some m) (hy:m.p (w'.alloc o) y):vF wb V s (fun i=>i=j∨d i) (w'.alloc o) (upd f (s+j) y):=h.did ((Below.refl _ _).alloc lz _) j y m hV hy
end Go.Proofs.YtnlgmcapbbgelaaGreatDoor

namespace Go.Proofs.YtnlgmcapbbgelaaGreatDoor
open Go.RowKit
abbrev V5:=Value × Value × Value × Value × Value
theorem cell_of {w:World} {b T j:Nat} {cs:List Value} {u:Value} (h:w.heap[b]?=some (.cells cs.toArray T (0,0))) (hj:cs[j]?=some u):w.cell? ⟨b,j,none⟩=some u:=by
 simp [World.cell?,h,hj]
theorem f9 {w:World} {lo hi bn T1:Nat} (ns:List ByteArray) (h1:lo≤bn) (h2:bn<hi) (hN:w.heap[bn]?=some (.cells (ns.map Value.string).toArray T1 (0,0))):qk w lo hi (some ⟨bn,0,none⟩) ns :=
 .inr ⟨bn,0,rfl,h1,h2,fun i hi'=>by rw [Nat.zero_add];exact cell_of hN (by simp [hi'])⟩
def wq:Nat→Code→Code
 | 0,c=>c
 | n+1,.seq _ b=>wq n b
 | _+1,_=>.skip
def aW (w:World) (b off m:Nat):Prop:=∃cs t,w.heap[b]?=some (.cells cs t (0,0))∧off+m≤cs.size
theorem np:(Tryz.prog.info? 38).map (fun i=>(i.zero,i.size,i.bytes))=some (some (.agg #[.string ⟨#[]⟩,.string ⟨#[]⟩]),2,32):=by kernel_rfl
end Go.Proofs.YtnlgmcapbbgelaaGreatDoor
