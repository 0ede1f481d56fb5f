/- A region in a drawn order whose last but one operation stores, and one operation (k) may run before or behind that store: 'v, e := f(g(), h())'. No program in sight. -/
import Derived.StillTail
import Derived.RegionTactic
import Derived.KernelRfl
import Derived.Test.YtnlgmcapbbgelaaGreatDoorRn02

namespace Go.Proofs.YtnlgmcapbbgelaaGreatDoor
open Go.RowKit
theorem heap_two (w:World) (o o':Obj):((w.alloc o).alloc o').heap[w.heap.size+1]?=some o':=by
 have:=heap_alloc_new (w.alloc o) o'
 rwa [show (w.alloc o).heap.size=w.heap.size+1 by simp] at this
theorem heap_old (w:World) (o o':Obj):((w.alloc o).alloc o').heap[w.heap.size]?=some o:=(Below.heap_alloc _ _ _ (by simp)).trans (heap_alloc_new w o)
end Go.Proofs.YtnlgmcapbbgelaaGreatDoor

namespace Go.Proofs.YtnlgmcapbbgelaaGreatDoor
open Go.ChangeShapes Go.WideShapes Go.ChangeAt Go.RowKit Go.Joins Go.Deep
section
variable {H:Type} {enc:TypeId × Value→H} {P:Program} {w:World} {spare:Nat→Bool} {held:Bool}
end
end Go.Proofs.YtnlgmcapbbgelaaGreatDoor

namespace Go.Proofs.YtnlgmcapbbgelaaGreatDoor
open Go
section
variable {P:Program} {ops:Array Oper} {md:Region.Mode} {Q:Exit→Act→World→Prop}
def downB (md:Region.Mode) (ops:Array Oper) (n:Nat):Bool :=
 (List.range n).all fun i=>match ops[i]? with
  | some o=>o.after.all fun e=>!(Region.binds md e) || decide (e.on<i)
  | none=>false
def waited (md:Region.Mode) (ops:Array Oper) (d:Nat→Prop) (i:Nat):Prop :=
 ∀o,ops[i]?=some o→∀e ∈ o.after,Region.binds md e=true→d e.on
def doneOf (listed:Array Bool):Nat→Prop:=fun i=>listed.getD i false=true
theorem doneOf_set {listed:Array Bool} {i:Nat} (hi:i<listed.size):doneOf (listed.setIfInBounds i true)=fun j=>j=i∨doneOf listed j:=by
 funext j
 apply propext
 unfold doneOf
 by_cases h:i=j
 · subst h
   simp [hi]
 · rw [getD_set_ne false h]
   constructor
   · exact .inr
   · rintro (e|e)
     · exact absurd e.symm h
     · exact e
theorem ready_some {n:Nat} {listed:Array Bool} (hd:downB md ops n=true) (inv:HeadInv md ops n listed) (hn:n<ops.size) :
 ∀i,i<n→listed.getD i false=false→Region.ready md ops listed≠[]:=by
 intro i
 induction i using Nat.strongRecOn with
 | _ i ih =>
  intro hi hun h0
  have h1:=List.all_eq_true.1 hd i (List.mem_range.2 hi)
  cases ho:ops[i]? with
  | none=>rw [ho] at h1;cases h1
  | some o =>
   rw [ho] at h1
   by_cases hall:∀e ∈ o.after,Region.binds md e=true→listed.getD e.on false=true
   · have:i ∈ Region.ready md ops listed:=mem_ready.2 ⟨getD_in (by rw [inv.size];omega) hun,o,ho,hall⟩
     rw [h0] at this
     cases this
   · have:∃e,e ∈ o.after∧Region.binds md e=true∧listed.getD e.on false=false:=by
      apply Classical.byContradiction
      intro hne
      apply hall
      intro e he hb
      cases hl:listed.getD e.on false with
      | true=>rfl
      | false=>exact absurd ⟨e,he,hb,hl⟩ hne
     obtain ⟨e,he,hb,hl⟩:=this
     have h2:=Array.all_eq_true'.1 h1 e he
     simp only [hb,Bool.not_true,Bool.false_or,decide_eq_true_eq] at h2
     exact ih e.on h2 (by omega) hl h0
def openOf (n:Nat) (listed:Array Bool):Nat:=((List.range n).filter fun i=>!(listed.getD i false)).length
theorem filter_set_len (listed:Array Bool) (i:Nat) (hl:listed.getD i false=false) (hs:i<listed.size):∀n,
 ((List.range n).filter fun j=>!((listed.setIfInBounds i true).getD j false)).length+(if i<n then 1 else 0)=((List.range n).filter fun j=>!(listed.getD j false)).length:=by
 intro n
 induction n with
 | zero=>simp
 | succ n ih =>
  rw [List.range_succ,List.filter_append,List.filter_append,List.length_append,List.length_append,← ih]
  by_cases h:i=n
  · subst h
    have e1:(listed.setIfInBounds i true).getD i false=true:=by simp [hs]
    simp only [List.filter_cons,List.filter_nil,e1,hl]
    simp
  · have e:(if i<n+1 then 1 else 0)=(if i<n then 1 else 0):=by
     by_cases h2:i<n
     · rw [if_pos h2,if_pos (Nat.lt_succ_of_lt h2)]
     · rw [if_neg h2,if_neg (fun h3=>h2 (by omega))]
    rw [e]
    simp only [List.filter_cons,List.filter_nil]
    rw [getD_set_ne false h]
    omega
theorem openOf_set {n i:Nat} {listed:Array Bool} (hi:i<n) (hs:i<listed.size) (hl:listed.getD i false=false):openOf n (listed.setIfInBounds i true)+1=openOf n listed:=by
 have:=filter_set_len listed i hl hs n
 rw [if_pos hi] at this
 exact this
theorem openOf_zero {n:Nat} {listed:Array Bool} (h:openOf n listed=0):∀i,i<n→listed.getD i false=true:=by
 intro i hi
 unfold openOf at h
 rw [List.length_eq_zero_iff,List.filter_eq_nil_iff] at h
 have:=h i (List.mem_range.2 hi)
 simpa using this
theorem openOf_pos {n:Nat} {listed:Array Bool} (h:0<openOf n listed):∃i,i<n∧listed.getD i false=false:=by
 unfold openOf at h
 obtain ⟨i,hi⟩:=List.exists_mem_of_length_pos h
 rw [List.mem_filter] at hi
 exact ⟨i,List.mem_range.1 hi.1,by simpa using hi.2⟩
theorem wpAny_inv {n g:Nat} (I:(Nat→Prop)→Act→World→Prop)
 (hs:Region.sinkB md ops n=true) (hc:Region.chainB md ops n=true) (hn:n<ops.size) (hd:downB md ops n=true)
 (step:∀d a w,I d a w→∀i,i<n→¬d i→waited md ops d i→wpOp P ops Q i (I (fun j=>j=i∨d j)) a w)
 (last:∀listed a w,HeadInv md ops n listed→(∀i,i<n→listed.getD i false=true)→I (doneOf listed) a w→wpAny P md ops Q g listed a w) :
 ∀(f:Nat) (listed:Array Bool) (a:Act) (w:World),HeadInv md ops n listed→openOf n listed=f→I (doneOf listed) a w→wpAny P md ops Q (f+g) listed a w
 | 0,listed,a,w,inv,h0,h=>by rw [Nat.zero_add];exact last listed a w inv (openOf_zero h0) h
 | f+1,listed,a,w,inv,h0,h=>by
  rw [show f+1+g=(f+g)+1 by omega]
  obtain ⟨i,hi,hl⟩:=openOf_pos (n:=n) (listed:=listed) (by omega)
  refine ⟨fun h1=>absurd h1 (ready_some hd inv hn i hi hl),fun j hj=>?_⟩
  have hjn:j<n:=by
   rcases Nat.lt_or_ge j n with h|h
   · exact h
   · exact absurd hj (tail_waits hs hc hn inv _ i rfl hi (getD_in (by rw [inv.size];omega) hl) j h)
  obtain ⟨hun,oj,hoj,hall⟩:=mem_ready.1 hj
  have hjs:j<listed.size:=by rw [inv.size];omega
  have hun':=getD_both hun
  refine wpOp_mono (fun a' w' h'=>wpAny_inv I hs hc hn hd step last f _ a' w' (inv.set hj hjn) ?_ ?_) (step (doneOf listed) a w h j hjn ?_ ?_)
  · have:=openOf_set hjn hjs hun';omega
  · rw [doneOf_set hjs];exact h'
  · unfold doneOf;rw [hun'];simp
  · intro o ho e he hb
    have:o=oj:=Option.some.inj (ho.symm.trans hoj)
    subst this
    exact hall e he hb
def headFull (n m:Nat):Array Bool:=((List.range m).map fun i=>decide (i<n)).toArray
theorem headFull_of {n:Nat} {listed:Array Bool} (inv:HeadInv md ops n listed) (h:∀i,i<n→listed.getD i false=true):listed=headFull n ops.size:=by
 apply Array.ext
 · simp [headFull,inv.size]
 · intro i h1 h2
   by_cases hi:i<n
   · have:=h i hi
     simp [headFull,hi]
     simpa [h1] using this
   · have:=getD_both (inv.tail i (by omega) (by rw [← inv.size];exact h1))
     simp [headFull,hi]
     simpa [h1] using this
theorem wp_region_inv {id:Nat} {a:Act} {w:World} {l:List Oper} (n:Nat) (I:(Nat→Prop)→Act→World→Prop) (hm:P.follows .mixedOrders=true)
 (hB:(decide (n<l.length) && Region.sinkB .any l.toArray n && Region.chainB .any l.toArray n && downB .any l.toArray n && Region.seqB .any l.toArray (l.length - n) n (headFull n l.length))=true)
 (first:I (fun _=>False) a { w with drawn:=w.drawn+1 })
 (step:∀d a w,I d a w→∀i,i<n→¬d i→waited .any l.toArray d i→wpOp P l.toArray Q i (I (fun j=>j=i∨d j)) a w)
 (last:∀d a w,(∀i,i<n→d i)→I d a w→wpList P l.toArray Q (l.drop n) a w):(Code.region id l.toArray true).wp P Q a w:=by
 simp only [Bool.and_eq_true,decide_eq_true_eq] at hB
 obtain ⟨⟨⟨⟨hn,hs⟩,hc⟩,hd⟩,hq⟩:=hB
 refine wp_region_any hm ?_
 have inv0:HeadInv .any l.toArray n (Array.replicate l.toArray.size false) :=
  ⟨by simp,fun j oj _ hl=>(by rw [getD_replicate_false] at hl;cases hl),fun t _ ht=>getD_in (by simpa using ht) (getD_replicate_false _ _)⟩
 have h0:doneOf (Array.replicate l.toArray.size false)=fun _=>False:=by
  funext i;unfold doneOf;rw [getD_replicate_false];simp
 have hz:openOf n (Array.replicate l.toArray.size false)=n:=by
  unfold openOf
  rw [List.filter_eq_self.2 (fun i _=>by rw [getD_replicate_false];rfl),List.length_range]
 have hdl:(l.drop n).length=l.length - n:=by simp
 have:=wpAny_inv (P:=P) (Q:=Q) (g:=l.length - n) I hs hc (by simpa using hn) hd step (fun listed a' w' inv hall hI=>by
  have hf:=headFull_of inv hall
  have hr:=last (doneOf listed) a' w' hall hI
  have:=wpAny_of_seq (md:=.any) (Q':=Q) (l.drop n) n listed a' w' (fun j=>by simp [List.getElem?_drop]) (by rw [hdl,hf];simpa using hq) hr
  rwa [hdl] at this) n _ a { w with drawn:=w.drawn+1 } inv0 hz (by rw [h0];exact first)
 rw [show n+(l.length - n)=l.toArray.size by simp;omega] at this
 exact this
end
end Go.Proofs.YtnlgmcapbbgelaaGreatDoor

namespace Go.Proofs.YtnlgmcapbbgelaaGreatDoor
open Go.RowKit
def Room (w:World) (b off m:Nat):Prop:=∃cs t,w.heap[b]?=some (.cells cs t (0,0))∧off+m≤cs.size
theorem infoKey:(Tryz.prog.info? 38).map (fun i=>(i.zero,i.size,i.bytes))=some (some (.agg #[.string ⟨#[]⟩,.string ⟨#[]⟩]),2,32):=by kernel_rfl
structure MP where
 p:World→Value→Prop
 mono:∀(w w':World) (x:Value),Below w.heap.size w w'→p w x→p w' x
def MP.con (v:Value):MP:=⟨fun _ x=>x=v,fun _ _ _ _ h=>h⟩
def IsRow (B n T:Nat) (cs:Array Value) (w:World) (x:Value):Prop:=∃b,B≤b∧x=.slice (some ⟨b,0,none⟩) n n∧w.heap[b]?=some (.cells cs T (0,0))
theorem IsRow.mono {B n T:Nat} {cs:Array Value} {w w':World} {x:Value} (hb:Below w.heap.size w w') (h:IsRow B n T cs w x):IsRow B n T cs w' x:=by
 obtain ⟨b,h1,h2,h3⟩:=h
 exact ⟨b,h1,h2,by rw [hb.block _ (heap_lt h3)];exact h3⟩
theorem IsRow.made {w:World} {B n T:Nat} (cs:Array Value) (hB:B≤w.heap.size):IsRow B n T cs (w.alloc (.cells cs T)) (.slice (some ⟨w.heap.size,0,none⟩) n n):=⟨_,hB,rfl,heap_alloc_new w _⟩
def MP.row (B n T:Nat) (cs:Array Value):MP:=⟨IsRow B n T cs,fun _ _ _ hb h=>h.mono hb⟩
def RegI (wb:World) (V:List MP) (d:Nat→Prop) (w':World) (xs:List Value):Prop :=
 Below wb.heap.size wb w'∧xs.length=V.length∧∀(j:Nat) (m:MP) (x:Value),V[j]?=some m→xs[j]?=some x→d j→m.p w' x
theorem RegI.first (wb:World) (V:List MP) (xs:List Value) (h:xs.length=V.length):RegI wb V (fun _=>False) wb.drew xs:=⟨(Below.refl _ _).drew,h,fun _ _ _ _ _ hd=>hd.elim⟩
theorem RegI.get {wb w':World} {V:List MP} {d:Nat→Prop} {xs:List Value} (h:RegI wb V d w' xs) (j:Nat) (hd:d j) (m:MP) (hV:V[j]?=some m) (x:Value) (hx:xs[j]?=some x):m.p w' x:=h.2.2 j m x hV hx hd
theorem RegI.did {wb w' w'':World} {V:List MP} {d:Nat→Prop} {xs:List Value} (h:RegI wb V d w' xs) (hb:Below w'.heap.size w' w'') (j:Nat) (y:Value) (m:MP) (hV:V[j]?=some m) (hy:m.p w'' y):RegI wb V (fun i=>i=j∨d i) w'' (xs.set j y):=by
 refine ⟨h.1.trans (hb.mono h.1.size),by rw [List.length_set];exact h.2.1,fun i m' x hm hx hd=>?_⟩
 by_cases e:i=j
 · subst e
   rw [hV] at hm
   cases hm
   have hl:i<xs.length:=by rw [h.2.1];exact (List.getElem?_eq_some_iff.1 hV).1
   rw [List.getElem?_set_self hl] at hx
   cases hx
   exact hy
 · rw [List.getElem?_set_ne (Ne.symm e)] at hx
   exact m'.mono _ _ _ hb (h.2.2 i m' x hm hx (hd.resolve_left e))
theorem RegI.same {wb w':World} {V:List MP} {d:Nat→Prop} {xs:List Value} (h:RegI wb V d w' xs) (j:Nat) (y:Value) (m:MP) (hV:V[j]?=some m) (hy:m.p w' y):RegI wb V (fun i=>i=j∨d i) w' (xs.set j y):=h.did (Below.refl _ _) j y m hV hy
theorem RegI.new {wb w':World} {V:List MP} {d:Nat→Prop} {xs:List Value} (h:RegI wb V d w' xs) (o:Obj) (j:Nat) (y:Value) (m:MP) (hV:V[j]?=some m) (hy:m.p (w'.alloc o) y):RegI wb V (fun i=>i=j∨d i) (w'.alloc o) (xs.set j y):=h.did ((Below.refl _ _).alloc lz _) j y m hV hy
theorem RegI.con {wb w':World} {V l:List MP} {d:Nat→Prop} {xs:List Value} {v x:Value} (h:RegI wb V d w' xs) (j:Nat) (hd:d j) (hV:Hid (V=l)) (e:l[j]?=some (.con v)) (hx:xs[j]?=some x):x=v:=h.get j hd (.con v) (by rw [hV.out];exact e) x hx
theorem RegI.sameC {wb w':World} {V l:List MP} {d:Nat→Prop} {xs:List Value} (h:RegI wb V d w' xs) (j:Nat) (y:Value) (hV:Hid (V=l)) (e:l[j]?=some (.con y)):RegI wb V (fun i=>i=j∨d i) w' (xs.set j y):=h.same j y (.con y) (by rw [hV.out];exact e) rfl
theorem RegI.didC {wb w' w'':World} {V l:List MP} {d:Nat→Prop} {xs:List Value} (h:RegI wb V d w' xs) (hb:Below w'.heap.size w' w'') (j:Nat) (y:Value) (hV:Hid (V=l)) (e:l[j]?=some (.con y)):RegI wb V (fun i=>i=j∨d i) w'' (xs.set j y):=h.did hb j y (.con y) (by rw [hV.out];exact e) rfl
theorem step_store_row {P:Program} {ops:Array Oper} {o:Oper} {a:Act} {w:World} {K:Act→World→Prop} {Q:Exit→Act→World→Prop} {E:Prop} (hgd:o.guard=none) (ty:TypeId) (x y:Operand) (ho:o.op=.store ty x y)
 (g:Nat) (cells:Array Value) (hx:a.eval x=.pointer (some ⟨g,0,none⟩)) (hy:a.eval y=.agg cells)
 (t:TypeId) (old:Array Value) (hg:w.heap[g]?=some (.cells old t (0,0))) (hi:(P.info? ty).map (·.size)=some cells.size)
 (hold:old.size=cells.size) (h1:cells.all (·.oneCell')=true)
 (h:K (a.put o.dst undef) (w.setRow g cells)):if Region.wanted o (yielded ops a.tmps)=true then Oper.wp P o a w K Q else E:=by
 have hw:Region.wanted o (yielded ops a.tmps)=true:=by simp [Region.wanted,hgd]
 rw [if_pos hw]
 exact wp_store_row ty x y ho g cells hx hy t old hg hi hold h1 h
theorem below_setRowN {B g:Nat} {w0 w:World} (hb:Below B w0 w) (hBg:B≤g) (cs:Array Value):Below B w0 (w.setRow g cs):=by
 refine ⟨hb.os,hb.tape,hb.output,by simpa [World.setRow] using hb.size,fun b hlt=>?_⟩
 rw [← hb.block b hlt]
 simp only [World.setRow,Array.getElem?_modify]
 rw [if_neg (by omega)]
def IsBlk (B T:Nat) (cs:Array Value) (w:World) (x:Value):Prop:=∃b,B≤b∧x=.pointer (some ⟨b,0,none⟩)∧w.heap[b]?=some (.cells cs T (0,0))
theorem IsBlk.mono {B T:Nat} {cs:Array Value} {w w':World} {x:Value} (hb:Below w.heap.size w w') (h:IsBlk B T cs w x):IsBlk B T cs w' x:=by
 obtain ⟨b,h1,h2,h3⟩:=h
 exact ⟨b,h1,h2,by rw [hb.block _ (heap_lt h3)];exact h3⟩
theorem IsBlk.made {w:World} {B T:Nat} (cs:Array Value) (hB:B≤w.heap.size):IsBlk B T cs (w.alloc (.cells cs T)) (.pointer (some ⟨w.heap.size,0,none⟩)):=⟨_,hB,rfl,heap_alloc_new w _⟩
def MP.blk (B T:Nat) (cs:Array Value):MP:=⟨IsBlk B T cs,fun _ _ _ hb h=>h.mono hb⟩
mutual
def JV.solid:JV→Bool
 | .mk k _ _ ns xs=>decide (k≠0) && ns.all (fun n=>decide (n≠⟨#[]⟩)) && JV.solids xs
def JV.solids:List JV→Bool
 | []=>true
 | x :: r=>JV.solid x && JV.solids r
end
def zero5:Array Value:=#[.int .u8 0,.int .i64 0,.string ⟨#[]⟩,.slice none 0 0,.slice none 0 0]
theorem zero5_str {w:World} {b off T:Nat} {fr:Nat × Nat} {t:ByteArray} (hb:w.heap[b]?=some (.cells zero5 T fr)) (h:w.cell? ⟨b,off,none⟩=some (.string t)):t=⟨#[]⟩:=by
 have e:w.cell? ⟨b,off,none⟩=zero5[off]?:=by simp [World.cell?,hb]
 rw [e] at h
 match off,h with
 | 0,h=>simp [zero5] at h
 | 1,h=>simp [zero5] at h
 | 2,h=>simpa [zero5] using h.symm
 | 3,h=>simp [zero5] at h
 | 4,h=>simp [zero5] at h
 | n+5,h=>simp [zero5] at h
theorem zero5_num {w:World} {b off T:Nat} {fr:Nat × Nat} {k:Int} (hb:w.heap[b]?=some (.cells zero5 T fr)) (h:w.cell? ⟨b,off,none⟩=some (.int .u8 k)):k=0:=by
 have e:w.cell? ⟨b,off,none⟩=zero5[off]?:=by simp [World.cell?,hb]
 rw [e] at h
 match off,h with
 | 0,h=>simpa [zero5] using h.symm
 | 1,h=>simp [zero5] at h
 | 2,h=>simp [zero5] at h
 | 3,h=>simp [zero5] at h
 | 4,h=>simp [zero5] at h
 | n+5,h=>simp [zero5] at h
theorem StrsAt.skip {w w':World} {lo hi b T:Nat} {fr:Nat × Nat} {a:Option Addr} {l:List ByteArray} (hb:w.heap[b]?=some (.cells zero5 T fr)) (hw:∀x,x≠b→w'.heap[x]?=w.heap[x]?) (hl:l.all (fun n=>decide (n≠⟨#[]⟩))=true) (h:StrsAt w lo hi a l):StrsAt w' lo hi a l:=by
 rcases h with h|⟨b0,off,ha,h1,h2,hc⟩
 · exact .inl h
 · by_cases e:b0=b
   · subst e
     cases l with
     | nil=>exact .inl rfl
     | cons x r =>
      have:=zero5_str hb (hc 0 (by simp))
      simp only [List.all_cons,Bool.and_eq_true,decide_eq_true_eq] at hl
      exact absurd this hl.1
   · exact .inr ⟨b0,off,ha,h1,h2,fun i hi=>(World.cell?_of_block (w:=w) (hw b0 e)).trans (hc i hi)⟩
mutual
theorem Rep.skip {w w':World} {lo hi b T:Nat} {fr:Nat × Nat} (hb:w.heap[b]?=some (.cells zero5 T fr)) (hw:∀x,x≠b→w'.heap[x]?=w.heap[x]?):∀(v:JV) (x:Value),v.solid=true→Rep w lo hi v x→Rep w' lo hi v x
 | .mk k n t ns xs,x,hs,h=>by
  unfold JV.solid at hs
  simp only [Bool.and_eq_true] at hs
  unfold Rep at h ⊢
  obtain ⟨an,cn,ai,ci,rfl,h3,h4,h5,h6⟩:=h
  refine ⟨an,cn,ai,ci,rfl,h3,h4,h5.skip hb hw hs.1.2,?_⟩
  rcases h6 with h6|⟨b0,off,ha,hb0,hb1,hu,hr⟩
  · exact .inl h6
  · by_cases hx:xs=[]
    · exact .inl hx
    · have hne:b0≠b:=fun e=>by
       subst e
       cases xs with
       | nil=>exact hx rfl
       | cons y r =>
        unfold RepL at hr
        obtain ⟨⟨c0,c1,c2,c3,c4,e0,-,-,-,-,-,hv⟩,-⟩:=hr
        obtain ⟨k',n',t',ns',xs'⟩:=y
        unfold Rep at hv
        obtain ⟨_,_,_,_,hv,-⟩:=hv
        simp only [Value.agg.injEq,Array.mk.injEq,List.cons.injEq] at hv
        rw [hv.1] at e0
        have:=zero5_num hb e0
        have h2:=hs.2
        unfold JV.solids at h2
        unfold JV.solid at h2
        simp only [Bool.and_eq_true,decide_eq_true_eq] at h2
        exact h2.1.1.1 this
      exact .inr ⟨b0,off,ha,hb0,hb1,hu.carry lz (hw b0 hne),RepL.skip hb hw xs b0 off hne hs.2 hr⟩
theorem RepL.skip {w w':World} {lo hi b T:Nat} {fr:Nat × Nat} (hb:w.heap[b]?=some (.cells zero5 T fr)) (hw:∀x,x≠b→w'.heap[x]?=w.heap[x]?):∀(l:List JV) (b0 off:Nat),b0≠b→JV.solids l=true→RepL w lo hi l b0 off→RepL w' lo hi l b0 off
 | [],_,_,_,_,_=>by unfold RepL;trivial
 | v :: r,b0,off,hne,hs,h=>by
  unfold JV.solids at hs
  simp only [Bool.and_eq_true] at hs
  unfold RepL at h ⊢
  obtain ⟨⟨c0,c1,c2,c3,c4,e0,e1,e2,e3,e4,hf,hv⟩,hr⟩:=h
  have hz:w'.frozen? ⟨b0,off,none⟩=w.frozen? ⟨b0,off,none⟩:=World.frozen?_of_block (w:=w) (hw b0 hne)
  have hc:∀o,w'.cell? ⟨b0,o,none⟩=w.cell? ⟨b0,o,none⟩:=fun o=>World.cell?_of_block (w:=w) (hw b0 hne)
  exact ⟨⟨c0,c1,c2,c3,c4,by rw [hc,e0],by rw [hc,e1],by rw [hc,e2],by rw [hc,e3],by rw [hc,e4],by rw [hz,hf],Rep.skip hb hw v _ hs.1 hv⟩,RepL.skip hb hw r b0 (off+5) hne hs.2 hr⟩
end
def tailCode:Nat→Code→Code
 | 0,c=>c
 | n+1,.seq _ b=>tailCode n b
 | _+1,_=>.skip
end Go.Proofs.YtnlgmcapbbgelaaGreatDoor

namespace Go.Proofs.YtnlgmcapbbgelaaGreatDoor
theorem wp_region_free {P:Program} {Q:Exit→Act→World→Prop} {id:Nat} {a:Act} {w:World} {l:List Oper} (n k:Nat) (I:(Nat→Prop)→Act→World→Prop) (F:Prop→Act→World→Prop) (hm:P.follows .mixedOrders=true)
 (hB:(decide (n+1<l.length) && Region.sinkB .any l.toArray (n+1) && Region.chainB .any l.toArray (n+1) && downB .any l.toArray (n+1) && Region.seqB .any l.toArray (l.length - (n+1)) (n+1) (headFull (n+1) l.length))=true)
 (hW:(decide (k<n) && (List.range n).all fun i=>decide (i=k) || Region.waitsFor .any l.toArray n i)=true)
 (first:I (fun _=>False) a { w with drawn:=w.drawn+1 })
 (step:∀d a w,I d a w→∀i,i<n→¬d i→waited .any l.toArray d i→wpOp P l.toArray Q i (I (fun j=>j=i∨d j)) a w)
 (store:∀d a w,I d a w→(∀i,i<n→i≠k→d i)→wpOp P l.toArray Q n (F (d k)) a w)
 (late:∀a w,F False a w→wpOp P l.toArray Q k (F True) a w)
 (last:∀a w,F True a w→wpList P l.toArray Q (l.drop (n+1)) a w):(Code.region id l.toArray true).wp P Q a w:=by
 simp only [Bool.and_eq_true,decide_eq_true_eq] at hW
 obtain ⟨hkn,hW⟩:=hW
 refine wp_region_inv (n+1) (fun d a w=>(¬d n∧I d a w)∨(d n∧(∀i,i<n→i≠k→d i)∧F (d k) a w)) hm hB (.inl ⟨fun h=>h,first⟩) ?_ ?_
 · intro d a w h i hi hnd hw
   rcases h with ⟨h1,h2⟩|⟨h1,h2,h3⟩
   · by_cases e:i=n
     · subst e
       refine wpOp_mono (fun a' w' h'=>.inr ⟨.inl rfl,fun j hj hjk=>.inr ?_,?_⟩) (store d a w h2 ?_)
       · have:=List.all_eq_true.1 hW j (List.mem_range.2 hj)
         rw [decide_eq_false hjk,Bool.false_or] at this
         obtain ⟨o,ho,e,he,hb,heo⟩:=Region.waitsFor_spec this
         have:=hw o ho e he hb
         rwa [heo] at this
       · have e:(k=i∨d k)=d k:=propext ⟨fun h=>h.elim (fun h=>by omega) (fun h=>h),.inr⟩
         show F (k=i∨d k) a' w'
         rw [e];exact h'
       · intro j hj hjk
         have:=List.all_eq_true.1 hW j (List.mem_range.2 hj)
         rw [decide_eq_false hjk,Bool.false_or] at this
         obtain ⟨o,ho,e,he,hb,heo⟩:=Region.waitsFor_spec this
         have:=hw o ho e he hb
         rwa [heo] at this
     · exact wpOp_mono (fun a' w' h'=>.inl ⟨fun h=>h.elim (fun h=>e h.symm) h1,h'⟩) (step d a w h2 i (by omega) hnd hw)
   · by_cases e:i=n
     · subst e;exact absurd h1 hnd
     by_cases e2:i=k
     · subst e2
       have ef:d i=False:=propext ⟨hnd,False.elim⟩
       rw [ef] at h3
       refine wpOp_mono (fun a' w' h'=>.inr ⟨.inr h1,fun j hj hjk=>.inr (h2 j hj hjk),?_⟩) (late a w h3)
       have et:(i=i∨d i)=True:=propext ⟨fun _=>trivial,fun _=>.inl rfl⟩
       show F (i=i∨d i) a' w'
       rw [et];exact h'
     · exact absurd (h2 i (by omega) e2) hnd
 · intro d a w hall h
   rcases h with ⟨h1,_⟩|⟨_,_,h3⟩
   · exact absurd (hall n (by omega)) h1
   · have et:d k=True:=propext ⟨fun _=>trivial,fun _=>hall k (by omega)⟩
     rw [et] at h3
     exact last a w h3
end Go.Proofs.YtnlgmcapbbgelaaGreatDoor
