/- An object, or a list, that is built directly of two new blocks: its names, its items. No program in sight. -/
import Derived.StillTail
import Derived.RegionTactic
import Derived.KernelRfl
import Derived.Test.YtnlgmcapbbgelaaGreatDoorRt02

namespace Go.Proofs.YtnlgmcapbbgelaaGreatDoor
open Go.RowKit
theorem jE (w:World) (o o':Obj):((w.alloc o).alloc o').heap[w.heap.size+1]?=some o':=by
 have:=heap_alloc_new (w.alloc o) o'
 rwa [show (w.alloc o).heap.size=w.heap.size+1 by simp] at this
theorem zE (w:World) (o o':Obj):((w.alloc o).alloc o').heap[w.heap.size]?=some o:=(Below.heap_alloc _ _ _ (by simp)).trans (heap_alloc_new w o)
end Go.Proofs.YtnlgmcapbbgelaaGreatDoor

namespace Go.Proofs.YtnlgmcapbbgelaaGreatDoor
open Go.ChangeShapes Go.WideShapes Go.ChangeAt Go.RowKit Go.Joins Go.Deep
section
variable {H:Type} {enc:TypeId × Value→H} {P:Program} {w:World} {spare:Nat→Bool} {held:Bool}
end
end Go.Proofs.YtnlgmcapbbgelaaGreatDoor

namespace Go.Proofs.YtnlgmcapbbgelaaGreatDoor
open Go
section
variable {P:Program} {ops:Array Oper} {md:Region.Mode} {Q:Exit→Act→World→Prop}
def n9 (md:Region.Mode) (ops:Array Oper) (n:Nat):Bool :=
 (List.range n).all fun i=>match ops[i]? with
  | some o=>o.after.all fun e=>!(Region.binds md e) || decide (e.on<i)
  | none=>false
def sq (md:Region.Mode) (ops:Array Oper) (d:Nat→Prop) (i:Nat):Prop :=
 ∀o,ops[i]?=some o→∀e ∈ o.after,Region.binds md e=true→d e.on
def kQ (listed:Array Bool):Nat→Prop:=fun i=>listed.getD i false=true
theorem dj {listed:Array Bool} {i:Nat} (hi:i<listed.size):kQ (listed.setIfInBounds i true)=fun j=>j=i∨kQ listed j:=by
 funext j
 apply propext
 unfold kQ
 by_cases h:i=j
 · subst h
   simp [hi]
 · rw [getD_set_ne false h]
   constructor
   · exact .inr
   · rintro (e|e)
     · exact absurd e.symm h
     · exact e
theorem dk {n:Nat} {listed:Array Bool} (hd:n9 md ops n=true) (inv:HeadInv md ops n listed) (hn:n<ops.size) :
 ∀i,i<n→listed.getD i false=false→Region.ready md ops listed≠[]:=by
 intro i
 induction i using Nat.strongRecOn with
 | _ i ih =>
  intro hi hun h0
  have h1:=List.all_eq_true.1 hd i (List.mem_range.2 hi)
  cases ho:ops[i]? with
  | none=>rw [ho] at h1;cases h1
  | some o =>
   rw [ho] at h1
   by_cases hall:∀e ∈ o.after,Region.binds md e=true→listed.getD e.on false=true
   · have:i ∈ Region.ready md ops listed:=mem_ready.2 ⟨getD_in (by rw [inv.size];omega) hun,o,ho,hall⟩
     rw [h0] at this
     cases this
   · have:∃e,e ∈ o.after∧Region.binds md e=true∧listed.getD e.on false=false:=by
      apply Classical.byContradiction
      intro hne
      apply hall
      intro e he hb
      cases hl:listed.getD e.on false with
      | true=>rfl
      | false=>exact absurd ⟨e,he,hb,hl⟩ hne
     obtain ⟨e,he,hb,hl⟩:=this
     have h2:=Array.all_eq_true'.1 h1 e he
     simp only [hb,Bool.not_true,Bool.false_or,decide_eq_true_eq] at h2
     exact ih e.on h2 (by omega) hl h0
def k8 (n:Nat) (listed:Array Bool):Nat:=((List.range n).filter fun i=>!(listed.getD i false)).length
theorem bH (listed:Array Bool) (i:Nat) (hl:listed.getD i false=false) (hs:i<listed.size):∀n,
 ((List.range n).filter fun j=>!((listed.setIfInBounds i true).getD j false)).length+(if i<n then 1 else 0)=((List.range n).filter fun j=>!(listed.getD j false)).length:=by
 intro n
 induction n with
 | zero=>simp
 | succ n ih =>
  rw [List.range_succ,List.filter_append,List.filter_append,List.length_append,List.length_append,← ih]
  by_cases h:i=n
  · subst h
    have e1:(listed.setIfInBounds i true).getD i false=true:=by simp [hs]
    simp only [List.filter_cons,List.filter_nil,e1,hl]
    simp
  · have e:(if i<n+1 then 1 else 0)=(if i<n then 1 else 0):=by
     by_cases h2:i<n
     · rw [if_pos h2,if_pos (Nat.lt_succ_of_lt h2)]
     · rw [if_neg h2,if_neg (fun h3=>h2 (by omega))]
    rw [e]
    simp only [List.filter_cons,List.filter_nil]
    rw [getD_set_ne false h]
    omega
theorem dw {n i:Nat} {listed:Array Bool} (hi:i<n) (hs:i<listed.size) (hl:listed.getD i false=false):k8 n (listed.setIfInBounds i true)+1=k8 n listed:=by
 have:=bH listed i hl hs n
 rw [if_pos hi] at this
 exact this
theorem me {n:Nat} {listed:Array Bool} (h:k8 n listed=0):∀i,i<n→listed.getD i false=true:=by
 intro i hi
 unfold k8 at h
 rw [List.length_eq_zero_iff,List.filter_eq_nil_iff] at h
 have:=h i (List.mem_range.2 hi)
 simpa using this
theorem dy {n:Nat} {listed:Array Bool} (h:0<k8 n listed):∃i,i<n∧listed.getD i false=false:=by
 unfold k8 at h
 obtain ⟨i,hi⟩:=List.exists_mem_of_length_pos h
 rw [List.mem_filter] at hi
 exact ⟨i,List.mem_range.1 hi.1,by simpa using hi.2⟩
theorem fi {n g:Nat} (I:(Nat→Prop)→Act→World→Prop)
 (hs:Region.sinkB md ops n=true) (hc:Region.chainB md ops n=true) (hn:n<ops.size) (hd:n9 md ops n=true)
 (step:∀d a w,I d a w→∀i,i<n→¬d i→sq md ops d i→wpOp P ops Q i (I (fun j=>j=i∨d j)) a w)
 (last:∀listed a w,HeadInv md ops n listed→(∀i,i<n→listed.getD i false=true)→I (kQ listed) a w→wpAny P md ops Q g listed a w) :
 ∀(f:Nat) (listed:Array Bool) (a:Act) (w:World),HeadInv md ops n listed→k8 n listed=f→I (kQ listed) a w→wpAny P md ops Q (f+g) listed a w
 | 0,listed,a,w,inv,h0,h=>by rw [Nat.zero_add];exact last listed a w inv (me h0) h
 | f+1,listed,a,w,inv,h0,h=>by
  rw [show f+1+g=(f+g)+1 by omega]
  obtain ⟨i,hi,hl⟩:=dy (n:=n) (listed:=listed) (by omega)
  refine ⟨fun h1=>absurd h1 (dk hd inv hn i hi hl),fun j hj=>?_⟩
  have hjn:j<n:=by
   rcases Nat.lt_or_ge j n with h|h
   · exact h
   · exact absurd hj (tail_waits hs hc hn inv _ i rfl hi (getD_in (by rw [inv.size];omega) hl) j h)
  obtain ⟨hun,oj,hoj,hall⟩:=mem_ready.1 hj
  have hjs:j<listed.size:=by rw [inv.size];omega
  have hun':=getD_both hun
  refine wpOp_mono (fun a' w' h'=>fi I hs hc hn hd step last f _ a' w' (inv.set hj hjn) ?_ ?_) (step (kQ listed) a w h j hjn ?_ ?_)
  · have:=dw hjn hjs hun';omega
  · rw [dj hjs];exact h'
  · unfold kQ;rw [hun'];simp
  · intro o ho e he hb
    have:o=oj:=Option.some.inj (ho.symm.trans hoj)
    subst this
    exact hall e he hb
def va (n m:Nat):Array Bool:=((List.range m).map fun i=>decide (i<n)).toArray
theorem mQ {n:Nat} {listed:Array Bool} (inv:HeadInv md ops n listed) (h:∀i,i<n→listed.getD i false=true):listed=va n ops.size:=by
 apply Array.ext
 · simp [va,inv.size]
 · intro i h1 h2
   by_cases hi:i<n
   · have:=h i hi
     simp [va,hi]
     simpa [h1] using this
   · have:=getD_both (inv.tail i (by omega) (by rw [← inv.size];exact h1))
     simp [va,hi]
     simpa [h1] using this
theorem xB {id:Nat} {a:Act} {w:World} {l:List Oper} (n:Nat) (I:(Nat→Prop)→Act→World→Prop) (hm:P.follows .mixedOrders=true)
 (hB:(decide (n<l.length) && Region.sinkB .any l.toArray n && Region.chainB .any l.toArray n && n9 .any l.toArray n && Region.seqB .any l.toArray (l.length - n) n (va n l.length))=true)
 (first:I (fun _=>False) a { w with drawn:=w.drawn+1 })
 (step:∀d a w,I d a w→∀i,i<n→¬d i→sq .any l.toArray d i→wpOp P l.toArray Q i (I (fun j=>j=i∨d j)) a w)
 (last:∀d a w,(∀i,i<n→d i)→I d a w→wpList P l.toArray Q (l.drop n) a w):(Code.region id l.toArray true).wp P Q a w:=by
 simp only [Bool.and_eq_true,decide_eq_true_eq] at hB
 obtain ⟨⟨⟨⟨hn,hs⟩,hc⟩,hd⟩,hq⟩:=hB
 refine wp_region_any hm ?_
 have inv0:HeadInv .any l.toArray n (Array.replicate l.toArray.size false) :=
  ⟨by simp,fun j oj _ hl=>(by rw [getD_replicate_false] at hl;cases hl),fun t _ ht=>getD_in (by simpa using ht) (getD_replicate_false _ _)⟩
 have h0:kQ (Array.replicate l.toArray.size false)=fun _=>False:=by
  funext i;unfold kQ;rw [getD_replicate_false];simp
 have hz:k8 n (Array.replicate l.toArray.size false)=n:=by
  unfold k8
  rw [List.filter_eq_self.2 (fun i _=>by rw [getD_replicate_false];rfl),List.length_range]
 have hdl:(l.drop n).length=l.length - n:=by simp
 have:=fi (P:=P) (Q:=Q) (g:=l.length - n) I hs hc (by simpa using hn) hd step (fun listed a' w' inv hall hI=>by
  have hf:=mQ inv hall
  have hr:=last (kQ listed) a' w' hall hI
  have:=wpAny_of_seq (md:=.any) (Q':=Q) (l.drop n) n listed a' w' (fun j=>by simp [List.getElem?_drop]) (by rw [hdl,hf];simpa using hq) hr
  rwa [hdl] at this) n _ a { w with drawn:=w.drawn+1 } inv0 hz (by rw [h0];exact first)
 rw [show n+(l.length - n)=l.toArray.size by simp;omega] at this
 exact this
end
end Go.Proofs.YtnlgmcapbbgelaaGreatDoor

namespace Go.Proofs.YtnlgmcapbbgelaaGreatDoor
open Go.RowKit
def oc (w:World) (b off m:Nat):Prop:=∃cs t,w.heap[b]?=some (.cells cs t (0,0))∧off+m≤cs.size
theorem aA:(Tryz.prog.info? 38).map (fun i=>(i.zero,i.size,i.bytes))=some (some (.agg #[.string ⟨#[]⟩,.string ⟨#[]⟩]),2,32):=by kernel_rfl
structure MP where
 p:World→Value→Prop
 mono:∀(w w':World) (x:Value),Below w.heap.size w w'→p w x→p w' x
def MP.con (v:Value):MP:=⟨fun _ x=>x=v,fun _ _ _ _ h=>h⟩
def yg (B n T:Nat) (cs:Array Value) (w:World) (x:Value):Prop:=∃b,B≤b∧x=.slice (some ⟨b,0,none⟩) n n∧w.heap[b]?=some (.cells cs T (0,0))
theorem yg.mono {B n T:Nat} {cs:Array Value} {w w':World} {x:Value} (hb:Below w.heap.size w w') (h:yg B n T cs w x):yg B n T cs w' x:=by
 obtain ⟨b,h1,h2,h3⟩:=h
 exact ⟨b,h1,h2,by rw [hb.block _ (qz h3)];exact h3⟩
theorem yg.made {w:World} {B n T:Nat} (cs:Array Value) (hB:B≤w.heap.size):yg B n T cs (w.alloc (.cells cs T)) (.slice (some ⟨w.heap.size,0,none⟩) n n):=⟨_,hB,rfl,heap_alloc_new w _⟩
def MP.row (B n T:Nat) (cs:Array Value):MP:=⟨yg B n T cs,fun _ _ _ hb h=>h.mono hb⟩
def jy (wb:World) (V:List MP) (d:Nat→Prop) (w':World) (xs:List Value):Prop :=
 Below wb.heap.size wb w'∧xs.length=V.length∧∀(j:Nat) (m:MP) (x:Value),V[j]?=some m→xs[j]?=some x→d j→m.p w' x
theorem jy.first (wb:World) (V:List MP) (xs:List Value) (h:xs.length=V.length):jy wb V (fun _=>False) wb.drew xs:=⟨(Below.refl _ _).drew,h,fun _ _ _ _ _ hd=>hd.elim⟩
theorem jy.get {wb w':World} {V:List MP} {d:Nat→Prop} {xs:List Value} (h:jy wb V d w' xs) (j:Nat) (hd:d j) (m:MP) (hV:V[j]?=some m) (x:Value) (hx:xs[j]?=some x):m.p w' x:=h.2.2 j m x hV hx hd
theorem jy.did {wb w' w'':World} {V:List MP} {d:Nat→Prop} {xs:List Value} (h:jy wb V d w' xs) (hb:Below w'.heap.size w' w'') (j:Nat) (y:Value) (m:MP) (hV:V[j]?=some m) (hy:m.p w'' y):jy wb V (fun i=>i=j∨d i) w'' (xs.set j y):=by
 refine ⟨h.1.trans (hb.mono h.1.size),by rw [List.length_set];exact h.2.1,fun i m' x hm hx hd=>?_⟩
 by_cases e:i=j
 · subst e
   rw [hV] at hm
   cases hm
   have hl:i<xs.length:=by rw [h.2.1];exact (List.getElem?_eq_some_iff.1 hV).1
   rw [List.getElem?_set_self hl] at hx
   cases hx
   exact hy
 · rw [List.getElem?_set_ne (Ne.symm e)] at hx
   exact m'.mono _ _ _ hb (h.2.2 i m' x hm hx (hd.resolve_left e))
theorem jy.same {wb w':World} {V:List MP} {d:Nat→Prop} {xs:List Value} (h:jy wb V d w' xs) (j:Nat) (y:Value) (m:MP) (hV:V[j]?=some m) (hy:m.p w' y):jy wb V (fun i=>i=j∨d i) w' (xs.set j y):=h.did (Below.refl _ _) j y m hV hy
theorem jy.new {wb w':World} {V:List MP} {d:Nat→Prop} {xs:List Value} (h:jy wb V d w' xs) (o:Obj) (j:Nat) (y:Value) (m:MP) (hV:V[j]?=some m) (hy:m.p (w'.alloc o) y):jy wb V (fun i=>i=j∨d i) (w'.alloc o) (xs.set j y):=h.did ((Below.refl _ _).alloc lz _) j y m hV hy
theorem jy.con {wb w':World} {V l:List MP} {d:Nat→Prop} {xs:List Value} {v x:Value} (h:jy wb V d w' xs) (j:Nat) (hd:d j) (hV:Hid (V=l)) (e:l[j]?=some (.con v)) (hx:xs[j]?=some x):x=v:=h.get j hd (.con v) (by rw [hV.out];exact e) x hx
theorem jy.sameC {wb w':World} {V l:List MP} {d:Nat→Prop} {xs:List Value} (h:jy wb V d w' xs) (j:Nat) (y:Value) (hV:Hid (V=l)) (e:l[j]?=some (.con y)):jy wb V (fun i=>i=j∨d i) w' (xs.set j y):=h.same j y (.con y) (by rw [hV.out];exact e) rfl
theorem jy.didC {wb w' w'':World} {V l:List MP} {d:Nat→Prop} {xs:List Value} (h:jy wb V d w' xs) (hb:Below w'.heap.size w' w'') (j:Nat) (y:Value) (hV:Hid (V=l)) (e:l[j]?=some (.con y)):jy wb V (fun i=>i=j∨d i) w'' (xs.set j y):=h.did hb j y (.con y) (by rw [hV.out];exact e) rfl
abbrev V5:=Value × Value × Value × Value × Value
def V5.agg (c:V5):Value:=.agg #[c.1,c.2.1,c.2.2.1,c.2.2.2.1,c.2.2.2.2]
def flat5:List (JV × V5)→List Value
 | []=>[]
 | p :: r=>p.2.1 :: p.2.2.1 :: p.2.2.2.1 :: p.2.2.2.2.1 :: p.2.2.2.2.2 :: flat5 r
theorem fo:∀(L:List (JV × V5)) (i:Nat) (h:i<L.length),(flat5 L)[i * 5]?=some L[i].2.1∧(flat5 L)[i * 5+1]?=some L[i].2.2.1∧(flat5 L)[i * 5+2]?=some L[i].2.2.2.1∧(flat5 L)[i * 5+3]?=some L[i].2.2.2.2.1∧(flat5 L)[i * 5+4]?=some L[i].2.2.2.2.2
 | [],i,h=>by simp at h
 | p :: r,0,_=>⟨rfl,rfl,rfl,rfl,rfl⟩
 | p :: r,i+1,h=>by
  have ih:=fo r i (by simpa using h)
  have e:∀k,(flat5 (p :: r))[(i+1) * 5+k]?=(flat5 r)[i * 5+k]?:=fun k=>by
   rw [show (i+1) * 5+k=(i * 5+k)+5 by omega]
   rfl
  have e0:=e 0
  simp only [Nat.add_zero] at e0
  rw [e0,e 1,e 2,e 3,e 4]
  exact ih
theorem cell_of {w:World} {b T j:Nat} {cs:List Value} {u:Value} (h:w.heap[b]?=some (.cells cs.toArray T (0,0))) (hj:cs[j]?=some u):w.cell? ⟨b,j,none⟩=some u:=by
 simp [World.cell?,h,hj]
theorem mZ {w:World} {lo hi bi T2:Nat} (L:List (JV × V5)) (h1:lo≤bi) (h2:bi<hi) (hI:w.heap[bi]?=some (.cells (flat5 L).toArray T2 (0,0))) (hL:∀p ∈ L,Rep w lo hi p.1 p.2.agg):zJ w lo hi (some ⟨bi,0,none⟩) (L.map Prod.fst):=by
 refine .inr ⟨bi,0,rfl,h1,h2,⟨_,_,_,hI,fun _=>rfl⟩,xY.of_at fun i hi'=>?_⟩
 have hl:i<L.length:=by simpa using hi'
 obtain ⟨g0,g1,g2,g3,g4⟩:=fo L i hl
 simp only [Nat.zero_add,List.getElem_map]
 exact ⟨_,_,_,_,_,cell_of hI g0,cell_of hI g1,cell_of hI g2,cell_of hI g3,cell_of hI g4,by simp [World.frozen?,hI],hL _ (List.getElem_mem hl)⟩
theorem mX {w:World} {lo hi bn T1:Nat} (ns:List ByteArray) (h1:lo≤bn) (h2:bn<hi) (hN:w.heap[bn]?=some (.cells (ns.map Value.string).toArray T1 (0,0))):qv w lo hi (some ⟨bn,0,none⟩) ns :=
 .inr ⟨bn,0,rfl,h1,h2,fun i hi'=>by rw [Nat.zero_add];exact cell_of hN (by simp [hi'])⟩
theorem bU {w:World} {lo hi bn bi T1 T2:Nat} (ns:List ByteArray) (L:List (JV × V5)) (h1:lo≤bn) (h2:bn<hi) (h3:lo≤bi) (h4:bi<hi) (hN:w.heap[bn]?=some (.cells (ns.map Value.string).toArray T1 (0,0))) (hI:w.heap[bi]?=some (.cells (flat5 L).toArray T2 (0,0))) (hL:∀p ∈ L,Rep w lo hi p.1 p.2.agg) :
 Rep w lo hi (.mk 5 0 ⟨#[]⟩ ns (L.map Prod.fst)) (.agg #[.int .u8 5,.int .i64 0,.string ⟨#[]⟩,.slice (some ⟨bn,0,none⟩) ns.length ns.length,.slice (some ⟨bi,0,none⟩) L.length L.length]):=by
 have:=Rep.mk (v:=.mk 5 0 ⟨#[]⟩ ns (L.map Prod.fst)) (w:=w) (lo:=lo) (hi:=hi) (an:=some ⟨bn,0,none⟩) (ai:=some ⟨bi,0,none⟩) (cn:=ns.length) (ci:=L.length) lz (by simp [JV.items]) (mX ns h1 h2 hN) (mZ L h3 h4 hI hL)
 simpa [JV.kind,JV.n,JV.t,JV.names,JV.items] using this
end Go.Proofs.YtnlgmcapbbgelaaGreatDoor
