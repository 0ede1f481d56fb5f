/- Objects that may be, and texts that are picked out of them, plain. No program in sight. -/
import Derived.Test.YthgembbgcbaghaaGreatDoorDa16
import Derived.Test.YthgembbgcbaghaaGreatDoorDa15
import Derived.Lib.ItoaLen

namespace Go.Proofs.YthgembbgcbaghaaGreatDoor
open Go.RowKit
mutual
def JV.partB:JV→Bool
 | .mk k n t ns xs=>qK k n t ns xs.length && JV.partsB xs
def JV.partsB:List JV→Bool
 | []=>true
 | x :: r=>JV.partB x && JV.partsB r
end
mutual
def JV.depth:JV→Nat
 | .mk k _ _ _ xs=>if k≠4∧k≠5 then 0 else JV.depths xs+1
def JV.depths:List JV→Nat
 | []=>0
 | x :: r=>max (JV.depth x) (JV.depths r)
end
theorem JV.partB_eq (v:JV):v.partB=(qK v.kind v.n v.t v.names v.items.length && JV.partsB v.items):=by cases v;rw [JV.partB];rfl
theorem JV.depth_eq (v:JV):v.depth=if v.kind≠4∧v.kind≠5 then 0 else JV.depths v.items+1:=by cases v;rw [JV.depth];rfl
theorem JV.count_eq (v:JV):v.count=1+JV.counts v.items:=by cases v;rw [JV.count];rfl
theorem JV.partsB_bad (l:List JV) (k:Nat) (h:k<l.length) (hb:JV.partB l[k]=false):JV.partsB l=false:=by
 induction l generalizing k with
 | nil=>simp at h
 | cons x r ih =>
  cases k with
  | zero=>simp only [List.getElem_cons_zero] at hb;rw [JV.partsB,hb];rfl
  | succ k=>rw [JV.partsB,ih k (by simpa using h) (by simpa using hb),Bool.and_false]
mutual
theorem JV.depth_le:∀v:JV,v.depth≤v.wt
 | .mk k _ _ _ xs=>by have:=JV.depths_le xs;rw [JV.depth,JV.wt];split <;> omega
theorem JV.depths_le:∀l:List JV,JV.depths l≤JV.wts l
 | []=>by simp [JV.depths]
 | x :: r=>by have:=JV.depth_le x;have:=JV.depths_le r;rw [JV.depths,JV.wts];omega
end
theorem JV.proper_leaf {v:JV} (h:qK v.kind v.n v.t v.names v.items.length=true) (h4:v.kind≠4) (h5:v.kind≠5):v.items=[]:=by
 unfold qK at h
 split at h
 · simp at h;exact h.2.2.1
 split at h
 · simp at h;exact h.2.2
 split at h
 · simp at h;exact h.1.2.2
 · first|(cases h;done)|(rw [if_neg h4,if_neg h5] at h;cases h)
mutual
theorem JV.may_iff:∀(v:JV) (d:Nat) (l:Int),0≤l→((v.may d l).1=true↔v.partB=true∧(v.count:Int)≤l∧v.depth≤d)∧((v.may d l).1=true→(v.may d l).2=l - v.count)
 | .mk k n t ns xs,d,l,hl=>by
  rw [JV.may,JV.partB,JV.count,JV.depth]
  by_cases h0:l - 1<0
  · rw [if_pos h0];simp;omega
  rw [if_neg h0]
  cases hp:qK k n t ns xs.length
  · simp
  simp only [Bool.true_eq_false,if_false,Bool.true_and]
  by_cases hk:k≠4∧k≠5
  · have hx:xs=[]:=JV.proper_leaf (v:=.mk k n t ns xs) hp hk.1 hk.2
    subst hx
    rw [if_pos hk,if_pos hk]
    simp [JV.partsB,JV.counts];omega
  · rw [if_neg hk,if_neg hk]
    by_cases hd:d=0
    · rw [if_pos hd];simp;omega
    · rw [if_neg hd]
      obtain ⟨i1,i2⟩:=JV.mays_iff xs (d - 1) (l - 1) (by omega)
      refine ⟨?_,fun h=>?_⟩
      · rw [i1];constructor
        · rintro ⟨a,b,c⟩;exact ⟨a,by push_cast;omega,by omega⟩
        · rintro ⟨a,b,c⟩;exact ⟨a,by push_cast at b;omega,by omega⟩
      · rw [i2 h];push_cast;omega
theorem JV.mays_iff:∀(xs:List JV) (d:Nat) (l:Int),0≤l→((JV.mays xs d l).1=true↔JV.partsB xs=true∧(JV.counts xs:Int)≤l∧JV.depths xs≤d)∧((JV.mays xs d l).1=true→(JV.mays xs d l).2=l - JV.counts xs)
 | [],d,l,hl=>by simp [JV.mays,JV.partsB,JV.counts,JV.depths];omega
 | x :: r,d,l,hl=>by
  obtain ⟨a1,a2⟩:=JV.may_iff x d l hl
  rw [JV.mays,JV.partsB,JV.counts,JV.depths]
  cases h:(JV.may x d l).1
  · rw [h] at a1
    simp only [Bool.false_eq_true,if_false,false_iff,not_and,Bool.and_eq_true,false_implies,and_true] at a1 ⊢
    intro hp hc
    have:=a1 hp.1 (by push_cast at hc;omega)
    omega
  · rw [if_pos rfl]
    have hb:=(JV.may_bd x d l hl).2.2 h
    obtain ⟨c1,c2,c3⟩:=a1.1 h
    have e2:=a2 h
    obtain ⟨i1,i2⟩:=JV.mays_iff r d _ hb
    rw [i1,e2]
    refine ⟨?_,fun hh=>?_⟩
    · rw [c1,Bool.true_and];constructor
      · rintro ⟨a,b,c⟩;exact ⟨a,by push_cast;omega,by omega⟩
      · rintro ⟨a,b,c⟩;exact ⟨a,by push_cast at b;omega,by omega⟩
    · have hh':(JV.mays r d (JV.may x d l).2).1=true:=by rw [e2];exact i1.2 (by rw [e2];exact hh) |> fun z=>by rwa [e2] at z
      have:=i2 hh'
      rw [e2] at this
      rw [this];push_cast;omega
end
theorem JV.mayB_iff (v:JV):v.mayB=(v.partB && decide (v.count≤8192) && decide (v.depth≤12)):=by
 unfold JV.mayB
 rw [Bool.eq_iff_iff,(JV.may_iff v 12 8192 (by omega)).1]
 simp only [Bool.and_eq_true,decide_eq_true_eq]
 constructor
 · rintro ⟨a,b,c⟩;exact ⟨⟨a,by omega⟩,c⟩
 · rintro ⟨⟨a,b⟩,c⟩;exact ⟨a,by omega,c⟩
def zd (n:Int):JV:=.mk 2 n ⟨#[]⟩ [] []
def dr:ByteArray:=⟨#[118,101,114,115,105,111,110]⟩
def da:ByteArray:=⟨#[95,116,121,112,101]⟩
def dt:ByteArray:=⟨#[101,120,112,105,114,101,115]⟩
def rh:ByteArray:=⟨#[115,110,97,112,115,104,111,116]⟩
def ru:ByteArray:=⟨#[116,97,114,103,101,116,115]⟩
def qP (v:JV) (y:ByteArray) (lo hi:Int) (st:PS):Int × PS :=
 if st.err≠0 then (0,st) else match v.look y with
 | none=>(0,⟨st.asked,6⟩)
 | some it=>if it.kind≠2 then (0,⟨st.asked,10⟩) else if it.n<lo∨hi<it.n then (0,⟨st.asked,1⟩) else (it.n,⟨y :: st.asked,0⟩)
def qr (v:JV) (y:ByteArray) (most:Nat) (st:PS):JV × PS :=
 if st.err≠0 then (zx,st) else match v.look y with
 | none=>(zx,⟨st.asked,6⟩)
 | some it=>if it.kind≠5 then (zx,⟨st.asked,10⟩) else if most<it.items.length then (zx,⟨st.asked,5⟩) else (it,⟨y :: st.asked,0⟩)
def qN (v:JV) (y:ByteArray) (st:PS):Bool:=decide (st.err=0) && (v.look y).isSome
def PS.fail (st:PS) (e:Int):PS:=if st.err=0 then ⟨st.asked,e⟩ else st
abbrev NJ:=ByteArray × JV
theorem gR {b:ByteArray} (h:zb b.data.toList=true):b.size≤64:=by
 unfold zb at h
 simp only [Bool.and_eq_true,decide_eq_true_eq] at h
 have:=h.1.1.2
 simpa using this
theorem gb (n:Int):(zd n).wt=1:=by simp [zd,JV.wt,JV.wts,qd,ByteArray.size]
def okN (N:List NJ):Prop:=qe (N.map (·.1))=true∧∀p ∈ N,qZ p.1=true∧p.2.partB=true
def jz (N:List NJ):JV:=.mk 5 0 ⟨#[]⟩ (N.map (·.1)) (N.map (·.2))
theorem yh:∀l:List JV,(∀x ∈ l,x.partB=true)→JV.partsB l=true
 | [],_=>rfl
 | x :: r,h=>by rw [JV.partsB,h x (List.mem_cons_self ..),yh r fun y hy=>h y (List.mem_cons_of_mem _ hy)];rfl
theorem vl {N:List NJ} (h:okN N):(jz N).partB=true:=by
 rw [JV.partB_eq]
 have h1:qK 5 0 ⟨#[]⟩ (N.map (·.1)) (N.map (·.2)).length=true:=by
  unfold qK
  rw [if_neg (by decide),if_neg (by decide),if_neg (by decide),if_neg (by decide),if_pos rfl,h.1]
  have h2:(⟨#[]⟩:ByteArray).toList=[]:=by rw [ByteArray.toList_eq]
  have h3:(N.map (·.1)).all qZ=true:=by
   rw [List.all_eq_true]
   intro x hx
   obtain ⟨p,hp,rfl⟩:=List.mem_map.1 hx
   exact (h.2 p hp).1
  rw [h3]
  simp [h2]
 show (qK 5 0 ⟨#[]⟩ (N.map (·.1)) (N.map (·.2)).length && JV.partsB (N.map (·.2)))=true
 rw [h1,yh _ fun x hx=>by obtain ⟨p,hp,rfl⟩:=List.mem_map.1 hx;exact (h.2 p hp).2]
 rfl
theorem yu {t:ByteArray} (h:qZ t=true):(txtJ t).partB=true:=by
 rw [JV.partB_eq]
 show (qK 3 0 t [] 0 && JV.partsB [])=true
 unfold qK
 rw [if_neg (by decide),if_neg (by decide),if_pos rfl,h]
 rfl
theorem ym (n:Int):(zd n).partB=true:=by
 rw [JV.partB_eq]
 show (qK 2 n ⟨#[]⟩ [] 0 && JV.partsB [])=true
 unfold qK
 rw [if_neg (by decide),if_pos rfl]
 have h2:(⟨#[]⟩:ByteArray).toList=[]:=by rw [ByteArray.toList_eq]
 simp [h2,JV.partsB]
theorem counts_le (b:Nat):∀l:List JV,(∀x ∈ l,x.count≤b)→JV.counts l≤l.length * b
 | [],_=>by simp [JV.counts]
 | x :: r,h=>by
  have h1:=h x (List.mem_cons_self ..)
  have h2:=counts_le b r fun y hy=>h y (List.mem_cons_of_mem _ hy)
  rw [JV.counts,List.length_cons,Nat.succ_mul];omega
theorem jZ (b:Nat):∀l:List JV,(∀x ∈ l,x.depth≤b)→JV.depths l≤b
 | [],_=>by simp [JV.depths]
 | x :: r,h=>by
  have h1:=h x (List.mem_cons_self ..)
  have h2:=jZ b r fun y hy=>h y (List.mem_cons_of_mem _ hy)
  rw [JV.depths];omega
theorem gN {N:List NJ} (b:Nat) (h:∀p ∈ N,p.2.count≤b):(jz N).count≤1+N.length * b:=by
 rw [JV.count_eq]
 have:=counts_le b (N.map (·.2)) fun x hx=>by obtain ⟨p,hp,rfl⟩:=List.mem_map.1 hx;exact h p hp
 rw [List.length_map] at this
 show 1+JV.counts (N.map (·.2))≤_
 omega
theorem kV {N:List NJ} (b:Nat) (h:∀p ∈ N,p.2.depth≤b):(jz N).depth≤b+1:=by
 rw [JV.depth_eq]
 have:=jZ b (N.map (·.2)) fun x hx=>by obtain ⟨p,hp,rfl⟩:=List.mem_map.1 hx;exact h p hp
 rw [if_neg (by simp [jz,JV.kind])]
 show JV.depths (N.map (·.2))+1≤_
 omega
theorem fy (t:ByteArray):(txtJ t).count=1∧(txtJ t).depth=0:=by
 rw [JV.count_eq,JV.depth_eq];exact ⟨rfl,rfl⟩
theorem fg (n:Int):(zd n).count=1∧(zd n).depth=0:=by
 rw [JV.count_eq,JV.depth_eq];exact ⟨rfl,rfl⟩
theorem gS {v:JV} {y:ByteArray} {n lo hi:Int} {a:List ByteArray} (h:v.look y=some (zd n)) (h1:lo≤n) (h2:n≤hi):qP v y lo hi ⟨a,0⟩=(n,⟨y :: a,0⟩):=by
 unfold qP
 rw [if_neg (by simp),h]
 show (if (2:Int)≠2 then _ else if n<lo∨hi<n then _ else _)=_
 rw [if_neg (by decide),if_neg (by omega)]
 rfl
theorem yS {v:JV} {y t:ByteArray} {a:List ByteArray} (h:v.look y=some (txtJ t)):qf v y ⟨a,0⟩=(t,⟨y :: a,0⟩):=by
 unfold qf
 rw [if_neg (by simp),h]
 show (if (3:Int)=3 then _ else _)=_
 rw [if_pos rfl];rfl
theorem yA {k n:Int} {t:ByteArray} {ns:List ByteArray} {li:Nat} (h:qK k n t ns li=true):(k=1∧li=0)∨(k=2∧li=0)∨(k=3∧qZ t=true∧li=0)∨k=4∨(k=5∧ns.length=li∧qe ns=true∧ns.all qZ=true):=by
 unfold qK at h
 by_cases h1:k=1
 · rw [if_pos h1] at h;simp at h;exact .inl ⟨h1,h.2.2.1⟩
 rw [if_neg h1] at h
 by_cases h2:k=2
 · rw [if_pos h2] at h;simp at h;exact .inr (.inl ⟨h2,h.2.2⟩)
 rw [if_neg h2] at h
 by_cases h3:k=3
 · rw [if_pos h3] at h;simp at h;exact .inr (.inr (.inl ⟨h3,h.2,h.1.2.2⟩))
 rw [if_neg h3] at h
 by_cases h4:k=4
 · exact .inr (.inr (.inr (.inl h4)))
 rw [if_neg h4] at h
 by_cases h5:k=5
 · rw [if_pos h5] at h
   simp only [Bool.and_eq_true,decide_eq_true_eq] at h
   exact .inr (.inr (.inr (.inr ⟨h5,h.1.1.2.2,h.1.2,h.2⟩)))
 · rw [if_neg h5] at h;cases h
def sep (first:Bool):List UInt8:=if first then [] else [44]
mutual
def JV.enc:JV→List UInt8
 | .mk k n t ns xs=>if k=1 then (if n=1 then [116,114,117,101] else [102,97,108,115,101]) else if k=2 then Lib.itoa n else if k=3 then xb t.data.toList
  else if k=4 then 91 :: (JV.encI true xs ++ [93]) else 123 :: (JV.encO true ns xs ++ [125])
def JV.encI:Bool→List JV→List UInt8
 | _,[]=>[]
 | f,x :: r=>sep f ++ (JV.enc x ++ JV.encI false r)
def JV.encO:Bool→List ByteArray→List JV→List UInt8
 | _,_,[]=>[]
 | _,[],_ :: _=>[]
 | f,s :: ns,x :: r=>sep f ++ (xb s.data.toList ++ (58 :: (JV.enc x ++ JV.encO false ns r)))
end
theorem JV.enc_eq (v:JV):v.enc=if v.kind=1 then (if v.n=1 then [116,114,117,101] else [102,97,108,115,101]) else if v.kind=2 then Lib.itoa v.n else if v.kind=3 then xb v.t.data.toList
 else if v.kind=4 then 91 :: (JV.encI true v.items ++ [93]) else 123 :: (JV.encO true v.names v.items ++ [125]):=by cases v;rw [JV.enc];rfl
theorem JV.encI_snoc:∀(l:List JV) (f:Bool) (x:JV),JV.encI f (l ++ [x])=JV.encI f l ++ (sep (f && l.isEmpty) ++ x.enc)
 | [],f,x=>by simp [JV.encI]
 | y :: r,f,x=>by simp [JV.encI,JV.encI_snoc r false x]
theorem JV.encO_snoc:∀(ns:List ByteArray) (l:List JV) (f:Bool) (s:ByteArray) (x:JV),ns.length=l.length→JV.encO f (ns ++ [s]) (l ++ [x])=JV.encO f ns l ++ (sep (f && l.isEmpty) ++ (xb s.data.toList ++ (58 :: x.enc)))
 | [],[],f,s,x,_=>by simp [JV.encO]
 | [],_ :: _,_,_,_,h=>by simp at h
 | _ :: _,[],_,_,_,h=>by simp at h
 | n :: ns,y :: r,f,s,x,h=>by simp [JV.encO,JV.encO_snoc ns r false s x (by simpa using h)]
def cG (n:Int):Prop:=-9223372036854775808≤n∧n≤9223372036854775807
mutual
def JV.form (nm:Bool):JV→Prop
 | .mk k n t ns xs=>(k=1∨(k=2∧nm=true∧cG n)∨(k=3∧qZ t=true)∨k=4∨(k=5∧ns.length=xs.length∧∀i (h:i<ns.length),qZ ns[i]=true))∧JV.forms nm xs
def JV.forms (nm:Bool):List JV→Prop
 | []=>True
 | x :: r=>JV.form nm x∧JV.forms nm r
end
theorem JV.form_eq {nm:Bool} {v:JV} (h:v.form nm):(v.kind=1∨(v.kind=2∧nm=true∧cG v.n)∨(v.kind=3∧qZ v.t=true)∨v.kind=4∨(v.kind=5∧v.names.length=v.items.length∧∀i (h:i<v.names.length),qZ v.names[i]=true))∧JV.forms nm v.items:=by
 cases v;unfold JV.form at h;exact h
theorem JV.forms_get {nm:Bool}:∀(l:List JV) (i:Nat) (h:i<l.length),JV.forms nm l→JV.form nm l[i]
 | s :: r,0,_,h=>by unfold JV.forms at h;exact h.1
 | s :: r,i+1,hi,h=>by unfold JV.forms at h;exact JV.forms_get r i (by simpa using hi) h.2
mutual
theorem JV.form_of_may:∀(v:JV) (d:Nat) (l:Int),v.num→(v.may d l).1=true→v.form true
 | .mk k n t ns xs,d,l,hn,h=>by
  rw [JV.may] at h
  unfold JV.num at hn
  split at h
  · cases h
  split at h
  · cases h
  next h1 h2 =>
  have hp:=yA (by simpa using h2)
  unfold JV.form
  split at h
  · next h3 =>
    have hx:xs=[]:=by
     rcases hp with ⟨_,e⟩|⟨_,e⟩|⟨_,_,e⟩|e|⟨e,_⟩
     · exact List.eq_nil_of_length_eq_zero e
     · exact List.eq_nil_of_length_eq_zero e
     · exact List.eq_nil_of_length_eq_zero e
     · exact absurd e h3.1
     · exact absurd e h3.2
    subst hx
    refine ⟨?_,by unfold JV.forms;trivial⟩
    rcases hp with ⟨e,_⟩|⟨e,_⟩|⟨e,e2,_⟩|e|⟨e,_⟩
    · exact .inl e
    · exact .inr (.inl ⟨e,rfl,hn.2.1⟩)
    · exact .inr (.inr (.inl ⟨e,e2⟩))
    · exact absurd e h3.1
    · exact absurd e h3.2
  · next h3 =>
    split at h
    · cases h
    · refine ⟨?_,JV.forms_of_mays xs _ _ hn.2.2 h⟩
      rcases hp with ⟨e,_⟩|⟨e,_⟩|⟨e,e2,_⟩|e|⟨e,e2,_,e3⟩
      · exact .inl e
      · exact .inr (.inl ⟨e,rfl,hn.2.1⟩)
      · exact .inr (.inr (.inl ⟨e,e2⟩))
      · exact .inr (.inr (.inr (.inl e)))
      · exact .inr (.inr (.inr (.inr ⟨e,e2,fun i hi=>List.all_eq_true.1 e3 _ (List.getElem_mem hi)⟩)))
theorem JV.forms_of_mays:∀(xs:List JV) (d:Nat) (l:Int),JV.nums xs→(JV.mays xs d l).1=true→JV.forms true xs
 | [],_,_,_,_=>by unfold JV.forms;trivial
 | x :: r,d,l,hn,h=>by
  rw [JV.mays] at h
  unfold JV.nums at hn
  unfold JV.forms
  split at h
  · next h1=>exact ⟨JV.form_of_may x d l hn.1 h1,JV.forms_of_mays r _ _ hn.2 h⟩
  · cases h
end
theorem xC (s:ByteArray):(xb s.data.toList).length≤2 * s.size+2:=by
 have:=k9 s.data.toList
 rw [qm] at this
 unfold xb
 simp
 omega
theorem gA (f:Bool):(sep f).length≤1:=by cases f <;> simp [sep]
mutual
theorem JV.enc_length:∀(v:JV),v.form true→v.enc.length+4≤30 * v.wt
 | .mk k n t ns xs,h=>by
  unfold JV.form at h
  rw [JV.enc,JV.wt]
  have h1:=JV.encI_length xs true h.2
  have h2:=JV.encO_length ns xs true h.2
  split
  · split <;> simp <;> omega
  split
  · next e1 e2 =>
    rcases h.1 with e|⟨_,_,e⟩|⟨e,_⟩|e|⟨e,_⟩ <;> first|omega|skip
    have:=Lib.itoa_length_le n e.1 e.2
    omega
  split
  · have:=xC t;omega
  split
  · simp;omega
  · simp;omega
theorem JV.encI_length:∀(xs:List JV) (f:Bool),JV.forms true xs→(JV.encI f xs).length≤30 * JV.wts xs
 | [],f,_=>by simp [JV.encI]
 | x :: r,f,h=>by
  unfold JV.forms at h
  have h1:=JV.enc_length x h.1
  have h2:=JV.encI_length r false h.2
  have h3:=gA f
  simp [JV.encI,JV.wts];omega
theorem JV.encO_length:∀(ns:List ByteArray) (xs:List JV) (f:Bool),JV.forms true xs→(JV.encO f ns xs).length≤30 * qd ns+30 * JV.wts xs
 | ns,[],f,_=>by simp [JV.encO]
 | [],x :: r,f,_=>by simp [JV.encO]
 | s :: ns,x :: r,f,h=>by
  unfold JV.forms at h
  have h1:=JV.enc_length x h.1
  have h2:=JV.encO_length ns r false h.2
  have h3:=gA f
  have h4:=xC s
  simp [JV.encO,JV.wts,qd];omega
end
mutual
theorem JV.form_true {nm:Bool}:∀(v:JV),v.form nm→v.form true
 | .mk k n t ns xs,h=>by
  unfold JV.form at h ⊢
  refine ⟨?_,JV.forms_true xs h.2⟩
  rcases h.1 with e|⟨e,_,e2⟩|e|e|e
  · exact .inl e
  · exact .inr (.inl ⟨e,rfl,e2⟩)
  · exact .inr (.inr (.inl e))
  · exact .inr (.inr (.inr (.inl e)))
  · exact .inr (.inr (.inr (.inr e)))
theorem JV.forms_true {nm:Bool}:∀(xs:List JV),JV.forms nm xs→JV.forms true xs
 | [],_=>by unfold JV.forms;trivial
 | x :: r,h=>by unfold JV.forms at h ⊢;exact ⟨JV.form_true x h.1,JV.forms_true r h.2⟩
end
theorem JV.forms_take {nm:Bool}:∀(l:List JV) (k:Nat),JV.forms nm l→JV.forms nm (l.take k)
 | [],k,_=>by simp [JV.forms]
 | x :: r,0,_=>by simp [JV.forms]
 | x :: r,k+1,h=>by unfold JV.forms at h;simp only [List.take_succ_cons];unfold JV.forms;exact ⟨h.1,JV.forms_take r k h.2⟩
theorem JV.wts_snoc (l:List JV) (k:Nat) (h:k<l.length):JV.wts (l.take k)+JV.wt l[k]≤JV.wts l:=by
 induction l generalizing k with
 | nil=>simp at h
 | cons x r ih =>
  cases k with
  | zero=>simp [JV.wts]
  | succ k=>have:=ih k (by simpa using h);simp [JV.wts];omega
theorem bA (l:List ByteArray) (k:Nat) (h:k<l.length):qd (l.take k)+l[k].size+1≤qd l:=by
 induction l generalizing k with
 | nil=>simp at h
 | cons x r ih =>
  cases k with
  | zero=>simp [qd]
  | succ k=>have:=ih k (by simpa using h);simp [qd];omega
theorem JV.encI_take (l:List JV) (k:Nat) (h:k<l.length):JV.encI true (l.take (k+1))=JV.encI true (l.take k) ++ (sep (decide (k=0)) ++ l[k].enc):=by
 rw [List.take_succ_eq_append_getElem h,JV.encI_snoc]
 congr 3
 cases k with
 | zero=>simp
 | succ k=>cases l with
  | nil=>simp at h
  | cons x r=>simp
theorem JV.encO_take (ns:List ByteArray) (l:List JV) (k:Nat) (h:k<l.length) (hn:k<ns.length):JV.encO true (ns.take (k+1)) (l.take (k+1))=JV.encO true (ns.take k) (l.take k) ++ (sep (decide (k=0)) ++ (xb ns[k].data.toList ++ (58 :: l[k].enc))):=by
 rw [List.take_succ_eq_append_getElem h,List.take_succ_eq_append_getElem hn,JV.encO_snoc _ _ _ _ _ (by simp;omega)]
 congr 3
 cases k with
 | zero=>simp
 | succ k=>cases l with
  | nil=>simp at h
  | cons x r=>simp
end Go.Proofs.YthgembbgcbaghaaGreatDoor

namespace Go.Proofs.YthgembbgcbaghaaGreatDoor
open Go.RowKit Go.Shelf Go.Sort
def q8 (ms:List Mem):List Value:=ms.flatMap qV
theorem di (ms:List Mem) (i c:Nat) (hi:i<ms.length) (hc:c<6):(q8 ms)[i * 6+c]?=some ((qV ms[i])[c]'(by rw [zZ];exact hc)):=by
 induction ms generalizing i with
 | nil=>simp at hi
 | cons v r ih =>
  unfold q8
  rw [List.flatMap_cons]
  rcases i with _|i
  · rw [List.getElem?_append_left (by rw [zZ];omega)]
    simp
  · rw [List.getElem?_append_right (by rw [zZ];omega),zZ]
    have:=ih i (by simpa using hi)
    rw [show (i+1) * 6+c - 6=i * 6+c by omega]
    simpa [q8] using this
structure MemsAt (W0:Nat) (w:World) (v:Value) (ms:List Mem) (its:List JV):Prop where
 own:w.ownsRow W0 169 6 v ms.length (q8 ms)
 len:its.length=ms.length
 reps:∀i (h:i<its.length),∃lo hi,W0≤lo∧hi≤w.heap.size∧(∀b,v.ownBlock=some b→¬(lo≤b∧b<hi))∧Rep w lo hi its[i] (ms[i]'(by omega)).val
theorem MemsAt.below {W0:Nat} {w w':World} {v:Value} {ms:List Mem} {its:List JV} (h:MemsAt W0 w v ms its) (hb:Below w.heap.size w w'):MemsAt W0 w' v ms its :=
 ⟨qB h.own hb,h.len,fun i hi=>by
  obtain ⟨lo,hi',h1,h2,h3,hr⟩:=h.reps i hi
  exact ⟨lo,hi',h1,Nat.le_trans h2 hb.size,h3,Rep.carry lz lz (fun b _ h=>hb.block b (by omega)) _ _ hr⟩⟩
theorem MemsAt.snoc {W0:Nat} {w w':World} {v v':Value} {ms:List Mem} {its:List JV} (h:MemsAt W0 w v ms its) (m:Mem) (it:JV) (lo hi:Nat) (h1:W0≤lo) (h2:hi≤w.heap.size) (h3:∀b,v.ownBlock=some b→¬(lo≤b∧b<hi)) (hr:Rep w lo hi it m.val)
 (hg:w.grownBy w' v.ownBlock) (hown:w'.ownsRow W0 169 6 v' (ms.length+1) (q8 ms ++ qV m)) (hat:v'.ownBlock=v.ownBlock∨∃g,v'.ownBlock=some g∧w.heap.size≤g):MemsAt W0 w' v' (ms ++ [m]) (its ++ [it]):=by
 have hx:∀ {lo hi:Nat},hi≤w.heap.size→(∀b,v.ownBlock=some b→¬(lo≤b∧b<hi))→∀b,v'.ownBlock=some b→¬(lo≤b∧b<hi):=fun hz hn b hb=>by
  rcases hat with e|⟨g,e,hge⟩
  · exact hn b (by rw [← e];exact hb)
  · rw [e] at hb;simp at hb;omega
 have hc:∀ {lo hi:Nat} {it:JV} {x:Value},hi≤w.heap.size→(∀b,v.ownBlock=some b→¬(lo≤b∧b<hi))→Rep w lo hi it x→Rep w' lo hi it x:=fun hz hn hr =>
  Rep.carry lz lz (fun b hb1 hb2=>hg.block b (by omega) (fun e=>hn b e.symm ⟨hb1,hb2⟩)) _ _ hr
 have hl:=h.len
 refine ⟨?_,by simp [hl],fun i hi'=>?_⟩
 · have e:q8 (ms ++ [m])=q8 ms ++ qV m:=by simp [q8]
   rw [e,List.length_append];exact hown
 · by_cases e:i<its.length
   · obtain ⟨lo',hi'',k1,k2,k3,hr'⟩:=h.reps i e
     refine ⟨lo',hi'',k1,Nat.le_trans k2 hg.size,hx k2 k3,?_⟩
     rw [List.getElem_append_left e,List.getElem_append_left (by omega)]
     exact hc k2 k3 hr'
   · obtain rfl:i=its.length:=by simp at hi';omega
     refine ⟨lo,hi,h1,Nat.le_trans h2 hg.size,hx h2 h3,?_⟩
     rw [List.getElem_append_right (by omega),List.getElem_append_right (by omega)]
     simpa using hc h2 h3 hr
theorem MemsAt.one {W0:Nat} {w:World} {blk:Nat} (m:Mem) (it:JV) (lo hi:Nat) (h0:W0≤blk) (h1:W0≤lo) (h2:hi≤blk) (hr:Rep w lo hi it m.val) (hx:w.heap[blk]?=some (.cells (qV m).toArray 169 (0,0))):MemsAt W0 w (.slice (some ⟨blk,0,none⟩) 1 1) [m] [it]:=by
 have hb:=qx hx
 refine ⟨⟨rfl,.inr ⟨blk,1,_,rfl,h0,hx,Nat.le_refl _,by unfold maxLen;omega,rfl,?_⟩⟩,rfl,fun i hi'=>?_⟩
 · simp [q8,qV]
 · obtain rfl:i=0:=by simp at hi';omega
   exact ⟨lo,hi,h1,by omega,fun b hb=>by simp [Value.ownBlock] at hb;omega,hr⟩
theorem pi {W0:Nat} {w:World} {v:Value} {ms:List Mem} (ho:w.ownsRow W0 169 6 v ms.length (q8 ms)) (h0:0<ms.length):∃g cap,v=.slice (some ⟨g,0,none⟩) ms.length cap∧g<w.heap.size∧HoldsK qV 6 w g 0 ms.toArray:=by
 rcases ho.2 with ⟨rfl,h00⟩|⟨g,cap,cur,rfl,hg,hh,hc,hm,hs,ht⟩
 · omega
 · refine ⟨g,cap,rfl,qx hh,fun j hj=>⟨?_,by simp [World.frozen?,hh]⟩⟩
   have hj2:j<ms.length * 6:=by simpa using hj
   have e:(⟨g,0,none⟩:Addr).add j=⟨g,j,none⟩:=by unfold Addr.add;split <;> simp_all
   have hf:=di ms (j / 6) (j % 6) (by omega) (by omega)
   rw [show j / 6 * 6+j % 6=j by omega] at hf
   have:=ho.cells (g:=g) rfl j _ hf
   rw [e] at this
   rw [Nat.zero_add,this,get_flatK qV 6 ms.toArray j (by simpa using hj2)]
   have h6:j % 6<(qV (ms[j / 6]'(by omega))).length:=by rw [zZ];omega
   have h7:ms.toArray[j / 6]! = ms[j / 6]'(by omega):=by rw [getElem!_pos _ _ (by simp;omega)];simp
   rw [h7,getElem!_pos (qV (ms[j / 6]'(by omega))) (j % 6) h6]
   rfl
theorem cB (w:World) (lo hi:Nat) (n:Int):Rep w lo hi (zd n) (.agg #[.int .u8 2,.int .i64 n,.string ⟨#[]⟩,.slice none 0 0,.slice none 0 0]):=by
 unfold zd Rep
 exact ⟨none,0,none,0,rfl,Nat.le_refl _,Nat.le_refl _,.inl rfl,.inl rfl⟩
def jE (nm:ByteArray) (n:Int):Mem:=⟨nm,2,n,⟨#[]⟩,none,0,0,none,0,0⟩
end Go.Proofs.YthgembbgcbaghaaGreatDoor

namespace Go.Proofs.YthgembbgcbaghaaGreatDoor
open Go.RowKit
theorem pe {α:Type} (enc:α→List Value) (sz:Nat) (hl:∀x,(enc x).length=sz):∀(l:List α) (i c:Nat) (hi:i<l.length) (hc:c<sz),(l.flatMap enc)[i * sz+c]?=some ((enc l[i])[c]'(by rw [hl];exact hc))
 | [],i,c,hi,_=>by simp at hi
 | v :: r,i,c,hi,hc=>by
  rw [List.flatMap_cons]
  rcases i with _|i
  · rw [List.getElem?_append_left (by rw [hl];omega)]
    simp
  · have e:(i+1) * sz+c=sz+(i * sz+c):=by rw [Nat.add_mul];omega
    rw [List.getElem?_append_right (by rw [hl,e];omega),hl,e,Nat.add_sub_cancel_left]
    simpa using pe enc sz hl r i c (by simpa using hi) hc
def gT {α:Type} (P:World→Nat→Nat→α→Prop):Prop:=∀(w w':World) (lo hi:Nat) (q:α),(∀b,lo≤b→b<hi→w'.heap[b]?=w.heap[b]?)→P w lo hi q→P w' lo hi q
structure ItemsOwn {α:Type} (T sz B:Nat) (enc:α→List Value) (P:World→Nat→Nat→α→Prop) (w:World) (vs:Value) (qs:List α):Prop where
 own:w.ownsRow B T sz vs qs.length (qs.flatMap enc)
 each:∀q ∈ qs,∃lo hi,B≤lo∧hi≤w.heap.size∧(∀b,vs.ownBlock=some b→¬(lo≤b∧b<hi))∧P w lo hi q
theorem ItemsOwn.nil {α:Type} (T sz B:Nat) (enc:α→List Value) (P:World→Nat→Nat→α→Prop) (w:World):ItemsOwn T sz B enc P w (.slice none 0 0) []:=⟨World.ownsRow_nil _ _ _ _,by simp⟩
theorem de {S:Nat→Prop} {B T sz n:Nat} {w w':World} {v:Value} {cs:List Value} (h:w.ownsRow B T sz v n cs) (hT:Touch S w w') (hS:∀k,B≤k→¬S k):w'.ownsRow B T sz v n cs:=by
 refine zL h fun b hb=>?_
 have:=h.lt b hb
 exact hT.block b this.2 (hS b this.1)
theorem ItemsOwn.touch {α:Type} {T sz B:Nat} {enc:α→List Value} {P:World→Nat→Nat→α→Prop} (hP:gT P) {S:Nat→Prop} {w w':World} {vs:Value} {qs:List α} (h:ItemsOwn T sz B enc P w vs qs) (hT:Touch S w w') (hS:∀k,B≤k→¬S k):ItemsOwn T sz B enc P w' vs qs :=
 ⟨de h.own hT hS,fun q hq=>by
  obtain ⟨lo,hi,h1,h2,h3,hk⟩:=h.each q hq
  exact ⟨lo,hi,h1,Nat.le_trans h2 hT.size,h3,hP _ _ _ _ _ (fun b b1 b2=>hT.block b (by omega) (hS b (by omega))) hk⟩⟩
theorem ItemsOwn.below {α:Type} {T sz B:Nat} {enc:α→List Value} {P:World→Nat→Nat→α→Prop} (hP:gT P) {w w':World} {vs:Value} {qs:List α} (h:ItemsOwn T sz B enc P w vs qs) (hb:Below w.heap.size w w'):ItemsOwn T sz B enc P w' vs qs :=
 h.touch hP (Touch.of_below (S:=fun _=>False) hb lz) (fun _ _ h=>h)
theorem dQ {B B' T sz n:Nat} {w:World} {v:Value} {cs:List Value} (h:w.ownsRow B T sz v n cs) (hB:B'≤B):w.ownsRow B' T sz v n cs:=by
 refine ⟨h.1,?_⟩
 rcases h.2 with h2|⟨g,cap,cur,hv,hg,r⟩
 · exact .inl h2
 · exact .inr ⟨g,cap,cur,hv,Nat.le_trans hB hg,r⟩
theorem ItemsOwn.mono {α:Type} {T sz B B':Nat} {enc:α→List Value} {P:World→Nat→Nat→α→Prop} {w:World} {vs:Value} {qs:List α} (h:ItemsOwn T sz B enc P w vs qs) (hB:B'≤B):ItemsOwn T sz B' enc P w vs qs :=
 ⟨dQ h.own hB,fun q hq=>by
  obtain ⟨lo,hi,h1,h2⟩:=h.each q hq
  exact ⟨lo,hi,Nat.le_trans hB h1,h2⟩⟩
theorem ItemsOwn.snoc {α:Type} {T sz B:Nat} {enc:α→List Value} {P:World→Nat→Nat→α→Prop} (hP:gT P) {w w':World} {v v':Value} {qs:List α} (h:ItemsOwn T sz B enc P w v qs) (q:α) (lo hi:Nat) (h1:B≤lo) (h2:hi≤w.heap.size) (h3:∀b,v.ownBlock=some b→¬(lo≤b∧b<hi)) (hk:P w lo hi q)
 (hg:w.grownBy w' v.ownBlock) (hown:w'.ownsRow B T sz v' (qs.length+1) (qs.flatMap enc ++ enc q)) (hat:v'.ownBlock=v.ownBlock∨∃g,v'.ownBlock=some g∧w.heap.size≤g):ItemsOwn T sz B enc P w' v' (qs ++ [q]):=by
 have hx:∀ {lo hi:Nat},hi≤w.heap.size→(∀b,v.ownBlock=some b→¬(lo≤b∧b<hi))→∀b,v'.ownBlock=some b→¬(lo≤b∧b<hi):=fun hz hn b hb=>by
  rcases hat with e|⟨g,e,hge⟩
  · exact hn b (by rw [← e];exact hb)
  · rw [e] at hb;simp at hb;omega
 have hcar:∀ {lo hi:Nat} {x:α},hi≤w.heap.size→(∀b,v.ownBlock=some b→¬(lo≤b∧b<hi))→P w lo hi x→P w' lo hi x:=fun hz hn hr =>
  hP _ _ _ _ _ (fun b hb1 hb2=>hg.block b (by omega) (fun e=>hn b e.symm ⟨hb1,hb2⟩)) hr
 refine ⟨?_,fun p hp=>?_⟩
 · rw [List.length_append,List.flatMap_append];simpa using hown
 · rcases List.mem_append.1 hp with hp|hp
   · obtain ⟨lo',hi',k1,k2,k3,hk'⟩:=h.each p hp
     exact ⟨lo',hi',k1,Nat.le_trans k2 hg.size,hx k2 k3,hcar k2 k3 hk'⟩
   · obtain rfl:p=q:=by simpa using hp
     exact ⟨lo,hi,h1,Nat.le_trans h2 hg.size,hx h2 h3,hcar h2 h3 hk⟩
theorem ItemsOwn.cells {α:Type} {T sz B:Nat} {enc:α→List Value} {P:World→Nat→Nat→α→Prop} (hl:∀x,(enc x).length=sz) {w:World} {a:Option Addr} {n c:Nat} {qs:List α} (h:ItemsOwn T sz B enc P w (.slice a n c) qs) :
 n=qs.length∧n≤c∧(qs=[]∨∃g,a=some ⟨g,0,none⟩∧B≤g∧g<w.heap.size∧(∀o,w.frozen? ⟨g,o,none⟩=false)∧∀i (hi:i<qs.length) q (hq:q<sz),w.cell? ⟨g,i * sz+q,none⟩=some ((enc qs[i])[q]'(by rw [hl];exact hq))):=by
 have ho:=h.own
 rcases h.own.2 with ⟨hv,h0⟩|⟨g,cap,cur,hv,hg,hh,hc,hm,hs,ht⟩
 · simp only [Value.slice.injEq] at hv
   exact ⟨by omega,by omega,.inl (List.eq_nil_of_length_eq_zero h0)⟩
 · simp only [Value.slice.injEq] at hv
   obtain ⟨rfl,rfl,rfl⟩:=hv
   refine ⟨rfl,hc,.inr ⟨g,rfl,hg,qx hh,fun o=>by simp [World.frozen?,hh],fun i hi2 q hq=>?_⟩⟩
   have e:(⟨g,0,none⟩:Addr).add (i * sz+q)=⟨g,i * sz+q,none⟩:=by unfold Addr.add;split <;> simp_all
   have:=ho.cells (g:=g) rfl _ _ (pe enc sz hl qs i q hi2 hq)
   rw [e] at this
   exact this
theorem cP {v:JV} (h:v.mayB=true) (hk:v.kind=5):qe v.names=true∧v.names.length=v.items.length∧v.names.all qZ=true:=by
 unfold JV.mayB at h
 rw [JV.may_eq] at h
 split at h
 · cases h
 split at h
 · cases h
 next h2 =>
 rcases yA (by simpa using h2) with ⟨e,_⟩|⟨e,_⟩|⟨e,_⟩|e|⟨_,e1,e2,e3⟩ <;> first|omega|exact ⟨e2,e1,e3⟩
theorem pQ {v:JV} {y:ByteArray} {st:PS} (hv:v.wt≤4294967296):(qf v y st).1.size≤4294967296∧(qf v y st).2.asked.length≤st.asked.length+1:=by
 unfold qf
 split
 · exact ⟨by show 0≤_;omega,by simp⟩
 split
 · exact ⟨by show 0≤_;omega,by simp⟩
 · next it hit =>
   split
   · refine ⟨?_,by simp⟩
     have:∀(ns:List ByteArray) (xs:List JV),qC ns xs y=some it→it.wt≤JV.wts xs:=by
      intro ns
      induction ns with
      | nil=>intro xs h;simp [qC] at h
      | cons n ns ih =>
       intro xs h
       cases xs with
       | nil=>simp [qC] at h
       | cons x xs =>
        rw [qC] at h
        split at h
        · cases h;simp [JV.wts]
        · have:=ih xs h;simp [JV.wts];omega
     have h1:=this _ _ hit
     have h2:=it.wt_bd
     have h3:=v.wt_bd
     show it.t.size≤_
     omega
   · exact ⟨by show 0≤_;omega,by simp⟩
end Go.Proofs.YthgembbgcbaghaaGreatDoor
