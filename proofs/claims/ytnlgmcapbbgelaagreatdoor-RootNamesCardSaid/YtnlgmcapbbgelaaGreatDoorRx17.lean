/- The contracts of a picker's Num, Has, Object, Fail where the value is no object. -/
import Derived.Test.YtnlgmcapbbgelaaGreatDoorRx16
import Derived.Test.YtnlgmcapbbgelaaGreatDoorRx15
import Derived.Test.YtnlgmcapbbgelaaGreatDoorRx13
import Derived.Lib.ItoaLen

namespace Go.Proofs.YtnlgmcapbbgelaaGreatDoor
open Go.RowKit
mutual
def JV.partB:JV→Bool
 | .mk k n t ns xs=>qn k n t ns xs.length && JV.partsB xs
def JV.partsB:List JV→Bool
 | []=>true
 | x :: r=>JV.partB x && JV.partsB r
end
mutual
def JV.depth:JV→Nat
 | .mk k _ _ _ xs=>if k≠4∧k≠5 then 0 else JV.depths xs+1
def JV.depths:List JV→Nat
 | []=>0
 | x :: r=>max (JV.depth x) (JV.depths r)
end
theorem JV.partB_eq (v:JV):v.partB=(qn v.kind v.n v.t v.names v.items.length && JV.partsB v.items):=by cases v;rw [JV.partB];rfl
theorem JV.depth_eq (v:JV):v.depth=if v.kind≠4∧v.kind≠5 then 0 else JV.depths v.items+1:=by cases v;rw [JV.depth];rfl
theorem JV.count_eq (v:JV):v.count=1+JV.counts v.items:=by cases v;rw [JV.count];rfl
theorem JV.partsB_bad (l:List JV) (k:Nat) (h:k<l.length) (hb:JV.partB l[k]=false):JV.partsB l=false:=by
 induction l generalizing k with
 | nil=>simp at h
 | cons x r ih =>
  cases k with
  | zero=>simp only [List.getElem_cons_zero] at hb;rw [JV.partsB,hb];rfl
  | succ k=>rw [JV.partsB,ih k (by simpa using h) (by simpa using hb),Bool.and_false]
mutual
theorem JV.depth_le:∀v:JV,v.depth≤v.wt
 | .mk k _ _ _ xs=>by have:=JV.depths_le xs;rw [JV.depth,JV.wt];split <;> omega
theorem JV.depths_le:∀l:List JV,JV.depths l≤JV.wts l
 | []=>by simp [JV.depths]
 | x :: r=>by have:=JV.depth_le x;have:=JV.depths_le r;rw [JV.depths,JV.wts];omega
end
theorem JV.proper_leaf {v:JV} (h:qn v.kind v.n v.t v.names v.items.length=true) (h4:v.kind≠4) (h5:v.kind≠5):v.items=[]:=by
 unfold qn at h
 split at h
 · simp at h;exact h.2.2.1
 split at h
 · simp at h;exact h.2.2
 split at h
 · simp at h;exact h.1.2.2
 · first|(cases h;done)|(rw [if_neg h4,if_neg h5] at h;cases h)
mutual
theorem JV.may_iff:∀(v:JV) (d:Nat) (l:Int),0≤l→((v.may d l).1=true↔v.partB=true∧(v.count:Int)≤l∧v.depth≤d)∧((v.may d l).1=true→(v.may d l).2=l - v.count)
 | .mk k n t ns xs,d,l,hl=>by
  rw [JV.may,JV.partB,JV.count,JV.depth]
  by_cases h0:l - 1<0
  · rw [if_pos h0];simp;omega
  rw [if_neg h0]
  cases hp:qn k n t ns xs.length
  · simp
  simp only [Bool.true_eq_false,if_false,Bool.true_and]
  by_cases hk:k≠4∧k≠5
  · have hx:xs=[]:=JV.proper_leaf (v:=.mk k n t ns xs) hp hk.1 hk.2
    subst hx
    rw [if_pos hk,if_pos hk]
    simp [JV.partsB,JV.counts];omega
  · rw [if_neg hk,if_neg hk]
    by_cases hd:d=0
    · rw [if_pos hd];simp;omega
    · rw [if_neg hd]
      obtain ⟨i1,i2⟩:=JV.mays_iff xs (d - 1) (l - 1) (by omega)
      refine ⟨?_,fun h=>?_⟩
      · rw [i1];constructor
        · rintro ⟨a,b,c⟩;exact ⟨a,by push_cast;omega,by omega⟩
        · rintro ⟨a,b,c⟩;exact ⟨a,by push_cast at b;omega,by omega⟩
      · rw [i2 h];push_cast;omega
theorem JV.mays_iff:∀(xs:List JV) (d:Nat) (l:Int),0≤l→((JV.mays xs d l).1=true↔JV.partsB xs=true∧(JV.counts xs:Int)≤l∧JV.depths xs≤d)∧((JV.mays xs d l).1=true→(JV.mays xs d l).2=l - JV.counts xs)
 | [],d,l,hl=>by simp [JV.mays,JV.partsB,JV.counts,JV.depths];omega
 | x :: r,d,l,hl=>by
  obtain ⟨a1,a2⟩:=JV.may_iff x d l hl
  rw [JV.mays,JV.partsB,JV.counts,JV.depths]
  cases h:(JV.may x d l).1
  · rw [h] at a1
    simp only [Bool.false_eq_true,if_false,false_iff,not_and,Bool.and_eq_true,false_implies,and_true] at a1 ⊢
    intro hp hc
    have:=a1 hp.1 (by push_cast at hc;omega)
    omega
  · rw [if_pos rfl]
    have hb:=(JV.may_bd x d l hl).2.2 h
    obtain ⟨c1,c2,c3⟩:=a1.1 h
    have e2:=a2 h
    obtain ⟨i1,i2⟩:=JV.mays_iff r d _ hb
    rw [i1,e2]
    refine ⟨?_,fun hh=>?_⟩
    · rw [c1,Bool.true_and];constructor
      · rintro ⟨a,b,c⟩;exact ⟨a,by push_cast;omega,by omega⟩
      · rintro ⟨a,b,c⟩;exact ⟨a,by push_cast at b;omega,by omega⟩
    · have hh':(JV.mays r d (JV.may x d l).2).1=true:=by rw [e2];exact i1.2 (by rw [e2];exact hh) |> fun z=>by rwa [e2] at z
      have:=i2 hh'
      rw [e2] at this
      rw [this];push_cast;omega
end
theorem JV.mayB_iff (v:JV):v.mayB=(v.partB && decide (v.count≤8192) && decide (v.depth≤12)):=by
 unfold JV.mayB
 rw [Bool.eq_iff_iff,(JV.may_iff v 12 8192 (by omega)).1]
 simp only [Bool.and_eq_true,decide_eq_true_eq]
 constructor
 · rintro ⟨a,b,c⟩;exact ⟨⟨a,by omega⟩,c⟩
 · rintro ⟨⟨a,b⟩,c⟩;exact ⟨a,by omega,c⟩
def qV (n:Int):JV:=.mk 2 n ⟨#[]⟩ [] []
def xq:ByteArray:=⟨#[118,101,114,115,105,111,110]⟩
def zK:ByteArray:=⟨#[95,116,121,112,101]⟩
def xz:ByteArray:=⟨#[101,120,112,105,114,101,115]⟩
def zp:ByteArray:=⟨#[115,110,97,112,115,104,111,116]⟩
def zO:ByteArray:=⟨#[116,97,114,103,101,116,115]⟩
def qB (v:JV) (y:ByteArray) (lo hi:Int) (st:PS):Int × PS :=
 if st.err≠0 then (0,st) else match v.look y with
 | none=>(0,⟨st.asked,6⟩)
 | some it=>if it.kind≠2 then (0,⟨st.asked,10⟩) else if it.n<lo∨hi<it.n then (0,⟨st.asked,1⟩) else (it.n,⟨y :: st.asked,0⟩)
def qv (v:JV) (y:ByteArray) (most:Nat) (st:PS):JV × PS :=
 if st.err≠0 then (qL,st) else match v.look y with
 | none=>(qL,⟨st.asked,6⟩)
 | some it=>if it.kind≠5 then (qL,⟨st.asked,10⟩) else if most<it.items.length then (qL,⟨st.asked,5⟩) else (it,⟨y :: st.asked,0⟩)
def PS.fail (st:PS) (e:Int):PS:=if st.err=0 then ⟨st.asked,e⟩ else st
abbrev NJ:=ByteArray × JV
def okN (N:List NJ):Prop:=ql (N.map (·.1))=true∧∀p ∈ N,qe p.1=true∧p.2.partB=true
def xr (N:List NJ):JV:=.mk 5 0 ⟨#[]⟩ (N.map (·.1)) (N.map (·.2))
theorem wA:∀l:List JV,(∀x ∈ l,x.partB=true)→JV.partsB l=true
 | [],_=>rfl
 | x :: r,h=>by rw [JV.partsB,h x (List.mem_cons_self ..),wA r fun y hy=>h y (List.mem_cons_of_mem _ hy)];rfl
theorem wT {N:List NJ} (h:okN N):(xr N).partB=true:=by
 rw [JV.partB_eq]
 have h1:qn 5 0 ⟨#[]⟩ (N.map (·.1)) (N.map (·.2)).length=true:=by
  unfold qn
  rw [if_neg (by decide),if_neg (by decide),if_neg (by decide),if_neg (by decide),if_pos rfl,h.1]
  have h2:(⟨#[]⟩:ByteArray).toList=[]:=by rw [ByteArray.toList_eq]
  have h3:(N.map (·.1)).all qe=true:=by
   rw [List.all_eq_true]
   intro x hx
   obtain ⟨p,hp,rfl⟩:=List.mem_map.1 hx
   exact (h.2 p hp).1
  rw [h3]
  simp [h2]
 show (qn 5 0 ⟨#[]⟩ (N.map (·.1)) (N.map (·.2)).length && JV.partsB (N.map (·.2)))=true
 rw [h1,wA _ fun x hx=>by obtain ⟨p,hp,rfl⟩:=List.mem_map.1 hx;exact (h.2 p hp).2]
 rfl
theorem wI {t:ByteArray} (h:qe t=true):(txtJ t).partB=true:=by
 rw [JV.partB_eq]
 show (qn 3 0 t [] 0 && JV.partsB [])=true
 unfold qn
 rw [if_neg (by decide),if_neg (by decide),if_pos rfl,h]
 rfl
theorem pW (n:Int):(qV n).partB=true:=by
 rw [JV.partB_eq]
 show (qn 2 n ⟨#[]⟩ [] 0 && JV.partsB [])=true
 unfold qn
 rw [if_neg (by decide),if_pos rfl]
 have h2:(⟨#[]⟩:ByteArray).toList=[]:=by rw [ByteArray.toList_eq]
 simp [h2,JV.partsB]
theorem counts_le (b:Nat):∀l:List JV,(∀x ∈ l,x.count≤b)→JV.counts l≤l.length * b
 | [],_=>by simp [JV.counts]
 | x :: r,h=>by
  have h1:=h x (List.mem_cons_self ..)
  have h2:=counts_le b r fun y hy=>h y (List.mem_cons_of_mem _ hy)
  rw [JV.counts,List.length_cons,Nat.succ_mul];omega
theorem kw (b:Nat):∀l:List JV,(∀x ∈ l,x.depth≤b)→JV.depths l≤b
 | [],_=>by simp [JV.depths]
 | x :: r,h=>by
  have h1:=h x (List.mem_cons_self ..)
  have h2:=kw b r fun y hy=>h y (List.mem_cons_of_mem _ hy)
  rw [JV.depths];omega
theorem vD {N:List NJ} (b:Nat) (h:∀p ∈ N,p.2.count≤b):(xr N).count≤1+N.length * b:=by
 rw [JV.count_eq]
 have:=counts_le b (N.map (·.2)) fun x hx=>by obtain ⟨p,hp,rfl⟩:=List.mem_map.1 hx;exact h p hp
 rw [List.length_map] at this
 show 1+JV.counts (N.map (·.2))≤_
 omega
theorem vL {N:List NJ} (b:Nat) (h:∀p ∈ N,p.2.depth≤b):(xr N).depth≤b+1:=by
 rw [JV.depth_eq]
 have:=kw b (N.map (·.2)) fun x hx=>by obtain ⟨p,hp,rfl⟩:=List.mem_map.1 hx;exact h p hp
 rw [if_neg (by simp [xr,JV.kind])]
 show JV.depths (N.map (·.2))+1≤_
 omega
theorem fc (t:ByteArray):(txtJ t).count=1∧(txtJ t).depth=0:=by
 rw [JV.count_eq,JV.depth_eq];exact ⟨rfl,rfl⟩
theorem cf (n:Int):(qV n).count=1∧(qV n).depth=0:=by
 rw [JV.count_eq,JV.depth_eq];exact ⟨rfl,rfl⟩
theorem gP {v:JV} {y:ByteArray} {n lo hi:Int} {a:List ByteArray} (h:v.look y=some (qV n)) (h1:lo≤n) (h2:n≤hi):qB v y lo hi ⟨a,0⟩=(n,⟨y :: a,0⟩):=by
 unfold qB
 rw [if_neg (by simp),h]
 show (if (2:Int)≠2 then _ else if n<lo∨hi<n then _ else _)=_
 rw [if_neg (by decide),if_neg (by omega)]
 rfl
def xR (n:Int):ByteArray:=⟨(jP n.toNat).toArray⟩
theorem ug {n:Int} (h:0≤n∧n≤253402300799):qe (xR n)=true∧xD (xR n).data.toList=(n,0):=by
 obtain ⟨h1,h2⟩:=yI n.toNat (by omega)
 have h3:=cS n.toNat (by omega)
 have e:(xR n).data.toList=jP n.toNat:=rfl
 refine ⟨zx (fun c hc=>?_) ?_,?_⟩
 · rw [e] at hc
   unfold zR
   rcases h2 c hc with h|rfl|rfl|rfl
   · omega
   · decide
   · decide
   · decide
 · have:(xR n).size=(jP n.toNat).length:=by simp [xR,ByteArray.size]
   omega
 · rw [e,h3,Int.toNat_of_nonneg h.1]
theorem yZ {v:JV} {y t:ByteArray} {a:List ByteArray} (h:v.look y=some (txtJ t)):qy v y ⟨a,0⟩=(t,⟨y :: a,0⟩):=by
 unfold qy
 rw [if_neg (by simp),h]
 show (if (3:Int)=3 then _ else _)=_
 rw [if_pos rfl];rfl
theorem yX {k n:Int} {t:ByteArray} {ns:List ByteArray} {li:Nat} (h:qn k n t ns li=true):(k=1∧li=0)∨(k=2∧li=0)∨(k=3∧qe t=true∧li=0)∨k=4∨(k=5∧ns.length=li∧ql ns=true∧ns.all qe=true):=by
 unfold qn at h
 by_cases h1:k=1
 · rw [if_pos h1] at h;simp at h;exact .inl ⟨h1,h.2.2.1⟩
 rw [if_neg h1] at h
 by_cases h2:k=2
 · rw [if_pos h2] at h;simp at h;exact .inr (.inl ⟨h2,h.2.2⟩)
 rw [if_neg h2] at h
 by_cases h3:k=3
 · rw [if_pos h3] at h;simp at h;exact .inr (.inr (.inl ⟨h3,h.2,h.1.2.2⟩))
 rw [if_neg h3] at h
 by_cases h4:k=4
 · exact .inr (.inr (.inr (.inl h4)))
 rw [if_neg h4] at h
 by_cases h5:k=5
 · rw [if_pos h5] at h
   simp only [Bool.and_eq_true,decide_eq_true_eq] at h
   exact .inr (.inr (.inr (.inr ⟨h5,h.1.1.2.2,h.1.2,h.2⟩)))
 · rw [if_neg h5] at h;cases h
def sep (first:Bool):List UInt8:=if first then [] else [44]
mutual
def JV.enc:JV→List UInt8
 | .mk k n t ns xs=>if k=1 then (if n=1 then [116,114,117,101] else [102,97,108,115,101]) else if k=2 then Lib.itoa n else if k=3 then zN t.data.toList
  else if k=4 then 91 :: (JV.encI true xs ++ [93]) else 123 :: (JV.encO true ns xs ++ [125])
def JV.encI:Bool→List JV→List UInt8
 | _,[]=>[]
 | f,x :: r=>sep f ++ (JV.enc x ++ JV.encI false r)
def JV.encO:Bool→List ByteArray→List JV→List UInt8
 | _,_,[]=>[]
 | _,[],_ :: _=>[]
 | f,s :: ns,x :: r=>sep f ++ (zN s.data.toList ++ (58 :: (JV.enc x ++ JV.encO false ns r)))
end
theorem JV.enc_eq (v:JV):v.enc=if v.kind=1 then (if v.n=1 then [116,114,117,101] else [102,97,108,115,101]) else if v.kind=2 then Lib.itoa v.n else if v.kind=3 then zN v.t.data.toList
 else if v.kind=4 then 91 :: (JV.encI true v.items ++ [93]) else 123 :: (JV.encO true v.names v.items ++ [125]):=by cases v;rw [JV.enc];rfl
theorem JV.encI_snoc:∀(l:List JV) (f:Bool) (x:JV),JV.encI f (l ++ [x])=JV.encI f l ++ (sep (f && l.isEmpty) ++ x.enc)
 | [],f,x=>by simp [JV.encI]
 | y :: r,f,x=>by simp [JV.encI,JV.encI_snoc r false x]
theorem JV.encO_snoc:∀(ns:List ByteArray) (l:List JV) (f:Bool) (s:ByteArray) (x:JV),ns.length=l.length→JV.encO f (ns ++ [s]) (l ++ [x])=JV.encO f ns l ++ (sep (f && l.isEmpty) ++ (zN s.data.toList ++ (58 :: x.enc)))
 | [],[],f,s,x,_=>by simp [JV.encO]
 | [],_ :: _,_,_,_,h=>by simp at h
 | _ :: _,[],_,_,_,h=>by simp at h
 | n :: ns,y :: r,f,s,x,h=>by simp [JV.encO,JV.encO_snoc ns r false s x (by simpa using h)]
def ch (n:Int):Prop:=-9223372036854775808≤n∧n≤9223372036854775807
mutual
def JV.form (nm:Bool):JV→Prop
 | .mk k n t ns xs=>(k=1∨(k=2∧nm=true∧ch n)∨(k=3∧qe t=true)∨k=4∨(k=5∧ns.length=xs.length∧∀i (h:i<ns.length),qe ns[i]=true))∧JV.forms nm xs
def JV.forms (nm:Bool):List JV→Prop
 | []=>True
 | x :: r=>JV.form nm x∧JV.forms nm r
end
theorem JV.form_eq {nm:Bool} {v:JV} (h:v.form nm):(v.kind=1∨(v.kind=2∧nm=true∧ch v.n)∨(v.kind=3∧qe v.t=true)∨v.kind=4∨(v.kind=5∧v.names.length=v.items.length∧∀i (h:i<v.names.length),qe v.names[i]=true))∧JV.forms nm v.items:=by
 cases v;unfold JV.form at h;exact h
theorem JV.forms_get {nm:Bool}:∀(l:List JV) (i:Nat) (h:i<l.length),JV.forms nm l→JV.form nm l[i]
 | s :: r,0,_,h=>by unfold JV.forms at h;exact h.1
 | s :: r,i+1,hi,h=>by unfold JV.forms at h;exact JV.forms_get r i (by simpa using hi) h.2
mutual
theorem JV.form_of_may:∀(v:JV) (d:Nat) (l:Int),v.num→(v.may d l).1=true→v.form true
 | .mk k n t ns xs,d,l,hn,h=>by
  rw [JV.may] at h
  unfold JV.num at hn
  split at h
  · cases h
  split at h
  · cases h
  next h1 h2 =>
  have hp:=yX (by simpa using h2)
  unfold JV.form
  split at h
  · next h3 =>
    have hx:xs=[]:=by
     rcases hp with ⟨_,e⟩|⟨_,e⟩|⟨_,_,e⟩|e|⟨e,_⟩
     · exact List.eq_nil_of_length_eq_zero e
     · exact List.eq_nil_of_length_eq_zero e
     · exact List.eq_nil_of_length_eq_zero e
     · exact absurd e h3.1
     · exact absurd e h3.2
    subst hx
    refine ⟨?_,by unfold JV.forms;trivial⟩
    rcases hp with ⟨e,_⟩|⟨e,_⟩|⟨e,e2,_⟩|e|⟨e,_⟩
    · exact .inl e
    · exact .inr (.inl ⟨e,rfl,hn.2.1⟩)
    · exact .inr (.inr (.inl ⟨e,e2⟩))
    · exact absurd e h3.1
    · exact absurd e h3.2
  · next h3 =>
    split at h
    · cases h
    · refine ⟨?_,JV.forms_of_mays xs _ _ hn.2.2 h⟩
      rcases hp with ⟨e,_⟩|⟨e,_⟩|⟨e,e2,_⟩|e|⟨e,e2,_,e3⟩
      · exact .inl e
      · exact .inr (.inl ⟨e,rfl,hn.2.1⟩)
      · exact .inr (.inr (.inl ⟨e,e2⟩))
      · exact .inr (.inr (.inr (.inl e)))
      · exact .inr (.inr (.inr (.inr ⟨e,e2,fun i hi=>List.all_eq_true.1 e3 _ (List.getElem_mem hi)⟩)))
theorem JV.forms_of_mays:∀(xs:List JV) (d:Nat) (l:Int),JV.nums xs→(JV.mays xs d l).1=true→JV.forms true xs
 | [],_,_,_,_=>by unfold JV.forms;trivial
 | x :: r,d,l,hn,h=>by
  rw [JV.mays] at h
  unfold JV.nums at hn
  unfold JV.forms
  split at h
  · next h1=>exact ⟨JV.form_of_may x d l hn.1 h1,JV.forms_of_mays r _ _ hn.2 h⟩
  · cases h
end
theorem xK (s:ByteArray):(zN s.data.toList).length≤2 * s.size+2:=by
 have:=kB s.data.toList
 rw [qp] at this
 unfold zN
 simp
 omega
theorem gH (f:Bool):(sep f).length≤1:=by cases f <;> simp [sep]
mutual
theorem JV.enc_length:∀(v:JV),v.form true→v.enc.length+4≤30 * v.wt
 | .mk k n t ns xs,h=>by
  unfold JV.form at h
  rw [JV.enc,JV.wt]
  have h1:=JV.encI_length xs true h.2
  have h2:=JV.encO_length ns xs true h.2
  split
  · split <;> simp <;> omega
  split
  · next e1 e2 =>
    rcases h.1 with e|⟨_,_,e⟩|⟨e,_⟩|e|⟨e,_⟩ <;> first|omega|skip
    have:=Lib.itoa_length_le n e.1 e.2
    omega
  split
  · have:=xK t;omega
  split
  · simp;omega
  · simp;omega
theorem JV.encI_length:∀(xs:List JV) (f:Bool),JV.forms true xs→(JV.encI f xs).length≤30 * JV.wts xs
 | [],f,_=>by simp [JV.encI]
 | x :: r,f,h=>by
  unfold JV.forms at h
  have h1:=JV.enc_length x h.1
  have h2:=JV.encI_length r false h.2
  have h3:=gH f
  simp [JV.encI,JV.wts];omega
theorem JV.encO_length:∀(ns:List ByteArray) (xs:List JV) (f:Bool),JV.forms true xs→(JV.encO f ns xs).length≤30 * qm ns+30 * JV.wts xs
 | ns,[],f,_=>by simp [JV.encO]
 | [],x :: r,f,_=>by simp [JV.encO]
 | s :: ns,x :: r,f,h=>by
  unfold JV.forms at h
  have h1:=JV.enc_length x h.1
  have h2:=JV.encO_length ns r false h.2
  have h3:=gH f
  have h4:=xK s
  simp [JV.encO,JV.wts,qm];omega
end
mutual
theorem JV.form_true {nm:Bool}:∀(v:JV),v.form nm→v.form true
 | .mk k n t ns xs,h=>by
  unfold JV.form at h ⊢
  refine ⟨?_,JV.forms_true xs h.2⟩
  rcases h.1 with e|⟨e,_,e2⟩|e|e|e
  · exact .inl e
  · exact .inr (.inl ⟨e,rfl,e2⟩)
  · exact .inr (.inr (.inl e))
  · exact .inr (.inr (.inr (.inl e)))
  · exact .inr (.inr (.inr (.inr e)))
theorem JV.forms_true {nm:Bool}:∀(xs:List JV),JV.forms nm xs→JV.forms true xs
 | [],_=>by unfold JV.forms;trivial
 | x :: r,h=>by unfold JV.forms at h ⊢;exact ⟨JV.form_true x h.1,JV.forms_true r h.2⟩
end
theorem JV.forms_take {nm:Bool}:∀(l:List JV) (k:Nat),JV.forms nm l→JV.forms nm (l.take k)
 | [],k,_=>by simp [JV.forms]
 | x :: r,0,_=>by simp [JV.forms]
 | x :: r,k+1,h=>by unfold JV.forms at h;simp only [List.take_succ_cons];unfold JV.forms;exact ⟨h.1,JV.forms_take r k h.2⟩
theorem JV.wts_snoc (l:List JV) (k:Nat) (h:k<l.length):JV.wts (l.take k)+JV.wt l[k]≤JV.wts l:=by
 induction l generalizing k with
 | nil=>simp at h
 | cons x r ih =>
  cases k with
  | zero=>simp [JV.wts]
  | succ k=>have:=ih k (by simpa using h);simp [JV.wts];omega
theorem b9 (l:List ByteArray) (k:Nat) (h:k<l.length):qm (l.take k)+l[k].size+1≤qm l:=by
 induction l generalizing k with
 | nil=>simp at h
 | cons x r ih =>
  cases k with
  | zero=>simp [qm]
  | succ k=>have:=ih k (by simpa using h);simp [qm];omega
theorem JV.encI_take (l:List JV) (k:Nat) (h:k<l.length):JV.encI true (l.take (k+1))=JV.encI true (l.take k) ++ (sep (decide (k=0)) ++ l[k].enc):=by
 rw [List.take_succ_eq_append_getElem h,JV.encI_snoc]
 congr 3
 cases k with
 | zero=>simp
 | succ k=>cases l with
  | nil=>simp at h
  | cons x r=>simp
theorem JV.encO_take (ns:List ByteArray) (l:List JV) (k:Nat) (h:k<l.length) (hn:k<ns.length):JV.encO true (ns.take (k+1)) (l.take (k+1))=JV.encO true (ns.take k) (l.take k) ++ (sep (decide (k=0)) ++ (zN ns[k].data.toList ++ (58 :: l[k].enc))):=by
 rw [List.take_succ_eq_append_getElem h,List.take_succ_eq_append_getElem hn,JV.encO_snoc _ _ _ _ _ (by simp;omega)]
 congr 3
 cases k with
 | zero=>simp
 | succ k=>cases l with
  | nil=>simp at h
  | cons x r=>simp
end Go.Proofs.YtnlgmcapbbgelaaGreatDoor

namespace Go.Proofs.YtnlgmcapbbgelaaGreatDoor
open Go.RowKit Go.WideMaps Go.Maps
def zt (k n l h:Int):Int:=if k≠2 then 10 else if n<l∨h<n then 1 else 0
def xe (k n l h:Int):Int:=if k≠2 then 0 else if n<l∨h<n then 0 else n
theorem pY {k n l h:Int} (e:zt k n l h=0):k=2∧¬(n<l∨h<n):=by
 unfold zt at e
 split at e
 · omega
 split at e
 · omega
 · exact ⟨by omega,by omega⟩
theorem dy {k n l h:Int} (e:zt k n l h=0):xe k n l h=n:=by
 obtain ⟨a,b⟩:=pY e
 unfold xe;rw [if_neg (by simp [a]),if_neg b]
theorem dg {k n l h:Int} (e:¬zt k n l h=0):xe k n l h=0:=by
 unfold zt at e;unfold xe
 split
 · rfl
 split
 · rfl
 · rename_i a b;rw [if_neg a,if_neg b] at e;omega
theorem db {it:JV} {a:List ByteArray} {l h:Int} {X:Int × PS} (e:¬zt it.kind it.n l h=0) :
 (if it.kind≠2 then ((0:Int),(⟨a,10⟩:PS)) else if it.n<l∨h<it.n then (0,⟨a,1⟩) else X)=(0,⟨a,zt it.kind it.n l h⟩):=by
 unfold zt at e ⊢
 split
 · rfl
 split
 · rfl
 · rename_i a b;rw [if_neg a,if_neg b] at e;omega
set_option maxHeartbeats 400000 in
theorem nQ (k n:Int) (t:ByteArray) (a b:Value) (l h:Int) (p1 p2:Nat) (w:World) (c1:w.cell? ⟨p1,0,none⟩=some (.int .i64 l)) (c2:w.cell? ⟨p2,0,none⟩=some (.int .i64 h)) :
 Calls Tryz.prog 100 #[.agg #[.int .u8 k,.int .i64 n,.string t,a,b],.pointer (some ⟨p1,0,none⟩),.pointer (some ⟨p2,0,none⟩)] w fun e w'=>e=.returned (.tuple #[.int .i64 (xe k n l h),.int .i64 (zt k n l h)])∧Below w.heap.size w w':=by
 have hb:Below w.heap.size w (w.alloc (.cells #[.int .u8 k,.int .i64 n,.string t,a,b] 25)):=(Below.refl _ _).alloc lz _
 have d1:(w.alloc (.cells #[.int .u8 k,.int .i64 n,.string t,a,b] 25)).cell? ⟨p1,0,none⟩=some (.int .i64 l):=by rw [hb.cell (World.block_lt_of_cell? w _ c1)];exact c1
 have d2:(w.alloc (.cells #[.int .u8 k,.int .i64 n,.string t,a,b] 25)).cell? ⟨p2,0,none⟩=some (.int .i64 h):=by rw [hb.cell (World.block_lt_of_cell? w _ c2)];exact c2
 have HB:=Lh hb
 clear hb
 by_cases hk:k=2
 · subst hk
   by_cases h1:n<l
   · have HV:=Lh (show xe 2 n l h=0∧zt 2 n l h=1 by unfold xe zt;simp [h1])
     have h1':decide (n<l)=true:=by simpa using h1
     go_enter Tryz.func100,Tryz.ntmps100
     go_wp2
     go_ret2
     exact ⟨by rw [HV.out.1,HV.out.2];rfl,HB.out.trans (by first|exact Below.refl _ _|exact (Below.refl _ _).drew)⟩
   · have h1':decide (n<l)=false:=by simpa using h1
     by_cases h2:h<n
     · have HV:=Lh (show xe 2 n l h=0∧zt 2 n l h=1 by unfold xe zt;simp [h2])
       have h2':decide (h<n)=true:=by simpa using h2
       go_enter Tryz.func100,Tryz.ntmps100
       go_wp2
       go_ret2
       exact ⟨by rw [HV.out.1,HV.out.2];rfl,HB.out.trans (by first|exact Below.refl _ _|exact (Below.refl _ _).drew)⟩
     · have HV:=Lh (show xe 2 n l h=n∧zt 2 n l h=0 by unfold xe zt;simp [h1,h2])
       have h2':decide (h<n)=false:=by simpa using h2
       clear h1 h2
       go_enter Tryz.func100,Tryz.ntmps100
       go_wp2
       go_ret2
       exact ⟨by rw [HV.out.1,HV.out.2];rfl,HB.out.trans (by first|exact Below.refl _ _|exact (Below.refl _ _).drew)⟩
 · have HV:=Lh (show xe k n l h=0∧zt k n l h=10 by unfold xe zt;simp [hk])
   have hk':(k == 2)=false:=by simpa using hk
   clear hk
   go_enter Tryz.func100,Tryz.ntmps100
   go_wp2
   go_ret2
   exact ⟨by rw [HV.out.1,HV.out.2];rfl,HB.out⟩
def cu (o m lo hi:Nat) (v:JV) (an ai:Option Addr) (cn ci:Nat) (y:ByteArray) (l h:Int) (st:PS) (w:World) (e:Ending) (w':World):Prop :=
 e=.returned (.int .i64 (qB v y l h st).1)∧PickAt o m lo hi v an ai cn ci (qB v y l h st).2 w'∧Touch (fun b=>b=o∨b=m) w w'
set_option maxHeartbeats 1000000 in
set_option maxRecDepth 100000 in
theorem nZ (o m lo hi:Nat) (v:JV) (an ai:Option Addr) (cn ci:Nat) (y:ByteArray) (l h:Int) (st:PS) (w:World) (hP:PickAt o m lo hi v an ai cn ci st w) (hy:y.size≤4294967296) (ha:st.asked.length≤4294967296) (p1 p2:Nat) (g1:w.heap[p1]?=some (.cells #[.int .i64 l] 2 (0,0))) (g2:w.heap[p2]?=some (.cells #[.int .i64 h] 2 (0,0))) :
 Calls Tryz.prog 99 #[.pointer (some ⟨o,0,none⟩),.string y,.func (.func 100) #[] #[.pointer (some ⟨p1,0,none⟩),.pointer (some ⟨p2,0,none⟩)]] w (cu o m lo hi v an ai cn ci y l h st w):=by
 have HP:=Lh hP
 have HG1:=Lh g1
 have HG2:=Lh g2
 clear hP g1 g2
 have c6:w.cell? ⟨o,6,none⟩=some (.int .i64 st.err):=qq HP.out.obj rfl
 have c0:w.cell? ⟨o,0,none⟩=some (.int .u8 5):=(qq (j:=0) HP.out.obj rfl).trans (by rw [HP.out.kind];rfl)
 by_cases he:st.err=0
 · rw [he] at c6
   have HE:=Lh he
   clear he
   have c1:w.cell? ⟨o,1,none⟩=some (.int .i64 v.n):=qq HP.out.obj rfl
   have c2:w.cell? ⟨o,2,none⟩=some (.string v.t):=qq HP.out.obj rfl
   have c3:w.cell? ⟨o,3,none⟩=some (.slice an v.names.length cn):=qq HP.out.obj rfl
   have c4:w.cell? ⟨o,4,none⟩=some (.slice ai v.items.length ci):=qq HP.out.obj rfl
   have HR:=Lh HP.out.rep
   rw [HP.out.kind] at HR
   have HG:=Lh (kG v y _ w lo hi HP.out.wt HP.out.pos HP.out.le HR.out HP.out.kind HP.out.rise HP.out.len)
   go_enter Tryz.func99,Tryz.ntmps99
   go_wp2_with fail
   refine (zv o 0 5 w c6 c0 (fun _=>rfl)).mono ?_
   rintro r w' ⟨rfl,rfl⟩
   go_wp2_with fail
   refine HG.out.mono ?_
   clear HG c0 c1 c2 c3 c4 c6
   rintro e w1 ⟨hh,hb1⟩
   have HB1:=Lh hb1
   clear hb1
   rcases hh with ⟨r,hr1,hr2,hre,an',cn',ai',ci',rfl,hrep⟩|⟨hno,rfl⟩
   · have HL:=Lh (kE HP.out.rise r hr1 hr2 hre)
     clear hre hrep
     generalize v.items[r]=it at *
     have hb2:Below w.heap.size w (w1.alloc (.cells #[.int .u8 it.kind,.int .i64 it.n,.string it.t,.slice an' it.names.length cn',.slice ai' it.items.length ci'] 25)):=HB1.out.alloc HB1.out.size _
     have HB2:=Lh hb2
     have HC:=Lh (nQ it.kind it.n it.t (.slice an' it.names.length cn') (.slice ai' it.items.length ci') l h p1 p2 (w1.alloc (.cells #[.int .u8 it.kind,.int .i64 it.n,.string it.t,.slice an' it.names.length cn',.slice ai' it.items.length ci'] 25)) (qq ((hb2.block _ (qz HG1.out)).trans HG1.out) rfl) (qq ((hb2.block _ (qz HG2.out)).trans HG2.out) rfl))
     clear hb2
     by_cases hk:zt it.kind it.n l h=0
     · have HK:=Lh hk
       have HX:=Lh (show qB v y l h st=(it.n,⟨y :: st.asked,0⟩) by unfold qB;rw [if_neg (by simp [HE.out]),HL.out];obtain ⟨q1,q2⟩:=pY hk;simp only;rw [if_neg (by simp [q1]),if_neg q2])
       rw [dy hk,hk] at HC
       clear hk
       go_wp2_with fail
       refine HC.out.mono ?_
       clear HC
       rintro e w2 ⟨rfl,hb3⟩
       have HB3:=Lh (HB2.out.trans (hb3.mono HB2.out.size))
       have HP3:=Lh (HP.out.below HB3.out)
       clear hb3 HB2
       have d5:w2.cell? ⟨o,5,none⟩=some (.map (some m)):=qq HP3.out.obj rfl
       have hkey:keyOf Tryz.prog 9 (.string y)=some (.string y.data.toList):=keyOf_string_mk Tryz.underlying9 (by unfold maxLen;omega)
       obtain ⟨D,n,hown,hn,hD⟩:=HP3.out.map
       obtain ⟨c,hat,hc0,hc1,hc2⟩:=hD.2 y
       obtain ⟨c',hrun,hat',_⟩:=hown.lookup_int kx Tryz.underlying124 Tryz.underlying3 (k6 _) hkey
       rw [hat] at hat'
       simp only [DataW.lit.injEq,Lit.int.injEq,true_and] at hat'
       subst hat'
       have HD:=Lh (hD.cons y c hat)
       have HKY:=Lh hkey
       have HOW:=Lh hown
       clear hD hat hc2 hkey hown
       go_wp2_with (at_mapUpdate;refine wpList_mapUpdate_own _ rfl _ _ _ 124 rfl 9 3 kx Tryz.underlying124 _ m n D rfl HOW.out (by unfold maxLen;omega) _ _ _ rfl rfl HKY.out _ [] (plainElem_int Tryz.underlying3 (WalkArith.wf_i64 (by omega))) ?_)
       intro w3 hown3 hgrow3
       have HP4:=Lh (HP3.out.ask y hgrow3 hown3 (by omega) HD.out)
       have HT:=Lh (show Touch (fun b=>b=o∨b=m) w w3 from ⟨by rw [hgrow3.os,HB3.out.os],by rw [hgrow3.tape,HB3.out.tape],by rw [hgrow3.output,HB3.out.output],Nat.le_trans HB3.out.size hgrow3.size,fun k hk hs=>by rw [hgrow3.block k (Nat.lt_of_lt_of_le hk HB3.out.size) (fun e=>hs (.inr (Option.some.inj e))),HB3.out.block k hk]⟩)
       clear hgrow3 hown3
       rw [HE.out] at HP4
       go_wp2
       go_ret
       exact ⟨by rw [HX.out];rfl,by rw [HX.out];exact HP4.out,HT.out⟩
     · have HX:=Lh (show qB v y l h st=(0,⟨st.asked,zt it.kind it.n l h⟩) by unfold qB;rw [if_neg (by simp [HE.out]),HL.out];exact db hk)
       obtain ⟨er,her⟩:∃er,er=zt it.kind it.n l h:=⟨_,rfl⟩
       rw [dg hk,← her] at HC
       rw [← her] at HX hk
       have hk':(er != 0)=true:=by simpa using hk
       have hk2:(er == 0)=false:=by simpa using hk
       clear hk her
       go_wp2_with fail
       refine HC.out.mono ?_
       clear HC
       rintro e w2 ⟨rfl,hb3⟩
       have HB3:=Lh (HB2.out.trans (hb3.mono HB2.out.size))
       have HP3:=Lh (HP.out.below HB3.out)
       clear hb3 HB2
       have d6:w2.cell? ⟨o,6,none⟩=some (.int .i64 0):=(qq (j:=6) HP3.out.obj rfl).trans (by rw [HE.out];rfl)
       have d0:w2.cell? ⟨o,0,none⟩=some (.int .u8 5):=(qq (j:=0) HP3.out.obj rfl).trans (by rw [HP.out.kind];rfl)
       have d7:w2.frozen? ⟨o,6,none⟩=false:=by simp [World.frozen?,HP3.out.obj]
       go_wp2_with fail
       refine (xl o er _ d6 d0 d7).mono ?_
       clear d6 d0 d7
       rintro e w3 ⟨rfl,rfl⟩
       have HP4:=Lh (HP3.out.fail er)
       have HT:=Lh (show Touch (fun b=>b=o∨b=m) w (w2.setCell ⟨o,6,none⟩ (.int .i64 er)) from (Touch.of_below HB3.out lz).setCell (.inl (.inl rfl)) _)
       go_wp2
       go_ret
       exact ⟨by rw [HX.out];rfl,by rw [HX.out];exact HP4.out,HT.out⟩
   · have HX:=Lh (show qB v y l h st=(0,⟨st.asked,6⟩) by unfold qB;rw [if_neg (by simp [HE.out]),show v.look y=none from jp _ _ _ hno])
     unfold zeroAgg
     have HB3:=Lh (show Below w.heap.size w (w1.alloc (.cells #[.int .u8 0,.int .i64 0,.string ⟨#[]⟩,.slice none 0 0,.slice none 0 0] 25)) from HB1.out.alloc HB1.out.size _)
     have HP3:=Lh (HP.out.below HB3.out)
     clear hno HB1
     have d6:(w1.alloc (.cells #[.int .u8 0,.int .i64 0,.string ⟨#[]⟩,.slice none 0 0,.slice none 0 0] 25)).cell? ⟨o,6,none⟩=some (.int .i64 0):=(qq (j:=6) HP3.out.obj rfl).trans (by rw [HE.out];rfl)
     have d0:(w1.alloc (.cells #[.int .u8 0,.int .i64 0,.string ⟨#[]⟩,.slice none 0 0,.slice none 0 0] 25)).cell? ⟨o,0,none⟩=some (.int .u8 5):=(qq (j:=0) HP3.out.obj rfl).trans (by rw [HP.out.kind];rfl)
     have d7:(w1.alloc (.cells #[.int .u8 0,.int .i64 0,.string ⟨#[]⟩,.slice none 0 0,.slice none 0 0] 25)).frozen? ⟨o,6,none⟩=false:=by simp [World.frozen?,HP3.out.obj]
     go_wp2_with fail
     refine (xl o 6 _ d6 d0 d7).mono ?_
     clear d6 d0 d7
     rintro e w3 ⟨rfl,rfl⟩
     have HP4:=Lh (HP3.out.fail 6)
     have HT:=Lh (show Touch (fun b=>b=o∨b=m) w ((w1.alloc (.cells #[.int .u8 0,.int .i64 0,.string ⟨#[]⟩,.slice none 0 0,.slice none 0 0] 25)).setCell ⟨o,6,none⟩ (.int .i64 6)) from (Touch.of_below HB3.out lz).setCell (.inl (.inl rfl)) _)
     go_wp2
     go_ret
     exact ⟨by rw [HX.out];rfl,by rw [HX.out];exact HP4.out,HT.out⟩
 · have he':(st.err == 0)=false:=by simpa using he
   have he2:(st.err != 0)=true:=by simpa using he
   have HX:=Lh (show qB v y l h st=(0,st) by unfold qB;rw [if_pos he])
   have HE:=Lh he
   clear he
   go_enter Tryz.func99,Tryz.ntmps99
   go_wp2_with fail
   refine (zv o st.err 5 w c6 c0 (fun _=>rfl)).mono ?_
   rintro r w' ⟨rfl,rfl⟩
   go_wp2
   go_ret
   exact ⟨by rw [HX.out];rfl,by rw [HX.out];exact HP.out,Touch.refl _ _⟩
set_option maxHeartbeats 1000000 in
theorem lN (o m lo hi:Nat) (v:JV) (an ai:Option Addr) (cn ci:Nat) (y:ByteArray) (l h:Int) (st:PS) (w:World) (hP:PickAt o m lo hi v an ai cn ci st w) (hy:y.size≤4294967296) (ha:st.asked.length≤4294967296) (hm:m<w.heap.size) (ho:o<w.heap.size) :
 Calls Tryz.prog 55 #[.pointer (some ⟨o,0,none⟩),.string y,.int .i64 l,.int .i64 h] w (cu o m lo hi v an ai cn ci y l h st w):=by
 have hb:Below w.heap.size w ((w.alloc (.cells #[.int .i64 l] 2)).alloc (.cells #[.int .i64 h] 2)):=((Below.refl _ _).alloc lz _).alloc (by simp) _
 have hz:(w.alloc (.cells #[.int .i64 l] 2)).heap.size=w.heap.size+1:=by simp
 have hn:=heap_alloc_new (w.alloc (.cells #[.int .i64 l] 2)) (.cells #[.int .i64 h] 2)
 rw [hz] at hn
 have HC:=Lh (nZ o m lo hi v an ai cn ci y l h st _ (hP.below hb) hy ha w.heap.size (w.heap.size+1) (by rw [Below.heap_alloc _ _ _ (by omega)];exact heap_alloc_new w _) hn)
 have HB:=Lh hb
 have HO:=Lh (And.intro ho hm)
 clear hP hb hz hn ho hm
 go_enter Tryz.func55,Tryz.ntmps55
 go_wp2_with fail
 refine HC.out.mono ?_
 rintro e w' ⟨rfl,h1,h2⟩
 have H1:=Lh h1
 have H2:=Lh h2
 clear h1 h2
 go_wp2
 go_ret
 exact ⟨rfl,H1.out,(Touch.of_below HB.out lz).trans H2.out⟩
def zQ (it:JV) (most:Nat):Int:=if it.kind≠5 then 10 else if most<it.items.length then 5 else 0
theorem dp {it:JV} {most:Nat} (e:zQ it most=0):it.kind=5∧¬most<it.items.length:=by
 unfold zQ at e
 split at e
 · omega
 split at e
 · omega
 · exact ⟨by omega,by omega⟩
theorem df {it:JV} {a:List ByteArray} {most:Nat} {X:JV × PS} (e:¬zQ it most=0) :
 (if it.kind≠5 then (qL,(⟨a,10⟩:PS)) else if most<it.items.length then (qL,⟨a,5⟩) else X)=(qL,⟨a,zQ it most⟩):=by
 unfold zQ at e ⊢
 split
 · rfl
 split
 · rfl
 · rename_i a b;rw [if_neg a,if_neg b] at e;omega
set_option maxHeartbeats 1000000 in
set_option maxRecDepth 100000 in
theorem nX (it:JV) (most p1:Nat) (an' ai':Option Addr) (cn' ci':Nat) (w:World) (c1:w.cell? ⟨p1,0,none⟩=some (.int .i64 most)) :
 Calls Tryz.prog 108 #[.agg #[.int .u8 it.kind,.int .i64 it.n,.string it.t,.slice an' it.names.length cn',.slice ai' it.items.length ci'],.pointer (some ⟨p1,0,none⟩)] w fun e w'=>e=.returned (.tuple #[if zQ it most=0 then .agg #[.int .u8 it.kind,.int .i64 it.n,.string it.t,.slice an' it.names.length cn',.slice ai' it.items.length ci'] else zeroAgg,.int .i64 (zQ it most)])∧Below w.heap.size w w':=by
 have hz:(w.alloc (.cells #[.int .u8 it.kind,.int .i64 it.n,.string it.t,.slice an' it.names.length cn',.slice ai' it.items.length ci'] 25)).heap.size=w.heap.size+1:=by simp
 have hb:Below w.heap.size w ((w.alloc (.cells #[.int .u8 it.kind,.int .i64 it.n,.string it.t,.slice an' it.names.length cn',.slice ai' it.items.length ci'] 25)).alloc (.cells #[.int .u8 0,.int .i64 0,.string ⟨#[]⟩,.slice none 0 0,.slice none 0 0] 25)):=((Below.refl _ _).alloc lz _).alloc (by simp) _
 have d1:((w.alloc (.cells #[.int .u8 it.kind,.int .i64 it.n,.string it.t,.slice an' it.names.length cn',.slice ai' it.items.length ci'] 25)).alloc (.cells #[.int .u8 0,.int .i64 0,.string ⟨#[]⟩,.slice none 0 0,.slice none 0 0] 25)).cell? ⟨p1,0,none⟩=some (.int .i64 most):=by rw [hb.cell (World.block_lt_of_cell? w _ c1)];exact c1
 have hbox:=(qh w (.int .u8 it.kind) (.int .i64 it.n) (.string it.t) (.slice an' it.names.length cn') (.slice ai' it.items.length ci') 25).alloc (.cells #[.int .u8 0,.int .i64 0,.string ⟨#[]⟩,.slice none 0 0,.slice none 0 0] 25)
 have hres:=qh (w.alloc (.cells #[.int .u8 it.kind,.int .i64 it.n,.string it.t,.slice an' it.names.length cn',.slice ai' it.items.length ci'] 25)) (.int .u8 0) (.int .i64 0) (.string ⟨#[]⟩) (.slice none 0 0) (.slice none 0 0) 25
 rw [hz] at hres
 obtain ⟨W2,hW2⟩:∃W2,W2=((w.alloc (.cells #[.int .u8 it.kind,.int .i64 it.n,.string it.t,.slice an' it.names.length cn',.slice ai' it.items.length ci'] 25)).alloc (.cells #[.int .u8 0,.int .i64 0,.string ⟨#[]⟩,.slice none 0 0,.slice none 0 0] 25)):=⟨_,rfl⟩
 rw [← hW2] at hb d1 hbox hres
 obtain ⟨t0,t1,t2,t3,t4⟩:=rc5 hres
 obtain ⟨s0,s1,s2,s3,s4⟩:=rf5 hres
 obtain ⟨b0,b1,b2,b3,b4⟩:=rc5 hbox
 simp only [qQ] at t0 t1 t2 t3 t4 b0 b1 b2 b3 b4
 have HB:=Lh hb
 have HRS:=Lh hres
 have HW:=Lh hW2
 clear hb hbox hres hz hW2
 by_cases hk:it.kind=5
 · by_cases h1:most<it.items.length
   · have HV:=Lh (show zQ it most=5 by unfold zQ;rw [if_neg (by simp [hk]),if_pos h1])
     have HV2:=Lh (show (if zQ it most=0 then (.agg #[.int .u8 it.kind,.int .i64 it.n,.string it.t,.slice an' it.names.length cn',.slice ai' it.items.length ci']:Value) else zeroAgg)=zeroAgg by rw [HV.out];rfl)
     rw [HV2.out,HV.out]
     rw [hk] at b0
     have h1':decide ((most:Int)<(it.items.length:Int))=true:=by simpa using h1
     clear hk
     go_enter Tryz.func108,Tryz.ntmps108
     go_upto_region 1 with fail
     rw [← HW.out]
     go_wp2
     refine bodyPost_ret (qj Tryz.results108 _ _ (w.heap.size+1) 25 _ (0,0) _ rfl (qs (set5 _ _ _ _ _ HRS.out)) Tryz.underlying25 rfl (by kernel_rfl) _ rfl) rfl ⟨rfl,zy _ _ _ _ _ HB.out (by omega)⟩
   · have HV:=Lh (show zQ it most=0 by unfold zQ;rw [if_neg (by simp [hk]),if_neg h1])
     have HV2:=Lh (show (if zQ it most=0 then (.agg #[.int .u8 it.kind,.int .i64 it.n,.string it.t,.slice an' it.names.length cn',.slice ai' it.items.length ci']:Value) else zeroAgg)=.agg #[.int .u8 it.kind,.int .i64 it.n,.string it.t,.slice an' it.names.length cn',.slice ai' it.items.length ci'] by rw [HV.out];rfl)
     rw [HV2.out,HV.out]
     have HK:=Lh hk
     rw [hk] at b0
     have h1':decide ((most:Int)<(it.items.length:Int))=false:=by simpa using h1
     clear hk
     go_enter Tryz.func108,Tryz.ntmps108
     go_upto_region 1 with fail
     rw [← HW.out]
     go_wp2
     refine bodyPost_ret (qj Tryz.results108 _ _ (w.heap.size+1) 25 _ (0,0) _ rfl (qs (set5 _ _ _ _ _ HRS.out)) Tryz.underlying25 rfl (by kernel_rfl) _ rfl) rfl ⟨by rw [HK.out] <;> rfl,zy _ _ _ _ _ HB.out (by omega)⟩
 · have HV:=Lh (show zQ it most=10 by unfold zQ;rw [if_pos hk])
   have HV2:=Lh (show (if zQ it most=0 then (.agg #[.int .u8 it.kind,.int .i64 it.n,.string it.t,.slice an' it.names.length cn',.slice ai' it.items.length ci']:Value) else zeroAgg)=zeroAgg by rw [HV.out];rfl)
   rw [HV2.out,HV.out]
   have hk':(it.kind == 5)=false:=by simpa using hk
   clear hk
   go_enter Tryz.func108,Tryz.ntmps108
   go_upto_region 1 with fail
   rw [← HW.out]
   go_wp2
   refine bodyPost_ret (qj Tryz.results108 _ _ (w.heap.size+1) 25 _ (0,0) _ rfl (qs (set5 _ _ _ _ _ HRS.out)) Tryz.underlying25 rfl (by kernel_rfl) _ rfl) rfl ⟨rfl,zy _ _ _ _ _ HB.out (by omega)⟩
def kF (o m lo hi:Nat) (v:JV) (an ai:Option Addr) (cn ci:Nat) (y:ByteArray) (most:Nat) (st:PS) (w:World) (e:Ending) (w':World):Prop :=
 (∃an' cn' ai' ci',e=.returned (.agg #[.int .u8 (qv v y most st).1.kind,.int .i64 (qv v y most st).1.n,.string (qv v y most st).1.t,.slice an' (qv v y most st).1.names.length cn',.slice ai' (qv v y most st).1.items.length ci'])∧Rep w' w.heap.size w'.heap.size (qv v y most st).1 (.agg #[.int .u8 (qv v y most st).1.kind,.int .i64 (qv v y most st).1.n,.string (qv v y most st).1.t,.slice an' (qv v y most st).1.names.length cn',.slice ai' (qv v y most st).1.items.length ci'])) ∧
 PickAt o m lo hi v an ai cn ci (qv v y most st).2 w'∧Touch (fun b=>b=o∨b=m) w w'
theorem PickAt.set5 {o m lo hi g:Nat} {v:JV} {an ai:Option Addr} {cn ci:Nat} {st:PS} {w:World} (h:PickAt o m lo hi v an ai cn ci st w) (v0 v1 v2 v3 v4:Value) (ho:g≠o) (hm:g≠m) (hh:hi≤g):PickAt o m lo hi v an ai cn ci st (((((w.setCell ⟨g,0,none⟩ v0).setCell ⟨g,1,none⟩ v1).setCell ⟨g,2,none⟩ v2).setCell ⟨g,3,none⟩ v3).setCell ⟨g,4,none⟩ v4):=by
 have hs:(((((w.setCell ⟨g,0,none⟩ v0).setCell ⟨g,1,none⟩ v1).setCell ⟨g,2,none⟩ v2).setCell ⟨g,3,none⟩ v3).setCell ⟨g,4,none⟩ v4).heap.size=w.heap.size:=sc
 have h5:=zy (b:=g) v0 v1 v2 v3 v4 (Below.refl g w) lz
 have hg:=fun k (hk:k≠g)=>jB (W:=w) v0 v1 v2 v3 v4 hk
 refine ⟨by rw [hg o (Ne.symm ho)];exact h.obj,?_,?_,h.pos,h.out,by rw [hs];exact h.le,h.kind,h.rise,h.len,h.wt⟩
 · obtain ⟨D,n,h1,h2,h3⟩:=h.map
   exact ⟨D,n,h1.kept (row:=some g) ⟨h5.os,h5.tape,h5.output,h5.size,fun k hk hn=>hg k (fun e=>hn (by rw [e]))⟩ (fun e=>hm (Option.some.inj e).symm),h2,h3⟩
 · exact Rep.carry lz lz (fun k _ hk=>hg k (by omega)) _ _ h.rep
theorem gU {o m lo hi:Nat} {v:JV} {an ai:Option Addr} {cn ci:Nat} {y:ByteArray} {most:Nat} {st st':PS} {it:JV} {w w3:World} {lo1 hi1 g:Nat} {an' ai':Option Addr} {cn' ci':Nat} (h:qv v y most st=(it,st'))
 (hR:Rep w3 lo1 hi1 it (.agg #[.int .u8 it.kind,.int .i64 it.n,.string it.t,.slice an' it.names.length cn',.slice ai' it.items.length ci'])) (hwg:w.heap.size≤g) (hlo:g<lo1) (hhi:hi1≤w3.heap.size) (hP:PickAt o m lo hi v an ai cn ci st' w3) (hT:Touch (fun b=>b=o∨b=m) w w3) (ho:g≠o) (hm:g≠m) (hh:hi≤g) :
 kF o m lo hi v an ai cn ci y most st w (.returned (.agg #[.int .u8 it.kind,.int .i64 it.n,.string it.t,.slice an' it.names.length cn',.slice ai' it.items.length ci'])) (((((w3.setCell ⟨g,0,none⟩ (.int .u8 it.kind)).setCell ⟨g,1,none⟩ (.int .i64 it.n)).setCell ⟨g,2,none⟩ (.string it.t)).setCell ⟨g,3,none⟩ (.slice an' it.names.length cn')).setCell ⟨g,4,none⟩ (.slice ai' it.items.length ci')):=by
 have hg:=fun k (hk:k≠g)=>jB (W:=w3) (.int .u8 it.kind) (.int .i64 it.n) (.string it.t) (.slice an' it.names.length cn') (.slice ai' it.items.length ci') hk
 have hs:=sc (W:=w3) (b:=g) (v0:=.int .u8 it.kind) (v1:=.int .i64 it.n) (v2:=.string it.t) (v3:=.slice an' it.names.length cn') (v4:=.slice ai' it.items.length ci')
 have hR2:=Rep.carry (lo':=w.heap.size) (hi':=(((((w3.setCell ⟨g,0,none⟩ (.int .u8 it.kind)).setCell ⟨g,1,none⟩ (.int .i64 it.n)).setCell ⟨g,2,none⟩ (.string it.t)).setCell ⟨g,3,none⟩ (.slice an' it.names.length cn')).setCell ⟨g,4,none⟩ (.slice ai' it.items.length ci')).heap.size) (by omega) (by rw [hs];exact hhi) (fun k h1 _=>hg k (by omega)) _ _ hR
 have hP2:=hP.set5 (.int .u8 it.kind) (.int .i64 it.n) (.string it.t) (.slice an' it.names.length cn') (.slice ai' it.items.length ci') ho hm hh
 have hT2:=((((hT.setCell (p:=⟨g,0,none⟩) (.inr hwg) (.int .u8 it.kind)).setCell (p:=⟨g,1,none⟩) (.inr hwg) (.int .i64 it.n)).setCell (p:=⟨g,2,none⟩) (.inr hwg) (.string it.t)).setCell (p:=⟨g,3,none⟩) (.inr hwg) (.slice an' it.names.length cn')).setCell (p:=⟨g,4,none⟩) (.inr hwg) (.slice ai' it.items.length ci')
 unfold kF
 rw [h]
 exact ⟨⟨an',cn',ai',ci',rfl,hR2⟩,hP2,hT2⟩
theorem gM {o m lo hi:Nat} {v:JV} {an ai:Option Addr} {cn ci:Nat} {y:ByteArray} {most:Nat} {st st':PS} {w w3:World} (h:qv v y most st=(qL,st'))
 (hP:PickAt o m lo hi v an ai cn ci st' w3) (hT:Touch (fun b=>b=o∨b=m) w w3) (ho:w.heap.size≠o) (hm:w.heap.size≠m) (hh:hi≤w.heap.size) :
 kF o m lo hi v an ai cn ci y most st w (.returned zeroAgg) (((((w3.setCell ⟨w.heap.size,0,none⟩ (.int .u8 0)).setCell ⟨w.heap.size,1,none⟩ (.int .i64 0)).setCell ⟨w.heap.size,2,none⟩ (.string ⟨#[]⟩)).setCell ⟨w.heap.size,3,none⟩ (.slice none 0 0)).setCell ⟨w.heap.size,4,none⟩ (.slice none 0 0)) :=
 gU (it:=qL) (an':=none) (ai':=none) (cn':=0) (ci':=0) (lo1:=w.heap.size+1) (hi1:=0) h (vW _ _ _) lz (by omega) (by omega) hP hT ho hm hh
set_option maxHeartbeats 4000000 in
set_option maxRecDepth 100000 in
theorem nJ (o m lo hi:Nat) (v:JV) (an ai:Option Addr) (cn ci:Nat) (y:ByteArray) (most:Nat) (st:PS) (w:World) (hP:PickAt o m lo hi v an ai cn ci st w) (hy:y.size≤4294967296) (ha:st.asked.length≤4294967296) (p1:Nat) (g1:w.heap[p1]?=some (.cells #[.int .i64 most] 3 (0,0))) :
 Calls Tryz.prog 107 #[.pointer (some ⟨o,0,none⟩),.string y,.func (.func 108) #[] #[.pointer (some ⟨p1,0,none⟩)]] w (kF o m lo hi v an ai cn ci y most st w):=by
 have ho:o<w.heap.size:=qz hP.obj
 have hm:m<w.heap.size:=by obtain ⟨D,n,h,_⟩:=hP.map;exact h.lt
 have hle:=hP.le
 obtain ⟨W2,hW2⟩:∃W2,W2=(w.alloc (.cells #[.int .u8 0,.int .i64 0,.string ⟨#[]⟩,.slice none 0 0,.slice none 0 0] 25)).alloc (.cells #[.int .u8 0,.int .i64 0,.string ⟨#[]⟩,.slice none 0 0,.slice none 0 0] 25):=⟨_,rfl⟩
 have hz1:(w.alloc (.cells #[.int .u8 0,.int .i64 0,.string ⟨#[]⟩,.slice none 0 0,.slice none 0 0] 25)).heap.size=w.heap.size+1:=by simp
 have hz2:W2.heap.size=w.heap.size+2:=by rw [hW2];simp
 have hb2:Below w.heap.size w W2:=by rw [hW2];exact ((Below.refl _ _).alloc lz _).alloc (by simp) _
 have hr6:W2.rowIs w.heap.size 25 5 (qQ (.int .u8 0) (.int .i64 0) (.string ⟨#[]⟩) (.slice none 0 0) (.slice none 0 0)):=by rw [hW2];exact (qh w (.int .u8 0) (.int .i64 0) (.string ⟨#[]⟩) (.slice none 0 0) (.slice none 0 0) 25).alloc _
 have hr7:W2.rowIs (w.heap.size+1) 25 5 (qQ (.int .u8 0) (.int .i64 0) (.string ⟨#[]⟩) (.slice none 0 0) (.slice none 0 0)):=by
  have:=qh (w.alloc (.cells #[.int .u8 0,.int .i64 0,.string ⟨#[]⟩,.slice none 0 0,.slice none 0 0] 25)) (.int .u8 0) (.int .i64 0) (.string ⟨#[]⟩) (.slice none 0 0) (.slice none 0 0) 25
  rw [hz1,← hW2] at this
  exact this
 have HP:=Lh (hP.below hb2)
 have HG1:=Lh ((hb2.block _ (qz g1)).trans g1)
 have HO:=Lh (And.intro ho (And.intro hm (And.intro hle hz2)))
 have HB2:=Lh hb2
 have HR6:=Lh hr6
 have HR7:=Lh hr7
 have HW:=Lh hW2
 clear hP g1 ho hm hle hz1 hz2 hb2 hr6 hr7 hW2
 have c6:W2.cell? ⟨o,6,none⟩=some (.int .i64 st.err):=qq HP.out.obj rfl
 have c0:W2.cell? ⟨o,0,none⟩=some (.int .u8 5):=(qq (j:=0) HP.out.obj rfl).trans (by rw [HP.out.kind];rfl)
 by_cases he:st.err=0
 · rw [he] at c6
   have HE:=Lh he
   clear he
   have c1:W2.cell? ⟨o,1,none⟩=some (.int .i64 v.n):=qq HP.out.obj rfl
   have c2:W2.cell? ⟨o,2,none⟩=some (.string v.t):=qq HP.out.obj rfl
   have c3:W2.cell? ⟨o,3,none⟩=some (.slice an v.names.length cn):=qq HP.out.obj rfl
   have c4:W2.cell? ⟨o,4,none⟩=some (.slice ai v.items.length ci):=qq HP.out.obj rfl
   have HR:=Lh HP.out.rep
   rw [HP.out.kind] at HR
   have HG:=Lh (kG v y _ W2 lo hi HP.out.wt HP.out.pos HP.out.le HR.out HP.out.kind HP.out.rise HP.out.len)
   go_enter Tryz.func107,Tryz.ntmps107
   go_upto_region 2 with fail
   rw [← HW.out]
   go_wp2_with fail
   refine (zv o 0 5 W2 c6 c0 (fun _=>rfl)).mono ?_
   rintro r w' ⟨rfl,h'⟩
   subst h'
   go_wp2_with fail
   refine HG.out.mono ?_
   clear HG c0 c1 c2 c3 c4 c6 HR
   rintro e w1 ⟨hh,hb1⟩
   have HB1:=Lh hb1
   have HR6a:=Lh (qx hb1 HR6.out HR6.out.lt)
   have HR7a:=Lh (qx hb1 HR7.out HR7.out.lt)
   have hz:=hb1.size
   clear hb1
   rcases hh with ⟨r,hr1,hr2,hre,an',cn',ai',ci',rfl,hrep⟩|⟨hno,rfl⟩
   · have HL:=Lh (kE HP.out.rise r hr1 hr2 hre)
     have HREP:=Lh hrep
     clear hre hrep
     generalize v.items[r]=it at *
     clear hr1 hr2
     have hb3:Below W2.heap.size W2 (w1.alloc (.cells #[.int .u8 it.kind,.int .i64 it.n,.string it.t,.slice an' it.names.length cn',.slice ai' it.items.length ci'] 25)):=HB1.out.alloc HB1.out.size _
     have HC:=Lh (nX it most p1 an' ai' cn' ci' (w1.alloc (.cells #[.int .u8 it.kind,.int .i64 it.n,.string it.t,.slice an' it.names.length cn',.slice ai' it.items.length ci'] 25)) (qq ((hb3.block _ (qz HG1.out)).trans HG1.out) rfl))
     have HB3:=Lh hb3
     clear hb3
     by_cases hk:zQ it most=0
     · have HX:=Lh (show qv v y most st=(it,⟨y :: st.asked,0⟩) by unfold qv;rw [if_neg (by simp [HE.out]),HL.out];obtain ⟨q1,q2⟩:=dp hk;simp only;rw [if_neg (by simp [q1]),if_neg q2])
       have HC:=Lh (show Calls Tryz.prog 108 #[.agg #[.int .u8 it.kind,.int .i64 it.n,.string it.t,.slice an' it.names.length cn',.slice ai' it.items.length ci'],.pointer (some ⟨p1,0,none⟩)] (w1.alloc (.cells #[.int .u8 it.kind,.int .i64 it.n,.string it.t,.slice an' it.names.length cn',.slice ai' it.items.length ci'] 25)) (fun e w'=>e=.returned (.tuple #[.agg #[.int .u8 it.kind,.int .i64 it.n,.string it.t,.slice an' it.names.length cn',.slice ai' it.items.length ci'],.int .i64 0])∧Below (w1.alloc (.cells #[.int .u8 it.kind,.int .i64 it.n,.string it.t,.slice an' it.names.length cn',.slice ai' it.items.length ci'] 25)).heap.size (w1.alloc (.cells #[.int .u8 it.kind,.int .i64 it.n,.string it.t,.slice an' it.names.length cn',.slice ai' it.items.length ci'] 25)) w') from by have h:=HC.out;rw [hk] at h;exact h)
       clear hk
       go_wp2_with fail
       refine HC.out.mono ?_
       clear HC
       rintro e w2 ⟨rfl,hb4⟩
       obtain ⟨W3,hW3⟩:∃W3,W3=w2.alloc (.cells #[.int .u8 it.kind,.int .i64 it.n,.string it.t,.slice an' it.names.length cn',.slice ai' it.items.length ci'] 25):=⟨_,rfl⟩
       have hzz:w1.heap.size+1≤w2.heap.size:=by have:=hb4.size;simpa using this
       have hb5:Below W2.heap.size W2 W3:=by rw [hW3];exact (HB3.out.trans (hb4.mono HB3.out.size)).alloc (HB3.out.trans (hb4.mono HB3.out.size)).size _
       have hx10:W3.heap[w2.heap.size]?=some (.cells #[.int .u8 it.kind,.int .i64 it.n,.string it.t,.slice an' it.names.length cn',.slice ai' it.items.length ci'] 25 (0,0)):=by rw [hW3];exact heap_alloc_new w2 _
       have hkeep:∀k,k<w1.heap.size→W3.heap[k]?=w1.heap[k]?:=fun k hk=>by rw [hW3,Below.heap_alloc _ _ _ (by omega),hb4.block k (by simp;omega),Below.heap_alloc _ _ _ hk]
       have HX10:=Lh hx10
       have HKP:=Lh hkeep
       have HB5:=Lh hb5
       have HZZ:=Lh hzz
       have HZ3:=Lh (show W3.heap.size=w2.heap.size+1 by rw [hW3];simp)
       have HW3:=Lh hW3
       have HP3:=Lh (HP.out.below HB5.out)
       have HR6b:=Lh (qx HB5.out HR6.out HR6.out.lt)
       clear hb4 hx10 hkeep hb5 hzz hW3 HB3
       have d5:W3.cell? ⟨o,5,none⟩=some (.map (some m)):=qq HP3.out.obj rfl
       have hkey:keyOf Tryz.prog 9 (.string y)=some (.string y.data.toList):=keyOf_string_mk Tryz.underlying9 (by unfold maxLen;omega)
       obtain ⟨D,n,hown,hn,hD⟩:=HP3.out.map
       obtain ⟨c,hat,hc0,hc1,hc2⟩:=hD.2 y
       obtain ⟨c',hrun,hat',_⟩:=hown.lookup_int kx Tryz.underlying124 Tryz.underlying3 (k6 _) hkey
       rw [hat] at hat'
       simp only [DataW.lit.injEq,Lit.int.injEq,true_and] at hat'
       subst hat'
       have HD:=Lh (hD.cons y c hat)
       have HKY:=Lh hkey
       have HOW:=Lh hown
       clear hD hat hc2 hkey hown
       go_upto_region 9 with fail
       rw [← HW3.out]
       go_wp2_with (at_mapUpdate;refine wpList_mapUpdate_own _ rfl _ _ _ 124 rfl 9 3 kx Tryz.underlying124 _ m n D rfl HOW.out (by unfold maxLen;omega) _ _ _ rfl rfl HKY.out _ [] (plainElem_int Tryz.underlying3 (WalkArith.wf_i64 (by omega))) ?_;intro w3 hown3 hgrow3;have HOW3:=Lh hown3;have HGR3:=Lh hgrow3;clear hown3 hgrow3;have HNM:=Lh (show w2.heap.size≠m from by have:=HO.out;have:=HZZ.out;omega);have x0:w3.cell? ⟨w2.heap.size,0,none⟩=_:=qq ((HGR3.out.block _ (qz HX10.out) (fun e=>HNM.out (Option.some.inj e))).trans HX10.out) rfl;have x1:w3.cell? ⟨w2.heap.size,1,none⟩=_:=qq ((HGR3.out.block _ (qz HX10.out) (fun e=>HNM.out (Option.some.inj e))).trans HX10.out) rfl;have x2:w3.cell? ⟨w2.heap.size,2,none⟩=_:=qq ((HGR3.out.block _ (qz HX10.out) (fun e=>HNM.out (Option.some.inj e))).trans HX10.out) rfl;have x3:w3.cell? ⟨w2.heap.size,3,none⟩=_:=qq ((HGR3.out.block _ (qz HX10.out) (fun e=>HNM.out (Option.some.inj e))).trans HX10.out) rfl;have x4:w3.cell? ⟨w2.heap.size,4,none⟩=_:=qq ((HGR3.out.block _ (qz HX10.out) (fun e=>HNM.out (Option.some.inj e))).trans HX10.out) rfl;have hr6:=HR6b.out.of_block (HGR3.out.block _ HR6b.out.lt (fun e=>by have:=Option.some.inj e;have:=HO.out;omega));obtain ⟨t0,t1,t2,t3,t4⟩:=rc5 hr6;obtain ⟨s0,s1,s2,s3,s4⟩:=rf5 hr6;simp only [qQ] at t0 t1 t2 t3 t4;have HR6c:=Lh hr6;clear hr6)
       have HP4:=Lh (HP3.out.ask y HGR3.out HOW3.out (by omega) HD.out)
       have HT:=Lh (show Touch (fun b=>b=o∨b=m) w w3 from by
        have h1:=HB2.out.trans (HB5.out.mono HB2.out.size)
        have h2:=HGR3.out
        exact ⟨by rw [h2.os,h1.os],by rw [h2.tape,h1.tape],by rw [h2.output,h1.output],Nat.le_trans h1.size h2.size,fun k hk hs=>by rw [h2.block k (Nat.lt_of_lt_of_le hk h1.size) (fun e=>hs (.inr (Option.some.inj e))),h1.block k hk]⟩)
       have HRE:=Lh (Rep.carry (lo':=W2.heap.size) (hi':=w1.heap.size) lz lz (fun k h1 h2=>(HGR3.out.block k (by have:=HZ3.out;have:=HZZ.out;omega) (fun e=>by have:=Option.some.inj e;have:=HO.out;omega)).trans (HKP.out k h2)) _ _ HREP.out)
       have HSZ:=Lh (show w1.heap.size≤w3.heap.size from by have:=HGR3.out.size;have:=HZ3.out;have:=HZZ.out;omega)
       rw [HE.out] at HP4
       have HNO:=Lh (show w.heap.size≠o∧w.heap.size≠m from by have:=HO.out;omega)
       go_wp2
       refine bodyPost_ret (results_cell_row Tryz.results107 _ _ w.heap.size 25 _ (0,0) _ rfl (qs (set5 _ _ _ _ _ HR6c.out)) Tryz.underlying25 rfl (by kernel_rfl)) rfl ?_
       exact gU HX.out HRE.out lz (by have:=HO.out;omega) HSZ.out HP4.out HT.out HNO.out.1 HNO.out.2 HO.out.2.2.1
     · have HX:=Lh (show qv v y most st=(qL,⟨st.asked,zQ it most⟩) by unfold qv;rw [if_neg (by simp [HE.out]),HL.out];exact df hk)
       obtain ⟨er,her⟩:∃er,er=zQ it most:=⟨_,rfl⟩
       have HC:=Lh (show Calls Tryz.prog 108 #[.agg #[.int .u8 it.kind,.int .i64 it.n,.string it.t,.slice an' it.names.length cn',.slice ai' it.items.length ci'],.pointer (some ⟨p1,0,none⟩)] (w1.alloc (.cells #[.int .u8 it.kind,.int .i64 it.n,.string it.t,.slice an' it.names.length cn',.slice ai' it.items.length ci'] 25)) (fun e w'=>e=.returned (.tuple #[zeroAgg,.int .i64 er])∧Below (w1.alloc (.cells #[.int .u8 it.kind,.int .i64 it.n,.string it.t,.slice an' it.names.length cn',.slice ai' it.items.length ci'] 25)).heap.size (w1.alloc (.cells #[.int .u8 it.kind,.int .i64 it.n,.string it.t,.slice an' it.names.length cn',.slice ai' it.items.length ci'] 25)) w') from by have h:=HC.out;rw [if_neg hk,← her] at h;exact h)
       rw [← her] at HX hk
       have hk':(er != 0)=true:=by simpa using hk
       have hk2:(er == 0)=false:=by simpa using hk
       clear hk her
       go_wp2_with fail
       refine HC.out.mono ?_
       clear HC
       rintro e w2 ⟨rfl,hb4⟩
       have HBX:=Lh (HB3.out.trans (hb4.mono HB3.out.size))
       clear hb4 HB3
       unfold zeroAgg
       obtain ⟨W3,hW3⟩:∃W3,W3=w2.alloc (.cells #[.int .u8 0,.int .i64 0,.string ⟨#[]⟩,.slice none 0 0,.slice none 0 0] 25):=⟨_,rfl⟩
       have hb5:Below W2.heap.size W2 W3:=by rw [hW3];exact HBX.out.alloc HBX.out.size _
       have HP3:=Lh (HP.out.below hb5)
       have hr6:=qx hb5 HR6.out HR6.out.lt
       have hr7:=qx hb5 HR7.out HR7.out.lt
       have HB5:=Lh hb5
       have HR6b:=Lh hr6
       have HR7b:=Lh hr7
       have HW3:=Lh hW3
       clear hb5 hr6 hr7 hW3
       have d6:W3.cell? ⟨o,6,none⟩=some (.int .i64 0):=(qq (j:=6) HP3.out.obj rfl).trans (by rw [HE.out];rfl)
       have d0:W3.cell? ⟨o,0,none⟩=some (.int .u8 5):=(qq (j:=0) HP3.out.obj rfl).trans (by rw [HP.out.kind];rfl)
       have d7:W3.frozen? ⟨o,6,none⟩=false:=by simp [World.frozen?,HP3.out.obj]
       go_upto_region 9 with fail
       rw [← HW3.out]
       go_wp2_with fail
       refine (xl o er W3 d6 d0 d7).mono ?_
       clear d6 d0 d7
       rintro e w3 ⟨rfl,h3⟩
       have HT3:=Lh (show Touch (fun b=>b=o) W3 w3 from by rw [h3];exact Touch.setCell (S:=fun b=>b=o) (p:=⟨o,6,none⟩) (Touch.refl _ _) (.inl rfl) _)
       have HP4:=Lh (show PickAt o m lo hi v an ai cn ci ⟨st.asked,er⟩ w3 from by rw [h3];exact HP3.out.fail er)
       clear h3
       have hr6:=HT3.out.row HR6b.out (by have:=HO.out;omega)
       have hr7:=HT3.out.row HR7b.out (by have:=HO.out;omega)
       obtain ⟨t0,t1,t2,t3,t4⟩:=rc5 hr6
       obtain ⟨s0,s1,s2,s3,s4⟩:=rf5 hr6
       obtain ⟨z0,z1,z2,z3,z4⟩:=rc5 hr7
       simp only [qQ] at t0 t1 t2 t3 t4 z0 z1 z2 z3 z4
       have HR6c:=Lh hr6
       clear hr6 hr7
       have HT:=Lh (show Touch (fun b=>b=o∨b=m) w w3 from (Touch.of_below (HB2.out.trans (HB5.out.mono HB2.out.size)) lz).trans (HT3.out.mono (fun k _ h=>.inl h)))
       have HNO:=Lh (show w.heap.size≠o∧w.heap.size≠m from by have:=HO.out;omega)
       go_wp2
       refine bodyPost_ret (results_cell_row Tryz.results107 _ _ w.heap.size 25 _ (0,0) _ rfl (qs (set5 _ _ _ _ _ HR6c.out)) Tryz.underlying25 rfl (by kernel_rfl)) rfl ?_
       exact gM HX.out HP4.out HT.out HNO.out.1 HNO.out.2 HO.out.2.2.1
   · have HX:=Lh (show qv v y most st=(qL,⟨st.asked,6⟩) by unfold qv;rw [if_neg (by simp [HE.out]),show v.look y=none from jp _ _ _ hno])
     clear hno
     have HBX:=Lh HB1.out
     unfold zeroAgg
     obtain ⟨W3,hW3⟩:∃W3,W3=w1.alloc (.cells #[.int .u8 0,.int .i64 0,.string ⟨#[]⟩,.slice none 0 0,.slice none 0 0] 25):=⟨_,rfl⟩
     have hb5:Below W2.heap.size W2 W3:=by rw [hW3];exact HBX.out.alloc HBX.out.size _
     have HP3:=Lh (HP.out.below hb5)
     have hr6:=qx hb5 HR6.out HR6.out.lt
     have hr7:=qx hb5 HR7.out HR7.out.lt
     have HB5:=Lh hb5
     have HR6b:=Lh hr6
     have HR7b:=Lh hr7
     have HW3:=Lh hW3
     clear hb5 hr6 hr7 hW3
     have d6:W3.cell? ⟨o,6,none⟩=some (.int .i64 0):=(qq (j:=6) HP3.out.obj rfl).trans (by rw [HE.out];rfl)
     have d0:W3.cell? ⟨o,0,none⟩=some (.int .u8 5):=(qq (j:=0) HP3.out.obj rfl).trans (by rw [HP.out.kind];rfl)
     have d7:W3.frozen? ⟨o,6,none⟩=false:=by simp [World.frozen?,HP3.out.obj]
     go_upto_region 5 with fail
     rw [← HW3.out]
     go_wp2_with fail
     refine (xl o 6 W3 d6 d0 d7).mono ?_
     clear d6 d0 d7
     rintro e w3 ⟨rfl,h3⟩
     have HT3:=Lh (show Touch (fun b=>b=o) W3 w3 from by rw [h3];exact Touch.setCell (S:=fun b=>b=o) (p:=⟨o,6,none⟩) (Touch.refl _ _) (.inl rfl) _)
     have HP4:=Lh (show PickAt o m lo hi v an ai cn ci ⟨st.asked,6⟩ w3 from by rw [h3];exact HP3.out.fail 6)
     clear h3
     have hr6:=HT3.out.row HR6b.out (by have:=HO.out;omega)
     have hr7:=HT3.out.row HR7b.out (by have:=HO.out;omega)
     obtain ⟨t0,t1,t2,t3,t4⟩:=rc5 hr6
     obtain ⟨s0,s1,s2,s3,s4⟩:=rf5 hr6
     obtain ⟨z0,z1,z2,z3,z4⟩:=rc5 hr7
     simp only [qQ] at t0 t1 t2 t3 t4 z0 z1 z2 z3 z4
     have HR6c:=Lh hr6
     clear hr6 hr7
     have HT:=Lh (show Touch (fun b=>b=o∨b=m) w w3 from (Touch.of_below (HB2.out.trans (HB5.out.mono HB2.out.size)) lz).trans (HT3.out.mono (fun k _ h=>.inl h)))
     have HNO:=Lh (show w.heap.size≠o∧w.heap.size≠m from by have:=HO.out;omega)
     go_wp2
     refine bodyPost_ret (results_cell_row Tryz.results107 _ _ w.heap.size 25 _ (0,0) _ rfl (qs (set5 _ _ _ _ _ HR6c.out)) Tryz.underlying25 rfl (by kernel_rfl)) rfl ?_
     exact gM HX.out HP4.out HT.out HNO.out.1 HNO.out.2 HO.out.2.2.1
 · have he':(st.err == 0)=false:=by simpa using he
   have he2:(st.err != 0)=true:=by simpa using he
   have HX:=Lh (show qv v y most st=(qL,st) by unfold qv;rw [if_pos he])
   clear he
   have hr6:=HR6.out
   have hr7:=HR7.out
   obtain ⟨t0,t1,t2,t3,t4⟩:=rc5 hr6
   obtain ⟨s0,s1,s2,s3,s4⟩:=rf5 hr6
   obtain ⟨z0,z1,z2,z3,z4⟩:=rc5 hr7
   simp only [qQ] at t0 t1 t2 t3 t4 z0 z1 z2 z3 z4
   clear hr6 hr7
   have HT:=Lh (show Touch (fun b=>b=o∨b=m) w W2 from Touch.of_below HB2.out lz)
   have HNO:=Lh (show w.heap.size≠o∧w.heap.size≠m from by have:=HO.out;omega)
   go_enter Tryz.func107,Tryz.ntmps107
   go_upto_region 2 with fail
   rw [← HW.out]
   go_wp2_with fail
   refine (zv o st.err 5 W2 c6 c0 (fun h=>by simp [h] at he')).mono ?_
   rintro r w' ⟨rfl,h'⟩
   subst h'
   go_wp2
   refine bodyPost_ret (results_cell_row Tryz.results107 _ _ w.heap.size 25 _ (0,0) _ rfl (qs (set5 _ _ _ _ _ HR6.out)) Tryz.underlying25 rfl (by kernel_rfl)) rfl ?_
   exact gM HX.out HP.out HT.out HNO.out.1 HNO.out.2 HO.out.2.2.1
set_option maxHeartbeats 2000000 in
set_option maxRecDepth 100000 in
theorem lS (o m lo hi:Nat) (v:JV) (an ai:Option Addr) (cn ci:Nat) (y:ByteArray) (most:Nat) (st:PS) (w:World) (hP:PickAt o m lo hi v an ai cn ci st w) (hy:y.size≤4294967296) (ha:st.asked.length≤4294967296) :
 Calls Tryz.prog 58 #[.pointer (some ⟨o,0,none⟩),.string y,.int .i64 most] w (kF o m lo hi v an ai cn ci y most st w):=by
 have ho:o<w.heap.size:=qz hP.obj
 have hm:m<w.heap.size:=by obtain ⟨D,n,h,_⟩:=hP.map;exact h.lt
 have hle:=hP.le
 obtain ⟨W2,hW2⟩:∃W2,W2=(w.alloc (.cells #[.int .i64 most] 3)).alloc (.cells #[.int .u8 0,.int .i64 0,.string ⟨#[]⟩,.slice none 0 0,.slice none 0 0] 25):=⟨_,rfl⟩
 have hz1:(w.alloc (.cells #[.int .i64 most] 3)).heap.size=w.heap.size+1:=by simp
 have hz2:W2.heap.size=w.heap.size+2:=by rw [hW2];simp
 have hb2:Below w.heap.size w W2:=by rw [hW2];exact ((Below.refl _ _).alloc lz _).alloc (by simp) _
 have hg:W2.heap[w.heap.size]?=some (.cells #[.int .i64 most] 3 (0,0)):=by rw [hW2,Below.heap_alloc _ _ _ (by simp)];exact heap_alloc_new w _
 have hr7:W2.rowIs (w.heap.size+1) 25 5 (qQ (.int .u8 0) (.int .i64 0) (.string ⟨#[]⟩) (.slice none 0 0) (.slice none 0 0)):=by
  have:=qh (w.alloc (.cells #[.int .i64 most] 3)) (.int .u8 0) (.int .i64 0) (.string ⟨#[]⟩) (.slice none 0 0) (.slice none 0 0) 25
  rw [hz1,← hW2] at this
  exact this
 have HT:=Lh (nJ o m lo hi v an ai cn ci y most st W2 (hP.below hb2) hy ha w.heap.size hg)
 have HO:=Lh (And.intro ho (And.intro hm (And.intro hle hz2)))
 have HB2:=Lh hb2
 have HR7:=Lh hr7
 have HW:=Lh hW2
 clear hP ho hm hle hz1 hz2 hb2 hg hr7 hW2
 go_enter Tryz.func58,Tryz.ntmps58
 go_upto_region 1 with fail
 rw [← HW.out]
 go_wp2_with fail
 refine HT.out.mono ?_
 clear HT
 rintro e w3 ⟨⟨an',cn',ai',ci',rfl,hrep⟩,hp,ht⟩
 obtain ⟨it,st',hx⟩:∃it st',qv v y most st=(it,st'):=⟨_,_,rfl⟩
 rw [hx] at hrep hp ⊢
 have HX:=Lh hx
 have HREP:=Lh hrep
 have HP3:=Lh hp
 have HT3:=Lh ht
 have hr7:=ht.row HR7.out (by have:=HO.out;omega)
 clear hx hrep hp ht
 obtain ⟨t0,t1,t2,t3,t4⟩:=rc5 hr7
 obtain ⟨s0,s1,s2,s3,s4⟩:=rf5 hr7
 simp only [qQ] at t0 t1 t2 t3 t4
 have HR7c:=Lh hr7
 clear hr7
 have HT4:=Lh (show Touch (fun b=>b=o∨b=m) w w3 from (Touch.of_below HB2.out lz).trans HT3.out)
 have HNO:=Lh (show w.heap.size+1≠o∧w.heap.size+1≠m∧hi≤w.heap.size+1 from by have:=HO.out;omega)
 go_wp2
 refine bodyPost_ret (results_cell_row Tryz.results58 _ _ (w.heap.size+1) 25 _ (0,0) _ rfl (qs (set5 _ _ _ _ _ HR7c.out)) Tryz.underlying25 rfl (by kernel_rfl)) rfl ?_
 exact gU HX.out HREP.out (Nat.le_succ _) (by have:=HO.out;omega) lz HP3.out HT4.out HNO.out.1 HNO.out.2.1 HNO.out.2.2
set_option maxHeartbeats 400000 in
theorem sB (o:Nat) (err:Int) (y:ByteArray) (l h:Int) (w:World) (hb:zC o err w) (ho:o<w.heap.size) :
 Calls Tryz.prog 55 #[.pointer (some ⟨o,0,none⟩),.string y,.int .i64 l,.int .i64 h] w fun e w'=>e=.returned (.int .i64 0)∧Below w.heap.size w w':=by
 obtain ⟨W2,hW2⟩:∃W2,W2=(w.alloc (.cells #[.int .i64 l] 2)).alloc (.cells #[.int .i64 h] 2):=⟨_,rfl⟩
 have hb2:Below w.heap.size w W2:=by rw [hW2];exact ((Below.refl _ _).alloc lz _).alloc (by simp) _
 obtain ⟨he,c6,k,c0⟩:=hb.below hb2 ho
 have HB2:=Lh hb2
 have HW:=Lh hW2
 clear hW2 hb2 hb
 have HT:=Lh (show ∀fv,Calls Tryz.prog 99 #[.pointer (some ⟨o,0,none⟩),.string y,fv] W2 (fun e w'=>e=.returned (.int .i64 0)∧W2=w') from fun fv=>by
  have he':(err == 0)=false:=by simpa using he
  have he2:(err != 0)=true:=by simpa using he
  have HE:=Lh he
  clear he
  go_enter Tryz.func99,Tryz.ntmps99
  go_wp2_with fail
  refine (zv o err k W2 c6 c0 (fun h=>absurd h HE.out)).mono ?_
  rintro r w' ⟨rfl,rfl⟩
  go_wp2
  go_ret
  exact ⟨rfl,rfl⟩)
 clear he c6 c0
 go_enter Tryz.func55,Tryz.ntmps55
 go_wp2_with fail
 rw [← HW.out]
 refine (HT.out _).mono ?_
 rintro e w' ⟨rfl,rfl⟩
 go_wp2
 go_ret
 exact ⟨rfl,HB2.out⟩
set_option maxHeartbeats 400000 in
theorem nK (o:Nat) (err e:Int) (w:World) (h:zC o err w) :
 Calls Tryz.prog 54 #[.pointer (some ⟨o,0,none⟩),.int .i64 e] w fun r w'=>r=.returned (.tuple #[])∧w'=w:=by
 obtain ⟨he,c6,k,c0⟩:=h
 have he':(err == 0)=false:=by simpa using he
 have he2:(err != 0)=true:=by simpa using he
 have HE:=Lh he
 clear he
 go_enter Tryz.func54,Tryz.ntmps54
 go_wp2_with fail
 refine (zv o err k w c6 c0 (fun h=>absurd h HE.out)).mono ?_
 rintro r w' ⟨rfl,rfl⟩
 go_wp2
 go_end0
 exact ⟨rfl,rfl⟩
end Go.Proofs.YtnlgmcapbbgelaaGreatDoor
