import Derived.Test.YthgembbgcbaghaaGreatDoorDt16
import Derived.Test.YthgembbgcbaghaaGreatDoorDt15
import Derived.Test.YthgembbgcbaghaaGreatDoorDt13
import Derived.Lib.ItoaLen

namespace Go.Proofs.YthgembbgcbaghaaGreatDoor
open Go.RowKit
mutual
def JV.partB:JV->Bool
 | .mk k n t ns xs=>qV k n t ns xs.length && JV.partsB xs
def JV.partsB:List JV->Bool
 | []=>true
 | x :: r=>JV.partB x && JV.partsB r
end
mutual
def JV.depth:JV->Nat
 | .mk k _ _ _ xs=>if k≠4/\k≠5 then 0 else JV.depths xs+1
def JV.depths:List JV->Nat
 | []=>0
 | x :: r=>max (JV.depth x) (JV.depths r)
end
theorem JV.partB_eq (v:JV):v.partB=(qV v.kind v.n v.t v.names v.items.length && JV.partsB v.items):=by cases v;rw [JV.partB];rfl
theorem JV.depth_eq (v:JV):v.depth=if v.kind≠4/\v.kind≠5 then 0 else JV.depths v.items+1:=by cases v;rw [JV.depth];rfl
theorem JV.count_eq (v:JV):v.count=1+JV.counts v.items:=by cases v;rw [JV.count];rfl
theorem JV.depths_take (l:List JV) (k:Nat) (h:k<l.length):JV.depths (l.take (k+1))=max (JV.depths (l.take k)) (JV.depth l[k]):=by
 induction l generalizing k with
 | nil=>simp at h
 | cons x r ih =>
  cases k with
  | zero=>simp [JV.depths]
  | succ k=>simp only [V8,JV.depths,H6];rw [ih k (by simpa using h)];omega
theorem JV.partsB_take (l:List JV) (k:Nat) (h:k<l.length):JV.partsB (l.take (k+1))=(JV.partsB (l.take k) && JV.partB l[k]):=by
 induction l generalizing k with
 | nil=>simp at h
 | cons x r ih =>
  cases k with
  | zero=>simp [JV.partsB]
  | succ k=>simp only [V8,JV.partsB,H6];rw [ih k (by simpa using h),Bool.and_assoc]
theorem JV.partsB_bad (l:List JV) (k:Nat) (h:k<l.length) (hb:JV.partB l[k]=false):JV.partsB l=false:=by
 induction l generalizing k with
 | nil=>simp at h
 | cons x r ih =>
  cases k with
  | zero=>simp only [zb2] at hb;rw [JV.partsB,hb];rfl
  | succ k=>rw [JV.partsB,ih k (by simpa using h) (by simpa using hb),N3]
mutual
theorem JV.depth_le:∀v:JV,v.depth<=v.wt
 | .mk k _ _ _ xs=>by have:=JV.depths_le xs;rw [JV.depth,JV.wt];split <;> omega
theorem JV.depths_le:∀l:List JV,JV.depths l<=JV.wts l
 | []=>by simp [JV.depths]
 | x :: r=>by have:=JV.depth_le x;have:=JV.depths_le r;rw [JV.depths,JV.wts];omega
end
theorem JV.proper_leaf {v:JV} (h:qV v.kind v.n v.t v.names v.items.length=true) (h4:v.kind≠4) (h5:v.kind≠5):v.items=[]:=by
 unfold qV at h;split at h
 . simp at h;exact h.2.2.1
 split at h
 . simp at h;exact h.2.2
 split at h
 . simp at h;exact h.1.2.2
 . first|(cases h;done)|(rw [Z5 h4,Z5 h5] at h;cases h)
theorem JV.part_leaf (v:JV) (h4:v.kind≠4) (h5:v.kind≠5):v.partB=qV v.kind v.n v.t v.names v.items.length:=by
 rw [JV.partB_eq];cases h:qV v.kind v.n v.t v.names v.items.length
 . rfl
 . rw [JV.proper_leaf h h4 h5];rfl
mutual
theorem JV.may_iff:∀(v:JV) (d:Nat) (l:Int),0<=l->((v.may d l).1=true↔v.partB=true/\(v.count:Int)<=l/\v.depth<=d)/\((v.may d l).1=true->(v.may d l).2=l - v.count)
 | .mk k n t ns xs,d,l,hl=>by
  rw [JV.may,JV.partB,JV.count,JV.depth];by_cases h0:l - 1<0
  . rw [J1 h0];simp;omega
  rw [Z5 h0];cases hp:qV k n t ns xs.length
  . simp
  simp only [Bool.true_eq_false,zd4,X4];by_cases hk:k≠4/\k≠5
  . have hx:xs=[]:=JV.proper_leaf (v:=.mk k n t ns xs) hp hk.1 hk.2;subst hx;rw [J1 hk,J1 hk];simp [JV.partsB,JV.counts];omega
  . rw [Z5 hk,Z5 hk];by_cases hd:d=0
    . rw [J1 hd];simp;omega
    . rw [Z5 hd];obtain ⟨i1,i2⟩:=JV.mays_iff xs (d - 1) (l - 1) (by omega);refine ⟨?_,fun h=>?_⟩
      . rw [i1];constructor
        . rintro ⟨a,b,c⟩;exact ⟨a,by push_cast;omega,by omega⟩
        . rintro ⟨a,b,c⟩;exact ⟨a,by push_cast at b;omega,by omega⟩
      . rw [i2 h];push_cast;omega
theorem JV.mays_iff:∀(xs:List JV) (d:Nat) (l:Int),0<=l->((JV.mays xs d l).1=true↔JV.partsB xs=true/\(JV.counts xs:Int)<=l/\JV.depths xs<=d)/\((JV.mays xs d l).1=true->(JV.mays xs d l).2=l - JV.counts xs)
 | [],d,l,hl=>by simp [JV.mays,JV.partsB,JV.counts,JV.depths];omega
 | x :: r,d,l,hl=>by
  obtain ⟨a1,a2⟩:=JV.may_iff x d l hl;rw [JV.mays,JV.partsB,JV.counts,JV.depths];cases h:(JV.may x d l).1
  . rw [h] at a1;simp only [Bool.false_eq_true,zd4,false_iff,not_and,J4,false_implies,M9] at a1 ⊢;intro hp hc;have:=a1 hp.1 (by push_cast at hc;omega);omega
  . rw [J1 rfl];have hb:=(JV.may_bd x d l hl).2.2 h;obtain ⟨c1,c2,c3⟩:=a1.1 h;have e2:=a2 h;obtain ⟨i1,i2⟩:=JV.mays_iff r d _ hb;rw [i1,e2];refine ⟨?_,fun hh=>?_⟩
    . rw [c1,X4];constructor
      . rintro ⟨a,b,c⟩;exact ⟨a,by push_cast;omega,by omega⟩
      . rintro ⟨a,b,c⟩;exact ⟨a,by push_cast at b;omega,by omega⟩
    . have hh':(JV.mays r d (JV.may x d l).2).1=true:=by rw [e2];exact i1.2 (by rw [e2];exact hh) |> fun z=>by rwa [e2] at z
      have:=i2 hh';rw [e2] at this;rw [this];push_cast;omega
end
theorem JV.mayB_iff (v:JV):v.mayB=(v.partB && decide (v.count<=8192) && decide (v.depth<=12)):=by
 unfold JV.mayB;rw [za0,(JV.may_iff v 12 8192 (by omega)).1];simp only [J4,Q6];constructor
 . rintro ⟨a,b,c⟩;exact ⟨⟨a,by omega⟩,c⟩
 . rintro ⟨⟨a,b⟩,c⟩;exact ⟨a,by omega,c⟩
def zy (n:Int):JV:=.mk 2 n ⟨#[]⟩ [] []
def nI:ByteArray:=⟨#[118,101,114,115,105,111,110]⟩
def nO:ByteArray:=⟨#[95,116,121,112,101]⟩
def nE:ByteArray:=⟨#[101,120,112,105,114,101,115]⟩
def mP:ByteArray:=⟨#[115,110,97,112,115,104,111,116]⟩
def mF:ByteArray:=⟨#[116,97,114,103,101,116,115]⟩
def qT (v:JV) (y:ByteArray) (lo hi:Int) (st:PS):Int × PS :=
 if st.err≠0 then (0,st) else match v.look y with
 | none=>(0,⟨st.asked,6⟩)
 | some it=>if it.kind≠2 then (0,⟨st.asked,10⟩) else if it.n<lo\/hi<it.n then (0,⟨st.asked,1⟩) else (it.n,⟨y :: st.asked,0⟩)
def qX (v:JV) (y:ByteArray) (most:Nat) (st:PS):JV × PS :=
 if st.err≠0 then (zo,st) else match v.look y with
 | none=>(zo,⟨st.asked,6⟩)
 | some it=>if it.kind≠5 then (zo,⟨st.asked,10⟩) else if most<it.items.length then (zo,⟨st.asked,5⟩) else (it,⟨y :: st.asked,0⟩)
def zv (v:JV) (y:ByteArray) (st:PS):Bool:=decide (st.err=0) && (v.look y).isSome
def PS.fail (st:PS) (e:Int):PS:=if st.err=0 then ⟨st.asked,e⟩ else st
abbrev NJ:=ByteArray × JV
theorem fj {b:ByteArray} (h:zf b.data.toList=true):b.size<=64:=by unfold zf at h;simp only [J4,Q6] at h;have:=h.1.1.2;simpa using this
theorem py (n:Int):(zy n).wt=1:=by simp [zy,JV.wt,JV.wts,qo,ByteArray.size]
def okN (N:List NJ):Prop:=qe (N.map (·.1))=true/\∀p ∈ N,qQ p.1=true/\p.2.partB=true
def j5 (N:List NJ):JV:=.mk 5 0 ⟨#[]⟩ (N.map (·.1)) (N.map (·.2))
theorem gU:∀l:List JV,(∀x ∈ l,x.partB=true)->JV.partsB l=true
 | [],_=>rfl
 | x :: r,h=>by rw [JV.partsB,h x (N9 ..),gU r fun y hy=>h y (K9 _ hy)];rfl
theorem wD {N:List NJ} (h:okN N):(j5 N).partB=true:=by
 rw [JV.partB_eq];have b:qV 5 0 ⟨#[]⟩ (N.map (·.1)) (N.map (·.2)).length=true:=by
  unfold qV;rw [Z5 (by decide),Z5 (by decide),Z5 (by decide),Z5 (by decide),J1 rfl,h.1];have c:(⟨#[]⟩:ByteArray).toList=[]:=by rw [X2]
  have d:(N.map (·.1)).all qQ=true:=(by rw [V4];intro x hx;obtain ⟨p,a,rfl⟩:=M4.1 hx;exact (h.2 p a).1);rw [d];simp [c]
 show (qV 5 0 ⟨#[]⟩ (N.map (·.1)) (N.map (·.2)).length && JV.partsB (N.map (·.2)))=true;rw [b,gU _ fun x hx=>by obtain ⟨p,a,rfl⟩:=M4.1 hx;exact (h.2 p a).2];rfl
theorem gM {t:ByteArray} (h:qQ t=true):(txtJ t).partB=true:=by rw [JV.partB_eq];show (qV 3 0 t [] 0 && JV.partsB [])=true;unfold qV;rw [Z5 (by decide),Z5 (by decide),J1 rfl,h];rfl
theorem gC (n:Int):(zy n).partB=true:=by
 rw [JV.partB_eq];show (qV 2 n ⟨#[]⟩ [] 0 && JV.partsB [])=true;unfold qV;rw [Z5 (by decide),J1 rfl];have a:(⟨#[]⟩:ByteArray).toList=[]:=by rw [X2]
 simp [a,JV.partsB]
theorem counts_le (b:Nat):∀l:List JV,(∀x ∈ l,x.count<=b)->JV.counts l<=l.length * b
 | [],_=>by simp [JV.counts]
 | x :: r,h=>by have h1:=h x (N9 ..);have h2:=counts_le b r fun y hy=>h y (K9 _ hy);rw [JV.counts,N2,Nat.succ_mul];omega
theorem kJ (b:Nat):∀l:List JV,(∀x ∈ l,x.depth<=b)->JV.depths l<=b
 | [],_=>by simp [JV.depths]
 | x :: r,h=>by have h1:=h x (N9 ..);have h2:=kJ b r fun y hy=>h y (K9 _ hy);rw [JV.depths];omega
theorem fk {N:List NJ} (b:Nat) (h:∀p ∈ N,p.2.count<=b):(j5 N).count<=1+N.length * b:=by
 rw [JV.count_eq];have:=counts_le b (N.map (·.2)) fun x hx=>by obtain ⟨p,a,rfl⟩:=M4.1 hx;exact h p a
 rw [J9] at this;show 1+JV.counts (N.map (·.2))<=_;omega
theorem vB {N:List NJ} (b:Nat) (h:∀p ∈ N,p.2.depth<=b):(j5 N).depth<=b+1:=by
 rw [JV.depth_eq];have:=kJ b (N.map (·.2)) fun x hx=>by obtain ⟨p,a,rfl⟩:=M4.1 hx;exact h p a
 rw [Z5 (by simp [j5,JV.kind])];show JV.depths (N.map (·.2))+1<=_;omega
theorem mH (t:ByteArray):(txtJ t).count=1/\(txtJ t).depth=0:=by rw [JV.count_eq,JV.depth_eq];exact ⟨rfl,rfl⟩
theorem mU (n:Int):(zy n).count=1/\(zy n).depth=0:=by rw [JV.count_eq,JV.depth_eq];exact ⟨rfl,rfl⟩
theorem fw {v:JV} {y:ByteArray} {n lo hi:Int} {a:List ByteArray} (h:v.look y=some (zy n)) (h1:lo<=n) (h2:n<=hi):qT v y lo hi ⟨a,0⟩=(n,⟨y :: a,0⟩):=by unfold qT;rw [Z5 (by simp),h];show (if (2:Int)≠2 then _ else if n<lo\/hi<n then _ else _)=_;rw [Z5 (by decide),Z5 (by omega)];rfl
theorem bZ {v:JV} {y t:ByteArray} {a:List ByteArray} (h:v.look y=some (txtJ t)):ql v y ⟨a,0⟩=(t,⟨y :: a,0⟩):=by unfold ql;rw [Z5 (by simp),h];show (if (3:Int)=3 then _ else _)=_;rw [J1 rfl];rfl
theorem bJ {k n:Int} {t:ByteArray} {ns:List ByteArray} {li:Nat} (h:qV k n t ns li=true):(k=1/\li=0)\/(k=2/\li=0)\/(k=3/\qQ t=true/\li=0)\/k=4\/(k=5/\ns.length=li/\qe ns=true/\ns.all qQ=true):=by
 unfold qV at h;by_cases h1:k=1
 . rw [J1 h1] at h;simp at h;exact .inl ⟨h1,h.2.2.1⟩
 rw [Z5 h1] at h;by_cases h2:k=2
 . rw [J1 h2] at h;simp at h;exact .inr (.inl ⟨h2,h.2.2⟩)
 rw [Z5 h2] at h;by_cases h3:k=3
 . rw [J1 h3] at h;simp at h;exact .inr (.inr (.inl ⟨h3,h.2,h.1.2.2⟩))
 rw [Z5 h3] at h;by_cases h4:k=4
 . exact .inr (.inr (.inr (.inl h4)))
 rw [Z5 h4] at h;by_cases h5:k=5
 . rw [J1 h5] at h;simp only [J4,Q6] at h;exact .inr (.inr (.inr (.inr ⟨h5,h.1.1.2.2,h.1.2,h.2⟩)))
 . rw [Z5 h5] at h;cases h
def sep (first:Bool):List UInt8:=if first then [] else [44]
mutual
def JV.enc:JV->List UInt8
 | .mk k n t ns xs=>if k=1 then (if n=1 then [116,114,117,101] else [102,97,108,115,101]) else if k=2 then Lib.itoa n else if k=3 then xN t.data.toList
  else if k=4 then 91 :: (JV.encI true xs ++ [93]) else 123 :: (JV.encO true ns xs ++ [125])
def JV.encI:Bool->List JV->List UInt8
 | _,[]=>[]
 | f,x :: r=>sep f ++ (JV.enc x ++ JV.encI false r)
def JV.encO:Bool->List ByteArray->List JV->List UInt8
 | _,_,[]=>[]
 | _,[],_ :: _=>[]
 | f,s :: ns,x :: r=>sep f ++ (xN s.data.toList ++ (58 :: (JV.enc x ++ JV.encO false ns r)))
end
theorem JV.enc_eq (v:JV):v.enc=if v.kind=1 then (if v.n=1 then [116,114,117,101] else [102,97,108,115,101]) else if v.kind=2 then Lib.itoa v.n else if v.kind=3 then xN v.t.data.toList
 else if v.kind=4 then 91 :: (JV.encI true v.items ++ [93]) else 123 :: (JV.encO true v.names v.items ++ [125]):=by cases v;rw [JV.enc];rfl
theorem JV.encI_snoc:∀(l:List JV) (f:Bool) (x:JV),JV.encI f (l ++ [x])=JV.encI f l ++ (sep (f && l.isEmpty) ++ x.enc)
 | [],f,x=>by simp [JV.encI]
 | y :: r,f,x=>by simp [JV.encI,JV.encI_snoc r false x]
theorem JV.encO_snoc:∀(ns:List ByteArray) (l:List JV) (f:Bool) (s:ByteArray) (x:JV),ns.length=l.length->JV.encO f (ns ++ [s]) (l ++ [x])=JV.encO f ns l ++ (sep (f && l.isEmpty) ++ (xN s.data.toList ++ (58 :: x.enc)))
 | [],[],f,s,x,_=>by simp [JV.encO]
 | [],_ :: _,_,_,_,h=>by simp at h
 | _ :: _,[],_,_,_,h=>by simp at h
 | n :: ns,y :: r,f,s,x,h=>by simp [JV.encO,JV.encO_snoc ns r false s x (by simpa using h)]
def nz (n:Int):Prop:=-9223372036854775808<=n/\n<=9223372036854775807
mutual
def JV.form (nm:Bool):JV->Prop
 | .mk k n t ns xs=>(k=1\/(k=2/\nm=true/\nz n)\/(k=3/\qQ t=true)\/k=4\/(k=5/\ns.length=xs.length/\∀i (h:i<ns.length),qQ ns[i]=true))/\JV.forms nm xs
def JV.forms (nm:Bool):List JV->Prop
 | []=>True
 | x :: r=>JV.form nm x/\JV.forms nm r
end
theorem JV.form_eq {nm:Bool} {v:JV} (h:v.form nm):(v.kind=1\/(v.kind=2/\nm=true/\nz v.n)\/(v.kind=3/\qQ v.t=true)\/v.kind=4\/(v.kind=5/\v.names.length=v.items.length/\∀i (h:i<v.names.length),qQ v.names[i]=true))/\JV.forms nm v.items:=by cases v;unfold JV.form at h;exact h
theorem JV.forms_get {nm:Bool}:∀(l:List JV) (i:Nat) (h:i<l.length),JV.forms nm l->JV.form nm l[i]
 | s :: r,0,_,h=>by unfold JV.forms at h;exact h.1
 | s :: r,i+1,hi,h=>by unfold JV.forms at h;exact JV.forms_get r i (by simpa using hi) h.2
mutual
theorem JV.form_of_may:∀(v:JV) (d:Nat) (l:Int),v.num->(v.may d l).1=true->v.form true
 | .mk k n t ns xs,d,l,hn,h=>by
  rw [JV.may] at h;unfold JV.num at hn;split at h
  . cases h
  split at h
  . cases h
  next h1 h2 =>
  have hp:=bJ (by simpa using h2);unfold JV.form;split at h
  . next h3 =>
    have hx:xs=[]:=by
     rcases hp with ⟨_,e⟩|⟨_,e⟩|⟨_,_,e⟩|e|⟨e,_⟩
     . exact X3 e
     . exact X3 e
     . exact X3 e
     . exact absurd e h3.1
     . exact absurd e h3.2
    subst hx;refine ⟨?_,by unfold JV.forms;trivial⟩;rcases hp with ⟨e,_⟩|⟨e,_⟩|⟨e,e2,_⟩|e|⟨e,_⟩
    . exact .inl e
    . exact .inr (.inl ⟨e,rfl,hn.2.1⟩)
    . exact .inr (.inr (.inl ⟨e,e2⟩))
    . exact absurd e h3.1
    . exact absurd e h3.2
  . next h3 =>
    split at h
    . cases h
    . refine ⟨?_,JV.forms_of_mays xs _ _ hn.2.2 h⟩;rcases hp with ⟨e,_⟩|⟨e,_⟩|⟨e,e2,_⟩|e|⟨e,e2,_,e3⟩
      . exact .inl e
      . exact .inr (.inl ⟨e,rfl,hn.2.1⟩)
      . exact .inr (.inr (.inl ⟨e,e2⟩))
      . exact .inr (.inr (.inr (.inl e)))
      . exact .inr (.inr (.inr (.inr ⟨e,e2,fun i hi=>V4.1 e3 _ (J7 hi)⟩)))
theorem JV.forms_of_mays:∀(xs:List JV) (d:Nat) (l:Int),JV.nums xs->(JV.mays xs d l).1=true->JV.forms true xs
 | [],_,_,_,_=>by unfold JV.forms;trivial
 | x :: r,d,l,hn,h=>by
  rw [JV.mays] at h;unfold JV.nums at hn;unfold JV.forms;split at h
  . next h1=>exact ⟨JV.form_of_may x d l hn.1 h1,JV.forms_of_mays r _ _ hn.2 h⟩
  . cases h
end
theorem jS (s:ByteArray):(xN s.data.toList).length<=2 * s.size+2:=by have:=wn s.data.toList;rw [qp] at this;unfold xN;simp;omega
theorem fy (f:Bool):(sep f).length<=1:=by cases f <;> simp [sep]
mutual
theorem JV.enc_length:∀(v:JV),v.form true->v.enc.length+4<=30 * v.wt
 | .mk k n t ns xs,h=>by
  unfold JV.form at h;rw [JV.enc,JV.wt];have h1:=JV.encI_length xs true h.2;have h2:=JV.encO_length ns xs true h.2;split
  . split <;> simp <;> omega
  split
  . next e1 e2 =>
    rcases h.1 with e|⟨_,_,e⟩|⟨e,_⟩|e|⟨e,_⟩ <;> first|omega|skip
    have:=Lib.itoa_length_le n e.1 e.2;omega
  split
  . have:=jS t;omega
  split
  . simp;omega
  . simp;omega
theorem JV.encI_length:∀(xs:List JV) (f:Bool),JV.forms true xs->(JV.encI f xs).length<=30 * JV.wts xs
 | [],f,_=>by simp [JV.encI]
 | x :: r,f,h=>by unfold JV.forms at h;have h1:=JV.enc_length x h.1;have h2:=JV.encI_length r false h.2;have h3:=fy f;simp [JV.encI,JV.wts];omega
theorem JV.encO_length:∀(ns:List ByteArray) (xs:List JV) (f:Bool),JV.forms true xs->(JV.encO f ns xs).length<=30 * qo ns+30 * JV.wts xs
 | ns,[],f,_=>by simp [JV.encO]
 | [],x :: r,f,_=>by simp [JV.encO]
 | s :: ns,x :: r,f,h=>by unfold JV.forms at h;have h1:=JV.enc_length x h.1;have h2:=JV.encO_length ns r false h.2;have h3:=fy f;have h4:=jS s;simp [JV.encO,JV.wts,qo];omega
end
mutual
theorem JV.form_true {nm:Bool}:∀(v:JV),v.form nm->v.form true
 | .mk k n t ns xs,h=>by
  unfold JV.form at h ⊢;refine ⟨?_,JV.forms_true xs h.2⟩;rcases h.1 with e|⟨e,_,e2⟩|e|e|e
  . exact .inl e
  . exact .inr (.inl ⟨e,rfl,e2⟩)
  . exact .inr (.inr (.inl e))
  . exact .inr (.inr (.inr (.inl e)))
  . exact .inr (.inr (.inr (.inr e)))
theorem JV.forms_true {nm:Bool}:∀(xs:List JV),JV.forms nm xs->JV.forms true xs
 | [],_=>by unfold JV.forms;trivial
 | x :: r,h=>by unfold JV.forms at h ⊢;exact ⟨JV.form_true x h.1,JV.forms_true r h.2⟩
end
theorem JV.forms_take {nm:Bool}:∀(l:List JV) (k:Nat),JV.forms nm l->JV.forms nm (l.take k)
 | [],k,_=>by simp [JV.forms]
 | x :: r,0,_=>by simp [JV.forms]
 | x :: r,k+1,h=>by unfold JV.forms at h;simp only [V8];unfold JV.forms;exact ⟨h.1,JV.forms_take r k h.2⟩
theorem JV.wts_snoc (l:List JV) (k:Nat) (h:k<l.length):JV.wts (l.take k)+JV.wt l[k]<=JV.wts l:=by
 induction l generalizing k with
 | nil=>simp at h
 | cons x r ih =>
  cases k with
  | zero=>simp [JV.wts]
  | succ k=>have:=ih k (by simpa using h);simp [JV.wts];omega
theorem uk (l:List ByteArray) (k:Nat) (h:k<l.length):qo (l.take k)+l[k].size+1<=qo l:=by
 induction l generalizing k with
 | nil=>simp at h
 | cons x r ih =>
  cases k with
  | zero=>simp [qo]
  | succ k=>have:=ih k (by simpa using h);simp [qo];omega
theorem JV.encI_take (l:List JV) (k:Nat) (h:k<l.length):JV.encI true (l.take (k+1))=JV.encI true (l.take k) ++ (sep (decide (k=0)) ++ l[k].enc):=by
 rw [Z6 h,JV.encI_snoc];congr 3;cases k with
 | zero=>simp
 | succ k=>cases l with
  | nil=>simp at h
  | cons x r=>simp
theorem JV.encO_take (ns:List ByteArray) (l:List JV) (k:Nat) (h:k<l.length) (hn:k<ns.length):JV.encO true (ns.take (k+1)) (l.take (k+1))=JV.encO true (ns.take k) (l.take k) ++ (sep (decide (k=0)) ++ (xN ns[k].data.toList ++ (58 :: l[k].enc))):=by
 rw [Z6 h,Z6 hn,JV.encO_snoc _ _ _ _ _ (by simp;omega)];congr 3;cases k with
 | zero=>simp
 | succ k=>cases l with
  | nil=>simp at h
  | cons x r=>simp
open Go.Shelf Go.Sort
def qW (ms:List Mem):List Value:=ms.flatMap qG
theorem uK (ms:List Mem) (i c:Nat) (hi:i<ms.length) (hc:c<6):(qW ms)[i * 6+c]?=some ((qG ms[i])[c]'(by rw [zH];exact hc)):=by
 induction ms generalizing i with
 | nil=>simp at hi
 | cons v r ih =>
  unfold qW;rw [List.flatMap_cons];rcases i with _|i
  . rw [G5 (by rw [zH];omega)];simp
  . rw [V5 (by rw [zH];omega),zH];have:=ih i (by simpa using hi);rw [show (i+1) * 6+c - 6=i * 6+c by omega];simpa [qW] using this
structure MemsAt (W0:Nat) (w:World) (v:Value) (ms:List Mem) (its:List JV):Prop where
 own:w.ownsRow W0 169 6 v ms.length (qW ms)
 len:its.length=ms.length
 reps:∀i (h:i<its.length),∃lo hi,W0<=lo/\hi<=w.heap.size/\(∀b,v.ownBlock=some b->¬(lo<=b/\b<hi))/\Rep w lo hi its[i] (ms[i]'(by omega)).val
theorem MemsAt.below {W0:Nat} {w w':World} {v:Value} {ms:List Mem} {its:List JV} (h:MemsAt W0 w v ms its) (hb:Below w.heap.size w w'):MemsAt W0 w' v ms its :=
 ⟨qH h.own hb,h.len,fun i hi=>by
  obtain ⟨lo,hi',h1,h2,h3,hr⟩:=h.reps i hi;exact ⟨lo,hi',h1,Z3 h2 hb.size,h3,Rep.carry lz lz (fun b _ h=>hb.block b (by omega)) _ _ hr⟩⟩
theorem MemsAt.snoc {W0:Nat} {w w':World} {v v':Value} {ms:List Mem} {its:List JV} (h:MemsAt W0 w v ms its) (m:Mem) (it:JV) (lo hi:Nat) (h1:W0<=lo) (h2:hi<=w.heap.size) (h3:∀b,v.ownBlock=some b->¬(lo<=b/\b<hi)) (hr:Rep w lo hi it m.val)
 (hg:w.grownBy w' v.ownBlock) (hown:w'.ownsRow W0 169 6 v' (ms.length+1) (qW ms ++ qG m)) (hat:v'.ownBlock=v.ownBlock\/∃g,v'.ownBlock=some g/\w.heap.size<=g):MemsAt W0 w' v' (ms ++ [m]) (its ++ [it]):=by
 have k:∀ {lo hi:Nat},hi<=w.heap.size->(∀b,v.ownBlock=some b->¬(lo<=b/\b<hi))->∀b,v'.ownBlock=some b->¬(lo<=b/\b<hi):=fun hz hn b hb=>by
  rcases hat with e|⟨g,e,hge⟩
  . exact hn b (by rw [<- e];exact hb)
  . rw [e] at hb;simp at hb;omega
 have j:∀ {lo hi:Nat} {it:JV} {x:Value},hi<=w.heap.size->(∀b,v.ownBlock=some b->¬(lo<=b/\b<hi))->Rep w lo hi it x->Rep w' lo hi it x:=fun hz hn hr =>
  Rep.carry lz lz (fun b hb1 hb2=>hg.block b (by omega) (fun e=>hn b e.symm ⟨hb1,hb2⟩)) _ _ hr
 have o:=h.len;refine ⟨?_,by simp [o],fun i hi'=>?_⟩
 . have e:qW (ms ++ [m])=qW ms ++ qG m:=by simp [qW]
   rw [e,H0];exact hown
 . by_cases e:i<its.length
   . obtain ⟨f,a,p,d,l,c⟩:=h.reps i e;refine ⟨f,a,p,Z3 d hg.size,k d l,?_⟩;rw [K6 e,K6 (by omega)];exact j d l c
   . obtain rfl:i=its.length:=by simp at hi';omega
     refine ⟨lo,hi,h1,Z3 h2 hg.size,k h2 h3,?_⟩;rw [G6 (by omega),G6 (by omega)];simpa using j h2 h3 hr
theorem MemsAt.one {W0:Nat} {w:World} {blk:Nat} (m:Mem) (it:JV) (lo hi:Nat) (h0:W0<=blk) (h1:W0<=lo) (h2:hi<=blk) (hr:Rep w lo hi it m.val) (hx:w.heap[blk]?=some (.cells (qG m).toArray 169 (0,0))):MemsAt W0 w (.slice (some ⟨blk,0,none⟩) 1 1) [m] [it]:=by
 have a:=qx hx;refine ⟨⟨rfl,.inr ⟨blk,1,_,rfl,h0,hx,J0 _,by unfold maxLen;omega,rfl,?_⟩⟩,rfl,fun i hi'=>?_⟩
 . simp [qW,qG]
 . obtain rfl:i=0:=by simp at hi';omega
   exact ⟨lo,hi,h1,by omega,fun b a=>by simp [Value.ownBlock] at a;omega,hr⟩
theorem sj {W0:Nat} {w:World} {v:Value} {ms:List Mem} (ho:w.ownsRow W0 169 6 v ms.length (qW ms)) (h0:0<ms.length):∃g cap,v=.slice (some ⟨g,0,none⟩) ms.length cap/\g<w.heap.size/\HoldsK qG 6 w g 0 ms.toArray:=by
 rcases ho.2 with ⟨rfl,h00⟩|⟨g,cap,cur,rfl,hg,hh,hc,hm,hs,ht⟩
 . omega
 . refine ⟨g,cap,rfl,qx hh,fun j hj=>⟨?_,by simp [World.frozen?,hh]⟩⟩;have a:j<ms.length * 6:=by simpa using hj
   have e:(⟨g,0,none⟩:Addr).add j=⟨g,j,none⟩:=by unfold Addr.add;split <;> simp_all
   have b:=uK ms (j / 6) (j % 6) (by omega) (by omega);rw [show j / 6 * 6+j % 6=j by omega] at b;have:=ho.cells (g:=g) rfl j _ b;rw [e] at this;rw [Nat.zero_add,this,get_flatK qG 6 ms.toArray j (by simpa using a)];have c:j % 6<(qG (ms[j / 6]'(by omega))).length:=by rw [zH];omega
   have d:ms.toArray[j / 6]! = ms[j / 6]'(by omega):=by rw [getElem!_pos _ _ (by simp;omega)];simp
   rw [d,getElem!_pos (qG (ms[j / 6]'(by omega))) (j % 6) c];rfl
theorem pg (w:World) (lo hi:Nat) (n:Int):Rep w lo hi (zy n) (.agg #[.int .u8 2,.int .i64 n,.string ⟨#[]⟩,.slice none 0 0,.slice none 0 0]):=by unfold zy Rep;exact ⟨none,0,none,0,rfl,J0 _,J0 _,.inl rfl,.inl rfl⟩
def zE (nm:ByteArray) (n:Int):Mem:=⟨nm,2,n,⟨#[]⟩,none,0,0,none,0,0⟩
theorem uV {α:Type} (enc:α->List Value) (sz:Nat) (hl:∀x,(enc x).length=sz):∀(l:List α) (i c:Nat) (hi:i<l.length) (hc:c<sz),(l.flatMap enc)[i * sz+c]?=some ((enc l[i])[c]'(by rw [hl];exact hc))
 | [],i,c,hi,_=>by simp at hi
 | v :: r,i,c,hi,hc=>by
  rw [List.flatMap_cons];rcases i with _|i
  . rw [G5 (by rw [hl];omega)];simp
  . have e:(i+1) * sz+c=sz+(i * sz+c):=by rw [Nat.add_mul];omega
    rw [V5 (by rw [hl,e];omega),hl,e,Nat.add_sub_cancel_left];simpa using uV enc sz hl r i c (by simpa using hi) hc
def fg {α:Type} (P:World->Nat->Nat->α->Prop):Prop:=∀(w w':World) (lo hi:Nat) (q:α),(∀b,lo<=b->b<hi->w'.heap[b]?=w.heap[b]?)->P w lo hi q->P w' lo hi q
structure ItemsOwn {α:Type} (T sz B:Nat) (enc:α->List Value) (P:World->Nat->Nat->α->Prop) (w:World) (vs:Value) (qs:List α):Prop where
 own:w.ownsRow B T sz vs qs.length (qs.flatMap enc)
 each:∀q ∈ qs,∃lo hi,B<=lo/\hi<=w.heap.size/\(∀b,vs.ownBlock=some b->¬(lo<=b/\b<hi))/\P w lo hi q
theorem ItemsOwn.nil {α:Type} (T sz B:Nat) (enc:α->List Value) (P:World->Nat->Nat->α->Prop) (w:World):ItemsOwn T sz B enc P w (.slice none 0 0) []:=⟨Y7 _ _ _ _,by simp⟩
theorem sk {S:Nat->Prop} {B T sz n:Nat} {w w':World} {v:Value} {cs:List Value} (h:w.ownsRow B T sz v n cs) (hT:Touch S w w') (hS:∀k,B<=k->¬S k):w'.ownsRow B T sz v n cs:=by refine zd h fun b hb=>?_;have:=h.lt b hb;exact hT.block b this.2 (hS b this.1)
theorem ItemsOwn.touch {α:Type} {T sz B:Nat} {enc:α->List Value} {P:World->Nat->Nat->α->Prop} (hP:fg P) {S:Nat->Prop} {w w':World} {vs:Value} {qs:List α} (h:ItemsOwn T sz B enc P w vs qs) (hT:Touch S w w') (hS:∀k,B<=k->¬S k):ItemsOwn T sz B enc P w' vs qs :=
 ⟨sk h.own hT hS,fun q hq=>by
  obtain ⟨lo,hi,h1,h2,h3,hk⟩:=h.each q hq;exact ⟨lo,hi,h1,Z3 h2 hT.size,h3,hP _ _ _ _ _ (fun b b1 b2=>hT.block b (by omega) (hS b (by omega))) hk⟩⟩
theorem ItemsOwn.below {α:Type} {T sz B:Nat} {enc:α->List Value} {P:World->Nat->Nat->α->Prop} (hP:fg P) {w w':World} {vs:Value} {qs:List α} (h:ItemsOwn T sz B enc P w vs qs) (hb:Below w.heap.size w w'):ItemsOwn T sz B enc P w' vs qs :=
 h.touch hP (Touch.of_below (S:=fun _=>False) hb lz) (fun _ _ h=>h)
theorem sw {B B' T sz n:Nat} {w:World} {v:Value} {cs:List Value} (h:w.ownsRow B T sz v n cs) (hB:B'<=B):w.ownsRow B' T sz v n cs:=by
 refine ⟨h.1,?_⟩;rcases h.2 with h2|⟨g,cap,cur,hv,hg,r⟩
 . exact .inl h2
 . exact .inr ⟨g,cap,cur,hv,Z3 hB hg,r⟩
theorem ItemsOwn.mono {α:Type} {T sz B B':Nat} {enc:α->List Value} {P:World->Nat->Nat->α->Prop} {w:World} {vs:Value} {qs:List α} (h:ItemsOwn T sz B enc P w vs qs) (hB:B'<=B):ItemsOwn T sz B' enc P w vs qs :=
 ⟨sw h.own hB,fun q hq=>by
  obtain ⟨lo,hi,h1,h2⟩:=h.each q hq;exact ⟨lo,hi,Z3 hB h1,h2⟩⟩
theorem ItemsOwn.snoc {α:Type} {T sz B:Nat} {enc:α->List Value} {P:World->Nat->Nat->α->Prop} (hP:fg P) {w w':World} {v v':Value} {qs:List α} (h:ItemsOwn T sz B enc P w v qs) (q:α) (lo hi:Nat) (h1:B<=lo) (h2:hi<=w.heap.size) (h3:∀b,v.ownBlock=some b->¬(lo<=b/\b<hi)) (hk:P w lo hi q)
 (hg:w.grownBy w' v.ownBlock) (hown:w'.ownsRow B T sz v' (qs.length+1) (qs.flatMap enc ++ enc q)) (hat:v'.ownBlock=v.ownBlock\/∃g,v'.ownBlock=some g/\w.heap.size<=g):ItemsOwn T sz B enc P w' v' (qs ++ [q]):=by
 have j:∀ {lo hi:Nat},hi<=w.heap.size->(∀b,v.ownBlock=some b->¬(lo<=b/\b<hi))->∀b,v'.ownBlock=some b->¬(lo<=b/\b<hi):=fun hz hn b hb=>by
  rcases hat with e|⟨g,e,hge⟩
  . exact hn b (by rw [<- e];exact hb)
  . rw [e] at hb;simp at hb;omega
 have a:∀ {lo hi:Nat} {x:α},hi<=w.heap.size->(∀b,v.ownBlock=some b->¬(lo<=b/\b<hi))->P w lo hi x->P w' lo hi x:=fun hz hn hr =>
  hP _ _ _ _ _ (fun b hb1 hb2=>hg.block b (by omega) (fun e=>hn b e.symm ⟨hb1,hb2⟩)) hr
 refine ⟨?_,fun p hp=>?_⟩
 . rw [H0,List.flatMap_append];simpa using hown
 . rcases zb7.1 hp with hp|hp
   . obtain ⟨i,c,l,f,k,d⟩:=h.each p hp;exact ⟨i,c,l,Z3 f hg.size,j f k,a f k d⟩
   . obtain rfl:p=q:=by simpa using hp
     exact ⟨lo,hi,h1,Z3 h2 hg.size,j h2 h3,a h2 h3 hk⟩
theorem ItemsOwn.cells {α:Type} {T sz B:Nat} {enc:α->List Value} {P:World->Nat->Nat->α->Prop} (hl:∀x,(enc x).length=sz) {w:World} {a:Option Addr} {n c:Nat} {qs:List α} (h:ItemsOwn T sz B enc P w (.slice a n c) qs) :
 n=qs.length/\n<=c/\(qs=[]\/∃g,a=some ⟨g,0,none⟩/\B<=g/\g<w.heap.size/\(∀o,w.frozen? ⟨g,o,none⟩=false)/\∀i (hi:i<qs.length) q (hq:q<sz),w.cell? ⟨g,i * sz+q,none⟩=some ((enc qs[i])[q]'(by rw [hl];exact hq))):=by
 have b:=h.own;rcases h.own.2 with ⟨hv,h0⟩|⟨g,cap,cur,hv,hg,hh,hc,hm,hs,ht⟩
 . simp only [V2] at hv;exact ⟨by omega,by omega,.inl (X3 h0)⟩
 . simp only [V2] at hv;obtain ⟨rfl,rfl,rfl⟩:=hv;refine ⟨rfl,hc,.inr ⟨g,rfl,hg,qx hh,fun o=>by simp [World.frozen?,hh],fun i hi2 q hq=>?_⟩⟩;have e:(⟨g,0,none⟩:Addr).add (i * sz+q)=⟨g,i * sz+q,none⟩:=by unfold Addr.add;split <;> simp_all
   have:=b.cells (g:=g) rfl _ _ (uV enc sz hl qs i q hi2 hq);rw [e] at this;exact this
theorem nx {v:JV} (h:v.mayB=true) (hk:v.kind=5):qe v.names=true/\v.names.length=v.items.length/\v.names.all qQ=true:=by
 unfold JV.mayB at h;rw [JV.may_eq] at h;split at h
 . cases h
 split at h
 . cases h
 next h2 =>
 rcases bJ (by simpa using h2) with ⟨e,_⟩|⟨e,_⟩|⟨e,_⟩|e|⟨_,e1,e2,e3⟩ <;> first|omega|exact ⟨e2,e1,e3⟩
theorem uW {v:JV} {y:ByteArray} {st:PS} (hv:v.wt<=4294967296):(ql v y st).1.size<=4294967296/\(ql v y st).2.asked.length<=st.asked.length+1:=by
 unfold ql;split
 . exact ⟨by show 0<=_;omega,by simp⟩
 split
 . exact ⟨by show 0<=_;omega,by simp⟩
 . next it hit =>
   split
   . refine ⟨?_,by simp⟩;have:∀(ns:List ByteArray) (xs:List JV),q7 ns xs y=some it->it.wt<=JV.wts xs:=by
      intro ns
      induction ns with
      | nil=>intro xs h;simp [q7] at h
      | cons n ns ih =>
       intro xs h;cases xs with
       | nil=>simp [q7] at h
       | cons x xs =>
        rw [q7] at h;split at h
        . cases h;simp [JV.wts]
        . have:=ih xs h;simp [JV.wts];omega
     have a:=this _ _ hit;have b:=it.wt_bd;have c:=v.wt_bd;show it.t.size<=_;omega
   . exact ⟨by show 0<=_;omega,by simp⟩
end Go.Proofs.YthgembbgcbaghaaGreatDoor
