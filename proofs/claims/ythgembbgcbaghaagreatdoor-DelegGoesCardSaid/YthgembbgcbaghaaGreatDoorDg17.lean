import Derived.Test.YthgembbgcbaghaaGreatDoorDg16
import Derived.Test.YthgembbgcbaghaaGreatDoorDg15
import Derived.Test.YthgembbgcbaghaaGreatDoorDg13
import Derived.Lib.ItoaLen

namespace Go.Proofs.YthgembbgcbaghaaGreatDoor
open Go.RowKit
mutual
def JV.partB:JV->Bool
 | .mk k n t ns xs=>qJ k n t ns xs.length && JV.partsB xs
def JV.partsB:List JV->Bool
 | []=>true
 | x :: r=>JV.partB x && JV.partsB r
end
mutual
def JV.depth:JV->Nat
 | .mk k _ _ _ xs=>if k≠4/\k≠5 then 0 else JV.depths xs+1
def JV.depths:List JV->Nat
 | []=>0
 | x :: r=>max (JV.depth x) (JV.depths r)
end
theorem JV.partB_eq (v:JV):v.partB=(qJ v.kind v.n v.t v.names v.items.length && JV.partsB v.items):=by cases v;rw [JV.partB];rfl
theorem JV.depth_eq (v:JV):v.depth=if v.kind≠4/\v.kind≠5 then 0 else JV.depths v.items+1:=by cases v;rw [JV.depth];rfl
theorem JV.count_eq (v:JV):v.count=1+JV.counts v.items:=by cases v;rw [JV.count];rfl
theorem JV.depths_take (l:List JV) (k:Nat) (h:k<l.length):JV.depths (l.take (k+1))=max (JV.depths (l.take k)) (JV.depth l[k]):=by
 induction l generalizing k with
 | nil=>simp at h
 | cons x r ih =>
  cases k with
  | zero=>simp [JV.depths]
  | succ k=>simp only [G7,JV.depths,M9];rw [ih k (by simpa using h)];omega
theorem JV.partsB_take (l:List JV) (k:Nat) (h:k<l.length):JV.partsB (l.take (k+1))=(JV.partsB (l.take k) && JV.partB l[k]):=by
 induction l generalizing k with
 | nil=>simp at h
 | cons x r ih =>
  cases k with
  | zero=>simp [JV.partsB]
  | succ k=>simp only [G7,JV.partsB,M9];rw [ih k (by simpa using h),Bool.and_assoc]
theorem JV.partsB_bad (l:List JV) (k:Nat) (h:k<l.length) (hb:JV.partB l[k]=false):JV.partsB l=false:=by
 induction l generalizing k with
 | nil=>simp at h
 | cons x r ih =>
  cases k with
  | zero=>simp only [List.getElem_cons_zero] at hb;rw [JV.partsB,hb];rfl
  | succ k=>rw [JV.partsB,ih k (by simpa using h) (by simpa using hb),N1]
mutual
theorem JV.depth_le:∀v:JV,v.depth<=v.wt
 | .mk k _ _ _ xs=>by have:=JV.depths_le xs;rw [JV.depth,JV.wt];split <;> omega
theorem JV.depths_le:∀l:List JV,JV.depths l<=JV.wts l
 | []=>by simp [JV.depths]
 | x :: r=>by have:=JV.depth_le x;have:=JV.depths_le r;rw [JV.depths,JV.wts];omega
end
theorem JV.proper_leaf {v:JV} (h:qJ v.kind v.n v.t v.names v.items.length=true) (a:v.kind≠4) (b:v.kind≠5):v.items=[]:=by
 unfold qJ at h;split at h
 . simp at h;exact h.2.2.1
 split at h
 . simp at h;exact h.2.2
 split at h
 . simp at h;exact h.1.2.2
 . first|(cases h;done)|(rw [J3 a,J3 b] at h;cases h)
theorem JV.part_leaf (v:JV) (a:v.kind≠4) (b:v.kind≠5):v.partB=qJ v.kind v.n v.t v.names v.items.length:=by
 rw [JV.partB_eq];cases h:qJ v.kind v.n v.t v.names v.items.length
 . rfl
 . rw [JV.proper_leaf h a b];rfl
mutual
theorem JV.may_iff:∀(v:JV) (d:Nat) (l:Int),0<=l->((v.may d l).1=true↔v.partB=true/\(v.count:Int)<=l/\v.depth<=d)/\((v.may d l).1=true->(v.may d l).2=l - v.count)
 | .mk k n t ns xs,d,l,hl=>by
  rw [JV.may,JV.partB,JV.count,JV.depth];by_cases h0:l - 1<0
  . rw [J8 h0];simp;omega
  rw [J3 h0];cases hp:qJ k n t ns xs.length
  . simp
  simp only [Bool.true_eq_false,zf1,Y1];by_cases hk:k≠4/\k≠5
  . have hx:xs=[]:=JV.proper_leaf (v:=.mk k n t ns xs) hp hk.1 hk.2;subst hx;rw [J8 hk,J8 hk];simp [JV.partsB,JV.counts];omega
  . rw [J3 hk,J3 hk];by_cases hd:d=0
    . rw [J8 hd];simp;omega
    . rw [J3 hd];obtain ⟨i1,i2⟩:=JV.mays_iff xs (d - 1) (l - 1) (by omega);refine ⟨?_,fun h=>?_⟩
      . rw [i1];constructor
        . rintro ⟨a,b,c⟩;exact ⟨a,by push_cast;omega,by omega⟩
        . rintro ⟨a,b,c⟩;exact ⟨a,by push_cast at b;omega,by omega⟩
      . rw [i2 h];push_cast;omega
theorem JV.mays_iff:∀(e:List JV) (d:Nat) (l:Int),0<=l->((JV.mays e d l).1=true↔JV.partsB e=true/\(JV.counts e:Int)<=l/\JV.depths e<=d)/\((JV.mays e d l).1=true->(JV.mays e d l).2=l - JV.counts e)
 | [],d,l,hl=>by simp [JV.mays,JV.partsB,JV.counts,JV.depths];omega
 | x :: r,d,l,hl=>by
  obtain ⟨a1,a2⟩:=JV.may_iff x d l hl;rw [JV.mays,JV.partsB,JV.counts,JV.depths];cases h:(JV.may x d l).1
  . rw [h] at a1;simp only [Bool.false_eq_true,zf1,false_iff,not_and,X3,false_implies,zb6] at a1 ⊢;intro hp hc;have:=a1 hp.1 (by push_cast at hc;omega);omega
  . rw [J8 rfl];have hb:=(JV.may_bd x d l hl).2.2 h;obtain ⟨c1,c2,c3⟩:=a1.1 h;have e2:=a2 h;obtain ⟨i1,i2⟩:=JV.mays_iff r d _ hb;rw [i1,e2];refine ⟨?_,fun hh=>?_⟩
    . rw [c1,Y1];constructor
      . rintro ⟨a,b,c⟩;exact ⟨a,by push_cast;omega,by omega⟩
      . rintro ⟨a,b,c⟩;exact ⟨a,by push_cast at b;omega,by omega⟩
    . have hh':(JV.mays r d (JV.may x d l).2).1=true:=by rw [e2];exact i1.2 (by rw [e2];exact hh) |> fun z=>by rwa [e2] at z
      have:=i2 hh';rw [e2] at this;rw [this];push_cast;omega
end
theorem JV.mayB_iff (v:JV):v.mayB=(v.partB && decide (v.count<=8192) && decide (v.depth<=12)):=by
 unfold JV.mayB;rw [za4,(JV.may_iff v 12 8192 (by omega)).1];simp only [X3,J6];constructor
 . rintro ⟨a,b,c⟩;exact ⟨⟨a,by omega⟩,c⟩
 . rintro ⟨⟨a,b⟩,c⟩;exact ⟨a,by omega,c⟩
def zv (n:Int):JV:=.mk 2 n ⟨#[]⟩ [] []
def aZ:ByteArray:=⟨#[118,101,114,115,105,111,110]⟩
def aX:ByteArray:=⟨#[95,116,121,112,101]⟩
def aJ:ByteArray:=⟨#[101,120,112,105,114,101,115]⟩
def cK:ByteArray:=⟨#[115,110,97,112,115,104,111,116]⟩
def cV:ByteArray:=⟨#[116,97,114,103,101,116,115]⟩
def qA (v:JV) (y:ByteArray) (lo hi:Int) (st:PS):Int × PS :=
 if st.err≠0 then (0,st) else match v.look y with
 | none=>(0,⟨st.asked,6⟩)
 | some it=>if it.kind≠2 then (0,⟨st.asked,10⟩) else if it.n<lo\/hi<it.n then (0,⟨st.asked,1⟩) else (it.n,⟨y :: st.asked,0⟩)
def qQ (v:JV) (y:ByteArray) (most:Nat) (st:PS):JV × PS :=
 if st.err≠0 then (zJ,st) else match v.look y with
 | none=>(zJ,⟨st.asked,6⟩)
 | some it=>if it.kind≠5 then (zJ,⟨st.asked,10⟩) else if most<it.items.length then (zJ,⟨st.asked,5⟩) else (it,⟨y :: st.asked,0⟩)
def q9 (v:JV) (y:ByteArray) (st:PS):Bool:=decide (st.err=0) && (v.look y).isSome
def PS.fail (st:PS) (e:Int):PS:=if st.err=0 then ⟨st.asked,e⟩ else st
abbrev NJ:=ByteArray × JV
theorem fY {b:ByteArray} (h:zg b.data.toList=true):b.size<=64:=by unfold zg at h;simp only [X3,J6] at h;have:=h.1.1.2;simpa using this
theorem pV (n:Int):(zv n).wt=1:=by simp [zv,JV.wt,JV.wts,qt,ByteArray.size]
def okN (N:List NJ):Prop:=qo (N.map (·.1))=true/\∀p ∈ N,qe p.1=true/\p.2.partB=true
def kx (N:List NJ):JV:=.mk 5 0 ⟨#[]⟩ (N.map (·.1)) (N.map (·.2))
theorem bg:∀l:List JV,(∀x ∈ l,x.partB=true)->JV.partsB l=true
 | [],_=>rfl
 | x :: r,h=>by rw [JV.partsB,h x (M3 ..),bg r fun y hy=>h y (G4 _ hy)];rfl
theorem yx {N:List NJ} (h:okN N):(kx N).partB=true:=by
 rw [JV.partB_eq];have b:qJ 5 0 ⟨#[]⟩ (N.map (·.1)) (N.map (·.2)).length=true:=by
  unfold qJ;rw [J3 (by decide),J3 (by decide),J3 (by decide),J3 (by decide),J8 rfl,h.1];have c:(⟨#[]⟩:ByteArray).toList=[]:=by rw [Y3]
  have d:(N.map (·.1)).all qe=true:=(by rw [K7];intro x hx;obtain ⟨p,a,rfl⟩:=za8.1 hx;exact (h.2 p a).1);rw [d];simp [c]
 show (qJ 5 0 ⟨#[]⟩ (N.map (·.1)) (N.map (·.2)).length && JV.partsB (N.map (·.2)))=true;rw [b,bg _ fun x hx=>by obtain ⟨p,a,rfl⟩:=za8.1 hx;exact (h.2 p a).2];rfl
theorem bf {t:ByteArray} (h:qe t=true):(txtJ t).partB=true:=by rw [JV.partB_eq];show (qJ 3 0 t [] 0 && JV.partsB [])=true;unfold qJ;rw [J3 (by decide),J3 (by decide),J8 rfl,h];rfl
theorem bh (n:Int):(zv n).partB=true:=by
 rw [JV.partB_eq];show (qJ 2 n ⟨#[]⟩ [] 0 && JV.partsB [])=true;unfold qJ;rw [J3 (by decide),J8 rfl];have a:(⟨#[]⟩:ByteArray).toList=[]:=by rw [Y3]
 simp [a,JV.partsB]
theorem counts_le (b:Nat):∀l:List JV,(∀x ∈ l,x.count<=b)->JV.counts l<=l.length * b
 | [],_=>by simp [JV.counts]
 | x :: r,h=>by have h1:=h x (M3 ..);have h2:=counts_le b r fun y hy=>h y (G4 _ hy);rw [JV.counts,N3,Nat.succ_mul];omega
theorem kF (b:Nat):∀l:List JV,(∀x ∈ l,x.depth<=b)->JV.depths l<=b
 | [],_=>by simp [JV.depths]
 | x :: r,h=>by have h1:=h x (M3 ..);have h2:=kF b r fun y hy=>h y (G4 _ hy);rw [JV.depths];omega
theorem fG {N:List NJ} (b:Nat) (h:∀p ∈ N,p.2.count<=b):(kx N).count<=1+N.length * b:=by
 rw [JV.count_eq];have:=counts_le b (N.map (·.2)) fun x hx=>by obtain ⟨p,a,rfl⟩:=za8.1 hx;exact h p a
 rw [X9] at this;show 1+JV.counts (N.map (·.2))<=_;omega
theorem vC {N:List NJ} (b:Nat) (h:∀p ∈ N,p.2.depth<=b):(kx N).depth<=b+1:=by
 rw [JV.depth_eq];have:=kF b (N.map (·.2)) fun x hx=>by obtain ⟨p,a,rfl⟩:=za8.1 hx;exact h p a
 rw [J3 (by simp [kx,JV.kind])];show JV.depths (N.map (·.2))+1<=_;omega
theorem cW (t:ByteArray):(txtJ t).count=1/\(txtJ t).depth=0:=by rw [JV.count_eq,JV.depth_eq];exact ⟨rfl,rfl⟩
theorem cY (n:Int):(zv n).count=1/\(zv n).depth=0:=by rw [JV.count_eq,JV.depth_eq];exact ⟨rfl,rfl⟩
theorem fB {v:JV} {y:ByteArray} {n lo hi:Int} {a:List ByteArray} (h:v.look y=some (zv n)) (b:lo<=n) (c:n<=hi):qA v y lo hi ⟨a,0⟩=(n,⟨y :: a,0⟩):=by unfold qA;rw [J3 (by simp),h];show (if (2:Int)≠2 then _ else if n<lo\/hi<n then _ else _)=_;rw [J3 (by decide),J3 (by omega)];rfl
theorem bO {v:JV} {y t:ByteArray} {a:List ByteArray} (h:v.look y=some (txtJ t)):qm v y ⟨a,0⟩=(t,⟨y :: a,0⟩):=by unfold qm;rw [J3 (by simp),h];show (if (3:Int)=3 then _ else _)=_;rw [J8 rfl];rfl
theorem b8 {k n:Int} {t:ByteArray} {b:List ByteArray} {a:Nat} (h:qJ k n t b a=true):(k=1/\a=0)\/(k=2/\a=0)\/(k=3/\qe t=true/\a=0)\/k=4\/(k=5/\b.length=a/\qo b=true/\b.all qe=true):=by
 unfold qJ at h;by_cases h1:k=1
 . rw [J8 h1] at h;simp at h;exact .inl ⟨h1,h.2.2.1⟩
 rw [J3 h1] at h;by_cases h2:k=2
 . rw [J8 h2] at h;simp at h;exact .inr (.inl ⟨h2,h.2.2⟩)
 rw [J3 h2] at h;by_cases h3:k=3
 . rw [J8 h3] at h;simp at h;exact .inr (.inr (.inl ⟨h3,h.2,h.1.2.2⟩))
 rw [J3 h3] at h;by_cases h4:k=4
 . exact .inr (.inr (.inr (.inl h4)))
 rw [J3 h4] at h;by_cases h5:k=5
 . rw [J8 h5] at h;simp only [X3,J6] at h;exact .inr (.inr (.inr (.inr ⟨h5,h.1.1.2.2,h.1.2,h.2⟩)))
 . rw [J3 h5] at h;cases h
def sep (first:Bool):List UInt8:=if first then [] else [44]
mutual
def JV.enc:JV->List UInt8
 | .mk k n t ns xs=>if k=1 then (if n=1 then [116,114,117,101] else [102,97,108,115,101]) else if k=2 then Lib.itoa n else if k=3 then xO t.data.toList
  else if k=4 then 91 :: (JV.encI true xs ++ [93]) else 123 :: (JV.encO true ns xs ++ [125])
def JV.encI:Bool->List JV->List UInt8
 | _,[]=>[]
 | f,x :: r=>sep f ++ (JV.enc x ++ JV.encI false r)
def JV.encO:Bool->List ByteArray->List JV->List UInt8
 | _,_,[]=>[]
 | _,[],_ :: _=>[]
 | f,s :: ns,x :: r=>sep f ++ (xO s.data.toList ++ (58 :: (JV.enc x ++ JV.encO false ns r)))
end
theorem JV.enc_eq (v:JV):v.enc=if v.kind=1 then (if v.n=1 then [116,114,117,101] else [102,97,108,115,101]) else if v.kind=2 then Lib.itoa v.n else if v.kind=3 then xO v.t.data.toList
 else if v.kind=4 then 91 :: (JV.encI true v.items ++ [93]) else 123 :: (JV.encO true v.names v.items ++ [125]):=by cases v;rw [JV.enc];rfl
theorem JV.encI_snoc:∀(l:List JV) (f:Bool) (x:JV),JV.encI f (l ++ [x])=JV.encI f l ++ (sep (f && l.isEmpty) ++ x.enc)
 | [],f,x=>by simp [JV.encI]
 | y :: r,f,x=>by simp [JV.encI,JV.encI_snoc r false x]
theorem JV.encO_snoc:∀(ns:List ByteArray) (l:List JV) (f:Bool) (s:ByteArray) (x:JV),ns.length=l.length->JV.encO f (ns ++ [s]) (l ++ [x])=JV.encO f ns l ++ (sep (f && l.isEmpty) ++ (xO s.data.toList ++ (58 :: x.enc)))
 | [],[],f,s,x,_=>by simp [JV.encO]
 | [],_ :: _,_,_,_,h=>by simp at h
 | _ :: _,[],_,_,_,h=>by simp at h
 | n :: ns,y :: r,f,s,x,h=>by simp [JV.encO,JV.encO_snoc ns r false s x (by simpa using h)]
def se (n:Int):Prop:=-9223372036854775808<=n/\n<=9223372036854775807
mutual
def JV.form (nm:Bool):JV->Prop
 | .mk k n t ns xs=>(k=1\/(k=2/\nm=true/\se n)\/(k=3/\qe t=true)\/k=4\/(k=5/\ns.length=xs.length/\∀i (h:i<ns.length),qe ns[i]=true))/\JV.forms nm xs
def JV.forms (nm:Bool):List JV->Prop
 | []=>True
 | x :: r=>JV.form nm x/\JV.forms nm r
end
theorem JV.form_eq {a:Bool} {v:JV} (h:v.form a):(v.kind=1\/(v.kind=2/\a=true/\se v.n)\/(v.kind=3/\qe v.t=true)\/v.kind=4\/(v.kind=5/\v.names.length=v.items.length/\∀i (h:i<v.names.length),qe v.names[i]=true))/\JV.forms a v.items:=by cases v;unfold JV.form at h;exact h
theorem JV.forms_get {nm:Bool}:∀(l:List JV) (i:Nat) (h:i<l.length),JV.forms nm l->JV.form nm l[i]
 | s :: r,0,_,h=>by unfold JV.forms at h;exact h.1
 | s :: r,i+1,hi,h=>by unfold JV.forms at h;exact JV.forms_get r i (by simpa using hi) h.2
mutual
theorem JV.form_of_may:∀(v:JV) (d:Nat) (l:Int),v.num->(v.may d l).1=true->v.form true
 | .mk k n t ns xs,d,l,hn,h=>by
  rw [JV.may] at h;unfold JV.num at hn;split at h
  . cases h
  split at h
  . cases h
  next h1 h2 =>
  have hp:=b8 (by simpa using h2);unfold JV.form;split at h
  . next h3 =>
    have hx:xs=[]:=by
     rcases hp with ⟨_,e⟩|⟨_,e⟩|⟨_,_,e⟩|e|⟨e,_⟩
     . exact Y8 e
     . exact Y8 e
     . exact Y8 e
     . exact absurd e h3.1
     . exact absurd e h3.2
    subst hx;refine ⟨?_,by unfold JV.forms;trivial⟩;rcases hp with ⟨e,_⟩|⟨e,_⟩|⟨e,e2,_⟩|e|⟨e,_⟩
    . exact .inl e
    . exact .inr (.inl ⟨e,rfl,hn.2.1⟩)
    . exact .inr (.inr (.inl ⟨e,e2⟩))
    . exact absurd e h3.1
    . exact absurd e h3.2
  . next h3 =>
    split at h
    . cases h
    . refine ⟨?_,JV.forms_of_mays xs _ _ hn.2.2 h⟩;rcases hp with ⟨e,_⟩|⟨e,_⟩|⟨e,e2,_⟩|e|⟨e,e2,_,e3⟩
      . exact .inl e
      . exact .inr (.inl ⟨e,rfl,hn.2.1⟩)
      . exact .inr (.inr (.inl ⟨e,e2⟩))
      . exact .inr (.inr (.inr (.inl e)))
      . exact .inr (.inr (.inr (.inr ⟨e,e2,fun i hi=>K7.1 e3 _ (X6 hi)⟩)))
theorem JV.forms_of_mays:∀(xs:List JV) (d:Nat) (l:Int),JV.nums xs->(JV.mays xs d l).1=true->JV.forms true xs
 | [],_,_,_,_=>by unfold JV.forms;trivial
 | x :: r,d,l,hn,h=>by
  rw [JV.mays] at h;unfold JV.nums at hn;unfold JV.forms;split at h
  . next h1=>exact ⟨JV.form_of_may x d l hn.1 h1,JV.forms_of_mays r _ _ hn.2 h⟩
  . cases h
end
theorem jO (s:ByteArray):(xO s.data.toList).length<=2 * s.size+2:=by have:=wB s.data.toList;rw [qp] at this;unfold xO;simp;omega
theorem fP (f:Bool):(sep f).length<=1:=by cases f <;> simp [sep]
mutual
theorem JV.enc_length:∀(v:JV),v.form true->v.enc.length+4<=30 * v.wt
 | .mk k n t ns xs,h=>by
  unfold JV.form at h;rw [JV.enc,JV.wt];have h1:=JV.encI_length xs true h.2;have h2:=JV.encO_length ns xs true h.2;split
  . split <;> simp <;> omega
  split
  . next e1 e2 =>
    rcases h.1 with e|⟨_,_,e⟩|⟨e,_⟩|e|⟨e,_⟩ <;> first|omega|skip
    have:=Lib.itoa_length_le n e.1 e.2;omega
  split
  . have:=jO t;omega
  split
  . simp;omega
  . simp;omega
theorem JV.encI_length:∀(a:List JV) (f:Bool),JV.forms true a->(JV.encI f a).length<=30 * JV.wts a
 | [],f,_=>by simp [JV.encI]
 | x :: r,f,h=>by unfold JV.forms at h;have h1:=JV.enc_length x h.1;have h2:=JV.encI_length r false h.2;have h3:=fP f;simp [JV.encI,JV.wts];omega
theorem JV.encO_length:∀(ns:List ByteArray) (a:List JV) (f:Bool),JV.forms true a->(JV.encO f ns a).length<=30 * qt ns+30 * JV.wts a
 | ns,[],f,_=>by simp [JV.encO]
 | [],x :: r,f,_=>by simp [JV.encO]
 | s :: ns,x :: r,f,h=>by unfold JV.forms at h;have h1:=JV.enc_length x h.1;have h2:=JV.encO_length ns r false h.2;have h3:=fP f;have h4:=jO s;simp [JV.encO,JV.wts,qt];omega
end
mutual
theorem JV.form_true {nm:Bool}:∀(v:JV),v.form nm->v.form true
 | .mk k n t ns xs,h=>by
  unfold JV.form at h ⊢;refine ⟨?_,JV.forms_true xs h.2⟩;rcases h.1 with e|⟨e,_,e2⟩|e|e|e
  . exact .inl e
  . exact .inr (.inl ⟨e,rfl,e2⟩)
  . exact .inr (.inr (.inl e))
  . exact .inr (.inr (.inr (.inl e)))
  . exact .inr (.inr (.inr (.inr e)))
theorem JV.forms_true {nm:Bool}:∀(xs:List JV),JV.forms nm xs->JV.forms true xs
 | [],_=>by unfold JV.forms;trivial
 | x :: r,h=>by unfold JV.forms at h ⊢;exact ⟨JV.form_true x h.1,JV.forms_true r h.2⟩
end
theorem JV.forms_take {nm:Bool}:∀(l:List JV) (k:Nat),JV.forms nm l->JV.forms nm (l.take k)
 | [],k,_=>by simp [JV.forms]
 | x :: r,0,_=>by simp [JV.forms]
 | x :: r,k+1,h=>by unfold JV.forms at h;simp only [G7];unfold JV.forms;exact ⟨h.1,JV.forms_take r k h.2⟩
theorem JV.wts_snoc (l:List JV) (k:Nat) (h:k<l.length):JV.wts (l.take k)+JV.wt l[k]<=JV.wts l:=by
 induction l generalizing k with
 | nil=>simp at h
 | cons x r ih =>
  cases k with
  | zero=>simp [JV.wts]
  | succ k=>have:=ih k (by simpa using h);simp [JV.wts];omega
theorem uZ (l:List ByteArray) (k:Nat) (h:k<l.length):qt (l.take k)+l[k].size+1<=qt l:=by
 induction l generalizing k with
 | nil=>simp at h
 | cons x r ih =>
  cases k with
  | zero=>simp [qt]
  | succ k=>have:=ih k (by simpa using h);simp [qt];omega
theorem JV.encI_take (l:List JV) (k:Nat) (h:k<l.length):JV.encI true (l.take (k+1))=JV.encI true (l.take k) ++ (sep (decide (k=0)) ++ l[k].enc):=by
 rw [J7 h,JV.encI_snoc];congr 3;cases k with
 | zero=>simp
 | succ k=>cases l with
  | nil=>simp at h
  | cons x r=>simp
theorem JV.encO_take (a:List ByteArray) (l:List JV) (k:Nat) (h:k<l.length) (b:k<a.length):JV.encO true (a.take (k+1)) (l.take (k+1))=JV.encO true (a.take k) (l.take k) ++ (sep (decide (k=0)) ++ (xO a[k].data.toList ++ (58 :: l[k].enc))):=by
 rw [J7 h,J7 b,JV.encO_snoc _ _ _ _ _ (by simp;omega)];congr 3;cases k with
 | zero=>simp
 | succ k=>cases l with
  | nil=>simp at h
  | cons x r=>simp
open Go.Shelf Go.Sort
def qK (ms:List Mem):List Value:=ms.flatMap qW
theorem mz (ms:List Mem) (i c:Nat) (hi:i<ms.length) (a:c<6):(qK ms)[i * 6+c]?=some ((qW ms[i])[c]'(by rw [zD];exact a)):=by
 induction ms generalizing i with
 | nil=>simp at hi
 | cons v r ih =>
  unfold qK;rw [List.flatMap_cons];rcases i with _|i
  . rw [H9 (by rw [zD];omega)];simp
  . rw [G1 (by rw [zD];omega),zD];have:=ih i (by simpa using hi);rw [show (i+1) * 6+c - 6=i * 6+c by omega];simpa [qK] using this
structure MemsAt (W0:Nat) (w:World) (v:Value) (ms:List Mem) (its:List JV):Prop where
 own:w.ownsRow W0 169 6 v ms.length (qK ms)
 len:its.length=ms.length
 reps:∀i (h:i<its.length),∃lo hi,W0<=lo/\hi<=w.heap.size/\(∀b,v.ownBlock=some b->¬(lo<=b/\b<hi))/\Rep w lo hi its[i] (ms[i]'(by omega)).val
theorem MemsAt.below {d:Nat} {w w':World} {v:Value} {ms:List Mem} {a:List JV} (h:MemsAt d w v ms a) (c:O5 w w'):MemsAt d w' v ms a :=
 ⟨qM h.own c,h.len,fun i hi=>by
  obtain ⟨lo,hi',h1,h2,h3,hr⟩:=h.reps i hi;exact ⟨lo,hi',h1,J1 h2 c.size,h3,Rep.carry lz lz (fun b _ h=>c.block b (by omega)) _ _ hr⟩⟩
theorem MemsAt.snoc {s:Nat} {w w':World} {v v':Value} {ms:List Mem} {q:List JV} (h:MemsAt s w v ms q) (m:Mem) (it:JV) (lo hi:Nat) (C:s<=lo) (u:hi<=w.heap.size) (B:∀b,v.ownBlock=some b->¬(lo<=b/\b<hi)) (A:Rep w lo hi it m.val)
 (z:w.grownBy w' v.ownBlock) (r:w'.ownsRow s 169 6 v' (ms.length+1) (qK ms ++ qW m)) (y:v'.ownBlock=v.ownBlock\/∃g,v'.ownBlock=some g/\w.heap.size<=g):MemsAt s w' v' (ms ++ [m]) (q ++ [it]):=by
 have k:∀ {lo hi:Nat},hi<=w.heap.size->(∀b,v.ownBlock=some b->¬(lo<=b/\b<hi))->∀b,v'.ownBlock=some b->¬(lo<=b/\b<hi):=fun hz hn b hb=>by
  rcases y with e|⟨g,e,hge⟩
  . exact hn b (by rw [<- e];exact hb)
  . rw [e] at hb;simp at hb;omega
 have j:∀ {lo hi:Nat} {it:JV} {x:Value},hi<=w.heap.size->(∀b,v.ownBlock=some b->¬(lo<=b/\b<hi))->Rep w lo hi it x->Rep w' lo hi it x:=fun hz hn A =>
  Rep.carry lz lz (fun b hb1 hb2=>z.block b (by omega) (fun e=>hn b e.symm ⟨hb1,hb2⟩)) _ _ A
 have o:=h.len;refine ⟨?_,by simp [o],fun i hi'=>?_⟩
 . have e:qK (ms ++ [m])=qK ms ++ qW m:=by simp [qK]
   rw [e,G6];exact r
 . by_cases e:i<q.length
   . obtain ⟨f,a,p,d,l,c⟩:=h.reps i e;refine ⟨f,a,p,J1 d z.size,k d l,?_⟩;rw [G9 e,G9 (by omega)];exact j d l c
   . obtain rfl:i=q.length:=by simp at hi';omega
     refine ⟨lo,hi,C,J1 u z.size,k u B,?_⟩;rw [N0 (by omega),N0 (by omega)];simpa using j u B A
theorem MemsAt.one {d:Nat} {w:World} {c:Nat} (m:Mem) (it:JV) (lo hi:Nat) (f:d<=c) (g:d<=lo) (j:hi<=c) (h:Rep w lo hi it m.val) (e:w.heap[c]?=some (.cells (qW m).toArray 169 (0,0))):MemsAt d w (.slice (some ⟨c,0,none⟩) 1 1) [m] [it]:=by
 have a:=qx e;refine ⟨⟨rfl,.inr ⟨c,1,_,rfl,f,e,J9 _,by unfold maxLen;omega,rfl,?_⟩⟩,rfl,fun i hi'=>?_⟩
 . simp [qK,qW]
 . obtain rfl:i=0:=by simp at hi';omega
   exact ⟨lo,hi,g,by omega,fun b a=>by simp [Value.ownBlock] at a;omega,h⟩
theorem aK {h:Nat} {w:World} {v:Value} {ms:List Mem} (f:w.ownsRow h 169 6 v ms.length (qK ms)) (i:0<ms.length):∃g cap,v=.slice (some ⟨g,0,none⟩) ms.length cap/\g<w.heap.size/\HoldsK qW 6 w g 0 ms.toArray:=by
 rcases f.2 with ⟨rfl,h00⟩|⟨g,cap,cur,rfl,hg,hh,hc,hm,hs,ht⟩
 . omega
 . refine ⟨g,cap,rfl,qx hh,fun j hj=>⟨?_,by simp [World.frozen?,hh]⟩⟩;have a:j<ms.length * 6:=by simpa using hj
   have e:(⟨g,0,none⟩:Addr).add j=⟨g,j,none⟩:=by unfold Addr.add;split <;> simp_all
   have b:=mz ms (j / 6) (j % 6) (by omega) (by omega);rw [show j / 6 * 6+j % 6=j by omega] at b;have:=f.cells (g:=g) rfl j _ b;rw [e] at this;rw [ze8,this,get_flatK qW 6 ms.toArray j (by simpa using a)];have c:j % 6<(qW (ms[j / 6]'(by omega))).length:=by rw [zD];omega
   have d:ms.toArray[j / 6]! = ms[j / 6]'(by omega):=by rw [getElem!_pos _ _ (by simp;omega)];simp
   rw [d,getElem!_pos (qW (ms[j / 6]'(by omega))) (j % 6) c];rfl
theorem pW (w:World) (lo hi:Nat) (n:Int):Rep w lo hi (zv n) (.agg #[.int .u8 2,.int .i64 n,.string ⟨#[]⟩,.slice none 0 0,.slice none 0 0]):=by unfold zv Rep;exact ⟨none,0,none,0,rfl,J9 _,J9 _,.inl rfl,.inl rfl⟩
def z6 (nm:ByteArray) (n:Int):Mem:=⟨nm,2,n,⟨#[]⟩,none,0,0,none,0,0⟩
theorem mx {α:Type} (enc:α->List Value) (a:Nat) (b:∀x,(enc x).length=a):∀(l:List α) (i c:Nat) (hi:i<l.length) (d:c<a),(l.flatMap enc)[i * a+c]?=some ((enc l[i])[c]'(by rw [b];exact d))
 | [],i,c,hi,_=>by simp at hi
 | v :: r,i,c,hi,d=>by
  rw [List.flatMap_cons];rcases i with _|i
  . rw [H9 (by rw [b];omega)];simp
  . have e:(i+1) * a+c=a+(i * a+c):=by rw [Nat.add_mul];omega
    rw [G1 (by rw [b,e];omega),b,e,Nat.add_sub_cancel_left];simpa using mx enc a b r i c (by simpa using hi) d
def bu {α:Type} (P:World->Nat->Nat->α->Prop):Prop:=∀(w w':World) (lo hi:Nat) (q:α),(∀b,lo<=b->b<hi->w'.heap[b]?=w.heap[b]?)->P w lo hi q->P w' lo hi q
structure ItemsOwn {α:Type} (T sz B:Nat) (enc:α->List Value) (P:World->Nat->Nat->α->Prop) (w:World) (vs:Value) (qs:List α):Prop where
 own:w.ownsRow B T sz vs qs.length (qs.flatMap enc)
 each:∀q ∈ qs,∃lo hi,B<=lo/\hi<=w.heap.size/\(∀b,vs.ownBlock=some b->¬(lo<=b/\b<hi))/\P w lo hi q
theorem ItemsOwn.nil {α:Type} (T a B:Nat) (enc:α->List Value) (P:World->Nat->Nat->α->Prop) (w:World):ItemsOwn T a B enc P w (.slice none 0 0) []:=⟨W8 _ _ _ _,by simp⟩
theorem aV {S:Nat->Prop} {B T a n:Nat} {w w':World} {v:Value} {cs:List Value} (h:w.ownsRow B T a v n cs) (d:Touch S w w') (c:∀k,B<=k->¬S k):w'.ownsRow B T a v n cs:=by refine zc h fun b hb=>?_;have:=h.lt b hb;exact d.block b this.2 (c b this.1)
theorem ItemsOwn.touch {α:Type} {T e B:Nat} {enc:α->List Value} {P:World->Nat->Nat->α->Prop} (g:bu P) {S:Nat->Prop} {w w':World} {f:Value} {d:List α} (h:ItemsOwn T e B enc P w f d) (a:Touch S w w') (c:∀k,B<=k->¬S k):ItemsOwn T e B enc P w' f d :=
 ⟨aV h.own a c,fun q hq=>by
  obtain ⟨lo,hi,h1,h2,h3,hk⟩:=h.each q hq;exact ⟨lo,hi,h1,J1 h2 a.size,h3,g _ _ _ _ _ (fun b b1 b2=>a.block b (by omega) (c b (by omega))) hk⟩⟩
theorem ItemsOwn.below {α:Type} {T b B:Nat} {enc:α->List Value} {P:World->Nat->Nat->α->Prop} (d:bu P) {w w':World} {c:Value} {a:List α} (h:ItemsOwn T b B enc P w c a) (e:O5 w w'):ItemsOwn T b B enc P w' c a :=
 h.touch d (Touch.of_below (S:=fun _=>False) e lz) (fun _ _ h=>h)
theorem aW {B a T b n:Nat} {w:World} {v:Value} {cs:List Value} (h:w.ownsRow B T b v n cs) (c:a<=B):w.ownsRow a T b v n cs:=by
 refine ⟨h.1,?_⟩;rcases h.2 with h2|⟨g,cap,cur,hv,hg,r⟩
 . exact .inl h2
 . exact .inr ⟨g,cap,cur,hv,J1 c hg,r⟩
theorem ItemsOwn.mono {α:Type} {T d B a:Nat} {enc:α->List Value} {P:World->Nat->Nat->α->Prop} {w:World} {e:Value} {c:List α} (h:ItemsOwn T d B enc P w e c) (b:a<=B):ItemsOwn T d a enc P w e c :=
 ⟨aW h.own b,fun q hq=>by
  obtain ⟨lo,hi,h1,h2⟩:=h.each q hq;exact ⟨lo,hi,J1 b h1,h2⟩⟩
theorem ItemsOwn.snoc {α:Type} {T u B:Nat} {enc:α->List Value} {P:World->Nat->Nat->α->Prop} (A:bu P) {w w':World} {v v':Value} {m:List α} (h:ItemsOwn T u B enc P w v m) (q:α) (lo hi:Nat) (z:B<=lo) (o:hi<=w.heap.size) (y:∀b,v.ownBlock=some b->¬(lo<=b/\b<hi)) (C:P w lo hi q)
 (s:w.grownBy w' v.ownBlock) (hown:w'.ownsRow B T u v' (m.length+1) (m.flatMap enc ++ enc q)) (r:v'.ownBlock=v.ownBlock\/∃g,v'.ownBlock=some g/\w.heap.size<=g):ItemsOwn T u B enc P w' v' (m ++ [q]):=by
 have j:∀ {lo hi:Nat},hi<=w.heap.size->(∀b,v.ownBlock=some b->¬(lo<=b/\b<hi))->∀b,v'.ownBlock=some b->¬(lo<=b/\b<hi):=fun hz hn b hb=>by
  rcases r with e|⟨g,e,hge⟩
  . exact hn b (by rw [<- e];exact hb)
  . rw [e] at hb;simp at hb;omega
 have a:∀ {lo hi:Nat} {x:α},hi<=w.heap.size->(∀b,v.ownBlock=some b->¬(lo<=b/\b<hi))->P w lo hi x->P w' lo hi x:=fun hz hn hr =>
  A _ _ _ _ _ (fun b hb1 hb2=>s.block b (by omega) (fun e=>hn b e.symm ⟨hb1,hb2⟩)) hr
 refine ⟨?_,fun p hp=>?_⟩
 . rw [G6,List.flatMap_append];simpa using hown
 . rcases za5.1 hp with hp|hp
   . obtain ⟨i,c,l,f,k,d⟩:=h.each p hp;exact ⟨i,c,l,J1 f s.size,j f k,a f k d⟩
   . obtain rfl:p=q:=by simpa using hp
     exact ⟨lo,hi,z,J1 o s.size,j o y,a o y C⟩
theorem ItemsOwn.cells {α:Type} {T d B:Nat} {enc:α->List Value} {P:World->Nat->Nat->α->Prop} (k:∀x,(enc x).length=d) {w:World} {a:Option Addr} {n c:Nat} {f:List α} (h:ItemsOwn T d B enc P w (.slice a n c) f) :
 n=f.length/\n<=c/\(f=[]\/∃g,a=some ⟨g,0,none⟩/\B<=g/\g<w.heap.size/\(∀o,w.frozen? ⟨g,o,none⟩=false)/\∀i (hi:i<f.length) q (j:q<d),w.cell? ⟨g,i * d+q,none⟩=some ((enc f[i])[q]'(by rw [k];exact j))):=by
 have b:=h.own;rcases h.own.2 with ⟨hv,h0⟩|⟨g,cap,cur,hv,hg,hh,hc,hm,hs,ht⟩
 . simp only [K6] at hv;exact ⟨by omega,by omega,.inl (Y8 h0)⟩
 . simp only [K6] at hv;obtain ⟨rfl,rfl,rfl⟩:=hv;refine ⟨rfl,hc,.inr ⟨g,rfl,hg,qx hh,fun o=>by simp [World.frozen?,hh],fun i hi2 q j=>?_⟩⟩;have e:(⟨g,0,none⟩:Addr).add (i * d+q)=⟨g,i * d+q,none⟩:=by unfold Addr.add;split <;> simp_all
   have:=b.cells (g:=g) rfl _ _ (mx enc d k f i q hi2 j);rw [e] at this;exact this
theorem sQ {v:JV} (h:v.mayB=true) (a:v.kind=5):qo v.names=true/\v.names.length=v.items.length/\v.names.all qe=true:=by
 unfold JV.mayB at h;rw [JV.may_eq] at h;split at h
 . cases h
 split at h
 . cases h
 next h2 =>
 rcases b8 (by simpa using h2) with ⟨e,_⟩|⟨e,_⟩|⟨e,_⟩|e|⟨_,e1,e2,e3⟩ <;> first|omega|exact ⟨e2,e1,e3⟩
theorem mv {v:JV} {y:ByteArray} {st:PS} (d:v.wt<=4294967296):(qm v y st).1.size<=4294967296/\(qm v y st).2.asked.length<=st.asked.length+1:=by
 unfold qm;split
 . exact ⟨by show 0<=_;omega,by simp⟩
 split
 . exact ⟨by show 0<=_;omega,by simp⟩
 . next it hit =>
   split
   . refine ⟨?_,by simp⟩;have:∀(ns:List ByteArray) (xs:List JV),qE ns xs y=some it->it.wt<=JV.wts xs:=by
      intro ns
      induction ns with
      | nil=>intro xs h;simp [qE] at h
      | cons n ns ih =>
       intro xs h;cases xs with
       | nil=>simp [qE] at h
       | cons x xs =>
        rw [qE] at h;split at h
        . cases h;simp [JV.wts]
        . have:=ih xs h;simp [JV.wts];omega
     have a:=this _ _ hit;have b:=it.wt_bd;have c:=v.wt_bd;show it.t.size<=_;omega
   . exact ⟨by show 0<=_;omega,by simp⟩
