import Derived.Test.YthgembbgcbaghaaGreatDoorDn16
import Derived.Test.YthgembbgcbaghaaGreatDoorDn15
import Derived.Test.YthgembbgcbaghaaGreatDoorDn13
import Derived.Lib.ItoaLen

namespace Go.Proofs.YthgembbgcbaghaaGreatDoor
open Go.RowKit
mutual
def JV.partB:JV->Bool
 | .mk k n t ns xs=>qP k n t ns xs.length && JV.partsB xs
def JV.partsB:List JV->Bool
 | []=>true
 | x :: r=>JV.partB x && JV.partsB r
end
mutual
def JV.depth:JV->Nat
 | .mk k _ _ _ xs=>if k≠4/\k≠5 then 0 else JV.depths xs+1
def JV.depths:List JV->Nat
 | []=>0
 | x :: r=>max (JV.depth x) (JV.depths r)
end
theorem JV.partB_eq (v:JV):v.partB=(qP v.kind v.n v.t v.names v.items.length && JV.partsB v.items):=by cases v;rw [JV.partB];rfl
theorem JV.depth_eq (v:JV):v.depth=if v.kind≠4/\v.kind≠5 then 0 else JV.depths v.items+1:=by cases v;rw [JV.depth];rfl
theorem JV.count_eq (v:JV):v.count=1+JV.counts v.items:=by cases v;rw [JV.count];rfl
theorem JV.partsB_bad (l:List JV) (k:Nat) (h:k<l.length) (hb:JV.partB l[k]=false):JV.partsB l=false:=by
 induction l generalizing k with
 | nil=>simp at h
 | cons x r ih =>
  cases k with
  | zero=>simp only [List.getElem_cons_zero] at hb;rw [JV.partsB,hb];rfl
  | succ k=>rw [JV.partsB,ih k (by simpa using h) (by simpa using hb),Bool.and_false]
mutual
theorem JV.depth_le:∀v:JV,v.depth<=v.wt
 | .mk k _ _ _ xs=>by have:=JV.depths_le xs;rw [JV.depth,JV.wt];split <;> omega
theorem JV.depths_le:∀l:List JV,JV.depths l<=JV.wts l
 | []=>by simp [JV.depths]
 | x :: r=>by have:=JV.depth_le x;have:=JV.depths_le r;rw [JV.depths,JV.wts];omega
end
theorem JV.proper_leaf {v:JV} (h:qP v.kind v.n v.t v.names v.items.length=true) (a:v.kind≠4) (b:v.kind≠5):v.items=[]:=by
 unfold qP at h;split at h
 . simp at h;exact h.2.2.1
 split at h
 . simp at h;exact h.2.2
 split at h
 . simp at h;exact h.1.2.2
 . first|(cases h;done)|(rw [Z6 a,Z6 b] at h;cases h)
mutual
theorem JV.may_iff:∀(v:JV) (d:Nat) (l:Int),0<=l->((v.may d l).1=true↔v.partB=true/\(v.count:Int)<=l/\v.depth<=d)/\((v.may d l).1=true->(v.may d l).2=l - v.count)
 | .mk k n t ns xs,d,l,hl=>by
  rw [JV.may,JV.partB,JV.count,JV.depth];by_cases h0:l - 1<0
  . rw [Q1 h0];simp;omega
  rw [Z6 h0];cases hp:qP k n t ns xs.length
  . simp
  simp only [Bool.true_eq_false,if_false,X2];by_cases hk:k≠4/\k≠5
  . have hx:xs=[]:=JV.proper_leaf (v:=.mk k n t ns xs) hp hk.1 hk.2;subst hx;rw [Q1 hk,Q1 hk];simp [JV.partsB,JV.counts];omega
  . rw [Z6 hk,Z6 hk];by_cases hd:d=0
    . rw [Q1 hd];simp;omega
    . rw [Z6 hd];obtain ⟨i1,i2⟩:=JV.mays_iff xs (d - 1) (l - 1) (by omega);refine ⟨?_,fun h=>?_⟩
      . rw [i1];constructor
        . rintro ⟨a,b,c⟩;exact ⟨a,by push_cast;omega,by omega⟩
        . rintro ⟨a,b,c⟩;exact ⟨a,by push_cast at b;omega,by omega⟩
      . rw [i2 h];push_cast;omega
theorem JV.mays_iff:∀(e:List JV) (d:Nat) (l:Int),0<=l->((JV.mays e d l).1=true↔JV.partsB e=true/\(JV.counts e:Int)<=l/\JV.depths e<=d)/\((JV.mays e d l).1=true->(JV.mays e d l).2=l - JV.counts e)
 | [],d,l,hl=>by simp [JV.mays,JV.partsB,JV.counts,JV.depths];omega
 | x :: r,d,l,hl=>by
  obtain ⟨a1,a2⟩:=JV.may_iff x d l hl;rw [JV.mays,JV.partsB,JV.counts,JV.depths];cases h:(JV.may x d l).1
  . rw [h] at a1;simp only [Bool.false_eq_true,if_false,false_iff,not_and,Q0,false_implies,N7] at a1 ⊢;intro hp hc;have:=a1 hp.1 (by push_cast at hc;omega);omega
  . rw [Q1 rfl];have hb:=(JV.may_bd x d l hl).2.2 h;obtain ⟨c1,c2,c3⟩:=a1.1 h;have e2:=a2 h;obtain ⟨i1,i2⟩:=JV.mays_iff r d _ hb;rw [i1,e2];refine ⟨?_,fun hh=>?_⟩
    . rw [c1,X2];constructor
      . rintro ⟨a,b,c⟩;exact ⟨a,by push_cast;omega,by omega⟩
      . rintro ⟨a,b,c⟩;exact ⟨a,by push_cast at b;omega,by omega⟩
    . have hh':(JV.mays r d (JV.may x d l).2).1=true:=by rw [e2];exact i1.2 (by rw [e2];exact hh) |> fun z=>by rwa [e2] at z
      have:=i2 hh';rw [e2] at this;rw [this];push_cast;omega
end
theorem JV.mayB_iff (v:JV):v.mayB=(v.partB && decide (v.count<=8192) && decide (v.depth<=12)):=by
 unfold JV.mayB;rw [M7,(JV.may_iff v 12 8192 (by omega)).1];simp only [Q0,Z7];constructor
 . rintro ⟨a,b,c⟩;exact ⟨⟨a,by omega⟩,c⟩
 . rintro ⟨⟨a,b⟩,c⟩;exact ⟨a,by omega,c⟩
def qZ (n:Int):JV:=.mk 2 n ⟨#[]⟩ [] []
def d8:ByteArray:=⟨#[118,101,114,115,105,111,110]⟩
def d9:ByteArray:=⟨#[95,116,121,112,101]⟩
def lx:ByteArray:=⟨#[101,120,112,105,114,101,115]⟩
def rE:ByteArray:=⟨#[115,110,97,112,115,104,111,116]⟩
def lj:ByteArray:=⟨#[116,97,114,103,101,116,115]⟩
def qR (v:JV) (y:ByteArray) (lo hi:Int) (st:PS):Int × PS :=
 if st.err≠0 then (0,st) else match v.look y with
 | none=>(0,⟨st.asked,6⟩)
 | some it=>if it.kind≠2 then (0,⟨st.asked,10⟩) else if it.n<lo\/hi<it.n then (0,⟨st.asked,1⟩) else (it.n,⟨y :: st.asked,0⟩)
def qi (v:JV) (y:ByteArray) (most:Nat) (st:PS):JV × PS :=
 if st.err≠0 then (qF,st) else match v.look y with
 | none=>(qF,⟨st.asked,6⟩)
 | some it=>if it.kind≠5 then (qF,⟨st.asked,10⟩) else if most<it.items.length then (qF,⟨st.asked,5⟩) else (it,⟨y :: st.asked,0⟩)
def zq (v:JV) (y:ByteArray) (st:PS):Bool:=decide (st.err=0) && (v.look y).isSome
def PS.fail (st:PS) (e:Int):PS:=if st.err=0 then ⟨st.asked,e⟩ else st
abbrev NJ:=ByteArray × JV
theorem g8 {b:ByteArray} (h:zl b.data.toList=true):b.size<=64:=by unfold zl at h;simp only [Q0,Z7] at h;have:=h.1.1.2;simpa using this
theorem gn (n:Int):(qZ n).wt=1:=by simp [qZ,JV.wt,JV.wts,ql,ByteArray.size]
def okN (N:List NJ):Prop:=qK (N.map (·.1))=true/\∀p ∈ N,qW p.1=true/\p.2.partB=true
def z7 (N:List NJ):JV:=.mk 5 0 ⟨#[]⟩ (N.map (·.1)) (N.map (·.2))
theorem yX:∀l:List JV,(∀x ∈ l,x.partB=true)->JV.partsB l=true
 | [],_=>rfl
 | x :: r,h=>by rw [JV.partsB,h x (V7 ..),yX r fun y hy=>h y (Y4 _ hy)];rfl
theorem vU {N:List NJ} (h:okN N):(z7 N).partB=true:=by
 rw [JV.partB_eq];have b:qP 5 0 ⟨#[]⟩ (N.map (·.1)) (N.map (·.2)).length=true:=by
  unfold qP;rw [Z6 (by decide),Z6 (by decide),Z6 (by decide),Z6 (by decide),Q1 rfl,h.1];have c:(⟨#[]⟩:ByteArray).toList=[]:=by rw [J3]
  have d:(N.map (·.1)).all qW=true:=(by rw [X3];intro x hx;obtain ⟨p,a,rfl⟩:=V8.1 hx;exact (h.2 p a).1);rw [d];simp [c]
 show (qP 5 0 ⟨#[]⟩ (N.map (·.1)) (N.map (·.2)).length && JV.partsB (N.map (·.2)))=true;rw [b,yX _ fun x hx=>by obtain ⟨p,a,rfl⟩:=V8.1 hx;exact (h.2 p a).2];rfl
theorem yJ {t:ByteArray} (h:qW t=true):(txtJ t).partB=true:=by rw [JV.partB_eq];show (qP 3 0 t [] 0 && JV.partsB [])=true;unfold qP;rw [Z6 (by decide),Z6 (by decide),Q1 rfl,h];rfl
theorem yK (n:Int):(qZ n).partB=true:=by
 rw [JV.partB_eq];show (qP 2 n ⟨#[]⟩ [] 0 && JV.partsB [])=true;unfold qP;rw [Z6 (by decide),Q1 rfl];have a:(⟨#[]⟩:ByteArray).toList=[]:=by rw [J3]
 simp [a,JV.partsB]
theorem counts_le (b:Nat):∀l:List JV,(∀x ∈ l,x.count<=b)->JV.counts l<=l.length * b
 | [],_=>by simp [JV.counts]
 | x :: r,h=>by have h1:=h x (V7 ..);have h2:=counts_le b r fun y hy=>h y (Y4 _ hy);rw [JV.counts,G6,Nat.succ_mul];omega
theorem jL (b:Nat):∀l:List JV,(∀x ∈ l,x.depth<=b)->JV.depths l<=b
 | [],_=>by simp [JV.depths]
 | x :: r,h=>by have h1:=h x (V7 ..);have h2:=jL b r fun y hy=>h y (Y4 _ hy);rw [JV.depths];omega
theorem g9 {N:List NJ} (b:Nat) (h:∀p ∈ N,p.2.count<=b):(z7 N).count<=1+N.length * b:=by
 rw [JV.count_eq];have:=counts_le b (N.map (·.2)) fun x hx=>by obtain ⟨p,a,rfl⟩:=V8.1 hx;exact h p a
 rw [J6] at this;show 1+JV.counts (N.map (·.2))<=_;omega
theorem kD {N:List NJ} (b:Nat) (h:∀p ∈ N,p.2.depth<=b):(z7 N).depth<=b+1:=by
 rw [JV.depth_eq];have:=jL b (N.map (·.2)) fun x hx=>by obtain ⟨p,a,rfl⟩:=V8.1 hx;exact h p a
 rw [Z6 (by simp [z7,JV.kind])];show JV.depths (N.map (·.2))+1<=_;omega
theorem fB (t:ByteArray):(txtJ t).count=1/\(txtJ t).depth=0:=by rw [JV.count_eq,JV.depth_eq];exact ⟨rfl,rfl⟩
theorem fP (n:Int):(qZ n).count=1/\(qZ n).depth=0:=by rw [JV.count_eq,JV.depth_eq];exact ⟨rfl,rfl⟩
theorem bz {v:JV} {y:ByteArray} {n lo hi:Int} {a:List ByteArray} (h:v.look y=some (qZ n)) (b:lo<=n) (c:n<=hi):qR v y lo hi ⟨a,0⟩=(n,⟨y :: a,0⟩):=by unfold qR;rw [Z6 (by simp),h];show (if (2:Int)≠2 then _ else if n<lo\/hi<n then _ else _)=_;rw [Z6 (by decide),Z6 (by omega)];rfl
theorem y8 {v:JV} {y t:ByteArray} {a:List ByteArray} (h:v.look y=some (txtJ t)):qh v y ⟨a,0⟩=(t,⟨y :: a,0⟩):=by unfold qh;rw [Z6 (by simp),h];show (if (3:Int)=3 then _ else _)=_;rw [Q1 rfl];rfl
theorem y9 {k n:Int} {t:ByteArray} {b:List ByteArray} {a:Nat} (h:qP k n t b a=true):(k=1/\a=0)\/(k=2/\a=0)\/(k=3/\qW t=true/\a=0)\/k=4\/(k=5/\b.length=a/\qK b=true/\b.all qW=true):=by
 unfold qP at h;by_cases h1:k=1
 . rw [Q1 h1] at h;simp at h;exact .inl ⟨h1,h.2.2.1⟩
 rw [Z6 h1] at h;by_cases h2:k=2
 . rw [Q1 h2] at h;simp at h;exact .inr (.inl ⟨h2,h.2.2⟩)
 rw [Z6 h2] at h;by_cases h3:k=3
 . rw [Q1 h3] at h;simp at h;exact .inr (.inr (.inl ⟨h3,h.2,h.1.2.2⟩))
 rw [Z6 h3] at h;by_cases h4:k=4
 . exact .inr (.inr (.inr (.inl h4)))
 rw [Z6 h4] at h;by_cases h5:k=5
 . rw [Q1 h5] at h;simp only [Q0,Z7] at h;exact .inr (.inr (.inr (.inr ⟨h5,h.1.1.2.2,h.1.2,h.2⟩)))
 . rw [Z6 h5] at h;cases h
def sep (first:Bool):List UInt8:=if first then [] else [44]
mutual
def JV.enc:JV->List UInt8
 | .mk k n t ns xs=>if k=1 then (if n=1 then [116,114,117,101] else [102,97,108,115,101]) else if k=2 then Lib.itoa n else if k=3 then xo t.data.toList
  else if k=4 then 91 :: (JV.encI true xs ++ [93]) else 123 :: (JV.encO true ns xs ++ [125])
def JV.encI:Bool->List JV->List UInt8
 | _,[]=>[]
 | f,x :: r=>sep f ++ (JV.enc x ++ JV.encI false r)
def JV.encO:Bool->List ByteArray->List JV->List UInt8
 | _,_,[]=>[]
 | _,[],_ :: _=>[]
 | f,s :: ns,x :: r=>sep f ++ (xo s.data.toList ++ (58 :: (JV.enc x ++ JV.encO false ns r)))
end
theorem JV.enc_eq (v:JV):v.enc=if v.kind=1 then (if v.n=1 then [116,114,117,101] else [102,97,108,115,101]) else if v.kind=2 then Lib.itoa v.n else if v.kind=3 then xo v.t.data.toList
 else if v.kind=4 then 91 :: (JV.encI true v.items ++ [93]) else 123 :: (JV.encO true v.names v.items ++ [125]):=by cases v;rw [JV.enc];rfl
theorem JV.encI_snoc:∀(l:List JV) (f:Bool) (x:JV),JV.encI f (l ++ [x])=JV.encI f l ++ (sep (f && l.isEmpty) ++ x.enc)
 | [],f,x=>by simp [JV.encI]
 | y :: r,f,x=>by simp [JV.encI,JV.encI_snoc r false x]
theorem JV.encO_snoc:∀(ns:List ByteArray) (l:List JV) (f:Bool) (s:ByteArray) (x:JV),ns.length=l.length->JV.encO f (ns ++ [s]) (l ++ [x])=JV.encO f ns l ++ (sep (f && l.isEmpty) ++ (xo s.data.toList ++ (58 :: x.enc)))
 | [],[],f,s,x,_=>by simp [JV.encO]
 | [],_ :: _,_,_,_,h=>by simp at h
 | _ :: _,[],_,_,_,h=>by simp at h
 | n :: ns,y :: r,f,s,x,h=>by simp [JV.encO,JV.encO_snoc ns r false s x (by simpa using h)]
def db (n:Int):Prop:=-9223372036854775808<=n/\n<=9223372036854775807
mutual
def JV.form (nm:Bool):JV->Prop
 | .mk k n t ns xs=>(k=1\/(k=2/\nm=true/\db n)\/(k=3/\qW t=true)\/k=4\/(k=5/\ns.length=xs.length/\∀i (h:i<ns.length),qW ns[i]=true))/\JV.forms nm xs
def JV.forms (nm:Bool):List JV->Prop
 | []=>True
 | x :: r=>JV.form nm x/\JV.forms nm r
end
theorem JV.form_eq {a:Bool} {v:JV} (h:v.form a):(v.kind=1\/(v.kind=2/\a=true/\db v.n)\/(v.kind=3/\qW v.t=true)\/v.kind=4\/(v.kind=5/\v.names.length=v.items.length/\∀i (h:i<v.names.length),qW v.names[i]=true))/\JV.forms a v.items:=by cases v;unfold JV.form at h;exact h
theorem JV.forms_get {nm:Bool}:∀(l:List JV) (i:Nat) (h:i<l.length),JV.forms nm l->JV.form nm l[i]
 | s :: r,0,_,h=>by unfold JV.forms at h;exact h.1
 | s :: r,i+1,hi,h=>by unfold JV.forms at h;exact JV.forms_get r i (by simpa using hi) h.2
mutual
theorem JV.form_of_may:∀(v:JV) (d:Nat) (l:Int),v.num->(v.may d l).1=true->v.form true
 | .mk k n t ns xs,d,l,hn,h=>by
  rw [JV.may] at h;unfold JV.num at hn;split at h
  . cases h
  split at h
  . cases h
  next h1 h2 =>
  have hp:=y9 (by simpa using h2);unfold JV.form;split at h
  . next h3 =>
    have hx:xs=[]:=by
     rcases hp with ⟨_,e⟩|⟨_,e⟩|⟨_,_,e⟩|e|⟨e,_⟩
     . exact J4 e
     . exact J4 e
     . exact J4 e
     . exact absurd e h3.1
     . exact absurd e h3.2
    subst hx;refine ⟨?_,by unfold JV.forms;trivial⟩;rcases hp with ⟨e,_⟩|⟨e,_⟩|⟨e,e2,_⟩|e|⟨e,_⟩
    . exact .inl e
    . exact .inr (.inl ⟨e,rfl,hn.2.1⟩)
    . exact .inr (.inr (.inl ⟨e,e2⟩))
    . exact absurd e h3.1
    . exact absurd e h3.2
  . next h3 =>
    split at h
    . cases h
    . refine ⟨?_,JV.forms_of_mays xs _ _ hn.2.2 h⟩;rcases hp with ⟨e,_⟩|⟨e,_⟩|⟨e,e2,_⟩|e|⟨e,e2,_,e3⟩
      . exact .inl e
      . exact .inr (.inl ⟨e,rfl,hn.2.1⟩)
      . exact .inr (.inr (.inl ⟨e,e2⟩))
      . exact .inr (.inr (.inr (.inl e)))
      . exact .inr (.inr (.inr (.inr ⟨e,e2,fun i hi=>X3.1 e3 _ (J1 hi)⟩)))
theorem JV.forms_of_mays:∀(xs:List JV) (d:Nat) (l:Int),JV.nums xs->(JV.mays xs d l).1=true->JV.forms true xs
 | [],_,_,_,_=>by unfold JV.forms;trivial
 | x :: r,d,l,hn,h=>by
  rw [JV.mays] at h;unfold JV.nums at hn;unfold JV.forms;split at h
  . next h1=>exact ⟨JV.form_of_may x d l hn.1 h1,JV.forms_of_mays r _ _ hn.2 h⟩
  . cases h
end
theorem jw (s:ByteArray):(xo s.data.toList).length<=2 * s.size+2:=by have:=vf s.data.toList;rw [qd] at this;unfold xo;simp;omega
theorem bj (f:Bool):(sep f).length<=1:=by cases f <;> simp [sep]
mutual
theorem JV.enc_length:∀(v:JV),v.form true->v.enc.length+4<=30 * v.wt
 | .mk k n t ns xs,h=>by
  unfold JV.form at h;rw [JV.enc,JV.wt];have h1:=JV.encI_length xs true h.2;have h2:=JV.encO_length ns xs true h.2;split
  . split <;> simp <;> omega
  split
  . next e1 e2 =>
    rcases h.1 with e|⟨_,_,e⟩|⟨e,_⟩|e|⟨e,_⟩ <;> first|omega|skip
    have:=Lib.itoa_length_le n e.1 e.2;omega
  split
  . have:=jw t;omega
  split
  . simp;omega
  . simp;omega
theorem JV.encI_length:∀(a:List JV) (f:Bool),JV.forms true a->(JV.encI f a).length<=30 * JV.wts a
 | [],f,_=>by simp [JV.encI]
 | x :: r,f,h=>by unfold JV.forms at h;have h1:=JV.enc_length x h.1;have h2:=JV.encI_length r false h.2;have h3:=bj f;simp [JV.encI,JV.wts];omega
theorem JV.encO_length:∀(ns:List ByteArray) (a:List JV) (f:Bool),JV.forms true a->(JV.encO f ns a).length<=30 * ql ns+30 * JV.wts a
 | ns,[],f,_=>by simp [JV.encO]
 | [],x :: r,f,_=>by simp [JV.encO]
 | s :: ns,x :: r,f,h=>by unfold JV.forms at h;have h1:=JV.enc_length x h.1;have h2:=JV.encO_length ns r false h.2;have h3:=bj f;have h4:=jw s;simp [JV.encO,JV.wts,ql];omega
end
mutual
theorem JV.form_true {nm:Bool}:∀(v:JV),v.form nm->v.form true
 | .mk k n t ns xs,h=>by
  unfold JV.form at h ⊢;refine ⟨?_,JV.forms_true xs h.2⟩;rcases h.1 with e|⟨e,_,e2⟩|e|e|e
  . exact .inl e
  . exact .inr (.inl ⟨e,rfl,e2⟩)
  . exact .inr (.inr (.inl e))
  . exact .inr (.inr (.inr (.inl e)))
  . exact .inr (.inr (.inr (.inr e)))
theorem JV.forms_true {nm:Bool}:∀(xs:List JV),JV.forms nm xs->JV.forms true xs
 | [],_=>by unfold JV.forms;trivial
 | x :: r,h=>by unfold JV.forms at h ⊢;exact ⟨JV.form_true x h.1,JV.forms_true r h.2⟩
end
theorem JV.forms_take {nm:Bool}:∀(l:List JV) (k:Nat),JV.forms nm l->JV.forms nm (l.take k)
 | [],k,_=>by simp [JV.forms]
 | x :: r,0,_=>by simp [JV.forms]
 | x :: r,k+1,h=>by unfold JV.forms at h;simp only [K7];unfold JV.forms;exact ⟨h.1,JV.forms_take r k h.2⟩
theorem JV.wts_snoc (l:List JV) (k:Nat) (h:k<l.length):JV.wts (l.take k)+JV.wt l[k]<=JV.wts l:=by
 induction l generalizing k with
 | nil=>simp at h
 | cons x r ih =>
  cases k with
  | zero=>simp [JV.wts]
  | succ k=>have:=ih k (by simpa using h);simp [JV.wts];omega
theorem pn (l:List ByteArray) (k:Nat) (h:k<l.length):ql (l.take k)+l[k].size+1<=ql l:=by
 induction l generalizing k with
 | nil=>simp at h
 | cons x r ih =>
  cases k with
  | zero=>simp [ql]
  | succ k=>have:=ih k (by simpa using h);simp [ql];omega
theorem JV.encI_take (l:List JV) (k:Nat) (h:k<l.length):JV.encI true (l.take (k+1))=JV.encI true (l.take k) ++ (sep (decide (k=0)) ++ l[k].enc):=by
 rw [Z8 h,JV.encI_snoc];congr 3;cases k with
 | zero=>simp
 | succ k=>cases l with
  | nil=>simp at h
  | cons x r=>simp
theorem JV.encO_take (a:List ByteArray) (l:List JV) (k:Nat) (h:k<l.length) (b:k<a.length):JV.encO true (a.take (k+1)) (l.take (k+1))=JV.encO true (a.take k) (l.take k) ++ (sep (decide (k=0)) ++ (xo a[k].data.toList ++ (58 :: l[k].enc))):=by
 rw [Z8 h,Z8 b,JV.encO_snoc _ _ _ _ _ (by simp;omega)];congr 3;cases k with
 | zero=>simp
 | succ k=>cases l with
  | nil=>simp at h
  | cons x r=>simp
open Go.Shelf Go.Sort
def zh (ms:List Mem):List Value:=ms.flatMap qU
theorem lw (ms:List Mem) (i c:Nat) (hi:i<ms.length) (a:c<6):(zh ms)[i * 6+c]?=some ((qU ms[i])[c]'(by rw [zC];exact a)):=by
 induction ms generalizing i with
 | nil=>simp at hi
 | cons v r ih =>
  unfold zh;rw [List.flatMap_cons];rcases i with _|i
  . rw [Y8 (by rw [zC];omega)];simp
  . rw [X8 (by rw [zC];omega),zC];have:=ih i (by simpa using hi);rw [show (i+1) * 6+c - 6=i * 6+c by omega];simpa [zh] using this
structure MemsAt (W0:Nat) (w:World) (v:Value) (ms:List Mem) (its:List JV):Prop where
 own:w.ownsRow W0 169 6 v ms.length (zh ms)
 len:its.length=ms.length
 reps:∀i (h:i<its.length),∃lo hi,W0<=lo/\hi<=w.heap.size/\(∀b,v.ownBlock=some b->¬(lo<=b/\b<hi))/\Rep w lo hi its[i] (ms[i]'(by omega)).val
theorem MemsAt.below {d:Nat} {w w':World} {v:Value} {ms:List Mem} {a:List JV} (h:MemsAt d w v ms a) (c:O5 w w'):MemsAt d w' v ms a :=
 ⟨qE h.own c,h.len,fun i hi=>by
  obtain ⟨lo,hi',h1,h2,h3,hr⟩:=h.reps i hi;exact ⟨lo,hi',h1,Z5 h2 c.size,h3,Rep.carry lz lz (fun b _ h=>c.block b (by omega)) _ _ hr⟩⟩
theorem MemsAt.snoc {s:Nat} {w w':World} {v v':Value} {ms:List Mem} {q:List JV} (h:MemsAt s w v ms q) (m:Mem) (it:JV) (lo hi:Nat) (C:s<=lo) (u:hi<=w.heap.size) (B:∀b,v.ownBlock=some b->¬(lo<=b/\b<hi)) (A:Rep w lo hi it m.val)
 (z:w.grownBy w' v.ownBlock) (r:w'.ownsRow s 169 6 v' (ms.length+1) (zh ms ++ qU m)) (y:v'.ownBlock=v.ownBlock\/∃g,v'.ownBlock=some g/\w.heap.size<=g):MemsAt s w' v' (ms ++ [m]) (q ++ [it]):=by
 have k:∀ {lo hi:Nat},hi<=w.heap.size->(∀b,v.ownBlock=some b->¬(lo<=b/\b<hi))->∀b,v'.ownBlock=some b->¬(lo<=b/\b<hi):=fun hz hn b hb=>by
  rcases y with e|⟨g,e,hge⟩
  . exact hn b (by rw [<- e];exact hb)
  . rw [e] at hb;simp at hb;omega
 have j:∀ {lo hi:Nat} {it:JV} {x:Value},hi<=w.heap.size->(∀b,v.ownBlock=some b->¬(lo<=b/\b<hi))->Rep w lo hi it x->Rep w' lo hi it x:=fun hz hn A =>
  Rep.carry lz lz (fun b hb1 hb2=>z.block b (by omega) (fun e=>hn b e.symm ⟨hb1,hb2⟩)) _ _ A
 have o:=h.len;refine ⟨?_,by simp [o],fun i hi'=>?_⟩
 . have e:zh (ms ++ [m])=zh ms ++ qU m:=by simp [zh]
   rw [e,V6];exact r
 . by_cases e:i<q.length
   . obtain ⟨f,a,p,d,l,c⟩:=h.reps i e;refine ⟨f,a,p,Z5 d z.size,k d l,?_⟩;rw [G1 e,G1 (by omega)];exact j d l c
   . obtain rfl:i=q.length:=by simp at hi';omega
     refine ⟨lo,hi,C,Z5 u z.size,k u B,?_⟩;rw [N2 (by omega),N2 (by omega)];simpa using j u B A
theorem MemsAt.one {d:Nat} {w:World} {c:Nat} (m:Mem) (it:JV) (lo hi:Nat) (f:d<=c) (g:d<=lo) (j:hi<=c) (h:Rep w lo hi it m.val) (e:w.heap[c]?=some (.cells (qU m).toArray 169 (0,0))):MemsAt d w (.slice (some ⟨c,0,none⟩) 1 1) [m] [it]:=by
 have a:=qz e;refine ⟨⟨rfl,.inr ⟨c,1,_,rfl,f,e,Z9 _,by unfold maxLen;omega,rfl,?_⟩⟩,rfl,fun i hi'=>?_⟩
 . simp [zh,qU]
 . obtain rfl:i=0:=by simp at hi';omega
   exact ⟨lo,hi,g,by omega,fun b a=>by simp [Value.ownBlock] at a;omega,h⟩
theorem ly {h:Nat} {w:World} {v:Value} {ms:List Mem} (f:w.ownsRow h 169 6 v ms.length (zh ms)) (i:0<ms.length):∃g cap,v=.slice (some ⟨g,0,none⟩) ms.length cap/\g<w.heap.size/\HoldsK qU 6 w g 0 ms.toArray:=by
 rcases f.2 with ⟨rfl,h00⟩|⟨g,cap,cur,rfl,hg,hh,hc,hm,hs,ht⟩
 . omega
 . refine ⟨g,cap,rfl,qz hh,fun j hj=>⟨?_,by simp [World.frozen?,hh]⟩⟩;have a:j<ms.length * 6:=by simpa using hj
   have e:(⟨g,0,none⟩:Addr).add j=⟨g,j,none⟩:=by unfold Addr.add;split <;> simp_all
   have b:=lw ms (j / 6) (j % 6) (by omega) (by omega);rw [show j / 6 * 6+j % 6=j by omega] at b;have:=f.cells (g:=g) rfl j _ b;rw [e] at this;rw [N6,this,get_flatK qU 6 ms.toArray j (by simpa using a)];have c:j % 6<(qU (ms[j / 6]'(by omega))).length:=by rw [zC];omega
   have d:ms.toArray[j / 6]! = ms[j / 6]'(by omega):=by rw [getElem!_pos _ _ (by simp;omega)];simp
   rw [d,getElem!_pos (qU (ms[j / 6]'(by omega))) (j % 6) c];rfl
theorem dp (w:World) (lo hi:Nat) (n:Int):Rep w lo hi (qZ n) (.agg #[.int .u8 2,.int .i64 n,.string ⟨#[]⟩,.slice none 0 0,.slice none 0 0]):=by unfold qZ Rep;exact ⟨none,0,none,0,rfl,Z9 _,Z9 _,.inl rfl,.inl rfl⟩
def kg (nm:ByteArray) (n:Int):Mem:=⟨nm,2,n,⟨#[]⟩,none,0,0,none,0,0⟩
def qv (B:Nat) (J:JV) (w:World) (x:Value):Prop:=∃an cn ai ci,x=.agg #[.int .u8 J.kind,.int .i64 J.n,.string J.t,.slice an J.names.length cn,.slice ai J.items.length ci]/\Rep w B w.heap.size J x
theorem qv.mono {B:Nat} {J:JV} {w w':World} {x:Value} (g:O5 w w') (h:qv B J w x):qv B J w' x:=by obtain ⟨b,d,a,c,e,f⟩:=h;exact ⟨b,d,a,c,e,f.below g lz lz g.size⟩
def MP.rep (B:Nat) (J:JV):MP:=⟨qv B J,fun _ _ _ hb h=>h.mono hb⟩
theorem qv.five {B:Nat} {J:JV} {w:World} {x:Value} (h:qv B J w x):∃c0 c1 c2 c3 c4,x=.agg #[c0,c1,c2,c3,c4]/\qv B J w (.agg #[c0,c1,c2,c3,c4]):=by obtain ⟨b,d,a,c,rfl,e⟩:=h;exact ⟨_,_,_,_,_,rfl,b,d,a,c,rfl,e⟩
def vh (B:Nat) (w:World) (cs:Array Value) (o:Nat) (J:JV):Prop:=∃c0 c1 c2 c3 c4,cs[o]?=some c0/\cs[o+1]?=some c1/\cs[o+2]?=some c2/\cs[o+3]?=some c3/\cs[o+4]?=some c4/\qv B J w (.agg #[c0,c1,c2,c3,c4])
theorem vh.mono {B:Nat} {w w':World} {cs:Array Value} {o:Nat} {J:JV} (m:O5 w w') (h:vh B w cs o J):vh B w' cs o J:=by obtain ⟨a,b,c,d,e,f,g,i,j,k,l⟩:=h;exact ⟨a,b,c,d,e,f,g,i,j,k,l.mono m⟩
def zZ (B T:Nat) (l:List JV) (w:World) (x:Value):Prop:=∃b cs,x=.slice (some ⟨b,0,none⟩) l.length l.length/\B<=b/\w.heap[b]?=some (.cells cs T (0,0))/\∀i (h:i<l.length),vh B w cs (i * 5) l[i]
theorem zZ.mono {B T:Nat} {l:List JV} {w w':World} {x:Value} (g:O5 w w') (h:zZ B T l w x):zZ B T l w' x:=by obtain ⟨b,c,e,d,a,f⟩:=h;exact ⟨b,c,e,d,by rw [g.block _ (qz a)];exact a,fun i hi=>(f i hi).mono g⟩
def MP.vals (B T:Nat) (l:List JV):MP:=⟨zZ B T l,fun _ _ _ hb h=>h.mono hb⟩
def strs (l:List ByteArray):Array Value:=(l.map Value.string).toArray
theorem bk (B:Nat) (t:ByteArray) (w:World):qv B (txtJ t) w (.agg #[.int .u8 3,.int .i64 0,.string t,.slice none 0 0,.slice none 0 0]):=⟨none,0,none,0,rfl,vH _ _ _ _⟩
theorem jz (B:Nat) (k n:Int) (t:ByteArray) (w:World):qv B (.mk k n t [] []) w (.agg #[.int .u8 k,.int .i64 n,.string t,.slice none 0 0,.slice none 0 0]):=⟨none,0,none,0,rfl,Rep.mk (v:=.mk k n t [] []) lz lz (.inl rfl) (.inl rfl)⟩
theorem oy {B D E:Nat} {w:World} {x y:Value} (C:List ByteArray) (l:List JV) (F:zM B C.length D (strs C) w x) (G:zZ B E l w y):qv B (.mk 5 0 ⟨#[]⟩ C l) w (.agg #[.int .u8 5,.int .i64 0,.string ⟨#[]⟩,x,y]):=by obtain ⟨b,o,rfl,f⟩:=F;obtain ⟨e,A,rfl,c,a,p⟩:=G;refine ⟨some ⟨b,0,none⟩,C.length,some ⟨e,0,none⟩,l.length,rfl,?_⟩;refine Rep.mk (v:=.mk 5 0 ⟨#[]⟩ C l) lz lz (uh C o (qz f) f) ?_;refine .inr ⟨e,0,rfl,c,qz a,⟨_,_,_,a,fun _=>rfl⟩,zE.of_at fun i hi=>?_⟩;obtain ⟨g,h,j,k,m,q,r,s,u,z,d⟩:=p i hi;obtain ⟨_,_,_,_,_,d⟩:=d;simp only [N6];exact ⟨g,h,j,k,m,qq a q,qq a r,qq a s,qq a u,qq a z,by simp [World.frozen?,a],d⟩
def tY:Code->Code | .seq a _=>a|c=>c
def og:Code->Code | .seq _ b=>b|c=>c
theorem cz (n:Int):(qZ n).solid=true:=by unfold qZ JV.solid;simp [JV.solids]
theorem cj (t:ByteArray):(txtJ t).solid=true:=by unfold txtJ JV.solid;simp [JV.solids]
theorem bv:∀l:List JV,(∀x ∈ l,x.solid=true)->JV.solids l=true
 | [],_=>rfl
 | x :: r,h=>by rw [JV.solids,h x (V7 ..),bv r fun y hy=>h y (Y4 _ hy)];rfl
theorem cv {N:List NJ} (h:∀p ∈ N,p.1≠⟨#[]⟩/\p.2.solid=true):(z7 N).solid=true:=by unfold z7 JV.solid;have b:(N.map (·.1)).all (fun n=>decide (n≠⟨#[]⟩))=true:=(by rw [X3];intro x hx;obtain ⟨p,a,rfl⟩:=V8.1 hx;simpa using (h p a).1);rw [b,bv _ fun x hx=>by obtain ⟨p,a,rfl⟩:=V8.1 hx;exact (h p a).2];rfl
