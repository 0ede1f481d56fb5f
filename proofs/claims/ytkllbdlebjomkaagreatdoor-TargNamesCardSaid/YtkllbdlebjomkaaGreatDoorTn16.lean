import Derived.Test.YtkllbdlebjomkaaGreatDoorTn15
import Derived.Test.YtkllbdlebjomkaaGreatDoorTn14
import Derived.Test.YtkllbdlebjomkaaGreatDoorTn11

namespace Go.Proofs.YtkllbdlebjomkaaGreatDoor
open Go.RowKit
mutual
def JV.partB:JV->Bool
 | .mk k n t ns xs=>qK k n t ns xs.length && JV.partsB xs
def JV.partsB:List JV->Bool
 | []=>true
 | x :: r=>JV.partB x && JV.partsB r
end
mutual
def JV.depth:JV->Nat
 | .mk k _ _ _ xs=>if k≠4/\k≠5 then 0 else JV.depths xs+1
def JV.depths:List JV->Nat
 | []=>0
 | x :: r=>max (JV.depth x) (JV.depths r)
end
theorem JV.partB_eq (v:JV):v.partB=(qK v.kind v.n v.t v.names v.items.length && JV.partsB v.items):=by cases v;rw [JV.partB];rfl
theorem JV.depth_eq (v:JV):v.depth=if v.kind≠4/\v.kind≠5 then 0 else JV.depths v.items+1:=by cases v;rw [JV.depth];rfl
theorem JV.count_eq (v:JV):v.count=1+JV.counts v.items:=by cases v;rw [JV.count];rfl
theorem JV.partsB_bad (l:List JV) (k:Nat) (h:k<l.length) (hb:JV.partB l[k]=false):JV.partsB l=false:=by
 induction l generalizing k with
 | nil=>simp at h
 | cons x r ih =>
  cases k with
  | zero=>simp only [N6] at hb;rw [JV.partsB,hb];rfl
  | succ k=>rw [JV.partsB,ih k (by simpa using h) (by simpa using hb),zc1]
mutual
theorem JV.depth_le:∀v:JV,v.depth<=v.wt
 | .mk k _ _ _ xs=>by have:=JV.depths_le xs;rw [JV.depth,JV.wt];split <;> omega
theorem JV.depths_le:∀l:List JV,JV.depths l<=JV.wts l
 | []=>by simp [JV.depths]
 | x :: r=>by have:=JV.depth_le x;have:=JV.depths_le r;rw [JV.depths,JV.wts];omega
end
theorem JV.proper_leaf {v:JV} (h:qK v.kind v.n v.t v.names v.items.length=true) (a:v.kind≠4) (b:v.kind≠5):v.items=[]:=by
 unfold qK at h;split at h
 . simp at h;exact h.2.2.1
 split at h
 . simp at h;exact h.2.2
 split at h
 . simp at h;exact h.1.2.2
 . first|(cases h;done)|(rw [Z6 a,Z6 b] at h;cases h)
mutual
theorem JV.may_iff:∀(v:JV) (d:Nat) (l:Int),0<=l->((v.may d l).1=true↔v.partB=true/\(v.count:Int)<=l/\v.depth<=d)/\((v.may d l).1=true->(v.may d l).2=l - v.count)
 | .mk k n t ns xs,d,l,hl=>by
  rw [JV.may,JV.partB,JV.count,JV.depth];by_cases h0:l - 1<0
  . rw [J3 h0];simp;omega
  rw [Z6 h0];cases hp:qK k n t ns xs.length
  . simp
  simp only [Bool.true_eq_false,if_false,Y4];by_cases hk:k≠4/\k≠5
  . have hx:xs=[]:=JV.proper_leaf (v:=.mk k n t ns xs) hp hk.1 hk.2;subst hx;rw [J3 hk,J3 hk];simp [JV.partsB,JV.counts];omega
  . rw [Z6 hk,Z6 hk];by_cases hd:d=0
    . rw [J3 hd];simp;omega
    . rw [Z6 hd];obtain ⟨i1,i2⟩:=JV.mays_iff xs (d - 1) (l - 1) (by omega);refine ⟨?_,fun h=>?_⟩
      . rw [i1];constructor
        . rintro ⟨a,b,c⟩;exact ⟨a,by push_cast;omega,by omega⟩
        . rintro ⟨a,b,c⟩;exact ⟨a,by push_cast at b;omega,by omega⟩
      . rw [i2 h];push_cast;omega
theorem JV.mays_iff:∀(xs:List JV) (d:Nat) (l:Int),0<=l->((JV.mays xs d l).1=true↔JV.partsB xs=true/\(JV.counts xs:Int)<=l/\JV.depths xs<=d)/\((JV.mays xs d l).1=true->(JV.mays xs d l).2=l - JV.counts xs)
 | [],d,l,hl=>by simp [JV.mays,JV.partsB,JV.counts,JV.depths];omega
 | x :: r,d,l,hl=>by
  obtain ⟨a1,a2⟩:=JV.may_iff x d l hl;rw [JV.mays,JV.partsB,JV.counts,JV.depths];cases h:(JV.may x d l).1
  . rw [h] at a1;simp only [Bool.false_eq_true,if_false,false_iff,not_and,J5,false_implies,zb6] at a1 ⊢;intro hp hc;have:=a1 hp.1 (by push_cast at hc;omega);omega
  . rw [J3 rfl];have hb:=(JV.may_bd x d l hl).2.2 h;obtain ⟨c1,c2,c3⟩:=a1.1 h;have e2:=a2 h;obtain ⟨i1,i2⟩:=JV.mays_iff r d _ hb;rw [i1,e2];refine ⟨?_,fun hh=>?_⟩
    . rw [c1,Y4];constructor
      . rintro ⟨a,b,c⟩;exact ⟨a,by push_cast;omega,by omega⟩
      . rintro ⟨a,b,c⟩;exact ⟨a,by push_cast at b;omega,by omega⟩
    . have hh':(JV.mays r d (JV.may x d l).2).1=true:=by rw [e2];exact i1.2 (by rw [e2];exact hh) |> fun z=>by rwa [e2] at z
      have:=i2 hh';rw [e2] at this;rw [this];push_cast;omega
end
theorem JV.mayB_iff (v:JV):v.mayB=(v.partB && decide (v.count<=8192) && decide (v.depth<=12)):=by
 unfold JV.mayB;rw [zc3,(JV.may_iff v 12 8192 (by omega)).1];simp only [J5,J1];constructor
 . rintro ⟨a,b,c⟩;exact ⟨⟨a,by omega⟩,c⟩
 . rintro ⟨⟨a,b⟩,c⟩;exact ⟨a,by omega,c⟩
def qB (n:Int):JV:=.mk 2 n ⟨#[]⟩ [] []
def kK:ByteArray:=⟨#[118,101,114,115,105,111,110]⟩
def ym:ByteArray:=⟨#[108,101,110,103,116,104]⟩
def vD:ByteArray:=⟨#[104,97,115,104,101,115]⟩
def jz:ByteArray:=⟨#[95,116,121,112,101]⟩
def kV:ByteArray:=⟨#[101,120,112,105,114,101,115]⟩
def se:ByteArray:=⟨#[115,110,97,112,115,104,111,116]⟩
def zS:ByteArray:=⟨#[116,97,114,103,101,116,115]⟩
def nineN:ByteArray:=⟨#[49,57,55,48,45,48,49,45,48,49,84,48,48,58,48,48,58,48,57,90]⟩
def qG (v:JV) (y:ByteArray) (lo hi:Int) (st:PS):Int × PS :=
 if st.err≠0 then (0,st) else match v.look y with
 | none=>(0,⟨st.asked,6⟩)
 | some it=>if it.kind≠2 then (0,⟨st.asked,10⟩) else if it.n<lo\/hi<it.n then (0,⟨st.asked,1⟩) else (it.n,⟨y :: st.asked,0⟩)
def qf (v:JV) (y:ByteArray) (most:Nat) (st:PS):JV × PS :=
 if st.err≠0 then (zeroJ,st) else match v.look y with
 | none=>(zeroJ,⟨st.asked,6⟩)
 | some it=>if it.kind≠5 then (zeroJ,⟨st.asked,10⟩) else if most<it.items.length then (zeroJ,⟨st.asked,5⟩) else (it,⟨y :: st.asked,0⟩)
def qI (v:JV) (y:ByteArray) (st:PS):Bool:=decide (st.err=0) && (v.look y).isSome
def PS.fail (st:PS) (e:Int):PS:=if st.err=0 then ⟨st.asked,e⟩ else st
def jb (l:List Key2):JV:=.mk 5 0 ⟨#[]⟩ (l.map (·.1)) (l.map fun k=>txtJ k.2)
abbrev NJ:=ByteArray × JV
def vK (l:List Key2):List NJ:=l.map fun k=>(k.1,txtJ k.2)
theorem mB (l:List Key2):(vK l).map (·.1)=l.map (·.1):=by simp [vK]
theorem nK (l:List Key2):(vK l).map (·.2)=l.map fun k=>txtJ k.2:=by simp [vK]
theorem gO (l:List Key2):(vK l).length=l.length:=by simp [vK]
theorem wg {l:List Key2} (h:qP l=true):(1<=l.length/\l.length<=4)/\(∀k ∈ l,zw k.1.data.toList=true/\jw k.2.data.toList=true)/\qd (l.map (·.1))=true:=by unfold qP at h;simp only [J5,J1] at h;refine ⟨h.1.1,fun k hk=>?_,h.2⟩;have:=X9.1 h.1.2 k hk;unfold vy at this;simpa using this
theorem dj {b:ByteArray} (h:jw b.data.toList=true):b.size<=128:=by unfold jw at h;simp only [J5,J1] at h;have:=h.1.2.1;simpa using this
theorem yL {b:ByteArray} (h:zw b.data.toList=true):b.size<=64:=by unfold zw at h;simp only [J5,J1] at h;have:=h.1.1.2;simpa using this
theorem fx {α:Type} (f:α->ByteArray) (b:Nat):∀l:List α,(∀x ∈ l,(f x).size<=b)->qh (l.map f)<=l.length * (b+1)
 | [],_=>by simp [qh]
 | x :: r,h=>by have:=fx f b r fun y hy=>h y (V7 _ hy);have h0:=h x (G0 ..);simp only [K8,qh,N0];rw [Nat.succ_mul];omega
theorem fj {α:Type} (f:α->JV) (b:Nat):∀l:List α,(∀x ∈ l,(f x).wt<=b)->JV.wts (l.map f)<=l.length * b
 | [],_=>by simp [JV.wts]
 | x :: r,h=>by have:=fj f b r fun y hy=>h y (V7 _ hy);have h0:=h x (G0 ..);simp only [K8,JV.wts,N0];rw [Nat.succ_mul];omega
theorem dk {l:List Key2} (h:qP l=true):(jb l).wt<=1000:=by
 obtain ⟨f,e,_⟩:=wg h;have a:=fx (fun k:Key2=>k.1) 64 l fun k hk=>yL (e k hk).1;have b:=fj (fun k:Key2=>txtJ k.2) 129 l fun k hk=>by have:=dj (e k hk).2;simp [txtJ,JV.wt,JV.wts,qh];omega
 have c:l.length * (64+1)<=4 * 65:=Nat.mul_le_mul_right _ f.2;have d:l.length * 129<=4 * 129:=Nat.mul_le_mul_right _ f.2;unfold jb;simp only [JV.wt];have:(⟨#[]⟩:ByteArray).size=0:=rfl;omega
theorem vL (n:Int):(qB n).wt=1:=by simp [qB,JV.wt,JV.wts,qh,ByteArray.size]
def okN (N:List NJ):Prop:=qd (N.map (·.1))=true/\∀p ∈ N,qX p.1=true/\p.2.partB=true
def qN (N:List NJ):JV:=.mk 5 0 ⟨#[]⟩ (N.map (·.1)) (N.map (·.2))
theorem gE:∀l:List JV,(∀x ∈ l,x.partB=true)->JV.partsB l=true
 | [],_=>rfl
 | x :: r,h=>by rw [JV.partsB,h x (G0 ..),gE r fun y hy=>h y (V7 _ hy)];rfl
theorem yv {N:List NJ} (h:okN N):(qN N).partB=true:=by
 rw [JV.partB_eq];have b:qK 5 0 ⟨#[]⟩ (N.map (·.1)) (N.map (·.2)).length=true:=by
  unfold qK;rw [Z6 (by decide),Z6 (by decide),Z6 (by decide),Z6 (by decide),J3 rfl,h.1];have c:(⟨#[]⟩:ByteArray).toList=[]:=by rw [X4]
  have d:(N.map (·.1)).all qX=true:=(by rw [X9];intro x hx;obtain ⟨p,a,rfl⟩:=H7.1 hx;exact (h.2 p a).1);rw [d];simp [c]
 show (qK 5 0 ⟨#[]⟩ (N.map (·.1)) (N.map (·.2)).length && JV.partsB (N.map (·.2)))=true;rw [b,gE _ fun x hx=>by obtain ⟨p,a,rfl⟩:=H7.1 hx;exact (h.2 p a).2];rfl
theorem g6 {t:ByteArray} (h:qX t=true):(txtJ t).partB=true:=by rw [JV.partB_eq];show (qK 3 0 t [] 0 && JV.partsB [])=true;unfold qK;rw [Z6 (by decide),Z6 (by decide),J3 rfl,h];rfl
theorem g8 (n:Int):(qB n).partB=true:=by
 rw [JV.partB_eq];show (qK 2 n ⟨#[]⟩ [] 0 && JV.partsB [])=true;unfold qK;rw [Z6 (by decide),J3 rfl];have a:(⟨#[]⟩:ByteArray).toList=[]:=by rw [X4]
 simp [a,JV.partsB]
theorem counts_le (b:Nat):∀l:List JV,(∀x ∈ l,x.count<=b)->JV.counts l<=l.length * b
 | [],_=>by simp [JV.counts]
 | x :: r,h=>by have h1:=h x (G0 ..);have h2:=counts_le b r fun y hy=>h y (V7 _ hy);rw [JV.counts,N0,Nat.succ_mul];omega
theorem kW (b:Nat):∀l:List JV,(∀x ∈ l,x.depth<=b)->JV.depths l<=b
 | [],_=>by simp [JV.depths]
 | x :: r,h=>by have h1:=h x (G0 ..);have h2:=kW b r fun y hy=>h y (V7 _ hy);rw [JV.depths];omega
theorem fk {N:List NJ} (b:Nat) (h:∀p ∈ N,p.2.count<=b):(qN N).count<=1+N.length * b:=by
 rw [JV.count_eq];have:=counts_le b (N.map (·.2)) fun x hx=>by obtain ⟨p,a,rfl⟩:=H7.1 hx;exact h p a
 rw [X7] at this;show 1+JV.counts (N.map (·.2))<=_;omega
theorem vR {N:List NJ} (b:Nat) (h:∀p ∈ N,p.2.depth<=b):(qN N).depth<=b+1:=by
 rw [JV.depth_eq];have:=kW b (N.map (·.2)) fun x hx=>by obtain ⟨p,a,rfl⟩:=H7.1 hx;exact h p a
 rw [Z6 (by simp [qN,JV.kind])];show JV.depths (N.map (·.2))+1<=_;omega
theorem mP (t:ByteArray):(txtJ t).count=1/\(txtJ t).depth=0:=by rw [JV.count_eq,JV.depth_eq];exact ⟨rfl,rfl⟩
theorem mF (n:Int):(qB n).count=1/\(qB n).depth=0:=by rw [JV.count_eq,JV.depth_eq];exact ⟨rfl,rfl⟩
theorem bS {k n:Int} {t:ByteArray} {ns:List ByteArray} {a:Nat} (h:qK k n t ns a=true):(k=1/\a=0)\/(k=2/\a=0)\/(k=3/\qX t=true/\a=0)\/k=4\/(k=5/\ns.length=a/\qd ns=true/\ns.all qX=true):=by
 unfold qK at h;by_cases h1:k=1
 . rw [J3 h1] at h;simp at h;exact .inl ⟨h1,h.2.2.1⟩
 rw [Z6 h1] at h;by_cases h2:k=2
 . rw [J3 h2] at h;simp at h;exact .inr (.inl ⟨h2,h.2.2⟩)
 rw [Z6 h2] at h;by_cases h3:k=3
 . rw [J3 h3] at h;simp at h;exact .inr (.inr (.inl ⟨h3,h.2,h.1.2.2⟩))
 rw [Z6 h3] at h;by_cases h4:k=4
 . exact .inr (.inr (.inr (.inl h4)))
 rw [Z6 h4] at h;by_cases h5:k=5
 . rw [J3 h5] at h;simp only [J5,J1] at h;exact .inr (.inr (.inr (.inr ⟨h5,h.1.1.2.2,h.1.2,h.2⟩)))
 . rw [Z6 h5] at h;cases h
def sep (first:Bool):List UInt8:=if first then [] else [44]
mutual
def JV.enc:JV->List UInt8
 | .mk k n t ns xs=>if k=1 then (if n=1 then [116,114,117,101] else [102,97,108,115,101]) else if k=2 then Lib.itoa n else if k=3 then xZ t.data.toList
  else if k=4 then 91 :: (JV.encI true xs ++ [93]) else 123 :: (JV.encO true ns xs ++ [125])
def JV.encI:Bool->List JV->List UInt8
 | _,[]=>[]
 | f,x :: r=>sep f ++ (JV.enc x ++ JV.encI false r)
def JV.encO:Bool->List ByteArray->List JV->List UInt8
 | _,_,[]=>[]
 | _,[],_ :: _=>[]
 | f,s :: ns,x :: r=>sep f ++ (xZ s.data.toList ++ (58 :: (JV.enc x ++ JV.encO false ns r)))
end
theorem JV.enc_eq (v:JV):v.enc=if v.kind=1 then (if v.n=1 then [116,114,117,101] else [102,97,108,115,101]) else if v.kind=2 then Lib.itoa v.n else if v.kind=3 then xZ v.t.data.toList
 else if v.kind=4 then 91 :: (JV.encI true v.items ++ [93]) else 123 :: (JV.encO true v.names v.items ++ [125]):=by cases v;rw [JV.enc];rfl
theorem JV.encI_snoc:∀(l:List JV) (f:Bool) (x:JV),JV.encI f (l ++ [x])=JV.encI f l ++ (sep (f && l.isEmpty) ++ x.enc)
 | [],f,x=>by simp [JV.encI]
 | y :: r,f,x=>by simp [JV.encI,JV.encI_snoc r false x]
theorem JV.encO_snoc:∀(ns:List ByteArray) (l:List JV) (f:Bool) (s:ByteArray) (x:JV),ns.length=l.length->JV.encO f (ns ++ [s]) (l ++ [x])=JV.encO f ns l ++ (sep (f && l.isEmpty) ++ (xZ s.data.toList ++ (58 :: x.enc)))
 | [],[],f,s,x,_=>by simp [JV.encO]
 | [],_ :: _,_,_,_,h=>by simp at h
 | _ :: _,[],_,_,_,h=>by simp at h
 | n :: ns,y :: r,f,s,x,h=>by simp [JV.encO,JV.encO_snoc ns r false s x (by simpa using h)]
def nV (n:Int):Prop:=-9223372036854775808<=n/\n<=9223372036854775807
mutual
def JV.form (nm:Bool):JV->Prop
 | .mk k n t ns xs=>(k=1\/(k=2/\nm=true/\nV n)\/(k=3/\qX t=true)\/k=4\/(k=5/\ns.length=xs.length/\∀i (h:i<ns.length),qX ns[i]=true))/\JV.forms nm xs
def JV.forms (nm:Bool):List JV->Prop
 | []=>True
 | x :: r=>JV.form nm x/\JV.forms nm r
end
theorem JV.form_eq {nm:Bool} {v:JV} (h:v.form nm):(v.kind=1\/(v.kind=2/\nm=true/\nV v.n)\/(v.kind=3/\qX v.t=true)\/v.kind=4\/(v.kind=5/\v.names.length=v.items.length/\∀i (h:i<v.names.length),qX v.names[i]=true))/\JV.forms nm v.items:=by cases v;unfold JV.form at h;exact h
theorem JV.forms_get {nm:Bool}:∀(l:List JV) (i:Nat) (h:i<l.length),JV.forms nm l->JV.form nm l[i]
 | s :: r,0,_,h=>by unfold JV.forms at h;exact h.1
 | s :: r,i+1,hi,h=>by unfold JV.forms at h;exact JV.forms_get r i (by simpa using hi) h.2
mutual
theorem JV.form_of_may:∀(v:JV) (d:Nat) (l:Int),v.num->(v.may d l).1=true->v.form true
 | .mk k n t ns xs,d,l,hn,h=>by
  rw [JV.may] at h;unfold JV.num at hn;split at h
  . cases h
  split at h
  . cases h
  next h1 h2 =>
  have hp:=bS (by simpa using h2);unfold JV.form;split at h
  . next h3 =>
    have hx:xs=[]:=by
     rcases hp with ⟨_,e⟩|⟨_,e⟩|⟨_,_,e⟩|e|⟨e,_⟩
     . exact X5 e
     . exact X5 e
     . exact X5 e
     . exact absurd e h3.1
     . exact absurd e h3.2
    subst hx;refine ⟨?_,by unfold JV.forms;trivial⟩;rcases hp with ⟨e,_⟩|⟨e,_⟩|⟨e,e2,_⟩|e|⟨e,_⟩
    . exact .inl e
    . exact .inr (.inl ⟨e,rfl,hn.2.1⟩)
    . exact .inr (.inr (.inl ⟨e,e2⟩))
    . exact absurd e h3.1
    . exact absurd e h3.2
  . next h3 =>
    split at h
    . cases h
    . refine ⟨?_,JV.forms_of_mays xs _ _ hn.2.2 h⟩;rcases hp with ⟨e,_⟩|⟨e,_⟩|⟨e,e2,_⟩|e|⟨e,e2,_,e3⟩
      . exact .inl e
      . exact .inr (.inl ⟨e,rfl,hn.2.1⟩)
      . exact .inr (.inr (.inl ⟨e,e2⟩))
      . exact .inr (.inr (.inr (.inl e)))
      . exact .inr (.inr (.inr (.inr ⟨e,e2,fun i hi=>X9.1 e3 _ (J8 hi)⟩)))
theorem JV.forms_of_mays:∀(xs:List JV) (d:Nat) (l:Int),JV.nums xs->(JV.mays xs d l).1=true->JV.forms true xs
 | [],_,_,_,_=>by unfold JV.forms;trivial
 | x :: r,d,l,hn,h=>by
  rw [JV.mays] at h;unfold JV.nums at hn;unfold JV.forms;split at h
  . next h1=>exact ⟨JV.form_of_may x d l hn.1 h1,JV.forms_of_mays r _ _ hn.2 h⟩
  . cases h
end
theorem jX (s:ByteArray):(xZ s.data.toList).length<=2 * s.size+2:=by have:=wW s.data.toList;rw [qu] at this;unfold xZ;simp;omega
theorem fw (f:Bool):(sep f).length<=1:=by cases f <;> simp [sep]
mutual
theorem JV.enc_length:∀(v:JV),v.form true->v.enc.length+4<=30 * v.wt
 | .mk k n t ns xs,h=>by
  unfold JV.form at h;rw [JV.enc,JV.wt];have h1:=JV.encI_length xs true h.2;have h2:=JV.encO_length ns xs true h.2;split
  . split <;> simp <;> omega
  split
  . next e1 e2 =>
    rcases h.1 with e|⟨_,_,e⟩|⟨e,_⟩|e|⟨e,_⟩ <;> first|omega|skip
    have:=Lib.itoa_length_le n e.1 e.2;omega
  split
  . have:=jX t;omega
  split
  . simp;omega
  . simp;omega
theorem JV.encI_length:∀(xs:List JV) (f:Bool),JV.forms true xs->(JV.encI f xs).length<=30 * JV.wts xs
 | [],f,_=>by simp [JV.encI]
 | x :: r,f,h=>by unfold JV.forms at h;have h1:=JV.enc_length x h.1;have h2:=JV.encI_length r false h.2;have h3:=fw f;simp [JV.encI,JV.wts];omega
theorem JV.encO_length:∀(ns:List ByteArray) (xs:List JV) (f:Bool),JV.forms true xs->(JV.encO f ns xs).length<=30 * qh ns+30 * JV.wts xs
 | ns,[],f,_=>by simp [JV.encO]
 | [],x :: r,f,_=>by simp [JV.encO]
 | s :: ns,x :: r,f,h=>by unfold JV.forms at h;have h1:=JV.enc_length x h.1;have h2:=JV.encO_length ns r false h.2;have h3:=fw f;have h4:=jX s;simp [JV.encO,JV.wts,qh];omega
end
mutual
theorem JV.form_true {nm:Bool}:∀(v:JV),v.form nm->v.form true
 | .mk k n t ns xs,h=>by
  unfold JV.form at h ⊢;refine ⟨?_,JV.forms_true xs h.2⟩;rcases h.1 with e|⟨e,_,e2⟩|e|e|e
  . exact .inl e
  . exact .inr (.inl ⟨e,rfl,e2⟩)
  . exact .inr (.inr (.inl e))
  . exact .inr (.inr (.inr (.inl e)))
  . exact .inr (.inr (.inr (.inr e)))
theorem JV.forms_true {nm:Bool}:∀(xs:List JV),JV.forms nm xs->JV.forms true xs
 | [],_=>by unfold JV.forms;trivial
 | x :: r,h=>by unfold JV.forms at h ⊢;exact ⟨JV.form_true x h.1,JV.forms_true r h.2⟩
end
theorem JV.forms_take {nm:Bool}:∀(l:List JV) (k:Nat),JV.forms nm l->JV.forms nm (l.take k)
 | [],k,_=>by simp [JV.forms]
 | x :: r,0,_=>by simp [JV.forms]
 | x :: r,k+1,h=>by unfold JV.forms at h;simp only [N2];unfold JV.forms;exact ⟨h.1,JV.forms_take r k h.2⟩
theorem JV.wts_snoc (l:List JV) (k:Nat) (h:k<l.length):JV.wts (l.take k)+JV.wt l[k]<=JV.wts l:=by
 induction l generalizing k with
 | nil=>simp at h
 | cons x r ih =>
  cases k with
  | zero=>simp [JV.wts]
  | succ k=>have:=ih k (by simpa using h);simp [JV.wts];omega
theorem hQ (l:List ByteArray) (k:Nat) (h:k<l.length):qh (l.take k)+l[k].size+1<=qh l:=by
 induction l generalizing k with
 | nil=>simp at h
 | cons x r ih =>
  cases k with
  | zero=>simp [qh]
  | succ k=>have:=ih k (by simpa using h);simp [qh];omega
theorem JV.encI_take (l:List JV) (k:Nat) (h:k<l.length):JV.encI true (l.take (k+1))=JV.encI true (l.take k) ++ (sep (decide (k=0)) ++ l[k].enc):=by
 rw [Z7 h,JV.encI_snoc];congr 3;cases k with
 | zero=>simp
 | succ k=>cases l with
  | nil=>simp at h
  | cons x r=>simp
theorem JV.encO_take (ns:List ByteArray) (l:List JV) (k:Nat) (h:k<l.length) (a:k<ns.length):JV.encO true (ns.take (k+1)) (l.take (k+1))=JV.encO true (ns.take k) (l.take k) ++ (sep (decide (k=0)) ++ (xZ ns[k].data.toList ++ (58 :: l[k].enc))):=by
 rw [Z7 h,Z7 a,JV.encO_snoc _ _ _ _ _ (by simp;omega)];congr 3;cases k with
 | zero=>simp
 | succ k=>cases l with
  | nil=>simp at h
  | cons x r=>simp
theorem mH {v:JV} (h:v.mayB=true) (a:v.kind=5):qd v.names=true/\v.names.length=v.items.length/\v.names.all qX=true:=by
 unfold JV.mayB at h;rw [JV.may_eq] at h;split at h
 . cases h
 split at h
 . cases h
 next h2 =>
 rcases bS (by simpa using h2) with ⟨e,_⟩|⟨e,_⟩|⟨e,_⟩|e|⟨_,e1,e2,e3⟩ <;> first|omega|exact ⟨e2,e1,e3⟩
theorem uV {v:JV} {y:ByteArray} {st:PS} (d:v.wt<=4294967296):(qw v y st).1.size<=4294967296/\(qw v y st).2.asked.length<=st.asked.length+1:=by
 unfold qw;split
 . exact ⟨by show 0<=_;omega,by simp⟩
 split
 . exact ⟨by show 0<=_;omega,by simp⟩
 . next it hit =>
   split
   . refine ⟨?_,by simp⟩;have:∀(ns:List ByteArray) (xs:List JV),jy ns xs y=some it->it.wt<=JV.wts xs:=by
      intro ns
      induction ns with
      | nil=>intro xs h;simp [jy] at h
      | cons n ns ih =>
       intro xs h;cases xs with
       | nil=>simp [jy] at h
       | cons x xs =>
        rw [jy] at h;split at h
        . cases h;simp [JV.wts]
        . have:=ih xs h;simp [JV.wts];omega
     have a:=this _ _ hit;have b:=it.wt_bd;have c:=v.wt_bd;show it.t.size<=_;omega
   . exact ⟨by show 0<=_;omega,by simp⟩
def jP:List ByteArray->List JV->List Key2->List Key2 × Int
 | n :: ns,x :: xs,acc=>if zw n.data.toList=false then ([],3) else if x.kind≠3 then ([],10) else if jw x.t.data.toList=false then ([],3) else jP ns xs (acc ++ [(n,x.t)])
 | _,_,acc=>(acc,0)
def qM (v:JV):List Key2 × Int :=
 if v.mayB=false then ([],3) else if v.kind≠5 then ([],10) else if 4<v.names.length then ([],5) else if v.names.length=0 then ([],4) else jP v.names v.items []
theorem dw {ns:List ByteArray} {xs:List JV} {acc:List Key2} (k:Nat) (a:k<ns.length) (b:k<xs.length) :
 jP (ns.drop k) (xs.drop k) acc=if zw ns[k].data.toList=false then ([],3) else if xs[k].kind≠3 then ([],10) else if jw xs[k].t.data.toList=false then ([],3) else jP (ns.drop (k+1)) (xs.drop (k+1)) (acc ++ [(ns[k],xs[k].t)]):=by
 rw [V3 a,V3 b];rfl
theorem mU {ns:List ByteArray} {xs:List JV} {acc:List Key2} (k:Nat) (a:ns.length<=k):jP (ns.drop k) (xs.drop k) acc=(acc,0):=by rw [M7 a];rfl
theorem dy:∀(l:List JV) (k:Nat) (h:k<l.length),l[k].wt<=JV.wts l
 | x :: r,0,_=>by simp only [JV.wts,N6];omega
 | x :: r,k+1,h=>by have:=dy r k (by simpa using h);simp only [JV.wts,G3];omega
open Go.Shelf Go.Sort
def zg (ms:List Mem):List Value:=ms.flatMap qY
theorem sQ (ms:List Mem) (i c:Nat) (hi:i<ms.length) (a:c<6):(zg ms)[i * 6+c]?=some ((qY ms[i])[c]'(by rw [zL];exact a)):=by
 induction ms generalizing i with
 | nil=>simp at hi
 | cons v r ih =>
  unfold zg;rw [List.flatMap_cons];rcases i with _|i
  . rw [V4 (by rw [zL];omega)];simp
  . rw [Y8 (by rw [zL];omega),zL];have:=ih i (by simpa using hi);rw [show (i+1) * 6+c - 6=i * 6+c by omega];simpa [zg] using this
structure MemsAt (W0:Nat) (w:World) (v:Value) (ms:List Mem) (its:List JV):Prop where
 own:w.ownsRow W0 102 6 v ms.length (zg ms)
 len:its.length=ms.length
 reps:∀i (h:i<its.length),∃lo hi,W0<=lo/\hi<=w.heap.size/\(∀b,v.ownBlock=some b->¬(lo<=b/\b<hi))/\Rep w lo hi its[i] (ms[i]'(by omega)).val
theorem MemsAt.below {d:Nat} {w w':World} {v:Value} {ms:List Mem} {a:List JV} (h:MemsAt d w v ms a) (c:O5 w w'):MemsAt d w' v ms a :=
 ⟨qV h.own c,h.len,fun i hi=>by
  obtain ⟨lo,hi',h1,h2,h3,hr⟩:=h.reps i hi;exact ⟨lo,hi',h1,Z3 h2 c.size,h3,Rep.carry lz lz (fun b _ h=>c.block b (by omega)) _ _ hr⟩⟩
theorem MemsAt.snoc {s:Nat} {w w':World} {v v':Value} {ms:List Mem} {q:List JV} (h:MemsAt s w v ms q) (m:Mem) (it:JV) (lo hi:Nat) (C:s<=lo) (u:hi<=w.heap.size) (B:∀b,v.ownBlock=some b->¬(lo<=b/\b<hi)) (A:Rep w lo hi it m.val)
 (z:w.grownBy w' v.ownBlock) (r:w'.ownsRow s 102 6 v' (ms.length+1) (zg ms ++ qY m)) (y:v'.ownBlock=v.ownBlock\/∃g,v'.ownBlock=some g/\w.heap.size<=g):MemsAt s w' v' (ms ++ [m]) (q ++ [it]):=by
 have k:∀ {lo hi:Nat},hi<=w.heap.size->(∀b,v.ownBlock=some b->¬(lo<=b/\b<hi))->∀b,v'.ownBlock=some b->¬(lo<=b/\b<hi):=fun hz hn b hb=>by
  rcases y with e|⟨g,e,hge⟩
  . exact hn b (by rw [<- e];exact hb)
  . rw [e] at hb;simp at hb;omega
 have j:∀ {lo hi:Nat} {it:JV} {x:Value},hi<=w.heap.size->(∀b,v.ownBlock=some b->¬(lo<=b/\b<hi))->Rep w lo hi it x->Rep w' lo hi it x:=fun hz hn A =>
  Rep.carry lz lz (fun b hb1 hb2=>z.block b (by omega) (fun e=>hn b e.symm ⟨hb1,hb2⟩)) _ _ A
 have o:=h.len;refine ⟨?_,by simp [o],fun i hi'=>?_⟩
 . have e:zg (ms ++ [m])=zg ms ++ qY m:=by simp [zg]
   rw [e,K3];exact r
 . by_cases e:i<q.length
   . obtain ⟨f,a,p,d,l,c⟩:=h.reps i e;refine ⟨f,a,p,Z3 d z.size,k d l,?_⟩;rw [za8 e,za8 (by omega)];exact j d l c
   . obtain rfl:i=q.length:=by simp at hi';omega
     refine ⟨lo,hi,C,Z3 u z.size,k u B,?_⟩;rw [List.getElem_append_right (by omega),List.getElem_append_right (by omega)];simpa using j u B A
theorem MemsAt.one {d:Nat} {w:World} {c:Nat} (m:Mem) (it:JV) (lo hi:Nat) (f:d<=c) (g:d<=lo) (j:hi<=c) (h:Rep w lo hi it m.val) (e:w.heap[c]?=some (.cells (qY m).toArray 102 (0,0))):MemsAt d w (.slice (some ⟨c,0,none⟩) 1 1) [m] [it]:=by
 have a:=qz e;refine ⟨⟨rfl,.inr ⟨c,1,_,rfl,f,e,J2 _,by unfold maxLen;omega,rfl,?_⟩⟩,rfl,fun i hi'=>?_⟩
 . simp [zg,qY]
 . obtain rfl:i=0:=by simp at hi';omega
   exact ⟨lo,hi,g,by omega,fun b a=>by simp [Value.ownBlock] at a;omega,h⟩
theorem sZ {h:Nat} {w:World} {v:Value} {ms:List Mem} (f:w.ownsRow h 102 6 v ms.length (zg ms)) (i:0<ms.length):∃g cap,v=.slice (some ⟨g,0,none⟩) ms.length cap/\g<w.heap.size/\HoldsK qY 6 w g 0 ms.toArray:=by
 rcases f.2 with ⟨rfl,h00⟩|⟨g,cap,cur,rfl,hg,hh,hc,hm,hs,ht⟩
 . omega
 . refine ⟨g,cap,rfl,qz hh,fun j hj=>⟨?_,by simp [World.frozen?,hh]⟩⟩;have a:j<ms.length * 6:=by simpa using hj
   have e:(⟨g,0,none⟩:Addr).add j=⟨g,j,none⟩:=by unfold Addr.add;split <;> simp_all
   have b:=sQ ms (j / 6) (j % 6) (by omega) (by omega);rw [show j / 6 * 6+j % 6=j by omega] at b;have:=f.cells (g:=g) rfl j _ b;rw [e] at this;rw [za9,this,get_flatK qY 6 ms.toArray j (by simpa using a)];have c:j % 6<(qY (ms[j / 6]'(by omega))).length:=by rw [zL];omega
   have d:ms.toArray[j / 6]! = ms[j / 6]'(by omega):=by rw [getElem!_pos _ _ (by simp;omega)];simp
   rw [d,getElem!_pos (qY (ms[j / 6]'(by omega))) (j % 6) c];rfl
theorem gp (w:World) (lo hi:Nat) (n:Int):Rep w lo hi (qB n) (.agg #[.int .u8 2,.int .i64 n,.string ⟨#[]⟩,.slice none 0 0,.slice none 0 0]):=by unfold qB Rep;exact ⟨none,0,none,0,rfl,J2 _,J2 _,.inl rfl,.inl rfl⟩
def jr (nm:ByteArray) (n:Int):Mem:=⟨nm,2,n,⟨#[]⟩,none,0,0,none,0,0⟩
