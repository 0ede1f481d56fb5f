import Derived.Test.YthgembbgcbaghaaGreatDoorDn01
import Derived.StillTail
import Derived.RegionTactic
import Derived.KernelRfl

namespace Go.Proofs.YthgembbgcbaghaaGreatDoor
open Go.RowKit
structure GS where
 i:Nat
 j:Nat
 st:Nat
 fr:Nat
def ub (a c:Int):Bool:=if a=63 then decide (c≠47) else decide (a=c)
def j7 (p s:List Int) (g:GS):GS ⊕ Bool :=
 if g.i=p.length/\g.j=s.length then .inr true
 else if g.i<p.length/\p.getD g.i 0=42 then .inl ⟨g.i+1,g.j,g.i+1,g.j⟩
 else if g.i<p.length/\g.j<s.length/\ub (p.getD g.i 0) (s.getD g.j 0)=true then .inl ⟨g.i+1,g.j+1,g.st,g.fr⟩
 else if g.st=0\/g.fr=s.length\/s.getD g.fr 0=47 then .inr false
 else .inl ⟨g.st,g.fr+1,g.st,g.fr+1⟩
def mH (p s:List Int):Nat->GS->Bool
 | 0,_=>false
 | n+1,g=>match j7 p s g with
  | .inr b=>b
  | .inl g'=>mH p s n g'
def gmu (p s:List Int) (g:GS):Nat:=((p.length - g.st) * (s.length+1)+(s.length - g.fr)) * (p.length+1)+(p.length - g.i)
def we (p s:List Int) (g:GS):Bool:=mH p s (gmu p s g+1) g
def up (p s:List Int):Bool:=we p s ⟨0,0,0,0⟩
structure GOk (p s:List Int) (g:GS):Prop where
 i:g.i<=p.length
 j:g.j<=s.length
 st:g.st<=g.i
 fr:g.fr<=g.j
theorem GOk.start (p s:List Int):GOk p s ⟨0,0,0,0⟩:=⟨Q2 _,Q2 _,Z9 _,Z9 _⟩
theorem rH {P S a c f d i i':Nat} (h:(P - c) * (S+1)+(S - d)+1<=(P - a) * (S+1)+(S - f)):((P - c) * (S+1)+(S - d)) * (P+1)+(P - i')<((P - a) * (S+1)+(S - f)) * (P+1)+(P - i):=by generalize (P - c) * (S+1)+(S - d)=x at *;generalize (P - a) * (S+1)+(S - f)=y at *;have b:(x+1) * (P+1)<=y * (P+1):=Nat.mul_le_mul_right _ h;rw [Nat.add_mul,Nat.one_mul] at b;omega
theorem gP {p s:List Int} {g o:GS} (h:GOk p s g) (e:j7 p s g=.inl o):GOk p s o/\gmu p s o<gmu p s g:=by
 obtain ⟨f,b,c,d⟩:=h;unfold j7 at e;split at e
 . cases e
 . split at e
   . rename_i a;obtain ⟨a,-⟩:=a;cases e;refine ⟨⟨a,b,Z9 _,Z9 _⟩,rH (i:=g.i) (i':=g.i+1) ?_⟩;show (p.length - (g.i+1)) * (s.length+1)+(s.length - g.j)+1<=(p.length - g.st) * (s.length+1)+(s.length - g.fr);have k:(p.length - (g.i+1)+1) * (s.length+1)<=(p.length - g.st) * (s.length+1):=Nat.mul_le_mul_right _ (by omega);rw [Nat.add_mul,Nat.one_mul] at k;omega
   . split at e
     . rename_i a;obtain ⟨a,l,-⟩:=a;cases e;refine ⟨⟨a,l,Nat.le_succ_of_le c,Nat.le_succ_of_le d⟩,?_⟩;unfold gmu;dsimp only;omega
     . split at e
       . cases e
       . rename_i a;simp only [not_or] at a;cases e;have m:g.fr<s.length:=Nat.lt_of_le_of_ne (Z5 d b) a.2.1;refine ⟨⟨Z5 c f,m,Z9 _,Z9 _⟩,rH (i:=g.i) (i':=g.st) ?_⟩;show (p.length - g.st) * (s.length+1)+(s.length - (g.fr+1))+1<=(p.length - g.st) * (s.length+1)+(s.length - g.fr);omega
theorem pY {p s:List Int}:∀(n:Nat) (g:GS),GOk p s g->gmu p s g<n->∀m,gmu p s g<m->mH p s n g=mH p s m g
 | 0,_,_,h,_,_=>by omega
 | n+1,g,hg,hn,0,hm=>by omega
 | n+1,g,hg,hn,m+1,hm=>by
  rw [mH,mH];cases e:j7 p s g with
  | inr b=>rfl
  | inl g' => obtain ⟨h1,h2⟩:=gP hg e;exact pY n g' h1 (by omega) m (by omega)
theorem yl {p s:List Int} {g:GS} (d:GOk p s g):we p s g=match j7 p s g with
 | .inr b=>b
 | .inl g'=>we p s g':=by
 unfold we;rw [mH];cases e:j7 p s g with
 | inr b=>rfl
 | inl g' => obtain ⟨a,c⟩:=gP d e;exact pY _ g' a (by omega) _ (by omega)
structure GInv (p s:List Int) (g:GS):Prop extends GOk p s g where
 on:g.st≠0->g.i+g.fr=g.j+g.st/\∀m,g.st+m<g.i->p.getD (g.st+m) 0≠42/\ub (p.getD (g.st+m) 0) (s.getD (g.fr+m) 0)=true
open Go.ChangeShapes Go.WideShapes Go.ChangeAt Go.Joins Go.Deep
section
variable {H:Type} {enc:TypeId × Value->H} {P:Program} {w:World} {spare:Nat->Bool} {held:Bool}
end
open Go
section
variable {P:Program} {ops:Array Oper} {md:Region.Mode} {Q:Exit->Act->World->Prop}
def pG (md:Region.Mode) (ops:Array Oper) (n:Nat):Bool :=
 (List.range n).all fun i=>match ops[i]? with
  | some o=>o.after.all fun e=>!(Region.binds md e) || decide (e.on<i)
  | none=>false
def fJ (md:Region.Mode) (ops:Array Oper) (d:Nat->Prop) (i:Nat):Prop :=
 ∀o,ops[i]?=some o->∀e ∈ o.after,Region.binds md e=true->d e.on
def xh (listed:Array Bool):Nat->Prop:=fun i=>listed.getD i false=true
theorem gF {listed:Array Bool} {i:Nat} (hi:i<listed.size):xh (listed.setIfInBounds i true)=fun j=>j=i\/xh listed j:=by
 funext j;apply propext;unfold xh;by_cases h:i=j
 . subst h;simp [hi]
 . rw [getD_set_ne false h];constructor
   . exact .inr
   . rintro (e|e)
     . exact absurd e.symm h
     . exact e
theorem mU {n:Nat} {listed:Array Bool} (h:pG md ops n=true) (g:HeadInv md ops n listed) (j:n<ops.size) :
 ∀i,i<n->listed.getD i false=false->Region.ready md ops listed≠[]:=by
 intro i
 induction i using Nat.strongRecOn with
 | _ i ih =>
  intro hi hun h0;have a:=X3.1 h i (List.mem_range.2 hi);cases ho:ops[i]? with
  | none=>rw [ho] at a;cases a
  | some o =>
   rw [ho] at a;by_cases hall:∀e ∈ o.after,Region.binds md e=true->listed.getD e.on false=true
   . have:i ∈ Region.ready md ops listed:=mem_ready.2 ⟨getD_in (by rw [g.size];omega) hun,o,ho,hall⟩;rw [h0] at this;cases this
   . have:∃e,e ∈ o.after/\Region.binds md e=true/\listed.getD e.on false=false:=by
      apply Classical.byContradiction;intro hne;apply hall;intro e c b;cases d:listed.getD e.on false with
      | true=>rfl
      | false=>exact absurd ⟨e,c,b,d⟩ hne
     obtain ⟨e,c,b,d⟩:=this;have f:=Array.all_eq_true'.1 a e c;simp only [b,Bool.not_true,Bool.false_or,Z7] at f;exact ih e.on f (by omega) d h0
def ju (n:Nat) (listed:Array Bool):Nat:=((List.range n).filter fun i=>!(listed.getD i false)).length
theorem gH (listed:Array Bool) (i:Nat) (b:listed.getD i false=false) (c:i<listed.size):∀n,
 ((List.range n).filter fun j=>!((listed.setIfInBounds i true).getD j false)).length+(if i<n then 1 else 0)=((List.range n).filter fun j=>!(listed.getD j false)).length:=by
 intro n
 induction n with
 | zero=>simp
 | succ n ih =>
  rw [List.range_succ,List.filter_append,List.filter_append,V6,V6,<- ih];by_cases h:i=n
  . subst h;have a:(listed.setIfInBounds i true).getD i false=true:=by simp [c]
    simp only [List.filter_cons,List.filter_nil,a,b];simp
  . have e:(if i<n+1 then 1 else 0)=(if i<n then 1 else 0):=by
     by_cases h2:i<n
     . rw [Q1 h2,Q1 (Nat.lt_succ_of_lt h2)]
     . rw [Z6 h2,Z6 (fun h3=>h2 (by omega))]
    rw [e];simp only [List.filter_cons,List.filter_nil];rw [getD_set_ne false h];omega
theorem gU {n i:Nat} {listed:Array Bool} (hi:i<n) (b:i<listed.size) (a:listed.getD i false=false):ju n (listed.setIfInBounds i true)+1=ju n listed:=by have:=gH listed i a b n;rw [Q1 hi] at this;exact this
theorem yA {n:Nat} {listed:Array Bool} (h:ju n listed=0):∀i,i<n->listed.getD i false=true:=by intro i hi;unfold ju at h;rw [List.length_eq_zero_iff,List.filter_eq_nil_iff] at h;have:=h i (List.mem_range.2 hi);simpa using this
theorem gM {n:Nat} {listed:Array Bool} (h:0<ju n listed):∃i,i<n/\listed.getD i false=false:=by unfold ju at h;obtain ⟨i,hi⟩:=List.exists_mem_of_length_pos h;rw [List.mem_filter] at hi;exact ⟨i,List.mem_range.1 hi.1,by simpa using hi.2⟩
theorem pB {n g:Nat} (I:(Nat->Prop)->Act->World->Prop)
 (x:Region.sinkB md ops n=true) (u:Region.chainB md ops n=true) (s:n<ops.size) (v:pG md ops n=true)
 (r:∀d a w,I d a w->∀i,i<n->¬d i->fJ md ops d i->wpOp P ops Q i (I (fun j=>j=i\/d j)) a w)
 (q:∀listed a w,HeadInv md ops n listed->(∀i,i<n->listed.getD i false=true)->I (xh listed) a w->wpAny P md ops Q g listed a w) :
 ∀(f:Nat) (listed:Array Bool) (a:Act) (w:World),HeadInv md ops n listed->ju n listed=f->I (xh listed) a w->wpAny P md ops Q (f+g) listed a w
 | 0,listed,a,w,inv,h0,h=>by rw [N6];exact q listed a w inv (yA h0) h
 | f+1,listed,a,w,inv,h0,h=>by
  rw [show f+1+g=(f+g)+1 by omega];obtain ⟨i,hi,hl⟩:=gM (n:=n) (listed:=listed) (by omega);refine ⟨fun h1=>absurd h1 (mU v inv s i hi hl),fun j hj=>?_⟩;have hjn:j<n:=by
   rcases Nat.lt_or_ge j n with h|h
   . exact h
   . exact absurd hj (tail_waits x u s inv _ i rfl hi (getD_in (by rw [inv.size];omega) hl) j h)
  obtain ⟨m,p,l,c⟩:=mem_ready.1 hj;have k:j<listed.size:=by rw [inv.size];omega
  have b:=getD_both m;refine wpOp_mono (fun a' w' h'=>pB I x u s v r q f _ a' w' (inv.set hj hjn) ?_ ?_) (r (xh listed) a w h j hjn ?_ ?_)
  . have:=gU hjn k b;omega
  . rw [gF k];exact h'
  . unfold xh;rw [b];simp
  . intro o ho e he hb;have:o=p:=J0 (ho.symm.trans l);subst this;exact c e he hb
def ki (n m:Nat):Array Bool:=((List.range m).map fun i=>decide (i<n)).toArray
theorem yT {n:Nat} {listed:Array Bool} (a:HeadInv md ops n listed) (h:∀i,i<n->listed.getD i false=true):listed=ki n ops.size:=by
 apply Array.ext
 . simp [ki,a.size]
 . intro i h1 h2;by_cases hi:i<n
   . have:=h i hi;simp [ki,hi];simpa [h1] using this
   . have:=getD_both (a.tail i (by omega) (by rw [<- a.size];exact h1));simp [ki,hi];simpa [h1] using this
theorem qM {v:Nat} {a:Act} {w:World} {l:List Oper} (n:Nat) (I:(Nat->Prop)->Act->World->Prop) (u:P.follows .mixedOrders=true)
 (s:(decide (n<l.length) && Region.sinkB .any l.toArray n && Region.chainB .any l.toArray n && pG .any l.toArray n && Region.seqB .any l.toArray (l.length - n) n (ki n l.length))=true)
 (first:I (fun _=>False) a { w with drawn:=w.drawn+1 })
 (step:∀d a w,I d a w->∀i,i<n->¬d i->fJ .any l.toArray d i->wpOp P l.toArray Q i (I (fun j=>j=i\/d j)) a w)
 (last:∀d a w,(∀i,i<n->d i)->I d a w->wpList P l.toArray Q (l.drop n) a w):(Code.region v l.toArray true).wp P Q a w:=by
 simp only [Q0,Z7] at s;obtain ⟨⟨⟨⟨m,q⟩,f⟩,h⟩,o⟩:=s;refine wp_region_any u ?_;have c:HeadInv .any l.toArray n (Array.replicate l.toArray.size false) :=
  ⟨by simp,fun j oj _ hl=>(by rw [getD_replicate_false] at hl;cases hl),fun t _ ht=>getD_in (by simpa using ht) (getD_replicate_false _ _)⟩
 have e:xh (Array.replicate l.toArray.size false)=fun _=>False:=(by funext i;unfold xh;rw [getD_replicate_false];simp);have r:ju n (Array.replicate l.toArray.size false)=n:=(by unfold ju;rw [List.filter_eq_self.2 (fun i _=>by rw [getD_replicate_false];rfl),List.length_range]);have b:(l.drop n).length=l.length - n:=by simp
 have:=pB (P:=P) (Q:=Q) (g:=l.length - n) I q f (by simpa using m) h step (fun listed a' w' inv hall hI=>by
  have k:=yT inv hall;have p:=last (xh listed) a' w' hall hI;have:=wpAny_of_seq (md:=.any) (Q':=Q) (l.drop n) n listed a' w' (fun j=>by simp [List.getElem?_drop]) (by rw [b,k];simpa using o) p;rwa [b] at this) n _ a { w with drawn:=w.drawn+1 } c r (by rw [e];exact first)
 rw [show n+(l.length - n)=l.toArray.size by simp;omega] at this;exact this
end
structure MP where
 p:World->Value->Prop
 mono:∀(w w':World) (x:Value),O5 w w'->p w x->p w' x
def MP.con (v:Value):MP:=⟨fun _ x=>x=v,fun _ _ _ _ h=>h⟩
def MP.any:MP:=⟨fun _ _=>True,fun _ _ _ _ h=>h⟩
def zM (B n T:Nat) (cs:Array Value) (w:World) (x:Value):Prop:=∃b,B<=b/\x=.slice (some ⟨b,0,none⟩) n n/\w.heap[b]?=some (.cells cs T (0,0))
theorem zM.mono {B n T:Nat} {cs:Array Value} {w w':World} {x:Value} (e:O5 w w') (h:zM B n T cs w x):zM B n T cs w' x:=by obtain ⟨b,c,d,a⟩:=h;exact ⟨b,c,d,by rw [e.block _ (qz a)];exact a⟩
theorem zM.made {w:World} {B n T:Nat} (cs:Array Value) (a:B<=w.heap.size):zM B n T cs (w.alloc (.cells cs T)) (.slice (some ⟨w.heap.size,0,none⟩) n n):=⟨_,a,rfl,Z4 w _⟩
def MP.row (B n T:Nat) (cs:Array Value):MP:=⟨zM B n T cs,fun _ _ _ hb h=>h.mono hb⟩
def za (wb:World) (V:List MP) (d:Nat->Prop) (w':World) (xs:List Value):Prop :=
 O5 wb w'/\xs.length=V.length/\∀(j:Nat) (m:MP) (x:Value),V[j]?=some m->xs[j]?=some x->d j->m.p w' x
theorem za.first (a:World) (V:List MP) (b:List Value) (h:b.length=V.length):za a V (fun _=>False) a.drew b:=⟨(Z0 _ _).drew,h,fun _ _ _ _ _ hd=>hd.elim⟩
theorem za.get {f w':World} {V:List MP} {d:Nat->Prop} {a:List Value} (h:za f V d w' a) (j:Nat) (c:d j) (m:MP) (b:V[j]?=some m) (x:Value) (e:a[j]?=some x):m.p w' x:=h.2.2 j m x b e c
theorem za.did {k w' b:World} {V:List MP} {d:Nat->Prop} {c:List Value} (h:za k V d w' c) (g:O5 w' b) (j:Nat) (y:Value) (m:MP) (f:V[j]?=some m) (l:m.p b y):za k V (fun i=>i=j\/d i) b (c.set j y):=by
 refine ⟨h.1.trans (g.mono h.1.size),by rw [List.length_set];exact h.2.1,fun i m' x hm hx hd=>?_⟩;by_cases e:i=j
 . subst e;rw [f] at hm;cases hm;have a:i<c.length:=by rw [h.2.1];exact (List.getElem?_eq_some_iff.1 f).1
   rw [List.getElem?_set_self a] at hx;cases hx;exact l
 . rw [List.getElem?_set_ne (Ne.symm e)] at hx;exact m'.mono _ _ _ g (h.2.2 i m' x hm hx (hd.resolve_left e))
theorem za.same {a w':World} {V:List MP} {d:Nat->Prop} {b:List Value} (h:za a V d w' b) (j:Nat) (y:Value) (m:MP) (c:V[j]?=some m) (e:m.p w' y):za a V (fun i=>i=j\/d i) w' (b.set j y):=h.did (Z0 _ _) j y m c e
theorem za.new {a w':World} {V:List MP} {d:Nat->Prop} {b:List Value} (h:za a V d w' b) (o:Obj) (j:Nat) (y:Value) (m:MP) (c:V[j]?=some m) (e:m.p (w'.alloc o) y):za a V (fun i=>i=j\/d i) (w'.alloc o) (b.set j y):=h.did O4 j y m c e
theorem za.con {g w':World} {V l:List MP} {d:Nat->Prop} {a:List Value} {v x:Value} (h:za g V d w' a) (j:Nat) (c:d j) (b:Hid (V=l)) (e:l[j]?=some (.con v)) (f:a[j]?=some x):x=v:=h.get j c (.con v) (by rw [b.o];exact e) x f
theorem O3 {md:Region.Mode} {ops:Array Oper} {d:Nat->Prop} {i:Nat} (g:fJ md ops d i) (j:Nat) (gr:Ground) {o:Oper} (a:ops[i]?=some o:=by rfl) (b:(⟨j,gr⟩:Edge) ∈ o.after:=by simp) (c:Region.binds md ⟨j,gr⟩=true:=by rfl):d j:=g o a ⟨j,gr⟩ b c
theorem za.cn {m w':World} {V l:List MP} {d:Nat->Prop} {f:List Value} {v x:Value} {md:Region.Mode} {ops:Array Oper} {i:Nat} (h:za m V d w' f) (g:fJ md ops d i) (k:Hid (V=l)) (j:Nat) (gr:Ground) {o:Oper} (a:ops[i]?=some o:=by rfl) (b:(⟨j,gr⟩:Edge) ∈ o.after:=by simp) (c:Region.binds md ⟨j,gr⟩=true:=by rfl) (e:l[j]?=some (.con v):=by rfl) (hx:f[j]?=some x:=by rfl):x=v:=h.con j (g o a ⟨j,gr⟩ b c) k e hx
theorem za.sameC {a w':World} {V l:List MP} {d:Nat->Prop} {b:List Value} (h:za a V d w' b) (j:Nat) (y:Value) (c:Hid (V=l)) (e:l[j]?=some (.con y)):za a V (fun i=>i=j\/d i) w' (b.set j y):=h.same j y (.con y) (by rw [c.o];exact e) rfl
theorem za.didC {b w' a:World} {V l:List MP} {d:Nat->Prop} {c:List Value} (h:za b V d w' c) (g:O5 w' a) (j:Nat) (y:Value) (f:Hid (V=l)) (e:l[j]?=some (.con y)):za b V (fun i=>i=j\/d i) a (c.set j y):=h.did g j y (.con y) (by rw [f.o];exact e) rfl
section
variable {P:Program} {ops:Array Oper} {md:Region.Mode} {Q:Exit->Act->World->Prop}
theorem uf {n:Nat} {listed:Array Bool} (h:pG md ops n=true) (g:HeadInv md ops n listed) (j:n<=ops.size) :
 ∀i,i<n->listed.getD i false=false->Region.ready md ops listed≠[]:=by
 intro i
 induction i using Nat.strongRecOn with
 | _ i ih =>
  intro hi hun h0;have a:=X3.1 h i (List.mem_range.2 hi);cases ho:ops[i]? with
  | none=>rw [ho] at a;cases a
  | some o =>
   rw [ho] at a;by_cases hall:∀e ∈ o.after,Region.binds md e=true->listed.getD e.on false=true
   . have:i ∈ Region.ready md ops listed:=mem_ready.2 ⟨getD_in (by rw [g.size];omega) hun,o,ho,hall⟩;rw [h0] at this;cases this
   . have:∃e,e ∈ o.after/\Region.binds md e=true/\listed.getD e.on false=false:=by
      apply Classical.byContradiction;intro hne;apply hall;intro e c b;cases d:listed.getD e.on false with
      | true=>rfl
      | false=>exact absurd ⟨e,c,b,d⟩ hne
     obtain ⟨e,c,b,d⟩:=this;have f:=Array.all_eq_true'.1 a e c;simp only [b,Bool.not_true,Bool.false_or,Z7] at f;exact ih e.on f (by omega) d h0
theorem gC {n g:Nat} (I:(Nat->Prop)->Act->World->Prop) (p:n=ops.size) (m:pG md ops n=true)
 (l:∀d a w,I d a w->∀i,i<n->¬d i->fJ md ops d i->wpOp P ops Q i (I (fun j=>j=i\/d j)) a w)
 (k:∀listed a w,HeadInv md ops n listed->(∀i,i<n->listed.getD i false=true)->I (xh listed) a w->wpAny P md ops Q g listed a w) :
 ∀(f:Nat) (listed:Array Bool) (a:Act) (w:World),HeadInv md ops n listed->ju n listed=f->I (xh listed) a w->wpAny P md ops Q (f+g) listed a w
 | 0,listed,a,w,inv,h0,h=>by rw [N6];exact k listed a w inv (yA h0) h
 | f+1,listed,a,w,inv,h0,h=>by
  rw [show f+1+g=(f+g)+1 by omega];obtain ⟨i,hi,hl⟩:=gM (n:=n) (listed:=listed) (by omega);refine ⟨fun h1=>absurd h1 (uf m inv (by omega) i hi hl),fun j hj=>?_⟩;obtain ⟨hun,oj,hoj,hall⟩:=mem_ready.1 hj;have hjn:j<n:=by rw [p];exact (H0.1 hoj).1
  have c:j<listed.size:=by rw [inv.size];omega
  have b:=getD_both hun;refine wpOp_mono (fun a' w' h'=>gC I p m l k f _ a' w' (inv.set hj hjn) ?_ ?_) (l (xh listed) a w h j hjn ?_ ?_)
  . have:=gU hjn c b;omega
  . rw [gF c];exact h'
  . unfold xh;rw [b];simp
  . intro o ho e he hb;have:o=oj:=J0 (ho.symm.trans hoj);subst this;exact hall e he hb
theorem pl {r:Nat} {a:Act} {w:World} {l:List Oper} (I:(Nat->Prop)->Act->World->Prop) (q:P.follows .mixedOrders=true) (n:Nat) (o:l.length=n)
 (p:(pG .any l.toArray n && Region.seqB .any l.toArray 0 n (ki n n))=true)
 (first:I (fun _=>False) a { w with drawn:=w.drawn+1 })
 (step:∀d a w,I d a w->∀i,i<n->¬d i->fJ .any l.toArray d i->wpOp P l.toArray Q i (I (fun j=>j=i\/d j)) a w)
 (last:∀d a w,(∀i,i<n->d i)->I d a w->wpList P l.toArray Q [] a w):(Code.region r l.toArray true).wp P Q a w:=by
 subst o;simp only [Q0] at p;obtain ⟨e,h⟩:=p;refine wp_region_any q ?_;have b:HeadInv .any l.toArray l.length (Array.replicate l.toArray.size false) :=
  ⟨by simp,fun j oj _ o=>(by rw [getD_replicate_false] at o;cases o),fun t _ ht=>getD_in (by simpa using ht) (getD_replicate_false _ _)⟩
 have c:xh (Array.replicate l.toArray.size false)=fun _=>False:=(by funext i;unfold xh;rw [getD_replicate_false];simp);have m:ju l.length (Array.replicate l.toArray.size false)=l.length:=(by unfold ju;rw [List.filter_eq_self.2 (fun i _=>by rw [getD_replicate_false];rfl),List.length_range]);have:=gC (P:=P) (Q:=Q) (g:=0) I (by simp) e step (fun listed a' w' inv hall hI=>by
  have f:=yT inv hall;have k:=last (xh listed) a' w' hall hI;have:=wpAny_of_seq (P:=P) (md:=.any) (ops:=l.toArray) (Q':=Q) [] l.length listed a' w' (fun j=>by simp) (by rw [f];simpa using h) k;simpa using this) _ _ a { w with drawn:=w.drawn+1 } b m (by rw [c];exact first)
 simpa using this
end
def upd (f:Nat->Value) (k:Nat) (y:Value):Nat->Value:=fun i=>if i=k then y else f i
def wQ (wb:World) (V:List MP) (s:Nat) (d:Nat->Prop) (w':World) (f:Nat->Value):Prop :=
 O5 wb w'/\∀(j:Nat) (m:MP),V[j]?=some m->d j->m.p w' (f (s+j))
theorem wQ.first (a:World) (V:List MP) (s:Nat) (f:Nat->Value):wQ a V s (fun _=>False) a.drew f:=⟨(Z0 _ _).drew,fun _ _ _ hd=>hd.elim⟩
theorem wQ.get {c w':World} {V:List MP} {s:Nat} {d:Nat->Prop} {f:Nat->Value} (h:wQ c V s d w' f) (j:Nat) (b:d j) (m:MP) (a:V[j]?=some m):m.p w' (f (s+j)):=h.2 j m a b
theorem wQ.did {c w' a:World} {V:List MP} {s:Nat} {d:Nat->Prop} {f:Nat->Value} (h:wQ c V s d w' f) (b:O5 w' a) (j:Nat) (y:Value) (m:MP) (g:V[j]?=some m) (k:m.p a y):wQ c V s (fun i=>i=j\/d i) a (upd f (s+j) y):=by
 refine ⟨h.1.trans (b.mono h.1.size),fun i m' hm hd=>?_⟩;unfold upd;by_cases e:i=j
 . subst e;rw [g] at hm;cases hm;rw [Q1 rfl];exact k
 . rw [Z6 (by omega)];exact m'.mono _ _ _ b (h.2 i m' hm (hd.resolve_left e))
theorem wQ.same {a w':World} {V:List MP} {s:Nat} {d:Nat->Prop} {f:Nat->Value} (h:wQ a V s d w' f) (j:Nat) (y:Value) (m:MP) (b:V[j]?=some m) (c:m.p w' y):wQ a V s (fun i=>i=j\/d i) w' (upd f (s+j) y):=h.did (Z0 _ _) j y m b c
theorem wQ.new {a w':World} {V:List MP} {s:Nat} {d:Nat->Prop} {f:Nat->Value} (h:wQ a V s d w' f) (o:Obj) (j:Nat) (y:Value) (m:MP) (b:V[j]?=some m) (c:m.p (w'.alloc o) y):wQ a V s (fun i=>i=j\/d i) (w'.alloc o) (upd f (s+j) y):=h.did O4 j y m b c
theorem cell_of {w:World} {b T j:Nat} {cs:List Value} {u:Value} (h:w.heap[b]?=some (.cells cs.toArray T (0,0))) (a:cs[j]?=some u):w.cell? ⟨b,j,none⟩=some u:=by simp [World.cell?,h,a]
theorem uh {w:World} {lo hi a c:Nat} (b:List ByteArray) (d:lo<=a) (e:a<hi) (f:w.heap[a]?=some (.cells (b.map Value.string).toArray c (0,0))):qy w lo hi (some ⟨a,0,none⟩) b :=
 .inr ⟨a,0,rfl,d,e,fun i hi'=>by rw [N6];exact cell_of f (by simp [hi'])⟩
