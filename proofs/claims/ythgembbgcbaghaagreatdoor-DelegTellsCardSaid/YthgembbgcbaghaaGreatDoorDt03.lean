import Derived.StillTail
import Derived.RegionTactic
import Derived.KernelRfl
import Derived.Test.YthgembbgcbaghaaGreatDoorDt02

namespace Go.Proofs.YthgembbgcbaghaaGreatDoor
open Go
section
variable {P:Program} {ops:Array Oper} {md:Region.Mode} {Q:Exit->Act->World->Prop}
def tz (md:Region.Mode) (ops:Array Oper) (n:Nat):Bool :=
 (List.range n).all fun i=>match ops[i]? with
  | some o=>o.after.all fun e=>!(Region.binds md e) || decide (e.on<i)
  | none=>false
def tx (md:Region.Mode) (ops:Array Oper) (d:Nat->Prop) (i:Nat):Prop :=
 ∀o,ops[i]?=some o->∀e ∈ o.after,Region.binds md e=true->d e.on
def kT (listed:Array Bool):Nat->Prop:=fun i=>listed.getD i false=true
theorem lY {listed:Array Bool} {i:Nat} (hi:i<listed.size):kT (listed.setIfInBounds i true)=fun j=>j=i\/kT listed j:=by
 funext j;apply propext;unfold kT;by_cases h:i=j
 . subst h;simp [hi]
 . rw [getD_set_ne false h];constructor
   . exact .inr
   . rintro (e|e)
     . exact absurd e.symm h
     . exact e
theorem lG {n:Nat} {listed:Array Bool} (hd:tz md ops n=true) (inv:HeadInv md ops n listed) (hn:n<ops.size) :
 ∀i,i<n->listed.getD i false=false->Region.ready md ops listed≠[]:=by
 intro i
 induction i using Nat.strongRecOn with
 | _ i ih =>
  intro hi hun h0;have a:=V4.1 hd i (List.mem_range.2 hi);cases ho:ops[i]? with
  | none=>rw [ho] at a;cases a
  | some o =>
   rw [ho] at a;by_cases hall:∀e ∈ o.after,Region.binds md e=true->listed.getD e.on false=true
   . have:i ∈ Region.ready md ops listed:=mem_ready.2 ⟨getD_in (by rw [inv.size];omega) hun,o,ho,hall⟩;rw [h0] at this;cases this
   . have:∃e,e ∈ o.after/\Region.binds md e=true/\listed.getD e.on false=false:=by
      apply Classical.byContradiction;intro hne;apply hall;intro e c b;cases d:listed.getD e.on false with
      | true=>rfl
      | false=>exact absurd ⟨e,c,b,d⟩ hne
     obtain ⟨e,c,b,d⟩:=this;have f:=Array.all_eq_true'.1 a e c;simp only [b,Bool.not_true,Bool.false_or,Q6] at f;exact ih e.on f (by omega) d h0
def vZ (n:Nat) (listed:Array Bool):Nat:=((List.range n).filter fun i=>!(listed.getD i false)).length
theorem pY (listed:Array Bool) (i:Nat) (hl:listed.getD i false=false) (hs:i<listed.size):∀n,
 ((List.range n).filter fun j=>!((listed.setIfInBounds i true).getD j false)).length+(if i<n then 1 else 0)=((List.range n).filter fun j=>!(listed.getD j false)).length:=by
 intro n
 induction n with
 | zero=>simp
 | succ n ih =>
  rw [List.range_succ,List.filter_append,List.filter_append,H0,H0,<- ih];by_cases h:i=n
  . subst h;have a:(listed.setIfInBounds i true).getD i false=true:=by simp [hs]
    simp only [List.filter_cons,List.filter_nil,a,hl];simp
  . have e:(if i<n+1 then 1 else 0)=(if i<n then 1 else 0):=by
     by_cases h2:i<n
     . rw [J1 h2,J1 (Nat.lt_succ_of_lt h2)]
     . rw [Z5 h2,Z5 (fun h3=>h2 (by omega))]
    rw [e];simp only [List.filter_cons,List.filter_nil];rw [getD_set_ne false h];omega
theorem lB {n i:Nat} {listed:Array Bool} (hi:i<n) (hs:i<listed.size) (hl:listed.getD i false=false):vZ n (listed.setIfInBounds i true)+1=vZ n listed:=by have:=pY listed i hl hs n;rw [J1 hi] at this;exact this
theorem cU {n:Nat} {listed:Array Bool} (h:vZ n listed=0):∀i,i<n->listed.getD i false=true:=by intro i hi;unfold vZ at h;rw [List.length_eq_zero_iff,List.filter_eq_nil_iff] at h;have:=h i (List.mem_range.2 hi);simpa using this
theorem lP {n:Nat} {listed:Array Bool} (h:0<vZ n listed):∃i,i<n/\listed.getD i false=false:=by unfold vZ at h;obtain ⟨i,hi⟩:=List.exists_mem_of_length_pos h;rw [List.mem_filter] at hi;exact ⟨i,List.mem_range.1 hi.1,by simpa using hi.2⟩
theorem ut {n g:Nat} (I:(Nat->Prop)->Act->World->Prop)
 (hs:Region.sinkB md ops n=true) (hc:Region.chainB md ops n=true) (hn:n<ops.size) (hd:tz md ops n=true)
 (step:∀d a w,I d a w->∀i,i<n->¬d i->tx md ops d i->wpOp P ops Q i (I (fun j=>j=i\/d j)) a w)
 (last:∀listed a w,HeadInv md ops n listed->(∀i,i<n->listed.getD i false=true)->I (kT listed) a w->wpAny P md ops Q g listed a w) :
 ∀(f:Nat) (listed:Array Bool) (a:Act) (w:World),HeadInv md ops n listed->vZ n listed=f->I (kT listed) a w->wpAny P md ops Q (f+g) listed a w
 | 0,listed,a,w,inv,h0,h=>by rw [Nat.zero_add];exact last listed a w inv (cU h0) h
 | f+1,listed,a,w,inv,h0,h=>by
  rw [show f+1+g=(f+g)+1 by omega];obtain ⟨i,hi,hl⟩:=lP (n:=n) (listed:=listed) (by omega);refine ⟨fun h1=>absurd h1 (lG hd inv hn i hi hl),fun j hj=>?_⟩;have hjn:j<n:=by
   rcases Nat.lt_or_ge j n with h|h
   . exact h
   . exact absurd hj (tail_waits hs hc hn inv _ i rfl hi (getD_in (by rw [inv.size];omega) hl) j h)
  obtain ⟨m,p,l,c⟩:=mem_ready.1 hj;have k:j<listed.size:=by rw [inv.size];omega
  have b:=getD_both m;refine wpOp_mono (fun a' w' h'=>ut I hs hc hn hd step last f _ a' w' (inv.set hj hjn) ?_ ?_) (step (kT listed) a w h j hjn ?_ ?_)
  . have:=lB hjn k b;omega
  . rw [lY k];exact h'
  . unfold kT;rw [b];simp
  . intro o ho e he hb;have:o=p:=X7 (ho.symm.trans l);subst this;exact c e he hb
def wv (n m:Nat):Array Bool:=((List.range m).map fun i=>decide (i<n)).toArray
theorem cM {n:Nat} {listed:Array Bool} (inv:HeadInv md ops n listed) (h:∀i,i<n->listed.getD i false=true):listed=wv n ops.size:=by
 apply Array.ext
 . simp [wv,inv.size]
 . intro i h1 h2;by_cases hi:i<n
   . have:=h i hi;simp [wv,hi];simpa [h1] using this
   . have:=getD_both (inv.tail i (by omega) (by rw [<- inv.size];exact h1));simp [wv,hi];simpa [h1] using this
theorem qE {id:Nat} {a:Act} {w:World} {l:List Oper} (n:Nat) (I:(Nat->Prop)->Act->World->Prop) (hm:P.follows .mixedOrders=true)
 (hB:(decide (n<l.length) && Region.sinkB .any l.toArray n && Region.chainB .any l.toArray n && tz .any l.toArray n && Region.seqB .any l.toArray (l.length - n) n (wv n l.length))=true)
 (first:I (fun _=>False) a { w with drawn:=w.drawn+1 })
 (step:∀d a w,I d a w->∀i,i<n->¬d i->tx .any l.toArray d i->wpOp P l.toArray Q i (I (fun j=>j=i\/d j)) a w)
 (last:∀d a w,(∀i,i<n->d i)->I d a w->wpList P l.toArray Q (l.drop n) a w):(Code.region id l.toArray true).wp P Q a w:=by
 simp only [J4,Q6] at hB;obtain ⟨⟨⟨⟨m,q⟩,f⟩,h⟩,o⟩:=hB;refine wp_region_any hm ?_;have c:HeadInv .any l.toArray n (Array.replicate l.toArray.size false) :=
  ⟨by simp,fun j oj _ hl=>(by rw [getD_replicate_false] at hl;cases hl),fun t _ ht=>getD_in (by simpa using ht) (getD_replicate_false _ _)⟩
 have e:kT (Array.replicate l.toArray.size false)=fun _=>False:=(by funext i;unfold kT;rw [getD_replicate_false];simp);have r:vZ n (Array.replicate l.toArray.size false)=n:=(by unfold vZ;rw [List.filter_eq_self.2 (fun i _=>by rw [getD_replicate_false];rfl),List.length_range]);have b:(l.drop n).length=l.length - n:=by simp
 have:=ut (P:=P) (Q:=Q) (g:=l.length - n) I q f (by simpa using m) h step (fun listed a' w' inv hall hI=>by
  have k:=cM inv hall;have p:=last (kT listed) a' w' hall hI;have:=wpAny_of_seq (md:=.any) (Q':=Q) (l.drop n) n listed a' w' (fun j=>by simp [List.getElem?_drop]) (by rw [b,k];simpa using o) p;rwa [b] at this) n _ a { w with drawn:=w.drawn+1 } c r (by rw [e];exact first)
 rw [show n+(l.length - n)=l.toArray.size by simp;omega] at this;exact this
end
open Go.RowKit
structure MP where
 p:World->Value->Prop
 mono:∀(w w':World) (x:Value),Below w.heap.size w w'->p w x->p w' x
def MP.con (v:Value):MP:=⟨fun _ x=>x=v,fun _ _ _ _ h=>h⟩
def MP.any:MP:=⟨fun _ _=>True,fun _ _ _ _ h=>h⟩
def yq (B n T:Nat) (cs:Array Value) (w:World) (x:Value):Prop:=∃b,B<=b/\x=.slice (some ⟨b,0,none⟩) n n/\w.heap[b]?=some (.cells cs T (0,0))
theorem yq.mono {B n T:Nat} {cs:Array Value} {w w':World} {x:Value} (hb:Below w.heap.size w w') (h:yq B n T cs w x):yq B n T cs w' x:=by obtain ⟨b,c,d,a⟩:=h;exact ⟨b,c,d,by rw [hb.block _ (qx a)];exact a⟩
theorem yq.made {w:World} {B n T:Nat} (cs:Array Value) (hB:B<=w.heap.size):yq B n T cs (w.alloc (.cells cs T)) (.slice (some ⟨w.heap.size,0,none⟩) n n):=⟨_,hB,rfl,Z4 w _⟩
def MP.row (B n T:Nat) (cs:Array Value):MP:=⟨yq B n T cs,fun _ _ _ hb h=>h.mono hb⟩
def zT (wb:World) (V:List MP) (d:Nat->Prop) (w':World) (xs:List Value):Prop :=
 Below wb.heap.size wb w'/\xs.length=V.length/\∀(j:Nat) (m:MP) (x:Value),V[j]?=some m->xs[j]?=some x->d j->m.p w' x
theorem zT.first (wb:World) (V:List MP) (xs:List Value) (h:xs.length=V.length):zT wb V (fun _=>False) wb.drew xs:=⟨(Z0 _ _).drew,h,fun _ _ _ _ _ hd=>hd.elim⟩
theorem zT.get {wb w':World} {V:List MP} {d:Nat->Prop} {xs:List Value} (h:zT wb V d w' xs) (j:Nat) (hd:d j) (m:MP) (hV:V[j]?=some m) (x:Value) (hx:xs[j]?=some x):m.p w' x:=h.2.2 j m x hV hx hd
theorem zT.did {wb w' w'':World} {V:List MP} {d:Nat->Prop} {xs:List Value} (h:zT wb V d w' xs) (hb:Below w'.heap.size w' w'') (j:Nat) (y:Value) (m:MP) (hV:V[j]?=some m) (hy:m.p w'' y):zT wb V (fun i=>i=j\/d i) w'' (xs.set j y):=by
 refine ⟨h.1.trans (hb.mono h.1.size),by rw [List.length_set];exact h.2.1,fun i m' x hm hx hd=>?_⟩;by_cases e:i=j
 . subst e;rw [hV] at hm;cases hm;have a:i<xs.length:=by rw [h.2.1];exact (List.getElem?_eq_some_iff.1 hV).1
   rw [List.getElem?_set_self a] at hx;cases hx;exact hy
 . rw [List.getElem?_set_ne (Ne.symm e)] at hx;exact m'.mono _ _ _ hb (h.2.2 i m' x hm hx (hd.resolve_left e))
theorem zT.same {wb w':World} {V:List MP} {d:Nat->Prop} {xs:List Value} (h:zT wb V d w' xs) (j:Nat) (y:Value) (m:MP) (hV:V[j]?=some m) (hy:m.p w' y):zT wb V (fun i=>i=j\/d i) w' (xs.set j y):=h.did (Z0 _ _) j y m hV hy
theorem zT.new {wb w':World} {V:List MP} {d:Nat->Prop} {xs:List Value} (h:zT wb V d w' xs) (o:Obj) (j:Nat) (y:Value) (m:MP) (hV:V[j]?=some m) (hy:m.p (w'.alloc o) y):zT wb V (fun i=>i=j\/d i) (w'.alloc o) (xs.set j y):=h.did ((Z0 _ _).alloc lz _) j y m hV hy
theorem zT.con {wb w':World} {V l:List MP} {d:Nat->Prop} {xs:List Value} {v x:Value} (h:zT wb V d w' xs) (j:Nat) (hd:d j) (hV:Hid (V=l)) (e:l[j]?=some (.con v)) (hx:xs[j]?=some x):x=v:=h.get j hd (.con v) (by rw [hV.o];exact e) x hx
theorem O3 {md:Region.Mode} {ops:Array Oper} {d:Nat->Prop} {i:Nat} (g:tx md ops d i) (j:Nat) (gr:Ground) {o:Oper} (a:ops[i]?=some o:=by rfl) (b:(⟨j,gr⟩:Edge) ∈ o.after:=by simp) (c:Region.binds md ⟨j,gr⟩=true:=by rfl):d j:=g o a ⟨j,gr⟩ b c
theorem zT.cn {wb w':World} {V l:List MP} {d:Nat->Prop} {xs:List Value} {v x:Value} {md:Region.Mode} {ops:Array Oper} {i:Nat} (h:zT wb V d w' xs) (g:tx md ops d i) (hV:Hid (V=l)) (j:Nat) (gr:Ground) {o:Oper} (a:ops[i]?=some o:=by rfl) (b:(⟨j,gr⟩:Edge) ∈ o.after:=by simp) (c:Region.binds md ⟨j,gr⟩=true:=by rfl) (e:l[j]?=some (.con v):=by rfl) (hx:xs[j]?=some x:=by rfl):x=v:=h.con j (g o a ⟨j,gr⟩ b c) hV e hx
theorem zT.sameC {wb w':World} {V l:List MP} {d:Nat->Prop} {xs:List Value} (h:zT wb V d w' xs) (j:Nat) (y:Value) (hV:Hid (V=l)) (e:l[j]?=some (.con y)):zT wb V (fun i=>i=j\/d i) w' (xs.set j y):=h.same j y (.con y) (by rw [hV.o];exact e) rfl
theorem zT.didC {wb w' w'':World} {V l:List MP} {d:Nat->Prop} {xs:List Value} (h:zT wb V d w' xs) (hb:Below w'.heap.size w' w'') (j:Nat) (y:Value) (hV:Hid (V=l)) (e:l[j]?=some (.con y)):zT wb V (fun i=>i=j\/d i) w'' (xs.set j y):=h.did hb j y (.con y) (by rw [hV.o];exact e) rfl
theorem jq (w:World) (o o':Obj):((w.alloc o).alloc o').heap[w.heap.size+1]?=some o':=by have:=Z4 (w.alloc o) o';rwa [show (w.alloc o).heap.size=w.heap.size+1 by simp] at this
theorem zl (w:World) (o o':Obj):((w.alloc o).alloc o').heap[w.heap.size]?=some o:=(X5 _ _ _ (by simp)).trans (Z4 w o)
mutual
def JV.sameB:JV->JV->Bool
 | .mk k n t ns xs,.mk k' n' t' ns' xs'=>decide (k=k') && (decide (n=n') && (decide (t=t') && (decide (ns=ns') && (decide (xs.length=xs'.length) && JV.sameL xs xs'))))
def JV.sameL:List JV->List JV->Bool
 | [],_=>true
 | _ :: _,[]=>true
 | x :: xs,y :: ys=>JV.sameB x y && JV.sameL xs ys
end
theorem JV.sameB_eq (v u:JV):v.sameB u=(decide (v.kind=u.kind) && (decide (v.n=u.n) && (decide (v.t=u.t) && (decide (v.names=u.names) && (decide (v.items.length=u.items.length) && JV.sameL v.items u.items))))):=by cases v;cases u;rw [JV.sameB];rfl
mutual
theorem JV.sameB_iff:∀(v u:JV),v.sameB u=true↔v=u
 | .mk k n t ns xs,.mk k' n' t' ns' xs'=>by
  rw [JV.sameB];simp only [J4,Q6];constructor
  . rintro ⟨rfl,rfl,rfl,rfl,hl,hs⟩;rw [(JV.sameL_iff xs xs' hl).1 hs]
  . intro h;injection h with h1 h2 h3 h4 h5
    subst h1 h2 h3 h4 h5;exact ⟨rfl,rfl,rfl,rfl,rfl,(JV.sameL_iff xs xs rfl).2 rfl⟩
theorem JV.sameL_iff:∀(xs ys:List JV),xs.length=ys.length->(JV.sameL xs ys=true↔xs=ys)
 | [],[],_=>by simp [JV.sameL]
 | [],_ :: _,h=>by simp at h
 | _ :: _,[],h=>by simp at h
 | x :: xs,y :: ys,h=>by rw [JV.sameL,J4,JV.sameB_iff x y,JV.sameL_iff xs ys (by simpa using h)];simp
end
theorem JV.sameL_take:∀(xs ys:List JV) (k:Nat) (h:k<xs.length) (h':k<ys.length),JV.sameL (xs.take (k+1)) (ys.take (k+1))=(JV.sameL (xs.take k) (ys.take k) && xs[k].sameB ys[k])
 | x :: xs,y :: ys,0,_,_=>by simp [JV.sameL]
 | x :: xs,y :: ys,k+1,h,h'=>by simp only [V8,JV.sameL,H6];rw [JV.sameL_take xs ys k (by simpa using h) (by simpa using h'),Bool.and_assoc]
theorem JV.sameL_bad:∀(xs ys:List JV) (k:Nat) (h:k<xs.length) (h':k<ys.length),xs[k].sameB ys[k]=false->JV.sameL xs ys=false
 | x :: xs,y :: ys,0,_,_,e=>by simp only [zb2] at e;simp [JV.sameL,e]
 | x :: xs,y :: ys,k+1,h,h',e=>by simp only [H6] at e;simp [JV.sameL,JV.sameL_bad xs ys k (by simpa using h) (by simpa using h') e]
theorem pk {a b:ByteArray} (h:a.toList=b.toList):a=b:=by rw [X2,X2] at h;exact ByteArray.ext (Array.toList_inj.1 h)
def QG (w:World) (b off m:Nat):Prop:=∃cs t,w.heap[b]?=some (.cells cs t (0,0))/\off+m<=cs.size
theorem ob:(Tryz.prog.info? 43).map (fun i=>(i.zero,i.size,i.bytes))=some (some (.agg #[.string ⟨#[]⟩,.string ⟨#[]⟩]),2,32):=by kernel_rfl
theorem oh {p s:List Int} {g:GS} (h:GOk p s g) (h1:g.i=p.length) (h2:g.j=s.length):ya p s g=true:=by
 rw [gW h];have:kU p s g=.inr true:=by unfold kU;rw [J1 ⟨h1,h2⟩]
 rw [this]
theorem lF {p s:List Int} {g g':GS} (h:GOk p s g) (e:kU p s g=.inl g'):ya p s g=ya p s g'/\GOk p s g'/\gmu p s g'<gmu p s g:=by obtain ⟨a,b⟩:=pW h e;refine ⟨?_,a,b⟩;rw [gW h,e]
theorem tj {p s:List Int} {g:GS} (h:GOk p s g) (h1:g.i<p.length) (h2:p.getD g.i 0=42):ya p s g=ya p s ⟨g.i+1,g.j,g.i+1,g.j⟩/\GOk p s ⟨g.i+1,g.j,g.i+1,g.j⟩/\gmu p s ⟨g.i+1,g.j,g.i+1,g.j⟩<gmu p s g:=by refine lF h ?_;unfold kU;rw [Z5 (by omega),J1 ⟨h1,h2⟩]
theorem ou {p s:List Int} {g:GS} (h:GOk p s g) (h1:g.i<p.length) (h2:¬p.getD g.i 0=42) (h3:g.j<s.length) (h4:cF (p.getD g.i 0) (s.getD g.j 0)=true):ya p s g=ya p s ⟨g.i+1,g.j+1,g.st,g.fr⟩/\GOk p s ⟨g.i+1,g.j+1,g.st,g.fr⟩/\gmu p s ⟨g.i+1,g.j+1,g.st,g.fr⟩<gmu p s g:=by refine lF h ?_;unfold kU;rw [Z5 (by omega),Z5 (fun hc=>h2 hc.2),J1 ⟨h1,h3,h4⟩]
def pG (p s:List Int) (g:GS):Prop:=(g.i=p.length/\¬g.j=s.length)\/(g.i<p.length/\¬p.getD g.i 0=42/\(g.j<s.length->cF (p.getD g.i 0) (s.getD g.j 0)=false))
theorem vX {p s:List Int} {g:GS} (h:GOk p s g) (hs:pG p s g) (h4:g.st=0\/g.fr=s.length\/s.getD g.fr 0=47):ya p s g=false:=by
 rw [gW h];have:kU p s g=.inr false:=by
  unfold kU;rcases hs with ⟨a,b⟩|⟨a,b,c⟩
  . rw [Z5 (fun hc=>b hc.2),Z5 (by omega),Z5 (by omega),J1 h4]
  . rw [Z5 (by omega),Z5 (fun hc=>b hc.2),Z5 (fun hc=>by rw [c hc.2.1] at hc;exact absurd hc.2.2 (by decide)),J1 h4]
 rw [this]
theorem pB {p s:List Int} {g:GS} (h:GOk p s g) (hs:pG p s g) (h4:¬g.st=0/\¬g.fr=s.length/\¬s.getD g.fr 0=47):ya p s g=ya p s ⟨g.st,g.fr+1,g.st,g.fr+1⟩/\GOk p s ⟨g.st,g.fr+1,g.st,g.fr+1⟩/\gmu p s ⟨g.st,g.fr+1,g.st,g.fr+1⟩<gmu p s g:=by
 refine lF h ?_;have d:¬(g.st=0\/g.fr=s.length\/s.getD g.fr 0=47):=by
  rintro (a|a|a)
  . exact h4.1 a
  . exact h4.2.1 a
  . exact h4.2.2 a
 unfold kU;rcases hs with ⟨a,b⟩|⟨a,b,c⟩
 . rw [Z5 (fun hc=>b hc.2),Z5 (by omega),Z5 (by omega),Z5 d]
 . rw [Z5 (by omega),Z5 (fun hc=>b hc.2),Z5 (fun hc=>by rw [c hc.2.1] at hc;exact absurd hc.2.2 (by decide)),Z5 d]
def xe (w:World) (lo hi:Nat) (a:Option Addr) (l:List Int):Prop :=
 l=[]\/∃b off,a=some ⟨b,off,none⟩/\lo<=b/\b<hi/\∀i (_:i<l.length),w.cell? ⟨b,off+i,none⟩=some (.int .i32 (l.getD i 0))
theorem xe.at {w:World} {lo hi:Nat} {a:Option Addr} {l:List Int} (h:xe w lo hi a l) (i:Nat) (hi':i<l.length):∃b off,a=some ⟨b,off,none⟩/\lo<=b/\b<hi/\w.cell? ⟨b,off+i,none⟩=some (.int .i32 (l.getD i 0)):=by
 rcases h with h|⟨b,off,ha,hb,hb',hr⟩
 . rw [h] at hi';simp at hi'
 . exact ⟨b,off,ha,hb,hb',hr i hi'⟩
theorem xe.carry {w w':World} {lo hi lo' hi':Nat} {a:Option Addr} {l:List Int} (h:xe w lo hi a l) (h1:lo'<=lo) (h2:hi<=hi') (hs:∀b,lo<=b->b<hi->w'.heap[b]?=w.heap[b]?):xe w' lo' hi' a l:=by
 rcases h with h|⟨b,off,ha,hb,hb',hr⟩
 . exact .inl h
 . exact .inr ⟨b,off,ha,by omega,by omega,fun i hi=>by rw [Y6 (w:=w) (w':=w') (hs b hb hb')];exact hr i hi⟩
theorem xe.below {w w':World} {lo hi lo' hi' B:Nat} {a:Option Addr} {l:List Int} (h:xe w lo hi a l) (hb:Below B w w') (hB:hi<=B) (h1:lo'<=lo) (h2:hi<=hi'):xe w' lo' hi' a l :=
 h.carry h1 h2 fun b _ hlt=>hb.block b (by omega)
def cC:Nat->Code->Code
 | 0,c=>c
 | n+1,.seq _ b=>cC n b
 | _+1,_=>.skip
def rO (r:JV × Int) (w:World) (e:Ending) (w':World):Prop :=
 ∃an cn ai ci,e=.returned (.tuple #[.agg #[.int .u8 r.1.kind,.int .i64 r.1.n,.string r.1.t,.slice an r.1.names.length cn,.slice ai r.1.items.length ci],.int .i64 r.2]) /\
  Rep w' w.heap.size w'.heap.size r.1 (.agg #[.int .u8 r.1.kind,.int .i64 r.1.n,.string r.1.t,.slice an r.1.names.length cn,.slice ai r.1.items.length ci])/\Below w.heap.size w w'
theorem pP {er:Int} {w:World} {e:Ending} {w':World} (hp:e=.returned (.tuple #[.agg #[.int .u8 0,.int .i64 0,.string ⟨#[]⟩,.slice none 0 0,.slice none 0 0],.int .i64 er])/\Below w.heap.size w w'):rO (zo,er) w e w' :=
 ⟨none,0,none,0,hp.1,yc _ _ _,hp.2⟩
end Go.Proofs.YthgembbgcbaghaaGreatDoor
