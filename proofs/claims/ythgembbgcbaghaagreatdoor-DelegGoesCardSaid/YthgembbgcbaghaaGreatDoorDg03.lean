import Derived.StillTail
import Derived.RegionTactic
import Derived.KernelRfl
import Derived.Test.YthgembbgcbaghaaGreatDoorDg02

namespace Go.Proofs.YthgembbgcbaghaaGreatDoor
open Go
section
variable {P:Program} {ops:Array Oper} {md:Region.Mode} {Q:Exit->Act->World->Prop}
def iH (md:Region.Mode) (ops:Array Oper) (n:Nat):Bool :=
 (List.range n).all fun i=>match ops[i]? with
  | some o=>o.after.all fun e=>!(Region.binds md e) || decide (e.on<i)
  | none=>false
def iU (md:Region.Mode) (ops:Array Oper) (d:Nat->Prop) (i:Nat):Prop :=
 ∀o,ops[i]?=some o->∀e ∈ o.after,Region.binds md e=true->d e.on
def k8 (listed:Array Bool):Nat->Prop:=fun i=>listed.getD i false=true
theorem rJ {listed:Array Bool} {i:Nat} (hi:i<listed.size):k8 (listed.setIfInBounds i true)=fun j=>j=i\/k8 listed j:=by
 funext j;apply propext;unfold k8;by_cases h:i=j
 . subst h;simp [hi]
 . rw [getD_set_ne false h];constructor
   . exact .inr
   . rintro (e|e)
     . exact absurd e.symm h
     . exact e
theorem rK {n:Nat} {listed:Array Bool} (h:iH md ops n=true) (g:HeadInv md ops n listed) (j:n<ops.size) :
 ∀i,i<n->listed.getD i false=false->Region.ready md ops listed≠[]:=by
 intro i
 induction i using Nat.strongRecOn with
 | _ i ih =>
  intro hi hun h0;have a:=K7.1 h i (List.mem_range.2 hi);cases ho:ops[i]? with
  | none=>rw [ho] at a;cases a
  | some o =>
   rw [ho] at a;by_cases hall:∀e ∈ o.after,Region.binds md e=true->listed.getD e.on false=true
   . have:i ∈ Region.ready md ops listed:=mem_ready.2 ⟨getD_in (by rw [g.size];omega) hun,o,ho,hall⟩;rw [h0] at this;cases this
   . have:∃e,e ∈ o.after/\Region.binds md e=true/\listed.getD e.on false=false:=by
      apply Classical.byContradiction;intro hne;apply hall;intro e c b;cases d:listed.getD e.on false with
      | true=>rfl
      | false=>exact absurd ⟨e,c,b,d⟩ hne
     obtain ⟨e,c,b,d⟩:=this;have f:=Array.all_eq_true'.1 a e c;simp only [b,Bool.not_true,ze9,J6] at f;exact ih e.on f (by omega) d h0
def vG (n:Nat) (listed:Array Bool):Nat:=((List.range n).filter fun i=>!(listed.getD i false)).length
theorem p7 (listed:Array Bool) (i:Nat) (b:listed.getD i false=false) (c:i<listed.size):∀n,
 ((List.range n).filter fun j=>!((listed.setIfInBounds i true).getD j false)).length+(if i<n then 1 else 0)=((List.range n).filter fun j=>!(listed.getD j false)).length:=by
 intro n
 induction n with
 | zero=>simp
 | succ n ih =>
  rw [List.range_succ,List.filter_append,List.filter_append,G6,G6,<- ih];by_cases h:i=n
  . subst h;have a:(listed.setIfInBounds i true).getD i false=true:=by simp [c]
    simp only [List.filter_cons,List.filter_nil,a,b];simp
  . have e:(if i<n+1 then 1 else 0)=(if i<n then 1 else 0):=by
     by_cases h2:i<n
     . rw [J8 h2,J8 (Nat.lt_succ_of_lt h2)]
     . rw [J3 h2,J3 (fun h3=>h2 (by omega))]
    rw [e];simp only [List.filter_cons,List.filter_nil];rw [getD_set_ne false h];omega
theorem rV {n i:Nat} {listed:Array Bool} (hi:i<n) (b:i<listed.size) (a:listed.getD i false=false):vG n (listed.setIfInBounds i true)+1=vG n listed:=by have:=p7 listed i a b n;rw [J8 hi] at this;exact this
theorem de {n:Nat} {listed:Array Bool} (h:vG n listed=0):∀i,i<n->listed.getD i false=true:=by intro i hi;unfold vG at h;rw [List.length_eq_zero_iff,List.filter_eq_nil_iff] at h;have:=h i (List.mem_range.2 hi);simpa using this
theorem rW {n:Nat} {listed:Array Bool} (h:0<vG n listed):∃i,i<n/\listed.getD i false=false:=by unfold vG at h;obtain ⟨i,hi⟩:=List.exists_mem_of_length_pos h;rw [List.mem_filter] at hi;exact ⟨i,List.mem_range.1 hi.1,by simpa using hi.2⟩
theorem uN {n g:Nat} (I:(Nat->Prop)->Act->World->Prop)
 (x:Region.sinkB md ops n=true) (u:Region.chainB md ops n=true) (s:n<ops.size) (v:iH md ops n=true)
 (r:∀d a w,I d a w->∀i,i<n->¬d i->iU md ops d i->wpOp P ops Q i (I (fun j=>j=i\/d j)) a w)
 (q:∀listed a w,HeadInv md ops n listed->(∀i,i<n->listed.getD i false=true)->I (k8 listed) a w->wpAny P md ops Q g listed a w) :
 ∀(f:Nat) (listed:Array Bool) (a:Act) (w:World),HeadInv md ops n listed->vG n listed=f->I (k8 listed) a w->wpAny P md ops Q (f+g) listed a w
 | 0,listed,a,w,inv,h0,h=>by rw [ze8];exact q listed a w inv (de h0) h
 | f+1,listed,a,w,inv,h0,h=>by
  rw [show f+1+g=(f+g)+1 by omega];obtain ⟨i,hi,hl⟩:=rW (n:=n) (listed:=listed) (by omega);refine ⟨fun h1=>absurd h1 (rK v inv s i hi hl),fun j hj=>?_⟩;have hjn:j<n:=by
   rcases Nat.lt_or_ge j n with h|h
   . exact h
   . exact absurd hj (tail_waits x u s inv _ i rfl hi (getD_in (by rw [inv.size];omega) hl) j h)
  obtain ⟨m,p,l,c⟩:=mem_ready.1 hj;have k:j<listed.size:=by rw [inv.size];omega
  have b:=getD_both m;refine wpOp_mono (fun a' w' h'=>uN I x u s v r q f _ a' w' (inv.set hj hjn) ?_ ?_) (r (k8 listed) a w h j hjn ?_ ?_)
  . have:=rV hjn k b;omega
  . rw [rJ k];exact h'
  . unfold k8;rw [b];simp
  . intro o ho e he hb;have:o=p:=Y9 (ho.symm.trans l);subst this;exact c e he hb
def wJ (n m:Nat):Array Bool:=((List.range m).map fun i=>decide (i<n)).toArray
theorem dQ {n:Nat} {listed:Array Bool} (a:HeadInv md ops n listed) (h:∀i,i<n->listed.getD i false=true):listed=wJ n ops.size:=by
 apply Array.ext
 . simp [wJ,a.size]
 . intro i h1 h2;by_cases hi:i<n
   . have:=h i hi;simp [wJ,hi];simpa [h1] using this
   . have:=getD_both (a.tail i (by omega) (by rw [<- a.size];exact h1));simp [wJ,hi];simpa [h1] using this
theorem qP {v:Nat} {a:Act} {w:World} {l:List Oper} (n:Nat) (I:(Nat->Prop)->Act->World->Prop) (u:P.follows .mixedOrders=true)
 (s:(decide (n<l.length) && Region.sinkB .any l.toArray n && Region.chainB .any l.toArray n && iH .any l.toArray n && Region.seqB .any l.toArray (l.length - n) n (wJ n l.length))=true)
 (first:I (fun _=>False) a { w with drawn:=w.drawn+1 })
 (step:∀d a w,I d a w->∀i,i<n->¬d i->iU .any l.toArray d i->wpOp P l.toArray Q i (I (fun j=>j=i\/d j)) a w)
 (last:∀d a w,(∀i,i<n->d i)->I d a w->wpList P l.toArray Q (l.drop n) a w):(Code.region v l.toArray true).wp P Q a w:=by
 simp only [X3,J6] at s;obtain ⟨⟨⟨⟨m,q⟩,f⟩,h⟩,o⟩:=s;refine wp_region_any u ?_;have c:HeadInv .any l.toArray n (Array.replicate l.toArray.size false) :=
  ⟨by simp,fun j oj _ hl=>(by rw [getD_replicate_false] at hl;cases hl),fun t _ ht=>getD_in (by simpa using ht) (getD_replicate_false _ _)⟩
 have e:k8 (Array.replicate l.toArray.size false)=fun _=>False:=(by funext i;unfold k8;rw [getD_replicate_false];simp);have r:vG n (Array.replicate l.toArray.size false)=n:=(by unfold vG;rw [List.filter_eq_self.2 (fun i _=>by rw [getD_replicate_false];rfl),List.length_range]);have b:(l.drop n).length=l.length - n:=by simp
 have:=uN (P:=P) (Q:=Q) (g:=l.length - n) I q f (by simpa using m) h step (fun listed a' w' inv hall hI=>by
  have k:=dQ inv hall;have p:=last (k8 listed) a' w' hall hI;have:=wpAny_of_seq (md:=.any) (Q':=Q) (l.drop n) n listed a' w' (fun j=>by simp [List.getElem?_drop]) (by rw [b,k];simpa using o) p;rwa [b] at this) n _ a { w with drawn:=w.drawn+1 } c r (by rw [e];exact first)
 rw [show n+(l.length - n)=l.toArray.size by simp;omega] at this;exact this
end
open Go.RowKit
structure MP where
 p:World->Value->Prop
 mono:∀(w w':World) (x:Value),O5 w w'->p w x->p w' x
def MP.con (v:Value):MP:=⟨fun _ x=>x=v,fun _ _ _ _ h=>h⟩
def MP.any:MP:=⟨fun _ _=>True,fun _ _ _ _ h=>h⟩
def yu (B n T:Nat) (cs:Array Value) (w:World) (x:Value):Prop:=∃b,B<=b/\x=.slice (some ⟨b,0,none⟩) n n/\w.heap[b]?=some (.cells cs T (0,0))
theorem yu.mono {B n T:Nat} {cs:Array Value} {w w':World} {x:Value} (e:O5 w w') (h:yu B n T cs w x):yu B n T cs w' x:=by obtain ⟨b,c,d,a⟩:=h;exact ⟨b,c,d,by rw [e.block _ (qx a)];exact a⟩
theorem yu.made {w:World} {B n T:Nat} (cs:Array Value) (a:B<=w.heap.size):yu B n T cs (w.alloc (.cells cs T)) (.slice (some ⟨w.heap.size,0,none⟩) n n):=⟨_,a,rfl,J2 w _⟩
def MP.row (B n T:Nat) (cs:Array Value):MP:=⟨yu B n T cs,fun _ _ _ hb h=>h.mono hb⟩
def zW (wb:World) (V:List MP) (d:Nat->Prop) (w':World) (xs:List Value):Prop :=
 O5 wb w'/\xs.length=V.length/\∀(j:Nat) (m:MP) (x:Value),V[j]?=some m->xs[j]?=some x->d j->m.p w' x
theorem zW.first (a:World) (V:List MP) (b:List Value) (h:b.length=V.length):zW a V (fun _=>False) a.drew b:=⟨(J0 _ _).drew,h,fun _ _ _ _ _ hd=>hd.elim⟩
theorem zW.get {f w':World} {V:List MP} {d:Nat->Prop} {a:List Value} (h:zW f V d w' a) (j:Nat) (c:d j) (m:MP) (b:V[j]?=some m) (x:Value) (e:a[j]?=some x):m.p w' x:=h.2.2 j m x b e c
theorem zW.did {k w' b:World} {V:List MP} {d:Nat->Prop} {c:List Value} (h:zW k V d w' c) (g:O5 w' b) (j:Nat) (y:Value) (m:MP) (f:V[j]?=some m) (l:m.p b y):zW k V (fun i=>i=j\/d i) b (c.set j y):=by
 refine ⟨h.1.trans (g.mono h.1.size),by rw [List.length_set];exact h.2.1,fun i m' x hm hx hd=>?_⟩;by_cases e:i=j
 . subst e;rw [f] at hm;cases hm;have a:i<c.length:=by rw [h.2.1];exact (List.getElem?_eq_some_iff.1 f).1
   rw [List.getElem?_set_self a] at hx;cases hx;exact l
 . rw [List.getElem?_set_ne (Ne.symm e)] at hx;exact m'.mono _ _ _ g (h.2.2 i m' x hm hx (hd.resolve_left e))
theorem zW.same {a w':World} {V:List MP} {d:Nat->Prop} {b:List Value} (h:zW a V d w' b) (j:Nat) (y:Value) (m:MP) (c:V[j]?=some m) (e:m.p w' y):zW a V (fun i=>i=j\/d i) w' (b.set j y):=h.did (J0 _ _) j y m c e
theorem zW.new {a w':World} {V:List MP} {d:Nat->Prop} {b:List Value} (h:zW a V d w' b) (o:Obj) (j:Nat) (y:Value) (m:MP) (c:V[j]?=some m) (e:m.p (w'.alloc o) y):zW a V (fun i=>i=j\/d i) (w'.alloc o) (b.set j y):=h.did O4 j y m c e
theorem zW.con {g w':World} {V l:List MP} {d:Nat->Prop} {a:List Value} {v x:Value} (h:zW g V d w' a) (j:Nat) (c:d j) (b:Hid (V=l)) (e:l[j]?=some (.con v)) (f:a[j]?=some x):x=v:=h.get j c (.con v) (by rw [b.o];exact e) x f
theorem O3 {md:Region.Mode} {e:Array Oper} {d:Nat->Prop} {i:Nat} (g:iU md e d i) (j:Nat) (gr:Ground) {o:Oper} (a:e[i]?=some o:=by rfl) (b:(⟨j,gr⟩:Edge) ∈ o.after:=by simp) (c:Region.binds md ⟨j,gr⟩=true:=by rfl):d j:=g o a ⟨j,gr⟩ b c
theorem zW.cn {p w':World} {V l:List MP} {d:Nat->Prop} {k:List Value} {v x:Value} {md:Region.Mode} {f:Array Oper} {i:Nat} (h:zW p V d w' k) (g:iU md f d i) (m:Hid (V=l)) (j:Nat) (gr:Ground) {o:Oper} (a:f[i]?=some o:=by rfl) (b:(⟨j,gr⟩:Edge) ∈ o.after:=by simp) (c:Region.binds md ⟨j,gr⟩=true:=by rfl) (e:l[j]?=some (.con v):=by rfl) (hx:k[j]?=some x:=by rfl):x=v:=h.con j (g o a ⟨j,gr⟩ b c) m e hx
theorem zW.sameC {a w':World} {V l:List MP} {d:Nat->Prop} {b:List Value} (h:zW a V d w' b) (j:Nat) (y:Value) (c:Hid (V=l)) (e:l[j]?=some (.con y)):zW a V (fun i=>i=j\/d i) w' (b.set j y):=h.same j y (.con y) (by rw [c.o];exact e) rfl
theorem zW.didC {b w' a:World} {V l:List MP} {d:Nat->Prop} {c:List Value} (h:zW b V d w' c) (g:O5 w' a) (j:Nat) (y:Value) (f:Hid (V=l)) (e:l[j]?=some (.con y)):zW b V (fun i=>i=j\/d i) a (c.set j y):=h.did g j y (.con y) (by rw [f.o];exact e) rfl
theorem j9 (w:World) (o a:Obj):((w.alloc o).alloc a).heap[w.heap.size+1]?=some a:=by have:=J2 (w.alloc o) a;rwa [show (w.alloc o).heap.size=w.heap.size+1 by simp] at this
theorem zG (w:World) (o a:Obj):((w.alloc o).alloc a).heap[w.heap.size]?=some o:=(Y4 _ _ _ (by simp)).trans (J2 w o)
mutual
def JV.sameB:JV->JV->Bool
 | .mk k n t ns xs,.mk k' n' t' ns' xs'=>decide (k=k') && (decide (n=n') && (decide (t=t') && (decide (ns=ns') && (decide (xs.length=xs'.length) && JV.sameL xs xs'))))
def JV.sameL:List JV->List JV->Bool
 | [],_=>true
 | _ :: _,[]=>true
 | x :: xs,y :: ys=>JV.sameB x y && JV.sameL xs ys
end
mutual
theorem JV.sameB_iff:∀(v u:JV),v.sameB u=true↔v=u
 | .mk k n t ns xs,.mk k' n' t' ns' xs'=>by
  rw [JV.sameB];simp only [X3,J6];constructor
  . rintro ⟨rfl,rfl,rfl,rfl,hl,hs⟩;rw [(JV.sameL_iff xs xs' hl).1 hs]
  . intro h;injection h with h1 h2 h3 h4 h5
    subst h1 h2 h3 h4 h5;exact ⟨rfl,rfl,rfl,rfl,rfl,(JV.sameL_iff xs xs rfl).2 rfl⟩
theorem JV.sameL_iff:∀(xs ys:List JV),xs.length=ys.length->(JV.sameL xs ys=true↔xs=ys)
 | [],[],_=>by simp [JV.sameL]
 | [],_ :: _,h=>by simp at h
 | _ :: _,[],h=>by simp at h
 | x :: xs,y :: ys,h=>by rw [JV.sameL,X3,JV.sameB_iff x y,JV.sameL_iff xs ys (by simpa using h)];simp
end
def ZS (w:World) (b off m:Nat):Prop:=∃cs t,w.heap[b]?=some (.cells cs t (0,0))/\off+m<=cs.size
theorem Qq:(Tryz.prog.info? 43).map (fun i=>(i.zero,i.size,i.bytes))=some (some (.agg #[.string ⟨#[]⟩,.string ⟨#[]⟩]),2,32):=by kernel_rfl
theorem Qz {p s:List Int} {g:GS} (h:GOk p s g) (a:g.i=p.length) (b:g.j=s.length):wZ p s g=true:=by
 rw [wI h];have:j8 p s g=.inr true:=by unfold j8;rw [J8 ⟨a,b⟩]
 rw [this]
theorem rY {p s:List Int} {g c:GS} (h:GOk p s g) (e:j8 p s g=.inl c):wZ p s g=wZ p s c/\GOk p s c/\gmu p s c<gmu p s g:=by obtain ⟨a,b⟩:=y7 h e;refine ⟨?_,a,b⟩;rw [wI h,e]
theorem iM {p s:List Int} {g:GS} (h:GOk p s g) (a:g.i<p.length) (b:p.getD g.i 0=42):wZ p s g=wZ p s ⟨g.i+1,g.j,g.i+1,g.j⟩/\GOk p s ⟨g.i+1,g.j,g.i+1,g.j⟩/\gmu p s ⟨g.i+1,g.j,g.i+1,g.j⟩<gmu p s g:=by refine rY h ?_;unfold j8;rw [J3 (by omega),J8 ⟨a,b⟩]
theorem Qx {p s:List Int} {g:GS} (h:GOk p s g) (a:g.i<p.length) (b:¬p.getD g.i 0=42) (c:g.j<s.length) (d:j7 (p.getD g.i 0) (s.getD g.j 0)=true):wZ p s g=wZ p s ⟨g.i+1,g.j+1,g.st,g.fr⟩/\GOk p s ⟨g.i+1,g.j+1,g.st,g.fr⟩/\gmu p s ⟨g.i+1,g.j+1,g.st,g.fr⟩<gmu p s g:=by refine rY h ?_;unfold j8;rw [J3 (by omega),J3 (fun hc=>b hc.2),J8 ⟨a,c,d⟩]
def p8 (p s:List Int) (g:GS):Prop:=(g.i=p.length/\¬g.j=s.length)\/(g.i<p.length/\¬p.getD g.i 0=42/\(g.j<s.length->j7 (p.getD g.i 0) (s.getD g.j 0)=false))
theorem vB {p s:List Int} {g:GS} (h:GOk p s g) (e:p8 p s g) (d:g.st=0\/g.fr=s.length\/s.getD g.fr 0=47):wZ p s g=false:=by
 rw [wI h];have:j8 p s g=.inr false:=by
  unfold j8;rcases e with ⟨a,b⟩|⟨a,b,c⟩
  . rw [J3 (fun hc=>b hc.2),J3 (by omega),J3 (by omega),J8 d]
  . rw [J3 (by omega),J3 (fun hc=>b hc.2),J3 (fun hc=>by rw [c hc.2.1] at hc;exact absurd hc.2.2 (by decide)),J8 d]
 rw [this]
theorem p9 {p s:List Int} {g:GS} (h:GOk p s g) (f:p8 p s g) (e:¬g.st=0/\¬g.fr=s.length/\¬s.getD g.fr 0=47):wZ p s g=wZ p s ⟨g.st,g.fr+1,g.st,g.fr+1⟩/\GOk p s ⟨g.st,g.fr+1,g.st,g.fr+1⟩/\gmu p s ⟨g.st,g.fr+1,g.st,g.fr+1⟩<gmu p s g:=by
 refine rY h ?_;have d:¬(g.st=0\/g.fr=s.length\/s.getD g.fr 0=47):=by
  rintro (a|a|a)
  . exact e.1 a
  . exact e.2.1 a
  . exact e.2.2 a
 unfold j8;rcases f with ⟨a,b⟩|⟨a,b,c⟩
 . rw [J3 (fun hc=>b hc.2),J3 (by omega),J3 (by omega),J3 d]
 . rw [J3 (by omega),J3 (fun hc=>b hc.2),J3 (fun hc=>by rw [c hc.2.1] at hc;exact absurd hc.2.2 (by decide)),J3 d]
def zR (w:World) (lo hi:Nat) (a:Option Addr) (l:List Int):Prop :=
 l=[]\/∃b off,a=some ⟨b,off,none⟩/\lo<=b/\b<hi/\∀i (_:i<l.length),w.cell? ⟨b,off+i,none⟩=some (.int .i32 (l.getD i 0))
theorem zR.at {w:World} {lo hi:Nat} {a:Option Addr} {l:List Int} (h:zR w lo hi a l) (i:Nat) (hi':i<l.length):∃b off,a=some ⟨b,off,none⟩/\lo<=b/\b<hi/\w.cell? ⟨b,off+i,none⟩=some (.int .i32 (l.getD i 0)):=by
 rcases h with h|⟨b,off,ha,hb,hb',hr⟩
 . rw [h] at hi';simp at hi'
 . exact ⟨b,off,ha,hb,hb',hr i hi'⟩
theorem zR.carry {w w':World} {lo hi lo' hi':Nat} {a:Option Addr} {l:List Int} (h:zR w lo hi a l) (d:lo'<=lo) (e:hi<=hi') (c:∀b,lo<=b->b<hi->w'.heap[b]?=w.heap[b]?):zR w' lo' hi' a l:=by
 rcases h with h|⟨b,off,ha,hb,hb',hr⟩
 . exact .inl h
 . exact .inr ⟨b,off,ha,by omega,by omega,fun i hi=>by rw [V9 (w:=w) (w':=w') (c b hb hb')];exact hr i hi⟩
theorem zR.below {w w':World} {lo hi lo' hi' B:Nat} {a:Option Addr} {l:List Int} (h:zR w lo hi a l) (e:Below B w w') (f:hi<=B) (c:lo'<=lo) (d:hi<=hi'):zR w' lo' hi' a l :=
 h.carry c d fun b _ hlt=>e.block b (by omega)
def dZ:Nat->Code->Code
 | 0,c=>c
 | n+1,.seq _ b=>dZ n b
 | _+1,_=>.skip
def Q3 (r:JV × Int) (w:World) (e:Ending) (w':World):Prop :=
 ∃an cn ai ci,e=.returned (.tuple #[.agg #[.int .u8 r.1.kind,.int .i64 r.1.n,.string r.1.t,.slice an r.1.names.length cn,.slice ai r.1.items.length ci],.int .i64 r.2]) /\
  Rep w' w.heap.size w'.heap.size r.1 (.agg #[.int .u8 r.1.kind,.int .i64 r.1.n,.string r.1.t,.slice an r.1.names.length cn,.slice ai r.1.items.length ci])/\O5 w w'
theorem rG {a:Int} {w:World} {e:Ending} {w':World} (b:e=.returned (.tuple #[.agg #[.int .u8 0,.int .i64 0,.string ⟨#[]⟩,.slice none 0 0,.slice none 0 0],.int .i64 a])/\O5 w w'):Q3 (zJ,a) w e w' :=
 ⟨none,0,none,0,b.1,yZ _ _ _,b.2⟩
