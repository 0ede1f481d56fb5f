import Derived.StillTail
import Derived.RegionTactic
import Derived.KernelRfl
import Derived.Test.YtkllbdlebjomkaaGreatDoorTn02
set_option maxHeartbeats 400000

namespace Go.Proofs.YtkllbdlebjomkaaGreatDoor
open Go
section
variable {P:Program} {ops:Array Oper} {md:Region.Mode} {Q:Exit->Act->World->Prop}
def ul (md:Region.Mode) (ops:Array Oper) (n:Nat):Bool :=
 (List.range n).all fun i=>match ops[i]? with
  | some o=>o.after.all fun e=>!(Region.binds md e) || decide (e.on<i)
  | none=>false
def mX (md:Region.Mode) (ops:Array Oper) (d:Nat->Prop) (i:Nat):Prop :=
 ∀o,ops[i]?=some o->∀e ∈ o.after,Region.binds md e=true->d e.on
def xf (listed:Array Bool):Nat->Prop:=fun i=>listed.getD i false=true
theorem pM {listed:Array Bool} {i:Nat} (hi:i<listed.size):xf (listed.setIfInBounds i true)=fun j=>j=i\/xf listed j:=by
 funext j;apply propext;unfold xf;by_cases h:i=j
 . subst h;simp [hi]
 . rw [getD_set_ne false h];constructor
   . exact .inr
   . rintro (e|e)
     . exact absurd e.symm h
     . exact e
theorem lI {n:Nat} {listed:Array Bool} (h:ul md ops n=true) (g:HeadInv md ops n listed) (j:n<ops.size) :
 ∀i,i<n->listed.getD i false=false->Region.ready md ops listed≠[]:=by
 intro i
 induction i using Nat.strongRecOn with
 | _ i ih =>
  intro hi hun h0;have a:=X9.1 h i (List.mem_range.2 hi);cases ho:ops[i]? with
  | none=>rw [ho] at a;cases a
  | some o =>
   rw [ho] at a;by_cases hall:∀e ∈ o.after,Region.binds md e=true->listed.getD e.on false=true
   . have:i ∈ Region.ready md ops listed:=mem_ready.2 ⟨getD_in (by rw [g.size];omega) hun,o,ho,hall⟩;rw [h0] at this;cases this
   . have:∃e,e ∈ o.after/\Region.binds md e=true/\listed.getD e.on false=false:=by
      apply Classical.byContradiction;intro hne;apply hall;intro e c b;cases d:listed.getD e.on false with
      | true=>rfl
      | false=>exact absurd ⟨e,c,b,d⟩ hne
     obtain ⟨e,c,b,d⟩:=this;have f:=Array.all_eq_true'.1 a e c;simp only [b,Bool.not_true,Bool.false_or,J1] at f;exact ih e.on f (by omega) d h0
def jC (n:Nat) (listed:Array Bool):Nat:=((List.range n).filter fun i=>!(listed.getD i false)).length
theorem pC (listed:Array Bool) (i:Nat) (b:listed.getD i false=false) (c:i<listed.size):∀n,
 ((List.range n).filter fun j=>!((listed.setIfInBounds i true).getD j false)).length+(if i<n then 1 else 0)=((List.range n).filter fun j=>!(listed.getD j false)).length:=by
 intro n
 induction n with
 | zero=>simp
 | succ n ih =>
  rw [List.range_succ,List.filter_append,List.filter_append,K3,K3,<- ih];by_cases h:i=n
  . subst h;have a:(listed.setIfInBounds i true).getD i false=true:=by simp [c]
    simp only [List.filter_cons,List.filter_nil,a,b];simp
  . have e:(if i<n+1 then 1 else 0)=(if i<n then 1 else 0):=by
     by_cases h2:i<n
     . rw [J3 h2,J3 (Nat.lt_succ_of_lt h2)]
     . rw [Z6 h2,Z6 (fun h3=>h2 (by omega))]
    rw [e];simp only [List.filter_cons,List.filter_nil];rw [getD_set_ne false h];omega
theorem pD {n i:Nat} {listed:Array Bool} (hi:i<n) (b:i<listed.size) (a:listed.getD i false=false):jC n (listed.setIfInBounds i true)+1=jC n listed:=by have:=pC listed i a b n;rw [J3 hi] at this;exact this
theorem bQ {n:Nat} {listed:Array Bool} (h:jC n listed=0):∀i,i<n->listed.getD i false=true:=by intro i hi;unfold jC at h;rw [List.length_eq_zero_iff,List.filter_eq_nil_iff] at h;have:=h i (List.mem_range.2 hi);simpa using this
theorem pL {n:Nat} {listed:Array Bool} (h:0<jC n listed):∃i,i<n/\listed.getD i false=false:=by unfold jC at h;obtain ⟨i,hi⟩:=List.exists_mem_of_length_pos h;rw [List.mem_filter] at hi;exact ⟨i,List.mem_range.1 hi.1,by simpa using hi.2⟩
theorem ur {n g:Nat} (I:(Nat->Prop)->Act->World->Prop)
 (x:Region.sinkB md ops n=true) (u:Region.chainB md ops n=true) (s:n<ops.size) (v:ul md ops n=true)
 (r:∀d a w,I d a w->∀i,i<n->¬d i->mX md ops d i->wpOp P ops Q i (I (fun j=>j=i\/d j)) a w)
 (q:∀listed a w,HeadInv md ops n listed->(∀i,i<n->listed.getD i false=true)->I (xf listed) a w->wpAny P md ops Q g listed a w) :
 ∀(f:Nat) (listed:Array Bool) (a:Act) (w:World),HeadInv md ops n listed->jC n listed=f->I (xf listed) a w->wpAny P md ops Q (f+g) listed a w
 | 0,listed,a,w,inv,h0,h=>by rw [za9];exact q listed a w inv (bQ h0) h
 | f+1,listed,a,w,inv,h0,h=>by
  rw [show f+1+g=(f+g)+1 by omega];obtain ⟨i,hi,hl⟩:=pL (n:=n) (listed:=listed) (by omega);refine ⟨fun h1=>absurd h1 (lI v inv s i hi hl),fun j hj=>?_⟩;have hjn:j<n:=by
   rcases Nat.lt_or_ge j n with h|h
   . exact h
   . exact absurd hj (tail_waits x u s inv _ i rfl hi (getD_in (by rw [inv.size];omega) hl) j h)
  obtain ⟨m,p,l,c⟩:=mem_ready.1 hj;have k:j<listed.size:=by rw [inv.size];omega
  have b:=getD_both m;refine wpOp_mono (fun a' w' h'=>ur I x u s v r q f _ a' w' (inv.set hj hjn) ?_ ?_) (r (xf listed) a w h j hjn ?_ ?_)
  . have:=pD hjn k b;omega
  . rw [pM k];exact h'
  . unfold xf;rw [b];simp
  . intro o ho e he hb;have:o=p:=X2 (ho.symm.trans l);subst this;exact c e he hb
def ve (n m:Nat):Array Bool:=((List.range m).map fun i=>decide (i<n)).toArray
theorem bJ {n:Nat} {listed:Array Bool} (a:HeadInv md ops n listed) (h:∀i,i<n->listed.getD i false=true):listed=ve n ops.size:=by
 apply Array.ext
 . simp [ve,a.size]
 . intro i h1 h2;by_cases hi:i<n
   . have:=h i hi;simp [ve,hi];simpa [h1] using this
   . have:=getD_both (a.tail i (by omega) (by rw [<- a.size];exact h1));simp [ve,hi];simpa [h1] using this
theorem qH {v:Nat} {a:Act} {w:World} {l:List Oper} (n:Nat) (I:(Nat->Prop)->Act->World->Prop) (u:P.follows .mixedOrders=true)
 (s:(decide (n<l.length) && Region.sinkB .any l.toArray n && Region.chainB .any l.toArray n && ul .any l.toArray n && Region.seqB .any l.toArray (l.length - n) n (ve n l.length))=true)
 (first:I (fun _=>False) a { w with drawn:=w.drawn+1 })
 (step:∀d a w,I d a w->∀i,i<n->¬d i->mX .any l.toArray d i->wpOp P l.toArray Q i (I (fun j=>j=i\/d j)) a w)
 (last:∀d a w,(∀i,i<n->d i)->I d a w->wpList P l.toArray Q (l.drop n) a w):(Code.region v l.toArray true).wp P Q a w:=by
 simp only [J5,J1] at s;obtain ⟨⟨⟨⟨m,q⟩,f⟩,h⟩,o⟩:=s;refine wp_region_any u ?_;have c:HeadInv .any l.toArray n (Array.replicate l.toArray.size false) :=
  ⟨by simp,fun j oj _ hl=>(by rw [getD_replicate_false] at hl;cases hl),fun t _ ht=>getD_in (by simpa using ht) (getD_replicate_false _ _)⟩
 have e:xf (Array.replicate l.toArray.size false)=fun _=>False:=(by funext i;unfold xf;rw [getD_replicate_false];simp);have r:jC n (Array.replicate l.toArray.size false)=n:=(by unfold jC;rw [List.filter_eq_self.2 (fun i _=>by rw [getD_replicate_false];rfl),List.length_range]);have b:(l.drop n).length=l.length - n:=by simp
 have:=ur (P:=P) (Q:=Q) (g:=l.length - n) I q f (by simpa using m) h step (fun listed a' w' inv hall hI=>by
  have k:=bJ inv hall;have p:=last (xf listed) a' w' hall hI;have:=wpAny_of_seq (md:=.any) (Q':=Q) (l.drop n) n listed a' w' (fun j=>by simp [List.getElem?_drop]) (by rw [b,k];simpa using o) p;rwa [b] at this) n _ a { w with drawn:=w.drawn+1 } c r (by rw [e];exact first)
 rw [show n+(l.length - n)=l.toArray.size by simp;omega] at this;exact this
end
open Go.RowKit
structure MP where
 p:World->Value->Prop
 mono:∀(w w':World) (x:Value),O5 w w'->p w x->p w' x
def MP.con (v:Value):MP:=⟨fun _ x=>x=v,fun _ _ _ _ h=>h⟩
def MP.any:MP:=⟨fun _ _=>True,fun _ _ _ _ h=>h⟩
def vQ (B n T:Nat) (cs:Array Value) (w:World) (x:Value):Prop:=∃b,B<=b/\x=.slice (some ⟨b,0,none⟩) n n/\w.heap[b]?=some (.cells cs T (0,0))
theorem vQ.mono {B n T:Nat} {cs:Array Value} {w w':World} {x:Value} (e:O5 w w') (h:vQ B n T cs w x):vQ B n T cs w' x:=by obtain ⟨b,c,d,a⟩:=h;exact ⟨b,c,d,by rw [e.block _ (qz a)];exact a⟩
theorem vQ.made {w:World} {B n T:Nat} (cs:Array Value) (a:B<=w.heap.size):vQ B n T cs (w.alloc (.cells cs T)) (.slice (some ⟨w.heap.size,0,none⟩) n n):=⟨_,a,rfl,Z5 w _⟩
def MP.row (B n T:Nat) (cs:Array Value):MP:=⟨vQ B n T cs,fun _ _ _ hb h=>h.mono hb⟩
def zi (wb:World) (V:List MP) (d:Nat->Prop) (w':World) (xs:List Value):Prop :=
 O5 wb w'/\xs.length=V.length/\∀(j:Nat) (m:MP) (x:Value),V[j]?=some m->xs[j]?=some x->d j->m.p w' x
theorem zi.first (a:World) (V:List MP) (xs:List Value) (h:xs.length=V.length):zi a V (fun _=>False) a.drew xs:=⟨(Z0 _ _).drew,h,fun _ _ _ _ _ hd=>hd.elim⟩
theorem zi.get {e w':World} {V:List MP} {d:Nat->Prop} {xs:List Value} (h:zi e V d w' xs) (j:Nat) (b:d j) (m:MP) (a:V[j]?=some m) (x:Value) (c:xs[j]?=some x):m.p w' x:=h.2.2 j m x a c b
theorem zi.did {g w' b:World} {V:List MP} {d:Nat->Prop} {xs:List Value} (h:zi g V d w' xs) (f:O5 w' b) (j:Nat) (y:Value) (m:MP) (c:V[j]?=some m) (k:m.p b y):zi g V (fun i=>i=j\/d i) b (xs.set j y):=by
 refine ⟨h.1.trans (f.mono h.1.size),by rw [List.length_set];exact h.2.1,fun i m' x hm hx hd=>?_⟩;by_cases e:i=j
 . subst e;rw [c] at hm;cases hm;have a:i<xs.length:=by rw [h.2.1];exact (List.getElem?_eq_some_iff.1 c).1
   rw [List.getElem?_set_self a] at hx;cases hx;exact k
 . rw [List.getElem?_set_ne (Ne.symm e)] at hx;exact m'.mono _ _ _ f (h.2.2 i m' x hm hx (hd.resolve_left e))
theorem zi.same {a w':World} {V:List MP} {d:Nat->Prop} {xs:List Value} (h:zi a V d w' xs) (j:Nat) (y:Value) (m:MP) (b:V[j]?=some m) (c:m.p w' y):zi a V (fun i=>i=j\/d i) w' (xs.set j y):=h.did (Z0 _ _) j y m b c
theorem zi.new {a w':World} {V:List MP} {d:Nat->Prop} {xs:List Value} (h:zi a V d w' xs) (o:Obj) (j:Nat) (y:Value) (m:MP) (b:V[j]?=some m) (c:m.p (w'.alloc o) y):zi a V (fun i=>i=j\/d i) (w'.alloc o) (xs.set j y):=h.did O4 j y m b c
theorem zi.con {f w':World} {V l:List MP} {d:Nat->Prop} {xs:List Value} {v x:Value} (h:zi f V d w' xs) (j:Nat) (b:d j) (a:Hid (V=l)) (e:l[j]?=some (.con v)) (c:xs[j]?=some x):x=v:=h.get j b (.con v) (by rw [a.o];exact e) x c
theorem O3 {md:Region.Mode} {ops:Array Oper} {d:Nat->Prop} {i:Nat} (g:mX md ops d i) (j:Nat) (gr:Ground) {o:Oper} (a:ops[i]?=some o:=by rfl) (b:(⟨j,gr⟩:Edge) ∈ o.after:=by simp) (c:Region.binds md ⟨j,gr⟩=true:=by rfl):d j:=g o a ⟨j,gr⟩ b c
theorem zi.cn {k w':World} {V l:List MP} {d:Nat->Prop} {xs:List Value} {v x:Value} {md:Region.Mode} {ops:Array Oper} {i:Nat} (h:zi k V d w' xs) (g:mX md ops d i) (f:Hid (V=l)) (j:Nat) (gr:Ground) {o:Oper} (a:ops[i]?=some o:=by rfl) (b:(⟨j,gr⟩:Edge) ∈ o.after:=by simp) (c:Region.binds md ⟨j,gr⟩=true:=by rfl) (e:l[j]?=some (.con v):=by rfl) (hx:xs[j]?=some x:=by rfl):x=v:=h.con j (g o a ⟨j,gr⟩ b c) f e hx
theorem zi.sameC {a w':World} {V l:List MP} {d:Nat->Prop} {xs:List Value} (h:zi a V d w' xs) (j:Nat) (y:Value) (b:Hid (V=l)) (e:l[j]?=some (.con y)):zi a V (fun i=>i=j\/d i) w' (xs.set j y):=h.same j y (.con y) (by rw [b.o];exact e) rfl
theorem zi.didC {b w' a:World} {V l:List MP} {d:Nat->Prop} {xs:List Value} (h:zi b V d w' xs) (f:O5 w' a) (j:Nat) (y:Value) (c:Hid (V=l)) (e:l[j]?=some (.con y)):zi b V (fun i=>i=j\/d i) a (xs.set j y):=h.did f j y (.con y) (by rw [c.o];exact e) rfl
theorem us (s:ByteArray) (w:World) (h:s.size<=9223372036854775807):Calls Tryz.prog 88 #[.string s] w fun e w'=>e=.returned (.bool (jw s.data.toList))/\w=w':=by
 by_cases h2:2<=s.size
 . have d:decide ((2:Int)<=(s.size:Int))=true:=by simp;omega
   by_cases h3:s.size<=128
   . have f:decide ((s.size:Int)<=128)=true:=by simp;omega
     have b:(s.size:Int).tmod 2=((s.size % 2:Nat):Int):=by rw [H6 (by omega)];omega
     by_cases h4:s.size % 2=0
     . have a:=U (ng (s:=s) h2 h3 h4);rw [h4] at b;have b:(s.size:Int).tmod 2=0:=b;clear h4;go_enter Tryz.func88,Tryz.ntmps88;go_wp2_with fail;refine (nh s _ h).mono ?_;rintro e g ⟨rfl,rfl⟩;go_wp2;go_ret;exact ⟨qx (by rw [a.o]),rfl⟩
     . have a:=U (mi (s:=s) (by omega));have c:s.size % 2=1:=by omega
       rw [c] at b;have b:(s.size:Int).tmod 2=1:=b;clear h4 c;go_enter Tryz.func88,Tryz.ntmps88;go_wp2;go_ret;exact ⟨qx (by rw [a.o]),rfl⟩
   . have f:decide ((s.size:Int)<=128)=false:=by simp;omega
     have a:=U (mi (s:=s) (by omega));go_enter Tryz.func88,Tryz.ntmps88;go_wp2;go_ret;exact ⟨qx (by rw [a.o]),rfl⟩
 . have d:decide ((2:Int)<=(s.size:Int))=false:=by simp;omega
   have a:=U (mi (s:=s) (by omega));go_enter Tryz.func88,Tryz.ntmps88;go_wp2;go_ret;exact ⟨qx (by rw [a.o]),rfl⟩
open Go.ChangeShapes Go.WideShapes Go.ChangeAt Go.Joins Go.Deep
structure GS where
 i:Nat
 j:Nat
 st:Nat
 fr:Nat
def Zs (a c:Int):Bool:=if a=63 then decide (c≠47) else decide (a=c)
structure GOk (p s:List Int) (g:GS):Prop where
 i:g.i<=p.length
 j:g.j<=s.length
 st:g.st<=g.i
 fr:g.fr<=g.j
structure GInv (p s:List Int) (g:GS):Prop extends GOk p s g where
 on:g.st≠0->g.i+g.fr=g.j+g.st/\∀m,g.st+m<g.i->p.getD (g.st+m) 0≠42/\Zs (p.getD (g.st+m) 0) (s.getD (g.fr+m) 0)=true
theorem kt (w:World) (o a:Obj):((w.alloc o).alloc a).heap[w.heap.size+1]?=some a:=by have:=Z5 (w.alloc o) a;rwa [show (w.alloc o).heap.size=w.heap.size+1 by simp] at this
theorem qO (w:World) (o a:Obj):((w.alloc o).alloc a).heap[w.heap.size]?=some o:=(X6 _ _ _ (by simp)).trans (Z5 w o)
def nX (r:JV × Int) (w:World) (e:Ending) (w':World):Prop :=
 ∃an cn ai ci,e=.returned (.tuple #[.agg #[.int .u8 r.1.kind,.int .i64 r.1.n,.string r.1.t,.slice an r.1.names.length cn,.slice ai r.1.items.length ci],.int .i64 r.2]) /\
  Rep w' w.heap.size w'.heap.size r.1 (.agg #[.int .u8 r.1.kind,.int .i64 r.1.n,.string r.1.t,.slice an r.1.names.length cn,.slice ai r.1.items.length ci])/\O5 w w'
theorem lO {a:Int} {w:World} {e:Ending} {w':World} (b:e=.returned (.tuple #[.agg #[.int .u8 0,.int .i64 0,.string ⟨#[]⟩,.slice none 0 0,.slice none 0 0],.int .i64 a])/\O5 w w'):nX (zeroJ,a) w e w' :=
 ⟨none,0,none,0,b.1,yP _ _ _,b.2⟩
def bK (w:World) (lo hi:Nat) (a:Option Addr) (l:List Key2):Prop:=qJ w lo hi a l/\∀ad,a=some ad->l≠[]->∀j,w.frozen? ⟨ad.block,j,none⟩=false
theorem bK.nil (w:World) (lo hi:Nat) (a:Option Addr):bK w lo hi a []:=⟨.inl rfl,fun _ _ h=>absurd rfl h⟩
theorem bK.carry {w w':World} {lo hi lo' hi':Nat} {a:Option Addr} {l:List Key2} (h:bK w lo hi a l) (d:lo'<=lo) (f:hi<=hi') (c:∀b,lo<=b->b<hi->w'.heap[b]?=w.heap[b]?):bK w' lo' hi' a l :=
 ⟨h.1.carry d f c,fun ad ha hl j=>by
  rcases h.1 with e|⟨b,off,e,hb,hb',_⟩
  . exact absurd e hl
  . have hf:=h.2 ad ha hl j;rw [e] at ha;cases ha;exact (World.frozen?_of_block (w:=w) (c b hb hb')).trans hf⟩
theorem lE {w:World} {f e:Nat} {v:Value} {n:Nat} {M:List Key2} (h:w.ownsRow f e 2 v n (M.flatMap jV)) (i:n=M.length) :
 ∃a c,v=.slice a M.length c/\bK w f w.heap.size a M:=by
 obtain ⟨a,c,b,d⟩:=yz h i;refine ⟨a,c,b,d,fun ad ha hl j=>?_⟩;rcases h.2 with ⟨hv2,h0⟩|⟨g,cap,cur,hv2,hg,hh,_⟩
 . rw [b] at hv2;simp only [Y2] at hv2;rw [hv2.1] at ha;cases ha
 . rw [b] at hv2;simp only [Y2] at hv2;rw [hv2.1] at ha;cases ha;simp [World.frozen?,hh]
