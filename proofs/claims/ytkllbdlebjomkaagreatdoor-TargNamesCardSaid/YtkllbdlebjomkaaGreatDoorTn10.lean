import Derived.Test.YtkllbdlebjomkaaGreatDoorTn09
import Derived.Test.YtkllbdlebjomkaaGreatDoorTn08
import Derived.Laws.RangeString
import Derived.Maps.OwnOps
import Derived.Maps.Views
import Derived.StringKeys
import Derived.Lib.Strings
set_option maxHeartbeats 400000
set_option maxRecDepth 100000

namespace Go.Proofs.YtkllbdlebjomkaaGreatDoor
open Go.RowKit
theorem zT:∀x:List UInt8,Op.bytesLess x x=false
 | []=>rfl
 | a :: x=>by simp [Op.bytesLess,zT x]
theorem kQ:∀x y z:List UInt8,Op.bytesLess x y=true->Op.bytesLess y z=true->Op.bytesLess x z=true
 | _,_,[],_,h=>by simp [Op.bytesLess] at h
 | _,[],_ :: _,h,_=>by simp [Op.bytesLess] at h
 | [],_ :: _,_ :: _,_,_=>rfl
 | a :: x,b :: y,c :: z,h1,h2=>by
  simp only [Op.bytesLess,Bool.or_eq_true,J1,J5,beq_iff_eq] at h1 h2 ⊢;rcases h1 with h1|⟨rfl,h1⟩
  . rcases h2 with h2|⟨rfl,h2⟩
    . exact .inl (UInt8.lt_trans h1 h2)
    . exact .inl h1
  . rcases h2 with h2|⟨rfl,h2⟩
    . exact .inl h2
    . exact .inr ⟨rfl,kQ x y z h1 h2⟩
theorem wV:∀x y:List UInt8,Op.bytesLess x y=false->Op.bytesLess y x=false->x=y
 | [],[],_,_=>rfl
 | [],_ :: _,h,_=>by simp [Op.bytesLess] at h
 | _ :: _,[],_,h=>by simp [Op.bytesLess] at h
 | a :: x,b :: y,h1,h2=>by
  simp only [Op.bytesLess,Bool.or_eq_false_iff,Y7,Bool.and_eq_false_iff] at h1 h2;have e:a=b:=UInt8.le_antisymm (UInt8.not_lt.1 h2.1) (UInt8.not_lt.1 h1.1);subst e;have g1:Op.bytesLess x y=false:=by rcases h1.2 with h|h;simp at h;exact h
  have c:Op.bytesLess y x=false:=by rcases h2.2 with h|h;simp at h;exact h
  rw [wV x y g1 c]
def bl (a b:ByteArray):Bool:=Op.bytesLess a.toList b.toList
theorem gL {a b:ByteArray} (h:a.toList=b.toList):a=b:=by rw [X4,X4] at h;exact ByteArray.ext (Array.toList_inj.1 h)
theorem zY (a:ByteArray):bl a a=false:=zT _
theorem xE {a b c:ByteArray} (h:bl a b=true) (d:bl b c=true):bl a c=true:=kQ _ _ _ h d
theorem mK {a b:ByteArray} (h:bl a b=false) (c:bl b a=false):a=b:=gL (wV _ _ h c)
theorem cO {a b:ByteArray} (h:bl a b=true):bl b a=false:=by
 cases h':bl b a
 . rfl
 . have:=xE h h';rw [zY] at this;cases this
theorem l8 {a:ByteArray} {l:List ByteArray} (h:qd (a :: l)=true):qd l=true:=by
 cases l with
 | nil=>rfl
 | cons b r=>simp only [qd,J5] at h;exact h.2
theorem pE:∀ {l:List ByteArray} {a:ByteArray} (_:qd (a :: l)=true) (j:Nat) (h:j<l.length),bl a l[j]=true
 | [],_,_,j,h=>by simp at h
 | b :: r,a,h,0,_=>by simp only [qd,J5] at h;exact h.1
 | b :: r,a,h,j+1,hj=>by simp only [qd,J5] at h;exact xE h.1 (pE h.2 j (by simpa using hj))
theorem jG:∀ {l:List ByteArray} (_:qd l=true) (i j:Nat) (hi:i<l.length) (hj:j<l.length),i<j->bl l[i] l[j]=true
 | [],_,i,j,hi,_,_=>by simp at hi
 | a :: r,h,0,j+1,_,hj,_=>pE h j (by simpa using hj)
 | a :: r,h,i+1,j+1,hi,hj,hlt=>by simp only [G3];exact jG (l8 h) i j (by simpa using hi) (by simpa using hj) (by omega)
 | a :: r,h,i,0,_,_,hlt=>by omega
def p0 (l:List ByteArray) (x:ByteArray) (w:World) (e:Ending) (w':World):Prop :=
 ∃(r:Nat) (f:Bool),e=.returned (.tuple #[.int .i64 r,.bool f])/\r<=l.length/\(∀t (h:t<l.length),t<r->bl l[t] x=true)/\(∀t (h:t<l.length),r<=t->bl l[t] x=false) /\
  (f=true->∃h:r<l.length,l[r]=x)/\(f=false->∀t (h:t<l.length),l[t]≠x)/\O5 w w'
open Go.Shelf Go.Sort
structure Mem where
 name:ByteArray
 k:Int
 n:Int
 t:ByteArray
 an:Option Addr
 nn:Nat
 cn:Nat
 ai:Option Addr
 ni:Nat
 ci:Nat
instance : Inhabited Mem := ⟨⟨{ data := #[] }, 0, 0, { data := #[] }, none, 0, 0, none, 0, 0⟩⟩
def Mem.val (x:Mem):Value:=.agg #[.int .u8 x.k,.int .i64 x.n,.string x.t,.slice x.an x.nn x.cn,.slice x.ai x.ni x.ci]
def qY (x:Mem):List Value:=[.string x.name,.int .u8 x.k,.int .i64 x.n,.string x.t,.slice x.an x.nn x.cn,.slice x.ai x.ni x.ci]
def cfM (x y:Mem):Int:=Lib.compareBytes x.name.data.toList y.name.data.toList
theorem zL (x:Mem):(qY x).length=6:=rfl
theorem xh (x:Mem):∀v ∈ qY x,v.oneCell'=true:=by intro v hv;simp only [qY,V6,V1,za4] at hv;rcases hv with rfl|rfl|rfl|rfl|rfl|rfl <;> rfl
theorem jm:(Tryz.prog.info? 102).map (fun i=>(i.zero,i.size,i.bytes))=some (some (.agg #[.string ⟨#[]⟩,.int .u8 0,.int .i64 0,.string ⟨#[]⟩,.slice none 0 0,.slice none 0 0]),6,96):=by kernel_rfl
theorem kZ (t:ByteArray) (w:World):Calls Tryz.prog 55 #[.string t] w fun e w'=>e=.returned (.agg #[.int .u8 3,.int .i64 0,.string t,.slice none 0 0,.slice none 0 0])/\w'=w.alloc (.cells #[.int .u8 3,.int .i64 0,.string t,.slice none 0 0,.slice none 0 0] 26):=by go_enter Tryz.func55,Tryz.ntmps55;go_wp2;exact Z8 (X8 Tryz.results55 _ _ w.heap.size 26 _ (0,0) _ rfl (Z5 w _) J7 rfl (by kernel_rfl)) rfl ⟨rfl,rfl⟩
theorem ue (x y:Mem) (W:World):Calls Tryz.prog 91 #[.agg (qY x).toArray,.agg (qY y).toArray] W fun e w'=>e=.returned (.int .i64 (cfM x y))/\∃q os',w'=grow (W.drewN q) os':=by have a:=fun W'=>Tryz.strings_Compare x.name y.name W';unfold cfM qY;generalize Lib.compareBytes x.name.data.toList y.name.data.toList=r at a ⊢;go_enter Tryz.func91,Tryz.ntmps91;go_wp2_with (go_at_call 92;refine (a _).mono ?_;rintro e w' ⟨rfl,rfl⟩);go_ret;exact ⟨rfl,0,_,by rw [alloc_eq_grow,alloc_eq_grow,grow_grow];rfl⟩
theorem yi (lt:Mem->Mem->Bool) (a:Nat):∀(j:Nat) (d:Array Mem),(insInner lt a j d).size=d.size
 | 0,d=>rfl
 | j+1,d=>by
  unfold insInner;split
  . rw [yi lt a j,size_swp]
  . rfl
theorem yo (lt:Mem->Mem->Bool) (a b:Nat):∀(m i:Nat) (d:Array Mem),b - i<=m->(insOuter lt a b i d).size=d.size
 | 0,i,d,h=>by unfold insOuter;rw [Z6 (by omega)]
 | m+1,i,d,h=>by
  unfold insOuter;split
  . rw [yo lt a b m (i+1) _ (by omega),yi]
  . rfl
theorem kX (c:Mem->Mem->Bool) (d:Array Mem) (a b:Nat):(insertionSort c d a b).size=d.size:=yo c a b _ _ d lz
theorem l9 (c:Mem->Mem->Bool) (d:Array Mem) (b:Nat) (h:∀j,j+1<b->c d[j+1]! d[j]! = false):insertionSort c d 0 b=d:=by
 have a:∀(m i:Nat),b - i<=m->insOuter c 0 b i d=d:=by
  intro m
  induction m with
  | zero=>intro i hi;unfold insOuter;rw [Z6 (by omega)]
  | succ m ih =>
   intro i hi;unfold insOuter;split
   . rename_i hib;have:insInner c 0 i d=d:=by
      rcases i with _|j
      . rfl
      . unfold insInner;rw [h j hib];simp
     rw [this];exact ih (i+1) (by omega)
   . rfl
 exact a _ _ lz
theorem tQ (A B cap:Nat) (d:Array Mem) (w:World) (C:HoldsK qY 6 w A B d) (D:d.size<=4294967296) :
 Calls Tryz.prog 89 #[.slice (some ⟨A,B,none⟩) d.size cap] w fun e w'=>∃g cap',e=.returned (.slice (some ⟨g,0,none⟩) d.size cap')/\w.heap.size<=g/\g<w'.heap.size /\
  HoldsK qY 6 w' g 0 d/\O5 w w':=by
 obtain ⟨y,m,q,r,s⟩:=V2 jm;have b:∀j u,(flatK qY 6 d).toList[j]?=some u->j<d.size * 6/\(flatK qY 6 d)[j]! = u:=fun j u h=>by
  obtain ⟨a,x⟩:=List.getElem?_eq_some_iff.1 h;have c:j<(flatK qY 6 d).size:=by simpa using a
  refine ⟨by simpa using c,?_⟩;rw [getElem!_pos _ j c];simpa using x
 refine (AnyE.slices_Clone cL y _ 6 96 m q r s rfl (by decide) Tryz.sizeOf102 A B d.size cap (flatK qY 6 d).toList w (by simp) (by unfold maxLen;omega) (by omega) (fun j u h=>?_) (fun u hu=>?_)).mono ?_
 . obtain ⟨k,i⟩:=b j u h;rw [(C j (by simpa using k)).1,i];rfl
 . obtain ⟨j,h⟩:=List.getElem?_of_mem hu;obtain ⟨k,i⟩:=b j u h;rw [get_flatK _ _ _ _ k] at i;subst i;have o:j % 6<(qY d[j / 6]!).length:=by rw [zL];omega
   rw [getElem!_pos (qY d[j / 6]!) (j % 6) o];exact xh _ _ (J8 o)
 . rintro e w' ⟨z,rfl,f,p,v⟩;have l:=f;rcases f.2 with ⟨rfl,h0⟩|⟨g,cap',cur,rfl,hg,hh,hc,o,hs,ht⟩
   . exact absurd rfl p
   . have a:g<w'.heap.size:=by
      rcases Nat.lt_or_ge g w'.heap.size with a|hge
      . exact a
      . rw [M5 hge] at hh;cases hh
     refine ⟨g,cap',rfl,hg,a,fun j h=>⟨?_,by simp [World.frozen?,hh]⟩,v⟩;have:=l.cells (g:=g) rfl j (flatK qY 6 d)[j]! (by rw [getElem!_pos _ j h];simp);have e:(⟨g,0,none⟩:Addr).add j=⟨g,j,none⟩:=by unfold Addr.add;split <;> simp_all
     rw [e] at this;rw [za9];exact this
theorem jL {w:World} {a b n:Nat} {d:Array Mem} {c:Array Obj}:Touch (· = a) w (sortWorldK qY 6 w a b n d c):=by refine ⟨rfl,rfl,rfl,by simp [sortWorldK,putRowK,Go.Sort.ahead],fun k hk hs=>?_⟩;rw [sortWorldK,heap_grow_old _ _ (by simp [putRowK,Go.Sort.ahead];exact hk)];show (((Go.Sort.ahead w n).heap.modify a _))[k]?=_;rw [Array.getElem?_modify,Z6 (fun e=>hs e.symm)];rfl
theorem oX (i j cap:Nat) (d:Array Mem) (w:World) (o:HoldsK qY 6 w i j d) (k:i<w.heap.size) (m:d.size<=12) :
 Calls Tryz.prog 90 #[.slice (some ⟨i,j,none⟩) d.size cap,.func (.func 91) #[] #[]] w fun e w'=>e=.returned (.tuple #[]) /\
  HoldsK qY 6 w' i j (insertionSort (ltOf cfM) d 0 d.size)/\Touch (· = i) w w':=by
 have c:∀args w,(callFunc 91 args).run Tryz.prog w=.ok (.enter 91 args) w:=enters_of Tryz.func91 (by kernel_rfl) rfl;have f:∀(n:Nat) (W:World),n<=12->Calls Tryz.prog 119 #[.int .u64 n] W fun e w'=>(∃l:Int,e=.returned (.int .i64 l))/\w'=W:=fun n W h =>
  (Tryz.bits_Len n W (by omega) (by omega)).mono fun _ _ ⟨he,hw⟩=>⟨⟨_,he⟩,hw⟩
 have a:=AnyQ.slices_SortFunc_small pT 6 Tryz.isAgg102 Tryz.sizeOf102 qY zL xh cfM 91 #[] i j cap d w c (fun _ _ _ _ x y=>ue x y _) o k m f;refine a.mono ?_;rintro e w' ⟨rfl,n,g,rfl⟩;have b:(insertionSort (ltOf cfM) d 0 d.size).size=d.size:=kX _ _ _ _;refine ⟨rfl,holdsK_grow qY 6 _ _ _ _ _ (by simp [putRowK,Go.Sort.ahead];exact k) (holdsK_putRowK qY 6 _ _ _ d _ (holdsK_ahead qY 6 _ _ _ _ _ o) b),jL⟩
theorem zB {w w':World} {a e c n:Nat} {v:Value} {cs:List Value} (h:w.ownsRow a e c v n cs) (d:∀b,v.ownBlock=some b->w'.heap[b]?=w.heap[b]?):w'.ownsRow a e c v n cs:=by
 refine ⟨h.1,?_⟩;rcases h.2 with h2|⟨g,cap,cur,hv,hg,hh,r⟩
 . exact .inl h2
 . refine .inr ⟨g,cap,cur,hv,hg,?_,r⟩;rw [d g (by rw [hv];rfl)];exact hh
structure ObjAt (W wr:World) (cb T e1 e5:Nat) (vn vi:Value) (ns:List ByteArray) (its:List JV) (cs:List Value):Prop where
 lt:cb<W.heap.size
 touch:Touch (· = cb) W wr
 row:wr.rowIs cb T 5 (qo (.int .u8 5) (.int .i64 0) (.string ⟨#[]⟩) vn vi)
 names:wr.ownsRow W.heap.size e1 1 vn ns.length (ns.map .string)
 items:wr.ownsRow W.heap.size e5 5 vi its.length cs
 reps:qS wr W.heap.size (fun b=>b=cb\/vn.ownBlock=some b\/vi.ownBlock=some b) its cs
 ne:∀b,vn.ownBlock=some b->vi.ownBlock≠some b
theorem ObjAt.below {W wr w':World} {d T e f:Nat} {i g:Value} {ns:List ByteArray} {c:List JV} {cs:List Value} (h:ObjAt W wr d T e f i g ns c cs) (a:O5 wr w'):ObjAt W w' d T e f i g ns c cs where
 lt:=h.lt
 touch:=h.touch.trans (Touch.of_below a lz)
 row:=qj a h.row h.row.lt
 names:=qV h.names a
 items:=qV h.items a
 reps:=h.reps.carry a.size lz (fun b hb' _=>a.block b hb') (fun _ hx=>.inl hx)
 ne:=h.ne
theorem ObjAt.name {W wr u:World} {v T C E g cap:Nat} {w B:Value} {ns:List ByteArray} {A:List JV} {cs:List Value} (h:ObjAt W wr v T C E w B ns A cs) (x:ByteArray)
 (z:wr.grownBy u w.ownBlock) (y:w.ownBlock=some g\/wr.heap.size<=g)
 (D:u.ownsRow W.heap.size C 1 (.slice (some ⟨g,0,none⟩) (ns.length+1) cap) (ns.length+1) (ns.map .string ++ [.string x])) :
 ObjAt W (u.setCell ⟨v,3,none⟩ (.slice (some ⟨g,0,none⟩) (ns.length+1) cap)) v T C E (.slice (some ⟨g,0,none⟩) (ns.length+1) cap) B (ns ++ [x]) A cs:=by
 have q:W.heap.size<=wr.heap.size:=h.touch.size;have r:=z.size;have f:=h.lt;have j:∀b,w.ownBlock=some b->W.heap.size<=b/\b<wr.heap.size:=fun b hb=>h.names.lt b hb;have c:∀b,B.ownBlock=some b->W.heap.size<=b/\b<wr.heap.size:=fun b hb=>h.items.lt b hb;have k:∀b,b<wr.heap.size->w.ownBlock≠some b->u.heap[b]?=wr.heap[b]?:=fun b hb hne=>z.block b hb (fun e=>hne e.symm);have o:∀b,b≠v->(u.setCell ⟨v,3,none⟩ (.slice (some ⟨g,0,none⟩) (ns.length+1) cap)).heap[b]?=u.heap[b]?:=fun b hb=>Z9 _ _ _ _ hb;have l:w.ownBlock≠some v:=fun e=>by have:=(j v e).1;omega
 have s:(u.setCell ⟨v,3,none⟩ (.slice (some ⟨g,0,none⟩) (ns.length+1) cap)).heap.size=u.heap.size:=by simp [World.setCell]
 have d:∀b,(Value.slice (some ⟨g,0,none⟩) (ns.length+1) cap).ownBlock=some b->b=g:=fun b hb=>by simp [Value.ownBlock] at hb;exact hb.symm
 have m:B.ownBlock≠some g:=fun e=>by
  rcases y with ha|ha
  . exact h.ne g ha e
  . have:=(c g e).2;omega
 refine ⟨f,⟨?_,?_,?_,by omega,fun b hb hne=>?_⟩,?_,?_,?_,?_,?_⟩
 . show u.os=_;rw [z.os,h.touch.os]
 . show u.tape=_;rw [z.tape,h.touch.tape]
 . show u.output=_;rw [z.output,h.touch.output]
 . rw [o b hne,k b (by omega) (fun e=>by have:=(j b e).1;omega)];exact h.touch.block b hb hne
 . have p:u.rowIs v T 5 _:=h.row.of_block (k v (by omega) l);refine (p.set 3 _).congr fun i hi=>?_;rcases i with _|_|_|_|_|i <;> first|rfl|omega
 . have:=ownsRow_setCell_below D f (Value.slice (some ⟨g,0,none⟩) (ns.length+1) cap) (a:=⟨v,3,none⟩);simpa using this
 . refine zB h.items fun b hb=>?_;rw [o b (fun e=>by have:=(c b hb).1;omega),k b (c b hb).2 (fun e=>h.ne b e hb)]
 . refine h.reps.carry (by omega) lz (fun b hb hx=>?_) (fun b hx=>?_)
   . rw [o b (fun e=>hx (.inl e)),k b hb (fun e=>hx (.inr (.inl e)))]
   . rcases hx with hx|hx|hx
     . exact .inl (.inl hx)
     . rw [d b hx];rcases y with ha|ha
       . exact .inl (.inr (.inl ha))
       . exact .inr ha
     . exact .inl (.inr (.inr hx))
 . intro b hb;rw [d b hb];exact m
theorem ObjAt.item {W wr A y:World} {x T I F g cap lo hi:Nat} {E C:Value} {ns:List ByteArray} {w:List JV} {cs:List Value} {it:JV} {an ai:Option Addr} {cn ci:Nat} (h:ObjAt W wr x T I F E C ns w cs)
 (z:O5 wr A) (K:wr.heap.size<=lo) (J:hi<=A.heap.size) (H:Rep A lo hi it (.agg #[.int .u8 it.kind,.int .i64 it.n,.string it.t,.slice an it.names.length cn,.slice ai it.items.length ci]))
 (D:A.grownBy y C.ownBlock) (B:C.ownBlock=some g\/A.heap.size<=g)
 (G:y.ownsRow W.heap.size F 5 (.slice (some ⟨g,0,none⟩) (w.length+1) cap) (w.length+1) (cs ++ [.int .u8 it.kind,.int .i64 it.n,.string it.t,.slice an it.names.length cn,.slice ai it.items.length ci])) :
 ObjAt W (y.setCell ⟨x,4,none⟩ (.slice (some ⟨g,0,none⟩) (w.length+1) cap)) x T I F E (.slice (some ⟨g,0,none⟩) (w.length+1) cap) ns (w ++ [it]) (cs ++ [.int .u8 it.kind,.int .i64 it.n,.string it.t,.slice an it.names.length cn,.slice ai it.items.length ci]):=by
 have r:W.heap.size<=wr.heap.size:=h.touch.size;have s:=z.size;have u:=D.size;have j:=h.lt;have f:∀b,E.ownBlock=some b->W.heap.size<=b/\b<wr.heap.size:=fun b hb=>h.names.lt b hb;have c:∀b,C.ownBlock=some b->W.heap.size<=b/\b<wr.heap.size:=fun b hb=>h.items.lt b hb;have l:∀b,b<wr.heap.size->A.heap[b]?=wr.heap[b]?:=fun b hb=>z.block b hb;have k:∀b,b<A.heap.size->C.ownBlock≠some b->y.heap[b]?=A.heap[b]?:=fun b hb hne=>D.block b hb (fun e=>hne e.symm);have m:∀b,b≠x->(y.setCell ⟨x,4,none⟩ (.slice (some ⟨g,0,none⟩) (w.length+1) cap)).heap[b]?=y.heap[b]?:=fun b hb=>Z9 _ _ _ _ hb;have o:C.ownBlock≠some x:=fun e=>by have:=(c x e).1;omega
 have v:(y.setCell ⟨x,4,none⟩ (.slice (some ⟨g,0,none⟩) (w.length+1) cap)).heap.size=y.heap.size:=by simp [World.setCell]
 have d:∀b,(Value.slice (some ⟨g,0,none⟩) (w.length+1) cap).ownBlock=some b->b=g:=fun b hb=>by simp [Value.ownBlock] at hb;exact hb.symm
 refine ⟨j,⟨?_,?_,?_,by omega,fun b hb hne=>?_⟩,?_,?_,?_,?_,?_⟩
 . show y.os=_;rw [D.os,z.os,h.touch.os]
 . show y.tape=_;rw [D.tape,z.tape,h.touch.tape]
 . show y.output=_;rw [D.output,z.output,h.touch.output]
 . rw [m b hne,k b (by omega) (fun e=>by have:=(c b e).1;omega),l b (by omega)];exact h.touch.block b hb hne
 . have q:y.rowIs x T 5 _:=h.row.of_block (by rw [k x (by omega) o,l x (by omega)]);refine (q.set 4 _).congr fun i hi=>?_;rcases i with _|_|_|_|_|i <;> first|rfl|omega
 . refine zB h.names fun b hb=>?_;have:=f b hb;rw [m b (fun e=>by omega),k b (by omega) (h.ne b hb),l b this.2]
 . have:=ownsRow_setCell_below G j (Value.slice (some ⟨g,0,none⟩) (w.length+1) cap) (a:=⟨x,4,none⟩);simpa using this
 . have p:qS (y.setCell ⟨x,4,none⟩ (.slice (some ⟨g,0,none⟩) (w.length+1) cap)) W.heap.size (fun b=>b=x\/E.ownBlock=some b\/(Value.slice (some ⟨g,0,none⟩) (w.length+1) cap).ownBlock=some b) w cs:=by
    refine h.reps.carry (by omega) lz (fun b hb hx=>?_) (fun b hx=>?_)
    . rw [m b (fun e=>hx (.inl e)),k b (by omega) (fun e=>hx (.inr (.inr e))),l b hb]
    . rcases hx with hx|hx|hx
      . exact .inl (.inl hx)
      . exact .inl (.inr (.inl hx))
      . rw [d b hx];rcases B with ha|ha
        . exact .inl (.inr (.inr ha))
        . exact .inr (by omega)
   refine p.snoc it lo hi an cn ai ci (by omega) (by omega) (fun b hx hb=>?_) (Rep.carry lz lz (fun b h1 h2=>?_) _ _ H)
   . rcases hx with hx|hx|hx
     . omega
     . have:=(f b hx).2;omega
     . rw [d b hx] at hb;rcases B with ha|ha
       . have:=(c g ha).2;omega
       . omega
   . rw [m b (by omega),k b (by omega) (fun e=>by have:=(c b e).2;omega)]
 . intro b hb e;rw [d b e] at hb;rcases B with ha|ha
   . exact h.ne g hb ha
   . have:=(f g hb).2;omega
theorem ObjAt.done {W wr:World} {k T l m:Nat} {j i:Value} {ns:List ByteArray} {g:List JV} {cs:List Value} (h:ObjAt W wr k T l m j i ns g cs) :
 ∃an cn ai ci,j=.slice an ns.length cn/\i=.slice ai g.length ci/\Rep wr W.heap.size wr.heap.size (.mk 5 0 ⟨#[]⟩ ns g) (.agg #[.int .u8 5,.int .i64 0,.string ⟨#[]⟩,.slice an ns.length cn,.slice ai g.length ci]):=by
 obtain ⟨an,cn,a,b,c⟩:=j9 h.names rfl;obtain ⟨ai,ci,d,e,f⟩:=xa h.items h.reps rfl;exact ⟨an,cn,ai,ci,a,d,Rep.mk (v:=.mk 5 0 ⟨#[]⟩ ns g) b e c f⟩
theorem bG (s:ByteArray) (h:∀k (a:k<s.size),s[k].toNat<128):∀f pos,wJ s f pos=true
 | 0,_=>rfl
 | f+1,pos=>by
  unfold wJ;split
  . next hp =>
    have hd:=decode_ascii s pos hp (h pos hp);have:pI s pos=false:=(by unfold pI;rw [hd];have:=h pos hp;have e:((s[pos].toNat,1):Nat × Nat).1=s[pos].toNat:=rfl;rw [e,N9.2 (by omega)];rfl);rw [this];exact bG s h f _
  . rfl
theorem rq (s:ByteArray) (h:∀c ∈ s.data.toList,c.toNat<128):gx s=true :=
 bG s (fun k hk=>by rw [<- yG s k hk];exact h _ (J8 _)) _ _
def jq (c:UInt8):Prop:=c.toNat<128/\c.toNat≠34/\c.toNat≠92
theorem gR {c:UInt8} (h:jv c=true):jq c:=by unfold jv at h;unfold jq;simp at h;omega
theorem rz {c:UInt8} (h:kg c=true):jq c:=by unfold kg at h;unfold jq;simp at h;omega
theorem yD {l:List UInt8} (h:zw l=true):(∀c ∈ l,jq c)/\1<=l.length/\l.length<=64:=by unfold zw at h;simp only [J5,J1] at h;exact ⟨fun c hc=>rz (X9.1 h.2 c hc),h.1.1⟩
theorem uQ {l:List UInt8} (h:jw l=true):(∀c ∈ l,jq c)/\2<=l.length/\l.length<=128:=by unfold jw jp at h;simp only [J5,J1] at h;exact ⟨fun c hc=>gR (X9.1 h.2 c hc),h.1.1,h.1.2.1⟩
theorem zZ {s:ByteArray} (h:∀c ∈ s.data.toList,jq c) (hl:s.size<=4096):qX s=true:=by unfold qX;rw [rq s fun c hc=>(h c hc).1];simpa using hl
theorem cE {s:ByteArray} (h:zw s.data.toList=true):qX s=true:=by have a:=yD h;rw [qu] at a;exact zZ a.1 (by omega)
theorem c8 (l:List ByteArray) (x:ByteArray) (a:Option Addr) (n c i p q:Nat) (lo hi:Nat) (w:World) (k:qy w lo hi a l) (hi':i<l.length) (r:l.length=n) (_hb:n<=4294967296)
 (s:w.cell? ⟨p,0,none⟩=some (.slice a n c)) (u:w.cell? ⟨q,0,none⟩=some (.string x)) :
 Calls Tryz.prog 54 #[.int .i64 i,.pointer (some ⟨p,0,none⟩),.pointer (some ⟨q,0,none⟩)] w fun e w'=>e=.returned (.bool (!bl l[i] x))/\∃m,w'=w.drewN m:=by
 obtain ⟨b,f,rfl,_,_,g⟩:=k.at i hi';have h:(0:Int)<=(i:Int):=by omega
 have j:(i:Int)<(n:Int):=by omega
 have d:=O0 (bl l[i] x=Op.bytesLess l[i].toList x.toList) rfl;generalize l[i]=y at *;clear k r hi';go_enter Tryz.func54,Tryz.ntmps54;go_wp2_with fail;go_quiet (fail);go_wp2;go_ret;exact ⟨by rw [d.o];rfl,_,rfl⟩
theorem rx (l:List ByteArray) (x:ByteArray) (a:Option Addr) (n c I J:Nat) (lo hi:Nat) (w:World) (M:qy w lo hi a l) (P:l.length=n) (N:n<=4294967296) (Q:qd l=true)
 (K:w.cell? ⟨I,0,none⟩=some (.slice a n c)) (L:w.cell? ⟨J,0,none⟩=some (.string x)) :
 Calls Tryz.prog 53 #[.int .i64 n,.func (.func 54) #[] #[.pointer (some ⟨I,0,none⟩),.pointer (some ⟨J,0,none⟩)]] w fun e w'=>(∃r:Nat,e=.returned (.int .i64 r)/\r<=l.length/\(∀t (h:t<l.length),t<r->bl l[t] x=true)/\(∀t (h:t<l.length),r<=t->bl l[t] x=false))/\∃m,w'=w.drewN m:=by
 have v:=U M;clear M;have u:=U Q;clear Q;have o:=U P;clear P;have f:=U K;clear K;have g:=U L;clear L;go_enter Tryz.func53,Tryz.ntmps53;go_wp2;go_loopw [5,6,7] (fun vi vj _ wr=>∃(i j m:Nat),i<=j/\j<=n/\vi=.int .i64 i/\vj=.int .i64 j/\(∀t (h:t<l.length),t<i->bl l[t] x=true)/\(∀t (h:t<l.length),j<=t->bl l[t] x=false)/\wr=w.drewN m) (fun vi vj _ _=>(intOf vj - intOf vi).toNat)
 case atStart=>exact ⟨0,n,0,by omega,by omega,rfl,rfl,fun t _ h=>by omega,fun t h h'=>by have:=o.o;omega,rfl⟩
 case round =>
  obtain ⟨i,j,m,F,G,rfl,rfl,y,z,rfl⟩:=hrel;have q:=U y;have s:=U z;clear y z;by_cases hlt:i<j
  . obtain ⟨h,A⟩:∃h:Nat,((i:Int)+(j:Int)) / 2=(h:Int):=⟨(i+j) / 2,by omega⟩;have D:i<=h:=by omega
    have E:h<j:=by omega
    have B:h<l.length:=by have:=o.o;omega
    have d:=U A;clear A;have k:=U B;clear B;cases hb2:bl (l[h]'k.o) x
    . have b:=U hb2;clear hb2;go_wp2_with fail;rw [d.o];refine (c8 l x a n c h I J lo hi (w.drewN m) (show qy (w.drewN m) lo hi a l from v.o) k.o o.o N f.o g.o).mono ?_;rintro e H ⟨rfl,p,rfl⟩;rw [b.o];go_wp2;go_roundw
      case rel =>
       refine ⟨i,h,m+p,by omega,by omega,rfl,by first|rfl|(rw [d.o]),q.o,fun t ht hle=>?_,by first|rfl|(rw [World.drewN_drewN])⟩;by_cases e:t=h
       . subst e;exact b.o
       . have C:=jG u.o h t k.o ht (by omega);cases h4:bl l[t] x
         . rfl
         . have:=xE C h4;rw [b.o] at this;cases this
      case measure=>simp [intOf];have:=d.o;omega
    . have b:=U hb2;clear hb2;go_wp2_with fail;rw [d.o];refine (c8 l x a n c h I J lo hi (w.drewN m) (show qy (w.drewN m) lo hi a l from v.o) k.o o.o N f.o g.o).mono ?_;rintro e H ⟨rfl,p,rfl⟩;rw [b.o];go_wp2;go_roundw
      case rel =>
       refine ⟨h+1,j,m+p,by omega,by omega,by first|go_num|(rw [d.o];go_num),rfl,fun t ht hle=>?_,s.o,by first|rfl|(rw [World.drewN_drewN])⟩;by_cases e:t=h
       . subst e;exact b.o
       . exact xE (jG u.o t h ht k.o (by omega)) b.o
      case measure=>simp [intOf];have:=d.o;omega
  . obtain rfl:i=j:=by omega
    go_wp2;go_ret;exact ⟨⟨i,rfl,by have:=o.o;omega,q.o,s.o⟩,_,rfl⟩
theorem gN (l:List ByteArray) (x:ByteArray) (a:Option Addr) (c:Nat) (w:World) (X:qy w 0 w.heap.size a l) (Z:l.length<=4294967296) (Y:qd l=true) :
 Calls Tryz.prog 21 #[.slice a l.length c,.string x] w (p0 l x w):=by
 have A:=U X;clear X;have z:=U Y;clear Y;obtain ⟨n,F⟩:∃n,l.length=n:=⟨_,rfl⟩;rw [F];have E:n<=4294967296:=by omega
 have q:=U F;clear F;go_enter Tryz.func21,Tryz.ntmps21;go_wp2_with fail;have i:=O0 (O5 w ((w.alloc (.cells #[.slice a n c] 23)).alloc (.cells #[.string x] 9))) ((O4).alloc (by simp) _);have f:=xO l a c ((w.alloc (.cells #[.slice a n c] 23)).alloc (.cells #[.string x] 9)) (A.o.below i.o lz lz i.o.size) Z;rw [q.o,z.o] at f;refine f.mono ?_;clear f;rintro e j ⟨rfl,g⟩;have G:w.heap.size+2<=j.heap.size:=by have:=g.size;simp at this;omega
 have B:j.cell? ⟨w.heap.size,0,none⟩=some (.slice a n c):=by rw [g.cell (by simp;omega)];go_simp
 have C:j.cell? ⟨w.heap.size+1,0,none⟩=some (.string x):=by rw [g.cell (by simp)];go_simp
 have k:Hid (O5 w j):=i.o.trans (g.mono (by simp;omega));clear g i;go_wp2_with fail;refine (rx l x a n c w.heap.size (w.heap.size+1) 0 w.heap.size j (A.o.below k.o lz lz lz) q.o E z.o B C).mono ?_;rintro e W ⟨⟨r,rfl,D,I,J⟩,m,rfl⟩;have H:=U D;have s:=U I;have u:=U J;have N:r<=n:=by rw [<- q.o];exact D
 clear D I J;replace B:(j.drewN m).cell? ⟨w.heap.size,0,none⟩=some (.slice a n c):=B;replace C:(j.drewN m).cell? ⟨w.heap.size+1,0,none⟩=some (.string x):=C;have o:=U (Below.drewN k.o m);clear k;generalize j.drewN m=w3 at *;clear G;by_cases hlt:r<n
 . have d:r<l.length:=by rw [q.o];exact hlt
   obtain ⟨b,Q,rfl,_,_,R⟩:=(A.o.below o.o lz lz lz).at r d;have M:=O0 (∃y,y=l[r]) (⟨_,rfl⟩);have p:=U (show ¬l[r]=x->∀t (h:t<l.length),l[t]≠x by
    intro hne t ht e;by_cases e1:t<r
    . have:=s.o t ht e1;rw [e,zY] at this;cases this
    . by_cases e2:t=r
      . subst e2;exact hne e
      . have K:=jG z.o r t d ht (by omega);have L:=u.o r d lz;rw [e] at K;rw [K] at L;cases L)
   have T:(0:Int)<=(r:Int):=by omega
   have V:(r:Int)<(n:Int):=by omega
   have v:=O0 (l[r]=x->∃h:r<l.length,l[r]=x) (fun e=>⟨d,e⟩);generalize l[r]=y at *;clear M;go_wp2_with fail;go_quiet (fail);go_wp2;go_ret2;refine ⟨r,(y.toList == x.toList),rfl,H.o,s.o,u.o,fun e=>v.o (gL (by simpa using e)),fun e=>p.o (fun e'=>by rw [e'] at e;simp at e),Below.drewN o.o _⟩
 . have p:=U (show ∀t (h:t<l.length),l[t]≠x by
    intro t ht e;have:=s.o t ht (by have:=q.o;omega);rw [e,zY] at this;cases this)
   have S:decide ((r:Int)<(n:Int))=false:=by simp;omega
   have P:decide (r<n)=false:=by simp;omega
   go_wp2_with fail
   go_quiet (fail)
   go_wp2;go_ret2;exact ⟨r,false,rfl,H.o,s.o,u.o,(fun e=>by cases e),fun _=>p.o,Below.drewN o.o _⟩
def oJ (v:JV) (x:ByteArray) (w:World) (e:Ending) (w':World):Prop :=
 ((
  ∃(r:Nat) (h:r<v.names.length) (h':r<v.items.length),v.names[r]=x/\∃an cn ai ci,e=.returned (.tuple #[.agg #[.int .u8 v.items[r].kind,.int .i64 v.items[r].n,.string v.items[r].t,.slice an v.items[r].names.length cn,.slice ai v.items[r].items.length ci],.bool true]) /\
   Rep w' w.heap.size w'.heap.size v.items[r] (.agg #[.int .u8 v.items[r].kind,.int .i64 v.items[r].n,.string v.items[r].t,.slice an v.items[r].names.length cn,.slice ai v.items[r].items.length ci])) \/
  ((∀t (h:t<v.names.length),v.names[t]≠x)/\e=.returned (.tuple #[zeroAgg,.bool false])))/\O5 w w'
theorem jB (v:JV) (x:ByteArray) (y:Value) (w:World) (lo hi:Nat) (hN:v.wt<=4294967296) (b5:0<lo) (b0:hi<=w.heap.size) (hR:Rep w lo hi v y) (hk:v.kind=5) (hr:qd v.names=true) (hl:v.names.length=v.items.length) :
 Calls Tryz.prog 15 #[y,.string x] w (oJ v x w):=by
 obtain ⟨z,B,u,A,rfl,h1,h2,Y,Z⟩:=hR.parts;obtain ⟨b1,b2,b3,b4⟩:=v.wt_bd;have H3:=U Y;have H4:=U Z;have HR:=U hr;clear Y Z hR hr;obtain ⟨d,m⟩:=O1 v.items.length;rw [hl,<- m];rw [<- m] at b3 h2;have C:=U m;have X:=U hl;clear m hl;go_enter Tryz.func15,Tryz.ntmps15;go_wp2_with fail;have j:=O0 (O5 w ((w.alloc (.cells #[.int .u8 5,.int .i64 v.n,.string v.t,.slice z d B,.slice u d A] 26)).alloc (.cells #[.int .u8 0,.int .i64 0,.string ⟨#[]⟩,.slice none 0 0,.slice none 0 0] 26))) ((O4).alloc (by simp) _);have Q:=gN v.names x z B ((w.alloc (.cells #[.int .u8 5,.int .i64 v.n,.string v.t,.slice z d B,.slice u d A] 26)).alloc (.cells #[.int .u8 0,.int .i64 0,.string ⟨#[]⟩,.slice none 0 0,.slice none 0 0] 26)) (H3.o.below j.o b0 (J0 _) (by have:=j.o.size;omega)) (by omega) HR.o;rw [X.o,<- C.o] at Q;refine Q.mono ?_;clear Q;rintro e I ⟨r,f,rfl,k1,k2,k3,k4,k5,g⟩;have a8:w.heap.size+2<=I.heap.size:=by have:=g.size;simp at this;omega
 have o:=(qg w (.int .u8 5) (.int .i64 v.n) (.string v.t) (.slice z d B) (.slice u d A) 26).alloc (.cells #[.int .u8 0,.int .i64 0,.string ⟨#[]⟩,.slice none 0 0,.slice none 0 0] 26);have i:=qg (w.alloc (.cells #[.int .u8 5,.int .i64 v.n,.string v.t,.slice z d B,.slice u d A] 26)) (.int .u8 0) (.int .i64 0) (.string ⟨#[]⟩) (.slice none 0 0) (.slice none 0 0) 26;rw [show (w.alloc (.cells #[.int .u8 5,.int .i64 v.n,.string v.t,.slice z d B,.slice u d A] 26)).heap.size=w.heap.size+1 by simp] at i;have K:=U (qj g o (by simp;omega));have l:=U (qj g i (by simp));have q:Hid (O5 w I):=j.o.trans (g.mono (by simp;omega));have c4:I.cell? ⟨w.heap.size,4,none⟩=some (.slice u d A):=K.o.cell (by omega);have K1:=U k1;have K4:=U k4;have K5:=U k5;clear o i g j k1 k2 k3 k4 k5;cases f
 . have L:=U (K5.o rfl);obtain ⟨R,S,T,V,W⟩:=rc5 l.o;obtain ⟨s0,s1,s2,s3,s4⟩:=rf5 l.o;simp only [qo] at R S T V W;go_wp2;refine Z8 (qk Tryz.results15 _ _ (w.heap.size+1) 26 _ (0,0) _ rfl (qr (set5 _ _ _ _ _ l.o)) J7 rfl (by kernel_rfl) _ rfl) rfl ⟨.inr ⟨L.o,rfl⟩,zf _ _ _ _ _ q.o (by omega)⟩
 . obtain ⟨G,F⟩:=K4.o rfl;have c:r<v.items.length:=by rw [<- X.o];exact G
   have a6:r<d:=by rw [C.o];exact c
   have N:=U F;clear F;obtain ⟨b,a9,a1,a5,a0,a4,rfl,_,hb,y0,y1,y2,y3,y4,p⟩:=(H4.o.below q.o b0 lz lz).get r c;have a7:=JV.wts_get v.items r c;have H:=ju v.items[r] _ I lo hi (by omega) (by omega) p (fun k h=>.inl b5);have D:=U H;clear H p;go_wp2_with fail;refine D.o.mono ?_;clear D y0 y1 y2 y3 y4 c4 hb;rintro e w2 ⟨a2,c2,a3,c3,rfl,E,s⟩;have a:=qj s l.o (by omega);obtain ⟨R,S,T,V,W⟩:=rc5 a;obtain ⟨s0,s1,s2,s3,s4⟩:=rf5 a;simp only [qo] at R S T V W;have M:=U E;have J:=U s;have P:=U a;clear E s a;go_wp2;refine Z8 (qk Tryz.results15 _ _ (w.heap.size+1) 26 _ (0,0) _ rfl (qr (set5 _ _ _ _ _ P.o)) J7 rfl (by kernel_rfl) _ rfl) rfl ⟨.inl ⟨r,G,c,N.o,a2,c2,a3,c3,rfl,?_⟩,zf _ _ _ _ _ (q.o.trans (J.o.mono (by omega))) (by omega)⟩;exact Rep.carry (by omega) (show w2.heap.size<=_ by simp [World.setCell]) (fun k hk _=>xJ _ _ _ _ _ (by omega)) _ _ M.o
open Go.WideMaps Go.Maps
def jy:List ByteArray->List JV->ByteArray->Option JV
 | n :: ns,x :: xs,y=>if n=y then some x else jy ns xs y
 | _,_,_=>none
def JV.look (v:JV) (y:ByteArray):Option JV:=jy v.names v.items y
theorem xu:∀(ns:List ByteArray) (xs:List JV) (y:ByteArray),(∀t (h:t<ns.length),ns[t]≠y)->jy ns xs y=none
 | [],_,_,_=>by simp [jy]
 | n :: ns,[],_,_=>by simp [jy]
 | n :: ns,x :: xs,y,h=>by have h0:=h 0 (by simp);simp only [N6] at h0;rw [jy,Z6 h0];exact xu ns xs y fun t ht=>by have:=h (t+1) (by simp;omega);simpa using this
theorem p5:∀(ns:List ByteArray) (xs:List JV) (y:ByteArray) (r:Nat) (h:r<ns.length) (h':r<xs.length),(∀t (a:t<ns.length),t<r->ns[t]≠y)->ns[r]=y->jy ns xs y=some xs[r]
 | n :: ns,x :: xs,y,0,_,_,_,e=>by simp only [N6] at e;rw [jy,J3 e];rfl
 | n :: ns,x :: xs,y,r+1,h,h',hn,e=>by have h0:=hn 0 (by simp) (by omega);simp only [N6] at h0;rw [jy,Z6 h0];exact p5 ns xs y r (by simpa using h) (by simpa using h') (fun t a hr=>by have:=hn (t+1) (by simp;omega) (by omega);simpa using this) (by simpa using e)
theorem jd {v:JV} {y:ByteArray} (b:qd v.names=true) (r:Nat) (h:r<v.names.length) (a:r<v.items.length) (e:v.names[r]=y):v.look y=some v.items[r] :=
 p5 _ _ _ r h a (fun t ht hlt e2=>by
  have:=jG b t r ht h hlt;rw [e2,e,zY] at this;cases this) e
structure PS where
 asked:List ByteArray
 err:Int
def qw (v:JV) (y:ByteArray) (st:PS):ByteArray × PS :=
 if st.err≠0 then (⟨#[]⟩,st) else match v.look y with
  | none=>(⟨#[]⟩,⟨st.asked,6⟩)
  | some it=>if it.kind=3 then (it.t,⟨y :: st.asked,0⟩) else (⟨#[]⟩,⟨st.asked,10⟩)
def qb (v:JV) (st:PS):Int:=if st.err≠0 then st.err else if v.names.all (fun n=>st.asked.any fun a=>decide (a=n)) then 0 else 11
def dq (D:DataW Unit) (asked:List ByteArray):Prop :=
 IsMap D/\∀s:ByteArray,∃c:Int,D.atKey (.string s.data.toList) (.lit (.int .i64 0))=.lit (.int .i64 c)/\0<=c/\c<=asked.length/\(c=0↔s ∉ asked)
theorem dq.nil:dq (.map []) []:=⟨isMap_empty,fun s=>⟨0,rfl,by omega,by simp,by simp⟩⟩
theorem dq.cons {D:DataW Unit} {k:List ByteArray} (h:dq D k) (y:ByteArray) (c:Int) (l:D.atKey (.string y.data.toList) (.lit (.int .i64 0))=.lit (.int .i64 c)) :
 dq (D.put (.string y.data.toList) (.lit (.int .i64 (c+1)))) (y :: k):=by
 refine ⟨h.1.put _ _,fun s=>?_⟩;by_cases e:s=y
 . subst e;obtain ⟨b,a,d,i,f⟩:=h.2 s;rw [l] at a;simp only [za0,zb7,za5] at a;subst a;exact ⟨c+1,atKey_put_same h.1 (by trivial) _ _,by omega,by simp;omega,by simp;omega⟩
 . obtain ⟨b,a,d,i,f⟩:=h.2 s;have j:Lit.string s.data.toList≠Lit.string y.data.toList:=fun e2=>e (by
    have g:s.data.toList=y.data.toList:=by simpa using e2
    exact ByteArray.ext (Array.toList_inj.1 g))
   exact ⟨b,by rw [atKey_put_other j];exact a,d,by simp;omega,by simp [e,f]⟩
structure PickAt (o m lo hi:Nat) (v:JV) (an ai:Option Addr) (cn ci:Nat) (st:PS) (w:World):Prop where
 obj:w.heap[o]?=some (.cells #[.int .u8 v.kind,.int .i64 v.n,.string v.t,.slice an v.names.length cn,.slice ai v.items.length ci,.map (some m),.int .i64 st.err] 117 (0,0))
 map:∃D n,w.ownsMap Tryz.prog 9 (plainElem (H:=Unit) Tryz.prog 3) m n D/\n<=1000000+st.asked.length/\dq D st.asked
 rep:Rep w lo hi v (.agg #[.int .u8 v.kind,.int .i64 v.n,.string v.t,.slice an v.names.length cn,.slice ai v.items.length ci])
 pos:0<lo
 out:¬(lo<=o/\o<hi)/\¬(lo<=m/\m<hi)
 le:hi<=w.heap.size
 kind:v.kind=5
 rise:qd v.names=true
 len:v.names.length=v.items.length
 wt:v.wt<=4294967296
theorem PickAt.o:type_of% @PickAt.out:=@PickAt.out
theorem PickAt.below {o m lo hi:Nat} {v:JV} {an ai:Option Addr} {cn ci:Nat} {st:PS} {w w':World} (h:PickAt o m lo hi v an ai cn ci st w) (d:O5 w w'):PickAt o m lo hi v an ai cn ci st w' where
 obj:=by rw [d.block o ((M6.1 h.obj).1)];exact h.obj
 map:=by obtain ⟨D,n,a,b,c⟩:=h.map;exact ⟨D,n,a.kept (row:=none) ⟨d.os,d.tape,d.output,d.size,fun k hk _=>d.block k hk⟩ (by simp),b,c⟩
 rep:=h.rep.below d h.le lz lz
 pos:=h.pos
 out:=h.o
 le:=Z3 h.le d.size
 kind:=h.kind
 rise:=h.rise
 len:=h.len
 wt:=h.wt
theorem PickAt.ne {o m lo hi:Nat} {v:JV} {an ai:Option Addr} {cn ci:Nat} {st:PS} {w:World} (h:PickAt o m lo hi v an ai cn ci st w):m≠o:=fun e=>by obtain ⟨D,n,⟨es,clock,h1,_⟩,_⟩:=h.map;rw [e,h.obj] at h1;cases h1
theorem PickAt.fail {o m lo hi:Nat} {v:JV} {an ai:Option Addr} {cn ci:Nat} {st:PS} {w:World} (h:PickAt o m lo hi v an ai cn ci st w) (e:Int):PickAt o m lo hi v an ai cn ci ⟨st.asked,e⟩ (w.setCell ⟨o,6,none⟩ (.int .i64 e)) where
 obj:=by simp [World.setCell,Array.getElem?_modify,h.obj]
 map:=by obtain ⟨D,n,a,c,d⟩:=h.map;exact ⟨D,n,a.kept (row:=some o) ⟨rfl,rfl,rfl,by simp [World.setCell],fun k _ hk=>Z9 _ _ _ _ (fun e=>hk (by simp [e]))⟩ (fun e=>h.ne (X2 e)),c,d⟩
 rep:=h.rep.carry lz lz fun b a c=>Z9 _ _ _ _ (fun (e:b=o)=>h.o.1 ⟨e ▸ a,e ▸ c⟩)
 pos:=h.pos
 out:=h.o
 le:=by have:=h.le;simpa [World.setCell] using this
 kind:=h.kind
 rise:=h.rise
 len:=h.len
 wt:=h.wt
theorem PickAt.ask {o m lo hi:Nat} {v:JV} {an ai:Option Addr} {cn ci:Nat} {st:PS} {w w':World} (h:PickAt o m lo hi v an ai cn ci st w) (y:ByteArray) (a:w.grownBy w' (some m)) {D:DataW Unit} {n:Nat}
 (c:w'.ownsMap Tryz.prog 9 (plainElem (H:=Unit) Tryz.prog 3) m n D) (hn:n<=1000000+st.asked.length+1) (hD:dq D (y :: st.asked)):PickAt o m lo hi v an ai cn ci ⟨y :: st.asked,st.err⟩ w' where
 obj:=by rw [a.block o ((M6.1 h.obj).1) (fun e=>h.ne (X2 e).symm)];exact h.obj
 map:=⟨D,n,c,by simp;omega,hD⟩
 rep:=h.rep.carry lz lz fun b h1 h2=>a.block b (X1 h2 h.le) (fun e=>h.o.2 ⟨by rw [<- X2 e];exact h1,by rw [<- X2 e];exact h2⟩)
 pos:=h.pos
 out:=h.o
 le:=Z3 h.le a.size
 kind:=h.kind
 rise:=h.rise
 len:=h.len
 wt:=h.wt
structure PinV where
 name:ByteArray
 ver:Int
 len:Int
 hs:List Key2
structure SnapV where
 ver:Int
 exp:Int
 pins:List PinV
def vy (h:Key2):Bool:=zw h.1.data.toList && jw h.2.data.toList
def qP (l:List Key2):Bool:=decide (1<=l.length/\l.length<=4) && l.all vy && qd (l.map (·.1))
theorem uZ {a b:ByteArray} (h:a.data.toList=b.data.toList):a=b:=by obtain ⟨⟨a⟩⟩:=a;obtain ⟨⟨b⟩⟩:=b;simp at h;simp [h]
theorem gS (l:List ByteArray) (h:qd l=true):∀i j (hi:i<l.length) (c:j<l.length),i<j->Op.bytesLess l[i].toList l[j].toList=true:=by
 have a:∀k (h1:1<=k) (hk:k<l.length),Op.bytesLess l[k-1].toList l[k].toList=true:=by
  intro k h1 hk;cases hb:Op.bytesLess l[k-1].toList l[k].toList with
  | true=>rfl
  | false=>rw [vX l k h1 hk hb] at h;cases h
 intro i j
 induction j with
 | zero=>intro _ _ hlt;omega
 | succ j ih =>
  intro hi c hlt;have b:=a (j+1) (by omega) c;simp only [Nat.add_sub_cancel] at b;by_cases e:i=j
  . subst e;exact b
  . exact kQ _ _ _ (ih hi (by omega) (by omega)) b
theorem uX (l:List ByteArray) (h:qd l=true) (i j:Nat) (hi:i<l.length) (b:j<l.length) (a:l[i]=l[j]):i=j:=by
 rcases Nat.lt_trichotomy i j with c|c|c
 . have:=gS l h i j hi b c;rw [a,zT] at this;cases this
 . exact c
 . have:=gS l h j i b hi c;rw [a,zT] at this;cases this
