/- Plain: the moment of a moment's text is the moment. No program in sight. -/
import Derived.Below
import Derived.Laws.Strings
import Derived.Deep.OwnRows
import Derived.Deep.Draws
import Derived.Deep.AppendLies
import Derived.Test.YthgembbgcbaghaaGreatDoorProg
import Derived.WalkKit
import Derived.WalkSpells
import Derived.WalkLawsBesides
import Derived.Lib.Hide
import Derived.LaidEqlPtr
import Derived.Laws.ResultCell
import Derived.Lib.ItoaNum

namespace Go.Proofs.YthgembbgcbaghaaGreatDoor
open Go.RowKit
theorem Lh {p : Prop} (h : p) : Hid p := Lib.hid h
theorem lz {n : Nat} : n ≤ n := Nat.le_refl n
theorem bx5 {w : World} {b T : Nat} {a0 a1 a2 a3 a4 : Value} (h : w.heap[b]? = some (.cells #[a0, a1, a2, a3, a4] T (0, 0))) : w.cell? ⟨b, 0, none⟩ = some a0 ∧ w.cell? ⟨b, 1, none⟩ = some a1 ∧ w.cell? ⟨b, 2, none⟩ = some a2 ∧ w.cell? ⟨b, 3, none⟩ = some a3 ∧ w.cell? ⟨b, 4, none⟩ = some a4 := by simp [World.cell?, h]
theorem bx9 {w : World} {b T : Nat} {a0 a1 a2 a3 a4 a5 a6 a7 a8 : Value} (h : w.heap[b]? = some (.cells #[a0, a1, a2, a3, a4, a5, a6, a7, a8] T (0, 0))) : w.cell? ⟨b, 0, none⟩ = some a0 ∧ w.cell? ⟨b, 1, none⟩ = some a1 ∧ w.cell? ⟨b, 2, none⟩ = some a2 ∧ w.cell? ⟨b, 3, none⟩ = some a3 ∧ w.cell? ⟨b, 4, none⟩ = some a4 ∧ w.cell? ⟨b, 5, none⟩ = some a5 ∧ w.cell? ⟨b, 6, none⟩ = some a6 ∧ w.cell? ⟨b, 7, none⟩ = some a7 ∧ w.cell? ⟨b, 8, none⟩ = some a8 := by simp [World.cell?, h]
theorem rc5 {w : World} {g T n : Nat} {f : Nat → Value} (h : w.rowIs g T n f) (hn : 5 ≤ n := by decide) : w.cell? ⟨g, 0, none⟩ = some (f 0) ∧ w.cell? ⟨g, 1, none⟩ = some (f 1) ∧ w.cell? ⟨g, 2, none⟩ = some (f 2) ∧ w.cell? ⟨g, 3, none⟩ = some (f 3) ∧ w.cell? ⟨g, 4, none⟩ = some (f 4) := ⟨h.cell (by omega), h.cell (by omega), h.cell (by omega), h.cell (by omega), h.cell (by omega)⟩
theorem rf5 {w : World} {g T n : Nat} {f : Nat → Value} (h : w.rowIs g T n f) : w.frozen? ⟨g, 0, none⟩ = false ∧ w.frozen? ⟨g, 1, none⟩ = false ∧ w.frozen? ⟨g, 2, none⟩ = false ∧ w.frozen? ⟨g, 3, none⟩ = false ∧ w.frozen? ⟨g, 4, none⟩ = false := ⟨h.frozen 0, h.frozen 1, h.frozen 2, h.frozen 3, h.frozen 4⟩
end Go.Proofs.YthgembbgcbaghaaGreatDoor
namespace Go.Proofs.YthgembbgcbaghaaGreatDoor
open Go.RowKit
def xK (c:UInt8):Bool:=decide ((48≤c.toNat∧c.toNat≤57)∨(97≤c.toNat∧c.toNat≤102))
def mg (c:UInt8):Int:=if 48≤c.toNat∧c.toNat≤57 then (c.toNat:Int) - 48 else if 97≤c.toNat∧c.toNat≤102 then (c.toNat:Int) - 97+10 else 0
def jh (c:UInt8):Bool :=
 decide ((97≤c.toNat∧c.toNat≤122)∨(65≤c.toNat∧c.toNat≤90)∨(48≤c.toNat∧c.toNat≤57)∨c.toNat=46∨c.toNat=95∨c.toNat=45)
def xY (l:List UInt8):Bool:=l.all xK
def zb (l:List UInt8):Bool:=decide (1≤l.length∧l.length≤64) && !(l.headD 0 == 46) && l.all jh
def yY (l:List UInt8):Bool:=decide (2≤l.length∧l.length≤128∧l.length % 2=0) && xY l
def ze (s p:List UInt8):Bool:=zb s && yY p
theorem qz {a b:Bool} (h:a=b):Ending.returned (.bool a)=.returned (.bool b):=by rw [h]
theorem wg {k:IntKind} {a b:Int} (h:a=b):Ending.returned (.int k a)=.returned (.int k b):=by rw [h]
theorem mf {k:IntKind} {a b:Int} {x y:Bool} (h:a=b) (h':x=y):Ending.returned (.tuple #[.int k a,.bool x])=.returned (.tuple #[.int k b,.bool y]):=by rw [h,h']
theorem fH {c:UInt8} (h:48≤(c.toNat:Int)) (h':(c.toNat:Int)≤57):mg c=(c.toNat:Int) - 48∧xK c=true:=by
 unfold mg xK;rw [if_pos (by omega)];exact ⟨rfl,by simp;omega⟩
theorem fU {c:UInt8} (h:97≤(c.toNat:Int)) (h':(c.toNat:Int)≤102):mg c=(c.toNat:Int) - 97+10∧xK c=true:=by
 unfold mg xK;rw [if_neg (by omega),if_pos (by omega)];exact ⟨rfl,by simp;omega⟩
theorem cJ {c:UInt8} (h:¬(48≤(c.toNat:Int)∧(c.toNat:Int)≤57)) (h':¬(97≤(c.toNat:Int)∧(c.toNat:Int)≤102)):mg c=0∧xK c=false:=by
 unfold mg xK;rw [if_neg (by omega),if_neg (by omega)];exact ⟨rfl,by simp;omega⟩
theorem vR (s:ByteArray) (k:Nat) (h:k<s.size):s.data.toList[k]'(by simpa using h)=s[k]:=rfl
theorem qm (s:ByteArray):s.data.toList.length=s.size:=by simp
theorem wI (s:ByteArray) (k:Nat) (h:k<s.size):s.data.toList.take (k+1)=s.data.toList.take k ++ [s[k]]:=by
 rw [List.take_succ_eq_append_getElem (by simpa using h)];rfl
theorem vV (p:UInt8→Bool) (s:ByteArray) (k:Nat) (h:k<s.size):(s.data.toList.take (k+1)).all p=((s.data.toList.take k).all p && p s[k]):=by
 rw [wI s k h,List.all_append];simp
theorem yG (p:UInt8→Bool) (s:ByteArray) (h:(s.data.toList.take s.size).all p=true):s.data.toList.all p=true:=by
 rwa [List.take_of_length_le (by simp)] at h
theorem pk (p:UInt8→Bool) (s:ByteArray) (k:Nat) (h:k<s.size) (hp:p s[k]=false):s.data.toList.all p=false:=by
 rw [List.all_eq_false];exact ⟨s[k],by rw [← vR s k h];exact List.getElem_mem _,by simp [hp]⟩
theorem kt {c:UInt8} (h:(97≤(c.toNat:Int)∧(c.toNat:Int)≤122)∨(65≤(c.toNat:Int)∧(c.toNat:Int)≤90)∨(48≤(c.toNat:Int)∧(c.toNat:Int)≤57)∨(c.toNat:Int)=46∨(c.toNat:Int)=95∨(c.toNat:Int)=45):jh c=true:=by
 unfold jh;simp;omega
theorem fM {c:UInt8} (h:¬((97≤(c.toNat:Int)∧(c.toNat:Int)≤122)∨(65≤(c.toNat:Int)∧(c.toNat:Int)≤90)∨(48≤(c.toNat:Int)∧(c.toNat:Int)≤57)∨(c.toNat:Int)=46∨(c.toNat:Int)=95∨(c.toNat:Int)=45)):jh c=false:=by
 unfold jh;simp;omega
theorem wO (s:ByteArray) (h:0<s.size):¬s.toList=[]∧s.toList.isEmpty=false:=by
 have e:s.toList=s.data.toList:=ByteArray.toList_eq s
 have l:=qm s
 rw [e];constructor
 · intro h0;rw [h0] at l;simp at l;omega
 · cases h1:s.data.toList with
   | nil=>rw [h1] at l;simp at l;omega
   | cons a r=>rfl
theorem vN (s:ByteArray) (h:s.size=0):s.toList=[]:=by
 have e:s.toList=s.data.toList:=ByteArray.toList_eq s
 rw [e];exact List.eq_nil_of_length_eq_zero (by simpa using h)
theorem vu (s:ByteArray) (h:0<s.size):s.data.toList.headD 0=s[0]:=by
 have l:=qm s
 have g:∀(L:List UInt8) (hL:0<L.length),L.headD 0=L[0]:=fun L hL=>by cases L with
  | nil=>simp at hL
  | cons a r=>rfl
 rw [← vR s 0 h];exact g _ (by omega)
theorem fC {s:ByteArray} (h:s.size<1∨64<s.size):zb s.data.toList=false:=by
 unfold zb;rw [qm,decide_eq_false (by omega)];rfl
theorem lC {s:ByteArray} (h0:0<s.size) (h:s[0].toNat=46):zb s.data.toList=false:=by
 unfold zb;rw [vu s h0]
 have:s[0]=46:=by apply UInt8.toNat_inj.1;exact h
 rw [this];simp
theorem lD {s:ByteArray} (k:Nat) (hk:k<s.size) (h:jh s[k]=false):zb s.data.toList=false:=by
 unfold zb;rw [pk jh s k hk h];simp
theorem dy {s:ByteArray} (h0:0<s.size) (h1:s.size≤64) (h2:¬s[0].toNat=46) (h:(s.data.toList.take s.size).all jh=true):zb s.data.toList=true:=by
 unfold zb;rw [yG jh s h,vu s h0,qm]
 have:¬s[0]=46:=fun e=>h2 (by rw [e];rfl)
 simp [this];omega
theorem ac {s:ByteArray} (h:s.size<2∨128<s.size∨s.size % 2=1):yY s.data.toList=false:=by
 unfold yY;rw [qm,decide_eq_false (by omega)];rfl
theorem nD {s:ByteArray} (h1:2≤s.size) (h2:s.size≤128) (h3:s.size % 2=0):yY s.data.toList=xY s.data.toList:=by
 unfold yY;rw [qm,decide_eq_true ⟨h1,h2,h3⟩];simp
end Go.Proofs.YthgembbgcbaghaaGreatDoor

namespace Go.Proofs.YthgembbgcbaghaaGreatDoor
open Go.RowKit
inductive JV where
 | mk (kind n:Int) (t:ByteArray) (names:List ByteArray) (items:List JV)
namespace JV
def kind:JV→Int|mk k _ _ _ _=>k
def n:JV→Int|mk _ n _ _ _=>n
def t:JV→ByteArray|mk _ _ t _ _=>t
def names:JV→List ByteArray|mk _ _ _ ns _=>ns
def items:JV→List JV|mk _ _ _ _ xs=>xs
end JV
def qd:List ByteArray→Nat
 | []=>0
 | s :: r=>s.size+1+qd r
mutual
def JV.wt:JV→Nat
 | .mk _ _ t ns xs=>1+t.size+qd ns+JV.wts xs
def JV.wts:List JV→Nat
 | []=>0
 | x :: r=>JV.wt x+JV.wts r
end
mutual
def JV.num:JV→Prop
 | .mk k n _ _ xs=>(0≤k∧k≤255)∧(-9223372036854775808≤n∧n≤9223372036854775807)∧JV.nums xs
def JV.nums:List JV→Prop
 | []=>True
 | x :: r=>JV.num x∧JV.nums r
end
def qw (w:World) (lo hi:Nat) (a:Option Addr) (l:List ByteArray):Prop :=
 l=[]∨∃b off,a=some ⟨b,off,none⟩∧lo≤b∧b<hi∧∀i (h:i<l.length),w.cell? ⟨b,off+i,none⟩=some (.string l[i])
def mh (w:World) (lo b:Nat):Prop:=∃cs t fr,w.heap[b]?=some (.cells cs t fr)∧(0<lo→fr=(0,0))
mutual
def Rep (w:World) (lo hi:Nat):JV→Value→Prop
 | .mk k n t ns xs,x=>∃an cn ai ci,x=.agg #[.int .u8 k,.int .i64 n,.string t,.slice an ns.length cn,.slice ai xs.length ci]∧ns.length≤cn∧xs.length≤ci ∧
  qw w lo hi an ns∧(xs=[]∨∃b off,ai=some ⟨b,off,none⟩∧lo≤b∧b<hi∧mh w lo b∧xJ w lo hi xs b off)
def xJ (w:World) (lo hi:Nat):List JV→Nat→Nat→Prop
 | [],_,_=>True
 | v :: r,b,off=>(∃c0 c1 c2 c3 c4,w.cell? ⟨b,off,none⟩=some c0∧w.cell? ⟨b,off+1,none⟩=some c1∧w.cell? ⟨b,off+2,none⟩=some c2∧w.cell? ⟨b,off+3,none⟩=some c3∧w.cell? ⟨b,off+4,none⟩=some c4∧w.frozen? ⟨b,off,none⟩=false ∧
  Rep w lo hi v (.agg #[c0,c1,c2,c3,c4]))∧xJ w lo hi r b (off+5)
end
def qR (w:World) (lo hi:Nat) (a:Option Addr) (l:List JV):Prop :=
 l=[]∨∃b off,a=some ⟨b,off,none⟩∧lo≤b∧b<hi∧mh w lo b∧xJ w lo hi l b off
theorem Rep.parts {w:World} {lo hi:Nat} {v:JV} {x:Value} (h:Rep w lo hi v x) :
 ∃an cn ai ci,x=.agg #[.int .u8 v.kind,.int .i64 v.n,.string v.t,.slice an v.names.length cn,.slice ai v.items.length ci]∧v.names.length≤cn∧v.items.length≤ci∧qw w lo hi an v.names∧qR w lo hi ai v.items:=by
 cases v;unfold Rep at h;exact h
theorem Rep.mk {w:World} {lo hi:Nat} {v:JV} {an ai:Option Addr} {cn ci:Nat} (h1:v.names.length≤cn) (h2:v.items.length≤ci) (h3:qw w lo hi an v.names) (h4:qR w lo hi ai v.items) :
 Rep w lo hi v (.agg #[.int .u8 v.kind,.int .i64 v.n,.string v.t,.slice an v.names.length cn,.slice ai v.items.length ci]):=by
 cases v;unfold Rep;exact ⟨an,cn,ai,ci,rfl,h1,h2,h3,h4⟩
theorem xJ.at {w:World} {lo hi:Nat}:∀ {l:List JV} {b off:Nat} (_:xJ w lo hi l b off) (i:Nat) (h:i<l.length),
 ∃c0 c1 c2 c3 c4,w.cell? ⟨b,off+i * 5,none⟩=some c0∧w.cell? ⟨b,off+i * 5+1,none⟩=some c1∧w.cell? ⟨b,off+i * 5+2,none⟩=some c2∧w.cell? ⟨b,off+i * 5+3,none⟩=some c3∧w.cell? ⟨b,off+i * 5+4,none⟩=some c4∧w.frozen? ⟨b,off+i * 5,none⟩=false ∧
  Rep w lo hi l[i] (.agg #[c0,c1,c2,c3,c4])
 | [],_,_,_,i,h=>by simp at h
 | v :: r,b,off,hr,0,_=>by unfold xJ at hr;exact hr.1
 | v :: r,b,off,hr,i+1,h=>by
  unfold xJ at hr
  have:=xJ.at hr.2 i (by simpa using h)
  rw [show off+(i+1) * 5=off+5+i * 5 by omega]
  exact this
theorem xJ.of_at {w:World} {lo hi:Nat}:∀ {l:List JV} {b off:Nat} (_:∀(i:Nat) (h:i<l.length),
 ∃c0 c1 c2 c3 c4,w.cell? ⟨b,off+i * 5,none⟩=some c0∧w.cell? ⟨b,off+i * 5+1,none⟩=some c1∧w.cell? ⟨b,off+i * 5+2,none⟩=some c2∧w.cell? ⟨b,off+i * 5+3,none⟩=some c3∧w.cell? ⟨b,off+i * 5+4,none⟩=some c4∧w.frozen? ⟨b,off+i * 5,none⟩=false ∧
  Rep w lo hi l[i] (.agg #[c0,c1,c2,c3,c4])),xJ w lo hi l b off
 | [],_,_,_=>by unfold xJ;trivial
 | v :: r,b,off,hr=>by
  unfold xJ
  refine ⟨hr 0 (by simp),xJ.of_at fun i h=>?_⟩
  have:=hr (i+1) (by simpa using h)
  rw [show off+(i+1) * 5=off+5+i * 5 by omega] at this
  exact this
theorem mh.carry {w w':World} {lo lo' b:Nat} (h:mh w lo b) (h1:lo'≤lo) (hs:w'.heap[b]?=w.heap[b]?):mh w' lo' b:=by
 obtain ⟨cs,t,fr,h2,h3⟩:=h
 exact ⟨cs,t,fr,by rw [hs];exact h2,fun h0=>h3 (by omega)⟩
theorem qw.carry {w w':World} {lo hi lo' hi':Nat} {a:Option Addr} {l:List ByteArray} (h:qw w lo hi a l) (h1:lo'≤lo) (h2:hi≤hi')
 (hs:∀b,lo≤b→b<hi→w'.heap[b]?=w.heap[b]?):qw w' lo' hi' a l:=by
 rcases h with h|⟨b,off,ha,hb,hb',hc⟩
 · exact .inl h
 · refine .inr ⟨b,off,ha,by omega,by omega,fun i hi=>?_⟩
   rw [World.cell?_of_block (w:=w) (hs b hb hb')];exact hc i hi
mutual
theorem Rep.carry {w w':World} {lo hi lo' hi':Nat} (h1:lo'≤lo) (h2:hi≤hi') (hs:∀b,lo≤b→b<hi→w'.heap[b]?=w.heap[b]?) :
 ∀(v:JV) (x:Value),Rep w lo hi v x→Rep w' lo' hi' v x
 | .mk k n t ns xs,x,h=>by
  unfold Rep at h ⊢
  obtain ⟨an,cn,ai,ci,rfl,h3,h4,h5,h6⟩:=h
  refine ⟨an,cn,ai,ci,rfl,h3,h4,h5.carry h1 h2 hs,?_⟩
  rcases h6 with h6|⟨b,off,ha,hb,hb',hu,hr⟩
  · exact .inl h6
  · exact .inr ⟨b,off,ha,by omega,by omega,hu.carry h1 (hs b hb hb'),xJ.carry h1 h2 hs xs b off hb hb' hr⟩
theorem xJ.carry {w w':World} {lo hi lo' hi':Nat} (h1:lo'≤lo) (h2:hi≤hi') (hs:∀b,lo≤b→b<hi→w'.heap[b]?=w.heap[b]?) :
 ∀(l:List JV) (b off:Nat),lo≤b→b<hi→xJ w lo hi l b off→xJ w' lo' hi' l b off
 | [],_,_,_,_,_=>by unfold xJ;trivial
 | v :: r,b,off,hb,hb',h=>by
  unfold xJ at h ⊢
  obtain ⟨⟨c0,c1,c2,c3,c4,e0,e1,e2,e3,e4,hf,hv⟩,hr⟩:=h
  have hz:w'.frozen? ⟨b,off,none⟩=w.frozen? ⟨b,off,none⟩:=World.frozen?_of_block (w:=w) (hs b hb hb')
  have hc:∀o,w'.cell? ⟨b,o,none⟩=w.cell? ⟨b,o,none⟩:=fun o=>World.cell?_of_block (w:=w) (hs b hb hb')
  exact ⟨⟨c0,c1,c2,c3,c4,by rw [hc,e0],by rw [hc,e1],by rw [hc,e2],by rw [hc,e3],by rw [hc,e4],by rw [hz,hf],Rep.carry h1 h2 hs v _ hv⟩,xJ.carry h1 h2 hs r b (off+5) hb hb' hr⟩
end
theorem Rep.below {w w':World} {lo hi lo' hi' B:Nat} {v:JV} {x:Value} (h:Rep w lo hi v x) (hb:Below B w w') (hB:hi≤B) (h1:lo'≤lo) (h2:hi≤hi'):Rep w' lo' hi' v x :=
 Rep.carry h1 h2 (fun b _ hlt=>hb.block b (by omega)) v x h
theorem qw.below {w w':World} {lo hi lo' hi' B:Nat} {a:Option Addr} {l:List ByteArray} (h:qw w lo hi a l) (hb:Below B w w') (hB:hi≤B) (h1:lo'≤lo) (h2:hi≤hi'):qw w' lo' hi' a l :=
 h.carry h1 h2 fun b _ hlt=>hb.block b (by omega)
theorem qR.carry {w w':World} {lo hi lo' hi':Nat} {a:Option Addr} {l:List JV} (h:qR w lo hi a l) (h1:lo'≤lo) (h2:hi≤hi')
 (hs:∀b,lo≤b→b<hi→w'.heap[b]?=w.heap[b]?):qR w' lo' hi' a l:=by
 rcases h with h|⟨b,off,ha,hb,hb',hu,hr⟩
 · exact .inl h
 · exact .inr ⟨b,off,ha,by omega,by omega,hu.carry h1 (hs b hb hb'),xJ.carry h1 h2 hs l b off hb hb' hr⟩
theorem qR.below {w w':World} {lo hi lo' hi' B:Nat} {a:Option Addr} {l:List JV} (h:qR w lo hi a l) (hb:Below B w w') (hB:hi≤B) (h1:lo'≤lo) (h2:hi≤hi'):qR w' lo' hi' a l :=
 h.carry h1 h2 fun b _ hlt=>hb.block b (by omega)
theorem qR.at {w:World} {lo hi:Nat} {a:Option Addr} {l:List JV} (h:qR w lo hi a l) (i:Nat) (hi':i<l.length) :
 ∃b off c0 c1 c2 c3 c4,a=some ⟨b,off,none⟩∧lo≤b∧b<hi∧w.cell? ⟨b,off+i * 5,none⟩=some c0∧w.cell? ⟨b,off+i * 5+1,none⟩=some c1∧w.cell? ⟨b,off+i * 5+2,none⟩=some c2∧w.cell? ⟨b,off+i * 5+3,none⟩=some c3∧w.cell? ⟨b,off+i * 5+4,none⟩=some c4 ∧
  Rep w lo hi l[i] (.agg #[c0,c1,c2,c3,c4]):=by
 rcases h with h|⟨b,off,ha,hb,hb',_,hr⟩
 · rw [h] at hi';simp at hi'
 · obtain ⟨c0,c1,c2,c3,c4,r0,r1,r2,r3,r4,_,r⟩:=hr.at i hi'
   exact ⟨b,off,c0,c1,c2,c3,c4,ha,hb,hb',r0,r1,r2,r3,r4,r⟩
theorem qR.blk {w:World} {lo hi b off:Nat} {l:List JV} (h:qR w lo hi (some ⟨b,off,none⟩) l) (i:Nat) (hi':i<l.length):mh w lo b∧w.frozen? ⟨b,off+i * 5,none⟩=false:=by
 rcases h with h|⟨b',off',ha,hb,hb',hu,hr⟩
 · rw [h] at hi';simp at hi'
 · simp only [Option.some.injEq,Addr.mk.injEq,and_true] at ha
   obtain ⟨rfl,rfl⟩:=ha
   obtain ⟨c0,c1,c2,c3,c4,r0,r1,r2,r3,r4,hf,r⟩:=hr.at i hi'
   exact ⟨hu,hf⟩
theorem qR.get {w:World} {lo hi:Nat} {a:Option Addr} {l:List JV} (h:qR w lo hi a l) (i:Nat) (hi':i<l.length) :
 ∃b off an cn ai ci,a=some ⟨b,off,none⟩∧lo≤b∧b<hi∧w.cell? ⟨b,off+i * 5,none⟩=some (.int .u8 l[i].kind)∧w.cell? ⟨b,off+i * 5+1,none⟩=some (.int .i64 l[i].n)∧w.cell? ⟨b,off+i * 5+2,none⟩=some (.string l[i].t) ∧
  w.cell? ⟨b,off+i * 5+3,none⟩=some (.slice an l[i].names.length cn)∧w.cell? ⟨b,off+i * 5+4,none⟩=some (.slice ai l[i].items.length ci) ∧
  Rep w lo hi l[i] (.agg #[.int .u8 l[i].kind,.int .i64 l[i].n,.string l[i].t,.slice an l[i].names.length cn,.slice ai l[i].items.length ci]):=by
 obtain ⟨b,off,c0,c1,c2,c3,c4,ha,hb,hb',e0,e1,e2,e3,e4,hr⟩:=h.at i hi'
 obtain ⟨an,cn,ai,ci,hx,_⟩:=hr.parts
 simp only [Value.agg.injEq,Array.mk.injEq,List.cons.injEq,and_true] at hx
 obtain ⟨rfl,rfl,rfl,rfl,rfl⟩:=hx
 exact ⟨b,off,an,cn,ai,ci,ha,hb,hb',e0,e1,e2,e3,e4,hr⟩
theorem qw.at {w:World} {lo hi:Nat} {a:Option Addr} {l:List ByteArray} (h:qw w lo hi a l) (i:Nat) (hi':i<l.length) :
 ∃b off,a=some ⟨b,off,none⟩∧lo≤b∧b<hi∧w.cell? ⟨b,off+i,none⟩=some (.string l[i]):=by
 rcases h with h|⟨b,off,ha,hb,hb',hr⟩
 · rw [h] at hi';simp at hi'
 · exact ⟨b,off,ha,hb,hb',hr i hi'⟩
theorem JV.wt_eq (v:JV):v.wt=1+v.t.size+qd v.names+JV.wts v.items:=by cases v;simp [JV.wt,JV.t,JV.names,JV.items]
theorem JV.wt_pos (v:JV):1≤v.wt:=by rw [JV.wt_eq];omega
theorem ki:∀(l:List ByteArray) (i:Nat) (h:i<l.length),l[i].size+1≤qd l
 | s :: r,0,_=>by simp [qd]
 | s :: r,i+1,h=>by have:=ki r i (by simpa using h);simp [qd];omega
theorem wh:∀(l:List ByteArray),l.length≤qd l
 | []=>by simp [qd]
 | s :: r=>by have:=wh r;simp [qd];omega
theorem JV.wts_get:∀(l:List JV) (i:Nat) (h:i<l.length),l[i].wt≤JV.wts l
 | s :: r,0,_=>by simp [JV.wts]
 | s :: r,i+1,h=>by have:=JV.wts_get r i (by simpa using h);simp [JV.wts];omega
theorem JV.wts_len:∀(l:List JV),l.length≤JV.wts l
 | []=>by simp
 | s :: r=>by have:=JV.wts_len r;have:=JV.wt_pos s;simp [JV.wts];omega
theorem JV.wt_bd (v:JV):v.t.size≤v.wt∧v.names.length≤v.wt∧v.items.length≤v.wt∧JV.wts v.items<v.wt:=by
 have:=JV.wt_eq v;have:=wh v.names;have:=JV.wts_len v.items;omega
structure Touch (S:Nat→Prop) (w w':World):Prop where
 os:w'.os=w.os
 tape:w'.tape=w.tape
 output:w'.output=w.output
 size:w.heap.size≤w'.heap.size
 block:∀k,k<w.heap.size→¬S k→w'.heap[k]?=w.heap[k]?
theorem Touch.refl (S:Nat→Prop) (w:World):Touch S w w:=⟨rfl,rfl,rfl,Nat.le_refl _,fun _ _ _=>rfl⟩
theorem Touch.trans {S:Nat→Prop} {a b c:World} (h:Touch S a b) (k:Touch S b c):Touch S a c :=
 ⟨k.os.trans h.os,k.tape.trans h.tape,k.output.trans h.output,Nat.le_trans h.size k.size,fun i hi hs=>(k.block i (Nat.lt_of_lt_of_le hi h.size) hs).trans (h.block i hi hs)⟩
theorem Touch.mono {S S':Nat→Prop} {w w':World} (h:Touch S w w') (hs:∀k,k<w.heap.size→S k→S' k):Touch S' w w':=⟨h.os,h.tape,h.output,h.size,fun k hk hn=>h.block k hk fun s=>hn (hs k hk s)⟩
theorem Touch.of_below {S:Nat→Prop} {w w':World} {B:Nat} (h:Below B w w') (hB:w.heap.size≤B):Touch S w w':=⟨h.os,h.tape,h.output,h.size,fun k hk _=>h.block k (by omega)⟩
theorem Touch.below {S:Nat→Prop} {w w':World} {B:Nat} (h:Touch S w w') (hB:B≤w.heap.size) (hs:∀k,k<B→¬S k):Below B w w':=⟨h.os,h.tape,h.output,h.size,fun k hk=>h.block k (by omega) (hs k hk)⟩
theorem Touch.drew {S:Nat→Prop} {a w:World} (h:Touch S a w):Touch S a w.drew:=⟨h.os,h.tape,h.output,h.size,h.block⟩
theorem Touch.alloc {S:Nat→Prop} {a w:World} (h:Touch S a w) (o:Obj):Touch S a (w.alloc o) :=
 ⟨h.os,h.tape,h.output,by have:=h.size;simp;omega,fun k hk hs=>by rw [Below.heap_alloc _ _ _ (Nat.lt_of_lt_of_le hk h.size)];exact h.block k hk hs⟩
theorem Touch.setCell {S:Nat→Prop} {a w:World} (h:Touch S a w) {p:Addr} (hp:S p.block∨a.heap.size≤p.block) (u:Value):Touch S a (w.setCell p u) :=
 ⟨h.os,h.tape,h.output,by have:=h.size;simp [World.setCell];omega,fun k hk hs=>by
  rw [Below.heap_setCell _ _ _ _ (fun e=>by rcases hp with hp|hp;exact hs (e ▸ hp);omega)];exact h.block k hk hs⟩
theorem Touch.cell {S:Nat→Prop} {w w':World} (h:Touch S w w') {p:Addr} (hp:p.block<w.heap.size) (hs:¬S p.block):w'.cell? p=w.cell? p:=World.cell?_of_block (w:=w) (h.block p.block hp hs)
theorem Touch.row {S:Nat→Prop} {w w':World} (h:Touch S w w') {b t n:Nat} {f:Nat→Value} (hr:w.rowIs b t n f) (hs:¬S b):w'.rowIs b t n f:=hr.of_block (h.block b hr.lt hs)
theorem Below.drewN {B:Nat} {a w:World} (h:Below B a w) (n:Nat):Below B a (w.drewN n):=⟨h.os,h.tape,h.output,h.size,h.block⟩
theorem qj {B:Nat} {w w':World} (h:Below B w w') {b t n:Nat} {f:Nat→Value} (hr:w.rowIs b t n f) (hb:b<B):w'.rowIs b t n f:=hr.of_block (h.block b hb)
theorem dg (w:World) (z:Value) (n:Nat) (t:TypeId) (f:Nat→Value) (hf:∀i,i<n→f i=z):(w.alloc (.cells (Array.replicate n z) t)).rowIs w.heap.size t n f:=by
 have:=World.rowIs_alloc w (Array.replicate n z) t f (by intro i hi;simp at hi;simp [hi,hf i hi])
 simpa using this
theorem db (w:World) (c:Array Value) (t n:Nat) (hn:c.size=n):(w.alloc (.cells c t)).rowIs w.heap.size t n (fun i=>c.getD i default):=by
 have:=World.rowIs_alloc w c t (fun i=>c.getD i default) (fun i hi=>by simp [hi])
 rwa [hn] at this
theorem xR {w:World} {c:Array Value} {t n:Nat} {f:Nat→Value} (h:c=((List.range n).map f).toArray):(w.alloc (.cells c t)).rowIs w.heap.size t n f:=by
 subst h
 have:=World.rowIs_alloc w ((List.range n).map f).toArray t f (fun i hi=>by simp at hi;simp [hi])
 simpa using this
theorem qt {w:World} (o:Obj) {p:Addr} (h:p.block<w.heap.size):(w.alloc o).cell? p=w.cell? p:=World.cell?_of_block (w:=w) (Below.heap_alloc w o p.block h)
theorem zM {w:World} {p q:Addr} (u:Value) (h:p.block≠q.block):(w.setCell q u).cell? p=w.cell? p:=World.cell?_of_block (w:=w) (Below.heap_setCell w q u p.block h)
def qQ (v0 v1 v2 v3 v4:Value):Nat→Value
 | 0=>v0|1=>v1|2=>v2|3=>v3|_=>v4
theorem qp (w:World) (v0 v1 v2 v3 v4:Value) (t:Nat):(w.alloc (.cells #[v0,v1,v2,v3,v4] t)).rowIs w.heap.size t 5 (qQ v0 v1 v2 v3 v4):=xR rfl
theorem qi {w:World} {b t:Nat} {v0 v1 v2 v3 v4:Value} (h:w.rowIs b t 5 (qQ v0 v1 v2 v3 v4)):w.heap[b]?=some (.cells #[v0,v1,v2,v3,v4] t (0,0)):=by
 obtain ⟨c,hc,hn,hf⟩:=h
 have e:c=#[v0,v1,v2,v3,v4]:=by
  apply Array.ext (by simp [hn])
  intro i h1 h2
  have:=hf i (by omega)
  rw [Array.getElem?_eq_getElem h1] at this
  have h3:=Option.some.inj this
  rw [h3]
  rcases i with _|_|_|_|_|i <;> first|rfl|(simp at h2;omega)
 rw [hc,e]
def tv (v0 v1 v2 v3 v4 v5 v6 v7:Value):Nat→Value
 | 0=>v0|1=>v1|2=>v2|3=>v3|4=>v4|5=>v5|6=>v6|_=>v7
theorem tR {W:World} {b t:Nat} {f:Nat→Value} (v0 v1 v2 v3 v4 v5 v6 v7:Value) (h:W.rowIs b t 8 f) :
 ((((((((W.setCell ⟨b,0,none⟩ v0).setCell ⟨b,1,none⟩ v1).setCell ⟨b,2,none⟩ v2).setCell ⟨b,3,none⟩ v3).setCell ⟨b,4,none⟩ v4).setCell ⟨b,5,none⟩ v5).setCell ⟨b,6,none⟩ v6).setCell ⟨b,7,none⟩ v7).rowIs b t 8 (tv v0 v1 v2 v3 v4 v5 v6 v7):=by
 refine ((((((((h.set 0 v0).set 1 v1).set 2 v2).set 3 v3).set 4 v4).set 5 v5).set 6 v6).set 7 v7).congr fun j hj=>?_
 rcases j with _|_|_|_|_|_|_|_|j <;> first|rfl|omega
theorem ar {B:Nat} {a W:World} {b:Nat} (v0 v1 v2 v3 v4 v5 v6 v7:Value) (h:Below B a W) (hb:B≤b) :
 Below B a ((((((((W.setCell ⟨b,0,none⟩ v0).setCell ⟨b,1,none⟩ v1).setCell ⟨b,2,none⟩ v2).setCell ⟨b,3,none⟩ v3).setCell ⟨b,4,none⟩ v4).setCell ⟨b,5,none⟩ v5).setCell ⟨b,6,none⟩ v6).setCell ⟨b,7,none⟩ v7) :=
 (((((((h.setCell hb v0).setCell hb v1).setCell hb v2).setCell hb v3).setCell hb v4).setCell hb v5).setCell hb v6).setCell hb v7
theorem qw.inj {w:World} {lo hi lo' hi':Nat} {a:Option Addr} {l m:List ByteArray} (hl:l.length=m.length) (h:qw w lo hi a l) (h':qw w lo' hi' a m):l=m:=by
 rcases h with rfl|⟨b,off,ha,_,_,hc⟩
 · exact (List.eq_nil_of_length_eq_zero (by rw [← hl];rfl)).symm
 · rcases h' with rfl|⟨b',off',ha',_,_,hc'⟩
   · exact List.eq_nil_of_length_eq_zero (by rw [hl];rfl)
   · rw [ha] at ha'
     simp only [Option.some.injEq,Addr.mk.injEq,and_true] at ha'
     obtain ⟨rfl,rfl⟩:=ha'
     apply List.ext_getElem hl
     intro i h1 h2
     have e1:=hc i h1
     have e2:=hc' i h2
     rw [e1] at e2
     simpa using e2
mutual
theorem Rep.inj {w:World} {lo hi lo' hi':Nat}:∀(v u:JV) (x:Value),Rep w lo hi v x→Rep w lo' hi' u x→v=u
 | .mk k n t ns xs,.mk k' n' t' ns' xs',x,h,h'=>by
  unfold Rep at h h'
  obtain ⟨an,cn,ai,ci,hx,h1,h2,h3,h4⟩:=h
  obtain ⟨an',cn',ai',ci',hx',h1',h2',h3',h4'⟩:=h'
  rw [hx] at hx'
  simp only [Value.agg.injEq,Array.mk.injEq,List.cons.injEq,and_true,Value.int.injEq,true_and,Value.string.injEq,Value.slice.injEq] at hx'
  obtain ⟨rfl,rfl,rfl,⟨rfl,e1,_⟩,rfl,e2,_⟩:=hx'
  have en:=h3.inj e1 h3'
  subst en
  rcases h4 with rfl|⟨b,off,ha,_,_,_,hr⟩
  · have:xs'=[]:=List.eq_nil_of_length_eq_zero (by rw [← e2];rfl)
    subst this;rfl
  · rcases h4' with rfl|⟨b',off',ha',_,_,_,hr'⟩
    · have:xs=[]:=List.eq_nil_of_length_eq_zero (by rw [e2];rfl)
      subst this;rfl
    · rw [ha] at ha'
      simp only [Option.some.injEq,Addr.mk.injEq,and_true] at ha'
      obtain ⟨rfl,rfl⟩:=ha'
      rw [xJ.inj xs xs' b off e2 hr hr']
theorem xJ.inj {w:World} {lo hi lo' hi':Nat}:∀(l m:List JV) (b off:Nat),l.length=m.length→xJ w lo hi l b off→xJ w lo' hi' m b off→l=m
 | [],m,_,_,hl,_,_=>(List.eq_nil_of_length_eq_zero (by rw [← hl];rfl)).symm
 | v :: r,[],_,_,hl,_,_=>by simp at hl
 | v :: r,u :: s,b,off,hl,h,h'=>by
  unfold xJ at h h'
  obtain ⟨⟨c0,c1,c2,c3,c4,e0,e1,e2,e3,e4,_,hv⟩,hr⟩:=h
  obtain ⟨⟨d0,d1,d2,d3,d4,f0,f1,f2,f3,f4,_,hu⟩,hs⟩:=h'
  rw [e0] at f0;rw [e1] at f1;rw [e2] at f2;rw [e3] at f3;rw [e4] at f4
  simp only [Option.some.injEq] at f0 f1 f2 f3 f4
  subst f0 f1 f2 f3 f4
  rw [Rep.inj v u _ hv hu,xJ.inj r s b (off+5) (by simpa using hl) hr hs]
end
def VAt (w:World) (lo hi:Nat) (v:JV) (b o:Nat):Prop:=∃c0 c1 c2 c3 c4,w.cell? ⟨b,o,none⟩=some c0∧w.cell? ⟨b,o+1,none⟩=some c1∧w.cell? ⟨b,o+2,none⟩=some c2∧w.cell? ⟨b,o+3,none⟩=some c3∧w.cell? ⟨b,o+4,none⟩=some c4∧Rep w lo hi v (.agg #[c0,c1,c2,c3,c4])
theorem VAt.inj {w:World} {lo hi lo' hi':Nat} {v u:JV} {b o:Nat} (h:VAt w lo hi v b o) (h':VAt w lo' hi' u b o):v=u:=by
 obtain ⟨c0,c1,c2,c3,c4,e0,e1,e2,e3,e4,hv⟩:=h
 obtain ⟨d0,d1,d2,d3,d4,f0,f1,f2,f3,f4,hu⟩:=h'
 rw [e0] at f0;rw [e1] at f1;rw [e2] at f2;rw [e3] at f3;rw [e4] at f4
 simp only [Option.some.injEq] at f0 f1 f2 f3 f4
 subst f0 f1 f2 f3 f4
 exact Rep.inj v u _ hv hu
def cK (w:World) (lo hi:Nat) (n:Nat) (p:Option Addr):Prop:=p=none∨∃b o v,p=some ⟨b,o,none⟩∧VAt w lo hi v b o∧n<v.wt∧mh w lo b∧w.frozen? ⟨b,o,none⟩=false
def qM (w:World) (base:Nat) (X:Nat→Prop) (l:List JV) (cs:List Value):Prop :=
 cs.length=5 * l.length∧∀i (h:i<l.length),∃lo hi an cn ai ci,base≤lo∧hi≤w.heap.size∧(∀b,X b→¬(lo≤b∧b<hi)) ∧
  cs[5 * i]?=some (.int .u8 l[i].kind)∧cs[5 * i+1]?=some (.int .i64 l[i].n)∧cs[5 * i+2]?=some (.string l[i].t)∧cs[5 * i+3]?=some (.slice an l[i].names.length cn)∧cs[5 * i+4]?=some (.slice ai l[i].items.length ci) ∧
  Rep w lo hi l[i] (.agg #[.int .u8 l[i].kind,.int .i64 l[i].n,.string l[i].t,.slice an l[i].names.length cn,.slice ai l[i].items.length ci])
theorem qM.nil (w:World) (base:Nat) (X:Nat→Prop):qM w base X [] []:=⟨rfl,fun i h=>by simp at h⟩
theorem qM.carry {w w':World} {base base':Nat} {X X':Nat→Prop} {l:List JV} {cs:List Value} (h:qM w base X l cs) (hsz:w.heap.size≤w'.heap.size)
 (hb:base'≤base) (hs:∀b,b<w.heap.size→¬X b→w'.heap[b]?=w.heap[b]?) (hX:∀b,X' b→X b∨w.heap.size≤b):qM w' base' X' l cs:=by
 refine ⟨h.1,fun i hi=>?_⟩
 obtain ⟨lo,hi',an,cn,ai,ci,h1,h2,h3,e0,e1,e2,e3,e4,hr⟩:=h.2 i hi
 refine ⟨lo,hi',an,cn,ai,ci,by omega,by omega,fun b hx hb=>?_,e0,e1,e2,e3,e4,Rep.carry lz lz (fun b hb1 hb2=>hs b (by omega) fun hx=>h3 b hx ⟨hb1,hb2⟩) _ _ hr⟩
 rcases hX b hx with hx|hx
 · exact h3 b hx hb
 · omega
theorem qM.snoc {w:World} {base:Nat} {X:Nat→Prop} {l:List JV} {cs:List Value} (h:qM w base X l cs) (v:JV) (lo hi:Nat) (an:Option Addr) (cn:Nat) (ai:Option Addr) (ci:Nat) (h1:base≤lo) (h2:hi≤w.heap.size) (h3:∀b,X b→¬(lo≤b∧b<hi))
 (hr:Rep w lo hi v (.agg #[.int .u8 v.kind,.int .i64 v.n,.string v.t,.slice an v.names.length cn,.slice ai v.items.length ci])) :
 qM w base X (l ++ [v]) (cs ++ [.int .u8 v.kind,.int .i64 v.n,.string v.t,.slice an v.names.length cn,.slice ai v.items.length ci]):=by
 refine ⟨by simp [h.1];omega,fun i hi'=>?_⟩
 have hl:=h.1
 by_cases e:i<l.length
 · obtain ⟨lo',hi'',an',cn',ai',ci',k1,k2,k3,e0,e1,e2,e3,e4,hr'⟩:=h.2 i e
   have ei:(l ++ [v])[i]=l[i]:=List.getElem_append_left e
   rw [ei]
   refine ⟨lo',hi'',an',cn',ai',ci',k1,k2,k3,?_,?_,?_,?_,?_,hr'⟩
   · rw [List.getElem?_append_left (by omega)];exact e0
   · rw [List.getElem?_append_left (by omega)];exact e1
   · rw [List.getElem?_append_left (by omega)];exact e2
   · rw [List.getElem?_append_left (by omega)];exact e3
   · rw [List.getElem?_append_left (by omega)];exact e4
 · obtain rfl:i=l.length:=by simp at hi';omega
   have ei:(l ++ [v])[l.length]=v:=by simp
   rw [ei]
   refine ⟨lo,hi,an,cn,ai,ci,h1,h2,h3,?_,?_,?_,?_,?_,hr⟩
   · rw [List.getElem?_append_right (by omega),show 5 * l.length - cs.length=0 by omega];rfl
   · rw [List.getElem?_append_right (by omega),show 5 * l.length+1 - cs.length=1 by omega];rfl
   · rw [List.getElem?_append_right (by omega),show 5 * l.length+2 - cs.length=2 by omega];rfl
   · rw [List.getElem?_append_right (by omega),show 5 * l.length+3 - cs.length=3 by omega];rfl
   · rw [List.getElem?_append_right (by omega),show 5 * l.length+4 - cs.length=4 by omega];rfl
theorem zC {w:World} {base e:Nat} {X:Nat→Prop} {v:Value} {n:Nat} {cs:List Value} {l:List JV} (h:w.ownsRow base e 5 v n cs) (hr:qM w base X l cs) (hn:n=l.length) :
 ∃a c,v=.slice a l.length c∧l.length≤c∧qR w base w.heap.size a l:=by
 subst hn
 rcases h.2 with ⟨rfl,h0⟩|⟨g,cap,cur,rfl,hg,hh,hc,hm,hs,ht⟩
 · exact ⟨none,0,by rw [h0],by omega,.inl (List.eq_nil_of_length_eq_zero h0)⟩
 · refine ⟨_,_,rfl,hc,?_⟩
   by_cases h0:l=[]
   · exact .inl h0
   · have hlt:g<w.heap.size:=by
      rcases Nat.lt_or_ge g w.heap.size with hlt|hge
      · exact hlt
      · rw [Array.getElem?_eq_none hge] at hh;cases hh
     have hcell:∀j u,cs[j]?=some u→w.cell? ⟨g,j,none⟩=some u:=fun j u hj=>by
      have:=h.cells (g:=g) rfl j u hj
      have e:(⟨g,0,none⟩:Addr).add j=⟨g,j,none⟩:=by unfold Addr.add;split <;> simp_all
      rwa [e] at this
     refine .inr ⟨g,0,rfl,hg,hlt,⟨cur,e,(0,0),hh,fun _=>rfl⟩,xJ.of_at fun i hi=>?_⟩
     obtain ⟨lo,hi',an,cn,ai,ci,k1,k2,k3,e0,e1,e2,e3,e4,hr'⟩:=hr.2 i hi
     have z:∀j,0+i * 5+j=5 * i+j:=fun j=>by omega
     refine ⟨_,_,_,_,_,hcell _ _ ?_,hcell _ _ ?_,hcell _ _ ?_,hcell _ _ ?_,hcell _ _ ?_,?_,Rep.carry k1 k2 (fun _ _ _=>rfl) _ _ hr'⟩
     · rw [show 0+i * 5=5 * i by omega];exact e0
     · rw [z 1];exact e1
     · rw [z 2];exact e2
     · rw [z 3];exact e3
     · rw [z 4];exact e4
     · simp [World.frozen?,hh]
theorem row_step {W wr w3 w4:World} {cb e T:Nat} {f:Nat→Value} {j k g cap:Nat} {vi:Value} {cs:List Value} {l:List JV} {it:JV} {an ai:Option Addr} {cn ci:Nat} {o o':Obj}
 (hcb:cb<W.heap.size) (htc:Touch (· = cb) W wr) (hrow:wr.rowIs cb T 5 f) (hown:wr.ownsRow W.heap.size e 5 vi k cs) (hrr:qM wr W.heap.size (fun b=>b=cb∨vi.ownBlock=some b) l cs)
 (hb3:Below (wr.heap.size+1) (wr.alloc o).drew w3) (hr3:Rep w3 (wr.heap.size+1) w3.heap.size it (.agg #[.int .u8 it.kind,.int .i64 it.n,.string it.t,.slice an it.names.length cn,.slice ai it.items.length ci]))
 (hg:(w3.alloc o').grownBy w4 vi.ownBlock) (hat:vi.ownBlock=some g∨g=w3.heap.size+1)
 (ho4:w4.ownsRow W.heap.size e 5 (.slice (some ⟨g,0,none⟩) (k+1) cap) (k+1) (cs ++ [.int .u8 it.kind,.int .i64 it.n,.string it.t,.slice an it.names.length cn,.slice ai it.items.length ci])) :
 Touch (· = cb) W (w4.setCell ⟨cb,j,none⟩ (.slice (some ⟨g,0,none⟩) (k+1) cap)) ∧
 (w4.setCell ⟨cb,j,none⟩ (.slice (some ⟨g,0,none⟩) (k+1) cap)).rowIs cb T 5 (fun i=>if i=j then .slice (some ⟨g,0,none⟩) (k+1) cap else f i) ∧
 (w4.setCell ⟨cb,j,none⟩ (.slice (some ⟨g,0,none⟩) (k+1) cap)).ownsRow W.heap.size e 5 (.slice (some ⟨g,0,none⟩) (k+1) cap) (k+1) (cs ++ [.int .u8 it.kind,.int .i64 it.n,.string it.t,.slice an it.names.length cn,.slice ai it.items.length ci]) ∧
 qM (w4.setCell ⟨cb,j,none⟩ (.slice (some ⟨g,0,none⟩) (k+1) cap)) W.heap.size (fun b=>b=cb∨(Value.slice (some ⟨g,0,none⟩) (k+1) cap).ownBlock=some b) (l ++ [it]) (cs ++ [.int .u8 it.kind,.int .i64 it.n,.string it.t,.slice an it.names.length cn,.slice ai it.items.length ci]):=by
 have hwz:W.heap.size≤wr.heap.size:=htc.size
 have hz3:wr.heap.size+1≤w3.heap.size:=by have:=hb3.size;simp at this;omega
 have hz4:w3.heap.size+1≤w4.heap.size:=by have:=hg.size;simp at this;omega
 have hz5:(w4.setCell ⟨cb,j,none⟩ (.slice (some ⟨g,0,none⟩) (k+1) cap)).heap.size=w4.heap.size:=by simp [World.setCell]
 have hoz:∀b,vi.ownBlock=some b→W.heap.size≤b∧b<wr.heap.size:=fun b hb=>hown.lt b hb
 -- from wr on
 have s1:∀b,b<wr.heap.size→w3.heap[b]?=wr.heap[b]?:=fun b hb=>by
  rw [hb3.block b (by omega)];exact Below.heap_alloc wr o b hb
 have s2:∀b,b<w3.heap.size→vi.ownBlock≠some b→w4.heap[b]?=w3.heap[b]?:=fun b hb hne=>by
  rw [hg.block b (by simp;omega) (fun e=>hne e.symm)];exact Below.heap_alloc w3 o' b hb
 have s3:∀b,b≠cb→(w4.setCell ⟨cb,j,none⟩ (.slice (some ⟨g,0,none⟩) (k+1) cap)).heap[b]?=w4.heap[b]?:=fun b hb=>Below.heap_setCell _ _ _ _ hb
 have hcn:vi.ownBlock≠some cb:=fun e=>by have:=(hoz cb e).1;omega
 refine ⟨⟨?_,?_,?_,by omega,fun b hb hne=>?_⟩,?_,?_,?_⟩
 · show w4.os=_;rw [hg.os,show (w3.alloc o').os=w3.os from rfl,hb3.os,show ((wr.alloc o).drew).os=wr.os from rfl,htc.os]
 · show w4.tape=_;rw [hg.tape,show (w3.alloc o').tape=w3.tape from rfl,hb3.tape,show ((wr.alloc o).drew).tape=wr.tape from rfl,htc.tape]
 · show w4.output=_;rw [hg.output,show (w3.alloc o').output=w3.output from rfl,hb3.output,show ((wr.alloc o).drew).output=wr.output from rfl,htc.output]
 · rw [s3 b hne,s2 b (by omega) (fun e=>by have:=(hoz b e).1;omega),s1 b (by omega)];exact htc.block b hb hne
 · have h4:w4.rowIs cb T 5 f:=hrow.of_block (by rw [s2 cb (by omega) hcn,s1 cb (by omega)])
   exact h4.set j _
 · exact ownsRow_setCell_below ho4 hcb _
 · have hgb:∀b,(Value.slice (some ⟨g,0,none⟩) (k+1) cap).ownBlock=some b→b=g:=fun b hb=>by
    simp [Value.ownBlock] at hb;exact hb.symm
   have c1:qM (w4.setCell ⟨cb,j,none⟩ (.slice (some ⟨g,0,none⟩) (k+1) cap)) W.heap.size (fun b=>b=cb∨(Value.slice (some ⟨g,0,none⟩) (k+1) cap).ownBlock=some b) l cs:=by
    refine hrr.carry (by omega) lz (fun b hb hx=>?_) (fun b hx=>?_)
    · rw [s3 b (fun e=>hx (.inl e)),s2 b (by omega) (fun e=>hx (.inr e)),s1 b hb]
    · rcases hx with hx|hx
      · exact .inl (.inl hx)
      · rw [hgb b hx]
        rcases hat with ha|ha
        · exact .inl (.inr ha)
        · exact .inr (by omega)
   refine c1.snoc it (wr.heap.size+1) w3.heap.size an cn ai ci (by omega) (by omega) (fun b hx hb=>?_) (Rep.carry lz lz (fun b h1 h2=>?_) _ _ hr3)
   · rcases hx with hx|hx
     · omega
     · rw [hgb b hx] at hb
       rcases hat with ha|ha
       · have:=(hoz g ha).2;omega
       · omega
   · rw [s3 b (by omega),s2 b h2 (fun e=>by have:=(hoz b e).2;omega)]
theorem xG {w:World} {base e:Nat} {v:Value} {n:Nat} {l:List ByteArray} (h:w.ownsRow base e 1 v n (l.map .string)) (hn:n=l.length) :
 ∃a c,v=.slice a l.length c∧l.length≤c∧qw w base w.heap.size a l:=by
 subst hn
 rcases h.2 with ⟨rfl,h0⟩|⟨g,cap,cur,rfl,hg,hh,hc,hm,hs,ht⟩
 · exact ⟨none,0,by rw [h0],by omega,.inl (List.eq_nil_of_length_eq_zero h0)⟩
 · refine ⟨_,_,rfl,hc,?_⟩
   by_cases h0:l=[]
   · exact .inl h0
   · have hlt:g<w.heap.size:=by
      rcases Nat.lt_or_ge g w.heap.size with hlt|hge
      · exact hlt
      · rw [Array.getElem?_eq_none hge] at hh;cases hh
     refine .inr ⟨g,0,rfl,hg,hlt,fun i hi=>?_⟩
     have:=h.cells (g:=g) rfl i (.string l[i]) (by simp [hi])
     have e:(⟨g,0,none⟩:Addr).add i=⟨g,0+i,none⟩:=by unfold Addr.add;split <;> simp_all
     rwa [e] at this
theorem nL:∃j,Tryz.prog.info? 25=some j∧j.size≠0:=by
 have h:(Tryz.prog.info? 25).map (·.size)=some 5:=by kernel_rfl
 cases hj:Tryz.prog.info? 25 with
 | none=>rw [hj] at h;cases h
 | some j =>
  rw [hj] at h
  have e:j.size=5:=by simpa using h
  exact ⟨j,rfl,by rw [e];decide⟩
set_option maxRecDepth 100000 in
set_option maxHeartbeats 1000000 in
theorem p7 (N:Nat):∀(l:List JV) (a:Option Addr) (c lv:Nat) (p:Option Addr) (lo hi:Nat) (w:World),0<lo→JV.wts l≤N→lv+N≤1099511627776→qR w lo hi a l→cK w lo hi (JV.wts l) p →
 Calls Tryz.prog 159 #[.slice a l.length c,.int .i64 lv,.pointer p,.bool false] w fun e w'=>e=.returned (.bool false)∧w=w':=by
 induction N with
 | zero =>
  intro l a c lv p lo hi w hlo hN hlv hV hA
  have hlen:=JV.wts_len l
  obtain rfl:l=[]:=List.eq_nil_of_length_eq_zero (by omega)
  clear hV hA
  go_enter Tryz.func159,Tryz.ntmps159
  go_wp2
  refine wp_loop_rounds 1 ?_
  rw [rounds_succ]
  go_wp2
  go_ret
  exact ⟨rfl,rfl⟩
 | succ N ih =>
  intro l a c lv p lo hi w hlo hN hlv hV hA
  have IH:=Lh ih;clear ih
  have HV:=Lh hV;clear hV
  have HA:=Lh hA;clear hA
  have hlen:=JV.wts_len l
  obtain ⟨n,hn⟩:∃n,n=l.length:=⟨_,rfl⟩
  rw [← hn]
  rw [← hn] at hlen
  have HN:=Lh hn;clear hn
  go_enter Tryz.func159,Tryz.ntmps159
  go_wp2
  go_loop [9,10,11,14] (fun _ _ _ i=>∃k:Nat,k≤n∧i=.int .i64 k) (fun _ _ _ i=>n - (intOf i).toNat)
  case atStart=>exact ⟨0,by omega,rfl⟩
  case round =>
   obtain ⟨k,hk,rfl⟩:=hrel
   by_cases hlt:k<n
   · have hlt':k<l.length:=by rw [← HN.out];exact hlt
     obtain ⟨b,off,an,cn,ai,ci,rfl,_,hb,y0,y1,y2,y3,y4,hrep⟩:=HV.out.get k hlt'
     have hwk:=JV.wts_get l k hlt'
     have HVA:Hid (VAt w lo hi l[k] b (off+k * 5)):=⟨_,_,_,_,_,y0,y1,y2,y3,y4,hrep⟩
     obtain ⟨_,_,_,hwi⟩:=l[k].wt_bd
     have HI:=Lh (show qR w lo hi ai l[k].items by
      obtain ⟨an',cn',ai',ci',hx,_,_,_,h5⟩:=hrep.parts
      simp only [Value.agg.injEq,Array.mk.injEq,List.cons.injEq,and_true,Value.slice.injEq] at hx
      obtain ⟨_,_,_,_,rfl,_,_⟩:=hx
      exact h5)
     have hblk:=HV.out.blk k hlt'
     have HBK:=Lh hblk
     clear hblk
     generalize l[k]=it at *
     have hblk:=HBK.out
     clear hrep y1 y2 y3
     have HA1:Hid (cK w lo hi (JV.wts it.items) (some ⟨b,off+k * 5,none⟩)):=.inr ⟨b,off+k * 5,it,rfl,HVA.out,by omega,hblk.1,hblk.2⟩
     clear hblk
     rcases HA.out with rfl|⟨pb,po,pv,rfl,hpv,hpw,hpu,hpf⟩
     · have HA2:Hid (cK w lo hi (JV.wts it.items) none):=.inl rfl
       cases hbit:(bits BinOp.and IntKind.i64 (lv:Int) ((lv:Int) - 1) == 0)
       · go_wp2_with fail
         rw [show (lv:Int)+1=((lv+1:Nat):Int) by omega]
         refine (IH.out it.items ai ci (lv+1) none lo hi w hlo (by omega) (by omega) HI.out HA2.out).mono ?_
         rintro e w1 ⟨rfl,rfl⟩
         go_wp2
         go_round
         case rel=>exact ⟨k+1,by omega,by go_num⟩
         case measure=>simp [intOf];omega
       · go_wp2_with fail
         rw [show (lv:Int)+1=((lv+1:Nat):Int) by omega]
         refine (IH.out it.items ai ci (lv+1) _ lo hi w hlo (by omega) (by omega) HI.out HA1.out).mono ?_
         rintro e w1 ⟨rfl,rfl⟩
         go_wp2
         go_round
         case rel=>exact ⟨k+1,by omega,by go_num⟩
         case measure=>simp [intOf];omega
     · have HA2:Hid (cK w lo hi (JV.wts it.items) (some ⟨pb,po,none⟩)):=.inr ⟨pb,po,pv,rfl,hpv,by omega,hpu,hpf⟩
       have hne:¬(b=pb∧off+k * 5=po):=fun ⟨e1,e2⟩=>by
        subst e1 e2
        have:=hpv.inj HVA.out
        subst this
        omega
       have heq:(binOp .eql 220 (.pointer (some ⟨b,off+k * 5,none⟩)) (.pointer (some ⟨pb,po,none⟩))).run Tryz.prog w=.ok (.bool false) w:=by
        obtain ⟨ca,ta,fa,ha,ha'⟩:=HBK.out.1
        obtain ⟨cb,tb,fb,hb',hb''⟩:=hpu
        rw [ha' hlo] at ha
        rw [hb'' hlo] at hb'
        obtain ⟨j,hj1,hj2⟩:=nL
        exact run_eql_ptr_other w Tryz.underlying220 hj1 hj2 (fun e=>hne (by simpa using e)) ha hb'
       clear hne hpv hpu hpf
       cases hbit:(bits BinOp.and IntKind.i64 (lv:Int) ((lv:Int) - 1) == 0)
       · go_wp2_with fail
         rw [show (lv:Int)+1=((lv+1:Nat):Int) by omega]
         refine (IH.out it.items ai ci (lv+1) _ lo hi w hlo (by omega) (by omega) HI.out HA2.out).mono ?_
         rintro e w1 ⟨rfl,rfl⟩
         go_wp2
         go_round
         case rel=>exact ⟨k+1,by omega,by go_num⟩
         case measure=>simp [intOf];omega
       · go_wp2_with fail
         rw [show (lv:Int)+1=((lv+1:Nat):Int) by omega]
         refine (IH.out it.items ai ci (lv+1) _ lo hi w hlo (by omega) (by omega) HI.out HA1.out).mono ?_
         rintro e w1 ⟨rfl,rfl⟩
         go_wp2
         go_round
         case rel=>exact ⟨k+1,by omega,by go_num⟩
         case measure=>simp [intOf];omega
   · go_wp2
     go_ret
     exact ⟨rfl,rfl⟩
set_option maxHeartbeats 400000 in
theorem gr (a:Option Addr) (c lv:Nat) (p:Option Addr) (w:World) :
 Calls Tryz.prog 159 #[.slice a 0 c,.int .i64 lv,.pointer p,.bool false] w fun e w'=>e=.returned (.bool false)∧w=w':=by
 go_enter Tryz.func159,Tryz.ntmps159
 go_wp2
 refine wp_loop_rounds 1 ?_
 rw [rounds_succ]
 go_wp2
 go_ret
 exact ⟨rfl,rfl⟩
set_option maxRecDepth 100000 in
set_option maxHeartbeats 1000000 in
theorem fD (l:List JV) (a:Option Addr) (c lv:Nat) (lo hi:Nat) (w:World) (hN:JV.wts l≤4294967296) (hlv:lv≤1099511627776) (hV:qR w lo hi a l) (hf:∀k (h:k<l.length),l[k].items=[]) :
 Calls Tryz.prog 159 #[.slice a l.length c,.int .i64 lv,.pointer none,.bool false] w fun e w'=>e=.returned (.bool false)∧w=w':=by
 have HV:=Lh hV;clear hV
 have HF:=Lh hf;clear hf
 have hlen:=JV.wts_len l
 obtain ⟨n,hn⟩:∃n,n=l.length:=⟨_,rfl⟩
 rw [← hn]
 rw [← hn] at hlen
 have HN:=Lh hn;clear hn
 go_enter Tryz.func159,Tryz.ntmps159
 go_wp2
 go_loop [9,10,11,14] (fun _ _ _ i=>∃k:Nat,k≤n∧i=.int .i64 k) (fun _ _ _ i=>n - (intOf i).toNat)
 case atStart=>exact ⟨0,by omega,rfl⟩
 case round =>
  obtain ⟨k,hk,rfl⟩:=hrel
  by_cases hlt:k<n
  · have hlt':k<l.length:=by rw [← HN.out];exact hlt
    obtain ⟨b,off,an,cn,ai,ci,rfl,_,hb,y0,y1,y2,y3,y4,hrep⟩:=HV.out.get k hlt'
    rw [HF.out k hlt'] at y4
    simp only [List.length_nil] at y4
    clear hrep y1 y2 y3
    generalize l[k]=it at *
    cases hbit:(bits BinOp.and IntKind.i64 (lv:Int) ((lv:Int) - 1) == 0)
    · go_wp2_with fail
      rw [show (lv:Int)+1=((lv+1:Nat):Int) by omega]
      refine (gr ai ci (lv+1) none w).mono ?_
      rintro e w1 ⟨rfl,rfl⟩
      go_wp2
      go_round
      case rel=>exact ⟨k+1,by omega,by go_num⟩
      case measure=>simp [intOf];omega
    · go_wp2_with fail
      rw [show (lv:Int)+1=((lv+1:Nat):Int) by omega]
      refine (gr ai ci (lv+1) _ w).mono ?_
      rintro e w1 ⟨rfl,rfl⟩
      go_wp2
      go_round
      case rel=>exact ⟨k+1,by omega,by go_num⟩
      case measure=>simp [intOf];omega
  · go_wp2
    go_ret
    exact ⟨rfl,rfl⟩
def bD (lo:Nat) (v:JV):Prop:=0<lo∨∀k (h:k<v.items.length),v.items[k].items=[]
theorem yB (it:JV) (ai:Option Addr) (ci:Nat) (lo hi:Nat) (w:World) (hN:it.wt≤4294967296) (hV:qR w lo hi ai it.items) (hs:bD lo it) :
 Calls Tryz.prog 159 #[.slice ai it.items.length ci,.int .i64 1,.pointer none,.bool false] w fun e w'=>e=.returned (.bool false)∧w=w':=by
 have:=it.wt_bd
 rcases hs with h|h
 · exact p7 4294967296 it.items ai ci 1 none lo hi w h (by omega) (by omega) hV (.inl rfl)
 · exact fD it.items ai ci 1 lo hi w (by omega) (by omega) hV h
theorem set5 {W:World} {b t:Nat} {f:Nat→Value} (v0 v1 v2 v3 v4:Value) (h:W.rowIs b t 5 f) :
 (((((W.setCell ⟨b,0,none⟩ v0).setCell ⟨b,1,none⟩ v1).setCell ⟨b,2,none⟩ v2).setCell ⟨b,3,none⟩ v3).setCell ⟨b,4,none⟩ v4).rowIs b t 5 (qQ v0 v1 v2 v3 v4):=by
 refine (((((h.set 0 v0).set 1 v1).set 2 v2).set 3 v3).set 4 v4).congr fun j hj=>?_
 rcases j with _|_|_|_|_|j <;> first|rfl|omega
theorem q7 {B:Nat} {a W:World} {b:Nat} (v0 v1 v2 v3 v4:Value) (h:Below B a W) (hb:B≤b) :
 Below B a (((((W.setCell ⟨b,0,none⟩ v0).setCell ⟨b,1,none⟩ v1).setCell ⟨b,2,none⟩ v2).setCell ⟨b,3,none⟩ v3).setCell ⟨b,4,none⟩ v4) :=
 ((((h.setCell hb v0).setCell hb v1).setCell hb v2).setCell hb v3).setCell hb v4
theorem xr {W:World} {b k:Nat} (v0 v1 v2 v3 v4:Value) (hk:k≠b) :
 (((((W.setCell ⟨b,0,none⟩ v0).setCell ⟨b,1,none⟩ v1).setCell ⟨b,2,none⟩ v2).setCell ⟨b,3,none⟩ v3).setCell ⟨b,4,none⟩ v4).heap[k]?=W.heap[k]?:=by
 rw [Below.heap_setCell _ _ _ _ hk,Below.heap_setCell _ _ _ _ hk,Below.heap_setCell _ _ _ _ hk,Below.heap_setCell _ _ _ _ hk,Below.heap_setCell _ _ _ _ hk]
theorem qk {P:Program} {fn:Func} {p u:Tmp} {ty:TypeId} (h:fn.results=#[.cell p ty,.tmp u]) (tmps:Array Value) (w:World) (g:Nat) (t:TypeId) (cs:Array Value) (fr:Nat × Nat) (d:TypeDesc)
 (hp:tmps.getD p undef=.pointer (some ⟨g,0,none⟩)) (hg:w.heap[g]?=some (.cells cs t fr))
 (hu:P.underlying ty=some d) (hd:(match d with | .struct _ | .array _ _=>true|_=>false)=true) (hi:(P.info? ty).map (·.size)=some cs.size) (x:Value) (hx:tmps.getD u undef=x) :
 (results fn tmps).run P w=.ok (.tuple #[.agg cs,x]) w:=by
 rw [results_cell_tmp h,hp,hx]
 simp [asAddr,run_loadVar_row w g t ty cs fr d hg hu hd hi]
def zeroAgg:Value:=.agg #[.int .u8 0,.int .i64 0,.string ⟨#[]⟩,.slice none 0 0,.slice none 0 0]
def ju (v0 v1:Value):Nat→Value
 | 0=>v0|_=>v1
theorem ko (w:World) (v0 v1:Value) (t:Nat):(w.alloc (.cells #[v0,v1] t)).rowIs w.heap.size t 2 (ju v0 v1):=xR rfl
theorem zQ {w:World} {b t:Nat} {v0 v1:Value} (h:w.rowIs b t 2 (ju v0 v1)):w.heap[b]?=some (.cells #[v0,v1] t (0,0)):=by
 obtain ⟨c,hc,hn,hf⟩:=h
 have e:c=#[v0,v1]:=by
  apply Array.ext (by simp [hn])
  intro i h1 h2
  have:=hf i (by omega)
  rw [Array.getElem?_eq_getElem h1] at this
  have h3:=Option.some.inj this
  rw [h3]
  rcases i with _|_|i <;> first|rfl|(simp at h2;omega)
 rw [hc,e]
theorem set2 {W:World} {b t:Nat} {f:Nat→Value} (v0 v1:Value) (h:W.rowIs b t 2 f):((W.setCell ⟨b,0,none⟩ v0).setCell ⟨b,1,none⟩ v1).rowIs b t 2 (ju v0 v1):=by
 refine ((h.set 0 v0).set 1 v1).congr fun j hj=>?_
 rcases j with _|_|j <;> first|rfl|omega
theorem vS {B:Nat} {a W:World} {b:Nat} (v0 v1:Value) (h:Below B a W) (hb:B≤b):Below B a ((W.setCell ⟨b,0,none⟩ v0).setCell ⟨b,1,none⟩ v1):=(h.setCell hb v0).setCell hb v1
def qo (v0 v1 v2 v3 v4 v5:Value):Nat→Value
 | 0=>v0|1=>v1|2=>v2|3=>v3|4=>v4|_=>v5
theorem z8 (w:World) (v0 v1 v2 v3 v4 v5:Value) (t:Nat):(w.alloc (.cells #[v0,v1,v2,v3,v4,v5] t)).rowIs w.heap.size t 6 (qo v0 v1 v2 v3 v4 v5):=xR rfl
theorem zy {w:World} {b t:Nat} {v0 v1 v2 v3 v4 v5:Value} (h:w.rowIs b t 6 (qo v0 v1 v2 v3 v4 v5)):w.heap[b]?=some (.cells #[v0,v1,v2,v3,v4,v5] t (0,0)):=by
 obtain ⟨c,hc,hn,hf⟩:=h
 have e:c=#[v0,v1,v2,v3,v4,v5]:=by
  apply Array.ext (by simp [hn])
  intro i h1 h2
  have:=hf i (by omega)
  rw [Array.getElem?_eq_getElem h1] at this
  have h3:=Option.some.inj this
  rw [h3]
  rcases i with _|_|_|_|_|_|i <;> first|rfl|(simp at h2;omega)
 rw [hc,e]
theorem wu {W:World} {b t:Nat} {f:Nat→Value} (v0 v1 v2 v3 v4 v5:Value) (h:W.rowIs b t 6 f) :
 ((((((W.setCell ⟨b,0,none⟩ v0).setCell ⟨b,1,none⟩ v1).setCell ⟨b,2,none⟩ v2).setCell ⟨b,3,none⟩ v3).setCell ⟨b,4,none⟩ v4).setCell ⟨b,5,none⟩ v5).rowIs b t 6 (qo v0 v1 v2 v3 v4 v5):=by
 refine ((((((h.set 0 v0).set 1 v1).set 2 v2).set 3 v3).set 4 v4).set 5 v5).congr fun j hj=>?_
 rcases j with _|_|_|_|_|_|j <;> first|rfl|omega
theorem xn {B:Nat} {a W:World} {b:Nat} (v0 v1 v2 v3 v4 v5:Value) (h:Below B a W) (hb:B≤b) :
 Below B a ((((((W.setCell ⟨b,0,none⟩ v0).setCell ⟨b,1,none⟩ v1).setCell ⟨b,2,none⟩ v2).setCell ⟨b,3,none⟩ v3).setCell ⟨b,4,none⟩ v4).setCell ⟨b,5,none⟩ v5) :=
 (((((h.setCell hb v0).setCell hb v1).setCell hb v2).setCell hb v3).setCell hb v4).setCell hb v5
theorem gi {W:World} {b k:Nat} (v0 v1 v2 v3 v4 v5:Value) (hk:k≠b) :
 ((((((W.setCell ⟨b,0,none⟩ v0).setCell ⟨b,1,none⟩ v1).setCell ⟨b,2,none⟩ v2).setCell ⟨b,3,none⟩ v3).setCell ⟨b,4,none⟩ v4).setCell ⟨b,5,none⟩ v5).heap[k]?=W.heap[k]?:=by
 rw [Below.heap_setCell _ _ _ _ hk,Below.heap_setCell _ _ _ _ hk,Below.heap_setCell _ _ _ _ hk,Below.heap_setCell _ _ _ _ hk,Below.heap_setCell _ _ _ _ hk,Below.heap_setCell _ _ _ _ hk]
end Go.Proofs.YthgembbgcbaghaaGreatDoor
