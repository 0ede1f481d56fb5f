import Derived.Below
import Derived.Laws.Strings
import Derived.Deep.OwnRows
import Derived.Deep.Draws
import Derived.Deep.AppendLies
import Derived.Test.YtkllbdlebjomkaaGreatDoorProg
import Derived.WalkKit
import Derived.WalkSpells
import Derived.WalkLawsBesides
import Derived.Lib.Hide
import Derived.LaidEqlPtr
import Derived.Laws.ResultCell
set_option maxHeartbeats 1000000
set_option maxRecDepth 100000

namespace Go.Proofs.YtkllbdlebjomkaaGreatDoor
open Go.RowKit
theorem Z0:type_of% @Go.RowKit.Below.refl:=@Go.RowKit.Below.refl
theorem Z3:type_of% @Nat.le_trans:=@Nat.le_trans
theorem Z4:type_of% @Go.wpOp_step:=@Go.wpOp_step
theorem Z5:type_of% @Go.heap_alloc_new:=@Go.heap_alloc_new
theorem Z6:type_of% @if_neg:=@if_neg
theorem Z7:type_of% @List.take_succ_eq_append_getElem:=@List.take_succ_eq_append_getElem
theorem Z8:type_of% @Go.bodyPost_ret:=@Go.bodyPost_ret
theorem Z9:type_of% @Go.RowKit.Below.heap_setCell:=@Go.RowKit.Below.heap_setCell
theorem J0:type_of% @Nat.zero_le:=@Nat.zero_le
theorem J1:type_of% @decide_eq_true_eq:=@decide_eq_true_eq
theorem J2:type_of% @Nat.le_refl:=@Nat.le_refl
theorem J3:type_of% @if_pos:=@if_pos
theorem J4:type_of% @List.take_of_length_le:=@List.take_of_length_le
theorem J5:type_of% @Bool.and_eq_true:=@Bool.and_eq_true
theorem J6:type_of% @congrArg:=@congrArg
theorem J7:type_of% @Go.Proofs.Tryz.underlying26:=@Go.Proofs.Tryz.underlying26
theorem J8:type_of% @List.getElem_mem:=@List.getElem_mem
theorem J9:type_of% @Go.World.news_of_block:=@Go.World.news_of_block
theorem X0:type_of% @decide_eq_false:=@decide_eq_false
theorem X1:type_of% @Nat.lt_of_lt_of_le:=@Nat.lt_of_lt_of_le
theorem X2:type_of% @Option.some.inj:=@Option.some.inj
theorem X3:type_of% @decide_eq_true:=@decide_eq_true
theorem X4:type_of% @Go.ByteArray.toList_eq:=@Go.ByteArray.toList_eq
theorem X5:type_of% @List.eq_nil_of_length_eq_zero:=@List.eq_nil_of_length_eq_zero
theorem X6:type_of% @Go.RowKit.Below.heap_alloc:=@Go.RowKit.Below.heap_alloc
theorem X7:type_of% @List.length_map:=@List.length_map
theorem X8:type_of% @Go.results_cell_row:=@Go.results_cell_row
theorem X9:type_of% @List.all_eq_true:=@List.all_eq_true
theorem Y0:type_of% @List.getElem_of_mem:=@List.getElem_of_mem
theorem Y1:type_of% @Go.wpList_append_lies:=@Go.wpList_append_lies
theorem Y2:type_of% @Go.Value.slice.injEq:=@Go.Value.slice.injEq
theorem Y3:type_of% @Go.World.ownsRow_nil:=@Go.World.ownsRow_nil
theorem Y4:type_of% @Bool.true_and:=@Bool.true_and
theorem Y5:type_of% @Nat.le_of_eq:=@Nat.le_of_eq
theorem Y6:type_of% @Go.Proofs.Tryz.underlying3:=@Go.Proofs.Tryz.underlying3
theorem Y7:type_of% @decide_eq_false_iff_not:=@decide_eq_false_iff_not
theorem Y8:type_of% @List.getElem?_append_right:=@List.getElem?_append_right
theorem Y9:type_of% @Go.Proofs.Tryz.underlying9:=@Go.Proofs.Tryz.underlying9
theorem V0:type_of% @Option.some.injEq:=@Option.some.injEq
theorem V1:type_of% @List.not_mem_nil:=@List.not_mem_nil
theorem V2:type_of% @Go.info_parts:=@Go.info_parts
theorem V3:type_of% @List.drop_eq_getElem_cons:=@List.drop_eq_getElem_cons
theorem V4:type_of% @List.getElem?_append_left:=@List.getElem?_append_left
theorem V6:type_of% @List.mem_cons:=@List.mem_cons
theorem V7:type_of% @List.mem_cons_of_mem:=@List.mem_cons_of_mem
theorem V8:type_of% @List.getD_eq_getElem?_getD:=@List.getD_eq_getElem?_getD
theorem V9:type_of% @Go.Proofs.Tryz.underlying115:=@Go.Proofs.Tryz.underlying115
theorem K0:type_of% @List.cons.injEq:=@List.cons.injEq
theorem K2:type_of% @Go.Proofs.Tryz.underlying24:=@Go.Proofs.Tryz.underlying24
theorem K3:type_of% @List.length_append:=@List.length_append
theorem K6:type_of% @List.map_append:=@List.map_append
theorem K7:type_of% @Array.getElem?_eq_getElem:=@Array.getElem?_eq_getElem
theorem K8:type_of% @List.map_cons:=@List.map_cons
theorem K9:type_of% @Go.step_append_lies:=@Go.step_append_lies
theorem G0:type_of% @List.mem_cons_self:=@List.mem_cons_self
theorem G1:type_of% @Go.Proofs.Tryz.underlying104:=@Go.Proofs.Tryz.underlying104
theorem G2:type_of% @Go.World.block_lt_of_cell?:=@Go.World.block_lt_of_cell?
theorem G3:type_of% @List.getElem_cons_succ:=@List.getElem_cons_succ
theorem G5:type_of% @Go.World.cell?_of_block:=@Go.World.cell?_of_block
theorem G6:type_of% @Go.Proofs.Tryz.underlying189:=@Go.Proofs.Tryz.underlying189
theorem G8:type_of% @Array.length_toList:=@Array.length_toList
theorem G9:type_of% @Go.Value.agg.injEq:=@Go.Value.agg.injEq
theorem H6:type_of% @Int.tmod_eq_emod_of_nonneg:=@Int.tmod_eq_emod_of_nonneg
theorem H7:type_of% @List.mem_map:=@List.mem_map
theorem H8:type_of% @Array.mk.injEq:=@Array.mk.injEq
theorem H9:type_of% @List.getElem?_eq_getElem:=@List.getElem?_eq_getElem
theorem N0:type_of% @List.length_cons:=@List.length_cons
theorem N1:type_of% @Nat.lt_succ_iff_lt_or_eq:=@Nat.lt_succ_iff_lt_or_eq
theorem N2:type_of% @List.take_succ_cons:=@List.take_succ_cons
theorem N3:type_of% @Go.Proofs.Tryz.underlying45:=@Go.Proofs.Tryz.underlying45
theorem N4:type_of% @Int.tdiv_eq_ediv_of_nonneg:=@Int.tdiv_eq_ediv_of_nonneg
theorem N5:type_of% @Go.IntWalk.i64_in:=@Go.IntWalk.i64_in
theorem N6:type_of% @List.getElem_cons_zero:=@List.getElem_cons_zero
theorem N7:type_of% @Go.Proofs.Tryz.underlying4:=@Go.Proofs.Tryz.underlying4
theorem N8:type_of% @Go.Proofs.Tryz.underlying5:=@Go.Proofs.Tryz.underlying5
theorem N9:type_of% @beq_eq_false_iff_ne:=@beq_eq_false_iff_ne
theorem M0:type_of% @Bool.false_and:=@Bool.false_and
theorem M1:type_of% @Go.Proofs.Tryz.ntmps93:=@Go.Proofs.Tryz.ntmps93
theorem M2:type_of% @Go.Lib.cell_of_heap:=@Go.Lib.cell_of_heap
theorem M3:type_of% @List.length_take:=@List.length_take
theorem M4:type_of% @Go.wpList_mapUpdate_own:=@Go.wpList_mapUpdate_own
theorem M5:type_of% @Array.getElem?_eq_none:=@Array.getElem?_eq_none
theorem M6:type_of% @Array.getElem?_eq_some_iff:=@Array.getElem?_eq_some_iff
theorem M7:type_of% @List.drop_eq_nil_of_le:=@List.drop_eq_nil_of_le
theorem M8:type_of% @Go.Proofs.Tryz.underlying23:=@Go.Proofs.Tryz.underlying23
theorem M9:type_of% @Go.Lib.OthersKept.refl:=@Go.Lib.OthersKept.refl
theorem za0:type_of% @Go.DataW.lit.injEq:=@Go.DataW.lit.injEq
theorem za1:type_of% @Nat.le_succ:=@Nat.le_succ
theorem za2:type_of% @Go.Proofs.Tryz.func93:=@Go.Proofs.Tryz.func93
theorem za3:type_of% @List.pairwise_iff_getElem:=@List.pairwise_iff_getElem
theorem za4:type_of% @or_false:=@or_false
theorem za5:type_of% @true_and:=@true_and
theorem za6:type_of% @Nat.eq_zero_or_pos:=@Nat.eq_zero_or_pos
theorem za7:type_of% @Go.Proofs.Tryz.underlying220:=@Go.Proofs.Tryz.underlying220
theorem za8:type_of% @List.getElem_append_left:=@List.getElem_append_left
theorem za9:type_of% @Nat.zero_add:=@Nat.zero_add
theorem zb0:type_of% @Go.Proofs.Tryz.results12:=@Go.Proofs.Tryz.results12
theorem zb1:type_of% @Int.eq_ofNat_of_zero_le:=@Int.eq_ofNat_of_zero_le
theorem zb2:type_of% @List.all_eq_false:=@List.all_eq_false
theorem zb3:type_of% @Go.Proofs.Tryz.zeroValue4:=@Go.Proofs.Tryz.zeroValue4
theorem zb4:type_of% @Go.Proofs.Tryz.zeroValue9:=@Go.Proofs.Tryz.zeroValue9
theorem zb5:type_of% @UInt8.toNat_inj:=@UInt8.toNat_inj
theorem zb6:type_of% @and_true:=@and_true
theorem zb7:type_of% @Go.Lit.int.injEq:=@Go.Lit.int.injEq
theorem zb8:type_of% @List.getElem_map:=@List.getElem_map
theorem zb9:type_of% @List.length_drop:=@List.length_drop
theorem zc0:type_of% @List.take_length:=@List.take_length
theorem zc1:type_of% @Bool.and_false:=@Bool.and_false
theorem zc2:type_of% @Go.Proofs.Tryz.underlying222:=@Go.Proofs.Tryz.underlying222
theorem zc3:type_of% @Bool.eq_iff_iff:=@Bool.eq_iff_iff
theorem zc4:type_of% @List.length_nil:=@List.length_nil
theorem zc5:type_of% @Go.Proofs.Tryz.zeroValue3:=@Go.Proofs.Tryz.zeroValue3
theorem _root_.Go.RowKit.Hid.o {p:Prop} (h:Hid p):p:=h
theorem U {p:Prop} (h:p):Hid p:=h
theorem O0 (p:Prop) (h:p):Hid p:=h
theorem O1 {α:Sort _} (a:α):∃x,x=a:=⟨_,rfl⟩
theorem O2 {w w1 w2:World} (h:Hid (Below w.heap.size w w1)) (k:Below w1.heap.size w1 w2):Below w.heap.size w w2:=h.trans (k.mono h.size)
abbrev O5 (w w':World):=Below w.heap.size w w'
theorem O4 {w:World} {o:Obj}:Below w.heap.size w (w.alloc o):=Z0 _ _|>.alloc (J2 _) _
theorem O7 {w W:World} {o:Obj} (h:W=w.alloc o):Below w.heap.size w W:=h▸O4
theorem O9 {w W:World} {o:Obj} (h:W=w.alloc o):W.heap[w.heap.size]?=some o:=h▸Z5 w o
theorem lz {n : Nat} : n <= n := J2 n
theorem bx5 {w : World} {b T : Nat} {a c d e f : Value} (h : w.heap[b]? = some (.cells #[a, c, d, e, f] T (0, 0))) : w.cell? ⟨b, 0, none⟩ = some a /\ w.cell? ⟨b, 1, none⟩ = some c /\ w.cell? ⟨b, 2, none⟩ = some d /\ w.cell? ⟨b, 3, none⟩ = some e /\ w.cell? ⟨b, 4, none⟩ = some f := by simp [World.cell?, h]
theorem bx9 {w : World} {b T : Nat} {a c d e f g i j k : Value} (h : w.heap[b]? = some (.cells #[a, c, d, e, f, g, i, j, k] T (0, 0))) : w.cell? ⟨b, 0, none⟩ = some a /\ w.cell? ⟨b, 1, none⟩ = some c /\ w.cell? ⟨b, 2, none⟩ = some d /\ w.cell? ⟨b, 3, none⟩ = some e /\ w.cell? ⟨b, 4, none⟩ = some f /\ w.cell? ⟨b, 5, none⟩ = some g /\ w.cell? ⟨b, 6, none⟩ = some i /\ w.cell? ⟨b, 7, none⟩ = some j /\ w.cell? ⟨b, 8, none⟩ = some k := by simp [World.cell?, h]
theorem rc5 {w : World} {g T n : Nat} {f : Nat -> Value} (h : w.rowIs g T n f) (a : 5 <= n := by decide) : w.cell? ⟨g, 0, none⟩ = some (f 0) /\ w.cell? ⟨g, 1, none⟩ = some (f 1) /\ w.cell? ⟨g, 2, none⟩ = some (f 2) /\ w.cell? ⟨g, 3, none⟩ = some (f 3) /\ w.cell? ⟨g, 4, none⟩ = some (f 4) := ⟨h.cell (by omega), h.cell (by omega), h.cell (by omega), h.cell (by omega), h.cell (by omega)⟩
theorem rf5 {w : World} {g T n : Nat} {f : Nat -> Value} (h : w.rowIs g T n f) : w.frozen? ⟨g, 0, none⟩ = false /\ w.frozen? ⟨g, 1, none⟩ = false /\ w.frozen? ⟨g, 2, none⟩ = false /\ w.frozen? ⟨g, 3, none⟩ = false /\ w.frozen? ⟨g, 4, none⟩ = false := ⟨h.frozen 0, h.frozen 1, h.frozen 2, h.frozen 3, h.frozen 4⟩
open Go.RowKit
def jv (c:UInt8):Bool:=decide ((48<=c.toNat/\c.toNat<=57)\/(97<=c.toNat/\c.toNat<=102))
def lL (c:UInt8):Int:=if 48<=c.toNat/\c.toNat<=57 then (c.toNat:Int) - 48 else if 97<=c.toNat/\c.toNat<=102 then (c.toNat:Int) - 97+10 else 0
def kg (c:UInt8):Bool :=
 decide ((97<=c.toNat/\c.toNat<=122)\/(65<=c.toNat/\c.toNat<=90)\/(48<=c.toNat/\c.toNat<=57)\/c.toNat=46\/c.toNat=95\/c.toNat=45)
def jp (l:List UInt8):Bool:=l.all jv
def zw (l:List UInt8):Bool:=decide (1<=l.length/\l.length<=64) && !(l.headD 0 == 46) && l.all kg
def jw (l:List UInt8):Bool:=decide (2<=l.length/\l.length<=128/\l.length % 2=0) && jp l
def zA (s p:List UInt8):Bool:=zw s && jw p
theorem qx {a b:Bool} (h:a=b):Ending.returned (.bool a)=.returned (.bool b):=by rw [h]
theorem zG {k:IntKind} {a b:Int} (h:a=b):Ending.returned (.int k a)=.returned (.int k b):=by rw [h]
theorem lR {k:IntKind} {a b:Int} {x y:Bool} (h:a=b) (c:x=y):Ending.returned (.tuple #[.int k a,.bool x])=.returned (.tuple #[.int k b,.bool y]):=by rw [h,c]
theorem cQ {c:UInt8} (h:48<=(c.toNat:Int)) (a:(c.toNat:Int)<=57):lL c=(c.toNat:Int) - 48/\jv c=true:=by unfold lL jv;rw [J3 (by omega)];exact ⟨rfl,by simp;omega⟩
theorem cZ {c:UInt8} (h:97<=(c.toNat:Int)) (a:(c.toNat:Int)<=102):lL c=(c.toNat:Int) - 97+10/\jv c=true:=by unfold lL jv;rw [Z6 (by omega),J3 (by omega)];exact ⟨rfl,by simp;omega⟩
theorem ny {c:UInt8} (h:¬(48<=(c.toNat:Int)/\(c.toNat:Int)<=57)) (a:¬(97<=(c.toNat:Int)/\(c.toNat:Int)<=102)):lL c=0/\jv c=false:=by unfold lL jv;rw [Z6 (by omega),Z6 (by omega)];exact ⟨rfl,by simp;omega⟩
theorem yG (s:ByteArray) (k:Nat) (h:k<s.size):s.data.toList[k]'(by simpa using h)=s[k]:=rfl
theorem qu (s:ByteArray):s.data.toList.length=s.size:=by simp
theorem gV (s:ByteArray) (k:Nat) (h:k<s.size):s.data.toList.take (k+1)=s.data.toList.take k ++ [s[k]]:=by rw [Z7 (by simpa using h)];rfl
theorem yd (p:UInt8->Bool) (s:ByteArray) (k:Nat) (h:k<s.size):(s.data.toList.take (k+1)).all p=((s.data.toList.take k).all p && p s[k]):=by rw [gV s k h,List.all_append];simp
theorem bp (p:UInt8->Bool) (s:ByteArray) (h:(s.data.toList.take s.size).all p=true):s.data.toList.all p=true:=by rwa [J4 (by simp)] at h
theorem ub (p:UInt8->Bool) (s:ByteArray) (k:Nat) (h:k<s.size) (a:p s[k]=false):s.data.toList.all p=false:=by rw [zb2];exact ⟨s[k],by rw [<- yG s k h];exact J8 _,by simp [a]⟩
theorem vH {c:UInt8} (h:(97<=(c.toNat:Int)/\(c.toNat:Int)<=122)\/(65<=(c.toNat:Int)/\(c.toNat:Int)<=90)\/(48<=(c.toNat:Int)/\(c.toNat:Int)<=57)\/(c.toNat:Int)=46\/(c.toNat:Int)=95\/(c.toNat:Int)=45):kg c=true:=by unfold kg;simp;omega
theorem cX {c:UInt8} (h:¬((97<=(c.toNat:Int)/\(c.toNat:Int)<=122)\/(65<=(c.toNat:Int)/\(c.toNat:Int)<=90)\/(48<=(c.toNat:Int)/\(c.toNat:Int)<=57)\/(c.toNat:Int)=46\/(c.toNat:Int)=95\/(c.toNat:Int)=45)):kg c=false:=by unfold kg;simp;omega
theorem gW (s:ByteArray) (h:0<s.size):¬s.toList=[]/\s.toList.isEmpty=false:=by
 have e:s.toList=s.data.toList:=X4 s;have l:=qu s;rw [e];constructor
 . intro h0;rw [h0] at l;simp at l;omega
 . cases h1:s.data.toList with
   | nil=>rw [h1] at l;simp at l;omega
   | cons a r=>rfl
theorem yB (s:ByteArray) (h:s.size=0):s.toList=[]:=by have e:s.toList=s.data.toList:=X4 s;rw [e];exact X5 (by simpa using h)
theorem w0 (s:ByteArray) (h:0<s.size):s.data.toList.headD 0=s[0]:=by
 have l:=qu s;have g:∀(L:List UInt8) (hL:0<L.length),L.headD 0=L[0]:=fun L hL=>by cases L with
  | nil=>simp at hL
  | cons a r=>rfl
 rw [<- yG s 0 h];exact g _ (by omega)
theorem cJ {s:ByteArray} (h:s.size<1\/64<s.size):zw s.data.toList=false:=by unfold zw;rw [qu,X0 (by omega)];rfl
theorem aT {s:ByteArray} (a:0<s.size) (h:s[0].toNat=46):zw s.data.toList=false:=by
 unfold zw;rw [w0 s a];have:s[0]=46:=by apply zb5.1;exact h
 rw [this];simp
theorem aI {s:ByteArray} (k:Nat) (a:k<s.size) (h:kg s[k]=false):zw s.data.toList=false:=by unfold zw;rw [ub kg s k a h];simp
theorem sw {s:ByteArray} (a:0<s.size) (c:s.size<=64) (b:¬s[0].toNat=46) (h:(s.data.toList.take s.size).all kg=true):zw s.data.toList=true:=by unfold zw;rw [bp kg s h,w0 s a,qu];have:¬s[0]=46:=fun e=>b (by rw [e];rfl);simp [this];omega
theorem mi {s:ByteArray} (h:s.size<2\/128<s.size\/s.size % 2=1):jw s.data.toList=false:=by unfold jw;rw [qu,X0 (by omega)];rfl
theorem ng {s:ByteArray} (a:2<=s.size) (b:s.size<=128) (c:s.size % 2=0):jw s.data.toList=jp s.data.toList:=by unfold jw;rw [qu,X3 ⟨a,b,c⟩];simp
inductive JV where
 | mk (kind n:Int) (t:ByteArray) (names:List ByteArray) (items:List JV)
namespace JV
def kind:JV->Int|mk k _ _ _ _=>k
def n:JV->Int|mk _ n _ _ _=>n
def t:JV->ByteArray|mk _ _ t _ _=>t
def names:JV->List ByteArray|mk _ _ _ ns _=>ns
def items:JV->List JV|mk _ _ _ _ xs=>xs
end JV
def qh:List ByteArray->Nat
 | []=>0
 | s :: r=>s.size+1+qh r
mutual
def JV.wt:JV->Nat
 | .mk _ _ t ns xs=>1+t.size+qh ns+JV.wts xs
def JV.wts:List JV->Nat
 | []=>0
 | x :: r=>JV.wt x+JV.wts r
end
mutual
def JV.num:JV->Prop
 | .mk k n _ _ xs=>(0<=k/\k<=255)/\(-9223372036854775808<=n/\n<=9223372036854775807)/\JV.nums xs
def JV.nums:List JV->Prop
 | []=>True
 | x :: r=>JV.num x/\JV.nums r
end
def qy (w:World) (lo hi:Nat) (a:Option Addr) (l:List ByteArray):Prop :=
 l=[]\/∃b off,a=some ⟨b,off,none⟩/\lo<=b/\b<hi/\∀i (h:i<l.length),w.cell? ⟨b,off+i,none⟩=some (.string l[i])
def lN (w:World) (lo b:Nat):Prop:=∃cs t fr,w.heap[b]?=some (.cells cs t fr)/\(0<lo->fr=(0,0))
mutual
def Rep (w:World) (lo hi:Nat):JV->Value->Prop
 | .mk k n t ns xs,x=>∃an cn ai ci,x=.agg #[.int .u8 k,.int .i64 n,.string t,.slice an ns.length cn,.slice ai xs.length ci]/\ns.length<=cn/\xs.length<=ci /\
  qy w lo hi an ns/\(xs=[]\/∃b off,ai=some ⟨b,off,none⟩/\lo<=b/\b<hi/\lN w lo b/\xN w lo hi xs b off)
def xN (w:World) (lo hi:Nat):List JV->Nat->Nat->Prop
 | [],_,_=>True
 | v :: r,b,off=>(∃c0 c1 c2 c3 c4,w.cell? ⟨b,off,none⟩=some c0/\w.cell? ⟨b,off+1,none⟩=some c1/\w.cell? ⟨b,off+2,none⟩=some c2/\w.cell? ⟨b,off+3,none⟩=some c3/\w.cell? ⟨b,off+4,none⟩=some c4/\w.frozen? ⟨b,off,none⟩=false /\
  Rep w lo hi v (.agg #[c0,c1,c2,c3,c4]))/\xN w lo hi r b (off+5)
end
def zy (w:World) (lo hi:Nat) (a:Option Addr) (l:List JV):Prop :=
 l=[]\/∃b off,a=some ⟨b,off,none⟩/\lo<=b/\b<hi/\lN w lo b/\xN w lo hi l b off
theorem Rep.parts {w:World} {lo hi:Nat} {v:JV} {x:Value} (h:Rep w lo hi v x) :
 ∃an cn ai ci,x=.agg #[.int .u8 v.kind,.int .i64 v.n,.string v.t,.slice an v.names.length cn,.slice ai v.items.length ci]/\v.names.length<=cn/\v.items.length<=ci/\qy w lo hi an v.names/\zy w lo hi ai v.items:=by
 cases v;unfold Rep at h;exact h
theorem Rep.mk {w:World} {lo hi:Nat} {v:JV} {an ai:Option Addr} {cn ci:Nat} (a:v.names.length<=cn) (b:v.items.length<=ci) (c:qy w lo hi an v.names) (d:zy w lo hi ai v.items) :
 Rep w lo hi v (.agg #[.int .u8 v.kind,.int .i64 v.n,.string v.t,.slice an v.names.length cn,.slice ai v.items.length ci]):=by
 cases v;unfold Rep;exact ⟨an,cn,ai,ci,rfl,a,b,c,d⟩
theorem xN.at {w:World} {lo hi:Nat}:∀ {l:List JV} {b a:Nat} (_:xN w lo hi l b a) (i:Nat) (h:i<l.length),
 ∃c0 c1 c2 c3 c4,w.cell? ⟨b,a+i * 5,none⟩=some c0/\w.cell? ⟨b,a+i * 5+1,none⟩=some c1/\w.cell? ⟨b,a+i * 5+2,none⟩=some c2/\w.cell? ⟨b,a+i * 5+3,none⟩=some c3/\w.cell? ⟨b,a+i * 5+4,none⟩=some c4/\w.frozen? ⟨b,a+i * 5,none⟩=false /\
  Rep w lo hi l[i] (.agg #[c0,c1,c2,c3,c4])
 | [],_,_,_,i,h=>by simp at h
 | v :: r,b,a,hr,0,_=>by unfold xN at hr;exact hr.1
 | v :: r,b,a,hr,i+1,h=>by unfold xN at hr;have:=xN.at hr.2 i (by simpa using h);rw [show a+(i+1) * 5=a+5+i * 5 by omega];exact this
theorem xN.of_at {w:World} {lo hi:Nat}:∀ {l:List JV} {b a:Nat} (_:∀(i:Nat) (h:i<l.length),
 ∃c0 c1 c2 c3 c4,w.cell? ⟨b,a+i * 5,none⟩=some c0/\w.cell? ⟨b,a+i * 5+1,none⟩=some c1/\w.cell? ⟨b,a+i * 5+2,none⟩=some c2/\w.cell? ⟨b,a+i * 5+3,none⟩=some c3/\w.cell? ⟨b,a+i * 5+4,none⟩=some c4/\w.frozen? ⟨b,a+i * 5,none⟩=false /\
  Rep w lo hi l[i] (.agg #[c0,c1,c2,c3,c4])),xN w lo hi l b a
 | [],_,_,_=>by unfold xN;trivial
 | v :: r,b,a,hr=>by unfold xN;refine ⟨hr 0 (by simp),xN.of_at fun i h=>?_⟩;have:=hr (i+1) (by simpa using h);rw [show a+(i+1) * 5=a+5+i * 5 by omega] at this;exact this
theorem lN.carry {w w':World} {lo lo' b:Nat} (h:lN w lo b) (g:lo'<=lo) (f:w'.heap[b]?=w.heap[b]?):lN w' lo' b:=by obtain ⟨a,t,c,d,e⟩:=h;exact ⟨a,t,c,by rw [f];exact d,fun h0=>e (by omega)⟩
theorem qy.carry {w w':World} {lo hi lo' hi':Nat} {a:Option Addr} {l:List ByteArray} (h:qy w lo hi a l) (d:lo'<=lo) (e:hi<=hi')
 (c:∀b,lo<=b->b<hi->w'.heap[b]?=w.heap[b]?):qy w' lo' hi' a l:=by
 rcases h with h|⟨b,off,ha,hb,hb',hc⟩
 . exact .inl h
 . refine .inr ⟨b,off,ha,by omega,by omega,fun i hi=>?_⟩;rw [World.cell?_of_block (w:=w) (c b hb hb')];exact hc i hi
mutual
theorem Rep.carry {w w':World} {lo hi lo' hi':Nat} (a:lo'<=lo) (d:hi<=hi') (c:∀b,lo<=b->b<hi->w'.heap[b]?=w.heap[b]?) :
 ∀(v:JV) (x:Value),Rep w lo hi v x->Rep w' lo' hi' v x
 | .mk k n t ns xs,x,h=>by
  unfold Rep at h ⊢;obtain ⟨an,cn,ai,ci,rfl,h3,h4,h5,h6⟩:=h;refine ⟨an,cn,ai,ci,rfl,h3,h4,h5.carry a d c,?_⟩;rcases h6 with h6|⟨b,off,ha,hb,hb',hu,hr⟩
  . exact .inl h6
  . exact .inr ⟨b,off,ha,by omega,by omega,hu.carry a (c b hb hb'),xN.carry a d c xs b off hb hb' hr⟩
theorem xN.carry {w w':World} {lo hi lo' hi':Nat} (d:lo'<=lo) (e:hi<=hi') (c:∀b,lo<=b->b<hi->w'.heap[b]?=w.heap[b]?) :
 ∀(l:List JV) (b a:Nat),lo<=b->b<hi->xN w lo hi l b a->xN w' lo' hi' l b a
 | [],_,_,_,_,_=>by unfold xN;trivial
 | v :: r,b,a,hb,hb',h=>by unfold xN at h ⊢;obtain ⟨⟨c0,c1,c2,c3,c4,e0,e1,e2,e3,e4,hf,hv⟩,hr⟩:=h;have hz:w'.frozen? ⟨b,a,none⟩=w.frozen? ⟨b,a,none⟩:=World.frozen?_of_block (w:=w) (c b hb hb');have hc:∀o,w'.cell? ⟨b,o,none⟩=w.cell? ⟨b,o,none⟩:=fun o=>World.cell?_of_block (w:=w) (c b hb hb');exact ⟨⟨c0,c1,c2,c3,c4,by rw [hc,e0],by rw [hc,e1],by rw [hc,e2],by rw [hc,e3],by rw [hc,e4],by rw [hz,hf],Rep.carry d e c v _ hv⟩,xN.carry d e c r b (a+5) hb hb' hr⟩
end
theorem Rep.below {w w':World} {lo hi lo' hi' B:Nat} {v:JV} {x:Value} (h:Rep w lo hi v x) (d:Below B w w') (e:hi<=B) (a:lo'<=lo) (c:hi<=hi'):Rep w' lo' hi' v x :=
 Rep.carry a c (fun b _ hlt=>d.block b (by omega)) v x h
theorem qy.below {w w':World} {lo hi lo' hi' B:Nat} {a:Option Addr} {l:List ByteArray} (h:qy w lo hi a l) (e:Below B w w') (f:hi<=B) (c:lo'<=lo) (d:hi<=hi'):qy w' lo' hi' a l :=
 h.carry c d fun b _ hlt=>e.block b (by omega)
theorem zy.carry {w w':World} {lo hi lo' hi':Nat} {a:Option Addr} {l:List JV} (h:zy w lo hi a l) (c:lo'<=lo) (e:hi<=hi')
 (d:∀b,lo<=b->b<hi->w'.heap[b]?=w.heap[b]?):zy w' lo' hi' a l:=by
 rcases h with h|⟨b,off,ha,hb,hb',hu,hr⟩
 . exact .inl h
 . exact .inr ⟨b,off,ha,by omega,by omega,hu.carry c (d b hb hb'),xN.carry c e d l b off hb hb' hr⟩
theorem zy.below {w w':World} {lo hi lo' hi' B:Nat} {a:Option Addr} {l:List JV} (h:zy w lo hi a l) (e:Below B w w') (f:hi<=B) (c:lo'<=lo) (d:hi<=hi'):zy w' lo' hi' a l :=
 h.carry c d fun b _ hlt=>e.block b (by omega)
theorem zy.at {w:World} {lo hi:Nat} {a:Option Addr} {l:List JV} (h:zy w lo hi a l) (i:Nat) (hi':i<l.length) :
 ∃b off c0 c1 c2 c3 c4,a=some ⟨b,off,none⟩/\lo<=b/\b<hi/\w.cell? ⟨b,off+i * 5,none⟩=some c0/\w.cell? ⟨b,off+i * 5+1,none⟩=some c1/\w.cell? ⟨b,off+i * 5+2,none⟩=some c2/\w.cell? ⟨b,off+i * 5+3,none⟩=some c3/\w.cell? ⟨b,off+i * 5+4,none⟩=some c4 /\
  Rep w lo hi l[i] (.agg #[c0,c1,c2,c3,c4]):=by
 rcases h with h|⟨b,off,ha,hb,hb',_,hr⟩
 . rw [h] at hi';simp at hi'
 . obtain ⟨c0,c1,c2,c3,c4,c,d,e,f,g,_,r⟩:=hr.at i hi';exact ⟨b,off,c0,c1,c2,c3,c4,ha,hb,hb',c,d,e,f,g,r⟩
theorem zy.blk {w:World} {lo hi b q:Nat} {l:List JV} (h:zy w lo hi (some ⟨b,q,none⟩) l) (i:Nat) (hi':i<l.length):lN w lo b/\w.frozen? ⟨b,q+i * 5,none⟩=false:=by
 rcases h with h|⟨b',off',ha,hb,hb',hu,hr⟩
 . rw [h] at hi';simp at hi'
 . simp only [Option.some.injEq,Addr.mk.injEq,and_true] at ha;obtain ⟨rfl,rfl⟩:=ha;obtain ⟨c,d,e,f,g,j,k,m,o,p,a,r⟩:=hr.at i hi';exact ⟨hu,a⟩
theorem zy.get {w:World} {lo hi:Nat} {a:Option Addr} {l:List JV} (h:zy w lo hi a l) (i:Nat) (hi':i<l.length) :
 ∃b off an cn ai ci,a=some ⟨b,off,none⟩/\lo<=b/\b<hi/\w.cell? ⟨b,off+i * 5,none⟩=some (.int .u8 l[i].kind)/\w.cell? ⟨b,off+i * 5+1,none⟩=some (.int .i64 l[i].n)/\w.cell? ⟨b,off+i * 5+2,none⟩=some (.string l[i].t) /\
  w.cell? ⟨b,off+i * 5+3,none⟩=some (.slice an l[i].names.length cn)/\w.cell? ⟨b,off+i * 5+4,none⟩=some (.slice ai l[i].items.length ci) /\
  Rep w lo hi l[i] (.agg #[.int .u8 l[i].kind,.int .i64 l[i].n,.string l[i].t,.slice an l[i].names.length cn,.slice ai l[i].items.length ci]):=by
 obtain ⟨b,off,q,r,s,u,v,o,p,c,f,g,j,k,m,d⟩:=h.at i hi';obtain ⟨an,cn,ai,ci,e,_⟩:=d.parts;simp only [Value.agg.injEq,Array.mk.injEq,List.cons.injEq,and_true] at e;obtain ⟨rfl,rfl,rfl,rfl,rfl⟩:=e;exact ⟨b,off,an,cn,ai,ci,o,p,c,f,g,j,k,m,d⟩
theorem qy.at {w:World} {lo hi:Nat} {a:Option Addr} {l:List ByteArray} (h:qy w lo hi a l) (i:Nat) (hi':i<l.length) :
 ∃b off,a=some ⟨b,off,none⟩/\lo<=b/\b<hi/\w.cell? ⟨b,off+i,none⟩=some (.string l[i]):=by
 rcases h with h|⟨b,off,ha,hb,hb',hr⟩
 . rw [h] at hi';simp at hi'
 . exact ⟨b,off,ha,hb,hb',hr i hi'⟩
theorem JV.wt_eq (v:JV):v.wt=1+v.t.size+qh v.names+JV.wts v.items:=by cases v;simp [JV.wt,JV.t,JV.names,JV.items]
theorem JV.wt_pos (v:JV):1<=v.wt:=by rw [JV.wt_eq];omega
theorem jI:∀(l:List ByteArray) (i:Nat) (h:i<l.length),l[i].size+1<=qh l
 | s :: r,0,_=>by simp [qh]
 | s :: r,i+1,h=>by have:=jI r i (by simpa using h);simp [qh];omega
theorem yE:∀(l:List ByteArray),l.length<=qh l
 | []=>by simp [qh]
 | s :: r=>by have:=yE r;simp [qh];omega
theorem JV.wts_get:∀(l:List JV) (i:Nat) (h:i<l.length),l[i].wt<=JV.wts l
 | s :: r,0,_=>by simp [JV.wts]
 | s :: r,i+1,h=>by have:=JV.wts_get r i (by simpa using h);simp [JV.wts];omega
theorem JV.wts_len:∀(l:List JV),l.length<=JV.wts l
 | []=>by simp
 | s :: r=>by have:=JV.wts_len r;have:=JV.wt_pos s;simp [JV.wts];omega
theorem JV.wt_bd (v:JV):v.t.size<=v.wt/\v.names.length<=v.wt/\v.items.length<=v.wt/\JV.wts v.items<v.wt:=by have:=JV.wt_eq v;have:=yE v.names;have:=JV.wts_len v.items;omega
structure Touch (S:Nat->Prop) (w w':World):Prop where
 os:w'.os=w.os
 tape:w'.tape=w.tape
 output:w'.output=w.output
 size:w.heap.size<=w'.heap.size
 block:∀k,k<w.heap.size->¬S k->w'.heap[k]?=w.heap[k]?
theorem Touch.refl (S:Nat->Prop) (w:World):Touch S w w:=⟨rfl,rfl,rfl,Nat.le_refl _,fun _ _ _=>rfl⟩
theorem Touch.trans {S:Nat->Prop} {a b c:World} (h:Touch S a b) (k:Touch S b c):Touch S a c :=
 ⟨k.os.trans h.os,k.tape.trans h.tape,k.output.trans h.output,Nat.le_trans h.size k.size,fun i hi hs=>(k.block i (Nat.lt_of_lt_of_le hi h.size) hs).trans (h.block i hi hs)⟩
theorem Touch.mono {S a:Nat->Prop} {w w':World} (h:Touch S w w') (b:∀k,k<w.heap.size->S k->a k):Touch a w w':=⟨h.os,h.tape,h.output,h.size,fun k hk hn=>h.block k hk fun s=>hn (b k hk s)⟩
theorem Touch.of_below {S:Nat->Prop} {w w':World} {B:Nat} (h:Below B w w') (a:w.heap.size<=B):Touch S w w':=⟨h.os,h.tape,h.output,h.size,fun k hk _=>h.block k (by omega)⟩
theorem Touch.below {S:Nat->Prop} {w w':World} {B:Nat} (h:Touch S w w') (b:B<=w.heap.size) (a:∀k,k<B->¬S k):Below B w w':=⟨h.os,h.tape,h.output,h.size,fun k hk=>h.block k (by omega) (a k hk)⟩
theorem Touch.drew {S:Nat->Prop} {a w:World} (h:Touch S a w):Touch S a w.drew:=⟨h.os,h.tape,h.output,h.size,h.block⟩
theorem Touch.alloc {S:Nat->Prop} {a w:World} (h:Touch S a w) (o:Obj):Touch S a (w.alloc o) :=
 ⟨h.os,h.tape,h.output,by have:=h.size;simp;omega,fun k hk hs=>by rw [Below.heap_alloc _ _ _ (Nat.lt_of_lt_of_le hk h.size)];exact h.block k hk hs⟩
theorem Touch.setCell {S:Nat->Prop} {a w:World} (h:Touch S a w) {p:Addr} (hp:S p.block\/a.heap.size<=p.block) (u:Value):Touch S a (w.setCell p u) :=
 ⟨h.os,h.tape,h.output,by have:=h.size;simp [World.setCell];omega,fun k hk hs=>by
  rw [Below.heap_setCell _ _ _ _ (fun e=>by rcases hp with hp|hp;exact hs (e ▸ hp);omega)];exact h.block k hk hs⟩
theorem Touch.cell {S:Nat->Prop} {w w':World} (h:Touch S w w') {p:Addr} (a:p.block<w.heap.size) (b:¬S p.block):w'.cell? p=w.cell? p:=World.cell?_of_block (w:=w) (h.block p.block a b)
theorem Touch.row {S:Nat->Prop} {w w':World} (h:Touch S w w') {b t n:Nat} {f:Nat->Value} (a:w.rowIs b t n f) (c:¬S b):w'.rowIs b t n f:=a.of_block (h.block b a.lt c)
theorem Below.drewN {B:Nat} {a w:World} (h:Below B a w) (n:Nat):Below B a (w.drewN n):=⟨h.os,h.tape,h.output,h.size,h.block⟩
theorem qj {B:Nat} {w w':World} (h:Below B w w') {b t n:Nat} {f:Nat->Value} (c:w.rowIs b t n f) (a:b<B):w'.rowIs b t n f:=c.of_block (h.block b a)
theorem sy (w:World) (z:Value) (n:Nat) (t:TypeId) (f:Nat->Value) (a:∀i,i<n->f i=z):(w.alloc (.cells (Array.replicate n z) t)).rowIs w.heap.size t n f:=by have:=World.rowIs_alloc w (Array.replicate n z) t f (by intro i hi;simp at hi;simp [hi,a i hi]);simpa using this
theorem sg (w:World) (c:Array Value) (t n:Nat) (a:c.size=n):(w.alloc (.cells c t)).rowIs w.heap.size t n (fun i=>c.getD i default):=by have:=World.rowIs_alloc w c t (fun i=>c.getD i default) (fun i hi=>by simp [hi]);rwa [a] at this
theorem xS {w:World} {c:Array Value} {t n:Nat} {f:Nat->Value} (h:c=((List.range n).map f).toArray):(w.alloc (.cells c t)).rowIs w.heap.size t n f:=by subst h;have:=World.rowIs_alloc w ((List.range n).map f).toArray t f (fun i hi=>by simp at hi;simp [hi]);simpa using this
theorem ql {w:World} (o:Obj) {p:Addr} (h:p.block<w.heap.size):(w.alloc o).cell? p=w.cell? p:=World.cell?_of_block (w:=w) (Below.heap_alloc w o p.block h)
theorem xq {w:World} {p q:Addr} (u:Value) (h:p.block≠q.block):(w.setCell q u).cell? p=w.cell? p:=World.cell?_of_block (w:=w) (Below.heap_setCell w q u p.block h)
def qo (v0 v1 v2 v3 v4:Value):Nat->Value
 | 0=>v0|1=>v1|2=>v2|3=>v3|_=>v4
theorem qg (w:World) (v0 v1 v2 v3 v4:Value) (t:Nat):(w.alloc (.cells #[v0,v1,v2,v3,v4] t)).rowIs w.heap.size t 5 (qo v0 v1 v2 v3 v4):=xS rfl
theorem qr {w:World} {b t:Nat} {v0 v1 v2 v3 v4:Value} (h:w.rowIs b t 5 (qo v0 v1 v2 v3 v4)):w.heap[b]?=some (.cells #[v0,v1,v2,v3,v4] t (0,0)):=by obtain ⟨c,d,g,f⟩:=h;have e:c=#[v0,v1,v2,v3,v4]:=(by apply Array.ext (by simp [g]);intro i h1 h2;have:=f i (by omega);rw [Array.getElem?_eq_getElem h1] at this;have a:=Option.some.inj this;rw [a];rcases i with _|_|_|_|_|i <;> first|rfl|(simp at h2;omega));rw [d,e]
def aO (v0 v1 v2 v3 v4 v5 v6 v7:Value):Nat->Value
 | 0=>v0|1=>v1|2=>v2|3=>v3|4=>v4|5=>v5|6=>v6|_=>v7
theorem Zr {W:World} {b t:Nat} {f:Nat->Value} (v0 v1 v2 v3 v4 a c d:Value) (h:W.rowIs b t 8 f) :
 ((((((((W.setCell ⟨b,0,none⟩ v0).setCell ⟨b,1,none⟩ v1).setCell ⟨b,2,none⟩ v2).setCell ⟨b,3,none⟩ v3).setCell ⟨b,4,none⟩ v4).setCell ⟨b,5,none⟩ a).setCell ⟨b,6,none⟩ c).setCell ⟨b,7,none⟩ d).rowIs b t 8 (aO v0 v1 v2 v3 v4 a c d):=by
 refine ((((((((h.set 0 v0).set 1 v1).set 2 v2).set 3 v3).set 4 v4).set 5 a).set 6 c).set 7 d).congr fun j hj=>?_;rcases j with _|_|_|_|_|_|_|_|j <;> first|rfl|omega
theorem eO {B:Nat} {a W:World} {b:Nat} (v0 v1 v2 v3 v4 d e f:Value) (h:Below B a W) (c:B<=b) :
 Below B a ((((((((W.setCell ⟨b,0,none⟩ v0).setCell ⟨b,1,none⟩ v1).setCell ⟨b,2,none⟩ v2).setCell ⟨b,3,none⟩ v3).setCell ⟨b,4,none⟩ v4).setCell ⟨b,5,none⟩ d).setCell ⟨b,6,none⟩ e).setCell ⟨b,7,none⟩ f) :=
 (((((((h.setCell c v0).setCell c v1).setCell c v2).setCell c v3).setCell c v4).setCell c d).setCell c e).setCell c f
theorem qy.inj {w:World} {lo hi lo' hi':Nat} {a:Option Addr} {l m:List ByteArray} (e:l.length=m.length) (h:qy w lo hi a l) (f:qy w lo' hi' a m):l=m:=by
 rcases h with rfl|⟨b,off,ha,_,_,hc⟩
 . exact (List.eq_nil_of_length_eq_zero (by rw [<- e];rfl)).symm
 . rcases f with rfl|⟨b',off',ha',_,_,hc'⟩
   . exact List.eq_nil_of_length_eq_zero (by rw [e];rfl)
   . rw [ha] at ha';simp only [Option.some.injEq,Addr.mk.injEq,and_true] at ha';obtain ⟨rfl,rfl⟩:=ha';apply List.ext_getElem e;intro i h1 h2;have d:=hc i h1;have c:=hc' i h2;rw [d] at c;simpa using c
mutual
theorem Rep.inj {w:World} {lo hi lo' hi':Nat}:∀(v u:JV) (x:Value),Rep w lo hi v x->Rep w lo' hi' u x->v=u
 | .mk k n t ns xs,.mk k' n' t' ns' xs',x,h,h'=>by
  unfold Rep at h h';obtain ⟨an,cn,ai,ci,hx,h1,h2,h3,h4⟩:=h;obtain ⟨an',cn',ai',ci',hx',h1',h2',h3',h4'⟩:=h';rw [hx] at hx';simp only [Value.agg.injEq,Array.mk.injEq,List.cons.injEq,and_true,Value.int.injEq,true_and,Value.string.injEq,Value.slice.injEq] at hx';obtain ⟨rfl,rfl,rfl,⟨rfl,e1,_⟩,rfl,e2,_⟩:=hx';have en:=h3.inj e1 h3';subst en;rcases h4 with rfl|⟨b,off,ha,_,_,_,hr⟩
  . have:xs'=[]:=List.eq_nil_of_length_eq_zero (by rw [<- e2];rfl);subst this;rfl
  . rcases h4' with rfl|⟨b',off',ha',_,_,_,hr'⟩
    . have:xs=[]:=List.eq_nil_of_length_eq_zero (by rw [e2];rfl);subst this;rfl
    . rw [ha] at ha';simp only [Option.some.injEq,Addr.mk.injEq,and_true] at ha';obtain ⟨rfl,rfl⟩:=ha';rw [xN.inj xs xs' b off e2 hr hr']
theorem xN.inj {w:World} {lo hi lo' hi':Nat}:∀(l m:List JV) (b a:Nat),l.length=m.length->xN w lo hi l b a->xN w lo' hi' m b a->l=m
 | [],m,_,_,hl,_,_=>(List.eq_nil_of_length_eq_zero (by rw [<- hl];rfl)).symm
 | v :: r,[],_,_,hl,_,_=>by simp at hl
 | v :: r,u :: s,b,a,hl,h,h'=>by unfold xN at h h';obtain ⟨⟨c0,c1,c2,c3,c4,e0,e1,e2,e3,e4,_,hv⟩,hr⟩:=h;obtain ⟨⟨d0,d1,d2,d3,d4,f0,f1,f2,f3,f4,_,hu⟩,hs⟩:=h';rw [e0] at f0;rw [e1] at f1;rw [e2] at f2;rw [e3] at f3;rw [e4] at f4;simp only [Option.some.injEq] at f0 f1 f2 f3 f4;subst f0 f1 f2 f3 f4;rw [Rep.inj v u _ hv hu,xN.inj r s b (a+5) (by simpa using hl) hr hs]
end
def VAt (w:World) (lo hi:Nat) (v:JV) (b o:Nat):Prop:=∃c0 c1 c2 c3 c4,w.cell? ⟨b,o,none⟩=some c0/\w.cell? ⟨b,o+1,none⟩=some c1/\w.cell? ⟨b,o+2,none⟩=some c2/\w.cell? ⟨b,o+3,none⟩=some c3/\w.cell? ⟨b,o+4,none⟩=some c4/\Rep w lo hi v (.agg #[c0,c1,c2,c3,c4])
theorem VAt.inj {w:World} {lo hi lo' hi':Nat} {v u:JV} {b o:Nat} (h:VAt w lo hi v b o) (E:VAt w lo' hi' u b o):v=u:=by obtain ⟨q,r,s,x,y,g,i,j,k,l,p⟩:=h;obtain ⟨z,A,B,C,D,a,c,d,e,f,m⟩:=E;rw [g] at a;rw [i] at c;rw [j] at d;rw [k] at e;rw [l] at f;simp only [Option.some.injEq] at a c d e f;subst a c d e f;exact Rep.inj v u _ p m
def nf (w:World) (lo hi:Nat) (n:Nat) (p:Option Addr):Prop:=p=none\/∃b o v,p=some ⟨b,o,none⟩/\VAt w lo hi v b o/\n<v.wt/\lN w lo b/\w.frozen? ⟨b,o,none⟩=false
def qS (w:World) (base:Nat) (X:Nat->Prop) (l:List JV) (cs:List Value):Prop :=
 cs.length=5 * l.length/\∀i (h:i<l.length),∃lo hi an cn ai ci,base<=lo/\hi<=w.heap.size/\(∀b,X b->¬(lo<=b/\b<hi)) /\
  cs[5 * i]?=some (.int .u8 l[i].kind)/\cs[5 * i+1]?=some (.int .i64 l[i].n)/\cs[5 * i+2]?=some (.string l[i].t)/\cs[5 * i+3]?=some (.slice an l[i].names.length cn)/\cs[5 * i+4]?=some (.slice ai l[i].items.length ci) /\
  Rep w lo hi l[i] (.agg #[.int .u8 l[i].kind,.int .i64 l[i].n,.string l[i].t,.slice an l[i].names.length cn,.slice ai l[i].items.length ci])
theorem qS.nil (w:World) (a:Nat) (X:Nat->Prop):qS w a X [] []:=⟨rfl,fun i h=>by simp at h⟩
theorem qS.carry {w w':World} {v base':Nat} {X X':Nat->Prop} {l:List JV} {cs:List Value} (h:qS w v X l cs) (A:w.heap.size<=w'.heap.size)
 (x:base'<=v) (z:∀b,b<w.heap.size->¬X b->w'.heap[b]?=w.heap[b]?) (y:∀b,X' b->X b\/w.heap.size<=b):qS w' base' X' l cs:=by
 refine ⟨h.1,fun i hi=>?_⟩;obtain ⟨r,a,e,g,d,f,s,u,c,j,k,m,o,p,q⟩:=h.2 i hi;refine ⟨r,a,e,g,d,f,by omega,by omega,fun b hx x=>?_,j,k,m,o,p,Rep.carry lz lz (fun b hb1 hb2=>z b (by omega) fun hx=>c b hx ⟨hb1,hb2⟩) _ _ q⟩;rcases y b hx with hx|hx
 . exact c b hx x
 . omega
theorem qS.snoc {w:World} {A:Nat} {X:Nat->Prop} {l:List JV} {cs:List Value} (h:qS w A X l cs) (v:JV) (lo hi:Nat) (an:Option Addr) (cn:Nat) (ai:Option Addr) (ci:Nat) (B:A<=lo) (C:hi<=w.heap.size) (D:∀b,X b->¬(lo<=b/\b<hi))
 (E:Rep w lo hi v (.agg #[.int .u8 v.kind,.int .i64 v.n,.string v.t,.slice an v.names.length cn,.slice ai v.items.length ci])) :
 qS w A X (l ++ [v]) (cs ++ [.int .u8 v.kind,.int .i64 v.n,.string v.t,.slice an v.names.length cn,.slice ai v.items.length ci]):=by
 refine ⟨by simp [h.1];omega,fun i hi'=>?_⟩;have z:=h.1;by_cases e:i<l.length
 . obtain ⟨m,a,d,g,c,f,u,x,y,o,p,q,r,s,k⟩:=h.2 i e;have j:(l ++ [v])[i]=l[i]:=List.getElem_append_left e;rw [j];refine ⟨m,a,d,g,c,f,u,x,y,?_,?_,?_,?_,?_,k⟩
   . rw [List.getElem?_append_left (by omega)];exact o
   . rw [List.getElem?_append_left (by omega)];exact p
   . rw [List.getElem?_append_left (by omega)];exact q
   . rw [List.getElem?_append_left (by omega)];exact r
   . rw [List.getElem?_append_left (by omega)];exact s
 . obtain rfl:i=l.length:=by simp at hi';omega
   have j:(l ++ [v])[l.length]=v:=by simp
   rw [j];refine ⟨lo,hi,an,cn,ai,ci,B,C,D,?_,?_,?_,?_,?_,E⟩
   . rw [List.getElem?_append_right (by omega),show 5 * l.length - cs.length=0 by omega];rfl
   . rw [List.getElem?_append_right (by omega),show 5 * l.length+1 - cs.length=1 by omega];rfl
   . rw [List.getElem?_append_right (by omega),show 5 * l.length+2 - cs.length=2 by omega];rfl
   . rw [List.getElem?_append_right (by omega),show 5 * l.length+3 - cs.length=3 by omega];rfl
   . rw [List.getElem?_append_right (by omega),show 5 * l.length+4 - cs.length=4 by omega];rfl
theorem xa {w:World} {F e:Nat} {X:Nat->Prop} {v:Value} {n:Nat} {cs:List Value} {l:List JV} (h:w.ownsRow F e 5 v n cs) (H:qS w F X l cs) (G:n=l.length) :
 ∃a c,v=.slice a l.length c/\l.length<=c/\zy w F w.heap.size a l:=by
 subst G;rcases h.2 with ⟨rfl,h0⟩|⟨g,cap,cur,rfl,hg,hh,hc,hm,hs,ht⟩
 . exact ⟨none,0,by rw [h0],by omega,.inl (List.eq_nil_of_length_eq_zero h0)⟩
 . refine ⟨_,_,rfl,hc,?_⟩;by_cases h0:l=[]
   . exact .inl h0
   . have d:g<w.heap.size:=by
      rcases Nat.lt_or_ge g w.heap.size with d|hge
      . exact d
      . rw [Array.getElem?_eq_none hge] at hh;cases hh
     have b:∀j u,cs[j]?=some u->w.cell? ⟨g,j,none⟩=some u:=fun j u hj=>by
      have:=h.cells (g:=g) rfl j u hj;have e:(⟨g,0,none⟩:Addr).add j=⟨g,j,none⟩:=by unfold Addr.add;split <;> simp_all
      rwa [e] at this
     refine .inr ⟨g,0,rfl,hg,d,⟨cur,e,(0,0),hh,fun _=>rfl⟩,xN.of_at fun i hi=>?_⟩;obtain ⟨E,r,A,C,y,B,s,x,D,k,m,o,p,q,f⟩:=H.2 i hi;have z:∀j,0+i * 5+j=5 * i+j:=fun j=>by omega
     refine ⟨_,_,_,_,_,b _ _ ?_,b _ _ ?_,b _ _ ?_,b _ _ ?_,b _ _ ?_,?_,Rep.carry s x (fun _ _ _=>rfl) _ _ f⟩
     . rw [show 0+i * 5=5 * i by omega];exact k
     . rw [z 1];exact m
     . rw [z 2];exact o
     . rw [z 3];exact p
     . rw [z 4];exact q
     . simp [World.frozen?,hh]
theorem row_step {W wr y z:World} {x e T:Nat} {f:Nat->Value} {j k g cap:Nat} {C:Value} {cs:List Value} {l:List JV} {it:JV} {an ai:Option Addr} {cn ci:Nat} {o H:Obj}
 (I:x<W.heap.size) (B:Touch (· = x) W wr) (G:wr.rowIs x T 5 f) (F:wr.ownsRow W.heap.size e 5 C k cs) (L:qS wr W.heap.size (fun b=>b=x\/C.ownBlock=some b) l cs)
 (A:Below (wr.heap.size+1) (wr.alloc o).drew y) (K:Rep y (wr.heap.size+1) y.heap.size it (.agg #[.int .u8 it.kind,.int .i64 it.n,.string it.t,.slice an it.names.length cn,.slice ai it.items.length ci]))
 (E:(y.alloc H).grownBy z C.ownBlock) (D:C.ownBlock=some g\/g=y.heap.size+1)
 (J:z.ownsRow W.heap.size e 5 (.slice (some ⟨g,0,none⟩) (k+1) cap) (k+1) (cs ++ [.int .u8 it.kind,.int .i64 it.n,.string it.t,.slice an it.names.length cn,.slice ai it.items.length ci])) :
 Touch (· = x) W (z.setCell ⟨x,j,none⟩ (.slice (some ⟨g,0,none⟩) (k+1) cap)) /\
 (z.setCell ⟨x,j,none⟩ (.slice (some ⟨g,0,none⟩) (k+1) cap)).rowIs x T 5 (fun i=>if i=j then .slice (some ⟨g,0,none⟩) (k+1) cap else f i) /\
 (z.setCell ⟨x,j,none⟩ (.slice (some ⟨g,0,none⟩) (k+1) cap)).ownsRow W.heap.size e 5 (.slice (some ⟨g,0,none⟩) (k+1) cap) (k+1) (cs ++ [.int .u8 it.kind,.int .i64 it.n,.string it.t,.slice an it.names.length cn,.slice ai it.items.length ci]) /\
 qS (z.setCell ⟨x,j,none⟩ (.slice (some ⟨g,0,none⟩) (k+1) cap)) W.heap.size (fun b=>b=x\/(Value.slice (some ⟨g,0,none⟩) (k+1) cap).ownBlock=some b) (l ++ [it]) (cs ++ [.int .u8 it.kind,.int .i64 it.n,.string it.t,.slice an it.names.length cn,.slice ai it.items.length ci]):=by
 have s:W.heap.size<=wr.heap.size:=B.size;have u:wr.heap.size+1<=y.heap.size:=by have:=A.size;simp at this;omega
 have v:y.heap.size+1<=z.heap.size:=by have:=E.size;simp at this;omega
 have w:(z.setCell ⟨x,j,none⟩ (.slice (some ⟨g,0,none⟩) (k+1) cap)).heap.size=z.heap.size:=by simp [World.setCell]
 have a:∀b,C.ownBlock=some b->W.heap.size<=b/\b<wr.heap.size:=fun b hb=>F.lt b hb
 -- from wr on
 have m:∀b,b<wr.heap.size->y.heap[b]?=wr.heap[b]?:=fun b hb=>by rw [A.block b (by omega)];exact Below.heap_alloc wr o b hb
 have d:∀b,b<y.heap.size->C.ownBlock≠some b->z.heap[b]?=y.heap[b]?:=fun b hb hne=>by rw [E.block b (by simp;omega) (fun e=>hne e.symm)];exact Below.heap_alloc y H b hb
 have p:∀b,b≠x->(z.setCell ⟨x,j,none⟩ (.slice (some ⟨g,0,none⟩) (k+1) cap)).heap[b]?=z.heap[b]?:=fun b hb=>Below.heap_setCell _ _ _ _ hb;have h:C.ownBlock≠some x:=fun e=>by have:=(a x e).1;omega
 refine ⟨⟨?_,?_,?_,by omega,fun b hb hne=>?_⟩,?_,?_,?_⟩
 . show z.os=_;rw [E.os,show (y.alloc H).os=y.os from rfl,A.os,show ((wr.alloc o).drew).os=wr.os from rfl,B.os]
 . show z.tape=_;rw [E.tape,show (y.alloc H).tape=y.tape from rfl,A.tape,show ((wr.alloc o).drew).tape=wr.tape from rfl,B.tape]
 . show z.output=_;rw [E.output,show (y.alloc H).output=y.output from rfl,A.output,show ((wr.alloc o).drew).output=wr.output from rfl,B.output]
 . rw [p b hne,d b (by omega) (fun e=>by have:=(a b e).1;omega),m b (by omega)];exact B.block b hb hne
 . have r:z.rowIs x T 5 f:=G.of_block (by rw [d x (by omega) h,m x (by omega)]);exact r.set j _
 . exact ownsRow_setCell_below J I _
 . have c:∀b,(Value.slice (some ⟨g,0,none⟩) (k+1) cap).ownBlock=some b->b=g:=fun b hb=>by
    simp [Value.ownBlock] at hb;exact hb.symm
   have q:qS (z.setCell ⟨x,j,none⟩ (.slice (some ⟨g,0,none⟩) (k+1) cap)) W.heap.size (fun b=>b=x\/(Value.slice (some ⟨g,0,none⟩) (k+1) cap).ownBlock=some b) l cs:=by
    refine L.carry (by omega) lz (fun b hb hx=>?_) (fun b hx=>?_)
    . rw [p b (fun e=>hx (.inl e)),d b (by omega) (fun e=>hx (.inr e)),m b hb]
    . rcases hx with hx|hx
      . exact .inl (.inl hx)
      . rw [c b hx];rcases D with ha|ha
        . exact .inl (.inr ha)
        . exact .inr (by omega)
   refine q.snoc it (wr.heap.size+1) y.heap.size an cn ai ci (by omega) (by omega) (fun b hx hb=>?_) (Rep.carry lz lz (fun b h1 h2=>?_) _ _ K)
   . rcases hx with hx|hx
     . omega
     . rw [c b hx] at hb;rcases D with ha|ha
       . have:=(a g ha).2;omega
       . omega
   . rw [p b (by omega),d b h2 (fun e=>by have:=(a b e).2;omega)]
theorem j9 {w:World} {d e:Nat} {v:Value} {n:Nat} {l:List ByteArray} (h:w.ownsRow d e 1 v n (l.map .string)) (f:n=l.length) :
 ∃a c,v=.slice a l.length c/\l.length<=c/\qy w d w.heap.size a l:=by
 subst f;rcases h.2 with ⟨rfl,h0⟩|⟨g,cap,cur,rfl,hg,hh,hc,hm,hs,ht⟩
 . exact ⟨none,0,by rw [h0],by omega,.inl (List.eq_nil_of_length_eq_zero h0)⟩
 . refine ⟨_,_,rfl,hc,?_⟩;by_cases h0:l=[]
   . exact .inl h0
   . have b:g<w.heap.size:=by
      rcases Nat.lt_or_ge g w.heap.size with b|hge
      . exact b
      . rw [Array.getElem?_eq_none hge] at hh;cases hh
     refine .inr ⟨g,0,rfl,hg,b,fun i hi=>?_⟩;have:=h.cells (g:=g) rfl i (.string l[i]) (by simp [hi]);have e:(⟨g,0,none⟩:Addr).add i=⟨g,0+i,none⟩:=by unfold Addr.add;split <;> simp_all
     rwa [e] at this
theorem ot:∃j,Tryz.prog.info? 26=some j/\j.size≠0:=by
 have h:(Tryz.prog.info? 26).map (·.size)=some 5:=by kernel_rfl
 cases hj:Tryz.prog.info? 26 with
 | none=>rw [hj] at h;cases h
 | some j =>
  rw [hj] at h;have e:j.size=5:=by simpa using h
  exact ⟨j,rfl,by rw [e];decide⟩
theorem mo (N:Nat):∀(l:List JV) (a:Option Addr) (c lv:Nat) (p:Option Addr) (lo hi:Nat) (w:World),0<lo->JV.wts l<=N->lv+N<=1099511627776->zy w lo hi a l->nf w lo hi (JV.wts l) p ->
 Calls Tryz.prog 50 #[.slice a l.length c,.int .i64 lv,.pointer p,.bool false] w fun e w'=>e=.returned (.bool false)/\w=w':=by
 induction N with
 | zero => intro l a c lv p lo hi w hlo hN hlv hV hA;have m:=JV.wts_len l;obtain rfl:l=[]:=List.eq_nil_of_length_eq_zero (by omega);clear hV hA;go_enter Tryz.func50,Tryz.ntmps50;go_wp2;refine wp_loop_rounds 1 ?_;rw [rounds_succ];go_wp2;go_ret;exact ⟨rfl,rfl⟩
 | succ N ih =>
  intro l a c lv p lo hi w hlo hN hlv hV hA;have A:=U ih;clear ih;have H:=U hV;clear hV;have P:=U hA;clear hA;have m:=JV.wts_len l;obtain ⟨n,C⟩:=O1 l.length;rw [<- C];rw [<- C] at m;have Q:=U C;clear C;go_enter Tryz.func50,Tryz.ntmps50;go_wp2
  go_loop [9,10,11,14] (fun _ _ _ i=>∃k:Nat,k<=n/\i=.int .i64 k) (fun _ _ _ i=>n - (intOf i).toNat)
  case atStart=>exact ⟨0,by omega,rfl⟩
  case round =>
   obtain ⟨k,hk,rfl⟩:=hrel;by_cases hlt:k<n
   . have f:k<l.length:=by rw [<- Q.o];exact hlt
     obtain ⟨b,h,an,cn,u,B,rfl,_,hb,y0,K,L,M,y4,g⟩:=H.o.get k f;have Z:=JV.wts_get l k f;have s:Hid (VAt w lo hi l[k] b (h+k * 5)):=⟨_,_,_,_,_,y0,K,L,M,y4,g⟩;obtain ⟨_,_,_,Y⟩:=l[k].wt_bd;have z:=U (show zy w lo hi u l[k].items by
      obtain ⟨S,V,R,T,J,_,_,_,W⟩:=g.parts;simp only [Value.agg.injEq,Array.mk.injEq,List.cons.injEq,and_true,Value.slice.injEq] at J;obtain ⟨_,_,_,_,rfl,_,_⟩:=J;exact W)
     have d:=H.o.blk k f;have r:=U d;clear d;generalize l[k]=it at *;have d:=r.o;clear g K L M;have q:Hid (nf w lo hi (JV.wts it.items) (some ⟨b,h+k * 5,none⟩)):=.inr ⟨b,h+k * 5,it,rfl,s.o,by omega,d.1,d.2⟩;clear d;rcases P.o with rfl|⟨pb,po,pv,rfl,hpv,hpw,hpu,hpf⟩
     . have o:Hid (nf w lo hi (JV.wts it.items) none):=.inl rfl;cases hbit:(bits BinOp.and IntKind.i64 (lv:Int) ((lv:Int) - 1) == 0)
       . go_wp2_with fail
         rw [show (lv:Int)+1=((lv+1:Nat):Int) by omega];refine (A.o it.items u B (lv+1) none lo hi w hlo (by omega) (by omega) z.o o.o).mono ?_;rintro e G ⟨rfl,rfl⟩;go_wp2
         go_round
         case rel=>exact ⟨k+1,by omega,by go_num⟩
         case measure=>simp [intOf];omega
       . go_wp2_with fail
         rw [show (lv:Int)+1=((lv+1:Nat):Int) by omega];refine (A.o it.items u B (lv+1) _ lo hi w hlo (by omega) (by omega) z.o q.o).mono ?_;rintro e G ⟨rfl,rfl⟩;go_wp2
         go_round
         case rel=>exact ⟨k+1,by omega,by go_num⟩
         case measure=>simp [intOf];omega
     . have o:Hid (nf w lo hi (JV.wts it.items) (some ⟨pb,po,none⟩)):=.inr ⟨pb,po,pv,rfl,hpv,by omega,hpu,hpf⟩;have y:¬(b=pb/\h+k * 5=po):=fun ⟨e1,e2⟩=>by
        subst e1 e2;have:=hpv.inj s.o;subst this;omega
       have X:(binOp .eql 151 (.pointer (some ⟨b,h+k * 5,none⟩)) (.pointer (some ⟨pb,po,none⟩))).run Tryz.prog w=.ok (.bool false) w:=(by obtain ⟨ca,ta,fa,I,D⟩:=r.o.1;obtain ⟨cb,tb,fb,v,x⟩:=hpu;rw [D hlo] at I;rw [x hlo] at v;obtain ⟨j,E,F⟩:=ot;exact run_eql_ptr_other w Tryz.underlying151 E F (fun e=>y (by simpa using e)) I v);clear y hpv hpu hpf;cases hbit:(bits BinOp.and IntKind.i64 (lv:Int) ((lv:Int) - 1) == 0)
       . go_wp2_with fail
         rw [show (lv:Int)+1=((lv+1:Nat):Int) by omega];refine (A.o it.items u B (lv+1) _ lo hi w hlo (by omega) (by omega) z.o o.o).mono ?_;rintro e G ⟨rfl,rfl⟩;go_wp2
         go_round
         case rel=>exact ⟨k+1,by omega,by go_num⟩
         case measure=>simp [intOf];omega
       . go_wp2_with fail
         rw [show (lv:Int)+1=((lv+1:Nat):Int) by omega];refine (A.o it.items u B (lv+1) _ lo hi w hlo (by omega) (by omega) z.o q.o).mono ?_;rintro e G ⟨rfl,rfl⟩;go_wp2
         go_round
         case rel=>exact ⟨k+1,by omega,by go_num⟩
         case measure=>simp [intOf];omega
   . go_wp2;go_ret;exact ⟨rfl,rfl⟩
theorem pX (a:Option Addr) (c b:Nat) (p:Option Addr) (w:World) :
 Calls Tryz.prog 50 #[.slice a 0 c,.int .i64 b,.pointer p,.bool false] w fun e w'=>e=.returned (.bool false)/\w=w':=by
 go_enter Tryz.func50,Tryz.ntmps50;go_wp2;refine wp_loop_rounds 1 ?_;rw [rounds_succ];go_wp2;go_ret;exact ⟨rfl,rfl⟩
theorem cK (l:List JV) (a:Option Addr) (c F:Nat) (lo hi:Nat) (w:World) (J:JV.wts l<=4294967296) (I:F<=1099511627776) (G:zy w lo hi a l) (H:∀k (h:k<l.length),l[k].items=[]) :
 Calls Tryz.prog 50 #[.slice a l.length c,.int .i64 F,.pointer none,.bool false] w fun e w'=>e=.returned (.bool false)/\w=w':=by
 have s:=U G;clear G;have q:=U H;clear H;have f:=JV.wts_len l;obtain ⟨n,j⟩:=O1 l.length;rw [<- j];rw [<- j] at f;have r:=U j;clear j;go_enter Tryz.func50,Tryz.ntmps50;go_wp2
 go_loop [9,10,11,14] (fun _ _ _ i=>∃k:Nat,k<=n/\i=.int .i64 k) (fun _ _ _ i=>n - (intOf i).toNat)
 case atStart=>exact ⟨0,by omega,rfl⟩
 case round =>
  obtain ⟨k,D,rfl⟩:=hrel;by_cases hlt:k<n
  . have d:k<l.length:=by rw [<- r.o];exact hlt
    obtain ⟨b,u,A,B,m,o,rfl,_,C,E,x,y,z,p,g⟩:=s.o.get k d;rw [q.o k d] at p;simp only [List.length_nil] at p;clear g x y z;generalize l[k]=it at *;cases hbit:(bits BinOp.and IntKind.i64 (F:Int) ((F:Int) - 1) == 0)
    . go_wp2_with fail
      rw [show (F:Int)+1=((F+1:Nat):Int) by omega];refine (pX m o (F+1) none w).mono ?_;rintro e v ⟨rfl,rfl⟩;go_wp2
      go_round
      case rel=>exact ⟨k+1,by omega,by go_num⟩
      case measure=>simp [intOf];omega
    . go_wp2_with fail
      rw [show (F:Int)+1=((F+1:Nat):Int) by omega];refine (pX m o (F+1) _ w).mono ?_;rintro e v ⟨rfl,rfl⟩;go_wp2
      go_round
      case rel=>exact ⟨k+1,by omega,by go_num⟩
      case measure=>simp [intOf];omega
  . go_wp2;go_ret;exact ⟨rfl,rfl⟩
def cV (lo:Nat) (v:JV):Prop:=0<lo\/∀k (h:k<v.items.length),v.items[k].items=[]
theorem bf (it:JV) (ai:Option Addr) (ci:Nat) (lo hi:Nat) (w:World) (c:it.wt<=4294967296) (a:zy w lo hi ai it.items) (b:cV lo it) :
 Calls Tryz.prog 50 #[.slice ai it.items.length ci,.int .i64 1,.pointer none,.bool false] w fun e w'=>e=.returned (.bool false)/\w=w':=by
 have:=it.wt_bd;rcases b with h|h
 . exact mo 4294967296 it.items ai ci 1 none lo hi w h (by omega) (by omega) a (.inl rfl)
 . exact cK it.items ai ci 1 lo hi w (by omega) (by omega) a h
theorem hexDigit (s:ByteArray) (i:Nat) (w:World) (hi:i<s.size) (_hs:s.size<=9223372036854775807) :
 Calls Tryz.prog 149 #[.string s,.int .i64 i] w fun e w'=>e=.returned (.tuple #[.int .i64 (lL s[i]),.bool (jv s[i])])/\w=w':=by
 have a:s[i].toNat<256:=s[i].toNat_lt;go_enter Tryz.func149,Tryz.ntmps149;go_wp2
 all_goals go_ret2
 . exact ⟨lR (cQ (by omega) (by omega)).1.symm (cQ (by omega) (by omega)).2.symm,rfl⟩
 . exact ⟨lR (cZ (by omega) (by omega)).1.symm (cZ (by omega) (by omega)).2.symm,rfl⟩
 all_goals exact ⟨lR (ny (by omega) (by omega)).1.symm (ny (by omega) (by omega)).2.symm,rfl⟩
theorem nh (s:ByteArray) (w:World) (h:s.size<=9223372036854775807) :
 Calls Tryz.prog 117 #[.string s] w fun e w'=>e=.returned (.bool (jp s.data.toList))/\w=w':=by
 go_enter Tryz.func117,Tryz.ntmps117;go_wp2
 go_loop [3,4,5,8] (fun _ _ _ i=>∃k:Nat,k<=s.size/\i=.int .i64 k/\(s.data.toList.take k).all jv=true) (fun _ _ _ i=>s.size - (intOf i).toNat)
 case atStart=>exact ⟨0,Nat.zero_le _,rfl,by simp⟩
 case round =>
  obtain ⟨k,g,rfl,c⟩:=hrel;have b:=U c;clear c;by_cases hlt:k<s.size
  . have f:=U (yd jv s k hlt);cases hh:jv s[k]
    . have a:=U (ub jv s k hlt hh);go_wp2_with (go_at_call 149;refine (hexDigit s k _ hlt h).mono ?_;rintro e w' ⟨rfl,rfl⟩);go_ret;exact ⟨qx a.o.symm,rfl⟩
    . have d:=U hh;go_wp2_with (go_at_call 149;refine (hexDigit s k _ hlt h).mono ?_;rintro e w' ⟨rfl,rfl⟩)
      go_round
      case rel=>exact ⟨k+1,by omega,by go_num,by rw [f.o,b.o,d.o];rfl⟩
      case measure=>simp [intOf];omega
  . obtain rfl:k=s.size:=by omega
    have a:=U (bp jv s b.o);go_wp2;go_ret;exact ⟨qx a.o.symm,rfl⟩
theorem bh (c:UInt8) (w:World) :
 Calls Tryz.prog 116 #[.int .u8 c.toNat] w fun e w'=>e=.returned (.bool (kg c))/\w=w':=by
 have g:c.toNat<256:=c.toNat_lt;by_cases b:97<=(c.toNat:Int)/\(c.toNat:Int)<=122
 . obtain ⟨b,d⟩:=b;go_enter Tryz.func116,Tryz.ntmps116;go_wp2
   all_goals go_ret
   exact ⟨qx (vH (by omega)).symm,rfl⟩
 by_cases d:65<=(c.toNat:Int)/\(c.toNat:Int)<=90
 . obtain ⟨a,f⟩:=d;go_enter Tryz.func116,Tryz.ntmps116;go_wp2
   all_goals go_ret
   all_goals exact ⟨qx (vH (by omega)).symm,rfl⟩
 by_cases a:48<=(c.toNat:Int)/\(c.toNat:Int)<=57
 . obtain ⟨a,f⟩:=a;go_enter Tryz.func116,Tryz.ntmps116;go_wp2
   all_goals go_ret
   all_goals exact ⟨qx (vH (by omega)).symm,rfl⟩
 by_cases f:(c.toNat:Int)=46\/(c.toNat:Int)=95\/(c.toNat:Int)=45
 . go_enter Tryz.func116,Tryz.ntmps116;go_wp2
   all_goals go_ret
   all_goals exact ⟨qx (by rw [vH (by omega)];try (simp;omega)),rfl⟩
 . go_enter Tryz.func116,Tryz.ntmps116;go_wp2
   all_goals go_ret
   all_goals exact ⟨qx (by rw [cX (by omega)];try (simp;omega)),rfl⟩
theorem xA (s:ByteArray) (w:World) (r:s.size<=9223372036854775807) :
 Calls Tryz.prog 87 #[.string s] w fun e w'=>e=.returned (.bool (zw s.data.toList))/\w=w':=by
 by_cases h0:s.size=0
 . have a:=U (cJ (s:=s) (by omega));have p:=yB s h0;clear h0;go_enter Tryz.func87,Tryz.ntmps87;go_wp2;go_ret;exact ⟨qx a.o.symm,rfl⟩
 obtain ⟨o,m⟩:=gW s (by omega);have b:0<s.size:=by omega
 clear h0;by_cases h1:64<s.size
 . have a:=U (cJ (s:=s) (by omega));go_enter Tryz.func87,Tryz.ntmps87;go_wp2;go_ret;exact ⟨qx a.o.symm,rfl⟩
 by_cases h2:s[0].toNat=46
 . have a:=U (aT b h2);have l:((s[0].toNat:Int) == 46)=true:=by simp;omega
   clear h2;go_enter Tryz.func87,Tryz.ntmps87;go_wp2;go_ret;exact ⟨qx a.o.symm,rfl⟩
 have l:((s[0].toNat:Int) == 46)=false:=by simp;omega
 have c:s.size<=64:=by omega
 have g:=U h2;clear h2 h1;go_enter Tryz.func87,Tryz.ntmps87;go_wp2
 go_loop [3,18] (fun _ i=>∃k:Nat,k<=s.size/\i=.int .i64 k/\(s.data.toList.take k).all kg=true) (fun _ i=>s.size - (intOf i).toNat)
 case atStart=>exact ⟨0,Nat.zero_le _,rfl,by simp⟩
 case round =>
  obtain ⟨k,q,rfl,f⟩:=hrel;have d:=U f;clear f;by_cases hlt:k<s.size
  . have j:=U (yd kg s k hlt);cases hh:kg s[k]
    . have a:=U (aI k hlt hh);go_wp2_with (go_at_call 116;refine (bh s[k] _).mono ?_;rintro e w' ⟨rfl,rfl⟩);go_ret;exact ⟨qx a.o.symm,rfl⟩
    . have h:=U hh;go_wp2_with (go_at_call 116;refine (bh s[k] _).mono ?_;rintro e w' ⟨rfl,rfl⟩)
      go_round
      case rel=>exact ⟨k+1,by omega,by go_num,by rw [j.o,d.o,h.o];rfl⟩
      case measure=>simp [intOf];omega
  . obtain rfl:k=s.size:=by omega
    have a:=U (sw b c g.o d.o);go_wp2;go_ret;exact ⟨qx a.o.symm,rfl⟩
theorem set5 {W:World} {b t:Nat} {f:Nat->Value} (v0 v1 v2 v3 v4:Value) (h:W.rowIs b t 5 f) :
 (((((W.setCell ⟨b,0,none⟩ v0).setCell ⟨b,1,none⟩ v1).setCell ⟨b,2,none⟩ v2).setCell ⟨b,3,none⟩ v3).setCell ⟨b,4,none⟩ v4).rowIs b t 5 (qo v0 v1 v2 v3 v4):=by
 refine (((((h.set 0 v0).set 1 v1).set 2 v2).set 3 v3).set 4 v4).congr fun j hj=>?_;rcases j with _|_|_|_|_|j <;> first|rfl|omega
theorem zf {B:Nat} {a W:World} {b:Nat} (v0 v1 v2 v3 v4:Value) (h:Below B a W) (c:B<=b) :
 Below B a (((((W.setCell ⟨b,0,none⟩ v0).setCell ⟨b,1,none⟩ v1).setCell ⟨b,2,none⟩ v2).setCell ⟨b,3,none⟩ v3).setCell ⟨b,4,none⟩ v4) :=
 ((((h.setCell c v0).setCell c v1).setCell c v2).setCell c v3).setCell c v4
theorem xJ {W:World} {b k:Nat} (v0 v1 v2 v3 v4:Value) (a:k≠b) :
 (((((W.setCell ⟨b,0,none⟩ v0).setCell ⟨b,1,none⟩ v1).setCell ⟨b,2,none⟩ v2).setCell ⟨b,3,none⟩ v3).setCell ⟨b,4,none⟩ v4).heap[k]?=W.heap[k]?:=by
 rw [Below.heap_setCell _ _ _ _ a,Below.heap_setCell _ _ _ _ a,Below.heap_setCell _ _ _ _ a,Below.heap_setCell _ _ _ _ a,Below.heap_setCell _ _ _ _ a]
theorem qk {P:Program} {c:Func} {p u:Tmp} {b:TypeId} (h:c.results=#[.cell p b,.tmp u]) (a:Array Value) (w:World) (g:Nat) (t:TypeId) (cs:Array Value) (fr:Nat × Nat) (d:TypeDesc)
 (i:a.getD p undef=.pointer (some ⟨g,0,none⟩)) (f:w.heap[g]?=some (.cells cs t fr))
 (j:P.underlying b=some d) (e:(match d with | .struct _ | .array _ _=>true|_=>false)=true) (hi:(P.info? b).map (·.size)=some cs.size) (x:Value) (k:a.getD u undef=x) :
 (results c a).run P w=.ok (.tuple #[.agg cs,x]) w:=by
 rw [results_cell_tmp h,i,k];simp [asAddr,run_loadVar_row w g t b cs fr d f j e hi]
def zeroAgg:Value:=.agg #[.int .u8 0,.int .i64 0,.string ⟨#[]⟩,.slice none 0 0,.slice none 0 0]
def ws (v0 v1:Value):Nat->Value
 | 0=>v0|_=>v1
theorem pJ (w:World) (v0 v1:Value) (t:Nat):(w.alloc (.cells #[v0,v1] t)).rowIs w.heap.size t 2 (ws v0 v1):=xS rfl
theorem xt {w:World} {b t:Nat} {v0 v1:Value} (h:w.rowIs b t 2 (ws v0 v1)):w.heap[b]?=some (.cells #[v0,v1] t (0,0)):=by obtain ⟨c,d,g,f⟩:=h;have e:c=#[v0,v1]:=(by apply Array.ext (by simp [g]);intro i h1 h2;have:=f i (by omega);rw [Array.getElem?_eq_getElem h1] at this;have a:=Option.some.inj this;rw [a];rcases i with _|_|i <;> first|rfl|(simp at h2;omega));rw [d,e]
theorem set2 {W:World} {b t:Nat} {f:Nat->Value} (v0 v1:Value) (h:W.rowIs b t 2 f):((W.setCell ⟨b,0,none⟩ v0).setCell ⟨b,1,none⟩ v1).rowIs b t 2 (ws v0 v1):=by refine ((h.set 0 v0).set 1 v1).congr fun j hj=>?_;rcases j with _|_|j <;> first|rfl|omega
theorem pK {B:Nat} {a W:World} {b:Nat} (v0 v1:Value) (h:Below B a W) (c:B<=b):Below B a ((W.setCell ⟨b,0,none⟩ v0).setCell ⟨b,1,none⟩ v1):=(h.setCell c v0).setCell c v1
def qZ (v0 v1 v2 v3 v4 v5:Value):Nat->Value
 | 0=>v0|1=>v1|2=>v2|3=>v3|4=>v4|_=>v5
theorem jf (w:World) (v0 v1 v2 v3 v4 a:Value) (t:Nat):(w.alloc (.cells #[v0,v1,v2,v3,v4,a] t)).rowIs w.heap.size t 6 (qZ v0 v1 v2 v3 v4 a):=xS rfl
theorem zX {w:World} {b t:Nat} {v0 v1 v2 v3 v4 j:Value} (h:w.rowIs b t 6 (qZ v0 v1 v2 v3 v4 j)):w.heap[b]?=some (.cells #[v0,v1,v2,v3,v4,j] t (0,0)):=by obtain ⟨c,d,g,f⟩:=h;have e:c=#[v0,v1,v2,v3,v4,j]:=(by apply Array.ext (by simp [g]);intro i h1 h2;have:=f i (by omega);rw [Array.getElem?_eq_getElem h1] at this;have a:=Option.some.inj this;rw [a];rcases i with _|_|_|_|_|_|i <;> first|rfl|(simp at h2;omega));rw [d,e]
theorem gY {W:World} {b t:Nat} {f:Nat->Value} (v0 v1 v2 v3 v4 a:Value) (h:W.rowIs b t 6 f) :
 ((((((W.setCell ⟨b,0,none⟩ v0).setCell ⟨b,1,none⟩ v1).setCell ⟨b,2,none⟩ v2).setCell ⟨b,3,none⟩ v3).setCell ⟨b,4,none⟩ v4).setCell ⟨b,5,none⟩ a).rowIs b t 6 (qZ v0 v1 v2 v3 v4 a):=by
 refine ((((((h.set 0 v0).set 1 v1).set 2 v2).set 3 v3).set 4 v4).set 5 a).congr fun j hj=>?_;rcases j with _|_|_|_|_|_|j <;> first|rfl|omega
theorem jh {B:Nat} {a W:World} {b:Nat} (v0 v1 v2 v3 v4 d:Value) (h:Below B a W) (c:B<=b) :
 Below B a ((((((W.setCell ⟨b,0,none⟩ v0).setCell ⟨b,1,none⟩ v1).setCell ⟨b,2,none⟩ v2).setCell ⟨b,3,none⟩ v3).setCell ⟨b,4,none⟩ v4).setCell ⟨b,5,none⟩ d) :=
 (((((h.setCell c v0).setCell c v1).setCell c v2).setCell c v3).setCell c v4).setCell c d
theorem cY {W:World} {b k:Nat} (v0 v1 v2 v3 v4 c:Value) (a:k≠b) :
 ((((((W.setCell ⟨b,0,none⟩ v0).setCell ⟨b,1,none⟩ v1).setCell ⟨b,2,none⟩ v2).setCell ⟨b,3,none⟩ v3).setCell ⟨b,4,none⟩ v4).setCell ⟨b,5,none⟩ c).heap[k]?=W.heap[k]?:=by
 rw [Below.heap_setCell _ _ _ _ a,Below.heap_setCell _ _ _ _ a,Below.heap_setCell _ _ _ _ a,Below.heap_setCell _ _ _ _ a,Below.heap_setCell _ _ _ _ a,Below.heap_setCell _ _ _ _ a]
theorem lS (s t:ByteArray) (w:World) (i:s.size<=9223372036854775807) (j:t.size<=9223372036854775807) :
 Calls Tryz.prog 124 #[.agg #[.string s,.string t]] w fun e w'=>e=.returned (.bool (zA s.data.toList t.data.toList))/\O5 w w':=by
 unfold zA;cases hr:zw s.data.toList
 . have h:=U hr;go_enter Tryz.func124,Tryz.ntmps124;go_wp2_with (go_at_call 87;refine (xA s _ i).mono ?_;rintro e w' ⟨rfl,rfl⟩);go_ret;exact ⟨rfl,(Below.refl _ _).alloc lz _⟩
 by_cases h1:t.size<2\/128<t.size\/t.size % 2=1
 . have a:=U (mi h1);rw [a.o];by_cases b:t.size=0
   . have c:¬0<(t.size:Int):=by omega
     clear h1 b;go_enter Tryz.func124,Tryz.ntmps124;go_wp2_with (go_at_call 87;refine (xA s _ i).mono ?_;rintro e w' ⟨rfl,rfl⟩);go_ret;exact ⟨rfl,(Below.refl _ _).alloc lz _⟩
   have c:0<t.size:=by omega
   clear b;by_cases d:128<t.size
   . clear h1;go_enter Tryz.func124,Tryz.ntmps124;go_wp2_with (go_at_call 87;refine (xA s _ i).mono ?_;rintro e w' ⟨rfl,rfl⟩);go_ret;exact ⟨rfl,(Below.refl _ _).alloc lz _⟩
   have g:((t.size:Int) % 2 == 0)=false:=by simp;omega
   have f:t.size<=128:=by omega
   clear h1 d;go_enter Tryz.func124,Tryz.ntmps124;go_wp2_with (go_at_call 87;refine (xA s _ i).mono ?_;rintro e w' ⟨rfl,rfl⟩);go_ret;exact ⟨rfl,(Below.refl _ _).alloc lz _⟩
 . have a:=U (ng (s:=t) (by omega) (by omega) (by omega));rw [a.o];have b:2<=t.size:=by omega
   have d:t.size<=128:=by omega
   have g:((t.size:Int) % 2 == 0)=true:=by simp;omega
   clear h1;go_enter Tryz.func124,Tryz.ntmps124;go_wp2_with (first|(go_at_call 87;refine (xA s _ i).mono ?_;rintro e w' ⟨rfl,rfl⟩)|(go_at_call 117;refine (nh t _ j).mono ?_;rintro e w' ⟨rfl,rfl⟩));go_ret;exact ⟨by simp,(Below.refl _ _).alloc lz _⟩
