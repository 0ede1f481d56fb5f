import GoSem.Core.Utf8
import Derived.Test.YthgembbgcbaghaaGreatDoorDg03

namespace Go.Proofs.YthgembbgcbaghaaGreatDoor
open Go.RowKit
def xI (v0 v1 v2 v3:Value):Nat->Value
 | 0=>v0|1=>v1|2=>v2|_=>v3
theorem fq (w:World) (v0 v1 v2 v3:Value) (t:Nat):(w.alloc (.cells #[v0,v1,v2,v3] t)).rowIs w.heap.size t 4 (xI v0 v1 v2 v3):=jz rfl
theorem bq {w:World} {b t:Nat} {v0 v1 v2 v3:Value} (h:w.rowIs b t 4 (xI v0 v1 v2 v3)):w.heap[b]?=some (.cells #[v0,v1,v2,v3] t (0,0)):=by obtain ⟨c,d,g,f⟩:=h;have e:c=#[v0,v1,v2,v3]:=(by apply Array.ext (by simp [g]);intro i h1 h2;have:=f i (by omega);rw [K0 h1] at this;have a:=Y9 this;rw [a];rcases i with _|_|_|_|i <;> first|rfl|(simp at h2;omega));rw [d,e]
theorem Zk {W:World} {b t:Nat} {f:Nat->Value} (v0 v1 v2 v3:Value) (h:W.rowIs b t 4 f):((((W.setCell ⟨b,0,none⟩ v0).setCell ⟨b,1,none⟩ v1).setCell ⟨b,2,none⟩ v2).setCell ⟨b,3,none⟩ v3).rowIs b t 4 (xI v0 v1 v2 v3):=by refine ((((h.set 0 v0).set 1 v1).set 2 v2).set 3 v3).congr fun j hj=>?_;rcases j with _|_|_|_|j <;> first|rfl|omega
theorem rB {B:Nat} {a W:World} {b:Nat} (v0 v1 v2 v3:Value) (h:Below B a W) (c:B<=b):Below B a ((((W.setCell ⟨b,0,none⟩ v0).setCell ⟨b,1,none⟩ v1).setCell ⟨b,2,none⟩ v2).setCell ⟨b,3,none⟩ v3):=((((h.setCell c v0).setCell c v1).setCell c v2).setCell c v3)
theorem ZA {W:World} {b k:Nat} (v0 v1 v2 v3:Value) (a:k≠b):((((W.setCell ⟨b,0,none⟩ v0).setCell ⟨b,1,none⟩ v1).setCell ⟨b,2,none⟩ v2).setCell ⟨b,3,none⟩ v3).heap[k]?=W.heap[k]?:=by rw [X5 _ _ _ _ a,X5 _ _ _ _ a,X5 _ _ _ _ a,X5 _ _ _ _ a]
theorem ZT {W:World} {b:Nat} {v0 v1 v2 v3:Value}:((((W.setCell ⟨b,0,none⟩ v0).setCell ⟨b,1,none⟩ v1).setCell ⟨b,2,none⟩ v2).setCell ⟨b,3,none⟩ v3).heap.size=W.heap.size:=by simp [World.setCell]
def zT (l:List UInt8) (x:Int):Nat->Option (Int × Int)
 | 0=>some (x,x)
 | i+1=>match zT l x i with
  | none=>none
  | some (lo,hi)=>if i+1<l.length then (if qV l (i+1)<128\/191<qV l (i+1) then none else some (64 * lo+(qV l (i+1) - 128),64 * hi+(qV l (i+1) - 128))) else some (64 * lo,64 * hi+63)
def vP (size:Nat):Int:=if size=2 then 192 else if size=3 then 224 else 240
def wK (size:Nat):Int:=if size=2 then 128 else if size=3 then 2048 else 65536
def kW (lo hi least:Int):Bool:=if 55296<=max lo least/\min hi 1114111<=57343 then false else decide (max lo least<=min hi 1114111)
def qC (l:List UInt8) (size:Nat):Bool:=match zT l (qV l 0 - vP size) (size - 1) with
 | none=>false
 | some (lo,hi)=>kW lo hi (wK size)
theorem gx (l:List UInt8) (x:Int) (i:Nat) (h:zT l x i=none):∀j,zT l x (i+j)=none
 | 0=>h
 | j+1=>by rw [<- Nat.add_assoc,zT,gx l x i h j]
abbrev uS (b0 b1:Nat):Prop:=b1 / 64=2/\128<=(b0 - 192) * 64+(b1 - 128)
abbrev fj (b0 b1 b2:Nat):Prop:=b1 / 64=2/\b2 / 64=2/\2048<=(b0 - 224) * 4096+(b1 - 128) * 64+(b2 - 128)/\((b0 - 224) * 4096+(b1 - 128) * 64+(b2 - 128)<55296\/57343<(b0 - 224) * 4096+(b1 - 128) * 64+(b2 - 128))
abbrev fk (b0 b1 b2 b3:Nat):Prop:=b1 / 64=2/\b2 / 64=2/\b3 / 64=2/\65536<=(b0 - 240) * 262144+(b1 - 128) * 4096+(b2 - 128) * 64+(b3 - 128)/\(b0 - 240) * 262144+(b1 - 128) * 4096+(b2 - 128) * 64+(b3 - 128)<=1114111
theorem Xu (a b:UInt8) (h:192<=a.toNat/\a.toNat<224):(qC [a,b] 2=true↔uS a.toNat b.toNat)/\(uS a.toNat b.toNat->qC [a] 2=true):=by
 have:=b.toNat_lt;unfold uS qC kW wK vP;simp only [Nat.reduceSub,zT,qV,N3,zd9,List.getD_cons_zero,List.getD_cons_succ,if_true];constructor
 . by_cases g:(b.toNat:Int)<128\/191<(b.toNat:Int)
   . simp [g];omega
   . simp [g];omega
 . intro h;simp;omega
theorem fw (lo hi a:Int):kW lo hi a=true↔¬(55296<=max lo a/\min hi 1114111<=57343)/\max lo a<=min hi 1114111:=by unfold kW;split <;> simp_all
theorem Xm (a b c:UInt8) (h:224<=a.toNat/\a.toNat<240):(qC [a,b,c] 3=true↔fj a.toNat b.toNat c.toNat)/\(fj a.toNat b.toNat c.toNat->qC [a] 3=true/\qC [a,b] 3=true):=by
 have d:=b.toNat_lt;have e:=c.toNat_lt;unfold fj qC wK vP;simp only [Nat.reduceSub,zT,qV,N3,zd9,List.getD_cons_zero,List.getD_cons_succ];generalize a.toNat=x at *;generalize b.toNat=y at *;generalize c.toNat=z at *;by_cases g1:(y:Int)<128\/191<(y:Int)
 . simp [g1];omega
 . by_cases g2:(z:Int)<128\/191<(z:Int)
   . simp [g1,g2];omega
   . simp only [Nat.reduceAdd,Nat.reduceLT,if_true,g1,g2,zf1,fw,show ¬(3:Nat)=2 by decide];constructor
     . constructor
       . intro h;omega
       . intro h;omega
     . intro h;constructor <;> omega
theorem Xc (a b c d:UInt8) (h:240<=a.toNat/\a.toNat<=247):(qC [a,b,c,d] 4=true↔fk a.toNat b.toNat c.toNat d.toNat)/\(fk a.toNat b.toNat c.toNat d.toNat->qC [a] 4=true/\qC [a,b] 4=true/\qC [a,b,c] 4=true):=by
 have e:=b.toNat_lt;have f:=c.toNat_lt;have g:=d.toNat_lt;unfold fk qC wK vP;simp only [Nat.reduceSub,zT,qV,N3,zd9,List.getD_cons_zero,List.getD_cons_succ];generalize a.toNat=x at *;generalize b.toNat=y at *;generalize c.toNat=z at *;generalize d.toNat=u at *;by_cases g1:(y:Int)<128\/191<(y:Int)
 . simp [g1];omega
 . by_cases g2:(z:Int)<128\/191<(z:Int)
   . simp [g1,g2];omega
   . by_cases g3:(u:Int)<128\/191<(u:Int)
     . simp [g1,g2,g3];omega
     . simp only [Nat.reduceAdd,Nat.reduceLT,if_true,g1,g2,g3,zf1,fw,show ¬(4:Nat)=2 by decide,show ¬(4:Nat)=3 by decide];constructor
       . constructor
         . intro h;omega
         . intro h;omega
       . intro h;refine ⟨?_,?_,?_⟩ <;> omega
structure Chn (H T:Nat) (L:List Value) (one:Array Value) (i:Nat) (d:Nat->Prop) (w':World) (y0 y1 y2 y3:Value):Prop where
 o1:d 5->d 0
 o2:d 8->d 5/\d 7
 own0:d 0->¬d 5->w'.ownsRow H T 2 y0 0 []
 own1:d 5->¬d 8->w'.ownsRow H T 2 y1 i L
 row:d 7->¬d 8->∃b,y2=.slice (some ⟨b,0,none⟩) 1 1/\H<=b/\w'.heap[b]?=some (.cells one T (0,0))/\(d 0->¬d 5->y0.ownBlock≠some b)/\(d 5->y1.ownBlock≠some b)
 own2:d 8->w'.ownsRow H T 2 y3 (i+1) (L ++ one.toList)
variable {H T i:Nat} {L:List Value} {one:Array Value} {d:Nat->Prop} {w' w2:World} {y0 y1 y2 y3:Value}
