import GoSem.Core.Utf8
import Derived.Test.YthgembbgcbaghaaGreatDoorDt03

namespace Go.Proofs.YthgembbgcbaghaaGreatDoor
open Go.RowKit
def xR (v0 v1 v2 v3:Value):Nat->Value
 | 0=>v0|1=>v1|2=>v2|_=>v3
theorem pF (w:World) (v0 v1 v2 v3:Value) (t:Nat):(w.alloc (.cells #[v0,v1,v2,v3] t)).rowIs w.heap.size t 4 (xR v0 v1 v2 v3):=xT rfl
theorem gG {w:World} {b t:Nat} {v0 v1 v2 v3:Value} (h:w.rowIs b t 4 (xR v0 v1 v2 v3)):w.heap[b]?=some (.cells #[v0,v1,v2,v3] t (0,0)):=by obtain ⟨c,d,g,f⟩:=h;have e:c=#[v0,v1,v2,v3]:=(by apply Array.ext (by simp [g]);intro i h1 h2;have:=f i (by omega);rw [V3 h1] at this;have a:=X7 this;rw [a];rcases i with _|_|_|_|i <;> first|rfl|(simp at h2;omega));rw [d,e]
theorem eN {W:World} {b t:Nat} {f:Nat->Value} (v0 v1 v2 v3:Value) (h:W.rowIs b t 4 f):((((W.setCell ⟨b,0,none⟩ v0).setCell ⟨b,1,none⟩ v1).setCell ⟨b,2,none⟩ v2).setCell ⟨b,3,none⟩ v3).rowIs b t 4 (xR v0 v1 v2 v3):=by refine ((((h.set 0 v0).set 1 v1).set 2 v2).set 3 v3).congr fun j hj=>?_;rcases j with _|_|_|_|j <;> first|rfl|omega
theorem lH {B:Nat} {a W:World} {b:Nat} (v0 v1 v2 v3:Value) (h:Below B a W) (hb:B<=b):Below B a ((((W.setCell ⟨b,0,none⟩ v0).setCell ⟨b,1,none⟩ v1).setCell ⟨b,2,none⟩ v2).setCell ⟨b,3,none⟩ v3):=((((h.setCell hb v0).setCell hb v1).setCell hb v2).setCell hb v3)
theorem QB {W:World} {b k:Nat} (v0 v1 v2 v3:Value) (hk:k≠b):((((W.setCell ⟨b,0,none⟩ v0).setCell ⟨b,1,none⟩ v1).setCell ⟨b,2,none⟩ v2).setCell ⟨b,3,none⟩ v3).heap[k]?=W.heap[k]?:=by rw [J6 _ _ _ _ hk,J6 _ _ _ _ hk,J6 _ _ _ _ hk,J6 _ _ _ _ hk]
theorem QP {W:World} {b:Nat} {v0 v1 v2 v3:Value}:((((W.setCell ⟨b,0,none⟩ v0).setCell ⟨b,1,none⟩ v1).setCell ⟨b,2,none⟩ v2).setCell ⟨b,3,none⟩ v3).heap.size=W.heap.size:=by simp [World.setCell]
def zL (l:List UInt8) (x:Int):Nat->Option (Int × Int)
 | 0=>some (x,x)
 | i+1=>match zL l x i with
  | none=>none
  | some (lo,hi)=>if i+1<l.length then (if qY l (i+1)<128\/191<qY l (i+1) then none else some (64 * lo+(qY l (i+1) - 128),64 * hi+(qY l (i+1) - 128))) else some (64 * lo,64 * hi+63)
def vJ (size:Nat):Int:=if size=2 then 192 else if size=3 then 224 else 240
def ww (size:Nat):Int:=if size=2 then 128 else if size=3 then 2048 else 65536
def ki (lo hi least:Int):Bool:=if 55296<=max lo least/\min hi 1114111<=57343 then false else decide (max lo least<=min hi 1114111)
def qU (l:List UInt8) (size:Nat):Bool:=match zL l (qY l 0 - vJ size) (size - 1) with
 | none=>false
 | some (lo,hi)=>ki lo hi (ww size)
theorem yU (l:List UInt8) (x:Int) (i:Nat) (h:zL l x i=none):∀j,zL l x (i+j)=none
 | 0=>h
 | j+1=>by rw [<- Nat.add_assoc,zL,yU l x i h j]
abbrev ui (b0 b1:Nat):Prop:=b1 / 64=2/\128<=(b0 - 192) * 64+(b1 - 128)
abbrev pH (b0 b1 b2:Nat):Prop:=b1 / 64=2/\b2 / 64=2/\2048<=(b0 - 224) * 4096+(b1 - 128) * 64+(b2 - 128)/\((b0 - 224) * 4096+(b1 - 128) * 64+(b2 - 128)<55296\/57343<(b0 - 224) * 4096+(b1 - 128) * 64+(b2 - 128))
abbrev pU (b0 b1 b2 b3:Nat):Prop:=b1 / 64=2/\b2 / 64=2/\b3 / 64=2/\65536<=(b0 - 240) * 262144+(b1 - 128) * 4096+(b2 - 128) * 64+(b3 - 128)/\(b0 - 240) * 262144+(b1 - 128) * 4096+(b2 - 128) * 64+(b3 - 128)<=1114111
theorem Q9 (a b:UInt8) (h:192<=a.toNat/\a.toNat<224):(qU [a,b] 2=true↔ui a.toNat b.toNat)/\(ui a.toNat b.toNat->qU [a] 2=true):=by
 have:=b.toNat_lt;unfold ui qU ki ww vJ;simp only [Nat.reduceSub,zL,qY,N2,zc3,List.getD_cons_zero,List.getD_cons_succ,if_true];constructor
 . by_cases g:(b.toNat:Int)<128\/191<(b.toNat:Int)
   . simp [g];omega
   . simp [g];omega
 . intro h;simp;omega
theorem pM (lo hi least:Int):ki lo hi least=true↔¬(55296<=max lo least/\min hi 1114111<=57343)/\max lo least<=min hi 1114111:=by unfold ki;split <;> simp_all
theorem Zq (a b c:UInt8) (h:224<=a.toNat/\a.toNat<240):(qU [a,b,c] 3=true↔pH a.toNat b.toNat c.toNat)/\(pH a.toNat b.toNat c.toNat->qU [a] 3=true/\qU [a,b] 3=true):=by
 have d:=b.toNat_lt;have e:=c.toNat_lt;unfold pH qU ww vJ;simp only [Nat.reduceSub,zL,qY,N2,zc3,List.getD_cons_zero,List.getD_cons_succ];generalize a.toNat=x at *;generalize b.toNat=y at *;generalize c.toNat=z at *;by_cases g1:(y:Int)<128\/191<(y:Int)
 . simp [g1];omega
 . by_cases g2:(z:Int)<128\/191<(z:Int)
   . simp [g1,g2];omega
   . simp only [Nat.reduceAdd,Nat.reduceLT,if_true,g1,g2,zd4,pM,show ¬(3:Nat)=2 by decide];constructor
     . constructor
       . intro h;omega
       . intro h;omega
     . intro h;constructor <;> omega
theorem Zz (a b c d:UInt8) (h:240<=a.toNat/\a.toNat<=247):(qU [a,b,c,d] 4=true↔pU a.toNat b.toNat c.toNat d.toNat)/\(pU a.toNat b.toNat c.toNat d.toNat->qU [a] 4=true/\qU [a,b] 4=true/\qU [a,b,c] 4=true):=by
 have e:=b.toNat_lt;have f:=c.toNat_lt;have g:=d.toNat_lt;unfold pU qU ww vJ;simp only [Nat.reduceSub,zL,qY,N2,zc3,List.getD_cons_zero,List.getD_cons_succ];generalize a.toNat=x at *;generalize b.toNat=y at *;generalize c.toNat=z at *;generalize d.toNat=u at *;by_cases g1:(y:Int)<128\/191<(y:Int)
 . simp [g1];omega
 . by_cases g2:(z:Int)<128\/191<(z:Int)
   . simp [g1,g2];omega
   . by_cases g3:(u:Int)<128\/191<(u:Int)
     . simp [g1,g2,g3];omega
     . simp only [Nat.reduceAdd,Nat.reduceLT,if_true,g1,g2,g3,zd4,pM,show ¬(4:Nat)=2 by decide,show ¬(4:Nat)=3 by decide];constructor
       . constructor
         . intro h;omega
         . intro h;omega
       . intro h;refine ⟨?_,?_,?_⟩ <;> omega
structure Chn (H T:Nat) (L:List Value) (one:Array Value) (i:Nat) (d:Nat->Prop) (w':World) (y0 y1 y2 y3:Value):Prop where
 o1:d 5->d 0
 o2:d 8->d 5/\d 7
 own0:d 0->¬d 5->w'.ownsRow H T 2 y0 0 []
 own1:d 5->¬d 8->w'.ownsRow H T 2 y1 i L
 row:d 7->¬d 8->∃b,y2=.slice (some ⟨b,0,none⟩) 1 1/\H<=b/\w'.heap[b]?=some (.cells one T (0,0))/\(d 0->¬d 5->y0.ownBlock≠some b)/\(d 5->y1.ownBlock≠some b)
 own2:d 8->w'.ownsRow H T 2 y3 (i+1) (L ++ one.toList)
variable {H T i:Nat} {L:List Value} {one:Array Value} {d:Nat->Prop} {w' w2:World} {y0 y1 y2 y3:Value}
end Go.Proofs.YthgembbgcbaghaaGreatDoor
