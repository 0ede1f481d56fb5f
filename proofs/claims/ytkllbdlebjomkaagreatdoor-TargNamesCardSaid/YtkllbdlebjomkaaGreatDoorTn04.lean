import Derived.Test.YtkllbdlebjomkaaGreatDoorTn03
set_option maxHeartbeats 1000000

namespace Go.Proofs.YtkllbdlebjomkaaGreatDoor
open Go.RowKit
def xw (v0 v1 v2 v3 v4 v5 v6:Value):Nat->Value
 | 0=>v0|1=>v1|2=>v2|3=>v3|4=>v4|5=>v5|_=>v6
theorem ko (w:World) (v0 v1 v2 v3 v4 a b:Value) (t:Nat):(w.alloc (.cells #[v0,v1,v2,v3,v4,a,b] t)).rowIs w.heap.size t 7 (xw v0 v1 v2 v3 v4 a b):=xS rfl
theorem kq {w:World} {b t:Nat} {v0 v1 v2 v3 v4 j k:Value} (h:w.rowIs b t 7 (xw v0 v1 v2 v3 v4 j k)):w.heap[b]?=some (.cells #[v0,v1,v2,v3,v4,j,k] t (0,0)):=by obtain ⟨c,d,g,f⟩:=h;have e:c=#[v0,v1,v2,v3,v4,j,k]:=(by apply Array.ext (by simp [g]);intro i h1 h2;have:=f i (by omega);rw [K7 h1] at this;have a:=X2 this;rw [a];rcases i with _|_|_|_|_|_|_|i <;> first|rfl|(simp at h2;omega));rw [d,e]
theorem sh {W:World} {b t:Nat} {f:Nat->Value} (v0 v1 v2 v3 v4 a c:Value) (h:W.rowIs b t 7 f):(((((((W.setCell ⟨b,0,none⟩ v0).setCell ⟨b,1,none⟩ v1).setCell ⟨b,2,none⟩ v2).setCell ⟨b,3,none⟩ v3).setCell ⟨b,4,none⟩ v4).setCell ⟨b,5,none⟩ a).setCell ⟨b,6,none⟩ c).rowIs b t 7 (xw v0 v1 v2 v3 v4 a c):=by refine (((((((h.set 0 v0).set 1 v1).set 2 v2).set 3 v3).set 4 v4).set 5 a).set 6 c).congr fun j hj=>?_;rcases j with _|_|_|_|_|_|_|j <;> first|rfl|omega
theorem gU {B:Nat} {a W:World} {b:Nat} (v0 v1 v2 v3 v4 d e:Value) (h:Below B a W) (c:B<=b):Below B a (((((((W.setCell ⟨b,0,none⟩ v0).setCell ⟨b,1,none⟩ v1).setCell ⟨b,2,none⟩ v2).setCell ⟨b,3,none⟩ v3).setCell ⟨b,4,none⟩ v4).setCell ⟨b,5,none⟩ d).setCell ⟨b,6,none⟩ e):=(((((((h.setCell c v0).setCell c v1).setCell c v2).setCell c v3).setCell c v4).setCell c d).setCell c e)
theorem tu {W:World} {b k:Nat} (v0 v1 v2 v3 v4 c d:Value) (a:k≠b):(((((((W.setCell ⟨b,0,none⟩ v0).setCell ⟨b,1,none⟩ v1).setCell ⟨b,2,none⟩ v2).setCell ⟨b,3,none⟩ v3).setCell ⟨b,4,none⟩ v4).setCell ⟨b,5,none⟩ c).setCell ⟨b,6,none⟩ d).heap[k]?=W.heap[k]?:=by rw [Z9 _ _ _ _ a,Z9 _ _ _ _ a,Z9 _ _ _ _ a,Z9 _ _ _ _ a,Z9 _ _ _ _ a,Z9 _ _ _ _ a,Z9 _ _ _ _ a]
theorem tc {W:World} {b:Nat} {v0 v1 v2 v3 v4 a c:Value}:(((((((W.setCell ⟨b,0,none⟩ v0).setCell ⟨b,1,none⟩ v1).setCell ⟨b,2,none⟩ v2).setCell ⟨b,3,none⟩ v3).setCell ⟨b,4,none⟩ v4).setCell ⟨b,5,none⟩ a).setCell ⟨b,6,none⟩ c).heap.size=W.heap.size:=by simp [World.setCell]
def qQ (v0 v1 v2 v3 v4 v5 v6 v7 v8:Value):Nat->Value
 | 0=>v0|1=>v1|2=>v2|3=>v3|4=>v4|5=>v5|6=>v6|7=>v7|_=>v8
theorem pR (w:World) (v0 v1 v2 v3 v4 a b c d:Value) (t:Nat):(w.alloc (.cells #[v0,v1,v2,v3,v4,a,b,c,d] t)).rowIs w.heap.size t 9 (qQ v0 v1 v2 v3 v4 a b c d):=xS rfl
theorem zD {w:World} {b t:Nat} {v0 v1 v2 v3 v4 j k l m:Value} (h:w.rowIs b t 9 (qQ v0 v1 v2 v3 v4 j k l m)):w.heap[b]?=some (.cells #[v0,v1,v2,v3,v4,j,k,l,m] t (0,0)):=by obtain ⟨c,d,g,f⟩:=h;have e:c=#[v0,v1,v2,v3,v4,j,k,l,m]:=(by apply Array.ext (by simp [g]);intro i h1 h2;have:=f i (by omega);rw [K7 h1] at this;have a:=X2 this;rw [a];rcases i with _|_|_|_|_|_|_|_|_|i <;> first|rfl|(simp at h2;omega));rw [d,e]
theorem mJ {W:World} {b t:Nat} {f:Nat->Value} (v0 v1 v2 v3 v4 a c d e:Value) (h:W.rowIs b t 9 f):(((((((((W.setCell ⟨b,0,none⟩ v0).setCell ⟨b,1,none⟩ v1).setCell ⟨b,2,none⟩ v2).setCell ⟨b,3,none⟩ v3).setCell ⟨b,4,none⟩ v4).setCell ⟨b,5,none⟩ a).setCell ⟨b,6,none⟩ c).setCell ⟨b,7,none⟩ d).setCell ⟨b,8,none⟩ e).rowIs b t 9 (qQ v0 v1 v2 v3 v4 a c d e):=by refine (((((((((h.set 0 v0).set 1 v1).set 2 v2).set 3 v3).set 4 v4).set 5 a).set 6 c).set 7 d).set 8 e).congr fun j hj=>?_;rcases j with _|_|_|_|_|_|_|_|_|j <;> first|rfl|omega
theorem vU {B:Nat} {a W:World} {b:Nat} (v0 v1 v2 v3 v4 d e f g:Value) (h:Below B a W) (c:B<=b):Below B a (((((((((W.setCell ⟨b,0,none⟩ v0).setCell ⟨b,1,none⟩ v1).setCell ⟨b,2,none⟩ v2).setCell ⟨b,3,none⟩ v3).setCell ⟨b,4,none⟩ v4).setCell ⟨b,5,none⟩ d).setCell ⟨b,6,none⟩ e).setCell ⟨b,7,none⟩ f).setCell ⟨b,8,none⟩ g):=(((((((((h.setCell c v0).setCell c v1).setCell c v2).setCell c v3).setCell c v4).setCell c d).setCell c e).setCell c f).setCell c g)
theorem nJ {W:World} {b k:Nat} (v0 v1 v2 v3 v4 c d e f:Value) (a:k≠b):(((((((((W.setCell ⟨b,0,none⟩ v0).setCell ⟨b,1,none⟩ v1).setCell ⟨b,2,none⟩ v2).setCell ⟨b,3,none⟩ v3).setCell ⟨b,4,none⟩ v4).setCell ⟨b,5,none⟩ c).setCell ⟨b,6,none⟩ d).setCell ⟨b,7,none⟩ e).setCell ⟨b,8,none⟩ f).heap[k]?=W.heap[k]?:=by rw [Z9 _ _ _ _ a,Z9 _ _ _ _ a,Z9 _ _ _ _ a,Z9 _ _ _ _ a,Z9 _ _ _ _ a,Z9 _ _ _ _ a,Z9 _ _ _ _ a,Z9 _ _ _ _ a,Z9 _ _ _ _ a]
theorem ua {W:World} {b:Nat} {v0 v1 v2 v3 v4 a c d e:Value}:(((((((((W.setCell ⟨b,0,none⟩ v0).setCell ⟨b,1,none⟩ v1).setCell ⟨b,2,none⟩ v2).setCell ⟨b,3,none⟩ v3).setCell ⟨b,4,none⟩ v4).setCell ⟨b,5,none⟩ a).setCell ⟨b,6,none⟩ c).setCell ⟨b,7,none⟩ d).setCell ⟨b,8,none⟩ e).heap.size=W.heap.size:=by simp [World.setCell]
theorem bY {W:World} {b:Nat} {v0 v1 v2 v3 v4 a:Value}:((((((W.setCell ⟨b,0,none⟩ v0).setCell ⟨b,1,none⟩ v1).setCell ⟨b,2,none⟩ v2).setCell ⟨b,3,none⟩ v3).setCell ⟨b,4,none⟩ v4).setCell ⟨b,5,none⟩ a).heap.size=W.heap.size:=by simp [World.setCell]
theorem td {α:Type} {f:α->Bool} {l:List α} {n:Nat} (b:l.length<=n) (h:∀j (a:j<l.length),j<n->f l[j]=false):l.any f=false:=by rw [List.any_eq_false];intro x hx;obtain ⟨j,a,rfl⟩:=Y0 hx;rw [h j a (by omega)];decide
theorem oi {α:Type} {f:α->Bool} {l:List α} {k:Nat} (a:k<l.length) (h:f l[k]=true):l.any f=true :=
 List.any_eq_true.2 ⟨_,J8 a,h⟩
def xo (v0 v1 v2 v3:Value):Nat->Value
 | 0=>v0|1=>v1|2=>v2|_=>v3
theorem pN (w:World) (v0 v1 v2 v3:Value) (t:Nat):(w.alloc (.cells #[v0,v1,v2,v3] t)).rowIs w.heap.size t 4 (xo v0 v1 v2 v3):=xS rfl
theorem gM {w:World} {b t:Nat} {v0 v1 v2 v3:Value} (h:w.rowIs b t 4 (xo v0 v1 v2 v3)):w.heap[b]?=some (.cells #[v0,v1,v2,v3] t (0,0)):=by obtain ⟨c,d,g,f⟩:=h;have e:c=#[v0,v1,v2,v3]:=(by apply Array.ext (by simp [g]);intro i h1 h2;have:=f i (by omega);rw [K7 h1] at this;have a:=X2 this;rw [a];rcases i with _|_|_|_|i <;> first|rfl|(simp at h2;omega));rw [d,e]
theorem Qj {W:World} {b t:Nat} {f:Nat->Value} (v0 v1 v2 v3:Value) (h:W.rowIs b t 4 f):((((W.setCell ⟨b,0,none⟩ v0).setCell ⟨b,1,none⟩ v1).setCell ⟨b,2,none⟩ v2).setCell ⟨b,3,none⟩ v3).rowIs b t 4 (xo v0 v1 v2 v3):=by refine ((((h.set 0 v0).set 1 v1).set 2 v2).set 3 v3).congr fun j hj=>?_;rcases j with _|_|_|_|j <;> first|rfl|omega
theorem l4 {B:Nat} {a W:World} {b:Nat} (v0 v1 v2 v3:Value) (h:Below B a W) (c:B<=b):Below B a ((((W.setCell ⟨b,0,none⟩ v0).setCell ⟨b,1,none⟩ v1).setCell ⟨b,2,none⟩ v2).setCell ⟨b,3,none⟩ v3):=((((h.setCell c v0).setCell c v1).setCell c v2).setCell c v3)
theorem QN {W:World} {b k:Nat} (v0 v1 v2 v3:Value) (a:k≠b):((((W.setCell ⟨b,0,none⟩ v0).setCell ⟨b,1,none⟩ v1).setCell ⟨b,2,none⟩ v2).setCell ⟨b,3,none⟩ v3).heap[k]?=W.heap[k]?:=by rw [Z9 _ _ _ _ a,Z9 _ _ _ _ a,Z9 _ _ _ _ a,Z9 _ _ _ _ a]
theorem QS {W:World} {b:Nat} {v0 v1 v2 v3:Value}:((((W.setCell ⟨b,0,none⟩ v0).setCell ⟨b,1,none⟩ v1).setCell ⟨b,2,none⟩ v2).setCell ⟨b,3,none⟩ v3).heap.size=W.heap.size:=by simp [World.setCell]
def QA (w:World) (b off m:Nat):Prop:=∃cs t,w.heap[b]?=some (.cells cs t (0,0))/\off+m<=cs.size
theorem oo:(Tryz.prog.info? 156).map (fun i=>(i.zero,i.size,i.bytes))=some (some (.agg #[.string ⟨#[]⟩,.string ⟨#[]⟩]),2,32):=by kernel_rfl
mutual
def JV.sameB:JV->JV->Bool
 | .mk k n t ns xs,.mk k' n' t' ns' xs'=>decide (k=k') && (decide (n=n') && (decide (t=t') && (decide (ns=ns') && (decide (xs.length=xs'.length) && JV.sameL xs xs'))))
def JV.sameL:List JV->List JV->Bool
 | [],_=>true
 | _ :: _,[]=>true
 | x :: xs,y :: ys=>JV.sameB x y && JV.sameL xs ys
end
theorem JV.sameB_eq (v u:JV):v.sameB u=(decide (v.kind=u.kind) && (decide (v.n=u.n) && (decide (v.t=u.t) && (decide (v.names=u.names) && (decide (v.items.length=u.items.length) && JV.sameL v.items u.items))))):=by cases v;cases u;rw [JV.sameB];rfl
mutual
theorem JV.sameB_iff:∀(v u:JV),v.sameB u=true↔v=u
 | .mk k n t ns xs,.mk k' n' t' ns' xs'=>by
  rw [JV.sameB];simp only [J5,J1];constructor
  . rintro ⟨rfl,rfl,rfl,rfl,hl,hs⟩;rw [(JV.sameL_iff xs xs' hl).1 hs]
  . intro h;injection h with h1 h2 h3 h4 h5
    subst h1 h2 h3 h4 h5;exact ⟨rfl,rfl,rfl,rfl,rfl,(JV.sameL_iff xs xs rfl).2 rfl⟩
theorem JV.sameL_iff:∀(xs ys:List JV),xs.length=ys.length->(JV.sameL xs ys=true↔xs=ys)
 | [],[],_=>by simp [JV.sameL]
 | [],_ :: _,h=>by simp at h
 | _ :: _,[],h=>by simp at h
 | x :: xs,y :: ys,h=>by rw [JV.sameL,J5,JV.sameB_iff x y,JV.sameL_iff xs ys (by simpa using h)];simp
end
theorem JV.sameL_take:∀(xs ys:List JV) (k:Nat) (h:k<xs.length) (h':k<ys.length),JV.sameL (xs.take (k+1)) (ys.take (k+1))=(JV.sameL (xs.take k) (ys.take k) && xs[k].sameB ys[k])
 | x :: xs,y :: ys,0,_,_=>by simp [JV.sameL]
 | x :: xs,y :: ys,k+1,h,h'=>by simp only [N2,JV.sameL,G3];rw [JV.sameL_take xs ys k (by simpa using h) (by simpa using h'),Bool.and_assoc]
theorem JV.sameL_bad:∀(xs ys:List JV) (k:Nat) (h:k<xs.length) (h':k<ys.length),xs[k].sameB ys[k]=false->JV.sameL xs ys=false
 | x :: xs,y :: ys,0,_,_,e=>by simp only [N6] at e;simp [JV.sameL,e]
 | x :: xs,y :: ys,k+1,h,h',e=>by simp only [G3] at e;simp [JV.sameL,JV.sameL_bad xs ys k (by simpa using h) (by simpa using h') e]
theorem pi {a b:ByteArray} (h:a.toList=b.toList):a=b:=by rw [X4,X4] at h;exact ByteArray.ext (Array.toList_inj.1 h)
theorem su (l:List UInt8) (k:Nat) (h:k<l.length) (n:Int):zk (l.drop k) n=if 48<=l[k].toNat/\l[k].toNat<=57 then zk (l.drop (k+1)) (10 * n+((l[k].toNat:Int) - 48)) else -1:=by rw [V3 h,zk]
theorem pS (s:ByteArray) (w:World) (u:s.size<=4):Calls Tryz.prog 64 #[.string s] w fun e w'=>e=.returned (.int .i64 (zk s.data.toList 0))/\w'=w:=by
 go_enter Tryz.func64,Tryz.ntmps64;go_wp2
 go_loop [3,4,7] (fun n _ i=>∃k:Nat,∃m:Int,k<=s.size/\i=.int .i64 k/\n=.int .i64 m/\0<=m/\m<10 ^ k/\zk s.data.toList 0=zk (s.data.toList.drop k) m) (fun _ _ i=>s.size - (intOf i).toNat)
 case atStart=>exact ⟨0,0,J0 _,rfl,rfl,by omega,by decide,rfl⟩
 case round =>
  obtain ⟨k,m,q,rfl,rfl,l,o,g⟩:=hrel;have b:=U g;clear g;by_cases hlt:k<s.size
  . have r:(10:Int) ^ k<=1000:=by
     have:k=0\/k=1\/k=2\/k=3:=by omega
     rcases this with rfl|rfl|rfl|rfl <;> decide
    have j:(10:Int) ^ (k+1)=10 * 10 ^ k:=by rw [Int.pow_succ];omega
    have c:=U (su s.data.toList k (by rw [G8];exact hlt) m);have h:=O0 (s.data.toList[k]'(by rw [G8];exact hlt)=s[k]) rfl;rw [h.o] at c;have p:s[k].toNat<256:=s[k].toNat_lt;by_cases g1:s[k].toNat<48
    . have d:decide ((s[k].toNat:Int)<48)=true:=by simp;omega
      have a:=U (show zk s.data.toList 0 = -1 by rw [b.o,c.o,Z6 (by omega)]);go_wp2;go_ret;exact ⟨zG (by rw [a.o]),rfl⟩
    . have d:decide ((s[k].toNat:Int)<48)=false:=by simp;omega
      by_cases g2:57<s[k].toNat
      . have f:decide ((57:Int)<s[k].toNat)=true:=by simp;omega
        have a:=U (show zk s.data.toList 0 = -1 by rw [b.o,c.o,Z6 (by omega)]);go_wp2;go_ret;exact ⟨zG (by rw [a.o]),rfl⟩
      . have f:decide ((57:Int)<s[k].toNat)=false:=by simp;omega
        have a:=U (show zk s.data.toList 0=zk (s.data.toList.drop (k+1)) (10 * m+((s[k].toNat:Int) - 48)) by rw [b.o,c.o,J3 (by omega)]);go_wp2
        go_round
        case rel=>exact ⟨k+1,10 * m+((s[k].toNat:Int) - 48),by omega,by go_num,by go_num,by omega,by omega,a.o⟩
        case measure=>simp [intOf];omega
  . obtain rfl:k=s.size:=by omega
    have a:=U (show zk s.data.toList 0=m by rw [b.o,M7 (by rw [G8];exact J2 _)];rfl);go_wp2;go_ret;exact ⟨zG (by rw [a.o]),rfl⟩
open Go
section
variable {P:Program} {ops:Array Oper} {md:Region.Mode} {Q:Exit->Act->World->Prop}
theorem cC {n:Nat} {listed:Array Bool} (h:ul md ops n=true) (g:HeadInv md ops n listed) (j:n<=ops.size) :
 ∀i,i<n->listed.getD i false=false->Region.ready md ops listed≠[]:=by
 intro i
 induction i using Nat.strongRecOn with
 | _ i ih =>
  intro hi hun h0;have a:=X9.1 h i (List.mem_range.2 hi);cases ho:ops[i]? with
  | none=>rw [ho] at a;cases a
  | some o =>
   rw [ho] at a;by_cases hall:∀e ∈ o.after,Region.binds md e=true->listed.getD e.on false=true
   . have:i ∈ Region.ready md ops listed:=mem_ready.2 ⟨getD_in (by rw [g.size];omega) hun,o,ho,hall⟩;rw [h0] at this;cases this
   . have:∃e,e ∈ o.after/\Region.binds md e=true/\listed.getD e.on false=false:=by
      apply Classical.byContradiction;intro hne;apply hall;intro e c b;cases d:listed.getD e.on false with
      | true=>rfl
      | false=>exact absurd ⟨e,c,b,d⟩ hne
     obtain ⟨e,c,b,d⟩:=this;have f:=Array.all_eq_true'.1 a e c;simp only [b,Bool.not_true,Bool.false_or,J1] at f;exact ih e.on f (by omega) d h0
theorem pA {n g:Nat} (I:(Nat->Prop)->Act->World->Prop) (p:n=ops.size) (m:ul md ops n=true)
 (l:∀d a w,I d a w->∀i,i<n->¬d i->mX md ops d i->wpOp P ops Q i (I (fun j=>j=i\/d j)) a w)
 (k:∀listed a w,HeadInv md ops n listed->(∀i,i<n->listed.getD i false=true)->I (xf listed) a w->wpAny P md ops Q g listed a w) :
 ∀(f:Nat) (listed:Array Bool) (a:Act) (w:World),HeadInv md ops n listed->jC n listed=f->I (xf listed) a w->wpAny P md ops Q (f+g) listed a w
 | 0,listed,a,w,inv,h0,h=>by rw [za9];exact k listed a w inv (bQ h0) h
 | f+1,listed,a,w,inv,h0,h=>by
  rw [show f+1+g=(f+g)+1 by omega];obtain ⟨i,hi,hl⟩:=pL (n:=n) (listed:=listed) (by omega);refine ⟨fun h1=>absurd h1 (cC m inv (by omega) i hi hl),fun j hj=>?_⟩;obtain ⟨hun,oj,hoj,hall⟩:=mem_ready.1 hj;have hjn:j<n:=by rw [p];exact (M6.1 hoj).1
  have c:j<listed.size:=by rw [inv.size];omega
  have b:=getD_both hun;refine wpOp_mono (fun a' w' h'=>pA I p m l k f _ a' w' (inv.set hj hjn) ?_ ?_) (l (xf listed) a w h j hjn ?_ ?_)
  . have:=pD hjn c b;omega
  . rw [pM c];exact h'
  . unfold xf;rw [b];simp
  . intro o ho e he hb;have:o=oj:=X2 (ho.symm.trans hoj);subst this;exact hall e he hb
theorem f9 {r:Nat} {a:Act} {w:World} {l:List Oper} (I:(Nat->Prop)->Act->World->Prop) (q:P.follows .mixedOrders=true) (n:Nat) (o:l.length=n)
 (p:(ul .any l.toArray n && Region.seqB .any l.toArray 0 n (ve n n))=true)
 (first:I (fun _=>False) a { w with drawn:=w.drawn+1 })
 (step:∀d a w,I d a w->∀i,i<n->¬d i->mX .any l.toArray d i->wpOp P l.toArray Q i (I (fun j=>j=i\/d j)) a w)
 (last:∀d a w,(∀i,i<n->d i)->I d a w->wpList P l.toArray Q [] a w):(Code.region r l.toArray true).wp P Q a w:=by
 subst o;simp only [J5] at p;obtain ⟨e,h⟩:=p;refine wp_region_any q ?_;have b:HeadInv .any l.toArray l.length (Array.replicate l.toArray.size false) :=
  ⟨by simp,fun j oj _ o=>(by rw [getD_replicate_false] at o;cases o),fun t _ ht=>getD_in (by simpa using ht) (getD_replicate_false _ _)⟩
 have c:xf (Array.replicate l.toArray.size false)=fun _=>False:=(by funext i;unfold xf;rw [getD_replicate_false];simp);have m:jC l.length (Array.replicate l.toArray.size false)=l.length:=(by unfold jC;rw [List.filter_eq_self.2 (fun i _=>by rw [getD_replicate_false];rfl),List.length_range]);have:=pA (P:=P) (Q:=Q) (g:=0) I (by simp) e step (fun listed a' w' inv hall hI=>by
  have f:=bJ inv hall;have k:=last (xf listed) a' w' hall hI;have:=wpAny_of_seq (P:=P) (md:=.any) (ops:=l.toArray) (Q':=Q) [] l.length listed a' w' (fun j=>by simp) (by rw [f];simpa using h) k;simpa using this) _ _ a { w with drawn:=w.drawn+1 } b m (by rw [c];exact first)
 simpa using this
end
def upd (f:Nat->Value) (k:Nat) (y:Value):Nat->Value:=fun i=>if i=k then y else f i
def yC (wb:World) (V:List MP) (s:Nat) (d:Nat->Prop) (w':World) (f:Nat->Value):Prop :=
 O5 wb w'/\∀(j:Nat) (m:MP),V[j]?=some m->d j->m.p w' (f (s+j))
theorem yC.first (a:World) (V:List MP) (s:Nat) (f:Nat->Value):yC a V s (fun _=>False) a.drew f:=⟨(Z0 _ _).drew,fun _ _ _ hd=>hd.elim⟩
theorem yC.get {c w':World} {V:List MP} {s:Nat} {d:Nat->Prop} {f:Nat->Value} (h:yC c V s d w' f) (j:Nat) (b:d j) (m:MP) (a:V[j]?=some m):m.p w' (f (s+j)):=h.2 j m a b
theorem yC.did {c w' a:World} {V:List MP} {s:Nat} {d:Nat->Prop} {f:Nat->Value} (h:yC c V s d w' f) (b:O5 w' a) (j:Nat) (y:Value) (m:MP) (g:V[j]?=some m) (k:m.p a y):yC c V s (fun i=>i=j\/d i) a (upd f (s+j) y):=by
 refine ⟨h.1.trans (b.mono h.1.size),fun i m' hm hd=>?_⟩;unfold upd;by_cases e:i=j
 . subst e;rw [g] at hm;cases hm;rw [J3 rfl];exact k
 . rw [Z6 (by omega)];exact m'.mono _ _ _ b (h.2 i m' hm (hd.resolve_left e))
theorem yC.same {a w':World} {V:List MP} {s:Nat} {d:Nat->Prop} {f:Nat->Value} (h:yC a V s d w' f) (j:Nat) (y:Value) (m:MP) (b:V[j]?=some m) (c:m.p w' y):yC a V s (fun i=>i=j\/d i) w' (upd f (s+j) y):=h.did (Z0 _ _) j y m b c
theorem yC.new {a w':World} {V:List MP} {s:Nat} {d:Nat->Prop} {f:Nat->Value} (h:yC a V s d w' f) (o:Obj) (j:Nat) (y:Value) (m:MP) (b:V[j]?=some m) (c:m.p (w'.alloc o) y):yC a V s (fun i=>i=j\/d i) (w'.alloc o) (upd f (s+j) y):=h.did O4 j y m b c
