import Derived.Laws.AppendOwnNone
import Derived.Test.YthgembbgcbaghaaGreatDoorDn02

namespace Go.Proofs.YthgembbgcbaghaaGreatDoor
open Go.RowKit
def ya (k:Key2):List Value:=[.string k.1,.string k.2]
theorem pP {M:List Key2} (i:Nat) (hi:i<M.length):(M.flatMap ya)[i * 2]?=some (.string M[i].1)/\(M.flatMap ya)[i * 2+1]?=some (.string M[i].2):=by
 induction M generalizing i with
 | nil=>simp at hi
 | cons k r ih =>
  rw [List.flatMap_cons];rcases i with _|i
  . exact ⟨rfl,rfl⟩
  . have:=ih i (by simpa using hi);rw [X8 (by simp [ya];omega),X8 (by simp [ya];omega)];have a:(i+1) * 2 - (ya k).length=i * 2:=by simp [ya];omega
    have b:(i+1) * 2+1 - (ya k).length=i * 2+1:=by simp [ya];omega
    rw [a,b];exact this
theorem pF {w:World} {k e:Nat} {v:Value} {n:Nat} {M:List Key2} (h:w.ownsRow k e 2 v n (M.flatMap ya)) (l:n=M.length) :
 ∃a c,v=.slice a M.length c/\xv w k w.heap.size a M:=by
 subst l;rcases h.2 with ⟨rfl,h0⟩|⟨g,cap,cur,rfl,hg,hh,hc,hm,hs,ht⟩
 . exact ⟨none,0,by rw [h0],.inl (J4 h0)⟩
 . refine ⟨_,_,rfl,.inr ⟨g,0,rfl,hg,qz hh,fun i hi=>?_⟩⟩;have f:∀j,(⟨g,0,none⟩:Addr).add j=⟨g,0+j,none⟩:=fun j=>by unfold Addr.add;split <;> simp_all
   have b:=h.cells (g:=g) rfl _ _ (pP i hi).1;have d:=h.cells (g:=g) rfl _ _ (pP i hi).2;rw [f] at b d;exact ⟨b,by rw [Nat.add_assoc];exact d⟩
theorem below_grown {B:Nat} {W w w':World} {v:Value} (a:Below B W w) (f:B<=w.heap.size) (c:w.grownBy w' v.ownBlock) (d:∀b,v.ownBlock=some b->B<=b):Below B W w':=by refine ⟨by rw [c.os,a.os],by rw [c.tape,a.tape],by rw [c.output,a.output],Z5 a.size c.size,fun b hlt=>?_⟩;rw [c.block b (by omega) (fun e=>by have:=d b e.symm;omega)];exact a.block b hlt
def wq (B T:Nat) (cs:Array Value) (w:World) (x:Value):Prop:=∃b,B<=b/\x=.pointer (some ⟨b,0,none⟩)/\w.heap[b]?=some (.cells cs T (0,0))
theorem wq.mono {B T:Nat} {cs:Array Value} {w w':World} {x:Value} (e:O5 w w') (h:wq B T cs w x):wq B T cs w' x:=by obtain ⟨b,c,d,a⟩:=h;exact ⟨b,c,d,by rw [e.block _ (qz a)];exact a⟩
theorem wq.made {w:World} {B T:Nat} (cs:Array Value) (a:B<=w.heap.size):wq B T cs (w.alloc (.cells cs T)) (.pointer (some ⟨w.heap.size,0,none⟩)):=⟨_,a,rfl,Z4 w _⟩
def MP.blk (B T:Nat) (cs:Array Value):MP:=⟨wq B T cs,fun _ _ _ hb h=>h.mono hb⟩
mutual
def JV.solid:JV->Bool
 | .mk k _ _ ns xs=>decide (k≠0) && ns.all (fun n=>decide (n≠⟨#[]⟩)) && JV.solids xs
def JV.solids:List JV->Bool
 | []=>true
 | x :: r=>JV.solid x && JV.solids r
end
def zg:Array Value:=#[.int .u8 0,.int .i64 0,.string ⟨#[]⟩,.slice none 0 0,.slice none 0 0]
theorem dD {w:World} {b a T:Nat} {fr:Nat × Nat} {t:ByteArray} (c:w.heap[b]?=some (.cells zg T fr)) (h:w.cell? ⟨b,a,none⟩=some (.string t)):t=⟨#[]⟩:=by
 have e:w.cell? ⟨b,a,none⟩=zg[a]?:=by simp [World.cell?,c]
 rw [e] at h
 match a,h with
 | 0,h=>simp [zg] at h
 | 1,h=>simp [zg] at h
 | 2,h=>simpa [zg] using h.symm
 | 3,h=>simp [zg] at h
 | 4,h=>simp [zg] at h
 | n+5,h=>simp [zg] at h
theorem dL {w:World} {b a T:Nat} {fr:Nat × Nat} {k:Int} (c:w.heap[b]?=some (.cells zg T fr)) (h:w.cell? ⟨b,a,none⟩=some (.int .u8 k)):k=0:=by
 have e:w.cell? ⟨b,a,none⟩=zg[a]?:=by simp [World.cell?,c]
 rw [e] at h
 match a,h with
 | 0,h=>simpa [zg] using h.symm
 | 1,h=>simp [zg] at h
 | 2,h=>simp [zg] at h
 | 3,h=>simp [zg] at h
 | 4,h=>simp [zg] at h
 | n+5,h=>simp [zg] at h
theorem qy.skip {w w':World} {lo hi b T:Nat} {fr:Nat × Nat} {a:Option Addr} {l:List ByteArray} (d:w.heap[b]?=some (.cells zg T fr)) (f:∀x,x≠b->w'.heap[x]?=w.heap[x]?) (c:l.all (fun n=>decide (n≠⟨#[]⟩))=true) (h:qy w lo hi a l):qy w' lo hi a l:=by
 rcases h with h|⟨b0,off,ha,h1,h2,hc⟩
 . exact .inl h
 . by_cases e:b0=b
   . subst e;cases l with
     | nil=>exact .inl rfl
     | cons x r => have:=dD d (hc 0 (by simp));simp only [List.all_cons,Q0,Z7] at c;exact absurd this c.1
   . exact .inr ⟨b0,off,ha,h1,h2,fun i hi=>(J9 (w:=w) (f b0 e)).trans (hc i hi)⟩
mutual
theorem Rep.skip {w w':World} {lo hi b T:Nat} {fr:Nat × Nat} (a:w.heap[b]?=some (.cells zg T fr)) (c:∀x,x≠b->w'.heap[x]?=w.heap[x]?):∀(v:JV) (x:Value),v.solid=true->Rep w lo hi v x->Rep w' lo hi v x
 | .mk k n t ns xs,x,hs,h=>by
  unfold JV.solid at hs;simp only [Q0] at hs;unfold Rep at h ⊢;obtain ⟨an,cn,ai,ci,rfl,h3,h4,h5,h6⟩:=h;refine ⟨an,cn,ai,ci,rfl,h3,h4,h5.skip a c hs.1.2,?_⟩;rcases h6 with h6|⟨b0,off,ha,hb0,hb1,hu,hr⟩
  . exact .inl h6
  . by_cases hx:xs=[]
    . exact .inl hx
    . have hne:b0≠b:=fun e=>by
       subst e;cases xs with
       | nil=>exact hx rfl
       | cons y r => unfold zE at hr;obtain ⟨⟨c0,c1,c2,c3,c4,e0,-,-,-,-,-,hv⟩,-⟩:=hr;obtain ⟨k',n',t',ns',xs'⟩:=y;unfold Rep at hv;obtain ⟨_,_,_,_,hv,-⟩:=hv;simp only [K3,K8,V4] at hv;rw [hv.1] at e0;have:=dL a e0;have h2:=hs.2;unfold JV.solids at h2;unfold JV.solid at h2;simp only [Q0,Z7] at h2;exact h2.1.1.1 this
      exact .inr ⟨b0,off,ha,hb0,hb1,hu.carry lz (c b0 hne),zE.skip a c xs b0 off hne hs.2 hr⟩
theorem zE.skip {w w':World} {lo hi b T:Nat} {fr:Nat × Nat} (e:w.heap[b]?=some (.cells zg T fr)) (d:∀x,x≠b->w'.heap[x]?=w.heap[x]?):∀(l:List JV) (c a:Nat),c≠b->JV.solids l=true->zE w lo hi l c a->zE w' lo hi l c a
 | [],_,_,_,_,_=>by unfold zE;trivial
 | v :: r,c,a,hne,hs,h=>by unfold JV.solids at hs;simp only [Q0] at hs;unfold zE at h ⊢;obtain ⟨⟨c0,c1,c2,c3,c4,e0,e1,e2,e3,e4,hf,hv⟩,hr⟩:=h;have hz:w'.frozen? ⟨c,a,none⟩=w.frozen? ⟨c,a,none⟩:=World.frozen?_of_block (w:=w) (d c hne);have hc:∀o,w'.cell? ⟨c,o,none⟩=w.cell? ⟨c,o,none⟩:=fun o=>J9 (w:=w) (d c hne);exact ⟨⟨c0,c1,c2,c3,c4,by rw [hc,e0],by rw [hc,e1],by rw [hc,e2],by rw [hc,e3],by rw [hc,e4],by rw [hz,hf],Rep.skip e d v _ hs.1 hv⟩,zE.skip e d r c (a+5) hne hs.2 hr⟩
end
def vg:Nat->Code->Code
 | 0,c=>c
 | n+1,.seq _ b=>vg n b
 | _+1,_=>.skip
theorem jB (w:World) (o a:Obj):((w.alloc o).alloc a).heap[w.heap.size+1]?=some a:=by have:=Z4 (w.alloc o) a;rwa [show (w.alloc o).heap.size=w.heap.size+1 by simp] at this
theorem ze (w:World) (o a:Obj):((w.alloc o).alloc a).heap[w.heap.size]?=some o:=(J8 _ _ _ (by simp)).trans (Z4 w o)
mutual
def JV.sameB:JV->JV->Bool
 | .mk k n t ns xs,.mk k' n' t' ns' xs'=>decide (k=k') && (decide (n=n') && (decide (t=t') && (decide (ns=ns') && (decide (xs.length=xs'.length) && JV.sameL xs xs'))))
def JV.sameL:List JV->List JV->Bool
 | [],_=>true
 | _ :: _,[]=>true
 | x :: xs,y :: ys=>JV.sameB x y && JV.sameL xs ys
end
mutual
theorem JV.sameB_iff:∀(v u:JV),v.sameB u=true↔v=u
 | .mk k n t ns xs,.mk k' n' t' ns' xs'=>by
  rw [JV.sameB];simp only [Q0,Z7];constructor
  . rintro ⟨rfl,rfl,rfl,rfl,hl,hs⟩;rw [(JV.sameL_iff xs xs' hl).1 hs]
  . intro h;injection h with h1 h2 h3 h4 h5
    subst h1 h2 h3 h4 h5;exact ⟨rfl,rfl,rfl,rfl,rfl,(JV.sameL_iff xs xs rfl).2 rfl⟩
theorem JV.sameL_iff:∀(xs ys:List JV),xs.length=ys.length->(JV.sameL xs ys=true↔xs=ys)
 | [],[],_=>by simp [JV.sameL]
 | [],_ :: _,h=>by simp at h
 | _ :: _,[],h=>by simp at h
 | x :: xs,y :: ys,h=>by rw [JV.sameL,Q0,JV.sameB_iff x y,JV.sameL_iff xs ys (by simpa using h)];simp
end
theorem aT {W:World} {b k:Nat} (v0 v1:Value) (a:k≠b):((W.setCell ⟨b,0,none⟩ v0).setCell ⟨b,1,none⟩ v1).heap[k]?=W.heap[k]?:=by rw [Q5 _ _ _ _ a,Q5 _ _ _ _ a]
theorem ir {W:World} {b:Nat} {v0 v1:Value}:((W.setCell ⟨b,0,none⟩ v0).setCell ⟨b,1,none⟩ v1).heap.size=W.heap.size:=by simp [World.setCell]
theorem wz {W:World} {b:Nat} {v0 v1 v2 v3 v4 a:Value}:((((((W.setCell ⟨b,0,none⟩ v0).setCell ⟨b,1,none⟩ v1).setCell ⟨b,2,none⟩ v2).setCell ⟨b,3,none⟩ v3).setCell ⟨b,4,none⟩ v4).setCell ⟨b,5,none⟩ a).heap.size=W.heap.size:=by simp [World.setCell]
theorem sU {p s:List Int} {g:GS} (h:GOk p s g) (a:g.i=p.length) (b:g.j=s.length):we p s g=true:=by
 rw [yl h];have:j7 p s g=.inr true:=by unfold j7;rw [Q1 ⟨a,b⟩]
 rw [this]
theorem mM {p s:List Int} {g c:GS} (h:GOk p s g) (e:j7 p s g=.inl c):we p s g=we p s c/\GOk p s c/\gmu p s c<gmu p s g:=by obtain ⟨a,b⟩:=gP h e;refine ⟨?_,a,b⟩;rw [yl h,e]
theorem rU {p s:List Int} {g:GS} (h:GOk p s g) (a:g.i<p.length) (b:p.getD g.i 0=42):we p s g=we p s ⟨g.i+1,g.j,g.i+1,g.j⟩/\GOk p s ⟨g.i+1,g.j,g.i+1,g.j⟩/\gmu p s ⟨g.i+1,g.j,g.i+1,g.j⟩<gmu p s g:=by refine mM h ?_;unfold j7;rw [Z6 (by omega),Q1 ⟨a,b⟩]
theorem sM {p s:List Int} {g:GS} (h:GOk p s g) (a:g.i<p.length) (b:¬p.getD g.i 0=42) (c:g.j<s.length) (d:ub (p.getD g.i 0) (s.getD g.j 0)=true):we p s g=we p s ⟨g.i+1,g.j+1,g.st,g.fr⟩/\GOk p s ⟨g.i+1,g.j+1,g.st,g.fr⟩/\gmu p s ⟨g.i+1,g.j+1,g.st,g.fr⟩<gmu p s g:=by refine mM h ?_;unfold j7;rw [Z6 (by omega),Z6 (fun hc=>b hc.2),Q1 ⟨a,c,d⟩]
def gD (p s:List Int) (g:GS):Prop:=(g.i=p.length/\¬g.j=s.length)\/(g.i<p.length/\¬p.getD g.i 0=42/\(g.j<s.length->ub (p.getD g.i 0) (s.getD g.j 0)=false))
theorem kH {p s:List Int} {g:GS} (h:GOk p s g) (e:gD p s g) (d:g.st=0\/g.fr=s.length\/s.getD g.fr 0=47):we p s g=false:=by
 rw [yl h];have:j7 p s g=.inr false:=by
  unfold j7;rcases e with ⟨a,b⟩|⟨a,b,c⟩
  . rw [Z6 (fun hc=>b hc.2),Z6 (by omega),Z6 (by omega),Q1 d]
  . rw [Z6 (by omega),Z6 (fun hc=>b hc.2),Z6 (fun hc=>by rw [c hc.2.1] at hc;exact absurd hc.2.2 (by decide)),Q1 d]
 rw [this]
theorem gL {p s:List Int} {g:GS} (h:GOk p s g) (f:gD p s g) (e:¬g.st=0/\¬g.fr=s.length/\¬s.getD g.fr 0=47):we p s g=we p s ⟨g.st,g.fr+1,g.st,g.fr+1⟩/\GOk p s ⟨g.st,g.fr+1,g.st,g.fr+1⟩/\gmu p s ⟨g.st,g.fr+1,g.st,g.fr+1⟩<gmu p s g:=by
 refine mM h ?_;have d:¬(g.st=0\/g.fr=s.length\/s.getD g.fr 0=47):=by
  rintro (a|a|a)
  . exact e.1 a
  . exact e.2.1 a
  . exact e.2.2 a
 unfold j7;rcases f with ⟨a,b⟩|⟨a,b,c⟩
 . rw [Z6 (fun hc=>b hc.2),Z6 (by omega),Z6 (by omega),Z6 d]
 . rw [Z6 (by omega),Z6 (fun hc=>b hc.2),Z6 (fun hc=>by rw [c hc.2.1] at hc;exact absurd hc.2.2 (by decide)),Z6 d]
def xg (w:World) (lo hi:Nat) (a:Option Addr) (l:List Int):Prop :=
 l=[]\/∃b off,a=some ⟨b,off,none⟩/\lo<=b/\b<hi/\∀i (_:i<l.length),w.cell? ⟨b,off+i,none⟩=some (.int .i32 (l.getD i 0))
theorem xg.at {w:World} {lo hi:Nat} {a:Option Addr} {l:List Int} (h:xg w lo hi a l) (i:Nat) (hi':i<l.length):∃b off,a=some ⟨b,off,none⟩/\lo<=b/\b<hi/\w.cell? ⟨b,off+i,none⟩=some (.int .i32 (l.getD i 0)):=by
 rcases h with h|⟨b,off,ha,hb,hb',hr⟩
 . rw [h] at hi';simp at hi'
 . exact ⟨b,off,ha,hb,hb',hr i hi'⟩
theorem xg.carry {w w':World} {lo hi lo' hi':Nat} {a:Option Addr} {l:List Int} (h:xg w lo hi a l) (d:lo'<=lo) (e:hi<=hi') (c:∀b,lo<=b->b<hi->w'.heap[b]?=w.heap[b]?):xg w' lo' hi' a l:=by
 rcases h with h|⟨b,off,ha,hb,hb',hr⟩
 . exact .inl h
 . exact .inr ⟨b,off,ha,by omega,by omega,fun i hi=>by rw [J9 (w:=w) (w':=w') (c b hb hb')];exact hr i hi⟩
theorem xg.below {w w':World} {lo hi lo' hi' B:Nat} {a:Option Addr} {l:List Int} (h:xg w lo hi a l) (e:Below B w w') (f:hi<=B) (c:lo'<=lo) (d:hi<=hi'):xg w' lo' hi' a l :=
 h.carry c d fun b _ hlt=>e.block b (by omega)
