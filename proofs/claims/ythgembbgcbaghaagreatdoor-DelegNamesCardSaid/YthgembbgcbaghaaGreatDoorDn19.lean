import Derived.Test.YthgembbgcbaghaaGreatDoorDn18

namespace Go.Proofs.YthgembbgcbaghaaGreatDoor
open Go.RowKit
theorem ui:∀ {b:List ByteArray} {a:List JV} {y:ByteArray} {x:JV},qI b a y=some x->x.wt<=JV.wts a
 | n :: b,z :: a,y,x,h=>by
  rw [qI] at h;simp only [JV.wts];split at h
  . injection h with h;subst h;omega
  . have:=ui h;omega
theorem bp {v:JV} {y:ByteArray} {c:Nat} {st:PS} (h:v.wt<=4294967296):(qi v y c st).1.wt<=4294967296:=by
 have a:qF.wt<=4294967296:=by decide
 have b:=v.wt_bd;unfold qi;split
 . exact a
 . split
   . exact a
   . rename_i it hit;have:=ui (show qI v.names v.items y=some it from hit);split
     . exact a
     . split
       . exact a
       . show it.wt<=_;omega
theorem pN {α:Type} (enc:α->List Value) (a:Nat) (b:∀x,(enc x).length=a):∀(l:List α) (i c:Nat) (hi:i<l.length) (d:c<a),(l.flatMap enc)[i * a+c]?=some ((enc l[i])[c]'(by rw [b];exact d))
 | [],i,c,hi,_=>by simp at hi
 | v :: r,i,c,hi,d=>by
  rw [List.flatMap_cons];rcases i with _|i
  . rw [Y8 (by rw [b];omega)];simp
  . have e:(i+1) * a+c=a+(i * a+c):=by rw [Nat.add_mul];omega
    rw [X8 (by rw [b,e];omega),b,e,Nat.add_sub_cancel_left];simpa using pN enc a b r i c (by simpa using hi) d
def bf {α:Type} (P:World->Nat->Nat->α->Prop):Prop:=∀(w w':World) (lo hi:Nat) (q:α),(∀b,lo<=b->b<hi->w'.heap[b]?=w.heap[b]?)->P w lo hi q->P w' lo hi q
structure ItemsOwn {α:Type} (T sz B:Nat) (enc:α->List Value) (P:World->Nat->Nat->α->Prop) (w:World) (vs:Value) (qs:List α):Prop where
 own:w.ownsRow B T sz vs qs.length (qs.flatMap enc)
 each:∀q ∈ qs,∃lo hi,B<=lo/\hi<=w.heap.size/\(∀b,vs.ownBlock=some b->¬(lo<=b/\b<hi))/\P w lo hi q
theorem ItemsOwn.nil {α:Type} (T a B:Nat) (enc:α->List Value) (P:World->Nat->Nat->α->Prop) (w:World):ItemsOwn T a B enc P w (.slice none 0 0) []:=⟨Y0 _ _ _ _,by simp⟩
theorem ll {S:Nat->Prop} {B T a n:Nat} {w w':World} {v:Value} {cs:List Value} (h:w.ownsRow B T a v n cs) (d:Touch S w w') (c:∀k,B<=k->¬S k):w'.ownsRow B T a v n cs:=by refine xj h fun b hb=>?_;have:=h.lt b hb;exact d.block b this.2 (c b this.1)
theorem ItemsOwn.touch {α:Type} {T e B:Nat} {enc:α->List Value} {P:World->Nat->Nat->α->Prop} (g:bf P) {S:Nat->Prop} {w w':World} {f:Value} {d:List α} (h:ItemsOwn T e B enc P w f d) (a:Touch S w w') (c:∀k,B<=k->¬S k):ItemsOwn T e B enc P w' f d :=
 ⟨ll h.own a c,fun q hq=>by
  obtain ⟨lo,hi,h1,h2,h3,hk⟩:=h.each q hq;exact ⟨lo,hi,h1,Z5 h2 a.size,h3,g _ _ _ _ _ (fun b b1 b2=>a.block b (by omega) (c b (by omega))) hk⟩⟩
theorem ItemsOwn.below {α:Type} {T b B:Nat} {enc:α->List Value} {P:World->Nat->Nat->α->Prop} (d:bf P) {w w':World} {c:Value} {a:List α} (h:ItemsOwn T b B enc P w c a) (e:O5 w w'):ItemsOwn T b B enc P w' c a :=
 h.touch d (Touch.of_below (S:=fun _=>False) e lz) (fun _ _ h=>h)
theorem lQ {B a T b n:Nat} {w:World} {v:Value} {cs:List Value} (h:w.ownsRow B T b v n cs) (c:a<=B):w.ownsRow a T b v n cs:=by
 refine ⟨h.1,?_⟩;rcases h.2 with h2|⟨g,cap,cur,hv,hg,r⟩
 . exact .inl h2
 . exact .inr ⟨g,cap,cur,hv,Z5 c hg,r⟩
theorem ItemsOwn.mono {α:Type} {T d B a:Nat} {enc:α->List Value} {P:World->Nat->Nat->α->Prop} {w:World} {e:Value} {c:List α} (h:ItemsOwn T d B enc P w e c) (b:a<=B):ItemsOwn T d a enc P w e c :=
 ⟨lQ h.own b,fun q hq=>by
  obtain ⟨lo,hi,h1,h2⟩:=h.each q hq;exact ⟨lo,hi,Z5 b h1,h2⟩⟩
theorem ItemsOwn.snoc {α:Type} {T u B:Nat} {enc:α->List Value} {P:World->Nat->Nat->α->Prop} (A:bf P) {w w':World} {v v':Value} {m:List α} (h:ItemsOwn T u B enc P w v m) (q:α) (lo hi:Nat) (z:B<=lo) (o:hi<=w.heap.size) (y:∀b,v.ownBlock=some b->¬(lo<=b/\b<hi)) (C:P w lo hi q)
 (s:w.grownBy w' v.ownBlock) (hown:w'.ownsRow B T u v' (m.length+1) (m.flatMap enc ++ enc q)) (r:v'.ownBlock=v.ownBlock\/∃g,v'.ownBlock=some g/\w.heap.size<=g):ItemsOwn T u B enc P w' v' (m ++ [q]):=by
 have j:∀ {lo hi:Nat},hi<=w.heap.size->(∀b,v.ownBlock=some b->¬(lo<=b/\b<hi))->∀b,v'.ownBlock=some b->¬(lo<=b/\b<hi):=fun hz hn b hb=>by
  rcases r with e|⟨g,e,hge⟩
  . exact hn b (by rw [<- e];exact hb)
  . rw [e] at hb;simp at hb;omega
 have a:∀ {lo hi:Nat} {x:α},hi<=w.heap.size->(∀b,v.ownBlock=some b->¬(lo<=b/\b<hi))->P w lo hi x->P w' lo hi x:=fun hz hn hr =>
  A _ _ _ _ _ (fun b hb1 hb2=>s.block b (by omega) (fun e=>hn b e.symm ⟨hb1,hb2⟩)) hr
 refine ⟨?_,fun p hp=>?_⟩
 . rw [V6,List.flatMap_append];simpa using hown
 . rcases List.mem_append.1 hp with hp|hp
   . obtain ⟨i,c,l,f,k,d⟩:=h.each p hp;exact ⟨i,c,l,Z5 f s.size,j f k,a f k d⟩
   . obtain rfl:p=q:=by simpa using hp
     exact ⟨lo,hi,z,Z5 o s.size,j o y,a o y C⟩
theorem ItemsOwn.cells {α:Type} {T d B:Nat} {enc:α->List Value} {P:World->Nat->Nat->α->Prop} (k:∀x,(enc x).length=d) {w:World} {a:Option Addr} {n c:Nat} {f:List α} (h:ItemsOwn T d B enc P w (.slice a n c) f) :
 n=f.length/\n<=c/\(f=[]\/∃g,a=some ⟨g,0,none⟩/\B<=g/\g<w.heap.size/\(∀o,w.frozen? ⟨g,o,none⟩=false)/\∀i (hi:i<f.length) q (j:q<d),w.cell? ⟨g,i * d+q,none⟩=some ((enc f[i])[q]'(by rw [k];exact j))):=by
 have b:=h.own;rcases h.own.2 with ⟨hv,h0⟩|⟨g,cap,cur,hv,hg,hh,hc,hm,hs,ht⟩
 . simp only [X4] at hv;exact ⟨by omega,by omega,.inl (J4 h0)⟩
 . simp only [X4] at hv;obtain ⟨rfl,rfl,rfl⟩:=hv;refine ⟨rfl,hc,.inr ⟨g,rfl,hg,qz hh,fun o=>by simp [World.frozen?,hh],fun i hi2 q j=>?_⟩⟩;have e:(⟨g,0,none⟩:Addr).add (i * d+q)=⟨g,i * d+q,none⟩:=by unfold Addr.add;split <;> simp_all
   have:=b.cells (g:=g) rfl _ _ (pN enc d k f i q hi2 j);rw [e] at this;exact this
