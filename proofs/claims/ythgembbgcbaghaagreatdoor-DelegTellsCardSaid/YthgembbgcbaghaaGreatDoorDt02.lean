import Derived.Test.YthgembbgcbaghaaGreatDoorDt01
import Derived.Laws.AppendOwnNone

namespace Go.Proofs.YthgembbgcbaghaaGreatDoor
open Go.RowKit
structure GS where
 i:Nat
 j:Nat
 st:Nat
 fr:Nat
def cF (a c:Int):Bool:=if a=63 then decide (c≠47) else decide (a=c)
def kU (p s:List Int) (g:GS):GS ⊕ Bool :=
 if g.i=p.length/\g.j=s.length then .inr true
 else if g.i<p.length/\p.getD g.i 0=42 then .inl ⟨g.i+1,g.j,g.i+1,g.j⟩
 else if g.i<p.length/\g.j<s.length/\cF (p.getD g.i 0) (s.getD g.j 0)=true then .inl ⟨g.i+1,g.j+1,g.st,g.fr⟩
 else if g.st=0\/g.fr=s.length\/s.getD g.fr 0=47 then .inr false
 else .inl ⟨g.st,g.fr+1,g.st,g.fr+1⟩
def lW (p s:List Int):Nat->GS->Bool
 | 0,_=>false
 | n+1,g=>match kU p s g with
  | .inr b=>b
  | .inl g'=>lW p s n g'
def gmu (p s:List Int) (g:GS):Nat:=((p.length - g.st) * (s.length+1)+(s.length - g.fr)) * (p.length+1)+(p.length - g.i)
def ya (p s:List Int) (g:GS):Bool:=lW p s (gmu p s g+1) g
def cH (p s:List Int):Bool:=ya p s ⟨0,0,0,0⟩
structure GOk (p s:List Int) (g:GS):Prop where
 i:g.i<=p.length
 j:g.j<=s.length
 st:g.st<=g.i
 fr:g.fr<=g.j
theorem GOk.start (p s:List Int):GOk p s ⟨0,0,0,0⟩:=⟨J8 _,J8 _,J0 _,J0 _⟩
theorem tq {P S a a' f f' i i':Nat} (h:(P - a') * (S+1)+(S - f')+1<=(P - a) * (S+1)+(S - f)):((P - a') * (S+1)+(S - f')) * (P+1)+(P - i')<((P - a) * (S+1)+(S - f)) * (P+1)+(P - i):=by generalize (P - a') * (S+1)+(S - f')=x at *;generalize (P - a) * (S+1)+(S - f)=y at *;have b:(x+1) * (P+1)<=y * (P+1):=Nat.mul_le_mul_right _ h;rw [Nat.add_mul,Nat.one_mul] at b;omega
theorem pW {p s:List Int} {g g':GS} (h:GOk p s g) (e:kU p s g=.inl g'):GOk p s g'/\gmu p s g'<gmu p s g:=by
 obtain ⟨f,b,c,d⟩:=h;unfold kU at e;split at e
 . cases e
 . split at e
   . rename_i a;obtain ⟨a,-⟩:=a;cases e;refine ⟨⟨a,b,J0 _,J0 _⟩,tq (i:=g.i) (i':=g.i+1) ?_⟩;show (p.length - (g.i+1)) * (s.length+1)+(s.length - g.j)+1<=(p.length - g.st) * (s.length+1)+(s.length - g.fr);have k:(p.length - (g.i+1)+1) * (s.length+1)<=(p.length - g.st) * (s.length+1):=Nat.mul_le_mul_right _ (by omega);rw [Nat.add_mul,Nat.one_mul] at k;omega
   . split at e
     . rename_i a;obtain ⟨a,l,-⟩:=a;cases e;refine ⟨⟨a,l,Nat.le_succ_of_le c,Nat.le_succ_of_le d⟩,?_⟩;unfold gmu;dsimp only;omega
     . split at e
       . cases e
       . rename_i a;simp only [not_or] at a;cases e;have m:g.fr<s.length:=Nat.lt_of_le_of_ne (Z3 d b) a.2.1;refine ⟨⟨Z3 c f,m,J0 _,J0 _⟩,tq (i:=g.i) (i':=g.st) ?_⟩;show (p.length - g.st) * (s.length+1)+(s.length - (g.fr+1))+1<=(p.length - g.st) * (s.length+1)+(s.length - g.fr);omega
theorem ur {p s:List Int}:∀(n:Nat) (g:GS),GOk p s g->gmu p s g<n->∀m,gmu p s g<m->lW p s n g=lW p s m g
 | 0,_,_,h,_,_=>by omega
 | n+1,g,hg,hn,0,hm=>by omega
 | n+1,g,hg,hn,m+1,hm=>by
  rw [lW,lW];cases e:kU p s g with
  | inr b=>rfl
  | inl g' => obtain ⟨h1,h2⟩:=pW hg e;exact ur n g' h1 (by omega) m (by omega)
theorem gW {p s:List Int} {g:GS} (hg:GOk p s g):ya p s g=match kU p s g with
 | .inr b=>b
 | .inl g'=>ya p s g':=by
 unfold ya;rw [lW];cases e:kU p s g with
 | inr b=>rfl
 | inl g' => obtain ⟨a,c⟩:=pW hg e;exact ur _ g' a (by omega) _ (by omega)
structure GInv (p s:List Int) (g:GS):Prop extends GOk p s g where
 on:g.st≠0->g.i+g.fr=g.j+g.st/\∀m,g.st+m<g.i->p.getD (g.st+m) 0≠42/\cF (p.getD (g.st+m) 0) (s.getD (g.fr+m) 0)=true
open Go.ChangeShapes Go.WideShapes Go.ChangeAt Go.Joins Go.Deep
section
variable {H:Type} {enc:TypeId × Value->H} {P:Program} {w:World} {spare:Nat->Bool} {held:Bool}
end
theorem un:Tryz.prog.cellsOf 43=2:=by kernel_rfl
theorem nM {H:Type} {enc:TypeId × Value->H} {w:World} {spare:Nat->Bool} {held:Bool} {fuel:Nat} {c:Value} {x:DataW H × List MemPlace} (h:DataW.trod enc Tryz.prog w 0 spare held fuel 28 [c]=some x) :
 ∃(a:Option Addr) (cap:Nat) (l:List Key2),c=.slice a l.length cap/\l.length<=cap/\l.length<=maxLen/\(∀k ∈ l,k.1.size<=maxLen/\k.2.size<=maxLen)/\zA w 0 w.heap.size a l:=by
 rcases DataW.trod_slice Tryz.underlying28 h with ⟨e4,_⟩|⟨a,len,cap,elems,rest,n',hn',e4,hy,_,hl,hcm,hlen,hel,_,_⟩
 . simp at e4;subst e4;exact ⟨none,0,[],rfl,J0 _,by simp,by simp,.inl rfl⟩
 . simp at e4;subst e4;rw [un] at hel;have e:∀i,i<len->∃k:Key2,w.cell? (a.add (i * 2))=some (.string k.1)/\w.cell? ((a.add (i * 2)).add 1)=some (.string k.2)/\k.1.size<=maxLen/\k.2.size<=maxLen:=by
    intro i hi;have:=hel i hi;rw [Y5 (by omega)] at this;obtain ⟨r,u,v⟩:=Option.bind_eq_some_iff.1 this;obtain ⟨_,E,q⟩:=World.cells?_some u;obtain ⟨C,D,F,G,m,rfl,y,z⟩:=cG Tryz.underlying43 (by kernel_rfl) un v
    all_goals
     obtain ⟨s,o,_,A⟩:=DataW.trod_string X8 y;obtain ⟨t,p,_,B⟩:=DataW.trod_string X8 z;simp only [W8,M9] at o p;subst o p;have b:=q 0 (by omega);have f:=q 1 (by omega);rw [show (a.add (i * 2)).add 0=a.add (i * 2) by simp [Addr.add]] at b;exact ⟨(s,t),b,f,A,B⟩
   obtain ⟨l,g,d⟩:=wq len e;refine ⟨some a,cap,l,by rw [g],by omega,by omega,fun k hk=>?_,?_⟩
   . obtain ⟨i,hi,rfl⟩:=Y3 hk;exact (d i hi).2.2
   . by_cases h0:len=0
     . exact .inl (X3 (by omega))
     . have b:=(d 0 (by omega)).1;rw [Nat.zero_mul,show a.add 0=a by simp [Addr.add]] at b;have j:=yd b;refine .inr ⟨a.block,a.off,by rw [<- j],J8 _,G4 w _ b,fun i hi=>?_⟩;obtain ⟨b,f,_⟩:=d i hi;rw [j,yP] at b f;rw [yP] at f;exact ⟨b,f⟩
def gY (k:Key2):List Value:=[.string k.1,.string k.2]
theorem us {M:List Key2} (i:Nat) (hi:i<M.length):(M.flatMap gY)[i * 2]?=some (.string M[i].1)/\(M.flatMap gY)[i * 2+1]?=some (.string M[i].2):=by
 induction M generalizing i with
 | nil=>simp at hi
 | cons k r ih =>
  rw [List.flatMap_cons];rcases i with _|i
  . exact ⟨rfl,rfl⟩
  . have:=ih i (by simpa using hi);rw [V5 (by simp [gY];omega),V5 (by simp [gY];omega)];have a:(i+1) * 2 - (gY k).length=i * 2:=by simp [gY];omega
    have b:(i+1) * 2+1 - (gY k).length=i * 2+1:=by simp [gY];omega
    rw [a,b];exact this
theorem ua {w:World} {base e:Nat} {v:Value} {n:Nat} {M:List Key2} (h:w.ownsRow base e 2 v n (M.flatMap gY)) (hn:n=M.length) :
 ∃a c,v=.slice a M.length c/\zA w base w.heap.size a M:=by
 subst hn;rcases h.2 with ⟨rfl,h0⟩|⟨g,cap,cur,rfl,hg,hh,hc,hm,hs,ht⟩
 . exact ⟨none,0,by rw [h0],.inl (X3 h0)⟩
 . refine ⟨_,_,rfl,.inr ⟨g,0,rfl,hg,qx hh,fun i hi=>?_⟩⟩;have f:∀j,(⟨g,0,none⟩:Addr).add j=⟨g,0+j,none⟩:=fun j=>by unfold Addr.add;split <;> simp_all
   have b:=h.cells (g:=g) rfl _ _ (us i hi).1;have d:=h.cells (g:=g) rfl _ _ (us i hi).2;rw [f] at b d;exact ⟨b,by rw [Nat.add_assoc];exact d⟩
theorem below_grown {B:Nat} {W w w':World} {v:Value} (hb:Below B W w) (hBw:B<=w.heap.size) (hg:w.grownBy w' v.ownBlock) (hown:∀b,v.ownBlock=some b->B<=b):Below B W w':=by refine ⟨by rw [hg.os,hb.os],by rw [hg.tape,hb.tape],by rw [hg.output,hb.output],Z3 hb.size hg.size,fun b hlt=>?_⟩;rw [hg.block b (by omega) (fun e=>by have:=hown b e.symm;omega)];exact hb.block b hlt
theorem eW {W:World} {b k:Nat} (v0 v1:Value) (hk:k≠b):((W.setCell ⟨b,0,none⟩ v0).setCell ⟨b,1,none⟩ v1).heap[k]?=W.heap[k]?:=by rw [J6 _ _ _ _ hk,J6 _ _ _ _ hk]
theorem QY {W:World} {b:Nat} {v0 v1:Value}:((W.setCell ⟨b,0,none⟩ v0).setCell ⟨b,1,none⟩ v1).heap.size=W.heap.size:=by simp [World.setCell]
theorem yH {W:World} {b:Nat} {v0 v1 v2 v3 v4 v5:Value}:((((((W.setCell ⟨b,0,none⟩ v0).setCell ⟨b,1,none⟩ v1).setCell ⟨b,2,none⟩ v2).setCell ⟨b,3,none⟩ v3).setCell ⟨b,4,none⟩ v4).setCell ⟨b,5,none⟩ v5).heap.size=W.heap.size:=by simp [World.setCell]
end Go.Proofs.YthgembbgcbaghaaGreatDoor
