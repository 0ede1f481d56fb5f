/- Rows of nine cells that are stored to cell by cell. Printed by genbox9.py. No program in sight. -/
import Derived.Test.YthgembbgcbaghaaGreatDoorDa01
import Derived.Laws.AppendOwnNone

namespace Go.Proofs.YthgembbgcbaghaaGreatDoor
open Go.RowKit
structure GS where
 i:Nat
 j:Nat
 st:Nat
 fr:Nat
def fN (a c:Int):Bool:=if a=63 then decide (c≠47) else decide (a=c)
def jM (p s:List Int) (g:GS):GS ⊕ Bool :=
 if g.i=p.length∧g.j=s.length then .inr true
 else if g.i<p.length∧p.getD g.i 0=42 then .inl ⟨g.i+1,g.j,g.i+1,g.j⟩
 else if g.i<p.length∧g.j<s.length∧fN (p.getD g.i 0) (s.getD g.j 0)=true then .inl ⟨g.i+1,g.j+1,g.st,g.fr⟩
 else if g.st=0∨g.fr=s.length∨s.getD g.fr 0=47 then .inr false
 else .inl ⟨g.st,g.fr+1,g.st,g.fr+1⟩
def mu (p s:List Int):Nat→GS→Bool
 | 0,_=>false
 | n+1,g=>match jM p s g with
  | .inr b=>b
  | .inl g'=>mu p s n g'
def gmu (p s:List Int) (g:GS):Nat:=((p.length - g.st) * (s.length+1)+(s.length - g.fr)) * (p.length+1)+(p.length - g.i)
def vE (p s:List Int) (g:GS):Bool:=mu p s (gmu p s g+1) g
def fS (p s:List Int):Bool:=vE p s ⟨0,0,0,0⟩
structure GOk (p s:List Int) (g:GS):Prop where
 i:g.i≤p.length
 j:g.j≤s.length
 st:g.st≤g.i
 fr:g.fr≤g.j
theorem GOk.start (p s:List Int):GOk p s ⟨0,0,0,0⟩:=⟨Nat.zero_le _,Nat.zero_le _,Nat.le_refl _,Nat.le_refl _⟩
theorem l4 {P S a a' f f' i i':Nat} (h:(P - a') * (S+1)+(S - f')+1≤(P - a) * (S+1)+(S - f)):((P - a') * (S+1)+(S - f')) * (P+1)+(P - i')<((P - a) * (S+1)+(S - f)) * (P+1)+(P - i):=by
 generalize (P - a') * (S+1)+(S - f')=x at *
 generalize (P - a) * (S+1)+(S - f)=y at *
 have h1:(x+1) * (P+1)≤y * (P+1):=Nat.mul_le_mul_right _ h
 rw [Nat.add_mul,Nat.one_mul] at h1
 omega
theorem gJ {p s:List Int} {g g':GS} (h:GOk p s g) (e:jM p s g=.inl g'):GOk p s g'∧gmu p s g'<gmu p s g:=by
 obtain ⟨h1,h2,h3,h4⟩:=h
 unfold jM at e
 split at e
 · cases e
 · split at e
   · rename_i hc
     obtain ⟨hc,-⟩:=hc
     cases e
     refine ⟨⟨hc,h2,Nat.le_refl _,Nat.le_refl _⟩,l4 (i:=g.i) (i':=g.i+1) ?_⟩
     show (p.length - (g.i+1)) * (s.length+1)+(s.length - g.j)+1≤(p.length - g.st) * (s.length+1)+(s.length - g.fr)
     have h5:(p.length - (g.i+1)+1) * (s.length+1)≤(p.length - g.st) * (s.length+1):=Nat.mul_le_mul_right _ (by omega)
     rw [Nat.add_mul,Nat.one_mul] at h5
     omega
   · split at e
     · rename_i hc
       obtain ⟨hc,hd,-⟩:=hc
       cases e
       refine ⟨⟨hc,hd,Nat.le_succ_of_le h3,Nat.le_succ_of_le h4⟩,?_⟩
       unfold gmu
       dsimp only
       omega
     · split at e
       · cases e
       · rename_i hc
         simp only [not_or] at hc
         cases e
         have hf:g.fr<s.length:=Nat.lt_of_le_of_ne (Nat.le_trans h4 h2) hc.2.1
         refine ⟨⟨Nat.le_trans h3 h1,hf,Nat.le_refl _,Nat.le_refl _⟩,l4 (i:=g.i) (i':=g.st) ?_⟩
         show (p.length - g.st) * (s.length+1)+(s.length - (g.fr+1))+1≤(p.length - g.st) * (s.length+1)+(s.length - g.fr)
         omega
theorem pg {p s:List Int}:∀(n:Nat) (g:GS),GOk p s g→gmu p s g<n→∀m,gmu p s g<m→mu p s n g=mu p s m g
 | 0,_,_,h,_,_=>by omega
 | n+1,g,hg,hn,0,hm=>by omega
 | n+1,g,hg,hn,m+1,hm=>by
  rw [mu,mu]
  cases e:jM p s g with
  | inr b=>rfl
  | inl g' =>
   obtain ⟨h1,h2⟩:=gJ hg e
   exact pg n g' h1 (by omega) m (by omega)
theorem yk {p s:List Int} {g:GS} (hg:GOk p s g):vE p s g=match jM p s g with
 | .inr b=>b
 | .inl g'=>vE p s g':=by
 unfold vE
 rw [mu]
 cases e:jM p s g with
 | inr b=>rfl
 | inl g' =>
  obtain ⟨h1,h2⟩:=gJ hg e
  exact pg _ g' h1 (by omega) _ (by omega)
structure GInv (p s:List Int) (g:GS):Prop extends GOk p s g where
 on:g.st≠0→g.i+g.fr=g.j+g.st∧∀m,g.st+m<g.i→p.getD (g.st+m) 0≠42∧fN (p.getD (g.st+m) 0) (s.getD (g.fr+m) 0)=true
end Go.Proofs.YthgembbgcbaghaaGreatDoor

namespace Go.Proofs.YthgembbgcbaghaaGreatDoor
open Go.ChangeShapes Go.WideShapes Go.ChangeAt Go.RowKit Go.Joins Go.Deep
section
variable {H:Type} {enc:TypeId × Value→H} {P:Program} {w:World} {spare:Nat→Bool} {held:Bool}
end
theorem pp:Tryz.prog.cellsOf 43=2:=by kernel_rfl
theorem dp {H:Type} {enc:TypeId × Value→H} {w:World} {spare:Nat→Bool} {held:Bool} {fuel:Nat} {c:Value} {x:DataW H × List MemPlace} (h:DataW.trod enc Tryz.prog w 0 spare held fuel 28 [c]=some x) :
 ∃(a:Option Addr) (cap:Nat) (l:List Key2),c=.slice a l.length cap∧l.length≤cap∧l.length≤maxLen∧(∀k ∈ l,k.1.size≤maxLen∧k.2.size≤maxLen)∧zP w 0 w.heap.size a l:=by
 rcases DataW.trod_slice Tryz.underlying28 h with ⟨e4,_⟩|⟨a,len,cap,elems,rest,n',hn',e4,hy,_,hl,hcm,hlen,hel,_,_⟩
 · simp at e4;subst e4
   exact ⟨none,0,[],rfl,Nat.le_refl _,by simp,by simp,.inl rfl⟩
 · simp at e4;subst e4
   rw [pp] at hel
   have each:∀i,i<len→∃k:Key2,w.cell? (a.add (i * 2))=some (.string k.1)∧w.cell? ((a.add (i * 2)).add 1)=some (.string k.2)∧k.1.size≤maxLen∧k.2.size≤maxLen:=by
    intro i hi
    have:=hel i hi
    rw [List.getElem?_eq_getElem (by omega)] at this
    obtain ⟨cs',g1,g2⟩:=Option.bind_eq_some_iff.1 this
    obtain ⟨_,gl,gc⟩:=World.cells?_some g1
    obtain ⟨d0,d1,y0,y1,m,rfl,r0,r1⟩:=fL Tryz.underlying43 (by kernel_rfl) pp g2
    all_goals
     obtain ⟨s,es,_,ws⟩:=DataW.trod_string Tryz.underlying9 r0
     obtain ⟨t,et,_,wt⟩:=DataW.trod_string Tryz.underlying9 r1
     simp only [List.cons.injEq,and_true] at es et
     subst es et
     have q0:=gc 0 (by omega);have q1:=gc 1 (by omega)
     rw [show (a.add (i * 2)).add 0=a.add (i * 2) by simp [Addr.add]] at q0
     exact ⟨(s,t),q0,q1,ws,wt⟩
   obtain ⟨l,hll,hls⟩:=kT len each
   refine ⟨some a,cap,l,by rw [hll],by omega,by omega,fun k hk=>?_,?_⟩
   · obtain ⟨i,hi,rfl⟩:=List.getElem_of_mem hk
     exact (hls i hi).2.2
   · by_cases h0:len=0
     · exact .inl (List.eq_nil_of_length_eq_zero (by omega))
     · have q0:=(hls 0 (by omega)).1
       rw [Nat.zero_mul,show a.add 0=a by simp [Addr.add]] at q0
       have ea:=vA q0
       refine .inr ⟨a.block,a.off,by rw [← ea],Nat.zero_le _,World.block_lt_of_cell? w _ q0,fun i hi=>?_⟩
       obtain ⟨q0,q1,_⟩:=hls i hi
       rw [ea,wm] at q0 q1
       rw [wm] at q1
       exact ⟨q0,q1⟩
end Go.Proofs.YthgembbgcbaghaaGreatDoor

namespace Go.Proofs.YthgembbgcbaghaaGreatDoor
open Go.RowKit
def yv (k:Key2):List Value:=[.string k.1,.string k.2]
theorem pf {M:List Key2} (i:Nat) (hi:i<M.length):(M.flatMap yv)[i * 2]?=some (.string M[i].1)∧(M.flatMap yv)[i * 2+1]?=some (.string M[i].2):=by
 induction M generalizing i with
 | nil=>simp at hi
 | cons k r ih =>
  rw [List.flatMap_cons]
  rcases i with _|i
  · exact ⟨rfl,rfl⟩
  · have:=ih i (by simpa using hi)
    rw [List.getElem?_append_right (by simp [yv];omega),List.getElem?_append_right (by simp [yv];omega)]
    have e1:(i+1) * 2 - (yv k).length=i * 2:=by simp [yv];omega
    have e2:(i+1) * 2+1 - (yv k).length=i * 2+1:=by simp [yv];omega
    rw [e1,e2]
    exact this
theorem ph {w:World} {base e:Nat} {v:Value} {n:Nat} {M:List Key2} (h:w.ownsRow base e 2 v n (M.flatMap yv)) (hn:n=M.length) :
 ∃a c,v=.slice a M.length c∧zP w base w.heap.size a M:=by
 subst hn
 rcases h.2 with ⟨rfl,h0⟩|⟨g,cap,cur,rfl,hg,hh,hc,hm,hs,ht⟩
 · exact ⟨none,0,by rw [h0],.inl (List.eq_nil_of_length_eq_zero h0)⟩
 · refine ⟨_,_,rfl,.inr ⟨g,0,rfl,hg,qx hh,fun i hi=>?_⟩⟩
   have ea:∀j,(⟨g,0,none⟩:Addr).add j=⟨g,0+j,none⟩:=fun j=>by unfold Addr.add;split <;> simp_all
   have h1:=h.cells (g:=g) rfl _ _ (pf i hi).1
   have h2:=h.cells (g:=g) rfl _ _ (pf i hi).2
   rw [ea] at h1 h2
   exact ⟨h1,by rw [Nat.add_assoc];exact h2⟩
theorem below_grown {B:Nat} {W w w':World} {v:Value} (hb:Below B W w) (hBw:B≤w.heap.size) (hg:w.grownBy w' v.ownBlock) (hown:∀b,v.ownBlock=some b→B≤b):Below B W w':=by
 refine ⟨by rw [hg.os,hb.os],by rw [hg.tape,hb.tape],by rw [hg.output,hb.output],Nat.le_trans hb.size hg.size,fun b hlt=>?_⟩
 rw [hg.block b (by omega) (fun e=>by have:=hown b e.symm;omega)]
 exact hb.block b hlt
theorem aq {W:World} {b k:Nat} (v0 v1:Value) (hk:k≠b):((W.setCell ⟨b,0,none⟩ v0).setCell ⟨b,1,none⟩ v1).heap[k]?=W.heap[k]?:=by
 rw [Below.heap_setCell _ _ _ _ hk,Below.heap_setCell _ _ _ _ hk]
theorem tp {W:World} {b:Nat} {v0 v1:Value}:((W.setCell ⟨b,0,none⟩ v0).setCell ⟨b,1,none⟩ v1).heap.size=W.heap.size:=by simp [World.setCell]
theorem wi {W:World} {b:Nat} {v0 v1 v2 v3 v4 v5:Value}:((((((W.setCell ⟨b,0,none⟩ v0).setCell ⟨b,1,none⟩ v1).setCell ⟨b,2,none⟩ v2).setCell ⟨b,3,none⟩ v3).setCell ⟨b,4,none⟩ v4).setCell ⟨b,5,none⟩ v5).heap.size=W.heap.size:=by simp [World.setCell]
end Go.Proofs.YthgembbgcbaghaaGreatDoor
