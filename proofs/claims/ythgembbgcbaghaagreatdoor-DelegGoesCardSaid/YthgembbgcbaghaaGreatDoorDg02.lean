import Derived.Test.YthgembbgcbaghaaGreatDoorDg01
import Derived.Laws.AppendOwnNone

namespace Go.Proofs.YthgembbgcbaghaaGreatDoor
open Go.RowKit
structure GS where
 i:Nat
 j:Nat
 st:Nat
 fr:Nat
def j7 (a c:Int):Bool:=if a=63 then decide (c≠47) else decide (a=c)
def j8 (p s:List Int) (g:GS):GS ⊕ Bool :=
 if g.i=p.length/\g.j=s.length then .inr true
 else if g.i<p.length/\p.getD g.i 0=42 then .inl ⟨g.i+1,g.j,g.i+1,g.j⟩
 else if g.i<p.length/\g.j<s.length/\j7 (p.getD g.i 0) (s.getD g.j 0)=true then .inl ⟨g.i+1,g.j+1,g.st,g.fr⟩
 else if g.st=0\/g.fr=s.length\/s.getD g.fr 0=47 then .inr false
 else .inl ⟨g.st,g.fr+1,g.st,g.fr+1⟩
def rZ (p s:List Int):Nat->GS->Bool
 | 0,_=>false
 | n+1,g=>match j8 p s g with
  | .inr b=>b
  | .inl g'=>rZ p s n g'
def gmu (p s:List Int) (g:GS):Nat:=((p.length - g.st) * (s.length+1)+(s.length - g.fr)) * (p.length+1)+(p.length - g.i)
def wZ (p s:List Int) (g:GS):Bool:=rZ p s (gmu p s g+1) g
def pO (p s:List Int):Bool:=wZ p s ⟨0,0,0,0⟩
structure GOk (p s:List Int) (g:GS):Prop where
 i:g.i<=p.length
 j:g.j<=s.length
 st:g.st<=g.i
 fr:g.fr<=g.j
theorem GOk.start (p s:List Int):GOk p s ⟨0,0,0,0⟩:=⟨X7 _,X7 _,J9 _,J9 _⟩
theorem iW {P S a c f d i i':Nat} (h:(P - c) * (S+1)+(S - d)+1<=(P - a) * (S+1)+(S - f)):((P - c) * (S+1)+(S - d)) * (P+1)+(P - i')<((P - a) * (S+1)+(S - f)) * (P+1)+(P - i):=by generalize (P - c) * (S+1)+(S - d)=x at *;generalize (P - a) * (S+1)+(S - f)=y at *;have b:(x+1) * (P+1)<=y * (P+1):=Nat.mul_le_mul_right _ h;rw [Nat.add_mul,Nat.one_mul] at b;omega
theorem y7 {p s:List Int} {g o:GS} (h:GOk p s g) (e:j8 p s g=.inl o):GOk p s o/\gmu p s o<gmu p s g:=by
 obtain ⟨f,b,c,d⟩:=h;unfold j8 at e;split at e
 . cases e
 . split at e
   . rename_i a;obtain ⟨a,-⟩:=a;cases e;refine ⟨⟨a,b,J9 _,J9 _⟩,iW (i:=g.i) (i':=g.i+1) ?_⟩;show (p.length - (g.i+1)) * (s.length+1)+(s.length - g.j)+1<=(p.length - g.st) * (s.length+1)+(s.length - g.fr);have k:(p.length - (g.i+1)+1) * (s.length+1)<=(p.length - g.st) * (s.length+1):=Nat.mul_le_mul_right _ (by omega);rw [Nat.add_mul,Nat.one_mul] at k;omega
   . split at e
     . rename_i a;obtain ⟨a,l,-⟩:=a;cases e;refine ⟨⟨a,l,Nat.le_succ_of_le c,Nat.le_succ_of_le d⟩,?_⟩;unfold gmu;dsimp only;omega
     . split at e
       . cases e
       . rename_i a;simp only [not_or] at a;cases e;have m:g.fr<s.length:=Nat.lt_of_le_of_ne (J1 d b) a.2.1;refine ⟨⟨J1 c f,m,J9 _,J9 _⟩,iW (i:=g.i) (i':=g.st) ?_⟩;show (p.length - g.st) * (s.length+1)+(s.length - (g.fr+1))+1<=(p.length - g.st) * (s.length+1)+(s.length - g.fr);omega
theorem uM {p s:List Int}:∀(n:Nat) (g:GS),GOk p s g->gmu p s g<n->∀m,gmu p s g<m->rZ p s n g=rZ p s m g
 | 0,_,_,h,_,_=>by omega
 | n+1,g,hg,hn,0,hm=>by omega
 | n+1,g,hg,hn,m+1,hm=>by
  rw [rZ,rZ];cases e:j8 p s g with
  | inr b=>rfl
  | inl g' => obtain ⟨h1,h2⟩:=y7 hg e;exact uM n g' h1 (by omega) m (by omega)
theorem wI {p s:List Int} {g:GS} (d:GOk p s g):wZ p s g=match j8 p s g with
 | .inr b=>b
 | .inl g'=>wZ p s g':=by
 unfold wZ;rw [rZ];cases e:j8 p s g with
 | inr b=>rfl
 | inl g' => obtain ⟨a,c⟩:=y7 d e;exact uM _ g' a (by omega) _ (by omega)
def zi:List Int->List Int->Bool
 | [],[]=>true
 | [],_ :: _=>false
 | a :: p,[]=>if a=42 then zi p [] else false
 | a :: p,c :: s=>if a=42 then zi p (c :: s) || (decide (c≠47) && zi (a :: p) s) else j7 a c && zi p s
def gM (p s:List Int) (k x:Nat):Bool:=zi (p.drop k) (s.drop x)
theorem z8 {l:List Int} {k:Nat} (h:k<l.length):l.drop k=l.getD k 0 :: l.drop (k+1):=by rw [G3 h,V2,V3 h];rfl
theorem rX {p s:List Int} {k x:Nat} (h:p.length<=k):gM p s k x=decide (s.length<=x):=by
 rw [gM,N7 h];cases e:s.drop x with
 | nil=>rw [zi];exact (X0 (List.drop_eq_nil_iff.mp e)).symm
 | cons a r => rw [zi];refine (J5 fun hc=>?_).symm;rw [N7 hc] at e;cases e
theorem su {p s:List Int} {k x:Nat} (h:k<p.length) (a:p.getD k 0=42):gM p s k x=(gM p s (k+1) x || (decide (x<s.length/\s.getD x 0≠47) && gM p s k (x+1))):=by
 unfold gM;rw [z8 h,a];by_cases hx:x<s.length
 . rw [z8 hx,zi,J8 rfl];congr 2;simp [hx]
 . rw [N7 (by omega:s.length<=x),zi,J8 rfl];simp [hx]
theorem cu {p s:List Int} {k x:Nat} (h:k<p.length) (a:p.getD k 0≠42):gM p s k x=(decide (x<s.length) && j7 (p.getD k 0) (s.getD x 0) && gM p s (k+1) (x+1)):=by
 unfold gM;rw [z8 h];by_cases hx:x<s.length
 . rw [z8 hx,zi,J3 a];simp [hx]
 . rw [N7 (by omega:s.length<=x),zi,J3 a];simp [hx]
def ZL (s:List Int) (a b:Nat):Prop:=∀y,a<=y->y<b->s.getD y 0≠47
theorem wO {p s:List Int} {k:Nat} (h:k<p.length) (a:p.getD k 0=42):∀(n x:Nat),s.length - x<=n->(gM p s k x=true↔∃t,x<=t/\(t<=s.length\/t=x)/\ZL s x t/\gM p s (k+1) t=true)
 | n,x,hn=>by
  rw [su h a,Bool.or_eq_true,X3,J6];constructor
  . rintro (h1|⟨⟨h1,h2⟩,h3⟩)
    . exact ⟨x,J9 _,.inr rfl,fun y h1 h2=>by omega,h1⟩
    . match n with
      | 0=>omega
      | n+1 =>
       obtain ⟨t,t1,t2,t3,t4⟩:=(wO h a n (x+1) (by omega)).mp h3;refine ⟨t,by omega,.inl (by omega),fun y hy1 hy2=>?_,t4⟩;by_cases he:y=x
       . rw [he];exact h2
       . exact t3 y (by omega) hy2
  . rintro ⟨t,t1,t2,t3,t4⟩;by_cases he:t=x
    . rw [he] at t4;exact .inl t4
    . have hx:x<s.length:=by omega
      refine .inr ⟨⟨hx,t3 x lz (by omega)⟩,?_⟩
      match n with
      | 0=>omega
      | n+1=>exact (wO h a n (x+1) (by omega)).mpr ⟨t,by omega,.inl (by omega),fun y hy1 hy2=>t3 y (by omega) hy2,t4⟩
def ZR (p s:List Int) (st fr:Nat):Prop:=st≠0/\∃t,fr<t/\t<=s.length/\ZL s fr t/\gM p s st t=true
structure GInv (p s:List Int) (g:GS):Prop extends GOk p s g where
 on:g.st≠0->g.i+g.fr=g.j+g.st/\∀m,g.st+m<g.i->p.getD (g.st+m) 0≠42/\j7 (p.getD (g.st+m) 0) (s.getD (g.fr+m) 0)=true
theorem GInv.start (p s:List Int):GInv p s ⟨0,0,0,0⟩:={ GOk.start p s with on:=fun h=>absurd rfl h }
theorem uC {a c:Int} (h:j7 a c=true):c=47↔a=47:=by
 unfold j7 at h;by_cases ha:a=63
 . rw [J8 ha] at h;have h:=zb5 h;omega
 . rw [J3 ha] at h;have h:=zb5 h;omega
theorem sm {p s:List Int}:∀(n k x:Nat),k+n<=p.length->(∀m,m<n->p.getD (k+m) 0≠42)->gM p s k x=true->(∀m,m<n->x+m<s.length/\j7 (p.getD (k+m) 0) (s.getD (x+m) 0)=true)/\gM p s (k+n) (x+n)=true
 | 0,k,x,_,_,h=>⟨fun m hm=>absurd hm (Nat.not_lt_zero m),h⟩
 | n+1,k,x,hk,hn,h=>by
  rw [cu (by omega) (show p.getD k 0≠42 from hn 0 (by omega))] at h;simp only [X3,J6] at h;obtain ⟨⟨h1,h2⟩,h3⟩:=h;obtain ⟨i1,i2⟩:=sm n (k+1) (x+1) (by omega) (fun m hm=>by have:=hn (m+1) (by omega);rwa [show k+(m+1)=k+1+m from by omega] at this) h3;refine ⟨fun m hm=>?_,by rwa [show k+1+n=k+(n+1) from by omega,show x+1+n=x+(n+1) from by omega] at i2⟩
  match m with
  | 0=>exact ⟨h1,h2⟩
  | m+1 => have:=i1 m (by omega);rwa [show k+1+m=k+(m+1) from by omega,show x+1+m=x+(m+1) from by omega] at this
theorem ay {p s:List Int} {g:GS} (F:GInv p s g) (hi:g.i<p.length) (G:p.getD g.i 0=42) (h:ZR p s g.st g.fr):gM p s g.i g.j=true:=by
 obtain ⟨k,t,D,E,d,x⟩:=h;obtain ⟨z,b⟩:=F.on k;have q:=F.st;have l:=F.fr;obtain ⟨n,A⟩:=O1 (g.i - g.st);obtain ⟨e,f⟩:=sm n g.st t (by omega) (fun m hm=>(b m (by omega)).1) x;rw [show g.st+n=g.i from by omega] at f;have o:t+n<=s.length:=by
  match hn0:n with
  | 0=>omega
  | m+1=>have:=(e m (by omega)).1;omega
 obtain ⟨w,B,C,u,v⟩:=(wO hi G _ (t+n) lz).mp f;refine (wO hi G _ g.j lz).mpr ⟨w,by omega,.inl (by omega),?_,v⟩
 -- no / up to there: else there were one between fr and t
 have a:∀N y,y<=N->g.fr<=y->y<t+n->s.getD y 0≠47:=by
  intro N
  induction N with
  | zero=>intro y hy hf hlt;exact d y hf (by omega)
  | succ N ih =>
   intro y hy hf hlt;by_cases hyt:y<t
   . exact d y hf hyt
   . intro hs;have c:=(e (y - t) (by omega)).2;rw [show t+(y - t)=y from by omega] at c;have r:=(b (y - t) (by omega)).2;exact ih (g.fr+(y - t)) (by omega) (by omega) (by omega) ((uC r).mpr ((uC c).mp hs))
 intro y h1 h2;by_cases hy:y<t+n
 . exact a y y lz (by omega) hy
 . exact u y (by omega) h2
theorem gq {p s:List Int}:∀(n:Nat) (g:GS),GInv p s g->gmu p s g<n->(wZ p s g=true↔gM p s g.i g.j=true\/ZR p s g.st g.fr)
 | 0,_,_,h=>by omega
 | n+1,g,hg,hn=>by
  have hok:GOk p s g:=hg.toGOk;rw [wI hok];cases e:j8 p s g with
  | inr b =>
   unfold j8 at e;split at e
   . rename_i hc;cases e;refine ⟨fun _=>.inl ?_,fun _=>rfl⟩;rw [rX (by omega),J6];omega
   . rename_i c1;split at e
     . cases e
     . rename_i c2;split at e
       . cases e
       . rename_i c3;split at e
         . rename_i c4;cases e;constructor
           . intro h;cases h
           . rintro (h|⟨h0,t,t1,t2,t3,t4⟩)
             . have hi:=hg.i;have hj:=hg.j;by_cases hl:g.i<p.length
               . have hp:p.getD g.i 0≠42:=fun h=>c2 ⟨hl,h⟩;rw [cu hl hp] at h;simp only [X3,J6] at h;exact absurd ⟨hl,h.1.1,h.1.2⟩ c3
               . rw [rX (by omega),J6] at h;exact absurd ⟨by omega,by omega⟩ c1
             . rcases c4 with c4|c4|c4
               . exact absurd c4 h0
               . omega
               . exact absurd c4 (t3 g.fr lz t1)
         . cases e
  | inl g' =>
   obtain ⟨o1,o2⟩:=y7 hok e;unfold j8 at e;split at e
   . cases e
   . rename_i c1;split at e
     . rename_i c2;cases e;obtain ⟨hl,hp⟩:=c2;have ih:=gq n ⟨g.i+1,g.j,g.i+1,g.j⟩ { o1 with on:=fun _=>⟨by dsimp only;omega,fun m hm=>by dsimp only at hm;omega⟩ } (by omega);refine ih.trans ?_;dsimp only;constructor
       . rintro (h|⟨-,t,t1,t2,t3,t4⟩)
         . refine .inl ?_;rw [su hl hp,h,Bool.true_or]
         . exact .inl ((wO hl hp _ g.j lz).mpr ⟨t,by omega,.inl t2,t3,t4⟩)
       . intro h;have h:gM p s g.i g.j=true:=h.elim id (ay hg hl hp);obtain ⟨t,t1,t2,t3,t4⟩:=(wO hl hp _ g.j lz).mp h;by_cases he:t=g.j
         . rw [he] at t4;exact .inl t4
         . exact .inr ⟨by omega,t,by omega,by omega,t3,t4⟩
     . rename_i c2;split at e
       . rename_i c3;cases e;obtain ⟨hl,hj,h1⟩:=c3;have hp:p.getD g.i 0≠42:=fun h=>c2 ⟨hl,h⟩;have HN:GInv p s ⟨g.i+1,g.j+1,g.st,g.fr⟩:=by
          refine { o1 with on:=?_ };intro h;obtain ⟨o,k⟩:=hg.on h;refine ⟨by dsimp only;omega,fun m hm=>?_⟩;dsimp only at hm ⊢;by_cases hm':g.st+m<g.i
          . exact k m hm'
          . have d:g.st+m=g.i:=by omega
            have f:g.fr+m=g.j:=by omega
            rw [d,f];exact ⟨hp,h1⟩
         have ih:=gq n _ HN (by omega);refine ih.trans ?_;dsimp only;rw [cu hl hp,X0 hj,h1,Y1,Y1]
       . rename_i c3;split at e
         . cases e
         . rename_i c4;simp only [not_or] at c4;obtain ⟨h0,q,c⟩:=c4;cases e;have hi:=hg.i;have hj:=hg.j;have l:=hg.fr;have a:¬gM p s g.i g.j=true:=by
            intro h;by_cases hl:g.i<p.length
            . have hp:p.getD g.i 0≠42:=fun h=>c2 ⟨hl,h⟩;rw [cu hl hp] at h;simp only [X3,J6] at h;exact absurd ⟨hl,h.1.1,h.1.2⟩ c3
            . rw [rX (by omega),J6] at h;exact absurd ⟨by omega,by omega⟩ c1
           have ih:=gq n ⟨g.st,g.fr+1,g.st,g.fr+1⟩ { o1 with on:=fun _=>⟨by dsimp only;omega,fun m hm=>by dsimp only at hm;omega⟩ } (by omega);refine ih.trans ?_;dsimp only;constructor
           . rintro (h|⟨-,t,t1,t2,t3,t4⟩)
             . exact .inr ⟨h0,g.fr+1,by omega,by omega,fun y h1 h2=>by rw [show y=g.fr from by omega];exact c,h⟩
             . exact .inr ⟨h0,t,by omega,t2,fun y h1 h2=>by
                by_cases he:y=g.fr
                . rw [he];exact c
                . exact t3 y (by omega) h2,t4⟩
           . rintro (h|⟨-,t,t1,t2,t3,t4⟩)
             . exact absurd h a
             . by_cases he:t=g.fr+1
               . rw [he] at t4;exact .inl t4
               . exact .inr ⟨h0,t,by omega,t2,fun y h1 h2=>t3 y (by omega) h2,t4⟩
theorem iY (p s:List Int):pO p s=zi p s:=by have h:=gq _ ⟨0,0,0,0⟩ (GInv.start p s) (Nat.lt_succ_self _);have a:wZ p s ⟨0,0,0,0⟩=true↔zi p s=true:=h.trans ⟨fun h=>h.elim id (fun h=>absurd rfl h.1),.inl⟩;exact Bool.eq_iff_iff.mpr a
def wX (p:List Int) (r:Int) (at_:Nat->Bool) (k:Nat):Bool:=(decide (k<p.length/\p.getD k 0=42/\r≠47) && at_ k) || (decide (0<k/\k<=p.length/\p.getD (k - 1) 0≠42/\j7 (p.getD (k - 1) 0) r=true) && at_ (k - 1))
def gOn (p:List Int) (at_:Nat->Bool):Nat->Bool
 | 0=>at_ 0
 | k+1=>at_ (k+1) || (decide (k<p.length/\p.getD k 0=42) && gOn p at_ k)
def uQ (p:List Int):List Int->(Nat->Bool)->Nat->Bool
 | [],at_=>at_
 | r :: s,at_=>uQ p s (gOn p (wX p r at_))
def iG (p s:List Int):Bool:=uQ p s (gOn p fun k=>decide (k=0)) p.length
def iB (p s:List Int) (at_:Nat->Bool):Prop:=∃k,k<=p.length/\at_ k=true/\zi (p.drop k) s=true
theorem da {p s:List Int} {k:Nat} (h:k<p.length) (b:p.getD k 0=42) (a:zi (p.drop (k+1)) s=true):zi (p.drop k) s=true:=by
 rw [z8 h,b];cases s with
 | nil=>rw [zi,J8 rfl];exact a
 | cons c s=>rw [zi,J8 rfl,a,Bool.true_or]
theorem sd {p s:List Int} {d:Nat->Bool}:iB p s (gOn p d)↔iB p s d:=by
 constructor
 . rintro ⟨k,c,a,b⟩
   induction k with
   | zero=>exact ⟨0,c,a,b⟩
   | succ k ih =>
    rw [gOn,Bool.or_eq_true,X3,J6] at a;rcases a with a|⟨⟨h1,h2⟩,h3⟩
    . exact ⟨k+1,c,a,b⟩
    . exact ih (by omega) h3 (da h1 h2 b)
 . rintro ⟨k,c,a,b⟩;refine ⟨k,c,?_,b⟩;cases k with
   | zero=>exact a
   | succ k=>rw [gOn,a,Bool.true_or]
theorem pE {p:List Int} {a:Nat->Bool} {k:Nat} (h:k<p.length) (c:p.getD k 0=42) (b:gOn p a k=true):gOn p a (k+1)=true:=by rw [gOn,b,X0 (show k<p.length/\p.getD k 0=42 from ⟨h,c⟩),Y1,Bool.or_true]
theorem ag {p s:List Int} {r:Int} {A:Nat->Bool} (g:∀k,k<p.length->p.getD k 0=42->A k=true->A (k+1)=true):iB p s (gOn p (wX p r A))↔iB p (r :: s) A:=by
 rw [sd];constructor
 . rintro ⟨k,e,d,a⟩;unfold wX at d;simp only [Bool.or_eq_true,X3,J6] at d;rcases d with ⟨⟨h1,h2,h3⟩,h4⟩|⟨⟨h1,h2,h3,h4⟩,h5⟩
   . refine ⟨k,e,h4,?_⟩;rw [z8 h1,h2] at a ⊢;rw [zi,J8 rfl,a];simp [h3]
   . refine ⟨k - 1,by omega,h5,?_⟩;rw [z8 (by omega),zi,J3 h3,h4,Y1,show k - 1+1=k from by omega];exact a
 . rintro ⟨k,e,d,a⟩;obtain ⟨n,f⟩:=O1 (p.length - k)
   induction n generalizing k with
   | zero => rw [N7 (by omega),zi] at a;cases a
   | succ n ih =>
    have c:k<p.length:=by omega
    by_cases hp:p.getD k 0=42
    . have b:=a;rw [z8 c,hp,zi,J8 rfl,Bool.or_eq_true,X3,J6] at b;rcases b with b|⟨h1,h2⟩
      . exact ih (k+1) (by omega) (g k c hp d) b (by omega)
      . refine ⟨k,e,?_,?_⟩
        . unfold wX;rw [d,X0 (show k<p.length/\p.getD k 0=42/\r≠47 from ⟨c,hp,h1⟩)];rfl
        . rw [z8 c,hp];exact h2
    . have b:=a;rw [z8 c,zi,J3 hp,X3] at b;refine ⟨k+1,c,?_,b.2⟩;unfold wX;rw [show k+1 - 1=k from by omega,d,X0 (show 0<k+1/\k+1<=p.length/\p.getD k 0≠42/\j7 (p.getD k 0) r=true from ⟨by omega,c,hp,b.1⟩)];simp
theorem dt {p:List Int}:∀(s:List Int) (a:Nat->Bool),uQ p s (gOn p a) p.length=true↔iB p s (gOn p a)
 | [],a=>by
  rw [uQ];constructor
  . intro h;exact ⟨p.length,J9 _,h,by rw [List.drop_length,zi]⟩
  . rintro ⟨k,k1,k2,k3⟩;obtain ⟨n,hn⟩:=O1 (p.length - k)
    induction n generalizing k with
    | zero=>rwa [show k=p.length from by omega] at k2
    | succ n ih =>
     have hl:k<p.length:=by omega
     rw [z8 hl,zi] at k3;by_cases hp:p.getD k 0=42
     . rw [J8 hp] at k3;exact ih (k+1) hl (pE hl hp k2) k3 (by omega)
     . rw [J3 hp] at k3;cases k3
 | r :: s,a=>by rw [uQ];exact (dt s _).trans (ag fun k h1 h2 h3=>pE h1 h2 h3)
theorem iP (p s:List Int):iG p s=zi p s:=by
 refine Bool.eq_iff_iff.mpr ((dt s _).trans (sd.trans ?_));constructor
 . rintro ⟨k,-,b,a⟩;rw [zb5 b,za1] at a;exact a
 . intro h;exact ⟨0,X7 _,rfl,by rw [za1];exact h⟩
theorem di (p s:List Int):pO p s=iG p s:=(iY p s).trans (iP p s).symm
open Go.ChangeShapes Go.WideShapes Go.ChangeAt Go.Joins Go.Deep
section
variable {H:Type} {enc:TypeId × Value->H} {P:Program} {w:World} {spare:Nat->Bool} {held:Bool}
end
theorem uD:Tryz.prog.cellsOf 43=2:=by kernel_rfl
theorem ab {H:Type} {enc:TypeId × Value->H} {w:World} {I:Nat->Bool} {K:Bool} {J:Nat} {c:Value} {x:DataW H × List MemPlace} (h:DataW.trod enc Tryz.prog w 0 I K J 28 [c]=some x) :
 ∃(a:Option Addr) (cap:Nat) (l:List Key2),c=.slice a l.length cap/\l.length<=cap/\l.length<=maxLen/\(∀k ∈ l,k.1.size<=maxLen/\k.2.size<=maxLen)/\xu w 0 w.heap.size a l:=by
 rcases DataW.trod_slice Tryz.underlying28 h with ⟨e4,_⟩|⟨a,len,cap,elems,rest,n',hn',e4,hy,_,hl,hcm,hlen,hel,_,_⟩
 . simp at e4;subst e4;exact ⟨none,0,[],rfl,J9 _,by simp,by simp,.inl rfl⟩
 . simp at e4;subst e4;rw [uD] at hel;have e:∀i,i<len->∃k:Key2,w.cell? (a.add (i * 2))=some (.string k.1)/\w.cell? ((a.add (i * 2)).add 1)=some (.string k.2)/\k.1.size<=maxLen/\k.2.size<=maxLen:=by
    intro i hi;have:=hel i hi;rw [V3 (by omega)] at this;obtain ⟨r,u,v⟩:=Option.bind_eq_some_iff.1 this;obtain ⟨_,E,q⟩:=World.cells?_some u;obtain ⟨C,D,F,G,m,rfl,y,z⟩:=dd Tryz.underlying43 (by kernel_rfl) uD v
    all_goals
     obtain ⟨s,o,_,A⟩:=DataW.trod_string Y6 y;obtain ⟨t,p,_,B⟩:=DataW.trod_string Y6 z;simp only [G5,zb6] at o p;subst o p;have b:=q 0 (by omega);have f:=q 1 (by omega);rw [show (a.add (i * 2)).add 0=a.add (i * 2) by simp [Addr.add]] at b;exact ⟨(s,t),b,f,A,B⟩
   obtain ⟨l,g,d⟩:=wn len e;refine ⟨some a,cap,l,by rw [g],by omega,by omega,fun k hk=>?_,?_⟩
   . obtain ⟨i,hi,rfl⟩:=V4 hk;exact (d i hi).2.2
   . by_cases h0:len=0
     . exact .inl (Y8 (by omega))
     . have b:=(d 0 (by omega)).1;rw [Nat.zero_mul,show a.add 0=a by simp [Addr.add]] at b;have j:=yX b;refine .inr ⟨a.block,a.off,by rw [<- j],X7 _,H8 w _ b,fun i hi=>?_⟩;obtain ⟨b,f,_⟩:=d i hi;rw [j,yE] at b f;rw [yE] at f;exact ⟨b,f⟩
def gE (k:Key2):List Value:=[.string k.1,.string k.2]
theorem uL {M:List Key2} (i:Nat) (hi:i<M.length):(M.flatMap gE)[i * 2]?=some (.string M[i].1)/\(M.flatMap gE)[i * 2+1]?=some (.string M[i].2):=by
 induction M generalizing i with
 | nil=>simp at hi
 | cons k r ih =>
  rw [List.flatMap_cons];rcases i with _|i
  . exact ⟨rfl,rfl⟩
  . have:=ih i (by simpa using hi);rw [G1 (by simp [gE];omega),G1 (by simp [gE];omega)];have a:(i+1) * 2 - (gE k).length=i * 2:=by simp [gE];omega
    have b:(i+1) * 2+1 - (gE k).length=i * 2+1:=by simp [gE];omega
    rw [a,b];exact this
theorem uR {w:World} {k e:Nat} {v:Value} {n:Nat} {M:List Key2} (h:w.ownsRow k e 2 v n (M.flatMap gE)) (l:n=M.length) :
 ∃a c,v=.slice a M.length c/\xu w k w.heap.size a M:=by
 subst l;rcases h.2 with ⟨rfl,h0⟩|⟨g,cap,cur,rfl,hg,hh,hc,hm,hs,ht⟩
 . exact ⟨none,0,by rw [h0],.inl (Y8 h0)⟩
 . refine ⟨_,_,rfl,.inr ⟨g,0,rfl,hg,qx hh,fun i hi=>?_⟩⟩;have f:∀j,(⟨g,0,none⟩:Addr).add j=⟨g,0+j,none⟩:=fun j=>by unfold Addr.add;split <;> simp_all
   have b:=h.cells (g:=g) rfl _ _ (uL i hi).1;have d:=h.cells (g:=g) rfl _ _ (uL i hi).2;rw [f] at b d;exact ⟨b,by rw [Nat.add_assoc];exact d⟩
theorem below_grown {B:Nat} {W w w':World} {v:Value} (a:Below B W w) (f:B<=w.heap.size) (c:w.grownBy w' v.ownBlock) (d:∀b,v.ownBlock=some b->B<=b):Below B W w':=by refine ⟨by rw [c.os,a.os],by rw [c.tape,a.tape],by rw [c.output,a.output],J1 a.size c.size,fun b hlt=>?_⟩;rw [c.block b (by omega) (fun e=>by have:=d b e.symm;omega)];exact a.block b hlt
theorem Q2 {W:World} {b k:Nat} (v0 v1:Value) (a:k≠b):((W.setCell ⟨b,0,none⟩ v0).setCell ⟨b,1,none⟩ v1).heap[k]?=W.heap[k]?:=by rw [X5 _ _ _ _ a,X5 _ _ _ _ a]
theorem ZN {W:World} {b:Nat} {v0 v1:Value}:((W.setCell ⟨b,0,none⟩ v0).setCell ⟨b,1,none⟩ v1).heap.size=W.heap.size:=by simp [World.setCell]
theorem gz {W:World} {b:Nat} {v0 v1 v2 v3 v4 a:Value}:((((((W.setCell ⟨b,0,none⟩ v0).setCell ⟨b,1,none⟩ v1).setCell ⟨b,2,none⟩ v2).setCell ⟨b,3,none⟩ v3).setCell ⟨b,4,none⟩ v4).setCell ⟨b,5,none⟩ a).heap.size=W.heap.size:=by simp [World.setCell]
