import Derived.Test.YthgembbgcbaghaaGreatDoorDg21

namespace Go.Proofs.YthgembbgcbaghaaGreatDoor
open Go.RowKit
def br (c:UInt8):ByteArray:=⟨(List.replicate 64 c).toArray⟩
def Zd (c:UInt8):AuthV:=⟨1,[br c]⟩
def raN:ByteArray:=⟨#[97]⟩
structure DelegV where
 name:ByteArray
 au:AuthV
 term:Bool
 paths:List ByteArray
 pres:List ByteArray
deriving DecidableEq
structure BinsV where
 bits:Int
 pre:ByteArray
 au:AuthV
deriving DecidableEq
structure DelegsV where
 keys:List Key2
 roles:List DelegV
 bins:BinsV
deriving DecidableEq
def vq:DelegV:=⟨⟨#[]⟩,authZ,false,[],[]⟩
def jW:BinsV:=⟨0,⟨#[]⟩,authZ⟩
def j4:DelegsV:=⟨[],[],jW⟩
def vl (s:ByteArray):Bool:=decide (s=gr\/s=cK\/s=cV)
def qG (s:ByteArray):Bool:=decide (1<=s.size/\s.size<=256) && !(s.data.toList.headD 0 == 47) && vF s
def preB (s:ByteArray):Bool:=decide (1<=s.size/\s.size<=64) && jb s.data.toList
def qi (x:DelegV):Bool:=zg x.name.data.toList && !vl x.name && jg x.au && (if x.paths≠[] then x.pres.isEmpty && decide (x.paths.length<=32) && x.paths.all qG else !x.pres.isEmpty && decide (x.pres.length<=32) && x.pres.all preB)
def zu (b:BinsV):Int:=if b.bits<1\/32<b.bits then 1 else if zg b.pre.data.toList=false then 3 else if 64<b.pre.size+1+(b.bits.toNat+3) / 4 then 5 else 0
def q6 (b:BinsV):Bool:=decide (zu b=0) && jg b.au && !vl b.pre
def q8 (b:BinsV):Bool:=decide (b.bits=0/\b.pre=⟨#[]⟩/\b.au.thr=0/\b.au.ids=[])
def xZ:List DelegV->Bool
 | []=>true
 | x :: r=>!(r.any fun y=>decide (y.name=x.name)) && xZ r
def za (b:Bool):JV:=.mk 1 (if b then 1 else 0) ⟨#[]⟩ [] []
def zx:ByteArray:=⟨#[110,97,109,101]⟩
def zC:ByteArray:=⟨#[112,97,116,104,95,104,97,115,104,95,112,114,101,102,105,120,101,115]⟩
def xd:ByteArray:=⟨#[112,97,116,104,115]⟩
def trmN:ByteArray:=⟨#[116,101,114,109,105,110,97,116,105,110,103]⟩
def ji:ByteArray:=⟨#[98,105,116,95,108,101,110,103,116,104]⟩
def jY:ByteArray:=⟨#[110,97,109,101,95,112,114,101,102,105,120]⟩
def xP:ByteArray:=⟨#[115,117,99,99,105,110,99,116,95,114,111,108,101,115]⟩
def zY (x:DelegV):List NJ:=[(qy,qb x.au.ids),(zx,txtJ x.name),(if x.paths≠[] then (xd,qb x.paths) else (zC,qb x.pres)),(trmN,za x.term),(thrN,zv x.au.thr)]
def qu (x:DelegV):JV:=kx (zY x)
def mu (b:BinsV):List NJ:=[(ji,zv b.bits),(qy,qb b.au.ids),(jY,txtJ b.pre),(thrN,zv b.au.thr)]
def zL (b:BinsV):JV:=kx (mu b)
def qT (d:DelegsV):List NJ:=(qF,zt d.keys) :: (if q8 d.bins then [(xC,zB (d.roles.map qu))] else [(xP,zL d.bins)])
def qf (d:DelegsV):JV:=kx (qT d)
def qL (d:DelegsV):Bool:=zy d.keys && (if q8 d.bins then decide (d.roles.length<=64) && d.roles.all qi && xZ d.roles else d.roles.isEmpty && q6 d.bins) && (qf d).mayB
def qI (v:JV) (y:ByteArray) (st:PS):Bool × PS :=
 if st.err≠0 then (false,st) else match v.look y with
 | none=>(false,⟨st.asked,6⟩)
 | some it=>if it.kind≠1 then (false,⟨st.asked,10⟩) else (decide (it.n=1),⟨y :: st.asked,0⟩)
def qY (v:JV) (y:ByteArray) (most:Nat) (st:PS):List JV × PS :=
 if st.err≠0 then ([],st) else match v.look y with
 | none=>([],⟨st.asked,6⟩)
 | some it=>if it.kind≠4 then ([],⟨st.asked,10⟩) else if most<it.items.length then ([],⟨st.asked,5⟩) else (it.items,⟨y :: st.asked,0⟩)
def dgN (v:JV):ByteArray × PS:=qm v zx ⟨[],0⟩
def dgA (v:JV):AuthV × PS:=kS v (dgN v).2
def dgT (v:JV):Bool × PS:=qI v trmN (dgA v).2
def dgP (v:JV):(List ByteArray × List ByteArray) × PS:=if q9 v zC (dgT v).2 then (([],(qw v zC 32 (dgT v).2).1),(qw v zC 32 (dgT v).2).2) else (((qw v xd 32 (dgT v).2).1,[]),(qw v xd 32 (dgT v).2).2)
def dgX (v:JV):DelegV:=⟨(dgN v).1,(dgA v).1,(dgT v).1,(dgP v).1.1,(dgP v).1.2⟩
def zI (v:JV):DelegV × Int:=if v.kind≠5 then (vq,10) else if qd v (dgP v).2≠0 then (vq,qd v (dgP v).2) else if qi (dgX v) then (dgX v,0) else (vq,3)
def xK:List JV->List DelegV->List DelegV × Int
 | [],acc=>(acc,0)
 | v :: r,acc=>if (zI v).2≠0 then ([],(zI v).2) else if acc.any (fun y=>decide (y.name=(zI v).1.name)) then ([],7) else xK r (acc ++ [(zI v).1])
def bnA (v:JV):AuthV × PS:=kS v ⟨[],0⟩
def bnB (v:JV):Int × PS:=qA v ji 1 32 (bnA v).2
def bnP (v:JV):ByteArray × PS:=qm v jY (bnB v).2
def xG (v:JV):BinsV × Int:=if v.kind≠5 then (jW,10) else if qd v (bnP v).2≠0 then (jW,qd v (bnP v).2) else if q6 ⟨(bnB v).1,(bnP v).1,(bnA v).1⟩ then (⟨(bnB v).1,(bnP v).1,(bnA v).1⟩,0) else (jW,3)
def dlK (v:JV):JV × PS:=qQ v qF 32 ⟨[],0⟩
def dlL (v:JV):List Key2 × Int:=jk (dlK v).1
def dlS (v:JV):PS:=(dlK v).2.fail (dlL v).2
def dlO (v:JV):JV × PS:=qQ v xP 8192 (dlS v)
def dlR (v:JV):List JV × PS:=qY v xC 64 (dlS v)
def dlB (v:JV):(BinsV × List DelegV) × PS:=if q9 v xP (dlS v) then (((xG (dlO v).1).1,[]),(dlO v).2.fail (xG (dlO v).1).2) else ((jW,(xK (dlR v).1 []).1),(dlR v).2.fail (xK (dlR v).1 []).2)
def bt (v:JV):DelegsV × Int:=if qd v (dlB v).2≠0 then (j4,qd v (dlB v).2) else (⟨(dlL v).1,(dlB v).1.2,(dlB v).1.1⟩,0)
def xA (v:JV):DelegsV × Int:=if v.mayB=false then (j4,3) else if v.kind≠5 then (j4,10) else bt v
def oX:ByteArray:=⟨#[42]⟩
def bbN:ByteArray:=⟨#[98]⟩
def ppN:ByteArray:=⟨#[112]⟩
theorem dI {v:JV} {a:AuthV} {s:List ByteArray} (h:jg a=true) (j:v.look qy=some (qb a.ids)) (k:v.look thrN=some (zv a.thr)):kS v ⟨s,0⟩=(a,⟨thrN :: qy :: s,0⟩):=by
 obtain ⟨b,f,hi⟩:=zO h;have d:qw v qy 16 ⟨s,0⟩=(a.ids,⟨qy :: s,0⟩):=vD j b.2;have c:¬a.ids=[]:=fun e=>by rw [e] at b;simp at b
 have g:kN v ⟨s,0⟩=⟨qy :: s,0⟩:=(by unfold kN;rw [d];dsimp only;rw [J3 c,hi];rfl);have i:wh v ⟨s,0⟩=(a.thr,⟨thrN :: qy :: s,0⟩):=(by unfold wh;rw [d,g];exact fB k f.1 f.2);unfold kS;rw [i,d];rfl
theorem dO {v:JV} {y:ByteArray} {b:Bool} {s:List ByteArray} (h:v.look y=some (za b)):qI v y ⟨s,0⟩=(b,⟨y :: s,0⟩):=by unfold qI;rw [J3 (by simp),h];show (if (za b).kind≠1 then _ else _:Bool × PS)=_;rw [J3 (by simp [za,JV.kind])];cases b <;> rfl
theorem dE {v:JV} {y:ByteArray} {l:List JV} {a:Nat} {s:List ByteArray} (h:v.look y=some (zB l)) (b:l.length<=a):qY v y a ⟨s,0⟩=(l,⟨y :: s,0⟩):=by unfold qY;rw [J3 (by simp),h];show (if (zB l).kind≠4 then _ else if a<l.length then _ else _:List JV × PS)=_;rw [J3 (by simp [zB,JV.kind]),J3 (by omega)];rfl
theorem fI:(qy≠zx/\qy≠xd/\qy≠zC/\qy≠trmN/\qy≠thrN/\zx≠xd/\zx≠zC/\zx≠trmN/\zx≠thrN)/\(xd≠zC/\xd≠trmN/\xd≠thrN/\zC≠xd/\zC≠trmN/\zC≠thrN/\trmN≠thrN)/\(trmN≠zC/\thrN≠zC/\ji≠qy/\ji≠jY/\ji≠thrN/\qy≠jY/\jY≠thrN/\qF≠xC/\qF≠xP/\xC≠xP):=by decide
theorem xj {x:DelegV} (h:qi x=true):zg x.name.data.toList=true/\vl x.name=false/\jg x.au=true/\((x.paths≠[]/\x.pres=[]/\x.paths.length<=32/\x.paths.all qG=true)\/(x.paths=[]/\x.pres≠[]/\x.pres.length<=32/\x.pres.all preB=true)):=by
 unfold qi at h;simp only [X3,Bool.not_eq_true'] at h;refine ⟨h.1.1.1,h.1.1.2,h.1.2,?_⟩;have a:=h.2;split at a
 . rename_i hp;simp only [X3,J6,List.isEmpty_iff] at a;exact .inl ⟨hp,a.1.1,a.1.2,a.2⟩
 . rename_i hp;simp only [X3,J6,Bool.not_eq_true',List.isEmpty_eq_false_iff] at a;exact .inr ⟨by simpa using hp,a.1.1,a.1.2,a.2⟩
theorem nh {x:DelegV} (h:qi x=true):zI (qu x)=(x,0):=by
 obtain ⟨R,S,L,M⟩:=xj h;obtain ⟨⟨u,v,i,w,z,A,j,B,C⟩,⟨D,E,F,Q,G,H,I⟩,⟨J,K,-⟩⟩:=fI;have s:(qu x).kind=5:=rfl;have g:∀(q:NJ),(∀y,(qu x).look y=qE [qy,zx,q.1,trmN,thrN] [qb x.au.ids,txtJ x.name,q.2,za x.term,zv x.au.thr] y)->(q.1=xd\/q.1=zC)->dgN (qu x)=(x.name,⟨[zx],0⟩)/\dgA (qu x)=(x.au,⟨[thrN,qy,zx],0⟩)/\dgT (qu x)=(x.term,⟨[trmN,thrN,qy,zx],0⟩):=by
  intro q e hq;have N:q.1≠trmN:=by rcases hq with e|e <;> rw [e];exact E;exact G
  have P:q.1≠thrN:=by rcases hq with e|e <;> rw [e];exact F;exact H
  have b:dgN (qu x)=(x.name,⟨[zx],0⟩):=bO (by rw [e];simp [qE,u]);have c:dgA (qu x)=(x.au,⟨[thrN,qy,zx],0⟩):=(by unfold dgA;rw [b];exact dI L (by rw [e];simp [qE]) (by rw [e];simp [qE,z,C,P,I]));refine ⟨b,c,?_⟩;unfold dgT;rw [c];exact dO (by rw [e];simp [qE,w,B,N])
 rcases M with ⟨p1,p2,p3,p4⟩|⟨p1,p2,p3,p4⟩
 . have e:∀y,(qu x).look y=qE [qy,zx,xd,trmN,thrN] [qb x.au.ids,txtJ x.name,qb x.paths,za x.term,zv x.au.thr] y:=fun y=>by
    show qE ((zY x).map (·.1)) ((zY x).map (·.2)) y=_;unfold zY;rw [J8 p1];rfl
   obtain ⟨b,c,d⟩:=g (xd,qb x.paths) e (.inl rfl);have k:q9 (qu x) zC ⟨[trmN,thrN,qy,zx],0⟩=false:=(by unfold q9;rw [e];simp [qE,i,j,D,J,K]);have f:dgP (qu x)=((x.paths,[]),⟨[xd,trmN,thrN,qy,zx],0⟩):=(by unfold dgP;rw [d,k,J3 (by decide),vD (l:=x.paths) (by rw [e];simp [qE,v,A]) p3]);have m:dgX (qu x)=x:=(by unfold dgX;rw [b,c,d,f];obtain ⟨n,a,t,p,r⟩:=x;dsimp only at p2 ⊢;rw [p2]);have o:qd (qu x) (dgP (qu x)).2=0:=by
    rw [f];unfold qd;rw [J3 (by simp),J8];have:(qu x).names=[qy,zx,xd,trmN,thrN]:=by show (zY x).map (·.1)=_;unfold zY;rw [J8 p1];rfl
    rw [this];simp
   unfold zI;rw [J3 (by simp [s]),o,J3 (by simp),m,J8 h]
 . have e:∀y,(qu x).look y=qE [qy,zx,zC,trmN,thrN] [qb x.au.ids,txtJ x.name,qb x.pres,za x.term,zv x.au.thr] y:=fun y=>by
    show qE ((zY x).map (·.1)) ((zY x).map (·.2)) y=_;unfold zY;rw [J3 (by simp [p1])];rfl
   obtain ⟨b,c,d⟩:=g (zC,qb x.pres) e (.inr rfl);have k:q9 (qu x) zC ⟨[trmN,thrN,qy,zx],0⟩=true:=(by unfold q9;rw [e];simp [qE,i,j]);have f:dgP (qu x)=(([],x.pres),⟨[zC,trmN,thrN,qy,zx],0⟩):=(by unfold dgP;rw [d,k,J8 rfl,vD (l:=x.pres) (by rw [e];simp [qE,i,j]) p3]);have m:dgX (qu x)=x:=(by unfold dgX;rw [b,c,d,f];obtain ⟨n,a,t,p,r⟩:=x;dsimp only at p1 ⊢;rw [p1]);have o:qd (qu x) (dgP (qu x)).2=0:=by
    rw [f];unfold qd;rw [J3 (by simp),J8];have:(qu x).names=[qy,zx,zC,trmN,thrN]:=by show (zY x).map (·.1)=_;unfold zY;rw [J3 (by simp [p1])];rfl
    rw [this];simp
   unfold zI;rw [J3 (by simp [s]),o,J3 (by simp),m,J8 h]
theorem pz:∀(l acc:List DelegV),l.all qi=true->xZ (acc ++ l)=true->xK (l.map qu) acc=(acc ++ l,0)
 | [],acc,_,_=>by simp [xK]
 | x :: r,acc,h,hn=>by
  rw [List.all_cons,X3] at h;have e:=nh h.1;have hno:acc.any (fun y=>decide (y.name=x.name))=false:=by
   rw [Bool.eq_false_iff];intro h2;obtain ⟨y,hy,a⟩:=zd4.1 h2;have a:=zb5 a;clear h e h2
   induction acc with
   | nil=>simp at hy
   | cons z acc ih =>
    rw [List.cons_append,xZ,X3,Bool.not_eq_true'] at hn;rcases H0.1 hy with rfl|hy
    . have:(acc ++ x :: r).any (fun w=>decide (w.name=y.name))=true:=zd4.2 ⟨x,by simp,by simp [a]⟩;rw [this] at hn;simp at hn
    . exact ih hn.2 hy
  rw [N6,xK,e];dsimp only;rw [J3 (by simp),hno,J3 (by decide),pz r (acc ++ [x]) h.2 (by rw [List.append_assoc];exact hn),List.append_assoc];rfl
theorem yl {b:BinsV} (h:q6 b=true):(1<=b.bits/\b.bits<=32)/\zg b.pre.data.toList=true/\jg b.au=true/\vl b.pre=false:=by
 unfold q6 at h;simp only [X3,J6,Bool.not_eq_true'] at h;obtain ⟨⟨a,c⟩,d⟩:=h;unfold zu at a;split at a
 . exact absurd a (by decide)
 . rename_i hb;split at a
   . exact absurd a (by decide)
   . rename_i hr;exact ⟨by omega,by simpa using hr,c,d⟩
theorem aR {b:BinsV} (h:q6 b=true):xG (zL b)=(b,0):=by obtain ⟨f,v,p,w⟩:=yl h;obtain ⟨⟨q,r,s,u,g,-⟩,-,⟨-,-,i,j,k,l,m,-⟩⟩:=fI;have e:∀y,(zL b).look y=qE [ji,qy,jY,thrN] [zv b.bits,qb b.au.ids,txtJ b.pre,zv b.au.thr] y:=fun _=>rfl;have a:bnA (zL b)=(b.au,⟨[thrN,qy],0⟩):=dI p (by rw [e];simp [qE,i]) (by rw [e];simp [qE,k,g,m]);have c:bnB (zL b)=(b.bits,⟨[ji,thrN,qy],0⟩):=(by unfold bnB;rw [a];exact fB (by rw [e];simp [qE]) f.1 f.2);have d:bnP (zL b)=(b.pre,⟨[jY,ji,thrN,qy],0⟩):=(by unfold bnP;rw [c];exact bO (by rw [e];simp [qE,j,l]));have o:qd (zL b) (bnP (zL b)).2=0:=(by rw [d];unfold qd;rw [J3 (by simp),J8];simp [zL,kx,JV.names,mu]);unfold xG;rw [J3 (by simp [zL,kx,JV.kind]),o,J3 (by simp),a,c,d];exact J8 h
theorem d8 {d:DelegsV} (h:qL d=true):xA (qf d)=(d,0):=by
 have x:(qf d).mayB=true:=(by unfold qL at h;rw [X3] at h;exact h.2);unfold qL at h;simp only [X3] at h;obtain ⟨⟨C,g⟩,-⟩:=h;obtain ⟨u,z,A⟩:=zw.1 C;obtain ⟨-,-,⟨-,-,-,-,-,-,-,E,v,F⟩⟩:=fI;have w:(zt d.keys).items.length<=32:=by show (d.keys.map obj2).length<=32;rw [X9];exact u
 unfold xA;rw [J3 (by rw [x];decide),J3 (by simp [qf,kx,JV.kind])];clear x;cases hb0:q8 d.bins
 . rw [hb0] at g;simp only [Bool.false_eq_true,zf1,X3,List.isEmpty_iff] at g;obtain ⟨o,s⟩:=g;have e:∀y,(qf d).look y=qE [qF,xP] [zt d.keys,zL d.bins] y:=fun y=>by
    show qE ((qT d).map (·.1)) ((qT d).map (·.2)) y=_;unfold qT;rw [hb0];rfl
   have f:(qf d).names=[qF,xP]:=(by show (qT d).map (·.1)=_;unfold qT;rw [hb0];rfl);have i:dlK (qf d)=(zt d.keys,⟨[qF],0⟩):=yY (by rw [e];simp [qE]) rfl w;have j:dlL (qf d)=(d.keys,0):=by unfold dlL;rw [i];exact mh z A u
   have k:dlS (qf d)=⟨[qF],0⟩:=by unfold dlS;rw [i,j];rfl
   have p:q9 (qf d) xP ⟨[qF],0⟩=true:=by unfold q9;rw [e];simp [qE,v]
   have q:dlO (qf d)=(zL d.bins,⟨[xP,qF],0⟩):=(by unfold dlO;rw [k];exact yY (by rw [e];simp [qE,v]) rfl (by show 4<=8192;decide));have l:dlB (qf d)=((d.bins,[]),⟨[xP,qF],0⟩):=(by unfold dlB;rw [k,p,J8 rfl,q];dsimp only;rw [aR s];rfl);have r:qd (qf d) (dlB (qf d)).2=0:=(by rw [l];unfold qd;rw [J3 (by simp),J8];rw [f];simp);unfold bt;rw [r,J3 (by simp),j,l];obtain ⟨a,b,c⟩:=d;dsimp only at o ⊢;rw [o]
 . rw [hb0] at g;simp only [if_true,X3,J6] at g;obtain ⟨⟨o,B⟩,D⟩:=g;have e:∀y,(qf d).look y=qE [qF,xC] [zt d.keys,zB (d.roles.map qu)] y:=fun y=>by
    show qE ((qT d).map (·.1)) ((qT d).map (·.2)) y=_;unfold qT;rw [hb0];rfl
   have f:(qf d).names=[qF,xC]:=(by show (qT d).map (·.1)=_;unfold qT;rw [hb0];rfl);have i:dlK (qf d)=(zt d.keys,⟨[qF],0⟩):=yY (by rw [e];simp [qE]) rfl w;have j:dlL (qf d)=(d.keys,0):=by unfold dlL;rw [i];exact mh z A u
   have k:dlS (qf d)=⟨[qF],0⟩:=by unfold dlS;rw [i,j];rfl
   have p:q9 (qf d) xP ⟨[qF],0⟩=false:=by unfold q9;rw [e];simp [qE,v,F]
   have q:dlR (qf d)=(d.roles.map qu,⟨[xC,qF],0⟩):=(by unfold dlR;rw [k];exact dE (by rw [e];simp [qE,E]) (by rw [X9];exact o));have l:dlB (qf d)=((jW,d.roles),⟨[xC,qF],0⟩):=(by unfold dlB;rw [k,p,J3 (by decide),q];dsimp only;rw [pz d.roles [] B D];rfl);have r:qd (qf d) (dlB (qf d)).2=0:=(by rw [l];unfold qd;rw [J3 (by simp),J8];rw [f];simp);unfold bt;rw [r,J3 (by simp),j,l];obtain ⟨a,b,⟨G,H,⟨I,J⟩⟩⟩:=d;unfold q8 at hb0;have m:=zb5 hb0;dsimp only at m ⊢;obtain ⟨x1,x2,x3,x4⟩:=m;rw [x1,x2,x3,x4];rfl
theorem zf:qo [qy,zx,xd,trmN,thrN]=true/\qo [qy,zx,zC,trmN,thrN]=true/\qo [ji,qy,jY,thrN]=true/\qo [qF,xC]=true/\qo [qF,xP]=true:=⟨by kernel_rfl,by kernel_rfl,by kernel_rfl,by kernel_rfl,by kernel_rfl⟩
def vz (bits:Nat):Nat:=(bits+3) / 4
def jR:Nat->Nat->List UInt8
 | 0,_=>[]
 | w+1,n=>jR w (n / 16) ++ [qH (n % 16)]
theorem jv:∀w n,(jR w n).length=w
 | 0,_=>rfl
 | w+1,n=>by rw [jR,G6,jv w];rfl
def oJ:ByteArray:=⟨#[45]⟩
def uK (path:ByteArray):Nat:=((zk path.data.toList).getD 0 0).toNat * 16777216+((zk path.data.toList).getD 1 0).toNat * 65536+((zk path.data.toList).getD 2 0).toNat * 256+((zk path.data.toList).getD 3 0).toNat
def jN (path:ByteArray) (bits:Nat):Nat:=uK path / 2 ^ (32 - bits)
theorem sV (path:ByteArray):uK path<2 ^ 32:=by unfold uK;have a:=((zk path.data.toList).getD 0 0).toNat_lt;have b:=((zk path.data.toList).getD 1 0).toNat_lt;have c:=((zk path.data.toList).getD 2 0).toNat_lt;have d:=((zk path.data.toList).getD 3 0).toNat_lt;omega
theorem cB {path:ByteArray} {a:Nat} (h:a<=32):jN path a<2 ^ a:=by unfold jN;rw [Nat.div_lt_iff_lt_mul (Nat.two_pow_pos _),<- Nat.pow_add,show a+(32 - a)=32 from by omega];exact sV path
def zP (pre:ByteArray) (bits n:Nat):ByteArray:=pre ++ oJ ++ ⟨(jR (vz bits) n).toArray⟩
def d9 (path:ByteArray):ByteArray:=⟨(kg path.data.toList).toArray⟩
def vL (q s:ByteArray):Bool:=q.data.toList.isPrefixOf s.data.toList
def zV (l:List ByteArray) (path:ByteArray):Bool:=l.any fun q=>preB q && vL q (d9 path)
def xk (runes:ByteArray->List Int) (p s:ByteArray):Bool:=qG p && qG s && pO (runes p) (runes s)
def isD (runes:ByteArray->List Int) (x:DelegV) (path:ByteArray):Bool:=qi x && qG path && (if x.paths≠[] then x.paths.any (fun p=>xk runes p path) else zV x.pres path)
structure StepV where
 name:ByteArray
 au:AuthV
 term:Bool
def nu (x:DelegV):StepV:=⟨x.name,x.au,x.term⟩
def jr (runes:ByteArray->List Int) (path:ByteArray):List DelegV->List StepV
 | []=>[]
 | x :: r=>if isD runes x path then nu x :: (if x.term then [] else jr runes path r) else jr runes path r
def xv (runes:ByteArray->List Int) (d:DelegsV) (path:ByteArray):List StepV :=
 if qL d && qG path then (if q8 d.bins then jr runes path d.roles else [⟨zP d.bins.pre d.bins.bits.toNat (jN path d.bins.bits.toNat),d.bins.au,true⟩]) else []
theorem nc (N:List NJ):(kx N).wt=1+qt (N.map (·.1))+JV.wts (N.map (·.2)):=by show 1+(⟨#[]⟩:ByteArray).size+qt (N.map (·.1))+JV.wts (N.map (·.2))=_;rfl
theorem kj (t:ByteArray):(txtJ t).wt=1+t.size:=by simp [txtJ,JV.wt,JV.wts,qt]
theorem gi (n:Int):(zv n).wt=1:=by simp [zv,JV.wt,JV.wts,qt,ByteArray.size]
