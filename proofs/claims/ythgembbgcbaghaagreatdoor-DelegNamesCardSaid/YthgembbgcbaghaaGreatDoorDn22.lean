import Derived.Test.YthgembbgcbaghaaGreatDoorDn21

namespace Go.Proofs.YthgembbgcbaghaaGreatDoor
open Go.RowKit
def zA (c:UInt8):ByteArray:=⟨(List.replicate 64 c).toArray⟩
def vv (c:UInt8):AuthV:=⟨1,[zA c]⟩
def rxN:ByteArray:=⟨#[120]⟩
def raN:ByteArray:=⟨#[97]⟩
def zzN:ByteArray:=⟨#[48,48]⟩
structure DelegV where
 name:ByteArray
 au:AuthV
 term:Bool
 paths:List ByteArray
 pres:List ByteArray
deriving DecidableEq
structure BinsV where
 bits:Int
 pre:ByteArray
 au:AuthV
deriving DecidableEq
structure DelegsV where
 keys:List Key2
 roles:List DelegV
 bins:BinsV
deriving DecidableEq
def kf:DelegV:=⟨⟨#[]⟩,authZ,false,[],[]⟩
def xG:BinsV:=⟨0,⟨#[]⟩,authZ⟩
def delegsZ:DelegsV:=⟨[],[],xG⟩
def gc (s:ByteArray):Bool:=decide (s=pO\/s=rE\/s=lj)
def q8 (s:ByteArray):Bool:=decide (1<=s.size/\s.size<=256) && !(s.data.toList.headD 0 == 47) && wD s
def preB (s:ByteArray):Bool:=decide (1<=s.size/\s.size<=64) && xO s.data.toList
def qV (x:DelegV):Bool:=zl x.name.data.toList && !gc x.name && xD x.au && (if x.paths≠[] then x.pres.isEmpty && decide (x.paths.length<=32) && x.paths.all q8 else !x.pres.isEmpty && decide (x.pres.length<=32) && x.pres.all preB)
def zT (b:BinsV):Int:=if b.bits<1\/32<b.bits then 1 else if zl b.pre.data.toList=false then 3 else if 64<b.pre.size+1+(b.bits.toNat+3) / 4 then 5 else 0
def zk (b:BinsV):Bool:=decide (zT b=0) && xD b.au && !gc b.pre
def zK (b:BinsV):Bool:=decide (b.bits=0/\b.pre=⟨#[]⟩/\b.au.thr=0/\b.au.ids=[])
def xk:List DelegV->Bool
 | []=>true
 | x :: r=>!(r.any fun y=>decide (y.name=x.name)) && xk r
def qA (b:Bool):JV:=.mk 1 (if b then 1 else 0) ⟨#[]⟩ [] []
def zb:ByteArray:=⟨#[110,97,109,101]⟩
def zY:ByteArray:=⟨#[112,97,116,104,95,104,97,115,104,95,112,114,101,102,105,120,101,115]⟩
def xm:ByteArray:=⟨#[112,97,116,104,115]⟩
def trmN:ByteArray:=⟨#[116,101,114,109,105,110,97,116,105,110,103]⟩
def jl:ByteArray:=⟨#[98,105,116,95,108,101,110,103,116,104]⟩
def jS:ByteArray:=⟨#[110,97,109,101,95,112,114,101,102,105,120]⟩
def xW:ByteArray:=⟨#[115,117,99,99,105,110,99,116,95,114,111,108,101,115]⟩
def zG (x:DelegV):List NJ:=[(qp,qm x.au.ids),(zb,txtJ x.name),(if x.paths≠[] then (xm,qm x.paths) else (zY,qm x.pres)),(trmN,qA x.term),(thrN,qZ x.au.thr)]
def qQ (x:DelegV):JV:=z7 (zG x)
def pE (b:BinsV):List NJ:=[(jl,qZ b.bits),(qp,qm b.au.ids),(jS,txtJ b.pre),(thrN,qZ b.au.thr)]
def z8 (b:BinsV):JV:=z7 (pE b)
def zp (d:DelegsV):List NJ:=(qD,zP d.keys) :: (if zK d.bins then [(xZ,qk (d.roles.map qQ))] else [(xW,z8 d.bins)])
def qo (d:DelegsV):JV:=z7 (zp d)
def qH (d:DelegsV):Bool:=zc d.keys && (if zK d.bins then decide (d.roles.length<=64) && d.roles.all qV && xk d.roles else d.roles.isEmpty && zk d.bins) && (qo d).mayB
def qN (v:JV) (y:ByteArray) (st:PS):Bool × PS :=
 if st.err≠0 then (false,st) else match v.look y with
 | none=>(false,⟨st.asked,6⟩)
 | some it=>if it.kind≠1 then (false,⟨st.asked,10⟩) else (decide (it.n=1),⟨y :: st.asked,0⟩)
def qG (v:JV) (y:ByteArray) (most:Nat) (st:PS):List JV × PS :=
 if st.err≠0 then ([],st) else match v.look y with
 | none=>([],⟨st.asked,6⟩)
 | some it=>if it.kind≠4 then ([],⟨st.asked,10⟩) else if most<it.items.length then ([],⟨st.asked,5⟩) else (it.items,⟨y :: st.asked,0⟩)
def dgN (v:JV):ByteArray × PS:=qh v zb ⟨[],0⟩
def dgA (v:JV):AuthV × PS:=kz v (dgN v).2
def dgT (v:JV):Bool × PS:=qN v trmN (dgA v).2
def dgP (v:JV):(List ByteArray × List ByteArray) × PS:=if zq v zY (dgT v).2 then (([],(qg v zY 32 (dgT v).2).1),(qg v zY 32 (dgT v).2).2) else (((qg v xm 32 (dgT v).2).1,[]),(qg v xm 32 (dgT v).2).2)
def dgX (v:JV):DelegV:=⟨(dgN v).1,(dgA v).1,(dgT v).1,(dgP v).1.1,(dgP v).1.2⟩
def zV (v:JV):DelegV × Int:=if v.kind≠5 then (kf,10) else if qu v (dgP v).2≠0 then (kf,qu v (dgP v).2) else if qV (dgX v) then (dgX v,0) else (kf,3)
def xy:List JV->List DelegV->List DelegV × Int
 | [],acc=>(acc,0)
 | v :: r,acc=>if (zV v).2≠0 then ([],(zV v).2) else if acc.any (fun y=>decide (y.name=(zV v).1.name)) then ([],7) else xy r (acc ++ [(zV v).1])
def bnA (v:JV):AuthV × PS:=kz v ⟨[],0⟩
def bnB (v:JV):Int × PS:=qR v jl 1 32 (bnA v).2
def bnP (v:JV):ByteArray × PS:=qh v jS (bnB v).2
def xf (v:JV):BinsV × Int:=if v.kind≠5 then (xG,10) else if qu v (bnP v).2≠0 then (xG,qu v (bnP v).2) else if zk ⟨(bnB v).1,(bnP v).1,(bnA v).1⟩ then (⟨(bnB v).1,(bnP v).1,(bnA v).1⟩,0) else (xG,3)
def dlK (v:JV):JV × PS:=qi v qD 32 ⟨[],0⟩
def dlL (v:JV):List Key2 × Int:=xK (dlK v).1
def dlS (v:JV):PS:=(dlK v).2.fail (dlL v).2
def dlO (v:JV):JV × PS:=qi v xW 8192 (dlS v)
def dlR (v:JV):List JV × PS:=qG v xZ 64 (dlS v)
def dlB (v:JV):(BinsV × List DelegV) × PS:=if zq v xW (dlS v) then (((xf (dlO v).1).1,[]),(dlO v).2.fail (xf (dlO v).1).2) else ((xG,(xy (dlR v).1 []).1),(dlR v).2.fail (xy (dlR v).1 []).2)
def vC (v:JV):DelegsV × Int:=if qu v (dlB v).2≠0 then (delegsZ,qu v (dlB v).2) else (⟨(dlL v).1,(dlB v).1.2,(dlB v).1.1⟩,0)
def zy (v:JV):DelegsV × Int:=if v.mayB=false then (delegsZ,3) else if v.kind≠5 then (delegsZ,10) else vC v
def jj:JV:=qk [txtJ (zA 97)]
def xB:ByteArray:=⟨#[42]⟩
def tM:ByteArray:=⟨#[47]⟩
def ofN:ByteArray:=⟨#[48,102]⟩
def bbN:ByteArray:=⟨#[98]⟩
def ppN:ByteArray:=⟨#[112]⟩
def iX:ByteArray:=⟨#[109,111,114,101]⟩
def eJ:JV:=z7 []
def rJ (n:ByteArray) (p:JV):JV:=z7 [(qp,jj),(zb,txtJ n),(xm,p),(trmN,qA true),(thrN,qZ 1)]
def qf:JV:=qk [txtJ xB]
def zd:JV:=z7 [(qp,jj),(zb,txtJ raN),(zY,qk [txtJ ofN]),(xm,qf),(trmN,qA true),(thrN,qZ 1)]
def xR:JV:=z7 [(qp,jj),(zb,txtJ raN),(zY,qk [txtJ ofN]),(trmN,qA true),(thrN,qZ 1)]
def qS:JV:=z7 [(jl,qZ 1),(qp,jj),(jS,txtJ ppN),(thrN,qZ 1)]
def dOf (l:List JV):JV:=z7 [(qD,eJ),(xZ,qk l)]
def jr:List (JV × Int):=[(qF,3),(qk [],10),(eJ,6),(z7 [(qD,eJ)],6),(z7 [(qD,qk [])],10),(z7 [(xZ,qk [])],6),(dOf [],0),(dOf [rJ raN qf],0),(dOf [xR],0),(dOf [zd],11),(dOf [rJ lj qf],3),(dOf [rJ raN (qk [])],3),(dOf [rJ raN (qk [txtJ tM])],3),(dOf [rJ raN (txtJ xB)],10),(dOf [rJ raN qf,rJ raN qf],7),(dOf [rJ raN qf,rJ bbN qf],0),(dOf [qZ 1],10),(dOf [eJ],6),(z7 [(qD,eJ),(xW,qS)],0),(z7 [(qD,eJ),(xZ,qk []),(xW,qS)],11),(z7 [(qD,eJ),(iX,qZ 1),(xZ,qk [])],11),(z7 [(qD,z7 [(raN,eJ)]),(xZ,qk [])],6),(dOf (List.replicate 65 qF),3)]
theorem co:∀p ∈ jr,(zy p.1).2=p.2:=by decide +kernel
theorem lW:∀p ∈ jr,p.1.wt<=4294967296:=by decide +kernel
def wS:DelegV:=⟨raN,vv 97,false,List.replicate 32 xB,[]⟩
def iJ (n p:ByteArray):DelegV:=⟨n,vv 97,false,[p],[]⟩
theorem vm:qH delegsZ=true/\qH ⟨[],[wS],xG⟩=true/\qH ⟨[],[⟨raN,vv 97,false,List.replicate 33 xB,[]⟩],xG⟩=false/\qH ⟨[],[iJ raN xB,iJ raN rxN],xG⟩=false/\qV ⟨raN,vv 97,false,[xB],[zzN]⟩=false/\qV wS=true /\
 qH ⟨[],[],⟨2,pO,vv 97⟩⟩=false/\qH ⟨[],[wS],⟨2,ppN,vv 97⟩⟩=false/\qH ⟨[],[],⟨0,ppN,authZ⟩⟩=false:=by decide +kernel
theorem uW {v:JV} {a:AuthV} {s:List ByteArray} (h:xD a=true) (j:v.look qp=some (qm a.ids)) (k:v.look thrN=some (qZ a.thr)):kz v ⟨s,0⟩=(a,⟨thrN :: qp :: s,0⟩):=by
 obtain ⟨b,f,hi⟩:=xV h;have d:qg v qp 16 ⟨s,0⟩=(a.ids,⟨qp :: s,0⟩):=kR j b.2;have c:¬a.ids=[]:=fun e=>by rw [e] at b;simp at b
 have g:kq v ⟨s,0⟩=⟨qp :: s,0⟩:=(by unfold kq;rw [d];dsimp only;rw [Z6 c,hi];rfl);have i:vx v ⟨s,0⟩=(a.thr,⟨thrN :: qp :: s,0⟩):=(by unfold vx;rw [d,g];exact bz k f.1 f.2);unfold kz;rw [i,d];rfl
theorem uY {v:JV} {y:ByteArray} {b:Bool} {s:List ByteArray} (h:v.look y=some (qA b)):qN v y ⟨s,0⟩=(b,⟨y :: s,0⟩):=by unfold qN;rw [Z6 (by simp),h];show (if (qA b).kind≠1 then _ else _:Bool × PS)=_;rw [Z6 (by simp [qA,JV.kind])];cases b <;> rfl
theorem uG {v:JV} {y:ByteArray} {l:List JV} {a:Nat} {s:List ByteArray} (h:v.look y=some (qk l)) (b:l.length<=a):qG v y a ⟨s,0⟩=(l,⟨y :: s,0⟩):=by unfold qG;rw [Z6 (by simp),h];show (if (qk l).kind≠4 then _ else if a<l.length then _ else _:List JV × PS)=_;rw [Z6 (by simp [qk,JV.kind]),Z6 (by omega)];rfl
theorem bB:(qp≠zb/\qp≠xm/\qp≠zY/\qp≠trmN/\qp≠thrN/\zb≠xm/\zb≠zY/\zb≠trmN/\zb≠thrN)/\(xm≠zY/\xm≠trmN/\xm≠thrN/\zY≠xm/\zY≠trmN/\zY≠thrN/\trmN≠thrN)/\(trmN≠zY/\thrN≠zY/\jl≠qp/\jl≠jS/\jl≠thrN/\qp≠jS/\jS≠thrN/\qD≠xZ/\qD≠xW/\xZ≠xW):=by decide
theorem jA {x:DelegV} (h:qV x=true):zl x.name.data.toList=true/\gc x.name=false/\xD x.au=true/\((x.paths≠[]/\x.pres=[]/\x.paths.length<=32/\x.paths.all q8=true)\/(x.paths=[]/\x.pres≠[]/\x.pres.length<=32/\x.pres.all preB=true)):=by
 unfold qV at h;simp only [Q0,Bool.not_eq_true'] at h;refine ⟨h.1.1.1,h.1.1.2,h.1.2,?_⟩;have a:=h.2;split at a
 . rename_i hp;simp only [Q0,Z7,List.isEmpty_iff] at a;exact .inl ⟨hp,a.1.1,a.1.2,a.2⟩
 . rename_i hp;simp only [Q0,Z7,Bool.not_eq_true',List.isEmpty_eq_false_iff] at a;exact .inr ⟨by simpa using hp,a.1.1,a.1.2,a.2⟩
theorem ce {x:DelegV} (h:qV x=true):zV (qQ x)=(x,0):=by
 obtain ⟨R,S,L,M⟩:=jA h;obtain ⟨⟨u,v,i,w,z,A,j,B,C⟩,⟨D,E,F,Q,G,H,I⟩,⟨J,K,-⟩⟩:=bB;have s:(qQ x).kind=5:=rfl;have g:∀(q:NJ),(∀y,(qQ x).look y=qI [qp,zb,q.1,trmN,thrN] [qm x.au.ids,txtJ x.name,q.2,qA x.term,qZ x.au.thr] y)->(q.1=xm\/q.1=zY)->dgN (qQ x)=(x.name,⟨[zb],0⟩)/\dgA (qQ x)=(x.au,⟨[thrN,qp,zb],0⟩)/\dgT (qQ x)=(x.term,⟨[trmN,thrN,qp,zb],0⟩):=by
  intro q e hq;have N:q.1≠trmN:=by rcases hq with e|e <;> rw [e];exact E;exact G
  have P:q.1≠thrN:=by rcases hq with e|e <;> rw [e];exact F;exact H
  have b:dgN (qQ x)=(x.name,⟨[zb],0⟩):=y8 (by rw [e];simp [qI,u]);have c:dgA (qQ x)=(x.au,⟨[thrN,qp,zb],0⟩):=(by unfold dgA;rw [b];exact uW L (by rw [e];simp [qI]) (by rw [e];simp [qI,z,C,P,I]));refine ⟨b,c,?_⟩;unfold dgT;rw [c];exact uY (by rw [e];simp [qI,w,B,N])
 rcases M with ⟨p1,p2,p3,p4⟩|⟨p1,p2,p3,p4⟩
 . have e:∀y,(qQ x).look y=qI [qp,zb,xm,trmN,thrN] [qm x.au.ids,txtJ x.name,qm x.paths,qA x.term,qZ x.au.thr] y:=fun y=>by
    show qI ((zG x).map (·.1)) ((zG x).map (·.2)) y=_;unfold zG;rw [Q1 p1];rfl
   obtain ⟨b,c,d⟩:=g (xm,qm x.paths) e (.inl rfl);have k:zq (qQ x) zY ⟨[trmN,thrN,qp,zb],0⟩=false:=(by unfold zq;rw [e];simp [qI,i,j,D,J,K]);have f:dgP (qQ x)=((x.paths,[]),⟨[xm,trmN,thrN,qp,zb],0⟩):=(by unfold dgP;rw [d,k,Z6 (by decide),kR (l:=x.paths) (by rw [e];simp [qI,v,A]) p3]);have m:dgX (qQ x)=x:=(by unfold dgX;rw [b,c,d,f];obtain ⟨n,a,t,p,r⟩:=x;dsimp only at p2 ⊢;rw [p2]);have o:qu (qQ x) (dgP (qQ x)).2=0:=by
    rw [f];unfold qu;rw [Z6 (by simp),Q1];have:(qQ x).names=[qp,zb,xm,trmN,thrN]:=by show (zG x).map (·.1)=_;unfold zG;rw [Q1 p1];rfl
    rw [this];simp
   unfold zV;rw [Z6 (by simp [s]),o,Z6 (by simp),m,Q1 h]
 . have e:∀y,(qQ x).look y=qI [qp,zb,zY,trmN,thrN] [qm x.au.ids,txtJ x.name,qm x.pres,qA x.term,qZ x.au.thr] y:=fun y=>by
    show qI ((zG x).map (·.1)) ((zG x).map (·.2)) y=_;unfold zG;rw [Z6 (by simp [p1])];rfl
   obtain ⟨b,c,d⟩:=g (zY,qm x.pres) e (.inr rfl);have k:zq (qQ x) zY ⟨[trmN,thrN,qp,zb],0⟩=true:=(by unfold zq;rw [e];simp [qI,i,j]);have f:dgP (qQ x)=(([],x.pres),⟨[zY,trmN,thrN,qp,zb],0⟩):=(by unfold dgP;rw [d,k,Q1 rfl,kR (l:=x.pres) (by rw [e];simp [qI,i,j]) p3]);have m:dgX (qQ x)=x:=(by unfold dgX;rw [b,c,d,f];obtain ⟨n,a,t,p,r⟩:=x;dsimp only at p1 ⊢;rw [p1]);have o:qu (qQ x) (dgP (qQ x)).2=0:=by
    rw [f];unfold qu;rw [Z6 (by simp),Q1];have:(qQ x).names=[qp,zb,zY,trmN,thrN]:=by show (zG x).map (·.1)=_;unfold zG;rw [Z6 (by simp [p1])];rfl
    rw [this];simp
   unfold zV;rw [Z6 (by simp [s]),o,Z6 (by simp),m,Q1 h]
theorem gz:∀(l acc:List DelegV),l.all qV=true->xk (acc ++ l)=true->xy (l.map qQ) acc=(acc ++ l,0)
 | [],acc,_,_=>by simp [xy]
 | x :: r,acc,h,hn=>by
  rw [List.all_cons,Q0] at h;have e:=ce h.1;have hno:acc.any (fun y=>decide (y.name=x.name))=false:=by
   rw [Bool.eq_false_iff];intro h2;obtain ⟨y,hy,a⟩:=M5.1 h2;have a:=of_decide_eq_true a;clear h e h2
   induction acc with
   | nil=>simp at hy
   | cons z acc ih =>
    rw [List.cons_append,xk,Q0,Bool.not_eq_true'] at hn;rcases Y5.1 hy with rfl|hy
    . have:(acc ++ x :: r).any (fun w=>decide (w.name=y.name))=true:=M5.2 ⟨x,by simp,by simp [a]⟩;rw [this] at hn;simp at hn
    . exact ih hn.2 hy
  rw [Y9,xy,e];dsimp only;rw [Z6 (by simp),hno,Z6 (by decide),gz r (acc ++ [x]) h.2 (by rw [List.append_assoc];exact hn),List.append_assoc];rfl
theorem wy {b:BinsV} (h:zk b=true):(1<=b.bits/\b.bits<=32)/\zl b.pre.data.toList=true/\xD b.au=true/\gc b.pre=false:=by
 unfold zk at h;simp only [Q0,Z7,Bool.not_eq_true'] at h;obtain ⟨⟨a,c⟩,d⟩:=h;unfold zT at a;split at a
 . exact absurd a (by decide)
 . rename_i hb;split at a
   . exact absurd a (by decide)
   . rename_i hr;exact ⟨by omega,by simpa using hr,c,d⟩
theorem lY {b:BinsV} (h:zk b=true):xf (z8 b)=(b,0):=by obtain ⟨f,v,p,w⟩:=wy h;obtain ⟨⟨q,r,s,u,g,-⟩,-,⟨-,-,i,j,k,l,m,-⟩⟩:=bB;have e:∀y,(z8 b).look y=qI [jl,qp,jS,thrN] [qZ b.bits,qm b.au.ids,txtJ b.pre,qZ b.au.thr] y:=fun _=>rfl;have a:bnA (z8 b)=(b.au,⟨[thrN,qp],0⟩):=uW p (by rw [e];simp [qI,i]) (by rw [e];simp [qI,k,g,m]);have c:bnB (z8 b)=(b.bits,⟨[jl,thrN,qp],0⟩):=(by unfold bnB;rw [a];exact bz (by rw [e];simp [qI]) f.1 f.2);have d:bnP (z8 b)=(b.pre,⟨[jS,jl,thrN,qp],0⟩):=(by unfold bnP;rw [c];exact y8 (by rw [e];simp [qI,j,l]));have o:qu (z8 b) (bnP (z8 b)).2=0:=(by rw [d];unfold qu;rw [Z6 (by simp),Q1];simp [z8,z7,JV.names,pE]);unfold xf;rw [Z6 (by simp [z8,z7,JV.kind]),o,Z6 (by simp),a,c,d];exact Q1 h
theorem uB {d:DelegsV} (h:qH d=true):zy (qo d)=(d,0):=by
 have x:(qo d).mayB=true:=(by unfold qH at h;rw [Q0] at h;exact h.2);unfold qH at h;simp only [Q0] at h;obtain ⟨⟨C,g⟩,-⟩:=h;obtain ⟨u,z,A⟩:=zo.1 C;obtain ⟨-,-,⟨-,-,-,-,-,-,-,E,v,F⟩⟩:=bB;have w:(zP d.keys).items.length<=32:=by show (d.keys.map obj2).length<=32;rw [J6];exact u
 unfold zy;rw [Z6 (by rw [x];decide),Z6 (by simp [qo,z7,JV.kind])];clear x;cases hb0:zK d.bins
 . rw [hb0] at g;simp only [Bool.false_eq_true,if_false,Q0,List.isEmpty_iff] at g;obtain ⟨o,s⟩:=g;have e:∀y,(qo d).look y=qI [qD,xW] [zP d.keys,z8 d.bins] y:=fun y=>by
    show qI ((zp d).map (·.1)) ((zp d).map (·.2)) y=_;unfold zp;rw [hb0];rfl
   have f:(qo d).names=[qD,xW]:=(by show (zp d).map (·.1)=_;unfold zp;rw [hb0];rfl);have i:dlK (qo d)=(zP d.keys,⟨[qD],0⟩):=wJ (by rw [e];simp [qI]) rfl w;have j:dlL (qo d)=(d.keys,0):=by unfold dlL;rw [i];exact pI z A u
   have k:dlS (qo d)=⟨[qD],0⟩:=by unfold dlS;rw [i,j];rfl
   have p:zq (qo d) xW ⟨[qD],0⟩=true:=by unfold zq;rw [e];simp [qI,v]
   have q:dlO (qo d)=(z8 d.bins,⟨[xW,qD],0⟩):=(by unfold dlO;rw [k];exact wJ (by rw [e];simp [qI,v]) rfl (by show 4<=8192;decide));have l:dlB (qo d)=((d.bins,[]),⟨[xW,qD],0⟩):=(by unfold dlB;rw [k,p,Q1 rfl,q];dsimp only;rw [lY s];rfl);have r:qu (qo d) (dlB (qo d)).2=0:=(by rw [l];unfold qu;rw [Z6 (by simp),Q1];rw [f];simp);unfold vC;rw [r,Z6 (by simp),j,l];obtain ⟨a,b,c⟩:=d;dsimp only at o ⊢;rw [o]
 . rw [hb0] at g;simp only [if_true,Q0,Z7] at g;obtain ⟨⟨o,B⟩,D⟩:=g;have e:∀y,(qo d).look y=qI [qD,xZ] [zP d.keys,qk (d.roles.map qQ)] y:=fun y=>by
    show qI ((zp d).map (·.1)) ((zp d).map (·.2)) y=_;unfold zp;rw [hb0];rfl
   have f:(qo d).names=[qD,xZ]:=(by show (zp d).map (·.1)=_;unfold zp;rw [hb0];rfl);have i:dlK (qo d)=(zP d.keys,⟨[qD],0⟩):=wJ (by rw [e];simp [qI]) rfl w;have j:dlL (qo d)=(d.keys,0):=by unfold dlL;rw [i];exact pI z A u
   have k:dlS (qo d)=⟨[qD],0⟩:=by unfold dlS;rw [i,j];rfl
   have p:zq (qo d) xW ⟨[qD],0⟩=false:=by unfold zq;rw [e];simp [qI,v,F]
   have q:dlR (qo d)=(d.roles.map qQ,⟨[xZ,qD],0⟩):=(by unfold dlR;rw [k];exact uG (by rw [e];simp [qI,E]) (by rw [J6];exact o));have l:dlB (qo d)=((xG,d.roles),⟨[xZ,qD],0⟩):=(by unfold dlB;rw [k,p,Z6 (by decide),q];dsimp only;rw [gz d.roles [] B D];rfl);have r:qu (qo d) (dlB (qo d)).2=0:=(by rw [l];unfold qu;rw [Z6 (by simp),Q1];rw [f];simp);unfold vC;rw [r,Z6 (by simp),j,l];obtain ⟨a,b,⟨G,H,⟨I,J⟩⟩⟩:=d;unfold zK at hb0;have m:=of_decide_eq_true hb0;dsimp only at m ⊢;obtain ⟨x1,x2,x3,x4⟩:=m;rw [x1,x2,x3,x4];rfl
theorem zR:qK [qp,zb,xm,trmN,thrN]=true/\qK [qp,zb,zY,trmN,thrN]=true/\qK [jl,qp,jS,thrN]=true/\qK [qD,xZ]=true/\qK [qD,xW]=true:=⟨by kernel_rfl,by kernel_rfl,by kernel_rfl,by kernel_rfl,by kernel_rfl⟩
def bP (bits:Nat):Nat:=(bits+3) / 4
def yV:Nat->Nat->List UInt8
 | 0,_=>[]
 | w+1,n=>yV w (n / 16) ++ [zx (n % 16)]
theorem jp:∀w n,(yV w n).length=w
 | 0,_=>rfl
 | w+1,n=>by rw [yV,V6,jp w];rfl
def tz:ByteArray:=⟨#[45]⟩
def cQ (path:ByteArray):Nat:=((zW path.data.toList).getD 0 0).toNat * 16777216+((zW path.data.toList).getD 1 0).toNat * 65536+((zW path.data.toList).getD 2 0).toNat * 256+((zW path.data.toList).getD 3 0).toNat
def wA (path:ByteArray) (bits:Nat):Nat:=cQ path / 2 ^ (32 - bits)
theorem aw (path:ByteArray):cQ path<2 ^ 32:=by unfold cQ;have a:=((zW path.data.toList).getD 0 0).toNat_lt;have b:=((zW path.data.toList).getD 1 0).toNat_lt;have c:=((zW path.data.toList).getD 2 0).toNat_lt;have d:=((zW path.data.toList).getD 3 0).toNat_lt;omega
theorem ag {path:ByteArray} {a:Nat} (h:a<=32):wA path a<2 ^ a:=by unfold wA;rw [Nat.div_lt_iff_lt_mul (Nat.two_pow_pos _),<- Nat.pow_add,show a+(32 - a)=32 from by omega];exact aw path
def xN (pre:ByteArray) (bits n:Nat):ByteArray:=pre ++ tz ++ ⟨(yV (bP bits) n).toArray⟩
def ab (path:ByteArray):ByteArray:=⟨(kL path.data.toList).toArray⟩
def fH (q s:ByteArray):Bool:=q.data.toList.isPrefixOf s.data.toList
def xP (l:List ByteArray) (path:ByteArray):Bool:=l.any fun q=>preB q && fH q (ab path)
def jT (runes:ByteArray->List Int) (p s:ByteArray):Bool:=q8 p && q8 s && up (runes p) (runes s)
def isD (runes:ByteArray->List Int) (x:DelegV) (path:ByteArray):Bool:=qV x && q8 path && (if x.paths≠[] then x.paths.any (fun p=>jT runes p path) else xP x.pres path)
structure StepV where
 name:ByteArray
 au:AuthV
 term:Bool
def nl (x:DelegV):StepV:=⟨x.name,x.au,x.term⟩
def kK (runes:ByteArray->List Int) (path:ByteArray):List DelegV->List StepV
 | []=>[]
 | x :: r=>if isD runes x path then nl x :: (if x.term then [] else kK runes path r) else kK runes path r
def xt (runes:ByteArray->List Int) (d:DelegsV) (path:ByteArray):List StepV :=
 if qH d && q8 path then (if zK d.bins then kK runes path d.roles else [⟨xN d.bins.pre d.bins.bits.toNat (wA path d.bins.bits.toNat),d.bins.au,true⟩]) else []
theorem cZ (N:List NJ):(z7 N).wt=1+ql (N.map (·.1))+JV.wts (N.map (·.2)):=by show 1+(⟨#[]⟩:ByteArray).size+ql (N.map (·.1))+JV.wts (N.map (·.2))=_;rfl
theorem jf (t:ByteArray):(txtJ t).wt=1+t.size:=by simp [txtJ,JV.wt,JV.wts,ql]
theorem wT (n:Int):(qZ n).wt=1:=by simp [qZ,JV.wt,JV.wts,ql,ByteArray.size]
