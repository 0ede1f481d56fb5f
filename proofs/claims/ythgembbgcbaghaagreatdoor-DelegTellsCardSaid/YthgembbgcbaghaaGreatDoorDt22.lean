import Derived.Test.YthgembbgcbaghaaGreatDoorDt21

namespace Go.Proofs.YthgembbgcbaghaaGreatDoor
open Go.RowKit
def gD (c:UInt8):ByteArray:=⟨(List.replicate 64 c).toArray⟩
def Qk (c:UInt8):AuthV:=⟨1,[gD c]⟩
def raN:ByteArray:=⟨#[97]⟩
structure DelegV where
 name:ByteArray
 au:AuthV
 term:Bool
 paths:List ByteArray
 pres:List ByteArray
deriving DecidableEq
structure BinsV where
 bits:Int
 pre:ByteArray
 au:AuthV
deriving DecidableEq
structure DelegsV where
 keys:List Key2
 roles:List DelegV
 bins:BinsV
deriving DecidableEq
def kI:DelegV:=⟨⟨#[]⟩,authZ,false,[],[]⟩
def j6:BinsV:=⟨0,⟨#[]⟩,authZ⟩
def jT:DelegsV:=⟨[],[],j6⟩
def vp (s:ByteArray):Bool:=decide (s=yO\/s=mP\/s=mF)
def qN (s:ByteArray):Bool:=decide (1<=s.size/\s.size<=256) && !(s.data.toList.headD 0 == 47) && vK s
def preB (s:ByteArray):Bool:=decide (1<=s.size/\s.size<=64) && jw s.data.toList
def qt (x:DelegV):Bool:=zf x.name.data.toList && !vp x.name && jv x.au && (if x.paths≠[] then x.pres.isEmpty && decide (x.paths.length<=32) && x.paths.all qN else !x.pres.isEmpty && decide (x.pres.length<=32) && x.pres.all preB)
def zV (b:BinsV):Int:=if b.bits<1\/32<b.bits then 1 else if zf b.pre.data.toList=false then 3 else if 64<b.pre.size+1+(b.bits.toNat+3) / 4 then 5 else 0
def q8 (b:BinsV):Bool:=decide (zV b=0) && jv b.au && !vp b.pre
def zb (b:BinsV):Bool:=decide (b.bits=0/\b.pre=⟨#[]⟩/\b.au.thr=0/\b.au.ids=[])
def xl:List DelegV->Bool
 | []=>true
 | x :: r=>!(r.any fun y=>decide (y.name=x.name)) && xl r
def zt (b:Bool):JV:=.mk 1 (if b then 1 else 0) ⟨#[]⟩ [] []
def zw:ByteArray:=⟨#[110,97,109,101]⟩
def zF:ByteArray:=⟨#[112,97,116,104,95,104,97,115,104,95,112,114,101,102,105,120,101,115]⟩
def xg:ByteArray:=⟨#[112,97,116,104,115]⟩
def trmN:ByteArray:=⟨#[116,101,114,109,105,110,97,116,105,110,103]⟩
def jn:ByteArray:=⟨#[98,105,116,95,108,101,110,103,116,104]⟩
def jY:ByteArray:=⟨#[110,97,109,101,95,112,114,101,102,105,120]⟩
def xK:ByteArray:=⟨#[115,117,99,99,105,110,99,116,95,114,111,108,101,115]⟩
def zW (x:DelegV):List NJ:=[(qy,qg x.au.ids),(zw,txtJ x.name),(if x.paths≠[] then (xg,qg x.paths) else (zF,qg x.pres)),(trmN,zt x.term),(thrN,zy x.au.thr)]
def qu (x:DelegV):JV:=j5 (zW x)
def uH (b:BinsV):List NJ:=[(jn,zy b.bits),(qy,qg b.au.ids),(jY,txtJ b.pre),(thrN,zy b.au.thr)]
def zU (b:BinsV):JV:=j5 (uH b)
def qI (d:DelegsV):List NJ:=(qP,zi d.keys) :: (if zb d.bins then [(xB,zY (d.roles.map qu))] else [(xK,zU d.bins)])
def qf (d:DelegsV):JV:=j5 (qI d)
def qC (d:DelegsV):Bool:=zg d.keys && (if zb d.bins then decide (d.roles.length<=64) && d.roles.all qt && xl d.roles else d.roles.isEmpty && q8 d.bins) && (qf d).mayB
def qO (v:JV) (y:ByteArray) (st:PS):Bool × PS :=
 if st.err≠0 then (false,st) else match v.look y with
 | none=>(false,⟨st.asked,6⟩)
 | some it=>if it.kind≠1 then (false,⟨st.asked,10⟩) else (decide (it.n=1),⟨y :: st.asked,0⟩)
def qB (v:JV) (y:ByteArray) (most:Nat) (st:PS):List JV × PS :=
 if st.err≠0 then ([],st) else match v.look y with
 | none=>([],⟨st.asked,6⟩)
 | some it=>if it.kind≠4 then ([],⟨st.asked,10⟩) else if most<it.items.length then ([],⟨st.asked,5⟩) else (it.items,⟨y :: st.asked,0⟩)
def dgN (v:JV):ByteArray × PS:=ql v zw ⟨[],0⟩
def dgA (v:JV):AuthV × PS:=kD v (dgN v).2
def dgT (v:JV):Bool × PS:=qO v trmN (dgA v).2
def dgP (v:JV):(List ByteArray × List ByteArray) × PS:=if zv v zF (dgT v).2 then (([],(qw v zF 32 (dgT v).2).1),(qw v zF 32 (dgT v).2).2) else (((qw v xg 32 (dgT v).2).1,[]),(qw v xg 32 (dgT v).2).2)
def dgX (v:JV):DelegV:=⟨(dgN v).1,(dgA v).1,(dgT v).1,(dgP v).1.1,(dgP v).1.2⟩
def zR (v:JV):DelegV × Int:=if v.kind≠5 then (kI,10) else if qr v (dgP v).2≠0 then (kI,qr v (dgP v).2) else if qt (dgX v) then (dgX v,0) else (kI,3)
def xi:List JV->List DelegV->List DelegV × Int
 | [],acc=>(acc,0)
 | v :: r,acc=>if (zR v).2≠0 then ([],(zR v).2) else if acc.any (fun y=>decide (y.name=(zR v).1.name)) then ([],7) else xi r (acc ++ [(zR v).1])
def bnA (v:JV):AuthV × PS:=kD v ⟨[],0⟩
def bnB (v:JV):Int × PS:=qT v jn 1 32 (bnA v).2
def bnP (v:JV):ByteArray × PS:=ql v jY (bnB v).2
def xX (v:JV):BinsV × Int:=if v.kind≠5 then (j6,10) else if qr v (bnP v).2≠0 then (j6,qr v (bnP v).2) else if q8 ⟨(bnB v).1,(bnP v).1,(bnA v).1⟩ then (⟨(bnB v).1,(bnP v).1,(bnA v).1⟩,0) else (j6,3)
def dlK (v:JV):JV × PS:=qX v qP 32 ⟨[],0⟩
def dlL (v:JV):List Key2 × Int:=jx (dlK v).1
def dlS (v:JV):PS:=(dlK v).2.fail (dlL v).2
def dlO (v:JV):JV × PS:=qX v xK 8192 (dlS v)
def dlR (v:JV):List JV × PS:=qB v xB 64 (dlS v)
def dlB (v:JV):(BinsV × List DelegV) × PS:=if zv v xK (dlS v) then (((xX (dlO v).1).1,[]),(dlO v).2.fail (xX (dlO v).1).2) else ((j6,(xi (dlR v).1 []).1),(dlR v).2.fail (xi (dlR v).1 []).2)
def gL (v:JV):DelegsV × Int:=if qr v (dlB v).2≠0 then (jT,qr v (dlB v).2) else (⟨(dlL v).1,(dlB v).1.2,(dlB v).1.1⟩,0)
def xD (v:JV):DelegsV × Int:=if v.mayB=false then (jT,3) else if v.kind≠5 then (jT,10) else gL v
def tL:ByteArray:=⟨#[42]⟩
def bbN:ByteArray:=⟨#[98]⟩
def ppN:ByteArray:=⟨#[112]⟩
theorem dp {v:JV} {a:AuthV} {s:List ByteArray} (h:jv a=true) (l1:v.look qy=some (qg a.ids)) (l2:v.look thrN=some (zy a.thr)):kD v ⟨s,0⟩=(a,⟨thrN :: qy :: s,0⟩):=by
 obtain ⟨b,f,hi⟩:=zI h;have d:qw v qy 16 ⟨s,0⟩=(a.ids,⟨qy :: s,0⟩):=vP l1 b.2;have c:¬a.ids=[]:=fun e=>by rw [e] at b;simp at b
 have g:kC v ⟨s,0⟩=⟨qy :: s,0⟩:=(by unfold kC;rw [d];dsimp only;rw [Z5 c,hi];rfl);have i:vO v ⟨s,0⟩=(a.thr,⟨thrN :: qy :: s,0⟩):=(by unfold vO;rw [d,g];exact fw l2 f.1 f.2);unfold kD;rw [i,d];rfl
theorem df {v:JV} {y:ByteArray} {b:Bool} {s:List ByteArray} (h:v.look y=some (zt b)):qO v y ⟨s,0⟩=(b,⟨y :: s,0⟩):=by unfold qO;rw [Z5 (by simp),h];show (if (zt b).kind≠1 then _ else _:Bool × PS)=_;rw [Z5 (by simp [zt,JV.kind])];cases b <;> rfl
theorem dh {v:JV} {y:ByteArray} {l:List JV} {most:Nat} {s:List ByteArray} (h:v.look y=some (zY l)) (hl:l.length<=most):qB v y most ⟨s,0⟩=(l,⟨y :: s,0⟩):=by unfold qB;rw [Z5 (by simp),h];show (if (zY l).kind≠4 then _ else if most<l.length then _ else _:List JV × PS)=_;rw [Z5 (by simp [zY,JV.kind]),Z5 (by omega)];rfl
theorem fJ:(qy≠zw/\qy≠xg/\qy≠zF/\qy≠trmN/\qy≠thrN/\zw≠xg/\zw≠zF/\zw≠trmN/\zw≠thrN)/\(xg≠zF/\xg≠trmN/\xg≠thrN/\zF≠xg/\zF≠trmN/\zF≠thrN/\trmN≠thrN)/\(trmN≠zF/\thrN≠zF/\jn≠qy/\jn≠jY/\jn≠thrN/\qy≠jY/\jY≠thrN/\qP≠xB/\qP≠xK/\xB≠xK):=by decide
theorem xP {x:DelegV} (h:qt x=true):zf x.name.data.toList=true/\vp x.name=false/\jv x.au=true/\((x.paths≠[]/\x.pres=[]/\x.paths.length<=32/\x.paths.all qN=true)\/(x.paths=[]/\x.pres≠[]/\x.pres.length<=32/\x.pres.all preB=true)):=by
 unfold qt at h;simp only [J4,Bool.not_eq_true'] at h;refine ⟨h.1.1.1,h.1.1.2,h.1.2,?_⟩;have a:=h.2;split at a
 . rename_i hp;simp only [J4,Q6,List.isEmpty_iff] at a;exact .inl ⟨hp,a.1.1,a.1.2,a.2⟩
 . rename_i hp;simp only [J4,Q6,Bool.not_eq_true',List.isEmpty_eq_false_iff] at a;exact .inr ⟨by simpa using hp,a.1.1,a.1.2,a.2⟩
theorem ry {x:DelegV} (h:qt x=true):zR (qu x)=(x,0):=by
 obtain ⟨R,S,L,M⟩:=xP h;obtain ⟨⟨u,v,i,w,z,A,j,B,C⟩,⟨D,E,F,Q,G,H,I⟩,⟨J,K,-⟩⟩:=fJ;have s:(qu x).kind=5:=rfl;have g:∀(q:NJ),(∀y,(qu x).look y=q7 [qy,zw,q.1,trmN,thrN] [qg x.au.ids,txtJ x.name,q.2,zt x.term,zy x.au.thr] y)->(q.1=xg\/q.1=zF)->dgN (qu x)=(x.name,⟨[zw],0⟩)/\dgA (qu x)=(x.au,⟨[thrN,qy,zw],0⟩)/\dgT (qu x)=(x.term,⟨[trmN,thrN,qy,zw],0⟩):=by
  intro q e hq;have N:q.1≠trmN:=by rcases hq with e|e <;> rw [e];exact E;exact G
  have P:q.1≠thrN:=by rcases hq with e|e <;> rw [e];exact F;exact H
  have b:dgN (qu x)=(x.name,⟨[zw],0⟩):=bZ (by rw [e];simp [q7,u]);have c:dgA (qu x)=(x.au,⟨[thrN,qy,zw],0⟩):=(by unfold dgA;rw [b];exact dp L (by rw [e];simp [q7]) (by rw [e];simp [q7,z,C,P,I]));refine ⟨b,c,?_⟩;unfold dgT;rw [c];exact df (by rw [e];simp [q7,w,B,N])
 rcases M with ⟨p1,p2,p3,p4⟩|⟨p1,p2,p3,p4⟩
 . have e:∀y,(qu x).look y=q7 [qy,zw,xg,trmN,thrN] [qg x.au.ids,txtJ x.name,qg x.paths,zt x.term,zy x.au.thr] y:=fun y=>by
    show q7 ((zW x).map (·.1)) ((zW x).map (·.2)) y=_;unfold zW;rw [J1 p1];rfl
   obtain ⟨b,c,d⟩:=g (xg,qg x.paths) e (.inl rfl);have k:zv (qu x) zF ⟨[trmN,thrN,qy,zw],0⟩=false:=(by unfold zv;rw [e];simp [q7,i,j,D,J,K]);have f:dgP (qu x)=((x.paths,[]),⟨[xg,trmN,thrN,qy,zw],0⟩):=(by unfold dgP;rw [d,k,Z5 (by decide),vP (l:=x.paths) (by rw [e];simp [q7,v,A]) p3]);have m:dgX (qu x)=x:=(by unfold dgX;rw [b,c,d,f];obtain ⟨n,a,t,p,r⟩:=x;dsimp only at p2 ⊢;rw [p2]);have o:qr (qu x) (dgP (qu x)).2=0:=by
    rw [f];unfold qr;rw [Z5 (by simp),J1];have:(qu x).names=[qy,zw,xg,trmN,thrN]:=by show (zW x).map (·.1)=_;unfold zW;rw [J1 p1];rfl
    rw [this];simp
   unfold zR;rw [Z5 (by simp [s]),o,Z5 (by simp),m,J1 h]
 . have e:∀y,(qu x).look y=q7 [qy,zw,zF,trmN,thrN] [qg x.au.ids,txtJ x.name,qg x.pres,zt x.term,zy x.au.thr] y:=fun y=>by
    show q7 ((zW x).map (·.1)) ((zW x).map (·.2)) y=_;unfold zW;rw [Z5 (by simp [p1])];rfl
   obtain ⟨b,c,d⟩:=g (zF,qg x.pres) e (.inr rfl);have k:zv (qu x) zF ⟨[trmN,thrN,qy,zw],0⟩=true:=(by unfold zv;rw [e];simp [q7,i,j]);have f:dgP (qu x)=(([],x.pres),⟨[zF,trmN,thrN,qy,zw],0⟩):=(by unfold dgP;rw [d,k,J1 rfl,vP (l:=x.pres) (by rw [e];simp [q7,i,j]) p3]);have m:dgX (qu x)=x:=(by unfold dgX;rw [b,c,d,f];obtain ⟨n,a,t,p,r⟩:=x;dsimp only at p1 ⊢;rw [p1]);have o:qr (qu x) (dgP (qu x)).2=0:=by
    rw [f];unfold qr;rw [Z5 (by simp),J1];have:(qu x).names=[qy,zw,zF,trmN,thrN]:=by show (zW x).map (·.1)=_;unfold zW;rw [Z5 (by simp [p1])];rfl
    rw [this];simp
   unfold zR;rw [Z5 (by simp [s]),o,Z5 (by simp),m,J1 h]
theorem bY:∀(l acc:List DelegV),l.all qt=true->xl (acc ++ l)=true->xi (l.map qu) acc=(acc ++ l,0)
 | [],acc,_,_=>by simp [xi]
 | x :: r,acc,h,hn=>by
  rw [List.all_cons,J4] at h;have e:=ry h.1;have hno:acc.any (fun y=>decide (y.name=x.name))=false:=by
   rw [Bool.eq_false_iff];intro h2;obtain ⟨y,hy,a⟩:=za6.1 h2;have a:=of_decide_eq_true a;clear h e h2
   induction acc with
   | nil=>simp at hy
   | cons z acc ih =>
    rw [List.cons_append,xl,J4,Bool.not_eq_true'] at hn;rcases G3.1 hy with rfl|hy
    . have:(acc ++ x :: r).any (fun w=>decide (w.name=y.name))=true:=za6.2 ⟨x,by simp,by simp [a]⟩;rw [this] at hn;simp at hn
    . exact ih hn.2 hy
  rw [G9,xi,e];dsimp only;rw [Z5 (by simp),hno,Z5 (by decide),bY r (acc ++ [x]) h.2 (by rw [List.append_assoc];exact hn),List.append_assoc];rfl
theorem yv {b:BinsV} (h:q8 b=true):(1<=b.bits/\b.bits<=32)/\zf b.pre.data.toList=true/\jv b.au=true/\vp b.pre=false:=by
 unfold q8 at h;simp only [J4,Q6,Bool.not_eq_true'] at h;obtain ⟨⟨a,c⟩,d⟩:=h;unfold zV at a;split at a
 . exact absurd a (by decide)
 . rename_i hb;split at a
   . exact absurd a (by decide)
   . rename_i hr;exact ⟨by omega,by simpa using hr,c,d⟩
theorem sZ {b:BinsV} (h:q8 b=true):xX (zU b)=(b,0):=by obtain ⟨f,v,p,w⟩:=yv h;obtain ⟨⟨q,r,s,u,g,-⟩,-,⟨-,-,i,j,k,l,m,-⟩⟩:=fJ;have e:∀y,(zU b).look y=q7 [jn,qy,jY,thrN] [zy b.bits,qg b.au.ids,txtJ b.pre,zy b.au.thr] y:=fun _=>rfl;have a:bnA (zU b)=(b.au,⟨[thrN,qy],0⟩):=dp p (by rw [e];simp [q7,i]) (by rw [e];simp [q7,k,g,m]);have c:bnB (zU b)=(b.bits,⟨[jn,thrN,qy],0⟩):=(by unfold bnB;rw [a];exact fw (by rw [e];simp [q7]) f.1 f.2);have d:bnP (zU b)=(b.pre,⟨[jY,jn,thrN,qy],0⟩):=(by unfold bnP;rw [c];exact bZ (by rw [e];simp [q7,j,l]));have o:qr (zU b) (bnP (zU b)).2=0:=(by rw [d];unfold qr;rw [Z5 (by simp),J1];simp [zU,j5,JV.names,uH]);unfold xX;rw [Z5 (by simp [zU,j5,JV.kind]),o,Z5 (by simp),a,c,d];exact J1 h
theorem du {d:DelegsV} (h:qC d=true):xD (qf d)=(d,0):=by
 have x:(qf d).mayB=true:=(by unfold qC at h;rw [J4] at h;exact h.2);unfold qC at h;simp only [J4] at h;obtain ⟨⟨C,g⟩,-⟩:=h;obtain ⟨u,z,A⟩:=q9.1 C;obtain ⟨-,-,⟨-,-,-,-,-,-,-,E,v,F⟩⟩:=fJ;have w:(zi d.keys).items.length<=32:=by show (d.keys.map obj2).length<=32;rw [J9];exact u
 unfold xD;rw [Z5 (by rw [x];decide),Z5 (by simp [qf,j5,JV.kind])];clear x;cases hb0:zb d.bins
 . rw [hb0] at g;simp only [Bool.false_eq_true,zd4,J4,List.isEmpty_iff] at g;obtain ⟨o,s⟩:=g;have e:∀y,(qf d).look y=q7 [qP,xK] [zi d.keys,zU d.bins] y:=fun y=>by
    show q7 ((qI d).map (·.1)) ((qI d).map (·.2)) y=_;unfold qI;rw [hb0];rfl
   have f:(qf d).names=[qP,xK]:=(by show (qI d).map (·.1)=_;unfold qI;rw [hb0];rfl);have i:dlK (qf d)=(zi d.keys,⟨[qP],0⟩):=yi (by rw [e];simp [q7]) rfl w;have j:dlL (qf d)=(d.keys,0):=by unfold dlL;rw [i];exact uF z A u
   have k:dlS (qf d)=⟨[qP],0⟩:=by unfold dlS;rw [i,j];rfl
   have p:zv (qf d) xK ⟨[qP],0⟩=true:=by unfold zv;rw [e];simp [q7,v]
   have q:dlO (qf d)=(zU d.bins,⟨[xK,qP],0⟩):=(by unfold dlO;rw [k];exact yi (by rw [e];simp [q7,v]) rfl (by show 4<=8192;decide));have l:dlB (qf d)=((d.bins,[]),⟨[xK,qP],0⟩):=(by unfold dlB;rw [k,p,J1 rfl,q];dsimp only;rw [sZ s];rfl);have r:qr (qf d) (dlB (qf d)).2=0:=(by rw [l];unfold qr;rw [Z5 (by simp),J1];rw [f];simp);unfold gL;rw [r,Z5 (by simp),j,l];obtain ⟨a,b,c⟩:=d;dsimp only at o ⊢;rw [o]
 . rw [hb0] at g;simp only [if_true,J4,Q6] at g;obtain ⟨⟨o,B⟩,D⟩:=g;have e:∀y,(qf d).look y=q7 [qP,xB] [zi d.keys,zY (d.roles.map qu)] y:=fun y=>by
    show q7 ((qI d).map (·.1)) ((qI d).map (·.2)) y=_;unfold qI;rw [hb0];rfl
   have f:(qf d).names=[qP,xB]:=(by show (qI d).map (·.1)=_;unfold qI;rw [hb0];rfl);have i:dlK (qf d)=(zi d.keys,⟨[qP],0⟩):=yi (by rw [e];simp [q7]) rfl w;have j:dlL (qf d)=(d.keys,0):=by unfold dlL;rw [i];exact uF z A u
   have k:dlS (qf d)=⟨[qP],0⟩:=by unfold dlS;rw [i,j];rfl
   have p:zv (qf d) xK ⟨[qP],0⟩=false:=by unfold zv;rw [e];simp [q7,v,F]
   have q:dlR (qf d)=(d.roles.map qu,⟨[xB,qP],0⟩):=(by unfold dlR;rw [k];exact dh (by rw [e];simp [q7,E]) (by rw [J9];exact o));have l:dlB (qf d)=((j6,d.roles),⟨[xB,qP],0⟩):=(by unfold dlB;rw [k,p,Z5 (by decide),q];dsimp only;rw [bY d.roles [] B D];rfl);have r:qr (qf d) (dlB (qf d)).2=0:=(by rw [l];unfold qr;rw [Z5 (by simp),J1];rw [f];simp);unfold gL;rw [r,Z5 (by simp),j,l];obtain ⟨a,b,⟨G,H,⟨I,J⟩⟩⟩:=d;unfold zb at hb0;have m:=of_decide_eq_true hb0;dsimp only at m ⊢;obtain ⟨x1,x2,x3,x4⟩:=m;rw [x1,x2,x3,x4];rfl
theorem zm:qe [qy,zw,xg,trmN,thrN]=true/\qe [qy,zw,zF,trmN,thrN]=true/\qe [jn,qy,jY,thrN]=true/\qe [qP,xB]=true/\qe [qP,xK]=true:=⟨by kernel_rfl,by kernel_rfl,by kernel_rfl,by kernel_rfl,by kernel_rfl⟩
def wT (bits:Nat):Nat:=(bits+3) / 4
def gR:Nat->Nat->List UInt8
 | 0,_=>[]
 | w+1,n=>gR w (n / 16) ++ [qL (n % 16)]
theorem j7:∀w n,(gR w n).length=w
 | 0,_=>rfl
 | w+1,n=>by rw [gR,H0,j7 w];rfl
def eB:ByteArray:=⟨#[45]⟩
def rg (path:ByteArray):Nat:=((ze path.data.toList).getD 0 0).toNat * 16777216+((ze path.data.toList).getD 1 0).toNat * 65536+((ze path.data.toList).getD 2 0).toNat * 256+((ze path.data.toList).getD 3 0).toNat
def yE (path:ByteArray) (bits:Nat):Nat:=rg path / 2 ^ (32 - bits)
theorem oM (path:ByteArray):rg path<2 ^ 32:=by unfold rg;have a:=((ze path.data.toList).getD 0 0).toNat_lt;have b:=((ze path.data.toList).getD 1 0).toNat_lt;have c:=((ze path.data.toList).getD 2 0).toNat_lt;have d:=((ze path.data.toList).getD 3 0).toNat_lt;omega
theorem oC {path:ByteArray} {bits:Nat} (h:bits<=32):yE path bits<2 ^ bits:=by unfold yE;rw [Nat.div_lt_iff_lt_mul (Nat.two_pow_pos _),<- Nat.pow_add,show bits+(32 - bits)=32 from by omega];exact oM path
def jV (pre:ByteArray) (bits n:Nat):ByteArray:=pre ++ eB ++ ⟨(gR (wT bits) n).toArray⟩
def oD (path:ByteArray):ByteArray:=⟨(kK path.data.toList).toArray⟩
def mD (q s:ByteArray):Bool:=q.data.toList.isPrefixOf s.data.toList
def jm (l:List ByteArray) (path:ByteArray):Bool:=l.any fun q=>preB q && mD q (oD path)
def kV (runes:ByteArray->List Int) (p s:ByteArray):Bool:=qN p && qN s && cH (runes p) (runes s)
def isD (runes:ByteArray->List Int) (x:DelegV) (path:ByteArray):Bool:=qt x && qN path && (if x.paths≠[] then x.paths.any (fun p=>kV runes p path) else jm x.pres path)
structure StepV where
 name:ByteArray
 au:AuthV
 term:Bool
def tR (x:DelegV):StepV:=⟨x.name,x.au,x.term⟩
def vf (runes:ByteArray->List Int) (path:ByteArray):List DelegV->List StepV
 | []=>[]
 | x :: r=>if isD runes x path then tR x :: (if x.term then [] else vf runes path r) else vf runes path r
def jP (runes:ByteArray->List Int) (d:DelegsV) (path:ByteArray):List StepV :=
 if qC d && qN path then (if zb d.bins then vf runes path d.roles else [⟨jV d.bins.pre d.bins.bits.toNat (yE path d.bins.bits.toNat),d.bins.au,true⟩]) else []
theorem rp (N:List NJ):(j5 N).wt=1+qo (N.map (·.1))+JV.wts (N.map (·.2)):=by show 1+(⟨#[]⟩:ByteArray).size+qo (N.map (·.1))+JV.wts (N.map (·.2))=_;rfl
theorem j8 (t:ByteArray):(txtJ t).wt=1+t.size:=by simp [txtJ,JV.wt,JV.wts,qo]
theorem y6 (n:Int):(zy n).wt=1:=by simp [zy,JV.wt,JV.wts,qo,ByteArray.size]
end Go.Proofs.YthgembbgcbaghaaGreatDoor
