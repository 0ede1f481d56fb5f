/- Plain: how much a root's object, and one with a member changed, holds; the authority of a role by its name; when roots are the same. No program in sight. -/
import Derived.Test.YthgembbgcbaghaaGreatDoorDi21

namespace Go.Proofs.YthgembbgcbaghaaGreatDoor
open Go.RowKit
def ya (c:UInt8):ByteArray:=⟨(List.replicate 64 c).toArray⟩
def tv (c:UInt8):AuthV:=⟨1,[ya c]⟩
def raN:ByteArray:=⟨#[97]⟩
structure DelegV where
 name:ByteArray
 au:AuthV
 term:Bool
 paths:List ByteArray
 pres:List ByteArray
deriving DecidableEq
structure BinsV where
 bits:Int
 pre:ByteArray
 au:AuthV
deriving DecidableEq
structure DelegsV where
 keys:List Key2
 roles:List DelegV
 bins:BinsV
deriving DecidableEq
def kq:DelegV:=⟨⟨#[]⟩,authZ,false,[],[]⟩
def binsZ:BinsV:=⟨0,⟨#[]⟩,authZ⟩
def xO:DelegsV:=⟨[],[],binsZ⟩
def wF (s:ByteArray):Bool:=decide (s=ub∨s=rH∨s=rU)
def qU (s:ByteArray):Bool:=decide (1≤s.size∧s.size≤256) && !(s.data.toList.headD 0 == 47) && wV s
def preB (s:ByteArray):Bool:=decide (1≤s.size∧s.size≤64) && xd s.data.toList
def qi (x:DelegV):Bool:=q9 x.name.data.toList && !wF x.name && xZ x.au && (if x.paths≠[] then x.pres.isEmpty && decide (x.paths.length≤32) && x.paths.all qU else !x.pres.isEmpty && decide (x.pres.length≤32) && x.pres.all preB)
def zm (b:BinsV):Int:=if b.bits<1∨32<b.bits then 1 else if q9 b.pre.data.toList=false then 3 else if 64<b.pre.size+1+(b.bits.toNat+3) / 4 then 5 else 0
def qS (b:BinsV):Bool:=decide (zm b=0) && xZ b.au && !wF b.pre
def qD (b:BinsV):Bool:=decide (b.bits=0∧b.pre=⟨#[]⟩∧b.au.thr=0∧b.au.ids=[])
def zt:List DelegV→Bool
 | []=>true
 | x :: r=>!(r.any fun y=>decide (y.name=x.name)) && zt r
def zK (b:Bool):JV:=.mk 1 (if b then 1 else 0) ⟨#[]⟩ [] []
def zh:ByteArray:=⟨#[110,97,109,101]⟩
def zH:ByteArray:=⟨#[112,97,116,104,95,104,97,115,104,95,112,114,101,102,105,120,101,115]⟩
def xQ:ByteArray:=⟨#[112,97,116,104,115]⟩
def trmN:ByteArray:=⟨#[116,101,114,109,105,110,97,116,105,110,103]⟩
def jp:ByteArray:=⟨#[98,105,116,95,108,101,110,103,116,104]⟩
def jC:ByteArray:=⟨#[110,97,109,101,95,112,114,101,102,105,120]⟩
def xB:ByteArray:=⟨#[115,117,99,99,105,110,99,116,95,114,111,108,101,115]⟩
def zJ (x:DelegV):List NJ:=[(qy,qf x.au.ids),(zh,txtJ x.name),(if x.paths≠[] then (xQ,qf x.paths) else (zH,qf x.pres)),(trmN,zK x.term),(thrN,za x.au.thr)]
def qr (x:DelegV):JV:=jM (zJ x)
def pX (b:BinsV):List NJ:=[(jp,za b.bits),(qy,qf b.au.ids),(jC,txtJ b.pre),(thrN,za b.au.thr)]
def zS (b:BinsV):JV:=jM (pX b)
def zj (d:DelegsV):List NJ:=(qH,zW d.keys) :: (if qD d.bins then [(xH,zM (d.roles.map qr))] else [(xB,zS d.bins)])
def ql (d:DelegsV):JV:=jM (zj d)
def qV (d:DelegsV):Bool:=zp d.keys && (if qD d.bins then decide (d.roles.length≤64) && d.roles.all qi && zt d.roles else d.roles.isEmpty && qS d.bins) && (ql d).mayB
def qF (v:JV) (y:ByteArray) (st:PS):Bool × PS :=
 if st.err≠0 then (false,st) else match v.look y with
 | none=>(false,⟨st.asked,6⟩)
 | some it=>if it.kind≠1 then (false,⟨st.asked,10⟩) else (decide (it.n=1),⟨y :: st.asked,0⟩)
def qX (v:JV) (y:ByteArray) (most:Nat) (st:PS):List JV × PS :=
 if st.err≠0 then ([],st) else match v.look y with
 | none=>([],⟨st.asked,6⟩)
 | some it=>if it.kind≠4 then ([],⟨st.asked,10⟩) else if most<it.items.length then ([],⟨st.asked,5⟩) else (it.items,⟨y :: st.asked,0⟩)
def dgN (v:JV):ByteArray × PS:=qb v zh ⟨[],0⟩
def dgA (v:JV):AuthV × PS:=jT v (dgN v).2
def dgT (v:JV):Bool × PS:=qF v trmN (dgA v).2
def dgP (v:JV):(List ByteArray × List ByteArray) × PS:=if qA v zH (dgT v).2 then (([],(qv v zH 32 (dgT v).2).1),(qv v zH 32 (dgT v).2).2) else (((qv v xQ 32 (dgT v).2).1,[]),(qv v xQ 32 (dgT v).2).2)
def dgX (v:JV):DelegV:=⟨(dgN v).1,(dgA v).1,(dgT v).1,(dgP v).1.1,(dgP v).1.2⟩
def zZ (v:JV):DelegV × Int:=if v.kind≠5 then (kq,10) else if qp v (dgP v).2≠0 then (kq,qp v (dgP v).2) else if qi (dgX v) then (dgX v,0) else (kq,3)
def xq:List JV→List DelegV→List DelegV × Int
 | [],acc=>(acc,0)
 | v :: r,acc=>if (zZ v).2≠0 then ([],(zZ v).2) else if acc.any (fun y=>decide (y.name=(zZ v).1.name)) then ([],7) else xq r (acc ++ [(zZ v).1])
def bnA (v:JV):AuthV × PS:=jT v ⟨[],0⟩
def bnB (v:JV):Int × PS:=qP v jp 1 32 (bnA v).2
def bnP (v:JV):ByteArray × PS:=qb v jC (bnB v).2
def xj (v:JV):BinsV × Int:=if v.kind≠5 then (binsZ,10) else if qp v (bnP v).2≠0 then (binsZ,qp v (bnP v).2) else if qS ⟨(bnB v).1,(bnP v).1,(bnA v).1⟩ then (⟨(bnB v).1,(bnP v).1,(bnA v).1⟩,0) else (binsZ,3)
def dlK (v:JV):JV × PS:=qd v qH 32 ⟨[],0⟩
def dlL (v:JV):List Key2 × Int:=xo (dlK v).1
def dlS (v:JV):PS:=(dlK v).2.fail (dlL v).2
def dlO (v:JV):JV × PS:=qd v xB 8192 (dlS v)
def dlR (v:JV):List JV × PS:=qX v xH 64 (dlS v)
def dlB (v:JV):(BinsV × List DelegV) × PS:=if qA v xB (dlS v) then (((xj (dlO v).1).1,[]),(dlO v).2.fail (xj (dlO v).1).2) else ((binsZ,(xq (dlR v).1 []).1),(dlR v).2.fail (xq (dlR v).1 []).2)
def yt (v:JV):DelegsV × Int:=if qp v (dlB v).2≠0 then (xO,qp v (dlB v).2) else (⟨(dlL v).1,(dlB v).1.2,(dlB v).1.1⟩,0)
def xm (v:JV):DelegsV × Int:=if v.mayB=false then (xO,3) else if v.kind≠5 then (xO,10) else yt v
def r8:ByteArray:=⟨#[42]⟩
def bbN:ByteArray:=⟨#[98]⟩
def ppN:ByteArray:=⟨#[112]⟩
theorem up {v:JV} {a:AuthV} {s:List ByteArray} (h:xZ a=true) (l1:v.look qy=some (qf a.ids)) (l2:v.look thrN=some (za a.thr)):jT v ⟨s,0⟩=(a,⟨thrN :: qy :: s,0⟩):=by
 obtain ⟨hl,ht,hi⟩:=z6 h
 have p1:qv v qy 16 ⟨s,0⟩=(a.ids,⟨qy :: s,0⟩):=kH l1 hl.2
 have hne:¬a.ids=[]:=fun e=>by rw [e] at hl;simp at hl
 have p2:jA v ⟨s,0⟩=⟨qy :: s,0⟩:=by
  unfold jA
  rw [p1]
  dsimp only
  rw [if_neg hne,hi]
  rfl
 have p3:kT v ⟨s,0⟩=(a.thr,⟨thrN :: qy :: s,0⟩):=by
  unfold kT
  rw [p1,p2]
  exact gS l2 ht.1 ht.2
 unfold jT
 rw [p3,p1]
 rfl
theorem uf {v:JV} {y:ByteArray} {b:Bool} {s:List ByteArray} (h:v.look y=some (zK b)):qF v y ⟨s,0⟩=(b,⟨y :: s,0⟩):=by
 unfold qF
 rw [if_neg (by simp),h]
 show (if (zK b).kind≠1 then _ else _:Bool × PS)=_
 rw [if_neg (by simp [zK,JV.kind])]
 cases b <;> rfl
theorem uh {v:JV} {y:ByteArray} {l:List JV} {most:Nat} {s:List ByteArray} (h:v.look y=some (zM l)) (hl:l.length≤most):qX v y most ⟨s,0⟩=(l,⟨y :: s,0⟩):=by
 unfold qX
 rw [if_neg (by simp),h]
 show (if (zM l).kind≠4 then _ else if most<l.length then _ else _:List JV × PS)=_
 rw [if_neg (by simp [zM,JV.kind]),if_neg (by omega)]
 rfl
theorem bz:(qy≠zh∧qy≠xQ∧qy≠zH∧qy≠trmN∧qy≠thrN∧zh≠xQ∧zh≠zH∧zh≠trmN∧zh≠thrN)∧(xQ≠zH∧xQ≠trmN∧xQ≠thrN∧zH≠xQ∧zH≠trmN∧zH≠thrN∧trmN≠thrN)∧(trmN≠zH∧thrN≠zH∧jp≠qy∧jp≠jC∧jp≠thrN∧qy≠jC∧jC≠thrN∧qH≠xH∧qH≠xB∧xH≠xB):=by decide
theorem xP {x:DelegV} (h:qi x=true):q9 x.name.data.toList=true∧wF x.name=false∧xZ x.au=true∧((x.paths≠[]∧x.pres=[]∧x.paths.length≤32∧x.paths.all qU=true)∨(x.paths=[]∧x.pres≠[]∧x.pres.length≤32∧x.pres.all preB=true)):=by
 unfold qi at h
 simp only [Bool.and_eq_true,Bool.not_eq_true'] at h
 refine ⟨h.1.1.1,h.1.1.2,h.1.2,?_⟩
 have h4:=h.2
 split at h4
 · rename_i hp
   simp only [Bool.and_eq_true,decide_eq_true_eq,List.isEmpty_iff] at h4
   exact .inl ⟨hp,h4.1.1,h4.1.2,h4.2⟩
 · rename_i hp
   simp only [Bool.and_eq_true,decide_eq_true_eq,Bool.not_eq_true',List.isEmpty_eq_false_iff] at h4
   exact .inr ⟨by simpa using hp,h4.1.1,h4.1.2,h4.2⟩
theorem mI {x:DelegV} (h:qi x=true):zZ (qr x)=(x,0):=by
 obtain ⟨hn,ht,ha,hp⟩:=xP h
 obtain ⟨⟨a1,a2,a3,a4,a5,a6,a7,a8,a9⟩,⟨b1,b2,b3,b4,b5,b6,b7⟩,⟨c1,c2,-⟩⟩:=bz
 have hk:(qr x).kind=5:=rfl
 have key:∀(q:NJ),(∀y,(qr x).look y=qC [qy,zh,q.1,trmN,thrN] [qf x.au.ids,txtJ x.name,q.2,zK x.term,za x.au.thr] y)→(q.1=xQ∨q.1=zH)→dgN (qr x)=(x.name,⟨[zh],0⟩)∧dgA (qr x)=(x.au,⟨[thrN,qy,zh],0⟩)∧dgT (qr x)=(x.term,⟨[trmN,thrN,qy,zh],0⟩):=by
  intro q e hq
  have n1:q.1≠trmN:=by rcases hq with e|e <;> rw [e];exact b2;exact b5
  have n2:q.1≠thrN:=by rcases hq with e|e <;> rw [e];exact b3;exact b6
  have e1:dgN (qr x)=(x.name,⟨[zh],0⟩):=yA (by rw [e];simp [qC,a1])
  have e2:dgA (qr x)=(x.au,⟨[thrN,qy,zh],0⟩):=by
   unfold dgA
   rw [e1]
   exact up ha (by rw [e];simp [qC]) (by rw [e];simp [qC,a5,a9,n2,b7])
  refine ⟨e1,e2,?_⟩
  unfold dgT
  rw [e2]
  exact uf (by rw [e];simp [qC,a4,a8,n1])
 rcases hp with ⟨p1,p2,p3,p4⟩|⟨p1,p2,p3,p4⟩
 · have e:∀y,(qr x).look y=qC [qy,zh,xQ,trmN,thrN] [qf x.au.ids,txtJ x.name,qf x.paths,zK x.term,za x.au.thr] y:=fun y=>by
    show qC ((zJ x).map (·.1)) ((zJ x).map (·.2)) y=_
    unfold zJ
    rw [if_pos p1]
    rfl
   obtain ⟨e1,e2,e3⟩:=key (xQ,qf x.paths) e (.inl rfl)
   have e4:qA (qr x) zH ⟨[trmN,thrN,qy,zh],0⟩=false:=by
    unfold qA
    rw [e]
    simp [qC,a3,a7,b1,c1,c2]
   have e5:dgP (qr x)=((x.paths,[]),⟨[xQ,trmN,thrN,qy,zh],0⟩):=by
    unfold dgP
    rw [e3,e4,if_neg (by decide),kH (l:=x.paths) (by rw [e];simp [qC,a2,a6]) p3]
   have e6:dgX (qr x)=x:=by
    unfold dgX
    rw [e1,e2,e3,e5]
    obtain ⟨n,a,t,p,r⟩:=x
    dsimp only at p2 ⊢
    rw [p2]
   have e7:qp (qr x) (dgP (qr x)).2=0:=by
    rw [e5]
    unfold qp
    rw [if_neg (by simp),if_pos]
    have:(qr x).names=[qy,zh,xQ,trmN,thrN]:=by
     show (zJ x).map (·.1)=_
     unfold zJ
     rw [if_pos p1]
     rfl
    rw [this]
    simp
   unfold zZ
   rw [if_neg (by simp [hk]),e7,if_neg (by simp),e6,if_pos h]
 · have e:∀y,(qr x).look y=qC [qy,zh,zH,trmN,thrN] [qf x.au.ids,txtJ x.name,qf x.pres,zK x.term,za x.au.thr] y:=fun y=>by
    show qC ((zJ x).map (·.1)) ((zJ x).map (·.2)) y=_
    unfold zJ
    rw [if_neg (by simp [p1])]
    rfl
   obtain ⟨e1,e2,e3⟩:=key (zH,qf x.pres) e (.inr rfl)
   have e4:qA (qr x) zH ⟨[trmN,thrN,qy,zh],0⟩=true:=by
    unfold qA
    rw [e]
    simp [qC,a3,a7]
   have e5:dgP (qr x)=(([],x.pres),⟨[zH,trmN,thrN,qy,zh],0⟩):=by
    unfold dgP
    rw [e3,e4,if_pos rfl,kH (l:=x.pres) (by rw [e];simp [qC,a3,a7]) p3]
   have e6:dgX (qr x)=x:=by
    unfold dgX
    rw [e1,e2,e3,e5]
    obtain ⟨n,a,t,p,r⟩:=x
    dsimp only at p1 ⊢
    rw [p1]
   have e7:qp (qr x) (dgP (qr x)).2=0:=by
    rw [e5]
    unfold qp
    rw [if_neg (by simp),if_pos]
    have:(qr x).names=[qy,zh,zH,trmN,thrN]:=by
     show (zJ x).map (·.1)=_
     unfold zJ
     rw [if_neg (by simp [p1])]
     rfl
    rw [this]
    simp
   unfold zZ
   rw [if_neg (by simp [hk]),e7,if_neg (by simp),e6,if_pos h]
theorem yI:∀(l acc:List DelegV),l.all qi=true→zt (acc ++ l)=true→xq (l.map qr) acc=(acc ++ l,0)
 | [],acc,_,_=>by simp [xq]
 | x :: r,acc,h,hn=>by
  rw [List.all_cons,Bool.and_eq_true] at h
  have e:=mI h.1
  have hno:acc.any (fun y=>decide (y.name=x.name))=false:=by
   rw [Bool.eq_false_iff]
   intro h2
   obtain ⟨y,hy,hyx⟩:=List.any_eq_true.1 h2
   have hyx:=of_decide_eq_true hyx
   clear h e h2
   induction acc with
   | nil=>simp at hy
   | cons z acc ih =>
    rw [List.cons_append,zt,Bool.and_eq_true,Bool.not_eq_true'] at hn
    rcases List.mem_cons.1 hy with rfl|hy
    · have:(acc ++ x :: r).any (fun w=>decide (w.name=y.name))=true:=List.any_eq_true.2 ⟨x,by simp,by simp [hyx]⟩
      rw [this] at hn
      simp at hn
    · exact ih hn.2 hy
  rw [List.map_cons,xq,e]
  dsimp only
  rw [if_neg (by simp),hno,if_neg (by decide),yI r (acc ++ [x]) h.2 (by rw [List.append_assoc];exact hn),List.append_assoc]
  rfl
theorem zn {b:BinsV} (h:qS b=true):(1≤b.bits∧b.bits≤32)∧q9 b.pre.data.toList=true∧xZ b.au=true∧wF b.pre=false:=by
 unfold qS at h
 simp only [Bool.and_eq_true,decide_eq_true_eq,Bool.not_eq_true'] at h
 obtain ⟨⟨h1,h2⟩,h3⟩:=h
 unfold zm at h1
 split at h1
 · exact absurd h1 (by decide)
 · rename_i hb
   split at h1
   · exact absurd h1 (by decide)
   · rename_i hr
     exact ⟨by omega,by simpa using hr,h2,h3⟩
theorem lx {b:BinsV} (h:qS b=true):xj (zS b)=(b,0):=by
 obtain ⟨h1,h2,h3,h4⟩:=zn h
 obtain ⟨⟨a1,a2,a3,a4,a5,-⟩,-,⟨-,-,c3,c4,c5,c6,c7,-⟩⟩:=bz
 have e:∀y,(zS b).look y=qC [jp,qy,jC,thrN] [za b.bits,qf b.au.ids,txtJ b.pre,za b.au.thr] y:=fun _=>rfl
 have e1:bnA (zS b)=(b.au,⟨[thrN,qy],0⟩):=up h3 (by rw [e];simp [qC,c3]) (by rw [e];simp [qC,c5,a5,c7])
 have e2:bnB (zS b)=(b.bits,⟨[jp,thrN,qy],0⟩):=by
  unfold bnB
  rw [e1]
  exact gS (by rw [e];simp [qC]) h1.1 h1.2
 have e3:bnP (zS b)=(b.pre,⟨[jC,jp,thrN,qy],0⟩):=by
  unfold bnP
  rw [e2]
  exact yA (by rw [e];simp [qC,c4,c6])
 have e4:qp (zS b) (bnP (zS b)).2=0:=by
  rw [e3]
  unfold qp
  rw [if_neg (by simp),if_pos]
  simp [zS,jM,JV.names,pX]
 unfold xj
 rw [if_neg (by simp [zS,jM,JV.kind]),e4,if_neg (by simp),e1,e2,e3]
 exact if_pos h
theorem uu {d:DelegsV} (h:qV d=true):xm (ql d)=(d,0):=by
 have hm:(ql d).mayB=true:=by
  unfold qV at h
  rw [Bool.and_eq_true] at h
  exact h.2
 unfold qV at h
 simp only [Bool.and_eq_true] at h
 obtain ⟨⟨hk,hb⟩,-⟩:=h
 obtain ⟨k1,k2,k3⟩:=zx.1 hk
 obtain ⟨-,-,⟨-,-,-,-,-,-,-,n1,n2,n3⟩⟩:=bz
 have hl:(zW d.keys).items.length≤32:=by show (d.keys.map obj2).length≤32;rw [List.length_map];exact k1
 unfold xm
 rw [if_neg (by rw [hm];decide),if_neg (by simp [ql,jM,JV.kind])]
 clear hm
 cases hb0:qD d.bins
 · rw [hb0] at hb
   simp only [Bool.false_eq_true,if_false,Bool.and_eq_true,List.isEmpty_iff] at hb
   obtain ⟨hr,hbb⟩:=hb
   have e:∀y,(ql d).look y=qC [qH,xB] [zW d.keys,zS d.bins] y:=fun y=>by
    show qC ((zj d).map (·.1)) ((zj d).map (·.2)) y=_
    unfold zj
    rw [hb0]
    rfl
   have hnm:(ql d).names=[qH,xB]:=by
    show (zj d).map (·.1)=_
    unfold zj
    rw [hb0]
    rfl
   have e1:dlK (ql d)=(zW d.keys,⟨[qH],0⟩):=wk (by rw [e];simp [qC]) rfl hl
   have e2:dlL (ql d)=(d.keys,0):=by unfold dlL;rw [e1];exact pZ k2 k3 k1
   have e3:dlS (ql d)=⟨[qH],0⟩:=by unfold dlS;rw [e1,e2];rfl
   have e4:qA (ql d) xB ⟨[qH],0⟩=true:=by unfold qA;rw [e];simp [qC,n2]
   have e5:dlO (ql d)=(zS d.bins,⟨[xB,qH],0⟩):=by
    unfold dlO
    rw [e3]
    exact wk (by rw [e];simp [qC,n2]) rfl (by show 4≤8192;decide)
   have e6:dlB (ql d)=((d.bins,[]),⟨[xB,qH],0⟩):=by
    unfold dlB
    rw [e3,e4,if_pos rfl,e5]
    dsimp only
    rw [lx hbb]
    rfl
   have e7:qp (ql d) (dlB (ql d)).2=0:=by
    rw [e6]
    unfold qp
    rw [if_neg (by simp),if_pos]
    rw [hnm]
    simp
   unfold yt
   rw [e7,if_neg (by simp),e2,e6]
   obtain ⟨a,b,c⟩:=d
   dsimp only at hr ⊢
   rw [hr]
 · rw [hb0] at hb
   simp only [if_true,Bool.and_eq_true,decide_eq_true_eq] at hb
   obtain ⟨⟨hr,ha⟩,ho⟩:=hb
   have e:∀y,(ql d).look y=qC [qH,xH] [zW d.keys,zM (d.roles.map qr)] y:=fun y=>by
    show qC ((zj d).map (·.1)) ((zj d).map (·.2)) y=_
    unfold zj
    rw [hb0]
    rfl
   have hnm:(ql d).names=[qH,xH]:=by
    show (zj d).map (·.1)=_
    unfold zj
    rw [hb0]
    rfl
   have e1:dlK (ql d)=(zW d.keys,⟨[qH],0⟩):=wk (by rw [e];simp [qC]) rfl hl
   have e2:dlL (ql d)=(d.keys,0):=by unfold dlL;rw [e1];exact pZ k2 k3 k1
   have e3:dlS (ql d)=⟨[qH],0⟩:=by unfold dlS;rw [e1,e2];rfl
   have e4:qA (ql d) xB ⟨[qH],0⟩=false:=by unfold qA;rw [e];simp [qC,n2,n3]
   have e5:dlR (ql d)=(d.roles.map qr,⟨[xH,qH],0⟩):=by
    unfold dlR
    rw [e3]
    exact uh (by rw [e];simp [qC,n1]) (by rw [List.length_map];exact hr)
   have e6:dlB (ql d)=((binsZ,d.roles),⟨[xH,qH],0⟩):=by
    unfold dlB
    rw [e3,e4,if_neg (by decide),e5]
    dsimp only
    rw [yI d.roles [] ha ho]
    rfl
   have e7:qp (ql d) (dlB (ql d)).2=0:=by
    rw [e6]
    unfold qp
    rw [if_neg (by simp),if_pos]
    rw [hnm]
    simp
   unfold yt
   rw [e7,if_neg (by simp),e2,e6]
   obtain ⟨a,b,⟨c1,c2,⟨c3,c4⟩⟩⟩:=d
   unfold qD at hb0
   have hb1:=of_decide_eq_true hb0
   dsimp only at hb1 ⊢
   obtain ⟨x1,x2,x3,x4⟩:=hb1
   rw [x1,x2,x3,x4]
   rfl
theorem zC:qe [qy,zh,xQ,trmN,thrN]=true∧qe [qy,zh,zH,trmN,thrN]=true∧qe [jp,qy,jC,thrN]=true∧qe [qH,xH]=true∧qe [qH,xB]=true:=⟨by kernel_rfl,by kernel_rfl,by kernel_rfl,by kernel_rfl,by kernel_rfl⟩
theorem um {b:BinsV} (h:qD b=true):b=binsZ:=by
 obtain ⟨c1,c2,⟨c3,c4⟩⟩:=b
 unfold qD at h
 have h:=of_decide_eq_true h
 dsimp only at h
 obtain ⟨x1,x2,x3,x4⟩:=h
 rw [x1,x2,x3,x4]
 rfl
def xr (bits:Nat):Nat:=(bits+3) / 4
def xA:Nat→Nat→List UInt8
 | 0,_=>[]
 | w+1,n=>xA w (n / 16) ++ [qB (n % 16)]
theorem zA:∀w n,(xA w n).length=w
 | 0,_=>rfl
 | w+1,n=>by rw [xA,List.length_append,zA w];rfl
theorem bj:∀w n,xd (xA w n)=true
 | 0,_=>rfl
 | w+1,n=>by
  unfold xd at *
  rw [xA,List.all_append,show (xA w (n / 16)).all xn=true from bj w _]
  simp [wj (n % 16) (Nat.mod_lt _ (by decide))]
theorem uc:∀a,a<16→∀b,b<16→qB a=qB b→a=b:=by decide
theorem ud:∀(w a b:Nat),a<16 ^ w→b<16 ^ w→xA w a=xA w b→a=b
 | 0,a,b,ha,hb,_=>by simp at ha hb;omega
 | w+1,a,b,ha,hb,h=>by
  rw [xA,xA] at h
  obtain ⟨h1,h2⟩:=List.append_inj h (by rw [zA,zA])
  rw [Nat.pow_succ] at ha hb
  have e1:=ud w (a / 16) (b / 16) (Nat.div_lt_of_lt_mul (by omega)) (Nat.div_lt_of_lt_mul (by omega)) h1
  have e2:=uc _ (Nat.mod_lt a (by decide)) _ (Nat.mod_lt b (by decide)) (List.cons.inj h2).1
  omega
def r9:ByteArray:=⟨#[45]⟩
def ul (path:ByteArray):Nat:=((qO path.data.toList).getD 0 0).toNat * 16777216+((qO path.data.toList).getD 1 0).toNat * 65536+((qO path.data.toList).getD 2 0).toNat * 256+((qO path.data.toList).getD 3 0).toNat
def jD (path:ByteArray) (bits:Nat):Nat:=ul path / 2 ^ (32 - bits)
theorem sA (path:ByteArray):ul path<2 ^ 32:=by
 unfold ul
 have h0:=((qO path.data.toList).getD 0 0).toNat_lt
 have h1:=((qO path.data.toList).getD 1 0).toNat_lt
 have h2:=((qO path.data.toList).getD 2 0).toNat_lt
 have h3:=((qO path.data.toList).getD 3 0).toNat_lt
 omega
theorem cT {path:ByteArray} {bits:Nat} (h:bits≤32):jD path bits<2 ^ bits:=by
 unfold jD
 rw [Nat.div_lt_iff_lt_mul (Nat.two_pow_pos _),← Nat.pow_add,show bits+(32 - bits)=32 from by omega]
 exact sA path
def qT (pre:ByteArray) (bits n:Nat):ByteArray:=pre ++ r9 ++ ⟨(xA (xr bits) n).toArray⟩
def qM (bits n:Nat):List ByteArray:=(List.range (2 ^ (4 * xr bits - bits))).map fun i=>⟨(xA (xr bits) (n * 2 ^ (4 * xr bits - bits)+i)).toArray⟩
def yi (b:BinsV) (n:Nat):DelegV:=⟨qT b.pre b.bits.toNat n,b.au,true,[],qM b.bits.toNat n⟩
def zc (b:BinsV):List DelegV:=(List.range (2 ^ b.bits.toNat)).map (yi b)
def lj (path:ByteArray):ByteArray:=⟨(jJ path.data.toList).toArray⟩
def bk (q s:ByteArray):Bool:=q.data.toList.isPrefixOf s.data.toList
def z7 (l:List ByteArray) (path:ByteArray):Bool:=l.any fun q=>preB q && bk q (lj path)
def jV (runes:ByteArray→List Int) (p s:ByteArray):Bool:=qU p && qU s && fA (runes p) (runes s)
def isD (runes:ByteArray→List Int) (x:DelegV) (path:ByteArray):Bool:=qi x && qU path && (if x.paths≠[] then x.paths.any (fun p=>jV runes p path) else z7 x.pres path)
structure StepV where
 name:ByteArray
 au:AuthV
 term:Bool
def mO (x:DelegV):StepV:=⟨x.name,x.au,x.term⟩
def jW (runes:ByteArray→List Int) (path:ByteArray):List DelegV→List StepV
 | []=>[]
 | x :: r=>if isD runes x path then mO x :: (if x.term then [] else jW runes path r) else jW runes path r
def zT (runes:ByteArray→List Int) (d:DelegsV) (path:ByteArray):List StepV :=
 if qV d && qU path then (if qD d.bins then jW runes path d.roles else [⟨qT d.bins.pre d.bins.bits.toNat (jD path d.bins.bits.toNat),d.bins.au,true⟩]) else []
theorem mE (N:List NJ):(jM N).wt=1+qu (N.map (·.1))+JV.wts (N.map (·.2)):=by
 show 1+(⟨#[]⟩:ByteArray).size+qu (N.map (·.1))+JV.wts (N.map (·.2))=_
 rfl
theorem jj (t:ByteArray):(txtJ t).wt=1+t.size:=by simp [txtJ,JV.wt,JV.wts,qu]
theorem wH (n:Int):(za n).wt=1:=by simp [za,JV.wt,JV.wts,qu,ByteArray.size]
end Go.Proofs.YthgembbgcbaghaaGreatDoor
