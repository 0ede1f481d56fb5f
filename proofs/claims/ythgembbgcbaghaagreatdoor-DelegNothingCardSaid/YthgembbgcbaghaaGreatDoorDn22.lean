/- Plain: how much a root's object, and one with a member changed, holds; the authority of a role by its name; when roots are the same. No program in sight. -/
import Derived.Test.YthgembbgcbaghaaGreatDoorDn21

namespace Go.Proofs.YthgembbgcbaghaaGreatDoor
open Go.RowKit
def yI (c:UInt8):ByteArray:=⟨(List.replicate 64 c).toArray⟩
def iT (c:UInt8):AuthV:=⟨1,[yI c]⟩
def raN:ByteArray:=⟨#[97]⟩
structure DelegV where
 name:ByteArray
 au:AuthV
 term:Bool
 paths:List ByteArray
 pres:List ByteArray
deriving DecidableEq
structure BinsV where
 bits:Int
 pre:ByteArray
 au:AuthV
deriving DecidableEq
structure DelegsV where
 keys:List Key2
 roles:List DelegV
 bins:BinsV
deriving DecidableEq
def kj:DelegV:=⟨⟨#[]⟩,authZ,false,[],[]⟩
def jg:BinsV:=⟨0,⟨#[]⟩,authZ⟩
def jx:DelegsV:=⟨[],[],jg⟩
def gO (s:ByteArray):Bool:=decide (s=ml∨s=sQ∨s=sZ)
def qO (s:ByteArray):Bool:=decide (1≤s.size∧s.size≤256) && !(s.data.toList.headD 0 == 47) && yj s
def preB (s:ByteArray):Bool:=decide (1≤s.size∧s.size≤64) && xR s.data.toList
def qK (x:DelegV):Bool:=zf x.name.data.toList && !gO x.name && xG x.au && (if x.paths≠[] then x.pres.isEmpty && decide (x.paths.length≤32) && x.paths.all qO else !x.pres.isEmpty && decide (x.pres.length≤32) && x.pres.all preB)
def zL (b:BinsV):Int:=if b.bits<1∨32<b.bits then 1 else if zf b.pre.data.toList=false then 3 else if 64<b.pre.size+1+(b.bits.toNat+3) / 4 then 5 else 0
def q9 (b:BinsV):Bool:=decide (zL b=0) && xG b.au && !gO b.pre
def qS (b:BinsV):Bool:=decide (b.bits=0∧b.pre=⟨#[]⟩∧b.au.thr=0∧b.au.ids=[])
def z6:List DelegV→Bool
 | []=>true
 | x :: r=>!(r.any fun y=>decide (y.name=x.name)) && z6 r
def za (b:Bool):JV:=.mk 1 (if b then 1 else 0) ⟨#[]⟩ [] []
def zx:ByteArray:=⟨#[110,97,109,101]⟩
def zJ:ByteArray:=⟨#[112,97,116,104,95,104,97,115,104,95,112,114,101,102,105,120,101,115]⟩
def xm:ByteArray:=⟨#[112,97,116,104,115]⟩
def trmN:ByteArray:=⟨#[116,101,114,109,105,110,97,116,105,110,103]⟩
def jr:ByteArray:=⟨#[98,105,116,95,108,101,110,103,116,104]⟩
def jS:ByteArray:=⟨#[110,97,109,101,95,112,114,101,102,105,120]⟩
def zl:ByteArray:=⟨#[115,117,99,99,105,110,99,116,95,114,111,108,101,115]⟩
def zd (x:DelegV):List NJ:=[(qb,qh x.au.ids),(zx,txtJ x.name),(if x.paths≠[] then (xm,qh x.paths) else (zJ,qh x.pres)),(trmN,za x.term),(thrN,zh x.au.thr)]
def qm (x:DelegV):JV:=zV (zd x)
def ft (b:BinsV):List NJ:=[(jr,zh b.bits),(qb,qh b.au.ids),(jS,txtJ b.pre),(thrN,zh b.au.thr)]
def zt (b:BinsV):JV:=zV (ft b)
def qW (d:DelegsV):List NJ:=(qt,zu d.keys) :: (if qS d.bins then [(zX,zn (d.roles.map qm))] else [(zl,zt d.bins)])
def qy (d:DelegsV):JV:=zV (qW d)
def qP (d:DelegsV):Bool:=zp d.keys && (if qS d.bins then decide (d.roles.length≤64) && d.roles.all qK && z6 d.roles else d.roles.isEmpty && q9 d.bins) && (qy d).mayB
def qA (v:JV) (y:ByteArray) (st:PS):Bool × PS :=
 if st.err≠0 then (false,st) else match v.look y with
 | none=>(false,⟨st.asked,6⟩)
 | some it=>if it.kind≠1 then (false,⟨st.asked,10⟩) else (decide (it.n=1),⟨y :: st.asked,0⟩)
def qY (v:JV) (y:ByteArray) (most:Nat) (st:PS):List JV × PS :=
 if st.err≠0 then ([],st) else match v.look y with
 | none=>([],⟨st.asked,6⟩)
 | some it=>if it.kind≠4 then ([],⟨st.asked,10⟩) else if most<it.items.length then ([],⟨st.asked,5⟩) else (it.items,⟨y :: st.asked,0⟩)
def dgN (v:JV):ByteArray × PS:=qu v zx ⟨[],0⟩
def dgA (v:JV):AuthV × PS:=j6 v (dgN v).2
def dgT (v:JV):Bool × PS:=qA v trmN (dgA v).2
def dgP (v:JV):(List ByteArray × List ByteArray) × PS:=if qL v zJ (dgT v).2 then (([],(qw v zJ 32 (dgT v).2).1),(qw v zJ 32 (dgT v).2).2) else (((qw v xm 32 (dgT v).2).1,[]),(qw v xm 32 (dgT v).2).2)
def dgX (v:JV):DelegV:=⟨(dgN v).1,(dgA v).1,(dgT v).1,(dgP v).1.1,(dgP v).1.2⟩
def ze (v:JV):DelegV × Int:=if v.kind≠5 then (kj,10) else if qp v (dgP v).2≠0 then (kj,qp v (dgP v).2) else if qK (dgX v) then (dgX v,0) else (kj,3)
def xq:List JV→List DelegV→List DelegV × Int
 | [],acc=>(acc,0)
 | v :: r,acc=>if (ze v).2≠0 then ([],(ze v).2) else if acc.any (fun y=>decide (y.name=(ze v).1.name)) then ([],7) else xq r (acc ++ [(ze v).1])
def bnA (v:JV):AuthV × PS:=j6 v ⟨[],0⟩
def bnB (v:JV):Int × PS:=qN v jr 1 32 (bnA v).2
def bnP (v:JV):ByteArray × PS:=qu v jS (bnB v).2
def xk (v:JV):BinsV × Int:=if v.kind≠5 then (jg,10) else if qp v (bnP v).2≠0 then (jg,qp v (bnP v).2) else if q9 ⟨(bnB v).1,(bnP v).1,(bnA v).1⟩ then (⟨(bnB v).1,(bnP v).1,(bnA v).1⟩,0) else (jg,3)
def dlK (v:JV):JV × PS:=qr v qt 32 ⟨[],0⟩
def dlL (v:JV):List Key2 × Int:=xi (dlK v).1
def dlS (v:JV):PS:=(dlK v).2.fail (dlL v).2
def dlO (v:JV):JV × PS:=qr v zl 8192 (dlS v)
def dlR (v:JV):List JV × PS:=qY v zX 64 (dlS v)
def dlB (v:JV):(BinsV × List DelegV) × PS:=if qL v zl (dlS v) then (((xk (dlO v).1).1,[]),(dlO v).2.fail (xk (dlO v).1).2) else ((jg,(xq (dlR v).1 []).1),(dlR v).2.fail (xq (dlR v).1 []).2)
def kJ (v:JV):DelegsV × Int:=if qp v (dlB v).2≠0 then (jx,qp v (dlB v).2) else (⟨(dlL v).1,(dlB v).1.2,(dlB v).1.1⟩,0)
def qT (v:JV):DelegsV × Int:=if v.mayB=false then (jx,3) else if v.kind≠5 then (jx,10) else kJ v
def sL:ByteArray:=⟨#[42]⟩
def bbN:ByteArray:=⟨#[98]⟩
def ppN:ByteArray:=⟨#[112]⟩
theorem ma {v:JV} {a:AuthV} {s:List ByteArray} (h:xG a=true) (l1:v.look qb=some (qh a.ids)) (l2:v.look thrN=some (zh a.thr)):j6 v ⟨s,0⟩=(a,⟨thrN :: qb :: s,0⟩):=by
 obtain ⟨hl,ht,hi⟩:=zE h
 have p1:qw v qb 16 ⟨s,0⟩=(a.ids,⟨qb :: s,0⟩):=k9 l1 hl.2
 have hne:¬a.ids=[]:=fun e=>by rw [e] at hl;simp at hl
 have p2:j5 v ⟨s,0⟩=⟨qb :: s,0⟩:=by
  unfold j5
  rw [p1]
  dsimp only
  rw [if_neg hne,hi]
  rfl
 have p3:vu v ⟨s,0⟩=(a.thr,⟨thrN :: qb :: s,0⟩):=by
  unfold vu
  rw [p1,p2]
  exact bI l2 ht.1 ht.2
 unfold j6
 rw [p3,p1]
 rfl
theorem mi {v:JV} {y:ByteArray} {b:Bool} {s:List ByteArray} (h:v.look y=some (za b)):qA v y ⟨s,0⟩=(b,⟨y :: s,0⟩):=by
 unfold qA
 rw [if_neg (by simp),h]
 show (if (za b).kind≠1 then _ else _:Bool × PS)=_
 rw [if_neg (by simp [za,JV.kind])]
 cases b <;> rfl
theorem gG {v:JV} {y:ByteArray} {l:List JV} {most:Nat} {s:List ByteArray} (h:v.look y=some (zn l)) (hl:l.length≤most):qY v y most ⟨s,0⟩=(l,⟨y :: s,0⟩):=by
 unfold qY
 rw [if_neg (by simp),h]
 show (if (zn l).kind≠4 then _ else if most<l.length then _ else _:List JV × PS)=_
 rw [if_neg (by simp [zn,JV.kind]),if_neg (by omega)]
 rfl
theorem yh:(qb≠zx∧qb≠xm∧qb≠zJ∧qb≠trmN∧qb≠thrN∧zx≠xm∧zx≠zJ∧zx≠trmN∧zx≠thrN)∧(xm≠zJ∧xm≠trmN∧xm≠thrN∧zJ≠xm∧zJ≠trmN∧zJ≠thrN∧trmN≠thrN)∧(trmN≠zJ∧thrN≠zJ∧jr≠qb∧jr≠jS∧jr≠thrN∧qb≠jS∧jS≠thrN∧qt≠zX∧qt≠zl∧zX≠zl):=by decide
theorem xP {x:DelegV} (h:qK x=true):zf x.name.data.toList=true∧gO x.name=false∧xG x.au=true∧((x.paths≠[]∧x.pres=[]∧x.paths.length≤32∧x.paths.all qO=true)∨(x.paths=[]∧x.pres≠[]∧x.pres.length≤32∧x.pres.all preB=true)):=by
 unfold qK at h
 simp only [Bool.and_eq_true,Bool.not_eq_true'] at h
 refine ⟨h.1.1.1,h.1.1.2,h.1.2,?_⟩
 have h4:=h.2
 split at h4
 · rename_i hp
   simp only [Bool.and_eq_true,decide_eq_true_eq,List.isEmpty_iff] at h4
   exact .inl ⟨hp,h4.1.1,h4.1.2,h4.2⟩
 · rename_i hp
   simp only [Bool.and_eq_true,decide_eq_true_eq,Bool.not_eq_true',List.isEmpty_eq_false_iff] at h4
   exact .inr ⟨by simpa using hp,h4.1.1,h4.1.2,h4.2⟩
theorem dk {x:DelegV} (h:qK x=true):ze (qm x)=(x,0):=by
 obtain ⟨hn,ht,ha,hp⟩:=xP h
 obtain ⟨⟨a1,a2,a3,a4,a5,a6,a7,a8,a9⟩,⟨b1,b2,b3,b4,b5,b6,b7⟩,⟨c1,c2,-⟩⟩:=yh
 have hk:(qm x).kind=5:=rfl
 have key:∀(q:NJ),(∀y,(qm x).look y=qB [qb,zx,q.1,trmN,thrN] [qh x.au.ids,txtJ x.name,q.2,za x.term,zh x.au.thr] y)→(q.1=xm∨q.1=zJ)→dgN (qm x)=(x.name,⟨[zx],0⟩)∧dgA (qm x)=(x.au,⟨[thrN,qb,zx],0⟩)∧dgT (qm x)=(x.term,⟨[trmN,thrN,qb,zx],0⟩):=by
  intro q e hq
  have n1:q.1≠trmN:=by rcases hq with e|e <;> rw [e];exact b2;exact b5
  have n2:q.1≠thrN:=by rcases hq with e|e <;> rw [e];exact b3;exact b6
  have e1:dgN (qm x)=(x.name,⟨[zx],0⟩):=gV (by rw [e];simp [qB,a1])
  have e2:dgA (qm x)=(x.au,⟨[thrN,qb,zx],0⟩):=by
   unfold dgA
   rw [e1]
   exact ma ha (by rw [e];simp [qB]) (by rw [e];simp [qB,a5,a9,n2,b7])
  refine ⟨e1,e2,?_⟩
  unfold dgT
  rw [e2]
  exact mi (by rw [e];simp [qB,a4,a8,n1])
 rcases hp with ⟨p1,p2,p3,p4⟩|⟨p1,p2,p3,p4⟩
 · have e:∀y,(qm x).look y=qB [qb,zx,xm,trmN,thrN] [qh x.au.ids,txtJ x.name,qh x.paths,za x.term,zh x.au.thr] y:=fun y=>by
    show qB ((zd x).map (·.1)) ((zd x).map (·.2)) y=_
    unfold zd
    rw [if_pos p1]
    rfl
   obtain ⟨e1,e2,e3⟩:=key (xm,qh x.paths) e (.inl rfl)
   have e4:qL (qm x) zJ ⟨[trmN,thrN,qb,zx],0⟩=false:=by
    unfold qL
    rw [e]
    simp [qB,a3,a7,b1,c1,c2]
   have e5:dgP (qm x)=((x.paths,[]),⟨[xm,trmN,thrN,qb,zx],0⟩):=by
    unfold dgP
    rw [e3,e4,if_neg (by decide),k9 (l:=x.paths) (by rw [e];simp [qB,a2,a6]) p3]
   have e6:dgX (qm x)=x:=by
    unfold dgX
    rw [e1,e2,e3,e5]
    obtain ⟨n,a,t,p,r⟩:=x
    dsimp only at p2 ⊢
    rw [p2]
   have e7:qp (qm x) (dgP (qm x)).2=0:=by
    rw [e5]
    unfold qp
    rw [if_neg (by simp),if_pos]
    have:(qm x).names=[qb,zx,xm,trmN,thrN]:=by
     show (zd x).map (·.1)=_
     unfold zd
     rw [if_pos p1]
     rfl
    rw [this]
    simp
   unfold ze
   rw [if_neg (by simp [hk]),e7,if_neg (by simp),e6,if_pos h]
 · have e:∀y,(qm x).look y=qB [qb,zx,zJ,trmN,thrN] [qh x.au.ids,txtJ x.name,qh x.pres,za x.term,zh x.au.thr] y:=fun y=>by
    show qB ((zd x).map (·.1)) ((zd x).map (·.2)) y=_
    unfold zd
    rw [if_neg (by simp [p1])]
    rfl
   obtain ⟨e1,e2,e3⟩:=key (zJ,qh x.pres) e (.inr rfl)
   have e4:qL (qm x) zJ ⟨[trmN,thrN,qb,zx],0⟩=true:=by
    unfold qL
    rw [e]
    simp [qB,a3,a7]
   have e5:dgP (qm x)=(([],x.pres),⟨[zJ,trmN,thrN,qb,zx],0⟩):=by
    unfold dgP
    rw [e3,e4,if_pos rfl,k9 (l:=x.pres) (by rw [e];simp [qB,a3,a7]) p3]
   have e6:dgX (qm x)=x:=by
    unfold dgX
    rw [e1,e2,e3,e5]
    obtain ⟨n,a,t,p,r⟩:=x
    dsimp only at p1 ⊢
    rw [p1]
   have e7:qp (qm x) (dgP (qm x)).2=0:=by
    rw [e5]
    unfold qp
    rw [if_neg (by simp),if_pos]
    have:(qm x).names=[qb,zx,zJ,trmN,thrN]:=by
     show (zd x).map (·.1)=_
     unfold zd
     rw [if_neg (by simp [p1])]
     rfl
    rw [this]
    simp
   unfold ze
   rw [if_neg (by simp [hk]),e7,if_neg (by simp),e6,if_pos h]
theorem vJ:∀(l acc:List DelegV),l.all qK=true→z6 (acc ++ l)=true→xq (l.map qm) acc=(acc ++ l,0)
 | [],acc,_,_=>by simp [xq]
 | x :: r,acc,h,hn=>by
  rw [List.all_cons,Bool.and_eq_true] at h
  have e:=dk h.1
  have hno:acc.any (fun y=>decide (y.name=x.name))=false:=by
   rw [Bool.eq_false_iff]
   intro h2
   obtain ⟨y,hy,hyx⟩:=List.any_eq_true.1 h2
   have hyx:=of_decide_eq_true hyx
   clear h e h2
   induction acc with
   | nil=>simp at hy
   | cons z acc ih =>
    rw [List.cons_append,z6,Bool.and_eq_true,Bool.not_eq_true'] at hn
    rcases List.mem_cons.1 hy with rfl|hy
    · have:(acc ++ x :: r).any (fun w=>decide (w.name=y.name))=true:=List.any_eq_true.2 ⟨x,by simp,by simp [hyx]⟩
      rw [this] at hn
      simp at hn
    · exact ih hn.2 hy
  rw [List.map_cons,xq,e]
  dsimp only
  rw [if_neg (by simp),hno,if_neg (by decide),vJ r (acc ++ [x]) h.2 (by rw [List.append_assoc];exact hn),List.append_assoc]
  rfl
theorem wl {b:BinsV} (h:q9 b=true):(1≤b.bits∧b.bits≤32)∧zf b.pre.data.toList=true∧xG b.au=true∧gO b.pre=false:=by
 unfold q9 at h
 simp only [Bool.and_eq_true,decide_eq_true_eq,Bool.not_eq_true'] at h
 obtain ⟨⟨h1,h2⟩,h3⟩:=h
 unfold zL at h1
 split at h1
 · exact absurd h1 (by decide)
 · rename_i hb
   split at h1
   · exact absurd h1 (by decide)
   · rename_i hr
     exact ⟨by omega,by simpa using hr,h2,h3⟩
theorem fi {b:BinsV} (h:q9 b=true):xk (zt b)=(b,0):=by
 obtain ⟨h1,h2,h3,h4⟩:=wl h
 obtain ⟨⟨a1,a2,a3,a4,a5,-⟩,-,⟨-,-,c3,c4,c5,c6,c7,-⟩⟩:=yh
 have e:∀y,(zt b).look y=qB [jr,qb,jS,thrN] [zh b.bits,qh b.au.ids,txtJ b.pre,zh b.au.thr] y:=fun _=>rfl
 have e1:bnA (zt b)=(b.au,⟨[thrN,qb],0⟩):=ma h3 (by rw [e];simp [qB,c3]) (by rw [e];simp [qB,c5,a5,c7])
 have e2:bnB (zt b)=(b.bits,⟨[jr,thrN,qb],0⟩):=by
  unfold bnB
  rw [e1]
  exact bI (by rw [e];simp [qB]) h1.1 h1.2
 have e3:bnP (zt b)=(b.pre,⟨[jS,jr,thrN,qb],0⟩):=by
  unfold bnP
  rw [e2]
  exact gV (by rw [e];simp [qB,c4,c6])
 have e4:qp (zt b) (bnP (zt b)).2=0:=by
  rw [e3]
  unfold qp
  rw [if_neg (by simp),if_pos]
  simp [zt,zV,JV.names,ft]
 unfold xk
 rw [if_neg (by simp [zt,zV,JV.kind]),e4,if_neg (by simp),e1,e2,e3]
 exact if_pos h
theorem mo {d:DelegsV} (h:qP d=true):qT (qy d)=(d,0):=by
 have hm:(qy d).mayB=true:=by
  unfold qP at h
  rw [Bool.and_eq_true] at h
  exact h.2
 unfold qP at h
 simp only [Bool.and_eq_true] at h
 obtain ⟨⟨hk,hb⟩,-⟩:=h
 obtain ⟨k1,k2,k3⟩:=q6.1 hk
 obtain ⟨-,-,⟨-,-,-,-,-,-,-,n1,n2,n3⟩⟩:=yh
 have hl:(zu d.keys).items.length≤32:=by show (d.keys.map obj2).length≤32;rw [List.length_map];exact k1
 unfold qT
 rw [if_neg (by rw [hm];decide),if_neg (by simp [qy,zV,JV.kind])]
 clear hm
 cases hb0:qS d.bins
 · rw [hb0] at hb
   simp only [Bool.false_eq_true,if_false,Bool.and_eq_true,List.isEmpty_iff] at hb
   obtain ⟨hr,hbb⟩:=hb
   have e:∀y,(qy d).look y=qB [qt,zl] [zu d.keys,zt d.bins] y:=fun y=>by
    show qB ((qW d).map (·.1)) ((qW d).map (·.2)) y=_
    unfold qW
    rw [hb0]
    rfl
   have hnm:(qy d).names=[qt,zl]:=by
    show (qW d).map (·.1)=_
    unfold qW
    rw [hb0]
    rfl
   have e1:dlK (qy d)=(zu d.keys,⟨[qt],0⟩):=jH (by rw [e];simp [qB]) rfl hl
   have e2:dlL (qy d)=(d.keys,0):=by unfold dlL;rw [e1];exact yT k2 k3 k1
   have e3:dlS (qy d)=⟨[qt],0⟩:=by unfold dlS;rw [e1,e2];rfl
   have e4:qL (qy d) zl ⟨[qt],0⟩=true:=by unfold qL;rw [e];simp [qB,n2]
   have e5:dlO (qy d)=(zt d.bins,⟨[zl,qt],0⟩):=by
    unfold dlO
    rw [e3]
    exact jH (by rw [e];simp [qB,n2]) rfl (by show 4≤8192;decide)
   have e6:dlB (qy d)=((d.bins,[]),⟨[zl,qt],0⟩):=by
    unfold dlB
    rw [e3,e4,if_pos rfl,e5]
    dsimp only
    rw [fi hbb]
    rfl
   have e7:qp (qy d) (dlB (qy d)).2=0:=by
    rw [e6]
    unfold qp
    rw [if_neg (by simp),if_pos]
    rw [hnm]
    simp
   unfold kJ
   rw [e7,if_neg (by simp),e2,e6]
   obtain ⟨a,b,c⟩:=d
   dsimp only at hr ⊢
   rw [hr]
 · rw [hb0] at hb
   simp only [if_true,Bool.and_eq_true,decide_eq_true_eq] at hb
   obtain ⟨⟨hr,ha⟩,ho⟩:=hb
   have e:∀y,(qy d).look y=qB [qt,zX] [zu d.keys,zn (d.roles.map qm)] y:=fun y=>by
    show qB ((qW d).map (·.1)) ((qW d).map (·.2)) y=_
    unfold qW
    rw [hb0]
    rfl
   have hnm:(qy d).names=[qt,zX]:=by
    show (qW d).map (·.1)=_
    unfold qW
    rw [hb0]
    rfl
   have e1:dlK (qy d)=(zu d.keys,⟨[qt],0⟩):=jH (by rw [e];simp [qB]) rfl hl
   have e2:dlL (qy d)=(d.keys,0):=by unfold dlL;rw [e1];exact yT k2 k3 k1
   have e3:dlS (qy d)=⟨[qt],0⟩:=by unfold dlS;rw [e1,e2];rfl
   have e4:qL (qy d) zl ⟨[qt],0⟩=false:=by unfold qL;rw [e];simp [qB,n2,n3]
   have e5:dlR (qy d)=(d.roles.map qm,⟨[zX,qt],0⟩):=by
    unfold dlR
    rw [e3]
    exact gG (by rw [e];simp [qB,n1]) (by rw [List.length_map];exact hr)
   have e6:dlB (qy d)=((jg,d.roles),⟨[zX,qt],0⟩):=by
    unfold dlB
    rw [e3,e4,if_neg (by decide),e5]
    dsimp only
    rw [vJ d.roles [] ha ho]
    rfl
   have e7:qp (qy d) (dlB (qy d)).2=0:=by
    rw [e6]
    unfold qp
    rw [if_neg (by simp),if_pos]
    rw [hnm]
    simp
   unfold kJ
   rw [e7,if_neg (by simp),e2,e6]
   obtain ⟨a,b,⟨c1,c2,⟨c3,c4⟩⟩⟩:=d
   unfold qS at hb0
   have hb1:=of_decide_eq_true hb0
   dsimp only at hb1 ⊢
   obtain ⟨x1,x2,x3,x4⟩:=hb1
   rw [x1,x2,x3,x4]
   rfl
theorem zM:qo [qb,zx,xm,trmN,thrN]=true∧qo [qb,zx,zJ,trmN,thrN]=true∧qo [jr,qb,jS,thrN]=true∧qo [qt,zX]=true∧qo [qt,zl]=true:=⟨by kernel_rfl,by kernel_rfl,by kernel_rfl,by kernel_rfl,by kernel_rfl⟩
theorem uz {u:JV} {d:DelegsV} (h:qP d=true) (l1:u.look qt=some (zu d.keys)) (l2:qS d.bins=true→u.look zl=none∧u.look zX=some (zn (d.roles.map qm))) (l3:qS d.bins=false→u.look zl=some (zt d.bins)) :
 (dlB u).2=⟨[if qS d.bins then zX else zl,qt],0⟩:=by
 unfold qP at h
 simp only [Bool.and_eq_true] at h
 obtain ⟨⟨hk,hb⟩,-⟩:=h
 obtain ⟨k1,k2,k3⟩:=q6.1 hk
 have hl:(zu d.keys).items.length≤32:=by show (d.keys.map obj2).length≤32;rw [List.length_map];exact k1
 have e1:dlK u=(zu d.keys,⟨[qt],0⟩):=jH l1 rfl hl
 have e2:dlL u=(d.keys,0):=by unfold dlL;rw [e1];exact yT k2 k3 k1
 have e3:dlS u=⟨[qt],0⟩:=by unfold dlS;rw [e1,e2];rfl
 cases hb0:qS d.bins
 · rw [hb0] at hb
   simp only [Bool.false_eq_true,if_false,Bool.and_eq_true,List.isEmpty_iff] at hb
   have e4:qL u zl ⟨[qt],0⟩=true:=by unfold qL;rw [l3 hb0];rfl
   have e5:dlO u=(zt d.bins,⟨[zl,qt],0⟩):=by
    unfold dlO
    rw [e3]
    exact jH (l3 hb0) rfl (by show 4≤8192;decide)
   unfold dlB
   rw [e3,e4,if_pos rfl,e5]
   dsimp only
   rw [fi hb.2]
   rfl
 · rw [hb0] at hb
   simp only [if_true,Bool.and_eq_true,decide_eq_true_eq] at hb
   obtain ⟨⟨hr,ha⟩,ho⟩:=hb
   have e4:qL u zl ⟨[qt],0⟩=false:=by unfold qL;rw [(l2 hb0).1];rfl
   have e5:dlR u=(d.roles.map qm,⟨[zX,qt],0⟩):=by
    unfold dlR
    rw [e3]
    exact gG (l2 hb0).2 (by rw [List.length_map];exact hr)
   unfold dlB
   rw [e3,e4,if_neg (by decide),e5]
   dsimp only
   rw [vJ d.roles [] ha ho]
   rfl
theorem ux (d:DelegsV):(qy d).look qt=some (zu d.keys)∧(qS d.bins=true→(qy d).look zl=none∧(qy d).look zX=some (zn (d.roles.map qm)))∧(qS d.bins=false→(qy d).look zl=some (zt d.bins)):=by
 obtain ⟨-,-,⟨-,-,-,-,-,-,-,n1,n2,n3⟩⟩:=yh
 have e:∀y,(qy d).look y=qB ((qW d).map (·.1)) ((qW d).map (·.2)) y:=fun _=>rfl
 cases hb0:qS d.bins
 · have hM:qW d=[(qt,zu d.keys),(zl,zt d.bins)]:=by unfold qW;rw [hb0];rfl
   exact ⟨by rw [e,hM];simp [qB],fun h=>by simp at h,fun _=>by rw [e,hM];simp [qB,n2]⟩
 · have hM:qW d=[(qt,zu d.keys),(zX,zn (d.roles.map qm))]:=by unfold qW;rw [hb0];rfl
   exact ⟨by rw [e,hM];simp [qB],fun _=>⟨by rw [e,hM];simp [qB,n2,n3],by rw [e,hM];simp [qB,n1]⟩,fun h=>by simp at h⟩
theorem me {d:DelegsV} (h:qP d=true) {i:Nat} {n:ByteArray} {x:JV} (hi:i≤2) (hn:n≠qt∧n≠zl∧(n=zX→qS d.bins=false)):(qT (jK (qy d) i false n x)).2=if (jK (qy d) i false n x).mayB then 11 else 3:=by
 obtain ⟨l1,l2,l3⟩:=ux d
 have hlen:(qy d).names.length=(qy d).items.length:=by show ((qW d).map (·.1)).length=((qW d).map (·.2)).length;simp
 have h2:(qy d).names.length=2:=by
  show ((qW d).map (·.1)).length=2
  unfold qW
  split <;> rfl
 have hi':i≤(qy d).names.length:=by omega
 have hx:n ∈ (jK (qy d) i false n x).names:=rr _ _ _ _ _
 have hk:(jK (qy d) i false n x).kind=5:=rfl
 have e:=uz (u:=jK (qy d) i false n x) h (by rw [vq hlen hi' hn.1];exact l1)
  (fun hb=>⟨by rw [vq hlen hi' hn.2.1];exact (l2 hb).1,by rw [vq hlen hi' (fun e=>by have:=hn.2.2 e;rw [hb] at this;cases this)];exact (l2 hb).2⟩)
  (fun hb=>by rw [vq hlen hi' hn.2.1];exact l3 hb)
 have e2:qp (jK (qy d) i false n x) (dlB (jK (qy d) i false n x)).2=11:=by
  rw [e]
  refine rt hx ?_
  simp only [List.mem_cons,List.not_mem_nil,or_false,not_or]
  refine ⟨fun hq=>?_,hn.1⟩
  split at hq
  · rename_i hb
    have:=hn.2.2 hq
    rw [hb] at this
    cases this
  · exact hn.2.1 hq
 unfold qT
 cases hm:(jK (qy d) i false n x).mayB
 · rw [if_pos rfl];rfl
 · rw [if_neg (by decide),if_neg (by rw [hk];simp)]
   unfold kJ
   rw [e2,if_pos (by decide)]
   rfl
theorem mQ {d:DelegsV} (hm:(wF (qy d) qt).mayB=true):(qT (wF (qy d) qt)).2=6:=by
 have lk:(wF (qy d) qt).look qt=none:=by
  have:=rn (qW d) qt qt
  rw [if_pos rfl] at this
  exact this
 have hk:(wF (qy d) qt).kind=5:=rfl
 generalize wF (qy d) qt=u at hm lk hk
 have e1:dlK u=(qi,⟨[],6⟩):=by
  unfold dlK qr
  rw [if_neg (by simp),lk]
 have e2:dlS u=⟨[],6⟩:=by unfold dlS;rw [e1];exact cE (by decide)
 have e3:qL u zl ⟨[],6⟩=false:=by unfold qL;simp
 have e4:dlR u=([],⟨[],6⟩):=by unfold dlR qY;rw [e2,if_pos (by decide)]
 have e5:(dlB u).2=⟨[],6⟩:=by
  unfold dlB
  rw [e2,e3,if_neg (by decide),e4]
  rfl
 unfold qT
 rw [if_neg (by rw [hm];decide),if_neg (by simp [hk])]
 unfold kJ
 rw [e5,sF (by decide),if_pos (by decide)]
theorem wn (p:NJ→Bool):∀N:List NJ,JV.counts ((N.filter p).map (·.2))≤JV.counts (N.map (·.2))
 | []=>Nat.le_refl _
 | a :: N=>by
  have ih:=wn p N
  rw [List.filter_cons]
  split
  · simp only [List.map_cons,JV.counts];omega
  · simp only [List.map_cons,JV.counts];omega
theorem wi (p:NJ→Bool):∀N:List NJ,JV.depths ((N.filter p).map (·.2))≤JV.depths (N.map (·.2))
 | []=>Nat.le_refl _
 | a :: N=>by
  have ih:=wi p N
  rw [List.filter_cons]
  split
  · simp only [List.map_cons,JV.depths];omega
  · simp only [List.map_cons,JV.depths];omega
theorem dv {N:List NJ} (p:NJ→Bool) (h:(zV N).mayB=true):(zV (N.filter p)).mayB=true:=by
 rw [JV.mayB_iff] at h ⊢
 simp only [Bool.and_eq_true,decide_eq_true_eq] at h ⊢
 obtain ⟨⟨h1,h2⟩,h3⟩:=h
 have hp:=h1
 rw [JV.partB_eq,Bool.and_eq_true] at hp
 have hp1:qV 5 0 ⟨#[]⟩ (N.map (fun q:NJ=>q.1)) (N.map (fun q:NJ=>q.2)).length=true:=hp.1
 obtain ⟨-,-,-,hr,ht⟩:=tJ hp1
 have hi:=(yg h1 rfl).2.2.2
 have hpart:(zV (N.filter p)).partB=true:=ko ⟨uq p hr,fun q hq=>⟨List.all_eq_true.1 ht q.1 (List.mem_map_of_mem (List.mem_filter.1 hq).1),hi q.2 (by show q.2 ∈ N.map (·.2);exact List.mem_map_of_mem (f:=(·.2)) (List.mem_filter.1 hq).1)⟩⟩
 rw [JV.count_eq] at h2 ⊢
 rw [JV.depth_eq] at h3 ⊢
 have c:=wn p N
 have d:=wi p N
 have e1:(zV N).items=N.map (·.2):=rfl
 have e2:(zV (N.filter p)).items=(N.filter p).map (·.2):=rfl
 rw [e1] at h2 h3
 rw [e2]
 rw [if_neg (by simp [zV,JV.kind])] at h3 ⊢
 exact ⟨⟨hpart,by omega⟩,by omega⟩
theorem pN {d:DelegsV} (h:qP d=true):(qT (wF (qy d) qt)).2=6:=by
 refine mQ ?_
 rw [show qy d=zV (qW d) from rfl,vX]
 refine dv _ ?_
 unfold qP at h
 rw [Bool.and_eq_true] at h
 exact h.2
def ph (bits:Nat):Nat:=(bits+3) / 4
def yO:Nat→Nat→List UInt8
 | 0,_=>[]
 | w+1,n=>yO w (n / 16) ++ [q8 (n % 16)]
theorem jb:∀w n,(yO w n).length=w
 | 0,_=>rfl
 | w+1,n=>by rw [yO,List.length_append,jb w];rfl
def iZ:ByteArray:=⟨#[45]⟩
def dw (path:ByteArray):Nat:=((zZ path.data.toList).getD 0 0).toNat * 16777216+((zZ path.data.toList).getD 1 0).toNat * 65536+((zZ path.data.toList).getD 2 0).toNat * 256+((zZ path.data.toList).getD 3 0).toNat
def yu (path:ByteArray) (bits:Nat):Nat:=dw path / 2 ^ (32 - bits)
theorem tW (path:ByteArray):dw path<2 ^ 32:=by
 unfold dw
 have h0:=((zZ path.data.toList).getD 0 0).toNat_lt
 have h1:=((zZ path.data.toList).getD 1 0).toNat_lt
 have h2:=((zZ path.data.toList).getD 2 0).toNat_lt
 have h3:=((zZ path.data.toList).getD 3 0).toNat_lt
 omega
theorem tY {path:ByteArray} {bits:Nat} (h:bits≤32):yu path bits<2 ^ bits:=by
 unfold yu
 rw [Nat.div_lt_iff_lt_mul (Nat.two_pow_pos _),← Nat.pow_add,show bits+(32 - bits)=32 from by omega]
 exact tW path
def xF (pre:ByteArray) (bits n:Nat):ByteArray:=pre ++ iZ ++ ⟨(yO (ph bits) n).toArray⟩
def tG (path:ByteArray):ByteArray:=⟨(k8 path.data.toList).toArray⟩
def uj (q s:ByteArray):Bool:=q.data.toList.isPrefixOf s.data.toList
def xe (l:List ByteArray) (path:ByteArray):Bool:=l.any fun q=>preB q && uj q (tG path)
def jU (runes:ByteArray→List Int) (p s:ByteArray):Bool:=qO p && qO s && uH (runes p) (runes s)
def isD (runes:ByteArray→List Int) (x:DelegV) (path:ByteArray):Bool:=qK x && qO path && (if x.paths≠[] then x.paths.any (fun p=>jU runes p path) else xe x.pres path)
structure StepV where
 name:ByteArray
 au:AuthV
 term:Bool
def sR (x:DelegV):StepV:=⟨x.name,x.au,x.term⟩
def kK (runes:ByteArray→List Int) (path:ByteArray):List DelegV→List StepV
 | []=>[]
 | x :: r=>if isD runes x path then sR x :: (if x.term then [] else kK runes path r) else kK runes path r
def xL (runes:ByteArray→List Int) (d:DelegsV) (path:ByteArray):List StepV :=
 if qP d && qO path then (if qS d.bins then kK runes path d.roles else [⟨xF d.bins.pre d.bins.bits.toNat (yu path d.bins.bits.toNat),d.bins.au,true⟩]) else []
theorem wC (N:List NJ):(zV N).wt=1+qv (N.map (·.1))+JV.wts (N.map (·.2)):=by
 show 1+(⟨#[]⟩:ByteArray).size+qv (N.map (·.1))+JV.wts (N.map (·.2))=_
 rfl
theorem xg (t:ByteArray):(txtJ t).wt=1+t.size:=by simp [txtJ,JV.wt,JV.wts,qv]
theorem kV (n:Int):(zh n).wt=1:=by simp [zh,JV.wt,JV.wts,qv,ByteArray.size]
theorem wD:∀(l:List ByteArray) (k:Nat),qv (l.take k)+qv (l.drop k)=qv l
 | [],k=>by simp [qv]
 | a :: r,0=>by simp [qv]
 | a :: r,k+1=>by have:=wD r k;simp only [List.take_succ_cons,List.drop_succ_cons,qv];omega
theorem wts_take:∀(l:List JV) (k:Nat),JV.wts (l.take k)+JV.wts (l.drop k)=JV.wts l
 | [],k=>by simp [JV.wts]
 | a :: r,0=>by simp [JV.wts]
 | a :: r,k+1=>by have:=wts_take r k;simp only [List.take_succ_cons,List.drop_succ_cons,JV.wts];omega
theorem yE:∀a b:List ByteArray,qv (a ++ b)=qv a+qv b
 | [],b=>by simp [qv]
 | x :: a,b=>by have:=yE a b;simp only [List.cons_append,qv];omega
theorem uk:∀a b:List JV,JV.wts (a ++ b)=JV.wts a+JV.wts b
 | [],b=>by simp [JV.wts]
 | x :: a,b=>by have:=uk a b;simp only [List.cons_append,JV.wts];omega
theorem sN (v:JV) (r:Nat) (f:Bool) (n:ByteArray) (x:JV):(jK v r f n x).wt≤v.wt+n.size+x.wt+1:=by
 have h1:=wD v.names r
 have h2:=wts_take v.items r
 have h3:qv (v.names.drop (r+f.toNat))≤qv (v.names.drop r):=by
  rw [← List.drop_drop]
  have:=wD (v.names.drop r) f.toNat
  omega
 have h4:JV.wts (v.items.drop (r+f.toNat))≤JV.wts (v.items.drop r):=by
  rw [← List.drop_drop]
  have:=wts_take (v.items.drop r) f.toNat
  omega
 have e:v.wt=1+v.t.size+qv v.names+JV.wts v.items:=by cases v;rfl
 have e2:(jK v r f n x).wt=1+0+qv (ww v r f n)+JV.wts (go v r f x):=rfl
 rw [e2,e]
 unfold ww go
 rw [yE,yE,uk,uk]
 simp only [qv,JV.wts]
 omega
end Go.Proofs.YthgembbgcbaghaaGreatDoor
