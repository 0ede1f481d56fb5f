/- Plain: how much a root's object, and one with a member changed, holds; the authority of a role by its name; when roots are the same. No program in sight. -/
import Derived.Test.YthgembbgcbaghaaGreatDoorDa21

namespace Go.Proofs.YthgembbgcbaghaaGreatDoor
open Go.RowKit
def yc (c:UInt8):ByteArray:=⟨(List.replicate 64 c).toArray⟩
def aF (c:UInt8):AuthV:=⟨1,[yc c]⟩
def raN:ByteArray:=⟨#[97]⟩
structure DelegV where
 name:ByteArray
 au:AuthV
 term:Bool
 paths:List ByteArray
 pres:List ByteArray
deriving DecidableEq
structure BinsV where
 bits:Int
 pre:ByteArray
 au:AuthV
deriving DecidableEq
structure DelegsV where
 keys:List Key2
 roles:List DelegV
 bins:BinsV
deriving DecidableEq
def j4:DelegV:=⟨⟨#[]⟩,authZ,false,[],[]⟩
def xA:BinsV:=⟨0,⟨#[]⟩,authZ⟩
def xD:DelegsV:=⟨[],[],xA⟩
def gk (s:ByteArray):Bool:=decide (s=uh∨s=rh∨s=ru)
def qL (s:ByteArray):Bool:=decide (1≤s.size∧s.size≤256) && !(s.data.toList.headD 0 == 47) && wX s
def preB (s:ByteArray):Bool:=decide (1≤s.size∧s.size≤64) && xY s.data.toList
def qX (x:DelegV):Bool:=zb x.name.data.toList && !gk x.name && xe x.au && (if x.paths≠[] then x.pres.isEmpty && decide (x.paths.length≤32) && x.paths.all qL else !x.pres.isEmpty && decide (x.pres.length≤32) && x.pres.all preB)
def zH (b:BinsV):Int:=if b.bits<1∨32<b.bits then 1 else if zb b.pre.data.toList=false then 3 else if 64<b.pre.size+1+(b.bits.toNat+3) / 4 then 5 else 0
def qI (b:BinsV):Bool:=decide (zH b=0) && xe b.au && !gk b.pre
def zg (b:BinsV):Bool:=decide (b.bits=0∧b.pre=⟨#[]⟩∧b.au.thr=0∧b.au.ids=[])
def zR:List DelegV→Bool
 | []=>true
 | x :: r=>!(r.any fun y=>decide (y.name=x.name)) && zR r
def zi (b:Bool):JV:=.mk 1 (if b then 1 else 0) ⟨#[]⟩ [] []
def zp:ByteArray:=⟨#[110,97,109,101]⟩
def zK:ByteArray:=⟨#[112,97,116,104,95,104,97,115,104,95,112,114,101,102,105,120,101,115]⟩
def xd:ByteArray:=⟨#[112,97,116,104,115]⟩
def trmN:ByteArray:=⟨#[116,101,114,109,105,110,97,116,105,110,103]⟩
def jy:ByteArray:=⟨#[98,105,116,95,108,101,110,103,116,104]⟩
def jH:ByteArray:=⟨#[110,97,109,101,95,112,114,101,102,105,120]⟩
def zA:ByteArray:=⟨#[115,117,99,99,105,110,99,116,95,114,111,108,101,115]⟩
def zt (x:DelegV):List NJ:=[(qy,qu x.au.ids),(zp,txtJ x.name),(if x.paths≠[] then (xd,qu x.paths) else (zK,qu x.pres)),(trmN,zi x.term),(thrN,zd x.au.thr)]
def qb (x:DelegV):JV:=jz (zt x)
def bk (b:BinsV):List NJ:=[(jy,zd b.bits),(qy,qu b.au.ids),(jH,txtJ b.pre),(thrN,zd b.au.thr)]
def zV (b:BinsV):JV:=jz (bk b)
def qF (d:DelegsV):List NJ:=(keysN,qT d.keys) :: (if zg d.bins then [(z7,zu (d.roles.map qb))] else [(zA,zV d.bins)])
def qg (d:DelegsV):JV:=jz (qF d)
def qG (d:DelegsV):Bool:=zj d.keys && (if zg d.bins then decide (d.roles.length≤64) && d.roles.all qX && zR d.roles else d.roles.isEmpty && qI d.bins) && (qg d).mayB
def qH (v:JV) (y:ByteArray) (st:PS):Bool × PS :=
 if st.err≠0 then (false,st) else match v.look y with
 | none=>(false,⟨st.asked,6⟩)
 | some it=>if it.kind≠1 then (false,⟨st.asked,10⟩) else (decide (it.n=1),⟨y :: st.asked,0⟩)
def qJ (v:JV) (y:ByteArray) (most:Nat) (st:PS):List JV × PS :=
 if st.err≠0 then ([],st) else match v.look y with
 | none=>([],⟨st.asked,6⟩)
 | some it=>if it.kind≠4 then ([],⟨st.asked,10⟩) else if most<it.items.length then ([],⟨st.asked,5⟩) else (it.items,⟨y :: st.asked,0⟩)
def dgN (v:JV):ByteArray × PS:=qf v zp ⟨[],0⟩
def dgA (v:JV):AuthV × PS:=jR v (dgN v).2
def dgT (v:JV):Bool × PS:=qH v trmN (dgA v).2
def dgP (v:JV):(List ByteArray × List ByteArray) × PS:=if qN v zK (dgT v).2 then (([],(qv v zK 32 (dgT v).2).1),(qv v zK 32 (dgT v).2).2) else (((qv v xd 32 (dgT v).2).1,[]),(qv v xd 32 (dgT v).2).2)
def dgX (v:JV):DelegV:=⟨(dgN v).1,(dgA v).1,(dgT v).1,(dgP v).1.1,(dgP v).1.2⟩
def zn (v:JV):DelegV × Int:=if v.kind≠5 then (j4,10) else if qh v (dgP v).2≠0 then (j4,qh v (dgP v).2) else if qX (dgX v) then (dgX v,0) else (j4,3)
def zT:List JV→List DelegV→List DelegV × Int
 | [],acc=>(acc,0)
 | v :: r,acc=>if (zn v).2≠0 then ([],(zn v).2) else if acc.any (fun y=>decide (y.name=(zn v).1.name)) then ([],7) else zT r (acc ++ [(zn v).1])
def bnA (v:JV):AuthV × PS:=jR v ⟨[],0⟩
def bnB (v:JV):Int × PS:=qP v jy 1 32 (bnA v).2
def bnP (v:JV):ByteArray × PS:=qf v jH (bnB v).2
def zE (v:JV):BinsV × Int:=if v.kind≠5 then (xA,10) else if qh v (bnP v).2≠0 then (xA,qh v (bnP v).2) else if qI ⟨(bnB v).1,(bnP v).1,(bnA v).1⟩ then (⟨(bnB v).1,(bnP v).1,(bnA v).1⟩,0) else (xA,3)
def dlK (v:JV):JV × PS:=qr v keysN 32 ⟨[],0⟩
def dlL (v:JV):List Key2 × Int:=xm (dlK v).1
def dlS (v:JV):PS:=(dlK v).2.fail (dlL v).2
def dlO (v:JV):JV × PS:=qr v zA 8192 (dlS v)
def dlR (v:JV):List JV × PS:=qJ v z7 64 (dlS v)
def dlB (v:JV):(BinsV × List DelegV) × PS:=if qN v zA (dlS v) then (((zE (dlO v).1).1,[]),(dlO v).2.fail (zE (dlO v).1).2) else ((xA,(zT (dlR v).1 []).1),(dlR v).2.fail (zT (dlR v).1 []).2)
def yd (v:JV):DelegsV × Int:=if qh v (dlB v).2≠0 then (xD,qh v (dlB v).2) else (⟨(dlL v).1,(dlB v).1.2,(dlB v).1.1⟩,0)
def xw (v:JV):DelegsV × Int:=if v.mayB=false then (xD,3) else if v.kind≠5 then (xD,10) else yd v
def rW:ByteArray:=⟨#[42]⟩
def bbN:ByteArray:=⟨#[98]⟩
def ppN:ByteArray:=⟨#[112]⟩
theorem uu {v:JV} {a:AuthV} {s:List ByteArray} (h:xe a=true) (l1:v.look qy=some (qu a.ids)) (l2:v.look thrN=some (zd a.thr)):jR v ⟨s,0⟩=(a,⟨thrN :: qy :: s,0⟩):=by
 obtain ⟨hl,ht,hi⟩:=xc h
 have p1:qv v qy 16 ⟨s,0⟩=(a.ids,⟨qy :: s,0⟩):=kY l1 hl.2
 have hne:¬a.ids=[]:=fun e=>by rw [e] at hl;simp at hl
 have p2:jL v ⟨s,0⟩=⟨qy :: s,0⟩:=by
  unfold jL
  rw [p1]
  dsimp only
  rw [if_neg hne,hi]
  rfl
 have p3:kN v ⟨s,0⟩=(a.thr,⟨thrN :: qy :: s,0⟩):=by
  unfold kN
  rw [p1,p2]
  exact gS l2 ht.1 ht.2
 unfold jR
 rw [p3,p1]
 rfl
theorem um {v:JV} {y:ByteArray} {b:Bool} {s:List ByteArray} (h:v.look y=some (zi b)):qH v y ⟨s,0⟩=(b,⟨y :: s,0⟩):=by
 unfold qH
 rw [if_neg (by simp),h]
 show (if (zi b).kind≠1 then _ else _:Bool × PS)=_
 rw [if_neg (by simp [zi,JV.kind])]
 cases b <;> rfl
theorem uc {v:JV} {y:ByteArray} {l:List JV} {most:Nat} {s:List ByteArray} (h:v.look y=some (zu l)) (hl:l.length≤most):qJ v y most ⟨s,0⟩=(l,⟨y :: s,0⟩):=by
 unfold qJ
 rw [if_neg (by simp),h]
 show (if (zu l).kind≠4 then _ else if most<l.length then _ else _:List JV × PS)=_
 rw [if_neg (by simp [zu,JV.kind]),if_neg (by omega)]
 rfl
theorem bv:(qy≠zp∧qy≠xd∧qy≠zK∧qy≠trmN∧qy≠thrN∧zp≠xd∧zp≠zK∧zp≠trmN∧zp≠thrN)∧(xd≠zK∧xd≠trmN∧xd≠thrN∧zK≠xd∧zK≠trmN∧zK≠thrN∧trmN≠thrN)∧(trmN≠zK∧thrN≠zK∧jy≠qy∧jy≠jH∧jy≠thrN∧qy≠jH∧jH≠thrN∧keysN≠z7∧keysN≠zA∧z7≠zA):=by decide
theorem jK {x:DelegV} (h:qX x=true):zb x.name.data.toList=true∧gk x.name=false∧xe x.au=true∧((x.paths≠[]∧x.pres=[]∧x.paths.length≤32∧x.paths.all qL=true)∨(x.paths=[]∧x.pres≠[]∧x.pres.length≤32∧x.pres.all preB=true)):=by
 unfold qX at h
 simp only [Bool.and_eq_true,Bool.not_eq_true'] at h
 refine ⟨h.1.1.1,h.1.1.2,h.1.2,?_⟩
 have h4:=h.2
 split at h4
 · rename_i hp
   simp only [Bool.and_eq_true,decide_eq_true_eq,List.isEmpty_iff] at h4
   exact .inl ⟨hp,h4.1.1,h4.1.2,h4.2⟩
 · rename_i hp
   simp only [Bool.and_eq_true,decide_eq_true_eq,Bool.not_eq_true',List.isEmpty_eq_false_iff] at h4
   exact .inr ⟨by simpa using hp,h4.1.1,h4.1.2,h4.2⟩
theorem mD {x:DelegV} (h:qX x=true):zn (qb x)=(x,0):=by
 obtain ⟨hn,ht,ha,hp⟩:=jK h
 obtain ⟨⟨a1,a2,a3,a4,a5,a6,a7,a8,a9⟩,⟨b1,b2,b3,b4,b5,b6,b7⟩,⟨c1,c2,-⟩⟩:=bv
 have hk:(qb x).kind=5:=rfl
 have key:∀(q:NJ),(∀y,(qb x).look y=qC [qy,zp,q.1,trmN,thrN] [qu x.au.ids,txtJ x.name,q.2,zi x.term,zd x.au.thr] y)→(q.1=xd∨q.1=zK)→dgN (qb x)=(x.name,⟨[zp],0⟩)∧dgA (qb x)=(x.au,⟨[thrN,qy,zp],0⟩)∧dgT (qb x)=(x.term,⟨[trmN,thrN,qy,zp],0⟩):=by
  intro q e hq
  have n1:q.1≠trmN:=by rcases hq with e|e <;> rw [e];exact b2;exact b5
  have n2:q.1≠thrN:=by rcases hq with e|e <;> rw [e];exact b3;exact b6
  have e1:dgN (qb x)=(x.name,⟨[zp],0⟩):=yS (by rw [e];simp [qC,a1])
  have e2:dgA (qb x)=(x.au,⟨[thrN,qy,zp],0⟩):=by
   unfold dgA
   rw [e1]
   exact uu ha (by rw [e];simp [qC]) (by rw [e];simp [qC,a5,a9,n2,b7])
  refine ⟨e1,e2,?_⟩
  unfold dgT
  rw [e2]
  exact um (by rw [e];simp [qC,a4,a8,n1])
 rcases hp with ⟨p1,p2,p3,p4⟩|⟨p1,p2,p3,p4⟩
 · have e:∀y,(qb x).look y=qC [qy,zp,xd,trmN,thrN] [qu x.au.ids,txtJ x.name,qu x.paths,zi x.term,zd x.au.thr] y:=fun y=>by
    show qC ((zt x).map (·.1)) ((zt x).map (·.2)) y=_
    unfold zt
    rw [if_pos p1]
    rfl
   obtain ⟨e1,e2,e3⟩:=key (xd,qu x.paths) e (.inl rfl)
   have e4:qN (qb x) zK ⟨[trmN,thrN,qy,zp],0⟩=false:=by
    unfold qN
    rw [e]
    simp [qC,a3,a7,b1,c1,c2]
   have e5:dgP (qb x)=((x.paths,[]),⟨[xd,trmN,thrN,qy,zp],0⟩):=by
    unfold dgP
    rw [e3,e4,if_neg (by decide),kY (l:=x.paths) (by rw [e];simp [qC,a2,a6]) p3]
   have e6:dgX (qb x)=x:=by
    unfold dgX
    rw [e1,e2,e3,e5]
    obtain ⟨n,a,t,p,r⟩:=x
    dsimp only at p2 ⊢
    rw [p2]
   have e7:qh (qb x) (dgP (qb x)).2=0:=by
    rw [e5]
    unfold qh
    rw [if_neg (by simp),if_pos]
    have:(qb x).names=[qy,zp,xd,trmN,thrN]:=by
     show (zt x).map (·.1)=_
     unfold zt
     rw [if_pos p1]
     rfl
    rw [this]
    simp
   unfold zn
   rw [if_neg (by simp [hk]),e7,if_neg (by simp),e6,if_pos h]
 · have e:∀y,(qb x).look y=qC [qy,zp,zK,trmN,thrN] [qu x.au.ids,txtJ x.name,qu x.pres,zi x.term,zd x.au.thr] y:=fun y=>by
    show qC ((zt x).map (·.1)) ((zt x).map (·.2)) y=_
    unfold zt
    rw [if_neg (by simp [p1])]
    rfl
   obtain ⟨e1,e2,e3⟩:=key (zK,qu x.pres) e (.inr rfl)
   have e4:qN (qb x) zK ⟨[trmN,thrN,qy,zp],0⟩=true:=by
    unfold qN
    rw [e]
    simp [qC,a3,a7]
   have e5:dgP (qb x)=(([],x.pres),⟨[zK,trmN,thrN,qy,zp],0⟩):=by
    unfold dgP
    rw [e3,e4,if_pos rfl,kY (l:=x.pres) (by rw [e];simp [qC,a3,a7]) p3]
   have e6:dgX (qb x)=x:=by
    unfold dgX
    rw [e1,e2,e3,e5]
    obtain ⟨n,a,t,p,r⟩:=x
    dsimp only at p1 ⊢
    rw [p1]
   have e7:qh (qb x) (dgP (qb x)).2=0:=by
    rw [e5]
    unfold qh
    rw [if_neg (by simp),if_pos]
    have:(qb x).names=[qy,zp,zK,trmN,thrN]:=by
     show (zt x).map (·.1)=_
     unfold zt
     rw [if_neg (by simp [p1])]
     rfl
    rw [this]
    simp
   unfold zn
   rw [if_neg (by simp [hk]),e7,if_neg (by simp),e6,if_pos h]
theorem yT:∀(l acc:List DelegV),l.all qX=true→zR (acc ++ l)=true→zT (l.map qb) acc=(acc ++ l,0)
 | [],acc,_,_=>by simp [zT]
 | x :: r,acc,h,hn=>by
  rw [List.all_cons,Bool.and_eq_true] at h
  have e:=mD h.1
  have hno:acc.any (fun y=>decide (y.name=x.name))=false:=by
   rw [Bool.eq_false_iff]
   intro h2
   obtain ⟨y,hy,hyx⟩:=List.any_eq_true.1 h2
   have hyx:=of_decide_eq_true hyx
   clear h e h2
   induction acc with
   | nil=>simp at hy
   | cons z acc ih =>
    rw [List.cons_append,zR,Bool.and_eq_true,Bool.not_eq_true'] at hn
    rcases List.mem_cons.1 hy with rfl|hy
    · have:(acc ++ x :: r).any (fun w=>decide (w.name=y.name))=true:=List.any_eq_true.2 ⟨x,by simp,by simp [hyx]⟩
      rw [this] at hn
      simp at hn
    · exact ih hn.2 hy
  rw [List.map_cons,zT,e]
  dsimp only
  rw [if_neg (by simp),hno,if_neg (by decide),yT r (acc ++ [x]) h.2 (by rw [List.append_assoc];exact hn),List.append_assoc]
  rfl
theorem vU {b:BinsV} (h:qI b=true):(1≤b.bits∧b.bits≤32)∧zb b.pre.data.toList=true∧xe b.au=true∧gk b.pre=false:=by
 unfold qI at h
 simp only [Bool.and_eq_true,decide_eq_true_eq,Bool.not_eq_true'] at h
 obtain ⟨⟨h1,h2⟩,h3⟩:=h
 unfold zH at h1
 split at h1
 · exact absurd h1 (by decide)
 · rename_i hb
   split at h1
   · exact absurd h1 (by decide)
   · rename_i hr
     exact ⟨by omega,by simpa using hr,h2,h3⟩
theorem dH {b:BinsV} (h:qI b=true):zE (zV b)=(b,0):=by
 obtain ⟨h1,h2,h3,h4⟩:=vU h
 obtain ⟨⟨a1,a2,a3,a4,a5,-⟩,-,⟨-,-,c3,c4,c5,c6,c7,-⟩⟩:=bv
 have e:∀y,(zV b).look y=qC [jy,qy,jH,thrN] [zd b.bits,qu b.au.ids,txtJ b.pre,zd b.au.thr] y:=fun _=>rfl
 have e1:bnA (zV b)=(b.au,⟨[thrN,qy],0⟩):=uu h3 (by rw [e];simp [qC,c3]) (by rw [e];simp [qC,c5,a5,c7])
 have e2:bnB (zV b)=(b.bits,⟨[jy,thrN,qy],0⟩):=by
  unfold bnB
  rw [e1]
  exact gS (by rw [e];simp [qC]) h1.1 h1.2
 have e3:bnP (zV b)=(b.pre,⟨[jH,jy,thrN,qy],0⟩):=by
  unfold bnP
  rw [e2]
  exact yS (by rw [e];simp [qC,c4,c6])
 have e4:qh (zV b) (bnP (zV b)).2=0:=by
  rw [e3]
  unfold qh
  rw [if_neg (by simp),if_pos]
  simp [zV,jz,JV.names,bk]
 unfold zE
 rw [if_neg (by simp [zV,jz,JV.kind]),e4,if_neg (by simp),e1,e2,e3]
 exact if_pos h
theorem ud {d:DelegsV} (h:qG d=true):xw (qg d)=(d,0):=by
 have hm:(qg d).mayB=true:=by
  unfold qG at h
  rw [Bool.and_eq_true] at h
  exact h.2
 unfold qG at h
 simp only [Bool.and_eq_true] at h
 obtain ⟨⟨hk,hb⟩,-⟩:=h
 obtain ⟨k1,k2,k3⟩:=qA.1 hk
 obtain ⟨-,-,⟨-,-,-,-,-,-,-,n1,n2,n3⟩⟩:=bv
 have hl:(qT d.keys).items.length≤32:=by show (d.keys.map obj2).length≤32;rw [List.length_map];exact k1
 unfold xw
 rw [if_neg (by rw [hm];decide),if_neg (by simp [qg,jz,JV.kind])]
 clear hm
 cases hb0:zg d.bins
 · rw [hb0] at hb
   simp only [Bool.false_eq_true,if_false,Bool.and_eq_true,List.isEmpty_iff] at hb
   obtain ⟨hr,hbb⟩:=hb
   have e:∀y,(qg d).look y=qC [keysN,zA] [qT d.keys,zV d.bins] y:=fun y=>by
    show qC ((qF d).map (·.1)) ((qF d).map (·.2)) y=_
    unfold qF
    rw [hb0]
    rfl
   have hnm:(qg d).names=[keysN,zA]:=by
    show (qF d).map (·.1)=_
    unfold qF
    rw [hb0]
    rfl
   have e1:dlK (qg d)=(qT d.keys,⟨[keysN],0⟩):=wx (by rw [e];simp [qC]) rfl hl
   have e2:dlL (qg d)=(d.keys,0):=by unfold dlL;rw [e1];exact pV k2 k3 k1
   have e3:dlS (qg d)=⟨[keysN],0⟩:=by unfold dlS;rw [e1,e2];rfl
   have e4:qN (qg d) zA ⟨[keysN],0⟩=true:=by unfold qN;rw [e];simp [qC,n2]
   have e5:dlO (qg d)=(zV d.bins,⟨[zA,keysN],0⟩):=by
    unfold dlO
    rw [e3]
    exact wx (by rw [e];simp [qC,n2]) rfl (by show 4≤8192;decide)
   have e6:dlB (qg d)=((d.bins,[]),⟨[zA,keysN],0⟩):=by
    unfold dlB
    rw [e3,e4,if_pos rfl,e5]
    dsimp only
    rw [dH hbb]
    rfl
   have e7:qh (qg d) (dlB (qg d)).2=0:=by
    rw [e6]
    unfold qh
    rw [if_neg (by simp),if_pos]
    rw [hnm]
    simp
   unfold yd
   rw [e7,if_neg (by simp),e2,e6]
   obtain ⟨a,b,c⟩:=d
   dsimp only at hr ⊢
   rw [hr]
 · rw [hb0] at hb
   simp only [if_true,Bool.and_eq_true,decide_eq_true_eq] at hb
   obtain ⟨⟨hr,ha⟩,ho⟩:=hb
   have e:∀y,(qg d).look y=qC [keysN,z7] [qT d.keys,zu (d.roles.map qb)] y:=fun y=>by
    show qC ((qF d).map (·.1)) ((qF d).map (·.2)) y=_
    unfold qF
    rw [hb0]
    rfl
   have hnm:(qg d).names=[keysN,z7]:=by
    show (qF d).map (·.1)=_
    unfold qF
    rw [hb0]
    rfl
   have e1:dlK (qg d)=(qT d.keys,⟨[keysN],0⟩):=wx (by rw [e];simp [qC]) rfl hl
   have e2:dlL (qg d)=(d.keys,0):=by unfold dlL;rw [e1];exact pV k2 k3 k1
   have e3:dlS (qg d)=⟨[keysN],0⟩:=by unfold dlS;rw [e1,e2];rfl
   have e4:qN (qg d) zA ⟨[keysN],0⟩=false:=by unfold qN;rw [e];simp [qC,n2,n3]
   have e5:dlR (qg d)=(d.roles.map qb,⟨[z7,keysN],0⟩):=by
    unfold dlR
    rw [e3]
    exact uc (by rw [e];simp [qC,n1]) (by rw [List.length_map];exact hr)
   have e6:dlB (qg d)=((xA,d.roles),⟨[z7,keysN],0⟩):=by
    unfold dlB
    rw [e3,e4,if_neg (by decide),e5]
    dsimp only
    rw [yT d.roles [] ha ho]
    rfl
   have e7:qh (qg d) (dlB (qg d)).2=0:=by
    rw [e6]
    unfold qh
    rw [if_neg (by simp),if_pos]
    rw [hnm]
    simp
   unfold yd
   rw [e7,if_neg (by simp),e2,e6]
   obtain ⟨a,b,⟨c1,c2,⟨c3,c4⟩⟩⟩:=d
   unfold zg at hb0
   have hb1:=of_decide_eq_true hb0
   dsimp only at hb1 ⊢
   obtain ⟨x1,x2,x3,x4⟩:=hb1
   rw [x1,x2,x3,x4]
   rfl
theorem zm:qe [qy,zp,xd,trmN,thrN]=true∧qe [qy,zp,zK,trmN,thrN]=true∧qe [jy,qy,jH,thrN]=true∧qe [keysN,z7]=true∧qe [keysN,zA]=true:=⟨by kernel_rfl,by kernel_rfl,by kernel_rfl,by kernel_rfl,by kernel_rfl⟩
def bw (bits:Nat):Nat:=(bits+3) / 4
def yl:Nat→Nat→List UInt8
 | 0,_=>[]
 | w+1,n=>yl w (n / 16) ++ [q6 (n % 16)]
theorem xT:∀w n,(yl w n).length=w
 | 0,_=>rfl
 | w+1,n=>by rw [yl,List.length_append,xT w];rfl
def ay:ByteArray:=⟨#[45]⟩
def mL (path:ByteArray):Nat:=((za path.data.toList).getD 0 0).toNat * 16777216+((za path.data.toList).getD 1 0).toNat * 65536+((za path.data.toList).getD 2 0).toNat * 256+((za path.data.toList).getD 3 0).toNat
def wB (path:ByteArray) (bits:Nat):Nat:=mL path / 2 ^ (32 - bits)
theorem si (path:ByteArray):mL path<2 ^ 32:=by
 unfold mL
 have h0:=((za path.data.toList).getD 0 0).toNat_lt
 have h1:=((za path.data.toList).getD 1 0).toNat_lt
 have h2:=((za path.data.toList).getD 2 0).toNat_lt
 have h3:=((za path.data.toList).getD 3 0).toNat_lt
 omega
theorem se {path:ByteArray} {bits:Nat} (h:bits≤32):wB path bits<2 ^ bits:=by
 unfold wB
 rw [Nat.div_lt_iff_lt_mul (Nat.two_pow_pos _),← Nat.pow_add,show bits+(32 - bits)=32 from by omega]
 exact si path
def xZ (pre:ByteArray) (bits n:Nat):ByteArray:=pre ++ ay ++ ⟨(yl (bw bits) n).toArray⟩
def sQ (path:ByteArray):ByteArray:=⟨(kW path.data.toList).toArray⟩
def ff (q s:ByteArray):Bool:=q.data.toList.isPrefixOf s.data.toList
def xl (l:List ByteArray) (path:ByteArray):Bool:=l.any fun q=>preB q && ff q (sQ path)
def jV (runes:ByteArray→List Int) (p s:ByteArray):Bool:=qL p && qL s && fS (runes p) (runes s)
def isD (runes:ByteArray→List Int) (x:DelegV) (path:ByteArray):Bool:=qX x && qL path && (if x.paths≠[] then x.paths.any (fun p=>jV runes p path) else xl x.pres path)
structure StepV where
 name:ByteArray
 au:AuthV
 term:Bool
def mR (x:DelegV):StepV:=⟨x.name,x.au,x.term⟩
def xI (runes:ByteArray→List Int) (path:ByteArray):List DelegV→List StepV
 | []=>[]
 | x :: r=>if isD runes x path then mR x :: (if x.term then [] else xI runes path r) else xI runes path r
def xg (runes:ByteArray→List Int) (d:DelegsV) (path:ByteArray):List StepV :=
 if qG d && qL path then (if zg d.bins then xI runes path d.roles else [⟨xZ d.bins.pre d.bins.bits.toNat (wB path d.bins.bits.toNat),d.bins.au,true⟩]) else []
theorem mN (N:List NJ):(jz N).wt=1+qd (N.map (·.1))+JV.wts (N.map (·.2)):=by
 show 1+(⟨#[]⟩:ByteArray).size+qd (N.map (·.1))+JV.wts (N.map (·.2))=_
 rfl
theorem xO (t:ByteArray):(txtJ t).wt=1+t.size:=by simp [txtJ,JV.wt,JV.wts,qd]
theorem wP (n:Int):(zd n).wt=1:=by simp [zd,JV.wt,JV.wts,qd,ByteArray.size]
end Go.Proofs.YthgembbgcbaghaaGreatDoor
