/- Plain: how much a root's object, and one with a member changed, holds; the authority of a role by its name; when roots are the same. No program in sight. -/
import Derived.Test.YthgembbgcbaghaaGreatDoorDm21

namespace Go.Proofs.YthgembbgcbaghaaGreatDoor
open Go.RowKit
def yr (c:UInt8):ByteArray:=⟨(List.replicate 64 c).toArray⟩
def aW (c:UInt8):AuthV:=⟨1,[yr c]⟩
def raN:ByteArray:=⟨#[97]⟩
structure DelegV where
 name:ByteArray
 au:AuthV
 term:Bool
 paths:List ByteArray
 pres:List ByteArray
deriving DecidableEq
structure BinsV where
 bits:Int
 pre:ByteArray
 au:AuthV
deriving DecidableEq
structure DelegsV where
 keys:List Key2
 roles:List DelegV
 bins:BinsV
deriving DecidableEq
def jE:DelegV:=⟨⟨#[]⟩,authZ,false,[],[]⟩
def xQ:BinsV:=⟨0,⟨#[]⟩,authZ⟩
def xN:DelegsV:=⟨[],[],xQ⟩
def gw (s:ByteArray):Bool:=decide (s=uw∨s=rp∨s=rf)
def qM (s:ByteArray):Bool:=decide (1≤s.size∧s.size≤256) && !(s.data.toList.headD 0 == 47) && wJ s
def preB (s:ByteArray):Bool:=decide (1≤s.size∧s.size≤64) && xP s.data.toList
def qX (x:DelegV):Bool:=zg x.name.data.toList && !gw x.name && xe x.au && (if x.paths≠[] then x.pres.isEmpty && decide (x.paths.length≤32) && x.paths.all qM else !x.pres.isEmpty && decide (x.pres.length≤32) && x.pres.all preB)
def zL (b:BinsV):Int:=if b.bits<1∨32<b.bits then 1 else if zg b.pre.data.toList=false then 3 else if 64<b.pre.size+1+(b.bits.toNat+3) / 4 then 5 else 0
def qE (b:BinsV):Bool:=decide (zL b=0) && xe b.au && !gw b.pre
def zy (b:BinsV):Bool:=decide (b.bits=0∧b.pre=⟨#[]⟩∧b.au.thr=0∧b.au.ids=[])
def zO:List DelegV→Bool
 | []=>true
 | x :: r=>!(r.any fun y=>decide (y.name=x.name)) && zO r
def zZ (b:Bool):JV:=.mk 1 (if b then 1 else 0) ⟨#[]⟩ [] []
def zf:ByteArray:=⟨#[110,97,109,101]⟩
def zB:ByteArray:=⟨#[112,97,116,104,95,104,97,115,104,95,112,114,101,102,105,120,101,115]⟩
def xd:ByteArray:=⟨#[112,97,116,104,115]⟩
def trmN:ByteArray:=⟨#[116,101,114,109,105,110,97,116,105,110,103]⟩
def jg:ByteArray:=⟨#[98,105,116,95,108,101,110,103,116,104]⟩
def jF:ByteArray:=⟨#[110,97,109,101,95,112,114,101,102,105,120]⟩
def xX:ByteArray:=⟨#[115,117,99,99,105,110,99,116,95,114,111,108,101,115]⟩
def zQ (x:DelegV):List NJ:=[(qg,qh x.au.ids),(zf,txtJ x.name),(if x.paths≠[] then (xd,qh x.paths) else (zB,qh x.pres)),(trmN,zZ x.term),(thrN,zn x.au.thr)]
def qi (x:DelegV):JV:=jP (zQ x)
def pn (b:BinsV):List NJ:=[(jg,zn b.bits),(qg,qh b.au.ids),(jF,txtJ b.pre),(thrN,zn b.au.thr)]
def zS (b:BinsV):JV:=jP (pn b)
def q9 (d:DelegsV):List NJ:=(qH,zJ d.keys) :: (if zy d.bins then [(xW,zF (d.roles.map qi))] else [(xX,zS d.bins)])
def qr (d:DelegsV):JV:=jP (q9 d)
def qG (d:DelegsV):Bool:=zw d.keys && (if zy d.bins then decide (d.roles.length≤64) && d.roles.all qX && zO d.roles else d.roles.isEmpty && qE d.bins) && (qr d).mayB
def qF (v:JV) (y:ByteArray) (st:PS):Bool × PS :=
 if st.err≠0 then (false,st) else match v.look y with
 | none=>(false,⟨st.asked,6⟩)
 | some it=>if it.kind≠1 then (false,⟨st.asked,10⟩) else (decide (it.n=1),⟨y :: st.asked,0⟩)
def qJ (v:JV) (y:ByteArray) (most:Nat) (st:PS):List JV × PS :=
 if st.err≠0 then ([],st) else match v.look y with
 | none=>([],⟨st.asked,6⟩)
 | some it=>if it.kind≠4 then ([],⟨st.asked,10⟩) else if most<it.items.length then ([],⟨st.asked,5⟩) else (it.items,⟨y :: st.asked,0⟩)
def dgN (v:JV):ByteArray × PS:=qp v zf ⟨[],0⟩
def dgA (v:JV):AuthV × PS:=jR v (dgN v).2
def dgT (v:JV):Bool × PS:=qF v trmN (dgA v).2
def dgP (v:JV):(List ByteArray × List ByteArray) × PS:=if qA v zB (dgT v).2 then (([],(qv v zB 32 (dgT v).2).1),(qv v zB 32 (dgT v).2).2) else (((qv v xd 32 (dgT v).2).1,[]),(qv v xd 32 (dgT v).2).2)
def dgX (v:JV):DelegV:=⟨(dgN v).1,(dgA v).1,(dgT v).1,(dgP v).1.1,(dgP v).1.2⟩
def zi (v:JV):DelegV × Int:=if v.kind≠5 then (jE,10) else if qf v (dgP v).2≠0 then (jE,qf v (dgP v).2) else if qX (dgX v) then (dgX v,0) else (jE,3)
def z6:List JV→List DelegV→List DelegV × Int
 | [],acc=>(acc,0)
 | v :: r,acc=>if (zi v).2≠0 then ([],(zi v).2) else if acc.any (fun y=>decide (y.name=(zi v).1.name)) then ([],7) else z6 r (acc ++ [(zi v).1])
def bnA (v:JV):AuthV × PS:=jR v ⟨[],0⟩
def bnB (v:JV):Int × PS:=qP v jg 1 32 (bnA v).2
def bnP (v:JV):ByteArray × PS:=qp v jF (bnB v).2
def xz (v:JV):BinsV × Int:=if v.kind≠5 then (xQ,10) else if qf v (bnP v).2≠0 then (xQ,qf v (bnP v).2) else if qE ⟨(bnB v).1,(bnP v).1,(bnA v).1⟩ then (⟨(bnB v).1,(bnP v).1,(bnA v).1⟩,0) else (xQ,3)
def dlK (v:JV):JV × PS:=ql v qH 32 ⟨[],0⟩
def dlL (v:JV):List Key2 × Int:=xm (dlK v).1
def dlS (v:JV):PS:=(dlK v).2.fail (dlL v).2
def dlO (v:JV):JV × PS:=ql v xX 8192 (dlS v)
def dlR (v:JV):List JV × PS:=qJ v xW 64 (dlS v)
def dlB (v:JV):(BinsV × List DelegV) × PS:=if qA v xX (dlS v) then (((xz (dlO v).1).1,[]),(dlO v).2.fail (xz (dlO v).1).2) else ((xQ,(z6 (dlR v).1 []).1),(dlR v).2.fail (z6 (dlR v).1 []).2)
def ya (v:JV):DelegsV × Int:=if qf v (dlB v).2≠0 then (xN,qf v (dlB v).2) else (⟨(dlL v).1,(dlB v).1.2,(dlB v).1.1⟩,0)
def xy (v:JV):DelegsV × Int:=if v.mayB=false then (xN,3) else if v.kind≠5 then (xN,10) else ya v
def rK:ByteArray:=⟨#[42]⟩
def bbN:ByteArray:=⟨#[98]⟩
def ppN:ByteArray:=⟨#[112]⟩
theorem uy {v:JV} {a:AuthV} {s:List ByteArray} (h:xe a=true) (l1:v.look qg=some (qh a.ids)) (l2:v.look thrN=some (zn a.thr)):jR v ⟨s,0⟩=(a,⟨thrN :: qg :: s,0⟩):=by
 obtain ⟨hl,ht,hi⟩:=xc h
 have p1:qv v qg 16 ⟨s,0⟩=(a.ids,⟨qg :: s,0⟩):=kW l1 hl.2
 have hne:¬a.ids=[]:=fun e=>by rw [e] at hl;simp at hl
 have p2:jL v ⟨s,0⟩=⟨qg :: s,0⟩:=by
  unfold jL
  rw [p1]
  dsimp only
  rw [if_neg hne,hi]
  rfl
 have p3:kL v ⟨s,0⟩=(a.thr,⟨thrN :: qg :: s,0⟩):=by
  unfold kL
  rw [p1,p2]
  exact gS l2 ht.1 ht.2
 unfold jR
 rw [p3,p1]
 rfl
theorem ug {v:JV} {y:ByteArray} {b:Bool} {s:List ByteArray} (h:v.look y=some (zZ b)):qF v y ⟨s,0⟩=(b,⟨y :: s,0⟩):=by
 unfold qF
 rw [if_neg (by simp),h]
 show (if (zZ b).kind≠1 then _ else _:Bool × PS)=_
 rw [if_neg (by simp [zZ,JV.kind])]
 cases b <;> rfl
theorem ub {v:JV} {y:ByteArray} {l:List JV} {most:Nat} {s:List ByteArray} (h:v.look y=some (zF l)) (hl:l.length≤most):qJ v y most ⟨s,0⟩=(l,⟨y :: s,0⟩):=by
 unfold qJ
 rw [if_neg (by simp),h]
 show (if (zF l).kind≠4 then _ else if most<l.length then _ else _:List JV × PS)=_
 rw [if_neg (by simp [zF,JV.kind]),if_neg (by omega)]
 rfl
theorem bk:(qg≠zf∧qg≠xd∧qg≠zB∧qg≠trmN∧qg≠thrN∧zf≠xd∧zf≠zB∧zf≠trmN∧zf≠thrN)∧(xd≠zB∧xd≠trmN∧xd≠thrN∧zB≠xd∧zB≠trmN∧zB≠thrN∧trmN≠thrN)∧(trmN≠zB∧thrN≠zB∧jg≠qg∧jg≠jF∧jg≠thrN∧qg≠jF∧jF≠thrN∧qH≠xW∧qH≠xX∧xW≠xX):=by decide
theorem jX {x:DelegV} (h:qX x=true):zg x.name.data.toList=true∧gw x.name=false∧xe x.au=true∧((x.paths≠[]∧x.pres=[]∧x.paths.length≤32∧x.paths.all qM=true)∨(x.paths=[]∧x.pres≠[]∧x.pres.length≤32∧x.pres.all preB=true)):=by
 unfold qX at h
 simp only [Bool.and_eq_true,Bool.not_eq_true'] at h
 refine ⟨h.1.1.1,h.1.1.2,h.1.2,?_⟩
 have h4:=h.2
 split at h4
 · rename_i hp
   simp only [Bool.and_eq_true,decide_eq_true_eq,List.isEmpty_iff] at h4
   exact .inl ⟨hp,h4.1.1,h4.1.2,h4.2⟩
 · rename_i hp
   simp only [Bool.and_eq_true,decide_eq_true_eq,Bool.not_eq_true',List.isEmpty_eq_false_iff] at h4
   exact .inr ⟨by simpa using hp,h4.1.1,h4.1.2,h4.2⟩
theorem mH {x:DelegV} (h:qX x=true):zi (qi x)=(x,0):=by
 obtain ⟨hn,ht,ha,hp⟩:=jX h
 obtain ⟨⟨a1,a2,a3,a4,a5,a6,a7,a8,a9⟩,⟨b1,b2,b3,b4,b5,b6,b7⟩,⟨c1,c2,-⟩⟩:=bk
 have hk:(qi x).kind=5:=rfl
 have key:∀(q:NJ),(∀y,(qi x).look y=qU [qg,zf,q.1,trmN,thrN] [qh x.au.ids,txtJ x.name,q.2,zZ x.term,zn x.au.thr] y)→(q.1=xd∨q.1=zB)→dgN (qi x)=(x.name,⟨[zf],0⟩)∧dgA (qi x)=(x.au,⟨[thrN,qg,zf],0⟩)∧dgT (qi x)=(x.term,⟨[trmN,thrN,qg,zf],0⟩):=by
  intro q e hq
  have n1:q.1≠trmN:=by rcases hq with e|e <;> rw [e];exact b2;exact b5
  have n2:q.1≠thrN:=by rcases hq with e|e <;> rw [e];exact b3;exact b6
  have e1:dgN (qi x)=(x.name,⟨[zf],0⟩):=yS (by rw [e];simp [qU,a1])
  have e2:dgA (qi x)=(x.au,⟨[thrN,qg,zf],0⟩):=by
   unfold dgA
   rw [e1]
   exact uy ha (by rw [e];simp [qU]) (by rw [e];simp [qU,a5,a9,n2,b7])
  refine ⟨e1,e2,?_⟩
  unfold dgT
  rw [e2]
  exact ug (by rw [e];simp [qU,a4,a8,n1])
 rcases hp with ⟨p1,p2,p3,p4⟩|⟨p1,p2,p3,p4⟩
 · have e:∀y,(qi x).look y=qU [qg,zf,xd,trmN,thrN] [qh x.au.ids,txtJ x.name,qh x.paths,zZ x.term,zn x.au.thr] y:=fun y=>by
    show qU ((zQ x).map (·.1)) ((zQ x).map (·.2)) y=_
    unfold zQ
    rw [if_pos p1]
    rfl
   obtain ⟨e1,e2,e3⟩:=key (xd,qh x.paths) e (.inl rfl)
   have e4:qA (qi x) zB ⟨[trmN,thrN,qg,zf],0⟩=false:=by
    unfold qA
    rw [e]
    simp [qU,a3,a7,b1,c1,c2]
   have e5:dgP (qi x)=((x.paths,[]),⟨[xd,trmN,thrN,qg,zf],0⟩):=by
    unfold dgP
    rw [e3,e4,if_neg (by decide),kW (l:=x.paths) (by rw [e];simp [qU,a2,a6]) p3]
   have e6:dgX (qi x)=x:=by
    unfold dgX
    rw [e1,e2,e3,e5]
    obtain ⟨n,a,t,p,r⟩:=x
    dsimp only at p2 ⊢
    rw [p2]
   have e7:qf (qi x) (dgP (qi x)).2=0:=by
    rw [e5]
    unfold qf
    rw [if_neg (by simp),if_pos]
    have:(qi x).names=[qg,zf,xd,trmN,thrN]:=by
     show (zQ x).map (·.1)=_
     unfold zQ
     rw [if_pos p1]
     rfl
    rw [this]
    simp
   unfold zi
   rw [if_neg (by simp [hk]),e7,if_neg (by simp),e6,if_pos h]
 · have e:∀y,(qi x).look y=qU [qg,zf,zB,trmN,thrN] [qh x.au.ids,txtJ x.name,qh x.pres,zZ x.term,zn x.au.thr] y:=fun y=>by
    show qU ((zQ x).map (·.1)) ((zQ x).map (·.2)) y=_
    unfold zQ
    rw [if_neg (by simp [p1])]
    rfl
   obtain ⟨e1,e2,e3⟩:=key (zB,qh x.pres) e (.inr rfl)
   have e4:qA (qi x) zB ⟨[trmN,thrN,qg,zf],0⟩=true:=by
    unfold qA
    rw [e]
    simp [qU,a3,a7]
   have e5:dgP (qi x)=(([],x.pres),⟨[zB,trmN,thrN,qg,zf],0⟩):=by
    unfold dgP
    rw [e3,e4,if_pos rfl,kW (l:=x.pres) (by rw [e];simp [qU,a3,a7]) p3]
   have e6:dgX (qi x)=x:=by
    unfold dgX
    rw [e1,e2,e3,e5]
    obtain ⟨n,a,t,p,r⟩:=x
    dsimp only at p1 ⊢
    rw [p1]
   have e7:qf (qi x) (dgP (qi x)).2=0:=by
    rw [e5]
    unfold qf
    rw [if_neg (by simp),if_pos]
    have:(qi x).names=[qg,zf,zB,trmN,thrN]:=by
     show (zQ x).map (·.1)=_
     unfold zQ
     rw [if_neg (by simp [p1])]
     rfl
    rw [this]
    simp
   unfold zi
   rw [if_neg (by simp [hk]),e7,if_neg (by simp),e6,if_pos h]
theorem yT:∀(l acc:List DelegV),l.all qX=true→zO (acc ++ l)=true→z6 (l.map qi) acc=(acc ++ l,0)
 | [],acc,_,_=>by simp [z6]
 | x :: r,acc,h,hn=>by
  rw [List.all_cons,Bool.and_eq_true] at h
  have e:=mH h.1
  have hno:acc.any (fun y=>decide (y.name=x.name))=false:=by
   rw [Bool.eq_false_iff]
   intro h2
   obtain ⟨y,hy,hyx⟩:=List.any_eq_true.1 h2
   have hyx:=of_decide_eq_true hyx
   clear h e h2
   induction acc with
   | nil=>simp at hy
   | cons z acc ih =>
    rw [List.cons_append,zO,Bool.and_eq_true,Bool.not_eq_true'] at hn
    rcases List.mem_cons.1 hy with rfl|hy
    · have:(acc ++ x :: r).any (fun w=>decide (w.name=y.name))=true:=List.any_eq_true.2 ⟨x,by simp,by simp [hyx]⟩
      rw [this] at hn
      simp at hn
    · exact ih hn.2 hy
  rw [List.map_cons,z6,e]
  dsimp only
  rw [if_neg (by simp),hno,if_neg (by decide),yT r (acc ++ [x]) h.2 (by rw [List.append_assoc];exact hn),List.append_assoc]
  rfl
theorem xS {b:BinsV} (h:qE b=true):(1≤b.bits∧b.bits≤32)∧zg b.pre.data.toList=true∧xe b.au=true∧gw b.pre=false:=by
 unfold qE at h
 simp only [Bool.and_eq_true,decide_eq_true_eq,Bool.not_eq_true'] at h
 obtain ⟨⟨h1,h2⟩,h3⟩:=h
 unfold zL at h1
 split at h1
 · exact absurd h1 (by decide)
 · rename_i hb
   split at h1
   · exact absurd h1 (by decide)
   · rename_i hr
     exact ⟨by omega,by simpa using hr,h2,h3⟩
theorem dP {b:BinsV} (h:qE b=true):xz (zS b)=(b,0):=by
 obtain ⟨h1,h2,h3,h4⟩:=xS h
 obtain ⟨⟨a1,a2,a3,a4,a5,-⟩,-,⟨-,-,c3,c4,c5,c6,c7,-⟩⟩:=bk
 have e:∀y,(zS b).look y=qU [jg,qg,jF,thrN] [zn b.bits,qh b.au.ids,txtJ b.pre,zn b.au.thr] y:=fun _=>rfl
 have e1:bnA (zS b)=(b.au,⟨[thrN,qg],0⟩):=uy h3 (by rw [e];simp [qU,c3]) (by rw [e];simp [qU,c5,a5,c7])
 have e2:bnB (zS b)=(b.bits,⟨[jg,thrN,qg],0⟩):=by
  unfold bnB
  rw [e1]
  exact gS (by rw [e];simp [qU]) h1.1 h1.2
 have e3:bnP (zS b)=(b.pre,⟨[jF,jg,thrN,qg],0⟩):=by
  unfold bnP
  rw [e2]
  exact yS (by rw [e];simp [qU,c4,c6])
 have e4:qf (zS b) (bnP (zS b)).2=0:=by
  rw [e3]
  unfold qf
  rw [if_neg (by simp),if_pos]
  simp [zS,jP,JV.names,pn]
 unfold xz
 rw [if_neg (by simp [zS,jP,JV.kind]),e4,if_neg (by simp),e1,e2,e3]
 exact if_pos h
theorem up {d:DelegsV} (h:qG d=true):xy (qr d)=(d,0):=by
 have hm:(qr d).mayB=true:=by
  unfold qG at h
  rw [Bool.and_eq_true] at h
  exact h.2
 unfold qG at h
 simp only [Bool.and_eq_true] at h
 obtain ⟨⟨hk,hb⟩,-⟩:=h
 obtain ⟨k1,k2,k3⟩:=zl.1 hk
 obtain ⟨-,-,⟨-,-,-,-,-,-,-,n1,n2,n3⟩⟩:=bk
 have hl:(zJ d.keys).items.length≤32:=by show (d.keys.map obj2).length≤32;rw [List.length_map];exact k1
 unfold xy
 rw [if_neg (by rw [hm];decide),if_neg (by simp [qr,jP,JV.kind])]
 clear hm
 cases hb0:zy d.bins
 · rw [hb0] at hb
   simp only [Bool.false_eq_true,if_false,Bool.and_eq_true,List.isEmpty_iff] at hb
   obtain ⟨hr,hbb⟩:=hb
   have e:∀y,(qr d).look y=qU [qH,xX] [zJ d.keys,zS d.bins] y:=fun y=>by
    show qU ((q9 d).map (·.1)) ((q9 d).map (·.2)) y=_
    unfold q9
    rw [hb0]
    rfl
   have hnm:(qr d).names=[qH,xX]:=by
    show (q9 d).map (·.1)=_
    unfold q9
    rw [hb0]
    rfl
   have e1:dlK (qr d)=(zJ d.keys,⟨[qH],0⟩):=v8 (by rw [e];simp [qU]) rfl hl
   have e2:dlL (qr d)=(d.keys,0):=by unfold dlL;rw [e1];exact pr k2 k3 k1
   have e3:dlS (qr d)=⟨[qH],0⟩:=by unfold dlS;rw [e1,e2];rfl
   have e4:qA (qr d) xX ⟨[qH],0⟩=true:=by unfold qA;rw [e];simp [qU,n2]
   have e5:dlO (qr d)=(zS d.bins,⟨[xX,qH],0⟩):=by
    unfold dlO
    rw [e3]
    exact v8 (by rw [e];simp [qU,n2]) rfl (by show 4≤8192;decide)
   have e6:dlB (qr d)=((d.bins,[]),⟨[xX,qH],0⟩):=by
    unfold dlB
    rw [e3,e4,if_pos rfl,e5]
    dsimp only
    rw [dP hbb]
    rfl
   have e7:qf (qr d) (dlB (qr d)).2=0:=by
    rw [e6]
    unfold qf
    rw [if_neg (by simp),if_pos]
    rw [hnm]
    simp
   unfold ya
   rw [e7,if_neg (by simp),e2,e6]
   obtain ⟨a,b,c⟩:=d
   dsimp only at hr ⊢
   rw [hr]
 · rw [hb0] at hb
   simp only [if_true,Bool.and_eq_true,decide_eq_true_eq] at hb
   obtain ⟨⟨hr,ha⟩,ho⟩:=hb
   have e:∀y,(qr d).look y=qU [qH,xW] [zJ d.keys,zF (d.roles.map qi)] y:=fun y=>by
    show qU ((q9 d).map (·.1)) ((q9 d).map (·.2)) y=_
    unfold q9
    rw [hb0]
    rfl
   have hnm:(qr d).names=[qH,xW]:=by
    show (q9 d).map (·.1)=_
    unfold q9
    rw [hb0]
    rfl
   have e1:dlK (qr d)=(zJ d.keys,⟨[qH],0⟩):=v8 (by rw [e];simp [qU]) rfl hl
   have e2:dlL (qr d)=(d.keys,0):=by unfold dlL;rw [e1];exact pr k2 k3 k1
   have e3:dlS (qr d)=⟨[qH],0⟩:=by unfold dlS;rw [e1,e2];rfl
   have e4:qA (qr d) xX ⟨[qH],0⟩=false:=by unfold qA;rw [e];simp [qU,n2,n3]
   have e5:dlR (qr d)=(d.roles.map qi,⟨[xW,qH],0⟩):=by
    unfold dlR
    rw [e3]
    exact ub (by rw [e];simp [qU,n1]) (by rw [List.length_map];exact hr)
   have e6:dlB (qr d)=((xQ,d.roles),⟨[xW,qH],0⟩):=by
    unfold dlB
    rw [e3,e4,if_neg (by decide),e5]
    dsimp only
    rw [yT d.roles [] ha ho]
    rfl
   have e7:qf (qr d) (dlB (qr d)).2=0:=by
    rw [e6]
    unfold qf
    rw [if_neg (by simp),if_pos]
    rw [hnm]
    simp
   unfold ya
   rw [e7,if_neg (by simp),e2,e6]
   obtain ⟨a,b,⟨c1,c2,⟨c3,c4⟩⟩⟩:=d
   unfold zy at hb0
   have hb1:=of_decide_eq_true hb0
   dsimp only at hb1 ⊢
   obtain ⟨x1,x2,x3,x4⟩:=hb1
   rw [x1,x2,x3,x4]
   rfl
theorem zH:qe [qg,zf,xd,trmN,thrN]=true∧qe [qg,zf,zB,trmN,thrN]=true∧qe [jg,qg,jF,thrN]=true∧qe [qH,xW]=true∧qe [qH,xX]=true:=⟨by kernel_rfl,by kernel_rfl,by kernel_rfl,by kernel_rfl,by kernel_rfl⟩
def bv (bits:Nat):Nat:=(bits+3) / 4
def yt:Nat→Nat→List UInt8
 | 0,_=>[]
 | w+1,n=>yt w (n / 16) ++ [qT (n % 16)]
theorem xE:∀w n,(yt w n).length=w
 | 0,_=>rfl
 | w+1,n=>by rw [yt,List.length_append,xE w];rfl
def az:ByteArray:=⟨#[45]⟩
def mU (path:ByteArray):Nat:=((ze path.data.toList).getD 0 0).toNat * 16777216+((ze path.data.toList).getD 1 0).toNat * 65536+((ze path.data.toList).getD 2 0).toNat * 256+((ze path.data.toList).getD 3 0).toNat
def wG (path:ByteArray) (bits:Nat):Nat:=mU path / 2 ^ (32 - bits)
theorem sm (path:ByteArray):mU path<2 ^ 32:=by
 unfold mU
 have h0:=((ze path.data.toList).getD 0 0).toNat_lt
 have h1:=((ze path.data.toList).getD 1 0).toNat_lt
 have h2:=((ze path.data.toList).getD 2 0).toNat_lt
 have h3:=((ze path.data.toList).getD 3 0).toNat_lt
 omega
theorem sd {path:ByteArray} {bits:Nat} (h:bits≤32):wG path bits<2 ^ bits:=by
 unfold wG
 rw [Nat.div_lt_iff_lt_mul (Nat.two_pow_pos _),← Nat.pow_add,show bits+(32 - bits)=32 from by omega]
 exact sm path
def xJ (pre:ByteArray) (bits n:Nat):ByteArray:=pre ++ az ++ ⟨(yt (bv bits) n).toArray⟩
def sl (path:ByteArray):ByteArray:=⟨(kV path.data.toList).toArray⟩
def fk (q s:ByteArray):Bool:=q.data.toList.isPrefixOf s.data.toList
def xl (l:List ByteArray) (path:ByteArray):Bool:=l.any fun q=>preB q && fk q (sl path)
def jJ (runes:ByteArray→List Int) (p s:ByteArray):Bool:=qM p && qM s && fL (runes p) (runes s)
def isD (runes:ByteArray→List Int) (x:DelegV) (path:ByteArray):Bool:=qX x && qM path && (if x.paths≠[] then x.paths.any (fun p=>jJ runes p path) else xl x.pres path)
structure StepV where
 name:ByteArray
 au:AuthV
 term:Bool
def z7 (x:DelegV):StepV:=⟨x.name,x.au,x.term⟩
def zh (runes:ByteArray→List Int) (path:ByteArray):List DelegV→List StepV
 | []=>[]
 | x :: r=>if isD runes x path then z7 x :: (if x.term then [] else zh runes path r) else zh runes path r
def zk (runes:ByteArray→List Int) (d:DelegsV) (path:ByteArray):List StepV :=
 if qG d && qM path then (if zy d.bins then zh runes path d.roles else [⟨xJ d.bins.pre d.bins.bits.toNat (wG path d.bins.bits.toNat),d.bins.au,true⟩]) else []
theorem bw (runes:ByteArray→List Int) (path:ByteArray) (x:DelegV):∀l:List DelegV,zh runes path (l ++ [x])=zh runes path l ++ (if isD runes x path && !((zh runes path l).any (·.term)) then [z7 x] else [])
 | []=>by
  simp only [List.nil_append,zh,List.any_nil,Bool.not_false,Bool.and_true]
  split
  · simp
  · rfl
 | y :: r=>by
  rw [List.cons_append,zh,zh,bw runes path x r]
  split
  · by_cases ht:y.term=true
    · simp [ht,z7]
    · simp [ht,z7]
  · rfl
theorem wz (runes:ByteArray→List Int) (path:ByteArray):∀l:List DelegV,(zh runes path l).any (·.term)=((zh runes path l).getLast?.map (·.term)).getD false
 | []=>rfl
 | y :: r=>by
  rw [zh]
  split
  · by_cases ht:y.term=true
    · simp [ht,z7]
    · have ht':y.term=false:=by simpa using ht
      simp only [ht',Bool.false_eq_true,if_false,List.any_cons,z7,Bool.false_or]
      rw [wz runes path r]
      cases hg:zh runes path r with
      | nil=>simp
      | cons a t=>simp [List.getLast?_cons_cons]
  · exact wz runes path r
theorem mM (N:List NJ):(jP N).wt=1+qm (N.map (·.1))+JV.wts (N.map (·.2)):=by
 show 1+(⟨#[]⟩:ByteArray).size+qm (N.map (·.1))+JV.wts (N.map (·.2))=_
 rfl
theorem jq (t:ByteArray):(txtJ t).wt=1+t.size:=by simp [txtJ,JV.wt,JV.wts,qm]
theorem wB (n:Int):(zn n).wt=1:=by simp [zn,JV.wt,JV.wts,qm,ByteArray.size]
end Go.Proofs.YthgembbgcbaghaaGreatDoor
