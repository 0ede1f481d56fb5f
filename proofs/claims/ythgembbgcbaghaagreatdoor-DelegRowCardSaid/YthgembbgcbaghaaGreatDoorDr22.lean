/- Plain: how much a root's object, and one with a member changed, holds; the authority of a role by its name; when roots are the same. No program in sight. -/
import Derived.Test.YthgembbgcbaghaaGreatDoorDr21

namespace Go.Proofs.YthgembbgcbaghaaGreatDoor
open Go.RowKit
def yk (c:UInt8):ByteArray:=⟨(List.replicate 64 c).toArray⟩
def sN (c:UInt8):AuthV:=⟨1,[yk c]⟩
def raN:ByteArray:=⟨#[97]⟩
structure DelegV where
 name:ByteArray
 au:AuthV
 term:Bool
 paths:List ByteArray
 pres:List ByteArray
deriving DecidableEq
structure BinsV where
 bits:Int
 pre:ByteArray
 au:AuthV
deriving DecidableEq
structure DelegsV where
 keys:List Key2
 roles:List DelegV
 bins:BinsV
deriving DecidableEq
def jS:DelegV:=⟨⟨#[]⟩,authZ,false,[],[]⟩
def xR:BinsV:=⟨0,⟨#[]⟩,authZ⟩
def xM:DelegsV:=⟨[],[],xR⟩
def yN (s:ByteArray):Bool:=decide (s=fC∨s=lM∨s=lC)
def qU (s:ByteArray):Bool:=decide (1≤s.size∧s.size≤256) && !(s.data.toList.headD 0 == 47) && wm s
def preB (s:ByteArray):Bool:=decide (1≤s.size∧s.size≤64) && xV s.data.toList
def qZ (x:DelegV):Bool:=zx x.name.data.toList && !yN x.name && xn x.au && (if x.paths≠[] then x.pres.isEmpty && decide (x.paths.length≤32) && x.paths.all qU else !x.pres.isEmpty && decide (x.pres.length≤32) && x.pres.all preB)
def zP (b:BinsV):Int:=if b.bits<1∨32<b.bits then 1 else if zx b.pre.data.toList=false then 3 else if 64<b.pre.size+1+(b.bits.toNat+3) / 4 then 5 else 0
def qA (b:BinsV):Bool:=decide (zP b=0) && xn b.au && !yN b.pre
def zy (b:BinsV):Bool:=decide (b.bits=0∧b.pre=⟨#[]⟩∧b.au.thr=0∧b.au.ids=[])
def zL:List DelegV→Bool
 | []=>true
 | x :: r=>!(r.any fun y=>decide (y.name=x.name)) && zL r
def za (b:Bool):JV:=.mk 1 (if b then 1 else 0) ⟨#[]⟩ [] []
def zk:ByteArray:=⟨#[110,97,109,101]⟩
def zJ:ByteArray:=⟨#[112,97,116,104,95,104,97,115,104,95,112,114,101,102,105,120,101,115]⟩
def xb:ByteArray:=⟨#[112,97,116,104,115]⟩
def trmN:ByteArray:=⟨#[116,101,114,109,105,110,97,116,105,110,103]⟩
def jx:ByteArray:=⟨#[98,105,116,95,108,101,110,103,116,104]⟩
def jY:ByteArray:=⟨#[110,97,109,101,95,112,114,101,102,105,120]⟩
def xt:ByteArray:=⟨#[115,117,99,99,105,110,99,116,95,114,111,108,101,115]⟩
def zn (x:DelegV):List NJ:=[(qy,qp x.au.ids),(zk,txtJ x.name),(if x.paths≠[] then (xb,qp x.paths) else (zJ,qp x.pres)),(trmN,za x.term),(thrN,zf x.au.thr)]
def qr (x:DelegV):JV:=jW (zn x)
def bO (b:BinsV):List NJ:=[(jx,zf b.bits),(qy,qp b.au.ids),(jY,txtJ b.pre),(thrN,zf b.au.thr)]
def zU (b:BinsV):JV:=jW (bO b)
def qO (d:DelegsV):List NJ:=(qP,zi d.keys) :: (if zy d.bins then [(xQ,zW (d.roles.map qr))] else [(xt,zU d.bins)])
def ql (d:DelegsV):JV:=jW (qO d)
def qD (d:DelegsV):Bool:=zq d.keys && (if zy d.bins then decide (d.roles.length≤64) && d.roles.all qZ && zL d.roles else d.roles.isEmpty && qA d.bins) && (ql d).mayB
def qB (v:JV) (y:ByteArray) (st:PS):Bool × PS :=
 if st.err≠0 then (false,st) else match v.look y with
 | none=>(false,⟨st.asked,6⟩)
 | some it=>if it.kind≠1 then (false,⟨st.asked,10⟩) else (decide (it.n=1),⟨y :: st.asked,0⟩)
def qX (v:JV) (y:ByteArray) (most:Nat) (st:PS):List JV × PS :=
 if st.err≠0 then ([],st) else match v.look y with
 | none=>([],⟨st.asked,6⟩)
 | some it=>if it.kind≠4 then ([],⟨st.asked,10⟩) else if most<it.items.length then ([],⟨st.asked,5⟩) else (it.items,⟨y :: st.asked,0⟩)
def dgN (v:JV):ByteArray × PS:=qg v zk ⟨[],0⟩
def dgA (v:JV):AuthV × PS:=jU v (dgN v).2
def dgT (v:JV):Bool × PS:=qB v trmN (dgA v).2
def dgP (v:JV):(List ByteArray × List ByteArray) × PS:=if qL v zJ (dgT v).2 then (([],(qj v zJ 32 (dgT v).2).1),(qj v zJ 32 (dgT v).2).2) else (((qj v xb 32 (dgT v).2).1,[]),(qj v xb 32 (dgT v).2).2)
def dgX (v:JV):DelegV:=⟨(dgN v).1,(dgA v).1,(dgT v).1,(dgP v).1.1,(dgP v).1.2⟩
def zc (v:JV):DelegV × Int:=if v.kind≠5 then (jS,10) else if qb v (dgP v).2≠0 then (jS,qb v (dgP v).2) else if qZ (dgX v) then (dgX v,0) else (jS,3)
def zS:List JV→List DelegV→List DelegV × Int
 | [],acc=>(acc,0)
 | v :: r,acc=>if (zc v).2≠0 then ([],(zc v).2) else if acc.any (fun y=>decide (y.name=(zc v).1.name)) then ([],7) else zS r (acc ++ [(zc v).1])
def bnA (v:JV):AuthV × PS:=jU v ⟨[],0⟩
def bnB (v:JV):Int × PS:=qG v jx 1 32 (bnA v).2
def bnP (v:JV):ByteArray × PS:=qg v jY (bnB v).2
def zI (v:JV):BinsV × Int:=if v.kind≠5 then (xR,10) else if qb v (bnP v).2≠0 then (xR,qb v (bnP v).2) else if qA ⟨(bnB v).1,(bnP v).1,(bnA v).1⟩ then (⟨(bnB v).1,(bnP v).1,(bnA v).1⟩,0) else (xR,3)
def dlK (v:JV):JV × PS:=qd v qP 32 ⟨[],0⟩
def dlL (v:JV):List Key2 × Int:=xy (dlK v).1
def dlS (v:JV):PS:=(dlK v).2.fail (dlL v).2
def dlO (v:JV):JV × PS:=qd v xt 8192 (dlS v)
def dlR (v:JV):List JV × PS:=qX v xQ 64 (dlS v)
def dlB (v:JV):(BinsV × List DelegV) × PS:=if qL v xt (dlS v) then (((zI (dlO v).1).1,[]),(dlO v).2.fail (zI (dlO v).1).2) else ((xR,(zS (dlR v).1 []).1),(dlR v).2.fail (zS (dlR v).1 []).2)
def yv (v:JV):DelegsV × Int:=if qb v (dlB v).2≠0 then (xM,qb v (dlB v).2) else (⟨(dlL v).1,(dlB v).1.2,(dlB v).1.1⟩,0)
def xz (v:JV):DelegsV × Int:=if v.mayB=false then (xM,3) else if v.kind≠5 then (xM,10) else yv v
def l6:ByteArray:=⟨#[42]⟩
def bbN:ByteArray:=⟨#[98]⟩
def ppN:ByteArray:=⟨#[112]⟩
theorem fD {v:JV} {a:AuthV} {s:List ByteArray} (h:xn a=true) (l1:v.look qy=some (qp a.ids)) (l2:v.look thrN=some (zf a.thr)):jU v ⟨s,0⟩=(a,⟨thrN :: qy :: s,0⟩):=by
 obtain ⟨hl,ht,hi⟩:=xg h
 have p1:qj v qy 16 ⟨s,0⟩=(a.ids,⟨qy :: s,0⟩):=kV l1 hl.2
 have hne:¬a.ids=[]:=fun e=>by rw [e] at hl;simp at hl
 have p2:jH v ⟨s,0⟩=⟨qy :: s,0⟩:=by
  unfold jH
  rw [p1]
  dsimp only
  rw [if_neg hne,hi]
  rfl
 have p3:kC v ⟨s,0⟩=(a.thr,⟨thrN :: qy :: s,0⟩):=by
  unfold kC
  rw [p1,p2]
  exact gV l2 ht.1 ht.2
 unfold jU
 rw [p3,p1]
 rfl
theorem fL {v:JV} {y:ByteArray} {b:Bool} {s:List ByteArray} (h:v.look y=some (za b)):qB v y ⟨s,0⟩=(b,⟨y :: s,0⟩):=by
 unfold qB
 rw [if_neg (by simp),h]
 show (if (za b).kind≠1 then _ else _:Bool × PS)=_
 rw [if_neg (by simp [za,JV.kind])]
 cases b <;> rfl
theorem fR {v:JV} {y:ByteArray} {l:List JV} {most:Nat} {s:List ByteArray} (h:v.look y=some (zW l)) (hl:l.length≤most):qX v y most ⟨s,0⟩=(l,⟨y :: s,0⟩):=by
 unfold qX
 rw [if_neg (by simp),h]
 show (if (zW l).kind≠4 then _ else if most<l.length then _ else _:List JV × PS)=_
 rw [if_neg (by simp [zW,JV.kind]),if_neg (by omega)]
 rfl
theorem gN:(qy≠zk∧qy≠xb∧qy≠zJ∧qy≠trmN∧qy≠thrN∧zk≠xb∧zk≠zJ∧zk≠trmN∧zk≠thrN)∧(xb≠zJ∧xb≠trmN∧xb≠thrN∧zJ≠xb∧zJ≠trmN∧zJ≠thrN∧trmN≠thrN)∧(trmN≠zJ∧thrN≠zJ∧jx≠qy∧jx≠jY∧jx≠thrN∧qy≠jY∧jY≠thrN∧qP≠xQ∧qP≠xt∧xQ≠xt):=by decide
theorem jo {x:DelegV} (h:qZ x=true):zx x.name.data.toList=true∧yN x.name=false∧xn x.au=true∧((x.paths≠[]∧x.pres=[]∧x.paths.length≤32∧x.paths.all qU=true)∨(x.paths=[]∧x.pres≠[]∧x.pres.length≤32∧x.pres.all preB=true)):=by
 unfold qZ at h
 simp only [Bool.and_eq_true,Bool.not_eq_true'] at h
 refine ⟨h.1.1.1,h.1.1.2,h.1.2,?_⟩
 have h4:=h.2
 split at h4
 · rename_i hp
   simp only [Bool.and_eq_true,decide_eq_true_eq,List.isEmpty_iff] at h4
   exact .inl ⟨hp,h4.1.1,h4.1.2,h4.2⟩
 · rename_i hp
   simp only [Bool.and_eq_true,decide_eq_true_eq,Bool.not_eq_true',List.isEmpty_eq_false_iff] at h4
   exact .inr ⟨by simpa using hp,h4.1.1,h4.1.2,h4.2⟩
theorem mv {x:DelegV} (h:qZ x=true):zc (qr x)=(x,0):=by
 obtain ⟨hn,ht,ha,hp⟩:=jo h
 obtain ⟨⟨a1,a2,a3,a4,a5,a6,a7,a8,a9⟩,⟨b1,b2,b3,b4,b5,b6,b7⟩,⟨c1,c2,-⟩⟩:=gN
 have hk:(qr x).kind=5:=rfl
 have key:∀(q:NJ),(∀y,(qr x).look y=qF [qy,zk,q.1,trmN,thrN] [qp x.au.ids,txtJ x.name,q.2,za x.term,zf x.au.thr] y)→(q.1=xb∨q.1=zJ)→dgN (qr x)=(x.name,⟨[zk],0⟩)∧dgA (qr x)=(x.au,⟨[thrN,qy,zk],0⟩)∧dgT (qr x)=(x.term,⟨[trmN,thrN,qy,zk],0⟩):=by
  intro q e hq
  have n1:q.1≠trmN:=by rcases hq with e|e <;> rw [e];exact b2;exact b5
  have n2:q.1≠thrN:=by rcases hq with e|e <;> rw [e];exact b3;exact b6
  have e1:dgN (qr x)=(x.name,⟨[zk],0⟩):=yW (by rw [e];simp [qF,a1])
  have e2:dgA (qr x)=(x.au,⟨[thrN,qy,zk],0⟩):=by
   unfold dgA
   rw [e1]
   exact fD ha (by rw [e];simp [qF]) (by rw [e];simp [qF,a5,a9,n2,b7])
  refine ⟨e1,e2,?_⟩
  unfold dgT
  rw [e2]
  exact fL (by rw [e];simp [qF,a4,a8,n1])
 rcases hp with ⟨p1,p2,p3,p4⟩|⟨p1,p2,p3,p4⟩
 · have e:∀y,(qr x).look y=qF [qy,zk,xb,trmN,thrN] [qp x.au.ids,txtJ x.name,qp x.paths,za x.term,zf x.au.thr] y:=fun y=>by
    show qF ((zn x).map (·.1)) ((zn x).map (·.2)) y=_
    unfold zn
    rw [if_pos p1]
    rfl
   obtain ⟨e1,e2,e3⟩:=key (xb,qp x.paths) e (.inl rfl)
   have e4:qL (qr x) zJ ⟨[trmN,thrN,qy,zk],0⟩=false:=by
    unfold qL
    rw [e]
    simp [qF,a3,a7,b1,c1,c2]
   have e5:dgP (qr x)=((x.paths,[]),⟨[xb,trmN,thrN,qy,zk],0⟩):=by
    unfold dgP
    rw [e3,e4,if_neg (by decide),kV (l:=x.paths) (by rw [e];simp [qF,a2,a6]) p3]
   have e6:dgX (qr x)=x:=by
    unfold dgX
    rw [e1,e2,e3,e5]
    obtain ⟨n,a,t,p,r⟩:=x
    dsimp only at p2 ⊢
    rw [p2]
   have e7:qb (qr x) (dgP (qr x)).2=0:=by
    rw [e5]
    unfold qb
    rw [if_neg (by simp),if_pos]
    have:(qr x).names=[qy,zk,xb,trmN,thrN]:=by
     show (zn x).map (·.1)=_
     unfold zn
     rw [if_pos p1]
     rfl
    rw [this]
    simp
   unfold zc
   rw [if_neg (by simp [hk]),e7,if_neg (by simp),e6,if_pos h]
 · have e:∀y,(qr x).look y=qF [qy,zk,zJ,trmN,thrN] [qp x.au.ids,txtJ x.name,qp x.pres,za x.term,zf x.au.thr] y:=fun y=>by
    show qF ((zn x).map (·.1)) ((zn x).map (·.2)) y=_
    unfold zn
    rw [if_neg (by simp [p1])]
    rfl
   obtain ⟨e1,e2,e3⟩:=key (zJ,qp x.pres) e (.inr rfl)
   have e4:qL (qr x) zJ ⟨[trmN,thrN,qy,zk],0⟩=true:=by
    unfold qL
    rw [e]
    simp [qF,a3,a7]
   have e5:dgP (qr x)=(([],x.pres),⟨[zJ,trmN,thrN,qy,zk],0⟩):=by
    unfold dgP
    rw [e3,e4,if_pos rfl,kV (l:=x.pres) (by rw [e];simp [qF,a3,a7]) p3]
   have e6:dgX (qr x)=x:=by
    unfold dgX
    rw [e1,e2,e3,e5]
    obtain ⟨n,a,t,p,r⟩:=x
    dsimp only at p1 ⊢
    rw [p1]
   have e7:qb (qr x) (dgP (qr x)).2=0:=by
    rw [e5]
    unfold qb
    rw [if_neg (by simp),if_pos]
    have:(qr x).names=[qy,zk,zJ,trmN,thrN]:=by
     show (zn x).map (·.1)=_
     unfold zn
     rw [if_neg (by simp [p1])]
     rfl
    rw [this]
    simp
   unfold zc
   rw [if_neg (by simp [hk]),e7,if_neg (by simp),e6,if_pos h]
theorem yG:∀(l acc:List DelegV),l.all qZ=true→zL (acc ++ l)=true→zS (l.map qr) acc=(acc ++ l,0)
 | [],acc,_,_=>by simp [zS]
 | x :: r,acc,h,hn=>by
  rw [List.all_cons,Bool.and_eq_true] at h
  have e:=mv h.1
  have hno:acc.any (fun y=>decide (y.name=x.name))=false:=by
   rw [Bool.eq_false_iff]
   intro h2
   obtain ⟨y,hy,hyx⟩:=List.any_eq_true.1 h2
   have hyx:=of_decide_eq_true hyx
   clear h e h2
   induction acc with
   | nil=>simp at hy
   | cons z acc ih =>
    rw [List.cons_append,zL,Bool.and_eq_true,Bool.not_eq_true'] at hn
    rcases List.mem_cons.1 hy with rfl|hy
    · have:(acc ++ x :: r).any (fun w=>decide (w.name=y.name))=true:=List.any_eq_true.2 ⟨x,by simp,by simp [hyx]⟩
      rw [this] at hn
      simp at hn
    · exact ih hn.2 hy
  rw [List.map_cons,zS,e]
  dsimp only
  rw [if_neg (by simp),hno,if_neg (by decide),yG r (acc ++ [x]) h.2 (by rw [List.append_assoc];exact hn),List.append_assoc]
  rfl
theorem jA {b:BinsV} (h:qA b=true):(1≤b.bits∧b.bits≤32)∧zx b.pre.data.toList=true∧xn b.au=true∧yN b.pre=false:=by
 unfold qA at h
 simp only [Bool.and_eq_true,decide_eq_true_eq,Bool.not_eq_true'] at h
 obtain ⟨⟨h1,h2⟩,h3⟩:=h
 unfold zP at h1
 split at h1
 · exact absurd h1 (by decide)
 · rename_i hb
   split at h1
   · exact absurd h1 (by decide)
   · rename_i hr
     exact ⟨by omega,by simpa using hr,h2,h3⟩
theorem dw {b:BinsV} (h:qA b=true):zI (zU b)=(b,0):=by
 obtain ⟨h1,h2,h3,h4⟩:=jA h
 obtain ⟨⟨a1,a2,a3,a4,a5,-⟩,-,⟨-,-,c3,c4,c5,c6,c7,-⟩⟩:=gN
 have e:∀y,(zU b).look y=qF [jx,qy,jY,thrN] [zf b.bits,qp b.au.ids,txtJ b.pre,zf b.au.thr] y:=fun _=>rfl
 have e1:bnA (zU b)=(b.au,⟨[thrN,qy],0⟩):=fD h3 (by rw [e];simp [qF,c3]) (by rw [e];simp [qF,c5,a5,c7])
 have e2:bnB (zU b)=(b.bits,⟨[jx,thrN,qy],0⟩):=by
  unfold bnB
  rw [e1]
  exact gV (by rw [e];simp [qF]) h1.1 h1.2
 have e3:bnP (zU b)=(b.pre,⟨[jY,jx,thrN,qy],0⟩):=by
  unfold bnP
  rw [e2]
  exact yW (by rw [e];simp [qF,c4,c6])
 have e4:qb (zU b) (bnP (zU b)).2=0:=by
  rw [e3]
  unfold qb
  rw [if_neg (by simp),if_pos]
  simp [zU,jW,JV.names,bO]
 unfold zI
 rw [if_neg (by simp [zU,jW,JV.kind]),e4,if_neg (by simp),e1,e2,e3]
 exact if_pos h
theorem fN {d:DelegsV} (h:qD d=true):xz (ql d)=(d,0):=by
 have hm:(ql d).mayB=true:=by
  unfold qD at h
  rw [Bool.and_eq_true] at h
  exact h.2
 unfold qD at h
 simp only [Bool.and_eq_true] at h
 obtain ⟨⟨hk,hb⟩,-⟩:=h
 obtain ⟨k1,k2,k3⟩:=zp.1 hk
 obtain ⟨-,-,⟨-,-,-,-,-,-,-,n1,n2,n3⟩⟩:=gN
 have hl:(zi d.keys).items.length≤32:=by show (d.keys.map obj2).length≤32;rw [List.length_map];exact k1
 unfold xz
 rw [if_neg (by rw [hm];decide),if_neg (by simp [ql,jW,JV.kind])]
 clear hm
 cases hb0:zy d.bins
 · rw [hb0] at hb
   simp only [Bool.false_eq_true,if_false,Bool.and_eq_true,List.isEmpty_iff] at hb
   obtain ⟨hr,hbb⟩:=hb
   have e:∀y,(ql d).look y=qF [qP,xt] [zi d.keys,zU d.bins] y:=fun y=>by
    show qF ((qO d).map (·.1)) ((qO d).map (·.2)) y=_
    unfold qO
    rw [hb0]
    rfl
   have hnm:(ql d).names=[qP,xt]:=by
    show (qO d).map (·.1)=_
    unfold qO
    rw [hb0]
    rfl
   have e1:dlK (ql d)=(zi d.keys,⟨[qP],0⟩):=vI (by rw [e];simp [qF]) rfl hl
   have e2:dlL (ql d)=(d.keys,0):=by unfold dlL;rw [e1];exact bI k2 k3 k1
   have e3:dlS (ql d)=⟨[qP],0⟩:=by unfold dlS;rw [e1,e2];rfl
   have e4:qL (ql d) xt ⟨[qP],0⟩=true:=by unfold qL;rw [e];simp [qF,n2]
   have e5:dlO (ql d)=(zU d.bins,⟨[xt,qP],0⟩):=by
    unfold dlO
    rw [e3]
    exact vI (by rw [e];simp [qF,n2]) rfl (by show 4≤8192;decide)
   have e6:dlB (ql d)=((d.bins,[]),⟨[xt,qP],0⟩):=by
    unfold dlB
    rw [e3,e4,if_pos rfl,e5]
    dsimp only
    rw [dw hbb]
    rfl
   have e7:qb (ql d) (dlB (ql d)).2=0:=by
    rw [e6]
    unfold qb
    rw [if_neg (by simp),if_pos]
    rw [hnm]
    simp
   unfold yv
   rw [e7,if_neg (by simp),e2,e6]
   obtain ⟨a,b,c⟩:=d
   dsimp only at hr ⊢
   rw [hr]
 · rw [hb0] at hb
   simp only [if_true,Bool.and_eq_true,decide_eq_true_eq] at hb
   obtain ⟨⟨hr,ha⟩,ho⟩:=hb
   have e:∀y,(ql d).look y=qF [qP,xQ] [zi d.keys,zW (d.roles.map qr)] y:=fun y=>by
    show qF ((qO d).map (·.1)) ((qO d).map (·.2)) y=_
    unfold qO
    rw [hb0]
    rfl
   have hnm:(ql d).names=[qP,xQ]:=by
    show (qO d).map (·.1)=_
    unfold qO
    rw [hb0]
    rfl
   have e1:dlK (ql d)=(zi d.keys,⟨[qP],0⟩):=vI (by rw [e];simp [qF]) rfl hl
   have e2:dlL (ql d)=(d.keys,0):=by unfold dlL;rw [e1];exact bI k2 k3 k1
   have e3:dlS (ql d)=⟨[qP],0⟩:=by unfold dlS;rw [e1,e2];rfl
   have e4:qL (ql d) xt ⟨[qP],0⟩=false:=by unfold qL;rw [e];simp [qF,n2,n3]
   have e5:dlR (ql d)=(d.roles.map qr,⟨[xQ,qP],0⟩):=by
    unfold dlR
    rw [e3]
    exact fR (by rw [e];simp [qF,n1]) (by rw [List.length_map];exact hr)
   have e6:dlB (ql d)=((xR,d.roles),⟨[xQ,qP],0⟩):=by
    unfold dlB
    rw [e3,e4,if_neg (by decide),e5]
    dsimp only
    rw [yG d.roles [] ha ho]
    rfl
   have e7:qb (ql d) (dlB (ql d)).2=0:=by
    rw [e6]
    unfold qb
    rw [if_neg (by simp),if_pos]
    rw [hnm]
    simp
   unfold yv
   rw [e7,if_neg (by simp),e2,e6]
   obtain ⟨a,b,⟨c1,c2,⟨c3,c4⟩⟩⟩:=d
   unfold zy at hb0
   have hb1:=of_decide_eq_true hb0
   dsimp only at hb1 ⊢
   obtain ⟨x1,x2,x3,x4⟩:=hb1
   rw [x1,x2,x3,x4]
   rfl
theorem zY:qo [qy,zk,xb,trmN,thrN]=true∧qo [qy,zk,zJ,trmN,thrN]=true∧qo [jx,qy,jY,thrN]=true∧qo [qP,xQ]=true∧qo [qP,xt]=true:=⟨by kernel_rfl,by kernel_rfl,by kernel_rfl,by kernel_rfl,by kernel_rfl⟩
def gS (bits:Nat):Nat:=(bits+3) / 4
def yw:Nat→Nat→List UInt8
 | 0,_=>[]
 | w+1,n=>yw w (n / 16) ++ [qN (n % 16)]
theorem xN:∀w n,(yw w n).length=w
 | 0,_=>rfl
 | w+1,n=>by rw [yw,List.length_append,xN w];rfl
def se:ByteArray:=⟨#[45]⟩
def mw (path:ByteArray):Nat:=((zl path.data.toList).getD 0 0).toNat * 16777216+((zl path.data.toList).getD 1 0).toNat * 65536+((zl path.data.toList).getD 2 0).toNat * 256+((zl path.data.toList).getD 3 0).toNat
def wQ (path:ByteArray) (bits:Nat):Nat:=mw path / 2 ^ (32 - bits)
theorem nK (path:ByteArray):mw path<2 ^ 32:=by
 unfold mw
 have h0:=((zl path.data.toList).getD 0 0).toNat_lt
 have h1:=((zl path.data.toList).getD 1 0).toNat_lt
 have h2:=((zl path.data.toList).getD 2 0).toNat_lt
 have h3:=((zl path.data.toList).getD 3 0).toNat_lt
 omega
theorem nV {path:ByteArray} {bits:Nat} (h:bits≤32):wQ path bits<2 ^ bits:=by
 unfold wQ
 rw [Nat.div_lt_iff_lt_mul (Nat.two_pow_pos _),← Nat.pow_add,show bits+(32 - bits)=32 from by omega]
 exact nK path
def xi (pre:ByteArray) (bits n:Nat):ByteArray:=pre ++ se ++ ⟨(yw (gS bits) n).toArray⟩
def nW (path:ByteArray):ByteArray:=⟨(kK path.data.toList).toArray⟩
def pH (q s:ByteArray):Bool:=q.data.toList.isPrefixOf s.data.toList
def xh (l:List ByteArray) (path:ByteArray):Bool:=l.any fun q=>preB q && pH q (nW path)
def je (runes:ByteArray→List Int) (p s:ByteArray):Bool:=qU p && qU s && fm (runes p) (runes s)
def isD (runes:ByteArray→List Int) (x:DelegV) (path:ByteArray):Bool:=qZ x && qU path && (if x.paths≠[] then x.paths.any (fun p=>je runes p path) else xh x.pres path)
structure StepV where
 name:ByteArray
 au:AuthV
 term:Bool
def my (x:DelegV):StepV:=⟨x.name,x.au,x.term⟩
def xK (runes:ByteArray→List Int) (path:ByteArray):List DelegV→List StepV
 | []=>[]
 | x :: r=>if isD runes x path then my x :: (if x.term then [] else xK runes path r) else xK runes path r
def xf (runes:ByteArray→List Int) (d:DelegsV) (path:ByteArray):List StepV :=
 if qD d && qU path then (if zy d.bins then xK runes path d.roles else [⟨xi d.bins.pre d.bins.bits.toNat (wQ path d.bins.bits.toNat),d.bins.au,true⟩]) else []
theorem mg (N:List NJ):(jW N).wt=1+qu (N.map (·.1))+JV.wts (N.map (·.2)):=by
 show 1+(⟨#[]⟩:ByteArray).size+qu (N.map (·.1))+JV.wts (N.map (·.2))=_
 rfl
theorem xS (t:ByteArray):(txtJ t).wt=1+t.size:=by simp [txtJ,JV.wt,JV.wts,qu]
theorem wZ (n:Int):(zf n).wt=1:=by simp [zf,JV.wt,JV.wts,qu,ByteArray.size]
end Go.Proofs.YthgembbgcbaghaaGreatDoor
