/- Plain: how much a root's object, and one with a member changed, holds; the authority of a role by its name; when roots are the same. No program in sight. -/
import Derived.Test.YthgembbgcbaghaaGreatDoorDb21

namespace Go.Proofs.YthgembbgcbaghaaGreatDoor
open Go.RowKit
def yE (c:UInt8):ByteArray:=⟨(List.replicate 64 c).toArray⟩
def iG (c:UInt8):AuthV:=⟨1,[yE c]⟩
def raN:ByteArray:=⟨#[97]⟩
structure DelegV where
 name:ByteArray
 au:AuthV
 term:Bool
 paths:List ByteArray
 pres:List ByteArray
deriving DecidableEq
structure BinsV where
 bits:Int
 pre:ByteArray
 au:AuthV
deriving DecidableEq
structure DelegsV where
 keys:List Key2
 roles:List DelegV
 bins:BinsV
deriving DecidableEq
def kh:DelegV:=⟨⟨#[]⟩,authZ,false,[],[]⟩
def binsZ:BinsV:=⟨0,⟨#[]⟩,authZ⟩
def delegsZ:DelegsV:=⟨[],[],binsZ⟩
def g6 (s:ByteArray):Bool:=decide (s=mr∨s=sf∨s=su)
def q7 (s:ByteArray):Bool:=decide (1≤s.size∧s.size≤256) && !(s.data.toList.headD 0 == 47) && yv s
def preB (s:ByteArray):Bool:=decide (1≤s.size∧s.size≤64) && jx s.data.toList
def qK (x:DelegV):Bool:=zi x.name.data.toList && !g6 x.name && xf x.au && (if x.paths≠[] then x.pres.isEmpty && decide (x.paths.length≤32) && x.paths.all q7 else !x.pres.isEmpty && decide (x.pres.length≤32) && x.pres.all preB)
def z6 (b:BinsV):Int:=if b.bits<1∨32<b.bits then 1 else if zi b.pre.data.toList=false then 3 else if 64<b.pre.size+1+(b.bits.toNat+3) / 4 then 5 else 0
def zq (b:BinsV):Bool:=decide (z6 b=0) && xf b.au && !g6 b.pre
def zv (b:BinsV):Bool:=decide (b.bits=0∧b.pre=⟨#[]⟩∧b.au.thr=0∧b.au.ids=[])
def zg:List DelegV→Bool
 | []=>true
 | x :: r=>!(r.any fun y=>decide (y.name=x.name)) && zg r
def zo (b:Bool):JV:=.mk 1 (if b then 1 else 0) ⟨#[]⟩ [] []
def zb:ByteArray:=⟨#[110,97,109,101]⟩
def zK:ByteArray:=⟨#[112,97,116,104,95,104,97,115,104,95,112,114,101,102,105,120,101,115]⟩
def xw:ByteArray:=⟨#[112,97,116,104,115]⟩
def trmN:ByteArray:=⟨#[116,101,114,109,105,110,97,116,105,110,103]⟩
def xN:ByteArray:=⟨#[98,105,116,95,108,101,110,103,116,104]⟩
def jd:ByteArray:=⟨#[110,97,109,101,95,112,114,101,102,105,120]⟩
def xy:ByteArray:=⟨#[115,117,99,99,105,110,99,116,95,114,111,108,101,115]⟩
def zm (x:DelegV):List NJ:=[(qy,qh x.au.ids),(zb,txtJ x.name),(if x.paths≠[] then (xw,qh x.paths) else (zK,qh x.pres)),(trmN,zo x.term),(thrN,zh x.au.thr)]
def qe (x:DelegV):JV:=xI (zm x)
def yc (b:BinsV):List NJ:=[(xN,zh b.bits),(qy,qh b.au.ids),(jd,txtJ b.pre),(thrN,zh b.au.thr)]
def zU (b:BinsV):JV:=xI (yc b)
def qI (d:DelegsV):List NJ:=(qL,zV d.keys) :: (if zv d.bins then [(xa,zG (d.roles.map qe))] else [(xy,zU d.bins)])
def qm (d:DelegsV):JV:=xI (qI d)
def qU (d:DelegsV):Bool:=zc d.keys && (if zv d.bins then decide (d.roles.length≤64) && d.roles.all qK && zg d.roles else d.roles.isEmpty && zq d.bins) && (qm d).mayB
def qR (v:JV) (y:ByteArray) (st:PS):Bool × PS :=
 if st.err≠0 then (false,st) else match v.look y with
 | none=>(false,⟨st.asked,6⟩)
 | some it=>if it.kind≠1 then (false,⟨st.asked,10⟩) else (decide (it.n=1),⟨y :: st.asked,0⟩)
def qV (v:JV) (y:ByteArray) (most:Nat) (st:PS):List JV × PS :=
 if st.err≠0 then ([],st) else match v.look y with
 | none=>([],⟨st.asked,6⟩)
 | some it=>if it.kind≠4 then ([],⟨st.asked,10⟩) else if most<it.items.length then ([],⟨st.asked,5⟩) else (it.items,⟨y :: st.asked,0⟩)
def dgN (v:JV):ByteArray × PS:=qp v zb ⟨[],0⟩
def dgA (v:JV):AuthV × PS:=xe v (dgN v).2
def dgT (v:JV):Bool × PS:=qR v trmN (dgA v).2
def dgP (v:JV):(List ByteArray × List ByteArray) × PS:=if qT v zK (dgT v).2 then (([],(qv v zK 32 (dgT v).2).1),(qv v zK 32 (dgT v).2).2) else (((qv v xw 32 (dgT v).2).1,[]),(qv v xw 32 (dgT v).2).2)
def dgX (v:JV):DelegV:=⟨(dgN v).1,(dgA v).1,(dgT v).1,(dgP v).1.1,(dgP v).1.2⟩
def zw (v:JV):DelegV × Int:=if v.kind≠5 then (kh,10) else if qf v (dgP v).2≠0 then (kh,qf v (dgP v).2) else if qK (dgX v) then (dgX v,0) else (kh,3)
def zW:List JV→List DelegV→List DelegV × Int
 | [],acc=>(acc,0)
 | v :: r,acc=>if (zw v).2≠0 then ([],(zw v).2) else if acc.any (fun y=>decide (y.name=(zw v).1.name)) then ([],7) else zW r (acc ++ [(zw v).1])
def bnA (v:JV):AuthV × PS:=xe v ⟨[],0⟩
def bnB (v:JV):Int × PS:=qF v xN 1 32 (bnA v).2
def bnP (v:JV):ByteArray × PS:=qp v jd (bnB v).2
def zB (v:JV):BinsV × Int:=if v.kind≠5 then (binsZ,10) else if qf v (bnP v).2≠0 then (binsZ,qf v (bnP v).2) else if zq ⟨(bnB v).1,(bnP v).1,(bnA v).1⟩ then (⟨(bnB v).1,(bnP v).1,(bnA v).1⟩,0) else (binsZ,3)
def dlK (v:JV):JV × PS:=qr v qL 32 ⟨[],0⟩
def dlL (v:JV):List Key2 × Int:=zH (dlK v).1
def dlS (v:JV):PS:=(dlK v).2.fail (dlL v).2
def dlO (v:JV):JV × PS:=qr v xy 8192 (dlS v)
def dlR (v:JV):List JV × PS:=qV v xa 64 (dlS v)
def dlB (v:JV):(BinsV × List DelegV) × PS:=if qT v xy (dlS v) then (((zB (dlO v).1).1,[]),(dlO v).2.fail (zB (dlO v).1).2) else ((binsZ,(zW (dlR v).1 []).1),(dlR v).2.fail (zW (dlR v).1 []).2)
def zT (v:JV):DelegsV × Int:=if qf v (dlB v).2≠0 then (delegsZ,qf v (dlB v).2) else (⟨(dlL v).1,(dlB v).1.2,(dlB v).1.1⟩,0)
def xt (v:JV):DelegsV × Int:=if v.mayB=false then (delegsZ,3) else if v.kind≠5 then (delegsZ,10) else zT v
def sG:ByteArray:=⟨#[42]⟩
def bbN:ByteArray:=⟨#[98]⟩
def ppN:ByteArray:=⟨#[112]⟩
theorem mi {v:JV} {a:AuthV} {s:List ByteArray} (h:xf a=true) (l1:v.look qy=some (qh a.ids)) (l2:v.look thrN=some (zh a.thr)):xe v ⟨s,0⟩=(a,⟨thrN :: qy :: s,0⟩):=by
 obtain ⟨hl,ht,hi⟩:=xk h
 have p1:qv v qy 16 ⟨s,0⟩=(a.ids,⟨qy :: s,0⟩):=vg l1 hl.2
 have hne:¬a.ids=[]:=fun e=>by rw [e] at hl;simp at hl
 have p2:jm v ⟨s,0⟩=⟨qy :: s,0⟩:=by
  unfold jm
  rw [p1]
  dsimp only
  rw [if_neg hne,hi]
  rfl
 have p3:kW v ⟨s,0⟩=(a.thr,⟨thrN :: qy :: s,0⟩):=by
  unfold kW
  rw [p1,p2]
  exact bA l2 ht.1 ht.2
 unfold xe
 rw [p3,p1]
 rfl
theorem mo {v:JV} {y:ByteArray} {b:Bool} {s:List ByteArray} (h:v.look y=some (zo b)):qR v y ⟨s,0⟩=(b,⟨y :: s,0⟩):=by
 unfold qR
 rw [if_neg (by simp),h]
 show (if (zo b).kind≠1 then _ else _:Bool × PS)=_
 rw [if_neg (by simp [zo,JV.kind])]
 cases b <;> rfl
theorem me {v:JV} {y:ByteArray} {l:List JV} {most:Nat} {s:List ByteArray} (h:v.look y=some (zG l)) (hl:l.length≤most):qV v y most ⟨s,0⟩=(l,⟨y :: s,0⟩):=by
 unfold qV
 rw [if_neg (by simp),h]
 show (if (zG l).kind≠4 then _ else if most<l.length then _ else _:List JV × PS)=_
 rw [if_neg (by simp [zG,JV.kind]),if_neg (by omega)]
 rfl
theorem pu:(qy≠zb∧qy≠xw∧qy≠zK∧qy≠trmN∧qy≠thrN∧zb≠xw∧zb≠zK∧zb≠trmN∧zb≠thrN)∧(xw≠zK∧xw≠trmN∧xw≠thrN∧zK≠xw∧zK≠trmN∧zK≠thrN∧trmN≠thrN)∧(trmN≠zK∧thrN≠zK∧xN≠qy∧xN≠jd∧xN≠thrN∧qy≠jd∧jd≠thrN∧qL≠xa∧qL≠xy∧xa≠xy):=by decide
theorem xm {x:DelegV} (h:qK x=true):zi x.name.data.toList=true∧g6 x.name=false∧xf x.au=true∧((x.paths≠[]∧x.pres=[]∧x.paths.length≤32∧x.paths.all q7=true)∨(x.paths=[]∧x.pres≠[]∧x.pres.length≤32∧x.pres.all preB=true)):=by
 unfold qK at h
 simp only [Bool.and_eq_true,Bool.not_eq_true'] at h
 refine ⟨h.1.1.1,h.1.1.2,h.1.2,?_⟩
 have h4:=h.2
 split at h4
 · rename_i hp
   simp only [Bool.and_eq_true,decide_eq_true_eq,List.isEmpty_iff] at h4
   exact .inl ⟨hp,h4.1.1,h4.1.2,h4.2⟩
 · rename_i hp
   simp only [Bool.and_eq_true,decide_eq_true_eq,Bool.not_eq_true',List.isEmpty_eq_false_iff] at h4
   exact .inr ⟨by simpa using hp,h4.1.1,h4.1.2,h4.2⟩
theorem dv {x:DelegV} (h:qK x=true):zw (qe x)=(x,0):=by
 obtain ⟨hn,ht,ha,hp⟩:=xm h
 obtain ⟨⟨a1,a2,a3,a4,a5,a6,a7,a8,a9⟩,⟨b1,b2,b3,b4,b5,b6,b7⟩,⟨c1,c2,-⟩⟩:=pu
 have hk:(qe x).kind=5:=rfl
 have key:∀(q:NJ),(∀y,(qe x).look y=qS [qy,zb,q.1,trmN,thrN] [qh x.au.ids,txtJ x.name,q.2,zo x.term,zh x.au.thr] y)→(q.1=xw∨q.1=zK)→dgN (qe x)=(x.name,⟨[zb],0⟩)∧dgA (qe x)=(x.au,⟨[thrN,qy,zb],0⟩)∧dgT (qe x)=(x.term,⟨[trmN,thrN,qy,zb],0⟩):=by
  intro q e hq
  have n1:q.1≠trmN:=by rcases hq with e|e <;> rw [e];exact b2;exact b5
  have n2:q.1≠thrN:=by rcases hq with e|e <;> rw [e];exact b3;exact b6
  have e1:dgN (qe x)=(x.name,⟨[zb],0⟩):=gK (by rw [e];simp [qS,a1])
  have e2:dgA (qe x)=(x.au,⟨[thrN,qy,zb],0⟩):=by
   unfold dgA
   rw [e1]
   exact mi ha (by rw [e];simp [qS]) (by rw [e];simp [qS,a5,a9,n2,b7])
  refine ⟨e1,e2,?_⟩
  unfold dgT
  rw [e2]
  exact mo (by rw [e];simp [qS,a4,a8,n1])
 rcases hp with ⟨p1,p2,p3,p4⟩|⟨p1,p2,p3,p4⟩
 · have e:∀y,(qe x).look y=qS [qy,zb,xw,trmN,thrN] [qh x.au.ids,txtJ x.name,qh x.paths,zo x.term,zh x.au.thr] y:=fun y=>by
    show qS ((zm x).map (·.1)) ((zm x).map (·.2)) y=_
    unfold zm
    rw [if_pos p1]
    rfl
   obtain ⟨e1,e2,e3⟩:=key (xw,qh x.paths) e (.inl rfl)
   have e4:qT (qe x) zK ⟨[trmN,thrN,qy,zb],0⟩=false:=by
    unfold qT
    rw [e]
    simp [qS,a3,a7,b1,c1,c2]
   have e5:dgP (qe x)=((x.paths,[]),⟨[xw,trmN,thrN,qy,zb],0⟩):=by
    unfold dgP
    rw [e3,e4,if_neg (by decide),vg (l:=x.paths) (by rw [e];simp [qS,a2,a6]) p3]
   have e6:dgX (qe x)=x:=by
    unfold dgX
    rw [e1,e2,e3,e5]
    obtain ⟨n,a,t,p,r⟩:=x
    dsimp only at p2 ⊢
    rw [p2]
   have e7:qf (qe x) (dgP (qe x)).2=0:=by
    rw [e5]
    unfold qf
    rw [if_neg (by simp),if_pos]
    have:(qe x).names=[qy,zb,xw,trmN,thrN]:=by
     show (zm x).map (·.1)=_
     unfold zm
     rw [if_pos p1]
     rfl
    rw [this]
    simp
   unfold zw
   rw [if_neg (by simp [hk]),e7,if_neg (by simp),e6,if_pos h]
 · have e:∀y,(qe x).look y=qS [qy,zb,zK,trmN,thrN] [qh x.au.ids,txtJ x.name,qh x.pres,zo x.term,zh x.au.thr] y:=fun y=>by
    show qS ((zm x).map (·.1)) ((zm x).map (·.2)) y=_
    unfold zm
    rw [if_neg (by simp [p1])]
    rfl
   obtain ⟨e1,e2,e3⟩:=key (zK,qh x.pres) e (.inr rfl)
   have e4:qT (qe x) zK ⟨[trmN,thrN,qy,zb],0⟩=true:=by
    unfold qT
    rw [e]
    simp [qS,a3,a7]
   have e5:dgP (qe x)=(([],x.pres),⟨[zK,trmN,thrN,qy,zb],0⟩):=by
    unfold dgP
    rw [e3,e4,if_pos rfl,vg (l:=x.pres) (by rw [e];simp [qS,a3,a7]) p3]
   have e6:dgX (qe x)=x:=by
    unfold dgX
    rw [e1,e2,e3,e5]
    obtain ⟨n,a,t,p,r⟩:=x
    dsimp only at p1 ⊢
    rw [p1]
   have e7:qf (qe x) (dgP (qe x)).2=0:=by
    rw [e5]
    unfold qf
    rw [if_neg (by simp),if_pos]
    have:(qe x).names=[qy,zb,zK,trmN,thrN]:=by
     show (zm x).map (·.1)=_
     unfold zm
     rw [if_neg (by simp [p1])]
     rfl
    rw [this]
    simp
   unfold zw
   rw [if_neg (by simp [hk]),e7,if_neg (by simp),e6,if_pos h]
theorem gB:∀(l acc:List DelegV),l.all qK=true→zg (acc ++ l)=true→zW (l.map qe) acc=(acc ++ l,0)
 | [],acc,_,_=>by simp [zW]
 | x :: r,acc,h,hn=>by
  rw [List.all_cons,Bool.and_eq_true] at h
  have e:=dv h.1
  have hno:acc.any (fun y=>decide (y.name=x.name))=false:=by
   rw [Bool.eq_false_iff]
   intro h2
   obtain ⟨y,hy,hyx⟩:=List.any_eq_true.1 h2
   have hyx:=of_decide_eq_true hyx
   clear h e h2
   induction acc with
   | nil=>simp at hy
   | cons z acc ih =>
    rw [List.cons_append,zg,Bool.and_eq_true,Bool.not_eq_true'] at hn
    rcases List.mem_cons.1 hy with rfl|hy
    · have:(acc ++ x :: r).any (fun w=>decide (w.name=y.name))=true:=List.any_eq_true.2 ⟨x,by simp,by simp [hyx]⟩
      rw [this] at hn
      simp at hn
    · exact ih hn.2 hy
  rw [List.map_cons,zW,e]
  dsimp only
  rw [if_neg (by simp),hno,if_neg (by decide),gB r (acc ++ [x]) h.2 (by rw [List.append_assoc];exact hn),List.append_assoc]
  rfl
theorem jf {b:BinsV} (h:zq b=true):(1≤b.bits∧b.bits≤32)∧zi b.pre.data.toList=true∧xf b.au=true∧g6 b.pre=false:=by
 unfold zq at h
 simp only [Bool.and_eq_true,decide_eq_true_eq,Bool.not_eq_true'] at h
 obtain ⟨⟨h1,h2⟩,h3⟩:=h
 unfold z6 at h1
 split at h1
 · exact absurd h1 (by decide)
 · rename_i hb
   split at h1
   · exact absurd h1 (by decide)
   · rename_i hr
     exact ⟨by omega,by simpa using hr,h2,h3⟩
theorem rp {b:BinsV} (h:zq b=true):zB (zU b)=(b,0):=by
 obtain ⟨h1,h2,h3,h4⟩:=jf h
 obtain ⟨⟨a1,a2,a3,a4,a5,-⟩,-,⟨-,-,c3,c4,c5,c6,c7,-⟩⟩:=pu
 have e:∀y,(zU b).look y=qS [xN,qy,jd,thrN] [zh b.bits,qh b.au.ids,txtJ b.pre,zh b.au.thr] y:=fun _=>rfl
 have e1:bnA (zU b)=(b.au,⟨[thrN,qy],0⟩):=mi h3 (by rw [e];simp [qS,c3]) (by rw [e];simp [qS,c5,a5,c7])
 have e2:bnB (zU b)=(b.bits,⟨[xN,thrN,qy],0⟩):=by
  unfold bnB
  rw [e1]
  exact bA (by rw [e];simp [qS]) h1.1 h1.2
 have e3:bnP (zU b)=(b.pre,⟨[jd,xN,thrN,qy],0⟩):=by
  unfold bnP
  rw [e2]
  exact gK (by rw [e];simp [qS,c4,c6])
 have e4:qf (zU b) (bnP (zU b)).2=0:=by
  rw [e3]
  unfold qf
  rw [if_neg (by simp),if_pos]
  simp [zU,xI,JV.names,yc]
 unfold zB
 rw [if_neg (by simp [zU,xI,JV.kind]),e4,if_neg (by simp),e1,e2,e3]
 exact if_pos h
theorem gP {d:DelegsV} (h:qU d=true):xt (qm d)=(d,0):=by
 have hm:(qm d).mayB=true:=by
  unfold qU at h
  rw [Bool.and_eq_true] at h
  exact h.2
 unfold qU at h
 simp only [Bool.and_eq_true] at h
 obtain ⟨⟨hk,hb⟩,-⟩:=h
 obtain ⟨k1,k2,k3⟩:=zk.1 hk
 obtain ⟨-,-,⟨-,-,-,-,-,-,-,n1,n2,n3⟩⟩:=pu
 have hl:(zV d.keys).items.length≤32:=by show (d.keys.map obj2).length≤32;rw [List.length_map];exact k1
 unfold xt
 rw [if_neg (by rw [hm];decide),if_neg (by simp [qm,xI,JV.kind])]
 clear hm
 cases hb0:zv d.bins
 · rw [hb0] at hb
   simp only [Bool.false_eq_true,if_false,Bool.and_eq_true,List.isEmpty_iff] at hb
   obtain ⟨hr,hbb⟩:=hb
   have e:∀y,(qm d).look y=qS [qL,xy] [zV d.keys,zU d.bins] y:=fun y=>by
    show qS ((qI d).map (·.1)) ((qI d).map (·.2)) y=_
    unfold qI
    rw [hb0]
    rfl
   have hnm:(qm d).names=[qL,xy]:=by
    show (qI d).map (·.1)=_
    unfold qI
    rw [hb0]
    rfl
   have e1:dlK (qm d)=(zV d.keys,⟨[qL],0⟩):=wR (by rw [e];simp [qS]) rfl hl
   have e2:dlL (qm d)=(d.keys,0):=by unfold dlL;rw [e1];exact fQ k2 k3 k1
   have e3:dlS (qm d)=⟨[qL],0⟩:=by unfold dlS;rw [e1,e2];rfl
   have e4:qT (qm d) xy ⟨[qL],0⟩=true:=by unfold qT;rw [e];simp [qS,n2]
   have e5:dlO (qm d)=(zU d.bins,⟨[xy,qL],0⟩):=by
    unfold dlO
    rw [e3]
    exact wR (by rw [e];simp [qS,n2]) rfl (by show 4≤8192;decide)
   have e6:dlB (qm d)=((d.bins,[]),⟨[xy,qL],0⟩):=by
    unfold dlB
    rw [e3,e4,if_pos rfl,e5]
    dsimp only
    rw [rp hbb]
    rfl
   have e7:qf (qm d) (dlB (qm d)).2=0:=by
    rw [e6]
    unfold qf
    rw [if_neg (by simp),if_pos]
    rw [hnm]
    simp
   unfold zT
   rw [e7,if_neg (by simp),e2,e6]
   obtain ⟨a,b,c⟩:=d
   dsimp only at hr ⊢
   rw [hr]
 · rw [hb0] at hb
   simp only [if_true,Bool.and_eq_true,decide_eq_true_eq] at hb
   obtain ⟨⟨hr,ha⟩,ho⟩:=hb
   have e:∀y,(qm d).look y=qS [qL,xa] [zV d.keys,zG (d.roles.map qe)] y:=fun y=>by
    show qS ((qI d).map (·.1)) ((qI d).map (·.2)) y=_
    unfold qI
    rw [hb0]
    rfl
   have hnm:(qm d).names=[qL,xa]:=by
    show (qI d).map (·.1)=_
    unfold qI
    rw [hb0]
    rfl
   have e1:dlK (qm d)=(zV d.keys,⟨[qL],0⟩):=wR (by rw [e];simp [qS]) rfl hl
   have e2:dlL (qm d)=(d.keys,0):=by unfold dlL;rw [e1];exact fQ k2 k3 k1
   have e3:dlS (qm d)=⟨[qL],0⟩:=by unfold dlS;rw [e1,e2];rfl
   have e4:qT (qm d) xy ⟨[qL],0⟩=false:=by unfold qT;rw [e];simp [qS,n2,n3]
   have e5:dlR (qm d)=(d.roles.map qe,⟨[xa,qL],0⟩):=by
    unfold dlR
    rw [e3]
    exact me (by rw [e];simp [qS,n1]) (by rw [List.length_map];exact hr)
   have e6:dlB (qm d)=((binsZ,d.roles),⟨[xa,qL],0⟩):=by
    unfold dlB
    rw [e3,e4,if_neg (by decide),e5]
    dsimp only
    rw [gB d.roles [] ha ho]
    rfl
   have e7:qf (qm d) (dlB (qm d)).2=0:=by
    rw [e6]
    unfold qf
    rw [if_neg (by simp),if_pos]
    rw [hnm]
    simp
   unfold zT
   rw [e7,if_neg (by simp),e2,e6]
   obtain ⟨a,b,⟨c1,c2,⟨c3,c4⟩⟩⟩:=d
   unfold zv at hb0
   have hb1:=of_decide_eq_true hb0
   dsimp only at hb1 ⊢
   obtain ⟨x1,x2,x3,x4⟩:=hb1
   rw [x1,x2,x3,x4]
   rfl
theorem pm {x:JV} (h:x.partB=true) (hk:x.kind=4) (ht:∀y ∈ x.items,y.kind=3):x=qh (x.items.map JV.t):=by
 obtain ⟨e,hi⟩:=fZ h hk
 have:x.items=(x.items.map JV.t).map txtJ:=by
  rw [List.map_map]
  conv=>lhs;rw [← List.map_id x.items]
  exact List.map_congr_left fun y hy=>vK (hi y hy) (ht y hy)
 unfold qh
 rw [← this]
 exact e
theorem rf {x:JV} (h:x.partB=true) (hk:x.kind=1):x=zo (decide (x.n=1)):=by
 rw [JV.partB_eq,Bool.and_eq_true] at h
 obtain ⟨h1,-⟩:=h
 obtain ⟨k,n,t,ns,xs⟩:=x
 simp only [JV.kind,JV.n,JV.t,JV.names,JV.items] at h1 hk ⊢
 subst hk
 unfold qJ at h1
 rw [if_pos rfl,decide_eq_true_eq] at h1
 obtain ⟨a,b,c,d⟩:=h1
 rw [vO a,List.eq_nil_of_length_eq_zero b,List.eq_nil_of_length_eq_zero c]
 rcases d with rfl|rfl <;> rfl
theorem uv {v:JV} {y:ByteArray} {st:PS} (h:(qR v y st).2.err=0):st.err=0∧∃it,v.look y=some it∧it.kind=1∧qR v y st=(decide (it.n=1),⟨y :: st.asked,0⟩):=by
 unfold qR at h ⊢
 split at h
 · rename_i h0;exact absurd h h0
 rename_i h0
 rw [if_neg h0]
 split at h
 · simp at h
 rename_i it hit
 split at h
 · simp at h
 rename_i h1
 exact ⟨by simpa using h0,it,hit,by simpa using h1,if_neg h1⟩
theorem uw {v:JV} {y:ByteArray} {most:Nat} {st:PS} (h:(qV v y most st).2.err=0):st.err=0∧∃it,v.look y=some it∧it.kind=4∧it.items.length≤most∧qV v y most st=(it.items,⟨y :: st.asked,0⟩):=by
 unfold qV at h ⊢
 split at h
 · rename_i h0;exact absurd h h0
 rename_i h0
 rw [if_neg h0]
 split at h
 · simp at h
 rename_i it hit
 split at h
 · simp at h
 rename_i h1
 split at h
 · simp at h
 rename_i h2
 exact ⟨by simpa using h0,it,hit,by simpa using h1,by omega,(if_neg h1).trans (if_neg h2)⟩
theorem fX {v:JV} {st:PS} (h:(xe v st).2.err=0) (hx:∀x ∈ v.items,x.partB=true):st.err=0∧v.look qy=some (qh (xe v st).1.ids)∧v.look thrN=some (zh (xe v st).1.thr)∧xf (xe v st).1=true∧(xe v st).2=⟨thrN :: qy :: st.asked,0⟩:=by
 have he2:(kW v st).2.err=0:=h
 obtain ⟨h1,it2,l2,k2,r2,q2⟩:=gW he2
 obtain ⟨h3,h4,h5⟩:=kV h1
 have hne:¬(qv v qy 16 st).1=[]:=fun e=>by
  rw [if_pos e] at h3
  have:=kV h3
  omega
 rw [if_neg hne] at h3 h5
 obtain ⟨h0,it1,l1,k1,m1,t1,q1⟩:=kf h3
 have e1:=pm (hx _ (zy l1).2) k1 t1
 have e2:it2=zh it2.n:=my (hx _ (zy l2).2) k2
 have ea:(xe v st).1=⟨it2.n,it1.items.map JV.t⟩:=by
  unfold xe
  rw [if_neg (by rw [he2];decide)]
  show (⟨(qF v thrN 1 _ _).1,_⟩:AuthV)=_
  rw [q1] at q2 ⊢
  rw [q2]
 rw [q1] at h4 r2 hne q2
 dsimp only at h4 r2 hne
 have hids:zO [] (it1.items.map JV.t)=0:=h4
 have hlt:(it1.items.map JV.t).length=it1.items.length:=List.length_map ..
 have hn0:(it1.items.map JV.t).length≠0:=fun e=>hne (List.eq_nil_of_length_eq_zero e)
 refine ⟨h0,by rw [ea,l1,← e1],by rw [ea,l2,← e2],?_,?_⟩
 · rw [ea]
   unfold xf js
   simp only [Bool.and_eq_true,decide_eq_true_eq]
   exact ⟨⟨by omega,by omega,by omega,by omega⟩,hids⟩
 · have hq:(xe v st).2=⟨thrN :: (jm v st).asked,0⟩:=by
    show (qF v thrN 1 _ _).2=_
    rw [q1]
    exact congrArg Prod.snd q2
   have hs:(jm v st).asked=qy :: st.asked:=by
    unfold jm
    rw [q1]
    dsimp only
    rw [if_neg hne,hids]
    rfl
   rw [hq,hs]
theorem zx:qQ [qy,zb,xw,trmN,thrN]=true∧qQ [qy,zb,zK,trmN,thrN]=true∧qQ [xN,qy,jd,thrN]=true∧qQ [qL,xa]=true∧qQ [qL,xy]=true:=⟨by kernel_rfl,by kernel_rfl,by kernel_rfl,by kernel_rfl,by kernel_rfl⟩
theorem dw {v:JV} {x:DelegV} (hp:v.partB=true) (h:zw v=(x,0)):v=qe x∧qK x=true:=by
 unfold zw at h
 split at h
 · simp at h
 rename_i hk
 have hk:v.kind=5:=by simpa using hk
 split at h
 · rename_i h0;exact absurd (congrArg Prod.snd h) h0
 rename_i hd
 have hd:qf v (dgP v).2=0:=by simpa using hd
 split at h
 case isFalse=>simp at h
 rename_i hmay
 have hX:dgX v=x:=congrArg Prod.fst h
 rw [hX] at hmay
 refine ⟨?_,hmay⟩
 obtain ⟨hz,hlen,hr,hi⟩:=kK hp hk
 obtain ⟨he,hasked⟩:=vv hd
 have hP:(dgT v).2.err=0∧((v.look zK=none∧∃it,v.look xw=some it∧it=qh (dgP v).1.1∧(dgP v).1.2=[]∧(dgP v).2=⟨xw :: (dgT v).2.asked,0⟩)∨(∃it,v.look zK=some it∧it=qh (dgP v).1.2∧(dgP v).1.1=[]∧(dgP v).2=⟨zK :: (dgT v).2.asked,0⟩)):=by
  unfold dgP at he ⊢
  cases hb:qT v zK (dgT v).2
  · rw [hb,if_neg (by decide)] at he
    rw [if_neg (by decide)]
    obtain ⟨a,it,l,k,m,t,q⟩:=kf (v:=v) (y:=xw) (most:=32) he
    refine ⟨a,.inl ⟨?_,it,l,?_,rfl,?_⟩⟩
    · unfold qT at hb
      rw [a] at hb
      simpa using hb
    · rw [q];exact pm (hi _ (zy l).2) k t
    · rw [q]
  · rw [hb,if_pos rfl] at he
    rw [if_pos rfl]
    obtain ⟨a,it,l,k,m,t,q⟩:=kf (v:=v) (y:=zK) (most:=32) he
    refine ⟨a,.inr ⟨it,l,?_,rfl,?_⟩⟩
    · rw [q];exact pm (hi _ (zy l).2) k t
    · rw [q]
 obtain ⟨hT,hP⟩:=hP
 obtain ⟨hA,ib,lb,kb,qb⟩:=uv (v:=v) (y:=trmN) hT
 obtain ⟨hN,la,lt,ma,qa⟩:=fX (v:=v) (st:=(dgN v).2) hA hi
 obtain ⟨_,iN,ln,kn,qn⟩:=yf (v:=v) (y:=zb) hN
 have e1:dgN v=(iN.t,⟨[zb],0⟩):=qn
 have e2:(dgA v).2=⟨[thrN,qy,zb],0⟩:=by
  have:(dgA v).2=⟨thrN :: qy :: (dgN v).2.asked,0⟩:=qa
  rw [this,e1]
 have e3:dgT v=(decide (ib.n=1),⟨[trmN,thrN,qy,zb],0⟩):=by
  have:dgT v=(decide (ib.n=1),⟨trmN :: (dgA v).2.asked,0⟩):=qb
  rw [this,e2]
 have f1:iN=txtJ x.name:=by
  have:=vK (hi _ (zy ln).2) kn
  rw [← hX]
  show iN=txtJ (dgN v).1
  rw [e1];exact this
 have f2:ib=zo x.term:=by
  have:=rf (hi _ (zy lb).2) kb
  rw [← hX]
  show ib=zo (dgT v).1
  rw [e3];exact this
 have f3:v.look qy=some (qh x.au.ids):=by rw [← hX];exact la
 have f4:v.look thrN=some (zh x.au.thr):=by rw [← hX];exact lt
 obtain ⟨m1,m2,m3,m4⟩:=xm hmay
 rcases hP with ⟨np,it,l,e,ep,q⟩|⟨it,l,e,ep,q⟩
 · have hpres:x.pres=[]:=by rw [← hX];exact ep
   have hpaths:it=qh x.paths:=by rw [← hX];exact e
   have hne:x.paths≠[]:=by
    rcases m4 with ⟨a,_⟩|⟨_,a,_⟩
    · exact a
    · exact absurd hpres a
   rw [q,e3] at hasked
   have hM:zm x=[(qy,qh x.au.ids),(zb,txtJ x.name),(xw,qh x.paths),(trmN,zo x.term),(thrN,zh x.au.thr)]:=by unfold zm;rw [if_pos hne]
   show v=xI (zm x)
   rw [hM]
   refine pq hk hz hr hlen zx.1 (fun y hy=>?_) (fun p hp'=>?_)
   · have:=hasked y hy
     simp only [List.mem_cons,List.not_mem_nil,or_false] at this
     rcases this with h|h|h|h|h <;> simp [h]
   · simp only [List.mem_cons,List.not_mem_nil,or_false] at hp'
     rcases hp' with rfl|rfl|rfl|rfl|rfl
     · exact f3
     · show v.look zb=_;rw [ln,f1]
     · show v.look xw=_;rw [l,hpaths]
     · show v.look trmN=_;rw [lb,f2]
     · exact f4
 · have hpaths:x.paths=[]:=by rw [← hX];exact ep
   have hpres:it=qh x.pres:=by rw [← hX];exact e
   rw [q,e3] at hasked
   have hM:zm x=[(qy,qh x.au.ids),(zb,txtJ x.name),(zK,qh x.pres),(trmN,zo x.term),(thrN,zh x.au.thr)]:=by unfold zm;rw [if_neg (by simp [hpaths])]
   show v=xI (zm x)
   rw [hM]
   refine pq hk hz hr hlen zx.2.1 (fun y hy=>?_) (fun p hp'=>?_)
   · have:=hasked y hy
     simp only [List.mem_cons,List.not_mem_nil,or_false] at this
     rcases this with h|h|h|h|h <;> simp [h]
   · simp only [List.mem_cons,List.not_mem_nil,or_false] at hp'
     rcases hp' with rfl|rfl|rfl|rfl|rfl
     · exact f3
     · show v.look zb=_;rw [ln,f1]
     · show v.look zK=_;rw [l,hpres]
     · show v.look trmN=_;rw [lb,f2]
     · exact f4
theorem rh {v:JV} {b:BinsV} (hp:v.partB=true) (h:zB v=(b,0)):v=zU b∧zq b=true:=by
 unfold zB at h
 split at h
 · simp at h
 rename_i hk
 have hk:v.kind=5:=by simpa using hk
 split at h
 · rename_i h0;exact absurd (congrArg Prod.snd h) h0
 rename_i hd
 have hd:qf v (bnP v).2=0:=by simpa using hd
 split at h
 case isFalse=>simp at h
 rename_i hmay
 have hX:(⟨(bnB v).1,(bnP v).1,(bnA v).1⟩:BinsV)=b:=congrArg Prod.fst h
 rw [hX] at hmay
 refine ⟨?_,hmay⟩
 obtain ⟨hz,hlen,hr,hi⟩:=kK hp hk
 obtain ⟨he,hasked⟩:=vv hd
 obtain ⟨hB,iP,lP,kP,qP⟩:=yf (v:=v) (y:=jd) he
 obtain ⟨hA,iB,lB,kB,rB,qB⟩:=gW (v:=v) (y:=xN) (lo:=1) (hi:=32) hB
 obtain ⟨_,la,lt,ma,qa⟩:=fX (v:=v) (st:=⟨[],0⟩) hA hi
 have e2:(bnA v).2=⟨[thrN,qy],0⟩:=qa
 have e3:bnB v=(iB.n,⟨[xN,thrN,qy],0⟩):=by
  have:bnB v=(iB.n,⟨xN :: (bnA v).2.asked,0⟩):=qB
  rw [this,e2]
 have e4:bnP v=(iP.t,⟨[jd,xN,thrN,qy],0⟩):=by
  have:bnP v=(iP.t,⟨jd :: (bnB v).2.asked,0⟩):=qP
  rw [this,e3]
 have f1:iB=zh b.bits:=by
  have:=my (hi _ (zy lB).2) kB
  rw [← hX]
  show iB=zh (bnB v).1
  rw [e3];exact this
 have f2:iP=txtJ b.pre:=by
  have:=vK (hi _ (zy lP).2) kP
  rw [← hX]
  show iP=txtJ (bnP v).1
  rw [e4];exact this
 rw [e4] at hasked
 refine pq (N:=yc b) hk hz hr hlen zx.2.2.1 (fun y hy=>?_) (fun p hp'=>?_)
 · have:=hasked y hy
   simp only [List.mem_cons,List.not_mem_nil,or_false] at this
   rcases this with h|h|h|h <;> simp [h,yc]
 · simp only [yc,List.mem_cons,List.not_mem_nil,or_false] at hp'
   rcases hp' with rfl|rfl|rfl|rfl
   · show v.look xN=_;rw [lB,f1]
   · show v.look qy=_;rw [← hX];exact la
   · show v.look jd=_;rw [lP,f2]
   · show v.look thrN=_;rw [← hX];exact lt
theorem vV:∀(acc:List DelegV) (x:DelegV),zg acc=true→acc.any (fun y=>decide (y.name=x.name))=false→zg (acc ++ [x])=true
 | [],x,_,_=>rfl
 | z :: acc,x,h,hn=>by
  rw [zg,Bool.and_eq_true,Bool.not_eq_true'] at h
  rw [List.any_cons,Bool.or_eq_false_iff] at hn
  rw [List.cons_append,zg,vV acc x h.2 hn.2,Bool.and_true,Bool.not_eq_true',List.any_append,h.1]
  have:¬x.name=z.name:=fun e=>by
   have:=of_decide_eq_false hn.1
   exact this e.symm
  simp [this]
theorem gF:∀(l:List JV) (acc r:List DelegV),(∀x ∈ l,x.partB=true)→zg acc=true→acc.all qK=true→zW l acc=(r,0)→∃r',r=acc ++ r'∧l=r'.map qe∧r.all qK=true∧zg r=true
 | [],acc,r,_,hn,ha,h=>by
  simp only [zW,Prod.mk.injEq,and_true] at h
  subst h
  exact ⟨[],by simp,rfl,ha,hn⟩
 | v :: l,acc,r,hp,hn,ha,h=>by
  rw [zW] at h
  split at h
  · rename_i h0;exact absurd (congrArg Prod.snd h) h0
  rename_i h0
  split at h
  · simp at h
  rename_i h1
  have h0:(zw v).2=0:=by simpa using h0
  have h1:acc.any (fun y=>decide (y.name=(zw v).1.name))=false:=by simpa using h1
  obtain ⟨e,m⟩:=dw (x:=(zw v).1) (hp v (List.mem_cons_self ..)) (Prod.ext rfl h0)
  obtain ⟨r',e1,e2,e3,e4⟩:=gF l _ r (fun x hx=>hp x (List.mem_cons_of_mem _ hx)) (vV acc _ hn h1) (by rw [List.all_append,ha];simp [m]) h
  refine ⟨(zw v).1 :: r',by rw [e1];simp,?_,e3,e4⟩
  rw [List.map_cons,← e,← e2]
theorem mQ {b:BinsV} (h:zv b=true):b=binsZ:=by
 obtain ⟨c1,c2,⟨c3,c4⟩⟩:=b
 unfold zv at h
 have h:=of_decide_eq_true h
 dsimp only at h
 obtain ⟨x1,x2,x3,x4⟩:=h
 rw [x1,x2,x3,x4]
 rfl
theorem uy {b:BinsV} (h:zq b=true):zv b=false:=by
 obtain ⟨h1,-⟩:=jf h
 unfold zv
 rw [decide_eq_false_iff_not]
 intro h2
 omega
def pl (bits:Nat):Nat:=(bits+3) / 4
def gq:Nat→Nat→List UInt8
 | 0,_=>[]
 | w+1,n=>gq w (n / 16) ++ [zj (n % 16)]
theorem jl:∀w n,(gq w n).length=w
 | 0,_=>rfl
 | w+1,n=>by rw [gq,List.length_append,jl w];rfl
def ij:ByteArray:=⟨#[45]⟩
def dy (path:ByteArray):Nat:=((zF path.data.toList).getD 0 0).toNat * 16777216+((zF path.data.toList).getD 1 0).toNat * 65536+((zF path.data.toList).getD 2 0).toNat * 256+((zF path.data.toList).getD 3 0).toNat
def yd (path:ByteArray) (bits:Nat):Nat:=dy path / 2 ^ (32 - bits)
theorem tr (path:ByteArray):dy path<2 ^ 32:=by
 unfold dy
 have h0:=((zF path.data.toList).getD 0 0).toNat_lt
 have h1:=((zF path.data.toList).getD 1 0).toNat_lt
 have h2:=((zF path.data.toList).getD 2 0).toNat_lt
 have h3:=((zF path.data.toList).getD 3 0).toNat_lt
 omega
theorem tn {path:ByteArray} {bits:Nat} (h:bits≤32):yd path bits<2 ^ bits:=by
 unfold yd
 rw [Nat.div_lt_iff_lt_mul (Nat.two_pow_pos _),← Nat.pow_add,show bits+(32 - bits)=32 from by omega]
 exact tr path
def xS (pre:ByteArray) (bits n:Nat):ByteArray:=pre ++ ij ++ ⟨(gq (pl bits) n).toArray⟩
def tt (path:ByteArray):ByteArray:=⟨(vw path.data.toList).toArray⟩
def ug (q s:ByteArray):Bool:=q.data.toList.isPrefixOf s.data.toList
def xB (l:List ByteArray) (path:ByteArray):Bool:=l.any fun q=>preB q && ug q (tt path)
def jL (runes:ByteArray→List Int) (p s:ByteArray):Bool:=q7 p && q7 s && uR (runes p) (runes s)
def isD (runes:ByteArray→List Int) (x:DelegV) (path:ByteArray):Bool:=qK x && q7 path && (if x.paths≠[] then x.paths.any (fun p=>jL runes p path) else xB x.pres path)
structure StepV where
 name:ByteArray
 au:AuthV
 term:Bool
def sB (x:DelegV):StepV:=⟨x.name,x.au,x.term⟩
def kG (runes:ByteArray→List Int) (path:ByteArray):List DelegV→List StepV
 | []=>[]
 | x :: r=>if isD runes x path then sB x :: (if x.term then [] else kG runes path r) else kG runes path r
def jz (runes:ByteArray→List Int) (d:DelegsV) (path:ByteArray):List StepV :=
 if qU d && q7 path then (if zv d.bins then kG runes path d.roles else [⟨xS d.bins.pre d.bins.bits.toNat (yd path d.bins.bits.toNat),d.bins.au,true⟩]) else []
theorem dg (N:List NJ):(xI N).wt=1+qu (N.map (·.1))+JV.wts (N.map (·.2)):=by
 show 1+(⟨#[]⟩:ByteArray).size+qu (N.map (·.1))+JV.wts (N.map (·.2))=_
 rfl
theorem jr (t:ByteArray):(txtJ t).wt=1+t.size:=by simp [txtJ,JV.wt,JV.wts,qu]
theorem yl (n:Int):(zh n).wt=1:=by simp [zh,JV.wt,JV.wts,qu,ByteArray.size]
end Go.Proofs.YthgembbgcbaghaaGreatDoor
