/- The contract of key.Of. -/
import Derived.Test.YtnlgmcapbbgelaaGreatDoorRx21

namespace Go.Proofs.YtnlgmcapbbgelaaGreatDoor
open Go.RowKit
structure RootV where
 ver:Int
 exp:Int
 keys:List Key2
 au:Auth3
deriving DecidableEq
def jV:RootV:=⟨0,0,[],bj⟩
def zm:ByteArray:=⟨#[107,101,121,115]⟩
def xb:ByteArray:=⟨#[114,111,108,101,115]⟩
def zq (l:List Key2):Bool:=decide (l.length≤32) && l.all ok2 && ql (ids l)
def qD (r:RootV):Bool:=decide (1≤r.ver∧r.ver≤1099511627776) && decide (0≤r.exp∧r.exp≤253402300799) && zq r.keys && px r.au
def cQ (r:RootV):List NJ:=[(zK,txtJ qo),(xz,txtJ (xR r.exp)),(zm,xk r.keys),(xb,qT r.au),(xq,qV r.ver)]
def zB (r:RootV):JV:=xr (cQ r)
def zH (v:JV):Auth3 × Int:=if v.kind≠5 then (bj,10) else bk v
def rtT (v:JV):PS:=if (qy v zK ⟨[],0⟩).1≠qo then (qy v zK ⟨[],0⟩).2.fail 13 else (qy v zK ⟨[],0⟩).2
def rtB (v:JV):Int × PS:=qB v xq 1 1099511627776 (rtT v)
def rtC (v:JV):ByteArray × PS:=qy v xz (rtB v).2
def rtR (v:JV):Int × Int:=xD (rtC v).1.data.toList
def rtK (v:JV):JV × PS:=qv v zm 32 ((rtC v).2.fail (rtR v).2)
def rtL (v:JV):List Key2 × Int:=zL (rtK v).1
def rtO (v:JV):JV × PS:=qv v xb 8192 ((rtK v).2.fail (rtL v).2)
def rtA (v:JV):Auth3 × Int:=zH (rtO v).1
def rtF (v:JV):PS:=(rtO v).2.fail (rtA v).2
def yD (v:JV):RootV × Int:=if qf v (rtF v)≠0 then (jV,qf v (rtF v)) else (⟨(rtB v).1,(rtR v).1,(rtL v).1,(rtA v).1⟩,0)
def zc (v:JV):RootV × Int:=if v.mayB=false then (jV,3) else if v.kind≠5 then (jV,10) else yD v
theorem zZ:ql [zK,xz,zm,xb,xq]=true∧(qe zK=true∧qe xz=true∧qe zm=true∧qe xb=true∧qe xq=true)∧(zK≠xz∧zK≠zm∧zK≠xb∧zK≠xq∧xz≠zm∧xz≠xb∧xz≠xq∧zm≠xb∧zm≠xq∧xb≠xq):=by
 refine ⟨by kernel_rfl,⟨?_,?_,?_,?_,?_⟩,by decide⟩
 all_goals
  refine zx ?_ (by decide)
  intro c hc
  unfold zR
  revert c
  decide
theorem zV {l:List Key2}:zq l=true↔l.length≤32∧(∀k ∈ l,ok2 k=true)∧ql (ids l)=true:=by
 unfold zq
 simp only [Bool.and_eq_true,decide_eq_true_eq,List.all_eq_true]
 exact ⟨fun h=>⟨h.1.1,h.1.2,h.2⟩,fun h=>⟨⟨h.1,h.2.1⟩,h.2.2⟩⟩
theorem xV {r:RootV}:qD r=true↔(1≤r.ver∧r.ver≤1099511627776)∧(0≤r.exp∧r.exp≤253402300799)∧zq r.keys=true∧px r.au=true:=by
 unfold qD
 simp only [Bool.and_eq_true,decide_eq_true_eq]
 exact ⟨fun h=>⟨h.1.1.1,h.1.1.2,h.1.2,h.2⟩,fun h=>⟨⟨⟨h.1,h.2.1⟩,h.2.2.1⟩,h.2.2.2⟩⟩
theorem nP {l:List Key2} (h:zq l=true):(xk l).partB=true∧(xk l).count≤130∧(xk l).depth≤3:=by
 obtain ⟨h1,h2,h3⟩:=zV.1 h
 refine ⟨ut (uo h2 h3 h1),?_,?_⟩
 · rw [JV.count_eq]
   have:=counts_le 3 (l.map obj2) fun x hx=>by obtain ⟨k,_,rfl⟩:=List.mem_map.1 hx;exact Nat.le_refl 3
   rw [List.length_map] at this
   show 1+JV.counts (l.map obj2)≤_
   omega
 · rw [JV.depth_eq]
   have:=kw 1 (l.map obj2) fun x hx=>by obtain ⟨k,_,rfl⟩:=List.mem_map.1 hx;exact Nat.le_refl 1
   rw [if_neg (by simp [xk,JV.kind])]
   show JV.depths (l.map obj2)+1≤_
   omega
theorem dV:qe qo=true:=xP.2.1.1
theorem rk {r:RootV} (h:qD r=true):∀p ∈ cQ r,qe p.1=true∧p.2.partB=true∧p.2.count≤130∧p.2.depth≤3:=fun p hp=>by
 obtain ⟨_,he,hk,ha⟩:=xV.1 h
 obtain ⟨r0,⟨n1,n2,n3,n4,n5⟩,-⟩:=zZ
 simp only [cQ,List.mem_cons,List.not_mem_nil,or_false] at hp
 have t1:=fc qo
 have t2:=fc (xR r.exp)
 have t3:=cf r.ver
 rcases hp with rfl|rfl|rfl|rfl|rfl
 · exact ⟨n1,wI dV,Nat.le_trans (Nat.le_of_eq t1.1) (by decide),Nat.le_trans (Nat.le_of_eq t1.2) (by decide)⟩
 · exact ⟨n2,wI (ug he).1,Nat.le_trans (Nat.le_of_eq t2.1) (by decide),Nat.le_trans (Nat.le_of_eq t2.2) (by decide)⟩
 · exact ⟨n3,nP hk⟩
 · exact ⟨n4,dK ha⟩
 · exact ⟨n5,pW _,Nat.le_trans (Nat.le_of_eq t3.1) (by decide),Nat.le_trans (Nat.le_of_eq t3.2) (by decide)⟩
theorem nF {N:List NJ} (hr:ql (N.map (·.1))=true) (hl:N.length≤6) (hp:∀p ∈ N,qe p.1=true∧p.2.partB=true∧p.2.count≤130∧p.2.depth≤3):(xr N).mayB=true:=by
 have h1:=wT ⟨hr,fun p h=>⟨(hp p h).1,(hp p h).2.1⟩⟩
 have h2:=vD 130 fun p h=>(hp p h).2.2.1
 have h3:=vL 3 fun p h=>(hp p h).2.2.2
 have h4:N.length * 130≤6 * 130:=Nat.mul_le_mul_right _ hl
 rw [JV.mayB_iff,h1,decide_eq_true (by omega),decide_eq_true (by omega)];rfl
theorem dW {r:RootV} (h:qD r=true):(zB r).mayB=true:=by
 exact nF zZ.1 (by show 5≤6;decide) (rk h)
theorem mY (r:RootV):(zB r).look zK=some (txtJ qo)∧(zB r).look xz=some (txtJ (xR r.exp))∧(zB r).look zm=some (xk r.keys)∧(zB r).look xb=some (qT r.au)∧(zB r).look xq=some (qV r.ver):=by
 obtain ⟨a1,a2,a3,a4,a5,a6,a7,a8,a9,a10⟩:=zZ.2.2
 have e:∀y,(zB r).look y=zw [zK,xz,zm,xb,xq] [txtJ qo,txtJ (xR r.exp),xk r.keys,qT r.au,qV r.ver] y:=fun _=>rfl
 refine ⟨?_,?_,?_,?_,?_⟩ <;> simp [e,zw,a1,a2,a3,a4,a5,a6,a7,a8,a9,a10]
theorem bw {v it:JV} {y:ByteArray} {most:Nat} {a:List ByteArray} (h:v.look y=some it) (hk:it.kind=5) (hl:it.items.length≤most):qv v y most ⟨a,0⟩=(it,⟨y :: a,0⟩):=by
 unfold qv
 rw [if_neg (by simp),h]
 show (if it.kind≠5 then _ else if most<it.items.length then _ else _:JV × PS)=_
 rw [if_neg (by simp [hk]),if_neg (by omega)]
theorem dY {r:RootV} (h:qD r=true):yD (zB r)=(r,0):=by
 obtain ⟨hv,he,hk,ha⟩:=xV.1 h
 obtain ⟨k1,k2,k3⟩:=zV.1 hk
 obtain ⟨l1,l2,l3,l4,l5⟩:=mY r
 have e0:rtT (zB r)=⟨[zK],0⟩:=by
  unfold rtT
  rw [yZ l1,if_neg (by simp)]
 have e1:rtB (zB r)=(r.ver,⟨[xq,zK],0⟩):=by unfold rtB;rw [e0];exact gP l5 hv.1 hv.2
 have e2:rtC (zB r)=(xR r.exp,⟨[xz,xq,zK],0⟩):=by unfold rtC;rw [e1];exact yZ l2
 have e3:rtR (zB r)=(r.exp,0):=by unfold rtR;rw [e2];exact (ug he).2
 have e4:rtK (zB r)=(xk r.keys,⟨[zm,xz,xq,zK],0⟩):=by
  unfold rtK
  rw [e2,e3]
  exact bw l3 rfl (by show (r.keys.map obj2).length≤32;rw [List.length_map];exact k1)
 have e5:rtL (zB r)=(r.keys,0):=by unfold rtL;rw [e4];exact da k2 k3 k1
 have e6:rtO (zB r)=(qT r.au,⟨[xb,zm,xz,xq,zK],0⟩):=by
  unfold rtO
  rw [e4,e5]
  exact bw l4 rfl (by show 3≤8192;decide)
 have e7:rtA (zB r)=(r.au,0):=by
  unfold rtA zH
  rw [e6]
  dsimp only
  rw [if_neg (by simp [qT,xr,JV.kind])]
  exact mW ha
 have e8:rtF (zB r)=⟨[xb,zm,xz,xq,zK],0⟩:=by unfold rtF;rw [e6,e7];rfl
 have e9:qf (zB r) ⟨[xb,zm,xz,xq,zK],0⟩=0:=by
  unfold qf
  rw [if_neg (by simp),if_pos]
  simp [zB,xr,JV.names,cQ]
 unfold yD
 rw [e8,e9,if_neg (by simp),e1,e3,e5,e7]
theorem rv {v:JV} (hm:v.mayB=true) (hk:v.kind=5):zc v=yD v:=by
 unfold zc
 rw [if_neg (by rw [hm];decide),if_neg (by simp [hk])]
theorem vS {x:Auth3}:px x=true↔qZ x.a=true∧qZ x.b=true∧qZ x.c=true:=by
 unfold px
 simp only [Bool.and_eq_true]
 exact ⟨fun h=>⟨h.1.1,h.1.2,h.2⟩,fun h=>⟨⟨h.1,h.2.1⟩,h.2.2⟩⟩
def qG (c:UInt8):ByteArray:=⟨(List.replicate 64 c).toArray⟩
def ry (c:UInt8):AuthV:=⟨1,[qG c]⟩
def exR:RootV:=⟨1,9,[],⟨ry 97,ry 98,ry 99⟩⟩
def jW:JV:=zB exR
def zP:JV:=.mk 4 0 ⟨#[]⟩ [] []
def yK:JV:=.mk 1 0 ⟨#[]⟩ [] []
def sR:ByteArray:=⟨#[116,105,109,101,115,116,97,109,112]⟩
def aP:ByteArray:=⟨#[82,111,111,116]⟩
def aF:ByteArray:=⟨#[57,57,57,57,45,49,50,45,51,49,84,50,51,58,53,57,58,53,57,90]⟩
def aH:ByteArray:=⟨#[115,112,101,99]⟩
def rxN:ByteArray:=⟨#[120]⟩
def raN:ByteArray:=⟨#[97]⟩
def zzN:ByteArray:=⟨#[48,48]⟩
def aJ:JV:=qd (ry 97)
def wX:JV:=xr [(qo,aJ),(zp,aJ)]
def ku:JV:=xr [(qo,aJ),(zp,aJ),(zO,aJ),(sR,aJ)]
def wJ:JV:=xr [(qo,aJ),(zp,zP),(zO,aJ)]
def qO:JV:=xr [(qo,aJ),(zp,qd ⟨2,[qG 97]⟩),(zO,zP)]
def km:List (Nat × Bool × ByteArray × JV × Int):=[
 (0,true,zK,txtJ aP,13),(0,true,zK,qV 1,10),(4,true,xq,qV 0,1),(4,true,xq,qV 1099511627777,1),(4,true,xq,qV 1099511627776,0),(1,true,xz,txtJ rxN,3),(1,true,xz,qV 1,10),(1,true,xz,txtJ aF,0),(2,true,zm,zP,10),
 (2,true,zm,xr [(raN,xQ rxN zzN)],3),(2,true,zm,xr [(raN,qV 1)],10),(3,true,xb,zP,10),(3,true,xb,wX,6),(3,true,xb,ku,11),(3,true,xb,wJ,10),(3,true,xb,qO,1),(4,false,aH,qV 1,11),(1,false,raN,yK,11)]
def uW (p:Nat × Bool × ByteArray × JV × Int):JV:=fI jW p.1 p.2.1 p.2.2.1 p.2.2.2.1
theorem wK:qD exR=true:=by decide +kernel
theorem rg:zc jW=(exR,0):=by
 rw [show jW=zB exR from rfl,rv (dW wK) rfl]
 exact dY wK
theorem mG:∀p ∈ km,(zc (uW p)).2=p.2.2.2.2:=by decide +kernel
theorem pM:∀p ∈ km,(uW p).wt≤4294967296∧p.2.2.2.1.wt≤2000000:=by decide +kernel
theorem wV:jW.wt≤2000000:=by decide +kernel
theorem kU:(zc qL).2=3∧(zc zP).2=10∧(zc (xr [])).2=6:=by decide +kernel
theorem bg:qD ⟨1,253402300800,[],exR.au⟩=false∧qD ⟨1,-1,[],exR.au⟩=false∧qD ⟨0,9,[],exR.au⟩=false∧qD jV=false:=by decide +kernel
theorem rf (N:List NJ):(xr N).wt=1+qm (N.map (·.1))+JV.wts (N.map (·.2)):=by
 show 1+(⟨#[]⟩:ByteArray).size+qm (N.map (·.1))+JV.wts (N.map (·.2))=_
 rfl
theorem uY (t:ByteArray):(txtJ t).wt=1+t.size:=by simp [txtJ,JV.wt,JV.wts,qm]
theorem ru (n:Int):(qV n).wt=1:=by simp [qV,JV.wt,JV.wts,qm,ByteArray.size]
theorem pC:∀l:List ByteArray,(∀x ∈ l,x.size=64)→JV.wts (l.map txtJ)=65 * l.length
 | [],_=>rfl
 | x :: r,h=>by
  have h1:=h x (List.mem_cons_self ..)
  have h2:=pC r fun y hy=>h y (List.mem_cons_of_mem _ hy)
  rw [List.map_cons,JV.wts,h2,uY,h1,List.length_cons];omega
theorem jO {a:AuthV} (h:qZ a=true):(qd a).wt≤2000:=by
 obtain ⟨hl,ht,hi⟩:=z7 h
 have hx:=jr _ _ hi
 have h1:=pC a.ids fun x hx'=>(k9 (hx x hx')).2
 rw [show qd a=xr (vQ a) from rfl,rf]
 have e1:qm ((vQ a).map (·.1))=17:=rfl
 have e2:(qF a.ids).wt=1+JV.wts (a.ids.map txtJ):=by
  show 1+(⟨#[]⟩:ByteArray).size+qm [] + JV.wts (a.ids.map txtJ)=_
  rfl
 have e3:JV.wts ((vQ a).map (·.2))=(qF a.ids).wt+((qV a.thr).wt+0):=rfl
 rw [e1,e3,e2,ru,h1]
 omega
theorem dG {x:Auth3} (h:px x=true):(qT x).wt≤7000:=by
 obtain ⟨h1,h2,h3⟩:=vS.1 h
 have w1:=jO h1
 have w2:=jO h2
 have w3:=jO h3
 rw [show qT x=xr (kh x) from rfl,rf]
 have e1:qm ((kh x).map (·.1))=22:=rfl
 have e3:JV.wts ((kh x).map (·.2))=(qd x.a).wt+((qd x.b).wt+((qd x.c).wt+0)):=rfl
 rw [e1,e3]
 omega
def xF (r:RootV) (role:ByteArray):AuthV × Bool:=if qo=role then (r.au.a,true) else if zp=role then (r.au.b,true) else if zO=role then (r.au.c,true) else (authZ,false)
theorem pj (r:RootV) {role:ByteArray} (h:role ∉ [qo,zp,zO]):xF r role=(authZ,false):=by
 simp only [List.mem_cons,List.not_mem_nil,or_false,not_or] at h
 unfold xF
 rw [if_neg (Ne.symm h.1),if_neg (Ne.symm h.2.1),if_neg (Ne.symm h.2.2)]
def jE (a b:RootV):Bool:=decide (a=b)
theorem bp (a b:RootV):jE a b=(decide (a.ver=b.ver) && decide (a.exp=b.exp) && decide (a.keys=b.keys) && decide (a.au.a=b.au.a) && decide (a.au.b=b.au.b) && decide (a.au.c=b.au.c)):=by
 obtain ⟨v1,e1,k1,x1,y1,z1⟩:=a
 obtain ⟨v2,e2,k2,x2,y2,z2⟩:=b
 unfold jE
 simp only [RootV.mk.injEq,Auth3.mk.injEq]
 by_cases h1:v1=v2 <;> by_cases h2:e1=e2 <;> by_cases h3:k1=k2 <;> by_cases h4:x1=x2 <;> by_cases h5:y1=y2 <;> by_cases h6:z1=z2 <;> simp [h1,h2,h3,h4,h5,h6]
theorem pk (a:RootV):jE a a=true:=by simp [jE]
structure RootIn (w:World) (lo hi:Nat) (r:RootV) (ka i1 i2 i3:Option Addr):Prop where
 keys:zY w lo hi ka r.keys
 a:qk w lo hi i1 r.au.a.ids
 b:qk w lo hi i2 r.au.b.ids
 c:qk w lo hi i3 r.au.c.ids
theorem RootIn.below {w w':World} {lo hi lo' hi' B:Nat} {r:RootV} {ka i1 i2 i3:Option Addr} (h:RootIn w lo hi r ka i1 i2 i3) (hb:Below B w w') (hB:hi≤B) (h1:lo'≤lo) (h2:hi≤hi'):RootIn w' lo' hi' r ka i1 i2 i3 :=
 ⟨h.keys.below hb hB h1 h2,h.a.below hb hB h1 h2,h.b.below hb hB h1 h2,h.c.below hb hB h1 h2⟩
theorem RootIn.carry {w w':World} {lo hi lo' hi':Nat} {r:RootV} {ka i1 i2 i3:Option Addr} (h:RootIn w lo hi r ka i1 i2 i3) (h1:lo'≤lo) (h2:hi≤hi') (hs:∀b,lo≤b→b<hi→w'.heap[b]?=w.heap[b]?):RootIn w' lo' hi' r ka i1 i2 i3 :=
 ⟨h.keys.carry h1 h2 hs,h.a.carry h1 h2 hs,h.b.carry h1 h2 hs,h.c.carry h1 h2 hs⟩
def j4 (a:AuthV):Prop:=(-9223372036854775808≤a.thr∧a.thr≤9223372036854775807)∧a.ids.length≤4294967296∧∀s ∈ a.ids,s.size≤4294967296
structure RootFits (r:RootV):Prop where
 ver:-9223372036854775808≤r.ver∧r.ver≤9223372036854775807
 exp:-9223372036854775808≤r.exp∧r.exp≤9223372036854775807
 len:r.keys.length≤40
 keys:∀k ∈ r.keys,k.1.size≤300∧k.2.size≤300
 a:j4 r.au.a
 b:j4 r.au.b
 c:j4 r.au.c
theorem xT {a:AuthV} (h:qZ a=true):j4 a:=by
 obtain ⟨h1,h2,h3⟩:=z7 h
 refine ⟨by omega,by omega,fun s hs=>?_⟩
 have:=(k9 (jr _ _ h3 s hs)).2
 omega
theorem jY:j4 authZ:=⟨by decide,by decide,fun s hs=>by cases hs⟩
theorem fe {r:RootV} (h:qD r=true):RootFits r:=by
 obtain ⟨hv,he,hk,ha⟩:=xV.1 h
 obtain ⟨k1,k2,k3⟩:=zV.1 hk
 obtain ⟨a1,a2,a3⟩:=vS.1 ha
 exact ⟨by omega,by omega,by omega,fun k hk'=>by have:=ue (k2 k hk');omega,xT a1,xT a2,xT a3⟩
def pD (l:List ByteArray) (w:World) (e:Ending) (w':World):Prop :=
 ∃ai ci,e=.returned (.agg #[.int .u8 4,.int .i64 0,.string ⟨#[]⟩,.slice none 0 0,.slice ai l.length ci])∧Rep w' w.heap.size w'.heap.size (qF l) (.agg #[.int .u8 4,.int .i64 0,.string ⟨#[]⟩,.slice none 0 0,.slice ai l.length ci])∧Below w.heap.size w w'
set_option maxHeartbeats 2000000 in
set_option maxRecDepth 100000 in
theorem nH (l:List ByteArray) (a:Option Addr) (c:Nat) (w:World) (hS:qk w 0 w.heap.size a l) (hl:l.length≤4294967296) :
 Calls Tryz.prog 114 #[.slice a l.length c] w (pD l w):=by
 obtain ⟨W,hW⟩:∃W,W=(w.alloc (.cells #[.int .u8 0,.int .i64 0,.string ⟨#[]⟩,.slice none 0 0,.slice none 0 0] 25)).alloc (.cells #[.int .u8 4,.int .i64 0,.string ⟨#[]⟩,.slice none 0 0,.slice none 0 0] 25):=⟨_,rfl⟩
 have hz1:(w.alloc (.cells #[.int .u8 0,.int .i64 0,.string ⟨#[]⟩,.slice none 0 0,.slice none 0 0] 25)).heap.size=w.heap.size+1:=by simp
 have hz2:W.heap.size=w.heap.size+2:=by rw [hW];simp
 have hb2:Below w.heap.size w W:=by rw [hW];exact ((Below.refl _ _).alloc lz _).alloc (by simp) _
 have hr0:W.rowIs w.heap.size 25 5 (qQ (.int .u8 0) (.int .i64 0) (.string ⟨#[]⟩) (.slice none 0 0) (.slice none 0 0)):=by rw [hW];exact (qh w (.int .u8 0) (.int .i64 0) (.string ⟨#[]⟩) (.slice none 0 0) (.slice none 0 0) 25).alloc _
 have hr1:W.rowIs (w.heap.size+1) 25 5 (qQ (.int .u8 4) (.int .i64 0) (.string ⟨#[]⟩) (.slice none 0 0) (.slice none 0 0)):=by
  have:=qh (w.alloc (.cells #[.int .u8 0,.int .i64 0,.string ⟨#[]⟩,.slice none 0 0,.slice none 0 0] 25)) (.int .u8 4) (.int .i64 0) (.string ⟨#[]⟩) (.slice none 0 0) (.slice none 0 0) 25
  rw [hz1,← hW] at this
  exact this
 have HS:=Lh hS
 have HW:=Lh hW
 have HB2:=Lh hb2
 have HR0:=Lh hr0
 have HR1:=Lh hr1
 have HZ2:=Lh hz2
 obtain ⟨nn,hnn⟩:∃nn,nn=l.length:=⟨_,rfl⟩
 have HNN:=Lh hnn
 rw [← hnn] at hl ⊢
 clear hS hW hb2 hr0 hr1 hz1 hz2 hnn
 obtain ⟨i0,hi0,hz0,hz1,hz2⟩:=info_parts xo
 go_enter Tryz.func114,Tryz.ntmps114
 go_upto_region 2 with fail
 rw [← HW.out]
 clear HW
 obtain ⟨cb,hcb⟩:∃cb,cb=w.heap.size+1:=⟨_,rfl⟩
 have HCB:=Lh hcb
 rw [← hcb] at HR1 ⊢
 have hltW:cb<W.heap.size:=by have:=HZ2.out;omega
 clear hcb
 go_wp2
 go_loopw [5,9] (fun _ i wr=>∃(k:Nat) (cs:List Value) (vi:Value),k≤nn∧i=.int .i64 k∧Touch (· = cb) W wr∧wr.rowIs cb 25 5 (qQ (.int .u8 4) (.int .i64 0) (.string ⟨#[]⟩) (.slice none 0 0) vi)∧wr.ownsRow W.heap.size 25 5 vi k cs∧qM wr W.heap.size (fun b=>b=cb∨vi.ownBlock=some b) ((l.take k).map txtJ) cs) (fun _ i _=>nn - (intOf i).toNat)
 case atStart=>exact ⟨0,[],.slice none 0 0,by omega,rfl,Touch.refl _ _,HR1.out,World.ownsRow_nil _ _ _ _,by simpa using qM.nil _ _ _⟩
 case round =>
  obtain ⟨k,cs,vi,hk,rfl,htch,hrow,hown,hrr⟩:=hrel
  by_cases hlt2:k<nn
  · have hlt':k<l.length:=by rw [← HNN.out];exact hlt2
    have HB:Hid (Below w.heap.size w wr):=HB2.out.trans (htch.below (by have:=HZ2.out;omega) fun j hj e=>by have:=HCB.out;omega)
    obtain ⟨b,off,rfl,_,hb,y0⟩:=(HS.out.below HB.out lz lz lz).at k hlt'
    have HTK:=Lh (show (l.take (k+1)).map txtJ=(l.take k).map txtJ ++ [txtJ l[k]] by rw [List.take_succ_eq_append_getElem hlt',List.map_append];rfl)
    have c4:wr.cell? ⟨cb,4,none⟩=some vi:=hrow.cell (by omega)
    have f4:wr.frozen? ⟨cb,4,none⟩=false:=hrow.frozen 4
    have hcz:cb<wr.heap.size:=hrow.lt
    have hwz:W.heap.size≤wr.heap.size:=htch.size
    have hnb:some cb≠vi.ownBlock:=fun e=>by have:=(hown.lt _ e.symm).1;omega
    have HRW:=Lh hrow
    have HTC:=Lh htch
    have HO:=Lh hown
    have HRR:=Lh hrr
    clear hrow htch hown hrr
    generalize l[k]=it at *
    have HCI:=Lh (show Calls Tryz.prog 65 #[.string it] wr.drew (fun e w3=>e=.returned (.agg #[.int .u8 3,.int .i64 0,.string it,.slice none 0 0,.slice none 0 0])∧Rep w3 (wr.heap.size+1) w3.heap.size (txtJ it) (.agg #[.int .u8 3,.int .i64 0,.string it,.slice none 0 0,.slice none 0 0])∧Below (wr.heap.size+1) ((wr.alloc (.cells #[.int .u8 3,.int .i64 0,.string it,.slice none 0 0,.slice none 0 0] 25)).drew) w3∧wr.heap.size<w3.heap.size∧w3.cell? ⟨cb,4,none⟩=some vi∧w3.frozen? ⟨cb,4,none⟩=false∧w3.ownsRow W.heap.size 25 5 vi k cs) by
     refine (vU it wr.drew).mono ?_
     rintro e w3 ⟨rfl,rfl⟩
     have hb4:Below wr.heap.size wr (wr.drew.alloc (.cells #[.int .u8 3,.int .i64 0,.string it,.slice none 0 0,.slice none 0 0] 25)):=(Below.refl _ _).drew.alloc lz _
     exact ⟨rfl,jX _ _ _ _,Below.refl _ _,by simp,by rw [hb4.cell hcz];exact c4,by rw [hb4.frozen hcz];exact f4,qJ HO.out hb4⟩)
    go_wp2_with fail
    go_region_law (first|(refine step_append_lies _ (by rfl) (.tmp 14) (.tmp 17) 23 (by rfl) W.heap.size 25 i0 _ 5 80 Tryz.underlying23 hi0 hz0 hz1 hz2 rfl (by omega) vi k cs (by rfl) (HO3.out.alloc _) ⟨w3.heap.size,0,none⟩ 1 1 (Array.toList #[.int .u8 3,.int .i64 0,.string it,.slice none 0 0,.slice none 0 0]) (by rfl) (by rfl) (World.news_of_block (cs:=#[.int .u8 3,.int .i64 0,.string it,.slice none 0 0,.slice none 0 0]) (t:=25) (fr:=(0,0)) (heap_alloc_new w3 _)) (by simp [Value.oneCell']) (by omega) (by unfold maxLen;omega) (by omega) (by simp;omega) (w3.heap.size+1) (by simp) ?_;intro g cap w4 hown4 hgrow4 hat4 hlt4;have c44:=qH hgrow4 hcz3 hnb c43;have f44:=qU hgrow4 hcz3 hnb f43;have HO4:=Lh hown4;have HG4:=Lh hgrow4;have HA4:=Lh hat4;clear hown4 hgrow4 hat4)|(go_simp;go_at_call 65;(with_reducible refine HCI.out.mono ?_);rintro e w3 ⟨rfl,hr3,hb3,hz3,c43,f43,ho3⟩;have hcz3:cb<w3.heap.size:=Nat.lt_trans hcz hz3;have HO3:=Lh ho3;have HR3:=Lh hr3;have HB3:=Lh hb3;clear ho3 hr3 hb3))
    all_goals
     have HST:=Lh (row_step (j:=4) (it:=txtJ it) (an:=none) (cn:=0) (ai:=none) (ci:=0) hltW HTC.out HRW.out HO.out HRR.out HB3.out HR3.out HG4.out HA4.out HO4.out)
     clear HTC HRW HO HRR HB3 HR3 HG4 HA4 HO4 HO3 HCI
     go_wp2
     go_roundw
     case rel =>
      obtain ⟨z1,z2,z3,z4⟩:=HST.out
      refine ⟨k+1,_,_,by omega,by go_num,z1,z2.congr fun i hi=>?_,z3,by rw [HTK.out];exact z4⟩
      rcases i with _|_|_|_|_|i <;> first|rfl|omega
     case measure=>simp [intOf];omega
  · obtain rfl:k=nn:=by omega
    have hni':(l.take k).map txtJ=l.map txtJ:=by rw [List.take_of_length_le (by rw [← HNN.out];exact Nat.le_refl _)]
    rw [hni'] at hrr
    have hml:(l.map txtJ).length=k:=by rw [List.length_map,← HNN.out]
    obtain ⟨a5,c5,rfl,hc5,hv5⟩:=xy hown hrr hml.symm
    rw [hml] at hc5 hrow
    have HV5:=Lh hv5
    have HC5:=Lh hc5
    have HML:=Lh hml
    have hres:=(htch.row HR0.out (by have:=HCB.out;omega))
    obtain ⟨r0,r1,r2,r3,r4⟩:=rc5 hrow
    obtain ⟨t0,t1,t2,t3,t4⟩:=rc5 hres
    obtain ⟨s0,s1,s2,s3,s4⟩:=rf5 hres
    simp only [qQ] at r0 r1 r2 r3 r4 t0 t1 t2 t3 t4
    have HT:=Lh htch
    have HRS:=Lh hres
    clear hrow hres hown hrr hv5 htch hni' hc5 hml
    go_wp2
    refine bodyPost_ret (results_cell_row Tryz.results114 _ _ w.heap.size 25 _ (0,0) _ rfl (qs (set5 _ _ _ _ _ HRS.out)) Tryz.underlying25 rfl (by kernel_rfl)) rfl ?_
    have hbw:Below w.heap.size w wr:=HB2.out.trans (HT.out.below (by have:=HZ2.out;omega) fun j hj e=>by have:=HCB.out;omega)
    refine ⟨a5,c5,by rw [← HNN.out],?_,zy _ _ _ _ _ hbw lz⟩
    rw [← HNN.out]
    have hrep:=Rep.mk (v:=qF l) (an:=none) (cn:=0) (ai:=a5) (ci:=c5) (w:=wr) (lo:=W.heap.size) (hi:=wr.heap.size) lz (by show (l.map txtJ).length≤c5;rw [HML.out];exact HC5.out) (.inl rfl) HV5.out
    have e5:(qF l).items.length=k:=HML.out
    rw [e5] at hrep
    exact Rep.carry (by have:=HZ2.out;omega) (show wr.heap.size≤_ by simp [World.setCell]) (fun j hj _=>jB _ _ _ _ _ (by have:=HZ2.out;omega)) _ _ hrep
def frR (f:Nat→Value):Act:=⟨#[f 0,f 1,f 2,f 3,f 4,f 5,f 6,f 7,f 8,f 9,f 10,f 11,f 12,f 13,f 14,f 15,f 16,f 17,f 18,f 19,f 20,f 21,f 22,f 23,f 24,f 25,f 26,f 27,f 28,f 29,f 30,f 31,f 32,f 33,f 34,f 35,f 36,f 37,f 38,f 39,f 40,f 41,f 42,f 43,f 44,f 45,f 46,f 47,f 48,f 49,f 50,f 51,f 52,f 53,f 54,f 55,f 56,f 57,f 58,f 59,f 60,f 61,f 62,f 63,f 64,f 65,f 66,f 67,f 68,f 69,f 70,f 71,f 72,f 73,f 74,f 75,f 76,f 77,f 78,f 79,f 80,f 81,f 82,f 83,f 84,f 85,f 86,f 87,f 88,f 89,f 90,f 91,f 92,f 93,f 94,f 95,f 96,f 97,f 98,f 99,f 100,f 101,f 102,f 103,f 104,f 105,f 106,f 107,f 108,f 109,f 110,f 111,f 112,f 113,f 114,f 115,f 116,f 117,f 118,f 119,f 120,f 121,f 122,f 123,f 124,f 125,f 126,f 127,f 128,f 129,f 130,f 131,f 132,f 133,f 134,f 135,f 136,f 137,f 138,f 139,f 140,f 141,f 142,f 143,f 144,f 145,f 146,f 147,f 148,f 149,f 150,f 151,f 152,f 153,f 154,f 155,f 156,f 157,f 158,f 159,f 160,f 161,f 162,f 163,f 164,f 165,f 166,f 167,f 168,f 169,f 170,f 171,f 172,f 173,f 174,f 175,f 176,f 177,f 178,f 179,f 180,f 181,f 182,f 183,f 184,f 185,f 186,f 187,f 188,f 189,f 190,f 191,f 192,f 193,f 194,f 195,f 196],[]⟩
def pL:List Nat:=[1,2,3,4,6,8,9,10,11]
def uG (p:Nat→Nat) (f:Nat→Value):Prop:=∀k ∈ pL,f k=.pointer (some ⟨p k,0,none⟩)
theorem uG.upd {p:Nat→Nat} {f:Nat→Value} (h:uG p f) (k:Nat) (hk:12≤k) (y:Value):uG p (upd f k y):=fun j hj=>by
 have:j≤11:=by
  revert hj
  unfold pL
  intro hj
  simp only [List.mem_cons,List.not_mem_nil,or_false] at hj
  omega
 rw [← h j hj]
 exact if_neg (by omega)
def kR:JV:=xQ rxN zzN
def jR (k:Nat):JV:=if k=1 then qV 1 else if k=2 then yK else if k=3 then zP else if k=4 then aJ else if k=6 then kR else if k=8 then wX else if k=9 then ku else if k=10 then wJ else qO
def dB (B:Nat) (w:World) (p:Nat→Nat) (c:Nat→V5):Prop:=∀k ∈ pL,w.heap[p k]?=some (.cells #[(c k).1,(c k).2.1,(c k).2.2.1,(c k).2.2.2.1,(c k).2.2.2.2] 25 (0,0))∧qK B (jR k) w (.agg #[(c k).1,(c k).2.1,(c k).2.2.1,(c k).2.2.2.1,(c k).2.2.2.2])
theorem dB.below {B:Nat} {w w':World} {p:Nat→Nat} {c:Nat→V5} (h:dB B w p c) (hb:Below w.heap.size w w'):dB B w' p c:=fun k hk=>⟨(hb.block _ (qz (h k hk).1)).trans (h k hk).1,(h k hk).2.mono hb⟩
def vX:List (ByteArray × JV × Int):=km.map fun p=>(p.2.2.1,p.2.2.2.1,p.2.2.2.2)
theorem rm (i:Nat) (h:i<18):∃p ∈ km,∃h':i<vX.length,vX[i]=(p.2.2.1,p.2.2.2.1,p.2.2.2.2):=by
 have h':i<km.length:=h
 exact ⟨km[i],List.getElem_mem h',by simpa [vX] using h',by simp [vX]⟩
set_option maxHeartbeats 16000000 in
set_option maxRecDepth 100000 in
theorem mB (B:Nat) (W:World) (p:Nat→Nat) (c:Nat→V5) (f:Nat→Value) (K:Act→World→Prop) (Q:Exit→Act→World→Prop) (hfix:uG p f) (hBW:B≤W.heap.size) (hX:dB B W p c)
 (hK:∀(f':Nat→Value) (w':World),uG p f'→Below W.heap.size W w'→wO B 48 vX w' (f' 118)→f' 119=.int .i64 18→f' 120=.int .i64 0→K (frR f') w') :
 Code.wp Tryz.prog (sF (sF (wq 9 (Tryz.f4.body.getD .skip)))) (Exit.then K Q) (frR f) W:=by
 conv=>arg 2;whnf
 have HF:=Lh hfix
 have HBW:=Lh hBW
 have HK:=Lh hK
 have HX:=Lh (show ∀w',Below W.heap.size W w'→dB B w' p c from fun w' h=>hX.below h)
 clear hfix hBW hK hX
 obtain ⟨V,hV⟩:∃V:List MP,V=[.rep B (txtJ ⟨#[82,111,111,116]⟩),.trip B ⟨#[95,116,121,112,101]⟩ (txtJ ⟨#[82,111,111,116]⟩) 13,.rep B ((qV 1)),.trip B ⟨#[95,116,121,112,101]⟩ ((qV 1)) 10,.rep B (qV 0),.trip B ⟨#[118,101,114,115,105,111,110]⟩ (qV 0) 1,.rep B (qV 1099511627777),.trip B ⟨#[118,101,114,115,105,111,110]⟩ (qV 1099511627777) 1,.rep B (qV 1099511627776),.trip B ⟨#[118,101,114,115,105,111,110]⟩ (qV 1099511627776) 0,.rep B (txtJ ⟨#[120]⟩),.trip B ⟨#[101,120,112,105,114,101,115]⟩ (txtJ ⟨#[120]⟩) 3,.rep B ((qV 1)),.trip B ⟨#[101,120,112,105,114,101,115]⟩ ((qV 1)) 10,.rep B (txtJ ⟨#[57,57,57,57,45,49,50,45,51,49,84,50,51,58,53,57,58,53,57,90]⟩),.trip B ⟨#[101,120,112,105,114,101,115]⟩ (txtJ ⟨#[57,57,57,57,45,49,50,45,51,49,84,50,51,58,53,57,58,53,57,90]⟩) 0,.rep B (zP),.trip B ⟨#[107,101,121,115]⟩ (zP) 10,.row B 1 9 (strs [⟨#[97]⟩]),.rep B (kR),.vals B 25 [kR],.rep B (.mk 5 0 ⟨#[]⟩ [⟨#[97]⟩] [kR]),.trip B ⟨#[107,101,121,115]⟩ (.mk 5 0 ⟨#[]⟩ [⟨#[97]⟩] [kR]) 3,.row B 1 9 (strs [⟨#[97]⟩]),.rep B ((qV 1)),.vals B 25 [(qV 1)],.rep B (.mk 5 0 ⟨#[]⟩ [⟨#[97]⟩] [(qV 1)]),.trip B ⟨#[107,101,121,115]⟩ (.mk 5 0 ⟨#[]⟩ [⟨#[97]⟩] [(qV 1)]) 10,.rep B (zP),.trip B ⟨#[114,111,108,101,115]⟩ (zP) 10,.rep B (wX),.trip B ⟨#[114,111,108,101,115]⟩ (wX) 6,.rep B (ku),.trip B ⟨#[114,111,108,101,115]⟩ (ku) 11,.rep B (wJ),.trip B ⟨#[114,111,108,101,115]⟩ (wJ) 10,.rep B (qO),.trip B ⟨#[114,111,108,101,115]⟩ (qO) 1,.rep B ((qV 1)),.trip B ⟨#[115,112,101,99]⟩ ((qV 1)) 11,.rep B (yK),.trip B ⟨#[97]⟩ (yK) 11,.tab B 48 vX,.con (.int .i64 18),.con (.int .i64 0)]:=⟨_,rfl⟩
 have HV:=Lh hV
 clear hV
 refine b8 (fun d a' w'=>∃f,a'=frR f∧uG p f∧vF W V 76 d w' f) (by kernel_rfl) 45 (by kernel_rfl) (by kernel_rfl) ?first ?step ?last
 case first=>exact ⟨f,rfl,HF.out,vF.first _ _ _ _⟩
 case step =>
  rintro d a' w' ⟨f,ha,hf,h⟩ q hq hn hw
  have HA:=Lh ha
  have hsz:=h.1.size
  have hB:B≤w'.heap.size:=Nat.le_trans HBW.out hsz
  clear ha
  rcases q with _|_|_|_|_|_|_|_|_|_|_|_|_|_|_|_|_|_|_|_|_|_|_|_|_|_|_|_|_|_|_|_|_|_|_|_|_|_|_|_|_|_|_|_|_|q'
  · refine wpOp_step rfl fun K hK=>?_
    go_simp
    refine (jJ ⟨#[82,111,111,116]⟩ w').mono ?_
    rintro e w2 ⟨rfl,hw2⟩
    have hb2:Below w'.heap.size w' w2:=by rw [hw2];exact (Below.refl _ _).alloc lz _
    exact hK _ _ ⟨upd f 76 _,by rw [HA.out];rfl,hf.upd 76 (by decide) _,h.did hb2 0 _ (.rep B (txtJ ⟨#[82,111,111,116]⟩)) (by rw [HV.out];rfl) (gD _ _ _)⟩
  · obtain ⟨c76_0,c76_1,c76_2,c76_3,c76_4,e76,hr76⟩:=qK.five (h.get 0 (hw _ rfl ⟨0,.data⟩ (by simp) rfl) (.rep B (txtJ ⟨#[82,111,111,116]⟩)) (by rw [HV.out];rfl))
    have t76:a'.tmps[76]?.getD undef=.agg #[c76_0,c76_1,c76_2,c76_3,c76_4]:=by rw [HA.out];exact e76
    clear e76
    refine wpOp_step rfl fun K hK=>?_
    go_simp
    exact hK _ _ ⟨upd f 77 _,by rw [HA.out];rfl,hf.upd 77 (by decide) _,h.same 1 _ (.trip B ⟨#[95,116,121,112,101]⟩ (txtJ ⟨#[82,111,111,116]⟩) 13) (by rw [HV.out];rfl) ⟨_,_,_,_,_,rfl,hr76⟩⟩
  · have t1:a'.tmps[1]?.getD undef=.pointer (some ⟨p 1,0,none⟩):=by rw [HA.out];exact hf 1 (by decide)
    obtain ⟨hx,hr⟩:=HX.out w' h.1 1 (by decide)
    obtain ⟨x0,x1,x2,x3,x4⟩:=bx5 hx
    refine wpOp_step rfl fun K hK=>?_
    go_simp
    exact hK _ _ ⟨upd f 78 _,by rw [HA.out];rfl,hf.upd 78 (by decide) _,h.same 2 _ (.rep B ((qV 1))) (by rw [HV.out];rfl) hr⟩
  · obtain ⟨c78_0,c78_1,c78_2,c78_3,c78_4,e78,hr78⟩:=qK.five (h.get 2 (hw _ rfl ⟨2,.data⟩ (by simp) rfl) (.rep B ((qV 1))) (by rw [HV.out];rfl))
    have t78:a'.tmps[78]?.getD undef=.agg #[c78_0,c78_1,c78_2,c78_3,c78_4]:=by rw [HA.out];exact e78
    clear e78
    refine wpOp_step rfl fun K hK=>?_
    go_simp
    exact hK _ _ ⟨upd f 79 _,by rw [HA.out];rfl,hf.upd 79 (by decide) _,h.same 3 _ (.trip B ⟨#[95,116,121,112,101]⟩ ((qV 1)) 10) (by rw [HV.out];rfl) ⟨_,_,_,_,_,rfl,hr78⟩⟩
  · refine wpOp_step rfl fun K hK=>?_
    go_simp
    exact hK _ _ ⟨upd f 80 _,by rw [HA.out];rfl,hf.upd 80 (by decide) _,h.same 4 _ (.rep B (qV 0)) (by rw [HV.out];rfl) (wQ _ _ _)⟩
  · obtain ⟨c80_0,c80_1,c80_2,c80_3,c80_4,e80,hr80⟩:=qK.five (h.get 4 (hw _ rfl ⟨4,.data⟩ (by simp) rfl) (.rep B (qV 0)) (by rw [HV.out];rfl))
    have t80:a'.tmps[80]?.getD undef=.agg #[c80_0,c80_1,c80_2,c80_3,c80_4]:=by rw [HA.out];exact e80
    clear e80
    refine wpOp_step rfl fun K hK=>?_
    go_simp
    exact hK _ _ ⟨upd f 81 _,by rw [HA.out];rfl,hf.upd 81 (by decide) _,h.same 5 _ (.trip B ⟨#[118,101,114,115,105,111,110]⟩ (qV 0) 1) (by rw [HV.out];rfl) ⟨_,_,_,_,_,rfl,hr80⟩⟩
  · refine wpOp_step rfl fun K hK=>?_
    go_simp
    exact hK _ _ ⟨upd f 82 _,by rw [HA.out];rfl,hf.upd 82 (by decide) _,h.same 6 _ (.rep B (qV 1099511627777)) (by rw [HV.out];rfl) (wQ _ _ _)⟩
  · obtain ⟨c82_0,c82_1,c82_2,c82_3,c82_4,e82,hr82⟩:=qK.five (h.get 6 (hw _ rfl ⟨6,.data⟩ (by simp) rfl) (.rep B (qV 1099511627777)) (by rw [HV.out];rfl))
    have t82:a'.tmps[82]?.getD undef=.agg #[c82_0,c82_1,c82_2,c82_3,c82_4]:=by rw [HA.out];exact e82
    clear e82
    refine wpOp_step rfl fun K hK=>?_
    go_simp
    exact hK _ _ ⟨upd f 83 _,by rw [HA.out];rfl,hf.upd 83 (by decide) _,h.same 7 _ (.trip B ⟨#[118,101,114,115,105,111,110]⟩ (qV 1099511627777) 1) (by rw [HV.out];rfl) ⟨_,_,_,_,_,rfl,hr82⟩⟩
  · refine wpOp_step rfl fun K hK=>?_
    go_simp
    exact hK _ _ ⟨upd f 84 _,by rw [HA.out];rfl,hf.upd 84 (by decide) _,h.same 8 _ (.rep B (qV 1099511627776)) (by rw [HV.out];rfl) (wQ _ _ _)⟩
  · obtain ⟨c84_0,c84_1,c84_2,c84_3,c84_4,e84,hr84⟩:=qK.five (h.get 8 (hw _ rfl ⟨8,.data⟩ (by simp) rfl) (.rep B (qV 1099511627776)) (by rw [HV.out];rfl))
    have t84:a'.tmps[84]?.getD undef=.agg #[c84_0,c84_1,c84_2,c84_3,c84_4]:=by rw [HA.out];exact e84
    clear e84
    refine wpOp_step rfl fun K hK=>?_
    go_simp
    exact hK _ _ ⟨upd f 85 _,by rw [HA.out];rfl,hf.upd 85 (by decide) _,h.same 9 _ (.trip B ⟨#[118,101,114,115,105,111,110]⟩ (qV 1099511627776) 0) (by rw [HV.out];rfl) ⟨_,_,_,_,_,rfl,hr84⟩⟩
  · refine wpOp_step rfl fun K hK=>?_
    go_simp
    refine (jJ ⟨#[120]⟩ w').mono ?_
    rintro e w2 ⟨rfl,hw2⟩
    have hb2:Below w'.heap.size w' w2:=by rw [hw2];exact (Below.refl _ _).alloc lz _
    exact hK _ _ ⟨upd f 86 _,by rw [HA.out];rfl,hf.upd 86 (by decide) _,h.did hb2 10 _ (.rep B (txtJ ⟨#[120]⟩)) (by rw [HV.out];rfl) (gD _ _ _)⟩
  · obtain ⟨c86_0,c86_1,c86_2,c86_3,c86_4,e86,hr86⟩:=qK.five (h.get 10 (hw _ rfl ⟨10,.data⟩ (by simp) rfl) (.rep B (txtJ ⟨#[120]⟩)) (by rw [HV.out];rfl))
    have t86:a'.tmps[86]?.getD undef=.agg #[c86_0,c86_1,c86_2,c86_3,c86_4]:=by rw [HA.out];exact e86
    clear e86
    refine wpOp_step rfl fun K hK=>?_
    go_simp
    exact hK _ _ ⟨upd f 87 _,by rw [HA.out];rfl,hf.upd 87 (by decide) _,h.same 11 _ (.trip B ⟨#[101,120,112,105,114,101,115]⟩ (txtJ ⟨#[120]⟩) 3) (by rw [HV.out];rfl) ⟨_,_,_,_,_,rfl,hr86⟩⟩
  · have t1:a'.tmps[1]?.getD undef=.pointer (some ⟨p 1,0,none⟩):=by rw [HA.out];exact hf 1 (by decide)
    obtain ⟨hx,hr⟩:=HX.out w' h.1 1 (by decide)
    obtain ⟨x0,x1,x2,x3,x4⟩:=bx5 hx
    refine wpOp_step rfl fun K hK=>?_
    go_simp
    exact hK _ _ ⟨upd f 88 _,by rw [HA.out];rfl,hf.upd 88 (by decide) _,h.same 12 _ (.rep B ((qV 1))) (by rw [HV.out];rfl) hr⟩
  · obtain ⟨c88_0,c88_1,c88_2,c88_3,c88_4,e88,hr88⟩:=qK.five (h.get 12 (hw _ rfl ⟨12,.data⟩ (by simp) rfl) (.rep B ((qV 1))) (by rw [HV.out];rfl))
    have t88:a'.tmps[88]?.getD undef=.agg #[c88_0,c88_1,c88_2,c88_3,c88_4]:=by rw [HA.out];exact e88
    clear e88
    refine wpOp_step rfl fun K hK=>?_
    go_simp
    exact hK _ _ ⟨upd f 89 _,by rw [HA.out];rfl,hf.upd 89 (by decide) _,h.same 13 _ (.trip B ⟨#[101,120,112,105,114,101,115]⟩ ((qV 1)) 10) (by rw [HV.out];rfl) ⟨_,_,_,_,_,rfl,hr88⟩⟩
  · refine wpOp_step rfl fun K hK=>?_
    go_simp
    refine (jJ ⟨#[57,57,57,57,45,49,50,45,51,49,84,50,51,58,53,57,58,53,57,90]⟩ w').mono ?_
    rintro e w2 ⟨rfl,hw2⟩
    have hb2:Below w'.heap.size w' w2:=by rw [hw2];exact (Below.refl _ _).alloc lz _
    exact hK _ _ ⟨upd f 90 _,by rw [HA.out];rfl,hf.upd 90 (by decide) _,h.did hb2 14 _ (.rep B (txtJ ⟨#[57,57,57,57,45,49,50,45,51,49,84,50,51,58,53,57,58,53,57,90]⟩)) (by rw [HV.out];rfl) (gD _ _ _)⟩
  · obtain ⟨c90_0,c90_1,c90_2,c90_3,c90_4,e90,hr90⟩:=qK.five (h.get 14 (hw _ rfl ⟨14,.data⟩ (by simp) rfl) (.rep B (txtJ ⟨#[57,57,57,57,45,49,50,45,51,49,84,50,51,58,53,57,58,53,57,90]⟩)) (by rw [HV.out];rfl))
    have t90:a'.tmps[90]?.getD undef=.agg #[c90_0,c90_1,c90_2,c90_3,c90_4]:=by rw [HA.out];exact e90
    clear e90
    refine wpOp_step rfl fun K hK=>?_
    go_simp
    exact hK _ _ ⟨upd f 91 _,by rw [HA.out];rfl,hf.upd 91 (by decide) _,h.same 15 _ (.trip B ⟨#[101,120,112,105,114,101,115]⟩ (txtJ ⟨#[57,57,57,57,45,49,50,45,51,49,84,50,51,58,53,57,58,53,57,90]⟩) 0) (by rw [HV.out];rfl) ⟨_,_,_,_,_,rfl,hr90⟩⟩
  · have t3:a'.tmps[3]?.getD undef=.pointer (some ⟨p 3,0,none⟩):=by rw [HA.out];exact hf 3 (by decide)
    obtain ⟨hx,hr⟩:=HX.out w' h.1 3 (by decide)
    obtain ⟨x0,x1,x2,x3,x4⟩:=bx5 hx
    refine wpOp_step rfl fun K hK=>?_
    go_simp
    exact hK _ _ ⟨upd f 92 _,by rw [HA.out];rfl,hf.upd 92 (by decide) _,h.same 16 _ (.rep B (zP)) (by rw [HV.out];rfl) hr⟩
  · obtain ⟨c92_0,c92_1,c92_2,c92_3,c92_4,e92,hr92⟩:=qK.five (h.get 16 (hw _ rfl ⟨16,.data⟩ (by simp) rfl) (.rep B (zP)) (by rw [HV.out];rfl))
    have t92:a'.tmps[92]?.getD undef=.agg #[c92_0,c92_1,c92_2,c92_3,c92_4]:=by rw [HA.out];exact e92
    clear e92
    refine wpOp_step rfl fun K hK=>?_
    go_simp
    exact hK _ _ ⟨upd f 93 _,by rw [HA.out];rfl,hf.upd 93 (by decide) _,h.same 17 _ (.trip B ⟨#[107,101,121,115]⟩ (zP) 10) (by rw [HV.out];rfl) ⟨_,_,_,_,_,rfl,hr92⟩⟩
  · refine wpOp_step rfl fun K hK=>?_
    go_simp
    exact hK _ _ ⟨upd f 94 _,by rw [HA.out];rfl,hf.upd 94 (by decide) _,h.new _ 18 _ (.row B 1 9 (strs [⟨#[97]⟩])) (by rw [HV.out];rfl) (jC.made _ hB)⟩
  · have t6:a'.tmps[6]?.getD undef=.pointer (some ⟨p 6,0,none⟩):=by rw [HA.out];exact hf 6 (by decide)
    obtain ⟨hx,hr⟩:=HX.out w' h.1 6 (by decide)
    obtain ⟨x0,x1,x2,x3,x4⟩:=bx5 hx
    refine wpOp_step rfl fun K hK=>?_
    go_simp
    exact hK _ _ ⟨upd f 95 _,by rw [HA.out];rfl,hf.upd 95 (by decide) _,h.same 19 _ (.rep B (kR)) (by rw [HV.out];rfl) hr⟩
  · obtain ⟨c95_0,c95_1,c95_2,c95_3,c95_4,e95,hr95⟩:=qK.five (h.get 19 (hw _ rfl ⟨19,.data⟩ (by simp) rfl) (.rep B (kR)) (by rw [HV.out];rfl))
    have t95:a'.tmps[95]?.getD undef=.agg #[c95_0,c95_1,c95_2,c95_3,c95_4]:=by rw [HA.out];exact e95
    clear e95
    have hbA:∀o,Below w'.heap.size w' (w'.alloc o):=fun o=>(Below.refl _ _).alloc lz o
    refine wpOp_step rfl fun K hK=>?_
    go_simp
    exact hK _ _ ⟨upd f 96 _,by rw [HA.out];rfl,hf.upd 96 (by decide) _,h.new _ 20 _ (.vals B 25 [kR]) (by rw [HV.out];rfl) ⟨_,_,rfl,hB,heap_alloc_new _ _,fun i hi=>match i,hi with|0,_=>⟨_,_,_,_,_,rfl,rfl,rfl,rfl,rfl,hr95.mono (hbA _)⟩⟩⟩
  · have ha:=h.get 18 (hw _ rfl ⟨18,.data⟩ (by simp) rfl) (.row B 1 9 (strs [⟨#[97]⟩])) (by rw [HV.out];rfl)
    obtain ⟨ba,kba,ea,ma⟩:=ha
    have ta:a'.tmps[94]?.getD undef=.slice (some ⟨ba,0,none⟩) 1 1:=by rw [HA.out];exact ea
    obtain ⟨bb,cb,eb,kbb,mb,rb⟩:=h.get 20 (hw _ rfl ⟨20,.data⟩ (by simp) rfl) (.vals B 25 [kR]) (by rw [HV.out];rfl)
    have tb:a'.tmps[96]?.getD undef=.slice (some ⟨bb,0,none⟩) 1 1:=by rw [HA.out];exact eb
    clear ea eb
    refine wpOp_step rfl fun K hK=>?_
    go_simp
    exact hK _ _ ⟨upd f 97 _,by rw [HA.out];rfl,hf.upd 97 (by decide) _,h.same 21 _ (.rep B (.mk 5 0 ⟨#[]⟩ [⟨#[97]⟩] [kR])) (by rw [HV.out];rfl) (mo (B:=B) [⟨#[97]⟩] [kR] ⟨ba,kba,rfl,ma⟩ ⟨bb,cb,rfl,kbb,mb,rb⟩)⟩
  · obtain ⟨c97_0,c97_1,c97_2,c97_3,c97_4,e97,hr97⟩:=qK.five (h.get 21 (hw _ rfl ⟨21,.data⟩ (by simp) rfl) (.rep B (.mk 5 0 ⟨#[]⟩ [⟨#[97]⟩] [kR])) (by rw [HV.out];rfl))
    have t97:a'.tmps[97]?.getD undef=.agg #[c97_0,c97_1,c97_2,c97_3,c97_4]:=by rw [HA.out];exact e97
    clear e97
    refine wpOp_step rfl fun K hK=>?_
    go_simp
    exact hK _ _ ⟨upd f 98 _,by rw [HA.out];rfl,hf.upd 98 (by decide) _,h.same 22 _ (.trip B ⟨#[107,101,121,115]⟩ (.mk 5 0 ⟨#[]⟩ [⟨#[97]⟩] [kR]) 3) (by rw [HV.out];rfl) ⟨_,_,_,_,_,rfl,hr97⟩⟩
  · refine wpOp_step rfl fun K hK=>?_
    go_simp
    exact hK _ _ ⟨upd f 99 _,by rw [HA.out];rfl,hf.upd 99 (by decide) _,h.new _ 23 _ (.row B 1 9 (strs [⟨#[97]⟩])) (by rw [HV.out];rfl) (jC.made _ hB)⟩
  · have t1:a'.tmps[1]?.getD undef=.pointer (some ⟨p 1,0,none⟩):=by rw [HA.out];exact hf 1 (by decide)
    obtain ⟨hx,hr⟩:=HX.out w' h.1 1 (by decide)
    obtain ⟨x0,x1,x2,x3,x4⟩:=bx5 hx
    refine wpOp_step rfl fun K hK=>?_
    go_simp
    exact hK _ _ ⟨upd f 100 _,by rw [HA.out];rfl,hf.upd 100 (by decide) _,h.same 24 _ (.rep B ((qV 1))) (by rw [HV.out];rfl) hr⟩
  · obtain ⟨c100_0,c100_1,c100_2,c100_3,c100_4,e100,hr100⟩:=qK.five (h.get 24 (hw _ rfl ⟨24,.data⟩ (by simp) rfl) (.rep B ((qV 1))) (by rw [HV.out];rfl))
    have t100:a'.tmps[100]?.getD undef=.agg #[c100_0,c100_1,c100_2,c100_3,c100_4]:=by rw [HA.out];exact e100
    clear e100
    have hbA:∀o,Below w'.heap.size w' (w'.alloc o):=fun o=>(Below.refl _ _).alloc lz o
    refine wpOp_step rfl fun K hK=>?_
    go_simp
    exact hK _ _ ⟨upd f 101 _,by rw [HA.out];rfl,hf.upd 101 (by decide) _,h.new _ 25 _ (.vals B 25 [(qV 1)]) (by rw [HV.out];rfl) ⟨_,_,rfl,hB,heap_alloc_new _ _,fun i hi=>match i,hi with|0,_=>⟨_,_,_,_,_,rfl,rfl,rfl,rfl,rfl,hr100.mono (hbA _)⟩⟩⟩
  · have ha:=h.get 23 (hw _ rfl ⟨23,.data⟩ (by simp) rfl) (.row B 1 9 (strs [⟨#[97]⟩])) (by rw [HV.out];rfl)
    obtain ⟨ba,kba,ea,ma⟩:=ha
    have ta:a'.tmps[99]?.getD undef=.slice (some ⟨ba,0,none⟩) 1 1:=by rw [HA.out];exact ea
    obtain ⟨bb,cb,eb,kbb,mb,rb⟩:=h.get 25 (hw _ rfl ⟨25,.data⟩ (by simp) rfl) (.vals B 25 [(qV 1)]) (by rw [HV.out];rfl)
    have tb:a'.tmps[101]?.getD undef=.slice (some ⟨bb,0,none⟩) 1 1:=by rw [HA.out];exact eb
    clear ea eb
    refine wpOp_step rfl fun K hK=>?_
    go_simp
    exact hK _ _ ⟨upd f 102 _,by rw [HA.out];rfl,hf.upd 102 (by decide) _,h.same 26 _ (.rep B (.mk 5 0 ⟨#[]⟩ [⟨#[97]⟩] [(qV 1)])) (by rw [HV.out];rfl) (mo (B:=B) [⟨#[97]⟩] [(qV 1)] ⟨ba,kba,rfl,ma⟩ ⟨bb,cb,rfl,kbb,mb,rb⟩)⟩
  · obtain ⟨c102_0,c102_1,c102_2,c102_3,c102_4,e102,hr102⟩:=qK.five (h.get 26 (hw _ rfl ⟨26,.data⟩ (by simp) rfl) (.rep B (.mk 5 0 ⟨#[]⟩ [⟨#[97]⟩] [(qV 1)])) (by rw [HV.out];rfl))
    have t102:a'.tmps[102]?.getD undef=.agg #[c102_0,c102_1,c102_2,c102_3,c102_4]:=by rw [HA.out];exact e102
    clear e102
    refine wpOp_step rfl fun K hK=>?_
    go_simp
    exact hK _ _ ⟨upd f 103 _,by rw [HA.out];rfl,hf.upd 103 (by decide) _,h.same 27 _ (.trip B ⟨#[107,101,121,115]⟩ (.mk 5 0 ⟨#[]⟩ [⟨#[97]⟩] [(qV 1)]) 10) (by rw [HV.out];rfl) ⟨_,_,_,_,_,rfl,hr102⟩⟩
  · have t3:a'.tmps[3]?.getD undef=.pointer (some ⟨p 3,0,none⟩):=by rw [HA.out];exact hf 3 (by decide)
    obtain ⟨hx,hr⟩:=HX.out w' h.1 3 (by decide)
    obtain ⟨x0,x1,x2,x3,x4⟩:=bx5 hx
    refine wpOp_step rfl fun K hK=>?_
    go_simp
    exact hK _ _ ⟨upd f 104 _,by rw [HA.out];rfl,hf.upd 104 (by decide) _,h.same 28 _ (.rep B (zP)) (by rw [HV.out];rfl) hr⟩
  · obtain ⟨c104_0,c104_1,c104_2,c104_3,c104_4,e104,hr104⟩:=qK.five (h.get 28 (hw _ rfl ⟨28,.data⟩ (by simp) rfl) (.rep B (zP)) (by rw [HV.out];rfl))
    have t104:a'.tmps[104]?.getD undef=.agg #[c104_0,c104_1,c104_2,c104_3,c104_4]:=by rw [HA.out];exact e104
    clear e104
    refine wpOp_step rfl fun K hK=>?_
    go_simp
    exact hK _ _ ⟨upd f 105 _,by rw [HA.out];rfl,hf.upd 105 (by decide) _,h.same 29 _ (.trip B ⟨#[114,111,108,101,115]⟩ (zP) 10) (by rw [HV.out];rfl) ⟨_,_,_,_,_,rfl,hr104⟩⟩
  · have t8:a'.tmps[8]?.getD undef=.pointer (some ⟨p 8,0,none⟩):=by rw [HA.out];exact hf 8 (by decide)
    obtain ⟨hx,hr⟩:=HX.out w' h.1 8 (by decide)
    obtain ⟨x0,x1,x2,x3,x4⟩:=bx5 hx
    refine wpOp_step rfl fun K hK=>?_
    go_simp
    exact hK _ _ ⟨upd f 106 _,by rw [HA.out];rfl,hf.upd 106 (by decide) _,h.same 30 _ (.rep B (wX)) (by rw [HV.out];rfl) hr⟩
  · obtain ⟨c106_0,c106_1,c106_2,c106_3,c106_4,e106,hr106⟩:=qK.five (h.get 30 (hw _ rfl ⟨30,.data⟩ (by simp) rfl) (.rep B (wX)) (by rw [HV.out];rfl))
    have t106:a'.tmps[106]?.getD undef=.agg #[c106_0,c106_1,c106_2,c106_3,c106_4]:=by rw [HA.out];exact e106
    clear e106
    refine wpOp_step rfl fun K hK=>?_
    go_simp
    exact hK _ _ ⟨upd f 107 _,by rw [HA.out];rfl,hf.upd 107 (by decide) _,h.same 31 _ (.trip B ⟨#[114,111,108,101,115]⟩ (wX) 6) (by rw [HV.out];rfl) ⟨_,_,_,_,_,rfl,hr106⟩⟩
  · have t9:a'.tmps[9]?.getD undef=.pointer (some ⟨p 9,0,none⟩):=by rw [HA.out];exact hf 9 (by decide)
    obtain ⟨hx,hr⟩:=HX.out w' h.1 9 (by decide)
    obtain ⟨x0,x1,x2,x3,x4⟩:=bx5 hx
    refine wpOp_step rfl fun K hK=>?_
    go_simp
    exact hK _ _ ⟨upd f 108 _,by rw [HA.out];rfl,hf.upd 108 (by decide) _,h.same 32 _ (.rep B (ku)) (by rw [HV.out];rfl) hr⟩
  · obtain ⟨c108_0,c108_1,c108_2,c108_3,c108_4,e108,hr108⟩:=qK.five (h.get 32 (hw _ rfl ⟨32,.data⟩ (by simp) rfl) (.rep B (ku)) (by rw [HV.out];rfl))
    have t108:a'.tmps[108]?.getD undef=.agg #[c108_0,c108_1,c108_2,c108_3,c108_4]:=by rw [HA.out];exact e108
    clear e108
    refine wpOp_step rfl fun K hK=>?_
    go_simp
    exact hK _ _ ⟨upd f 109 _,by rw [HA.out];rfl,hf.upd 109 (by decide) _,h.same 33 _ (.trip B ⟨#[114,111,108,101,115]⟩ (ku) 11) (by rw [HV.out];rfl) ⟨_,_,_,_,_,rfl,hr108⟩⟩
  · have t10:a'.tmps[10]?.getD undef=.pointer (some ⟨p 10,0,none⟩):=by rw [HA.out];exact hf 10 (by decide)
    obtain ⟨hx,hr⟩:=HX.out w' h.1 10 (by decide)
    obtain ⟨x0,x1,x2,x3,x4⟩:=bx5 hx
    refine wpOp_step rfl fun K hK=>?_
    go_simp
    exact hK _ _ ⟨upd f 110 _,by rw [HA.out];rfl,hf.upd 110 (by decide) _,h.same 34 _ (.rep B (wJ)) (by rw [HV.out];rfl) hr⟩
  · obtain ⟨c110_0,c110_1,c110_2,c110_3,c110_4,e110,hr110⟩:=qK.five (h.get 34 (hw _ rfl ⟨34,.data⟩ (by simp) rfl) (.rep B (wJ)) (by rw [HV.out];rfl))
    have t110:a'.tmps[110]?.getD undef=.agg #[c110_0,c110_1,c110_2,c110_3,c110_4]:=by rw [HA.out];exact e110
    clear e110
    refine wpOp_step rfl fun K hK=>?_
    go_simp
    exact hK _ _ ⟨upd f 111 _,by rw [HA.out];rfl,hf.upd 111 (by decide) _,h.same 35 _ (.trip B ⟨#[114,111,108,101,115]⟩ (wJ) 10) (by rw [HV.out];rfl) ⟨_,_,_,_,_,rfl,hr110⟩⟩
  · have t11:a'.tmps[11]?.getD undef=.pointer (some ⟨p 11,0,none⟩):=by rw [HA.out];exact hf 11 (by decide)
    obtain ⟨hx,hr⟩:=HX.out w' h.1 11 (by decide)
    obtain ⟨x0,x1,x2,x3,x4⟩:=bx5 hx
    refine wpOp_step rfl fun K hK=>?_
    go_simp
    exact hK _ _ ⟨upd f 112 _,by rw [HA.out];rfl,hf.upd 112 (by decide) _,h.same 36 _ (.rep B (qO)) (by rw [HV.out];rfl) hr⟩
  · obtain ⟨c112_0,c112_1,c112_2,c112_3,c112_4,e112,hr112⟩:=qK.five (h.get 36 (hw _ rfl ⟨36,.data⟩ (by simp) rfl) (.rep B (qO)) (by rw [HV.out];rfl))
    have t112:a'.tmps[112]?.getD undef=.agg #[c112_0,c112_1,c112_2,c112_3,c112_4]:=by rw [HA.out];exact e112
    clear e112
    refine wpOp_step rfl fun K hK=>?_
    go_simp
    exact hK _ _ ⟨upd f 113 _,by rw [HA.out];rfl,hf.upd 113 (by decide) _,h.same 37 _ (.trip B ⟨#[114,111,108,101,115]⟩ (qO) 1) (by rw [HV.out];rfl) ⟨_,_,_,_,_,rfl,hr112⟩⟩
  · have t1:a'.tmps[1]?.getD undef=.pointer (some ⟨p 1,0,none⟩):=by rw [HA.out];exact hf 1 (by decide)
    obtain ⟨hx,hr⟩:=HX.out w' h.1 1 (by decide)
    obtain ⟨x0,x1,x2,x3,x4⟩:=bx5 hx
    refine wpOp_step rfl fun K hK=>?_
    go_simp
    exact hK _ _ ⟨upd f 114 _,by rw [HA.out];rfl,hf.upd 114 (by decide) _,h.same 38 _ (.rep B ((qV 1))) (by rw [HV.out];rfl) hr⟩
  · obtain ⟨c114_0,c114_1,c114_2,c114_3,c114_4,e114,hr114⟩:=qK.five (h.get 38 (hw _ rfl ⟨38,.data⟩ (by simp) rfl) (.rep B ((qV 1))) (by rw [HV.out];rfl))
    have t114:a'.tmps[114]?.getD undef=.agg #[c114_0,c114_1,c114_2,c114_3,c114_4]:=by rw [HA.out];exact e114
    clear e114
    refine wpOp_step rfl fun K hK=>?_
    go_simp
    exact hK _ _ ⟨upd f 115 _,by rw [HA.out];rfl,hf.upd 115 (by decide) _,h.same 39 _ (.trip B ⟨#[115,112,101,99]⟩ ((qV 1)) 11) (by rw [HV.out];rfl) ⟨_,_,_,_,_,rfl,hr114⟩⟩
  · have t2:a'.tmps[2]?.getD undef=.pointer (some ⟨p 2,0,none⟩):=by rw [HA.out];exact hf 2 (by decide)
    obtain ⟨hx,hr⟩:=HX.out w' h.1 2 (by decide)
    obtain ⟨x0,x1,x2,x3,x4⟩:=bx5 hx
    refine wpOp_step rfl fun K hK=>?_
    go_simp
    exact hK _ _ ⟨upd f 116 _,by rw [HA.out];rfl,hf.upd 116 (by decide) _,h.same 40 _ (.rep B (yK)) (by rw [HV.out];rfl) hr⟩
  · obtain ⟨c116_0,c116_1,c116_2,c116_3,c116_4,e116,hr116⟩:=qK.five (h.get 40 (hw _ rfl ⟨40,.data⟩ (by simp) rfl) (.rep B (yK)) (by rw [HV.out];rfl))
    have t116:a'.tmps[116]?.getD undef=.agg #[c116_0,c116_1,c116_2,c116_3,c116_4]:=by rw [HA.out];exact e116
    clear e116
    refine wpOp_step rfl fun K hK=>?_
    go_simp
    exact hK _ _ ⟨upd f 117 _,by rw [HA.out];rfl,hf.upd 117 (by decide) _,h.same 41 _ (.trip B ⟨#[97]⟩ (yK) 11) (by rw [HV.out];rfl) ⟨_,_,_,_,_,rfl,hr116⟩⟩
  · obtain ⟨c77_0,c77_1,c77_2,c77_3,c77_4,e77,hr77⟩:=h.get 1 (hw _ rfl ⟨1,.data⟩ (by simp) rfl) (.trip B ⟨#[95,116,121,112,101]⟩ (txtJ ⟨#[82,111,111,116]⟩) 13) (by rw [HV.out];rfl)
    have t77:a'.tmps[77]?.getD undef=.agg #[.string ⟨#[95,116,121,112,101]⟩,c77_0,c77_1,c77_2,c77_3,c77_4,.int .i64 13]:=by rw [HA.out];exact e77
    clear e77
    obtain ⟨c79_0,c79_1,c79_2,c79_3,c79_4,e79,hr79⟩:=h.get 3 (hw _ rfl ⟨3,.data⟩ (by simp) rfl) (.trip B ⟨#[95,116,121,112,101]⟩ ((qV 1)) 10) (by rw [HV.out];rfl)
    have t79:a'.tmps[79]?.getD undef=.agg #[.string ⟨#[95,116,121,112,101]⟩,c79_0,c79_1,c79_2,c79_3,c79_4,.int .i64 10]:=by rw [HA.out];exact e79
    clear e79
    obtain ⟨c81_0,c81_1,c81_2,c81_3,c81_4,e81,hr81⟩:=h.get 5 (hw _ rfl ⟨5,.data⟩ (by simp) rfl) (.trip B ⟨#[118,101,114,115,105,111,110]⟩ (qV 0) 1) (by rw [HV.out];rfl)
    have t81:a'.tmps[81]?.getD undef=.agg #[.string ⟨#[118,101,114,115,105,111,110]⟩,c81_0,c81_1,c81_2,c81_3,c81_4,.int .i64 1]:=by rw [HA.out];exact e81
    clear e81
    obtain ⟨c83_0,c83_1,c83_2,c83_3,c83_4,e83,hr83⟩:=h.get 7 (hw _ rfl ⟨7,.data⟩ (by simp) rfl) (.trip B ⟨#[118,101,114,115,105,111,110]⟩ (qV 1099511627777) 1) (by rw [HV.out];rfl)
    have t83:a'.tmps[83]?.getD undef=.agg #[.string ⟨#[118,101,114,115,105,111,110]⟩,c83_0,c83_1,c83_2,c83_3,c83_4,.int .i64 1]:=by rw [HA.out];exact e83
    clear e83
    obtain ⟨c85_0,c85_1,c85_2,c85_3,c85_4,e85,hr85⟩:=h.get 9 (hw _ rfl ⟨9,.data⟩ (by simp) rfl) (.trip B ⟨#[118,101,114,115,105,111,110]⟩ (qV 1099511627776) 0) (by rw [HV.out];rfl)
    have t85:a'.tmps[85]?.getD undef=.agg #[.string ⟨#[118,101,114,115,105,111,110]⟩,c85_0,c85_1,c85_2,c85_3,c85_4,.int .i64 0]:=by rw [HA.out];exact e85
    clear e85
    obtain ⟨c87_0,c87_1,c87_2,c87_3,c87_4,e87,hr87⟩:=h.get 11 (hw _ rfl ⟨11,.data⟩ (by simp) rfl) (.trip B ⟨#[101,120,112,105,114,101,115]⟩ (txtJ ⟨#[120]⟩) 3) (by rw [HV.out];rfl)
    have t87:a'.tmps[87]?.getD undef=.agg #[.string ⟨#[101,120,112,105,114,101,115]⟩,c87_0,c87_1,c87_2,c87_3,c87_4,.int .i64 3]:=by rw [HA.out];exact e87
    clear e87
    obtain ⟨c89_0,c89_1,c89_2,c89_3,c89_4,e89,hr89⟩:=h.get 13 (hw _ rfl ⟨13,.data⟩ (by simp) rfl) (.trip B ⟨#[101,120,112,105,114,101,115]⟩ ((qV 1)) 10) (by rw [HV.out];rfl)
    have t89:a'.tmps[89]?.getD undef=.agg #[.string ⟨#[101,120,112,105,114,101,115]⟩,c89_0,c89_1,c89_2,c89_3,c89_4,.int .i64 10]:=by rw [HA.out];exact e89
    clear e89
    obtain ⟨c91_0,c91_1,c91_2,c91_3,c91_4,e91,hr91⟩:=h.get 15 (hw _ rfl ⟨15,.data⟩ (by simp) rfl) (.trip B ⟨#[101,120,112,105,114,101,115]⟩ (txtJ ⟨#[57,57,57,57,45,49,50,45,51,49,84,50,51,58,53,57,58,53,57,90]⟩) 0) (by rw [HV.out];rfl)
    have t91:a'.tmps[91]?.getD undef=.agg #[.string ⟨#[101,120,112,105,114,101,115]⟩,c91_0,c91_1,c91_2,c91_3,c91_4,.int .i64 0]:=by rw [HA.out];exact e91
    clear e91
    obtain ⟨c93_0,c93_1,c93_2,c93_3,c93_4,e93,hr93⟩:=h.get 17 (hw _ rfl ⟨17,.data⟩ (by simp) rfl) (.trip B ⟨#[107,101,121,115]⟩ (zP) 10) (by rw [HV.out];rfl)
    have t93:a'.tmps[93]?.getD undef=.agg #[.string ⟨#[107,101,121,115]⟩,c93_0,c93_1,c93_2,c93_3,c93_4,.int .i64 10]:=by rw [HA.out];exact e93
    clear e93
    obtain ⟨c98_0,c98_1,c98_2,c98_3,c98_4,e98,hr98⟩:=h.get 22 (hw _ rfl ⟨22,.data⟩ (by simp) rfl) (.trip B ⟨#[107,101,121,115]⟩ (.mk 5 0 ⟨#[]⟩ [⟨#[97]⟩] [kR]) 3) (by rw [HV.out];rfl)
    have t98:a'.tmps[98]?.getD undef=.agg #[.string ⟨#[107,101,121,115]⟩,c98_0,c98_1,c98_2,c98_3,c98_4,.int .i64 3]:=by rw [HA.out];exact e98
    clear e98
    obtain ⟨c103_0,c103_1,c103_2,c103_3,c103_4,e103,hr103⟩:=h.get 27 (hw _ rfl ⟨27,.data⟩ (by simp) rfl) (.trip B ⟨#[107,101,121,115]⟩ (.mk 5 0 ⟨#[]⟩ [⟨#[97]⟩] [(qV 1)]) 10) (by rw [HV.out];rfl)
    have t103:a'.tmps[103]?.getD undef=.agg #[.string ⟨#[107,101,121,115]⟩,c103_0,c103_1,c103_2,c103_3,c103_4,.int .i64 10]:=by rw [HA.out];exact e103
    clear e103
    obtain ⟨c105_0,c105_1,c105_2,c105_3,c105_4,e105,hr105⟩:=h.get 29 (hw _ rfl ⟨29,.data⟩ (by simp) rfl) (.trip B ⟨#[114,111,108,101,115]⟩ (zP) 10) (by rw [HV.out];rfl)
    have t105:a'.tmps[105]?.getD undef=.agg #[.string ⟨#[114,111,108,101,115]⟩,c105_0,c105_1,c105_2,c105_3,c105_4,.int .i64 10]:=by rw [HA.out];exact e105
    clear e105
    obtain ⟨c107_0,c107_1,c107_2,c107_3,c107_4,e107,hr107⟩:=h.get 31 (hw _ rfl ⟨31,.data⟩ (by simp) rfl) (.trip B ⟨#[114,111,108,101,115]⟩ (wX) 6) (by rw [HV.out];rfl)
    have t107:a'.tmps[107]?.getD undef=.agg #[.string ⟨#[114,111,108,101,115]⟩,c107_0,c107_1,c107_2,c107_3,c107_4,.int .i64 6]:=by rw [HA.out];exact e107
    clear e107
    obtain ⟨c109_0,c109_1,c109_2,c109_3,c109_4,e109,hr109⟩:=h.get 33 (hw _ rfl ⟨33,.data⟩ (by simp) rfl) (.trip B ⟨#[114,111,108,101,115]⟩ (ku) 11) (by rw [HV.out];rfl)
    have t109:a'.tmps[109]?.getD undef=.agg #[.string ⟨#[114,111,108,101,115]⟩,c109_0,c109_1,c109_2,c109_3,c109_4,.int .i64 11]:=by rw [HA.out];exact e109
    clear e109
    obtain ⟨c111_0,c111_1,c111_2,c111_3,c111_4,e111,hr111⟩:=h.get 35 (hw _ rfl ⟨35,.data⟩ (by simp) rfl) (.trip B ⟨#[114,111,108,101,115]⟩ (wJ) 10) (by rw [HV.out];rfl)
    have t111:a'.tmps[111]?.getD undef=.agg #[.string ⟨#[114,111,108,101,115]⟩,c111_0,c111_1,c111_2,c111_3,c111_4,.int .i64 10]:=by rw [HA.out];exact e111
    clear e111
    obtain ⟨c113_0,c113_1,c113_2,c113_3,c113_4,e113,hr113⟩:=h.get 37 (hw _ rfl ⟨37,.data⟩ (by simp) rfl) (.trip B ⟨#[114,111,108,101,115]⟩ (qO) 1) (by rw [HV.out];rfl)
    have t113:a'.tmps[113]?.getD undef=.agg #[.string ⟨#[114,111,108,101,115]⟩,c113_0,c113_1,c113_2,c113_3,c113_4,.int .i64 1]:=by rw [HA.out];exact e113
    clear e113
    obtain ⟨c115_0,c115_1,c115_2,c115_3,c115_4,e115,hr115⟩:=h.get 39 (hw _ rfl ⟨39,.data⟩ (by simp) rfl) (.trip B ⟨#[115,112,101,99]⟩ ((qV 1)) 11) (by rw [HV.out];rfl)
    have t115:a'.tmps[115]?.getD undef=.agg #[.string ⟨#[115,112,101,99]⟩,c115_0,c115_1,c115_2,c115_3,c115_4,.int .i64 11]:=by rw [HA.out];exact e115
    clear e115
    obtain ⟨c117_0,c117_1,c117_2,c117_3,c117_4,e117,hr117⟩:=h.get 41 (hw _ rfl ⟨41,.data⟩ (by simp) rfl) (.trip B ⟨#[97]⟩ (yK) 11) (by rw [HV.out];rfl)
    have t117:a'.tmps[117]?.getD undef=.agg #[.string ⟨#[97]⟩,c117_0,c117_1,c117_2,c117_3,c117_4,.int .i64 11]:=by rw [HA.out];exact e117
    clear e117
    have hbA:∀o,Below w'.heap.size w' (w'.alloc o):=fun o=>(Below.refl _ _).alloc lz o
    refine wpOp_step rfl fun K hK=>?_
    go_simp
    exact hK _ _ ⟨upd f 118 _,by rw [HA.out];rfl,hf.upd 118 (by decide) _,h.new _ 42 _ (.tab B 48 vX) (by rw [HV.out];rfl) ⟨_,_,rfl,hB,heap_alloc_new _ _,fun i hi=>match i,hi with|0,_=>⟨rfl,⟨_,_,_,_,_,rfl,rfl,rfl,rfl,rfl,hr77.mono (hbA _)⟩,rfl⟩|1,_=>⟨rfl,⟨_,_,_,_,_,rfl,rfl,rfl,rfl,rfl,hr79.mono (hbA _)⟩,rfl⟩|2,_=>⟨rfl,⟨_,_,_,_,_,rfl,rfl,rfl,rfl,rfl,hr81.mono (hbA _)⟩,rfl⟩|3,_=>⟨rfl,⟨_,_,_,_,_,rfl,rfl,rfl,rfl,rfl,hr83.mono (hbA _)⟩,rfl⟩|4,_=>⟨rfl,⟨_,_,_,_,_,rfl,rfl,rfl,rfl,rfl,hr85.mono (hbA _)⟩,rfl⟩|5,_=>⟨rfl,⟨_,_,_,_,_,rfl,rfl,rfl,rfl,rfl,hr87.mono (hbA _)⟩,rfl⟩|6,_=>⟨rfl,⟨_,_,_,_,_,rfl,rfl,rfl,rfl,rfl,hr89.mono (hbA _)⟩,rfl⟩|7,_=>⟨rfl,⟨_,_,_,_,_,rfl,rfl,rfl,rfl,rfl,hr91.mono (hbA _)⟩,rfl⟩|8,_=>⟨rfl,⟨_,_,_,_,_,rfl,rfl,rfl,rfl,rfl,hr93.mono (hbA _)⟩,rfl⟩|9,_=>⟨rfl,⟨_,_,_,_,_,rfl,rfl,rfl,rfl,rfl,hr98.mono (hbA _)⟩,rfl⟩|10,_=>⟨rfl,⟨_,_,_,_,_,rfl,rfl,rfl,rfl,rfl,hr103.mono (hbA _)⟩,rfl⟩|11,_=>⟨rfl,⟨_,_,_,_,_,rfl,rfl,rfl,rfl,rfl,hr105.mono (hbA _)⟩,rfl⟩|12,_=>⟨rfl,⟨_,_,_,_,_,rfl,rfl,rfl,rfl,rfl,hr107.mono (hbA _)⟩,rfl⟩|13,_=>⟨rfl,⟨_,_,_,_,_,rfl,rfl,rfl,rfl,rfl,hr109.mono (hbA _)⟩,rfl⟩|14,_=>⟨rfl,⟨_,_,_,_,_,rfl,rfl,rfl,rfl,rfl,hr111.mono (hbA _)⟩,rfl⟩|15,_=>⟨rfl,⟨_,_,_,_,_,rfl,rfl,rfl,rfl,rfl,hr113.mono (hbA _)⟩,rfl⟩|16,_=>⟨rfl,⟨_,_,_,_,_,rfl,rfl,rfl,rfl,rfl,hr115.mono (hbA _)⟩,rfl⟩|17,_=>⟨rfl,⟨_,_,_,_,_,rfl,rfl,rfl,rfl,rfl,hr117.mono (hbA _)⟩,rfl⟩|n+18,hn18=>absurd (show n+18<18 from hn18) (by omega)⟩⟩
  · obtain ⟨b,cs,et,-⟩:=h.get 42 (hw _ rfl ⟨42,.data⟩ (by simp) rfl) (.tab B 48 vX) (by rw [HV.out];rfl)
    have t118:a'.tmps[118]?.getD undef=.slice (some ⟨b,0,none⟩) 18 18:=by rw [HA.out];exact et
    clear et
    refine wpOp_step rfl fun K hK=>?_
    go_simp
    exact hK _ _ ⟨upd f 119 _,by rw [HA.out];rfl,hf.upd 119 (by decide) _,h.same 43 _ (.con (.int .i64 18)) (by rw [HV.out];rfl) rfl⟩
  · refine wpOp_step rfl fun K hK=>?_
    go_simp
    exact hK _ _ ⟨upd f 120 _,by rw [HA.out];rfl,hf.upd 120 (by decide) _,h.same 44 _ (.con (.int .i64 0)) (by rw [HV.out];rfl) rfl⟩
  · omega
 case last =>
  rintro d a' w' hall ⟨f,rfl,hf,h⟩
  have ht:=h.get 42 (hall 42 (by omega)) (.tab B 48 vX) (by rw [HV.out];rfl)
  have e1:f 119=.int .i64 18:=h.get 43 (hall 43 (by omega)) (.con (.int .i64 18)) (by rw [HV.out];rfl)
  have e2:f 120=.int .i64 0:=h.get 44 (hall 44 (by omega)) (.con (.int .i64 0)) (by rw [HV.out];rfl)
  have hle:=h.1
  go_step
  go_step
  exact HK.out f w' hf hle ht e1 e2
def pR (v:JV) (w:World) (e:Ending) (w':World):Prop :=
 e=.returned (.tuple #[.agg #[.string (qN v).1.1,.string (qN v).1.2],.int .i64 (qN v).2])∧Below w.heap.size w w'
set_option maxHeartbeats 1000000 in
set_option maxRecDepth 100000 in
theorem keyOf (v:JV) (x:Value) (w:World) (lo hi:Nat) (hN:v.wt≤4294967296) (hhi:hi≤w.heap.size) (hR:Rep w lo hi v x) (hS:v.mayB=true→v.kind=5→∀k (h:k<v.items.length),fN lo v.items[k]) :
 Calls Tryz.prog 106 #[x] w (pR v w):=by
 obtain ⟨an,cn,ai,ci,hx,h1,h2,h3,h4⟩:=hR.parts
 have HR:=Lh hR
 have HS:=Lh hS
 clear h1 h2 h3 h4 hR hS
 subst hx
 have HB0:=Lh (show Below w.heap.size w ((w.alloc (.cells #[.int .u8 v.kind,.int .i64 v.n,.string v.t,.slice an v.names.length cn,.slice ai v.items.length ci] 25)).alloc (.cells #[.string ⟨#[]⟩,.string ⟨#[]⟩] 38)) from ((Below.refl _ _).alloc lz _).alloc (by simp) _)
 have HX0:=Lh (show ((w.alloc (.cells #[.int .u8 v.kind,.int .i64 v.n,.string v.t,.slice an v.names.length cn,.slice ai v.items.length ci] 25)).alloc (.cells #[.string ⟨#[]⟩,.string ⟨#[]⟩] 38)).heap[w.heap.size]?=some (.cells #[.int .u8 v.kind,.int .i64 v.n,.string v.t,.slice an v.names.length cn,.slice ai v.items.length ci] 25 (0,0)) by rw [Below.heap_alloc _ _ _ (by simp)];exact heap_alloc_new w _)
 have hr0:=jj (w.alloc (.cells #[.int .u8 v.kind,.int .i64 v.n,.string v.t,.slice an v.names.length cn,.slice ai v.items.length ci] 25)) (.string ⟨#[]⟩) (.string ⟨#[]⟩) 38
 rw [show (w.alloc (.cells #[.int .u8 v.kind,.int .i64 v.n,.string v.t,.slice an v.names.length cn,.slice ai v.items.length ci] 25)).heap.size=w.heap.size+1 by simp] at hr0
 have HR0:=Lh hr0
 clear hr0
 have HM:=Lh (kP v _ ((w.alloc (.cells #[.int .u8 v.kind,.int .i64 v.n,.string v.t,.slice an v.names.length cn,.slice ai v.items.length ci] 25)).alloc (.cells #[.string ⟨#[]⟩,.string ⟨#[]⟩] 38)) hN (HR.out.below HB0.out hhi (Nat.zero_le _) (by simp;omega)))
 cases hm:v.mayB
 · have HX:=Lh (show qN v=((⟨#[]⟩,⟨#[]⟩),3) by unfold qN;rw [if_pos hm])
   rw [hm] at HM
   clear hm
   go_enter Tryz.func106,Tryz.ntmps106
   go_wp2_with fail
   refine HM.out.mono ?_
   rintro e w1 ⟨rfl,hb1⟩
   have hres:=qx hb1 HR0.out (by simp)
   have HRS:=Lh hres
   have HB1:=Lh (HB0.out.trans (hb1.mono (by simp;omega)))
   have t0:=hres.cell (i:=0) (by decide);have t1:=hres.cell (i:=1) (by decide)
   have s0:=hres.frozen 0;have s1:=hres.frozen 1
   simp only [zA] at t0 t1
   clear hres hb1
   go_wp2
   refine bodyPost_ret (qj Tryz.results106 _ _ (w.heap.size+1) 38 _ (0,0) _ rfl (qC (set2 _ _ HRS.out)) Tryz.underlying38 rfl (by kernel_rfl) _ rfl) rfl ⟨?_,xi _ _ HB1.out (by omega)⟩
   rw [HX.out];rfl
 · rw [hm] at HM
   have HMB:=Lh hm
   clear hm
   by_cases hk:v.kind=5
   · obtain ⟨hri,hle,htx⟩:=cd HMB.out hk
     obtain ⟨st1,hst1⟩:∃r,r=qy v zE ⟨[],0⟩:=⟨_,rfl⟩
     obtain ⟨st2,hst2⟩:∃r,r=qy v schN st1.2:=⟨_,rfl⟩
     obtain ⟨dn,hdn⟩:∃r,r=qf v st2.2:=⟨_,rfl⟩
     have HX:=Lh (show qN v=if dn≠0 then ((⟨#[]⟩,⟨#[]⟩),dn) else if zl st2.1.data.toList st1.1.data.toList then ((st2.1,st1.1),0) else ((⟨#[]⟩,⟨#[]⟩),3) by
      unfold qN;rw [if_neg (by rw [HMB.out];simp),if_neg (by simp [hk]),hdn,hst2,hst1])
     obtain ⟨z1,z2⟩:=pG (y:=zE) (st:=⟨[],0⟩) hN
     obtain ⟨z3,z4⟩:=pG (y:=schN) (st:=st1.2) hN
     rw [← hst1] at z1 z2
     rw [← hst2] at z3 z4
     simp only [List.length_nil] at z2
     have HST1:=Lh hst1
     have HST2:=Lh hst2
     have HDN:=Lh hdn
     have HRI:=Lh hri
     have HLE:=Lh hle
     have HTX:=Lh htx
     have HK:=Lh hk
     clear hst1 hst2 hdn hri hle htx hk
     go_enter Tryz.func106,Tryz.ntmps106
     go_wp2_with fail
     refine HM.out.mono ?_
     clear HM
     rintro e w1 ⟨rfl,hb1⟩
     have hz1:w.heap.size+2≤w1.heap.size:=by have:=hb1.size;simp at this;omega
     have HB1:=Lh (HB0.out.trans (hb1.mono (by simp;omega)))
     have HR1:=Lh (qx hb1 HR0.out (by simp))
     have hx1:w1.heap[w.heap.size]?=some (.cells #[.int .u8 v.kind,.int .i64 v.n,.string v.t,.slice an v.names.length cn,.slice ai v.items.length ci] 25 (0,0)):=by rw [hb1.block _ (by simp;omega)];exact HX0.out
     have c0:w1.cell? ⟨w.heap.size,0,none⟩=some (.int .u8 v.kind):=qq hx1 rfl
     have c1:w1.cell? ⟨w.heap.size,1,none⟩=some (.int .i64 v.n):=qq hx1 rfl
     have c2:w1.cell? ⟨w.heap.size,2,none⟩=some (.string v.t):=qq hx1 rfl
     have c3:w1.cell? ⟨w.heap.size,3,none⟩=some (.slice an v.names.length cn):=qq hx1 rfl
     have c4:w1.cell? ⟨w.heap.size,4,none⟩=some (.slice ai v.items.length ci):=qq hx1 rfl
     have HOF:=Lh (ye v _ w1 lo hi hN (by omega) (HR.out.below HB1.out hhi lz lz) HK.out HRI.out HLE.out (HS.out HMB.out HK.out))
     clear hb1 hx1
     go_wp2_with fail
     refine HOF.out.mono ?_
     clear HOF c0 c1 c2 c3 c4 HR HS HX0 HB0 HR0
     rintro e w2 ⟨o,m,lo2,hi2,an2,ai2,cn2,ci2,rfl,hp2,ho2,hm2,hb2⟩
     have HT1:=Lh (wS o m lo2 hi2 v an2 ai2 cn2 ci2 zE ⟨[],0⟩ w2 hp2 (by decide) (by simp))
     have HR2:=Lh (qx hb2 HR1.out (by omega))
     have hz2:=hb2.size
     have HB2:=Lh (HB1.out.trans (hb2.mono (by omega)))
     clear hp2 hb2 HR1 HB1
     go_wp2_with fail
     refine HT1.out.mono ?_
     clear HT1
     rintro e w3 ⟨rfl,hp3,ht3⟩
     rw [← HST1.out] at hp3 ⊢
     have HT2:=Lh (wS o m lo2 hi2 v an2 ai2 cn2 ci2 schN st1.2 w3 hp3 (by decide) (by omega))
     have hz3:=ht3.size
     have HR3:=Lh (ht3.row HR2.out (by omega))
     have HB3:=Lh (HB2.out.trans (ht3.below (by omega) fun k hk e=>by omega))
     clear hp3 ht3 HR2 HB2
     go_wp2_with fail
     refine HT2.out.mono ?_
     clear HT2
     rintro e w4 ⟨rfl,hp4,ht4⟩
     rw [← HST2.out] at hp4 ⊢
     have hz4:=ht4.size
     have HR4:=Lh (ht4.row HR3.out (by omega))
     have HB4:=Lh (HB3.out.trans (ht4.below (by omega) fun k hk e=>by omega))
     have HDO:=Lh (pV o m lo2 hi2 v an2 ai2 cn2 ci2 st2.2 (w4.alloc (.cells #[.string st2.1,.string st1.1] 38)) (hp4.below ((Below.refl _ _).alloc lz _)) (fun i hi=>by
      have:=List.all_eq_true.1 HTX.out _ (List.getElem_mem hi)
      unfold qe at this;simp at this;omega))
     rw [← HDN.out] at HDO
     clear hp4 ht4 HR3 HB3
     go_wp2_with fail
     refine HDO.out.mono ?_
     clear HDO
     rintro e w5 ⟨rfl,rfl⟩
     have HR5:=Lh (HR4.out.alloc (.cells #[.string st2.1,.string st1.1] 38))
     have HB5:=Lh (HB4.out.alloc HB4.out.size (.cells #[.string st2.1,.string st1.1] 38))
     clear HR4 HB4
     by_cases hd:dn=0
     · rw [hd] at HX ⊢
       simp only [ne_eq,not_true_eq_false,if_false] at HX
       clear hd HDN
       have HKM:=Lh (mc st2.1 st1.1 (w4.alloc (.cells #[.string st2.1,.string st1.1] 38)) (by omega) (by omega))
       cases hko:zl st2.1.data.toList st1.1.data.toList
       · rw [hko] at HKM HX
         clear hko
         go_wp2_with fail
         refine HKM.out.mono ?_
         rintro e w6 ⟨rfl,hb6⟩
         have hres:=qx hb6 HR5.out (by simp;omega)
         have HRS:=Lh hres
         have HB6:=Lh (HB5.out.trans (hb6.mono (by simp;omega)))
         have t0:=hres.cell (i:=0) (by decide);have t1:=hres.cell (i:=1) (by decide)
         have s0:=hres.frozen 0;have s1:=hres.frozen 1
         simp only [zA] at t0 t1
         clear hres hb6
         go_wp2
         refine bodyPost_ret (qj Tryz.results106 _ _ (w.heap.size+1) 38 _ (0,0) _ rfl (qC (set2 _ _ HRS.out)) Tryz.underlying38 rfl (by kernel_rfl) _ rfl) rfl ⟨?_,xi _ _ HB6.out (by omega)⟩
         rw [HX.out];rfl
       · rw [hko] at HKM HX
         clear hko
         go_wp2_with fail
         refine HKM.out.mono ?_
         rintro e w6 ⟨rfl,hb6⟩
         have hres:=qx hb6 HR5.out (by simp;omega)
         have hx6:w6.heap[w4.heap.size]?=some (.cells #[.string st2.1,.string st1.1] 38 (0,0)):=by rw [hb6.block _ (by simp)];exact heap_alloc_new _ _
         have d0:w6.cell? ⟨w4.heap.size,0,none⟩=some (.string st2.1):=qq hx6 rfl
         have d1:w6.cell? ⟨w4.heap.size,1,none⟩=some (.string st1.1):=qq hx6 rfl
         have HRS:=Lh hres
         have HB6:=Lh (HB5.out.trans (hb6.mono (by simp;omega)))
         have t0:=hres.cell (i:=0) (by decide);have t1:=hres.cell (i:=1) (by decide)
         have s0:=hres.frozen 0;have s1:=hres.frozen 1
         simp only [zA] at t0 t1
         clear hres hb6 hx6
         go_wp2
         refine bodyPost_ret (qj Tryz.results106 _ _ (w.heap.size+1) 38 _ (0,0) _ rfl (qC (set2 _ _ HRS.out)) Tryz.underlying38 rfl (by kernel_rfl) _ rfl) rfl ⟨?_,xi _ _ HB6.out (by omega)⟩
         rw [HX.out];rfl
     · rw [if_pos hd] at HX
       have hd1:(dn == 0)=false:=by simpa using hd
       have hd2:(dn != 0)=true:=by simpa using hd
       have hres:=HR5.out
       have t0:=hres.cell (i:=0) (by decide);have t1:=hres.cell (i:=1) (by decide)
       have s0:=hres.frozen 0;have s1:=hres.frozen 1
       simp only [zA] at t0 t1
       clear hres hd HDN
       go_wp2
       refine bodyPost_ret (qj Tryz.results106 _ _ (w.heap.size+1) 38 _ (0,0) _ rfl (qC (set2 _ _ HR5.out)) Tryz.underlying38 rfl (by kernel_rfl) _ rfl) rfl ⟨?_,xi _ _ HB5.out (by omega)⟩
       rw [HX.out];rfl
   · have HX:=Lh (show qN v=((⟨#[]⟩,⟨#[]⟩),10) by unfold qN;rw [if_neg (by rw [HMB.out];simp),if_pos hk])
     have HK:=Lh hk
     clear hk
     go_enter Tryz.func106,Tryz.ntmps106
     go_wp2_with fail
     refine HM.out.mono ?_
     clear HM
     rintro e w1 ⟨rfl,hb1⟩
     have hz1:w.heap.size+2≤w1.heap.size:=by have:=hb1.size;simp at this;omega
     have HB1:=Lh (HB0.out.trans (hb1.mono (by simp;omega)))
     have HR1:=Lh (qx hb1 HR0.out (by simp))
     have hx1:w1.heap[w.heap.size]?=some (.cells #[.int .u8 v.kind,.int .i64 v.n,.string v.t,.slice an v.names.length cn,.slice ai v.items.length ci] 25 (0,0)):=by rw [hb1.block _ (by simp;omega)];exact HX0.out
     have c0:w1.cell? ⟨w.heap.size,0,none⟩=some (.int .u8 v.kind):=qq hx1 rfl
     have c1:w1.cell? ⟨w.heap.size,1,none⟩=some (.int .i64 v.n):=qq hx1 rfl
     have c2:w1.cell? ⟨w.heap.size,2,none⟩=some (.string v.t):=qq hx1 rfl
     have c3:w1.cell? ⟨w.heap.size,3,none⟩=some (.slice an v.names.length cn):=qq hx1 rfl
     have c4:w1.cell? ⟨w.heap.size,4,none⟩=some (.slice ai v.items.length ci):=qq hx1 rfl
     clear hb1 hx1
     go_wp2_with fail
     refine (gY v.kind v.n v.t _ _ w1 HK.out).mono ?_
     clear c0 c1 c2 c3 c4
     rintro e w2 ⟨o,rfl,ho1,ho2,hp2,hb2⟩
     have HP2:=Lh hp2
     have HR2:=Lh (qx hb2 HR1.out (by omega))
     have HB2:=Lh (HB1.out.trans (hb2.mono (by omega)))
     clear hp2 hb2
     go_wp2_with fail
     refine (fu o 10 _ w2 HP2.out).mono ?_
     rintro e w3 ⟨rfl,rfl⟩
     go_wp2_with fail
     refine (fu o 10 _ w2 HP2.out).mono ?_
     rintro e w3 ⟨rfl,rfl⟩
     have HP3:=Lh (HP2.out.below ((Below.refl _ _).alloc lz (.cells #[.string ⟨#[]⟩,.string ⟨#[]⟩] 38)) ho2)
     obtain ⟨p1,p2,kk,p3⟩:=HP3.out
     have HD:=Lh (fm o 10 kk _ p1 p2 p3)
     clear p1 p2 p3
     go_wp2_with fail
     refine HD.out.mono ?_
     rintro e w3 ⟨rfl,rfl⟩
     have hres:=HR2.out.alloc (.cells #[.string ⟨#[]⟩,.string ⟨#[]⟩] 38)
     have HRS:=Lh hres
     have HB3:=Lh (HB2.out.alloc HB2.out.size (.cells #[.string ⟨#[]⟩,.string ⟨#[]⟩] 38))
     have t0:=hres.cell (i:=0) (by decide);have t1:=hres.cell (i:=1) (by decide)
     have s0:=hres.frozen 0;have s1:=hres.frozen 1
     simp only [zA] at t0 t1
     clear hres
     go_wp2
     refine bodyPost_ret (qj Tryz.results106 _ _ (w.heap.size+1) 38 _ (0,0) _ rfl (qC (set2 _ _ HRS.out)) Tryz.underlying38 rfl (by kernel_rfl) _ rfl) rfl ⟨?_,xi _ _ HB3.out (by omega)⟩
     rw [HX.out];rfl
end Go.Proofs.YtnlgmcapbbgelaaGreatDoor
