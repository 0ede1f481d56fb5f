/- The contract of key.Of for any value that came in. -/
import Derived.Test.YtnlgmcapbbgelaaGreatDoorRt19

namespace Go.Proofs.YtnlgmcapbbgelaaGreatDoor
open Go.RowKit
structure RootV where
 ver:Int
 exp:Int
 keys:List Key2
 au:Auth3
deriving DecidableEq
def kC:RootV:=⟨0,0,[],pV⟩
def zF:ByteArray:=⟨#[107,101,121,115]⟩
def jK:ByteArray:=⟨#[114,111,108,101,115]⟩
def zx (l:List Key2):Bool:=decide (l.length≤32) && l.all ok2 && qr (ids l)
def zu (r:RootV):Bool:=decide (1≤r.ver∧r.ver≤1099511627776) && decide (0≤r.exp∧r.exp≤253402300799) && zx r.keys && fj r.au
def wX (r:RootV):List NJ:=[(xq,txtJ qV),(xI,txtJ (xU r.exp)),(zF,zD r.keys),(jK,qI r.au),(xT,xF r.ver)]
def zH (r:RootV):JV:=ky (wX r)
def xd (v:JV):Auth3 × Int:=if v.kind≠5 then (pV,10) else pW v
def rtT (v:JV):PS:=if (qy v xq ⟨[],0⟩).1≠qV then (qy v xq ⟨[],0⟩).2.fail 13 else (qy v xq ⟨[],0⟩).2
def rtB (v:JV):Int × PS:=qD v xT 1 1099511627776 (rtT v)
def rtC (v:JV):ByteArray × PS:=qy v xI (rtB v).2
def rtR (v:JV):Int × Int:=jD (rtC v).1.data.toList
def rtK (v:JV):JV × PS:=qw v zF 32 ((rtC v).2.fail (rtR v).2)
def rtL (v:JV):List Key2 × Int:=xZ (rtK v).1
def rtO (v:JV):JV × PS:=qw v jK 8192 ((rtK v).2.fail (rtL v).2)
def rtA (v:JV):Auth3 × Int:=xd (rtO v).1
def rtF (v:JV):PS:=(rtO v).2.fail (rtA v).2
def bj (v:JV):RootV × Int:=if qu v (rtF v)≠0 then (kC,qu v (rtF v)) else (⟨(rtB v).1,(rtR v).1,(rtL v).1,(rtA v).1⟩,0)
def xC (v:JV):RootV × Int:=if v.mayB=false then (kC,3) else if v.kind≠5 then (kC,10) else bj v
theorem xl:qr [xq,xI,zF,jK,xT]=true∧(qW xq=true∧qW xI=true∧qW zF=true∧qW jK=true∧qW xT=true)∧(xq≠xI∧xq≠zF∧xq≠jK∧xq≠xT∧xI≠zF∧xI≠jK∧xI≠xT∧zF≠jK∧zF≠xT∧jK≠xT):=by
 refine ⟨by kernel_rfl,⟨?_,?_,?_,?_,?_⟩,by decide⟩
 all_goals
  refine zn ?_ (by decide)
  intro c hc
  unfold xJ
  revert c
  decide
theorem zw {l:List Key2}:zx l=true↔l.length≤32∧(∀k ∈ l,ok2 k=true)∧qr (ids l)=true:=by
 unfold zx
 simp only [Bool.and_eq_true,decide_eq_true_eq,List.all_eq_true]
 exact ⟨fun h=>⟨h.1.1,h.1.2,h.2⟩,fun h=>⟨⟨h.1,h.2.1⟩,h.2.2⟩⟩
theorem xj {r:RootV}:zu r=true↔(1≤r.ver∧r.ver≤1099511627776)∧(0≤r.exp∧r.exp≤253402300799)∧zx r.keys=true∧fj r.au=true:=by
 unfold zu
 simp only [Bool.and_eq_true,decide_eq_true_eq]
 exact ⟨fun h=>⟨h.1.1.1,h.1.1.2,h.1.2,h.2⟩,fun h=>⟨⟨⟨h.1,h.2.1⟩,h.2.2.1⟩,h.2.2.2⟩⟩
theorem td {l:List Key2} (h:zx l=true):(zD l).partB=true∧(zD l).count≤130∧(zD l).depth≤3:=by
 obtain ⟨h1,h2,h3⟩:=zw.1 h
 refine ⟨cz (cx h2 h3 h1),?_,?_⟩
 · rw [JV.count_eq]
   have:=counts_le 3 (l.map obj2) fun x hx=>by obtain ⟨k,_,rfl⟩:=List.mem_map.1 hx;exact Nat.le_refl 3
   rw [List.length_map] at this
   show 1+JV.counts (l.map obj2)≤_
   omega
 · rw [JV.depth_eq]
   have:=vx 1 (l.map obj2) fun x hx=>by obtain ⟨k,_,rfl⟩:=List.mem_map.1 hx;exact Nat.le_refl 1
   rw [if_neg (by simp [zD,JV.kind])]
   show JV.depths (l.map obj2)+1≤_
   omega
theorem rC:qW qV=true:=jF.2.1.1
theorem sK {r:RootV} (h:zu r=true):∀p ∈ wX r,qW p.1=true∧p.2.partB=true∧p.2.count≤130∧p.2.depth≤3:=fun p hp=>by
 obtain ⟨_,he,hk,ha⟩:=xj.1 h
 obtain ⟨r0,⟨n1,n2,n3,n4,n5⟩,-⟩:=xl
 simp only [wX,List.mem_cons,List.not_mem_nil,or_false] at hp
 have t1:=uZ qV
 have t2:=uZ (xU r.exp)
 have t3:=la r.ver
 rcases hp with rfl|rfl|rfl|rfl|rfl
 · exact ⟨n1,yN rC,Nat.le_trans (Nat.le_of_eq t1.1) (by decide),Nat.le_trans (Nat.le_of_eq t1.2) (by decide)⟩
 · exact ⟨n2,yN (mS he).1,Nat.le_trans (Nat.le_of_eq t2.1) (by decide),Nat.le_trans (Nat.le_of_eq t2.2) (by decide)⟩
 · exact ⟨n3,td hk⟩
 · exact ⟨n4,rM ha⟩
 · exact ⟨n5,fP _,Nat.le_trans (Nat.le_of_eq t3.1) (by decide),Nat.le_trans (Nat.le_of_eq t3.2) (by decide)⟩
theorem tl {N:List NJ} (hr:qr (N.map (·.1))=true) (hl:N.length≤6) (hp:∀p ∈ N,qW p.1=true∧p.2.partB=true∧p.2.count≤130∧p.2.depth≤3):(ky N).mayB=true:=by
 have h1:=yR ⟨hr,fun p h=>⟨(hp p h).1,(hp p h).2.1⟩⟩
 have h2:=wD 130 fun p h=>(hp p h).2.2.1
 have h3:=wL 3 fun p h=>(hp p h).2.2.2
 have h4:N.length * 130≤6 * 130:=Nat.mul_le_mul_right _ hl
 rw [JV.mayB_iff,h1,decide_eq_true (by omega),decide_eq_true (by omega)];rfl
theorem rD {r:RootV} (h:zu r=true):(zH r).mayB=true:=by
 exact tl xl.1 (by show 5≤6;decide) (sK h)
theorem dV (r:RootV):(zH r).look xq=some (txtJ qV)∧(zH r).look xI=some (txtJ (xU r.exp))∧(zH r).look zF=some (zD r.keys)∧(zH r).look jK=some (qI r.au)∧(zH r).look xT=some (xF r.ver):=by
 obtain ⟨a1,a2,a3,a4,a5,a6,a7,a8,a9,a10⟩:=xl.2.2
 have e:∀y,(zH r).look y=zX [xq,xI,zF,jK,xT] [txtJ qV,txtJ (xU r.exp),zD r.keys,qI r.au,xF r.ver] y:=fun _=>rfl
 refine ⟨?_,?_,?_,?_,?_⟩ <;> simp [e,zX,a1,a2,a3,a4,a5,a6,a7,a8,a9,a10]
theorem pG {v it:JV} {y:ByteArray} {most:Nat} {a:List ByteArray} (h:v.look y=some it) (hk:it.kind=5) (hl:it.items.length≤most):qw v y most ⟨a,0⟩=(it,⟨y :: a,0⟩):=by
 unfold qw
 rw [if_neg (by simp),h]
 show (if it.kind≠5 then _ else if most<it.items.length then _ else _:JV × PS)=_
 rw [if_neg (by simp [hk]),if_neg (by omega)]
theorem rL {r:RootV} (h:zu r=true):bj (zH r)=(r,0):=by
 obtain ⟨hv,he,hk,ha⟩:=xj.1 h
 obtain ⟨k1,k2,k3⟩:=zw.1 hk
 obtain ⟨l1,l2,l3,l4,l5⟩:=dV r
 have e0:rtT (zH r)=⟨[xq],0⟩:=by
  unfold rtT
  rw [gQ l1,if_neg (by simp)]
 have e1:rtB (zH r)=(r.ver,⟨[xT,xq],0⟩):=by unfold rtB;rw [e0];exact pm l5 hv.1 hv.2
 have e2:rtC (zH r)=(xU r.exp,⟨[xI,xT,xq],0⟩):=by unfold rtC;rw [e1];exact gQ l2
 have e3:rtR (zH r)=(r.exp,0):=by unfold rtR;rw [e2];exact (mS he).2
 have e4:rtK (zH r)=(zD r.keys,⟨[zF,xI,xT,xq],0⟩):=by
  unfold rtK
  rw [e2,e3]
  exact pG l3 rfl (by show (r.keys.map obj2).length≤32;rw [List.length_map];exact k1)
 have e5:rtL (zH r)=(r.keys,0):=by unfold rtL;rw [e4];exact rW k2 k3 k1
 have e6:rtO (zH r)=(qI r.au,⟨[jK,zF,xI,xT,xq],0⟩):=by
  unfold rtO
  rw [e4,e5]
  exact pG l4 rfl (by show 3≤8192;decide)
 have e7:rtA (zH r)=(r.au,0):=by
  unfold rtA xd
  rw [e6]
  dsimp only
  rw [if_neg (by simp [qI,ky,JV.kind])]
  exact dK ha
 have e8:rtF (zH r)=⟨[jK,zF,xI,xT,xq],0⟩:=by unfold rtF;rw [e6,e7];rfl
 have e9:qu (zH r) ⟨[jK,zF,xI,xT,xq],0⟩=0:=by
  unfold qu
  rw [if_neg (by simp),if_pos]
  simp [zH,ky,JV.names,wX]
 unfold bj
 rw [e8,e9,if_neg (by simp),e1,e3,e5,e7]
theorem sV {v:JV} (hm:v.mayB=true) (hk:v.kind=5):xC v=bj v:=by
 unfold xC
 rw [if_neg (by rw [hm];decide),if_neg (by simp [hk])]
theorem vg {x:Auth3}:fj x=true↔qe x.a=true∧qe x.b=true∧qe x.c=true:=by
 unfold fj
 simp only [Bool.and_eq_true]
 exact ⟨fun h=>⟨h.1.1,h.1.2,h.2⟩,fun h=>⟨⟨h.1,h.2.1⟩,h.2.2⟩⟩
def zL (c:UInt8):ByteArray:=⟨(List.replicate 64 c).toArray⟩
def iH (c:UInt8):AuthV:=⟨1,[zL c]⟩
def exR:RootV:=⟨1,9,[],⟨iH 97,iH 98,iH 99⟩⟩
def wA:JV:=zH exR
def ot:ByteArray:=⟨#[116,105,109,101,115,116,97,109,112]⟩
theorem bk:zu exR=true:=by decide +kernel
theorem sW:xC wA=(exR,0):=by
 rw [show wA=zH exR from rfl,sV (rD bk) rfl]
 exact rL bk
theorem uG:wA.wt≤2000000:=by decide +kernel
theorem dW (N:List NJ):(ky N).wt=1+qt (N.map (·.1))+JV.wts (N.map (·.2)):=by
 show 1+(⟨#[]⟩:ByteArray).size+qt (N.map (·.1))+JV.wts (N.map (·.2))=_
 rfl
theorem ya (t:ByteArray):(txtJ t).wt=1+t.size:=by simp [txtJ,JV.wt,JV.wts,qt]
theorem ch (n:Int):(xF n).wt=1:=by simp [xF,JV.wt,JV.wts,qt,ByteArray.size]
theorem fN:∀l:List ByteArray,(∀x ∈ l,x.size=64)→JV.wts (l.map txtJ)=65 * l.length
 | [],_=>rfl
 | x :: r,h=>by
  have h1:=h x (List.mem_cons_self ..)
  have h2:=fN r fun y hy=>h y (List.mem_cons_of_mem _ hy)
  rw [List.map_cons,JV.wts,h2,ya,h1,List.length_cons];omega
theorem kD {a:AuthV} (h:qe a=true):(qZ a).wt≤2000:=by
 obtain ⟨hl,ht,hi⟩:=xz h
 have hx:=jJ _ _ hi
 have h1:=fN a.ids fun x hx'=>(kU (hx x hx')).2
 rw [show qZ a=ky (wQ a) from rfl,dW]
 have e1:qt ((wQ a).map (·.1))=17:=rfl
 have e2:(qC a.ids).wt=1+JV.wts (a.ids.map txtJ):=by
  show 1+(⟨#[]⟩:ByteArray).size+qt [] + JV.wts (a.ids.map txtJ)=_
  rfl
 have e3:JV.wts ((wQ a).map (·.2))=(qC a.ids).wt+((xF a.thr).wt+0):=rfl
 rw [e1,e3,e2,ch,h1]
 omega
theorem fS {x:Auth3} (h:fj x=true):(qI x).wt≤7000:=by
 obtain ⟨h1,h2,h3⟩:=vg.1 h
 have w1:=kD h1
 have w2:=kD h2
 have w3:=kD h3
 rw [show qI x=ky (vy x) from rfl,dW]
 have e1:qt ((vy x).map (·.1))=22:=rfl
 have e3:JV.wts ((vy x).map (·.2))=(qZ x.a).wt+((qZ x.b).wt+((qZ x.c).wt+0)):=rfl
 rw [e1,e3]
 omega
theorem rR {r:RootV} (h:zu r=true):∀p ∈ wX r,p.2.wt≤40000:=fun p hp=>by
 obtain ⟨_,he,hk,ha⟩:=xj.1 h
 obtain ⟨k1,k2,k3⟩:=zw.1 hk
 simp only [wX,List.mem_cons,List.not_mem_nil,or_false] at hp
 rcases hp with rfl|rfl|rfl|rfl|rfl
 · show (txtJ qV).wt≤40000
   rw [ya];decide
 · show (txtJ (xU r.exp)).wt≤40000
   have h1:=(wB r.exp.toNat (by omega)).1
   have:(xU r.exp).size=(jz r.exp.toNat).length:=by simp [xU,ByteArray.size]
   rw [ya];omega
 · have:=bq (m:=r.keys) fun k hk'=>pe (k2 k hk')
   show (zD r.keys).wt≤40000
   omega
 · have:=fS ha
   show (qI r.au).wt≤40000
   omega
 · show (xF r.ver).wt≤40000
   rw [ch];decide
theorem sG:∀(l:List JV) (b:Nat),(∀x ∈ l,x.wt≤b)→JV.wts l≤l.length * b
 | [],b,_=>by simp [JV.wts]
 | x :: r,b,h=>by
  have h1:=h x (List.mem_cons_self ..)
  have h2:=sG r b fun y hy=>h y (List.mem_cons_of_mem _ hy)
  rw [JV.wts,List.length_cons,Nat.succ_mul];omega
theorem sB {r:RootV} (h:zu r=true):(zH r).wt≤210000:=by
 rw [show zH r=ky (wX r) from rfl,dW]
 have e1:qt ((wX r).map (·.1))≤100:=by show qt [xq,xI,zF,jK,xT]≤100;decide
 have e2:=sG ((wX r).map (·.2)) 40000 fun x hx=>by obtain ⟨p,hp,rfl⟩:=List.mem_map.1 hx;exact rR h p hp
 have e3:((wX r).map (·.2)).length=5:=rfl
 rw [e3] at e2
 omega
def zP (r:RootV) (role:ByteArray):AuthV × Bool:=if qV=role then (r.au.a,true) else if zB=role then (r.au.b,true) else if xH=role then (r.au.c,true) else (zQ,false)
theorem fk (r:RootV) {role:ByteArray} (h:role ∉ [qV,zB,xH]):zP r role=(zQ,false):=by
 simp only [List.mem_cons,List.not_mem_nil,or_false,not_or] at h
 unfold zP
 rw [if_neg (Ne.symm h.1),if_neg (Ne.symm h.2.1),if_neg (Ne.symm h.2.2)]
def jm (a b:RootV):Bool:=decide (a=b)
theorem vV (a b:RootV):jm a b=(decide (a.ver=b.ver) && decide (a.exp=b.exp) && decide (a.keys=b.keys) && decide (a.au.a=b.au.a) && decide (a.au.b=b.au.b) && decide (a.au.c=b.au.c)):=by
 obtain ⟨v1,e1,k1,x1,y1,z1⟩:=a
 obtain ⟨v2,e2,k2,x2,y2,z2⟩:=b
 unfold jm
 simp only [RootV.mk.injEq,Auth3.mk.injEq]
 by_cases h1:v1=v2 <;> by_cases h2:e1=e2 <;> by_cases h3:k1=k2 <;> by_cases h4:x1=x2 <;> by_cases h5:y1=y2 <;> by_cases h6:z1=z2 <;> simp [h1,h2,h3,h4,h5,h6]
theorem wJ (a:RootV):jm a a=true:=by simp [jm]
structure RootIn (w:World) (lo hi:Nat) (r:RootV) (ka i1 i2 i3:Option Addr):Prop where
 keys:zo w lo hi ka r.keys
 a:qv w lo hi i1 r.au.a.ids
 b:qv w lo hi i2 r.au.b.ids
 c:qv w lo hi i3 r.au.c.ids
theorem RootIn.below {w w':World} {lo hi lo' hi' B:Nat} {r:RootV} {ka i1 i2 i3:Option Addr} (h:RootIn w lo hi r ka i1 i2 i3) (hb:Below B w w') (hB:hi≤B) (h1:lo'≤lo) (h2:hi≤hi'):RootIn w' lo' hi' r ka i1 i2 i3 :=
 ⟨h.keys.below hb hB h1 h2,h.a.below hb hB h1 h2,h.b.below hb hB h1 h2,h.c.below hb hB h1 h2⟩
theorem RootIn.carry {w w':World} {lo hi lo' hi':Nat} {r:RootV} {ka i1 i2 i3:Option Addr} (h:RootIn w lo hi r ka i1 i2 i3) (h1:lo'≤lo) (h2:hi≤hi') (hs:∀b,lo≤b→b<hi→w'.heap[b]?=w.heap[b]?):RootIn w' lo' hi' r ka i1 i2 i3 :=
 ⟨h.keys.carry h1 h2 hs,h.a.carry h1 h2 hs,h.b.carry h1 h2 hs,h.c.carry h1 h2 hs⟩
def kL (a:AuthV):Prop:=(-9223372036854775808≤a.thr∧a.thr≤9223372036854775807)∧a.ids.length≤4294967296∧∀s ∈ a.ids,s.size≤4294967296
structure RootFits (r:RootV):Prop where
 ver:-9223372036854775808≤r.ver∧r.ver≤9223372036854775807
 exp:-9223372036854775808≤r.exp∧r.exp≤9223372036854775807
 len:r.keys.length≤40
 keys:∀k ∈ r.keys,k.1.size≤300∧k.2.size≤300
 a:kL r.au.a
 b:kL r.au.b
 c:kL r.au.c
theorem jl {a:AuthV} (h:qe a=true):kL a:=by
 obtain ⟨h1,h2,h3⟩:=xz h
 refine ⟨by omega,by omega,fun s hs=>?_⟩
 have:=(kU (jJ _ _ h3 s hs)).2
 omega
theorem uB {r:RootV} (h:zu r=true):RootFits r:=by
 obtain ⟨hv,he,hk,ha⟩:=xj.1 h
 obtain ⟨k1,k2,k3⟩:=zw.1 hk
 obtain ⟨a1,a2,a3⟩:=vg.1 ha
 exact ⟨by omega,by omega,by omega,fun k hk'=>by have:=pe (k2 k hk');omega,jl a1,jl a2,jl a3⟩
def fA (l:List ByteArray) (w:World) (e:Ending) (w':World):Prop :=
 ∃ai ci,e=.returned (.agg #[.int .u8 4,.int .i64 0,.string ⟨#[]⟩,.slice none 0 0,.slice ai l.length ci])∧Rep w' w.heap.size w'.heap.size (qC l) (.agg #[.int .u8 4,.int .i64 0,.string ⟨#[]⟩,.slice none 0 0,.slice ai l.length ci])∧Below w.heap.size w w'
set_option maxHeartbeats 2000000 in
set_option maxRecDepth 100000 in
theorem tr (l:List ByteArray) (a:Option Addr) (c:Nat) (w:World) (hS:qv w 0 w.heap.size a l) (hl:l.length≤4294967296) :
 Calls Tryz.prog 114 #[.slice a l.length c] w (fA l w):=by
 obtain ⟨W,hW⟩:∃W,W=(w.alloc (.cells #[.int .u8 0,.int .i64 0,.string ⟨#[]⟩,.slice none 0 0,.slice none 0 0] 25)).alloc (.cells #[.int .u8 4,.int .i64 0,.string ⟨#[]⟩,.slice none 0 0,.slice none 0 0] 25):=⟨_,rfl⟩
 have hz1:(w.alloc (.cells #[.int .u8 0,.int .i64 0,.string ⟨#[]⟩,.slice none 0 0,.slice none 0 0] 25)).heap.size=w.heap.size+1:=by simp
 have hz2:W.heap.size=w.heap.size+2:=by rw [hW];simp
 have hb2:Below w.heap.size w W:=by rw [hW];exact ((Below.refl _ _).alloc lz _).alloc (by simp) _
 have hr0:W.rowIs w.heap.size 25 5 (qs (.int .u8 0) (.int .i64 0) (.string ⟨#[]⟩) (.slice none 0 0) (.slice none 0 0)):=by rw [hW];exact (qf w (.int .u8 0) (.int .i64 0) (.string ⟨#[]⟩) (.slice none 0 0) (.slice none 0 0) 25).alloc _
 have hr1:W.rowIs (w.heap.size+1) 25 5 (qs (.int .u8 4) (.int .i64 0) (.string ⟨#[]⟩) (.slice none 0 0) (.slice none 0 0)):=by
  have:=qf (w.alloc (.cells #[.int .u8 0,.int .i64 0,.string ⟨#[]⟩,.slice none 0 0,.slice none 0 0] 25)) (.int .u8 4) (.int .i64 0) (.string ⟨#[]⟩) (.slice none 0 0) (.slice none 0 0) 25
  rw [hz1,← hW] at this
  exact this
 have HS:=Lh hS
 have HW:=Lh hW
 have HB2:=Lh hb2
 have HR0:=Lh hr0
 have HR1:=Lh hr1
 have HZ2:=Lh hz2
 obtain ⟨nn,hnn⟩:∃nn,nn=l.length:=⟨_,rfl⟩
 have HNN:=Lh hnn
 rw [← hnn] at hl ⊢
 clear hS hW hb2 hr0 hr1 hz1 hz2 hnn
 obtain ⟨i0,hi0,hz0,hz1,hz2⟩:=info_parts xo
 go_enter Tryz.func114,Tryz.ntmps114
 go_upto_region 2 with fail
 rw [← HW.out]
 clear HW
 obtain ⟨cb,hcb⟩:∃cb,cb=w.heap.size+1:=⟨_,rfl⟩
 have HCB:=Lh hcb
 rw [← hcb] at HR1 ⊢
 have hltW:cb<W.heap.size:=by have:=HZ2.out;omega
 clear hcb
 go_wp2
 go_loopw [5,9] (fun _ i wr=>∃(k:Nat) (cs:List Value) (vi:Value),k≤nn∧i=.int .i64 k∧Touch (· = cb) W wr∧wr.rowIs cb 25 5 (qs (.int .u8 4) (.int .i64 0) (.string ⟨#[]⟩) (.slice none 0 0) vi)∧wr.ownsRow W.heap.size 25 5 vi k cs∧qP wr W.heap.size (fun b=>b=cb∨vi.ownBlock=some b) ((l.take k).map txtJ) cs) (fun _ i _=>nn - (intOf i).toNat)
 case atStart=>exact ⟨0,[],.slice none 0 0,by omega,rfl,Touch.refl _ _,HR1.out,World.ownsRow_nil _ _ _ _,by simpa using qP.nil _ _ _⟩
 case round =>
  obtain ⟨k,cs,vi,hk,rfl,htch,hrow,hown,hrr⟩:=hrel
  by_cases hlt2:k<nn
  · have hlt':k<l.length:=by rw [← HNN.out];exact hlt2
    have HB:Hid (Below w.heap.size w wr):=HB2.out.trans (htch.below (by have:=HZ2.out;omega) fun j hj e=>by have:=HCB.out;omega)
    obtain ⟨b,off,rfl,_,hb,y0⟩:=(HS.out.below HB.out lz lz lz).at k hlt'
    have HTK:=Lh (show (l.take (k+1)).map txtJ=(l.take k).map txtJ ++ [txtJ l[k]] by rw [List.take_succ_eq_append_getElem hlt',List.map_append];rfl)
    have c4:wr.cell? ⟨cb,4,none⟩=some vi:=hrow.cell (by omega)
    have f4:wr.frozen? ⟨cb,4,none⟩=false:=hrow.frozen 4
    have hcz:cb<wr.heap.size:=hrow.lt
    have hwz:W.heap.size≤wr.heap.size:=htch.size
    have hnb:some cb≠vi.ownBlock:=fun e=>by have:=(hown.lt _ e.symm).1;omega
    have HRW:=Lh hrow
    have HTC:=Lh htch
    have HO:=Lh hown
    have HRR:=Lh hrr
    clear hrow htch hown hrr
    generalize l[k]=it at *
    have HCI:=Lh (show Calls Tryz.prog 65 #[.string it] wr.drew (fun e w3=>e=.returned (.agg #[.int .u8 3,.int .i64 0,.string it,.slice none 0 0,.slice none 0 0])∧Rep w3 (wr.heap.size+1) w3.heap.size (txtJ it) (.agg #[.int .u8 3,.int .i64 0,.string it,.slice none 0 0,.slice none 0 0])∧Below (wr.heap.size+1) ((wr.alloc (.cells #[.int .u8 3,.int .i64 0,.string it,.slice none 0 0,.slice none 0 0] 25)).drew) w3∧wr.heap.size<w3.heap.size∧w3.cell? ⟨cb,4,none⟩=some vi∧w3.frozen? ⟨cb,4,none⟩=false∧w3.ownsRow W.heap.size 25 5 vi k cs) by
     refine (wU it wr.drew).mono ?_
     rintro e w3 ⟨rfl,rfl⟩
     have hb4:Below wr.heap.size wr (wr.drew.alloc (.cells #[.int .u8 3,.int .i64 0,.string it,.slice none 0 0,.slice none 0 0] 25)):=(Below.refl _ _).drew.alloc lz _
     exact ⟨rfl,jh _ _ _ _,Below.refl _ _,by simp,by rw [hb4.cell hcz];exact c4,by rw [hb4.frozen hcz];exact f4,qX HO.out hb4⟩)
    go_wp2_with fail
    go_region_law (first|(refine step_append_lies _ (by rfl) (.tmp 14) (.tmp 17) 23 (by rfl) W.heap.size 25 i0 _ 5 80 Tryz.underlying23 hi0 hz0 hz1 hz2 rfl (by omega) vi k cs (by rfl) (HO3.out.alloc _) ⟨w3.heap.size,0,none⟩ 1 1 (Array.toList #[.int .u8 3,.int .i64 0,.string it,.slice none 0 0,.slice none 0 0]) (by rfl) (by rfl) (World.news_of_block (cs:=#[.int .u8 3,.int .i64 0,.string it,.slice none 0 0,.slice none 0 0]) (t:=25) (fr:=(0,0)) (heap_alloc_new w3 _)) (by simp [Value.oneCell']) (by omega) (by unfold maxLen;omega) (by omega) (by simp;omega) (w3.heap.size+1) (by simp) ?_;intro g cap w4 hown4 hgrow4 hat4 hlt4;have c44:=qN hgrow4 hcz3 hnb c43;have f44:=qA hgrow4 hcz3 hnb f43;have HO4:=Lh hown4;have HG4:=Lh hgrow4;have HA4:=Lh hat4;clear hown4 hgrow4 hat4)|(go_simp;go_at_call 65;(with_reducible refine HCI.out.mono ?_);rintro e w3 ⟨rfl,hr3,hb3,hz3,c43,f43,ho3⟩;have hcz3:cb<w3.heap.size:=Nat.lt_trans hcz hz3;have HO3:=Lh ho3;have HR3:=Lh hr3;have HB3:=Lh hb3;clear ho3 hr3 hb3))
    all_goals
     have HST:=Lh (row_step (j:=4) (it:=txtJ it) (an:=none) (cn:=0) (ai:=none) (ci:=0) hltW HTC.out HRW.out HO.out HRR.out HB3.out HR3.out HG4.out HA4.out HO4.out)
     clear HTC HRW HO HRR HB3 HR3 HG4 HA4 HO4 HO3 HCI
     go_wp2
     go_roundw
     case rel =>
      obtain ⟨z1,z2,z3,z4⟩:=HST.out
      refine ⟨k+1,_,_,by omega,by go_num,z1,z2.congr fun i hi=>?_,z3,by rw [HTK.out];exact z4⟩
      rcases i with _|_|_|_|_|i <;> first|rfl|omega
     case measure=>simp [intOf];omega
  · obtain rfl:k=nn:=by omega
    have hni':(l.take k).map txtJ=l.map txtJ:=by rw [List.take_of_length_le (by rw [← HNN.out];exact Nat.le_refl _)]
    rw [hni'] at hrr
    have hml:(l.map txtJ).length=k:=by rw [List.length_map,← HNN.out]
    obtain ⟨a5,c5,rfl,hc5,hv5⟩:=xt hown hrr hml.symm
    rw [hml] at hc5 hrow
    have HV5:=Lh hv5
    have HC5:=Lh hc5
    have HML:=Lh hml
    have hres:=(htch.row HR0.out (by have:=HCB.out;omega))
    obtain ⟨r0,r1,r2,r3,r4⟩:=rc5 hrow
    obtain ⟨t0,t1,t2,t3,t4⟩:=rc5 hres
    obtain ⟨s0,s1,s2,s3,s4⟩:=rf5 hres
    simp only [qs] at r0 r1 r2 r3 r4 t0 t1 t2 t3 t4
    have HT:=Lh htch
    have HRS:=Lh hres
    clear hrow hres hown hrr hv5 htch hni' hc5 hml
    go_wp2
    refine bodyPost_ret (results_cell_row Tryz.results114 _ _ w.heap.size 25 _ (0,0) _ rfl (qm (set5 _ _ _ _ _ HRS.out)) Tryz.underlying25 rfl (by kernel_rfl)) rfl ?_
    have hbw:Below w.heap.size w wr:=HB2.out.trans (HT.out.below (by have:=HZ2.out;omega) fun j hj e=>by have:=HCB.out;omega)
    refine ⟨a5,c5,by rw [← HNN.out],?_,qT _ _ _ _ _ hbw lz⟩
    rw [← HNN.out]
    have hrep:=Rep.mk (v:=qC l) (an:=none) (cn:=0) (ai:=a5) (ci:=c5) (w:=wr) (lo:=W.heap.size) (hi:=wr.heap.size) lz (by show (l.map txtJ).length≤c5;rw [HML.out];exact HC5.out) (.inl rfl) HV5.out
    have e5:(qC l).items.length=k:=HML.out
    rw [e5] at hrep
    exact Rep.carry (by have:=HZ2.out;omega) (show wr.heap.size≤_ by simp [World.setCell]) (fun j hj _=>jC _ _ _ _ _ (by have:=HZ2.out;omega)) _ _ hrep
def fT (v:JV) (w:World) (e:Ending) (w':World):Prop :=
 e=.returned (.tuple #[.agg #[.string (zy v).1.1,.string (zy v).1.2],.int .i64 (zy v).2])∧Below w.heap.size w w'
set_option maxHeartbeats 1000000 in
set_option maxRecDepth 100000 in
theorem keyOf (v:JV) (x:Value) (w:World) (lo hi:Nat) (hN:v.wt≤4294967296) (hhi:hi≤w.heap.size) (hR:Rep w lo hi v x) (hS:v.mayB=true→v.kind=5→∀k (h:k<v.items.length),mf lo v.items[k]) :
 Calls Tryz.prog 106 #[x] w (fT v w):=by
 obtain ⟨an,cn,ai,ci,hx,h1,h2,h3,h4⟩:=hR.parts
 have HR:=Lh hR
 have HS:=Lh hS
 clear h1 h2 h3 h4 hR hS
 subst hx
 have HB0:=Lh (show Below w.heap.size w ((w.alloc (.cells #[.int .u8 v.kind,.int .i64 v.n,.string v.t,.slice an v.names.length cn,.slice ai v.items.length ci] 25)).alloc (.cells #[.string ⟨#[]⟩,.string ⟨#[]⟩] 38)) from ((Below.refl _ _).alloc lz _).alloc (by simp) _)
 have HX0:=Lh (show ((w.alloc (.cells #[.int .u8 v.kind,.int .i64 v.n,.string v.t,.slice an v.names.length cn,.slice ai v.items.length ci] 25)).alloc (.cells #[.string ⟨#[]⟩,.string ⟨#[]⟩] 38)).heap[w.heap.size]?=some (.cells #[.int .u8 v.kind,.int .i64 v.n,.string v.t,.slice an v.names.length cn,.slice ai v.items.length ci] 25 (0,0)) by rw [Below.heap_alloc _ _ _ (by simp)];exact heap_alloc_new w _)
 have hr0:=jQ (w.alloc (.cells #[.int .u8 v.kind,.int .i64 v.n,.string v.t,.slice an v.names.length cn,.slice ai v.items.length ci] 25)) (.string ⟨#[]⟩) (.string ⟨#[]⟩) 38
 rw [show (w.alloc (.cells #[.int .u8 v.kind,.int .i64 v.n,.string v.t,.slice an v.names.length cn,.slice ai v.items.length ci] 25)).heap.size=w.heap.size+1 by simp] at hr0
 have HR0:=Lh hr0
 clear hr0
 have HM:=Lh (vJ v _ ((w.alloc (.cells #[.int .u8 v.kind,.int .i64 v.n,.string v.t,.slice an v.names.length cn,.slice ai v.items.length ci] 25)).alloc (.cells #[.string ⟨#[]⟩,.string ⟨#[]⟩] 38)) hN (HR.out.below HB0.out hhi (Nat.zero_le _) (by simp;omega)))
 cases hm:v.mayB
 · have HX:=Lh (show zy v=((⟨#[]⟩,⟨#[]⟩),3) by unfold zy;rw [if_pos hm])
   rw [hm] at HM
   clear hm
   go_enter Tryz.func106,Tryz.ntmps106
   go_wp2_with fail
   refine HM.out.mono ?_
   rintro e w1 ⟨rfl,hb1⟩
   have hres:=qx hb1 HR0.out (by simp)
   have HRS:=Lh hres
   have HB1:=Lh (HB0.out.trans (hb1.mono (by simp;omega)))
   have t0:=hres.cell (i:=0) (by decide);have t1:=hres.cell (i:=1) (by decide)
   have s0:=hres.frozen 0;have s1:=hres.frozen 1
   simp only [xh] at t0 t1
   clear hres hb1
   go_wp2
   refine bodyPost_ret (qj Tryz.results106 _ _ (w.heap.size+1) 38 _ (0,0) _ rfl (qU (set2 _ _ HRS.out)) Tryz.underlying38 rfl (by kernel_rfl) _ rfl) rfl ⟨?_,zU _ _ HB1.out (by omega)⟩
   rw [HX.out];rfl
 · rw [hm] at HM
   have HMB:=Lh hm
   clear hm
   by_cases hk:v.kind=5
   · obtain ⟨hri,hle,htx⟩:=lX HMB.out hk
     obtain ⟨st1,hst1⟩:∃r,r=qy v xV ⟨[],0⟩:=⟨_,rfl⟩
     obtain ⟨st2,hst2⟩:∃r,r=qy v schN st1.2:=⟨_,rfl⟩
     obtain ⟨dn,hdn⟩:∃r,r=qu v st2.2:=⟨_,rfl⟩
     have HX:=Lh (show zy v=if dn≠0 then ((⟨#[]⟩,⟨#[]⟩),dn) else if zp st2.1.data.toList st1.1.data.toList then ((st2.1,st1.1),0) else ((⟨#[]⟩,⟨#[]⟩),3) by
      unfold zy;rw [if_neg (by rw [HMB.out];simp),if_neg (by simp [hk]),hdn,hst2,hst1])
     obtain ⟨z1,z2⟩:=fH (y:=xV) (st:=⟨[],0⟩) hN
     obtain ⟨z3,z4⟩:=fH (y:=schN) (st:=st1.2) hN
     rw [← hst1] at z1 z2
     rw [← hst2] at z3 z4
     simp only [List.length_nil] at z2
     have HST1:=Lh hst1
     have HST2:=Lh hst2
     have HDN:=Lh hdn
     have HRI:=Lh hri
     have HLE:=Lh hle
     have HTX:=Lh htx
     have HK:=Lh hk
     clear hst1 hst2 hdn hri hle htx hk
     go_enter Tryz.func106,Tryz.ntmps106
     go_wp2_with fail
     refine HM.out.mono ?_
     clear HM
     rintro e w1 ⟨rfl,hb1⟩
     have hz1:w.heap.size+2≤w1.heap.size:=by have:=hb1.size;simp at this;omega
     have HB1:=Lh (HB0.out.trans (hb1.mono (by simp;omega)))
     have HR1:=Lh (qx hb1 HR0.out (by simp))
     have hx1:w1.heap[w.heap.size]?=some (.cells #[.int .u8 v.kind,.int .i64 v.n,.string v.t,.slice an v.names.length cn,.slice ai v.items.length ci] 25 (0,0)):=by rw [hb1.block _ (by simp;omega)];exact HX0.out
     have c0:w1.cell? ⟨w.heap.size,0,none⟩=some (.int .u8 v.kind):=qq hx1 rfl
     have c1:w1.cell? ⟨w.heap.size,1,none⟩=some (.int .i64 v.n):=qq hx1 rfl
     have c2:w1.cell? ⟨w.heap.size,2,none⟩=some (.string v.t):=qq hx1 rfl
     have c3:w1.cell? ⟨w.heap.size,3,none⟩=some (.slice an v.names.length cn):=qq hx1 rfl
     have c4:w1.cell? ⟨w.heap.size,4,none⟩=some (.slice ai v.items.length ci):=qq hx1 rfl
     have HOF:=Lh (ge v _ w1 lo hi hN (by omega) (HR.out.below HB1.out hhi lz lz) HK.out HRI.out HLE.out (HS.out HMB.out HK.out))
     clear hb1 hx1
     go_wp2_with fail
     refine HOF.out.mono ?_
     clear HOF c0 c1 c2 c3 c4 HR HS HX0 HB0 HR0
     rintro e w2 ⟨o,m,lo2,hi2,an2,ai2,cn2,ci2,rfl,hp2,ho2,hm2,hb2⟩
     have HT1:=Lh (yD o m lo2 hi2 v an2 ai2 cn2 ci2 xV ⟨[],0⟩ w2 hp2 (by decide) (by simp))
     have HR2:=Lh (qx hb2 HR1.out (by omega))
     have hz2:=hb2.size
     have HB2:=Lh (HB1.out.trans (hb2.mono (by omega)))
     clear hp2 hb2 HR1 HB1
     go_wp2_with fail
     refine HT1.out.mono ?_
     clear HT1
     rintro e w3 ⟨rfl,hp3,ht3⟩
     rw [← HST1.out] at hp3 ⊢
     have HT2:=Lh (yD o m lo2 hi2 v an2 ai2 cn2 ci2 schN st1.2 w3 hp3 (by decide) (by omega))
     have hz3:=ht3.size
     have HR3:=Lh (ht3.row HR2.out (by omega))
     have HB3:=Lh (HB2.out.trans (ht3.below (by omega) fun k hk e=>by omega))
     clear hp3 ht3 HR2 HB2
     go_wp2_with fail
     refine HT2.out.mono ?_
     clear HT2
     rintro e w4 ⟨rfl,hp4,ht4⟩
     rw [← HST2.out] at hp4 ⊢
     have hz4:=ht4.size
     have HR4:=Lh (ht4.row HR3.out (by omega))
     have HB4:=Lh (HB3.out.trans (ht4.below (by omega) fun k hk e=>by omega))
     have HDO:=Lh (fB o m lo2 hi2 v an2 ai2 cn2 ci2 st2.2 (w4.alloc (.cells #[.string st2.1,.string st1.1] 38)) (hp4.below ((Below.refl _ _).alloc lz _)) (fun i hi=>by
      have:=List.all_eq_true.1 HTX.out _ (List.getElem_mem hi)
      unfold qW at this;simp at this;omega))
     rw [← HDN.out] at HDO
     clear hp4 ht4 HR3 HB3
     go_wp2_with fail
     refine HDO.out.mono ?_
     clear HDO
     rintro e w5 ⟨rfl,rfl⟩
     have HR5:=Lh (HR4.out.alloc (.cells #[.string st2.1,.string st1.1] 38))
     have HB5:=Lh (HB4.out.alloc HB4.out.size (.cells #[.string st2.1,.string st1.1] 38))
     clear HR4 HB4
     by_cases hd:dn=0
     · rw [hd] at HX ⊢
       simp only [ne_eq,not_true_eq_false,if_false] at HX
       clear hd HDN
       have HKM:=Lh (dh st2.1 st1.1 (w4.alloc (.cells #[.string st2.1,.string st1.1] 38)) (by omega) (by omega))
       cases hko:zp st2.1.data.toList st1.1.data.toList
       · rw [hko] at HKM HX
         clear hko
         go_wp2_with fail
         refine HKM.out.mono ?_
         rintro e w6 ⟨rfl,hb6⟩
         have hres:=qx hb6 HR5.out (by simp;omega)
         have HRS:=Lh hres
         have HB6:=Lh (HB5.out.trans (hb6.mono (by simp;omega)))
         have t0:=hres.cell (i:=0) (by decide);have t1:=hres.cell (i:=1) (by decide)
         have s0:=hres.frozen 0;have s1:=hres.frozen 1
         simp only [xh] at t0 t1
         clear hres hb6
         go_wp2
         refine bodyPost_ret (qj Tryz.results106 _ _ (w.heap.size+1) 38 _ (0,0) _ rfl (qU (set2 _ _ HRS.out)) Tryz.underlying38 rfl (by kernel_rfl) _ rfl) rfl ⟨?_,zU _ _ HB6.out (by omega)⟩
         rw [HX.out];rfl
       · rw [hko] at HKM HX
         clear hko
         go_wp2_with fail
         refine HKM.out.mono ?_
         rintro e w6 ⟨rfl,hb6⟩
         have hres:=qx hb6 HR5.out (by simp;omega)
         have hx6:w6.heap[w4.heap.size]?=some (.cells #[.string st2.1,.string st1.1] 38 (0,0)):=by rw [hb6.block _ (by simp)];exact heap_alloc_new _ _
         have d0:w6.cell? ⟨w4.heap.size,0,none⟩=some (.string st2.1):=qq hx6 rfl
         have d1:w6.cell? ⟨w4.heap.size,1,none⟩=some (.string st1.1):=qq hx6 rfl
         have HRS:=Lh hres
         have HB6:=Lh (HB5.out.trans (hb6.mono (by simp;omega)))
         have t0:=hres.cell (i:=0) (by decide);have t1:=hres.cell (i:=1) (by decide)
         have s0:=hres.frozen 0;have s1:=hres.frozen 1
         simp only [xh] at t0 t1
         clear hres hb6 hx6
         go_wp2
         refine bodyPost_ret (qj Tryz.results106 _ _ (w.heap.size+1) 38 _ (0,0) _ rfl (qU (set2 _ _ HRS.out)) Tryz.underlying38 rfl (by kernel_rfl) _ rfl) rfl ⟨?_,zU _ _ HB6.out (by omega)⟩
         rw [HX.out];rfl
     · rw [if_pos hd] at HX
       have hd1:(dn == 0)=false:=by simpa using hd
       have hd2:(dn != 0)=true:=by simpa using hd
       have hres:=HR5.out
       have t0:=hres.cell (i:=0) (by decide);have t1:=hres.cell (i:=1) (by decide)
       have s0:=hres.frozen 0;have s1:=hres.frozen 1
       simp only [xh] at t0 t1
       clear hres hd HDN
       go_wp2
       refine bodyPost_ret (qj Tryz.results106 _ _ (w.heap.size+1) 38 _ (0,0) _ rfl (qU (set2 _ _ HR5.out)) Tryz.underlying38 rfl (by kernel_rfl) _ rfl) rfl ⟨?_,zU _ _ HB5.out (by omega)⟩
       rw [HX.out];rfl
   · have HX:=Lh (show zy v=((⟨#[]⟩,⟨#[]⟩),10) by unfold zy;rw [if_neg (by rw [HMB.out];simp),if_pos hk])
     have HK:=Lh hk
     clear hk
     go_enter Tryz.func106,Tryz.ntmps106
     go_wp2_with fail
     refine HM.out.mono ?_
     clear HM
     rintro e w1 ⟨rfl,hb1⟩
     have hz1:w.heap.size+2≤w1.heap.size:=by have:=hb1.size;simp at this;omega
     have HB1:=Lh (HB0.out.trans (hb1.mono (by simp;omega)))
     have HR1:=Lh (qx hb1 HR0.out (by simp))
     have hx1:w1.heap[w.heap.size]?=some (.cells #[.int .u8 v.kind,.int .i64 v.n,.string v.t,.slice an v.names.length cn,.slice ai v.items.length ci] 25 (0,0)):=by rw [hb1.block _ (by simp;omega)];exact HX0.out
     have c0:w1.cell? ⟨w.heap.size,0,none⟩=some (.int .u8 v.kind):=qq hx1 rfl
     have c1:w1.cell? ⟨w.heap.size,1,none⟩=some (.int .i64 v.n):=qq hx1 rfl
     have c2:w1.cell? ⟨w.heap.size,2,none⟩=some (.string v.t):=qq hx1 rfl
     have c3:w1.cell? ⟨w.heap.size,3,none⟩=some (.slice an v.names.length cn):=qq hx1 rfl
     have c4:w1.cell? ⟨w.heap.size,4,none⟩=some (.slice ai v.items.length ci):=qq hx1 rfl
     clear hb1 hx1
     go_wp2_with fail
     refine (pg v.kind v.n v.t _ _ w1 HK.out).mono ?_
     clear c0 c1 c2 c3 c4
     rintro e w2 ⟨o,rfl,ho1,ho2,hp2,hb2⟩
     have HP2:=Lh hp2
     have HR2:=Lh (qx hb2 HR1.out (by omega))
     have HB2:=Lh (HB1.out.trans (hb2.mono (by omega)))
     clear hp2 hb2
     go_wp2_with fail
     refine (ue o 10 _ w2 HP2.out).mono ?_
     rintro e w3 ⟨rfl,rfl⟩
     go_wp2_with fail
     refine (ue o 10 _ w2 HP2.out).mono ?_
     rintro e w3 ⟨rfl,rfl⟩
     have HP3:=Lh (HP2.out.below ((Below.refl _ _).alloc lz (.cells #[.string ⟨#[]⟩,.string ⟨#[]⟩] 38)) ho2)
     obtain ⟨p1,p2,kk,p3⟩:=HP3.out
     have HD:=Lh (uQ o 10 kk _ p1 p2 p3)
     clear p1 p2 p3
     go_wp2_with fail
     refine HD.out.mono ?_
     rintro e w3 ⟨rfl,rfl⟩
     have hres:=HR2.out.alloc (.cells #[.string ⟨#[]⟩,.string ⟨#[]⟩] 38)
     have HRS:=Lh hres
     have HB3:=Lh (HB2.out.alloc HB2.out.size (.cells #[.string ⟨#[]⟩,.string ⟨#[]⟩] 38))
     have t0:=hres.cell (i:=0) (by decide);have t1:=hres.cell (i:=1) (by decide)
     have s0:=hres.frozen 0;have s1:=hres.frozen 1
     simp only [xh] at t0 t1
     clear hres
     go_wp2
     refine bodyPost_ret (qj Tryz.results106 _ _ (w.heap.size+1) 38 _ (0,0) _ rfl (qU (set2 _ _ HRS.out)) Tryz.underlying38 rfl (by kernel_rfl) _ rfl) rfl ⟨?_,zU _ _ HB3.out (by omega)⟩
     rw [HX.out];rfl
end Go.Proofs.YtnlgmcapbbgelaaGreatDoor

namespace Go.Proofs.YtnlgmcapbbgelaaGreatDoor
open Go.RowKit Go.WideMaps Go.Maps
end Go.Proofs.YtnlgmcapbbgelaaGreatDoor
