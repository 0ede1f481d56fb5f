import Derived.Test.YtkllbdlebjomkaaGreatDoorTn20
import Derived.Test.YtkllbdlebjomkaaGreatDoorTn17

namespace Go.Proofs.YtkllbdlebjomkaaGreatDoor
open Go.RowKit
def xW:JV:=.mk 4 0 ⟨#[]⟩ [] []
def raN:ByteArray:=⟨#[97]⟩
structure DelegV where
 name:ByteArray
 au:AuthV
 term:Bool
 paths:List ByteArray
 pres:List ByteArray
deriving DecidableEq
structure BinsV where
 bits:Int
 pre:ByteArray
 au:AuthV
deriving DecidableEq
structure DelegsV where
 keys:List Key2
 roles:List DelegV
 bins:BinsV
deriving DecidableEq
def vg:DelegV:=⟨⟨#[]⟩,dt,false,[],[]⟩
def k8:BinsV:=⟨0,⟨#[]⟩,dt⟩
def zU:DelegsV:=⟨[],[],k8⟩
def pu (s:ByteArray):Bool:=decide (s=yX\/s=se\/s=zS)
def zu (s:ByteArray):Bool:=decide (1<=s.size/\s.size<=256) && !(s.data.toList.headD 0 == 47) && gx s
def preB (s:ByteArray):Bool:=decide (1<=s.size/\s.size<=64) && jp s.data.toList
def qC (x:DelegV):Bool:=zw x.name.data.toList && !pu x.name && jJ x.au && (if x.paths≠[] then x.pres.isEmpty && decide (x.paths.length<=32) && x.paths.all zu else !x.pres.isEmpty && decide (x.pres.length<=32) && x.pres.all preB)
def j5 (b:BinsV):Int:=if b.bits<1\/32<b.bits then 1 else if zw b.pre.data.toList=false then 3 else if 64<b.pre.size+1+(b.bits.toNat+3) / 4 then 5 else 0
def zh (b:BinsV):Bool:=decide (j5 b=0) && jJ b.au && !pu b.pre
def xG (b:BinsV):Bool:=decide (b.bits=0/\b.pre=⟨#[]⟩/\b.au.thr=0/\b.au.ids=[])
def xC:List DelegV->Bool
 | []=>true
 | x :: r=>!(r.any fun y=>decide (y.name=x.name)) && xC r
def xe (b:Bool):JV:=.mk 1 (if b then 1 else 0) ⟨#[]⟩ [] []
def xH:ByteArray:=⟨#[110,97,109,101]⟩
def jF:ByteArray:=⟨#[112,97,116,104,95,104,97,115,104,95,112,114,101,102,105,120,101,115]⟩
def vp:ByteArray:=⟨#[112,97,116,104,115]⟩
def xL:ByteArray:=⟨#[116,101,114,109,105,110,97,116,105,110,103]⟩
def wl:ByteArray:=⟨#[98,105,116,95,108,101,110,103,116,104]⟩
def wB:ByteArray:=⟨#[110,97,109,101,95,112,114,101,102,105,120]⟩
def vf:ByteArray:=⟨#[115,117,99,99,105,110,99,116,95,114,111,108,101,115]⟩
def kP (x:DelegV):List NJ:=[(qt,qe x.au.ids),(xH,txtJ x.name),(if x.paths≠[] then (vp,qe x.paths) else (jF,qe x.pres)),(xL,xe x.term),(zK,qB x.au.thr)]
def q9 (x:DelegV):JV:=qN (kP x)
def dQ (b:BinsV):List NJ:=[(wl,qB b.bits),(qt,qe b.au.ids),(wB,txtJ b.pre),(zK,qB b.au.thr)]
def k9 (b:BinsV):JV:=qN (dQ b)
def jj (d:DelegsV):List NJ:=(zd,xb d.keys) :: (if xG d.bins then [(kB,xV (d.roles.map q9))] else [(vf,k9 d.bins)])
def zM (d:DelegsV):JV:=qN (jj d)
def kx (d:DelegsV):Bool:=zn d.keys && (if xG d.bins then decide (d.roles.length<=64) && d.roles.all qC && xC d.roles else d.roles.isEmpty && zh d.bins) && (zM d).mayB
def zq (v:JV) (y:ByteArray) (st:PS):Bool × PS :=
 if st.err≠0 then (false,st) else match v.look y with
 | none=>(false,⟨st.asked,6⟩)
 | some it=>if it.kind≠1 then (false,⟨st.asked,10⟩) else (decide (it.n=1),⟨y :: st.asked,0⟩)
def qW (v:JV) (y:ByteArray) (most:Nat) (st:PS):List JV × PS :=
 if st.err≠0 then ([],st) else match v.look y with
 | none=>([],⟨st.asked,6⟩)
 | some it=>if it.kind≠4 then ([],⟨st.asked,10⟩) else if most<it.items.length then ([],⟨st.asked,5⟩) else (it.items,⟨y :: st.asked,0⟩)
def dgN (v:JV):ByteArray × PS:=qw v xH ⟨[],0⟩
def dgA (v:JV):AuthV × PS:=wu v (dgN v).2
def dgT (v:JV):Bool × PS:=zq v xL (dgA v).2
def dgP (v:JV):(List ByteArray × List ByteArray) × PS:=if qI v jF (dgT v).2 then (([],(qv v jF 32 (dgT v).2).1),(qv v jF 32 (dgT v).2).2) else (((qv v vp 32 (dgT v).2).1,[]),(qv v vp 32 (dgT v).2).2)
def dgX (v:JV):DelegV:=⟨(dgN v).1,(dgA v).1,(dgT v).1,(dgP v).1.1,(dgP v).1.2⟩
def xg (v:JV):DelegV × Int:=if v.kind≠5 then (vg,10) else if qb v (dgP v).2≠0 then (vg,qb v (dgP v).2) else if qC (dgX v) then (dgX v,0) else (vg,3)
def xU:List JV->List DelegV->List DelegV × Int
 | [],acc=>(acc,0)
 | v :: r,acc=>if (xg v).2≠0 then ([],(xg v).2) else if acc.any (fun y=>decide (y.name=(xg v).1.name)) then ([],7) else xU r (acc ++ [(xg v).1])
def bnA (v:JV):AuthV × PS:=wu v ⟨[],0⟩
def bnB (v:JV):Int × PS:=qG v wl 1 32 (bnA v).2
def bnP (v:JV):ByteArray × PS:=qw v wB (bnB v).2
def xB (v:JV):BinsV × Int:=if v.kind≠5 then (k8,10) else if qb v (bnP v).2≠0 then (k8,qb v (bnP v).2) else if zh ⟨(bnB v).1,(bnP v).1,(bnA v).1⟩ then (⟨(bnB v).1,(bnP v).1,(bnA v).1⟩,0) else (k8,3)
def dlK (v:JV):JV × PS:=qf v zd 32 ⟨[],0⟩
def dlL (v:JV):List Key2 × Int:=jx (dlK v).1
def dlS (v:JV):PS:=(dlK v).2.fail (dlL v).2
def dlO (v:JV):JV × PS:=qf v vf 8192 (dlS v)
def dlR (v:JV):List JV × PS:=qW v kB 64 (dlS v)
def dlB (v:JV):(BinsV × List DelegV) × PS:=if qI v vf (dlS v) then (((xB (dlO v).1).1,[]),(dlO v).2.fail (xB (dlO v).1).2) else ((k8,(xU (dlR v).1 []).1),(dlR v).2.fail (xU (dlR v).1 []).2)
def sD (v:JV):DelegsV × Int:=if qb v (dlB v).2≠0 then (zU,qb v (dlB v).2) else (⟨(dlL v).1,(dlB v).1.2,(dlB v).1.1⟩,0)
def zb (v:JV):DelegsV × Int:=if v.mayB=false then (zU,3) else if v.kind≠5 then (zU,10) else sD v
def eJ:JV:=qN []
theorem wP {x:DelegV} (h:qC x=true):zw x.name.data.toList=true/\pu x.name=false/\jJ x.au=true/\((x.paths≠[]/\x.pres=[]/\x.paths.length<=32/\x.paths.all zu=true)\/(x.paths=[]/\x.pres≠[]/\x.pres.length<=32/\x.pres.all preB=true)):=by
 unfold qC at h;simp only [J5,Bool.not_eq_true'] at h;refine ⟨h.1.1.1,h.1.1.2,h.1.2,?_⟩;have a:=h.2;split at a
 . rename_i hp;simp only [J5,J1,List.isEmpty_iff] at a;exact .inl ⟨hp,a.1.1,a.1.2,a.2⟩
 . rename_i hp;simp only [J5,J1,Bool.not_eq_true',List.isEmpty_eq_false_iff] at a;exact .inr ⟨by simpa using hp,a.1.1,a.1.2,a.2⟩
theorem uq {b:BinsV} (h:zh b=true):(1<=b.bits/\b.bits<=32)/\zw b.pre.data.toList=true/\jJ b.au=true/\pu b.pre=false:=by
 unfold zh at h;simp only [J5,J1,Bool.not_eq_true'] at h;obtain ⟨⟨a,c⟩,d⟩:=h;unfold j5 at a;split at a
 . exact absurd a (by decide)
 . rename_i hb;split at a
   . exact absurd a (by decide)
   . rename_i hr;exact ⟨by omega,by simpa using hr,c,d⟩
theorem zI:qd [qt,xH,vp,xL,zK]=true/\qd [qt,xH,jF,xL,zK]=true/\qd [wl,qt,wB,zK]=true/\qd [zd,kB]=true/\qd [zd,vf]=true:=⟨by kernel_rfl,by kernel_rfl,by kernel_rfl,by kernel_rfl,by kernel_rfl⟩
structure RecV where
 len:Int
 hs:List Key2
 cus:JV
def uz:RecV:=⟨0,[],zeroJ⟩
structure TargV where
 ver:Int
 exp:Int
 list:List (ByteArray × RecV)
 del:DelegsV
def wH:TargV:=⟨0,0,[],zU⟩
def mD:ByteArray:=⟨#[99,117,115,116,111,109]⟩
def kF:ByteArray:=⟨#[100,101,108,101,103,97,116,105,111,110,115]⟩
def rcL (v:JV):Int × PS:=qG v ym 0 1099511627776 ⟨[],0⟩
def rcO (v:JV):JV × PS:=qf v vD 4 (rcL v).2
def rcH (v:JV):List Key2 × PS:=((qM (rcO v).1).1,(rcO v).2.fail (qM (rcO v).1).2)
def oN (v:JV) (y:ByteArray) (st:PS):JV × PS :=
 if st.err≠0 then (zeroJ,st) else match v.look y with
 | none=>(zeroJ,⟨st.asked,6⟩)
 | some it=>(it,⟨y :: st.asked,0⟩)
def rcC (v:JV):JV × PS:=if qI v mD (rcH v).2 then oN v mD (rcH v).2 else (zeroJ,(rcH v).2)
def vq (v:JV):RecV × Int:=if v.mayB=false then (uz,3) else if v.kind≠5 then (uz,10) else if qb v (rcC v).2≠0 then (uz,qb v (rcC v).2) else (⟨(rcL v).1,(rcH v).1,(rcC v).1⟩,0)
def wU:List ByteArray->List JV->List (ByteArray × RecV)->List (ByteArray × RecV) × Int
 | n :: ns,x :: xs,acc=>if zu n=false then ([],3) else if (vq x).2≠0 then ([],(vq x).2) else wU ns xs (acc ++ [(n,(vq x).1)])
 | _,_,acc=>(acc,0)
def tgT (v:JV):PS:=if (qw v jz ⟨[],0⟩).1≠zS then (qw v jz ⟨[],0⟩).2.fail 13 else (qw v jz ⟨[],0⟩).2
def tgB (v:JV):Int × PS:=qG v kK 1 1099511627776 (tgT v)
def tgC (v:JV):ByteArray × PS:=qw v kV (tgB v).2
def tgR (v:JV):Int × Int:=ww (tgC v).1.data.toList
def tgO (v:JV):JV × PS:=qf v zS 256 ((tgC v).2.fail (tgR v).2)
def tgL (v:JV):List (ByteArray × RecV) × Int:=wU (tgO v).1.names (tgO v).1.items []
def tgS (v:JV):PS:=(tgO v).2.fail (tgL v).2
def tgD (v:JV):DelegsV × PS:=if qI v kF (tgS v) then ((zb (qf v kF 8192 (tgS v)).1).1,(qf v kF 8192 (tgS v)).2.fail (zb (qf v kF 8192 (tgS v)).1).2) else (zU,tgS v)
def za (v:JV):TargV × Int:=if v.mayB=false then (wH,3) else if v.kind≠5 then (wH,10) else if qb v (tgD v).2≠0 then (wH,qb v (tgD v).2) else (⟨(tgB v).1,(tgR v).1,(tgL v).1,(tgD v).1⟩,0)
def Qf:ByteArray:=⟨#[115,104,97,50,53,54]⟩
def Qh:ByteArray:=⟨#[97,98]⟩
def abN:ByteArray:=⟨#[97,47,98]⟩
def Zi:ByteArray:=⟨#[47,97]⟩
def Zo:ByteArray:=⟨#[115,112,101,99,95,118,101,114,115,105,111,110]⟩
def qT:JV:=qN [(vD,qN [(Qf,txtJ Qh)]),(ym,qB 3)]
def bareJ:JV:=qN [(ym,qB 3)]
def exTJ:JV:=qN [(jz,txtJ zS),(kV,txtJ nineN),(zS,qN [(abN,qT)]),(kK,qB 1)]
def zJ:JV:=qN [(zd,eJ),(kB,xW)]
def rows24:List (Nat × Bool × ByteArray × JV × Int):=[
 (0,true,jz,txtJ se,13),(3,true,kK,qB 0,1),(3,true,kK,qB 1099511627777,1),(1,true,kV,txtJ ⟨#[]⟩,3),(2,true,zS,xW,10),(2,true,zS,eJ,0),(2,true,zS,qN [(Zi,qT)],3),(2,true,zS,qN [(⟨#[]⟩,qT)],3),(2,true,zS,qN [(raN,bareJ)],6),(2,true,zS,qN [(raN,qB 1)],10),(2,true,zS,qN [(raN,qT)],0),
 (1,false,kF,xW,10),(1,false,kF,eJ,6),(1,false,kF,qN [(zd,eJ)],6),(1,false,kF,zJ,0),(2,false,Zo,qB 1,11)]
def mL (p:Nat × Bool × ByteArray × JV × Int):JV:=cU exTJ p.1 p.2.1 p.2.2.1 p.2.2.2.1
theorem rl:∀p ∈ rows24,(za (mL p)).2=p.2.2.2.2:=by decide +kernel
theorem dZ:(za exTJ).2=0/\(za zeroJ).2=3/\(za xW).2=10/\(za eJ).2=6:=by decide +kernel
def fe (w:World) (lo hi b o:Nat) (p:ByteArray × RecV):Prop :=
 p.2.cus=zeroJ/\∃ha hc,w.cell? ⟨b,o,none⟩=some (.string p.1)/\w.cell? ⟨b,o+1,none⟩=some (.int .i64 p.2.len)/\w.cell? ⟨b,o+2,none⟩=some (.slice ha p.2.hs.length hc)/\w.cell? ⟨b,o+3,none⟩=some (.int .u8 0)/\w.cell? ⟨b,o+4,none⟩=some (.int .i64 0)/\w.cell? ⟨b,o+5,none⟩=some (.string ⟨#[]⟩)/\w.cell? ⟨b,o+6,none⟩=some (.slice none 0 0)/\w.cell? ⟨b,o+7,none⟩=some (.slice none 0 0)/\p.2.hs.length<=hc/\qJ w lo hi ha p.2.hs
def qm (w:World) (lo hi:Nat) (a:Option Addr) (l:List (ByteArray × RecV)):Prop :=
 l=[]\/∃b off,a=some ⟨b,off,none⟩/\lo<=b/\b<hi/\∀i (h:i<l.length),fe w lo hi b (off+i * 8) l[i]
theorem fe.carry {w w':World} {lo hi lo' hi' b o:Nat} {p:ByteArray × RecV} (h:fe w lo hi b o p) (x:lo'<=lo) (y:hi<=hi') (z:lo<=b) (u:b<hi) (v:∀b,lo<=b->b<hi->w'.heap[b]?=w.heap[b]?):fe w' lo' hi' b o p:=by have e:∀o,w'.cell? ⟨b,o,none⟩=w.cell? ⟨b,o,none⟩:=fun o=>G5 (w:=w) (w':=w') (v b z u);obtain ⟨s,l,m,a,c,d,f,g,i,j,k,r,q⟩:=h;exact ⟨s,l,m,by rw [e];exact a,by rw [e];exact c,by rw [e];exact d,by rw [e];exact f,by rw [e];exact g,by rw [e];exact i,by rw [e];exact j,by rw [e];exact k,r,q.carry x y v⟩
theorem qm.at {w:World} {lo hi:Nat} {a:Option Addr} {l:List (ByteArray × RecV)} (h:qm w lo hi a l) (i:Nat) (hi':i<l.length) :
 ∃b off,a=some ⟨b,off,none⟩/\lo<=b/\b<hi/\fe w lo hi b (off+i * 8) l[i]:=by
 rcases h with h|⟨b,off,ha,hb,hb',hr⟩
 . rw [h] at hi';simp at hi'
 . exact ⟨b,off,ha,hb,hb',hr i hi'⟩
theorem qm.carry {w w':World} {lo hi lo' hi':Nat} {a:Option Addr} {l:List (ByteArray × RecV)} (h:qm w lo hi a l) (c:lo'<=lo) (d:hi<=hi') (e:∀b,lo<=b->b<hi->w'.heap[b]?=w.heap[b]?):qm w' lo' hi' a l:=by
 rcases h with h|⟨b,off,ha,hb,hb',hr⟩
 . exact .inl h
 . exact .inr ⟨b,off,ha,by omega,by omega,fun i hi=>(hr i hi).carry c d hb hb' e⟩
theorem qm.below {w w':World} {lo hi lo' hi' B:Nat} {a:Option Addr} {l:List (ByteArray × RecV)} (h:qm w lo hi a l) (e:Below B w w') (f:hi<=B) (c:lo'<=lo) (d:hi<=hi'):qm w' lo' hi' a l :=
 h.carry c d fun b _ hlt=>e.block b (by omega)
structure TargC where
 nm:ByteArray
 x:RecV
 ha:Option Addr
 hc:Nat
def dX (q:TargC):List Value:=[.string q.nm,.int .i64 q.x.len,.slice q.ha q.x.hs.length q.hc,.int .u8 0,.int .i64 0,.string ⟨#[]⟩,.slice none 0 0,.slice none 0 0]
theorem tD (q:TargC):(dX q).length=8:=rfl
def tarP (w:World) (lo hi:Nat) (q:TargC):Prop:=q.x.cus=zeroJ/\q.x.hs.length<=q.hc/\qJ w lo hi q.ha q.x.hs
theorem vN:fy tarP:=fun _ _ _ _ _ hs h=>⟨h.1,h.2.1,h.2.2.carry lz lz hs⟩
def kH (T B:Nat) (w:World) (vs:Value) (qs:List TargC):Prop:=ItemsOwn T 8 B dX tarP w vs qs
theorem kH.row {T B:Nat} {w:World} {v:Value} {D:List TargC} {l:List (ByteArray × RecV)} (h:kH T B w v D) (E:D.map (fun q=>(q.nm,q.x))=l):∃a c,v=.slice a l.length c/\l.length<=c/\qm w B w.heap.size a l:=by
 have o:=ItemsOwn.own h;have p:∃a n c,v=.slice a n c:=by
  rcases o.2 with ⟨rfl,_⟩|⟨g,cap,cur,rfl,_⟩
  . exact ⟨_,_,_,rfl⟩
  . exact ⟨_,_,_,rfl⟩
 obtain ⟨a,n,c,rfl⟩:=p;obtain ⟨j,k,f⟩:=ItemsOwn.cells tD h;subst E;subst j;rw [X7];refine ⟨a,c,rfl,k,?_⟩;rcases f with f|⟨g,rfl,hg,hlt,hf,hc⟩
 . exact .inl (by rw [f];rfl)
 . refine .inr ⟨g,0,rfl,hg,hlt,fun i hi=>?_⟩;have d:i<D.length:=by simpa using hi
   obtain ⟨C,m,r,s,A,u,y,z⟩:=ItemsOwn.each h D[i] (J8 d);have e:(D.map (fun q=>(q.nm,q.x)))[i]=(D[i].nm,D[i].x):=zb8 ..;rw [e];have b:=fun q (hq:q<8)=>hc i d q hq;simp only [za9];exact ⟨u,D[i].ha,D[i].hc,b 0 (by decide),b 1 (by decide),b 2 (by decide),b 3 (by decide),b 4 (by decide),b 5 (by decide),b 6 (by decide),b 7 (by decide),y,z.carry r s (fun _ _ _=>rfl)⟩
