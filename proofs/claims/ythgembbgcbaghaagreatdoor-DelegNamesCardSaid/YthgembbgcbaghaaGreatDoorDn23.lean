import Derived.Test.YthgembbgcbaghaaGreatDoorDn22
import GoSem.Conv.StringToRunes
import Derived.Test.YthgembbgcbaghaaGreatDoorDn18
set_option maxHeartbeats 2000000
set_option maxRecDepth 100000

namespace Go.Proofs.YthgembbgcbaghaaGreatDoor
open Go.RowKit
structure RootIn (w:World) (lo hi:Nat) (r:RootV) (ka i1 i2 i3:Option Addr):Prop where
 keys:xv w lo hi ka r.keys
 a:qy w lo hi i1 r.au.a.ids
 b:qy w lo hi i2 r.au.b.ids
 c:qy w lo hi i3 r.au.c.ids
def xq (a:AuthV):Prop:=(-9223372036854775808<=a.thr/\a.thr<=9223372036854775807)/\a.ids.length<=4294967296/\∀s ∈ a.ids,s.size<=4294967296
structure RootFits (r:RootV):Prop where
 ver:-9223372036854775808<=r.ver/\r.ver<=9223372036854775807
 exp:-9223372036854775808<=r.exp/\r.exp<=9223372036854775807
 len:r.keys.length<=40
 keys:∀k ∈ r.keys,k.1.size<=300/\k.2.size<=300
 a:xq r.au.a
 b:xq r.au.b
 c:xq r.au.c
structure DelegIn (w:World) (lo hi:Nat) (x:DelegV) (ia pa qa:Option Addr):Prop where
 ids:qy w lo hi ia x.au.ids
 paths:qy w lo hi pa x.paths
 pres:qy w lo hi qa x.pres
theorem DelegIn.carry {w w':World} {lo hi lo' hi':Nat} {x:DelegV} {e pa f:Option Addr} (h:DelegIn w lo hi x e pa f) (a:lo'<=lo) (c:hi<=hi') (d:∀b,lo<=b->b<hi->w'.heap[b]?=w.heap[b]?):DelegIn w' lo' hi' x e pa f :=
 ⟨h.ids.carry a c d,h.paths.carry a c d,h.pres.carry a c d⟩
theorem DelegIn.below {w w':World} {lo hi lo' hi' B:Nat} {x:DelegV} {a pa c:Option Addr} (h:DelegIn w lo hi x a pa c) (f:Below B w w') (g:hi<=B) (d:lo'<=lo) (e:hi<=hi'):DelegIn w' lo' hi' x a pa c :=
 h.carry d e fun b _ hlt=>f.block b (by omega)
def wI (w:World) (lo hi b o:Nat) (x:DelegV):Prop :=
 ∃ia ic pa pc qa qc,w.cell? ⟨b,o,none⟩=some (.string x.name)/\w.cell? ⟨b,o+1,none⟩=some (.int .i64 x.au.thr)/\w.cell? ⟨b,o+2,none⟩=some (.slice ia x.au.ids.length ic)/\w.cell? ⟨b,o+3,none⟩=some (.bool x.term) /\
  w.cell? ⟨b,o+4,none⟩=some (.slice pa x.paths.length pc)/\w.cell? ⟨b,o+5,none⟩=some (.slice qa x.pres.length qc)/\x.au.ids.length<=ic/\x.paths.length<=pc/\x.pres.length<=qc/\DelegIn w lo hi x ia pa qa
theorem wI.carry {w w':World} {lo hi lo' hi' b o:Nat} {x:DelegV} (h:wI w lo hi b o x) (z:lo'<=lo) (A:hi<=hi') (B:lo<=b) (v:b<hi) (y:∀b,lo<=b->b<hi->w'.heap[b]?=w.heap[b]?):wI w' lo' hi' b o x:=by have e:∀o,w'.cell? ⟨b,o,none⟩=w.cell? ⟨b,o,none⟩:=fun o=>J9 (w:=w) (w':=w') (y b B v);obtain ⟨j,k,q,r,s,u,a,c,d,f,g,i,l,m,p,hi⟩:=h;exact ⟨j,k,q,r,s,u,by rw [e];exact a,by rw [e];exact c,by rw [e];exact d,by rw [e];exact f,by rw [e];exact g,by rw [e];exact i,l,m,p,hi.carry z A y⟩
def q9 (w:World) (lo hi:Nat) (a:Option Addr) (l:List DelegV):Prop :=
 l=[]\/∃b off,a=some ⟨b,off,none⟩/\lo<=b/\b<hi/\∀i (h:i<l.length),wI w lo hi b (off+i * 6) l[i]
theorem q9.at {w:World} {lo hi:Nat} {a:Option Addr} {l:List DelegV} (h:q9 w lo hi a l) (i:Nat) (hi':i<l.length) :
 ∃b off,a=some ⟨b,off,none⟩/\lo<=b/\b<hi/\wI w lo hi b (off+i * 6) l[i]:=by
 rcases h with h|⟨b,off,ha,hb,hb',hr⟩
 . rw [h] at hi';simp at hi'
 . exact ⟨b,off,ha,hb,hb',hr i hi'⟩
theorem q9.carry {w w':World} {lo hi lo' hi':Nat} {a:Option Addr} {l:List DelegV} (h:q9 w lo hi a l) (c:lo'<=lo) (d:hi<=hi') (e:∀b,lo<=b->b<hi->w'.heap[b]?=w.heap[b]?):q9 w' lo' hi' a l:=by
 rcases h with h|⟨b,off,ha,hb,hb',hr⟩
 . exact .inl h
 . exact .inr ⟨b,off,ha,by omega,by omega,fun i hi=>(hr i hi).carry c d hb hb' e⟩
theorem q9.below {w w':World} {lo hi lo' hi' B:Nat} {a:Option Addr} {l:List DelegV} (h:q9 w lo hi a l) (e:Below B w w') (f:hi<=B) (c:lo'<=lo) (d:hi<=hi'):q9 w' lo' hi' a l :=
 h.carry c d fun b _ hlt=>e.block b (by omega)
theorem q9.take {w:World} {lo hi:Nat} {a:Option Addr} {l:List DelegV} (h:q9 w lo hi a l) (k:Nat):q9 w lo hi a (l.take k):=by
 rcases h with h|⟨b,off,ha,hb,hb',hr⟩
 . exact .inl (by rw [h,List.take_nil])
 . refine .inr ⟨b,off,ha,hb,hb',fun i hi=>?_⟩;rw [List.length_take] at hi;rw [List.getElem_take];exact hr i (by omega)
structure DelegsIn (w:World) (lo hi:Nat) (d:DelegsV) (ka ra ba:Option Addr):Prop where
 keys:xv w lo hi ka d.keys
 roles:q9 w lo hi ra d.roles
 bids:qy w lo hi ba d.bins.au.ids
theorem DelegsIn.carry {w w':World} {lo hi lo' hi':Nat} {d:DelegsV} {g i f:Option Addr} (h:DelegsIn w lo hi d g i f) (a:lo'<=lo) (c:hi<=hi') (e:∀b,lo<=b->b<hi->w'.heap[b]?=w.heap[b]?):DelegsIn w' lo' hi' d g i f :=
 ⟨h.keys.carry a c e,h.roles.carry a c e,h.bids.carry a c e⟩
theorem DelegsIn.below {w w':World} {lo hi lo' hi' B:Nat} {d:DelegsV} {c e a:Option Addr} (h:DelegsIn w lo hi d c e a) (i:Below B w w') (j:hi<=B) (f:lo'<=lo) (g:hi<=hi'):DelegsIn w' lo' hi' d c e a :=
 h.carry f g fun b _ hlt=>i.block b (by omega)
structure DelegFits (x:DelegV):Prop where
 name:x.name.size<=4294967296
 au:xq x.au
 paths:x.paths.length<=4294967296/\∀s ∈ x.paths,s.size<=4294967296
 pres:x.pres.length<=4294967296/\∀s ∈ x.pres,s.size<=4294967296
structure DelegsFits (d:DelegsV):Prop where
 len:d.keys.length<=40
 keys:∀k ∈ d.keys,k.1.size<=300/\k.2.size<=300
 many:d.roles.length<=70
 roles:∀x ∈ d.roles,DelegFits x
 bits:-9223372036854775808<=d.bins.bits/\d.bins.bits<=9223372036854775807
 pre:d.bins.pre.size<=300
 au:xq d.bins.au
def bH (s:ByteArray):Nat->Nat->List Int
 | 0,_=>[]
 | n+1,i=>if i<s.size then Int.ofNat (Utf8.decode s i).1 :: bH s n (i+(Utf8.decode s i).2) else []
def runes (s:ByteArray):List Int:=bH s s.size 0
theorem wO (s:ByteArray):∀(n i:Nat) (acc:Array Value),Conv.runesFrom s n i acc=acc ++ ((bH s n i).map (Value.int .i32)).toArray
 | 0,i,acc=>by simp [Conv.runesFrom,bH]
 | n+1,i,acc=>by
  rw [Conv.runesFrom,bH];split
  . show Conv.runesFrom s n (i+(Utf8.decode s i).2) (acc.push (.int .i32 (Int.ofNat (Utf8.decode s i).1)))=_;rw [wO s n];simp
  . simp
theorem kx (s:ByteArray):Conv.runesFrom s s.size 0 #[]=((runes s).map (Value.int .i32)).toArray:=by rw [wO];simp [runes]
theorem p0 (s:ByteArray):∀(n i:Nat),(bH s n i).length<=n
 | 0,_=>Z9 _
 | n+1,i=>by
  rw [bH];split
  . have:=p0 s n (i+(Utf8.decode s i).2);simp only [G6];omega
  . exact Q2 _
theorem p5 (s:ByteArray):(runes s).length<=s.size:=p0 s _ _
theorem nr (b:Bool):(qA b).count=1/\(qA b).depth=0:=by
 constructor
 . rw [JV.count_eq];rfl
 . rw [JV.depth_eq];rfl
theorem bU {l:List ByteArray} {n:Nat} (d:l.length<=n) (h:∀x ∈ l,qW x=true):(qm l).partB=true/\(qm l).count<=n+1/\(qm l).depth<=1:=by
 have a:∀x ∈ l.map txtJ,x.partB=true/\x.count<=1/\x.depth<=0:=fun x hx'=>by obtain ⟨b,c,rfl⟩:=V8.1 hx';have:=fB b;exact ⟨yJ (h b c),X6 this.1,X6 this.2⟩
 refine ⟨bW fun x hx=>(a x hx).1,?_,?_⟩
 . rw [JV.count_eq];have:=counts_le 1 (l.map txtJ) fun x hx'=>(a x hx').2.1;rw [J6] at this;show 1+JV.counts (l.map txtJ)<=_;omega
 . rw [JV.depth_eq];have:=jL 0 (l.map txtJ) fun x hx'=>(a x hx').2.2;rw [Z6 (by simp [qm,qk,JV.kind])];show JV.depths (l.map txtJ)+1<=_;omega
theorem nt {p:ByteArray} (h:q8 p=true):qW p=true:=by unfold q8 at h;simp only [Q0,Z7] at h;unfold qW;rw [h.2,Q9 (by omega)];rfl
theorem ap {p:ByteArray} (h:preB p=true):qW p=true:=by unfold preB at h;simp only [Q0,Z7] at h;refine zi (fun c hc=>yQ (X3.1 h.2 c hc)) (by omega)
theorem cX (b:Bool):(qA b).partB=true:=by cases b <;> kernel_rfl
theorem jn:qW qp=true/\qW zb=true/\qW zY=true/\qW xm=true/\qW thrN=true/\qW trmN=true/\qW jl=true/\qW jS=true/\qW xW=true:=by
 refine ⟨?_,?_,?_,?_,?_,?_,?_,?_,?_⟩
 all_goals
  refine zi ?_ (by decide);intro c hc;unfold xC
  revert c
  decide
theorem nQ {a:AuthV} (h:xD a=true):(qm a.ids).partB=true/\(qm a.ids).count<=17/\(qm a.ids).depth<=1:=by obtain ⟨b,c,hi⟩:=xV h;exact bU b.2 fun x hx=>(vM (jN _ _ hi x hx)).1
theorem lG {x:DelegV} (h:qV x=true):(qQ x).partB=true/\(qQ x).count<=60/\(qQ x).depth<=2:=by
 obtain ⟨b,F,c,d⟩:=jA h;obtain ⟨k,l,m,o,q,r,H,I,J⟩:=jn;obtain ⟨z,A,L,M,N⟩:=zR;obtain ⟨i,G,j⟩:=nQ c;have B:=fB x.name;have C:=nr x.term;have D:=fP x.au.thr;have E:=yJ (ur b);have g:qK ((zG x).map (·.1))=true:=by
  by_cases hp:x.paths=[]
  . simp only [zG,hp,ne_eq,not_true_eq_false,if_false,Y9,List.map_nil];exact A
  . simp only [zG,hp,ne_eq,not_false_eq_true,if_true,Y9,List.map_nil];exact z
 -- the five members,with the bound of each
 have f:∃y v,(if x.paths≠[] then (xm,qm x.paths) else (zY,qm x.pres))=(y,v)/\qW y=true/\v.partB=true/\v.count<=33/\v.depth<=1:=by
  rcases d with ⟨a1,a2,a3,a4⟩|⟨a1,a2,a3,a4⟩
  . exact ⟨_,_,Q1 a1,o,bU a3 fun y hy=>nt (X3.1 a4 y hy)⟩
  . exact ⟨_,_,Z6 (by simp [a1]),m,bU a3 fun y hy=>ap (X3.1 a4 y hy)⟩
 obtain ⟨y,v,e,s,u,K,w⟩:=f;have a:zG x=[(qp,qm x.au.ids),(zb,txtJ x.name),(y,v),(trmN,qA x.term),(thrN,qZ x.au.thr)]:=(by unfold zG;rw [e]);unfold qQ;refine ⟨vU ⟨g,?_⟩,?_,?_⟩
 . rw [a];intro p hp;simp only [Y5,Y7,M3] at hp;rcases hp with rfl|rfl|rfl|rfl|rfl
   . exact ⟨k,i⟩
   . exact ⟨l,E⟩
   . exact ⟨s,u⟩
   . exact ⟨r,cX _⟩
   . exact ⟨q,yK _⟩
 . rw [a,JV.count_eq];show 1+((qm x.au.ids).count+((txtJ x.name).count+(v.count+((qA x.term).count+((qZ x.au.thr).count+0)))))<=60;omega
 . refine kD 1 ?_;rw [a];intro p hp;simp only [Y5,Y7,M3] at hp;rcases hp with rfl|rfl|rfl|rfl|rfl
   . exact j
   . exact Z5 (X6 B.2) (by decide)
   . exact w
   . exact Z5 (X6 C.2) (by decide)
   . exact Z5 (X6 D.2) (by decide)
theorem nZ {b:BinsV} (h:zk b=true):(z8 b).partB=true/\(z8 b).count<=80/\(z8 b).depth<=2:=by
 obtain ⟨v,g,i,w⟩:=wy h;obtain ⟨m,x,y,z,o,A,q,r,B⟩:=jn;obtain ⟨C,D,s,E,F⟩:=zR;obtain ⟨j,k,l⟩:=nQ i;have c:=fB b.pre;have d:=fP b.bits;have f:=fP b.au.thr;have u:=yJ (ur g);have a:∀p ∈ pE b,qW p.1=true/\p.2.partB=true/\p.2.count<=17/\p.2.depth<=1:=by
  intro p a;simp only [pE,Y5,Y7,M3] at a;rcases a with rfl|rfl|rfl|rfl
  . exact ⟨q,yK _,Z5 (X6 d.1) (by decide),Z5 (X6 d.2) (by decide)⟩
  . exact ⟨m,j,k,l⟩
  . exact ⟨r,u,Z5 (X6 c.1) (by decide),Z5 (X6 c.2) (by decide)⟩
  . exact ⟨o,yK _,Z5 (X6 f.1) (by decide),Z5 (X6 f.2) (by decide)⟩
 unfold z8;refine ⟨vU ⟨s,fun p h=>⟨(a p h).1,(a p h).2.1⟩⟩,?_,kD 1 fun p h=>(a p h).2.2.2⟩;have:=g9 17 fun p h=>(a p h).2.2.1;have e:(pE b).length=4:=rfl;rw [e] at this;omega
def xz (d:DelegsV):Bool:=zc d.keys && (if zK d.bins then decide (d.roles.length<=64) && d.roles.all qV && xk d.roles else d.roles.isEmpty && zk d.bins)
theorem bM {d:DelegsV} (h:xz d=true):(qo d).mayB=true:=by
 unfold xz at h;rw [Q0] at h;obtain ⟨m,h⟩:=h;obtain ⟨e,q,f⟩:=aj m;obtain ⟨H,I,J,K,L,M,N,P,v⟩:=jn;obtain ⟨S,T,V,z,A⟩:=zR;obtain ⟨-,⟨E,F,g,u,G⟩,-⟩:=ct;cases hb:zK d.bins
 . rw [hb] at h;simp only [Bool.false_eq_true,if_false,Q0] at h;obtain ⟨i,j,k⟩:=nZ h.2;have b:zp d=[(qD,zP d.keys),(xW,z8 d.bins)]:=by unfold zp;rw [hb];rfl
   unfold qo;rw [b];refine ak A (by show 2<=6;decide) fun p a=>?_;simp only [Y5,Y7,M3] at a;rcases a with rfl|rfl
   . exact ⟨g,e,q,f⟩
   . exact ⟨v,i,Z5 j (by decide),Z5 k (by decide)⟩
 . rw [hb] at h;simp only [if_true,Q0,Z7] at h;obtain ⟨⟨B,l⟩,C⟩:=h;have b:zp d=[(qD,zP d.keys),(xZ,qk (d.roles.map qQ))]:=by unfold zp;rw [hb];rfl
   have c:∀x ∈ d.roles.map qQ,x.partB=true/\x.count<=60/\x.depth<=2:=fun x hx=>by obtain ⟨y,o,rfl⟩:=V8.1 hx;exact lG (X3.1 l y o)
   have r:(qk (d.roles.map qQ)).partB=true:=bW fun x hx=>(c x hx).1;have D:(qk (d.roles.map qQ)).count<=3841:=(by rw [JV.count_eq];have:=counts_le 60 (d.roles.map qQ) fun x hx=>(c x hx).2.1;rw [J6] at this;show 1+JV.counts (d.roles.map qQ)<=_;omega);have s:(qk (d.roles.map qQ)).depth<=3:=(by rw [JV.depth_eq];have:=jL 2 (d.roles.map qQ) fun x hx=>(c x hx).2.2;rw [Z6 (by simp [qk,JV.kind])];show JV.depths (d.roles.map qQ)+1<=_;omega);have a:∀p ∈ zp d,qW p.1=true/\p.2.partB=true/\p.2.depth<=3:=by
    rw [b];intro p a;simp only [Y5,Y7,M3] at a;rcases a with rfl|rfl
    . exact ⟨g,e,f⟩
    . exact ⟨u,r,s⟩
   have w:(qo d).partB=true:=vU ⟨by rw [b];exact z,fun p h=>⟨(a p h).1,(a p h).2.1⟩⟩;have R:(qo d).depth<=4:=kD 3 fun p h=>(a p h).2.2;have Q:(qo d).count<=4000:=(by unfold qo;rw [b,JV.count_eq];show 1+((zP d.keys).count+((qk (d.roles.map qQ)).count+0))<=4000;omega);rw [JV.mayB_iff,w,Q9 (by omega),Q9 (by omega)];rfl
theorem zI (d:DelegsV):qH d=xz d:=by
 unfold qH;change (xz d && (qo d).mayB)=xz d;cases h:xz d
 . rfl
 . rw [bM h];rfl
def af:ByteArray:=⟨#[120,47,42]⟩
def kN:ByteArray:=⟨#[120,47,121]⟩
def pxN:ByteArray:=⟨#[120]⟩
def iK:ByteArray:=⟨#[47,120]⟩
def pzN:ByteArray:=⟨#[122]⟩
def pcN:ByteArray:=⟨#[99]⟩
def xS (n p:ByteArray) (last:Bool):DelegV:=⟨n,vv 97,last,[p],[]⟩
def exD:DelegsV:=⟨[],[xS raN af false,xS bbN xB true,xS pcN kN false],xG⟩
def exE:DelegsV:=⟨[],[xS pcN kN true,xS raN af false],xG⟩
def exBin:DelegsV:=⟨[],[],⟨2,ppN,vv 97⟩⟩
theorem go:qH exD=true/\qH exE=true/\qH exBin=true:=by rw [zI,zI,zI];decide +kernel
theorem nX:(kK runes kN exD.roles).map (·.name)=[raN,pcN]/\(kK runes pzN exD.roles).map (·.name)=[bbN]/\(kK runes kN exE.roles).map (·.name)=[pcN]:=by decide +kernel
theorem nJ:q8 kN=true/\q8 pzN=true/\q8 pxN=true/\q8 iK=false:=by decide +kernel
theorem vD:(xt runes exD kN).map (·.name)=[raN,pcN]/\(xt runes exD pzN).map (·.name)=[bbN]/\(xt runes exE kN).map (·.name)=[pcN]/\(xt runes exBin kN).map (·.name)=[xN ppN 2 (wA kN 2)]:=by obtain ⟨d,e,f⟩:=go;obtain ⟨g,h,i,j⟩:=nJ;obtain ⟨a,b,c⟩:=nX;unfold xt;rw [d,e,f,g,h];exact ⟨a,b,c,rfl⟩
theorem fU:isD runes wS pxN=true/\isD runes wS iK=false/\isD runes ⟨raN,vv 97,false,[xB],[⟨#[48]⟩]⟩ pxN=false:=by decide +kernel
theorem p6:xt runes ⟨[],[wS],⟨2,ppN,vv 97⟩⟩ pxN=[]/\xt runes delegsZ pxN=[]:=by unfold xt;obtain ⟨a,c,d,e,f,g,h,b,i⟩:=vm;rw [a,b];exact ⟨rfl,rfl⟩
open Go.WideMaps Go.Maps
def zB (o m lo hi:Nat) (v:JV) (an ai:Option Addr) (cn ci:Nat) (st:PS) (w:World):Prop :=
 PickAt o m lo hi v an ai cn ci st w\/(xb o st.err w/\o<w.heap.size/\m=o/\hi=0)
theorem zB.lt {o m lo hi:Nat} {v:JV} {an ai:Option Addr} {cn ci:Nat} {st:PS} {w:World} (h:zB o m lo hi v an ai cn ci st w):o<w.heap.size/\m<w.heap.size/\hi<=w.heap.size:=by
 rcases h with h|⟨-,h2,rfl,rfl⟩
 . exact ⟨qz h.obj,by obtain ⟨D,n,a,_⟩:=h.map;exact a.lt,h.le⟩
 . exact ⟨h2,h2,Q2 _⟩
theorem zB.below {o m lo hi:Nat} {v:JV} {an ai:Option Addr} {cn ci:Nat} {st:PS} {w w':World} (h:zB o m lo hi v an ai cn ci st w) (a:O5 w w'):zB o m lo hi v an ai cn ci st w':=by
 rcases h with h|⟨h1,h2,h3,h4⟩
 . exact .inl (h.below a)
 . exact .inr ⟨h1.below a h2,J7 h2 a.size,h3,h4⟩
theorem zB.touch {o m lo hi g:Nat} {v:JV} {an ai:Option Addr} {cn ci:Nat} {st:PS} {w w':World} (h:zB o m lo hi v an ai cn ci st w) (a:Touch (fun b=>b=g) w w') (c:g≠o) (e:g≠m) (d:hi<=g):zB o m lo hi v an ai cn ci st w':=by
 rcases h with h|⟨h1,h2,h3,h4⟩
 . exact .inl (h.touch a c e d)
 . exact .inr ⟨h1.touch a h2 (Ne.symm c),J7 h2 a.size,h3,h4⟩
theorem zB.cells {o m lo hi:Nat} {v:JV} {an ai:Option Addr} {cn ci:Nat} {st:PS} {w:World} (h:zB o m lo hi v an ai cn ci st w):∃k,w.cell? ⟨o,6,none⟩=some (.int .i64 st.err)/\w.cell? ⟨o,0,none⟩=some (.int .u8 k)/\(st.err=0->k=5):=by
 rcases h with h|⟨⟨h1,h2,k,h3⟩,-⟩
 . exact ⟨5,qq h.obj rfl,(qq (j:=0) h.obj rfl).trans (by rw [h.kind];rfl),fun _=>rfl⟩
 . exact ⟨k,h2,h3,fun e=>absurd e h1⟩
theorem iV {o m lo hi:Nat} {v:JV} {an ai:Option Addr} {cn ci:Nat} {st:PS} {w:World} (h:zB o m lo hi v an ai cn ci st w) :
 Calls Tryz.prog 121 #[.pointer (some ⟨o,0,none⟩)] w fun e w'=>e=.returned (.int .i64 st.err)/\w=w':=by
 obtain ⟨k,a,b,c⟩:=h.cells;exact q7 o st.err k w a b c
def vd (o m lo hi:Nat) (v:JV) (an ai:Option Addr) (cn ci:Nat) (st:PS) (w w':World):Prop :=
 zB o m lo hi v an ai cn ci st w'/\Touch (fun b=>b=o\/b=m) w w'
theorem fM {v:JV} {y:ByteArray} {st:PS} (h:st.err≠0):qh v y st=(⟨#[]⟩,st):=by unfold qh;rw [Q1 h]
theorem uP {v:JV} {y:ByteArray} {l h:Int} {st:PS} (a:st.err≠0):qR v y l h st=(0,st):=by unfold qR;rw [Q1 a]
theorem uF {v:JV} {y:ByteArray} {a:Nat} {st:PS} (h:st.err≠0):qi v y a st=(qF,st):=by unfold qi;rw [Q1 h]
theorem nK {st:PS} {e:Int} (h:st.err≠0):st.fail e=st:=by unfold PS.fail;rw [Z6 h]
theorem tx {o m lo hi:Nat} {v:JV} {an ai:Option Addr} {cn ci:Nat} {st:PS} {w:World} (y:ByteArray) (h:zB o m lo hi v an ai cn ci st w) (b:y.size<=4294967296) (a:st.asked.length<=4294967296) :
 Calls Tryz.prog 124 #[.pointer (some ⟨o,0,none⟩),.string y] w fun e w'=>e=.returned (.string (qh v y st).1)/\vd o m lo hi v an ai cn ci (qh v y st).2 w w':=by
 rcases h with h|⟨h1,h2,h3,h4⟩
 . exact (yZ o m lo hi v an ai cn ci y st w h b a).mono fun e w' ⟨e1,e2,e3⟩=>⟨e1,.inl e2,e3⟩
 . refine (fW o st.err y w h1).mono fun e w' ⟨e1,e2⟩=>?_;subst e2;rw [fM h1.1];exact ⟨e1,.inr ⟨h1,h2,h3,h4⟩,Touch.refl _ _⟩
theorem tC {o m lo hi:Nat} {v:JV} {an ai:Option Addr} {cn ci:Nat} {st:PS} {w:World} (y:ByteArray) (l u:Int) (h:zB o m lo hi v an ai cn ci st w) (c:y.size<=4294967296) (b:st.asked.length<=4294967296) :
 Calls Tryz.prog 123 #[.pointer (some ⟨o,0,none⟩),.string y,.int .i64 l,.int .i64 u] w fun e w'=>e=.returned (.int .i64 (qR v y l u st).1)/\vd o m lo hi v an ai cn ci (qR v y l u st).2 w w':=by
 have a:=h.lt;rcases h with h|⟨h1,h2,h3,h4⟩
 . exact (r8 o m lo hi v an ai cn ci y l u st w h c b a.2.1 a.1).mono fun e w' ⟨e1,e2,e3⟩=>⟨e1,.inl e2,e3⟩
 . refine (tG o st.err y l u w h1 h2).mono fun e w' ⟨e1,e2⟩=>?_;rw [uP h1.1];exact ⟨e1,.inr ⟨h1.below e2 h2,J7 h2 e2.size,h3,h4⟩,Touch.of_below e2 lz⟩
def ah (v:JV) (y:ByteArray) (most:Nat) (st:PS) (w:World) (e:Ending) (w':World):Prop :=
 ∃an' cn' ai' ci',e=.returned (.agg #[.int .u8 (qi v y most st).1.kind,.int .i64 (qi v y most st).1.n,.string (qi v y most st).1.t,.slice an' (qi v y most st).1.names.length cn',.slice ai' (qi v y most st).1.items.length ci'])/\Rep w' w.heap.size w'.heap.size (qi v y most st).1 (.agg #[.int .u8 (qi v y most st).1.kind,.int .i64 (qi v y most st).1.n,.string (qi v y most st).1.t,.slice an' (qi v y most st).1.names.length cn',.slice ai' (qi v y most st).1.items.length ci'])
theorem tj {o m lo hi:Nat} {v:JV} {an ai:Option Addr} {cn ci:Nat} {st:PS} {w:World} (y:ByteArray) (f:Nat) (h:zB o m lo hi v an ai cn ci st w) (i:y.size<=4294967296) (g:st.asked.length<=4294967296) :
 Calls Tryz.prog 62 #[.pointer (some ⟨o,0,none⟩),.string y,.int .i64 f] w fun e w'=>ah v y f st w e w'/\vd o m lo hi v an ai cn ci (qi v y f st).2 w w':=by
 rcases h with h|⟨h1,h2,h3,h4⟩
 . exact (r9 o m lo hi v an ai cn ci y f st w h i g).mono fun e w' ⟨⟨a,b,c,d,e1,e2⟩,e3,e4⟩=>⟨⟨a,b,c,d,e1,e2⟩,.inl e3,e4⟩
 . refine (tB o st.err y f w h1 h2).mono fun e w' ⟨e1,e2⟩=>?_;unfold ah;rw [uF h1.1];exact ⟨⟨none,0,none,0,e1,wn _ _ _⟩,.inr ⟨h1.below e2 h2,J7 h2 e2.size,h3,h4⟩,Touch.of_below e2 lz⟩
theorem p7 {o m lo hi:Nat} {v:JV} {an ai:Option Addr} {cn ci:Nat} {st:PS} {w:World} (e:Int) (h:zB o m lo hi v an ai cn ci st w) :
 Calls Tryz.prog 63 #[.pointer (some ⟨o,0,none⟩),.int .i64 e] w fun r w'=>r=.returned (.tuple #[])/\vd o m lo hi v an ai cn ci (st.fail e) w w':=by
 rcases h with h|⟨h1,h2,h3,h4⟩
 . exact (ld o m lo hi v an ai cn ci e st w h).mono fun r w' ⟨e1,e2,e3⟩=>⟨e1,.inl e2,e3⟩
 . refine (s9 o st.err e w h1).mono fun r w' ⟨e1,e2⟩=>?_;subst e2;rw [nK h1.1];exact ⟨e1,.inr ⟨h1,h2,h3,h4⟩,Touch.refl _ _⟩
theorem uH {o m lo hi:Nat} {v:JV} {an ai:Option Addr} {cn ci:Nat} {st:PS} {w:World} (h:zB o m lo hi v an ai cn ci st w) (c:v.wt<=4294967296) :
 Calls Tryz.prog 68 #[.pointer (some ⟨o,0,none⟩)] w fun e w'=>e=.returned (.int .i64 (qu v st))/\w=w':=by
 rcases h with h|⟨⟨a,c6,k,c0⟩,b⟩
 . exact pD o m lo hi v an ai cn ci st w h (fun i hi=>by have a:=kP v.names i hi;have b:=v.wt_eq;omega)
 . refine (fY o st.err k w a c6 c0).mono fun e w' ⟨e1,e2⟩=>⟨?_,e2⟩
   rw [e1];unfold qu;rw [Q1 a]
def st0 (v:JV):PS:=if v.kind=5 then ⟨[],0⟩ else ⟨[],10⟩
def wE (C:JV->Prop) (st:PS) (w:World) (e:Ending) (w':World):Prop :=
 ∃u o m lo hi an ai cn ci,C u/\u.wt<=4294967296/\e=.returned (.pointer (some ⟨o,0,none⟩))/\zB o m lo hi u an ai cn ci st w'/\w.heap.size<=o/\w.heap.size<=m/\O5 w w'
def jy (v u:JV):Prop:=u=if v.kind=5 then v else qF
theorem nV:qF.wt<=4294967296:=by rw [JV.wt_eq];decide
theorem tD {v:JV} {x:Value} {w:World} {lo hi:Nat} {C:JV->Prop} (m:Rep w lo hi v x) (k:v.kind≠5) (l:C qF):Calls Tryz.prog 60 #[x] w (wE C (st0 v) w):=by obtain ⟨h,j,g,i,rfl,-⟩:=m.parts;refine (g6 v.kind v.n v.t _ _ w k).mono ?_;rintro e w' ⟨o,b,a,c,d,f⟩;refine ⟨qF,o,o,0,0,none,none,0,0,l,nV,b,?_,a,a,f⟩;unfold st0;rw [Z6 k];exact .inr ⟨d,c,rfl,rfl⟩
theorem nW {v:JV} {x:Value} {w:World} {lo hi:Nat} (r:v.wt<=4294967296) (q:0<lo) (p:hi<=w.heap.size) (s:Rep w lo hi v x) (u:v.kind=5->qK v.names=true/\v.names.length=v.items.length):Calls Tryz.prog 60 #[x] w (wE (jy v) (st0 v) w):=by
 by_cases hk:v.kind=5
 . refine (y6 v x w lo hi r p s hk (u hk).1 (u hk).2 (fun _ _=>.inl q)).mono ?_;rintro e w' ⟨o,m,b,a,d,c,g,f,h,i,j,k,l⟩;refine ⟨v,o,m,b,a,d,c,g,f,?_,r,h,?_,j,k,l⟩
   . unfold jy;rw [Q1 hk]
   . unfold st0;rw [Q1 hk];exact .inl i
 . exact tD s hk (by unfold jy;rw [Z6 hk])
def qL (it:JV) (most:Nat):Int:=if it.kind≠4 then 10 else if most<it.items.length then 5 else 0
def zm (it:JV) (most:Nat):Int:=if qL it most≠0 then qL it most else if it.items.all (fun x=>decide (x.kind=3)) then 0 else 10
def kh (it:JV) (most:Nat):List ByteArray:=if zm it most=0 then it.items.map JV.t else []
theorem uU {it:JV} {a:Nat} (e:zm it a=0):it.kind=4/\¬a<it.items.length/\it.items.all (fun x=>decide (x.kind=3))=true:=by
 unfold zm qL at e;by_cases h1:it.kind=4
 . by_cases h2:a<it.items.length
   . simp [h1,h2] at e
   . cases h3:it.items.all (fun x=>decide (x.kind=3)) with
     | true=>exact ⟨h1,h2,rfl⟩
     | false=>simp [h1,h2,h3] at e
 . simp [h1] at e
theorem uM {it:JV} {a:List ByteArray} {b:Nat} {X:List ByteArray × PS} (e:¬zm it b=0) :
 (if it.kind≠4 then ([],(⟨a,10⟩:PS)) else if b<it.items.length then ([],⟨a,5⟩) else if it.items.all (fun x=>decide (x.kind=3)) then X else ([],⟨a,10⟩))=([],⟨a,zm it b⟩):=by
 unfold zm qL at e ⊢;by_cases h1:it.kind=4
 . by_cases h2:b<it.items.length
   . simp [h1,h2]
   . cases h3:it.items.all (fun x=>decide (x.kind=3)) with
     | true=>simp [h1,h2,h3] at e
     | false=>simp [h1,h2]
 . simp [h1]
theorem bL {it:JV} {a:Nat} (h:qL it a≠0):zm it a=qL it a:=by unfold zm;rw [Q1 h]
theorem p8 (it:JV) (f:Nat) (an' ai':Option Addr) (cn' ci':Nat) (w:World) :
 Calls Tryz.prog 129 #[.agg #[.int .u8 it.kind,.int .i64 it.n,.string it.t,.slice an' it.names.length cn',.slice ai' it.items.length ci'],.int .i64 f] w fun e w'=>e=.returned (.tuple #[if qL it f=0 then .slice ai' it.items.length ci' else .slice none 0 0,.int .i64 (qL it f)])/\O5 w w':=by
 have a:=O0 (O5 w (w.alloc (.cells #[.int .u8 it.kind,.int .i64 it.n,.string it.t,.slice an' it.names.length cn',.slice ai' it.items.length ci'] 25))) O4;by_cases hk:it.kind=4
 . by_cases h1:f<it.items.length
   . have b:=U (show qL it f=5 by unfold qL;rw [Z6 (by simp [hk]),Q1 h1]);rw [b.o,Z6 (show ¬(5:Int)=0 by decide)];rw [hk] at a ⊢;have c:decide ((f:Int)<(it.items.length:Int))=true:=by simpa using h1
     clear hk;go_enter Tryz.func129,Tryz.ntmps129;go_wp2;go_ret2;exact ⟨rfl,a.o⟩
   . have b:=U (show qL it f=0 by unfold qL;rw [Z6 (by simp [hk]),Z6 h1]);rw [b.o,Q1 rfl];rw [hk] at a ⊢;have c:decide ((f:Int)<(it.items.length:Int))=false:=by simpa using h1
     clear hk;go_enter Tryz.func129,Tryz.ntmps129;go_wp2;go_ret2;exact ⟨rfl,a.o⟩
 . have b:=U (show qL it f=10 by unfold qL;rw [Q1 hk]);rw [b.o,Z6 (show ¬(10:Int)=0 by decide)];have d:(it.kind != 4)=true:=by simpa using hk
   clear hk;go_enter Tryz.func129,Tryz.ntmps129;go_wp2;go_ret2;exact ⟨rfl,a.o⟩
theorem nY {w:World} {B T b n c:Nat} {a:Option Addr} {l:List Value} (h:w.ownsRow B T b (.slice a n c) n l):n<=c:=by
 rcases h.2 with ⟨hv,h0⟩|⟨g,cap,cur,hv,hg,hh,hc,r⟩
 . omega
 . simp only [X4] at hv;omega
def kV (it:JV) (most:Nat) (w:World) (e:Ending) (w':World):Prop :=
 ∃a c,e=.returned (.tuple #[.slice a (kh it most).length c,.int .i64 (zm it most)])/\(kh it most).length<=c/\qy w' w.heap.size w'.heap.size a (kh it most)/\O5 w w'
theorem p9 {it:JV} {a:Nat} {w w':World} {b:Int} (h:zm it a=b) (c:b≠0) (d:O5 w w'):kV it a w (.returned (.tuple #[.slice none 0 0,.int .i64 b])) w':=by unfold kV kh;rw [h,Z6 c];exact ⟨none,0,rfl,Z9 _,.inl rfl,d⟩
theorem lB (it:JV) (c6 p1:Nat) (an' ai':Option Addr) (cn' ci' lo:Nat) (w:World) (hN:it.wt<=4294967296) (hR:Rep w lo w.heap.size it (.agg #[.int .u8 it.kind,.int .i64 it.n,.string it.t,.slice an' it.names.length cn',.slice ai' it.items.length ci'])) (c1:w.cell? ⟨p1,0,none⟩=some (.int .i64 c6)) :
 Calls Tryz.prog 237 #[.agg #[.int .u8 it.kind,.int .i64 it.n,.string it.t,.slice an' it.names.length cn',.slice ai' it.items.length ci'],.pointer (some ⟨p1,0,none⟩)] w (kV it c6 w):=by
 obtain ⟨b8,c0,b7,b9,hx,-,-,-,h4⟩:=hR.parts;simp only [K3,K8,V4,X4,H7,N7] at hx;obtain ⟨⟨rfl,rfl⟩,rfl,rfl⟩:=hx;obtain ⟨W,Z⟩:=O1 (w.alloc (.cells #[.int .u8 it.kind,.int .i64 it.n,.string it.t,.slice an' it.names.length cn',.slice ai' it.items.length ci'] 25));have T:=O7 Z
 have d1:W.cell? ⟨p1,0,none⟩=some (.int .i64 c6):=by rw [T.cell (V9 w _ c1)];exact c1
 have u:=O9 Z
 have G:=U (p8 it c6 an' ai' cn' ci' W);have o:=U T;have H4:=U h4;have Y:=U Z;have J:=U (show it.items.length<=4294967296 by have:=it.wt_bd;omega);obtain ⟨x0,x1,x2,x3,x4⟩:=bx5 u;clear T c1 Z h4 hR u hN;obtain ⟨E,s⟩:=O1 it.items.length;rw [<- s] at G J x4 ⊢;rw [<- s] at Y;have p:=U s;clear s;by_cases hie:qL it c6=0
 case neg =>
  have L:=U (bL hie);obtain ⟨er,A⟩:=O1 (qL it c6);rw [Z6 hie,<- A] at G;rw [<- A] at L hie;have h1:(er != 0)=true:=by simpa using hie
  have a8:=U hie;clear hie A;go_enter Tryz.func237,Tryz.ntmps237;go_upto_region 1 with fail
  rw [<- Y.o];go_wp2_with fail;refine G.o.mono ?_;rintro e F ⟨rfl,g⟩;have d:=U (O2 o g);clear g;go_wp2;go_ret2;exact p9 L.o a8.o d.o
 have L:=U (show zm it c6=if it.items.all (fun x=>decide (x.kind=3)) then 0 else 10 by unfold zm;rw [Z6 (by simp [hie])]);rw [Q1 hie,hie] at G;clear hie;obtain ⟨i2,b2,u,b4,b5⟩:=V2 gr;go_enter Tryz.func237,Tryz.ntmps237;go_upto_region 1 with fail
 rw [<- Y.o];go_wp2_with fail;refine G.o.mono ?_;clear G;rintro e F ⟨rfl,g⟩;have d:=U (O2 o g);clear g Y x0 x1 x2 x3 x4 d1;go_wp2;go_loopw [7,9,21] (fun vs _ i wr=>∃(k:Nat),k<=E/\i=.int .i64 k/\(∀j (h:j<it.items.length),j<k->it.items[j].kind=3)/\wr.ownsRow F.heap.size 9 1 vs k (((it.items.map JV.t).take k).map .string)/\O5 F wr) (fun _ _ i _=>E - (intOf i).toNat)
 case atStart=>exact ⟨0,by omega,rfl,fun j _ h=>by omega,Y0 _ _ _ _,Z0 _ _⟩
 case round =>
  obtain ⟨k,hk,rfl,S,a,c⟩:=hrel;have B:((it.items.map JV.t).take k).length=k:=by rw [List.length_take,J6,<- p.o];omega
  obtain ⟨am,cm,V,-,-⟩:=zH a B.symm;rw [B] at V;subst V;clear B;have I:Hid (O5 w wr):=O2 d c;have a0:=U c;have HO:=U a;have H:=U S;clear S;by_cases hlt:k<E
  . have v:k<it.items.length:=by rw [<- p.o];exact hlt
    obtain ⟨b,b6,P,R,N,Q,rfl,_,c2,y0,y1,y2,y3,y4,_⟩:=(H4.o.below I.o lz lz I.o.size).get k v;have b0:=U (show ((it.items.map JV.t).take (k+1)).map Value.string=((it.items.map JV.t).take k).map .string ++ [.string it.items[k].t] by rw [Z8 (by simpa using v),N0];simp);have y:=O0 (it.items[k].kind≠3->it.items.all (fun x=>decide (x.kind=3))=false) (fun h=>N9.2 ⟨it.items[k],J1 _,by simpa using h⟩);have z:=U (show it.items[k].kind=3->∀j (h:j<it.items.length),j<k+1->it.items[j].kind=3 from fun h j hj hjk=>by
     rcases V3.1 hjk with h1|h1
     . exact H.o j hj h1
     . subst h1;exact h)
    obtain ⟨vo,b3⟩:=O1 ((Value.slice (some ⟨b,b6,none⟩) E ci'));clear vo b3;generalize it.items[k]=x at *;have hz:F.heap.size<=wr.heap.size:=c.size;obtain ⟨m,f⟩:=O1 (wr.alloc (.cells #[.int .u8 x.kind,.int .i64 x.n,.string x.t,.slice P x.names.length R,.slice N x.items.length Q] 25));have r:=O7 f
    have D:=O9 f
    have a1:=U (a0.o.trans (r.mono hz));have K:=U (qE HO.o r);have a2:=U (O2 I r);have c4:F.heap.size<=m.heap.size:=by rw [f];simp;omega
    have M:=U f;have z0:=qq D (j:=0) rfl;have z2:=qq D (j:=2) rfl;clear c a r D f;by_cases hk3:x.kind=3
    . have a6:=U (z.o hk3);have h3:(x.kind != 3)=false:=by simpa using hk3
      have c3:=J.o;clear hk3 y z;go_upto_region 8 with fail
      rw [<- M.o];go_wp2_with (at_builtin;refine X9 _ rfl (.tmp 28) (.tmp 31) 22 rfl F.heap.size 9 i2 _ 1 16 M0 b2 u b4 b5 rfl (by decide) (.slice am k cm) k (((it.items.map JV.t).take k).map .string) rfl (K.o.alloc _) ⟨m.heap.size,0,none⟩ 1 1 [.string x.t] rfl rfl (J5 (cs:=#[.string x.t]) (t:=9) (fr:=(0,0)) (Z4 m _)) (by simp [Value.oneCell']) (by omega) (by unfold maxLen;omega) (by omega) (by simp;omega) (m.heap.size+1) (by simp) ?_;intro g1 cap2 w6 hown6 hgrow6 hat6 hlt6;have a9:=U hown6;have a4:=U hgrow6;clear hown6 hgrow6 hat6);go_roundw
      case rel => refine ⟨k+1,by omega,by go_num,a6.o,?_,below_grown (a1.o.alloc (by omega) _) (by simp;omega) a4.o (fun b T=>(K.o.lt b T).1)⟩;rw [b0.o];exact a9.o
      case measure=>simp [intOf];omega
    . have q:=U (show zm it c6=10 by rw [L.o,y.o hk3];rfl);have h3:(x.kind != 3)=true:=by simpa using hk3
      clear hk3 y z;go_upto_region 8 with fail
      rw [<- M.o];go_wp2;go_ret2;exact p9 q.o (by decide) a2.o
  . obtain rfl:k=E:=by omega
    have q:=U (show zm it c6=0 by
     rw [L.o,Q1];refine X3.2 fun x hx=>?_;obtain ⟨j,hj,rfl⟩:=Y1 hx;simpa using H.o j hj (by rw [p.o];exact hj))
    have l:(it.items.map JV.t).length=k:=by rw [J6,p.o]
    rw [Q4 (X6 l)] at a;obtain ⟨a5,c5,C,_,X⟩:=zH a l.symm;rw [l] at C;simp only [X4,H7] at C;obtain ⟨rfl,rfl⟩:=C;have b1:=U X;have a7:=U l;have a3:=U (nY a);clear a X c l;go_wp2;go_ret2;have e1:kh it c6=it.items.map JV.t:=by unfold kh;rw [Q1 q.o]
    unfold kV;rw [e1,q.o,a7.o];exact ⟨am,cm,rfl,a3.o,b1.o.carry d.o.size lz (fun _ _ _=>rfl),I.o⟩
def kS (o m lo hi:Nat) (v:JV) (an ai:Option Addr) (cn ci:Nat) (y:ByteArray) (most:Nat) (st:PS) (w:World) (e:Ending) (w':World):Prop :=
 (∃a c,e=.returned (.slice a (qg v y most st).1.length c)/\(qg v y most st).1.length<=c/\qy w' w.heap.size w'.heap.size a (qg v y most st).1)/\PickAt o m lo hi v an ai cn ci (qg v y most st).2 w'/\Touch (fun b=>b=o\/b=m) w w'
theorem wK {o m lo hi:Nat} {v:JV} {an ai:Option Addr} {cn ci:Nat} {y:ByteArray} {a:Nat} {st c:PS} {w w':World} (h:qg v y a st=([],c)) (d:PickAt o m lo hi v an ai cn ci c w') (e:Touch (fun b=>b=o\/b=m) w w'):kS o m lo hi v an ai cn ci y a st w (.returned (.slice none 0 0)) w':=by unfold kS;rw [h];exact ⟨⟨none,0,rfl,Z9 _,.inl rfl⟩,d,e⟩
theorem lP (o m lo hi:Nat) (v:JV) (an ai:Option Addr) (cn ci:Nat) (y:ByteArray) (b2:Nat) (st:PS) (w:World) (hP:PickAt o m lo hi v an ai cn ci st w) (hy:y.size<=4294967296) (ha:st.asked.length<=4294967296) (p1:Nat) (g1:w.heap[p1]?=some (.cells #[.int .i64 b2] 3 (0,0))) :
 Calls Tryz.prog 236 #[.pointer (some ⟨o,0,none⟩),.string y,.func (.func 237) #[] #[.pointer (some ⟨p1,0,none⟩)]] w (kS o m lo hi v an ai cn ci y b2 st w):=by
 have f:=U hP;have H:=U g1;clear hP g1;have W:=qq f.o.obj (j:=6) rfl;have c0:w.cell? ⟨o,0,none⟩=some (.int .u8 5):=(qq (j:=0) f.o.obj rfl).trans (by rw [f.o.kind];rfl);by_cases he:st.err=0
 . rw [he] at W;have B:=U he;clear he;have c1:=qq f.o.obj (j:=1) rfl;have c2:=qq f.o.obj (j:=2) rfl;have c3:=qq f.o.obj (j:=3) rfl;have c4:=qq f.o.obj (j:=4) rfl;have HR:=U f.o.rep;rw [f.o.kind] at HR;have HG:=U (jU v y _ w lo hi f.o.wt f.o.pos f.o.le HR.o f.o.kind f.o.rise f.o.len);go_enter Tryz.func236,Tryz.ntmps236;go_wp2_with fail;refine (q7 o 0 5 w W c0 (fun _=>rfl)).mono ?_;rintro r w' ⟨rfl,rfl⟩;go_wp2_with fail;refine HG.o.mono ?_;clear HG c0 c1 c2 c3 c4 W;rintro e A ⟨hh,Q⟩;have g:=U Q;clear Q;rcases hh with ⟨r,hr1,hr2,hre,an',cn',ai',ci',rfl,hrep⟩|⟨hno,rfl⟩
   . have HL:=U (xE f.o.rise r hr1 hr2 hre);have I:=U hrep;have a3:=U (show v.items[r].wt<=4294967296 by have h1:=JV.wts_get v.items r hr2;have h2:=v.wt_bd;have h3:=f.o.wt;omega);clear hre hrep;generalize v.items[r]=it at *;have F:O5 w (A.alloc (.cells #[.int .u8 it.kind,.int .i64 it.n,.string it.t,.slice an' it.names.length cn',.slice ai' it.items.length ci'] 25)):=g.o.alloc g.o.size _;have i:=U F;have x:=U (lB it b2 p1 an' ai' cn' ci' w.heap.size (A.alloc (.cells #[.int .u8 it.kind,.int .i64 it.n,.string it.t,.slice an' it.names.length cn',.slice ai' it.items.length ci'] 25)) a3.o (I.o.below O4 lz lz (by simp)) (qq ((F.block _ (qz H.o)).trans H.o) rfl));clear F;unfold kV at x;by_cases hk:zm it b2=0
     . have z:=U (show qg v y b2 st=(it.items.map JV.t,⟨y :: st.asked,0⟩) by unfold qg;rw [Z6 (by simp [B.o]),HL.o];obtain ⟨q1,q2,q3⟩:=uU hk;simp only;rw [Z6 (by simp [q1]),Z6 q2,Q1 q3]);rw [show kh it b2=it.items.map JV.t by unfold kh;rw [Q1 hk],hk] at x;clear hk;obtain ⟨L,hL⟩:=O1 (it.items.map JV.t);rw [<- hL] at x z;clear hL;go_wp2_with fail;refine x.o.mono ?_;clear x;rintro e G ⟨al,cl,rfl,R,T,q⟩;have X:=U R;clear R;have a:=U (O2 i q);have d:=U (f.o.below a.o);have a2:=U T;have K:=O0 (w.heap.size<(A.alloc (.cells #[.int .u8 it.kind,.int .i64 it.n,.string it.t,.slice an' it.names.length cn',.slice ai' it.items.length ci'] 25)).heap.size) (by have:=g.o.size;simp;omega);have Z:=O0 (m<w.heap.size) (by obtain ⟨D,n,h,_⟩:=f.o.map;exact h.lt);clear q i T;have d5:=qq d.o.obj (j:=5) rfl;have s:Go.keyOf Tryz.prog 9 (.string y)=some (.string y.data.toList):=keyOf_string_mk X0 (by unfold maxLen;omega);obtain ⟨D,n,u,hn,hD⟩:=d.o.map;obtain ⟨c,E,a6,a7,a4⟩:=hD.2 y;obtain ⟨c',a5,p,_⟩:=u.lookup_int jq Y6 X5 (j8 _) s;rw [E] at p;simp only [H9,M4,H7] at p;subst p;have HD:=U (hD.cons y c E);have Y:=U s;have a0:=U u;clear hD E a4 s u;go_wp2_with (at_mapUpdate;refine G8 _ rfl _ _ _ 150 rfl 9 3 jq Y6 _ m n D rfl a0.o (by unfold maxLen;omega) _ _ _ rfl rfl Y.o _ [] (plainElem_int X5 (WalkArith.wf_i64 (by omega))) ?_);intro V hown3 hgrow3;have l:=U (d.o.ask y hgrow3 hown3 (by omega) HD.o);have J:=O0 (Touch (fun b=>b=o\/b=m) w V) (⟨by rw [hgrow3.os,a.o.os],by rw [hgrow3.tape,a.o.tape],by rw [hgrow3.output,a.o.output],Z5 a.o.size hgrow3.size,fun k hk hs=>by rw [hgrow3.block k (J7 hk a.o.size) (fun e=>hs (.inr (J0 e))),a.o.block k hk]⟩);have a1:=O0 (qy V w.heap.size V.heap.size al L) (a2.o.carry (Nat.le_of_lt K.o) hgrow3.size fun b h1 h2=>hgrow3.block b h2 (fun e=>by have:=J0 e;have:=K.o;have:=Z.o;omega));clear hgrow3 hown3;rw [B.o] at l;go_wp2;go_ret;unfold kS;rw [z.o];exact ⟨⟨al,cl,rfl,X.o,a1.o⟩,l.o,J.o⟩
     . have z:=U (show qg v y b2 st=([],⟨st.asked,zm it b2⟩) by unfold qg;rw [Z6 (by simp [B.o]),HL.o];exact uM hk);rw [show kh it b2=[] by unfold kh;rw [Z6 hk]] at x;obtain ⟨C,S⟩:=O1 (zm it b2);rw [<- S] at x z hk;have b0:(C != 0)=true:=by simpa using hk
       have b1:(C == 0)=false:=by simpa using hk
       clear hk S;go_wp2_with fail;refine x.o.mono ?_;clear x;rintro e G ⟨al,cl,rfl,-,-,q⟩;have a:=U (O2 i q);have d:=U (f.o.below a.o);clear q i;have N:G.cell? ⟨o,6,none⟩=some (.int .i64 0):=(qq (j:=6) d.o.obj rfl).trans (by rw [B.o];rfl);have M:G.cell? ⟨o,0,none⟩=some (.int .u8 5):=(qq (j:=0) d.o.obj rfl).trans (by rw [f.o.kind];rfl);have P:G.frozen? ⟨o,6,none⟩=false:=by simp [World.frozen?,d.o.obj]
       go_wp2_with fail
       refine (zD o C _ N M P).mono ?_;clear N M P;rintro e V ⟨rfl,rfl⟩;have l:=U (d.o.fail C);have J:=O0 (Touch (fun b=>b=o\/b=m) w (G.setCell ⟨o,6,none⟩ (.int .i64 C))) ((Touch.of_below a.o lz).setCell (.inl (.inl rfl)) _);go_wp2;go_ret;exact wK z.o l.o J.o
   . have z:=U (show qg v y b2 st=([],⟨st.asked,6⟩) by unfold qg;rw [Z6 (by simp [B.o]),show v.look y=none from xu _ _ _ hno]);unfold zeroAgg;have a:=O0 (O5 w (A.alloc (.cells #[.int .u8 0,.int .i64 0,.string ⟨#[]⟩,.slice none 0 0,.slice none 0 0] 25))) (g.o.alloc g.o.size _);have d:=U (f.o.below a.o);clear hno g;have N:(A.alloc (.cells #[.int .u8 0,.int .i64 0,.string ⟨#[]⟩,.slice none 0 0,.slice none 0 0] 25)).cell? ⟨o,6,none⟩=some (.int .i64 0):=(qq (j:=6) d.o.obj rfl).trans (by rw [B.o];rfl);have M:(A.alloc (.cells #[.int .u8 0,.int .i64 0,.string ⟨#[]⟩,.slice none 0 0,.slice none 0 0] 25)).cell? ⟨o,0,none⟩=some (.int .u8 5):=(qq (j:=0) d.o.obj rfl).trans (by rw [f.o.kind];rfl);have P:(A.alloc (.cells #[.int .u8 0,.int .i64 0,.string ⟨#[]⟩,.slice none 0 0,.slice none 0 0] 25)).frozen? ⟨o,6,none⟩=false:=by simp [World.frozen?,d.o.obj]
     go_wp2_with fail
     refine (zD o 6 _ N M P).mono ?_;clear N M P;rintro e V ⟨rfl,rfl⟩;have l:=U (d.o.fail 6);have J:=O0 (Touch (fun b=>b=o\/b=m) w ((A.alloc (.cells #[.int .u8 0,.int .i64 0,.string ⟨#[]⟩,.slice none 0 0,.slice none 0 0] 25)).setCell ⟨o,6,none⟩ (.int .i64 6))) ((Touch.of_below a.o lz).setCell (.inl (.inl rfl)) _);go_wp2;go_ret;exact wK z.o l.o J.o
 . have a8:(st.err == 0)=false:=by simpa using he
   have a9:(st.err != 0)=true:=by simpa using he
   have z:=U (show qg v y b2 st=([],st) by unfold qg;rw [Q1 he]);have B:=U he;clear he;go_enter Tryz.func236,Tryz.ntmps236;go_wp2_with fail;refine (q7 o st.err 5 w W c0 (fun _=>rfl)).mono ?_;rintro r w' ⟨rfl,rfl⟩;go_wp2;go_ret;exact wK z.o f.o (Touch.refl _ _)
theorem cJ {o m lo hi:Nat} {v:JV} {an ai:Option Addr} {cn ci:Nat} {st:PS} {w:World} (y:ByteArray) (P:Nat) (h:zB o m lo hi v an ai cn ci st w) (S:y.size<=4294967296) (Q:st.asked.length<=4294967296) :
 Calls Tryz.prog 182 #[.pointer (some ⟨o,0,none⟩),.string y,.int .i64 P] w fun e w'=>(∃a c,e=.returned (.slice a (qg v y P st).1.length c)/\(qg v y P st).1.length<=c/\qy w' w.heap.size w'.heap.size a (qg v y P st).1)/\vd o m lo hi v an ai cn ci (qg v y P st).2 w w':=by
 have g:O5 w (w.alloc (.cells #[.int .i64 P] 3)):=O4;have x:=U (show Calls Tryz.prog 236 #[.pointer (some ⟨o,0,none⟩),.string y,.func (.func 237) #[] #[.pointer (some ⟨w.heap.size,0,none⟩)]] (w.alloc (.cells #[.int .i64 P] 3)) (fun e w'=>(∃a c,e=.returned (.slice a (qg v y P st).1.length c)/\(qg v y P st).1.length<=c/\qy w' w.heap.size w'.heap.size a (qg v y P st).1)/\vd o m lo hi v an ai cn ci (qg v y P st).2 w w') by
  have f:Touch (fun b=>b=o\/b=m) w (w.alloc (.cells #[.int .i64 P] 3)):=Touch.of_below g lz;rcases h with h|⟨⟨d,c6,k,c0⟩,j,h3,h4⟩
  . refine (lP o m lo hi v an ai cn ci y P st _ (h.below g) S Q w.heap.size (Z4 w _)).mono ?_;rintro e w' ⟨⟨a,c,F,K,G⟩,H,I⟩;exact ⟨⟨a,c,F,K,G.carry g.size lz (fun _ _ _=>rfl)⟩,.inl H,f.trans (I.mono fun _ _ h=>h)⟩
  . obtain ⟨i,l⟩:=O1 (w.alloc (.cells #[.int .i64 P] 3));rw [<- l] at g f ⊢;have s:=O0 (zB o m lo hi v an ai cn ci st i) ((zB.below (.inr ⟨⟨d,c6,k,c0⟩,j,h3,h4⟩) g));have J:i.cell? ⟨o,6,none⟩=some (.int .i64 st.err):=by rw [g.cell j];exact c6
    have E:i.cell? ⟨o,0,none⟩=some (.int .u8 k):=by rw [g.cell j];exact c0
    have M:(st.err == 0)=false:=by simpa using d
    have N:(st.err != 0)=true:=by simpa using d
    have C:=U d;have u:=U f;have D:=U (show qg v y P st=([],st) by unfold qg;rw [Q1 d]);clear d c6 c0 l g f;go_enter Tryz.func236,Tryz.ntmps236;go_wp2_with fail;refine (q7 o st.err k i J E (fun h=>absurd h C.o)).mono ?_;rintro r w' ⟨rfl,L⟩;subst L;go_wp2;go_ret;rw [D.o];exact ⟨⟨none,0,rfl,Z9 _,.inl rfl⟩,s.o,u.o⟩)
 clear h g;obtain ⟨R,z⟩:=O1 (qg v y P st);rw [<- z] at x ⊢;clear z;go_enter Tryz.func182,Tryz.ntmps182;go_wp2_with fail;refine x.o.mono ?_;rintro e w' ⟨⟨a,c,rfl,p,d⟩,j⟩;have q:=U p;clear p;have A:=U d;have B:=U j;clear d j;go_wp2;go_ret;exact ⟨⟨a,c,rfl,q.o,A.o⟩,B.o⟩
def lF (l:List ByteArray) (w:World) (e:Ending) (w':World):Prop :=
 ∃ai ci,e=.returned (.agg #[.int .u8 4,.int .i64 0,.string ⟨#[]⟩,.slice none 0 0,.slice ai l.length ci])/\Rep w' w.heap.size w'.heap.size (qm l) (.agg #[.int .u8 4,.int .i64 0,.string ⟨#[]⟩,.slice none 0 0,.slice ai l.length ci])/\O5 w w'
theorem fC (l:List ByteArray) (a:Option Addr) (c:Nat) (w:World) (hS:qy w 0 w.heap.size a l) (hl:l.length<=4294967296) :
 Calls Tryz.prog 203 #[.slice a l.length c] w (lF l w):=by
 obtain ⟨W,K⟩:=O1 ((w.alloc (.cells #[.int .u8 0,.int .i64 0,.string ⟨#[]⟩,.slice none 0 0,.slice none 0 0] 25)).alloc (.cells #[.int .u8 4,.int .i64 0,.string ⟨#[]⟩,.slice none 0 0,.slice none 0 0] 25));have x:(w.alloc (.cells #[.int .u8 0,.int .i64 0,.string ⟨#[]⟩,.slice none 0 0,.slice none 0 0] 25)).heap.size=w.heap.size+1:=by simp
 have y:W.heap.size=w.heap.size+2:=by rw [K];simp
 have a2:O5 w W:=by rw [K];exact (O4).alloc (by simp) _
 have a8:W.rowIs w.heap.size 25 5 (qB (.int .u8 0) (.int .i64 0) (.string ⟨#[]⟩) (.slice none 0 0) (.slice none 0 0)):=by rw [K];exact (qt w (.int .u8 0) (.int .i64 0) (.string ⟨#[]⟩) (.slice none 0 0) (.slice none 0 0) 25).alloc _
 have a9:W.rowIs (w.heap.size+1) 25 5 (qB (.int .u8 4) (.int .i64 0) (.string ⟨#[]⟩) (.slice none 0 0) (.slice none 0 0)):=(by have:=qt (w.alloc (.cells #[.int .u8 0,.int .i64 0,.string ⟨#[]⟩,.slice none 0 0,.slice none 0 0] 25)) (.int .u8 4) (.int .i64 0) (.string ⟨#[]⟩) (.slice none 0 0) (.slice none 0 0) 25;rw [x,<- K] at this;exact this);have HS:=U hS;have HW:=U K;have N:=U a2;have b3:=U a8;have X:=U a9;have r:=U y;obtain ⟨L,J⟩:=O1 l.length;have q:=U J;rw [<- J] at hl ⊢;clear hS K a2 a8 a9 x y J;obtain ⟨i0,c1,c2,x,y⟩:=V2 xY;go_enter Tryz.func203,Tryz.ntmps203;go_upto_region 2 with fail
 rw [<- HW.o];clear HW;obtain ⟨o,H⟩:=O1 (w.heap.size+1);have E:=U H;rw [<- H] at X ⊢;have a4:o<W.heap.size:=by have:=r.o;omega
 clear H;go_wp2;go_loopw [5,9] (fun _ i wr=>∃(k:Nat) (cs:List Value) (z:Value),k<=L/\i=.int .i64 k/\Touch (· = o) W wr/\wr.rowIs o 25 5 (qB (.int .u8 4) (.int .i64 0) (.string ⟨#[]⟩) (.slice none 0 0) z)/\wr.ownsRow W.heap.size 25 5 z k cs/\q6 wr W.heap.size (fun b=>b=o\/z.ownBlock=some b) ((l.take k).map txtJ) cs) (fun _ i _=>L - (intOf i).toNat)
 case atStart=>exact ⟨0,[],.slice none 0 0,by omega,rfl,Touch.refl _ _,X.o,Y0 _ _ _ _,by simpa using q6.nil _ _ _⟩
 case round =>
  obtain ⟨k,cs,z,hk,rfl,f,d,h,s⟩:=hrel;by_cases hlt2:k<L
  . have B:k<l.length:=by rw [<- q.o];exact hlt2
    have HB:Hid (O5 w wr):=N.o.trans (f.below (by have:=r.o;omega) fun j hj e=>by have:=E.o;omega);obtain ⟨b,d0,rfl,_,hb,y0⟩:=(HS.o.below HB.o lz lz lz).at k B;have b6:=U (show (l.take (k+1)).map txtJ=(l.take k).map txtJ ++ [txtJ l[k]] by rw [Z8 B,N0];rfl);have c4:wr.cell? ⟨o,4,none⟩=some z:=d.cell (by omega);have f4:wr.frozen? ⟨o,4,none⟩=false:=d.frozen 4;have I:o<wr.heap.size:=d.lt;have c9:W.heap.size<=wr.heap.size:=f.size;have a6:some o≠z.ownBlock:=fun e=>by have:=(h.lt _ e.symm).1;omega
    have a0:=U d;have a1:=U f;have HO:=U h;have Z:=U s;clear d f h s;generalize l[k]=it at *;have Q:=U (show Calls Tryz.prog 201 #[.string it] wr.drew (fun e p=>e=.returned (.agg #[.int .u8 3,.int .i64 0,.string it,.slice none 0 0,.slice none 0 0])/\Rep p (wr.heap.size+1) p.heap.size (txtJ it) (.agg #[.int .u8 3,.int .i64 0,.string it,.slice none 0 0,.slice none 0 0])/\Below (wr.heap.size+1) ((wr.alloc (.cells #[.int .u8 3,.int .i64 0,.string it,.slice none 0 0,.slice none 0 0] 25)).drew) p/\wr.heap.size<p.heap.size/\p.cell? ⟨o,4,none⟩=some z/\p.frozen? ⟨o,4,none⟩=false/\p.ownsRow W.heap.size 25 5 z k cs) by
     refine (kC it wr.drew).mono ?_;rintro e p ⟨rfl,rfl⟩;have F:O5 wr (wr.drew.alloc (.cells #[.int .u8 3,.int .i64 0,.string it,.slice none 0 0,.slice none 0 0] 25)):=(Z0 _ _).drew.alloc lz _;exact ⟨rfl,vH _ _ _ _,Z0 _ _,by simp,by rw [F.cell I];exact c4,by rw [F.frozen I];exact f4,qE HO.o F⟩)
    go_wp2_with fail
    go_region_law (first|(refine N5 _ (by rfl) (.tmp 14) (.tmp 17) 23 (by rfl) W.heap.size 25 i0 _ 5 80 W8 c1 c2 x y rfl (by omega) z k cs (by rfl) (T.o.alloc _) ⟨p.heap.size,0,none⟩ 1 1 (Array.toList #[.int .u8 3,.int .i64 0,.string it,.slice none 0 0,.slice none 0 0]) (by rfl) (by rfl) (J5 (cs:=#[.int .u8 3,.int .i64 0,.string it,.slice none 0 0,.slice none 0 0]) (t:=25) (fr:=(0,0)) (Z4 p _)) (by simp [Value.oneCell']) (by omega) (by unfold maxLen;omega) (by omega) (by simp;omega) (p.heap.size+1) (by simp) ?_;intro g cap w4 hown4 hgrow4 hat4 hlt4;have c6:=zw hgrow4 A a6 b8;have c7:=zf hgrow4 A a6 b9;have V:=U hown4;have R:=U hgrow4;have M:=U hat4;clear hown4 hgrow4 hat4)|(go_simp;go_at_call 201;(with_reducible refine Q.o.mono ?_);rintro e p ⟨rfl,b0,a3,c3,b8,b9,a7⟩;have A:o<p.heap.size:=za0 I c3;have T:=U a7;have Y:=U b0;have P:=U a3;clear a7 b0 a3))
    all_goals
     have b5:=U (row_step (j:=4) (it:=txtJ it) (an:=none) (cn:=0) (ai:=none) (ci:=0) a4 a1.o a0.o HO.o Z.o P.o Y.o R.o M.o V.o);clear a1 a0 HO Z P Y R M V T Q;go_wp2;go_roundw
     case rel => obtain ⟨z1,z2,z3,z4⟩:=b5.o;refine ⟨k+1,_,_,by omega,by go_num,z1,z2.congr fun i hi=>?_,z3,by rw [b6.o];exact z4⟩;rcases i with _|_|_|_|_|i <;> first|rfl|omega
     case measure=>simp [intOf];omega
  . obtain rfl:k=L:=by omega
    have C:(l.take k).map txtJ=l.map txtJ:=by rw [Q4 (by rw [<- q.o];exact Z9 _)]
    rw [C] at s;have u:(l.map txtJ).length=k:=by rw [J6,<- q.o]
    obtain ⟨a5,c5,rfl,G,b1⟩:=xn h s u.symm;rw [u] at G d;have b7:=U b1;have b2:=U G;have S:=U u;have m:=(f.row b3.o (by have:=E.o;omega));obtain ⟨r0,r1,r2,r3,r4⟩:=rc5 d;obtain ⟨t0,t1,t2,t3,t4⟩:=rc5 m;obtain ⟨s0,s1,s2,s3,s4⟩:=rf5 m;simp only [qB] at r0 r1 r2 r3 r4 t0 t1 t2 t3 t4;have HT:=U f;have b4:=U m;clear d m h s b1 f C G u;go_wp2;refine Q3 (J2 Tryz.results203 _ _ w.heap.size 25 _ (0,0) _ rfl (qJ (set5 _ _ _ _ _ b4.o)) Q6 rfl (by kernel_rfl)) rfl ?_;have c0:O5 w wr:=N.o.trans (HT.o.below (by have:=r.o;omega) fun j hj e=>by have:=E.o;omega);refine ⟨a5,c5,by rw [<- q.o],?_,zn _ _ _ _ _ c0 lz⟩;rw [<- q.o];have D:=Rep.mk (v:=qm l) (an:=none) (cn:=0) (ai:=a5) (ci:=c5) (w:=wr) (lo:=W.heap.size) (hi:=wr.heap.size) lz (by show (l.map txtJ).length<=c5;rw [S.o];exact b2.o) (.inl rfl) b7.o;have e5:(qm l).items.length=k:=S.o;rw [e5] at D;exact Rep.carry (by have:=r.o;omega) (show wr.heap.size<=_ by simp [World.setCell]) (fun j hj _=>js _ _ _ _ _ (by have:=r.o;omega)) _ _ D
