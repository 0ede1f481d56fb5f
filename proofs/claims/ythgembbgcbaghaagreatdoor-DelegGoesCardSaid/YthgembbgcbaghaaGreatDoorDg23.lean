import Derived.Test.YthgembbgcbaghaaGreatDoorDg22
import Derived.Test.YthgembbgcbaghaaGreatDoorDg08
set_option maxHeartbeats 2000000
set_option maxRecDepth 100000

namespace Go.Proofs.YthgembbgcbaghaaGreatDoor
open Go.RowKit
structure RootIn (w:World) (lo hi:Nat) (r:RootV) (ka i1 i2 i3:Option Addr):Prop where
 keys:xu w lo hi ka r.keys
 a:qv w lo hi i1 r.au.a.ids
 b:qv w lo hi i2 r.au.b.ids
 c:qv w lo hi i3 r.au.c.ids
def jw (a:AuthV):Prop:=(-9223372036854775808<=a.thr/\a.thr<=9223372036854775807)/\a.ids.length<=4294967296/\∀s ∈ a.ids,s.size<=4294967296
structure RootFits (r:RootV):Prop where
 ver:-9223372036854775808<=r.ver/\r.ver<=9223372036854775807
 exp:-9223372036854775808<=r.exp/\r.exp<=9223372036854775807
 len:r.keys.length<=40
 keys:∀k ∈ r.keys,k.1.size<=300/\k.2.size<=300
 a:jw r.au.a
 b:jw r.au.b
 c:jw r.au.c
theorem cP {a:AuthV} (h:jg a=true):jw a:=by obtain ⟨c,d,b⟩:=zO h;refine ⟨by omega,by omega,fun s hs=>?_⟩;have:=(kZ (jh _ _ b s hs)).2;omega
structure DelegIn (w:World) (lo hi:Nat) (x:DelegV) (ia pa qa:Option Addr):Prop where
 ids:qv w lo hi ia x.au.ids
 paths:qv w lo hi pa x.paths
 pres:qv w lo hi qa x.pres
theorem DelegIn.carry {w w':World} {lo hi lo' hi':Nat} {x:DelegV} {e pa f:Option Addr} (h:DelegIn w lo hi x e pa f) (a:lo'<=lo) (c:hi<=hi') (d:∀b,lo<=b->b<hi->w'.heap[b]?=w.heap[b]?):DelegIn w' lo' hi' x e pa f :=
 ⟨h.ids.carry a c d,h.paths.carry a c d,h.pres.carry a c d⟩
theorem DelegIn.below {w w':World} {lo hi lo' hi' B:Nat} {x:DelegV} {a pa c:Option Addr} (h:DelegIn w lo hi x a pa c) (f:Below B w w') (g:hi<=B) (d:lo'<=lo) (e:hi<=hi'):DelegIn w' lo' hi' x a pa c :=
 h.carry d e fun b _ hlt=>f.block b (by omega)
def go (w:World) (lo hi b o:Nat) (x:DelegV):Prop :=
 ∃ia ic pa pc qa qc,w.cell? ⟨b,o,none⟩=some (.string x.name)/\w.cell? ⟨b,o+1,none⟩=some (.int .i64 x.au.thr)/\w.cell? ⟨b,o+2,none⟩=some (.slice ia x.au.ids.length ic)/\w.cell? ⟨b,o+3,none⟩=some (.bool x.term) /\
  w.cell? ⟨b,o+4,none⟩=some (.slice pa x.paths.length pc)/\w.cell? ⟨b,o+5,none⟩=some (.slice qa x.pres.length qc)/\x.au.ids.length<=ic/\x.paths.length<=pc/\x.pres.length<=qc/\DelegIn w lo hi x ia pa qa
theorem go.carry {w w':World} {lo hi lo' hi' b o:Nat} {x:DelegV} (h:go w lo hi b o x) (z:lo'<=lo) (A:hi<=hi') (B:lo<=b) (v:b<hi) (y:∀b,lo<=b->b<hi->w'.heap[b]?=w.heap[b]?):go w' lo' hi' b o x:=by have e:∀o,w'.cell? ⟨b,o,none⟩=w.cell? ⟨b,o,none⟩:=fun o=>V9 (w:=w) (w':=w') (y b B v);obtain ⟨j,k,q,r,s,u,a,c,d,f,g,i,l,m,p,hi⟩:=h;exact ⟨j,k,q,r,s,u,by rw [e];exact a,by rw [e];exact c,by rw [e];exact d,by rw [e];exact f,by rw [e];exact g,by rw [e];exact i,l,m,p,hi.carry z A y⟩
def zh (w:World) (lo hi:Nat) (a:Option Addr) (l:List DelegV):Prop :=
 l=[]\/∃b off,a=some ⟨b,off,none⟩/\lo<=b/\b<hi/\∀i (h:i<l.length),go w lo hi b (off+i * 6) l[i]
theorem zh.at {w:World} {lo hi:Nat} {a:Option Addr} {l:List DelegV} (h:zh w lo hi a l) (i:Nat) (hi':i<l.length) :
 ∃b off,a=some ⟨b,off,none⟩/\lo<=b/\b<hi/\go w lo hi b (off+i * 6) l[i]:=by
 rcases h with h|⟨b,off,ha,hb,hb',hr⟩
 . rw [h] at hi';simp at hi'
 . exact ⟨b,off,ha,hb,hb',hr i hi'⟩
theorem zh.carry {w w':World} {lo hi lo' hi':Nat} {a:Option Addr} {l:List DelegV} (h:zh w lo hi a l) (c:lo'<=lo) (d:hi<=hi') (e:∀b,lo<=b->b<hi->w'.heap[b]?=w.heap[b]?):zh w' lo' hi' a l:=by
 rcases h with h|⟨b,off,ha,hb,hb',hr⟩
 . exact .inl h
 . exact .inr ⟨b,off,ha,by omega,by omega,fun i hi=>(hr i hi).carry c d hb hb' e⟩
theorem zh.below {w w':World} {lo hi lo' hi' B:Nat} {a:Option Addr} {l:List DelegV} (h:zh w lo hi a l) (e:Below B w w') (f:hi<=B) (c:lo'<=lo) (d:hi<=hi'):zh w' lo' hi' a l :=
 h.carry c d fun b _ hlt=>e.block b (by omega)
theorem zh.take {w:World} {lo hi:Nat} {a:Option Addr} {l:List DelegV} (h:zh w lo hi a l) (k:Nat):zh w lo hi a (l.take k):=by
 rcases h with h|⟨b,off,ha,hb,hb',hr⟩
 . exact .inl (by rw [h,List.take_nil])
 . refine .inr ⟨b,off,ha,hb,hb',fun i hi=>?_⟩;rw [M7] at hi;rw [List.getElem_take];exact hr i (by omega)
structure DelegsIn (w:World) (lo hi:Nat) (d:DelegsV) (ka ra ba:Option Addr):Prop where
 keys:xu w lo hi ka d.keys
 roles:zh w lo hi ra d.roles
 bids:qv w lo hi ba d.bins.au.ids
theorem DelegsIn.carry {w w':World} {lo hi lo' hi':Nat} {d:DelegsV} {g i f:Option Addr} (h:DelegsIn w lo hi d g i f) (a:lo'<=lo) (c:hi<=hi') (e:∀b,lo<=b->b<hi->w'.heap[b]?=w.heap[b]?):DelegsIn w' lo' hi' d g i f :=
 ⟨h.keys.carry a c e,h.roles.carry a c e,h.bids.carry a c e⟩
theorem DelegsIn.below {w w':World} {lo hi lo' hi' B:Nat} {d:DelegsV} {c e a:Option Addr} (h:DelegsIn w lo hi d c e a) (i:Below B w w') (j:hi<=B) (f:lo'<=lo) (g:hi<=hi'):DelegsIn w' lo' hi' d c e a :=
 h.carry f g fun b _ hlt=>i.block b (by omega)
structure DelegFits (x:DelegV):Prop where
 name:x.name.size<=4294967296
 au:jw x.au
 paths:x.paths.length<=4294967296/\∀s ∈ x.paths,s.size<=4294967296
 pres:x.pres.length<=4294967296/\∀s ∈ x.pres,s.size<=4294967296
structure DelegsFits (d:DelegsV):Prop where
 len:d.keys.length<=40
 keys:∀k ∈ d.keys,k.1.size<=300/\k.2.size<=300
 many:d.roles.length<=70
 roles:∀x ∈ d.roles,DelegFits x
 bits:-9223372036854775808<=d.bins.bits/\d.bins.bits<=9223372036854775807
 pre:d.bins.pre.size<=300
 au:jw d.bins.au
abbrev jP:=StepV × Option Addr × Nat
def encS (q:jP):List Value:=[.string q.1.name,.int .i64 q.1.au.thr,.slice q.2.1 q.1.au.ids.length q.2.2,.bool q.1.term]
theorem fO (q:jP):(encS q).length=4:=rfl
theorem oK (q:jP):∀v ∈ encS q,v.oneCell'=true:=by intro v hv;simp only [encS,H0,N8,zf2] at hv;rcases hv with rfl|rfl|rfl|rfl <;> rfl
def stepP (w:World) (lo hi:Nat) (q:jP):Prop:=q.1.au.ids.length<=q.2.2/\jG w lo hi q.2.1 q.1.au.ids
theorem kA:bu stepP:=fun _ _ _ _ _ hs h=>⟨h.1,h.2.carry lz lz hs⟩
def xw (T B:Nat) (w:World) (vs:Value) (qs:List jP):Prop:=ItemsOwn T 4 B encS stepP w vs qs
def mc (T:Nat) (S:List StepV) (w:World) (e:Ending) (w':World):Prop :=
 ∃(a:Option Addr) (c:Nat) (qs:List jP),e=.returned (.slice a S.length c)/\qs.map (·.1)=S/\xw T w.heap.size w' (.slice a S.length c) qs/\O5 w w'
theorem xw.at {T B:Nat} {w:World} {a:Option Addr} {n c:Nat} {p:List jP} {S:List StepV} (h:xw T B w (.slice a n c) p) (q:p.map (·.1)=S) (i:Nat) (hi:i<S.length) :
 ∃g ia ic lo hi',a=some ⟨g,0,none⟩/\B<=g/\g<w.heap.size/\(∀o,w.frozen? ⟨g,o,none⟩=false)/\w.cell? ⟨g,i * 4,none⟩=some (.string S[i].name)/\w.cell? ⟨g,i * 4+1,none⟩=some (.int .i64 S[i].au.thr)/\w.cell? ⟨g,i * 4+2,none⟩=some (.slice ia S[i].au.ids.length ic)/\w.cell? ⟨g,i * 4+3,none⟩=some (.bool S[i].term) /\
  S[i].au.ids.length<=ic/\B<=lo/\hi'<=w.heap.size/\¬(lo<=g/\g<hi')/\jG w lo hi' ia S[i].au.ids:=by
 subst q;have b:i<p.length:=by simpa using hi
 obtain ⟨-,-,d⟩:=ItemsOwn.cells fO h;rcases d with d|⟨g,ha,hg,hlt,hf,hc⟩
 . rw [d] at b;simp at b
 . obtain ⟨lo,hi',f,j,k,l,m⟩:=ItemsOwn.each h p[i] (X6 b);subst ha;have e:(p.map (·.1))[i]=p[i].1:=N2 ..;rw [e];exact ⟨g,p[i].2.1,p[i].2.2,lo,hi',rfl,hg,hlt,hf,hc i b 0 (by decide),hc i b 1 (by decide),hc i b 2 (by decide),hc i b 3 (by decide),l,f,j,k g rfl,m⟩
def fE (w:World) (lo hi b o:Nat) (x:StepV):Prop :=
 ∃ia ic,w.cell? ⟨b,o,none⟩=some (.string x.name)/\w.cell? ⟨b,o+1,none⟩=some (.int .i64 x.au.thr)/\w.cell? ⟨b,o+2,none⟩=some (.slice ia x.au.ids.length ic)/\w.cell? ⟨b,o+3,none⟩=some (.bool x.term)/\x.au.ids.length<=ic/\qv w lo hi ia x.au.ids
theorem fE.carry {w w':World} {lo hi lo' hi' b o:Nat} {x:StepV} (h:fE w lo hi b o x) (m:lo'<=lo) (p:hi<=hi') (q:lo<=b) (k:b<hi) (l:∀b,lo<=b->b<hi->w'.heap[b]?=w.heap[b]?):fE w' lo' hi' b o x:=by have e:∀o,w'.cell? ⟨b,o,none⟩=w.cell? ⟨b,o,none⟩:=fun o=>V9 (w:=w) (w':=w') (l b q k);obtain ⟨g,i,a,c,d,f,j,hi⟩:=h;exact ⟨g,i,by rw [e];exact a,by rw [e];exact c,by rw [e];exact d,by rw [e];exact f,j,hi.carry m p l⟩
def xl (w:World) (lo hi:Nat) (a:Option Addr) (l:List StepV):Prop :=
 l=[]\/∃b off,a=some ⟨b,off,none⟩/\lo<=b/\b<hi/\∀i (h:i<l.length),fE w lo hi b (off+i * 4) l[i]
theorem xl.at {w:World} {lo hi:Nat} {a:Option Addr} {l:List StepV} (h:xl w lo hi a l) (i:Nat) (hi':i<l.length) :
 ∃b off,a=some ⟨b,off,none⟩/\lo<=b/\b<hi/\fE w lo hi b (off+i * 4) l[i]:=by
 rcases h with h|⟨b,off,ha,hb,hb',hr⟩
 . rw [h] at hi';simp at hi'
 . exact ⟨b,off,ha,hb,hb',hr i hi'⟩
theorem xl.carry {w w':World} {lo hi lo' hi':Nat} {a:Option Addr} {l:List StepV} (h:xl w lo hi a l) (c:lo'<=lo) (d:hi<=hi') (e:∀b,lo<=b->b<hi->w'.heap[b]?=w.heap[b]?):xl w' lo' hi' a l:=by
 rcases h with h|⟨b,off,ha,hb,hb',hr⟩
 . exact .inl h
 . exact .inr ⟨b,off,ha,by omega,by omega,fun i hi=>(hr i hi).carry c d hb hb' e⟩
theorem xl.below {w w':World} {lo hi lo' hi' B:Nat} {a:Option Addr} {l:List StepV} (h:xl w lo hi a l) (e:Below B w w') (f:hi<=B) (c:lo'<=lo) (d:hi<=hi'):xl w' lo' hi' a l :=
 h.carry c d fun b _ hlt=>e.block b (by omega)
theorem xw.steps {T B:Nat} {w:World} {a:Option Addr} {n c:Nat} {A:List jP} {S:List StepV} (h:xw T B w (.slice a n c) A) (z:A.map (·.1)=S):xl w B w.heap.size a S:=by
 by_cases h0:S=[]
 . exact .inl h0
 . obtain ⟨g,f,j,x,hi,e,p,d,-⟩:=h.at z 0 (zd0.2 h0);refine .inr ⟨g,0,e,p,d,fun i hi=>?_⟩;obtain ⟨y,f,j,x,q,b,-,-,-,k,l,m,o,s,u,v,-,r⟩:=h.at z i hi;rw [e] at b;cases b;rw [ze8];exact ⟨f,j,k,l,m,o,s,r.1.carry u v (fun _ _ _=>rfl)⟩
def sW (l:List ByteArray) (lo:Nat) (w:World) (x:Value):Prop:=∃a c,x=.slice a l.length c/\l.length<=c/\jG w lo w.heap.size a l
def MP.strsW (l:List ByteArray) (lo:Nat):MP:=⟨sW l lo,fun _ _ _ hb ⟨a,c,e,h1,h2⟩=>⟨a,c,e,h1,h2.below hb lz lz hb.size⟩⟩
def sY (t:Int) (l:List ByteArray) (lo:Nat) (w:World) (x:Value):Prop:=∃a c,x=.agg #[.int .i64 t,.slice a l.length c]/\l.length<=c/\jG w lo w.heap.size a l
def MP.authW (t:Int) (l:List ByteArray) (lo:Nat):MP:=⟨sY t l lo,fun _ _ _ hb ⟨a,c,e,h1,h2⟩=>⟨a,c,e,h1,h2.below hb lz lz hb.size⟩⟩
theorem yr (t:Int) (ids:List ByteArray) (ia:Option Addr) (ic lo:Nat) (w:World) (a0:lo<=w.heap.size) (hI:qv w 0 w.heap.size ia ids) (hl:ids.length<=4294967296) :
 Calls Tryz.prog 76 #[.agg #[.int .i64 t,.slice ia ids.length ic]] w fun e w'=>∃y,e=.returned y/\sY t ids lo w' y/\O5 w w':=by
 obtain ⟨W,o⟩:=O1 ((w.alloc (.cells #[.int .i64 t,.slice ia ids.length ic] 31)).alloc (.cells #[.int .i64 0,.slice none 0 0] 31));have p:O5 w W:=by rw [o];exact (O4).alloc (by simp) _
 have L:W.heap[w.heap.size]?=some (.cells #[.int .i64 t,.slice ia ids.length ic] 31 (0,0)):=by rw [o];exact zG w _ _
 have l:W.rowIs (w.heap.size+1) 31 2 (kV (.int .i64 0) (.slice none 0 0)):=(by have:=vW (w.alloc (.cells #[.int .i64 t,.slice ia ids.length ic] 31)) (.int .i64 0) (.slice none 0 0) 31;rw [show (w.alloc (.cells #[.int .i64 t,.slice ia ids.length ic] 31)).heap.size=w.heap.size+1 by simp,<- o] at this;exact this);have v:=U (show ∀w':World,O5 W w'->w'.cell? ⟨w.heap.size,0,none⟩=some (.int .i64 t)/\w'.cell? ⟨w.heap.size,1,none⟩=some (.slice ia ids.length ic) from fun w' h=>by
  have y:=(h.block _ (qx L)).trans L;exact ⟨qq y rfl,qq y rfl⟩)
 have D:=U (show ∀w':World,O5 W w'->Calls Tryz.prog 103 #[.slice ia ids.length ic] w' (fun e A=>∃y,e=.returned y/\sW ids W.heap.size A y/\O5 w' A) from fun w' h=>by
  refine (rP ids ia ic w' w'.heap.size (hI.below (p.trans (h.mono p.size)) lz lz (J1 p.size h.size)) hl).mono ?_;rintro e A ⟨a,c,rfl,Q,R,X⟩;exact ⟨_,rfl,⟨a,c,rfl,Q,R.carry h.size lz (fun _ _ _=>rfl)⟩,X⟩)
 have m:=U l;have M:=U p;have P:=O0 (w.heap.size+2<=W.heap.size) l.lt;have N:=U o;clear o p L l hI hl;obtain ⟨x,z⟩:=v.o W (J0 _ _);go_enter Tryz.func76,Tryz.ntmps76;go_upto_region 1 with fail
 rw [<- N.o];clear N x z;obtain ⟨V,S⟩:∃V:List MP,V=[.con (.pointer (some ⟨w.heap.size,0,none⟩)),.con (.int .i64 t),.con (.pointer (some ⟨w.heap.size,1,none⟩)),.con (.slice ia ids.length ic),.strsW ids W.heap.size]:=⟨_,rfl⟩;have g:=U S;clear S;refine qP 5 (fun d G w'=>∃x3 x4 x5 x6 x7,G=⟨#[.agg #[.int .i64 t,.slice ia ids.length ic],.pointer (some ⟨w.heap.size,0,none⟩),.pointer (some ⟨w.heap.size+1,0,none⟩),x3,x4,x5,x6,x7,undef],[]⟩/\zW W V d w' [x3,x4,x5,x6,x7]) (by kernel_rfl) (by kernel_rfl) ?first ?step ?last
 case first=>exact ⟨_,_,_,_,_,rfl,zW.first _ _ _ (by rw [g.o];rfl)⟩
 case step =>
  rintro d G w' ⟨x3,x4,x5,x6,x7,rfl,h⟩ q hq hn J;rcases q with _|_|_|_|_|q
  . refine J4 rfl fun K hK=>?_;go_simp;exact hK _ _ ⟨_,_,_,_,_,rfl,h.sameC 0 _ g rfl⟩
  . obtain rfl:=h.cn J g 0 .data;obtain ⟨x,z⟩:=v.o w' h.1;refine J4 rfl fun K hK=>?_;go_simp;exact hK _ _ ⟨_,_,_,_,_,rfl,h.sameC 1 _ g rfl⟩
  . refine J4 rfl fun K hK=>?_;go_simp;exact hK _ _ ⟨_,_,_,_,_,rfl,h.sameC 2 _ g rfl⟩
  . obtain rfl:=h.cn J g 2 .data;obtain ⟨x,z⟩:=v.o w' h.1;refine J4 rfl fun K hK=>?_;go_simp;exact hK _ _ ⟨_,_,_,_,_,rfl,h.sameC 3 _ g rfl⟩
  . obtain rfl:=h.cn J g 3 .data;obtain ⟨x,z⟩:=v.o w' h.1;refine J4 rfl fun K hK=>?_;go_simp;refine (D.o w' h.1).mono ?_;rintro e A ⟨y,rfl,Y,H⟩;exact hK _ _ ⟨_,_,_,_,_,rfl,h.did H 4 _ (.strsW ids W.heap.size) (by rw [g.o];rfl) Y⟩
  . omega
 case last => rintro d G w' j ⟨x3,x4,x5,x6,x7,rfl,h⟩;have s:=h.1;obtain rfl:=h.con 1 (j _ (by omega)) g rfl rfl;have I:=h.get 4 (j _ (by omega)) (.strsW ids W.heap.size) (by rw [g.o];rfl) _ rfl;have E:=U s;clear h j s g;have k:=E.o;obtain ⟨a,c,rfl,r,u⟩:=I;have f:=qj k m.o m.o.lt;have F:=U f;have T:=U u;have C:=U r;have B:=U (O2 M k);have Z:=f.cell (i:=0) (by decide);have t1:=f.cell (i:=1) (by decide);have s0:=f.frozen 0;have s1:=f.frozen 1;simp only [kV] at Z t1;simp only [M4,za1];clear k u r f;go_wp2;refine X4 (Y7 Tryz.results76 _ _ (w.heap.size+1) 31 _ (0,0) _ rfl (z7 (set2 _ _ F.o)) zd7 rfl (by kernel_rfl)) rfl ?_;refine ⟨_,rfl,⟨a,c,rfl,C.o,?_⟩,yQ _ _ B.o (by omega)⟩;exact T.o.carry (by have:=P.o;omega) (G8 ZN.symm) (fun b Q R=>Q2 _ _ (by have:=P.o;omega))
def kX (l:List ByteArray) (w:World) (e:Ending) (w':World):Prop :=
 ∃ai ci,e=.returned (.agg #[.int .u8 4,.int .i64 0,.string ⟨#[]⟩,.slice none 0 0,.slice ai l.length ci])/\Rep w' w.heap.size w'.heap.size (qb l) (.agg #[.int .u8 4,.int .i64 0,.string ⟨#[]⟩,.slice none 0 0,.slice ai l.length ci])/\O5 w w'
theorem cF (l:List ByteArray) (a:Option Addr) (c:Nat) (w:World) (hS:qv w 0 w.heap.size a l) (hl:l.length<=4294967296) :
 Calls Tryz.prog 203 #[.slice a l.length c] w (kX l w):=by
 obtain ⟨W,K⟩:=O1 ((w.alloc (.cells #[.int .u8 0,.int .i64 0,.string ⟨#[]⟩,.slice none 0 0,.slice none 0 0] 25)).alloc (.cells #[.int .u8 4,.int .i64 0,.string ⟨#[]⟩,.slice none 0 0,.slice none 0 0] 25));have x:(w.alloc (.cells #[.int .u8 0,.int .i64 0,.string ⟨#[]⟩,.slice none 0 0,.slice none 0 0] 25)).heap.size=w.heap.size+1:=by simp
 have y:W.heap.size=w.heap.size+2:=by rw [K];simp
 have a2:O5 w W:=by rw [K];exact (O4).alloc (by simp) _
 have a8:W.rowIs w.heap.size 25 5 (qZ (.int .u8 0) (.int .i64 0) (.string ⟨#[]⟩) (.slice none 0 0) (.slice none 0 0)):=by rw [K];exact (qh w (.int .u8 0) (.int .i64 0) (.string ⟨#[]⟩) (.slice none 0 0) (.slice none 0 0) 25).alloc _
 have a9:W.rowIs (w.heap.size+1) 25 5 (qZ (.int .u8 4) (.int .i64 0) (.string ⟨#[]⟩) (.slice none 0 0) (.slice none 0 0)):=(by have:=qh (w.alloc (.cells #[.int .u8 0,.int .i64 0,.string ⟨#[]⟩,.slice none 0 0,.slice none 0 0] 25)) (.int .u8 4) (.int .i64 0) (.string ⟨#[]⟩) (.slice none 0 0) (.slice none 0 0) 25;rw [x,<- K] at this;exact this);have HS:=U hS;have HW:=U K;have N:=U a2;have b3:=U a8;have X:=U a9;have r:=U y;obtain ⟨L,J⟩:=O1 l.length;have q:=U J;rw [<- J] at hl ⊢;clear hS K a2 a8 a9 x y J;obtain ⟨i0,c2,c3,x,y⟩:=K9 xq;go_enter Tryz.func203,Tryz.ntmps203;go_upto_region 2 with fail
 rw [<- HW.o];clear HW;obtain ⟨o,H⟩:=O1 (w.heap.size+1);have E:=U H;rw [<- H] at X ⊢;have a4:o<W.heap.size:=by have:=r.o;omega
 clear H;go_wp2;go_loopw [5,9] (fun _ i wr=>∃(k:Nat) (cs:List Value) (z:Value),k<=L/\i=.int .i64 k/\Touch (· = o) W wr/\wr.rowIs o 25 5 (qZ (.int .u8 4) (.int .i64 0) (.string ⟨#[]⟩) (.slice none 0 0) z)/\wr.ownsRow W.heap.size 25 5 z k cs/\qU wr W.heap.size (fun b=>b=o\/z.ownBlock=some b) ((l.take k).map txtJ) cs) (fun _ i _=>L - (intOf i).toNat)
 case atStart=>exact ⟨0,[],.slice none 0 0,by omega,rfl,Touch.refl _ _,X.o,W8 _ _ _ _,by simpa using qU.nil _ _ _⟩
 case round =>
  obtain ⟨k,cs,z,hk,rfl,f,d,h,s⟩:=hrel;by_cases hlt2:k<L
  . have B:k<l.length:=by rw [<- q.o];exact hlt2
    have HB:Hid (O5 w wr):=N.o.trans (f.below (by have:=r.o;omega) fun j hj e=>by have:=E.o;omega);obtain ⟨b,d1,rfl,_,hb,y0⟩:=(HS.o.below HB.o lz lz lz).at k B;have b6:=U (show (l.take (k+1)).map txtJ=(l.take k).map txtJ ++ [txtJ l[k]] by rw [J7 B,M1];rfl);have c4:wr.cell? ⟨o,4,none⟩=some z:=d.cell (by omega);have f4:wr.frozen? ⟨o,4,none⟩=false:=d.frozen 4;have I:o<wr.heap.size:=d.lt;have d0:W.heap.size<=wr.heap.size:=f.size;have a6:some o≠z.ownBlock:=fun e=>by have:=(h.lt _ e.symm).1;omega
    have a0:=U d;have a1:=U f;have HO:=U h;have Z:=U s;clear d f h s;generalize l[k]=it at *;have Q:=U (show Calls Tryz.prog 201 #[.string it] wr.drew (fun e p=>e=.returned (.agg #[.int .u8 3,.int .i64 0,.string it,.slice none 0 0,.slice none 0 0])/\Rep p (wr.heap.size+1) p.heap.size (txtJ it) (.agg #[.int .u8 3,.int .i64 0,.string it,.slice none 0 0,.slice none 0 0])/\Below (wr.heap.size+1) ((wr.alloc (.cells #[.int .u8 3,.int .i64 0,.string it,.slice none 0 0,.slice none 0 0] 25)).drew) p/\wr.heap.size<p.heap.size/\p.cell? ⟨o,4,none⟩=some z/\p.frozen? ⟨o,4,none⟩=false/\p.ownsRow W.heap.size 25 5 z k cs) by
     refine (vM it wr.drew).mono ?_;rintro e p ⟨rfl,rfl⟩;have F:O5 wr (wr.drew.alloc (.cells #[.int .u8 3,.int .i64 0,.string it,.slice none 0 0,.slice none 0 0] 25)):=(J0 _ _).drew.alloc lz _;exact ⟨rfl,jI _ _ _ _,J0 _ _,by simp,by rw [F.cell I];exact c4,by rw [F.frozen I];exact f4,qM HO.o F⟩)
    go_wp2_with fail
    go_region_law (first|(refine N5 _ (by rfl) (.tmp 14) (.tmp 17) 23 (by rfl) W.heap.size 25 i0 _ 5 80 N4 c2 c3 x y rfl (by omega) z k cs (by rfl) (T.o.alloc _) ⟨p.heap.size,0,none⟩ 1 1 (Array.toList #[.int .u8 3,.int .i64 0,.string it,.slice none 0 0,.slice none 0 0]) (by rfl) (by rfl) (Y0 (cs:=#[.int .u8 3,.int .i64 0,.string it,.slice none 0 0,.slice none 0 0]) (t:=25) (fr:=(0,0)) (J2 p _)) (by simp [Value.oneCell']) (by omega) (by unfold maxLen;omega) (by omega) (by simp;omega) (p.heap.size+1) (by simp) ?_;intro g cap w4 hown4 hgrow4 hat4 hlt4;have c7:=zb hgrow4 A a6 b9;have c9:=zn hgrow4 A a6 c0;have V:=U hown4;have R:=U hgrow4;have M:=U hat4;clear hown4 hgrow4 hat4)|(go_simp;go_at_call 201;(with_reducible refine Q.o.mono ?_);rintro e p ⟨rfl,b0,a3,c6,b9,c0,a7⟩;have A:o<p.heap.size:=ze0 I c6;have T:=U a7;have Y:=U b0;have P:=U a3;clear a7 b0 a3))
    all_goals
     have b5:=U (row_step (j:=4) (it:=txtJ it) (an:=none) (cn:=0) (ai:=none) (ci:=0) a4 a1.o a0.o HO.o Z.o P.o Y.o R.o M.o V.o);clear a1 a0 HO Z P Y R M V T Q;go_wp2;go_roundw
     case rel => obtain ⟨z1,z2,z3,z4⟩:=b5.o;refine ⟨k+1,_,_,by omega,by go_num,z1,z2.congr fun i hi=>?_,z3,by rw [b6.o];exact z4⟩;rcases i with _|_|_|_|_|i <;> first|rfl|omega
     case measure=>simp [intOf];omega
  . obtain rfl:k=L:=by omega
    have C:(l.take k).map txtJ=l.map txtJ:=by rw [X2 (by rw [<- q.o];exact J9 _)]
    rw [C] at s;have u:(l.map txtJ).length=k:=by rw [X9,<- q.o]
    obtain ⟨a5,c5,rfl,G,b1⟩:=zN h s u.symm;rw [u] at G d;have b7:=U b1;have b2:=U G;have S:=U u;have m:=(f.row b3.o (by have:=E.o;omega));obtain ⟨r0,r1,r2,r3,r4⟩:=rc5 d;obtain ⟨t0,t1,t2,t3,t4⟩:=rc5 m;obtain ⟨s0,s1,s2,s3,s4⟩:=rf5 m;simp only [qZ] at r0 r1 r2 r3 r4 t0 t1 t2 t3 t4;have HT:=U f;have b4:=U m;clear d m h s b1 f C G u;go_wp2;refine X4 (Y7 Tryz.results203 _ _ w.heap.size 25 _ (0,0) _ rfl (qr (set5 _ _ _ _ _ b4.o)) X8 rfl (by kernel_rfl)) rfl ?_;have c1:O5 w wr:=N.o.trans (HT.o.below (by have:=r.o;omega) fun j hj e=>by have:=E.o;omega);refine ⟨a5,c5,by rw [<- q.o],?_,zj _ _ _ _ _ c1 lz⟩;rw [<- q.o];have D:=Rep.mk (v:=qb l) (an:=none) (cn:=0) (ai:=a5) (ci:=c5) (w:=wr) (lo:=W.heap.size) (hi:=wr.heap.size) lz (by show (l.map txtJ).length<=c5;rw [S.o];exact b2.o) (.inl rfl) b7.o;have e5:(qb l).items.length=k:=S.o;rw [e5] at D;exact Rep.carry (by have:=r.o;omega) (show wr.heap.size<=_ by simp [World.setCell]) (fun j hj _=>jm _ _ _ _ _ (by have:=r.o;omega)) _ _ D
theorem oV (b:Bool):(za b).count=1/\(za b).depth=0:=by
 constructor
 . rw [JV.count_eq];rfl
 . rw [JV.depth_eq];rfl
theorem f8 {l:List ByteArray} {n:Nat} (d:l.length<=n) (h:∀x ∈ l,qe x=true):(qb l).partB=true/\(qb l).count<=n+1/\(qb l).depth<=1:=by
 have a:∀x ∈ l.map txtJ,x.partB=true/\x.count<=1/\x.depth<=0:=fun x hx'=>by obtain ⟨b,c,rfl⟩:=za8.1 hx';have:=cW b;exact ⟨bf (h b c),G8 this.1,G8 this.2⟩
 refine ⟨fT fun x hx=>(a x hx).1,?_,?_⟩
 . rw [JV.count_eq];have:=counts_le 1 (l.map txtJ) fun x hx'=>(a x hx').2.1;rw [X9] at this;show 1+JV.counts (l.map txtJ)<=_;omega
 . rw [JV.depth_eq];have:=kF 0 (l.map txtJ) fun x hx'=>(a x hx').2.2;rw [J3 (by simp [qb,zB,JV.kind])];show JV.depths (l.map txtJ)+1<=_;omega
theorem oW {p:ByteArray} (h:qG p=true):qe p=true:=by unfold qG at h;simp only [X3,J6] at h;unfold qe;rw [h.2,X0 (by omega)];rfl
theorem Qt {p:ByteArray} (h:preB p=true):qe p=true:=by unfold preB at h;simp only [X3,J6] at h;refine zH (fun c hc=>bj (K7.1 h.2 c hc)) (by omega)
theorem nl (b:Bool):(za b).partB=true:=by cases b <;> kernel_rfl
theorem kf:qe qy=true/\qe zx=true/\qe zC=true/\qe xd=true/\qe thrN=true/\qe trmN=true/\qe ji=true/\qe jY=true/\qe xP=true:=by
 refine ⟨?_,?_,?_,?_,?_,?_,?_,?_,?_⟩
 all_goals
  refine zH ?_ (by decide);intro c hc;unfold jV
  revert c
  decide
theorem oY {a:AuthV} (h:jg a=true):(qb a.ids).partB=true/\(qb a.ids).count<=17/\(qb a.ids).depth<=1:=by obtain ⟨b,c,hi⟩:=zO h;exact f8 b.2 fun x hx=>(kZ (jh _ _ hi x hx)).1
theorem aN {x:DelegV} (h:qi x=true):(qu x).partB=true/\(qu x).count<=60/\(qu x).depth<=2:=by
 obtain ⟨b,F,c,d⟩:=xj h;obtain ⟨k,l,m,o,q,r,H,I,J⟩:=kf;obtain ⟨z,A,L,M,N⟩:=zf;obtain ⟨i,G,j⟩:=oY c;have B:=cW x.name;have C:=oV x.term;have D:=cY x.au.thr;have E:=bf (dW b);have g:qo ((zY x).map (·.1))=true:=by
  by_cases hp:x.paths=[]
  . simp only [zY,hp,ne_eq,not_true_eq_false,zf1,N6,List.map_nil];exact A
  . simp only [zY,hp,ne_eq,not_false_eq_true,if_true,N6,List.map_nil];exact z
 -- the five members,with the bound of each
 have f:∃y v,(if x.paths≠[] then (xd,qb x.paths) else (zC,qb x.pres))=(y,v)/\qe y=true/\v.partB=true/\v.count<=33/\v.depth<=1:=by
  rcases d with ⟨a1,a2,a3,a4⟩|⟨a1,a2,a3,a4⟩
  . exact ⟨_,_,J8 a1,o,f8 a3 fun y hy=>oW (K7.1 a4 y hy)⟩
  . exact ⟨_,_,J3 (by simp [a1]),m,f8 a3 fun y hy=>Qt (K7.1 a4 y hy)⟩
 obtain ⟨y,v,e,s,u,K,w⟩:=f;have a:zY x=[(qy,qb x.au.ids),(zx,txtJ x.name),(y,v),(trmN,za x.term),(thrN,zv x.au.thr)]:=(by unfold zY;rw [e]);unfold qu;refine ⟨yx ⟨g,?_⟩,?_,?_⟩
 . rw [a];intro p hp;simp only [H0,N8,zf2] at hp;rcases hp with rfl|rfl|rfl|rfl|rfl
   . exact ⟨k,i⟩
   . exact ⟨l,E⟩
   . exact ⟨s,u⟩
   . exact ⟨r,nl _⟩
   . exact ⟨q,bh _⟩
 . rw [a,JV.count_eq];show 1+((qb x.au.ids).count+((txtJ x.name).count+(v.count+((za x.term).count+((zv x.au.thr).count+0)))))<=60;omega
 . refine vC 1 ?_;rw [a];intro p hp;simp only [H0,N8,zf2] at hp;rcases hp with rfl|rfl|rfl|rfl|rfl
   . exact j
   . exact J1 (G8 B.2) (by decide)
   . exact w
   . exact J1 (G8 C.2) (by decide)
   . exact J1 (G8 D.2) (by decide)
theorem oG {b:BinsV} (h:q6 b=true):(zL b).partB=true/\(zL b).count<=80/\(zL b).depth<=2:=by
 obtain ⟨v,g,i,w⟩:=yl h;obtain ⟨m,x,y,z,o,A,q,r,B⟩:=kf;obtain ⟨C,D,s,E,F⟩:=zf;obtain ⟨j,k,l⟩:=oY i;have c:=cW b.pre;have d:=cY b.bits;have f:=cY b.au.thr;have u:=bf (dW g);have a:∀p ∈ mu b,qe p.1=true/\p.2.partB=true/\p.2.count<=17/\p.2.depth<=1:=by
  intro p a;simp only [mu,H0,N8,zf2] at a;rcases a with rfl|rfl|rfl|rfl
  . exact ⟨q,bh _,J1 (G8 d.1) (by decide),J1 (G8 d.2) (by decide)⟩
  . exact ⟨m,j,k,l⟩
  . exact ⟨r,u,J1 (G8 c.1) (by decide),J1 (G8 c.2) (by decide)⟩
  . exact ⟨o,bh _,J1 (G8 f.1) (by decide),J1 (G8 f.2) (by decide)⟩
 unfold zL;refine ⟨yx ⟨s,fun p h=>⟨(a p h).1,(a p h).2.1⟩⟩,?_,vC 1 fun p h=>(a p h).2.2.2⟩;have:=fG 17 fun p h=>(a p h).2.2.1;have e:(mu b).length=4:=rfl;rw [e] at this;omega
def xo (d:DelegsV):Bool:=zy d.keys && (if q8 d.bins then decide (d.roles.length<=64) && d.roles.all qi && xZ d.roles else d.roles.isEmpty && q6 d.bins)
theorem yG {d:DelegsV} (h:xo d=true):(qf d).mayB=true:=by
 unfold xo at h;rw [X3] at h;obtain ⟨m,h⟩:=h;obtain ⟨e,q,f⟩:=Qs m;obtain ⟨H,I,J,K,L,M,N,P,v⟩:=kf;obtain ⟨S,T,V,z,A⟩:=zf;obtain ⟨-,⟨E,F,g,u,G⟩,-⟩:=nf;cases hb:q8 d.bins
 . rw [hb] at h;simp only [Bool.false_eq_true,zf1,X3] at h;obtain ⟨i,j,k⟩:=oG h.2;have b:qT d=[(qF,zt d.keys),(xP,zL d.bins)]:=by unfold qT;rw [hb];rfl
   unfold qf;rw [b];refine Qa A (by show 2<=6;decide) fun p a=>?_;simp only [H0,N8,zf2] at a;rcases a with rfl|rfl
   . exact ⟨g,e,q,f⟩
   . exact ⟨v,i,J1 j (by decide),J1 k (by decide)⟩
 . rw [hb] at h;simp only [if_true,X3,J6] at h;obtain ⟨⟨B,l⟩,C⟩:=h;have b:qT d=[(qF,zt d.keys),(xC,zB (d.roles.map qu))]:=by unfold qT;rw [hb];rfl
   have c:∀x ∈ d.roles.map qu,x.partB=true/\x.count<=60/\x.depth<=2:=fun x hx=>by obtain ⟨y,o,rfl⟩:=za8.1 hx;exact aN (K7.1 l y o)
   have r:(zB (d.roles.map qu)).partB=true:=fT fun x hx=>(c x hx).1;have D:(zB (d.roles.map qu)).count<=3841:=(by rw [JV.count_eq];have:=counts_le 60 (d.roles.map qu) fun x hx=>(c x hx).2.1;rw [X9] at this;show 1+JV.counts (d.roles.map qu)<=_;omega);have s:(zB (d.roles.map qu)).depth<=3:=(by rw [JV.depth_eq];have:=kF 2 (d.roles.map qu) fun x hx=>(c x hx).2.2;rw [J3 (by simp [zB,JV.kind])];show JV.depths (d.roles.map qu)+1<=_;omega);have a:∀p ∈ qT d,qe p.1=true/\p.2.partB=true/\p.2.depth<=3:=by
    rw [b];intro p a;simp only [H0,N8,zf2] at a;rcases a with rfl|rfl
    . exact ⟨g,e,f⟩
    . exact ⟨u,r,s⟩
   have w:(qf d).partB=true:=yx ⟨by rw [b];exact z,fun p h=>⟨(a p h).1,(a p h).2.1⟩⟩;have R:(qf d).depth<=4:=vC 3 fun p h=>(a p h).2.2;have Q:(qf d).count<=4000:=(by unfold qf;rw [b,JV.count_eq];show 1+((zt d.keys).count+((zB (d.roles.map qu)).count+0))<=4000;omega);rw [JV.mayB_iff,w,X0 (by omega),X0 (by omega)];rfl
theorem qO (d:DelegsV):qL d=xo d:=by
 unfold qL;change (xo d && (qf d).mayB)=xo d;cases h:xo d
 . rfl
 . rw [yG h];rfl
theorem sG (s:ByteArray) (w:World) :
 Calls Tryz.prog 135 #[.string s] w fun e w'=>e=.returned (.bool (vl s))/\w'=w:=by
 have j:(s.toList == [114,111,111,116])=decide (s=gr):=by rw [<- ba_eq,show gr.toList=[114,111,111,116] from by rw [Y3];rfl]
 have k:(s.toList == [115,110,97,112,115,104,111,116])=decide (s=cK):=by rw [<- ba_eq,show cK.toList=[115,110,97,112,115,104,111,116] from by rw [Y3];rfl]
 have l:(s.toList == [116,97,114,103,101,116,115])=decide (s=cV):=by rw [<- ba_eq,show cV.toList=[116,97,114,103,101,116,115] from by rw [Y3];rfl]
 have a:=U (show vl s=(decide (s=gr) || (decide (s=cK) || decide (s=cV))) by unfold vl;simp only [Bool.decide_or]);obtain ⟨g,c⟩:∃b,b=decide (s=gr):=⟨_,rfl⟩;obtain ⟨h,d⟩:∃b,b=decide (s=cK):=⟨_,rfl⟩;obtain ⟨i,f⟩:∃b,b=decide (s=cV):=⟨_,rfl⟩;rw [<- c] at j a;rw [<- d] at k a;rw [<- f] at l a;clear c d f;cases g
 . cases h
   . cases i
     . go_enter Tryz.func135,Tryz.ntmps135;go_wp2;go_ret;exact ⟨qz a.o.symm,rfl⟩
     . go_enter Tryz.func135,Tryz.ntmps135;go_wp2;go_ret;exact ⟨qz a.o.symm,rfl⟩
   . go_enter Tryz.func135,Tryz.ntmps135;go_wp2;go_ret;exact ⟨qz a.o.symm,rfl⟩
 . go_enter Tryz.func135,Tryz.ntmps135;go_wp2;go_ret;exact ⟨qz a.o.symm,rfl⟩
theorem vr {s:ByteArray} (h:s.size<1\/256<s.size):qG s=false:=by unfold qG;rw [J5 (by omega)];rfl
theorem yB {s:ByteArray} (a:0<s.size) (h:s[0].toNat=47):qG s=false:=by
 unfold qG;rw [wA s a];have:s[0]=47:=by apply UInt8.toNat_inj.1;exact h
 rw [this];simp
theorem f9 {s:ByteArray} (a:0<s.size) (b:s.size<=256) (h:¬s[0].toNat=47):qG s=vF s:=by unfold qG;rw [wA s a,X0 (by omega)];have:¬s[0]=47:=fun e=>h (by rw [e];rfl);simp [this]
theorem ge (s:ByteArray) (w:World) (l:s.size<=9223372036854775807) :
 Calls Tryz.prog 34 #[.string s] w fun e w'=>e=.returned (.bool (qG s))/\O5 w w':=by
 by_cases h0:s.size=0
 . have a:=U (vr (s:=s) (by omega));have k:=ye s h0;clear h0;go_enter Tryz.func34,Tryz.ntmps34;go_wp2;go_ret;exact ⟨qz a.o.symm,J0 _ _⟩
 obtain ⟨j,i⟩:=gA s (by omega);have b:0<s.size:=by omega
 clear h0;by_cases h1:256<s.size
 . have a:=U (vr (s:=s) (by omega));go_enter Tryz.func34,Tryz.ntmps34;go_wp2;go_ret;exact ⟨qz a.o.symm,J0 _ _⟩
 by_cases h2:s[0].toNat=47
 . have a:=U (yB b h2);have h:((s[0].toNat:Int) != 47)=false:=by simp;omega
   clear h2;go_enter Tryz.func34,Tryz.ntmps34;go_wp2;go_ret;exact ⟨qz a.o.symm,J0 _ _⟩
 have h:((s[0].toNat:Int) != 47)=true:=by simp;omega
 have a:=U (f9 b (by omega) h2);have c:=U (fun w=>fl s w l);rw [<- a.o] at c;have g:s.size<=256:=by omega
 clear h2 h1;go_enter Tryz.func34,Tryz.ntmps34;go_wp2_with (go_at_call 86;refine (c.o _).mono ?_;rintro e w' ⟨rfl,d⟩;have f:=U d;clear d);go_ret;exact ⟨rfl,f.o⟩
theorem px (s:ByteArray) (w:World) (d:s.size<=9223372036854775807) :
 Calls Tryz.prog 138 #[.string s] w fun e w'=>e=.returned (.bool (qG s))/\O5 w w':=by
 have c:=U (fun w=>ge s w d);go_enter Tryz.func138,Tryz.ntmps138;go_wp2_with (go_at_call 34;refine (c.o _).mono ?_;rintro e w' ⟨rfl,a⟩;have b:=U a;clear a);go_ret;exact ⟨rfl,b.o⟩
theorem pB {s:ByteArray} (h:s.size<1\/64<s.size):preB s=false:=by unfold preB;rw [J5 (by omega)];rfl
theorem sB {s:ByteArray} (a:1<=s.size) (b:s.size<=64):preB s=jb s.data.toList:=by unfold preB;rw [X0 ⟨a,b⟩];rfl
theorem oB (s:ByteArray) (w:World) (f:s.size<=9223372036854775807) :
 Calls Tryz.prog 139 #[.string s] w fun e w'=>e=.returned (.bool (preB s))/\w=w':=by
 by_cases h1:s.size<1
 . have a:=U (pB (s:=s) (.inl h1));go_enter Tryz.func139,Tryz.ntmps139;go_wp2;go_ret;exact ⟨qz a.o.symm,rfl⟩
 by_cases h2:64<s.size
 . have a:=U (pB (s:=s) (.inr h2));go_enter Tryz.func139,Tryz.ntmps139;go_wp2;go_ret;exact ⟨qz a.o.symm,rfl⟩
 have c:1<=s.size:=by omega
 have d:s.size<=64:=by omega
 have a:=U (sB c d);have b:=U (fun w=>iC s w f);rw [<- a.o] at b;clear h1 h2;go_enter Tryz.func139,Tryz.ntmps139;go_wp2_with (go_at_call 195;refine (b.o _).mono ?_;rintro e w' ⟨rfl,rfl⟩);go_ret;exact ⟨rfl,rfl⟩
theorem sP (k:Nat) (w:World) (c:1<=k) (d:k<=32):Calls Tryz.prog 170 #[.int .i64 k] w fun e w'=>e=.returned (.bool true)/\w'=w:=by
 have b:decide ((k:Int)<=32)=true:=by rw [J6];omega
 have a:decide (1<=(k:Int))=true:=by rw [J6];omega
 go_enter Tryz.func170,Tryz.ntmps170;go_wp2;go_ret;exact ⟨rfl,rfl⟩
theorem ml (k:Nat) (w:World) (b:k<=32):Calls Tryz.prog 171 #[.int .i64 k] w fun e w'=>e=.returned (.int .i64 ((vz k:Nat):Int))/\w'=w:=by have a:=U (show ((vz k:Nat):Int)=((k:Int)+3) / 4 by unfold vz;omega);go_enter Tryz.func171,Tryz.ntmps171;go_wp2;go_ret;exact ⟨by rw [a.o];first|rfl|go_num,rfl⟩
theorem bQ (t A:Int) (ids:List ByteArray) (B:ByteArray) (C:Option Addr) (D:Nat) (w:World) (G:B.size<=4294967296) (F:-9223372036854775808<=A/\A<=9223372036854775807) :
 Calls Tryz.prog 99 #[.agg #[.int .i64 t,.slice C ids.length D,.int .i64 A,.string B]] w fun e w'=>e=.returned (.int .i64 (zu ⟨A,B,⟨t,ids⟩⟩))/\O5 w w':=by
 obtain ⟨W,l⟩:=O1 (w.alloc (.cells #[.int .i64 t,.slice C ids.length D,.int .i64 A,.string B] 33));have i:=O7 l
 have o:=O9 l
 have g:=U i;have b:=U l;have y:=qq o (j:=2) rfl;have z:=qq o (j:=3) rfl;have a:=O0 (zu ⟨A,B,⟨t,ids⟩⟩=if A<1\/32<A then 1 else if zg B.data.toList=false then 3 else if 64<B.size+1+(A.toNat+3) / 4 then 5 else 0) rfl;obtain ⟨E,p⟩:=O1 (zu ⟨A,B,⟨t,ids⟩⟩);rw [<- p] at a ⊢;clear i o l p;by_cases h1:A<1
 . rw [J8 (.inl h1)] at a;go_enter Tryz.func99,Tryz.ntmps99;go_upto_region 1 with fail
   rw [<- b.o];clear b;go_wp2;go_ret;exact ⟨by rw [a.o];rfl,g.o⟩
 by_cases h2:32<A
 . rw [J8 (.inr h2)] at a;have r:decide (A<=32)=false:=by rw [V1];omega
   have q:decide (1<=A)=true:=by rw [J6];omega
   go_enter Tryz.func99,Tryz.ntmps99;go_upto_region 1 with fail
   rw [<- b.o];clear b;go_wp2;go_ret;exact ⟨by rw [a.o];rfl,g.o⟩
 rw [J3 (by omega)] at a;obtain ⟨k,rfl⟩:∃k:Nat,A=(k:Int):=⟨A.toNat,by omega⟩;have h:=U (fun w=>kY B w (by omega));rw [zb2] at a;have v:1<=k:=by omega
 have x:k<=32:=by omega
 have r:decide ((k:Int)<=32)=true:=by rw [J6];omega
 have q:decide (1<=(k:Int))=true:=by rw [J6];omega
 have m:=U (fun w=>sP k w (by omega) (by omega));have d:=U (fun w=>ml k w (by omega));obtain ⟨f,c⟩:=O1 (vz k);rw [<- c] at d;have u:f<=8:=by rw [c];unfold vz;omega
 rw [show (k+3) / 4=f from c.symm] at a;clear h1 h2 F c;cases hr:zg B.data.toList
 . rw [hr] at h a;rw [J8 rfl] at a;clear hr;go_enter Tryz.func99,Tryz.ntmps99;go_upto_region 1 with fail
   rw [<- b.o];clear b;go_wp2_with (first|(go_at_call 170;refine (m.o _).mono ?_;rintro e j ⟨rfl,rfl⟩)|(go_at_call 134;refine (h.o _).mono ?_;rintro e j ⟨rfl,rfl⟩));go_ret;exact ⟨by rw [a.o];rfl,g.o⟩
 rw [hr] at h a;rw [J3 (by decide)] at a;clear hr;by_cases h3:64<B.size+1+f
 . rw [J8 h3] at a;have s:decide ((64:Int)<(B.size:Int)+1+(f:Int))=true:=by rw [J6];omega
   go_enter Tryz.func99,Tryz.ntmps99;go_upto_region 1 with fail
   rw [<- b.o];clear b;go_wp2_with (first|(go_at_call 170;refine (m.o _).mono ?_;rintro e j ⟨rfl,rfl⟩)|(go_at_call 134;refine (h.o _).mono ?_;rintro e j ⟨rfl,rfl⟩));go_quiet ((go_at_call 171;exact Calls.quiet_of_same (d.o _)))
   go_wp2;go_ret;exact ⟨by rw [a.o];rfl,Below.drewN g.o _⟩
 . rw [J3 h3] at a;have s:decide ((64:Int)<(B.size:Int)+1+(f:Int))=false:=by rw [V1];omega
   go_enter Tryz.func99,Tryz.ntmps99;go_upto_region 1 with fail
   rw [<- b.o];clear b;go_wp2_with (first|(go_at_call 170;refine (m.o _).mono ?_;rintro e j ⟨rfl,rfl⟩)|(go_at_call 134;refine (h.o _).mono ?_;rintro e j ⟨rfl,rfl⟩));go_quiet ((go_at_call 171;exact Calls.quiet_of_same (d.o _)))
   go_wp2;go_ret;exact ⟨by rw [a.o];rfl,Below.drewN g.o _⟩
