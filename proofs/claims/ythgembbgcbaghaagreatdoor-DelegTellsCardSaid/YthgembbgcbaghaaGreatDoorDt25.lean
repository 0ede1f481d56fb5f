import Derived.Test.YthgembbgcbaghaaGreatDoorDt24
import Derived.Test.YthgembbgcbaghaaGreatDoorDt19
set_option maxHeartbeats 2000000
set_option maxRecDepth 100000

namespace Go.Proofs.YthgembbgcbaghaaGreatDoor
open Go.RowKit Go.WideMaps Go.Maps
def zO (o m lo hi:Nat) (v:JV) (an ai:Option Addr) (cn ci:Nat) (st:PS) (w:World):Prop :=
 PickAt o m lo hi v an ai cn ci st w\/(xZ o st.err w/\o<w.heap.size/\m=o/\hi=0)
theorem zO.lt {o m lo hi:Nat} {v:JV} {an ai:Option Addr} {cn ci:Nat} {st:PS} {w:World} (h:zO o m lo hi v an ai cn ci st w):o<w.heap.size/\m<w.heap.size/\hi<=w.heap.size:=by
 rcases h with h|⟨-,h2,rfl,rfl⟩
 . exact ⟨qx h.obj,by obtain ⟨D,n,a,_⟩:=h.map;exact a.lt,h.le⟩
 . exact ⟨h2,h2,J8 _⟩
theorem zO.below {o m lo hi:Nat} {v:JV} {an ai:Option Addr} {cn ci:Nat} {st:PS} {w w':World} (h:zO o m lo hi v an ai cn ci st w) (hb:Below w.heap.size w w'):zO o m lo hi v an ai cn ci st w':=by
 rcases h with h|⟨h1,h2,h3,h4⟩
 . exact .inl (h.below hb)
 . exact .inr ⟨h1.below hb h2,X9 h2 hb.size,h3,h4⟩
theorem zO.touch {o m lo hi g:Nat} {v:JV} {an ai:Option Addr} {cn ci:Nat} {st:PS} {w w':World} (h:zO o m lo hi v an ai cn ci st w) (hT:Touch (fun b=>b=g) w w') (ho:g≠o) (hm:g≠m) (hh:hi<=g):zO o m lo hi v an ai cn ci st w':=by
 rcases h with h|⟨h1,h2,h3,h4⟩
 . exact .inl (h.touch hT ho hm hh)
 . exact .inr ⟨h1.touch hT h2 (Ne.symm ho),X9 h2 hT.size,h3,h4⟩
theorem zO.cells {o m lo hi:Nat} {v:JV} {an ai:Option Addr} {cn ci:Nat} {st:PS} {w:World} (h:zO o m lo hi v an ai cn ci st w):∃k,w.cell? ⟨o,6,none⟩=some (.int .i64 st.err)/\w.cell? ⟨o,0,none⟩=some (.int .u8 k)/\(st.err=0->k=5):=by
 rcases h with h|⟨⟨h1,h2,k,h3⟩,-⟩
 . exact ⟨5,qq h.obj rfl,(qq (j:=0) h.obj rfl).trans (by rw [h.kind];rfl),fun _=>rfl⟩
 . exact ⟨k,h2,h3,fun e=>absurd e h1⟩
theorem QU {o m lo hi:Nat} {v:JV} {an ai:Option Addr} {cn ci:Nat} {st:PS} {w:World} (h:zO o m lo hi v an ai cn ci st w) :
 Calls Tryz.prog 121 #[.pointer (some ⟨o,0,none⟩)] w fun e w'=>e=.returned (.int .i64 st.err)/\w=w':=by
 obtain ⟨k,a,b,c⟩:=h.cells;exact zj o st.err k w a b c
def wX (o m lo hi:Nat) (v:JV) (an ai:Option Addr) (cn ci:Nat) (st:PS) (w w':World):Prop :=
 zO o m lo hi v an ai cn ci st w'/\Touch (fun b=>b=o\/b=m) w w'
theorem mA {v:JV} {y:ByteArray} {st:PS} (h:st.err≠0):ql v y st=(⟨#[]⟩,st):=by unfold ql;rw [J1 h]
theorem dc {v:JV} {y:ByteArray} {l h:Int} {st:PS} (he:st.err≠0):qT v y l h st=(0,st):=by unfold qT;rw [J1 he]
theorem dd {v:JV} {y:ByteArray} {most:Nat} {st:PS} (h:st.err≠0):qX v y most st=(zo,st):=by unfold qX;rw [J1 h]
theorem iq {st:PS} {e:Int} (h:st.err≠0):st.fail e=st:=by unfold PS.fail;rw [Z5 h]
theorem eP {o m lo hi:Nat} {v:JV} {an ai:Option Addr} {cn ci:Nat} {st:PS} {w:World} (y:ByteArray) (h:zO o m lo hi v an ai cn ci st w) (hy:y.size<=4294967296) (ha:st.asked.length<=4294967296) :
 Calls Tryz.prog 124 #[.pointer (some ⟨o,0,none⟩),.string y] w fun e w'=>e=.returned (.string (ql v y st).1)/\wX o m lo hi v an ai cn ci (ql v y st).2 w w':=by
 rcases h with h|⟨h1,h2,h3,h4⟩
 . exact (gH o m lo hi v an ai cn ci y st w h hy ha).mono fun e w' ⟨e1,e2,e3⟩=>⟨e1,.inl e2,e3⟩
 . refine (mW o st.err y w h1).mono fun e w' ⟨e1,e2⟩=>?_;subst e2;rw [mA h1.1];exact ⟨e1,.inr ⟨h1,h2,h3,h4⟩,Touch.refl _ _⟩
theorem Qw {o m lo hi:Nat} {v:JV} {an ai:Option Addr} {cn ci:Nat} {st:PS} {w:World} (y:ByteArray) (l u:Int) (h:zO o m lo hi v an ai cn ci st w) (hy:y.size<=4294967296) (ha:st.asked.length<=4294967296) :
 Calls Tryz.prog 123 #[.pointer (some ⟨o,0,none⟩),.string y,.int .i64 l,.int .i64 u] w fun e w'=>e=.returned (.int .i64 (qT v y l u st).1)/\wX o m lo hi v an ai cn ci (qT v y l u st).2 w w':=by
 have a:=h.lt;rcases h with h|⟨h1,h2,h3,h4⟩
 . exact (tV o m lo hi v an ai cn ci y l u st w h hy ha a.2.1 a.1).mono fun e w' ⟨e1,e2,e3⟩=>⟨e1,.inl e2,e3⟩
 . refine (eO o st.err y l u w h1 h2).mono fun e w' ⟨e1,e2⟩=>?_;rw [dc h1.1];exact ⟨e1,.inr ⟨h1.below e2 h2,X9 h2 e2.size,h3,h4⟩,Touch.of_below e2 lz⟩
def oN (v:JV) (y:ByteArray) (most:Nat) (st:PS) (w:World) (e:Ending) (w':World):Prop :=
 ∃an' cn' ai' ci',e=.returned (.agg #[.int .u8 (qX v y most st).1.kind,.int .i64 (qX v y most st).1.n,.string (qX v y most st).1.t,.slice an' (qX v y most st).1.names.length cn',.slice ai' (qX v y most st).1.items.length ci'])/\Rep w' w.heap.size w'.heap.size (qX v y most st).1 (.agg #[.int .u8 (qX v y most st).1.kind,.int .i64 (qX v y most st).1.n,.string (qX v y most st).1.t,.slice an' (qX v y most st).1.names.length cn',.slice ai' (qX v y most st).1.items.length ci'])
theorem eF {o m lo hi:Nat} {v:JV} {an ai:Option Addr} {cn ci:Nat} {st:PS} {w:World} (y:ByteArray) (most:Nat) (h:zO o m lo hi v an ai cn ci st w) (hy:y.size<=4294967296) (ha:st.asked.length<=4294967296) :
 Calls Tryz.prog 62 #[.pointer (some ⟨o,0,none⟩),.string y,.int .i64 most] w fun e w'=>oN v y most st w e w'/\wX o m lo hi v an ai cn ci (qX v y most st).2 w w':=by
 rcases h with h|⟨h1,h2,h3,h4⟩
 . exact (tW o m lo hi v an ai cn ci y most st w h hy ha).mono fun e w' ⟨⟨a,b,c,d,e1,e2⟩,e3,e4⟩=>⟨⟨a,b,c,d,e1,e2⟩,.inl e3,e4⟩
 . refine (eE o st.err y most w h1 h2).mono fun e w' ⟨e1,e2⟩=>?_;unfold oN;rw [dd h1.1];exact ⟨⟨none,0,none,0,e1,yc _ _ _⟩,.inr ⟨h1.below e2 h2,X9 h2 e2.size,h3,h4⟩,Touch.of_below e2 lz⟩
theorem uR {o m lo hi:Nat} {v:JV} {an ai:Option Addr} {cn ci:Nat} {st:PS} {w:World} (e:Int) (h:zO o m lo hi v an ai cn ci st w) :
 Calls Tryz.prog 63 #[.pointer (some ⟨o,0,none⟩),.int .i64 e] w fun r w'=>r=.returned (.tuple #[])/\wX o m lo hi v an ai cn ci (st.fail e) w w':=by
 rcases h with h|⟨h1,h2,h3,h4⟩
 . exact (sd o m lo hi v an ai cn ci e st w h).mono fun r w' ⟨e1,e2,e3⟩=>⟨e1,.inl e2,e3⟩
 . refine (oY o st.err e w h1).mono fun r w' ⟨e1,e2⟩=>?_;subst e2;rw [iq h1.1];exact ⟨e1,.inr ⟨h1,h2,h3,h4⟩,Touch.refl _ _⟩
theorem dl {o m lo hi:Nat} {v:JV} {an ai:Option Addr} {cn ci:Nat} {st:PS} {w:World} (h:zO o m lo hi v an ai cn ci st w) (hv:v.wt<=4294967296) :
 Calls Tryz.prog 68 #[.pointer (some ⟨o,0,none⟩)] w fun e w'=>e=.returned (.int .i64 (qr v st))/\w=w':=by
 rcases h with h|⟨⟨a,c6,k,c0⟩,b⟩
 . exact uJ o m lo hi v an ai cn ci st w h (fun i hi=>by have a:=kx v.names i hi;have b:=v.wt_eq;omega)
 . refine (mY o st.err k w a c6 c0).mono fun e w' ⟨e1,e2⟩=>⟨?_,e2⟩
   rw [e1];unfold qr;rw [J1 a]
def st0 (v:JV):PS:=if v.kind=5 then ⟨[],0⟩ else ⟨[],10⟩
def gw (C:JV->Prop) (st:PS) (w:World) (e:Ending) (w':World):Prop :=
 ∃u o m lo hi an ai cn ci,C u/\u.wt<=4294967296/\e=.returned (.pointer (some ⟨o,0,none⟩))/\zO o m lo hi u an ai cn ci st w'/\w.heap.size<=o/\w.heap.size<=m/\Below w.heap.size w w'
def jI (v u:JV):Prop:=u=if v.kind=5 then v else zo
theorem iz:zo.wt<=4294967296:=by rw [JV.wt_eq];decide
theorem Qy {v:JV} {x:Value} {w:World} {lo hi:Nat} {C:JV->Prop} (hR:Rep w lo hi v x) (hk:v.kind≠5) (hC:C zo):Calls Tryz.prog 60 #[x] w (gw C (st0 v) w):=by obtain ⟨h,j,g,i,rfl,-⟩:=hR.parts;refine (p8 v.kind v.n v.t _ _ w hk).mono ?_;rintro e w' ⟨o,b,a,c,d,f⟩;refine ⟨zo,o,o,0,0,none,none,0,0,hC,iz,b,?_,a,a,f⟩;unfold st0;rw [Z5 hk];exact .inr ⟨d,c,rfl,rfl⟩
theorem ix {v:JV} {x:Value} {w:World} {lo hi:Nat} (hN:v.wt<=4294967296) (hlo:0<lo) (hhi:hi<=w.heap.size) (hR:Rep w lo hi v x) (hp:v.kind=5->qe v.names=true/\v.names.length=v.items.length):Calls Tryz.prog 60 #[x] w (gw (jI v) (st0 v) w):=by
 by_cases hk:v.kind=5
 . refine (bQ v x w lo hi hN hhi hR hk (hp hk).1 (hp hk).2 (fun _ _=>.inl hlo)).mono ?_;rintro e w' ⟨o,m,b,a,d,c,g,f,h,i,j,k,l⟩;refine ⟨v,o,m,b,a,d,c,g,f,?_,hN,h,?_,j,k,l⟩
   . unfold jI;rw [J1 hk]
   . unfold st0;rw [J1 hk];exact .inl i
 . exact Qy hR hk (by unfold jI;rw [Z5 hk])
def qS (it:JV) (most:Nat):Int:=if it.kind≠4 then 10 else if most<it.items.length then 5 else 0
def zX (it:JV) (most:Nat):Int:=if qS it most≠0 then qS it most else if it.items.all (fun x=>decide (x.kind=3)) then 0 else 10
def kO (it:JV) (most:Nat):List ByteArray:=if zX it most=0 then it.items.map JV.t else []
theorem dr {it:JV} {most:Nat} (e:zX it most=0):it.kind=4/\¬most<it.items.length/\it.items.all (fun x=>decide (x.kind=3))=true:=by
 unfold zX qS at e;by_cases h1:it.kind=4
 . by_cases h2:most<it.items.length
   . simp [h1,h2] at e
   . cases h3:it.items.all (fun x=>decide (x.kind=3)) with
     | true=>exact ⟨h1,h2,rfl⟩
     | false=>simp [h1,h2,h3] at e
 . simp [h1] at e
theorem da {it:JV} {a:List ByteArray} {most:Nat} {X:List ByteArray × PS} (e:¬zX it most=0) :
 (if it.kind≠4 then ([],(⟨a,10⟩:PS)) else if most<it.items.length then ([],⟨a,5⟩) else if it.items.all (fun x=>decide (x.kind=3)) then X else ([],⟨a,10⟩))=([],⟨a,zX it most⟩):=by
 unfold zX qS at e ⊢;by_cases h1:it.kind=4
 . by_cases h2:most<it.items.length
   . simp [h1,h2]
   . cases h3:it.items.all (fun x=>decide (x.kind=3)) with
     | true=>simp [h1,h2,h3] at e
     | false=>simp [h1,h2]
 . simp [h1]
theorem fP {it:JV} {most:Nat} (h:qS it most≠0):zX it most=qS it most:=by unfold zX;rw [J1 h]
theorem uN (it:JV) (most:Nat) (an' ai':Option Addr) (cn' ci':Nat) (w:World) :
 Calls Tryz.prog 129 #[.agg #[.int .u8 it.kind,.int .i64 it.n,.string it.t,.slice an' it.names.length cn',.slice ai' it.items.length ci'],.int .i64 most] w fun e w'=>e=.returned (.tuple #[if qS it most=0 then .slice ai' it.items.length ci' else .slice none 0 0,.int .i64 (qS it most)])/\Below w.heap.size w w':=by
 have a:=O0 (Below w.heap.size w (w.alloc (.cells #[.int .u8 it.kind,.int .i64 it.n,.string it.t,.slice an' it.names.length cn',.slice ai' it.items.length ci'] 25))) ((Z0 _ _).alloc lz _);by_cases hk:it.kind=4
 . by_cases h1:most<it.items.length
   . have b:=U (show qS it most=5 by unfold qS;rw [Z5 (by simp [hk]),J1 h1]);rw [b.o,Z5 (show ¬(5:Int)=0 by decide)];rw [hk] at a ⊢;have c:decide ((most:Int)<(it.items.length:Int))=true:=by simpa using h1
     clear hk;go_enter Tryz.func129,Tryz.ntmps129;go_wp2;go_ret2;exact ⟨rfl,a.o⟩
   . have b:=U (show qS it most=0 by unfold qS;rw [Z5 (by simp [hk]),Z5 h1]);rw [b.o,J1 rfl];rw [hk] at a ⊢;have c:decide ((most:Int)<(it.items.length:Int))=false:=by simpa using h1
     clear hk;go_enter Tryz.func129,Tryz.ntmps129;go_wp2;go_ret2;exact ⟨rfl,a.o⟩
 . have b:=U (show qS it most=10 by unfold qS;rw [J1 hk]);rw [b.o,Z5 (show ¬(10:Int)=0 by decide)];have d:(it.kind != 4)=true:=by simpa using hk
   clear hk;go_enter Tryz.func129,Tryz.ntmps129;go_wp2;go_ret2;exact ⟨rfl,a.o⟩
theorem ij {w:World} {B T sz n c:Nat} {a:Option Addr} {l:List Value} (h:w.ownsRow B T sz (.slice a n c) n l):n<=c:=by
 rcases h.2 with ⟨hv,h0⟩|⟨g,cap,cur,hv,hg,hh,hc,r⟩
 . omega
 . simp only [V2] at hv;omega
def vh (it:JV) (most:Nat) (w:World) (e:Ending) (w':World):Prop :=
 ∃a c,e=.returned (.tuple #[.slice a (kO it most).length c,.int .i64 (zX it most)])/\(kO it most).length<=c/\qv w' w.heap.size w'.heap.size a (kO it most)/\Below w.heap.size w w'
theorem uS {it:JV} {most:Nat} {w w':World} {er:Int} (h:zX it most=er) (h0:er≠0) (hb:Below w.heap.size w w'):vh it most w (.returned (.tuple #[.slice none 0 0,.int .i64 er])) w':=by unfold vh kO;rw [h,Z5 h0];exact ⟨none,0,rfl,J0 _,.inl rfl,hb⟩
theorem sV (it:JV) (most p1:Nat) (an' ai':Option Addr) (cn' ci' lo:Nat) (w:World) (hN:it.wt<=4294967296) (hR:Rep w lo w.heap.size it (.agg #[.int .u8 it.kind,.int .i64 it.n,.string it.t,.slice an' it.names.length cn',.slice ai' it.items.length ci'])) (c1:w.cell? ⟨p1,0,none⟩=some (.int .i64 most)) :
 Calls Tryz.prog 237 #[.agg #[.int .u8 it.kind,.int .i64 it.n,.string it.t,.slice an' it.names.length cn',.slice ai' it.items.length ci'],.pointer (some ⟨p1,0,none⟩)] w (vh it most w):=by
 obtain ⟨b9,c2,b7,c0,hx,-,-,-,h4⟩:=hR.parts;simp only [za2,za9,W8,V2,zc0,M9] at hx;obtain ⟨⟨rfl,rfl⟩,rfl,rfl⟩:=hx;obtain ⟨W,Z⟩:=O1 (w.alloc (.cells #[.int .u8 it.kind,.int .i64 it.n,.string it.t,.slice an' it.names.length cn',.slice ai' it.items.length ci'] 25));have T:Below w.heap.size w W:=by rw [Z];exact (Z0 _ _).alloc lz _
 have d1:W.cell? ⟨p1,0,none⟩=some (.int .i64 most):=by rw [T.cell (G4 w _ c1)];exact c1
 have u:W.heap[w.heap.size]?=some (.cells #[.int .u8 it.kind,.int .i64 it.n,.string it.t,.slice an' it.names.length cn',.slice ai' it.items.length ci'] 25 (0,0)):=by rw [Z];exact Z4 w _
 have G:=U (uN it most an' ai' cn' ci' W);have o:=U T;have H4:=U h4;have Y:=U Z;have J:=U (show it.items.length<=4294967296 by have:=it.wt_bd;omega);obtain ⟨x0,x1,x2,x3,x4⟩:=bx5 u;clear T c1 Z h4 hR u hN;obtain ⟨E,s⟩:=O1 it.items.length;rw [<- s] at G J x4 ⊢;rw [<- s] at Y;have p:=U s;clear s;by_cases hie:qS it most=0
 case neg =>
  have L:=U (fP hie);obtain ⟨er,A⟩:=O1 (qS it most);rw [Z5 hie,<- A] at G;rw [<- A] at L hie;have h1:(er != 0)=true:=by simpa using hie
  have a8:=U hie;clear hie A;go_enter Tryz.func237,Tryz.ntmps237;go_upto_region 1 with fail
  rw [<- Y.o];go_wp2_with fail;refine G.o.mono ?_;rintro e F ⟨rfl,g⟩;have d:=U (O2 o g);clear g;go_wp2;go_ret2;exact uS L.o a8.o d.o
 have L:=U (show zX it most=if it.items.all (fun x=>decide (x.kind=3)) then 0 else 10 by unfold zX;rw [Z5 (by simp [hie])]);rw [J1 hie,hie] at G;clear hie;obtain ⟨i2,b2,u,b4,b5⟩:=V9 yA;go_enter Tryz.func237,Tryz.ntmps237;go_upto_region 1 with fail
 rw [<- Y.o];go_wp2_with fail;refine G.o.mono ?_;clear G;rintro e F ⟨rfl,g⟩;have d:=U (O2 o g);clear g Y x0 x1 x2 x3 x4 d1;go_wp2;go_loopw [7,9,21] (fun vs _ i wr=>∃(k:Nat),k<=E/\i=.int .i64 k/\(∀j (h:j<it.items.length),j<k->it.items[j].kind=3)/\wr.ownsRow F.heap.size 9 1 vs k (((it.items.map JV.t).take k).map .string)/\Below F.heap.size F wr) (fun _ _ i _=>E - (intOf i).toNat)
 case atStart=>exact ⟨0,by omega,rfl,fun j _ h=>by omega,Y7 _ _ _ _,Z0 _ _⟩
 case round =>
  obtain ⟨k,hk,rfl,S,a,c⟩:=hrel;have B:((it.items.map JV.t).take k).length=k:=by rw [N7,J9,<- p.o];omega
  obtain ⟨am,cm,V,-,-⟩:=jp a B.symm;rw [B] at V;subst V;clear B;have I:Hid (Below w.heap.size w wr):=O2 d c;have a0:=U c;have HO:=U a;have H:=U S;clear S;by_cases hlt:k<E
  . have v:k<it.items.length:=by rw [<- p.o];exact hlt
    obtain ⟨b,b6,P,R,N,Q,rfl,_,c3,y0,y1,y2,y3,y4,_⟩:=(H4.o.below I.o lz lz I.o.size).get k v;have b0:=U (show ((it.items.map JV.t).take (k+1)).map Value.string=((it.items.map JV.t).take k).map .string ++ [.string it.items[k].t] by rw [Z6 (by simpa using v),N6];simp);have y:=O0 (it.items[k].kind≠3->it.items.all (fun x=>decide (x.kind=3))=false) (fun h=>zb0.2 ⟨it.items[k],J7 _,by simpa using h⟩);have z:=U (show it.items[k].kind=3->∀j (h:j<it.items.length),j<k+1->it.items[j].kind=3 from fun h j hj hjk=>by
     rcases Y1.1 hjk with h1|h1
     . exact H.o j hj h1
     . subst h1;exact h)
    obtain ⟨vo,b3⟩:=O1 ((Value.slice (some ⟨b,b6,none⟩) E ci'));clear vo b3;generalize it.items[k]=x at *;have hz:F.heap.size<=wr.heap.size:=c.size;obtain ⟨m,f⟩:=O1 (wr.alloc (.cells #[.int .u8 x.kind,.int .i64 x.n,.string x.t,.slice P x.names.length R,.slice N x.items.length Q] 25));have r:Below wr.heap.size wr m:=by rw [f];exact (Z0 _ _).alloc lz _
    have D:m.heap[wr.heap.size]?=some (.cells #[.int .u8 x.kind,.int .i64 x.n,.string x.t,.slice P x.names.length R,.slice N x.items.length Q] 25 (0,0)):=by rw [f];exact Z4 wr _
    have a1:=U (a0.o.trans (r.mono hz));have K:=U (qH HO.o r);have a2:=U (O2 I r);have c6:F.heap.size<=m.heap.size:=by rw [f];simp;omega
    have M:=U f;have z0:m.cell? ⟨wr.heap.size,0,none⟩=some (.int .u8 x.kind):=qq D rfl;have z2:m.cell? ⟨wr.heap.size,2,none⟩=some (.string x.t):=qq D rfl;clear c a r D f;by_cases hk3:x.kind=3
    . have a6:=U (z.o hk3);have h3:(x.kind != 3)=false:=by simpa using hk3
      have c4:=J.o;clear hk3 y z;go_upto_region 8 with fail
      rw [<- M.o];go_wp2_with (at_builtin;refine Y9 _ rfl (.tmp 28) (.tmp 31) 22 rfl F.heap.size 9 i2 _ 1 16 M2 b2 u b4 b5 rfl (by decide) (.slice am k cm) k (((it.items.map JV.t).take k).map .string) rfl (K.o.alloc _) ⟨m.heap.size,0,none⟩ 1 1 [.string x.t] rfl rfl (X0 (cs:=#[.string x.t]) (t:=9) (fr:=(0,0)) (Z4 m _)) (by simp [Value.oneCell']) (by omega) (by unfold maxLen;omega) (by omega) (by simp;omega) (m.heap.size+1) (by simp) ?_;intro g1 cap2 w6 hown6 hgrow6 hat6 hlt6;have a9:=U hown6;have a4:=U hgrow6;clear hown6 hgrow6 hat6);go_roundw
      case rel => refine ⟨k+1,by omega,by go_num,a6.o,?_,below_grown (a1.o.alloc (by omega) _) (by simp;omega) a4.o (fun b T=>(K.o.lt b T).1)⟩;rw [b0.o];exact a9.o
      case measure=>simp [intOf];omega
    . have q:=U (show zX it most=10 by rw [L.o,y.o hk3];rfl);have h3:(x.kind != 3)=true:=by simpa using hk3
      clear hk3 y z;go_upto_region 8 with fail
      rw [<- M.o];go_wp2;go_ret2;exact uS q.o (by decide) a2.o
  . obtain rfl:k=E:=by omega
    have q:=U (show zX it most=0 by
     rw [L.o,J1];refine V4.2 fun x hx=>?_;obtain ⟨j,hj,rfl⟩:=Y3 hx;simpa using H.o j hj (by rw [p.o];exact hj))
    have l:(it.items.map JV.t).length=k:=by rw [J9,p.o]
    rw [Z8 (K3 l)] at a;obtain ⟨a5,c5,C,_,X⟩:=jp a l.symm;rw [l] at C;simp only [V2,zc0] at C;obtain ⟨rfl,rfl⟩:=C;have b1:=U X;have a7:=U l;have a3:=U (ij a);clear a X c l;go_wp2;go_ret2;have e1:kO it most=it.items.map JV.t:=by unfold kO;rw [J1 q.o]
    unfold vh;rw [e1,q.o,a7.o];exact ⟨am,cm,rfl,a3.o,b1.o.carry d.o.size lz (fun _ _ _=>rfl),I.o⟩
def vH (o m lo hi:Nat) (v:JV) (an ai:Option Addr) (cn ci:Nat) (y:ByteArray) (most:Nat) (st:PS) (w:World) (e:Ending) (w':World):Prop :=
 (∃a c,e=.returned (.slice a (qw v y most st).1.length c)/\(qw v y most st).1.length<=c/\qv w' w.heap.size w'.heap.size a (qw v y most st).1)/\PickAt o m lo hi v an ai cn ci (qw v y most st).2 w'/\Touch (fun b=>b=o\/b=m) w w'
theorem ye {o m lo hi:Nat} {v:JV} {an ai:Option Addr} {cn ci:Nat} {y:ByteArray} {most:Nat} {st st':PS} {w w':World} (h:qw v y most st=([],st')) (hP:PickAt o m lo hi v an ai cn ci st' w') (hT:Touch (fun b=>b=o\/b=m) w w'):vH o m lo hi v an ai cn ci y most st w (.returned (.slice none 0 0)) w':=by unfold vH;rw [h];exact ⟨⟨none,0,rfl,J0 _,.inl rfl⟩,hP,hT⟩
theorem sW (o m lo hi:Nat) (v:JV) (an ai:Option Addr) (cn ci:Nat) (y:ByteArray) (most:Nat) (st:PS) (w:World) (hP:PickAt o m lo hi v an ai cn ci st w) (hy:y.size<=4294967296) (ha:st.asked.length<=4294967296) (p1:Nat) (g1:w.heap[p1]?=some (.cells #[.int .i64 most] 3 (0,0))) :
 Calls Tryz.prog 236 #[.pointer (some ⟨o,0,none⟩),.string y,.func (.func 237) #[] #[.pointer (some ⟨p1,0,none⟩)]] w (vH o m lo hi v an ai cn ci y most st w):=by
 have f:=U hP;have H:=U g1;clear hP g1;have W:w.cell? ⟨o,6,none⟩=some (.int .i64 st.err):=qq f.o.obj rfl;have c0:w.cell? ⟨o,0,none⟩=some (.int .u8 5):=(qq (j:=0) f.o.obj rfl).trans (by rw [f.o.kind];rfl);by_cases he:st.err=0
 . rw [he] at W;have B:=U he;clear he;have c1:w.cell? ⟨o,1,none⟩=some (.int .i64 v.n):=qq f.o.obj rfl;have c2:w.cell? ⟨o,2,none⟩=some (.string v.t):=qq f.o.obj rfl;have c3:w.cell? ⟨o,3,none⟩=some (.slice an v.names.length cn):=qq f.o.obj rfl;have c4:w.cell? ⟨o,4,none⟩=some (.slice ai v.items.length ci):=qq f.o.obj rfl;have HR:=U f.o.rep;rw [f.o.kind] at HR;have HG:=U (kX v y _ w lo hi f.o.wt f.o.pos f.o.le HR.o f.o.kind f.o.rise f.o.len);go_enter Tryz.func236,Tryz.ntmps236;go_wp2_with fail;refine (zj o 0 5 w W c0 (fun _=>rfl)).mono ?_;rintro r w' ⟨rfl,rfl⟩;go_wp2_with fail;refine HG.o.mono ?_;clear HG c0 c1 c2 c3 c4 W;rintro e A ⟨hh,Q⟩;have g:=U Q;clear Q;rcases hh with ⟨r,hr1,hr2,hre,an',cn',ai',ci',rfl,hrep⟩|⟨hno,rfl⟩
   . have HL:=U (jU f.o.rise r hr1 hr2 hre);have I:=U hrep;have a3:=U (show v.items[r].wt<=4294967296 by have h1:=JV.wts_get v.items r hr2;have h2:=v.wt_bd;have h3:=f.o.wt;omega);clear hre hrep;generalize v.items[r]=it at *;have F:Below w.heap.size w (A.alloc (.cells #[.int .u8 it.kind,.int .i64 it.n,.string it.t,.slice an' it.names.length cn',.slice ai' it.items.length ci'] 25)):=g.o.alloc g.o.size _;have i:=U F;have x:=U (sV it most p1 an' ai' cn' ci' w.heap.size (A.alloc (.cells #[.int .u8 it.kind,.int .i64 it.n,.string it.t,.slice an' it.names.length cn',.slice ai' it.items.length ci'] 25)) a3.o (I.o.below ((Z0 _ _).alloc lz _) lz lz (by simp)) (qq ((F.block _ (qx H.o)).trans H.o) rfl));clear F;unfold vh at x;by_cases hk:zX it most=0
     . have z:=U (show qw v y most st=(it.items.map JV.t,⟨y :: st.asked,0⟩) by unfold qw;rw [Z5 (by simp [B.o]),HL.o];obtain ⟨q1,q2,q3⟩:=dr hk;simp only;rw [Z5 (by simp [q1]),Z5 q2,J1 q3]);rw [show kO it most=it.items.map JV.t by unfold kO;rw [J1 hk],hk] at x;clear hk;obtain ⟨L,hL⟩:=O1 (it.items.map JV.t);rw [<- hL] at x z;clear hL;go_wp2_with fail;refine x.o.mono ?_;clear x;rintro e G ⟨al,cl,rfl,R,T,q⟩;have X:=U R;clear R;have a:=U (O2 i q);have d:=U (f.o.below a.o);have a2:=U T;have K:=O0 (w.heap.size<(A.alloc (.cells #[.int .u8 it.kind,.int .i64 it.n,.string it.t,.slice an' it.names.length cn',.slice ai' it.items.length ci'] 25)).heap.size) (by have:=g.o.size;simp;omega);have Z:=O0 (m<w.heap.size) (by obtain ⟨D,n,h,_⟩:=f.o.map;exact h.lt);clear q i T;have d5:G.cell? ⟨o,5,none⟩=some (.map (some m)):=qq d.o.obj rfl;have s:Go.keyOf Tryz.prog 9 (.string y)=some (.string y.data.toList):=keyOf_string_mk X8 (by unfold maxLen;omega);obtain ⟨D,n,u,hn,hD⟩:=d.o.map;obtain ⟨c,E,a6,a7,a4⟩:=hD.2 y;obtain ⟨c',a5,p,_⟩:=u.lookup_int jM K8 V1 (kM _) s;rw [E] at p;simp only [zb6,zc8,zc0] at p;subst p;have HD:=U (hD.cons y c E);have Y:=U s;have a0:=U u;clear hD E a4 s u;go_wp2_with (at_mapUpdate;refine za7 _ rfl _ _ _ 150 rfl 9 3 jM K8 _ m n D rfl a0.o (by unfold maxLen;omega) _ _ _ rfl rfl Y.o _ [] (plainElem_int V1 (WalkArith.wf_i64 (by omega))) ?_);intro V hown3 hgrow3;have l:=U (d.o.ask y hgrow3 hown3 (by omega) HD.o);have J:=O0 (Touch (fun b=>b=o\/b=m) w V) (⟨by rw [hgrow3.os,a.o.os],by rw [hgrow3.tape,a.o.tape],by rw [hgrow3.output,a.o.output],Z3 a.o.size hgrow3.size,fun k hk hs=>by rw [hgrow3.block k (X9 hk a.o.size) (fun e=>hs (.inr (X7 e))),a.o.block k hk]⟩);have a1:=O0 (qv V w.heap.size V.heap.size al L) (a2.o.carry (Nat.le_of_lt K.o) hgrow3.size fun b h1 h2=>hgrow3.block b h2 (fun e=>by have:=X7 e;have:=K.o;have:=Z.o;omega));clear hgrow3 hown3;rw [B.o] at l;go_wp2;go_ret;unfold vH;rw [z.o];exact ⟨⟨al,cl,rfl,X.o,a1.o⟩,l.o,J.o⟩
     . have z:=U (show qw v y most st=([],⟨st.asked,zX it most⟩) by unfold qw;rw [Z5 (by simp [B.o]),HL.o];exact da hk);rw [show kO it most=[] by unfold kO;rw [Z5 hk]] at x;obtain ⟨C,S⟩:=O1 (zX it most);rw [<- S] at x z hk;have b0:(C != 0)=true:=by simpa using hk
       have b1:(C == 0)=false:=by simpa using hk
       clear hk S;go_wp2_with fail;refine x.o.mono ?_;clear x;rintro e G ⟨al,cl,rfl,-,-,q⟩;have a:=U (O2 i q);have d:=U (f.o.below a.o);clear q i;have N:G.cell? ⟨o,6,none⟩=some (.int .i64 0):=(qq (j:=6) d.o.obj rfl).trans (by rw [B.o];rfl);have M:G.cell? ⟨o,0,none⟩=some (.int .u8 5):=(qq (j:=0) d.o.obj rfl).trans (by rw [f.o.kind];rfl);have P:G.frozen? ⟨o,6,none⟩=false:=by simp [World.frozen?,d.o.obj]
       go_wp2_with fail
       refine (z8 o C _ N M P).mono ?_;clear N M P;rintro e V ⟨rfl,rfl⟩;have l:=U (d.o.fail C);have J:=O0 (Touch (fun b=>b=o\/b=m) w (G.setCell ⟨o,6,none⟩ (.int .i64 C))) ((Touch.of_below a.o lz).setCell (.inl (.inl rfl)) _);go_wp2;go_ret;exact ye z.o l.o J.o
   . have z:=U (show qw v y most st=([],⟨st.asked,6⟩) by unfold qw;rw [Z5 (by simp [B.o]),show v.look y=none from xY _ _ _ hno]);unfold zeroAgg;have a:=O0 (Below w.heap.size w (A.alloc (.cells #[.int .u8 0,.int .i64 0,.string ⟨#[]⟩,.slice none 0 0,.slice none 0 0] 25))) (g.o.alloc g.o.size _);have d:=U (f.o.below a.o);clear hno g;have N:(A.alloc (.cells #[.int .u8 0,.int .i64 0,.string ⟨#[]⟩,.slice none 0 0,.slice none 0 0] 25)).cell? ⟨o,6,none⟩=some (.int .i64 0):=(qq (j:=6) d.o.obj rfl).trans (by rw [B.o];rfl);have M:(A.alloc (.cells #[.int .u8 0,.int .i64 0,.string ⟨#[]⟩,.slice none 0 0,.slice none 0 0] 25)).cell? ⟨o,0,none⟩=some (.int .u8 5):=(qq (j:=0) d.o.obj rfl).trans (by rw [f.o.kind];rfl);have P:(A.alloc (.cells #[.int .u8 0,.int .i64 0,.string ⟨#[]⟩,.slice none 0 0,.slice none 0 0] 25)).frozen? ⟨o,6,none⟩=false:=by simp [World.frozen?,d.o.obj]
     go_wp2_with fail
     refine (z8 o 6 _ N M P).mono ?_;clear N M P;rintro e V ⟨rfl,rfl⟩;have l:=U (d.o.fail 6);have J:=O0 (Touch (fun b=>b=o\/b=m) w ((A.alloc (.cells #[.int .u8 0,.int .i64 0,.string ⟨#[]⟩,.slice none 0 0,.slice none 0 0] 25)).setCell ⟨o,6,none⟩ (.int .i64 6))) ((Touch.of_below a.o lz).setCell (.inl (.inl rfl)) _);go_wp2;go_ret;exact ye z.o l.o J.o
 . have a8:(st.err == 0)=false:=by simpa using he
   have a9:(st.err != 0)=true:=by simpa using he
   have z:=U (show qw v y most st=([],st) by unfold qw;rw [J1 he]);have B:=U he;clear he;go_enter Tryz.func236,Tryz.ntmps236;go_wp2_with fail;refine (zj o st.err 5 w W c0 (fun _=>rfl)).mono ?_;rintro r w' ⟨rfl,rfl⟩;go_wp2;go_ret;exact ye z.o f.o (Touch.refl _ _)
theorem rl {o m lo hi:Nat} {v:JV} {an ai:Option Addr} {cn ci:Nat} {st:PS} {w:World} (y:ByteArray) (most:Nat) (h:zO o m lo hi v an ai cn ci st w) (hy:y.size<=4294967296) (ha:st.asked.length<=4294967296) :
 Calls Tryz.prog 182 #[.pointer (some ⟨o,0,none⟩),.string y,.int .i64 most] w fun e w'=>(∃a c,e=.returned (.slice a (qw v y most st).1.length c)/\(qw v y most st).1.length<=c/\qv w' w.heap.size w'.heap.size a (qw v y most st).1)/\wX o m lo hi v an ai cn ci (qw v y most st).2 w w':=by
 have g:Below w.heap.size w (w.alloc (.cells #[.int .i64 most] 3)):=(Z0 _ _).alloc lz _;have x:=U (show Calls Tryz.prog 236 #[.pointer (some ⟨o,0,none⟩),.string y,.func (.func 237) #[] #[.pointer (some ⟨w.heap.size,0,none⟩)]] (w.alloc (.cells #[.int .i64 most] 3)) (fun e w'=>(∃a c,e=.returned (.slice a (qw v y most st).1.length c)/\(qw v y most st).1.length<=c/\qv w' w.heap.size w'.heap.size a (qw v y most st).1)/\wX o m lo hi v an ai cn ci (qw v y most st).2 w w') by
  have f:Touch (fun b=>b=o\/b=m) w (w.alloc (.cells #[.int .i64 most] 3)):=Touch.of_below g lz;rcases h with h|⟨⟨d,c6,k,c0⟩,j,h3,h4⟩
  . refine (sW o m lo hi v an ai cn ci y most st _ (h.below g) hy ha w.heap.size (Z4 w _)).mono ?_;rintro e w' ⟨⟨a,c,F,K,G⟩,H,I⟩;exact ⟨⟨a,c,F,K,G.carry g.size lz (fun _ _ _=>rfl)⟩,.inl H,f.trans (I.mono fun _ _ h=>h)⟩
  . obtain ⟨i,l⟩:=O1 (w.alloc (.cells #[.int .i64 most] 3));rw [<- l] at g f ⊢;have s:=O0 (zO o m lo hi v an ai cn ci st i) ((zO.below (.inr ⟨⟨d,c6,k,c0⟩,j,h3,h4⟩) g));have J:i.cell? ⟨o,6,none⟩=some (.int .i64 st.err):=by rw [g.cell j];exact c6
    have E:i.cell? ⟨o,0,none⟩=some (.int .u8 k):=by rw [g.cell j];exact c0
    have M:(st.err == 0)=false:=by simpa using d
    have N:(st.err != 0)=true:=by simpa using d
    have C:=U d;have u:=U f;have D:=U (show qw v y most st=([],st) by unfold qw;rw [J1 d]);clear d c6 c0 l g f;go_enter Tryz.func236,Tryz.ntmps236;go_wp2_with fail;refine (zj o st.err k i J E (fun h=>absurd h C.o)).mono ?_;rintro r w' ⟨rfl,L⟩;subst L;go_wp2;go_ret;rw [D.o];exact ⟨⟨none,0,rfl,J0 _,.inl rfl⟩,s.o,u.o⟩)
 clear h g;obtain ⟨R,z⟩:=O1 (qw v y most st);rw [<- z] at x ⊢;clear z;go_enter Tryz.func182,Tryz.ntmps182;go_wp2_with fail;refine x.o.mono ?_;rintro e w' ⟨⟨a,c,rfl,p,d⟩,j⟩;have q:=U p;clear p;have A:=U d;have B:=U j;clear d j;go_wp2;go_ret;exact ⟨⟨a,c,rfl,q.o,A.o⟩,B.o⟩
theorem QM {o m lo hi:Nat} {v:JV} {an ai:Option Addr} {cn ci:Nat} {st:PS} {w:World} (y:ByteArray) (h:zO o m lo hi v an ai cn ci st w) :
 Calls Tryz.prog 64 #[.pointer (some ⟨o,0,none⟩),.string y] w fun e w'=>e=.returned (.bool (zv v y st))/\Below w.heap.size w w':=by
 rcases h with h|⟨h1,h2,h3,h4⟩
 . exact tB o m lo hi v an ai cn ci y st w h
 . refine (Qq o st.err y w h1).mono fun e w' ⟨e1,e2⟩=>?_;subst e2;have:zv v y st=false:=by unfold zv;simp [h1.1]
   rw [this];exact ⟨e1,Z0 _ _⟩
def kN (k n:Int):Bool:=if k=1 then decide (n=1) else false
theorem ik (k n:Int) (t:ByteArray) (a b:Value) (w:World) :
 Calls Tryz.prog 239 #[.agg #[.int .u8 k,.int .i64 n,.string t,a,b]] w fun e w'=>e=.returned (.tuple #[.bool (kN k n),.int .i64 (if k=1 then 0 else 10)])/\Below w.heap.size w w':=by
 have d:=O0 (Below w.heap.size w (w.alloc (.cells #[.int .u8 k,.int .i64 n,.string t,a,b] 25))) ((Z0 _ _).alloc lz _);by_cases hk:k=1
 . subst hk;have c:=O0 (kN 1 n=decide (n=1)) rfl;go_enter Tryz.func239,Tryz.ntmps239;go_wp2;go_ret2;exact ⟨by rw [c.o] <;> rfl,d.o⟩
 . have c:=U (show kN k n=false by unfold kN;rw [Z5 hk]);rw [c.o,Z5 hk];have f:(k == 1)=false:=by simpa using hk
   have g:(k != 1)=true:=by simpa using hk
   clear hk;go_enter Tryz.func239,Tryz.ntmps239;go_wp2;go_ret2;exact ⟨rfl,d.o⟩
def gy (o m lo hi:Nat) (v:JV) (an ai:Option Addr) (cn ci:Nat) (y:ByteArray) (st:PS) (w:World) (e:Ending) (w':World):Prop :=
 e=.returned (.bool (qO v y st).1)/\PickAt o m lo hi v an ai cn ci (qO v y st).2 w'/\Touch (fun b=>b=o\/b=m) w w'
theorem gS {o m lo hi:Nat} {v:JV} {an ai:Option Addr} {cn ci:Nat} {y:ByteArray} {st st':PS} {w w':World} (h:qO v y st=(false,st')) (hP:PickAt o m lo hi v an ai cn ci st' w') (hT:Touch (fun b=>b=o\/b=m) w w'):gy o m lo hi v an ai cn ci y st w (.returned (.bool false)) w':=by unfold gy;rw [h];exact ⟨rfl,hP,hT⟩
theorem iw (o m lo hi:Nat) (v:JV) (an ai:Option Addr) (cn ci:Nat) (y:ByteArray) (st:PS) (w:World) (hP:PickAt o m lo hi v an ai cn ci st w) (hy:y.size<=4294967296) (ha:st.asked.length<=4294967296) :
 Calls Tryz.prog 238 #[.pointer (some ⟨o,0,none⟩),.string y,.func (.func 239) #[] #[]] w (gy o m lo hi v an ai cn ci y st w):=by
 have f:=U hP;clear hP;have M:w.cell? ⟨o,6,none⟩=some (.int .i64 st.err):=qq f.o.obj rfl;have Q:w.cell? ⟨o,0,none⟩=some (.int .u8 5):=(qq (j:=0) f.o.obj rfl).trans (by rw [f.o.kind];rfl);by_cases he:st.err=0
 . rw [he] at M;have z:=U he;clear he;have c1:w.cell? ⟨o,1,none⟩=some (.int .i64 v.n):=qq f.o.obj rfl;have c2:w.cell? ⟨o,2,none⟩=some (.string v.t):=qq f.o.obj rfl;have c3:w.cell? ⟨o,3,none⟩=some (.slice an v.names.length cn):=qq f.o.obj rfl;have c4:w.cell? ⟨o,4,none⟩=some (.slice ai v.items.length ci):=qq f.o.obj rfl;have X:=U f.o.rep;rw [f.o.kind] at X;have V:=U (kX v y _ w lo hi f.o.wt f.o.pos f.o.le X.o f.o.kind f.o.rise f.o.len);go_enter Tryz.func238,Tryz.ntmps238;go_wp2_with fail;refine (zj o 0 5 w M Q (fun _=>rfl)).mono ?_;rintro r w' ⟨rfl,rfl⟩;go_wp2_with fail;refine V.o.mono ?_;clear V Q c1 c2 c3 c4 M;rintro e B ⟨hh,J⟩;have i:=U J;clear J;rcases hh with ⟨r,hr1,hr2,hre,an',cn',ai',ci',rfl,hrep⟩|⟨hno,rfl⟩
   . have W:=U (jU f.o.rise r hr1 hr2 hre);clear hre hrep;generalize v.items[r]=it at *;have K:Below w.heap.size w (B.alloc (.cells #[.int .u8 it.kind,.int .i64 it.n,.string it.t,.slice an' it.names.length cn',.slice ai' it.items.length ci'] 25)):=i.o.alloc i.o.size _;have g:=U K;have u:=U (ik it.kind it.n it.t (.slice an' it.names.length cn') (.slice ai' it.items.length ci') (B.alloc (.cells #[.int .u8 it.kind,.int .i64 it.n,.string it.t,.slice an' it.names.length cn',.slice ai' it.items.length ci'] 25)));clear K;by_cases hk:it.kind=1
     . have x:=U (show qO v y st=(decide (it.n=1),⟨y :: st.asked,0⟩) by unfold qO;rw [Z5 (by simp [z.o]),W.o];simp [hk]);rw [J1 hk] at u;have I:kN it.kind it.n=decide (it.n=1):=by unfold kN;rw [J1 hk]
       rw [I] at u;clear hk I;obtain ⟨L,Y⟩:=O1 (decide (it.n=1));rw [<- Y] at u x;clear Y;go_wp2_with fail;refine u.o.mono ?_;clear u;rintro e C ⟨rfl,p⟩;have a:=U (O2 g p);have d:=U (f.o.below a.o);clear p g;have d5:C.cell? ⟨o,5,none⟩=some (.map (some m)):=qq d.o.obj rfl;have q:Go.keyOf Tryz.prog 9 (.string y)=some (.string y.data.toList):=keyOf_string_mk X8 (by unfold maxLen;omega);obtain ⟨D,n,s,hn,R⟩:=d.o.map;obtain ⟨c,A,a0,a1,S⟩:=R.2 y;obtain ⟨c',Z,l,_⟩:=s.lookup_int jM K8 V1 (kM _) q;rw [A] at l;simp only [zb6,zc8,zc0] at l;subst l;have HD:=U (R.cons y c A);have N:=U q;have P:=U s;clear R A S q s;go_wp2_with (at_mapUpdate;refine za7 _ rfl _ _ _ 150 rfl 9 3 jM K8 _ m n D rfl P.o (by unfold maxLen;omega) _ _ _ rfl rfl N.o _ [] (plainElem_int V1 (WalkArith.wf_i64 (by omega))) ?_);intro T hown3 hgrow3;have h:=U (d.o.ask y hgrow3 hown3 (by omega) HD.o);have E:=O0 (Touch (fun b=>b=o\/b=m) w T) (⟨by rw [hgrow3.os,a.o.os],by rw [hgrow3.tape,a.o.tape],by rw [hgrow3.output,a.o.output],Z3 a.o.size hgrow3.size,fun k hk hs=>by rw [hgrow3.block k (X9 hk a.o.size) (fun e=>hs (.inr (X7 e))),a.o.block k hk]⟩);clear hgrow3 hown3;rw [z.o] at h;go_wp2;go_ret;unfold gy;rw [x.o];exact ⟨rfl,h.o,E.o⟩
     . have x:=U (show qO v y st=(false,⟨st.asked,10⟩) by unfold qO;rw [Z5 (by simp [z.o]),W.o];simp [hk]);rw [Z5 hk] at u;have I:kN it.kind it.n=false:=by unfold kN;rw [Z5 hk]
       rw [I] at u;clear hk I;go_wp2_with fail;refine u.o.mono ?_;clear u;rintro e C ⟨rfl,p⟩;have a:=U (O2 g p);have d:=U (f.o.below a.o);clear p g;have G:C.cell? ⟨o,6,none⟩=some (.int .i64 0):=(qq (j:=6) d.o.obj rfl).trans (by rw [z.o];rfl);have F:C.cell? ⟨o,0,none⟩=some (.int .u8 5):=(qq (j:=0) d.o.obj rfl).trans (by rw [f.o.kind];rfl);have H:C.frozen? ⟨o,6,none⟩=false:=by simp [World.frozen?,d.o.obj]
       go_wp2_with fail
       refine (z8 o 10 _ G F H).mono ?_;clear G F H;rintro e T ⟨rfl,rfl⟩;have h:=U (d.o.fail 10);have E:=O0 (Touch (fun b=>b=o\/b=m) w (C.setCell ⟨o,6,none⟩ (.int .i64 10))) ((Touch.of_below a.o lz).setCell (.inl (.inl rfl)) _);go_wp2;go_ret;exact gS x.o h.o E.o
   . have x:=U (show qO v y st=(false,⟨st.asked,6⟩) by unfold qO;rw [Z5 (by simp [z.o]),show v.look y=none from xY _ _ _ hno]);unfold zeroAgg;have a:=O0 (Below w.heap.size w (B.alloc (.cells #[.int .u8 0,.int .i64 0,.string ⟨#[]⟩,.slice none 0 0,.slice none 0 0] 25))) (i.o.alloc i.o.size _);have d:=U (f.o.below a.o);clear hno i;have G:(B.alloc (.cells #[.int .u8 0,.int .i64 0,.string ⟨#[]⟩,.slice none 0 0,.slice none 0 0] 25)).cell? ⟨o,6,none⟩=some (.int .i64 0):=(qq (j:=6) d.o.obj rfl).trans (by rw [z.o];rfl);have F:(B.alloc (.cells #[.int .u8 0,.int .i64 0,.string ⟨#[]⟩,.slice none 0 0,.slice none 0 0] 25)).cell? ⟨o,0,none⟩=some (.int .u8 5):=(qq (j:=0) d.o.obj rfl).trans (by rw [f.o.kind];rfl);have H:(B.alloc (.cells #[.int .u8 0,.int .i64 0,.string ⟨#[]⟩,.slice none 0 0,.slice none 0 0] 25)).frozen? ⟨o,6,none⟩=false:=by simp [World.frozen?,d.o.obj]
     go_wp2_with fail
     refine (z8 o 6 _ G F H).mono ?_;clear G F H;rintro e T ⟨rfl,rfl⟩;have h:=U (d.o.fail 6);have E:=O0 (Touch (fun b=>b=o\/b=m) w ((B.alloc (.cells #[.int .u8 0,.int .i64 0,.string ⟨#[]⟩,.slice none 0 0,.slice none 0 0] 25)).setCell ⟨o,6,none⟩ (.int .i64 6))) ((Touch.of_below a.o lz).setCell (.inl (.inl rfl)) _);go_wp2;go_ret;exact gS x.o h.o E.o
 . have a2:(st.err == 0)=false:=by simpa using he
   have a3:(st.err != 0)=true:=by simpa using he
   have x:=U (show qO v y st=(false,st) by unfold qO;rw [J1 he]);have z:=U he;clear he;go_enter Tryz.func238,Tryz.ntmps238;go_wp2_with fail;refine (zj o st.err 5 w M Q (fun _=>rfl)).mono ?_;rintro r w' ⟨rfl,rfl⟩;go_wp2;go_ret;exact gS x.o f.o (Touch.refl _ _)
theorem QC {o m lo hi:Nat} {v:JV} {an ai:Option Addr} {cn ci:Nat} {st:PS} {w:World} (y:ByteArray) (h:zO o m lo hi v an ai cn ci st w) (hy:y.size<=4294967296) (ha:st.asked.length<=4294967296) :
 Calls Tryz.prog 188 #[.pointer (some ⟨o,0,none⟩),.string y] w fun e w'=>e=.returned (.bool (qO v y st).1)/\wX o m lo hi v an ai cn ci (qO v y st).2 w w':=by
 have c:=U (show Calls Tryz.prog 238 #[.pointer (some ⟨o,0,none⟩),.string y,.func (.func 239) #[] #[]] w (fun e w'=>e=.returned (.bool (qO v y st).1)/\wX o m lo hi v an ai cn ci (qO v y st).2 w w') by
  rcases h with h|⟨⟨h1,c6,k,c0⟩,a,h3,h4⟩
  . refine (iw o m lo hi v an ai cn ci y st _ h hy ha).mono ?_;rintro e w' ⟨j,l,p⟩;exact ⟨j,.inl l,p⟩
  . have b:=O0 (zO o m lo hi v an ai cn ci st w) (.inr ⟨⟨h1,c6,k,c0⟩,a,h3,h4⟩);have s:(st.err == 0)=false:=by simpa using h1
    have u:(st.err != 0)=true:=by simpa using h1
    have g:=U h1;have i:=U (show qO v y st=(false,st) by unfold qO;rw [J1 h1]);clear h1;go_enter Tryz.func238,Tryz.ntmps238;go_wp2_with fail;refine (zj o st.err k w c6 c0 (fun h=>absurd h g.o)).mono ?_;rintro r w' ⟨rfl,q⟩;subst q;go_wp2;go_ret;rw [i.o];exact ⟨rfl,b.o,Touch.refl _ _⟩)
 clear h;obtain ⟨R,d⟩:=O1 (qO v y st);rw [<- d] at c ⊢;clear d;go_enter Tryz.func188,Tryz.ntmps188;go_wp2_with fail;refine c.o.mono ?_;rintro e w' ⟨rfl,a⟩;have f:=U a;clear a;go_wp2;go_ret;exact ⟨rfl,f.o⟩
def kY (it:JV) (most:Nat):List JV:=if qS it most=0 then it.items else []
theorem dt {it:JV} {most:Nat} (e:qS it most=0):it.kind=4/\¬most<it.items.length:=by
 unfold qS at e;by_cases h1:it.kind=4
 . by_cases h2:most<it.items.length
   . simp [h1,h2] at e
   . exact ⟨h1,h2⟩
 . simp [h1] at e
theorem di {it:JV} {a:List ByteArray} {most:Nat} {X:List JV × PS} (e:¬qS it most=0) :
 (if it.kind≠4 then ([],(⟨a,10⟩:PS)) else if most<it.items.length then ([],⟨a,5⟩) else X)=([],⟨a,qS it most⟩):=by
 unfold qS at e ⊢;by_cases h1:it.kind=4
 . by_cases h2:most<it.items.length
   . simp [h1,h2]
   . simp [h1,h2] at e
 . simp [h1]
def wL (it:JV) (most lo:Nat) (w:World) (e:Ending) (w':World):Prop :=
 ∃a c,e=.returned (.tuple #[.slice a (kY it most).length c,.int .i64 (qS it most)])/\(kY it most).length<=c/\zc w' lo w'.heap.size a (kY it most)/\Below w.heap.size w w'
theorem iy (it:JV) (most p1:Nat) (an' ai':Option Addr) (cn' ci' lo:Nat) (w:World) (hR:Rep w lo w.heap.size it (.agg #[.int .u8 it.kind,.int .i64 it.n,.string it.t,.slice an' it.names.length cn',.slice ai' it.items.length ci'])) (c1:w.cell? ⟨p1,0,none⟩=some (.int .i64 most)) :
 Calls Tryz.prog 128 #[.agg #[.int .u8 it.kind,.int .i64 it.n,.string it.t,.slice an' it.names.length cn',.slice ai' it.items.length ci'],.pointer (some ⟨p1,0,none⟩)] w (wL it most lo w):=by
 have f:it.items.length<=ci'/\zc w lo w.heap.size ai' it.items:=(by obtain ⟨m,p,l,o,j,x,u,y,v⟩:=hR.parts;simp only [za2,za9,W8,V2] at j;obtain ⟨-,-,-,-,⟨r,-,s⟩,-⟩:=j;rw [r,s];exact ⟨u,v⟩);have h:Below w.heap.size w (w.alloc (.cells #[.int .u8 it.kind,.int .i64 it.n,.string it.t,.slice an' it.names.length cn',.slice ai' it.items.length ci'] 25)):=(Z0 _ _).alloc lz _;have q:(w.alloc (.cells #[.int .u8 it.kind,.int .i64 it.n,.string it.t,.slice an' it.names.length cn',.slice ai' it.items.length ci'] 25)).cell? ⟨p1,0,none⟩=some (.int .i64 most):=by rw [h.cell (G4 w _ c1)];exact c1
 have c:=U (fun w=>uN it most an' ai' cn' ci' w);have i:=U h;have b:=U f;clear hR h f c1;go_enter Tryz.func128,Tryz.ntmps128;go_wp2_with fail;refine (c.o _).mono ?_;clear c;rintro e w' ⟨rfl,d⟩;have a:=U (O2 i d);clear d q;by_cases hk:qS it most=0
 . have k:=U hk;have g:=U (show kY it most=it.items by unfold kY;rw [J1 hk]);rw [hk];simp only [if_true];clear hk;go_wp2;go_ret2;unfold wL;rw [g.o,k.o];exact ⟨ai',ci',rfl,b.o.1,b.o.2.below a.o lz lz a.o.size,a.o⟩
 . have g:=U (show kY it most=[] by unfold kY;rw [Z5 hk]);simp only [Z5 hk];clear hk;go_wp2;go_ret2;unfold wL;rw [g.o];exact ⟨none,0,rfl,J0 _,.inl rfl,a.o⟩
def wR (o m lo hi:Nat) (v:JV) (an ai:Option Addr) (cn ci:Nat) (y:ByteArray) (most:Nat) (st:PS) (w:World) (e:Ending) (w':World):Prop :=
 (∃a c,e=.returned (.slice a (qB v y most st).1.length c)/\(qB v y most st).1.length<=c/\zc w' w.heap.size w'.heap.size a (qB v y most st).1)/\PickAt o m lo hi v an ai cn ci (qB v y most st).2 w'/\Touch (fun b=>b=o\/b=m) w w'
theorem gA {o m lo hi:Nat} {v:JV} {an ai:Option Addr} {cn ci:Nat} {y:ByteArray} {most:Nat} {st st':PS} {w w':World} (h:qB v y most st=([],st')) (hP:PickAt o m lo hi v an ai cn ci st' w') (hT:Touch (fun b=>b=o\/b=m) w w'):wR o m lo hi v an ai cn ci y most st w (.returned (.slice none 0 0)) w':=by unfold wR;rw [h];exact ⟨⟨none,0,rfl,J0 _,.inl rfl⟩,hP,hT⟩
theorem ig (o m lo hi:Nat) (v:JV) (an ai:Option Addr) (cn ci:Nat) (y:ByteArray) (most:Nat) (st:PS) (w:World) (hP:PickAt o m lo hi v an ai cn ci st w) (hy:y.size<=4294967296) (ha:st.asked.length<=4294967296) (p1:Nat) (g1:w.heap[p1]?=some (.cells #[.int .i64 most] 3 (0,0))) :
 Calls Tryz.prog 127 #[.pointer (some ⟨o,0,none⟩),.string y,.func (.func 128) #[] #[.pointer (some ⟨p1,0,none⟩)]] w (wR o m lo hi v an ai cn ci y most st w):=by
 have f:=U hP;have H:=U g1;clear hP g1;have T:w.cell? ⟨o,6,none⟩=some (.int .i64 st.err):=qq f.o.obj rfl;have c0:w.cell? ⟨o,0,none⟩=some (.int .u8 5):=(qq (j:=0) f.o.obj rfl).trans (by rw [f.o.kind];rfl);by_cases he:st.err=0
 . rw [he] at T;have B:=U he;clear he;have c1:w.cell? ⟨o,1,none⟩=some (.int .i64 v.n):=qq f.o.obj rfl;have c2:w.cell? ⟨o,2,none⟩=some (.string v.t):=qq f.o.obj rfl;have c3:w.cell? ⟨o,3,none⟩=some (.slice an v.names.length cn):=qq f.o.obj rfl;have c4:w.cell? ⟨o,4,none⟩=some (.slice ai v.items.length ci):=qq f.o.obj rfl;have HR:=U f.o.rep;rw [f.o.kind] at HR;have HG:=U (kX v y _ w lo hi f.o.wt f.o.pos f.o.le HR.o f.o.kind f.o.rise f.o.len);go_enter Tryz.func127,Tryz.ntmps127;go_wp2_with fail;refine (zj o 0 5 w T c0 (fun _=>rfl)).mono ?_;rintro r w' ⟨rfl,rfl⟩;go_wp2_with fail;refine HG.o.mono ?_;clear HG c0 c1 c2 c3 c4 T;rintro e A ⟨hh,N⟩;have g:=U N;clear N;rcases hh with ⟨r,hr1,hr2,hre,an',cn',ai',ci',rfl,hrep⟩|⟨hno,rfl⟩
   . have HL:=U (jU f.o.rise r hr1 hr2 hre);have I:=U hrep;clear hre hrep;generalize v.items[r]=it at *;have F:Below w.heap.size w (A.alloc (.cells #[.int .u8 it.kind,.int .i64 it.n,.string it.t,.slice an' it.names.length cn',.slice ai' it.items.length ci'] 25)):=g.o.alloc g.o.size _;have i:=U F;have x:=U (iy it most p1 an' ai' cn' ci' w.heap.size (A.alloc (.cells #[.int .u8 it.kind,.int .i64 it.n,.string it.t,.slice an' it.names.length cn',.slice ai' it.items.length ci'] 25)) (Rep.below I.o ((Z0 _ _).alloc lz _) lz lz (by simp)) (qq ((F.block _ (qx H.o)).trans H.o) rfl));clear F;unfold wL at x;by_cases hk:qS it most=0
     . have z:=U (show qB v y most st=(it.items,⟨y :: st.asked,0⟩) by unfold qB;rw [Z5 (by simp [B.o]),HL.o];obtain ⟨q1,q2⟩:=dt hk;simp only;rw [Z5 (by simp [q1]),Z5 q2]);rw [show kY it most=it.items by unfold kY;rw [J1 hk],hk] at x;clear hk;go_wp2_with fail;refine x.o.mono ?_;clear x;rintro e G ⟨al,cl,rfl,P,R,q⟩;have a:=U (O2 i q);have d:=U (f.o.below a.o);have a0:=U R;have V:=U P;have a1:=O0 (w.heap.size<(A.alloc (.cells #[.int .u8 it.kind,.int .i64 it.n,.string it.t,.slice an' it.names.length cn',.slice ai' it.items.length ci'] 25)).heap.size) (by have:=g.o.size;simp;omega);have X:=O0 (m<w.heap.size) (by obtain ⟨D,n,h,_⟩:=f.o.map;exact h.lt);clear q i R P;have d5:G.cell? ⟨o,5,none⟩=some (.map (some m)):=qq d.o.obj rfl;have s:Go.keyOf Tryz.prog 9 (.string y)=some (.string y.data.toList):=keyOf_string_mk X8 (by unfold maxLen;omega);obtain ⟨D,n,u,hn,hD⟩:=d.o.map;obtain ⟨c,E,a4,a5,a2⟩:=hD.2 y;obtain ⟨c',a3,p,_⟩:=u.lookup_int jM K8 V1 (kM _) s;rw [E] at p;simp only [zb6,zc8,zc0] at p;subst p;have HD:=U (hD.cons y c E);have W:=U s;have Y:=U u;clear hD E a2 s u;go_wp2_with (at_mapUpdate;refine za7 _ rfl _ _ _ 150 rfl 9 3 jM K8 _ m n D rfl Y.o (by unfold maxLen;omega) _ _ _ rfl rfl W.o _ [] (plainElem_int V1 (WalkArith.wf_i64 (by omega))) ?_);intro S hown3 hgrow3;have l:=U (d.o.ask y hgrow3 hown3 (by omega) HD.o);have J:=O0 (Touch (fun b=>b=o\/b=m) w S) (⟨by rw [hgrow3.os,a.o.os],by rw [hgrow3.tape,a.o.tape],by rw [hgrow3.output,a.o.output],Z3 a.o.size hgrow3.size,fun k hk hs=>by rw [hgrow3.block k (X9 hk a.o.size) (fun e=>hs (.inr (X7 e))),a.o.block k hk]⟩);have Z:=O0 (zc S w.heap.size S.heap.size al it.items) (a0.o.carry lz hgrow3.size fun b h1 h2=>hgrow3.block b h2 (fun e=>by have:=X7 e;have:=a1.o;have:=X.o;omega));clear hgrow3 hown3;rw [B.o] at l;go_wp2;go_ret;unfold wR;rw [z.o];exact ⟨⟨al,cl,rfl,V.o,Z.o⟩,l.o,J.o⟩
     . have z:=U (show qB v y most st=([],⟨st.asked,qS it most⟩) by unfold qB;rw [Z5 (by simp [B.o]),HL.o];exact di hk);rw [show kY it most=[] by unfold kY;rw [Z5 hk]] at x;obtain ⟨C,Q⟩:=O1 (qS it most);rw [<- Q] at x z hk;have a8:(C != 0)=true:=by simpa using hk
       have a9:(C == 0)=false:=by simpa using hk
       clear hk Q;go_wp2_with fail;refine x.o.mono ?_;clear x;rintro e G ⟨al,cl,rfl,-,-,q⟩;have a:=U (O2 i q);have d:=U (f.o.below a.o);clear q i;have L:G.cell? ⟨o,6,none⟩=some (.int .i64 0):=(qq (j:=6) d.o.obj rfl).trans (by rw [B.o];rfl);have K:G.cell? ⟨o,0,none⟩=some (.int .u8 5):=(qq (j:=0) d.o.obj rfl).trans (by rw [f.o.kind];rfl);have M:G.frozen? ⟨o,6,none⟩=false:=by simp [World.frozen?,d.o.obj]
       go_wp2_with fail
       refine (z8 o C _ L K M).mono ?_;clear L K M;rintro e S ⟨rfl,rfl⟩;have l:=U (d.o.fail C);have J:=O0 (Touch (fun b=>b=o\/b=m) w (G.setCell ⟨o,6,none⟩ (.int .i64 C))) ((Touch.of_below a.o lz).setCell (.inl (.inl rfl)) _);go_wp2;go_ret;exact gA z.o l.o J.o
   . have z:=U (show qB v y most st=([],⟨st.asked,6⟩) by unfold qB;rw [Z5 (by simp [B.o]),show v.look y=none from xY _ _ _ hno]);unfold zeroAgg;have a:=O0 (Below w.heap.size w (A.alloc (.cells #[.int .u8 0,.int .i64 0,.string ⟨#[]⟩,.slice none 0 0,.slice none 0 0] 25))) (g.o.alloc g.o.size _);have d:=U (f.o.below a.o);clear hno g;have L:(A.alloc (.cells #[.int .u8 0,.int .i64 0,.string ⟨#[]⟩,.slice none 0 0,.slice none 0 0] 25)).cell? ⟨o,6,none⟩=some (.int .i64 0):=(qq (j:=6) d.o.obj rfl).trans (by rw [B.o];rfl);have K:(A.alloc (.cells #[.int .u8 0,.int .i64 0,.string ⟨#[]⟩,.slice none 0 0,.slice none 0 0] 25)).cell? ⟨o,0,none⟩=some (.int .u8 5):=(qq (j:=0) d.o.obj rfl).trans (by rw [f.o.kind];rfl);have M:(A.alloc (.cells #[.int .u8 0,.int .i64 0,.string ⟨#[]⟩,.slice none 0 0,.slice none 0 0] 25)).frozen? ⟨o,6,none⟩=false:=by simp [World.frozen?,d.o.obj]
     go_wp2_with fail
     refine (z8 o 6 _ L K M).mono ?_;clear L K M;rintro e S ⟨rfl,rfl⟩;have l:=U (d.o.fail 6);have J:=O0 (Touch (fun b=>b=o\/b=m) w ((A.alloc (.cells #[.int .u8 0,.int .i64 0,.string ⟨#[]⟩,.slice none 0 0,.slice none 0 0] 25)).setCell ⟨o,6,none⟩ (.int .i64 6))) ((Touch.of_below a.o lz).setCell (.inl (.inl rfl)) _);go_wp2;go_ret;exact gA z.o l.o J.o
 . have a6:(st.err == 0)=false:=by simpa using he
   have a7:(st.err != 0)=true:=by simpa using he
   have z:=U (show qB v y most st=([],st) by unfold qB;rw [J1 he]);have B:=U he;clear he;go_enter Tryz.func127,Tryz.ntmps127;go_wp2_with fail;refine (zj o st.err 5 w T c0 (fun _=>rfl)).mono ?_;rintro r w' ⟨rfl,rfl⟩;go_wp2;go_ret;exact gA z.o f.o (Touch.refl _ _)
theorem QD {o m lo hi:Nat} {v:JV} {an ai:Option Addr} {cn ci:Nat} {st:PS} {w:World} (y:ByteArray) (most:Nat) (h:zO o m lo hi v an ai cn ci st w) (hy:y.size<=4294967296) (ha:st.asked.length<=4294967296) :
 Calls Tryz.prog 67 #[.pointer (some ⟨o,0,none⟩),.string y,.int .i64 most] w fun e w'=>(∃a c,e=.returned (.slice a (qB v y most st).1.length c)/\(qB v y most st).1.length<=c/\zc w' w.heap.size w'.heap.size a (qB v y most st).1)/\wX o m lo hi v an ai cn ci (qB v y most st).2 w w':=by
 have g:Below w.heap.size w (w.alloc (.cells #[.int .i64 most] 3)):=(Z0 _ _).alloc lz _;have u:=U (show Calls Tryz.prog 127 #[.pointer (some ⟨o,0,none⟩),.string y,.func (.func 128) #[] #[.pointer (some ⟨w.heap.size,0,none⟩)]] (w.alloc (.cells #[.int .i64 most] 3)) (fun e w'=>(∃a c,e=.returned (.slice a (qB v y most st).1.length c)/\(qB v y most st).1.length<=c/\zc w' w.heap.size w'.heap.size a (qB v y most st).1)/\wX o m lo hi v an ai cn ci (qB v y most st).2 w w') by
  have f:Touch (fun b=>b=o\/b=m) w (w.alloc (.cells #[.int .i64 most] 3)):=Touch.of_below g lz;rcases h with h|⟨⟨d,c6,k,c0⟩,j,h3,h4⟩
  . refine (ig o m lo hi v an ai cn ci y most st _ (h.below g) hy ha w.heap.size (Z4 w _)).mono ?_;rintro e w' ⟨⟨a,c,F,K,G⟩,H,I⟩;exact ⟨⟨a,c,F,K,G.carry g.size lz (fun _ _ _=>rfl)⟩,.inl H,f.trans (I.mono fun _ _ h=>h)⟩
  . obtain ⟨i,l⟩:=O1 (w.alloc (.cells #[.int .i64 most] 3));rw [<- l] at g f ⊢;have q:=O0 (zO o m lo hi v an ai cn ci st i) ((zO.below (.inr ⟨⟨d,c6,k,c0⟩,j,h3,h4⟩) g));have J:i.cell? ⟨o,6,none⟩=some (.int .i64 st.err):=by rw [g.cell j];exact c6
    have E:i.cell? ⟨o,0,none⟩=some (.int .u8 k):=by rw [g.cell j];exact c0
    have M:(st.err == 0)=false:=by simpa using d
    have N:(st.err != 0)=true:=by simpa using d
    have C:=U d;have s:=U f;have D:=U (show qB v y most st=([],st) by unfold qB;rw [J1 d]);clear d c6 c0 l g f;go_enter Tryz.func127,Tryz.ntmps127;go_wp2_with fail;refine (zj o st.err k i J E (fun h=>absurd h C.o)).mono ?_;rintro r w' ⟨rfl,L⟩;subst L;go_wp2;go_ret;rw [D.o];exact ⟨⟨none,0,rfl,J0 _,.inl rfl⟩,q.o,s.o⟩)
 clear h g;obtain ⟨R,x⟩:=O1 (qB v y most st);rw [<- x] at u ⊢;clear x;go_enter Tryz.func67,Tryz.ntmps67;go_wp2_with fail;refine u.o.mono ?_;rintro e w' ⟨⟨a,c,rfl,z,d⟩,j⟩;have p:=U z;clear z;have A:=U d;have B:=U j;clear d j;go_wp2;go_ret;exact ⟨⟨a,c,rfl,p.o,A.o⟩,B.o⟩
structure DelegC where
 x:DelegV
 ia:Option Addr
 ic:Nat
 pa:Option Addr
 pc:Nat
 qa:Option Addr
 qc:Nat
def oS (q:DelegC):List Value:=[.string q.x.name,.int .i64 q.x.au.thr,.slice q.ia q.x.au.ids.length q.ic,.bool q.x.term,.slice q.pa q.x.paths.length q.pc,.slice q.qa q.x.pres.length q.qc]
theorem ip (q:DelegC):(oS q).length=6:=rfl
def delP (w:World) (lo hi:Nat) (q:DelegC):Prop:=q.x.au.ids.length<=q.ic/\q.x.paths.length<=q.pc/\q.x.pres.length<=q.qc/\DelegIn w lo hi q.x q.ia q.pa q.qa
theorem yQ:fg delP:=fun _ _ _ _ _ hs h=>⟨h.1,h.2.1,h.2.2.1,h.2.2.2.carry lz lz hs⟩
def kr (T B:Nat) (w:World) (vs:Value) (qs:List DelegC):Prop:=ItemsOwn T 6 B oS delP w vs qs
theorem kr.row {T B:Nat} {w:World} {v:Value} {qs:List DelegC} {l:List DelegV} (h:kr T B w v qs) (hl:qs.map (·.x)=l):∃a c,v=.slice a l.length c/\l.length<=c/\zk w B w.heap.size a l:=by
 have o:=ItemsOwn.own h;have p:∃a n c,v=.slice a n c:=by
  rcases o.2 with ⟨rfl,_⟩|⟨g,cap,cur,rfl,_⟩
  . exact ⟨_,_,_,rfl⟩
  . exact ⟨_,_,_,rfl⟩
 obtain ⟨a,n,c,rfl⟩:=p;obtain ⟨j,k,f⟩:=ItemsOwn.cells ip h;subst hl;subst j;rw [J9];refine ⟨a,c,rfl,k,?_⟩;rcases f with f|⟨g,rfl,hg,hlt,hf,hc⟩
 . exact .inl (by rw [f];rfl)
 . refine .inr ⟨g,0,rfl,hg,hlt,fun i hi=>?_⟩;have d:i<qs.length:=by simpa using hi
   obtain ⟨D,m,r,s,C,u,y,z,A⟩:=ItemsOwn.each h qs[i] (J7 d);have e:(qs.map (·.x))[i]=qs[i].x:=H8 ..;rw [e];have b:=fun q (hq:q<6)=>hc i d q hq;simp only [Nat.zero_add];exact ⟨qs[i].ia,qs[i].ic,qs[i].pa,qs[i].pc,qs[i].qa,qs[i].qc,b 0 (by decide),b 1 (by decide),b 2 (by decide),b 3 (by decide),b 4 (by decide),b 5 (by decide),u,y,z,A.carry r s (fun _ _ _=>rfl)⟩
def oA:ByteArray:=⟨#[120,47,42]⟩
def vU:ByteArray:=⟨#[120,47,121]⟩
def pxN:ByteArray:=⟨#[120]⟩
def Zy:ByteArray:=⟨#[47,120]⟩
def pzN:ByteArray:=⟨#[122]⟩
def pcN:ByteArray:=⟨#[99]⟩
def vu (n p:ByteArray) (last:Bool):DelegV:=⟨n,Qk 97,last,[p],[]⟩
def exD:DelegsV:=⟨[],[vu raN oA false,vu bbN tL true,vu pcN vU false],j6⟩
def exE:DelegsV:=⟨[],[vu pcN vU true,vu raN oA false],j6⟩
def exBin:DelegsV:=⟨[],[],⟨2,ppN,Qk 97⟩⟩
theorem pm:qC exD=true/\qC exE=true/\qC exBin=true:=by rw [q6,q6,q6];decide +kernel
theorem iu:(vf runes vU exD.roles).map (·.name)=[raN,pcN]/\(vf runes pzN exD.roles).map (·.name)=[bbN]/\(vf runes vU exE.roles).map (·.name)=[pcN]:=by decide +kernel
theorem im:qN vU=true/\qN pzN=true/\qN pxN=true/\qN Zy=false:=by decide +kernel
theorem wN:(jP runes exD vU).map (·.name)=[raN,pcN]/\(jP runes exD pzN).map (·.name)=[bbN]/\(jP runes exE vU).map (·.name)=[pcN]/\(jP runes exBin vU).map (·.name)=[jV ppN 2 (yE vU 2)]:=by obtain ⟨d,e,f⟩:=pm;obtain ⟨g,h,i,j⟩:=im;obtain ⟨a,b,c⟩:=iu;unfold jP;rw [d,e,f,g,h];exact ⟨a,b,c,rfl⟩
theorem gf (l:List ByteArray) (a:Option Addr) (c:Nat) (w:World) (hS:qv w 0 w.heap.size a l) (hl:l.length<=4294967296) :
 Calls Tryz.prog 221 #[.slice a l.length c] w (ku l w):=by
 obtain ⟨W,K⟩:=O1 ((w.alloc (.cells #[.int .u8 0,.int .i64 0,.string ⟨#[]⟩,.slice none 0 0,.slice none 0 0] 25)).alloc (.cells #[.int .u8 4,.int .i64 0,.string ⟨#[]⟩,.slice none 0 0,.slice none 0 0] 25));have x:(w.alloc (.cells #[.int .u8 0,.int .i64 0,.string ⟨#[]⟩,.slice none 0 0,.slice none 0 0] 25)).heap.size=w.heap.size+1:=by simp
 have y:W.heap.size=w.heap.size+2:=by rw [K];simp
 have a2:Below w.heap.size w W:=by rw [K];exact ((Z0 _ _).alloc lz _).alloc (by simp) _
 have a8:W.rowIs w.heap.size 25 5 (qZ (.int .u8 0) (.int .i64 0) (.string ⟨#[]⟩) (.slice none 0 0) (.slice none 0 0)):=by rw [K];exact (qh w (.int .u8 0) (.int .i64 0) (.string ⟨#[]⟩) (.slice none 0 0) (.slice none 0 0) 25).alloc _
 have a9:W.rowIs (w.heap.size+1) 25 5 (qZ (.int .u8 4) (.int .i64 0) (.string ⟨#[]⟩) (.slice none 0 0) (.slice none 0 0)):=(by have:=qh (w.alloc (.cells #[.int .u8 0,.int .i64 0,.string ⟨#[]⟩,.slice none 0 0,.slice none 0 0] 25)) (.int .u8 4) (.int .i64 0) (.string ⟨#[]⟩) (.slice none 0 0) (.slice none 0 0) 25;rw [x,<- K] at this;exact this);have HS:=U hS;have HW:=U K;have N:=U a2;have b3:=U a8;have X:=U a9;have r:=U y;obtain ⟨L,J⟩:=O1 l.length;have q:=U J;rw [<- J] at hl ⊢;clear hS K a2 a8 a9 x y J;obtain ⟨i0,c2,c3,x,y⟩:=V9 z7;go_enter Tryz.func221,Tryz.ntmps221;go_upto_region 2 with fail
 rw [<- HW.o];clear HW;obtain ⟨o,H⟩:=O1 (w.heap.size+1);have E:=U H;rw [<- H] at X ⊢;have a4:o<W.heap.size:=by have:=r.o;omega
 clear H;go_wp2;go_loopw [4] (fun i wr=>∃(k:Nat) (cs:List Value) (z:Value),k<=L/\i=.int .i64 k/\Touch (· = o) W wr/\wr.rowIs o 25 5 (qZ (.int .u8 4) (.int .i64 0) (.string ⟨#[]⟩) (.slice none 0 0) z)/\wr.ownsRow W.heap.size 25 5 z k cs/\qF wr W.heap.size (fun b=>b=o\/z.ownBlock=some b) ((l.take k).map txtJ) cs) (fun i _=>L - (intOf i).toNat)
 case atStart=>exact ⟨0,[],.slice none 0 0,by omega,rfl,Touch.refl _ _,X.o,Y7 _ _ _ _,by simpa using qF.nil _ _ _⟩
 case round =>
  obtain ⟨k,cs,z,hk,rfl,f,d,h,s⟩:=hrel;by_cases hlt2:k<L
  . have B:k<l.length:=by rw [<- q.o];exact hlt2
    have HB:Hid (Below w.heap.size w wr):=N.o.trans (f.below (by have:=r.o;omega) fun j hj e=>by have:=E.o;omega);obtain ⟨b,d1,rfl,_,hb,y0⟩:=(HS.o.below HB.o lz lz lz).at k B;have b6:=U (show (l.take (k+1)).map txtJ=(l.take k).map txtJ ++ [txtJ l[k]] by rw [Z6 B,N6];rfl);have c4:wr.cell? ⟨o,4,none⟩=some z:=d.cell (by omega);have f4:wr.frozen? ⟨o,4,none⟩=false:=d.frozen 4;have I:o<wr.heap.size:=d.lt;have d0:W.heap.size<=wr.heap.size:=f.size;have a6:some o≠z.ownBlock:=fun e=>by have:=(h.lt _ e.symm).1;omega
    have a0:=U d;have a1:=U f;have HO:=U h;have Z:=U s;clear d f h s;generalize l[k]=it at *;have Q:=U (show Calls Tryz.prog 164 #[.string it] wr.drew (fun e p=>e=.returned (.agg #[.int .u8 3,.int .i64 0,.string it,.slice none 0 0,.slice none 0 0])/\Rep p (wr.heap.size+1) p.heap.size (txtJ it) (.agg #[.int .u8 3,.int .i64 0,.string it,.slice none 0 0,.slice none 0 0])/\Below (wr.heap.size+1) ((wr.alloc (.cells #[.int .u8 3,.int .i64 0,.string it,.slice none 0 0,.slice none 0 0] 25)).drew) p/\wr.heap.size<p.heap.size/\p.cell? ⟨o,4,none⟩=some z/\p.frozen? ⟨o,4,none⟩=false/\p.ownsRow W.heap.size 25 5 z k cs) by
     refine (bK it wr.drew).mono ?_;rintro e p ⟨rfl,rfl⟩;have F:Below wr.heap.size wr (wr.drew.alloc (.cells #[.int .u8 3,.int .i64 0,.string it,.slice none 0 0,.slice none 0 0] 25)):=(Z0 _ _).drew.alloc lz _;exact ⟨rfl,jN _ _ _ _,Z0 _ _,by simp,by rw [F.cell I];exact c4,by rw [F.frozen I];exact f4,qH HO.o F⟩)
    go_upto_region 5 with fail
    go_region_law (first|(refine G8 _ (by rfl) (.tmp 13) (.tmp 19) 23 (by rfl) W.heap.size 25 i0 _ 5 80 G7 c2 c3 x y rfl (by omega) z k cs (by rfl) (T.o.alloc _) ⟨p.heap.size,0,none⟩ 1 1 (Array.toList #[.int .u8 3,.int .i64 0,.string it,.slice none 0 0,.slice none 0 0]) (by rfl) (by rfl) (X0 (cs:=#[.int .u8 3,.int .i64 0,.string it,.slice none 0 0,.slice none 0 0]) (t:=25) (fr:=(0,0)) (Z4 p _)) (by simp [Value.oneCell']) (by omega) (by unfold maxLen;omega) (by omega) (by simp;omega) (p.heap.size+1) (by simp) ?_;intro g cap w4 hown4 hgrow4 hat4 hlt4;have c7:=zu hgrow4 A a6 b9;have c9:=za hgrow4 A a6 c0;have V:=U hown4;have R:=U hgrow4;have M:=U hat4;clear hown4 hgrow4 hat4)|(go_simp;go_at_call 164;(with_reducible refine Q.o.mono ?_);rintro e p ⟨rfl,b0,a3,c6,b9,c0,a7⟩;have A:o<p.heap.size:=zc7 I c6;have T:=U a7;have Y:=U b0;have P:=U a3;clear a7 b0 a3))
    all_goals
     have b5:=U (row_step (j:=4) (it:=txtJ it) (an:=none) (cn:=0) (ai:=none) (ci:=0) a4 a1.o a0.o HO.o Z.o P.o Y.o R.o M.o V.o);clear a1 a0 HO Z P Y R M V T Q;go_wp2;go_roundw
     case rel => obtain ⟨z1,z2,z3,z4⟩:=b5.o;refine ⟨k+1,_,_,by omega,by go_num,z1,z2.congr fun i hi=>?_,z3,by rw [b6.o];exact z4⟩;rcases i with _|_|_|_|_|i <;> first|rfl|omega
     case measure=>simp [intOf];omega
  . obtain rfl:k=L:=by omega
    have C:(l.take k).map txtJ=l.map txtJ:=by rw [Z8 (by rw [<- q.o];exact J0 _)]
    rw [C] at s;have u:(l.map txtJ).length=k:=by rw [J9,<- q.o]
    obtain ⟨a5,c5,rfl,G,b1⟩:=zM h s u.symm;rw [u] at G d;have b7:=U b1;have b2:=U G;have S:=U u;have m:=(f.row b3.o (by have:=E.o;omega));obtain ⟨r0,r1,r2,r3,r4⟩:=rc5 d;obtain ⟨t0,t1,t2,t3,t4⟩:=rc5 m;obtain ⟨s0,s1,s2,s3,s4⟩:=rf5 m;simp only [qZ] at r0 r1 r2 r3 r4 t0 t1 t2 t3 t4;have HT:=U f;have b4:=U m;clear d m h s b1 f C G u;go_wp2;refine J3 (X6 Tryz.results221 _ _ w.heap.size 25 _ (0,0) _ rfl (qm (set5 _ _ _ _ _ b4.o)) J5 rfl (by kernel_rfl)) rfl ?_;have c1:Below w.heap.size w wr:=N.o.trans (HT.o.below (by have:=r.o;omega) fun j hj e=>by have:=E.o;omega);refine ⟨a5,c5,by rw [<- q.o],?_,zx _ _ _ _ _ c1 lz⟩;rw [<- q.o];have D:=Rep.mk (v:=qg l) (an:=none) (cn:=0) (ai:=a5) (ci:=c5) (w:=wr) (lo:=W.heap.size) (hi:=wr.heap.size) lz (by show (l.map txtJ).length<=c5;rw [S.o];exact b2.o) (.inl rfl) b7.o;have e5:(qg l).items.length=k:=S.o;rw [e5] at D;exact Rep.carry (by have:=r.o;omega) (show wr.heap.size<=_ by simp [World.setCell]) (fun j hj _=>xI _ _ _ _ _ (by have:=r.o;omega)) _ _ D
theorem sY {W wr w4:World} {cb e T lo hi:Nat} {f:Nat->Value} {j k g cap:Nat} {vi:Value} {cs:List Value} {l:List JV} {it:JV} {an ai:Option Addr} {cn ci:Nat}
 (hcb:cb<W.heap.size) (htc:Touch (· = cb) W wr) (hrow:wr.rowIs cb T 5 f) (hown:wr.ownsRow W.heap.size e 5 vi k cs) (hrr:qF wr W.heap.size (fun b=>b=cb\/vi.ownBlock=some b) l cs)
 (hr3:Rep wr lo hi it (.agg #[.int .u8 it.kind,.int .i64 it.n,.string it.t,.slice an it.names.length cn,.slice ai it.items.length ci])) (hlo:W.heap.size<=lo) (hhi:hi<=wr.heap.size) (hx:∀b,vi.ownBlock=some b->¬(lo<=b/\b<hi))
 (hg:wr.grownBy w4 vi.ownBlock) (hat:vi.ownBlock=some g\/g=wr.heap.size)
 (ho4:w4.ownsRow W.heap.size e 5 (.slice (some ⟨g,0,none⟩) (k+1) cap) (k+1) (cs ++ [.int .u8 it.kind,.int .i64 it.n,.string it.t,.slice an it.names.length cn,.slice ai it.items.length ci])) :
 Touch (· = cb) W (w4.setCell ⟨cb,j,none⟩ (.slice (some ⟨g,0,none⟩) (k+1) cap)) /\
 (w4.setCell ⟨cb,j,none⟩ (.slice (some ⟨g,0,none⟩) (k+1) cap)).rowIs cb T 5 (fun i=>if i=j then .slice (some ⟨g,0,none⟩) (k+1) cap else f i) /\
 (w4.setCell ⟨cb,j,none⟩ (.slice (some ⟨g,0,none⟩) (k+1) cap)).ownsRow W.heap.size e 5 (.slice (some ⟨g,0,none⟩) (k+1) cap) (k+1) (cs ++ [.int .u8 it.kind,.int .i64 it.n,.string it.t,.slice an it.names.length cn,.slice ai it.items.length ci]) /\
 qF (w4.setCell ⟨cb,j,none⟩ (.slice (some ⟨g,0,none⟩) (k+1) cap)) W.heap.size (fun b=>b=cb\/(Value.slice (some ⟨g,0,none⟩) (k+1) cap).ownBlock=some b) (l ++ [it]) (cs ++ [.int .u8 it.kind,.int .i64 it.n,.string it.t,.slice an it.names.length cn,.slice ai it.items.length ci]):=by
 have q:W.heap.size<=wr.heap.size:=htc.size;have r:wr.heap.size<=w4.heap.size:=hg.size;have s:(w4.setCell ⟨cb,j,none⟩ (.slice (some ⟨g,0,none⟩) (k+1) cap)).heap.size=w4.heap.size:=by simp [World.setCell]
 have c:∀b,vi.ownBlock=some b->W.heap.size<=b/\b<wr.heap.size:=fun b hb=>hown.lt b hb;have d:∀b,b<wr.heap.size->vi.ownBlock≠some b->w4.heap[b]?=wr.heap[b]?:=fun b hb hne=>hg.block b hb (fun e=>hne e.symm);have m:∀b,b≠cb->(w4.setCell ⟨cb,j,none⟩ (.slice (some ⟨g,0,none⟩) (k+1) cap)).heap[b]?=w4.heap[b]?:=fun b hb=>J6 _ _ _ _ hb;have h:vi.ownBlock≠some cb:=fun e=>by have:=(c cb e).1;omega
 refine ⟨⟨?_,?_,?_,by omega,fun b hb hne=>?_⟩,?_,?_,?_⟩
 . show w4.os=_;rw [hg.os,htc.os]
 . show w4.tape=_;rw [hg.tape,htc.tape]
 . show w4.output=_;rw [hg.output,htc.output]
 . rw [m b hne,d b (by omega) (fun e=>by have:=(c b e).1;omega)];exact htc.block b hb hne
 . have p:w4.rowIs cb T 5 f:=hrow.of_block (by rw [d cb (by omega) h]);exact p.set j _
 . exact N1 ho4 hcb _
 . have a:∀b,(Value.slice (some ⟨g,0,none⟩) (k+1) cap).ownBlock=some b->b=g:=fun b hb=>by
    simp [Value.ownBlock] at hb;exact hb.symm
   have o:qF (w4.setCell ⟨cb,j,none⟩ (.slice (some ⟨g,0,none⟩) (k+1) cap)) W.heap.size (fun b=>b=cb\/(Value.slice (some ⟨g,0,none⟩) (k+1) cap).ownBlock=some b) l cs:=by
    refine hrr.carry (by omega) lz (fun b hb hx=>?_) (fun b hx=>?_)
    . rw [m b (fun e=>hx (.inl e)),d b (by omega) (fun e=>hx (.inr e))]
    . rcases hx with hx|hx
      . exact .inl (.inl hx)
      . rw [a b hx];rcases hat with ha|ha
        . exact .inl (.inr ha)
        . exact .inr (by omega)
   refine o.snoc it lo hi an cn ai ci (by omega) (by omega) (fun b hb' hb=>?_) (Rep.carry lz lz (fun b h1 h2=>?_) _ _ hr3)
   . rcases hb' with hb'|hb'
     . omega
     . rw [a b hb'] at hb;rcases hat with ha|ha
       . exact hx g ha hb
       . omega
   . rw [m b (by omega),d b (by omega) (fun e=>hx b e ⟨h1,h2⟩)]
structure LsAt (W wr:World) (cl T k:Nat) (vi:Value) (l:List JV) (cs:List Value):Prop where
 touch:Touch (· = cl) W wr
 row:wr.rowIs cl T 5 (qZ (.int .u8 4) (.int .i64 0) (.string ⟨#[]⟩) (.slice none 0 0) vi)
 own:wr.ownsRow W.heap.size T 5 vi k cs
 reps:qF wr W.heap.size (fun b=>b=cl\/vi.ownBlock=some b) l cs
theorem LsAt.below {W wr w':World} {cl T k:Nat} {vi:Value} {l:List JV} {cs:List Value} (h:LsAt W wr cl T k vi l cs) (hb:Below wr.heap.size wr w'):LsAt W w' cl T k vi l cs :=
 ⟨h.touch.trans (Touch.of_below hb lz),qj hb h.row h.row.lt,qH h.own hb,h.reps.carry hb.size lz (fun b hb' _=>hb.block b hb') (fun _ hx=>.inl hx)⟩
theorem LsAt.step {W wr w4:World} {cl T k g cap lo hi:Nat} {vi:Value} {l:List JV} {cs:List Value} {it:JV} {an ai:Option Addr} {cn ci:Nat} (h:LsAt W wr cl T k vi l cs) (hcb:cl<W.heap.size)
 (hr3:Rep wr lo hi it (.agg #[.int .u8 it.kind,.int .i64 it.n,.string it.t,.slice an it.names.length cn,.slice ai it.items.length ci])) (hlo:W.heap.size<=lo) (hhi:hi<=wr.heap.size) (hx:∀b,vi.ownBlock=some b->¬(lo<=b/\b<hi))
 (hg:wr.grownBy w4 vi.ownBlock) (hat:vi.ownBlock=some g\/g=wr.heap.size)
 (ho4:w4.ownsRow W.heap.size T 5 (.slice (some ⟨g,0,none⟩) (k+1) cap) (k+1) (cs ++ [.int .u8 it.kind,.int .i64 it.n,.string it.t,.slice an it.names.length cn,.slice ai it.items.length ci])) :
 LsAt W (w4.setCell ⟨cl,4,none⟩ (.slice (some ⟨g,0,none⟩) (k+1) cap)) cl T (k+1) (.slice (some ⟨g,0,none⟩) (k+1) cap) (l ++ [it]) (cs ++ [.int .u8 it.kind,.int .i64 it.n,.string it.t,.slice an it.names.length cn,.slice ai it.items.length ci]):=by
 obtain ⟨a,c,d,e⟩:=sY (j:=4) hcb h.touch h.row h.own h.reps hr3 hlo hhi hx hg hat ho4;exact ⟨a,c.congr fun i hi=>by rcases i with _|_|_|_|_|i <;> first|rfl|omega,d,e⟩
theorem LsAt.done {W wr:World} {cl T k:Nat} {vi:Value} {l:List JV} {cs:List Value} (h:LsAt W wr cl T k vi l cs) (hk:k=l.length):∃ai ci,vi=.slice ai l.length ci/\Rep wr W.heap.size wr.heap.size (zY l) (.agg #[.int .u8 4,.int .i64 0,.string ⟨#[]⟩,.slice none 0 0,.slice ai l.length ci]):=by obtain ⟨ai,ci,a,b,c⟩:=zM h.own h.reps hk;exact ⟨ai,ci,a,Rep.mk (v:=.mk 4 0 ⟨#[]⟩ [] l) lz b (.inl rfl) c⟩
end Go.Proofs.YthgembbgcbaghaaGreatDoor
