import Derived.Test.YthgembbgcbaghaaGreatDoorDg18
import Derived.Test.YthgembbgcbaghaaGreatDoorDg24
set_option maxHeartbeats 2000000
set_option maxRecDepth 100000

namespace Go.Proofs.YthgembbgcbaghaaGreatDoor
open Go.RowKit Go.WideMaps Go.Maps
def zE (o m lo hi:Nat) (v:JV) (an ai:Option Addr) (cn ci:Nat) (st:PS) (w:World):Prop :=
 PickAt o m lo hi v an ai cn ci st w\/(xY o st.err w/\o<w.heap.size/\m=o/\hi=0)
theorem zE.lt {o m lo hi:Nat} {v:JV} {an ai:Option Addr} {cn ci:Nat} {st:PS} {w:World} (h:zE o m lo hi v an ai cn ci st w):o<w.heap.size/\m<w.heap.size/\hi<=w.heap.size:=by
 rcases h with h|⟨-,h2,rfl,rfl⟩
 . exact ⟨qx h.obj,by obtain ⟨D,n,a,_⟩:=h.map;exact a.lt,h.le⟩
 . exact ⟨h2,h2,X7 _⟩
theorem zE.below {o m lo hi:Nat} {v:JV} {an ai:Option Addr} {cn ci:Nat} {st:PS} {w w':World} (h:zE o m lo hi v an ai cn ci st w) (a:Below w.heap.size w w'):zE o m lo hi v an ai cn ci st w':=by
 rcases h with h|⟨h1,h2,h3,h4⟩
 . exact .inl (h.below a)
 . exact .inr ⟨h1.below a h2,Y5 h2 a.size,h3,h4⟩
theorem zE.touch {o m lo hi g:Nat} {v:JV} {an ai:Option Addr} {cn ci:Nat} {st:PS} {w w':World} (h:zE o m lo hi v an ai cn ci st w) (a:Touch (fun b=>b=g) w w') (c:g≠o) (e:g≠m) (d:hi<=g):zE o m lo hi v an ai cn ci st w':=by
 rcases h with h|⟨h1,h2,h3,h4⟩
 . exact .inl (h.touch a c e d)
 . exact .inr ⟨h1.touch a h2 (Ne.symm c),Y5 h2 a.size,h3,h4⟩
theorem zE.cells {o m lo hi:Nat} {v:JV} {an ai:Option Addr} {cn ci:Nat} {st:PS} {w:World} (h:zE o m lo hi v an ai cn ci st w):∃k,w.cell? ⟨o,6,none⟩=some (.int .i64 st.err)/\w.cell? ⟨o,0,none⟩=some (.int .u8 k)/\(st.err=0->k=5):=by
 rcases h with h|⟨⟨h1,h2,k,h3⟩,-⟩
 . exact ⟨5,qq h.obj rfl,(qq (j:=0) h.obj rfl).trans (by rw [h.kind];rfl),fun _=>rfl⟩
 . exact ⟨k,h2,h3,fun e=>absurd e h1⟩
theorem ZE {o m lo hi:Nat} {v:JV} {an ai:Option Addr} {cn ci:Nat} {st:PS} {w:World} (h:zE o m lo hi v an ai cn ci st w) :
 Calls Tryz.prog 121 #[.pointer (some ⟨o,0,none⟩)] w fun e w'=>e=.returned (.int .i64 st.err)/\w=w':=by
 obtain ⟨k,a,b,c⟩:=h.cells;exact q7 o st.err k w a b c
def wU (o m lo hi:Nat) (v:JV) (an ai:Option Addr) (cn ci:Nat) (st:PS) (w w':World):Prop :=
 zE o m lo hi v an ai cn ci st w'/\Touch (fun b=>b=o\/b=m) w w'
theorem cU {v:JV} {y:ByteArray} {st:PS} (h:st.err≠0):qm v y st=(⟨#[]⟩,st):=by unfold qm;rw [J8 h]
theorem lx {v:JV} {y:ByteArray} {l h:Int} {st:PS} (a:st.err≠0):qA v y l h st=(0,st):=by unfold qA;rw [J8 a]
theorem lj {v:JV} {y:ByteArray} {a:Nat} {st:PS} (h:st.err≠0):qQ v y a st=(zJ,st):=by unfold qQ;rw [J8 h]
theorem oP {st:PS} {e:Int} (h:st.err≠0):st.fail e=st:=by unfold PS.fail;rw [J3 h]
theorem Q6 {o m lo hi:Nat} {v:JV} {an ai:Option Addr} {cn ci:Nat} {st:PS} {w:World} (y:ByteArray) (h:zE o m lo hi v an ai cn ci st w) (b:y.size<=4294967296) (a:st.asked.length<=4294967296) :
 Calls Tryz.prog 124 #[.pointer (some ⟨o,0,none⟩),.string y] w fun e w'=>e=.returned (.string (qm v y st).1)/\wU o m lo hi v an ai cn ci (qm v y st).2 w w':=by
 rcases h with h|⟨h1,h2,h3,h4⟩
 . exact (bw o m lo hi v an ai cn ci y st w h b a).mono fun e w' ⟨e1,e2,e3⟩=>⟨e1,.inl e2,e3⟩
 . refine (cQ o st.err y w h1).mono fun e w' ⟨e1,e2⟩=>?_;subst e2;rw [cU h1.1];exact ⟨e1,.inr ⟨h1,h2,h3,h4⟩,Touch.refl _ _⟩
theorem Zr {o m lo hi:Nat} {v:JV} {an ai:Option Addr} {cn ci:Nat} {st:PS} {w:World} (y:ByteArray) (l u:Int) (h:zE o m lo hi v an ai cn ci st w) (c:y.size<=4294967296) (b:st.asked.length<=4294967296) :
 Calls Tryz.prog 123 #[.pointer (some ⟨o,0,none⟩),.string y,.int .i64 l,.int .i64 u] w fun e w'=>e=.returned (.int .i64 (qA v y l u st).1)/\wU o m lo hi v an ai cn ci (qA v y l u st).2 w w':=by
 have a:=h.lt;rcases h with h|⟨h1,h2,h3,h4⟩
 . exact (ob o m lo hi v an ai cn ci y l u st w h c b a.2.1 a.1).mono fun e w' ⟨e1,e2,e3⟩=>⟨e1,.inl e2,e3⟩
 . refine (Zb o st.err y l u w h1 h2).mono fun e w' ⟨e1,e2⟩=>?_;rw [lx h1.1];exact ⟨e1,.inr ⟨h1.below e2 h2,Y5 h2 e2.size,h3,h4⟩,Touch.of_below e2 lz⟩
def Qo (v:JV) (y:ByteArray) (most:Nat) (st:PS) (w:World) (e:Ending) (w':World):Prop :=
 ∃an' cn' ai' ci',e=.returned (.agg #[.int .u8 (qQ v y most st).1.kind,.int .i64 (qQ v y most st).1.n,.string (qQ v y most st).1.t,.slice an' (qQ v y most st).1.names.length cn',.slice ai' (qQ v y most st).1.items.length ci'])/\Rep w' w.heap.size w'.heap.size (qQ v y most st).1 (.agg #[.int .u8 (qQ v y most st).1.kind,.int .i64 (qQ v y most st).1.n,.string (qQ v y most st).1.t,.slice an' (qQ v y most st).1.names.length cn',.slice ai' (qQ v y most st).1.items.length ci'])
theorem Q7 {o m lo hi:Nat} {v:JV} {an ai:Option Addr} {cn ci:Nat} {st:PS} {w:World} (y:ByteArray) (f:Nat) (h:zE o m lo hi v an ai cn ci st w) (i:y.size<=4294967296) (g:st.asked.length<=4294967296) :
 Calls Tryz.prog 62 #[.pointer (some ⟨o,0,none⟩),.string y,.int .i64 f] w fun e w'=>Qo v y f st w e w'/\wU o m lo hi v an ai cn ci (qQ v y f st).2 w w':=by
 rcases h with h|⟨h1,h2,h3,h4⟩
 . exact (oh o m lo hi v an ai cn ci y f st w h i g).mono fun e w' ⟨⟨a,b,c,d,e1,e2⟩,e3,e4⟩=>⟨⟨a,b,c,d,e1,e2⟩,.inl e3,e4⟩
 . refine (Zp o st.err y f w h1 h2).mono fun e w' ⟨e1,e2⟩=>?_;unfold Qo;rw [lj h1.1];exact ⟨⟨none,0,none,0,e1,yZ _ _ _⟩,.inr ⟨h1.below e2 h2,Y5 h2 e2.size,h3,h4⟩,Touch.of_below e2 lz⟩
theorem mo {o m lo hi:Nat} {v:JV} {an ai:Option Addr} {cn ci:Nat} {st:PS} {w:World} (e:Int) (h:zE o m lo hi v an ai cn ci st w) :
 Calls Tryz.prog 63 #[.pointer (some ⟨o,0,none⟩),.int .i64 e] w fun r w'=>r=.returned (.tuple #[])/\wU o m lo hi v an ai cn ci (st.fail e) w w':=by
 rcases h with h|⟨h1,h2,h3,h4⟩
 . exact (aH o m lo hi v an ai cn ci e st w h).mono fun r w' ⟨e1,e2,e3⟩=>⟨e1,.inl e2,e3⟩
 . refine (Qd o st.err e w h1).mono fun r w' ⟨e1,e2⟩=>?_;subst e2;rw [oP h1.1];exact ⟨e1,.inr ⟨h1,h2,h3,h4⟩,Touch.refl _ _⟩
theorem lw {o m lo hi:Nat} {v:JV} {an ai:Option Addr} {cn ci:Nat} {st:PS} {w:World} (h:zE o m lo hi v an ai cn ci st w) (c:v.wt<=4294967296) :
 Calls Tryz.prog 68 #[.pointer (some ⟨o,0,none⟩)] w fun e w'=>e=.returned (.int .i64 (qd v st))/\w=w':=by
 rcases h with h|⟨⟨a,c6,k,c0⟩,b⟩
 . exact mq o m lo hi v an ai cn ci st w h (fun i hi=>by have a:=kn v.names i hi;have b:=v.wt_eq;omega)
 . refine (cZ o st.err k w a c6 c0).mono fun e w' ⟨e1,e2⟩=>⟨?_,e2⟩
   rw [e1];unfold qd;rw [J8 a]
def st0 (v:JV):PS:=if v.kind=5 then ⟨[],0⟩ else ⟨[],10⟩
def gW (C:JV->Prop) (st:PS) (w:World) (e:Ending) (w':World):Prop :=
 ∃u o m lo hi an ai cn ci,C u/\u.wt<=4294967296/\e=.returned (.pointer (some ⟨o,0,none⟩))/\zE o m lo hi u an ai cn ci st w'/\w.heap.size<=o/\w.heap.size<=m/\Below w.heap.size w w'
def j5 (v u:JV):Prop:=u=if v.kind=5 then v else zJ
theorem oF:zJ.wt<=4294967296:=by rw [JV.wt_eq];decide
theorem Zn {v:JV} {x:Value} {w:World} {lo hi:Nat} {C:JV->Prop} (m:Rep w lo hi v x) (k:v.kind≠5) (l:C zJ):Calls Tryz.prog 60 #[x] w (gW C (st0 v) w):=by obtain ⟨h,j,g,i,rfl,-⟩:=m.parts;refine (fJ v.kind v.n v.t _ _ w k).mono ?_;rintro e w' ⟨o,b,a,c,d,f⟩;refine ⟨zJ,o,o,0,0,none,none,0,0,l,oF,b,?_,a,a,f⟩;unfold st0;rw [J3 k];exact .inr ⟨d,c,rfl,rfl⟩
theorem oH {v:JV} {x:Value} {w:World} {lo hi:Nat} (r:v.wt<=4294967296) (q:0<lo) (p:hi<=w.heap.size) (s:Rep w lo hi v x) (u:v.kind=5->qo v.names=true/\v.names.length=v.items.length):Calls Tryz.prog 60 #[x] w (gW (j5 v) (st0 v) w):=by
 by_cases hk:v.kind=5
 . refine (bI v x w lo hi r p s hk (u hk).1 (u hk).2 (fun _ _=>.inl q)).mono ?_;rintro e w' ⟨o,m,b,a,d,c,g,f,h,i,j,k,l⟩;refine ⟨v,o,m,b,a,d,c,g,f,?_,r,h,?_,j,k,l⟩
   . unfold j5;rw [J8 hk]
   . unfold st0;rw [J8 hk];exact .inl i
 . exact Zn s hk (by unfold j5;rw [J3 hk])
def qN (it:JV) (most:Nat):Int:=if it.kind≠4 then 10 else if most<it.items.length then 5 else 0
def zQ (it:JV) (most:Nat):Int:=if qN it most≠0 then qN it most else if it.items.all (fun x=>decide (x.kind=3)) then 0 else 10
def vx (it:JV) (most:Nat):List ByteArray:=if zQ it most=0 then it.items.map JV.t else []
theorem ly {it:JV} {a:Nat} (e:zQ it a=0):it.kind=4/\¬a<it.items.length/\it.items.all (fun x=>decide (x.kind=3))=true:=by
 unfold zQ qN at e;by_cases h1:it.kind=4
 . by_cases h2:a<it.items.length
   . simp [h1,h2] at e
   . cases h3:it.items.all (fun x=>decide (x.kind=3)) with
     | true=>exact ⟨h1,h2,rfl⟩
     | false=>simp [h1,h2,h3] at e
 . simp [h1] at e
theorem lg {it:JV} {a:List ByteArray} {b:Nat} {X:List ByteArray × PS} (e:¬zQ it b=0) :
 (if it.kind≠4 then ([],(⟨a,10⟩:PS)) else if b<it.items.length then ([],⟨a,5⟩) else if it.items.all (fun x=>decide (x.kind=3)) then X else ([],⟨a,10⟩))=([],⟨a,zQ it b⟩):=by
 unfold zQ qN at e ⊢;by_cases h1:it.kind=4
 . by_cases h2:b<it.items.length
   . simp [h1,h2]
   . cases h3:it.items.all (fun x=>decide (x.kind=3)) with
     | true=>simp [h1,h2,h3] at e
     | false=>simp [h1,h2]
 . simp [h1]
theorem hY {it:JV} {a:Nat} (h:qN it a≠0):zQ it a=qN it a:=by unfold zQ;rw [J8 h]
theorem me (it:JV) (f:Nat) (an' ai':Option Addr) (cn' ci':Nat) (w:World) :
 Calls Tryz.prog 129 #[.agg #[.int .u8 it.kind,.int .i64 it.n,.string it.t,.slice an' it.names.length cn',.slice ai' it.items.length ci'],.int .i64 f] w fun e w'=>e=.returned (.tuple #[if qN it f=0 then .slice ai' it.items.length ci' else .slice none 0 0,.int .i64 (qN it f)])/\Below w.heap.size w w':=by
 have a:=O0 (Below w.heap.size w (w.alloc (.cells #[.int .u8 it.kind,.int .i64 it.n,.string it.t,.slice an' it.names.length cn',.slice ai' it.items.length ci'] 25))) O4;by_cases hk:it.kind=4
 . by_cases h1:f<it.items.length
   . have b:=U (show qN it f=5 by unfold qN;rw [J3 (by simp [hk]),J8 h1]);rw [b.o,J3 (show ¬(5:Int)=0 by decide)];rw [hk] at a ⊢;have c:decide ((f:Int)<(it.items.length:Int))=true:=by simpa using h1
     clear hk;go_enter Tryz.func129,Tryz.ntmps129;go_wp2;go_ret2;exact ⟨rfl,a.o⟩
   . have b:=U (show qN it f=0 by unfold qN;rw [J3 (by simp [hk]),J3 h1]);rw [b.o,J8 rfl];rw [hk] at a ⊢;have c:decide ((f:Int)<(it.items.length:Int))=false:=by simpa using h1
     clear hk;go_enter Tryz.func129,Tryz.ntmps129;go_wp2;go_ret2;exact ⟨rfl,a.o⟩
 . have b:=U (show qN it f=10 by unfold qN;rw [J8 hk]);rw [b.o,J3 (show ¬(10:Int)=0 by decide)];have d:(it.kind != 4)=true:=by simpa using hk
   clear hk;go_enter Tryz.func129,Tryz.ntmps129;go_wp2;go_ret2;exact ⟨rfl,a.o⟩
theorem oU {w:World} {B T b n c:Nat} {a:Option Addr} {l:List Value} (h:w.ownsRow B T b (.slice a n c) n l):n<=c:=by
 rcases h.2 with ⟨hv,h0⟩|⟨g,cap,cur,hv,hg,hh,hc,r⟩
 . omega
 . simp only [K6] at hv;omega
def vt (it:JV) (most:Nat) (w:World) (e:Ending) (w':World):Prop :=
 ∃a c,e=.returned (.tuple #[.slice a (vx it most).length c,.int .i64 (zQ it most)])/\(vx it most).length<=c/\qv w' w.heap.size w'.heap.size a (vx it most)/\Below w.heap.size w w'
theorem mQ {it:JV} {a:Nat} {w w':World} {b:Int} (h:zQ it a=b) (c:b≠0) (d:Below w.heap.size w w'):vt it a w (.returned (.tuple #[.slice none 0 0,.int .i64 b])) w':=by unfold vt vx;rw [h,J3 c];exact ⟨none,0,rfl,J9 _,.inl rfl,d⟩
theorem aA (it:JV) (c7 p1:Nat) (an' ai':Option Addr) (cn' ci' lo:Nat) (w:World) (hN:it.wt<=4294967296) (hR:Rep w lo w.heap.size it (.agg #[.int .u8 it.kind,.int .i64 it.n,.string it.t,.slice an' it.names.length cn',.slice ai' it.items.length ci'])) (c1:w.cell? ⟨p1,0,none⟩=some (.int .i64 c7)) :
 Calls Tryz.prog 237 #[.agg #[.int .u8 it.kind,.int .i64 it.n,.string it.t,.slice an' it.names.length cn',.slice ai' it.items.length ci'],.pointer (some ⟨p1,0,none⟩)] w (vt it c7 w):=by
 obtain ⟨b9,c2,b7,c0,hx,-,-,-,h4⟩:=hR.parts;simp only [zb8,zc4,G5,K6,zc8,zb6] at hx;obtain ⟨⟨rfl,rfl⟩,rfl,rfl⟩:=hx;obtain ⟨W,Z⟩:=O1 (w.alloc (.cells #[.int .u8 it.kind,.int .i64 it.n,.string it.t,.slice an' it.names.length cn',.slice ai' it.items.length ci'] 25));have T:=O7 Z
 have d1:W.cell? ⟨p1,0,none⟩=some (.int .i64 c7):=by rw [T.cell (H8 w _ c1)];exact c1
 have u:=O9 Z
 have G:=U (me it c7 an' ai' cn' ci' W);have o:=U T;have H4:=U h4;have Y:=U Z;have J:=U (show it.items.length<=4294967296 by have:=it.wt_bd;omega);obtain ⟨x0,x1,x2,x3,x4⟩:=bx5 u;clear T c1 Z h4 hR u hN;obtain ⟨E,s⟩:=O1 it.items.length;rw [<- s] at G J x4 ⊢;rw [<- s] at Y;have p:=U s;clear s;by_cases hie:qN it c7=0
 case neg =>
  have L:=U (hY hie);obtain ⟨er,A⟩:=O1 (qN it c7);rw [J3 hie,<- A] at G;rw [<- A] at L hie;have h1:(er != 0)=true:=by simpa using hie
  have a8:=U hie;clear hie A;go_enter Tryz.func237,Tryz.ntmps237;go_upto_region 1 with fail
  rw [<- Y.o];go_wp2_with fail;refine G.o.mono ?_;rintro e F ⟨rfl,g⟩;have d:=U (O2 o g);clear g;go_wp2;go_ret2;exact mQ L.o a8.o d.o
 have L:=U (show zQ it c7=if it.items.all (fun x=>decide (x.kind=3)) then 0 else 10 by unfold zQ;rw [J3 (by simp [hie])]);rw [J8 hie,hie] at G;clear hie;obtain ⟨i2,b2,u,b4,b5⟩:=K9 gu;go_enter Tryz.func237,Tryz.ntmps237;go_upto_region 1 with fail
 rw [<- Y.o];go_wp2_with fail;refine G.o.mono ?_;clear G;rintro e F ⟨rfl,g⟩;have d:=U (O2 o g);clear g Y x0 x1 x2 x3 x4 d1;go_wp2;go_loopw [7,9,21] (fun vs _ i wr=>∃(k:Nat),k<=E/\i=.int .i64 k/\(∀j (h:j<it.items.length),j<k->it.items[j].kind=3)/\wr.ownsRow F.heap.size 9 1 vs k (((it.items.map JV.t).take k).map .string)/\Below F.heap.size F wr) (fun _ _ i _=>E - (intOf i).toNat)
 case atStart=>exact ⟨0,by omega,rfl,fun j _ h=>by omega,W8 _ _ _ _,J0 _ _⟩
 case round =>
  obtain ⟨k,hk,rfl,S,a,c⟩:=hrel;have B:((it.items.map JV.t).take k).length=k:=by rw [M7,X9,<- p.o];omega
  obtain ⟨am,cm,V,-,-⟩:=ju a B.symm;rw [B] at V;subst V;clear B;have I:Hid (Below w.heap.size w wr):=O2 d c;have a0:=U c;have HO:=U a;have H:=U S;clear S;by_cases hlt:k<E
  . have v:k<it.items.length:=by rw [<- p.o];exact hlt
    obtain ⟨b,b6,P,R,N,Q,rfl,_,c3,y0,y1,y2,y3,y4,_⟩:=(H4.o.below I.o lz lz I.o.size).get k v;have b0:=U (show ((it.items.map JV.t).take (k+1)).map Value.string=((it.items.map JV.t).take k).map .string ++ [.string it.items[k].t] by rw [J7 (by simpa using v),M1];simp);have y:=O0 (it.items[k].kind≠3->it.items.all (fun x=>decide (x.kind=3))=false) (fun h=>zc6.2 ⟨it.items[k],X6 _,by simpa using h⟩);have z:=U (show it.items[k].kind=3->∀j (h:j<it.items.length),j<k+1->it.items[j].kind=3 from fun h j hj hjk=>by
     rcases V5.1 hjk with h1|h1
     . exact H.o j hj h1
     . subst h1;exact h)
    obtain ⟨vo,b3⟩:=O1 ((Value.slice (some ⟨b,b6,none⟩) E ci'));clear vo b3;generalize it.items[k]=x at *;have hz:F.heap.size<=wr.heap.size:=c.size;obtain ⟨m,f⟩:=O1 (wr.alloc (.cells #[.int .u8 x.kind,.int .i64 x.n,.string x.t,.slice P x.names.length R,.slice N x.items.length Q] 25));have r:=O7 f
    have D:=O9 f
    have a1:=U (a0.o.trans (r.mono hz));have K:=U (qM HO.o r);have a2:=U (O2 I r);have c6:F.heap.size<=m.heap.size:=by rw [f];simp;omega
    have M:=U f;have z0:=qq D (j:=0) rfl;have z2:=qq D (j:=2) rfl;clear c a r D f;by_cases hk3:x.kind=3
    . have a6:=U (z.o hk3);have h3:(x.kind != 3)=false:=by simpa using hk3
      have c4:=J.o;clear hk3 y z;go_upto_region 8 with fail
      rw [<- M.o];go_wp2_with (at_builtin;refine V6 _ rfl (.tmp 28) (.tmp 31) 22 rfl F.heap.size 9 i2 _ 1 16 zb3 b2 u b4 b5 rfl (by decide) (.slice am k cm) k (((it.items.map JV.t).take k).map .string) rfl (K.o.alloc _) ⟨m.heap.size,0,none⟩ 1 1 [.string x.t] rfl rfl (Y0 (cs:=#[.string x.t]) (t:=9) (fr:=(0,0)) (J2 m _)) (by simp [Value.oneCell']) (by omega) (by unfold maxLen;omega) (by omega) (by simp;omega) (m.heap.size+1) (by simp) ?_;intro g1 cap2 w6 hown6 hgrow6 hat6 hlt6;have a9:=U hown6;have a4:=U hgrow6;clear hown6 hgrow6 hat6);go_roundw
      case rel => refine ⟨k+1,by omega,by go_num,a6.o,?_,below_grown (a1.o.alloc (by omega) _) (by simp;omega) a4.o (fun b T=>(K.o.lt b T).1)⟩;rw [b0.o];exact a9.o
      case measure=>simp [intOf];omega
    . have q:=U (show zQ it c7=10 by rw [L.o,y.o hk3];rfl);have h3:(x.kind != 3)=true:=by simpa using hk3
      clear hk3 y z;go_upto_region 8 with fail
      rw [<- M.o];go_wp2;go_ret2;exact mQ q.o (by decide) a2.o
  . obtain rfl:k=E:=by omega
    have q:=U (show zQ it c7=0 by
     rw [L.o,J8];refine K7.2 fun x hx=>?_;obtain ⟨j,hj,rfl⟩:=V4 hx;simpa using H.o j hj (by rw [p.o];exact hj))
    have l:(it.items.map JV.t).length=k:=by rw [X9,p.o]
    rw [X2 (G8 l)] at a;obtain ⟨a5,c5,C,_,X⟩:=ju a l.symm;rw [l] at C;simp only [K6,zc8] at C;obtain ⟨rfl,rfl⟩:=C;have b1:=U X;have a7:=U l;have a3:=U (oU a);clear a X c l;go_wp2;go_ret2;have e1:vx it c7=it.items.map JV.t:=by unfold vx;rw [J8 q.o]
    unfold vt;rw [e1,q.o,a7.o];exact ⟨am,cm,rfl,a3.o,b1.o.carry d.o.size lz (fun _ _ _=>rfl),I.o⟩
def vN (o m lo hi:Nat) (v:JV) (an ai:Option Addr) (cn ci:Nat) (y:ByteArray) (most:Nat) (st:PS) (w:World) (e:Ending) (w':World):Prop :=
 (∃a c,e=.returned (.slice a (qw v y most st).1.length c)/\(qw v y most st).1.length<=c/\qv w' w.heap.size w'.heap.size a (qw v y most st).1)/\PickAt o m lo hi v an ai cn ci (qw v y most st).2 w'/\Touch (fun b=>b=o\/b=m) w w'
theorem yP {o m lo hi:Nat} {v:JV} {an ai:Option Addr} {cn ci:Nat} {y:ByteArray} {a:Nat} {st c:PS} {w w':World} (h:qw v y a st=([],c)) (d:PickAt o m lo hi v an ai cn ci c w') (e:Touch (fun b=>b=o\/b=m) w w'):vN o m lo hi v an ai cn ci y a st w (.returned (.slice none 0 0)) w':=by unfold vN;rw [h];exact ⟨⟨none,0,rfl,J9 _,.inl rfl⟩,d,e⟩
theorem aT (o m lo hi:Nat) (v:JV) (an ai:Option Addr) (cn ci:Nat) (y:ByteArray) (b2:Nat) (st:PS) (w:World) (hP:PickAt o m lo hi v an ai cn ci st w) (hy:y.size<=4294967296) (ha:st.asked.length<=4294967296) (p1:Nat) (g1:w.heap[p1]?=some (.cells #[.int .i64 b2] 3 (0,0))) :
 Calls Tryz.prog 236 #[.pointer (some ⟨o,0,none⟩),.string y,.func (.func 237) #[] #[.pointer (some ⟨p1,0,none⟩)]] w (vN o m lo hi v an ai cn ci y b2 st w):=by
 have f:=U hP;have H:=U g1;clear hP g1;have W:=qq f.o.obj (j:=6) rfl;have c0:w.cell? ⟨o,0,none⟩=some (.int .u8 5):=(qq (j:=0) f.o.obj rfl).trans (by rw [f.o.kind];rfl);by_cases he:st.err=0
 . rw [he] at W;have B:=U he;clear he;have c1:=qq f.o.obj (j:=1) rfl;have c2:=qq f.o.obj (j:=2) rfl;have c3:=qq f.o.obj (j:=3) rfl;have c4:=qq f.o.obj (j:=4) rfl;have HR:=U f.o.rep;rw [f.o.kind] at HR;have HG:=U (kP v y _ w lo hi f.o.wt f.o.pos f.o.le HR.o f.o.kind f.o.rise f.o.len);go_enter Tryz.func236,Tryz.ntmps236;go_wp2_with fail;refine (q7 o 0 5 w W c0 (fun _=>rfl)).mono ?_;rintro r w' ⟨rfl,rfl⟩;go_wp2_with fail;refine HG.o.mono ?_;clear HG c0 c1 c2 c3 c4 W;rintro e A ⟨hh,Q⟩;have g:=U Q;clear Q;rcases hh with ⟨r,hr1,hr2,hre,an',cn',ai',ci',rfl,hrep⟩|⟨hno,rfl⟩
   . have HL:=U (jM f.o.rise r hr1 hr2 hre);have I:=U hrep;have a3:=U (show v.items[r].wt<=4294967296 by have h1:=JV.wts_get v.items r hr2;have h2:=v.wt_bd;have h3:=f.o.wt;omega);clear hre hrep;generalize v.items[r]=it at *;have F:Below w.heap.size w (A.alloc (.cells #[.int .u8 it.kind,.int .i64 it.n,.string it.t,.slice an' it.names.length cn',.slice ai' it.items.length ci'] 25)):=g.o.alloc g.o.size _;have i:=U F;have x:=U (aA it b2 p1 an' ai' cn' ci' w.heap.size (A.alloc (.cells #[.int .u8 it.kind,.int .i64 it.n,.string it.t,.slice an' it.names.length cn',.slice ai' it.items.length ci'] 25)) a3.o (I.o.below O4 lz lz (by simp)) (qq ((F.block _ (qx H.o)).trans H.o) rfl));clear F;unfold vt at x;by_cases hk:zQ it b2=0
     . have z:=U (show qw v y b2 st=(it.items.map JV.t,⟨y :: st.asked,0⟩) by unfold qw;rw [J3 (by simp [B.o]),HL.o];obtain ⟨q1,q2,q3⟩:=ly hk;simp only;rw [J3 (by simp [q1]),J3 q2,J8 q3]);rw [show vx it b2=it.items.map JV.t by unfold vx;rw [J8 hk],hk] at x;clear hk;obtain ⟨L,hL⟩:=O1 (it.items.map JV.t);rw [<- hL] at x z;clear hL;go_wp2_with fail;refine x.o.mono ?_;clear x;rintro e G ⟨al,cl,rfl,R,T,q⟩;have X:=U R;clear R;have a:=U (O2 i q);have d:=U (f.o.below a.o);have a2:=U T;have K:=O0 (w.heap.size<(A.alloc (.cells #[.int .u8 it.kind,.int .i64 it.n,.string it.t,.slice an' it.names.length cn',.slice ai' it.items.length ci'] 25)).heap.size) (by have:=g.o.size;simp;omega);have Z:=O0 (m<w.heap.size) (by obtain ⟨D,n,h,_⟩:=f.o.map;exact h.lt);clear q i T;have d5:=qq d.o.obj (j:=5) rfl;have s:Go.keyOf Tryz.prog 9 (.string y)=some (.string y.data.toList):=keyOf_string_mk Y6 (by unfold maxLen;omega);obtain ⟨D,n,u,hn,hD⟩:=d.o.map;obtain ⟨c,E,a6,a7,a4⟩:=hD.2 y;obtain ⟨c',a5,p,_⟩:=u.lookup_int jC H7 K8 (kR _) s;rw [E] at p;simp only [zd1,ze1,zc8] at p;subst p;have HD:=U (hD.cons y c E);have Y:=U s;have a0:=U u;clear hD E a4 s u;go_wp2_with (at_mapUpdate;refine zc3 _ rfl _ _ _ 150 rfl 9 3 jC H7 _ m n D rfl a0.o (by unfold maxLen;omega) _ _ _ rfl rfl Y.o _ [] (plainElem_int K8 (WalkArith.wf_i64 (by omega))) ?_);intro V hown3 hgrow3;have l:=U (d.o.ask y hgrow3 hown3 (by omega) HD.o);have J:=O0 (Touch (fun b=>b=o\/b=m) w V) (⟨by rw [hgrow3.os,a.o.os],by rw [hgrow3.tape,a.o.tape],by rw [hgrow3.output,a.o.output],J1 a.o.size hgrow3.size,fun k hk hs=>by rw [hgrow3.block k (Y5 hk a.o.size) (fun e=>hs (.inr (Y9 e))),a.o.block k hk]⟩);have a1:=O0 (qv V w.heap.size V.heap.size al L) (a2.o.carry (ze7 K.o) hgrow3.size fun b h1 h2=>hgrow3.block b h2 (fun e=>by have:=Y9 e;have:=K.o;have:=Z.o;omega));clear hgrow3 hown3;rw [B.o] at l;go_wp2;go_ret;unfold vN;rw [z.o];exact ⟨⟨al,cl,rfl,X.o,a1.o⟩,l.o,J.o⟩
     . have z:=U (show qw v y b2 st=([],⟨st.asked,zQ it b2⟩) by unfold qw;rw [J3 (by simp [B.o]),HL.o];exact lg hk);rw [show vx it b2=[] by unfold vx;rw [J3 hk]] at x;obtain ⟨C,S⟩:=O1 (zQ it b2);rw [<- S] at x z hk;have b0:(C != 0)=true:=by simpa using hk
       have b1:(C == 0)=false:=by simpa using hk
       clear hk S;go_wp2_with fail;refine x.o.mono ?_;clear x;rintro e G ⟨al,cl,rfl,-,-,q⟩;have a:=U (O2 i q);have d:=U (f.o.below a.o);clear q i;have N:G.cell? ⟨o,6,none⟩=some (.int .i64 0):=(qq (j:=6) d.o.obj rfl).trans (by rw [B.o];rfl);have M:G.cell? ⟨o,0,none⟩=some (.int .u8 5):=(qq (j:=0) d.o.obj rfl).trans (by rw [f.o.kind];rfl);have P:G.frozen? ⟨o,6,none⟩=false:=by simp [World.frozen?,d.o.obj]
       go_wp2_with fail
       refine (xz o C _ N M P).mono ?_;clear N M P;rintro e V ⟨rfl,rfl⟩;have l:=U (d.o.fail C);have J:=O0 (Touch (fun b=>b=o\/b=m) w (G.setCell ⟨o,6,none⟩ (.int .i64 C))) ((Touch.of_below a.o lz).setCell (.inl (.inl rfl)) _);go_wp2;go_ret;exact yP z.o l.o J.o
   . have z:=U (show qw v y b2 st=([],⟨st.asked,6⟩) by unfold qw;rw [J3 (by simp [B.o]),show v.look y=none from xU _ _ _ hno]);unfold zeroAgg;have a:=O0 (Below w.heap.size w (A.alloc (.cells #[.int .u8 0,.int .i64 0,.string ⟨#[]⟩,.slice none 0 0,.slice none 0 0] 25))) (g.o.alloc g.o.size _);have d:=U (f.o.below a.o);clear hno g;have N:(A.alloc (.cells #[.int .u8 0,.int .i64 0,.string ⟨#[]⟩,.slice none 0 0,.slice none 0 0] 25)).cell? ⟨o,6,none⟩=some (.int .i64 0):=(qq (j:=6) d.o.obj rfl).trans (by rw [B.o];rfl);have M:(A.alloc (.cells #[.int .u8 0,.int .i64 0,.string ⟨#[]⟩,.slice none 0 0,.slice none 0 0] 25)).cell? ⟨o,0,none⟩=some (.int .u8 5):=(qq (j:=0) d.o.obj rfl).trans (by rw [f.o.kind];rfl);have P:(A.alloc (.cells #[.int .u8 0,.int .i64 0,.string ⟨#[]⟩,.slice none 0 0,.slice none 0 0] 25)).frozen? ⟨o,6,none⟩=false:=by simp [World.frozen?,d.o.obj]
     go_wp2_with fail
     refine (xz o 6 _ N M P).mono ?_;clear N M P;rintro e V ⟨rfl,rfl⟩;have l:=U (d.o.fail 6);have J:=O0 (Touch (fun b=>b=o\/b=m) w ((A.alloc (.cells #[.int .u8 0,.int .i64 0,.string ⟨#[]⟩,.slice none 0 0,.slice none 0 0] 25)).setCell ⟨o,6,none⟩ (.int .i64 6))) ((Touch.of_below a.o lz).setCell (.inl (.inl rfl)) _);go_wp2;go_ret;exact yP z.o l.o J.o
 . have a8:(st.err == 0)=false:=by simpa using he
   have a9:(st.err != 0)=true:=by simpa using he
   have z:=U (show qw v y b2 st=([],st) by unfold qw;rw [J8 he]);have B:=U he;clear he;go_enter Tryz.func236,Tryz.ntmps236;go_wp2_with fail;refine (q7 o st.err 5 w W c0 (fun _=>rfl)).mono ?_;rintro r w' ⟨rfl,rfl⟩;go_wp2;go_ret;exact yP z.o f.o (Touch.refl _ _)
theorem nQ {o m lo hi:Nat} {v:JV} {an ai:Option Addr} {cn ci:Nat} {st:PS} {w:World} (y:ByteArray) (P:Nat) (h:zE o m lo hi v an ai cn ci st w) (S:y.size<=4294967296) (Q:st.asked.length<=4294967296) :
 Calls Tryz.prog 182 #[.pointer (some ⟨o,0,none⟩),.string y,.int .i64 P] w fun e w'=>(∃a c,e=.returned (.slice a (qw v y P st).1.length c)/\(qw v y P st).1.length<=c/\qv w' w.heap.size w'.heap.size a (qw v y P st).1)/\wU o m lo hi v an ai cn ci (qw v y P st).2 w w':=by
 have g:Below w.heap.size w (w.alloc (.cells #[.int .i64 P] 3)):=O4;have x:=U (show Calls Tryz.prog 236 #[.pointer (some ⟨o,0,none⟩),.string y,.func (.func 237) #[] #[.pointer (some ⟨w.heap.size,0,none⟩)]] (w.alloc (.cells #[.int .i64 P] 3)) (fun e w'=>(∃a c,e=.returned (.slice a (qw v y P st).1.length c)/\(qw v y P st).1.length<=c/\qv w' w.heap.size w'.heap.size a (qw v y P st).1)/\wU o m lo hi v an ai cn ci (qw v y P st).2 w w') by
  have f:Touch (fun b=>b=o\/b=m) w (w.alloc (.cells #[.int .i64 P] 3)):=Touch.of_below g lz;rcases h with h|⟨⟨d,c6,k,c0⟩,j,h3,h4⟩
  . refine (aT o m lo hi v an ai cn ci y P st _ (h.below g) S Q w.heap.size (J2 w _)).mono ?_;rintro e w' ⟨⟨a,c,F,K,G⟩,H,I⟩;exact ⟨⟨a,c,F,K,G.carry g.size lz (fun _ _ _=>rfl)⟩,.inl H,f.trans (I.mono fun _ _ h=>h)⟩
  . obtain ⟨i,l⟩:=O1 (w.alloc (.cells #[.int .i64 P] 3));rw [<- l] at g f ⊢;have s:=O0 (zE o m lo hi v an ai cn ci st i) ((zE.below (.inr ⟨⟨d,c6,k,c0⟩,j,h3,h4⟩) g));have J:i.cell? ⟨o,6,none⟩=some (.int .i64 st.err):=by rw [g.cell j];exact c6
    have E:i.cell? ⟨o,0,none⟩=some (.int .u8 k):=by rw [g.cell j];exact c0
    have M:(st.err == 0)=false:=by simpa using d
    have N:(st.err != 0)=true:=by simpa using d
    have C:=U d;have u:=U f;have D:=U (show qw v y P st=([],st) by unfold qw;rw [J8 d]);clear d c6 c0 l g f;go_enter Tryz.func236,Tryz.ntmps236;go_wp2_with fail;refine (q7 o st.err k i J E (fun h=>absurd h C.o)).mono ?_;rintro r w' ⟨rfl,L⟩;subst L;go_wp2;go_ret;rw [D.o];exact ⟨⟨none,0,rfl,J9 _,.inl rfl⟩,s.o,u.o⟩)
 clear h g;obtain ⟨R,z⟩:=O1 (qw v y P st);rw [<- z] at x ⊢;clear z;go_enter Tryz.func182,Tryz.ntmps182;go_wp2_with fail;refine x.o.mono ?_;rintro e w' ⟨⟨a,c,rfl,p,d⟩,j⟩;have q:=U p;clear p;have A:=U d;have B:=U j;clear d j;go_wp2;go_ret;exact ⟨⟨a,c,rfl,q.o,A.o⟩,B.o⟩
theorem Z0 {o m lo hi:Nat} {v:JV} {an ai:Option Addr} {cn ci:Nat} {st:PS} {w:World} (y:ByteArray) (h:zE o m lo hi v an ai cn ci st w) :
 Calls Tryz.prog 64 #[.pointer (some ⟨o,0,none⟩),.string y] w fun e w'=>e=.returned (.bool (q9 v y st))/\Below w.heap.size w w':=by
 rcases h with h|⟨h1,h2,h3,h4⟩
 . exact ol o m lo hi v an ai cn ci y st w h
 . refine (Zf o st.err y w h1).mono fun e w' ⟨e1,e2⟩=>?_;subst e2;have:q9 v y st=false:=by unfold q9;simp [h1.1]
   rw [this];exact ⟨e1,J0 _ _⟩
def kI (k n:Int):Bool:=if k=1 then decide (n=1) else false
theorem oM (k n:Int) (t:ByteArray) (a b:Value) (w:World) :
 Calls Tryz.prog 239 #[.agg #[.int .u8 k,.int .i64 n,.string t,a,b]] w fun e w'=>e=.returned (.tuple #[.bool (kI k n),.int .i64 (if k=1 then 0 else 10)])/\Below w.heap.size w w':=by
 have d:=O0 (Below w.heap.size w (w.alloc (.cells #[.int .u8 k,.int .i64 n,.string t,a,b] 25))) O4;by_cases hk:k=1
 . subst hk;have c:=O0 (kI 1 n=decide (n=1)) rfl;go_enter Tryz.func239,Tryz.ntmps239;go_wp2;go_ret2;exact ⟨by rw [c.o] <;> rfl,d.o⟩
 . have c:=U (show kI k n=false by unfold kI;rw [J3 hk]);rw [c.o,J3 hk];have f:(k == 1)=false:=by simpa using hk
   have g:(k != 1)=true:=by simpa using hk
   clear hk;go_enter Tryz.func239,Tryz.ntmps239;go_wp2;go_ret2;exact ⟨rfl,d.o⟩
def gY (o m lo hi:Nat) (v:JV) (an ai:Option Addr) (cn ci:Nat) (y:ByteArray) (st:PS) (w:World) (e:Ending) (w':World):Prop :=
 e=.returned (.bool (qI v y st).1)/\PickAt o m lo hi v an ai cn ci (qI v y st).2 w'/\Touch (fun b=>b=o\/b=m) w w'
theorem bJ {o m lo hi:Nat} {v:JV} {an ai:Option Addr} {cn ci:Nat} {y:ByteArray} {st a:PS} {w w':World} (h:qI v y st=(false,a)) (c:PickAt o m lo hi v an ai cn ci a w') (d:Touch (fun b=>b=o\/b=m) w w'):gY o m lo hi v an ai cn ci y st w (.returned (.bool false)) w':=by unfold gY;rw [h];exact ⟨rfl,c,d⟩
theorem oC (o m lo hi:Nat) (v:JV) (an ai:Option Addr) (cn ci:Nat) (y:ByteArray) (st:PS) (w:World) (hP:PickAt o m lo hi v an ai cn ci st w) (hy:y.size<=4294967296) (ha:st.asked.length<=4294967296) :
 Calls Tryz.prog 238 #[.pointer (some ⟨o,0,none⟩),.string y,.func (.func 239) #[] #[]] w (gY o m lo hi v an ai cn ci y st w):=by
 have f:=U hP;clear hP;have M:=qq f.o.obj (j:=6) rfl;have Q:w.cell? ⟨o,0,none⟩=some (.int .u8 5):=(qq (j:=0) f.o.obj rfl).trans (by rw [f.o.kind];rfl);by_cases he:st.err=0
 . rw [he] at M;have z:=U he;clear he;have c1:=qq f.o.obj (j:=1) rfl;have c2:=qq f.o.obj (j:=2) rfl;have c3:=qq f.o.obj (j:=3) rfl;have c4:=qq f.o.obj (j:=4) rfl;have X:=U f.o.rep;rw [f.o.kind] at X;have V:=U (kP v y _ w lo hi f.o.wt f.o.pos f.o.le X.o f.o.kind f.o.rise f.o.len);go_enter Tryz.func238,Tryz.ntmps238;go_wp2_with fail;refine (q7 o 0 5 w M Q (fun _=>rfl)).mono ?_;rintro r w' ⟨rfl,rfl⟩;go_wp2_with fail;refine V.o.mono ?_;clear V Q c1 c2 c3 c4 M;rintro e B ⟨hh,J⟩;have i:=U J;clear J;rcases hh with ⟨r,hr1,hr2,hre,an',cn',ai',ci',rfl,hrep⟩|⟨hno,rfl⟩
   . have W:=U (jM f.o.rise r hr1 hr2 hre);clear hre hrep;generalize v.items[r]=it at *;have K:Below w.heap.size w (B.alloc (.cells #[.int .u8 it.kind,.int .i64 it.n,.string it.t,.slice an' it.names.length cn',.slice ai' it.items.length ci'] 25)):=i.o.alloc i.o.size _;have g:=U K;have u:=U (oM it.kind it.n it.t (.slice an' it.names.length cn') (.slice ai' it.items.length ci') (B.alloc (.cells #[.int .u8 it.kind,.int .i64 it.n,.string it.t,.slice an' it.names.length cn',.slice ai' it.items.length ci'] 25)));clear K;by_cases hk:it.kind=1
     . have x:=U (show qI v y st=(decide (it.n=1),⟨y :: st.asked,0⟩) by unfold qI;rw [J3 (by simp [z.o]),W.o];simp [hk]);rw [J8 hk] at u;have I:kI it.kind it.n=decide (it.n=1):=by unfold kI;rw [J8 hk]
       rw [I] at u;clear hk I;obtain ⟨L,Y⟩:=O1 (decide (it.n=1));rw [<- Y] at u x;clear Y;go_wp2_with fail;refine u.o.mono ?_;clear u;rintro e C ⟨rfl,p⟩;have a:=U (O2 g p);have d:=U (f.o.below a.o);clear p g;have d5:=qq d.o.obj (j:=5) rfl;have q:Go.keyOf Tryz.prog 9 (.string y)=some (.string y.data.toList):=keyOf_string_mk Y6 (by unfold maxLen;omega);obtain ⟨D,n,s,hn,R⟩:=d.o.map;obtain ⟨c,A,a0,a1,S⟩:=R.2 y;obtain ⟨c',Z,l,_⟩:=s.lookup_int jC H7 K8 (kR _) q;rw [A] at l;simp only [zd1,ze1,zc8] at l;subst l;have HD:=U (R.cons y c A);have N:=U q;have P:=U s;clear R A S q s;go_wp2_with (at_mapUpdate;refine zc3 _ rfl _ _ _ 150 rfl 9 3 jC H7 _ m n D rfl P.o (by unfold maxLen;omega) _ _ _ rfl rfl N.o _ [] (plainElem_int K8 (WalkArith.wf_i64 (by omega))) ?_);intro T hown3 hgrow3;have h:=U (d.o.ask y hgrow3 hown3 (by omega) HD.o);have E:=O0 (Touch (fun b=>b=o\/b=m) w T) (⟨by rw [hgrow3.os,a.o.os],by rw [hgrow3.tape,a.o.tape],by rw [hgrow3.output,a.o.output],J1 a.o.size hgrow3.size,fun k hk hs=>by rw [hgrow3.block k (Y5 hk a.o.size) (fun e=>hs (.inr (Y9 e))),a.o.block k hk]⟩);clear hgrow3 hown3;rw [z.o] at h;go_wp2;go_ret;unfold gY;rw [x.o];exact ⟨rfl,h.o,E.o⟩
     . have x:=U (show qI v y st=(false,⟨st.asked,10⟩) by unfold qI;rw [J3 (by simp [z.o]),W.o];simp [hk]);rw [J3 hk] at u;have I:kI it.kind it.n=false:=by unfold kI;rw [J3 hk]
       rw [I] at u;clear hk I;go_wp2_with fail;refine u.o.mono ?_;clear u;rintro e C ⟨rfl,p⟩;have a:=U (O2 g p);have d:=U (f.o.below a.o);clear p g;have G:C.cell? ⟨o,6,none⟩=some (.int .i64 0):=(qq (j:=6) d.o.obj rfl).trans (by rw [z.o];rfl);have F:C.cell? ⟨o,0,none⟩=some (.int .u8 5):=(qq (j:=0) d.o.obj rfl).trans (by rw [f.o.kind];rfl);have H:C.frozen? ⟨o,6,none⟩=false:=by simp [World.frozen?,d.o.obj]
       go_wp2_with fail
       refine (xz o 10 _ G F H).mono ?_;clear G F H;rintro e T ⟨rfl,rfl⟩;have h:=U (d.o.fail 10);have E:=O0 (Touch (fun b=>b=o\/b=m) w (C.setCell ⟨o,6,none⟩ (.int .i64 10))) ((Touch.of_below a.o lz).setCell (.inl (.inl rfl)) _);go_wp2;go_ret;exact bJ x.o h.o E.o
   . have x:=U (show qI v y st=(false,⟨st.asked,6⟩) by unfold qI;rw [J3 (by simp [z.o]),show v.look y=none from xU _ _ _ hno]);unfold zeroAgg;have a:=O0 (Below w.heap.size w (B.alloc (.cells #[.int .u8 0,.int .i64 0,.string ⟨#[]⟩,.slice none 0 0,.slice none 0 0] 25))) (i.o.alloc i.o.size _);have d:=U (f.o.below a.o);clear hno i;have G:(B.alloc (.cells #[.int .u8 0,.int .i64 0,.string ⟨#[]⟩,.slice none 0 0,.slice none 0 0] 25)).cell? ⟨o,6,none⟩=some (.int .i64 0):=(qq (j:=6) d.o.obj rfl).trans (by rw [z.o];rfl);have F:(B.alloc (.cells #[.int .u8 0,.int .i64 0,.string ⟨#[]⟩,.slice none 0 0,.slice none 0 0] 25)).cell? ⟨o,0,none⟩=some (.int .u8 5):=(qq (j:=0) d.o.obj rfl).trans (by rw [f.o.kind];rfl);have H:(B.alloc (.cells #[.int .u8 0,.int .i64 0,.string ⟨#[]⟩,.slice none 0 0,.slice none 0 0] 25)).frozen? ⟨o,6,none⟩=false:=by simp [World.frozen?,d.o.obj]
     go_wp2_with fail
     refine (xz o 6 _ G F H).mono ?_;clear G F H;rintro e T ⟨rfl,rfl⟩;have h:=U (d.o.fail 6);have E:=O0 (Touch (fun b=>b=o\/b=m) w ((B.alloc (.cells #[.int .u8 0,.int .i64 0,.string ⟨#[]⟩,.slice none 0 0,.slice none 0 0] 25)).setCell ⟨o,6,none⟩ (.int .i64 6))) ((Touch.of_below a.o lz).setCell (.inl (.inl rfl)) _);go_wp2;go_ret;exact bJ x.o h.o E.o
 . have a2:(st.err == 0)=false:=by simpa using he
   have a3:(st.err != 0)=true:=by simpa using he
   have x:=U (show qI v y st=(false,st) by unfold qI;rw [J8 he]);have z:=U he;clear he;go_enter Tryz.func238,Tryz.ntmps238;go_wp2_with fail;refine (q7 o st.err 5 w M Q (fun _=>rfl)).mono ?_;rintro r w' ⟨rfl,rfl⟩;go_wp2;go_ret;exact bJ x.o f.o (Touch.refl _ _)
theorem Z3 {o m lo hi:Nat} {v:JV} {an ai:Option Addr} {cn ci:Nat} {st:PS} {w:World} (y:ByteArray) (h:zE o m lo hi v an ai cn ci st w) (z:y.size<=4294967296) (x:st.asked.length<=4294967296) :
 Calls Tryz.prog 188 #[.pointer (some ⟨o,0,none⟩),.string y] w fun e w'=>e=.returned (.bool (qI v y st).1)/\wU o m lo hi v an ai cn ci (qI v y st).2 w w':=by
 have c:=U (show Calls Tryz.prog 238 #[.pointer (some ⟨o,0,none⟩),.string y,.func (.func 239) #[] #[]] w (fun e w'=>e=.returned (.bool (qI v y st).1)/\wU o m lo hi v an ai cn ci (qI v y st).2 w w') by
  rcases h with h|⟨⟨h1,c6,k,c0⟩,a,h3,h4⟩
  . refine (oC o m lo hi v an ai cn ci y st _ h z x).mono ?_;rintro e w' ⟨j,l,p⟩;exact ⟨j,.inl l,p⟩
  . have b:=O0 (zE o m lo hi v an ai cn ci st w) (.inr ⟨⟨h1,c6,k,c0⟩,a,h3,h4⟩);have s:(st.err == 0)=false:=by simpa using h1
    have u:(st.err != 0)=true:=by simpa using h1
    have g:=U h1;have i:=U (show qI v y st=(false,st) by unfold qI;rw [J8 h1]);clear h1;go_enter Tryz.func238,Tryz.ntmps238;go_wp2_with fail;refine (q7 o st.err k w c6 c0 (fun h=>absurd h g.o)).mono ?_;rintro r w' ⟨rfl,q⟩;subst q;go_wp2;go_ret;rw [i.o];exact ⟨rfl,b.o,Touch.refl _ _⟩)
 clear h;obtain ⟨R,d⟩:=O1 (qI v y st);rw [<- d] at c ⊢;clear d;go_enter Tryz.func188,Tryz.ntmps188;go_wp2_with fail;refine c.o.mono ?_;rintro e w' ⟨rfl,a⟩;have f:=U a;clear a;go_wp2;go_ret;exact ⟨rfl,f.o⟩
def kH (it:JV) (most:Nat):List JV:=if qN it most=0 then it.items else []
theorem lf {it:JV} {a:Nat} (e:qN it a=0):it.kind=4/\¬a<it.items.length:=by
 unfold qN at e;by_cases h1:it.kind=4
 . by_cases h2:a<it.items.length
   . simp [h1,h2] at e
   . exact ⟨h1,h2⟩
 . simp [h1] at e
theorem lh {it:JV} {a:List ByteArray} {b:Nat} {X:List JV × PS} (e:¬qN it b=0) :
 (if it.kind≠4 then ([],(⟨a,10⟩:PS)) else if b<it.items.length then ([],⟨a,5⟩) else X)=([],⟨a,qN it b⟩):=by
 unfold qN at e ⊢;by_cases h1:it.kind=4
 . by_cases h2:b<it.items.length
   . simp [h1,h2]
   . simp [h1,h2] at e
 . simp [h1]
def yj (it:JV) (most lo:Nat) (w:World) (e:Ending) (w':World):Prop :=
 ∃a c,e=.returned (.tuple #[.slice a (kH it most).length c,.int .i64 (qN it most)])/\(kH it most).length<=c/\zm w' lo w'.heap.size a (kH it most)/\Below w.heap.size w w'
theorem oD (it:JV) (z B:Nat) (an' ai':Option Addr) (cn' ci' lo:Nat) (w:World) (C:Rep w lo w.heap.size it (.agg #[.int .u8 it.kind,.int .i64 it.n,.string it.t,.slice an' it.names.length cn',.slice ai' it.items.length ci'])) (A:w.cell? ⟨B,0,none⟩=some (.int .i64 z)) :
 Calls Tryz.prog 128 #[.agg #[.int .u8 it.kind,.int .i64 it.n,.string it.t,.slice an' it.names.length cn',.slice ai' it.items.length ci'],.pointer (some ⟨B,0,none⟩)] w (yj it z lo w):=by
 have f:it.items.length<=ci'/\zm w lo w.heap.size ai' it.items:=(by obtain ⟨m,p,l,o,j,x,u,y,v⟩:=C.parts;simp only [zb8,zc4,G5,K6] at j;obtain ⟨-,-,-,-,⟨r,-,s⟩,-⟩:=j;rw [r,s];exact ⟨u,v⟩);have h:Below w.heap.size w (w.alloc (.cells #[.int .u8 it.kind,.int .i64 it.n,.string it.t,.slice an' it.names.length cn',.slice ai' it.items.length ci'] 25)):=O4;have q:(w.alloc (.cells #[.int .u8 it.kind,.int .i64 it.n,.string it.t,.slice an' it.names.length cn',.slice ai' it.items.length ci'] 25)).cell? ⟨B,0,none⟩=some (.int .i64 z):=by rw [h.cell (H8 w _ A)];exact A
 have c:=U (fun w=>me it z an' ai' cn' ci' w);have i:=U h;have b:=U f;clear C h f A;go_enter Tryz.func128,Tryz.ntmps128;go_wp2_with fail;refine (c.o _).mono ?_;clear c;rintro e w' ⟨rfl,d⟩;have a:=U (O2 i d);clear d q;by_cases hk:qN it z=0
 . have k:=U hk;have g:=U (show kH it z=it.items by unfold kH;rw [J8 hk]);rw [hk];simp only [if_true];clear hk;go_wp2;go_ret2;unfold yj;rw [g.o,k.o];exact ⟨ai',ci',rfl,b.o.1,b.o.2.below a.o lz lz a.o.size,a.o⟩
 . have g:=U (show kH it z=[] by unfold kH;rw [J3 hk]);simp only [J3 hk];clear hk;go_wp2;go_ret2;unfold yj;rw [g.o];exact ⟨none,0,rfl,J9 _,.inl rfl,a.o⟩
def yk (o m lo hi:Nat) (v:JV) (an ai:Option Addr) (cn ci:Nat) (y:ByteArray) (most:Nat) (st:PS) (w:World) (e:Ending) (w':World):Prop :=
 (∃a c,e=.returned (.slice a (qY v y most st).1.length c)/\(qY v y most st).1.length<=c/\zm w' w.heap.size w'.heap.size a (qY v y most st).1)/\PickAt o m lo hi v an ai cn ci (qY v y most st).2 w'/\Touch (fun b=>b=o\/b=m) w w'
theorem bK {o m lo hi:Nat} {v:JV} {an ai:Option Addr} {cn ci:Nat} {y:ByteArray} {a:Nat} {st c:PS} {w w':World} (h:qY v y a st=([],c)) (d:PickAt o m lo hi v an ai cn ci c w') (e:Touch (fun b=>b=o\/b=m) w w'):yk o m lo hi v an ai cn ci y a st w (.returned (.slice none 0 0)) w':=by unfold yk;rw [h];exact ⟨⟨none,0,rfl,J9 _,.inl rfl⟩,d,e⟩
theorem oL (o m lo hi:Nat) (v:JV) (an ai:Option Addr) (cn ci:Nat) (y:ByteArray) (b0:Nat) (st:PS) (w:World) (hP:PickAt o m lo hi v an ai cn ci st w) (hy:y.size<=4294967296) (ha:st.asked.length<=4294967296) (p1:Nat) (g1:w.heap[p1]?=some (.cells #[.int .i64 b0] 3 (0,0))) :
 Calls Tryz.prog 127 #[.pointer (some ⟨o,0,none⟩),.string y,.func (.func 128) #[] #[.pointer (some ⟨p1,0,none⟩)]] w (yk o m lo hi v an ai cn ci y b0 st w):=by
 have f:=U hP;have H:=U g1;clear hP g1;have T:=qq f.o.obj (j:=6) rfl;have c0:w.cell? ⟨o,0,none⟩=some (.int .u8 5):=(qq (j:=0) f.o.obj rfl).trans (by rw [f.o.kind];rfl);by_cases he:st.err=0
 . rw [he] at T;have B:=U he;clear he;have c1:=qq f.o.obj (j:=1) rfl;have c2:=qq f.o.obj (j:=2) rfl;have c3:=qq f.o.obj (j:=3) rfl;have c4:=qq f.o.obj (j:=4) rfl;have HR:=U f.o.rep;rw [f.o.kind] at HR;have HG:=U (kP v y _ w lo hi f.o.wt f.o.pos f.o.le HR.o f.o.kind f.o.rise f.o.len);go_enter Tryz.func127,Tryz.ntmps127;go_wp2_with fail;refine (q7 o 0 5 w T c0 (fun _=>rfl)).mono ?_;rintro r w' ⟨rfl,rfl⟩;go_wp2_with fail;refine HG.o.mono ?_;clear HG c0 c1 c2 c3 c4 T;rintro e A ⟨hh,N⟩;have g:=U N;clear N;rcases hh with ⟨r,hr1,hr2,hre,an',cn',ai',ci',rfl,hrep⟩|⟨hno,rfl⟩
   . have HL:=U (jM f.o.rise r hr1 hr2 hre);have I:=U hrep;clear hre hrep;generalize v.items[r]=it at *;have F:Below w.heap.size w (A.alloc (.cells #[.int .u8 it.kind,.int .i64 it.n,.string it.t,.slice an' it.names.length cn',.slice ai' it.items.length ci'] 25)):=g.o.alloc g.o.size _;have i:=U F;have x:=U (oD it b0 p1 an' ai' cn' ci' w.heap.size (A.alloc (.cells #[.int .u8 it.kind,.int .i64 it.n,.string it.t,.slice an' it.names.length cn',.slice ai' it.items.length ci'] 25)) (Rep.below I.o O4 lz lz (by simp)) (qq ((F.block _ (qx H.o)).trans H.o) rfl));clear F;unfold yj at x;by_cases hk:qN it b0=0
     . have z:=U (show qY v y b0 st=(it.items,⟨y :: st.asked,0⟩) by unfold qY;rw [J3 (by simp [B.o]),HL.o];obtain ⟨q1,q2⟩:=lf hk;simp only;rw [J3 (by simp [q1]),J3 q2]);rw [show kH it b0=it.items by unfold kH;rw [J8 hk],hk] at x;clear hk;go_wp2_with fail;refine x.o.mono ?_;clear x;rintro e G ⟨al,cl,rfl,P,R,q⟩;have a:=U (O2 i q);have d:=U (f.o.below a.o);have a0:=U R;have V:=U P;have a1:=O0 (w.heap.size<(A.alloc (.cells #[.int .u8 it.kind,.int .i64 it.n,.string it.t,.slice an' it.names.length cn',.slice ai' it.items.length ci'] 25)).heap.size) (by have:=g.o.size;simp;omega);have X:=O0 (m<w.heap.size) (by obtain ⟨D,n,h,_⟩:=f.o.map;exact h.lt);clear q i R P;have d5:=qq d.o.obj (j:=5) rfl;have s:Go.keyOf Tryz.prog 9 (.string y)=some (.string y.data.toList):=keyOf_string_mk Y6 (by unfold maxLen;omega);obtain ⟨D,n,u,hn,hD⟩:=d.o.map;obtain ⟨c,E,a4,a5,a2⟩:=hD.2 y;obtain ⟨c',a3,p,_⟩:=u.lookup_int jC H7 K8 (kR _) s;rw [E] at p;simp only [zd1,ze1,zc8] at p;subst p;have HD:=U (hD.cons y c E);have W:=U s;have Y:=U u;clear hD E a2 s u;go_wp2_with (at_mapUpdate;refine zc3 _ rfl _ _ _ 150 rfl 9 3 jC H7 _ m n D rfl Y.o (by unfold maxLen;omega) _ _ _ rfl rfl W.o _ [] (plainElem_int K8 (WalkArith.wf_i64 (by omega))) ?_);intro S hown3 hgrow3;have l:=U (d.o.ask y hgrow3 hown3 (by omega) HD.o);have J:=O0 (Touch (fun b=>b=o\/b=m) w S) (⟨by rw [hgrow3.os,a.o.os],by rw [hgrow3.tape,a.o.tape],by rw [hgrow3.output,a.o.output],J1 a.o.size hgrow3.size,fun k hk hs=>by rw [hgrow3.block k (Y5 hk a.o.size) (fun e=>hs (.inr (Y9 e))),a.o.block k hk]⟩);have Z:=O0 (zm S w.heap.size S.heap.size al it.items) (a0.o.carry lz hgrow3.size fun b h1 h2=>hgrow3.block b h2 (fun e=>by have:=Y9 e;have:=a1.o;have:=X.o;omega));clear hgrow3 hown3;rw [B.o] at l;go_wp2;go_ret;unfold yk;rw [z.o];exact ⟨⟨al,cl,rfl,V.o,Z.o⟩,l.o,J.o⟩
     . have z:=U (show qY v y b0 st=([],⟨st.asked,qN it b0⟩) by unfold qY;rw [J3 (by simp [B.o]),HL.o];exact lh hk);rw [show kH it b0=[] by unfold kH;rw [J3 hk]] at x;obtain ⟨C,Q⟩:=O1 (qN it b0);rw [<- Q] at x z hk;have a8:(C != 0)=true:=by simpa using hk
       have a9:(C == 0)=false:=by simpa using hk
       clear hk Q;go_wp2_with fail;refine x.o.mono ?_;clear x;rintro e G ⟨al,cl,rfl,-,-,q⟩;have a:=U (O2 i q);have d:=U (f.o.below a.o);clear q i;have L:G.cell? ⟨o,6,none⟩=some (.int .i64 0):=(qq (j:=6) d.o.obj rfl).trans (by rw [B.o];rfl);have K:G.cell? ⟨o,0,none⟩=some (.int .u8 5):=(qq (j:=0) d.o.obj rfl).trans (by rw [f.o.kind];rfl);have M:G.frozen? ⟨o,6,none⟩=false:=by simp [World.frozen?,d.o.obj]
       go_wp2_with fail
       refine (xz o C _ L K M).mono ?_;clear L K M;rintro e S ⟨rfl,rfl⟩;have l:=U (d.o.fail C);have J:=O0 (Touch (fun b=>b=o\/b=m) w (G.setCell ⟨o,6,none⟩ (.int .i64 C))) ((Touch.of_below a.o lz).setCell (.inl (.inl rfl)) _);go_wp2;go_ret;exact bK z.o l.o J.o
   . have z:=U (show qY v y b0 st=([],⟨st.asked,6⟩) by unfold qY;rw [J3 (by simp [B.o]),show v.look y=none from xU _ _ _ hno]);unfold zeroAgg;have a:=O0 (Below w.heap.size w (A.alloc (.cells #[.int .u8 0,.int .i64 0,.string ⟨#[]⟩,.slice none 0 0,.slice none 0 0] 25))) (g.o.alloc g.o.size _);have d:=U (f.o.below a.o);clear hno g;have L:(A.alloc (.cells #[.int .u8 0,.int .i64 0,.string ⟨#[]⟩,.slice none 0 0,.slice none 0 0] 25)).cell? ⟨o,6,none⟩=some (.int .i64 0):=(qq (j:=6) d.o.obj rfl).trans (by rw [B.o];rfl);have K:(A.alloc (.cells #[.int .u8 0,.int .i64 0,.string ⟨#[]⟩,.slice none 0 0,.slice none 0 0] 25)).cell? ⟨o,0,none⟩=some (.int .u8 5):=(qq (j:=0) d.o.obj rfl).trans (by rw [f.o.kind];rfl);have M:(A.alloc (.cells #[.int .u8 0,.int .i64 0,.string ⟨#[]⟩,.slice none 0 0,.slice none 0 0] 25)).frozen? ⟨o,6,none⟩=false:=by simp [World.frozen?,d.o.obj]
     go_wp2_with fail
     refine (xz o 6 _ L K M).mono ?_;clear L K M;rintro e S ⟨rfl,rfl⟩;have l:=U (d.o.fail 6);have J:=O0 (Touch (fun b=>b=o\/b=m) w ((A.alloc (.cells #[.int .u8 0,.int .i64 0,.string ⟨#[]⟩,.slice none 0 0,.slice none 0 0] 25)).setCell ⟨o,6,none⟩ (.int .i64 6))) ((Touch.of_below a.o lz).setCell (.inl (.inl rfl)) _);go_wp2;go_ret;exact bK z.o l.o J.o
 . have a6:(st.err == 0)=false:=by simpa using he
   have a7:(st.err != 0)=true:=by simpa using he
   have z:=U (show qY v y b0 st=([],st) by unfold qY;rw [J8 he]);have B:=U he;clear he;go_enter Tryz.func127,Tryz.ntmps127;go_wp2_with fail;refine (q7 o st.err 5 w T c0 (fun _=>rfl)).mono ?_;rintro r w' ⟨rfl,rfl⟩;go_wp2;go_ret;exact bK z.o f.o (Touch.refl _ _)
theorem Z4 {o m lo hi:Nat} {v:JV} {an ai:Option Addr} {cn ci:Nat} {st:PS} {w:World} (y:ByteArray) (P:Nat) (h:zE o m lo hi v an ai cn ci st w) (S:y.size<=4294967296) (Q:st.asked.length<=4294967296) :
 Calls Tryz.prog 67 #[.pointer (some ⟨o,0,none⟩),.string y,.int .i64 P] w fun e w'=>(∃a c,e=.returned (.slice a (qY v y P st).1.length c)/\(qY v y P st).1.length<=c/\zm w' w.heap.size w'.heap.size a (qY v y P st).1)/\wU o m lo hi v an ai cn ci (qY v y P st).2 w w':=by
 have g:Below w.heap.size w (w.alloc (.cells #[.int .i64 P] 3)):=O4;have u:=U (show Calls Tryz.prog 127 #[.pointer (some ⟨o,0,none⟩),.string y,.func (.func 128) #[] #[.pointer (some ⟨w.heap.size,0,none⟩)]] (w.alloc (.cells #[.int .i64 P] 3)) (fun e w'=>(∃a c,e=.returned (.slice a (qY v y P st).1.length c)/\(qY v y P st).1.length<=c/\zm w' w.heap.size w'.heap.size a (qY v y P st).1)/\wU o m lo hi v an ai cn ci (qY v y P st).2 w w') by
  have f:Touch (fun b=>b=o\/b=m) w (w.alloc (.cells #[.int .i64 P] 3)):=Touch.of_below g lz;rcases h with h|⟨⟨d,c6,k,c0⟩,j,h3,h4⟩
  . refine (oL o m lo hi v an ai cn ci y P st _ (h.below g) S Q w.heap.size (J2 w _)).mono ?_;rintro e w' ⟨⟨a,c,F,K,G⟩,H,I⟩;exact ⟨⟨a,c,F,K,G.carry g.size lz (fun _ _ _=>rfl)⟩,.inl H,f.trans (I.mono fun _ _ h=>h)⟩
  . obtain ⟨i,l⟩:=O1 (w.alloc (.cells #[.int .i64 P] 3));rw [<- l] at g f ⊢;have q:=O0 (zE o m lo hi v an ai cn ci st i) ((zE.below (.inr ⟨⟨d,c6,k,c0⟩,j,h3,h4⟩) g));have J:i.cell? ⟨o,6,none⟩=some (.int .i64 st.err):=by rw [g.cell j];exact c6
    have E:i.cell? ⟨o,0,none⟩=some (.int .u8 k):=by rw [g.cell j];exact c0
    have M:(st.err == 0)=false:=by simpa using d
    have N:(st.err != 0)=true:=by simpa using d
    have C:=U d;have s:=U f;have D:=U (show qY v y P st=([],st) by unfold qY;rw [J8 d]);clear d c6 c0 l g f;go_enter Tryz.func127,Tryz.ntmps127;go_wp2_with fail;refine (q7 o st.err k i J E (fun h=>absurd h C.o)).mono ?_;rintro r w' ⟨rfl,L⟩;subst L;go_wp2;go_ret;rw [D.o];exact ⟨⟨none,0,rfl,J9 _,.inl rfl⟩,q.o,s.o⟩)
 clear h g;obtain ⟨R,x⟩:=O1 (qY v y P st);rw [<- x] at u ⊢;clear x;go_enter Tryz.func67,Tryz.ntmps67;go_wp2_with fail;refine u.o.mono ?_;rintro e w' ⟨⟨a,c,rfl,z,d⟩,j⟩;have p:=U z;clear z;have A:=U d;have B:=U j;clear d j;go_wp2;go_ret;exact ⟨⟨a,c,rfl,p.o,A.o⟩,B.o⟩
structure DelegC where
 x:DelegV
 ia:Option Addr
 ic:Nat
 pa:Option Addr
 pc:Nat
 qa:Option Addr
 qc:Nat
def Qe (q:DelegC):List Value:=[.string q.x.name,.int .i64 q.x.au.thr,.slice q.ia q.x.au.ids.length q.ic,.bool q.x.term,.slice q.pa q.x.paths.length q.pc,.slice q.qa q.x.pres.length q.qc]
theorem oR (q:DelegC):(Qe q).length=6:=rfl
def delP (w:World) (lo hi:Nat) (q:DelegC):Prop:=q.x.au.ids.length<=q.ic/\q.x.paths.length<=q.pc/\q.x.pres.length<=q.qc/\DelegIn w lo hi q.x q.ia q.pa q.qa
theorem yF:bu delP:=fun _ _ _ _ _ hs h=>⟨h.1,h.2.1,h.2.2.1,h.2.2.2.carry lz lz hs⟩
def kJ (T B:Nat) (w:World) (vs:Value) (qs:List DelegC):Prop:=ItemsOwn T 6 B Qe delP w vs qs
theorem kJ.row {T B:Nat} {w:World} {v:Value} {E:List DelegC} {l:List DelegV} (h:kJ T B w v E) (F:E.map (·.x)=l):∃a c,v=.slice a l.length c/\l.length<=c/\zh w B w.heap.size a l:=by
 have o:=ItemsOwn.own h;have p:∃a n c,v=.slice a n c:=by
  rcases o.2 with ⟨rfl,_⟩|⟨g,cap,cur,rfl,_⟩
  . exact ⟨_,_,_,rfl⟩
  . exact ⟨_,_,_,rfl⟩
 obtain ⟨a,n,c,rfl⟩:=p;obtain ⟨j,k,f⟩:=ItemsOwn.cells oR h;subst F;subst j;rw [X9];refine ⟨a,c,rfl,k,?_⟩;rcases f with f|⟨g,rfl,hg,hlt,hf,hc⟩
 . exact .inl (by rw [f];rfl)
 . refine .inr ⟨g,0,rfl,hg,hlt,fun i hi=>?_⟩;have d:i<E.length:=by simpa using hi
   obtain ⟨D,m,r,s,C,u,y,z,A⟩:=ItemsOwn.each h E[i] (X6 d);have e:(E.map (·.x))[i]=E[i].x:=N2 ..;rw [e];have b:=fun q (hq:q<6)=>hc i d q hq;simp only [ze8];exact ⟨E[i].ia,E[i].ic,E[i].pa,E[i].pc,E[i].qa,E[i].qc,b 0 (by decide),b 1 (by decide),b 2 (by decide),b 3 (by decide),b 4 (by decide),b 5 (by decide),u,y,z,A.carry r s (fun _ _ _=>rfl)⟩
def QQ:ByteArray:=⟨#[120,47,42]⟩
def vS:ByteArray:=⟨#[120,47,121]⟩
def pxN:ByteArray:=⟨#[120]⟩
def Xa:ByteArray:=⟨#[47,120]⟩
def pzN:ByteArray:=⟨#[122]⟩
def pcN:ByteArray:=⟨#[99]⟩
def ve (n p:ByteArray) (last:Bool):DelegV:=⟨n,Zd 97,last,[p],[]⟩
def exD:DelegsV:=⟨[],[ve raN QQ false,ve bbN oX true,ve pcN vS false],jW⟩
def exE:DelegsV:=⟨[],[ve pcN vS true,ve raN QQ false],jW⟩
def exBin:DelegsV:=⟨[],[],⟨2,ppN,Zd 97⟩⟩
theorem pF:qL exD=true/\qL exE=true/\qL exBin=true:=by rw [qO,qO,qO];decide +kernel
theorem oN:(jr runes vS exD.roles).map (·.name)=[raN,pcN]/\(jr runes pzN exD.roles).map (·.name)=[bbN]/\(jr runes vS exE.roles).map (·.name)=[pcN]:=by decide +kernel
theorem oS:qG vS=true/\qG pzN=true/\qG pxN=true/\qG Xa=false:=by decide +kernel
theorem yv:(xv runes exD vS).map (·.name)=[raN,pcN]/\(xv runes exD pzN).map (·.name)=[bbN]/\(xv runes exE vS).map (·.name)=[pcN]/\(xv runes exBin vS).map (·.name)=[zP ppN 2 (jN vS 2)]:=by obtain ⟨d,e,f⟩:=pF;obtain ⟨g,h,i,j⟩:=oS;obtain ⟨a,b,c⟩:=oN;unfold xv;rw [d,e,f,g,h];exact ⟨a,b,c,rfl⟩
def xy (p:List Int) (r:Int) (f:Nat->Bool) (k i:Nat):Bool :=
 (decide (i<k) && (decide (i<p.length/\p.getD i 0=42/\r≠47) && f i)) || (decide (i<=k) && (decide (0<i/\i<=p.length/\p.getD (i - 1) 0≠42/\j7 (p.getD (i - 1) 0) r=true) && f (i - 1)))
theorem nZ (p:List Int) (r:Int) (f:Nat->Bool) (i:Nat):xy p r f 0 i=false:=by
 unfold xy;by_cases h:i<=0
 . obtain rfl:i=0:=by omega
   simp
 . simp [h]
theorem nX (p:List Int) (r:Int) (f:Nat->Bool) (i:Nat):xy p r f p.length i=wX p r f i:=by
 unfold xy wX;by_cases h1:i<p.length
 . rw [X0 h1,X0 (show i<=p.length by omega),Y1,Y1]
 . by_cases h2:i<=p.length
   . rw [J5 h1,X0 h2,Y1,V8,J5 (p:=i<p.length/\p.getD i 0=42/\r≠47) (fun h=>h1 h.1),V8]
   . rw [J5 h1,J5 h2,V8,V8,J5 (p:=i<p.length/\p.getD i 0=42/\r≠47) (fun h=>h1 h.1),J5 (p:=0<i/\_) (fun h=>h2 h.2.1),V8,V8]
theorem hU (p:List Int) (r:Int) (f:Nat->Bool) (k:Nat):xy p r f (k+1) k=((decide (k<p.length/\p.getD k 0=42/\r≠47) && f k) || xy p r f k k):=by unfold xy;rw [X0 (show k<k+1 by omega),X0 (show k<=k+1 by omega),J5 (show ¬k<k by omega),X0 (show k<=k by omega)];simp only [Y1,V8,ze9]
theorem uq (p:List Int) (r:Int) (f:Nat->Bool) (k:Nat):xy p r f (k+1) (k+1)=(decide (k<p.length/\p.getD k 0≠42/\j7 (p.getD k 0) r=true) && f k):=by unfold xy;rw [J5 (show ¬k+1<k+1 by omega),X0 (show k+1<=k+1 by omega)];simp only [Y1,V8,ze9,Nat.add_sub_cancel,Nat.succ_le_iff,Nat.zero_lt_succ,zc8]
theorem mZ (p:List Int) (r:Int) (f:Nat->Bool) (k:Nat):xy p r f k (k+1)=false:=by unfold xy;rw [J5 (show ¬k+1<k by omega),J5 (show ¬k+1<=k by omega)];rfl
theorem yH (p:List Int) (r:Int) (f:Nat->Bool) (k i:Nat) (h:i≠k) (a:i≠k+1):xy p r f (k+1) i=xy p r f k i:=by unfold xy;rw [show decide (i<k+1)=decide (i<k) from by rw [decide_eq_decide];omega,show decide (i<=k+1)=decide (i<=k) from by rw [decide_eq_decide];omega]
theorem nJ {p:List Int} {r:Int} {f:Nat->Bool} {k:Nat} (h:f k=false\/(p.getD k 0=42/\r=47)\/(p.getD k 0≠42/\j7 (p.getD k 0) r=false)) (i:Nat):xy p r f (k+1) i=xy p r f k i:=by
 by_cases h1:i=k
 . subst h1;rw [hU];rcases h with h|⟨-,h⟩|⟨h,-⟩
   . rw [h,N1,ze9]
   . rw [J5 (fun e=>e.2.2 h),V8,ze9]
   . rw [J5 (fun e=>h e.2.1),V8,ze9]
 . by_cases h2:i=k+1
   . subst h2;rw [uq,mZ];rcases h with h|⟨h,-⟩|⟨-,h⟩
     . rw [h,N1]
     . rw [J5 (fun e=>e.2.1 h),V8]
     . rw [J5 (fun e=>by rw [h] at e;exact absurd e.2.2 (by decide)),V8]
   . exact yH p r f k i h1 h2
theorem nK {p:List Int} {r:Int} {f:Nat->Bool} {k:Nat} (c:k<p.length) (b:f k=true) (a:p.getD k 0=42) (d:r≠47) (i:Nat):xy p r f (k+1) i=if i=k then true else xy p r f k i:=by
 by_cases h1:i=k
 . subst h1;rw [hU,X0 ⟨c,a,d⟩,b,J8 rfl];rfl
 . rw [J3 h1];by_cases h2:i=k+1
   . subst h2;rw [uq,mZ,J5 (fun e=>e.2.1 a),V8]
   . exact yH p r f k i h1 h2
theorem aI {p:List Int} {r:Int} {f:Nat->Bool} {k:Nat} (c:k<p.length) (b:f k=true) (a:p.getD k 0≠42) (d:j7 (p.getD k 0) r=true) (i:Nat):xy p r f (k+1) i=if i=k+1 then true else xy p r f k i:=by
 by_cases h2:i=k+1
 . subst h2;rw [uq,X0 ⟨c,a,d⟩,b,J8 rfl];rfl
 . rw [J3 h2];by_cases h1:i=k
   . subst h1;rw [hU,J5 (fun e=>a e.2.1),V8,ze9]
   . exact yH p r f k i h1 h2
theorem oA (p:List Int) (f:Nat->Bool) (k:Nat) (a:k<p.length):gOn p f (k+1)=(f (k+1) || (decide (p.getD k 0=42) && gOn p f k)):=by rw [gOn];congr 2;rw [decide_eq_decide];exact ⟨fun h=>h.2,fun h=>⟨a,h⟩⟩
theorem uz (s:ByteArray) (n i:Nat) (h:i<s.size):kr s (n+1) i=((Utf8.decode s i).1:Int) :: kr s n (i+(Utf8.decode s i).2):=by rw [kr,J8 h];rfl
theorem mX (s:ByteArray) (n i:Nat) (h:¬i<s.size):kr s n i=[]:=by
 cases n with
 | zero=>rfl
 | succ n=>rw [kr,J3 h]
theorem width_pos (s:ByteArray) (a:Nat):1<=(Utf8.decode s a).2:=by
 simp only [Utf8.decode]
 repeat' split
 all_goals simp_all
theorem aO (p:List Int) (r:Int) (s:List Int) (f:Nat->Bool):uQ p (r :: s) f=uQ p s (gOn p (wX p r f)):=rfl
theorem oT (p:List Int) (f:Nat->Bool):uQ p [] f=f:=rfl
theorem aE {w:World} {e T:Nat} {v:Value} {l:List Int} (h:w.ownsRow e T 1 v l.length (l.map (Value.int .i32))):∃a c,v=.slice a l.length c/\zR w e w.heap.size a l:=by
 rcases h.2 with ⟨b,h2⟩|⟨g,cap,cur,hv,hg,hh,hn,hc,hz,ht⟩
 . have d:l=[]:=by
    cases l with
    | nil=>rfl
    | cons a r=>simp at h2
   subst d;exact ⟨none,0,b,.inl rfl⟩
 . refine ⟨some ⟨g,0,none⟩,cap,hv,.inr ⟨g,0,rfl,hg,qx hh,fun i hi=>?_⟩⟩;rw [ze8];simp only [World.cell?,hh];have b:(cur.toList.take (l.length * 1))[i]?=(l.map (Value.int .i32))[i]?:=by rw [ht]
   rw [List.getElem?_take_of_lt (by omega),List.getElem?_map,V3 hi] at b;rw [Array.getElem?_toList] at b;simpa [List.getD_eq_getElem?_getD,List.getElem?_eq_getElem hi] using b
theorem nV {w:World} {A T n b k i:Nat} {f:Nat->Bool} {x:Int} (l:w.rowIs A T n (fun i=>.bool (f i))) (j:w.cell? ⟨b,k+i,none⟩=some (.int .i32 x)):b≠A:=by
 intro e;subst e;obtain ⟨c,a,d,g⟩:=l;by_cases hlt:k+i<n
 . have h:=(World.rowIs.cell ⟨c,a,d,g⟩ hlt).symm.trans j;cases h
 . rw [World.cell?] at j;simp only [a] at j;rw [za7 (by omega)] at j;cases j
theorem sF (p:List Int) (pa:Option Addr) (pc A c:Nat) (f:Nat->Bool) (w:World) (hp:zR w 0 w.heap.size pa p) (hl:p.length<=4294967296) (hr:w.rowIs A 4 (p.length+1) (fun i=>.bool (f i))) :
 Calls Tryz.prog 198 #[.slice (some ⟨A,0,none⟩) (p.length+1) c,.slice pa p.length pc] w fun e w'=>e=.returned (.slice (some ⟨A,0,none⟩) (p.length+1) c)/\Touch (· = A) w w'/\w'.rowIs A 4 (p.length+1) (fun i=>.bool (gOn p f i)):=by
 have K:=U (show ∀k (z:k<p.length),∃b d,pa=some ⟨b,d,none⟩/\b<w.heap.size/\b≠A/\w.cell? ⟨b,d+k,none⟩=some (.int .i32 (p.getD k 0)) from fun k z=>by
  obtain ⟨b,d,r,u,T,L⟩:=hp.at k z;exact ⟨b,d,r,T,nV hr L,L⟩)
 have J:=U (fun k (z:k<p.length)=>oA p f k z);obtain ⟨n,I⟩:=O1 p.length;have Y:=U I;have E:=U hr;rw [<- I] at hl E K J ⊢;clear I hp hr;go_enter Tryz.func198,Tryz.ntmps198;go_wp2;go_loopw [5] (fun i wr=>∃(k:Nat) (g:Nat->Bool),k<=n/\i=.int .i64 k/\wr.rowIs A 4 (n+1) (fun i=>.bool (g i))/\(∀i,i<=n->g i=if i<=k then gOn p f i else f i)/\Touch (· = A) w wr) (fun i _=>n - (intOf i).toNat)
 case atStart =>
  refine ⟨0,f,by omega,rfl,E.o,fun i hi=>?_,Touch.refl _ _⟩;by_cases h:i<=0
  . rw [J8 h,show i=0 by omega];rfl
  . rw [J3 h]
 case round =>
  obtain ⟨k,g,z,rfl,s,N,B⟩:=hrel;have a:=U s;have l:=U N;have y:=U B;clear s N B E;by_cases hlt:k<n
  . obtain ⟨b,d,V,W,G,M⟩:=K.o k hlt;subst V;have H:wr.cell? ⟨b,d+k,none⟩=some (.int .i32 (p.getD k 0)):=(y.o.cell (p:=⟨b,d+k,none⟩) W G).trans M;have R:=a.o.cell (i:=k) (by omega);have fz:=a.o.frozen (k+1);have Z:=a.o.cell (i:=k+1) (by omega);have m1:(0:Int)<=(k:Int):=by omega
    have m2:(k:Int)<(n:Int):=by omega
    have X:decide ((k:Int)<(n:Int))=true:=by simpa using hlt
    have m4:(k:Int)<(n:Int)+1:=by omega
    have m5:IntKind.i64.wrap ((k:Int)+1)=(k:Int)+1:=V0 _ (by omega);have m6:(0:Int)<=(k:Int)+1:=by omega
    have m7:(k:Int)+1<(n:Int)+1:=by omega
    have m8:((k:Int)+1).toNat=k+1:=by omega
    have o:=l.o k (by omega);rw [J8 (J9 k)] at o;have m:=U (J.o k hlt);obtain ⟨x,Q⟩:=O1 (p.getD k 0);rw [<- Q] at H m;obtain ⟨q,P⟩:=O1 (gOn p f k);rw [<- P] at m o;rw [o] at R
    -- the next row,when nothing is put
    have j:=U (show (decide (x=42) && q)=false->∀i,i<=n->g i=if i<=k+1 then gOn p f i else f i from fun h0 i hi=>by
     rw [l.o i hi];by_cases r:i<=k
     . rw [J8 r,J8 (by omega)]
     . rw [J3 r];by_cases u:i<=k+1
       . rw [J8 u,show i=k+1 by omega,m.o,h0,Bool.or_false]
       . rw [J3 u])
    have v:=U (show (decide (x=42) && q)=true->∀i,i<=n->(fun i=>if i=k+1 then true else g i) i=if i<=k+1 then gOn p f i else f i from fun h0 i hi=>by
     dsimp only;by_cases r:i=k+1
     . rw [J8 r,J8 (by omega),r,m.o,h0,Bool.or_true]
     . rw [J3 r,l.o i hi];by_cases u:i<=k
       . rw [J8 u,J8 (by omega)]
       . rw [J3 u,J3 (by omega)])
    clear Q P o M;cases q with
    | false =>
     go_wp2;go_roundw
     case rel=>exact ⟨k+1,g,by omega,by go_num,a.o,j.o (N1 _),y.o⟩
     case measure=>simp [intOf];omega
    | true =>
     by_cases h42:x=42
     . have S:(x == 42)=true:=by rw [h42];rfl
       have F:decide (x=42)=true:=X0 h42;have D:=U (v.o (by rw [F];rfl));clear h42;go_wp2;go_roundw
       case rel =>
        refine ⟨k+1,_,by omega,by go_num,(a.o.set (k+1) (.bool true)).congr (g:=fun i=>.bool ((fun i=>if i=k+1 then true else g i) i)) (fun i _=>?_),D.o,y.o.setCell (.inl rfl) _⟩;dsimp only;by_cases h:i=k+1
        . rw [J8 h,J8 h]
        . rw [J3 h,J3 h]
       case measure=>simp [intOf];omega
     . have S:(x == 42)=false:=by simpa using h42
       have F:decide (x=42)=false:=J5 h42;have C:=U (j.o (by rw [F];rfl));clear h42;go_wp2;go_roundw
       case rel=>exact ⟨k+1,g,by omega,by go_num,a.o,C.o,y.o⟩
       case measure=>simp [intOf];omega
  . obtain rfl:k=n:=by omega
    have X:decide ((k:Int)<(k:Int))=false:=by simp
    go_wp2;go_ret;exact ⟨rfl,y.o,a.o.congr (fun i hi=>by rw [l.o i (by omega),J8 (by omega)])⟩
theorem lu:∀(w n:Nat),jR (w+1) n=qH (n / 16 ^ w % 16) :: jR w n
 | 0,n=>by rw [jR,jR,jR,Nat.pow_zero,Nat.div_one,List.nil_append]
 | w+1,n=>by rw [jR,lu w (n / 16),jR,Nat.div_div_eq_div_mul,Nat.pow_succ,Nat.mul_comm (16 ^ w) 16,List.cons_append]
theorem QZ {a b c d i:Nat} (_h0:a<256) (e:b<256) (f:c<256) (g:d<256) (hi:i<32) :
 (a * 16777216+b * 65536+c * 256+d) / 2 ^ (31 - i) % 2=([a,b,c,d].getD (i / 8) 0) / 2 ^ (7 - i % 8) % 2:=by
 have:i=0\/i=1\/i=2\/i=3\/i=4\/i=5\/i=6\/i=7\/i=8\/i=9\/i=10\/i=11\/i=12\/i=13\/i=14\/i=15\/i=16\/i=17\/i=18\/i=19\/i=20\/i=21\/i=22\/i=23\/i=24\/i=25\/i=26\/i=27\/i=28\/i=29\/i=30\/i=31:=by omega
 rcases this with rfl|rfl|rfl|rfl|rfl|rfl|rfl|rfl|rfl|rfl|rfl|rfl|rfl|rfl|rfl|rfl|rfl|rfl|rfl|rfl|rfl|rfl|rfl|rfl|rfl|rfl|rfl|rfl|rfl|rfl|rfl|rfl <;>
  simp only [Nat.reducePow,Nat.reduceSub,Nat.reduceDiv,Nat.reduceMod,List.getD_cons_zero,List.getD_cons_succ] <;> omega
theorem tq (path:ByteArray):jN path 0=0:=by unfold jN;exact Nat.div_eq_of_lt (sV path)
theorem tz (path:ByteArray) {i:Nat} (hi:i<32):jN path (i+1)=2 * jN path i+((zk path.data.toList).getD (i / 8) 0).toNat / 2 ^ (7 - i % 8) % 2:=by
 have a:((zk path.data.toList).getD (i / 8) 0).toNat / 2 ^ (7 - i % 8) % 2=uK path / 2 ^ (31 - i) % 2:=by
  unfold uK;rw [QZ (UInt8.toNat_lt _) (UInt8.toNat_lt _) (UInt8.toNat_lt _) (UInt8.toNat_lt _) hi];have:i / 8=0\/i / 8=1\/i / 8=2\/i / 8=3:=by omega
  rcases this with h|h|h|h <;> rw [h] <;> simp only [List.getD_cons_zero,List.getD_cons_succ]
 rw [a];unfold jN;generalize uK path=T;rw [show 32 - (i+1)=31 - i from by omega,show 32 - i=31 - i+1 from by omega,Nat.pow_succ,<- Nat.div_div_eq_div_mul];omega
