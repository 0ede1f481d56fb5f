import Derived.Test.YtkllbdlebjomkaaGreatDoorTn22
import Derived.Test.YtkllbdlebjomkaaGreatDoorTn18
set_option maxHeartbeats 2000000
set_option maxRecDepth 100000

namespace Go.Proofs.YtkllbdlebjomkaaGreatDoor
open Go.RowKit Go.WideMaps Go.Maps
def qD (it:JV) (most:Nat):Int:=if it.kind≠4 then 10 else if most<it.items.length then 5 else 0
def zl (it:JV) (most:Nat):Int:=if qD it most≠0 then qD it most else if it.items.all (fun x=>decide (x.kind=3)) then 0 else 10
def vh (it:JV) (most:Nat):List ByteArray:=if zl it most=0 then it.items.map JV.t else []
theorem dP {it:JV} {a:Nat} (e:zl it a=0):it.kind=4/\¬a<it.items.length/\it.items.all (fun x=>decide (x.kind=3))=true:=by
 unfold zl qD at e;by_cases h1:it.kind=4
 . by_cases h2:a<it.items.length
   . simp [h1,h2] at e
   . cases h3:it.items.all (fun x=>decide (x.kind=3)) with
     | true=>exact ⟨h1,h2,rfl⟩
     | false=>simp [h1,h2,h3] at e
 . simp [h1] at e
theorem dF {it:JV} {a:List ByteArray} {b:Nat} {X:List ByteArray × PS} (e:¬zl it b=0) :
 (if it.kind≠4 then ([],(⟨a,10⟩:PS)) else if b<it.items.length then ([],⟨a,5⟩) else if it.items.all (fun x=>decide (x.kind=3)) then X else ([],⟨a,10⟩))=([],⟨a,zl it b⟩):=by
 unfold zl qD at e ⊢;by_cases h1:it.kind=4
 . by_cases h2:b<it.items.length
   . simp [h1,h2]
   . cases h3:it.items.all (fun x=>decide (x.kind=3)) with
     | true=>simp [h1,h2,h3] at e
     | false=>simp [h1,h2]
 . simp [h1]
theorem fW {it:JV} {a:Nat} (h:qD it a≠0):zl it a=qD it a:=by unfold zl;rw [J3 h]
theorem uH (it:JV) (f:Nat) (an' ai':Option Addr) (cn' ci':Nat) (w:World) :
 Calls Tryz.prog 105 #[.agg #[.int .u8 it.kind,.int .i64 it.n,.string it.t,.slice an' it.names.length cn',.slice ai' it.items.length ci'],.int .i64 f] w fun e w'=>e=.returned (.tuple #[if qD it f=0 then .slice ai' it.items.length ci' else .slice none 0 0,.int .i64 (qD it f)])/\O5 w w':=by
 have a:=O0 (O5 w (w.alloc (.cells #[.int .u8 it.kind,.int .i64 it.n,.string it.t,.slice an' it.names.length cn',.slice ai' it.items.length ci'] 26))) O4;by_cases hk:it.kind=4
 . by_cases h1:f<it.items.length
   . have b:=U (show qD it f=5 by unfold qD;rw [Z6 (by simp [hk]),J3 h1]);rw [b.o,Z6 (show ¬(5:Int)=0 by decide)];rw [hk] at a ⊢;have c:decide ((f:Int)<(it.items.length:Int))=true:=by simpa using h1
     clear hk;go_enter Tryz.func105,Tryz.ntmps105;go_wp2;go_ret2;exact ⟨rfl,a.o⟩
   . have b:=U (show qD it f=0 by unfold qD;rw [Z6 (by simp [hk]),Z6 h1]);rw [b.o,J3 rfl];rw [hk] at a ⊢;have c:decide ((f:Int)<(it.items.length:Int))=false:=by simpa using h1
     clear hk;go_enter Tryz.func105,Tryz.ntmps105;go_wp2;go_ret2;exact ⟨rfl,a.o⟩
 . have b:=U (show qD it f=10 by unfold qD;rw [J3 hk]);rw [b.o,Z6 (show ¬(10:Int)=0 by decide)];have d:(it.kind != 4)=true:=by simpa using hk
   clear hk;go_enter Tryz.func105,Tryz.ntmps105;go_wp2;go_ret2;exact ⟨rfl,a.o⟩
theorem tE {w:World} {B T b n c:Nat} {a:Option Addr} {l:List Value} (h:w.ownsRow B T b (.slice a n c) n l):n<=c:=by
 rcases h.2 with ⟨hv,h0⟩|⟨g,cap,cur,hv,hg,hh,hc,r⟩
 . omega
 . simp only [Y2] at hv;omega
def vG (it:JV) (most:Nat) (w:World) (e:Ending) (w':World):Prop :=
 ∃a c,e=.returned (.tuple #[.slice a (vh it most).length c,.int .i64 (zl it most)])/\(vh it most).length<=c/\qy w' w.heap.size w'.heap.size a (vh it most)/\O5 w w'
theorem uU {it:JV} {a:Nat} {w w':World} {b:Int} (h:zl it a=b) (c:b≠0) (d:O5 w w'):vG it a w (.returned (.tuple #[.slice none 0 0,.int .i64 b])) w':=by unfold vG vh;rw [h,Z6 c];exact ⟨none,0,rfl,J2 _,.inl rfl,d⟩
theorem sA (it:JV) (c9 p1:Nat) (an' ai':Option Addr) (cn' ci' lo:Nat) (w:World) (hN:it.wt<=4294967296) (hR:Rep w lo w.heap.size it (.agg #[.int .u8 it.kind,.int .i64 it.n,.string it.t,.slice an' it.names.length cn',.slice ai' it.items.length ci'])) (c1:w.cell? ⟨p1,0,none⟩=some (.int .i64 c9)) :
 Calls Tryz.prog 169 #[.agg #[.int .u8 it.kind,.int .i64 it.n,.string it.t,.slice an' it.names.length cn',.slice ai' it.items.length ci'],.pointer (some ⟨p1,0,none⟩)] w (vG it c9 w):=by
 obtain ⟨c0,c3,b7,c2,hx,-,-,-,h4⟩:=hR.parts;simp only [G9,H8,K0,Y2,za5,zb6] at hx;obtain ⟨⟨rfl,rfl⟩,rfl,rfl⟩:=hx;obtain ⟨W,Z⟩:=O1 (w.alloc (.cells #[.int .u8 it.kind,.int .i64 it.n,.string it.t,.slice an' it.names.length cn',.slice ai' it.items.length ci'] 26));have T:=O7 Z
 have d1:W.cell? ⟨p1,0,none⟩=some (.int .i64 c9):=by rw [T.cell (G2 w _ c1)];exact c1
 have u:=O9 Z
 have G:=U (uH it c9 an' ai' cn' ci' W);have o:=U T;have H4:=U h4;have Y:=U Z;have J:=U (show it.items.length<=4294967296 by have:=it.wt_bd;omega);obtain ⟨x0,x1,x2,x3,x4⟩:=bx5 u;clear T c1 Z h4 hR u hN;obtain ⟨E,s⟩:=O1 it.items.length;rw [<- s] at G J x4 ⊢;rw [<- s] at Y;have p:=U s;clear s;by_cases hie:qD it c9=0
 case neg =>
  have L:=U (fW hie);obtain ⟨er,A⟩:=O1 (qD it c9);rw [Z6 hie,<- A] at G;rw [<- A] at L hie;have h1:(er != 0)=true:=by simpa using hie
  have a8:=U hie;clear hie A;go_enter Tryz.func169,Tryz.ntmps169;go_upto_region 1 with fail
  rw [<- Y.o];go_wp2_with fail;refine G.o.mono ?_;rintro e F ⟨rfl,g⟩;have d:=U (O2 o g);clear g;go_wp2;go_ret2;exact uU L.o a8.o d.o
 have L:=U (show zl it c9=if it.items.all (fun x=>decide (x.kind=3)) then 0 else 10 by unfold zl;rw [Z6 (by simp [hie])]);rw [J3 hie,hie] at G;clear hie;obtain ⟨i2,b2,u,b4,b5⟩:=V2 gb;go_enter Tryz.func169,Tryz.ntmps169;go_upto_region 1 with fail
 rw [<- Y.o];go_wp2_with fail;refine G.o.mono ?_;clear G;rintro e F ⟨rfl,g⟩;have d:=U (O2 o g);clear g Y x0 x1 x2 x3 x4 d1;go_wp2;go_loopw [7,9,21] (fun vs _ i wr=>∃(k:Nat),k<=E/\i=.int .i64 k/\(∀j (h:j<it.items.length),j<k->it.items[j].kind=3)/\wr.ownsRow F.heap.size 9 1 vs k (((it.items.map JV.t).take k).map .string)/\O5 F wr) (fun _ _ i _=>E - (intOf i).toNat)
 case atStart=>exact ⟨0,by omega,rfl,fun j _ h=>by omega,Y3 _ _ _ _,Z0 _ _⟩
 case round =>
  obtain ⟨k,hk,rfl,S,a,c⟩:=hrel;have B:((it.items.map JV.t).take k).length=k:=by rw [M3,X7,<- p.o];omega
  obtain ⟨am,cm,V,-,-⟩:=j9 a B.symm;rw [B] at V;subst V;clear B;have I:Hid (O5 w wr):=O2 d c;have a0:=U c;have HO:=U a;have H:=U S;clear S;by_cases hlt:k<E
  . have v:k<it.items.length:=by rw [<- p.o];exact hlt
    obtain ⟨b,b6,P,R,N,Q,rfl,_,c4,y0,y1,y2,y3,y4,_⟩:=(H4.o.below I.o lz lz I.o.size).get k v;have b0:=U (show ((it.items.map JV.t).take (k+1)).map Value.string=((it.items.map JV.t).take k).map .string ++ [.string it.items[k].t] by rw [Z7 (by simpa using v),K6];simp);have y:=O0 (it.items[k].kind≠3->it.items.all (fun x=>decide (x.kind=3))=false) (fun h=>zb2.2 ⟨it.items[k],J8 _,by simpa using h⟩);have z:=U (show it.items[k].kind=3->∀j (h:j<it.items.length),j<k+1->it.items[j].kind=3 from fun h j hj hjk=>by
     rcases N1.1 hjk with h1|h1
     . exact H.o j hj h1
     . subst h1;exact h)
    obtain ⟨vo,b3⟩:=O1 ((Value.slice (some ⟨b,b6,none⟩) E ci'));clear vo b3;generalize it.items[k]=x at *;have hz:F.heap.size<=wr.heap.size:=c.size;obtain ⟨m,f⟩:=O1 (wr.alloc (.cells #[.int .u8 x.kind,.int .i64 x.n,.string x.t,.slice P x.names.length R,.slice N x.items.length Q] 26));have r:=O7 f
    have D:=O9 f
    have a1:=U (a0.o.trans (r.mono hz));have K:=U (qV HO.o r);have a2:=U (O2 I r);have c7:F.heap.size<=m.heap.size:=by rw [f];simp;omega
    have M:=U f;have z0:=qq D (j:=0) rfl;have z2:=qq D (j:=2) rfl;clear c a r D f;by_cases hk3:x.kind=3
    . have a6:=U (z.o hk3);have h3:(x.kind != 3)=false:=by simpa using hk3
      have c6:=J.o;clear hk3 y z;go_upto_region 8 with fail
      rw [<- M.o];go_wp2_with (at_builtin;refine Y1 _ rfl (.tmp 28) (.tmp 31) 23 rfl F.heap.size 9 i2 _ 1 16 M8 b2 u b4 b5 rfl (by decide) (.slice am k cm) k (((it.items.map JV.t).take k).map .string) rfl (K.o.alloc _) ⟨m.heap.size,0,none⟩ 1 1 [.string x.t] rfl rfl (J9 (cs:=#[.string x.t]) (t:=9) (fr:=(0,0)) (Z5 m _)) (by simp [Value.oneCell']) (by omega) (by unfold maxLen;omega) (by omega) (by simp;omega) (m.heap.size+1) (by simp) ?_;intro g1 cap2 w6 hown6 hgrow6 hat6 hlt6;have a9:=U hown6;have a4:=U hgrow6;clear hown6 hgrow6 hat6);go_roundw
      case rel => refine ⟨k+1,by omega,by go_num,a6.o,?_,below_grown (a1.o.alloc (by omega) _) (by simp;omega) a4.o (fun b T=>(K.o.lt b T).1)⟩;rw [b0.o];exact a9.o
      case measure=>simp [intOf];omega
    . have q:=U (show zl it c9=10 by rw [L.o,y.o hk3];rfl);have h3:(x.kind != 3)=true:=by simpa using hk3
      clear hk3 y z;go_upto_region 8 with fail
      rw [<- M.o];go_wp2;go_ret2;exact uU q.o (by decide) a2.o
  . obtain rfl:k=E:=by omega
    have q:=U (show zl it c9=0 by
     rw [L.o,J3];refine X9.2 fun x hx=>?_;obtain ⟨j,hj,rfl⟩:=Y0 hx;simpa using H.o j hj (by rw [p.o];exact hj))
    have l:(it.items.map JV.t).length=k:=by rw [X7,p.o]
    rw [J4 (Y5 l)] at a;obtain ⟨a5,c5,C,_,X⟩:=j9 a l.symm;rw [l] at C;simp only [Y2,za5] at C;obtain ⟨rfl,rfl⟩:=C;have b1:=U X;have a7:=U l;have a3:=U (tE a);clear a X c l;go_wp2;go_ret2;have e1:vh it c9=it.items.map JV.t:=by unfold vh;rw [J3 q.o]
    unfold vG;rw [e1,q.o,a7.o];exact ⟨am,cm,rfl,a3.o,b1.o.carry d.o.size lz (fun _ _ _=>rfl),I.o⟩
def vA (o m lo hi:Nat) (v:JV) (an ai:Option Addr) (cn ci:Nat) (y:ByteArray) (most:Nat) (st:PS) (w:World) (e:Ending) (w':World):Prop :=
 (∃a c,e=.returned (.slice a (qv v y most st).1.length c)/\(qv v y most st).1.length<=c/\qy w' w.heap.size w'.heap.size a (qv v y most st).1)/\PickAt o m lo hi v an ai cn ci (qv v y most st).2 w'/\Touch (fun b=>b=o\/b=m) w w'
theorem yS {o m lo hi:Nat} {v:JV} {an ai:Option Addr} {cn ci:Nat} {y:ByteArray} {a:Nat} {st c:PS} {w w':World} (h:qv v y a st=([],c)) (d:PickAt o m lo hi v an ai cn ci c w') (e:Touch (fun b=>b=o\/b=m) w w'):vA o m lo hi v an ai cn ci y a st w (.returned (.slice none 0 0)) w':=by unfold vA;rw [h];exact ⟨⟨none,0,rfl,J2 _,.inl rfl⟩,d,e⟩
theorem sI (o m lo hi:Nat) (v:JV) (an ai:Option Addr) (cn ci:Nat) (y:ByteArray) (b2:Nat) (st:PS) (w:World) (hP:PickAt o m lo hi v an ai cn ci st w) (hy:y.size<=4294967296) (ha:st.asked.length<=4294967296) (p1:Nat) (g1:w.heap[p1]?=some (.cells #[.int .i64 b2] 3 (0,0))) :
 Calls Tryz.prog 168 #[.pointer (some ⟨o,0,none⟩),.string y,.func (.func 169) #[] #[.pointer (some ⟨p1,0,none⟩)]] w (vA o m lo hi v an ai cn ci y b2 st w):=by
 have f:=U hP;have H:=U g1;clear hP g1;have W:=qq f.o.obj (j:=6) rfl;have c0:w.cell? ⟨o,0,none⟩=some (.int .u8 5):=(qq (j:=0) f.o.obj rfl).trans (by rw [f.o.kind];rfl);by_cases he:st.err=0
 . rw [he] at W;have B:=U he;clear he;have c1:=qq f.o.obj (j:=1) rfl;have c2:=qq f.o.obj (j:=2) rfl;have c3:=qq f.o.obj (j:=3) rfl;have c4:=qq f.o.obj (j:=4) rfl;have HR:=U f.o.rep;rw [f.o.kind] at HR;have HG:=U (jB v y _ w lo hi f.o.wt f.o.pos f.o.le HR.o f.o.kind f.o.rise f.o.len);go_enter Tryz.func168,Tryz.ntmps168;go_wp2_with fail;refine (zx o 0 5 w W c0 (fun _=>rfl)).mono ?_;rintro r w' ⟨rfl,rfl⟩;go_wp2_with fail;refine HG.o.mono ?_;clear HG c0 c1 c2 c3 c4 W;rintro e A ⟨hh,Q⟩;have g:=U Q;clear Q;rcases hh with ⟨r,hr1,hr2,hre,an',cn',ai',ci',rfl,hrep⟩|⟨hno,rfl⟩
   . have HL:=U (jd f.o.rise r hr1 hr2 hre);have I:=U hrep;have a3:=U (show v.items[r].wt<=4294967296 by have h1:=JV.wts_get v.items r hr2;have h2:=v.wt_bd;have h3:=f.o.wt;omega);clear hre hrep;generalize v.items[r]=it at *;have F:O5 w (A.alloc (.cells #[.int .u8 it.kind,.int .i64 it.n,.string it.t,.slice an' it.names.length cn',.slice ai' it.items.length ci'] 26)):=g.o.alloc g.o.size _;have i:=U F;have x:=U (sA it b2 p1 an' ai' cn' ci' w.heap.size (A.alloc (.cells #[.int .u8 it.kind,.int .i64 it.n,.string it.t,.slice an' it.names.length cn',.slice ai' it.items.length ci'] 26)) a3.o (I.o.below O4 lz lz (by simp)) (qq ((F.block _ (qz H.o)).trans H.o) rfl));clear F;unfold vG at x;by_cases hk:zl it b2=0
     . have z:=U (show qv v y b2 st=(it.items.map JV.t,⟨y :: st.asked,0⟩) by unfold qv;rw [Z6 (by simp [B.o]),HL.o];obtain ⟨q1,q2,q3⟩:=dP hk;simp only;rw [Z6 (by simp [q1]),Z6 q2,J3 q3]);rw [show vh it b2=it.items.map JV.t by unfold vh;rw [J3 hk],hk] at x;clear hk;obtain ⟨L,hL⟩:=O1 (it.items.map JV.t);rw [<- hL] at x z;clear hL;go_wp2_with fail;refine x.o.mono ?_;clear x;rintro e G ⟨al,cl,rfl,R,T,q⟩;have X:=U R;clear R;have a:=U (O2 i q);have d:=U (f.o.below a.o);have a2:=U T;have K:=O0 (w.heap.size<(A.alloc (.cells #[.int .u8 it.kind,.int .i64 it.n,.string it.t,.slice an' it.names.length cn',.slice ai' it.items.length ci'] 26)).heap.size) (by have:=g.o.size;simp;omega);have Z:=O0 (m<w.heap.size) (by obtain ⟨D,n,h,_⟩:=f.o.map;exact h.lt);clear q i T;have d5:=qq d.o.obj (j:=5) rfl;have s:Go.keyOf Tryz.prog 9 (.string y)=some (.string y.data.toList):=keyOf_string_mk Y9 (by unfold maxLen;omega);obtain ⟨D,n,u,hn,hD⟩:=d.o.map;obtain ⟨c,E,a6,a7,a4⟩:=hD.2 y;obtain ⟨c',a5,p,_⟩:=u.lookup_int jl V9 Y6 (kO _) s;rw [E] at p;simp only [za0,zb7,za5] at p;subst p;have HD:=U (hD.cons y c E);have Y:=U s;have a0:=U u;clear hD E a4 s u;go_wp2_with (at_mapUpdate;refine M4 _ rfl _ _ _ 115 rfl 9 3 jl V9 _ m n D rfl a0.o (by unfold maxLen;omega) _ _ _ rfl rfl Y.o _ [] (plainElem_int Y6 (WalkArith.wf_i64 (by omega))) ?_);intro V hown3 hgrow3;have l:=U (d.o.ask y hgrow3 hown3 (by omega) HD.o);have J:=O0 (Touch (fun b=>b=o\/b=m) w V) (⟨by rw [hgrow3.os,a.o.os],by rw [hgrow3.tape,a.o.tape],by rw [hgrow3.output,a.o.output],Z3 a.o.size hgrow3.size,fun k hk hs=>by rw [hgrow3.block k (X1 hk a.o.size) (fun e=>hs (.inr (X2 e))),a.o.block k hk]⟩);have a1:=O0 (qy V w.heap.size V.heap.size al L) (a2.o.carry (Nat.le_of_lt K.o) hgrow3.size fun b h1 h2=>hgrow3.block b h2 (fun e=>by have:=X2 e;have:=K.o;have:=Z.o;omega));clear hgrow3 hown3;rw [B.o] at l;go_wp2;go_ret;unfold vA;rw [z.o];exact ⟨⟨al,cl,rfl,X.o,a1.o⟩,l.o,J.o⟩
     . have z:=U (show qv v y b2 st=([],⟨st.asked,zl it b2⟩) by unfold qv;rw [Z6 (by simp [B.o]),HL.o];exact dF hk);rw [show vh it b2=[] by unfold vh;rw [Z6 hk]] at x;obtain ⟨C,S⟩:=O1 (zl it b2);rw [<- S] at x z hk;have b0:(C != 0)=true:=by simpa using hk
       have b1:(C == 0)=false:=by simpa using hk
       clear hk S;go_wp2_with fail;refine x.o.mono ?_;clear x;rintro e G ⟨al,cl,rfl,-,-,q⟩;have a:=U (O2 i q);have d:=U (f.o.below a.o);clear q i;have N:G.cell? ⟨o,6,none⟩=some (.int .i64 0):=(qq (j:=6) d.o.obj rfl).trans (by rw [B.o];rfl);have M:G.cell? ⟨o,0,none⟩=some (.int .u8 5):=(qq (j:=0) d.o.obj rfl).trans (by rw [f.o.kind];rfl);have P:G.frozen? ⟨o,6,none⟩=false:=by simp [World.frozen?,d.o.obj]
       go_wp2_with fail
       refine (zR o C _ N M P).mono ?_;clear N M P;rintro e V ⟨rfl,rfl⟩;have l:=U (d.o.fail C);have J:=O0 (Touch (fun b=>b=o\/b=m) w (G.setCell ⟨o,6,none⟩ (.int .i64 C))) ((Touch.of_below a.o lz).setCell (.inl (.inl rfl)) _);go_wp2;go_ret;exact yS z.o l.o J.o
   . have z:=U (show qv v y b2 st=([],⟨st.asked,6⟩) by unfold qv;rw [Z6 (by simp [B.o]),show v.look y=none from xu _ _ _ hno]);unfold zeroAgg;have a:=O0 (O5 w (A.alloc (.cells #[.int .u8 0,.int .i64 0,.string ⟨#[]⟩,.slice none 0 0,.slice none 0 0] 26))) (g.o.alloc g.o.size _);have d:=U (f.o.below a.o);clear hno g;have N:(A.alloc (.cells #[.int .u8 0,.int .i64 0,.string ⟨#[]⟩,.slice none 0 0,.slice none 0 0] 26)).cell? ⟨o,6,none⟩=some (.int .i64 0):=(qq (j:=6) d.o.obj rfl).trans (by rw [B.o];rfl);have M:(A.alloc (.cells #[.int .u8 0,.int .i64 0,.string ⟨#[]⟩,.slice none 0 0,.slice none 0 0] 26)).cell? ⟨o,0,none⟩=some (.int .u8 5):=(qq (j:=0) d.o.obj rfl).trans (by rw [f.o.kind];rfl);have P:(A.alloc (.cells #[.int .u8 0,.int .i64 0,.string ⟨#[]⟩,.slice none 0 0,.slice none 0 0] 26)).frozen? ⟨o,6,none⟩=false:=by simp [World.frozen?,d.o.obj]
     go_wp2_with fail
     refine (zR o 6 _ N M P).mono ?_;clear N M P;rintro e V ⟨rfl,rfl⟩;have l:=U (d.o.fail 6);have J:=O0 (Touch (fun b=>b=o\/b=m) w ((A.alloc (.cells #[.int .u8 0,.int .i64 0,.string ⟨#[]⟩,.slice none 0 0,.slice none 0 0] 26)).setCell ⟨o,6,none⟩ (.int .i64 6))) ((Touch.of_below a.o lz).setCell (.inl (.inl rfl)) _);go_wp2;go_ret;exact yS z.o l.o J.o
 . have a8:(st.err == 0)=false:=by simpa using he
   have a9:(st.err != 0)=true:=by simpa using he
   have z:=U (show qv v y b2 st=([],st) by unfold qv;rw [J3 he]);have B:=U he;clear he;go_enter Tryz.func168,Tryz.ntmps168;go_wp2_with fail;refine (zx o st.err 5 w W c0 (fun _=>rfl)).mono ?_;rintro r w' ⟨rfl,rfl⟩;go_wp2;go_ret;exact yS z.o f.o (Touch.refl _ _)
theorem rZ {o m lo hi:Nat} {v:JV} {an ai:Option Addr} {cn ci:Nat} {st:PS} {w:World} (y:ByteArray) (P:Nat) (h:zH o m lo hi v an ai cn ci st w) (S:y.size<=4294967296) (Q:st.asked.length<=4294967296) :
 Calls Tryz.prog 128 #[.pointer (some ⟨o,0,none⟩),.string y,.int .i64 P] w fun e w'=>(∃a c,e=.returned (.slice a (qv v y P st).1.length c)/\(qv v y P st).1.length<=c/\qy w' w.heap.size w'.heap.size a (qv v y P st).1)/\wC o m lo hi v an ai cn ci (qv v y P st).2 w w':=by
 have g:O5 w (w.alloc (.cells #[.int .i64 P] 3)):=O4;have x:=U (show Calls Tryz.prog 168 #[.pointer (some ⟨o,0,none⟩),.string y,.func (.func 169) #[] #[.pointer (some ⟨w.heap.size,0,none⟩)]] (w.alloc (.cells #[.int .i64 P] 3)) (fun e w'=>(∃a c,e=.returned (.slice a (qv v y P st).1.length c)/\(qv v y P st).1.length<=c/\qy w' w.heap.size w'.heap.size a (qv v y P st).1)/\wC o m lo hi v an ai cn ci (qv v y P st).2 w w') by
  have f:Touch (fun b=>b=o\/b=m) w (w.alloc (.cells #[.int .i64 P] 3)):=Touch.of_below g lz;rcases h with h|⟨⟨d,c6,k,c0⟩,j,h3,h4⟩
  . refine (sI o m lo hi v an ai cn ci y P st _ (h.below g) S Q w.heap.size (Z5 w _)).mono ?_;rintro e w' ⟨⟨a,c,F,K,G⟩,H,I⟩;exact ⟨⟨a,c,F,K,G.carry g.size lz (fun _ _ _=>rfl)⟩,.inl H,f.trans (I.mono fun _ _ h=>h)⟩
  . obtain ⟨i,l⟩:=O1 (w.alloc (.cells #[.int .i64 P] 3));rw [<- l] at g f ⊢;have s:=O0 (zH o m lo hi v an ai cn ci st i) ((zH.below (.inr ⟨⟨d,c6,k,c0⟩,j,h3,h4⟩) g));have J:i.cell? ⟨o,6,none⟩=some (.int .i64 st.err):=by rw [g.cell j];exact c6
    have E:i.cell? ⟨o,0,none⟩=some (.int .u8 k):=by rw [g.cell j];exact c0
    have M:(st.err == 0)=false:=by simpa using d
    have N:(st.err != 0)=true:=by simpa using d
    have C:=U d;have u:=U f;have D:=U (show qv v y P st=([],st) by unfold qv;rw [J3 d]);clear d c6 c0 l g f;go_enter Tryz.func168,Tryz.ntmps168;go_wp2_with fail;refine (zx o st.err k i J E (fun h=>absurd h C.o)).mono ?_;rintro r w' ⟨rfl,L⟩;subst L;go_wp2;go_ret;rw [D.o];exact ⟨⟨none,0,rfl,J2 _,.inl rfl⟩,s.o,u.o⟩)
 clear h g;obtain ⟨R,z⟩:=O1 (qv v y P st);rw [<- z] at x ⊢;clear z;go_enter Tryz.func128,Tryz.ntmps128;go_wp2_with fail;refine x.o.mono ?_;rintro e w' ⟨⟨a,c,rfl,p,d⟩,j⟩;have q:=U p;clear p;have A:=U d;have B:=U j;clear d j;go_wp2;go_ret;exact ⟨⟨a,c,rfl,q.o,A.o⟩,B.o⟩
theorem iq {o m lo hi:Nat} {v:JV} {an ai:Option Addr} {cn ci:Nat} {st:PS} {w:World} (y:ByteArray) (h:zH o m lo hi v an ai cn ci st w) :
 Calls Tryz.prog 32 #[.pointer (some ⟨o,0,none⟩),.string y] w fun e w'=>e=.returned (.bool (qI v y st))/\O5 w w':=by
 rcases h with h|⟨h1,h2,h3,h4⟩
 . exact tP o m lo hi v an ai cn ci y st w h
 . refine (Qg o st.err y w h1).mono fun e w' ⟨e1,e2⟩=>?_;subst e2;have:qI v y st=false:=by unfold qI;simp [h1.1]
   rw [this];exact ⟨e1,Z0 _ _⟩
def vx (k n:Int):Bool:=if k=1 then decide (n=1) else false
theorem iz (k n:Int) (t:ByteArray) (a b:Value) (w:World) :
 Calls Tryz.prog 171 #[.agg #[.int .u8 k,.int .i64 n,.string t,a,b]] w fun e w'=>e=.returned (.tuple #[.bool (vx k n),.int .i64 (if k=1 then 0 else 10)])/\O5 w w':=by
 have d:=O0 (O5 w (w.alloc (.cells #[.int .u8 k,.int .i64 n,.string t,a,b] 26))) O4;by_cases hk:k=1
 . subst hk;have c:=O0 (vx 1 n=decide (n=1)) rfl;go_enter Tryz.func171,Tryz.ntmps171;go_wp2;go_ret2;exact ⟨by rw [c.o] <;> rfl,d.o⟩
 . have c:=U (show vx k n=false by unfold vx;rw [Z6 hk]);rw [c.o,Z6 hk];have f:(k == 1)=false:=by simpa using hk
   have g:(k != 1)=true:=by simpa using hk
   clear hk;go_enter Tryz.func171,Tryz.ntmps171;go_wp2;go_ret2;exact ⟨rfl,d.o⟩
def gl (o m lo hi:Nat) (v:JV) (an ai:Option Addr) (cn ci:Nat) (y:ByteArray) (st:PS) (w:World) (e:Ending) (w':World):Prop :=
 e=.returned (.bool (zq v y st).1)/\PickAt o m lo hi v an ai cn ci (zq v y st).2 w'/\Touch (fun b=>b=o\/b=m) w w'
theorem bz {o m lo hi:Nat} {v:JV} {an ai:Option Addr} {cn ci:Nat} {y:ByteArray} {st a:PS} {w w':World} (h:zq v y st=(false,a)) (c:PickAt o m lo hi v an ai cn ci a w') (d:Touch (fun b=>b=o\/b=m) w w'):gl o m lo hi v an ai cn ci y st w (.returned (.bool false)) w':=by unfold gl;rw [h];exact ⟨rfl,c,d⟩
theorem ij (o m lo hi:Nat) (v:JV) (an ai:Option Addr) (cn ci:Nat) (y:ByteArray) (st:PS) (w:World) (hP:PickAt o m lo hi v an ai cn ci st w) (hy:y.size<=4294967296) (ha:st.asked.length<=4294967296) :
 Calls Tryz.prog 170 #[.pointer (some ⟨o,0,none⟩),.string y,.func (.func 171) #[] #[]] w (gl o m lo hi v an ai cn ci y st w):=by
 have f:=U hP;clear hP;have M:=qq f.o.obj (j:=6) rfl;have Q:w.cell? ⟨o,0,none⟩=some (.int .u8 5):=(qq (j:=0) f.o.obj rfl).trans (by rw [f.o.kind];rfl);by_cases he:st.err=0
 . rw [he] at M;have z:=U he;clear he;have c1:=qq f.o.obj (j:=1) rfl;have c2:=qq f.o.obj (j:=2) rfl;have c3:=qq f.o.obj (j:=3) rfl;have c4:=qq f.o.obj (j:=4) rfl;have X:=U f.o.rep;rw [f.o.kind] at X;have V:=U (jB v y _ w lo hi f.o.wt f.o.pos f.o.le X.o f.o.kind f.o.rise f.o.len);go_enter Tryz.func170,Tryz.ntmps170;go_wp2_with fail;refine (zx o 0 5 w M Q (fun _=>rfl)).mono ?_;rintro r w' ⟨rfl,rfl⟩;go_wp2_with fail;refine V.o.mono ?_;clear V Q c1 c2 c3 c4 M;rintro e B ⟨hh,J⟩;have i:=U J;clear J;rcases hh with ⟨r,hr1,hr2,hre,an',cn',ai',ci',rfl,hrep⟩|⟨hno,rfl⟩
   . have W:=U (jd f.o.rise r hr1 hr2 hre);clear hre hrep;generalize v.items[r]=it at *;have K:O5 w (B.alloc (.cells #[.int .u8 it.kind,.int .i64 it.n,.string it.t,.slice an' it.names.length cn',.slice ai' it.items.length ci'] 26)):=i.o.alloc i.o.size _;have g:=U K;have u:=U (iz it.kind it.n it.t (.slice an' it.names.length cn') (.slice ai' it.items.length ci') (B.alloc (.cells #[.int .u8 it.kind,.int .i64 it.n,.string it.t,.slice an' it.names.length cn',.slice ai' it.items.length ci'] 26)));clear K;by_cases hk:it.kind=1
     . have x:=U (show zq v y st=(decide (it.n=1),⟨y :: st.asked,0⟩) by unfold zq;rw [Z6 (by simp [z.o]),W.o];simp [hk]);rw [J3 hk] at u;have I:vx it.kind it.n=decide (it.n=1):=by unfold vx;rw [J3 hk]
       rw [I] at u;clear hk I;obtain ⟨L,Y⟩:=O1 (decide (it.n=1));rw [<- Y] at u x;clear Y;go_wp2_with fail;refine u.o.mono ?_;clear u;rintro e C ⟨rfl,p⟩;have a:=U (O2 g p);have d:=U (f.o.below a.o);clear p g;have d5:=qq d.o.obj (j:=5) rfl;have q:Go.keyOf Tryz.prog 9 (.string y)=some (.string y.data.toList):=keyOf_string_mk Y9 (by unfold maxLen;omega);obtain ⟨D,n,s,hn,R⟩:=d.o.map;obtain ⟨c,A,a0,a1,S⟩:=R.2 y;obtain ⟨c',Z,l,_⟩:=s.lookup_int jl V9 Y6 (kO _) q;rw [A] at l;simp only [za0,zb7,za5] at l;subst l;have HD:=U (R.cons y c A);have N:=U q;have P:=U s;clear R A S q s;go_wp2_with (at_mapUpdate;refine M4 _ rfl _ _ _ 115 rfl 9 3 jl V9 _ m n D rfl P.o (by unfold maxLen;omega) _ _ _ rfl rfl N.o _ [] (plainElem_int Y6 (WalkArith.wf_i64 (by omega))) ?_);intro T hown3 hgrow3;have h:=U (d.o.ask y hgrow3 hown3 (by omega) HD.o);have E:=O0 (Touch (fun b=>b=o\/b=m) w T) (⟨by rw [hgrow3.os,a.o.os],by rw [hgrow3.tape,a.o.tape],by rw [hgrow3.output,a.o.output],Z3 a.o.size hgrow3.size,fun k hk hs=>by rw [hgrow3.block k (X1 hk a.o.size) (fun e=>hs (.inr (X2 e))),a.o.block k hk]⟩);clear hgrow3 hown3;rw [z.o] at h;go_wp2;go_ret;unfold gl;rw [x.o];exact ⟨rfl,h.o,E.o⟩
     . have x:=U (show zq v y st=(false,⟨st.asked,10⟩) by unfold zq;rw [Z6 (by simp [z.o]),W.o];simp [hk]);rw [Z6 hk] at u;have I:vx it.kind it.n=false:=by unfold vx;rw [Z6 hk]
       rw [I] at u;clear hk I;go_wp2_with fail;refine u.o.mono ?_;clear u;rintro e C ⟨rfl,p⟩;have a:=U (O2 g p);have d:=U (f.o.below a.o);clear p g;have G:C.cell? ⟨o,6,none⟩=some (.int .i64 0):=(qq (j:=6) d.o.obj rfl).trans (by rw [z.o];rfl);have F:C.cell? ⟨o,0,none⟩=some (.int .u8 5):=(qq (j:=0) d.o.obj rfl).trans (by rw [f.o.kind];rfl);have H:C.frozen? ⟨o,6,none⟩=false:=by simp [World.frozen?,d.o.obj]
       go_wp2_with fail
       refine (zR o 10 _ G F H).mono ?_;clear G F H;rintro e T ⟨rfl,rfl⟩;have h:=U (d.o.fail 10);have E:=O0 (Touch (fun b=>b=o\/b=m) w (C.setCell ⟨o,6,none⟩ (.int .i64 10))) ((Touch.of_below a.o lz).setCell (.inl (.inl rfl)) _);go_wp2;go_ret;exact bz x.o h.o E.o
   . have x:=U (show zq v y st=(false,⟨st.asked,6⟩) by unfold zq;rw [Z6 (by simp [z.o]),show v.look y=none from xu _ _ _ hno]);unfold zeroAgg;have a:=O0 (O5 w (B.alloc (.cells #[.int .u8 0,.int .i64 0,.string ⟨#[]⟩,.slice none 0 0,.slice none 0 0] 26))) (i.o.alloc i.o.size _);have d:=U (f.o.below a.o);clear hno i;have G:(B.alloc (.cells #[.int .u8 0,.int .i64 0,.string ⟨#[]⟩,.slice none 0 0,.slice none 0 0] 26)).cell? ⟨o,6,none⟩=some (.int .i64 0):=(qq (j:=6) d.o.obj rfl).trans (by rw [z.o];rfl);have F:(B.alloc (.cells #[.int .u8 0,.int .i64 0,.string ⟨#[]⟩,.slice none 0 0,.slice none 0 0] 26)).cell? ⟨o,0,none⟩=some (.int .u8 5):=(qq (j:=0) d.o.obj rfl).trans (by rw [f.o.kind];rfl);have H:(B.alloc (.cells #[.int .u8 0,.int .i64 0,.string ⟨#[]⟩,.slice none 0 0,.slice none 0 0] 26)).frozen? ⟨o,6,none⟩=false:=by simp [World.frozen?,d.o.obj]
     go_wp2_with fail
     refine (zR o 6 _ G F H).mono ?_;clear G F H;rintro e T ⟨rfl,rfl⟩;have h:=U (d.o.fail 6);have E:=O0 (Touch (fun b=>b=o\/b=m) w ((B.alloc (.cells #[.int .u8 0,.int .i64 0,.string ⟨#[]⟩,.slice none 0 0,.slice none 0 0] 26)).setCell ⟨o,6,none⟩ (.int .i64 6))) ((Touch.of_below a.o lz).setCell (.inl (.inl rfl)) _);go_wp2;go_ret;exact bz x.o h.o E.o
 . have a2:(st.err == 0)=false:=by simpa using he
   have a3:(st.err != 0)=true:=by simpa using he
   have x:=U (show zq v y st=(false,st) by unfold zq;rw [J3 he]);have z:=U he;clear he;go_enter Tryz.func170,Tryz.ntmps170;go_wp2_with fail;refine (zx o st.err 5 w M Q (fun _=>rfl)).mono ?_;rintro r w' ⟨rfl,rfl⟩;go_wp2;go_ret;exact bz x.o f.o (Touch.refl _ _)
theorem Q0 {o m lo hi:Nat} {v:JV} {an ai:Option Addr} {cn ci:Nat} {st:PS} {w:World} (y:ByteArray) (h:zH o m lo hi v an ai cn ci st w) (z:y.size<=4294967296) (x:st.asked.length<=4294967296) :
 Calls Tryz.prog 130 #[.pointer (some ⟨o,0,none⟩),.string y] w fun e w'=>e=.returned (.bool (zq v y st).1)/\wC o m lo hi v an ai cn ci (zq v y st).2 w w':=by
 have c:=U (show Calls Tryz.prog 170 #[.pointer (some ⟨o,0,none⟩),.string y,.func (.func 171) #[] #[]] w (fun e w'=>e=.returned (.bool (zq v y st).1)/\wC o m lo hi v an ai cn ci (zq v y st).2 w w') by
  rcases h with h|⟨⟨h1,c6,k,c0⟩,a,h3,h4⟩
  . refine (ij o m lo hi v an ai cn ci y st _ h z x).mono ?_;rintro e w' ⟨j,l,p⟩;exact ⟨j,.inl l,p⟩
  . have b:=O0 (zH o m lo hi v an ai cn ci st w) (.inr ⟨⟨h1,c6,k,c0⟩,a,h3,h4⟩);have s:(st.err == 0)=false:=by simpa using h1
    have u:(st.err != 0)=true:=by simpa using h1
    have g:=U h1;have i:=U (show zq v y st=(false,st) by unfold zq;rw [J3 h1]);clear h1;go_enter Tryz.func170,Tryz.ntmps170;go_wp2_with fail;refine (zx o st.err k w c6 c0 (fun h=>absurd h g.o)).mono ?_;rintro r w' ⟨rfl,q⟩;subst q;go_wp2;go_ret;rw [i.o];exact ⟨rfl,b.o,Touch.refl _ _⟩)
 clear h;obtain ⟨R,d⟩:=O1 (zq v y st);rw [<- d] at c ⊢;clear d;go_enter Tryz.func130,Tryz.ntmps130;go_wp2_with fail;refine c.o.mono ?_;rintro e w' ⟨rfl,a⟩;have f:=U a;clear a;go_wp2;go_ret;exact ⟨rfl,f.o⟩
def kU (it:JV) (most:Nat):List JV:=if qD it most=0 then it.items else []
theorem dH {it:JV} {a:Nat} (e:qD it a=0):it.kind=4/\¬a<it.items.length:=by
 unfold qD at e;by_cases h1:it.kind=4
 . by_cases h2:a<it.items.length
   . simp [h1,h2] at e
   . exact ⟨h1,h2⟩
 . simp [h1] at e
theorem dU {it:JV} {a:List ByteArray} {b:Nat} {X:List JV × PS} (e:¬qD it b=0) :
 (if it.kind≠4 then ([],(⟨a,10⟩:PS)) else if b<it.items.length then ([],⟨a,5⟩) else X)=([],⟨a,qD it b⟩):=by
 unfold qD at e ⊢;by_cases h1:it.kind=4
 . by_cases h2:b<it.items.length
   . simp [h1,h2]
   . simp [h1,h2] at e
 . simp [h1]
def yg (it:JV) (most lo:Nat) (w:World) (e:Ending) (w':World):Prop :=
 ∃a c,e=.returned (.tuple #[.slice a (kU it most).length c,.int .i64 (qD it most)])/\(kU it most).length<=c/\zy w' lo w'.heap.size a (kU it most)/\O5 w w'
theorem ik (it:JV) (z B:Nat) (an' ai':Option Addr) (cn' ci' lo:Nat) (w:World) (C:Rep w lo w.heap.size it (.agg #[.int .u8 it.kind,.int .i64 it.n,.string it.t,.slice an' it.names.length cn',.slice ai' it.items.length ci'])) (A:w.cell? ⟨B,0,none⟩=some (.int .i64 z)) :
 Calls Tryz.prog 104 #[.agg #[.int .u8 it.kind,.int .i64 it.n,.string it.t,.slice an' it.names.length cn',.slice ai' it.items.length ci'],.pointer (some ⟨B,0,none⟩)] w (yg it z lo w):=by
 have f:it.items.length<=ci'/\zy w lo w.heap.size ai' it.items:=(by obtain ⟨m,p,l,o,j,x,u,y,v⟩:=C.parts;simp only [G9,H8,K0,Y2] at j;obtain ⟨-,-,-,-,⟨r,-,s⟩,-⟩:=j;rw [r,s];exact ⟨u,v⟩);have h:O5 w (w.alloc (.cells #[.int .u8 it.kind,.int .i64 it.n,.string it.t,.slice an' it.names.length cn',.slice ai' it.items.length ci'] 26)):=O4;have q:(w.alloc (.cells #[.int .u8 it.kind,.int .i64 it.n,.string it.t,.slice an' it.names.length cn',.slice ai' it.items.length ci'] 26)).cell? ⟨B,0,none⟩=some (.int .i64 z):=by rw [h.cell (G2 w _ A)];exact A
 have c:=U (fun w=>uH it z an' ai' cn' ci' w);have i:=U h;have b:=U f;clear C h f A;go_enter Tryz.func104,Tryz.ntmps104;go_wp2_with fail;refine (c.o _).mono ?_;clear c;rintro e w' ⟨rfl,d⟩;have a:=U (O2 i d);clear d q;by_cases hk:qD it z=0
 . have k:=U hk;have g:=U (show kU it z=it.items by unfold kU;rw [J3 hk]);rw [hk];simp only [if_true];clear hk;go_wp2;go_ret2;unfold yg;rw [g.o,k.o];exact ⟨ai',ci',rfl,b.o.1,b.o.2.below a.o lz lz a.o.size,a.o⟩
 . have g:=U (show kU it z=[] by unfold kU;rw [Z6 hk]);simp only [Z6 hk];clear hk;go_wp2;go_ret2;unfold yg;rw [g.o];exact ⟨none,0,rfl,J2 _,.inl rfl,a.o⟩
def yb (o m lo hi:Nat) (v:JV) (an ai:Option Addr) (cn ci:Nat) (y:ByteArray) (most:Nat) (st:PS) (w:World) (e:Ending) (w':World):Prop :=
 (∃a c,e=.returned (.slice a (qW v y most st).1.length c)/\(qW v y most st).1.length<=c/\zy w' w.heap.size w'.heap.size a (qW v y most st).1)/\PickAt o m lo hi v an ai cn ci (qW v y most st).2 w'/\Touch (fun b=>b=o\/b=m) w w'
theorem bj {o m lo hi:Nat} {v:JV} {an ai:Option Addr} {cn ci:Nat} {y:ByteArray} {a:Nat} {st c:PS} {w w':World} (h:qW v y a st=([],c)) (d:PickAt o m lo hi v an ai cn ci c w') (e:Touch (fun b=>b=o\/b=m) w w'):yb o m lo hi v an ai cn ci y a st w (.returned (.slice none 0 0)) w':=by unfold yb;rw [h];exact ⟨⟨none,0,rfl,J2 _,.inl rfl⟩,d,e⟩
theorem iv (o m lo hi:Nat) (v:JV) (an ai:Option Addr) (cn ci:Nat) (y:ByteArray) (b0:Nat) (st:PS) (w:World) (hP:PickAt o m lo hi v an ai cn ci st w) (hy:y.size<=4294967296) (ha:st.asked.length<=4294967296) (p1:Nat) (g1:w.heap[p1]?=some (.cells #[.int .i64 b0] 3 (0,0))) :
 Calls Tryz.prog 103 #[.pointer (some ⟨o,0,none⟩),.string y,.func (.func 104) #[] #[.pointer (some ⟨p1,0,none⟩)]] w (yb o m lo hi v an ai cn ci y b0 st w):=by
 have f:=U hP;have H:=U g1;clear hP g1;have T:=qq f.o.obj (j:=6) rfl;have c0:w.cell? ⟨o,0,none⟩=some (.int .u8 5):=(qq (j:=0) f.o.obj rfl).trans (by rw [f.o.kind];rfl);by_cases he:st.err=0
 . rw [he] at T;have B:=U he;clear he;have c1:=qq f.o.obj (j:=1) rfl;have c2:=qq f.o.obj (j:=2) rfl;have c3:=qq f.o.obj (j:=3) rfl;have c4:=qq f.o.obj (j:=4) rfl;have HR:=U f.o.rep;rw [f.o.kind] at HR;have HG:=U (jB v y _ w lo hi f.o.wt f.o.pos f.o.le HR.o f.o.kind f.o.rise f.o.len);go_enter Tryz.func103,Tryz.ntmps103;go_wp2_with fail;refine (zx o 0 5 w T c0 (fun _=>rfl)).mono ?_;rintro r w' ⟨rfl,rfl⟩;go_wp2_with fail;refine HG.o.mono ?_;clear HG c0 c1 c2 c3 c4 T;rintro e A ⟨hh,N⟩;have g:=U N;clear N;rcases hh with ⟨r,hr1,hr2,hre,an',cn',ai',ci',rfl,hrep⟩|⟨hno,rfl⟩
   . have HL:=U (jd f.o.rise r hr1 hr2 hre);have I:=U hrep;clear hre hrep;generalize v.items[r]=it at *;have F:O5 w (A.alloc (.cells #[.int .u8 it.kind,.int .i64 it.n,.string it.t,.slice an' it.names.length cn',.slice ai' it.items.length ci'] 26)):=g.o.alloc g.o.size _;have i:=U F;have x:=U (ik it b0 p1 an' ai' cn' ci' w.heap.size (A.alloc (.cells #[.int .u8 it.kind,.int .i64 it.n,.string it.t,.slice an' it.names.length cn',.slice ai' it.items.length ci'] 26)) (Rep.below I.o O4 lz lz (by simp)) (qq ((F.block _ (qz H.o)).trans H.o) rfl));clear F;unfold yg at x;by_cases hk:qD it b0=0
     . have z:=U (show qW v y b0 st=(it.items,⟨y :: st.asked,0⟩) by unfold qW;rw [Z6 (by simp [B.o]),HL.o];obtain ⟨q1,q2⟩:=dH hk;simp only;rw [Z6 (by simp [q1]),Z6 q2]);rw [show kU it b0=it.items by unfold kU;rw [J3 hk],hk] at x;clear hk;go_wp2_with fail;refine x.o.mono ?_;clear x;rintro e G ⟨al,cl,rfl,P,R,q⟩;have a:=U (O2 i q);have d:=U (f.o.below a.o);have a0:=U R;have V:=U P;have a1:=O0 (w.heap.size<(A.alloc (.cells #[.int .u8 it.kind,.int .i64 it.n,.string it.t,.slice an' it.names.length cn',.slice ai' it.items.length ci'] 26)).heap.size) (by have:=g.o.size;simp;omega);have X:=O0 (m<w.heap.size) (by obtain ⟨D,n,h,_⟩:=f.o.map;exact h.lt);clear q i R P;have d5:=qq d.o.obj (j:=5) rfl;have s:Go.keyOf Tryz.prog 9 (.string y)=some (.string y.data.toList):=keyOf_string_mk Y9 (by unfold maxLen;omega);obtain ⟨D,n,u,hn,hD⟩:=d.o.map;obtain ⟨c,E,a4,a5,a2⟩:=hD.2 y;obtain ⟨c',a3,p,_⟩:=u.lookup_int jl V9 Y6 (kO _) s;rw [E] at p;simp only [za0,zb7,za5] at p;subst p;have HD:=U (hD.cons y c E);have W:=U s;have Y:=U u;clear hD E a2 s u;go_wp2_with (at_mapUpdate;refine M4 _ rfl _ _ _ 115 rfl 9 3 jl V9 _ m n D rfl Y.o (by unfold maxLen;omega) _ _ _ rfl rfl W.o _ [] (plainElem_int Y6 (WalkArith.wf_i64 (by omega))) ?_);intro S hown3 hgrow3;have l:=U (d.o.ask y hgrow3 hown3 (by omega) HD.o);have J:=O0 (Touch (fun b=>b=o\/b=m) w S) (⟨by rw [hgrow3.os,a.o.os],by rw [hgrow3.tape,a.o.tape],by rw [hgrow3.output,a.o.output],Z3 a.o.size hgrow3.size,fun k hk hs=>by rw [hgrow3.block k (X1 hk a.o.size) (fun e=>hs (.inr (X2 e))),a.o.block k hk]⟩);have Z:=O0 (zy S w.heap.size S.heap.size al it.items) (a0.o.carry lz hgrow3.size fun b h1 h2=>hgrow3.block b h2 (fun e=>by have:=X2 e;have:=a1.o;have:=X.o;omega));clear hgrow3 hown3;rw [B.o] at l;go_wp2;go_ret;unfold yb;rw [z.o];exact ⟨⟨al,cl,rfl,V.o,Z.o⟩,l.o,J.o⟩
     . have z:=U (show qW v y b0 st=([],⟨st.asked,qD it b0⟩) by unfold qW;rw [Z6 (by simp [B.o]),HL.o];exact dU hk);rw [show kU it b0=[] by unfold kU;rw [Z6 hk]] at x;obtain ⟨C,Q⟩:=O1 (qD it b0);rw [<- Q] at x z hk;have a8:(C != 0)=true:=by simpa using hk
       have a9:(C == 0)=false:=by simpa using hk
       clear hk Q;go_wp2_with fail;refine x.o.mono ?_;clear x;rintro e G ⟨al,cl,rfl,-,-,q⟩;have a:=U (O2 i q);have d:=U (f.o.below a.o);clear q i;have L:G.cell? ⟨o,6,none⟩=some (.int .i64 0):=(qq (j:=6) d.o.obj rfl).trans (by rw [B.o];rfl);have K:G.cell? ⟨o,0,none⟩=some (.int .u8 5):=(qq (j:=0) d.o.obj rfl).trans (by rw [f.o.kind];rfl);have M:G.frozen? ⟨o,6,none⟩=false:=by simp [World.frozen?,d.o.obj]
       go_wp2_with fail
       refine (zR o C _ L K M).mono ?_;clear L K M;rintro e S ⟨rfl,rfl⟩;have l:=U (d.o.fail C);have J:=O0 (Touch (fun b=>b=o\/b=m) w (G.setCell ⟨o,6,none⟩ (.int .i64 C))) ((Touch.of_below a.o lz).setCell (.inl (.inl rfl)) _);go_wp2;go_ret;exact bj z.o l.o J.o
   . have z:=U (show qW v y b0 st=([],⟨st.asked,6⟩) by unfold qW;rw [Z6 (by simp [B.o]),show v.look y=none from xu _ _ _ hno]);unfold zeroAgg;have a:=O0 (O5 w (A.alloc (.cells #[.int .u8 0,.int .i64 0,.string ⟨#[]⟩,.slice none 0 0,.slice none 0 0] 26))) (g.o.alloc g.o.size _);have d:=U (f.o.below a.o);clear hno g;have L:(A.alloc (.cells #[.int .u8 0,.int .i64 0,.string ⟨#[]⟩,.slice none 0 0,.slice none 0 0] 26)).cell? ⟨o,6,none⟩=some (.int .i64 0):=(qq (j:=6) d.o.obj rfl).trans (by rw [B.o];rfl);have K:(A.alloc (.cells #[.int .u8 0,.int .i64 0,.string ⟨#[]⟩,.slice none 0 0,.slice none 0 0] 26)).cell? ⟨o,0,none⟩=some (.int .u8 5):=(qq (j:=0) d.o.obj rfl).trans (by rw [f.o.kind];rfl);have M:(A.alloc (.cells #[.int .u8 0,.int .i64 0,.string ⟨#[]⟩,.slice none 0 0,.slice none 0 0] 26)).frozen? ⟨o,6,none⟩=false:=by simp [World.frozen?,d.o.obj]
     go_wp2_with fail
     refine (zR o 6 _ L K M).mono ?_;clear L K M;rintro e S ⟨rfl,rfl⟩;have l:=U (d.o.fail 6);have J:=O0 (Touch (fun b=>b=o\/b=m) w ((A.alloc (.cells #[.int .u8 0,.int .i64 0,.string ⟨#[]⟩,.slice none 0 0,.slice none 0 0] 26)).setCell ⟨o,6,none⟩ (.int .i64 6))) ((Touch.of_below a.o lz).setCell (.inl (.inl rfl)) _);go_wp2;go_ret;exact bj z.o l.o J.o
 . have a6:(st.err == 0)=false:=by simpa using he
   have a7:(st.err != 0)=true:=by simpa using he
   have z:=U (show qW v y b0 st=([],st) by unfold qW;rw [J3 he]);have B:=U he;clear he;go_enter Tryz.func103,Tryz.ntmps103;go_wp2_with fail;refine (zx o st.err 5 w T c0 (fun _=>rfl)).mono ?_;rintro r w' ⟨rfl,rfl⟩;go_wp2;go_ret;exact bj z.o f.o (Touch.refl _ _)
theorem Q1 {o m lo hi:Nat} {v:JV} {an ai:Option Addr} {cn ci:Nat} {st:PS} {w:World} (y:ByteArray) (P:Nat) (h:zH o m lo hi v an ai cn ci st w) (S:y.size<=4294967296) (Q:st.asked.length<=4294967296) :
 Calls Tryz.prog 76 #[.pointer (some ⟨o,0,none⟩),.string y,.int .i64 P] w fun e w'=>(∃a c,e=.returned (.slice a (qW v y P st).1.length c)/\(qW v y P st).1.length<=c/\zy w' w.heap.size w'.heap.size a (qW v y P st).1)/\wC o m lo hi v an ai cn ci (qW v y P st).2 w w':=by
 have g:O5 w (w.alloc (.cells #[.int .i64 P] 3)):=O4;have u:=U (show Calls Tryz.prog 103 #[.pointer (some ⟨o,0,none⟩),.string y,.func (.func 104) #[] #[.pointer (some ⟨w.heap.size,0,none⟩)]] (w.alloc (.cells #[.int .i64 P] 3)) (fun e w'=>(∃a c,e=.returned (.slice a (qW v y P st).1.length c)/\(qW v y P st).1.length<=c/\zy w' w.heap.size w'.heap.size a (qW v y P st).1)/\wC o m lo hi v an ai cn ci (qW v y P st).2 w w') by
  have f:Touch (fun b=>b=o\/b=m) w (w.alloc (.cells #[.int .i64 P] 3)):=Touch.of_below g lz;rcases h with h|⟨⟨d,c6,k,c0⟩,j,h3,h4⟩
  . refine (iv o m lo hi v an ai cn ci y P st _ (h.below g) S Q w.heap.size (Z5 w _)).mono ?_;rintro e w' ⟨⟨a,c,F,K,G⟩,H,I⟩;exact ⟨⟨a,c,F,K,G.carry g.size lz (fun _ _ _=>rfl)⟩,.inl H,f.trans (I.mono fun _ _ h=>h)⟩
  . obtain ⟨i,l⟩:=O1 (w.alloc (.cells #[.int .i64 P] 3));rw [<- l] at g f ⊢;have q:=O0 (zH o m lo hi v an ai cn ci st i) ((zH.below (.inr ⟨⟨d,c6,k,c0⟩,j,h3,h4⟩) g));have J:i.cell? ⟨o,6,none⟩=some (.int .i64 st.err):=by rw [g.cell j];exact c6
    have E:i.cell? ⟨o,0,none⟩=some (.int .u8 k):=by rw [g.cell j];exact c0
    have M:(st.err == 0)=false:=by simpa using d
    have N:(st.err != 0)=true:=by simpa using d
    have C:=U d;have s:=U f;have D:=U (show qW v y P st=([],st) by unfold qW;rw [J3 d]);clear d c6 c0 l g f;go_enter Tryz.func103,Tryz.ntmps103;go_wp2_with fail;refine (zx o st.err k i J E (fun h=>absurd h C.o)).mono ?_;rintro r w' ⟨rfl,L⟩;subst L;go_wp2;go_ret;rw [D.o];exact ⟨⟨none,0,rfl,J2 _,.inl rfl⟩,q.o,s.o⟩)
 clear h g;obtain ⟨R,x⟩:=O1 (qW v y P st);rw [<- x] at u ⊢;clear x;go_enter Tryz.func76,Tryz.ntmps76;go_wp2_with fail;refine u.o.mono ?_;rintro e w' ⟨⟨a,c,rfl,z,d⟩,j⟩;have p:=U z;clear z;have A:=U d;have B:=U j;clear d j;go_wp2;go_ret;exact ⟨⟨a,c,rfl,p.o,A.o⟩,B.o⟩
theorem nP {s:ByteArray} (h:s.size<1\/64<s.size):preB s=false:=by unfold preB;rw [X0 (by omega)];rfl
theorem oA {s:ByteArray} (a:1<=s.size) (b:s.size<=64):preB s=jp s.data.toList:=by unfold preB;rw [X3 ⟨a,b⟩];rfl
theorem Qm (s:ByteArray) (w:World) (f:s.size<=9223372036854775807) :
 Calls Tryz.prog 140 #[.string s] w fun e w'=>e=.returned (.bool (preB s))/\w=w':=by
 by_cases h1:s.size<1
 . have a:=U (nP (s:=s) (.inl h1));go_enter Tryz.func140,Tryz.ntmps140;go_wp2;go_ret;exact ⟨qx a.o.symm,rfl⟩
 by_cases h2:64<s.size
 . have a:=U (nP (s:=s) (.inr h2));go_enter Tryz.func140,Tryz.ntmps140;go_wp2;go_ret;exact ⟨qx a.o.symm,rfl⟩
 have c:1<=s.size:=by omega
 have d:s.size<=64:=by omega
 have a:=U (oA c d);have b:=U (fun w=>nh s w f);rw [<- a.o] at b;clear h1 h2;go_enter Tryz.func140,Tryz.ntmps140;go_wp2_with (go_at_call 117;refine (b.o _).mono ?_;rintro e w' ⟨rfl,rfl⟩);go_ret;exact ⟨rfl,rfl⟩
theorem dM {α:Type} {f:α->Bool} {l:List α} {k:Nat} (a:k<l.length) (h:f l[k]=false):l.all f=false:=zb2.2 ⟨_,J8 a,by rw [h];decide⟩
theorem nF {α:Type} {f:α->Bool} {l:List α} {n:Nat} (b:l.length<=n) (h:∀j (a:j<l.length),j<n->f l[j]=true):l.all f=true:=by rw [X9];intro x hx;obtain ⟨j,a,rfl⟩:=Y0 hx;exact h j a (by omega)
theorem ux (l:List ByteArray) (a:Option Addr) (c:Nat) (w:World) (W:qy w 0 w.heap.size a l) (Y:l.length<=4294967296) (X:∀s ∈ l,s.size<=4294967296) :
 Calls Tryz.prog 138 #[.slice a l.length c,.func (.func (139:Nat)) #[] #[]] w fun e w'=>e=.returned (.bool (decide (l.length<=32) && l.all zu))/\O5 w w':=by
 have J:=U W;have K:=U X;clear W X;obtain ⟨n,F⟩:=O1 l.length;have G:=U F;rw [<- F] at Y ⊢;clear F;obtain ⟨V,E⟩:=O1 ((decide (n<=32) && l.all zu));have z:=U E;rw [<- E];clear E;by_cases h32:32<n
 . rw [X0 (by omega),M0] at z;have L:decide (32<(n:Int))=true:=by rw [J1];omega
   go_enter Tryz.func138,Tryz.ntmps138;go_wp2;go_ret;exact ⟨qx z.o.symm,Z0 _ _⟩
 have L:decide (32<(n:Int))=false:=by rw [Y7];omega
 rw [X3 (by omega),Y4] at z;go_enter Tryz.func138,Tryz.ntmps138;go_wp2;go_loopw [6,12] (fun _ i wr=>∃k:Nat,k<=n/\i=.int .i64 k/\(∀j (h:j<l.length),j<k->zu l[j]=true)/\O5 w wr) (fun _ i _=>n - (intOf i).toNat)
 case atStart=>exact ⟨0,by omega,rfl,fun j _ h=>by omega,Z0 _ _⟩
 case round =>
  obtain ⟨k,R,rfl,B,A⟩:=hrel;have v:=U B;have d:=U A;clear B A;by_cases hlt:k<n
  . have r:k<l.length:=by rw [<- G.o];exact hlt
    obtain ⟨b,o,N,-,u,M⟩:=(J.o.below d.o lz lz lz).at k r;subst N;have S:(0:Int)<=(k:Int):=by omega
    have T:(k:Int)<(n:Int):=by omega
    have P:decide ((k:Int)<(n:Int))=true:=by simpa using hlt
    have g:=U (dM (f:=zu) r);have p:=U (show zu l[k]=true->∀j (h:j<l.length),j<k+1->zu l[j]=true from fun h0 j hj hjk=>by
     rcases N1.1 hjk with h1|h1
     . exact v.o j hj h1
     . subst h1;exact h0)
    have C:=K.o l[k] (J8 r);obtain ⟨q,H⟩:=O1 (l[k]);rw [<- H] at M g p C;have D:=U (fun w=>dV q w (by omega));obtain ⟨y,I⟩:=O1 (zu q);rw [<- I] at D g p;clear H I C;cases y with
    | false => have x:=U (z.o.trans (g.o rfl));go_wp2_with (go_at_call 139;refine (D.o _).mono ?_;rintro e Q ⟨rfl,u⟩;have m:=U u;clear u);go_ret;exact ⟨qx x.o.symm,d.o.trans (m.o.mono d.o.size)⟩
    | true =>
     have x:=U (p.o rfl);go_wp2_with (go_at_call 139;refine (D.o _).mono ?_;rintro e Q ⟨rfl,u⟩;have m:=U u;clear u);go_roundw
     case rel=>exact ⟨k+1,by omega,by go_num,x.o,d.o.trans (m.o.mono d.o.size)⟩
     case measure=>simp [intOf];omega
  . have P:decide ((k:Int)<(n:Int))=false:=by simpa using hlt
    have x:=U (z.o.trans (nF (f:=zu) (l:=l) (n:=k) (by rw [<- G.o];omega) v.o));go_wp2;go_ret;exact ⟨qx x.o.symm,d.o⟩
theorem mI (l:List ByteArray) (a:Option Addr) (c:Nat) (w:World) (T:qy w 0 w.heap.size a l) (X:l.length<=4294967296) (W:∀s ∈ l,s.size<=4294967296) :
 Calls Tryz.prog 138 #[.slice a l.length c,.func (.func (140:Nat)) #[] #[]] w fun e w'=>e=.returned (.bool (decide (l.length<=32) && l.all preB))/\O5 w w':=by
 have H:=U T;have I:=U W;clear T W;obtain ⟨n,D⟩:=O1 l.length;have E:=U D;rw [<- D] at X ⊢;clear D;obtain ⟨V,C⟩:=O1 ((decide (n<=32) && l.all preB));have v:=U C;rw [<- C];clear C;by_cases h32:32<n
 . rw [X0 (by omega),M0] at v;have J:decide (32<(n:Int))=true:=by rw [J1];omega
   go_enter Tryz.func138,Tryz.ntmps138;go_wp2;go_ret;exact ⟨qx v.o.symm,Z0 _ _⟩
 have J:decide (32<(n:Int))=false:=by rw [Y7];omega
 rw [X3 (by omega),Y4] at v;go_enter Tryz.func138,Tryz.ntmps138;go_wp2;go_loopw [6,12] (fun _ i wr=>∃k:Nat,k<=n/\i=.int .i64 k/\(∀j (h:j<l.length),j<k->preB l[j]=true)/\O5 w wr) (fun _ i _=>n - (intOf i).toNat)
 case atStart=>exact ⟨0,by omega,rfl,fun j _ h=>by omega,Z0 _ _⟩
 case round =>
  obtain ⟨k,Q,rfl,z,x⟩:=hrel;have r:=U z;have g:=U x;clear z x;by_cases hlt:k<n
  . have p:k<l.length:=by rw [<- E.o];exact hlt
    obtain ⟨b,o,L,-,P,K⟩:=(H.o.below g.o lz lz lz).at k p;subst L;have R:(0:Int)<=(k:Int):=by omega
    have S:(k:Int)<(n:Int):=by omega
    have M:decide ((k:Int)<(n:Int))=true:=by simpa using hlt
    have d:=U (dM (f:=preB) p);have m:=U (show preB l[k]=true->∀j (h:j<l.length),j<k+1->preB l[j]=true from fun h0 j hj hjk=>by
     rcases N1.1 hjk with h1|h1
     . exact r.o j hj h1
     . subst h1;exact h0)
    have A:=I.o l[k] (J8 p);obtain ⟨q,F⟩:=O1 (l[k]);rw [<- F] at K d m A;have B:=U (fun w=>Qm q w (by omega));obtain ⟨y,G⟩:=O1 (preB q);rw [<- G] at B d m;clear F G A;cases y with
    | false => have u:=U (v.o.trans (d.o rfl));go_wp2_with (go_at_call 140;refine (B.o _).mono ?_;rintro e N ⟨rfl,rfl⟩);go_ret;exact ⟨qx u.o.symm,g.o⟩
    | true =>
     have u:=U (m.o rfl);go_wp2_with (go_at_call 140;refine (B.o _).mono ?_;rintro e N ⟨rfl,rfl⟩);go_roundw
     case rel=>exact ⟨k+1,by omega,by go_num,u.o,g.o⟩
     case measure=>simp [intOf];omega
  . have M:decide ((k:Int)<(n:Int))=false:=by simpa using hlt
    have u:=U (v.o.trans (nF (f:=preB) (l:=l) (n:=k) (by rw [<- E.o];omega) r.o));go_wp2;go_ret;exact ⟨qx u.o.symm,g.o⟩
theorem gr (l:List DelegV) (a0:ByteArray) (a:Option Addr) (c:Nat) (w:World) (hA:zm w 0 w.heap.size a l) (hl:l.length<=4294967296) :
 Calls Tryz.prog 102 #[.slice a l.length c,.string a0] w fun e w'=>e=.returned (.bool (l.any fun y=>decide (y.name=a0)))/\O5 w w':=by
 have T:=U hA;clear hA;obtain ⟨n,H⟩:=O1 l.length;have J:=U H;rw [<- H] at hl ⊢;clear H;obtain ⟨V,G⟩:=O1 (l.any (fun y=>decide (y.name=a0)));have K:=U G;rw [<- G];clear G;go_enter Tryz.func102,Tryz.ntmps102;go_wp2;go_loopw [6,9] (fun _ i wr=>∃k:Nat,k<=n/\i=.int .i64 k/\(∀j (h:j<l.length),j<k->decide (l[j].name=a0)=false)/\O5 w wr) (fun _ i _=>n - (intOf i).toNat)
 case atStart=>exact ⟨0,by omega,rfl,fun j _ h=>by omega,Z0 _ _⟩
 case round =>
  obtain ⟨k,hk,rfl,D,A⟩:=hrel;have u:=U D;have d:=U A;clear D A;by_cases hlt:k<n
  . have B:k<l.length:=by rw [<- J.o];exact hlt
    obtain ⟨b,o,ha,-,hb,M,N,P,Q,R,S,L,W,X,Y,Z,e5,-⟩:=(T.o.below d.o lz lz d.o.size).at k B;subst ha;have m1:(0:Int)<=(k:Int):=by omega
    have m2:(k:Int)<(n:Int):=by omega
    have m3:decide ((k:Int)<(n:Int))=true:=by simpa using hlt
    have g:=U (oi (f:=fun y:DelegV=>decide (y.name=a0)) B);have q:=U (show decide (l[k].name=a0)=false->∀j (h:j<l.length),j<k+1->decide (l[j].name=a0)=false from fun h0 j hj hjk=>by
     rcases N1.1 hjk with h1|h1
     . exact u.o j hj h1
     . subst h1;exact h0)
    have p:=O0 ((l[k].name.toList == a0.toList)=decide (l[k].name=a0)) ba_eq;obtain ⟨r,C⟩:=O1 (l[k].name);rw [<- C] at L g q p;obtain ⟨y,I⟩:=O1 (decide (r=a0));have hq:(r.toList == a0.toList)=y:=by rw [I];exact p.o
    rw [<- I] at g q;clear C I p;generalize l[k].au=au at *;generalize l[k].term=tm at *;generalize l[k].paths=ps at *;generalize l[k].pres=qs at *;obtain ⟨F,m⟩:=O1 (wr.alloc (.cells #[.string r,.int .i64 au.thr,.slice M au.ids.length N,.bool tm,.slice P ps.length Q,.slice R qs.length S] 58));have z:=O7 m
    have E:=O9 m
    have s:=U (O2 d z);have x:=U m;have z0:=qq E (j:=0) rfl;clear z E m;go_upto_region 4 with fail
    rw [<- x.o];clear L W X Y Z e5 x;cases y with
    | false =>
     have v:=U (q.o rfl);go_wp2;go_roundw
     case rel=>exact ⟨k+1,by omega,by go_num,v.o,s.o⟩
     case measure=>simp [intOf];omega
    | true => have v:=U (K.o.trans (g.o rfl));go_wp2;go_ret;exact ⟨qx v.o.symm,s.o⟩
  . have m3:decide ((k:Int)<(n:Int))=false:=by simpa using hlt
    have v:=U (K.o.trans (td (f:=fun y:DelegV=>decide (y.name=a0)) (l:=l) (n:=k) (by rw [<- J.o];omega) u.o));go_wp2;go_ret;exact ⟨qx v.o.symm,d.o⟩
structure DelegC where
 x:DelegV
 ia:Option Addr
 ic:Nat
 pa:Option Addr
 pc:Nat
 qa:Option Addr
 qc:Nat
def oT (q:DelegC):List Value:=[.string q.x.name,.int .i64 q.x.au.thr,.slice q.ia q.x.au.ids.length q.ic,.bool q.x.term,.slice q.pa q.x.paths.length q.pc,.slice q.qa q.x.pres.length q.qc]
theorem iw (q:DelegC):(oT q).length=6:=rfl
def delP (w:World) (lo hi:Nat) (q:DelegC):Prop:=q.x.au.ids.length<=q.ic/\q.x.paths.length<=q.pc/\q.x.pres.length<=q.qc/\DelegIn w lo hi q.x q.ia q.pa q.qa
theorem yA:fy delP:=fun _ _ _ _ _ hs h=>⟨h.1,h.2.1,h.2.2.1,h.2.2.2.carry lz lz hs⟩
def kj (T B:Nat) (w:World) (vs:Value) (qs:List DelegC):Prop:=ItemsOwn T 6 B oT delP w vs qs
theorem kj.row {T B:Nat} {w:World} {v:Value} {E:List DelegC} {l:List DelegV} (h:kj T B w v E) (F:E.map (·.x)=l):∃a c,v=.slice a l.length c/\l.length<=c/\zm w B w.heap.size a l:=by
 have o:=ItemsOwn.own h;have p:∃a n c,v=.slice a n c:=by
  rcases o.2 with ⟨rfl,_⟩|⟨g,cap,cur,rfl,_⟩
  . exact ⟨_,_,_,rfl⟩
  . exact ⟨_,_,_,rfl⟩
 obtain ⟨a,n,c,rfl⟩:=p;obtain ⟨j,k,f⟩:=ItemsOwn.cells iw h;subst F;subst j;rw [X7];refine ⟨a,c,rfl,k,?_⟩;rcases f with f|⟨g,rfl,hg,hlt,hf,hc⟩
 . exact .inl (by rw [f];rfl)
 . refine .inr ⟨g,0,rfl,hg,hlt,fun i hi=>?_⟩;have d:i<E.length:=by simpa using hi
   obtain ⟨D,m,r,s,C,u,y,z,A⟩:=ItemsOwn.each h E[i] (J8 d);have e:(E.map (·.x))[i]=E[i].x:=zb8 ..;rw [e];have b:=fun q (hq:q<6)=>hc i d q hq;simp only [za9];exact ⟨E[i].ia,E[i].ic,E[i].pa,E[i].pc,E[i].qa,E[i].qc,b 0 (by decide),b 1 (by decide),b 2 (by decide),b 3 (by decide),b 4 (by decide),b 5 (by decide),u,y,z,A.carry r s (fun _ _ _=>rfl)⟩
theorem oI (k:Nat) (w:World) (c:1<=k) (d:k<=32):Calls Tryz.prog 141 #[.int .i64 k] w fun e w'=>e=.returned (.bool true)/\w'=w:=by
 have b:decide ((k:Int)<=32)=true:=by rw [J1];omega
 have a:decide (1<=(k:Int))=true:=by rw [J1];omega
 go_enter Tryz.func141,Tryz.ntmps141;go_wp2;go_ret;exact ⟨rfl,rfl⟩
theorem sO (k:Nat) (w:World) (b:k<=32):Calls Tryz.prog 142 #[.int .i64 k] w fun e w'=>e=.returned (.int .i64 ((tL k:Nat):Int))/\w'=w:=by have a:=U (show ((tL k:Nat):Int)=((k:Int)+3) / 4 by unfold tL;omega);go_enter Tryz.func142,Tryz.ntmps142;go_wp2;go_ret;exact ⟨by rw [a.o];first|rfl|go_num,rfl⟩
theorem sE (t A:Int) (ids:List ByteArray) (B:ByteArray) (C:Option Addr) (D:Nat) (w:World) (G:B.size<=4294967296) (F:-9223372036854775808<=A/\A<=9223372036854775807) :
 Calls Tryz.prog 109 #[.agg #[.int .i64 t,.slice C ids.length D,.int .i64 A,.string B]] w fun e w'=>e=.returned (.int .i64 (j5 ⟨A,B,⟨t,ids⟩⟩))/\O5 w w':=by
 obtain ⟨W,l⟩:=O1 (w.alloc (.cells #[.int .i64 t,.slice C ids.length D,.int .i64 A,.string B] 41));have i:=O7 l
 have o:=O9 l
 have g:=U i;have b:=U l;have y:=qq o (j:=2) rfl;have z:=qq o (j:=3) rfl;have a:=O0 (j5 ⟨A,B,⟨t,ids⟩⟩=if A<1\/32<A then 1 else if zw B.data.toList=false then 3 else if 64<B.size+1+(A.toNat+3) / 4 then 5 else 0) rfl;obtain ⟨E,p⟩:=O1 (j5 ⟨A,B,⟨t,ids⟩⟩);rw [<- p] at a ⊢;clear i o l p;by_cases h1:A<1
 . rw [J3 (.inl h1)] at a;go_enter Tryz.func109,Tryz.ntmps109;go_upto_region 1 with fail
   rw [<- b.o];clear b;go_wp2;go_ret;exact ⟨by rw [a.o];rfl,g.o⟩
 by_cases h2:32<A
 . rw [J3 (.inr h2)] at a;have r:decide (A<=32)=false:=by rw [Y7];omega
   have q:decide (1<=A)=true:=by rw [J1];omega
   go_enter Tryz.func109,Tryz.ntmps109;go_upto_region 1 with fail
   rw [<- b.o];clear b;go_wp2;go_ret;exact ⟨by rw [a.o];rfl,g.o⟩
 rw [Z6 (by omega)] at a;obtain ⟨k,rfl⟩:∃k:Nat,A=(k:Int):=⟨A.toNat,by omega⟩;have h:=U (fun w=>xA B w (by omega));rw [Int.toNat_natCast] at a;have v:1<=k:=by omega
 have x:k<=32:=by omega
 have r:decide ((k:Int)<=32)=true:=by rw [J1];omega
 have q:decide (1<=(k:Int))=true:=by rw [J1];omega
 have m:=U (fun w=>oI k w (by omega) (by omega));have d:=U (fun w=>sO k w (by omega));obtain ⟨f,c⟩:=O1 (tL k);rw [<- c] at d;have u:f<=8:=by rw [c];unfold tL;omega
 rw [show (k+3) / 4=f from c.symm] at a;clear h1 h2 F c;cases hr:zw B.data.toList
 . rw [hr] at h a;rw [J3 rfl] at a;clear hr;go_enter Tryz.func109,Tryz.ntmps109;go_upto_region 1 with fail
   rw [<- b.o];clear b;go_wp2_with (first|(go_at_call 141;refine (m.o _).mono ?_;rintro e j ⟨rfl,rfl⟩)|(go_at_call 87;refine (h.o _).mono ?_;rintro e j ⟨rfl,rfl⟩));go_ret;exact ⟨by rw [a.o];rfl,g.o⟩
 rw [hr] at h a;rw [Z6 (by decide)] at a;clear hr;by_cases h3:64<B.size+1+f
 . rw [J3 h3] at a;have s:decide ((64:Int)<(B.size:Int)+1+(f:Int))=true:=by rw [J1];omega
   go_enter Tryz.func109,Tryz.ntmps109;go_upto_region 1 with fail
   rw [<- b.o];clear b;go_wp2_with (first|(go_at_call 141;refine (m.o _).mono ?_;rintro e j ⟨rfl,rfl⟩)|(go_at_call 87;refine (h.o _).mono ?_;rintro e j ⟨rfl,rfl⟩));go_quiet ((go_at_call 142;exact Calls.quiet_of_same (d.o _)));go_wp2;go_ret;exact ⟨by rw [a.o];rfl,Below.drewN g.o _⟩
 . rw [Z6 h3] at a;have s:decide ((64:Int)<(B.size:Int)+1+(f:Int))=false:=by rw [Y7];omega
   go_enter Tryz.func109,Tryz.ntmps109;go_upto_region 1 with fail
   rw [<- b.o];clear b;go_wp2_with (first|(go_at_call 141;refine (m.o _).mono ?_;rintro e j ⟨rfl,rfl⟩)|(go_at_call 87;refine (h.o _).mono ?_;rintro e j ⟨rfl,rfl⟩));go_quiet ((go_at_call 142;exact Calls.quiet_of_same (d.o _)));go_wp2;go_ret;exact ⟨by rw [a.o];rfl,Below.drewN g.o _⟩
def nH (u:JV) (er:Int) (w:World) (e:Ending) (w':World):Prop :=
 ∃an cn ai ci,e=.returned (.tuple #[.agg #[.int .u8 u.kind,.int .i64 u.n,.string u.t,.slice an u.names.length cn,.slice ai u.items.length ci],.int .i64 er]) /\
  Rep w' w.heap.size w'.heap.size u (.agg #[.int .u8 u.kind,.int .i64 u.n,.string u.t,.slice an u.names.length cn,.slice ai u.items.length ci])/\O5 w w'
theorem s9 (w:World) (lo hi:Nat):Rep w lo hi zeroJ zeroAgg:=by unfold zeroJ Rep;exact ⟨none,0,none,0,rfl,J2 _,J2 _,.inl rfl,.inl rfl⟩
theorem yK:∀(l:List DelegV) (k:Nat) (h:k<l.length),((l.take k).any fun y=>decide (y.name=l[k].name))=true->xC l=false
 | [],k,h,_=>by simp at h
 | x :: r,0,h,hb=>by simp at hb
 | x :: r,k+1,h,hb=>by
  rw [N2,List.any_cons,G3,Bool.or_eq_true] at hb;unfold xC;rcases hb with hb|hb
  . have:(r.any fun y=>decide (y.name=x.name))=true:=by
     rw [List.any_eq_true];exact ⟨r[k]'(by simpa using h),J8 _,by rw [J1] at hb ⊢;exact hb.symm⟩
    rw [this];rfl
  . rw [yK r k (by simpa using h) hb,zc1]
theorem ga:∀(l:List DelegV),(∀k (h:k<l.length),((l.take k).any fun y=>decide (y.name=l[k].name))=false)->xC l=true
 | [],_=>rfl
 | x :: r,h=>by unfold xC;have h1:(r.any fun y=>decide (y.name=x.name))=false:=(by rw [List.any_eq_false];intro y hy;obtain ⟨k,a,rfl⟩:=Y0 hy;have:=h (k+1) (by simpa using a);rw [N2,List.any_cons,G3,Bool.or_eq_false_iff] at this;have b:=this.1;rw [Y7] at b;rw [J1];exact fun e=>b e.symm);rw [h1,Bool.not_false,Y4];refine ga r fun k a=>?_;have:=h (k+1) (by simpa using a);rw [N2,List.any_cons,G3,Bool.or_eq_false_iff] at this;exact this.2
def zo (l:List DelegV):Bool:=decide (l.length<=64) && l.all qC && xC l
theorem vk (d:DelegsV):xj d=(zn d.keys && (if xG d.bins then zo d.roles else d.roles.isEmpty && zh d.bins)):=rfl
theorem uj {l:List DelegV} (h:¬l.length<=64):zo l=false:=by unfold zo;rw [X0 h];rfl
theorem mO {l:List DelegV} {k:Nat} (h:k<l.length) (a:qC l[k]=false):zo l=false:=by unfold zo;rw [show l.all qC=false from zb2.2 ⟨l[k],J8 _,by simp [a]⟩,zc1,M0]
theorem fY {l:List DelegV} {k:Nat} (h:k<l.length) (a:((l.take k).any fun y=>decide (y.name=l[k].name))=true):zo l=false:=by unfold zo;rw [yK l k h a,zc1]
theorem dC {l:List DelegV} (h:l.length<=64) (b:∀k (h:k<l.length),qC l[k]=true) (c:∀k (h:k<l.length),((l.take k).any fun y=>decide (y.name=l[k].name))=false):zo l=true:=by unfold zo;rw [X3 h,ga l c,show l.all qC=true from X9.2 fun x hx=>by obtain ⟨k,a,rfl⟩:=Y0 hx;exact b k a];rfl
