import Derived.Test.YthgembbgcbaghaaGreatDoorDn23
import Derived.Test.YthgembbgcbaghaaGreatDoorDn19
set_option maxHeartbeats 2000000
set_option maxRecDepth 100000

namespace Go.Proofs.YthgembbgcbaghaaGreatDoor
open Go.RowKit Go.WideMaps Go.Maps
theorem iW {o m lo hi:Nat} {v:JV} {an ai:Option Addr} {cn ci:Nat} {st:PS} {w:World} (y:ByteArray) (h:zB o m lo hi v an ai cn ci st w) :
 Calls Tryz.prog 64 #[.pointer (some ⟨o,0,none⟩),.string y] w fun e w'=>e=.returned (.bool (zq v y st))/\O5 w w':=by
 rcases h with h|⟨h1,h2,h3,h4⟩
 . exact nj o m lo hi v an ai cn ci y st w h
 . refine (tP o st.err y w h1).mono fun e w' ⟨e1,e2⟩=>?_;subst e2;have:zq v y st=false:=by unfold zq;simp [h1.1]
   rw [this];exact ⟨e1,Z0 _ _⟩
def kj (k n:Int):Bool:=if k=1 then decide (n=1) else false
theorem nG (k n:Int) (t:ByteArray) (a b:Value) (w:World) :
 Calls Tryz.prog 239 #[.agg #[.int .u8 k,.int .i64 n,.string t,a,b]] w fun e w'=>e=.returned (.tuple #[.bool (kj k n),.int .i64 (if k=1 then 0 else 10)])/\O5 w w':=by
 have d:=O0 (O5 w (w.alloc (.cells #[.int .u8 k,.int .i64 n,.string t,a,b] 25))) O4;by_cases hk:k=1
 . subst hk;have c:=O0 (kj 1 n=decide (n=1)) rfl;go_enter Tryz.func239,Tryz.ntmps239;go_wp2;go_ret2;exact ⟨by rw [c.o] <;> rfl,d.o⟩
 . have c:=U (show kj k n=false by unfold kj;rw [Z6 hk]);rw [c.o,Z6 hk];have f:(k == 1)=false:=by simpa using hk
   have g:(k != 1)=true:=by simpa using hk
   clear hk;go_enter Tryz.func239,Tryz.ntmps239;go_wp2;go_ret2;exact ⟨rfl,d.o⟩
def yq (o m lo hi:Nat) (v:JV) (an ai:Option Addr) (cn ci:Nat) (y:ByteArray) (st:PS) (w:World) (e:Ending) (w':World):Prop :=
 e=.returned (.bool (qN v y st).1)/\PickAt o m lo hi v an ai cn ci (qN v y st).2 w'/\Touch (fun b=>b=o\/b=m) w w'
theorem yW {o m lo hi:Nat} {v:JV} {an ai:Option Addr} {cn ci:Nat} {y:ByteArray} {st a:PS} {w w':World} (h:qN v y st=(false,a)) (c:PickAt o m lo hi v an ai cn ci a w') (d:Touch (fun b=>b=o\/b=m) w w'):yq o m lo hi v an ai cn ci y st w (.returned (.bool false)) w':=by unfold yq;rw [h];exact ⟨rfl,c,d⟩
theorem nB (o m lo hi:Nat) (v:JV) (an ai:Option Addr) (cn ci:Nat) (y:ByteArray) (st:PS) (w:World) (hP:PickAt o m lo hi v an ai cn ci st w) (hy:y.size<=4294967296) (ha:st.asked.length<=4294967296) :
 Calls Tryz.prog 238 #[.pointer (some ⟨o,0,none⟩),.string y,.func (.func 239) #[] #[]] w (yq o m lo hi v an ai cn ci y st w):=by
 have f:=U hP;clear hP;have M:=qq f.o.obj (j:=6) rfl;have Q:w.cell? ⟨o,0,none⟩=some (.int .u8 5):=(qq (j:=0) f.o.obj rfl).trans (by rw [f.o.kind];rfl);by_cases he:st.err=0
 . rw [he] at M;have z:=U he;clear he;have c1:=qq f.o.obj (j:=1) rfl;have c2:=qq f.o.obj (j:=2) rfl;have c3:=qq f.o.obj (j:=3) rfl;have c4:=qq f.o.obj (j:=4) rfl;have X:=U f.o.rep;rw [f.o.kind] at X;have V:=U (jU v y _ w lo hi f.o.wt f.o.pos f.o.le X.o f.o.kind f.o.rise f.o.len);go_enter Tryz.func238,Tryz.ntmps238;go_wp2_with fail;refine (q7 o 0 5 w M Q (fun _=>rfl)).mono ?_;rintro r w' ⟨rfl,rfl⟩;go_wp2_with fail;refine V.o.mono ?_;clear V Q c1 c2 c3 c4 M;rintro e B ⟨hh,J⟩;have i:=U J;clear J;rcases hh with ⟨r,hr1,hr2,hre,an',cn',ai',ci',rfl,hrep⟩|⟨hno,rfl⟩
   . have W:=U (xE f.o.rise r hr1 hr2 hre);clear hre hrep;generalize v.items[r]=it at *;have K:O5 w (B.alloc (.cells #[.int .u8 it.kind,.int .i64 it.n,.string it.t,.slice an' it.names.length cn',.slice ai' it.items.length ci'] 25)):=i.o.alloc i.o.size _;have g:=U K;have u:=U (nG it.kind it.n it.t (.slice an' it.names.length cn') (.slice ai' it.items.length ci') (B.alloc (.cells #[.int .u8 it.kind,.int .i64 it.n,.string it.t,.slice an' it.names.length cn',.slice ai' it.items.length ci'] 25)));clear K;by_cases hk:it.kind=1
     . have x:=U (show qN v y st=(decide (it.n=1),⟨y :: st.asked,0⟩) by unfold qN;rw [Z6 (by simp [z.o]),W.o];simp [hk]);rw [Q1 hk] at u;have I:kj it.kind it.n=decide (it.n=1):=by unfold kj;rw [Q1 hk]
       rw [I] at u;clear hk I;obtain ⟨L,Y⟩:=O1 (decide (it.n=1));rw [<- Y] at u x;clear Y;go_wp2_with fail;refine u.o.mono ?_;clear u;rintro e C ⟨rfl,p⟩;have a:=U (O2 g p);have d:=U (f.o.below a.o);clear p g;have d5:=qq d.o.obj (j:=5) rfl;have q:Go.keyOf Tryz.prog 9 (.string y)=some (.string y.data.toList):=keyOf_string_mk X0 (by unfold maxLen;omega);obtain ⟨D,n,s,hn,R⟩:=d.o.map;obtain ⟨c,A,a0,a1,S⟩:=R.2 y;obtain ⟨c',Z,l,_⟩:=s.lookup_int jq Y6 X5 (j8 _) q;rw [A] at l;simp only [H9,M4,H7] at l;subst l;have HD:=U (R.cons y c A);have N:=U q;have P:=U s;clear R A S q s;go_wp2_with (at_mapUpdate;refine G8 _ rfl _ _ _ 150 rfl 9 3 jq Y6 _ m n D rfl P.o (by unfold maxLen;omega) _ _ _ rfl rfl N.o _ [] (plainElem_int X5 (WalkArith.wf_i64 (by omega))) ?_);intro T hown3 hgrow3;have h:=U (d.o.ask y hgrow3 hown3 (by omega) HD.o);have E:=O0 (Touch (fun b=>b=o\/b=m) w T) (⟨by rw [hgrow3.os,a.o.os],by rw [hgrow3.tape,a.o.tape],by rw [hgrow3.output,a.o.output],Z5 a.o.size hgrow3.size,fun k hk hs=>by rw [hgrow3.block k (J7 hk a.o.size) (fun e=>hs (.inr (J0 e))),a.o.block k hk]⟩);clear hgrow3 hown3;rw [z.o] at h;go_wp2;go_ret;unfold yq;rw [x.o];exact ⟨rfl,h.o,E.o⟩
     . have x:=U (show qN v y st=(false,⟨st.asked,10⟩) by unfold qN;rw [Z6 (by simp [z.o]),W.o];simp [hk]);rw [Z6 hk] at u;have I:kj it.kind it.n=false:=by unfold kj;rw [Z6 hk]
       rw [I] at u;clear hk I;go_wp2_with fail;refine u.o.mono ?_;clear u;rintro e C ⟨rfl,p⟩;have a:=U (O2 g p);have d:=U (f.o.below a.o);clear p g;have G:C.cell? ⟨o,6,none⟩=some (.int .i64 0):=(qq (j:=6) d.o.obj rfl).trans (by rw [z.o];rfl);have F:C.cell? ⟨o,0,none⟩=some (.int .u8 5):=(qq (j:=0) d.o.obj rfl).trans (by rw [f.o.kind];rfl);have H:C.frozen? ⟨o,6,none⟩=false:=by simp [World.frozen?,d.o.obj]
       go_wp2_with fail
       refine (zD o 10 _ G F H).mono ?_;clear G F H;rintro e T ⟨rfl,rfl⟩;have h:=U (d.o.fail 10);have E:=O0 (Touch (fun b=>b=o\/b=m) w (C.setCell ⟨o,6,none⟩ (.int .i64 10))) ((Touch.of_below a.o lz).setCell (.inl (.inl rfl)) _);go_wp2;go_ret;exact yW x.o h.o E.o
   . have x:=U (show qN v y st=(false,⟨st.asked,6⟩) by unfold qN;rw [Z6 (by simp [z.o]),show v.look y=none from xu _ _ _ hno]);unfold zeroAgg;have a:=O0 (O5 w (B.alloc (.cells #[.int .u8 0,.int .i64 0,.string ⟨#[]⟩,.slice none 0 0,.slice none 0 0] 25))) (i.o.alloc i.o.size _);have d:=U (f.o.below a.o);clear hno i;have G:(B.alloc (.cells #[.int .u8 0,.int .i64 0,.string ⟨#[]⟩,.slice none 0 0,.slice none 0 0] 25)).cell? ⟨o,6,none⟩=some (.int .i64 0):=(qq (j:=6) d.o.obj rfl).trans (by rw [z.o];rfl);have F:(B.alloc (.cells #[.int .u8 0,.int .i64 0,.string ⟨#[]⟩,.slice none 0 0,.slice none 0 0] 25)).cell? ⟨o,0,none⟩=some (.int .u8 5):=(qq (j:=0) d.o.obj rfl).trans (by rw [f.o.kind];rfl);have H:(B.alloc (.cells #[.int .u8 0,.int .i64 0,.string ⟨#[]⟩,.slice none 0 0,.slice none 0 0] 25)).frozen? ⟨o,6,none⟩=false:=by simp [World.frozen?,d.o.obj]
     go_wp2_with fail
     refine (zD o 6 _ G F H).mono ?_;clear G F H;rintro e T ⟨rfl,rfl⟩;have h:=U (d.o.fail 6);have E:=O0 (Touch (fun b=>b=o\/b=m) w ((B.alloc (.cells #[.int .u8 0,.int .i64 0,.string ⟨#[]⟩,.slice none 0 0,.slice none 0 0] 25)).setCell ⟨o,6,none⟩ (.int .i64 6))) ((Touch.of_below a.o lz).setCell (.inl (.inl rfl)) _);go_wp2;go_ret;exact yW x.o h.o E.o
 . have a2:(st.err == 0)=false:=by simpa using he
   have a3:(st.err != 0)=true:=by simpa using he
   have x:=U (show qN v y st=(false,st) by unfold qN;rw [Q1 he]);have z:=U he;clear he;go_enter Tryz.func238,Tryz.ntmps238;go_wp2_with fail;refine (q7 o st.err 5 w M Q (fun _=>rfl)).mono ?_;rintro r w' ⟨rfl,rfl⟩;go_wp2;go_ret;exact yW x.o f.o (Touch.refl _ _)
theorem iY {o m lo hi:Nat} {v:JV} {an ai:Option Addr} {cn ci:Nat} {st:PS} {w:World} (y:ByteArray) (h:zB o m lo hi v an ai cn ci st w) (z:y.size<=4294967296) (x:st.asked.length<=4294967296) :
 Calls Tryz.prog 188 #[.pointer (some ⟨o,0,none⟩),.string y] w fun e w'=>e=.returned (.bool (qN v y st).1)/\vd o m lo hi v an ai cn ci (qN v y st).2 w w':=by
 have c:=U (show Calls Tryz.prog 238 #[.pointer (some ⟨o,0,none⟩),.string y,.func (.func 239) #[] #[]] w (fun e w'=>e=.returned (.bool (qN v y st).1)/\vd o m lo hi v an ai cn ci (qN v y st).2 w w') by
  rcases h with h|⟨⟨h1,c6,k,c0⟩,a,h3,h4⟩
  . refine (nB o m lo hi v an ai cn ci y st _ h z x).mono ?_;rintro e w' ⟨j,l,p⟩;exact ⟨j,.inl l,p⟩
  . have b:=O0 (zB o m lo hi v an ai cn ci st w) (.inr ⟨⟨h1,c6,k,c0⟩,a,h3,h4⟩);have s:(st.err == 0)=false:=by simpa using h1
    have u:(st.err != 0)=true:=by simpa using h1
    have g:=U h1;have i:=U (show qN v y st=(false,st) by unfold qN;rw [Q1 h1]);clear h1;go_enter Tryz.func238,Tryz.ntmps238;go_wp2_with fail;refine (q7 o st.err k w c6 c0 (fun h=>absurd h g.o)).mono ?_;rintro r w' ⟨rfl,q⟩;subst q;go_wp2;go_ret;rw [i.o];exact ⟨rfl,b.o,Touch.refl _ _⟩)
 clear h;obtain ⟨R,d⟩:=O1 (qN v y st);rw [<- d] at c ⊢;clear d;go_enter Tryz.func188,Tryz.ntmps188;go_wp2_with fail;refine c.o.mono ?_;rintro e w' ⟨rfl,a⟩;have f:=U a;clear a;go_wp2;go_ret;exact ⟨rfl,f.o⟩
def jI (it:JV) (most:Nat):List JV:=if qL it most=0 then it.items else []
theorem uC {it:JV} {a:Nat} (e:qL it a=0):it.kind=4/\¬a<it.items.length:=by
 unfold qL at e;by_cases h1:it.kind=4
 . by_cases h2:a<it.items.length
   . simp [h1,h2] at e
   . exact ⟨h1,h2⟩
 . simp [h1] at e
theorem uD {it:JV} {a:List ByteArray} {b:Nat} {X:List JV × PS} (e:¬qL it b=0) :
 (if it.kind≠4 then ([],(⟨a,10⟩:PS)) else if b<it.items.length then ([],⟨a,5⟩) else X)=([],⟨a,qL it b⟩):=by
 unfold qL at e ⊢;by_cases h1:it.kind=4
 . by_cases h2:b<it.items.length
   . simp [h1,h2]
   . simp [h1,h2] at e
 . simp [h1]
def vL (it:JV) (most lo:Nat) (w:World) (e:Ending) (w':World):Prop :=
 ∃a c,e=.returned (.tuple #[.slice a (jI it most).length c,.int .i64 (qL it most)])/\(jI it most).length<=c/\zj w' lo w'.heap.size a (jI it most)/\O5 w w'
theorem nP (it:JV) (z B:Nat) (an' ai':Option Addr) (cn' ci' lo:Nat) (w:World) (C:Rep w lo w.heap.size it (.agg #[.int .u8 it.kind,.int .i64 it.n,.string it.t,.slice an' it.names.length cn',.slice ai' it.items.length ci'])) (A:w.cell? ⟨B,0,none⟩=some (.int .i64 z)) :
 Calls Tryz.prog 128 #[.agg #[.int .u8 it.kind,.int .i64 it.n,.string it.t,.slice an' it.names.length cn',.slice ai' it.items.length ci'],.pointer (some ⟨B,0,none⟩)] w (vL it z lo w):=by
 have f:it.items.length<=ci'/\zj w lo w.heap.size ai' it.items:=(by obtain ⟨m,p,l,o,j,x,u,y,v⟩:=C.parts;simp only [K3,K8,V4,X4] at j;obtain ⟨-,-,-,-,⟨r,-,s⟩,-⟩:=j;rw [r,s];exact ⟨u,v⟩);have h:O5 w (w.alloc (.cells #[.int .u8 it.kind,.int .i64 it.n,.string it.t,.slice an' it.names.length cn',.slice ai' it.items.length ci'] 25)):=O4;have q:(w.alloc (.cells #[.int .u8 it.kind,.int .i64 it.n,.string it.t,.slice an' it.names.length cn',.slice ai' it.items.length ci'] 25)).cell? ⟨B,0,none⟩=some (.int .i64 z):=by rw [h.cell (V9 w _ A)];exact A
 have c:=U (fun w=>p8 it z an' ai' cn' ci' w);have i:=U h;have b:=U f;clear C h f A;go_enter Tryz.func128,Tryz.ntmps128;go_wp2_with fail;refine (c.o _).mono ?_;clear c;rintro e w' ⟨rfl,d⟩;have a:=U (O2 i d);clear d q;by_cases hk:qL it z=0
 . have k:=U hk;have g:=U (show jI it z=it.items by unfold jI;rw [Q1 hk]);rw [hk];simp only [if_true];clear hk;go_wp2;go_ret2;unfold vL;rw [g.o,k.o];exact ⟨ai',ci',rfl,b.o.1,b.o.2.below a.o lz lz a.o.size,a.o⟩
 . have g:=U (show jI it z=[] by unfold jI;rw [Z6 hk]);simp only [Z6 hk];clear hk;go_wp2;go_ret2;unfold vL;rw [g.o];exact ⟨none,0,rfl,Z9 _,.inl rfl,a.o⟩
def vR (o m lo hi:Nat) (v:JV) (an ai:Option Addr) (cn ci:Nat) (y:ByteArray) (most:Nat) (st:PS) (w:World) (e:Ending) (w':World):Prop :=
 (∃a c,e=.returned (.slice a (qG v y most st).1.length c)/\(qG v y most st).1.length<=c/\zj w' w.heap.size w'.heap.size a (qG v y most st).1)/\PickAt o m lo hi v an ai cn ci (qG v y most st).2 w'/\Touch (fun b=>b=o\/b=m) w w'
theorem yY {o m lo hi:Nat} {v:JV} {an ai:Option Addr} {cn ci:Nat} {y:ByteArray} {a:Nat} {st c:PS} {w w':World} (h:qG v y a st=([],c)) (d:PickAt o m lo hi v an ai cn ci c w') (e:Touch (fun b=>b=o\/b=m) w w'):vR o m lo hi v an ai cn ci y a st w (.returned (.slice none 0 0)) w':=by unfold vR;rw [h];exact ⟨⟨none,0,rfl,Z9 _,.inl rfl⟩,d,e⟩
theorem nF (o m lo hi:Nat) (v:JV) (an ai:Option Addr) (cn ci:Nat) (y:ByteArray) (b0:Nat) (st:PS) (w:World) (hP:PickAt o m lo hi v an ai cn ci st w) (hy:y.size<=4294967296) (ha:st.asked.length<=4294967296) (p1:Nat) (g1:w.heap[p1]?=some (.cells #[.int .i64 b0] 3 (0,0))) :
 Calls Tryz.prog 127 #[.pointer (some ⟨o,0,none⟩),.string y,.func (.func 128) #[] #[.pointer (some ⟨p1,0,none⟩)]] w (vR o m lo hi v an ai cn ci y b0 st w):=by
 have f:=U hP;have H:=U g1;clear hP g1;have T:=qq f.o.obj (j:=6) rfl;have c0:w.cell? ⟨o,0,none⟩=some (.int .u8 5):=(qq (j:=0) f.o.obj rfl).trans (by rw [f.o.kind];rfl);by_cases he:st.err=0
 . rw [he] at T;have B:=U he;clear he;have c1:=qq f.o.obj (j:=1) rfl;have c2:=qq f.o.obj (j:=2) rfl;have c3:=qq f.o.obj (j:=3) rfl;have c4:=qq f.o.obj (j:=4) rfl;have HR:=U f.o.rep;rw [f.o.kind] at HR;have HG:=U (jU v y _ w lo hi f.o.wt f.o.pos f.o.le HR.o f.o.kind f.o.rise f.o.len);go_enter Tryz.func127,Tryz.ntmps127;go_wp2_with fail;refine (q7 o 0 5 w T c0 (fun _=>rfl)).mono ?_;rintro r w' ⟨rfl,rfl⟩;go_wp2_with fail;refine HG.o.mono ?_;clear HG c0 c1 c2 c3 c4 T;rintro e A ⟨hh,N⟩;have g:=U N;clear N;rcases hh with ⟨r,hr1,hr2,hre,an',cn',ai',ci',rfl,hrep⟩|⟨hno,rfl⟩
   . have HL:=U (xE f.o.rise r hr1 hr2 hre);have I:=U hrep;clear hre hrep;generalize v.items[r]=it at *;have F:O5 w (A.alloc (.cells #[.int .u8 it.kind,.int .i64 it.n,.string it.t,.slice an' it.names.length cn',.slice ai' it.items.length ci'] 25)):=g.o.alloc g.o.size _;have i:=U F;have x:=U (nP it b0 p1 an' ai' cn' ci' w.heap.size (A.alloc (.cells #[.int .u8 it.kind,.int .i64 it.n,.string it.t,.slice an' it.names.length cn',.slice ai' it.items.length ci'] 25)) (Rep.below I.o O4 lz lz (by simp)) (qq ((F.block _ (qz H.o)).trans H.o) rfl));clear F;unfold vL at x;by_cases hk:qL it b0=0
     . have z:=U (show qG v y b0 st=(it.items,⟨y :: st.asked,0⟩) by unfold qG;rw [Z6 (by simp [B.o]),HL.o];obtain ⟨q1,q2⟩:=uC hk;simp only;rw [Z6 (by simp [q1]),Z6 q2]);rw [show jI it b0=it.items by unfold jI;rw [Q1 hk],hk] at x;clear hk;go_wp2_with fail;refine x.o.mono ?_;clear x;rintro e G ⟨al,cl,rfl,P,R,q⟩;have a:=U (O2 i q);have d:=U (f.o.below a.o);have a0:=U R;have V:=U P;have a1:=O0 (w.heap.size<(A.alloc (.cells #[.int .u8 it.kind,.int .i64 it.n,.string it.t,.slice an' it.names.length cn',.slice ai' it.items.length ci'] 25)).heap.size) (by have:=g.o.size;simp;omega);have X:=O0 (m<w.heap.size) (by obtain ⟨D,n,h,_⟩:=f.o.map;exact h.lt);clear q i R P;have d5:=qq d.o.obj (j:=5) rfl;have s:Go.keyOf Tryz.prog 9 (.string y)=some (.string y.data.toList):=keyOf_string_mk X0 (by unfold maxLen;omega);obtain ⟨D,n,u,hn,hD⟩:=d.o.map;obtain ⟨c,E,a4,a5,a2⟩:=hD.2 y;obtain ⟨c',a3,p,_⟩:=u.lookup_int jq Y6 X5 (j8 _) s;rw [E] at p;simp only [H9,M4,H7] at p;subst p;have HD:=U (hD.cons y c E);have W:=U s;have Y:=U u;clear hD E a2 s u;go_wp2_with (at_mapUpdate;refine G8 _ rfl _ _ _ 150 rfl 9 3 jq Y6 _ m n D rfl Y.o (by unfold maxLen;omega) _ _ _ rfl rfl W.o _ [] (plainElem_int X5 (WalkArith.wf_i64 (by omega))) ?_);intro S hown3 hgrow3;have l:=U (d.o.ask y hgrow3 hown3 (by omega) HD.o);have J:=O0 (Touch (fun b=>b=o\/b=m) w S) (⟨by rw [hgrow3.os,a.o.os],by rw [hgrow3.tape,a.o.tape],by rw [hgrow3.output,a.o.output],Z5 a.o.size hgrow3.size,fun k hk hs=>by rw [hgrow3.block k (J7 hk a.o.size) (fun e=>hs (.inr (J0 e))),a.o.block k hk]⟩);have Z:=O0 (zj S w.heap.size S.heap.size al it.items) (a0.o.carry lz hgrow3.size fun b h1 h2=>hgrow3.block b h2 (fun e=>by have:=J0 e;have:=a1.o;have:=X.o;omega));clear hgrow3 hown3;rw [B.o] at l;go_wp2;go_ret;unfold vR;rw [z.o];exact ⟨⟨al,cl,rfl,V.o,Z.o⟩,l.o,J.o⟩
     . have z:=U (show qG v y b0 st=([],⟨st.asked,qL it b0⟩) by unfold qG;rw [Z6 (by simp [B.o]),HL.o];exact uD hk);rw [show jI it b0=[] by unfold jI;rw [Z6 hk]] at x;obtain ⟨C,Q⟩:=O1 (qL it b0);rw [<- Q] at x z hk;have a8:(C != 0)=true:=by simpa using hk
       have a9:(C == 0)=false:=by simpa using hk
       clear hk Q;go_wp2_with fail;refine x.o.mono ?_;clear x;rintro e G ⟨al,cl,rfl,-,-,q⟩;have a:=U (O2 i q);have d:=U (f.o.below a.o);clear q i;have L:G.cell? ⟨o,6,none⟩=some (.int .i64 0):=(qq (j:=6) d.o.obj rfl).trans (by rw [B.o];rfl);have K:G.cell? ⟨o,0,none⟩=some (.int .u8 5):=(qq (j:=0) d.o.obj rfl).trans (by rw [f.o.kind];rfl);have M:G.frozen? ⟨o,6,none⟩=false:=by simp [World.frozen?,d.o.obj]
       go_wp2_with fail
       refine (zD o C _ L K M).mono ?_;clear L K M;rintro e S ⟨rfl,rfl⟩;have l:=U (d.o.fail C);have J:=O0 (Touch (fun b=>b=o\/b=m) w (G.setCell ⟨o,6,none⟩ (.int .i64 C))) ((Touch.of_below a.o lz).setCell (.inl (.inl rfl)) _);go_wp2;go_ret;exact yY z.o l.o J.o
   . have z:=U (show qG v y b0 st=([],⟨st.asked,6⟩) by unfold qG;rw [Z6 (by simp [B.o]),show v.look y=none from xu _ _ _ hno]);unfold zeroAgg;have a:=O0 (O5 w (A.alloc (.cells #[.int .u8 0,.int .i64 0,.string ⟨#[]⟩,.slice none 0 0,.slice none 0 0] 25))) (g.o.alloc g.o.size _);have d:=U (f.o.below a.o);clear hno g;have L:(A.alloc (.cells #[.int .u8 0,.int .i64 0,.string ⟨#[]⟩,.slice none 0 0,.slice none 0 0] 25)).cell? ⟨o,6,none⟩=some (.int .i64 0):=(qq (j:=6) d.o.obj rfl).trans (by rw [B.o];rfl);have K:(A.alloc (.cells #[.int .u8 0,.int .i64 0,.string ⟨#[]⟩,.slice none 0 0,.slice none 0 0] 25)).cell? ⟨o,0,none⟩=some (.int .u8 5):=(qq (j:=0) d.o.obj rfl).trans (by rw [f.o.kind];rfl);have M:(A.alloc (.cells #[.int .u8 0,.int .i64 0,.string ⟨#[]⟩,.slice none 0 0,.slice none 0 0] 25)).frozen? ⟨o,6,none⟩=false:=by simp [World.frozen?,d.o.obj]
     go_wp2_with fail
     refine (zD o 6 _ L K M).mono ?_;clear L K M;rintro e S ⟨rfl,rfl⟩;have l:=U (d.o.fail 6);have J:=O0 (Touch (fun b=>b=o\/b=m) w ((A.alloc (.cells #[.int .u8 0,.int .i64 0,.string ⟨#[]⟩,.slice none 0 0,.slice none 0 0] 25)).setCell ⟨o,6,none⟩ (.int .i64 6))) ((Touch.of_below a.o lz).setCell (.inl (.inl rfl)) _);go_wp2;go_ret;exact yY z.o l.o J.o
 . have a6:(st.err == 0)=false:=by simpa using he
   have a7:(st.err != 0)=true:=by simpa using he
   have z:=U (show qG v y b0 st=([],st) by unfold qG;rw [Q1 he]);have B:=U he;clear he;go_enter Tryz.func127,Tryz.ntmps127;go_wp2_with fail;refine (q7 o st.err 5 w T c0 (fun _=>rfl)).mono ?_;rintro r w' ⟨rfl,rfl⟩;go_wp2;go_ret;exact yY z.o f.o (Touch.refl _ _)
theorem iG {o m lo hi:Nat} {v:JV} {an ai:Option Addr} {cn ci:Nat} {st:PS} {w:World} (y:ByteArray) (P:Nat) (h:zB o m lo hi v an ai cn ci st w) (S:y.size<=4294967296) (Q:st.asked.length<=4294967296) :
 Calls Tryz.prog 67 #[.pointer (some ⟨o,0,none⟩),.string y,.int .i64 P] w fun e w'=>(∃a c,e=.returned (.slice a (qG v y P st).1.length c)/\(qG v y P st).1.length<=c/\zj w' w.heap.size w'.heap.size a (qG v y P st).1)/\vd o m lo hi v an ai cn ci (qG v y P st).2 w w':=by
 have g:O5 w (w.alloc (.cells #[.int .i64 P] 3)):=O4;have u:=U (show Calls Tryz.prog 127 #[.pointer (some ⟨o,0,none⟩),.string y,.func (.func 128) #[] #[.pointer (some ⟨w.heap.size,0,none⟩)]] (w.alloc (.cells #[.int .i64 P] 3)) (fun e w'=>(∃a c,e=.returned (.slice a (qG v y P st).1.length c)/\(qG v y P st).1.length<=c/\zj w' w.heap.size w'.heap.size a (qG v y P st).1)/\vd o m lo hi v an ai cn ci (qG v y P st).2 w w') by
  have f:Touch (fun b=>b=o\/b=m) w (w.alloc (.cells #[.int .i64 P] 3)):=Touch.of_below g lz;rcases h with h|⟨⟨d,c6,k,c0⟩,j,h3,h4⟩
  . refine (nF o m lo hi v an ai cn ci y P st _ (h.below g) S Q w.heap.size (Z4 w _)).mono ?_;rintro e w' ⟨⟨a,c,F,K,G⟩,H,I⟩;exact ⟨⟨a,c,F,K,G.carry g.size lz (fun _ _ _=>rfl)⟩,.inl H,f.trans (I.mono fun _ _ h=>h)⟩
  . obtain ⟨i,l⟩:=O1 (w.alloc (.cells #[.int .i64 P] 3));rw [<- l] at g f ⊢;have q:=O0 (zB o m lo hi v an ai cn ci st i) ((zB.below (.inr ⟨⟨d,c6,k,c0⟩,j,h3,h4⟩) g));have J:i.cell? ⟨o,6,none⟩=some (.int .i64 st.err):=by rw [g.cell j];exact c6
    have E:i.cell? ⟨o,0,none⟩=some (.int .u8 k):=by rw [g.cell j];exact c0
    have M:(st.err == 0)=false:=by simpa using d
    have N:(st.err != 0)=true:=by simpa using d
    have C:=U d;have s:=U f;have D:=U (show qG v y P st=([],st) by unfold qG;rw [Q1 d]);clear d c6 c0 l g f;go_enter Tryz.func127,Tryz.ntmps127;go_wp2_with fail;refine (q7 o st.err k i J E (fun h=>absurd h C.o)).mono ?_;rintro r w' ⟨rfl,L⟩;subst L;go_wp2;go_ret;rw [D.o];exact ⟨⟨none,0,rfl,Z9 _,.inl rfl⟩,q.o,s.o⟩)
 clear h g;obtain ⟨R,x⟩:=O1 (qG v y P st);rw [<- x] at u ⊢;clear x;go_enter Tryz.func67,Tryz.ntmps67;go_wp2_with fail;refine u.o.mono ?_;rintro e w' ⟨⟨a,c,rfl,z,d⟩,j⟩;have p:=U z;clear z;have A:=U d;have B:=U j;clear d j;go_wp2;go_ret;exact ⟨⟨a,c,rfl,p.o,A.o⟩,B.o⟩
theorem dm (s:ByteArray) (w:World) :
 Calls Tryz.prog 135 #[.string s] w fun e w'=>e=.returned (.bool (gc s))/\w'=w:=by
 have j:(s.toList == [114,111,111,116])=decide (s=pO):=by rw [<- ba_eq,show pO.toList=[114,111,111,116] from by rw [J3];rfl]
 have k:(s.toList == [115,110,97,112,115,104,111,116])=decide (s=rE):=by rw [<- ba_eq,show rE.toList=[115,110,97,112,115,104,111,116] from by rw [J3];rfl]
 have l:(s.toList == [116,97,114,103,101,116,115])=decide (s=lj):=by rw [<- ba_eq,show lj.toList=[116,97,114,103,101,116,115] from by rw [J3];rfl]
 have a:=U (show gc s=(decide (s=pO) || (decide (s=rE) || decide (s=lj))) by unfold gc;simp only [Bool.decide_or]);obtain ⟨g,c⟩:∃b,b=decide (s=pO):=⟨_,rfl⟩;obtain ⟨h,d⟩:∃b,b=decide (s=rE):=⟨_,rfl⟩;obtain ⟨i,f⟩:∃b,b=decide (s=lj):=⟨_,rfl⟩;rw [<- c] at j a;rw [<- d] at k a;rw [<- f] at l a;clear c d f;cases g
 . cases h
   . cases i
     . go_enter Tryz.func135,Tryz.ntmps135;go_wp2;go_ret;exact ⟨qx a.o.symm,rfl⟩
     . go_enter Tryz.func135,Tryz.ntmps135;go_wp2;go_ret;exact ⟨qx a.o.symm,rfl⟩
   . go_enter Tryz.func135,Tryz.ntmps135;go_wp2;go_ret;exact ⟨qx a.o.symm,rfl⟩
 . go_enter Tryz.func135,Tryz.ntmps135;go_wp2;go_ret;exact ⟨qx a.o.symm,rfl⟩
theorem uL {s:ByteArray} (h:s.size<1\/256<s.size):q8 s=false:=by unfold q8;rw [Q8 (by omega)];rfl
theorem cK {s:ByteArray} (a:0<s.size) (h:s[0].toNat=47):q8 s=false:=by
 unfold q8;rw [vB s a];have:s[0]=47:=by apply UInt8.toNat_inj.1;exact h
 rw [this];simp
theorem nH {s:ByteArray} (a:0<s.size) (b:s.size<=256) (h:¬s[0].toNat=47):q8 s=wD s:=by unfold q8;rw [vB s a,Q9 (by omega)];have:¬s[0]=47:=fun e=>h (by rw [e];rfl);simp [this]
theorem yz (s:ByteArray) (w:World) (l:s.size<=9223372036854775807) :
 Calls Tryz.prog 34 #[.string s] w fun e w'=>e=.returned (.bool (q8 s))/\O5 w w':=by
 by_cases h0:s.size=0
 . have a:=U (uL (s:=s) (by omega));have k:=wm s h0;clear h0;go_enter Tryz.func34,Tryz.ntmps34;go_wp2;go_ret;exact ⟨qx a.o.symm,Z0 _ _⟩
 obtain ⟨j,i⟩:=yb s (by omega);have b:0<s.size:=by omega
 clear h0;by_cases h1:256<s.size
 . have a:=U (uL (s:=s) (by omega));go_enter Tryz.func34,Tryz.ntmps34;go_wp2;go_ret;exact ⟨qx a.o.symm,Z0 _ _⟩
 by_cases h2:s[0].toNat=47
 . have a:=U (cK b h2);have h:((s[0].toNat:Int) != 47)=false:=by simp;omega
   clear h2;go_enter Tryz.func34,Tryz.ntmps34;go_wp2;go_ret;exact ⟨qx a.o.symm,Z0 _ _⟩
 have h:((s[0].toNat:Int) != 47)=true:=by simp;omega
 have a:=U (nH b (by omega) h2);have c:=U (fun w=>gT s w l);rw [<- a.o] at c;have g:s.size<=256:=by omega
 clear h2 h1;go_enter Tryz.func34,Tryz.ntmps34;go_wp2_with (go_at_call 86;refine (c.o _).mono ?_;rintro e w' ⟨rfl,d⟩;have f:=U d;clear d);go_ret;exact ⟨rfl,f.o⟩
theorem gx (s:ByteArray) (w:World) (d:s.size<=9223372036854775807) :
 Calls Tryz.prog 138 #[.string s] w fun e w'=>e=.returned (.bool (q8 s))/\O5 w w':=by
 have c:=U (fun w=>yz s w d);go_enter Tryz.func138,Tryz.ntmps138;go_wp2_with (go_at_call 34;refine (c.o _).mono ?_;rintro e w' ⟨rfl,a⟩;have b:=U a;clear a);go_ret;exact ⟨rfl,b.o⟩
theorem dc {s:ByteArray} (h:s.size<1\/64<s.size):preB s=false:=by unfold preB;rw [Q8 (by omega)];rfl
theorem ac {s:ByteArray} (a:1<=s.size) (b:s.size<=64):preB s=xO s.data.toList:=by unfold preB;rw [Q9 ⟨a,b⟩];rfl
theorem nU (s:ByteArray) (w:World) (f:s.size<=9223372036854775807) :
 Calls Tryz.prog 139 #[.string s] w fun e w'=>e=.returned (.bool (preB s))/\w=w':=by
 by_cases h1:s.size<1
 . have a:=U (dc (s:=s) (.inl h1));go_enter Tryz.func139,Tryz.ntmps139;go_wp2;go_ret;exact ⟨qx a.o.symm,rfl⟩
 by_cases h2:64<s.size
 . have a:=U (dc (s:=s) (.inr h2));go_enter Tryz.func139,Tryz.ntmps139;go_wp2;go_ret;exact ⟨qx a.o.symm,rfl⟩
 have c:1<=s.size:=by omega
 have d:s.size<=64:=by omega
 have a:=U (ac c d);have b:=U (fun w=>rM s w f);rw [<- a.o] at b;clear h1 h2;go_enter Tryz.func139,Tryz.ntmps139;go_wp2_with (go_at_call 195;refine (b.o _).mono ?_;rintro e w' ⟨rfl,rfl⟩);go_ret;exact ⟨rfl,rfl⟩
theorem uR {α:Type} {f:α->Bool} {l:List α} {k:Nat} (a:k<l.length) (h:f l[k]=false):l.all f=false:=N9.2 ⟨_,J1 a,by rw [h];decide⟩
theorem dd {α:Type} {f:α->Bool} {l:List α} {n:Nat} (b:l.length<=n) (h:∀j (a:j<l.length),j<n->f l[j]=true):l.all f=true:=by rw [X3];intro x hx;obtain ⟨j,a,rfl⟩:=Y1 hx;exact h j a (by omega)
theorem pe (l:List ByteArray) (a:Option Addr) (c:Nat) (w:World) (W:qy w 0 w.heap.size a l) (Y:l.length<=4294967296) (X:∀s ∈ l,s.size<=4294967296) :
 Calls Tryz.prog 137 #[.slice a l.length c,.func (.func (138:Nat)) #[] #[]] w fun e w'=>e=.returned (.bool (decide (l.length<=32) && l.all q8))/\O5 w w':=by
 have J:=U W;have K:=U X;clear W X;obtain ⟨n,F⟩:=O1 l.length;have G:=U F;rw [<- F] at Y ⊢;clear F;obtain ⟨V,E⟩:=O1 ((decide (n<=32) && l.all q8));have z:=U E;rw [<- E];clear E;by_cases h32:32<n
 . rw [Q8 (by omega),K9] at z;have L:decide (32<(n:Int))=true:=by rw [Z7];omega
   go_enter Tryz.func137,Tryz.ntmps137;go_wp2;go_ret;exact ⟨qx z.o.symm,Z0 _ _⟩
 have L:decide (32<(n:Int))=false:=by rw [X1];omega
 rw [Q9 (by omega),X2] at z;go_enter Tryz.func137,Tryz.ntmps137;go_wp2;go_loopw [6,12] (fun _ i wr=>∃k:Nat,k<=n/\i=.int .i64 k/\(∀j (h:j<l.length),j<k->q8 l[j]=true)/\O5 w wr) (fun _ i _=>n - (intOf i).toNat)
 case atStart=>exact ⟨0,by omega,rfl,fun j _ h=>by omega,Z0 _ _⟩
 case round =>
  obtain ⟨k,R,rfl,B,A⟩:=hrel;have v:=U B;have d:=U A;clear B A;by_cases hlt:k<n
  . have r:k<l.length:=by rw [<- G.o];exact hlt
    obtain ⟨b,o,N,-,u,M⟩:=(J.o.below d.o lz lz lz).at k r;subst N;have S:(0:Int)<=(k:Int):=by omega
    have T:(k:Int)<(n:Int):=by omega
    have P:decide ((k:Int)<(n:Int))=true:=by simpa using hlt
    have g:=U (uR (f:=q8) r);have p:=U (show q8 l[k]=true->∀j (h:j<l.length),j<k+1->q8 l[j]=true from fun h0 j hj hjk=>by
     rcases V3.1 hjk with h1|h1
     . exact v.o j hj h1
     . subst h1;exact h0)
    have C:=K.o l[k] (J1 r);obtain ⟨q,H⟩:=O1 (l[k]);rw [<- H] at M g p C;have D:=U (fun w=>gx q w (by omega));obtain ⟨y,I⟩:=O1 (q8 q);rw [<- I] at D g p;clear H I C;cases y with
    | false => have x:=U (z.o.trans (g.o rfl));go_wp2_with (go_at_call 138;refine (D.o _).mono ?_;rintro e Q ⟨rfl,u⟩;have m:=U u;clear u);go_ret;exact ⟨qx x.o.symm,d.o.trans (m.o.mono d.o.size)⟩
    | true =>
     have x:=U (p.o rfl);go_wp2_with (go_at_call 138;refine (D.o _).mono ?_;rintro e Q ⟨rfl,u⟩;have m:=U u;clear u);go_roundw
     case rel=>exact ⟨k+1,by omega,by go_num,x.o,d.o.trans (m.o.mono d.o.size)⟩
     case measure=>simp [intOf];omega
  . have P:decide ((k:Int)<(n:Int))=false:=by simpa using hlt
    have x:=U (z.o.trans (dd (f:=q8) (l:=l) (n:=k) (by rw [<- G.o];omega) v.o));go_wp2;go_ret;exact ⟨qx x.o.symm,d.o⟩
theorem fD (l:List ByteArray) (a:Option Addr) (c:Nat) (w:World) (T:qy w 0 w.heap.size a l) (X:l.length<=4294967296) (W:∀s ∈ l,s.size<=4294967296) :
 Calls Tryz.prog 137 #[.slice a l.length c,.func (.func (139:Nat)) #[] #[]] w fun e w'=>e=.returned (.bool (decide (l.length<=32) && l.all preB))/\O5 w w':=by
 have H:=U T;have I:=U W;clear T W;obtain ⟨n,D⟩:=O1 l.length;have E:=U D;rw [<- D] at X ⊢;clear D;obtain ⟨V,C⟩:=O1 ((decide (n<=32) && l.all preB));have v:=U C;rw [<- C];clear C;by_cases h32:32<n
 . rw [Q8 (by omega),K9] at v;have J:decide (32<(n:Int))=true:=by rw [Z7];omega
   go_enter Tryz.func137,Tryz.ntmps137;go_wp2;go_ret;exact ⟨qx v.o.symm,Z0 _ _⟩
 have J:decide (32<(n:Int))=false:=by rw [X1];omega
 rw [Q9 (by omega),X2] at v;go_enter Tryz.func137,Tryz.ntmps137;go_wp2;go_loopw [6,12] (fun _ i wr=>∃k:Nat,k<=n/\i=.int .i64 k/\(∀j (h:j<l.length),j<k->preB l[j]=true)/\O5 w wr) (fun _ i _=>n - (intOf i).toNat)
 case atStart=>exact ⟨0,by omega,rfl,fun j _ h=>by omega,Z0 _ _⟩
 case round =>
  obtain ⟨k,Q,rfl,z,x⟩:=hrel;have r:=U z;have g:=U x;clear z x;by_cases hlt:k<n
  . have p:k<l.length:=by rw [<- E.o];exact hlt
    obtain ⟨b,o,L,-,P,K⟩:=(H.o.below g.o lz lz lz).at k p;subst L;have R:(0:Int)<=(k:Int):=by omega
    have S:(k:Int)<(n:Int):=by omega
    have M:decide ((k:Int)<(n:Int))=true:=by simpa using hlt
    have d:=U (uR (f:=preB) p);have m:=U (show preB l[k]=true->∀j (h:j<l.length),j<k+1->preB l[j]=true from fun h0 j hj hjk=>by
     rcases V3.1 hjk with h1|h1
     . exact r.o j hj h1
     . subst h1;exact h0)
    have A:=I.o l[k] (J1 p);obtain ⟨q,F⟩:=O1 (l[k]);rw [<- F] at K d m A;have B:=U (fun w=>nU q w (by omega));obtain ⟨y,G⟩:=O1 (preB q);rw [<- G] at B d m;clear F G A;cases y with
    | false => have u:=U (v.o.trans (d.o rfl));go_wp2_with (go_at_call 139;refine (B.o _).mono ?_;rintro e N ⟨rfl,rfl⟩);go_ret;exact ⟨qx u.o.symm,g.o⟩
    | true =>
     have u:=U (m.o rfl);go_wp2_with (go_at_call 139;refine (B.o _).mono ?_;rintro e N ⟨rfl,rfl⟩);go_roundw
     case rel=>exact ⟨k+1,by omega,by go_num,u.o,g.o⟩
     case measure=>simp [intOf];omega
  . have M:decide ((k:Int)<(n:Int))=false:=by simpa using hlt
    have u:=U (v.o.trans (dd (f:=preB) (l:=l) (n:=k) (by rw [<- E.o];omega) r.o));go_wp2;go_ret;exact ⟨qx u.o.symm,g.o⟩
theorem bN (l:List Int) (a:Array Value) {i:Nat} (hi:i<l.length):((l.map (Value.int .i32)).toArray ++ a)[i]?=some (.int .i32 (l.getD i 0)):=by rw [Array.getElem?_append_left (by simpa using hi)];simp [hi]
theorem cV (p s:ByteArray) (w:World) (hp:p.size<=9223372036854775807) (hs:s.size<=9223372036854775807) :
 Calls Tryz.prog 311 #[.string p,.string s] w fun e w'=>e=.returned (.bool (jT runes p s))/\O5 w w':=by
 have C:=U (fun w=>gx p w hp);have G:=U (fun w=>yz s w hs);have q:=O0 (jT runes p s=(q8 p && q8 s && up (runes p) (runes s))) rfl;have r:=O0 (q8 p=true->p.size<=256) (fun h=>by unfold q8 at h;simp only [Q0,Z7] at h;exact h.1.1.2);have u:=O0 (q8 s=true->s.size<=256) (fun h=>by unfold q8 at h;simp only [Q0,Z7] at h;exact h.1.1.2);obtain ⟨v,y⟩:∃b,b=q8 p:=⟨_,rfl⟩;obtain ⟨x,z⟩:∃b,b=q8 s:=⟨_,rfl⟩;rw [<- y] at C q r;rw [<- z] at G q u;clear y z;cases v
 . go_enter Tryz.func311,Tryz.ntmps311;go_wp2_with (go_at_call 138;refine (C.o _).mono ?_;rintro e w' ⟨rfl,a⟩;have m:=U a;clear a);go_ret;exact ⟨qx q.o.symm,m.o⟩
 cases x
 . go_enter Tryz.func311,Tryz.ntmps311;go_wp2_with (first|(go_at_call 138;refine (C.o _).mono ?_;rintro e w' ⟨rfl,a⟩;have m:=U a;clear a)|(go_at_call 34;refine (G.o _).mono ?_;rintro e w' ⟨rfl,a⟩;have j:=U a;clear a));go_ret;exact ⟨qx q.o.symm,m.o.trans (j.o.mono m.o.size)⟩
 go_enter Tryz.func311,Tryz.ntmps311;go_upto_region 3 with (first|(go_at_call 138;refine (C.o _).mono ?_;rintro e Y ⟨rfl,a⟩;have m:=U a;clear a)|(go_at_call 34;refine (G.o _).mono ?_;rintro e k ⟨rfl,a⟩;have j:=U a;clear a))
 have S:(runes p).length<=256:=Z5 (p5 p) (r.o (by simp));have T:(runes s).length<=256:=Z5 (p5 s) (u.o (by simp));have J:(Conv.runesFrom p p.size 0 #[]).size=(runes p).length:=by rw [kx];simp
 have K:(Conv.runesFrom s s.size 0 #[]).size=(runes s).length:=by rw [kx];simp
 have H:=run_runes_of_string (P:=Tryz.prog) k 9 204 21 p X0 Tryz.underlying204 Tryz.underlying21 (by rw [J];omega);rw [J] at H;obtain ⟨D,A⟩:∃g,g=grownCap k (runes p).length 0 21:=⟨_,rfl⟩;rw [<- A,kx] at H;obtain ⟨c,d⟩:∃W,W=k.drew.alloc (.cells (((runes p).map (Value.int .i32)).toArray ++ Array.replicate (D - (runes p).length) (.int .i32 0)) 21):=⟨_,rfl⟩;rw [<- d] at H;have I:=run_runes_of_string (P:=Tryz.prog) c 9 204 21 s X0 Tryz.underlying204 Tryz.underlying21 (by rw [K];omega);rw [K] at I;obtain ⟨E,B⟩:∃g,g=grownCap c (runes s).length 0 21:=⟨_,rfl⟩;rw [<- B,kx] at I;obtain ⟨l,f⟩:∃W,W=c.drew.alloc (.cells (((runes s).map (Value.int .i32)).toArray ++ Array.replicate (E - (runes s).length) (.int .i32 0)) 21):=⟨_,rfl⟩;rw [<- f] at I;have v:O5 k c:=by rw [d];exact (Below.drewN (Z0 _ _) 1).alloc lz _
 have x:O5 c l:=by rw [f];exact (Below.drewN (Z0 _ _) 1).alloc lz _
 have Q:k.heap.size<c.heap.size:=by rw [d];simp
 have X:c.heap.size<l.heap.size:=by rw [f];simp
 have x1:c.heap[k.heap.size]?=some (.cells (((runes p).map (Value.int .i32)).toArray ++ Array.replicate (D - (runes p).length) (.int .i32 0)) 21 (0,0)):=by rw [d];exact Z4 k.drew _
 have x2:l.heap[c.heap.size]?=some (.cells (((runes s).map (Value.int .i32)).toArray ++ Array.replicate (E - (runes s).length) (.int .i32 0)) 21 (0,0)):=by rw [f];exact Z4 c.drew _
 have M:xg l 0 l.heap.size (some ⟨k.heap.size,0,none⟩) (runes p):=(by refine .inr ⟨_,0,rfl,Q2 _,by omega,fun i hi=>?_⟩;have V:=(x.block _ Q).trans x1;have L:=bN (runes p) (Array.replicate (D - (runes p).length) (.int .i32 0)) hi;simp only [World.cell?,V];simpa using L);have N:xg l 0 l.heap.size (some ⟨c.heap.size,0,none⟩) (runes s):=(by refine .inr ⟨_,0,rfl,Q2 _,by omega,fun i hi=>?_⟩;have L:=bN (runes s) (Array.replicate (E - (runes s).length) (.int .i32 0)) hi;simp only [World.cell?,x2];simpa using L);have R:=U (dN (runes p) (runes s) _ _ D E l M N (by omega) (by omega));have o:=U (m.o.trans ((j.o.trans ((v.trans (x.mono v.size)).mono j.o.size)).mono m.o.size));clear M N x1 x2 Q X v x d f A B J K S T;go_wp2_with (go_at_call 312;refine R.o.mono ?_;rintro e Z ⟨rfl,a⟩;have F:=U a;clear a);go_ret;exact ⟨qx q.o.symm,o.o.trans (F.o.mono o.o.size)⟩
theorem bS {α:Type} {f:α->Bool} {l:List α} {n:Nat} (b:l.length<=n) (h:∀j (a:j<l.length),j<n->f l[j]=false):l.any f=false:=by rw [List.any_eq_false];intro x hx;obtain ⟨j,a,rfl⟩:=Y1 hx;rw [h j a (by omega)];decide
theorem fL {α:Type} {f:α->Bool} {l:List α} {k:Nat} (a:k<l.length) (h:f l[k]=true):l.any f=true :=
 M5.2 ⟨_,J1 a,h⟩
theorem lH (l:List ByteArray) (path:ByteArray) (a:Option Addr) (c:Nat) (w:World) (R:qy w 0 w.heap.size a l) (T:l.length<=4294967296) (S:∀s ∈ l,s.size<=4294967296) (V:path.size<=4294967296) :
 Calls Tryz.prog 310 #[.slice a l.length c,.string path] w fun e w'=>(∃n,e=.returned (.tuple #[.int .i64 n,.bool (l.any fun q=>jT runes q path)]))/\O5 w w':=by
 have H:=U R;have I:=U S;clear R S;obtain ⟨n,D⟩:=O1 l.length;have E:=U D;rw [<- D] at T ⊢;clear D;go_enter Tryz.func310,Tryz.ntmps310;go_wp2;go_loopw [6,7,10] (fun _ _ i wr=>∃k:Nat,k<=n/\i=.int .i64 k/\(∀j (h:j<l.length),j<k->jT runes l[j] path=false)/\O5 w wr) (fun _ _ i _=>n - (intOf i).toNat)
 case atStart=>exact ⟨0,by omega,rfl,fun j _ h=>by omega,Z0 _ _⟩
 case round =>
  obtain ⟨k,N,rfl,A,z⟩:=hrel;have v:=U A;have d:=U z;clear A z;by_cases hlt:k<n
  . have r:k<l.length:=by rw [<- E.o];exact hlt
    obtain ⟨b,o,K,-,u,J⟩:=(H.o.below d.o lz lz lz).at k r;subst K;have P:(0:Int)<=(k:Int):=by omega
    have Q:(k:Int)<(n:Int):=by omega
    have L:decide ((k:Int)<(n:Int))=true:=by simpa using hlt
    have g:=U (fL (f:=fun q=>jT runes q path) r);have p:=U (show jT runes l[k] path=false->∀j (h:j<l.length),j<k+1->jT runes l[j] path=false from fun h0 j hj hjk=>by
     rcases V3.1 hjk with h1|h1
     . exact v.o j hj h1
     . subst h1;exact h0)
    have B:=I.o l[k] (J1 r);obtain ⟨q,F⟩:=O1 (l[k]);rw [<- F] at J g p B;have C:=U (fun w=>cV q path w (by omega) (by omega));obtain ⟨y,G⟩:=O1 (jT runes q path);rw [<- G] at C g p;clear F G B;cases y with
    | true => have x:=U (g.o rfl);go_wp2_with (go_at_call 311;refine (C.o _).mono ?_;rintro e M ⟨rfl,u⟩;have m:=U u;clear u);go_ret2;exact ⟨⟨_,by rw [x.o];rfl⟩,d.o.trans (m.o.mono d.o.size)⟩
    | false =>
     have x:=U (p.o rfl);go_wp2_with (go_at_call 311;refine (C.o _).mono ?_;rintro e M ⟨rfl,u⟩;have m:=U u;clear u);go_roundw
     case rel=>exact ⟨k+1,by omega,by go_num,x.o,d.o.trans (m.o.mono d.o.size)⟩
     case measure=>simp [intOf];omega
  . have L:decide ((k:Int)<(n:Int))=false:=by simpa using hlt
    have x:=U (bS (f:=fun q=>jT runes q path) (l:=l) (n:=k) (by rw [<- E.o];omega) v.o);go_wp2;go_ret2;exact ⟨⟨_,by rw [x.o];rfl⟩,d.o⟩
theorem ar (l:List ByteArray) (path:ByteArray) (a:Option Addr) (c:Nat) (w:World) (h:qy w 0 w.heap.size a l) (i:l.length<=4294967296) (k:∀s ∈ l,s.size<=4294967296) (j:path.size<=4294967296) :
 Calls Tryz.prog 309 #[.slice a l.length c,.string path] w fun e w'=>e=.returned (.bool (l.any fun q=>jT runes q path))/\O5 w w':=by
 have f:=U (lH l path a c w h i k j);clear h;go_enter Tryz.func309,Tryz.ntmps309;go_wp2_with (go_at_call 310;refine f.o.mono ?_;rintro e g ⟨⟨m,rfl⟩,d⟩;have b:=U d;clear d);go_ret;exact ⟨rfl,b.o⟩
theorem yx (l:List DelegV) (a0:ByteArray) (a:Option Addr) (c:Nat) (w:World) (hA:q9 w 0 w.heap.size a l) (hl:l.length<=4294967296) :
 Calls Tryz.prog 126 #[.slice a l.length c,.string a0] w fun e w'=>e=.returned (.bool (l.any fun y=>decide (y.name=a0)))/\O5 w w':=by
 have T:=U hA;clear hA;obtain ⟨n,H⟩:=O1 l.length;have J:=U H;rw [<- H] at hl ⊢;clear H;obtain ⟨V,G⟩:=O1 (l.any (fun y=>decide (y.name=a0)));have K:=U G;rw [<- G];clear G;go_enter Tryz.func126,Tryz.ntmps126;go_wp2;go_loopw [6,9] (fun _ i wr=>∃k:Nat,k<=n/\i=.int .i64 k/\(∀j (h:j<l.length),j<k->decide (l[j].name=a0)=false)/\O5 w wr) (fun _ i _=>n - (intOf i).toNat)
 case atStart=>exact ⟨0,by omega,rfl,fun j _ h=>by omega,Z0 _ _⟩
 case round =>
  obtain ⟨k,hk,rfl,D,A⟩:=hrel;have u:=U D;have d:=U A;clear D A;by_cases hlt:k<n
  . have B:k<l.length:=by rw [<- J.o];exact hlt
    obtain ⟨b,o,ha,-,hb,M,N,P,Q,R,S,L,W,X,Y,Z,e5,-⟩:=(T.o.below d.o lz lz d.o.size).at k B;subst ha;have m1:(0:Int)<=(k:Int):=by omega
    have m2:(k:Int)<(n:Int):=by omega
    have m3:decide ((k:Int)<(n:Int))=true:=by simpa using hlt
    have g:=U (fL (f:=fun y:DelegV=>decide (y.name=a0)) B);have q:=U (show decide (l[k].name=a0)=false->∀j (h:j<l.length),j<k+1->decide (l[j].name=a0)=false from fun h0 j hj hjk=>by
     rcases V3.1 hjk with h1|h1
     . exact u.o j hj h1
     . subst h1;exact h0)
    have p:=O0 ((l[k].name.toList == a0.toList)=decide (l[k].name=a0)) ba_eq;obtain ⟨r,C⟩:=O1 (l[k].name);rw [<- C] at L g q p;obtain ⟨y,I⟩:=O1 (decide (r=a0));have hq:(r.toList == a0.toList)=y:=by rw [I];exact p.o
    rw [<- I] at g q;clear C I p;generalize l[k].au=au at *;generalize l[k].term=tm at *;generalize l[k].paths=ps at *;generalize l[k].pres=qs at *;obtain ⟨F,m⟩:=O1 (wr.alloc (.cells #[.string r,.int .i64 au.thr,.slice M au.ids.length N,.bool tm,.slice P ps.length Q,.slice R qs.length S] 41));have z:=O7 m
    have E:=O9 m
    have s:=U (O2 d z);have x:=U m;have z0:=qq E (j:=0) rfl;clear z E m;go_upto_region 4 with fail
    rw [<- x.o];clear L W X Y Z e5 x;cases y with
    | false =>
     have v:=U (q.o rfl);go_wp2;go_roundw
     case rel=>exact ⟨k+1,by omega,by go_num,v.o,s.o⟩
     case measure=>simp [intOf];omega
    | true => have v:=U (K.o.trans (g.o rfl));go_wp2;go_ret;exact ⟨qx v.o.symm,s.o⟩
  . have m3:decide ((k:Int)<(n:Int))=false:=by simpa using hlt
    have v:=U (K.o.trans (bS (f:=fun y:DelegV=>decide (y.name=a0)) (l:=l) (n:=k) (by rw [<- J.o];omega) u.o));go_wp2;go_ret;exact ⟨qx v.o.symm,d.o⟩
structure DelegC where
 x:DelegV
 ia:Option Addr
 ic:Nat
 pa:Option Addr
 pc:Nat
 qa:Option Addr
 qc:Nat
def aa (q:DelegC):List Value:=[.string q.x.name,.int .i64 q.x.au.thr,.slice q.ia q.x.au.ids.length q.ic,.bool q.x.term,.slice q.pa q.x.paths.length q.pc,.slice q.qa q.x.pres.length q.qc]
theorem nM (q:DelegC):(aa q).length=6:=rfl
def delP (w:World) (lo hi:Nat) (q:DelegC):Prop:=q.x.au.ids.length<=q.ic/\q.x.paths.length<=q.pc/\q.x.pres.length<=q.qc/\DelegIn w lo hi q.x q.ia q.pa q.qa
theorem wV:bf delP:=fun _ _ _ _ _ hs h=>⟨h.1,h.2.1,h.2.2.1,h.2.2.2.carry lz lz hs⟩
def jZ (T B:Nat) (w:World) (vs:Value) (qs:List DelegC):Prop:=ItemsOwn T 6 B aa delP w vs qs
theorem jZ.row {T B:Nat} {w:World} {v:Value} {E:List DelegC} {l:List DelegV} (h:jZ T B w v E) (F:E.map (·.x)=l):∃a c,v=.slice a l.length c/\l.length<=c/\q9 w B w.heap.size a l:=by
 have o:=ItemsOwn.own h;have p:∃a n c,v=.slice a n c:=by
  rcases o.2 with ⟨rfl,_⟩|⟨g,cap,cur,rfl,_⟩
  . exact ⟨_,_,_,rfl⟩
  . exact ⟨_,_,_,rfl⟩
 obtain ⟨a,n,c,rfl⟩:=p;obtain ⟨j,k,f⟩:=ItemsOwn.cells nM h;subst F;subst j;rw [J6];refine ⟨a,c,rfl,k,?_⟩;rcases f with f|⟨g,rfl,hg,hlt,hf,hc⟩
 . exact .inl (by rw [f];rfl)
 . refine .inr ⟨g,0,rfl,hg,hlt,fun i hi=>?_⟩;have d:i<E.length:=by simpa using hi
   obtain ⟨D,m,r,s,C,u,y,z,A⟩:=ItemsOwn.each h E[i] (J1 d);have e:(E.map (·.x))[i]=E[i].x:=N4 ..;rw [e];have b:=fun q (hq:q<6)=>hc i d q hq;simp only [N6];exact ⟨E[i].ia,E[i].ic,E[i].pa,E[i].pc,E[i].qa,E[i].qc,b 0 (by decide),b 1 (by decide),b 2 (by decide),b 3 (by decide),b 4 (by decide),b 5 (by decide),u,y,z,A.carry r s (fun _ _ _=>rfl)⟩
theorem dl (k:Nat) (w:World) (c:1<=k) (d:k<=32):Calls Tryz.prog 170 #[.int .i64 k] w fun e w'=>e=.returned (.bool true)/\w'=w:=by
 have b:decide ((k:Int)<=32)=true:=by rw [Z7];omega
 have a:decide (1<=(k:Int))=true:=by rw [Z7];omega
 go_enter Tryz.func170,Tryz.ntmps170;go_wp2;go_ret;exact ⟨rfl,rfl⟩
theorem fq (k:Nat) (w:World) (b:k<=32):Calls Tryz.prog 171 #[.int .i64 k] w fun e w'=>e=.returned (.int .i64 ((bP k:Nat):Int))/\w'=w:=by have a:=U (show ((bP k:Nat):Int)=((k:Int)+3) / 4 by unfold bP;omega);go_enter Tryz.func171,Tryz.ntmps171;go_wp2;go_ret;exact ⟨by rw [a.o];first|rfl|go_num,rfl⟩
theorem yG (t A:Int) (ids:List ByteArray) (B:ByteArray) (C:Option Addr) (D:Nat) (w:World) (G:B.size<=4294967296) (F:-9223372036854775808<=A/\A<=9223372036854775807) :
 Calls Tryz.prog 99 #[.agg #[.int .i64 t,.slice C ids.length D,.int .i64 A,.string B]] w fun e w'=>e=.returned (.int .i64 (zT ⟨A,B,⟨t,ids⟩⟩))/\O5 w w':=by
 obtain ⟨W,l⟩:=O1 (w.alloc (.cells #[.int .i64 t,.slice C ids.length D,.int .i64 A,.string B] 33));have i:=O7 l
 have o:=O9 l
 have g:=U i;have b:=U l;have y:=qq o (j:=2) rfl;have z:=qq o (j:=3) rfl;have a:=O0 (zT ⟨A,B,⟨t,ids⟩⟩=if A<1\/32<A then 1 else if zl B.data.toList=false then 3 else if 64<B.size+1+(A.toNat+3) / 4 then 5 else 0) rfl;obtain ⟨E,p⟩:=O1 (zT ⟨A,B,⟨t,ids⟩⟩);rw [<- p] at a ⊢;clear i o l p;by_cases h1:A<1
 . rw [Q1 (.inl h1)] at a;go_enter Tryz.func99,Tryz.ntmps99;go_upto_region 1 with fail
   rw [<- b.o];clear b;go_wp2;go_ret;exact ⟨by rw [a.o];rfl,g.o⟩
 by_cases h2:32<A
 . rw [Q1 (.inr h2)] at a;have r:decide (A<=32)=false:=by rw [X1];omega
   have q:decide (1<=A)=true:=by rw [Z7];omega
   go_enter Tryz.func99,Tryz.ntmps99;go_upto_region 1 with fail
   rw [<- b.o];clear b;go_wp2;go_ret;exact ⟨by rw [a.o];rfl,g.o⟩
 rw [Z6 (by omega)] at a;obtain ⟨k,rfl⟩:∃k:Nat,A=(k:Int):=⟨A.toNat,by omega⟩;have h:=U (fun w=>jP B w (by omega));rw [Int.toNat_natCast] at a;have v:1<=k:=by omega
 have x:k<=32:=by omega
 have r:decide ((k:Int)<=32)=true:=by rw [Z7];omega
 have q:decide (1<=(k:Int))=true:=by rw [Z7];omega
 have m:=U (fun w=>dl k w (by omega) (by omega));have d:=U (fun w=>fq k w (by omega));obtain ⟨f,c⟩:=O1 (bP k);rw [<- c] at d;have u:f<=8:=by rw [c];unfold bP;omega
 rw [show (k+3) / 4=f from c.symm] at a;clear h1 h2 F c;cases hr:zl B.data.toList
 . rw [hr] at h a;rw [Q1 rfl] at a;clear hr;go_enter Tryz.func99,Tryz.ntmps99;go_upto_region 1 with fail
   rw [<- b.o];clear b;go_wp2_with (first|(go_at_call 170;refine (m.o _).mono ?_;rintro e j ⟨rfl,rfl⟩)|(go_at_call 134;refine (h.o _).mono ?_;rintro e j ⟨rfl,rfl⟩));go_ret;exact ⟨by rw [a.o];rfl,g.o⟩
 rw [hr] at h a;rw [Z6 (by decide)] at a;clear hr;by_cases h3:64<B.size+1+f
 . rw [Q1 h3] at a;have s:decide ((64:Int)<(B.size:Int)+1+(f:Int))=true:=by rw [Z7];omega
   go_enter Tryz.func99,Tryz.ntmps99;go_upto_region 1 with fail
   rw [<- b.o];clear b;go_wp2_with (first|(go_at_call 170;refine (m.o _).mono ?_;rintro e j ⟨rfl,rfl⟩)|(go_at_call 134;refine (h.o _).mono ?_;rintro e j ⟨rfl,rfl⟩));go_quiet ((go_at_call 171;exact Calls.quiet_of_same (d.o _)));go_wp2;go_ret;exact ⟨by rw [a.o];rfl,Below.drewN g.o _⟩
 . rw [Z6 h3] at a;have s:decide ((64:Int)<(B.size:Int)+1+(f:Int))=false:=by rw [X1];omega
   go_enter Tryz.func99,Tryz.ntmps99;go_upto_region 1 with fail
   rw [<- b.o];clear b;go_wp2_with (first|(go_at_call 170;refine (m.o _).mono ?_;rintro e j ⟨rfl,rfl⟩)|(go_at_call 134;refine (h.o _).mono ?_;rintro e j ⟨rfl,rfl⟩));go_quiet ((go_at_call 171;exact Calls.quiet_of_same (d.o _)));go_wp2;go_ret;exact ⟨by rw [a.o];rfl,Below.drewN g.o _⟩
