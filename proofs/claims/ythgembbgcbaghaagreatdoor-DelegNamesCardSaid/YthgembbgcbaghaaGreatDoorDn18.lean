import Derived.Test.YthgembbgcbaghaaGreatDoorDn17
set_option maxHeartbeats 4000000
set_option maxRecDepth 100000

namespace Go.Proofs.YthgembbgcbaghaaGreatDoor
open Go.RowKit Go.WideMaps Go.Maps
def zL (k n l h:Int):Int:=if k≠2 then 10 else if n<l\/h<n then 1 else 0
def jx (k n l h:Int):Int:=if k≠2 then 0 else if n<l\/h<n then 0 else n
theorem pL {k n l h:Int} (e:zL k n l h=0):k=2/\¬(n<l\/h<n):=by
 unfold zL at e;split at e
 . omega
 split at e
 . omega
 . exact ⟨by omega,by omega⟩
theorem lg {k n l h:Int} (e:zL k n l h=0):jx k n l h=n:=by obtain ⟨a,b⟩:=pL e;unfold jx;rw [Z6 (by simp [a]),Z6 b]
theorem lf {k n l h:Int} (e:¬zL k n l h=0):jx k n l h=0:=by
 unfold zL at e;unfold jx;split
 . rfl
 split
 . rfl
 . rename_i a b;rw [Z6 a,Z6 b] at e;omega
theorem lh {it:JV} {a:List ByteArray} {l h:Int} {X:Int × PS} (e:¬zL it.kind it.n l h=0) :
 (if it.kind≠2 then ((0:Int),(⟨a,10⟩:PS)) else if it.n<l\/h<it.n then (0,⟨a,1⟩) else X)=(0,⟨a,zL it.kind it.n l h⟩):=by
 unfold zL at e ⊢;split
 . rfl
 split
 . rfl
 . rename_i a b;rw [Z6 a,Z6 b] at e;omega
theorem sI (k n:Int) (t:ByteArray) (a b:Value) (l h:Int) (p q:Nat) (w:World) (r:w.cell? ⟨p,0,none⟩=some (.int .i64 l)) (s:w.cell? ⟨q,0,none⟩=some (.int .i64 h)) :
 Calls Tryz.prog 185 #[.agg #[.int .u8 k,.int .i64 n,.string t,a,b],.pointer (some ⟨p,0,none⟩),.pointer (some ⟨q,0,none⟩)] w fun e w'=>e=.returned (.tuple #[.int .i64 (jx k n l h),.int .i64 (zL k n l h)])/\O5 w w':=by
 have f:O5 w (w.alloc (.cells #[.int .u8 k,.int .i64 n,.string t,a,b] 25)):=O4;have m:(w.alloc (.cells #[.int .u8 k,.int .i64 n,.string t,a,b] 25)).cell? ⟨p,0,none⟩=some (.int .i64 l):=by rw [f.cell (V9 w _ r)];exact r
 have o:(w.alloc (.cells #[.int .u8 k,.int .i64 n,.string t,a,b] 25)).cell? ⟨q,0,none⟩=some (.int .i64 h):=by rw [f.cell (V9 w _ s)];exact s
 have d:=U f;clear f;by_cases hk:k=2
 . subst hk;by_cases h1:n<l
   . have c:=U (show jx 2 n l h=0/\zL 2 n l h=1 by unfold jx zL;simp [h1]);have g:decide (n<l)=true:=by simpa using h1
     go_enter Tryz.func185,Tryz.ntmps185;go_wp2;go_ret2;exact ⟨by rw [c.o.1,c.o.2];rfl,d.o.trans (by first|exact Z0 _ _|exact (Z0 _ _).drew)⟩
   . have g:decide (n<l)=false:=by simpa using h1
     by_cases h2:h<n
     . have c:=U (show jx 2 n l h=0/\zL 2 n l h=1 by unfold jx zL;simp [h2]);have i:decide (h<n)=true:=by simpa using h2
       go_enter Tryz.func185,Tryz.ntmps185;go_wp2;go_ret2;exact ⟨by rw [c.o.1,c.o.2];rfl,d.o.trans (by first|exact Z0 _ _|exact (Z0 _ _).drew)⟩
     . have c:=U (show jx 2 n l h=n/\zL 2 n l h=0 by unfold jx zL;simp [h1,h2]);have i:decide (h<n)=false:=by simpa using h2
       clear h1 h2;go_enter Tryz.func185,Tryz.ntmps185;go_wp2;go_ret2;exact ⟨by rw [c.o.1,c.o.2];rfl,d.o.trans (by first|exact Z0 _ _|exact (Z0 _ _).drew)⟩
 . have c:=U (show jx k n l h=0/\zL k n l h=10 by unfold jx zL;simp [hk]);have j:(k == 2)=false:=by simpa using hk
   clear hk;go_enter Tryz.func185,Tryz.ntmps185;go_wp2;go_ret2;exact ⟨by rw [c.o.1,c.o.2];rfl,d.o⟩
def df (o m lo hi:Nat) (v:JV) (an ai:Option Addr) (cn ci:Nat) (y:ByteArray) (l h:Int) (st:PS) (w:World) (e:Ending) (w':World):Prop :=
 e=.returned (.int .i64 (qR v y l h st).1)/\PickAt o m lo hi v an ai cn ci (qR v y l h st).2 w'/\Touch (fun b=>b=o\/b=m) w w'
theorem sO (o m lo hi:Nat) (v:JV) (an ai:Option Addr) (cn ci:Nat) (y:ByteArray) (l h:Int) (st:PS) (w:World) (hP:PickAt o m lo hi v an ai cn ci st w) (hy:y.size<=4294967296) (ha:st.asked.length<=4294967296) (p1 p2:Nat) (g1:w.heap[p1]?=some (.cells #[.int .i64 l] 2 (0,0))) (g2:w.heap[p2]?=some (.cells #[.int .i64 h] 2 (0,0))) :
 Calls Tryz.prog 184 #[.pointer (some ⟨o,0,none⟩),.string y,.func (.func 185) #[] #[.pointer (some ⟨p1,0,none⟩),.pointer (some ⟨p2,0,none⟩)]] w (df o m lo hi v an ai cn ci y l h st w):=by
 have f:=U hP;have J:=U g1;have K:=U g2;clear hP g1 g2;have R:=qq f.o.obj (j:=6) rfl;have V:w.cell? ⟨o,0,none⟩=some (.int .u8 5):=(qq (j:=0) f.o.obj rfl).trans (by rw [f.o.kind];rfl);by_cases he:st.err=0
 . rw [he] at R;have B:=U he;clear he;have c1:=qq f.o.obj (j:=1) rfl;have c2:=qq f.o.obj (j:=2) rfl;have c3:=qq f.o.obj (j:=3) rfl;have c4:=qq f.o.obj (j:=4) rfl;have HR:=U f.o.rep;rw [f.o.kind] at HR;have Z:=U (jU v y _ w lo hi f.o.wt f.o.pos f.o.le HR.o f.o.kind f.o.rise f.o.len);go_enter Tryz.func184,Tryz.ntmps184;go_wp2_with fail;refine (q7 o 0 5 w R V (fun _=>rfl)).mono ?_;rintro r w' ⟨rfl,rfl⟩;go_wp2_with fail;refine Z.o.mono ?_;clear Z V c1 c2 c3 c4 R;rintro e G ⟨hh,Q⟩;have q:=U Q;clear Q;rcases hh with ⟨r,hr1,hr2,hre,an',cn',ai',ci',rfl,hrep⟩|⟨hno,rfl⟩
   . have HL:=U (xE f.o.rise r hr1 hr2 hre);clear hre hrep;generalize v.items[r]=it at *;have A:O5 w (G.alloc (.cells #[.int .u8 it.kind,.int .i64 it.n,.string it.t,.slice an' it.names.length cn',.slice ai' it.items.length ci'] 25)):=q.o.alloc q.o.size _;have g:=U A;have H:=U (sI it.kind it.n it.t (.slice an' it.names.length cn') (.slice ai' it.items.length ci') l h p1 p2 (G.alloc (.cells #[.int .u8 it.kind,.int .i64 it.n,.string it.t,.slice an' it.names.length cn',.slice ai' it.items.length ci'] 25)) (qq ((A.block _ (qz J.o)).trans J.o) rfl) (qq ((A.block _ (qz K.o)).trans K.o) rfl));clear A;by_cases hk:zL it.kind it.n l h=0
     . have HK:=U hk;have p:=U (show qR v y l h st=(it.n,⟨y :: st.asked,0⟩) by unfold qR;rw [Z6 (by simp [B.o]),HL.o];obtain ⟨q1,q2⟩:=pL hk;simp only;rw [Z6 (by simp [q1]),Z6 q2]);rw [lg hk,hk] at H;clear hk;go_wp2_with fail;refine H.o.mono ?_;clear H;rintro e I ⟨rfl,u⟩;have a:=U (O2 g u);have d:=U (f.o.below a.o);clear u g;have d5:=qq d.o.obj (j:=5) rfl;have x:keyOf Tryz.prog 9 (.string y)=some (.string y.data.toList):=keyOf_string_mk X0 (by unfold maxLen;omega);obtain ⟨D,n,z,hn,W⟩:=d.o.map;obtain ⟨c,E,a1,a2,X⟩:=W.2 y;obtain ⟨c',a0,s,_⟩:=z.lookup_int jq Y6 X5 (j8 _) x;rw [E] at s;simp only [H9,M4,H7] at s;subst s;have HD:=U (W.cons y c E);have S:=U x;have T:=U z;clear W E X x z;go_wp2_with (at_mapUpdate;refine G8 _ rfl _ _ _ 150 rfl 9 3 jq Y6 _ m n D rfl T.o (by unfold maxLen;omega) _ _ _ rfl rfl S.o _ [] (plainElem_int X5 (WalkArith.wf_i64 (by omega))) ?_);intro Y hown3 hgrow3;have i:=U (d.o.ask y hgrow3 hown3 (by omega) HD.o);have L:=O0 (Touch (fun b=>b=o\/b=m) w Y) (⟨by rw [hgrow3.os,a.o.os],by rw [hgrow3.tape,a.o.tape],by rw [hgrow3.output,a.o.output],Z5 a.o.size hgrow3.size,fun k hk hs=>by rw [hgrow3.block k (J7 hk a.o.size) (fun e=>hs (.inr (J0 e))),a.o.block k hk]⟩);clear hgrow3 hown3;rw [B.o] at i;go_wp2;go_ret;exact ⟨by rw [p.o];rfl,by rw [p.o];exact i.o,L.o⟩
     . have p:=U (show qR v y l h st=(0,⟨st.asked,zL it.kind it.n l h⟩) by unfold qR;rw [Z6 (by simp [B.o]),HL.o];exact lh hk);obtain ⟨C,F⟩:=O1 (zL it.kind it.n l h);rw [lf hk,<- F] at H;rw [<- F] at p hk;have a5:(C != 0)=true:=by simpa using hk
       have a6:(C == 0)=false:=by simpa using hk
       clear hk F;go_wp2_with fail;refine H.o.mono ?_;clear H;rintro e I ⟨rfl,u⟩;have a:=U (O2 g u);have d:=U (f.o.below a.o);clear u g;have N:I.cell? ⟨o,6,none⟩=some (.int .i64 0):=(qq (j:=6) d.o.obj rfl).trans (by rw [B.o];rfl);have M:I.cell? ⟨o,0,none⟩=some (.int .u8 5):=(qq (j:=0) d.o.obj rfl).trans (by rw [f.o.kind];rfl);have P:I.frozen? ⟨o,6,none⟩=false:=by simp [World.frozen?,d.o.obj]
       go_wp2_with fail
       refine (zD o C _ N M P).mono ?_;clear N M P;rintro e Y ⟨rfl,rfl⟩;have i:=U (d.o.fail C);have L:=O0 (Touch (fun b=>b=o\/b=m) w (I.setCell ⟨o,6,none⟩ (.int .i64 C))) ((Touch.of_below a.o lz).setCell (.inl (.inl rfl)) _);go_wp2;go_ret;exact ⟨by rw [p.o];rfl,by rw [p.o];exact i.o,L.o⟩
   . have p:=U (show qR v y l h st=(0,⟨st.asked,6⟩) by unfold qR;rw [Z6 (by simp [B.o]),show v.look y=none from xu _ _ _ hno]);unfold zeroAgg;have a:=O0 (O5 w (G.alloc (.cells #[.int .u8 0,.int .i64 0,.string ⟨#[]⟩,.slice none 0 0,.slice none 0 0] 25))) (q.o.alloc q.o.size _);have d:=U (f.o.below a.o);clear hno q;have N:(G.alloc (.cells #[.int .u8 0,.int .i64 0,.string ⟨#[]⟩,.slice none 0 0,.slice none 0 0] 25)).cell? ⟨o,6,none⟩=some (.int .i64 0):=(qq (j:=6) d.o.obj rfl).trans (by rw [B.o];rfl);have M:(G.alloc (.cells #[.int .u8 0,.int .i64 0,.string ⟨#[]⟩,.slice none 0 0,.slice none 0 0] 25)).cell? ⟨o,0,none⟩=some (.int .u8 5):=(qq (j:=0) d.o.obj rfl).trans (by rw [f.o.kind];rfl);have P:(G.alloc (.cells #[.int .u8 0,.int .i64 0,.string ⟨#[]⟩,.slice none 0 0,.slice none 0 0] 25)).frozen? ⟨o,6,none⟩=false:=by simp [World.frozen?,d.o.obj]
     go_wp2_with fail
     refine (zD o 6 _ N M P).mono ?_;clear N M P;rintro e Y ⟨rfl,rfl⟩;have i:=U (d.o.fail 6);have L:=O0 (Touch (fun b=>b=o\/b=m) w ((G.alloc (.cells #[.int .u8 0,.int .i64 0,.string ⟨#[]⟩,.slice none 0 0,.slice none 0 0] 25)).setCell ⟨o,6,none⟩ (.int .i64 6))) ((Touch.of_below a.o lz).setCell (.inl (.inl rfl)) _);go_wp2;go_ret;exact ⟨by rw [p.o];rfl,by rw [p.o];exact i.o,L.o⟩
 . have a3:(st.err == 0)=false:=by simpa using he
   have a4:(st.err != 0)=true:=by simpa using he
   have p:=U (show qR v y l h st=(0,st) by unfold qR;rw [Q1 he]);have B:=U he;clear he;go_enter Tryz.func184,Tryz.ntmps184;go_wp2_with fail;refine (q7 o st.err 5 w R V (fun _=>rfl)).mono ?_;rintro r w' ⟨rfl,rfl⟩;go_wp2;go_ret;exact ⟨by rw [p.o];rfl,by rw [p.o];exact f.o,Touch.refl _ _⟩
theorem r8 (o m lo hi:Nat) (v:JV) (an ai:Option Addr) (cn ci:Nat) (y:ByteArray) (l h:Int) (st:PS) (w:World) (q:PickAt o m lo hi v an ai cn ci st w) (x:y.size<=4294967296) (u:st.asked.length<=4294967296) (r:m<w.heap.size) (s:o<w.heap.size) :
 Calls Tryz.prog 123 #[.pointer (some ⟨o,0,none⟩),.string y,.int .i64 l,.int .i64 h] w (df o m lo hi v an ai cn ci y l h st w):=by
 have a:O5 w ((w.alloc (.cells #[.int .i64 l] 2)).alloc (.cells #[.int .i64 h] 2)):=(O4).alloc (by simp) _;have f:(w.alloc (.cells #[.int .i64 l] 2)).heap.size=w.heap.size+1:=by simp
 have b:=Z4 (w.alloc (.cells #[.int .i64 l] 2)) (.cells #[.int .i64 h] 2);rw [f] at b;have k:=U (sO o m lo hi v an ai cn ci y l h st _ (q.below a) x u w.heap.size (w.heap.size+1) (by rw [J8 _ _ _ (by omega)];exact Z4 w _) b);have j:=U a;have p:=U (And.intro s r);clear q a f b s r;go_enter Tryz.func123,Tryz.ntmps123;go_wp2_with fail;refine k.o.mono ?_;rintro e w' ⟨rfl,c,d⟩;have g:=U c;have i:=U d;clear c d;go_wp2;go_ret;exact ⟨rfl,g.o,(Touch.of_below j.o lz).trans i.o⟩
def zS (it:JV) (most:Nat):Int:=if it.kind≠5 then 10 else if most<it.items.length then 5 else 0
theorem lu {it:JV} {a:Nat} (e:zS it a=0):it.kind=5/\¬a<it.items.length:=by
 unfold zS at e;split at e
 . omega
 split at e
 . omega
 . exact ⟨by omega,by omega⟩
theorem lm {it:JV} {a:List ByteArray} {c:Nat} {X:JV × PS} (e:¬zS it c=0) :
 (if it.kind≠5 then (qF,(⟨a,10⟩:PS)) else if c<it.items.length then (qF,⟨a,5⟩) else X)=(qF,⟨a,zS it c⟩):=by
 unfold zS at e ⊢;split
 . rfl
 split
 . rfl
 . rename_i a b;rw [Z6 a,Z6 b] at e;omega
theorem sE (it:JV) (I J:Nat) (an' ai':Option Addr) (cn' ci':Nat) (w:World) (K:w.cell? ⟨J,0,none⟩=some (.int .i64 I)) :
 Calls Tryz.prog 120 #[.agg #[.int .u8 it.kind,.int .i64 it.n,.string it.t,.slice an' it.names.length cn',.slice ai' it.items.length ci'],.pointer (some ⟨J,0,none⟩)] w fun e w'=>e=.returned (.tuple #[if zS it I=0 then .agg #[.int .u8 it.kind,.int .i64 it.n,.string it.t,.slice an' it.names.length cn',.slice ai' it.items.length ci'] else zeroAgg,.int .i64 (zS it I)])/\O5 w w':=by
 have o:(w.alloc (.cells #[.int .u8 it.kind,.int .i64 it.n,.string it.t,.slice an' it.names.length cn',.slice ai' it.items.length ci'] 25)).heap.size=w.heap.size+1:=by simp
 have h:O5 w ((w.alloc (.cells #[.int .u8 it.kind,.int .i64 it.n,.string it.t,.slice an' it.names.length cn',.slice ai' it.items.length ci'] 25)).alloc (.cells #[.int .u8 0,.int .i64 0,.string ⟨#[]⟩,.slice none 0 0,.slice none 0 0] 25)):=(O4).alloc (by simp) _;have v:((w.alloc (.cells #[.int .u8 it.kind,.int .i64 it.n,.string it.t,.slice an' it.names.length cn',.slice ai' it.items.length ci'] 25)).alloc (.cells #[.int .u8 0,.int .i64 0,.string ⟨#[]⟩,.slice none 0 0,.slice none 0 0] 25)).cell? ⟨J,0,none⟩=some (.int .i64 I):=by rw [h.cell (V9 w _ K)];exact K
 have c:=(qt w (.int .u8 it.kind) (.int .i64 it.n) (.string it.t) (.slice an' it.names.length cn') (.slice ai' it.items.length ci') 25).alloc (.cells #[.int .u8 0,.int .i64 0,.string ⟨#[]⟩,.slice none 0 0,.slice none 0 0] 25);have a:=qt (w.alloc (.cells #[.int .u8 it.kind,.int .i64 it.n,.string it.t,.slice an' it.names.length cn',.slice ai' it.items.length ci'] 25)) (.int .u8 0) (.int .i64 0) (.string ⟨#[]⟩) (.slice none 0 0) (.slice none 0 0) 25;rw [o] at a;obtain ⟨m,g⟩:=O1 (((w.alloc (.cells #[.int .u8 it.kind,.int .i64 it.n,.string it.t,.slice an' it.names.length cn',.slice ai' it.items.length ci'] 25)).alloc (.cells #[.int .u8 0,.int .i64 0,.string ⟨#[]⟩,.slice none 0 0,.slice none 0 0] 25)));rw [<- g] at h v c a;obtain ⟨y,z,A,B,C⟩:=rc5 a;obtain ⟨D,E,F,G,H⟩:=rf5 a;obtain ⟨k,q,r,s,u⟩:=rc5 c;simp only [qB] at y z A B C k q r s u;have i:=U h;have f:=U a;have j:=U g;clear h c a o g;by_cases hk:it.kind=5
 . by_cases h1:I<it.items.length
   . have d:=U (show zS it I=5 by unfold zS;rw [Z6 (by simp [hk]),Q1 h1]);have b:=U (show (if zS it I=0 then (.agg #[.int .u8 it.kind,.int .i64 it.n,.string it.t,.slice an' it.names.length cn',.slice ai' it.items.length ci']:Value) else zeroAgg)=zeroAgg by rw [d.o];rfl);rw [b.o,d.o];rw [hk] at k;have l:decide ((I:Int)<(it.items.length:Int))=true:=by simpa using h1
     clear hk;go_enter Tryz.func120,Tryz.ntmps120;go_upto_region 1 with fail
     rw [<- j.o];go_wp2;refine Q3 (qb Tryz.results120 _ _ (w.heap.size+1) 25 _ (0,0) _ rfl (qJ (set5 _ _ _ _ _ f.o)) Q6 rfl (by kernel_rfl) _ rfl) rfl ⟨rfl,zn _ _ _ _ _ i.o (by omega)⟩
   . have d:=U (show zS it I=0 by unfold zS;rw [Z6 (by simp [hk]),Z6 h1]);have b:=U (show (if zS it I=0 then (.agg #[.int .u8 it.kind,.int .i64 it.n,.string it.t,.slice an' it.names.length cn',.slice ai' it.items.length ci']:Value) else zeroAgg)=.agg #[.int .u8 it.kind,.int .i64 it.n,.string it.t,.slice an' it.names.length cn',.slice ai' it.items.length ci'] by rw [d.o];rfl);rw [b.o,d.o];have p:=U hk;rw [hk] at k;have l:decide ((I:Int)<(it.items.length:Int))=false:=by simpa using h1
     clear hk;go_enter Tryz.func120,Tryz.ntmps120;go_upto_region 1 with fail
     rw [<- j.o];go_wp2;refine Q3 (qb Tryz.results120 _ _ (w.heap.size+1) 25 _ (0,0) _ rfl (qJ (set5 _ _ _ _ _ f.o)) Q6 rfl (by kernel_rfl) _ rfl) rfl ⟨by rw [p.o] <;> rfl,zn _ _ _ _ _ i.o (by omega)⟩
 . have d:=U (show zS it I=10 by unfold zS;rw [Q1 hk]);have b:=U (show (if zS it I=0 then (.agg #[.int .u8 it.kind,.int .i64 it.n,.string it.t,.slice an' it.names.length cn',.slice ai' it.items.length ci']:Value) else zeroAgg)=zeroAgg by rw [d.o];rfl);rw [b.o,d.o];have x:(it.kind == 5)=false:=by simpa using hk
   clear hk;go_enter Tryz.func120,Tryz.ntmps120;go_upto_region 1 with fail
   rw [<- j.o];go_wp2;refine Q3 (qb Tryz.results120 _ _ (w.heap.size+1) 25 _ (0,0) _ rfl (qJ (set5 _ _ _ _ _ f.o)) Q6 rfl (by kernel_rfl) _ rfl) rfl ⟨rfl,zn _ _ _ _ _ i.o (by omega)⟩
def vu (o m lo hi:Nat) (v:JV) (an ai:Option Addr) (cn ci:Nat) (y:ByteArray) (most:Nat) (st:PS) (w:World) (e:Ending) (w':World):Prop :=
 (∃an' cn' ai' ci',e=.returned (.agg #[.int .u8 (qi v y most st).1.kind,.int .i64 (qi v y most st).1.n,.string (qi v y most st).1.t,.slice an' (qi v y most st).1.names.length cn',.slice ai' (qi v y most st).1.items.length ci'])/\Rep w' w.heap.size w'.heap.size (qi v y most st).1 (.agg #[.int .u8 (qi v y most st).1.kind,.int .i64 (qi v y most st).1.n,.string (qi v y most st).1.t,.slice an' (qi v y most st).1.names.length cn',.slice ai' (qi v y most st).1.items.length ci'])) /\
 PickAt o m lo hi v an ai cn ci (qi v y most st).2 w'/\Touch (fun b=>b=o\/b=m) w w'
theorem PickAt.set5 {o m lo hi g:Nat} {v:JV} {an ai:Option Addr} {cn ci:Nat} {st:PS} {w:World} (h:PickAt o m lo hi v an ai cn ci st w) (v0 v1 v2 v3 v4:Value) (p:g≠o) (l:g≠m) (q:hi<=g):PickAt o m lo hi v an ai cn ci st (((((w.setCell ⟨g,0,none⟩ v0).setCell ⟨g,1,none⟩ v1).setCell ⟨g,2,none⟩ v2).setCell ⟨g,3,none⟩ v3).setCell ⟨g,4,none⟩ v4):=by
 have j:(((((w.setCell ⟨g,0,none⟩ v0).setCell ⟨g,1,none⟩ v1).setCell ⟨g,2,none⟩ v2).setCell ⟨g,3,none⟩ v3).setCell ⟨g,4,none⟩ v4).heap.size=w.heap.size:=tq;have a:=zn (b:=g) v0 v1 v2 v3 v4 (Z0 g w) lz;have c:=fun k (hk:k≠g)=>js (W:=w) v0 v1 v2 v3 v4 hk;refine ⟨by rw [c o (Ne.symm p)];exact h.obj,?_,?_,h.pos,h.o,by rw [j];exact h.le,h.kind,h.rise,h.len,h.wt⟩
 . obtain ⟨D,n,d,f,i⟩:=h.map;exact ⟨D,n,d.kept (row:=some g) ⟨a.os,a.tape,a.output,a.size,fun k hk hn=>c k (fun e=>hn (by rw [e]))⟩ (fun e=>l (J0 e).symm),f,i⟩
 . exact Rep.carry lz lz (fun k _ hk=>c k (by omega)) _ _ h.rep
theorem bw {o m lo hi:Nat} {v:JV} {an ai:Option Addr} {cn ci:Nat} {y:ByteArray} {j:Nat} {st q:PS} {it:JV} {w l:World} {lo1 hi1 g:Nat} {an' ai':Option Addr} {cn' ci':Nat} (h:qi v y j st=(it,q))
 (u:Rep l lo1 hi1 it (.agg #[.int .u8 it.kind,.int .i64 it.n,.string it.t,.slice an' it.names.length cn',.slice ai' it.items.length ci'])) (i:w.heap.size<=g) (A:g<lo1) (r:hi1<=l.heap.size) (s:PickAt o m lo hi v an ai cn ci q l) (x:Touch (fun b=>b=o\/b=m) w l) (C:g≠o) (B:g≠m) (z:hi<=g) :
 vu o m lo hi v an ai cn ci y j st w (.returned (.agg #[.int .u8 it.kind,.int .i64 it.n,.string it.t,.slice an' it.names.length cn',.slice ai' it.items.length ci'])) (((((l.setCell ⟨g,0,none⟩ (.int .u8 it.kind)).setCell ⟨g,1,none⟩ (.int .i64 it.n)).setCell ⟨g,2,none⟩ (.string it.t)).setCell ⟨g,3,none⟩ (.slice an' it.names.length cn')).setCell ⟨g,4,none⟩ (.slice ai' it.items.length ci')):=by
 have e:=fun k (hk:k≠g)=>js (W:=l) (.int .u8 it.kind) (.int .i64 it.n) (.string it.t) (.slice an' it.names.length cn') (.slice ai' it.items.length ci') hk;have f:=tq (W:=l) (b:=g) (v0:=.int .u8 it.kind) (v1:=.int .i64 it.n) (v2:=.string it.t) (v3:=.slice an' it.names.length cn') (v4:=.slice ai' it.items.length ci');have c:=Rep.carry (lo':=w.heap.size) (hi':=(((((l.setCell ⟨g,0,none⟩ (.int .u8 it.kind)).setCell ⟨g,1,none⟩ (.int .i64 it.n)).setCell ⟨g,2,none⟩ (.string it.t)).setCell ⟨g,3,none⟩ (.slice an' it.names.length cn')).setCell ⟨g,4,none⟩ (.slice ai' it.items.length ci')).heap.size) (by omega) (by rw [f];exact r) (fun k h1 _=>e k (by omega)) _ _ u;have a:=s.set5 (.int .u8 it.kind) (.int .i64 it.n) (.string it.t) (.slice an' it.names.length cn') (.slice ai' it.items.length ci') C B z;have d:=((((x.setCell (p:=⟨g,0,none⟩) (.inr i) (.int .u8 it.kind)).setCell (p:=⟨g,1,none⟩) (.inr i) (.int .i64 it.n)).setCell (p:=⟨g,2,none⟩) (.inr i) (.string it.t)).setCell (p:=⟨g,3,none⟩) (.inr i) (.slice an' it.names.length cn')).setCell (p:=⟨g,4,none⟩) (.inr i) (.slice ai' it.items.length ci');unfold vu;rw [h];exact ⟨⟨an',cn',ai',ci',rfl,c⟩,a,d⟩
theorem bg {o m lo hi:Nat} {v:JV} {an ai:Option Addr} {cn ci:Nat} {y:ByteArray} {a:Nat} {st c:PS} {w d:World} (h:qi v y a st=(qF,c))
 (e:PickAt o m lo hi v an ai cn ci c d) (f:Touch (fun b=>b=o\/b=m) w d) (j:w.heap.size≠o) (i:w.heap.size≠m) (g:hi<=w.heap.size) :
 vu o m lo hi v an ai cn ci y a st w (.returned zeroAgg) (((((d.setCell ⟨w.heap.size,0,none⟩ (.int .u8 0)).setCell ⟨w.heap.size,1,none⟩ (.int .i64 0)).setCell ⟨w.heap.size,2,none⟩ (.string ⟨#[]⟩)).setCell ⟨w.heap.size,3,none⟩ (.slice none 0 0)).setCell ⟨w.heap.size,4,none⟩ (.slice none 0 0)) :=
 bw (it:=qF) (an':=none) (ai':=none) (cn':=0) (ci':=0) (lo1:=w.heap.size+1) (hi1:=0) h (wn _ _ _) lz (by omega) (by omega) e f j i g
theorem s8 (o m lo hi:Nat) (v:JV) (an ai:Option Addr) (cn ci:Nat) (y:ByteArray) (e5:Nat) (st:PS) (w:World) (hP:PickAt o m lo hi v an ai cn ci st w) (hy:y.size<=4294967296) (ha:st.asked.length<=4294967296) (p1:Nat) (g1:w.heap[p1]?=some (.cells #[.int .i64 e5] 3 (0,0))) :
 Calls Tryz.prog 119 #[.pointer (some ⟨o,0,none⟩),.string y,.func (.func 120) #[] #[.pointer (some ⟨p1,0,none⟩)]] w (vu o m lo hi v an ai cn ci y e5 st w):=by
 have ho:o<w.heap.size:=qz hP.obj;have hm:m<w.heap.size:=by obtain ⟨D,n,h,_⟩:=hP.map;exact h.lt
 have b3:=hP.le;obtain ⟨s,P⟩:=O1 ((w.alloc (.cells #[.int .u8 0,.int .i64 0,.string ⟨#[]⟩,.slice none 0 0,.slice none 0 0] 25)).alloc (.cells #[.int .u8 0,.int .i64 0,.string ⟨#[]⟩,.slice none 0 0,.slice none 0 0] 25));have b4:(w.alloc (.cells #[.int .u8 0,.int .i64 0,.string ⟨#[]⟩,.slice none 0 0,.slice none 0 0] 25)).heap.size=w.heap.size+1:=by simp
 have b5:s.heap.size=w.heap.size+2:=by rw [P];simp
 have a2:O5 w s:=by rw [P];exact (O4).alloc (by simp) _
 have a:s.rowIs w.heap.size 25 5 (qB (.int .u8 0) (.int .i64 0) (.string ⟨#[]⟩) (.slice none 0 0) (.slice none 0 0)):=by rw [P];exact (qt w (.int .u8 0) (.int .i64 0) (.string ⟨#[]⟩) (.slice none 0 0) (.slice none 0 0) 25).alloc _
 have d:s.rowIs (w.heap.size+1) 25 5 (qB (.int .u8 0) (.int .i64 0) (.string ⟨#[]⟩) (.slice none 0 0) (.slice none 0 0)):=(by have:=qt (w.alloc (.cells #[.int .u8 0,.int .i64 0,.string ⟨#[]⟩,.slice none 0 0,.slice none 0 0] 25)) (.int .u8 0) (.int .i64 0) (.string ⟨#[]⟩) (.slice none 0 0) (.slice none 0 0) 25;rw [b4,<- P] at this;exact this);have z:=U (hP.below a2);have a9:=U ((a2.block _ (qz g1)).trans g1);have G:=U (And.intro ho (And.intro hm (And.intro b3 b5)));have H:=U a2;have A:=U a;have J:=U d;have HW:=U P;clear hP g1 ho hm b3 b4 b5 a2 a d P;have c6:=qq z.o.obj (j:=6) rfl;have c0:s.cell? ⟨o,0,none⟩=some (.int .u8 5):=(qq (j:=0) z.o.obj rfl).trans (by rw [z.o.kind];rfl);by_cases he:st.err=0
 . rw [he] at c6;have HE:=U he;clear he;have c1:=qq z.o.obj (j:=1) rfl;have c2:=qq z.o.obj (j:=2) rfl;have c3:=qq z.o.obj (j:=3) rfl;have c4:=qq z.o.obj (j:=4) rfl;have HR:=U z.o.rep;rw [z.o.kind] at HR;have HG:=U (jU v y _ s lo hi z.o.wt z.o.pos z.o.le HR.o z.o.kind z.o.rise z.o.len);go_enter Tryz.func119,Tryz.ntmps119;go_upto_region 2 with fail
   rw [<- HW.o];go_wp2_with fail;refine (q7 o 0 5 s c6 c0 (fun _=>rfl)).mono ?_;rintro r w' ⟨rfl,h'⟩;subst h';go_wp2_with fail;refine HG.o.mono ?_;clear HG c0 c1 c2 c3 c4 c6 HR;rintro e M ⟨hh,Y⟩;have a4:=U Y;have d2:=U (qw Y A.o A.o.lt);have d3:=U (qw Y J.o J.o.lt);have hz:=Y.size;clear Y;rcases hh with ⟨r,hr1,hr2,hre,an',cn',ai',ci',rfl,hrep⟩|⟨hno,rfl⟩
   . have HL:=U (xE z.o.rise r hr1 hr2 hre);have b1:=U hrep;clear hre hrep;generalize v.items[r]=it at *;clear hr1 hr2;have a7:O5 s (M.alloc (.cells #[.int .u8 it.kind,.int .i64 it.n,.string it.t,.slice an' it.names.length cn',.slice ai' it.items.length ci'] 25)):=a4.o.alloc a4.o.size _;have HC:=U (sE it e5 p1 an' ai' cn' ci' (M.alloc (.cells #[.int .u8 it.kind,.int .i64 it.n,.string it.t,.slice an' it.names.length cn',.slice ai' it.items.length ci'] 25)) (qq ((a7.block _ (qz a9.o)).trans a9.o) rfl));have C:=U a7;clear a7;by_cases hk:zS it e5=0
     . have HX:=U (show qi v y e5 st=(it,⟨y :: st.asked,0⟩) by unfold qi;rw [Z6 (by simp [HE.o]),HL.o];obtain ⟨q1,q2⟩:=lu hk;simp only;rw [Z6 (by simp [q1]),Z6 q2]);have HC:=O0 (Calls Tryz.prog 120 #[.agg #[.int .u8 it.kind,.int .i64 it.n,.string it.t,.slice an' it.names.length cn',.slice ai' it.items.length ci'],.pointer (some ⟨p1,0,none⟩)] (M.alloc (.cells #[.int .u8 it.kind,.int .i64 it.n,.string it.t,.slice an' it.names.length cn',.slice ai' it.items.length ci'] 25)) (fun e w'=>e=.returned (.tuple #[.agg #[.int .u8 it.kind,.int .i64 it.n,.string it.t,.slice an' it.names.length cn',.slice ai' it.items.length ci'],.int .i64 0])/\Below (M.alloc (.cells #[.int .u8 it.kind,.int .i64 it.n,.string it.t,.slice an' it.names.length cn',.slice ai' it.items.length ci'] 25)).heap.size (M.alloc (.cells #[.int .u8 it.kind,.int .i64 it.n,.string it.t,.slice an' it.names.length cn',.slice ai' it.items.length ci'] 25)) w')) (by have h:=HC.o;rw [hk] at h;exact h);clear hk;go_wp2_with fail;refine HC.o.mono ?_;clear HC;rintro e Q ⟨rfl,F⟩;obtain ⟨u,i⟩:=O1 (Q.alloc (.cells #[.int .u8 it.kind,.int .i64 it.n,.string it.t,.slice an' it.names.length cn',.slice ai' it.items.length ci'] 25));have b6:M.heap.size+1<=Q.heap.size:=by have:=F.size;simpa using this
       have l:O5 s u:=by rw [i];exact (O2 C F).alloc (O2 C F).size _
       have a3:=O9 i
       have Z:∀k,k<M.heap.size->u.heap[k]?=M.heap[k]?:=fun k hk=>by rw [i,J8 _ _ _ (by omega),F.block k (by simp;omega),J8 _ _ _ hk]
       have g:=U a3;have b7:=U Z;have I:=U l;have a5:=U b6;have b2:=U (show u.heap.size=Q.heap.size+1 by rw [i];simp);have W:=U i;have q:=U (z.o.below I.o);have B:=U (qw I.o A.o A.o.lt);clear F a3 Z l b6 i C;have d5:=qq q.o.obj (j:=5) rfl;have a0:keyOf Tryz.prog 9 (.string y)=some (.string y.data.toList):=keyOf_string_mk X0 (by unfold maxLen;omega);obtain ⟨D,n,a1,hn,hD⟩:=q.o.map;obtain ⟨c,a6,e0,e1,c9⟩:=hD.2 y;obtain ⟨c',d4,X,_⟩:=a1.lookup_int jq Y6 X5 (j8 _) a0;rw [a6] at X;simp only [H9,M4,H7] at X;subst X;have HD:=U (hD.cons y c a6);have b8:=U a0;have b9:=U a1;clear hD a6 c9 a0 a1;go_upto_region 9 with fail
       rw [<- W.o];go_wp2_with (at_mapUpdate;refine G8 _ rfl _ _ _ 150 rfl 9 3 jq Y6 _ m n D rfl b9.o (by unfold maxLen;omega) _ _ _ rfl rfl b8.o _ [] (plainElem_int X5 (WalkArith.wf_i64 (by omega))) ?_;intro L hown3 hgrow3;have b0:=U hown3;have f:=U hgrow3;clear hown3 hgrow3;have T:=O0 (Q.heap.size≠m) (by have:=G.o;have:=a5.o;omega);have x0:L.cell? ⟨Q.heap.size,0,none⟩=_:=qq ((f.o.block _ (qz g.o) (fun e=>T.o (J0 e))).trans g.o) rfl;have x1:L.cell? ⟨Q.heap.size,1,none⟩=_:=qq ((f.o.block _ (qz g.o) (fun e=>T.o (J0 e))).trans g.o) rfl;have x2:L.cell? ⟨Q.heap.size,2,none⟩=_:=qq ((f.o.block _ (qz g.o) (fun e=>T.o (J0 e))).trans g.o) rfl;have x3:L.cell? ⟨Q.heap.size,3,none⟩=_:=qq ((f.o.block _ (qz g.o) (fun e=>T.o (J0 e))).trans g.o) rfl;have x4:L.cell? ⟨Q.heap.size,4,none⟩=_:=qq ((f.o.block _ (qz g.o) (fun e=>T.o (J0 e))).trans g.o) rfl;have a:=B.o.of_block (f.o.block _ B.o.lt (fun e=>by have:=J0 e;have:=G.o;omega));obtain ⟨t0,t1,t2,t3,t4⟩:=rc5 a;obtain ⟨s0,s1,s2,s3,s4⟩:=rf5 a;simp only [qB] at t0 t1 t2 t3 t4;have E:=U a;clear a);have N:=U (q.o.ask y f.o b0.o (by omega) HD.o);have HT:=U (show Touch (fun b=>b=o\/b=m) w L from by
        have h1:=H.o.trans (I.o.mono H.o.size);have h2:=f.o;exact ⟨by rw [h2.os,h1.os],by rw [h2.tape,h1.tape],by rw [h2.output,h1.output],Z5 h1.size h2.size,fun k hk hs=>by rw [h2.block k (J7 hk h1.size) (fun e=>hs (.inr (J0 e))),h1.block k hk]⟩)
       have c5:=U (Rep.carry (lo':=s.heap.size) (hi':=M.heap.size) lz lz (fun k h1 h2=>(f.o.block k (by have:=b2.o;have:=a5.o;omega) (fun e=>by have:=J0 e;have:=G.o;omega)).trans (b7.o k h2)) _ _ b1.o);have c7:=O0 (M.heap.size<=L.heap.size) (by have:=f.o.size;have:=b2.o;have:=a5.o;omega);rw [HE.o] at N;have x:=O0 (w.heap.size≠o/\w.heap.size≠m) (by have:=G.o;omega);go_wp2;refine Q3 (J2 Tryz.results119 _ _ w.heap.size 25 _ (0,0) _ rfl (qJ (set5 _ _ _ _ _ E.o)) Q6 rfl (by kernel_rfl)) rfl ?_;exact bw HX.o c5.o lz (by have:=G.o;omega) c7.o N.o HT.o x.o.1 x.o.2 G.o.2.2.1
     . have HX:=U (show qi v y e5 st=(qF,⟨st.asked,zS it e5⟩) by unfold qi;rw [Z6 (by simp [HE.o]),HL.o];exact lm hk);obtain ⟨er,a8⟩:=O1 (zS it e5);have HC:=O0 (Calls Tryz.prog 120 #[.agg #[.int .u8 it.kind,.int .i64 it.n,.string it.t,.slice an' it.names.length cn',.slice ai' it.items.length ci'],.pointer (some ⟨p1,0,none⟩)] (M.alloc (.cells #[.int .u8 it.kind,.int .i64 it.n,.string it.t,.slice an' it.names.length cn',.slice ai' it.items.length ci'] 25)) (fun e w'=>e=.returned (.tuple #[zeroAgg,.int .i64 er])/\Below (M.alloc (.cells #[.int .u8 it.kind,.int .i64 it.n,.string it.t,.slice an' it.names.length cn',.slice ai' it.items.length ci'] 25)).heap.size (M.alloc (.cells #[.int .u8 it.kind,.int .i64 it.n,.string it.t,.slice an' it.names.length cn',.slice ai' it.items.length ci'] 25)) w')) (by have h:=HC.o;rw [Z6 hk,<- a8] at h;exact h);rw [<- a8] at HX hk;have e3:(er != 0)=true:=by simpa using hk
       have e4:(er == 0)=false:=by simpa using hk
       clear hk a8;go_wp2_with fail;refine HC.o.mono ?_;clear HC;rintro e Q ⟨rfl,F⟩;have R:=U (O2 C F);clear F C;unfold zeroAgg;obtain ⟨u,i⟩:=O1 (Q.alloc (.cells #[.int .u8 0,.int .i64 0,.string ⟨#[]⟩,.slice none 0 0,.slice none 0 0] 25));have l:O5 s u:=by rw [i];exact R.o.alloc R.o.size _
       have q:=U (z.o.below l);have a:=qw l A.o A.o.lt;have d:=qw l J.o J.o.lt;have I:=U l;have B:=U a;have V:=U d;have W:=U i;clear l a d i;have d6:u.cell? ⟨o,6,none⟩=some (.int .i64 0):=(qq (j:=6) q.o.obj rfl).trans (by rw [HE.o];rfl);have d0:u.cell? ⟨o,0,none⟩=some (.int .u8 5):=(qq (j:=0) q.o.obj rfl).trans (by rw [z.o.kind];rfl);have d7:u.frozen? ⟨o,6,none⟩=false:=by simp [World.frozen?,q.o.obj]
       go_upto_region 9 with fail
       rw [<- W.o];go_wp2_with fail;refine (zD o er u d6 d0 d7).mono ?_;clear d6 d0 d7;rintro e L ⟨rfl,h3⟩;have K:=O0 (Touch (fun b=>b=o) u L) (by rw [h3];exact Touch.setCell (S:=fun b=>b=o) (p:=⟨o,6,none⟩) (Touch.refl _ _) (.inl rfl) _);have N:=O0 (PickAt o m lo hi v an ai cn ci ⟨st.asked,er⟩ L) (by rw [h3];exact q.o.fail er);clear h3;have a:=K.o.row B.o (by have:=G.o;omega);have d:=K.o.row V.o (by have:=G.o;omega);obtain ⟨t0,t1,t2,t3,t4⟩:=rc5 a;obtain ⟨s0,s1,s2,s3,s4⟩:=rf5 a;obtain ⟨z0,z1,z2,z3,z4⟩:=rc5 d;simp only [qB] at t0 t1 t2 t3 t4 z0 z1 z2 z3 z4;have E:=U a;clear a d;have HT:=O0 (Touch (fun b=>b=o\/b=m) w L) ((Touch.of_below (H.o.trans (I.o.mono H.o.size)) lz).trans (K.o.mono (fun k _ h=>.inl h)));have x:=O0 (w.heap.size≠o/\w.heap.size≠m) (by have:=G.o;omega);go_wp2;refine Q3 (J2 Tryz.results119 _ _ w.heap.size 25 _ (0,0) _ rfl (qJ (set5 _ _ _ _ _ E.o)) Q6 rfl (by kernel_rfl)) rfl ?_;exact bg HX.o N.o HT.o x.o.1 x.o.2 G.o.2.2.1
   . have HX:=U (show qi v y e5 st=(qF,⟨st.asked,6⟩) by unfold qi;rw [Z6 (by simp [HE.o]),show v.look y=none from xu _ _ _ hno]);clear hno;have R:=U a4.o;unfold zeroAgg;obtain ⟨u,i⟩:=O1 (M.alloc (.cells #[.int .u8 0,.int .i64 0,.string ⟨#[]⟩,.slice none 0 0,.slice none 0 0] 25));have l:O5 s u:=by rw [i];exact R.o.alloc R.o.size _
     have q:=U (z.o.below l);have a:=qw l A.o A.o.lt;have d:=qw l J.o J.o.lt;have I:=U l;have B:=U a;have V:=U d;have W:=U i;clear l a d i;have d6:u.cell? ⟨o,6,none⟩=some (.int .i64 0):=(qq (j:=6) q.o.obj rfl).trans (by rw [HE.o];rfl);have d0:u.cell? ⟨o,0,none⟩=some (.int .u8 5):=(qq (j:=0) q.o.obj rfl).trans (by rw [z.o.kind];rfl);have d7:u.frozen? ⟨o,6,none⟩=false:=by simp [World.frozen?,q.o.obj]
     go_upto_region 5 with fail
     rw [<- W.o];go_wp2_with fail;refine (zD o 6 u d6 d0 d7).mono ?_;clear d6 d0 d7;rintro e L ⟨rfl,h3⟩;have K:=O0 (Touch (fun b=>b=o) u L) (by rw [h3];exact Touch.setCell (S:=fun b=>b=o) (p:=⟨o,6,none⟩) (Touch.refl _ _) (.inl rfl) _);have N:=O0 (PickAt o m lo hi v an ai cn ci ⟨st.asked,6⟩ L) (by rw [h3];exact q.o.fail 6);clear h3;have a:=K.o.row B.o (by have:=G.o;omega);have d:=K.o.row V.o (by have:=G.o;omega);obtain ⟨t0,t1,t2,t3,t4⟩:=rc5 a;obtain ⟨s0,s1,s2,s3,s4⟩:=rf5 a;obtain ⟨z0,z1,z2,z3,z4⟩:=rc5 d;simp only [qB] at t0 t1 t2 t3 t4 z0 z1 z2 z3 z4;have E:=U a;clear a d;have HT:=O0 (Touch (fun b=>b=o\/b=m) w L) ((Touch.of_below (H.o.trans (I.o.mono H.o.size)) lz).trans (K.o.mono (fun k _ h=>.inl h)));have x:=O0 (w.heap.size≠o/\w.heap.size≠m) (by have:=G.o;omega);go_wp2;refine Q3 (J2 Tryz.results119 _ _ w.heap.size 25 _ (0,0) _ rfl (qJ (set5 _ _ _ _ _ E.o)) Q6 rfl (by kernel_rfl)) rfl ?_;exact bg HX.o N.o HT.o x.o.1 x.o.2 G.o.2.2.1
 . have d1:(st.err == 0)=false:=by simpa using he
   have e2:(st.err != 0)=true:=by simpa using he
   have HX:=U (show qi v y e5 st=(qF,st) by unfold qi;rw [Q1 he]);clear he;have a:=A.o;have d:=J.o;obtain ⟨t0,t1,t2,t3,t4⟩:=rc5 a;obtain ⟨s0,s1,s2,s3,s4⟩:=rf5 a;obtain ⟨z0,z1,z2,z3,z4⟩:=rc5 d;simp only [qB] at t0 t1 t2 t3 t4 z0 z1 z2 z3 z4;clear a d;have HT:=O0 (Touch (fun b=>b=o\/b=m) w s) (Touch.of_below H.o lz);have x:=O0 (w.heap.size≠o/\w.heap.size≠m) (by have:=G.o;omega);go_enter Tryz.func119,Tryz.ntmps119;go_upto_region 2 with fail
   rw [<- HW.o];go_wp2_with fail;refine (q7 o st.err 5 s c6 c0 (fun h=>by simp [h] at d1)).mono ?_;rintro r w' ⟨rfl,h'⟩;subst h';go_wp2;refine Q3 (J2 Tryz.results119 _ _ w.heap.size 25 _ (0,0) _ rfl (qJ (set5 _ _ _ _ _ A.o)) Q6 rfl (by kernel_rfl)) rfl ?_;exact bg HX.o z.o HT.o x.o.1 x.o.2 G.o.2.2.1
theorem r9 (o m lo hi:Nat) (v:JV) (an ai:Option Addr) (cn ci:Nat) (y:ByteArray) (a0:Nat) (st:PS) (w:World) (hP:PickAt o m lo hi v an ai cn ci st w) (hy:y.size<=4294967296) (ha:st.asked.length<=4294967296) :
 Calls Tryz.prog 62 #[.pointer (some ⟨o,0,none⟩),.string y,.int .i64 a0] w (vu o m lo hi v an ai cn ci y a0 st w):=by
 have J:o<w.heap.size:=qz hP.obj;have I:m<w.heap.size:=by obtain ⟨D,n,h,_⟩:=hP.map;exact h.lt
 have l:=hP.le;obtain ⟨g,c⟩:=O1 ((w.alloc (.cells #[.int .i64 a0] 3)).alloc (.cells #[.int .u8 0,.int .i64 0,.string ⟨#[]⟩,.slice none 0 0,.slice none 0 0] 25));have p:(w.alloc (.cells #[.int .i64 a0] 3)).heap.size=w.heap.size+1:=by simp
 have q:g.heap.size=w.heap.size+2:=by rw [c];simp
 have i:O5 w g:=by rw [c];exact (O4).alloc (by simp) _
 have H:g.heap[w.heap.size]?=some (.cells #[.int .i64 a0] 3 (0,0)):=by rw [c,J8 _ _ _ (by simp)];exact Z4 w _
 have a:g.rowIs (w.heap.size+1) 25 5 (qB (.int .u8 0) (.int .i64 0) (.string ⟨#[]⟩) (.slice none 0 0) (.slice none 0 0)):=(by have:=qt (w.alloc (.cells #[.int .i64 a0] 3)) (.int .u8 0) (.int .i64 0) (.string ⟨#[]⟩) (.slice none 0 0) (.slice none 0 0) 25;rw [p,<- c] at this;exact this);have G:=U (s8 o m lo hi v an ai cn ci y a0 st g (hP.below i) hy ha w.heap.size H);have u:=U (And.intro J (And.intro I (And.intro l q)));have s:=U i;have z:=U a;have L:=U c;clear hP J I l p q i H a c;go_enter Tryz.func62,Tryz.ntmps62;go_upto_region 1 with fail
 rw [<- L.o];go_wp2_with fail;refine G.o.mono ?_;clear G;rintro e Y ⟨⟨P,R,N,Q,rfl,d⟩,C,E⟩;obtain ⟨K,r,F⟩:∃K r,qi v y a0 st=(K,r):=⟨_,_,rfl⟩;rw [F] at d C ⊢;have M:=U F;have k:=U d;have x:=U C;have A:=U E;have a:=E.row z.o (by have:=u.o;omega);clear F d C E;obtain ⟨S,T,V,W,X⟩:=rc5 a;obtain ⟨Z,s1,s2,s3,s4⟩:=rf5 a;simp only [qB] at S T V W X;have j:=U a;clear a;have B:=O0 (Touch (fun b=>b=o\/b=m) w Y) ((Touch.of_below s.o lz).trans A.o);have f:=O0 (w.heap.size+1≠o/\w.heap.size+1≠m/\hi<=w.heap.size+1) (by have:=u.o;omega);go_wp2;refine Q3 (J2 Tryz.results62 _ _ (w.heap.size+1) 25 _ (0,0) _ rfl (qJ (set5 _ _ _ _ _ j.o)) Q6 rfl (by kernel_rfl)) rfl ?_;exact bw M.o k.o (N1 _) (by have:=u.o;omega) lz x.o B.o f.o.1 f.o.2.1 f.o.2.2
theorem tG (o:Nat) (u:Int) (y:ByteArray) (l h:Int) (w:World) (v:xb o u w) (x:o<w.heap.size) :
 Calls Tryz.prog 123 #[.pointer (some ⟨o,0,none⟩),.string y,.int .i64 l,.int .i64 h] w fun e w'=>e=.returned (.int .i64 0)/\O5 w w':=by
 obtain ⟨c,a⟩:=O1 ((w.alloc (.cells #[.int .i64 l] 2)).alloc (.cells #[.int .i64 h] 2));have b:O5 w c:=by rw [a];exact (O4).alloc (by simp) _
 obtain ⟨d,i,k,g⟩:=v.below b x;have f:=U b;have p:=U a;clear a b v;have m:=U (show ∀fv,Calls Tryz.prog 184 #[.pointer (some ⟨o,0,none⟩),.string y,fv] c (fun e w'=>e=.returned (.int .i64 0)/\c=w') from fun fv=>by
  have q:(u == 0)=false:=by simpa using d
  have s:(u != 0)=true:=by simpa using d
  have j:=U d;clear d;go_enter Tryz.func184,Tryz.ntmps184;go_wp2_with fail;refine (q7 o u k c i g (fun h=>absurd h j.o)).mono ?_;rintro r w' ⟨rfl,rfl⟩;go_wp2;go_ret;exact ⟨rfl,rfl⟩)
 clear d i g;go_enter Tryz.func123,Tryz.ntmps123;go_wp2_with fail;rw [<- p.o];refine (m.o _).mono ?_;rintro e w' ⟨rfl,rfl⟩;go_wp2;go_ret;exact ⟨rfl,f.o⟩
theorem s9 (o:Nat) (i e:Int) (w:World) (h:xb o i w) :
 Calls Tryz.prog 63 #[.pointer (some ⟨o,0,none⟩),.int .i64 e] w fun r w'=>r=.returned (.tuple #[])/\w'=w:=by
 obtain ⟨a,d,k,c⟩:=h;have f:(i == 0)=false:=by simpa using a
 have g:(i != 0)=true:=by simpa using a
 have b:=U a;clear a;go_enter Tryz.func63,Tryz.ntmps63;go_wp2_with fail;refine (q7 o i k w d c (fun h=>absurd h b.o)).mono ?_;rintro r w' ⟨rfl,rfl⟩;go_wp2
 go_end0
 exact ⟨rfl,rfl⟩
theorem tB (o:Nat) (Z:Int) (y:ByteArray) (Y:Int) (w:World) (hb:xb o Z w) (ho:o<w.heap.size) :
 Calls Tryz.prog 62 #[.pointer (some ⟨o,0,none⟩),.string y,.int .i64 Y] w fun e w'=>e=.returned (.agg #[.int .u8 0,.int .i64 0,.string ⟨#[]⟩,.slice none 0 0,.slice none 0 0])/\O5 w w':=by
 have J:=U (show ∀(fv:Value) (a:World),xb o Z a->o<a.heap.size->Calls Tryz.prog 119 #[.pointer (some ⟨o,0,none⟩),.string y,fv] a (fun e w'=>e=.returned (.agg #[.int .u8 0,.int .i64 0,.string ⟨#[]⟩,.slice none 0 0,.slice none 0 0])/\O5 a w') from fun fv a hp hz=>by
  obtain ⟨p,b⟩:=O1 ((a.alloc (.cells #[.int .u8 0,.int .i64 0,.string ⟨#[]⟩,.slice none 0 0,.slice none 0 0] 25)).alloc (.cells #[.int .u8 0,.int .i64 0,.string ⟨#[]⟩,.slice none 0 0,.slice none 0 0] 25));have m:O5 a p:=by rw [b];exact (O4).alloc (by simp) _
  have d:(a.alloc (.cells #[.int .u8 0,.int .i64 0,.string ⟨#[]⟩,.slice none 0 0,.slice none 0 0] 25)).heap.size=a.heap.size+1:=by simp
  have i:p.rowIs a.heap.size 25 5 (qB (.int .u8 0) (.int .i64 0) (.string ⟨#[]⟩) (.slice none 0 0) (.slice none 0 0)):=(by rw [b];exact qw O4 (qt a (.int .u8 0) (.int .i64 0) (.string ⟨#[]⟩) (.slice none 0 0) (.slice none 0 0) 25) (by simp));have c:p.rowIs (a.heap.size+1) 25 5 (qB (.int .u8 0) (.int .i64 0) (.string ⟨#[]⟩) (.slice none 0 0) (.slice none 0 0)):=(by have:=qt (a.alloc (.cells #[.int .u8 0,.int .i64 0,.string ⟨#[]⟩,.slice none 0 0,.slice none 0 0] 25)) (.int .u8 0) (.int .i64 0) (.string ⟨#[]⟩) (.slice none 0 0) (.slice none 0 0) 25;rw [d,<- b] at this;exact this);obtain ⟨v,M,k,L⟩:=hp.below m hz;have P:(Z == 0)=false:=by simpa using v
  have Q:(Z != 0)=true:=by simpa using v
  have K:=U v;obtain ⟨E,F,G,H,I⟩:=rc5 i;obtain ⟨R,S,T,V,W⟩:=rf5 i;obtain ⟨u0,u1,u2,u3,u4⟩:=rc5 c;simp only [qB] at E F G H I u0 u1 u2 u3 u4;have A:=U i;have z:=U m;have D:=U b;clear v b m i c d;go_enter Tryz.func119,Tryz.ntmps119;go_upto_region 2 with fail
  rw [<- D.o];go_wp2_with fail;refine (q7 o Z k p M L (fun h=>absurd h K.o)).mono ?_;rintro r w' ⟨rfl,N⟩;subst N;go_wp2;refine Q3 (J2 Tryz.results119 _ _ a.heap.size 25 _ (0,0) _ rfl (qJ (set5 _ _ _ _ _ A.o)) Q6 rfl (by kernel_rfl)) rfl ?_;exact ⟨rfl,zn _ _ _ _ _ z.o lz⟩)
 obtain ⟨a,f⟩:=O1 ((w.alloc (.cells #[.int .i64 Y] 3)).alloc (.cells #[.int .u8 0,.int .i64 0,.string ⟨#[]⟩,.slice none 0 0,.slice none 0 0] 25));have g:O5 w a:=by rw [f];exact (O4).alloc (by simp) _
 have d:(w.alloc (.cells #[.int .i64 Y] 3)).heap.size=w.heap.size+1:=by simp
 have c:a.rowIs (w.heap.size+1) 25 5 (qB (.int .u8 0) (.int .i64 0) (.string ⟨#[]⟩) (.slice none 0 0) (.slice none 0 0)):=(by have:=qt (w.alloc (.cells #[.int .i64 Y] 3)) (.int .u8 0) (.int .i64 0) (.string ⟨#[]⟩) (.slice none 0 0) (.slice none 0 0) 25;rw [d,<- f] at this;exact this);have u:=U (fun fv=>J.o fv a (hb.below g ho) (J7 ho g.size));have q:=U g;have s:=U c;have C:=U f;clear f g c d hb J;go_enter Tryz.func62,Tryz.ntmps62;go_upto_region 1 with fail
 rw [<- C.o];go_wp2_with fail;refine (u.o _).mono ?_;clear u;rintro r X ⟨rfl,l⟩;have j:=qw l s.o s.o.lt;have B:=U j;have x:=U (O2 q l);obtain ⟨E,F,G,H,I⟩:=rc5 j;obtain ⟨R,S,T,V,W⟩:=rf5 j;simp only [qB] at E F G H I;clear j l;go_wp2;refine Q3 (J2 Tryz.results62 _ _ (w.heap.size+1) 25 _ (0,0) _ rfl (qJ (set5 _ _ _ _ _ B.o)) Q6 rfl (by kernel_rfl)) rfl ?_;exact ⟨rfl,zn _ _ _ _ _ x.o (by omega)⟩
def nz (o m lo hi:Nat) (v:JV) (an ai:Option Addr) (cn ci:Nat) (st:PS) (w:World) (r:Ending) (w':World):Prop:=r=.returned (.tuple #[])/\PickAt o m lo hi v an ai cn ci st w'/\Touch (fun b=>b=o\/b=m) w w'
theorem ld (o m lo hi:Nat) (v:JV) (an ai:Option Addr) (cn ci:Nat) (e:Int) (st:PS) (w:World) (l:PickAt o m lo hi v an ai cn ci st w) :
 Calls Tryz.prog 63 #[.pointer (some ⟨o,0,none⟩),.int .i64 e] w (nz o m lo hi v an ai cn ci (st.fail e) w):=by
 have a:=qq l.obj (j:=6) rfl;have b:w.cell? ⟨o,0,none⟩=some (.int .u8 5):=(qq (j:=0) l.obj rfl).trans (by rw [l.kind];rfl);have d:w.frozen? ⟨o,6,none⟩=false:=by simp [World.frozen?,l.obj]
 by_cases he:st.err=0
 . rw [he] at a;refine (zD o e w a b d).mono ?_;rintro r w' ⟨rfl,rfl⟩;refine ⟨rfl,?_,(Touch.refl _ _).setCell (.inl (.inl rfl)) _⟩;unfold PS.fail;rw [Q1 he];exact l.fail e
 . have c:(st.err == 0)=false:=by simpa using he
   have i:=U (show st.fail e=st by unfold PS.fail;rw [Z6 he]);have g:=U l;have f:=U (q7 o st.err 5 w a b (fun h=>by simp [h] at c));clear l he a b d;go_enter Tryz.func63,Tryz.ntmps63;go_wp2_with fail;refine f.o.mono ?_;rintro r w' ⟨rfl,k⟩;subst w';go_wp2
   go_end0
   exact ⟨rfl,by rw [i.o];exact g.o,Touch.refl _ _⟩
theorem dh {v:JV} (h:v.mayB=true) (a:v.kind=5):qK v.names=true/\v.names.length=v.items.length/\v.names.all qW=true:=by
 unfold JV.mayB at h;rw [JV.may_eq] at h;split at h
 . cases h
 split at h
 . cases h
 next h2 =>
 rcases y9 (by simpa using h2) with ⟨e,_⟩|⟨e,_⟩|⟨e,_⟩|e|⟨_,e1,e2,e3⟩ <;> first|omega|exact ⟨e2,e1,e3⟩
theorem pR {v:JV} {y:ByteArray} {st:PS} (d:v.wt<=4294967296):(qh v y st).1.size<=4294967296/\(qh v y st).2.asked.length<=st.asked.length+1:=by
 unfold qh;split
 . exact ⟨by show 0<=_;omega,by simp⟩
 split
 . exact ⟨by show 0<=_;omega,by simp⟩
 . next it hit =>
   split
   . refine ⟨?_,by simp⟩;have:∀(ns:List ByteArray) (xs:List JV),qI ns xs y=some it->it.wt<=JV.wts xs:=by
      intro ns
      induction ns with
      | nil=>intro xs h;simp [qI] at h
      | cons n ns ih =>
       intro xs h;cases xs with
       | nil=>simp [qI] at h
       | cons x xs =>
        rw [qI] at h;split at h
        . cases h;simp [JV.wts]
        . have:=ih xs h;simp [JV.wts];omega
     have a:=this _ _ hit;have b:=it.wt_bd;have c:=v.wt_bd;show it.t.size<=_;omega
   . exact ⟨by show 0<=_;omega,by simp⟩
theorem PickAt.touch {o m lo hi g:Nat} {v:JV} {an ai:Option Addr} {cn ci:Nat} {st:PS} {w w':World} (h:PickAt o m lo hi v an ai cn ci st w) (i:Touch (fun b=>b=g) w w') (l:g≠o) (j:g≠m) (p:hi<=g):PickAt o m lo hi v an ai cn ci st w':=by
 have a:o<w.heap.size:=qz h.obj;refine ⟨by rw [i.block o a (fun e=>l e.symm)];exact h.obj,?_,?_,h.pos,h.o,Z5 h.le i.size,h.kind,h.rise,h.len,h.wt⟩
 . obtain ⟨D,n,c,d,f⟩:=h.map;exact ⟨D,n,c.kept (row:=some g) ⟨i.os,i.tape,i.output,i.size,fun k hk hn=>i.block k hk (fun e=>hn (by rw [e]))⟩ (fun e=>j (J0 e).symm),d,f⟩
 . exact Rep.carry lz lz (fun k _ hk=>i.block k (J7 hk h.le) (by omega)) _ _ h.rep
theorem qC {w:World} {g j:Nat} (u:Value):Touch (fun b=>b=g) w (w.setCell ⟨g,j,none⟩ u):=Touch.setCell (S:=fun b=>b=g) (p:=⟨g,j,none⟩) (Touch.refl _ _) (.inl rfl) u
theorem ut {v:JV} {y:ByteArray} {l h:Int} {st:PS}:(qR v y l h st).2.asked.length<=st.asked.length+1:=by
 unfold qR;split
 . simp
 split
 . simp
 split
 . simp
 split <;> simp
theorem xb.touch {o p:Nat} {e:Int} {w w':World} (h:xb o e w) (i:Touch (fun b=>b=p) w w') (g:o<w.heap.size) (f:o≠p):xb o e w':=by obtain ⟨a,c,k,d⟩:=h;exact ⟨a,by rw [i.cell (p:=⟨o,6,none⟩) g f];exact c,k,by rw [i.cell (p:=⟨o,0,none⟩) g f];exact d⟩
theorem kX {st:PS} {e:Int}:(st.fail e).asked=st.asked:=by unfold PS.fail;split <;> rfl
theorem nx {v:JV} {y:ByteArray} {st:PS}:(qh v y st).2.asked.length<=st.asked.length+1:=by
 unfold qh;split
 . simp
 split
 . simp
 . split <;> simp
theorem nj (o m lo hi:Nat) (v:JV) (an ai:Option Addr) (cn ci:Nat) (y:ByteArray) (st:PS) (w:World) (C:PickAt o m lo hi v an ai cn ci st w) :
 Calls Tryz.prog 64 #[.pointer (some ⟨o,0,none⟩),.string y] w fun e w'=>e=.returned (.bool (zq v y st))/\O5 w w':=by
 have a:=U C;clear C;have f:=qq a.o.obj (j:=6) rfl;have g:w.cell? ⟨o,0,none⟩=some (.int .u8 5):=(qq (j:=0) a.o.obj rfl).trans (by rw [a.o.kind];rfl);by_cases he:st.err=0
 . rw [he] at f;have k:=U he;clear he;have q:=qq a.o.obj (j:=1) rfl;have s:=qq a.o.obj (j:=2) rfl;have u:=qq a.o.obj (j:=3) rfl;have x:=qq a.o.obj (j:=4) rfl;have p:=U a.o.rep;rw [a.o.kind] at p;have l:=U (jU v y _ w lo hi a.o.wt a.o.pos a.o.le p.o a.o.kind a.o.rise a.o.len);go_enter Tryz.func64,Tryz.ntmps64;go_wp2_with fail;refine (q7 o 0 5 w f g (fun _=>rfl)).mono ?_;rintro r w' ⟨rfl,rfl⟩;go_wp2_with fail;refine l.o.mono ?_;clear l g q s u x f;rintro e B ⟨A,d⟩;have b:=U d;clear d;rcases A with ⟨r,hr1,hr2,hre,an',cn',ai',ci',rfl,hrep⟩|⟨hno,rfl⟩
   . have c:=U (show zq v y st=true by unfold zq;rw [xE a.o.rise r hr1 hr2 hre,k.o];rfl);clear hre hrep;go_wp2;go_ret;exact ⟨qx c.o.symm,b.o.alloc b.o.size _⟩
   . have c:=U (show zq v y st=false by unfold zq;rw [show v.look y=none from xu _ _ _ hno,k.o];rfl);clear hno;unfold zeroAgg;go_wp2;go_ret;exact ⟨qx c.o.symm,b.o.alloc b.o.size _⟩
 . have i:(st.err == 0)=false:=by simpa using he
   have z:(st.err != 0)=true:=by simpa using he
   have c:=U (show zq v y st=false by unfold zq;simp [he]);clear he;go_enter Tryz.func64,Tryz.ntmps64;go_wp2_with fail;refine (q7 o st.err 5 w f g (fun h=>by simp [h] at i)).mono ?_;rintro r w' ⟨rfl,rfl⟩;go_wp2;go_ret;exact ⟨qx c.o.symm,Z0 _ _⟩
theorem tP (o:Nat) (i:Int) (y:ByteArray) (w:World) (h:xb o i w) :
 Calls Tryz.prog 64 #[.pointer (some ⟨o,0,none⟩),.string y] w fun e w'=>e=.returned (.bool false)/\w=w':=by
 obtain ⟨a,d,k,c⟩:=h;have f:(i == 0)=false:=by simpa using a
 have g:(i != 0)=true:=by simpa using a
 have b:=U a;clear a;go_enter Tryz.func64,Tryz.ntmps64;go_wp2_with fail;refine (q7 o i k w d c (fun h=>absurd h b.o)).mono ?_;rintro r w' ⟨rfl,rfl⟩;go_wp2;go_ret;exact ⟨rfl,rfl⟩
