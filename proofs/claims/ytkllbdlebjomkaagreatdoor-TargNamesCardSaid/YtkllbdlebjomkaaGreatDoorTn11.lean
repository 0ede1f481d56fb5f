import Derived.Test.YtkllbdlebjomkaaGreatDoorTn10
import Derived.Test.YtkllbdlebjomkaaGreatDoorTn03
set_option maxHeartbeats 2000000
set_option maxRecDepth 100000

namespace Go.Proofs.YtkllbdlebjomkaaGreatDoor
open Go.RowKit Go.WideMaps Go.Maps
theorem zx (o:Nat) (c kind:Int) (w:World) (g:w.cell? ⟨o,6,none⟩=some (.int .i64 c)) (f:w.cell? ⟨o,0,none⟩=some (.int .u8 kind)) (d:c=0->kind=5) :
 Calls Tryz.prog 61 #[.pointer (some ⟨o,0,none⟩)] w fun e w'=>e=.returned (.int .i64 c)/\w=w':=by
 by_cases he:c=0
 . have a:=d he;subst he a;clear d;go_enter Tryz.func61,Tryz.ntmps61;go_wp2;go_ret;exact ⟨rfl,rfl⟩
 . have b:(c == 0)=false:=by simpa using he
   clear d he;go_enter Tryz.func61,Tryz.ntmps61;go_wp2;go_ret;exact ⟨rfl,rfl⟩
theorem zR (o:Nat) (e:Int) (w:World) (b:w.cell? ⟨o,6,none⟩=some (.int .i64 0)) (a:w.cell? ⟨o,0,none⟩=some (.int .u8 5)) (c:w.frozen? ⟨o,6,none⟩=false) :
 Calls Tryz.prog 27 #[.pointer (some ⟨o,0,none⟩),.int .i64 e] w fun r w'=>r=.returned (.tuple #[])/\w'=w.setCell ⟨o,6,none⟩ (.int .i64 e):=by
 go_enter Tryz.func27,Tryz.ntmps27;go_wp2_with fail;refine (zx o 0 5 w b a (fun _=>rfl)).mono ?_;rintro r w' ⟨rfl,rfl⟩;go_wp2
 go_end0
 exact ⟨rfl,rfl⟩
theorem tZ (k n:Int) (t:ByteArray) (a b:Value) (w:World) :
 Calls Tryz.prog 60 #[.agg #[.int .u8 k,.int .i64 n,.string t,a,b]] w fun e w'=>e=.returned (.tuple #[.string (if k=3 then t else ⟨#[]⟩),.int .i64 (if k=3 then 0 else 10)])/\O5 w w':=by
 have c:=O0 (O5 w (w.alloc (.cells #[.int .u8 k,.int .i64 n,.string t,a,b] 26))) O4;by_cases hk:k=3
 . subst hk;go_enter Tryz.func60,Tryz.ntmps60;go_wp2;go_ret2;exact ⟨by simp,c.o⟩
 . have d:(k == 3)=false:=by simpa using hk
   have f:=U hk;clear hk;go_enter Tryz.func60,Tryz.ntmps60;go_wp2;go_ret2;exact ⟨by simp,c.o⟩
theorem jl:Keyed Tryz.prog 9:=string_keyed Y9
theorem kO (w:World):(zeroValue 3).run Tryz.prog w=.ok (.int .i64 0) w:=by kernel_rfl
def dz (o m lo hi:Nat) (v:JV) (an ai:Option Addr) (cn ci:Nat) (y:ByteArray) (st:PS) (w:World) (e:Ending) (w':World):Prop :=
 e=.returned (.string (qw v y st).1)/\PickAt o m lo hi v an ai cn ci (qw v y st).2 w'/\Touch (fun b=>b=o\/b=m) w w'
theorem tX (o m lo hi:Nat) (v:JV) (an ai:Option Addr) (cn ci:Nat) (y:ByteArray) (st:PS) (w:World) (hP:PickAt o m lo hi v an ai cn ci st w) (hy:y.size<=4294967296) (ha:st.asked.length<=4294967296) :
 Calls Tryz.prog 59 #[.pointer (some ⟨o,0,none⟩),.string y,.func (.func 60) #[] #[]] w (dz o m lo hi v an ai cn ci y st w):=by
 have f:=U hP;clear hP;have K:=qq f.o.obj (j:=6) rfl;have N:w.cell? ⟨o,0,none⟩=some (.int .u8 5):=(qq (j:=0) f.o.obj rfl).trans (by rw [f.o.kind];rfl);by_cases he:st.err=0
 . rw [he] at K;have x:=U he;clear he;have Z:=qq f.o.obj (j:=1) rfl;have c2:=qq f.o.obj (j:=2) rfl;have c3:=qq f.o.obj (j:=3) rfl;have c4:=qq f.o.obj (j:=4) rfl;have V:=U f.o.rep;rw [f.o.kind] at V;have S:=U (jB v y _ w lo hi f.o.wt f.o.pos f.o.le V.o f.o.kind f.o.rise f.o.len);go_enter Tryz.func59,Tryz.ntmps59;go_wp2_with fail;refine (zx o 0 5 w K N (fun _=>rfl)).mono ?_;rintro r w' ⟨rfl,rfl⟩;go_wp2_with fail;refine S.o.mono ?_;clear S N Z c2 c3 c4 K;rintro e A ⟨hh,I⟩;have i:=U I;clear I;rcases hh with ⟨r,hr1,hr2,hre,an',cn',ai',ci',rfl,hrep⟩|⟨hno,rfl⟩
   . have T:=U (jd f.o.rise r hr1 hr2 hre);clear hre hrep;generalize v.items[r]=it at *;have J:O5 w (A.alloc (.cells #[.int .u8 it.kind,.int .i64 it.n,.string it.t,.slice an' it.names.length cn',.slice ai' it.items.length ci'] 26)):=i.o.alloc i.o.size _;have g:=U J;have B:=U (tZ it.kind it.n it.t (.slice an' it.names.length cn') (.slice ai' it.items.length ci') (A.alloc (.cells #[.int .u8 it.kind,.int .i64 it.n,.string it.t,.slice an' it.names.length cn',.slice ai' it.items.length ci'] 26)));clear J;by_cases hk:it.kind=3
     . have Y:=U hk;rw [J3 hk,J3 hk] at B;clear hk;go_wp2_with fail;refine B.o.mono ?_;clear B;rintro e C ⟨rfl,q⟩;have a:=U (O2 g q);have d:=U (f.o.below a.o);clear q g;have d5:=qq d.o.obj (j:=5) rfl;have s:keyOf Tryz.prog 9 (.string y)=some (.string y.data.toList):=keyOf_string_mk Y9 (by unfold maxLen;omega);obtain ⟨D,n,u,hn,P⟩:=d.o.map;obtain ⟨c,z,a0,a1,Q⟩:=P.2 y;obtain ⟨c',W,p,_⟩:=u.lookup_int jl V9 Y6 (kO _) s;rw [z] at p;simp only [za0,zb7,za5] at p;subst p;have X:=U (P.cons y c z);have L:=U s;have M:=U u;clear P z Q s u;go_wp2_with (at_mapUpdate;refine M4 _ rfl _ _ _ 115 rfl 9 3 jl V9 _ m n D rfl M.o (by unfold maxLen;omega) _ _ _ rfl rfl L.o _ [] (plainElem_int Y6 (WalkArith.wf_i64 (by omega))) ?_);intro R hown3 hgrow3;have h:=U (d.o.ask y hgrow3 hown3 (by omega) X.o);have E:=O0 (Touch (fun b=>b=o\/b=m) w R) (⟨by rw [hgrow3.os,a.o.os],by rw [hgrow3.tape,a.o.tape],by rw [hgrow3.output,a.o.output],Z3 a.o.size hgrow3.size,fun k hk hs=>by rw [hgrow3.block k (X1 hk a.o.size) (fun e=>hs (.inr (X2 e))),a.o.block k hk]⟩);clear hgrow3 hown3;have l:=U (show qw v y st=(it.t,⟨y :: st.asked,0⟩) by unfold qw;rw [Z6 (by simp [x.o]),T.o];simp [Y.o]);rw [x.o] at h;go_wp2;go_ret;exact ⟨by rw [l.o];rfl,by rw [l.o];exact h.o,E.o⟩
     . have l:=U (show qw v y st=(⟨#[]⟩,⟨st.asked,10⟩) by unfold qw;rw [Z6 (by simp [x.o]),T.o];simp [hk]);rw [Z6 hk,Z6 hk] at B;clear hk;go_wp2_with fail;refine B.o.mono ?_;clear B;rintro e C ⟨rfl,q⟩;have a:=U (O2 g q);have d:=U (f.o.below a.o);clear q g;have G:C.cell? ⟨o,6,none⟩=some (.int .i64 0):=(qq (j:=6) d.o.obj rfl).trans (by rw [x.o];rfl);have F:C.cell? ⟨o,0,none⟩=some (.int .u8 5):=(qq (j:=0) d.o.obj rfl).trans (by rw [f.o.kind];rfl);have H:C.frozen? ⟨o,6,none⟩=false:=by simp [World.frozen?,d.o.obj]
       go_wp2_with fail
       refine (zR o 10 _ G F H).mono ?_;clear G F H;rintro e R ⟨rfl,rfl⟩;have h:=U (d.o.fail 10);have E:=O0 (Touch (fun b=>b=o\/b=m) w (C.setCell ⟨o,6,none⟩ (.int .i64 10))) ((Touch.of_below a.o lz).setCell (.inl (.inl rfl)) _);go_wp2;go_ret;exact ⟨by rw [l.o];rfl,by rw [l.o];exact h.o,E.o⟩
   . have l:=U (show qw v y st=(⟨#[]⟩,⟨st.asked,6⟩) by unfold qw;rw [Z6 (by simp [x.o]),show v.look y=none from xu _ _ _ hno]);unfold zeroAgg;have a:=O0 (O5 w (A.alloc (.cells #[.int .u8 0,.int .i64 0,.string ⟨#[]⟩,.slice none 0 0,.slice none 0 0] 26))) (i.o.alloc i.o.size _);have d:=U (f.o.below a.o);clear hno i;have G:(A.alloc (.cells #[.int .u8 0,.int .i64 0,.string ⟨#[]⟩,.slice none 0 0,.slice none 0 0] 26)).cell? ⟨o,6,none⟩=some (.int .i64 0):=(qq (j:=6) d.o.obj rfl).trans (by rw [x.o];rfl);have F:(A.alloc (.cells #[.int .u8 0,.int .i64 0,.string ⟨#[]⟩,.slice none 0 0,.slice none 0 0] 26)).cell? ⟨o,0,none⟩=some (.int .u8 5):=(qq (j:=0) d.o.obj rfl).trans (by rw [f.o.kind];rfl);have H:(A.alloc (.cells #[.int .u8 0,.int .i64 0,.string ⟨#[]⟩,.slice none 0 0,.slice none 0 0] 26)).frozen? ⟨o,6,none⟩=false:=by simp [World.frozen?,d.o.obj]
     go_wp2_with fail
     refine (zR o 6 _ G F H).mono ?_;clear G F H;rintro e R ⟨rfl,rfl⟩;have h:=U (d.o.fail 6);have E:=O0 (Touch (fun b=>b=o\/b=m) w ((A.alloc (.cells #[.int .u8 0,.int .i64 0,.string ⟨#[]⟩,.slice none 0 0,.slice none 0 0] 26)).setCell ⟨o,6,none⟩ (.int .i64 6))) ((Touch.of_below a.o lz).setCell (.inl (.inl rfl)) _);go_wp2;go_ret;exact ⟨by rw [l.o];rfl,by rw [l.o];exact h.o,E.o⟩
 . have a2:(st.err == 0)=false:=by simpa using he
   have a3:(st.err != 0)=true:=by simpa using he
   have l:=U (show qw v y st=(⟨#[]⟩,st) by unfold qw;rw [J3 he]);have x:=U he;clear he;go_enter Tryz.func59,Tryz.ntmps59;go_wp2_with fail;refine (zx o st.err 5 w K N (fun _=>rfl)).mono ?_;rintro r w' ⟨rfl,rfl⟩;go_wp2;go_ret;exact ⟨by rw [l.o];rfl,by rw [l.o];exact f.o,Touch.refl _ _⟩
theorem gT (o m lo hi:Nat) (v:JV) (an ai:Option Addr) (cn ci:Nat) (y:ByteArray) (st:PS) (w:World) (g:PickAt o m lo hi v an ai cn ci st w) (i:y.size<=4294967296) (h:st.asked.length<=4294967296) :
 Calls Tryz.prog 26 #[.pointer (some ⟨o,0,none⟩),.string y] w (dz o m lo hi v an ai cn ci y st w):=by
 have f:=U (tX o m lo hi v an ai cn ci y st w g i h);clear g;go_enter Tryz.func26,Tryz.ntmps26;go_wp2_with fail;refine f.o.mono ?_;rintro e w' ⟨rfl,a,b⟩;have c:=U a;have d:=U b;clear a b;go_wp2;go_ret;exact ⟨rfl,c.o,d.o⟩
def xy (o:Nat) (err:Int) (w:World):Prop:=err≠0/\w.cell? ⟨o,6,none⟩=some (.int .i64 err)/\∃k,w.cell? ⟨o,0,none⟩=some (.int .u8 k)
theorem xy.below {o:Nat} {d:Int} {w w':World} (h:xy o d w) (e:O5 w w') (f:o<w.heap.size):xy o d w':=by obtain ⟨a,b,k,c⟩:=h;exact ⟨a,by rw [e.cell f];exact b,k,by rw [e.cell f];exact c⟩
theorem mV (o:Nat) (j:Int) (y:ByteArray) (w:World) (h:xy o j w) :
 Calls Tryz.prog 26 #[.pointer (some ⟨o,0,none⟩),.string y] w fun e w'=>e=.returned (.string ⟨#[]⟩)/\w=w':=by
 obtain ⟨a,c,k,b⟩:=h;have f:=U (show Calls Tryz.prog 59 #[.pointer (some ⟨o,0,none⟩),.string y,.func (.func 60) #[] #[]] w (fun e w'=>e=.returned (.string ⟨#[]⟩)/\w=w') by
  have g:(j == 0)=false:=by simpa using a
  have i:(j != 0)=true:=by simpa using a
  have d:=U a;clear a;go_enter Tryz.func59,Tryz.ntmps59;go_wp2_with fail;refine (zx o j k w c b (fun h=>absurd h d.o)).mono ?_;rintro r w' ⟨rfl,rfl⟩;go_wp2;go_ret;exact ⟨rfl,rfl⟩)
 clear a c b;go_enter Tryz.func26,Tryz.ntmps26;go_wp2_with fail;refine f.o.mono ?_;rintro e w' ⟨rfl,rfl⟩;go_wp2;go_ret;exact ⟨rfl,rfl⟩
theorem mW (o:Nat) (d k:Int) (w:World) (he:d≠0) (g:w.cell? ⟨o,6,none⟩=some (.int .i64 d)) (f:w.cell? ⟨o,0,none⟩=some (.int .u8 k)) :
 Calls Tryz.prog 34 #[.pointer (some ⟨o,0,none⟩)] w fun e w'=>e=.returned (.int .i64 d)/\w=w':=by
 have b:(d == 0)=false:=by simpa using he
 have c:(d != 0)=true:=by simpa using he
 have a:=U he;clear he;go_enter Tryz.func34,Tryz.ntmps34;go_wp2_with fail;refine (zx o d k w g f (fun h=>absurd h a.o)).mono ?_;rintro r w' ⟨rfl,rfl⟩;go_wp2;go_ret;exact ⟨rfl,rfl⟩
theorem tJ {α:Type} (p:α->Bool) (l:List α) (k:Nat) (h:k<l.length) (a:(l.take k).all p=true) (b:p l[k]=true):(l.take (k+1)).all p=true:=by rw [Z7 h,List.all_append,a];simp [b]
theorem oK {α:Type} (p:α->Bool) (l:List α) (k:Nat) (h:k<l.length) (a:p l[k]=false):l.all p=false:=by rw [zb2];exact ⟨l[k],J8 h,by simp [a]⟩
theorem uJ (o m lo hi:Nat) (v:JV) (an ai:Option Addr) (cn ci:Nat) (st:PS) (w:World) (hP:PickAt o m lo hi v an ai cn ci st w) (hn:∀i (h:i<v.names.length),v.names[i].size<=4294967296) :
 Calls Tryz.prog 34 #[.pointer (some ⟨o,0,none⟩)] w fun e w'=>e=.returned (.int .i64 (qb v st))/\w=w':=by
 have B:=qq hP.obj (j:=6) rfl;have G:w.cell? ⟨o,0,none⟩=some (.int .u8 5):=(qq (j:=0) hP.obj rfl).trans (by rw [hP.kind];rfl);by_cases he:st.err=0
 . have K:=qq hP.obj (j:=3) rfl;have c5:=qq hP.obj (j:=5) rfl;rw [he] at B;have A:=U (show qb v st=if v.names.all (fun n=>st.asked.any fun a=>decide (a=n)) then 0 else 11 by unfold qb;rw [Z6 (by simp [he])]);have H:=(v.wt_bd).2.1;have a0:=hP.wt;have J:=U hP;have Q:=U hn;obtain ⟨z,q⟩:=O1 v.names.length;rw [<- q] at K H;have u:=U q;clear hP he hn q;go_enter Tryz.func34,Tryz.ntmps34;go_wp2_with fail;refine (zx o 0 5 w B G (fun _=>rfl)).mono ?_;rintro r w' ⟨rfl,rfl⟩;go_wp2;clear B G K
   go_loop [5,17] (fun _ i=>∃k:Nat,k<=z/\i=.int .i64 k/\(v.names.take k).all (fun n=>st.asked.any fun a=>decide (a=n))=true) (fun _ i=>z - (intOf i).toNat)
   case atStart=>exact ⟨0,by omega,rfl,by simp⟩
   case round =>
    obtain ⟨k,hk,rfl,g⟩:=hrel;have I:=U g;clear g;by_cases hlt:k<z
    . have b:k<v.names.length:=by rw [<- u.o];exact hlt
      obtain ⟨_,_,_,C,_⟩:True/\True/\True/\qy w lo hi an v.names/\True:=by obtain ⟨S,V,R,T,N,_,_,C,_⟩:=J.o.rep.parts;simp only [G9,H8,K0,zb6,Y2] at N;obtain ⟨_,_,_,⟨rfl,_,_⟩,_⟩:=N;exact ⟨trivial,trivial,trivial,C,trivial⟩
      obtain ⟨nb,P,rfl,_,_,yn⟩:=C.at k b;have Z:=Q.o k b;have F:=U (tJ (fun n=>st.asked.any fun a=>decide (a=n)) v.names k b I.o);have E:=U (oK (fun n=>st.asked.any fun a=>decide (a=n)) v.names k b);clear C;generalize v.names[k]=nk at *;have l:keyOf Tryz.prog 9 (.string nk)=some (.string nk.data.toList):=keyOf_string_mk Y9 (by unfold maxLen;omega);obtain ⟨D,n,p,hn,L⟩:=J.o.map;obtain ⟨c,x,W,X,f⟩:=L.2 nk;obtain ⟨c',M,d,_⟩:=p.lookup_int jl V9 Y6 (kO _) l;rw [x] at d;simp only [za0,zb7,za5] at d;subst d;clear p x L hn l;by_cases hc:c=0
      . have y:=f.1 hc;have s:=U (E.o (by
         rw [List.any_eq_false];intro a ha;simp only [J1];intro e;subst e;exact y ha))
        subst hc;clear f y;go_wp2;go_ret;exact ⟨by rw [A.o,s.o];rfl,rfl⟩
      . have y:nk ∈ st.asked:=by
         by_cases h:nk ∈ st.asked
         . exact h
         . exact absurd (f.2 h) hc
        have s:=U (F.o (by rw [List.any_eq_true];exact ⟨nk,y,by simp⟩));have Y:(c == 0)=false:=by simpa using hc
        clear f y hc;go_wp2
        go_round
        case rel=>exact ⟨k+1,by omega,by go_num,s.o⟩
        case measure=>simp [intOf];omega
    . have s:=U (show v.names.all (fun n=>st.asked.any fun a=>decide (a=n))=true by
       have:=I.o;rwa [J4 (by rw [<- u.o];omega)] at this)
      go_wp2;go_ret;exact ⟨by rw [A.o,s.o];rfl,rfl⟩
 . have A:=U (show qb v st=st.err by unfold qb;rw [J3 he]);refine (mW o st.err 5 w he B G).mono ?_;rintro e w' ⟨rfl,rfl⟩;exact ⟨by rw [A.o],rfl⟩
def sl (w:World) (e:Ending) (w':World):Prop:=∃o,e=.returned (.pointer (some ⟨o,0,none⟩))/\w.heap.size<=o/\o<w'.heap.size/\xy o 10 w'/\O5 w w'
theorem p9 (k n:Int) (t:ByteArray) (a b:Value) (w:World) (hk:k≠5) :
 Calls Tryz.prog 25 #[.agg #[.int .u8 k,.int .i64 n,.string t,a,b]] w (sl w):=by
 have c:(k == 5)=false:=by simpa using hk
 have d:(k != 5)=true:=by simpa using hk
 clear hk;go_enter Tryz.func25,Tryz.ntmps25;go_wp2;go_ret;refine ⟨_,rfl,by omega,by simp,⟨by decide,?_,0,?_⟩,(O4).alloc (by simp) _⟩
 . go_simp
 . go_simp
def Qv (v:JV) (w:World) (e:Ending) (w':World):Prop:=∃o m lo hi an ai cn ci,e=.returned (.pointer (some ⟨o,0,none⟩))/\PickAt o m lo hi v an ai cn ci ⟨[],0⟩ w'/\w.heap.size<=o/\w.heap.size<=m/\O5 w w'
theorem bP (v:JV) (x:Value) (w:World) (lo hi:Nat) (hN:v.wt<=4294967296) (a4:hi<=w.heap.size) (hR:Rep w lo hi v x) (hk:v.kind=5) (hr:qd v.names=true) (hl:v.names.length=v.items.length) (hS:∀k (h:k<v.items.length),cV lo v.items[k]) :
 Calls Tryz.prog 25 #[x] w (Qv v w):=by
 obtain ⟨B,D,A,C,rfl,h1,h2,Q,h4⟩:=hR.parts;obtain ⟨b1,b2,X,b4⟩:=v.wt_bd;rw [hl,hk];rw [hl,hk] at hR;obtain ⟨c,u⟩:=O1 v.items.length;rw [<- u] at hR X ⊢;have I:=U u;have M:=U Q;have T:=U hR;have z:=U hr;have V:=U hS;have S:=U hk;have P:=U hl;clear h1 h2 Q h4 hR hr hS hk u hl;have a2:=@run_makeMap Tryz.prog;have G:=O0 (O5 w (w.alloc (.cells #[.int .u8 5,.int .i64 v.n,.string v.t,.slice B c D,.slice A c C] 26))) O4;have K:=U (Z5 w (.cells #[.int .u8 5,.int .i64 v.n,.string v.t,.slice B c D,.slice A c C] 26));go_enter Tryz.func25,Tryz.ntmps25;go_wp2;go_loopw [3] (fun i wr=>∃k:Nat,1<=k/\(k<=c\/k=1)/\i=.int .i64 k/\Below (w.heap.size+1) (w.alloc (.cells #[.int .u8 5,.int .i64 v.n,.string v.t,.slice B c D,.slice A c C] 26)) wr) (fun i _=>c - (intOf i).toNat)
 case atStart=>exact ⟨1,by omega,.inr rfl,rfl,Z0 _ _⟩
 case round =>
  obtain ⟨k,a0,a1,rfl,a⟩:=hrel;have hz:w.heap.size+1<=wr.heap.size:=by have:=a.size;simpa using this
  have y:wr.heap[w.heap.size]?=some (.cells #[.int .u8 5,.int .i64 v.n,.string v.t,.slice B c D,.slice A c C] 26 (0,0)):=by rw [a.block _ (by omega)];exact K.o
  have l:=U y;have j:=O0 (O5 w wr) (G.o.trans (a.mono (by omega)));have c3:=qq y (j:=3) rfl;have R:=U a;clear y a;by_cases hlt:k<c
  . have m:k<v.names.length:=by rw [P.o,<- I.o];exact hlt
    obtain ⟨b,L,rfl,_,hb,y1⟩:=(M.o.below j.o a4 lz lz).at k m;obtain ⟨W,F,g,_,_,y0⟩:=(M.o.below j.o a4 lz lz).at (k - 1) (by omega);obtain ⟨rfl,rfl⟩:b=W/\L=F:=by simpa using g
    clear g;have d:=jG z.o (k - 1) k (by omega) m (by omega);unfold bl at d;generalize v.names[k - 1]=na at d y0;generalize v.names[k]=nb at d y1;have i0:IntKind.i64.wrap ((k:Int) - 1)=(k:Int) - 1:=N5 _ (by omega);have j0:0<=(k:Int) - 1:=by omega
    have j1:1<=(k:Int):=by omega
    have j2:(k:Int) - 1<(c:Int):=by omega
    have j3:(k:Int)<(c:Int):=by omega
    have t0:((k:Int) - 1).toNat=k - 1:=by omega
    go_wp2_with fail
    go_quiet (fail)
    go_wp2;go_roundw
    case rel=>exact ⟨k+1,by omega,by omega,by go_num,Below.drewN R.o _⟩
    case measure=>simp [intOf];omega
  . have Y:=qq l.o (j:=0) rfl;have Z:=qq l.o (j:=1) rfl;have c2:=qq l.o (j:=2) rfl;have c4:=qq l.o (j:=4) rfl;have N:=U (ju v _ wr lo hi hN (by omega) (T.o.below j.o a4 lz lz) V.o);go_wp2_with fail;refine N.o.mono ?_;clear N Y Z c2 c3 c4;rintro e f ⟨p,r,o,q,rfl,E,s⟩;have a3:=s.size;have J:=U E;have H:=U (j.o.trans (s.mono (by omega)));clear E s;go_wp2;go_ret;refine ⟨f.heap.size+1,f.heap.size,wr.heap.size,f.heap.size,p,o,r,q,rfl,?_,by omega,by omega,(H.o.alloc (by omega) _).alloc (by simp;omega) _⟩;have g:O5 f ((f.alloc (.map #[] 0)).alloc (.cells #[.int .u8 v.kind,.int .i64 v.n,.string v.t,.slice p v.names.length r,.slice o v.items.length q,.map (some f.heap.size),.int .i64 0] 117)):=(O4).alloc (by simp) _;exact {
     obj:=by have:=Z5 (f.alloc (.map #[] 0)) (.cells #[.int .u8 v.kind,.int .i64 v.n,.string v.t,.slice p v.names.length r,.slice o v.items.length q,.map (some f.heap.size),.int .i64 0] 117);rw [show (f.alloc (.map #[] 0)).heap.size=f.heap.size+1 by simp] at this;exact this
     map:=⟨_,0,(World.ownsMap_made f _ _ _).alloc _,by omega,dq.nil⟩
     rep:=J.o.below g lz lz lz
     pos:=by omega
     out:=⟨by omega,by omega⟩
     le:=g.size
     kind:=S.o
     rise:=z.o
     len:=P.o
     wt:=hN }
def jg (seen:List ByteArray) (x:ByteArray):Bool:=seen.any fun y=>y.toList == x.toList
theorem vJ (b:List ByteArray) (x:ByteArray):jg b x=true↔x ∈ b:=by
 unfold jg;rw [List.any_eq_true];constructor
 . rintro ⟨y,a,e⟩;rw [<- gL (eq_of_beq e)];exact a
 . intro h;exact ⟨x,h,by simp⟩
def bH (s:ByteArray):Bool:=decide (s.size=64) && jp s.data.toList
def xk (seen:List ByteArray):List ByteArray->Int
 | []=>0
 | x :: r=>if bH x then (if jg seen x then 7 else xk (seen ++ [x]) r) else 3
def kJ (t:Int) (ids:List ByteArray):Bool:=decide (1<=ids.length/\ids.length<=16/\1<=t/\t<=ids.length) && decide (xk [] ids=0)
def fq (c:UInt8):List UInt8:=if c.toNat=34\/c.toNat=92 then [92,c] else [c]
def gw (l:List UInt8):List UInt8:=l.flatMap fq
def xZ (l:List UInt8):List UInt8:=34 :: (gw l ++ [34])
theorem sr (s:ByteArray) (k:Nat) (h:k<s.size):gw (s.data.toList.take (k+1))=gw (s.data.toList.take k) ++ fq s[k]:=by unfold gw;rw [gV s k h];simp
theorem wW (l:List UInt8):(gw l).length<=2 * l.length:=by
 induction l with
 | nil=>simp [gw]
 | cons c r ih =>
  have e:gw (c :: r)=fq c ++ gw r:=by simp [gw]
  rw [e,K3,N0];have:(fq c).length<=2:=by unfold fq;split <;> simp
  omega
def si (s:ByteArray) (w:World) (e:Ending) (w':World):Prop:=e=.returned (.tuple #[.string ⟨(xZ s.data.toList).toArray⟩,.int .i64 0])/\O5 w w'
theorem rj (s:ByteArray) (w:World) (Q:s.size<=4096) (R:gx s=true) :
 Calls Tryz.prog 162 #[.string s] w (si s w):=by
 go_enter Tryz.func162,Tryz.ntmps162;go_wp2_with fail;refine (pO s _ (by omega)).mono ?_;rintro e a ⟨rfl,r⟩;have q:=U r;clear r;go_wp2_with fail;have D:yU a.heap.size a.heap.size [] (a.alloc (.cells #[.pointer none,.slice none 0 0] 191)):=Lib.IsBuilderF.of (Lib.fresh_isBuilder _ _ a);refine (zW a.heap.size a.heap.size [] 34 _ D (by simp) (by simp)).mono ?_;rintro e L ⟨rfl,x,u,B⟩;have A:=U x;have y:=O0 (O5 a L) ((O4).trans u);clear x u B D;go_wp2;go_loopw [5,15] (fun _ i wr=>∃k:Nat,k<=s.size/\i=.int .i64 k/\mQ a.heap.size a.heap.size (Lib.byteCells (34 :: gw (s.data.toList.take k))) wr/\O5 a wr) (fun _ i _=>s.size - (intOf i).toNat)
 case atStart=>exact ⟨0,J0 _,rfl,A.o,y.o⟩
 case round =>
  obtain ⟨k,M,rfl,v,p⟩:=hrel;have N:=wW (s.data.toList.take k);have I:(s.data.toList.take k).length<=k:=List.length_take_le _ _;have P:=p.size;have h:=U v;have l:=U p;clear v p;by_cases hlt:k<s.size
  . have C:=U (sr s k hlt);by_cases h1:s[k].toNat=34\/s[k].toNat=92
    . have z:Hid (fq s[k]=[92,s[k]]):=U (by unfold fq;rw [J3 h1]);rcases h1 with h1|h1
      case' inl=>have E:((s[k].toNat:Int) == 34)=true:=by simp;omega
      case' inr =>
       have E:((s[k].toNat:Int) == 34)=false:=by simp;omega
       have K:((s[k].toNat:Int) == 92)=true:=by simp;omega
      all_goals
       clear h1;go_wp2_with fail;refine (zW a.heap.size a.heap.size _ 92 _ (.inr h.o) (by simp [Lib.byteCells];omega) (by omega)).mono ?_;rintro e F ⟨rfl,f,c,-⟩;have J:=c.size;have m:=U f;have j:=U (l.o.trans c);clear f c;go_wp2_with fail;refine (zW a.heap.size a.heap.size _ _ _ (.inr m.o) (by simp [Lib.byteCells];omega) (by omega)).mono ?_;rintro e G ⟨rfl,g,b,-⟩;have o:=U g;have d:=U (j.o.trans b);clear g b;go_wp2;go_roundw
       case rel=>exact ⟨k+1,by omega,by go_num,by rw [C.o,z.o];simpa [Lib.byteCells] using o.o,d.o⟩
       case measure=>simp [intOf];omega
    . have z:Hid (fq s[k]=[s[k]]):=U (by unfold fq;rw [Z6 h1]);have E:((s[k].toNat:Int) == 34)=false:=by simp;omega
      have K:((s[k].toNat:Int) == 92)=false:=by simp;omega
      clear h1;go_wp2_with fail;refine (zW a.heap.size a.heap.size _ _ _ (.inr h.o) (by simp [Lib.byteCells];omega) (by omega)).mono ?_;rintro e G ⟨rfl,g,b,-⟩;have o:=U g;have d:=U (l.o.trans b);clear g b;go_wp2;go_roundw
      case rel=>exact ⟨k+1,by omega,by go_num,by rw [C.o,z.o];simpa [Lib.byteCells] using o.o,d.o⟩
      case measure=>simp [intOf];omega
  . have H:=O0 (s.data.toList.take k=s.data.toList) (J4 (by rw [qu];omega));rw [H.o] at h;go_wp2_with fail;refine (zW a.heap.size a.heap.size _ 34 _ (.inr h.o) (by have:=wW s.data.toList;rw [qu] at this;simp [Lib.byteCells];omega) (by omega)).mono ?_;rintro e F ⟨rfl,f,c,-⟩;have m:=U (show mQ a.heap.size a.heap.size (Lib.byteCells (xZ s.data.toList)) F by simpa [Lib.byteCells,xZ] using f);have j:=U (l.o.trans c);clear f c;go_wp2_with fail;refine (yt a.heap.size a.heap.size _ _ (.inr m.o) (by simp [xZ])).mono ?_;rintro e G ⟨rfl,b,-⟩;have d:=U (q.o.trans ((j.o.trans b).mono q.o.size));clear b;go_wp2;go_ret2;exact ⟨rfl,d.o⟩
theorem uK (l:List Key2) (k:Nat) (a:k<l.length) (h:vy l[k]=false):qP l=false:=by
 unfold qP;have:l.all vy=false:=by rw [Bool.eq_false_iff];intro ha;rw [X9.1 ha _ (J8 a)] at h;cases h
 rw [this];simp
theorem so (l:List Key2) (k:Nat) (a:1<=k) (hk:k<l.length) (h:Op.bytesLess l[k-1].1.toList l[k].1.toList=false):qP l=false:=by unfold qP;have:qd (l.map (·.1))=false:=vX _ k a (by simpa using hk) (by simpa using h);rw [this];simp
theorem tK (l:List Key2) (m:1<=l.length) (j:l.length<=4) (o:∀k (p:k<l.length),vy l[k]=true) (g:∀k (_:1<=k) (p:k<l.length),Op.bytesLess l[k-1].1.toList l[k].1.toList=true):qP l=true:=by
 unfold qP;have e:l.all vy=true:=X9.2 fun x hx=>by obtain ⟨i,hi,rfl⟩:=Y0 hx;exact o i hi
 have f:qd (l.map (·.1))=true:=by
  match l,j,g with
  | [],_,_=>rfl
  | [_],_,_=>rfl
  | [a,b],_,g=>have:=g 1 (by omega) (by simp);simp only [List.map,qd];simpa using this
  | [a,b,c],_,g=>have x1:=g 1 (by omega) (by simp);have x2:=g 2 (by omega) (by simp);simp only [List.map,qd];simp at x1 x2;simp [x1,x2]
  | [a,b,c,d],_,g=>have x1:=g 1 (by omega) (by simp);have x2:=g 2 (by omega) (by simp);have x3:=g 3 (by omega) (by simp);simp only [List.map,qd];simp at x1 x2 x3;simp [x1,x2,x3]
  | _ :: _ :: _ :: _ :: _ :: _,h,_=>simp at h
 rw [e,f];simp [m,j]
theorem dx (a b:Option Addr) (c d:Nat) (w:World):Calls Tryz.prog 45 #[.agg #[.int .u8 0,.int .i64 0,.string ⟨#[]⟩,.slice a 0 c,.slice b 0 d]] w fun e w'=>e=.returned (.bool true)/\O5 w w':=by
 obtain ⟨W,f⟩:=O1 (w.alloc (.cells #[.int .u8 0,.int .i64 0,.string ⟨#[]⟩,.slice a 0 c,.slice b 0 d] 26));have h:=O7 f
 have i:=O9 f
 obtain ⟨k,l,m,o,p⟩:=bx5 i;have j:=U h;have g:=U f;clear h f i;go_enter Tryz.func45,Tryz.ntmps45;go_upto_region 1 with fail
 rw [<- g.o];clear g;go_wp2;go_ret;exact ⟨rfl,j.o⟩
theorem mY (l:List Key2) (a:Option Addr) (c:Nat) (w:World) (hK:qJ w 0 w.heap.size a l) (hl:l.length<=9223372036854775807) (hz:∀k ∈ l,k.1.size<=9223372036854775807/\k.2.size<=9223372036854775807) :
 Calls Tryz.prog 44 #[.slice a l.length c] w fun e w'=>e=.returned (.bool (qP l))/\O5 w w':=by
 have Z:=U hK;have HZ:=U hz;clear hK hz;by_cases h1:l.length<1
 . have g:=U (show qP l=false by unfold qP;rw [X0 (by omega)];rfl);have q1:decide ((l.length:Int)<1)=true:=by simp;omega
   go_enter Tryz.func44,Tryz.ntmps44;go_wp2;go_ret;exact ⟨qx g.o.symm,Z0 _ _⟩
 have q1:decide ((l.length:Int)<1)=false:=by simp;omega
 by_cases h4:4<l.length
 . have g:=U (show qP l=false by unfold qP;rw [X0 (by omega)];rfl);have q2:decide (4<(l.length:Int))=true:=by simp;omega
   clear h1;go_enter Tryz.func44,Tryz.ntmps44;go_wp2;go_ret;exact ⟨qx g.o.symm,Z0 _ _⟩
 have q2:decide (4<(l.length:Int))=false:=by simp;omega
 have HL:=O0 (1<=l.length/\l.length<=4) (⟨by omega,by omega⟩);clear h1 h4;go_enter Tryz.func44,Tryz.ntmps44;go_wp2;go_loopw [3,4,15] (fun _ _ i wr=>∃k:Nat,k<=l.length/\i=.int .i64 k/\(∀j (h:j<l.length),j<k->vy l[j]=true)/\(∀j (_:1<=j) (h:j<l.length),j<k->Op.bytesLess l[j-1].1.toList l[j].1.toList=true)/\O5 w wr) (fun _ _ i _=>l.length - (intOf i).toNat)
 case atStart=>exact ⟨0,by omega,rfl,fun j _ h=>by omega,fun j _ _ h=>by omega,Z0 _ _⟩
 case round =>
  obtain ⟨k,hk,rfl,I,K,d⟩:=hrel;have C:=U I;have F:=U K;have A:=U d;clear I K;by_cases hlt:k<l.length
  . obtain ⟨b,Y,ha,_,W,R,S⟩:=(Z.o.below d lz lz d.size).at k hlt;subst ha;have L:=HZ.o l[k] (J8 hlt);obtain ⟨f,x⟩:=O1 (l[k].1);obtain ⟨z,y⟩:=O1 (l[k].2);rw [<- x] at R L;rw [<- y] at S L;have HS:=U (And.intro x y);have s:=U (show vy l[k]=(zw f.data.toList && jw z.data.toList) by unfold vy;rw [x,y]);have p:k=0\/(1<=k/\wr.cell? ⟨b,Y+(k - 1) * 2,none⟩=some (.string l[k-1].1)):=by
     by_cases h0:k=0
     . exact .inl h0
     . obtain ⟨b',a0,T,_,_,x0,_⟩:=(Z.o.below d lz lz d.size).at (k - 1) (by omega);cases T;exact .inr ⟨by omega,x0⟩
    have Q:=U p;clear x y d p;have u:=U (xA f (wr.alloc (.cells #[.string f,.string z] 67)) (by omega));cases hr:zw f.data.toList
    . have g:=U (uK l k hlt (by rw [s.o,hr];rfl));rw [hr] at u;clear hr;go_wp2_with fail;refine u.o.mono ?_;rintro e w' ⟨rfl,H⟩;subst H;go_wp2;go_ret;exact ⟨qx g.o.symm,A.o.alloc A.o.size _⟩
    . rw [hr] at u s;clear hr;have N:=U (us z (wr.alloc (.cells #[.string f,.string z] 67)) (by omega));go_wp2_with fail;refine u.o.mono ?_;rintro e w' ⟨rfl,H⟩;subst H;go_wp2_with fail;refine N.o.mono ?_;rintro e w' ⟨rfl,H⟩;subst H;cases hp:jw z.data.toList
      . have g:=U (uK l k hlt (by rw [s.o,hp];rfl));clear hp;go_wp2;go_ret;exact ⟨qx g.o.symm,A.o.alloc A.o.size _⟩
      . have D:=U (show vy l[k]=true by rw [s.o,hp];rfl);clear hp;obtain ⟨G,m⟩:=O1 (wr.alloc (.cells #[.string f,.string z] 67));have r:=U (show O5 w G by rw [m];exact A.o.alloc A.o.size _);have v0:G.cell? ⟨wr.heap.size,0,none⟩=some (.string f):=by rw [m];exact qq (Z5 wr _) rfl
        have M:=O0 (∀o,G.cell? ⟨b,o,none⟩=wr.cell? ⟨b,o,none⟩) (fun o=>by rw [m];exact ((Z0 wr.heap.size wr).alloc lz _).cell W);have v:=U m;clear m;rcases Q.o with h0|⟨h0,hc⟩
        . subst h0;clear R S;go_upto_region 8 with fail
          rw [<- v.o];go_quiet (fail);go_wp2;go_roundw
          case rel =>
           refine ⟨1,by omega,by go_num,fun j hj hjk=>?_,fun j h1 hj hjk=>by omega,Below.drewN r.o _⟩;obtain rfl:j=0:=by omega
           exact D.o
          case measure=>simp [intOf];omega
        . have X:=(M.o _).trans hc;obtain ⟨q,B⟩:=O1 (l[k-1].1);rw [<- B] at X;have E:=U B;have q5:0<k:=by omega
          clear R S hc B;cases d:Op.bytesLess q.toList f.toList
          . have g:=U (so l k h0 hlt (by rw [<- E.o,<- HS.o.1];exact d));cases J:Op.bytesLess f.toList q.toList
            . have V:(f.toList == q.toList)=true:=by simpa using wV _ _ J d
              clear d;go_upto_region 8 with fail
              rw [<- v.o];go_quiet (fail);go_wp2;go_ret;exact ⟨qx g.o.symm,Below.drewN r.o _⟩
            . clear d;go_upto_region 8 with fail
              rw [<- v.o];go_quiet (fail);go_wp2;go_ret;exact ⟨qx g.o.symm,Below.drewN r.o _⟩
          . have P:=U d;have J:Op.bytesLess f.toList q.toList=false:=by
             cases h:Op.bytesLess f.toList q.toList with
             | false=>rfl
             | true=>have:=kQ _ _ _ h d;rw [zT] at this;cases this
            have V:(
             f.toList == q.toList)=false:=by
             cases h:(f.toList == q.toList) with
             | false=>rfl
             | true =>
              have h2:f.toList=q.toList:=by simpa using h
              rw [h2,zT] at d;cases d
            clear d;go_upto_region 8 with fail
            rw [<- v.o];go_quiet (fail);go_wp2;go_roundw
            case rel =>
             refine ⟨k+1,by omega,by go_num,fun j hj hjk=>?_,fun j h1 hj hjk=>?_,Below.drewN r.o _⟩
             . by_cases e:j=k
               . subst e;exact D.o
               . exact C.o j hj (by omega)
             . by_cases e:j=k
               . subst e;rw [<- E.o,<- HS.o.1];exact P.o
               . exact F.o j h1 hj (by omega)
            case measure=>simp [intOf];omega
  . have g:=U (tK l HL.o.1 HL.o.2 (fun j hj=>C.o j hj (by omega)) (fun j h1 hj=>F.o j h1 hj (by omega)));clear d;go_wp2;go_ret;exact ⟨qx g.o.symm,A.o⟩
theorem ba_eq {a b:ByteArray}:(a.toList == b.toList)=decide (a=b):=by rw [X4,X4,zc3];simp only [beq_iff_eq,J1];exact ⟨fun h=>uZ h,fun h=>by rw [h]⟩
theorem rk (w:World):Calls Tryz.prog 56 #[.agg #[.slice none 0 0,.slice none 0 0,.int .i64 0,.slice none 0 0,.int .i64 0,.string ⟨#[]⟩]] w fun e w'=>e=.returned (.bool true)/\O5 w w':=by
 obtain ⟨W,b⟩:=O1 (w.alloc (.cells #[.slice none 0 0,.slice none 0 0,.int .i64 0,.slice none 0 0,.int .i64 0,.string ⟨#[]⟩] 43));have d:=O7 b
 have a:=O9 b
 have g:=qq a (j:=0) rfl;have h:=qq a (j:=1) rfl;have i:=qq a (j:=2) rfl;have k:=qq a (j:=3) rfl;have l:=qq a (j:=4) rfl;have m:=qq a (j:=5) rfl;have f:=U d;have c:=U b;clear d b a;go_enter Tryz.func56,Tryz.ntmps56;go_upto_region 1 with fail
 rw [<- c.o];clear c;go_wp2;go_ret;exact ⟨rfl,f.o⟩
