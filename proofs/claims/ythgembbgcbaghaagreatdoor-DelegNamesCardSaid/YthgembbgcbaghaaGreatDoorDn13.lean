import Derived.Test.YthgembbgcbaghaaGreatDoorDn12
set_option maxHeartbeats 1000000
set_option maxRecDepth 100000

namespace Go.Proofs.YthgembbgcbaghaaGreatDoor
open Go.RowKit Go.WideMaps Go.Maps
theorem q7 (o:Nat) (c kind:Int) (w:World) (g:w.cell? ⟨o,6,none⟩=some (.int .i64 c)) (f:w.cell? ⟨o,0,none⟩=some (.int .u8 kind)) (d:c=0->kind=5) :
 Calls Tryz.prog 121 #[.pointer (some ⟨o,0,none⟩)] w fun e w'=>e=.returned (.int .i64 c)/\w=w':=by
 by_cases he:c=0
 . have a:=d he;subst he a;clear d;go_enter Tryz.func121,Tryz.ntmps121;go_wp2;go_ret;exact ⟨rfl,rfl⟩
 . have b:(c == 0)=false:=by simpa using he
   clear d he;go_enter Tryz.func121,Tryz.ntmps121;go_wp2;go_ret;exact ⟨rfl,rfl⟩
theorem zD (o:Nat) (e:Int) (w:World) (b:w.cell? ⟨o,6,none⟩=some (.int .i64 0)) (a:w.cell? ⟨o,0,none⟩=some (.int .u8 5)) (c:w.frozen? ⟨o,6,none⟩=false) :
 Calls Tryz.prog 63 #[.pointer (some ⟨o,0,none⟩),.int .i64 e] w fun r w'=>r=.returned (.tuple #[])/\w'=w.setCell ⟨o,6,none⟩ (.int .i64 e):=by
 go_enter Tryz.func63,Tryz.ntmps63;go_wp2_with fail;refine (q7 o 0 5 w b a (fun _=>rfl)).mono ?_;rintro r w' ⟨rfl,rfl⟩;go_wp2
 go_end0
 exact ⟨rfl,rfl⟩
theorem rS (k n:Int) (t:ByteArray) (a b:Value) (w:World) :
 Calls Tryz.prog 187 #[.agg #[.int .u8 k,.int .i64 n,.string t,a,b]] w fun e w'=>e=.returned (.tuple #[.string (if k=3 then t else ⟨#[]⟩),.int .i64 (if k=3 then 0 else 10)])/\O5 w w':=by
 have c:=O0 (O5 w (w.alloc (.cells #[.int .u8 k,.int .i64 n,.string t,a,b] 25))) O4;by_cases hk:k=3
 . subst hk;go_enter Tryz.func187,Tryz.ntmps187;go_wp2;go_ret2;exact ⟨by simp,c.o⟩
 . have d:(k == 3)=false:=by simpa using hk
   have f:=U hk;clear hk;go_enter Tryz.func187,Tryz.ntmps187;go_wp2;go_ret2;exact ⟨by simp,c.o⟩
theorem jq:Keyed Tryz.prog 9:=string_keyed X0
theorem j8 (w:World):(zeroValue 3).run Tryz.prog w=.ok (.int .i64 0) w:=by kernel_rfl
def ua (o m lo hi:Nat) (v:JV) (an ai:Option Addr) (cn ci:Nat) (y:ByteArray) (st:PS) (w:World) (e:Ending) (w':World):Prop :=
 e=.returned (.string (qh v y st).1)/\PickAt o m lo hi v an ai cn ci (qh v y st).2 w'/\Touch (fun b=>b=o\/b=m) w w'
theorem rA (o m lo hi:Nat) (v:JV) (an ai:Option Addr) (cn ci:Nat) (y:ByteArray) (st:PS) (w:World) (hP:PickAt o m lo hi v an ai cn ci st w) (hy:y.size<=4294967296) (ha:st.asked.length<=4294967296) :
 Calls Tryz.prog 186 #[.pointer (some ⟨o,0,none⟩),.string y,.func (.func 187) #[] #[]] w (ua o m lo hi v an ai cn ci y st w):=by
 have f:=U hP;clear hP;have K:=qq f.o.obj (j:=6) rfl;have N:w.cell? ⟨o,0,none⟩=some (.int .u8 5):=(qq (j:=0) f.o.obj rfl).trans (by rw [f.o.kind];rfl);by_cases he:st.err=0
 . rw [he] at K;have x:=U he;clear he;have Z:=qq f.o.obj (j:=1) rfl;have c2:=qq f.o.obj (j:=2) rfl;have c3:=qq f.o.obj (j:=3) rfl;have c4:=qq f.o.obj (j:=4) rfl;have V:=U f.o.rep;rw [f.o.kind] at V;have S:=U (jU v y _ w lo hi f.o.wt f.o.pos f.o.le V.o f.o.kind f.o.rise f.o.len);go_enter Tryz.func186,Tryz.ntmps186;go_wp2_with fail;refine (q7 o 0 5 w K N (fun _=>rfl)).mono ?_;rintro r w' ⟨rfl,rfl⟩;go_wp2_with fail;refine S.o.mono ?_;clear S N Z c2 c3 c4 K;rintro e A ⟨hh,I⟩;have i:=U I;clear I;rcases hh with ⟨r,hr1,hr2,hre,an',cn',ai',ci',rfl,hrep⟩|⟨hno,rfl⟩
   . have T:=U (xE f.o.rise r hr1 hr2 hre);clear hre hrep;generalize v.items[r]=it at *;have J:O5 w (A.alloc (.cells #[.int .u8 it.kind,.int .i64 it.n,.string it.t,.slice an' it.names.length cn',.slice ai' it.items.length ci'] 25)):=i.o.alloc i.o.size _;have g:=U J;have B:=U (rS it.kind it.n it.t (.slice an' it.names.length cn') (.slice ai' it.items.length ci') (A.alloc (.cells #[.int .u8 it.kind,.int .i64 it.n,.string it.t,.slice an' it.names.length cn',.slice ai' it.items.length ci'] 25)));clear J;by_cases hk:it.kind=3
     . have Y:=U hk;rw [Q1 hk,Q1 hk] at B;clear hk;go_wp2_with fail;refine B.o.mono ?_;clear B;rintro e C ⟨rfl,q⟩;have a:=U (O2 g q);have d:=U (f.o.below a.o);clear q g;have d5:=qq d.o.obj (j:=5) rfl;have s:keyOf Tryz.prog 9 (.string y)=some (.string y.data.toList):=keyOf_string_mk X0 (by unfold maxLen;omega);obtain ⟨D,n,u,hn,P⟩:=d.o.map;obtain ⟨c,z,a0,a1,Q⟩:=P.2 y;obtain ⟨c',W,p,_⟩:=u.lookup_int jq Y6 X5 (j8 _) s;rw [z] at p;simp only [H9,M4,H7] at p;subst p;have X:=U (P.cons y c z);have L:=U s;have M:=U u;clear P z Q s u;go_wp2_with (at_mapUpdate;refine G8 _ rfl _ _ _ 150 rfl 9 3 jq Y6 _ m n D rfl M.o (by unfold maxLen;omega) _ _ _ rfl rfl L.o _ [] (plainElem_int X5 (WalkArith.wf_i64 (by omega))) ?_);intro R hown3 hgrow3;have h:=U (d.o.ask y hgrow3 hown3 (by omega) X.o);have E:=O0 (Touch (fun b=>b=o\/b=m) w R) (⟨by rw [hgrow3.os,a.o.os],by rw [hgrow3.tape,a.o.tape],by rw [hgrow3.output,a.o.output],Z5 a.o.size hgrow3.size,fun k hk hs=>by rw [hgrow3.block k (J7 hk a.o.size) (fun e=>hs (.inr (J0 e))),a.o.block k hk]⟩);clear hgrow3 hown3;have l:=U (show qh v y st=(it.t,⟨y :: st.asked,0⟩) by unfold qh;rw [Z6 (by simp [x.o]),T.o];simp [Y.o]);rw [x.o] at h;go_wp2;go_ret;exact ⟨by rw [l.o];rfl,by rw [l.o];exact h.o,E.o⟩
     . have l:=U (show qh v y st=(⟨#[]⟩,⟨st.asked,10⟩) by unfold qh;rw [Z6 (by simp [x.o]),T.o];simp [hk]);rw [Z6 hk,Z6 hk] at B;clear hk;go_wp2_with fail;refine B.o.mono ?_;clear B;rintro e C ⟨rfl,q⟩;have a:=U (O2 g q);have d:=U (f.o.below a.o);clear q g;have G:C.cell? ⟨o,6,none⟩=some (.int .i64 0):=(qq (j:=6) d.o.obj rfl).trans (by rw [x.o];rfl);have F:C.cell? ⟨o,0,none⟩=some (.int .u8 5):=(qq (j:=0) d.o.obj rfl).trans (by rw [f.o.kind];rfl);have H:C.frozen? ⟨o,6,none⟩=false:=by simp [World.frozen?,d.o.obj]
       go_wp2_with fail
       refine (zD o 10 _ G F H).mono ?_;clear G F H;rintro e R ⟨rfl,rfl⟩;have h:=U (d.o.fail 10);have E:=O0 (Touch (fun b=>b=o\/b=m) w (C.setCell ⟨o,6,none⟩ (.int .i64 10))) ((Touch.of_below a.o lz).setCell (.inl (.inl rfl)) _);go_wp2;go_ret;exact ⟨by rw [l.o];rfl,by rw [l.o];exact h.o,E.o⟩
   . have l:=U (show qh v y st=(⟨#[]⟩,⟨st.asked,6⟩) by unfold qh;rw [Z6 (by simp [x.o]),show v.look y=none from xu _ _ _ hno]);unfold zeroAgg;have a:=O0 (O5 w (A.alloc (.cells #[.int .u8 0,.int .i64 0,.string ⟨#[]⟩,.slice none 0 0,.slice none 0 0] 25))) (i.o.alloc i.o.size _);have d:=U (f.o.below a.o);clear hno i;have G:(A.alloc (.cells #[.int .u8 0,.int .i64 0,.string ⟨#[]⟩,.slice none 0 0,.slice none 0 0] 25)).cell? ⟨o,6,none⟩=some (.int .i64 0):=(qq (j:=6) d.o.obj rfl).trans (by rw [x.o];rfl);have F:(A.alloc (.cells #[.int .u8 0,.int .i64 0,.string ⟨#[]⟩,.slice none 0 0,.slice none 0 0] 25)).cell? ⟨o,0,none⟩=some (.int .u8 5):=(qq (j:=0) d.o.obj rfl).trans (by rw [f.o.kind];rfl);have H:(A.alloc (.cells #[.int .u8 0,.int .i64 0,.string ⟨#[]⟩,.slice none 0 0,.slice none 0 0] 25)).frozen? ⟨o,6,none⟩=false:=by simp [World.frozen?,d.o.obj]
     go_wp2_with fail
     refine (zD o 6 _ G F H).mono ?_;clear G F H;rintro e R ⟨rfl,rfl⟩;have h:=U (d.o.fail 6);have E:=O0 (Touch (fun b=>b=o\/b=m) w ((A.alloc (.cells #[.int .u8 0,.int .i64 0,.string ⟨#[]⟩,.slice none 0 0,.slice none 0 0] 25)).setCell ⟨o,6,none⟩ (.int .i64 6))) ((Touch.of_below a.o lz).setCell (.inl (.inl rfl)) _);go_wp2;go_ret;exact ⟨by rw [l.o];rfl,by rw [l.o];exact h.o,E.o⟩
 . have a2:(st.err == 0)=false:=by simpa using he
   have a3:(st.err != 0)=true:=by simpa using he
   have l:=U (show qh v y st=(⟨#[]⟩,st) by unfold qh;rw [Q1 he]);have x:=U he;clear he;go_enter Tryz.func186,Tryz.ntmps186;go_wp2_with fail;refine (q7 o st.err 5 w K N (fun _=>rfl)).mono ?_;rintro r w' ⟨rfl,rfl⟩;go_wp2;go_ret;exact ⟨by rw [l.o];rfl,by rw [l.o];exact f.o,Touch.refl _ _⟩
theorem yZ (o m lo hi:Nat) (v:JV) (an ai:Option Addr) (cn ci:Nat) (y:ByteArray) (st:PS) (w:World) (g:PickAt o m lo hi v an ai cn ci st w) (i:y.size<=4294967296) (h:st.asked.length<=4294967296) :
 Calls Tryz.prog 124 #[.pointer (some ⟨o,0,none⟩),.string y] w (ua o m lo hi v an ai cn ci y st w):=by
 have f:=U (rA o m lo hi v an ai cn ci y st w g i h);clear g;go_enter Tryz.func124,Tryz.ntmps124;go_wp2_with fail;refine f.o.mono ?_;rintro e w' ⟨rfl,a,b⟩;have c:=U a;have d:=U b;clear a b;go_wp2;go_ret;exact ⟨rfl,c.o,d.o⟩
def xb (o:Nat) (err:Int) (w:World):Prop:=err≠0/\w.cell? ⟨o,6,none⟩=some (.int .i64 err)/\∃k,w.cell? ⟨o,0,none⟩=some (.int .u8 k)
theorem xb.below {o:Nat} {d:Int} {w w':World} (h:xb o d w) (e:O5 w w') (f:o<w.heap.size):xb o d w':=by obtain ⟨a,b,k,c⟩:=h;exact ⟨a,by rw [e.cell f];exact b,k,by rw [e.cell f];exact c⟩
theorem fW (o:Nat) (j:Int) (y:ByteArray) (w:World) (h:xb o j w) :
 Calls Tryz.prog 124 #[.pointer (some ⟨o,0,none⟩),.string y] w fun e w'=>e=.returned (.string ⟨#[]⟩)/\w=w':=by
 obtain ⟨a,c,k,b⟩:=h;have f:=U (show Calls Tryz.prog 186 #[.pointer (some ⟨o,0,none⟩),.string y,.func (.func 187) #[] #[]] w (fun e w'=>e=.returned (.string ⟨#[]⟩)/\w=w') by
  have g:(j == 0)=false:=by simpa using a
  have i:(j != 0)=true:=by simpa using a
  have d:=U a;clear a;go_enter Tryz.func186,Tryz.ntmps186;go_wp2_with fail;refine (q7 o j k w c b (fun h=>absurd h d.o)).mono ?_;rintro r w' ⟨rfl,rfl⟩;go_wp2;go_ret;exact ⟨rfl,rfl⟩)
 clear a c b;go_enter Tryz.func124,Tryz.ntmps124;go_wp2_with fail;refine f.o.mono ?_;rintro e w' ⟨rfl,rfl⟩;go_wp2;go_ret;exact ⟨rfl,rfl⟩
theorem fY (o:Nat) (d k:Int) (w:World) (he:d≠0) (g:w.cell? ⟨o,6,none⟩=some (.int .i64 d)) (f:w.cell? ⟨o,0,none⟩=some (.int .u8 k)) :
 Calls Tryz.prog 68 #[.pointer (some ⟨o,0,none⟩)] w fun e w'=>e=.returned (.int .i64 d)/\w=w':=by
 have b:(d == 0)=false:=by simpa using he
 have c:(d != 0)=true:=by simpa using he
 have a:=U he;clear he;go_enter Tryz.func68,Tryz.ntmps68;go_wp2_with fail;refine (q7 o d k w g f (fun h=>absurd h a.o)).mono ?_;rintro r w' ⟨rfl,rfl⟩;go_wp2;go_ret;exact ⟨rfl,rfl⟩
theorem rT {α:Type} (p:α->Bool) (l:List α) (k:Nat) (h:k<l.length) (a:(l.take k).all p=true) (b:p l[k]=true):(l.take (k+1)).all p=true:=by rw [Z8 h,List.all_append,a];simp [b]
theorem sS {α:Type} (p:α->Bool) (l:List α) (k:Nat) (h:k<l.length) (a:p l[k]=false):l.all p=false:=by rw [N9];exact ⟨l[k],J1 h,by simp [a]⟩
theorem pD (o m lo hi:Nat) (v:JV) (an ai:Option Addr) (cn ci:Nat) (st:PS) (w:World) (hP:PickAt o m lo hi v an ai cn ci st w) (hn:∀i (h:i<v.names.length),v.names[i].size<=4294967296) :
 Calls Tryz.prog 68 #[.pointer (some ⟨o,0,none⟩)] w fun e w'=>e=.returned (.int .i64 (qu v st))/\w=w':=by
 have B:=qq hP.obj (j:=6) rfl;have G:w.cell? ⟨o,0,none⟩=some (.int .u8 5):=(qq (j:=0) hP.obj rfl).trans (by rw [hP.kind];rfl);by_cases he:st.err=0
 . have K:=qq hP.obj (j:=3) rfl;have c5:=qq hP.obj (j:=5) rfl;rw [he] at B;have A:=U (show qu v st=if v.names.all (fun n=>st.asked.any fun a=>decide (a=n)) then 0 else 11 by unfold qu;rw [Z6 (by simp [he])]);have H:=(v.wt_bd).2.1;have a0:=hP.wt;have J:=U hP;have Q:=U hn;obtain ⟨z,q⟩:=O1 v.names.length;rw [<- q] at K H;have u:=U q;clear hP he hn q;go_enter Tryz.func68,Tryz.ntmps68;go_wp2_with fail;refine (q7 o 0 5 w B G (fun _=>rfl)).mono ?_;rintro r w' ⟨rfl,rfl⟩;go_wp2;clear B G K
   go_loop [5,17] (fun _ i=>∃k:Nat,k<=z/\i=.int .i64 k/\(v.names.take k).all (fun n=>st.asked.any fun a=>decide (a=n))=true) (fun _ i=>z - (intOf i).toNat)
   case atStart=>exact ⟨0,by omega,rfl,by simp⟩
   case round =>
    obtain ⟨k,hk,rfl,g⟩:=hrel;have I:=U g;clear g;by_cases hlt:k<z
    . have b:k<v.names.length:=by rw [<- u.o];exact hlt
      obtain ⟨_,_,_,C,_⟩:True/\True/\True/\qy w lo hi an v.names/\True:=by obtain ⟨S,V,R,T,N,_,_,C,_⟩:=J.o.rep.parts;simp only [K3,K8,V4,N7,X4] at N;obtain ⟨_,_,_,⟨rfl,_,_⟩,_⟩:=N;exact ⟨trivial,trivial,trivial,C,trivial⟩
      obtain ⟨nb,P,rfl,_,_,yn⟩:=C.at k b;have Z:=Q.o k b;have F:=U (rT (fun n=>st.asked.any fun a=>decide (a=n)) v.names k b I.o);have E:=U (sS (fun n=>st.asked.any fun a=>decide (a=n)) v.names k b);clear C;generalize v.names[k]=nk at *;have l:keyOf Tryz.prog 9 (.string nk)=some (.string nk.data.toList):=keyOf_string_mk X0 (by unfold maxLen;omega);obtain ⟨D,n,p,hn,L⟩:=J.o.map;obtain ⟨c,x,W,X,f⟩:=L.2 nk;obtain ⟨c',M,d,_⟩:=p.lookup_int jq Y6 X5 (j8 _) l;rw [x] at d;simp only [H9,M4,H7] at d;subst d;clear p x L hn l;by_cases hc:c=0
      . have y:=f.1 hc;have s:=U (E.o (by
         rw [List.any_eq_false];intro a ha;simp only [Z7];intro e;subst e;exact y ha))
        subst hc;clear f y;go_wp2;go_ret;exact ⟨by rw [A.o,s.o];rfl,rfl⟩
      . have y:nk ∈ st.asked:=by
         by_cases h:nk ∈ st.asked
         . exact h
         . exact absurd (f.2 h) hc
        have s:=U (F.o (by rw [M5];exact ⟨nk,y,by simp⟩));have Y:(c == 0)=false:=by simpa using hc
        clear f y hc;go_wp2
        go_round
        case rel=>exact ⟨k+1,by omega,by go_num,s.o⟩
        case measure=>simp [intOf];omega
    . have s:=U (show v.names.all (fun n=>st.asked.any fun a=>decide (a=n))=true by
       have:=I.o;rwa [Q4 (by rw [<- u.o];omega)] at this)
      go_wp2;go_ret;exact ⟨by rw [A.o,s.o];rfl,rfl⟩
 . have A:=U (show qu v st=st.err by unfold qu;rw [Q1 he]);refine (fY o st.err 5 w he B G).mono ?_;rintro e w' ⟨rfl,rfl⟩;exact ⟨by rw [A.o],rfl⟩
def dI (w:World) (e:Ending) (w':World):Prop:=∃o,e=.returned (.pointer (some ⟨o,0,none⟩))/\w.heap.size<=o/\o<w'.heap.size/\xb o 10 w'/\O5 w w'
theorem g6 (k n:Int) (t:ByteArray) (a b:Value) (w:World) (hk:k≠5) :
 Calls Tryz.prog 60 #[.agg #[.int .u8 k,.int .i64 n,.string t,a,b]] w (dI w):=by
 have c:(k == 5)=false:=by simpa using hk
 have d:(k != 5)=true:=by simpa using hk
 clear hk;go_enter Tryz.func60,Tryz.ntmps60;go_wp2;go_ret;refine ⟨_,rfl,by omega,by simp,⟨by decide,?_,0,?_⟩,(O4).alloc (by simp) _⟩
 . go_simp
 . go_simp
def tW (v:JV) (w:World) (e:Ending) (w':World):Prop:=∃o m lo hi an ai cn ci,e=.returned (.pointer (some ⟨o,0,none⟩))/\PickAt o m lo hi v an ai cn ci ⟨[],0⟩ w'/\w.heap.size<=o/\w.heap.size<=m/\O5 w w'
theorem y6 (v:JV) (x:Value) (w:World) (lo hi:Nat) (hN:v.wt<=4294967296) (a4:hi<=w.heap.size) (hR:Rep w lo hi v x) (hk:v.kind=5) (hr:qK v.names=true) (hl:v.names.length=v.items.length) (hS:∀k (h:k<v.items.length),uy lo v.items[k]) :
 Calls Tryz.prog 60 #[x] w (tW v w):=by
 obtain ⟨B,D,A,C,rfl,h1,h2,Q,h4⟩:=hR.parts;obtain ⟨b1,b2,X,b4⟩:=v.wt_bd;rw [hl,hk];rw [hl,hk] at hR;obtain ⟨c,u⟩:=O1 v.items.length;rw [<- u] at hR X ⊢;have I:=U u;have M:=U Q;have T:=U hR;have z:=U hr;have V:=U hS;have S:=U hk;have P:=U hl;clear h1 h2 Q h4 hR hr hS hk u hl;have a2:=@run_makeMap Tryz.prog;have G:=O0 (O5 w (w.alloc (.cells #[.int .u8 5,.int .i64 v.n,.string v.t,.slice B c D,.slice A c C] 25))) O4;have K:=U (Z4 w (.cells #[.int .u8 5,.int .i64 v.n,.string v.t,.slice B c D,.slice A c C] 25));go_enter Tryz.func60,Tryz.ntmps60;go_wp2;go_loopw [3] (fun i wr=>∃k:Nat,1<=k/\(k<=c\/k=1)/\i=.int .i64 k/\Below (w.heap.size+1) (w.alloc (.cells #[.int .u8 5,.int .i64 v.n,.string v.t,.slice B c D,.slice A c C] 25)) wr) (fun i _=>c - (intOf i).toNat)
 case atStart=>exact ⟨1,by omega,.inr rfl,rfl,Z0 _ _⟩
 case round =>
  obtain ⟨k,a0,a1,rfl,a⟩:=hrel;have hz:w.heap.size+1<=wr.heap.size:=by have:=a.size;simpa using this
  have y:wr.heap[w.heap.size]?=some (.cells #[.int .u8 5,.int .i64 v.n,.string v.t,.slice B c D,.slice A c C] 25 (0,0)):=by rw [a.block _ (by omega)];exact K.o
  have l:=U y;have j:=O0 (O5 w wr) (G.o.trans (a.mono (by omega)));have c3:=qq y (j:=3) rfl;have R:=U a;clear y a;by_cases hlt:k<c
  . have m:k<v.names.length:=by rw [P.o,<- I.o];exact hlt
    obtain ⟨b,L,rfl,_,hb,y1⟩:=(M.o.below j.o a4 lz lz).at k m;obtain ⟨W,F,g,_,_,y0⟩:=(M.o.below j.o a4 lz lz).at (k - 1) (by omega);obtain ⟨rfl,rfl⟩:b=W/\L=F:=by simpa using g
    clear g;have d:=jb z.o (k - 1) k (by omega) m (by omega);unfold bl at d;generalize v.names[k - 1]=na at d y0;generalize v.names[k]=nb at d y1;have i0:IntKind.i64.wrap ((k:Int) - 1)=(k:Int) - 1:=G0 _ (by omega);have j0:0<=(k:Int) - 1:=by omega
    have j1:1<=(k:Int):=by omega
    have j2:(k:Int) - 1<(c:Int):=by omega
    have j3:(k:Int)<(c:Int):=by omega
    have t0:((k:Int) - 1).toNat=k - 1:=by omega
    go_wp2_with fail
    go_quiet (fail)
    go_wp2;go_roundw
    case rel=>exact ⟨k+1,by omega,by omega,by go_num,Below.drewN R.o _⟩
    case measure=>simp [intOf];omega
  . have Y:=qq l.o (j:=0) rfl;have Z:=qq l.o (j:=1) rfl;have c2:=qq l.o (j:=2) rfl;have c4:=qq l.o (j:=4) rfl;have N:=U (vP v _ wr lo hi hN (by omega) (T.o.below j.o a4 lz lz) V.o);go_wp2_with fail;refine N.o.mono ?_;clear N Y Z c2 c3 c4;rintro e f ⟨p,r,o,q,rfl,E,s⟩;have a3:=s.size;have J:=U E;have H:=U (j.o.trans (s.mono (by omega)));clear E s;go_wp2;go_ret;refine ⟨f.heap.size+1,f.heap.size,wr.heap.size,f.heap.size,p,o,r,q,rfl,?_,by omega,by omega,(H.o.alloc (by omega) _).alloc (by simp;omega) _⟩;have g:O5 f ((f.alloc (.map #[] 0)).alloc (.cells #[.int .u8 v.kind,.int .i64 v.n,.string v.t,.slice p v.names.length r,.slice o v.items.length q,.map (some f.heap.size),.int .i64 0] 152)):=(O4).alloc (by simp) _;exact {
     obj:=by have:=Z4 (f.alloc (.map #[] 0)) (.cells #[.int .u8 v.kind,.int .i64 v.n,.string v.t,.slice p v.names.length r,.slice o v.items.length q,.map (some f.heap.size),.int .i64 0] 152);rw [show (f.alloc (.map #[] 0)).heap.size=f.heap.size+1 by simp] at this;exact this
     map:=⟨_,0,(World.ownsMap_made f _ _ _).alloc _,by omega,us.nil⟩
     rep:=J.o.below g lz lz lz
     pos:=by omega
     out:=⟨by omega,by omega⟩
     le:=g.size
     kind:=S.o
     rise:=z.o
     len:=P.o
     wt:=hN }
def xI (seen:List ByteArray) (x:ByteArray):Bool:=seen.any fun y=>y.toList == x.toList
theorem kQ (b:List ByteArray) (x:ByteArray):xI b x=true↔x ∈ b:=by
 unfold xI;rw [M5];constructor
 . rintro ⟨y,a,e⟩;rw [<- ye (eq_of_beq e)];exact a
 . intro h;exact ⟨x,h,by simp⟩
def y7 (s:ByteArray):Bool:=decide (s.size=64) && xO s.data.toList
def xw (seen:List ByteArray):List ByteArray->Int
 | []=>0
 | x :: r=>if y7 x then (if xI seen x then 7 else xw (seen ++ [x]) r) else 3
def jM (t:Int) (ids:List ByteArray):Bool:=decide (1<=ids.length/\ids.length<=16/\1<=t/\t<=ids.length) && decide (xw [] ids=0)
def g7 (c:UInt8):List UInt8:=if c.toNat=34\/c.toNat=92 then [92,c] else [c]
def wL (l:List UInt8):List UInt8:=l.flatMap g7
def xo (l:List UInt8):List UInt8:=34 :: (wL l ++ [34])
theorem dO (s:ByteArray) (k:Nat) (h:k<s.size):wL (s.data.toList.take (k+1))=wL (s.data.toList.take k) ++ g7 s[k]:=by unfold wL;rw [yg s k h];simp
theorem vf (l:List UInt8):(wL l).length<=2 * l.length:=by
 induction l with
 | nil=>simp [wL]
 | cons c r ih =>
  have e:wL (c :: r)=g7 c ++ wL r:=by simp [wL]
  rw [e,V6,G6];have:(g7 c).length<=2:=by unfold g7;split <;> simp
  omega
def dE (s:ByteArray) (w:World) (e:Ending) (w':World):Prop:=e=.returned (.tuple #[.string ⟨(xo s.data.toList).toArray⟩,.int .i64 0])/\O5 w w'
theorem mE (s:ByteArray) (w:World) (Q:s.size<=4096) (R:wD s=true) :
 Calls Tryz.prog 229 #[.string s] w (dE s w):=by
 go_enter Tryz.func229,Tryz.ntmps229;go_wp2_with fail;refine (gT s _ (by omega)).mono ?_;rintro e a ⟨rfl,r⟩;have q:=U r;clear r;go_wp2_with fail;have D:wi a.heap.size a.heap.size [] (a.alloc (.cells #[.pointer none,.slice none 0 0] 228)):=Lib.IsBuilderF.of (Lib.fresh_isBuilder _ _ a);refine (zX a.heap.size a.heap.size [] 34 _ D (by simp) (by simp)).mono ?_;rintro e L ⟨rfl,x,u,B⟩;have A:=U x;have y:=O0 (O5 a L) ((O4).trans u);clear x u B D;go_wp2;go_loopw [5,15] (fun _ i wr=>∃k:Nat,k<=s.size/\i=.int .i64 k/\fZ a.heap.size a.heap.size (Lib.byteCells (34 :: wL (s.data.toList.take k))) wr/\O5 a wr) (fun _ i _=>s.size - (intOf i).toNat)
 case atStart=>exact ⟨0,Q2 _,rfl,A.o,y.o⟩
 case round =>
  obtain ⟨k,M,rfl,v,p⟩:=hrel;have N:=vf (s.data.toList.take k);have I:(s.data.toList.take k).length<=k:=List.length_take_le _ _;have P:=p.size;have h:=U v;have l:=U p;clear v p;by_cases hlt:k<s.size
  . have C:=U (dO s k hlt);by_cases h1:s[k].toNat=34\/s[k].toNat=92
    . have z:Hid (g7 s[k]=[92,s[k]]):=U (by unfold g7;rw [Q1 h1]);rcases h1 with h1|h1
      case' inl=>have E:((s[k].toNat:Int) == 34)=true:=by simp;omega
      case' inr =>
       have E:((s[k].toNat:Int) == 34)=false:=by simp;omega
       have K:((s[k].toNat:Int) == 92)=true:=by simp;omega
      all_goals
       clear h1;go_wp2_with fail;refine (zX a.heap.size a.heap.size _ 92 _ (.inr h.o) (by simp [Lib.byteCells];omega) (by omega)).mono ?_;rintro e F ⟨rfl,f,c,-⟩;have J:=c.size;have m:=U f;have j:=U (l.o.trans c);clear f c;go_wp2_with fail;refine (zX a.heap.size a.heap.size _ _ _ (.inr m.o) (by simp [Lib.byteCells];omega) (by omega)).mono ?_;rintro e G ⟨rfl,g,b,-⟩;have o:=U g;have d:=U (j.o.trans b);clear g b;go_wp2;go_roundw
       case rel=>exact ⟨k+1,by omega,by go_num,by rw [C.o,z.o];simpa [Lib.byteCells] using o.o,d.o⟩
       case measure=>simp [intOf];omega
    . have z:Hid (g7 s[k]=[s[k]]):=U (by unfold g7;rw [Z6 h1]);have E:((s[k].toNat:Int) == 34)=false:=by simp;omega
      have K:((s[k].toNat:Int) == 92)=false:=by simp;omega
      clear h1;go_wp2_with fail;refine (zX a.heap.size a.heap.size _ _ _ (.inr h.o) (by simp [Lib.byteCells];omega) (by omega)).mono ?_;rintro e G ⟨rfl,g,b,-⟩;have o:=U g;have d:=U (l.o.trans b);clear g b;go_wp2;go_roundw
      case rel=>exact ⟨k+1,by omega,by go_num,by rw [C.o,z.o];simpa [Lib.byteCells] using o.o,d.o⟩
      case measure=>simp [intOf];omega
  . have H:=O0 (s.data.toList.take k=s.data.toList) (Q4 (by rw [qd];omega));rw [H.o] at h;go_wp2_with fail;refine (zX a.heap.size a.heap.size _ 34 _ (.inr h.o) (by have:=vf s.data.toList;rw [qd] at this;simp [Lib.byteCells];omega) (by omega)).mono ?_;rintro e F ⟨rfl,f,c,-⟩;have m:=U (show fZ a.heap.size a.heap.size (Lib.byteCells (xo s.data.toList)) F by simpa [Lib.byteCells,xo] using f);have j:=U (l.o.trans c);clear f c;go_wp2_with fail;refine (v8 a.heap.size a.heap.size _ _ (.inr m.o) (by simp [xo])).mono ?_;rintro e G ⟨rfl,b,-⟩;have d:=U (q.o.trans ((j.o.trans b).mono q.o.size));clear b;go_wp2;go_ret2;exact ⟨rfl,d.o⟩
theorem ba_eq {a b:ByteArray}:(a.toList == b.toList)=decide (a=b):=by rw [J3,J3,M7];simp only [M1,Z7];exact ⟨fun h=>pC h,fun h=>by rw [h]⟩
theorem vF {w:World} {a base' e b n:Nat} {v:Value} {cs:List Value} (h:w.ownsRow a e b v n cs) (c:base'<=a):w.ownsRow base' e b v n cs:=by
 refine ⟨h.1,?_⟩;rcases h.2 with h2|⟨g,cap,cur,hv,hg,r⟩
 . exact .inl h2
 . exact .inr ⟨g,cap,cur,hv,Z5 c hg,r⟩
structure ObjAt2 (W wr:World) (B cb T e1 e5:Nat) (vn vi:Value) (ns:List ByteArray) (its:List JV) (cs:List Value):Prop where
 lt:cb<W.heap.size
 le:B<=W.heap.size
 touch:Touch (· = cb) W wr
 row:wr.rowIs cb T 5 (qB (.int .u8 5) (.int .i64 0) (.string ⟨#[]⟩) vn vi)
 names:wr.ownsRow W.heap.size e1 1 vn ns.length (ns.map .string)
 items:wr.ownsRow W.heap.size e5 5 vi its.length cs
 reps:q6 wr B (fun b=>b=cb\/vn.ownBlock=some b\/vi.ownBlock=some b) its cs
 ne:∀b,vn.ownBlock=some b->vi.ownBlock≠some b
theorem ObjAt2.below {W wr w':World} {B d T e f:Nat} {j i:Value} {g:List ByteArray} {c:List JV} {cs:List Value} (h:ObjAt2 W wr B d T e f j i g c cs) (a:O5 wr w'):ObjAt2 W w' B d T e f j i g c cs where
 lt:=h.lt
 le:=h.le
 touch:=h.touch.trans (Touch.of_below a lz)
 row:=qw a h.row h.row.lt
 names:=qE h.names a
 items:=qE h.items a
 reps:=h.reps.carry a.size lz (fun b hb' _=>a.block b hb') (fun _ hx=>.inl hx)
 ne:=h.ne
theorem ObjAt2.name {W wr u:World} {B v T E G g cap:Nat} {y D:Value} {w:List ByteArray} {C:List JV} {cs:List Value} (h:ObjAt2 W wr B v T E G y D w C cs) (x:ByteArray)
 (A:wr.grownBy u y.ownBlock) (z:y.ownBlock=some g\/wr.heap.size<=g)
 (F:u.ownsRow W.heap.size E 1 (.slice (some ⟨g,0,none⟩) (w.length+1) cap) (w.length+1) (w.map .string ++ [.string x])) :
 ObjAt2 W (u.setCell ⟨v,3,none⟩ (.slice (some ⟨g,0,none⟩) (w.length+1) cap)) B v T E G (.slice (some ⟨g,0,none⟩) (w.length+1) cap) D (w ++ [x]) C cs:=by
 have q:W.heap.size<=wr.heap.size:=h.touch.size;have r:=A.size;have f:=h.lt;have j:∀b,y.ownBlock=some b->W.heap.size<=b/\b<wr.heap.size:=fun b hb=>h.names.lt b hb;have c:∀b,D.ownBlock=some b->W.heap.size<=b/\b<wr.heap.size:=fun b hb=>h.items.lt b hb;have k:∀b,b<wr.heap.size->y.ownBlock≠some b->u.heap[b]?=wr.heap[b]?:=fun b hb hne=>A.block b hb (fun e=>hne e.symm);have o:∀b,b≠v->(u.setCell ⟨v,3,none⟩ (.slice (some ⟨g,0,none⟩) (w.length+1) cap)).heap[b]?=u.heap[b]?:=fun b hb=>Q5 _ _ _ _ hb;have l:y.ownBlock≠some v:=fun e=>by have:=(j v e).1;omega
 have s:(u.setCell ⟨v,3,none⟩ (.slice (some ⟨g,0,none⟩) (w.length+1) cap)).heap.size=u.heap.size:=by simp [World.setCell]
 have d:∀b,(Value.slice (some ⟨g,0,none⟩) (w.length+1) cap).ownBlock=some b->b=g:=fun b hb=>by simp [Value.ownBlock] at hb;exact hb.symm
 have m:D.ownBlock≠some g:=fun e=>by
  rcases z with ha|ha
  . exact h.ne g ha e
  . have:=(c g e).2;omega
 refine ⟨f,h.le,⟨?_,?_,?_,by omega,fun b hb hne=>?_⟩,?_,?_,?_,?_,?_⟩
 . show u.os=_;rw [A.os,h.touch.os]
 . show u.tape=_;rw [A.tape,h.touch.tape]
 . show u.output=_;rw [A.output,h.touch.output]
 . rw [o b hne,k b (by omega) (fun e=>by have:=(j b e).1;omega)];exact h.touch.block b hb hne
 . have p:u.rowIs v T 5 _:=h.row.of_block (k v (by omega) l);refine (p.set 3 _).congr fun i hi=>?_;rcases i with _|_|_|_|_|i <;> first|rfl|omega
 . have:=ownsRow_setCell_below F f (Value.slice (some ⟨g,0,none⟩) (w.length+1) cap) (a:=⟨v,3,none⟩);simpa using this
 . refine xj h.items fun b hb=>?_;rw [o b (fun e=>by have:=(c b hb).1;omega),k b (c b hb).2 (fun e=>h.ne b e hb)]
 . refine h.reps.carry (by omega) lz (fun b hb hx=>?_) (fun b hx=>?_)
   . rw [o b (fun e=>hx (.inl e)),k b hb (fun e=>hx (.inr (.inl e)))]
   . rcases hx with hx|hx|hx
     . exact .inl (.inl hx)
     . rw [d b hx];rcases z with ha|ha
       . exact .inl (.inr (.inl ha))
       . exact .inr ha
     . exact .inl (.inr (.inr hx))
 . intro b hb;rw [d b hb];exact m
theorem ObjAt2.item {W wr w:World} {B v T F C g cap lo hi:Nat} {A y:Value} {G:List ByteArray} {u:List JV} {cs:List Value} {it:JV} {an ai:Option Addr} {cn ci:Nat} (h:ObjAt2 W wr B v T F C A y G u cs)
 (I:B<=lo) (H:hi<=v) (E:Rep wr lo hi it (.agg #[.int .u8 it.kind,.int .i64 it.n,.string it.t,.slice an it.names.length cn,.slice ai it.items.length ci]))
 (z:wr.grownBy w y.ownBlock) (x:y.ownBlock=some g\/wr.heap.size<=g)
 (D:w.ownsRow W.heap.size C 5 (.slice (some ⟨g,0,none⟩) (u.length+1) cap) (u.length+1) (cs ++ [.int .u8 it.kind,.int .i64 it.n,.string it.t,.slice an it.names.length cn,.slice ai it.items.length ci])) :
 ObjAt2 W (w.setCell ⟨v,4,none⟩ (.slice (some ⟨g,0,none⟩) (u.length+1) cap)) B v T F C A (.slice (some ⟨g,0,none⟩) (u.length+1) cap) G (u ++ [it]) (cs ++ [.int .u8 it.kind,.int .i64 it.n,.string it.t,.slice an it.names.length cn,.slice ai it.items.length ci]):=by
 have q:W.heap.size<=wr.heap.size:=h.touch.size;have r:=z.size;have j:=h.lt;have f:∀b,A.ownBlock=some b->W.heap.size<=b/\b<wr.heap.size:=fun b hb=>h.names.lt b hb;have c:∀b,y.ownBlock=some b->W.heap.size<=b/\b<wr.heap.size:=fun b hb=>h.items.lt b hb;have k:∀b,b<wr.heap.size->y.ownBlock≠some b->w.heap[b]?=wr.heap[b]?:=fun b hb hne=>z.block b hb (fun e=>hne e.symm);have l:∀b,b≠v->(w.setCell ⟨v,4,none⟩ (.slice (some ⟨g,0,none⟩) (u.length+1) cap)).heap[b]?=w.heap[b]?:=fun b hb=>Q5 _ _ _ _ hb;have m:y.ownBlock≠some v:=fun e=>by have:=(c v e).1;omega
 have s:(w.setCell ⟨v,4,none⟩ (.slice (some ⟨g,0,none⟩) (u.length+1) cap)).heap.size=w.heap.size:=by simp [World.setCell]
 have d:∀b,(Value.slice (some ⟨g,0,none⟩) (u.length+1) cap).ownBlock=some b->b=g:=fun b hb=>by simp [Value.ownBlock] at hb;exact hb.symm
 refine ⟨j,h.le,⟨?_,?_,?_,by omega,fun b hb hne=>?_⟩,?_,?_,?_,?_,?_⟩
 . show w.os=_;rw [z.os,h.touch.os]
 . show w.tape=_;rw [z.tape,h.touch.tape]
 . show w.output=_;rw [z.output,h.touch.output]
 . rw [l b hne,k b (by omega) (fun e=>by have:=(c b e).1;omega)];exact h.touch.block b hb hne
 . have p:w.rowIs v T 5 _:=h.row.of_block (by rw [k v (by omega) m]);refine (p.set 4 _).congr fun i hi=>?_;rcases i with _|_|_|_|_|i <;> first|rfl|omega
 . refine xj h.names fun b hb=>?_;have:=f b hb;rw [l b (fun e=>by omega),k b (by omega) (h.ne b hb)]
 . have:=ownsRow_setCell_below D j (Value.slice (some ⟨g,0,none⟩) (u.length+1) cap) (a:=⟨v,4,none⟩);simpa using this
 . have o:q6 (w.setCell ⟨v,4,none⟩ (.slice (some ⟨g,0,none⟩) (u.length+1) cap)) B (fun b=>b=v\/A.ownBlock=some b\/(Value.slice (some ⟨g,0,none⟩) (u.length+1) cap).ownBlock=some b) u cs:=by
    refine h.reps.carry (by omega) lz (fun b hb hx=>?_) (fun b hx=>?_)
    . rw [l b (fun e=>hx (.inl e)),k b (by omega) (fun e=>hx (.inr (.inr e)))]
    . rcases hx with hx|hx|hx
      . exact .inl (.inl hx)
      . exact .inl (.inr (.inl hx))
      . rw [d b hx];rcases x with ha|ha
        . exact .inl (.inr (.inr ha))
        . exact .inr (by omega)
   refine o.snoc it lo hi an cn ai ci (by omega) (by omega) (fun b hx hb=>?_) (Rep.carry lz lz (fun b h1 h2=>?_) _ _ E)
   . rcases hx with hx|hx|hx
     . omega
     . have:=f b hx;omega
     . rw [d b hx] at hb;rcases x with ha|ha
       . have:=c g ha;omega
       . omega
   . rw [l b (by omega),k b (by omega) (fun e=>by have:=(c b e).1;omega)]
 . intro b hb e;rw [d b e] at hb;rcases x with ha|ha
   . exact h.ne g hb ha
   . have:=(f g hb).2;omega
theorem ObjAt2.done {W wr:World} {B l T m o:Nat} {k j:Value} {i:List ByteArray} {g:List JV} {cs:List Value} (h:ObjAt2 W wr B l T m o k j i g cs) :
 ∃an cn ai ci,k=.slice an i.length cn/\j=.slice ai g.length ci/\Rep wr B wr.heap.size (.mk 5 0 ⟨#[]⟩ i g) (.agg #[.int .u8 5,.int .i64 0,.string ⟨#[]⟩,.slice an i.length cn,.slice ai g.length ci]):=by
 obtain ⟨an,cn,a,b,c⟩:=zH (vF h.names h.le) rfl;obtain ⟨ai,ci,d,e,f⟩:=xn (vF h.items h.le) h.reps rfl;exact ⟨an,cn,ai,ci,a,d,Rep.mk (v:=.mk 5 0 ⟨#[]⟩ i g) b e c f⟩
