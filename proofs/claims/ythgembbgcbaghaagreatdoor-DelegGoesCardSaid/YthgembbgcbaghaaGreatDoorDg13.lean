import Derived.Test.YthgembbgcbaghaaGreatDoorDg12
set_option maxHeartbeats 1000000
set_option maxRecDepth 100000

namespace Go.Proofs.YthgembbgcbaghaaGreatDoor
open Go.RowKit Go.WideMaps Go.Maps
theorem q7 (o:Nat) (c kind:Int) (w:World) (g:w.cell? ⟨o,6,none⟩=some (.int .i64 c)) (f:w.cell? ⟨o,0,none⟩=some (.int .u8 kind)) (d:c=0->kind=5) :
 Calls Tryz.prog 121 #[.pointer (some ⟨o,0,none⟩)] w fun e w'=>e=.returned (.int .i64 c)/\w=w':=by
 by_cases he:c=0
 . have a:=d he;subst he a;clear d;go_enter Tryz.func121,Tryz.ntmps121;go_wp2;go_ret;exact ⟨rfl,rfl⟩
 . have b:(c == 0)=false:=by simpa using he
   clear d he;go_enter Tryz.func121,Tryz.ntmps121;go_wp2;go_ret;exact ⟨rfl,rfl⟩
theorem xz (o:Nat) (e:Int) (w:World) (b:w.cell? ⟨o,6,none⟩=some (.int .i64 0)) (a:w.cell? ⟨o,0,none⟩=some (.int .u8 5)) (c:w.frozen? ⟨o,6,none⟩=false) :
 Calls Tryz.prog 63 #[.pointer (some ⟨o,0,none⟩),.int .i64 e] w fun r w'=>r=.returned (.tuple #[])/\w'=w.setCell ⟨o,6,none⟩ (.int .i64 e):=by
 go_enter Tryz.func63,Tryz.ntmps63;go_wp2_with fail;refine (q7 o 0 5 w b a (fun _=>rfl)).mono ?_;rintro r w' ⟨rfl,rfl⟩;go_wp2
 go_end0
 exact ⟨rfl,rfl⟩
theorem i8 (k n:Int) (t:ByteArray) (a b:Value) (w:World) :
 Calls Tryz.prog 187 #[.agg #[.int .u8 k,.int .i64 n,.string t,a,b]] w fun e w'=>e=.returned (.tuple #[.string (if k=3 then t else ⟨#[]⟩),.int .i64 (if k=3 then 0 else 10)])/\O5 w w':=by
 have c:=O0 (O5 w (w.alloc (.cells #[.int .u8 k,.int .i64 n,.string t,a,b] 25))) O4;by_cases hk:k=3
 . subst hk;go_enter Tryz.func187,Tryz.ntmps187;go_wp2;go_ret2;exact ⟨by simp,c.o⟩
 . have d:(k == 3)=false:=by simpa using hk
   have f:=U hk;clear hk;go_enter Tryz.func187,Tryz.ntmps187;go_wp2;go_ret2;exact ⟨by simp,c.o⟩
theorem jC:Keyed Tryz.prog 9:=string_keyed Y6
theorem kR (w:World):(zeroValue 3).run Tryz.prog w=.ok (.int .i64 0) w:=by kernel_rfl
def dP (o m lo hi:Nat) (v:JV) (an ai:Option Addr) (cn ci:Nat) (y:ByteArray) (st:PS) (w:World) (e:Ending) (w':World):Prop :=
 e=.returned (.string (qm v y st).1)/\PickAt o m lo hi v an ai cn ci (qm v y st).2 w'/\Touch (fun b=>b=o\/b=m) w w'
theorem oq (o m lo hi:Nat) (v:JV) (an ai:Option Addr) (cn ci:Nat) (y:ByteArray) (st:PS) (w:World) (hP:PickAt o m lo hi v an ai cn ci st w) (hy:y.size<=4294967296) (ha:st.asked.length<=4294967296) :
 Calls Tryz.prog 186 #[.pointer (some ⟨o,0,none⟩),.string y,.func (.func 187) #[] #[]] w (dP o m lo hi v an ai cn ci y st w):=by
 have f:=U hP;clear hP;have K:=qq f.o.obj (j:=6) rfl;have N:w.cell? ⟨o,0,none⟩=some (.int .u8 5):=(qq (j:=0) f.o.obj rfl).trans (by rw [f.o.kind];rfl);by_cases he:st.err=0
 . rw [he] at K;have x:=U he;clear he;have Z:=qq f.o.obj (j:=1) rfl;have c2:=qq f.o.obj (j:=2) rfl;have c3:=qq f.o.obj (j:=3) rfl;have c4:=qq f.o.obj (j:=4) rfl;have V:=U f.o.rep;rw [f.o.kind] at V;have S:=U (kP v y _ w lo hi f.o.wt f.o.pos f.o.le V.o f.o.kind f.o.rise f.o.len);go_enter Tryz.func186,Tryz.ntmps186;go_wp2_with fail;refine (q7 o 0 5 w K N (fun _=>rfl)).mono ?_;rintro r w' ⟨rfl,rfl⟩;go_wp2_with fail;refine S.o.mono ?_;clear S N Z c2 c3 c4 K;rintro e A ⟨hh,I⟩;have i:=U I;clear I;rcases hh with ⟨r,hr1,hr2,hre,an',cn',ai',ci',rfl,hrep⟩|⟨hno,rfl⟩
   . have T:=U (jM f.o.rise r hr1 hr2 hre);clear hre hrep;generalize v.items[r]=it at *;have J:O5 w (A.alloc (.cells #[.int .u8 it.kind,.int .i64 it.n,.string it.t,.slice an' it.names.length cn',.slice ai' it.items.length ci'] 25)):=i.o.alloc i.o.size _;have g:=U J;have B:=U (i8 it.kind it.n it.t (.slice an' it.names.length cn') (.slice ai' it.items.length ci') (A.alloc (.cells #[.int .u8 it.kind,.int .i64 it.n,.string it.t,.slice an' it.names.length cn',.slice ai' it.items.length ci'] 25)));clear J;by_cases hk:it.kind=3
     . have Y:=U hk;rw [J8 hk,J8 hk] at B;clear hk;go_wp2_with fail;refine B.o.mono ?_;clear B;rintro e C ⟨rfl,q⟩;have a:=U (O2 g q);have d:=U (f.o.below a.o);clear q g;have d5:=qq d.o.obj (j:=5) rfl;have s:keyOf Tryz.prog 9 (.string y)=some (.string y.data.toList):=keyOf_string_mk Y6 (by unfold maxLen;omega);obtain ⟨D,n,u,hn,P⟩:=d.o.map;obtain ⟨c,z,a0,a1,Q⟩:=P.2 y;obtain ⟨c',W,p,_⟩:=u.lookup_int jC H7 K8 (kR _) s;rw [z] at p;simp only [zd1,ze1,zc8] at p;subst p;have X:=U (P.cons y c z);have L:=U s;have M:=U u;clear P z Q s u;go_wp2_with (at_mapUpdate;refine zc3 _ rfl _ _ _ 150 rfl 9 3 jC H7 _ m n D rfl M.o (by unfold maxLen;omega) _ _ _ rfl rfl L.o _ [] (plainElem_int K8 (WalkArith.wf_i64 (by omega))) ?_);intro R hown3 hgrow3;have h:=U (d.o.ask y hgrow3 hown3 (by omega) X.o);have E:=O0 (Touch (fun b=>b=o\/b=m) w R) (⟨by rw [hgrow3.os,a.o.os],by rw [hgrow3.tape,a.o.tape],by rw [hgrow3.output,a.o.output],J1 a.o.size hgrow3.size,fun k hk hs=>by rw [hgrow3.block k (Y5 hk a.o.size) (fun e=>hs (.inr (Y9 e))),a.o.block k hk]⟩);clear hgrow3 hown3;have l:=U (show qm v y st=(it.t,⟨y :: st.asked,0⟩) by unfold qm;rw [J3 (by simp [x.o]),T.o];simp [Y.o]);rw [x.o] at h;go_wp2;go_ret;exact ⟨by rw [l.o];rfl,by rw [l.o];exact h.o,E.o⟩
     . have l:=U (show qm v y st=(⟨#[]⟩,⟨st.asked,10⟩) by unfold qm;rw [J3 (by simp [x.o]),T.o];simp [hk]);rw [J3 hk,J3 hk] at B;clear hk;go_wp2_with fail;refine B.o.mono ?_;clear B;rintro e C ⟨rfl,q⟩;have a:=U (O2 g q);have d:=U (f.o.below a.o);clear q g;have G:C.cell? ⟨o,6,none⟩=some (.int .i64 0):=(qq (j:=6) d.o.obj rfl).trans (by rw [x.o];rfl);have F:C.cell? ⟨o,0,none⟩=some (.int .u8 5):=(qq (j:=0) d.o.obj rfl).trans (by rw [f.o.kind];rfl);have H:C.frozen? ⟨o,6,none⟩=false:=by simp [World.frozen?,d.o.obj]
       go_wp2_with fail
       refine (xz o 10 _ G F H).mono ?_;clear G F H;rintro e R ⟨rfl,rfl⟩;have h:=U (d.o.fail 10);have E:=O0 (Touch (fun b=>b=o\/b=m) w (C.setCell ⟨o,6,none⟩ (.int .i64 10))) ((Touch.of_below a.o lz).setCell (.inl (.inl rfl)) _);go_wp2;go_ret;exact ⟨by rw [l.o];rfl,by rw [l.o];exact h.o,E.o⟩
   . have l:=U (show qm v y st=(⟨#[]⟩,⟨st.asked,6⟩) by unfold qm;rw [J3 (by simp [x.o]),show v.look y=none from xU _ _ _ hno]);unfold zeroAgg;have a:=O0 (O5 w (A.alloc (.cells #[.int .u8 0,.int .i64 0,.string ⟨#[]⟩,.slice none 0 0,.slice none 0 0] 25))) (i.o.alloc i.o.size _);have d:=U (f.o.below a.o);clear hno i;have G:(A.alloc (.cells #[.int .u8 0,.int .i64 0,.string ⟨#[]⟩,.slice none 0 0,.slice none 0 0] 25)).cell? ⟨o,6,none⟩=some (.int .i64 0):=(qq (j:=6) d.o.obj rfl).trans (by rw [x.o];rfl);have F:(A.alloc (.cells #[.int .u8 0,.int .i64 0,.string ⟨#[]⟩,.slice none 0 0,.slice none 0 0] 25)).cell? ⟨o,0,none⟩=some (.int .u8 5):=(qq (j:=0) d.o.obj rfl).trans (by rw [f.o.kind];rfl);have H:(A.alloc (.cells #[.int .u8 0,.int .i64 0,.string ⟨#[]⟩,.slice none 0 0,.slice none 0 0] 25)).frozen? ⟨o,6,none⟩=false:=by simp [World.frozen?,d.o.obj]
     go_wp2_with fail
     refine (xz o 6 _ G F H).mono ?_;clear G F H;rintro e R ⟨rfl,rfl⟩;have h:=U (d.o.fail 6);have E:=O0 (Touch (fun b=>b=o\/b=m) w ((A.alloc (.cells #[.int .u8 0,.int .i64 0,.string ⟨#[]⟩,.slice none 0 0,.slice none 0 0] 25)).setCell ⟨o,6,none⟩ (.int .i64 6))) ((Touch.of_below a.o lz).setCell (.inl (.inl rfl)) _);go_wp2;go_ret;exact ⟨by rw [l.o];rfl,by rw [l.o];exact h.o,E.o⟩
 . have a2:(st.err == 0)=false:=by simpa using he
   have a3:(st.err != 0)=true:=by simpa using he
   have l:=U (show qm v y st=(⟨#[]⟩,st) by unfold qm;rw [J8 he]);have x:=U he;clear he;go_enter Tryz.func186,Tryz.ntmps186;go_wp2_with fail;refine (q7 o st.err 5 w K N (fun _=>rfl)).mono ?_;rintro r w' ⟨rfl,rfl⟩;go_wp2;go_ret;exact ⟨by rw [l.o];rfl,by rw [l.o];exact f.o,Touch.refl _ _⟩
theorem bw (o m lo hi:Nat) (v:JV) (an ai:Option Addr) (cn ci:Nat) (y:ByteArray) (st:PS) (w:World) (g:PickAt o m lo hi v an ai cn ci st w) (i:y.size<=4294967296) (h:st.asked.length<=4294967296) :
 Calls Tryz.prog 124 #[.pointer (some ⟨o,0,none⟩),.string y] w (dP o m lo hi v an ai cn ci y st w):=by
 have f:=U (oq o m lo hi v an ai cn ci y st w g i h);clear g;go_enter Tryz.func124,Tryz.ntmps124;go_wp2_with fail;refine f.o.mono ?_;rintro e w' ⟨rfl,a,b⟩;have c:=U a;have d:=U b;clear a b;go_wp2;go_ret;exact ⟨rfl,c.o,d.o⟩
def xY (o:Nat) (err:Int) (w:World):Prop:=err≠0/\w.cell? ⟨o,6,none⟩=some (.int .i64 err)/\∃k,w.cell? ⟨o,0,none⟩=some (.int .u8 k)
theorem xY.below {o:Nat} {d:Int} {w w':World} (h:xY o d w) (e:O5 w w') (f:o<w.heap.size):xY o d w':=by obtain ⟨a,b,k,c⟩:=h;exact ⟨a,by rw [e.cell f];exact b,k,by rw [e.cell f];exact c⟩
theorem cQ (o:Nat) (j:Int) (y:ByteArray) (w:World) (h:xY o j w) :
 Calls Tryz.prog 124 #[.pointer (some ⟨o,0,none⟩),.string y] w fun e w'=>e=.returned (.string ⟨#[]⟩)/\w=w':=by
 obtain ⟨a,c,k,b⟩:=h;have f:=U (show Calls Tryz.prog 186 #[.pointer (some ⟨o,0,none⟩),.string y,.func (.func 187) #[] #[]] w (fun e w'=>e=.returned (.string ⟨#[]⟩)/\w=w') by
  have g:(j == 0)=false:=by simpa using a
  have i:(j != 0)=true:=by simpa using a
  have d:=U a;clear a;go_enter Tryz.func186,Tryz.ntmps186;go_wp2_with fail;refine (q7 o j k w c b (fun h=>absurd h d.o)).mono ?_;rintro r w' ⟨rfl,rfl⟩;go_wp2;go_ret;exact ⟨rfl,rfl⟩)
 clear a c b;go_enter Tryz.func124,Tryz.ntmps124;go_wp2_with fail;refine f.o.mono ?_;rintro e w' ⟨rfl,rfl⟩;go_wp2;go_ret;exact ⟨rfl,rfl⟩
theorem cZ (o:Nat) (d k:Int) (w:World) (he:d≠0) (g:w.cell? ⟨o,6,none⟩=some (.int .i64 d)) (f:w.cell? ⟨o,0,none⟩=some (.int .u8 k)) :
 Calls Tryz.prog 68 #[.pointer (some ⟨o,0,none⟩)] w fun e w'=>e=.returned (.int .i64 d)/\w=w':=by
 have b:(d == 0)=false:=by simpa using he
 have c:(d != 0)=true:=by simpa using he
 have a:=U he;clear he;go_enter Tryz.func68,Tryz.ntmps68;go_wp2_with fail;refine (q7 o d k w g f (fun h=>absurd h a.o)).mono ?_;rintro r w' ⟨rfl,rfl⟩;go_wp2;go_ret;exact ⟨rfl,rfl⟩
theorem oz {α:Type} (p:α->Bool) (l:List α) (k:Nat) (h:k<l.length) (a:(l.take k).all p=true) (b:p l[k]=true):(l.take (k+1)).all p=true:=by rw [J7 h,List.all_append,a];simp [b]
theorem Qp {α:Type} (p:α->Bool) (l:List α) (k:Nat) (h:k<l.length) (a:p l[k]=false):l.all p=false:=by rw [zc6];exact ⟨l[k],X6 h,by simp [a]⟩
theorem mq (o m lo hi:Nat) (v:JV) (an ai:Option Addr) (cn ci:Nat) (st:PS) (w:World) (hP:PickAt o m lo hi v an ai cn ci st w) (hn:∀i (h:i<v.names.length),v.names[i].size<=4294967296) :
 Calls Tryz.prog 68 #[.pointer (some ⟨o,0,none⟩)] w fun e w'=>e=.returned (.int .i64 (qd v st))/\w=w':=by
 have B:=qq hP.obj (j:=6) rfl;have G:w.cell? ⟨o,0,none⟩=some (.int .u8 5):=(qq (j:=0) hP.obj rfl).trans (by rw [hP.kind];rfl);by_cases he:st.err=0
 . have K:=qq hP.obj (j:=3) rfl;have c5:=qq hP.obj (j:=5) rfl;rw [he] at B;have A:=U (show qd v st=if v.names.all (fun n=>st.asked.any fun a=>decide (a=n)) then 0 else 11 by unfold qd;rw [J3 (by simp [he])]);have H:=(v.wt_bd).2.1;have a0:=hP.wt;have J:=U hP;have Q:=U hn;obtain ⟨z,q⟩:=O1 v.names.length;rw [<- q] at K H;have u:=U q;clear hP he hn q;go_enter Tryz.func68,Tryz.ntmps68;go_wp2_with fail;refine (q7 o 0 5 w B G (fun _=>rfl)).mono ?_;rintro r w' ⟨rfl,rfl⟩;go_wp2;clear B G K
   go_loop [5,17] (fun _ i=>∃k:Nat,k<=z/\i=.int .i64 k/\(v.names.take k).all (fun n=>st.asked.any fun a=>decide (a=n))=true) (fun _ i=>z - (intOf i).toNat)
   case atStart=>exact ⟨0,by omega,rfl,by simp⟩
   case round =>
    obtain ⟨k,hk,rfl,g⟩:=hrel;have I:=U g;clear g;by_cases hlt:k<z
    . have b:k<v.names.length:=by rw [<- u.o];exact hlt
      obtain ⟨_,_,_,C,_⟩:True/\True/\True/\qv w lo hi an v.names/\True:=by obtain ⟨S,V,R,T,N,_,_,C,_⟩:=J.o.rep.parts;simp only [zb8,zc4,G5,zb6,K6] at N;obtain ⟨_,_,_,⟨rfl,_,_⟩,_⟩:=N;exact ⟨trivial,trivial,trivial,C,trivial⟩
      obtain ⟨nb,P,rfl,_,_,yn⟩:=C.at k b;have Z:=Q.o k b;have F:=U (oz (fun n=>st.asked.any fun a=>decide (a=n)) v.names k b I.o);have E:=U (Qp (fun n=>st.asked.any fun a=>decide (a=n)) v.names k b);clear C;generalize v.names[k]=nk at *;have l:keyOf Tryz.prog 9 (.string nk)=some (.string nk.data.toList):=keyOf_string_mk Y6 (by unfold maxLen;omega);obtain ⟨D,n,p,hn,L⟩:=J.o.map;obtain ⟨c,x,W,X,f⟩:=L.2 nk;obtain ⟨c',M,d,_⟩:=p.lookup_int jC H7 K8 (kR _) l;rw [x] at d;simp only [zd1,ze1,zc8] at d;subst d;clear p x L hn l;by_cases hc:c=0
      . have y:=f.1 hc;have s:=U (E.o (by
         rw [List.any_eq_false];intro a ha;simp only [J6];intro e;subst e;exact y ha))
        subst hc;clear f y;go_wp2;go_ret;exact ⟨by rw [A.o,s.o];rfl,rfl⟩
      . have y:nk ∈ st.asked:=by
         by_cases h:nk ∈ st.asked
         . exact h
         . exact absurd (f.2 h) hc
        have s:=U (F.o (by rw [zd4];exact ⟨nk,y,by simp⟩));have Y:(c == 0)=false:=by simpa using hc
        clear f y hc;go_wp2
        go_round
        case rel=>exact ⟨k+1,by omega,by go_num,s.o⟩
        case measure=>simp [intOf];omega
    . have s:=U (show v.names.all (fun n=>st.asked.any fun a=>decide (a=n))=true by
       have:=I.o;rwa [X2 (by rw [<- u.o];omega)] at this)
      go_wp2;go_ret;exact ⟨by rw [A.o,s.o];rfl,rfl⟩
 . have A:=U (show qd v st=st.err by unfold qd;rw [J8 he]);refine (cZ o st.err 5 w he B G).mono ?_;rintro e w' ⟨rfl,rfl⟩;exact ⟨by rw [A.o],rfl⟩
def ar (w:World) (e:Ending) (w':World):Prop:=∃o,e=.returned (.pointer (some ⟨o,0,none⟩))/\w.heap.size<=o/\o<w'.heap.size/\xY o 10 w'/\O5 w w'
theorem fJ (k n:Int) (t:ByteArray) (a b:Value) (w:World) (hk:k≠5) :
 Calls Tryz.prog 60 #[.agg #[.int .u8 k,.int .i64 n,.string t,a,b]] w (ar w):=by
 have c:(k == 5)=false:=by simpa using hk
 have d:(k != 5)=true:=by simpa using hk
 clear hk;go_enter Tryz.func60,Tryz.ntmps60;go_wp2;go_ret;refine ⟨_,rfl,by omega,by simp,⟨by decide,?_,0,?_⟩,(O4).alloc (by simp) _⟩
 . go_simp
 . go_simp
def Zg (v:JV) (w:World) (e:Ending) (w':World):Prop:=∃o m lo hi an ai cn ci,e=.returned (.pointer (some ⟨o,0,none⟩))/\PickAt o m lo hi v an ai cn ci ⟨[],0⟩ w'/\w.heap.size<=o/\w.heap.size<=m/\O5 w w'
theorem bI (v:JV) (x:Value) (w:World) (lo hi:Nat) (hN:v.wt<=4294967296) (a4:hi<=w.heap.size) (hR:Rep w lo hi v x) (hk:v.kind=5) (hr:qo v.names=true) (hl:v.names.length=v.items.length) (hS:∀k (h:k<v.items.length),dc lo v.items[k]) :
 Calls Tryz.prog 60 #[x] w (Zg v w):=by
 obtain ⟨B,D,A,C,rfl,h1,h2,Q,h4⟩:=hR.parts;obtain ⟨b1,b2,X,b4⟩:=v.wt_bd;rw [hl,hk];rw [hl,hk] at hR;obtain ⟨c,u⟩:=O1 v.items.length;rw [<- u] at hR X ⊢;have I:=U u;have M:=U Q;have T:=U hR;have z:=U hr;have V:=U hS;have S:=U hk;have P:=U hl;clear h1 h2 Q h4 hR hr hS hk u hl;have a2:=@run_makeMap Tryz.prog;have G:=O0 (O5 w (w.alloc (.cells #[.int .u8 5,.int .i64 v.n,.string v.t,.slice B c D,.slice A c C] 25))) O4;have K:=U (J2 w (.cells #[.int .u8 5,.int .i64 v.n,.string v.t,.slice B c D,.slice A c C] 25));go_enter Tryz.func60,Tryz.ntmps60;go_wp2;go_loopw [3] (fun i wr=>∃k:Nat,1<=k/\(k<=c\/k=1)/\i=.int .i64 k/\Below (w.heap.size+1) (w.alloc (.cells #[.int .u8 5,.int .i64 v.n,.string v.t,.slice B c D,.slice A c C] 25)) wr) (fun i _=>c - (intOf i).toNat)
 case atStart=>exact ⟨1,by omega,.inr rfl,rfl,J0 _ _⟩
 case round =>
  obtain ⟨k,a0,a1,rfl,a⟩:=hrel;have hz:w.heap.size+1<=wr.heap.size:=by have:=a.size;simpa using this
  have y:wr.heap[w.heap.size]?=some (.cells #[.int .u8 5,.int .i64 v.n,.string v.t,.slice B c D,.slice A c C] 25 (0,0)):=by rw [a.block _ (by omega)];exact K.o
  have l:=U y;have j:=O0 (O5 w wr) (G.o.trans (a.mono (by omega)));have c3:=qq y (j:=3) rfl;have R:=U a;clear y a;by_cases hlt:k<c
  . have m:k<v.names.length:=by rw [P.o,<- I.o];exact hlt
    obtain ⟨b,L,rfl,_,hb,y1⟩:=(M.o.below j.o a4 lz lz).at k m;obtain ⟨W,F,g,_,_,y0⟩:=(M.o.below j.o a4 lz lz).at (k - 1) (by omega);obtain ⟨rfl,rfl⟩:b=W/\L=F:=by simpa using g
    clear g;have d:=jJ z.o (k - 1) k (by omega) m (by omega);unfold bl at d;generalize v.names[k - 1]=na at d y0;generalize v.names[k]=nb at d y1;have i0:IntKind.i64.wrap ((k:Int) - 1)=(k:Int) - 1:=V0 _ (by omega);have j0:0<=(k:Int) - 1:=by omega
    have j1:1<=(k:Int):=by omega
    have j2:(k:Int) - 1<(c:Int):=by omega
    have j3:(k:Int)<(c:Int):=by omega
    have t0:((k:Int) - 1).toNat=k - 1:=by omega
    go_wp2_with fail
    go_quiet (fail)
    go_wp2;go_roundw
    case rel=>exact ⟨k+1,by omega,by omega,by go_num,Below.drewN R.o _⟩
    case measure=>simp [intOf];omega
  . have Y:=qq l.o (j:=0) rfl;have Z:=qq l.o (j:=1) rfl;have c2:=qq l.o (j:=2) rfl;have c4:=qq l.o (j:=4) rfl;have N:=U (wE v _ wr lo hi hN (by omega) (T.o.below j.o a4 lz lz) V.o);go_wp2_with fail;refine N.o.mono ?_;clear N Y Z c2 c3 c4;rintro e f ⟨p,r,o,q,rfl,E,s⟩;have a3:=s.size;have J:=U E;have H:=U (j.o.trans (s.mono (by omega)));clear E s;go_wp2;go_ret;refine ⟨f.heap.size+1,f.heap.size,wr.heap.size,f.heap.size,p,o,r,q,rfl,?_,by omega,by omega,(H.o.alloc (by omega) _).alloc (by simp;omega) _⟩;have g:O5 f ((f.alloc (.map #[] 0)).alloc (.cells #[.int .u8 v.kind,.int .i64 v.n,.string v.t,.slice p v.names.length r,.slice o v.items.length q,.map (some f.heap.size),.int .i64 0] 152)):=(O4).alloc (by simp) _;exact {
     obj:=by have:=J2 (f.alloc (.map #[] 0)) (.cells #[.int .u8 v.kind,.int .i64 v.n,.string v.t,.slice p v.names.length r,.slice o v.items.length q,.map (some f.heap.size),.int .i64 0] 152);rw [show (f.alloc (.map #[] 0)).heap.size=f.heap.size+1 by simp] at this;exact this
     map:=⟨_,0,(World.ownsMap_made f _ _ _).alloc _,by omega,dG.nil⟩
     rep:=J.o.below g lz lz lz
     pos:=by omega
     out:=⟨by omega,by omega⟩
     le:=g.size
     kind:=S.o
     rise:=z.o
     len:=P.o
     wt:=hN }
def jl (seen:List ByteArray) (x:ByteArray):Bool:=seen.any fun y=>y.toList == x.toList
theorem jD (b:List ByteArray) (x:ByteArray):jl b x=true↔x ∈ b:=by
 unfold jl;rw [zd4];constructor
 . rintro ⟨y,a,e⟩;rw [<- yV (eq_of_beq e)];exact a
 . intro h;exact ⟨x,h,by simp⟩
def kz (s:ByteArray):Bool:=decide (s.size=64) && jb s.data.toList
def qS (seen:List ByteArray):List ByteArray->Int
 | []=>0
 | x :: r=>if kz x then (if jl seen x then 7 else qS (seen ++ [x]) r) else 3
def xm (t:Int) (ids:List ByteArray):Bool:=decide (1<=ids.length/\ids.length<=16/\1<=t/\t<=ids.length) && decide (qS [] ids=0)
def fK (c:UInt8):List UInt8:=if c.toNat=34\/c.toNat=92 then [92,c] else [c]
def gf (l:List UInt8):List UInt8:=l.flatMap fK
def xO (l:List UInt8):List UInt8:=34 :: (gf l ++ [34])
theorem aa (s:ByteArray) (k:Nat) (h:k<s.size):gf (s.data.toList.take (k+1))=gf (s.data.toList.take k) ++ fK s[k]:=by unfold gf;rw [gN s k h];simp
theorem wB (l:List UInt8):(gf l).length<=2 * l.length:=by
 induction l with
 | nil=>simp [gf]
 | cons c r ih =>
  have e:gf (c :: r)=fK c ++ gf r:=by simp [gf]
  rw [e,G6,N3];have:(fK c).length<=2:=by unfold fK;split <;> simp
  omega
def ae (s:ByteArray) (w:World) (e:Ending) (w':World):Prop:=e=.returned (.tuple #[.string ⟨(xO s.data.toList).toArray⟩,.int .i64 0])/\O5 w w'
theorem rO (s:ByteArray) (w:World) (Q:s.size<=4096) (R:vF s=true) :
 Calls Tryz.prog 229 #[.string s] w (ae s w):=by
 go_enter Tryz.func229,Tryz.ntmps229;go_wp2_with fail;refine (fl s _ (by omega)).mono ?_;rintro e a ⟨rfl,r⟩;have q:=U r;clear r;go_wp2_with fail;have D:yK a.heap.size a.heap.size [] (a.alloc (.cells #[.pointer none,.slice none 0 0] 228)):=Lib.IsBuilderF.of (Lib.fresh_isBuilder _ _ a);refine (zS a.heap.size a.heap.size [] 34 _ D (by simp) (by simp)).mono ?_;rintro e L ⟨rfl,x,u,B⟩;have A:=U x;have y:=O0 (O5 a L) ((O4).trans u);clear x u B D;go_wp2;go_loopw [5,15] (fun _ i wr=>∃k:Nat,k<=s.size/\i=.int .i64 k/\cf a.heap.size a.heap.size (Lib.byteCells (34 :: gf (s.data.toList.take k))) wr/\O5 a wr) (fun _ i _=>s.size - (intOf i).toNat)
 case atStart=>exact ⟨0,X7 _,rfl,A.o,y.o⟩
 case round =>
  obtain ⟨k,M,rfl,v,p⟩:=hrel;have N:=wB (s.data.toList.take k);have I:(s.data.toList.take k).length<=k:=List.length_take_le _ _;have P:=p.size;have h:=U v;have l:=U p;clear v p;by_cases hlt:k<s.size
  . have C:=U (aa s k hlt);by_cases h1:s[k].toNat=34\/s[k].toNat=92
    . have z:Hid (fK s[k]=[92,s[k]]):=U (by unfold fK;rw [J8 h1]);rcases h1 with h1|h1
      case' inl=>have E:((s[k].toNat:Int) == 34)=true:=by simp;omega
      case' inr =>
       have E:((s[k].toNat:Int) == 34)=false:=by simp;omega
       have K:((s[k].toNat:Int) == 92)=true:=by simp;omega
      all_goals
       clear h1;go_wp2_with fail;refine (zS a.heap.size a.heap.size _ 92 _ (.inr h.o) (by simp [Lib.byteCells];omega) (by omega)).mono ?_;rintro e F ⟨rfl,f,c,-⟩;have J:=c.size;have m:=U f;have j:=U (l.o.trans c);clear f c;go_wp2_with fail;refine (zS a.heap.size a.heap.size _ _ _ (.inr m.o) (by simp [Lib.byteCells];omega) (by omega)).mono ?_;rintro e G ⟨rfl,g,b,-⟩;have o:=U g;have d:=U (j.o.trans b);clear g b;go_wp2;go_roundw
       case rel=>exact ⟨k+1,by omega,by go_num,by rw [C.o,z.o];simpa [Lib.byteCells] using o.o,d.o⟩
       case measure=>simp [intOf];omega
    . have z:Hid (fK s[k]=[s[k]]):=U (by unfold fK;rw [J3 h1]);have E:((s[k].toNat:Int) == 34)=false:=by simp;omega
      have K:((s[k].toNat:Int) == 92)=false:=by simp;omega
      clear h1;go_wp2_with fail;refine (zS a.heap.size a.heap.size _ _ _ (.inr h.o) (by simp [Lib.byteCells];omega) (by omega)).mono ?_;rintro e G ⟨rfl,g,b,-⟩;have o:=U g;have d:=U (l.o.trans b);clear g b;go_wp2;go_roundw
      case rel=>exact ⟨k+1,by omega,by go_num,by rw [C.o,z.o];simpa [Lib.byteCells] using o.o,d.o⟩
      case measure=>simp [intOf];omega
  . have H:=O0 (s.data.toList.take k=s.data.toList) (X2 (by rw [qp];omega));rw [H.o] at h;go_wp2_with fail;refine (zS a.heap.size a.heap.size _ 34 _ (.inr h.o) (by have:=wB s.data.toList;rw [qp] at this;simp [Lib.byteCells];omega) (by omega)).mono ?_;rintro e F ⟨rfl,f,c,-⟩;have m:=U (show cf a.heap.size a.heap.size (Lib.byteCells (xO s.data.toList)) F by simpa [Lib.byteCells,xO] using f);have j:=U (l.o.trans c);clear f c;go_wp2_with fail;refine (yh a.heap.size a.heap.size _ _ (.inr m.o) (by simp [xO])).mono ?_;rintro e G ⟨rfl,b,-⟩;have d:=U (q.o.trans ((j.o.trans b).mono q.o.size));clear b;go_wp2;go_ret2;exact ⟨rfl,d.o⟩
theorem ba_eq {a b:ByteArray}:(a.toList == b.toList)=decide (a=b):=by rw [Y3,Y3,za4];simp only [zd6,J6];exact ⟨fun h=>uE h,fun h=>by rw [h]⟩
theorem kQ {w:World} {a base' e size n:Nat} {v:Value} {cs:List Value} (h:w.ownsRow a e size v n cs) (b:base'<=a):w.ownsRow base' e size v n cs:=by
 refine ⟨h.1,?_⟩;rcases h.2 with h2|⟨g,cap,cur,hv,hg,r⟩
 . exact .inl h2
 . exact .inr ⟨g,cap,cur,hv,J1 b hg,r⟩
structure ObjAt2 (W wr:World) (B cb T e1 e5:Nat) (vn vi:Value) (ns:List ByteArray) (its:List JV) (cs:List Value):Prop where
 lt:cb<W.heap.size
 le:B<=W.heap.size
 touch:Touch (· = cb) W wr
 row:wr.rowIs cb T 5 (qZ (.int .u8 5) (.int .i64 0) (.string ⟨#[]⟩) vn vi)
 names:wr.ownsRow W.heap.size e1 1 vn ns.length (ns.map .string)
 items:wr.ownsRow W.heap.size e5 5 vi its.length cs
 reps:qU wr B (fun b=>b=cb\/vn.ownBlock=some b\/vi.ownBlock=some b) its cs
 ne:∀b,vn.ownBlock=some b->vi.ownBlock≠some b
theorem ObjAt2.below {W wr w':World} {B d T e f:Nat} {j i:Value} {g:List ByteArray} {c:List JV} {cs:List Value} (h:ObjAt2 W wr B d T e f j i g c cs) (a:O5 wr w'):ObjAt2 W w' B d T e f j i g c cs where
 lt:=h.lt
 le:=h.le
 touch:=h.touch.trans (Touch.of_below a lz)
 row:=qj a h.row h.row.lt
 names:=qM h.names a
 items:=qM h.items a
 reps:=h.reps.carry a.size lz (fun b hb' _=>a.block b hb') (fun _ hx=>.inl hx)
 ne:=h.ne
theorem ObjAt2.name {W wr u:World} {B v T E G g cap:Nat} {y D:Value} {w:List ByteArray} {C:List JV} {cs:List Value} (h:ObjAt2 W wr B v T E G y D w C cs) (x:ByteArray)
 (A:wr.grownBy u y.ownBlock) (z:y.ownBlock=some g\/wr.heap.size<=g)
 (F:u.ownsRow W.heap.size E 1 (.slice (some ⟨g,0,none⟩) (w.length+1) cap) (w.length+1) (w.map .string ++ [.string x])) :
 ObjAt2 W (u.setCell ⟨v,3,none⟩ (.slice (some ⟨g,0,none⟩) (w.length+1) cap)) B v T E G (.slice (some ⟨g,0,none⟩) (w.length+1) cap) D (w ++ [x]) C cs:=by
 have q:W.heap.size<=wr.heap.size:=h.touch.size;have r:=A.size;have f:=h.lt;have j:∀b,y.ownBlock=some b->W.heap.size<=b/\b<wr.heap.size:=fun b hb=>h.names.lt b hb;have c:∀b,D.ownBlock=some b->W.heap.size<=b/\b<wr.heap.size:=fun b hb=>h.items.lt b hb;have k:∀b,b<wr.heap.size->y.ownBlock≠some b->u.heap[b]?=wr.heap[b]?:=fun b hb hne=>A.block b hb (fun e=>hne e.symm);have o:∀b,b≠v->(u.setCell ⟨v,3,none⟩ (.slice (some ⟨g,0,none⟩) (w.length+1) cap)).heap[b]?=u.heap[b]?:=fun b hb=>X5 _ _ _ _ hb;have l:y.ownBlock≠some v:=fun e=>by have:=(j v e).1;omega
 have s:(u.setCell ⟨v,3,none⟩ (.slice (some ⟨g,0,none⟩) (w.length+1) cap)).heap.size=u.heap.size:=by simp [World.setCell]
 have d:∀b,(Value.slice (some ⟨g,0,none⟩) (w.length+1) cap).ownBlock=some b->b=g:=fun b hb=>by simp [Value.ownBlock] at hb;exact hb.symm
 have m:D.ownBlock≠some g:=fun e=>by
  rcases z with ha|ha
  . exact h.ne g ha e
  . have:=(c g e).2;omega
 refine ⟨f,h.le,⟨?_,?_,?_,by omega,fun b hb hne=>?_⟩,?_,?_,?_,?_,?_⟩
 . show u.os=_;rw [A.os,h.touch.os]
 . show u.tape=_;rw [A.tape,h.touch.tape]
 . show u.output=_;rw [A.output,h.touch.output]
 . rw [o b hne,k b (by omega) (fun e=>by have:=(j b e).1;omega)];exact h.touch.block b hb hne
 . have p:u.rowIs v T 5 _:=h.row.of_block (k v (by omega) l);refine (p.set 3 _).congr fun i hi=>?_;rcases i with _|_|_|_|_|i <;> first|rfl|omega
 . have:=M0 F f (Value.slice (some ⟨g,0,none⟩) (w.length+1) cap) (a:=⟨v,3,none⟩);simpa using this
 . refine zc h.items fun b hb=>?_;rw [o b (fun e=>by have:=(c b hb).1;omega),k b (c b hb).2 (fun e=>h.ne b e hb)]
 . refine h.reps.carry (by omega) lz (fun b hb hx=>?_) (fun b hx=>?_)
   . rw [o b (fun e=>hx (.inl e)),k b hb (fun e=>hx (.inr (.inl e)))]
   . rcases hx with hx|hx|hx
     . exact .inl (.inl hx)
     . rw [d b hx];rcases z with ha|ha
       . exact .inl (.inr (.inl ha))
       . exact .inr ha
     . exact .inl (.inr (.inr hx))
 . intro b hb;rw [d b hb];exact m
theorem ObjAt2.item {W wr w:World} {B v T F C g cap lo hi:Nat} {A y:Value} {G:List ByteArray} {u:List JV} {cs:List Value} {it:JV} {an ai:Option Addr} {cn ci:Nat} (h:ObjAt2 W wr B v T F C A y G u cs)
 (I:B<=lo) (H:hi<=v) (E:Rep wr lo hi it (.agg #[.int .u8 it.kind,.int .i64 it.n,.string it.t,.slice an it.names.length cn,.slice ai it.items.length ci]))
 (z:wr.grownBy w y.ownBlock) (x:y.ownBlock=some g\/wr.heap.size<=g)
 (D:w.ownsRow W.heap.size C 5 (.slice (some ⟨g,0,none⟩) (u.length+1) cap) (u.length+1) (cs ++ [.int .u8 it.kind,.int .i64 it.n,.string it.t,.slice an it.names.length cn,.slice ai it.items.length ci])) :
 ObjAt2 W (w.setCell ⟨v,4,none⟩ (.slice (some ⟨g,0,none⟩) (u.length+1) cap)) B v T F C A (.slice (some ⟨g,0,none⟩) (u.length+1) cap) G (u ++ [it]) (cs ++ [.int .u8 it.kind,.int .i64 it.n,.string it.t,.slice an it.names.length cn,.slice ai it.items.length ci]):=by
 have q:W.heap.size<=wr.heap.size:=h.touch.size;have r:=z.size;have j:=h.lt;have f:∀b,A.ownBlock=some b->W.heap.size<=b/\b<wr.heap.size:=fun b hb=>h.names.lt b hb;have c:∀b,y.ownBlock=some b->W.heap.size<=b/\b<wr.heap.size:=fun b hb=>h.items.lt b hb;have k:∀b,b<wr.heap.size->y.ownBlock≠some b->w.heap[b]?=wr.heap[b]?:=fun b hb hne=>z.block b hb (fun e=>hne e.symm);have l:∀b,b≠v->(w.setCell ⟨v,4,none⟩ (.slice (some ⟨g,0,none⟩) (u.length+1) cap)).heap[b]?=w.heap[b]?:=fun b hb=>X5 _ _ _ _ hb;have m:y.ownBlock≠some v:=fun e=>by have:=(c v e).1;omega
 have s:(w.setCell ⟨v,4,none⟩ (.slice (some ⟨g,0,none⟩) (u.length+1) cap)).heap.size=w.heap.size:=by simp [World.setCell]
 have d:∀b,(Value.slice (some ⟨g,0,none⟩) (u.length+1) cap).ownBlock=some b->b=g:=fun b hb=>by simp [Value.ownBlock] at hb;exact hb.symm
 refine ⟨j,h.le,⟨?_,?_,?_,by omega,fun b hb hne=>?_⟩,?_,?_,?_,?_,?_⟩
 . show w.os=_;rw [z.os,h.touch.os]
 . show w.tape=_;rw [z.tape,h.touch.tape]
 . show w.output=_;rw [z.output,h.touch.output]
 . rw [l b hne,k b (by omega) (fun e=>by have:=(c b e).1;omega)];exact h.touch.block b hb hne
 . have p:w.rowIs v T 5 _:=h.row.of_block (by rw [k v (by omega) m]);refine (p.set 4 _).congr fun i hi=>?_;rcases i with _|_|_|_|_|i <;> first|rfl|omega
 . refine zc h.names fun b hb=>?_;have:=f b hb;rw [l b (fun e=>by omega),k b (by omega) (h.ne b hb)]
 . have:=M0 D j (Value.slice (some ⟨g,0,none⟩) (u.length+1) cap) (a:=⟨v,4,none⟩);simpa using this
 . have o:qU (w.setCell ⟨v,4,none⟩ (.slice (some ⟨g,0,none⟩) (u.length+1) cap)) B (fun b=>b=v\/A.ownBlock=some b\/(Value.slice (some ⟨g,0,none⟩) (u.length+1) cap).ownBlock=some b) u cs:=by
    refine h.reps.carry (by omega) lz (fun b hb hx=>?_) (fun b hx=>?_)
    . rw [l b (fun e=>hx (.inl e)),k b (by omega) (fun e=>hx (.inr (.inr e)))]
    . rcases hx with hx|hx|hx
      . exact .inl (.inl hx)
      . exact .inl (.inr (.inl hx))
      . rw [d b hx];rcases x with ha|ha
        . exact .inl (.inr (.inr ha))
        . exact .inr (by omega)
   refine o.snoc it lo hi an cn ai ci (by omega) (by omega) (fun b hx hb=>?_) (Rep.carry lz lz (fun b h1 h2=>?_) _ _ E)
   . rcases hx with hx|hx|hx
     . omega
     . have:=f b hx;omega
     . rw [d b hx] at hb;rcases x with ha|ha
       . have:=c g ha;omega
       . omega
   . rw [l b (by omega),k b (by omega) (fun e=>by have:=(c b e).1;omega)]
 . intro b hb e;rw [d b e] at hb;rcases x with ha|ha
   . exact h.ne g hb ha
   . have:=(f g hb).2;omega
theorem ObjAt2.done {W wr:World} {B l T m o:Nat} {k j:Value} {i:List ByteArray} {g:List JV} {cs:List Value} (h:ObjAt2 W wr B l T m o k j i g cs) :
 ∃an cn ai ci,k=.slice an i.length cn/\j=.slice ai g.length ci/\Rep wr B wr.heap.size (.mk 5 0 ⟨#[]⟩ i g) (.agg #[.int .u8 5,.int .i64 0,.string ⟨#[]⟩,.slice an i.length cn,.slice ai g.length ci]):=by
 obtain ⟨an,cn,a,b,c⟩:=ju (kQ h.names h.le) rfl;obtain ⟨ai,ci,d,e,f⟩:=zN (kQ h.items h.le) h.reps rfl;exact ⟨an,cn,ai,ci,a,d,Rep.mk (v:=.mk 5 0 ⟨#[]⟩ i g) b e c f⟩
theorem rE (s:ByteArray) (a:Nat) (h:a<s.size):a+(Utf8.decode s a).2<=s.size:=by
 unfold Utf8.decode;dsimp only
 repeat' split
 all_goals (first|(show a+1<=s.size;omega)|(rename_i g _;simp at g;show _<=_;omega))
theorem r8 (s:ByteArray) (w:World) (F:s.size<=4611686018427387904) :
 Calls Tryz.prog 130 #[.string s] w (ct s w):=by
 go_enter Tryz.func130,Tryz.ntmps130;go_wp2;go_loopw [4,5,6,7,8] (fun v4 v5 _ _ _ wr=>∃(a n f:Nat),n<=a/\a<=s.size/\v4=.int .i64 n/\v5=.int .i64 a/\kq s f a=vF s/\s.size+1<=f+a/\O5 w wr) (fun _ v5 _ _ _ _=>s.size - (intOf v5).toNat)
 case atStart=>exact ⟨0,0,s.size+1,by omega,by omega,rfl,rfl,rfl,by omega,J0 _ _⟩
 case round =>
  obtain ⟨a,n,f,C,x,rfl,rfl,b,B,c⟩:=hrel;have o:=U c;clear c;by_cases hlt:a<s.size
  . obtain ⟨f,rfl⟩:∃g,f=g+1:=⟨f - 1,by omega⟩;have v:=fu s a;have u:=rE s a hlt;have m:kq s (f+1) a=if qR s a then false else kq s f (a+(Utf8.decode s a).2):=by rw [kq,J8 hlt]
    rw [m] at b;have k:=U b;clear b m;have p:=U (Qy s a wr F hlt);go_wp2_with fail;refine p.o.mono ?_;clear p;rintro e E ⟨r,D,q,rfl,h,l⟩;have i:=U (O2 o l);clear l;rcases h with ⟨h1,rfl,rfl⟩|⟨h1,h2⟩
    . have j:=U (show kq s f (a+(Utf8.decode s a).2)=vF s by rw [<- k.o,h1];rfl);have y:a+(Utf8.decode s a).2<=s.size:=by omega
      clear h1;generalize (Utf8.decode s a).2=d at *;go_wp2;go_roundw
      case rel=>exact ⟨a+d,n+1,f,by omega,by omega,by go_num,by go_num,j.o,by omega,i.o⟩
      case measure=>simp [intOf];omega
    . have j:=U (show vF s=false by rw [<- k.o,h1];rfl);have z:(q != 0)=true:=by simpa using h2
      have A:(q == 0)=false:=by simpa using h2
      clear h1 h2;go_wp2;go_ret2;exact ⟨0,by rw [j.o] <;> rfl,i.o⟩
  . have j:=U (show vF s=true by
     rw [<- b];cases f with
     | zero=>rfl
     | succ f=>rw [kq,J3 hlt])
    clear b;go_wp2;go_ret2;exact ⟨n,by rw [j.o] <;> rfl,o.o⟩
theorem cX (s:ByteArray) (w:World) (h:s.size<=4611686018427387904) :
 Calls Tryz.prog 176 #[.string s] w fun e w'=>e=.returned (.bool (qe s))/\O5 w w':=by
 have b:=U (r8 s w h);unfold ct at b;unfold qe;cases hv:vF s
 . rw [hv] at b;rw [N1];clear hv;go_enter Tryz.func176,Tryz.ntmps176;go_wp2_with fail;refine b.o.mono ?_;rintro e f ⟨n,rfl,a⟩;have c:=U a;clear a;go_wp2;go_ret;exact ⟨rfl,c.o⟩
 . rw [hv] at b;rw [Bool.and_true];clear hv;by_cases h4:s.size<=4096
   . rw [X0 h4];have d:(s.size:Int)<=4096:=by omega
     go_enter Tryz.func176,Tryz.ntmps176;go_wp2_with fail;refine b.o.mono ?_;rintro e f ⟨n,rfl,a⟩;have c:=U a;clear a;go_wp2;go_ret;exact ⟨rfl,c.o⟩
   . rw [J5 h4];have d:¬(s.size:Int)<=4096:=by omega
     have g:decide ((s.size:Int)<=4096)=false:=J5 d;go_enter Tryz.func176,Tryz.ntmps176;go_wp2_with fail;refine b.o.mono ?_;rintro e f ⟨n,rfl,a⟩;have c:=U a;clear a;go_wp2;go_ret;exact ⟨rfl,c.o⟩
def pQ (V:List (Option Value)) (d:Nat->Prop) (xs:List Value):Prop :=
 xs.length=V.length/\∀(j:Nat) (v x:Value),V[j]?=some (some v)->xs[j]?=some x->d j->x=v
theorem pQ.first (V:List (Option Value)) (a:List Value) (h:a.length=V.length):pQ V (fun _=>False) a:=⟨h,fun _ _ _ _ _ hd=>hd.elim⟩
theorem pQ.get {V:List (Option Value)} {d:Nat->Prop} {a:List Value} (h:pQ V d a) (j:Nat) (c:d j) (v:Value) (b:V[j]?=some (some v)) (x:Value) (e:a[j]?=some x):x=v:=h.2 j v x b e c
theorem pQ.did {V:List (Option Value)} {d:Nat->Prop} {b:List Value} (h:pQ V d b) (j:Nat) (y:Value) (o:Option Value) (c:V[j]?=some o) (f:∀v,o=some v->y=v):pQ V (fun i=>i=j\/d i) (b.set j y):=by
 refine ⟨by rw [List.length_set];exact h.1,fun i v x hm hx hd=>?_⟩;by_cases e:i=j
 . subst e;rw [c] at hm;have a:i<b.length:=by rw [h.1];exact (List.getElem?_eq_some_iff.1 c).1
   rw [List.getElem?_set_self a] at hx;cases hx;exact f v (Y9 hm)
 . rw [List.getElem?_set_ne (Ne.symm e)] at hx;exact h.2 i v x hm hx (hd.resolve_left e)
theorem pQ.same {V:List (Option Value)} {d:Nat->Prop} {a:List Value} (h:pQ V d a) (j:Nat) (y v:Value) (b:V[j]?=some (some v)) (c:y=v):pQ V (fun i=>i=j\/d i) (a.set j y) :=
 h.did j y (some v) b fun v' e=>by cases e;exact c
theorem Touch.grown {S:Nat->Prop} {a w w':World} {own:Option Nat} (h:Touch S a w) (c:w.grownBy w' own) (d:∀b,own=some b->S b\/a.heap.size<=b):Touch S a w' :=
 ⟨c.os.trans h.os,c.tape.trans h.tape,c.output.trans h.output,J1 h.size c.size,fun k hk hs=>by
  have:=h.size;rw [c.block k (by omega) (fun e=>(d k e.symm).elim hs (fun e=>by omega))];exact h.block k hk hs⟩
abbrev dF (vn vi:Value) (b:Nat):Prop:=vn.ownBlock=some b\/vi.ownBlock=some b
structure K2 (B e1 e5:Nat) (vn vi:Value) (n m:Nat) (N cs:List Value) (x:ByteArray) (c5:Array Value) (W5:World) (d:Nat->Prop) (w':World) (y3 y4 y8 y9:Value):Prop where
 o4:d 4->d 3
 o9:d 9->d 8/\d 4
 tch:Touch (dF vn vi) W5 w'
 n0:¬d 4->w'.ownsRow B e1 1 vn n N
 n1:d 4->w'.ownsRow B e1 1 y4 (n+1) (N ++ [.string x])/\∀b,y4.ownBlock=some b->vn.ownBlock=some b\/W5.heap.size<=b
 i0:¬d 9->w'.ownsRow B e5 5 vi m cs
 i1:d 9->w'.ownsRow B e5 5 y9 (m+1) (cs ++ c5.toList)/\∀b,y9.ownBlock=some b->vi.ownBlock=some b\/W5.heap.size<=b
 a:d 3->¬d 4->∃b,y3=.slice (some ⟨b,0,none⟩) 1 1/\w'.heap[b]?=some (.cells #[.string x] e1 (0,0))/\vn.ownBlock≠some b
 c:d 8->¬d 9->∃b,y8=.slice (some ⟨b,0,none⟩) 1 1/\w'.heap[b]?=some (.cells c5 e5 (0,0))/\vi.ownBlock≠some b/\(¬d 4->vn.ownBlock≠some b)
 ne0:¬d 4->∀b,vn.ownBlock=some b->vi.ownBlock≠some b
 ne1:d 4->¬d 9->∀b,y4.ownBlock=some b->vi.ownBlock≠some b
 ne2:d 9->∀b,y4.ownBlock=some b->y9.ownBlock≠some b
section
variable {B e1 e5:Nat} {vn vi:Value} {n m:Nat} {N cs:List Value} {x:ByteArray} {c5:Array Value} {W5:World} {d:Nat->Prop} {w' w2:World} {y3 y4 y8 y9:Value}
theorem K2.first (d e f g:Value) (c:W5.ownsRow B e1 1 vn n N) (hi:W5.ownsRow B e5 5 vi m cs) (a:∀b,vn.ownBlock=some b->vi.ownBlock≠some b):K2 B e1 e5 vn vi n m N cs x c5 W5 (fun _=>False) W5.drew d e f g :=
 ⟨fun h=>h.elim,fun h=>h.elim,(Touch.refl _ _).drew,fun _=>c.drew,fun h=>h.elim,fun _=>hi.drew,fun h=>h.elim,fun h=>h.elim,fun h=>h.elim,fun _=>a,fun h=>h.elim,fun h=>h.elim⟩
theorem K2.same (h:K2 B e1 e5 vn vi n m N cs x c5 W5 d w' y3 y4 y8 y9) (k:Nat) (l:k≠3) (o:k≠4) (p:k≠8) (r:k≠9):K2 B e1 e5 vn vi n m N cs x c5 W5 (fun j=>j=k\/d j) w' y3 y4 y8 y9:=by
 have e:∀q,q≠k->((q=k\/d q)↔d q):=fun q hq=>⟨fun h=>h.resolve_left hq,.inr⟩
 have g:=e 3 (Ne.symm l);have b:=e 4 (Ne.symm o);have i:=e 8 (Ne.symm p);have f:=e 9 (Ne.symm r);exact ⟨by rw [g,b];exact h.o4,by rw [f,i,b];exact h.o9,h.tch,by rw [b];exact h.n0,by rw [b];exact h.n1,by rw [f];exact h.i0,by rw [f];exact h.i1,by rw [g,b];exact h.a,by rw [i,f,b];exact h.c,by rw [b];exact h.ne0,by rw [b,f];exact h.ne1,by rw [f];exact h.ne2⟩
theorem K2.s3 (h:K2 B e1 e5 vn vi n m N cs x c5 W5 d w' y3 y4 y8 y9) (o:¬d 3):K2 B e1 e5 vn vi n m N cs x c5 W5 (fun j=>j=3\/d j) (w'.alloc (.cells #[.string x] e1)) (.slice (some ⟨w'.heap.size,0,none⟩) 1 1) y4 y8 y9:=by
 have a:¬d 4:=fun h4=>o (h.o4 h4);have f:¬d 9:=fun h9=>a (h.o9 h9).2;have r:∀q,q≠3->(q=3\/d q)->d q:=fun q hq h=>h.resolve_left hq;refine ⟨fun _=>.inl rfl,fun h9=>(f (r 9 (by decide) h9)).elim,h.tch.alloc _,fun _=>(h.n0 a).alloc _,fun h4=>(a (r 4 (by decide) h4)).elim,fun _=>(h.i0 f).alloc _,fun h9=>(f (r 9 (by decide) h9)).elim,fun _ _=>?_,fun h8 _=>?_,fun _=>h.ne0 a,fun h4=>(a (r 4 (by decide) h4)).elim,fun h9=>(f (r 9 (by decide) h9)).elim⟩
 . exact ⟨w'.heap.size,rfl,J2 w' _,fun e=>by have:=((h.n0 a).lt _ e).2;omega⟩
 . obtain ⟨b,i,g,k,l⟩:=h.c (r 8 (by decide) h8) f;exact ⟨b,i,by rw [Y4 _ _ _ (qx g)];exact g,k,fun _=>l a⟩
theorem K2.s8 (h:K2 B e1 e5 vn vi n m N cs x c5 W5 d w' y3 y4 y8 y9) (k:¬d 8):K2 B e1 e5 vn vi n m N cs x c5 W5 (fun j=>j=8\/d j) (w'.alloc (.cells c5 e5)) y3 y4 (.slice (some ⟨w'.heap.size,0,none⟩) 1 1) y9:=by
 have c:¬d 9:=fun h9=>k (h.o9 h9).1;have r:∀q,q≠8->(q=8\/d q)->d q:=fun q hq h=>h.resolve_left hq;have t:∀q,¬(q=8\/d q)->¬d q:=fun q h e=>h (.inr e);refine ⟨fun h4=>.inr (h.o4 (r 4 (by decide) h4)),fun h9=>(c (r 9 (by decide) h9)).elim,h.tch.alloc _,fun h4=>(h.n0 (t 4 h4)).alloc _,fun h4=>⟨(h.n1 (r 4 (by decide) h4)).1.alloc _,(h.n1 (r 4 (by decide) h4)).2⟩,fun _=>(h.i0 c).alloc _,fun h9=>(c (r 9 (by decide) h9)).elim,fun h3 h4=>?_,fun _ _=>?_,fun h4=>h.ne0 (t 4 h4),fun h4 h9=>h.ne1 (r 4 (by decide) h4) (t 9 h9),fun h9=>(c (r 9 (by decide) h9)).elim⟩
 . obtain ⟨b,g,f,i⟩:=h.a (r 3 (by decide) h3) (t 4 h4);exact ⟨b,g,by rw [Y4 _ _ _ (qx f)];exact f,i⟩
 . exact ⟨w'.heap.size,rfl,J2 w' _,fun e=>by have:=((h.i0 c).lt _ e).2;omega,fun h4 e=>by have:=((h.n0 (t 4 h4)).lt _ e).2;omega⟩
theorem K2.s4 (h:K2 B e1 e5 vn vi n m N cs x c5 W5 d w' y3 y4 y8 y9) (y:d 3) (v:¬d 4) {g cap:Nat} (z:w2.ownsRow B e1 1 (.slice (some ⟨g,0,none⟩) (n+1) cap) (n+1) (N ++ [.string x])) (w:w'.grownBy w2 vn.ownBlock) (u:vn.ownBlock=some g\/g=w'.heap.size) :
 K2 B e1 e5 vn vi n m N cs x c5 W5 (fun j=>j=4\/d j) w2 y3 (.slice (some ⟨g,0,none⟩) (n+1) cap) y8 y9:=by
 have a:¬d 9:=fun h9=>v (h.o9 h9).2;have r:∀q,q≠4->(q=4\/d q)->d q:=fun q hq h=>h.resolve_left hq;have i:∀b,(Value.slice (some ⟨g,0,none⟩) (n+1) cap).ownBlock=some b->b=g:=fun b hb=>by simp [Value.ownBlock] at hb;exact hb.symm
 have s:=h.tch.size;have f:=fun b hb=>(h.i0 a).lt b hb;refine ⟨fun _=>.inr y,fun h9=>(a (r 9 (by decide) h9)).elim,h.tch.grown w (fun b hb=>.inl (.inl hb)),fun h4=>(h4 (.inl rfl)).elim,fun _=>⟨z,fun b hb=>?_⟩,fun _=>zc (h.i0 a) (fun b hb=>w.block b (f b hb).2 (fun e=>h.ne0 v b e.symm hb)),fun h9=>(a (r 9 (by decide) h9)).elim,fun _ h4=>(h4 (.inl rfl)).elim,fun h8 _=>?_,fun h4=>(h4 (.inl rfl)).elim,fun _ _ b hb hi=>?_,fun h9=>(a (r 9 (by decide) h9)).elim⟩
 . rw [i b hb];rcases u with e|e
   . exact .inl e
   . exact .inr (by omega)
 . obtain ⟨b,l,k,o,p⟩:=h.c (r 8 (by decide) h8) a;exact ⟨b,l,by rw [w.block b (qx k) (fun e=>p v e.symm)];exact k,o,fun h4=>(h4 (.inl rfl)).elim⟩
 . rw [i b hb] at hi;rcases u with e|e
   . exact h.ne0 v g e hi
   . have:=(f g hi).2;omega
theorem K2.s9 (h:K2 B e1 e5 vn vi n m N cs x c5 W5 d w' y3 y4 y8 y9) (q:d 8) (i:d 4) (p:¬d 9) {g cap:Nat} (r:w2.ownsRow B e5 5 (.slice (some ⟨g,0,none⟩) (m+1) cap) (m+1) (cs ++ c5.toList)) (o:w'.grownBy w2 vi.ownBlock) (l:vi.ownBlock=some g\/g=w'.heap.size) :
 K2 B e1 e5 vn vi n m N cs x c5 W5 (fun j=>j=9\/d j) w2 y3 y4 y8 (.slice (some ⟨g,0,none⟩) (m+1) cap):=by
 have c:∀b,(Value.slice (some ⟨g,0,none⟩) (m+1) cap).ownBlock=some b->b=g:=fun b hb=>by simp [Value.ownBlock] at hb;exact hb.symm
 have f:=h.tch.size;have a:=fun b hb=>(h.n1 i).1.lt b hb;refine ⟨fun _=>.inr (h.o4 i),fun _=>⟨.inr q,.inr i⟩,h.tch.grown o (fun b hb=>.inl (.inr hb)),fun k=>(k (.inr i)).elim,fun _=>⟨zc (h.n1 i).1 (fun b hb=>o.block b (a b hb).2 (fun e=>h.ne1 i p b hb e.symm)),(h.n1 i).2⟩,fun k=>(k (.inl rfl)).elim,fun _=>⟨r,fun b hb=>?_⟩,fun _ k=>(k (.inr i)).elim,fun _ k=>(k (.inl rfl)).elim,fun k=>(k (.inr i)).elim,fun _ k=>(k (.inl rfl)).elim,fun _ b hb hi=>?_⟩
 . rw [c b hb];rcases l with e|e
   . exact .inl e
   . exact .inr (by omega)
 . rw [c b hi] at hb;rcases l with e|e
   . exact h.ne1 i p g hb e
   . have:=(a g hb).2;omega
end
theorem ObjAt.both {W z w':World} {r T F G lo hi:Nat} {B A s u:Value} {E:List ByteArray} {w:List JV} {cs:List Value} {it:JV} {an ai:Option Addr} {cn ci:Nat} {x:ByteArray} (h:ObjAt W z r T F G B A E w cs)
 (y:Touch (dF B A) z w') (K:w'.ownsRow W.heap.size F 1 s (E.length+1) (E.map .string ++ [.string x])) (D:∀b,s.ownBlock=some b->B.ownBlock=some b\/z.heap.size<=b)
 (hi':w'.ownsRow W.heap.size G 5 u (w.length+1) (cs ++ [.int .u8 it.kind,.int .i64 it.n,.string it.t,.slice an it.names.length cn,.slice ai it.items.length ci])) (C:∀b,u.ownBlock=some b->A.ownBlock=some b\/z.heap.size<=b) (v:∀b,s.ownBlock=some b->u.ownBlock≠some b)
 (H:W.heap.size<=lo) (J:hi<=z.heap.size) (I:∀b,dF B A b->¬(lo<=b/\b<hi)) (L:Rep z lo hi it (.agg #[.int .u8 it.kind,.int .i64 it.n,.string it.t,.slice an it.names.length cn,.slice ai it.items.length ci])) :
 ObjAt W ((w'.setCell ⟨r,3,none⟩ s).setCell ⟨r,4,none⟩ u) r T F G s u (E ++ [x]) (w ++ [it]) (cs ++ [.int .u8 it.kind,.int .i64 it.n,.string it.t,.slice an it.names.length cn,.slice ai it.items.length ci]):=by
 have p:W.heap.size<=z.heap.size:=h.touch.size;have q:=y.size;have c:=h.lt;have d:∀b,dF B A b->W.heap.size<=b:=fun b hb=>hb.elim (fun e=>(h.names.lt b e).1) (fun e=>(h.items.lt b e).1);have g:∀b,b≠r->((w'.setCell ⟨r,3,none⟩ s).setCell ⟨r,4,none⟩ u).heap[b]?=w'.heap[b]?:=fun b hb=>by rw [X5 _ _ _ _ hb,X5 _ _ _ _ hb]
 have o:((w'.setCell ⟨r,3,none⟩ s).setCell ⟨r,4,none⟩ u).heap.size=w'.heap.size:=by simp [World.setCell]
 have f:¬dF B A r:=fun e=>by have:=d r e;omega
 refine ⟨c,⟨?_,?_,?_,by omega,fun b hb v=>?_⟩,?_,?_,?_,?_,fun b hb=>v b hb⟩
 . show w'.os=_;rw [y.os,h.touch.os]
 . show w'.tape=_;rw [y.tape,h.touch.tape]
 . show w'.output=_;rw [y.output,h.touch.output]
 . rw [g b v,y.block b (by omega) (fun e=>by have:=d b e;omega)];exact h.touch.block b hb v
 . have m:w'.rowIs r T 5 _:=h.row.of_block (y.block r (by omega) f);refine ((m.set 3 s).set 4 u).congr fun i hi=>?_;rcases i with _|_|_|_|_|i <;> first|rfl|omega
 . have j:=M0 K c s (a:=⟨r,3,none⟩);have k:=M0 j c u (a:=⟨r,4,none⟩);simpa using k
 . have j:=M0 hi' c s (a:=⟨r,3,none⟩);have k:=M0 j c u (a:=⟨r,4,none⟩);simpa using k
 . have l:qU ((w'.setCell ⟨r,3,none⟩ s).setCell ⟨r,4,none⟩ u) W.heap.size (fun b=>b=r\/s.ownBlock=some b\/u.ownBlock=some b) w cs:=by
    refine h.reps.carry (by omega) lz (fun b hb hx=>?_) (fun b hx=>?_)
    . rw [g b (fun e=>hx (.inl e)),y.block b hb (fun e=>hx (e.elim (fun e=>.inr (.inl e)) (fun e=>.inr (.inr e))))]
    . rcases hx with hx|hx|hx
      . exact .inl (.inl hx)
      . exact (D b hx).elim (fun e=>.inl (.inr (.inl e))) .inr
      . exact (C b hx).elim (fun e=>.inl (.inr (.inr e))) .inr
   refine l.snoc it lo hi an cn ai ci H (by omega) (fun b hx hb=>?_) (Rep.carry lz lz (fun b h1 h2=>?_) _ _ L)
   . rcases hx with hx|hx|hx
     . omega
     . exact (D b hx).elim (fun e=>I b (.inl e) hb) (fun e=>by omega)
     . exact (C b hx).elim (fun e=>I b (.inr e) hb) (fun e=>by omega)
   . rw [g b (by omega),y.block b (by omega) (fun e=>I b e ⟨h1,h2⟩)]
theorem r9 {α:Type} (c:α->ByteArray) {s:List α} (l:∀i j (hi:i<s.length) (e:j<s.length),i<j->Op.bytesLess (c s[i]).toList (c s[j]).toList=true)
 (k:Nat) (f:k<s.length) (m:α) (o:m ∈ s) (d:k=0\/Op.bytesLess (c s[k-1]).toList (c m).toList=true)
 (g:∀x ∈ s,(k=0\/Op.bytesLess (c s[k-1]).toList (c x).toList=true)->Op.bytesLess (c x).toList (c m).toList=false):m=s[k]:=by
 obtain ⟨j,e,rfl⟩:=V4 o;rcases Nat.lt_trichotomy j k with h|h|h
 . exfalso
   rcases d with h0|hg
   . omega
   . by_cases he:j=k - 1
     . subst he;rw [zo] at hg;cases hg
     . have b:=l j (k - 1) e (by omega) (by omega);have a:=jU _ _ _ b hg;rw [zo] at a;cases a
 . subst h;rfl
 . exfalso
   have b:=l k j f e h;have a:=g s[k] (X6 f) (by
    by_cases h0:k=0
    . exact .inl h0
    . exact .inr (l (k - 1) k (by omega) f (by omega)))
   rw [b] at a;cases a
theorem aQ {α:Type} (a:α->ByteArray) {s:List α} (c:∀i j (hi:i<s.length) (d:j<s.length),i<j->Op.bytesLess (a s[i]).toList (a s[j]).toList=true)
 (k:Nat) (b:k<s.length):∃x ∈ s,k=0\/Op.bytesLess (a s[k-1]).toList (a x).toList=true:=by
 refine ⟨s[k],X6 b,?_⟩;by_cases h0:k=0
 . exact .inl h0
 . exact .inr (c (k - 1) k (by omega) b (by omega))
