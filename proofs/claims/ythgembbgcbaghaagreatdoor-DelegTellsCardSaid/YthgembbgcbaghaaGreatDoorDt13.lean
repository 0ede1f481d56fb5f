import Derived.Test.YthgembbgcbaghaaGreatDoorDt12
set_option maxHeartbeats 1000000
set_option maxRecDepth 100000

namespace Go.Proofs.YthgembbgcbaghaaGreatDoor
open Go.RowKit Go.WideMaps Go.Maps
theorem zj (o:Nat) (err kind:Int) (w:World) (h6:w.cell? ⟨o,6,none⟩=some (.int .i64 err)) (h0:w.cell? ⟨o,0,none⟩=some (.int .u8 kind)) (hk:err=0->kind=5) :
 Calls Tryz.prog 121 #[.pointer (some ⟨o,0,none⟩)] w fun e w'=>e=.returned (.int .i64 err)/\w=w':=by
 by_cases he:err=0
 . have a:=hk he;subst he a;clear hk;go_enter Tryz.func121,Tryz.ntmps121;go_wp2;go_ret;exact ⟨rfl,rfl⟩
 . have b:(err == 0)=false:=by simpa using he
   clear hk he;go_enter Tryz.func121,Tryz.ntmps121;go_wp2;go_ret;exact ⟨rfl,rfl⟩
theorem z8 (o:Nat) (e:Int) (w:World) (h6:w.cell? ⟨o,6,none⟩=some (.int .i64 0)) (h0:w.cell? ⟨o,0,none⟩=some (.int .u8 5)) (hf:w.frozen? ⟨o,6,none⟩=false) :
 Calls Tryz.prog 63 #[.pointer (some ⟨o,0,none⟩),.int .i64 e] w fun r w'=>r=.returned (.tuple #[])/\w'=w.setCell ⟨o,6,none⟩ (.int .i64 e):=by
 go_enter Tryz.func63,Tryz.ntmps63;go_wp2_with fail;refine (zj o 0 5 w h6 h0 (fun _=>rfl)).mono ?_;rintro r w' ⟨rfl,rfl⟩;go_wp2
 go_end0
 exact ⟨rfl,rfl⟩
theorem tn (k n:Int) (t:ByteArray) (a b:Value) (w:World) :
 Calls Tryz.prog 187 #[.agg #[.int .u8 k,.int .i64 n,.string t,a,b]] w fun e w'=>e=.returned (.tuple #[.string (if k=3 then t else ⟨#[]⟩),.int .i64 (if k=3 then 0 else 10)])/\Below w.heap.size w w':=by
 have c:=O0 (Below w.heap.size w (w.alloc (.cells #[.int .u8 k,.int .i64 n,.string t,a,b] 25))) ((Z0 _ _).alloc lz _);by_cases hk:k=3
 . subst hk;go_enter Tryz.func187,Tryz.ntmps187;go_wp2;go_ret2;exact ⟨by simp,c.o⟩
 . have d:(k == 3)=false:=by simpa using hk
   have f:=U hk;clear hk;go_enter Tryz.func187,Tryz.ntmps187;go_wp2;go_ret2;exact ⟨by simp,c.o⟩
theorem jM:Keyed Tryz.prog 9:=string_keyed X8
theorem kM (w:World):(zeroValue 3).run Tryz.prog w=.ok (.int .i64 0) w:=by kernel_rfl
def cO (o m lo hi:Nat) (v:JV) (an ai:Option Addr) (cn ci:Nat) (y:ByteArray) (st:PS) (w:World) (e:Ending) (w':World):Prop :=
 e=.returned (.string (ql v y st).1)/\PickAt o m lo hi v an ai cn ci (ql v y st).2 w'/\Touch (fun b=>b=o\/b=m) w w'
theorem tt (o m lo hi:Nat) (v:JV) (an ai:Option Addr) (cn ci:Nat) (y:ByteArray) (st:PS) (w:World) (hP:PickAt o m lo hi v an ai cn ci st w) (hy:y.size<=4294967296) (ha:st.asked.length<=4294967296) :
 Calls Tryz.prog 186 #[.pointer (some ⟨o,0,none⟩),.string y,.func (.func 187) #[] #[]] w (cO o m lo hi v an ai cn ci y st w):=by
 have f:=U hP;clear hP;have K:w.cell? ⟨o,6,none⟩=some (.int .i64 st.err):=qq f.o.obj rfl;have N:w.cell? ⟨o,0,none⟩=some (.int .u8 5):=(qq (j:=0) f.o.obj rfl).trans (by rw [f.o.kind];rfl);by_cases he:st.err=0
 . rw [he] at K;have x:=U he;clear he;have Z:w.cell? ⟨o,1,none⟩=some (.int .i64 v.n):=qq f.o.obj rfl;have c2:w.cell? ⟨o,2,none⟩=some (.string v.t):=qq f.o.obj rfl;have c3:w.cell? ⟨o,3,none⟩=some (.slice an v.names.length cn):=qq f.o.obj rfl;have c4:w.cell? ⟨o,4,none⟩=some (.slice ai v.items.length ci):=qq f.o.obj rfl;have V:=U f.o.rep;rw [f.o.kind] at V;have S:=U (kX v y _ w lo hi f.o.wt f.o.pos f.o.le V.o f.o.kind f.o.rise f.o.len);go_enter Tryz.func186,Tryz.ntmps186;go_wp2_with fail;refine (zj o 0 5 w K N (fun _=>rfl)).mono ?_;rintro r w' ⟨rfl,rfl⟩;go_wp2_with fail;refine S.o.mono ?_;clear S N Z c2 c3 c4 K;rintro e A ⟨hh,I⟩;have i:=U I;clear I;rcases hh with ⟨r,hr1,hr2,hre,an',cn',ai',ci',rfl,hrep⟩|⟨hno,rfl⟩
   . have T:=U (jU f.o.rise r hr1 hr2 hre);clear hre hrep;generalize v.items[r]=it at *;have J:Below w.heap.size w (A.alloc (.cells #[.int .u8 it.kind,.int .i64 it.n,.string it.t,.slice an' it.names.length cn',.slice ai' it.items.length ci'] 25)):=i.o.alloc i.o.size _;have g:=U J;have B:=U (tn it.kind it.n it.t (.slice an' it.names.length cn') (.slice ai' it.items.length ci') (A.alloc (.cells #[.int .u8 it.kind,.int .i64 it.n,.string it.t,.slice an' it.names.length cn',.slice ai' it.items.length ci'] 25)));clear J;by_cases hk:it.kind=3
     . have Y:=U hk;rw [J1 hk,J1 hk] at B;clear hk;go_wp2_with fail;refine B.o.mono ?_;clear B;rintro e C ⟨rfl,q⟩;have a:=U (O2 g q);have d:=U (f.o.below a.o);clear q g;have d5:C.cell? ⟨o,5,none⟩=some (.map (some m)):=qq d.o.obj rfl;have s:keyOf Tryz.prog 9 (.string y)=some (.string y.data.toList):=keyOf_string_mk X8 (by unfold maxLen;omega);obtain ⟨D,n,u,hn,P⟩:=d.o.map;obtain ⟨c,z,a0,a1,Q⟩:=P.2 y;obtain ⟨c',W,p,_⟩:=u.lookup_int jM K8 V1 (kM _) s;rw [z] at p;simp only [zb6,zc8,zc0] at p;subst p;have X:=U (P.cons y c z);have L:=U s;have M:=U u;clear P z Q s u;go_wp2_with (at_mapUpdate;refine za7 _ rfl _ _ _ 150 rfl 9 3 jM K8 _ m n D rfl M.o (by unfold maxLen;omega) _ _ _ rfl rfl L.o _ [] (plainElem_int V1 (WalkArith.wf_i64 (by omega))) ?_);intro R hown3 hgrow3;have h:=U (d.o.ask y hgrow3 hown3 (by omega) X.o);have E:=O0 (Touch (fun b=>b=o\/b=m) w R) (⟨by rw [hgrow3.os,a.o.os],by rw [hgrow3.tape,a.o.tape],by rw [hgrow3.output,a.o.output],Z3 a.o.size hgrow3.size,fun k hk hs=>by rw [hgrow3.block k (X9 hk a.o.size) (fun e=>hs (.inr (X7 e))),a.o.block k hk]⟩);clear hgrow3 hown3;have l:=U (show ql v y st=(it.t,⟨y :: st.asked,0⟩) by unfold ql;rw [Z5 (by simp [x.o]),T.o];simp [Y.o]);rw [x.o] at h;go_wp2;go_ret;exact ⟨by rw [l.o];rfl,by rw [l.o];exact h.o,E.o⟩
     . have l:=U (show ql v y st=(⟨#[]⟩,⟨st.asked,10⟩) by unfold ql;rw [Z5 (by simp [x.o]),T.o];simp [hk]);rw [Z5 hk,Z5 hk] at B;clear hk;go_wp2_with fail;refine B.o.mono ?_;clear B;rintro e C ⟨rfl,q⟩;have a:=U (O2 g q);have d:=U (f.o.below a.o);clear q g;have G:C.cell? ⟨o,6,none⟩=some (.int .i64 0):=(qq (j:=6) d.o.obj rfl).trans (by rw [x.o];rfl);have F:C.cell? ⟨o,0,none⟩=some (.int .u8 5):=(qq (j:=0) d.o.obj rfl).trans (by rw [f.o.kind];rfl);have H:C.frozen? ⟨o,6,none⟩=false:=by simp [World.frozen?,d.o.obj]
       go_wp2_with fail
       refine (z8 o 10 _ G F H).mono ?_;clear G F H;rintro e R ⟨rfl,rfl⟩;have h:=U (d.o.fail 10);have E:=O0 (Touch (fun b=>b=o\/b=m) w (C.setCell ⟨o,6,none⟩ (.int .i64 10))) ((Touch.of_below a.o lz).setCell (.inl (.inl rfl)) _);go_wp2;go_ret;exact ⟨by rw [l.o];rfl,by rw [l.o];exact h.o,E.o⟩
   . have l:=U (show ql v y st=(⟨#[]⟩,⟨st.asked,6⟩) by unfold ql;rw [Z5 (by simp [x.o]),show v.look y=none from xY _ _ _ hno]);unfold zeroAgg;have a:=O0 (Below w.heap.size w (A.alloc (.cells #[.int .u8 0,.int .i64 0,.string ⟨#[]⟩,.slice none 0 0,.slice none 0 0] 25))) (i.o.alloc i.o.size _);have d:=U (f.o.below a.o);clear hno i;have G:(A.alloc (.cells #[.int .u8 0,.int .i64 0,.string ⟨#[]⟩,.slice none 0 0,.slice none 0 0] 25)).cell? ⟨o,6,none⟩=some (.int .i64 0):=(qq (j:=6) d.o.obj rfl).trans (by rw [x.o];rfl);have F:(A.alloc (.cells #[.int .u8 0,.int .i64 0,.string ⟨#[]⟩,.slice none 0 0,.slice none 0 0] 25)).cell? ⟨o,0,none⟩=some (.int .u8 5):=(qq (j:=0) d.o.obj rfl).trans (by rw [f.o.kind];rfl);have H:(A.alloc (.cells #[.int .u8 0,.int .i64 0,.string ⟨#[]⟩,.slice none 0 0,.slice none 0 0] 25)).frozen? ⟨o,6,none⟩=false:=by simp [World.frozen?,d.o.obj]
     go_wp2_with fail
     refine (z8 o 6 _ G F H).mono ?_;clear G F H;rintro e R ⟨rfl,rfl⟩;have h:=U (d.o.fail 6);have E:=O0 (Touch (fun b=>b=o\/b=m) w ((A.alloc (.cells #[.int .u8 0,.int .i64 0,.string ⟨#[]⟩,.slice none 0 0,.slice none 0 0] 25)).setCell ⟨o,6,none⟩ (.int .i64 6))) ((Touch.of_below a.o lz).setCell (.inl (.inl rfl)) _);go_wp2;go_ret;exact ⟨by rw [l.o];rfl,by rw [l.o];exact h.o,E.o⟩
 . have a2:(st.err == 0)=false:=by simpa using he
   have a3:(st.err != 0)=true:=by simpa using he
   have l:=U (show ql v y st=(⟨#[]⟩,st) by unfold ql;rw [J1 he]);have x:=U he;clear he;go_enter Tryz.func186,Tryz.ntmps186;go_wp2_with fail;refine (zj o st.err 5 w K N (fun _=>rfl)).mono ?_;rintro r w' ⟨rfl,rfl⟩;go_wp2;go_ret;exact ⟨by rw [l.o];rfl,by rw [l.o];exact f.o,Touch.refl _ _⟩
theorem gH (o m lo hi:Nat) (v:JV) (an ai:Option Addr) (cn ci:Nat) (y:ByteArray) (st:PS) (w:World) (hP:PickAt o m lo hi v an ai cn ci st w) (hy:y.size<=4294967296) (ha:st.asked.length<=4294967296) :
 Calls Tryz.prog 124 #[.pointer (some ⟨o,0,none⟩),.string y] w (cO o m lo hi v an ai cn ci y st w):=by
 have f:=U (tt o m lo hi v an ai cn ci y st w hP hy ha);clear hP;go_enter Tryz.func124,Tryz.ntmps124;go_wp2_with fail;refine f.o.mono ?_;rintro e w' ⟨rfl,a,b⟩;have c:=U a;have d:=U b;clear a b;go_wp2;go_ret;exact ⟨rfl,c.o,d.o⟩
def xZ (o:Nat) (err:Int) (w:World):Prop:=err≠0/\w.cell? ⟨o,6,none⟩=some (.int .i64 err)/\∃k,w.cell? ⟨o,0,none⟩=some (.int .u8 k)
theorem xZ.below {o:Nat} {err:Int} {w w':World} (h:xZ o err w) (hb:Below w.heap.size w w') (ho:o<w.heap.size):xZ o err w':=by obtain ⟨a,b,k,c⟩:=h;exact ⟨a,by rw [hb.cell ho];exact b,k,by rw [hb.cell ho];exact c⟩
theorem mW (o:Nat) (err:Int) (y:ByteArray) (w:World) (h:xZ o err w) :
 Calls Tryz.prog 124 #[.pointer (some ⟨o,0,none⟩),.string y] w fun e w'=>e=.returned (.string ⟨#[]⟩)/\w=w':=by
 obtain ⟨a,c,k,b⟩:=h;have f:=U (show Calls Tryz.prog 186 #[.pointer (some ⟨o,0,none⟩),.string y,.func (.func 187) #[] #[]] w (fun e w'=>e=.returned (.string ⟨#[]⟩)/\w=w') by
  have g:(err == 0)=false:=by simpa using a
  have i:(err != 0)=true:=by simpa using a
  have d:=U a;clear a;go_enter Tryz.func186,Tryz.ntmps186;go_wp2_with fail;refine (zj o err k w c b (fun h=>absurd h d.o)).mono ?_;rintro r w' ⟨rfl,rfl⟩;go_wp2;go_ret;exact ⟨rfl,rfl⟩)
 clear a c b;go_enter Tryz.func124,Tryz.ntmps124;go_wp2_with fail;refine f.o.mono ?_;rintro e w' ⟨rfl,rfl⟩;go_wp2;go_ret;exact ⟨rfl,rfl⟩
theorem mY (o:Nat) (err k:Int) (w:World) (he:err≠0) (c6:w.cell? ⟨o,6,none⟩=some (.int .i64 err)) (c0:w.cell? ⟨o,0,none⟩=some (.int .u8 k)) :
 Calls Tryz.prog 68 #[.pointer (some ⟨o,0,none⟩)] w fun e w'=>e=.returned (.int .i64 err)/\w=w':=by
 have b:(err == 0)=false:=by simpa using he
 have c:(err != 0)=true:=by simpa using he
 have a:=U he;clear he;go_enter Tryz.func68,Tryz.ntmps68;go_wp2_with fail;refine (zj o err k w c6 c0 (fun h=>absurd h a.o)).mono ?_;rintro r w' ⟨rfl,rfl⟩;go_wp2;go_ret;exact ⟨rfl,rfl⟩
theorem ti {α:Type} (p:α->Bool) (l:List α) (k:Nat) (h:k<l.length) (ha:(l.take k).all p=true) (hp:p l[k]=true):(l.take (k+1)).all p=true:=by rw [Z6 h,List.all_append,ha];simp [hp]
theorem oZ {α:Type} (p:α->Bool) (l:List α) (k:Nat) (h:k<l.length) (hp:p l[k]=false):l.all p=false:=by rw [zb0];exact ⟨l[k],J7 h,by simp [hp]⟩
theorem uJ (o m lo hi:Nat) (v:JV) (an ai:Option Addr) (cn ci:Nat) (st:PS) (w:World) (hP:PickAt o m lo hi v an ai cn ci st w) (hn:∀i (h:i<v.names.length),v.names[i].size<=4294967296) :
 Calls Tryz.prog 68 #[.pointer (some ⟨o,0,none⟩)] w fun e w'=>e=.returned (.int .i64 (qr v st))/\w=w':=by
 have B:w.cell? ⟨o,6,none⟩=some (.int .i64 st.err):=qq hP.obj rfl;have G:w.cell? ⟨o,0,none⟩=some (.int .u8 5):=(qq (j:=0) hP.obj rfl).trans (by rw [hP.kind];rfl);by_cases he:st.err=0
 . have K:w.cell? ⟨o,3,none⟩=some (.slice an v.names.length cn):=qq hP.obj rfl;have c5:w.cell? ⟨o,5,none⟩=some (.map (some m)):=qq hP.obj rfl;rw [he] at B;have A:=U (show qr v st=if v.names.all (fun n=>st.asked.any fun a=>decide (a=n)) then 0 else 11 by unfold qr;rw [Z5 (by simp [he])]);have H:=(v.wt_bd).2.1;have a0:=hP.wt;have J:=U hP;have Q:=U hn;obtain ⟨z,q⟩:=O1 v.names.length;rw [<- q] at K H;have u:=U q;clear hP he hn q;go_enter Tryz.func68,Tryz.ntmps68;go_wp2_with fail;refine (zj o 0 5 w B G (fun _=>rfl)).mono ?_;rintro r w' ⟨rfl,rfl⟩;go_wp2;clear B G K
   go_loop [5,17] (fun _ i=>∃k:Nat,k<=z/\i=.int .i64 k/\(v.names.take k).all (fun n=>st.asked.any fun a=>decide (a=n))=true) (fun _ i=>z - (intOf i).toNat)
   case atStart=>exact ⟨0,by omega,rfl,by simp⟩
   case round =>
    obtain ⟨k,hk,rfl,g⟩:=hrel;have I:=U g;clear g;by_cases hlt:k<z
    . have b:k<v.names.length:=by rw [<- u.o];exact hlt
      obtain ⟨_,_,_,C,_⟩:True/\True/\True/\qv w lo hi an v.names/\True:=by obtain ⟨S,V,R,T,N,_,_,C,_⟩:=J.o.rep.parts;simp only [za2,za9,W8,M9,V2] at N;obtain ⟨_,_,_,⟨rfl,_,_⟩,_⟩:=N;exact ⟨trivial,trivial,trivial,C,trivial⟩
      obtain ⟨nb,P,rfl,_,_,yn⟩:=C.at k b;have Z:=Q.o k b;have F:=U (ti (fun n=>st.asked.any fun a=>decide (a=n)) v.names k b I.o);have E:=U (oZ (fun n=>st.asked.any fun a=>decide (a=n)) v.names k b);clear C;generalize v.names[k]=nk at *;have l:keyOf Tryz.prog 9 (.string nk)=some (.string nk.data.toList):=keyOf_string_mk X8 (by unfold maxLen;omega);obtain ⟨D,n,p,hn,L⟩:=J.o.map;obtain ⟨c,x,W,X,f⟩:=L.2 nk;obtain ⟨c',M,d,_⟩:=p.lookup_int jM K8 V1 (kM _) l;rw [x] at d;simp only [zb6,zc8,zc0] at d;subst d;clear p x L hn l;by_cases hc:c=0
      . have y:=f.1 hc;have s:=U (E.o (by
         rw [List.any_eq_false];intro a ha;simp only [Q6];intro e;subst e;exact y ha))
        subst hc;clear f y;go_wp2;go_ret;exact ⟨by rw [A.o,s.o];rfl,rfl⟩
      . have y:nk ∈ st.asked:=by
         by_cases h:nk ∈ st.asked
         . exact h
         . exact absurd (f.2 h) hc
        have s:=U (F.o (by rw [za6];exact ⟨nk,y,by simp⟩));have Y:(c == 0)=false:=by simpa using hc
        clear f y hc;go_wp2
        go_round
        case rel=>exact ⟨k+1,by omega,by go_num,s.o⟩
        case measure=>simp [intOf];omega
    . have s:=U (show v.names.all (fun n=>st.asked.any fun a=>decide (a=n))=true by
       have:=I.o;rwa [Z8 (by rw [<- u.o];omega)] at this)
      go_wp2;go_ret;exact ⟨by rw [A.o,s.o];rfl,rfl⟩
 . have A:=U (show qr v st=st.err by unfold qr;rw [J1 he]);refine (mY o st.err 5 w he B G).mono ?_;rintro e w' ⟨rfl,rfl⟩;exact ⟨by rw [A.o],rfl⟩
def nN (w:World) (e:Ending) (w':World):Prop:=∃o,e=.returned (.pointer (some ⟨o,0,none⟩))/\w.heap.size<=o/\o<w'.heap.size/\xZ o 10 w'/\Below w.heap.size w w'
theorem p8 (k n:Int) (t:ByteArray) (a b:Value) (w:World) (hk:k≠5) :
 Calls Tryz.prog 60 #[.agg #[.int .u8 k,.int .i64 n,.string t,a,b]] w (nN w):=by
 have c:(k == 5)=false:=by simpa using hk
 have d:(k != 5)=true:=by simpa using hk
 clear hk;go_enter Tryz.func60,Tryz.ntmps60;go_wp2;go_ret;refine ⟨_,rfl,by omega,by simp,⟨by decide,?_,0,?_⟩,((Z0 _ _).alloc lz _).alloc (by simp) _⟩
 . go_simp
 . go_simp
def eI (v:JV) (w:World) (e:Ending) (w':World):Prop:=∃o m lo hi an ai cn ci,e=.returned (.pointer (some ⟨o,0,none⟩))/\PickAt o m lo hi v an ai cn ci ⟨[],0⟩ w'/\w.heap.size<=o/\w.heap.size<=m/\Below w.heap.size w w'
theorem bQ (v:JV) (x:Value) (w:World) (lo hi:Nat) (hN:v.wt<=4294967296) (hhi:hi<=w.heap.size) (hR:Rep w lo hi v x) (hk:v.kind=5) (hr:qe v.names=true) (hl:v.names.length=v.items.length) (hS:∀k (h:k<v.items.length),cY lo v.items[k]) :
 Calls Tryz.prog 60 #[x] w (eI v w):=by
 obtain ⟨B,D,A,C,rfl,h1,h2,Q,h4⟩:=hR.parts;obtain ⟨b1,b2,X,b4⟩:=v.wt_bd;rw [hl,hk];rw [hl,hk] at hR;obtain ⟨c,u⟩:=O1 v.items.length;rw [<- u] at hR X ⊢;have I:=U u;have M:=U Q;have T:=U hR;have z:=U hr;have V:=U hS;have S:=U hk;have P:=U hl;clear h1 h2 Q h4 hR hr hS hk u hl;have a2:=@run_makeMap Tryz.prog;have G:=O0 (Below w.heap.size w (w.alloc (.cells #[.int .u8 5,.int .i64 v.n,.string v.t,.slice B c D,.slice A c C] 25))) ((Z0 _ _).alloc lz _);have K:=U (Z4 w (.cells #[.int .u8 5,.int .i64 v.n,.string v.t,.slice B c D,.slice A c C] 25));go_enter Tryz.func60,Tryz.ntmps60;go_wp2;go_loopw [3] (fun i wr=>∃k:Nat,1<=k/\(k<=c\/k=1)/\i=.int .i64 k/\Below (w.heap.size+1) (w.alloc (.cells #[.int .u8 5,.int .i64 v.n,.string v.t,.slice B c D,.slice A c C] 25)) wr) (fun i _=>c - (intOf i).toNat)
 case atStart=>exact ⟨1,by omega,.inr rfl,rfl,Z0 _ _⟩
 case round =>
  obtain ⟨k,a0,a1,rfl,a⟩:=hrel;have hz:w.heap.size+1<=wr.heap.size:=by have:=a.size;simpa using this
  have y:wr.heap[w.heap.size]?=some (.cells #[.int .u8 5,.int .i64 v.n,.string v.t,.slice B c D,.slice A c C] 25 (0,0)):=by rw [a.block _ (by omega)];exact K.o
  have l:=U y;have j:=O0 (Below w.heap.size w wr) (G.o.trans (a.mono (by omega)));have c3:wr.cell? ⟨w.heap.size,3,none⟩=some (.slice B c D):=qq y rfl;have R:=U a;clear y a;by_cases hlt:k<c
  . have m:k<v.names.length:=by rw [P.o,<- I.o];exact hlt
    obtain ⟨b,L,rfl,_,hb,y1⟩:=(M.o.below j.o hhi lz lz).at k m;obtain ⟨W,F,g,_,_,y0⟩:=(M.o.below j.o hhi lz lz).at (k - 1) (by omega);obtain ⟨rfl,rfl⟩:b=W/\L=F:=by simpa using g
    clear g;have d:=jZ z.o (k - 1) k (by omega) m (by omega);unfold bl at d;generalize v.names[k - 1]=na at d y0;generalize v.names[k]=nb at d y1;have i0:IntKind.i64.wrap ((k:Int) - 1)=(k:Int) - 1:=Y2 _ (by omega);have j0:0<=(k:Int) - 1:=by omega
    have j1:1<=(k:Int):=by omega
    have j2:(k:Int) - 1<(c:Int):=by omega
    have j3:(k:Int)<(c:Int):=by omega
    have t0:((k:Int) - 1).toNat=k - 1:=by omega
    go_wp2_with fail
    go_quiet (fail)
    go_wp2;go_roundw
    case rel=>exact ⟨k+1,by omega,by omega,by go_num,Below.drewN R.o _⟩
    case measure=>simp [intOf];omega
  . have Y:wr.cell? ⟨w.heap.size,0,none⟩=some (.int .u8 5):=qq l.o rfl;have Z:wr.cell? ⟨w.heap.size,1,none⟩=some (.int .i64 v.n):=qq l.o rfl;have c2:wr.cell? ⟨w.heap.size,2,none⟩=some (.string v.t):=qq l.o rfl;have c4:wr.cell? ⟨w.heap.size,4,none⟩=some (.slice A c C):=qq l.o rfl;have N:=U (wU v _ wr lo hi hN (by omega) (T.o.below j.o hhi lz lz) V.o);go_wp2_with fail;refine N.o.mono ?_;clear N Y Z c2 c3 c4;rintro e f ⟨p,r,o,q,rfl,E,s⟩;have a3:=s.size;have J:=U E;have H:=U (j.o.trans (s.mono (by omega)));clear E s;go_wp2;go_ret;refine ⟨f.heap.size+1,f.heap.size,wr.heap.size,f.heap.size,p,o,r,q,rfl,?_,by omega,by omega,(H.o.alloc (by omega) _).alloc (by simp;omega) _⟩;have g:Below f.heap.size f ((f.alloc (.map #[] 0)).alloc (.cells #[.int .u8 v.kind,.int .i64 v.n,.string v.t,.slice p v.names.length r,.slice o v.items.length q,.map (some f.heap.size),.int .i64 0] 152)):=((Z0 _ _).alloc lz _).alloc (by simp) _;exact {
     obj:=by have:=Z4 (f.alloc (.map #[] 0)) (.cells #[.int .u8 v.kind,.int .i64 v.n,.string v.t,.slice p v.names.length r,.slice o v.items.length q,.map (some f.heap.size),.int .i64 0] 152);rw [show (f.alloc (.map #[] 0)).heap.size=f.heap.size+1 by simp] at this;exact this
     map:=⟨_,0,(World.ownsMap_made f _ _ _).alloc _,by omega,cT.nil⟩
     rep:=J.o.below g lz lz lz
     pos:=by omega
     out:=⟨by omega,by omega⟩
     le:=g.size
     kind:=S.o
     rise:=z.o
     len:=P.o
     wt:=hN }
def ju (seen:List ByteArray) (x:ByteArray):Bool:=seen.any fun y=>y.toList == x.toList
theorem jC (seen:List ByteArray) (x:ByteArray):ju seen x=true↔x ∈ seen:=by
 unfold ju;rw [za6];constructor
 . rintro ⟨y,a,e⟩;rw [<- vW (eq_of_beq e)];exact a
 . intro h;exact ⟨x,h,by simp⟩
def j4 (s:ByteArray):Bool:=decide (s.size=64) && jw s.data.toList
def qA (seen:List ByteArray):List ByteArray->Int
 | []=>0
 | x :: r=>if j4 x then (if ju seen x then 7 else qA (seen ++ [x]) r) else 3
def xw (t:Int) (ids:List ByteArray):Bool:=decide (1<=ids.length/\ids.length<=16/\1<=t/\t<=ids.length) && decide (qA [] ids=0)
def p9 (c:UInt8):List UInt8:=if c.toNat=34\/c.toNat=92 then [92,c] else [c]
def yN (l:List UInt8):List UInt8:=l.flatMap p9
def xN (l:List UInt8):List UInt8:=34 :: (yN l ++ [34])
theorem nS (s:ByteArray) (k:Nat) (h:k<s.size):yN (s.data.toList.take (k+1))=yN (s.data.toList.take k) ++ p9 s[k]:=by unfold yN;rw [gQ s k h];simp
theorem wn (l:List UInt8):(yN l).length<=2 * l.length:=by
 induction l with
 | nil=>simp [yN]
 | cons c r ih =>
  have e:yN (c :: r)=p9 c ++ yN r:=by simp [yN]
  rw [e,H0,N2];have:(p9 c).length<=2:=by unfold p9;split <;> simp
  omega
def nA (s:ByteArray) (w:World) (e:Ending) (w':World):Prop:=e=.returned (.tuple #[.string ⟨(xN s.data.toList).toArray⟩,.int .i64 0])/\Below w.heap.size w w'
theorem l4 (s:ByteArray) (w:World) (hs:s.size<=4096) (hu:vK s=true) :
 Calls Tryz.prog 229 #[.string s] w (nA s w):=by
 go_enter Tryz.func229,Tryz.ntmps229;go_wp2_with fail;refine (pS s _ (by omega)).mono ?_;rintro e a ⟨rfl,r⟩;have q:=U r;clear r;go_wp2_with fail;have D:yr a.heap.size a.heap.size [] (a.alloc (.cells #[.pointer none,.slice none 0 0] 228)):=Lib.IsBuilderF.of (Lib.fresh_isBuilder _ _ a);refine (zC a.heap.size a.heap.size [] 34 _ D (by simp) (by simp)).mono ?_;rintro e L ⟨rfl,x,u,B⟩;have A:=U x;have y:=O0 (Below a.heap.size a L) (((Z0 _ _).alloc lz _).trans u);clear x u B D;go_wp2;go_loopw [5,15] (fun _ i wr=>∃k:Nat,k<=s.size/\i=.int .i64 k/\mQ a.heap.size a.heap.size (Lib.byteCells (34 :: yN (s.data.toList.take k))) wr/\Below a.heap.size a wr) (fun _ i _=>s.size - (intOf i).toNat)
 case atStart=>exact ⟨0,J8 _,rfl,A.o,y.o⟩
 case round =>
  obtain ⟨k,M,rfl,v,p⟩:=hrel;have N:=wn (s.data.toList.take k);have I:(s.data.toList.take k).length<=k:=List.length_take_le _ _;have P:=p.size;have h:=U v;have l:=U p;clear v p;by_cases hlt:k<s.size
  . have C:=U (nS s k hlt);by_cases h1:s[k].toNat=34\/s[k].toNat=92
    . have z:Hid (p9 s[k]=[92,s[k]]):=U (by unfold p9;rw [J1 h1]);rcases h1 with h1|h1
      case' inl=>have E:((s[k].toNat:Int) == 34)=true:=by simp;omega
      case' inr =>
       have E:((s[k].toNat:Int) == 34)=false:=by simp;omega
       have K:((s[k].toNat:Int) == 92)=true:=by simp;omega
      all_goals
       clear h1;go_wp2_with fail;refine (zC a.heap.size a.heap.size _ 92 _ (.inr h.o) (by simp [Lib.byteCells];omega) (by omega)).mono ?_;rintro e F ⟨rfl,f,c,-⟩;have J:=c.size;have m:=U f;have j:=U (l.o.trans c);clear f c;go_wp2_with fail;refine (zC a.heap.size a.heap.size _ _ _ (.inr m.o) (by simp [Lib.byteCells];omega) (by omega)).mono ?_;rintro e G ⟨rfl,g,b,-⟩;have o:=U g;have d:=U (j.o.trans b);clear g b;go_wp2;go_roundw
       case rel=>exact ⟨k+1,by omega,by go_num,by rw [C.o,z.o];simpa [Lib.byteCells] using o.o,d.o⟩
       case measure=>simp [intOf];omega
    . have z:Hid (p9 s[k]=[s[k]]):=U (by unfold p9;rw [Z5 h1]);have E:((s[k].toNat:Int) == 34)=false:=by simp;omega
      have K:((s[k].toNat:Int) == 92)=false:=by simp;omega
      clear h1;go_wp2_with fail;refine (zC a.heap.size a.heap.size _ _ _ (.inr h.o) (by simp [Lib.byteCells];omega) (by omega)).mono ?_;rintro e G ⟨rfl,g,b,-⟩;have o:=U g;have d:=U (l.o.trans b);clear g b;go_wp2;go_roundw
      case rel=>exact ⟨k+1,by omega,by go_num,by rw [C.o,z.o];simpa [Lib.byteCells] using o.o,d.o⟩
      case measure=>simp [intOf];omega
  . have H:=O0 (s.data.toList.take k=s.data.toList) (Z8 (by rw [qp];omega));rw [H.o] at h;go_wp2_with fail;refine (zC a.heap.size a.heap.size _ 34 _ (.inr h.o) (by have:=wn s.data.toList;rw [qp] at this;simp [Lib.byteCells];omega) (by omega)).mono ?_;rintro e F ⟨rfl,f,c,-⟩;have m:=U (show mQ a.heap.size a.heap.size (Lib.byteCells (xN s.data.toList)) F by simpa [Lib.byteCells,xN] using f);have j:=U (l.o.trans c);clear f c;go_wp2_with fail;refine (wE a.heap.size a.heap.size _ _ (.inr m.o) (by simp [xN])).mono ?_;rintro e G ⟨rfl,b,-⟩;have d:=U (q.o.trans ((j.o.trans b).mono q.o.size));clear b;go_wp2;go_ret2;exact ⟨rfl,d.o⟩
theorem ba_eq {a b:ByteArray}:(a.toList == b.toList)=decide (a=b):=by rw [X2,X2,za0];simp only [zc6,Q6];exact ⟨fun h=>uX h,fun h=>by rw [h]⟩
theorem kf {w:World} {base base' e size n:Nat} {v:Value} {cs:List Value} (h:w.ownsRow base e size v n cs) (hb:base'<=base):w.ownsRow base' e size v n cs:=by
 refine ⟨h.1,?_⟩;rcases h.2 with h2|⟨g,cap,cur,hv,hg,r⟩
 . exact .inl h2
 . exact .inr ⟨g,cap,cur,hv,Z3 hb hg,r⟩
structure ObjAt2 (W wr:World) (B cb T e1 e5:Nat) (vn vi:Value) (ns:List ByteArray) (its:List JV) (cs:List Value):Prop where
 lt:cb<W.heap.size
 le:B<=W.heap.size
 touch:Touch (· = cb) W wr
 row:wr.rowIs cb T 5 (qZ (.int .u8 5) (.int .i64 0) (.string ⟨#[]⟩) vn vi)
 names:wr.ownsRow W.heap.size e1 1 vn ns.length (ns.map .string)
 items:wr.ownsRow W.heap.size e5 5 vi its.length cs
 reps:qF wr B (fun b=>b=cb\/vn.ownBlock=some b\/vi.ownBlock=some b) its cs
 ne:∀b,vn.ownBlock=some b->vi.ownBlock≠some b
theorem ObjAt2.below {W wr w':World} {B cb T e1 e5:Nat} {vn vi:Value} {ns:List ByteArray} {its:List JV} {cs:List Value} (h:ObjAt2 W wr B cb T e1 e5 vn vi ns its cs) (hb:Below wr.heap.size wr w'):ObjAt2 W w' B cb T e1 e5 vn vi ns its cs where
 lt:=h.lt
 le:=h.le
 touch:=h.touch.trans (Touch.of_below hb lz)
 row:=qj hb h.row h.row.lt
 names:=qH h.names hb
 items:=qH h.items hb
 reps:=h.reps.carry hb.size lz (fun b hb' _=>hb.block b hb') (fun _ hx=>.inl hx)
 ne:=h.ne
theorem ObjAt2.name {W wr w4:World} {B cb T e1 e5 g cap:Nat} {vn vi:Value} {ns:List ByteArray} {its:List JV} {cs:List Value} (h:ObjAt2 W wr B cb T e1 e5 vn vi ns its cs) (x:ByteArray)
 (hg:wr.grownBy w4 vn.ownBlock) (hat:vn.ownBlock=some g\/wr.heap.size<=g)
 (ho4:w4.ownsRow W.heap.size e1 1 (.slice (some ⟨g,0,none⟩) (ns.length+1) cap) (ns.length+1) (ns.map .string ++ [.string x])) :
 ObjAt2 W (w4.setCell ⟨cb,3,none⟩ (.slice (some ⟨g,0,none⟩) (ns.length+1) cap)) B cb T e1 e5 (.slice (some ⟨g,0,none⟩) (ns.length+1) cap) vi (ns ++ [x]) its cs:=by
 have q:W.heap.size<=wr.heap.size:=h.touch.size;have r:=hg.size;have f:=h.lt;have j:∀b,vn.ownBlock=some b->W.heap.size<=b/\b<wr.heap.size:=fun b hb=>h.names.lt b hb;have c:∀b,vi.ownBlock=some b->W.heap.size<=b/\b<wr.heap.size:=fun b hb=>h.items.lt b hb;have k:∀b,b<wr.heap.size->vn.ownBlock≠some b->w4.heap[b]?=wr.heap[b]?:=fun b hb hne=>hg.block b hb (fun e=>hne e.symm);have o:∀b,b≠cb->(w4.setCell ⟨cb,3,none⟩ (.slice (some ⟨g,0,none⟩) (ns.length+1) cap)).heap[b]?=w4.heap[b]?:=fun b hb=>J6 _ _ _ _ hb;have l:vn.ownBlock≠some cb:=fun e=>by have:=(j cb e).1;omega
 have s:(w4.setCell ⟨cb,3,none⟩ (.slice (some ⟨g,0,none⟩) (ns.length+1) cap)).heap.size=w4.heap.size:=by simp [World.setCell]
 have d:∀b,(Value.slice (some ⟨g,0,none⟩) (ns.length+1) cap).ownBlock=some b->b=g:=fun b hb=>by simp [Value.ownBlock] at hb;exact hb.symm
 have m:vi.ownBlock≠some g:=fun e=>by
  rcases hat with ha|ha
  . exact h.ne g ha e
  . have:=(c g e).2;omega
 refine ⟨f,h.le,⟨?_,?_,?_,by omega,fun b hb hne=>?_⟩,?_,?_,?_,?_,?_⟩
 . show w4.os=_;rw [hg.os,h.touch.os]
 . show w4.tape=_;rw [hg.tape,h.touch.tape]
 . show w4.output=_;rw [hg.output,h.touch.output]
 . rw [o b hne,k b (by omega) (fun e=>by have:=(j b e).1;omega)];exact h.touch.block b hb hne
 . have p:w4.rowIs cb T 5 _:=h.row.of_block (k cb (by omega) l);refine (p.set 3 _).congr fun i hi=>?_;rcases i with _|_|_|_|_|i <;> first|rfl|omega
 . have:=N1 ho4 f (Value.slice (some ⟨g,0,none⟩) (ns.length+1) cap) (a:=⟨cb,3,none⟩);simpa using this
 . refine zd h.items fun b hb=>?_;rw [o b (fun e=>by have:=(c b hb).1;omega),k b (c b hb).2 (fun e=>h.ne b e hb)]
 . refine h.reps.carry (by omega) lz (fun b hb hx=>?_) (fun b hx=>?_)
   . rw [o b (fun e=>hx (.inl e)),k b hb (fun e=>hx (.inr (.inl e)))]
   . rcases hx with hx|hx|hx
     . exact .inl (.inl hx)
     . rw [d b hx];rcases hat with ha|ha
       . exact .inl (.inr (.inl ha))
       . exact .inr ha
     . exact .inl (.inr (.inr hx))
 . intro b hb;rw [d b hb];exact m
theorem ObjAt2.item {W wr w4:World} {B cb T e1 e5 g cap lo hi:Nat} {vn vi:Value} {ns:List ByteArray} {its:List JV} {cs:List Value} {it:JV} {an ai:Option Addr} {cn ci:Nat} (h:ObjAt2 W wr B cb T e1 e5 vn vi ns its cs)
 (hlo:B<=lo) (hhi:hi<=cb) (hr3:Rep wr lo hi it (.agg #[.int .u8 it.kind,.int .i64 it.n,.string it.t,.slice an it.names.length cn,.slice ai it.items.length ci]))
 (hg:wr.grownBy w4 vi.ownBlock) (hat:vi.ownBlock=some g\/wr.heap.size<=g)
 (ho4:w4.ownsRow W.heap.size e5 5 (.slice (some ⟨g,0,none⟩) (its.length+1) cap) (its.length+1) (cs ++ [.int .u8 it.kind,.int .i64 it.n,.string it.t,.slice an it.names.length cn,.slice ai it.items.length ci])) :
 ObjAt2 W (w4.setCell ⟨cb,4,none⟩ (.slice (some ⟨g,0,none⟩) (its.length+1) cap)) B cb T e1 e5 vn (.slice (some ⟨g,0,none⟩) (its.length+1) cap) ns (its ++ [it]) (cs ++ [.int .u8 it.kind,.int .i64 it.n,.string it.t,.slice an it.names.length cn,.slice ai it.items.length ci]):=by
 have q:W.heap.size<=wr.heap.size:=h.touch.size;have r:=hg.size;have j:=h.lt;have f:∀b,vn.ownBlock=some b->W.heap.size<=b/\b<wr.heap.size:=fun b hb=>h.names.lt b hb;have c:∀b,vi.ownBlock=some b->W.heap.size<=b/\b<wr.heap.size:=fun b hb=>h.items.lt b hb;have k:∀b,b<wr.heap.size->vi.ownBlock≠some b->w4.heap[b]?=wr.heap[b]?:=fun b hb hne=>hg.block b hb (fun e=>hne e.symm);have l:∀b,b≠cb->(w4.setCell ⟨cb,4,none⟩ (.slice (some ⟨g,0,none⟩) (its.length+1) cap)).heap[b]?=w4.heap[b]?:=fun b hb=>J6 _ _ _ _ hb;have m:vi.ownBlock≠some cb:=fun e=>by have:=(c cb e).1;omega
 have s:(w4.setCell ⟨cb,4,none⟩ (.slice (some ⟨g,0,none⟩) (its.length+1) cap)).heap.size=w4.heap.size:=by simp [World.setCell]
 have d:∀b,(Value.slice (some ⟨g,0,none⟩) (its.length+1) cap).ownBlock=some b->b=g:=fun b hb=>by simp [Value.ownBlock] at hb;exact hb.symm
 refine ⟨j,h.le,⟨?_,?_,?_,by omega,fun b hb hne=>?_⟩,?_,?_,?_,?_,?_⟩
 . show w4.os=_;rw [hg.os,h.touch.os]
 . show w4.tape=_;rw [hg.tape,h.touch.tape]
 . show w4.output=_;rw [hg.output,h.touch.output]
 . rw [l b hne,k b (by omega) (fun e=>by have:=(c b e).1;omega)];exact h.touch.block b hb hne
 . have p:w4.rowIs cb T 5 _:=h.row.of_block (by rw [k cb (by omega) m]);refine (p.set 4 _).congr fun i hi=>?_;rcases i with _|_|_|_|_|i <;> first|rfl|omega
 . refine zd h.names fun b hb=>?_;have:=f b hb;rw [l b (fun e=>by omega),k b (by omega) (h.ne b hb)]
 . have:=N1 ho4 j (Value.slice (some ⟨g,0,none⟩) (its.length+1) cap) (a:=⟨cb,4,none⟩);simpa using this
 . have o:qF (w4.setCell ⟨cb,4,none⟩ (.slice (some ⟨g,0,none⟩) (its.length+1) cap)) B (fun b=>b=cb\/vn.ownBlock=some b\/(Value.slice (some ⟨g,0,none⟩) (its.length+1) cap).ownBlock=some b) its cs:=by
    refine h.reps.carry (by omega) lz (fun b hb hx=>?_) (fun b hx=>?_)
    . rw [l b (fun e=>hx (.inl e)),k b (by omega) (fun e=>hx (.inr (.inr e)))]
    . rcases hx with hx|hx|hx
      . exact .inl (.inl hx)
      . exact .inl (.inr (.inl hx))
      . rw [d b hx];rcases hat with ha|ha
        . exact .inl (.inr (.inr ha))
        . exact .inr (by omega)
   refine o.snoc it lo hi an cn ai ci (by omega) (by omega) (fun b hx hb=>?_) (Rep.carry lz lz (fun b h1 h2=>?_) _ _ hr3)
   . rcases hx with hx|hx|hx
     . omega
     . have:=f b hx;omega
     . rw [d b hx] at hb;rcases hat with ha|ha
       . have:=c g ha;omega
       . omega
   . rw [l b (by omega),k b (by omega) (fun e=>by have:=(c b e).1;omega)]
 . intro b hb e;rw [d b e] at hb;rcases hat with ha|ha
   . exact h.ne g hb ha
   . have:=(f g hb).2;omega
theorem ObjAt2.done {W wr:World} {B cb T e1 e5:Nat} {vn vi:Value} {ns:List ByteArray} {its:List JV} {cs:List Value} (h:ObjAt2 W wr B cb T e1 e5 vn vi ns its cs) :
 ∃an cn ai ci,vn=.slice an ns.length cn/\vi=.slice ai its.length ci/\Rep wr B wr.heap.size (.mk 5 0 ⟨#[]⟩ ns its) (.agg #[.int .u8 5,.int .i64 0,.string ⟨#[]⟩,.slice an ns.length cn,.slice ai its.length ci]):=by
 obtain ⟨an,cn,a,b,c⟩:=jp (kf h.names h.le) rfl;obtain ⟨ai,ci,d,e,f⟩:=zM (kf h.items h.le) h.reps rfl;exact ⟨an,cn,ai,ci,a,d,Rep.mk (v:=.mk 5 0 ⟨#[]⟩ ns its) b e c f⟩
theorem l8 (s:ByteArray) (pos:Nat) (h:pos<s.size):pos+(Utf8.decode s pos).2<=s.size:=by
 unfold Utf8.decode;dsimp only
 repeat' split
 all_goals (first|(show pos+1<=s.size;omega)|(rename_i g _;simp at g;show _<=_;omega))
theorem tQ (s:ByteArray) (w:World) (hs:s.size<=4611686018427387904) :
 Calls Tryz.prog 130 #[.string s] w (mJ s w):=by
 go_enter Tryz.func130,Tryz.ntmps130;go_wp2;go_loopw [4,5,6,7,8] (fun v4 v5 _ _ _ wr=>∃(a n f:Nat),n<=a/\a<=s.size/\v4=.int .i64 n/\v5=.int .i64 a/\jE s f a=vK s/\s.size+1<=f+a/\Below w.heap.size w wr) (fun _ v5 _ _ _ _=>s.size - (intOf v5).toNat)
 case atStart=>exact ⟨0,0,s.size+1,by omega,by omega,rfl,rfl,rfl,by omega,Z0 _ _⟩
 case round =>
  obtain ⟨a,n,f,C,x,rfl,rfl,b,B,c⟩:=hrel;have o:=U c;clear c;by_cases hlt:a<s.size
  . obtain ⟨f,rfl⟩:∃g,f=g+1:=⟨f - 1,by omega⟩;have v:=pN s a;have u:=l8 s a hlt;have m:jE s (f+1) a=if qR s a then false else jE s f (a+(Utf8.decode s a).2):=by rw [jE,J1 hlt]
    rw [m] at b;have k:=U b;clear b m;have p:=U (oo s a wr hs hlt);go_wp2_with fail;refine p.o.mono ?_;clear p;rintro e E ⟨r,D,q,rfl,h,l⟩;have i:=U (O2 o l);clear l;rcases h with ⟨h1,rfl,rfl⟩|⟨h1,h2⟩
    . have j:=U (show jE s f (a+(Utf8.decode s a).2)=vK s by rw [<- k.o,h1];rfl);have y:a+(Utf8.decode s a).2<=s.size:=by omega
      clear h1;generalize (Utf8.decode s a).2=d at *;go_wp2;go_roundw
      case rel=>exact ⟨a+d,n+1,f,by omega,by omega,by go_num,by go_num,j.o,by omega,i.o⟩
      case measure=>simp [intOf];omega
    . have j:=U (show vK s=false by rw [<- k.o,h1];rfl);have z:(q != 0)=true:=by simpa using h2
      have A:(q == 0)=false:=by simpa using h2
      clear h1 h2;go_wp2;go_ret2;exact ⟨0,by rw [j.o] <;> rfl,i.o⟩
  . have j:=U (show vK s=true by
     rw [<- b];cases f with
     | zero=>rfl
     | succ f=>rw [jE,Z5 hlt])
    clear b;go_wp2;go_ret2;exact ⟨n,by rw [j.o] <;> rfl,o.o⟩
theorem mG (s:ByteArray) (w:World) (hs:s.size<=4611686018427387904) :
 Calls Tryz.prog 176 #[.string s] w fun e w'=>e=.returned (.bool (qQ s))/\Below w.heap.size w w':=by
 have b:=U (tQ s w hs);unfold mJ at b;unfold qQ;cases hv:vK s
 . rw [hv] at b;rw [N3];clear hv;go_enter Tryz.func176,Tryz.ntmps176;go_wp2_with fail;refine b.o.mono ?_;rintro e f ⟨n,rfl,a⟩;have c:=U a;clear a;go_wp2;go_ret;exact ⟨rfl,c.o⟩
 . rw [hv] at b;rw [Bool.and_true];clear hv;by_cases h4:s.size<=4096
   . rw [J2 h4];have d:(s.size:Int)<=4096:=by omega
     go_enter Tryz.func176,Tryz.ntmps176;go_wp2_with fail;refine b.o.mono ?_;rintro e f ⟨n,rfl,a⟩;have c:=U a;clear a;go_wp2;go_ret;exact ⟨rfl,c.o⟩
   . rw [Z7 h4];have d:¬(s.size:Int)<=4096:=by omega
     have g:decide ((s.size:Int)<=4096)=false:=Z7 d;go_enter Tryz.func176,Tryz.ntmps176;go_wp2_with fail;refine b.o.mono ?_;rintro e f ⟨n,rfl,a⟩;have c:=U a;clear a;go_wp2;go_ret;exact ⟨rfl,c.o⟩
def b8 (V:List (Option Value)) (d:Nat->Prop) (xs:List Value):Prop :=
 xs.length=V.length/\∀(j:Nat) (v x:Value),V[j]?=some (some v)->xs[j]?=some x->d j->x=v
theorem b8.first (V:List (Option Value)) (xs:List Value) (h:xs.length=V.length):b8 V (fun _=>False) xs:=⟨h,fun _ _ _ _ _ hd=>hd.elim⟩
theorem b8.get {V:List (Option Value)} {d:Nat->Prop} {xs:List Value} (h:b8 V d xs) (j:Nat) (hd:d j) (v:Value) (hV:V[j]?=some (some v)) (x:Value) (hx:xs[j]?=some x):x=v:=h.2 j v x hV hx hd
theorem b8.did {V:List (Option Value)} {d:Nat->Prop} {xs:List Value} (h:b8 V d xs) (j:Nat) (y:Value) (o:Option Value) (hV:V[j]?=some o) (hy:∀v,o=some v->y=v):b8 V (fun i=>i=j\/d i) (xs.set j y):=by
 refine ⟨by rw [List.length_set];exact h.1,fun i v x hm hx hd=>?_⟩;by_cases e:i=j
 . subst e;rw [hV] at hm;have a:i<xs.length:=by rw [h.1];exact (List.getElem?_eq_some_iff.1 hV).1
   rw [List.getElem?_set_self a] at hx;cases hx;exact hy v (X7 hm)
 . rw [List.getElem?_set_ne (Ne.symm e)] at hx;exact h.2 i v x hm hx (hd.resolve_left e)
theorem b8.same {V:List (Option Value)} {d:Nat->Prop} {xs:List Value} (h:b8 V d xs) (j:Nat) (y v:Value) (hV:V[j]?=some (some v)) (hy:y=v):b8 V (fun i=>i=j\/d i) (xs.set j y) :=
 h.did j y (some v) hV fun v' e=>by cases e;exact hy
theorem Touch.grown {S:Nat->Prop} {a w w':World} {own:Option Nat} (h:Touch S a w) (hg:w.grownBy w' own) (ho:∀b,own=some b->S b\/a.heap.size<=b):Touch S a w' :=
 ⟨hg.os.trans h.os,hg.tape.trans h.tape,hg.output.trans h.output,Z3 h.size hg.size,fun k hk hs=>by
  have:=h.size;rw [hg.block k (by omega) (fun e=>(ho k e.symm).elim hs (fun e=>by omega))];exact h.block k hk hs⟩
abbrev cE (vn vi:Value) (b:Nat):Prop:=vn.ownBlock=some b\/vi.ownBlock=some b
structure K2 (B e1 e5:Nat) (vn vi:Value) (n m:Nat) (N cs:List Value) (x:ByteArray) (c5:Array Value) (W5:World) (d:Nat->Prop) (w':World) (y3 y4 y8 y9:Value):Prop where
 o4:d 4->d 3
 o9:d 9->d 8/\d 4
 tch:Touch (cE vn vi) W5 w'
 n0:¬d 4->w'.ownsRow B e1 1 vn n N
 n1:d 4->w'.ownsRow B e1 1 y4 (n+1) (N ++ [.string x])/\∀b,y4.ownBlock=some b->vn.ownBlock=some b\/W5.heap.size<=b
 i0:¬d 9->w'.ownsRow B e5 5 vi m cs
 i1:d 9->w'.ownsRow B e5 5 y9 (m+1) (cs ++ c5.toList)/\∀b,y9.ownBlock=some b->vi.ownBlock=some b\/W5.heap.size<=b
 a:d 3->¬d 4->∃b,y3=.slice (some ⟨b,0,none⟩) 1 1/\w'.heap[b]?=some (.cells #[.string x] e1 (0,0))/\vn.ownBlock≠some b
 c:d 8->¬d 9->∃b,y8=.slice (some ⟨b,0,none⟩) 1 1/\w'.heap[b]?=some (.cells c5 e5 (0,0))/\vi.ownBlock≠some b/\(¬d 4->vn.ownBlock≠some b)
 ne0:¬d 4->∀b,vn.ownBlock=some b->vi.ownBlock≠some b
 ne1:d 4->¬d 9->∀b,y4.ownBlock=some b->vi.ownBlock≠some b
 ne2:d 9->∀b,y4.ownBlock=some b->y9.ownBlock≠some b
section
variable {B e1 e5:Nat} {vn vi:Value} {n m:Nat} {N cs:List Value} {x:ByteArray} {c5:Array Value} {W5:World} {d:Nat->Prop} {w' w2:World} {y3 y4 y8 y9:Value}
theorem K2.first (y3 y4 y8 y9:Value) (hn:W5.ownsRow B e1 1 vn n N) (hi:W5.ownsRow B e5 5 vi m cs) (hne:∀b,vn.ownBlock=some b->vi.ownBlock≠some b):K2 B e1 e5 vn vi n m N cs x c5 W5 (fun _=>False) W5.drew y3 y4 y8 y9 :=
 ⟨fun h=>h.elim,fun h=>h.elim,(Touch.refl _ _).drew,fun _=>hn.drew,fun h=>h.elim,fun _=>hi.drew,fun h=>h.elim,fun h=>h.elim,fun h=>h.elim,fun _=>hne,fun h=>h.elim,fun h=>h.elim⟩
theorem K2.same (h:K2 B e1 e5 vn vi n m N cs x c5 W5 d w' y3 y4 y8 y9) (k:Nat) (h3:k≠3) (h4:k≠4) (h8:k≠8) (h9:k≠9):K2 B e1 e5 vn vi n m N cs x c5 W5 (fun j=>j=k\/d j) w' y3 y4 y8 y9:=by
 have e:∀q,q≠k->((q=k\/d q)↔d q):=fun q hq=>⟨fun h=>h.resolve_left hq,.inr⟩
 have g:=e 3 (Ne.symm h3);have b:=e 4 (Ne.symm h4);have i:=e 8 (Ne.symm h8);have f:=e 9 (Ne.symm h9);exact ⟨by rw [g,b];exact h.o4,by rw [f,i,b];exact h.o9,h.tch,by rw [b];exact h.n0,by rw [b];exact h.n1,by rw [f];exact h.i0,by rw [f];exact h.i1,by rw [g,b];exact h.a,by rw [i,f,b];exact h.c,by rw [b];exact h.ne0,by rw [b,f];exact h.ne1,by rw [f];exact h.ne2⟩
theorem K2.s3 (h:K2 B e1 e5 vn vi n m N cs x c5 W5 d w' y3 y4 y8 y9) (hn:¬d 3):K2 B e1 e5 vn vi n m N cs x c5 W5 (fun j=>j=3\/d j) (w'.alloc (.cells #[.string x] e1)) (.slice (some ⟨w'.heap.size,0,none⟩) 1 1) y4 y8 y9:=by
 have a:¬d 4:=fun h4=>hn (h.o4 h4);have f:¬d 9:=fun h9=>a (h.o9 h9).2;have r:∀q,q≠3->(q=3\/d q)->d q:=fun q hq h=>h.resolve_left hq;refine ⟨fun _=>.inl rfl,fun h9=>(f (r 9 (by decide) h9)).elim,h.tch.alloc _,fun _=>(h.n0 a).alloc _,fun h4=>(a (r 4 (by decide) h4)).elim,fun _=>(h.i0 f).alloc _,fun h9=>(f (r 9 (by decide) h9)).elim,fun _ _=>?_,fun h8 _=>?_,fun _=>h.ne0 a,fun h4=>(a (r 4 (by decide) h4)).elim,fun h9=>(f (r 9 (by decide) h9)).elim⟩
 . exact ⟨w'.heap.size,rfl,Z4 w' _,fun e=>by have:=((h.n0 a).lt _ e).2;omega⟩
 . obtain ⟨b,i,g,k,l⟩:=h.c (r 8 (by decide) h8) f;exact ⟨b,i,by rw [X5 _ _ _ (qx g)];exact g,k,fun _=>l a⟩
theorem K2.s8 (h:K2 B e1 e5 vn vi n m N cs x c5 W5 d w' y3 y4 y8 y9) (hn:¬d 8):K2 B e1 e5 vn vi n m N cs x c5 W5 (fun j=>j=8\/d j) (w'.alloc (.cells c5 e5)) y3 y4 (.slice (some ⟨w'.heap.size,0,none⟩) 1 1) y9:=by
 have c:¬d 9:=fun h9=>hn (h.o9 h9).1;have r:∀q,q≠8->(q=8\/d q)->d q:=fun q hq h=>h.resolve_left hq;have t:∀q,¬(q=8\/d q)->¬d q:=fun q h e=>h (.inr e);refine ⟨fun h4=>.inr (h.o4 (r 4 (by decide) h4)),fun h9=>(c (r 9 (by decide) h9)).elim,h.tch.alloc _,fun h4=>(h.n0 (t 4 h4)).alloc _,fun h4=>⟨(h.n1 (r 4 (by decide) h4)).1.alloc _,(h.n1 (r 4 (by decide) h4)).2⟩,fun _=>(h.i0 c).alloc _,fun h9=>(c (r 9 (by decide) h9)).elim,fun h3 h4=>?_,fun _ _=>?_,fun h4=>h.ne0 (t 4 h4),fun h4 h9=>h.ne1 (r 4 (by decide) h4) (t 9 h9),fun h9=>(c (r 9 (by decide) h9)).elim⟩
 . obtain ⟨b,g,f,i⟩:=h.a (r 3 (by decide) h3) (t 4 h4);exact ⟨b,g,by rw [X5 _ _ _ (qx f)];exact f,i⟩
 . exact ⟨w'.heap.size,rfl,Z4 w' _,fun e=>by have:=((h.i0 c).lt _ e).2;omega,fun h4 e=>by have:=((h.n0 (t 4 h4)).lt _ e).2;omega⟩
theorem K2.s4 (h:K2 B e1 e5 vn vi n m N cs x c5 W5 d w' y3 y4 y8 y9) (h3:d 3) (hn:¬d 4) {g cap:Nat} (ho:w2.ownsRow B e1 1 (.slice (some ⟨g,0,none⟩) (n+1) cap) (n+1) (N ++ [.string x])) (hg:w'.grownBy w2 vn.ownBlock) (hat:vn.ownBlock=some g\/g=w'.heap.size) :
 K2 B e1 e5 vn vi n m N cs x c5 W5 (fun j=>j=4\/d j) w2 y3 (.slice (some ⟨g,0,none⟩) (n+1) cap) y8 y9:=by
 have a:¬d 9:=fun h9=>hn (h.o9 h9).2;have r:∀q,q≠4->(q=4\/d q)->d q:=fun q hq h=>h.resolve_left hq;have i:∀b,(Value.slice (some ⟨g,0,none⟩) (n+1) cap).ownBlock=some b->b=g:=fun b hb=>by simp [Value.ownBlock] at hb;exact hb.symm
 have s:=h.tch.size;have f:=fun b hb=>(h.i0 a).lt b hb;refine ⟨fun _=>.inr h3,fun h9=>(a (r 9 (by decide) h9)).elim,h.tch.grown hg (fun b hb=>.inl (.inl hb)),fun h4=>(h4 (.inl rfl)).elim,fun _=>⟨ho,fun b hb=>?_⟩,fun _=>zd (h.i0 a) (fun b hb=>hg.block b (f b hb).2 (fun e=>h.ne0 hn b e.symm hb)),fun h9=>(a (r 9 (by decide) h9)).elim,fun _ h4=>(h4 (.inl rfl)).elim,fun h8 _=>?_,fun h4=>(h4 (.inl rfl)).elim,fun _ _ b hb hi=>?_,fun h9=>(a (r 9 (by decide) h9)).elim⟩
 . rw [i b hb];rcases hat with e|e
   . exact .inl e
   . exact .inr (by omega)
 . obtain ⟨b,l,k,o,p⟩:=h.c (r 8 (by decide) h8) a;exact ⟨b,l,by rw [hg.block b (qx k) (fun e=>p hn e.symm)];exact k,o,fun h4=>(h4 (.inl rfl)).elim⟩
 . rw [i b hb] at hi;rcases hat with e|e
   . exact h.ne0 hn g e hi
   . have:=(f g hi).2;omega
theorem K2.s9 (h:K2 B e1 e5 vn vi n m N cs x c5 W5 d w' y3 y4 y8 y9) (h8:d 8) (h4:d 4) (hn:¬d 9) {g cap:Nat} (ho:w2.ownsRow B e5 5 (.slice (some ⟨g,0,none⟩) (m+1) cap) (m+1) (cs ++ c5.toList)) (hg:w'.grownBy w2 vi.ownBlock) (hat:vi.ownBlock=some g\/g=w'.heap.size) :
 K2 B e1 e5 vn vi n m N cs x c5 W5 (fun j=>j=9\/d j) w2 y3 y4 y8 (.slice (some ⟨g,0,none⟩) (m+1) cap):=by
 have c:∀b,(Value.slice (some ⟨g,0,none⟩) (m+1) cap).ownBlock=some b->b=g:=fun b hb=>by simp [Value.ownBlock] at hb;exact hb.symm
 have f:=h.tch.size;have a:=fun b hb=>(h.n1 h4).1.lt b hb;refine ⟨fun _=>.inr (h.o4 h4),fun _=>⟨.inr h8,.inr h4⟩,h.tch.grown hg (fun b hb=>.inl (.inr hb)),fun k=>(k (.inr h4)).elim,fun _=>⟨zd (h.n1 h4).1 (fun b hb=>hg.block b (a b hb).2 (fun e=>h.ne1 h4 hn b hb e.symm)),(h.n1 h4).2⟩,fun k=>(k (.inl rfl)).elim,fun _=>⟨ho,fun b hb=>?_⟩,fun _ k=>(k (.inr h4)).elim,fun _ k=>(k (.inl rfl)).elim,fun k=>(k (.inr h4)).elim,fun _ k=>(k (.inl rfl)).elim,fun _ b hb hi=>?_⟩
 . rw [c b hb];rcases hat with e|e
   . exact .inl e
   . exact .inr (by omega)
 . rw [c b hi] at hb;rcases hat with e|e
   . exact h.ne1 h4 hn g hb e
   . have:=(a g hb).2;omega
end
theorem ObjAt.both {W W5 w':World} {cb T e1 e5 lo hi:Nat} {vn vi y4 y9:Value} {ns:List ByteArray} {its:List JV} {cs:List Value} {it:JV} {an ai:Option Addr} {cn ci:Nat} {x:ByteArray} (h:ObjAt W W5 cb T e1 e5 vn vi ns its cs)
 (ht:Touch (cE vn vi) W5 w') (hn:w'.ownsRow W.heap.size e1 1 y4 (ns.length+1) (ns.map .string ++ [.string x])) (hn2:∀b,y4.ownBlock=some b->vn.ownBlock=some b\/W5.heap.size<=b)
 (hi':w'.ownsRow W.heap.size e5 5 y9 (its.length+1) (cs ++ [.int .u8 it.kind,.int .i64 it.n,.string it.t,.slice an it.names.length cn,.slice ai it.items.length ci])) (hi2:∀b,y9.ownBlock=some b->vi.ownBlock=some b\/W5.heap.size<=b) (hne:∀b,y4.ownBlock=some b->y9.ownBlock≠some b)
 (hlo:W.heap.size<=lo) (hhi:hi<=W5.heap.size) (hv:∀b,cE vn vi b->¬(lo<=b/\b<hi)) (hr:Rep W5 lo hi it (.agg #[.int .u8 it.kind,.int .i64 it.n,.string it.t,.slice an it.names.length cn,.slice ai it.items.length ci])) :
 ObjAt W ((w'.setCell ⟨cb,3,none⟩ y4).setCell ⟨cb,4,none⟩ y9) cb T e1 e5 y4 y9 (ns ++ [x]) (its ++ [it]) (cs ++ [.int .u8 it.kind,.int .i64 it.n,.string it.t,.slice an it.names.length cn,.slice ai it.items.length ci]):=by
 have p:W.heap.size<=W5.heap.size:=h.touch.size;have q:=ht.size;have c:=h.lt;have d:∀b,cE vn vi b->W.heap.size<=b:=fun b hb=>hb.elim (fun e=>(h.names.lt b e).1) (fun e=>(h.items.lt b e).1);have g:∀b,b≠cb->((w'.setCell ⟨cb,3,none⟩ y4).setCell ⟨cb,4,none⟩ y9).heap[b]?=w'.heap[b]?:=fun b hb=>by rw [J6 _ _ _ _ hb,J6 _ _ _ _ hb]
 have o:((w'.setCell ⟨cb,3,none⟩ y4).setCell ⟨cb,4,none⟩ y9).heap.size=w'.heap.size:=by simp [World.setCell]
 have f:¬cE vn vi cb:=fun e=>by have:=d cb e;omega
 refine ⟨c,⟨?_,?_,?_,by omega,fun b hb hne=>?_⟩,?_,?_,?_,?_,fun b hb=>hne b hb⟩
 . show w'.os=_;rw [ht.os,h.touch.os]
 . show w'.tape=_;rw [ht.tape,h.touch.tape]
 . show w'.output=_;rw [ht.output,h.touch.output]
 . rw [g b hne,ht.block b (by omega) (fun e=>by have:=d b e;omega)];exact h.touch.block b hb hne
 . have m:w'.rowIs cb T 5 _:=h.row.of_block (ht.block cb (by omega) f);refine ((m.set 3 y4).set 4 y9).congr fun i hi=>?_;rcases i with _|_|_|_|_|i <;> first|rfl|omega
 . have j:=N1 hn c y4 (a:=⟨cb,3,none⟩);have k:=N1 j c y9 (a:=⟨cb,4,none⟩);simpa using k
 . have j:=N1 hi' c y4 (a:=⟨cb,3,none⟩);have k:=N1 j c y9 (a:=⟨cb,4,none⟩);simpa using k
 . have l:qF ((w'.setCell ⟨cb,3,none⟩ y4).setCell ⟨cb,4,none⟩ y9) W.heap.size (fun b=>b=cb\/y4.ownBlock=some b\/y9.ownBlock=some b) its cs:=by
    refine h.reps.carry (by omega) lz (fun b hb hx=>?_) (fun b hx=>?_)
    . rw [g b (fun e=>hx (.inl e)),ht.block b hb (fun e=>hx (e.elim (fun e=>.inr (.inl e)) (fun e=>.inr (.inr e))))]
    . rcases hx with hx|hx|hx
      . exact .inl (.inl hx)
      . exact (hn2 b hx).elim (fun e=>.inl (.inr (.inl e))) .inr
      . exact (hi2 b hx).elim (fun e=>.inl (.inr (.inr e))) .inr
   refine l.snoc it lo hi an cn ai ci hlo (by omega) (fun b hx hb=>?_) (Rep.carry lz lz (fun b h1 h2=>?_) _ _ hr)
   . rcases hx with hx|hx|hx
     . omega
     . exact (hn2 b hx).elim (fun e=>hv b (.inl e) hb) (fun e=>by omega)
     . exact (hi2 b hx).elim (fun e=>hv b (.inr e) hb) (fun e=>by omega)
   . rw [g b (by omega),ht.block b (by omega) (fun e=>hv b e ⟨h1,h2⟩)]
theorem l9 {α:Type} (nm:α->ByteArray) {s:List α} (hs:∀i j (hi:i<s.length) (hj:j<s.length),i<j->Op.bytesLess (nm s[i]).toList (nm s[j]).toList=true)
 (k:Nat) (hk:k<s.length) (m:α) (hm:m ∈ s) (hgt:k=0\/Op.bytesLess (nm s[k-1]).toList (nm m).toList=true)
 (hle:∀x ∈ s,(k=0\/Op.bytesLess (nm s[k-1]).toList (nm x).toList=true)->Op.bytesLess (nm x).toList (nm m).toList=false):m=s[k]:=by
 obtain ⟨j,hj,rfl⟩:=Y3 hm;rcases Nat.lt_trichotomy j k with h|h|h
 . exfalso
   rcases hgt with h0|hg
   . omega
   . by_cases he:j=k - 1
     . subst he;rw [zQ] at hg;cases hg
     . have b:=hs j (k - 1) hj (by omega) (by omega);have a:=jH _ _ _ b hg;rw [zQ] at a;cases a
 . subst h;rfl
 . exfalso
   have b:=hs k j hk hj h;have a:=hle s[k] (J7 hk) (by
    by_cases h0:k=0
    . exact .inl h0
    . exact .inr (hs (k - 1) k (by omega) hk (by omega)))
   rw [b] at a;cases a
theorem nT {α:Type} (nm:α->ByteArray) {s:List α} (hs:∀i j (hi:i<s.length) (hj:j<s.length),i<j->Op.bytesLess (nm s[i]).toList (nm s[j]).toList=true)
 (k:Nat) (hk:k<s.length):∃x ∈ s,k=0\/Op.bytesLess (nm s[k-1]).toList (nm x).toList=true:=by
 refine ⟨s[k],J7 hk,?_⟩;by_cases h0:k=0
 . exact .inl h0
 . exact .inr (hs (k - 1) k (by omega) hk (by omega))
end Go.Proofs.YthgembbgcbaghaaGreatDoor
