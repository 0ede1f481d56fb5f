import Derived.Test.YtkllbdlebjomkaaGreatDoorTn21
set_option maxHeartbeats 2000000
set_option maxRecDepth 100000

namespace Go.Proofs.YtkllbdlebjomkaaGreatDoor
open Go.RowKit
def wM (r:RecV):JV:=qN [(vD,jb r.hs),(ym,qB r.len)]
def zF (r:RecV):Bool:=decide (0<=r.len) && (decide (r.len<=1099511627776) && qP r.hs)
structure RecFits (r:RecV):Prop where
 len:r.hs.length<=1000
 sz:∀k ∈ r.hs,k.1.size<=1000/\k.2.size<=1000
 may:zF r=true->(wM r).mayB=true
 cus:r.cus=zeroJ
theorem nY {r:RecV} (h:qP r.hs=true):(wM r).wt<=2000:=by
 have b:=dk h;have c:=vL r.len;show 1+0+qh [vD,ym] + ((jb r.hs).wt+((qB r.len).wt+0))<=2000;have a:qh [vD,ym]<=100:=by decide
 omega
def fQ:List (ByteArray × RecV)->Bool:=fun l=>l.all fun p=>zu p.1 && zF p.2
def qL (l:List (ByteArray × RecV)):Bool:=decide (l.length<=256) && (fQ l && qd (l.map (·.1)))
theorem bI {l:List (ByteArray × RecV)} (k:Nat) (b:k<l.length) (h:(zu l[k].1 && zF l[k].2)=false):qL l=false:=by
 unfold qL;have:fQ l=false:=by unfold fQ;rw [Bool.eq_false_iff];intro ha;have a:=X9.1 ha _ (J8 b);rw [h] at a;cases a
 rw [this];simp
theorem mR {l:List (ByteArray × RecV)} (k:Nat) (a:1<=k) (hk:k<l.length) (h:Op.bytesLess l[k-1].1.toList l[k].1.toList=false):qL l=false:=by unfold qL;have:qd (l.map (·.1))=false:=vX _ k a (by simpa using hk) (by simpa using h);rw [this];simp
theorem sL (l:List ByteArray) (h:∀k (_:1<=k) (c:k<l.length),Op.bytesLess l[k-1].toList l[k].toList=true):qd l=true:=by
 have b:∀(m:Nat),m<=l.length->qd (l.take m)=true:=by
  intro m hm
  induction m with
  | zero=>rfl
  | succ m ih =>
   by_cases e:m=0
   . subst e
     match l with
     | []=>rfl
     | a :: r=>rfl
   . rw [kz l m (by omega) (by omega),ih (by omega),h m (by omega) (by omega)];rfl
 have:=b l.length lz;rwa [zc0] at this
theorem dJ {l:List (ByteArray × RecV)} (d:l.length<=256) (e:∀k (c:k<l.length),(zu l[k].1 && zF l[k].2)=true) (f:∀k (_:1<=k) (c:k<l.length),Op.bytesLess l[k-1].1.toList l[k].1.toList=true):qL l=true:=by
 unfold qL fQ;have a:(l.all fun p=>zu p.1 && zF p.2)=true:=X9.2 fun x hx=>by obtain ⟨i,hi,rfl⟩:=Y0 hx;exact e i hi
 have b:qd (l.map (·.1))=true:=sL _ fun k c hkl=>by have:=f k c (by simpa using hkl);simpa using this
 rw [a,b];simp [d]
def jS (l:List (ByteArray × RecV)):JV:=qN (l.map fun p=>(p.1,wM p.2))
def xc (ver exp:Int) (l:List (ByteArray × RecV)):JV:=qN [(jz,txtJ zS),(kV,txtJ (jY exp)),(zS,jS l),(kK,qB ver)]
def exRc:RecV:=⟨3,[(Qf,Qh)],zeroJ⟩
def badRc:RecV:=⟨-1,[(Qf,Qh)],zeroJ⟩
def exLs:List (ByteArray × RecV):=[(abN,exRc)]
theorem fZ:zF exRc=true/\zF badRc=false/\(wM exRc).mayB=true:=by decide +kernel
theorem bq:RecFits exRc:=⟨by decide,fun k hk=>by simp [exRc] at hk;subst hk;exact ⟨by decide,by decide⟩,fun _=>fZ.2.2,rfl⟩
theorem rt:RecFits badRc:=⟨by decide,fun k hk=>by simp [badRc] at hk;subst hk;exact ⟨by decide,by decide⟩,fun h=>(by rw [fZ.2.1] at h;cases h),rfl⟩
theorem j6:jY 9=nineN/\vZ 9=0/\vZ 0=0:=by decide +kernel
theorem nG:xc 1 9 exLs=exTJ:=by unfold xc;rw [j6.1];rfl
theorem vY:qL exLs=true/\qL (exLs ++ [(abN,exRc)])=false/\qL (exLs ++ [(raN,exRc)])=false/\qL [(abN,badRc)]=false/\qL []=true:=by decide +kernel
theorem yy:(xc 1 9 exLs).mayB=true/\(xc 1 0 []).mayB=true:=by decide +kernel
theorem ri (N:List NJ):(qN N).wt=1+qh (N.map (·.1))+JV.wts (N.map (·.2)):=by show 1+(⟨#[]⟩:ByteArray).size+qh (N.map (·.1))+JV.wts (N.map (·.2))=_;rfl
theorem xY (t:ByteArray):(txtJ t).wt=1+t.size:=by simp [txtJ,JV.wt,JV.wts,qh]
theorem gu (n:Int):(qB n).wt=1:=by simp [qB,JV.wt,JV.wts,qh,ByteArray.size]
structure RootIn (w:World) (lo hi:Nat) (r:RootV) (ka i1 i2 i3:Option Addr):Prop where
 keys:qJ w lo hi ka r.keys
 a:qy w lo hi i1 r.au.a.ids
 b:qy w lo hi i2 r.au.b.ids
 c:qy w lo hi i3 r.au.c.ids
def jH (a:AuthV):Prop:=(-9223372036854775808<=a.thr/\a.thr<=9223372036854775807)/\a.ids.length<=4294967296/\∀s ∈ a.ids,s.size<=4294967296
structure RootFits (r:RootV):Prop where
 ver:-9223372036854775808<=r.ver/\r.ver<=9223372036854775807
 exp:-9223372036854775808<=r.exp/\r.exp<=9223372036854775807
 len:r.keys.length<=40
 keys:∀k ∈ r.keys,k.1.size<=300/\k.2.size<=300
 a:jH r.au.a
 b:jH r.au.b
 c:jH r.au.c
def sR (l:List ByteArray) (w:World) (e:Ending) (w':World):Prop :=
 ∃ai ci,e=.returned (.agg #[.int .u8 4,.int .i64 0,.string ⟨#[]⟩,.slice none 0 0,.slice ai l.length ci])/\Rep w' w.heap.size w'.heap.size (qe l) (.agg #[.int .u8 4,.int .i64 0,.string ⟨#[]⟩,.slice none 0 0,.slice ai l.length ci])/\O5 w w'
theorem mN (l:List ByteArray) (a:Option Addr) (c:Nat) (w:World) (hS:qy w 0 w.heap.size a l) (hl:l.length<=4294967296) :
 Calls Tryz.prog 148 #[.slice a l.length c] w (sR l w):=by
 obtain ⟨W,K⟩:=O1 ((w.alloc (.cells #[.int .u8 0,.int .i64 0,.string ⟨#[]⟩,.slice none 0 0,.slice none 0 0] 26)).alloc (.cells #[.int .u8 4,.int .i64 0,.string ⟨#[]⟩,.slice none 0 0,.slice none 0 0] 26));have x:(w.alloc (.cells #[.int .u8 0,.int .i64 0,.string ⟨#[]⟩,.slice none 0 0,.slice none 0 0] 26)).heap.size=w.heap.size+1:=by simp
 have y:W.heap.size=w.heap.size+2:=by rw [K];simp
 have a2:O5 w W:=by rw [K];exact (O4).alloc (by simp) _
 have a8:W.rowIs w.heap.size 26 5 (qo (.int .u8 0) (.int .i64 0) (.string ⟨#[]⟩) (.slice none 0 0) (.slice none 0 0)):=by rw [K];exact (qg w (.int .u8 0) (.int .i64 0) (.string ⟨#[]⟩) (.slice none 0 0) (.slice none 0 0) 26).alloc _
 have a9:W.rowIs (w.heap.size+1) 26 5 (qo (.int .u8 4) (.int .i64 0) (.string ⟨#[]⟩) (.slice none 0 0) (.slice none 0 0)):=(by have:=qg (w.alloc (.cells #[.int .u8 0,.int .i64 0,.string ⟨#[]⟩,.slice none 0 0,.slice none 0 0] 26)) (.int .u8 4) (.int .i64 0) (.string ⟨#[]⟩) (.slice none 0 0) (.slice none 0 0) 26;rw [x,<- K] at this;exact this);have HS:=U hS;have HW:=U K;have N:=U a2;have b3:=U a8;have X:=U a9;have r:=U y;obtain ⟨L,J⟩:=O1 l.length;have q:=U J;rw [<- J] at hl ⊢;clear hS K a2 a8 a9 x y J;obtain ⟨i0,c3,c6,x,y⟩:=V2 xi;go_enter Tryz.func148,Tryz.ntmps148;go_upto_region 2 with fail
 rw [<- HW.o];clear HW;obtain ⟨o,H⟩:=O1 (w.heap.size+1);have E:=U H;rw [<- H] at X ⊢;have a4:o<W.heap.size:=by have:=r.o;omega
 clear H;go_wp2;go_loopw [5,9] (fun _ i wr=>∃(k:Nat) (cs:List Value) (z:Value),k<=L/\i=.int .i64 k/\Touch (· = o) W wr/\wr.rowIs o 26 5 (qo (.int .u8 4) (.int .i64 0) (.string ⟨#[]⟩) (.slice none 0 0) z)/\wr.ownsRow W.heap.size 26 5 z k cs/\qS wr W.heap.size (fun b=>b=o\/z.ownBlock=some b) ((l.take k).map txtJ) cs) (fun _ i _=>L - (intOf i).toNat)
 case atStart=>exact ⟨0,[],.slice none 0 0,by omega,rfl,Touch.refl _ _,X.o,Y3 _ _ _ _,by simpa using qS.nil _ _ _⟩
 case round =>
  obtain ⟨k,cs,z,hk,rfl,f,d,h,s⟩:=hrel;by_cases hlt2:k<L
  . have B:k<l.length:=by rw [<- q.o];exact hlt2
    have HB:Hid (O5 w wr):=N.o.trans (f.below (by have:=r.o;omega) fun j hj e=>by have:=E.o;omega);obtain ⟨b,d2,rfl,_,hb,y0⟩:=(HS.o.below HB.o lz lz lz).at k B;have b6:=U (show (l.take (k+1)).map txtJ=(l.take k).map txtJ ++ [txtJ l[k]] by rw [Z7 B,K6];rfl);have c4:wr.cell? ⟨o,4,none⟩=some z:=d.cell (by omega);have f4:wr.frozen? ⟨o,4,none⟩=false:=d.frozen 4;have I:o<wr.heap.size:=d.lt;have d1:W.heap.size<=wr.heap.size:=f.size;have a6:some o≠z.ownBlock:=fun e=>by have:=(h.lt _ e.symm).1;omega
    have a0:=U d;have a1:=U f;have HO:=U h;have Z:=U s;clear d f h s;generalize l[k]=it at *;have Q:=U (show Calls Tryz.prog 55 #[.string it] wr.drew (fun e p=>e=.returned (.agg #[.int .u8 3,.int .i64 0,.string it,.slice none 0 0,.slice none 0 0])/\Rep p (wr.heap.size+1) p.heap.size (txtJ it) (.agg #[.int .u8 3,.int .i64 0,.string it,.slice none 0 0,.slice none 0 0])/\Below (wr.heap.size+1) ((wr.alloc (.cells #[.int .u8 3,.int .i64 0,.string it,.slice none 0 0,.slice none 0 0] 26)).drew) p/\wr.heap.size<p.heap.size/\p.cell? ⟨o,4,none⟩=some z/\p.frozen? ⟨o,4,none⟩=false/\p.ownsRow W.heap.size 26 5 z k cs) by
     refine (kZ it wr.drew).mono ?_;rintro e p ⟨rfl,rfl⟩;have F:O5 wr (wr.drew.alloc (.cells #[.int .u8 3,.int .i64 0,.string it,.slice none 0 0,.slice none 0 0] 26)):=(Z0 _ _).drew.alloc lz _;exact ⟨rfl,jZ _ _ _ _,Z0 _ _,by simp,by rw [F.cell I];exact c4,by rw [F.frozen I];exact f4,qV HO.o F⟩)
    go_wp2_with fail
    go_region_law (first|(refine K9 _ (by rfl) (.tmp 14) (.tmp 17) 24 (by rfl) W.heap.size 26 i0 _ 5 80 K2 c3 c6 x y rfl (by omega) z k cs (by rfl) (T.o.alloc _) ⟨p.heap.size,0,none⟩ 1 1 (Array.toList #[.int .u8 3,.int .i64 0,.string it,.slice none 0 0,.slice none 0 0]) (by rfl) (by rfl) (J9 (cs:=#[.int .u8 3,.int .i64 0,.string it,.slice none 0 0,.slice none 0 0]) (t:=26) (fr:=(0,0)) (Z5 p _)) (by simp [Value.oneCell']) (by omega) (by unfold maxLen;omega) (by omega) (by simp;omega) (p.heap.size+1) (by simp) ?_;intro g cap w4 hown4 hgrow4 hat4 hlt4;have c9:=qA hgrow4 A a6 c0;have d0:=qE hgrow4 A a6 c1;have V:=U hown4;have R:=U hgrow4;have M:=U hat4;clear hown4 hgrow4 hat4)|(go_simp;go_at_call 55;(with_reducible refine Q.o.mono ?_);rintro e p ⟨rfl,b0,a3,c7,c0,c1,a7⟩;have A:o<p.heap.size:=Nat.lt_trans I c7;have T:=U a7;have Y:=U b0;have P:=U a3;clear a7 b0 a3))
    all_goals
     have b5:=U (row_step (j:=4) (it:=txtJ it) (an:=none) (cn:=0) (ai:=none) (ci:=0) a4 a1.o a0.o HO.o Z.o P.o Y.o R.o M.o V.o);clear a1 a0 HO Z P Y R M V T Q;go_wp2;go_roundw
     case rel => obtain ⟨z1,z2,z3,z4⟩:=b5.o;refine ⟨k+1,_,_,by omega,by go_num,z1,z2.congr fun i hi=>?_,z3,by rw [b6.o];exact z4⟩;rcases i with _|_|_|_|_|i <;> first|rfl|omega
     case measure=>simp [intOf];omega
  . obtain rfl:k=L:=by omega
    have C:(l.take k).map txtJ=l.map txtJ:=by rw [J4 (by rw [<- q.o];exact J2 _)]
    rw [C] at s;have u:(l.map txtJ).length=k:=by rw [X7,<- q.o]
    obtain ⟨a5,c5,rfl,G,b1⟩:=xa h s u.symm;rw [u] at G d;have b7:=U b1;have b2:=U G;have S:=U u;have m:=(f.row b3.o (by have:=E.o;omega));obtain ⟨r0,r1,r2,r3,r4⟩:=rc5 d;obtain ⟨t0,t1,t2,t3,t4⟩:=rc5 m;obtain ⟨s0,s1,s2,s3,s4⟩:=rf5 m;simp only [qo] at r0 r1 r2 r3 r4 t0 t1 t2 t3 t4;have HT:=U f;have b4:=U m;clear d m h s b1 f C G u;go_wp2;refine Z8 (X8 Tryz.results148 _ _ w.heap.size 26 _ (0,0) _ rfl (qr (set5 _ _ _ _ _ b4.o)) J7 rfl (by kernel_rfl)) rfl ?_;have c2:O5 w wr:=N.o.trans (HT.o.below (by have:=r.o;omega) fun j hj e=>by have:=E.o;omega);refine ⟨a5,c5,by rw [<- q.o],?_,zf _ _ _ _ _ c2 lz⟩;rw [<- q.o];have D:=Rep.mk (v:=qe l) (an:=none) (cn:=0) (ai:=a5) (ci:=c5) (w:=wr) (lo:=W.heap.size) (hi:=wr.heap.size) lz (by show (l.map txtJ).length<=c5;rw [S.o];exact b2.o) (.inl rfl) b7.o;have e5:(qe l).items.length=k:=S.o;rw [e5] at D;exact Rep.carry (by have:=r.o;omega) (show wr.heap.size<=_ by simp [World.setCell]) (fun j hj _=>xJ _ _ _ _ _ (by have:=r.o;omega)) _ _ D
def tL (bits:Nat):Nat:=(bits+3) / 4
structure StepV where
 name:ByteArray
 au:AuthV
 term:Bool
theorem tR (b:Bool):(xe b).count=1/\(xe b).depth=0:=by
 constructor
 . rw [JV.count_eq];rfl
 . rw [JV.depth_eq];rfl
theorem fX {l:List ByteArray} {n:Nat} (d:l.length<=n) (h:∀x ∈ l,qX x=true):(qe l).partB=true/\(qe l).count<=n+1/\(qe l).depth<=1:=by
 have a:∀x ∈ l.map txtJ,x.partB=true/\x.count<=1/\x.depth<=0:=fun x hx'=>by obtain ⟨b,c,rfl⟩:=H7.1 hx';have:=mP b;exact ⟨g6 (h b c),Y5 this.1,Y5 this.2⟩
 refine ⟨fo fun x hx=>(a x hx).1,?_,?_⟩
 . rw [JV.count_eq];have:=counts_le 1 (l.map txtJ) fun x hx'=>(a x hx').2.1;rw [X7] at this;show 1+JV.counts (l.map txtJ)<=_;omega
 . rw [JV.depth_eq];have:=kW 0 (l.map txtJ) fun x hx'=>(a x hx').2.2;rw [Z6 (by simp [qe,xV,JV.kind])];show JV.depths (l.map txtJ)+1<=_;omega
theorem tN {p:ByteArray} (h:zu p=true):qX p=true:=by unfold zu at h;simp only [J5,J1] at h;unfold qX;rw [h.2,X3 (by omega)];rfl
theorem oS {p:ByteArray} (h:preB p=true):qX p=true:=by unfold preB at h;simp only [J5,J1] at h;refine zZ (fun c hc=>gR (X9.1 h.2 c hc)) (by omega)
theorem ro (b:Bool):(xe b).partB=true:=by cases b <;> kernel_rfl
theorem jR:qX qt=true/\qX xH=true/\qX jF=true/\qX vp=true/\qX zK=true/\qX xL=true/\qX wl=true/\qX wB=true/\qX vf=true:=by
 refine ⟨?_,?_,?_,?_,?_,?_,?_,?_,?_⟩
 all_goals
  refine zZ ?_ (by decide);intro c hc;unfold jq
  revert c
  decide
theorem tS {a:AuthV} (h:jJ a=true):(qe a.ids).partB=true/\(qe a.ids).count<=17/\(qe a.ids).depth<=1:=by obtain ⟨b,c,hi⟩:=jK h;exact fX b.2 fun x hx=>(yw (kG _ _ hi x hx)).1
theorem sN {x:DelegV} (h:qC x=true):(q9 x).partB=true/\(q9 x).count<=60/\(q9 x).depth<=2:=by
 obtain ⟨b,F,c,d⟩:=wP h;obtain ⟨k,l,m,o,q,r,H,I,J⟩:=jR;obtain ⟨z,A,L,M,N⟩:=zI;obtain ⟨i,G,j⟩:=tS c;have B:=mP x.name;have C:=tR x.term;have D:=mF x.au.thr;have E:=g6 (cE b);have g:qd ((kP x).map (·.1))=true:=by
  by_cases hp:x.paths=[]
  . simp only [kP,hp,ne_eq,not_true_eq_false,if_false,K8,List.map_nil];exact A
  . simp only [kP,hp,ne_eq,not_false_eq_true,if_true,K8,List.map_nil];exact z
 -- the five members,with the bound of each
 have f:∃y v,(if x.paths≠[] then (vp,qe x.paths) else (jF,qe x.pres))=(y,v)/\qX y=true/\v.partB=true/\v.count<=33/\v.depth<=1:=by
  rcases d with ⟨a1,a2,a3,a4⟩|⟨a1,a2,a3,a4⟩
  . exact ⟨_,_,J3 a1,o,fX a3 fun y hy=>tN (X9.1 a4 y hy)⟩
  . exact ⟨_,_,Z6 (by simp [a1]),m,fX a3 fun y hy=>oS (X9.1 a4 y hy)⟩
 obtain ⟨y,v,e,s,u,K,w⟩:=f;have a:kP x=[(qt,qe x.au.ids),(xH,txtJ x.name),(y,v),(xL,xe x.term),(zK,qB x.au.thr)]:=(by unfold kP;rw [e]);unfold q9;refine ⟨yv ⟨g,?_⟩,?_,?_⟩
 . rw [a];intro p hp;simp only [V6,V1,za4] at hp;rcases hp with rfl|rfl|rfl|rfl|rfl
   . exact ⟨k,i⟩
   . exact ⟨l,E⟩
   . exact ⟨s,u⟩
   . exact ⟨r,ro _⟩
   . exact ⟨q,g8 _⟩
 . rw [a,JV.count_eq];show 1+((qe x.au.ids).count+((txtJ x.name).count+(v.count+((xe x.term).count+((qB x.au.thr).count+0)))))<=60;omega
 . refine vR 1 ?_;rw [a];intro p hp;simp only [V6,V1,za4] at hp;rcases hp with rfl|rfl|rfl|rfl|rfl
   . exact j
   . exact Z3 (Y5 B.2) (by decide)
   . exact w
   . exact Z3 (Y5 C.2) (by decide)
   . exact Z3 (Y5 D.2) (by decide)
theorem tA {b:BinsV} (h:zh b=true):(k9 b).partB=true/\(k9 b).count<=80/\(k9 b).depth<=2:=by
 obtain ⟨v,g,i,w⟩:=uq h;obtain ⟨m,x,y,z,o,A,q,r,B⟩:=jR;obtain ⟨C,D,s,E,F⟩:=zI;obtain ⟨j,k,l⟩:=tS i;have c:=mP b.pre;have d:=mF b.bits;have f:=mF b.au.thr;have u:=g6 (cE g);have a:∀p ∈ dQ b,qX p.1=true/\p.2.partB=true/\p.2.count<=17/\p.2.depth<=1:=by
  intro p a;simp only [dQ,V6,V1,za4] at a;rcases a with rfl|rfl|rfl|rfl
  . exact ⟨q,g8 _,Z3 (Y5 d.1) (by decide),Z3 (Y5 d.2) (by decide)⟩
  . exact ⟨m,j,k,l⟩
  . exact ⟨r,u,Z3 (Y5 c.1) (by decide),Z3 (Y5 c.2) (by decide)⟩
  . exact ⟨o,g8 _,Z3 (Y5 f.1) (by decide),Z3 (Y5 f.2) (by decide)⟩
 unfold k9;refine ⟨yv ⟨s,fun p h=>⟨(a p h).1,(a p h).2.1⟩⟩,?_,vR 1 fun p h=>(a p h).2.2.2⟩;have:=fk 17 fun p h=>(a p h).2.2.1;have e:(dQ b).length=4:=rfl;rw [e] at this;omega
def xj (d:DelegsV):Bool:=zn d.keys && (if xG d.bins then decide (d.roles.length<=64) && d.roles.all qC && xC d.roles else d.roles.isEmpty && zh d.bins)
theorem fJ {d:DelegsV} (h:xj d=true):(zM d).mayB=true:=by
 unfold xj at h;rw [J5] at h;obtain ⟨m,h⟩:=h;obtain ⟨e,q,f⟩:=oL m;obtain ⟨H,I,J,K,L,M,N,P,v⟩:=jR;obtain ⟨S,T,V,z,A⟩:=zI;obtain ⟨-,⟨E,F,g,u,G⟩,-⟩:=ru;cases hb:xG d.bins
 . rw [hb] at h;simp only [Bool.false_eq_true,if_false,J5] at h;obtain ⟨i,j,k⟩:=tA h.2;have b:jj d=[(zd,xb d.keys),(vf,k9 d.bins)]:=by unfold jj;rw [hb];rfl
   unfold zM;rw [b];refine oR A (by show 2<=6;decide) fun p a=>?_;simp only [V6,V1,za4] at a;rcases a with rfl|rfl
   . exact ⟨g,e,q,f⟩
   . exact ⟨v,i,Z3 j (by decide),Z3 k (by decide)⟩
 . rw [hb] at h;simp only [if_true,J5,J1] at h;obtain ⟨⟨B,l⟩,C⟩:=h;have b:jj d=[(zd,xb d.keys),(kB,xV (d.roles.map q9))]:=by unfold jj;rw [hb];rfl
   have c:∀x ∈ d.roles.map q9,x.partB=true/\x.count<=60/\x.depth<=2:=fun x hx=>by obtain ⟨y,o,rfl⟩:=H7.1 hx;exact sN (X9.1 l y o)
   have r:(xV (d.roles.map q9)).partB=true:=fo fun x hx=>(c x hx).1;have D:(xV (d.roles.map q9)).count<=3841:=(by rw [JV.count_eq];have:=counts_le 60 (d.roles.map q9) fun x hx=>(c x hx).2.1;rw [X7] at this;show 1+JV.counts (d.roles.map q9)<=_;omega);have s:(xV (d.roles.map q9)).depth<=3:=(by rw [JV.depth_eq];have:=kW 2 (d.roles.map q9) fun x hx=>(c x hx).2.2;rw [Z6 (by simp [xV,JV.kind])];show JV.depths (d.roles.map q9)+1<=_;omega);have a:∀p ∈ jj d,qX p.1=true/\p.2.partB=true/\p.2.depth<=3:=by
    rw [b];intro p a;simp only [V6,V1,za4] at a;rcases a with rfl|rfl
    . exact ⟨g,e,f⟩
    . exact ⟨u,r,s⟩
   have w:(zM d).partB=true:=yv ⟨by rw [b];exact z,fun p h=>⟨(a p h).1,(a p h).2.1⟩⟩;have R:(zM d).depth<=4:=vR 3 fun p h=>(a p h).2.2;have Q:(zM d).count<=4000:=(by unfold zM;rw [b,JV.count_eq];show 1+((xb d.keys).count+((xV (d.roles.map q9)).count+0))<=4000;omega);rw [JV.mayB_iff,w,X3 (by omega),X3 (by omega)];rfl
theorem mS (d:DelegsV):kx d=xj d:=by
 unfold kx;change (xj d && (zM d).mayB)=xj d;cases h:xj d
 . rfl
 . rw [fJ h];rfl
structure DelegIn (w:World) (lo hi:Nat) (x:DelegV) (ia pa qa:Option Addr):Prop where
 ids:qy w lo hi ia x.au.ids
 paths:qy w lo hi pa x.paths
 pres:qy w lo hi qa x.pres
theorem DelegIn.carry {w w':World} {lo hi lo' hi':Nat} {x:DelegV} {e pa f:Option Addr} (h:DelegIn w lo hi x e pa f) (a:lo'<=lo) (c:hi<=hi') (d:∀b,lo<=b->b<hi->w'.heap[b]?=w.heap[b]?):DelegIn w' lo' hi' x e pa f :=
 ⟨h.ids.carry a c d,h.paths.carry a c d,h.pres.carry a c d⟩
theorem DelegIn.below {w w':World} {lo hi lo' hi' B:Nat} {x:DelegV} {a pa c:Option Addr} (h:DelegIn w lo hi x a pa c) (f:Below B w w') (g:hi<=B) (d:lo'<=lo) (e:hi<=hi'):DelegIn w' lo' hi' x a pa c :=
 h.carry d e fun b _ hlt=>f.block b (by omega)
def gm (w:World) (lo hi b o:Nat) (x:DelegV):Prop :=
 ∃ia ic pa pc qa qc,w.cell? ⟨b,o,none⟩=some (.string x.name)/\w.cell? ⟨b,o+1,none⟩=some (.int .i64 x.au.thr)/\w.cell? ⟨b,o+2,none⟩=some (.slice ia x.au.ids.length ic)/\w.cell? ⟨b,o+3,none⟩=some (.bool x.term) /\
  w.cell? ⟨b,o+4,none⟩=some (.slice pa x.paths.length pc)/\w.cell? ⟨b,o+5,none⟩=some (.slice qa x.pres.length qc)/\x.au.ids.length<=ic/\x.paths.length<=pc/\x.pres.length<=qc/\DelegIn w lo hi x ia pa qa
theorem gm.carry {w w':World} {lo hi lo' hi' b o:Nat} {x:DelegV} (h:gm w lo hi b o x) (z:lo'<=lo) (A:hi<=hi') (B:lo<=b) (v:b<hi) (y:∀b,lo<=b->b<hi->w'.heap[b]?=w.heap[b]?):gm w' lo' hi' b o x:=by have e:∀o,w'.cell? ⟨b,o,none⟩=w.cell? ⟨b,o,none⟩:=fun o=>G5 (w:=w) (w':=w') (y b B v);obtain ⟨j,k,q,r,s,u,a,c,d,f,g,i,l,m,p,hi⟩:=h;exact ⟨j,k,q,r,s,u,by rw [e];exact a,by rw [e];exact c,by rw [e];exact d,by rw [e];exact f,by rw [e];exact g,by rw [e];exact i,l,m,p,hi.carry z A y⟩
def zm (w:World) (lo hi:Nat) (a:Option Addr) (l:List DelegV):Prop :=
 l=[]\/∃b off,a=some ⟨b,off,none⟩/\lo<=b/\b<hi/\∀i (h:i<l.length),gm w lo hi b (off+i * 6) l[i]
theorem zm.at {w:World} {lo hi:Nat} {a:Option Addr} {l:List DelegV} (h:zm w lo hi a l) (i:Nat) (hi':i<l.length) :
 ∃b off,a=some ⟨b,off,none⟩/\lo<=b/\b<hi/\gm w lo hi b (off+i * 6) l[i]:=by
 rcases h with h|⟨b,off,ha,hb,hb',hr⟩
 . rw [h] at hi';simp at hi'
 . exact ⟨b,off,ha,hb,hb',hr i hi'⟩
theorem zm.carry {w w':World} {lo hi lo' hi':Nat} {a:Option Addr} {l:List DelegV} (h:zm w lo hi a l) (c:lo'<=lo) (d:hi<=hi') (e:∀b,lo<=b->b<hi->w'.heap[b]?=w.heap[b]?):zm w' lo' hi' a l:=by
 rcases h with h|⟨b,off,ha,hb,hb',hr⟩
 . exact .inl h
 . exact .inr ⟨b,off,ha,by omega,by omega,fun i hi=>(hr i hi).carry c d hb hb' e⟩
theorem zm.below {w w':World} {lo hi lo' hi' B:Nat} {a:Option Addr} {l:List DelegV} (h:zm w lo hi a l) (e:Below B w w') (f:hi<=B) (c:lo'<=lo) (d:hi<=hi'):zm w' lo' hi' a l :=
 h.carry c d fun b _ hlt=>e.block b (by omega)
theorem zm.take {w:World} {lo hi:Nat} {a:Option Addr} {l:List DelegV} (h:zm w lo hi a l) (k:Nat):zm w lo hi a (l.take k):=by
 rcases h with h|⟨b,off,ha,hb,hb',hr⟩
 . exact .inl (by rw [h,List.take_nil])
 . refine .inr ⟨b,off,ha,hb,hb',fun i hi=>?_⟩;rw [M3] at hi;rw [List.getElem_take];exact hr i (by omega)
structure DelegsIn (w:World) (lo hi:Nat) (d:DelegsV) (ka ra ba:Option Addr):Prop where
 keys:qJ w lo hi ka d.keys
 roles:zm w lo hi ra d.roles
 bids:qy w lo hi ba d.bins.au.ids
theorem DelegsIn.carry {w w':World} {lo hi lo' hi':Nat} {d:DelegsV} {g i f:Option Addr} (h:DelegsIn w lo hi d g i f) (a:lo'<=lo) (c:hi<=hi') (e:∀b,lo<=b->b<hi->w'.heap[b]?=w.heap[b]?):DelegsIn w' lo' hi' d g i f :=
 ⟨h.keys.carry a c e,h.roles.carry a c e,h.bids.carry a c e⟩
theorem DelegsIn.below {w w':World} {lo hi lo' hi' B:Nat} {d:DelegsV} {c e a:Option Addr} (h:DelegsIn w lo hi d c e a) (i:Below B w w') (j:hi<=B) (f:lo'<=lo) (g:hi<=hi'):DelegsIn w' lo' hi' d c e a :=
 h.carry f g fun b _ hlt=>i.block b (by omega)
structure DelegFits (x:DelegV):Prop where
 name:x.name.size<=4294967296
 au:jH x.au
 paths:x.paths.length<=4294967296/\∀s ∈ x.paths,s.size<=4294967296
 pres:x.pres.length<=4294967296/\∀s ∈ x.pres,s.size<=4294967296
structure DelegsFits (d:DelegsV):Prop where
 len:d.keys.length<=40
 keys:∀k ∈ d.keys,k.1.size<=300/\k.2.size<=300
 many:d.roles.length<=70
 roles:∀x ∈ d.roles,DelegFits x
 bits:-9223372036854775808<=d.bins.bits/\d.bins.bits<=9223372036854775807
 pre:d.bins.pre.size<=300
 au:jH d.bins.au
theorem nB (s:ByteArray) (w:World) :
 Calls Tryz.prog 111 #[.string s] w fun e w'=>e=.returned (.bool (pu s))/\w'=w:=by
 have j:(s.toList == [114,111,111,116])=decide (s=yX):=by rw [<- ba_eq,show yX.toList=[114,111,111,116] from by rw [X4];rfl]
 have k:(s.toList == [115,110,97,112,115,104,111,116])=decide (s=se):=by rw [<- ba_eq,show se.toList=[115,110,97,112,115,104,111,116] from by rw [X4];rfl]
 have l:(s.toList == [116,97,114,103,101,116,115])=decide (s=zS):=by rw [<- ba_eq,show zS.toList=[116,97,114,103,101,116,115] from by rw [X4];rfl]
 have a:=U (show pu s=(decide (s=yX) || (decide (s=se) || decide (s=zS))) by unfold pu;simp only [Bool.decide_or]);obtain ⟨g,c⟩:∃b,b=decide (s=yX):=⟨_,rfl⟩;obtain ⟨h,d⟩:∃b,b=decide (s=se):=⟨_,rfl⟩;obtain ⟨i,f⟩:∃b,b=decide (s=zS):=⟨_,rfl⟩;rw [<- c] at j a;rw [<- d] at k a;rw [<- f] at l a;clear c d f;cases g
 . cases h
   . cases i
     . go_enter Tryz.func111,Tryz.ntmps111;go_wp2;go_ret;exact ⟨qx a.o.symm,rfl⟩
     . go_enter Tryz.func111,Tryz.ntmps111;go_wp2;go_ret;exact ⟨qx a.o.symm,rfl⟩
   . go_enter Tryz.func111,Tryz.ntmps111;go_wp2;go_ret;exact ⟨qx a.o.symm,rfl⟩
 . go_enter Tryz.func111,Tryz.ntmps111;go_wp2;go_ret;exact ⟨qx a.o.symm,rfl⟩
theorem dK {s:ByteArray} (h:s.size<1\/256<s.size):zu s=false:=by unfold zu;rw [X0 (by omega)];rfl
theorem rQ {s:ByteArray} (a:0<s.size) (h:s[0].toNat=47):zu s=false:=by
 unfold zu;rw [w0 s a];have:s[0]=47:=by apply zb5.1;exact h
 rw [this];simp
theorem tT {s:ByteArray} (a:0<s.size) (b:s.size<=256) (h:¬s[0].toNat=47):zu s=gx s:=by unfold zu;rw [w0 s a,X3 (by omega)];have:¬s[0]=47:=fun e=>h (by rw [e];rfl);simp [this]
theorem fK (s:ByteArray) (w:World) (l:s.size<=9223372036854775807) :
 Calls Tryz.prog 69 #[.string s] w fun e w'=>e=.returned (.bool (zu s))/\O5 w w':=by
 by_cases h0:s.size=0
 . have a:=U (dK (s:=s) (by omega));have k:=yB s h0;clear h0;go_enter Tryz.func69,Tryz.ntmps69;go_wp2;go_ret;exact ⟨qx a.o.symm,Z0 _ _⟩
 obtain ⟨j,i⟩:=gW s (by omega);have b:0<s.size:=by omega
 clear h0;by_cases h1:256<s.size
 . have a:=U (dK (s:=s) (by omega));go_enter Tryz.func69,Tryz.ntmps69;go_wp2;go_ret;exact ⟨qx a.o.symm,Z0 _ _⟩
 by_cases h2:s[0].toNat=47
 . have a:=U (rQ b h2);have h:((s[0].toNat:Int) != 47)=false:=by simp;omega
   clear h2;go_enter Tryz.func69,Tryz.ntmps69;go_wp2;go_ret;exact ⟨qx a.o.symm,Z0 _ _⟩
 have h:((s[0].toNat:Int) != 47)=true:=by simp;omega
 have a:=U (tT b (by omega) h2);have c:=U (fun w=>pO s w l);rw [<- a.o] at c;have g:s.size<=256:=by omega
 clear h2 h1;go_enter Tryz.func69,Tryz.ntmps69;go_wp2_with (go_at_call 95;refine (c.o _).mono ?_;rintro e w' ⟨rfl,d⟩;have f:=U d;clear d);go_ret;exact ⟨rfl,f.o⟩
theorem dV (s:ByteArray) (w:World) (d:s.size<=9223372036854775807) :
 Calls Tryz.prog 139 #[.string s] w fun e w'=>e=.returned (.bool (zu s))/\O5 w w':=by
 have c:=U (fun w=>fK s w d);go_enter Tryz.func139,Tryz.ntmps139;go_wp2_with (go_at_call 69;refine (c.o _).mono ?_;rintro e w' ⟨rfl,a⟩;have b:=U a;clear a);go_ret;exact ⟨rfl,b.o⟩
open Go.WideMaps Go.Maps
def zH (o m lo hi:Nat) (v:JV) (an ai:Option Addr) (cn ci:Nat) (st:PS) (w:World):Prop :=
 PickAt o m lo hi v an ai cn ci st w\/(xy o st.err w/\o<w.heap.size/\m=o/\hi=0)
theorem zH.lt {o m lo hi:Nat} {v:JV} {an ai:Option Addr} {cn ci:Nat} {st:PS} {w:World} (h:zH o m lo hi v an ai cn ci st w):o<w.heap.size/\m<w.heap.size/\hi<=w.heap.size:=by
 rcases h with h|⟨-,h2,rfl,rfl⟩
 . exact ⟨qz h.obj,by obtain ⟨D,n,a,_⟩:=h.map;exact a.lt,h.le⟩
 . exact ⟨h2,h2,J0 _⟩
theorem zH.below {o m lo hi:Nat} {v:JV} {an ai:Option Addr} {cn ci:Nat} {st:PS} {w w':World} (h:zH o m lo hi v an ai cn ci st w) (a:O5 w w'):zH o m lo hi v an ai cn ci st w':=by
 rcases h with h|⟨h1,h2,h3,h4⟩
 . exact .inl (h.below a)
 . exact .inr ⟨h1.below a h2,X1 h2 a.size,h3,h4⟩
theorem zH.touch {o m lo hi g:Nat} {v:JV} {an ai:Option Addr} {cn ci:Nat} {st:PS} {w w':World} (h:zH o m lo hi v an ai cn ci st w) (a:Touch (fun b=>b=g) w w') (c:g≠o) (e:g≠m) (d:hi<=g):zH o m lo hi v an ai cn ci st w':=by
 rcases h with h|⟨h1,h2,h3,h4⟩
 . exact .inl (h.touch a c e d)
 . exact .inr ⟨h1.touch a h2 (Ne.symm c),X1 h2 a.size,h3,h4⟩
theorem zH.cells {o m lo hi:Nat} {v:JV} {an ai:Option Addr} {cn ci:Nat} {st:PS} {w:World} (h:zH o m lo hi v an ai cn ci st w):∃k,w.cell? ⟨o,6,none⟩=some (.int .i64 st.err)/\w.cell? ⟨o,0,none⟩=some (.int .u8 k)/\(st.err=0->k=5):=by
 rcases h with h|⟨⟨h1,h2,k,h3⟩,-⟩
 . exact ⟨5,qq h.obj rfl,(qq (j:=0) h.obj rfl).trans (by rw [h.kind];rfl),fun _=>rfl⟩
 . exact ⟨k,h2,h3,fun e=>absurd e h1⟩
theorem QE {o m lo hi:Nat} {v:JV} {an ai:Option Addr} {cn ci:Nat} {st:PS} {w:World} (h:zH o m lo hi v an ai cn ci st w) :
 Calls Tryz.prog 61 #[.pointer (some ⟨o,0,none⟩)] w fun e w'=>e=.returned (.int .i64 st.err)/\w=w':=by
 obtain ⟨k,a,b,c⟩:=h.cells;exact zx o st.err k w a b c
def wC (o m lo hi:Nat) (v:JV) (an ai:Option Addr) (cn ci:Nat) (st:PS) (w w':World):Prop :=
 zH o m lo hi v an ai cn ci st w'/\Touch (fun b=>b=o\/b=m) w w'
theorem mA {v:JV} {y:ByteArray} {st:PS} (h:st.err≠0):qw v y st=(⟨#[]⟩,st):=by unfold qw;rw [J3 h]
theorem dW {v:JV} {y:ByteArray} {l h:Int} {st:PS} (a:st.err≠0):qG v y l h st=(0,st):=by unfold qG;rw [J3 a]
theorem dY {v:JV} {y:ByteArray} {a:Nat} {st:PS} (h:st.err≠0):qf v y a st=(zeroJ,st):=by unfold qf;rw [J3 h]
theorem tI {st:PS} {e:Int} (h:st.err≠0):st.fail e=st:=by unfold PS.fail;rw [Z6 h]
theorem dG {o m lo hi:Nat} {v:JV} {an ai:Option Addr} {cn ci:Nat} {st:PS} {w:World} (y:ByteArray) (h:zH o m lo hi v an ai cn ci st w) (b:y.size<=4294967296) (a:st.asked.length<=4294967296) :
 Calls Tryz.prog 26 #[.pointer (some ⟨o,0,none⟩),.string y] w fun e w'=>e=.returned (.string (qw v y st).1)/\wC o m lo hi v an ai cn ci (qw v y st).2 w w':=by
 rcases h with h|⟨h1,h2,h3,h4⟩
 . exact (gT o m lo hi v an ai cn ci y st w h b a).mono fun e w' ⟨e1,e2,e3⟩=>⟨e1,.inl e2,e3⟩
 . refine (mV o st.err y w h1).mono fun e w' ⟨e1,e2⟩=>?_;subst e2;rw [mA h1.1];exact ⟨e1,.inr ⟨h1,h2,h3,h4⟩,Touch.refl _ _⟩
theorem sS {o m lo hi:Nat} {v:JV} {an ai:Option Addr} {cn ci:Nat} {st:PS} {w:World} (y:ByteArray) (l u:Int) (h:zH o m lo hi v an ai cn ci st w) (c:y.size<=4294967296) (b:st.asked.length<=4294967296) :
 Calls Tryz.prog 28 #[.pointer (some ⟨o,0,none⟩),.string y,.int .i64 l,.int .i64 u] w fun e w'=>e=.returned (.int .i64 (qG v y l u st).1)/\wC o m lo hi v an ai cn ci (qG v y l u st).2 w w':=by
 have a:=h.lt;rcases h with h|⟨h1,h2,h3,h4⟩
 . exact (tY o m lo hi v an ai cn ci y l u st w h c b a.2.1 a.1).mono fun e w' ⟨e1,e2,e3⟩=>⟨e1,.inl e2,e3⟩
 . refine (Qw o st.err y l u w h1 h2).mono fun e w' ⟨e1,e2⟩=>?_;rw [dW h1.1];exact ⟨e1,.inr ⟨h1.below e2 h2,X1 h2 e2.size,h3,h4⟩,Touch.of_below e2 lz⟩
def mT (v:JV) (y:ByteArray) (most:Nat) (st:PS) (w:World) (e:Ending) (w':World):Prop :=
 ∃an' cn' ai' ci',e=.returned (.agg #[.int .u8 (qf v y most st).1.kind,.int .i64 (qf v y most st).1.n,.string (qf v y most st).1.t,.slice an' (qf v y most st).1.names.length cn',.slice ai' (qf v y most st).1.items.length ci'])/\Rep w' w.heap.size w'.heap.size (qf v y most st).1 (.agg #[.int .u8 (qf v y most st).1.kind,.int .i64 (qf v y most st).1.n,.string (qf v y most st).1.t,.slice an' (qf v y most st).1.names.length cn',.slice ai' (qf v y most st).1.items.length ci'])
theorem fV {o m lo hi:Nat} {v:JV} {an ai:Option Addr} {cn ci:Nat} {st:PS} {w:World} (y:ByteArray) (f:Nat) (h:zH o m lo hi v an ai cn ci st w) (i:y.size<=4294967296) (g:st.asked.length<=4294967296) :
 Calls Tryz.prog 31 #[.pointer (some ⟨o,0,none⟩),.string y,.int .i64 f] w fun e w'=>mT v y f st w e w'/\wC o m lo hi v an ai cn ci (qf v y f st).2 w w':=by
 rcases h with h|⟨h1,h2,h3,h4⟩
 . exact (tG o m lo hi v an ai cn ci y f st w h i g).mono fun e w' ⟨⟨a,b,c,d,e1,e2⟩,e3,e4⟩=>⟨⟨a,b,c,d,e1,e2⟩,.inl e3,e4⟩
 . refine (Qy o st.err y f w h1 h2).mono fun e w' ⟨e1,e2⟩=>?_;unfold mT;rw [dY h1.1];exact ⟨⟨none,0,none,0,e1,yP _ _ _⟩,.inr ⟨h1.below e2 h2,X1 h2 e2.size,h3,h4⟩,Touch.of_below e2 lz⟩
theorem vz {o m lo hi:Nat} {v:JV} {an ai:Option Addr} {cn ci:Nat} {st:PS} {w:World} (e:Int) (h:zH o m lo hi v an ai cn ci st w) :
 Calls Tryz.prog 27 #[.pointer (some ⟨o,0,none⟩),.int .i64 e] w fun r w'=>r=.returned (.tuple #[])/\wC o m lo hi v an ai cn ci (st.fail e) w w':=by
 rcases h with h|⟨h1,h2,h3,h4⟩
 . exact (sP o m lo hi v an ai cn ci e st w h).mono fun r w' ⟨e1,e2,e3⟩=>⟨e1,.inl e2,e3⟩
 . refine (oP o st.err e w h1).mono fun r w' ⟨e1,e2⟩=>?_;subst e2;rw [tI h1.1];exact ⟨e1,.inr ⟨h1,h2,h3,h4⟩,Touch.refl _ _⟩
theorem yJ {o m lo hi:Nat} {v:JV} {an ai:Option Addr} {cn ci:Nat} {st:PS} {w:World} (h:zH o m lo hi v an ai cn ci st w) (c:v.wt<=4294967296) :
 Calls Tryz.prog 34 #[.pointer (some ⟨o,0,none⟩)] w fun e w'=>e=.returned (.int .i64 (qb v st))/\w=w':=by
 rcases h with h|⟨⟨a,c6,k,c0⟩,b⟩
 . exact uJ o m lo hi v an ai cn ci st w h (fun i hi=>by have a:=jI v.names i hi;have b:=v.wt_eq;omega)
 . refine (mW o st.err k w a c6 c0).mono fun e w' ⟨e1,e2⟩=>⟨?_,e2⟩
   rw [e1];unfold qb;rw [J3 a]
def st0 (v:JV):PS:=if v.kind=5 then ⟨[],0⟩ else ⟨[],10⟩
def vS (C:JV->Prop) (st:PS) (w:World) (e:Ending) (w':World):Prop :=
 ∃u o m lo hi an ai cn ci,C u/\u.wt<=4294967296/\e=.returned (.pointer (some ⟨o,0,none⟩))/\zH o m lo hi u an ai cn ci st w'/\w.heap.size<=o/\w.heap.size<=m/\O5 w w'
def zC (v u:JV):Prop:=u=if v.kind=5 then v else zeroJ
theorem tO:zeroJ.wt<=4294967296:=by rw [JV.wt_eq];decide
theorem Qu {v:JV} {x:Value} {w:World} {lo hi:Nat} {C:JV->Prop} (m:Rep w lo hi v x) (k:v.kind≠5) (l:C zeroJ):Calls Tryz.prog 25 #[x] w (vS C (st0 v) w):=by obtain ⟨h,j,g,i,rfl,-⟩:=m.parts;refine (p9 v.kind v.n v.t _ _ w k).mono ?_;rintro e w' ⟨o,b,a,c,d,f⟩;refine ⟨zeroJ,o,o,0,0,none,none,0,0,l,tO,b,?_,a,a,f⟩;unfold st0;rw [Z6 k];exact .inr ⟨d,c,rfl,rfl⟩
theorem dB {v:JV} {x:Value} {w:World} {lo hi:Nat} (r:v.wt<=4294967296) (q:0<lo) (p:hi<=w.heap.size) (s:Rep w lo hi v x) (u:v.kind=5->qd v.names=true/\v.names.length=v.items.length):Calls Tryz.prog 25 #[x] w (vS (zC v) (st0 v) w):=by
 by_cases hk:v.kind=5
 . refine (bP v x w lo hi r p s hk (u hk).1 (u hk).2 (fun _ _=>.inl q)).mono ?_;rintro e w' ⟨o,m,b,a,d,c,g,f,h,i,j,k,l⟩;refine ⟨v,o,m,b,a,d,c,g,f,?_,r,h,?_,j,k,l⟩
   . unfold zC;rw [J3 hk]
   . unfold st0;rw [J3 hk];exact .inl i
 . exact Qu s hk (by unfold zC;rw [Z6 hk])
