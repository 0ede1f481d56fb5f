import Derived.Test.YthgembbgcbaghaaGreatDoorDg25
import Derived.Test.YthgembbgcbaghaaGreatDoorDg19
import Derived.Test.YthgembbgcbaghaaGreatDoorDg32
set_option maxHeartbeats 4000000
set_option maxRecDepth 100000

namespace Go.Proofs.YthgembbgcbaghaaGreatDoor
open Go.RowKit Go.Shelf Go.Sort
theorem xR {v:JV} {y:ByteArray} {k:Nat} {st:PS}:(qw v y k st).1.length<=k/\(∀s ∈ (qw v y k st).1,s.size<=v.wt)/\(qw v y k st).2.asked.length<=st.asked.length+1:=by
 unfold qw;split
 . exact ⟨X7 _,fun s hs=>(by cases hs),zd2 _⟩
 . split
   . exact ⟨X7 _,fun s hs=>(by cases hs),zd2 _⟩
   . rename_i it hit;split
     . exact ⟨X7 _,fun s hs=>(by cases hs),zd2 _⟩
     . split
       . exact ⟨X7 _,fun s hs=>(by cases hs),zd2 _⟩
       . split
         . rename_i h _;refine ⟨by rw [X9];omega,fun s hs=>?_,by simp⟩;obtain ⟨x,b,rfl⟩:=za8.1 hs;obtain ⟨i,hi,rfl⟩:=V4 b;have c:=JV.wts_get it.items i hi;have d:=it.wt_bd;have e:=it.items[i].wt_bd;obtain ⟨j,a,rfl⟩:=V4 (vd hit).2;have f:=JV.wts_get v.items j a;have g:=v.wt_bd;omega
         . exact ⟨X7 _,fun s hs=>(by cases hs),zd2 _⟩
def wL (o m lo hi:Nat) (v:JV) (an ai:Option Addr) (cn ci:Nat) (r:AuthV × PS) (w:World) (e:Ending) (w':World):Prop :=
 (∃ia ic,e=.returned (.agg #[.int .i64 r.1.thr,.slice ia r.1.ids.length ic])/\r.1.ids.length<=ic/\qv w' w.heap.size w'.heap.size ia r.1.ids)/\wU o m lo hi v an ai cn ci r.2 w w'
theorem lF {o m lo hi:Nat} {v:JV} {an ai:Option Addr} {cn ci:Nat} {st:PS} {w:World} (h:zE o m lo hi v an ai cn ci st w) (hv:v.wt<=4294967296) (ha:st.asked.length<=4294967000) :
 Calls Tryz.prog 122 #[.pointer (some ⟨o,0,none⟩)] w (wL o m lo hi v an ai cn ci (kS v st) w):=by
 have b1:=h.lt;obtain ⟨W,hW⟩:=O1 (w.alloc (.cells #[.int .i64 0,.slice none 0 0] 31));have hb:=O7 hW
 have b9:W.rowIs w.heap.size 31 2 (kV (.int .i64 0) (.slice none 0 0)):=by rw [hW];exact vW w _ _ _
 have HT:=U (nQ qy 16 (h.below hb) (by decide) (by omega));have k:=U (@xR v qy 16 st);have y:=O0 (kS v st=(if (qA v thrN 1 ((qw v qy 16 st).1.length:Int) (kN v st)).2.err≠0 then authZ else ⟨(qA v thrN 1 ((qw v qy 16 st).1.length:Int) (kN v st)).1,(qw v qy 16 st).1⟩,(qA v thrN 1 ((qw v qy 16 st).1.length:Int) (kN v st)).2)) rfl;have A:=O0 (kN v st=(if (qw v qy 16 st).1=[] then (qw v qy 16 st).2.fail 4 else (qw v qy 16 st).2).fail (qS [] (qw v qy 16 st).1)) rfl;obtain ⟨K,hK⟩:=O1 (kS v st);rw [<- hK] at y ⊢;obtain ⟨R,hR⟩:=O1 (qw v qy 16 st);rw [<- hR] at HT k y A;obtain ⟨S3,c0⟩:=O1 (kN v st);rw [<- c0] at y A;have HB:=U hb;have c6:=U b9;have HW:=U hW;have d:=O0 (o<w.heap.size/\m<w.heap.size/\hi<=w.heap.size/\w.heap.size<W.heap.size) (⟨b1.1,b1.2.1,b1.2.2,b9.lt⟩);have HA:=U ha;have HV:=U hv;clear h b1 hb b9 hW hK hR c0 ha hv;obtain ⟨L,S1⟩:=R;dsimp only at HT k y A;go_enter Tryz.func122,Tryz.ntmps122;go_upto_region 1 with fail
 rw [<- HW.o];clear HW;go_wp2_with fail;refine HT.o.mono ?_;clear HT;rintro r w1 ⟨⟨E,c1,rfl,b4,c4⟩,c2,b2⟩;have b3:=O0 (L.length<=c1) b4;clear b4;have a8:=O0 (qv w1 W.heap.size w1.heap.size E L) c4;have a6:=U c2;have a9:=U b2;have a7:=U (b2.row c6.o (by have:=d.o;omega));have b0:=U b2.size;clear c4 c2 b2;by_cases hL:L=[]
 . have c9:((L.length:Int) == 0)=true:=by rw [hL];rfl
   rw [J8 hL] at A;clear hL;go_wp2_with fail;refine (mo 4 a6.o).mono ?_;rintro r w2 ⟨rfl,c3,H⟩;have l:=U c3;have F:=U (a9.o.trans (H.mono fun _ _ h=>h));have q:=U (H.row a7.o (by have:=d.o;omega));have u:=O0 (qv w2 W.heap.size w2.heap.size E L) (a8.o.carry lz H.size (fun b h1 h2=>H.block b h2 (by have:=d.o;omega)));have G:=U (J1 b0.o H.size);clear c3 H a6 a9 a7 a8 b0;generalize a4:S1.fail 4=S2 at l A;have a5:=U (show S2.asked.length<=st.asked.length+1 by rw [<- a4,vm];exact k.o.2.2);clear a4;have B:=U (bV L E c1 w2 (u.o.carry (X7 _) lz (fun _ _ _=>rfl)) (by have:=k.o.1;omega) (fun s hs=>J1 (k.o.2.1 s hs) HV.o));obtain ⟨ie,a2⟩:=O1 (qS [] L);rw [<- a2] at B A;clear a2;go_wp2_with fail;refine B.o.mono ?_;clear B;rintro r w3 ⟨rfl,c⟩;have I:=U (l.o.below c);have M:=U (qj c q.o q.o.lt);have V:=U (F.o.trans (Touch.of_below c lz));have S:=O0 (qv w3 W.heap.size w3.heap.size E L) (u.o.below c lz lz c.size);have Z:=U (J1 G.o c.size);clear c l q F u G;go_wp2_with fail;refine (mo ie I.o).mono ?_;rintro r w4 ⟨rfl,C,f⟩;rw [<- A.o] at C;have b5:=U (show S3.asked.length<=st.asked.length+1 by rw [A.o,vm];exact a5.o);have J:=U C;have P:=U (f.row M.o (by have:=d.o;omega));have X:=U (V.o.trans (f.mono fun _ _ h=>h));have T:=O0 (qv w4 W.heap.size w4.heap.size E L) (S.o.carry lz f.size (fun b h1 h2=>f.block b h2 (by have:=d.o;omega)));have a0:=U (J1 Z.o f.size);clear C f I M V S Z A;have j:=U (Zr thrN 1 (L.length:Int) J.o (by decide) (by have:=b5.o;have:=HA.o;omega));obtain ⟨N,hN⟩:=O1 (qA v thrN 1 (L.length:Int) S3);rw [<- hN] at j y;clear hN;obtain ⟨nn,S4⟩:=N;dsimp only at j y;go_wp2_with fail;refine j.o.mono ?_;clear j;rintro r D ⟨rfl,a3,g⟩;have z:=U a3;have e:=g.row P.o (by have:=d.o;omega);have Q:=U e;have b7:=U (X.o.trans (g.mono fun _ _ h=>h));have b6:=O0 (qv D W.heap.size D.heap.size E L) (T.o.carry lz g.size (fun b h1 h2=>g.block b h2 (by have:=d.o;omega)));have c7:=U (J1 a0.o g.size);clear a3 g J P X T a0;go_wp2_with fail;refine (ZE z.o).mono ?_;rintro r w6 ⟨rfl,h6⟩;subst h6;have t0:=e.cell (i:=0) (by decide);have t1:=e.cell (i:=1) (by decide);have s0:=e.frozen 0;have s1:=e.frozen 1;simp only [kV] at t0 t1;clear e;have Y:=O0 (Touch (fun b=>b=o\/b=m) w D) ((Touch.of_below HB.o lz).trans b7.o);by_cases he:S4.err=0
   . have e1:(S4.err != 0)=false:=by simpa using he
     rw [J3 (by simp [he])] at y;clear he;go_wp2;refine X4 (Y7 Tryz.results122 _ _ w.heap.size 31 _ (0,0) _ rfl (z7 (set2 _ _ Q.o)) zd7 rfl (by kernel_rfl)) rfl ?_;unfold wL;rw [y.o];have a:Touch (fun b=>b=w.heap.size) D ((D.setCell ⟨w.heap.size,0,none⟩ (.int .i64 nn)).setCell ⟨w.heap.size,1,none⟩ (.slice E L.length c1)):=(qD _).trans (qD _);refine ⟨⟨E,c1,rfl,b3.o,?_⟩,z.o.touch a (by have:=d.o;omega) (by have:=d.o;omega) d.o.2.2.1,?_⟩
     . refine b6.o.carry (by have:=d.o;omega) a.size (fun b h1 h2=>a.block b h2 (by have:=d.o;omega))
     . exact ((Y.o.setCell (p:=⟨w.heap.size,0,none⟩) (.inr lz) _).setCell (p:=⟨w.heap.size,1,none⟩) (.inr lz) _)
   . have e1:(S4.err != 0)=true:=by simpa using he
     rw [J8 he] at y;clear he;go_wp2;refine X4 (Y7 Tryz.results122 _ _ w.heap.size 31 _ (0,0) _ rfl (z7 (set2 _ _ Q.o)) zd7 rfl (by kernel_rfl)) rfl ?_;unfold wL;rw [y.o];have a:Touch (fun b=>b=w.heap.size) D ((D.setCell ⟨w.heap.size,0,none⟩ (.int .i64 0)).setCell ⟨w.heap.size,1,none⟩ (.slice none 0 0)):=(qD _).trans (qD _);refine ⟨⟨none,0,rfl,J9 _,.inl rfl⟩,z.o.touch a (by have:=d.o;omega) (by have:=d.o;omega) d.o.2.2.1,?_⟩;exact ((Y.o.setCell (p:=⟨w.heap.size,0,none⟩) (.inr lz) _).setCell (p:=⟨w.heap.size,1,none⟩) (.inr lz) _)
 . have c9:((L.length:Int) == 0)=false:=by
    cases L with
    | nil=>exact absurd rfl hL
    | cons x r=>simp;omega
   rw [J3 hL] at A;clear hL;have a5:=O0 (S1.asked.length<=st.asked.length+1) k.o.2.2;have l:=U a6.o;have F:=U a9.o;have q:=U a7.o;have u:=U a8.o;have G:=U b0.o;clear a6 a9 a7 a8 b0;obtain ⟨w2,c5⟩:=O1 w1;obtain ⟨S2,a4⟩:=O1 S1;rw [<- c5] at l F q u G ⊢;rw [<- a4] at l a5 A;clear c5 a4;have B:=U (bV L E c1 w2 (u.o.carry (X7 _) lz (fun _ _ _=>rfl)) (by have:=k.o.1;omega) (fun s hs=>J1 (k.o.2.1 s hs) HV.o));obtain ⟨ie,a2⟩:=O1 (qS [] L);rw [<- a2] at B A;clear a2;go_wp2_with fail;refine B.o.mono ?_;clear B;rintro r w3 ⟨rfl,c⟩;have I:=U (l.o.below c);have M:=U (qj c q.o q.o.lt);have V:=U (F.o.trans (Touch.of_below c lz));have S:=O0 (qv w3 W.heap.size w3.heap.size E L) (u.o.below c lz lz c.size);have Z:=U (J1 G.o c.size);clear c l q F u G;go_wp2_with fail;refine (mo ie I.o).mono ?_;rintro r w4 ⟨rfl,C,f⟩;rw [<- A.o] at C;have b5:=U (show S3.asked.length<=st.asked.length+1 by rw [A.o,vm];exact a5.o);have J:=U C;have P:=U (f.row M.o (by have:=d.o;omega));have X:=U (V.o.trans (f.mono fun _ _ h=>h));have T:=O0 (qv w4 W.heap.size w4.heap.size E L) (S.o.carry lz f.size (fun b h1 h2=>f.block b h2 (by have:=d.o;omega)));have a0:=U (J1 Z.o f.size);clear C f I M V S Z A;have j:=U (Zr thrN 1 (L.length:Int) J.o (by decide) (by have:=b5.o;have:=HA.o;omega));obtain ⟨N,hN⟩:=O1 (qA v thrN 1 (L.length:Int) S3);rw [<- hN] at j y;clear hN;obtain ⟨nn,S4⟩:=N;dsimp only at j y;go_wp2_with fail;refine j.o.mono ?_;clear j;rintro r D ⟨rfl,a3,g⟩;have z:=U a3;have e:=g.row P.o (by have:=d.o;omega);have Q:=U e;have b7:=U (X.o.trans (g.mono fun _ _ h=>h));have b6:=O0 (qv D W.heap.size D.heap.size E L) (T.o.carry lz g.size (fun b h1 h2=>g.block b h2 (by have:=d.o;omega)));have c7:=U (J1 a0.o g.size);clear a3 g J P X T a0;go_wp2_with fail;refine (ZE z.o).mono ?_;rintro r w6 ⟨rfl,h6⟩;subst h6;have t0:=e.cell (i:=0) (by decide);have t1:=e.cell (i:=1) (by decide);have s0:=e.frozen 0;have s1:=e.frozen 1;simp only [kV] at t0 t1;clear e;have Y:=O0 (Touch (fun b=>b=o\/b=m) w D) ((Touch.of_below HB.o lz).trans b7.o);by_cases he:S4.err=0
   . have e1:(S4.err != 0)=false:=by simpa using he
     rw [J3 (by simp [he])] at y;clear he;go_wp2;refine X4 (Y7 Tryz.results122 _ _ w.heap.size 31 _ (0,0) _ rfl (z7 (set2 _ _ Q.o)) zd7 rfl (by kernel_rfl)) rfl ?_;unfold wL;rw [y.o];have a:Touch (fun b=>b=w.heap.size) D ((D.setCell ⟨w.heap.size,0,none⟩ (.int .i64 nn)).setCell ⟨w.heap.size,1,none⟩ (.slice E L.length c1)):=(qD _).trans (qD _);refine ⟨⟨E,c1,rfl,b3.o,?_⟩,z.o.touch a (by have:=d.o;omega) (by have:=d.o;omega) d.o.2.2.1,?_⟩
     . refine b6.o.carry (by have:=d.o;omega) a.size (fun b h1 h2=>a.block b h2 (by have:=d.o;omega))
     . exact ((Y.o.setCell (p:=⟨w.heap.size,0,none⟩) (.inr lz) _).setCell (p:=⟨w.heap.size,1,none⟩) (.inr lz) _)
   . have e1:(S4.err != 0)=true:=by simpa using he
     rw [J8 he] at y;clear he;go_wp2;refine X4 (Y7 Tryz.results122 _ _ w.heap.size 31 _ (0,0) _ rfl (z7 (set2 _ _ Q.o)) zd7 rfl (by kernel_rfl)) rfl ?_;unfold wL;rw [y.o];have a:Touch (fun b=>b=w.heap.size) D ((D.setCell ⟨w.heap.size,0,none⟩ (.int .i64 0)).setCell ⟨w.heap.size,1,none⟩ (.slice none 0 0)):=(qD _).trans (qD _);refine ⟨⟨none,0,rfl,J9 _,.inl rfl⟩,z.o.touch a (by have:=d.o;omega) (by have:=d.o;omega) d.o.2.2.1,?_⟩;exact ((Y.o.setCell (p:=⟨w.heap.size,0,none⟩) (.inr lz) _).setCell (p:=⟨w.heap.size,1,none⟩) (.inr lz) _)
theorem mB {v:JV} {y:ByteArray} {st:PS}:(qm v y st).1.size<=v.wt:=by
 unfold qm;split
 . exact X7 _
 . split
   . exact X7 _
   . rename_i it hit;split
     . have b:=it.wt_bd;obtain ⟨j,a,rfl⟩:=V4 (vd hit).2;have c:=JV.wts_get v.items j a;have d:=v.wt_bd;show v.items[j].t.size<=v.wt;omega
     . exact X7 _
theorem lH {v:JV} {y:ByteArray} {l h:Int} {st:PS} (a:l<=h) (b:0<=l):0<=(qA v y l h st).1/\(qA v y l h st).1<=h:=by
 unfold qA;split
 . exact ⟨Int.le_refl _,by show (0:Int)<=h;omega⟩
 . split
   . exact ⟨Int.le_refl _,by show (0:Int)<=h;omega⟩
   . split
     . exact ⟨Int.le_refl _,by show (0:Int)<=h;omega⟩
     . split
       . exact ⟨Int.le_refl _,by show (0:Int)<=h;omega⟩
       . rename_i it _ _ h1;show 0<=it.n/\it.n<=h;omega
theorem ZJ {v:JV} {y:ByteArray} {a:Nat} {st:PS}:(qQ v y a st).2.asked.length<=st.asked.length+1:=by
 unfold qQ;split
 . exact zd2 _
 . split
   . exact zd2 _
   . split
     . exact zd2 _
     . split
       . exact zd2 _
       . simp
theorem el {v:JV} {y:ByteArray} {st:PS}:(qI v y st).2.asked.length<=st.asked.length+1:=by
 unfold qI;split
 . exact zd2 _
 . split
   . exact zd2 _
   . split
     . exact zd2 _
     . simp
theorem lU {v:JV} {st:PS}:(kS v st).2.asked.length<=st.asked.length+2:=by
 have a:=(@xR v qy 16 st).2.2;have b:(kN v st).asked.length<=st.asked.length+1:=by
  unfold kN;rw [vm];split
  . rw [vm];exact a
  . exact a
 have c:=@dH v thrN 1 ((qw v qy 16 st).1.length:Int) (kN v st);show (wh v st).2.asked.length<=_;unfold wh;omega
theorem mP {v:JV} {st:PS} (d:v.wt<=4294967296):jw (kS v st).1:=by
 unfold kS;split
 . show jw authZ;exact ⟨⟨by decide,by decide⟩,by decide,fun s hs=>(by cases hs)⟩
 . have a:=@xR v qy 16 st;have b:(wh v st).1<=16/\0<=(wh v st).1:=by
    unfold wh;by_cases h:(qw v qy 16 st).1=[]
    . have:(kN v st).err≠0:=by
       unfold kN;rw [J8 h,h];generalize (qw v qy 16 st).2=q;unfold PS.fail;by_cases hq:q.err=0
       . simp [hq]
       . simp [hq]
      unfold qA;rw [J8 this];show (0:Int)<=16/\(0:Int)<=0;exact ⟨by decide,by decide⟩
    . have c:0<(qw v qy 16 st).1.length:=zd0.2 h;have:=@lH v thrN 1 ((qw v qy 16 st).1.length:Int) (kN v st) (by omega) (by omega);omega
   exact ⟨⟨by show -9223372036854775808<=(wh v st).1;omega,by show (wh v st).1<=9223372036854775807;omega⟩,by show (qw v qy 16 st).1.length<=_;omega,fun s hs=>J1 (a.2.1 s hs) d⟩
def rgN (u:JV) (st:PS):ByteArray × PS:=qm u zx st
def rgA (u:JV) (st:PS):AuthV × PS:=kS u (rgN u st).2
def rgT (u:JV) (st:PS):Bool × PS:=qI u trmN (rgA u st).2
def rgP (u:JV) (st:PS):(List ByteArray × List ByteArray) × PS:=if q9 u zC (rgT u st).2 then (([],(qw u zC 32 (rgT u st).2).1),(qw u zC 32 (rgT u st).2).2) else (((qw u xd 32 (rgT u st).2).1,[]),(qw u xd 32 (rgT u st).2).2)
def rgX (u:JV) (st:PS):DelegV:=⟨(rgN u st).1,(rgA u st).1,(rgT u st).1,(rgP u st).1.1,(rgP u st).1.2⟩
def sI (u:JV) (st:PS):DelegV × Int:=if qd u (rgP u st).2≠0 then (vq,qd u (rgP u st).2) else if qi (rgX u st) then (rgX u st,0) else (vq,3)
theorem tX {v:JV} (h:v.kind=5):sI v ⟨[],0⟩=zI v:=by unfold zI;rw [J3 (by simp [h])];rfl
theorem tJ:sI zJ ⟨[],10⟩=(vq,10):=by decide +kernel
theorem ZK {u:JV} {st:PS} (h:st.asked.length<=1000):(rgN u st).2.asked.length<=1001/\(rgA u st).2.asked.length<=1003/\(rgT u st).2.asked.length<=1004:=by
 have c:=@om u zx st;have d:=@lU u (rgN u st).2;have e:=@el u trmN (rgA u st).2;have a:(rgN u st).2.asked.length<=1001:=by unfold rgN;omega
 have b:(rgA u st).2.asked.length<=1003:=by unfold rgA;omega
 exact ⟨a,b,by unfold rgT;omega⟩
def bgA (u:JV) (st:PS):AuthV × PS:=kS u st
def bgB (u:JV) (st:PS):Int × PS:=qA u ji 1 32 (bgA u st).2
def bgP (u:JV) (st:PS):ByteArray × PS:=qm u jY (bgB u st).2
def sO (u:JV) (st:PS):BinsV × Int:=if qd u (bgP u st).2≠0 then (jW,qd u (bgP u st).2) else if q6 ⟨(bgB u st).1,(bgP u st).1,(bgA u st).1⟩ then (⟨(bgB u st).1,(bgP u st).1,(bgA u st).1⟩,0) else (jW,3)
theorem tK {v:JV} (h:v.kind=5):sO v ⟨[],0⟩=xG v:=by unfold xG;rw [J3 (by simp [h])];rfl
theorem tV:sO zJ ⟨[],10⟩=(jW,10):=by decide +kernel
theorem ZV {u:JV} {st:PS} (h:st.asked.length<=1000):(bgA u st).2.asked.length<=1002/\(bgB u st).2.asked.length<=1003:=by
 have b:=@lU u st;have c:=@dH u ji 1 32 (bgA u st).2;have a:(bgA u st).2.asked.length<=1002:=by unfold bgA;omega
 exact ⟨a,by unfold bgB;omega⟩
def vO (r:DelegV × Int) (w:World) (e:Ending) (w':World):Prop :=
 ∃ia ic pa pc qa qc,e=.returned (.tuple #[.agg #[.string r.1.name,.int .i64 r.1.au.thr,.slice ia r.1.au.ids.length ic,.bool r.1.term,.slice pa r.1.paths.length pc,.slice qa r.1.pres.length qc],.int .i64 r.2])/\(r.1.au.ids.length<=ic/\r.1.paths.length<=pc/\r.1.pres.length<=qc)/\DelegIn w' w.heap.size w'.heap.size r.1 ia pa qa/\O5 w w'
theorem kO {a:Int} {w w':World} (b:O5 w w'):vO (vq,a) w (.returned (.tuple #[.agg #[.string ⟨#[]⟩,.int .i64 0,.slice none 0 0,.bool false,.slice none 0 0,.slice none 0 0],.int .i64 a])) w' :=
 ⟨none,0,none,0,none,0,rfl,⟨J9 _,J9 _,J9 _⟩,⟨.inl rfl,.inl rfl,.inl rfl⟩,b⟩
theorem cN (C:JV->Prop) (st:PS) (v:JV) (x:Value) (w:World) (hR:Rep w 0 w.heap.size v x) (ha:st.asked.length<=1000)
 (h1:∀w1,O5 w w1->Calls Tryz.prog 60 #[x] w1 (gW C st w1)) :
 Calls Tryz.prog 125 #[x] w (fun e w'=>∃u,C u/\vO (sI u st) w e w'):=by
 obtain ⟨an,cn,ai,ci,hx,V,I,h3,h4⟩:=hR.parts;clear V I h3 h4;subst hx;obtain ⟨W,hW⟩:=O1 ((w.alloc (.cells #[.int .u8 v.kind,.int .i64 v.n,.string v.t,.slice an v.names.length cn,.slice ai v.items.length ci] 25)).alloc (.cells #[.string ⟨#[]⟩,.int .i64 0,.slice none 0 0,.bool false,.slice none 0 0,.slice none 0 0] 41));have g6:(w.alloc (.cells #[.int .u8 v.kind,.int .i64 v.n,.string v.t,.slice an v.names.length cn,.slice ai v.items.length ci] 25)).heap.size=w.heap.size+1:=by simp
 have hb:O5 w W:=by rw [hW];exact (O4).alloc (by simp) _
 have g5:W.heap[w.heap.size]?=some (.cells #[.int .u8 v.kind,.int .i64 v.n,.string v.t,.slice an v.names.length cn,.slice ai v.items.length ci] 25 (0,0)):=by rw [hW];exact zG w _ _
 have d3:W.rowIs (w.heap.size+1) 41 6 (qX (.string ⟨#[]⟩) (.int .i64 0) (.slice none 0 0) (.bool false) (.slice none 0 0) (.slice none 0 0)):=(by have:=xH (w.alloc (.cells #[.int .u8 v.kind,.int .i64 v.n,.string v.t,.slice an v.names.length cn,.slice ai v.items.length ci] 25)) (.string ⟨#[]⟩) (.int .i64 0) (.slice none 0 0) (.bool false) (.slice none 0 0) (.slice none 0 0) 41;rw [g6,<- hW] at this;exact this);have d6:=U (h1 W hb);have l:=U hb;have f6:=U g5;have c7:=U d3;have HW:=U hW;have HA:=U ha;have f7:=O0 (w.heap.size+2<=W.heap.size) d3.lt;clear h1 hW g6 hb g5 d3 hR ha;obtain ⟨c0,c1,c2,c3,c4⟩:=bx5 f6.o;go_enter Tryz.func125,Tryz.ntmps125;go_upto_region 1 with fail
 rw [<- HW.o];clear HW;go_wp2_with fail;refine d6.o.mono ?_;clear d6 c0 c1 c2 c3 c4;rintro e w2 ⟨u,o,m,lo,hi,h6,h5,h8,h7,hC,hu,rfl,c9,g9,g8,X⟩;have HC:=U hC;have HU:=U hu;have g7:=c9.lt;obtain ⟨p,d0⟩:=O1 w2.heap.size;obtain ⟨S,b3⟩:=O1 (w2.alloc (.cells #[.string ⟨#[]⟩,.int .i64 0,.slice none 0 0,.bool false,.slice none 0 0,.slice none 0 0] 41));have a6:=O7 b3
 have d2:S.rowIs p 41 6 (qX (.string ⟨#[]⟩) (.int .i64 0) (.slice none 0 0) (.bool false) (.slice none 0 0) (.slice none 0 0)):=by rw [b3,d0];exact xH _ _ _ _ _ _ _ _
 have g:=U (show p≠o/\p≠m/\hi<=p/\w.heap.size+2<=o/\w.heap.size+2<=m/\w.heap.size+2<=p/\p<S.heap.size/\o<S.heap.size/\m<S.heap.size from by
  have V:=X.size;have I:=d2.lt;have h3:=f7.o;have h4:=a6.size;omega)
 have y:=U (c9.below a6);have q:=U (qj (X.trans (a6.mono X.size)) c7.o c7.o.lt);replace l:=U (l.o.trans ((X.trans (a6.mono X.size)).mono l.o.size));have c:=U d2;have z:=U (J9 S.heap.size);have e6:=U b3;have d7:=U d0;clear hC hu g7 c9 g9 g8 X a6 d2 b3 d0 c7 f6 f7;have c6:=U (@ZK u st HA.o);have a2:=U (J1 (@mB u zx st) HU.o);have a4:=U (Q6 zx y.o (by decide) (by have:=HA.o;omega));rw [show qm u zx st=rgN u st from rfl] at a4 a2;have b0:=O0 (rgA u st=kS u (rgN u st).2) rfl;have F:=O0 (sI u st=if qd u (rgP u st).2≠0 then (vq,qd u (rgP u st).2) else if qi (rgX u st) then (rgX u st,0) else (vq,3)) rfl;have r:=O0 (rgX u st=⟨(rgN u st).1,(rgA u st).1,(rgT u st).1,(rgP u st).1.1,(rgP u st).1.2⟩) rfl;have b2:=O0 (rgT u st=qI u trmN (rgA u st).2) rfl;have D:=O0 (rgP u st=if q9 u zC (rgT u st).2 then (([],(qw u zC 32 (rgT u st).2).1),(qw u zC 32 (rgT u st).2).2) else (((qw u xd 32 (rgT u st).2).1,[]),(qw u xd 32 (rgT u st).2).2)) rfl;obtain ⟨GX,g3⟩:=O1 (rgX u st);rw [<- g3] at F r;clear g3;have b9:=U c6.o.1;obtain ⟨GN,g1⟩:=O1 (rgN u st);rw [<- g1] at a4 b0 r b9 a2;clear g1;obtain ⟨nm,SN⟩:=GN;dsimp only at a4 b0 r b9 a2;go_upto_region 3 with fail
 rw [<- e6.o,<- d7.o];clear d7 e6;go_wp2_with fail;refine a4.o.mono ?_;clear a4;rintro e w4 ⟨rfl,B,d⟩;replace y:=U B;replace q:=U (d.row q.o (by have:=g.o;omega));replace c:=U (d.row c.o (by have:=g.o;omega));replace l:=U (l.o.trans (d.below (by have:=l.o.size;omega) fun k hk e=>by have:=g.o;omega));replace z:=U (J1 z.o d.size);clear B d;have e0:=c.o.cell (i:=0) (by decide);have f0:=c.o.frozen 0;simp only [qX] at e0;obtain ⟨W5,b4⟩:=O1 (w4.setCell ⟨p,0,none⟩ (.string nm));have a:Touch (fun b=>b=p) w4 W5:=by rw [b4];exact (Touch.refl _ _).trans (qD _)
 replace c:=U (show W5.rowIs p 41 6 (qX (.string nm) (.int .i64 0) (.slice none 0 0) (.bool false) (.slice none 0 0) (.slice none 0 0)) from by
  rw [b4];refine (c.o.set 0 _).congr fun j hj=>?_;rcases j with _|_|_|_|_|_|j <;> first|rfl|omega)
 replace y:=U (y.o.touch a g.o.1 g.o.2.1 g.o.2.2.1);replace q:=U (a.row q.o (by have:=g.o;omega));replace l:=U (l.o.trans (a.below (by have:=l.o.size;omega) fun k hk e=>by have:=g.o;omega));replace z:=U (J1 z.o a.size);have e7:=U b4;clear a b4;go_upto_region 4 with fail
 rw [<- e7.o];clear e7 e0 f0;have a3:=U (lF y.o HU.o (by have:=b9.o;omega));have a1:=U (@mP u SN HU.o);rw [<- b0.o] at a3 a1;have c5:=U c6.o.2.1;obtain ⟨GA,g0⟩:=O1 (rgA u st);rw [<- g0] at a3 a1 r b2 c5;clear g0 b0;obtain ⟨M,SA⟩:=GA;dsimp only at a3 a1 r b2 c5;go_wp2_with fail;refine a3.o.mono ?_;clear a3;rintro e w6 ⟨⟨ia,ic,rfl,P,Q⟩,B,d⟩;have d4:=O0 (M.ids.length<=ic) P;have h:=O0 (qv w6 S.heap.size w6.heap.size ia M.ids) (Q.carry z.o lz (fun _ _ _=>rfl));clear P Q;replace y:=U B;replace q:=U (d.row q.o (by have:=g.o;omega));replace c:=U (d.row c.o (by have:=g.o;omega));replace l:=U (l.o.trans (d.below (by have:=l.o.size;omega) fun k hk e=>by have:=g.o;omega));replace z:=U (J1 z.o d.size);clear B d;have e1:=c.o.cell (i:=1) (by decide);have f1:=c.o.frozen 1;simp only [qX] at e1;have e2:=c.o.cell (i:=2) (by decide);have f2:=c.o.frozen 2;simp only [qX] at e2;obtain ⟨W7,b5⟩:=O1 ((w6.setCell ⟨p,1,none⟩ (.int .i64 M.thr)).setCell ⟨p,2,none⟩ (.slice ia M.ids.length ic));have a:Touch (fun b=>b=p) w6 W7:=by rw [b5];exact ((Touch.refl _ _).trans (qD _)).trans (qD _)
 replace c:=U (show W7.rowIs p 41 6 (qX (.string nm) (.int .i64 M.thr) (.slice ia M.ids.length ic) (.bool false) (.slice none 0 0) (.slice none 0 0)) from by
  rw [b5];refine ((c.o.set 1 _).set 2 _).congr fun j hj=>?_;rcases j with _|_|_|_|_|_|j <;> first|rfl|omega)
 replace y:=U (y.o.touch a g.o.1 g.o.2.1 g.o.2.2.1);replace q:=U (a.row q.o (by have:=g.o;omega));replace l:=U (l.o.trans (a.below (by have:=l.o.size;omega) fun k hk e=>by have:=g.o;omega));replace z:=U (J1 z.o a.size);replace h:=U (h.o.carry lz a.size (fun b V I=>a.block b I (by have:=g.o;omega)));have e8:=U b5;clear a b5;go_upto_region 5 with fail
 rw [<- e8.o];clear e8 e1 f1 e2 f2;have a0:=U (Z3 trmN y.o (by decide) (by have:=c5.o;omega));rw [<- b2.o] at a0;have b1:=U c6.o.2.2;obtain ⟨GT,g2⟩:=O1 (rgT u st);rw [<- g2] at a0 r D b1;clear g2 b2;obtain ⟨tm,ST⟩:=GT;dsimp only at a0 r D b1;go_wp2_with fail;refine a0.o.mono ?_;clear a0;rintro e w8 ⟨rfl,B,d⟩;replace y:=U B;replace q:=U (d.row q.o (by have:=g.o;omega));replace c:=U (d.row c.o (by have:=g.o;omega));replace l:=U (l.o.trans (d.below (by have:=l.o.size;omega) fun k hk e=>by have:=g.o;omega));replace z:=U (J1 z.o d.size);replace h:=U (h.o.carry lz d.size (fun b V I=>d.block b I (by have:=g.o;omega)));clear B d;have e3:=c.o.cell (i:=3) (by decide);have f3:=c.o.frozen 3;simp only [qX] at e3;obtain ⟨W9,b6⟩:=O1 (w8.setCell ⟨p,3,none⟩ (.bool tm));have a:Touch (fun b=>b=p) w8 W9:=by rw [b6];exact (Touch.refl _ _).trans (qD _)
 replace c:=U (show W9.rowIs p 41 6 (qX (.string nm) (.int .i64 M.thr) (.slice ia M.ids.length ic) (.bool tm) (.slice none 0 0) (.slice none 0 0)) from by
  rw [b6];refine (c.o.set 3 _).congr fun j hj=>?_;rcases j with _|_|_|_|_|_|j <;> first|rfl|omega)
 replace y:=U (y.o.touch a g.o.1 g.o.2.1 g.o.2.2.1);replace q:=U (a.row q.o (by have:=g.o;omega));replace l:=U (l.o.trans (a.below (by have:=l.o.size;omega) fun k hk e=>by have:=g.o;omega));replace z:=U (J1 z.o a.size);replace h:=U (h.o.carry lz a.size (fun b V I=>a.block b I (by have:=g.o;omega)));have e9:=U b6;clear a b6;go_upto_region 6 with fail
 rw [<- e9.o];clear e9 e3 f3;have d5:=U (Z0 zC y.o);go_wp2_with fail;refine d5.o.mono ?_;clear d5;rintro e h9 ⟨rfl,f⟩;replace y:=U (y.o.below f);replace q:=U (qj f q.o q.o.lt);replace c:=U (qj f c.o c.o.lt);replace l:=U (O2 l f);replace z:=U (J1 z.o f.size);replace h:=U (h.o.below f lz lz f.size);clear f;obtain ⟨hv,g4⟩:=O1 (q9 u zC ST);rw [<- g4] at D ⊢;clear g4;cases hv with
 | true =>
  rw [J8 rfl] at D;have K:=U (nQ zC 32 y.o (by decide) (by have:=b1.o;omega));have J:=U (@xR u zC 32 ST);obtain ⟨GP,a5⟩:=O1 (qw u zC 32 ST);rw [<- a5] at K J D;clear a5;obtain ⟨T,SP⟩:=GP;dsimp only at K J D;rw [D.o] at F r;clear D;dsimp only at F r;go_wp2_with fail;refine K.o.mono ?_;clear K;rintro e L ⟨⟨Y,Z,rfl,P,Q⟩,B,d⟩;have b7:=O0 (T.length<=Z) P;have E:=O0 (qv L S.heap.size L.heap.size Y T) (Q.carry z.o lz (fun _ _ _=>rfl));clear P Q;replace y:=U B;replace q:=U (d.row q.o (by have:=g.o;omega));replace c:=U (d.row c.o (by have:=g.o;omega));replace l:=U (l.o.trans (d.below (by have:=l.o.size;omega) fun k hk e=>by have:=g.o;omega));replace z:=U (J1 z.o d.size);replace h:=U (h.o.carry lz d.size (fun b V I=>d.block b I (by have:=g.o;omega)));clear B d;have e5:=c.o.cell (i:=5) (by decide);have f5:=c.o.frozen 5;simp only [qX] at e5;obtain ⟨H,A⟩:=O1 (L.setCell ⟨p,5,none⟩ (.slice Y T.length Z));have a:Touch (fun b=>b=p) L H:=by rw [A];exact (Touch.refl _ _).trans (qD _)
  replace c:=U (show H.rowIs p 41 6 (qX (.string nm) (.int .i64 M.thr) (.slice ia M.ids.length ic) (.bool tm) (.slice none 0 0) (.slice Y T.length Z)) from by
   rw [A];refine (c.o.set 5 _).congr fun j hj=>?_;rcases j with _|_|_|_|_|_|j <;> first|rfl|omega)
  replace y:=U (y.o.touch a g.o.1 g.o.2.1 g.o.2.2.1);replace q:=U (a.row q.o (by have:=g.o;omega));replace l:=U (l.o.trans (a.below (by have:=l.o.size;omega) fun k hk e=>by have:=g.o;omega));replace z:=U (J1 z.o a.size);replace h:=U (h.o.carry lz a.size (fun b V I=>a.block b I (by have:=g.o;omega)));replace E:=U (E.o.carry lz a.size (fun b V I=>a.block b I (by have:=g.o;omega)));have N:=U A;clear a A;go_upto_region 9 with fail
  rw [<- N.o];clear N e5 f5;have HD:=U (lw y.o HU.o);obtain ⟨dn,a7⟩:=O1 (qd u SP);rw [<- a7] at HD F;clear a7;have hR:=q.o;obtain ⟨t0,t1,t2,t3,t4⟩:=rc5 hR;have t5:=hR.cell (i:=5) (by decide);obtain ⟨s0,s1,s2,s3,s4⟩:=rf5 hR;have s5:=hR.frozen 5;simp only [qX] at t0 t1 t2 t3 t4 t5;clear hR;go_wp2_with fail;refine HD.o.mono ?_;clear HD;rintro e h0 ⟨rfl,h'⟩;subst h';by_cases hd:dn=0
  case neg =>
   have d1:(dn != 0)=true:=by simpa using hd
   rw [J8 hd] at F;clear hd;go_wp2;refine X4 (qk Tryz.results125 _ _ (w.heap.size+1) 41 _ (0,0) _ rfl (zX (yO _ _ _ _ _ _ q.o)) zb4 rfl (by kernel_rfl) _ rfl) rfl ?_;refine ⟨u,HC.o,?_⟩;rw [F.o];exact kO (je _ _ _ _ _ _ l.o (by omega))
  subst hd;rw [J3 (by decide)] at F;have G:=U (ki (⟨nm,M,tm,[],T⟩:DelegV) ia none Y ic 0 Z H ⟨h.o.carry (X7 _) lz (fun _ _ _=>rfl),(.inl rfl),E.o.carry (X7 _) lz (fun _ _ _=>rfl)⟩ ⟨a2.o,a1.o,⟨X7 _,fun s Q=>(by cases Q)⟩,⟨J1 J.o.1 (by decide),fun s Q=>J1 (J.o.2.1 s Q) HU.o⟩⟩);dsimp only [List.length_nil] at G;rw [<- r.o] at G;obtain ⟨mb,a8⟩:=O1 (qi GX);rw [<- a8] at G F;clear a8;rw [r.o] at F;have e0:=c.o.cell (i:=0) (by decide);have f0:=c.o.frozen 0;simp only [qX] at e0;have e1:=c.o.cell (i:=1) (by decide);have f1:=c.o.frozen 1;simp only [qX] at e1;have e2:=c.o.cell (i:=2) (by decide);have f2:=c.o.frozen 2;simp only [qX] at e2;have e3:=c.o.cell (i:=3) (by decide);have f3:=c.o.frozen 3;simp only [qX] at e3;have e4:=c.o.cell (i:=4) (by decide);have f4:=c.o.frozen 4;simp only [qX] at e4;have e5:=c.o.cell (i:=5) (by decide);have f5:=c.o.frozen 5;simp only [qX] at e5;go_wp2_with fail;refine G.o.mono ?_;clear G e0 f0 e1 f1 e2 f2 e3 f3 e4 f4 e5 f5 t0 s0 t1 s1 t2 s2 t3 s3 t4 s4 t5 s5;rintro e a9 ⟨rfl,f⟩;replace y:=U (y.o.below f);replace q:=U (qj f q.o q.o.lt);replace c:=U (qj f c.o c.o.lt);replace l:=U (O2 l f);replace z:=U (J1 z.o f.size);replace h:=U (h.o.below f lz lz f.size);replace E:=U (E.o.below f lz lz f.size);clear f;have hR:=q.o;obtain ⟨t0,t1,t2,t3,t4⟩:=rc5 hR;have t5:=hR.cell (i:=5) (by decide);obtain ⟨s0,s1,s2,s3,s4⟩:=rf5 hR;have s5:=hR.frozen 5;simp only [qX] at t0 t1 t2 t3 t4 t5;have e0:=c.o.cell (i:=0) (by decide);have f0:=c.o.frozen 0;simp only [qX] at e0;have e1:=c.o.cell (i:=1) (by decide);have f1:=c.o.frozen 1;simp only [qX] at e1;have e2:=c.o.cell (i:=2) (by decide);have f2:=c.o.frozen 2;simp only [qX] at e2;have e3:=c.o.cell (i:=3) (by decide);have f3:=c.o.frozen 3;simp only [qX] at e3;have e4:=c.o.cell (i:=4) (by decide);have f4:=c.o.frozen 4;simp only [qX] at e4;have e5:=c.o.cell (i:=5) (by decide);have f5:=c.o.frozen 5;simp only [qX] at e5;clear hR;cases mb with
  | false => rw [J3 (by decide)] at F;go_wp2;refine X4 (qk Tryz.results125 _ _ (w.heap.size+1) 41 _ (0,0) _ rfl (zX (yO _ _ _ _ _ _ q.o)) zb4 rfl (by kernel_rfl) _ rfl) rfl ?_;refine ⟨u,HC.o,?_⟩;rw [F.o];exact kO (je _ _ _ _ _ _ l.o (by omega))
  | true => rw [J8 rfl] at F;have R:=O0 (w.heap.size+2<=S.heap.size) (by have:=g.o;omega);go_wp2;refine X4 (qk Tryz.results125 _ _ (w.heap.size+1) 41 _ (0,0) _ rfl (zX (yO _ _ _ _ _ _ q.o)) zb4 rfl (by kernel_rfl) _ rfl) rfl ?_;refine ⟨u,HC.o,?_⟩;rw [F.o];have hc:=fun b (V:S.heap.size<=b) (I:b<a9.heap.size)=>pR (W:=a9) (.string nm) (.int .i64 M.thr) (.slice ia M.ids.length ic) (.bool tm) (.slice none 0 0) (.slice Y T.length Z) (show b≠w.heap.size+1 by have:=R.o;omega);exact ⟨ia,ic,none,0,Y,Z,rfl,⟨d4.o,J9 _,b7.o⟩,⟨h.o.carry (by have:=R.o;omega) (G8 gz.symm) hc,(.inl rfl),E.o.carry (by have:=R.o;omega) (G8 gz.symm) hc⟩,je _ _ _ _ _ _ l.o (by omega)⟩
 | false =>
  rw [J3 (by decide)] at D;have K:=U (nQ xd 32 y.o (by decide) (by have:=b1.o;omega));have J:=U (@xR u xd 32 ST);obtain ⟨GP,a5⟩:=O1 (qw u xd 32 ST);rw [<- a5] at K J D;clear a5;obtain ⟨T,SP⟩:=GP;dsimp only at K J D;rw [D.o] at F r;clear D;dsimp only at F r;go_wp2_with fail;refine K.o.mono ?_;clear K;rintro e L ⟨⟨Y,Z,rfl,P,Q⟩,B,d⟩;have b7:=O0 (T.length<=Z) P;have E:=O0 (qv L S.heap.size L.heap.size Y T) (Q.carry z.o lz (fun _ _ _=>rfl));clear P Q;replace y:=U B;replace q:=U (d.row q.o (by have:=g.o;omega));replace c:=U (d.row c.o (by have:=g.o;omega));replace l:=U (l.o.trans (d.below (by have:=l.o.size;omega) fun k hk e=>by have:=g.o;omega));replace z:=U (J1 z.o d.size);replace h:=U (h.o.carry lz d.size (fun b V I=>d.block b I (by have:=g.o;omega)));clear B d;have e4:=c.o.cell (i:=4) (by decide);have f4:=c.o.frozen 4;simp only [qX] at e4;obtain ⟨H,A⟩:=O1 (L.setCell ⟨p,4,none⟩ (.slice Y T.length Z));have a:Touch (fun b=>b=p) L H:=by rw [A];exact (Touch.refl _ _).trans (qD _)
  replace c:=U (show H.rowIs p 41 6 (qX (.string nm) (.int .i64 M.thr) (.slice ia M.ids.length ic) (.bool tm) (.slice Y T.length Z) (.slice none 0 0)) from by
   rw [A];refine (c.o.set 4 _).congr fun j hj=>?_;rcases j with _|_|_|_|_|_|j <;> first|rfl|omega)
  replace y:=U (y.o.touch a g.o.1 g.o.2.1 g.o.2.2.1);replace q:=U (a.row q.o (by have:=g.o;omega));replace l:=U (l.o.trans (a.below (by have:=l.o.size;omega) fun k hk e=>by have:=g.o;omega));replace z:=U (J1 z.o a.size);replace h:=U (h.o.carry lz a.size (fun b V I=>a.block b I (by have:=g.o;omega)));replace E:=U (E.o.carry lz a.size (fun b V I=>a.block b I (by have:=g.o;omega)));have N:=U A;clear a A;go_upto_region 9 with fail
  rw [<- N.o];clear N e4 f4;have HD:=U (lw y.o HU.o);obtain ⟨dn,a7⟩:=O1 (qd u SP);rw [<- a7] at HD F;clear a7;have hR:=q.o;obtain ⟨t0,t1,t2,t3,t4⟩:=rc5 hR;have t5:=hR.cell (i:=5) (by decide);obtain ⟨s0,s1,s2,s3,s4⟩:=rf5 hR;have s5:=hR.frozen 5;simp only [qX] at t0 t1 t2 t3 t4 t5;clear hR;go_wp2_with fail;refine HD.o.mono ?_;clear HD;rintro e h0 ⟨rfl,h'⟩;subst h';by_cases hd:dn=0
  case neg =>
   have d1:(dn != 0)=true:=by simpa using hd
   rw [J8 hd] at F;clear hd;go_wp2;refine X4 (qk Tryz.results125 _ _ (w.heap.size+1) 41 _ (0,0) _ rfl (zX (yO _ _ _ _ _ _ q.o)) zb4 rfl (by kernel_rfl) _ rfl) rfl ?_;refine ⟨u,HC.o,?_⟩;rw [F.o];exact kO (je _ _ _ _ _ _ l.o (by omega))
  subst hd;rw [J3 (by decide)] at F;have G:=U (ki (⟨nm,M,tm,T,[]⟩:DelegV) ia Y none ic Z 0 H ⟨h.o.carry (X7 _) lz (fun _ _ _=>rfl),E.o.carry (X7 _) lz (fun _ _ _=>rfl),(.inl rfl)⟩ ⟨a2.o,a1.o,⟨J1 J.o.1 (by decide),fun s Q=>J1 (J.o.2.1 s Q) HU.o⟩,⟨X7 _,fun s Q=>(by cases Q)⟩⟩);dsimp only [List.length_nil] at G;rw [<- r.o] at G;obtain ⟨mb,a8⟩:=O1 (qi GX);rw [<- a8] at G F;clear a8;rw [r.o] at F;have e0:=c.o.cell (i:=0) (by decide);have f0:=c.o.frozen 0;simp only [qX] at e0;have e1:=c.o.cell (i:=1) (by decide);have f1:=c.o.frozen 1;simp only [qX] at e1;have e2:=c.o.cell (i:=2) (by decide);have f2:=c.o.frozen 2;simp only [qX] at e2;have e3:=c.o.cell (i:=3) (by decide);have f3:=c.o.frozen 3;simp only [qX] at e3;have e4:=c.o.cell (i:=4) (by decide);have f4:=c.o.frozen 4;simp only [qX] at e4;have e5:=c.o.cell (i:=5) (by decide);have f5:=c.o.frozen 5;simp only [qX] at e5;go_wp2_with fail;refine G.o.mono ?_;clear G e0 f0 e1 f1 e2 f2 e3 f3 e4 f4 e5 f5 t0 s0 t1 s1 t2 s2 t3 s3 t4 s4 t5 s5;rintro e a9 ⟨rfl,f⟩;replace y:=U (y.o.below f);replace q:=U (qj f q.o q.o.lt);replace c:=U (qj f c.o c.o.lt);replace l:=U (O2 l f);replace z:=U (J1 z.o f.size);replace h:=U (h.o.below f lz lz f.size);replace E:=U (E.o.below f lz lz f.size);clear f;have hR:=q.o;obtain ⟨t0,t1,t2,t3,t4⟩:=rc5 hR;have t5:=hR.cell (i:=5) (by decide);obtain ⟨s0,s1,s2,s3,s4⟩:=rf5 hR;have s5:=hR.frozen 5;simp only [qX] at t0 t1 t2 t3 t4 t5;have e0:=c.o.cell (i:=0) (by decide);have f0:=c.o.frozen 0;simp only [qX] at e0;have e1:=c.o.cell (i:=1) (by decide);have f1:=c.o.frozen 1;simp only [qX] at e1;have e2:=c.o.cell (i:=2) (by decide);have f2:=c.o.frozen 2;simp only [qX] at e2;have e3:=c.o.cell (i:=3) (by decide);have f3:=c.o.frozen 3;simp only [qX] at e3;have e4:=c.o.cell (i:=4) (by decide);have f4:=c.o.frozen 4;simp only [qX] at e4;have e5:=c.o.cell (i:=5) (by decide);have f5:=c.o.frozen 5;simp only [qX] at e5;clear hR;cases mb with
  | false => rw [J3 (by decide)] at F;go_wp2;refine X4 (qk Tryz.results125 _ _ (w.heap.size+1) 41 _ (0,0) _ rfl (zX (yO _ _ _ _ _ _ q.o)) zb4 rfl (by kernel_rfl) _ rfl) rfl ?_;refine ⟨u,HC.o,?_⟩;rw [F.o];exact kO (je _ _ _ _ _ _ l.o (by omega))
  | true => rw [J8 rfl] at F;have R:=O0 (w.heap.size+2<=S.heap.size) (by have:=g.o;omega);go_wp2;refine X4 (qk Tryz.results125 _ _ (w.heap.size+1) 41 _ (0,0) _ rfl (zX (yO _ _ _ _ _ _ q.o)) zb4 rfl (by kernel_rfl) _ rfl) rfl ?_;refine ⟨u,HC.o,?_⟩;rw [F.o];have hc:=fun b (V:S.heap.size<=b) (I:b<a9.heap.size)=>pR (W:=a9) (.string nm) (.int .i64 M.thr) (.slice ia M.ids.length ic) (.bool tm) (.slice Y T.length Z) (.slice none 0 0) (show b≠w.heap.size+1 by have:=R.o;omega);exact ⟨ia,ic,Y,Z,none,0,rfl,⟨d4.o,b7.o,J9 _⟩,⟨h.o.carry (by have:=R.o;omega) (G8 gz.symm) hc,E.o.carry (by have:=R.o;omega) (G8 gz.symm) hc,(.inl rfl)⟩,je _ _ _ _ _ _ l.o (by omega)⟩
theorem lM (v:JV) (x:Value) (w:World) (lo:Nat) (b:0<lo) (d:v.wt<=4294967296) (c:Rep w lo w.heap.size v x) (f:v.kind=5->qo v.names=true/\v.names.length=v.items.length) :
 Calls Tryz.prog 125 #[x] w (vO (zI v) w):=by
 refine (cN (j5 v) (st0 v) v x w (c.carry (X7 _) lz (fun _ _ _=>rfl)) (by unfold st0;split <;> simp) (fun w1 hb=>oH d b hb.size (c.below hb lz lz lz) f)).mono ?_;rintro e w' ⟨u,a,h⟩;unfold j5 at a;unfold st0 at h;by_cases hk:v.kind=5
 . rw [J8 hk] at a h;subst a;rw [<- tX hk];exact h
 . rw [J3 hk] at a h;subst a;have:zI v=(vq,10):=by unfold zI;rw [J8 hk]
   rw [this];rw [tJ] at h;exact h
theorem tW {l:List JV} {acc:List DelegV} {k:Nat} (a:k<l.length):xK (l.drop k) acc=if (zI l[k]).2≠0 then ([],(zI l[k]).2) else if acc.any (fun y=>decide (y.name=(zI l[k]).1.name)) then ([],7) else xK (l.drop (k+1)) (acc ++ [(zI l[k]).1]):=by rw [G3 a,xK]
theorem tY:(Tryz.prog.info? 41).map (fun i=>(i.zero,i.size,i.bytes))=some (some (.agg #[.string ⟨#[]⟩,.int .i64 0,.slice none 0 0,.bool false,.slice none 0 0,.slice none 0 0]),6,104):=by kernel_rfl
def wR (r:List DelegV × Int) (w:World) (e:Ending) (w':World):Prop :=
 ∃a c,e=.returned (.tuple #[.slice a r.1.length c,.int .i64 r.2])/\r.1.length<=c/\zh w' w.heap.size w'.heap.size a r.1/\O5 w w'
theorem gU {a:Int} {w w':World} (b:O5 w w'):wR ([],a) w (.returned (.tuple #[.slice none 0 0,.int .i64 a])) w':=⟨none,0,rfl,J9 _,.inl rfl,b⟩
theorem cS (items:List JV) (a0:Option Addr) (c0:Nat) (w:World) (lo:Nat) (h8:0<lo) (hN:JV.wts items<=4294967296) (hA:zm w lo w.heap.size a0 items) (hp:∀v ∈ items,v.kind=5->qo v.names=true/\v.names.length=v.items.length) (hl:items.length<=4294967296) :
 Calls Tryz.prog 66 #[.slice a0 items.length c0] w (wR (xK items []) w):=by
 have HA:=U hA;have g1:=U h8;have g8:=U hN;have HP:=U hp;obtain ⟨G,hG⟩:=O1 (xK items []);rw [<- hG];have HG:=U hG;obtain ⟨nn,b0⟩:=O1 items.length;have c1:=U b0;rw [<- b0] at hl ⊢;clear hA h8 hN hp hG b0;go_enter Tryz.func66,Tryz.ntmps66;go_wp2_with fail;go_loopw [4,6,7,8,11] (fun s4 _ _ _ i wr=>∃(k:Nat) (a:Option Addr) (c:Nat) (qs:List DelegC),k<=nn/\qs.length=k/\i=.int .i64 k/\s4=.slice a k c/\G=xK (items.drop k) (qs.map (·.x))/\kJ 41 w.heap.size wr s4 qs/\O5 w wr) (fun _ _ _ _ i _=>nn - (intOf i).toNat)
 case atStart=>exact ⟨0,none,0,[],by omega,rfl,rfl,rfl,HG.o,ItemsOwn.nil _ _ _ _ _ _,J0 _ _⟩
 case round =>
  obtain ⟨k,a4,c4,m,hk,f2,rfl,rfl,e9,a1,e7⟩:=hrel;have H:=U e9;have HO:=U a1;have g:=U e7;have B:=U f2;clear e9 a1 e7 HG f2;by_cases hlt:k<nn
  . have S:k<items.length:=by rw [<- c1.o];exact hlt
    obtain ⟨b,o,d4,d6,d3,d5,ha,-,h7,e0,e1,e2,e3,e4,F⟩:=(HA.o.below g.o lz lz lz).get k S;subst ha;have m1:(0:Int)<=(k:Int):=by omega
    have m2:(k:Int)<(nn:Int):=by omega
    have m3:decide ((k:Int)<(nn:Int))=true:=by simpa using hlt
    have d:=U (tW (l:=items) (acc:=m.map (·.x)) S);have f3:=JV.wts_get items k S;have b1:=HP.o _ (X6 S);obtain ⟨s,f1⟩:=O1 (items[k]);rw [<- f1] at e0 e1 e2 e3 e4 F d f3 b1;clear f1;obtain ⟨L,N⟩:=O1 (wr.alloc (.cells #[.int .u8 s.kind,.int .i64 s.n,.string s.t,.slice d4 s.names.length d6,.slice d3 s.items.length d5] 25));have R:=O7 N
    have b3:=O9 N
    have A:=U (lM s _ L lo g1.o (by have:=g8.o;omega) (F.below R (by have:=g.o.size;omega) lz (by have:=g.o.size;have:=R.size;omega)) b1);have a2:=U R;have d2:=U (qx b3);have c7:=U N;obtain ⟨z0,z1,z2,z3,z4⟩:=bx5 b3;obtain ⟨DX,d7⟩:=O1 (zI s);rw [<- d7] at A d;clear R b3 N F d7 f3 b1;obtain ⟨x,er⟩:=DX;unfold vO at A;dsimp only at A d;go_upto_region 5 with fail
    rw [<- c7.o];clear e0 e1 e2 e3 e4 c7;go_wp2_with fail;refine A.o.mono ?_;clear A z0 z1 z2 z3 z4;rintro e p ⟨W,ic,X,pc,Y,qc,rfl,C,f0,Q⟩;obtain ⟨q,P⟩:=O1 (p.alloc (.cells #[.string x.name,.int .i64 x.au.thr,.slice W x.au.ids.length ic,.bool x.term,.slice X x.paths.length pc,.slice Y x.pres.length qc] 41));have a7:=O7 P
    have T:=O9 P
    have a8:O5 wr q:=a2.o.trans ((Q.trans (a7.mono Q.size)).mono a2.o.size);have b6:=U (show ∀w':World,O5 q w'->w'.cell? ⟨p.heap.size,0,none⟩=some (.string x.name)/\w'.cell? ⟨p.heap.size,1,none⟩=some (.int .i64 x.au.thr)/\w'.cell? ⟨p.heap.size,2,none⟩=some (.slice W x.au.ids.length ic)/\w'.cell? ⟨p.heap.size,3,none⟩=some (.bool x.term)/\w'.cell? ⟨p.heap.size,4,none⟩=some (.slice X x.paths.length pc)/\w'.cell? ⟨p.heap.size,5,none⟩=some (.slice Y x.pres.length qc) from fun w' h=>by
     have y:=(h.block _ (qx T)).trans T;exact ⟨qq y rfl,qq y rfl,qq y rfl,qq y rfl,qq y rfl,qq y rfl⟩)
    have c5:=U (ItemsOwn.below yF HO.o a8);have z:=U (O2 g a8);have f6:=O0 (DelegIn q L.heap.size p.heap.size x W X Y) (f0.below a7 lz lz lz);have a3:=U C;have J:=O0 (w.heap.size<=wr.heap.size/\wr.heap.size<L.heap.size/\L.heap.size<=p.heap.size/\p.heap.size<q.heap.size) (⟨g.o.size,d2.o,Q.size,qx T⟩);have d0:=U P;have g4:=O0 (∀b,(Value.slice a4 k c4).ownBlock=some b->b<wr.heap.size) (fun b hb=>(HO.o.own.lt b hb).2);clear P a7 T a8 C f0 Q HO a2 d2;go_upto_region 6 with fail
    rw [<- d0.o];clear d0;by_cases her:er=0
    case neg =>
     have d1:(er != 0)=true:=by simpa using her
     rw [J8 her] at d;clear her;go_wp2;go_ret2;rw [H.o,d.o];exact gU z.o
    subst her;rw [J3 (by decide)] at d;obtain ⟨a9,c9,j,-,E⟩:=kJ.row (l:=m.map (·.x)) c5.o rfl;have f:(m.map (·.x)).length=k:=by rw [X9];exact B.o
    rw [f] at j;simp only [K6,zc8] at j;obtain ⟨rfl,rfl⟩:=j;have I:=U (gV (m.map (·.x)) x.name a4 c4 q (E.carry (X7 _) lz (fun _ _ _=>rfl)) (by rw [f];omega));rw [f] at I;obtain ⟨V,hV⟩:=O1 ((m.map (·.x)).any (fun y=>decide (y.name=x.name)));rw [<- hV] at I d;clear hV f E;obtain ⟨y0,y1,y2,y3,y4,y5⟩:=b6.o q (J0 _ _);go_wp2_with fail;refine I.o.mono ?_;clear I y0 y1 y2 y3 y4 y5;rintro e Z ⟨rfl,e5⟩;have u:=U e5;clear e5;cases V with
    | true => rw [J8 rfl] at d;go_wp2;go_ret2;rw [H.o,d.o];exact gU (z.o.trans (u.o.mono z.o.size))
    | false =>
     rw [J3 (by decide)] at d;obtain ⟨y0,y1,y2,y3,y4,y5⟩:=b6.o Z u.o;obtain ⟨K,M⟩:=O1 (Z.alloc (.cells #[.string x.name,.int .i64 x.au.thr,.slice W x.au.ids.length ic,.bool x.term,.slice X x.paths.length pc,.slice Y x.pres.length qc] 41));have e6:=O7 M
     have b2:=O9 M
     have r:O5 q K:=O2 u e6;have c3:=U (ItemsOwn.below yF c5.o r);have a6:=O0 (K.ownsRow w.heap.size 41 6 (.slice a4 k c4) k (m.flatMap Qe)) (by have:=c3.o.own;rw [B.o] at this;exact this);have b5:=U (O2 z r);have b7:=U (f6.o.below r (by have:=J.o;omega) lz lz);have g9:=U b2;have g7:=U M;have c6:=O0 (q.heap.size<=Z.heap.size/\Z.heap.size<K.heap.size) (⟨u.o.size,qx b2⟩);obtain ⟨i1,h0,h3,h4,h5⟩:=K9 tY;have h2:w.heap.size<=K.heap.size:=b5.o.size;clear M e6 b2 r;go_upto_region 11 with (at_builtin;rw [<- g7.o];(refine V6 _ rfl (.tmp 27) (.tmp 29) 29 rfl w.heap.size 41 i1 _ 6 104 Tryz.underlying29 h0 h3 h4 h5 rfl (by omega) (.slice a4 k c4) k (m.flatMap Qe) rfl a6.o ⟨Z.heap.size,0,none⟩ 1 1 [.string x.name,.int .i64 x.au.thr,.slice W x.au.ids.length ic,.bool x.term,.slice X x.paths.length pc,.slice Y x.pres.length qc] rfl rfl (Y0 (cs:=#[.string x.name,.int .i64 x.au.thr,.slice W x.au.ids.length ic,.bool x.term,.slice X x.paths.length pc,.slice Y x.pres.length qc]) (t:=41) (fr:=(0,0)) g9.o) (by simp [Value.oneCell']) (by omega) (by unfold maxLen;omega) (by omega) (by have:=c6.o;omega) K.heap.size (by omega) ?_);intro g2 cap2 w7 hown6 hgrow6 hat6 hlt6;have c2:=U hown6;have a5:=U hgrow6;have b4:=U hat6;clear hown6 hgrow6 hat6)
     obtain ⟨qn,D⟩:∃qn:DelegC,qn=⟨x,W,ic,X,pc,Y,qc⟩:=⟨_,rfl⟩;have h6:=U D;have g5:=U (show kJ 41 w.heap.size w7 (.slice (some ⟨g2,0,none⟩) (k+1) cap2) (m ++ [qn]) from ItemsOwn.snoc yF (v':=.slice (some ⟨g2,0,none⟩) (k+1) cap2) c3.o qn L.heap.size p.heap.size (by have:=J.o;omega) (by have:=J.o;have:=c6.o;omega) (fun b hb hbg=>by
      have h1:=g4.o b hb;have:=J.o;omega) (by rw [D];exact ⟨a3.o.1,a3.o.2.1,a3.o.2.2,b7.o⟩) a5.o (by rw [B.o,D];exact c2.o) (by
      rcases b4.o with h|h
      . exact .inl h.symm
      . exact .inr ⟨g2,rfl,by omega⟩))
     have f4:=U (below_grown b5.o h2 a5.o (fun b hb=>(a6.o.lt b hb).1));have g0:=O0 ((m ++ [qn]).length=k+1) (by rw [G6,B.o];rfl);have g3:=O0 ((m ++ [qn]).map (·.x)=m.map (·.x) ++ [x]) (by rw [M1,D];rfl);clear c2 a5 b4 a6 D;go_wp2;go_roundw
     case rel=>exact ⟨k+1,some ⟨g2,0,none⟩,cap2,m ++ [qn],by omega,g0.o,by go_num,rfl,by rw [H.o,d.o,g3.o],g5.o,f4.o⟩
     case measure=>simp [intOf];omega
  . have m3:decide ((k:Int)<(nn:Int))=false:=by simpa using hlt
    have b9:=U (show G=(m.map (·.x),0) from by
     rw [H.o,N7 (by rw [<- c1.o];omega),xK])
    obtain ⟨a9,c9,j,e8,E⟩:=kJ.row (l:=m.map (·.x)) HO.o rfl;have f:(m.map (·.x)).length=k:=by rw [X9];exact B.o
    rw [f] at j;simp only [K6,zc8] at j;obtain ⟨rfl,rfl⟩:=j;have g6:=U E;have f5:=U e8;have f7:=U f;clear E e8 f;go_wp2;go_ret2;rw [b9.o];exact ⟨a4,c4,by rw [f7.o] <;> rfl,f5.o,g6.o,g.o⟩
def vE (r:BinsV × Int) (w:World) (e:Ending) (w':World):Prop :=
 ∃ia ic,e=.returned (.tuple #[.agg #[.int .i64 r.1.au.thr,.slice ia r.1.au.ids.length ic,.int .i64 r.1.bits,.string r.1.pre],.int .i64 r.2])/\r.1.au.ids.length<=ic/\qv w' w.heap.size w'.heap.size ia r.1.au.ids/\O5 w w'
theorem pu {a:Int} {w w':World} (b:O5 w w'):vE (jW,a) w (.returned (.tuple #[.agg #[.int .i64 0,.slice none 0 0,.int .i64 0,.string ⟨#[]⟩],.int .i64 a])) w' :=
 ⟨none,0,rfl,J9 _,.inl rfl,b⟩
theorem cA (C:JV->Prop) (st:PS) (v:JV) (x:Value) (w:World) (hR:Rep w 0 w.heap.size v x) (ha:st.asked.length<=1000)
 (e8:∀w1,O5 w w1->Calls Tryz.prog 60 #[x] w1 (gW C st w1)) :
 Calls Tryz.prog 65 #[x] w (fun e w'=>∃u,C u/\vE (sO u st) w e w'):=by
 obtain ⟨an,cn,ai,ci,hx,h1,E,h3,h4⟩:=hR.parts;clear h1 E h3 h4;subst hx;obtain ⟨W,hW⟩:=O1 ((w.alloc (.cells #[.int .u8 v.kind,.int .i64 v.n,.string v.t,.slice an v.names.length cn,.slice ai v.items.length ci] 25)).alloc (.cells #[.int .i64 0,.slice none 0 0,.int .i64 0,.string ⟨#[]⟩] 33));have d0:(w.alloc (.cells #[.int .u8 v.kind,.int .i64 v.n,.string v.t,.slice an v.names.length cn,.slice ai v.items.length ci] 25)).heap.size=w.heap.size+1:=by simp
 have hb:O5 w W:=by rw [hW];exact (O4).alloc (by simp) _
 have c9:W.heap[w.heap.size]?=some (.cells #[.int .u8 v.kind,.int .i64 v.n,.string v.t,.slice an v.names.length cn,.slice ai v.items.length ci] 25 (0,0)):=by rw [hW];exact zG w _ _
 have a6:W.rowIs (w.heap.size+1) 33 4 (xI (.int .i64 0) (.slice none 0 0) (.int .i64 0) (.string ⟨#[]⟩)):=(by have:=fq (w.alloc (.cells #[.int .u8 v.kind,.int .i64 v.n,.string v.t,.slice an v.names.length cn,.slice ai v.items.length ci] 25)) (.int .i64 0) (.slice none 0 0) (.int .i64 0) (.string ⟨#[]⟩) 33;rw [d0,<- hW] at this;exact this);have a8:=U (e8 W hb);have h:=U hb;have b3:=U c9;have a2:=U a6;have HW:=U hW;have HA:=U ha;have b4:=O0 (w.heap.size+2<=W.heap.size) a6.lt;clear e8 hW d0 hb c9 a6 hR ha;obtain ⟨c0,c1,c2,c3,c4⟩:=bx5 b3.o;go_enter Tryz.func65,Tryz.ntmps65;go_upto_region 1 with fail
 rw [<- HW.o];clear HW;go_wp2_with fail;refine a8.o.mono ?_;clear a8 c0 c1 c2 c3 c4;rintro e w2 ⟨u,o,m,lo,hi,e4,d7,e6,e5,hC,hu,rfl,a3,d6,d5,F⟩;have HC:=U hC;have HU:=U hu;have d4:=a3.lt;obtain ⟨p,a4⟩:=O1 w2.heap.size;obtain ⟨K,V⟩:=O1 (w2.alloc (.cells #[.int .i64 0,.slice none 0 0,.int .i64 0,.string ⟨#[]⟩] 33));have L:=O7 V
 have a5:K.rowIs p 33 4 (xI (.int .i64 0) (.slice none 0 0) (.int .i64 0) (.string ⟨#[]⟩)):=by rw [V,a4];exact fq _ _ _ _ _ _
 have f:=U (show p≠o/\p≠m/\hi<=p/\w.heap.size+2<=o/\w.heap.size+2<=m/\w.heap.size+2<=p/\p<K.heap.size/\o<K.heap.size/\m<K.heap.size from by
  have h1:=F.size;have E:=a5.lt;have h3:=b4.o;have h4:=L.size;omega)
 have A:=U (a3.below L);have l:=U (qj (F.trans (L.mono F.size)) a2.o a2.o.lt);replace h:=U (h.o.trans ((F.trans (L.mono F.size)).mono h.o.size));have d:=U a5;have B:=U (J9 K.heap.size);have b0:=U V;have a9:=U a4;clear hC hu d4 a3 d6 d5 F L a5 V a4 a2 b3 b4;have a7:=U (@ZV u st HA.o);have H:=U (lF A.o HU.o (by have:=HA.o;omega));have P:=U (@mP u st HU.o);rw [show kS u st=bgA u st from rfl] at H P;have N:=O0 (bgB u st=qA u ji 1 32 (bgA u st).2) rfl;have T:=O0 (bgP u st=qm u jY (bgB u st).2) rfl;have z:=O0 (sO u st=if qd u (bgP u st).2≠0 then (jW,qd u (bgP u st).2) else if q6 ⟨(bgB u st).1,(bgP u st).1,(bgA u st).1⟩ then (⟨(bgB u st).1,(bgP u st).1,(bgA u st).1⟩,0) else (jW,3)) rfl;have a0:=U a7.o.1;obtain ⟨GA,b6⟩:=O1 (bgA u st);rw [<- b6] at H P N z a0;clear b6;obtain ⟨r,SA⟩:=GA;dsimp only at H P N z a0;go_upto_region 3 with fail
 rw [<- b0.o,<- a9.o];clear a9 b0;go_wp2_with fail;refine H.o.mono ?_;clear H;rintro e w4 ⟨⟨ia,ic,rfl,c5,hs⟩,y,c⟩;have d3:=O0 (r.ids.length<=ic) c5;have g:=O0 (qv w4 K.heap.size w4.heap.size ia r.ids) (hs.carry B.o lz (fun _ _ _=>rfl));clear c5 hs;replace A:=U y;replace l:=U (c.row l.o (by have:=f.o;omega));replace d:=U (c.row d.o (by have:=f.o;omega));replace h:=U (h.o.trans (c.below (by have:=h.o.size;omega) fun k hk e=>by have:=f.o;omega));replace B:=U (J1 B.o c.size);clear y c;have e0:=d.o.cell (i:=0) (by decide);have f0:=d.o.frozen 0;simp only [xI] at e0;have e1:=d.o.cell (i:=1) (by decide);have f1:=d.o.frozen 1;simp only [xI] at e1;obtain ⟨W5,X⟩:=O1 ((w4.setCell ⟨p,0,none⟩ (.int .i64 r.thr)).setCell ⟨p,1,none⟩ (.slice ia r.ids.length ic));have a:Touch (fun b=>b=p) w4 W5:=by rw [X];exact ((Touch.refl _ _).trans (qD _)).trans (qD _)
 replace d:=U (show W5.rowIs p 33 4 (xI (.int .i64 r.thr) (.slice ia r.ids.length ic) (.int .i64 0) (.string ⟨#[]⟩)) from by
  rw [X];refine ((d.o.set 0 _).set 1 _).congr fun j hj=>?_;rcases j with _|_|_|_|j <;> first|rfl|omega)
 replace A:=U (A.o.touch a f.o.1 f.o.2.1 f.o.2.2.1);replace l:=U (a.row l.o (by have:=f.o;omega));replace h:=U (h.o.trans (a.below (by have:=h.o.size;omega) fun k hk e=>by have:=f.o;omega));replace B:=U (J1 B.o a.size);replace g:=U (g.o.carry lz a.size (fun b h1 E=>a.block b E (by have:=f.o;omega)));have b1:=U X;clear a X;go_upto_region 4 with fail
 rw [<- b1.o];clear b1 e0 f0 e1 f1;have G:=U (Zr ji 1 32 A.o (by decide) (by have:=a0.o;omega));have Q:=U (@lH u ji 1 32 SA (by decide) (by decide));rw [<- N.o] at G Q;have a1:=U a7.o.2;obtain ⟨GB,b7⟩:=O1 (bgB u st);rw [<- b7] at G Q T z a1;clear b7 N;obtain ⟨q,SB⟩:=GB;dsimp only at G Q T z a1;go_wp2_with fail;refine G.o.mono ?_;clear G;rintro e w6 ⟨rfl,y,c⟩;replace A:=U y;replace l:=U (c.row l.o (by have:=f.o;omega));replace d:=U (c.row d.o (by have:=f.o;omega));replace h:=U (h.o.trans (c.below (by have:=h.o.size;omega) fun k hk e=>by have:=f.o;omega));replace B:=U (J1 B.o c.size);replace g:=U (g.o.carry lz c.size (fun b h1 E=>c.block b E (by have:=f.o;omega)));clear y c;have e2:=d.o.cell (i:=2) (by decide);have f2:=d.o.frozen 2;simp only [xI] at e2;obtain ⟨W7,Y⟩:=O1 (w6.setCell ⟨p,2,none⟩ (.int .i64 q));have a:Touch (fun b=>b=p) w6 W7:=by rw [Y];exact (Touch.refl _ _).trans (qD _)
 replace d:=U (show W7.rowIs p 33 4 (xI (.int .i64 r.thr) (.slice ia r.ids.length ic) (.int .i64 q) (.string ⟨#[]⟩)) from by
  rw [Y];refine (d.o.set 2 _).congr fun j hj=>?_;rcases j with _|_|_|_|j <;> first|rfl|omega)
 replace A:=U (A.o.touch a f.o.1 f.o.2.1 f.o.2.2.1);replace l:=U (a.row l.o (by have:=f.o;omega));replace h:=U (h.o.trans (a.below (by have:=h.o.size;omega) fun k hk e=>by have:=f.o;omega));replace B:=U (J1 B.o a.size);replace g:=U (g.o.carry lz a.size (fun b h1 E=>a.block b E (by have:=f.o;omega)));have b2:=U Y;clear a Y;go_upto_region 5 with fail
 rw [<- b2.o];clear b2 e2 f2;have I:=U (Q6 jY A.o (by decide) (by have:=a1.o;omega));have R:=U (J1 (@mB u jY SB) HU.o);rw [<- T.o] at I R;obtain ⟨GP,b9⟩:=O1 (bgP u st);rw [<- b9] at I R z;clear b9 T;obtain ⟨M,SP⟩:=GP;dsimp only at I R z;go_wp2_with fail;refine I.o.mono ?_;clear I;rintro e w8 ⟨rfl,y,c⟩;replace A:=U y;replace l:=U (c.row l.o (by have:=f.o;omega));replace d:=U (c.row d.o (by have:=f.o;omega));replace h:=U (h.o.trans (c.below (by have:=h.o.size;omega) fun k hk e=>by have:=f.o;omega));replace B:=U (J1 B.o c.size);replace g:=U (g.o.carry lz c.size (fun b h1 E=>c.block b E (by have:=f.o;omega)));clear y c;have e3:=d.o.cell (i:=3) (by decide);have f3:=d.o.frozen 3;simp only [xI] at e3;obtain ⟨J,D⟩:=O1 (w8.setCell ⟨p,3,none⟩ (.string M));have a:Touch (fun b=>b=p) w8 J:=by rw [D];exact (Touch.refl _ _).trans (qD _)
 replace d:=U (show J.rowIs p 33 4 (xI (.int .i64 r.thr) (.slice ia r.ids.length ic) (.int .i64 q) (.string M)) from by
  rw [D];refine (d.o.set 3 _).congr fun j hj=>?_;rcases j with _|_|_|_|j <;> first|rfl|omega)
 replace A:=U (A.o.touch a f.o.1 f.o.2.1 f.o.2.2.1);replace l:=U (a.row l.o (by have:=f.o;omega));replace h:=U (h.o.trans (a.below (by have:=h.o.size;omega) fun k hk e=>by have:=f.o;omega));replace B:=U (J1 B.o a.size);replace g:=U (g.o.carry lz a.size (fun b h1 E=>a.block b E (by have:=f.o;omega)));have Z:=U D;clear a D;go_upto_region 6 with fail
 rw [<- Z.o];clear Z e3 f3;have HD:=U (lw A.o HU.o);obtain ⟨dn,c6⟩:=O1 (qd u SP);rw [<- c6] at HD z;clear c6;have hR:=l.o;have t0:=hR.cell (i:=0) (by decide);have t1:=hR.cell (i:=1) (by decide);have t2:=hR.cell (i:=2) (by decide);have t3:=hR.cell (i:=3) (by decide);have s0:=hR.frozen 0;have s1:=hR.frozen 1;have s2:=hR.frozen 2;have s3:=hR.frozen 3;simp only [xI] at t0 t1 t2 t3;clear hR;go_wp2_with fail;refine HD.o.mono ?_;clear HD;rintro e e7 ⟨rfl,h'⟩;subst h';by_cases hd:dn=0
 case neg =>
  have d1:(dn != 0)=true:=by simpa using hd
  rw [J8 hd] at z;clear hd;go_wp2;refine X4 (qk Tryz.results65 _ _ (w.heap.size+1) 33 _ (0,0) _ rfl (bq (Zk _ _ _ _ l.o)) Tryz.underlying33 rfl (by kernel_rfl) _ rfl) rfl ?_;refine ⟨u,HC.o,?_⟩;rw [z.o];exact pu (rB _ _ _ _ h.o (by omega))
 subst hd;rw [J3 (by decide)] at z;have S:=U (gH r.thr q r.ids M ia ic J (g.o.carry (X7 _) lz (fun _ _ _=>rfl)) R.o (by have:=Q.o;omega) P.o);rw [show (⟨r.thr,r.ids⟩:AuthV)=r from rfl] at S;obtain ⟨mb,c7⟩:=O1 (q6 ⟨q,M,r⟩);rw [<- c7] at S z;clear c7;have e0:=d.o.cell (i:=0) (by decide);have f0:=d.o.frozen 0;simp only [xI] at e0;have e1:=d.o.cell (i:=1) (by decide);have f1:=d.o.frozen 1;simp only [xI] at e1;have e2:=d.o.cell (i:=2) (by decide);have f2:=d.o.frozen 2;simp only [xI] at e2;have e3:=d.o.cell (i:=3) (by decide);have f3:=d.o.frozen 3;simp only [xI] at e3;go_wp2_with fail;refine S.o.mono ?_;clear S e0 f0 e1 f1 e2 f2 e3 f3 t0 s0 t1 s1 t2 s2 t3 s3;rintro e d2 ⟨rfl,s⟩;replace A:=U (A.o.below s);replace l:=U (qj s l.o l.o.lt);replace d:=U (qj s d.o d.o.lt);replace h:=U (O2 h s);replace B:=U (J1 B.o s.size);replace g:=U (g.o.below s lz lz s.size);clear s;have hR:=l.o;have t0:=hR.cell (i:=0) (by decide);have t1:=hR.cell (i:=1) (by decide);have t2:=hR.cell (i:=2) (by decide);have t3:=hR.cell (i:=3) (by decide);have s0:=hR.frozen 0;have s1:=hR.frozen 1;have s2:=hR.frozen 2;have s3:=hR.frozen 3;simp only [xI] at t0 t1 t2 t3;have e0:=d.o.cell (i:=0) (by decide);have f0:=d.o.frozen 0;simp only [xI] at e0;have e1:=d.o.cell (i:=1) (by decide);have f1:=d.o.frozen 1;simp only [xI] at e1;have e2:=d.o.cell (i:=2) (by decide);have f2:=d.o.frozen 2;simp only [xI] at e2;have e3:=d.o.cell (i:=3) (by decide);have f3:=d.o.frozen 3;simp only [xI] at e3;clear hR;cases mb with
 | false => rw [J3 (by decide)] at z;go_wp2;refine X4 (qk Tryz.results65 _ _ (w.heap.size+1) 33 _ (0,0) _ rfl (bq (Zk _ _ _ _ l.o)) Tryz.underlying33 rfl (by kernel_rfl) _ rfl) rfl ?_;refine ⟨u,HC.o,?_⟩;rw [z.o];exact pu (rB _ _ _ _ h.o (by omega))
 | true => rw [J8 rfl] at z;have b5:=O0 (w.heap.size+2<=K.heap.size) (by have:=f.o;omega);go_wp2;refine X4 (qk Tryz.results65 _ _ (w.heap.size+1) 33 _ (0,0) _ rfl (bq (Zk _ _ _ _ l.o)) Tryz.underlying33 rfl (by kernel_rfl) _ rfl) rfl ?_;refine ⟨u,HC.o,?_⟩;rw [z.o];have hc:=fun b (h1:K.heap.size<=b) (E:b<d2.heap.size)=>ZA (W:=d2) (.int .i64 r.thr) (.slice ia r.ids.length ic) (.int .i64 q) (.string M) (show b≠w.heap.size+1 by have:=b5.o;omega);exact ⟨ia,ic,rfl,d3.o,g.o.carry (by have:=b5.o;omega) (G8 ZT.symm) hc,rB _ _ _ _ h.o (by omega)⟩
theorem lC (v:JV) (x:Value) (w:World) (lo:Nat) (b:0<lo) (d:v.wt<=4294967296) (c:Rep w lo w.heap.size v x) (f:v.kind=5->qo v.names=true/\v.names.length=v.items.length) :
 Calls Tryz.prog 65 #[x] w (vE (xG v) w):=by
 refine (cA (j5 v) (st0 v) v x w (c.carry (X7 _) lz (fun _ _ _=>rfl)) (by unfold st0;split <;> simp) (fun w1 hb=>oH d b hb.size (c.below hb lz lz lz) f)).mono ?_;rintro e w' ⟨u,a,h⟩;unfold j5 at a;unfold st0 at h;by_cases hk:v.kind=5
 . rw [J8 hk] at a h;subst a;rw [<- tK hk];exact h
 . rw [J3 hk] at a h;subst a;have:xG v=(jW,10):=by unfold xG;rw [J8 hk]
   rw [this];rw [tV] at h;exact h
theorem tG (x:Int):xB x 0=x:=by unfold xB;simp
theorem tB (x:Int) (h:w32 x) (n:Nat) (r:n<32):xB x (n+1)=xB x n / 2+xB x n % 2 * 2147483648:=by
 obtain ⟨l,_⟩:=h;obtain ⟨X,rfl⟩:=zc0 l;have d:(2:Int) ^ (32 - n)=2 * 2 ^ (32 - (n+1)):=(by rw [show 32 - n=(32 - (n+1))+1 by omega,Int.pow_succ];omega);have e:(2:Int) ^ (n+1)=2 * 2 ^ n:=by rw [Int.pow_succ];omega
 have f:(2:Int) ^ n * 2 ^ (32 - (n+1))=2147483648:=by rw [<- Int.pow_add,show n+(32 - (n+1))=31 by omega];rfl
 unfold xB;rw [d,e];generalize hA:(2:Int) ^ n=A at *;generalize hB:(2:Int) ^ (32 - (n+1))=B at *;have m:0<A:=by rw [<- hA];exact Int.pow_pos (by omega)
 obtain ⟨q,b⟩:=O1 ((X:Int) / A);have o:(X:Int) % A=X - A * q:=by rw [b];have:=Int.emod_add_mul_ediv (X:Int) A;omega
 have c:(X:Int) / (2 * A)=q / 2:=by rw [b,Int.mul_comm 2 A,Int.ediv_ediv_of_nonneg (by omega)]
 have a:(X:Int) % (2 * A)=X - 2 * A * (q / 2):=by have:=Int.emod_add_mul_ediv (X:Int) (2 * A);rw [c] at this;omega
 rw [a,c,<- b,o];have i:((X:Int) - A * q) * (2 * B)+q=2 * (((X:Int) - A * q) * B)+q:=by rw [<- Int.mul_assoc,Int.mul_comm _ 2,Int.mul_assoc]
 rw [i];have j:((X:Int) - 2 * A * (q / 2)) * B=((X:Int) - A * q) * B+(q % 2) * (A * B):=by
  have:q=2 * (q / 2)+q % 2:=by omega
  have k:(X:Int) - 2 * A * (q / 2)=(X - A * q)+A * (q % 2):=by
   have g:A * q=A * (2 * (q / 2))+A * (q % 2):=by rw [<- Int.mul_add,<- this]
   have p:A * (2 * (q / 2))=2 * A * (q / 2):=by rw [<- Int.mul_assoc,Int.mul_comm A 2]
   omega
  rw [k,Int.add_mul,Int.mul_comm A (q % 2),Int.mul_assoc]
 rw [j,f];omega
theorem tP (x:Int) (n:Nat) (w:World) (h:w32 x) (g:n<=31) :
 Calls Tryz.prog 258 #[.int .u32 x,.int .i64 n] w fun e w'=>e=.returned (.int .u32 (xB x n))/\w=w':=by
 have a:=U h;clear h;go_enter Tryz.func258,Tryz.ntmps258;go_wp2
 go_loop [0,5] (fun y i=>∃k:Nat,k<=n/\i=.int .i64 k/\y=.int .u32 (xB x k)) (fun _ i=>n - (intOf i).toNat)
 case atStart=>exact ⟨0,by omega,rfl,by rw [tG]⟩
 case round =>
  obtain ⟨k,f,rfl,rfl⟩:=hrel;obtain ⟨c,d⟩:=eE a.o k (by omega);by_cases hlt:k<n
  . have b:=U (tB x a.o k (by omega));generalize xB x k=y at *;go_wp2
    go_round
    case rel=>exact ⟨k+1,by omega,by go_num,by rw [b.o]⟩
    case measure=>simp [intOf];omega
  . obtain rfl:k=n:=by omega
    go_wp2;go_ret;exact ⟨rfl,rfl⟩
theorem ZW (x:Int) (n:Nat) (w:World) (h:w32 x) (j:n<=31) :
 Calls Tryz.prog 274 #[.int .u32 x,.int .i64 n] w fun e w'=>e=.returned (.int .u32 (x / 2 ^ n))/\w=w':=by
 obtain ⟨a,c⟩:=h;go_enter Tryz.func274,Tryz.ntmps274;go_wp2
 go_loop [0,5] (fun y i=>∃k:Nat,k<=n/\i=.int .i64 k/\y=.int .u32 (x / 2 ^ k)) (fun _ i=>n - (intOf i).toNat)
 case atStart=>exact ⟨0,by omega,rfl,by simp⟩
 case round =>
  obtain ⟨k,g,rfl,rfl⟩:=hrel;have d:0<=x / 2 ^ k:=Int.ediv_nonneg a (by have:=Int.pow_pos (n:=2) (m:=k) (by omega);omega);have f:x / 2 ^ k<4294967296:=by have:=Int.ediv_le_self (2 ^ k) a;omega
  by_cases hlt:k<n
  . have b:=U (show x / 2 ^ (k+1)=x / 2 ^ k / 2 by rw [Int.pow_succ,Int.ediv_ediv_of_nonneg (by have:=Int.pow_pos (n:=2) (m:=k) (by omega);omega)]);generalize x / 2 ^ k=y at *;go_wp2
    go_round
    case rel=>exact ⟨k+1,by omega,by go_num,by rw [b.o]⟩
    case measure=>simp [intOf];omega
  . obtain rfl:k=n:=by omega
    go_wp2;go_ret;exact ⟨rfl,rfl⟩
