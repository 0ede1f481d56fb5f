import Derived.Test.YtkllbdlebjomkaaGreatDoorTn28
import Derived.Maps.Own
import Derived.Test.YtkllbdlebjomkaaGreatDoorTn23
set_option maxHeartbeats 4000000
set_option maxRecDepth 100000

namespace Go.Proofs.YtkllbdlebjomkaaGreatDoor
open Go.RowKit
abbrev ZK:=ByteArray × ByteArray × ByteArray
inductive Ver where
 | mac
 | tab (l:List ZK)
open Go.Maps
def nR (D:DataW Unit) (l:List ByteArray):Prop:=∀s:ByteArray,D.atKey (.string s.data.toList) (.lit (.int .i64 0))=.lit (.int .i64 (if jg l s then 1 else 0))
theorem iW:nR (.map []) []:=fun _=>rfl
theorem iY {D:DataW Unit} {l:List ByteArray} {x:ByteArray} (h:nR D l) (a:IsMap D):nR (D.put (.string x.data.toList) (.lit (.int .i64 1))) (l ++ [x]):=fun s=>by
 by_cases e:s=x
 . subst e;rw [atKey_put_same a (by simp [WideAt.IsKeyLit])];rw [J3 ((vJ _ _).2 (by simp))]
 . rw [atKey_put_other (fun e'=>e (by
    have e2:s.data.toList=x.data.toList:=by injection e'
    exact gL (by rw [X4,X4];exact e2))),h s]
   have:jg (l ++ [x]) s=jg l s:=(by rw [zc3,vJ,vJ];simp [e]);rw [this]
open Go.WideMaps
theorem dS:Keyed Tryz.prog 9:=string_keyed Y9
theorem dA (l:List ByteArray) (k:Nat) (h:k<l.length):xk (l.take k) (l.drop k)=if bH l[k] then (if jg (l.take k) l[k] then 7 else xk (l.take (k+1)) (l.drop (k+1))) else 3:=by rw [V3 h,xk,Z7 h]
theorem bv (l:List ByteArray) (a:Option Addr) (c:Nat) (w:World) (hS:qy w 0 w.heap.size a l) (hl:l.length<=1000) (hs:∀s ∈ l,s.size<=4294967296) :
 Calls Tryz.prog 129 #[.slice a l.length c] w fun e w'=>e=.returned (.int .i64 (xk [] l))/\O5 w w':=by
 have X:=U hS;have Y:=U hs;clear hS hs;have a0:=@run_makeMap Tryz.prog;go_enter Tryz.func129,Tryz.ntmps129;go_wp2;go_loopw [5,9] (fun _ i wr=>∃(k:Nat) (D:DataW Unit),k<=l.length/\i=.int .i64 k/\xk [] l=xk (l.take k) (l.drop k)/\nR D (l.take k)/\wr.ownsMap Tryz.prog 9 (plainElem (H:=Unit) Tryz.prog 3) w.heap.size k D/\O5 w wr) (fun _ i _=>l.length - (intOf i).toNat)
 case atStart=>exact ⟨0,.map [],by omega,rfl,rfl,iW,World.ownsMap_made _ _ _ _,O4⟩
 case round =>
  obtain ⟨k,D,hk,rfl,G,S,d,f⟩:=hrel;have h:=U G;have R:=U S;have y:=U f;clear G S;by_cases hlt:k<l.length
  . obtain ⟨b,a1,ha,_,hb,Z⟩:=(X.o.below f lz lz f.size).at k hlt;subst ha;have g:=U (dA l k hlt);have P:=Y.o l[k] (J8 hlt);have C:=U (iY (x:=l[k]) R.o (d.isMap));have r:=U (R.o l[k]);have K:l.take (k+1)=l.take k ++ [l[k]]:=Z7 hlt;have E:=U K;have z:=U (nh l[k] wr (by omega));obtain ⟨x,T⟩:=O1 (l[k]);rw [<- T] at Z g P C r E z;have p:Go.keyOf Tryz.prog 9 (.string x)=some (.string x.data.toList):=keyOf_string_mk Y9 (by unfold maxLen;omega);obtain ⟨o,v⟩:∃q,q=jp x.data.toList:=⟨_,rfl⟩;rw [<- v] at z;have F:=U (show bH x=(decide (x.size=64) && o) by unfold bH;rw [v]);clear T f v K;obtain ⟨L,J⟩:=O1 (jg (l.take k) x);rw [<- J] at g r;clear J;have m0:(k:Int)<(l.length:Int):=by omega
    by_cases h64:x.size=64
    . have hd:((x.size:Int) != 64)=false:=by simp;omega
      rw [X3 h64,Y4] at F;cases o
      . clear h64;go_wp2_with fail;refine z.o.mono ?_;rintro e Q ⟨rfl,rfl⟩;go_wp2;go_ret;exact ⟨zG (by rw [h.o,g.o,F.o];rfl),y.o⟩
      . clear h64;have B:=O0 (bH x=true) F.o;obtain ⟨u,I,m,_⟩:=d.lookup_int dS V9 Y6 (kO _) p;rw [r.o] at m;have A:=U (show u=if L=true then 1 else 0 by
         simp only [za0,zb7,za5] at m;exact m.symm)
        clear m;cases L
        . obtain rfl:u=0:=A.o;have W:=U d;clear d;go_wp2_with (first|(go_at_call 117;refine z.o.mono ?_;rintro e Q ⟨rfl,rfl⟩)|(at_mapUpdate;refine M4 _ rfl _ _ _ 115 rfl 9 3 dS V9 _ w.heap.size k _ rfl W.o (by unfold maxLen;omega) _ _ _ rfl rfl p _ [] (plainElem_int Y6 (by decide)) ?_;intro Q hown1 hgrow1)|go_in);have N:=U hown1;have M:=U hgrow1;clear hown1 hgrow1 I;go_wp2;go_roundw
          case rel => exact ⟨k+1,_,by omega,by go_num,by rw [h.o,g.o,B.o];rfl,by rw [E.o];exact C.o,N.o,y.o.grown M.o y.o.size (fun j hj=>by cases hj;exact J2 _)⟩
          case measure=>simp [intOf];omega
        . obtain rfl:u=1:=A.o;clear d;go_wp2_with (go_at_call 117;refine z.o.mono ?_;rintro e Q ⟨rfl,rfl⟩);go_ret;exact ⟨zG (by rw [h.o,g.o,B.o];rfl),y.o⟩
    . have hd:((x.size:Int) != 64)=true:=by simp;omega
      rw [X0 h64,M0] at F;clear h64 z;go_wp2;go_ret;exact ⟨zG (by rw [h.o,g.o,F.o];rfl),y.o⟩
  . have V:=U (show xk [] l=0 by
     rw [h.o,M7 (by omega)];rfl)
    clear d f;go_wp2;go_ret;exact ⟨zG V.o.symm,y.o⟩
theorem yh {t:Int} {l:List ByteArray} (h:¬(1<=l.length/\l.length<=16/\1<=t/\t<=l.length)):kJ t l=false:=by unfold kJ;rw [X0 h];rfl
theorem aj {t:Int} {l:List ByteArray} (h:1<=l.length/\l.length<=16/\1<=t/\t<=l.length):kJ t l=(xk [] l == 0):=by unfold kJ;rw [X3 h,Y4,zc3,J1,beq_iff_eq]
theorem nN (t:Int) (l:List ByteArray) (a:Option Addr) (c:Nat) (w:World) (r:qy w 0 w.heap.size a l) (u:∀s ∈ l,s.size<=4294967296) :
 Calls Tryz.prog 110 #[.agg #[.int .i64 t,.slice a l.length c]] w fun e w'=>e=.returned (.bool (kJ t l))/\O5 w w':=by
 have b:=O0 (O5 w (w.alloc (.cells #[.int .i64 t,.slice a l.length c] 39))) O4;have h:=U (fun h16:l.length<=16=>bv l a c _ (r.below b.o lz lz (by simp)) (by omega) u);clear r u;by_cases h1:l.length<1
 . have d:=U (yh (t:=t) (l:=l) (by omega));have k:decide ((l.length:Int)<1)=true:=by simp;omega
   go_enter Tryz.func110,Tryz.ntmps110;go_wp2;go_ret;exact ⟨qx d.o.symm,b.o⟩
 have k:decide ((l.length:Int)<1)=false:=by simp;omega
 by_cases h2:16<l.length
 . have d:=U (yh (t:=t) (l:=l) (by omega));have m:decide (16<(l.length:Int))=true:=by simp;omega
   go_enter Tryz.func110,Tryz.ntmps110;go_wp2;go_ret;exact ⟨qx d.o.symm,b.o⟩
 have m:decide (16<(l.length:Int))=false:=by simp;omega
 by_cases h3:t<1
 . have d:=U (yh (t:=t) (l:=l) (by omega));have o:decide (t<1)=true:=by simp;omega
   go_enter Tryz.func110,Tryz.ntmps110;go_wp2;go_ret;exact ⟨qx d.o.symm,b.o⟩
 have o:decide (t<1)=false:=by simp;omega
 by_cases h4:(l.length:Int)<t
 . have d:=U (yh (t:=t) (l:=l) (by omega));have p:decide ((l.length:Int)<t)=true:=by simp;omega
   go_enter Tryz.func110,Tryz.ntmps110;go_wp2;go_ret;exact ⟨qx d.o.symm,b.o⟩
 have p:decide ((l.length:Int)<t)=false:=by simp;omega
 have d:=U (aj (t:=t) (l:=l) (by omega));have i:=U (h.o (by omega));clear h;obtain ⟨E,j⟩:=O1 (xk [] l);rw [<- j] at d i;clear j;go_enter Tryz.func110,Tryz.ntmps110;go_wp2_with fail;refine i.o.mono ?_;rintro e q ⟨rfl,f⟩;have g:=U (b.o.trans (f.mono (by simp)));clear f;go_wp2;go_ret;exact ⟨qx d.o.symm,g.o⟩
open Go.Shelf Go.Sort
theorem dI (n:Int) (w:World):Calls Tryz.prog 47 #[.int .i64 n] w fun e w'=>e=.returned (.agg #[.int .u8 2,.int .i64 n,.string ⟨#[]⟩,.slice none 0 0,.slice none 0 0])/\w'=w.alloc (.cells #[.int .u8 2,.int .i64 n,.string ⟨#[]⟩,.slice none 0 0,.slice none 0 0] 26):=by go_enter Tryz.func47,Tryz.ntmps47;go_wp2;exact Z8 (X8 Tryz.results47 _ _ w.heap.size 26 _ (0,0) _ rfl (Z5 w _) J7 rfl (by kernel_rfl)) rfl ⟨rfl,rfl⟩
def dO (t:Int) (l:List ByteArray) (w:World) (e:Ending) (w':World):Prop :=
 ∃g ai ci,e=.returned (.slice (some ⟨g,0,none⟩) 2 2)/\w'.heap[g]?=some (.cells #[.string ⟨#[107,101,121,105,100,115]⟩,.int .u8 4,.int .i64 0,.string ⟨#[]⟩,.slice none 0 0,.slice ai l.length ci,.string ⟨#[116,104,114,101,115,104,111,108,100]⟩,.int .u8 2,.int .i64 t,.string ⟨#[]⟩,.slice none 0 0,.slice none 0 0] 102 (0,0)) /\
  Rep w' w.heap.size g (qe l) (.agg #[.int .u8 4,.int .i64 0,.string ⟨#[]⟩,.slice none 0 0,.slice ai l.length ci])/\O5 w w'/\w.heap.size<=g
theorem dE (t:Int) (l:List ByteArray) (a:Option Addr) (c:Nat) (w:World) (H:qy w 0 w.heap.size a l) (I:l.length<=4294967296) :
 Calls Tryz.prog 146 #[.agg #[.int .i64 t,.slice a l.length c]] w (dO t l w):=by
 obtain ⟨W,z⟩:=O1 (w.alloc (.cells #[.int .i64 t,.slice a l.length c] 39));have o:=O7 z
 have A:=O9 z
 have B:=U (show ∀w':World,O5 W w'->w'.cell? ⟨w.heap.size,0,none⟩=some (.int .i64 t)/\w'.cell? ⟨w.heap.size,1,none⟩=some (.slice a l.length c)/\w.heap.size<w'.heap.size from fun w' h=>by
  have E:=(h.block _ (qz A)).trans A;exact ⟨qq E rfl,qq E rfl,X1 (qz A) h.size⟩)
 have F:=U (show ∀w':World,O5 W w'->Calls Tryz.prog 148 #[.slice a l.length c] w' (fun e f=>∃k m,e=.returned (.agg #[.int .u8 4,.int .i64 0,.string ⟨#[]⟩,.slice none 0 0,.slice k l.length m])/\Hid (Rep f W.heap.size f.heap.size (qe l) (.agg #[.int .u8 4,.int .i64 0,.string ⟨#[]⟩,.slice none 0 0,.slice k l.length m]))/\O5 W f/\f.cell? ⟨w.heap.size,0,none⟩=some (.int .i64 t)/\f.cell? ⟨w.heap.size,1,none⟩=some (.slice a l.length c)/\w.heap.size<f.heap.size) from fun w' h=>by
  have v:=o.trans (h.mono o.size);refine (mN l a c w' (H.below v lz lz v.size) I).mono ?_;rintro e f ⟨k,m,rfl,G,i⟩;have s:=h.trans (i.mono h.size);exact ⟨k,m,rfl,U (Rep.carry h.size lz (fun _ _ _=>rfl) _ _ G),s,B.o _ s⟩)
 have C:=U (show ∀w':World,O5 W w'->Calls Tryz.prog 47 #[.int .i64 t] w' (fun e f=>e=.returned (.agg #[.int .u8 2,.int .i64 t,.string ⟨#[]⟩,.slice none 0 0,.slice none 0 0])/\O5 w' f/\O5 W f/\f.cell? ⟨w.heap.size,0,none⟩=some (.int .i64 t)/\f.cell? ⟨w.heap.size,1,none⟩=some (.slice a l.length c)/\w.heap.size<f.heap.size) from fun w' h=>by
  refine (dI t w').mono ?_;rintro e f ⟨rfl,rfl⟩;have i:O5 w' (w'.alloc (.cells #[.int .u8 2,.int .i64 t,.string ⟨#[]⟩,.slice none 0 0,.slice none 0 0] 26)):=O4;have s:=h.trans (i.mono h.size);exact ⟨rfl,i,s,B.o _ s⟩)
 have y:=U o;have D:=U z;clear H o A z;have d:O5 W W.drew:=(Z0 _ _).drew;obtain ⟨p,q,g⟩:=B.o W (Z0 _ _);go_enter Tryz.func146,Tryz.ntmps146;go_upto_region 1 with fail
 rw [<- D.o];clear D
 go_region_held3 (fun w'=>w'.cell? ⟨w.heap.size,0,none⟩=some (.int .i64 t)/\w'.cell? ⟨w.heap.size,1,none⟩=some (.slice a l.length c)) (first|(with_reducible exact ⟨p,q⟩)|(with_reducible exact ⟨(ql _ g).trans p,(ql _ g).trans q⟩)|(go_keep;done)) (first|(go_at_call 148;(with_reducible refine (F.o _ d).mono ?_);rintro e f ⟨k,m,rfl,j,d,p,q,g⟩)|(go_at_call 47;(with_reducible refine (C.o _ d).mono ?_);rintro e f ⟨rfl,u,d,p,q,g⟩;replace j:=U (j.o.below u lz lz u.size))|(go_at_call 47;(with_reducible refine (C.o _ d).mono ?_);rintro e f ⟨rfl,-,d,p,q,g⟩))
 all_goals
  have r:=U d;clear d p q g;go_wp2;go_ret;have x:=Z3 y.o.size r.o.size;exact ⟨_,k,m,rfl,Z5 _ _,Rep.carry y.o.size lz (fun b _ o=>X6 _ _ _ o) _ _ j.o,(y.o.trans (r.o.mono y.o.size)).alloc x _,x⟩
theorem xl {v:JV} {y:ByteArray} {k:Nat} {st:PS}:(qv v y k st).1.length<=k/\(∀s ∈ (qv v y k st).1,s.size<=v.wt)/\(qv v y k st).2.asked.length<=st.asked.length+1:=by
 unfold qv;split
 . exact ⟨J0 _,fun s hs=>(by cases hs),za1 _⟩
 . split
   . exact ⟨J0 _,fun s hs=>(by cases hs),za1 _⟩
   . rename_i it hit;split
     . exact ⟨J0 _,fun s hs=>(by cases hs),za1 _⟩
     . split
       . exact ⟨J0 _,fun s hs=>(by cases hs),za1 _⟩
       . split
         . rename_i h _;refine ⟨by rw [X7];omega,fun s hs=>?_,by simp⟩;obtain ⟨x,b,rfl⟩:=H7.1 hs;obtain ⟨i,hi,rfl⟩:=Y0 b;have c:=JV.wts_get it.items i hi;have d:=it.wt_bd;have e:=it.items[i].wt_bd;obtain ⟨j,a,rfl⟩:=Y0 (vW hit).2;have f:=JV.wts_get v.items j a;have g:=v.wt_bd;omega
         . exact ⟨J0 _,fun s hs=>(by cases hs),za1 _⟩
def wD (o m lo hi:Nat) (v:JV) (an ai:Option Addr) (cn ci:Nat) (r:AuthV × PS) (w:World) (e:Ending) (w':World):Prop :=
 (∃ia ic,e=.returned (.agg #[.int .i64 r.1.thr,.slice ia r.1.ids.length ic])/\r.1.ids.length<=ic/\qy w' w.heap.size w'.heap.size ia r.1.ids)/\wC o m lo hi v an ai cn ci r.2 w w'
theorem d8 {o m lo hi:Nat} {v:JV} {an ai:Option Addr} {cn ci:Nat} {st:PS} {w:World} (h:zH o m lo hi v an ai cn ci st w) (hv:v.wt<=4294967296) (ha:st.asked.length<=4294967000) :
 Calls Tryz.prog 100 #[.pointer (some ⟨o,0,none⟩)] w (wD o m lo hi v an ai cn ci (wu v st) w):=by
 have b1:=h.lt;obtain ⟨W,hW⟩:=O1 (w.alloc (.cells #[.int .i64 0,.slice none 0 0] 39));have hb:=O7 hW
 have c0:W.rowIs w.heap.size 39 2 (ws (.int .i64 0) (.slice none 0 0)):=by rw [hW];exact pJ w _ _ _
 have HT:=U (rZ qt 16 (h.below hb) (by decide) (by omega));have k:=U (@xl v qt 16 st);have y:=O0 (wu v st=(if (qG v zK 1 ((qv v qt 16 st).1.length:Int) (wh v st)).2.err≠0 then dt else ⟨(qG v zK 1 ((qv v qt 16 st).1.length:Int) (wh v st)).1,(qv v qt 16 st).1⟩,(qG v zK 1 ((qv v qt 16 st).1.length:Int) (wh v st)).2)) rfl;have A:=O0 (wh v st=(if (qv v qt 16 st).1=[] then (qv v qt 16 st).2.fail 4 else (qv v qt 16 st).2).fail (xk [] (qv v qt 16 st).1)) rfl;obtain ⟨K,hK⟩:=O1 (wu v st);rw [<- hK] at y ⊢;obtain ⟨R,hR⟩:=O1 (qv v qt 16 st);rw [<- hR] at HT k y A;obtain ⟨S3,c2⟩:=O1 (wh v st);rw [<- c2] at y A;have HB:=U hb;have c7:=U c0;have HW:=U hW;have d:=O0 (o<w.heap.size/\m<w.heap.size/\hi<=w.heap.size/\w.heap.size<W.heap.size) (⟨b1.1,b1.2.1,b1.2.2,c0.lt⟩);have HA:=U ha;have HV:=U hv;clear h b1 hb c0 hW hK hR c2 ha hv;obtain ⟨L,S1⟩:=R;dsimp only at HT k y A;go_enter Tryz.func100,Tryz.ntmps100;go_upto_region 1 with fail
 rw [<- HW.o];clear HW;go_wp2_with fail;refine HT.o.mono ?_;clear HT;rintro r w1 ⟨⟨E,c1,rfl,b4,c5⟩,c3,b2⟩;have b3:=O0 (L.length<=c1) b4;clear b4;have a8:=O0 (qy w1 W.heap.size w1.heap.size E L) c5;have a6:=U c3;have a9:=U b2;have a7:=U (b2.row c7.o (by have:=d.o;omega));have b0:=U b2.size;clear c5 c3 b2;by_cases hL:L=[]
 . have d0:((L.length:Int) == 0)=true:=by rw [hL];rfl
   rw [J3 hL] at A;clear hL;go_wp2_with fail;refine (vz 4 a6.o).mono ?_;rintro r w2 ⟨rfl,c4,H⟩;have l:=U c4;have F:=U (a9.o.trans (H.mono fun _ _ h=>h));have q:=U (H.row a7.o (by have:=d.o;omega));have u:=O0 (qy w2 W.heap.size w2.heap.size E L) (a8.o.carry lz H.size (fun b h1 h2=>H.block b h2 (by have:=d.o;omega)));have G:=U (Z3 b0.o H.size);clear c4 H a6 a9 a7 a8 b0;generalize a4:S1.fail 4=S2 at l A;have a5:=U (show S2.asked.length<=st.asked.length+1 by rw [<- a4,xz];exact k.o.2.2);clear a4;have B:=U (bv L E c1 w2 (u.o.carry (J0 _) lz (fun _ _ _=>rfl)) (by have:=k.o.1;omega) (fun s hs=>Z3 (k.o.2.1 s hs) HV.o));obtain ⟨ie,a2⟩:=O1 (xk [] L);rw [<- a2] at B A;clear a2;go_wp2_with fail;refine B.o.mono ?_;clear B;rintro r w3 ⟨rfl,c⟩;have I:=U (l.o.below c);have M:=U (qj c q.o q.o.lt);have V:=U (F.o.trans (Touch.of_below c lz));have S:=O0 (qy w3 W.heap.size w3.heap.size E L) (u.o.below c lz lz c.size);have Z:=U (Z3 G.o c.size);clear c l q F u G;go_wp2_with fail;refine (vz ie I.o).mono ?_;rintro r w4 ⟨rfl,C,f⟩;rw [<- A.o] at C;have b5:=U (show S3.asked.length<=st.asked.length+1 by rw [A.o,xz];exact a5.o);have J:=U C;have P:=U (f.row M.o (by have:=d.o;omega));have X:=U (V.o.trans (f.mono fun _ _ h=>h));have T:=O0 (qy w4 W.heap.size w4.heap.size E L) (S.o.carry lz f.size (fun b h1 h2=>f.block b h2 (by have:=d.o;omega)));have a0:=U (Z3 Z.o f.size);clear C f I M V S Z A;have j:=U (sS zK 1 (L.length:Int) J.o (by decide) (by have:=b5.o;have:=HA.o;omega));obtain ⟨N,hN⟩:=O1 (qG v zK 1 (L.length:Int) S3);rw [<- hN] at j y;clear hN;obtain ⟨nn,S4⟩:=N;dsimp only at j y;go_wp2_with fail;refine j.o.mono ?_;clear j;rintro r D ⟨rfl,a3,g⟩;have z:=U a3;have e:=g.row P.o (by have:=d.o;omega);have Q:=U e;have b7:=U (X.o.trans (g.mono fun _ _ h=>h));have b6:=O0 (qy D W.heap.size D.heap.size E L) (T.o.carry lz g.size (fun b h1 h2=>g.block b h2 (by have:=d.o;omega)));have c9:=U (Z3 a0.o g.size);clear a3 g J P X T a0;go_wp2_with fail;refine (QE z.o).mono ?_;rintro r w6 ⟨rfl,h6⟩;subst h6;have t0:=e.cell (i:=0) (by decide);have t1:=e.cell (i:=1) (by decide);have s0:=e.frozen 0;have s1:=e.frozen 1;simp only [ws] at t0 t1;clear e;have Y:=O0 (Touch (fun b=>b=o\/b=m) w D) ((Touch.of_below HB.o lz).trans b7.o);by_cases he:S4.err=0
   . have e1:(S4.err != 0)=false:=by simpa using he
     rw [Z6 (by simp [he])] at y;clear he;go_wp2;refine Z8 (X8 Tryz.results100 _ _ w.heap.size 39 _ (0,0) _ rfl (xt (set2 _ _ Q.o)) Tryz.underlying39 rfl (by kernel_rfl)) rfl ?_;unfold wD;rw [y.o];have a:Touch (fun b=>b=w.heap.size) D ((D.setCell ⟨w.heap.size,0,none⟩ (.int .i64 nn)).setCell ⟨w.heap.size,1,none⟩ (.slice E L.length c1)):=(qp _).trans (qp _);refine ⟨⟨E,c1,rfl,b3.o,?_⟩,z.o.touch a (by have:=d.o;omega) (by have:=d.o;omega) d.o.2.2.1,?_⟩
     . refine b6.o.carry (by have:=d.o;omega) a.size (fun b h1 h2=>a.block b h2 (by have:=d.o;omega))
     . exact ((Y.o.setCell (p:=⟨w.heap.size,0,none⟩) (.inr lz) _).setCell (p:=⟨w.heap.size,1,none⟩) (.inr lz) _)
   . have e1:(S4.err != 0)=true:=by simpa using he
     rw [J3 he] at y;clear he;go_wp2;refine Z8 (X8 Tryz.results100 _ _ w.heap.size 39 _ (0,0) _ rfl (xt (set2 _ _ Q.o)) Tryz.underlying39 rfl (by kernel_rfl)) rfl ?_;unfold wD;rw [y.o];have a:Touch (fun b=>b=w.heap.size) D ((D.setCell ⟨w.heap.size,0,none⟩ (.int .i64 0)).setCell ⟨w.heap.size,1,none⟩ (.slice none 0 0)):=(qp _).trans (qp _);refine ⟨⟨none,0,rfl,J2 _,.inl rfl⟩,z.o.touch a (by have:=d.o;omega) (by have:=d.o;omega) d.o.2.2.1,?_⟩;exact ((Y.o.setCell (p:=⟨w.heap.size,0,none⟩) (.inr lz) _).setCell (p:=⟨w.heap.size,1,none⟩) (.inr lz) _)
 . have d0:((L.length:Int) == 0)=false:=by
    cases L with
    | nil=>exact absurd rfl hL
    | cons x r=>simp;omega
   rw [Z6 hL] at A;clear hL;have a5:=O0 (S1.asked.length<=st.asked.length+1) k.o.2.2;have l:=U a6.o;have F:=U a9.o;have q:=U a7.o;have u:=U a8.o;have G:=U b0.o;clear a6 a9 a7 a8 b0;obtain ⟨w2,c6⟩:=O1 w1;obtain ⟨S2,a4⟩:=O1 S1;rw [<- c6] at l F q u G ⊢;rw [<- a4] at l a5 A;clear c6 a4;have B:=U (bv L E c1 w2 (u.o.carry (J0 _) lz (fun _ _ _=>rfl)) (by have:=k.o.1;omega) (fun s hs=>Z3 (k.o.2.1 s hs) HV.o));obtain ⟨ie,a2⟩:=O1 (xk [] L);rw [<- a2] at B A;clear a2;go_wp2_with fail;refine B.o.mono ?_;clear B;rintro r w3 ⟨rfl,c⟩;have I:=U (l.o.below c);have M:=U (qj c q.o q.o.lt);have V:=U (F.o.trans (Touch.of_below c lz));have S:=O0 (qy w3 W.heap.size w3.heap.size E L) (u.o.below c lz lz c.size);have Z:=U (Z3 G.o c.size);clear c l q F u G;go_wp2_with fail;refine (vz ie I.o).mono ?_;rintro r w4 ⟨rfl,C,f⟩;rw [<- A.o] at C;have b5:=U (show S3.asked.length<=st.asked.length+1 by rw [A.o,xz];exact a5.o);have J:=U C;have P:=U (f.row M.o (by have:=d.o;omega));have X:=U (V.o.trans (f.mono fun _ _ h=>h));have T:=O0 (qy w4 W.heap.size w4.heap.size E L) (S.o.carry lz f.size (fun b h1 h2=>f.block b h2 (by have:=d.o;omega)));have a0:=U (Z3 Z.o f.size);clear C f I M V S Z A;have j:=U (sS zK 1 (L.length:Int) J.o (by decide) (by have:=b5.o;have:=HA.o;omega));obtain ⟨N,hN⟩:=O1 (qG v zK 1 (L.length:Int) S3);rw [<- hN] at j y;clear hN;obtain ⟨nn,S4⟩:=N;dsimp only at j y;go_wp2_with fail;refine j.o.mono ?_;clear j;rintro r D ⟨rfl,a3,g⟩;have z:=U a3;have e:=g.row P.o (by have:=d.o;omega);have Q:=U e;have b7:=U (X.o.trans (g.mono fun _ _ h=>h));have b6:=O0 (qy D W.heap.size D.heap.size E L) (T.o.carry lz g.size (fun b h1 h2=>g.block b h2 (by have:=d.o;omega)));have c9:=U (Z3 a0.o g.size);clear a3 g J P X T a0;go_wp2_with fail;refine (QE z.o).mono ?_;rintro r w6 ⟨rfl,h6⟩;subst h6;have t0:=e.cell (i:=0) (by decide);have t1:=e.cell (i:=1) (by decide);have s0:=e.frozen 0;have s1:=e.frozen 1;simp only [ws] at t0 t1;clear e;have Y:=O0 (Touch (fun b=>b=o\/b=m) w D) ((Touch.of_below HB.o lz).trans b7.o);by_cases he:S4.err=0
   . have e1:(S4.err != 0)=false:=by simpa using he
     rw [Z6 (by simp [he])] at y;clear he;go_wp2;refine Z8 (X8 Tryz.results100 _ _ w.heap.size 39 _ (0,0) _ rfl (xt (set2 _ _ Q.o)) Tryz.underlying39 rfl (by kernel_rfl)) rfl ?_;unfold wD;rw [y.o];have a:Touch (fun b=>b=w.heap.size) D ((D.setCell ⟨w.heap.size,0,none⟩ (.int .i64 nn)).setCell ⟨w.heap.size,1,none⟩ (.slice E L.length c1)):=(qp _).trans (qp _);refine ⟨⟨E,c1,rfl,b3.o,?_⟩,z.o.touch a (by have:=d.o;omega) (by have:=d.o;omega) d.o.2.2.1,?_⟩
     . refine b6.o.carry (by have:=d.o;omega) a.size (fun b h1 h2=>a.block b h2 (by have:=d.o;omega))
     . exact ((Y.o.setCell (p:=⟨w.heap.size,0,none⟩) (.inr lz) _).setCell (p:=⟨w.heap.size,1,none⟩) (.inr lz) _)
   . have e1:(S4.err != 0)=true:=by simpa using he
     rw [J3 he] at y;clear he;go_wp2;refine Z8 (X8 Tryz.results100 _ _ w.heap.size 39 _ (0,0) _ rfl (xt (set2 _ _ Q.o)) Tryz.underlying39 rfl (by kernel_rfl)) rfl ?_;unfold wD;rw [y.o];have a:Touch (fun b=>b=w.heap.size) D ((D.setCell ⟨w.heap.size,0,none⟩ (.int .i64 0)).setCell ⟨w.heap.size,1,none⟩ (.slice none 0 0)):=(qp _).trans (qp _);refine ⟨⟨none,0,rfl,J2 _,.inl rfl⟩,z.o.touch a (by have:=d.o;omega) (by have:=d.o;omega) d.o.2.2.1,?_⟩;exact ((Y.o.setCell (p:=⟨w.heap.size,0,none⟩) (.inr lz) _).setCell (p:=⟨w.heap.size,1,none⟩) (.inr lz) _)
theorem uR {v:JV} {y:ByteArray} {st:PS}:(qw v y st).1.size<=v.wt:=by
 unfold qw;split
 . exact J0 _
 . split
   . exact J0 _
   . rename_i it hit;split
     . have b:=it.wt_bd;obtain ⟨j,a,rfl⟩:=Y0 (vW hit).2;have c:=JV.wts_get v.items j a;have d:=v.wt_bd;show v.items[j].t.size<=v.wt;omega
     . exact J0 _
theorem d9 {v:JV} {y:ByteArray} {l h:Int} {st:PS} (a:l<=h) (b:0<=l):0<=(qG v y l h st).1/\(qG v y l h st).1<=h:=by
 unfold qG;split
 . exact ⟨Int.le_refl _,by show (0:Int)<=h;omega⟩
 . split
   . exact ⟨Int.le_refl _,by show (0:Int)<=h;omega⟩
   . split
     . exact ⟨Int.le_refl _,by show (0:Int)<=h;omega⟩
     . split
       . exact ⟨Int.le_refl _,by show (0:Int)<=h;omega⟩
       . rename_i it _ _ h1;show 0<=it.n/\it.n<=h;omega
theorem iG {v:JV} {y:ByteArray} {a:Nat} {st:PS}:(qf v y a st).2.asked.length<=st.asked.length+1:=by
 unfold qf;split
 . exact za1 _
 . split
   . exact za1 _
   . split
     . exact za1 _
     . split
       . exact za1 _
       . simp
theorem iB {v:JV} {y:ByteArray} {st:PS}:(zq v y st).2.asked.length<=st.asked.length+1:=by
 unfold zq;split
 . exact za1 _
 . split
   . exact za1 _
   . split
     . exact za1 _
     . simp
theorem lq {v:JV} {st:PS}:(wu v st).2.asked.length<=st.asked.length+2:=by
 have a:=(@xl v qt 16 st).2.2;have b:(wh v st).asked.length<=st.asked.length+1:=by
  unfold wh;rw [xz];split
  . rw [xz];exact a
  . exact a
 have c:=@gf v zK 1 ((qv v qt 16 st).1.length:Int) (wh v st);show (yZ v st).2.asked.length<=_;unfold yZ;omega
theorem uN {v:JV} {st:PS} (d:v.wt<=4294967296):jH (wu v st).1:=by
 unfold wu;split
 . show jH dt;exact ⟨⟨by decide,by decide⟩,by decide,fun s hs=>(by cases hs)⟩
 . have a:=@xl v qt 16 st;have b:(yZ v st).1<=16/\0<=(yZ v st).1:=by
    unfold yZ;by_cases h:(qv v qt 16 st).1=[]
    . have:(wh v st).err≠0:=by
       unfold wh;rw [J3 h,h];generalize (qv v qt 16 st).2=q;unfold PS.fail;by_cases hq:q.err=0
       . simp [hq]
       . simp [hq]
      unfold qG;rw [J3 this];show (0:Int)<=16/\(0:Int)<=0;exact ⟨by decide,by decide⟩
    . have c:0<(qv v qt 16 st).1.length:=List.length_pos_iff.2 h;have:=@d9 v zK 1 ((qv v qt 16 st).1.length:Int) (wh v st) (by omega) (by omega);omega
   exact ⟨⟨by show -9223372036854775808<=(yZ v st).1;omega,by show (yZ v st).1<=9223372036854775807;omega⟩,by show (qv v qt 16 st).1.length<=_;omega,fun s hs=>Z3 (a.2.1 s hs) d⟩
def rgN (u:JV) (st:PS):ByteArray × PS:=qw u xH st
def rgA (u:JV) (st:PS):AuthV × PS:=wu u (rgN u st).2
def rgT (u:JV) (st:PS):Bool × PS:=zq u xL (rgA u st).2
def rgP (u:JV) (st:PS):(List ByteArray × List ByteArray) × PS:=if qI u jF (rgT u st).2 then (([],(qv u jF 32 (rgT u st).2).1),(qv u jF 32 (rgT u st).2).2) else (((qv u vp 32 (rgT u st).2).1,[]),(qv u vp 32 (rgT u st).2).2)
def rgX (u:JV) (st:PS):DelegV:=⟨(rgN u st).1,(rgA u st).1,(rgT u st).1,(rgP u st).1.1,(rgP u st).1.2⟩
def nS (u:JV) (st:PS):DelegV × Int:=if qb u (rgP u st).2≠0 then (vg,qb u (rgP u st).2) else if qC (rgX u st) then (rgX u st,0) else (vg,3)
theorem ak {v:JV} (h:v.kind=5):nS v ⟨[],0⟩=xg v:=by unfold xg;rw [Z6 (by simp [h])];rfl
theorem aw:nS zeroJ ⟨[],10⟩=(vg,10):=by decide +kernel
theorem Qo {u:JV} {st:PS} (h:st.asked.length<=1000):(rgN u st).2.asked.length<=1001/\(rgA u st).2.asked.length<=1003/\(rgT u st).2.asked.length<=1004:=by
 have c:=@ff u xH st;have d:=@lq u (rgN u st).2;have e:=@iB u xL (rgA u st).2;have a:(rgN u st).2.asked.length<=1001:=by unfold rgN;omega
 have b:(rgA u st).2.asked.length<=1003:=by unfold rgA;omega
 exact ⟨a,b,by unfold rgT;omega⟩
def bgA (u:JV) (st:PS):AuthV × PS:=wu u st
def bgB (u:JV) (st:PS):Int × PS:=qG u wl 1 32 (bgA u st).2
def bgP (u:JV) (st:PS):ByteArray × PS:=qw u wB (bgB u st).2
def nA (u:JV) (st:PS):BinsV × Int:=if qb u (bgP u st).2≠0 then (k8,qb u (bgP u st).2) else if zh ⟨(bgB u st).1,(bgP u st).1,(bgA u st).1⟩ then (⟨(bgB u st).1,(bgP u st).1,(bgA u st).1⟩,0) else (k8,3)
theorem ay {v:JV} (h:v.kind=5):nA v ⟨[],0⟩=xB v:=by unfold xB;rw [Z6 (by simp [h])];rfl
theorem ag:nA zeroJ ⟨[],10⟩=(k8,10):=by decide +kernel
theorem Qe {u:JV} {st:PS} (h:st.asked.length<=1000):(bgA u st).2.asked.length<=1002/\(bgB u st).2.asked.length<=1003:=by
 have b:=@lq u st;have c:=@gf u wl 1 32 (bgA u st).2;have a:(bgA u st).2.asked.length<=1002:=by unfold bgA;omega
 exact ⟨a,by unfold bgB;omega⟩
theorem lj (x:DelegV):qC x=(zw x.name.data.toList && (!pu x.name && (kJ x.au.thr x.au.ids && (if 0<x.paths.length then decide (x.pres.length=0) && (decide (x.paths.length<=32) && x.paths.all zu) else decide (0<x.pres.length) && (decide (x.pres.length<=32) && x.pres.all preB))))):=by
 unfold qC jJ;have a:(x.paths≠[])=(0<x.paths.length):=by rw [List.length_pos_iff]
 have b:x.pres.isEmpty=decide (x.pres.length=0):=by cases x.pres <;> rfl
 have c:(!x.pres.isEmpty)=decide (0<x.pres.length):=by cases x.pres <;> rfl
 simp only [a,Bool.and_assoc];congr 3;split
 . rw [b]
 . rw [c]
theorem vI (x:DelegV) (ia pa qa:Option Addr) (ic pc qc:Nat) (w:World) (hI:DelegIn w 0 w.heap.size x ia pa qa) (hf:DelegFits x) :
 Calls Tryz.prog 108 #[.agg #[.string x.name,.int .i64 x.au.thr,.slice ia x.au.ids.length ic,.bool x.term,.slice pa x.paths.length pc,.slice qa x.pres.length qc]] w fun e w'=>e=.returned (.bool (qC x))/\O5 w w':=by
 have c:=U (lj x);obtain ⟨V,hV⟩:=O1 (qC x);rw [<- hV] at c ⊢;clear hV;obtain ⟨s,⟨k,i⟩,l,u,v⟩:=x;dsimp only at c hI hf ⊢;obtain ⟨Z,Q,L,M⟩:=hf;obtain ⟨S,T,X⟩:=hI;dsimp only at Z Q L M S T X;obtain ⟨W,N⟩:=O1 (w.alloc (.cells #[.string s,.int .i64 k,.slice ia i.length ic,.bool l,.slice pa u.length pc,.slice qa v.length qc] 58));have g:=O7 N
 have H:=O9 N
 have q:=U g;have z:=U H;have Y:=U N;have q0:=qq H (j:=0) rfl;have q1:=qq H (j:=1) rfl;have q2:=qq H (j:=2) rfl;have r:=U (fun w=>xA s w (by omega));have y:=U (fun w=>nB s w);have I:=U (nN k i ia ic W (S.below g lz lz g.size) Q.2.2);have J:=U (fun (d:World) (h:O5 w d)=>ux u pa pc d (T.below h lz lz h.size) L.1 L.2);have K:=U (fun (d:World) (h:O5 w d)=>mI v qa qc d (X.below h lz lz h.size) M.1 M.2);clear g H N Z Q L M S T X;obtain ⟨b1,C⟩:∃b,b=zw s.data.toList:=⟨_,rfl⟩;obtain ⟨b2,D⟩:∃b,b=pu s:=⟨_,rfl⟩;obtain ⟨b3,E⟩:∃b,b=kJ k i:=⟨_,rfl⟩;rw [<- C] at r c;rw [<- D] at y c;rw [<- E] at I c;clear C D E;go_enter Tryz.func108,Tryz.ntmps108;go_upto_region 1 with fail
 rw [<- Y.o];clear Y;cases b1
 . go_wp2_with (go_at_call 87;refine (r.o _).mono ?_;rintro e d ⟨rfl,rfl⟩)
   go_ret;exact ⟨qx c.o.symm,q.o⟩
 cases b2
 case true =>
  go_wp2_with (first|(go_at_call 87;refine (r.o _).mono ?_;rintro e d ⟨rfl,rfl⟩)|(go_at_call 111;refine (y.o _).mono ?_;rintro e d ⟨rfl,rfl⟩))
  go_ret;exact ⟨qx c.o.symm,q.o⟩
 cases b3
 . go_wp2_with (first|(go_at_call 87;refine (r.o _).mono ?_;rintro e d ⟨rfl,rfl⟩)|(go_at_call 111;refine (y.o _).mono ?_;rintro e d ⟨rfl,rfl⟩)|(go_at_call 110;refine I.o.mono ?_;rintro e d ⟨rfl,f⟩;have a:=U (O2 q f);clear f))
   go_ret;exact ⟨qx c.o.symm,a.o⟩
 obtain ⟨A,hA⟩:=O1 ((decide (u.length<=32) && u.all zu));obtain ⟨B,hB⟩:=O1 ((decide (v.length<=32) && v.all preB));rw [<- hA] at J c;rw [<- hB] at K c;clear hA hB;obtain ⟨p,F⟩:=O1 u.length;obtain ⟨nq,G⟩:=O1 v.length;rw [<- F] at J c z ⊢;rw [<- G] at K c z ⊢;clear F G;go_upto_region 3 with (first|(go_at_call 87;refine (r.o _).mono ?_;rintro e d ⟨rfl,rfl⟩)|(go_at_call 111;refine (y.o _).mono ?_;rintro e d ⟨rfl,rfl⟩)|(go_at_call 110;refine I.o.mono ?_;rintro e d ⟨rfl,f⟩;have a:=U (O2 q f);have R:=(f.block _ (qz z.o)).trans z.o;have z4:=qq R (j:=4) rfl;have z5:=qq R (j:=5) rfl;clear f R))
 clear r y I z q0 q1 q2;by_cases hp0:0<p
 . have d1:decide (0<(p:Int))=true:=by rw [J1];omega
   have d4:decide (0<p)=true:=by rw [J1];omega
   by_cases hq0:nq=0
   . have P:((nq:Int) == 0)=true:=by rw [beq_iff_eq];omega
     have o:=U (show V=A by rw [c.o,J3 hp0,X3 hq0];simp);clear K;go_upto_region 4 with fail
     go_wp2_with (go_at_call 138;refine (J.o _ a.o).mono ?_;rintro e w5 ⟨rfl,f⟩;have m:=U (O2 a f);clear f)
     go_ret;exact ⟨qx o.o.symm,m.o⟩
   . have P:((nq:Int) == 0)=false:=by rw [N9];omega
     have o:=U (show V=false by rw [c.o,J3 hp0,X0 hq0];simp);go_wp2;go_ret;exact ⟨qx o.o.symm,a.o⟩
 . have d1:decide (0<(p:Int))=false:=by rw [Y7];omega
   have d4:decide (0<p)=false:=by rw [Y7];omega
   by_cases hq0:0<nq
   . have P:decide (0<(nq:Int))=true:=by rw [J1];omega
     have d3:decide (0<nq)=true:=by rw [J1];omega
     have o:=U (show V=B by rw [c.o,Z6 hp0,X3 hq0];simp);clear J;go_upto_region 5 with fail
     go_wp2_with (go_at_call 138;refine (K.o _ a.o).mono ?_;rintro e w5 ⟨rfl,f⟩;have m:=U (O2 a f);clear f)
     go_ret;exact ⟨qx o.o.symm,m.o⟩
   . have P:decide (0<(nq:Int))=false:=by rw [Y7];omega
     have d3:decide (0<nq)=false:=by rw [Y7];omega
     have o:=U (show V=false by rw [c.o,Z6 hp0,X0 hq0];simp);go_wp2;go_ret;exact ⟨qx o.o.symm,a.o⟩
def vO (r:DelegV × Int) (w:World) (e:Ending) (w':World):Prop :=
 ∃ia ic pa pc qa qc,e=.returned (.tuple #[.agg #[.string r.1.name,.int .i64 r.1.au.thr,.slice ia r.1.au.ids.length ic,.bool r.1.term,.slice pa r.1.paths.length pc,.slice qa r.1.pres.length qc],.int .i64 r.2])/\(r.1.au.ids.length<=ic/\r.1.paths.length<=pc/\r.1.pres.length<=qc)/\DelegIn w' w.heap.size w'.heap.size r.1 ia pa qa/\O5 w w'
theorem vv {a:Int} {w w':World} (b:O5 w w'):vO (vg,a) w (.returned (.tuple #[.agg #[.string ⟨#[]⟩,.int .i64 0,.slice none 0 0,.bool false,.slice none 0 0,.slice none 0 0],.int .i64 a])) w' :=
 ⟨none,0,none,0,none,0,rfl,⟨J2 _,J2 _,J2 _⟩,⟨.inl rfl,.inl rfl,.inl rfl⟩,b⟩
theorem m7 (C:JV->Prop) (st:PS) (v:JV) (x:Value) (w:World) (hR:Rep w 0 w.heap.size v x) (ha:st.asked.length<=1000)
 (h1:∀w1,O5 w w1->Calls Tryz.prog 25 #[x] w1 (vS C st w1)) :
 Calls Tryz.prog 101 #[x] w (fun e w'=>∃u,C u/\vO (nS u st) w e w'):=by
 obtain ⟨an,cn,ai,ci,hx,V,I,h3,h4⟩:=hR.parts;clear V I h3 h4;subst hx;obtain ⟨W,hW⟩:=O1 ((w.alloc (.cells #[.int .u8 v.kind,.int .i64 v.n,.string v.t,.slice an v.names.length cn,.slice ai v.items.length ci] 26)).alloc (.cells #[.string ⟨#[]⟩,.int .i64 0,.slice none 0 0,.bool false,.slice none 0 0,.slice none 0 0] 58));have h0:(w.alloc (.cells #[.int .u8 v.kind,.int .i64 v.n,.string v.t,.slice an v.names.length cn,.slice ai v.items.length ci] 26)).heap.size=w.heap.size+1:=by simp
 have hb:O5 w W:=by rw [hW];exact (O4).alloc (by simp) _
 have g7:W.heap[w.heap.size]?=some (.cells #[.int .u8 v.kind,.int .i64 v.n,.string v.t,.slice an v.names.length cn,.slice ai v.items.length ci] 26 (0,0)):=by rw [hW];exact qO w _ _
 have d4:W.rowIs (w.heap.size+1) 58 6 (qZ (.string ⟨#[]⟩) (.int .i64 0) (.slice none 0 0) (.bool false) (.slice none 0 0) (.slice none 0 0)):=(by have:=jf (w.alloc (.cells #[.int .u8 v.kind,.int .i64 v.n,.string v.t,.slice an v.names.length cn,.slice ai v.items.length ci] 26)) (.string ⟨#[]⟩) (.int .i64 0) (.slice none 0 0) (.bool false) (.slice none 0 0) (.slice none 0 0) 58;rw [h0,<- hW] at this;exact this);have d7:=U (h1 W hb);have l:=U hb;have f8:=U g7;have c9:=U d4;have HW:=U hW;have HA:=U ha;have g0:=O0 (w.heap.size+2<=W.heap.size) d4.lt;clear h1 hW h0 hb g7 d4 hR ha;obtain ⟨c0,c1,c2,c3,c4⟩:=bx5 f8.o;go_enter Tryz.func101,Tryz.ntmps101;go_upto_region 1 with fail
 rw [<- HW.o];clear HW;go_wp2_with fail;refine d7.o.mono ?_;clear d7 c0 c1 c2 c3 c4;rintro e w2 ⟨u,o,m,lo,hi,i0,h9,i2,i1,hC,hu,rfl,d0,h7,h6,X⟩;have HC:=U hC;have HU:=U hu;have h5:=d0.lt;obtain ⟨p,d2⟩:=O1 w2.heap.size;obtain ⟨S,b3⟩:=O1 (w2.alloc (.cells #[.string ⟨#[]⟩,.int .i64 0,.slice none 0 0,.bool false,.slice none 0 0,.slice none 0 0] 58));have a6:=O7 b3
 have d3:S.rowIs p 58 6 (qZ (.string ⟨#[]⟩) (.int .i64 0) (.slice none 0 0) (.bool false) (.slice none 0 0) (.slice none 0 0)):=by rw [b3,d2];exact jf _ _ _ _ _ _ _ _
 have g:=U (show p≠o/\p≠m/\hi<=p/\w.heap.size+2<=o/\w.heap.size+2<=m/\w.heap.size+2<=p/\p<S.heap.size/\o<S.heap.size/\m<S.heap.size from by
  have V:=X.size;have I:=d3.lt;have h3:=g0.o;have h4:=a6.size;omega)
 have y:=U (d0.below a6);have q:=U (qj (X.trans (a6.mono X.size)) c9.o c9.o.lt);replace l:=U (l.o.trans ((X.trans (a6.mono X.size)).mono l.o.size));have c:=U d3;have z:=U (J2 S.heap.size);have e7:=U b3;have e6:=U d2;clear hC hu h5 d0 h7 h6 X a6 d3 b3 d2 c9 f8 g0;have c7:=U (@Qo u st HA.o);have a2:=U (Z3 (@uR u xH st) HU.o);have a4:=U (dG xH y.o (by decide) (by have:=HA.o;omega));rw [show qw u xH st=rgN u st from rfl] at a4 a2;have b0:=O0 (rgA u st=wu u (rgN u st).2) rfl;have F:=O0 (nS u st=if qb u (rgP u st).2≠0 then (vg,qb u (rgP u st).2) else if qC (rgX u st) then (rgX u st,0) else (vg,3)) rfl;have r:=O0 (rgX u st=⟨(rgN u st).1,(rgA u st).1,(rgT u st).1,(rgP u st).1.1,(rgP u st).1.2⟩) rfl;have b2:=O0 (rgT u st=zq u xL (rgA u st).2) rfl;have D:=O0 (rgP u st=if qI u jF (rgT u st).2 then (([],(qv u jF 32 (rgT u st).2).1),(qv u jF 32 (rgT u st).2).2) else (((qv u vp 32 (rgT u st).2).1,[]),(qv u vp 32 (rgT u st).2).2)) rfl;obtain ⟨GX,g4⟩:=O1 (rgX u st);rw [<- g4] at F r;clear g4;have c5:=U c7.o.1;obtain ⟨GN,g2⟩:=O1 (rgN u st);rw [<- g2] at a4 b0 r c5 a2;clear g2;obtain ⟨nm,SN⟩:=GN;dsimp only at a4 b0 r c5 a2;go_upto_region 3 with fail
 rw [<- e7.o,<- e6.o];clear e6 e7;go_wp2_with fail;refine a4.o.mono ?_;clear a4;rintro e w4 ⟨rfl,B,d⟩;replace y:=U B;replace q:=U (d.row q.o (by have:=g.o;omega));replace c:=U (d.row c.o (by have:=g.o;omega));replace l:=U (l.o.trans (d.below (by have:=l.o.size;omega) fun k hk e=>by have:=g.o;omega));replace z:=U (Z3 z.o d.size);clear B d;have e0:=c.o.cell (i:=0) (by decide);have f0:=c.o.frozen 0;simp only [qZ] at e0;obtain ⟨W5,b4⟩:=O1 (w4.setCell ⟨p,0,none⟩ (.string nm));have a:Touch (fun b=>b=p) w4 W5:=by rw [b4];exact (Touch.refl _ _).trans (qp _)
 replace c:=U (show W5.rowIs p 58 6 (qZ (.string nm) (.int .i64 0) (.slice none 0 0) (.bool false) (.slice none 0 0) (.slice none 0 0)) from by
  rw [b4];refine (c.o.set 0 _).congr fun j hj=>?_;rcases j with _|_|_|_|_|_|j <;> first|rfl|omega)
 replace y:=U (y.o.touch a g.o.1 g.o.2.1 g.o.2.2.1);replace q:=U (a.row q.o (by have:=g.o;omega));replace l:=U (l.o.trans (a.below (by have:=l.o.size;omega) fun k hk e=>by have:=g.o;omega));replace z:=U (Z3 z.o a.size);have e8:=U b4;clear a b4;go_upto_region 4 with fail
 rw [<- e8.o];clear e8 e0 f0;have a3:=U (d8 y.o HU.o (by have:=c5.o;omega));have a1:=U (@uN u SN HU.o);rw [<- b0.o] at a3 a1;have c6:=U c7.o.2.1;obtain ⟨GA,g1⟩:=O1 (rgA u st);rw [<- g1] at a3 a1 r b2 c6;clear g1 b0;obtain ⟨M,SA⟩:=GA;dsimp only at a3 a1 r b2 c6;go_wp2_with fail;refine a3.o.mono ?_;clear a3;rintro e w6 ⟨⟨ia,ic,rfl,P,Q⟩,B,d⟩;have d5:=O0 (M.ids.length<=ic) P;have h:=O0 (qy w6 S.heap.size w6.heap.size ia M.ids) (Q.carry z.o lz (fun _ _ _=>rfl));clear P Q;replace y:=U B;replace q:=U (d.row q.o (by have:=g.o;omega));replace c:=U (d.row c.o (by have:=g.o;omega));replace l:=U (l.o.trans (d.below (by have:=l.o.size;omega) fun k hk e=>by have:=g.o;omega));replace z:=U (Z3 z.o d.size);clear B d;have e1:=c.o.cell (i:=1) (by decide);have f1:=c.o.frozen 1;simp only [qZ] at e1;have e2:=c.o.cell (i:=2) (by decide);have f2:=c.o.frozen 2;simp only [qZ] at e2;obtain ⟨W7,b5⟩:=O1 ((w6.setCell ⟨p,1,none⟩ (.int .i64 M.thr)).setCell ⟨p,2,none⟩ (.slice ia M.ids.length ic));have a:Touch (fun b=>b=p) w6 W7:=by rw [b5];exact ((Touch.refl _ _).trans (qp _)).trans (qp _)
 replace c:=U (show W7.rowIs p 58 6 (qZ (.string nm) (.int .i64 M.thr) (.slice ia M.ids.length ic) (.bool false) (.slice none 0 0) (.slice none 0 0)) from by
  rw [b5];refine ((c.o.set 1 _).set 2 _).congr fun j hj=>?_;rcases j with _|_|_|_|_|_|j <;> first|rfl|omega)
 replace y:=U (y.o.touch a g.o.1 g.o.2.1 g.o.2.2.1);replace q:=U (a.row q.o (by have:=g.o;omega));replace l:=U (l.o.trans (a.below (by have:=l.o.size;omega) fun k hk e=>by have:=g.o;omega));replace z:=U (Z3 z.o a.size);replace h:=U (h.o.carry lz a.size (fun b V I=>a.block b I (by have:=g.o;omega)));have f6:=U b5;clear a b5;go_upto_region 5 with fail
 rw [<- f6.o];clear f6 e1 f1 e2 f2;have a0:=U (Q0 xL y.o (by decide) (by have:=c6.o;omega));rw [<- b2.o] at a0;have b1:=U c7.o.2.2;obtain ⟨GT,g3⟩:=O1 (rgT u st);rw [<- g3] at a0 r D b1;clear g3 b2;obtain ⟨tm,ST⟩:=GT;dsimp only at a0 r D b1;go_wp2_with fail;refine a0.o.mono ?_;clear a0;rintro e w8 ⟨rfl,B,d⟩;replace y:=U B;replace q:=U (d.row q.o (by have:=g.o;omega));replace c:=U (d.row c.o (by have:=g.o;omega));replace l:=U (l.o.trans (d.below (by have:=l.o.size;omega) fun k hk e=>by have:=g.o;omega));replace z:=U (Z3 z.o d.size);replace h:=U (h.o.carry lz d.size (fun b V I=>d.block b I (by have:=g.o;omega)));clear B d;have e3:=c.o.cell (i:=3) (by decide);have f3:=c.o.frozen 3;simp only [qZ] at e3;obtain ⟨W9,b6⟩:=O1 (w8.setCell ⟨p,3,none⟩ (.bool tm));have a:Touch (fun b=>b=p) w8 W9:=by rw [b6];exact (Touch.refl _ _).trans (qp _)
 replace c:=U (show W9.rowIs p 58 6 (qZ (.string nm) (.int .i64 M.thr) (.slice ia M.ids.length ic) (.bool tm) (.slice none 0 0) (.slice none 0 0)) from by
  rw [b6];refine (c.o.set 3 _).congr fun j hj=>?_;rcases j with _|_|_|_|_|_|j <;> first|rfl|omega)
 replace y:=U (y.o.touch a g.o.1 g.o.2.1 g.o.2.2.1);replace q:=U (a.row q.o (by have:=g.o;omega));replace l:=U (l.o.trans (a.below (by have:=l.o.size;omega) fun k hk e=>by have:=g.o;omega));replace z:=U (Z3 z.o a.size);replace h:=U (h.o.carry lz a.size (fun b V I=>a.block b I (by have:=g.o;omega)));have f7:=U b6;clear a b6;go_upto_region 6 with fail
 rw [<- f7.o];clear f7 e3 f3;have d6:=U (iq jF y.o);go_wp2_with fail;refine d6.o.mono ?_;clear d6;rintro e i3 ⟨rfl,f⟩;replace y:=U (y.o.below f);replace q:=U (qj f q.o q.o.lt);replace c:=U (qj f c.o c.o.lt);replace l:=U (O2 l f);replace z:=U (Z3 z.o f.size);replace h:=U (h.o.below f lz lz f.size);clear f;obtain ⟨hv,g5⟩:=O1 (qI u jF ST);rw [<- g5] at D ⊢;clear g5;cases hv with
 | true =>
  rw [J3 rfl] at D;have K:=U (rZ jF 32 y.o (by decide) (by have:=b1.o;omega));have J:=U (@xl u jF 32 ST);obtain ⟨GP,a5⟩:=O1 (qv u jF 32 ST);rw [<- a5] at K J D;clear a5;obtain ⟨T,SP⟩:=GP;dsimp only at K J D;rw [D.o] at F r;clear D;dsimp only at F r;go_wp2_with fail;refine K.o.mono ?_;clear K;rintro e L ⟨⟨Y,Z,rfl,P,Q⟩,B,d⟩;have b7:=O0 (T.length<=Z) P;have E:=O0 (qy L S.heap.size L.heap.size Y T) (Q.carry z.o lz (fun _ _ _=>rfl));clear P Q;replace y:=U B;replace q:=U (d.row q.o (by have:=g.o;omega));replace c:=U (d.row c.o (by have:=g.o;omega));replace l:=U (l.o.trans (d.below (by have:=l.o.size;omega) fun k hk e=>by have:=g.o;omega));replace z:=U (Z3 z.o d.size);replace h:=U (h.o.carry lz d.size (fun b V I=>d.block b I (by have:=g.o;omega)));clear B d;have e5:=c.o.cell (i:=5) (by decide);have f5:=c.o.frozen 5;simp only [qZ] at e5;obtain ⟨H,A⟩:=O1 (L.setCell ⟨p,5,none⟩ (.slice Y T.length Z));have a:Touch (fun b=>b=p) L H:=by rw [A];exact (Touch.refl _ _).trans (qp _)
  replace c:=U (show H.rowIs p 58 6 (qZ (.string nm) (.int .i64 M.thr) (.slice ia M.ids.length ic) (.bool tm) (.slice none 0 0) (.slice Y T.length Z)) from by
   rw [A];refine (c.o.set 5 _).congr fun j hj=>?_;rcases j with _|_|_|_|_|_|j <;> first|rfl|omega)
  replace y:=U (y.o.touch a g.o.1 g.o.2.1 g.o.2.2.1);replace q:=U (a.row q.o (by have:=g.o;omega));replace l:=U (l.o.trans (a.below (by have:=l.o.size;omega) fun k hk e=>by have:=g.o;omega));replace z:=U (Z3 z.o a.size);replace h:=U (h.o.carry lz a.size (fun b V I=>a.block b I (by have:=g.o;omega)));replace E:=U (E.o.carry lz a.size (fun b V I=>a.block b I (by have:=g.o;omega)));have N:=U A;clear a A;go_upto_region 9 with fail
  rw [<- N.o];clear N e5 f5;have HD:=U (yJ y.o HU.o);obtain ⟨dn,a7⟩:=O1 (qb u SP);rw [<- a7] at HD F;clear a7;have hR:=q.o;obtain ⟨t0,t1,t2,t3,t4⟩:=rc5 hR;have t5:=hR.cell (i:=5) (by decide);obtain ⟨s0,s1,s2,s3,s4⟩:=rf5 hR;have s5:=hR.frozen 5;simp only [qZ] at t0 t1 t2 t3 t4 t5;clear hR;go_wp2_with fail;refine HD.o.mono ?_;clear HD;rintro e h8 ⟨rfl,h'⟩;subst h';by_cases hd:dn=0
  case neg =>
   have d1:(dn != 0)=true:=by simpa using hd
   rw [J3 hd] at F;clear hd;go_wp2;refine Z8 (qk Tryz.results101 _ _ (w.heap.size+1) 58 _ (0,0) _ rfl (zX (gY _ _ _ _ _ _ q.o)) Tryz.underlying58 rfl (by kernel_rfl) _ rfl) rfl ?_;refine ⟨u,HC.o,?_⟩;rw [F.o];exact vv (jh _ _ _ _ _ _ l.o (by omega))
  subst hd;rw [Z6 (by decide)] at F;have G:=U (vI (⟨nm,M,tm,[],T⟩:DelegV) ia none Y ic 0 Z H ⟨h.o.carry (J0 _) lz (fun _ _ _=>rfl),(.inl rfl),E.o.carry (J0 _) lz (fun _ _ _=>rfl)⟩ ⟨a2.o,a1.o,⟨J0 _,fun s Q=>(by cases Q)⟩,⟨Z3 J.o.1 (by decide),fun s Q=>Z3 (J.o.2.1 s Q) HU.o⟩⟩);dsimp only [List.length_nil] at G;rw [<- r.o] at G;obtain ⟨mb,a8⟩:=O1 (qC GX);rw [<- a8] at G F;clear a8;rw [r.o] at F;have e0:=c.o.cell (i:=0) (by decide);have f0:=c.o.frozen 0;simp only [qZ] at e0;have e1:=c.o.cell (i:=1) (by decide);have f1:=c.o.frozen 1;simp only [qZ] at e1;have e2:=c.o.cell (i:=2) (by decide);have f2:=c.o.frozen 2;simp only [qZ] at e2;have e3:=c.o.cell (i:=3) (by decide);have f3:=c.o.frozen 3;simp only [qZ] at e3;have e4:=c.o.cell (i:=4) (by decide);have f4:=c.o.frozen 4;simp only [qZ] at e4;have e5:=c.o.cell (i:=5) (by decide);have f5:=c.o.frozen 5;simp only [qZ] at e5;go_wp2_with fail;refine G.o.mono ?_;clear G e0 f0 e1 f1 e2 f2 e3 f3 e4 f4 e5 f5 t0 s0 t1 s1 t2 s2 t3 s3 t4 s4 t5 s5;rintro e a9 ⟨rfl,f⟩;replace y:=U (y.o.below f);replace q:=U (qj f q.o q.o.lt);replace c:=U (qj f c.o c.o.lt);replace l:=U (O2 l f);replace z:=U (Z3 z.o f.size);replace h:=U (h.o.below f lz lz f.size);replace E:=U (E.o.below f lz lz f.size);clear f;have hR:=q.o;obtain ⟨t0,t1,t2,t3,t4⟩:=rc5 hR;have t5:=hR.cell (i:=5) (by decide);obtain ⟨s0,s1,s2,s3,s4⟩:=rf5 hR;have s5:=hR.frozen 5;simp only [qZ] at t0 t1 t2 t3 t4 t5;have e0:=c.o.cell (i:=0) (by decide);have f0:=c.o.frozen 0;simp only [qZ] at e0;have e1:=c.o.cell (i:=1) (by decide);have f1:=c.o.frozen 1;simp only [qZ] at e1;have e2:=c.o.cell (i:=2) (by decide);have f2:=c.o.frozen 2;simp only [qZ] at e2;have e3:=c.o.cell (i:=3) (by decide);have f3:=c.o.frozen 3;simp only [qZ] at e3;have e4:=c.o.cell (i:=4) (by decide);have f4:=c.o.frozen 4;simp only [qZ] at e4;have e5:=c.o.cell (i:=5) (by decide);have f5:=c.o.frozen 5;simp only [qZ] at e5;clear hR;cases mb with
  | false => rw [Z6 (by decide)] at F;go_wp2;refine Z8 (qk Tryz.results101 _ _ (w.heap.size+1) 58 _ (0,0) _ rfl (zX (gY _ _ _ _ _ _ q.o)) Tryz.underlying58 rfl (by kernel_rfl) _ rfl) rfl ?_;refine ⟨u,HC.o,?_⟩;rw [F.o];exact vv (jh _ _ _ _ _ _ l.o (by omega))
  | true => rw [J3 rfl] at F;have R:=O0 (w.heap.size+2<=S.heap.size) (by have:=g.o;omega);go_wp2;refine Z8 (qk Tryz.results101 _ _ (w.heap.size+1) 58 _ (0,0) _ rfl (zX (gY _ _ _ _ _ _ q.o)) Tryz.underlying58 rfl (by kernel_rfl) _ rfl) rfl ?_;refine ⟨u,HC.o,?_⟩;rw [F.o];have hc:=fun b (V:S.heap.size<=b) (I:b<a9.heap.size)=>cY (W:=a9) (.string nm) (.int .i64 M.thr) (.slice ia M.ids.length ic) (.bool tm) (.slice none 0 0) (.slice Y T.length Z) (show b≠w.heap.size+1 by have:=R.o;omega);exact ⟨ia,ic,none,0,Y,Z,rfl,⟨d5.o,J2 _,b7.o⟩,⟨h.o.carry (by have:=R.o;omega) (Y5 bY.symm) hc,(.inl rfl),E.o.carry (by have:=R.o;omega) (Y5 bY.symm) hc⟩,jh _ _ _ _ _ _ l.o (by omega)⟩
 | false =>
  rw [Z6 (by decide)] at D;have K:=U (rZ vp 32 y.o (by decide) (by have:=b1.o;omega));have J:=U (@xl u vp 32 ST);obtain ⟨GP,a5⟩:=O1 (qv u vp 32 ST);rw [<- a5] at K J D;clear a5;obtain ⟨T,SP⟩:=GP;dsimp only at K J D;rw [D.o] at F r;clear D;dsimp only at F r;go_wp2_with fail;refine K.o.mono ?_;clear K;rintro e L ⟨⟨Y,Z,rfl,P,Q⟩,B,d⟩;have b7:=O0 (T.length<=Z) P;have E:=O0 (qy L S.heap.size L.heap.size Y T) (Q.carry z.o lz (fun _ _ _=>rfl));clear P Q;replace y:=U B;replace q:=U (d.row q.o (by have:=g.o;omega));replace c:=U (d.row c.o (by have:=g.o;omega));replace l:=U (l.o.trans (d.below (by have:=l.o.size;omega) fun k hk e=>by have:=g.o;omega));replace z:=U (Z3 z.o d.size);replace h:=U (h.o.carry lz d.size (fun b V I=>d.block b I (by have:=g.o;omega)));clear B d;have e4:=c.o.cell (i:=4) (by decide);have f4:=c.o.frozen 4;simp only [qZ] at e4;obtain ⟨H,A⟩:=O1 (L.setCell ⟨p,4,none⟩ (.slice Y T.length Z));have a:Touch (fun b=>b=p) L H:=by rw [A];exact (Touch.refl _ _).trans (qp _)
  replace c:=U (show H.rowIs p 58 6 (qZ (.string nm) (.int .i64 M.thr) (.slice ia M.ids.length ic) (.bool tm) (.slice Y T.length Z) (.slice none 0 0)) from by
   rw [A];refine (c.o.set 4 _).congr fun j hj=>?_;rcases j with _|_|_|_|_|_|j <;> first|rfl|omega)
  replace y:=U (y.o.touch a g.o.1 g.o.2.1 g.o.2.2.1);replace q:=U (a.row q.o (by have:=g.o;omega));replace l:=U (l.o.trans (a.below (by have:=l.o.size;omega) fun k hk e=>by have:=g.o;omega));replace z:=U (Z3 z.o a.size);replace h:=U (h.o.carry lz a.size (fun b V I=>a.block b I (by have:=g.o;omega)));replace E:=U (E.o.carry lz a.size (fun b V I=>a.block b I (by have:=g.o;omega)));have N:=U A;clear a A;go_upto_region 9 with fail
  rw [<- N.o];clear N e4 f4;have HD:=U (yJ y.o HU.o);obtain ⟨dn,a7⟩:=O1 (qb u SP);rw [<- a7] at HD F;clear a7;have hR:=q.o;obtain ⟨t0,t1,t2,t3,t4⟩:=rc5 hR;have t5:=hR.cell (i:=5) (by decide);obtain ⟨s0,s1,s2,s3,s4⟩:=rf5 hR;have s5:=hR.frozen 5;simp only [qZ] at t0 t1 t2 t3 t4 t5;clear hR;go_wp2_with fail;refine HD.o.mono ?_;clear HD;rintro e h8 ⟨rfl,h'⟩;subst h';by_cases hd:dn=0
  case neg =>
   have d1:(dn != 0)=true:=by simpa using hd
   rw [J3 hd] at F;clear hd;go_wp2;refine Z8 (qk Tryz.results101 _ _ (w.heap.size+1) 58 _ (0,0) _ rfl (zX (gY _ _ _ _ _ _ q.o)) Tryz.underlying58 rfl (by kernel_rfl) _ rfl) rfl ?_;refine ⟨u,HC.o,?_⟩;rw [F.o];exact vv (jh _ _ _ _ _ _ l.o (by omega))
  subst hd;rw [Z6 (by decide)] at F;have G:=U (vI (⟨nm,M,tm,T,[]⟩:DelegV) ia Y none ic Z 0 H ⟨h.o.carry (J0 _) lz (fun _ _ _=>rfl),E.o.carry (J0 _) lz (fun _ _ _=>rfl),(.inl rfl)⟩ ⟨a2.o,a1.o,⟨Z3 J.o.1 (by decide),fun s Q=>Z3 (J.o.2.1 s Q) HU.o⟩,⟨J0 _,fun s Q=>(by cases Q)⟩⟩);dsimp only [List.length_nil] at G;rw [<- r.o] at G;obtain ⟨mb,a8⟩:=O1 (qC GX);rw [<- a8] at G F;clear a8;rw [r.o] at F;have e0:=c.o.cell (i:=0) (by decide);have f0:=c.o.frozen 0;simp only [qZ] at e0;have e1:=c.o.cell (i:=1) (by decide);have f1:=c.o.frozen 1;simp only [qZ] at e1;have e2:=c.o.cell (i:=2) (by decide);have f2:=c.o.frozen 2;simp only [qZ] at e2;have e3:=c.o.cell (i:=3) (by decide);have f3:=c.o.frozen 3;simp only [qZ] at e3;have e4:=c.o.cell (i:=4) (by decide);have f4:=c.o.frozen 4;simp only [qZ] at e4;have e5:=c.o.cell (i:=5) (by decide);have f5:=c.o.frozen 5;simp only [qZ] at e5;go_wp2_with fail;refine G.o.mono ?_;clear G e0 f0 e1 f1 e2 f2 e3 f3 e4 f4 e5 f5 t0 s0 t1 s1 t2 s2 t3 s3 t4 s4 t5 s5;rintro e a9 ⟨rfl,f⟩;replace y:=U (y.o.below f);replace q:=U (qj f q.o q.o.lt);replace c:=U (qj f c.o c.o.lt);replace l:=U (O2 l f);replace z:=U (Z3 z.o f.size);replace h:=U (h.o.below f lz lz f.size);replace E:=U (E.o.below f lz lz f.size);clear f;have hR:=q.o;obtain ⟨t0,t1,t2,t3,t4⟩:=rc5 hR;have t5:=hR.cell (i:=5) (by decide);obtain ⟨s0,s1,s2,s3,s4⟩:=rf5 hR;have s5:=hR.frozen 5;simp only [qZ] at t0 t1 t2 t3 t4 t5;have e0:=c.o.cell (i:=0) (by decide);have f0:=c.o.frozen 0;simp only [qZ] at e0;have e1:=c.o.cell (i:=1) (by decide);have f1:=c.o.frozen 1;simp only [qZ] at e1;have e2:=c.o.cell (i:=2) (by decide);have f2:=c.o.frozen 2;simp only [qZ] at e2;have e3:=c.o.cell (i:=3) (by decide);have f3:=c.o.frozen 3;simp only [qZ] at e3;have e4:=c.o.cell (i:=4) (by decide);have f4:=c.o.frozen 4;simp only [qZ] at e4;have e5:=c.o.cell (i:=5) (by decide);have f5:=c.o.frozen 5;simp only [qZ] at e5;clear hR;cases mb with
  | false => rw [Z6 (by decide)] at F;go_wp2;refine Z8 (qk Tryz.results101 _ _ (w.heap.size+1) 58 _ (0,0) _ rfl (zX (gY _ _ _ _ _ _ q.o)) Tryz.underlying58 rfl (by kernel_rfl) _ rfl) rfl ?_;refine ⟨u,HC.o,?_⟩;rw [F.o];exact vv (jh _ _ _ _ _ _ l.o (by omega))
  | true => rw [J3 rfl] at F;have R:=O0 (w.heap.size+2<=S.heap.size) (by have:=g.o;omega);go_wp2;refine Z8 (qk Tryz.results101 _ _ (w.heap.size+1) 58 _ (0,0) _ rfl (zX (gY _ _ _ _ _ _ q.o)) Tryz.underlying58 rfl (by kernel_rfl) _ rfl) rfl ?_;refine ⟨u,HC.o,?_⟩;rw [F.o];have hc:=fun b (V:S.heap.size<=b) (I:b<a9.heap.size)=>cY (W:=a9) (.string nm) (.int .i64 M.thr) (.slice ia M.ids.length ic) (.bool tm) (.slice Y T.length Z) (.slice none 0 0) (show b≠w.heap.size+1 by have:=R.o;omega);exact ⟨ia,ic,Y,Z,none,0,rfl,⟨d5.o,b7.o,J2 _⟩,⟨h.o.carry (by have:=R.o;omega) (Y5 bY.symm) hc,E.o.carry (by have:=R.o;omega) (Y5 bY.symm) hc,(.inl rfl)⟩,jh _ _ _ _ _ _ l.o (by omega)⟩
theorem lw (v:JV) (x:Value) (w:World) (lo:Nat) (b:0<lo) (d:v.wt<=4294967296) (c:Rep w lo w.heap.size v x) (f:v.kind=5->qd v.names=true/\v.names.length=v.items.length) :
 Calls Tryz.prog 101 #[x] w (vO (xg v) w):=by
 refine (m7 (zC v) (st0 v) v x w (c.carry (J0 _) lz (fun _ _ _=>rfl)) (by unfold st0;split <;> simp) (fun w1 hb=>dB d b hb.size (c.below hb lz lz lz) f)).mono ?_;rintro e w' ⟨u,a,h⟩;unfold zC at a;unfold st0 at h;by_cases hk:v.kind=5
 . rw [J3 hk] at a h;subst a;rw [<- ak hk];exact h
 . rw [Z6 hk] at a h;subst a;have:xg v=(vg,10):=by unfold xg;rw [J3 hk]
   rw [this];rw [aw] at h;exact h
theorem ab {l:List JV} {acc:List DelegV} {k:Nat} (a:k<l.length):xU (l.drop k) acc=if (xg l[k]).2≠0 then ([],(xg l[k]).2) else if acc.any (fun y=>decide (y.name=(xg l[k]).1.name)) then ([],7) else xU (l.drop (k+1)) (acc ++ [(xg l[k]).1]):=by rw [V3 a,xU]
theorem ap:(Tryz.prog.info? 58).map (fun i=>(i.zero,i.size,i.bytes))=some (some (.agg #[.string ⟨#[]⟩,.int .i64 0,.slice none 0 0,.bool false,.slice none 0 0,.slice none 0 0]),6,104):=by kernel_rfl
def wL (r:List DelegV × Int) (w:World) (e:Ending) (w':World):Prop :=
 ∃a c,e=.returned (.tuple #[.slice a r.1.length c,.int .i64 r.2])/\r.1.length<=c/\zm w' w.heap.size w'.heap.size a r.1/\O5 w w'
theorem gQ {a:Int} {w w':World} (b:O5 w w'):wL ([],a) w (.returned (.tuple #[.slice none 0 0,.int .i64 a])) w':=⟨none,0,rfl,J2 _,.inl rfl,b⟩
theorem m8 (items:List JV) (a0:Option Addr) (c0:Nat) (w:World) (lo:Nat) (i3:0<lo) (hN:JV.wts items<=4294967296) (hA:zy w lo w.heap.size a0 items) (hp:∀v ∈ items,v.kind=5->qd v.names=true/\v.names.length=v.items.length) (hl:items.length<=4294967296) :
 Calls Tryz.prog 75 #[.slice a0 items.length c0] w (wL (xU items []) w):=by
 have HA:=U hA;have g3:=U i3;have h3:=U hN;have HP:=U hp;obtain ⟨G,hG⟩:=O1 (xU items []);rw [<- hG];have HG:=U hG;obtain ⟨nn,b0⟩:=O1 items.length;have c2:=U b0;rw [<- b0] at hl ⊢;clear hA i3 hN hp hG b0;go_enter Tryz.func75,Tryz.ntmps75;go_wp2_with fail;go_loopw [4,6,7,8,11] (fun s4 _ _ _ i wr=>∃(k:Nat) (a:Option Addr) (c:Nat) (qs:List DelegC),k<=nn/\qs.length=k/\i=.int .i64 k/\s4=.slice a k c/\G=xU (items.drop k) (qs.map (·.x))/\kj 58 w.heap.size wr s4 qs/\O5 w wr) (fun _ _ _ _ i _=>nn - (intOf i).toNat)
 case atStart=>exact ⟨0,none,0,[],by omega,rfl,rfl,rfl,HG.o,ItemsOwn.nil _ _ _ _ _ _,Z0 _ _⟩
 case round =>
  obtain ⟨k,a4,c4,m,hk,f4,rfl,rfl,f1,a1,e8⟩:=hrel;have H:=U f1;have HO:=U a1;have g:=U e8;have B:=U f4;clear f1 a1 e8 HG f4;by_cases hlt:k<nn
  . have S:k<items.length:=by rw [<- c2.o];exact hlt
    obtain ⟨b,o,d5,d7,d4,d6,ha,-,i2,e0,e1,e2,e3,e4,F⟩:=(HA.o.below g.o lz lz lz).get k S;subst ha;have m1:(0:Int)<=(k:Int):=by omega
    have m2:(k:Int)<(nn:Int):=by omega
    have m3:decide ((k:Int)<(nn:Int))=true:=by simpa using hlt
    have d:=U (ab (l:=items) (acc:=m.map (·.x)) S);have f5:=JV.wts_get items k S;have b1:=HP.o _ (J8 S);obtain ⟨s,f3⟩:=O1 (items[k]);rw [<- f3] at e0 e1 e2 e3 e4 F d f5 b1;clear f3;obtain ⟨L,N⟩:=O1 (wr.alloc (.cells #[.int .u8 s.kind,.int .i64 s.n,.string s.t,.slice d5 s.names.length d7,.slice d4 s.items.length d6] 26));have R:=O7 N
    have b3:=O9 N
    have A:=U (lw s _ L lo g3.o (by have:=h3.o;omega) (F.below R (by have:=g.o.size;omega) lz (by have:=g.o.size;have:=R.size;omega)) b1);have a2:=U R;have d3:=U (qz b3);have d0:=U N;obtain ⟨z0,z1,z2,z3,z4⟩:=bx5 b3;obtain ⟨DX,e5⟩:=O1 (xg s);rw [<- e5] at A d;clear R b3 N F e5 f5 b1;obtain ⟨x,er⟩:=DX;unfold vO at A;dsimp only at A d;go_upto_region 5 with fail
    rw [<- d0.o];clear e0 e1 e2 e3 e4 d0;go_wp2_with fail;refine A.o.mono ?_;clear A z0 z1 z2 z3 z4;rintro e p ⟨W,ic,X,pc,Y,qc,rfl,C,f2,Q⟩;obtain ⟨q,P⟩:=O1 (p.alloc (.cells #[.string x.name,.int .i64 x.au.thr,.slice W x.au.ids.length ic,.bool x.term,.slice X x.paths.length pc,.slice Y x.pres.length qc] 58));have a7:=O7 P
    have T:=O9 P
    have a8:O5 wr q:=a2.o.trans ((Q.trans (a7.mono Q.size)).mono a2.o.size);have b6:=U (show ∀w':World,O5 q w'->w'.cell? ⟨p.heap.size,0,none⟩=some (.string x.name)/\w'.cell? ⟨p.heap.size,1,none⟩=some (.int .i64 x.au.thr)/\w'.cell? ⟨p.heap.size,2,none⟩=some (.slice W x.au.ids.length ic)/\w'.cell? ⟨p.heap.size,3,none⟩=some (.bool x.term)/\w'.cell? ⟨p.heap.size,4,none⟩=some (.slice X x.paths.length pc)/\w'.cell? ⟨p.heap.size,5,none⟩=some (.slice Y x.pres.length qc) from fun w' h=>by
     have y:=(h.block _ (qz T)).trans T;exact ⟨qq y rfl,qq y rfl,qq y rfl,qq y rfl,qq y rfl,qq y rfl⟩)
    have c6:=U (ItemsOwn.below yA HO.o a8);have z:=U (O2 g a8);have f8:=O0 (DelegIn q L.heap.size p.heap.size x W X Y) (f2.below a7 lz lz lz);have a3:=U C;have J:=O0 (w.heap.size<=wr.heap.size/\wr.heap.size<L.heap.size/\L.heap.size<=p.heap.size/\p.heap.size<q.heap.size) (⟨g.o.size,d3.o,Q.size,qz T⟩);have d2:=U P;have g5:=O0 (∀b,(Value.slice a4 k c4).ownBlock=some b->b<wr.heap.size) (fun b hb=>(HO.o.own.lt b hb).2);clear P a7 T a8 C f2 Q HO a2 d3;go_upto_region 6 with fail
    rw [<- d2.o];clear d2;by_cases her:er=0
    case neg =>
     have d1:(er != 0)=true:=by simpa using her
     rw [J3 her] at d;clear her;go_wp2;go_ret2;rw [H.o,d.o];exact gQ z.o
    subst her;rw [Z6 (by decide)] at d;obtain ⟨a9,c9,j,-,E⟩:=kj.row (l:=m.map (·.x)) c6.o rfl;have f:(m.map (·.x)).length=k:=by rw [X7];exact B.o
    rw [f] at j;simp only [Y2,za5] at j;obtain ⟨rfl,rfl⟩:=j;have I:=U (gr (m.map (·.x)) x.name a4 c4 q (E.carry (J0 _) lz (fun _ _ _=>rfl)) (by rw [f];omega));rw [f] at I;obtain ⟨V,hV⟩:=O1 ((m.map (·.x)).any (fun y=>decide (y.name=x.name)));rw [<- hV] at I d;clear hV f E;obtain ⟨y0,y1,y2,y3,y4,y5⟩:=b6.o q (Z0 _ _);go_wp2_with fail;refine I.o.mono ?_;clear I y0 y1 y2 y3 y4 y5;rintro e Z ⟨rfl,e6⟩;have u:=U e6;clear e6;cases V with
    | true => rw [J3 rfl] at d;go_wp2;go_ret2;rw [H.o,d.o];exact gQ (z.o.trans (u.o.mono z.o.size))
    | false =>
     rw [Z6 (by decide)] at d;obtain ⟨y0,y1,y2,y3,y4,y5⟩:=b6.o Z u.o;obtain ⟨K,M⟩:=O1 (Z.alloc (.cells #[.string x.name,.int .i64 x.au.thr,.slice W x.au.ids.length ic,.bool x.term,.slice X x.paths.length pc,.slice Y x.pres.length qc] 58));have e7:=O7 M
     have b2:=O9 M
     have r:O5 q K:=O2 u e7;have c5:=U (ItemsOwn.below yA c6.o r);have a6:=O0 (K.ownsRow w.heap.size 58 6 (.slice a4 k c4) k (m.flatMap oT)) (by have:=c5.o.own;rw [B.o] at this;exact this);have b5:=U (O2 z r);have b7:=U (f8.o.below r (by have:=J.o;omega) lz lz);have h4:=U b2;have h2:=U M;have c7:=O0 (q.heap.size<=Z.heap.size/\Z.heap.size<K.heap.size) (⟨u.o.size,qz b2⟩);obtain ⟨i1,h5,h7,h8,h9⟩:=V2 ap;have h6:w.heap.size<=K.heap.size:=b5.o.size;clear M e7 b2 r;go_upto_region 11 with (at_builtin;rw [<- h2.o];(refine Y1 _ rfl (.tmp 27) (.tmp 29) 37 rfl w.heap.size 58 i1 _ 6 104 Tryz.underlying37 h5 h7 h8 h9 rfl (by omega) (.slice a4 k c4) k (m.flatMap oT) rfl a6.o ⟨Z.heap.size,0,none⟩ 1 1 [.string x.name,.int .i64 x.au.thr,.slice W x.au.ids.length ic,.bool x.term,.slice X x.paths.length pc,.slice Y x.pres.length qc] rfl rfl (J9 (cs:=#[.string x.name,.int .i64 x.au.thr,.slice W x.au.ids.length ic,.bool x.term,.slice X x.paths.length pc,.slice Y x.pres.length qc]) (t:=58) (fr:=(0,0)) h4.o) (by simp [Value.oneCell']) (by omega) (by unfold maxLen;omega) (by omega) (by have:=c7.o;omega) K.heap.size (by omega) ?_);intro g2 cap2 w7 hown6 hgrow6 hat6 hlt6;have c3:=U hown6;have a5:=U hgrow6;have b4:=U hat6;clear hown6 hgrow6 hat6)
     obtain ⟨qn,D⟩:∃qn:DelegC,qn=⟨x,W,ic,X,pc,Y,qc⟩:=⟨_,rfl⟩;have i0:=U D;have g7:=U (show kj 58 w.heap.size w7 (.slice (some ⟨g2,0,none⟩) (k+1) cap2) (m ++ [qn]) from ItemsOwn.snoc yA (v':=.slice (some ⟨g2,0,none⟩) (k+1) cap2) c5.o qn L.heap.size p.heap.size (by have:=J.o;omega) (by have:=J.o;have:=c7.o;omega) (fun b hb hbg=>by
      have h1:=g5.o b hb;have:=J.o;omega) (by rw [D];exact ⟨a3.o.1,a3.o.2.1,a3.o.2.2,b7.o⟩) a5.o (by rw [B.o,D];exact c3.o) (by
      rcases b4.o with h|h
      . exact .inl h.symm
      . exact .inr ⟨g2,rfl,by omega⟩))
     have f6:=U (below_grown b5.o h6 a5.o (fun b hb=>(a6.o.lt b hb).1));have g1:=O0 ((m ++ [qn]).length=k+1) (by rw [K3,B.o];rfl);have g4:=O0 ((m ++ [qn]).map (·.x)=m.map (·.x) ++ [x]) (by rw [K6,D];rfl);clear c3 a5 b4 a6 D;go_wp2;go_roundw
     case rel=>exact ⟨k+1,some ⟨g2,0,none⟩,cap2,m ++ [qn],by omega,g1.o,by go_num,rfl,by rw [H.o,d.o,g4.o],g7.o,f6.o⟩
     case measure=>simp [intOf];omega
  . have m3:decide ((k:Int)<(nn:Int))=false:=by simpa using hlt
    have c1:=U (show G=(m.map (·.x),0) from by
     rw [H.o,M7 (by rw [<- c2.o];omega),xU])
    obtain ⟨a9,c9,j,f0,E⟩:=kj.row (l:=m.map (·.x)) HO.o rfl;have f:(m.map (·.x)).length=k:=by rw [X7];exact B.o
    rw [f] at j;simp only [Y2,za5] at j;obtain ⟨rfl,rfl⟩:=j;have h0:=U E;have f7:=U f0;have g0:=U f;clear E f0 f;go_wp2;go_ret2;rw [c1.o];exact ⟨a4,c4,by rw [g0.o] <;> rfl,f7.o,h0.o,g.o⟩
