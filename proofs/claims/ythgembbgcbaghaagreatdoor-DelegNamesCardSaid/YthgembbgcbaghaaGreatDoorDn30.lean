import Derived.Test.YthgembbgcbaghaaGreatDoorDn29
import Derived.Maps.Own
import Derived.Test.YthgembbgcbaghaaGreatDoorDn08
import Derived.Test.YthgembbgcbaghaaGreatDoorDn24
set_option maxHeartbeats 4000000
set_option maxRecDepth 100000

namespace Go.Proofs.YthgembbgcbaghaaGreatDoor
open Go.RowKit
abbrev om:=ByteArray × ByteArray × ByteArray
inductive Ver where
 | mac
 | tab (l:List om)
open Go.Maps
def dX (D:DataW Unit) (l:List ByteArray):Prop:=∀s:ByteArray,D.atKey (.string s.data.toList) (.lit (.int .i64 0))=.lit (.int .i64 (if xI l s then 1 else 0))
theorem sj:dX (.map []) []:=fun _=>rfl
theorem sk {D:DataW Unit} {l:List ByteArray} {x:ByteArray} (h:dX D l) (a:IsMap D):dX (D.put (.string x.data.toList) (.lit (.int .i64 1))) (l ++ [x]):=fun s=>by
 by_cases e:s=x
 . subst e;rw [atKey_put_same a (by simp [WideAt.IsKeyLit])];rw [Q1 ((kQ _ _).2 (by simp))]
 . rw [atKey_put_other (fun e'=>e (by
    have e2:s.data.toList=x.data.toList:=by injection e'
    exact ye (by rw [J3,J3];exact e2))),h s]
   have:xI (l ++ [x]) s=xI l s:=(by rw [M7,kQ,kQ];simp [e]);rw [this]
open Go.WideMaps
theorem uI:Keyed Tryz.prog 9:=string_keyed X0
theorem uO (l:List ByteArray) (k:Nat) (h:k<l.length):xw (l.take k) (l.drop k)=if y7 l[k] then (if xI (l.take k) l[k] then 7 else xw (l.take (k+1)) (l.drop (k+1))) else 3:=by rw [K6 h,xw,Z8 h]
theorem yB (l:List ByteArray) (a:Option Addr) (c:Nat) (w:World) (hS:qy w 0 w.heap.size a l) (hl:l.length<=1000) (hs:∀s ∈ l,s.size<=4294967296) :
 Calls Tryz.prog 183 #[.slice a l.length c] w fun e w'=>e=.returned (.int .i64 (xw [] l))/\O5 w w':=by
 have X:=U hS;have Y:=U hs;clear hS hs;have a0:=@run_makeMap Tryz.prog;go_enter Tryz.func183,Tryz.ntmps183;go_wp2;go_loopw [5,9] (fun _ i wr=>∃(k:Nat) (D:DataW Unit),k<=l.length/\i=.int .i64 k/\xw [] l=xw (l.take k) (l.drop k)/\dX D (l.take k)/\wr.ownsMap Tryz.prog 9 (plainElem (H:=Unit) Tryz.prog 3) w.heap.size k D/\O5 w wr) (fun _ i _=>l.length - (intOf i).toNat)
 case atStart=>exact ⟨0,.map [],by omega,rfl,rfl,sj,World.ownsMap_made _ _ _ _,O4⟩
 case round =>
  obtain ⟨k,D,hk,rfl,G,S,d,f⟩:=hrel;have h:=U G;have R:=U S;have y:=U f;clear G S;by_cases hlt:k<l.length
  . obtain ⟨b,a1,ha,_,hb,Z⟩:=(X.o.below f lz lz f.size).at k hlt;subst ha;have g:=U (uO l k hlt);have P:=Y.o l[k] (J1 hlt);have C:=U (sk (x:=l[k]) R.o (d.isMap));have r:=U (R.o l[k]);have K:l.take (k+1)=l.take k ++ [l[k]]:=Z8 hlt;have E:=U K;have z:=U (rM l[k] wr (by omega));obtain ⟨x,T⟩:=O1 (l[k]);rw [<- T] at Z g P C r E z;have p:Go.keyOf Tryz.prog 9 (.string x)=some (.string x.data.toList):=keyOf_string_mk X0 (by unfold maxLen;omega);obtain ⟨o,v⟩:∃q,q=xO x.data.toList:=⟨_,rfl⟩;rw [<- v] at z;have F:=U (show y7 x=(decide (x.size=64) && o) by unfold y7;rw [v]);clear T f v K;obtain ⟨L,J⟩:=O1 (xI (l.take k) x);rw [<- J] at g r;clear J;have m0:(k:Int)<(l.length:Int):=by omega
    by_cases h64:x.size=64
    . have hd:((x.size:Int) != 64)=false:=by simp;omega
      rw [Q9 h64,X2] at F;cases o
      . clear h64;go_wp2_with fail;refine z.o.mono ?_;rintro e Q ⟨rfl,rfl⟩;go_wp2;go_ret;exact ⟨wB (by rw [h.o,g.o,F.o];rfl),y.o⟩
      . clear h64;have B:=O0 (y7 x=true) F.o;obtain ⟨u,I,m,_⟩:=d.lookup_int uI Y6 X5 (j8 _) p;rw [r.o] at m;have A:=U (show u=if L=true then 1 else 0 by
         simp only [H9,M4,H7] at m;exact m.symm)
        clear m;cases L
        . obtain rfl:u=0:=A.o;have W:=U d;clear d;go_wp2_with (first|(go_at_call 195;refine z.o.mono ?_;rintro e Q ⟨rfl,rfl⟩)|(at_mapUpdate;refine G8 _ rfl _ _ _ 150 rfl 9 3 uI Y6 _ w.heap.size k _ rfl W.o (by unfold maxLen;omega) _ _ _ rfl rfl p _ [] (plainElem_int X5 (by decide)) ?_;intro Q hown1 hgrow1)|go_in);have N:=U hown1;have M:=U hgrow1;clear hown1 hgrow1 I;go_wp2;go_roundw
          case rel => exact ⟨k+1,_,by omega,by go_num,by rw [h.o,g.o,B.o];rfl,by rw [E.o];exact C.o,N.o,y.o.grown M.o y.o.size (fun j hj=>by cases hj;exact Z9 _)⟩
          case measure=>simp [intOf];omega
        . obtain rfl:u=1:=A.o;clear d;go_wp2_with (go_at_call 195;refine z.o.mono ?_;rintro e Q ⟨rfl,rfl⟩);go_ret;exact ⟨wB (by rw [h.o,g.o,B.o];rfl),y.o⟩
    . have hd:((x.size:Int) != 64)=true:=by simp;omega
      rw [Q8 h64,K9] at F;clear h64 z;go_wp2;go_ret;exact ⟨wB (by rw [h.o,g.o,F.o];rfl),y.o⟩
  . have V:=U (show xw [] l=0 by
     rw [h.o,List.drop_eq_nil_of_le (by omega)];rfl)
    clear d f;go_wp2;go_ret;exact ⟨wB V.o.symm,y.o⟩
theorem vS {t:Int} {l:List ByteArray} (h:¬(1<=l.length/\l.length<=16/\1<=t/\t<=l.length)):jM t l=false:=by unfold jM;rw [Q8 h];rfl
theorem lD {t:Int} {l:List ByteArray} (h:1<=l.length/\l.length<=16/\1<=t/\t<=l.length):jM t l=(xw [] l == 0):=by unfold jM;rw [Q9 h,X2,M7,Z7,M1]
theorem dJ (t:Int) (l:List ByteArray) (a:Option Addr) (c:Nat) (w:World) (r:qy w 0 w.heap.size a l) (u:∀s ∈ l,s.size<=4294967296) :
 Calls Tryz.prog 136 #[.agg #[.int .i64 t,.slice a l.length c]] w fun e w'=>e=.returned (.bool (jM t l))/\O5 w w':=by
 have b:=O0 (O5 w (w.alloc (.cells #[.int .i64 t,.slice a l.length c] 31))) O4;have h:=U (fun h16:l.length<=16=>yB l a c _ (r.below b.o lz lz (by simp)) (by omega) u);clear r u;by_cases h1:l.length<1
 . have d:=U (vS (t:=t) (l:=l) (by omega));have k:decide ((l.length:Int)<1)=true:=by simp;omega
   go_enter Tryz.func136,Tryz.ntmps136;go_wp2;go_ret;exact ⟨qx d.o.symm,b.o⟩
 have k:decide ((l.length:Int)<1)=false:=by simp;omega
 by_cases h2:16<l.length
 . have d:=U (vS (t:=t) (l:=l) (by omega));have m:decide (16<(l.length:Int))=true:=by simp;omega
   go_enter Tryz.func136,Tryz.ntmps136;go_wp2;go_ret;exact ⟨qx d.o.symm,b.o⟩
 have m:decide (16<(l.length:Int))=false:=by simp;omega
 by_cases h3:t<1
 . have d:=U (vS (t:=t) (l:=l) (by omega));have o:decide (t<1)=true:=by simp;omega
   go_enter Tryz.func136,Tryz.ntmps136;go_wp2;go_ret;exact ⟨qx d.o.symm,b.o⟩
 have o:decide (t<1)=false:=by simp;omega
 by_cases h4:(l.length:Int)<t
 . have d:=U (vS (t:=t) (l:=l) (by omega));have p:decide ((l.length:Int)<t)=true:=by simp;omega
   go_enter Tryz.func136,Tryz.ntmps136;go_wp2;go_ret;exact ⟨qx d.o.symm,b.o⟩
 have p:decide ((l.length:Int)<t)=false:=by simp;omega
 have d:=U (lD (t:=t) (l:=l) (by omega));have i:=U (h.o (by omega));clear h;obtain ⟨E,j⟩:=O1 (xw [] l);rw [<- j] at d i;clear j;go_enter Tryz.func136,Tryz.ntmps136;go_wp2_with fail;refine i.o.mono ?_;rintro e q ⟨rfl,f⟩;have g:=U (b.o.trans (f.mono (by simp)));clear f;go_wp2;go_ret;exact ⟨qx d.o.symm,g.o⟩
open Go.Shelf Go.Sort
theorem uE (n:Int) (w:World):Calls Tryz.prog 204 #[.int .i64 n] w fun e w'=>e=.returned (.agg #[.int .u8 2,.int .i64 n,.string ⟨#[]⟩,.slice none 0 0,.slice none 0 0])/\w'=w.alloc (.cells #[.int .u8 2,.int .i64 n,.string ⟨#[]⟩,.slice none 0 0,.slice none 0 0] 25):=by go_enter Tryz.func204,Tryz.ntmps204;go_wp2;exact Q3 (J2 Tryz.results204 _ _ w.heap.size 25 _ (0,0) _ rfl (Z4 w _) Q6 rfl (by kernel_rfl)) rfl ⟨rfl,rfl⟩
def u7 (t:Int) (l:List ByteArray) (w:World) (e:Ending) (w':World):Prop :=
 ∃g ai ci,e=.returned (.slice (some ⟨g,0,none⟩) 2 2)/\w'.heap[g]?=some (.cells #[.string ⟨#[107,101,121,105,100,115]⟩,.int .u8 4,.int .i64 0,.string ⟨#[]⟩,.slice none 0 0,.slice ai l.length ci,.string ⟨#[116,104,114,101,115,104,111,108,100]⟩,.int .u8 2,.int .i64 t,.string ⟨#[]⟩,.slice none 0 0,.slice none 0 0] 169 (0,0)) /\
  Rep w' w.heap.size g (qm l) (.agg #[.int .u8 4,.int .i64 0,.string ⟨#[]⟩,.slice none 0 0,.slice ai l.length ci])/\O5 w w'/\w.heap.size<=g
theorem mq (t:Int) (l:List ByteArray) (a:Option Addr) (c:Nat) (w:World) (H:qy w 0 w.heap.size a l) (I:l.length<=4294967296) :
 Calls Tryz.prog 200 #[.agg #[.int .i64 t,.slice a l.length c]] w (u7 t l w):=by
 obtain ⟨W,z⟩:=O1 (w.alloc (.cells #[.int .i64 t,.slice a l.length c] 31));have o:=O7 z
 have A:=O9 z
 have B:=U (show ∀w':World,O5 W w'->w'.cell? ⟨w.heap.size,0,none⟩=some (.int .i64 t)/\w'.cell? ⟨w.heap.size,1,none⟩=some (.slice a l.length c)/\w.heap.size<w'.heap.size from fun w' h=>by
  have E:=(h.block _ (qz A)).trans A;exact ⟨qq E rfl,qq E rfl,J7 (qz A) h.size⟩)
 have F:=U (show ∀w':World,O5 W w'->Calls Tryz.prog 203 #[.slice a l.length c] w' (fun e f=>∃k m,e=.returned (.agg #[.int .u8 4,.int .i64 0,.string ⟨#[]⟩,.slice none 0 0,.slice k l.length m])/\Hid (Rep f W.heap.size f.heap.size (qm l) (.agg #[.int .u8 4,.int .i64 0,.string ⟨#[]⟩,.slice none 0 0,.slice k l.length m]))/\O5 W f/\f.cell? ⟨w.heap.size,0,none⟩=some (.int .i64 t)/\f.cell? ⟨w.heap.size,1,none⟩=some (.slice a l.length c)/\w.heap.size<f.heap.size) from fun w' h=>by
  have v:=o.trans (h.mono o.size);refine (fC l a c w' (H.below v lz lz v.size) I).mono ?_;rintro e f ⟨k,m,rfl,G,i⟩;have s:=h.trans (i.mono h.size);exact ⟨k,m,rfl,U (Rep.carry h.size lz (fun _ _ _=>rfl) _ _ G),s,B.o _ s⟩)
 have C:=U (show ∀w':World,O5 W w'->Calls Tryz.prog 204 #[.int .i64 t] w' (fun e f=>e=.returned (.agg #[.int .u8 2,.int .i64 t,.string ⟨#[]⟩,.slice none 0 0,.slice none 0 0])/\O5 w' f/\O5 W f/\f.cell? ⟨w.heap.size,0,none⟩=some (.int .i64 t)/\f.cell? ⟨w.heap.size,1,none⟩=some (.slice a l.length c)/\w.heap.size<f.heap.size) from fun w' h=>by
  refine (uE t w').mono ?_;rintro e f ⟨rfl,rfl⟩;have i:O5 w' (w'.alloc (.cells #[.int .u8 2,.int .i64 t,.string ⟨#[]⟩,.slice none 0 0,.slice none 0 0] 25)):=O4;have s:=h.trans (i.mono h.size);exact ⟨rfl,i,s,B.o _ s⟩)
 have y:=U o;have D:=U z;clear H o A z;have d:O5 W W.drew:=(Z0 _ _).drew;obtain ⟨p,q,g⟩:=B.o W (Z0 _ _);go_enter Tryz.func200,Tryz.ntmps200;go_upto_region 1 with fail
 rw [<- D.o];clear D
 go_region_held3 (fun w'=>w'.cell? ⟨w.heap.size,0,none⟩=some (.int .i64 t)/\w'.cell? ⟨w.heap.size,1,none⟩=some (.slice a l.length c)) (first|(with_reducible exact ⟨p,q⟩)|(with_reducible exact ⟨(qX _ g).trans p,(qX _ g).trans q⟩)|(go_keep;done)) (first|(go_at_call 203;(with_reducible refine (F.o _ d).mono ?_);rintro e f ⟨k,m,rfl,j,d,p,q,g⟩)|(go_at_call 204;(with_reducible refine (C.o _ d).mono ?_);rintro e f ⟨rfl,u,d,p,q,g⟩;replace j:=U (j.o.below u lz lz u.size))|(go_at_call 204;(with_reducible refine (C.o _ d).mono ?_);rintro e f ⟨rfl,-,d,p,q,g⟩))
 all_goals
  have r:=U d;clear d p q g;go_wp2;go_ret;have x:=Z5 y.o.size r.o.size;exact ⟨_,k,m,rfl,Z4 _ _,Rep.carry y.o.size lz (fun b _ o=>J8 _ _ _ o) _ _ j.o,(y.o.trans (r.o.mono y.o.size)).alloc x _,x⟩
theorem xl {v:JV} {y:ByteArray} {k:Nat} {st:PS}:(qg v y k st).1.length<=k/\(∀s ∈ (qg v y k st).1,s.size<=v.wt)/\(qg v y k st).2.asked.length<=st.asked.length+1:=by
 unfold qg;split
 . exact ⟨Q2 _,fun s hs=>(by cases hs),N1 _⟩
 . split
   . exact ⟨Q2 _,fun s hs=>(by cases hs),N1 _⟩
   . rename_i it hit;split
     . exact ⟨Q2 _,fun s hs=>(by cases hs),N1 _⟩
     . split
       . exact ⟨Q2 _,fun s hs=>(by cases hs),N1 _⟩
       . split
         . rename_i h _;refine ⟨by rw [J6];omega,fun s hs=>?_,by simp⟩;obtain ⟨x,b,rfl⟩:=V8.1 hs;obtain ⟨i,hi,rfl⟩:=Y1 b;have c:=JV.wts_get it.items i hi;have d:=it.wt_bd;have e:=it.items[i].wt_bd;obtain ⟨j,a,rfl⟩:=Y1 (kJ hit).2;have f:=JV.wts_get v.items j a;have g:=v.wt_bd;omega
         . exact ⟨Q2 _,fun s hs=>(by cases hs),N1 _⟩
def vr (o m lo hi:Nat) (v:JV) (an ai:Option Addr) (cn ci:Nat) (r:AuthV × PS) (w:World) (e:Ending) (w':World):Prop :=
 (∃ia ic,e=.returned (.agg #[.int .i64 r.1.thr,.slice ia r.1.ids.length ic])/\r.1.ids.length<=ic/\qy w' w.heap.size w'.heap.size ia r.1.ids)/\vd o m lo hi v an ai cn ci r.2 w w'
theorem mz {o m lo hi:Nat} {v:JV} {an ai:Option Addr} {cn ci:Nat} {st:PS} {w:World} (h:zB o m lo hi v an ai cn ci st w) (hv:v.wt<=4294967296) (ha:st.asked.length<=4294967000) :
 Calls Tryz.prog 122 #[.pointer (some ⟨o,0,none⟩)] w (vr o m lo hi v an ai cn ci (kz v st) w):=by
 have b1:=h.lt;obtain ⟨W,hW⟩:=O1 (w.alloc (.cells #[.int .i64 0,.slice none 0 0] 31));have hb:=O7 hW
 have b8:W.rowIs w.heap.size 31 2 (jW (.int .i64 0) (.slice none 0 0)):=by rw [hW];exact kF w _ _ _
 have HT:=U (cJ qp 16 (h.below hb) (by decide) (by omega));have k:=U (@xl v qp 16 st);have y:=O0 (kz v st=(if (qR v thrN 1 ((qg v qp 16 st).1.length:Int) (kq v st)).2.err≠0 then authZ else ⟨(qR v thrN 1 ((qg v qp 16 st).1.length:Int) (kq v st)).1,(qg v qp 16 st).1⟩,(qR v thrN 1 ((qg v qp 16 st).1.length:Int) (kq v st)).2)) rfl;have A:=O0 (kq v st=(if (qg v qp 16 st).1=[] then (qg v qp 16 st).2.fail 4 else (qg v qp 16 st).2).fail (xw [] (qg v qp 16 st).1)) rfl;obtain ⟨K,hK⟩:=O1 (kz v st);rw [<- hK] at y ⊢;obtain ⟨R,hR⟩:=O1 (qg v qp 16 st);rw [<- hR] at HT k y A;obtain ⟨S3,b9⟩:=O1 (kq v st);rw [<- b9] at y A;have HB:=U hb;have c5:=U b8;have HW:=U hW;have d:=O0 (o<w.heap.size/\m<w.heap.size/\hi<=w.heap.size/\w.heap.size<W.heap.size) (⟨b1.1,b1.2.1,b1.2.2,b8.lt⟩);have HA:=U ha;have HV:=U hv;clear h b1 hb b8 hW hK hR b9 ha hv;obtain ⟨L,S1⟩:=R;dsimp only at HT k y A;go_enter Tryz.func122,Tryz.ntmps122;go_upto_region 1 with fail
 rw [<- HW.o];clear HW;go_wp2_with fail;refine HT.o.mono ?_;clear HT;rintro r w1 ⟨⟨E,c1,rfl,b4,c3⟩,c0,b2⟩;have b3:=O0 (L.length<=c1) b4;clear b4;have a8:=O0 (qy w1 W.heap.size w1.heap.size E L) c3;have a6:=U c0;have a9:=U b2;have a7:=U (b2.row c5.o (by have:=d.o;omega));have b0:=U b2.size;clear c3 c0 b2;by_cases hL:L=[]
 . have c7:((L.length:Int) == 0)=true:=by rw [hL];rfl
   rw [Q1 hL] at A;clear hL;go_wp2_with fail;refine (p7 4 a6.o).mono ?_;rintro r w2 ⟨rfl,c2,H⟩;have l:=U c2;have F:=U (a9.o.trans (H.mono fun _ _ h=>h));have q:=U (H.row a7.o (by have:=d.o;omega));have u:=O0 (qy w2 W.heap.size w2.heap.size E L) (a8.o.carry lz H.size (fun b h1 h2=>H.block b h2 (by have:=d.o;omega)));have G:=U (Z5 b0.o H.size);clear c2 H a6 a9 a7 a8 b0;generalize a4:S1.fail 4=S2 at l A;have a5:=U (show S2.asked.length<=st.asked.length+1 by rw [<- a4,kX];exact k.o.2.2);clear a4;have B:=U (yB L E c1 w2 (u.o.carry (Q2 _) lz (fun _ _ _=>rfl)) (by have:=k.o.1;omega) (fun s hs=>Z5 (k.o.2.1 s hs) HV.o));obtain ⟨ie,a2⟩:=O1 (xw [] L);rw [<- a2] at B A;clear a2;go_wp2_with fail;refine B.o.mono ?_;clear B;rintro r w3 ⟨rfl,c⟩;have I:=U (l.o.below c);have M:=U (qw c q.o q.o.lt);have V:=U (F.o.trans (Touch.of_below c lz));have S:=O0 (qy w3 W.heap.size w3.heap.size E L) (u.o.below c lz lz c.size);have Z:=U (Z5 G.o c.size);clear c l q F u G;go_wp2_with fail;refine (p7 ie I.o).mono ?_;rintro r w4 ⟨rfl,C,f⟩;rw [<- A.o] at C;have b5:=U (show S3.asked.length<=st.asked.length+1 by rw [A.o,kX];exact a5.o);have J:=U C;have P:=U (f.row M.o (by have:=d.o;omega));have X:=U (V.o.trans (f.mono fun _ _ h=>h));have T:=O0 (qy w4 W.heap.size w4.heap.size E L) (S.o.carry lz f.size (fun b h1 h2=>f.block b h2 (by have:=d.o;omega)));have a0:=U (Z5 Z.o f.size);clear C f I M V S Z A;have j:=U (tC thrN 1 (L.length:Int) J.o (by decide) (by have:=b5.o;have:=HA.o;omega));obtain ⟨N,hN⟩:=O1 (qR v thrN 1 (L.length:Int) S3);rw [<- hN] at j y;clear hN;obtain ⟨nn,S4⟩:=N;dsimp only at j y;go_wp2_with fail;refine j.o.mono ?_;clear j;rintro r D ⟨rfl,a3,g⟩;have z:=U a3;have e:=g.row P.o (by have:=d.o;omega);have Q:=U e;have b7:=U (X.o.trans (g.mono fun _ _ h=>h));have b6:=O0 (qy D W.heap.size D.heap.size E L) (T.o.carry lz g.size (fun b h1 h2=>g.block b h2 (by have:=d.o;omega)));have c6:=U (Z5 a0.o g.size);clear a3 g J P X T a0;go_wp2_with fail;refine (iV z.o).mono ?_;rintro r w6 ⟨rfl,h6⟩;subst h6;have t0:=e.cell (i:=0) (by decide);have t1:=e.cell (i:=1) (by decide);have s0:=e.frozen 0;have s1:=e.frozen 1;simp only [jW] at t0 t1;clear e;have Y:=O0 (Touch (fun b=>b=o\/b=m) w D) ((Touch.of_below HB.o lz).trans b7.o);by_cases he:S4.err=0
   . have e1:(S4.err != 0)=false:=by simpa using he
     rw [Z6 (by simp [he])] at y;clear he;go_wp2;refine Q3 (J2 Tryz.results122 _ _ w.heap.size 31 _ (0,0) _ rfl (zU (set2 _ _ Q.o)) Tryz.underlying31 rfl (by kernel_rfl)) rfl ?_;unfold vr;rw [y.o];have a:Touch (fun b=>b=w.heap.size) D ((D.setCell ⟨w.heap.size,0,none⟩ (.int .i64 nn)).setCell ⟨w.heap.size,1,none⟩ (.slice E L.length c1)):=(qC _).trans (qC _);refine ⟨⟨E,c1,rfl,b3.o,?_⟩,z.o.touch a (by have:=d.o;omega) (by have:=d.o;omega) d.o.2.2.1,?_⟩
     . refine b6.o.carry (by have:=d.o;omega) a.size (fun b h1 h2=>a.block b h2 (by have:=d.o;omega))
     . exact ((Y.o.setCell (p:=⟨w.heap.size,0,none⟩) (.inr lz) _).setCell (p:=⟨w.heap.size,1,none⟩) (.inr lz) _)
   . have e1:(S4.err != 0)=true:=by simpa using he
     rw [Q1 he] at y;clear he;go_wp2;refine Q3 (J2 Tryz.results122 _ _ w.heap.size 31 _ (0,0) _ rfl (zU (set2 _ _ Q.o)) Tryz.underlying31 rfl (by kernel_rfl)) rfl ?_;unfold vr;rw [y.o];have a:Touch (fun b=>b=w.heap.size) D ((D.setCell ⟨w.heap.size,0,none⟩ (.int .i64 0)).setCell ⟨w.heap.size,1,none⟩ (.slice none 0 0)):=(qC _).trans (qC _);refine ⟨⟨none,0,rfl,Z9 _,.inl rfl⟩,z.o.touch a (by have:=d.o;omega) (by have:=d.o;omega) d.o.2.2.1,?_⟩;exact ((Y.o.setCell (p:=⟨w.heap.size,0,none⟩) (.inr lz) _).setCell (p:=⟨w.heap.size,1,none⟩) (.inr lz) _)
 . have c7:((L.length:Int) == 0)=false:=by
    cases L with
    | nil=>exact absurd rfl hL
    | cons x r=>simp;omega
   rw [Z6 hL] at A;clear hL;have a5:=O0 (S1.asked.length<=st.asked.length+1) k.o.2.2;have l:=U a6.o;have F:=U a9.o;have q:=U a7.o;have u:=U a8.o;have G:=U b0.o;clear a6 a9 a7 a8 b0;obtain ⟨w2,c4⟩:=O1 w1;obtain ⟨S2,a4⟩:=O1 S1;rw [<- c4] at l F q u G ⊢;rw [<- a4] at l a5 A;clear c4 a4;have B:=U (yB L E c1 w2 (u.o.carry (Q2 _) lz (fun _ _ _=>rfl)) (by have:=k.o.1;omega) (fun s hs=>Z5 (k.o.2.1 s hs) HV.o));obtain ⟨ie,a2⟩:=O1 (xw [] L);rw [<- a2] at B A;clear a2;go_wp2_with fail;refine B.o.mono ?_;clear B;rintro r w3 ⟨rfl,c⟩;have I:=U (l.o.below c);have M:=U (qw c q.o q.o.lt);have V:=U (F.o.trans (Touch.of_below c lz));have S:=O0 (qy w3 W.heap.size w3.heap.size E L) (u.o.below c lz lz c.size);have Z:=U (Z5 G.o c.size);clear c l q F u G;go_wp2_with fail;refine (p7 ie I.o).mono ?_;rintro r w4 ⟨rfl,C,f⟩;rw [<- A.o] at C;have b5:=U (show S3.asked.length<=st.asked.length+1 by rw [A.o,kX];exact a5.o);have J:=U C;have P:=U (f.row M.o (by have:=d.o;omega));have X:=U (V.o.trans (f.mono fun _ _ h=>h));have T:=O0 (qy w4 W.heap.size w4.heap.size E L) (S.o.carry lz f.size (fun b h1 h2=>f.block b h2 (by have:=d.o;omega)));have a0:=U (Z5 Z.o f.size);clear C f I M V S Z A;have j:=U (tC thrN 1 (L.length:Int) J.o (by decide) (by have:=b5.o;have:=HA.o;omega));obtain ⟨N,hN⟩:=O1 (qR v thrN 1 (L.length:Int) S3);rw [<- hN] at j y;clear hN;obtain ⟨nn,S4⟩:=N;dsimp only at j y;go_wp2_with fail;refine j.o.mono ?_;clear j;rintro r D ⟨rfl,a3,g⟩;have z:=U a3;have e:=g.row P.o (by have:=d.o;omega);have Q:=U e;have b7:=U (X.o.trans (g.mono fun _ _ h=>h));have b6:=O0 (qy D W.heap.size D.heap.size E L) (T.o.carry lz g.size (fun b h1 h2=>g.block b h2 (by have:=d.o;omega)));have c6:=U (Z5 a0.o g.size);clear a3 g J P X T a0;go_wp2_with fail;refine (iV z.o).mono ?_;rintro r w6 ⟨rfl,h6⟩;subst h6;have t0:=e.cell (i:=0) (by decide);have t1:=e.cell (i:=1) (by decide);have s0:=e.frozen 0;have s1:=e.frozen 1;simp only [jW] at t0 t1;clear e;have Y:=O0 (Touch (fun b=>b=o\/b=m) w D) ((Touch.of_below HB.o lz).trans b7.o);by_cases he:S4.err=0
   . have e1:(S4.err != 0)=false:=by simpa using he
     rw [Z6 (by simp [he])] at y;clear he;go_wp2;refine Q3 (J2 Tryz.results122 _ _ w.heap.size 31 _ (0,0) _ rfl (zU (set2 _ _ Q.o)) Tryz.underlying31 rfl (by kernel_rfl)) rfl ?_;unfold vr;rw [y.o];have a:Touch (fun b=>b=w.heap.size) D ((D.setCell ⟨w.heap.size,0,none⟩ (.int .i64 nn)).setCell ⟨w.heap.size,1,none⟩ (.slice E L.length c1)):=(qC _).trans (qC _);refine ⟨⟨E,c1,rfl,b3.o,?_⟩,z.o.touch a (by have:=d.o;omega) (by have:=d.o;omega) d.o.2.2.1,?_⟩
     . refine b6.o.carry (by have:=d.o;omega) a.size (fun b h1 h2=>a.block b h2 (by have:=d.o;omega))
     . exact ((Y.o.setCell (p:=⟨w.heap.size,0,none⟩) (.inr lz) _).setCell (p:=⟨w.heap.size,1,none⟩) (.inr lz) _)
   . have e1:(S4.err != 0)=true:=by simpa using he
     rw [Q1 he] at y;clear he;go_wp2;refine Q3 (J2 Tryz.results122 _ _ w.heap.size 31 _ (0,0) _ rfl (zU (set2 _ _ Q.o)) Tryz.underlying31 rfl (by kernel_rfl)) rfl ?_;unfold vr;rw [y.o];have a:Touch (fun b=>b=w.heap.size) D ((D.setCell ⟨w.heap.size,0,none⟩ (.int .i64 0)).setCell ⟨w.heap.size,1,none⟩ (.slice none 0 0)):=(qC _).trans (qC _);refine ⟨⟨none,0,rfl,Z9 _,.inl rfl⟩,z.o.touch a (by have:=d.o;omega) (by have:=d.o;omega) d.o.2.2.1,?_⟩;exact ((Y.o.setCell (p:=⟨w.heap.size,0,none⟩) (.inr lz) _).setCell (p:=⟨w.heap.size,1,none⟩) (.inr lz) _)
theorem fw {v:JV} {y:ByteArray} {st:PS}:(qh v y st).1.size<=v.wt:=by
 unfold qh;split
 . exact Q2 _
 . split
   . exact Q2 _
   . rename_i it hit;split
     . have b:=it.wt_bd;obtain ⟨j,a,rfl⟩:=Y1 (kJ hit).2;have c:=JV.wts_get v.items j a;have d:=v.wt_bd;show v.items[j].t.size<=v.wt;omega
     . exact Q2 _
theorem mx {v:JV} {y:ByteArray} {l h:Int} {st:PS} (a:l<=h) (b:0<=l):0<=(qR v y l h st).1/\(qR v y l h st).1<=h:=by
 unfold qR;split
 . exact ⟨Int.le_refl _,by show (0:Int)<=h;omega⟩
 . split
   . exact ⟨Int.le_refl _,by show (0:Int)<=h;omega⟩
   . split
     . exact ⟨Int.le_refl _,by show (0:Int)<=h;omega⟩
     . split
       . exact ⟨Int.le_refl _,by show (0:Int)<=h;omega⟩
       . rename_i it _ _ h1;show 0<=it.n/\it.n<=h;omega
theorem tT {v:JV} {y:ByteArray} {a:Nat} {st:PS}:(qi v y a st).2.asked.length<=st.asked.length+1:=by
 unfold qi;split
 . exact N1 _
 . split
   . exact N1 _
   . split
     . exact N1 _
     . split
       . exact N1 _
       . simp
theorem sw {v:JV} {y:ByteArray} {st:PS}:(qN v y st).2.asked.length<=st.asked.length+1:=by
 unfold qN;split
 . exact N1 _
 . split
   . exact N1 _
   . split
     . exact N1 _
     . simp
theorem mv {v:JV} {st:PS}:(kz v st).2.asked.length<=st.asked.length+2:=by
 have a:=(@xl v qp 16 st).2.2;have b:(kq v st).asked.length<=st.asked.length+1:=by
  unfold kq;rw [kX];split
  . rw [kX];exact a
  . exact a
 have c:=@ut v thrN 1 ((qg v qp 16 st).1.length:Int) (kq v st);show (vx v st).2.asked.length<=_;unfold vx;omega
theorem fy {v:JV} {st:PS} (d:v.wt<=4294967296):xq (kz v st).1:=by
 unfold kz;split
 . show xq authZ;exact ⟨⟨by decide,by decide⟩,by decide,fun s hs=>(by cases hs)⟩
 . have a:=@xl v qp 16 st;have b:(vx v st).1<=16/\0<=(vx v st).1:=by
    unfold vx;by_cases h:(qg v qp 16 st).1=[]
    . have:(kq v st).err≠0:=by
       unfold kq;rw [Q1 h,h];generalize (qg v qp 16 st).2=q;unfold PS.fail;by_cases hq:q.err=0
       . simp [hq]
       . simp [hq]
      unfold qR;rw [Q1 this];show (0:Int)<=16/\(0:Int)<=0;exact ⟨by decide,by decide⟩
    . have c:0<(qg v qp 16 st).1.length:=M2.2 h;have:=@mx v thrN 1 ((qg v qp 16 st).1.length:Int) (kq v st) (by omega) (by omega);omega
   exact ⟨⟨by show -9223372036854775808<=(vx v st).1;omega,by show (vx v st).1<=9223372036854775807;omega⟩,by show (qg v qp 16 st).1.length<=_;omega,fun s hs=>Z5 (a.2.1 s hs) d⟩
def rgN (u:JV) (st:PS):ByteArray × PS:=qh u zb st
def rgA (u:JV) (st:PS):AuthV × PS:=kz u (rgN u st).2
def rgT (u:JV) (st:PS):Bool × PS:=qN u trmN (rgA u st).2
def rgP (u:JV) (st:PS):(List ByteArray × List ByteArray) × PS:=if zq u zY (rgT u st).2 then (([],(qg u zY 32 (rgT u st).2).1),(qg u zY 32 (rgT u st).2).2) else (((qg u xm 32 (rgT u st).2).1,[]),(qg u xm 32 (rgT u st).2).2)
def rgX (u:JV) (st:PS):DelegV:=⟨(rgN u st).1,(rgA u st).1,(rgT u st).1,(rgP u st).1.1,(rgP u st).1.2⟩
def dK (u:JV) (st:PS):DelegV × Int:=if qu u (rgP u st).2≠0 then (kf,qu u (rgP u st).2) else if qV (rgX u st) then (rgX u st,0) else (kf,3)
theorem lL {v:JV} (h:v.kind=5):dK v ⟨[],0⟩=zV v:=by unfold zV;rw [Z6 (by simp [h])];rfl
theorem lR:dK qF ⟨[],10⟩=(kf,10):=by decide +kernel
theorem tI {u:JV} {st:PS} (h:st.asked.length<=1000):(rgN u st).2.asked.length<=1001/\(rgA u st).2.asked.length<=1003/\(rgT u st).2.asked.length<=1004:=by
 have c:=@nx u zb st;have d:=@mv u (rgN u st).2;have e:=@sw u trmN (rgA u st).2;have a:(rgN u st).2.asked.length<=1001:=by unfold rgN;omega
 have b:(rgA u st).2.asked.length<=1003:=by unfold rgA;omega
 exact ⟨a,b,by unfold rgT;omega⟩
def bgA (u:JV) (st:PS):AuthV × PS:=kz u st
def bgB (u:JV) (st:PS):Int × PS:=qR u jl 1 32 (bgA u st).2
def bgP (u:JV) (st:PS):ByteArray × PS:=qh u jS (bgB u st).2
def dV (u:JV) (st:PS):BinsV × Int:=if qu u (bgP u st).2≠0 then (xG,qu u (bgP u st).2) else if zk ⟨(bgB u st).1,(bgP u st).1,(bgA u st).1⟩ then (⟨(bgB u st).1,(bgP u st).1,(bgA u st).1⟩,0) else (xG,3)
theorem lN {v:JV} (h:v.kind=5):dV v ⟨[],0⟩=xf v:=by unfold xf;rw [Z6 (by simp [h])];rfl
theorem lS:dV qF ⟨[],10⟩=(xG,10):=by decide +kernel
theorem tO {u:JV} {st:PS} (h:st.asked.length<=1000):(bgA u st).2.asked.length<=1002/\(bgB u st).2.asked.length<=1003:=by
 have b:=@mv u st;have c:=@ut u jl 1 32 (bgA u st).2;have a:(bgA u st).2.asked.length<=1002:=by unfold bgA;omega
 exact ⟨a,by unfold bgB;omega⟩
theorem mw (x:DelegV):qV x=(zl x.name.data.toList && (!gc x.name && (jM x.au.thr x.au.ids && (if 0<x.paths.length then decide (x.pres.length=0) && (decide (x.paths.length<=32) && x.paths.all q8) else decide (0<x.pres.length) && (decide (x.pres.length<=32) && x.pres.all preB))))):=by
 unfold qV xD;have a:(x.paths≠[])=(0<x.paths.length):=by rw [M2]
 have b:x.pres.isEmpty=decide (x.pres.length=0):=by cases x.pres <;> rfl
 have c:(!x.pres.isEmpty)=decide (0<x.pres.length):=by cases x.pres <;> rfl
 simp only [a,Bool.and_assoc];congr 3;split
 . rw [b]
 . rw [c]
theorem jQ (x:DelegV) (ia pa qa:Option Addr) (ic pc qc:Nat) (w:World) (hI:DelegIn w 0 w.heap.size x ia pa qa) (hf:DelegFits x) :
 Calls Tryz.prog 77 #[.agg #[.string x.name,.int .i64 x.au.thr,.slice ia x.au.ids.length ic,.bool x.term,.slice pa x.paths.length pc,.slice qa x.pres.length qc]] w fun e w'=>e=.returned (.bool (qV x))/\O5 w w':=by
 have c:=U (mw x);obtain ⟨V,hV⟩:=O1 (qV x);rw [<- hV] at c ⊢;clear hV;obtain ⟨s,⟨k,i⟩,l,u,v⟩:=x;dsimp only at c hI hf ⊢;obtain ⟨Z,Q,L,M⟩:=hf;obtain ⟨S,T,X⟩:=hI;dsimp only at Z Q L M S T X;obtain ⟨W,N⟩:=O1 (w.alloc (.cells #[.string s,.int .i64 k,.slice ia i.length ic,.bool l,.slice pa u.length pc,.slice qa v.length qc] 41));have g:=O7 N
 have H:=O9 N
 have q:=U g;have z:=U H;have Y:=U N;have q0:=qq H (j:=0) rfl;have q1:=qq H (j:=1) rfl;have q2:=qq H (j:=2) rfl;have r:=U (fun w=>jP s w (by omega));have y:=U (fun w=>dm s w);have I:=U (dJ k i ia ic W (S.below g lz lz g.size) Q.2.2);have J:=U (fun (d:World) (h:O5 w d)=>pe u pa pc d (T.below h lz lz h.size) L.1 L.2);have K:=U (fun (d:World) (h:O5 w d)=>fD v qa qc d (X.below h lz lz h.size) M.1 M.2);clear g H N Z Q L M S T X;obtain ⟨b1,C⟩:∃b,b=zl s.data.toList:=⟨_,rfl⟩;obtain ⟨b2,D⟩:∃b,b=gc s:=⟨_,rfl⟩;obtain ⟨b3,E⟩:∃b,b=jM k i:=⟨_,rfl⟩;rw [<- C] at r c;rw [<- D] at y c;rw [<- E] at I c;clear C D E;go_enter Tryz.func77,Tryz.ntmps77;go_upto_region 1 with fail
 rw [<- Y.o];clear Y;cases b1
 . go_wp2_with (go_at_call 134;refine (r.o _).mono ?_;rintro e d ⟨rfl,rfl⟩)
   go_ret;exact ⟨qx c.o.symm,q.o⟩
 cases b2
 case true =>
  go_wp2_with (first|(go_at_call 134;refine (r.o _).mono ?_;rintro e d ⟨rfl,rfl⟩)|(go_at_call 135;refine (y.o _).mono ?_;rintro e d ⟨rfl,rfl⟩))
  go_ret;exact ⟨qx c.o.symm,q.o⟩
 cases b3
 . go_wp2_with (first|(go_at_call 134;refine (r.o _).mono ?_;rintro e d ⟨rfl,rfl⟩)|(go_at_call 135;refine (y.o _).mono ?_;rintro e d ⟨rfl,rfl⟩)|(go_at_call 136;refine I.o.mono ?_;rintro e d ⟨rfl,f⟩;have a:=U (O2 q f);clear f))
   go_ret;exact ⟨qx c.o.symm,a.o⟩
 obtain ⟨A,hA⟩:=O1 ((decide (u.length<=32) && u.all q8));obtain ⟨B,hB⟩:=O1 ((decide (v.length<=32) && v.all preB));rw [<- hA] at J c;rw [<- hB] at K c;clear hA hB;obtain ⟨p,F⟩:=O1 u.length;obtain ⟨nq,G⟩:=O1 v.length;rw [<- F] at J c z ⊢;rw [<- G] at K c z ⊢;clear F G;go_upto_region 3 with (first|(go_at_call 134;refine (r.o _).mono ?_;rintro e d ⟨rfl,rfl⟩)|(go_at_call 135;refine (y.o _).mono ?_;rintro e d ⟨rfl,rfl⟩)|(go_at_call 136;refine I.o.mono ?_;rintro e d ⟨rfl,f⟩;have a:=U (O2 q f);have R:=(f.block _ (qz z.o)).trans z.o;have z4:=qq R (j:=4) rfl;have z5:=qq R (j:=5) rfl;clear f R))
 clear r y I z q0 q1 q2;by_cases hp0:0<p
 . have d1:decide (0<(p:Int))=true:=by rw [Z7];omega
   have d4:decide (0<p)=true:=by rw [Z7];omega
   by_cases hq0:nq=0
   . have P:((nq:Int) == 0)=true:=by rw [M1];omega
     have o:=U (show V=A by rw [c.o,Q1 hp0,Q9 hq0];simp);clear K;go_upto_region 4 with fail
     go_wp2_with (go_at_call 137;refine (J.o _ a.o).mono ?_;rintro e w5 ⟨rfl,f⟩;have m:=U (O2 a f);clear f)
     go_ret;exact ⟨qx o.o.symm,m.o⟩
   . have P:((nq:Int) == 0)=false:=by rw [Y3];omega
     have o:=U (show V=false by rw [c.o,Q1 hp0,Q8 hq0];simp);go_wp2;go_ret;exact ⟨qx o.o.symm,a.o⟩
 . have d1:decide (0<(p:Int))=false:=by rw [X1];omega
   have d4:decide (0<p)=false:=by rw [X1];omega
   by_cases hq0:0<nq
   . have P:decide (0<(nq:Int))=true:=by rw [Z7];omega
     have d3:decide (0<nq)=true:=by rw [Z7];omega
     have o:=U (show V=B by rw [c.o,Z6 hp0,Q9 hq0];simp);clear J;go_upto_region 5 with fail
     go_wp2_with (go_at_call 137;refine (K.o _ a.o).mono ?_;rintro e w5 ⟨rfl,f⟩;have m:=U (O2 a f);clear f)
     go_ret;exact ⟨qx o.o.symm,m.o⟩
   . have P:decide (0<(nq:Int))=false:=by rw [X1];omega
     have d3:decide (0<nq)=false:=by rw [X1];omega
     have o:=U (show V=false by rw [c.o,Z6 hp0,Q8 hq0];simp);go_wp2;go_ret;exact ⟨qx o.o.symm,a.o⟩
def kT (r:DelegV × Int) (w:World) (e:Ending) (w':World):Prop :=
 ∃ia ic pa pc qa qc,e=.returned (.tuple #[.agg #[.string r.1.name,.int .i64 r.1.au.thr,.slice ia r.1.au.ids.length ic,.bool r.1.term,.slice pa r.1.paths.length pc,.slice qa r.1.pres.length qc],.int .i64 r.2])/\(r.1.au.ids.length<=ic/\r.1.paths.length<=pc/\r.1.pres.length<=qc)/\DelegIn w' w.heap.size w'.heap.size r.1 ia pa qa/\O5 w w'
theorem ky {a:Int} {w w':World} (b:O5 w w'):kT (kf,a) w (.returned (.tuple #[.agg #[.string ⟨#[]⟩,.int .i64 0,.slice none 0 0,.bool false,.slice none 0 0,.slice none 0 0],.int .i64 a])) w' :=
 ⟨none,0,none,0,none,0,rfl,⟨Z9 _,Z9 _,Z9 _⟩,⟨.inl rfl,.inl rfl,.inl rfl⟩,b⟩
theorem fS (C:JV->Prop) (st:PS) (v:JV) (x:Value) (w:World) (hR:Rep w 0 w.heap.size v x) (ha:st.asked.length<=1000)
 (h1:∀w1,O5 w w1->Calls Tryz.prog 60 #[x] w1 (wE C st w1)) :
 Calls Tryz.prog 125 #[x] w (fun e w'=>∃u,C u/\kT (dK u st) w e w'):=by
 obtain ⟨an,cn,ai,ci,hx,V,I,h3,h4⟩:=hR.parts;clear V I h3 h4;subst hx;obtain ⟨W,hW⟩:=O1 ((w.alloc (.cells #[.int .u8 v.kind,.int .i64 v.n,.string v.t,.slice an v.names.length cn,.slice ai v.items.length ci] 25)).alloc (.cells #[.string ⟨#[]⟩,.int .i64 0,.slice none 0 0,.bool false,.slice none 0 0,.slice none 0 0] 41));have g5:(w.alloc (.cells #[.int .u8 v.kind,.int .i64 v.n,.string v.t,.slice an v.names.length cn,.slice ai v.items.length ci] 25)).heap.size=w.heap.size+1:=by simp
 have hb:O5 w W:=by rw [hW];exact (O4).alloc (by simp) _
 have g4:W.heap[w.heap.size]?=some (.cells #[.int .u8 v.kind,.int .i64 v.n,.string v.t,.slice an v.names.length cn,.slice ai v.items.length ci] 25 (0,0)):=by rw [hW];exact ze w _ _
 have d2:W.rowIs (w.heap.size+1) 41 6 (qe (.string ⟨#[]⟩) (.int .i64 0) (.slice none 0 0) (.bool false) (.slice none 0 0) (.slice none 0 0)):=(by have:=zN (w.alloc (.cells #[.int .u8 v.kind,.int .i64 v.n,.string v.t,.slice an v.names.length cn,.slice ai v.items.length ci] 25)) (.string ⟨#[]⟩) (.int .i64 0) (.slice none 0 0) (.bool false) (.slice none 0 0) (.slice none 0 0) 41;rw [g5,<- hW] at this;exact this);have d5:=U (h1 W hb);have l:=U hb;have e9:=U g4;have c6:=U d2;have HW:=U hW;have HA:=U ha;have f6:=O0 (w.heap.size+2<=W.heap.size) d2.lt;clear h1 hW g5 hb g4 d2 hR ha;obtain ⟨c0,c1,c2,c3,c4⟩:=bx5 e9.o;go_enter Tryz.func125,Tryz.ntmps125;go_upto_region 1 with fail
 rw [<- HW.o];clear HW;go_wp2_with fail;refine d5.o.mono ?_;clear d5 c0 c1 c2 c3 c4;rintro e w2 ⟨u,o,m,lo,hi,i1,i0,i3,i2,hC,hu,rfl,c7,h6,h5,X⟩;have HC:=U hC;have HU:=U hu;have h0:=c7.lt;obtain ⟨p,c9⟩:=O1 w2.heap.size;obtain ⟨S,b3⟩:=O1 (w2.alloc (.cells #[.string ⟨#[]⟩,.int .i64 0,.slice none 0 0,.bool false,.slice none 0 0,.slice none 0 0] 41));have a6:=O7 b3
 have d0:S.rowIs p 41 6 (qe (.string ⟨#[]⟩) (.int .i64 0) (.slice none 0 0) (.bool false) (.slice none 0 0) (.slice none 0 0)):=by rw [b3,c9];exact zN _ _ _ _ _ _ _ _
 have g:=U (show p≠o/\p≠m/\hi<=p/\w.heap.size+2<=o/\w.heap.size+2<=m/\w.heap.size+2<=p/\p<S.heap.size/\o<S.heap.size/\m<S.heap.size from by
  have V:=X.size;have I:=d0.lt;have h3:=f6.o;have h4:=a6.size;omega)
 have y:=U (c7.below a6);have q:=U (qw (X.trans (a6.mono X.size)) c6.o c6.o.lt);replace l:=U (l.o.trans ((X.trans (a6.mono X.size)).mono l.o.size));have c:=U d0;have z:=U (Z9 S.heap.size);have d7:=U b3;have d6:=U c9;clear hC hu h0 c7 h6 h5 X a6 d0 b3 c9 c6 e9 f6;have c5:=U (@tI u st HA.o);have a2:=U (Z5 (@fw u zb st) HU.o);have a4:=U (tx zb y.o (by decide) (by have:=HA.o;omega));rw [show qh u zb st=rgN u st from rfl] at a4 a2;have b0:=O0 (rgA u st=kz u (rgN u st).2) rfl;have F:=O0 (dK u st=if qu u (rgP u st).2≠0 then (kf,qu u (rgP u st).2) else if qV (rgX u st) then (rgX u st,0) else (kf,3)) rfl;have r:=O0 (rgX u st=⟨(rgN u st).1,(rgA u st).1,(rgT u st).1,(rgP u st).1.1,(rgP u st).1.2⟩) rfl;have b2:=O0 (rgT u st=qN u trmN (rgA u st).2) rfl;have D:=O0 (rgP u st=if zq u zY (rgT u st).2 then (([],(qg u zY 32 (rgT u st).2).1),(qg u zY 32 (rgT u st).2).2) else (((qg u xm 32 (rgT u st).2).1,[]),(qg u xm 32 (rgT u st).2).2)) rfl;obtain ⟨GX,g2⟩:=O1 (rgX u st);rw [<- g2] at F r;clear g2;have b8:=U c5.o.1;obtain ⟨GN,g0⟩:=O1 (rgN u st);rw [<- g0] at a4 b0 r b8 a2;clear g0;obtain ⟨nm,SN⟩:=GN;dsimp only at a4 b0 r b8 a2;go_upto_region 3 with fail
 rw [<- d7.o,<- d6.o];clear d6 d7;go_wp2_with fail;refine a4.o.mono ?_;clear a4;rintro e w4 ⟨rfl,B,d⟩;replace y:=U B;replace q:=U (d.row q.o (by have:=g.o;omega));replace c:=U (d.row c.o (by have:=g.o;omega));replace l:=U (l.o.trans (d.below (by have:=l.o.size;omega) fun k hk e=>by have:=g.o;omega));replace z:=U (Z5 z.o d.size);clear B d;have e0:=c.o.cell (i:=0) (by decide);have f0:=c.o.frozen 0;simp only [qe] at e0;obtain ⟨W5,b4⟩:=O1 (w4.setCell ⟨p,0,none⟩ (.string nm));have a:Touch (fun b=>b=p) w4 W5:=by rw [b4];exact (Touch.refl _ _).trans (qC _)
 replace c:=U (show W5.rowIs p 41 6 (qe (.string nm) (.int .i64 0) (.slice none 0 0) (.bool false) (.slice none 0 0) (.slice none 0 0)) from by
  rw [b4];refine (c.o.set 0 _).congr fun j hj=>?_;rcases j with _|_|_|_|_|_|j <;> first|rfl|omega)
 replace y:=U (y.o.touch a g.o.1 g.o.2.1 g.o.2.2.1);replace q:=U (a.row q.o (by have:=g.o;omega));replace l:=U (l.o.trans (a.below (by have:=l.o.size;omega) fun k hk e=>by have:=g.o;omega));replace z:=U (Z5 z.o a.size);have e6:=U b4;clear a b4;go_upto_region 4 with fail
 rw [<- e6.o];clear e6 e0 f0;have a3:=U (mz y.o HU.o (by have:=b8.o;omega));have a1:=U (@fy u SN HU.o);rw [<- b0.o] at a3 a1;have b9:=U c5.o.2.1;obtain ⟨GA,f7⟩:=O1 (rgA u st);rw [<- f7] at a3 a1 r b2 b9;clear f7 b0;obtain ⟨M,SA⟩:=GA;dsimp only at a3 a1 r b2 b9;go_wp2_with fail;refine a3.o.mono ?_;clear a3;rintro e w6 ⟨⟨ia,ic,rfl,P,Q⟩,B,d⟩;have d3:=O0 (M.ids.length<=ic) P;have h:=O0 (qy w6 S.heap.size w6.heap.size ia M.ids) (Q.carry z.o lz (fun _ _ _=>rfl));clear P Q;replace y:=U B;replace q:=U (d.row q.o (by have:=g.o;omega));replace c:=U (d.row c.o (by have:=g.o;omega));replace l:=U (l.o.trans (d.below (by have:=l.o.size;omega) fun k hk e=>by have:=g.o;omega));replace z:=U (Z5 z.o d.size);clear B d;have e1:=c.o.cell (i:=1) (by decide);have f1:=c.o.frozen 1;simp only [qe] at e1;have e2:=c.o.cell (i:=2) (by decide);have f2:=c.o.frozen 2;simp only [qe] at e2;obtain ⟨W7,b5⟩:=O1 ((w6.setCell ⟨p,1,none⟩ (.int .i64 M.thr)).setCell ⟨p,2,none⟩ (.slice ia M.ids.length ic));have a:Touch (fun b=>b=p) w6 W7:=by rw [b5];exact ((Touch.refl _ _).trans (qC _)).trans (qC _)
 replace c:=U (show W7.rowIs p 41 6 (qe (.string nm) (.int .i64 M.thr) (.slice ia M.ids.length ic) (.bool false) (.slice none 0 0) (.slice none 0 0)) from by
  rw [b5];refine ((c.o.set 1 _).set 2 _).congr fun j hj=>?_;rcases j with _|_|_|_|_|_|j <;> first|rfl|omega)
 replace y:=U (y.o.touch a g.o.1 g.o.2.1 g.o.2.2.1);replace q:=U (a.row q.o (by have:=g.o;omega));replace l:=U (l.o.trans (a.below (by have:=l.o.size;omega) fun k hk e=>by have:=g.o;omega));replace z:=U (Z5 z.o a.size);replace h:=U (h.o.carry lz a.size (fun b V I=>a.block b I (by have:=g.o;omega)));have e7:=U b5;clear a b5;go_upto_region 5 with fail
 rw [<- e7.o];clear e7 e1 f1 e2 f2;have a0:=U (iY trmN y.o (by decide) (by have:=b9.o;omega));rw [<- b2.o] at a0;have b1:=U c5.o.2.2;obtain ⟨GT,g1⟩:=O1 (rgT u st);rw [<- g1] at a0 r D b1;clear g1 b2;obtain ⟨tm,ST⟩:=GT;dsimp only at a0 r D b1;go_wp2_with fail;refine a0.o.mono ?_;clear a0;rintro e w8 ⟨rfl,B,d⟩;replace y:=U B;replace q:=U (d.row q.o (by have:=g.o;omega));replace c:=U (d.row c.o (by have:=g.o;omega));replace l:=U (l.o.trans (d.below (by have:=l.o.size;omega) fun k hk e=>by have:=g.o;omega));replace z:=U (Z5 z.o d.size);replace h:=U (h.o.carry lz d.size (fun b V I=>d.block b I (by have:=g.o;omega)));clear B d;have e3:=c.o.cell (i:=3) (by decide);have f3:=c.o.frozen 3;simp only [qe] at e3;obtain ⟨W9,b6⟩:=O1 (w8.setCell ⟨p,3,none⟩ (.bool tm));have a:Touch (fun b=>b=p) w8 W9:=by rw [b6];exact (Touch.refl _ _).trans (qC _)
 replace c:=U (show W9.rowIs p 41 6 (qe (.string nm) (.int .i64 M.thr) (.slice ia M.ids.length ic) (.bool tm) (.slice none 0 0) (.slice none 0 0)) from by
  rw [b6];refine (c.o.set 3 _).congr fun j hj=>?_;rcases j with _|_|_|_|_|_|j <;> first|rfl|omega)
 replace y:=U (y.o.touch a g.o.1 g.o.2.1 g.o.2.2.1);replace q:=U (a.row q.o (by have:=g.o;omega));replace l:=U (l.o.trans (a.below (by have:=l.o.size;omega) fun k hk e=>by have:=g.o;omega));replace z:=U (Z5 z.o a.size);replace h:=U (h.o.carry lz a.size (fun b V I=>a.block b I (by have:=g.o;omega)));have e8:=U b6;clear a b6;go_upto_region 6 with fail
 rw [<- e8.o];clear e8 e3 f3;have d4:=U (iW zY y.o);go_wp2_with fail;refine d4.o.mono ?_;clear d4;rintro e i4 ⟨rfl,f⟩;replace y:=U (y.o.below f);replace q:=U (qw f q.o q.o.lt);replace c:=U (qw f c.o c.o.lt);replace l:=U (O2 l f);replace z:=U (Z5 z.o f.size);replace h:=U (h.o.below f lz lz f.size);clear f;obtain ⟨hv,g3⟩:=O1 (zq u zY ST);rw [<- g3] at D ⊢;clear g3;cases hv with
 | true =>
  rw [Q1 rfl] at D;have K:=U (cJ zY 32 y.o (by decide) (by have:=b1.o;omega));have J:=U (@xl u zY 32 ST);obtain ⟨GP,a5⟩:=O1 (qg u zY 32 ST);rw [<- a5] at K J D;clear a5;obtain ⟨T,SP⟩:=GP;dsimp only at K J D;rw [D.o] at F r;clear D;dsimp only at F r;go_wp2_with fail;refine K.o.mono ?_;clear K;rintro e L ⟨⟨Y,Z,rfl,P,Q⟩,B,d⟩;have b7:=O0 (T.length<=Z) P;have E:=O0 (qy L S.heap.size L.heap.size Y T) (Q.carry z.o lz (fun _ _ _=>rfl));clear P Q;replace y:=U B;replace q:=U (d.row q.o (by have:=g.o;omega));replace c:=U (d.row c.o (by have:=g.o;omega));replace l:=U (l.o.trans (d.below (by have:=l.o.size;omega) fun k hk e=>by have:=g.o;omega));replace z:=U (Z5 z.o d.size);replace h:=U (h.o.carry lz d.size (fun b V I=>d.block b I (by have:=g.o;omega)));clear B d;have e5:=c.o.cell (i:=5) (by decide);have f5:=c.o.frozen 5;simp only [qe] at e5;obtain ⟨H,A⟩:=O1 (L.setCell ⟨p,5,none⟩ (.slice Y T.length Z));have a:Touch (fun b=>b=p) L H:=by rw [A];exact (Touch.refl _ _).trans (qC _)
  replace c:=U (show H.rowIs p 41 6 (qe (.string nm) (.int .i64 M.thr) (.slice ia M.ids.length ic) (.bool tm) (.slice none 0 0) (.slice Y T.length Z)) from by
   rw [A];refine (c.o.set 5 _).congr fun j hj=>?_;rcases j with _|_|_|_|_|_|j <;> first|rfl|omega)
  replace y:=U (y.o.touch a g.o.1 g.o.2.1 g.o.2.2.1);replace q:=U (a.row q.o (by have:=g.o;omega));replace l:=U (l.o.trans (a.below (by have:=l.o.size;omega) fun k hk e=>by have:=g.o;omega));replace z:=U (Z5 z.o a.size);replace h:=U (h.o.carry lz a.size (fun b V I=>a.block b I (by have:=g.o;omega)));replace E:=U (E.o.carry lz a.size (fun b V I=>a.block b I (by have:=g.o;omega)));have N:=U A;clear a A;go_upto_region 9 with fail
  rw [<- N.o];clear N e5 f5;have HD:=U (uH y.o HU.o);obtain ⟨dn,a7⟩:=O1 (qu u SP);rw [<- a7] at HD F;clear a7;have hR:=q.o;obtain ⟨t0,t1,t2,t3,t4⟩:=rc5 hR;have t5:=hR.cell (i:=5) (by decide);obtain ⟨s0,s1,s2,s3,s4⟩:=rf5 hR;have s5:=hR.frozen 5;simp only [qe] at t0 t1 t2 t3 t4 t5;clear hR;go_wp2_with fail;refine HD.o.mono ?_;clear HD;rintro e h7 ⟨rfl,h'⟩;subst h';by_cases hd:dn=0
  case neg =>
   have d1:(dn != 0)=true:=by simpa using hd
   rw [Q1 hd] at F;clear hd;go_wp2;refine Q3 (qb Tryz.results125 _ _ (w.heap.size+1) 41 _ (0,0) _ rfl (zv (vT _ _ _ _ _ _ q.o)) H6 rfl (by kernel_rfl) _ rfl) rfl ?_;refine ⟨u,HC.o,?_⟩;rw [F.o];exact ky (xi _ _ _ _ _ _ l.o (by omega))
  subst hd;rw [Z6 (by decide)] at F;have G:=U (jQ (⟨nm,M,tm,[],T⟩:DelegV) ia none Y ic 0 Z H ⟨h.o.carry (Q2 _) lz (fun _ _ _=>rfl),(.inl rfl),E.o.carry (Q2 _) lz (fun _ _ _=>rfl)⟩ ⟨a2.o,a1.o,⟨Q2 _,fun s Q=>(by cases Q)⟩,⟨Z5 J.o.1 (by decide),fun s Q=>Z5 (J.o.2.1 s Q) HU.o⟩⟩);dsimp only [List.length_nil] at G;rw [<- r.o] at G;obtain ⟨mb,a8⟩:=O1 (qV GX);rw [<- a8] at G F;clear a8;rw [r.o] at F;have e0:=c.o.cell (i:=0) (by decide);have f0:=c.o.frozen 0;simp only [qe] at e0;have e1:=c.o.cell (i:=1) (by decide);have f1:=c.o.frozen 1;simp only [qe] at e1;have e2:=c.o.cell (i:=2) (by decide);have f2:=c.o.frozen 2;simp only [qe] at e2;have e3:=c.o.cell (i:=3) (by decide);have f3:=c.o.frozen 3;simp only [qe] at e3;have e4:=c.o.cell (i:=4) (by decide);have f4:=c.o.frozen 4;simp only [qe] at e4;have e5:=c.o.cell (i:=5) (by decide);have f5:=c.o.frozen 5;simp only [qe] at e5;go_wp2_with fail;refine G.o.mono ?_;clear G e0 f0 e1 f1 e2 f2 e3 f3 e4 f4 e5 f5 t0 s0 t1 s1 t2 s2 t3 s3 t4 s4 t5 s5;rintro e a9 ⟨rfl,f⟩;replace y:=U (y.o.below f);replace q:=U (qw f q.o q.o.lt);replace c:=U (qw f c.o c.o.lt);replace l:=U (O2 l f);replace z:=U (Z5 z.o f.size);replace h:=U (h.o.below f lz lz f.size);replace E:=U (E.o.below f lz lz f.size);clear f;have hR:=q.o;obtain ⟨t0,t1,t2,t3,t4⟩:=rc5 hR;have t5:=hR.cell (i:=5) (by decide);obtain ⟨s0,s1,s2,s3,s4⟩:=rf5 hR;have s5:=hR.frozen 5;simp only [qe] at t0 t1 t2 t3 t4 t5;have e0:=c.o.cell (i:=0) (by decide);have f0:=c.o.frozen 0;simp only [qe] at e0;have e1:=c.o.cell (i:=1) (by decide);have f1:=c.o.frozen 1;simp only [qe] at e1;have e2:=c.o.cell (i:=2) (by decide);have f2:=c.o.frozen 2;simp only [qe] at e2;have e3:=c.o.cell (i:=3) (by decide);have f3:=c.o.frozen 3;simp only [qe] at e3;have e4:=c.o.cell (i:=4) (by decide);have f4:=c.o.frozen 4;simp only [qe] at e4;have e5:=c.o.cell (i:=5) (by decide);have f5:=c.o.frozen 5;simp only [qe] at e5;clear hR;cases mb with
  | false => rw [Z6 (by decide)] at F;go_wp2;refine Q3 (qb Tryz.results125 _ _ (w.heap.size+1) 41 _ (0,0) _ rfl (zv (vT _ _ _ _ _ _ q.o)) H6 rfl (by kernel_rfl) _ rfl) rfl ?_;refine ⟨u,HC.o,?_⟩;rw [F.o];exact ky (xi _ _ _ _ _ _ l.o (by omega))
  | true => rw [Q1 rfl] at F;have R:=O0 (w.heap.size+2<=S.heap.size) (by have:=g.o;omega);go_wp2;refine Q3 (qb Tryz.results125 _ _ (w.heap.size+1) 41 _ (0,0) _ rfl (zv (vT _ _ _ _ _ _ q.o)) H6 rfl (by kernel_rfl) _ rfl) rfl ?_;refine ⟨u,HC.o,?_⟩;rw [F.o];have hc:=fun b (V:S.heap.size<=b) (I:b<a9.heap.size)=>vw (W:=a9) (.string nm) (.int .i64 M.thr) (.slice ia M.ids.length ic) (.bool tm) (.slice none 0 0) (.slice Y T.length Z) (show b≠w.heap.size+1 by have:=R.o;omega);exact ⟨ia,ic,none,0,Y,Z,rfl,⟨d3.o,Z9 _,b7.o⟩,⟨h.o.carry (by have:=R.o;omega) (X6 wz.symm) hc,(.inl rfl),E.o.carry (by have:=R.o;omega) (X6 wz.symm) hc⟩,xi _ _ _ _ _ _ l.o (by omega)⟩
 | false =>
  rw [Z6 (by decide)] at D;have K:=U (cJ xm 32 y.o (by decide) (by have:=b1.o;omega));have J:=U (@xl u xm 32 ST);obtain ⟨GP,a5⟩:=O1 (qg u xm 32 ST);rw [<- a5] at K J D;clear a5;obtain ⟨T,SP⟩:=GP;dsimp only at K J D;rw [D.o] at F r;clear D;dsimp only at F r;go_wp2_with fail;refine K.o.mono ?_;clear K;rintro e L ⟨⟨Y,Z,rfl,P,Q⟩,B,d⟩;have b7:=O0 (T.length<=Z) P;have E:=O0 (qy L S.heap.size L.heap.size Y T) (Q.carry z.o lz (fun _ _ _=>rfl));clear P Q;replace y:=U B;replace q:=U (d.row q.o (by have:=g.o;omega));replace c:=U (d.row c.o (by have:=g.o;omega));replace l:=U (l.o.trans (d.below (by have:=l.o.size;omega) fun k hk e=>by have:=g.o;omega));replace z:=U (Z5 z.o d.size);replace h:=U (h.o.carry lz d.size (fun b V I=>d.block b I (by have:=g.o;omega)));clear B d;have e4:=c.o.cell (i:=4) (by decide);have f4:=c.o.frozen 4;simp only [qe] at e4;obtain ⟨H,A⟩:=O1 (L.setCell ⟨p,4,none⟩ (.slice Y T.length Z));have a:Touch (fun b=>b=p) L H:=by rw [A];exact (Touch.refl _ _).trans (qC _)
  replace c:=U (show H.rowIs p 41 6 (qe (.string nm) (.int .i64 M.thr) (.slice ia M.ids.length ic) (.bool tm) (.slice Y T.length Z) (.slice none 0 0)) from by
   rw [A];refine (c.o.set 4 _).congr fun j hj=>?_;rcases j with _|_|_|_|_|_|j <;> first|rfl|omega)
  replace y:=U (y.o.touch a g.o.1 g.o.2.1 g.o.2.2.1);replace q:=U (a.row q.o (by have:=g.o;omega));replace l:=U (l.o.trans (a.below (by have:=l.o.size;omega) fun k hk e=>by have:=g.o;omega));replace z:=U (Z5 z.o a.size);replace h:=U (h.o.carry lz a.size (fun b V I=>a.block b I (by have:=g.o;omega)));replace E:=U (E.o.carry lz a.size (fun b V I=>a.block b I (by have:=g.o;omega)));have N:=U A;clear a A;go_upto_region 9 with fail
  rw [<- N.o];clear N e4 f4;have HD:=U (uH y.o HU.o);obtain ⟨dn,a7⟩:=O1 (qu u SP);rw [<- a7] at HD F;clear a7;have hR:=q.o;obtain ⟨t0,t1,t2,t3,t4⟩:=rc5 hR;have t5:=hR.cell (i:=5) (by decide);obtain ⟨s0,s1,s2,s3,s4⟩:=rf5 hR;have s5:=hR.frozen 5;simp only [qe] at t0 t1 t2 t3 t4 t5;clear hR;go_wp2_with fail;refine HD.o.mono ?_;clear HD;rintro e h7 ⟨rfl,h'⟩;subst h';by_cases hd:dn=0
  case neg =>
   have d1:(dn != 0)=true:=by simpa using hd
   rw [Q1 hd] at F;clear hd;go_wp2;refine Q3 (qb Tryz.results125 _ _ (w.heap.size+1) 41 _ (0,0) _ rfl (zv (vT _ _ _ _ _ _ q.o)) H6 rfl (by kernel_rfl) _ rfl) rfl ?_;refine ⟨u,HC.o,?_⟩;rw [F.o];exact ky (xi _ _ _ _ _ _ l.o (by omega))
  subst hd;rw [Z6 (by decide)] at F;have G:=U (jQ (⟨nm,M,tm,T,[]⟩:DelegV) ia Y none ic Z 0 H ⟨h.o.carry (Q2 _) lz (fun _ _ _=>rfl),E.o.carry (Q2 _) lz (fun _ _ _=>rfl),(.inl rfl)⟩ ⟨a2.o,a1.o,⟨Z5 J.o.1 (by decide),fun s Q=>Z5 (J.o.2.1 s Q) HU.o⟩,⟨Q2 _,fun s Q=>(by cases Q)⟩⟩);dsimp only [List.length_nil] at G;rw [<- r.o] at G;obtain ⟨mb,a8⟩:=O1 (qV GX);rw [<- a8] at G F;clear a8;rw [r.o] at F;have e0:=c.o.cell (i:=0) (by decide);have f0:=c.o.frozen 0;simp only [qe] at e0;have e1:=c.o.cell (i:=1) (by decide);have f1:=c.o.frozen 1;simp only [qe] at e1;have e2:=c.o.cell (i:=2) (by decide);have f2:=c.o.frozen 2;simp only [qe] at e2;have e3:=c.o.cell (i:=3) (by decide);have f3:=c.o.frozen 3;simp only [qe] at e3;have e4:=c.o.cell (i:=4) (by decide);have f4:=c.o.frozen 4;simp only [qe] at e4;have e5:=c.o.cell (i:=5) (by decide);have f5:=c.o.frozen 5;simp only [qe] at e5;go_wp2_with fail;refine G.o.mono ?_;clear G e0 f0 e1 f1 e2 f2 e3 f3 e4 f4 e5 f5 t0 s0 t1 s1 t2 s2 t3 s3 t4 s4 t5 s5;rintro e a9 ⟨rfl,f⟩;replace y:=U (y.o.below f);replace q:=U (qw f q.o q.o.lt);replace c:=U (qw f c.o c.o.lt);replace l:=U (O2 l f);replace z:=U (Z5 z.o f.size);replace h:=U (h.o.below f lz lz f.size);replace E:=U (E.o.below f lz lz f.size);clear f;have hR:=q.o;obtain ⟨t0,t1,t2,t3,t4⟩:=rc5 hR;have t5:=hR.cell (i:=5) (by decide);obtain ⟨s0,s1,s2,s3,s4⟩:=rf5 hR;have s5:=hR.frozen 5;simp only [qe] at t0 t1 t2 t3 t4 t5;have e0:=c.o.cell (i:=0) (by decide);have f0:=c.o.frozen 0;simp only [qe] at e0;have e1:=c.o.cell (i:=1) (by decide);have f1:=c.o.frozen 1;simp only [qe] at e1;have e2:=c.o.cell (i:=2) (by decide);have f2:=c.o.frozen 2;simp only [qe] at e2;have e3:=c.o.cell (i:=3) (by decide);have f3:=c.o.frozen 3;simp only [qe] at e3;have e4:=c.o.cell (i:=4) (by decide);have f4:=c.o.frozen 4;simp only [qe] at e4;have e5:=c.o.cell (i:=5) (by decide);have f5:=c.o.frozen 5;simp only [qe] at e5;clear hR;cases mb with
  | false => rw [Z6 (by decide)] at F;go_wp2;refine Q3 (qb Tryz.results125 _ _ (w.heap.size+1) 41 _ (0,0) _ rfl (zv (vT _ _ _ _ _ _ q.o)) H6 rfl (by kernel_rfl) _ rfl) rfl ?_;refine ⟨u,HC.o,?_⟩;rw [F.o];exact ky (xi _ _ _ _ _ _ l.o (by omega))
  | true => rw [Q1 rfl] at F;have R:=O0 (w.heap.size+2<=S.heap.size) (by have:=g.o;omega);go_wp2;refine Q3 (qb Tryz.results125 _ _ (w.heap.size+1) 41 _ (0,0) _ rfl (zv (vT _ _ _ _ _ _ q.o)) H6 rfl (by kernel_rfl) _ rfl) rfl ?_;refine ⟨u,HC.o,?_⟩;rw [F.o];have hc:=fun b (V:S.heap.size<=b) (I:b<a9.heap.size)=>vw (W:=a9) (.string nm) (.int .i64 M.thr) (.slice ia M.ids.length ic) (.bool tm) (.slice Y T.length Z) (.slice none 0 0) (show b≠w.heap.size+1 by have:=R.o;omega);exact ⟨ia,ic,Y,Z,none,0,rfl,⟨d3.o,b7.o,Z9 _⟩,⟨h.o.carry (by have:=R.o;omega) (X6 wz.symm) hc,E.o.carry (by have:=R.o;omega) (X6 wz.symm) hc,(.inl rfl)⟩,xi _ _ _ _ _ _ l.o (by omega)⟩
theorem my (v:JV) (x:Value) (w:World) (lo:Nat) (b:0<lo) (d:v.wt<=4294967296) (c:Rep w lo w.heap.size v x) (f:v.kind=5->qK v.names=true/\v.names.length=v.items.length) :
 Calls Tryz.prog 125 #[x] w (kT (zV v) w):=by
 refine (fS (jy v) (st0 v) v x w (c.carry (Q2 _) lz (fun _ _ _=>rfl)) (by unfold st0;split <;> simp) (fun w1 hb=>nW d b hb.size (c.below hb lz lz lz) f)).mono ?_;rintro e w' ⟨u,a,h⟩;unfold jy at a;unfold st0 at h;by_cases hk:v.kind=5
 . rw [Q1 hk] at a h;subst a;rw [<- lL hk];exact h
 . rw [Z6 hk] at a h;subst a;have:zV v=(kf,10):=by unfold zV;rw [Q1 hk]
   rw [this];rw [lR] at h;exact h
theorem lA {l:List JV} {acc:List DelegV} {k:Nat} (a:k<l.length):xy (l.drop k) acc=if (zV l[k]).2≠0 then ([],(zV l[k]).2) else if acc.any (fun y=>decide (y.name=(zV l[k]).1.name)) then ([],7) else xy (l.drop (k+1)) (acc ++ [(zV l[k]).1]):=by rw [K6 a,xy]
theorem lT:(Tryz.prog.info? 41).map (fun i=>(i.zero,i.size,i.bytes))=some (some (.agg #[.string ⟨#[]⟩,.int .i64 0,.slice none 0 0,.bool false,.slice none 0 0,.slice none 0 0]),6,104):=by kernel_rfl
def vt (r:List DelegV × Int) (w:World) (e:Ending) (w':World):Prop :=
 ∃a c,e=.returned (.tuple #[.slice a r.1.length c,.int .i64 r.2])/\r.1.length<=c/\q9 w' w.heap.size w'.heap.size a r.1/\O5 w w'
theorem yv {a:Int} {w w':World} (b:O5 w w'):vt ([],a) w (.returned (.tuple #[.slice none 0 0,.int .i64 a])) w':=⟨none,0,rfl,Z9 _,.inl rfl,b⟩
theorem fA (items:List JV) (a0:Option Addr) (c0:Nat) (w:World) (lo:Nat) (i4:0<lo) (hN:JV.wts items<=4294967296) (hA:zj w lo w.heap.size a0 items) (hp:∀v ∈ items,v.kind=5->qK v.names=true/\v.names.length=v.items.length) (hl:items.length<=4294967296) :
 Calls Tryz.prog 66 #[.slice a0 items.length c0] w (vt (xy items []) w):=by
 have HA:=U hA;have g0:=U i4;have h2:=U hN;have HP:=U hp;obtain ⟨G,hG⟩:=O1 (xy items []);rw [<- hG];have HG:=U hG;obtain ⟨nn,b0⟩:=O1 items.length;have b9:=U b0;rw [<- b0] at hl ⊢;clear hA i4 hN hp hG b0;go_enter Tryz.func66,Tryz.ntmps66;go_wp2_with fail;go_loopw [4,6,7,8,11] (fun s4 _ _ _ i wr=>∃(k:Nat) (a:Option Addr) (c:Nat) (qs:List DelegC),k<=nn/\qs.length=k/\i=.int .i64 k/\s4=.slice a k c/\G=xy (items.drop k) (qs.map (·.x))/\jZ 41 w.heap.size wr s4 qs/\O5 w wr) (fun _ _ _ _ i _=>nn - (intOf i).toNat)
 case atStart=>exact ⟨0,none,0,[],by omega,rfl,rfl,rfl,HG.o,ItemsOwn.nil _ _ _ _ _ _,Z0 _ _⟩
 case round =>
  obtain ⟨k,a4,c4,m,hk,f1,rfl,rfl,e8,a1,e6⟩:=hrel;have H:=U e8;have HO:=U a1;have g:=U e6;have B:=U f1;clear e8 a1 e6 HG f1;by_cases hlt:k<nn
  . have S:k<items.length:=by rw [<- b9.o];exact hlt
    obtain ⟨b,o,d3,d5,d2,d4,ha,-,i3,e0,e1,e2,e3,e4,F⟩:=(HA.o.below g.o lz lz lz).get k S;subst ha;have m1:(0:Int)<=(k:Int):=by omega
    have m2:(k:Int)<(nn:Int):=by omega
    have m3:decide ((k:Int)<(nn:Int))=true:=by simpa using hlt
    have d:=U (lA (l:=items) (acc:=m.map (·.x)) S);have f2:=JV.wts_get items k S;have b1:=HP.o _ (J1 S);obtain ⟨s,f0⟩:=O1 (items[k]);rw [<- f0] at e0 e1 e2 e3 e4 F d f2 b1;clear f0;obtain ⟨L,N⟩:=O1 (wr.alloc (.cells #[.int .u8 s.kind,.int .i64 s.n,.string s.t,.slice d3 s.names.length d5,.slice d2 s.items.length d4] 25));have R:=O7 N
    have b3:=O9 N
    have A:=U (my s _ L lo g0.o (by have:=h2.o;omega) (F.below R (by have:=g.o.size;omega) lz (by have:=g.o.size;have:=R.size;omega)) b1);have a2:=U R;have d0:=U (qz b3);have c6:=U N;obtain ⟨z0,z1,z2,z3,z4⟩:=bx5 b3;obtain ⟨DX,d6⟩:=O1 (zV s);rw [<- d6] at A d;clear R b3 N F d6 f2 b1;obtain ⟨x,er⟩:=DX;unfold kT at A;dsimp only at A d;go_upto_region 5 with fail
    rw [<- c6.o];clear e0 e1 e2 e3 e4 c6;go_wp2_with fail;refine A.o.mono ?_;clear A z0 z1 z2 z3 z4;rintro e p ⟨W,ic,X,pc,Y,qc,rfl,C,e9,Q⟩;obtain ⟨q,P⟩:=O1 (p.alloc (.cells #[.string x.name,.int .i64 x.au.thr,.slice W x.au.ids.length ic,.bool x.term,.slice X x.paths.length pc,.slice Y x.pres.length qc] 41));have a7:=O7 P
    have T:=O9 P
    have a8:O5 wr q:=a2.o.trans ((Q.trans (a7.mono Q.size)).mono a2.o.size);have b6:=U (show ∀w':World,O5 q w'->w'.cell? ⟨p.heap.size,0,none⟩=some (.string x.name)/\w'.cell? ⟨p.heap.size,1,none⟩=some (.int .i64 x.au.thr)/\w'.cell? ⟨p.heap.size,2,none⟩=some (.slice W x.au.ids.length ic)/\w'.cell? ⟨p.heap.size,3,none⟩=some (.bool x.term)/\w'.cell? ⟨p.heap.size,4,none⟩=some (.slice X x.paths.length pc)/\w'.cell? ⟨p.heap.size,5,none⟩=some (.slice Y x.pres.length qc) from fun w' h=>by
     have y:=(h.block _ (qz T)).trans T;exact ⟨qq y rfl,qq y rfl,qq y rfl,qq y rfl,qq y rfl,qq y rfl⟩)
    have c3:=U (ItemsOwn.below wV HO.o a8);have z:=U (O2 g a8);have f5:=O0 (DelegIn q L.heap.size p.heap.size x W X Y) (e9.below a7 lz lz lz);have a3:=U C;have J:=O0 (w.heap.size<=wr.heap.size/\wr.heap.size<L.heap.size/\L.heap.size<=p.heap.size/\p.heap.size<q.heap.size) (⟨g.o.size,d0.o,Q.size,qz T⟩);have c7:=U P;have g3:=O0 (∀b,(Value.slice a4 k c4).ownBlock=some b->b<wr.heap.size) (fun b hb=>(HO.o.own.lt b hb).2);clear P a7 T a8 C e9 Q HO a2 d0;go_upto_region 6 with fail
    rw [<- c7.o];clear c7;by_cases her:er=0
    case neg =>
     have d1:(er != 0)=true:=by simpa using her
     rw [Q1 her] at d;clear her;go_wp2;go_ret2;rw [H.o,d.o];exact yv z.o
    subst her;rw [Z6 (by decide)] at d;obtain ⟨a9,c9,j,-,E⟩:=jZ.row (l:=m.map (·.x)) c3.o rfl;have f:(m.map (·.x)).length=k:=by rw [J6];exact B.o
    rw [f] at j;simp only [X4,H7] at j;obtain ⟨rfl,rfl⟩:=j;have I:=U (yx (m.map (·.x)) x.name a4 c4 q (E.carry (Q2 _) lz (fun _ _ _=>rfl)) (by rw [f];omega));rw [f] at I;obtain ⟨V,hV⟩:=O1 ((m.map (·.x)).any (fun y=>decide (y.name=x.name)));rw [<- hV] at I d;clear hV f E;obtain ⟨y0,y1,y2,y3,y4,y5⟩:=b6.o q (Z0 _ _);go_wp2_with fail;refine I.o.mono ?_;clear I y0 y1 y2 y3 y4 y5;rintro e Z ⟨rfl,d7⟩;have u:=U d7;clear d7;cases V with
    | true => rw [Q1 rfl] at d;go_wp2;go_ret2;rw [H.o,d.o];exact yv (z.o.trans (u.o.mono z.o.size))
    | false =>
     rw [Z6 (by decide)] at d;obtain ⟨y0,y1,y2,y3,y4,y5⟩:=b6.o Z u.o;obtain ⟨K,M⟩:=O1 (Z.alloc (.cells #[.string x.name,.int .i64 x.au.thr,.slice W x.au.ids.length ic,.bool x.term,.slice X x.paths.length pc,.slice Y x.pres.length qc] 41));have e5:=O7 M
     have b2:=O9 M
     have r:O5 q K:=O2 u e5;have c2:=U (ItemsOwn.below wV c3.o r);have a6:=O0 (K.ownsRow w.heap.size 41 6 (.slice a4 k c4) k (m.flatMap aa)) (by have:=c2.o.own;rw [B.o] at this;exact this);have b5:=U (O2 z r);have b7:=U (f5.o.below r (by have:=J.o;omega) lz lz);have h3:=U b2;have h0:=U M;have c5:=O0 (q.heap.size<=Z.heap.size/\Z.heap.size<K.heap.size) (⟨u.o.size,qz b2⟩);obtain ⟨i1,h4,h6,h7,i0⟩:=V2 lT;have h5:w.heap.size<=K.heap.size:=b5.o.size;clear M e5 b2 r;go_upto_region 11 with (at_builtin;rw [<- h0.o];(refine X9 _ rfl (.tmp 27) (.tmp 29) 29 rfl w.heap.size 41 i1 _ 6 104 Tryz.underlying29 h4 h6 h7 i0 rfl (by omega) (.slice a4 k c4) k (m.flatMap aa) rfl a6.o ⟨Z.heap.size,0,none⟩ 1 1 [.string x.name,.int .i64 x.au.thr,.slice W x.au.ids.length ic,.bool x.term,.slice X x.paths.length pc,.slice Y x.pres.length qc] rfl rfl (J5 (cs:=#[.string x.name,.int .i64 x.au.thr,.slice W x.au.ids.length ic,.bool x.term,.slice X x.paths.length pc,.slice Y x.pres.length qc]) (t:=41) (fr:=(0,0)) h3.o) (by simp [Value.oneCell']) (by omega) (by unfold maxLen;omega) (by omega) (by have:=c5.o;omega) K.heap.size (by omega) ?_);intro g2 cap2 w7 hown6 hgrow6 hat6 hlt6;have c1:=U hown6;have a5:=U hgrow6;have b4:=U hat6;clear hown6 hgrow6 hat6)
     obtain ⟨qn,D⟩:∃qn:DelegC,qn=⟨x,W,ic,X,pc,Y,qc⟩:=⟨_,rfl⟩;have i2:=U D;have g4:=U (show jZ 41 w.heap.size w7 (.slice (some ⟨g2,0,none⟩) (k+1) cap2) (m ++ [qn]) from ItemsOwn.snoc wV (v':=.slice (some ⟨g2,0,none⟩) (k+1) cap2) c2.o qn L.heap.size p.heap.size (by have:=J.o;omega) (by have:=J.o;have:=c5.o;omega) (fun b hb hbg=>by
      have h1:=g3.o b hb;have:=J.o;omega) (by rw [D];exact ⟨a3.o.1,a3.o.2.1,a3.o.2.2,b7.o⟩) a5.o (by rw [B.o,D];exact c1.o) (by
      rcases b4.o with h|h
      . exact .inl h.symm
      . exact .inr ⟨g2,rfl,by omega⟩))
     have f3:=U (below_grown b5.o h5 a5.o (fun b hb=>(a6.o.lt b hb).1));have f7:=O0 ((m ++ [qn]).length=k+1) (by rw [V6,B.o];rfl);have g1:=O0 ((m ++ [qn]).map (·.x)=m.map (·.x) ++ [x]) (by rw [N0,D];rfl);clear c1 a5 b4 a6 D;go_wp2;go_roundw
     case rel=>exact ⟨k+1,some ⟨g2,0,none⟩,cap2,m ++ [qn],by omega,f7.o,by go_num,rfl,by rw [H.o,d.o,g1.o],g4.o,f3.o⟩
     case measure=>simp [intOf];omega
  . have m3:decide ((k:Int)<(nn:Int))=false:=by simpa using hlt
    have b8:=U (show G=(m.map (·.x),0) from by
     rw [H.o,List.drop_eq_nil_of_le (by rw [<- b9.o];omega),xy])
    obtain ⟨a9,c9,j,e7,E⟩:=jZ.row (l:=m.map (·.x)) HO.o rfl;have f:(m.map (·.x)).length=k:=by rw [J6];exact B.o
    rw [f] at j;simp only [X4,H7] at j;obtain ⟨rfl,rfl⟩:=j;have g5:=U E;have f4:=U e7;have f6:=U f;clear E e7 f;go_wp2;go_ret2;rw [b8.o];exact ⟨a4,c4,by rw [f6.o] <;> rfl,f4.o,g5.o,g.o⟩
