import Derived.Test.YthgembbgcbaghaaGreatDoorDt30
import Derived.Maps.Own
set_option maxHeartbeats 2000000
set_option maxRecDepth 100000

namespace Go.Proofs.YthgembbgcbaghaaGreatDoor
open Go.RowKit
abbrev Zf:=ByteArray × ByteArray × ByteArray
inductive Ver where
 | mac
 | tab (l:List Zf)
open Go.Maps
def nV (D:DataW Unit) (l:List ByteArray):Prop:=∀s:ByteArray,D.atKey (.string s.data.toList) (.lit (.int .i64 0))=.lit (.int .i64 (if ju l s then 1 else 0))
theorem iW:nV (.map []) []:=fun _=>rfl
theorem iY {D:DataW Unit} {l:List ByteArray} {x:ByteArray} (h:nV D l) (hD:IsMap D):nV (D.put (.string x.data.toList) (.lit (.int .i64 1))) (l ++ [x]):=fun s=>by
 by_cases e:s=x
 . subst e;rw [atKey_put_same hD (by simp [WideAt.IsKeyLit])];rw [J1 ((jC _ _).2 (by simp))]
 . rw [atKey_put_other (fun e'=>e (by
    have e2:s.data.toList=x.data.toList:=by injection e'
    exact vW (by rw [X2,X2];exact e2))),h s]
   have:ju (l ++ [x]) s=ju l s:=(by rw [za0,jC,jC];simp [e]);rw [this]
open Go.WideMaps
theorem dZ:Keyed Tryz.prog 9:=string_keyed X8
theorem dX (l:List ByteArray) (k:Nat) (h:k<l.length):qA (l.take k) (l.drop k)=if j4 l[k] then (if ju (l.take k) l[k] then 7 else qA (l.take (k+1)) (l.drop (k+1))) else 3:=by rw [K0 h,qA,Z6 h]
theorem gT (l:List ByteArray) (a:Option Addr) (c:Nat) (w:World) (hS:qv w 0 w.heap.size a l) (hl:l.length<=1000) (hs:∀s ∈ l,s.size<=4294967296) :
 Calls Tryz.prog 183 #[.slice a l.length c] w fun e w'=>e=.returned (.int .i64 (qA [] l))/\Below w.heap.size w w':=by
 have X:=U hS;have Y:=U hs;clear hS hs;have a0:=@run_makeMap Tryz.prog;go_enter Tryz.func183,Tryz.ntmps183;go_wp2;go_loopw [5,9] (fun _ i wr=>∃(k:Nat) (D:DataW Unit),k<=l.length/\i=.int .i64 k/\qA [] l=qA (l.take k) (l.drop k)/\nV D (l.take k)/\wr.ownsMap Tryz.prog 9 (plainElem (H:=Unit) Tryz.prog 3) w.heap.size k D/\Below w.heap.size w wr) (fun _ i _=>l.length - (intOf i).toNat)
 case atStart=>exact ⟨0,.map [],by omega,rfl,rfl,iW,World.ownsMap_made _ _ _ _,(Z0 _ _).alloc lz _⟩
 case round =>
  obtain ⟨k,D,hk,rfl,G,S,d,f⟩:=hrel;have h:=U G;have R:=U S;have y:=U f;clear G S;by_cases hlt:k<l.length
  . obtain ⟨b,a1,ha,_,hb,Z⟩:=(X.o.below f lz lz f.size).at k hlt;subst ha;have g:=U (dX l k hlt);have P:=Y.o l[k] (J7 hlt);have C:=U (iY (x:=l[k]) R.o (d.isMap));have r:=U (R.o l[k]);have K:l.take (k+1)=l.take k ++ [l[k]]:=Z6 hlt;have E:=U K;have z:=U (tk l[k] wr (by omega));obtain ⟨x,T⟩:=O1 (l[k]);rw [<- T] at Z g P C r E z;have p:Go.keyOf Tryz.prog 9 (.string x)=some (.string x.data.toList):=keyOf_string_mk X8 (by unfold maxLen;omega);obtain ⟨o,v⟩:∃q,q=jw x.data.toList:=⟨_,rfl⟩;rw [<- v] at z;have F:=U (show j4 x=(decide (x.size=64) && o) by unfold j4;rw [v]);clear T f v K;obtain ⟨L,J⟩:=O1 (ju (l.take k) x);rw [<- J] at g r;clear J;have m0:(k:Int)<(l.length:Int):=by omega
    by_cases h64:x.size=64
    . have hd:((x.size:Int) != 64)=false:=by simp;omega
      rw [J2 h64,X4] at F;cases o
      . clear h64;go_wp2_with fail;refine z.o.mono ?_;rintro e Q ⟨rfl,rfl⟩;go_wp2;go_ret;exact ⟨xo (by rw [h.o,g.o,F.o];rfl),y.o⟩
      . clear h64;have B:=O0 (j4 x=true) F.o;obtain ⟨u,I,m,_⟩:=d.lookup_int dZ K8 V1 (kM _) p;rw [r.o] at m;have A:=U (show u=if L=true then 1 else 0 by
         simp only [zb6,zc8,zc0] at m;exact m.symm)
        clear m;cases L
        . obtain rfl:u=0:=A.o;have W:=U d;clear d;go_wp2_with (first|(go_at_call 195;refine z.o.mono ?_;rintro e Q ⟨rfl,rfl⟩)|(at_mapUpdate;refine za7 _ rfl _ _ _ 150 rfl 9 3 dZ K8 _ w.heap.size k _ rfl W.o (by unfold maxLen;omega) _ _ _ rfl rfl p _ [] (plainElem_int V1 (by decide)) ?_;intro Q hown1 hgrow1)|go_in);have N:=U hown1;have M:=U hgrow1;clear hown1 hgrow1 I;go_wp2;go_roundw
          case rel => exact ⟨k+1,_,by omega,by go_num,by rw [h.o,g.o,B.o];rfl,by rw [E.o];exact C.o,N.o,y.o.grown M.o y.o.size (fun j hj=>by cases hj;exact J0 _)⟩
          case measure=>simp [intOf];omega
        . obtain rfl:u=1:=A.o;clear d;go_wp2_with (go_at_call 195;refine z.o.mono ?_;rintro e Q ⟨rfl,rfl⟩);go_ret;exact ⟨xo (by rw [h.o,g.o,B.o];rfl),y.o⟩
    . have hd:((x.size:Int) != 64)=true:=by simp;omega
      rw [Z7 h64,V0] at F;clear h64 z;go_wp2;go_ret;exact ⟨xo (by rw [h.o,g.o,F.o];rfl),y.o⟩
  . have V:=U (show qA [] l=0 by
     rw [h.o,List.drop_eq_nil_of_le (by omega)];rfl)
    clear d f;go_wp2;go_ret;exact ⟨xo V.o.symm,y.o⟩
theorem jd {t:Int} {l:List ByteArray} (h:¬(1<=l.length/\l.length<=16/\1<=t/\t<=l.length)):xw t l=false:=by unfold xw;rw [Z7 h];rfl
theorem sC {t:Int} {l:List ByteArray} (h:1<=l.length/\l.length<=16/\1<=t/\t<=l.length):xw t l=(qA [] l == 0):=by unfold xw;rw [J2 h,X4,za0,Q6,zc6]
theorem nW (t:Int) (l:List ByteArray) (a:Option Addr) (c:Nat) (w:World) (hS:qv w 0 w.heap.size a l) (hs:∀s ∈ l,s.size<=4294967296) :
 Calls Tryz.prog 136 #[.agg #[.int .i64 t,.slice a l.length c]] w fun e w'=>e=.returned (.bool (xw t l))/\Below w.heap.size w w':=by
 have b:=O0 (Below w.heap.size w (w.alloc (.cells #[.int .i64 t,.slice a l.length c] 31))) ((Z0 _ _).alloc lz _);have h:=U (fun h16:l.length<=16=>gT l a c _ (hS.below b.o lz lz (by simp)) (by omega) hs);clear hS hs;by_cases h1:l.length<1
 . have d:=U (jd (t:=t) (l:=l) (by omega));have k:decide ((l.length:Int)<1)=true:=by simp;omega
   go_enter Tryz.func136,Tryz.ntmps136;go_wp2;go_ret;exact ⟨qz d.o.symm,b.o⟩
 have k:decide ((l.length:Int)<1)=false:=by simp;omega
 by_cases h2:16<l.length
 . have d:=U (jd (t:=t) (l:=l) (by omega));have m:decide (16<(l.length:Int))=true:=by simp;omega
   go_enter Tryz.func136,Tryz.ntmps136;go_wp2;go_ret;exact ⟨qz d.o.symm,b.o⟩
 have m:decide (16<(l.length:Int))=false:=by simp;omega
 by_cases h3:t<1
 . have d:=U (jd (t:=t) (l:=l) (by omega));have o:decide (t<1)=true:=by simp;omega
   go_enter Tryz.func136,Tryz.ntmps136;go_wp2;go_ret;exact ⟨qz d.o.symm,b.o⟩
 have o:decide (t<1)=false:=by simp;omega
 by_cases h4:(l.length:Int)<t
 . have d:=U (jd (t:=t) (l:=l) (by omega));have p:decide ((l.length:Int)<t)=true:=by simp;omega
   go_enter Tryz.func136,Tryz.ntmps136;go_wp2;go_ret;exact ⟨qz d.o.symm,b.o⟩
 have p:decide ((l.length:Int)<t)=false:=by simp;omega
 have d:=U (sC (t:=t) (l:=l) (by omega));have i:=U (h.o (by omega));clear h;obtain ⟨E,j⟩:=O1 (qA [] l);rw [<- j] at d i;clear j;go_enter Tryz.func136,Tryz.ntmps136;go_wp2_with fail;refine i.o.mono ?_;rintro e q ⟨rfl,f⟩;have g:=U (b.o.trans (f.mono (by simp)));clear f;go_wp2;go_ret;exact ⟨qz d.o.symm,g.o⟩
open Go.Shelf Go.Sort
theorem dJ (n:Int) (w:World):Calls Tryz.prog 204 #[.int .i64 n] w fun e w'=>e=.returned (.agg #[.int .u8 2,.int .i64 n,.string ⟨#[]⟩,.slice none 0 0,.slice none 0 0])/\w'=w.alloc (.cells #[.int .u8 2,.int .i64 n,.string ⟨#[]⟩,.slice none 0 0,.slice none 0 0] 25):=by go_enter Tryz.func204,Tryz.ntmps204;go_wp2;exact J3 (X6 Tryz.results204 _ _ w.heap.size 25 _ (0,0) _ rfl (Z4 w _) J5 rfl (by kernel_rfl)) rfl ⟨rfl,rfl⟩
def dK (t:Int) (l:List ByteArray) (w:World) (e:Ending) (w':World):Prop :=
 ∃g ai ci,e=.returned (.slice (some ⟨g,0,none⟩) 2 2)/\w'.heap[g]?=some (.cells #[.string ⟨#[107,101,121,105,100,115]⟩,.int .u8 4,.int .i64 0,.string ⟨#[]⟩,.slice none 0 0,.slice ai l.length ci,.string ⟨#[116,104,114,101,115,104,111,108,100]⟩,.int .u8 2,.int .i64 t,.string ⟨#[]⟩,.slice none 0 0,.slice none 0 0] 169 (0,0)) /\
  Rep w' w.heap.size g (qg l) (.agg #[.int .u8 4,.int .i64 0,.string ⟨#[]⟩,.slice none 0 0,.slice ai l.length ci])/\Below w.heap.size w w'/\w.heap.size<=g
theorem dV (t:Int) (l:List ByteArray) (a:Option Addr) (c:Nat) (w:World) (hS:qv w 0 w.heap.size a l) (hl:l.length<=4294967296) :
 Calls Tryz.prog 200 #[.agg #[.int .i64 t,.slice a l.length c]] w (dK t l w):=by
 obtain ⟨W,z⟩:=O1 (w.alloc (.cells #[.int .i64 t,.slice a l.length c] 31));have o:Below w.heap.size w W:=by rw [z];exact (Z0 _ _).alloc lz _
 have A:W.heap[w.heap.size]?=some (.cells #[.int .i64 t,.slice a l.length c] 31 (0,0)):=by rw [z];exact Z4 w _
 have B:=U (show ∀w':World,Below W.heap.size W w'->w'.cell? ⟨w.heap.size,0,none⟩=some (.int .i64 t)/\w'.cell? ⟨w.heap.size,1,none⟩=some (.slice a l.length c)/\w.heap.size<w'.heap.size from fun w' h=>by
  have E:=(h.block _ (qx A)).trans A;exact ⟨qq E rfl,qq E rfl,X9 (qx A) h.size⟩)
 have F:=U (show ∀w':World,Below W.heap.size W w'->Calls Tryz.prog 203 #[.slice a l.length c] w' (fun e f=>∃k m,e=.returned (.agg #[.int .u8 4,.int .i64 0,.string ⟨#[]⟩,.slice none 0 0,.slice k l.length m])/\Hid (Rep f W.heap.size f.heap.size (qg l) (.agg #[.int .u8 4,.int .i64 0,.string ⟨#[]⟩,.slice none 0 0,.slice k l.length m]))/\Below W.heap.size W f/\f.cell? ⟨w.heap.size,0,none⟩=some (.int .i64 t)/\f.cell? ⟨w.heap.size,1,none⟩=some (.slice a l.length c)/\w.heap.size<f.heap.size) from fun w' h=>by
  have v:=o.trans (h.mono o.size);refine (mR l a c w' (hS.below v lz lz v.size) hl).mono ?_;rintro e f ⟨k,m,rfl,G,i⟩;have s:=h.trans (i.mono h.size);exact ⟨k,m,rfl,U (Rep.carry h.size lz (fun _ _ _=>rfl) _ _ G),s,B.o _ s⟩)
 have C:=U (show ∀w':World,Below W.heap.size W w'->Calls Tryz.prog 204 #[.int .i64 t] w' (fun e f=>e=.returned (.agg #[.int .u8 2,.int .i64 t,.string ⟨#[]⟩,.slice none 0 0,.slice none 0 0])/\Below w'.heap.size w' f/\Below W.heap.size W f/\f.cell? ⟨w.heap.size,0,none⟩=some (.int .i64 t)/\f.cell? ⟨w.heap.size,1,none⟩=some (.slice a l.length c)/\w.heap.size<f.heap.size) from fun w' h=>by
  refine (dJ t w').mono ?_;rintro e f ⟨rfl,rfl⟩;have i:Below w'.heap.size w' (w'.alloc (.cells #[.int .u8 2,.int .i64 t,.string ⟨#[]⟩,.slice none 0 0,.slice none 0 0] 25)):=(Z0 _ _).alloc lz _;have s:=h.trans (i.mono h.size);exact ⟨rfl,i,s,B.o _ s⟩)
 have y:=U o;have D:=U z;clear hS o A z;have d:Below W.heap.size W W.drew:=(Z0 _ _).drew;obtain ⟨p,q,g⟩:=B.o W (Z0 _ _);go_enter Tryz.func200,Tryz.ntmps200;go_upto_region 1 with fail
 rw [<- D.o];clear D
 go_region_held3 (fun w'=>w'.cell? ⟨w.heap.size,0,none⟩=some (.int .i64 t)/\w'.cell? ⟨w.heap.size,1,none⟩=some (.slice a l.length c)) (first|(with_reducible exact ⟨p,q⟩)|(with_reducible exact ⟨(qi _ g).trans p,(qi _ g).trans q⟩)|(go_keep;done)) (first|(go_at_call 203;(with_reducible refine (F.o _ d).mono ?_);rintro e f ⟨k,m,rfl,j,d,p,q,g⟩)|(go_at_call 204;(with_reducible refine (C.o _ d).mono ?_);rintro e f ⟨rfl,u,d,p,q,g⟩;replace j:=U (j.o.below u lz lz u.size))|(go_at_call 204;(with_reducible refine (C.o _ d).mono ?_);rintro e f ⟨rfl,-,d,p,q,g⟩))
 all_goals
  have r:=U d;clear d p q g;go_wp2;go_ret;have x:=Z3 y.o.size r.o.size;exact ⟨_,k,m,rfl,Z4 _ _,Rep.carry y.o.size lz (fun b _ o=>X5 _ _ _ o) _ _ j.o,(y.o.trans (r.o.mono y.o.size)).alloc x _,x⟩
theorem o7 {w:World} {g T N:Nat} {v:Value} {f:Nat->Value} (hrow:w.rowIs g T N f) (h:∀j,j<N->f j=v) (hN:N<=maxLen):w.ownsRow g T 1 (.slice (some ⟨g,0,none⟩) N N) N (List.replicate N v):=by
 obtain ⟨a,e,i,d⟩:=hrow;refine ⟨by simp,.inr ⟨g,N,a,rfl,J0 _,e,J0 _,hN,by omega,?_⟩⟩;apply List.ext_getElem?;intro j;by_cases hj:j<N
 . have b:=d j hj;rw [h j hj] at b;have c:j<a.size:=by omega
   rw [V3 c] at b;simp only [K7] at b;simp [hj,c,b]
 . rw [List.getElem?_eq_none (by simp;omega),List.getElem?_eq_none (by simp;omega)]
theorem sD (c:UInt8) (n:Nat):Lib.byteCells (List.replicate n c)=List.replicate n (.int .u8 c.toNat):=by simp [Lib.byteCells]
theorem Q4 (c:UInt8) (w:World):Calls Tryz.prog 27 #[.int .u8 c.toNat] w fun e w'=>e=.returned (.string (gD c))/\Below w.heap.size w w':=by
 obtain ⟨s,x⟩:=O1 (gD c);have E:=O0 (s=⟨(List.replicate 64 c).toArray⟩) x;rw [<- x];obtain ⟨n,v⟩:∃n:Nat,n=c.toNat:=⟨_,rfl⟩;have C:=U v;rw [<- v];clear x v;obtain ⟨G,hi,y,z,A⟩:=V9 fD;go_enter Tryz.func27,Tryz.ntmps27;go_wp2_with (at_make;refine wpList_make_full _ rfl (.const (.int .i64 64)) (.const (.int .i64 64)) 114 rfl w.heap.size 5 G (.int .u8 0) 1 V6 hi y z .i64 .i64 _ _ 64 rfl rfl rfl rfl ?b2 ?b3 lz ?_)
 case b2=>rw [A];decide
 case b3=>unfold maxLen;decide
 intro w1 hown hgrow;have p:Hid (Below w.heap.size w w1):=(Z0 _ _).grown hgrow lz (by simp);have m:=U (show ∃f,w1.rowIs w.heap.size 5 64 f from by
  rcases hown.2 with ⟨h,_⟩|⟨g,cap,cur,hv,hg,hh,hc,hm,hz,ht⟩
  . cases h
  . simp only [V2,K7,Addr.mk.injEq,M9,zc0] at hv;obtain ⟨rfl,rfl⟩:=hv;exact ⟨fun i=>cur[i]!,cur,hh,hz,fun i hi=>by show cur[i]?=some cur[i]!;rw [getElem!_pos cur i (by omega),V3 (by omega)]⟩)
 have F:=U (show w.heap.size<w1.heap.size from by
  obtain ⟨f,u⟩:=m.o;exact u.lt)
 clear hown hgrow;go_wp2;go_loopw [4] (fun i wr=>∃(k:Nat) (f:Nat->Value),k<=64/\i=.int .i64 k/\wr.rowIs w.heap.size 5 64 f/\(∀j,j<k->f j=.int .u8 n)/\Below w.heap.size w wr) (fun i _=>64 - (intOf i).toNat)
 case atStart => obtain ⟨f,u⟩:=m.o;exact ⟨0,f,by omega,rfl,u,fun j h=>by omega,p.o⟩
 case round =>
  obtain ⟨k,f,K,rfl,a,o,d⟩:=hrel;have l:=U o;have B:=U d;have D:=U a;clear o d;by_cases hlt:k<64
  . have H:decide ((k:Int)<64)=true:=by simp;omega
    have L:(0:Int)<=(k:Int):=by omega
    have M:(k:Int)<64:=by omega
    have I:=a.cell (i:=k) hlt;have J:=a.frozen k;have q:=U (a.set k (.int .u8 (n:Int)));clear a;go_wp2;go_roundw
    case rel =>
     refine ⟨k+1,_,by omega,by go_num,q.o,fun j hj=>?_,B.o.setCell lz _⟩;by_cases e:j=k
     . simp [e]
     . simp only [e,zd4];exact l.o j (by omega)
    case measure=>simp [intOf];omega
  . obtain rfl:k=64:=by omega
    have H:decide (((64:Nat):Int)<64)=false:=by decide
    have b:=o7 a (fun j hj=>l.o j hj) (by unfold maxLen;omega);rw [C.o,<- sD] at b;have r:=zD (P:=Tryz.prog) 114 9 5 V6 N0 X8 b;rw [<- E.o] at r;clear a b;go_wp2;go_ret;exact ⟨rfl,B.o⟩
theorem dW (w:World):Calls Tryz.prog 32 #[] w fun e w'=>∃g,e=.returned (.agg #[.int .i64 1,.slice (some ⟨g,0,none⟩) 1 1])/\qv w' w.heap.size w'.heap.size (some ⟨g,0,none⟩) [gD 97]/\Below w.heap.size w w':=by
 obtain ⟨W,j⟩:=O1 (w.alloc (.cells #[.int .i64 0,.slice none 0 0] 31));have q:Below w.heap.size w W:=by rw [j];exact (Z0 _ _).alloc lz _
 have u:W.rowIs w.heap.size 31 2 (kt (.int .i64 0) (.slice none 0 0)):=by rw [j];exact ve w _ _ _
 have b:=U (Q4 97 W);obtain ⟨s,v⟩:=O1 (gD 97);rw [<- v] at b ⊢;have l:=U q;have m:=U u;have o:=U j;clear j q u v;go_enter Tryz.func32,Tryz.ntmps32;go_upto_region 1 with fail
 rw [<- o.o];clear o;go_wp2_with fail;refine b.o.mono ?_;clear b;rintro r h ⟨rfl,c⟩;have d:=qj c m.o m.o.lt;have a:=d.alloc (.cells #[.string s] 9);have k:=U a;have f:=U (O2 l c);have x:=U (Z4 h (.cells #[.string s] 9));have p:=O0 (w.heap.size<h.heap.size) d.lt;have y:=a.cell (i:=0) (by decide);have z:=a.cell (i:=1) (by decide);have A:=a.frozen 0;have B:=a.frozen 1;simp only [kt] at y z;clear d a c;go_wp2;refine J3 (X6 Tryz.results32 _ _ w.heap.size 31 _ (0,0) _ rfl (z6 (set2 _ _ k.o)) zc1 rfl (by kernel_rfl)) rfl ?_;refine ⟨h.heap.size,rfl,.inr ⟨_,0,rfl,by have:=p.o;omega,by simp [World.setCell],fun i hi=>?_⟩,ym _ _ (f.o.alloc f.o.size _) lz⟩;obtain rfl:i=0:=by simp at hi;omega
 rw [Y6 (w:=h.alloc (.cells #[.string s] 9)) (eW _ _ (show h.heap.size≠w.heap.size by have:=p.o;omega))];exact qq x.o rfl
theorem gI (n p:ByteArray) (last:Bool) (w:World):Calls Tryz.prog 31 #[.string n,.string p,.bool last] w fun e w'=>∃ga gp,e=.returned (.agg #[.string n,.int .i64 1,.slice (some ⟨ga,0,none⟩) 1 1,.bool last,.slice (some ⟨gp,0,none⟩) 1 1,.slice none 0 0])/\qv w' w.heap.size w'.heap.size (some ⟨ga,0,none⟩) [gD 97]/\qv w' w.heap.size w'.heap.size (some ⟨gp,0,none⟩) [p]/\Below w.heap.size w w':=by
 obtain ⟨W,l⟩:=O1 (w.alloc (.cells #[.string ⟨#[]⟩,.int .i64 0,.slice none 0 0,.bool false,.slice none 0 0,.slice none 0 0] 41));have v:Below w.heap.size w W:=by rw [l];exact (Z0 _ _).alloc lz _
 have x:W.rowIs w.heap.size 41 6 (qK (.string ⟨#[]⟩) (.int .i64 0) (.slice none 0 0) (.bool false) (.slice none 0 0) (.slice none 0 0)):=by rw [l];exact xW w _ _ _ _ _ _ _
 have g:=U (dW W);have s:=U v;have m:=U x;have u:=U l;clear l v x;go_enter Tryz.func31,Tryz.ntmps31;go_upto_region 1 with fail
 rw [<- u.o];clear u;go_wp2_with fail;refine g.o.mono ?_;clear g;rintro r d ⟨ga,rfl,j,c⟩;have h:=qj c m.o m.o.lt;have a:=h.alloc (.cells #[.string p] 9);have o:=U a;have f:=U (O2 s c);have y:=U (Z4 d (.cells #[.string p] 9));have k:=O0 (w.heap.size<W.heap.size/\W.heap.size<=d.heap.size) (⟨m.o.lt,c.size⟩);have q:=U (j.below (B:=d.heap.size) ((Z0 _ _).alloc lz (.cells #[.string p] 9)) lz lz (show d.heap.size<=(d.alloc (.cells #[.string p] 9)).heap.size by simp));obtain ⟨z,A,C,D,E⟩:=rc5 a;have F:=a.cell (i:=5) (by decide);obtain ⟨G,H,I,J,K⟩:=rf5 a;have L:=a.frozen 5;simp only [qK] at z A C D E F;clear h a c j;go_wp2;refine J3 (X6 Tryz.results31 _ _ w.heap.size 41 _ (0,0) _ rfl (zJ (yB _ _ _ _ _ _ o.o)) zb3 rfl (by kernel_rfl)) rfl ?_;refine ⟨ga,d.heap.size,rfl,?_,?_,ji _ _ _ _ _ _ (f.o.alloc f.o.size _) lz⟩
 . exact q.o.carry (by have:=k.o;omega) (K3 yH.symm) (fun b h1 h2=>pQ _ _ _ _ _ _ (by have:=k.o;omega))
 . refine .inr ⟨_,0,rfl,by have:=k.o;omega,by simp [World.setCell],fun i hi=>?_⟩;obtain rfl:i=0:=by simp at hi;omega
   rw [Y6 (w:=d.alloc (.cells #[.string p] 9)) (pQ _ _ _ _ _ _ (show d.heap.size≠w.heap.size by have:=k.o;omega))];exact qq y.o rfl
theorem o8 (k n:Nat) (w:World) (hk:k<=32) (hn:n<4294967296) :
 Calls Tryz.prog 173 #[.int .i64 k,.int .u32 n] w fun e w'=>e=.returned (.bool (decide (n<2 ^ k)))/\w'=w:=by
 have c:(k:Int)<=64:=by omega
 have a:=U (show ((n:Int) / 2 ^ k == 0)=decide (n<2 ^ k) from by
  have b:=Nat.two_pow_pos k;have e:((n:Int) / 2 ^ k)=((n / 2 ^ k:Nat):Int):=by push_cast;rfl
  rw [e];by_cases h:n<2 ^ k
  . rw [J2 h,Nat.div_eq_of_lt h];rfl
  . rw [Z7 h,Y8];have:0<n / 2 ^ k:=Nat.div_pos (by omega) b;omega)
 go_enter Tryz.func173,Tryz.ntmps173;go_wp2;go_ret;exact ⟨qz a.o,rfl⟩
def iG (count n q:Nat):Nat:=(qL (n / 16 ^ (count - 1 - q) % 16)).toNat
theorem dY:∀(count n q:Nat) (h:q<count),(gR count n)[q]'(by rw [j7];exact h)=qL (n / 16 ^ (count - 1 - q) % 16)
 | 0,_,_,h=>absurd h (by omega)
 | c+1,n,q,h=>by
  simp only [gR];by_cases e:q<c
  . rw [K6 (by rw [j7];exact e),dY c (n / 16) q e,Nat.div_div_eq_div_mul,show c+1 - 1 - q=(c - 1 - q)+1 from by omega,Nat.pow_succ,Nat.mul_comm 16]
  . obtain rfl:q=c:=by omega
    rw [G6 (by rw [j7];omega)];simp [j7]
abbrev nY:ByteArray:=⟨#[48,49,50,51,52,53,54,55,56,57,97,98,99,100,101,102]⟩
theorem rK (x:Nat) (h:x<16):(nY[x]'h)=qL x:=by
 have:∀m:Fin 16,(nY[m.val]'m.isLt)=qL m.val:=by decide
 exact this ⟨x,h⟩
theorem iB (n count:Nat) (w:World) (hn:n<4294967296) (hc:count<=8) :
 Calls Tryz.prog 174 #[.int .u32 n,.int .i64 count] w fun e w'=>e=.returned (.string ⟨(gR count n).toArray⟩)/\Below w.heap.size w w':=by
 obtain ⟨s,x⟩:∃s:ByteArray,s=⟨(gR count n).toArray⟩:=⟨_,rfl⟩;have B:=O0 (s=⟨(gR count n).toArray⟩) x;rw [<- x];clear x;obtain ⟨W,r⟩:=O1 (w.alloc (.cells #[.int .u8 0,.int .u8 0,.int .u8 0,.int .u8 0,.int .u8 0,.int .u8 0,.int .u8 0,.int .u8 0] 225));have z:=U (show Below w.heap.size w W by rw [r];exact (Z0 _ _).alloc lz _);have A:=O0 (∃f,W.rowIs w.heap.size 225 8 f) (⟨fun i=>(#[Value.int .u8 0,.int .u8 0,.int .u8 0,.int .u8 0,.int .u8 0,.int .u8 0,.int .u8 0,.int .u8 0]:Array Value)[i]!,by rw [r];exact xT rfl⟩);have y:=U r;clear r;go_enter Tryz.func174,Tryz.ntmps174;go_upto_region 2 with fail
 rw [<- y.o];clear y;go_wp2;go_loopw [0,6] (fun nv iv wr=>∃(j m:Nat) (f:Nat->Value),j<=count/\((j=0/\iv=.int .i64 (-1))\/(0<j/\iv=.int .i64 ((j - 1:Nat):Int)))/\nv=.int .u32 m/\m<4294967296/\(m=n / 16 ^ (count - j))/\wr.rowIs w.heap.size 225 8 f/\(∀q,j<=q->q<count->f q=.int .u8 (iG count n q))/\Below w.heap.size w wr) (fun _ iv _=>(intOf iv+1).toNat)
 case atStart =>
  obtain ⟨f,E⟩:=A.o;refine ⟨count,n,f,J0 _,?_,rfl,hn,by simp,E,fun q h1 h2=>by omega,z.o⟩;by_cases h0:count=0
  . subst h0;exact .inl ⟨rfl,by first|rfl|go_num⟩
  . exact .inr ⟨by omega,by congr 1;omega⟩
 case round =>
  obtain ⟨j,m,f,Q,v,rfl,R,l,a,c,b⟩:=hrel;rcases v with ⟨rfl,rfl⟩|⟨h0,rfl⟩
  . have d:=U c;have g:=U b;have F:decide ((0:Int)<=-1)=false:=by decide
    have p:=run_convert_bytes_back wr 114 9 5 ⟨w.heap.size,0,none⟩ 8 (gR count n) V6 N0 X8 (fun q hq=>by
     rw [j7] at hq;rw [dY count n q hq];have e:(⟨w.heap.size,0,none⟩:Addr).add q=⟨w.heap.size,q,none⟩:=by unfold Addr.add;split <;> simp_all
     rw [e,a.cell (by omega),d.o q (J8 _) hq];rfl)
    rw [j7] at p;rw [<- B.o] at p;have C:Tryz.prog.arrayLen 225=8:=by kernel_rfl
    have M:(0:Int)<=(count:Int):=by omega
    have N:(count:Int)<=8:=by omega
    have P:(count:Int)<=((Tryz.prog.arrayLen 225:Nat):Int):=by rw [C];omega
    clear a c b l;go_wp2;go_ret;exact ⟨rfl,g.o⟩
  . obtain ⟨k,rfl⟩:∃k,j=k+1:=⟨j - 1,by omega⟩;rw [Nat.add_sub_cancel];have d:=U c;have g:=U b;have o:=U l;have u:=U a;have F:decide ((0:Int)<=(k:Int))=true:=by rw [Q6];omega
    have S:(0:Int)<=(k:Int):=by omega
    have T:(k:Int)<8:=by omega
    have G:bits BinOp.and IntKind.u32 (m:Int) 15=(m:Int) % 16:=(by rw [u32_and _ _ (by omega) (by omega) (by omega) (by omega)];show ((m &&& 15:Nat):Int)=_;rw [nat_mask4];omega);have H:(0:Int)<=(m:Int) % 16:=by omega
    have I:(m:Int) % 16<16:=by omega
    have J:((m:Int) % 16).toNat=m % 16:=by omega
    have K:=a.cell (i:=k) (by omega);have L:=a.frozen k;clear c b l a;go_wp2;go_roundw
    case rel =>
     refine ⟨k,m / 16,_,by omega,?_,by push_cast;rfl,by omega,?_,u.o.set k _,fun q h1 h2=>?_,g.o.setCell lz _⟩
     . rcases N4 k with h|h
       . subst h;exact .inl ⟨rfl,rfl⟩
       . exact .inr ⟨h,by congr 1;omega⟩
     . rw [o.o,Nat.div_div_eq_div_mul,<- Nat.pow_succ];congr 2;omega
     . by_cases e:q=k
       . subst e;simp only [if_true];have D:=rK (m % 16) (by omega);unfold iG;rw [show count - 1 - q=count - (q+1) from by omega,<- o.o,<- D]
       . simp only [e,zd4];exact d.o q (by omega) h2
    case measure=>simp [intOf]
def gO (l:List UInt8):Nat->Nat
 | 0=>0
 | k+1=>gO l k * 256+(l.getD k 0).toNat
theorem sL (path:ByteArray):gO (ze path.data.toList) 4=rg path:=by simp only [gO,rg];omega
theorem nG (l:List UInt8):∀k,gO l k<256 ^ k
 | 0=>by simp [gO]
 | k+1=>by have:=nG l k;have h2:=(l.getD k 0).toNat_lt;rw [gO,Nat.pow_succ];omega
theorem Qh (a b:Nat) (h:b<256):a * 256 ||| b=a * 256+b:=by have:=Nat.two_pow_add_eq_or_of_lt (i:=8) h a;rw [Nat.mul_comm a 256];exact this.symm
theorem eq (path:ByteArray) (k:Nat) (w:World) (h1:1<=k) (h2:k<=32) (hp:path.size<=4294967296) (hT:Tabs w) :
 Calls Tryz.prog 100 #[.string path,.int .i64 k] w fun e w'=>e=.returned (.tuple #[.int .u32 (yE path k:Nat),.int .i64 0])/\Below w.heap.size w w':=by
 have F:=U (fun w=>(nt k w h1 h2).mono fun e w' h=>show e=.returned (.bool true)/\w=w' from ⟨h.1,h.2.symm⟩);have y:=U (nX path w (by omega) hT.init hT.rounds hT.l2);obtain ⟨S,o⟩:∃S:ByteArray,S=⟨(ze path.data.toList).toArray⟩:=⟨_,rfl⟩;rw [<- o] at y;have g:S.size=32:=by rw [o];show (ze path.data.toList).toArray.size=32;rw [List.size_toArray,xE]
 have q:=U g;have v:=U (show ∀j (h:j<S.size),S[j]=(ze path.data.toList).getD j 0 from fun j h=>by
  subst o;rw [Y0,Y5 (by rw [xE];rw [g] at h;exact h)];rfl)
 have u:=U (sL path);have x:=U (nG (ze path.data.toList));have l:=O0 (yE path k=rg path / 2 ^ (32 - k)) rfl;obtain ⟨L,z⟩:=O1 (ze path.data.toList);rw [<- z] at v u x;obtain ⟨R,A⟩:=O1 (yE path k);rw [<- A] at l ⊢;clear o g z hT A;go_enter Tryz.func100,Tryz.ntmps100;go_wp2_with (first|(go_at_call 170;refine (F.o _).mono ?_;rintro e I ⟨rfl,rfl⟩)|(go_at_call 172;refine y.o.mono ?_;rintro e I ⟨rfl,B⟩;have E:=U B;clear B));go_loopw [7,8] (fun nv iv wr=>∃j:Nat,j<=4/\iv=.int .i64 j/\nv=.int .u32 (gO L j:Nat)/\Below w.heap.size w wr) (fun _ iv _=>4 - (intOf iv).toNat)
 case atStart=>exact ⟨0,by omega,rfl,rfl,E.o⟩
 case round =>
  obtain ⟨j,Q,rfl,rfl,b⟩:=hrel;have i:=U b;clear b;by_cases hlt:j<4
  . have r:j<S.size:=by rw [q.o];omega
    have T:(0:Int)<=(j:Int):=by omega
    have H:decide ((j:Int)<4)=true:=by rw [Q6];omega
    have V:(j:Int)<(S.size:Int):=by omega
    have W:decide ((j:Int)<(S.size:Int))=true:=by rw [Q6];omega
    have C:S[j].toNat<256:=S[j].toNat_lt;have s:gO L j<16777216:=X9 (x.o j) (by
     have:256 ^ j<=256 ^ 3:=Nat.pow_le_pow_right (by decide) (by omega);omega)
    have d:=O0 (gO L (j+1)=gO L j * 256+S[j].toNat) (by rw [gO,v.o j r]);obtain ⟨c,f⟩:=O1 (S[j].toNat);have D:(S[j].toNat:Int)=(c:Int):=by rw [f]
    rw [<- f] at C d;obtain ⟨p,a⟩:=O1 (gO L j);rw [<- a] at s d ⊢;clear f a;have J:(p:Int) * 256 % 4294967296=(p:Int) * 256:=by omega
    have K:bits BinOp.or IntKind.u32 ((p:Int) * 256) (c:Int)=((p * 256+c:Nat):Int):=by
     have:=u32_or_nat (p * 256) c (by omega) (by omega);rw [Qh p c C] at this
     push_cast at this ⊢
     exact this
    go_wp2;go_roundw
    case rel=>exact ⟨j+1,by omega,by go_num,by rw [d.o];push_cast;rfl,i.o⟩
    case measure=>simp [intOf];omega
  . obtain rfl:j=4:=by omega
    have H:decide (((4:Nat):Int)<4)=false:=by decide
    obtain ⟨p,a⟩:=O1 (gO L 4);have m:p=rg path:=a.trans u.o;rw [<- a];have M:(0:Int)<=32 - (k:Int):=by omega
    have N:(32:Int) - (k:Int)<=32:=by omega
    have P:((32:Int) - (k:Int)).toNat=32 - k:=by omega
    have G:=O0 (((R:Nat):Int)=(p:Int) / 2 ^ (32 - k)) (by rw [l.o,<- m];push_cast;rfl);clear a m;go_wp2;go_ret2;exact ⟨by rw [G.o];rfl,i.o⟩
theorem iP (t:Int) (k n:Nat) (ids:List ByteArray) (pre:ByteArray) (ia:Option Addr) (ic:Nat) (w:World) (hp:pre.size<=4294967296) (hw:zV ⟨(k:Int),pre,⟨t,ids⟩⟩=0) (h1:1<=k) (h2:k<=32) (hn:n<2 ^ k) :
 Calls Tryz.prog 101 #[.agg #[.int .i64 t,.slice ia ids.length ic,.int .i64 k,.string pre],.int .u32 n] w fun e w'=>e=.returned (.tuple #[.string (jV pre k n),.int .i64 0])/\Below w.heap.size w w':=by
 have g:n<4294967296:=X9 hn (Z3 (Nat.pow_le_pow_right (by decide) h2) (by decide));obtain ⟨W,D⟩:=O1 (w.alloc (.cells #[.int .i64 t,.slice ia ids.length ic,.int .i64 k,.string pre] 33));have u:Below w.heap.size w W:=by rw [D];exact (Z0 _ _).alloc lz _
 have J:W.heap[w.heap.size]?=some (.cells #[.int .i64 t,.slice ia ids.length ic,.int .i64 k,.string pre] 33 (0,0)):=by rw [D];exact Z4 w _
 have L:=U u;have o:=U (show ∀w':World,Below W.heap.size W w'->w'.cell? ⟨w.heap.size,0,none⟩=some (.int .i64 t)/\w'.cell? ⟨w.heap.size,1,none⟩=some (.slice ia ids.length ic)/\w'.cell? ⟨w.heap.size,2,none⟩=some (.int .i64 k)/\w'.cell? ⟨w.heap.size,3,none⟩=some (.string pre) from fun w' h=>by
  have y:=(h.block _ (qx J)).trans J;exact ⟨qq y rfl,qq y rfl,qq y rfl,qq y rfl⟩)
 have l:=U (gN t k ids pre ia ic W hp (by omega));rw [hw] at l;have F:=U (fun w=>(o8 k n w h2 g).mono fun e w' h=>show e=.returned (.bool true)/\w=w' from ⟨by rw [h.1,J2 hn],h.2.symm⟩);have s:=U (fun w=>(uU k w h2).mono fun e w' h=>show e=.returned (.int .i64 ((wT k:Nat):Int))/\Below w.heap.size w w' from ⟨h.1,by rw [h.2];exact Z0 _ _⟩);have x:wT k<=8:=by unfold wT;omega
 have j:=U (fun w=>iB n (wT k) w g x);obtain ⟨r,c⟩:=O1 (wT k);have i:=O0 (jV pre k n=pre ++ eB ++ ⟨(gR r n).toArray⟩) (by rw [c];rfl);rw [<- c] at s j;obtain ⟨T,I⟩:∃T:ByteArray,T=⟨(gR r n).toArray⟩:=⟨_,rfl⟩;rw [<- I] at j i;have S:T.size<=8:=by rw [I];show (gR r n).toArray.size<=8;rw [List.size_toArray,j7,c];exact x
 have s1:¬9223372036854775807<pre.size+1:=by omega
 have s2:¬9223372036854775807<pre.size+1+T.size:=by omega
 obtain ⟨R,N⟩:=O1 (jV pre k n);rw [<- N] at i ⊢;have M:=U D;clear D J u hw hn c I N;obtain ⟨z,A,B,C⟩:=o.o W (Z0 _ _);go_enter Tryz.func101,Tryz.ntmps101;go_upto_region 1 with fail
 rw [<- M.o];clear M;go_wp2_with fail;refine l.o.mono ?_;rintro e Q ⟨rfl,p⟩;have a:=U p;obtain ⟨Y,Z,z2,z3⟩:=o.o Q p;clear p z A B C l;go_upto_region 6 with (go_at_call 173;refine (F.o _).mono ?_;rintro e w4 ⟨rfl,rfl⟩)
 clear Y Z z2 z3;obtain ⟨V,P⟩:∃V:List MP,V=[.con (.pointer (some ⟨w.heap.size,3,none⟩)),.con (.string pre),.con (.string (pre ++ ⟨#[45]⟩)),.con (.int .u32 (n:Int)),.con (.pointer (some ⟨w.heap.size,2,none⟩)),.con (.int .i64 (k:Int)),.con (.int .i64 (r:Int)),.con (.string T),.con (.string (pre ++ ⟨#[45]⟩ ++ T))]:=⟨_,rfl⟩;have b:=U P;clear P;refine qE 9 (fun d H w'=>∃x17 x18 x19 x20 x21 x22 x23 x24 x25,H=⟨#[.agg #[.int .i64 t,.slice ia ids.length ic,.int .i64 (k:Int),.string pre],.int .u32 (n:Int),.pointer (some ⟨w.heap.size,0,none⟩),undef,.string ⟨#[]⟩,.int .i64 0,.int .i64 0,.agg #[.int .i64 t,.slice ia ids.length ic,.int .i64 (k:Int),.string pre],.int .i64 0,.int .i64 0,.bool false,undef,.pointer (some ⟨w.heap.size,2,none⟩),.int .i64 (k:Int),.int .u32 (n:Int),.bool true,.bool false,x17,x18,x19,x20,x21,x22,x23,x24,x25],[]⟩/\zT Q V d w' [x17,x18,x19,x20,x21,x22,x23,x24,x25]) (by kernel_rfl) (by kernel_rfl) ?first ?step ?last
 case first=>exact ⟨_,_,_,_,_,_,_,_,_,rfl,zT.first _ _ _ (by rw [b.o];rfl)⟩
 case step =>
  rintro d H w' ⟨x17,x18,x19,x20,x21,x22,x23,x24,x25,rfl,h⟩ q hq hn hw;rcases q with _|_|_|_|_|_|_|_|_|q
  . refine Z9 rfl fun K hK=>?_;go_simp;exact hK _ _ ⟨_,_,_,_,_,_,_,_,_,rfl,h.sameC 0 _ b rfl⟩
  . obtain rfl:=h.cn hw b 0 .data;obtain ⟨z,A,B,C⟩:=o.o w' (a.o.trans (h.1.mono a.o.size));refine Z9 rfl fun K hK=>?_;go_simp;exact hK _ _ ⟨_,_,_,_,_,_,_,_,_,rfl,h.sameC 1 _ b rfl⟩
  . obtain rfl:=h.cn hw b 1 .data;refine Z9 rfl fun K hK=>?_;go_simp;exact hK _ _ ⟨_,_,_,_,_,_,_,_,_,rfl,h.sameC 2 _ b rfl⟩
  . refine Z9 rfl fun K hK=>?_;go_simp;exact hK _ _ ⟨_,_,_,_,_,_,_,_,_,rfl,h.sameC 3 _ b rfl⟩
  . refine Z9 rfl fun K hK=>?_;go_simp;exact hK _ _ ⟨_,_,_,_,_,_,_,_,_,rfl,h.sameC 4 _ b rfl⟩
  . obtain rfl:=h.cn hw b 4 .data;obtain ⟨z,A,B,C⟩:=o.o w' (a.o.trans (h.1.mono a.o.size));refine Z9 rfl fun K hK=>?_;go_simp;exact hK _ _ ⟨_,_,_,_,_,_,_,_,_,rfl,h.sameC 5 _ b rfl⟩
  . obtain rfl:=h.cn hw b 5 .data;obtain ⟨z,A,B,C⟩:=o.o w' (a.o.trans (h.1.mono a.o.size));refine Z9 rfl fun K hK=>?_;go_simp;refine (s.o w').mono ?_;rintro e X ⟨rfl,m⟩;exact hK _ _ ⟨_,_,_,_,_,_,_,_,_,rfl,h.didC m 6 _ b rfl⟩
  . obtain rfl:=h.cn hw b 3 .data;obtain rfl:=h.cn hw b 6 .data;obtain ⟨z,A,B,C⟩:=o.o w' (a.o.trans (h.1.mono a.o.size));refine Z9 rfl fun K hK=>?_;go_simp;refine (j.o w').mono ?_;rintro e X ⟨rfl,m⟩;exact hK _ _ ⟨_,_,_,_,_,_,_,_,_,rfl,h.didC m 7 _ b rfl⟩
  . obtain rfl:=h.cn hw b 2 .data;obtain rfl:=h.cn hw b 7 .data;refine Z9 rfl fun K hK=>?_;go_simp;exact hK _ _ ⟨_,_,_,_,_,_,_,_,_,rfl,h.sameC 8 _ b rfl⟩
  . omega
 case last => rintro d H w' f ⟨x17,x18,x19,x20,x21,x22,x23,x24,x25,rfl,h⟩;have v:=h.1;obtain rfl:=h.con 8 (f _ (by omega)) b rfl rfl;have G:=U v;clear h f v b;have p:=G.o;have E:=U (O2 L (O2 a p));clear p;go_wp2;go_ret2;exact ⟨by rw [i.o];rfl,E.o⟩
theorem rV {bits t:Int} {pre:ByteArray} {ids:List ByteArray} (h:zV ⟨bits,pre,⟨t,ids⟩⟩=0):∃k:Nat,bits=(k:Int)/\1<=k/\k<=32:=by
 unfold zV at h;split at h
 . cases h
 . rename_i hn;dsimp only at hn;exact ⟨bits.toNat,by omega,by omega,by omega⟩
theorem dG (t:Int) (k:Nat) (ids:List ByteArray) (pre path:ByteArray) (ia:Option Addr) (ic:Nat) (w:World) (hp:pre.size<=4294967296) (hq:path.size<=4294967296) (hw:zV ⟨(k:Int),pre,⟨t,ids⟩⟩=0) (h1:1<=k) (h2:k<=32) (hT:Tabs w) :
 Calls Tryz.prog 43 #[.agg #[.int .i64 t,.slice ia ids.length ic,.int .i64 k,.string pre],.string path] w fun e w'=>e=.returned (.tuple #[.string (jV pre k (yE path k)),.int .i64 0])/\Below w.heap.size w w':=by
 obtain ⟨W,l⟩:=O1 (w.alloc (.cells #[.int .i64 t,.slice ia ids.length ic,.int .i64 k,.string pre] 33));have i:Below w.heap.size w W:=by rw [l];exact (Z0 _ _).alloc lz _
 have p:W.heap[w.heap.size]?=some (.cells #[.int .i64 t,.slice ia ids.length ic,.int .i64 k,.string pre] 33 (0,0)):=by rw [l];exact Z4 w _
 have j:=U i;have o:=U (show ∀w':World,Below W.heap.size W w'->w'.cell? ⟨w.heap.size,0,none⟩=some (.int .i64 t)/\w'.cell? ⟨w.heap.size,1,none⟩=some (.slice ia ids.length ic)/\w'.cell? ⟨w.heap.size,2,none⟩=some (.int .i64 k)/\w'.cell? ⟨w.heap.size,3,none⟩=some (.string pre) from fun w' h=>by
  have y:=(h.block _ (qx p)).trans p;exact ⟨qq y rfl,qq y rfl,qq y rfl,qq y rfl⟩)
 have g:=U (gN t k ids pre ia ic W hp (by omega));rw [hw] at g;have d:=U (fun (w':World) (h:Below w.heap.size w w')=>eq path k w' h1 h2 hq (hT.below h));have f:=U (fun w'=>iP t k (yE path k) ids pre ia ic w' hp hw h1 h2 (oC h2));obtain ⟨n,z⟩:=O1 (yE path k);rw [<- z] at d f ⊢;obtain ⟨R,x⟩:=O1 (jV pre k n);rw [<- x] at f ⊢;have v:=U l;clear l p i hw z x hT;obtain ⟨A,B,C,D⟩:=o.o W (Z0 _ _);go_enter Tryz.func43,Tryz.ntmps43;go_upto_region 1 with fail
 rw [<- v.o];clear v;go_wp2_with fail;refine g.o.mono ?_;rintro e E ⟨rfl,a⟩;have b:=U a;obtain ⟨q,r,s,u⟩:=o.o E a;clear a A B C D g;go_wp2_with fail;refine (d.o _ (j.o.trans (b.o.mono j.o.size))).mono ?_;clear q r s u;rintro e F ⟨rfl,a⟩;have c:=U (O2 b a);clear a d;obtain ⟨q,r,s,u⟩:=o.o F c.o;go_wp2_with fail;refine (f.o _).mono ?_;clear q r s u;rintro e G ⟨rfl,a⟩;have m:=U (O2 j (O2 c a));clear a;go_wp2;go_ret2;exact ⟨rfl,m.o⟩
theorem sR (bits t:Int) (pre:ByteArray) (ids:List ByteArray):zb ⟨bits,pre,⟨t,ids⟩⟩=(decide (bits=0) && (decide (pre.size=0) && (decide (t=0) && decide (ids.length=0)))):=by
 unfold zb;have a:pre=⟨#[]⟩↔pre.size=0:=⟨fun e=>by rw [e];rfl,fun e=>by
  obtain ⟨d⟩:=pre;have:d.size=0:=e;rw [Array.size_eq_zero_iff] at this;rw [this]⟩
 have b:ids=[]↔ids.length=0:=List.length_eq_zero_iff.symm;simp only [a,b,Bool.decide_and]
theorem wK (t bits:Int) (ids:List ByteArray) (pre:ByteArray) (ia:Option Addr) (ic:Nat) (w:World) :
 Calls Tryz.prog 75 #[.agg #[.int .i64 t,.slice ia ids.length ic,.int .i64 bits,.string pre]] w fun e w'=>e=.returned (.bool (zb ⟨bits,pre,⟨t,ids⟩⟩))/\Below w.heap.size w w':=by
 obtain ⟨W,g⟩:=O1 (w.alloc (.cells #[.int .i64 t,.slice ia ids.length ic,.int .i64 bits,.string pre] 33));have d:Below w.heap.size w W:=by rw [g];exact (Z0 _ _).alloc lz _
 have f:W.heap[w.heap.size]?=some (.cells #[.int .i64 t,.slice ia ids.length ic,.int .i64 bits,.string pre] 33 (0,0)):=by rw [g];exact Z4 w _
 have c:=U d;have o:=qq f (j:=0) rfl;have p:=qq f (j:=1) rfl;have q:=qq f (j:=2) rfl;have r:=qq f (j:=3) rfl;have a:=U (sR bits t pre ids);have b:=U g;obtain ⟨V,h⟩:=O1 (zb ⟨bits,pre,⟨t,ids⟩⟩);rw [<- h] at a ⊢;clear d f g h;by_cases h1:bits=0
 case neg =>
  have i:(bits == 0)=false:=by simpa using h1
  rw [Z7 h1] at a;clear h1;go_enter Tryz.func75,Tryz.ntmps75;go_upto_region 1 with fail
  rw [<- b.o];clear b;go_wp2;go_ret;exact ⟨qz a.o.symm,c.o⟩
 have i:(bits == 0)=true:=by simpa using h1
 rw [J2 h1,X4] at a;clear h1;by_cases h2:pre.size=0
 case neg =>
  have k:(pre.toList == [])=false:=by rw [Y8];exact (gX pre (by omega)).1
  rw [Z7 h2] at a;clear h2;go_enter Tryz.func75,Tryz.ntmps75;go_upto_region 1 with fail
  rw [<- b.o];clear b;go_wp2;go_ret;exact ⟨qz a.o.symm,c.o⟩
 have k:pre.toList=[]:=yu pre h2;rw [J2 h2,X4] at a;clear h2;by_cases h3:t=0
 case neg =>
  have l:(t == 0)=false:=by simpa using h3
  rw [Z7 h3] at a;clear h3;go_enter Tryz.func75,Tryz.ntmps75;go_upto_region 1 with fail
  rw [<- b.o];clear b;go_wp2;go_ret;exact ⟨qz a.o.symm,c.o⟩
 have l:(t == 0)=true:=by simpa using h3
 rw [J2 h3,X4] at a;clear h3;by_cases h4:ids.length=0
 . have m:((ids.length:Int) == 0)=true:=by rw [h4];rfl
   rw [J2 h4] at a;clear h4;go_enter Tryz.func75,Tryz.ntmps75;go_upto_region 1 with fail
   rw [<- b.o];clear b;go_wp2;go_ret;exact ⟨qz a.o.symm,c.o⟩
 . have m:((ids.length:Int) == 0)=false:=by rw [Y8];omega
   rw [Z7 h4] at a;clear h4;go_enter Tryz.func75,Tryz.ntmps75;go_upto_region 1 with fail
   rw [<- b.o];clear b;go_wp2;go_ret;exact ⟨qz a.o.symm,c.o⟩
theorem rW (bits t:Int) (pre:ByteArray) (ids:List ByteArray):q8 ⟨bits,pre,⟨t,ids⟩⟩=(decide (zV ⟨bits,pre,⟨t,ids⟩⟩=0) && (xw t ids && !vp pre)):=by unfold q8 jv;rw [Bool.and_assoc]
theorem gd (t bits:Int) (ids:List ByteArray) (pre:ByteArray) (ia:Option Addr) (ic:Nat) (w:World) (hI:qv w 0 w.heap.size ia ids) (hp:pre.size<=4294967296) (hb:-9223372036854775808<=bits/\bits<=9223372036854775807) (hf:jj ⟨t,ids⟩) :
 Calls Tryz.prog 84 #[.agg #[.int .i64 t,.slice ia ids.length ic,.int .i64 bits,.string pre]] w fun e w'=>e=.returned (.bool (q8 ⟨bits,pre,⟨t,ids⟩⟩))/\Below w.heap.size w w':=by
 obtain ⟨W,v⟩:=O1 (w.alloc (.cells #[.int .i64 t,.slice ia ids.length ic,.int .i64 bits,.string pre] 33));have s:Below w.heap.size w W:=by rw [v];exact (Z0 _ _).alloc lz _
 have q:W.heap[w.heap.size]?=some (.cells #[.int .i64 t,.slice ia ids.length ic,.int .i64 bits,.string pre] 33 (0,0)):=by rw [v];exact Z4 w _
 have o:=U s;have u:=U q;have A:=U hI;have K:=qq q (j:=0) rfl;have L:=qq q (j:=1) rfl;have M:=qq q (j:=2) rfl;have N:=qq q (j:=3) rfl;have f:=U (gN t bits ids pre ia ic W hp hb);have g:=U (fun (w':World) (h:Below w.heap.size w w')=>nW t ids ia ic w' (A.o.below h lz lz h.size) hf.2.2);have r:=U (fun w=>nc pre w);have k:=U (rW bits t pre ids);have p:=U v;obtain ⟨V,y⟩:=O1 (q8 ⟨bits,pre,⟨t,ids⟩⟩);obtain ⟨E,x⟩:=O1 (zV ⟨bits,pre,⟨t,ids⟩⟩);obtain ⟨B,l⟩:∃b,b=xw t ids:=⟨_,rfl⟩;obtain ⟨C,m⟩:∃b,b=vp pre:=⟨_,rfl⟩;rw [<- y,<- x,<- l,<- m] at k;rw [<- x] at f;rw [<- l] at g;rw [<- m] at r;rw [<- y];clear s q v y x l m hI hf hp hb;by_cases h1:E=0
 case neg =>
  have D:(E == 0)=false:=by simpa using h1
  rw [Z7 h1] at k;clear h1;go_enter Tryz.func84,Tryz.ntmps84;go_upto_region 1 with fail
  rw [<- p.o];clear p;go_wp2_with (go_at_call 99;refine f.o.mono ?_;rintro e z ⟨rfl,hb⟩;have a:=U (O2 o hb);clear hb);go_ret;exact ⟨qz k.o.symm,a.o⟩
 have D:(E == 0)=true:=by simpa using h1
 rw [J2 h1,X4] at k;clear h1;cases B
 . go_enter Tryz.func84,Tryz.ntmps84;go_upto_region 1 with fail
   rw [<- p.o];clear p;go_wp2_with (first|(go_at_call 99;refine f.o.mono ?_;rintro e z ⟨rfl,hb⟩;have a:=U (O2 o hb);have c:=(hb.block _ (qx u.o)).trans u.o;have H:=qq c (j:=0) rfl;have I:=qq c (j:=1) rfl;have J:=qq c (j:=3) rfl;have d:=U c;clear hb c)|(go_at_call 136;refine (g.o _ a.o).mono ?_;rintro e F ⟨rfl,hb⟩;have i:=U (O2 a hb);have c:=(hb.block _ (qx d.o)).trans d.o;have G:=qq c (j:=3) rfl;clear hb c));go_ret;exact ⟨qz k.o.symm,i.o⟩
 . rw [X4] at k;cases C
   all_goals
    go_enter Tryz.func84,Tryz.ntmps84;go_upto_region 1 with fail
    rw [<- p.o];clear p;go_wp2_with (first|(go_at_call 99;refine f.o.mono ?_;rintro e z ⟨rfl,hb⟩;have a:=U (O2 o hb);have c:=(hb.block _ (qx u.o)).trans u.o;have H:=qq c (j:=0) rfl;have I:=qq c (j:=1) rfl;have J:=qq c (j:=3) rfl;have d:=U c;clear hb c)|(go_at_call 136;refine (g.o _ a.o).mono ?_;rintro e F ⟨rfl,hb⟩;have i:=U (O2 a hb);have c:=(hb.block _ (qx d.o)).trans d.o;have G:=qq c (j:=3) rfl;clear hb c)|(go_at_call 135;refine (r.o _).mono ?_;rintro e P ⟨rfl,rfl⟩));go_ret;exact ⟨qz k.o.symm,i.o⟩
end Go.Proofs.YthgembbgcbaghaaGreatDoor
