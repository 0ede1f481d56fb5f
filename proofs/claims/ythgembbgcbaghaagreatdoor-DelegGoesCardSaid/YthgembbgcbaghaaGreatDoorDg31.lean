import Derived.Test.YthgembbgcbaghaaGreatDoorDg30
import Derived.Maps.Own
set_option maxHeartbeats 2000000
set_option maxRecDepth 100000

namespace Go.Proofs.YthgembbgcbaghaaGreatDoor
open Go.RowKit
abbrev Xe:=ByteArray × ByteArray × ByteArray
inductive Ver where
 | mac
 | tab (l:List Xe)
open Go.Maps
def sL (D:DataW Unit) (l:List ByteArray):Prop:=∀s:ByteArray,D.atKey (.string s.data.toList) (.lit (.int .i64 0))=.lit (.int .i64 (if jl l s then 1 else 0))
theorem ew:sL (.map []) []:=fun _=>rfl
theorem ey {D:DataW Unit} {l:List ByteArray} {x:ByteArray} (h:sL D l) (a:IsMap D):sL (D.put (.string x.data.toList) (.lit (.int .i64 1))) (l ++ [x]):=fun s=>by
 by_cases e:s=x
 . subst e;rw [atKey_put_same a (by simp [WideAt.IsKeyLit])];rw [J8 ((jD _ _).2 (by simp))]
 . rw [atKey_put_other (fun e'=>e (by
    have e2:s.data.toList=x.data.toList:=by injection e'
    exact yV (by rw [Y3,Y3];exact e2))),h s]
   have:jl (l ++ [x]) s=jl l s:=(by rw [za4,jD,jD];simp [e]);rw [this]
open Go.WideMaps
theorem ll:Keyed Tryz.prog 9:=string_keyed Y6
theorem lQ (l:List ByteArray) (k:Nat) (h:k<l.length):qS (l.take k) (l.drop k)=if kz l[k] then (if jl (l.take k) l[k] then 7 else qS (l.take (k+1)) (l.drop (k+1))) else 3:=by rw [G3 h,qS,J7 h]
theorem bV (l:List ByteArray) (a:Option Addr) (c:Nat) (w:World) (hS:qv w 0 w.heap.size a l) (hl:l.length<=1000) (hs:∀s ∈ l,s.size<=4294967296) :
 Calls Tryz.prog 183 #[.slice a l.length c] w fun e w'=>e=.returned (.int .i64 (qS [] l))/\O5 w w':=by
 have X:=U hS;have Y:=U hs;clear hS hs;have a0:=@run_makeMap Tryz.prog;go_enter Tryz.func183,Tryz.ntmps183;go_wp2;go_loopw [5,9] (fun _ i wr=>∃(k:Nat) (D:DataW Unit),k<=l.length/\i=.int .i64 k/\qS [] l=qS (l.take k) (l.drop k)/\sL D (l.take k)/\wr.ownsMap Tryz.prog 9 (plainElem (H:=Unit) Tryz.prog 3) w.heap.size k D/\O5 w wr) (fun _ i _=>l.length - (intOf i).toNat)
 case atStart=>exact ⟨0,.map [],by omega,rfl,rfl,ew,World.ownsMap_made _ _ _ _,O4⟩
 case round =>
  obtain ⟨k,D,hk,rfl,G,S,d,f⟩:=hrel;have h:=U G;have R:=U S;have y:=U f;clear G S;by_cases hlt:k<l.length
  . obtain ⟨b,a1,ha,_,hb,Z⟩:=(X.o.below f lz lz f.size).at k hlt;subst ha;have g:=U (lQ l k hlt);have P:=Y.o l[k] (X6 hlt);have C:=U (ey (x:=l[k]) R.o (d.isMap));have r:=U (R.o l[k]);have K:l.take (k+1)=l.take k ++ [l[k]]:=J7 hlt;have E:=U K;have z:=U (iC l[k] wr (by omega));obtain ⟨x,T⟩:=O1 (l[k]);rw [<- T] at Z g P C r E z;have p:Go.keyOf Tryz.prog 9 (.string x)=some (.string x.data.toList):=keyOf_string_mk Y6 (by unfold maxLen;omega);obtain ⟨o,v⟩:∃q,q=jb x.data.toList:=⟨_,rfl⟩;rw [<- v] at z;have F:=U (show kz x=(decide (x.size=64) && o) by unfold kz;rw [v]);clear T f v K;obtain ⟨L,J⟩:=O1 (jl (l.take k) x);rw [<- J] at g r;clear J;have m0:(k:Int)<(l.length:Int):=by omega
    by_cases h64:x.size=64
    . have hd:((x.size:Int) != 64)=false:=by simp;omega
      rw [X0 h64,Y1] at F;cases o
      . clear h64;go_wp2_with fail;refine z.o.mono ?_;rintro e Q ⟨rfl,rfl⟩;go_wp2;go_ret;exact ⟨xV (by rw [h.o,g.o,F.o];rfl),y.o⟩
      . clear h64;have B:=O0 (kz x=true) F.o;obtain ⟨u,I,m,_⟩:=d.lookup_int ll H7 K8 (kR _) p;rw [r.o] at m;have A:=U (show u=if L=true then 1 else 0 by
         simp only [zd1,ze1,zc8] at m;exact m.symm)
        clear m;cases L
        . obtain rfl:u=0:=A.o;have W:=U d;clear d;go_wp2_with (first|(go_at_call 195;refine z.o.mono ?_;rintro e Q ⟨rfl,rfl⟩)|(at_mapUpdate;refine zc3 _ rfl _ _ _ 150 rfl 9 3 ll H7 _ w.heap.size k _ rfl W.o (by unfold maxLen;omega) _ _ _ rfl rfl p _ [] (plainElem_int K8 (by decide)) ?_;intro Q hown1 hgrow1)|go_in);have N:=U hown1;have M:=U hgrow1;clear hown1 hgrow1 I;go_wp2;go_roundw
          case rel => exact ⟨k+1,_,by omega,by go_num,by rw [h.o,g.o,B.o];rfl,by rw [E.o];exact C.o,N.o,y.o.grown M.o y.o.size (fun j hj=>by cases hj;exact J9 _)⟩
          case measure=>simp [intOf];omega
        . obtain rfl:u=1:=A.o;clear d;go_wp2_with (go_at_call 195;refine z.o.mono ?_;rintro e Q ⟨rfl,rfl⟩);go_ret;exact ⟨xV (by rw [h.o,g.o,B.o];rfl),y.o⟩
    . have hd:((x.size:Int) != 64)=true:=by simp;omega
      rw [J5 h64,V8] at F;clear h64 z;go_wp2;go_ret;exact ⟨xV (by rw [h.o,g.o,F.o];rfl),y.o⟩
  . have V:=U (show qS [] l=0 by
     rw [h.o,N7 (by omega)];rfl)
    clear d f;go_wp2;go_ret;exact ⟨xV V.o.symm,y.o⟩
theorem jn {t:Int} {l:List ByteArray} (h:¬(1<=l.length/\l.length<=16/\1<=t/\t<=l.length)):xm t l=false:=by unfold xm;rw [J5 h];rfl
theorem td {t:Int} {l:List ByteArray} (h:1<=l.length/\l.length<=16/\1<=t/\t<=l.length):xm t l=(qS [] l == 0):=by unfold xm;rw [X0 h,Y1,za4,J6,zd6]
theorem sR (t:Int) (l:List ByteArray) (a:Option Addr) (c:Nat) (w:World) (r:qv w 0 w.heap.size a l) (u:∀s ∈ l,s.size<=4294967296) :
 Calls Tryz.prog 136 #[.agg #[.int .i64 t,.slice a l.length c]] w fun e w'=>e=.returned (.bool (xm t l))/\O5 w w':=by
 have b:=O0 (O5 w (w.alloc (.cells #[.int .i64 t,.slice a l.length c] 31))) O4;have h:=U (fun h16:l.length<=16=>bV l a c _ (r.below b.o lz lz (by simp)) (by omega) u);clear r u;by_cases h1:l.length<1
 . have d:=U (jn (t:=t) (l:=l) (by omega));have k:decide ((l.length:Int)<1)=true:=by simp;omega
   go_enter Tryz.func136,Tryz.ntmps136;go_wp2;go_ret;exact ⟨qz d.o.symm,b.o⟩
 have k:decide ((l.length:Int)<1)=false:=by simp;omega
 by_cases h2:16<l.length
 . have d:=U (jn (t:=t) (l:=l) (by omega));have m:decide (16<(l.length:Int))=true:=by simp;omega
   go_enter Tryz.func136,Tryz.ntmps136;go_wp2;go_ret;exact ⟨qz d.o.symm,b.o⟩
 have m:decide (16<(l.length:Int))=false:=by simp;omega
 by_cases h3:t<1
 . have d:=U (jn (t:=t) (l:=l) (by omega));have o:decide (t<1)=true:=by simp;omega
   go_enter Tryz.func136,Tryz.ntmps136;go_wp2;go_ret;exact ⟨qz d.o.symm,b.o⟩
 have o:decide (t<1)=false:=by simp;omega
 by_cases h4:(l.length:Int)<t
 . have d:=U (jn (t:=t) (l:=l) (by omega));have p:decide ((l.length:Int)<t)=true:=by simp;omega
   go_enter Tryz.func136,Tryz.ntmps136;go_wp2;go_ret;exact ⟨qz d.o.symm,b.o⟩
 have p:decide ((l.length:Int)<t)=false:=by simp;omega
 have d:=U (td (t:=t) (l:=l) (by omega));have i:=U (h.o (by omega));clear h;obtain ⟨E,j⟩:=O1 (qS [] l);rw [<- j] at d i;clear j;go_enter Tryz.func136,Tryz.ntmps136;go_wp2_with fail;refine i.o.mono ?_;rintro e q ⟨rfl,f⟩;have g:=U (b.o.trans (f.mono (by simp)));clear f;go_wp2;go_ret;exact ⟨qz d.o.symm,g.o⟩
open Go.Shelf Go.Sort
theorem lZ (n:Int) (w:World):Calls Tryz.prog 204 #[.int .i64 n] w fun e w'=>e=.returned (.agg #[.int .u8 2,.int .i64 n,.string ⟨#[]⟩,.slice none 0 0,.slice none 0 0])/\w'=w.alloc (.cells #[.int .u8 2,.int .i64 n,.string ⟨#[]⟩,.slice none 0 0,.slice none 0 0] 25):=by go_enter Tryz.func204,Tryz.ntmps204;go_wp2;exact X4 (Y7 Tryz.results204 _ _ w.heap.size 25 _ (0,0) _ rfl (J2 w _) X8 rfl (by kernel_rfl)) rfl ⟨rfl,rfl⟩
def lX (t:Int) (l:List ByteArray) (w:World) (e:Ending) (w':World):Prop :=
 ∃g ai ci,e=.returned (.slice (some ⟨g,0,none⟩) 2 2)/\w'.heap[g]?=some (.cells #[.string ⟨#[107,101,121,105,100,115]⟩,.int .u8 4,.int .i64 0,.string ⟨#[]⟩,.slice none 0 0,.slice ai l.length ci,.string ⟨#[116,104,114,101,115,104,111,108,100]⟩,.int .u8 2,.int .i64 t,.string ⟨#[]⟩,.slice none 0 0,.slice none 0 0] 169 (0,0)) /\
  Rep w' w.heap.size g (qb l) (.agg #[.int .u8 4,.int .i64 0,.string ⟨#[]⟩,.slice none 0 0,.slice ai l.length ci])/\O5 w w'/\w.heap.size<=g
theorem lJ (t:Int) (l:List ByteArray) (a:Option Addr) (c:Nat) (w:World) (H:qv w 0 w.heap.size a l) (I:l.length<=4294967296) :
 Calls Tryz.prog 200 #[.agg #[.int .i64 t,.slice a l.length c]] w (lX t l w):=by
 obtain ⟨W,z⟩:=O1 (w.alloc (.cells #[.int .i64 t,.slice a l.length c] 31));have o:=O7 z
 have A:=O9 z
 have B:=U (show ∀w':World,O5 W w'->w'.cell? ⟨w.heap.size,0,none⟩=some (.int .i64 t)/\w'.cell? ⟨w.heap.size,1,none⟩=some (.slice a l.length c)/\w.heap.size<w'.heap.size from fun w' h=>by
  have E:=(h.block _ (qx A)).trans A;exact ⟨qq E rfl,qq E rfl,Y5 (qx A) h.size⟩)
 have F:=U (show ∀w':World,O5 W w'->Calls Tryz.prog 203 #[.slice a l.length c] w' (fun e f=>∃k m,e=.returned (.agg #[.int .u8 4,.int .i64 0,.string ⟨#[]⟩,.slice none 0 0,.slice k l.length m])/\Hid (Rep f W.heap.size f.heap.size (qb l) (.agg #[.int .u8 4,.int .i64 0,.string ⟨#[]⟩,.slice none 0 0,.slice k l.length m]))/\O5 W f/\f.cell? ⟨w.heap.size,0,none⟩=some (.int .i64 t)/\f.cell? ⟨w.heap.size,1,none⟩=some (.slice a l.length c)/\w.heap.size<f.heap.size) from fun w' h=>by
  have v:=o.trans (h.mono o.size);refine (cF l a c w' (H.below v lz lz v.size) I).mono ?_;rintro e f ⟨k,m,rfl,G,i⟩;have s:=h.trans (i.mono h.size);exact ⟨k,m,rfl,U (Rep.carry h.size lz (fun _ _ _=>rfl) _ _ G),s,B.o _ s⟩)
 have C:=U (show ∀w':World,O5 W w'->Calls Tryz.prog 204 #[.int .i64 t] w' (fun e f=>e=.returned (.agg #[.int .u8 2,.int .i64 t,.string ⟨#[]⟩,.slice none 0 0,.slice none 0 0])/\O5 w' f/\O5 W f/\f.cell? ⟨w.heap.size,0,none⟩=some (.int .i64 t)/\f.cell? ⟨w.heap.size,1,none⟩=some (.slice a l.length c)/\w.heap.size<f.heap.size) from fun w' h=>by
  refine (lZ t w').mono ?_;rintro e f ⟨rfl,rfl⟩;have i:O5 w' (w'.alloc (.cells #[.int .u8 2,.int .i64 t,.string ⟨#[]⟩,.slice none 0 0,.slice none 0 0] 25)):=O4;have s:=h.trans (i.mono h.size);exact ⟨rfl,i,s,B.o _ s⟩)
 have y:=U o;have D:=U z;clear H o A z;have d:O5 W W.drew:=(J0 _ _).drew;obtain ⟨p,q,g⟩:=B.o W (J0 _ _);go_enter Tryz.func200,Tryz.ntmps200;go_upto_region 1 with fail
 rw [<- D.o];clear D
 go_region_held3 (fun w'=>w'.cell? ⟨w.heap.size,0,none⟩=some (.int .i64 t)/\w'.cell? ⟨w.heap.size,1,none⟩=some (.slice a l.length c)) (first|(with_reducible exact ⟨p,q⟩)|(with_reducible exact ⟨(ql _ g).trans p,(ql _ g).trans q⟩)|(go_keep;done)) (first|(go_at_call 203;(with_reducible refine (F.o _ d).mono ?_);rintro e f ⟨k,m,rfl,j,d,p,q,g⟩)|(go_at_call 204;(with_reducible refine (C.o _ d).mono ?_);rintro e f ⟨rfl,u,d,p,q,g⟩;replace j:=U (j.o.below u lz lz u.size))|(go_at_call 204;(with_reducible refine (C.o _ d).mono ?_);rintro e f ⟨rfl,-,d,p,q,g⟩))
 all_goals
  have r:=U d;clear d p q g;go_wp2;go_ret;have x:=J1 y.o.size r.o.size;exact ⟨_,k,m,rfl,J2 _ _,Rep.carry y.o.size lz (fun b _ o=>Y4 _ _ _ o) _ _ j.o,(y.o.trans (r.o.mono y.o.size)).alloc x _,x⟩
theorem QG {w:World} {g T N:Nat} {v:Value} {f:Nat->Value} (k:w.rowIs g T N f) (h:∀j,j<N->f j=v) (l:N<=maxLen):w.ownsRow g T 1 (.slice (some ⟨g,0,none⟩) N N) N (List.replicate N v):=by
 obtain ⟨a,e,i,d⟩:=k;refine ⟨by simp,.inr ⟨g,N,a,rfl,J9 _,e,J9 _,l,by omega,?_⟩⟩;apply List.ext_getElem?;intro j;by_cases hj:j<N
 . have b:=d j hj;rw [h j hj] at b;have c:j<a.size:=by omega
   rw [K0 c] at b;simp only [H6] at b;simp [hj,c,b]
 . rw [List.getElem?_eq_none (by simp;omega),List.getElem?_eq_none (by simp;omega)]
theorem tl (c:UInt8) (n:Nat):Lib.byteCells (List.replicate n c)=List.replicate n (.int .u8 c.toNat):=by simp [Lib.byteCells]
theorem Xg (c:UInt8) (w:World):Calls Tryz.prog 27 #[.int .u8 c.toNat] w fun e w'=>e=.returned (.string (br c))/\O5 w w':=by
 obtain ⟨s,x⟩:=O1 (br c);have E:=O0 (s=⟨(List.replicate 64 c).toArray⟩) x;rw [<- x];obtain ⟨n,v⟩:∃n:Nat,n=c.toNat:=⟨_,rfl⟩;have C:=U v;rw [<- v];clear x v;obtain ⟨G,hi,y,z,A⟩:=K9 ug;go_enter Tryz.func27,Tryz.ntmps27;go_wp2_with (at_make;refine wpList_make_full _ rfl (.const (.int .i64 64)) (.const (.int .i64 64)) 114 rfl w.heap.size 5 G (.int .u8 0) 1 G2 hi y z .i64 .i64 _ _ 64 rfl rfl rfl rfl ?b2 ?b3 lz ?_)
 case b2=>rw [A];decide
 case b3=>unfold maxLen;decide
 intro w1 hown hgrow;have p:Hid (O5 w w1):=(J0 _ _).grown hgrow lz (by simp);have m:=U (show ∃f,w1.rowIs w.heap.size 5 64 f from by
  rcases hown.2 with ⟨h,_⟩|⟨g,cap,cur,hv,hg,hh,hc,hm,hz,ht⟩
  . cases h
  . simp only [K6,H6,Addr.mk.injEq,zb6,zc8] at hv;obtain ⟨rfl,rfl⟩:=hv;exact ⟨fun i=>cur[i]!,cur,hh,hz,fun i hi=>by show cur[i]?=some cur[i]!;rw [getElem!_pos cur i (by omega),K0 (by omega)]⟩)
 have F:=U (show w.heap.size<w1.heap.size from by
  obtain ⟨f,u⟩:=m.o;exact u.lt)
 clear hown hgrow;go_wp2;go_loopw [4] (fun i wr=>∃(k:Nat) (f:Nat->Value),k<=64/\i=.int .i64 k/\wr.rowIs w.heap.size 5 64 f/\(∀j,j<k->f j=.int .u8 n)/\O5 w wr) (fun i _=>64 - (intOf i).toNat)
 case atStart => obtain ⟨f,u⟩:=m.o;exact ⟨0,f,by omega,rfl,u,fun j h=>by omega,p.o⟩
 case round =>
  obtain ⟨k,f,K,rfl,a,o,d⟩:=hrel;have l:=U o;have B:=U d;have D:=U a;clear o d;by_cases hlt:k<64
  . have H:decide ((k:Int)<64)=true:=by simp;omega
    have L:(0:Int)<=(k:Int):=by omega
    have M:(k:Int)<64:=by omega
    have I:=a.cell (i:=k) hlt;have J:=a.frozen k;have q:=U (a.set k (.int .u8 (n:Int)));clear a;go_wp2;go_roundw
    case rel =>
     refine ⟨k+1,_,by omega,by go_num,q.o,fun j hj=>?_,B.o.setCell lz _⟩;by_cases e:j=k
     . simp [e]
     . simp only [e,zf1];exact l.o j (by omega)
    case measure=>simp [intOf];omega
  . obtain rfl:k=64:=by omega
    have H:decide (((64:Nat):Int)<64)=false:=by decide
    have b:=QG a (fun j hj=>l.o j hj) (by unfold maxLen;omega);rw [C.o,<- tl] at b;have r:=zA (P:=Tryz.prog) 114 9 5 G2 N9 Y6 b;rw [<- E.o] at r;clear a b;go_wp2;go_ret;exact ⟨rfl,B.o⟩
theorem lK (w:World):Calls Tryz.prog 32 #[] w fun e w'=>∃g,e=.returned (.agg #[.int .i64 1,.slice (some ⟨g,0,none⟩) 1 1])/\qv w' w.heap.size w'.heap.size (some ⟨g,0,none⟩) [br 97]/\O5 w w':=by
 obtain ⟨W,j⟩:=O1 (w.alloc (.cells #[.int .i64 0,.slice none 0 0] 31));have q:=O7 j
 have u:W.rowIs w.heap.size 31 2 (kV (.int .i64 0) (.slice none 0 0)):=by rw [j];exact vW w _ _ _
 have b:=U (Xg 97 W);obtain ⟨s,v⟩:=O1 (br 97);rw [<- v] at b ⊢;have l:=U q;have m:=U u;have o:=U j;clear j q u v;go_enter Tryz.func32,Tryz.ntmps32;go_upto_region 1 with fail
 rw [<- o.o];clear o;go_wp2_with fail;refine b.o.mono ?_;clear b;rintro r h ⟨rfl,c⟩;have d:=qj c m.o m.o.lt;have a:=d.alloc (.cells #[.string s] 9);have k:=U a;have f:=U (O2 l c);have x:=U (J2 h (.cells #[.string s] 9));have p:=O0 (w.heap.size<h.heap.size) d.lt;have y:=a.cell (i:=0) (by decide);have z:=a.cell (i:=1) (by decide);have A:=a.frozen 0;have B:=a.frozen 1;simp only [kV] at y z;clear d a c;go_wp2;refine X4 (Y7 Tryz.results32 _ _ w.heap.size 31 _ (0,0) _ rfl (z7 (set2 _ _ k.o)) zd7 rfl (by kernel_rfl)) rfl ?_;refine ⟨h.heap.size,rfl,.inr ⟨_,0,rfl,by have:=p.o;omega,by simp [World.setCell],fun i hi=>?_⟩,yQ _ _ (f.o.alloc f.o.size _) lz⟩;obtain rfl:i=0:=by simp at hi;omega
 rw [V9 (w:=h.alloc (.cells #[.string s] 9)) (Q2 _ _ (show h.heap.size≠w.heap.size by have:=p.o;omega))];exact qq x.o rfl
theorem bW (n p:ByteArray) (M:Bool) (w:World):Calls Tryz.prog 31 #[.string n,.string p,.bool M] w fun e w'=>∃ga gp,e=.returned (.agg #[.string n,.int .i64 1,.slice (some ⟨ga,0,none⟩) 1 1,.bool M,.slice (some ⟨gp,0,none⟩) 1 1,.slice none 0 0])/\qv w' w.heap.size w'.heap.size (some ⟨ga,0,none⟩) [br 97]/\qv w' w.heap.size w'.heap.size (some ⟨gp,0,none⟩) [p]/\O5 w w':=by
 obtain ⟨W,l⟩:=O1 (w.alloc (.cells #[.string ⟨#[]⟩,.int .i64 0,.slice none 0 0,.bool false,.slice none 0 0,.slice none 0 0] 41));have v:=O7 l
 have x:W.rowIs w.heap.size 41 6 (qX (.string ⟨#[]⟩) (.int .i64 0) (.slice none 0 0) (.bool false) (.slice none 0 0) (.slice none 0 0)):=by rw [l];exact xH w _ _ _ _ _ _ _
 have g:=U (lK W);have s:=U v;have m:=U x;have u:=U l;clear l v x;go_enter Tryz.func31,Tryz.ntmps31;go_upto_region 1 with fail
 rw [<- u.o];clear u;go_wp2_with fail;refine g.o.mono ?_;clear g;rintro r d ⟨ga,rfl,j,c⟩;have h:=qj c m.o m.o.lt;have a:=h.alloc (.cells #[.string p] 9);have o:=U a;have f:=U (O2 s c);have y:=U (J2 d (.cells #[.string p] 9));have k:=O0 (w.heap.size<W.heap.size/\W.heap.size<=d.heap.size) (⟨m.o.lt,c.size⟩);have q:=U (j.below (B:=d.heap.size) ((J0 _ _).alloc lz (.cells #[.string p] 9)) lz lz (show d.heap.size<=(d.alloc (.cells #[.string p] 9)).heap.size by simp));obtain ⟨z,A,C,D,E⟩:=rc5 a;have F:=a.cell (i:=5) (by decide);obtain ⟨G,H,I,J,K⟩:=rf5 a;have L:=a.frozen 5;simp only [qX] at z A C D E F;clear h a c j;go_wp2;refine X4 (Y7 Tryz.results31 _ _ w.heap.size 41 _ (0,0) _ rfl (zX (yO _ _ _ _ _ _ o.o)) zb4 rfl (by kernel_rfl)) rfl ?_;refine ⟨ga,d.heap.size,rfl,?_,?_,je _ _ _ _ _ _ (f.o.alloc f.o.size _) lz⟩
 . exact q.o.carry (by have:=k.o;omega) (G8 gz.symm) (fun b h1 h2=>pR _ _ _ _ _ _ (by have:=k.o;omega))
 . refine .inr ⟨_,0,rfl,by have:=k.o;omega,by simp [World.setCell],fun i hi=>?_⟩;obtain rfl:i=0:=by simp at hi;omega
   rw [V9 (w:=d.alloc (.cells #[.string p] 9)) (pR _ _ _ _ _ _ (show d.heap.size≠w.heap.size by have:=k.o;omega))];exact qq y.o rfl
theorem QB (k n:Nat) (w:World) (d:k<=32) (f:n<4294967296) :
 Calls Tryz.prog 173 #[.int .i64 k,.int .u32 n] w fun e w'=>e=.returned (.bool (decide (n<2 ^ k)))/\w'=w:=by
 have c:(k:Int)<=64:=by omega
 have a:=U (show ((n:Int) / 2 ^ k == 0)=decide (n<2 ^ k) from by
  have b:=Nat.two_pow_pos k;have e:((n:Int) / 2 ^ k)=((n / 2 ^ k:Nat):Int):=by push_cast;rfl
  rw [e];by_cases h:n<2 ^ k
  . rw [X0 h,Nat.div_eq_of_lt h];rfl
  . rw [J5 h,K3];have:0<n / 2 ^ k:=Nat.div_pos (by omega) b;omega)
 go_enter Tryz.func173,Tryz.ntmps173;go_wp2;go_ret;exact ⟨qz a.o,rfl⟩
def eb (count n q:Nat):Nat:=(qH (n / 16 ^ (count - 1 - q) % 16)).toNat
theorem lV:∀(a n q:Nat) (h:q<a),(jR a n)[q]'(by rw [jv];exact h)=qH (n / 16 ^ (a - 1 - q) % 16)
 | 0,_,_,h=>absurd h (by omega)
 | c+1,n,q,h=>by
  simp only [jR];by_cases e:q<c
  . rw [G9 (by rw [jv];exact e),lV c (n / 16) q e,Nat.div_div_eq_div_mul,show c+1 - 1 - q=(c - 1 - q)+1 from by omega,Nat.pow_succ,Nat.mul_comm 16]
  . obtain rfl:q=c:=by omega
    rw [N0 (by rw [jv];omega)];simp [jv]
abbrev sN:ByteArray:=⟨#[48,49,50,51,52,53,54,55,56,57,97,98,99,100,101,102]⟩
theorem nU (x:Nat) (h:x<16):(sN[x]'h)=qH x:=by
 have:∀m:Fin 16,(sN[m.val]'m.isLt)=qH m.val:=by decide
 exact this ⟨x,h⟩
theorem ep (n V:Nat) (w:World) (X:n<4294967296) (Y:V<=8) :
 Calls Tryz.prog 174 #[.int .u32 n,.int .i64 V] w fun e w'=>e=.returned (.string ⟨(jR V n).toArray⟩)/\O5 w w':=by
 obtain ⟨s,x⟩:∃s:ByteArray,s=⟨(jR V n).toArray⟩:=⟨_,rfl⟩;have B:=O0 (s=⟨(jR V n).toArray⟩) x;rw [<- x];clear x;obtain ⟨W,r⟩:=O1 (w.alloc (.cells #[.int .u8 0,.int .u8 0,.int .u8 0,.int .u8 0,.int .u8 0,.int .u8 0,.int .u8 0,.int .u8 0] 225));have z:=U (show O5 w W by rw [r];exact O4);have A:=O0 (∃f,W.rowIs w.heap.size 225 8 f) (⟨fun i=>(#[Value.int .u8 0,.int .u8 0,.int .u8 0,.int .u8 0,.int .u8 0,.int .u8 0,.int .u8 0,.int .u8 0]:Array Value)[i]!,by rw [r];exact jz rfl⟩);have y:=U r;clear r;go_enter Tryz.func174,Tryz.ntmps174;go_upto_region 2 with fail
 rw [<- y.o];clear y;go_wp2;go_loopw [0,6] (fun nv iv wr=>∃(j m:Nat) (f:Nat->Value),j<=V/\((j=0/\iv=.int .i64 (-1))\/(0<j/\iv=.int .i64 ((j - 1:Nat):Int)))/\nv=.int .u32 m/\m<4294967296/\(m=n / 16 ^ (V - j))/\wr.rowIs w.heap.size 225 8 f/\(∀q,j<=q->q<V->f q=.int .u8 (eb V n q))/\O5 w wr) (fun _ iv _=>(intOf iv+1).toNat)
 case atStart =>
  obtain ⟨f,E⟩:=A.o;refine ⟨V,n,f,J9 _,?_,rfl,X,by simp,E,fun q h1 h2=>by omega,z.o⟩;by_cases h0:V=0
  . subst h0;exact .inl ⟨rfl,by first|rfl|go_num⟩
  . exact .inr ⟨by omega,by congr 1;omega⟩
 case round =>
  obtain ⟨j,m,f,Q,v,rfl,R,l,a,c,b⟩:=hrel;rcases v with ⟨rfl,rfl⟩|⟨h0,rfl⟩
  . have d:=U c;have g:=U b;have F:decide ((0:Int)<=-1)=false:=by decide
    have p:=run_convert_bytes_back wr 114 9 5 ⟨w.heap.size,0,none⟩ 8 (jR V n) G2 N9 Y6 (fun q hq=>by
     rw [jv] at hq;rw [lV V n q hq];have e:(⟨w.heap.size,0,none⟩:Addr).add q=⟨w.heap.size,q,none⟩:=by unfold Addr.add;split <;> simp_all
     rw [e,a.cell (by omega),d.o q (X7 _) hq];rfl)
    rw [jv] at p;rw [<- B.o] at p;have C:Tryz.prog.arrayLen 225=8:=by kernel_rfl
    have M:(0:Int)<=(V:Int):=by omega
    have N:(V:Int)<=8:=by omega
    have P:(V:Int)<=((Tryz.prog.arrayLen 225:Nat):Int):=by rw [C];omega
    clear a c b l;go_wp2;go_ret;exact ⟨rfl,g.o⟩
  . obtain ⟨k,rfl⟩:∃k,j=k+1:=⟨j - 1,by omega⟩;rw [Nat.add_sub_cancel];have d:=U c;have g:=U b;have o:=U l;have u:=U a;have F:decide ((0:Int)<=(k:Int))=true:=by rw [J6];omega
    have S:(0:Int)<=(k:Int):=by omega
    have T:(k:Int)<8:=by omega
    have G:bits BinOp.and IntKind.u32 (m:Int) 15=(m:Int) % 16:=(by rw [u32_and _ _ (by omega) (by omega) (by omega) (by omega)];show ((m &&& 15:Nat):Int)=_;rw [nat_mask4];omega);have H:(0:Int)<=(m:Int) % 16:=by omega
    have I:(m:Int) % 16<16:=by omega
    have J:((m:Int) % 16).toNat=m % 16:=by omega
    have K:=a.cell (i:=k) (by omega);have L:=a.frozen k;clear c b l a;go_wp2;go_roundw
    case rel =>
     refine ⟨k,m / 16,_,by omega,?_,by push_cast;rfl,by omega,?_,u.o.set k _,fun q h1 h2=>?_,g.o.setCell lz _⟩
     . rcases za0 k with h|h
       . subst h;exact .inl ⟨rfl,rfl⟩
       . exact .inr ⟨h,by congr 1;omega⟩
     . rw [o.o,Nat.div_div_eq_div_mul,<- Nat.pow_succ];congr 2;omega
     . by_cases e:q=k
       . subst e;simp only [if_true];have D:=nU (m % 16) (by omega);unfold eb;rw [show V - 1 - q=V - (q+1) from by omega,<- o.o,<- D]
       . simp only [e,zf1];exact d.o q (by omega) h2
    case measure=>simp [intOf]
def bY (l:List UInt8):Nat->Nat
 | 0=>0
 | k+1=>bY l k * 256+(l.getD k 0).toNat
theorem tr (path:ByteArray):bY (zk path.data.toList) 4=uK path:=by simp only [bY,uK];omega
theorem sS (l:List UInt8):∀k,bY l k<256 ^ k
 | 0=>by simp [bY]
 | k+1=>by have:=sS l k;have h2:=(l.getD k 0).toNat_lt;rw [bY,Nat.pow_succ];omega
theorem Zo (a b:Nat) (h:b<256):a * 256 ||| b=a * 256+b:=by have:=Nat.two_pow_add_eq_or_of_lt (i:=8) h a;rw [Nat.mul_comm a 256];exact this.symm
theorem QP (path:ByteArray) (k:Nat) (w:World) (Y:1<=k) (Z:k<=32) (hp:path.size<=4294967296) (X:Tabs w) :
 Calls Tryz.prog 100 #[.string path,.int .i64 k] w fun e w'=>e=.returned (.tuple #[.int .u32 (jN path k:Nat),.int .i64 0])/\O5 w w':=by
 have F:=U (fun w=>(sP k w Y Z).mono fun e w' h=>show e=.returned (.bool true)/\w=w' from ⟨h.1,h.2.symm⟩);have y:=U (sM path w (by omega) X.init X.rounds X.l2);obtain ⟨S,o⟩:∃S:ByteArray,S=⟨(zk path.data.toList).toArray⟩:=⟨_,rfl⟩;rw [<- o] at y;have g:S.size=32:=by rw [o];show (zk path.data.toList).toArray.size=32;rw [za3,xe]
 have q:=U g;have v:=U (show ∀j (h:j<S.size),S[j]=(zk path.data.toList).getD j 0 from fun j h=>by
  subst o;rw [V2,V3 (by rw [xe];rw [g] at h;exact h)];rfl)
 have u:=U (tr path);have x:=U (sS (zk path.data.toList));have l:=O0 (jN path k=uK path / 2 ^ (32 - k)) rfl;obtain ⟨L,z⟩:=O1 (zk path.data.toList);rw [<- z] at v u x;obtain ⟨R,A⟩:=O1 (jN path k);rw [<- A] at l ⊢;clear o g z X A;go_enter Tryz.func100,Tryz.ntmps100;go_wp2_with (first|(go_at_call 170;refine (F.o _).mono ?_;rintro e I ⟨rfl,rfl⟩)|(go_at_call 172;refine y.o.mono ?_;rintro e I ⟨rfl,B⟩;have E:=U B;clear B));go_loopw [7,8] (fun nv iv wr=>∃j:Nat,j<=4/\iv=.int .i64 j/\nv=.int .u32 (bY L j:Nat)/\O5 w wr) (fun _ iv _=>4 - (intOf iv).toNat)
 case atStart=>exact ⟨0,by omega,rfl,rfl,E.o⟩
 case round =>
  obtain ⟨j,Q,rfl,rfl,b⟩:=hrel;have i:=U b;clear b;by_cases hlt:j<4
  . have r:j<S.size:=by rw [q.o];omega
    have T:(0:Int)<=(j:Int):=by omega
    have H:decide ((j:Int)<4)=true:=by rw [J6];omega
    have V:(j:Int)<(S.size:Int):=by omega
    have W:decide ((j:Int)<(S.size:Int))=true:=by rw [J6];omega
    have C:S[j].toNat<256:=S[j].toNat_lt;have s:bY L j<16777216:=Y5 (x.o j) (by
     have:256 ^ j<=256 ^ 3:=zc2 (by decide) (by omega);omega)
    have d:=O0 (bY L (j+1)=bY L j * 256+S[j].toNat) (by rw [bY,v.o j r]);obtain ⟨c,f⟩:=O1 (S[j].toNat);have D:(S[j].toNat:Int)=(c:Int):=by rw [f]
    rw [<- f] at C d;obtain ⟨p,a⟩:=O1 (bY L j);rw [<- a] at s d ⊢;clear f a;have J:(p:Int) * 256 % 4294967296=(p:Int) * 256:=by omega
    have K:bits BinOp.or IntKind.u32 ((p:Int) * 256) (c:Int)=((p * 256+c:Nat):Int):=by
     have:=u32_or_nat (p * 256) c (by omega) (by omega);rw [Zo p c C] at this
     push_cast at this ⊢
     exact this
    go_wp2;go_roundw
    case rel=>exact ⟨j+1,by omega,by go_num,by rw [d.o];push_cast;rfl,i.o⟩
    case measure=>simp [intOf];omega
  . obtain rfl:j=4:=by omega
    have H:decide (((4:Nat):Int)<4)=false:=by decide
    obtain ⟨p,a⟩:=O1 (bY L 4);have m:p=uK path:=a.trans u.o;rw [<- a];have M:(0:Int)<=32 - (k:Int):=by omega
    have N:(32:Int) - (k:Int)<=32:=by omega
    have P:((32:Int) - (k:Int)).toNat=32 - k:=by omega
    have G:=O0 (((R:Nat):Int)=(p:Int) / 2 ^ (32 - k)) (by rw [l.o,<- m];push_cast;rfl);clear a m;go_wp2;go_ret2;exact ⟨by rw [G.o];rfl,i.o⟩
theorem ef (t:Int) (k n:Nat) (ids:List ByteArray) (a0:ByteArray) (ia:Option Addr) (ic:Nat) (w:World) (hp:a0.size<=4294967296) (hw:zu ⟨(k:Int),a0,⟨t,ids⟩⟩=0) (h1:1<=k) (h2:k<=32) (hn:n<2 ^ k) :
 Calls Tryz.prog 101 #[.agg #[.int .i64 t,.slice ia ids.length ic,.int .i64 k,.string a0],.int .u32 n] w fun e w'=>e=.returned (.tuple #[.string (zP a0 k n),.int .i64 0])/\O5 w w':=by
 have g:n<4294967296:=Y5 hn (J1 (zc2 (by decide) h2) (by decide));obtain ⟨W,D⟩:=O1 (w.alloc (.cells #[.int .i64 t,.slice ia ids.length ic,.int .i64 k,.string a0] 33));have u:=O7 D
 have J:=O9 D
 have L:=U u;have o:=U (show ∀w':World,O5 W w'->w'.cell? ⟨w.heap.size,0,none⟩=some (.int .i64 t)/\w'.cell? ⟨w.heap.size,1,none⟩=some (.slice ia ids.length ic)/\w'.cell? ⟨w.heap.size,2,none⟩=some (.int .i64 k)/\w'.cell? ⟨w.heap.size,3,none⟩=some (.string a0) from fun w' h=>by
  have y:=(h.block _ (qx J)).trans J;exact ⟨qq y rfl,qq y rfl,qq y rfl,qq y rfl⟩)
 have l:=U (bQ t k ids a0 ia ic W hp (by omega));rw [hw] at l;have F:=U (fun w=>(QB k n w h2 g).mono fun e w' h=>show e=.returned (.bool true)/\w=w' from ⟨by rw [h.1,X0 hn],h.2.symm⟩);have s:=U (fun w=>(ml k w h2).mono fun e w' h=>show e=.returned (.int .i64 ((vz k:Nat):Int))/\O5 w w' from ⟨h.1,by rw [h.2];exact J0 _ _⟩);have x:vz k<=8:=by unfold vz;omega
 have j:=U (fun w=>ep n (vz k) w g x);obtain ⟨r,c⟩:=O1 (vz k);have i:=O0 (zP a0 k n=a0 ++ oJ ++ ⟨(jR r n).toArray⟩) (by rw [c];rfl);rw [<- c] at s j;obtain ⟨T,I⟩:∃T:ByteArray,T=⟨(jR r n).toArray⟩:=⟨_,rfl⟩;rw [<- I] at j i;have S:T.size<=8:=by rw [I];show (jR r n).toArray.size<=8;rw [za3,jv,c];exact x
 have s1:¬9223372036854775807<a0.size+1:=by omega
 have s2:¬9223372036854775807<a0.size+1+T.size:=by omega
 obtain ⟨R,N⟩:=O1 (zP a0 k n);rw [<- N] at i ⊢;have M:=U D;clear D J u hw hn c I N;obtain ⟨z,A,B,C⟩:=o.o W (J0 _ _);go_enter Tryz.func101,Tryz.ntmps101;go_upto_region 1 with fail
 rw [<- M.o];clear M;go_wp2_with fail;refine l.o.mono ?_;rintro e Q ⟨rfl,p⟩;have a:=U p;obtain ⟨Y,Z,z2,z3⟩:=o.o Q p;clear p z A B C l;go_upto_region 6 with (go_at_call 173;refine (F.o _).mono ?_;rintro e w4 ⟨rfl,rfl⟩)
 clear Y Z z2 z3;obtain ⟨V,P⟩:∃V:List MP,V=[.con (.pointer (some ⟨w.heap.size,3,none⟩)),.con (.string a0),.con (.string (a0 ++ ⟨#[45]⟩)),.con (.int .u32 (n:Int)),.con (.pointer (some ⟨w.heap.size,2,none⟩)),.con (.int .i64 (k:Int)),.con (.int .i64 (r:Int)),.con (.string T),.con (.string (a0 ++ ⟨#[45]⟩ ++ T))]:=⟨_,rfl⟩;have b:=U P;clear P;refine qP 9 (fun d H w'=>∃x17 x18 x19 x20 x21 x22 x23 x24 x25,H=⟨#[.agg #[.int .i64 t,.slice ia ids.length ic,.int .i64 (k:Int),.string a0],.int .u32 (n:Int),.pointer (some ⟨w.heap.size,0,none⟩),undef,.string ⟨#[]⟩,.int .i64 0,.int .i64 0,.agg #[.int .i64 t,.slice ia ids.length ic,.int .i64 (k:Int),.string a0],.int .i64 0,.int .i64 0,.bool false,undef,.pointer (some ⟨w.heap.size,2,none⟩),.int .i64 (k:Int),.int .u32 (n:Int),.bool true,.bool false,x17,x18,x19,x20,x21,x22,x23,x24,x25],[]⟩/\zW Q V d w' [x17,x18,x19,x20,x21,x22,x23,x24,x25]) (by kernel_rfl) (by kernel_rfl) ?first ?step ?last
 case first=>exact ⟨_,_,_,_,_,_,_,_,_,rfl,zW.first _ _ _ (by rw [b.o];rfl)⟩
 case step =>
  rintro d H w' ⟨x17,x18,x19,x20,x21,x22,x23,x24,x25,rfl,h⟩ q hq hn hw;rcases q with _|_|_|_|_|_|_|_|_|q
  . refine J4 rfl fun K hK=>?_;go_simp;exact hK _ _ ⟨_,_,_,_,_,_,_,_,_,rfl,h.sameC 0 _ b rfl⟩
  . obtain rfl:=h.cn hw b 0 .data;obtain ⟨z,A,B,C⟩:=o.o w' (a.o.trans (h.1.mono a.o.size));refine J4 rfl fun K hK=>?_;go_simp;exact hK _ _ ⟨_,_,_,_,_,_,_,_,_,rfl,h.sameC 1 _ b rfl⟩
  . obtain rfl:=h.cn hw b 1 .data;refine J4 rfl fun K hK=>?_;go_simp;exact hK _ _ ⟨_,_,_,_,_,_,_,_,_,rfl,h.sameC 2 _ b rfl⟩
  . refine J4 rfl fun K hK=>?_;go_simp;exact hK _ _ ⟨_,_,_,_,_,_,_,_,_,rfl,h.sameC 3 _ b rfl⟩
  . refine J4 rfl fun K hK=>?_;go_simp;exact hK _ _ ⟨_,_,_,_,_,_,_,_,_,rfl,h.sameC 4 _ b rfl⟩
  . obtain rfl:=h.cn hw b 4 .data;obtain ⟨z,A,B,C⟩:=o.o w' (a.o.trans (h.1.mono a.o.size));refine J4 rfl fun K hK=>?_;go_simp;exact hK _ _ ⟨_,_,_,_,_,_,_,_,_,rfl,h.sameC 5 _ b rfl⟩
  . obtain rfl:=h.cn hw b 5 .data;obtain ⟨z,A,B,C⟩:=o.o w' (a.o.trans (h.1.mono a.o.size));refine J4 rfl fun K hK=>?_;go_simp;refine (s.o w').mono ?_;rintro e X ⟨rfl,m⟩;exact hK _ _ ⟨_,_,_,_,_,_,_,_,_,rfl,h.didC m 6 _ b rfl⟩
  . obtain rfl:=h.cn hw b 3 .data;obtain rfl:=h.cn hw b 6 .data;obtain ⟨z,A,B,C⟩:=o.o w' (a.o.trans (h.1.mono a.o.size));refine J4 rfl fun K hK=>?_;go_simp;refine (j.o w').mono ?_;rintro e X ⟨rfl,m⟩;exact hK _ _ ⟨_,_,_,_,_,_,_,_,_,rfl,h.didC m 7 _ b rfl⟩
  . obtain rfl:=h.cn hw b 2 .data;obtain rfl:=h.cn hw b 7 .data;refine J4 rfl fun K hK=>?_;go_simp;exact hK _ _ ⟨_,_,_,_,_,_,_,_,_,rfl,h.sameC 8 _ b rfl⟩
  . omega
 case last => rintro d H w' f ⟨x17,x18,x19,x20,x21,x22,x23,x24,x25,rfl,h⟩;have v:=h.1;obtain rfl:=h.con 8 (f _ (by omega)) b rfl rfl;have G:=U v;clear h f v b;have p:=G.o;have E:=U (O2 L (O2 a p));clear p;go_wp2;go_ret2;exact ⟨by rw [i.o];rfl,E.o⟩
theorem uh {a t:Int} {b:ByteArray} {ids:List ByteArray} (h:zu ⟨a,b,⟨t,ids⟩⟩=0):∃k:Nat,a=(k:Int)/\1<=k/\k<=32:=by
 unfold zu at h;split at h
 . cases h
 . rename_i hn;dsimp only at hn;exact ⟨a.toNat,by omega,by omega,by omega⟩
theorem lW (t:Int) (k:Nat) (ids:List ByteArray) (H path:ByteArray) (I:Option Addr) (J:Nat) (w:World) (P:H.size<=4294967296) (Q:path.size<=4294967296) (L:zu ⟨(k:Int),H,⟨t,ids⟩⟩=0) (M:1<=k) (K:k<=32) (N:Tabs w) :
 Calls Tryz.prog 43 #[.agg #[.int .i64 t,.slice I ids.length J,.int .i64 k,.string H],.string path] w fun e w'=>e=.returned (.tuple #[.string (zP H k (jN path k)),.int .i64 0])/\O5 w w':=by
 obtain ⟨W,l⟩:=O1 (w.alloc (.cells #[.int .i64 t,.slice I ids.length J,.int .i64 k,.string H] 33));have i:=O7 l
 have p:=O9 l
 have j:=U i;have o:=U (show ∀w':World,O5 W w'->w'.cell? ⟨w.heap.size,0,none⟩=some (.int .i64 t)/\w'.cell? ⟨w.heap.size,1,none⟩=some (.slice I ids.length J)/\w'.cell? ⟨w.heap.size,2,none⟩=some (.int .i64 k)/\w'.cell? ⟨w.heap.size,3,none⟩=some (.string H) from fun w' h=>by
  have y:=(h.block _ (qx p)).trans p;exact ⟨qq y rfl,qq y rfl,qq y rfl,qq y rfl⟩)
 have g:=U (bQ t k ids H I J W P (by omega));rw [L] at g;have d:=U (fun (w':World) (h:O5 w w')=>QP path k w' M K Q (N.below h));have f:=U (fun w'=>ef t k (jN path k) ids H I J w' P L M K (cB K));obtain ⟨n,z⟩:=O1 (jN path k);rw [<- z] at d f ⊢;obtain ⟨R,x⟩:=O1 (zP H k n);rw [<- x] at f ⊢;have v:=U l;clear l p i L z x N;obtain ⟨A,B,C,D⟩:=o.o W (J0 _ _);go_enter Tryz.func43,Tryz.ntmps43;go_upto_region 1 with fail
 rw [<- v.o];clear v;go_wp2_with fail;refine g.o.mono ?_;rintro e E ⟨rfl,a⟩;have b:=U a;obtain ⟨q,r,s,u⟩:=o.o E a;clear a A B C D g;go_wp2_with fail;refine (d.o _ (j.o.trans (b.o.mono j.o.size))).mono ?_;clear q r s u;rintro e F ⟨rfl,a⟩;have c:=U (O2 b a);clear a d;obtain ⟨q,r,s,u⟩:=o.o F c.o;go_wp2_with fail;refine (f.o _).mono ?_;clear q r s u;rintro e G ⟨rfl,a⟩;have m:=U (O2 j (O2 c a));clear a;go_wp2;go_ret2;exact ⟨rfl,m.o⟩
theorem tn (f t:Int) (c:ByteArray) (ids:List ByteArray):q8 ⟨f,c,⟨t,ids⟩⟩=(decide (f=0) && (decide (c.size=0) && (decide (t=0) && decide (ids.length=0)))):=by
 unfold q8;have a:c=⟨#[]⟩↔c.size=0:=⟨fun e=>by rw [e];rfl,fun e=>by
  obtain ⟨d⟩:=c;have:d.size=0:=e;rw [Array.size_eq_zero_iff] at this;rw [this]⟩
 have b:ids=[]↔ids.length=0:=List.length_eq_zero_iff.symm;simp only [a,b,Bool.decide_and]
theorem wC (t s:Int) (ids:List ByteArray) (u:ByteArray) (v:Option Addr) (x:Nat) (w:World) :
 Calls Tryz.prog 75 #[.agg #[.int .i64 t,.slice v ids.length x,.int .i64 s,.string u]] w fun e w'=>e=.returned (.bool (q8 ⟨s,u,⟨t,ids⟩⟩))/\O5 w w':=by
 obtain ⟨W,g⟩:=O1 (w.alloc (.cells #[.int .i64 t,.slice v ids.length x,.int .i64 s,.string u] 33));have d:=O7 g
 have f:=O9 g
 have c:=U d;have o:=qq f (j:=0) rfl;have p:=qq f (j:=1) rfl;have q:=qq f (j:=2) rfl;have r:=qq f (j:=3) rfl;have a:=U (tn s t u ids);have b:=U g;obtain ⟨V,h⟩:=O1 (q8 ⟨s,u,⟨t,ids⟩⟩);rw [<- h] at a ⊢;clear d f g h;by_cases h1:s=0
 case neg =>
  have i:(s == 0)=false:=by simpa using h1
  rw [J5 h1] at a;clear h1;go_enter Tryz.func75,Tryz.ntmps75;go_upto_region 1 with fail
  rw [<- b.o];clear b;go_wp2;go_ret;exact ⟨qz a.o.symm,c.o⟩
 have i:(s == 0)=true:=by simpa using h1
 rw [X0 h1,Y1] at a;clear h1;by_cases h2:u.size=0
 case neg =>
  have k:(u.toList == [])=false:=by rw [K3];exact (gA u (by omega)).1
  rw [J5 h2] at a;clear h2;go_enter Tryz.func75,Tryz.ntmps75;go_upto_region 1 with fail
  rw [<- b.o];clear b;go_wp2;go_ret;exact ⟨qz a.o.symm,c.o⟩
 have k:u.toList=[]:=ye u h2;rw [X0 h2,Y1] at a;clear h2;by_cases h3:t=0
 case neg =>
  have l:(t == 0)=false:=by simpa using h3
  rw [J5 h3] at a;clear h3;go_enter Tryz.func75,Tryz.ntmps75;go_upto_region 1 with fail
  rw [<- b.o];clear b;go_wp2;go_ret;exact ⟨qz a.o.symm,c.o⟩
 have l:(t == 0)=true:=by simpa using h3
 rw [X0 h3,Y1] at a;clear h3;by_cases h4:ids.length=0
 . have m:((ids.length:Int) == 0)=true:=by rw [h4];rfl
   rw [X0 h4] at a;clear h4;go_enter Tryz.func75,Tryz.ntmps75;go_upto_region 1 with fail
   rw [<- b.o];clear b;go_wp2;go_ret;exact ⟨qz a.o.symm,c.o⟩
 . have m:((ids.length:Int) == 0)=false:=by rw [K3];omega
   rw [J5 h4] at a;clear h4;go_enter Tryz.func75,Tryz.ntmps75;go_upto_region 1 with fail
   rw [<- b.o];clear b;go_wp2;go_ret;exact ⟨qz a.o.symm,c.o⟩
theorem nM (a t:Int) (b:ByteArray) (ids:List ByteArray):q6 ⟨a,b,⟨t,ids⟩⟩=(decide (zu ⟨a,b,⟨t,ids⟩⟩=0) && (xm t ids && !vl b)):=by unfold q6 jg;rw [Bool.and_assoc]
theorem gH (t Q:Int) (ids:List ByteArray) (R:ByteArray) (T:Option Addr) (X:Nat) (w:World) (Y:qv w 0 w.heap.size T ids) (hp:R.size<=4294967296) (S:-9223372036854775808<=Q/\Q<=9223372036854775807) (Z:jw ⟨t,ids⟩) :
 Calls Tryz.prog 84 #[.agg #[.int .i64 t,.slice T ids.length X,.int .i64 Q,.string R]] w fun e w'=>e=.returned (.bool (q6 ⟨Q,R,⟨t,ids⟩⟩))/\O5 w w':=by
 obtain ⟨W,v⟩:=O1 (w.alloc (.cells #[.int .i64 t,.slice T ids.length X,.int .i64 Q,.string R] 33));have s:=O7 v
 have q:=O9 v
 have o:=U s;have u:=U q;have A:=U Y;have K:=qq q (j:=0) rfl;have L:=qq q (j:=1) rfl;have M:=qq q (j:=2) rfl;have N:=qq q (j:=3) rfl;have f:=U (bQ t Q ids R T X W hp S);have g:=U (fun (w':World) (h:O5 w w')=>sR t ids T X w' (A.o.below h lz lz h.size) Z.2.2);have r:=U (fun w=>sG R w);have k:=U (nM Q t R ids);have p:=U v;obtain ⟨V,y⟩:=O1 (q6 ⟨Q,R,⟨t,ids⟩⟩);obtain ⟨E,x⟩:=O1 (zu ⟨Q,R,⟨t,ids⟩⟩);obtain ⟨B,l⟩:∃b,b=xm t ids:=⟨_,rfl⟩;obtain ⟨C,m⟩:∃b,b=vl R:=⟨_,rfl⟩;rw [<- y,<- x,<- l,<- m] at k;rw [<- x] at f;rw [<- l] at g;rw [<- m] at r;rw [<- y];clear s q v y x l m Y Z hp S;by_cases h1:E=0
 case neg =>
  have D:(E == 0)=false:=by simpa using h1
  rw [J5 h1] at k;clear h1;go_enter Tryz.func84,Tryz.ntmps84;go_upto_region 1 with fail
  rw [<- p.o];clear p;go_wp2_with (go_at_call 99;refine f.o.mono ?_;rintro e z ⟨rfl,S⟩;have a:=U (O2 o S);clear S);go_ret;exact ⟨qz k.o.symm,a.o⟩
 have D:(E == 0)=true:=by simpa using h1
 rw [X0 h1,Y1] at k;clear h1;cases B
 . go_enter Tryz.func84,Tryz.ntmps84;go_upto_region 1 with fail
   rw [<- p.o];clear p;go_wp2_with (first|(go_at_call 99;refine f.o.mono ?_;rintro e z ⟨rfl,S⟩;have a:=U (O2 o S);have c:=(S.block _ (qx u.o)).trans u.o;have H:=qq c (j:=0) rfl;have I:=qq c (j:=1) rfl;have J:=qq c (j:=3) rfl;have d:=U c;clear S c)|(go_at_call 136;refine (g.o _ a.o).mono ?_;rintro e F ⟨rfl,S⟩;have i:=U (O2 a S);have c:=(S.block _ (qx d.o)).trans d.o;have G:=qq c (j:=3) rfl;clear S c));go_ret;exact ⟨qz k.o.symm,i.o⟩
 . rw [Y1] at k;cases C
   all_goals
    go_enter Tryz.func84,Tryz.ntmps84;go_upto_region 1 with fail
    rw [<- p.o];clear p;go_wp2_with (first|(go_at_call 99;refine f.o.mono ?_;rintro e z ⟨rfl,S⟩;have a:=U (O2 o S);have c:=(S.block _ (qx u.o)).trans u.o;have H:=qq c (j:=0) rfl;have I:=qq c (j:=1) rfl;have J:=qq c (j:=3) rfl;have d:=U c;clear S c)|(go_at_call 136;refine (g.o _ a.o).mono ?_;rintro e F ⟨rfl,S⟩;have i:=U (O2 a S);have c:=(S.block _ (qx d.o)).trans d.o;have G:=qq c (j:=3) rfl;clear S c)|(go_at_call 135;refine (r.o _).mono ?_;rintro e P ⟨rfl,rfl⟩));go_ret;exact ⟨qz k.o.symm,i.o⟩
