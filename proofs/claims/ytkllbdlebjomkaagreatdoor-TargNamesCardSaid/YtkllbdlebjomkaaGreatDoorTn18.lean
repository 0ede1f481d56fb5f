import Derived.Test.YtkllbdlebjomkaaGreatDoorTn17
import Derived.Test.YtkllbdlebjomkaaGreatDoorTn04
import Derived.StillTailTactics
import Derived.Test.YtkllbdlebjomkaaGreatDoorTn05
set_option maxHeartbeats 2000000
set_option maxRecDepth 100000

namespace Go.Proofs.YtkllbdlebjomkaaGreatDoor
open Go.RowKit Go.WideMaps Go.Maps
theorem tP (o m lo hi:Nat) (v:JV) (an ai:Option Addr) (cn ci:Nat) (y:ByteArray) (st:PS) (w:World) (C:PickAt o m lo hi v an ai cn ci st w) :
 Calls Tryz.prog 32 #[.pointer (some ⟨o,0,none⟩),.string y] w fun e w'=>e=.returned (.bool (qI v y st))/\O5 w w':=by
 have a:=U C;clear C;have f:=qq a.o.obj (j:=6) rfl;have g:w.cell? ⟨o,0,none⟩=some (.int .u8 5):=(qq (j:=0) a.o.obj rfl).trans (by rw [a.o.kind];rfl);by_cases he:st.err=0
 . rw [he] at f;have k:=U he;clear he;have q:=qq a.o.obj (j:=1) rfl;have s:=qq a.o.obj (j:=2) rfl;have u:=qq a.o.obj (j:=3) rfl;have x:=qq a.o.obj (j:=4) rfl;have p:=U a.o.rep;rw [a.o.kind] at p;have l:=U (jB v y _ w lo hi a.o.wt a.o.pos a.o.le p.o a.o.kind a.o.rise a.o.len);go_enter Tryz.func32,Tryz.ntmps32;go_wp2_with fail;refine (zx o 0 5 w f g (fun _=>rfl)).mono ?_;rintro r w' ⟨rfl,rfl⟩;go_wp2_with fail;refine l.o.mono ?_;clear l g q s u x f;rintro e B ⟨A,d⟩;have b:=U d;clear d;rcases A with ⟨r,hr1,hr2,hre,an',cn',ai',ci',rfl,hrep⟩|⟨hno,rfl⟩
   . have c:=U (show qI v y st=true by unfold qI;rw [jd a.o.rise r hr1 hr2 hre,k.o];rfl);clear hre hrep;go_wp2;go_ret;exact ⟨qx c.o.symm,b.o.alloc b.o.size _⟩
   . have c:=U (show qI v y st=false by unfold qI;rw [show v.look y=none from xu _ _ _ hno,k.o];rfl);clear hno;unfold zeroAgg;go_wp2;go_ret;exact ⟨qx c.o.symm,b.o.alloc b.o.size _⟩
 . have i:(st.err == 0)=false:=by simpa using he
   have z:(st.err != 0)=true:=by simpa using he
   have c:=U (show qI v y st=false by unfold qI;simp [he]);clear he;go_enter Tryz.func32,Tryz.ntmps32;go_wp2_with fail;refine (zx o st.err 5 w f g (fun h=>by simp [h] at i)).mono ?_;rintro r w' ⟨rfl,rfl⟩;go_wp2;go_ret;exact ⟨qx c.o.symm,Z0 _ _⟩
theorem Qg (o:Nat) (i:Int) (y:ByteArray) (w:World) (h:xy o i w) :
 Calls Tryz.prog 32 #[.pointer (some ⟨o,0,none⟩),.string y] w fun e w'=>e=.returned (.bool false)/\w=w':=by
 obtain ⟨a,d,k,c⟩:=h;have f:(i == 0)=false:=by simpa using a
 have g:(i != 0)=true:=by simpa using a
 have b:=U a;clear a;go_enter Tryz.func32,Tryz.ntmps32;go_wp2_with fail;refine (zx o i k w d c (fun h=>absurd h b.o)).mono ?_;rintro r w' ⟨rfl,rfl⟩;go_wp2;go_ret;exact ⟨rfl,rfl⟩
theorem db:∀ {ns:List ByteArray} {xs:List JV} {y:ByteArray} {x:JV},jy ns xs y=some x->x.wt<=JV.wts xs
 | n :: ns,z :: xs,y,x,h=>by
  rw [jy] at h;simp only [JV.wts];split at h
  . injection h with h;subst h;omega
  . have:=db h;omega
theorem xF {v:JV} {y:ByteArray} {c:Nat} {st:PS} (h:v.wt<=4294967296):(qf v y c st).1.wt<=4294967296:=by
 have a:zeroJ.wt<=4294967296:=by decide
 have b:=v.wt_bd;unfold qf;split
 . exact a
 . split
   . exact a
   . rename_i it hit;have:=db (show jy v.names v.items y=some it from hit);split
     . exact a
     . split
       . exact a
       . show it.wt<=_;omega
theorem mM {α:Type} {l m:List α} {k:Nat} (h:k<l.length) (b:k<m.length) (e:l.take k=m.take k) (a:l[k]=m[k]):l.take (k+1)=m.take (k+1):=by rw [Z7 h,Z7 b,e,a]
theorem oF (N:Nat):∀(v u:JV) (x y:Value) (lo hi:Nat) (w:World),v.wt<=N->u.wt<=4294967296->N<=4294967296->hi<=w.heap.size->Rep w lo hi v x->Rep w lo hi u y ->
 Calls Tryz.prog 43 #[x,y] w fun e w'=>e=.returned (.bool (v.sameB u))/\O5 w w':=by
 induction N with
 | zero=>intro v u x y lo hi w h;have:=v.wt_pos;omega
 | succ N ih =>
  intro v u x y lo hi w hN hU hM hhi hR hS;have IH:=U ih;clear ih;obtain ⟨B,D,A,C,rfl,_,_,h3,h4⟩:=hR.parts;obtain ⟨j,m,g,l,rfl,_,_,a1,a2⟩:=hS.parts;have a:=U (v.sameB_eq u);obtain ⟨b1,b2,b3,b4⟩:=v.wt_bd;obtain ⟨d1,d2,d3,d4⟩:=u.wt_bd;have H3:=U h3;have H4:=U h4;have a8:=U a1;have a9:=U a2;clear h3 h4 a1 a2 hR hS;have q:=O0 (O5 w ((w.alloc (.cells #[.int .u8 v.kind,.int .i64 v.n,.string v.t,.slice B v.names.length D,.slice A v.items.length C] 26)).alloc (.cells #[.int .u8 u.kind,.int .i64 u.n,.string u.t,.slice j u.names.length m,.slice g u.items.length l] 26))) ((O4).alloc (by simp) _);by_cases K:v.kind=u.kind
  case neg =>
   have t1:(v.kind == u.kind)=false:=by simpa using K
   have t2:(v.kind != u.kind)=true:=by simpa using K
   rw [X0 K] at a;clear K;go_enter Tryz.func43,Tryz.ntmps43;go_wp2;go_ret;exact ⟨by rw [a.o];rfl,q.o⟩
  have t1:(v.kind != u.kind)=false:=by simpa using K
  have HK:=U K;rw [X3 K] at a;clear K;by_cases hn:v.n=u.n
  case neg =>
   have t3:(v.n != u.n)=true:=by simpa using hn
   rw [X0 hn] at a;clear hn;go_enter Tryz.func43,Tryz.ntmps43;go_wp2;go_ret;exact ⟨by rw [a.o];rfl,q.o⟩
  have t2:(v.n != u.n)=false:=by simpa using hn
  rw [X3 hn] at a;clear hn;by_cases ht:v.t=u.t
  case neg => have t3:(v.t.toList == u.t.toList)=false:=N9.2 (fun e=>ht (pi e));have t4:(v.t.toList != u.t.toList)=true:=bne_iff_ne.2 (fun e=>ht (pi e));rw [X0 ht] at a;clear ht;go_enter Tryz.func43,Tryz.ntmps43;go_wp2;go_ret;exact ⟨by rw [a.o];rfl,q.o⟩
  have t3:(v.t.toList == u.t.toList)=true:=by rw [ht];simp
  have t4:(v.t.toList != u.t.toList)=false:=by rw [ht];simp
  rw [X3 ht] at a;clear ht;by_cases hm:v.names.length=u.names.length
  case neg =>
   have t5:((v.names.length:Int) != (u.names.length:Int))=true:=by rw [bne_iff_ne];omega
   have t6:(v.names.length != u.names.length)=true:=by rw [bne_iff_ne];omega
   rw [X0 (fun e:v.names=u.names=>hm (by rw [e]))] at a;clear hm;go_enter Tryz.func43,Tryz.ntmps43;go_wp2;go_ret;exact ⟨by rw [a.o];rfl,q.o⟩
  by_cases hl:v.items.length=u.items.length
  case neg =>
   have t5:((v.items.length:Int) != (u.items.length:Int))=true:=by rw [bne_iff_ne];omega
   have t6:(v.items.length != u.items.length)=true:=by rw [bne_iff_ne];omega
   have t7:((v.names.length:Int) != (u.names.length:Int))=false:=by rw [bne_eq_false_iff_eq];omega
   have t8:(v.names.length != u.names.length)=false:=by rw [bne_eq_false_iff_eq];omega
   rw [X0 hl] at a;clear hl hm;go_enter Tryz.func43,Tryz.ntmps43;go_wp2;go_ret;exact ⟨by rw [a.o];simp,q.o⟩
  rw [X3 hl] at a;simp only [Y4] at a;rw [<- hl,<- hm];obtain ⟨b,G⟩:=O1 v.items.length;obtain ⟨c,H⟩:=O1 v.names.length;rw [<- G,<- H];rw [<- G] at b3;rw [<- H] at b2;have R:=U G;have V:=U (show u.items.length=b by rw [G,hl]);have T:=U H;have S:=U (show u.names.length=c by rw [H,hm]);clear hl G hm H q;have a6:((w.alloc (.cells #[.int .u8 v.kind,.int .i64 v.n,.string v.t,.slice B c D,.slice A b C] 26)).alloc (.cells #[.int .u8 u.kind,.int .i64 u.n,.string u.t,.slice j c m,.slice g b l] 26)).heap[w.heap.size]?=some (.cells #[.int .u8 v.kind,.int .i64 v.n,.string v.t,.slice B c D,.slice A b C] 26 (0,0)):=(X6 _ _ _ (by simp)).trans (Z5 w _);have a7:((w.alloc (.cells #[.int .u8 v.kind,.int .i64 v.n,.string v.t,.slice B c D,.slice A b C] 26)).alloc (.cells #[.int .u8 u.kind,.int .i64 u.n,.string u.t,.slice j c m,.slice g b l] 26)).heap[w.heap.size+1]?=some (.cells #[.int .u8 u.kind,.int .i64 u.n,.string u.t,.slice j c m,.slice g b l] 26 (0,0)):=(by have:=Z5 (w.alloc (.cells #[.int .u8 v.kind,.int .i64 v.n,.string v.t,.slice B c D,.slice A b C] 26)) (.cells #[.int .u8 u.kind,.int .i64 u.n,.string u.t,.slice j c m,.slice g b l] 26);rwa [show (w.alloc (.cells #[.int .u8 v.kind,.int .i64 v.n,.string v.t,.slice B c D,.slice A b C] 26)).heap.size=w.heap.size+1 by simp] at this);have q:=O0 (O5 w ((w.alloc (.cells #[.int .u8 v.kind,.int .i64 v.n,.string v.t,.slice B c D,.slice A b C] 26)).alloc (.cells #[.int .u8 u.kind,.int .i64 u.n,.string u.t,.slice j c m,.slice g b l] 26))) ((O4).alloc (by simp) _);have b7:=U a6;have c0:=U a7;clear a6 a7
  -- what each later world gives
  have HW:=U (show ∀w':World,Below (w.heap.size+2) ((w.alloc (.cells #[.int .u8 v.kind,.int .i64 v.n,.string v.t,.slice B c D,.slice A b C] 26)).alloc (.cells #[.int .u8 u.kind,.int .i64 u.n,.string u.t,.slice j c m,.slice g b l] 26)) w' ->
   O5 w w'/\w.heap.size+2<=w'.heap.size/\w'.cell? ⟨w.heap.size,3,none⟩=some (.slice B c D)/\w'.cell? ⟨w.heap.size,4,none⟩=some (.slice A b C)/\w'.cell? ⟨w.heap.size+1,3,none⟩=some (.slice j c m)/\w'.cell? ⟨w.heap.size+1,4,none⟩=some (.slice g b l) from fun w' h=>by
   have hx:w'.heap[w.heap.size]?=_:=(h.block _ (by omega)).trans b7.o;have hy:w'.heap[w.heap.size+1]?=_:=(h.block _ (by omega)).trans c0.o;exact ⟨q.o.trans (h.mono (by omega)),by have:=h.size;simpa using this,qq hx rfl,qq hx rfl,qq hy rfl,qq hy rfl⟩)
  go_enter Tryz.func43,Tryz.ntmps43;go_wp2;clear t1 t2 t3 t4;go_loopw [5] (fun i wr=>∃k:Nat,k<=c/\i=.int .i64 k/\v.names.take k=u.names.take k/\Below (w.heap.size+2) ((w.alloc (.cells #[.int .u8 v.kind,.int .i64 v.n,.string v.t,.slice B c D,.slice A b C] 26)).alloc (.cells #[.int .u8 u.kind,.int .i64 u.n,.string u.t,.slice j c m,.slice g b l] 26)) wr) (fun i _=>c - (intOf i).toNat)
  case atStart=>exact ⟨0,by omega,rfl,by simp,Z0 _ _⟩
  case round =>
   obtain ⟨k,K,rfl,r,d⟩:=hrel;obtain ⟨F,hz,c3,c4,M,J⟩:=HW.o wr d;have P:=U r;have Q:=U d;have o:=U F;clear r d F;by_cases hlt:k<c
   . have a3:k<v.names.length:=by rw [<- T.o];exact hlt
     have a4:k<u.names.length:=by rw [S.o];exact hlt
     obtain ⟨p,f,rfl,_,_,y1⟩:=(H3.o.below o.o hhi lz lz).at k a3;obtain ⟨p',f',rfl,_,_,y2⟩:=(a8.o.below o.o hhi lz lz).at k a4;have g1:0<=(k:Int):=by omega
     have g2:(k:Int)<(c:Int):=by omega
     by_cases he:v.names[k]=u.names[k]
     . have I:=U (mM a3 a4 P.o he);have t1:(v.names[k].toList == u.names[k].toList)=true:=by rw [he];simp
       have t2:(v.names[k].toList != u.names[k].toList)=false:=by rw [he];simp
       clear he;generalize v.names[k]=na at *;generalize u.names[k]=nb at *;go_wp2_with fail;go_quiet (fail)
       go_wp2;go_roundw
       case rel=>exact ⟨k+1,by omega,by go_num,I.o,Below.drewN Q.o _⟩
       case measure=>simp [intOf];omega
     . have I:=O0 (decide (v.names=u.names)=false) (X0 (fun e=>he (by simp only [e])));have t1:(v.names[k].toList == u.names[k].toList)=false:=N9.2 (fun e=>he (pi e));have t2:(v.names[k].toList != u.names[k].toList)=true:=bne_iff_ne.2 (fun e=>he (pi e));clear he;generalize v.names[k]=na at *;generalize u.names[k]=nb at *;go_wp2_with fail;go_quiet (fail)
       go_wp2;go_ret;exact ⟨by rw [a.o,I.o];rfl,Below.drewN o.o _⟩
   . have b0:=U (show v.names=u.names by
      have:=P.o;rwa [J4 (by rw [<- T.o];omega),J4 (by rw [S.o];omega)] at this)
     rw [X3 b0.o,Y4] at a;obtain ⟨k1,rfl⟩:∃k1:Nat,k1=k:=⟨_,rfl⟩;obtain ⟨wa,rfl⟩:∃wa:World,wa=wr:=⟨_,rfl⟩;go_wp2;clear c3 c4 M J;go_loopw [6] (fun i wr=>∃k:Nat,k<=b/\i=.int .i64 k/\JV.sameL (v.items.take k) (u.items.take k)=true/\Below (w.heap.size+2) ((w.alloc (.cells #[.int .u8 v.kind,.int .i64 v.n,.string v.t,.slice B c D,.slice A b C] 26)).alloc (.cells #[.int .u8 u.kind,.int .i64 u.n,.string u.t,.slice j c m,.slice g b l] 26)) wr) (fun i _=>b - (intOf i).toNat)
     case atStart=>exact ⟨0,by omega,rfl,by simp [JV.sameL],Q.o⟩
     case round =>
      clear P Q o hz;obtain ⟨k,c9,rfl,r,d⟩:=hrel;obtain ⟨F,hz,c3,c4,M,J⟩:=HW.o wr d;have P:=U r;have Q:=U d;have o:=U F;clear r d F c3 M;by_cases hlt2:k<b
      . have z:k<v.items.length:=by rw [<- R.o];exact hlt2
        have s:k<u.items.length:=by rw [V.o];exact hlt2
        obtain ⟨p,f,e0,e1,e2,e3,e4,rfl,_,_,g0,g1,g2,g3,g4,hr⟩:=(H4.o.below o.o hhi lz lz).at k z;obtain ⟨p',f',c1,c2,c5,c6,c7,rfl,_,_,W,X,Y,Z,a0,a5⟩:=(a9.o.below o.o hhi lz lz).at k s;have d0:=JV.wts_get v.items k z;have d5:=JV.wts_get u.items k s;have b6:=U (JV.sameL_take v.items u.items k z s);have b5:=U (JV.sameL_bad v.items u.items k z s);have HC:=U (IH.o v.items[k] u.items[k] _ _ lo hi wr.drew (by omega) (by omega) (by omega) (by show hi<=wr.heap.size;omega) (Rep.carry (w:=wr) (w':=wr.drew) lz lz (fun _ _ _=>rfl) _ _ hr) (Rep.carry (w:=wr) (w':=wr.drew) lz lz (fun _ _ _=>rfl) _ _ a5));clear hr a5;generalize v.items[k]=it at *;generalize u.items[k]=jt at *;have m1:0<=(k:Int):=by omega
        have m2:(k:Int)<(b:Int):=by omega
        cases hsb:it.sameB jt
        . have I:=U (b5.o hsb);rw [hsb] at HC;clear hsb;go_wp2_with fail;go_still_tail 10,(by kernel_rfl)
          go_wp2_with fail
          refine HC.o.mono ?_;rintro e w5 ⟨rfl,E⟩;have L:=U (o.o.drew.trans (E.mono (by show w.heap.size<=wr.heap.size;omega)));clear E g0 g1 g2 g3 g4 W X Y Z a0 c4 J;go_wp2;go_ret;exact ⟨by rw [a.o,I.o];rfl,L.o⟩
        . have I:=U (show JV.sameL (v.items.take (k+1)) (u.items.take (k+1))=true by rw [b6.o,P.o,hsb];rfl);rw [hsb] at HC;clear hsb;go_wp2_with fail;go_still_tail 10,(by kernel_rfl)
          go_wp2_with fail
          refine HC.o.mono ?_;rintro e w5 ⟨rfl,E⟩;have L:=U (Q.o.drew.trans (E.mono (by show w.heap.size+2<=wr.heap.size;omega)));clear E g0 g1 g2 g3 g4 W X Y Z a0 c4 J;go_wp2;go_roundw
          case rel=>exact ⟨k+1,by omega,by go_num,I.o,L.o⟩
          case measure=>simp [intOf];omega
      . have I:=U (show JV.sameL v.items u.items=true by
         have:=P.o;rwa [J4 (by rw [<- R.o];omega),J4 (by rw [V.o];omega)] at this)
        go_wp2;go_ret;exact ⟨by rw [a.o,I.o];rfl,o.o⟩
def qU (B:Nat) (J:JV) (w:World) (x:Value):Prop:=∃an cn ai ci,x=.agg #[.int .u8 J.kind,.int .i64 J.n,.string J.t,.slice an J.names.length cn,.slice ai J.items.length ci]/\Rep w B w.heap.size J x
theorem qU.mono {B:Nat} {J:JV} {w w':World} {x:Value} (g:O5 w w') (h:qU B J w x):qU B J w' x:=by obtain ⟨b,d,a,c,e,f⟩:=h;exact ⟨b,d,a,c,e,f.below g lz lz g.size⟩
def MP.rep (B:Nat) (J:JV):MP:=⟨qU B J,fun _ _ _ hb h=>h.mono hb⟩
theorem qU.five {B:Nat} {J:JV} {w:World} {x:Value} (h:qU B J w x):∃c0 c1 c2 c3 c4,x=.agg #[c0,c1,c2,c3,c4]/\qU B J w (.agg #[c0,c1,c2,c3,c4]):=by obtain ⟨b,d,a,c,rfl,e⟩:=h;exact ⟨_,_,_,_,_,rfl,b,d,a,c,rfl,e⟩
def wG (B:Nat) (w:World) (cs:Array Value) (o:Nat) (J:JV):Prop:=∃c0 c1 c2 c3 c4,cs[o]?=some c0/\cs[o+1]?=some c1/\cs[o+2]?=some c2/\cs[o+3]?=some c3/\cs[o+4]?=some c4/\qU B J w (.agg #[c0,c1,c2,c3,c4])
theorem wG.mono {B:Nat} {w w':World} {cs:Array Value} {o:Nat} {J:JV} (m:O5 w w') (h:wG B w cs o J):wG B w' cs o J:=by obtain ⟨a,b,c,d,e,f,g,i,j,k,l⟩:=h;exact ⟨a,b,c,d,e,f,g,i,j,k,l.mono m⟩
def oH (B T:Nat) (l:List JV) (w:World) (x:Value):Prop:=∃b cs,x=.slice (some ⟨b,0,none⟩) l.length l.length/\B<=b/\w.heap[b]?=some (.cells cs T (0,0))/\∀i (h:i<l.length),wG B w cs (i * 5) l[i]
def oU (B:Nat) (nm:ByteArray) (J:JV) (e:Int) (w:World) (x:Value):Prop:=∃c0 c1 c2 c3 c4,x=.agg #[.string nm,c0,c1,c2,c3,c4,.int .i64 e]/\qU B J w (.agg #[c0,c1,c2,c3,c4])
def MP.trip (B:Nat) (nm:ByteArray) (J:JV) (e:Int):MP:=⟨oU B nm J e,fun _ _ _ hb ⟨c0,c1,c2,c3,c4,h,hr⟩=>⟨c0,c1,c2,c3,c4,h,hr.mono hb⟩⟩
def g9 (B T:Nat) (l:List (ByteArray × JV × Int)) (w:World) (x:Value):Prop:=∃b cs,x=.slice (some ⟨b,0,none⟩) l.length l.length/\B<=b/\w.heap[b]?=some (.cells cs T (0,0))/\∀i (h:i<l.length),cs[i * 7]?=some (.string l[i].1)/\wG B w cs (i * 7+1) l[i].2.1/\cs[i * 7+6]?=some (.int .i64 l[i].2.2)
theorem g9.mono {B T:Nat} {l:List (ByteArray × JV × Int)} {w w':World} {x:Value} (g:O5 w w') (h:g9 B T l w x):g9 B T l w' x:=by obtain ⟨b,d,e,f,c,a⟩:=h;exact ⟨b,d,e,f,by rw [g.block _ (qz c)];exact c,fun i hi=>⟨(a i hi).1,(a i hi).2.1.mono g,(a i hi).2.2⟩⟩
def MP.tab (B T:Nat) (l:List (ByteArray × JV × Int)):MP:=⟨g9 B T l,fun _ _ _ hb h=>h.mono hb⟩
def strs (l:List ByteArray):Array Value:=(l.map Value.string).toArray
theorem dp (B:Nat) (n:Int) (w:World):qU B (qB n) w (.agg #[.int .u8 2,.int .i64 n,.string ⟨#[]⟩,.slice none 0 0,.slice none 0 0]):=⟨none,0,none,0,rfl,gp _ _ _ _⟩
theorem df (B:Nat) (t:ByteArray) (w:World):qU B (txtJ t) w (.agg #[.int .u8 3,.int .i64 0,.string t,.slice none 0 0,.slice none 0 0]):=⟨none,0,none,0,rfl,jZ _ _ _ _⟩
theorem fh (w:World) (lo hi:Nat) (k n:Int) (t:ByteArray):Rep w lo hi (.mk k n t [] []) (.agg #[.int .u8 k,.int .i64 n,.string t,.slice none 0 0,.slice none 0 0]):=Rep.mk (v:=.mk k n t [] []) lz lz (.inl rfl) (.inl rfl)
theorem vV (B:Nat) (k n:Int) (t:ByteArray) (w:World):qU B (.mk k n t [] []) w (.agg #[.int .u8 k,.int .i64 n,.string t,.slice none 0 0,.slice none 0 0]):=⟨none,0,none,0,rfl,Rep.mk (v:=.mk k n t [] []) lz lz (.inl rfl) (.inl rfl)⟩
theorem QI {B T1 T2:Nat} {w:World} {x y:Value} (ns:List ByteArray) (l:List JV) (C:vQ B ns.length T1 (strs ns) w x) (D:oH B T2 l w y):qU B (.mk 5 0 ⟨#[]⟩ ns l) w (.agg #[.int .u8 5,.int .i64 0,.string ⟨#[]⟩,x,y]):=by obtain ⟨b,o,rfl,f⟩:=C;obtain ⟨e,A,rfl,c,a,p⟩:=D;refine ⟨some ⟨b,0,none⟩,ns.length,some ⟨e,0,none⟩,l.length,rfl,?_⟩;refine Rep.mk (v:=.mk 5 0 ⟨#[]⟩ ns l) lz lz (cD ns o (qz f) f) ?_;refine .inr ⟨e,0,rfl,c,qz a,⟨_,_,_,a,fun _=>rfl⟩,xN.of_at fun i hi=>?_⟩;obtain ⟨g,h,j,k,m,q,r,s,u,z,d⟩:=p i hi;obtain ⟨_,_,_,_,_,d⟩:=d;simp only [za9];exact ⟨g,h,j,k,m,qq a q,qq a r,qq a s,qq a u,qq a z,by simp [World.frozen?,a],d⟩
def oM:Code->Code | .seq a _=>a|c=>c
def Zt:Code->Code | .seq _ b=>b|c=>c
