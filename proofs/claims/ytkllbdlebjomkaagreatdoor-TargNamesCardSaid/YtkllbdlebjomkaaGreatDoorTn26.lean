import Derived.Test.YtkllbdlebjomkaaGreatDoorTn25
import Derived.StillTailTactics
import Derived.Laws.EntriesVeiled
set_option maxHeartbeats 400000
set_option maxRecDepth 100000

namespace Go.Proofs.YtkllbdlebjomkaaGreatDoor
open Go.RowKit
theorem o0 (nm:Bool) (N:Nat) (ih:ig nm N) (B b tb fb:Nat) (bs:List Value) (v:JV) (x:Value) (w:World) (hN:v.wt<=N+1) (hA:pQ nm B b tb fb bs v x w) (hk:v.kind=5) :
 Calls Tryz.prog 163 #[x,.pointer (some ⟨b,0,none⟩),.pointer (some ⟨tb,0,none⟩),.pointer (some ⟨fb,0,none⟩)] w (yf B b bs v w):=by
 obtain ⟨hf,hR,hB,hE,hl,hS⟩:=hA;have g4:b<w.heap.size:=by
  rcases hB with h|h
  . exact h.lt
  . exact h.lt
 obtain ⟨an,cn,ai,ci,rfl,h1,h2,h3,h4⟩:=hR.parts;obtain ⟨b1,b2,b3,b4⟩:=v.wt_bd;have g3:=v.wt_pos;have f5:=hE.le;have Y:=(JV.form_eq hf).2;obtain ⟨a3,d3⟩:v.names.length=v.items.length/\∀i (h:i<v.names.length),qX v.names[i]=true:=(by rcases (JV.form_eq hf).1 with e|⟨e,_⟩|⟨e,_⟩|e|⟨_,e⟩ <;> first|(exact e)|omega);have A:=v.wt_eq;have f2:=U A;have a7:=U a3;have e8:=U d3;have H3:=U h3;obtain ⟨d,a2⟩:=O1 v.items.length;rw [a3,<- a2];have e4:=U (show v.enc=123 :: (JV.encO true v.names v.items ++ [125]) by rw [v.enc_eq,hk];rfl);have H4:=U h4;have a5:=U Y;have HE:=U hE;have HS:=U hS;have T:=U a2;have IH:=U ih;have e3:=U (JV.encO_length v.names v.items true (JV.forms_true _ Y));have h0:d<=4611686018427387904:=by omega
 clear h3 h4 hR hf hE hS h1 h2 ih Y a2 a3 d3 A;have HB:=U (zE hB ((Z0 w.heap.size w).alloc lz (.cells #[.int .u8 v.kind,.int .i64 v.n,.string v.t,.slice an d cn,.slice ai d ci] 26)));have Q:=O0 (Below B w (w.alloc (.cells #[.int .u8 v.kind,.int .i64 v.n,.string v.t,.slice an d cn,.slice ai d ci] 26))) ((Z0 _ _).alloc f5 _);have S:=O0 (Kept b w (w.alloc (.cells #[.int .u8 v.kind,.int .i64 v.n,.string v.t,.slice an d cn,.slice ai d ci] 26))) ((M9 _ _ w).alloc _);have a:=U (Z5 w (.cells #[.int .u8 v.kind,.int .i64 v.n,.string v.t,.slice an d cn,.slice ai d ci] 26));clear hB;rw [hk] at HB Q S a ⊢;clear hk;go_enter Tryz.func163,Tryz.ntmps163;go_wp2_with fail;refine (zW B b bs _ _ HB.o (by omega) (by simp;omega)).mono ?_;rintro e w1 ⟨rfl,d4,b7,Z⟩;have f0:=U d4;have e0:=U (Q.o.trans b7);have F:=U (S.o.trans Z);have b5:=U (kM Z a.o (by omega));clear d4 b7 Z HB Q S a;have c4:=qq b5.o (j:=4) rfl;go_wp2;clear c4;go_loopw [7,8,55] (fun _ _ i wr=>∃k:Nat,k<=d/\i=.int .i64 k/\mQ B b (bs ++ Lib.byteCells (123 :: JV.encO true (v.names.take k) (v.items.take k))) wr/\Below B w wr/\Kept b w1 wr) (fun _ _ i _=>d - (intOf i).toNat)
 case atStart=>exact ⟨0,J0 _,rfl,by simpa [JV.encO,Lib.byteCells] using f0.o,e0.o,M9 _ _ _⟩
 case round =>
  obtain ⟨k,hk,rfl,c9,X,d1⟩:=hrel;have hz:=X.size;have E:=U c9;have D:=U X;have R:=U d1;clear c9 X d1;have g7:=JV.encO_length (v.names.take k) (v.items.take k) true (JV.forms_take _ _ (JV.forms_true _ a5.o));have f4:=e3.o;have A:=f2.o;by_cases hlt:k<d
  . have c:k<v.items.length:=by rw [<- T.o];exact hlt
    have o:k<v.names.length:=by rw [a7.o];exact c
    obtain ⟨b',h7,j,m,g,l,rfl,_,f3,y0,y1,y2,y3,y4,M⟩:=H4.o.get k c;obtain ⟨nb,P,rfl,_,d2,yn⟩:=H3.o.at k o;rw [<- D.o.cell f3] at y0 y1 y2 y3 y4;have f7:=JV.wts_snoc v.items k c;have f6:=hQ v.names k o;have V:=U (JV.encO_take v.names v.items k c o);have a4:=U (JV.forms_get v.items k c a5.o);have e7:=U (e8.o k o);have h5:=jX v.names[k];generalize v.items[k]=it at *;generalize v.names[k]=nk at *;have b0:=U A;have h6:30 * qh (v.names.take k)+30 * JV.wts (v.items.take k)+30 * (nk.size+1)+30 * it.wt+30<=30 * v.wt:=by omega
    clear A f7 f6 f4;have L:=U (show ∀(w':World) (bs':List Value),yU B b bs' w'->Below B w w'->Kept b w w'->bs'.length+30 * it.wt<=140737488300000->Calls Tryz.prog 163 #[.agg #[.int .u8 it.kind,.int .i64 it.n,.string it.t,.slice j it.names.length m,.slice g it.items.length l],.pointer (some ⟨b,0,none⟩),.pointer (some ⟨tb,0,none⟩),.pointer (some ⟨fb,0,none⟩)] w' (yf B b bs' it w') from
     fun w' bs' k1 k2 k3 k4=>IH.o B b tb fb bs' it _ w' (by have:=b0.o;omega) ⟨a4.o,M.below k2 lz lz lz,k1,HE.o.kept k3 k2.size,k4,fun h=>fB (HS.o h) k2⟩)
    have a:=U (Z5 wr (.cells #[.int .u8 it.kind,.int .i64 it.n,.string it.t,.slice j it.names.length m,.slice g it.items.length l] 26));have C:=U (zE (.inr E.o) ((Z0 wr.heap.size wr).alloc lz (.cells #[.int .u8 it.kind,.int .i64 it.n,.string it.t,.slice j it.names.length m,.slice g it.items.length l] 26)));have I:=O0 (Below B w (wr.alloc (.cells #[.int .u8 it.kind,.int .i64 it.n,.string it.t,.slice j it.names.length m,.slice g it.items.length l] 26))) (D.o.alloc (by omega) _);have G:=O0 (Kept b w1 (wr.alloc (.cells #[.int .u8 it.kind,.int .i64 it.n,.string it.t,.slice j it.names.length m,.slice g it.items.length l] 26))) (R.o.alloc _);clear M E D R a4
    -- what each later world gives
    have u:=U (show ∀(w':World),Below B w w'->Kept b w1 w'->w'.cell? ⟨tb,0,none⟩=some (.func (.func 161) #[] #[.pointer (some ⟨b,0,none⟩)])/\w'.cell? ⟨fb,0,none⟩=some (.func (.func 163) #[] #[.pointer (some ⟨b,0,none⟩),.pointer (some ⟨tb,0,none⟩),.pointer (some ⟨fb,0,none⟩)])/\w'.cell? ⟨w.heap.size,3,none⟩=some (.slice (some ⟨nb,P,none⟩) d cn)/\w'.cell? ⟨nb,P+k,none⟩=some (.string nk) from
     fun w' k1 k2=>⟨qq (HE.o.kept (F.o.trans k2) k1.size).ht rfl,qq (HE.o.kept (F.o.trans k2) k1.size).hf rfl,qq (kM k2 b5.o (by omega)) rfl,by rw [k1.cell d2];exact yn⟩)
    clear yn;rcases za6 k with hk0|hk0
    case' inl =>
     have hd:decide (0<k)=false:=by simp;omega
     have g5:¬0<k:=by omega
     rw [X3 hk0,show sep true=[] from rfl,List.nil_append] at V;clear hk0;go_wp2_with fail;have p:=C;have q:=I;have f:=G;have K:=a;clear C I G a;generalize (wr.alloc (.cells #[.int .u8 it.kind,.int .i64 it.n,.string it.t,.slice j it.names.length m,.slice g it.items.length l] 26))=w3 at p q f K ⊢
    case' inr => rw [X0 (by omega),show sep false=[44] from rfl] at V;go_wp2_with fail;refine (zW B b _ _ _ C.o (by simp [Lib.byteCells];omega) (by simp;omega)).mono ?_;rintro e w3 ⟨rfl,z,y,r⟩;have K:=U (kM r a.o (by omega));have p:=O0 (yU B b _ w3) (.inr z);have q:=U (I.o.trans y);have f:=U (G.o.trans r);clear z y r C I G a;go_wp2_with fail
    all_goals
     clear y0 y1 y2 y3 y4;obtain ⟨q0,q1,q2,q3⟩:=u.o w3 q.o f.o;have g1:0<=(k:Int):=by omega
     have g2:(k:Int)<(d:Int):=by omega
     have f8:=q.o.size;go_still_tail 6,(by kernel_rfl);go_wp2_with fail
    all_goals
     refine (nU B b _ nk w3.drew (show yU B b _ w3.drew from p.o) e7.o (by simp [Lib.byteCells];omega) (by simp;omega)).mono ?_;rintro e w4 ⟨rfl,d5,c5,a0⟩;have b6:=U (kM a0 (show w3.drew.heap[wr.heap.size]?=_ from K.o) (by omega));have a8:=U d5;have W:=U (q.o.drew.trans c5);have a6:=U (f.o.drew.trans a0);have g0:=W.o.size;clear d5 c5 a0 p q f K q0 q1 q2 q3 f8;go_wp2_with fail;refine (zW B b _ _ _ (.inr a8.o) (by simp [Lib.byteCells];omega) (by omega)).mono ?_;rintro e w5 ⟨rfl,d6,c6,a1⟩;have s:=kM a1 b6.o (by omega);have a9:=U d6;have J:=U (W.o.trans c6);have H:=U (a6.o.trans a1);have c0:=qq s (j:=0) rfl;have c1:=qq s (j:=1) rfl;have c2:=qq s (j:=2) rfl;have c3:=qq s (j:=3) rfl;have c4:=qq s (j:=4) rfl;obtain ⟨-,q1,-,-⟩:=u.o w5 J.o H.o;clear d6 c6 a1 s a8 W a6 b6 g0;go_wp2_with fail;refine (L.o _ _ (.inr a9.o) J.o (F.o.trans H.o) (by simp [Lib.byteCells];omega)).mono ?_;rintro e w6 ⟨rfl,d7,c7,d0⟩;have f1:=U d7;have e2:=U (J.o.trans c7);have e6:=U (H.o.trans d0);clear d7 c7 d0 L a9 J H q1 c0 c1 c2 c3 c4 u;go_wp2;go_roundw
     case rel=>exact ⟨k+1,by omega,by go_num,by rw [V.o];simpa [Lib.byteCells] using f1.o,e2.o,e6.o⟩
     case measure=>simp [intOf];omega
  . have HF:=O0 (v.items.take k=v.items) (J4 (by rw [<- T.o];omega));have e5:=O0 (v.names.take k=v.names) (J4 (by rw [a7.o,<- T.o];omega));rw [HF.o,e5.o] at E;go_wp2_with fail;refine (zW B b _ _ _ (.inr E.o) (by simp [Lib.byteCells];omega) (by omega)).mono ?_;rintro e w3 ⟨rfl,z,y,r⟩;have p:=U z;have e1:=U (D.o.trans y);have f:=U (F.o.trans (R.o.trans r));clear z y r;go_wp2
    go_end0
    exact ⟨rfl,by rw [e4.o];simpa [Lib.byteCells] using p.o,e1.o,f.o⟩
theorem rV (nm:Bool):∀N,ig nm N
 | 0=>fun B b tb fb bs v x w hN _=>by have:=v.wt_pos;omega
 | N+1=>fun B b tb fb bs v x w hN hA=>by
  rcases (JV.form_eq hA.1).1 with e|⟨e,_⟩|⟨e,_⟩|e|⟨e,_⟩
  . exact fP nm B b tb fb bs v x w hA (.inl e)
  . exact fP nm B b tb fb bs v x w hA (.inr (.inl e))
  . exact fP nm B b tb fb bs v x w hA (.inr (.inr e))
  . exact ip nm N (rV nm N) B b tb fb bs v x w hN hA e
  . exact o0 nm N (rV nm N) B b tb fb bs v x w hN hA e
def uL (v:JV) (w:World) (e:Ending) (w':World):Prop:=e=.returned (.tuple #[.string ⟨(if v.mayB then v.enc else []).toArray⟩,.int .i64 (if v.mayB then 0 else 3)])/\O5 w w'
theorem o4 (n:Int):Lib.itoa n≠[]:=by
 unfold Lib.itoa;split
 . simp
 . rw [Lib.decDigits];split <;> simp
theorem dL (nm:Bool) (v:JV) (x:Value) (w:World) (hv:v.wt<=4294967296) (hR:Rep w 0 w.heap.size v x) (hf:v.mayB=true->v.form nm) (hS:nm=true->mE w.heap.size w) :
 Calls Tryz.prog 126 #[x] w (uL v w):=by
 obtain ⟨l,o,k,m,X,R,S,T,V⟩:=hR.parts;have J:=U hR;clear hR T V R S;have I:=U hf;have K:=U hS;clear hf hS;subst X;have g:=O0 (O5 w (w.alloc (.cells #[.int .u8 v.kind,.int .i64 v.n,.string v.t,.slice l v.names.length o,.slice k v.items.length m] 26))) O4;have B:=U (Z5 w (.cells #[.int .u8 v.kind,.int .i64 v.n,.string v.t,.slice l v.names.length o,.slice k v.items.length m] 26));have s:=U (xm v _ (w.alloc (.cells #[.int .u8 v.kind,.int .i64 v.n,.string v.t,.slice l v.names.length o,.slice k v.items.length m] 26)) hv (J.o.below g.o lz lz g.o.size));cases hm:v.mayB
 . rw [hm] at s;go_enter Tryz.func126,Tryz.ntmps126;go_wp2_with fail;refine s.o.mono ?_;rintro e a ⟨rfl,b⟩;have d:=U (g.o.trans (b.mono (by simp)));clear b;go_wp2;go_ret2;exact ⟨by rw [hm];rfl,d.o⟩
 . rw [hm] at s;have i:=U hm;clear hm;go_enter Tryz.func126,Tryz.ntmps126;go_wp2_with fail;refine s.o.mono ?_;clear s;rintro e a ⟨rfl,b⟩;have H:w.heap.size+1<=a.heap.size:=by have:=b.size;simp at this;omega
   have A:a.heap[w.heap.size]?=some (.cells #[.int .u8 v.kind,.int .i64 v.n,.string v.t,.slice l v.names.length o,.slice k v.items.length m] 26 (0,0)):=(by rw [b.block _ (by simp)];exact B.o);have d:=U (g.o.trans (b.mono (by simp)));have f:=O0 (O5 a (((a.alloc (.cells #[.pointer none,.slice none 0 0] 191)).alloc (.cells #[.func (.func 161) #[] #[.pointer (some ⟨a.heap.size,0,none⟩)]] 224)).alloc (.cells #[.func (.func 163) #[] #[.pointer (some ⟨a.heap.size,0,none⟩),.pointer (some ⟨a.heap.size+1,0,none⟩),.pointer (some ⟨a.heap.size+1+1,0,none⟩)]] 225))) (((O4).alloc (by simp) _).alloc (by simp;omega) _);have c:(((a.alloc (.cells #[.pointer none,.slice none 0 0] 191)).alloc (.cells #[.func (.func 161) #[] #[.pointer (some ⟨a.heap.size,0,none⟩)]] 224)).alloc (.cells #[.func (.func 163) #[] #[.pointer (some ⟨a.heap.size,0,none⟩),.pointer (some ⟨a.heap.size+1,0,none⟩),.pointer (some ⟨a.heap.size+1+1,0,none⟩)]] 225)).heap[w.heap.size]?=some (.cells #[.int .u8 v.kind,.int .i64 v.n,.string v.t,.slice l v.names.length o,.slice k v.items.length m] 26 (0,0)):=by rw [f.o.block _ (by omega)];exact A
   have L:(((a.alloc (.cells #[.pointer none,.slice none 0 0] 191)).alloc (.cells #[.func (.func 161) #[] #[.pointer (some ⟨a.heap.size,0,none⟩)]] 224)).alloc (.cells #[.func (.func 163) #[] #[.pointer (some ⟨a.heap.size,0,none⟩),.pointer (some ⟨a.heap.size+1,0,none⟩),.pointer (some ⟨a.heap.size+1+1,0,none⟩)]] 225)).cell? ⟨w.heap.size,0,none⟩=some (.int .u8 v.kind):=qq c rfl;have M:(((a.alloc (.cells #[.pointer none,.slice none 0 0] 191)).alloc (.cells #[.func (.func 161) #[] #[.pointer (some ⟨a.heap.size,0,none⟩)]] 224)).alloc (.cells #[.func (.func 163) #[] #[.pointer (some ⟨a.heap.size,0,none⟩),.pointer (some ⟨a.heap.size+1,0,none⟩),.pointer (some ⟨a.heap.size+1+1,0,none⟩)]] 225)).cell? ⟨w.heap.size,1,none⟩=some (.int .i64 v.n):=qq c rfl;have N:(((a.alloc (.cells #[.pointer none,.slice none 0 0] 191)).alloc (.cells #[.func (.func 161) #[] #[.pointer (some ⟨a.heap.size,0,none⟩)]] 224)).alloc (.cells #[.func (.func 163) #[] #[.pointer (some ⟨a.heap.size,0,none⟩),.pointer (some ⟨a.heap.size+1,0,none⟩),.pointer (some ⟨a.heap.size+1+1,0,none⟩)]] 225)).cell? ⟨w.heap.size,2,none⟩=some (.string v.t):=qq c rfl;have P:(((a.alloc (.cells #[.pointer none,.slice none 0 0] 191)).alloc (.cells #[.func (.func 161) #[] #[.pointer (some ⟨a.heap.size,0,none⟩)]] 224)).alloc (.cells #[.func (.func 163) #[] #[.pointer (some ⟨a.heap.size,0,none⟩),.pointer (some ⟨a.heap.size+1,0,none⟩),.pointer (some ⟨a.heap.size+1+1,0,none⟩)]] 225)).cell? ⟨w.heap.size,3,none⟩=some (.slice l v.names.length o):=qq c rfl;have Q:(((a.alloc (.cells #[.pointer none,.slice none 0 0] 191)).alloc (.cells #[.func (.func 161) #[] #[.pointer (some ⟨a.heap.size,0,none⟩)]] 224)).alloc (.cells #[.func (.func 163) #[] #[.pointer (some ⟨a.heap.size,0,none⟩),.pointer (some ⟨a.heap.size+1,0,none⟩),.pointer (some ⟨a.heap.size+1+1,0,none⟩)]] 225)).cell? ⟨w.heap.size,4,none⟩=some (.slice k v.items.length m):=qq c rfl;have r:=U (show EncEnv a.heap.size a.heap.size (a.heap.size+1) (a.heap.size+1+1) (((a.alloc (.cells #[.pointer none,.slice none 0 0] 191)).alloc (.cells #[.func (.func 161) #[] #[.pointer (some ⟨a.heap.size,0,none⟩)]] 224)).alloc (.cells #[.func (.func 163) #[] #[.pointer (some ⟨a.heap.size,0,none⟩),.pointer (some ⟨a.heap.size+1,0,none⟩),.pointer (some ⟨a.heap.size+1+1,0,none⟩)]] 225)) from
    ⟨by
     have e:((a.alloc (.cells #[.pointer none,.slice none 0 0] 191)).heap.size)=a.heap.size+1:=by simp
     rw [X6 _ _ _ (by simp),<- e];exact Z5 _ _,by
     have e:(((a.alloc (.cells #[.pointer none,.slice none 0 0] 191)).alloc (.cells #[.func (.func 161) #[] #[.pointer (some ⟨a.heap.size,0,none⟩)]] 224)).heap.size)=a.heap.size+1+1:=by simp
     have:=Z5 ((a.alloc (.cells #[.pointer none,.slice none 0 0] 191)).alloc (.cells #[.func (.func 161) #[] #[.pointer (some ⟨a.heap.size,0,none⟩)]] 224)) (.cells #[.func (.func 163) #[] #[.pointer (some ⟨a.heap.size,0,none⟩),.pointer (some ⟨a.heap.size+1,0,none⟩),.pointer (some ⟨a.heap.size+1+1,0,none⟩)]] 225);rw [e] at this;exact this,⟨by omega,by omega⟩,by simp;omega⟩)
   have p:=O0 (yU a.heap.size a.heap.size [] (((a.alloc (.cells #[.pointer none,.slice none 0 0] 191)).alloc (.cells #[.func (.func 161) #[] #[.pointer (some ⟨a.heap.size,0,none⟩)]] 224)).alloc (.cells #[.func (.func 163) #[] #[.pointer (some ⟨a.heap.size,0,none⟩),.pointer (some ⟨a.heap.size+1,0,none⟩),.pointer (some ⟨a.heap.size+1+1,0,none⟩)]] 225))) (zE (zE (Lib.IsBuilderF.of (Lib.fresh_isBuilder _ _ a)) O4) O4);have q:=U (rV nm _ a.heap.size a.heap.size (a.heap.size+1) (a.heap.size+1+1) [] v _ (((a.alloc (.cells #[.pointer none,.slice none 0 0] 191)).alloc (.cells #[.func (.func 161) #[] #[.pointer (some ⟨a.heap.size,0,none⟩)]] 224)).alloc (.cells #[.func (.func 163) #[] #[.pointer (some ⟨a.heap.size,0,none⟩),.pointer (some ⟨a.heap.size+1,0,none⟩),.pointer (some ⟨a.heap.size+1+1,0,none⟩)]] 225)) lz ⟨I.o i.o,J.o.below (d.o.trans (f.o.mono (by omega))) lz lz (by omega),p.o,r.o,by simp;omega,fun h n w' hn hb=>K.o h n w' hn ((d.o.trans (f.o.mono (by omega))).trans (hb.mono (by omega)))⟩);have W:w.heap.size<a.heap.size:=H;clear b A c r p;go_wp2_with fail;refine q.o.mono ?_;clear q L M N P Q;rintro e Y ⟨rfl,j,u,G⟩;rw [List.nil_append] at j;have z:v.enc≠[]:=by
    rw [v.enc_eq];have hf:=(JV.form_eq (I.o i.o)).1;rcases hf with e|⟨e,_⟩|⟨e,_⟩|e|⟨e,_⟩ <;> rw [e]
    . by_cases h:v.n=1 <;> simp [h]
    . exact o4 v.n
    . simp [xZ]
    . simp
    . simp
   have D:=U j;have E:=U (d.o.trans ((f.o.trans u).mono (by omega)));have C:=U z;clear j u G z;go_wp2_with fail;refine (yt a.heap.size a.heap.size v.enc _ (.inr D.o) C.o).mono ?_;rintro e Z ⟨rfl,y,-⟩;have F:=U (E.o.trans (y.mono (by omega)));clear y;go_wp2;go_ret2;exact ⟨by rw [i.o];rfl,F.o⟩
