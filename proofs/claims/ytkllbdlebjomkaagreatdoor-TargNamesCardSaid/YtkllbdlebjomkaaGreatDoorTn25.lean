import Derived.Test.YtkllbdlebjomkaaGreatDoorTn16
set_option maxHeartbeats 400000
set_option maxRecDepth 100000

namespace Go.Proofs.YtkllbdlebjomkaaGreatDoor
open Go.RowKit
theorem yV {b:Nat} {w w':World} (h:O5 w w'):Kept b w w':=fun k o hk _ _=>by have hlt:k<w.heap.size:=(M6.1 hk).1;rw [h.block k hlt];exact hk
theorem zE {B b:Nat} {j:List Value} {w w':World} (h:yU B b j w) (i:O5 w w'):yU B b j w':=by
 have g:∀p,Lib.BuilderAtF 191 5 B b p j w->Lib.BuilderAtF 191 5 B b p j w':=fun p hp=>by have d:=hp.lt;obtain ⟨f,v,c,a,e⟩:=hp;exact ⟨f,v,by rw [i.block b d];exact c,a.kept (row:=none) ⟨i.os,i.tape,i.output,i.size,fun k hk _=>i.block k hk⟩ (by cases v.ownBlock <;> simp),e⟩
 rcases h with h|h
 . exact .inl (g _ h)
 . exact .inr (g _ h)
theorem nU (B b:Nat) (x:List Value) (s:ByteArray) (w:World) (h:yU B b x w) (hs:qX s=true) (z:x.length<=140737488300000) (y:B<=w.heap.size) :
 Calls Tryz.prog 161 #[.string s,.pointer (some ⟨b,0,none⟩)] w fun e w'=>e=.returned (.tuple #[])/\mQ B b (x ++ Lib.byteCells (xZ s.data.toList)) w'/\Below B w w'/\Kept b w w':=by
 have d:s.size<=4096/\gx s=true:=by unfold qX at hs;simpa using hs
 clear hs;have r:=jX s;obtain ⟨d,i⟩:=d;have o:=U i;have p:=U h;clear i h;go_enter Tryz.func161,Tryz.ntmps161;go_wp2_with fail;refine (rj s _ d o.o).mono ?_;rintro e q ⟨rfl,c⟩;have a:=U c;have u:=c.size;clear c;go_wp2_with fail;refine (kA B b x _ q (zE p.o a.o) (by simp [ByteArray.size];omega) (by omega)).mono ?_;rintro e v ⟨rfl,j,f,g⟩;have m:=U j;have k:=U ((a.o.mono y).trans f);have l:=U ((yV (b:=b) a.o).trans g);clear j f g;go_wp2
 go_end0
 exact ⟨rfl,m.o,k.o,l.o⟩
structure EncEnv (B b tb fb:Nat) (w:World):Prop where
 ht:w.heap[tb]?=some (.cells #[.func (.func 161) #[] #[.pointer (some ⟨b,0,none⟩)]] 224 (0,0))
 hf:w.heap[fb]?=some (.cells #[.func (.func 163) #[] #[.pointer (some ⟨b,0,none⟩),.pointer (some ⟨tb,0,none⟩),.pointer (some ⟨fb,0,none⟩)]] 225 (0,0))
 ne:tb≠b/\fb≠b
 le:B<=w.heap.size
theorem EncEnv.kept {B b f a:Nat} {w w':World} (h:EncEnv B b f a w) (d:Kept b w w') (g:w.heap.size<=w'.heap.size):EncEnv B b f a w' where
 ht:=d _ _ h.ht (fun e=>h.ne.1 (X2 e)) (fun c fz e=>by cases e)
 hf:=d _ _ h.hf (fun e=>h.ne.2 (X2 e)) (fun c fz e=>by cases e)
 ne:=h.ne
 le:=Z3 h.le g
def yf (B b:Nat) (bs:List Value) (v:JV) (w:World) (e:Ending) (w':World):Prop:=e=.returned (.tuple #[])/\mQ B b (bs ++ Lib.byteCells v.enc) w'/\Below B w w'/\Kept b w w'
def mE (B:Nat) (w:World):Prop:=∀(n:Int) (w':World),nV n->Below B w w'->Calls Tryz.prog 164 #[.int .i64 n] w' fun e w''=>e=.returned (.string ⟨(Lib.itoa n).toArray⟩)/\O5 w' w''
def pQ (nm:Bool) (B b tb fb:Nat) (bs:List Value) (v:JV) (x:Value) (w:World):Prop :=
 v.form nm/\Rep w 0 B v x/\yU B b bs w/\EncEnv B b tb fb w/\bs.length+30 * v.wt<=140737488300000/\(nm=true->mE B w)
def ig (nm:Bool) (N:Nat):Prop:=∀(B b tb fb:Nat) (bs:List Value) (v:JV) (x:Value) (w:World),v.wt<=N->pQ nm B b tb fb bs v x w ->
 Calls Tryz.prog 163 #[x,.pointer (some ⟨b,0,none⟩),.pointer (some ⟨tb,0,none⟩),.pointer (some ⟨fb,0,none⟩)] w (yf B b bs v w)
theorem fB {B:Nat} {w w':World} (h:mE B w) (a:Below B w w'):mE B w':=fun n w'' hn hb'=>h n w'' hn (a.trans hb')
theorem fP (nm:Bool) (B b tb fb:Nat) (bs:List Value) (v:JV) (x:Value) (w:World) (hA:pQ nm B b tb fb bs v x w) (hk:v.kind=1\/v.kind=2\/v.kind=3) :
 Calls Tryz.prog 163 #[x,.pointer (some ⟨b,0,none⟩),.pointer (some ⟨tb,0,none⟩),.pointer (some ⟨fb,0,none⟩)] w (yf B b bs v w):=by
 obtain ⟨M,K,J,E,hl,L⟩:=hA;obtain ⟨y,A,u,z,rfl,R,S,T,V⟩:=K.parts;obtain ⟨b1,b2,b3,b4⟩:=v.wt_bd;have N:=v.wt_pos;have F:=E.le;have h:=U v.enc_eq;have I:=U M;have P:=U E;have Q:=U L;clear T V K M E L R S;have o:=U (zE J ((Z0 w.heap.size w).alloc lz (.cells #[.int .u8 v.kind,.int .i64 v.n,.string v.t,.slice y v.names.length A,.slice u v.items.length z] 26)));have f:=O0 (Below B w (w.alloc (.cells #[.int .u8 v.kind,.int .i64 v.n,.string v.t,.slice y v.names.length A,.slice u v.items.length z] 26))) ((Z0 _ _).alloc F _);have g:=O0 (Kept b w (w.alloc (.cells #[.int .u8 v.kind,.int .i64 v.n,.string v.t,.slice y v.names.length A,.slice u v.items.length z] 26))) ((M9 _ _ w).alloc _);have l:=U (P.o.kept g.o (by simp));clear J;rcases hk with hk|hk|hk
 . rw [hk] at h o f g l ⊢;by_cases hn:v.n=1
   . rw [hn] at h o f g l ⊢;clear hk hn;go_enter Tryz.func163,Tryz.ntmps163;go_wp2_with fail;refine (kA B b bs _ _ o.o (by simp [ByteArray.size];omega) (by simp;omega)).mono ?_;rintro e H ⟨rfl,d,a,c⟩;have k:=U d;have i:=U (f.o.trans a);have j:=U (g.o.trans c);clear d a c;go_wp2
     go_end0
     exact ⟨rfl,by rw [h.o];exact k.o,i.o,j.o⟩
   . have X:(v.n == 1)=false:=by simpa using hn
     have C:=U hn;clear hk hn;go_enter Tryz.func163,Tryz.ntmps163;go_wp2_with fail;refine (kA B b bs _ _ o.o (by simp [ByteArray.size];omega) (by simp;omega)).mono ?_;rintro e H ⟨rfl,d,a,c⟩;have k:=U d;have i:=U (f.o.trans a);have j:=U (g.o.trans c);clear d a c;go_wp2
     go_end0
     exact ⟨rfl,by rw [h.o,J3 trivial,Z6 C.o];exact k.o,i.o,j.o⟩
 . obtain ⟨G,m⟩:nm=true/\nV v.n:=by
    rcases (JV.form_eq I.o).1 with e|⟨_,e⟩|⟨e,_⟩|e|⟨e,_⟩ <;> first|(exact e)|omega
   have q:=U (Q.o G v.n _ m f.o);have W:=Lib.itoa_length_le v.n m.1 m.2;rw [hk] at h o f g l q ⊢;clear hk m;go_enter Tryz.func163,Tryz.ntmps163;go_wp2_with fail;refine q.o.mono ?_;clear q;rintro e Z ⟨rfl,r⟩;have hz:w.heap.size+1<=Z.heap.size:=by have:=r.size;simp at this;omega
   have p:=U r;clear r;go_wp2_with fail;refine (kA B b bs _ _ (zE o.o p.o) (by simp [ByteArray.size];omega) (by omega)).mono ?_;rintro e H ⟨rfl,d,a,c⟩;have k:=U d;have i:=U (f.o.trans ((p.o.mono (by simp;omega)).trans a));have j:=U (g.o.trans ((yV p.o).trans c));clear d a c;go_wp2
   go_end0
   exact ⟨rfl,by rw [h.o];exact k.o,i.o,j.o⟩
 . have s:qX v.t=true:=by
    rcases (JV.form_eq I.o).1 with e|⟨e,_⟩|⟨_,e⟩|e|⟨e,_⟩ <;> first|(exact e)|omega
   have D:=U s;rw [hk] at h o f g l ⊢;have Y:(w.alloc (.cells #[.int .u8 3,.int .i64 v.n,.string v.t,.slice y v.names.length A,.slice u v.items.length z] 26)).cell? ⟨tb,0,none⟩=some (.func (.func 161) #[] #[.pointer (some ⟨b,0,none⟩)]):=by simp [World.cell?,l.o.ht]
   clear hk s;go_enter Tryz.func163,Tryz.ntmps163;go_wp2_with fail;refine (nU B b bs _ _ o.o D.o (by omega) (by simp;omega)).mono ?_;rintro e H ⟨rfl,d,a,c⟩;have k:=U d;have i:=U (f.o.trans a);have j:=U (g.o.trans c);clear d a c Y;go_wp2
   go_end0
   exact ⟨rfl,by rw [h.o];exact k.o,i.o,j.o⟩
theorem kM {b:Nat} {w w':World} {p:Nat} {cs:Array Value} (d:Kept b w w') (f:w.heap[p]?=some (.cells cs 26 (0,0))) (a:p≠b):w'.heap[p]?=some (.cells cs 26 (0,0)) :=
 d _ _ f (fun e=>a (X2 e)) (fun c fz e=>by cases e)
theorem ip (nm:Bool) (N:Nat) (ih:ig nm N) (B b tb fb:Nat) (bs:List Value) (v:JV) (x:Value) (w:World) (hN:v.wt<=N+1) (hA:pQ nm B b tb fb bs v x w) (hk:v.kind=4) :
 Calls Tryz.prog 163 #[x,.pointer (some ⟨b,0,none⟩),.pointer (some ⟨tb,0,none⟩),.pointer (some ⟨fb,0,none⟩)] w (yf B b bs v w):=by
 obtain ⟨hf,hR,hB,hE,hl,hS⟩:=hA;have d4:b<w.heap.size:=by
  rcases hB with h|h
  . exact h.lt
  . exact h.lt
 obtain ⟨an,cn,X,Y,rfl,h1,h2,h3,h4⟩:=hR.parts;obtain ⟨b1,b2,b3,b4⟩:=v.wt_bd;have d2:=v.wt_pos;have d1:=hE.le;have M:=(JV.form_eq hf).2;obtain ⟨s,Q⟩:=O1 v.items.length;obtain ⟨R,a4⟩:=O1 v.names.length;rw [<- Q,<- a4];have b5:=U (show v.enc=91 :: (JV.encI true v.items ++ [93]) by rw [v.enc_eq,hk];rfl);have H4:=U h4;have V:=U M;have HE:=U hE;have HS:=U hS;have W:=U Q;have IH:=U ih;have b0:=U (JV.encI_length v.items true (JV.forms_true _ M));have d7:s<=4611686018427387904:=by omega
 clear h3 h4 hR hf hE hS h1 h2 ih M Q a4;have HB:=U (zE hB ((Z0 w.heap.size w).alloc lz (.cells #[.int .u8 v.kind,.int .i64 v.n,.string v.t,.slice an R cn,.slice X s Y] 26)));have H:=O0 (Below B w (w.alloc (.cells #[.int .u8 v.kind,.int .i64 v.n,.string v.t,.slice an R cn,.slice X s Y] 26))) ((Z0 _ _).alloc d1 _);have I:=O0 (Kept b w (w.alloc (.cells #[.int .u8 v.kind,.int .i64 v.n,.string v.t,.slice an R cn,.slice X s Y] 26))) ((M9 _ _ w).alloc _);have q:=U (Z5 w (.cells #[.int .u8 v.kind,.int .i64 v.n,.string v.t,.slice an R cn,.slice X s Y] 26));clear hB;rw [hk] at HB H I q ⊢;clear hk;go_enter Tryz.func163,Tryz.ntmps163;go_wp2_with fail;refine (zW B b bs _ _ HB.o (by omega) (by simp;omega)).mono ?_;rintro e w1 ⟨rfl,a5,Z,P⟩;have c5:=U a5;have a7:=U (H.o.trans Z);have b6:=U (I.o.trans P);have c9:=U (kM P q.o (by omega));clear a5 Z P HB H I q;have c4:=qq c9.o (j:=4) rfl;go_wp2;clear c4;go_loopw [5,6,36] (fun _ _ i wr=>∃k:Nat,k<=s/\i=.int .i64 k/\mQ B b (bs ++ Lib.byteCells (91 :: JV.encI true (v.items.take k))) wr/\Below B w wr/\Kept b w wr) (fun _ _ i _=>s - (intOf i).toNat)
 case atStart=>exact ⟨0,J0 _,rfl,c5.o,a7.o,b6.o⟩
 case round =>
  obtain ⟨k,hk,rfl,a1,L,a3⟩:=hrel;have hz:=L.size;have u:=U a1;have p:=U L;have z:=U a3;clear a1 L a3;have d6:=JV.encI_length (v.items.take k) true (JV.forms_take _ _ (JV.forms_true _ V.o));have e1:=JV.wts_take v.items k;by_cases hlt:k<s
  . have j:k<v.items.length:=by rw [<- W.o];exact hlt
    obtain ⟨b',e2,c,f,a,d,rfl,_,d0,y0,y1,y2,y3,y4,E⟩:=H4.o.get k j;rw [<- p.o.cell d0] at y0 y1 y2 y3 y4;have e0:=JV.wts_snoc v.items k j;have J:=U (JV.encI_take v.items k j);have T:=U (JV.forms_get v.items k j V.o);generalize v.items[k]=it at *;have D:=U (show ∀(w':World) (bs':List Value),yU B b bs' w'->Below B w w'->Kept b w w'->bs'.length+30 * it.wt<=140737488300000->Calls Tryz.prog 163 #[.agg #[.int .u8 it.kind,.int .i64 it.n,.string it.t,.slice c it.names.length f,.slice a it.items.length d],.pointer (some ⟨b,0,none⟩),.pointer (some ⟨tb,0,none⟩),.pointer (some ⟨fb,0,none⟩)] w' (yf B b bs' it w') from
     fun w' bs' k1 k2 k3 k4=>IH.o B b tb fb bs' it _ w' (by omega) ⟨T.o,E.below k2 lz lz lz,k1,HE.o.kept k3 k2.size,k4,fun h=>fB (HS.o h) k2⟩)
    have S:=U (HE.o.kept z.o p.o.size);have q1:(wr.alloc (.cells #[.int .u8 it.kind,.int .i64 it.n,.string it.t,.slice c it.names.length f,.slice a it.items.length d] 26)).cell? ⟨fb,0,none⟩=some (.func (.func 163) #[] #[.pointer (some ⟨b,0,none⟩),.pointer (some ⟨tb,0,none⟩),.pointer (some ⟨fb,0,none⟩)]):=(ql _ (qz S.o.hf)).trans (qq S.o.hf rfl);have q:=U (Z5 wr (.cells #[.int .u8 it.kind,.int .i64 it.n,.string it.t,.slice c it.names.length f,.slice a it.items.length d] 26));have G:=U (zE (.inr u.o) ((Z0 wr.heap.size wr).alloc lz (.cells #[.int .u8 it.kind,.int .i64 it.n,.string it.t,.slice c it.names.length f,.slice a it.items.length d] 26)));have A:=O0 (Below B w (wr.alloc (.cells #[.int .u8 it.kind,.int .i64 it.n,.string it.t,.slice c it.names.length f,.slice a it.items.length d] 26))) (p.o.alloc (by omega) _);have y:=O0 (Kept b w (wr.alloc (.cells #[.int .u8 it.kind,.int .i64 it.n,.string it.t,.slice c it.names.length f,.slice a it.items.length d] 26))) (z.o.alloc _);clear E u p z T;rcases za6 k with hk0|hk0
    case' inl =>
     have hd:decide (0<k)=false:=by simp;omega
     have d5:¬0<k:=by omega
     rw [X3 hk0,show sep true=[] from rfl,List.nil_append] at J;clear hk0;have K:=G;have C:=A;have l:=y;go_wp2_with fail
    case' inr => rw [X0 (by omega),show sep false=[44] from rfl] at J;go_wp2_with fail;refine (zW B b _ _ _ G.o (by simp [Lib.byteCells];omega) (by simp;omega)).mono ?_;rintro e F ⟨rfl,r,m,g⟩;have o:=kM g q.o (by omega);have c0:=qq o (j:=0) rfl;have c1:=qq o (j:=1) rfl;have c2:=qq o (j:=2) rfl;have c3:=qq o (j:=3) rfl;have c4:=qq o (j:=4) rfl;have q3:F.cell? ⟨fb,0,none⟩=some (.func (.func 163) #[] #[.pointer (some ⟨b,0,none⟩),.pointer (some ⟨tb,0,none⟩),.pointer (some ⟨fb,0,none⟩)]):=qq (HE.o.kept (y.o.trans g) (A.o.trans m).size).hf rfl;have K:=O0 (yU B b _ F) (.inr r);have C:=U (A.o.trans m);have l:=U (y.o.trans g);clear r m g o G A y;go_wp2_with fail
    all_goals
     refine (D.o _ _ K.o C.o l.o (by simp [Lib.byteCells];omega)).mono ?_;rintro e w5 ⟨rfl,a6,a0,a2⟩;have c7:=U a6;have a9:=U (C.o.trans a0);have b7:=U (l.o.trans a2);clear a6 a0 a2 D K C l q1 y0 y1 y2 y3 y4;go_wp2;go_roundw
     case rel=>exact ⟨k+1,by omega,by go_num,by rw [J.o];simpa [Lib.byteCells] using c7.o,a9.o,b7.o⟩
     case measure=>simp [intOf];omega
  . have HF:=O0 (v.items.take k=v.items) (J4 (by rw [<- W.o];omega));rw [HF.o] at u;have d3:=b0.o;go_wp2_with fail;refine (zW B b _ _ _ (.inr u.o) (by simp [Lib.byteCells];omega) (by omega)).mono ?_;rintro e F ⟨rfl,r,m,g⟩;have c6:=U r;have a8:=U (p.o.trans m);have l:=U (z.o.trans g);clear r m g;go_wp2
    go_end0
    exact ⟨rfl,by rw [b5.o];simpa [Lib.byteCells] using c6.o,a8.o,l.o⟩
