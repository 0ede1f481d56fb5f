import Derived.Test.YtkllbdlebjomkaaGreatDoorTn35
import Derived.Test.YtkllbdlebjomkaaGreatDoorTn29
set_option maxHeartbeats 4000000
set_option maxRecDepth 100000

namespace Go.Proofs.YtkllbdlebjomkaaGreatDoor
open Go.RowKit Go.Shelf Go.Sort
theorem QK (g cap:Nat) (d q:Array Mem) (w:World) (r:HoldsK qY 6 w g 0 d) (s:g<w.heap.size) (v:d.size<=4294967296) (hp:q.toList.Perm d.toList) (u:cp q) :
 Calls Tryz.prog 90 #[.slice (some ⟨g,0,none⟩) d.size cap,.func (.func 91) #[] #[]] w fun e w'=>e=.returned (.tuple #[])/\HoldsK qY 6 w' g 0 q/\Touch (· = g) w w':=by
 have k:∀args w,(callFunc 91 args).run Tryz.prog w=.ok (.enter 91 args) w:=enters_of Tryz.func91 (by kernel_rfl) rfl;have b:=AnyQ.slices_SortFunc pT 6 Tryz.isAgg102 Tryz.sizeOf102 qY zL xh cfM Zh 91 #[] g 0 cap d w k (fun _ _ _ _ x y=>ue x y _) r s (by omega);refine b.mono ?_;rintro e w' ⟨rfl,c,n,p,a,m,rfl⟩;have o:q.size=d.size:=by simpa using hp.length_eq
 have l:c=q:=cf u (by
  have:=a.2.2;have f:c.extract 0 d.size=c:=by rw [<- a.1];simp
  have h:d.extract 0 d.size=d:=by simp
  rw [f,h] at this;exact this.trans hp.symm) (fun i j hij hj=>by
  have:=m i j (J0 _) hij (by omega);rwa [wS] at this)
 subst l;exact ⟨rfl,holdsK_grow qY 6 _ _ _ _ _ (by simp [putRowK,Go.Sort.ahead];exact s) (holdsK_putRowK qY 6 _ _ _ _ _ (holdsK_ahead qY 6 _ _ _ _ _ r) a.1),jL⟩
theorem uw (d c:Array Mem) (a:List JV) (b f cap:Nat) (w:World) (lo hi:Nat) (p:HoldsK qY 6 w b f d) (j:b<w.heap.size) (m:d.size<=4294967296) (hp:c.toList.Perm d.toList) (o:cp c)
 (q:c.size=a.length) (r:∀i (h:i<a.length),Rep w lo hi a[i] c[i]!.val/\a[i].wt<=4294967296/\∀k (s:k<a[i].items.length),cV lo a[i].items[k])
 (l:hi<=w.heap.size) :
 Calls Tryz.prog 48 #[.slice (some ⟨b,f,none⟩) d.size cap] w (gy (c.toList.map (·.name)) a w) :=
 ye d c a b f cap w lo hi p j m (by simpa using hp.length_eq) (fun g cap1 w1 hH1 hg1=>QK g cap1 d c w1 hH1 hg1 m hp o) q r (fun i h e=>by
  have:=o i (i+1) h (by omega);rw [getElem!_pos c i (by omega),getElem!_pos c (i+1) h] at e;rw [e,zY] at this;cases this) l
def fL (W0:Nat) (w:World) (v:Value) (N:List NJ):Prop :=
 ∃ms,MemsAt W0 w v ms (N.map (·.2))/\ms.map (·.name)=N.map (·.1)
theorem fL.len {c:Nat} {w:World} {v:Value} {N:List NJ} (h:fL c w v N):∃ms,MemsAt c w v ms (N.map (·.2))/\ms.map (·.name)=N.map (·.1)/\ms.length=N.length:=by obtain ⟨ms,b,a⟩:=h;exact ⟨ms,b,a,by have:=J6 List.length a;simpa using this⟩
theorem aK {α β:Type} (f:α->β):∀ {M L:List β},M.Perm L->∀Z:List α,Z.map f=L->∃Z':List α,Z'.Perm Z/\Z'.map f=M:=by
 intro M L h
 induction h with
 | nil=>intro Z hZ;exact ⟨Z,.refl _,by simpa using hZ⟩
 | @cons x l1 l2 h ih =>
  intro Z hZ;cases Z with
  | nil=>simp at hZ
  | cons z zs => simp only [K8,K0] at hZ;obtain ⟨Z',e,g⟩:=ih zs hZ.2;exact ⟨z :: Z',e.cons z,by simp [g,hZ.1]⟩
 | @swap x y l =>
  intro Z hZ;cases Z with
  | nil=>simp at hZ
  | cons z zs =>
   cases zs with
   | nil=>simp at hZ
   | cons z2 zs => simp only [K8,K0] at hZ;exact ⟨z2 :: z :: zs,.swap _ _ _,by simp [hZ]⟩
 | @trans l1 l2 l3 e g ih1 ih2 => intro Z hZ;obtain ⟨j,a,b⟩:=ih2 Z hZ;obtain ⟨i,c,d⟩:=ih1 j b;exact ⟨i,c.trans a,d⟩
theorem aV {ms:List Mem} {ns:List ByteArray} (h:qd ns=true) (c:ms.map (·.name)=ns):cp ms.toArray:=by
 subst c;intro i j hj hij;have a:j<ms.length:=by simpa using hj
 have b:=gS _ h i j (by simp;omega) (by simp;omega) hij;simp only [List.getElem_toArray];unfold bl;simpa using b
theorem wj {P:Nat} {w:World} {v:Value} {N:List NJ} (M:List NJ) (S:fL P w v N) (Q:∃g cap,v=.slice (some ⟨g,0,none⟩) N.length cap) (T:M.Perm N) (L:qd (M.map (·.1))=true) (W:N.length<=4294967296) (V:∀p ∈ M,p.2.wt<=4294967296) (R:0<P) :
 Calls Tryz.prog 48 #[v] w (gy (M.map (·.1)) (M.map (·.2)) w):=by
 obtain ⟨d,o,J,a⟩:=S.len;obtain ⟨g,cap,rfl⟩:=Q;have B:(N.zip d).length=N.length:=by simp [a]
 obtain ⟨Z,f,e⟩:=aK (fun z:NJ × Mem=>z.1) T (N.zip d) (by rw [List.map_fst_zip];omega);have m:∀z ∈ Z,z.2.name=z.1.1/\Rep w P w.heap.size z.1.2 z.2.val:=fun z hz=>by
  obtain ⟨i,hi,rfl⟩:=Y0 (f.mem_iff.1 hz);have c:i<N.length:=by omega
  rw [List.getElem_zip];have C:=List.getElem_of_eq J (i:=i) (by simp;omega);simp only [zb8] at C;obtain ⟨K,H,F,G,_,L⟩:=o.reps i (by simp;omega);simp only [zb8] at L;exact ⟨C,Rep.carry F G (fun _ _ _=>rfl) _ _ L⟩
 have I:Z.length=N.length:=by rw [f.length_eq,B]
 have y:M.length=Z.length:=by rw [<- e,X7]
 have b:=o.own;rw [<- a] at b;have u:g<w.heap.size/\HoldsK qY 6 w g 0 d.toArray:=by
  rcases za6 d.length with h|h
  . rcases b.2 with ⟨s,_⟩|⟨E,l,cur,s,Q,hh,hc,hm,hs,ht⟩
    . cases s
    . cases s;refine ⟨qz hh,fun j hj=>?_⟩;simp [h] at hj
  . obtain ⟨E,l,s,A,u⟩:=sZ b h;cases s;exact ⟨A,u⟩
 have r:(Z.map (·.2)).map (·.name)=M.map (·.1):=(by rw [List.map_map,<- e,List.map_map];exact List.map_congr_left fun z hz=>(m z hz).1);have q:((N.zip d).map (·.2))=d:=by rw [List.map_snd_zip];omega
 have:=uw d.toArray (Z.map (·.2)).toArray (M.map (·.2)) g 0 cap w P w.heap.size u.2 u.1 (by simp;omega) (by
  have:=f.map (·.2);rw [q] at this;simpa using this) (aV L r) (by simp [y]) (fun i hi=>?_) lz
 . rw [show ((Z.map (·.2)).toArray.toList.map (·.name))=M.map (·.1) from r] at this;rw [show d.toArray.size=N.length by simp [a]] at this;exact this
 . have c:i<Z.length:=by have:=hi;simp at this;omega
   have x:i<M.length:=by omega
   have D:M[i]=Z[i].1:=(by have:=List.getElem_of_eq e (i:=i) (by simpa using c);simpa using this.symm);obtain ⟨_,L⟩:=m Z[i] (J8 c);refine ⟨?_,?_,fun k _=>.inl R⟩
   . rw [getElem!_pos _ i (by simpa using c)];simp only [List.getElem_toArray,zb8];rw [D];exact L
   . rw [zb8];exact V _ (J8 x)
theorem ey (t:ByteArray) (h:t.size<=4294967000):(txtJ t).wt<=4294967296:=by simp [txtJ,JV.wt,JV.wts,qh];omega
theorem pl (l:List Key2) (a:Option Addr) (c:Nat) (w:World) (hK:qJ w 0 w.heap.size a l) (hm:qP l=true) :
 Calls Tryz.prog 46 #[.slice a l.length c] w (jW (jb l) w):=by
 obtain ⟨hl,b5,b7⟩:=wg hm;obtain ⟨o,D⟩:=O1 (w.alloc (.cells #[.int .u8 0,.int .i64 0,.string ⟨#[]⟩,.slice none 0 0,.slice none 0 0] 26));have c3:o.heap.size=w.heap.size+1:=by rw [D];simp
 have B:=O7 D
 have b6:o.rowIs w.heap.size 26 5 (qo (.int .u8 0) (.int .i64 0) (.string ⟨#[]⟩) (.slice none 0 0) (.slice none 0 0)):=(by rw [D];exact qg w (.int .u8 0) (.int .i64 0) (.string ⟨#[]⟩) (.slice none 0 0) (.slice none 0 0) 26);have c6:=U (hK.below B lz lz B.size);have d3:=U b6;have c4:=U B;have HW:=U D;have d2:=U b5;have d5:=U b7;have T:=U c3;have e5:0<o.heap.size:=by omega
 clear D B b6 hm hK b5 b7 c3;go_enter Tryz.func46,Tryz.ntmps46;go_upto_region 1 with fail
 rw [<- HW.o];obtain ⟨i1,a9,c0,c1,c2⟩:=V2 jm;have W:o.heap.size<=o.heap.size:=J2 _;go_upto_region 3 with (at_make;refine wpList_make_own _ rfl (.const (.int .i64 0)) (.tmp 9) 104 rfl o.heap.size 102 i1 _ 6 G1 a9 c0 c1 .i64 .i64 _ l.length rfl rfl rfl (by rw [c2];omega) (by unfold maxLen;omega) W ?_;intro w4 hown4 hgrow4;have a6:=U hown4;have H:=U (below_grown (v:=.slice none 0 0) (Z0 o.heap.size o) W hgrow4 (fun b J=>by cases J));clear hown4 hgrow4)
 go_loopw [3,5,13] (fun s3 _ i wr=>∃k:Nat,k<=l.length/\i=.int .i64 k/\(∃g cap,s3=.slice (some ⟨g,0,none⟩) k cap)/\fL o.heap.size wr s3 (vK (l.take k))/\O5 o wr) (fun _ _ i _=>l.length - (intOf i).toNat)
 case atStart=>exact ⟨0,by omega,rfl,⟨_,_,rfl⟩,⟨[],⟨by simpa [zg] using a6.o,rfl,fun i h=>by simp [vK] at h⟩,rfl⟩,H.o⟩
 case round =>
  obtain ⟨k,hk,rfl,e6,X,J⟩:=hrel;have HB:=U J;have S:=U X;clear a6 H W;obtain ⟨P,f,rfl⟩:=e6;by_cases hlt:k<l.length
  . obtain ⟨b1,o1,e4,_,e8,e0,e1⟩:=(c6.o.below J lz lz J.size).at k hlt;subst e4;have I:=U (show vK (l.take (k+1))=vK (l.take k) ++ [(l[k].1,txtJ l[k].2)] by rw [Z7 hlt];unfold vK;rw [K6];rfl);obtain ⟨p,hp⟩:=O1 (l[k]);rw [<- hp] at I e0 e1;obtain ⟨s,m⟩:=p;dsimp only at e0 e1 I;clear X J hp;obtain ⟨ms,b3,b4,b2⟩:=S.o.len;have d0:=U b3;have d1:=U b4;have a3:=U (show ms.length=k by rw [b2,gO,M3];omega);clear b3 b4 b2;go_upto_region 5 with fail
    obtain ⟨z,u⟩:=O1 (wr.alloc (.cells #[.string s,.string m] 67));have Y:=O7 u
    have C:=O9 u
    rw [<- u];have R:=U (show ∀w':World,O5 z w'->w'.cell? ⟨wr.heap.size,0,none⟩=some (.string s)/\w'.cell? ⟨wr.heap.size,1,none⟩=some (.string m) from fun w' h=>by
     have x:=(h.block _ (qz C)).trans C;exact ⟨qq x rfl,qq x rfl⟩)
    have a0:=U (O2 HB Y);have c7:=U (d0.o.below Y);clear u C Y e0 e1;obtain ⟨V,hV⟩:∃V:List MP,V=[.con (.slice (some ⟨P,0,none⟩) k f),.con (.pointer (some ⟨wr.heap.size,0,none⟩)),.con (.string s),.con (.pointer (some ⟨wr.heap.size,1,none⟩)),.con (.string m),.con (.agg #[.int .u8 3,.int .i64 0,.string m,.slice none 0 0,.slice none 0 0]),.con (.agg #[.string s,.int .u8 3,.int .i64 0,.string m,.slice none 0 0,.slice none 0 0]),.row z.heap.size 1 102 #[.string s,.int .u8 3,.int .i64 0,.string m,.slice none 0 0,.slice none 0 0]]:=⟨_,rfl⟩;have y:=U hV;clear hV;refine qH 8 (fun d a' w'=>∃x17 x18 x19 x20 x21 x22 x23 x24,a'=⟨#[Value.slice (some { block:=b1,off:=o1 }) l.length c,undef,Value.pointer (some { block:=w.heap.size,off:=0 }),Value.slice (some { block:=P,off:=0 }) k f,undef,Value.pointer (some { block:=wr.heap.size,off:=0 }),undef,undef,Value.slice (some { block:=b1,off:=o1 }) l.length c,Value.int IntKind.i64 (l.length:Int),Value.slice (some { block:=o.heap.size,off:=0 }) 0 l.length,Value.slice (some { block:=b1,off:=o1 }) l.length c,Value.int IntKind.i64 (l.length:Int),Value.int IntKind.i64 (k:Int),Value.bool true,Value.pointer (some { block:=b1,off:=o1+k * 2 }),Value.agg #[Value.string s,Value.string m],x17,x18,x19,x20,x21,x22,x23,x24,u25,u26,undef,undef,undef,undef,undef,undef],[]⟩/\zi z V d w' [x17,x18,x19,x20,x21,x22,x23,x24]) (by kernel_rfl) (by kernel_rfl) ?first ?step ?last
    case first=>exact ⟨_,_,_,_,_,_,_,_,rfl,zi.first _ _ _ (by rw [y.o];rfl)⟩
    case step =>
     rintro d a' w' ⟨x17,x18,x19,x20,x21,x22,x23,x24,rfl,h⟩ q hq hn hw;rcases q with _|_|_|_|_|_|_|_|q
     . refine Z4 rfl fun K hK=>?_;go_simp;exact hK _ _ ⟨_,_,_,_,_,_,_,_,rfl,h.same 0 _ (.con (.slice (some ⟨P,0,none⟩) k f)) (by rw [y.o];rfl) rfl⟩
     . refine Z4 rfl fun K hK=>?_;go_simp;exact hK _ _ ⟨_,_,_,_,_,_,_,_,rfl,h.same 1 _ (.con (.pointer (some ⟨wr.heap.size,0,none⟩))) (by rw [y.o];rfl) rfl⟩
     . obtain rfl:x18=.pointer (some ⟨wr.heap.size,0,none⟩):=h.get 1 (O3 hw 1 .data) (.con (.pointer (some ⟨wr.heap.size,0,none⟩))) (by rw [y.o];rfl) _ rfl;obtain ⟨q0,q1⟩:=R.o w' h.1;refine Z4 rfl fun K hK=>?_;go_simp;exact hK _ _ ⟨_,_,_,_,_,_,_,_,rfl,h.same 2 _ (.con (.string s)) (by rw [y.o];rfl) rfl⟩
     . refine Z4 rfl fun K hK=>?_;go_simp;exact hK _ _ ⟨_,_,_,_,_,_,_,_,rfl,h.same 3 _ (.con (.pointer (some ⟨wr.heap.size,1,none⟩))) (by rw [y.o];rfl) rfl⟩
     . obtain rfl:x20=.pointer (some ⟨wr.heap.size,1,none⟩):=h.get 3 (O3 hw 3 .data) (.con (.pointer (some ⟨wr.heap.size,1,none⟩))) (by rw [y.o];rfl) _ rfl;obtain ⟨q0,q1⟩:=R.o w' h.1;refine Z4 rfl fun K hK=>?_;go_simp;exact hK _ _ ⟨_,_,_,_,_,_,_,_,rfl,h.same 4 _ (.con (.string m)) (by rw [y.o];rfl) rfl⟩
     . obtain rfl:x21=.string m:=h.get 4 (O3 hw 4 .data) (.con (.string m)) (by rw [y.o];rfl) _ rfl;obtain ⟨q0,q1⟩:=R.o w' h.1;refine Z4 rfl fun K hK=>?_;go_simp;refine (gI m w').mono ?_;rintro e w2 ⟨rfl,B⟩;exact hK _ _ ⟨_,_,_,_,_,_,_,_,rfl,h.did B 5 _ (.con (.agg #[.int .u8 3,.int .i64 0,.string m,.slice none 0 0,.slice none 0 0])) (by rw [y.o];rfl) rfl⟩
     . obtain rfl:x19=.string s:=h.get 2 (O3 hw 2 .data) (.con (.string s)) (by rw [y.o];rfl) _ rfl;obtain rfl:x22=.agg #[.int .u8 3,.int .i64 0,.string m,.slice none 0 0,.slice none 0 0]:=h.get 5 (O3 hw 5 .data) (.con (.agg #[.int .u8 3,.int .i64 0,.string m,.slice none 0 0,.slice none 0 0])) (by rw [y.o];rfl) _ rfl;refine Z4 rfl fun K hK=>?_;go_simp;exact hK _ _ ⟨_,_,_,_,_,_,_,_,rfl,h.same 6 _ (.con (.agg #[.string s,.int .u8 3,.int .i64 0,.string m,.slice none 0 0,.slice none 0 0])) (by rw [y.o];rfl) rfl⟩
     . obtain rfl:x23=.agg #[.string s,.int .u8 3,.int .i64 0,.string m,.slice none 0 0,.slice none 0 0]:=h.get 6 (O3 hw 6 .data) (.con (.agg #[.string s,.int .u8 3,.int .i64 0,.string m,.slice none 0 0,.slice none 0 0])) (by rw [y.o];rfl) _ rfl;refine Z4 rfl fun K hK=>?_;go_simp;exact hK _ _ ⟨_,_,_,_,_,_,_,_,rfl,h.new _ 7 _ (.row z.heap.size 1 102 #[.string s,.int .u8 3,.int .i64 0,.string m,.slice none 0 0,.slice none 0 0]) (by rw [y.o];rfl) (vQ.made _ h.1.size)⟩
     . omega
    case last =>
     rintro d a' w' E ⟨x17,x18,x19,x20,x21,x22,x23,x24,rfl,h⟩;have b0:=h.1;obtain rfl:x17=.slice (some ⟨P,0,none⟩) k f:=h.get 0 (E _ (by omega)) (.con (.slice (some ⟨P,0,none⟩) k f)) (by rw [y.o];rfl) _ rfl;obtain ⟨e3,f1,rfl,e7⟩:=h.get 7 (E _ (by omega)) (.row z.heap.size 1 102 #[.string s,.int .u8 3,.int .i64 0,.string m,.slice none 0 0,.slice none 0 0]) (by rw [y.o];rfl) _ rfl;have a2:=U b0;clear h E b0 y;have a1:=U (a0.o.trans (a2.o.mono a0.o.size));have a5:=U (c7.o.below a2.o);have Z:o.heap.size<=w'.heap.size:=a1.o.size;have a7:=O0 (w'.ownsRow o.heap.size 102 6 (.slice (some ⟨P,0,none⟩) k f) k (zg ms)) (by have:=a5.o.own;rwa [a3.o] at this);refine Y1 _ rfl (.tmp 17) (.tmp 24) 104 rfl o.heap.size 102 i1 _ 6 96 G1 a9 c0 c1 c2 rfl (by omega) (.slice (some ⟨P,0,none⟩) k f) k (zg ms) rfl a7.o ⟨e3,0,none⟩ 1 1 (qY (xP s m)) rfl rfl (J9 (cs:=(qY (xP s m)).toArray) (t:=102) (fr:=(0,0)) e7) (xh _) (by omega) (by unfold maxLen;omega) (by omega) Z (w'.heap.size) rfl ?_;intro g2 cap3 w4 hown4 hgrow4 hat4 hlt4;have a8:=below_grown a1.o Z hgrow4 (fun b J=>(a7.o.lt b J).1);have Q:=a5.o.snoc (v':=.slice (some ⟨g2,0,none⟩) (k+1) cap3) (xP s m) (txtJ m) o.heap.size o.heap.size lz Z (fun b _ h=>by omega) (jZ _ _ _ _) hgrow4 (by rw [a3.o];exact hown4) (by
      rcases hat4 with h|h
      . exact .inl h.symm
      . exact .inr ⟨g2,rfl,by omega⟩)
     have c9:=O0 (fL o.heap.size w4 (.slice (some ⟨g2,0,none⟩) (k+1) cap3) (vK (l.take (k+1)))) (⟨ms ++ [xP s m],by rw [I.o];simpa using Q,by rw [I.o,K6,K6,d1.o];rfl⟩);have H:=U a8;clear Q a8 hown4 hgrow4 hat4;go_wp2;exact ⟨⟨k+1,by omega,by go_num,⟨g2,cap3,rfl⟩,c9.o,H.o⟩,by simp [intOf];omega⟩
  . obtain rfl:k=l.length:=by omega
    have a4:=U (wj (vK l) (by have:=S.o;rwa [zc0] at this) ⟨P,f,by rw [gO]⟩ (List.Perm.refl _) (by rw [mB];exact d5.o) (by rw [gO];omega) (fun p hp=>by
     obtain ⟨q,hq,rfl⟩:=H7.1 hp;exact ey _ (Z3 (dj (d2.o q hq).2) (by decide))) e5)
    clear X J;go_wp2_with fail;refine a4.o.mono ?_;clear a4 S;rintro r w5 ⟨an,cn,ai,ci,rfl,M,L⟩;rw [mB,nK] at M;rw [mB,nK];simp only [X7] at M;rw [X7,X7];obtain ⟨z,u⟩:=O1 (w5.alloc (.cells #[.int .u8 5,.int .i64 0,.string ⟨#[]⟩,.slice an l.length cn,.slice ai l.length ci] 26));have G:=O7 u
    have C:=O9 u
    have F:O5 o z:=HB.o.trans ((L.trans (G.mono L.size)).mono HB.o.size);have A:=qj F d3.o (by have:=T.o;omega);have d6:=U A;have d4:=U M;have N:=U G;have d7:=O0 (o.heap.size<=wr.heap.size/\wr.heap.size<=w5.heap.size) (⟨HB.o.size,L.size⟩);have c5:=U (c4.o.trans (F.mono (by have:=T.o;omega)));obtain ⟨y0,y1,y2,y3,y4⟩:=bx5 C;obtain ⟨t0,t1,t2,t3,t4⟩:=rc5 A;obtain ⟨s,m,s2,s3,s4⟩:=rf5 A;simp only [qo] at t0 t1 t2 t3 t4;clear A M L F G C;go_upto_region 8 with fail
    rw [<- u];clear u;go_wp2;refine Z8 (X8 Tryz.results46 _ _ w.heap.size 26 _ (0,0) _ rfl (qr (set5 _ _ _ _ _ d6.o)) J7 rfl (by kernel_rfl)) rfl ?_;have e1:(jb l).names.length=l.length:=X7 ..;have e2:(jb l).items.length=l.length:=X7 ..;unfold jW;rw [e1,e2];refine ⟨an,cn,ai,ci,rfl,?_,zf _ _ _ _ _ c5.o lz⟩;have f0:=N.o.size;have:=d7.o;have:=T.o;exact Rep.carry (lo:=wr.heap.size) (hi:=w5.heap.size) (by omega) (by simp [World.setCell];omega) (fun j hj hj2=>(xJ _ _ _ _ _ (by omega)).trans (N.o.block j hj2)) _ _ d4.o
def ep (b:Bool):Int:=if b then 1 else 0
theorem iS (w:World) (lo hi:Nat) (b:Bool):Rep w lo hi (xe b) (.agg #[.int .u8 1,.int .i64 (ep b),.string ⟨#[]⟩,.slice none 0 0,.slice none 0 0]):=by unfold xe Rep ep;exact ⟨none,0,none,0,rfl,J2 _,J2 _,.inl rfl,.inl rfl⟩
theorem rS (b:Bool) (w:World):Calls Tryz.prog 147 #[.bool b] w fun e w'=>e=.returned (.agg #[.int .u8 1,.int .i64 (ep b),.string ⟨#[]⟩,.slice none 0 0,.slice none 0 0])/\O5 w w':=by
 have f:=O0 (O5 w (w.alloc (.cells #[.int .u8 0,.int .i64 0,.string ⟨#[]⟩,.slice none 0 0,.slice none 0 0] 26))) O4;have a:=qg w (.int .u8 0) (.int .i64 0) (.string ⟨#[]⟩) (.slice none 0 0) (.slice none 0 0) 26;have c:=U a;obtain ⟨W,d⟩:=O1 (w.alloc (.cells #[.int .u8 0,.int .i64 0,.string ⟨#[]⟩,.slice none 0 0,.slice none 0 0] 26));rw [<- d] at f a c;have g:=U d;obtain ⟨h,i,j,k,l⟩:=rc5 a;obtain ⟨m,o,p,q,r⟩:=rf5 a;simp only [qo] at h i j k l;clear a d;cases b
 all_goals
  go_enter Tryz.func147,Tryz.ntmps147;go_upto_region 1 with fail
  rw [<- g.o];clear g;go_wp2;exact Z8 (X8 Tryz.results147 _ _ w.heap.size 26 _ (0,0) _ rfl (qr (set5 _ _ _ _ _ c.o)) J7 rfl (by kernel_rfl)) rfl ⟨rfl,zf _ _ _ _ _ f.o lz⟩
theorem MemsAt.cat {u:Nat} {w w':World} {v v':Value} {ms ms2:List Mem} {r its2:List JV} (h:MemsAt u w v ms r) (B:its2.length=ms2.length) (A:∀i (hi:i<its2.length),∃lo hi',u<=lo/\hi'<=w.heap.size/\(∀b,v.ownBlock=some b->¬(lo<=b/\b<hi'))/\Rep w lo hi' its2[i] (ms2[i]'(by omega)).val)
 (z:w.grownBy w' v.ownBlock) (s:w'.ownsRow u 102 6 v' (ms.length+ms2.length) (zg ms ++ zg ms2)) (y:v'.ownBlock=v.ownBlock\/∃g,v'.ownBlock=some g/\w.heap.size<=g):MemsAt u w' v' (ms ++ ms2) (r ++ its2):=by
 have p:∀ {lo hi:Nat},hi<=w.heap.size->(∀b,v.ownBlock=some b->¬(lo<=b/\b<hi))->∀b,v'.ownBlock=some b->¬(lo<=b/\b<hi):=fun hz hn b hb=>by
  rcases y with e|⟨g,e,hge⟩
  . exact hn b (by rw [<- e];exact hb)
  . rw [e] at hb;simp at hb;omega
 have o:∀ {lo hi:Nat} {it:JV} {x:Value},hi<=w.heap.size->(∀b,v.ownBlock=some b->¬(lo<=b/\b<hi))->Rep w lo hi it x->Rep w' lo hi it x:=fun hz hn A =>
  Rep.carry lz lz (fun b hb1 hb2=>z.block b (by omega) (fun e=>hn b e.symm ⟨hb1,hb2⟩)) _ _ A
 have l:=h.len;refine ⟨?_,by simp [l,B],fun i hi'=>?_⟩
 . have e:zg (ms ++ ms2)=zg ms ++ zg ms2:=by simp [zg]
   rw [e,K3];exact s
 . by_cases e:i<r.length
   . obtain ⟨f,a,m,d,j,c⟩:=h.reps i e;refine ⟨f,a,m,Z3 d z.size,p d j,?_⟩;rw [za8 e,za8 (by omega)];exact o d j c
   . have k:i - r.length<its2.length:=by simp at hi';omega
     obtain ⟨f,a,m,d,j,c⟩:=A (i - r.length) k;refine ⟨f,a,m,Z3 d z.size,p d j,?_⟩;rw [List.getElem_append_right (by omega),List.getElem_append_right (by omega)];have q:i - ms.length=i - r.length:=by omega
     simp only [q];exact o d j c
def iA (t:Int) (l:List ByteArray) (lo:Nat) (w:World) (x:Value):Prop :=
 ∃g ai ci,x=.slice (some ⟨g,0,none⟩) 2 2/\lo<=g/\w.heap[g]?=some (.cells #[.string ⟨#[107,101,121,105,100,115]⟩,.int .u8 4,.int .i64 0,.string ⟨#[]⟩,.slice none 0 0,.slice ai l.length ci,.string ⟨#[116,104,114,101,115,104,111,108,100]⟩,.int .u8 2,.int .i64 t,.string ⟨#[]⟩,.slice none 0 0,.slice none 0 0] 102 (0,0))/\Rep w lo g (qe l) (.agg #[.int .u8 4,.int .i64 0,.string ⟨#[]⟩,.slice none 0 0,.slice ai l.length ci])
def MP.memb (t:Int) (l:List ByteArray) (lo:Nat):MP:=⟨iA t l lo,fun _ _ _ hb ⟨g,ai,ci,e,h1,h2,h3⟩=>⟨g,ai,ci,e,h1,by rw [hb.block _ (qz h2)];exact h2,Rep.carry lz lz (fun b _ hbg=>hb.block b (Nat.lt_trans hbg (qz h2))) _ _ h3⟩⟩
theorem lX (t:Int) (l:List ByteArray) (a:Option Addr) (c lo:Nat) (w:World) (k:lo<=w.heap.size) (m:qy w 0 w.heap.size a l) (o:l.length<=4294967296) :
 Calls Tryz.prog 146 #[.agg #[.int .i64 t,.slice a l.length c]] w fun e w'=>∃y,e=.returned y/\iA t l lo w' y/\O5 w w':=by
 refine (dE t l a c w m o).mono ?_;rintro e w' ⟨g,b,d,rfl,h,j,f,i⟩;exact ⟨_,rfl,⟨g,b,d,rfl,by omega,h,Rep.carry k lz (fun _ _ _=>rfl) _ _ j⟩,f⟩
def wA (ai:Option Addr) (n ci:Nat):Mem:=⟨qt,4,0,⟨#[]⟩,none,0,0,ai,n,ci⟩
theorem uO {t:Int} {l:List ByteArray} {lo g:Nat} {ai:Option Addr} {ci:Nat} {w:World} (d:lo<=g) (c:w.heap[g]?=some (.cells #[.string ⟨#[107,101,121,105,100,115]⟩,.int .u8 4,.int .i64 0,.string ⟨#[]⟩,.slice none 0 0,.slice ai l.length ci,.string ⟨#[116,104,114,101,115,104,111,108,100]⟩,.int .u8 2,.int .i64 t,.string ⟨#[]⟩,.slice none 0 0,.slice none 0 0] 102 (0,0))) (e:Rep w lo g (qe l) (.agg #[.int .u8 4,.int .i64 0,.string ⟨#[]⟩,.slice none 0 0,.slice ai l.length ci])) :
 MemsAt lo w (.slice (some ⟨g,0,none⟩) 2 2) [wA ai l.length ci,jr zK t] [qe l,qB t]:=by
 refine ⟨⟨rfl,.inr ⟨g,2,_,rfl,d,c,J2 _,by unfold maxLen;omega,rfl,?_⟩⟩,rfl,fun i hi=>?_⟩
 . simp [zg,qY,wA,jr,qt,zK]
 . have a:=qz c
   match i,hi with
   | 0,_=>exact ⟨lo,g,J2 _,by omega,fun b hb=>by simp [Value.ownBlock] at hb;omega,e⟩
   | 1,_=>exact ⟨lo,g,J2 _,by omega,fun b hb=>by simp [Value.ownBlock] at hb;omega,gp _ _ _ _⟩
theorem kD {l:List ByteArray} (h:∀x ∈ l,x.size<=1000000) (d:l.length<=1000):(qe l).wt<=4294967296:=by
 have:∀l:List ByteArray,(∀x ∈ l,x.size<=1000000)->JV.wts (l.map txtJ)<=1000001 * l.length:=fun l=>by
  induction l with
  | nil=>intro _;simp [JV.wts]
  | cons x r ih => intro h;have a:=h x (G0 ..);have c:=ih fun y hy=>h y (V7 _ hy);rw [K8,JV.wts,xY,N0];omega
 have a:=this l h;have b:(qe l).wt=1+JV.wts (l.map txtJ):=(by show 1+(⟨#[]⟩:ByteArray).size+qh [] + JV.wts (l.map txtJ)=_;rfl);omega
theorem eA {α:Type} (a b c d e:α):[a,b,c,d,e].Perm [a,e,b,d,c]:=by refine List.Perm.cons a ?_;have f:[b,c,d,e].Perm ([e] ++ [b,c,d]):=List.perm_append_comm (l₁:=[b,c,d]) (l₂:=[e]);refine f.trans ?_;exact (List.Perm.cons e (List.Perm.cons b (List.Perm.swap d c [])))
theorem lJ (b:Bool):(xe b).wt<=4294967296:=by cases b <;> (rw [JV.wt_eq];decide)
theorem uE (ms:List Mem):∀v ∈ zg ms,v.oneCell'=true:=by intro v hv;unfold zg at hv;obtain ⟨m,_,a⟩:=List.mem_flatMap.1 hv;exact xh m v a
theorem aW {p:ByteArray} (h:zu p=true):p.size<=256:=by unfold zu at h;simp only [J5,J1] at h;exact h.1.1.2
theorem iT {p:ByteArray} (h:preB p=true):p.size<=64:=by unfold preB at h;simp only [J5,J1] at h;exact h.1.2
theorem wT {x:DelegV} (h:qC x=true):x.name.size<=64/\(x.au.ids.length<=4294967296/\x.au.ids.length<=16/\∀s ∈ x.au.ids,s.size<=1000000)/\(x.paths.length<=32/\∀s ∈ x.paths,s.size<=1000000)/\(x.pres.length<=32/\∀s ∈ x.pres,s.size<=1000000):=by
 obtain ⟨c,-,d,a⟩:=wP h;have b:=jK d;refine ⟨yL c,⟨by omega,b.1.2,fun s hs=>by have:=(yw (kG _ _ b.2.2 s hs)).2;omega⟩,?_,?_⟩
 . rcases a with ⟨-,-,h5,h6⟩|⟨h5,-⟩
   . exact ⟨h5,fun s hs=>by have:=aW (X9.1 h6 s hs);omega⟩
   . rw [h5];exact ⟨by simp,by simp⟩
 . rcases a with ⟨-,h5,-⟩|⟨-,-,h5,h6⟩
   . rw [h5];exact ⟨by simp,by simp⟩
   . exact ⟨h5,fun s hs=>by have:=iT (X9.1 h6 s hs);omega⟩
theorem pn (nm:ByteArray) (f6:Int) (ids:List ByteArray) (tm:Bool) (ps qs:List ByteArray) (ia pa qa:Option Addr) (ic pc qc:Nat) (w:World) (hI:DelegIn w 0 w.heap.size ⟨nm,⟨f6,ids⟩,tm,ps,qs⟩ ia pa qa) (hm:qC ⟨nm,⟨f6,ids⟩,tm,ps,qs⟩=true) :
 Calls Tryz.prog 113 #[.agg #[.string nm,.int .i64 f6,.slice ia ids.length ic,.bool tm,.slice pa ps.length pc,.slice qa qs.length qc]] w (jW (q9 ⟨nm,⟨f6,ids⟩,tm,ps,qs⟩) w):=by
 have a:=U (wT hm);dsimp only at a;obtain ⟨W,hW⟩:=O1 ((w.alloc (.cells #[.string nm,.int .i64 f6,.slice ia ids.length ic,.bool tm,.slice pa ps.length pc,.slice qa qs.length qc] 58)).alloc (.cells #[.int .u8 0,.int .i64 0,.string ⟨#[]⟩,.slice none 0 0,.slice none 0 0] 26));have e2:(w.alloc (.cells #[.string nm,.int .i64 f6,.slice ia ids.length ic,.bool tm,.slice pa ps.length pc,.slice qa qs.length qc] 58)).heap.size=w.heap.size+1:=by simp
 have A:O5 w W:=by rw [hW];exact (O4).alloc (by simp) _
 have hx:W.heap[w.heap.size]?=some (.cells #[.string nm,.int .i64 f6,.slice ia ids.length ic,.bool tm,.slice pa ps.length pc,.slice qa qs.length qc] 58 (0,0)):=by rw [hW];exact qO w _ _
 have c6:W.rowIs (w.heap.size+1) 26 5 (qo (.int .u8 0) (.int .i64 0) (.string ⟨#[]⟩) (.slice none 0 0) (.slice none 0 0)):=(by have:=qg (w.alloc (.cells #[.string nm,.int .i64 f6,.slice ia ids.length ic,.bool tm,.slice pa ps.length pc,.slice qa qs.length qc] 58)) (.int .u8 0) (.int .i64 0) (.string ⟨#[]⟩) (.slice none 0 0) (.slice none 0 0) 26;rw [e2,<- hW] at this;exact this);have HC:=U (show ∀w':World,O5 W w'->w'.cell? ⟨w.heap.size,0,none⟩=some (.string nm)/\w'.cell? ⟨w.heap.size,1,none⟩=some (.int .i64 f6)/\w'.cell? ⟨w.heap.size,2,none⟩=some (.slice ia ids.length ic)/\w'.cell? ⟨w.heap.size,3,none⟩=some (.bool tm)/\w'.cell? ⟨w.heap.size,4,none⟩=some (.slice pa ps.length pc)/\w'.cell? ⟨w.heap.size,5,none⟩=some (.slice qa qs.length qc) from fun w' h=>by
  have y:=(h.block _ (qz hx)).trans hx;exact ⟨qq y rfl,qq y rfl,qq y rfl,qq y rfl,qq y rfl,qq y rfl⟩)
 have b1:=U c6;have HB:=U A;have b2:=O0 (w.heap.size+2<=W.heap.size) c6.lt;have HW:=U hW;have HI:=O0 (∀w':World,O5 W w'->DelegIn w' 0 w'.heap.size ⟨nm,⟨f6,ids⟩,tm,ps,qs⟩ ia pa qa) (fun w' h=>hI.below (A.trans (h.mono A.size)) lz lz (Z3 A.size h.size));have e7:=O0 (∀w':World,O5 W w'->_) (fun w' h=>lX f6 ids ia ic W.heap.size w' h.size (HI.o w' h).ids a.o.2.1.1);have f1:=O0 (∀w':World,_) (fun w'=>(kZ nm w').mono fun e w2 (h:e=.returned (.agg #[.int .u8 3,.int .i64 0,.string nm,.slice none 0 0,.slice none 0 0])/\w2=w'.alloc (.cells #[.int .u8 3,.int .i64 0,.string nm,.slice none 0 0,.slice none 0 0] 26))=>show e=.returned (.agg #[.int .u8 3,.int .i64 0,.string nm,.slice none 0 0,.slice none 0 0])/\O5 w' w2 from ⟨h.1,by rw [h.2];exact O4⟩);have d4:=U (fun w'=>rS tm w');have f0:=O0 (∀w':World,O5 W w'->_) (fun w' h=>mN ps pa pc w' (HI.o w' h).paths (by have:=a.o.2.2.1.1;omega));have e8:=O0 (∀w':World,O5 W w'->_) (fun w' h=>mN qs qa qc w' (HI.o w' h).pres (by have:=a.o.2.2.2.1;omega));have HJ:=O0 (q9 ⟨nm,⟨f6,ids⟩,tm,ps,qs⟩=qN (kP ⟨nm,⟨f6,ids⟩,tm,ps,qs⟩)) rfl;obtain ⟨J,hJ⟩:=O1 (q9 ⟨nm,⟨f6,ids⟩,tm,ps,qs⟩);rw [<- hJ] at HJ ⊢;obtain ⟨z,c2⟩:=O1 (ep tm);have e5:=U c2;rw [<- c2] at d4;clear hW A hx c6 e2 hI hm hJ c2;obtain ⟨q0,q1,q2,q3,q4,q5⟩:=HC.o W (Z0 _ _);go_enter Tryz.func113,Tryz.ntmps113;go_upto_region 1 with fail
 rw [<- HW.o];clear HW q0 q1 q2 q3 q4 q5;obtain ⟨V,hV⟩:∃V:List MP,V=[.con (.pointer (some ⟨w.heap.size,1,none⟩)),.con (.agg #[.int .i64 f6,.slice ia ids.length ic]),.memb f6 ids W.heap.size,.con (.pointer (some ⟨w.heap.size,0,none⟩)),.con (.string nm),.con (.agg #[.int .u8 3,.int .i64 0,.string nm,.slice none 0 0,.slice none 0 0]),.con (.agg #[.string ⟨#[110,97,109,101]⟩,.int .u8 3,.int .i64 0,.string nm,.slice none 0 0,.slice none 0 0]),.con (.pointer (some ⟨w.heap.size,3,none⟩)),.con (.bool tm),.con (.agg #[.int .u8 1,.int .i64 z,.string ⟨#[]⟩,.slice none 0 0,.slice none 0 0]),.con (.agg #[.string ⟨#[116,101,114,109,105,110,97,116,105,110,103]⟩,.int .u8 1,.int .i64 z,.string ⟨#[]⟩,.slice none 0 0,.slice none 0 0]),.row W.heap.size 2 102 #[.string ⟨#[110,97,109,101]⟩,.int .u8 3,.int .i64 0,.string nm,.slice none 0 0,.slice none 0 0,.string ⟨#[116,101,114,109,105,110,97,116,105,110,103]⟩,.int .u8 1,.int .i64 z,.string ⟨#[]⟩,.slice none 0 0,.slice none 0 0]]:=⟨_,rfl⟩;have f:=U hV;clear hV;refine qH 12 (fun d a' w'=>∃x6 x7 x8 x9 x10 x11 x12 x13 x14 x15 x16 x17,a'=⟨#[.agg #[.string nm,.int .i64 f6,.slice ia ids.length ic,.bool tm,.slice pa ps.length pc,.slice qa qs.length qc],.pointer (some ⟨w.heap.size,0,none⟩),.pointer (some ⟨w.heap.size+1,0,none⟩),undef,undef,undef,x6,x7,x8,x9,x10,x11,x12,x13,x14,x15,x16,x17,undef,undef,undef,undef,undef,undef,undef,undef,undef,undef,undef,undef,undef,undef,undef,undef,undef,undef,undef,undef,undef,undef,undef,undef,undef],[]⟩/\zi W V d w' [x6,x7,x8,x9,x10,x11,x12,x13,x14,x15,x16,x17]) (by kernel_rfl) (by kernel_rfl) ?first ?step ?last
 case first=>exact ⟨_,_,_,_,_,_,_,_,_,_,_,_,rfl,zi.first _ _ _ (by rw [f.o];rfl)⟩
 case step =>
  rintro d a' w' ⟨x6,x7,x8,x9,x10,x11,x12,x13,x14,x15,x16,x17,rfl,h⟩ q hq hn hw;rcases q with _|_|_|_|_|_|_|_|_|_|_|_|q
  . refine Z4 rfl fun K hK=>?_;go_simp;exact hK _ _ ⟨_,_,_,_,_,_,_,_,_,_,_,_,rfl,h.sameC 0 _ f rfl⟩
  . obtain rfl:=h.cn hw f 0 .data;obtain ⟨q0,q1,q2,q3,q4,q5⟩:=HC.o w' h.1;refine Z4 rfl fun K hK=>?_;go_simp;exact hK _ _ ⟨_,_,_,_,_,_,_,_,_,_,_,_,rfl,h.sameC 1 _ f rfl⟩
  . obtain rfl:=h.cn hw f 1 .data;obtain ⟨q0,q1,q2,q3,q4,q5⟩:=HC.o w' h.1;refine Z4 rfl fun K hK=>?_;go_simp;refine (e7.o w' h.1).mono ?_;rintro e w2 ⟨y,rfl,hy,a3⟩;exact hK _ _ ⟨_,_,_,_,_,_,_,_,_,_,_,_,rfl,h.did a3 2 _ (.memb f6 ids W.heap.size) (by rw [f.o];rfl) hy⟩
  . refine Z4 rfl fun K hK=>?_;go_simp;exact hK _ _ ⟨_,_,_,_,_,_,_,_,_,_,_,_,rfl,h.sameC 3 _ f rfl⟩
  . obtain rfl:=h.cn hw f 3 .data;obtain ⟨q0,q1,q2,q3,q4,q5⟩:=HC.o w' h.1;refine Z4 rfl fun K hK=>?_;go_simp;exact hK _ _ ⟨_,_,_,_,_,_,_,_,_,_,_,_,rfl,h.sameC 4 _ f rfl⟩
  . obtain rfl:=h.cn hw f 4 .data;obtain ⟨q0,q1,q2,q3,q4,q5⟩:=HC.o w' h.1;refine Z4 rfl fun K hK=>?_;go_simp;refine (f1.o w').mono ?_;rintro e w2 ⟨rfl,a3⟩;exact hK _ _ ⟨_,_,_,_,_,_,_,_,_,_,_,_,rfl,h.didC a3 5 _ f rfl⟩
  . obtain rfl:=h.cn hw f 5 .data;refine Z4 rfl fun K hK=>?_;go_simp;exact hK _ _ ⟨_,_,_,_,_,_,_,_,_,_,_,_,rfl,h.sameC 6 _ f rfl⟩
  . refine Z4 rfl fun K hK=>?_;go_simp;exact hK _ _ ⟨_,_,_,_,_,_,_,_,_,_,_,_,rfl,h.sameC 7 _ f rfl⟩
  . obtain rfl:=h.cn hw f 7 .data;obtain ⟨q0,q1,q2,q3,q4,q5⟩:=HC.o w' h.1;refine Z4 rfl fun K hK=>?_;go_simp;exact hK _ _ ⟨_,_,_,_,_,_,_,_,_,_,_,_,rfl,h.sameC 8 _ f rfl⟩
  . obtain rfl:=h.cn hw f 8 .data;obtain ⟨q0,q1,q2,q3,q4,q5⟩:=HC.o w' h.1;refine Z4 rfl fun K hK=>?_;go_simp;refine (d4.o w').mono ?_;rintro e w2 ⟨rfl,a3⟩;exact hK _ _ ⟨_,_,_,_,_,_,_,_,_,_,_,_,rfl,h.didC a3 9 _ f rfl⟩
  . obtain rfl:=h.cn hw f 9 .data;refine Z4 rfl fun K hK=>?_;go_simp;exact hK _ _ ⟨_,_,_,_,_,_,_,_,_,_,_,_,rfl,h.sameC 10 _ f rfl⟩
  . obtain rfl:=h.cn hw f 6 .data;obtain rfl:=h.cn hw f 10 .data;refine Z4 rfl fun K hK=>?_;go_simp;exact hK _ _ ⟨_,_,_,_,_,_,_,_,_,_,_,_,rfl,h.new _ 11 _ (.row W.heap.size 2 102 #[.string ⟨#[110,97,109,101]⟩,.int .u8 3,.int .i64 0,.string nm,.slice none 0 0,.slice none 0 0,.string ⟨#[116,101,114,109,105,110,97,116,105,110,103]⟩,.int .u8 1,.int .i64 z,.string ⟨#[]⟩,.slice none 0 0,.slice none 0 0]) (by rw [f.o];rfl) (vQ.made _ h.1.size)⟩
  . omega
 case last =>
  rintro d a' w' a2 ⟨x6,x7,x8,x9,x10,x11,x12,x13,x14,x15,x16,x17,rfl,h⟩;have e1:=h.1;have f3:=h.get 2 (a2 _ (by omega)) (.memb f6 ids W.heap.size) (by rw [f.o];rfl) _ rfl;obtain ⟨f2,f5,rfl,e3⟩:=h.get 11 (a2 _ (by omega)) (.row W.heap.size 2 102 #[.string ⟨#[110,97,109,101]⟩,.int .u8 3,.int .i64 0,.string nm,.slice none 0 0,.slice none 0 0,.string ⟨#[116,101,114,109,105,110,97,116,105,110,103]⟩,.int .u8 1,.int .i64 z,.string ⟨#[]⟩,.slice none 0 0,.slice none 0 0]) (by rw [f.o];rfl) _ rfl;have e6:=U e1;clear h a2 e1 f;have a4:=e6.o;obtain ⟨g,ai,ci,rfl,d7,c3,e0⟩:=f3;have b5:=U (uO d7 c3 e0);have b6:=O0 (w'.ownsRow W.heap.size 102 6 (.slice (some ⟨g,0,none⟩) 2 2) 2 (zg [wA ai ids.length ci,jr zK f6])) b5.o.own;have e4:=U a4;have f4:=U (qz c3);have c7:W.heap.size<=w'.heap.size:=a4.size;clear a4 d7 c3 e0;obtain ⟨i1,c4,d0,d1,d2⟩:=V2 jm;simp only [List.drop_succ_cons,List.drop_zero];go_upto_region 2 with (at_builtin;refine Y1 _ rfl (.tmp 8) (.tmp 17) 104 rfl W.heap.size 102 i1 _ 6 96 G1 c4 d0 d1 d2 rfl (by omega) (.slice (some ⟨g,0,none⟩) 2 2) 2 (zg [wA ai ids.length ci,jr zK f6]) rfl b6.o ⟨f2,0,none⟩ 2 2 (zg [xP xH nm,(⟨xL,1,z,⟨#[]⟩,none,0,0,none,0,0⟩:Mem)]) rfl rfl (J9 (cs:=(zg [xP xH nm,(⟨xL,1,z,⟨#[]⟩,none,0,0,none,0,0⟩:Mem)]).toArray) (t:=102) (fr:=(0,0)) e3) (uE _) (by omega) (by unfold maxLen;omega) (by omega) (by have:=qz e3;omega) w'.heap.size (by omega) ?_;intro g2 cap2 w4 hown4 hgrow4 hat4 hlt4;have d5:=U hown4;have b0:=U hgrow4;have d3:=U hat4;clear hown4 hgrow4 hat4)
  have x:=U (below_grown e4.o c7 b0.o (fun b A=>(b6.o.lt b A).1));have S:=U (show MemsAt W.heap.size w4 (.slice (some ⟨g2,0,none⟩) 4 cap2) [wA ai ids.length ci,jr zK f6,xP xH nm,(⟨xL,1,z,⟨#[]⟩,none,0,0,none,0,0⟩:Mem)] [qe ids,qB f6,txtJ nm,xe tm] from b5.o.cat (ms2:=[xP xH nm,(⟨xL,1,z,⟨#[]⟩,none,0,0,none,0,0⟩:Mem)]) (its2:=[txtJ nm,xe tm]) rfl (fun i hi=>by
   match i,hi with
   | 0,_=>exact ⟨W.heap.size,W.heap.size,J2 _,c7,fun b A=>by omega,jZ _ _ _ _⟩
   | 1,_=>exact ⟨W.heap.size,W.heap.size,J2 _,c7,fun b A=>by omega,by have:=iS w' W.heap.size W.heap.size tm;rw [<- e5.o] at this;exact this⟩) b0.o d5.o (by
   rcases d3.o with h|h
   . exact .inl h.symm
   . exact .inr ⟨g2,rfl,by omega⟩))
  have d6:=O0 (w'.heap.size<=w4.heap.size/\g2<w4.heap.size) (⟨b0.o.size,(S.o.own.lt g2 rfl).2⟩);clear d5 b0 d3 b5 b6;obtain ⟨q0,q1,q2,q3,q4,q5⟩:=HC.o w4 x.o;have b3:W.heap.size<=w4.heap.size:=x.o.size;by_cases hps:ps=[]
  . have R:=O0 (J=qN [(qt,qe ids),(xH,txtJ nm),(jF,qe qs),(xL,xe tm),(zK,qB f6)]) (by rw [HJ.o];unfold kP;rw [Z6 (by simp [hps])]);have n0:((0:Int)<(ps.length:Int))=False:=by subst hps;simp
    have n1:decide ((0:Int)<(ps.length:Int))=false:=by subst hps;rfl
    have n2:¬0<ps.length:=by subst hps;simp
    clear hps;go_upto_region 4 with fail
    go_wp2_with fail
    refine (e8.o w4 x.o).mono ?_;clear q0 q1 q2 q3 q4 q5;rintro r u ⟨a5,c5,rfl,a7,o⟩;have Z:=U a7;have Q:=U o;have E:=U (S.o.below o);have F:=O0 (u.ownsRow W.heap.size 102 6 (.slice (some ⟨g2,0,none⟩) 4 cap2) 4 (zg [wA ai ids.length ci,jr zK f6,xP xH nm,(⟨xL,1,z,⟨#[]⟩,none,0,0,none,0,0⟩:Mem)])) E.o.own;have c9:W.heap.size<=u.heap.size:=Z3 b3 o.size;clear a7 o;go_upto_region 5 with (at_builtin;refine Y1 _ rfl (.tmp 30) (.tmp 35) 104 rfl W.heap.size 102 i1 _ 6 96 G1 c4 d0 d1 d2 rfl (by omega) (.slice (some ⟨g2,0,none⟩) 4 cap2) 4 (zg [wA ai ids.length ci,jr zK f6,xP xH nm,(⟨xL,1,z,⟨#[]⟩,none,0,0,none,0,0⟩:Mem)]) rfl (F.o.alloc _) ⟨u.heap.size,0,none⟩ 1 1 (qY (⟨jF,4,0,⟨#[]⟩,none,0,0,a5,qs.length,c5⟩:Mem)) rfl rfl (J9 (cs:=#[.string ⟨#[112,97,116,104,95,104,97,115,104,95,112,114,101,102,105,120,101,115]⟩,.int .u8 4,.int .i64 0,.string ⟨#[]⟩,.slice none 0 0,.slice a5 qs.length c5]) (t:=102) (fr:=(0,0)) (Z5 u _)) (xh _) (by omega) (by unfold maxLen;omega) (by omega) (by simp;omega) (u.heap.size+1) (by simp) ?_;intro g3 cap3 w6 hown6 hgrow6 hat6 hlt6;have Y:=U hown6;have D:=U hgrow6;have P:=U hat6;clear hown6 hgrow6 hat6)
    have s:O5 u (u.alloc (.cells #[.string ⟨#[112,97,116,104,95,104,97,115,104,95,112,114,101,102,105,120,101,115]⟩,.int .u8 4,.int .i64 0,.string ⟨#[]⟩,.slice none 0 0,.slice a5 qs.length c5] 102)):=O4;have C:=U (below_grown ((x.o.trans (Q.o.mono x.o.size)).trans (s.mono c9)) (by simp;omega) D.o (fun b A=>(F.o.lt b A).1));have T:=U (show MemsAt W.heap.size w6 (.slice (some ⟨g3,0,none⟩) 5 cap3) ([wA ai ids.length ci,jr zK f6,xP xH nm,(⟨xL,1,z,⟨#[]⟩,none,0,0,none,0,0⟩:Mem)] ++ [(⟨jF,4,0,⟨#[]⟩,none,0,0,a5,qs.length,c5⟩:Mem)]) ([qe ids,qB f6,txtJ nm,xe tm] ++ [qe qs]) from (E.o.below s).snoc (⟨jF,4,0,⟨#[]⟩,none,0,0,a5,qs.length,c5⟩:Mem) (qe qs) w4.heap.size u.heap.size b3 (by simp) (fun b A=>by simp only [Value.ownBlock,V0] at A;have:=d6.o;omega) (Z.o.below s lz lz lz) D.o Y.o (by
     rcases P.o with h|h
     . exact .inl h.symm
     . exact .inr ⟨g3,rfl,by simp;omega⟩))
    have c1:=U b2.o;replace HJ:=U R.o;clear F Y D P S E Q Z s R;have X:=U (wj (v:=.slice (some ⟨g3,0,none⟩) 5 cap3) [(qt,qe ids),(xH,txtJ nm),(jF,qe qs),(xL,xe tm),(zK,qB f6)] (N:=[(qt,qe ids),(zK,qB f6),(xH,txtJ nm),(xL,xe tm),(jF,qe qs)]) ⟨_,by simpa using T.o,by simp [wA,jr,xP]⟩ ⟨_,_,rfl⟩ (eA _ _ _ _ _) zI.2.1 (by simp) (fun p hp=>by
     simp only [V6,V1,za4] at hp;rcases hp with rfl|rfl|rfl|rfl|rfl
     . exact kD a.o.2.1.2.2 (by have:=a.o.2.1.2.1;omega)
     . show (txtJ nm).wt<=4294967296;rw [xY];have:=a.o.1;omega
     . exact kD a.o.2.2.2.2 (by have:=a.o.2.2.2.1;omega)
     . exact lJ tm
     . show (qB _).wt<=4294967296;rw [vL];decide) (by have:=c1.o;omega))
    clear T;go_wp2_with fail;refine X.o.mono ?_;clear X;rintro e M ⟨H,L,G,I,rfl,a8,a6⟩;have l:O5 W M:=O2 C a6;obtain ⟨W9,m⟩:=O1 (M.alloc (.cells #[.int .u8 5,.int .i64 0,.string ⟨#[]⟩,.slice H 5 L,.slice G 5 I] 26));have k:=O7 m
    have a9:=O9 m
    have c:=qj (l.trans (k.mono l.size)) b1.o b1.o.lt;have c0:=U c;have b7:=U (Rep.below a8 (B:=M.heap.size) k lz lz k.size);have a1:=O0 (w.heap.size+2<=w6.heap.size) (Z3 b2.o C.o.size);have b4:=U (HB.o.trans ((l.trans (k.mono l.size)).mono HB.o.size));obtain ⟨z0,z1,z2,z3,z4⟩:=bx5 a9;obtain ⟨t0,t1,t2,t3,t4⟩:=rc5 c;obtain ⟨s0,s1,s2,s3,s4⟩:=rf5 c;simp only [qo] at t0 t1 t2 t3 t4;have a0:=U m;clear c a8 a6 l k a9 m;go_upto_region 6 with fail
    rw [<- a0.o];clear a0;go_wp2;refine Z8 (X8 Tryz.results113 _ _ (w.heap.size+1) 26 _ (0,0) _ rfl (qr (set5 _ _ _ _ _ c0.o)) J7 rfl (by kernel_rfl)) rfl ?_;rw [HJ.o];refine ⟨H,L,G,I,rfl,?_,zf _ _ _ _ _ b4.o (by omega)⟩;exact Rep.carry (by have:=a1.o;omega) (show W9.heap.size<=_ by simp [World.setCell]) (fun j hj _=>xJ _ _ _ _ _ (by have:=a1.o;omega)) _ _ b7.o
  . have R:=O0 (J=qN [(qt,qe ids),(xH,txtJ nm),(vp,qe ps),(xL,xe tm),(zK,qB f6)]) (by rw [HJ.o];unfold kP;rw [J3 hps]);have n2:0<ps.length:=List.length_pos_iff.2 hps;have n1:decide ((0:Int)<(ps.length:Int))=true:=by rw [J1];omega
    have n3:(0:Int)<(ps.length:Int):=by omega
    clear hps;go_upto_region 3 with fail
    go_wp2_with fail
    refine (f0.o w4 x.o).mono ?_;clear q0 q1 q2 q3 q4 q5;rintro r u ⟨a5,c5,rfl,a7,o⟩;have Z:=U a7;have Q:=U o;have E:=U (S.o.below o);have F:=O0 (u.ownsRow W.heap.size 102 6 (.slice (some ⟨g2,0,none⟩) 4 cap2) 4 (zg [wA ai ids.length ci,jr zK f6,xP xH nm,(⟨xL,1,z,⟨#[]⟩,none,0,0,none,0,0⟩:Mem)])) E.o.own;have c9:W.heap.size<=u.heap.size:=Z3 b3 o.size;clear a7 o;go_upto_region 5 with (at_builtin;refine Y1 _ rfl (.tmp 23) (.tmp 28) 104 rfl W.heap.size 102 i1 _ 6 96 G1 c4 d0 d1 d2 rfl (by omega) (.slice (some ⟨g2,0,none⟩) 4 cap2) 4 (zg [wA ai ids.length ci,jr zK f6,xP xH nm,(⟨xL,1,z,⟨#[]⟩,none,0,0,none,0,0⟩:Mem)]) rfl (F.o.alloc _) ⟨u.heap.size,0,none⟩ 1 1 (qY (⟨vp,4,0,⟨#[]⟩,none,0,0,a5,ps.length,c5⟩:Mem)) rfl rfl (J9 (cs:=#[.string ⟨#[112,97,116,104,115]⟩,.int .u8 4,.int .i64 0,.string ⟨#[]⟩,.slice none 0 0,.slice a5 ps.length c5]) (t:=102) (fr:=(0,0)) (Z5 u _)) (xh _) (by omega) (by unfold maxLen;omega) (by omega) (by simp;omega) (u.heap.size+1) (by simp) ?_;intro g3 cap3 w6 hown6 hgrow6 hat6 hlt6;have Y:=U hown6;have D:=U hgrow6;have P:=U hat6;clear hown6 hgrow6 hat6)
    have s:O5 u (u.alloc (.cells #[.string ⟨#[112,97,116,104,115]⟩,.int .u8 4,.int .i64 0,.string ⟨#[]⟩,.slice none 0 0,.slice a5 ps.length c5] 102)):=O4;have C:=U (below_grown ((x.o.trans (Q.o.mono x.o.size)).trans (s.mono c9)) (by simp;omega) D.o (fun b A=>(F.o.lt b A).1));have T:=U (show MemsAt W.heap.size w6 (.slice (some ⟨g3,0,none⟩) 5 cap3) ([wA ai ids.length ci,jr zK f6,xP xH nm,(⟨xL,1,z,⟨#[]⟩,none,0,0,none,0,0⟩:Mem)] ++ [(⟨vp,4,0,⟨#[]⟩,none,0,0,a5,ps.length,c5⟩:Mem)]) ([qe ids,qB f6,txtJ nm,xe tm] ++ [qe ps]) from (E.o.below s).snoc (⟨vp,4,0,⟨#[]⟩,none,0,0,a5,ps.length,c5⟩:Mem) (qe ps) w4.heap.size u.heap.size b3 (by simp) (fun b A=>by simp only [Value.ownBlock,V0] at A;have:=d6.o;omega) (Z.o.below s lz lz lz) D.o Y.o (by
     rcases P.o with h|h
     . exact .inl h.symm
     . exact .inr ⟨g3,rfl,by simp;omega⟩))
    have c1:=U b2.o;replace HJ:=U R.o;clear F Y D P S E Q Z s R;have X:=U (wj (v:=.slice (some ⟨g3,0,none⟩) 5 cap3) [(qt,qe ids),(xH,txtJ nm),(vp,qe ps),(xL,xe tm),(zK,qB f6)] (N:=[(qt,qe ids),(zK,qB f6),(xH,txtJ nm),(xL,xe tm),(vp,qe ps)]) ⟨_,by simpa using T.o,by simp [wA,jr,xP]⟩ ⟨_,_,rfl⟩ (eA _ _ _ _ _) zI.1 (by simp) (fun p hp=>by
     simp only [V6,V1,za4] at hp;rcases hp with rfl|rfl|rfl|rfl|rfl
     . exact kD a.o.2.1.2.2 (by have:=a.o.2.1.2.1;omega)
     . show (txtJ nm).wt<=4294967296;rw [xY];have:=a.o.1;omega
     . exact kD a.o.2.2.1.2 (by have:=a.o.2.2.1.1;omega)
     . exact lJ tm
     . show (qB _).wt<=4294967296;rw [vL];decide) (by have:=c1.o;omega))
    clear T;go_wp2_with fail;refine X.o.mono ?_;clear X;rintro e M ⟨H,L,G,I,rfl,a8,a6⟩;have l:O5 W M:=O2 C a6;obtain ⟨W9,m⟩:=O1 (M.alloc (.cells #[.int .u8 5,.int .i64 0,.string ⟨#[]⟩,.slice H 5 L,.slice G 5 I] 26));have k:=O7 m
    have a9:=O9 m
    have c:=qj (l.trans (k.mono l.size)) b1.o b1.o.lt;have c0:=U c;have b7:=U (Rep.below a8 (B:=M.heap.size) k lz lz k.size);have a1:=O0 (w.heap.size+2<=w6.heap.size) (Z3 b2.o C.o.size);have b4:=U (HB.o.trans ((l.trans (k.mono l.size)).mono HB.o.size));obtain ⟨z0,z1,z2,z3,z4⟩:=bx5 a9;obtain ⟨t0,t1,t2,t3,t4⟩:=rc5 c;obtain ⟨s0,s1,s2,s3,s4⟩:=rf5 c;simp only [qo] at t0 t1 t2 t3 t4;have a0:=U m;clear c a8 a6 l k a9 m;go_upto_region 6 with fail
    rw [<- a0.o];clear a0;go_wp2;refine Z8 (X8 Tryz.results113 _ _ (w.heap.size+1) 26 _ (0,0) _ rfl (qr (set5 _ _ _ _ _ c0.o)) J7 rfl (by kernel_rfl)) rfl ?_;rw [HJ.o];refine ⟨H,L,G,I,rfl,?_,zf _ _ _ _ _ b4.o (by omega)⟩;exact Rep.carry (by have:=a1.o;omega) (show W9.heap.size<=_ by simp [World.setCell]) (fun j hj _=>xJ _ _ _ _ _ (by have:=a1.o;omega)) _ _ b7.o
def Zu (hs:List Key2) (B:Nat) (w:World) (x:Value):Prop:=∃an cn ai ci,x=.agg #[.int .u8 5,.int .i64 0,.string ⟨#[]⟩,.slice an hs.length cn,.slice ai hs.length ci]/\Rep w B w.heap.size (jb hs) (.agg #[.int .u8 5,.int .i64 0,.string ⟨#[]⟩,.slice an hs.length cn,.slice ai hs.length ci])
def ZY (hs:List Key2) (B:Nat) (w:World) (x:Value):Prop:=∃an cn ai ci,x=.agg #[.string ⟨#[104,97,115,104,101,115]⟩,.int .u8 5,.int .i64 0,.string ⟨#[]⟩,.slice an hs.length cn,.slice ai hs.length ci]/\Rep w B w.heap.size (jb hs) (.agg #[.int .u8 5,.int .i64 0,.string ⟨#[]⟩,.slice an hs.length cn,.slice ai hs.length ci])
def ZG (hs:List Key2) (ln:Int) (B:Nat) (w:World) (x:Value):Prop:=∃g an cn ai ci,x=.slice (some ⟨g,0,none⟩) 2 2/\B<=g/\w.heap[g]?=some (.cells #[.string ⟨#[104,97,115,104,101,115]⟩,.int .u8 5,.int .i64 0,.string ⟨#[]⟩,.slice an hs.length cn,.slice ai hs.length ci,.string ⟨#[108,101,110,103,116,104]⟩,.int .u8 2,.int .i64 ln,.string ⟨#[]⟩,.slice none 0 0,.slice none 0 0] 102 (0,0))/\Rep w B g (jb hs) (.agg #[.int .u8 5,.int .i64 0,.string ⟨#[]⟩,.slice an hs.length cn,.slice ai hs.length ci])
def MP.hv (hs:List Key2) (B:Nat):MP:=⟨Zu hs B,fun _ _ _ hb ⟨an,cn,ai,ci,e,h⟩=>⟨an,cn,ai,ci,e,h.below hb lz lz hb.size⟩⟩
def MP.hm (hs:List Key2) (B:Nat):MP:=⟨ZY hs B,fun _ _ _ hb ⟨an,cn,ai,ci,e,h⟩=>⟨an,cn,ai,ci,e,h.below hb lz lz hb.size⟩⟩
def MP.hr (hs:List Key2) (ln:Int) (B:Nat):MP:=⟨ZG hs ln B,fun _ _ _ hb ⟨g,an,cn,ai,ci,e,h1,h2,h3⟩=>⟨g,an,cn,ai,ci,e,h1,by rw [hb.block _ (qz h2)];exact h2,h3.carry lz lz (fun b _ hbg=>hb.block b (Nat.lt_trans hbg (qz h2)))⟩⟩
def QV (an:Option Addr) (n cn:Nat) (ai:Option Addr) (ci:Nat):Mem:=⟨vD,5,0,⟨#[]⟩,an,n,cn,ai,n,ci⟩
theorem ef {c:List Key2} {d:Int} {B g:Nat} {an ai:Option Addr} {cn ci:Nat} {w:World} (f:B<=g) (e:w.heap[g]?=some (.cells #[.string ⟨#[104,97,115,104,101,115]⟩,.int .u8 5,.int .i64 0,.string ⟨#[]⟩,.slice an c.length cn,.slice ai c.length ci,.string ⟨#[108,101,110,103,116,104]⟩,.int .u8 2,.int .i64 d,.string ⟨#[]⟩,.slice none 0 0,.slice none 0 0] 102 (0,0))) (h:Rep w B g (jb c) (.agg #[.int .u8 5,.int .i64 0,.string ⟨#[]⟩,.slice an c.length cn,.slice ai c.length ci])) :
 MemsAt B w (.slice (some ⟨g,0,none⟩) 2 2) [QV an c.length cn ai ci,jr ym d] [jb c,qB d]:=by
 refine ⟨⟨rfl,.inr ⟨g,2,_,rfl,f,e,J2 _,by unfold maxLen;omega,rfl,?_⟩⟩,rfl,fun i hi=>?_⟩
 . simp [zg,qY,QV,jr,vD,ym]
 . have a:=qz e
   match i,hi with
   | 0,_=>exact ⟨B,g,J2 _,by omega,fun b hb=>by simp [Value.ownBlock] at hb;omega,h⟩
   | 1,_=>exact ⟨B,g,J2 _,by omega,fun b hb=>by simp [Value.ownBlock] at hb;omega,gp _ _ _ _⟩
theorem aY:qd [vD,ym]=true:=by decide +kernel
theorem Zm (j:List Key2) (k:Option Addr) (l B:Nat) (w:World) (m:B<=w.heap.size) (o:qJ w 0 w.heap.size k j) (p:qP j=true):Calls Tryz.prog 46 #[.slice k j.length l] w fun e w'=>∃y,e=.returned y/\Zu j B w' y/\O5 w w':=by refine (pl j k l w o p).mono ?_;rintro e w' ⟨c,f,b,d,rfl,a,i⟩;have g:(jb j).names.length=j.length:=X7 ..;have h:(jb j).items.length=j.length:=X7 ..;rw [g,h] at a ⊢;exact ⟨_,rfl,⟨c,f,b,d,rfl,a.carry m lz (fun _ _ _=>rfl)⟩,i⟩
theorem u7 (ln:Int) (hs:List Key2) (ha:Option Addr) (hc:Nat) (w:World) (hK:qJ w 0 w.heap.size ha hs) (hm:qP hs=true) :
 Calls Tryz.prog 19 #[.agg #[.int .i64 ln,.slice ha hs.length hc,.int .u8 0,.int .i64 0,.string ⟨#[]⟩,.slice none 0 0,.slice none 0 0]] w (jW (wM ⟨ln,hs,zeroJ⟩) w):=by
 obtain ⟨W,hW⟩:=O1 ((w.alloc (.cells #[.int .i64 ln,.slice ha hs.length hc,.int .u8 0,.int .i64 0,.string ⟨#[]⟩,.slice none 0 0,.slice none 0 0] 32)).alloc (.cells #[.int .u8 0,.int .i64 0,.string ⟨#[]⟩,.slice none 0 0,.slice none 0 0] 26));have a8:(w.alloc (.cells #[.int .i64 ln,.slice ha hs.length hc,.int .u8 0,.int .i64 0,.string ⟨#[]⟩,.slice none 0 0,.slice none 0 0] 32)).heap.size=w.heap.size+1:=by simp
 have hb:O5 w W:=by rw [hW];exact (O4).alloc (by simp) _
 have hx:W.heap[w.heap.size]?=some (.cells #[.int .i64 ln,.slice ha hs.length hc,.int .u8 0,.int .i64 0,.string ⟨#[]⟩,.slice none 0 0,.slice none 0 0] 32 (0,0)):=by rw [hW];exact qO w _ _
 have C:W.rowIs (w.heap.size+1) 26 5 (qo (.int .u8 0) (.int .i64 0) (.string ⟨#[]⟩) (.slice none 0 0) (.slice none 0 0)):=(by have:=qg (w.alloc (.cells #[.int .i64 ln,.slice ha hs.length hc,.int .u8 0,.int .i64 0,.string ⟨#[]⟩,.slice none 0 0,.slice none 0 0] 32)) (.int .u8 0) (.int .i64 0) (.string ⟨#[]⟩) (.slice none 0 0) (.slice none 0 0) 26;rw [a8,<- hW] at this;exact this);have P:=U (show ∀w':World,O5 W w'->w'.cell? ⟨w.heap.size,0,none⟩=some (.int .i64 ln)/\w'.cell? ⟨w.heap.size,1,none⟩=some (.slice ha hs.length hc)/\w'.cell? ⟨w.heap.size,2,none⟩=some (.int .u8 0)/\w'.cell? ⟨w.heap.size,3,none⟩=some (.int .i64 0)/\w'.cell? ⟨w.heap.size,4,none⟩=some (.string ⟨#[]⟩)/\w'.cell? ⟨w.heap.size,5,none⟩=some (.slice none 0 0)/\w'.cell? ⟨w.heap.size,6,none⟩=some (.slice none 0 0) from fun w' h=>by
  have y:=(h.block _ (qz hx)).trans hx;exact ⟨qq y rfl,qq y rfl,qq y rfl,qq y rfl,qq y rfl,qq y rfl,qq y rfl⟩)
 have T:=U C;have HB:=U hb;have Y:=O0 (w.heap.size+2<=W.heap.size) C.lt;have HW:=U hW;have b0:=O0 (∀w':World,O5 W w'->_) (fun w' h=>Zm hs ha hc W.heap.size w' h.size (hK.below (hb.trans (h.mono hb.size)) lz lz (Z3 hb.size h.size)) hm);have b1:=O0 (∀w':World,_) (fun w'=>(uY ln w').mono fun e w2 (h:e=.returned (.agg #[.int .u8 2,.int .i64 ln,.string ⟨#[]⟩,.slice none 0 0,.slice none 0 0])/\w2=w'.alloc (.cells #[.int .u8 2,.int .i64 ln,.string ⟨#[]⟩,.slice none 0 0,.slice none 0 0] 26))=>show e=.returned (.agg #[.int .u8 2,.int .i64 ln,.string ⟨#[]⟩,.slice none 0 0,.slice none 0 0])/\O5 w' w2 from ⟨h.1,by rw [h.2];exact O4⟩);have b4:=O0 ((jb hs).wt<=4294967296) (Z3 (dk hm) (by decide));have HJ:=O0 (wM ⟨ln,hs,zeroJ⟩=qN [(vD,jb hs),(ym,qB ln)]) rfl;obtain ⟨J,hJ⟩:=O1 (wM ⟨ln,hs,zeroJ⟩);rw [<- hJ] at HJ ⊢;clear hW hb hx C a8 hK hm hJ;obtain ⟨D,E,F,G,H,I,L⟩:=P.o W (Z0 _ _);go_enter Tryz.func19,Tryz.ntmps19;go_upto_region 1 with fail
 rw [<- HW.o];clear HW D E F G H I L;obtain ⟨V,hV⟩:∃V:List MP,V=[.con (.pointer (some ⟨w.heap.size,1,none⟩)),.con (.slice ha hs.length hc),.hv hs W.heap.size,.hm hs W.heap.size,.con (.pointer (some ⟨w.heap.size,0,none⟩)),.con (.int .i64 ln),.con (.agg #[.int .u8 2,.int .i64 ln,.string ⟨#[]⟩,.slice none 0 0,.slice none 0 0]),.con (.agg #[.string ⟨#[108,101,110,103,116,104]⟩,.int .u8 2,.int .i64 ln,.string ⟨#[]⟩,.slice none 0 0,.slice none 0 0]),.hr hs ln W.heap.size]:=⟨_,rfl⟩;have a:=U hV;clear hV;refine qH 9 (fun d a' w'=>∃x6 x7 x8 x9 x10 x11 x12 x13 x14,a'=⟨#[.agg #[.int .i64 ln,.slice ha hs.length hc,.int .u8 0,.int .i64 0,.string ⟨#[]⟩,.slice none 0 0,.slice none 0 0],.pointer (some ⟨w.heap.size,0,none⟩),.pointer (some ⟨w.heap.size+1,0,none⟩),undef,undef,undef,x6,x7,x8,x9,x10,x11,x12,x13,x14,undef,undef,undef,undef,undef,undef,undef,undef,undef,undef,undef,undef,undef,undef,undef,undef,undef],[]⟩/\zi W V d w' [x6,x7,x8,x9,x10,x11,x12,x13,x14]) (by kernel_rfl) (by kernel_rfl) ?first ?step ?last
 case first=>exact ⟨_,_,_,_,_,_,_,_,_,rfl,zi.first _ _ _ (by rw [a.o];rfl)⟩
 case step =>
  rintro d a' w' ⟨x6,x7,x8,x9,x10,x11,x12,x13,x14,rfl,h⟩ q hq hn l;rcases q with _|_|_|_|_|_|_|_|_|q
  . refine Z4 rfl fun K hK=>?_;go_simp;exact hK _ _ ⟨_,_,_,_,_,_,_,_,_,rfl,h.sameC 0 _ a rfl⟩
  . obtain rfl:=h.cn l a 0 .data;obtain ⟨D,E,F,G,H,I,L⟩:=P.o w' h.1;refine Z4 rfl fun K hK=>?_;go_simp;exact hK _ _ ⟨_,_,_,_,_,_,_,_,_,rfl,h.sameC 1 _ a rfl⟩
  . obtain rfl:=h.cn l a 1 .data;obtain ⟨D,E,F,G,H,I,L⟩:=P.o w' h.1;refine Z4 rfl fun K hK=>?_;go_simp;refine (b0.o w' h.1).mono ?_;rintro e w2 ⟨y,rfl,hy,z⟩;exact hK _ _ ⟨_,_,_,_,_,_,_,_,_,rfl,h.did z 2 _ (.hv hs W.heap.size) (by rw [a.o];rfl) hy⟩
  . have b6:=h.get 2 (O3 l 2 .data) (.hv hs W.heap.size) (by rw [a.o];rfl) _ rfl;obtain ⟨an,cn,ai,ci,rfl,hr⟩:=b6;refine Z4 rfl fun K hK=>?_;go_simp;exact hK _ _ ⟨_,_,_,_,_,_,_,_,_,rfl,h.same 3 _ (.hm hs W.heap.size) (by rw [a.o];rfl) ⟨an,cn,ai,ci,rfl,hr⟩⟩
  . refine Z4 rfl fun K hK=>?_;go_simp;exact hK _ _ ⟨_,_,_,_,_,_,_,_,_,rfl,h.sameC 4 _ a rfl⟩
  . obtain rfl:=h.cn l a 4 .data;obtain ⟨D,E,F,G,H,I,L⟩:=P.o w' h.1;refine Z4 rfl fun K hK=>?_;go_simp;exact hK _ _ ⟨_,_,_,_,_,_,_,_,_,rfl,h.sameC 5 _ a rfl⟩
  . obtain rfl:=h.cn l a 5 .data;obtain ⟨D,E,F,G,H,I,L⟩:=P.o w' h.1;refine Z4 rfl fun K hK=>?_;go_simp;refine (b1.o w').mono ?_;rintro e w2 ⟨rfl,z⟩;exact hK _ _ ⟨_,_,_,_,_,_,_,_,_,rfl,h.didC z 6 _ a rfl⟩
  . obtain rfl:=h.cn l a 6 .data;refine Z4 rfl fun K hK=>?_;go_simp;exact hK _ _ ⟨_,_,_,_,_,_,_,_,_,rfl,h.sameC 7 _ a rfl⟩
  . have b7:=h.get 3 (O3 l 3 .data) (.hm hs W.heap.size) (by rw [a.o];rfl) _ rfl;obtain ⟨an,cn,ai,ci,rfl,hr⟩:=b7;obtain rfl:=h.cn l a 7 .data;refine Z4 rfl fun K hK=>?_;go_simp;exact hK _ _ ⟨_,_,_,_,_,_,_,_,_,rfl,h.new _ 8 _ (.hr hs ln W.heap.size) (by rw [a.o];rfl) (⟨_,an,cn,ai,ci,rfl,h.1.size,Z5 _ _,hr.below O4 lz lz lz⟩)⟩
  . omega
 case last =>
  rintro d a' w' k ⟨x6,x7,x8,x9,x10,x11,x12,x13,x14,rfl,h⟩;have a4:=h.1;have a6:=h.get 8 (k _ (by omega)) (.hr hs ln W.heap.size) (by rw [a.o];rfl) _ rfl;have o:=U a4;clear h k a4 a;obtain ⟨g,an,cn,ai,ci,rfl,a2,a1,a3⟩:=a6;have R:=U (ef a2 a1 a3);clear a2 a1 a3;obtain ⟨D,E,F,G,H,I,L⟩:=P.o w' o.o;go_wp2_with fail;refine (dx none none 0 0 w').mono ?_;clear D E F G H I L;rintro e w4 ⟨rfl,A⟩;have m:=U (O2 o A);have Q:=U (R.o.below A);have b5:=U Y.o;clear A R;have S:=U (wj (v:=.slice (some ⟨g,0,none⟩) 2 2) [(vD,jb hs),(ym,qB ln)] (N:=[(vD,jb hs),(ym,qB ln)]) ⟨_,by simpa using Q.o,by simp [QV,jr]⟩ ⟨_,_,rfl⟩ (List.Perm.refl _) aY (by simp) (fun p hp=>by
   simp only [V6,V1,za4] at hp;rcases hp with rfl|rfl
   . exact b4.o
   . show (qB _).wt<=4294967296;rw [vL];decide) (by have:=b5.o;omega))
  clear Q;go_wp2_with fail;refine S.o.mono ?_;clear S;rintro e M ⟨s,x,r,u,rfl,a5,a0⟩;have f:O5 W M:=O2 m a0;obtain ⟨W9,i⟩:=O1 (M.alloc (.cells #[.int .u8 5,.int .i64 0,.string ⟨#[]⟩,.slice s 2 x,.slice r 2 u] 26));have c:=O7 i
  have a7:=O9 i
  have b:=qj (f.trans (c.mono f.size)) T.o T.o.lt;have b3:=U b;have b2:=U (Rep.below a5 (B:=M.heap.size) c lz lz c.size);have Z:=O0 (w.heap.size+2<=w4.heap.size) (Z3 Y.o m.o.size);have a9:=U (HB.o.trans ((f.trans (c.mono f.size)).mono HB.o.size));obtain ⟨z0,z1,z2,z3,z4⟩:=bx5 a7;obtain ⟨t0,t1,t2,t3,t4⟩:=rc5 b;obtain ⟨s0,s1,s2,s3,s4⟩:=rf5 b;simp only [qo] at t0 t1 t2 t3 t4;have X:=U i;clear b a5 a0 f c a7 i;go_upto_region 5 with fail
  rw [<- X.o];clear X;go_wp2;refine Z8 (X8 Tryz.results19 _ _ (w.heap.size+1) 26 _ (0,0) _ rfl (qr (set5 _ _ _ _ _ b3.o)) J7 rfl (by kernel_rfl)) rfl ?_;rw [HJ.o];refine ⟨s,x,r,u,rfl,?_,zf _ _ _ _ _ a9.o (by omega)⟩;exact Rep.carry (by have:=Z.o;omega) (show W9.heap.size<=_ by simp [World.setCell]) (fun j hj _=>xJ _ _ _ _ _ (by have:=Z.o;omega)) _ _ b2.o
theorem iI (ln:Int) (hs:List Key2) (ha:Option Addr) (hc:Nat) (w:World) (hK:qJ w 0 w.heap.size ha hs) (hf:RecFits ⟨ln,hs,zeroJ⟩) :
 Calls Tryz.prog 18 #[.agg #[.int .i64 ln,.slice ha hs.length hc,.int .u8 0,.int .i64 0,.string ⟨#[]⟩,.slice none 0 0,.slice none 0 0]] w fun e w'=>e=.returned (.bool (zF ⟨ln,hs,zeroJ⟩))/\O5 w w':=by
 obtain ⟨W,D⟩:=O1 (w.alloc (.cells #[.int .i64 ln,.slice ha hs.length hc,.int .u8 0,.int .i64 0,.string ⟨#[]⟩,.slice none 0 0,.slice none 0 0] 32));have x:=O7 D
 have H:=O9 D
 have F:=U (show ∀w':World,O5 W w'->w'.cell? ⟨w.heap.size,0,none⟩=some (.int .i64 ln)/\w'.cell? ⟨w.heap.size,1,none⟩=some (.slice ha hs.length hc)/\w'.cell? ⟨w.heap.size,2,none⟩=some (.int .u8 0)/\w'.cell? ⟨w.heap.size,3,none⟩=some (.int .i64 0)/\w'.cell? ⟨w.heap.size,4,none⟩=some (.string ⟨#[]⟩)/\w'.cell? ⟨w.heap.size,5,none⟩=some (.slice none 0 0)/\w'.cell? ⟨w.heap.size,6,none⟩=some (.slice none 0 0) from fun w' h=>by
  have y:=(h.block _ (qz H)).trans H;exact ⟨qq y rfl,qq y rfl,qq y rfl,qq y rfl,qq y rfl,qq y rfl,qq y rfl⟩)
 have K:=O0 (∀w':World,O5 W w'->qJ w' 0 w'.heap.size ha hs) (fun w' h=>hK.below (x.trans (h.mono x.size)) lz lz (Z3 x.size h.size));have i:=U x;have C:=U D;have N:=U hf;have f:=O0 (zF ⟨ln,hs,zeroJ⟩=(decide (0<=ln) && (decide (ln<=1099511627776) && qP hs))) rfl;have j:=U (mY hs ha hc W (K.o W (Z0 _ _)) (by have:=hf.len;dsimp only at this;omega) (fun k hk=>by have:=hf.sz k hk;omega));obtain ⟨V,L⟩:=O1 (zF ⟨ln,hs,zeroJ⟩);rw [<- L] at f ⊢;clear D x H hK hf L;obtain ⟨l,m,o,p,q,r,s⟩:=F.o W (Z0 _ _);by_cases h0:0<=ln
 case neg =>
  have P:decide (ln<0)=true:=by simpa using h0
  have g:=O0 (V=false) (by rw [f.o];simp [h0]);clear h0;go_enter Tryz.func18,Tryz.ntmps18;go_upto_region 1 with fail
  rw [<- C.o];go_wp2;go_ret;exact ⟨qx g.o.symm,i.o⟩
 have P:decide (ln<0)=false:=by simpa using h0
 by_cases h1:ln<=1099511627776
 case neg =>
  have Q:decide (1099511627776<ln)=true:=by simpa using h1
  have g:=O0 (V=false) (by rw [f.o];simp [h1]);clear h0 h1;go_enter Tryz.func18,Tryz.ntmps18;go_upto_region 1 with fail
  rw [<- C.o];go_wp2;go_ret;exact ⟨qx g.o.symm,i.o⟩
 have Q:decide (1099511627776<ln)=false:=by simpa using h1
 replace f:=O0 (V=qP hs) (by rw [f.o];simp [h0,h1]);have G:=O0 (qP hs=true->(wM ⟨ln,hs,zeroJ⟩).mayB=true) (fun h=>N.o.may (by simp [zF,h0,h1,h]));clear h0 h1;go_enter Tryz.func18,Tryz.ntmps18;go_upto_region 1 with fail
 rw [<- C.o];clear C;cases hmh:qP hs with
 | false => rw [hmh] at j;have g:=O0 (V=false) (by rw [f.o,hmh]);clear hmh;go_wp2_with fail;refine j.o.mono ?_;clear j l m o p q r s;rintro e I ⟨rfl,b⟩;have a:=U (O2 i b);clear b;go_wp2;go_ret;exact ⟨qx g.o.symm,a.o⟩
 | true =>
 have d:=U hmh;rw [hmh] at j;have g:=O0 (V=true) (by rw [f.o,hmh]);clear hmh;go_wp2_with fail;refine j.o.mono ?_;clear j l m o p q r s;rintro e I ⟨rfl,b⟩;have a:=U b;clear b;obtain ⟨l,m,o,p,q,r,s⟩:=F.o I a.o;go_wp2_with fail;refine (dx none none 0 0 I).mono ?_;clear l m o p q r s;rintro e J ⟨rfl,z⟩;have c:=U (O2 a z);clear z;obtain ⟨l,m,o,p,q,r,s⟩:=F.o J c.o;go_wp2_with fail;refine (u7 ln hs ha hc J (K.o J c.o) d.o).mono ?_;clear l m o p q r s;rintro e R ⟨T,Y,S,X,rfl,M,A⟩;have v:=U (xm _ _ R (Z3 (nY d.o) (by decide)) (M.carry (J0 _) lz (fun _ _ _=>rfl)));rw [G.o d.o] at v;have u:=U (O2 c A);clear M A;go_wp2_with fail;refine v.o.mono ?_;rintro e Z ⟨rfl,B⟩;have E:=U (O2 i (O2 u B));clear B;go_wp2;go_ret;exact ⟨qx g.o.symm,E.o⟩
theorem lK (ln:Int) (hs:List Key2) (ha:Option Addr) (hc:Nat) (w:World) (hK:qJ w 0 w.heap.size ha hs) (hf:RecFits ⟨ln,hs,zeroJ⟩) (hm:zF ⟨ln,hs,zeroJ⟩=true) :
 Calls Tryz.prog 5 #[.agg #[.int .i64 ln,.slice ha hs.length hc,.int .u8 0,.int .i64 0,.string ⟨#[]⟩,.slice none 0 0,.slice none 0 0]] w (pU (wM ⟨ln,hs,zeroJ⟩) w):=by
 obtain ⟨W,k⟩:=O1 ((w.alloc (.cells #[.int .i64 ln,.slice ha hs.length hc,.int .u8 0,.int .i64 0,.string ⟨#[]⟩,.slice none 0 0,.slice none 0 0] 32)).alloc (.cells #[.int .u8 0,.int .i64 0,.string ⟨#[]⟩,.slice none 0 0,.slice none 0 0] 26));have p:(w.alloc (.cells #[.int .i64 ln,.slice ha hs.length hc,.int .u8 0,.int .i64 0,.string ⟨#[]⟩,.slice none 0 0,.slice none 0 0] 32)).heap.size=w.heap.size+1:=by simp
 have l:O5 w W:=by rw [k];exact (O4).alloc (by simp) _
 have z:W.heap[w.heap.size]?=some (.cells #[.int .i64 ln,.slice ha hs.length hc,.int .u8 0,.int .i64 0,.string ⟨#[]⟩,.slice none 0 0,.slice none 0 0] 32 (0,0)):=by rw [k];exact qO w _ _
 have d:W.rowIs (w.heap.size+1) 26 5 (qo (.int .u8 0) (.int .i64 0) (.string ⟨#[]⟩) (.slice none 0 0) (.slice none 0 0)):=(by have:=qg (w.alloc (.cells #[.int .i64 ln,.slice ha hs.length hc,.int .u8 0,.int .i64 0,.string ⟨#[]⟩,.slice none 0 0,.slice none 0 0] 32)) (.int .u8 0) (.int .i64 0) (.string ⟨#[]⟩) (.slice none 0 0) (.slice none 0 0) 26;rw [p,<- k] at this;exact this);have I:=U (show ∀w':World,O5 W w'->w'.cell? ⟨w.heap.size,0,none⟩=some (.int .i64 ln)/\w'.cell? ⟨w.heap.size,1,none⟩=some (.slice ha hs.length hc)/\w'.cell? ⟨w.heap.size,2,none⟩=some (.int .u8 0)/\w'.cell? ⟨w.heap.size,3,none⟩=some (.int .i64 0)/\w'.cell? ⟨w.heap.size,4,none⟩=some (.string ⟨#[]⟩)/\w'.cell? ⟨w.heap.size,5,none⟩=some (.slice none 0 0)/\w'.cell? ⟨w.heap.size,6,none⟩=some (.slice none 0 0) from fun w' h=>by
  have y:=(h.block _ (qz z)).trans z;exact ⟨qq y rfl,qq y rfl,qq y rfl,qq y rfl,qq y rfl,qq y rfl,qq y rfl⟩)
 have f:=U d;have H:=U l;have g:=O0 (w.heap.size+2<=W.heap.size) d.lt;have K:=U k;have u:=O0 (qP hs=true) (by unfold zF at hm;simp only [J5] at hm;exact hm.2.2);have J:=O0 (∀w':World,O5 W w'->qJ w' 0 w'.heap.size ha hs) (fun w' h=>hK.below (l.trans (h.mono l.size)) lz lz (Z3 l.size h.size));have s:=U (iI ln hs ha hc W (J.o W (Z0 _ _)) hf);rw [hm] at s;clear k l z d p hK hm hf;obtain ⟨A,B,C,D,E,F,G⟩:=I.o W (Z0 _ _);go_enter Tryz.func5,Tryz.ntmps5;go_upto_region 1 with fail
 rw [<- K.o];clear K;go_wp2_with fail;refine s.o.mono ?_;clear s A B C D E F G;rintro e q ⟨rfl,m⟩;have b:=U m;clear m;obtain ⟨A,B,C,D,E,F,G⟩:=I.o q b.o;go_wp2_with fail;refine (u7 ln hs ha hc q (J.o q b.o) u.o).mono ?_;clear A B C D E F G;rintro e M ⟨P,R,N,Q,rfl,L,o⟩;have c:O5 W M:=O2 b o;have a:=qj c f.o f.o.lt;have x:=U a;have v:=U L;have r:=U (O2 H c);have i:=O0 (W.heap.size<=q.heap.size) b.o.size;obtain ⟨S,T,V,X,Y⟩:=rc5 a;obtain ⟨Z,s1,s2,s3,s4⟩:=rf5 a;simp only [qo] at S T V X Y;clear a L o c;go_wp2;refine Z8 (qk Tryz.results5 _ _ (w.heap.size+1) 26 _ (0,0) _ rfl (qr (set5 _ _ _ _ _ x.o)) J7 rfl (by kernel_rfl) _ rfl) rfl ?_;refine ⟨P,R,N,Q,rfl,?_,zf _ _ _ _ _ r.o (by omega)⟩;exact Rep.carry (by have:=g.o;have:=i.o;omega) (show M.heap.size<=_ by simp [World.setCell]) (fun j hj _=>xJ _ _ _ _ _ (by have:=g.o;have:=i.o;omega)) _ _ v.o
