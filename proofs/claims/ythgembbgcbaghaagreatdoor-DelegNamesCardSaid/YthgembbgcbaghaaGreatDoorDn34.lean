import Derived.Test.YthgembbgcbaghaaGreatDoorDn23
set_option maxHeartbeats 4000000
set_option maxRecDepth 100000

namespace Go.Proofs.YthgembbgcbaghaaGreatDoor
open Go.RowKit
theorem iI {w:World} {b T:Nat} {a c d e f:Value} (h:w.heap[b]?=some (.cells #[a,c,d,e,f] T (0,0))):w.rowIs b T 5 (qB a c d e f):=⟨_,h,rfl,fun i hi=>by rcases i with _|_|_|_|_|i <;> first|rfl|omega⟩
theorem qY {w:World} {b T:Nat} {a c d e f:Value} (h:w.heap[b]?=some (.cells #[a,c,d,e,f] T (0,0))):w.cell? ⟨b,0,none⟩=some a/\w.cell? ⟨b,1,none⟩=some c/\w.cell? ⟨b,2,none⟩=some d/\w.cell? ⟨b,3,none⟩=some e/\w.cell? ⟨b,4,none⟩=some f:=⟨qq h rfl,qq h rfl,qq h rfl,qq h rfl,qq h rfl⟩
theorem fp (t:ByteArray) (w:World):Calls Tryz.prog 26 #[.string t] w fun e w'=>e=.returned (.agg #[.int .u8 3,.int .i64 0,.string t,.slice none 0 0,.slice none 0 0])/\w'=w.alloc (.cells #[.int .u8 3,.int .i64 0,.string t,.slice none 0 0,.slice none 0 0] 25):=by go_enter Tryz.func26,Tryz.ntmps26;go_wp2;exact Q3 (J2 Tryz.results26 _ _ w.heap.size 25 _ (0,0) _ rfl (Z4 w _) Q6 rfl (by kernel_rfl)) rfl ⟨rfl,rfl⟩
theorem yH (b:Option Addr) (m d:Nat) (w:World):Calls Tryz.prog 25 #[.slice b m d] w fun e w'=>e=.returned (.agg #[.int .u8 4,.int .i64 0,.string ⟨#[]⟩,.slice none 0 0,.slice b m d])/\w'=w.alloc (.cells #[.int .u8 4,.int .i64 0,.string ⟨#[]⟩,.slice none 0 0,.slice b m d] 25):=by go_enter Tryz.func25,Tryz.ntmps25;go_wp2;exact Q3 (J2 Tryz.results25 _ _ w.heap.size 25 _ (0,0) _ rfl (Z4 w _) Q6 rfl (by kernel_rfl)) rfl ⟨rfl,rfl⟩
theorem mr (a b:Option Addr) (n c m d:Nat) (w:World):Calls Tryz.prog 29 #[.slice a n c,.slice b m d] w fun e w'=>e=.returned (.agg #[.int .u8 5,.int .i64 0,.string ⟨#[]⟩,.slice a n c,.slice b m d])/\w'=w.alloc (.cells #[.int .u8 5,.int .i64 0,.string ⟨#[]⟩,.slice a n c,.slice b m d] 25):=by go_enter Tryz.func29,Tryz.ntmps29;go_wp2;exact Q3 (J2 Tryz.results29 _ _ w.heap.size 25 _ (0,0) _ rfl (Z4 w _) Q6 rfl (by kernel_rfl)) rfl ⟨rfl,rfl⟩
theorem gy (B:Nat) (t:ByteArray) (w:World):Calls Tryz.prog 26 #[.string t] w fun e w'=>∃z,e=.returned z/\qv B (txtJ t) w' z/\O5 w w' :=
 (fp t w).mono fun _ _ h=>⟨_,h.1,bk _ _ _,by rw [h.2];exact O4⟩
theorem vX (B:Nat) (w:World):Calls Tryz.prog 25 #[.slice none 0 0] w fun e w'=>∃z,e=.returned z/\qv B (qk []) w' z/\O5 w w' :=
 (yH none 0 0 w).mono fun _ _ h=>⟨_,h.1,jz _ _ _ _ _,by rw [h.2];exact O4⟩
theorem tw (B:Nat) (w:World):Calls Tryz.prog 29 #[.slice none 0 0,.slice none 0 0] w fun e w'=>∃z,e=.returned z/\qv B eJ w' z/\O5 w w' :=
 (mr none none 0 0 0 0 w).mono fun _ _ h=>⟨_,h.1,jz _ _ _ _ _,by rw [h.2];exact O4⟩
theorem sm {B T:Nat} {w:World} {y:Value} (l:List JV) (u:zZ B T l w y):qv B (qk l) w (.agg #[.int .u8 4,.int .i64 0,.string ⟨#[]⟩,.slice none 0 0,y]):=by obtain ⟨d,s,rfl,b,a,k⟩:=u;refine ⟨none,0,some ⟨d,0,none⟩,l.length,rfl,?_⟩;refine Rep.mk (v:=.mk 4 0 ⟨#[]⟩ [] l) lz lz (.inl rfl) ?_;refine .inr ⟨d,0,rfl,b,qz a,⟨_,_,_,a,fun _=>rfl⟩,zE.of_at fun i hi=>?_⟩;obtain ⟨e,f,g,h,j,m,o,p,q,r,c⟩:=k i hi;obtain ⟨_,_,_,_,_,c⟩:=c;simp only [N6];exact ⟨e,f,g,h,j,qq a m,qq a o,qq a p,qq a q,qq a r,by simp [World.frozen?,a],c⟩
theorem mn {B T:Nat} {w:World} {x:Value} (l:List JV) (h:zZ B T l w x):Calls Tryz.prog 25 #[x] w fun e w'=>∃z,e=.returned z/\qv B (qk l) w' z/\O5 w w':=by
 obtain ⟨b,c,rfl,d⟩:=h;refine (yH _ _ _ w).mono ?_;rintro e w' ⟨rfl,f⟩;have a:=O7 f
 exact ⟨_,rfl,sm l (zZ.mono a ⟨b,c,rfl,d⟩),a⟩
theorem wW {B T:Nat} {w:World} {x y:Value} (j:List ByteArray) (l:List JV) (k:zM B j.length 9 (strs j) w x) (m:zZ B T l w y) :
 Calls Tryz.prog 29 #[x,y] w fun e w'=>∃z,e=.returned z/\qv B (.mk 5 0 ⟨#[]⟩ j l) w' z/\O5 w w':=by
 obtain ⟨b,f,rfl,g⟩:=k;obtain ⟨c,d,rfl,h⟩:=m;refine (mr _ _ _ _ _ _ w).mono ?_;rintro e w' ⟨rfl,i⟩;have a:=O7 i
 exact ⟨_,rfl,oy j l (zM.mono a ⟨b,f,rfl,g⟩) (zZ.mono a ⟨c,d,rfl,h⟩),a⟩
def vJ (B:Nat) (w:World) (p:Nat) (J:JV):Prop:=∃c0 c1 c2 c3 c4,w.heap[p]?=some (.cells #[c0,c1,c2,c3,c4] 25 (0,0))/\qv B J w (.agg #[c0,c1,c2,c3,c4])
theorem vJ.below {B:Nat} {w w':World} {p:Nat} {J:JV} (i:O5 w w') (h:vJ B w p J):vJ B w' p J:=by obtain ⟨b,c,d,e,f,a,g⟩:=h;exact ⟨b,c,d,e,f,(i.block _ (qz a)).trans a,g.mono i⟩
theorem vJ.stored {B a:Nat} {J:JV} {p w:World} {h i j k l:Value} {b:Nat} (s:J.solid=true) (o:w.heap[b]?=some (.cells zg 25 (0,0))) (m:qv B J w (.agg #[h,i,j,k,l])) (q:Below a p w) (r:a<=b) :
 vJ B ((((w.setCell ⟨b,0,none⟩ h).setCell ⟨b,1,none⟩ i).setCell ⟨b,2,none⟩ j).setCell ⟨b,3,none⟩ k |>.setCell ⟨b,4,none⟩ l) b J/\Below a p ((((w.setCell ⟨b,0,none⟩ h).setCell ⟨b,1,none⟩ i).setCell ⟨b,2,none⟩ j).setCell ⟨b,3,none⟩ k |>.setCell ⟨b,4,none⟩ l):=by
 obtain ⟨d,f,c,e,g,m⟩:=m;refine ⟨⟨h,i,j,k,l,qJ (set5 _ _ _ _ _ (iI o)),d,f,c,e,g,?_⟩,zn _ _ _ _ _ q r⟩;exact Rep.carry lz (X6 (by simp [World.setCell])) (fun _ _ _=>rfl) _ _ (Rep.skip o (fun x hx=>js _ _ _ _ _ hx) _ _ s m)
def sd (B:Nat) (J:JV) (e:Int) (w:World) (x:Value):Prop:=∃c0 c1 c2 c3 c4,x=.agg #[c0,c1,c2,c3,c4,.int .i64 e]/\qv B J w (.agg #[c0,c1,c2,c3,c4])
def MP.pairQ (B:Nat) (J:JV) (e:Int):MP:=⟨sd B J e,fun _ _ _ hb ⟨c0,c1,c2,c3,c4,h,hr⟩=>⟨c0,c1,c2,c3,c4,h,hr.mono hb⟩⟩
def vA (B T:Nat) (l:List (JV × Int)) (w:World) (x:Value):Prop:=∃b cs,x=.slice (some ⟨b,0,none⟩) l.length l.length/\B<=b/\w.heap[b]?=some (.cells cs T (0,0))/\∀i (h:i<l.length),vh B w cs (i * 6) l[i].1/\cs[i * 6+5]?=some (.int .i64 l[i].2)
theorem vA.mono {B T:Nat} {l:List (JV × Int)} {w w':World} {x:Value} (g:O5 w w') (h:vA B T l w x):vA B T l w' x:=by obtain ⟨b,d,e,f,a,c⟩:=h;exact ⟨b,d,e,f,by rw [g.block _ (qz a)];exact a,fun i hi=>⟨(c i hi).1.mono g,(c i hi).2⟩⟩
def MP.tabQ (B T:Nat) (l:List (JV × Int)):MP:=⟨vA B T l,fun _ _ _ hb h=>h.mono hb⟩
theorem py (t:ByteArray) (w:World):Calls Tryz.prog 26 #[.string t] w fun e w'=>e=.returned (.agg #[.int .u8 3,.int .i64 0,.string t,.slice none 0 0,.slice none 0 0])/\O5 w w' :=
 (fp t w).mono fun _ _ h=>⟨h.1,by rw [h.2];exact O4⟩
theorem pg (b:Option Addr) (m d:Nat) (w:World):Calls Tryz.prog 25 #[.slice b m d] w fun e w'=>e=.returned (.agg #[.int .u8 4,.int .i64 0,.string ⟨#[]⟩,.slice none 0 0,.slice b m d])/\O5 w w' :=
 (yH b m d w).mono fun _ _ h=>⟨h.1,by rw [h.2];exact O4⟩
theorem rQ (B:Nat) (n:ByteArray) (J:JV) (x:Value) (p1 p2 p3:Nat) (w:World) (hB:B<=w.heap.size) (hx:qv B J w x) (hJ:J.solid=true) (h1:vJ B w p1 jj) (h2:vJ B w p2 (qA true)) (h3:vJ B w p3 (qZ 1)) :
 Calls Tryz.prog 28 #[.string n,x,.pointer (some ⟨p1,0,none⟩),.pointer (some ⟨p2,0,none⟩),.pointer (some ⟨p3,0,none⟩)] w fun e w'=>∃z,e=.returned z/\qv B (rJ n J) w' z/\O5 w w':=by
 obtain ⟨x0,x1,x2,x3,x4,rfl,hx⟩:=qv.five hx;obtain ⟨a0,a1,a2,a3,a4,ha,L⟩:=h1;obtain ⟨b0,b1,b2,b3,b4,hb,M⟩:=h2;obtain ⟨c0,c1,c2,c3,c4,hc,N⟩:=h3;have X:=U (show (rJ n J).solid=true from by
  refine cv fun p hp=>?_;simp only [Y5,Y7,M3] at hp;rcases hp with rfl|rfl|rfl|rfl|rfl
  . exact ⟨by decide,by decide +kernel⟩
  . exact ⟨show zb≠⟨#[]⟩ from by decide,cj _⟩
  . exact ⟨show xm≠⟨#[]⟩ from by decide,hJ⟩
  . exact ⟨by decide,by decide +kernel⟩
  . exact ⟨by decide,cz _⟩)
 clear hJ;obtain ⟨u,l⟩:=O1 w.heap.size;obtain ⟨j,k⟩:=O1 (w.alloc (.cells #[x0,x1,x2,x3,x4] 25));obtain ⟨g,m⟩:=O1 j.heap.size;obtain ⟨W,S⟩:=O1 (j.alloc (.cells zg 25));have o:=O7 k
 have D:=O7 S
 have f:O5 w W:=o.trans (D.mono o.size);have C:j.heap[u]?=some (.cells #[x0,x1,x2,x3,x4] 25 (0,0)):=by rw [k,l];exact Z4 w _
 have H:=U ((D.block _ (qz C)).trans C);have a:=U (show W.heap[g]?=some (.cells zg 25 (0,0)) by rw [S,m];exact Z4 j _);have r:=U (show ∀w',O5 W w'->(w'.heap[u]?=some (.cells #[x0,x1,x2,x3,x4] 25 (0,0))/\w'.heap[p1]?=some (.cells #[a0,a1,a2,a3,a4] 25 (0,0))/\w'.heap[p2]?=some (.cells #[b0,b1,b2,b3,b4] 25 (0,0))/\w'.heap[p3]?=some (.cells #[c0,c1,c2,c3,c4] 25 (0,0)))/\qv B J w' (.agg #[x0,x1,x2,x3,x4])/\qv B jj w' (.agg #[a0,a1,a2,a3,a4])/\qv B (qA true) w' (.agg #[b0,b1,b2,b3,b4])/\qv B (qZ 1) w' (.agg #[c0,c1,c2,c3,c4]) from fun w' h=>by
  have A:=f.trans (h.mono f.size);exact ⟨⟨(h.block _ (qz H.o)).trans H.o,(A.block _ (qz ha)).trans ha,(A.block _ (qz hb)).trans hb,(A.block _ (qz hc)).trans hc⟩,hx.mono A,L.mono A,M.mono A,N.mono A⟩)
 have E:=U f;have F:=O0 (B<=W.heap.size) (Z5 hB f.size);have Y:=U (show w.heap.size<=g by rw [m];exact o.size);have G:=O0 ((j=w.alloc (.cells #[x0,x1,x2,x3,x4] 25)/\u=w.heap.size)/\W=j.alloc (.cells zg 25)/\u+1=g) (⟨⟨k,l⟩,S,by rw [m,k,l];simp⟩);clear k l S m o D f C hB hx ha hb hc L M N;go_enter Tryz.func28,Tryz.ntmps28;go_upto_region 1 with fail
 rw [<- G.o.1.1,<- G.o.1.2,show (#[.int .u8 0,.int .i64 0,.string ⟨#[]⟩,.slice none 0 0,.slice none 0 0]:Array Value)=zg from rfl,<- G.o.2.1,G.o.2.2];clear G;obtain ⟨V,hV⟩:∃V:List MP,V=[.row B 5 9 (strs [⟨#[107,101,121,105,100,115]⟩,⟨#[110,97,109,101]⟩,⟨#[112,97,116,104,115]⟩,⟨#[116,101,114,109,105,110,97,116,105,110,103]⟩,⟨#[116,104,114,101,115,104,111,108,100]⟩]),.con (.agg #[a0,a1,a2,a3,a4]),.con (.string n),.rep B (txtJ n),.con (.agg #[x0,x1,x2,x3,x4]),.con (.agg #[b0,b1,b2,b3,b4]),.con (.agg #[c0,c1,c2,c3,c4]),.vals B 25 [jj,txtJ n,J,qA true,qZ 1],.rep B (rJ n J)]:=⟨_,rfl⟩;have b:=U hV;clear hV;refine qM 9 (fun d Z w'=>∃x8 x9 x10 x11 x12 x13 x14 x15 x16,Z=⟨#[.string n,.agg #[x0,x1,x2,x3,x4],.pointer (some ⟨p1,0,none⟩),.pointer (some ⟨p2,0,none⟩),.pointer (some ⟨p3,0,none⟩),undef,.pointer (some ⟨u,0,none⟩),.pointer (some ⟨g,0,none⟩),x8,x9,x10,x11,x12,x13,x14,x15,x16],[]⟩/\za W V d w' [x8,x9,x10,x11,x12,x13,x14,x15,x16]) (by kernel_rfl) (by kernel_rfl) ?first ?step ?last
 case first=>exact ⟨_,_,_,_,_,_,_,_,_,rfl,za.first _ _ _ (by rw [b.o];rfl)⟩
 case step =>
  rintro d Z w' ⟨x8,x9,x10,x11,x12,x13,x14,x15,x16,rfl,h⟩ q hq hn f;rcases q with _|_|_|_|_|_|_|_|_|q
  . refine Z3 rfl fun K hK=>?_;go_simp;exact hK _ _ ⟨_,_,_,_,_,_,_,_,_,rfl,h.new _ 0 _ (.row B 5 9 (strs [⟨#[107,101,121,105,100,115]⟩,⟨#[110,97,109,101]⟩,⟨#[112,97,116,104,115]⟩,⟨#[116,101,114,109,105,110,97,116,105,110,103]⟩,⟨#[116,104,114,101,115,104,111,108,100]⟩])) (by rw [b.o];rfl) (zM.made _ (Z5 F.o h.1.size))⟩
  . obtain ⟨q0,q1,q2,q3,q4⟩:=qY (r.o w' h.1).1.2.1;refine Z3 rfl fun K hK=>?_;go_simp;exact hK _ _ ⟨_,_,_,_,_,_,_,_,_,rfl,h.sameC 1 _ b rfl⟩
  . refine Z3 rfl fun K hK=>?_;go_simp;exact hK _ _ ⟨_,_,_,_,_,_,_,_,_,rfl,h.sameC 2 _ b rfl⟩
  . obtain rfl:=h.cn f b 2 .data
    skip
    refine Z3 rfl fun K hK=>?_;go_simp;refine (gy B n w').mono ?_;rintro e w2 ⟨y,rfl,hy,v⟩;exact hK _ _ ⟨_,_,_,_,_,_,_,_,_,rfl,h.did v 3 _ (.rep B (txtJ n)) (by rw [b.o];rfl) hy⟩
  . obtain ⟨q0,q1,q2,q3,q4⟩:=qY (r.o w' h.1).1.1;refine Z3 rfl fun K hK=>?_;go_simp;exact hK _ _ ⟨_,_,_,_,_,_,_,_,_,rfl,h.sameC 4 _ b rfl⟩
  . obtain ⟨q0,q1,q2,q3,q4⟩:=qY (r.o w' h.1).1.2.2.1;refine Z3 rfl fun K hK=>?_;go_simp;exact hK _ _ ⟨_,_,_,_,_,_,_,_,_,rfl,h.sameC 5 _ b rfl⟩
  . obtain ⟨q0,q1,q2,q3,q4⟩:=qY (r.o w' h.1).1.2.2.2;refine Z3 rfl fun K hK=>?_;go_simp;exact hK _ _ ⟨_,_,_,_,_,_,_,_,_,rfl,h.sameC 6 _ b rfl⟩
  . obtain rfl:=h.cn f b 1 .data;have P:=h.get 3 (O3 f 3 .data) (.rep B (txtJ n)) (by rw [b.o];rfl) _ rfl;obtain ⟨tn,tc,ti,td,rfl,tr⟩:=P;obtain rfl:=h.cn f b 4 .data;obtain rfl:=h.cn f b 5 .data;obtain rfl:=h.cn f b 6 .data;refine Z3 rfl fun K hK=>?_;go_simp;exact hK _ _ ⟨_,_,_,_,_,_,_,_,_,rfl,h.new _ 7 _ (.vals B 25 [jj,txtJ n,J,qA true,qZ 1]) (by rw [b.o];rfl) (⟨_,_,rfl,Z5 F.o h.1.size,Z4 _ _,fun i hi=>match i,hi with|0,_=>⟨_,_,_,_,_,rfl,rfl,rfl,rfl,rfl,qv.mono (show O5 w' (w'.alloc _) from O4) (r.o w' h.1).2.2.1⟩|1,_=>⟨_,_,_,_,_,rfl,rfl,rfl,rfl,rfl,qv.mono (show O5 w' (w'.alloc _) from O4) ⟨tn,tc,ti,td,rfl,tr⟩⟩|2,_=>⟨_,_,_,_,_,rfl,rfl,rfl,rfl,rfl,qv.mono (show O5 w' (w'.alloc _) from O4) (r.o w' h.1).2.1⟩|3,_=>⟨_,_,_,_,_,rfl,rfl,rfl,rfl,rfl,qv.mono (show O5 w' (w'.alloc _) from O4) (r.o w' h.1).2.2.2.1⟩|4,_=>⟨_,_,_,_,_,rfl,rfl,rfl,rfl,rfl,qv.mono (show O5 w' (w'.alloc _) from O4) (r.o w' h.1).2.2.2.2⟩⟩)⟩
  . obtain ⟨b8,k8,rfl,m8⟩:=h.get 0 (O3 f 0 .data) (.row B 5 9 (strs [⟨#[107,101,121,105,100,115]⟩,⟨#[110,97,109,101]⟩,⟨#[112,97,116,104,115]⟩,⟨#[116,101,114,109,105,110,97,116,105,110,103]⟩,⟨#[116,104,114,101,115,104,111,108,100]⟩])) (by rw [b.o];rfl) _ rfl;have Q:=h.get 7 (O3 f 7 .data) (.vals B 25 [jj,txtJ n,J,qA true,qZ 1]) (by rw [b.o];rfl) _ rfl
    skip
    refine Z3 rfl fun K hK=>?_;go_simp;refine (wW (B:=B) [⟨#[107,101,121,105,100,115]⟩,⟨#[110,97,109,101]⟩,⟨#[112,97,116,104,115]⟩,⟨#[116,101,114,109,105,110,97,116,105,110,103]⟩,⟨#[116,104,114,101,115,104,111,108,100]⟩] [jj,txtJ n,J,qA true,qZ 1] ⟨b8,k8,rfl,m8⟩ Q).mono ?_;rintro e w2 ⟨y,rfl,hy,v⟩;exact hK _ _ ⟨_,_,_,_,_,_,_,_,_,rfl,h.did v 8 _ (.rep B (rJ n J)) (by rw [b.o];rfl) hy⟩
  . omega
 case last =>
  rintro d Z w' s ⟨x8,x9,x10,x11,x12,x13,x14,x15,x16,rfl,h⟩;have I:=h.1;have R:=h.get 8 (s _ (by omega)) (.rep B (rJ n J)) (by rw [b.o];rfl) _ rfl;have c:=U I;clear h s I b;obtain ⟨yn,yc,yi,yd,rfl,yr⟩:=R;have T:=U (vJ.stored X.o ((c.o.block _ (qz a.o)).trans a.o) ⟨yn,yc,yi,yd,rfl,yr⟩ (E.o.trans (c.o.mono E.o.size)) Y.o);have s0:w'.frozen? ⟨g,0,none⟩=false:=by simp [World.frozen?,(c.o.block _ (qz a.o)).trans a.o]
  have s1:w'.frozen? ⟨g,1,none⟩=false:=by simp [World.frozen?,(c.o.block _ (qz a.o)).trans a.o]
  have s2:w'.frozen? ⟨g,2,none⟩=false:=by simp [World.frozen?,(c.o.block _ (qz a.o)).trans a.o]
  have s3:w'.frozen? ⟨g,3,none⟩=false:=by simp [World.frozen?,(c.o.block _ (qz a.o)).trans a.o]
  have s4:w'.frozen? ⟨g,4,none⟩=false:=by simp [World.frozen?,(c.o.block _ (qz a.o)).trans a.o]
  obtain ⟨z0,z1,z2,z3,z4⟩:=qY ((c.o.block _ (qz a.o)).trans a.o);clear yr;go_wp2;obtain ⟨⟨r0,r1,r2,r3,r4,a5,a6⟩,a7⟩:=T.o;refine Q3 (J2 Tryz.results28 _ _ g 25 _ (0,0) _ rfl a5 Q6 rfl (by kernel_rfl)) rfl ?_;exact ⟨_,rfl,a6,a7⟩
theorem od (B:Nat) (p:Nat) (w:World) (hB:B<=w.heap.size) (h1:vJ B w p eJ) :
 Calls Tryz.prog 30 #[.slice none 0 0,.pointer (some ⟨p,0,none⟩)] w fun e w'=>∃z,e=.returned z/\qv B (dOf []) w' z/\O5 w w':=by
 obtain ⟨E,F,G,H,I,J,s⟩:=h1;have A:=O0 ((dOf []).solid=true) (by decide +kernel);obtain ⟨f,j⟩:=O1 w.heap.size;obtain ⟨W,u⟩:=O1 (w.alloc (.cells zg 25));have g:=O7 u
 have a:=U (show W.heap[f]?=some (.cells zg 25 (0,0)) by rw [u,j];exact Z4 w _);have T:=U (show ∀w',O5 W w'->w'.heap[p]?=some (.cells #[E,F,G,H,I] 25 (0,0))/\qv B eJ w' (.agg #[E,F,G,H,I]) from fun w' h=>by
  have Y:=g.trans (h.mono g.size);exact ⟨(Y.block _ (qz J)).trans J,s.mono Y⟩)
 have m:=U g;have o:=O0 (B<=W.heap.size) (Z5 hB g.size);have C:=O0 (w.heap.size<=f) (X6 j.symm);have v:=O0 (W=w.alloc (.cells zg 25)/\f=w.heap.size) (⟨u,j⟩);clear j u g hB J s;go_enter Tryz.func30,Tryz.ntmps30;go_upto_region 1 with fail
 rw [show (#[.int .u8 0,.int .i64 0,.string ⟨#[]⟩,.slice none 0 0,.slice none 0 0]:Array Value)=zg from rfl,<- v.o.1,<- v.o.2];clear v;obtain ⟨V,X⟩:∃V:List MP,V=[.row B 2 9 (strs [⟨#[107,101,121,115]⟩,⟨#[114,111,108,101,115]⟩]),.con (.agg #[E,F,G,H,I]),.con (.slice none 0 0),.rep B (qk []),.vals B 25 [eJ,qk []],.rep B (dOf [])]:=⟨_,rfl⟩;have c:=U X;clear X;refine qM 6 (fun d D w'=>∃x4 x5 x6 x7 x8 x9,D=⟨#[.slice none 0 0,.pointer (some ⟨p,0,none⟩),undef,.pointer (some ⟨f,0,none⟩),x4,x5,x6,x7,x8,x9],[]⟩/\za W V d w' [x4,x5,x6,x7,x8,x9]) (by kernel_rfl) (by kernel_rfl) ?first ?step ?last
 case first=>exact ⟨_,_,_,_,_,_,rfl,za.first _ _ _ (by rw [c.o];rfl)⟩
 case step =>
  rintro d D w' ⟨x4,x5,x6,x7,x8,x9,rfl,h⟩ q hq hn g;rcases q with _|_|_|_|_|_|q
  . refine Z3 rfl fun K hK=>?_;go_simp;exact hK _ _ ⟨_,_,_,_,_,_,rfl,h.new _ 0 _ (.row B 2 9 (strs [⟨#[107,101,121,115]⟩,⟨#[114,111,108,101,115]⟩])) (by rw [c.o];rfl) (zM.made _ (Z5 o.o h.1.size))⟩
  . obtain ⟨q0,q1,q2,q3,q4⟩:=qY (T.o w' h.1).1;refine Z3 rfl fun K hK=>?_;go_simp;exact hK _ _ ⟨_,_,_,_,_,_,rfl,h.sameC 1 _ c rfl⟩
  . refine Z3 rfl fun K hK=>?_;go_simp;exact hK _ _ ⟨_,_,_,_,_,_,rfl,h.sameC 2 _ c rfl⟩
  . obtain rfl:=h.cn g c 2 .data
    skip
    refine Z3 rfl fun K hK=>?_;go_simp;refine (vX B w').mono ?_;rintro e w2 ⟨y,rfl,S,l⟩;exact hK _ _ ⟨_,_,_,_,_,_,rfl,h.did l 3 _ (.rep B (qk [])) (by rw [c.o];rfl) S⟩
  . obtain rfl:=h.cn g c 1 .data;have P:=h.get 3 (O3 g 3 .data) (.rep B (qk [])) (by rw [c.o];rfl) _ rfl;obtain ⟨tn,tc,ti,td,rfl,tr⟩:=P;refine Z3 rfl fun K hK=>?_;go_simp;exact hK _ _ ⟨_,_,_,_,_,_,rfl,h.new _ 4 _ (.vals B 25 [eJ,qk []]) (by rw [c.o];rfl) (⟨_,_,rfl,Z5 o.o h.1.size,Z4 _ _,fun i hi=>match i,hi with|0,_=>⟨_,_,_,_,_,rfl,rfl,rfl,rfl,rfl,qv.mono (show O5 w' (w'.alloc _) from O4) (T.o w' h.1).2⟩|1,_=>⟨_,_,_,_,_,rfl,rfl,rfl,rfl,rfl,qv.mono (show O5 w' (w'.alloc _) from O4) ⟨tn,tc,ti,td,rfl,tr⟩⟩⟩)⟩
  . obtain ⟨b4,k4,rfl,m4⟩:=h.get 0 (O3 g 0 .data) (.row B 2 9 (strs [⟨#[107,101,121,115]⟩,⟨#[114,111,108,101,115]⟩])) (by rw [c.o];rfl) _ rfl;have Q:=h.get 4 (O3 g 4 .data) (.vals B 25 [eJ,qk []]) (by rw [c.o];rfl) _ rfl
    skip
    refine Z3 rfl fun K hK=>?_;go_simp;refine (wW (B:=B) [⟨#[107,101,121,115]⟩,⟨#[114,111,108,101,115]⟩] [eJ,qk []] ⟨b4,k4,rfl,m4⟩ Q).mono ?_;rintro e w2 ⟨y,rfl,S,l⟩;exact hK _ _ ⟨_,_,_,_,_,_,rfl,h.did l 5 _ (.rep B (dOf [])) (by rw [c.o];rfl) S⟩
  . omega
 case last =>
  rintro d D w' k ⟨x4,x5,x6,x7,x8,x9,rfl,h⟩;have r:=h.1;have R:=h.get 5 (k _ (by omega)) (.rep B (dOf [])) (by rw [c.o];rfl) _ rfl;have b:=U r;clear h k r c;obtain ⟨yn,yc,yi,yd,rfl,Z⟩:=R;have x:=U (vJ.stored A.o ((b.o.block _ (qz a.o)).trans a.o) ⟨yn,yc,yi,yd,rfl,Z⟩ (m.o.trans (b.o.mono m.o.size)) C.o);have s0:w'.frozen? ⟨f,0,none⟩=false:=by simp [World.frozen?,(b.o.block _ (qz a.o)).trans a.o]
  have s1:w'.frozen? ⟨f,1,none⟩=false:=by simp [World.frozen?,(b.o.block _ (qz a.o)).trans a.o]
  have s2:w'.frozen? ⟨f,2,none⟩=false:=by simp [World.frozen?,(b.o.block _ (qz a.o)).trans a.o]
  have s3:w'.frozen? ⟨f,3,none⟩=false:=by simp [World.frozen?,(b.o.block _ (qz a.o)).trans a.o]
  have s4:w'.frozen? ⟨f,4,none⟩=false:=by simp [World.frozen?,(b.o.block _ (qz a.o)).trans a.o]
  obtain ⟨z0,z1,z2,z3,z4⟩:=qY ((b.o.block _ (qz a.o)).trans a.o);clear Z;go_wp2;obtain ⟨⟨r0,r1,r2,r3,r4,L,M⟩,N⟩:=x.o;refine Q3 (J2 Tryz.results30 _ _ f 25 _ (0,0) _ rfl L Q6 rfl (by kernel_rfl)) rfl ?_;exact ⟨_,rfl,M,N⟩
theorem ofQ (B:Nat) (l:List JV) (x:Value) {T:Nat} (p:Nat) (w:World) (hB:B<=w.heap.size) (hx:zZ B T l w x) (hJ:(dOf l).solid=true) (h1:vJ B w p eJ) :
 Calls Tryz.prog 30 #[x,.pointer (some ⟨p,0,none⟩)] w fun e w'=>∃z,e=.returned z/\qv B (dOf l) w' z/\O5 w w':=by
 obtain ⟨H,I,J,L,M,N,u⟩:=h1;have E:=O0 ((dOf l).solid=true) hJ;obtain ⟨f,j⟩:=O1 w.heap.size;obtain ⟨W,v⟩:=O1 (w.alloc (.cells zg 25));have g:=O7 v
 have a:=U (show W.heap[f]?=some (.cells zg 25 (0,0)) by rw [v,j];exact Z4 w _);have A:=U (show ∀w',O5 W w'->w'.heap[p]?=some (.cells #[H,I,J,L,M] 25 (0,0))/\qv B eJ w' (.agg #[H,I,J,L,M])/\zZ B T l w' x from fun w' h=>by
  have P:=g.trans (h.mono g.size);exact ⟨(P.block _ (qz N)).trans N,u.mono P,hx.mono P⟩)
 have o:=U g;have r:=O0 (B<=W.heap.size) (Z5 hB g.size);have F:=O0 (w.heap.size<=f) (X6 j.symm);have C:=O0 (W=w.alloc (.cells zg 25)/\f=w.heap.size) (⟨v,j⟩);clear j v g hB N u hx hJ;go_enter Tryz.func30,Tryz.ntmps30;go_upto_region 1 with fail
 rw [show (#[.int .u8 0,.int .i64 0,.string ⟨#[]⟩,.slice none 0 0,.slice none 0 0]:Array Value)=zg from rfl,<- C.o.1,<- C.o.2];clear C;obtain ⟨V,hV⟩:∃V:List MP,V=[.row B 2 9 (strs [⟨#[107,101,121,115]⟩,⟨#[114,111,108,101,115]⟩]),.con (.agg #[H,I,J,L,M]),.con (x),.rep B (qk l),.vals B 25 [eJ,qk l],.rep B (dOf l)]:=⟨_,rfl⟩;have c:=U hV;clear hV;refine qM 6 (fun d G w'=>∃x4 x5 x6 x7 x8 x9,G=⟨#[x,.pointer (some ⟨p,0,none⟩),undef,.pointer (some ⟨f,0,none⟩),x4,x5,x6,x7,x8,x9],[]⟩/\za W V d w' [x4,x5,x6,x7,x8,x9]) (by kernel_rfl) (by kernel_rfl) ?first ?step ?last
 case first=>exact ⟨_,_,_,_,_,_,rfl,za.first _ _ _ (by rw [c.o];rfl)⟩
 case step =>
  rintro d G w' ⟨x4,x5,x6,x7,x8,x9,rfl,h⟩ q hq hn g;rcases q with _|_|_|_|_|_|q
  . refine Z3 rfl fun K hK=>?_;go_simp;exact hK _ _ ⟨_,_,_,_,_,_,rfl,h.new _ 0 _ (.row B 2 9 (strs [⟨#[107,101,121,115]⟩,⟨#[114,111,108,101,115]⟩])) (by rw [c.o];rfl) (zM.made _ (Z5 r.o h.1.size))⟩
  . obtain ⟨q0,q1,q2,q3,q4⟩:=qY (A.o w' h.1).1;refine Z3 rfl fun K hK=>?_;go_simp;exact hK _ _ ⟨_,_,_,_,_,_,rfl,h.sameC 1 _ c rfl⟩
  . refine Z3 rfl fun K hK=>?_;go_simp;exact hK _ _ ⟨_,_,_,_,_,_,rfl,h.sameC 2 _ c rfl⟩
  . obtain rfl:=h.cn g c 2 .data
    skip
    refine Z3 rfl fun K hK=>?_;go_simp;refine (mn (B:=B) l (A.o w' h.1).2.2).mono ?_;rintro e w2 ⟨y,rfl,hy,m⟩;exact hK _ _ ⟨_,_,_,_,_,_,rfl,h.did m 3 _ (.rep B (qk l)) (by rw [c.o];rfl) hy⟩
  . obtain rfl:=h.cn g c 1 .data;have X:=h.get 3 (O3 g 3 .data) (.rep B (qk l)) (by rw [c.o];rfl) _ rfl;obtain ⟨tn,tc,ti,td,rfl,tr⟩:=X;refine Z3 rfl fun K hK=>?_;go_simp;exact hK _ _ ⟨_,_,_,_,_,_,rfl,h.new _ 4 _ (.vals B 25 [eJ,qk l]) (by rw [c.o];rfl) (⟨_,_,rfl,Z5 r.o h.1.size,Z4 _ _,fun i hi=>match i,hi with|0,_=>⟨_,_,_,_,_,rfl,rfl,rfl,rfl,rfl,qv.mono (show O5 w' (w'.alloc _) from O4) (A.o w' h.1).2.1⟩|1,_=>⟨_,_,_,_,_,rfl,rfl,rfl,rfl,rfl,qv.mono (show O5 w' (w'.alloc _) from O4) ⟨tn,tc,ti,td,rfl,tr⟩⟩⟩)⟩
  . obtain ⟨b4,k4,rfl,m4⟩:=h.get 0 (O3 g 0 .data) (.row B 2 9 (strs [⟨#[107,101,121,115]⟩,⟨#[114,111,108,101,115]⟩])) (by rw [c.o];rfl) _ rfl;have Y:=h.get 4 (O3 g 4 .data) (.vals B 25 [eJ,qk l]) (by rw [c.o];rfl) _ rfl
    skip
    refine Z3 rfl fun K hK=>?_;go_simp;refine (wW (B:=B) [⟨#[107,101,121,115]⟩,⟨#[114,111,108,101,115]⟩] [eJ,qk l] ⟨b4,k4,rfl,m4⟩ Y).mono ?_;rintro e w2 ⟨y,rfl,hy,m⟩;exact hK _ _ ⟨_,_,_,_,_,_,rfl,h.did m 5 _ (.rep B (dOf l)) (by rw [c.o];rfl) hy⟩
  . omega
 case last =>
  rintro d G w' k ⟨x4,x5,x6,x7,x8,x9,rfl,h⟩;have s:=h.1;have Z:=h.get 5 (k _ (by omega)) (.rep B (dOf l)) (by rw [c.o];rfl) _ rfl;have b:=U s;clear h k s c;obtain ⟨yn,yc,yi,yd,rfl,yr⟩:=Z;have D:=U (vJ.stored E.o ((b.o.block _ (qz a.o)).trans a.o) ⟨yn,yc,yi,yd,rfl,yr⟩ (o.o.trans (b.o.mono o.o.size)) F.o);have s0:w'.frozen? ⟨f,0,none⟩=false:=by simp [World.frozen?,(b.o.block _ (qz a.o)).trans a.o]
  have s1:w'.frozen? ⟨f,1,none⟩=false:=by simp [World.frozen?,(b.o.block _ (qz a.o)).trans a.o]
  have s2:w'.frozen? ⟨f,2,none⟩=false:=by simp [World.frozen?,(b.o.block _ (qz a.o)).trans a.o]
  have s3:w'.frozen? ⟨f,3,none⟩=false:=by simp [World.frozen?,(b.o.block _ (qz a.o)).trans a.o]
  have s4:w'.frozen? ⟨f,4,none⟩=false:=by simp [World.frozen?,(b.o.block _ (qz a.o)).trans a.o]
  obtain ⟨z0,z1,z2,z3,z4⟩:=qY ((b.o.block _ (qz a.o)).trans a.o);clear yr;go_wp2;obtain ⟨⟨r0,r1,r2,r3,r4,Q,R⟩,S⟩:=D.o;refine Q3 (J2 Tryz.results30 _ _ f 25 _ (0,0) _ rfl Q Q6 rfl (by kernel_rfl)) rfl ?_;exact ⟨_,rfl,R,S⟩
