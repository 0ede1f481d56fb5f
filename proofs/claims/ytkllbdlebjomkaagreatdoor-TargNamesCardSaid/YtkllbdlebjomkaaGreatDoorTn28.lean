import Derived.Test.YtkllbdlebjomkaaGreatDoorTn27
import Derived.Test.YtkllbdlebjomkaaGreatDoorTn20
import Derived.Test.YtkllbdlebjomkaaGreatDoorTn26
import Derived.Test.YtkllbdlebjomkaaGreatDoorCards
import Derived.Test.YtkllbdlebjomkaaGreatDoorTie
import Derived.Deep.DeepHandedRow
import Derived.Lib.LaidTab
import Derived.ChangeMaps5
set_option maxHeartbeats 1000000
set_option maxRecDepth 100000

namespace Go.Proofs.YtkllbdlebjomkaaGreatDoor
open Go.RowKit
def fF (w:World) (b T:Nat) (l:List UInt8) (m:Nat) (N:Int):Prop :=
 ∃p:Nat->Int,w.rowIs b T 74 (xd true (jN l (m / 64)) p N)/\(∀j,j<m % 64->p j=kf l (64 * (m / 64)+j))/\∀j,j<64->0<=p j/\p j<=255
def kC (w:World) (b T:Nat) (l:List UInt8):Prop:=fF w b T l l.length l.length
theorem iu (w:World):(Go.sizeOf 5).run Tryz.prog w=.ok 1 w:=by kernel_rfl
theorem im (w:World):(Go.sizeOf 268).run Tryz.prog w=.ok 74 w:=by kernel_rfl
theorem dR {w':World} {b T:Nat} {l:List UInt8} {m n:Nat} {N:Int} {p:Nat->Int} {r:ByteArray}
 (g:m % 64+n<=64) (f:r.data.toList=l.drop m) (_hn:n<=r.size)
 (d:∀j,j<m % 64->p j=kf l (64 * (m / 64)+j)) (a:∀j,j<64->0<=p j/\p j<=255)
 (c:w'.rowIs b T 74 (fun j=>if 9+m % 64<=j/\j<9+m % 64+n then .int .u8 (nQ r (j - (9+m % 64))) else xd true (jN l (m / 64)) p N j)) :
 ∃q:Nat->Int,w'.rowIs b T 74 (xd true (jN l (m / 64)) q N)/\(∀j,j<m % 64+n->q j=kf l (64 * (m / 64)+j))/\∀j,j<64->0<=q j/\q j<=255:=by
 refine ⟨fun j=>if m % 64<=j/\j<m % 64+n then kf l (64 * (m / 64)+j) else p j,?_,?_,?_⟩
 . refine c.congr fun j hj=>?_;by_cases e:9+m % 64<=j/\j<9+m % 64+n
   . rw [J3 e];unfold xd;rw [Z6 (by omega),Z6 (by omega),J3 (by omega)];simp only [];rw [J3 (by omega)];unfold nQ;rw [f];congr 1;unfold kf;rw [V8,List.getElem?_drop,V8];congr 4;omega
   . rw [Z6 e];unfold xd;by_cases e0:j=0
     . simp only [J3 e0]
     . by_cases e1:j<=8
       . simp only [Z6 e0,J3 e1]
       . by_cases e2:j<=72
         . simp only [Z6 e0,Z6 e1,J3 e2];rw [Z6 (by omega)]
         . simp only [Z6 e0,Z6 e1,Z6 e2]
 . intro j hj;by_cases e:m % 64<=j/\j<m % 64+n
   . simp only [J3 e]
   . simp only [Z6 e];exact d j (by omega)
 . intro j hj;by_cases e:m % 64<=j/\j<m % 64+n
   . simp only [J3 e];exact tk _ _
   . simp only [Z6 e];exact a j hj
def rW:Value->Nat | .string s=>s.size|_=>0
theorem rY {w:World} {b T:Nat} {l k:List UInt8} (h:kC w b T l) (N:Int) (g:N=(l ++ k).length) :
 fF (w.setCell ⟨b,73,none⟩ (.int .i64 N)) b T (l ++ k) l.length (l ++ k).length:=by
 obtain ⟨p,f,d,a⟩:=h;have c:∀i,i<l.length->kf (l ++ k) i=kf l i:=fun i hi=>by unfold kf;rw [V8,V4 hi,V8]
 refine ⟨p,(f.set 73 _).congr fun j hj=>?_,fun j hj=>?_,a⟩
 . have e:jN (l ++ k) (l.length / 64)=jN l (l.length / 64):=br _ fun i hi=>c i (by omega);rw [e];by_cases e:j=73
   . subst e;rw [J3 rfl];unfold xd;simp [g]
   . rw [Z6 e];unfold xd;by_cases e0:j=0
     . simp only [J3 e0]
     . by_cases e1:j<=8
       . simp only [Z6 e0,J3 e1]
       . simp only [Z6 e0,Z6 e1,J3 (show j<=72 by omega)]
 . rw [d j hj,c _ (by omega)]
theorem go {r:ByteArray} {L:List UInt8} {m n:Nat} (h:r.data.toList=L.drop m):(r.extract n r.size).data.toList=L.drop (m+n):=by
 rw [ByteArray.data_extract,Array.toList_extract,List.extract_eq_take_drop,h,List.drop_drop];rw [J4 (by
  have:r.size=(L.drop m).length:=by rw [<- h,qu]
  rw [this,zb9,zb9];omega)]
theorem fH (b T:Nat) (l:List UInt8) (s:ByteArray) (w:World) (hh:kC w b T l) (hl:l.length+s.size<=1099511627776)
 (hk:∀i,i<64->w.cell? ⟨5,i,none⟩=some (.int .u32 (kay i))) (hg:5<w.heap.size) (a4:5≠b) :
 Calls Tryz.prog 186 #[.pointer (some ⟨b,0,none⟩),.string s] w fun e w'=>e=.returned (.int .i64 0)/\kC w' b T (l ++ s.data.toList)/\Touch (· = b) w w':=by
 have HH:=U hh;obtain ⟨p,D,o,d⟩:=hh;have HK:=U hk;clear hk;have c0:w.cell? ⟨b,0,none⟩=some (.bool true):=D.cell (by omega);have c1:w.cell? ⟨b,73,none⟩=some (.int .i64 (l.length:Int)):=D.cell (by omega);have f1:w.frozen? ⟨b,73,none⟩=false:=D.frozen 73;have a1:b<w.heap.size:=D.lt;clear D o d;obtain ⟨L,Q⟩:=O1 (l ++ s.data.toList);have J:=U Q;have y:Hid (L.length=l.length+s.size):=by rw [Q,K3,qu];rfl
 clear Q;go_enter Tryz.func186,Tryz.ntmps186;go_wp2;go_loopw [1,5] (fun v1 v5 wr=>∃(m u:Nat) (r:ByteArray),v1=.string r/\v5=.int .i64 u/\u=m % 64/\m<=L.length/\r.data.toList=L.drop m/\fF wr b T L m L.length/\Touch (· = b) w wr) (fun v1 _ _=>rW v1)
 case atStart => refine ⟨l.length,l.length % 64,s,rfl,by go_num,rfl,by have:=y.o;omega,by rw [J.o];simp,?_,(Touch.refl (· = b) _).setCell (p:=⟨b,73,none⟩) (.inl rfl) _⟩;rw [J.o];exact rY HH.o _ (by rw [K3,qu];omega)
 case round =>
  clear c0 c1 f1;obtain ⟨m,u,r,rfl,rfl,hu,hm,h,⟨p,a,o,d⟩,c⟩:=hrel;have E:r.size=L.length - m:=by rw [<- qu,h,zb9]
  by_cases hlt:0<r.size
  . obtain ⟨n,C⟩:=O1 (Nat.min r.size (64 - u));have R:n<=r.size:=C ▸ Nat.min_le_left _ _;have a2:n<=64 - u:=C ▸ Nat.min_le_right _ _;have a3:0<n:=by rw [C];exact Nat.lt_min.2 ⟨hlt,by omega⟩
    have V:u<64:=by omega
    have v:=U hu;have HM:=U hm;have a0:r.size<=1099511627776:=by have:=y.o;omega
    have HN:=U C;have A:=U E;have k:=U h;have Y:=U o;have z:=U d;have Z:=U a;have K:=U c;clear hu hm C E h o d a c;have S:=pB (P:=Tryz.prog) Tryz.underlying266 iu b 9 u V;go_wp2_with (with_reducible refine pp rfl (.tmp 42) (.tmp 43) 189 9 rfl 5 G6 iu b (9+u) (64 - u) (64 - u) r rfl rfl T 74 _ Z.o n HN.o (by omega) ?_);intro w1 hrow1 htch1;clear S;have X:Hid (∃q:Nat->Int,w1.rowIs b T 74 (xd true (jN L (m / 64)) q L.length)/\(∀j,j<m % 64+n->q j=kf L (64 * (m / 64)+j))/\∀j,j<64->0<=q j/\q j<=255):=(by have h1:=hrow1.o;rw [v.o] at h1;exact dR (by have:=v.o;omega) k.o R Y.o z.o h1);have g:Hid (Touch (· = b) w w1):=K.o.trans htch1.o;clear hrow1 htch1 Y z Z;by_cases h64:u+n=64
    . have B:((u:Int)+(n:Int) == 64)=true:=by simp;omega
      have f:=U h64;clear h64;go_wp2_with fail;obtain ⟨q,H,I,F⟩:=X.o;refine (Qn b T _ q _ w1 H F (cG _ _) (fun i hi=>by rw [g.o.cell hg a4];exact HK.o i hi) (X1 hg g.o.size)).mono ?_;rintro e W ⟨rfl,r1,r2⟩;have x:Hid (fF W b T L (m+n) L.length):=by
       have e1:=v.o;have e2:=f.o;have G:(m+n) / 64=m / 64+1:=by omega
       have N:(m+n) % 64=0:=by omega
       refine ⟨q,?_,?_,F⟩
       . rw [G];show W.rowIs b T 74 (xd true (y9 (jN L (m / 64)) _) q _);rw [bu (fun j hj=>(I j (by omega)).symm)];exact r1
       . rw [N];intro j hj;omega
      have M:Hid (Touch (· = b) w W):=g.o.trans r2;clear H I F r1 r2;go_wp2;go_roundw
      case rel=>exact ⟨m+n,0,_,rfl,rfl,by have:=v.o;have:=f.o;omega,by have:=A.o;omega,go k.o,x.o,M.o⟩
      case measure=>simp [rW];omega
    . have B:((u:Int)+(n:Int) == 64)=false:=by simp;omega
      have f:=U h64;clear h64;have x:Hid (fF w1 b T L (m+n) L.length):=by
       obtain ⟨q,H,I,F⟩:=X.o;have e1:=v.o;have e2:=f.o;have G:(m+n) / 64=m / 64:=by omega
       have N:(m+n) % 64=m % 64+n:=by omega
       exact ⟨q,by rw [G];exact H,by rw [G,N];exact I,F⟩
      go_wp2;go_roundw
      case rel=>exact ⟨m+n,u+n,_,rfl,by go_num,by have:=v.o;have:=f.o;omega,by have:=A.o;omega,go k.o,x.o,g.o⟩
      case measure=>simp [rW];omega
  . have x:Hid (kC wr b T (l ++ s.data.toList)):=by
     rw [<- J.o];unfold kC;have:m=L.length:=by omega
     rw [<- this] at a ⊢;exact ⟨p,a,by rw [this] at o ⊢;exact o,d⟩
    have K:=U c;clear a o d c h;go_wp2;go_ret;exact ⟨rfl,x.o,K.o⟩
theorem rG (S:S8) (k:Nat) (X:Int) (f:X=S.at k) (g:0<=X) (h:X<4294967296) :
 Lib.byteCells (fI S (k+1))=Lib.byteCells (fI S k) ++ [.int .u8 (X / 16777216),.int .u8 (X / 65536 % 256),.int .u8 (X / 256 % 256),.int .u8 (X % 256)]:=by
 subst f;have a:=we (i:=S.at k / 16777216 % 256) (by omega) (by omega);have b:=we (i:=S.at k / 65536 % 256) (by omega) (by omega);have c:=we (i:=S.at k / 256 % 256) (by omega) (by omega);have d:=we (i:=S.at k % 256) (by omega) (by omega);have e:S.at k / 16777216 % 256=S.at k / 16777216:=by omega
 simp only [fI,gP,Lib.byteCells,K6,K8,List.map_nil,a,b,c,d];rw [e]
theorem ir:(Tryz.prog.info? 5).map (fun i=>(i.zero,i.size,i.bytes))=some (some (.int .u8 0),1,1):=by kernel_rfl
theorem nM:∀z:Nat,Lib.repeatL [0] z=List.replicate z 0
 | 0=>rfl
 | z+1=>by rw [Lib.repeatL,nM z,List.replicate_succ];rfl
theorem Qs (w:World) (hi:∀i,i<8->w.cell? ⟨3,i,none⟩=some (.int .u32 (yr.at i))) :
 Calls Tryz.prog 185 #[] w fun e w'=>e=.returned (.pointer (some ⟨w.heap.size,0,none⟩))/\kC w' w.heap.size 268 []/\O5 w w':=by
 have a:=hi 0 (by omega);have b:=hi 1 (by omega);have c:=hi 2 (by omega);have d:=hi 3 (by omega);have f:=hi 4 (by omega);have g:=hi 5 (by omega);have h:=hi 6 (by omega);have k:=hi 7 (by omega);simp only [S8.at,yr] at a b c d f g h k;clear hi;go_enter Tryz.func185,Tryz.ntmps185;go_wp2;go_ret;refine ⟨rfl,⟨fun _=>0,?_,fun j hj=>by simp at hj,fun _ _=>by constructor <;> decide +revert⟩,O4⟩;exact xS (by kernel_rfl)
theorem rB (b T:Nat) (l:List UInt8) (w:World) (hh:kC w b T l) (hl:l.length<=1099511627000)
 (hk:∀i,i<64->w.cell? ⟨5,i,none⟩=some (.int .u32 (kay i))) (hg:5<w.heap.size) :
 Calls Tryz.prog 187 #[.pointer (some ⟨b,0,none⟩)] w fun e w'=>e=.returned (.string ⟨(yH l).toArray⟩)/\O5 w w':=by
 have HH:=U hh;obtain ⟨p,hr,hp,d4⟩:=hh;have c1:w.cell? ⟨b,73,none⟩=some (.int .i64 (l.length:Int)):=hr.cell (by omega);have d1:b<w.heap.size:=hr.lt;have HR:=U hr;have HK:=U hk;clear hr hk;go_enter Tryz.func187,Tryz.ntmps187;go_wp2_with (with_reducible refine gq rfl 268 (.tmp 13) rfl b T 74 _ rfl HR.o _ Tryz.underlying268 rfl (by kernel_rfl) ?_);intro cs I Y;have HO:Hid (∀i,i<74->(xd true (jN l (l.length / 64)) p (l.length:Int) i).oneCell'=true):=(by intro i hi;unfold xd;split;rfl;split;rfl;split <;> rfl);go_wp2_with (with_reducible refine wpList_store_row rfl 268 (.tmp 3) (.tmp 14) rfl w.heap.size 268 74 _ _ rfl (sg w _ _ 74 rfl) cs rfl I.o Y.o HO.o im ?_);intro w1 Z h4;have a9:Hid (kC w1 w.heap.size 268 l):=⟨p,Z.o,hp,d4⟩;have C:Hid (O5 w w1):=(O4).trans ((h4.o.below (B:=w.heap.size) (by simp) (fun k hk e=>by omega)));have c2:w1.cell? ⟨b,73,none⟩=some (.int .i64 (l.length:Int)):=by rw [C.o.cell d1];exact c1
 clear Z h4 I Y HO c1;go_wp2_with fail;obtain ⟨z,hz⟩:∃z:Nat,(119 - (l.length:Int)) % 64=(z:Int):=⟨((119 - (l.length:Int)) % 64).toNat,by omega⟩;rw [hz];have e5:z<64:=by omega
 have HZ:=U hz;clear hz;refine (Tryz.strings_Repeat _ z _ (by omega) (by show 1 * z<=_;omega)).mono ?_;rintro e w2 ⟨rfl,J⟩;have b0:Hid (kC w2 w.heap.size 268 l):=(by obtain ⟨p',I,Y,Z⟩:=a9.o;exact ⟨p',qj J I I.lt,Y,Z⟩);have y:Hid (O5 w w2):=O2 C J;clear J a9 C c2;obtain ⟨rs,V⟩:∃rs:ByteArray,rs={ data:=(Lib.repeatL [0] z).toArray }:=⟨_,rfl⟩;rw [show (⟨#[0]⟩:ByteArray).data.toList=[0] from rfl,<- V];have b2:=U (show rs.data.toList=List.replicate z 0 by rw [V];simp [nM]);have e8:rs.size<=64:=by rw [<- qu,b2.o];simp;omega
 clear V;go_wp2_with fail;refine (fH w.heap.size 268 l _ w2 b0.o (by rw [ByteArray.size_append];show l.length+(1+rs.size)<=_;omega) (fun i hi=>by rw [y.o.cell hg];exact HK.o i hi) (X1 hg y.o.size) (by omega)).mono ?_;rintro e x ⟨rfl,N,b7⟩;have E:Hid (kC x w.heap.size 268 (l ++ (128 :: List.replicate z 0))):=(by have e1:(⟨#[128]⟩ ++ rs:ByteArray).data.toList=128 :: List.replicate z 0:=(by rw [ByteArray.data_append,Array.toList_append,b2.o];rfl);rw [e1] at N;exact N);have a0:Hid (O5 w x):=y.o.trans (b7.below y.o.size fun k hk e=>by omega);clear N b7 y b0;obtain ⟨L,hL⟩:=O1 (l ++ (128 :: List.replicate z 0));rw [<- hL] at E;have HL:=U hL;have b5:L.length=l.length+1+z:=by rw [hL];simp;omega
 have e6:=U b5;have e7:L.length<=1099511627100:=by omega
 clear hL b5;have d5:w.heap.size<x.heap.size:=by obtain ⟨_,h,_⟩:=E.o;exact h.lt
 go_wp2;go_loopw [31] (fun i wr=>∃k:Nat,k<=8/\i=.int .i64 k/\O5 x wr/\wr.rowIs x.heap.size 269 8 (fun j=>if j<k then .int .u8 (be8 (l.length * 8) j) else .int .u8 0)) (fun i _=>8 - (intOf i).toNat)
 case atStart=>exact ⟨0,by omega,rfl,O4,xS (by kernel_rfl)⟩
 case round =>
  obtain ⟨k,hk,rfl,m,o⟩:=hrel;by_cases hlt:k<8
  . have c0:wr.cell? ⟨x.heap.size,k,none⟩=some (.int .u8 0):=by rw [o.cell hlt,Z6 (by omega)]
    have c1:wr.frozen? ⟨x.heap.size,k,none⟩=false:=o.frozen k;have m0:(k:Int)<8:=by omega
    have A:=U m;clear m;have HW:=U o;clear o;go_wp2;go_roundw
    case rel =>
     refine ⟨k+1,by omega,by go_num,A.o.setCell lz _,(HW.o.set k _).congr fun j hj=>?_⟩;by_cases e:j=k
     . subst e;rw [J3 rfl,J3 (by omega)];unfold be8;rfl
     . rw [Z6 e];by_cases e':j<k
       . rw [J3 e',J3 (by omega)]
       . rw [Z6 e',Z6 (by omega)]
    case measure=>simp [intOf];omega
  . have hd:decide ((k:Int)<8)=false:=by simp;omega
    have cc:∀j,j<8->wr.cell? ⟨x.heap.size,j,none⟩=some (.int .u8 (be8 (l.length * 8) j)):=fun j hj=>by rw [o.cell hj,J3 (by omega)]
    have A:=U m;clear m;have f0:x.heap.size<wr.heap.size:=o.lt;have HW:=U o;clear o hlt hk;have HC:=U cc;clear cc;obtain ⟨G,rfl⟩:∃G:World,G=wr:=⟨_,rfl⟩;obtain ⟨k1,rfl⟩:∃k1:Nat,k1=k:=⟨_,rfl⟩;have R:(gG (l.length * 8)).length=8:=by simp [gG]
    have K:(convert 189 9 (.slice (some ⟨x.heap.size,0,none⟩) 8 8)).run Tryz.prog G=.ok (.string ⟨(gG (l.length * 8)).toArray⟩) G:=by
     have:=run_convert_bytes_back (P:=Tryz.prog) G 189 9 5 ⟨x.heap.size,0,none⟩ 8 (gG (l.length * 8)) G6 N8 Y9 (fun j hj=>by
      have d2:=hj;rw [R] at hj;have e:(⟨x.heap.size,0,none⟩:Addr).add j=⟨x.heap.size,j,none⟩:=by unfold Addr.add;split <;> simp_all
      rw [e,HC.o j hj,tw _ _ d2])
     rwa [R] at this
    clear R;obtain ⟨t8,W⟩:∃t8:ByteArray,t8={ data:=(gG (l.length * 8)).toArray }:=⟨_,rfl⟩;rw [<- W] at K;have b3:=U (show t8.data.toList=gG (l.length * 8) by rw [W]);have F:t8.size=8:=by rw [<- qu,b3.o];simp [gG]
    clear W;have b4:=U F;clear F;go_wp2_with fail;have b1:Hid (kC G w.heap.size 268 L):=(by obtain ⟨p',I,Y,Z⟩:=E.o;exact ⟨p',qj A.o I d5,Y,Z⟩);have D:Hid (O5 w G):=a0.o.trans (A.o.mono (by omega));refine (fH w.heap.size 268 L t8 G b1.o (by rw [b4.o];omega) (fun i hi=>by rw [D.o.cell hg];exact HK.o i hi) (by have:=D.o.size;omega) (by omega)).mono ?_;rintro e H ⟨rfl,Q,c6⟩;have c7:Hid (O5 w H):=D.o.trans (c6.below (by omega) fun k hk e=>by omega);rw [b3.o] at Q;clear K HC HW A c6 E b1 a0 D;obtain ⟨M,hM⟩:=O1 (L ++ gG (l.length * 8));rw [<- hM] at Q;have HM:=U (show M=gF l by
     rw [hM,HL.o];unfold gF;have:z=(119 - l.length % 64) % 64:=by have:=HZ.o;omega
     rw [this])
    clear hM;have e4:=U (show M.length % 64=0 by rw [HM.o,fO];omega);obtain ⟨q,q1,q2,q3⟩:=Q;have HS:=U (cG M (M.length / 64));have HE:=U (show yH l=fI (jN M (M.length / 64)) 8 by unfold yH;rw [<- HM.o]);obtain ⟨S,hS⟩:=O1 (jN M (M.length / 64));rw [<- hS] at q1 HE HS;clear hS q2 q3;have r:∀j,j<8->H.cell? ⟨w.heap.size,1+j,none⟩=some (.int .u32 (S.at j)):=fun j hj=>by rw [q1.cell (by omega)];unfold xd;rw [Z6 (by omega),J3 (by omega)];simp
    have s0:=r 0 (by omega);have s1:=r 1 (by omega);have s2:=r 2 (by omega);have s3:=r 3 (by omega);have s4:=r 4 (by omega);have s5:=r 5 (by omega);have s6:=r 6 (by omega);have s7:=r 7 (by omega);simp only [S8.at] at s0 s1 s2 s3 s4 s5 s6 s7;have f1:w.heap.size<H.heap.size:=q1.lt;have d0:∀k,k<8->w32 (S.at k):=(by obtain ⟨a1,a2,a3,a4,a5,a6,a7,a8⟩:=HS.o;intro k hk;rcases k with _|_|_|_|_|_|_|_|k <;> first|assumption|omega);clear r q1;have d3:∀w,(Instr.makeSlice 189 (.int .i64 0) (.int .i64 32)).run Tryz.prog w=.ok (.slice (some ⟨w.heap.size,0,none⟩) 0 32) (w.alloc (.cells (Array.replicate 32 (.int .u8 0)) 5)):=fun _=>by kernel_rfl
    go_wp2;clear s0 s1 s2 s3 s4 s5 s6 s7 d3;obtain ⟨i0,hi,e0,e2,e3⟩:=V2 ir;go_loopw [7,49] (fun v i wr=>∃k:Nat,k<=8/\i=.int .i64 k/\wr.ownsRow H.heap.size 5 1 v (4 * k) (Lib.byteCells (fI S k))/\O5 H wr) (fun _ i _=>8 - (intOf i).toNat)
    case atStart=>exact ⟨0,by omega,rfl,World.ownsRow_made H (Array.replicate 32 (.int .u8 0)) 32 lz (by unfold maxLen;omega) rfl,O4⟩
    case round =>
     obtain ⟨k,hk,rfl,s,m⟩:=hrel;by_cases hlt:k<8
     . have b6:∀w,(Instr.index 265 (.agg #[.int .u32 S.a,.int .u32 S.b,.int .u32 S.c,.int .u32 S.d,.int .u32 S.e,.int .u32 S.f,.int .u32 S.g,.int .u32 S.h]) (.int .i64 k)).run Tryz.prog w=.ok (.int .u32 (S.at k)) w:=by
        intro w;rcases k with _|_|_|_|_|_|_|_|k
        . kernel_rfl
        . kernel_rfl
        . kernel_rfl
        . kernel_rfl
        . kernel_rfl
        . kernel_rfl
        . kernel_rfl
        . kernel_rfl
        . omega
       have hx:w32 (S.at k):=d0 k hlt;obtain ⟨X,hX⟩:=O1 (S.at k);rw [<- hX] at b6 hx;obtain ⟨d6,d7⟩:=hx;have HX:=U hX;clear hX;have HO:=U s;clear s;have A:=U m;clear m;go_wp2_with (at_builtin;refine wpList_append_own _ rfl (.tmp 52) (.tmp 64) 189 rfl H.heap.size 5 i0 (.int .u8 0) 1 1 G6 hi e0 e2 e3 rfl (by decide) _ (4 * k) (Lib.byteCells (fI S k)) rfl (HO.o.alloc _) ⟨wr.heap.size,0,none⟩ 4 4 [.int .u8 (X / 16777216),.int .u8 (X / 65536 % 256),.int .u8 (X / 256 % 256),.int .u8 (X % 256)] rfl rfl ?c1 ?c2 ?c3 ?c4 ?c5 ?_)
       case c1 => intro j u hj;rcases j with _|_|_|_|j <;> simp at hj <;> subst hj <;> go_simp
       case c2=>intro u hu;simp at hu;rcases hu with rfl|rfl|rfl|rfl <;> rfl
       case c3=>unfold maxLen;omega
       case c4=>omega
       case c5=>have:=A.o.size;simp;omega
       intro v' w6 hown' hgrow _;have c9:=U hown';clear hown';have HG:=U hgrow;clear hgrow;go_wp2;go_roundw
       case rel =>
        refine ⟨k+1,by omega,by go_num,?_,?_⟩
        . have e:=rG S k X HX.o d6 d7;rw [show 4 * (k+1)=4 * k+4 by omega,e];exact c9.o
        . exact (A.o.alloc (by have:=A.o.size;omega) _).grown HG.o (by have:=A.o.size;simp;omega) (fun g hg=>(HO.o.lt g hg).1)
       case measure=>simp [intOf];omega
     . obtain rfl:k=8:=by omega
       have K:=kT (P:=Tryz.prog) 189 9 5 G6 N8 Y9 s;have HF:Hid (O5 w wr):=c7.o.trans (m.mono (by omega));clear s m hlt hk;go_wp2;go_ret;exact ⟨by rw [HE.o];rfl,HF.o⟩
theorem o5 (s:ByteArray) (w:World) (A:s.size<=1099511627000) (hi:∀i,i<8->w.cell? ⟨3,i,none⟩=some (.int .u32 (yr.at i)))
 (y:∀i,i<64->w.cell? ⟨5,i,none⟩=some (.int .u32 (kay i))) (z:5<w.heap.size) :
 Calls Tryz.prog 167 #[.string s] w fun e w'=>e=.returned (.string ⟨(yH s.data.toList).toArray⟩)/\O5 w w':=by
 have u:=U hi;clear hi;have d:=U y;clear y;go_enter Tryz.func167,Tryz.ntmps167;go_wp2_with fail;refine (Qs w u.o).mono ?_;rintro e o ⟨rfl,f,g⟩;have b:=U f;clear f;have c:=U g;clear g;go_wp2_with fail;have v:w.heap.size<o.heap.size:=by obtain ⟨_,h,_⟩:=b.o;exact h.lt
 refine (fH w.heap.size 268 [] s o b.o (by simp;omega) (fun i hi=>by rw [c.o.cell z];exact d.o i hi) (by omega) (by omega)).mono ?_;rintro e p ⟨rfl,j,l⟩;have q:=U j;clear j;have a:Hid (O5 w p):=c.o.trans (l.below (by omega) fun k y e=>by omega);clear l;go_wp2_with fail;refine (rB w.heap.size 268 _ p q.o (by simp;omega) (fun i hi=>by rw [a.o.cell z];exact d.o i hi) (by have:=a.o.size;omega)).mono ?_;rintro e x ⟨rfl,m⟩;have r:=U m;clear m;go_wp2;go_ret;exact ⟨rfl,a.o.trans (r.o.mono a.o.size)⟩
theorem dN (s:ByteArray) (k:Nat) (h:k<s.size) (c:Nat) (a:c=s[k].toNat) :
 Lib.byteCells (xX (s.data.toList.take (k+1)))=Lib.byteCells (xX (s.data.toList.take k)) ++ [.int .u8 (ze (c / 16)).toNat,.int .u8 (ze (c % 16)).toNat]:=by
 subst a;rw [gV s k h,hF];simp [xX,Lib.byteCells]
theorem aq (s:ByteArray) (w:World) (R:s.size<=1099511627776) (Q:∀i,i<16->w.cell? ⟨2,i,none⟩=some (.int .u8 (ze i).toNat)) (N:2<w.heap.size) :
 Calls Tryz.prog 166 #[.string s] w fun e w'=>e=.returned (.string ⟨(xX s.data.toList).toArray⟩)/\O5 w w':=by
 have u:=U Q;clear Q;obtain ⟨B,hi,m,o,p⟩:=V2 ir;go_enter Tryz.func166,Tryz.ntmps166;go_wp2_with (at_make;refine wpList_make_own _ rfl (.const (.int .i64 0)) (.tmp 7) 189 rfl w.heap.size 5 B (.int .u8 0) 1 G6 hi m o .i64 .i64 _ (2 * s.size) rfl rfl ?hC ?b2 ?b3 lz ?_)
 case hC=>push_cast;rfl
 case b2=>rw [p];omega
 case b3=>unfold maxLen;omega
 intro w1 a hgrow;have j:Hid (O5 w w1):=(Z0 _ _).grown hgrow lz (by simp);have d:=U a;clear a hgrow;go_wp2;go_loopw [3,4] (fun v i wr=>∃k:Nat,k<=s.size/\i=.int .i64 k/\wr.ownsRow w.heap.size 5 1 v (2 * k) (Lib.byteCells (xX (s.data.toList.take k)))/\O5 w wr) (fun _ i _=>s.size - (intOf i).toNat)
 case atStart=>exact ⟨0,by omega,rfl,by simpa [xX,Lib.byteCells] using d.o,j.o⟩
 case round =>
  clear d j;obtain ⟨k,K,rfl,a,b⟩:=hrel;by_cases hlt:k<s.size
  . have l:=hlt;have F:s[k].toNat<256:=s[k].toNat_lt;have y:wr.cell? ⟨2,s[k].toNat / 16,none⟩=some (.int .u8 (ze (s[k].toNat / 16)).toNat):=by rw [b.cell N];exact u.o _ (by omega)
    have z:wr.cell? ⟨2,s[k].toNat % 16,none⟩=some (.int .u8 (ze (s[k].toNat % 16)).toNat):=by rw [b.cell N];exact u.o _ (by omega)
    have M:(k:Int)<(s.size:Int):=by omega
    have r:u3.ownBlock≠some 2:=fun e=>by have:=(a.lt _ e).1;omega
    have L:2<wr.heap.size:=by have:=b.size;omega
    have x:=U a;clear a;have h:=U b;clear b;have E:bits BinOp.and IntKind.u8 (s[k].toNat:Int) 15=(s[k].toNat:Int) % 16:=(by rw [u8_and _ _ (by omega) (by omega) (by omega) (by omega)];show ((s[k].toNat &&& 15:Nat):Int)=_;rw [nat_mask4];omega);obtain ⟨c,f⟩:=O1 (s[k].toNat);rw [<- f] at E F y z;have G:(0:Int)<=(c:Int) / 16:=by omega
    have b2:(c:Int) / 16<16:=by omega
    have b3:((c:Int) / 16).toNat=c / 16:=by omega
    have H:(0:Int)<=(c:Int) % 16:=by omega
    have I:(c:Int) % 16<16:=by omega
    have J:((c:Int) % 16).toNat=c % 16:=by omega
    have A:(s[k].toNat:Int)=(c:Int):=by rw [f]
    have C:=U f;clear f;go_wp2_with fail
    go_region_held3 (fun w'=>w'.cell? ⟨2,c / 16,none⟩=some (.int .u8 (ze (c / 16)).toNat)/\w'.cell? ⟨2,c % 16,none⟩=some (.int .u8 (ze (c % 16)).toNat)) (first|go_keep|(go_split_ands;refine ⟨?_,?_⟩ <;> (rw [hgrow.cell_far _ (by simp <;> omega) (Ne.symm r)];assumption))) ((refine K9 _ (by rfl) _ _ _ (by rfl) w.heap.size 5 B _ 1 1 G6 hi m o p rfl (by omega) _ (2 * k) _ (by rfl) ((x.o.alloc _).drew) ⟨wr.heap.size,0,none⟩ 2 2 [.int .u8 (ze (c / 16)).toNat,.int .u8 (ze (c % 16)).toNat] (by rfl) (by rfl) (J9 (cs:=#[.int .u8 (ze (c / 16)).toNat,.int .u8 (ze (c % 16)).toNat]) (t:=5) (fr:=(0,0)) (Z5 wr _)) (by simp [Value.oneCell']) (by omega) (by unfold maxLen;omega) (by omega) (by have:=h.o.size;simp;omega) (wr.heap.size+1) (by simp) ?_;intro gg cap w1 hown1 hgrow hat hlt))
    all_goals
     have d:=U hown1;have D:=U hgrow;clear hown1 hgrow hat y z;go_wp2;go_roundw
     case rel =>
      refine ⟨k+1,by omega,by go_num,?_,?_⟩
      . rw [show 2 * (k+1)=2 * k+2 by omega,dN s k l c C.o];exact d.o
      . exact ((h.o.alloc (by have:=h.o.size;omega) _).drew).grown D.o (by have:=h.o.size;simp;omega) (fun g N=>(x.o.lt g N).1)
     case measure=>simp [intOf];omega
  . have q:=kT (P:=Tryz.prog) 189 9 5 G6 N8 Y9 a;rw [J4 (by rw [qu];omega)] at q;have h:=U b;clear a b;go_wp2;go_ret;exact ⟨rfl,h.o⟩
theorem az (s:ByteArray) (w:World) (r:s.size<=1099511627000) (hi:∀i,i<8->w.cell? ⟨3,i,none⟩=some (.int .u32 (yr.at i)))
 (p:∀i,i<64->w.cell? ⟨5,i,none⟩=some (.int .u32 (kay i))) (m:∀i,i<16->w.cell? ⟨2,i,none⟩=some (.int .u8 (ze i).toNat)) (q:5<w.heap.size) (l:2<w.heap.size) :
 Calls Tryz.prog 127 #[.string s] w fun e w'=>e=.returned (.string ⟨(yR s.data.toList).toArray⟩)/\O5 w w':=by
 have g:=U hi;clear hi;have h:=U p;clear p;have f:=U m;clear m;go_enter Tryz.func127,Tryz.ntmps127;go_wp2_with fail;refine (o5 s w r g.o h.o q).mono ?_;rintro e j ⟨rfl,b⟩;have a:=U b;clear b;go_wp2_with fail;refine (aq _ j (by show (yH s.data.toList).toArray.size<=_;rw [List.size_toArray,ya];omega) (fun i hi=>by rw [a.o.cell l];exact f.o i hi) (by have:=a.o.size;omega)).mono ?_;rintro e k ⟨rfl,c⟩;have d:=U c;clear c;go_wp2;go_ret;exact ⟨rfl,a.o.trans (d.o.mono a.o.size)⟩
structure Tabs (w:World):Prop where
 init:∀i,i<8->w.cell? ⟨3,i,none⟩=some (.int .u32 (yr.at i))
 rounds:∀i,i<64->w.cell? ⟨5,i,none⟩=some (.int .u32 (kay i))
 digits:∀i,i<16->w.cell? ⟨2,i,none⟩=some (.int .u8 (ze i).toNat)
 l1:3<w.heap.size
 l2:5<w.heap.size
 l3:2<w.heap.size
theorem Tabs.below {w w':World} (h:Tabs w) (a:O5 w w'):Tabs w' where
 init i hi:=by rw [a.cell h.l1];exact h.init i hi
 rounds i hi:=by rw [a.cell h.l2];exact h.rounds i hi
 digits i hi:=by rw [a.cell h.l3];exact h.digits i hi
 l1:=X1 h.l1 a.size
 l2:=X1 h.l2 a.size
 l3:=X1 h.l3 a.size
theorem Qa (s:ByteArray) (w:World) (b:s.size<=1099511627000) (a:Tabs w) :
 Calls Tryz.prog 127 #[.string s] w fun e w'=>e=.returned (.string ⟨(yR s.data.toList).toArray⟩)/\O5 w w' :=
 az s w b a.init a.rounds a.digits a.l2 a.l3
def kw (s t:ByteArray) (w:World) (e:Ending) (w':World):Prop :=
 e=.returned (.tuple #[.string ⟨(kY s.data.toList t.data.toList).toArray⟩,.int .i64 (if zA s.data.toList t.data.toList then 0 else 3)])/\O5 w w'
theorem nC (s t:ByteArray) (w:World) (E:s.size<=4294967) (F:t.size<=4294967) (D:Tabs w) :
 Calls Tryz.prog 99 #[.agg #[.string s,.string t]] w (kw s t w):=by
 have u:=U D;clear D;have d:=O0 (O5 w (w.alloc (.cells #[.string s,.string t] 156))) O4;unfold kw kY;cases hk:zA s.data.toList t.data.toList
 . have m:=U (da s t (w.alloc (.cells #[.string s,.string t] 156)) (by omega) (by omega) hk);clear hk;go_enter Tryz.func99,Tryz.ntmps99;go_wp2_with fail;refine m.o.mono ?_;rintro e o ⟨rfl,b⟩;have a:=U (d.o.trans (b.mono (by simp)));clear b;unfold zeroAgg;go_wp2;go_ret2;exact ⟨rfl,a.o.alloc a.o.size _⟩
 . have m:=U (gh s t (w.alloc (.cells #[.string s,.string t] 156)) (by omega) (by omega) hk);have r:=U (dm hk);have q:=U (sC hk);have p:=U (tC hk);have v:=U (oC E F);clear hk;go_enter Tryz.func99,Tryz.ntmps99;go_wp2_with fail;refine m.o.mono ?_;rintro e o ⟨y,A,x,z,rfl,i,b⟩;have a:=U (d.o.trans (b.mono (by simp)));have l:=U i;clear b i;have j:=U (dL false (yN s t) _ (o.alloc (.cells #[.int .u8 5,.int .i64 0,.string ⟨#[]⟩,.slice y 2 A,.slice x 2 z] 26)) v.o (l.o.below O4 lz (J0 _) (by simp)) (fun _=>q.o) (fun h=>by cases h));unfold uL at j;rw [r.o,p.o] at j;go_wp2_with fail;refine j.o.mono ?_;clear j;rintro e B ⟨rfl,f⟩;have c:=U ((a.o.alloc a.o.size _).trans (f.mono (by have:=a.o.size;simp;omega)));clear f;go_wp2_with fail;refine (Qa _ B ?_ (u.o.below c.o)).mono ?_
   . show (kE s.data.toList t.data.toList).toArray.size<=_;rw [List.size_toArray,dc,qu,qu];omega
   rintro e C ⟨rfl,g⟩;have k:=U (O2 c g);clear g;go_wp2;go_ret2;exact ⟨rfl,k.o⟩
open Go.ChangeShapes Go.WideShapes Go.ChangeAt Go.Joins Go.ChangeMaps
theorem own:ownKnob Tryz.prog.godebug=none:=by kernel_rfl
theorem Zx : Tryz.prog.globalNamed "legate/hex.digits" = some 2 := by kernel_rfl
theorem Zj : Tryz.prog.globalNamed "legate/sha.initial" = some 3 := by kernel_rfl
theorem Zk : Tryz.prog.globalNamed "legate/sha.rounds" = some 5 := by kernel_rfl
theorem Zv:(Tryz.prog.globals[2]?).map (·.type)=some 244:=by kernel_rfl
theorem Zw:(Tryz.prog.globals[3]?).map (·.type)=some 265:=by kernel_rfl
theorem Zy:(Tryz.prog.globals[5]?).map (·.type)=some 275:=by kernel_rfl
theorem ii:Tryz.prog.cellsOf 244=16:=by kernel_rfl
theorem iQ:Tryz.prog.cellsOf 265=8:=by kernel_rfl
theorem iZ:Tryz.prog.cellsOf 275=64:=by kernel_rfl
theorem cells5:Tryz.prog.cellsOf 5=1:=by kernel_rfl
theorem nD:Tryz.prog.cellsOf 220=1:=by kernel_rfl
theorem ZJ : Tryz.prog.globalNamed "internal/strconv.uint64pow10" = some 4 := by kernel_rfl
theorem Zg : Tryz.prog.globalNamed "legate/when.before" = some 0 := by kernel_rfl
theorem Zb:(Tryz.prog.globals[4]?).map (·.type)=some 271:=by kernel_rfl
theorem Zp:(Tryz.prog.globals[0]?).map (·.type)=some 126:=by kernel_rfl
theorem iX:Tryz.prog.cellsOf 271=20:=by kernel_rfl
theorem iJ:Tryz.prog.cellsOf 126=13:=by kernel_rfl
theorem o6:Tryz.prog.cellsOf 222=1:=by kernel_rfl
theorem iK:Tryz.prog.cellsOf 3=1:=by kernel_rfl
def hexZs:List Int:=[48,49,50,51,52,53,54,55,56,57,97,98,99,100,101,102]
def iniZs:List Int:=[1779033703,3144134277,1013904242,2773480762,1359893119,2600822924,528734635,1541459225]
def befZs:List Int:=[0,31,59,90,120,151,181,212,243,273,304,334,365]
abbrev laidAll : List (String × DataW Unit) := [("legate/hex.digits", Rows.laid_legate_hex_digits), ("math/bits.deBruijn32tab", Rows.laid_math_bits_deBruijn32tab), ("math/bits.deBruijn64tab", Rows.laid_math_bits_deBruijn64tab), ("internal/strconv.uint64pow10", Rows.laid_internal_strconv_uint64pow10), ("legate/sha.initial", Rows.laid_legate_sha_initial), ("legate/sha.rounds", Rows.laid_legate_sha_rounds), ("legate/when.before", Rows.laid_legate_when_before)]
theorem zt {P:Program} {W:World} {x:String × DataW Unit} {r:List (String × DataW Unit)} (h:laidMet P (x :: r) W):laidMet P r W:=by obtain ⟨m,⟨g,t,f,a,p,q,i,j,k,l,c,rfl⟩,e,d⟩:=h;exact ⟨q,c,(List.nodup_append.1 e).2.1,fun b off hp=>d b off (List.mem_append.2 (.inr hp))⟩
theorem o7 {W:World} (h:laidMet Tryz.prog laidAll W):Tabs W:=by
 have e : Lib.TabIs Tryz.prog W "legate/hex.digits" .u8 hexZs := Lib.tabIs_of_head Zx Zv Tryz.underlying244 Tryz.underlying5 cells5 ii h
 have d:=zt (zt (zt (zt h)));have f : Lib.TabIs Tryz.prog W "legate/sha.initial" .u32 iniZs := Lib.tabIs_of_head Zj Zw Tryz.underlying265 Tryz.underlying220 nD iQ d
 have g : Lib.TabIs Tryz.prog W "legate/sha.rounds" .u32 kays := Lib.tabIs_of_head Zk Zy Tryz.underlying275 Tryz.underlying220 nD iZ (zt d)
 have a:∀i,i<16->W.cell? ⟨2,i,none⟩=some (.int .u8 (ze i).toNat):=fun i hi=>by
  rw [e.cell Zx i hi];have:∀m:Fin 16,hexZs.getD m.val 0=((ze m.val).toNat:Int):=by decide
  rw [this ⟨i,hi⟩]
 have b:∀i,i<8->W.cell? ⟨3,i,none⟩=some (.int .u32 (yr.at i)):=fun i hi=>by
  rw [f.cell Zj i hi];have:∀m:Fin 8,iniZs.getD m.val 0=yr.at m.val:=by decide
  rw [this ⟨i,hi⟩]
 have c:∀i,i<64->W.cell? ⟨5,i,none⟩=some (.int .u32 (kay i)):=fun i hi=>g.cell Zk i (show i<kays.length by exact hi);exact ⟨b,c,a,G2 W _ (b 0 (by decide)),G2 W _ (c 0 (by decide)),G2 W _ (a 0 (by decide))⟩
theorem Qi {W:World} (h:laidMet Tryz.prog laidAll W):zV W :=
 Lib.tabIs_of_head ZJ Zb Tryz.underlying271 zc2 o6 iX (zt (zt (zt h)))
theorem nL {W:World} (h:laidMet Tryz.prog laidAll W):TabW W:=by
 have b : Lib.TabIs Tryz.prog W "legate/when.before" .i64 befZs := Lib.tabIs_of_head Zg Zp Tryz.underlying126 Tryz.underlying3 iK iJ (zt (zt (zt (zt (zt (zt h))))))
 have a:∀i,i<13->W.cell? ⟨0,i,none⟩=some (.int .i64 (beforeN i)):=fun i hi=>by
  rw [b.cell Zg i hi];have:∀m:Fin 13,befZs.getD m.val 0=beforeN m.val:=by decide
  rw [this ⟨i,hi⟩]
 exact ⟨a,G2 W _ (a 0 (by decide))⟩
def iV:DataW Unit->Array Value
 | .agg l=>(l.map fun
  | .lit (.int k n)=>Value.int k n
  | .lit (.string s)=>Value.string ⟨s.toArray⟩
  | _=>undef).toArray
 | _=>#[]
def lay (g:Nat) (d:DataW Unit) (h:Array Obj):Array Obj:=h.modify g fun
 | .cells _ t frozen=>.cells (iV d) t frozen
 | o=>o
noncomputable def laidWorld (os:Os):World :=
 { World.holding Tryz.prog os ⟨#[],#[],[]⟩ with heap:=lay 0 Rows.laid_legate_when_before (lay 5 Rows.laid_legate_sha_rounds (lay 3 Rows.laid_legate_sha_initial (lay 4 Rows.laid_internal_strconv_uint64pow10 (lay 7 Rows.laid_math_bits_deBruijn64tab (lay 6 Rows.laid_math_bits_deBruijn32tab (lay 2 Rows.laid_legate_hex_digits (World.holding Tryz.prog os ⟨#[],#[],[]⟩).heap)))))) }
theorem rP {H:Type} {enc:TypeId × Value->H} {P:Program} {f:Func} {s:ChangeSpec} {x C D E:Bool} {W l:World} {i:Array Value} {v:Value} {m o:List (DataW H)} {h pa pv:List MemPlace}
 (u:DataW.Whole enc P f.params.toList s.vars x W i.toList m o h)
 (A:∀(b:Nat) (k:Nat->Bool) (F:Bool),DataW.TrodAll enc P l b k F f.resultTypes.toList (v.resultList f.resultTypes.size) (s.fn H (m ++ o)).results [])
 (y:∀k:Nat->Bool,(∀p ∈ h,k p.block=true)->DataW.TrodAll enc P l 0 k true f.params.toList i.toList (s.fn H (m ++ o)).args pa)
 (B:∀k:Nat->Bool,(∀p ∈ h,k p.block=true)->DataW.TrodVars enc P l k s.vars (s.fn H (m ++ o)).vars pv)
 (q:h=pa ++ pv) (z:O5 W l)
 (w:∀(j:Nat) (t:TypeId) (r:Value),f.resultTypes[j]?=some t->(v.resultList f.resultTypes.size)[j]?=some r->Value.okWide P l .any 0 t r) :
 s.post enc P f x C D E W i v l:=by
 have d:=u.lt;have a:∀p ∈ h,(fun b=>decide (b<W.heap.size)) p.block=true:=fun p hp=>X3 (d p hp);refine ⟨m,o,h,[],pa,pv,u,A _ _ _,y _ a,B _ a,World.keptBut_mono (fun p hp=>⟨hp,.inr ?_⟩) (z.frame (· ∈ h)),fun _=>?_⟩
 . rw [q] at hp;exact List.mem_append.1 hp
 obtain ⟨_,_,_,_,_,g,e⟩:=u;refine ⟨w,_,_,([] ++ pa) ++ pv,⟨[] ++ pa,pv,trodAll_append (y _ fun _ _=>rfl) (A _ _ _),B _ fun _ _=>rfl,rfl,fun b off hp=>?_,fun h1=>?_⟩,fun p hp _=>?_⟩
 . have c:MemPlace.cell b off ∈ h:=by rw [q];exact hp
   rw [z.frozen (d _ c)];exact g b off c
 . have:=e h1;rwa [q] at this
 . rw [q];exact hp
