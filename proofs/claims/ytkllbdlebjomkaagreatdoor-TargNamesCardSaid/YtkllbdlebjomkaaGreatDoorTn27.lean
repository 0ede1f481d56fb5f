import Derived.Test.YtkllbdlebjomkaaGreatDoorTn02
import Derived.BigRegion
import Derived.StillTailTactics
set_option maxHeartbeats 1000000
set_option maxRecDepth 100000

namespace Go.Proofs.YtkllbdlebjomkaaGreatDoor
open Go.RowKit
theorem Qr (x s:Int) (i:0<=x) (j:x<4294967296) (k:1<=s) (l:s<=31) :
 bits BinOp.or IntKind.u32 (x * 2 ^ s.toNat % 4294967296) (x / 2 ^ (32 - s).toNat)=jO x (32 - s).toNat:=by
 obtain ⟨n,rfl⟩:∃n:Nat,s=32 - n:=⟨(32 - s).toNat,by omega⟩;have c:(32 - (n:Int)).toNat=32 - n:=by omega
 have d:(32 - (32 - (n:Int))).toNat=n:=by omega
 rw [c,d];obtain ⟨X,rfl⟩:=zb1 i;have e:(2:Nat) ^ n * 2 ^ (32 - n)=4294967296:=by rw [<- Nat.pow_add,show n+(32 - n)=32 by omega]
 have f:((X:Int) * 2 ^ (32 - n) % 4294967296)=((X % 2 ^ n * 2 ^ (32 - n):Nat):Int):=by
  have:X * 2 ^ (32 - n) % 4294967296=X % 2 ^ n * 2 ^ (32 - n):=by rw [<- e,Nat.mul_mod_mul_right]
  rw [<- this];simp
 have g:((X:Int) / 2 ^ n)=((X / 2 ^ n:Nat):Int):=by simp
 have a:X / 2 ^ n<2 ^ (32 - n):=(by rw [Nat.div_lt_iff_lt_mul (Nat.pow_pos (by omega)),Nat.mul_comm,e];omega);have b:X % 2 ^ n * 2 ^ (32 - n)<4294967296:=by
  have:X % 2 ^ n<2 ^ n:=Nat.mod_lt _ (Nat.pow_pos (by omega))
  calc X % 2 ^ n * 2 ^ (32 - n)<2 ^ n * 2 ^ (32 - n):=Nat.mul_lt_mul_of_pos_right this (Nat.pow_pos (by omega))
   _=_:=e
 have h:2 ^ (32 - n)<=4294967296:=Nat.pow_le_pow_right (n:=2) (by omega) (show 32 - n<=32 by omega);rw [f,g,u32_or_nat _ _ b (by omega),nat_join (32 - n) _ _ (Nat.mul_mod_left _ _) a];unfold jO;simp
theorem rot (x k s:Int) (w:World) (h:w32 x) (g:bits BinOp.and IntKind.u64 (IntKind.u64.wrap k) 31=s) (d:1<=s) (f:s<=31) :
 Calls Tryz.prog 211 #[.int .u32 x,.int .i64 k] w fun e w'=>e=.returned (.int .u32 (jO x (32 - s).toNat))/\w=w':=by
 obtain ⟨b,c⟩:=h;have a:=U (Qr x s b c d f);go_enter Tryz.func211,Tryz.ntmps211;go_wp2;go_ret;exact ⟨zG a.o,rfl⟩
theorem uk (n:Nat) (k:Int) (a:bits BinOp.and IntKind.u64 (IntKind.u64.wrap k) 31=32 - n) (b:1<=n) (c:n<=31) (x:Int) (w:World) (h:w32 x) :
 Calls Tryz.prog 211 #[.int .u32 x,.int .i64 k] w fun e w'=>e=.returned (.int .u32 (jO x n))/\w=w':=by
 have:=rot x k (32 - n) w h a (by omega) (by omega);rwa [show (32 - (32 - (n:Int))).toNat=n by omega] at this
theorem ZQ (x:Int) (w:World) (h:w32 x):Calls Tryz.prog 211 #[.int .u32 x,.int .i64 (-7)] w fun e w'=>e=.returned (.int .u32 (jO x 7))/\w=w':=uk 7 (-7) (by decide +kernel) (by omega) (by omega) x w h
theorem Q5 (x:Int) (w:World) (h:w32 x):Calls Tryz.prog 211 #[.int .u32 x,.int .i64 (-18)] w fun e w'=>e=.returned (.int .u32 (jO x 18))/\w=w':=uk 18 (-18) (by decide +kernel) (by omega) (by omega) x w h
theorem Q6 (x:Int) (w:World) (h:w32 x):Calls Tryz.prog 211 #[.int .u32 x,.int .i64 (-17)] w fun e w'=>e=.returned (.int .u32 (jO x 17))/\w=w':=uk 17 (-17) (by decide +kernel) (by omega) (by omega) x w h
theorem Q7 (x:Int) (w:World) (h:w32 x):Calls Tryz.prog 211 #[.int .u32 x,.int .i64 (-19)] w fun e w'=>e=.returned (.int .u32 (jO x 19))/\w=w':=uk 19 (-19) (by decide +kernel) (by omega) (by omega) x w h
theorem ZZ (x:Int) (w:World) (h:w32 x):Calls Tryz.prog 211 #[.int .u32 x,.int .i64 (-6)] w fun e w'=>e=.returned (.int .u32 (jO x 6))/\w=w':=uk 6 (-6) (by decide +kernel) (by omega) (by omega) x w h
theorem Q8 (x:Int) (w:World) (h:w32 x):Calls Tryz.prog 211 #[.int .u32 x,.int .i64 (-11)] w fun e w'=>e=.returned (.int .u32 (jO x 11))/\w=w':=uk 11 (-11) (by decide +kernel) (by omega) (by omega) x w h
theorem Q9 (x:Int) (w:World) (h:w32 x):Calls Tryz.prog 211 #[.int .u32 x,.int .i64 (-25)] w fun e w'=>e=.returned (.int .u32 (jO x 25))/\w=w':=uk 25 (-25) (by decide +kernel) (by omega) (by omega) x w h
theorem ZX (x:Int) (w:World) (h:w32 x):Calls Tryz.prog 211 #[.int .u32 x,.int .i64 (-2)] w fun e w'=>e=.returned (.int .u32 (jO x 2))/\w=w':=uk 2 (-2) (by decide +kernel) (by omega) (by omega) x w h
theorem Zq (x:Int) (w:World) (h:w32 x):Calls Tryz.prog 211 #[.int .u32 x,.int .i64 (-13)] w fun e w'=>e=.returned (.int .u32 (jO x 13))/\w=w':=uk 13 (-13) (by decide +kernel) (by omega) (by omega) x w h
theorem Zz (x:Int) (w:World) (h:w32 x):Calls Tryz.prog 211 #[.int .u32 x,.int .i64 (-22)] w fun e w'=>e=.returned (.int .u32 (jO x 22))/\w=w':=uk 22 (-22) (by decide +kernel) (by omega) (by omega) x w h
def xd (begun:Bool) (s:S8) (p:Nat->Int) (size:Int):Nat->Value:=fun i =>
 if i=0 then .bool begun else if i<=8 then .int .u32 (s.at (i - 1)) else if i<=72 then .int .u8 (p (i - 9)) else .int .i64 size
theorem vT (a:Bool) (s:S8) (p:Nat->Int) (b:Int) (j:Nat) (h:j<64):xd a s p b (9+j)=.int .u8 (p j):=by unfold xd;rw [Z6 (by omega),Z6 (by omega),J3 (by omega)];simp
theorem Qn (b T:Nat) (s:S8) (p:Nat->Int) (a8:Int) (w:World) (hr:w.rowIs b T 74 (xd true s p a8))
 (hp:∀i,i<64->0<=p i/\p i<=255) (hs:s.ok) (hk:∀i,i<64->w.cell? ⟨5,i,none⟩=some (.int .u32 (kay i))) (hg:5<w.heap.size) :
 Calls Tryz.prog 203 #[.pointer (some ⟨b,0,none⟩)] w fun e w'=>e=.returned (.tuple #[])/\w'.rowIs b T 74 (xd true (y9 s p) p a8)/\Touch (· = b) w w':=by
 have B:=U hr;clear hr;have F:=U hp;clear hp;have HS:=U hs;clear hs;have HK:=U hk;clear hk;go_enter Tryz.func203,Tryz.ntmps203;go_wp2;go_loopw [3,21] (fun _ i wr=>∃k:Nat,k<=16/\i=.int .i64 k/\O5 w wr/\wr.rowIs w.heap.size 275 64 (fun j=>if j<k then .int .u32 (wrd p j) else .int .u32 0)) (fun _ i _=>16 - (intOf i).toNat)
 case atStart=>exact ⟨0,by omega,rfl,O4,sy w (.int .u32 0) 64 275 _ (by simp)⟩
 case round =>
  obtain ⟨k,hk,rfl,m,l⟩:=hrel;by_cases hlt:k<16
  ·
   -- DEV{
   have x:=qj m B.o B.o.lt;have N:wr.cell? ⟨b,9+4 * k,none⟩=some (.int .u8 (p (4 * k))):=by rw [x.cell (by omega),vT _ _ _ _ _ (by omega)]
   have P:wr.cell? ⟨b,9+(4 * k+1),none⟩=some (.int .u8 (p (4 * k+1))):=by rw [x.cell (by omega),vT _ _ _ _ _ (by omega)]
   have C:wr.cell? ⟨b,9+(4 * k+2),none⟩=some (.int .u8 (p (4 * k+2))):=by rw [x.cell (by omega),vT _ _ _ _ _ (by omega)]
   have H:wr.cell? ⟨b,9+(4 * k+3),none⟩=some (.int .u8 (p (4 * k+3))):=by rw [x.cell (by omega),vT _ _ _ _ _ (by omega)]
   have Q:wr.cell? ⟨w.heap.size,k,none⟩=some (.int .u32 0):=by rw [l.cell (by omega),Z6 (by omega)]
   have V:wr.frozen? ⟨w.heap.size,k,none⟩=false:=l.frozen k;have D:Hid (_=be4 p k):=eE _ _ _ _ (F.o (4 * k) (by omega)) (F.o (4 * k+1) (by omega)) (F.o (4 * k+2) (by omega)) (F.o (4 * k+3) (by omega));have u:=U m;clear m;have v:=U l;clear l;clear x;have i0:IntKind.i64.wrap (4 * (k:Int))=4 * (k:Int):=N5 _ (by omega);have i1:IntKind.i64.wrap (4 * (k:Int)+1)=4 * (k:Int)+1:=N5 _ (by omega);have i2:IntKind.i64.wrap (4 * (k:Int)+2)=4 * (k:Int)+2:=N5 _ (by omega);have i3:IntKind.i64.wrap (4 * (k:Int)+3)=4 * (k:Int)+3:=N5 _ (by omega);have j0:0<=4 * (k:Int):=by omega
   have j1:0<=4 * (k:Int)+1:=by omega
   have j2:0<=4 * (k:Int)+2:=by omega
   have j3:0<=4 * (k:Int)+3:=by omega
   have l0:4 * (k:Int)<64:=by omega
   have l1:4 * (k:Int)+1<64:=by omega
   have l2:4 * (k:Int)+2<64:=by omega
   have l3:4 * (k:Int)+3<64:=by omega
   have t0:(4 * (k:Int)).toNat=4 * k:=by omega
   have t1:(4 * (k:Int)+1).toNat=4 * k+1:=by omega
   have t2:(4 * (k:Int)+2).toNat=4 * k+2:=by omega
   have t3:(4 * (k:Int)+3).toNat=4 * k+3:=by omega
   have m0:(k:Int)<64:=by omega
   go_wp2_with fail
   go_still_tail 43,(by kernel_rfl)
   clear i0 i1 i2 i3 j0 j1 j2 j3 l0 l1 l2 l3 t0 t1 t2 t3 N P C H;go_wp2;rw [D.o];go_roundw
   case rel =>
    refine ⟨k+1,by omega,by go_num,(u.o.setCell lz _).drew,(v.o.set k _).drew.congr fun j hj=>?_⟩;by_cases e:j=k
    . subst e;simp [tq p j hlt]
    . simp only [Z6 e];by_cases e':j<k
      . rw [J3 e',J3 (by omega)]
      . rw [Z6 e',Z6 (by omega)]
   case measure=>simp [intOf];omega
   -- }DEV
  . have u:=U m;clear m;have v:Hid (wr.rowIs w.heap.size 275 64 (fun j=>if j<16 then .int .u32 (wrd p j) else .int .u32 0)):=by rw [show k=16 by omega] at l;exact l
    clear l;have a1:decide ((k:Int)<16)=false:=by simp;omega
    clear hlt hk;obtain ⟨k1,rfl⟩:∃k1:Nat,k1=k:=⟨_,rfl⟩;obtain ⟨wa,rfl⟩:∃wa:World,wa=wr:=⟨_,rfl⟩;go_wp2;go_loopw [4] (fun i wr=>∃k:Nat,16<=k/\k<=64/\i=.int .i64 k/\O5 w wr/\wr.rowIs w.heap.size 275 64 (fun j=>if j<k then .int .u32 (wrd p j) else .int .u32 0)) (fun i _=>64 - (intOf i).toNat)
    case atStart=>exact ⟨16,by omega,by omega,rfl,u.o,v.o⟩
    case round =>
     clear u v;obtain ⟨k,L,hk,rfl,m,l⟩:=hrel;by_cases hlt:k<64
     ·
      -- DEV{
      have K:∀j,j<k->wr.cell? ⟨w.heap.size,j,none⟩=some (.int .u32 (wrd p j)):=fun j hj=>by rw [l.cell (by omega),J3 hj]
      have N:=K (k - 15) (by omega);have P:=K (k - 2) (by omega);have C:=K (k - 16) (by omega);have H:=K (k - 7) (by omega);have Q:wr.cell? ⟨w.heap.size,k,none⟩=some (.int .u32 0):=by rw [l.cell (by omega),Z6 (by omega)]
      have V:wr.frozen? ⟨w.heap.size,k,none⟩=false:=l.frozen k;have HX:=U (nr p F.o (k - 15));have HY:=U (nr p F.o (k - 2));have D:=U (tz p k L);have u:=U m;clear m;have v:=U l;clear l K;have i0:IntKind.i64.wrap ((k:Int) - 15)=(k:Int) - 15:=N5 _ (by omega);have i1:IntKind.i64.wrap ((k:Int) - 2)=(k:Int) - 2:=N5 _ (by omega);have i2:IntKind.i64.wrap ((k:Int) - 16)=(k:Int) - 16:=N5 _ (by omega);have i3:IntKind.i64.wrap ((k:Int) - 7)=(k:Int) - 7:=N5 _ (by omega);have j0:0<=(k:Int) - 15:=by omega
      have j1:0<=(k:Int) - 2:=by omega
      have j2:0<=(k:Int) - 16:=by omega
      have j3:0<=(k:Int) - 7:=by omega
      have a4:15<=(k:Int):=by omega
      have a5:2<=(k:Int):=by omega
      have a6:16<=(k:Int):=by omega
      have a7:7<=(k:Int):=by omega
      have l0:(k:Int) - 15<64:=by omega
      have l1:(k:Int) - 2<64:=by omega
      have l2:(k:Int) - 16<64:=by omega
      have l3:(k:Int) - 7<64:=by omega
      have t0:((k:Int) - 15).toNat=k - 15:=by omega
      have t1:((k:Int) - 2).toNat=k - 2:=by omega
      have t2:((k:Int) - 16).toNat=k - 16:=by omega
      have t3:((k:Int) - 7).toNat=k - 7:=by omega
      have m0:(k:Int)<64:=by omega
      go_wp2_with fail
      go_quiet (fail)
      have I:=U (Below.drewN u.o nq);have J:=O0 ((wr.drewN nq).rowIs _ _ _ _) v.o;replace C:(wr.drewN nq).cell? _=_:=C;replace H:(wr.drewN nq).cell? _=_:=H;replace Q:(wr.drewN nq).cell? _=_:=Q;replace V:(wr.drewN nq).frozen? _=_:=V;generalize wr.drewN nq=w2 at C H Q V I J ⊢;clear N P i0 i1 j0 j1 l0 l1 t0 t1 u v;go_wp2_with fail;refine (ZQ _ _ HX.o).mono ?_;rintro e w' ⟨rfl,rfl⟩;go_wp2_with fail;refine (Q5 _ _ HX.o).mono ?_;rintro e w' ⟨rfl,rfl⟩;go_wp2_with fail;refine (Q6 _ _ HY.o).mono ?_;rintro e w' ⟨rfl,rfl⟩;go_wp2_with fail;refine (Q7 _ _ HY.o).mono ?_;rintro e w' ⟨rfl,rfl⟩;go_wp2_with fail;go_still_tail 15,(by kernel_rfl)
      clear i2 i3 j2 j3 l2 l3 t2 t3 C H;go_wp2;go_roundw
      case rel =>
       refine ⟨k+1,by omega,by omega,by go_num,(I.o.setCell lz _).drew,(J.o.set k _).drew.congr fun j hj=>?_⟩;by_cases e:j=k
       . subst e;simp only [J3,J3 (show j<j+1 by omega)];rw [D.o];exact J6 (Value.int .u32) (by unfold xK sg0 sg1 py;omega)
       . simp only [Z6 e];by_cases e':j<k
         . rw [J3 e',J3 (by omega)]
         . rw [Z6 e',Z6 (by omega)]
      case measure=>simp [intOf];omega
      -- }DEV
     . have u:=U m;have v:Hid (wr.rowIs w.heap.size 275 64 (fun j=>.int .u32 (wrd p j))):=l.congr fun j hj=>by rw [J3 (by omega)]
       have q:∀j,j<8->wr.cell? ⟨b,1+j,none⟩=some (.int .u32 (s.at j)):=fun j hj=>by rw [(qj m B.o B.o.lt).cell (by omega)];unfold xd;rw [Z6 (by omega),J3 (by omega)];simp
       have s0:=q 0 (by omega);have s1:=q 1 (by omega);have s2:=q 2 (by omega);have s3:=q 3 (by omega);have s4:=q 4 (by omega);have s5:=q 5 (by omega);have s6:=q 6 (by omega);have s7:=q 7 (by omega);simp only [S8.at] at s0 s1 s2 s3 s4 s5 s6 s7;clear q l m;have a2:decide ((k:Int)<64)=false:=by simp;omega
       have Z:w.heap.size<wr.heap.size:=v.o.lt;clear hlt hk L;obtain ⟨y,rfl⟩:∃y:World,y=wr:=⟨_,rfl⟩;obtain ⟨k2,rfl⟩:∃k2:Nat,k2=k:=⟨_,rfl⟩;go_wp2;clear s0 s1 s2 s3 s4 s5 s6 s7;go_loopw [115] (fun i wr=>∃k:Nat,k<=64/\i=.int .i64 k/\O5 y wr/\wr.rowIs y.heap.size 265 8 (fun j=>.int .u32 ((yF p s k).at j))) (fun i _=>64 - (intOf i).toNat)
       case atStart=>exact ⟨0,by omega,rfl,O4,World.rowIs_alloc y #[.int .u32 s.a,.int .u32 s.b,.int .u32 s.c,.int .u32 s.d,.int .u32 s.e,.int .u32 s.f,.int .u32 s.g,.int .u32 s.h] 265 _ (fun i hi=>by
        rcases i with _|_|_|_|_|_|_|_|i <;> first|rfl|(simp at hi;omega))⟩
       case round =>
        obtain ⟨k,hk,rfl,m,l⟩:=hrel;by_cases hlt:k<64
        ·
         have X:=U (nt p HS.o k);have D:Hid (yF p s (k+1)=rnd (kay k) (wrd p k) (yF p s k)):=rfl;obtain ⟨S,hS⟩:=O1 (yF p s k);rw [<- hS] at l X D;clear hS;have r0:=l.cell (i:=0) (by omega);have r1:=l.cell (i:=1) (by omega);have r2:=l.cell (i:=2) (by omega);have r3:=l.cell (i:=3) (by omega);have r4:=l.cell (i:=4) (by omega);have r5:=l.cell (i:=5) (by omega);have r6:=l.cell (i:=6) (by omega);have r7:=l.cell (i:=7) (by omega);simp only [S8.at] at r0 r1 r2 r3 r4 r5 r6 r7;have f0:=l.frozen 0;have f1:=l.frozen 1;have f2:=l.frozen 2;have f3:=l.frozen 3;have f4:=l.frozen 4;have f5:=l.frozen 5;have f6:=l.frozen 6;have f7:=l.frozen 7;have cw:wr.cell? ⟨w.heap.size,k,none⟩=some (.int .u32 (wrd p k)):=(qj m v.o Z).cell (by omega);have ck:wr.cell? ⟨5,k,none⟩=some (.int .u32 (kay k)):=(by rw [m.cell (show 5<y.heap.size by omega),u.o.cell hg];exact HK.o k hlt);have z:=U X.o.1;have A:=U X.o.2.2.2.2.1;have W:=U m;clear m;have Y:=U l;clear l;have m0:(k:Int)<64:=by omega
         go_wp2_with fail
         go_quiet (fail)
         go_wp2_with fail
         refine (ZZ _ _ A.o).mono ?_;rintro e w' ⟨rfl,rfl⟩;go_wp2_with fail;refine (Q8 _ _ A.o).mono ?_;rintro e w' ⟨rfl,rfl⟩;go_wp2_with fail;refine (Q9 _ _ A.o).mono ?_;rintro e w' ⟨rfl,rfl⟩;go_wp2_with fail;go_quiet (fail)
         go_wp2_with fail
         refine (ZX _ _ z.o).mono ?_;rintro e w' ⟨rfl,rfl⟩;go_wp2_with fail;refine (Zq _ _ z.o).mono ?_;rintro e w' ⟨rfl,rfl⟩;go_wp2_with fail;refine (Zz _ _ z.o).mono ?_;rintro e w' ⟨rfl,rfl⟩;go_wp2;go_roundw
         case rel =>
          refine ⟨k+1,by omega,by go_num,?_,?_⟩
          . exact eO _ _ _ _ _ _ _ _ (Below.drewN W.o _) lz
          . refine (Zr _ _ _ _ _ _ _ _ (show (wr.drewN _).rowIs _ _ _ _ from Y.o)).congr fun j hj=>?_;rw [D.o];rcases j with _|_|_|_|_|_|_|_|j
            . exact J6 (Value.int .u32) (QL (kay k) (wrd p k) S)
            . rfl
            . rfl
            . rfl
            . exact J6 (Value.int .u32) (QR (kay k) (wrd p k) S)
            . rfl
            . rfl
            . rfl
            . omega
         case measure=>simp [intOf];omega
        ·
         have M:Hid (wr.rowIs y.heap.size 265 8 (fun j=>.int .u32 ((yF p s 64).at j))):=by rw [show k=64 by omega] at l;exact l
         have a3:decide ((k:Int)<64)=false:=by simp;omega
         have E:Hid (wr.rowIs b T 74 (xd true s p a8)):=qj (u.o.trans (m.mono (by omega))) B.o B.o.lt;have G:Hid (Touch (· = b) w wr):=Touch.of_below (u.o.trans (m.mono (by omega))) lz;have a0:b<w.heap.size:=B.o.lt;clear l m hlt hk v u;obtain ⟨wc,rfl⟩:∃wc:World,wc=wr:=⟨_,rfl⟩;obtain ⟨k3,rfl⟩:∃k3:Nat,k3=k:=⟨_,rfl⟩;go_wp2;go_loopw [196] (fun i wr=>∃k:Nat,k<=8/\i=.int .i64 k/\Touch (· = b) w wr/\wr.rowIs y.heap.size 265 8 (fun j=>.int .u32 ((yF p s 64).at j))/\wr.rowIs b T 74 (fun j=>if 1<=j/\j<=k then .int .u32 (xK (s.at (j - 1)) ((yF p s 64).at (j - 1))) else xd true s p a8 j)) (fun i _=>8 - (intOf i).toNat)
         case atStart=>exact ⟨0,by omega,rfl,G.o,M.o,E.o.congr fun j hj=>by rw [Z6 (by omega)]⟩
         case round =>
          clear G M E;obtain ⟨k,hk,rfl,r,l,o⟩:=hrel;by_cases hlt:k<8
          . have N:wr.cell? ⟨b,1+k,none⟩=some (.int .u32 (s.at k)):=by rw [o.cell (by omega),Z6 (by omega)];unfold xd;rw [Z6 (by omega),J3 (by omega)];simp
            have P:wr.cell? ⟨y.heap.size,k,none⟩=some (.int .u32 ((yF p s 64).at k)):=l.cell hlt;have C:wr.frozen? ⟨b,1+k,none⟩=false:=o.frozen _;have m0:(k:Int)<8:=by omega
            have G:=U r;clear r;have M:=U l;clear l;have E:=U o;clear o;generalize (yF p s 64)=R at *;go_wp2_with fail;go_still_tail 13,(by kernel_rfl)
            go_wp2;go_roundw
            case rel =>
             refine ⟨k+1,by omega,by go_num,(G.o.setCell (.inl rfl) _).drew,(M.o.setOther (by show y.heap.size≠b;omega) _).drew,(E.o.set _ _).drew.congr fun j hj=>?_⟩;by_cases e:j=1+k
             . subst e;rw [J3 rfl,J3 (by omega),show 1+k - 1=k by omega];rfl
             . simp only [Z6 e];by_cases e':1<=j/\j<=k
               . rw [J3 e',J3 (by omega)]
               . rw [Z6 e',Z6 (by omega)]
            case measure=>simp [intOf];omega
          . have G:=U r;clear r;have E:Hid (wr.rowIs b T 74 (xd true (y9 s p) p a8)):=o.congr fun j hj=>by
             by_cases e:1<=j/\j<=8
             . rw [J3 (by omega)];unfold xd;rw [Z6 (by omega),J3 (by omega)];unfold y9;rw [Qz]
             . rw [Z6 (by omega)];unfold xd;by_cases e0:j=0
               . rw [J3 e0,J3 e0]
               . simp only [Z6 e0,Z6 (show ¬j<=8 by omega)]
            clear o l;go_wp2
            go_end0
            exact ⟨rfl,E.o,G.o⟩
