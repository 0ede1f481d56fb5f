/- The contracts of package sha: the block's function (mix). -/
import Derived.Test.YthgembbgcbaghaaGreatDoorDa01
import Derived.BigRegion
import Derived.StillTailTactics

namespace Go.Proofs.YthgembbgcbaghaaGreatDoor
open Go.RowKit
theorem aM (x s:Int) (h1:0≤x) (h2:x<4294967296) (h3:1≤s) (h4:s≤31) :
 bits BinOp.or IntKind.u32 (x * 2 ^ s.toNat % 4294967296) (x / 2 ^ (32 - s).toNat)=jw x (32 - s).toNat:=by
 obtain ⟨n,rfl⟩:∃n:Nat,s=32 - n:=⟨(32 - s).toNat,by omega⟩
 have e1:(32 - (n:Int)).toNat=32 - n:=by omega
 have e2:(32 - (32 - (n:Int))).toNat=n:=by omega
 rw [e1,e2]
 obtain ⟨X,rfl⟩:=Int.eq_ofNat_of_zero_le h1
 have e:(2:Nat) ^ n * 2 ^ (32 - n)=4294967296:=by rw [← Nat.pow_add,show n+(32 - n)=32 by omega]
 have f1:((X:Int) * 2 ^ (32 - n) % 4294967296)=((X % 2 ^ n * 2 ^ (32 - n):Nat):Int):=by
  have:X * 2 ^ (32 - n) % 4294967296=X % 2 ^ n * 2 ^ (32 - n):=by rw [← e,Nat.mul_mod_mul_right]
  rw [← this];simp
 have f2:((X:Int) / 2 ^ n)=((X / 2 ^ n:Nat):Int):=by simp
 have b1:X / 2 ^ n<2 ^ (32 - n):=by
  rw [Nat.div_lt_iff_lt_mul (Nat.pow_pos (by omega)),Nat.mul_comm,e];omega
 have b2:X % 2 ^ n * 2 ^ (32 - n)<4294967296:=by
  have:X % 2 ^ n<2 ^ n:=Nat.mod_lt _ (Nat.pow_pos (by omega))
  calc X % 2 ^ n * 2 ^ (32 - n)<2 ^ n * 2 ^ (32 - n):=Nat.mul_lt_mul_of_pos_right this (Nat.pow_pos (by omega))
   _=_:=e
 have b3:2 ^ (32 - n)≤4294967296:=Nat.pow_le_pow_right (n:=2) (by omega) (show 32 - n≤32 by omega)
 rw [f1,f2,u32_or_nat _ _ b2 (by omega),nat_join (32 - n) _ _ (Nat.mul_mod_left _ _) b1]
 unfold jw;simp
set_option maxHeartbeats 400000 in
theorem rot (x k s:Int) (w:World) (h:w32 x) (hs:bits BinOp.and IntKind.u64 (IntKind.u64.wrap k) 31=s) (h2:1≤s) (h3:s≤31) :
 Calls Tryz.prog 268 #[.int .u32 x,.int .i64 k] w fun e w'=>e=.returned (.int .u32 (jw x (32 - s).toNat))∧w=w':=by
 obtain ⟨h0,h1⟩:=h
 have HR:=Lh (aM x s h0 h1 h2 h3)
 go_enter Tryz.func268,Tryz.ntmps268
 go_wp2
 go_ret
 exact ⟨wg HR.out,rfl⟩
theorem pq (n:Nat) (k:Int) (hk:bits BinOp.and IntKind.u64 (IntKind.u64.wrap k) 31=32 - n) (h2:1≤n) (h3:n≤31) (x:Int) (w:World) (h:w32 x) :
 Calls Tryz.prog 268 #[.int .u32 x,.int .i64 k] w fun e w'=>e=.returned (.int .u32 (jw x n))∧w=w':=by
 have:=rot x k (32 - n) w h hk (by omega) (by omega)
 rwa [show (32 - (32 - (n:Int))).toNat=n by omega] at this
theorem tA (x:Int) (w:World) (h:w32 x):Calls Tryz.prog 268 #[.int .u32 x,.int .i64 (-7)] w fun e w'=>e=.returned (.int .u32 (jw x 7))∧w=w':=pq 7 (-7) (by decide +kernel) (by omega) (by omega) x w h
theorem tZ (x:Int) (w:World) (h:w32 x):Calls Tryz.prog 268 #[.int .u32 x,.int .i64 (-18)] w fun e w'=>e=.returned (.int .u32 (jw x 18))∧w=w':=pq 18 (-18) (by decide +kernel) (by omega) (by omega) x w h
theorem tX (x:Int) (w:World) (h:w32 x):Calls Tryz.prog 268 #[.int .u32 x,.int .i64 (-17)] w fun e w'=>e=.returned (.int .u32 (jw x 17))∧w=w':=pq 17 (-17) (by decide +kernel) (by omega) (by omega) x w h
theorem tJ (x:Int) (w:World) (h:w32 x):Calls Tryz.prog 268 #[.int .u32 x,.int .i64 (-19)] w fun e w'=>e=.returned (.int .u32 (jw x 19))∧w=w':=pq 19 (-19) (by decide +kernel) (by omega) (by omega) x w h
theorem tT (x:Int) (w:World) (h:w32 x):Calls Tryz.prog 268 #[.int .u32 x,.int .i64 (-6)] w fun e w'=>e=.returned (.int .u32 (jw x 6))∧w=w':=pq 6 (-6) (by decide +kernel) (by omega) (by omega) x w h
theorem tK (x:Int) (w:World) (h:w32 x):Calls Tryz.prog 268 #[.int .u32 x,.int .i64 (-11)] w fun e w'=>e=.returned (.int .u32 (jw x 11))∧w=w':=pq 11 (-11) (by decide +kernel) (by omega) (by omega) x w h
theorem tV (x:Int) (w:World) (h:w32 x):Calls Tryz.prog 268 #[.int .u32 x,.int .i64 (-25)] w fun e w'=>e=.returned (.int .u32 (jw x 25))∧w=w':=pq 25 (-25) (by decide +kernel) (by omega) (by omega) x w h
theorem tI (x:Int) (w:World) (h:w32 x):Calls Tryz.prog 268 #[.int .u32 x,.int .i64 (-2)] w fun e w'=>e=.returned (.int .u32 (jw x 2))∧w=w':=pq 2 (-2) (by decide +kernel) (by omega) (by omega) x w h
theorem tW (x:Int) (w:World) (h:w32 x):Calls Tryz.prog 268 #[.int .u32 x,.int .i64 (-13)] w fun e w'=>e=.returned (.int .u32 (jw x 13))∧w=w':=pq 13 (-13) (by decide +kernel) (by omega) (by omega) x w h
theorem tY (x:Int) (w:World) (h:w32 x):Calls Tryz.prog 268 #[.int .u32 x,.int .i64 (-22)] w fun e w'=>e=.returned (.int .u32 (jw x 22))∧w=w':=pq 22 (-22) (by decide +kernel) (by omega) (by omega) x w h
def xx (begun:Bool) (s:S8) (p:Nat→Int) (size:Int):Nat→Value:=fun i =>
 if i=0 then .bool begun else if i≤8 then .int .u32 (s.at (i - 1)) else if i≤72 then .int .u8 (p (i - 9)) else .int .i64 size
theorem kP (begun:Bool) (s:S8) (p:Nat→Int) (size:Int) (j:Nat) (h:j<64):xx begun s p size (9+j)=.int .u8 (p j):=by
 unfold xx;rw [if_neg (by omega),if_neg (by omega),if_pos (by omega)];simp
set_option maxRecDepth 100000 in
set_option maxHeartbeats 1000000 in
theorem aC (b T:Nat) (s:S8) (p:Nat→Int) (size:Int) (w:World) (hr:w.rowIs b T 74 (xx true s p size))
 (hp:∀i,i<64→0≤p i∧p i≤255) (hs:s.ok) (hk:∀i,i<64→w.cell? ⟨3,i,none⟩=some (.int .u32 (kay i))) (hg:3<w.heap.size) :
 Calls Tryz.prog 252 #[.pointer (some ⟨b,0,none⟩)] w fun e w'=>e=.returned (.tuple #[])∧w'.rowIs b T 74 (xx true (wl s p) p size)∧Touch (· = b) w w':=by
 have HR:=Lh hr;clear hr
 have HP:=Lh hp;clear hp
 have HS:=Lh hs;clear hs
 have HK:=Lh hk;clear hk
 go_enter Tryz.func252,Tryz.ntmps252
 go_wp2
 go_loopw [3,21] (fun _ i wr=>∃k:Nat,k≤16∧i=.int .i64 k∧Below w.heap.size w wr∧wr.rowIs w.heap.size 263 64 (fun j=>if j<k then .int .u32 (wrd p j) else .int .u32 0)) (fun _ i _=>16 - (intOf i).toNat)
 case atStart=>exact ⟨0,by omega,rfl,(Below.refl _ _).alloc lz _,dg w (.int .u32 0) 64 263 _ (by simp)⟩
 case round =>
  obtain ⟨k,hk,rfl,hbel,hrow⟩:=hrel
  by_cases hlt:k<16
  ·
   -- DEV{
   have hrb:=qj hbel HR.out HR.out.lt
   have c0:wr.cell? ⟨b,9+4 * k,none⟩=some (.int .u8 (p (4 * k))):=by rw [hrb.cell (by omega),kP _ _ _ _ _ (by omega)]
   have c1:wr.cell? ⟨b,9+(4 * k+1),none⟩=some (.int .u8 (p (4 * k+1))):=by rw [hrb.cell (by omega),kP _ _ _ _ _ (by omega)]
   have c2:wr.cell? ⟨b,9+(4 * k+2),none⟩=some (.int .u8 (p (4 * k+2))):=by rw [hrb.cell (by omega),kP _ _ _ _ _ (by omega)]
   have c3:wr.cell? ⟨b,9+(4 * k+3),none⟩=some (.int .u8 (p (4 * k+3))):=by rw [hrb.cell (by omega),kP _ _ _ _ _ (by omega)]
   have c4:wr.cell? ⟨w.heap.size,k,none⟩=some (.int .u32 0):=by rw [hrow.cell (by omega),if_neg (by omega)]
   have c5:wr.frozen? ⟨w.heap.size,k,none⟩=false:=hrow.frozen k
   have HE:Hid (_=be4 p k):=aa _ _ _ _ (HP.out (4 * k) (by omega)) (HP.out (4 * k+1) (by omega)) (HP.out (4 * k+2) (by omega)) (HP.out (4 * k+3) (by omega))
   have HB:=Lh hbel;clear hbel
   have HW:=Lh hrow;clear hrow
   clear hrb
   have i0:IntKind.i64.wrap (4 * (k:Int))=4 * (k:Int):=IntWalk.i64_in _ (by omega)
   have i1:IntKind.i64.wrap (4 * (k:Int)+1)=4 * (k:Int)+1:=IntWalk.i64_in _ (by omega)
   have i2:IntKind.i64.wrap (4 * (k:Int)+2)=4 * (k:Int)+2:=IntWalk.i64_in _ (by omega)
   have i3:IntKind.i64.wrap (4 * (k:Int)+3)=4 * (k:Int)+3:=IntWalk.i64_in _ (by omega)
   have j0:0≤4 * (k:Int):=by omega
   have j1:0≤4 * (k:Int)+1:=by omega
   have j2:0≤4 * (k:Int)+2:=by omega
   have j3:0≤4 * (k:Int)+3:=by omega
   have l0:4 * (k:Int)<64:=by omega
   have l1:4 * (k:Int)+1<64:=by omega
   have l2:4 * (k:Int)+2<64:=by omega
   have l3:4 * (k:Int)+3<64:=by omega
   have t0:(4 * (k:Int)).toNat=4 * k:=by omega
   have t1:(4 * (k:Int)+1).toNat=4 * k+1:=by omega
   have t2:(4 * (k:Int)+2).toNat=4 * k+2:=by omega
   have t3:(4 * (k:Int)+3).toNat=4 * k+3:=by omega
   have m0:(k:Int)<64:=by omega
   go_wp2_with fail
   go_still_tail 43,(by kernel_rfl)
   clear i0 i1 i2 i3 j0 j1 j2 j3 l0 l1 l2 l3 t0 t1 t2 t3 c0 c1 c2 c3
   go_wp2
   rw [HE.out]
   go_roundw
   case rel =>
    refine ⟨k+1,by omega,by go_num,(HB.out.setCell lz _).drew,(HW.out.set k _).drew.congr fun j hj=>?_⟩
    by_cases e:j=k
    · subst e;simp [lR p j hlt]
    · simp only [if_neg e];by_cases e':j<k
      · rw [if_pos e',if_pos (by omega)]
      · rw [if_neg e',if_neg (by omega)]
   case measure=>simp [intOf];omega
   -- }DEV
  · have HB:=Lh hbel;clear hbel
    have HW:Hid (wr.rowIs w.heap.size 263 64 (fun j=>if j<16 then .int .u32 (wrd p j) else .int .u32 0)):=by rw [show k=16 by omega] at hrow;exact hrow
    clear hrow
    have hd1:decide ((k:Int)<16)=false:=by simp;omega
    clear hlt hk
    obtain ⟨k1,rfl⟩:∃k1:Nat,k1=k:=⟨_,rfl⟩
    obtain ⟨wa,rfl⟩:∃wa:World,wa=wr:=⟨_,rfl⟩
    go_wp2
    go_loopw [4] (fun i wr=>∃k:Nat,16≤k∧k≤64∧i=.int .i64 k∧Below w.heap.size w wr∧wr.rowIs w.heap.size 263 64 (fun j=>if j<k then .int .u32 (wrd p j) else .int .u32 0)) (fun i _=>64 - (intOf i).toNat)
    case atStart=>exact ⟨16,by omega,by omega,rfl,HB.out,HW.out⟩
    case round =>
     clear HB HW
     obtain ⟨k,hk0,hk,rfl,hbel,hrow⟩:=hrel
     by_cases hlt:k<64
     ·
      -- DEV{
      have cc:∀j,j<k→wr.cell? ⟨w.heap.size,j,none⟩=some (.int .u32 (wrd p j)):=fun j hj=>by rw [hrow.cell (by omega),if_pos hj]
      have c0:=cc (k - 15) (by omega)
      have c1:=cc (k - 2) (by omega)
      have c2:=cc (k - 16) (by omega)
      have c3:=cc (k - 7) (by omega)
      have c4:wr.cell? ⟨w.heap.size,k,none⟩=some (.int .u32 0):=by rw [hrow.cell (by omega),if_neg (by omega)]
      have c5:wr.frozen? ⟨w.heap.size,k,none⟩=false:=hrow.frozen k
      have HX:=Lh (cV p HP.out (k - 15))
      have HY:=Lh (cV p HP.out (k - 2))
      have HE:=Lh (lN p k hk0)
      have HB:=Lh hbel;clear hbel
      have HW:=Lh hrow;clear hrow cc
      have i0:IntKind.i64.wrap ((k:Int) - 15)=(k:Int) - 15:=IntWalk.i64_in _ (by omega)
      have i1:IntKind.i64.wrap ((k:Int) - 2)=(k:Int) - 2:=IntWalk.i64_in _ (by omega)
      have i2:IntKind.i64.wrap ((k:Int) - 16)=(k:Int) - 16:=IntWalk.i64_in _ (by omega)
      have i3:IntKind.i64.wrap ((k:Int) - 7)=(k:Int) - 7:=IntWalk.i64_in _ (by omega)
      have j0:0≤(k:Int) - 15:=by omega
      have j1:0≤(k:Int) - 2:=by omega
      have j2:0≤(k:Int) - 16:=by omega
      have j3:0≤(k:Int) - 7:=by omega
      have j0':15≤(k:Int):=by omega
      have j1':2≤(k:Int):=by omega
      have j2':16≤(k:Int):=by omega
      have j3':7≤(k:Int):=by omega
      have l0:(k:Int) - 15<64:=by omega
      have l1:(k:Int) - 2<64:=by omega
      have l2:(k:Int) - 16<64:=by omega
      have l3:(k:Int) - 7<64:=by omega
      have t0:((k:Int) - 15).toNat=k - 15:=by omega
      have t1:((k:Int) - 2).toNat=k - 2:=by omega
      have t2:((k:Int) - 16).toNat=k - 16:=by omega
      have t3:((k:Int) - 7).toNat=k - 7:=by omega
      have m0:(k:Int)<64:=by omega
      go_wp2_with fail
      go_quiet (fail)
      have HB2:=Lh (Below.drewN HB.out nq)
      have HW2:=Lh (show (wr.drewN nq).rowIs _ _ _ _ from HW.out)
      replace c2:(wr.drewN nq).cell? _=_:=c2
      replace c3:(wr.drewN nq).cell? _=_:=c3
      replace c4:(wr.drewN nq).cell? _=_:=c4
      replace c5:(wr.drewN nq).frozen? _=_:=c5
      generalize wr.drewN nq=w2 at c2 c3 c4 c5 HB2 HW2 ⊢
      clear c0 c1 i0 i1 j0 j1 l0 l1 t0 t1 HB HW
      go_wp2_with fail
      refine (tA _ _ HX.out).mono ?_
      rintro e w' ⟨rfl,rfl⟩
      go_wp2_with fail
      refine (tZ _ _ HX.out).mono ?_
      rintro e w' ⟨rfl,rfl⟩
      go_wp2_with fail
      refine (tX _ _ HY.out).mono ?_
      rintro e w' ⟨rfl,rfl⟩
      go_wp2_with fail
      refine (tJ _ _ HY.out).mono ?_
      rintro e w' ⟨rfl,rfl⟩
      go_wp2_with fail
      go_still_tail 15,(by kernel_rfl)
      clear i2 i3 j2 j3 l2 l3 t2 t3 c2 c3
      go_wp2
      go_roundw
      case rel =>
       refine ⟨k+1,by omega,by omega,by go_num,(HB2.out.setCell lz _).drew,(HW2.out.set k _).drew.congr fun j hj=>?_⟩
       by_cases e:j=k
       · subst e;simp only [if_pos,if_pos (show j<j+1 by omega)];rw [HE.out];exact congrArg (Value.int .u32) (by unfold xh sg0 sg1 gz;omega)
       · simp only [if_neg e];by_cases e':j<k
         · rw [if_pos e',if_pos (by omega)]
         · rw [if_neg e',if_neg (by omega)]
      case measure=>simp [intOf];omega
      -- }DEV
     · have HB:=Lh hbel
       have HW:Hid (wr.rowIs w.heap.size 263 64 (fun j=>.int .u32 (wrd p j))):=hrow.congr fun j hj=>by rw [if_pos (by omega)]
       have hst:∀j,j<8→wr.cell? ⟨b,1+j,none⟩=some (.int .u32 (s.at j)):=fun j hj=>by
        rw [(qj hbel HR.out HR.out.lt).cell (by omega)];unfold xx;rw [if_neg (by omega),if_pos (by omega)];simp
       have s0:=hst 0 (by omega);have s1:=hst 1 (by omega);have s2:=hst 2 (by omega);have s3:=hst 3 (by omega)
       have s4:=hst 4 (by omega);have s5:=hst 5 (by omega);have s6:=hst 6 (by omega);have s7:=hst 7 (by omega)
       simp only [S8.at] at s0 s1 s2 s3 s4 s5 s6 s7
       clear hst hrow hbel
       have hd2:decide ((k:Int)<64)=false:=by simp;omega
       have hwz:w.heap.size<wr.heap.size:=HW.out.lt
       clear hlt hk hk0
       obtain ⟨wb,rfl⟩:∃wb:World,wb=wr:=⟨_,rfl⟩
       obtain ⟨k2,rfl⟩:∃k2:Nat,k2=k:=⟨_,rfl⟩
       go_wp2
       clear s0 s1 s2 s3 s4 s5 s6 s7
       go_loopw [115] (fun i wr=>∃k:Nat,k≤64∧i=.int .i64 k∧Below wb.heap.size wb wr∧wr.rowIs wb.heap.size 245 8 (fun j=>.int .u32 ((vI p s k).at j))) (fun i _=>64 - (intOf i).toNat)
       case atStart=>exact ⟨0,by omega,rfl,(Below.refl _ _).alloc lz _,World.rowIs_alloc wb #[.int .u32 s.a,.int .u32 s.b,.int .u32 s.c,.int .u32 s.d,.int .u32 s.e,.int .u32 s.f,.int .u32 s.g,.int .u32 s.h] 245 _ (fun i hi=>by
        rcases i with _|_|_|_|_|_|_|_|i <;> first|rfl|(simp at hi;omega))⟩
       case round =>
        obtain ⟨k,hk,rfl,hbel,hrow⟩:=hrel
        by_cases hlt:k<64
        ·
         have HO:=Lh (cW p HS.out k)
         have HE:Hid (vI p s (k+1)=rnd (kay k) (wrd p k) (vI p s k)):=rfl
         obtain ⟨S,hS⟩:∃S,S=vI p s k:=⟨_,rfl⟩
         rw [← hS] at hrow HO HE
         clear hS
         have r0:=hrow.cell (i:=0) (by omega);have r1:=hrow.cell (i:=1) (by omega);have r2:=hrow.cell (i:=2) (by omega);have r3:=hrow.cell (i:=3) (by omega)
         have r4:=hrow.cell (i:=4) (by omega);have r5:=hrow.cell (i:=5) (by omega);have r6:=hrow.cell (i:=6) (by omega);have r7:=hrow.cell (i:=7) (by omega)
         simp only [S8.at] at r0 r1 r2 r3 r4 r5 r6 r7
         have f0:=hrow.frozen 0;have f1:=hrow.frozen 1;have f2:=hrow.frozen 2;have f3:=hrow.frozen 3
         have f4:=hrow.frozen 4;have f5:=hrow.frozen 5;have f6:=hrow.frozen 6;have f7:=hrow.frozen 7
         have cw:wr.cell? ⟨w.heap.size,k,none⟩=some (.int .u32 (wrd p k)):=(qj hbel HW.out hwz).cell (by omega)
         have ck:wr.cell? ⟨3,k,none⟩=some (.int .u32 (kay k)):=by
          rw [hbel.cell (show 3<wb.heap.size by omega),HB.out.cell hg];exact HK.out k hlt
         have HAx:=Lh HO.out.1;have HEx:=Lh HO.out.2.2.2.2.1
         have HB3:=Lh hbel;clear hbel
         have HW3:=Lh hrow;clear hrow
         have m0:(k:Int)<64:=by omega
         go_wp2_with fail
         go_quiet (fail)
         go_wp2_with fail
         refine (tT _ _ HEx.out).mono ?_
         rintro e w' ⟨rfl,rfl⟩
         go_wp2_with fail
         refine (tK _ _ HEx.out).mono ?_
         rintro e w' ⟨rfl,rfl⟩
         go_wp2_with fail
         refine (tV _ _ HEx.out).mono ?_
         rintro e w' ⟨rfl,rfl⟩
         go_wp2_with fail
         go_quiet (fail)
         go_wp2_with fail
         refine (tI _ _ HAx.out).mono ?_
         rintro e w' ⟨rfl,rfl⟩
         go_wp2_with fail
         refine (tW _ _ HAx.out).mono ?_
         rintro e w' ⟨rfl,rfl⟩
         go_wp2_with fail
         refine (tY _ _ HAx.out).mono ?_
         rintro e w' ⟨rfl,rfl⟩
         go_wp2
         go_roundw
         case rel =>
          refine ⟨k+1,by omega,by go_num,?_,?_⟩
          · exact ar _ _ _ _ _ _ _ _ (Below.drewN HB3.out _) lz
          · refine (tR _ _ _ _ _ _ _ _ (show (wr.drewN _).rowIs _ _ _ _ from HW3.out)).congr fun j hj=>?_
            rw [HE.out]
            rcases j with _|_|_|_|_|_|_|_|j
            · exact congrArg (Value.int .u32) (tw (kay k) (wrd p k) S)
            · rfl
            · rfl
            · rfl
            · exact congrArg (Value.int .u32) (tg (kay k) (wrd p k) S)
            · rfl
            · rfl
            · rfl
            · omega
         case measure=>simp [intOf];omega
        ·
         have HT:Hid (wr.rowIs wb.heap.size 245 8 (fun j=>.int .u32 ((vI p s 64).at j))):=by rw [show k=64 by omega] at hrow;exact hrow
         have hd3:decide ((k:Int)<64)=false:=by simp;omega
         have HF:Hid (wr.rowIs b T 74 (xx true s p size)):=qj (HB.out.trans (hbel.mono (by omega))) HR.out HR.out.lt
         have HU:Hid (Touch (· = b) w wr):=Touch.of_below (HB.out.trans (hbel.mono (by omega))) lz
         have hbz:b<w.heap.size:=HR.out.lt
         clear hrow hbel hlt hk HW HB
         obtain ⟨wc,rfl⟩:∃wc:World,wc=wr:=⟨_,rfl⟩
         obtain ⟨k3,rfl⟩:∃k3:Nat,k3=k:=⟨_,rfl⟩
         go_wp2
         go_loopw [196] (fun i wr=>∃k:Nat,k≤8∧i=.int .i64 k∧Touch (· = b) w wr∧wr.rowIs wb.heap.size 245 8 (fun j=>.int .u32 ((vI p s 64).at j))∧wr.rowIs b T 74 (fun j=>if 1≤j∧j≤k then .int .u32 (xh (s.at (j - 1)) ((vI p s 64).at (j - 1))) else xx true s p size j)) (fun i _=>8 - (intOf i).toNat)
         case atStart=>exact ⟨0,by omega,rfl,HU.out,HT.out,HF.out.congr fun j hj=>by rw [if_neg (by omega)]⟩
         case round =>
          clear HU HT HF
          obtain ⟨k,hk,rfl,htch,hrow,hfow⟩:=hrel
          by_cases hlt:k<8
          · have c0:wr.cell? ⟨b,1+k,none⟩=some (.int .u32 (s.at k)):=by rw [hfow.cell (by omega),if_neg (by omega)];unfold xx;rw [if_neg (by omega),if_pos (by omega)];simp
            have c1:wr.cell? ⟨wb.heap.size,k,none⟩=some (.int .u32 ((vI p s 64).at k)):=hrow.cell hlt
            have c2:wr.frozen? ⟨b,1+k,none⟩=false:=hfow.frozen _
            have m0:(k:Int)<8:=by omega
            have HU:=Lh htch;clear htch
            have HT:=Lh hrow;clear hrow
            have HF:=Lh hfow;clear hfow
            generalize (vI p s 64)=R at *
            go_wp2_with fail
            go_still_tail 13,(by kernel_rfl)
            go_wp2
            go_roundw
            case rel =>
             refine ⟨k+1,by omega,by go_num,(HU.out.setCell (.inl rfl) _).drew,(HT.out.setOther (by show wb.heap.size≠b;omega) _).drew,(HF.out.set _ _).drew.congr fun j hj=>?_⟩
             by_cases e:j=1+k
             · subst e;rw [if_pos rfl,if_pos (by omega),show 1+k - 1=k by omega];rfl
             · simp only [if_neg e];by_cases e':1≤j∧j≤k
               · rw [if_pos e',if_pos (by omega)]
               · rw [if_neg e',if_neg (by omega)]
            case measure=>simp [intOf];omega
          · have HU:=Lh htch;clear htch
            have HF:Hid (wr.rowIs b T 74 (xx true (wl s p) p size)):=hfow.congr fun j hj=>by
             by_cases e:1≤j∧j≤8
             · rw [if_pos (by omega)];unfold xx;rw [if_neg (by omega),if_pos (by omega)];unfold wl;rw [aZ]
             · rw [if_neg (by omega)];unfold xx
               by_cases e0:j=0
               · rw [if_pos e0,if_pos e0]
               · simp only [if_neg e0,if_neg (show ¬j≤8 by omega)]
            clear hfow hrow
            go_wp2
            go_end0
            exact ⟨rfl,HF.out,HU.out⟩
end Go.Proofs.YthgembbgcbaghaaGreatDoor
