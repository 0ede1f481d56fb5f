import Derived.Test.YthgembbgcbaghaaGreatDoorDg33
set_option maxHeartbeats 1000000
set_option maxRecDepth 100000

namespace Go.Proofs.YthgembbgcbaghaaGreatDoor
open Go.RowKit
theorem j6 (x:Int) (n:Nat) (w:World) (h:w32 x) (c:n<=31) :
 Calls Tryz.prog 258 #[.int .u32 x,.int .i64 n] w fun e w'=>e=.returned (.int .u32 (xB x n))/\w'=w :=
 (tP x n w h c).mono fun _ _ ⟨a,b⟩=>⟨a,b.symm⟩
theorem Zq (x:Int) (n:Nat) (w:World) (h:w32 x) (c:n<=31) :
 Calls Tryz.prog 274 #[.int .u32 x,.int .i64 n] w fun e w'=>e=.returned (.int .u32 (x / 2 ^ n))/\w'=w :=
 (ZW x n w h c).mono fun _ _ ⟨a,b⟩=>⟨a,b.symm⟩
def jF (p:Nat->Int) (k:Nat):Nat->Int
 | 0=>0
 | m+1=>jF p k m * 256+p (4 * k+m)
theorem rg (p:Nat->Int) (k:Nat) (e:∀j,j<4->0<=p (4 * k+j)/\p (4 * k+j)<=255):(0<=jF p k 0/\jF p k 0<=0)/\(0<=jF p k 1/\jF p k 1<=255)/\(0<=jF p k 2/\jF p k 2<=65535)/\(0<=jF p k 3/\jF p k 3<=16777215)/\jF p k 4=be4 p k:=by have a:=e 0 (by omega);have b:=e 1 (by omega);have c:=e 2 (by omega);have d:=e 3 (by omega);simp only [za9] at a;simp only [jF,be4,za9];omega
theorem eC (p:Nat->Int) (k:Nat) (f:∀j,j<4->0<=p (4 * k+j)/\p (4 * k+j)<=255) (m:Nat) (e:m<4):0<=jF p k m/\jF p k m<=16777215:=by
 obtain ⟨a,b,c,d,_⟩:=rg p k f
 match m,e with
 | 0,_=>omega
 | 1,_=>omega
 | 2,_=>omega
 | 3,_=>omega
def vk (p:Nat->Int):Array Value:=((List.range 64).map fun i=>Value.int .u32 (wrd p i)).toArray
theorem iw {p:Nat->Int} {c:Array Value} (b:c.size=64) (a:∀i,i<64->c[i]?=some (.int .u32 (wrd p i))):c=vk p:=by
 apply Array.ext
 . simp [vk,b]
 . intro i h1 h2;have:=a i (by omega);rw [K0 h1] at this;rw [Y9 this];simp [vk]
theorem dy (w:World):(Go.sizeOf 263).run Tryz.prog w=.ok 64 w:=by kernel_rfl
theorem eD (s:ByteArray) (w:World) (hs:s.size=64) :
 Calls Tryz.prog 256 #[.string s] w fun e w'=>e=.returned (.agg (vk (fun j=>qV s.data.toList j)))/\O5 w w':=by
 obtain ⟨p,F⟩:∃p:Nat->Int,p=fun j=>qV s.data.toList j:=⟨_,rfl⟩;have o:=U (show ∀i,0<=p i/\p i<=255 by intro i;rw [F];exact vg _ _);have I:=U (show ∀i (h:i<s.size),((s[i].toNat:Nat):Int)=p i by
  intro i h;rw [F];show _=((s.data.toList.getD i 0).toNat:Int);rw [V2,V3 (by rw [qp];exact h),<- vV s i h];rfl)
 rw [<- F];have HS:=U hs;clear F hs;go_enter Tryz.func256,Tryz.ntmps256;go_wp2;go_loopw [4,5,6,7] (fun i _ _ _ wr=>∃k:Nat,k<=64/\i=.int .i64 k/\O5 w wr/\wr.rowIs w.heap.size 263 64 (fun _=>.int .u32 0)/\wr.rowIs (w.heap.size+1) 263 64 (fun j=>if j<k then .int .u32 (wrd p j) else .int .u32 0)) (fun i _ _ _ _=>64 - (intOf i).toNat)
 case atStart => refine ⟨0,by omega,rfl,(O4).alloc (by simp) _,(wT w (.int .u32 0) 64 263 _ (by simp)).alloc _,?_⟩;have:=wT (w.alloc (.cells (Array.replicate 64 (.int .u32 0)) 263)) (.int .u32 0) 64 263 (fun j=>if j<0 then .int .u32 (wrd p j) else .int .u32 0) (by simp);rwa [show (w.alloc (.cells (Array.replicate 64 (.int .u32 0)) 263)).heap.size=w.heap.size+1 by simp] at this
 case round =>
  obtain ⟨k,hk,rfl,a,d,b⟩:=hrel;have hz:=a.size;have g:=U a;have l:=U d;have f:=U b;have S:w.heap.size+1<wr.heap.size:=b.lt;clear a d b;by_cases hlt:k<64
  . by_cases h16:k<16
    . have N:decide ((k:Int)<64)=true:=by simp;omega
      have P:decide ((k:Int)<16)=true:=by simp;omega
      have q:=O0 (∀j,j<4->0<=p (4 * k+j)/\p (4 * k+j)<=255) (fun j _=>o.o _);obtain ⟨wo,rfl⟩:∃wo:World,wo=wr:=⟨_,rfl⟩;go_wp2;go_loopw [5] (fun i wr=>∃m:Nat,m<=4/\i=.int .i64 m/\O5 w wr/\wr.rowIs w.heap.size 263 64 (fun _=>.int .u32 0)/\wr.rowIs (w.heap.size+1) 263 64 (fun j=>if j<k then .int .u32 (wrd p j) else if j=k then .int .u32 (jF p k m) else .int .u32 0)) (fun i _=>4 - (intOf i).toNat)
      case atStart =>
       refine ⟨0,by omega,rfl,g.o,l.o,f.o.congr fun j _=>?_⟩;by_cases e:j<k
       . rw [J8 e,J8 e]
       . rw [J3 e,J3 e];by_cases e2:j=k
         . rw [J8 e2];rfl
         . rw [J3 e2]
      case round =>
       clear g l f hz S;obtain ⟨m,hm,rfl,a,d,b⟩:=hrel;have g:=U a;have l:=U d;have f:=U b;clear a d b;by_cases hm4:m<4
       . obtain ⟨q1,q2⟩:=eC p k q.o m hm4;have Q:4 * k+m<s.size:=by rw [HS.o];omega
         obtain ⟨q3,q4⟩:=q.o m hm4;have J:=U (I.o (4 * k+m) Q);have D:wr.cell? ⟨w.heap.size+1,k,none⟩=some (.int .u32 (jF p k m)):=by rw [f.o.cell (by omega),J3 (by omega),J8 rfl]
         have E:wr.frozen? ⟨w.heap.size+1,k,none⟩=false:=f.o.frozen k;have a0:s[4 * k+m].toNat<256:=s[4 * k+m].toNat_lt;have K:=O0 (jF p k (m+1)=jF p k m * 256+p (4 * k+m)) rfl;generalize jF p k m=y at *;have T:IntKind.i64.wrap (4 * (k:Int))=4 * (k:Int):=V0 _ (by omega);have V:IntKind.i64.wrap (4 * (k:Int)+(m:Int))=4 * (k:Int)+(m:Int):=V0 _ (by omega);have Y:0<=4 * (k:Int)+(m:Int):=by omega
         have Z:4 * (k:Int)+(m:Int)<(s.size:Int):=by omega
         have t1:(4 * (k:Int)+(m:Int)).toNat=4 * k+m:=by omega
         have m0:(k:Int)<64:=by omega
         go_wp2_with fail
         go_still_tail 14,(by kernel_rfl)
         clear T V;go_wp2;go_roundw
         case rel =>
          refine ⟨m+1,by omega,by go_num,(g.o.setCell (by show w.heap.size<=w.heap.size+1;omega) _).drew,(l.o.setOther (by show w.heap.size≠w.heap.size+1;omega) _).drew,(f.o.set k _).drew.congr fun j hj=>?_⟩;by_cases e:j=k
          . subst e;simp only [J8,J3 (Nat.lt_irrefl j)];rw [K.o];exact Y2 (Value.int .u32) (by rw [<- J.o])
          . simp only [J3 e]
         case measure=>simp [intOf];omega
       . have r:=U (show wr.rowIs (w.heap.size+1) 263 64 (fun j=>if j<k+1 then .int .u32 (wrd p j) else .int .u32 0) from f.o.congr fun j _=>by
          obtain rfl:m=4:=by omega
          by_cases e:j=k
          . subst e;rw [J3 (by omega),J8 rfl,J8 (by omega),(rg p j q.o).2.2.2.2,ri p j h16]
          . by_cases e2:j<k
            . rw [J8 e2,J8 (by omega)]
            . rw [J3 e2,J3 e,J3 (by omega)])
         go_wp2;go_roundw
         case rel=>exact ⟨k+1,by omega,by go_num,g.o,l.o,r.o⟩
         case measure=>simp [intOf];omega
    . have P:decide ((k:Int)<16)=false:=by simp;omega
      have z:∀j,j<k->wr.cell? ⟨w.heap.size+1,j,none⟩=some (.int .u32 (wrd p j)):=fun j hj=>by rw [f.o.cell (by omega),J8 hj]
      have c0:=z (k - 15) (by omega);have c1:=z (k - 2) (by omega);have A:=z (k - 16) (by omega);have C:=z (k - 7) (by omega);have D:wr.cell? ⟨w.heap.size+1,k,none⟩=some (.int .u32 0):=by rw [f.o.cell (by omega),J3 (by omega)]
      have E:wr.frozen? ⟨w.heap.size+1,k,none⟩=false:=f.o.frozen k;have L:=U (pK p (fun i _=>o.o i) (k - 15));have M:=U (pK p (fun i _=>o.o i) (k - 2));have HE:=U (rQ p k (by omega));clear z;have T:IntKind.i64.wrap ((k:Int) - 15)=(k:Int) - 15:=V0 _ (by omega);have V:IntKind.i64.wrap ((k:Int) - 2)=(k:Int) - 2:=V0 _ (by omega);have i2:IntKind.i64.wrap ((k:Int) - 16)=(k:Int) - 16:=V0 _ (by omega);have i3:IntKind.i64.wrap ((k:Int) - 7)=(k:Int) - 7:=V0 _ (by omega);have j0:0<=(k:Int) - 15:=by omega
      have Y:0<=(k:Int) - 2:=by omega
      have j2:0<=(k:Int) - 16:=by omega
      have j3:0<=(k:Int) - 7:=by omega
      have a1:15<=(k:Int):=by omega
      have a2:2<=(k:Int):=by omega
      have a3:16<=(k:Int):=by omega
      have a4:7<=(k:Int):=by omega
      have l0:(k:Int) - 15<64:=by omega
      have Z:(k:Int) - 2<64:=by omega
      have l2:(k:Int) - 16<64:=by omega
      have l3:(k:Int) - 7<64:=by omega
      have t0:((k:Int) - 15).toNat=k - 15:=by omega
      have t1:((k:Int) - 2).toNat=k - 2:=by omega
      have t2:((k:Int) - 16).toNat=k - 16:=by omega
      have t3:((k:Int) - 7).toNat=k - 7:=by omega
      have m0:(k:Int)<64:=by omega
      go_wp2_with fail
      go_quiet (fail)
      have u:=U (Below.drewN g.o nq);have x:=O0 ((wr.drewN nq).rowIs _ _ _ _) f.o;have v:=O0 ((wr.drewN nq).rowIs _ _ _ _) l.o;replace A:(wr.drewN nq).cell? _=_:=A;replace C:(wr.drewN nq).cell? _=_:=C;replace D:(wr.drewN nq).cell? _=_:=D;replace E:(wr.drewN nq).frozen? _=_:=E;generalize wr.drewN nq=w2 at A C D E u x v ⊢;clear c0 c1 T V j0 Y l0 Z t0 t1 g f l;generalize wrd p (k - 15)=xa at *;generalize wrd p (k - 2)=xb at *;go_wp2_with fail;refine wp_region_still_tail 29 (by kernel_rfl) (by kernel_rfl) ?_;simp only [G7,List.take_zero,M4,za1]
      repeat still_step
      still_call (j6 xa 7 _ L.o (by omega))
      repeat still_step
      still_call (j6 xa 18 _ L.o (by omega))
      repeat still_step
      still_call (Zq xa 3 _ L.o (by omega))
      repeat still_step
      still_call (j6 xb 17 _ M.o (by omega))
      repeat still_step
      still_call (j6 xb 19 _ M.o (by omega))
      repeat still_step
      still_call (Zq xb 10 _ M.o (by omega))
      repeat still_step
      refine wpStill_nil ?_;clear i2 i3 j2 j3 l2 l3 t2 t3 A C;go_wp2;go_roundw
      case rel =>
       refine ⟨k+1,by omega,by go_num,(u.o.setCell (by show w.heap.size<=w.heap.size+1;omega) _).drew,(v.o.setOther (by show w.heap.size≠w.heap.size+1;omega) _).drew,(x.o.set k _).drew.congr fun j hj=>?_⟩;by_cases e:j=k
       . subst e;simp only [J8,J8 (show j<j+1 by omega)];rw [HE.o];exact Y2 (Value.int .u32) (by unfold xS sg0 sg1 gI;omega)
       . simp only [J3 e];by_cases e':j<k
         . rw [J8 e',J8 (by omega)]
         . rw [J3 e',J3 (by omega)]
      case measure=>simp [intOf];omega
  . have r:=O0 (wr.rowIs (w.heap.size+1) 263 64 (fun j=>.int .u32 (wrd p j))) (f.o.congr fun j hj=>by rw [J8 (by omega)]);have N:decide ((k:Int)<64)=false:=by simp;omega
    clear f;go_wp2_with (with_reducible refine jX rfl 263 (.tmp 3) rfl (w.heap.size+1) 263 64 _ rfl r.o _ Tryz.underlying263 rfl (by kernel_rfl) ?_);intro cs h1 h2;go_wp2_with (with_reducible refine wpList_store_row rfl 263 (.tmp 2) (.tmp 69) rfl w.heap.size 263 64 _ _ rfl l.o cs rfl h1.o h2.o (fun _ _=>rfl) dy ?_);intro w1 h3 h4;have G:=O0 (O5 w w1) (g.o.trans (h4.o.below (B:=w.heap.size) (by omega) (fun k hk e=>by omega)));obtain ⟨c,W,R,X⟩:=h3.o;have HC:=U W;have H:=O0 (c=vk p) (iw R X);have HN:=U (show (Tryz.prog.info? 263).map (·.size)=some c.size by rw [R];kernel_rfl);clear W R X h1 h2 h3 h4;go_wp2;refine X4 (Y7 Tryz.results256 _ _ w.heap.size 263 _ (0,0) _ rfl HC.o Tryz.underlying263 rfl HN.o) rfl ⟨by rw [H.o],G.o⟩
