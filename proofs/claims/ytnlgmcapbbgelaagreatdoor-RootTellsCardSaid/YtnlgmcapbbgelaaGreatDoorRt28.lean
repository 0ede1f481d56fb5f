/- The contract of legateref02.words: the 64 words of a block. -/
import Derived.Test.YtnlgmcapbbgelaaGreatDoorRt27

namespace Go.Proofs.YtnlgmcapbbgelaaGreatDoor
open Go.RowKit
theorem jB (x:Int) (n:Nat) (w:World) (h:w32 x) (hn:n≤31) :
 Calls Tryz.prog 225 #[.int .u32 x,.int .i64 n] w fun e w'=>e=.returned (.int .u32 (xg x n))∧w'=w :=
 (nw x n w h hn).mono fun _ _ ⟨a,b⟩=>⟨a,b.symm⟩
theorem ig (x:Int) (n:Nat) (w:World) (h:w32 x) (hn:n≤31) :
 Calls Tryz.prog 235 #[.int .u32 x,.int .i64 n] w fun e w'=>e=.returned (.int .u32 (x / 2 ^ n))∧w'=w :=
 (iA x n w h hn).mono fun _ _ ⟨a,b⟩=>⟨a,b.symm⟩
def ji (p:Nat→Int) (k:Nat):Nat→Int
 | 0=>0
 | m+1=>ji p k m * 256+p (4 * k+m)
theorem cB (p:Nat→Int) (k:Nat) (hp:∀j,j<4→0≤p (4 * k+j)∧p (4 * k+j)≤255):(0≤ji p k 0∧ji p k 0≤0)∧(0≤ji p k 1∧ji p k 1≤255)∧(0≤ji p k 2∧ji p k 2≤65535)∧(0≤ji p k 3∧ji p k 3≤16777215)∧ji p k 4=be4 p k:=by
 have h0:=hp 0 (by omega);have h1:=hp 1 (by omega);have h2:=hp 2 (by omega);have h3:=hp 3 (by omega)
 simp only [Nat.add_zero] at h0
 simp only [ji,be4,Nat.add_zero]
 omega
theorem ab (p:Nat→Int) (k:Nat) (hp:∀j,j<4→0≤p (4 * k+j)∧p (4 * k+j)≤255) (m:Nat) (hm:m<4):0≤ji p k m∧ji p k m≤16777215:=by
 obtain ⟨h0,h1,h2,h3,_⟩:=cB p k hp
 match m,hm with
 | 0,_=>omega
 | 1,_=>omega
 | 2,_=>omega
 | 3,_=>omega
def kX (p:Nat→Int):Array Value:=((List.range 64).map fun i=>Value.int .u32 (wrd p i)).toArray
theorem np {p:Nat→Int} {c:Array Value} (hn:c.size=64) (hf:∀i,i<64→c[i]?=some (.int .u32 (wrd p i))):c=kX p:=by
 apply Array.ext
 · simp [kX,hn]
 · intro i h1 h2
   have:=hf i (by omega)
   rw [Array.getElem?_eq_getElem h1] at this
   rw [Option.some.inj this]
   simp [kX]
theorem uL (w:World):(Go.sizeOf 238).run Tryz.prog w=.ok 64 w:=by kernel_rfl
set_option maxRecDepth 100000 in
set_option maxHeartbeats 1000000 in
theorem ap (s:ByteArray) (w:World) (hs:s.size=64) :
 Calls Tryz.prog 223 #[.string s] w fun e w'=>e=.returned (.agg (kX (fun j=>xu s.data.toList j)))∧Below w.heap.size w w':=by
 obtain ⟨p,hp⟩:∃p:Nat→Int,p=fun j=>xu s.data.toList j:=⟨_,rfl⟩
 have HPB:=Lh (show ∀i,0≤p i∧p i≤255 by intro i;rw [hp];exact bt _ _)
 have HPS:=Lh (show ∀i (h:i<s.size),((s[i].toNat:Nat):Int)=p i by
  intro i h;rw [hp];show _=((s.data.toList.getD i 0).toNat:Int)
  rw [List.getD_eq_getElem?_getD,List.getElem?_eq_getElem (by rw [qg];exact h),← kT s i h];rfl)
 rw [← hp]
 have HS:=Lh hs
 clear hp hs
 go_enter Tryz.func223,Tryz.ntmps223
 go_wp2
 go_loopw [4,5,6,7] (fun i _ _ _ wr=>∃k:Nat,k≤64∧i=.int .i64 k∧Below w.heap.size w wr∧wr.rowIs w.heap.size 238 64 (fun _=>.int .u32 0)∧wr.rowIs (w.heap.size+1) 238 64 (fun j=>if j<k then .int .u32 (wrd p j) else .int .u32 0)) (fun i _ _ _ _=>64 - (intOf i).toNat)
 case atStart =>
  refine ⟨0,by omega,rfl,((Below.refl _ _).alloc lz _).alloc (by simp) _,(vM w (.int .u32 0) 64 238 _ (by simp)).alloc _,?_⟩
  have:=vM (w.alloc (.cells (Array.replicate 64 (.int .u32 0)) 238)) (.int .u32 0) 64 238 (fun j=>if j<0 then .int .u32 (wrd p j) else .int .u32 0) (by simp)
  rwa [show (w.alloc (.cells (Array.replicate 64 (.int .u32 0)) 238)).heap.size=w.heap.size+1 by simp] at this
 case round =>
  obtain ⟨k,hk,rfl,hbel,hres,hrow⟩:=hrel
  have hz:=hbel.size
  have HB:=Lh hbel
  have HR:=Lh hres
  have HW:=Lh hrow
  have hzr:w.heap.size+1<wr.heap.size:=hrow.lt
  clear hbel hres hrow
  by_cases hlt:k<64
  · by_cases h16:k<16
    · have hd0:decide ((k:Int)<64)=true:=by simp;omega
      have hd1:decide ((k:Int)<16)=true:=by simp;omega
      have HPK:=Lh (show ∀j,j<4→0≤p (4 * k+j)∧p (4 * k+j)≤255 from fun j _=>HPB.out _)
      obtain ⟨wo,rfl⟩:∃wo:World,wo=wr:=⟨_,rfl⟩
      go_wp2
      go_loopw [5] (fun i wr=>∃m:Nat,m≤4∧i=.int .i64 m∧Below w.heap.size w wr∧wr.rowIs w.heap.size 238 64 (fun _=>.int .u32 0)∧wr.rowIs (w.heap.size+1) 238 64 (fun j=>if j<k then .int .u32 (wrd p j) else if j=k then .int .u32 (ji p k m) else .int .u32 0)) (fun i _=>4 - (intOf i).toNat)
      case atStart =>
       refine ⟨0,by omega,rfl,HB.out,HR.out,HW.out.congr fun j _=>?_⟩
       by_cases e:j<k
       · rw [if_pos e,if_pos e]
       · rw [if_neg e,if_neg e];by_cases e2:j=k
         · rw [if_pos e2];rfl
         · rw [if_neg e2]
      case round =>
       clear HB HR HW hz hzr
       obtain ⟨m,hm,rfl,hbel,hres,hrow⟩:=hrel
       have HB:=Lh hbel
       have HR:=Lh hres
       have HW:=Lh hrow
       clear hbel hres hrow
       by_cases hm4:m<4
       · obtain ⟨q1,q2⟩:=ab p k HPK.out m hm4
         have hix:4 * k+m<s.size:=by rw [HS.out];omega
         obtain ⟨q3,q4⟩:=HPK.out m hm4
         have HPV:=Lh (HPS.out (4 * k+m) hix)
         have c4:wr.cell? ⟨w.heap.size+1,k,none⟩=some (.int .u32 (ji p k m)):=by rw [HW.out.cell (by omega),if_neg (by omega),if_pos rfl]
         have c5:wr.frozen? ⟨w.heap.size+1,k,none⟩=false:=HW.out.frozen k
         have hb8:s[4 * k+m].toNat<256:=s[4 * k+m].toNat_lt
         have HSU:=Lh (show ji p k (m+1)=ji p k m * 256+p (4 * k+m) from rfl)
         generalize ji p k m=y at *
         have i0:IntKind.i64.wrap (4 * (k:Int))=4 * (k:Int):=IntWalk.i64_in _ (by omega)
         have i1:IntKind.i64.wrap (4 * (k:Int)+(m:Int))=4 * (k:Int)+(m:Int):=IntWalk.i64_in _ (by omega)
         have j1:0≤4 * (k:Int)+(m:Int):=by omega
         have l1:4 * (k:Int)+(m:Int)<(s.size:Int):=by omega
         have t1:(4 * (k:Int)+(m:Int)).toNat=4 * k+m:=by omega
         have m0:(k:Int)<64:=by omega
         go_wp2_with fail
         go_still_tail 14,(by kernel_rfl)
         clear i0 i1
         go_wp2
         go_roundw
         case rel =>
          refine ⟨m+1,by omega,by go_num,(HB.out.setCell (by show w.heap.size≤w.heap.size+1;omega) _).drew,(HR.out.setOther (by show w.heap.size≠w.heap.size+1;omega) _).drew,(HW.out.set k _).drew.congr fun j hj=>?_⟩
          by_cases e:j=k
          · subst e;simp only [if_pos,if_neg (Nat.lt_irrefl j)];rw [HSU.out];exact congrArg (Value.int .u32) (by rw [← HPV.out])
          · simp only [if_neg e]
         case measure=>simp [intOf];omega
       · have HW4:=Lh (show wr.rowIs (w.heap.size+1) 238 64 (fun j=>if j<k+1 then .int .u32 (wrd p j) else .int .u32 0) from HW.out.congr fun j _=>by
          obtain rfl:m=4:=by omega
          by_cases e:j=k
          · subst e;rw [if_neg (by omega),if_pos rfl,if_pos (by omega),(cB p j HPK.out).2.2.2.2,c8 p j h16]
          · by_cases e2:j<k
            · rw [if_pos e2,if_pos (by omega)]
            · rw [if_neg e2,if_neg e,if_neg (by omega)])
         go_wp2
         go_roundw
         case rel=>exact ⟨k+1,by omega,by go_num,HB.out,HR.out,HW4.out⟩
         case measure=>simp [intOf];omega
    · have hd1:decide ((k:Int)<16)=false:=by simp;omega
      have cc:∀j,j<k→wr.cell? ⟨w.heap.size+1,j,none⟩=some (.int .u32 (wrd p j)):=fun j hj=>by rw [HW.out.cell (by omega),if_pos hj]
      have c0:=cc (k - 15) (by omega)
      have c1:=cc (k - 2) (by omega)
      have c2:=cc (k - 16) (by omega)
      have c3:=cc (k - 7) (by omega)
      have c4:wr.cell? ⟨w.heap.size+1,k,none⟩=some (.int .u32 0):=by rw [HW.out.cell (by omega),if_neg (by omega)]
      have c5:wr.frozen? ⟨w.heap.size+1,k,none⟩=false:=HW.out.frozen k
      have HX:=Lh (gI p (fun i _=>HPB.out i) (k - 15))
      have HY:=Lh (gI p (fun i _=>HPB.out i) (k - 2))
      have HE:=Lh (dq p k (by omega))
      clear cc
      have i0:IntKind.i64.wrap ((k:Int) - 15)=(k:Int) - 15:=IntWalk.i64_in _ (by omega)
      have i1:IntKind.i64.wrap ((k:Int) - 2)=(k:Int) - 2:=IntWalk.i64_in _ (by omega)
      have i2:IntKind.i64.wrap ((k:Int) - 16)=(k:Int) - 16:=IntWalk.i64_in _ (by omega)
      have i3:IntKind.i64.wrap ((k:Int) - 7)=(k:Int) - 7:=IntWalk.i64_in _ (by omega)
      have j0:0≤(k:Int) - 15:=by omega
      have j1:0≤(k:Int) - 2:=by omega
      have j2:0≤(k:Int) - 16:=by omega
      have j3:0≤(k:Int) - 7:=by omega
      have j0':15≤(k:Int):=by omega
      have j1':2≤(k:Int):=by omega
      have j2':16≤(k:Int):=by omega
      have j3':7≤(k:Int):=by omega
      have l0:(k:Int) - 15<64:=by omega
      have l1:(k:Int) - 2<64:=by omega
      have l2:(k:Int) - 16<64:=by omega
      have l3:(k:Int) - 7<64:=by omega
      have t0:((k:Int) - 15).toNat=k - 15:=by omega
      have t1:((k:Int) - 2).toNat=k - 2:=by omega
      have t2:((k:Int) - 16).toNat=k - 16:=by omega
      have t3:((k:Int) - 7).toNat=k - 7:=by omega
      have m0:(k:Int)<64:=by omega
      go_wp2_with fail
      go_quiet (fail)
      have HB2:=Lh (Below.drewN HB.out nq)
      have HW2:=Lh (show (wr.drewN nq).rowIs _ _ _ _ from HW.out)
      have HR2:=Lh (show (wr.drewN nq).rowIs _ _ _ _ from HR.out)
      replace c2:(wr.drewN nq).cell? _=_:=c2
      replace c3:(wr.drewN nq).cell? _=_:=c3
      replace c4:(wr.drewN nq).cell? _=_:=c4
      replace c5:(wr.drewN nq).frozen? _=_:=c5
      generalize wr.drewN nq=w2 at c2 c3 c4 c5 HB2 HW2 HR2 ⊢
      clear c0 c1 i0 i1 j0 j1 l0 l1 t0 t1 HB HW HR
      generalize wrd p (k - 15)=xa at *
      generalize wrd p (k - 2)=xb at *
      go_wp2_with fail
      refine wp_region_still_tail 29 (by kernel_rfl) (by kernel_rfl) ?_
      simp only [List.take_succ_cons,List.take_zero,List.drop_succ_cons,List.drop_zero]
      repeat still_step
      still_call (jB xa 7 _ HX.out (by omega))
      repeat still_step
      still_call (jB xa 18 _ HX.out (by omega))
      repeat still_step
      still_call (ig xa 3 _ HX.out (by omega))
      repeat still_step
      still_call (jB xb 17 _ HY.out (by omega))
      repeat still_step
      still_call (jB xb 19 _ HY.out (by omega))
      repeat still_step
      still_call (ig xb 10 _ HY.out (by omega))
      repeat still_step
      refine wpStill_nil ?_
      clear i2 i3 j2 j3 l2 l3 t2 t3 c2 c3
      go_wp2
      go_roundw
      case rel =>
       refine ⟨k+1,by omega,by go_num,(HB2.out.setCell (by show w.heap.size≤w.heap.size+1;omega) _).drew,(HR2.out.setOther (by show w.heap.size≠w.heap.size+1;omega) _).drew,(HW2.out.set k _).drew.congr fun j hj=>?_⟩
       by_cases e:j=k
       · subst e;simp only [if_pos,if_pos (show j<j+1 by omega)];rw [HE.out];exact congrArg (Value.int .u32) (by unfold xi sg0 sg1 yY;omega)
       · simp only [if_neg e];by_cases e':j<k
         · rw [if_pos e',if_pos (by omega)]
         · rw [if_neg e',if_neg (by omega)]
      case measure=>simp [intOf];omega
  · have HW4:=Lh (show wr.rowIs (w.heap.size+1) 238 64 (fun j=>.int .u32 (wrd p j)) from HW.out.congr fun j hj=>by rw [if_pos (by omega)])
    have hd0:decide ((k:Int)<64)=false:=by simp;omega
    clear HW
    go_wp2_with (with_reducible refine jk rfl 238 (.tmp 3) rfl (w.heap.size+1) 238 64 _ rfl HW4.out _ Tryz.underlying238 rfl (by kernel_rfl) ?_)
    intro cs h1 h2
    go_wp2_with (with_reducible refine wpList_store_row rfl 238 (.tmp 2) (.tmp 69) rfl w.heap.size 238 64 _ _ rfl HR.out cs rfl h1.out h2.out (fun _ _=>rfl) uL ?_)
    intro w1 h3 h4
    have HB1:=Lh (show Below w.heap.size w w1 from HB.out.trans (h4.out.below (B:=w.heap.size) (by omega) (fun k hk e=>by omega)))
    obtain ⟨c,hc,hn,hf⟩:=h3.out
    have HC:=Lh hc
    have HCW:=Lh (show c=kX p from np hn hf)
    have HN:=Lh (show (Tryz.prog.info? 238).map (·.size)=some c.size by rw [hn];kernel_rfl)
    clear hc hn hf h1 h2 h3 h4
    go_wp2
    refine bodyPost_ret (results_cell_row Tryz.results223 _ _ w.heap.size 238 _ (0,0) _ rfl HC.out Tryz.underlying238 rfl HN.out) rfl ⟨by rw [HCW.out],HB1.out⟩
end Go.Proofs.YtnlgmcapbbgelaaGreatDoor
