/- The contract of legateref02.Sum. -/
import Derived.Test.YtnlgmcapbbgelaaGreatDoorRt31

namespace Go.Proofs.YtnlgmcapbbgelaaGreatDoor
open Go.RowKit
theorem cP (n j:Nat) (hj:j≤(119 - n % 64) % 64):((n+1+j) % 64=56)↔j=(119 - n % 64) % 64:=by omega
theorem gx {P:Program} {ops:Array Oper} {rest:List Oper} {o:Oper} {a:Act} {w:World} {Q:Act→Prop} (hgd:o.guard=none) (ty:TypeId) (x:Operand) (ho:o.op=.load ty x)
 (g:Nat) (hx:a.eval x=.pointer (some ⟨g,0,none⟩)) (t:TypeId) (cs:Array Value) (fr:Nat × Nat) (d:TypeDesc) (hg:w.heap[g]?=some (.cells cs t fr))
 (hu:P.underlying ty=some d) (hd:(match d with | .struct _ | .array _ _=>true|_=>false)=true) (hi:(P.info? ty).map (·.size)=some cs.size)
 (h:wpStill P ops w Q rest (a.put o.dst (.agg cs))):wpStill P ops w Q (o :: rest) a:=by
 refine wpStill_step fun K hK=>?_
 simp only [Region.wanted,hgd,if_true]
 unfold Oper.still execOp
 simp only [ho,hx,Instr.loadAt,Instr.sureAddr,Sem.run_bind,Sem.run_pure,Result.andThen_ok,run_loadVar_row w g t ty cs fr d hg hu hd hi]
 exact (Oper.stillUpon_value o a w K (.agg cs)).mpr (hK _ h)
theorem yQ (t u:ByteArray):(t ++ u).data.toList=t.data.toList ++ u.data.toList:=by rw [ByteArray.data_append,Array.toList_append]
set_option maxRecDepth 100000 in
set_option maxHeartbeats 1000000 in
theorem iO (s:ByteArray) (w:World) (hs:s.size≤1099511627000) :
 Calls Tryz.prog 163 #[.string s] w fun e w'=>e=.returned (.string ⟨(jH s.data.toList).toArray⟩)∧Below w.heap.size w w':=by
 obtain ⟨n,hn⟩:∃n:Nat,n=s.size:=⟨_,rfl⟩
 obtain ⟨z,hz⟩:∃z:Nat,z=(119 - n % 64) % 64:=⟨_,rfl⟩
 have HN:=Lh hn
 have HZ:=Lh hz
 have hn1:n≤1099511627000:=by omega
 have hz1:z≤63:=by omega
 clear hn hz
 go_enter Tryz.func163,Tryz.ntmps163
 have w0:IntKind.u64.wrap (s.size:Int)=(s.size:Int):=IntWalk.u64_in _ (by omega)
 have w1:IntKind.u64.wrap ((s.size:Int) * 8)=(s.size:Int) * 8:=IntWalk.u64_in _ (by omega)
 go_wp2
 go_loop [0] (fun v=>∃(t:ByteArray) (j:Nat),j≤z∧v=.string t∧t.size=n+1+j∧t.data.toList=s.data.toList ++ 128 :: List.replicate j 0) (fun v=>n+1+z - uH v)
 case atStart=>exact ⟨_,0,by omega,rfl,by rw [ByteArray.size_append,HN.out];rfl,by rw [yQ];rfl⟩
 case round =>
  obtain ⟨t,j,hj,rfl,hts,htl⟩:=hrel
  have HTS:=Lh hts
  have HTL:=Lh htl
  have ht2:t.size≤1099511628000:=by omega
  by_cases hjz:j=z
  · have hd:(t.size:Int) % 64=56:=by have:=(cP n j (by rw [← HZ.out];exact hj)).2 (by rw [← HZ.out];exact hjz);omega
    clear hts htl
    have HTL2:=Lh (show t.data.toList=s.data.toList ++ 128 :: List.replicate z 0 by rw [HTL.out,hjz])
    have HTS2:=Lh (show t.size=n+1+z by rw [HTS.out,hjz])
    clear HTL HTS hj hjz
    go_wp2
    go_loopw [0,4,5,6] (fun v i _ _ wr=>∃(r:ByteArray) (k:Nat),k≤8∧v=.string r∧i=.int .i64 (7 - (k:Int))∧Below w.heap.size w wr∧r.size=n+1+z+k∧r.data.toList=t.data.toList ++ (kE (n * 8)).take k) (fun _ i _ _ _=>((intOf i)+1).toNat)
    case atStart=>exact ⟨t,0,by omega,rfl,rfl,Below.refl _ _,HTS2.out,by simp⟩
    case round =>
     obtain ⟨r,k,hk,rfl,rfl,hbel,hrs,hrl⟩:=hrel
     have HRS:=Lh hrs
     have HRL:=Lh hrl
     have HB:=Lh hbel
     have hr2:r.size≤1099511628000:=by omega
     clear hrs hrl hbel
     by_cases hk8:k<8
     · have hd2:(0:Int)≤7 - (k:Int):=by omega
       have hd3:decide ((0:Int)≤7 - (k:Int))=true:=by simp;omega
       obtain ⟨wo,rfl⟩:∃wo:World,wo=wr:=⟨_,rfl⟩
       go_wp2
       go_loop [5,6] (fun m i=>∃q:Nat,q≤7 - k∧i=.int .i64 q∧m=.int .u64 ((s.size:Int) * 8 / 256 ^ q)) (fun _ i=>7 - k - (intOf i).toNat)
       case atStart=>exact ⟨0,by omega,rfl,by simp⟩
       case round =>
        obtain ⟨q,hq,rfl,rfl⟩:=hrel
        have c1:0≤(s.size:Int) * 8 / 256 ^ q:=Int.ediv_nonneg (by omega) (by have:=Int.pow_pos (n:=256) (m:=q) (by omega);omega)
        have c2:(s.size:Int) * 8 / 256 ^ q≤8796093016000:=by have:=Int.ediv_le_self (a:=(s.size:Int) * 8) (256 ^ q) (by omega);omega
        by_cases hq7:q<7 - k
        · have HSQ:=Lh (show (s.size:Int) * 8 / 256 ^ (q+1)=(s.size:Int) * 8 / 256 ^ q / 256 by rw [Int.pow_succ,Int.ediv_ediv_of_nonneg (by have:=Int.pow_pos (n:=256) (m:=q) (by omega);omega)])
          generalize (s.size:Int) * 8 / 256 ^ q=y at *
          have hd4:(q:Int)<7 - (k:Int):=by omega
          go_wp2
          go_round
          case rel=>exact ⟨q+1,by omega,by go_num,by rw [HSQ.out]⟩
          case measure=>simp [intOf];omega
        · have HQ:=Lh (show (s.size:Int) * 8 / 256 ^ q % 256=be8 (n * 8) k by
           rw [show q=7 - k by omega,HN.out];unfold be8
           rw [show (256:Int)=2 ^ 8 from rfl,← Int.pow_mul,show 8 * (7 - k)=56 - 8 * k by omega];push_cast;rfl)
          generalize (s.size:Int) * 8 / 256 ^ q=y at *
          have hd4:¬(q:Int)<7 - (k:Int):=by omega
          have y1:0≤y % 256:=by omega
          have y2:y % 256<256:=by omega
          have HCV:=Lh (show (convert 99 9 (.slice (some ⟨wo.heap.size,0,none⟩) 1 1)).run Tryz.prog (wo.alloc (.cells #[.int .u8 (y % 256)] 5))=.ok (.string ⟨[u8 (y % 256)].toArray⟩) (wo.alloc (.cells #[.int .u8 (y % 256)] 5)) from by
           refine run_convert_bytes_back _ _ _ 5 ⟨wo.heap.size,0,none⟩ 1 [u8 (y % 256)] Tryz.underlying99 Tryz.underlying5 Tryz.underlying9 fun j hj=>?_
           have hj0:j=0:=by simp at hj;omega
           subst hj0
           have:=(jS wo #[.int .u8 (y % 256)] 5 1 rfl).cell (i:=0) (by omega)
           show (wo.alloc _).cell? ⟨wo.heap.size,0,none⟩=some (.int .u8 ((u8 (y % 256)).toNat:Int))
           rw [this,kG y1 y2];rfl)
          go_wp2
          rw [HCV.out]
          go_wp2
          go_roundw
          case rel =>
           refine ⟨_,k+1,by omega,rfl,by go_num,HB.out.alloc (by have:=HB.out.size;omega) _,by rw [ByteArray.size_append,HRS.out];rfl,?_⟩
           have e:(kE (n * 8)).take (k+1)=(kE (n * 8)).take k ++ [u8 (be8 (n * 8) k)]:=by
            rw [List.take_succ_eq_append_getElem (by rw [mc];omega)];simp [kE]
           rw [yQ,HRL.out,List.append_assoc,e,← HQ.out]
          case measure=>simp [intOf];omega
     · have hd2:¬(0:Int)≤7 - (k:Int):=by omega
       have hd3:decide ((0:Int)≤7 - (k:Int))=false:=by simp;omega
       have HRP:=Lh (show r.data.toList=vl s.data.toList by
        rw [HRL.out,HTL2.out,List.take_of_length_le (by rw [mc];omega)]
        unfold vl;rw [qg,← HN.out,HZ.out])
       have HR64:=Lh (show r.size % 64=0 by rw [HRS.out];have:=HZ.out;omega)
       clear HRL HTL2 HTS2
       obtain ⟨wo,rfl⟩:∃wo:World,wo=wr:=⟨_,rfl⟩
       go_wp2
       go_loopw [8] (fun i wr=>∃q:Nat,64 * q≤r.size∧i=.int .i64 ((64 * q:Nat):Int)∧Below w.heap.size w wr∧(wr.rowIs wo.heap.size 211 8 fun j=>.int .u32 ((xG r.data.toList q).at j))) (fun i _=>r.size - (intOf i).toNat)
       case atStart=>exact ⟨0,by omega,rfl,HB.out.alloc (by have:=HB.out.size;omega) _,jq rfl⟩
       case round =>
        obtain ⟨q,hq,rfl,hbel,hrow⟩:=hrel
        by_cases hq6:64 * q<r.size
        · have hd4:((64 * q:Nat):Int)<(r.size:Int):=by omega
          have HB1:=Lh hbel
          have HRW:=Lh hrow
          obtain ⟨c,hc,hn8,hf⟩:=hrow
          obtain rfl:=gz hn8 hf
          have HC:=Lh hc
          have HN8:=Lh hn8
          clear hbel hc hn8 hf
          have hd5:64 * (q:Int)+64≤(r.size:Int):=by have:=HR64.out;omega
          have hd6:64 * (q:Int)<(r.size:Int):=by omega
          have i0:IntKind.i64.wrap (64 * (q:Int)+64)=64 * (q:Int)+64:=IntWalk.i64_in _ (by omega)
          have i1:(64 * (q:Int)+64).toNat=64 * q+64:=by omega
          have i2:(64 * (q:Int)).toNat=64 * q:=by omega
          have i3:0≤64 * (q:Int):=by omega
          have i4:0≤64 * (q:Int)+64:=by omega
          have i5:64 * (q:Int)≤64 * (q:Int)+64:=by omega
          go_wp2_with fail
          refine wp_region_still_tail 6 (by kernel_rfl) (by kernel_rfl) ?_
          simp only [List.take_succ_cons,List.take_zero,List.drop_succ_cons,List.drop_zero]
          refine gx rfl 211 (.tmp 7) rfl wo.heap.size rfl 211 _ (0,0) _ HC.out Tryz.underlying211 rfl (by rw [HN8.out];kernel_rfl) ?_
          repeat still_step
          refine wpStill_nil ?_
          go_wp2_with fail
          refine (tC (xG r.data.toList q) (yy _ _) (r.extract (64 * q) (64 * q+64)) _ (by rw [ByteArray.size_extract];omega)).mono ?_
          rintro e w2 ⟨rfl,hb2⟩
          have HRW2:=Lh (qx hb2 HRW.out.drew HRW.out.drew.lt)
          have HB2:=Lh (HB1.out.drew.trans (hb2.mono HB1.out.drew.size))
          clear hb2 HC HN8 HRW HB1
          go_wp2_with (with_reducible refine wpList_store_row rfl 211 (.tmp 7) (.tmp 55) rfl wo.heap.size 211 8 _ (fun j=>.int .u32 ((xG r.data.toList (q+1)).at j)) rfl HRW2.out _ rfl ?c1 ?c2 (fun _ _=>rfl) af ?_)
          case c1=>simp [xW]
          case c2 =>
           rw [vd (q:=fun j=>xu r.data.toList (64 * q+j)) (fun j hj=>by unfold xu;rw [List.getD_eq_getElem?_getD,List.getD_eq_getElem?_getD,List.getElem?_take_of_lt hj,List.getElem?_drop])]
           exact vf _
          intro w3 h3 h4
          have HB3:=Lh (show Below w.heap.size w w3 from HB2.out.trans (h4.out.below (B:=w.heap.size) HB2.out.size (fun k hk e=>by have:=HB.out.size;omega)))
          have HR3:=Lh h3.out
          clear h3 h4 HB2 HRW2
          go_wp2
          go_roundw
          case rel=>exact ⟨q+1,by omega,by go_num,HB3.out,HR3.out⟩
          case measure=>simp [intOf];omega
        · have hd4:¬((64 * q:Nat):Int)<(r.size:Int):=by omega
          have hd5:decide (64 * (q:Int)<(r.size:Int))=false:=by simp;omega
          have HE:=Lh (show jH s.data.toList=gU (xG r.data.toList q) 8 by
           unfold jH;rw [← HRP.out,qg,show r.size / 64=q by have:=HR64.out;omega])
          have HS:=Lh (yy r.data.toList q)
          obtain ⟨S,hS⟩:∃S,S=xG r.data.toList q:=⟨_,rfl⟩
          rw [← hS] at hrow HE HS
          clear hS
          have HS8:=Lh (show ∀k,k<8→w32 (S.at k) by
           obtain ⟨a1,a2,a3,a4,a5,a6,a7,a8⟩:=HS.out
           intro k hk
           rcases k with _|_|_|_|_|_|_|_|k <;> first|assumption|omega)
          have hzz:wo.heap.size<wr.heap.size:=hrow.lt
          have hwz:=HB.out.size
          have HRW:=Lh hrow
          have HB1:=Lh hbel
          clear hrow hbel
          obtain ⟨w5,rfl⟩:∃w5:World,w5=wr:=⟨_,rfl⟩
          obtain ⟨i0,hi,hz0,hz1,hz2⟩:=info_parts pD
          go_wp2
          go_loopw [9,10] (fun v i wr=>∃k:Nat,k≤8∧i=.int .i64 k∧wr.ownsRow w5.heap.size 5 1 v (4 * k) (Lib.byteCells (gU S k))∧Below w5.heap.size w5 wr) (fun _ i _=>8 - (intOf i).toNat)
          case atStart=>exact ⟨0,by omega,rfl,⟨rfl,.inl ⟨rfl,rfl⟩⟩,Below.refl _ _⟩
          case round =>
           obtain ⟨k,hk,rfl,hown,hbel⟩:=hrel
           by_cases hlt:k<8
           · have c0:wr.cell? ⟨wo.heap.size,k,none⟩=some (.int .u32 (S.at k)):=(qx hbel HRW.out hzz).cell hlt
             obtain ⟨hx0,hx1⟩:=HS8.out k hlt
             obtain ⟨X,hX⟩:∃X,X=S.at k:=⟨_,rfl⟩
             rw [← hX] at c0 hx0 hx1
             have HX:=Lh hX;clear hX
             have m0:(k:Int)<8:=by omega
             have hnb:u9.ownBlock≠some wo.heap.size:=fun e=>by have:=(hown.lt _ e).1;omega
             have hz:wo.heap.size<wr.heap.size:=by have:=hbel.size;omega
             have hz5:w5.heap.size≤wr.heap.size:=hbel.size
             have HO:=Lh hown;clear hown
             have HB4:=Lh hbel;clear hbel
             have v1:IntKind.u8.wrap (X / 16777216)=X / 16777216:=IntWalk.u8_in _ (by omega)
             have v2:IntKind.u8.wrap (X / 65536 % 256)=X / 65536 % 256:=IntWalk.u8_in _ (by omega)
             have v3:IntKind.u8.wrap (X / 256 % 256)=X / 256 % 256:=IntWalk.u8_in _ (by omega)
             have v4:IntKind.u8.wrap (X % 256)=X % 256:=IntWalk.u8_in _ (by omega)
             have n0:(0:Int)≤(k:Int):=by omega
             have t1:X.tdiv 16777216=X / 16777216:=Int.tdiv_eq_ediv_of_nonneg hx0
             have t2:X.tdiv 65536=X / 65536:=Int.tdiv_eq_ediv_of_nonneg hx0
             have t3:X.tdiv 256=X / 256:=Int.tdiv_eq_ediv_of_nonneg hx0
             have t4:X.tmod 256=X % 256:=Int.tmod_eq_emod_of_nonneg hx0
             have t5:IntKind.u32.wrap (X / 16777216)=X / 16777216:=IntWalk.u32_in _ (by omega)
             have t6:IntKind.u32.wrap (X / 65536)=X / 65536:=IntWalk.u32_in _ (by omega)
             have t7:IntKind.u32.wrap (X / 256)=X / 256:=IntWalk.u32_in _ (by omega)
             have t8:(X / 65536).tmod 256=X / 65536 % 256:=Int.tmod_eq_emod_of_nonneg (by omega)
             have t9:(X / 256).tmod 256=X / 256 % 256:=Int.tmod_eq_emod_of_nonneg (by omega)
             have HW1:=Lh (show ∀o,w5.heap.size≤((wr.alloc o).drew).heap.size from fun o=>by simp <;> omega)
             have HW2:=Lh (show ∀o,((wr.alloc o).drew).heap.size=wr.heap.size+1 from fun o=>by simp)
             have HW3:=Lh (show 4 * k+4≤maxLen by unfold maxLen;omega)
             have HW4:=Lh (show (4 * k+4) * 1≤140737488355328 by omega)
             have HW5:=Lh (show ∀u ∈ [Value.int .u8 (X / 16777216),.int .u8 (X / 65536 % 256),.int .u8 (X / 256 % 256),.int .u8 (X % 256)],u.oneCell'=true by simp [Value.oneCell'])
             go_wp2_with fail
             go_region_held3 (fun w'=>w'.cell? ⟨wo.heap.size,k,none⟩=some (.int .u32 X)) (first|go_keep|(rw [hgrow.cell_far _ (by simp <;> omega) (Ne.symm hnb)];assumption)) ((refine step_append_lies _ (by rfl) _ _ _ (by rfl) w5.heap.size 5 i0 _ 1 1 Tryz.underlying99 hi hz0 hz1 hz2 rfl (by omega) _ (4 * k) _ (by rfl) ((HO.out.alloc _).drew) ⟨wr.heap.size,0,none⟩ 4 4 [.int .u8 (X / 16777216),.int .u8 (X / 65536 % 256),.int .u8 (X / 256 % 256),.int .u8 (X % 256)] (by rfl) (by rfl) (World.news_of_block (cs:=#[.int .u8 (X / 16777216),.int .u8 (X / 65536 % 256),.int .u8 (X / 256 % 256),.int .u8 (X % 256)]) (t:=5) (fr:=(0,0)) (heap_alloc_new wr _)) HW5.out (Nat.succ_pos 3) HW3.out HW4.out (HW1.out _) (wr.heap.size+1) (HW2.out _) ?_;intro gg cap w6 hown1 hgrow hat hlt6))
             all_goals
              have HO1:=Lh hown1
              have HG:=Lh hgrow
              clear hown1 hgrow hat
              go_wp2
              go_roundw
              case rel =>
               refine ⟨k+1,by omega,by go_num,?_,?_⟩
               · rw [show 4 * (k+1)=4 * k+4 by omega,pC S k X HX.out hx0 hx1];exact HO1.out
               · exact ((HB4.out.alloc (by omega) _).drew).grown HG.out (by simp;omega) (fun g hg=>(HO.out.lt g hg).1)
              case measure=>simp [intOf];omega
           · obtain rfl:k=8:=by omega
             have hcv:=zW (P:=Tryz.prog) 99 9 5 Tryz.underlying99 Tryz.underlying5 Tryz.underlying9 hown
             have HF:Hid (Below w.heap.size w wr):=HB1.out.trans (hbel.mono (by omega))
             clear hown hbel hlt hk
             go_wp2
             go_ret
             exact ⟨by rw [HE.out];rfl,HF.out⟩
  · have hd:¬(t.size:Int) % 64=56:=by
     intro h
     have:=(cP n j (by rw [← HZ.out];exact hj)).1 (by omega)
     rw [← HZ.out] at this
     exact hjz this
    clear hts htl
    go_wp2
    refine ⟨⟨_,j+1,by omega,rfl,by rw [ByteArray.size_append,HTS.out];rfl,by rw [yQ,HTL.out,List.append_assoc,List.cons_append,List.replicate_succ']⟩,?_⟩
    show n+1+z - (t ++ _).size<n+1+z - t.size
    rw [ByteArray.size_append,HTS.out]
    show n+1+z - (n+1+j+1)<_
    omega
end Go.Proofs.YtnlgmcapbbgelaaGreatDoor
