/- The contracts of key.Find and legateref14.Find. -/
import Derived.Test.YtnlgmcapbbgelaaGreatDoorRt32

namespace Go.Proofs.YtnlgmcapbbgelaaGreatDoor
open Go.RowKit
theorem ah (i:Nat) (h:i<16):(((⟨#[48,49,50,51,52,53,54,55,56,57,97,98,99,100,101,102]⟩:ByteArray)[i]'h).toNat:Int)=(qL i).toNat:=by
 have:∀m:Fin 16,(((⟨#[48,49,50,51,52,53,54,55,56,57,97,98,99,100,101,102]⟩:ByteArray)[m.val]'m.isLt).toNat:Int)=(qL m.val).toNat:=by decide
 exact this ⟨i,h⟩
theorem hG (j:Int) (i:Nat) (h:i<16) (hj:j=(i:Int)) (w:World):(Instr.index 9 (.string ⟨#[48,49,50,51,52,53,54,55,56,57,97,98,99,100,101,102]⟩) (.int .u8 j)).run Tryz.prog w=.ok (.int .u8 (qL i).toNat) w:=by
 subst hj
 have hs:i<(⟨#[48,49,50,51,52,53,54,55,56,57,97,98,99,100,101,102]⟩:ByteArray).size:=h
 rw [run_index_string w _ _ _ _ Tryz.underlying9,dif_pos ⟨by omega,by omega⟩]
 congr 2
 have:=ah i h
 simpa using this
set_option maxRecDepth 100000 in
set_option maxHeartbeats 400000 in
theorem nh (s:ByteArray) (w:World) (hs:s.size≤1099511627000) :
 Calls Tryz.prog 133 #[.string s] w fun e w'=>e=.returned (.string ⟨(vk s.data.toList).toArray⟩)∧Below w.heap.size w w':=by
 obtain ⟨i0,hi,hz0,hz1,hz2⟩:=info_parts pD
 have HSM:=Lh (iO s w hs)
 obtain ⟨t,ht⟩:∃t:ByteArray,t=⟨(jH s.data.toList).toArray⟩:=⟨_,rfl⟩
 have HT:=Lh (show xw t.data.toList=vk s.data.toList by rw [ht];rfl)
 have hts:t.size≤32:=by rw [ht];show (jH s.data.toList).toArray.size≤32;rw [List.size_toArray,ko];omega
 rw [← ht] at HSM
 clear ht
 go_enter Tryz.func133,Tryz.ntmps133
 go_wp2_with fail
 refine HSM.out.mono ?_
 rintro e w1 ⟨rfl,hb1⟩
 have HB1:=Lh hb1
 clear hb1 HSM
 go_wp2
 go_loopw [4,5] (fun v i wr=>∃k:Nat,k≤t.size∧i=.int .i64 k∧wr.ownsRow w1.heap.size 5 1 v (2 * k) (Lib.byteCells (xw (t.data.toList.take k)))∧Below w1.heap.size w1 wr) (fun _ i _=>t.size - (intOf i).toNat)
 case atStart=>exact ⟨0,by omega,rfl,⟨rfl,.inl ⟨rfl,rfl⟩⟩,Below.refl _ _⟩
 case round =>
  obtain ⟨k,hk,rfl,hown,hbel⟩:=hrel
  by_cases hlt:k<t.size
  · have hlt0:=hlt
    have hc:t[k].toNat<256:=t[k].toNat_lt
    have m0:(k:Int)<(t.size:Int):=by omega
    have hz5:w1.heap.size≤wr.heap.size:=hbel.size
    have HO:=Lh hown;clear hown
    have HB:=Lh hbel;clear hbel
    obtain ⟨c,hcc⟩:∃c,c=t[k].toNat:=⟨_,rfl⟩
    have HCC:=Lh hcc
    have hcc':(t[k].toNat:Int)=(c:Int):=by rw [hcc]
    rw [← hcc] at hc
    clear hcc
    have t1:(c:Int).tdiv 16=(c:Int) / 16:=Int.tdiv_eq_ediv_of_nonneg (by omega)
    have t2:(c:Int).tmod 16=(c:Int) % 16:=Int.tmod_eq_emod_of_nonneg (by omega)
    have t3:IntKind.u8.wrap ((c:Int) / 16)=(c:Int) / 16:=IntWalk.u8_in _ (by omega)
    have d1:∀w,(Instr.index 9 (.string ⟨#[48,49,50,51,52,53,54,55,56,57,97,98,99,100,101,102]⟩) (.int .u8 ((c:Int) / 16))).run Tryz.prog w=.ok (.int .u8 (qL (c / 16)).toNat) w:=hG _ (c / 16) (by omega) (by omega)
    have d2:∀w,(Instr.index 9 (.string ⟨#[48,49,50,51,52,53,54,55,56,57,97,98,99,100,101,102]⟩) (.int .u8 ((c:Int) % 16))).run Tryz.prog w=.ok (.int .u8 (qL (c % 16)).toNat) w:=hG _ (c % 16) (by omega) (by omega)
    have HW1:=Lh (show ∀o,w1.heap.size≤((wr.alloc o).drew).heap.size from fun o=>by simp <;> omega)
    have HW2:=Lh (show ∀o,((wr.alloc o).drew).heap.size=wr.heap.size+1 from fun o=>by simp)
    have HW3:=Lh (show 2 * k+2≤maxLen by unfold maxLen;omega)
    have HW4:=Lh (show (2 * k+2) * 1≤140737488355328 by omega)
    go_wp2_with fail
    go_region_held3 (fun w'=>True) (first|trivial|go_keep) ((refine step_append_lies _ (by rfl) _ _ _ (by rfl) w1.heap.size 5 i0 _ 1 1 Tryz.underlying99 hi hz0 hz1 hz2 rfl (by omega) _ (2 * k) _ (by rfl) ((HO.out.alloc _).drew) ⟨wr.heap.size,0,none⟩ 2 2 [.int .u8 (qL (c / 16)).toNat,.int .u8 (qL (c % 16)).toNat] (by rfl) (by rfl) (World.news_of_block (cs:=#[.int .u8 (qL (c / 16)).toNat,.int .u8 (qL (c % 16)).toNat]) (t:=5) (fr:=(0,0)) (heap_alloc_new wr _)) (by simp [Value.oneCell']) (by omega) HW3.out HW4.out (HW1.out _) (wr.heap.size+1) (HW2.out _) ?_;intro gg cap w2 hown1 hgrow hat hlt6))
    all_goals
     have HO1:=Lh hown1
     have HG:=Lh hgrow
     clear hown1 hgrow hat d1 d2
     go_wp2
     go_roundw
     case rel =>
      refine ⟨k+1,by omega,by go_num,?_,?_⟩
      · rw [show 2 * (k+1)=2 * k+2 by omega,gV t k hlt0 c HCC.out];exact HO1.out
      · exact ((HB.out.alloc (by omega) _).drew).grown HG.out (by simp;omega) (fun g hg=>(HO.out.lt g hg).1)
     case measure=>simp [intOf];omega
  · have hcv:=zW (P:=Tryz.prog) 99 9 5 Tryz.underlying99 Tryz.underlying5 Tryz.underlying9 hown
    rw [List.take_of_length_le (by rw [qg];omega),HT.out] at hcv
    have HB:=Lh hbel
    clear hown hbel
    go_wp2
    go_ret
    exact ⟨rfl,HB1.out.trans (HB.out.mono HB1.out.size)⟩
set_option maxHeartbeats 400000 in
set_option maxRecDepth 100000 in
theorem lD (s t:ByteArray) (w:World) (hs:s.size≤4294967) (ht:t.size≤4294967) :
 Calls Tryz.prog 81 #[.agg #[.string s,.string t]] w (xk s t w):=by
 have HM:=Lh (mP s t (w.alloc (.cells #[.string s,.string t] 38)) (by omega) (by omega))
 have HB0:=Lh (show Below w.heap.size w (w.alloc (.cells #[.string s,.string t] 38)) from (Below.refl _ _).alloc lz _)
 have HX0:=Lh (heap_alloc_new w (.cells #[.string s,.string t] 38))
 unfold xk ju
 cases hk:zp s.data.toList t.data.toList
 · rw [hk] at HM
   clear hk
   go_enter Tryz.func81,Tryz.ntmps81
   go_wp2_with fail
   refine HM.out.mono ?_
   rintro e w1 ⟨rfl,hb1⟩
   have HB1:=Lh (HB0.out.trans (hb1.mono (by simp)))
   clear hb1
   go_wp2
   go_ret2
   exact ⟨rfl,HB1.out⟩
 · rw [hk] at HM
   clear hk
   obtain ⟨f,hf⟩:∃f:ByteArray,f=((⟨#[123,34,112,117,98,108,105,99,34,58,34]⟩ ++ t ++ ⟨#[34,44,34,115,99,104,101,109,101,34,58,34]⟩) ++ s) ++ ⟨#[34,125]⟩:=⟨_,rfl⟩
   have HF:=Lh (show f.data.toList=jG s.data.toList t.data.toList by
    rw [hf];simp only [yQ];unfold jG;simp [lK,lV])
   have hfs:f.size≤1099511627000:=by
    rw [hf];simp only [ByteArray.size_append]
    show 11+t.size+12+s.size+2≤_;omega
   have HFF:=Lh hf
   clear hf
   go_enter Tryz.func81,Tryz.ntmps81
   go_wp2_with fail
   refine HM.out.mono ?_
   rintro e w1 ⟨rfl,hb1⟩
   have HB1:=Lh (HB0.out.trans (hb1.mono (by simp)))
   have hx1:=hb1.block w.heap.size (by simp)
   rw [HX0.out] at hx1
   have q0:w1.cell? ⟨w.heap.size,0,none⟩=some (.string s):=qq (w:=w1) hx1 rfl
   have q1:w1.cell? ⟨w.heap.size,1,none⟩=some (.string t):=qq (w:=w1) hx1 rfl
   clear hb1 hx1
   go_wp2_with fail
   rw [← HFF.out]
   refine (nh f w1 hfs).mono ?_
   rintro e w2 ⟨rfl,hb2⟩
   have HB2:=Lh (HB1.out.trans (hb2.mono HB1.out.size))
   clear hb2
   go_wp2
   go_ret2
   exact ⟨by rw [HF.out];rfl,HB2.out⟩
end Go.Proofs.YtnlgmcapbbgelaaGreatDoor
