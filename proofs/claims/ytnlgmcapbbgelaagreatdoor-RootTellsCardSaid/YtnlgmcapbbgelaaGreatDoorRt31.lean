/- The contract of legateref02.step: the walk. -/
import Derived.Test.YtnlgmcapbbgelaaGreatDoorRt30

namespace Go.Proofs.YtnlgmcapbbgelaaGreatDoor
open Go.RowKit
theorem vf (s:S8):∀i,i<8→(xW s)[i]?=some (.int .u32 (s.at i)):=by
 intro i hi
 simp [xW,hi]
theorem gz {s:S8} {c:Array Value} (hn:c.size=8) (hf:∀i,i<8→c[i]?=some (.int .u32 (s.at i))):c=xW s:=by
 apply Array.ext
 · rw [hn];simp [xW]
 · intro i h1 h2
   have:=hf i (by omega)
   rw [← vf s i (by omega),Array.getElem?_eq_getElem h1,Array.getElem?_eq_getElem h2] at this
   exact Option.some.inj this
theorem uR {W:World} {b c t n:Nat} {f:Nat→Value} (v0 v1 v2 v3 v4 v5 v6 v7:Value) (h:W.rowIs b t n f) (hb:b≠c) :
 ((((((((W.setCell ⟨c,0,none⟩ v0).setCell ⟨c,1,none⟩ v1).setCell ⟨c,2,none⟩ v2).setCell ⟨c,3,none⟩ v3).setCell ⟨c,4,none⟩ v4).setCell ⟨c,5,none⟩ v5).setCell ⟨c,6,none⟩ v6).setCell ⟨c,7,none⟩ v7).rowIs b t n f :=
 (((((((h.setOther hb _).setOther hb _).setOther hb _).setOther hb _).setOther hb _).setOther hb _).setOther hb _).setOther hb _
theorem af (w:World):(Go.sizeOf 211).run Tryz.prog w=.ok 8 w:=by kernel_rfl
def km (cs:Array Value) (blk:ByteArray) (H:Nat) (x5 x6 x7 x14 x15 x16 x17:Value):Act :=
 ⟨#[.agg cs,.string blk,.pointer (some ⟨H,0,none⟩),undef,.pointer (some ⟨H+1,0,none⟩),x5,x6,x7,undef,undef,undef,undef,undef,undef,x14,x15,x16,x17,undef,undef,undef,undef,undef,undef,undef,undef,undef,undef,undef,undef,undef,undef,undef,undef,undef,undef,undef,undef,undef,undef,undef,undef,undef,undef,undef,undef,undef,undef,undef,undef,undef,undef,undef,undef,undef,undef,undef,undef,undef,undef,undef,undef,undef,undef,undef,undef,undef,undef,undef,undef,undef,undef,undef,undef,undef,undef,undef,undef,undef,undef,undef,undef,undef,undef,undef,undef,undef,undef,undef,undef,undef,undef,undef,undef,undef,undef,undef,undef,undef,undef,undef,undef,undef,undef,undef,undef,undef,undef,undef,undef,undef,undef,undef,undef],[]⟩
set_option maxRecDepth 100000 in
set_option maxHeartbeats 1000000 in
theorem tC (s:S8) (hs:s.ok) (blk:ByteArray) (w:World) (hb:blk.size=64) :
 Calls Tryz.prog 200 #[.agg (xW s),.string blk] w fun e w'=>e=.returned (.agg (xW (kV s (fun j=>xu blk.data.toList j))))∧Below w.heap.size w w':=by
 have HS:=Lh hs
 have HZ:=Lh hb
 have HWS:=Lh (ap blk)
 have HPB:=Lh (show ∀i,0≤(fun j=>xu blk.data.toList j) i∧(fun j=>xu blk.data.toList j) i≤255 from fun i=>bt _ _)
 generalize (fun j=>xu blk.data.toList j)=p at *
 have h8:(xW s).size=8:=by simp [xW]
 have HSG:=Lh (vf s)
 have HRB:=Lh (show (w.alloc (.cells (xW s) 211)).rowIs w.heap.size 211 8 (fun j=>.int .u32 (s.at j)) from jq rfl)
 clear hs hb
 generalize hcs:xW s=cs at *
 have HCS:=Lh hcs
 clear hcs
 go_enter Tryz.func200,Tryz.ntmps200
 go_wp2_with fail
 have HRR:=Lh (show ((w.alloc (.cells cs 211)).alloc (.cells #[.int .u32 0,.int .u32 0,.int .u32 0,.int .u32 0,.int .u32 0,.int .u32 0,.int .u32 0,.int .u32 0] 211)).rowIs (w.heap.size+1) 211 8 (fun _=>.int .u32 0) from by
  have:=vM (w.alloc (.cells cs 211)) (.int .u32 0) 8 211 (fun _=>.int .u32 0) (fun _ _=>rfl)
  rwa [show (w.alloc (.cells cs 211)).heap.size=w.heap.size+1 by simp] at this)
 refine xB 9 (fun d a' w'=>∃x5 x6 x7 x14 x15 x16 x17 b5 b6 b7,a'=km cs blk w.heap.size x5 x6 x7 x14 x15 x16 x17∧R1 w s p blk d w' x5 x6 x7 x14 x15 x16 x17 b5 b6 b7) (by kernel_rfl) (by kernel_rfl) ?first ?step ?last
 case first =>
  refine ⟨undef,undef,undef,undef,undef,undef,undef,0,0,0,rfl,?_⟩
  exact { bel:=(((Below.refl _ _).alloc lz _).alloc (by simp) _).drew,rh:=HRB.out.alloc _,rr:=HRR.out,v0:=fun h=>h.elim,v1:=fun h=>h.elim,v2:=fun h=>h.elim,v3:=fun h=>h.elim,p4:=fun h=>h.elim,p5:=fun h=>h.elim,p6:=fun h=>h.elim,n45:=fun h=>h.elim,n46:=fun h=>h.elim,n56:=fun h=>h.elim,s7:=fun h=>h.elim,s8:=fun h=>h.elim }
 case step =>
  rintro d a' w' ⟨x5,x6,x7,x14,x15,x16,x17,b5,b6,b7,rfl,h⟩ i hi hn hw
  rcases i with _|_|_|_|_|_|_|_|_|i
  · unfold km
    refine wpOp_step rfl fun K hK=>?_
    go_simp
    exact hK _ _ ⟨x5,x6,x7,_,x15,x16,x17,b5,b6,b7,rfl,h.did0⟩
  · have d0:d 0:=hw _ rfl ⟨0,.data⟩ (by simp) rfl
    obtain rfl:=h.v0 d0
    unfold km
    refine wpOp_step rfl fun K hK=>?_
    go_simp
    refine (HWS.out w' HZ.out).mono ?_
    rintro e w2 ⟨rfl,hb⟩
    exact hK _ _ ⟨x5,x6,x7,_,_,x16,x17,b5,b6,b7,rfl,(h.below hb).did1⟩
  · unfold km
    refine wpOp_step rfl fun K hK=>?_
    go_simp
    refine (tM w').mono ?_
    rintro e w2 ⟨rfl,hb⟩
    exact hK _ _ ⟨x5,x6,x7,x14,x15,_,x17,b5,b6,b7,rfl,(h.below hb).did2⟩
  · obtain ⟨c,hc,hn8,hf⟩:=h.rh
    obtain rfl:=gz hn8 hf
    exact pN rfl rfl (wp_load_row 211 (.tmp 2) rfl w.heap.size rfl 211 _ (0,0) _ hc Tryz.underlying211 rfl (by rw [hn8];kernel_rfl) ⟨x5,x6,x7,x14,x15,x16,_,b5,b6,b7,rfl,h.did3⟩)
  · unfold km
    refine wpOp_step rfl fun K hK=>?_
    go_simp
    exact hK _ _ ⟨_,x6,x7,x14,x15,x16,x17,w'.heap.size,b6,b7,rfl,h.did4 _ (by simp) hn⟩
  · unfold km
    refine wpOp_step rfl fun K hK=>?_
    go_simp
    exact hK _ _ ⟨x5,_,x7,x14,x15,x16,x17,b5,w'.heap.size,b7,rfl,h.did5 _ (by simp) hn⟩
  · unfold km
    refine wpOp_step rfl fun K hK=>?_
    go_simp
    exact hK _ _ ⟨x5,x6,_,x14,x15,x16,x17,b5,b6,w'.heap.size,rfl,h.did6 _ (by simp)⟩
  · have d4:d 4:=hw _ rfl ⟨4,.data⟩ (by simp) rfl
    have d1:d 1:=hw _ rfl ⟨1,.data⟩ (by simp) rfl
    obtain rfl:=h.v1 d1
    obtain ⟨rfl,hlt,f,hr⟩:=h.p4 d4
    exact pN rfl rfl (ye 238 (.tmp 5) (.tmp 15) rfl b5 238 64 f (fun j=>.int .u32 (wrd p j)) rfl hr (kX p) rfl (by simp [kX]) (fun i hi=>by simp [kX,hi]) (fun _ _=>rfl) uL
     fun w2 hr2 ht=>⟨_,x6,x7,x14,_,x16,x17,b5,b6,b7,rfl,R1.did7 d4 h ht hr2⟩)
  · have d5:d 5:=hw _ rfl ⟨5,.data⟩ (by simp) rfl
    have d2:d 2:=hw _ rfl ⟨2,.data⟩ (by simp) rfl
    obtain rfl:=h.v2 d2
    obtain ⟨rfl,hlt,f,hr⟩:=h.p5 d5
    exact pN rfl rfl (ye 238 (.tmp 6) (.tmp 16) rfl b6 238 64 f (fun j=>.int .u32 (kay j)) rfl hr kCells rfl rfl wT (fun _ _=>rfl) uL
     fun w2 hr2 ht=>⟨x5,_,x7,x14,x15,_,x17,b5,b6,b7,rfl,R1.did8 d5 h ht hr2⟩)
  · omega
 case last =>
  rintro d a' w' hall ⟨x5,x6,x7,x14,x15,x16,x17,b5,b6,b7,rfl,h⟩
  obtain rfl:=h.v0 (hall 0 (by omega))
  obtain rfl:=h.v1 (hall 1 (by omega))
  obtain rfl:=h.v2 (hall 2 (by omega))
  obtain rfl:=h.v3 (hall 3 (by omega))
  obtain ⟨rfl,l5,_⟩:=h.p4 (hall 4 (by omega))
  obtain ⟨rfl,l6,_⟩:=h.p5 (hall 5 (by omega))
  obtain ⟨rfl,l7,f7,r7⟩:=h.p6 (hall 6 (by omega))
  have n1:=h.n46 (hall 4 (by omega)) (hall 6 (by omega))
  have n2:=h.n56 (hall 5 (by omega)) (hall 6 (by omega))
  have r5:=(h.s7 (hall 7 (by omega))).2
  have r6:=(h.s8 (hall 8 (by omega))).2
  unfold km
  refine wpList_store_row rfl 211 (.tmp 7) (.tmp 17) rfl b7 211 8 f7 (fun j=>.int .u32 (s.at j)) rfl r7 (xW s) rfl (by simp [xW]) (vf s) (fun _ _=>rfl) af ?_
  intro w1 h3 h4
  have HB:=Lh (show Below w.heap.size w w1 from h.bel.trans (h4.out.below h.bel.size fun k hk e=>by omega))
  have HH:=Lh (h4.out.row h.rh (fun e=>by omega))
  have HR:=Lh (h4.out.row h.rr (fun e=>by omega))
  have HW:=Lh (h4.out.row r5 n1)
  have HK:=Lh (h4.out.row r6 n2)
  have HV:=Lh h3.out
  clear h3 h4 h r5 r6 r7 hall HRB HRR HWS
  have n3:b5≠b7∧b6≠b7∧w.heap.size+1<b7∧w.heap.size+1<b5∧w.heap.size+1<b6:=⟨n1,n2,l7,l5,l6⟩
  clear n1 n2 l5 l6 l7 h8 HSG HCS
  go_wp2
  go_loopw [8,9,10,11,12] (fun i _ _ _ _ wr=>∃k:Nat,k≤64∧i=.int .i64 k∧Below w.heap.size w wr∧(wr.rowIs w.heap.size 211 8 fun j=>.int .u32 (s.at j))∧(wr.rowIs (w.heap.size+1) 211 8 fun _=>.int .u32 0)∧(wr.rowIs b5 238 64 fun j=>.int .u32 (wrd p j))∧(wr.rowIs b6 238 64 fun j=>.int .u32 (kay j))∧(wr.rowIs b7 211 8 fun j=>.int .u32 ((jN p s k).at j))) (fun i _ _ _ _ _=>64 - (intOf i).toNat)
  case atStart=>exact ⟨0,by omega,rfl,HB.out,HH.out,HR.out,HW.out,HK.out,HV.out⟩
  case round =>
   clear HB HH HR HW HK HV
   obtain ⟨k,hk,rfl,hB,hH,hR,hW,hK,hV⟩:=hrel
   have HB:=Lh hB
   have HH:=Lh hH
   have HR:=Lh hR
   by_cases hlt:k<64
   · have HO:=Lh (ua p HS.out k)
     have HE:=Lh (show jN p s (k+1)=rnd (kay k) (wrd p k) (jN p s k) from rfl)
     obtain ⟨S,hS⟩:∃S,S=jN p s k:=⟨_,rfl⟩
     rw [← hS] at hV HO HE
     clear hS
     have r0:=hV.cell (i:=0) (by omega);have r1:=hV.cell (i:=1) (by omega);have r2:=hV.cell (i:=2) (by omega);have r3:=hV.cell (i:=3) (by omega)
     have r4:=hV.cell (i:=4) (by omega);have r5:=hV.cell (i:=5) (by omega);have r6:=hV.cell (i:=6) (by omega);have r7:=hV.cell (i:=7) (by omega)
     simp only [S8.at] at r0 r1 r2 r3 r4 r5 r6 r7
     have f0:=hV.frozen 0;have f1:=hV.frozen 1;have f2:=hV.frozen 2;have f3:=hV.frozen 3
     have f4:=hV.frozen 4;have f5:=hV.frozen 5;have f6:=hV.frozen 6;have f7:=hV.frozen 7
     have cw:wr.cell? ⟨b5,k,none⟩=some (.int .u32 (wrd p k)):=hW.cell (by omega)
     have ck:wr.cell? ⟨b6,k,none⟩=some (.int .u32 (kay k)):=hK.cell (by omega)
     have HAx:=Lh HO.out.1;have HEx:=Lh HO.out.2.2.2.2.1
     have HW:=Lh hW
     have HK:=Lh hK
     have HV:=Lh hV
     clear hB hH hR hW hK hV
     have m0:(k:Int)<64:=by omega
     go_wp2_with fail
     refine wp_region_still_tail 30 (by kernel_rfl) (by kernel_rfl) ?_
     simp only [List.take_succ_cons,List.take_zero,List.drop_succ_cons,List.drop_zero]
     repeat still_step
     still_call (jB S.e 6 _ HEx.out (by omega))
     repeat still_step
     still_call (jB S.e 11 _ HEx.out (by omega))
     repeat still_step
     still_call (jB S.e 25 _ HEx.out (by omega))
     repeat still_step
     refine wpStill_nil ?_
     go_wp2_with fail
     clear cw ck
     replace r0:wr.drew.cell? _=_:=r0
     replace f0:wr.drew.frozen? _=_:=f0
     replace r1:wr.drew.cell? _=_:=r1
     replace f1:wr.drew.frozen? _=_:=f1
     replace r2:wr.drew.cell? _=_:=r2
     replace f2:wr.drew.frozen? _=_:=f2
     replace r3:wr.drew.cell? _=_:=r3
     replace f3:wr.drew.frozen? _=_:=f3
     replace r4:wr.drew.cell? _=_:=r4
     replace f4:wr.drew.frozen? _=_:=f4
     replace r5:wr.drew.cell? _=_:=r5
     replace f5:wr.drew.frozen? _=_:=f5
     replace r6:wr.drew.cell? _=_:=r6
     replace f6:wr.drew.frozen? _=_:=f6
     replace r7:wr.drew.cell? _=_:=r7
     replace f7:wr.drew.frozen? _=_:=f7
     replace HB:=Lh (HB.out.drew)
     replace HH:=Lh (show wr.drew.rowIs _ _ _ _ from HH.out)
     replace HR:=Lh (show wr.drew.rowIs _ _ _ _ from HR.out)
     replace HW:=Lh (show wr.drew.rowIs _ _ _ _ from HW.out)
     replace HK:=Lh (show wr.drew.rowIs _ _ _ _ from HK.out)
     replace HV:=Lh (show wr.drew.rowIs _ _ _ _ from HV.out)
     generalize wr.drew=w2 at r0 r1 r2 r3 r4 r5 r6 r7 f0 f1 f2 f3 f4 f5 f6 f7 HB HH HR HW HK HV ⊢
     refine wp_region_still_tail 24 (by kernel_rfl) (by kernel_rfl) ?_
     simp only [List.take_succ_cons,List.take_zero,List.drop_succ_cons,List.drop_zero]
     repeat still_step
     still_call (jB S.a 2 _ HAx.out (by omega))
     repeat still_step
     still_call (jB S.a 13 _ HAx.out (by omega))
     repeat still_step
     still_call (jB S.a 22 _ HAx.out (by omega))
     repeat still_step
     refine wpStill_nil ?_
     go_wp2_with fail
     go_roundw
     case rel =>
      obtain ⟨q1,q2,q3,q4,q5⟩:=n3
      refine ⟨k+1,by omega,by go_num,(nS _ _ _ _ _ _ _ _ HB.out (by omega)).drew,(uR _ _ _ _ _ _ _ _ HH.out (by omega)).drew,(uR _ _ _ _ _ _ _ _ HR.out (by omega)).drew,(uR _ _ _ _ _ _ _ _ HW.out q1).drew,(uR _ _ _ _ _ _ _ _ HK.out q2).drew,(ob _ _ _ _ _ _ _ _ HV.out).drew.congr fun j hj=>?_⟩
      rw [HE.out]
      rcases j with _|_|_|_|_|_|_|_|j
      · exact congrArg (Value.int .u32) (by rw [← Int.add_assoc];exact iq (kay k) (wrd p k) S)
      · rfl
      · rfl
      · rfl
      · exact congrArg (Value.int .u32) (iz (kay k) (wrd p k) S)
      · rfl
      · rfl
      · rfl
      · omega
     case measure=>simp [intOf];omega
   · have HT:=Lh (show wr.rowIs b7 211 8 (fun j=>.int .u32 ((jN p s 64).at j)) from by rw [show k=64 by omega] at hV;exact hV)
     have hd0:decide ((k:Int)<64)=false:=by simp;omega
     clear hB hH hR hW hK hV hlt hk
     obtain ⟨wc,rfl⟩:∃wc:World,wc=wr:=⟨_,rfl⟩
     obtain ⟨k2,rfl⟩:∃k2:Nat,k2=k:=⟨_,rfl⟩
     go_wp2
     go_loopw [13] (fun i wr=>∃k:Nat,k≤8∧i=.int .i64 k∧Below w.heap.size w wr∧(wr.rowIs (w.heap.size+1) 211 8 fun _=>.int .u32 0)∧(wr.rowIs b7 211 8 fun j=>.int .u32 ((jN p s 64).at j))∧(wr.rowIs w.heap.size 211 8 fun j=>if j<k then .int .u32 (xi (s.at j) ((jN p s 64).at j)) else .int .u32 (s.at j))) (fun i _=>8 - (intOf i).toNat)
     case atStart=>exact ⟨0,by omega,rfl,HB.out,HR.out,HT.out,HH.out.congr fun j _=>by rw [if_neg (by omega)]⟩
     case round =>
      clear HB HR HT HH
      obtain ⟨k,hk,rfl,hB,hR,hT,hH⟩:=hrel
      have HB:=Lh hB
      have HR:=Lh hR
      have HT:=Lh hT
      have HH:=Lh hH
      by_cases hlt:k<8
      · have c0:wr.cell? ⟨w.heap.size,k,none⟩=some (.int .u32 (s.at k)):=by rw [hH.cell (by omega),if_neg (by omega)]
        have c1:wr.cell? ⟨b7,k,none⟩=some (.int .u32 ((jN p s 64).at k)):=hT.cell hlt
        have c2:wr.frozen? ⟨w.heap.size,k,none⟩=false:=hH.frozen _
        have m0:(k:Int)<8:=by omega
        clear hB hR hT hH
        generalize (jN p s 64)=R at *
        go_wp2_with fail
        go_still_tail 9,(by kernel_rfl)
        go_wp2
        go_roundw
        case rel =>
         obtain ⟨q1,q2,q3,q4,q5⟩:=n3
         refine ⟨k+1,by omega,by go_num,(HB.out.setCell lz _).drew,(HR.out.setOther (by show w.heap.size+1≠w.heap.size;omega) _).drew,(HT.out.setOther (by show b7≠w.heap.size;omega) _).drew,(HH.out.set _ _).drew.congr fun j hj=>?_⟩
         by_cases e:j=k
         · subst e;rw [if_pos rfl,if_pos (by omega)];rfl
         · simp only [if_neg e];by_cases e':j<k
           · rw [if_pos e',if_pos (by omega)]
           · rw [if_neg e',if_neg (by omega)]
        case measure=>simp [intOf];omega
      · have HF:=Lh (show wr.rowIs w.heap.size 211 8 (fun j=>.int .u32 ((kV s p).at j)) from hH.congr fun j hj=>by rw [if_pos (by omega)];unfold kV;rw [nO])
        have hd1:decide ((k:Int)<8)=false:=by simp;omega
        clear hB hR hT hH HH HT
        go_wp2_with (with_reducible refine jk rfl 211 (.tmp 2) rfl w.heap.size 211 8 _ rfl HF.out _ Tryz.underlying211 rfl (by kernel_rfl) ?_)
        intro cs h1 h2
        go_wp2_with (with_reducible refine wpList_store_row rfl 211 (.tmp 4) (.tmp 113) rfl (w.heap.size+1) 211 8 _ _ rfl HR.out cs rfl h1.out h2.out (fun _ _=>rfl) af ?_)
        intro w1 h3 h4
        have HB1:=Lh (show Below w.heap.size w w1 from HB.out.trans (h4.out.below (B:=w.heap.size) HB.out.size (fun k hk e=>by omega)))
        obtain ⟨c,hc,hn,hf⟩:=h3.out
        have HC:=Lh hc
        have HCW:=Lh (show c=xW (kV s p) from gz hn hf)
        have HN:=Lh (show (Tryz.prog.info? 211).map (·.size)=some c.size by rw [hn];kernel_rfl)
        clear hc hn hf h1 h2 h3 h4
        go_wp2
        refine bodyPost_ret (results_cell_row Tryz.results200 _ _ (w.heap.size+1) 211 _ (0,0) _ rfl HC.out Tryz.underlying211 rfl HN.out) rfl ⟨by rw [HCW.out],HB1.out⟩
end Go.Proofs.YtnlgmcapbbgelaaGreatDoor
