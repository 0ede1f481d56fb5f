/- The contract of legateref02.keys. -/
import Derived.Test.YtnlgmcapbbgelaaGreatDoorRt27

namespace Go.Proofs.YtnlgmcapbbgelaaGreatDoor
open Go.RowKit
def kCells:Array Value:=(kays.map fun x=>Value.int .u32 x).toArray
theorem wT:∀i,i<64→kCells[i]?=some (.int .u32 (kay i)):=by
 intro i hi
 have hl:i<kays.length:=hi
 simp only [kCells,List.getElem?_toArray,List.getElem?_map,List.getElem?_eq_getElem hl,Option.map_some,kay,List.getD_eq_getElem?_getD,Option.getD_some]
theorem nf {c:Array Value} (hn:c.size=64) (hf:∀i,i<64→c[i]?=some (.int .u32 (kay i))):c=kCells:=by
 apply Array.ext
 · rw [hn];rfl
 · intro i h1 h2
   have:=hf i (by omega)
   rw [← wT i (by omega),Array.getElem?_eq_getElem h1,Array.getElem?_eq_getElem h2] at this
   exact Option.some.inj this
theorem tU (w:World):(Go.sizeOf 238).run Tryz.prog w=.ok 64 w:=by kernel_rfl
set_option maxRecDepth 100000 in
set_option maxHeartbeats 1000000 in
theorem tM (w:World) :
 Calls Tryz.prog 224 #[] w fun e w'=>e=.returned (.agg kCells)∧Below w.heap.size w w':=by
 go_enter Tryz.func224,Tryz.ntmps224
 go_wp2_with (refine wpList_store_row rfl 238 (.tmp 0) (.tmp 1) rfl w.heap.size 238 64 _ (fun j=>.int .u32 (kay j)) rfl (jS w _ _ 64 rfl) kCells rfl rfl wT (fun _ _=>rfl) tU ?_)
 intro w1 h3 h4
 have HB1:=Lh (show Below w.heap.size w w1 from ((Below.refl _ _).alloc lz _).trans ((h4.out.below (B:=w.heap.size) (by simp) (fun k hk e=>by omega))))
 obtain ⟨c,hc,hn,hf⟩:=h3.out
 have HC:=Lh hc
 have HCW:=Lh (show c=kCells from nf hn hf)
 have HN:=Lh (show (Tryz.prog.info? 238).map (·.size)=some c.size by rw [hn];kernel_rfl)
 clear hc hn hf h3 h4
 go_wp2
 refine bodyPost_ret (results_cell_row Tryz.results224 _ _ w.heap.size 238 _ (0,0) _ rfl HC.out Tryz.underlying238 rfl HN.out) rfl ⟨by rw [HCW.out],HB1.out⟩
end Go.Proofs.YtnlgmcapbbgelaaGreatDoor
