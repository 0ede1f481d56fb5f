import Derived.Test.YthgembbgcbaghaaGreatDoorDg33
set_option maxHeartbeats 1000000
set_option maxRecDepth 100000

namespace Go.Proofs.YthgembbgcbaghaaGreatDoor
open Go.RowKit
def kCells:Array Value:=(kays.map fun x=>Value.int .u32 x).toArray
theorem yL:∀i,i<64->kCells[i]?=some (.int .u32 (kay i)):=by intro i hi;have a:i<kays.length:=hi;simp only [kCells,List.getElem?_toArray,List.getElem?_map,V3 a,Option.map_some,kay,V2,Option.getD_some]
theorem iy {c:Array Value} (b:c.size=64) (a:∀i,i<64->c[i]?=some (.int .u32 (kay i))):c=kCells:=by
 apply Array.ext
 . rw [b];rfl
 . intro i h1 h2;have:=a i (by omega);rw [<- yL i (by omega),K0 h1,K0 h2] at this;exact Y9 this
theorem QT (w:World):(Go.sizeOf 263).run Tryz.prog w=.ok 64 w:=by kernel_rfl
theorem QI (w:World) :
 Calls Tryz.prog 257 #[] w fun e w'=>e=.returned (.agg kCells)/\O5 w w':=by
 go_enter Tryz.func257,Tryz.ntmps257;go_wp2_with (refine wpList_store_row rfl 263 (.tmp 0) (.tmp 1) rfl w.heap.size 263 64 _ (fun j=>.int .u32 (kay j)) rfl (ko w _ _ 64 rfl) kCells rfl rfl yL (fun _ _=>rfl) QT ?_);intro w1 h3 h4;have a:=O0 (O5 w w1) ((O4).trans ((h4.o.below (B:=w.heap.size) (by simp) (fun k hk e=>by omega))));obtain ⟨c,f,d,g⟩:=h3.o;have h:=U f;have b:=O0 (c=kCells) (iy d g);have i:=U (show (Tryz.prog.info? 263).map (·.size)=some c.size by rw [d];kernel_rfl);clear f d g h3 h4;go_wp2;refine X4 (Y7 Tryz.results257 _ _ w.heap.size 263 _ (0,0) _ rfl h.o Tryz.underlying263 rfl i.o) rfl ⟨by rw [b.o],a.o⟩
