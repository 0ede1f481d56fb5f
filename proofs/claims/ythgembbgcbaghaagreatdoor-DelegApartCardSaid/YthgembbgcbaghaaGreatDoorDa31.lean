/- The contracts of bins.Role and bins.Goes. Printed by genbins.py. -/
import Derived.Test.YthgembbgcbaghaaGreatDoorDa30
import Derived.Maps.Own

namespace Go.Proofs.YthgembbgcbaghaaGreatDoor
open Go.RowKit
abbrev tO:=ByteArray × ByteArray × ByteArray
inductive Ver where
 | mac
 | tab (l:List tO)
end Go.Proofs.YthgembbgcbaghaaGreatDoor

namespace Go.Proofs.YthgembbgcbaghaaGreatDoor
open Go.RowKit Go.Maps
def cO (D:DataW Unit) (l:List ByteArray):Prop:=∀s:ByteArray,D.atKey (.string s.data.toList) (.lit (.int .i64 0))=.lit (.int .i64 (if xW l s then 1 else 0))
theorem nl:cO (.map []) []:=fun _=>rfl
theorem nr {D:DataW Unit} {l:List ByteArray} {x:ByteArray} (h:cO D l) (hD:IsMap D):cO (D.put (.string x.data.toList) (.lit (.int .i64 1))) (l ++ [x]):=fun s=>by
 by_cases e:s=x
 · subst e
   rw [atKey_put_same hD (by simp [WideAt.IsKeyLit])]
   rw [if_pos ((kx _ _).2 (by simp))]
 · rw [atKey_put_other (fun e'=>e (by
    have e2:s.data.toList=x.data.toList:=by injection e'
    exact yg (by rw [ByteArray.toList_eq,ByteArray.toList_eq];exact e2))),h s]
   have:xW (l ++ [x]) s=xW l s:=by
    rw [Bool.eq_iff_iff,kx,kx]
    simp [e]
   rw [this]
end Go.Proofs.YthgembbgcbaghaaGreatDoor

namespace Go.Proofs.YthgembbgcbaghaaGreatDoor
open Go.RowKit Go.WideMaps Go.Maps
theorem uK:Keyed Tryz.prog 9:=string_keyed Tryz.underlying9
theorem uV (l:List ByteArray) (k:Nat) (h:k<l.length):zS (l.take k) (l.drop k)=if yN l[k] then (if xW (l.take k) l[k] then 7 else zS (l.take (k+1)) (l.drop (k+1))) else 3:=by
 rw [List.drop_eq_getElem_cons h,zS,List.take_succ_eq_append_getElem h]
set_option maxHeartbeats 1000000 in
set_option maxRecDepth 100000 in
theorem yo (l:List ByteArray) (a:Option Addr) (c:Nat) (w:World) (hS:qw w 0 w.heap.size a l) (hl:l.length≤1000) (hs:∀s ∈ l,s.size≤4294967296) :
 Calls Tryz.prog 183 #[.slice a l.length c] w fun e w'=>e=.returned (.int .i64 (zS [] l))∧Below w.heap.size w w':=by
 have HS:=Lh hS
 have HZ:=Lh hs
 clear hS hs
 have hmm:=@run_makeMap Tryz.prog
 go_enter Tryz.func183,Tryz.ntmps183
 go_wp2
 go_loopw [5,9] (fun _ i wr=>∃(k:Nat) (D:DataW Unit),k≤l.length∧i=.int .i64 k∧zS [] l=zS (l.take k) (l.drop k)∧cO D (l.take k)∧wr.ownsMap Tryz.prog 9 (plainElem (H:=Unit) Tryz.prog 3) w.heap.size k D∧Below w.heap.size w wr) (fun _ i _=>l.length - (intOf i).toNat)
 case atStart=>exact ⟨0,.map [],by omega,rfl,rfl,nl,World.ownsMap_made _ _ _ _,(Below.refl _ _).alloc lz _⟩
 case round =>
  obtain ⟨k,D,hk,rfl,hid,hD,hown,hbel⟩:=hrel
  have HID:=Lh hid
  have HD:=Lh hD
  have HB:=Lh hbel
  clear hid hD
  by_cases hlt:k<l.length
  · obtain ⟨b,off,ha,_,hb,e0⟩:=(HS.out.below hbel lz lz hbel.size).at k hlt
    subst ha
    have HST:=Lh (uV l k hlt)
    have hsz:=HZ.out l[k] (List.getElem_mem hlt)
    have HSN:=Lh (nr (x:=l[k]) HD.out (hown.isMap))
    have HSE:=Lh (HD.out l[k])
    have htk:l.take (k+1)=l.take k ++ [l[k]]:=List.take_succ_eq_append_getElem hlt
    have HTK:=Lh htk
    have HI:=Lh (l9 l[k] wr (by omega))
    obtain ⟨x,hx⟩:∃x,x=l[k]:=⟨_,rfl⟩
    rw [← hx] at e0 HST hsz HSN HSE HTK HI
    have hkey:Go.keyOf Tryz.prog 9 (.string x)=some (.string x.data.toList):=keyOf_string_mk Tryz.underlying9 (by unfold maxLen;omega)
    obtain ⟨hb64,hhb⟩:∃q,q=xY x.data.toList:=⟨_,rfl⟩
    rw [← hhb] at HI
    have HX:=Lh (show yN x=(decide (x.size=64) && hb64) by unfold yN;rw [hhb])
    clear hx hbel hhb htk
    obtain ⟨sn,hsn⟩:∃sn,sn=xW (l.take k) x:=⟨_,rfl⟩
    rw [← hsn] at HST HSE
    clear hsn
    have m0:(k:Int)<(l.length:Int):=by omega
    by_cases h64:x.size=64
    · have hd:((x.size:Int) != 64)=false:=by simp;omega
      rw [decide_eq_true h64,Bool.true_and] at HX
      cases hb64
      · clear h64
        go_wp2_with fail
        refine HI.out.mono ?_
        rintro e w1 ⟨rfl,rfl⟩
        go_wp2
        go_ret
        exact ⟨wg (by rw [HID.out,HST.out,HX.out];rfl),HB.out⟩
      · clear h64
        have HHX:=Lh (show yN x=true from HX.out)
        obtain ⟨cnt,hrun,hat,_⟩:=hown.lookup_int uK Tryz.underlying150 Tryz.underlying3 (jC _) hkey
        rw [HSE.out] at hat
        have HCN:=Lh (show cnt=if sn=true then 1 else 0 by
         simp only [DataW.lit.injEq,Lit.int.injEq,true_and] at hat;exact hat.symm)
        clear hat
        cases sn
        · obtain rfl:cnt=0:=HCN.out
          have HO:=Lh hown
          clear hown
          go_wp2_with (first|(go_at_call 195;refine HI.out.mono ?_;rintro e w1 ⟨rfl,rfl⟩)|(at_mapUpdate;refine wpList_mapUpdate_own _ rfl _ _ _ 150 rfl 9 3 uK Tryz.underlying150 _ w.heap.size k _ rfl HO.out (by unfold maxLen;omega) _ _ _ rfl rfl hkey _ [] (plainElem_int Tryz.underlying3 (by decide)) ?_;intro w1 hown1 hgrow1)|go_in)
          have HO1:=Lh hown1
          have HG1:=Lh hgrow1
          clear hown1 hgrow1 hrun
          go_wp2
          go_roundw
          case rel =>
           exact ⟨k+1,_,by omega,by go_num,by rw [HID.out,HST.out,HHX.out];rfl,by rw [HTK.out];exact HSN.out,HO1.out,HB.out.grown HG1.out HB.out.size (fun j hj=>by cases hj;exact Nat.le_refl _)⟩
          case measure=>simp [intOf];omega
        · obtain rfl:cnt=1:=HCN.out
          clear hown
          go_wp2_with (go_at_call 195;refine HI.out.mono ?_;rintro e w1 ⟨rfl,rfl⟩)
          go_ret
          exact ⟨wg (by rw [HID.out,HST.out,HHX.out];rfl),HB.out⟩
    · have hd:((x.size:Int) != 64)=true:=by simp;omega
      rw [decide_eq_false h64,Bool.false_and] at HX
      clear h64 HI
      go_wp2
      go_ret
      exact ⟨wg (by rw [HID.out,HST.out,HX.out];rfl),HB.out⟩
  · have HF:=Lh (show zS [] l=0 by
     rw [HID.out,List.drop_eq_nil_of_le (by omega)];rfl)
    clear hown hbel
    go_wp2
    go_ret
    exact ⟨wg HF.out.symm,HB.out⟩
theorem vJ {t:Int} {l:List ByteArray} (h:¬(1≤l.length∧l.length≤16∧1≤t∧t≤l.length)):jo t l=false:=by
 unfold jo;rw [decide_eq_false h];rfl
theorem lx {t:Int} {l:List ByteArray} (h:1≤l.length∧l.length≤16∧1≤t∧t≤l.length):jo t l=(zS [] l == 0):=by
 unfold jo;rw [decide_eq_true h,Bool.true_and,Bool.eq_iff_iff,decide_eq_true_eq,beq_iff_eq]
set_option maxHeartbeats 1000000 in
set_option maxRecDepth 100000 in
theorem cE (t:Int) (l:List ByteArray) (a:Option Addr) (c:Nat) (w:World) (hS:qw w 0 w.heap.size a l) (hs:∀s ∈ l,s.size≤4294967296) :
 Calls Tryz.prog 136 #[.agg #[.int .i64 t,.slice a l.length c]] w fun e w'=>e=.returned (.bool (jo t l))∧Below w.heap.size w w':=by
 have HB0:=Lh (show Below w.heap.size w (w.alloc (.cells #[.int .i64 t,.slice a l.length c] 31)) from (Below.refl _ _).alloc lz _)
 have HA:=Lh (fun h16:l.length≤16=>yo l a c _ (hS.below HB0.out lz lz (by simp)) (by omega) hs)
 clear hS hs
 by_cases h1:l.length<1
 · have HF:=Lh (vJ (t:=t) (l:=l) (by omega))
   have d1:decide ((l.length:Int)<1)=true:=by simp;omega
   go_enter Tryz.func136,Tryz.ntmps136
   go_wp2
   go_ret
   exact ⟨qz HF.out.symm,HB0.out⟩
 have d1:decide ((l.length:Int)<1)=false:=by simp;omega
 by_cases h2:16<l.length
 · have HF:=Lh (vJ (t:=t) (l:=l) (by omega))
   have d2:decide (16<(l.length:Int))=true:=by simp;omega
   go_enter Tryz.func136,Tryz.ntmps136
   go_wp2
   go_ret
   exact ⟨qz HF.out.symm,HB0.out⟩
 have d2:decide (16<(l.length:Int))=false:=by simp;omega
 by_cases h3:t<1
 · have HF:=Lh (vJ (t:=t) (l:=l) (by omega))
   have d3:decide (t<1)=true:=by simp;omega
   go_enter Tryz.func136,Tryz.ntmps136
   go_wp2
   go_ret
   exact ⟨qz HF.out.symm,HB0.out⟩
 have d3:decide (t<1)=false:=by simp;omega
 by_cases h4:(l.length:Int)<t
 · have HF:=Lh (vJ (t:=t) (l:=l) (by omega))
   have d4:decide ((l.length:Int)<t)=true:=by simp;omega
   go_enter Tryz.func136,Tryz.ntmps136
   go_wp2
   go_ret
   exact ⟨qz HF.out.symm,HB0.out⟩
 have d4:decide ((l.length:Int)<t)=false:=by simp;omega
 have HF:=Lh (lx (t:=t) (l:=l) (by omega))
 have HW:=Lh (HA.out (by omega))
 clear HA
 obtain ⟨E,hE⟩:∃E,E=zS [] l:=⟨_,rfl⟩
 rw [← hE] at HF HW
 clear hE
 go_enter Tryz.func136,Tryz.ntmps136
 go_wp2_with fail
 refine HW.out.mono ?_
 rintro e w1 ⟨rfl,hb1⟩
 have HB1:=Lh (HB0.out.trans (hb1.mono (by simp)))
 clear hb1
 go_wp2
 go_ret
 exact ⟨qz HF.out.symm,HB1.out⟩
end Go.Proofs.YthgembbgcbaghaaGreatDoor

namespace Go.Proofs.YthgembbgcbaghaaGreatDoor
open Go.RowKit Go.Shelf Go.Sort
theorem uW (n:Int) (w:World):Calls Tryz.prog 204 #[.int .i64 n] w fun e w'=>e=.returned (.agg #[.int .u8 2,.int .i64 n,.string ⟨#[]⟩,.slice none 0 0,.slice none 0 0])∧w'=w.alloc (.cells #[.int .u8 2,.int .i64 n,.string ⟨#[]⟩,.slice none 0 0,.slice none 0 0] 25):=by
 go_enter Tryz.func204,Tryz.ntmps204
 go_wp2
 exact bodyPost_ret (results_cell_row Tryz.results204 _ _ w.heap.size 25 _ (0,0) _ rfl (heap_alloc_new w _) Tryz.underlying25 rfl (by kernel_rfl)) rfl ⟨rfl,rfl⟩
def uY (t:Int) (l:List ByteArray) (w:World) (e:Ending) (w':World):Prop :=
 ∃g ai ci,e=.returned (.slice (some ⟨g,0,none⟩) 2 2)∧w'.heap[g]?=some (.cells #[.string ⟨#[107,101,121,105,100,115]⟩,.int .u8 4,.int .i64 0,.string ⟨#[]⟩,.slice none 0 0,.slice ai l.length ci,.string ⟨#[116,104,114,101,115,104,111,108,100]⟩,.int .u8 2,.int .i64 t,.string ⟨#[]⟩,.slice none 0 0,.slice none 0 0] 169 (0,0)) ∧
  Rep w' w.heap.size g (qu l) (.agg #[.int .u8 4,.int .i64 0,.string ⟨#[]⟩,.slice none 0 0,.slice ai l.length ci])∧Below w.heap.size w w'∧w.heap.size≤g
set_option maxHeartbeats 2000000 in
set_option maxRecDepth 100000 in
theorem uG (t:Int) (l:List ByteArray) (a:Option Addr) (c:Nat) (w:World) (hS:qw w 0 w.heap.size a l) (hl:l.length≤4294967296) :
 Calls Tryz.prog 200 #[.agg #[.int .i64 t,.slice a l.length c]] w (uY t l w):=by
 obtain ⟨W,hW⟩:∃W,W=w.alloc (.cells #[.int .i64 t,.slice a l.length c] 31):=⟨_,rfl⟩
 have hb:Below w.heap.size w W:=by rw [hW];exact (Below.refl _ _).alloc lz _
 have hx:W.heap[w.heap.size]?=some (.cells #[.int .i64 t,.slice a l.length c] 31 (0,0)):=by rw [hW];exact heap_alloc_new w _
 have HC:=Lh (show ∀w':World,Below W.heap.size W w'→w'.cell? ⟨w.heap.size,0,none⟩=some (.int .i64 t)∧w'.cell? ⟨w.heap.size,1,none⟩=some (.slice a l.length c)∧w.heap.size<w'.heap.size from fun w' h=>by
  have y0:=(h.block _ (qx hx)).trans hx
  exact ⟨qq y0 rfl,qq y0 rfl,Nat.lt_of_lt_of_le (qx hx) h.size⟩)
 have HT:=Lh (show ∀w':World,Below W.heap.size W w'→Calls Tryz.prog 203 #[.slice a l.length c] w' (fun e w2=>∃ai ci,e=.returned (.agg #[.int .u8 4,.int .i64 0,.string ⟨#[]⟩,.slice none 0 0,.slice ai l.length ci])∧Hid (Rep w2 W.heap.size w2.heap.size (qu l) (.agg #[.int .u8 4,.int .i64 0,.string ⟨#[]⟩,.slice none 0 0,.slice ai l.length ci]))∧Below W.heap.size W w2∧w2.cell? ⟨w.heap.size,0,none⟩=some (.int .i64 t)∧w2.cell? ⟨w.heap.size,1,none⟩=some (.slice a l.length c)∧w.heap.size<w2.heap.size) from fun w' h=>by
  have hbw:=hb.trans (h.mono hb.size)
  refine (fh l a c w' (hS.below hbw lz lz hbw.size) hl).mono ?_
  rintro e w2 ⟨ai,ci,rfl,hr,hb2⟩
  have h2:=h.trans (hb2.mono h.size)
  exact ⟨ai,ci,rfl,Lh (Rep.carry h.size lz (fun _ _ _=>rfl) _ _ hr),h2,HC.out _ h2⟩)
 have HN:=Lh (show ∀w':World,Below W.heap.size W w'→Calls Tryz.prog 204 #[.int .i64 t] w' (fun e w2=>e=.returned (.agg #[.int .u8 2,.int .i64 t,.string ⟨#[]⟩,.slice none 0 0,.slice none 0 0])∧Below w'.heap.size w' w2∧Below W.heap.size W w2∧w2.cell? ⟨w.heap.size,0,none⟩=some (.int .i64 t)∧w2.cell? ⟨w.heap.size,1,none⟩=some (.slice a l.length c)∧w.heap.size<w2.heap.size) from fun w' h=>by
  refine (uW t w').mono ?_
  rintro e w2 ⟨rfl,rfl⟩
  have hb2:Below w'.heap.size w' (w'.alloc (.cells #[.int .u8 2,.int .i64 t,.string ⟨#[]⟩,.slice none 0 0,.slice none 0 0] 25)):=(Below.refl _ _).alloc lz _
  have h2:=h.trans (hb2.mono h.size)
  exact ⟨rfl,hb2,h2,HC.out _ h2⟩)
 have HB:=Lh hb
 have HW:=Lh hW
 clear hS hb hx hW
 have hbz:Below W.heap.size W W.drew:=(Below.refl _ _).drew
 obtain ⟨q0,q1,hzq⟩:=HC.out W (Below.refl _ _)
 go_enter Tryz.func200,Tryz.ntmps200
 go_upto_region 1 with fail
 rw [← HW.out]
 clear HW
 go_region_held3 (fun w'=>w'.cell? ⟨w.heap.size,0,none⟩=some (.int .i64 t)∧w'.cell? ⟨w.heap.size,1,none⟩=some (.slice a l.length c)) (first|(with_reducible exact ⟨q0,q1⟩)|(with_reducible exact ⟨(qt _ hzq).trans q0,(qt _ hzq).trans q1⟩)|(go_keep;done)) (first|(go_at_call 203;(with_reducible refine (HT.out _ hbz).mono ?_);rintro e w2 ⟨ai,ci,rfl,HTX,hbz,q0,q1,hzq⟩)|(go_at_call 204;(with_reducible refine (HN.out _ hbz).mono ?_);rintro e w2 ⟨rfl,hbn,hbz,q0,q1,hzq⟩;replace HTX:=Lh (HTX.out.below hbn lz lz hbn.size))|(go_at_call 204;(with_reducible refine (HN.out _ hbz).mono ?_);rintro e w2 ⟨rfl,-,hbz,q0,q1,hzq⟩))
 all_goals
  have HBZ:=Lh hbz
  clear hbz q0 q1 hzq
  go_wp2
  go_ret
  have hg0:=Nat.le_trans HB.out.size HBZ.out.size
  exact ⟨_,ai,ci,rfl,heap_alloc_new _ _,Rep.carry HB.out.size lz (fun b _ hb=>Below.heap_alloc _ _ _ hb) _ _ HTX.out,(HB.out.trans (HBZ.out.mono HB.out.size)).alloc hg0 _,hg0⟩
end Go.Proofs.YthgembbgcbaghaaGreatDoor

namespace Go.Proofs.YthgembbgcbaghaaGreatDoor
open Go.RowKit
theorem sU {w:World} {g T N:Nat} {v:Value} {f:Nat→Value} (hrow:w.rowIs g T N f) (h:∀j,j<N→f j=v) (hN:N≤maxLen):w.ownsRow g T 1 (.slice (some ⟨g,0,none⟩) N N) N (List.replicate N v):=by
 obtain ⟨cur,hh,hz,hf⟩:=hrow
 refine ⟨by simp,.inr ⟨g,N,cur,rfl,Nat.le_refl _,hh,Nat.le_refl _,hN,by omega,?_⟩⟩
 apply List.ext_getElem?
 intro j
 by_cases hj:j<N
 · have h1:=hf j hj
   rw [h j hj] at h1
   have h2:j<cur.size:=by omega
   rw [Array.getElem?_eq_getElem h2] at h1
   simp only [Option.some.injEq] at h1
   simp [hj,h2,h1]
 · rw [List.getElem?_eq_none (by simp;omega),List.getElem?_eq_none (by simp;omega)]
theorem lj (c:UInt8) (n:Nat):Lib.byteCells (List.replicate n c)=List.replicate n (.int .u8 c.toNat):=by simp [Lib.byteCells]
set_option maxHeartbeats 1000000 in
set_option maxRecDepth 100000 in
theorem tC (c:UInt8) (w:World):Calls Tryz.prog 27 #[.int .u8 c.toNat] w fun e w'=>e=.returned (.string (yc c))∧Below w.heap.size w w':=by
 obtain ⟨s,hs⟩:∃s,s=yc c:=⟨_,rfl⟩
 have HS:=Lh (show s=⟨(List.replicate 64 c).toArray⟩ from hs)
 rw [← hs]
 obtain ⟨n,hn⟩:∃n:Nat,n=c.toNat:=⟨_,rfl⟩
 have HN:=Lh hn
 rw [← hn]
 clear hs hn
 obtain ⟨i0,hi,hz0,hz1,hz2⟩:=info_parts m9
 go_enter Tryz.func27,Tryz.ntmps27
 go_wp2_with (at_make;refine wpList_make_full _ rfl (.const (.int .i64 64)) (.const (.int .i64 64)) 114 rfl w.heap.size 5 i0 (.int .u8 0) 1 Tryz.underlying114 hi hz0 hz1 .i64 .i64 _ _ 64 rfl rfl rfl rfl ?b2 ?b3 lz ?_)
 case b2=>rw [hz2];decide
 case b3=>unfold maxLen;decide
 intro w1 hown hgrow
 have HB1:Hid (Below w.heap.size w w1):=(Below.refl _ _).grown hgrow lz (by simp)
 have HR1:=Lh (show ∃f,w1.rowIs w.heap.size 5 64 f from by
  rcases hown.2 with ⟨h,_⟩|⟨g,cap,cur,hv,hg,hh,hc,hm,hz,ht⟩
  · cases h
  · simp only [Value.slice.injEq,Option.some.injEq,Addr.mk.injEq,and_true,true_and] at hv
    obtain ⟨rfl,rfl⟩:=hv
    exact ⟨fun i=>cur[i]!,cur,hh,hz,fun i hi=>by show cur[i]?=some cur[i]!;rw [getElem!_pos cur i (by omega),Array.getElem?_eq_getElem (by omega)]⟩)
 have HZ1:=Lh (show w.heap.size<w1.heap.size from by
  obtain ⟨f,hf⟩:=HR1.out
  exact hf.lt)
 clear hown hgrow
 go_wp2
 go_loopw [4] (fun i wr=>∃(k:Nat) (f:Nat→Value),k≤64∧i=.int .i64 k∧wr.rowIs w.heap.size 5 64 f∧(∀j,j<k→f j=.int .u8 n)∧Below w.heap.size w wr) (fun i _=>64 - (intOf i).toNat)
 case atStart =>
  obtain ⟨f,hf⟩:=HR1.out
  exact ⟨0,f,by omega,rfl,hf,fun j h=>by omega,HB1.out⟩
 case round =>
  obtain ⟨k,f,hk,rfl,hrow,hal,hbel⟩:=hrel
  have HAL:=Lh hal
  have HB:=Lh hbel
  have HRW:=Lh hrow
  clear hal hbel
  by_cases hlt:k<64
  · have m1:decide ((k:Int)<64)=true:=by simp;omega
    have m0:(0:Int)≤(k:Int):=by omega
    have m2:(k:Int)<64:=by omega
    have e0:=hrow.cell (i:=k) hlt
    have f0:=hrow.frozen k
    have HRN:=Lh (hrow.set k (.int .u8 (n:Int)))
    clear hrow
    go_wp2
    go_roundw
    case rel =>
     refine ⟨k+1,_,by omega,by go_num,HRN.out,fun j hj=>?_,HB.out.setCell lz _⟩
     by_cases e:j=k
     · simp [e]
     · simp only [e,if_false];exact HAL.out j (by omega)
    case measure=>simp [intOf];omega
  · obtain rfl:k=64:=by omega
    have m1:decide (((64:Nat):Int)<64)=false:=by decide
    have hown2:=sU hrow (fun j hj=>HAL.out j hj) (by unfold maxLen;omega)
    rw [HN.out,← lj] at hown2
    have hcv:=xt (P:=Tryz.prog) 114 9 5 Tryz.underlying114 Tryz.underlying5 Tryz.underlying9 hown2
    rw [← HS.out] at hcv
    clear hrow hown2
    go_wp2
    go_ret
    exact ⟨rfl,HB.out⟩
set_option maxHeartbeats 1000000 in
set_option maxRecDepth 100000 in
theorem uB (w:World):Calls Tryz.prog 32 #[] w fun e w'=>∃g,e=.returned (.agg #[.int .i64 1,.slice (some ⟨g,0,none⟩) 1 1])∧qw w' w.heap.size w'.heap.size (some ⟨g,0,none⟩) [yc 97]∧Below w.heap.size w w':=by
 obtain ⟨W,hW⟩:∃W,W=w.alloc (.cells #[.int .i64 0,.slice none 0 0] 31):=⟨_,rfl⟩
 have hb:Below w.heap.size w W:=by rw [hW];exact (Below.refl _ _).alloc lz _
 have hr:W.rowIs w.heap.size 31 2 (ju (.int .i64 0) (.slice none 0 0)):=by rw [hW];exact ko w _ _ _
 have HID:=Lh (tC 97 W)
 obtain ⟨s,hs⟩:∃s,s=yc 97:=⟨_,rfl⟩
 rw [← hs] at HID ⊢
 have HB:=Lh hb
 have HR:=Lh hr
 have HW:=Lh hW
 clear hW hb hr hs
 go_enter Tryz.func32,Tryz.ntmps32
 go_upto_region 1 with fail
 rw [← HW.out]
 clear HW
 go_wp2_with fail
 refine HID.out.mono ?_
 clear HID
 rintro r w1 ⟨rfl,hb1⟩
 have hr1:=qj hb1 HR.out HR.out.lt
 have hrX:=hr1.alloc (.cells #[.string s] 9)
 have HRX:=Lh hrX
 have HB1:=Lh (HB.out.trans (hb1.mono HB.out.size))
 have HX:=Lh (heap_alloc_new w1 (.cells #[.string s] 9))
 have HZ:=Lh (show w.heap.size<w1.heap.size from hr1.lt)
 have t0:=hrX.cell (i:=0) (by decide);have t1:=hrX.cell (i:=1) (by decide)
 have s0:=hrX.frozen 0;have s1:=hrX.frozen 1
 simp only [ju] at t0 t1
 clear hr1 hrX hb1
 go_wp2
 refine bodyPost_ret (results_cell_row Tryz.results32 _ _ w.heap.size 31 _ (0,0) _ rfl (zQ (set2 _ _ HRX.out)) Tryz.underlying31 rfl (by kernel_rfl)) rfl ?_
 refine ⟨w1.heap.size,rfl,.inr ⟨_,0,rfl,by have:=HZ.out;omega,by simp [World.setCell],fun i hi=>?_⟩,vS _ _ (HB1.out.alloc HB1.out.size _) lz⟩
 obtain rfl:i=0:=by simp at hi;omega
 rw [World.cell?_of_block (w:=w1.alloc (.cells #[.string s] 9)) (aq _ _ (show w1.heap.size≠w.heap.size by have:=HZ.out;omega))]
 exact qq HX.out rfl
set_option maxHeartbeats 1000000 in
set_option maxRecDepth 100000 in
theorem ye (n p:ByteArray) (last:Bool) (w:World):Calls Tryz.prog 31 #[.string n,.string p,.bool last] w fun e w'=>∃ga gp,e=.returned (.agg #[.string n,.int .i64 1,.slice (some ⟨ga,0,none⟩) 1 1,.bool last,.slice (some ⟨gp,0,none⟩) 1 1,.slice none 0 0])∧qw w' w.heap.size w'.heap.size (some ⟨ga,0,none⟩) [yc 97]∧qw w' w.heap.size w'.heap.size (some ⟨gp,0,none⟩) [p]∧Below w.heap.size w w':=by
 obtain ⟨W,hW⟩:∃W,W=w.alloc (.cells #[.string ⟨#[]⟩,.int .i64 0,.slice none 0 0,.bool false,.slice none 0 0,.slice none 0 0] 41):=⟨_,rfl⟩
 have hb:Below w.heap.size w W:=by rw [hW];exact (Below.refl _ _).alloc lz _
 have hr:W.rowIs w.heap.size 41 6 (qo (.string ⟨#[]⟩) (.int .i64 0) (.slice none 0 0) (.bool false) (.slice none 0 0) (.slice none 0 0)):=by rw [hW];exact z8 w _ _ _ _ _ _ _
 have HWH:=Lh (uB W)
 have HB:=Lh hb
 have HR:=Lh hr
 have HW:=Lh hW
 clear hW hb hr
 go_enter Tryz.func31,Tryz.ntmps31
 go_upto_region 1 with fail
 rw [← HW.out]
 clear HW
 go_wp2_with fail
 refine HWH.out.mono ?_
 clear HWH
 rintro r w1 ⟨ga,rfl,hs1,hb1⟩
 have hr1:=qj hb1 HR.out HR.out.lt
 have hrX:=hr1.alloc (.cells #[.string p] 9)
 have HRX:=Lh hrX
 have HB1:=Lh (HB.out.trans (hb1.mono HB.out.size))
 have HX:=Lh (heap_alloc_new w1 (.cells #[.string p] 9))
 have HZ:=Lh (show w.heap.size<W.heap.size∧W.heap.size≤w1.heap.size from ⟨HR.out.lt,hb1.size⟩)
 have HS1:=Lh (hs1.below (B:=w1.heap.size) ((Below.refl _ _).alloc lz (.cells #[.string p] 9)) lz lz (show w1.heap.size≤(w1.alloc (.cells #[.string p] 9)).heap.size by simp))
 obtain ⟨t0,t1,t2,t3,t4⟩:=rc5 hrX;have t5:=hrX.cell (i:=5) (by decide)
 obtain ⟨s0,s1,s2,s3,s4⟩:=rf5 hrX;have s5:=hrX.frozen 5
 simp only [qo] at t0 t1 t2 t3 t4 t5
 clear hr1 hrX hb1 hs1
 go_wp2
 refine bodyPost_ret (results_cell_row Tryz.results31 _ _ w.heap.size 41 _ (0,0) _ rfl (zy (wu _ _ _ _ _ _ HRX.out)) Tryz.underlying41 rfl (by kernel_rfl)) rfl ?_
 refine ⟨ga,w1.heap.size,rfl,?_,?_,xn _ _ _ _ _ _ (HB1.out.alloc HB1.out.size _) lz⟩
 · exact HS1.out.carry (by have:=HZ.out;omega) (Nat.le_of_eq wi.symm) (fun b h1 h2=>gi _ _ _ _ _ _ (by have:=HZ.out;omega))
 · refine .inr ⟨_,0,rfl,by have:=HZ.out;omega,by simp [World.setCell],fun i hi=>?_⟩
   obtain rfl:i=0:=by simp at hi;omega
   rw [World.cell?_of_block (w:=w1.alloc (.cells #[.string p] 9)) (gi _ _ _ _ _ _ (show w1.heap.size≠w.heap.size by have:=HZ.out;omega))]
   exact qq HX.out rfl
set_option maxHeartbeats 400000 in
theorem sM (k n:Nat) (w:World) (hk:k≤32) (hn:n<4294967296) :
 Calls Tryz.prog 173 #[.int .i64 k,.int .u32 n] w fun e w'=>e=.returned (.bool (decide (n<2 ^ k)))∧w'=w:=by
 have c1:(k:Int)≤64:=by omega
 have HV:=Lh (show ((n:Int) / 2 ^ k == 0)=decide (n<2 ^ k) from by
  have h0:=Nat.two_pow_pos k
  have e:((n:Int) / 2 ^ k)=((n / 2 ^ k:Nat):Int):=by push_cast;rfl
  rw [e]
  by_cases h:n<2 ^ k
  · rw [decide_eq_true h,Nat.div_eq_of_lt h];rfl
  · rw [decide_eq_false h,beq_eq_false_iff_ne]
    have:0<n / 2 ^ k:=Nat.div_pos (by omega) h0
    omega)
 go_enter Tryz.func173,Tryz.ntmps173
 go_wp2
 go_ret
 exact ⟨qz HV.out,rfl⟩
def nt (count n q:Nat):Nat:=(q6 (n / 16 ^ (count - 1 - q) % 16)).toNat
theorem uP:∀(count n q:Nat) (h:q<count),(yl count n)[q]'(by rw [xT];exact h)=q6 (n / 16 ^ (count - 1 - q) % 16)
 | 0,_,_,h=>absurd h (by omega)
 | c+1,n,q,h=>by
  simp only [yl]
  by_cases e:q<c
  · rw [List.getElem_append_left (by rw [xT];exact e),uP c (n / 16) q e,Nat.div_div_eq_div_mul,show c+1 - 1 - q=(c - 1 - q)+1 from by omega,Nat.pow_succ,Nat.mul_comm 16]
  · obtain rfl:q=c:=by omega
    rw [List.getElem_append_right (by rw [xT];omega)]
    simp [xT]
abbrev c8:ByteArray:=⟨#[48,49,50,51,52,53,54,55,56,57,97,98,99,100,101,102]⟩
theorem cg (x:Nat) (h:x<16):(c8[x]'h)=q6 x:=by
 have:∀m:Fin 16,(c8[m.val]'m.isLt)=q6 m.val:=by decide
 exact this ⟨x,h⟩
set_option maxHeartbeats 2000000 in
set_option maxRecDepth 100000 in
theorem nQ (n count:Nat) (w:World) (hn:n<4294967296) (hc:count≤8) :
 Calls Tryz.prog 174 #[.int .u32 n,.int .i64 count] w fun e w'=>e=.returned (.string ⟨(yl count n).toArray⟩)∧Below w.heap.size w w':=by
 obtain ⟨s,hs⟩:∃s:ByteArray,s=⟨(yl count n).toArray⟩:=⟨_,rfl⟩
 have HS:=Lh (show s=⟨(yl count n).toArray⟩ from hs)
 rw [← hs]
 clear hs
 obtain ⟨W,hW⟩:∃W,W=w.alloc (.cells #[.int .u8 0,.int .u8 0,.int .u8 0,.int .u8 0,.int .u8 0,.int .u8 0,.int .u8 0,.int .u8 0] 225):=⟨_,rfl⟩
 have HB:=Lh (show Below w.heap.size w W by rw [hW];exact (Below.refl _ _).alloc lz _)
 have HR:=Lh (show ∃f,W.rowIs w.heap.size 225 8 f from ⟨fun i=>(#[Value.int .u8 0,.int .u8 0,.int .u8 0,.int .u8 0,.int .u8 0,.int .u8 0,.int .u8 0,.int .u8 0]:Array Value)[i]!,by rw [hW];exact xR rfl⟩)
 have HW:=Lh hW
 clear hW
 go_enter Tryz.func174,Tryz.ntmps174
 go_upto_region 2 with fail
 rw [← HW.out]
 clear HW
 go_wp2
 go_loopw [0,6] (fun nv iv wr=>∃(j m:Nat) (f:Nat→Value),j≤count∧((j=0∧iv=.int .i64 (-1))∨(0<j∧iv=.int .i64 ((j - 1:Nat):Int)))∧nv=.int .u32 m∧m<4294967296∧(m=n / 16 ^ (count - j))∧wr.rowIs w.heap.size 225 8 f∧(∀q,j≤q→q<count→f q=.int .u8 (nt count n q))∧Below w.heap.size w wr) (fun _ iv _=>(intOf iv+1).toNat)
 case atStart =>
  obtain ⟨f,hf⟩:=HR.out
  refine ⟨count,n,f,Nat.le_refl _,?_,rfl,hn,by simp,hf,fun q h1 h2=>by omega,HB.out⟩
  by_cases h0:count=0
  · subst h0;exact .inl ⟨rfl,by first|rfl|go_num⟩
  · exact .inr ⟨by omega,by congr 1;omega⟩
 case round =>
  obtain ⟨j,m,f,hj,hiv,rfl,hm,hmn,hrow,hal,hbel⟩:=hrel
  rcases hiv with ⟨rfl,rfl⟩|⟨h0,rfl⟩
  · have HAL:=Lh hal
    have HBL:=Lh hbel
    have m1:decide ((0:Int)≤-1)=false:=by decide
    have hcv:=run_convert_bytes_back wr 114 9 5 ⟨w.heap.size,0,none⟩ 8 (yl count n) Tryz.underlying114 Tryz.underlying5 Tryz.underlying9 (fun q hq=>by
     rw [xT] at hq
     rw [uP count n q hq]
     have e:(⟨w.heap.size,0,none⟩:Addr).add q=⟨w.heap.size,q,none⟩:=by unfold Addr.add;split <;> simp_all
     rw [e,hrow.cell (by omega),HAL.out q (Nat.zero_le _) hq]
     rfl)
    rw [xT] at hcv
    rw [← HS.out] at hcv
    have hA:Tryz.prog.arrayLen 225=8:=by kernel_rfl
    have g0:(0:Int)≤(count:Int):=by omega
    have g1:(count:Int)≤8:=by omega
    have g2:(count:Int)≤((Tryz.prog.arrayLen 225:Nat):Int):=by rw [hA];omega
    clear hrow hal hbel hmn
    go_wp2
    go_ret
    exact ⟨rfl,HBL.out⟩
  · obtain ⟨k,rfl⟩:∃k,j=k+1:=⟨j - 1,by omega⟩
    rw [Nat.add_sub_cancel]
    have HAL:=Lh hal
    have HBL:=Lh hbel
    have HMN:=Lh hmn
    have HRW:=Lh hrow
    have m1:decide ((0:Int)≤(k:Int))=true:=by rw [decide_eq_true_eq];omega
    have m0:(0:Int)≤(k:Int):=by omega
    have m2:(k:Int)<8:=by omega
    have a1:bits BinOp.and IntKind.u32 (m:Int) 15=(m:Int) % 16:=by
     rw [u32_and _ _ (by omega) (by omega) (by omega) (by omega)];show ((m &&& 15:Nat):Int)=_;rw [nat_mask4];omega
    have b4:(0:Int)≤(m:Int) % 16:=by omega
    have b5:(m:Int) % 16<16:=by omega
    have b6:((m:Int) % 16).toNat=m % 16:=by omega
    have e0:=hrow.cell (i:=k) (by omega)
    have f0:=hrow.frozen k
    clear hal hbel hmn hrow
    go_wp2
    go_roundw
    case rel =>
     refine ⟨k,m / 16,_,by omega,?_,by push_cast;rfl,by omega,?_,HRW.out.set k _,fun q h1 h2=>?_,HBL.out.setCell lz _⟩
     · rcases Nat.eq_zero_or_pos k with h|h
       · subst h;exact .inl ⟨rfl,rfl⟩
       · exact .inr ⟨h,by congr 1;omega⟩
     · rw [HMN.out,Nat.div_div_eq_div_mul,← Nat.pow_succ]
       congr 2
       omega
     · by_cases e:q=k
       · subst e
         simp only [if_true]
         have hd:=cg (m % 16) (by omega)
         unfold nt
         rw [show count - 1 - q=count - (q+1) from by omega,← HMN.out,← hd]
       · simp only [e,if_false]
         exact HAL.out q (by omega) h2
    case measure=>simp [intOf]
def yQ (l:List UInt8):Nat→Nat
 | 0=>0
 | k+1=>yQ l k * 256+(l.getD k 0).toNat
theorem lw (path:ByteArray):yQ (za path.data.toList) 4=mL path:=by
 simp only [yQ,mL]
 omega
theorem dq (l:List UInt8):∀k,yQ l k<256 ^ k
 | 0=>by simp [yQ]
 | k+1=>by
  have:=dq l k
  have h2:=(l.getD k 0).toNat_lt
  rw [yQ,Nat.pow_succ]
  omega
theorem aR (a b:Nat) (h:b<256):a * 256 ||| b=a * 256+b:=by
 have:=Nat.two_pow_add_eq_or_of_lt (i:=8) h a
 rw [Nat.mul_comm a 256]
 exact this.symm
set_option maxHeartbeats 2000000 in
set_option maxRecDepth 100000 in
theorem sC (path:ByteArray) (k:Nat) (w:World) (h1:1≤k) (h2:k≤32) (hp:path.size≤4294967296) (hT:Tabs w) :
 Calls Tryz.prog 100 #[.string path,.int .i64 k] w fun e w'=>e=.returned (.tuple #[.int .u32 (wB path k:Nat),.int .i64 0])∧Below w.heap.size w w':=by
 have HM:=Lh (fun w=>(cL k w h1 h2).mono fun e w' h=>show e=.returned (.bool true)∧w=w' from ⟨h.1,h.2.symm⟩)
 have HS:=Lh (cA path w (by omega) hT.init hT.rounds hT.l2)
 obtain ⟨S,hS⟩:∃S:ByteArray,S=⟨(za path.data.toList).toArray⟩:=⟨_,rfl⟩
 rw [← hS] at HS
 have hsz:S.size=32:=by rw [hS];show (za path.data.toList).toArray.size=32;rw [List.size_toArray,xM]
 have HSZ:=Lh hsz
 have HG:=Lh (show ∀j (h:j<S.size),S[j]=(za path.data.toList).getD j 0 from fun j h=>by
  subst hS
  rw [List.getD_eq_getElem?_getD,List.getElem?_eq_getElem (by rw [xM];rw [hsz] at h;exact h)]
  rfl)
 have HE:=Lh (lw path)
 have HL:=Lh (dq (za path.data.toList))
 have HBN:=Lh (show wB path k=mL path / 2 ^ (32 - k) from rfl)
 obtain ⟨L,hL⟩:∃L,L=za path.data.toList:=⟨_,rfl⟩
 rw [← hL] at HG HE HL
 obtain ⟨R,hR⟩:∃R,R=wB path k:=⟨_,rfl⟩
 rw [← hR] at HBN ⊢
 clear hS hsz hL hT hR
 go_enter Tryz.func100,Tryz.ntmps100
 go_wp2_with (first|(go_at_call 170;refine (HM.out _).mono ?_;rintro e w1 ⟨rfl,rfl⟩)|(go_at_call 172;refine HS.out.mono ?_;rintro e w1 ⟨rfl,hb⟩;have HB:=Lh hb;clear hb))
 go_loopw [7,8] (fun nv iv wr=>∃j:Nat,j≤4∧iv=.int .i64 j∧nv=.int .u32 (yQ L j:Nat)∧Below w.heap.size w wr) (fun _ iv _=>4 - (intOf iv).toNat)
 case atStart=>exact ⟨0,by omega,rfl,rfl,HB.out⟩
 case round =>
  obtain ⟨j,hj,rfl,rfl,hbel⟩:=hrel
  have HBL:=Lh hbel
  clear hbel
  by_cases hlt:j<4
  · have hjs:j<S.size:=by rw [HSZ.out];omega
    have m0:(0:Int)≤(j:Int):=by omega
    have m1:decide ((j:Int)<4)=true:=by rw [decide_eq_true_eq];omega
    have m2:(j:Int)<(S.size:Int):=by omega
    have m3:decide ((j:Int)<(S.size:Int))=true:=by rw [decide_eq_true_eq];omega
    have hc:S[j].toNat<256:=S[j].toNat_lt
    have hpx:yQ L j<16777216:=Nat.lt_of_lt_of_le (HL.out j) (by
     have:256 ^ j≤256 ^ 3:=Nat.pow_le_pow_right (by decide) (by omega)
     omega)
    have HNX:=Lh (show yQ L (j+1)=yQ L j * 256+S[j].toNat from by rw [yQ,HG.out j hjs])
    obtain ⟨c,hcc⟩:∃c,c=S[j].toNat:=⟨_,rfl⟩
    have hcc2:(S[j].toNat:Int)=(c:Int):=by rw [hcc]
    rw [← hcc] at hc HNX
    obtain ⟨p,hpp⟩:∃p,p=yQ L j:=⟨_,rfl⟩
    rw [← hpp] at hpx HNX ⊢
    clear hcc hpp
    have a0:(p:Int) * 256 % 4294967296=(p:Int) * 256:=by omega
    have a1:bits BinOp.or IntKind.u32 ((p:Int) * 256) (c:Int)=((p * 256+c:Nat):Int):=by
     have:=u32_or_nat (p * 256) c (by omega) (by omega)
     rw [aR p c hc] at this
     push_cast at this ⊢
     exact this
    go_wp2
    go_roundw
    case rel=>exact ⟨j+1,by omega,by go_num,by rw [HNX.out];push_cast;rfl,HBL.out⟩
    case measure=>simp [intOf];omega
  · obtain rfl:j=4:=by omega
    have m1:decide (((4:Nat):Int)<4)=false:=by decide
    obtain ⟨p,hpp⟩:∃p,p=yQ L 4:=⟨_,rfl⟩
    have hps:p=mL path:=hpp.trans HE.out
    rw [← hpp]
    have g0:(0:Int)≤32 - (k:Int):=by omega
    have g1:(32:Int) - (k:Int)≤32:=by omega
    have g2:((32:Int) - (k:Int)).toNat=32 - k:=by omega
    have HR:=Lh (show ((R:Nat):Int)=(p:Int) / 2 ^ (32 - k) from by rw [HBN.out,← hps];push_cast;rfl)
    clear hpp hps
    go_wp2
    go_ret2
    exact ⟨by rw [HR.out];rfl,HBL.out⟩
set_option maxHeartbeats 2000000 in
set_option maxRecDepth 100000 in
theorem nZ (t:Int) (k n:Nat) (ids:List ByteArray) (pre:ByteArray) (ia:Option Addr) (ic:Nat) (w:World) (hp:pre.size≤4294967296) (hw:zH ⟨(k:Int),pre,⟨t,ids⟩⟩=0) (h1:1≤k) (h2:k≤32) (hn:n<2 ^ k) :
 Calls Tryz.prog 101 #[.agg #[.int .i64 t,.slice ia ids.length ic,.int .i64 k,.string pre],.int .u32 n] w fun e w'=>e=.returned (.tuple #[.string (xZ pre k n),.int .i64 0])∧Below w.heap.size w w':=by
 have hn32:n<4294967296:=Nat.lt_of_lt_of_le hn (Nat.le_trans (Nat.pow_le_pow_right (by decide) h2) (by decide))
 obtain ⟨W,hW⟩:∃W,W=w.alloc (.cells #[.int .i64 t,.slice ia ids.length ic,.int .i64 k,.string pre] 33):=⟨_,rfl⟩
 have hbw:Below w.heap.size w W:=by rw [hW];exact (Below.refl _ _).alloc lz _
 have hx:W.heap[w.heap.size]?=some (.cells #[.int .i64 t,.slice ia ids.length ic,.int .i64 k,.string pre] 33 (0,0)):=by rw [hW];exact heap_alloc_new w _
 have HB:=Lh hbw
 have HC:=Lh (show ∀w':World,Below W.heap.size W w'→w'.cell? ⟨w.heap.size,0,none⟩=some (.int .i64 t)∧w'.cell? ⟨w.heap.size,1,none⟩=some (.slice ia ids.length ic)∧w'.cell? ⟨w.heap.size,2,none⟩=some (.int .i64 k)∧w'.cell? ⟨w.heap.size,3,none⟩=some (.string pre) from fun w' h=>by
  have y:=(h.block _ (qx hx)).trans hx
  exact ⟨qq y rfl,qq y rfl,qq y rfl,qq y rfl⟩)
 have HWR:=Lh (yr t k ids pre ia ic W hp (by omega))
 rw [hw] at HWR
 have HHS:=Lh (fun w=>(sM k n w h2 hn32).mono fun e w' h=>show e=.returned (.bool true)∧w=w' from ⟨by rw [h.1,decide_eq_true hn],h.2.symm⟩)
 have HWD:=Lh (fun w=>(pW k w h2).mono fun e w' h=>show e=.returned (.int .i64 ((bw k:Nat):Int))∧Below w.heap.size w w' from ⟨h.1,by rw [h.2];exact Below.refl _ _⟩)
 have hw8:bw k≤8:=by unfold bw;omega
 have HTX:=Lh (fun w=>nQ n (bw k) w hn32 hw8)
 obtain ⟨wd,hwd⟩:∃wd,wd=bw k:=⟨_,rfl⟩
 have HRO:=Lh (show xZ pre k n=pre ++ ay ++ ⟨(yl wd n).toArray⟩ from by rw [hwd];rfl)
 rw [← hwd] at HWD HTX
 obtain ⟨T,hT⟩:∃T:ByteArray,T=⟨(yl wd n).toArray⟩:=⟨_,rfl⟩
 rw [← hT] at HTX HRO
 have hTs:T.size≤8:=by rw [hT];show (yl wd n).toArray.size≤8;rw [List.size_toArray,xT,hwd];exact hw8
 have s1:¬9223372036854775807<pre.size+1:=by omega
 have s2:¬9223372036854775807<pre.size+1+T.size:=by omega
 obtain ⟨R,hR⟩:∃R,R=xZ pre k n:=⟨_,rfl⟩
 rw [← hR] at HRO ⊢
 have HW:=Lh hW
 clear hW hx hbw hw hn hwd hT hR
 obtain ⟨q0,q1,q2,q3⟩:=HC.out W (Below.refl _ _)
 go_enter Tryz.func101,Tryz.ntmps101
 go_upto_region 1 with fail
 rw [← HW.out]
 clear HW
 go_wp2_with fail
 refine HWR.out.mono ?_
 rintro e w3 ⟨rfl,hb⟩
 have HB3:=Lh hb
 obtain ⟨z0,z1,z2,z3⟩:=HC.out w3 hb
 clear hb q0 q1 q2 q3 HWR
 go_upto_region 6 with (go_at_call 173;refine (HHS.out _).mono ?_;rintro e w4 ⟨rfl,rfl⟩)
 clear z0 z1 z2 z3
 obtain ⟨V,hV⟩:∃V:List MP,V=[.con (.pointer (some ⟨w.heap.size,3,none⟩)),.con (.string pre),.con (.string (pre ++ ⟨#[45]⟩)),.con (.int .u32 (n:Int)),.con (.pointer (some ⟨w.heap.size,2,none⟩)),.con (.int .i64 (k:Int)),.con (.int .i64 (wd:Int)),.con (.string T),.con (.string (pre ++ ⟨#[45]⟩ ++ T))]:=⟨_,rfl⟩
 have HV:=Lh hV
 clear hV
 refine zf 9 (fun d a' w'=>∃x17 x18 x19 x20 x21 x22 x23 x24 x25,a'=⟨#[.agg #[.int .i64 t,.slice ia ids.length ic,.int .i64 (k:Int),.string pre],.int .u32 (n:Int),.pointer (some ⟨w.heap.size,0,none⟩),undef,.string ⟨#[]⟩,.int .i64 0,.int .i64 0,.agg #[.int .i64 t,.slice ia ids.length ic,.int .i64 (k:Int),.string pre],.int .i64 0,.int .i64 0,.bool false,undef,.pointer (some ⟨w.heap.size,2,none⟩),.int .i64 (k:Int),.int .u32 (n:Int),.bool true,.bool false,x17,x18,x19,x20,x21,x22,x23,x24,x25],[]⟩∧zN w3 V d w' [x17,x18,x19,x20,x21,x22,x23,x24,x25]) (by kernel_rfl) (by kernel_rfl) ?first ?step ?last
 case first=>exact ⟨_,_,_,_,_,_,_,_,_,rfl,zN.first _ _ _ (by rw [HV.out];rfl)⟩
 case step =>
  rintro d a' w' ⟨x17,x18,x19,x20,x21,x22,x23,x24,x25,rfl,h⟩ q hq hn hw
  rcases q with _|_|_|_|_|_|_|_|_|q
  · refine wpOp_step rfl fun K hK=>?_
    go_simp
    exact hK _ _ ⟨_,x18,x19,x20,x21,x22,x23,x24,x25,rfl,h.sameC 0 _ HV rfl⟩
  · obtain rfl:=h.con 0 (hw _ rfl ⟨0,.data⟩ (by simp) rfl) HV rfl rfl
    obtain ⟨q0,q1,q2,q3⟩:=HC.out w' (HB3.out.trans (h.1.mono HB3.out.size))
    refine wpOp_step rfl fun K hK=>?_
    go_simp
    exact hK _ _ ⟨_,_,x19,x20,x21,x22,x23,x24,x25,rfl,h.sameC 1 _ HV rfl⟩
  · obtain rfl:=h.con 1 (hw _ rfl ⟨1,.data⟩ (by simp) rfl) HV rfl rfl
    refine wpOp_step rfl fun K hK=>?_
    go_simp
    exact hK _ _ ⟨x17,_,_,x20,x21,x22,x23,x24,x25,rfl,h.sameC 2 _ HV rfl⟩
  · refine wpOp_step rfl fun K hK=>?_
    go_simp
    exact hK _ _ ⟨x17,x18,x19,_,x21,x22,x23,x24,x25,rfl,h.sameC 3 _ HV rfl⟩
  · refine wpOp_step rfl fun K hK=>?_
    go_simp
    exact hK _ _ ⟨x17,x18,x19,x20,_,x22,x23,x24,x25,rfl,h.sameC 4 _ HV rfl⟩
  · obtain rfl:=h.con 4 (hw _ rfl ⟨4,.data⟩ (by simp) rfl) HV rfl rfl
    obtain ⟨q0,q1,q2,q3⟩:=HC.out w' (HB3.out.trans (h.1.mono HB3.out.size))
    refine wpOp_step rfl fun K hK=>?_
    go_simp
    exact hK _ _ ⟨x17,x18,x19,x20,_,_,x23,x24,x25,rfl,h.sameC 5 _ HV rfl⟩
  · obtain rfl:=h.con 5 (hw _ rfl ⟨5,.data⟩ (by simp) rfl) HV rfl rfl
    obtain ⟨q0,q1,q2,q3⟩:=HC.out w' (HB3.out.trans (h.1.mono HB3.out.size))
    refine wpOp_step rfl fun K hK=>?_
    go_simp
    refine (HWD.out w').mono ?_
    rintro e w2 ⟨rfl,hb2⟩
    exact hK _ _ ⟨x17,x18,x19,x20,x21,_,_,x24,x25,rfl,h.didC hb2 6 _ HV rfl⟩
  · obtain rfl:=h.con 3 (hw _ rfl ⟨3,.data⟩ (by simp) rfl) HV rfl rfl
    obtain rfl:=h.con 6 (hw _ rfl ⟨6,.data⟩ (by simp) rfl) HV rfl rfl
    obtain ⟨q0,q1,q2,q3⟩:=HC.out w' (HB3.out.trans (h.1.mono HB3.out.size))
    refine wpOp_step rfl fun K hK=>?_
    go_simp
    refine (HTX.out w').mono ?_
    rintro e w2 ⟨rfl,hb2⟩
    exact hK _ _ ⟨x17,x18,x19,_,x21,x22,_,_,x25,rfl,h.didC hb2 7 _ HV rfl⟩
  · obtain rfl:=h.con 2 (hw _ rfl ⟨2,.data⟩ (by simp) rfl) HV rfl rfl
    obtain rfl:=h.con 7 (hw _ rfl ⟨7,.data⟩ (by simp) rfl) HV rfl rfl
    refine wpOp_step rfl fun K hK=>?_
    go_simp
    exact hK _ _ ⟨x17,x18,_,x20,x21,x22,x23,_,_,rfl,h.sameC 8 _ HV rfl⟩
  · omega
 case last =>
  rintro d a' w' hall ⟨x17,x18,x19,x20,x21,x22,x23,x24,x25,rfl,h⟩
  have hle:=h.1
  obtain rfl:=h.con 8 (hall _ (by omega)) HV rfl rfl
  have HLE:=Lh hle
  clear h hall hle HV
  have hb:=HLE.out
  have HBF:=Lh (HB.out.trans ((HB3.out.trans (hb.mono HB3.out.size)).mono HB.out.size))
  clear hb
  go_wp2
  go_ret2
  exact ⟨by rw [HRO.out];rfl,HBF.out⟩
theorem cf {bits t:Int} {pre:ByteArray} {ids:List ByteArray} (h:zH ⟨bits,pre,⟨t,ids⟩⟩=0):∃k:Nat,bits=(k:Int)∧1≤k∧k≤32:=by
 unfold zH at h
 split at h
 · cases h
 · rename_i hn
   dsimp only at hn
   exact ⟨bits.toNat,by omega,by omega,by omega⟩
set_option maxHeartbeats 2000000 in
set_option maxRecDepth 100000 in
theorem uF (t:Int) (k:Nat) (ids:List ByteArray) (pre path:ByteArray) (ia:Option Addr) (ic:Nat) (w:World) (hp:pre.size≤4294967296) (hq:path.size≤4294967296) (hw:zH ⟨(k:Int),pre,⟨t,ids⟩⟩=0) (h1:1≤k) (h2:k≤32) (hT:Tabs w) :
 Calls Tryz.prog 43 #[.agg #[.int .i64 t,.slice ia ids.length ic,.int .i64 k,.string pre],.string path] w fun e w'=>e=.returned (.tuple #[.string (xZ pre k (wB path k)),.int .i64 0])∧Below w.heap.size w w':=by
 obtain ⟨W,hW⟩:∃W,W=w.alloc (.cells #[.int .i64 t,.slice ia ids.length ic,.int .i64 k,.string pre] 33):=⟨_,rfl⟩
 have hbw:Below w.heap.size w W:=by rw [hW];exact (Below.refl _ _).alloc lz _
 have hx:W.heap[w.heap.size]?=some (.cells #[.int .i64 t,.slice ia ids.length ic,.int .i64 k,.string pre] 33 (0,0)):=by rw [hW];exact heap_alloc_new w _
 have HB:=Lh hbw
 have HC:=Lh (show ∀w':World,Below W.heap.size W w'→w'.cell? ⟨w.heap.size,0,none⟩=some (.int .i64 t)∧w'.cell? ⟨w.heap.size,1,none⟩=some (.slice ia ids.length ic)∧w'.cell? ⟨w.heap.size,2,none⟩=some (.int .i64 k)∧w'.cell? ⟨w.heap.size,3,none⟩=some (.string pre) from fun w' h=>by
  have y:=(h.block _ (qx hx)).trans hx
  exact ⟨qq y rfl,qq y rfl,qq y rfl,qq y rfl⟩)
 have HWR:=Lh (yr t k ids pre ia ic W hp (by omega))
 rw [hw] at HWR
 have HBI:=Lh (fun (w':World) (h:Below w.heap.size w w')=>sC path k w' h1 h2 hq (hT.below h))
 have HRL:=Lh (fun w'=>nZ t k (wB path k) ids pre ia ic w' hp hw h1 h2 (se h2))
 obtain ⟨n,hn⟩:∃n,n=wB path k:=⟨_,rfl⟩
 rw [← hn] at HBI HRL ⊢
 obtain ⟨R,hR⟩:∃R,R=xZ pre k n:=⟨_,rfl⟩
 rw [← hR] at HRL ⊢
 have HW:=Lh hW
 clear hW hx hbw hw hn hR hT
 obtain ⟨q0,q1,q2,q3⟩:=HC.out W (Below.refl _ _)
 go_enter Tryz.func43,Tryz.ntmps43
 go_upto_region 1 with fail
 rw [← HW.out]
 clear HW
 go_wp2_with fail
 refine HWR.out.mono ?_
 rintro e w3 ⟨rfl,hb⟩
 have HB3:=Lh hb
 obtain ⟨z0,z1,z2,z3⟩:=HC.out w3 hb
 clear hb q0 q1 q2 q3 HWR
 go_wp2_with fail
 refine (HBI.out _ (HB.out.trans (HB3.out.mono HB.out.size))).mono ?_
 clear z0 z1 z2 z3
 rintro e w4 ⟨rfl,hb⟩
 have HB4:=Lh (HB3.out.trans (hb.mono HB3.out.size))
 clear hb HBI
 obtain ⟨z0,z1,z2,z3⟩:=HC.out w4 HB4.out
 go_wp2_with fail
 refine (HRL.out _).mono ?_
 clear z0 z1 z2 z3
 rintro e w5 ⟨rfl,hb⟩
 have HB5:=Lh (HB.out.trans ((HB4.out.trans (hb.mono HB4.out.size)).mono HB.out.size))
 clear hb
 go_wp2
 go_ret2
 exact ⟨rfl,HB5.out⟩
end Go.Proofs.YthgembbgcbaghaaGreatDoor
