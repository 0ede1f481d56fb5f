/- What the cards of layer 22 lean on: the laid tables, a world for the witness, the last step of a row; roots that came in, opened. -/
import Derived.Test.YtnlgmcapbbgelaaGreatDoorRx27
import Derived.Maps.Own
import Derived.Test.YtnlgmcapbbgelaaGreatDoorRx22
import Derived.Test.YtnlgmcapbbgelaaGreatDoorRx08
import Derived.Test.YtnlgmcapbbgelaaGreatDoorCards
import Derived.Test.YtnlgmcapbbgelaaGreatDoorTie
import Derived.Test.YtnlgmcapbbgelaaGreatDoorRx06
import Derived.Deep.DeepHandedRow
import Derived.Lib.LaidTab
import Derived.ChangeMaps5

namespace Go.Proofs.YtnlgmcapbbgelaaGreatDoor
open Go.RowKit Go.Maps
def cK (D:DataW Unit) (l:List ByteArray):Prop:=∀s:ByteArray,D.atKey (.string s.data.toList) (.lit (.int .i64 0))=.lit (.int .i64 (if xt l s then 1 else 0))
theorem rQ:cK (.map []) []:=fun _=>rfl
theorem rZ {D:DataW Unit} {l:List ByteArray} {x:ByteArray} (h:cK D l) (hD:IsMap D):cK (D.put (.string x.data.toList) (.lit (.int .i64 1))) (l ++ [x]):=fun s=>by
 by_cases e:s=x
 · subst e
   rw [atKey_put_same hD (by simp [WideAt.IsKeyLit])]
   rw [if_pos ((jS _ _).2 (by simp))]
 · rw [atKey_put_other (fun e'=>e (by
    have e2:s.data.toList=x.data.toList:=by injection e'
    exact wR (by rw [ByteArray.toList_eq,ByteArray.toList_eq];exact e2))),h s]
   have:xt (l ++ [x]) s=xt l s:=by
    rw [Bool.eq_iff_iff,jS,jS]
    simp [e]
   rw [this]
end Go.Proofs.YtnlgmcapbbgelaaGreatDoor

namespace Go.Proofs.YtnlgmcapbbgelaaGreatDoor
open Go.RowKit Go.WideMaps Go.Maps
theorem uU:Keyed Tryz.prog 9:=string_keyed Tryz.underlying9
theorem uM (l:List ByteArray) (k:Nat) (h:k<l.length):zG (l.take k) (l.drop k)=if yQ l[k] then (if xt (l.take k) l[k] then 7 else zG (l.take (k+1)) (l.drop (k+1))) else 3:=by
 rw [List.drop_eq_getElem_cons h,zG,List.take_succ_eq_append_getElem h]
set_option maxHeartbeats 1000000 in
set_option maxRecDepth 100000 in
theorem yq (l:List ByteArray) (a:Option Addr) (c:Nat) (w:World) (hS:qk w 0 w.heap.size a l) (hl:l.length≤1000) (hs:∀s ∈ l,s.size≤4294967296) :
 Calls Tryz.prog 71 #[.slice a l.length c] w fun e w'=>e=.returned (.int .i64 (zG [] l))∧Below w.heap.size w w':=by
 have HS:=Lh hS
 have HZ:=Lh hs
 clear hS hs
 have hmm:=@run_makeMap Tryz.prog
 go_enter Tryz.func71,Tryz.ntmps71
 go_wp2
 go_loopw [5,9] (fun _ i wr=>∃(k:Nat) (D:DataW Unit),k≤l.length∧i=.int .i64 k∧zG [] l=zG (l.take k) (l.drop k)∧cK D (l.take k)∧wr.ownsMap Tryz.prog 9 (plainElem (H:=Unit) Tryz.prog 3) w.heap.size k D∧Below w.heap.size w wr) (fun _ i _=>l.length - (intOf i).toNat)
 case atStart=>exact ⟨0,.map [],by omega,rfl,rfl,rQ,World.ownsMap_made _ _ _ _,(Below.refl _ _).alloc lz _⟩
 case round =>
  obtain ⟨k,D,hk,rfl,hid,hD,hown,hbel⟩:=hrel
  have HID:=Lh hid
  have HD:=Lh hD
  have HB:=Lh hbel
  clear hid hD
  by_cases hlt:k<l.length
  · obtain ⟨b,off,ha,_,hb,e0⟩:=(HS.out.below hbel lz lz hbel.size).at k hlt
    subst ha
    have HST:=Lh (uM l k hlt)
    have hsz:=HZ.out l[k] (List.getElem_mem hlt)
    have HSN:=Lh (rZ (x:=l[k]) HD.out (hown.isMap))
    have HSE:=Lh (HD.out l[k])
    have htk:l.take (k+1)=l.take k ++ [l[k]]:=List.take_succ_eq_append_getElem hlt
    have HTK:=Lh htk
    have HI:=Lh (su l[k] wr (by omega))
    obtain ⟨x,hx⟩:∃x,x=l[k]:=⟨_,rfl⟩
    rw [← hx] at e0 HST hsz HSN HSE HTK HI
    have hkey:Go.keyOf Tryz.prog 9 (.string x)=some (.string x.data.toList):=keyOf_string_mk Tryz.underlying9 (by unfold maxLen;omega)
    obtain ⟨hb64,hhb⟩:∃q,q=jz x.data.toList:=⟨_,rfl⟩
    rw [← hhb] at HI
    have HX:=Lh (show yQ x=(decide (x.size=64) && hb64) by unfold yQ;rw [hhb])
    clear hx hbel hhb htk
    obtain ⟨sn,hsn⟩:∃sn,sn=xt (l.take k) x:=⟨_,rfl⟩
    rw [← hsn] at HST HSE
    clear hsn
    have m0:(k:Int)<(l.length:Int):=by omega
    by_cases h64:x.size=64
    · have hd:((x.size:Int) != 64)=false:=by simp;omega
      rw [decide_eq_true h64,Bool.true_and] at HX
      cases hb64
      · clear h64
        go_wp2_with fail
        refine HI.out.mono ?_
        rintro e w1 ⟨rfl,rfl⟩
        go_wp2
        go_ret
        exact ⟨zu (by rw [HID.out,HST.out,HX.out];rfl),HB.out⟩
      · clear h64
        have HHX:=Lh (show yQ x=true from HX.out)
        obtain ⟨cnt,hrun,hat,_⟩:=hown.lookup_int uU Tryz.underlying124 Tryz.underlying3 (k6 _) hkey
        rw [HSE.out] at hat
        have HCN:=Lh (show cnt=if sn=true then 1 else 0 by
         simp only [DataW.lit.injEq,Lit.int.injEq,true_and] at hat;exact hat.symm)
        clear hat
        cases sn
        · obtain rfl:cnt=0:=HCN.out
          have HO:=Lh hown
          clear hown
          go_wp2_with (first|(go_at_call 116;refine HI.out.mono ?_;rintro e w1 ⟨rfl,rfl⟩)|(at_mapUpdate;refine wpList_mapUpdate_own _ rfl _ _ _ 124 rfl 9 3 uU Tryz.underlying124 _ w.heap.size k _ rfl HO.out (by unfold maxLen;omega) _ _ _ rfl rfl hkey _ [] (plainElem_int Tryz.underlying3 (by decide)) ?_;intro w1 hown1 hgrow1)|go_in)
          have HO1:=Lh hown1
          have HG1:=Lh hgrow1
          clear hown1 hgrow1 hrun
          go_wp2
          go_roundw
          case rel =>
           exact ⟨k+1,_,by omega,by go_num,by rw [HID.out,HST.out,HHX.out];rfl,by rw [HTK.out];exact HSN.out,HO1.out,HB.out.grown HG1.out HB.out.size (fun j hj=>by cases hj;exact Nat.le_refl _)⟩
          case measure=>simp [intOf];omega
        · obtain rfl:cnt=1:=HCN.out
          clear hown
          go_wp2_with (go_at_call 116;refine HI.out.mono ?_;rintro e w1 ⟨rfl,rfl⟩)
          go_ret
          exact ⟨zu (by rw [HID.out,HST.out,HHX.out];rfl),HB.out⟩
    · have hd:((x.size:Int) != 64)=true:=by simp;omega
      rw [decide_eq_false h64,Bool.false_and] at HX
      clear h64 HI
      go_wp2
      go_ret
      exact ⟨zu (by rw [HID.out,HST.out,HX.out];rfl),HB.out⟩
  · have HF:=Lh (show zG [] l=0 by
     rw [HID.out,List.drop_eq_nil_of_le (by omega)];rfl)
    clear hown hbel
    go_wp2
    go_ret
    exact ⟨zu HF.out.symm,HB.out⟩
theorem vz {t:Int} {l:List ByteArray} (h:¬(1≤l.length∧l.length≤16∧1≤t∧t≤l.length)):jf t l=false:=by
 unfold jf;rw [decide_eq_false h];rfl
theorem dH {t:Int} {l:List ByteArray} (h:1≤l.length∧l.length≤16∧1≤t∧t≤l.length):jf t l=(zG [] l == 0):=by
 unfold jf;rw [decide_eq_true h,Bool.true_and,Bool.eq_iff_iff,decide_eq_true_eq,beq_iff_eq]
set_option maxHeartbeats 1000000 in
set_option maxRecDepth 100000 in
theorem yR (t:Int) (l:List ByteArray) (a:Option Addr) (c:Nat) (w:World) (hS:qk w 0 w.heap.size a l) (hs:∀s ∈ l,s.size≤4294967296) :
 Calls Tryz.prog 27 #[.agg #[.int .i64 t,.slice a l.length c]] w fun e w'=>e=.returned (.bool (jf t l))∧Below w.heap.size w w':=by
 have HB0:=Lh (show Below w.heap.size w (w.alloc (.cells #[.int .i64 t,.slice a l.length c] 30)) from (Below.refl _ _).alloc lz _)
 have HA:=Lh (fun h16:l.length≤16=>yq l a c _ (hS.below HB0.out lz lz (by simp)) (by omega) hs)
 clear hS hs
 by_cases h1:l.length<1
 · have HF:=Lh (vz (t:=t) (l:=l) (by omega))
   have d1:decide ((l.length:Int)<1)=true:=by simp;omega
   go_enter Tryz.func27,Tryz.ntmps27
   go_wp2
   go_ret
   exact ⟨qw HF.out.symm,HB0.out⟩
 have d1:decide ((l.length:Int)<1)=false:=by simp;omega
 by_cases h2:16<l.length
 · have HF:=Lh (vz (t:=t) (l:=l) (by omega))
   have d2:decide (16<(l.length:Int))=true:=by simp;omega
   go_enter Tryz.func27,Tryz.ntmps27
   go_wp2
   go_ret
   exact ⟨qw HF.out.symm,HB0.out⟩
 have d2:decide (16<(l.length:Int))=false:=by simp;omega
 by_cases h3:t<1
 · have HF:=Lh (vz (t:=t) (l:=l) (by omega))
   have d3:decide (t<1)=true:=by simp;omega
   go_enter Tryz.func27,Tryz.ntmps27
   go_wp2
   go_ret
   exact ⟨qw HF.out.symm,HB0.out⟩
 have d3:decide (t<1)=false:=by simp;omega
 by_cases h4:(l.length:Int)<t
 · have HF:=Lh (vz (t:=t) (l:=l) (by omega))
   have d4:decide ((l.length:Int)<t)=true:=by simp;omega
   go_enter Tryz.func27,Tryz.ntmps27
   go_wp2
   go_ret
   exact ⟨qw HF.out.symm,HB0.out⟩
 have d4:decide ((l.length:Int)<t)=false:=by simp;omega
 have HF:=Lh (dH (t:=t) (l:=l) (by omega))
 have HW:=Lh (HA.out (by omega))
 clear HA
 obtain ⟨E,hE⟩:∃E,E=zG [] l:=⟨_,rfl⟩
 rw [← hE] at HF HW
 clear hE
 go_enter Tryz.func27,Tryz.ntmps27
 go_wp2_with fail
 refine HW.out.mono ?_
 rintro e w1 ⟨rfl,hb1⟩
 have HB1:=Lh (HB0.out.trans (hb1.mono (by simp)))
 clear hb1
 go_wp2
 go_ret
 exact ⟨qw HF.out.symm,HB1.out⟩
end Go.Proofs.YtnlgmcapbbgelaaGreatDoor

namespace Go.Proofs.YtnlgmcapbbgelaaGreatDoor
open Go.RowKit Go.Shelf Go.Sort
theorem uC (n:Int) (w:World):Calls Tryz.prog 69 #[.int .i64 n] w fun e w'=>e=.returned (.agg #[.int .u8 2,.int .i64 n,.string ⟨#[]⟩,.slice none 0 0,.slice none 0 0])∧w'=w.alloc (.cells #[.int .u8 2,.int .i64 n,.string ⟨#[]⟩,.slice none 0 0,.slice none 0 0] 25):=by
 go_enter Tryz.func69,Tryz.ntmps69
 go_wp2
 exact bodyPost_ret (results_cell_row Tryz.results69 _ _ w.heap.size 25 _ (0,0) _ rfl (heap_alloc_new w _) Tryz.underlying25 rfl (by kernel_rfl)) rfl ⟨rfl,rfl⟩
theorem dU {l:List ByteArray} (h:∀x ∈ l,x.size≤1000000) (hl:l.length≤16):(qF l).wt≤4294967296:=by
 have:∀l:List ByteArray,(∀x ∈ l,x.size≤1000000)→JV.wts (l.map txtJ)≤1000001 * l.length:=fun l=>by
  induction l with
  | nil=>intro _;simp [JV.wts]
  | cons x r ih =>
   intro h
   have h1:=h x (List.mem_cons_self ..)
   have h2:=ih fun y hy=>h y (List.mem_cons_of_mem _ hy)
   rw [List.map_cons,JV.wts,uY,List.length_cons];omega
 have h1:=this l h
 have e2:(qF l).wt=1+JV.wts (l.map txtJ):=by
  show 1+(⟨#[]⟩:ByteArray).size+qm [] + JV.wts (l.map txtJ)=_
  rfl
 omega
def uD (t:Int) (l:List ByteArray) (w:World) (e:Ending) (w':World):Prop :=
 ∃g ai ci,e=.returned (.slice (some ⟨g,0,none⟩) 2 2)∧w'.heap[g]?=some (.cells #[.string ⟨#[107,101,121,105,100,115]⟩,.int .u8 4,.int .i64 0,.string ⟨#[]⟩,.slice none 0 0,.slice ai l.length ci,.string ⟨#[116,104,114,101,115,104,111,108,100]⟩,.int .u8 2,.int .i64 t,.string ⟨#[]⟩,.slice none 0 0,.slice none 0 0] 98 (0,0)) ∧
  Rep w' w.heap.size w'.heap.size (qF l) (.agg #[.int .u8 4,.int .i64 0,.string ⟨#[]⟩,.slice none 0 0,.slice ai l.length ci])∧Below w.heap.size w w'
set_option maxHeartbeats 2000000 in
set_option maxRecDepth 100000 in
theorem uL (t:Int) (l:List ByteArray) (a:Option Addr) (c:Nat) (w:World) (hS:qk w 0 w.heap.size a l) (hl:l.length≤4294967296) :
 Calls Tryz.prog 63 #[.agg #[.int .i64 t,.slice a l.length c]] w (uD t l w):=by
 obtain ⟨W,hW⟩:∃W,W=w.alloc (.cells #[.int .i64 t,.slice a l.length c] 30):=⟨_,rfl⟩
 have hb:Below w.heap.size w W:=by rw [hW];exact (Below.refl _ _).alloc lz _
 have hx:W.heap[w.heap.size]?=some (.cells #[.int .i64 t,.slice a l.length c] 30 (0,0)):=by rw [hW];exact heap_alloc_new w _
 have HC:=Lh (show ∀w':World,Below W.heap.size W w'→w'.cell? ⟨w.heap.size,0,none⟩=some (.int .i64 t)∧w'.cell? ⟨w.heap.size,1,none⟩=some (.slice a l.length c)∧w.heap.size<w'.heap.size from fun w' h=>by
  have y0:=(h.block _ (qz hx)).trans hx
  exact ⟨qq y0 rfl,qq y0 rfl,Nat.lt_of_lt_of_le (qz hx) h.size⟩)
 have HT:=Lh (show ∀w':World,Below W.heap.size W w'→Calls Tryz.prog 114 #[.slice a l.length c] w' (fun e w2=>∃ai ci,e=.returned (.agg #[.int .u8 4,.int .i64 0,.string ⟨#[]⟩,.slice none 0 0,.slice ai l.length ci])∧Hid (Rep w2 W.heap.size w2.heap.size (qF l) (.agg #[.int .u8 4,.int .i64 0,.string ⟨#[]⟩,.slice none 0 0,.slice ai l.length ci]))∧Below W.heap.size W w2∧w2.cell? ⟨w.heap.size,0,none⟩=some (.int .i64 t)∧w2.cell? ⟨w.heap.size,1,none⟩=some (.slice a l.length c)∧w.heap.size<w2.heap.size) from fun w' h=>by
  have hbw:=hb.trans (h.mono hb.size)
  refine (nH l a c w' (hS.below hbw lz lz hbw.size) hl).mono ?_
  rintro e w2 ⟨ai,ci,rfl,hr,hb2⟩
  have h2:=h.trans (hb2.mono h.size)
  exact ⟨ai,ci,rfl,Lh (Rep.carry h.size lz (fun _ _ _=>rfl) _ _ hr),h2,HC.out _ h2⟩)
 have HN:=Lh (show ∀w':World,Below W.heap.size W w'→Calls Tryz.prog 69 #[.int .i64 t] w' (fun e w2=>e=.returned (.agg #[.int .u8 2,.int .i64 t,.string ⟨#[]⟩,.slice none 0 0,.slice none 0 0])∧Below w'.heap.size w' w2∧Below W.heap.size W w2∧w2.cell? ⟨w.heap.size,0,none⟩=some (.int .i64 t)∧w2.cell? ⟨w.heap.size,1,none⟩=some (.slice a l.length c)∧w.heap.size<w2.heap.size) from fun w' h=>by
  refine (uC t w').mono ?_
  rintro e w2 ⟨rfl,rfl⟩
  have hb2:Below w'.heap.size w' (w'.alloc (.cells #[.int .u8 2,.int .i64 t,.string ⟨#[]⟩,.slice none 0 0,.slice none 0 0] 25)):=(Below.refl _ _).alloc lz _
  have h2:=h.trans (hb2.mono h.size)
  exact ⟨rfl,hb2,h2,HC.out _ h2⟩)
 have HB:=Lh hb
 have HW:=Lh hW
 clear hS hb hx hW
 have hbz:Below W.heap.size W W.drew:=(Below.refl _ _).drew
 obtain ⟨q0,q1,hzq⟩:=HC.out W (Below.refl _ _)
 go_enter Tryz.func63,Tryz.ntmps63
 go_upto_region 1 with fail
 rw [← HW.out]
 clear HW
 go_region_held3 (fun w'=>w'.cell? ⟨w.heap.size,0,none⟩=some (.int .i64 t)∧w'.cell? ⟨w.heap.size,1,none⟩=some (.slice a l.length c)) (first|(with_reducible exact ⟨q0,q1⟩)|(with_reducible exact ⟨(qc _ hzq).trans q0,(qc _ hzq).trans q1⟩)|(go_keep;done)) (first|(go_at_call 114;(with_reducible refine (HT.out _ hbz).mono ?_);rintro e w2 ⟨ai,ci,rfl,HTX,hbz,q0,q1,hzq⟩)|(go_at_call 69;(with_reducible refine (HN.out _ hbz).mono ?_);rintro e w2 ⟨rfl,hbn,hbz,q0,q1,hzq⟩;replace HTX:=Lh (HTX.out.below hbn lz lz hbn.size))|(go_at_call 69;(with_reducible refine (HN.out _ hbz).mono ?_);rintro e w2 ⟨rfl,-,hbz,q0,q1,hzq⟩))
 all_goals
  have HBZ:=Lh hbz
  clear hbz q0 q1 hzq
  go_wp2
  go_ret
  exact ⟨_,ai,ci,rfl,heap_alloc_new _ _,Rep.carry HB.out.size lz (fun _ _ _=>rfl) _ _ (HTX.out.below ((Below.refl _ _).alloc lz _) lz lz (by simp)),(HB.out.trans (HBZ.out.mono HB.out.size)).alloc (Nat.le_trans HB.out.size HBZ.out.size) _⟩
theorem nD (t:Int) (l:List ByteArray) (g:Nat) (ai:Option Addr) (ci:Nat) (lo:Nat) (w:World) (hlo:0<lo) (hw:(qF l).wt≤4294967296) (hg:w.heap[g]?=some (.cells #[.string ⟨#[107,101,121,105,100,115]⟩,.int .u8 4,.int .i64 0,.string ⟨#[]⟩,.slice none 0 0,.slice ai l.length ci,.string ⟨#[116,104,114,101,115,104,111,108,100]⟩,.int .u8 2,.int .i64 t,.string ⟨#[]⟩,.slice none 0 0,.slice none 0 0] 98 (0,0)))
 (hR:Rep w lo w.heap.size (qF l) (.agg #[.int .u8 4,.int .i64 0,.string ⟨#[]⟩,.slice none 0 0,.slice ai l.length ci])) :
 Calls Tryz.prog 62 #[.slice (some ⟨g,0,none⟩) 2 2] w (jZ [qX,thrN] [qF l,qV t] w):=by
 have:=wm #[⟨qX,4,0,⟨#[]⟩,none,0,0,ai,l.length,ci⟩,dm thrN t] #[⟨qX,4,0,⟨#[]⟩,none,0,0,ai,l.length,ci⟩,dm thrN t] [qF l,qV t] g 0 2 w lo w.heap.size ?_ (qz hg) (by simp) ?_ rfl ?_ ?_ lz
 · exact this
 · exact vM (T:=98) (by rw [hg,uy];rfl)
 · refine gJ _ _ _ fun j hj=>?_
   obtain rfl:j=0:=by simp at hj;omega
   show decide (Lib.compareBytes thrN.data.toList qX.data.toList<0)=false
   decide
 · intro i hi
   match i,hi with
   | 0,_=>exact ⟨hR,hw,fun k h=>.inl hlo⟩
   | 1,_=>exact ⟨fd _ _ _ _,by simp [qV,JV.wt,JV.wts,qm,ByteArray.size],fun k h=>by simp [qV,JV.items] at h⟩
 · intro i hi
   obtain rfl:i=0:=by simp at hi;omega
   show qX≠thrN
   decide
def be (a:AuthV):JV × Int:=if qZ a then (qd a,0) else (qL,3)
set_option maxHeartbeats 2000000 in
set_option maxRecDepth 100000 in
theorem dM (t:Int) (l:List ByteArray) (a:Option Addr) (c:Nat) (w:World) (hS:qk w 0 w.heap.size a l) (hf:j4 ⟨t,l⟩) :
 Calls Tryz.prog 15 #[.agg #[.int .i64 t,.slice a l.length c]] w (lB (be ⟨t,l⟩) w):=by
 obtain ⟨W,hW⟩:∃W,W=(w.alloc (.cells #[.int .i64 t,.slice a l.length c] 30)).alloc (.cells #[.int .u8 0,.int .i64 0,.string ⟨#[]⟩,.slice none 0 0,.slice none 0 0] 25):=⟨_,rfl⟩
 have hz1:(w.alloc (.cells #[.int .i64 t,.slice a l.length c] 30)).heap.size=w.heap.size+1:=by simp
 have hb:Below w.heap.size w W:=by rw [hW];exact ((Below.refl _ _).alloc lz _).alloc (by simp) _
 have hx:W.heap[w.heap.size]?=some (.cells #[.int .i64 t,.slice a l.length c] 30 (0,0)):=by rw [hW,Below.heap_alloc _ _ _ (by simp)];exact heap_alloc_new w _
 have hr0:W.rowIs (w.heap.size+1) 25 5 (qQ (.int .u8 0) (.int .i64 0) (.string ⟨#[]⟩) (.slice none 0 0) (.slice none 0 0)):=by
  have:=qh (w.alloc (.cells #[.int .i64 t,.slice a l.length c] 30)) (.int .u8 0) (.int .i64 0) (.string ⟨#[]⟩) (.slice none 0 0) (.slice none 0 0) 25
  rw [hz1,← hW] at this
  exact this
 have HMY:=Lh (yR t l a c W (hS.below hb lz lz hb.size) hf.2.2)
 have HS:=Lh hS
 have HF:=Lh hf
 have HB:=Lh hb
 have HX:=Lh hx
 have HR0:=Lh hr0
 have HW:=Lh hW
 obtain ⟨mb,hmb⟩:∃mb,mb=jf t l:=⟨_,rfl⟩
 rw [← hmb] at HMY
 have HMB:=Lh hmb
 clear hS hf hb hx hr0 hW hz1 hmb
 have c0:W.cell? ⟨w.heap.size,0,none⟩=some (.int .i64 t):=qq HX.out rfl
 have c1:W.cell? ⟨w.heap.size,1,none⟩=some (.slice a l.length c):=qq HX.out rfl
 go_enter Tryz.func15,Tryz.ntmps15
 go_upto_region 1 with fail
 rw [← HW.out]
 clear HW
 go_wp2_with fail
 refine HMY.out.mono ?_
 clear HMY c0 c1
 rintro r w1 ⟨rfl,hb1⟩
 have hx1:=(hb1.block _ (qz HX.out)).trans HX.out
 have hr1:=qx hb1 HR0.out HR0.out.lt
 have HX1:=Lh hx1
 have HR1:=Lh hr1
 have HB1:=Lh (HB.out.trans (hb1.mono HB.out.size))
 have HZ1:=Lh (show w.heap.size+1<w1.heap.size from hr1.lt)
 clear hb1 hx1
 cases mb with
 | false =>
  have HV:=Lh (show be ⟨t,l⟩=(qL,3) by unfold be qZ;rw [← HMB.out];rfl)
  obtain ⟨t0,t1,t2,t3,t4⟩:=rc5 hr1
  obtain ⟨s0,s1,s2,s3,s4⟩:=rf5 hr1
  simp only [qQ] at t0 t1 t2 t3 t4
  clear hr1
  go_wp2
  refine bodyPost_ret (qj Tryz.results15 _ _ (w.heap.size+1) 25 _ (0,0) _ rfl (qs (set5 _ _ _ _ _ HR1.out)) Tryz.underlying25 rfl (by kernel_rfl) _ rfl) rfl ?_
  rw [HV.out]
  exact gy ⟨rfl,zy _ _ _ _ _ HB1.out (by omega)⟩
 | true =>
  have HV:=Lh (show be ⟨t,l⟩=(qd ⟨t,l⟩,0) by unfold be qZ;rw [← HMB.out];rfl)
  have hpt:=z7 (a:=⟨t,l⟩) (by unfold qZ;exact HMB.out.symm)
  have HWT:=Lh (show (qF l).wt≤4294967296 from dU (fun x hx=>by have:=(k9 (jr _ _ hpt.2.2 x hx)).2;omega) hpt.1.2)
  have HME:=Lh (uL t l a c w1 (HS.out.below HB1.out lz lz HB1.out.size) HF.out.2.1)
  have c0:w1.cell? ⟨w.heap.size,0,none⟩=some (.int .i64 t):=qq HX1.out rfl
  have c1:w1.cell? ⟨w.heap.size,1,none⟩=some (.slice a l.length c):=qq HX1.out rfl
  clear hr1 hpt
  go_wp2_with fail
  refine HME.out.mono ?_
  clear HME c0 c1
  rintro r w2 ⟨g,ai,ci,rfl,hg,hr,hb2⟩
  have HO:=Lh (nD t l g ai ci w1.heap.size w2 (by have:=HZ1.out;omega) HWT.out hg hr)
  have HR2:=Lh (qx hb2 HR1.out HR1.out.lt)
  have HB2:=Lh (HB1.out.trans (hb2.mono HB1.out.size))
  have HZ2:=Lh (show w.heap.size+1<w2.heap.size from Nat.lt_of_lt_of_le HZ1.out hb2.size)
  clear hg hr hb2
  go_wp2_with fail
  refine HO.out.mono ?_
  clear HO
  rintro r w3 ⟨an3,cn3,ai3,ci3,rfl,hr3,hb3⟩
  have HR3:=Lh hr3
  have hres:=qx hb3 HR2.out HR2.out.lt
  have HRS:=Lh hres
  have HB3:=Lh (HB2.out.trans (hb3.mono HB2.out.size))
  obtain ⟨t0,t1,t2,t3,t4⟩:=rc5 hres
  obtain ⟨s0,s1,s2,s3,s4⟩:=rf5 hres
  simp only [qQ] at t0 t1 t2 t3 t4
  clear hres hr3 hb3
  go_wp2
  refine bodyPost_ret (qj Tryz.results15 _ _ (w.heap.size+1) 25 _ (0,0) _ rfl (qs (set5 _ _ _ _ _ HRS.out)) Tryz.underlying25 rfl (by kernel_rfl) _ rfl) rfl ?_
  rw [HV.out]
  exact ⟨an3,cn3,ai3,ci3,rfl,Rep.carry (by have:=HZ2.out;omega) (show w3.heap.size≤_ by simp [World.setCell]) (fun j hj _=>jB _ _ _ _ _ (by have:=HZ2.out;omega)) _ _ HR3.out,zy _ _ _ _ _ HB3.out (by omega)⟩
theorem bQ {v:JV} {y:ByteArray} {most:Nat} {st:PS}:(qg v y most st).1.length≤most∧(∀s ∈ (qg v y most st).1,s.size≤v.wt)∧(qg v y most st).2.asked.length≤st.asked.length+1:=by
 unfold qg
 split
 · exact ⟨Nat.zero_le _,fun s hs=>(by cases hs),Nat.le_succ _⟩
 · split
   · exact ⟨Nat.zero_le _,fun s hs=>(by cases hs),Nat.le_succ _⟩
   · rename_i it hit
     split
     · exact ⟨Nat.zero_le _,fun s hs=>(by cases hs),Nat.le_succ _⟩
     · split
       · exact ⟨Nat.zero_le _,fun s hs=>(by cases hs),Nat.le_succ _⟩
       · split
         · rename_i h _
           refine ⟨by rw [List.length_map];omega,fun s hs=>?_,by simp⟩
           obtain ⟨x,hx,rfl⟩:=List.mem_map.1 hs
           obtain ⟨i,hi,rfl⟩:=List.getElem_of_mem hx
           have h1:=JV.wts_get it.items i hi
           have h2:=it.wt_bd
           have h3:=it.items[i].wt_bd
           obtain ⟨j,hj,rfl⟩:=List.getElem_of_mem (w0 hit).2
           have h4:=JV.wts_get v.items j hj
           have h5:=v.wt_bd
           omega
         · exact ⟨Nat.zero_le _,fun s hs=>(by cases hs),Nat.le_succ _⟩
def j5 (o m lo hi:Nat) (v:JV) (an ai:Option Addr) (cn ci:Nat) (r:AuthV × PS) (w:World) (e:Ending) (w':World):Prop :=
 (∃ia ic,e=.returned (.agg #[.int .i64 r.1.thr,.slice ia r.1.ids.length ic])∧qk w' w.heap.size w'.heap.size ia r.1.ids)∧g8 o m lo hi v an ai cn ci r.2 w w'
set_option maxHeartbeats 2000000 in
set_option maxRecDepth 100000 in
theorem rX {o m lo hi:Nat} {v:JV} {an ai:Option Addr} {cn ci:Nat} {st:PS} {w:World} (h:ze o m lo hi v an ai cn ci st w) (hv:v.wt≤4294967296) (ha:st.asked.length≤4294967000) :
 Calls Tryz.prog 150 #[.pointer (some ⟨o,0,none⟩)] w (j5 o m lo hi v an ai cn ci (jl v st) w):=by
 have hlt:=h.lt
 obtain ⟨W,hW⟩:∃W,W=w.alloc (.cells #[.int .i64 0,.slice none 0 0] 30):=⟨_,rfl⟩
 have hb:Below w.heap.size w W:=by rw [hW];exact (Below.refl _ _).alloc lz _
 have hr0:W.rowIs w.heap.size 30 2 (zA (.int .i64 0) (.slice none 0 0)):=by rw [hW];exact jj w _ _ _
 have HT:=Lh (sD qX 16 (h.below hb) (by decide) (by omega))
 have HFT:=Lh (@bQ v qX 16 st)
 have HK:=Lh (show jl v st=(if (qB v thrN 1 ((qg v qX 16 st).1.length:Int) (yJ v st)).2.err≠0 then authZ else ⟨(qB v thrN 1 ((qg v qX 16 st).1.length:Int) (yJ v st)).1,(qg v qX 16 st).1⟩,(qB v thrN 1 ((qg v qX 16 st).1.length:Int) (yJ v st)).2) from rfl)
 have HS:=Lh (show yJ v st=(if (qg v qX 16 st).1=[] then (qg v qX 16 st).2.fail 4 else (qg v qX 16 st).2).fail (zG [] (qg v qX 16 st).1) from rfl)
 obtain ⟨K,hK⟩:∃K,K=jl v st:=⟨_,rfl⟩
 rw [← hK] at HK ⊢
 obtain ⟨R,hR⟩:∃R,R=qg v qX 16 st:=⟨_,rfl⟩
 rw [← hR] at HT HFT HK HS
 obtain ⟨S3,hS3⟩:∃S3,S3=yJ v st:=⟨_,rfl⟩
 rw [← hS3] at HK HS
 have HB:=Lh hb
 have HR0:=Lh hr0
 have HW:=Lh hW
 have HZ:=Lh (show o<w.heap.size∧m<w.heap.size∧hi≤w.heap.size∧w.heap.size<W.heap.size from ⟨hlt.1,hlt.2.1,hlt.2.2,hr0.lt⟩)
 have HA:=Lh ha
 have HV:=Lh hv
 clear h hlt hb hr0 hW hK hR hS3 ha hv
 obtain ⟨L,S1⟩:=R
 dsimp only at HT HFT HK HS
 go_enter Tryz.func150,Tryz.ntmps150
 go_upto_region 1 with fail
 rw [← HW.out]
 clear HW
 go_wp2_with fail
 refine HT.out.mono ?_
 clear HT
 rintro r w1 ⟨⟨a1,c1,rfl,hs1⟩,hp1,ht1⟩
 have HS1:=Lh (show qk w1 W.heap.size w1.heap.size a1 L from hs1)
 have HP1:=Lh hp1
 have HT1:=Lh ht1
 have HR1:=Lh (ht1.row HR0.out (by have:=HZ.out;omega))
 have HZ1:=Lh ht1.size
 clear hs1 hp1 ht1
 by_cases hL:L=[]
 · have hl0:((L.length:Int) == 0)=true:=by rw [hL];rfl
   rw [if_pos hL] at HS
   clear hL
   go_wp2_with fail
   refine (jT 4 HP1.out).mono ?_
   rintro r w2 ⟨rfl,hp2,ht2⟩
   have HP2:=Lh hp2
   have HT2:=Lh (HT1.out.trans (ht2.mono fun _ _ h=>h))
   have HR2:=Lh (ht2.row HR1.out (by have:=HZ.out;omega))
   have HS2:=Lh (show qk w2 W.heap.size w2.heap.size a1 L from HS1.out.carry lz ht2.size (fun b h1 h2=>ht2.block b h2 (by have:=HZ.out;omega)))
   have HZ2:=Lh (Nat.le_trans HZ1.out ht2.size)
   clear hp2 ht2 HP1 HT1 HR1 HS1 HZ1
   generalize hq2:S1.fail 4=S2 at HP2 HS
   have HA2:=Lh (show S2.asked.length≤st.asked.length+1 by rw [← hq2,ju];exact HFT.out.2.2)
   clear hq2
   have HWR:=Lh (yq L a1 c1 w2 (HS2.out.carry (Nat.zero_le _) lz (fun _ _ _=>rfl)) (by have:=HFT.out.1;omega) (fun s hs=>Nat.le_trans (HFT.out.2.1 s hs) HV.out))
   obtain ⟨ie,hie⟩:∃ie,ie=zG [] L:=⟨_,rfl⟩
   rw [← hie] at HWR HS
   clear hie
   go_wp2_with fail
   refine HWR.out.mono ?_
   clear HWR
   rintro r w3 ⟨rfl,hb3⟩
   have HP3:=Lh (HP2.out.below hb3)
   have HR3:=Lh (qx hb3 HR2.out HR2.out.lt)
   have HT3:=Lh (HT2.out.trans (Touch.of_below hb3 lz))
   have HS3:=Lh (show qk w3 W.heap.size w3.heap.size a1 L from HS2.out.below hb3 lz lz hb3.size)
   have HZ3:=Lh (Nat.le_trans HZ2.out hb3.size)
   clear hb3 HP2 HR2 HT2 HS2 HZ2
   go_wp2_with fail
   refine (jT ie HP3.out).mono ?_
   rintro r w4 ⟨rfl,hp4,ht4⟩
   rw [← HS.out] at hp4
   have HA4:=Lh (show S3.asked.length≤st.asked.length+1 by rw [HS.out,ju];exact HA2.out)
   have HP4:=Lh hp4
   have HR4:=Lh (ht4.row HR3.out (by have:=HZ.out;omega))
   have HT4:=Lh (HT3.out.trans (ht4.mono fun _ _ h=>h))
   have HS4:=Lh (show qk w4 W.heap.size w4.heap.size a1 L from HS3.out.carry lz ht4.size (fun b h1 h2=>ht4.block b h2 (by have:=HZ.out;omega)))
   have HZ4:=Lh (Nat.le_trans HZ3.out ht4.size)
   clear hp4 ht4 HP3 HR3 HT3 HS3 HZ3 HS
   have HNU:=Lh (nG thrN 1 (L.length:Int) HP4.out (by decide) (by have:=HA4.out;have:=HA.out;omega))
   obtain ⟨N,hN⟩:∃N,N=qB v thrN 1 (L.length:Int) S3:=⟨_,rfl⟩
   rw [← hN] at HNU HK
   clear hN
   obtain ⟨nn,S4⟩:=N
   dsimp only at HNU HK
   go_wp2_with fail
   refine HNU.out.mono ?_
   clear HNU
   rintro r w5 ⟨rfl,hp5,ht5⟩
   have HP5:=Lh hp5
   have hr5:=ht5.row HR4.out (by have:=HZ.out;omega)
   have HR5:=Lh hr5
   have HT5:=Lh (HT4.out.trans (ht5.mono fun _ _ h=>h))
   have HS5:=Lh (show qk w5 W.heap.size w5.heap.size a1 L from HS4.out.carry lz ht5.size (fun b h1 h2=>ht5.block b h2 (by have:=HZ.out;omega)))
   have HZ5:=Lh (Nat.le_trans HZ4.out ht5.size)
   clear hp5 ht5 HP4 HR4 HT4 HS4 HZ4
   go_wp2_with fail
   refine (aB HP5.out).mono ?_
   rintro r w6 ⟨rfl,h6⟩
   subst h6
   have t0:=hr5.cell (i:=0) (by decide);have t1:=hr5.cell (i:=1) (by decide)
   have s0:=hr5.frozen 0;have s1:=hr5.frozen 1
   simp only [zA] at t0 t1
   clear hr5
   have HTW:=Lh (show Touch (fun b=>b=o∨b=m) w w5 from (Touch.of_below HB.out lz).trans HT5.out)
   by_cases he:S4.err=0
   · have e1:(S4.err != 0)=false:=by simpa using he
     rw [if_neg (by simp [he])] at HK
     clear he
     go_wp2
     refine bodyPost_ret (results_cell_row Tryz.results150 _ _ w.heap.size 30 _ (0,0) _ rfl (qC (set2 _ _ HR5.out)) Tryz.underlying30 rfl (by kernel_rfl)) rfl ?_
     unfold j5
     rw [HK.out]
     have hput:Touch (fun b=>b=w.heap.size) w5 ((w5.setCell ⟨w.heap.size,0,none⟩ (.int .i64 nn)).setCell ⟨w.heap.size,1,none⟩ (.slice a1 L.length c1)):=(qr _).trans (qr _)
     refine ⟨⟨a1,c1,rfl,?_⟩,HP5.out.touch hput (by have:=HZ.out;omega) (by have:=HZ.out;omega) HZ.out.2.2.1,?_⟩
     · refine HS5.out.carry (by have:=HZ.out;omega) hput.size (fun b h1 h2=>hput.block b h2 (by have:=HZ.out;omega))
     · exact ((HTW.out.setCell (p:=⟨w.heap.size,0,none⟩) (.inr lz) _).setCell (p:=⟨w.heap.size,1,none⟩) (.inr lz) _)
   · have e1:(S4.err != 0)=true:=by simpa using he
     rw [if_pos he] at HK
     clear he
     go_wp2
     refine bodyPost_ret (results_cell_row Tryz.results150 _ _ w.heap.size 30 _ (0,0) _ rfl (qC (set2 _ _ HR5.out)) Tryz.underlying30 rfl (by kernel_rfl)) rfl ?_
     unfold j5
     rw [HK.out]
     have hput:Touch (fun b=>b=w.heap.size) w5 ((w5.setCell ⟨w.heap.size,0,none⟩ (.int .i64 0)).setCell ⟨w.heap.size,1,none⟩ (.slice none 0 0)):=(qr _).trans (qr _)
     refine ⟨⟨none,0,rfl,.inl rfl⟩,HP5.out.touch hput (by have:=HZ.out;omega) (by have:=HZ.out;omega) HZ.out.2.2.1,?_⟩
     exact ((HTW.out.setCell (p:=⟨w.heap.size,0,none⟩) (.inr lz) _).setCell (p:=⟨w.heap.size,1,none⟩) (.inr lz) _)
 · have hl0:((L.length:Int) == 0)=false:=by
    cases L with
    | nil=>exact absurd rfl hL
    | cons x r=>simp;omega
   rw [if_neg hL] at HS
   clear hL
   have HA2:=Lh (show S1.asked.length≤st.asked.length+1 from HFT.out.2.2)
   have HP2:=Lh HP1.out
   have HT2:=Lh HT1.out
   have HR2:=Lh HR1.out
   have HS2:=Lh HS1.out
   have HZ2:=Lh HZ1.out
   clear HP1 HT1 HR1 HS1 HZ1
   obtain ⟨w2,hw2⟩:∃w2,w2=w1:=⟨_,rfl⟩
   obtain ⟨S2,hq2⟩:∃S2,S2=S1:=⟨_,rfl⟩
   rw [← hw2] at HP2 HT2 HR2 HS2 HZ2 ⊢
   rw [← hq2] at HP2 HA2 HS
   clear hw2 hq2
   have HWR:=Lh (yq L a1 c1 w2 (HS2.out.carry (Nat.zero_le _) lz (fun _ _ _=>rfl)) (by have:=HFT.out.1;omega) (fun s hs=>Nat.le_trans (HFT.out.2.1 s hs) HV.out))
   obtain ⟨ie,hie⟩:∃ie,ie=zG [] L:=⟨_,rfl⟩
   rw [← hie] at HWR HS
   clear hie
   go_wp2_with fail
   refine HWR.out.mono ?_
   clear HWR
   rintro r w3 ⟨rfl,hb3⟩
   have HP3:=Lh (HP2.out.below hb3)
   have HR3:=Lh (qx hb3 HR2.out HR2.out.lt)
   have HT3:=Lh (HT2.out.trans (Touch.of_below hb3 lz))
   have HS3:=Lh (show qk w3 W.heap.size w3.heap.size a1 L from HS2.out.below hb3 lz lz hb3.size)
   have HZ3:=Lh (Nat.le_trans HZ2.out hb3.size)
   clear hb3 HP2 HR2 HT2 HS2 HZ2
   go_wp2_with fail
   refine (jT ie HP3.out).mono ?_
   rintro r w4 ⟨rfl,hp4,ht4⟩
   rw [← HS.out] at hp4
   have HA4:=Lh (show S3.asked.length≤st.asked.length+1 by rw [HS.out,ju];exact HA2.out)
   have HP4:=Lh hp4
   have HR4:=Lh (ht4.row HR3.out (by have:=HZ.out;omega))
   have HT4:=Lh (HT3.out.trans (ht4.mono fun _ _ h=>h))
   have HS4:=Lh (show qk w4 W.heap.size w4.heap.size a1 L from HS3.out.carry lz ht4.size (fun b h1 h2=>ht4.block b h2 (by have:=HZ.out;omega)))
   have HZ4:=Lh (Nat.le_trans HZ3.out ht4.size)
   clear hp4 ht4 HP3 HR3 HT3 HS3 HZ3 HS
   have HNU:=Lh (nG thrN 1 (L.length:Int) HP4.out (by decide) (by have:=HA4.out;have:=HA.out;omega))
   obtain ⟨N,hN⟩:∃N,N=qB v thrN 1 (L.length:Int) S3:=⟨_,rfl⟩
   rw [← hN] at HNU HK
   clear hN
   obtain ⟨nn,S4⟩:=N
   dsimp only at HNU HK
   go_wp2_with fail
   refine HNU.out.mono ?_
   clear HNU
   rintro r w5 ⟨rfl,hp5,ht5⟩
   have HP5:=Lh hp5
   have hr5:=ht5.row HR4.out (by have:=HZ.out;omega)
   have HR5:=Lh hr5
   have HT5:=Lh (HT4.out.trans (ht5.mono fun _ _ h=>h))
   have HS5:=Lh (show qk w5 W.heap.size w5.heap.size a1 L from HS4.out.carry lz ht5.size (fun b h1 h2=>ht5.block b h2 (by have:=HZ.out;omega)))
   have HZ5:=Lh (Nat.le_trans HZ4.out ht5.size)
   clear hp5 ht5 HP4 HR4 HT4 HS4 HZ4
   go_wp2_with fail
   refine (aB HP5.out).mono ?_
   rintro r w6 ⟨rfl,h6⟩
   subst h6
   have t0:=hr5.cell (i:=0) (by decide);have t1:=hr5.cell (i:=1) (by decide)
   have s0:=hr5.frozen 0;have s1:=hr5.frozen 1
   simp only [zA] at t0 t1
   clear hr5
   have HTW:=Lh (show Touch (fun b=>b=o∨b=m) w w5 from (Touch.of_below HB.out lz).trans HT5.out)
   by_cases he:S4.err=0
   · have e1:(S4.err != 0)=false:=by simpa using he
     rw [if_neg (by simp [he])] at HK
     clear he
     go_wp2
     refine bodyPost_ret (results_cell_row Tryz.results150 _ _ w.heap.size 30 _ (0,0) _ rfl (qC (set2 _ _ HR5.out)) Tryz.underlying30 rfl (by kernel_rfl)) rfl ?_
     unfold j5
     rw [HK.out]
     have hput:Touch (fun b=>b=w.heap.size) w5 ((w5.setCell ⟨w.heap.size,0,none⟩ (.int .i64 nn)).setCell ⟨w.heap.size,1,none⟩ (.slice a1 L.length c1)):=(qr _).trans (qr _)
     refine ⟨⟨a1,c1,rfl,?_⟩,HP5.out.touch hput (by have:=HZ.out;omega) (by have:=HZ.out;omega) HZ.out.2.2.1,?_⟩
     · refine HS5.out.carry (by have:=HZ.out;omega) hput.size (fun b h1 h2=>hput.block b h2 (by have:=HZ.out;omega))
     · exact ((HTW.out.setCell (p:=⟨w.heap.size,0,none⟩) (.inr lz) _).setCell (p:=⟨w.heap.size,1,none⟩) (.inr lz) _)
   · have e1:(S4.err != 0)=true:=by simpa using he
     rw [if_pos he] at HK
     clear he
     go_wp2
     refine bodyPost_ret (results_cell_row Tryz.results150 _ _ w.heap.size 30 _ (0,0) _ rfl (qC (set2 _ _ HR5.out)) Tryz.underlying30 rfl (by kernel_rfl)) rfl ?_
     unfold j5
     rw [HK.out]
     have hput:Touch (fun b=>b=w.heap.size) w5 ((w5.setCell ⟨w.heap.size,0,none⟩ (.int .i64 0)).setCell ⟨w.heap.size,1,none⟩ (.slice none 0 0)):=(qr _).trans (qr _)
     refine ⟨⟨none,0,rfl,.inl rfl⟩,HP5.out.touch hput (by have:=HZ.out;omega) (by have:=HZ.out;omega) HZ.out.2.2.1,?_⟩
     exact ((HTW.out.setCell (p:=⟨w.heap.size,0,none⟩) (.inr lz) _).setCell (p:=⟨w.heap.size,1,none⟩) (.inr lz) _)
def cV (u:JV) (st:PS):AuthV × Int:=if qf u (jl u st).2≠0 then (authZ,qf u (jl u st).2) else ((jl u st).1,0)
def xw (r:AuthV × Int) (w:World) (e:Ending) (w':World):Prop :=
 ∃ia ic,e=.returned (.tuple #[.agg #[.int .i64 r.1.thr,.slice ia r.1.ids.length ic],.int .i64 r.2])∧qk w' w.heap.size w'.heap.size ia r.1.ids∧Below w.heap.size w w'
def dC (C:JV→Prop) (st:PS) (mb:Bool) (w:World) (e:Ending) (w':World):Prop:=(mb=false∧xw (authZ,3) w e w')∨(mb=true∧∃u,C u∧xw (cV u st) w e w')
theorem yV {er:Int} {w w':World} (hb:Below w.heap.size w w'):xw (authZ,er) w (.returned (.tuple #[.agg #[.int .i64 0,.slice none 0 0],.int .i64 er])) w':=⟨none,0,rfl,.inl rfl,hb⟩
set_option maxHeartbeats 2000000 in
set_option maxRecDepth 100000 in
theorem nL (C:JV→Prop) (st:PS) (v:JV) (x:Value) (w:World) (hN:v.wt≤4294967296) (hR:Rep w 0 w.heap.size v x) (ha:st.asked.length≤1000) (hOf:v.mayB=true→∀w1,Below w.heap.size w w1→Calls Tryz.prog 52 #[x] w1 (yC C st w1)) :
 Calls Tryz.prog 109 #[x] w (dC C st v.mayB w):=by
 obtain ⟨an,cn,ai,ci,hx,h1,h2,h3,h4⟩:=hR.parts
 clear h1 h2 h3 h4
 subst hx
 have HOF:=Lh hOf
 obtain ⟨W,hW⟩:∃W,W=(w.alloc (.cells #[.int .u8 v.kind,.int .i64 v.n,.string v.t,.slice an v.names.length cn,.slice ai v.items.length ci] 25)).alloc (.cells #[.int .i64 0,.slice none 0 0] 30):=⟨_,rfl⟩
 have hz1:(w.alloc (.cells #[.int .u8 v.kind,.int .i64 v.n,.string v.t,.slice an v.names.length cn,.slice ai v.items.length ci] 25)).heap.size=w.heap.size+1:=by simp
 have hb:Below w.heap.size w W:=by rw [hW];exact ((Below.refl _ _).alloc lz _).alloc (by simp) _
 have hx0:W.heap[w.heap.size]?=some (.cells #[.int .u8 v.kind,.int .i64 v.n,.string v.t,.slice an v.names.length cn,.slice ai v.items.length ci] 25 (0,0)):=by rw [hW];exact xG w _ _
 have hr0:W.rowIs (w.heap.size+1) 30 2 (zA (.int .i64 0) (.slice none 0 0)):=by
  have:=jj (w.alloc (.cells #[.int .u8 v.kind,.int .i64 v.n,.string v.t,.slice an v.names.length cn,.slice ai v.items.length ci] 25)) (.int .i64 0) (.slice none 0 0) 30
  rw [hz1,← hW] at this
  exact this
 have HMY:=Lh (kP v _ W hN (hR.below hb lz (Nat.zero_le _) hb.size))
 obtain ⟨mb,hmb⟩:∃mb,mb=v.mayB:=⟨_,rfl⟩
 rw [← hmb] at HMY HOF ⊢
 have HB:=Lh hb
 have HX0:=Lh hx0
 have HR0:=Lh hr0
 have HW:=Lh hW
 have HA:=Lh ha
 clear hOf hW hz1 hb hx0 hr0 hR hmb hN ha
 have c0:W.cell? ⟨w.heap.size,0,none⟩=some (.int .u8 v.kind):=qq HX0.out rfl
 have c1:W.cell? ⟨w.heap.size,1,none⟩=some (.int .i64 v.n):=qq HX0.out rfl
 have c2:W.cell? ⟨w.heap.size,2,none⟩=some (.string v.t):=qq HX0.out rfl
 have c3:W.cell? ⟨w.heap.size,3,none⟩=some (.slice an v.names.length cn):=qq HX0.out rfl
 have c4:W.cell? ⟨w.heap.size,4,none⟩=some (.slice ai v.items.length ci):=qq HX0.out rfl
 go_enter Tryz.func109,Tryz.ntmps109
 go_upto_region 1 with fail
 rw [← HW.out]
 clear HW
 go_wp2_with fail
 refine HMY.out.mono ?_
 clear HMY c0 c1 c2 c3 c4
 rintro e w1 ⟨rfl,hb1⟩
 have HX1:=Lh ((hb1.block _ (qz HX0.out)).trans HX0.out)
 have hr1:=qx hb1 HR0.out HR0.out.lt
 have HR1:=Lh hr1
 have HB1:=Lh (HB.out.trans (hb1.mono HB.out.size))
 have HZ1:=Lh (show w.heap.size+2≤w1.heap.size from hr1.lt)
 clear hb1
 cases mb with
 | false =>
  have t0:=hr1.cell (i:=0) (by decide);have t1:=hr1.cell (i:=1) (by decide)
  have s0:=hr1.frozen 0;have s1:=hr1.frozen 1
  simp only [zA] at t0 t1
  clear hr1
  go_wp2
  refine bodyPost_ret (qj Tryz.results109 _ _ (w.heap.size+1) 30 _ (0,0) _ rfl (qC (set2 _ _ HR1.out)) Tryz.underlying30 rfl (by kernel_rfl) _ rfl) rfl ?_
  exact .inl ⟨rfl,yV (xi _ _ HB1.out (by omega))⟩
 | true =>
  have HOF1:=Lh (HOF.out rfl w1 HB1.out)
  have c0:w1.cell? ⟨w.heap.size,0,none⟩=some (.int .u8 v.kind):=qq HX1.out rfl
  have c1:w1.cell? ⟨w.heap.size,1,none⟩=some (.int .i64 v.n):=qq HX1.out rfl
  have c2:w1.cell? ⟨w.heap.size,2,none⟩=some (.string v.t):=qq HX1.out rfl
  have c3:w1.cell? ⟨w.heap.size,3,none⟩=some (.slice an v.names.length cn):=qq HX1.out rfl
  have c4:w1.cell? ⟨w.heap.size,4,none⟩=some (.slice ai v.items.length ci):=qq HX1.out rfl
  clear hr1
  go_wp2_with fail
  refine HOF1.out.mono ?_
  clear HOF HOF1 c0 c1 c2 c3 c4 HX0 HX1 HR0 HB
  rintro e w2 ⟨u,o,m,lo,hi,an2,ai2,cn2,ci2,hC,hu,rfl,hp2,ho2,hm2,hb2⟩
  have HC:=Lh hC
  have HU:=Lh hu
  have HLT:=Lh hp2.lt
  have HPT:=Lh (rX hp2 hu (by have:=HA.out;omega))
  unfold j5 at HPT
  have HG:=Lh (show cV u st=if qf u (jl u st).2≠0 then (authZ,qf u (jl u st).2) else ((jl u st).1,0) from rfl)
  obtain ⟨K,hK⟩:∃K,K=jl u st:=⟨_,rfl⟩
  rw [← hK] at HPT HG
  have HR2:=Lh (qx hb2 HR1.out HR1.out.lt)
  have HB2:=Lh (HB1.out.trans (hb2.mono HB1.out.size))
  have HZ2:=Lh (show w.heap.size+2≤o∧w.heap.size+2≤m∧w1.heap.size≤w2.heap.size from ⟨Nat.le_trans HZ1.out ho2,Nat.le_trans HZ1.out hm2,hb2.size⟩)
  clear hC hp2 ho2 hm2 hb2 HR1 HB1 hK hu
  obtain ⟨A,S⟩:=K
  dsimp only at HPT HG
  go_wp2_with fail
  refine HPT.out.mono ?_
  clear HPT
  rintro e w3 ⟨⟨ia,ic,rfl,hs3⟩,hp3,ht3⟩
  have HS3:=Lh hs3
  have HR3:=Lh (ht3.row HR2.out (by have:=HZ2.out;omega))
  have HB3:=Lh (HB2.out.trans (ht3.below (by have:=HZ1.out;have:=HZ2.out;omega) fun k hk e=>by have:=HZ2.out;omega))
  have HZ3:=Lh (show w2.heap.size≤w3.heap.size from ht3.size)
  obtain ⟨WX,hWX⟩:∃WX,WX=w3.alloc (.cells #[.int .i64 A.thr,.slice ia A.ids.length ic] 30):=⟨_,rfl⟩
  have hbX:Below w3.heap.size w3 WX:=by rw [hWX];exact (Below.refl _ _).alloc lz _
  have hxX:WX.heap[w3.heap.size]?=some (.cells #[.int .i64 A.thr,.slice ia A.ids.length ic] 30 (0,0)):=by rw [hWX];exact heap_alloc_new w3 _
  have HD:=Lh (co (hp3.below hbX) HU.out)
  have HBX:=Lh (HB3.out.trans (hbX.mono HB3.out.size))
  have hrX:=qx hbX HR3.out HR3.out.lt
  have HRX:=Lh hrX
  have HXX:=Lh hxX
  have HSX:=Lh (show qk WX w2.heap.size WX.heap.size ia A.ids from hs3.below hbX lz lz hbX.size)
  have HZZ:=Lh (show w.heap.size+2≤w2.heap.size from Nat.le_trans HZ1.out HZ2.out.2.2)
  have HWX:=Lh hWX
  clear hs3 hp3 ht3 hbX hxX hWX HR3 HB3 HR2 HB2 HS3
  obtain ⟨dn,hdn⟩:∃dn,dn=qf u S:=⟨_,rfl⟩
  rw [← hdn] at HD HG
  clear hdn
  go_upto_region 5 with fail
  rw [← HWX.out]
  clear HWX
  go_wp2_with fail
  refine HD.out.mono ?_
  clear HD
  rintro e w4 ⟨rfl,h4⟩
  subst h4
  have t0:=hrX.cell (i:=0) (by decide);have t1:=hrX.cell (i:=1) (by decide)
  have s0:=hrX.frozen 0;have s1:=hrX.frozen 1
  simp only [zA] at t0 t1
  clear hrX
  have x0:=qq HXX.out (j:=0) rfl;have x1:=qq HXX.out (j:=1) rfl
  by_cases hd:dn=0
  · subst hd
    rw [if_neg (by decide)] at HG
    go_wp2
    refine bodyPost_ret (qj Tryz.results109 _ _ (w.heap.size+1) 30 _ (0,0) _ rfl (qC (set2 _ _ HRX.out)) Tryz.underlying30 rfl (by kernel_rfl) _ rfl) rfl ?_
    refine .inr ⟨rfl,u,HC.out,?_⟩
    rw [HG.out]
    refine ⟨ia,ic,rfl,?_,xi _ _ HBX.out (by omega)⟩
    exact HSX.out.carry (by have:=HZZ.out;omega) (Nat.le_of_eq cg.symm) (fun b h1 h2=>pl _ _ (by have:=HZZ.out;omega))
  · have d1:(dn != 0)=true:=by simpa using hd
    rw [if_pos hd] at HG
    clear hd
    go_wp2
    refine bodyPost_ret (qj Tryz.results109 _ _ (w.heap.size+1) 30 _ (0,0) _ rfl (qC (set2 _ _ HRX.out)) Tryz.underlying30 rfl (by kernel_rfl) _ rfl) rfl ?_
    refine .inr ⟨rfl,u,HC.out,?_⟩
    rw [HG.out]
    exact yV (xi _ _ HBX.out (by omega))
theorem yz (v:JV) (x:Value) (w:World) (lo:Nat) (hlo:0<lo) (hN:v.wt≤4294967296) (hR:Rep w lo w.heap.size v x) :
 Calls Tryz.prog 109 #[x] w (xw (qA v) w):=by
 refine (nL (z8 v) (st0 v) v x w hN (hR.carry (Nat.zero_le _) lz (fun _ _ _=>rfl)) (by unfold st0;split <;> simp) (fun hm w1 hb=>rx hN hlo hb.size (hR.below hb lz lz lz) (fun hk=>by have hp:=uh hm hk;exact ⟨hp.2.2.1,hp.2.2.2.1⟩))).mono ?_
 rintro e w' (⟨hm,h⟩|⟨hm,u,hu,h⟩)
 · have:qA v=(authZ,3):=by unfold qA;rw [if_pos hm]
   rw [this];exact h
 · unfold z8 at hu
   unfold st0 at h
   by_cases hk:v.kind=5
   · rw [if_pos hk] at hu h
     subst hu
     have:qA u=cV u ⟨[],0⟩:=by unfold qA;rw [if_neg (by rw [hm];decide),if_neg (by simp [hk])];rfl
     rw [this];exact h
   · rw [if_neg hk] at hu h
     subst hu
     have:qA v=(authZ,10):=by unfold qA;rw [if_neg (by rw [hm];decide),if_pos hk]
     rw [this]
     have e2:cV qL ⟨[],10⟩=(authZ,10):=by decide +kernel
     rw [e2] at h;exact h
structure TopsW (w:World):Prop where
 c0:w.cell? ⟨0,0,none⟩=some (.string ⟨#[114,111,111,116]⟩)
 c1:w.cell? ⟨0,1,none⟩=some (.string ⟨#[115,110,97,112,115,104,111,116]⟩)
 c2:w.cell? ⟨0,2,none⟩=some (.string ⟨#[116,97,114,103,101,116,115]⟩)
 lt:0<w.heap.size
theorem TopsW.below {w w':World} (h:TopsW w) (hb:Below w.heap.size w w'):TopsW w' :=
 ⟨by rw [hb.cell h.lt];exact h.c0,by rw [hb.cell h.lt];exact h.c1,by rw [hb.cell h.lt];exact h.c2,Nat.lt_of_lt_of_le h.lt hb.size⟩
theorem rJ (w:World):(Instr.index 103 (.agg #[.string ⟨#[114,111,111,116]⟩,.string ⟨#[115,110,97,112,115,104,111,116]⟩,.string ⟨#[116,97,114,103,101,116,115]⟩]) (.int .i64 0)).run Tryz.prog w=.ok (.string ⟨#[114,111,111,116]⟩) w:=by kernel_rfl
theorem rK (w:World):(Instr.index 103 (.agg #[.string ⟨#[114,111,111,116]⟩,.string ⟨#[115,110,97,112,115,104,111,116]⟩,.string ⟨#[116,97,114,103,101,116,115]⟩]) (.int .i64 1)).run Tryz.prog w=.ok (.string ⟨#[115,110,97,112,115,104,111,116]⟩) w:=by kernel_rfl
theorem rV (w:World):(Instr.index 103 (.agg #[.string ⟨#[114,111,111,116]⟩,.string ⟨#[115,110,97,112,115,104,111,116]⟩,.string ⟨#[116,97,114,103,101,116,115]⟩]) (.int .i64 2)).run Tryz.prog w=.ok (.string ⟨#[116,97,114,103,101,116,115]⟩) w:=by kernel_rfl
def kt (u:JV) (st:PS):AuthV × PS:=vZ u qo st
def kM (u:JV) (st:PS):AuthV × PS:=vZ u zp (kt u st).2
def yx (u:JV) (st:PS):AuthV × PS:=vZ u zO (kM u st).2
def fX (u:JV) (st:PS):Auth3 × Int:=if qf u (yx u st).2≠0 then (bj,qf u (yx u st).2) else (⟨(kt u st).1,(kM u st).1,(yx u st).1⟩,0)
theorem cW {v:JV} {y:ByteArray} {most:Nat} {st:PS}:(qv v y most st).2.asked.length≤st.asked.length+1:=by
 unfold qv
 split
 · exact Nat.le_succ _
 · split
   · exact Nat.le_succ _
   · split
     · exact Nat.le_succ _
     · split
       · exact Nat.le_succ _
       · simp
theorem pS {v:JV} {y:ByteArray} {st:PS}:(vZ v y st).2.asked.length≤st.asked.length+1:=by
 unfold vZ
 dsimp only
 rw [ju]
 exact cW
def kC (p B:Nat) (x y z:AuthV) (w:World):Prop :=
 ∃j1 c1 j2 c2 j3 c3,w.rowIs p 89 6 (vT (.int .i64 x.thr) (.slice j1 x.ids.length c1) (.int .i64 y.thr) (.slice j2 y.ids.length c2) (.int .i64 z.thr) (.slice j3 z.ids.length c3))∧qk w B w.heap.size j1 x.ids∧qk w B w.heap.size j2 y.ids∧qk w B w.heap.size j3 z.ids
theorem kC.touch {p B:Nat} {x y z:AuthV} {w w':World} {S:Nat→Prop} (h:kC p B x y z w) (ht:Touch S w w') (hp:¬S p) (hS:∀b,B≤b→¬S b):kC p B x y z w':=by
 obtain ⟨j1,c1,j2,c2,j3,c3,h1,h2,h3,h4⟩:=h
 have hc:=fun b (hb:B≤b) hl=>ht.block b hl (hS b hb)
 exact ⟨j1,c1,j2,c2,j3,c3,ht.row h1 hp,h2.carry lz ht.size hc,h3.carry lz ht.size hc,h4.carry lz ht.size hc⟩
theorem kC.below {p B:Nat} {x y z:AuthV} {w w':World} (h:kC p B x y z w) (hb:Below w.heap.size w w'):kC p B x y z w' :=
 h.touch (S:=fun _=>False) (Touch.of_below hb lz) (fun h=>h) (fun _ _ h=>h)
theorem xn {p B:Nat} {l:List ByteArray} {a:Option Addr} {w w':World} (h:qk w B w.heap.size a l) (hB:p<B) (ht:Touch (fun b=>b=p) w w'):qk w' B w'.heap.size a l :=
 h.carry lz ht.size fun b h1 h2=>ht.block b h2 (by omega)
theorem fJ {w:World} {p i j:Nat} (u v:Value):Touch (fun b=>b=p) w ((w.setCell ⟨p,i,none⟩ u).setCell ⟨p,j,none⟩ v):=(qr u).trans (qr v)
def yj (r:Auth3 × Int) (w:World) (e:Ending) (w':World):Prop :=
 ∃j1 c1 j2 c2 j3 c3,e=.returned (.tuple #[.agg #[.int .i64 r.1.a.thr,.slice j1 r.1.a.ids.length c1,.int .i64 r.1.b.thr,.slice j2 r.1.b.ids.length c2,.int .i64 r.1.c.thr,.slice j3 r.1.c.ids.length c3],.int .i64 r.2]) ∧
  qk w' w.heap.size w'.heap.size j1 r.1.a.ids∧qk w' w.heap.size w'.heap.size j2 r.1.b.ids∧qk w' w.heap.size w'.heap.size j3 r.1.c.ids∧Below w.heap.size w w'
set_option maxHeartbeats 4000000 in
set_option maxRecDepth 100000 in
theorem yW (v:JV) (x:Value) (w:World) (lo:Nat) (hlo:0<lo) (hN:v.wt≤4294967296) (hR:Rep w lo w.heap.size v x) (hp:v.kind=5→ql v.names=true∧v.names.length=v.items.length) (hT:TopsW w) :
 Calls Tryz.prog 59 #[x] w (yj (zH v) w):=by
 obtain ⟨an,cn,ai,ci,hx,h1,h2,h3,h4⟩:=hR.parts
 clear h1 h2 h3 h4
 subst hx
 have HOF:=Lh (fun (w1:World) (hb:Below w.heap.size w w1)=>rx (w:=w1) hN hlo hb.size (hR.below hb lz lz lz) hp)
 obtain ⟨W,hW⟩:∃W,W=(w.alloc (.cells #[.int .u8 v.kind,.int .i64 v.n,.string v.t,.slice an v.names.length cn,.slice ai v.items.length ci] 25)).alloc (.cells #[.int .i64 0,.slice none 0 0,.int .i64 0,.slice none 0 0,.int .i64 0,.slice none 0 0] 89):=⟨_,rfl⟩
 have hz1:(w.alloc (.cells #[.int .u8 v.kind,.int .i64 v.n,.string v.t,.slice an v.names.length cn,.slice ai v.items.length ci] 25)).heap.size=w.heap.size+1:=by simp
 have hb:Below w.heap.size w W:=by rw [hW];exact ((Below.refl _ _).alloc lz _).alloc (by simp) _
 have hx0:W.heap[w.heap.size]?=some (.cells #[.int .u8 v.kind,.int .i64 v.n,.string v.t,.slice an v.names.length cn,.slice ai v.items.length ci] 25 (0,0)):=by rw [hW];exact xG w _ _
 have hr0:W.rowIs (w.heap.size+1) 89 6 (vT (.int .i64 0) (.slice none 0 0) (.int .i64 0) (.slice none 0 0) (.int .i64 0) (.slice none 0 0)):=by
  have:=kq (w.alloc (.cells #[.int .u8 v.kind,.int .i64 v.n,.string v.t,.slice an v.names.length cn,.slice ai v.items.length ci] 25)) (.int .i64 0) (.slice none 0 0) (.int .i64 0) (.slice none 0 0) (.int .i64 0) (.slice none 0 0) 89
  rw [hz1,← hW] at this
  exact this
 have HO1:=Lh (HOF.out W hb)
 have HTW:=Lh hT
 have HR0:=Lh hr0
 have HB:=Lh hb
 have HW:=Lh hW
 have HZ0:=Lh (show W.heap.size=w.heap.size+2 by rw [hW];simp)
 have HHI:=Lh (show (∃u,z8 v u∧fX u (st0 v)=zH v)∧(st0 v).asked.length≤1∧∀u,z8 v u→fX u (st0 v)=zH v from by
  have key:∀u,z8 v u→fX u (st0 v)=zH v:=fun u hu=>by
   unfold z8 at hu
   unfold st0 zH
   by_cases hk:v.kind=5
   · rw [if_pos hk] at hu ⊢
     subst hu
     rw [if_neg (by simp [hk])];rfl
   · rw [if_neg hk] at hu ⊢
     subst hu
     rw [if_pos hk]
     decide +kernel
  exact ⟨⟨_,rfl,key _ rfl⟩,by unfold st0;split <;> simp,key⟩)
 obtain ⟨c0,c1,c2,c3,c4⟩:=bx5 hx0
 clear hR hW hz1 hb hx0 hr0 hp hT HOF hN
 obtain ⟨st,hst⟩:∃st,st=st0 v:=⟨_,rfl⟩
 rw [← hst] at HO1 HHI
 obtain ⟨R,hRR⟩:∃R,R=zH v:=⟨_,rfl⟩
 rw [← hRR] at HHI ⊢
 clear hst hRR
 go_enter Tryz.func59,Tryz.ntmps59
 go_upto_region 1 with fail
 rw [← HW.out]
 clear HW
 go_wp2_with fail
 refine HO1.out.mono ?_
 clear HO1 c0 c1 c2 c3 c4
 rintro e w2 ⟨u,o,m,lo2,hi,an2,ai2,cn2,ci2,hC,hu,rfl,hp2,ho2,hm2,hb2⟩
 have HG:=Lh (HHI.out.2.2 u hC)
 have HU:=Lh hu
 have hlt:=hp2.lt
 obtain ⟨p,hpp⟩:∃p,p=w2.heap.size:=⟨_,rfl⟩
 obtain ⟨W3,hW3⟩:∃W3,W3=w2.alloc (.cells #[.int .i64 0,.slice none 0 0,.int .i64 0,.slice none 0 0,.int .i64 0,.slice none 0 0] 89):=⟨_,rfl⟩
 have hb3:Below w2.heap.size w2 W3:=by rw [hW3];exact (Below.refl _ _).alloc lz _
 have hq3:W3.rowIs p 89 6 (vT (.int .i64 0) (.slice none 0 0) (.int .i64 0) (.slice none 0 0) (.int .i64 0) (.slice none 0 0)):=by rw [hW3,hpp];exact kq _ _ _ _ _ _ _ _
 have HN:=Lh (show p≠o∧p≠m∧hi≤p∧w.heap.size+2≤o∧w.heap.size+2≤m∧w.heap.size+2≤p∧p<W3.heap.size∧o<W3.heap.size∧m<W3.heap.size from by
  have h1:=hb2.size;have h2:=hq3.lt;have h3:=HZ0.out;have h4:=hb3.size;omega)
 have HP3:=Lh (hp2.below hb3)
 have HR3:=Lh (qx (hb2.trans (hb3.mono hb2.size)) HR0.out HR0.out.lt)
 have HB3:=Lh (HB.out.trans ((hb2.trans (hb3.mono hb2.size)).mono HB.out.size))
 have HQ3:=Lh (show kC p W3.heap.size authZ authZ authZ W3 from ⟨none,0,none,0,none,0,hq3,.inl rfl,.inl rfl,.inl rfl⟩)
 have HW3:=Lh hW3
 have HPE:=Lh hpp
 have HST:=Lh HHI.out.2.1
 clear hC hu hlt hp2 ho2 hm2 hb2 hb3 hq3 hW3 hpp HHI HR0 HB
 have g0:=(HTW.out.below HB3.out).c0;have g1:=(HTW.out.below HB3.out).c1;have g2:=(HTW.out.below HB3.out).c2
 go_upto_region 3 with fail
 rw [← HW3.out,← HPE.out]
 clear HPE HW3
 go_wp2
 clear g0 g1 g2
 go_loopw [6,7,8,9,14] (fun _ _ _ _ i wr=>Touch (fun b=>b=o∨b=m∨b=p) W3 wr∧((i=.int .i64 0∧ze o m lo2 hi u an2 ai2 cn2 ci2 st wr∧kC p W3.heap.size authZ authZ authZ wr)∨(i=.int .i64 1∧ze o m lo2 hi u an2 ai2 cn2 ci2 (kt u st).2 wr∧kC p W3.heap.size (kt u st).1 authZ authZ wr)∨(i=.int .i64 2∧ze o m lo2 hi u an2 ai2 cn2 ci2 (kM u st).2 wr∧kC p W3.heap.size (kt u st).1 (kM u st).1 authZ wr)∨(i=.int .i64 3∧ze o m lo2 hi u an2 ai2 cn2 ci2 (yx u st).2 wr∧kC p W3.heap.size (kt u st).1 (kM u st).1 (yx u st).1 wr))) (fun _ _ _ _ i _=>3 - (intOf i).toNat)
 case atStart=>exact ⟨Touch.refl _ _,.inl ⟨rfl,HP3.out,HQ3.out⟩⟩
 case round =>
  obtain ⟨ht,hcase⟩:=hrel
  have HT:=Lh ht
  have HZR:=Lh ht.size
  have HLN:=Lh (show (kt u st).2.asked.length≤2∧(kM u st).2.asked.length≤3 from by
   have h1:=@pS u qo st
   have h2:=@pS u zp (kt u st).2
   have h3:=HST.out
   unfold kM
   unfold kt at h2 ⊢
   omega)
  have HBR:=Lh (show Below w.heap.size w wr from HB3.out.trans (ht.below (by have:=HN.out;omega) fun k hk e=>by have:=HN.out;omega))
  clear ht
  rcases hcase with ⟨rfl,hp,hrol⟩|⟨rfl,hp,hrol⟩|⟨rfl,hp,hrol⟩|⟨rfl,hp,hrol⟩
  · have HQ:=Lh hrol
    have HOB:=Lh (g9 qo 8192 hp (by decide) (by have:=HLN.out;have:=HST.out;omega))
    have HSV:=Lh (show (kt u st)=((qA (qv u qo 8192 st).1).1,(qv u qo 8192 st).2.fail (qA (qv u qo 8192 st).1).2) from rfl)
    have HWT:=Lh (@xj u qo 8192 st HU.out)
    have ix:=rJ
    clear hp hrol
    unfold fs at HOB
    obtain ⟨J,hJ⟩:∃J,J=qv u qo 8192 st:=⟨_,rfl⟩
    rw [← hJ] at HOB HSV HWT
    clear hJ
    obtain ⟨J,S⟩:=J
    dsimp only at HOB HSV HWT
    go_wp2_with fail
    refine HOB.out.mono ?_
    clear HOB ix
    rintro e w5 ⟨⟨an5,cn5,ai5,ci5,rfl,hr5⟩,hp5,ht5⟩
    have HAO:=Lh (yz J _ w5 wr.heap.size (by have:=HZR.out;have:=HN.out;omega) HWT.out hr5)
    unfold xw at HAO
    obtain ⟨A,hA⟩:∃A,A=qA J:=⟨_,rfl⟩
    rw [← hA] at HAO HSV
    clear hA
    obtain ⟨A,er⟩:=A
    dsimp only at HAO HSV
    have HP5:=Lh hp5
    have HQ5:=Lh (HQ.out.touch ht5 (by have:=HN.out;omega) (fun b hb=>by have:=HN.out;omega))
    have HT5:=Lh (HT.out.trans (ht5.mono fun k _ h=>h.elim .inl (fun h=>.inr (.inl h))))
    have HZ5:=Lh (Nat.le_trans HZR.out ht5.size)
    clear hr5 hp5 ht5 HQ
    go_wp2_with fail
    refine HAO.out.mono ?_
    clear HAO
    rintro e w6 ⟨ja,jc,rfl,hs6,hb6⟩
    obtain ⟨WX,hWX⟩:∃WX,WX=w6.alloc (.cells #[.int .i64 A.thr,.slice ja A.ids.length jc] 30):=⟨_,rfl⟩
    have hbX:Below w6.heap.size w6 WX:=by rw [hWX];exact (Below.refl _ _).alloc lz _
    have hxX:WX.heap[w6.heap.size]?=some (.cells #[.int .i64 A.thr,.slice ja A.ids.length jc] 30 (0,0)):=by rw [hWX];exact heap_alloc_new w6 _
    have hb5:=hb6.trans (hbX.mono hb6.size)
    have HP6:=Lh (HP5.out.below hb5)
    have HQ6:=Lh (HQ5.out.below hb5)
    have HT6:=Lh (HT5.out.trans (Touch.of_below hb5 lz))
    have HS6:=Lh (show qk WX W3.heap.size WX.heap.size ja A.ids from hs6.below hbX lz HZ5.out hbX.size)
    have HX6:=Lh hxX
    have HZ6:=Lh (show W3.heap.size≤w6.heap.size∧W3.heap.size≤WX.heap.size from ⟨Nat.le_trans HZ5.out hb6.size,Nat.le_trans HZ5.out (Nat.le_trans hb6.size hbX.size)⟩)
    have HWX:=Lh hWX
    clear hs6 hb6 hWX hbX hxX hb5 HP5 HQ5 HT5
    go_upto_region 7 with fail
    rw [← HWX.out]
    clear HWX
    go_wp2_with fail
    refine (jT er HP6.out).mono ?_
    rintro e w7 ⟨rfl,hp7,ht7⟩
    have HP7:=Lh hp7
    have HT7:=Lh (HT6.out.trans (ht7.mono fun k _ h=>h.elim .inl (fun h=>.inr (.inl h))))
    have hx7:=(ht7.block _ (qz HX6.out) (by have:=HN.out;have:=HZ6.out;omega)).trans HX6.out
    have HS7:=Lh (show qk w7 W3.heap.size w7.heap.size ja A.ids from HS6.out.carry lz ht7.size (fun b h1 h2=>ht7.block b h2 (by have:=HN.out;omega)))
    obtain ⟨j1,c1,j2,c2,j3,c3,hq,hs1,hs2,hs3⟩:=HQ6.out.touch ht7 (by have:=HN.out;omega) (fun b hb=>by have:=HN.out;omega)
    have HQ7:=Lh hq
    have HSA:=Lh hs1
    have HSB:=Lh hs2
    have HSC:=Lh hs3
    have x0:=qq hx7 (j:=0) rfl;have x1:=qq hx7 (j:=1) rfl
    have qa:=hq.cell (i:=0) (by decide);have qb:=hq.cell (i:=1) (by decide)
    have fa:=hq.frozen 0;have fb:=hq.frozen 1
    clear hp7 ht7 hq hs1 hs2 hs3 HP6 HQ6 HT6 HS6 HX6 hx7
    go_wp2
    go_roundw
    case rel =>
     have hput:Touch (fun b=>b=p) w7 ((w7.setCell ⟨p,0,none⟩ (.int .i64 A.thr)).setCell ⟨p,1,none⟩ (.slice ja A.ids.length jc)):=fJ _ _
     have hpB:p<W3.heap.size:=by have:=HN.out;omega
     refine ⟨HT7.out.trans (hput.mono fun k _ h=>.inr (.inr h)),.inr (.inl ⟨rfl,?_,?_⟩)⟩
     · rw [show (kt u st).2=S.fail er from congrArg Prod.snd HSV.out]
       exact HP7.out.touch hput HN.out.1 HN.out.2.1 HN.out.2.2.1
     · rw [show (kt u st).1=A from congrArg Prod.fst HSV.out]
       refine ⟨ja,jc,j2,c2,j3,c3,(((HQ7.out.set 0 _).set 1 _).congr fun j hj=>?_),xn HS7.out hpB hput,xn HSB.out hpB hput,xn HSC.out hpB hput⟩
       rcases j with _|_|_|_|_|_|j <;> first|rfl|omega
    case measure=>simp [intOf]
  · have HQ:=Lh hrol
    have HOB:=Lh (g9 zp 8192 hp (by decide) (by have:=HLN.out;have:=HST.out;omega))
    have HSV:=Lh (show (kM u st)=((qA (qv u zp 8192 (kt u st).2).1).1,(qv u zp 8192 (kt u st).2).2.fail (qA (qv u zp 8192 (kt u st).2).1).2) from rfl)
    have HWT:=Lh (@xj u zp 8192 (kt u st).2 HU.out)
    have ix:=rK
    clear hp hrol
    unfold fs at HOB
    obtain ⟨J,hJ⟩:∃J,J=qv u zp 8192 (kt u st).2:=⟨_,rfl⟩
    rw [← hJ] at HOB HSV HWT
    clear hJ
    obtain ⟨J,S⟩:=J
    dsimp only at HOB HSV HWT
    go_wp2_with fail
    refine HOB.out.mono ?_
    clear HOB ix
    rintro e w5 ⟨⟨an5,cn5,ai5,ci5,rfl,hr5⟩,hp5,ht5⟩
    have HAO:=Lh (yz J _ w5 wr.heap.size (by have:=HZR.out;have:=HN.out;omega) HWT.out hr5)
    unfold xw at HAO
    obtain ⟨A,hA⟩:∃A,A=qA J:=⟨_,rfl⟩
    rw [← hA] at HAO HSV
    clear hA
    obtain ⟨A,er⟩:=A
    dsimp only at HAO HSV
    have HP5:=Lh hp5
    have HQ5:=Lh (HQ.out.touch ht5 (by have:=HN.out;omega) (fun b hb=>by have:=HN.out;omega))
    have HT5:=Lh (HT.out.trans (ht5.mono fun k _ h=>h.elim .inl (fun h=>.inr (.inl h))))
    have HZ5:=Lh (Nat.le_trans HZR.out ht5.size)
    clear hr5 hp5 ht5 HQ
    go_wp2_with fail
    refine HAO.out.mono ?_
    clear HAO
    rintro e w6 ⟨ja,jc,rfl,hs6,hb6⟩
    obtain ⟨WX,hWX⟩:∃WX,WX=w6.alloc (.cells #[.int .i64 A.thr,.slice ja A.ids.length jc] 30):=⟨_,rfl⟩
    have hbX:Below w6.heap.size w6 WX:=by rw [hWX];exact (Below.refl _ _).alloc lz _
    have hxX:WX.heap[w6.heap.size]?=some (.cells #[.int .i64 A.thr,.slice ja A.ids.length jc] 30 (0,0)):=by rw [hWX];exact heap_alloc_new w6 _
    have hb5:=hb6.trans (hbX.mono hb6.size)
    have HP6:=Lh (HP5.out.below hb5)
    have HQ6:=Lh (HQ5.out.below hb5)
    have HT6:=Lh (HT5.out.trans (Touch.of_below hb5 lz))
    have HS6:=Lh (show qk WX W3.heap.size WX.heap.size ja A.ids from hs6.below hbX lz HZ5.out hbX.size)
    have HX6:=Lh hxX
    have HZ6:=Lh (show W3.heap.size≤w6.heap.size∧W3.heap.size≤WX.heap.size from ⟨Nat.le_trans HZ5.out hb6.size,Nat.le_trans HZ5.out (Nat.le_trans hb6.size hbX.size)⟩)
    have HWX:=Lh hWX
    clear hs6 hb6 hWX hbX hxX hb5 HP5 HQ5 HT5
    go_upto_region 7 with fail
    rw [← HWX.out]
    clear HWX
    go_wp2_with fail
    refine (jT er HP6.out).mono ?_
    rintro e w7 ⟨rfl,hp7,ht7⟩
    have HP7:=Lh hp7
    have HT7:=Lh (HT6.out.trans (ht7.mono fun k _ h=>h.elim .inl (fun h=>.inr (.inl h))))
    have hx7:=(ht7.block _ (qz HX6.out) (by have:=HN.out;have:=HZ6.out;omega)).trans HX6.out
    have HS7:=Lh (show qk w7 W3.heap.size w7.heap.size ja A.ids from HS6.out.carry lz ht7.size (fun b h1 h2=>ht7.block b h2 (by have:=HN.out;omega)))
    obtain ⟨j1,c1,j2,c2,j3,c3,hq,hs1,hs2,hs3⟩:=HQ6.out.touch ht7 (by have:=HN.out;omega) (fun b hb=>by have:=HN.out;omega)
    have HQ7:=Lh hq
    have HSA:=Lh hs1
    have HSB:=Lh hs2
    have HSC:=Lh hs3
    have x0:=qq hx7 (j:=0) rfl;have x1:=qq hx7 (j:=1) rfl
    have qa:=hq.cell (i:=2) (by decide);have qb:=hq.cell (i:=3) (by decide)
    have fa:=hq.frozen 2;have fb:=hq.frozen 3
    clear hp7 ht7 hq hs1 hs2 hs3 HP6 HQ6 HT6 HS6 HX6 hx7
    go_wp2
    go_roundw
    case rel =>
     have hput:Touch (fun b=>b=p) w7 ((w7.setCell ⟨p,2,none⟩ (.int .i64 A.thr)).setCell ⟨p,3,none⟩ (.slice ja A.ids.length jc)):=fJ _ _
     have hpB:p<W3.heap.size:=by have:=HN.out;omega
     refine ⟨HT7.out.trans (hput.mono fun k _ h=>.inr (.inr h)),.inr (.inr (.inl ⟨rfl,?_,?_⟩))⟩
     · rw [show (kM u st).2=S.fail er from congrArg Prod.snd HSV.out]
       exact HP7.out.touch hput HN.out.1 HN.out.2.1 HN.out.2.2.1
     · rw [show (kM u st).1=A from congrArg Prod.fst HSV.out]
       refine ⟨j1,c1,ja,jc,j3,c3,(((HQ7.out.set 2 _).set 3 _).congr fun j hj=>?_),xn HSA.out hpB hput,xn HS7.out hpB hput,xn HSC.out hpB hput⟩
       rcases j with _|_|_|_|_|_|j <;> first|rfl|omega
    case measure=>simp [intOf]
  · have HQ:=Lh hrol
    have HOB:=Lh (g9 zO 8192 hp (by decide) (by have:=HLN.out;have:=HST.out;omega))
    have HSV:=Lh (show (yx u st)=((qA (qv u zO 8192 (kM u st).2).1).1,(qv u zO 8192 (kM u st).2).2.fail (qA (qv u zO 8192 (kM u st).2).1).2) from rfl)
    have HWT:=Lh (@xj u zO 8192 (kM u st).2 HU.out)
    have ix:=rV
    clear hp hrol
    unfold fs at HOB
    obtain ⟨J,hJ⟩:∃J,J=qv u zO 8192 (kM u st).2:=⟨_,rfl⟩
    rw [← hJ] at HOB HSV HWT
    clear hJ
    obtain ⟨J,S⟩:=J
    dsimp only at HOB HSV HWT
    go_wp2_with fail
    refine HOB.out.mono ?_
    clear HOB ix
    rintro e w5 ⟨⟨an5,cn5,ai5,ci5,rfl,hr5⟩,hp5,ht5⟩
    have HAO:=Lh (yz J _ w5 wr.heap.size (by have:=HZR.out;have:=HN.out;omega) HWT.out hr5)
    unfold xw at HAO
    obtain ⟨A,hA⟩:∃A,A=qA J:=⟨_,rfl⟩
    rw [← hA] at HAO HSV
    clear hA
    obtain ⟨A,er⟩:=A
    dsimp only at HAO HSV
    have HP5:=Lh hp5
    have HQ5:=Lh (HQ.out.touch ht5 (by have:=HN.out;omega) (fun b hb=>by have:=HN.out;omega))
    have HT5:=Lh (HT.out.trans (ht5.mono fun k _ h=>h.elim .inl (fun h=>.inr (.inl h))))
    have HZ5:=Lh (Nat.le_trans HZR.out ht5.size)
    clear hr5 hp5 ht5 HQ
    go_wp2_with fail
    refine HAO.out.mono ?_
    clear HAO
    rintro e w6 ⟨ja,jc,rfl,hs6,hb6⟩
    obtain ⟨WX,hWX⟩:∃WX,WX=w6.alloc (.cells #[.int .i64 A.thr,.slice ja A.ids.length jc] 30):=⟨_,rfl⟩
    have hbX:Below w6.heap.size w6 WX:=by rw [hWX];exact (Below.refl _ _).alloc lz _
    have hxX:WX.heap[w6.heap.size]?=some (.cells #[.int .i64 A.thr,.slice ja A.ids.length jc] 30 (0,0)):=by rw [hWX];exact heap_alloc_new w6 _
    have hb5:=hb6.trans (hbX.mono hb6.size)
    have HP6:=Lh (HP5.out.below hb5)
    have HQ6:=Lh (HQ5.out.below hb5)
    have HT6:=Lh (HT5.out.trans (Touch.of_below hb5 lz))
    have HS6:=Lh (show qk WX W3.heap.size WX.heap.size ja A.ids from hs6.below hbX lz HZ5.out hbX.size)
    have HX6:=Lh hxX
    have HZ6:=Lh (show W3.heap.size≤w6.heap.size∧W3.heap.size≤WX.heap.size from ⟨Nat.le_trans HZ5.out hb6.size,Nat.le_trans HZ5.out (Nat.le_trans hb6.size hbX.size)⟩)
    have HWX:=Lh hWX
    clear hs6 hb6 hWX hbX hxX hb5 HP5 HQ5 HT5
    go_upto_region 7 with fail
    rw [← HWX.out]
    clear HWX
    go_wp2_with fail
    refine (jT er HP6.out).mono ?_
    rintro e w7 ⟨rfl,hp7,ht7⟩
    have HP7:=Lh hp7
    have HT7:=Lh (HT6.out.trans (ht7.mono fun k _ h=>h.elim .inl (fun h=>.inr (.inl h))))
    have hx7:=(ht7.block _ (qz HX6.out) (by have:=HN.out;have:=HZ6.out;omega)).trans HX6.out
    have HS7:=Lh (show qk w7 W3.heap.size w7.heap.size ja A.ids from HS6.out.carry lz ht7.size (fun b h1 h2=>ht7.block b h2 (by have:=HN.out;omega)))
    obtain ⟨j1,c1,j2,c2,j3,c3,hq,hs1,hs2,hs3⟩:=HQ6.out.touch ht7 (by have:=HN.out;omega) (fun b hb=>by have:=HN.out;omega)
    have HQ7:=Lh hq
    have HSA:=Lh hs1
    have HSB:=Lh hs2
    have HSC:=Lh hs3
    have x0:=qq hx7 (j:=0) rfl;have x1:=qq hx7 (j:=1) rfl
    have qa:=hq.cell (i:=4) (by decide);have qb:=hq.cell (i:=5) (by decide)
    have fa:=hq.frozen 4;have fb:=hq.frozen 5
    clear hp7 ht7 hq hs1 hs2 hs3 HP6 HQ6 HT6 HS6 HX6 hx7
    go_wp2
    go_roundw
    case rel =>
     have hput:Touch (fun b=>b=p) w7 ((w7.setCell ⟨p,4,none⟩ (.int .i64 A.thr)).setCell ⟨p,5,none⟩ (.slice ja A.ids.length jc)):=fJ _ _
     have hpB:p<W3.heap.size:=by have:=HN.out;omega
     refine ⟨HT7.out.trans (hput.mono fun k _ h=>.inr (.inr h)),.inr (.inr (.inr ⟨rfl,?_,?_⟩))⟩
     · rw [show (yx u st).2=S.fail er from congrArg Prod.snd HSV.out]
       exact HP7.out.touch hput HN.out.1 HN.out.2.1 HN.out.2.2.1
     · rw [show (yx u st).1=A from congrArg Prod.fst HSV.out]
       refine ⟨j1,c1,j2,c2,ja,jc,(((HQ7.out.set 4 _).set 5 _).congr fun j hj=>?_),xn HSA.out hpB hput,xn HSB.out hpB hput,xn HS7.out hpB hput⟩
       rcases j with _|_|_|_|_|_|j <;> first|rfl|omega
    case measure=>simp [intOf]
  · have HD:=Lh (co hp HU.out)
    have HGG:=Lh (show fX u st=if qf u (yx u st).2≠0 then (bj,qf u (yx u st).2) else (⟨(kt u st).1,(kM u st).1,(yx u st).1⟩,0) from rfl)
    obtain ⟨dn,hdn⟩:∃dn,dn=qf u (yx u st).2:=⟨_,rfl⟩
    rw [← hdn] at HD HGG
    clear hdn
    obtain ⟨X,hX⟩:∃X,X=(kt u st).1:=⟨_,rfl⟩
    obtain ⟨Y,hY⟩:∃Y,Y=(kM u st).1:=⟨_,rfl⟩
    obtain ⟨Z,hZ⟩:∃Z,Z=(yx u st).1:=⟨_,rfl⟩
    rw [← hX,← hY,← hZ] at hrol HGG
    clear hX hY hZ
    obtain ⟨j1,c1,j2,c2,j3,c3,hq,hs1,hs2,hs3⟩:=hrol
    have hr:=HT.out.row HR3.out (by have:=HN.out;omega)
    have HRR:=Lh hr
    have HS1:=Lh hs1
    have HS2:=Lh hs2
    have HS3:=Lh hs3
    obtain ⟨q0,q1,q2,q3,q4⟩:=rc5 hq;have q5:=hq.cell (i:=5) (by decide)
    obtain ⟨t0,t1,t2,t3,t4⟩:=rc5 hr;have t5:=hr.cell (i:=5) (by decide)
    obtain ⟨s0,s1,s2,s3,s4⟩:=rf5 hr;have s5:=hr.frozen 5
    simp only [vT] at q0 q1 q2 q3 q4 q5 t0 t1 t2 t3 t4 t5
    have HZB:=Lh (show w.heap.size+2≤W3.heap.size from by have:=HN.out;omega)
    clear hq hr hs1 hs2 hs3 hp
    go_wp2_with fail
    refine HD.out.mono ?_
    clear HD
    rintro e w4 ⟨rfl,h4⟩
    subst h4
    by_cases hd:dn=0
    · subst hd
      rw [if_neg (by decide)] at HGG
      go_wp2
      refine bodyPost_ret (qj Tryz.results59 _ _ (w.heap.size+1) 89 _ (0,0) _ rfl (kA (nw _ _ _ _ _ _ HRR.out)) Tryz.underlying89 rfl (by kernel_rfl) _ rfl) rfl ?_
      rw [← HG.out,HGG.out]
      refine ⟨j1,c1,j2,c2,j3,c3,rfl,?_,?_,?_,fw _ _ _ _ _ _ HBR.out (by omega)⟩
      · exact HS1.out.carry (by have:=HZB.out;omega) (Nat.le_of_eq lP.symm) (fun b h1 h2=>cz _ _ _ _ _ _ (by have:=HZB.out;omega))
      · exact HS2.out.carry (by have:=HZB.out;omega) (Nat.le_of_eq lP.symm) (fun b h1 h2=>cz _ _ _ _ _ _ (by have:=HZB.out;omega))
      · exact HS3.out.carry (by have:=HZB.out;omega) (Nat.le_of_eq lP.symm) (fun b h1 h2=>cz _ _ _ _ _ _ (by have:=HZB.out;omega))
    · have d1:(dn != 0)=true:=by simpa using hd
      rw [if_pos hd] at HGG
      clear hd
      go_wp2
      refine bodyPost_ret (qj Tryz.results59 _ _ (w.heap.size+1) 89 _ (0,0) _ rfl (kA (nw _ _ _ _ _ _ HRR.out)) Tryz.underlying89 rfl (by kernel_rfl) _ rfl) rfl ?_
      rw [← HG.out,HGG.out]
      exact ⟨none,0,none,0,none,0,rfl,.inl rfl,.inl rfl,.inl rfl,fw _ _ _ _ _ _ HBR.out (by omega)⟩
end Go.Proofs.YtnlgmcapbbgelaaGreatDoor

namespace Go.Proofs.YtnlgmcapbbgelaaGreatDoor
open Go.ChangeShapes Go.WideShapes Go.ChangeAt Go.RowKit Go.Joins Go.ChangeMaps
theorem own:ownKnob Tryz.prog.godebug=none:=by kernel_rfl
theorem aS : Tryz.prog.globalNamed "legate/hex.digits" = some 2 := by kernel_rfl
theorem aA : Tryz.prog.globalNamed "legate/sha.initial" = some 4 := by kernel_rfl
theorem aT : Tryz.prog.globalNamed "legate/sha.rounds" = some 5 := by kernel_rfl
theorem aI:(Tryz.prog.globals[2]?).map (·.type)=some 184:=by kernel_rfl
theorem aO:(Tryz.prog.globals[4]?).map (·.type)=some 211:=by kernel_rfl
theorem aE:(Tryz.prog.globals[5]?).map (·.type)=some 238:=by kernel_rfl
theorem rW:Tryz.prog.cellsOf 184=16:=by kernel_rfl
theorem rY:Tryz.prog.cellsOf 211=8:=by kernel_rfl
theorem rG:Tryz.prog.cellsOf 238=64:=by kernel_rfl
theorem cells5:Tryz.prog.cellsOf 5=1:=by kernel_rfl
theorem cY:Tryz.prog.cellsOf 198=1:=by kernel_rfl
theorem tZ : Tryz.prog.globalNamed "internal/strconv.uint64pow10" = some 6 := by kernel_rfl
theorem tq : Tryz.prog.globalNamed "legate/when.before" = some 1 := by kernel_rfl
theorem tz:(Tryz.prog.globals[6]?).map (·.type)=some 255:=by kernel_rfl
theorem tx:(Tryz.prog.globals[1]?).map (·.type)=some 133:=by kernel_rfl
theorem rB:Tryz.prog.cellsOf 255=20:=by kernel_rfl
theorem rP:Tryz.prog.cellsOf 133=13:=by kernel_rfl
theorem nR:Tryz.prog.cellsOf 200=1:=by kernel_rfl
theorem rF:Tryz.prog.cellsOf 3=1:=by kernel_rfl
theorem tX : Tryz.prog.globalNamed "legate/root.tops" = some 0 := by kernel_rfl
theorem tj:(Tryz.prog.globals[0]?).map (·.type)=some 103:=by kernel_rfl
theorem rH:Tryz.prog.cellsOf 103=3:=by kernel_rfl
def hexZs:List Int:=[48,49,50,51,52,53,54,55,56,57,97,98,99,100,101,102]
def iniZs:List Int:=[1779033703,3144134277,1013904242,2773480762,1359893119,2600822924,528734635,1541459225]
def befZs:List Int:=[0,31,59,90,120,151,181,212,243,273,304,334,365]
abbrev laidAll : List (String × DataW Unit) := [("legate/hex.digits", Rows.laid_legate_hex_digits), ("math/bits.deBruijn32tab", Rows.laid_math_bits_deBruijn32tab), ("math/bits.deBruijn64tab", Rows.laid_math_bits_deBruijn64tab), ("internal/strconv.uint64pow10", Rows.laid_internal_strconv_uint64pow10), ("legate/sha.initial", Rows.laid_legate_sha_initial), ("legate/sha.rounds", Rows.laid_legate_sha_rounds), ("legate/when.before", Rows.laid_legate_when_before), ("legate/root.tops", Rows.laid_legate_root_tops)]
theorem qY {P:Program} {W:World} {x:String × DataW Unit} {r:List (String × DataW Unit)} (h:laidMet P (x :: r) W):laidMet P r W:=by
 obtain ⟨ps,⟨g,t,cs,fuel,p,q,h1,h2,h3,h4,h5,rfl⟩,hn,ha⟩:=h
 exact ⟨q,h5,(List.nodup_append.1 hn).2.1,fun b off hp=>ha b off (List.mem_append.2 (.inr hp))⟩
theorem nN {W:World} (h:laidMet Tryz.prog laidAll W):Tabs W:=by
 have h1 : Lib.TabIs Tryz.prog W "legate/hex.digits" .u8 hexZs := Lib.tabIs_of_head aS aI Tryz.underlying184 Tryz.underlying5 cells5 rW h
 have h5:=qY (qY (qY (qY h)))
 have h2 : Lib.TabIs Tryz.prog W "legate/sha.initial" .u32 iniZs := Lib.tabIs_of_head aA aO Tryz.underlying211 Tryz.underlying198 cY rY h5
 have h3 : Lib.TabIs Tryz.prog W "legate/sha.rounds" .u32 kays := Lib.tabIs_of_head aT aE Tryz.underlying238 Tryz.underlying198 cY rG (qY h5)
 have c1:∀i,i<16→W.cell? ⟨2,i,none⟩=some (.int .u8 (q9 i).toNat):=fun i hi=>by
  rw [h1.cell aS i hi]
  have:∀m:Fin 16,hexZs.getD m.val 0=((q9 m.val).toNat:Int):=by decide
  rw [this ⟨i,hi⟩]
 have c2:∀i,i<8→W.cell? ⟨4,i,none⟩=some (.int .u32 (vg.at i)):=fun i hi=>by
  rw [h2.cell aA i hi]
  have:∀m:Fin 8,iniZs.getD m.val 0=vg.at m.val:=by decide
  rw [this ⟨i,hi⟩]
 have c3:∀i,i<64→W.cell? ⟨5,i,none⟩=some (.int .u32 (kay i)):=fun i hi=>h3.cell aT i (show i<kays.length by exact hi)
 exact ⟨c2,c3,c1,World.block_lt_of_cell? W _ (c2 0 (by decide)),World.block_lt_of_cell? W _ (c3 0 (by decide)),World.block_lt_of_cell? W _ (c1 0 (by decide))⟩
theorem sE {W:World} (h:laidMet Tryz.prog laidAll W):zo W :=
 Lib.tabIs_of_head tZ tz Tryz.underlying255 Tryz.underlying200 nR rB (qY (qY (qY h)))
theorem nS {W:World} (h:laidMet Tryz.prog laidAll W):TabW W:=by
 have h1 : Lib.TabIs Tryz.prog W "legate/when.before" .i64 befZs := Lib.tabIs_of_head tq tx Tryz.underlying133 Tryz.underlying3 rF rP (qY (qY (qY (qY (qY (qY h))))))
 have c1:∀i,i<13→W.cell? ⟨1,i,none⟩=some (.int .i64 (beforeN i)):=fun i hi=>by
  rw [h1.cell tq i hi]
  have:∀m:Fin 13,befZs.getD m.val 0=beforeN m.val:=by decide
  rw [this ⟨i,hi⟩]
 exact ⟨c1,World.block_lt_of_cell? W _ (c1 0 (by decide))⟩
def sd:List (List UInt8):=[[114,111,111,116],[115,110,97,112,115,104,111,116],[116,97,114,103,101,116,115]]
theorem pg {H:Type} {enc:TypeId × Value→H} {P:Program} {w:World} {base:Nat} {sp:Nat→Bool} {held:Bool} {fuel:Nat} {t e:TypeId} {n:Nat} {cs:List Value} {zs:List (List UInt8)} {p:List MemPlace}
 (ht:P.underlying t=some (.array n e)) (he:P.underlying e=some .string) (hce:P.cellsOf e=1) (hct:P.cellsOf t=n)
 (h:DataW.trod enc P w base sp held fuel t cs=some (.agg (zs.map fun z=>.lit (.string z)),p)):cs=zs.map fun z=>Value.string ⟨z.toArray⟩:=by
 cases fuel with
 | zero=>simp [DataW.trod] at h
 | succ fuel =>
  simp only [DataW.trod,ht,hce,hct,Nat.mul_one] at h
  split at h
  · rename_i hl
    obtain ⟨xs,hm,hx⟩:=Option.map_eq_some_iff.1 h
    have hxs:xs.map (·.1)=zs.map fun z=>(DataW.lit (.string z):DataW H):=by
     have:=congrArg Prod.fst hx
     simpa using this
    have hxl:xs.length=n:=by simpa using Lib.mapM_length hm
    have hzl:zs.length=n:=by
     have:=congrArg List.length hxs
     simp at this
     omega
    apply List.ext_getElem?
    intro i
    by_cases hi:i<n
    · obtain ⟨b,hb,hf⟩:=Lib.mapM_at hm i i (by simp [hi])
      obtain ⟨z,hc,rfl,_⟩:=DataW.trod_string he hf
      have h1:cs[i]?=some (.string z):=by
       have:=congrArg (·[0]?) hc
       simpa [List.getElem?_take,List.getElem?_drop] using this
      have h2:(xs.map (·.1))[i]?=some (DataW.lit (.string z.data.toList):DataW H):=by simp [hb]
      rw [hxs] at h2
      simp only [List.getElem?_map,Option.map_eq_some_iff,DataW.lit.injEq,Lit.string.injEq] at h2
      obtain ⟨z',hz',rfl⟩:=h2
      simp [h1,hz']
    · rw [List.getElem?_eq_none (by omega),List.getElem?_eq_none (by simp;omega)]
  · cases h
theorem nA {W:World} (h:laidMet Tryz.prog laidAll W):TopsW W:=by
 have h8 : laidMet Tryz.prog [("legate/root.tops", .agg (sd.map fun z => .lit (.string z)))] W := qY (qY (qY (qY (qY (qY (qY h))))))
 obtain ⟨ps,⟨g,t,cs,fuel,p,q,g1,g2,g3,g4,g5,rfl⟩,hn,ha⟩:=h8
 obtain rfl:0=g:=Option.some.inj (tX.symm.trans g1)
 rw [tj] at g2
 obtain rfl:103=t:=Option.some.inj g2
 have e:=pg Tryz.underlying103 Tryz.underlying9 cA rH g4
 obtain rfl:cs=(sd.map fun z=>Value.string ⟨z.toArray⟩).toArray:=by rw [← e]
 have hc:∀i:Nat,W.cell? ⟨0,i,none⟩=_:=World.var?_cell g1 g3
 have c0:W.cell? ⟨0,0,none⟩=some (.string ⟨#[114,111,111,116]⟩):=hc 0
 exact ⟨c0,hc 1,hc 2,World.block_lt_of_cell? W _ c0⟩
def rU:DataW Unit→Array Value
 | .agg l=>(l.map fun
  | .lit (.int k n)=>Value.int k n
  | .lit (.string s)=>Value.string ⟨s.toArray⟩
  | _=>undef).toArray
 | _=>#[]
def lay (g:Nat) (d:DataW Unit) (h:Array Obj):Array Obj:=h.modify g fun
 | .cells _ t frozen=>.cells (rU d) t frozen
 | o=>o
noncomputable def laidWorld (os:Os):World :=
 { World.holding Tryz.prog os ⟨#[],#[],[]⟩ with heap:=lay 0 Rows.laid_legate_root_tops (lay 1 Rows.laid_legate_when_before (lay 5 Rows.laid_legate_sha_rounds (lay 4 Rows.laid_legate_sha_initial (lay 6 Rows.laid_internal_strconv_uint64pow10 (lay 8 Rows.laid_math_bits_deBruijn64tab (lay 7 Rows.laid_math_bits_deBruijn32tab (lay 2 Rows.laid_legate_hex_digits (World.holding Tryz.prog os ⟨#[],#[],[]⟩).heap))))))) }
theorem mL {H:Type} {enc:TypeId × Value→H} {P:Program} {f:Func} {s:ChangeSpec} {a1 a2 a3 a4:Bool} {W W':World} {args:Array Value} {v:Value} {ds gs:List (DataW H)} {before pa pv:List MemPlace}
 (hW:DataW.Whole enc P f.params.toList s.vars a1 W args.toList ds gs before)
 (hr:∀(b:Nat) (sp:Nat→Bool) (hd:Bool),DataW.TrodAll enc P W' b sp hd f.resultTypes.toList (v.resultList f.resultTypes.size) (s.fn H (ds ++ gs)).results [])
 (ha:∀sp:Nat→Bool,(∀p ∈ before,sp p.block=true)→DataW.TrodAll enc P W' 0 sp true f.params.toList args.toList (s.fn H (ds ++ gs)).args pa)
 (hv:∀sp:Nat→Bool,(∀p ∈ before,sp p.block=true)→DataW.TrodVars enc P W' sp s.vars (s.fn H (ds ++ gs)).vars pv)
 (he:before=pa ++ pv) (hb:Below W.heap.size W W')
 (hok:∀(j:Nat) (t:TypeId) (r:Value),f.resultTypes[j]?=some t→(v.resultList f.resultTypes.size)[j]?=some r→Value.okWide P W' .any 0 t r) :
 s.post enc P f a1 a2 a3 a4 W args v W':=by
 have hlt:=hW.lt
 have hold:∀p ∈ before,(fun b=>decide (b<W.heap.size)) p.block=true:=fun p hp=>decide_eq_true (hlt p hp)
 refine ⟨ds,gs,before,[],pa,pv,hW,hr _ _ _,ha _ hold,hv _ hold,World.keptBut_mono (fun p hp=>⟨hp,.inr ?_⟩) (hb.frame (· ∈ before)),fun _=>?_⟩
 · rw [he] at hp;exact List.mem_append.1 hp
 obtain ⟨_,_,_,_,_,hz,hn⟩:=hW
 refine ⟨hok,_,_,([] ++ pa) ++ pv,⟨[] ++ pa,pv,trodAll_append (ha _ fun _ _=>rfl) (hr _ _ _),hv _ fun _ _=>rfl,rfl,fun b off hp=>?_,fun h1=>?_⟩,fun p hp _=>?_⟩
 · have hin:MemPlace.cell b off ∈ before:=by rw [he];exact hp
   rw [hb.frozen (hlt _ hin)];exact hz b off hin
 · have:=hn h1;rwa [he] at this
 · rw [he];exact hp
section
variable {H:Type} {enc:TypeId × Value→H} {W:World} {base:Nat}
structure RootGot (W:World) (v e:Int) (l:List Key2) (t1 t2 t3:Int) (d1 d2 d3:List ByteArray) (ka i1 i2 i3:Option Addr) (kc:Nat):Prop where
 hv:-9223372036854775808≤v∧v≤9223372036854775807
 he:-9223372036854775808≤e∧e≤9223372036854775807
 ha:-9223372036854775808≤t1∧t1≤9223372036854775807
 hb:-9223372036854775808≤t2∧t2≤9223372036854775807
 hc:-9223372036854775808≤t3∧t3≤9223372036854775807
 lk:l.length≤9223372036854775807
 l1:d1.length≤9223372036854775807
 l2:d2.length≤9223372036854775807
 l3:d3.length≤9223372036854775807
 ck:l.length≤kc
 rows:RootIn W 0 W.heap.size ⟨v,e,l,⟨⟨t1,d1⟩,⟨t2,d2⟩,⟨t3,d3⟩⟩⟩ ka i1 i2 i3
end
end Go.Proofs.YtnlgmcapbbgelaaGreatDoor
