/- The contract of canon.Encode. -/
import Derived.Test.YthgembbgcbaghaaGreatDoorDa27
import Derived.StillTailTactics
import Derived.Laws.EntriesVeiled

namespace Go.Proofs.YthgembbgcbaghaaGreatDoor
open Go.RowKit
set_option maxHeartbeats 400000 in
set_option maxRecDepth 100000 in
theorem sY (nm:Bool) (N:Nat) (ih:nz nm N) (B b tb fb:Nat) (bs:List Value) (v:JV) (x:Value) (w:World) (hN:v.wt≤N+1) (hA:gu nm B b tb fb bs v x w) (hk:v.kind=5) :
 Calls Tryz.prog 231 #[x,.pointer (some ⟨b,0,none⟩),.pointer (some ⟨tb,0,none⟩),.pointer (some ⟨fb,0,none⟩)] w (vX B b bs v w):=by
 obtain ⟨hf,hR,hB,hE,hl,hS⟩:=hA
 have hbw:b<w.heap.size:=by
  rcases hB with h|h
  · exact h.lt
  · exact h.lt
 obtain ⟨an,cn,ai,ci,rfl,h1,h2,h3,h4⟩:=hR.parts
 obtain ⟨b1,b2,b3,b4⟩:=v.wt_bd
 have hpos:=v.wt_pos
 have hle:=hE.le
 have hfs:=(JV.form_eq hf).2
 obtain ⟨hnl,htx⟩:v.names.length=v.items.length∧∀i (h:i<v.names.length),qZ v.names[i]=true:=by
  rcases (JV.form_eq hf).1 with e|⟨e,_⟩|⟨e,_⟩|e|⟨_,e⟩ <;> first|(exact e)|omega
 have hwe:=v.wt_eq
 have HWE:=Lh hwe
 have HNL:=Lh hnl
 have HTX:=Lh htx
 have H3:=Lh h3
 obtain ⟨ni,hni⟩:∃ni,ni=v.items.length:=⟨_,rfl⟩
 rw [hnl,← hni]
 have HEQ:=Lh (show v.enc=123 :: (JV.encO true v.names v.items ++ [125]) by rw [v.enc_eq,hk];rfl)
 have H4:=Lh h4
 have HFS:=Lh hfs
 have HE:=Lh hE
 have HS:=Lh hS
 have HNI:=Lh hni
 have IH:=Lh ih
 have HBL:=Lh (JV.encO_length v.names v.items true (JV.forms_true _ hfs))
 have hnb:ni≤4611686018427387904:=by omega
 clear h3 h4 hR hf hE hS h1 h2 ih hfs hni hnl htx hwe
 have HB:=Lh (zU hB ((Below.refl w.heap.size w).alloc lz (.cells #[.int .u8 v.kind,.int .i64 v.n,.string v.t,.slice an ni cn,.slice ai ni ci] 25)))
 have HBW:=Lh (show Below B w (w.alloc (.cells #[.int .u8 v.kind,.int .i64 v.n,.string v.t,.slice an ni cn,.slice ai ni ci] 25)) from (Below.refl _ _).alloc hle _)
 have HKW:=Lh (show Kept b w (w.alloc (.cells #[.int .u8 v.kind,.int .i64 v.n,.string v.t,.slice an ni cn,.slice ai ni ci] 25)) from (Lib.OthersKept.refl _ _ w).alloc _)
 have HBX:=Lh (heap_alloc_new w (.cells #[.int .u8 v.kind,.int .i64 v.n,.string v.t,.slice an ni cn,.slice ai ni ci] 25))
 clear hB
 rw [hk] at HB HBW HKW HBX ⊢
 clear hk
 go_enter Tryz.func231,Tryz.ntmps231
 go_wp2_with fail
 refine (zl B b bs _ _ HB.out (by omega) (by simp;omega)).mono ?_
 rintro e w1 ⟨rfl,hu1,hb1,hk1⟩
 have HU1:=Lh hu1;have HB1:=Lh (HBW.out.trans hb1);have HK1:=Lh (HKW.out.trans hk1)
 have HX1:=Lh (jY hk1 HBX.out (by omega))
 clear hu1 hb1 hk1 HB HBW HKW HBX
 have c4:w1.cell? ⟨w.heap.size,4,none⟩=some (.slice ai ni ci):=qq HX1.out rfl
 go_wp2
 clear c4
 go_loopw [7,8,55] (fun _ _ i wr=>∃k:Nat,k≤ni∧i=.int .i64 k∧p8 B b (bs ++ Lib.byteCells (123 :: JV.encO true (v.names.take k) (v.items.take k))) wr∧Below B w wr∧Kept b w1 wr) (fun _ _ i _=>ni - (intOf i).toNat)
 case atStart=>exact ⟨0,Nat.zero_le _,rfl,by simpa [JV.encO,Lib.byteCells] using HU1.out,HB1.out,Lib.OthersKept.refl _ _ _⟩
 case round =>
  obtain ⟨k,hk,rfl,hbu,hbe,hke⟩:=hrel
  have hz:=hbe.size
  have HBU:=Lh hbu
  have HBE:=Lh hbe
  have HKE:=Lh hke
  clear hbu hbe hke
  have hel:=JV.encO_length (v.names.take k) (v.items.take k) true (JV.forms_take _ _ (JV.forms_true _ HFS.out))
  have hbl:=HBL.out
  have hwe:=HWE.out
  by_cases hlt:k<ni
  · have hlt':k<v.items.length:=by rw [← HNI.out];exact hlt
    have hltn:k<v.names.length:=by rw [HNL.out];exact hlt'
    obtain ⟨b',off,an',cn',ai',ci',rfl,_,hb',y0,y1,y2,y3,y4,hrep⟩:=H4.out.get k hlt'
    obtain ⟨nb,noff,rfl,_,hnb',yn⟩:=H3.out.at k hltn
    rw [← HBE.out.cell hb'] at y0 y1 y2 y3 y4
    have hws:=JV.wts_snoc v.items k hlt'
    have hwn:=bA v.names k hltn
    have HTK:=Lh (JV.encO_take v.names v.items k hlt' hltn)
    have HFK:=Lh (JV.forms_get v.items k hlt' HFS.out)
    have HTN:=Lh (HTX.out k hltn)
    have hqn:=xC v.names[k]
    generalize v.items[k]=it at *
    generalize v.names[k]=nk at *
    have HWE':=Lh hwe
    have hwl:30 * qd (v.names.take k)+30 * JV.wts (v.items.take k)+30 * (nk.size+1)+30 * it.wt+30≤30 * v.wt:=by omega
    clear hwe hws hwn hbl
    have HREC:=Lh (show ∀(w':World) (bs':List Value),vO B b bs' w'→Below B w w'→Kept b w w'→bs'.length+30 * it.wt≤140737488300000→Calls Tryz.prog 231 #[.agg #[.int .u8 it.kind,.int .i64 it.n,.string it.t,.slice an' it.names.length cn',.slice ai' it.items.length ci'],.pointer (some ⟨b,0,none⟩),.pointer (some ⟨tb,0,none⟩),.pointer (some ⟨fb,0,none⟩)] w' (vX B b bs' it w') from
     fun w' bs' k1 k2 k3 k4=>IH.out B b tb fb bs' it _ w' (by have:=HWE'.out;omega) ⟨HFK.out,hrep.below k2 lz lz lz,k1,HE.out.kept k3 k2.size,k4,fun h=>bQ (HS.out h) k2⟩)
    have HBX:=Lh (heap_alloc_new wr (.cells #[.int .u8 it.kind,.int .i64 it.n,.string it.t,.slice an' it.names.length cn',.slice ai' it.items.length ci'] 25))
    have HB2:=Lh (zU (.inr HBU.out) ((Below.refl wr.heap.size wr).alloc lz (.cells #[.int .u8 it.kind,.int .i64 it.n,.string it.t,.slice an' it.names.length cn',.slice ai' it.items.length ci'] 25)))
    have HW2:=Lh (show Below B w (wr.alloc (.cells #[.int .u8 it.kind,.int .i64 it.n,.string it.t,.slice an' it.names.length cn',.slice ai' it.items.length ci'] 25)) from HBE.out.alloc (by omega) _)
    have HK2:=Lh (show Kept b w1 (wr.alloc (.cells #[.int .u8 it.kind,.int .i64 it.n,.string it.t,.slice an' it.names.length cn',.slice ai' it.items.length ci'] 25)) from HKE.out.alloc _)
    clear hrep HBU HBE HKE HFK
    -- what each later world gives
    have HALL:=Lh (show ∀(w':World),Below B w w'→Kept b w1 w'→w'.cell? ⟨tb,0,none⟩=some (.func (.func 228) #[] #[.pointer (some ⟨b,0,none⟩)])∧w'.cell? ⟨fb,0,none⟩=some (.func (.func 231) #[] #[.pointer (some ⟨b,0,none⟩),.pointer (some ⟨tb,0,none⟩),.pointer (some ⟨fb,0,none⟩)])∧w'.cell? ⟨w.heap.size,3,none⟩=some (.slice (some ⟨nb,noff,none⟩) ni cn)∧w'.cell? ⟨nb,noff+k,none⟩=some (.string nk) from
     fun w' k1 k2=>⟨qq (HE.out.kept (HK1.out.trans k2) k1.size).ht rfl,qq (HE.out.kept (HK1.out.trans k2) k1.size).hf rfl,qq (jY k2 HX1.out (by omega)) rfl,by rw [k1.cell hnb'];exact yn⟩)
    clear yn
    rcases Nat.eq_zero_or_pos k with hk0|hk0
    case' inl =>
     have hd:decide (0<k)=false:=by simp;omega
     have hd':¬0<k:=by omega
     rw [decide_eq_true hk0,show sep true=[] from rfl,List.nil_append] at HTK
     clear hk0
     go_wp2_with fail
     have HU3:=HB2
     have HW3:=HW2
     have HK3:=HK2
     have HX3:=HBX
     clear HB2 HW2 HK2 HBX
     generalize (wr.alloc (.cells #[.int .u8 it.kind,.int .i64 it.n,.string it.t,.slice an' it.names.length cn',.slice ai' it.items.length ci'] 25))=w3 at HU3 HW3 HK3 HX3 ⊢
    case' inr =>
     rw [decide_eq_false (by omega),show sep false=[44] from rfl] at HTK
     go_wp2_with fail
     refine (zl B b _ _ _ HB2.out (by simp [Lib.byteCells];omega) (by simp;omega)).mono ?_
     rintro e w3 ⟨rfl,hu3,hb3,hk3⟩
     have HX3:=Lh (jY hk3 HBX.out (by omega))
     have HU3:=Lh (show vO B b _ w3 from .inr hu3)
     have HW3:=Lh (HW2.out.trans hb3)
     have HK3:=Lh (HK2.out.trans hk3)
     clear hu3 hb3 hk3 HB2 HW2 HK2 HBX
     go_wp2_with fail
    all_goals
     clear y0 y1 y2 y3 y4
     obtain ⟨q0,q1,q2,q3⟩:=HALL.out w3 HW3.out HK3.out
     have g1:0≤(k:Int):=by omega
     have g2:(k:Int)<(ni:Int):=by omega
     have hz3:=HW3.out.size
     go_still_tail 6,(by kernel_rfl)
     go_wp2_with fail
    all_goals
     refine (cN B b _ nk w3.drew (show vO B b _ w3.drew from HU3.out) HTN.out (by simp [Lib.byteCells];omega) (by simp;omega)).mono ?_
     rintro e w4 ⟨rfl,hu4,hb4,hk4⟩
     have HX4:=Lh (jY hk4 (show w3.drew.heap[wr.heap.size]?=_ from HX3.out) (by omega))
     have HU4:=Lh hu4
     have HW4:=Lh (HW3.out.drew.trans hb4)
     have HK4:=Lh (HK3.out.drew.trans hk4)
     have hz4:=HW4.out.size
     clear hu4 hb4 hk4 HU3 HW3 HK3 HX3 q0 q1 q2 q3 hz3
     go_wp2_with fail
     refine (zl B b _ _ _ (.inr HU4.out) (by simp [Lib.byteCells];omega) (by omega)).mono ?_
     rintro e w5 ⟨rfl,hu5,hb5,hk5⟩
     have hx5:=jY hk5 HX4.out (by omega)
     have HU5:=Lh hu5
     have HW5:=Lh (HW4.out.trans hb5)
     have HK5:=Lh (HK4.out.trans hk5)
     have c0:w5.cell? ⟨wr.heap.size,0,none⟩=some (.int .u8 it.kind):=qq hx5 rfl
     have c1:w5.cell? ⟨wr.heap.size,1,none⟩=some (.int .i64 it.n):=qq hx5 rfl
     have c2:w5.cell? ⟨wr.heap.size,2,none⟩=some (.string it.t):=qq hx5 rfl
     have c3:w5.cell? ⟨wr.heap.size,3,none⟩=some (.slice an' it.names.length cn'):=qq hx5 rfl
     have c4:w5.cell? ⟨wr.heap.size,4,none⟩=some (.slice ai' it.items.length ci'):=qq hx5 rfl
     obtain ⟨-,q1,-,-⟩:=HALL.out w5 HW5.out HK5.out
     clear hu5 hb5 hk5 hx5 HU4 HW4 HK4 HX4 hz4
     go_wp2_with fail
     refine (HREC.out _ _ (.inr HU5.out) HW5.out (HK1.out.trans HK5.out) (by simp [Lib.byteCells];omega)).mono ?_
     rintro e w6 ⟨rfl,hu6,hb6,hk6⟩
     have HU6:=Lh hu6
     have HB6:=Lh (HW5.out.trans hb6)
     have HK6:=Lh (HK5.out.trans hk6)
     clear hu6 hb6 hk6 HREC HU5 HW5 HK5 q1 c0 c1 c2 c3 c4 HALL
     go_wp2
     go_roundw
     case rel=>exact ⟨k+1,by omega,by go_num,by rw [HTK.out];simpa [Lib.byteCells] using HU6.out,HB6.out,HK6.out⟩
     case measure=>simp [intOf];omega
  · have HF:=Lh (show v.items.take k=v.items from List.take_of_length_le (by rw [← HNI.out];omega))
    have HF2:=Lh (show v.names.take k=v.names from List.take_of_length_le (by rw [HNL.out,← HNI.out];omega))
    rw [HF.out,HF2.out] at HBU
    go_wp2_with fail
    refine (zl B b _ _ _ (.inr HBU.out) (by simp [Lib.byteCells];omega) (by omega)).mono ?_
    rintro e w3 ⟨rfl,hu3,hb3,hk3⟩
    have HU3:=Lh hu3
    have HB3:=Lh (HBE.out.trans hb3)
    have HK3:=Lh (HK1.out.trans (HKE.out.trans hk3))
    clear hu3 hb3 hk3
    go_wp2
    go_end0
    exact ⟨rfl,by rw [HEQ.out];simpa [Lib.byteCells] using HU3.out,HB3.out,HK3.out⟩
theorem mE (nm:Bool):∀N,nz nm N
 | 0=>fun B b tb fb bs v x w hN _=>by have:=v.wt_pos;omega
 | N+1=>fun B b tb fb bs v x w hN hA=>by
  rcases (JV.form_eq hA.1).1 with e|⟨e,_⟩|⟨e,_⟩|e|⟨e,_⟩
  · exact bZ nm B b tb fb bs v x w hA (.inl e)
  · exact bZ nm B b tb fb bs v x w hA (.inr (.inl e))
  · exact bZ nm B b tb fb bs v x w hA (.inr (.inr e))
  · exact nx nm N (mE nm N) B b tb fb bs v x w hN hA e
  · exact sY nm N (mE nm N) B b tb fb bs v x w hN hA e
def pU (v:JV) (w:World) (e:Ending) (w':World):Prop:=e=.returned (.tuple #[.string ⟨(if v.mayB then v.enc else []).toArray⟩,.int .i64 (if v.mayB then 0 else 3)])∧Below w.heap.size w w'
theorem sG (n:Int):Lib.itoa n≠[]:=by
 unfold Lib.itoa
 split
 · simp
 · rw [Lib.decDigits];split <;> simp
set_option maxHeartbeats 400000 in
set_option maxRecDepth 100000 in
theorem uZ (nm:Bool) (v:JV) (x:Value) (w:World) (hv:v.wt≤4294967296) (hR:Rep w 0 w.heap.size v x) (hf:v.mayB=true→v.form nm) (hS:nm=true→fl w.heap.size w) :
 Calls Tryz.prog 180 #[x] w (pU v w):=by
 obtain ⟨an,cn,ai,ci,hx,h1,h2,h3,h4⟩:=hR.parts
 have HR:=Lh hR
 clear hR h3 h4 h1 h2
 have HF:=Lh hf
 have HS:=Lh hS
 clear hf hS
 subst hx
 have HW0:=Lh (show Below w.heap.size w (w.alloc (.cells #[.int .u8 v.kind,.int .i64 v.n,.string v.t,.slice an v.names.length cn,.slice ai v.items.length ci] 25)) from (Below.refl _ _).alloc lz _)
 have HBX:=Lh (heap_alloc_new w (.cells #[.int .u8 v.kind,.int .i64 v.n,.string v.t,.slice an v.names.length cn,.slice ai v.items.length ci] 25))
 have HM:=Lh (kj v _ (w.alloc (.cells #[.int .u8 v.kind,.int .i64 v.n,.string v.t,.slice an v.names.length cn,.slice ai v.items.length ci] 25)) hv (HR.out.below HW0.out lz lz HW0.out.size))
 cases hm:v.mayB
 · rw [hm] at HM
   go_enter Tryz.func180,Tryz.ntmps180
   go_wp2_with fail
   refine HM.out.mono ?_
   rintro e w1 ⟨rfl,hb1⟩
   have HB1:=Lh (HW0.out.trans (hb1.mono (by simp)))
   clear hb1
   go_wp2
   go_ret2
   exact ⟨by rw [hm];rfl,HB1.out⟩
 · rw [hm] at HM
   have HMB:=Lh hm
   clear hm
   go_enter Tryz.func180,Tryz.ntmps180
   go_wp2_with fail
   refine HM.out.mono ?_
   clear HM
   rintro e w1 ⟨rfl,hb1⟩
   have hz1:w.heap.size+1≤w1.heap.size:=by have:=hb1.size;simp at this;omega
   have hx1:w1.heap[w.heap.size]?=some (.cells #[.int .u8 v.kind,.int .i64 v.n,.string v.t,.slice an v.names.length cn,.slice ai v.items.length ci] 25 (0,0)):=by
    rw [hb1.block _ (by simp)];exact HBX.out
   have HB1:=Lh (HW0.out.trans (hb1.mono (by simp)))
   have HB3:=Lh (show Below w1.heap.size w1 (((w1.alloc (.cells #[.pointer none,.slice none 0 0] 228)).alloc (.cells #[.func (.func 228) #[] #[.pointer (some ⟨w1.heap.size,0,none⟩)]] 234)).alloc (.cells #[.func (.func 231) #[] #[.pointer (some ⟨w1.heap.size,0,none⟩),.pointer (some ⟨w1.heap.size+1,0,none⟩),.pointer (some ⟨w1.heap.size+1+1,0,none⟩)]] 235)) from (((Below.refl _ _).alloc lz _).alloc (by simp) _).alloc (by simp;omega) _)
   have hx3:(((w1.alloc (.cells #[.pointer none,.slice none 0 0] 228)).alloc (.cells #[.func (.func 228) #[] #[.pointer (some ⟨w1.heap.size,0,none⟩)]] 234)).alloc (.cells #[.func (.func 231) #[] #[.pointer (some ⟨w1.heap.size,0,none⟩),.pointer (some ⟨w1.heap.size+1,0,none⟩),.pointer (some ⟨w1.heap.size+1+1,0,none⟩)]] 235)).heap[w.heap.size]?=some (.cells #[.int .u8 v.kind,.int .i64 v.n,.string v.t,.slice an v.names.length cn,.slice ai v.items.length ci] 25 (0,0)):=by rw [HB3.out.block _ (by omega)];exact hx1
   have c0:(((w1.alloc (.cells #[.pointer none,.slice none 0 0] 228)).alloc (.cells #[.func (.func 228) #[] #[.pointer (some ⟨w1.heap.size,0,none⟩)]] 234)).alloc (.cells #[.func (.func 231) #[] #[.pointer (some ⟨w1.heap.size,0,none⟩),.pointer (some ⟨w1.heap.size+1,0,none⟩),.pointer (some ⟨w1.heap.size+1+1,0,none⟩)]] 235)).cell? ⟨w.heap.size,0,none⟩=some (.int .u8 v.kind):=qq hx3 rfl
   have c1:(((w1.alloc (.cells #[.pointer none,.slice none 0 0] 228)).alloc (.cells #[.func (.func 228) #[] #[.pointer (some ⟨w1.heap.size,0,none⟩)]] 234)).alloc (.cells #[.func (.func 231) #[] #[.pointer (some ⟨w1.heap.size,0,none⟩),.pointer (some ⟨w1.heap.size+1,0,none⟩),.pointer (some ⟨w1.heap.size+1+1,0,none⟩)]] 235)).cell? ⟨w.heap.size,1,none⟩=some (.int .i64 v.n):=qq hx3 rfl
   have c2:(((w1.alloc (.cells #[.pointer none,.slice none 0 0] 228)).alloc (.cells #[.func (.func 228) #[] #[.pointer (some ⟨w1.heap.size,0,none⟩)]] 234)).alloc (.cells #[.func (.func 231) #[] #[.pointer (some ⟨w1.heap.size,0,none⟩),.pointer (some ⟨w1.heap.size+1,0,none⟩),.pointer (some ⟨w1.heap.size+1+1,0,none⟩)]] 235)).cell? ⟨w.heap.size,2,none⟩=some (.string v.t):=qq hx3 rfl
   have c3:(((w1.alloc (.cells #[.pointer none,.slice none 0 0] 228)).alloc (.cells #[.func (.func 228) #[] #[.pointer (some ⟨w1.heap.size,0,none⟩)]] 234)).alloc (.cells #[.func (.func 231) #[] #[.pointer (some ⟨w1.heap.size,0,none⟩),.pointer (some ⟨w1.heap.size+1,0,none⟩),.pointer (some ⟨w1.heap.size+1+1,0,none⟩)]] 235)).cell? ⟨w.heap.size,3,none⟩=some (.slice an v.names.length cn):=qq hx3 rfl
   have c4:(((w1.alloc (.cells #[.pointer none,.slice none 0 0] 228)).alloc (.cells #[.func (.func 228) #[] #[.pointer (some ⟨w1.heap.size,0,none⟩)]] 234)).alloc (.cells #[.func (.func 231) #[] #[.pointer (some ⟨w1.heap.size,0,none⟩),.pointer (some ⟨w1.heap.size+1,0,none⟩),.pointer (some ⟨w1.heap.size+1+1,0,none⟩)]] 235)).cell? ⟨w.heap.size,4,none⟩=some (.slice ai v.items.length ci):=qq hx3 rfl
   have HEV:=Lh (show EncEnv w1.heap.size w1.heap.size (w1.heap.size+1) (w1.heap.size+1+1) (((w1.alloc (.cells #[.pointer none,.slice none 0 0] 228)).alloc (.cells #[.func (.func 228) #[] #[.pointer (some ⟨w1.heap.size,0,none⟩)]] 234)).alloc (.cells #[.func (.func 231) #[] #[.pointer (some ⟨w1.heap.size,0,none⟩),.pointer (some ⟨w1.heap.size+1,0,none⟩),.pointer (some ⟨w1.heap.size+1+1,0,none⟩)]] 235)) from
    ⟨by
     have e:((w1.alloc (.cells #[.pointer none,.slice none 0 0] 228)).heap.size)=w1.heap.size+1:=by simp
     rw [Below.heap_alloc _ _ _ (by simp),← e];exact heap_alloc_new _ _,by
     have e:(((w1.alloc (.cells #[.pointer none,.slice none 0 0] 228)).alloc (.cells #[.func (.func 228) #[] #[.pointer (some ⟨w1.heap.size,0,none⟩)]] 234)).heap.size)=w1.heap.size+1+1:=by simp
     have:=heap_alloc_new ((w1.alloc (.cells #[.pointer none,.slice none 0 0] 228)).alloc (.cells #[.func (.func 228) #[] #[.pointer (some ⟨w1.heap.size,0,none⟩)]] 234)) (.cells #[.func (.func 231) #[] #[.pointer (some ⟨w1.heap.size,0,none⟩),.pointer (some ⟨w1.heap.size+1,0,none⟩),.pointer (some ⟨w1.heap.size+1+1,0,none⟩)]] 235)
     rw [e] at this;exact this,⟨by omega,by omega⟩,by simp;omega⟩)
   have HBU:=Lh (show vO w1.heap.size w1.heap.size [] (((w1.alloc (.cells #[.pointer none,.slice none 0 0] 228)).alloc (.cells #[.func (.func 228) #[] #[.pointer (some ⟨w1.heap.size,0,none⟩)]] 234)).alloc (.cells #[.func (.func 231) #[] #[.pointer (some ⟨w1.heap.size,0,none⟩),.pointer (some ⟨w1.heap.size+1,0,none⟩),.pointer (some ⟨w1.heap.size+1+1,0,none⟩)]] 235)) from zU (zU (Lib.IsBuilderF.of (Lib.fresh_isBuilder _ _ w1)) ((Below.refl _ _).alloc lz _)) ((Below.refl _ _).alloc lz _))
   have HEN:=Lh (mE nm _ w1.heap.size w1.heap.size (w1.heap.size+1) (w1.heap.size+1+1) [] v _ (((w1.alloc (.cells #[.pointer none,.slice none 0 0] 228)).alloc (.cells #[.func (.func 228) #[] #[.pointer (some ⟨w1.heap.size,0,none⟩)]] 234)).alloc (.cells #[.func (.func 231) #[] #[.pointer (some ⟨w1.heap.size,0,none⟩),.pointer (some ⟨w1.heap.size+1,0,none⟩),.pointer (some ⟨w1.heap.size+1+1,0,none⟩)]] 235)) lz ⟨HF.out HMB.out,HR.out.below (HB1.out.trans (HB3.out.mono (by omega))) lz lz (by omega),HBU.out,HEV.out,by simp;omega,fun h n w' hn hb=>HS.out h n w' hn ((HB1.out.trans (HB3.out.mono (by omega))).trans (hb.mono (by omega)))⟩)
   have hlt:w.heap.size<w1.heap.size:=hz1
   clear hb1 hx1 hx3 HEV HBU
   go_wp2_with fail
   refine HEN.out.mono ?_
   clear HEN c0 c1 c2 c3 c4
   rintro e w4 ⟨rfl,hu4,hb4,hk4⟩
   rw [List.nil_append] at hu4
   have hne:v.enc≠[]:=by
    rw [v.enc_eq]
    have hf:=(JV.form_eq (HF.out HMB.out)).1
    rcases hf with e|⟨e,_⟩|⟨e,_⟩|e|⟨e,_⟩ <;> rw [e]
    · by_cases h:v.n=1 <;> simp [h]
    · exact sG v.n
    · simp [xb]
    · simp
    · simp
   have HU4:=Lh hu4
   have HW4:=Lh (HB1.out.trans ((HB3.out.trans hb4).mono (by omega)))
   have HNE:=Lh hne
   clear hu4 hb4 hk4 hne
   go_wp2_with fail
   refine (vY w1.heap.size w1.heap.size v.enc _ (.inr HU4.out) HNE.out).mono ?_
   rintro e w5 ⟨rfl,hb5,-⟩
   have HW5:=Lh (HW4.out.trans (hb5.mono (by omega)))
   clear hb5
   go_wp2
   go_ret2
   exact ⟨by rw [HMB.out];rfl,HW5.out⟩
end Go.Proofs.YthgembbgcbaghaaGreatDoor
