/- The contracts of canon.Encode's two closures: what they write into the builder is the value's canonical form. -/
import Derived.Test.YthgembbgcbaghaaGreatDoorDa17

namespace Go.Proofs.YthgembbgcbaghaaGreatDoor
open Go.RowKit
theorem vD {b:Nat} {w w':World} (h:Below w.heap.size w w'):Kept b w w':=fun k o hk _ _=>by
 have hlt:k<w.heap.size:=(Array.getElem?_eq_some_iff.1 hk).1
 rw [h.block k hlt];exact hk
theorem zU {B b:Nat} {bs:List Value} {w w':World} (h:vO B b bs w) (hb:Below w.heap.size w w'):vO B b bs w':=by
 have g:∀p,Lib.BuilderAtF 228 5 B b p bs w→Lib.BuilderAtF 228 5 B b p bs w':=fun p hp=>by
  have hlt:=hp.lt
  obtain ⟨hB,v,hbk,hown,hne⟩:=hp
  exact ⟨hB,v,by rw [hb.block b hlt];exact hbk,hown.kept (row:=none) ⟨hb.os,hb.tape,hb.output,hb.size,fun k hk _=>hb.block k hk⟩ (by cases v.ownBlock <;> simp),hne⟩
 rcases h with h|h
 · exact .inl (g _ h)
 · exact .inr (g _ h)
set_option maxHeartbeats 400000 in
set_option maxRecDepth 100000 in
theorem cN (B b:Nat) (bs:List Value) (s:ByteArray) (w:World) (h:vO B b bs w) (hs:qZ s=true) (hl:bs.length≤140737488300000) (hBw:B≤w.heap.size) :
 Calls Tryz.prog 228 #[.string s,.pointer (some ⟨b,0,none⟩)] w fun e w'=>e=.returned (.tuple #[])∧p8 B b (bs ++ Lib.byteCells (xb s.data.toList)) w'∧Below B w w'∧Kept b w w':=by
 have hs1:s.size≤4096∧wX s=true:=by unfold qZ at hs;simpa using hs
 clear hs
 have hq:=xC s
 obtain ⟨hs1,hs2⟩:=hs1
 have H2:=Lh hs2
 have HB:=Lh h
 clear hs2 h
 go_enter Tryz.func228,Tryz.ntmps228
 go_wp2_with fail
 refine (mG s _ hs1 H2.out).mono ?_
 rintro e w1 ⟨rfl,hb1⟩
 have HB1:=Lh hb1
 have hz:=hb1.size
 clear hb1
 go_wp2_with fail
 refine (jU B b bs _ w1 (zU HB.out HB1.out) (by simp [ByteArray.size];omega) (by omega)).mono ?_
 rintro e w2 ⟨rfl,hu2,hb2,hk2⟩
 have HU2:=Lh hu2
 have HB2:=Lh ((HB1.out.mono hBw).trans hb2)
 have HK2:=Lh ((vD (b:=b) HB1.out).trans hk2)
 clear hu2 hb2 hk2
 go_wp2
 go_end0
 exact ⟨rfl,HU2.out,HB2.out,HK2.out⟩
structure EncEnv (B b tb fb:Nat) (w:World):Prop where
 ht:w.heap[tb]?=some (.cells #[.func (.func 228) #[] #[.pointer (some ⟨b,0,none⟩)]] 234 (0,0))
 hf:w.heap[fb]?=some (.cells #[.func (.func 231) #[] #[.pointer (some ⟨b,0,none⟩),.pointer (some ⟨tb,0,none⟩),.pointer (some ⟨fb,0,none⟩)]] 235 (0,0))
 ne:tb≠b∧fb≠b
 le:B≤w.heap.size
theorem EncEnv.kept {B b tb fb:Nat} {w w':World} (h:EncEnv B b tb fb w) (hk:Kept b w w') (hz:w.heap.size≤w'.heap.size):EncEnv B b tb fb w' where
 ht:=hk _ _ h.ht (fun e=>h.ne.1 (Option.some.inj e)) (fun c fz e=>by cases e)
 hf:=hk _ _ h.hf (fun e=>h.ne.2 (Option.some.inj e)) (fun c fz e=>by cases e)
 ne:=h.ne
 le:=Nat.le_trans h.le hz
def vX (B b:Nat) (bs:List Value) (v:JV) (w:World) (e:Ending) (w':World):Prop:=e=.returned (.tuple #[])∧p8 B b (bs ++ Lib.byteCells v.enc) w'∧Below B w w'∧Kept b w w'
def fl (B:Nat) (w:World):Prop:=∀(n:Int) (w':World),cG n→Below B w w'→Calls Tryz.prog 232 #[.int .i64 n] w' fun e w''=>e=.returned (.string ⟨(Lib.itoa n).toArray⟩)∧Below w'.heap.size w' w''
def gu (nm:Bool) (B b tb fb:Nat) (bs:List Value) (v:JV) (x:Value) (w:World):Prop :=
 v.form nm∧Rep w 0 B v x∧vO B b bs w∧EncEnv B b tb fb w∧bs.length+30 * v.wt≤140737488300000∧(nm=true→fl B w)
def nz (nm:Bool) (N:Nat):Prop:=∀(B b tb fb:Nat) (bs:List Value) (v:JV) (x:Value) (w:World),v.wt≤N→gu nm B b tb fb bs v x w →
 Calls Tryz.prog 231 #[x,.pointer (some ⟨b,0,none⟩),.pointer (some ⟨tb,0,none⟩),.pointer (some ⟨fb,0,none⟩)] w (vX B b bs v w)
theorem bQ {B:Nat} {w w':World} (h:fl B w) (hb:Below B w w'):fl B w':=fun n w'' hn hb'=>h n w'' hn (hb.trans hb')
set_option maxHeartbeats 400000 in
set_option maxRecDepth 100000 in
theorem bZ (nm:Bool) (B b tb fb:Nat) (bs:List Value) (v:JV) (x:Value) (w:World) (hA:gu nm B b tb fb bs v x w) (hk:v.kind=1∨v.kind=2∨v.kind=3) :
 Calls Tryz.prog 231 #[x,.pointer (some ⟨b,0,none⟩),.pointer (some ⟨tb,0,none⟩),.pointer (some ⟨fb,0,none⟩)] w (vX B b bs v w):=by
 obtain ⟨hf,hR,hB,hE,hl,hS⟩:=hA
 obtain ⟨an,cn,ai,ci,rfl,h1,h2,h3,h4⟩:=hR.parts
 obtain ⟨b1,b2,b3,b4⟩:=v.wt_bd
 have hpos:=v.wt_pos
 have hle:=hE.le
 have HEQ:=Lh v.enc_eq
 have HF:=Lh hf
 have HE:=Lh hE
 have HS:=Lh hS
 clear h3 h4 hR hf hE hS h1 h2
 have HB:=Lh (zU hB ((Below.refl w.heap.size w).alloc lz (.cells #[.int .u8 v.kind,.int .i64 v.n,.string v.t,.slice an v.names.length cn,.slice ai v.items.length ci] 25)))
 have HBW:=Lh (show Below B w (w.alloc (.cells #[.int .u8 v.kind,.int .i64 v.n,.string v.t,.slice an v.names.length cn,.slice ai v.items.length ci] 25)) from (Below.refl _ _).alloc hle _)
 have HKW:=Lh (show Kept b w (w.alloc (.cells #[.int .u8 v.kind,.int .i64 v.n,.string v.t,.slice an v.names.length cn,.slice ai v.items.length ci] 25)) from (Lib.OthersKept.refl _ _ w).alloc _)
 have HE1:=Lh (HE.out.kept HKW.out (by simp))
 clear hB
 rcases hk with hk|hk|hk
 · rw [hk] at HEQ HB HBW HKW HE1 ⊢
   by_cases hn:v.n=1
   · rw [hn] at HEQ HB HBW HKW HE1 ⊢
     clear hk hn
     go_enter Tryz.func231,Tryz.ntmps231
     go_wp2_with fail
     refine (jU B b bs _ _ HB.out (by simp [ByteArray.size];omega) (by simp;omega)).mono ?_
     rintro e w2 ⟨rfl,hu2,hb2,hk2⟩
     have HU2:=Lh hu2;have HB2:=Lh (HBW.out.trans hb2);have HK2:=Lh (HKW.out.trans hk2)
     clear hu2 hb2 hk2
     go_wp2
     go_end0
     exact ⟨rfl,by rw [HEQ.out];exact HU2.out,HB2.out,HK2.out⟩
   · have hn':(v.n == 1)=false:=by simpa using hn
     have HNN:=Lh hn
     clear hk hn
     go_enter Tryz.func231,Tryz.ntmps231
     go_wp2_with fail
     refine (jU B b bs _ _ HB.out (by simp [ByteArray.size];omega) (by simp;omega)).mono ?_
     rintro e w2 ⟨rfl,hu2,hb2,hk2⟩
     have HU2:=Lh hu2;have HB2:=Lh (HBW.out.trans hb2);have HK2:=Lh (HKW.out.trans hk2)
     clear hu2 hb2 hk2
     go_wp2
     go_end0
     exact ⟨rfl,by rw [HEQ.out,if_pos trivial,if_neg HNN.out];exact HU2.out,HB2.out,HK2.out⟩
 · obtain ⟨hnm,hin⟩:nm=true∧cG v.n:=by
    rcases (JV.form_eq HF.out).1 with e|⟨_,e⟩|⟨e,_⟩|e|⟨e,_⟩ <;> first|(exact e)|omega
   have HSH:=Lh (HS.out hnm v.n _ hin HBW.out)
   have hil:=Lib.itoa_length_le v.n hin.1 hin.2
   rw [hk] at HEQ HB HBW HKW HE1 HSH ⊢
   clear hk hin
   go_enter Tryz.func231,Tryz.ntmps231
   go_wp2_with fail
   refine HSH.out.mono ?_
   clear HSH
   rintro e w1 ⟨rfl,hb1⟩
   have hz:w.heap.size+1≤w1.heap.size:=by have:=hb1.size;simp at this;omega
   have HB1:=Lh hb1
   clear hb1
   go_wp2_with fail
   refine (jU B b bs _ _ (zU HB.out HB1.out) (by simp [ByteArray.size];omega) (by omega)).mono ?_
   rintro e w2 ⟨rfl,hu2,hb2,hk2⟩
   have HU2:=Lh hu2;have HB2:=Lh (HBW.out.trans ((HB1.out.mono (by simp;omega)).trans hb2));have HK2:=Lh (HKW.out.trans ((vD HB1.out).trans hk2))
   clear hu2 hb2 hk2
   go_wp2
   go_end0
   exact ⟨rfl,by rw [HEQ.out];exact HU2.out,HB2.out,HK2.out⟩
 · have htx:qZ v.t=true:=by
    rcases (JV.form_eq HF.out).1 with e|⟨e,_⟩|⟨_,e⟩|e|⟨e,_⟩ <;> first|(exact e)|omega
   have HTX:=Lh htx
   rw [hk] at HEQ HB HBW HKW HE1 ⊢
   have q1:(w.alloc (.cells #[.int .u8 3,.int .i64 v.n,.string v.t,.slice an v.names.length cn,.slice ai v.items.length ci] 25)).cell? ⟨tb,0,none⟩=some (.func (.func 228) #[] #[.pointer (some ⟨b,0,none⟩)]):=by simp [World.cell?,HE1.out.ht]
   clear hk htx
   go_enter Tryz.func231,Tryz.ntmps231
   go_wp2_with fail
   refine (cN B b bs _ _ HB.out HTX.out (by omega) (by simp;omega)).mono ?_
   rintro e w2 ⟨rfl,hu2,hb2,hk2⟩
   have HU2:=Lh hu2;have HB2:=Lh (HBW.out.trans hb2);have HK2:=Lh (HKW.out.trans hk2)
   clear hu2 hb2 hk2 q1
   go_wp2
   go_end0
   exact ⟨rfl,by rw [HEQ.out];exact HU2.out,HB2.out,HK2.out⟩
theorem jY {b:Nat} {w w':World} {p:Nat} {cs:Array Value} (hk:Kept b w w') (hp:w.heap[p]?=some (.cells cs 25 (0,0))) (hb:p≠b):w'.heap[p]?=some (.cells cs 25 (0,0)) :=
 hk _ _ hp (fun e=>hb (Option.some.inj e)) (fun c fz e=>by cases e)
set_option maxHeartbeats 400000 in
set_option maxRecDepth 100000 in
theorem nx (nm:Bool) (N:Nat) (ih:nz nm N) (B b tb fb:Nat) (bs:List Value) (v:JV) (x:Value) (w:World) (hN:v.wt≤N+1) (hA:gu nm B b tb fb bs v x w) (hk:v.kind=4) :
 Calls Tryz.prog 231 #[x,.pointer (some ⟨b,0,none⟩),.pointer (some ⟨tb,0,none⟩),.pointer (some ⟨fb,0,none⟩)] w (vX B b bs v w):=by
 obtain ⟨hf,hR,hB,hE,hl,hS⟩:=hA
 have hbw:b<w.heap.size:=by
  rcases hB with h|h
  · exact h.lt
  · exact h.lt
 obtain ⟨an,cn,ai,ci,rfl,h1,h2,h3,h4⟩:=hR.parts
 obtain ⟨b1,b2,b3,b4⟩:=v.wt_bd
 have hpos:=v.wt_pos
 have hle:=hE.le
 have hfs:=(JV.form_eq hf).2
 obtain ⟨ni,hni⟩:∃ni,ni=v.items.length:=⟨_,rfl⟩
 obtain ⟨nn,hnn⟩:∃nn,nn=v.names.length:=⟨_,rfl⟩
 rw [← hni,← hnn]
 have HEQ:=Lh (show v.enc=91 :: (JV.encI true v.items ++ [93]) by rw [v.enc_eq,hk];rfl)
 have H4:=Lh h4
 have HFS:=Lh hfs
 have HE:=Lh hE
 have HS:=Lh hS
 have HNI:=Lh hni
 have IH:=Lh ih
 have HBL:=Lh (JV.encI_length v.items true (JV.forms_true _ hfs))
 have hnb:ni≤4611686018427387904:=by omega
 clear h3 h4 hR hf hE hS h1 h2 ih hfs hni hnn
 have HB:=Lh (zU hB ((Below.refl w.heap.size w).alloc lz (.cells #[.int .u8 v.kind,.int .i64 v.n,.string v.t,.slice an nn cn,.slice ai ni ci] 25)))
 have HBW:=Lh (show Below B w (w.alloc (.cells #[.int .u8 v.kind,.int .i64 v.n,.string v.t,.slice an nn cn,.slice ai ni ci] 25)) from (Below.refl _ _).alloc hle _)
 have HKW:=Lh (show Kept b w (w.alloc (.cells #[.int .u8 v.kind,.int .i64 v.n,.string v.t,.slice an nn cn,.slice ai ni ci] 25)) from (Lib.OthersKept.refl _ _ w).alloc _)
 have HBX:=Lh (heap_alloc_new w (.cells #[.int .u8 v.kind,.int .i64 v.n,.string v.t,.slice an nn cn,.slice ai ni ci] 25))
 clear hB
 rw [hk] at HB HBW HKW HBX ⊢
 clear hk
 go_enter Tryz.func231,Tryz.ntmps231
 go_wp2_with fail
 refine (zl B b bs _ _ HB.out (by omega) (by simp;omega)).mono ?_
 rintro e w1 ⟨rfl,hu1,hb1,hk1⟩
 have HU1:=Lh hu1;have HB1:=Lh (HBW.out.trans hb1);have HK1:=Lh (HKW.out.trans hk1)
 have HX1:=Lh (jY hk1 HBX.out (by omega))
 clear hu1 hb1 hk1 HB HBW HKW HBX
 have c4:w1.cell? ⟨w.heap.size,4,none⟩=some (.slice ai ni ci):=qq HX1.out rfl
 go_wp2
 clear c4
 go_loopw [5,6,36] (fun _ _ i wr=>∃k:Nat,k≤ni∧i=.int .i64 k∧p8 B b (bs ++ Lib.byteCells (91 :: JV.encI true (v.items.take k))) wr∧Below B w wr∧Kept b w wr) (fun _ _ i _=>ni - (intOf i).toNat)
 case atStart=>exact ⟨0,Nat.zero_le _,rfl,HU1.out,HB1.out,HK1.out⟩
 case round =>
  obtain ⟨k,hk,rfl,hbu,hbe,hke⟩:=hrel
  have hz:=hbe.size
  have HBU:=Lh hbu
  have HBE:=Lh hbe
  have HKE:=Lh hke
  clear hbu hbe hke
  have hel:=JV.encI_length (v.items.take k) true (JV.forms_take _ _ (JV.forms_true _ HFS.out))
  have hwt:=JV.wts_take v.items k
  by_cases hlt:k<ni
  · have hlt':k<v.items.length:=by rw [← HNI.out];exact hlt
    obtain ⟨b',off,an',cn',ai',ci',rfl,_,hb',y0,y1,y2,y3,y4,hrep⟩:=H4.out.get k hlt'
    rw [← HBE.out.cell hb'] at y0 y1 y2 y3 y4
    have hws:=JV.wts_snoc v.items k hlt'
    have HTK:=Lh (JV.encI_take v.items k hlt')
    have HFK:=Lh (JV.forms_get v.items k hlt' HFS.out)
    generalize v.items[k]=it at *
    have HREC:=Lh (show ∀(w':World) (bs':List Value),vO B b bs' w'→Below B w w'→Kept b w w'→bs'.length+30 * it.wt≤140737488300000→Calls Tryz.prog 231 #[.agg #[.int .u8 it.kind,.int .i64 it.n,.string it.t,.slice an' it.names.length cn',.slice ai' it.items.length ci'],.pointer (some ⟨b,0,none⟩),.pointer (some ⟨tb,0,none⟩),.pointer (some ⟨fb,0,none⟩)] w' (vX B b bs' it w') from
     fun w' bs' k1 k2 k3 k4=>IH.out B b tb fb bs' it _ w' (by omega) ⟨HFK.out,hrep.below k2 lz lz lz,k1,HE.out.kept k3 k2.size,k4,fun h=>bQ (HS.out h) k2⟩)
    have HEK:=Lh (HE.out.kept HKE.out HBE.out.size)
    have q1:(wr.alloc (.cells #[.int .u8 it.kind,.int .i64 it.n,.string it.t,.slice an' it.names.length cn',.slice ai' it.items.length ci'] 25)).cell? ⟨fb,0,none⟩=some (.func (.func 231) #[] #[.pointer (some ⟨b,0,none⟩),.pointer (some ⟨tb,0,none⟩),.pointer (some ⟨fb,0,none⟩)]):=(qt _ (qx HEK.out.hf)).trans (qq HEK.out.hf rfl)
    have HBX:=Lh (heap_alloc_new wr (.cells #[.int .u8 it.kind,.int .i64 it.n,.string it.t,.slice an' it.names.length cn',.slice ai' it.items.length ci'] 25))
    have HB2:=Lh (zU (.inr HBU.out) ((Below.refl wr.heap.size wr).alloc lz (.cells #[.int .u8 it.kind,.int .i64 it.n,.string it.t,.slice an' it.names.length cn',.slice ai' it.items.length ci'] 25)))
    have HW2:=Lh (show Below B w (wr.alloc (.cells #[.int .u8 it.kind,.int .i64 it.n,.string it.t,.slice an' it.names.length cn',.slice ai' it.items.length ci'] 25)) from HBE.out.alloc (by omega) _)
    have HK2:=Lh (show Kept b w (wr.alloc (.cells #[.int .u8 it.kind,.int .i64 it.n,.string it.t,.slice an' it.names.length cn',.slice ai' it.items.length ci'] 25)) from HKE.out.alloc _)
    clear hrep HBU HBE HKE HFK
    rcases Nat.eq_zero_or_pos k with hk0|hk0
    case' inl =>
     have hd:decide (0<k)=false:=by simp;omega
     have hd':¬0<k:=by omega
     rw [decide_eq_true hk0,show sep true=[] from rfl,List.nil_append] at HTK
     clear hk0
     have HU2:=HB2
     have HW3:=HW2
     have HK3:=HK2
     go_wp2_with fail
    case' inr =>
     rw [decide_eq_false (by omega),show sep false=[44] from rfl] at HTK
     go_wp2_with fail
     refine (zl B b _ _ _ HB2.out (by simp [Lib.byteCells];omega) (by simp;omega)).mono ?_
     rintro e w3 ⟨rfl,hu3,hb3,hk3⟩
     have hx3:=jY hk3 HBX.out (by omega)
     have c0:w3.cell? ⟨wr.heap.size,0,none⟩=some (.int .u8 it.kind):=qq hx3 rfl
     have c1:w3.cell? ⟨wr.heap.size,1,none⟩=some (.int .i64 it.n):=qq hx3 rfl
     have c2:w3.cell? ⟨wr.heap.size,2,none⟩=some (.string it.t):=qq hx3 rfl
     have c3:w3.cell? ⟨wr.heap.size,3,none⟩=some (.slice an' it.names.length cn'):=qq hx3 rfl
     have c4:w3.cell? ⟨wr.heap.size,4,none⟩=some (.slice ai' it.items.length ci'):=qq hx3 rfl
     have q3:w3.cell? ⟨fb,0,none⟩=some (.func (.func 231) #[] #[.pointer (some ⟨b,0,none⟩),.pointer (some ⟨tb,0,none⟩),.pointer (some ⟨fb,0,none⟩)]):=qq (HE.out.kept (HK2.out.trans hk3) (HW2.out.trans hb3).size).hf rfl
     have HU2:=Lh (show vO B b _ w3 from .inr hu3)
     have HW3:=Lh (HW2.out.trans hb3)
     have HK3:=Lh (HK2.out.trans hk3)
     clear hu3 hb3 hk3 hx3 HB2 HW2 HK2
     go_wp2_with fail
    all_goals
     refine (HREC.out _ _ HU2.out HW3.out HK3.out (by simp [Lib.byteCells];omega)).mono ?_
     rintro e w5 ⟨rfl,hu5,hb5,hk5⟩
     have HU5:=Lh hu5
     have HB5:=Lh (HW3.out.trans hb5)
     have HK5:=Lh (HK3.out.trans hk5)
     clear hu5 hb5 hk5 HREC HU2 HW3 HK3 q1 y0 y1 y2 y3 y4
     go_wp2
     go_roundw
     case rel=>exact ⟨k+1,by omega,by go_num,by rw [HTK.out];simpa [Lib.byteCells] using HU5.out,HB5.out,HK5.out⟩
     case measure=>simp [intOf];omega
  · have HF:=Lh (show v.items.take k=v.items from List.take_of_length_le (by rw [← HNI.out];omega))
    rw [HF.out] at HBU
    have hbl:=HBL.out
    go_wp2_with fail
    refine (zl B b _ _ _ (.inr HBU.out) (by simp [Lib.byteCells];omega) (by omega)).mono ?_
    rintro e w3 ⟨rfl,hu3,hb3,hk3⟩
    have HU3:=Lh hu3
    have HB3:=Lh (HBE.out.trans hb3)
    have HK3:=Lh (HKE.out.trans hk3)
    clear hu3 hb3 hk3
    go_wp2
    go_end0
    exact ⟨rfl,by rw [HEQ.out];simpa [Lib.byteCells] using HU3.out,HB3.out,HK3.out⟩
end Go.Proofs.YthgembbgcbaghaaGreatDoor
