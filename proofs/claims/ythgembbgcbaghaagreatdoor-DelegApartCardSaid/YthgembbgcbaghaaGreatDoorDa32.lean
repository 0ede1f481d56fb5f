/- The contracts of the matchers' has, deleg.matcherOf and deleg.Is. -/
import Derived.Test.YthgembbgcbaghaaGreatDoorDa31
import Derived.Shelf.SlSortCmp.WholeK
import Derived.Test.YthgembbgcbaghaaGreatDoorDa24

namespace Go.Proofs.YthgembbgcbaghaaGreatDoor
open Go.RowKit
theorem ly (bits t:Int) (pre:ByteArray) (ids:List ByteArray):zg ⟨bits,pre,⟨t,ids⟩⟩=(decide (bits=0) && (decide (pre.size=0) && (decide (t=0) && decide (ids.length=0)))):=by
 unfold zg
 have e1:pre=⟨#[]⟩↔pre.size=0:=⟨fun e=>by rw [e];rfl,fun e=>by
  obtain ⟨d⟩:=pre
  have:d.size=0:=e
  rw [Array.size_eq_zero_iff] at this
  rw [this]⟩
 have e2:ids=[]↔ids.length=0:=List.length_eq_zero_iff.symm
 simp only [e1,e2,Bool.decide_and]
set_option maxHeartbeats 1000000 in
set_option maxRecDepth 100000 in
theorem jT (t bits:Int) (ids:List ByteArray) (pre:ByteArray) (ia:Option Addr) (ic:Nat) (w:World) :
 Calls Tryz.prog 75 #[.agg #[.int .i64 t,.slice ia ids.length ic,.int .i64 bits,.string pre]] w fun e w'=>e=.returned (.bool (zg ⟨bits,pre,⟨t,ids⟩⟩))∧Below w.heap.size w w':=by
 obtain ⟨W,hW⟩:∃W,W=w.alloc (.cells #[.int .i64 t,.slice ia ids.length ic,.int .i64 bits,.string pre] 33):=⟨_,rfl⟩
 have hbw:Below w.heap.size w W:=by rw [hW];exact (Below.refl _ _).alloc lz _
 have hx:W.heap[w.heap.size]?=some (.cells #[.int .i64 t,.slice ia ids.length ic,.int .i64 bits,.string pre] 33 (0,0)):=by rw [hW];exact heap_alloc_new w _
 have HB:=Lh hbw
 have q0:=qq hx (j:=0) rfl;have q1:=qq hx (j:=1) rfl;have q2:=qq hx (j:=2) rfl;have q3:=qq hx (j:=3) rfl
 have HV:=Lh (ly bits t pre ids)
 have HW:=Lh hW
 obtain ⟨V,hV⟩:∃V,V=zg ⟨bits,pre,⟨t,ids⟩⟩:=⟨_,rfl⟩
 rw [← hV] at HV ⊢
 clear hbw hx hW hV
 by_cases h1:bits=0
 case neg =>
  have d1:(bits == 0)=false:=by simpa using h1
  rw [decide_eq_false h1] at HV
  clear h1
  go_enter Tryz.func75,Tryz.ntmps75
  go_upto_region 1 with fail
  rw [← HW.out]
  clear HW
  go_wp2
  go_ret
  exact ⟨qz HV.out.symm,HB.out⟩
 have d1:(bits == 0)=true:=by simpa using h1
 rw [decide_eq_true h1,Bool.true_and] at HV
 clear h1
 by_cases h2:pre.size=0
 case neg =>
  have d2:(pre.toList == [])=false:=by rw [beq_eq_false_iff_ne];exact (wO pre (by omega)).1
  rw [decide_eq_false h2] at HV
  clear h2
  go_enter Tryz.func75,Tryz.ntmps75
  go_upto_region 1 with fail
  rw [← HW.out]
  clear HW
  go_wp2
  go_ret
  exact ⟨qz HV.out.symm,HB.out⟩
 have d2:pre.toList=[]:=vN pre h2
 rw [decide_eq_true h2,Bool.true_and] at HV
 clear h2
 by_cases h3:t=0
 case neg =>
  have d3:(t == 0)=false:=by simpa using h3
  rw [decide_eq_false h3] at HV
  clear h3
  go_enter Tryz.func75,Tryz.ntmps75
  go_upto_region 1 with fail
  rw [← HW.out]
  clear HW
  go_wp2
  go_ret
  exact ⟨qz HV.out.symm,HB.out⟩
 have d3:(t == 0)=true:=by simpa using h3
 rw [decide_eq_true h3,Bool.true_and] at HV
 clear h3
 by_cases h4:ids.length=0
 · have d4:((ids.length:Int) == 0)=true:=by rw [h4];rfl
   rw [decide_eq_true h4] at HV
   clear h4
   go_enter Tryz.func75,Tryz.ntmps75
   go_upto_region 1 with fail
   rw [← HW.out]
   clear HW
   go_wp2
   go_ret
   exact ⟨qz HV.out.symm,HB.out⟩
 · have d4:((ids.length:Int) == 0)=false:=by rw [beq_eq_false_iff_ne];omega
   rw [decide_eq_false h4] at HV
   clear h4
   go_enter Tryz.func75,Tryz.ntmps75
   go_upto_region 1 with fail
   rw [← HW.out]
   clear HW
   go_wp2
   go_ret
   exact ⟨qz HV.out.symm,HB.out⟩
theorem ch (bits t:Int) (pre:ByteArray) (ids:List ByteArray):qI ⟨bits,pre,⟨t,ids⟩⟩=(decide (zH ⟨bits,pre,⟨t,ids⟩⟩=0) && (jo t ids && !gk pre)):=by
 unfold qI xe
 rw [Bool.and_assoc]
set_option maxHeartbeats 1000000 in
set_option maxRecDepth 100000 in
theorem wA (t bits:Int) (ids:List ByteArray) (pre:ByteArray) (ia:Option Addr) (ic:Nat) (w:World) (hI:qw w 0 w.heap.size ia ids) (hp:pre.size≤4294967296) (hb:-9223372036854775808≤bits∧bits≤9223372036854775807) (hf:xX ⟨t,ids⟩) :
 Calls Tryz.prog 84 #[.agg #[.int .i64 t,.slice ia ids.length ic,.int .i64 bits,.string pre]] w fun e w'=>e=.returned (.bool (qI ⟨bits,pre,⟨t,ids⟩⟩))∧Below w.heap.size w w':=by
 obtain ⟨W,hW⟩:∃W,W=w.alloc (.cells #[.int .i64 t,.slice ia ids.length ic,.int .i64 bits,.string pre] 33):=⟨_,rfl⟩
 have hbw:Below w.heap.size w W:=by rw [hW];exact (Below.refl _ _).alloc lz _
 have hx:W.heap[w.heap.size]?=some (.cells #[.int .i64 t,.slice ia ids.length ic,.int .i64 bits,.string pre] 33 (0,0)):=by rw [hW];exact heap_alloc_new w _
 have HB:=Lh hbw
 have HX:=Lh hx
 have HI:=Lh hI
 have q0:=qq hx (j:=0) rfl;have q1:=qq hx (j:=1) rfl;have q2:=qq hx (j:=2) rfl;have q3:=qq hx (j:=3) rfl
 have HWR:=Lh (yr t bits ids pre ia ic W hp hb)
 have HAU:=Lh (fun (w':World) (h:Below w.heap.size w w')=>cE t ids ia ic w' (HI.out.below h lz lz h.size) hf.2.2)
 have HTP:=Lh (fun w=>cC pre w)
 have HV:=Lh (ch bits t pre ids)
 have HW:=Lh hW
 obtain ⟨V,hV⟩:∃V,V=qI ⟨bits,pre,⟨t,ids⟩⟩:=⟨_,rfl⟩
 obtain ⟨E,hE⟩:∃E,E=zH ⟨bits,pre,⟨t,ids⟩⟩:=⟨_,rfl⟩
 obtain ⟨b2,hb2⟩:∃b,b=jo t ids:=⟨_,rfl⟩
 obtain ⟨b3,hb3⟩:∃b,b=gk pre:=⟨_,rfl⟩
 rw [← hV,← hE,← hb2,← hb3] at HV
 rw [← hE] at HWR
 rw [← hb2] at HAU
 rw [← hb3] at HTP
 rw [← hV]
 clear hbw hx hW hV hE hb2 hb3 hI hf hp hb
 by_cases h1:E=0
 case neg =>
  have d1:(E == 0)=false:=by simpa using h1
  rw [decide_eq_false h1] at HV
  clear h1
  go_enter Tryz.func84,Tryz.ntmps84
  go_upto_region 1 with fail
  rw [← HW.out]
  clear HW
  go_wp2_with (go_at_call 99;refine HWR.out.mono ?_;rintro e w3 ⟨rfl,hb⟩;have HB3:=Lh (HB.out.trans (hb.mono HB.out.size));clear hb)
  go_ret
  exact ⟨qz HV.out.symm,HB3.out⟩
 have d1:(E == 0)=true:=by simpa using h1
 rw [decide_eq_true h1,Bool.true_and] at HV
 clear h1
 cases b2
 · go_enter Tryz.func84,Tryz.ntmps84
   go_upto_region 1 with fail
   rw [← HW.out]
   clear HW
   go_wp2_with (first|(go_at_call 99;refine HWR.out.mono ?_;rintro e w3 ⟨rfl,hb⟩;have HB3:=Lh (HB.out.trans (hb.mono HB.out.size));have hz:=(hb.block _ (qx HX.out)).trans HX.out;have z0:=qq hz (j:=0) rfl;have z1:=qq hz (j:=1) rfl;have z3:=qq hz (j:=3) rfl;have HZ3:=Lh hz;clear hb hz)|(go_at_call 136;refine (HAU.out _ HB3.out).mono ?_;rintro e w5 ⟨rfl,hb⟩;have HB5:=Lh (HB3.out.trans (hb.mono HB3.out.size));have hz:=(hb.block _ (qx HZ3.out)).trans HZ3.out;have y3:=qq hz (j:=3) rfl;clear hb hz))
   go_ret
   exact ⟨qz HV.out.symm,HB5.out⟩
 · rw [Bool.true_and] at HV
   cases b3
   all_goals
    go_enter Tryz.func84,Tryz.ntmps84
    go_upto_region 1 with fail
    rw [← HW.out]
    clear HW
    go_wp2_with (first|(go_at_call 99;refine HWR.out.mono ?_;rintro e w3 ⟨rfl,hb⟩;have HB3:=Lh (HB.out.trans (hb.mono HB.out.size));have hz:=(hb.block _ (qx HX.out)).trans HX.out;have z0:=qq hz (j:=0) rfl;have z1:=qq hz (j:=1) rfl;have z3:=qq hz (j:=3) rfl;have HZ3:=Lh hz;clear hb hz)|(go_at_call 136;refine (HAU.out _ HB3.out).mono ?_;rintro e w5 ⟨rfl,hb⟩;have HB5:=Lh (HB3.out.trans (hb.mono HB3.out.size));have hz:=(hb.block _ (qx HZ3.out)).trans HZ3.out;have y3:=qq hz (j:=3) rfl;clear hb hz)|(go_at_call 135;refine (HTP.out _).mono ?_;rintro e w6 ⟨rfl,rfl⟩))
    go_ret
    exact ⟨qz HV.out.symm,HB5.out⟩
end Go.Proofs.YthgembbgcbaghaaGreatDoor

namespace Go.Proofs.YthgembbgcbaghaaGreatDoor
open Go.RowKit Go.Sort
def af (w:World) (e:Ending) (w':World):Prop :=
 e=.returned (.tuple #[.agg #[.string ⟨#[]⟩,.int .u8 0,.int .i64 0,.string ⟨#[]⟩,.slice none 0 0,.slice none 0 0],.int .i64 3])∧Below w.heap.size w w'
def cu (s t:ByteArray) (w:World) (e:Ending) (w':World):Prop :=
 ∃an cn ai ci,e=.returned (.tuple #[.agg #[.string (dG s t),.int .u8 5,.int .i64 0,.string ⟨#[]⟩,.slice an 2 cn,.slice ai 2 ci],.int .i64 0]) ∧
  Rep w' w.heap.size w'.heap.size (jx s t) (.agg #[.int .u8 5,.int .i64 0,.string ⟨#[]⟩,.slice an 2 cn,.slice ai 2 ci])∧Below w.heap.size w w'
set_option maxHeartbeats 400000 in
set_option maxRecDepth 100000 in
theorem cd (s t:ByteArray) (w:World) (hs:s.size≤4294967) (ht:t.size≤4294967) (hT:Tabs w) (hk:ze s.data.toList t.data.toList=false) :
 Calls Tryz.prog 87 #[.agg #[.string s,.string t]] w (af w):=by
 have hW:Below w.heap.size w ((w.alloc (.cells #[.string s,.string t] 43)).alloc (.cells #[.string ⟨#[]⟩,.int .u8 0,.int .i64 0,.string ⟨#[]⟩,.slice none 0 0,.slice none 0 0] 120)):=((Below.refl _ _).alloc lz _).alloc (by simp) _
 have HI:=Lh (cT s t ((w.alloc (.cells #[.string s,.string t] 43)).alloc (.cells #[.string ⟨#[]⟩,.int .u8 0,.int .i64 0,.string ⟨#[]⟩,.slice none 0 0,.slice none 0 0] 120)) hs ht (hT.below hW))
 unfold jf jX at HI
 rw [hk] at HI
 have hr0:=z8 (w.alloc (.cells #[.string s,.string t] 43)) (.string ⟨#[]⟩) (.int .u8 0) (.int .i64 0) (.string ⟨#[]⟩) (.slice none 0 0) (.slice none 0 0) 120
 rw [show (w.alloc (.cells #[.string s,.string t] 43)).heap.size=w.heap.size+1 by simp] at hr0
 have HR0:=Lh hr0
 have HB0:=Lh hW
 clear hk hr0 hW hT
 go_enter Tryz.func87,Tryz.ntmps87
 go_wp2_with fail
 refine HI.out.mono ?_
 rintro e w1 ⟨rfl,hb1⟩
 have hres:=qj hb1 HR0.out (by simp)
 have HRS:=Lh hres
 have HB1:=Lh (HB0.out.trans (hb1.mono (by simp;omega)))
 obtain ⟨t0,t1,t2,t3,t4⟩:=rc5 hres;have t5:=hres.cell (i:=5) (by decide)
 obtain ⟨s0,s1,s2,s3,s4⟩:=rf5 hres;have s5:=hres.frozen 5
 simp only [qo] at t0 t1 t2 t3 t4 t5
 clear hres hb1
 go_wp2
 exact bodyPost_ret (qk Tryz.results87 _ _ (w.heap.size+1) 120 _ (0,0) _ rfl (zy (wu _ _ _ _ _ _ HRS.out)) Tryz.underlying120 rfl (by kernel_rfl) _ rfl) rfl ⟨rfl,xn _ _ _ _ _ _ HB1.out (by omega)⟩
set_option maxHeartbeats 400000 in
set_option maxRecDepth 100000 in
theorem uH (s t:ByteArray) (w:World) (hs:s.size≤4294967) (ht:t.size≤4294967) (hT:Tabs w) (hk:ze s.data.toList t.data.toList=true) :
 Calls Tryz.prog 87 #[.agg #[.string s,.string t]] w (cu s t w):=by
 have hW:Below w.heap.size w ((w.alloc (.cells #[.string s,.string t] 43)).alloc (.cells #[.string ⟨#[]⟩,.int .u8 0,.int .i64 0,.string ⟨#[]⟩,.slice none 0 0,.slice none 0 0] 120)):=((Below.refl _ _).alloc lz _).alloc (by simp) _
 have HI:=Lh (cT s t ((w.alloc (.cells #[.string s,.string t] 43)).alloc (.cells #[.string ⟨#[]⟩,.int .u8 0,.int .i64 0,.string ⟨#[]⟩,.slice none 0 0,.slice none 0 0] 120)) hs ht (hT.below hW))
 have HX0:=Lh (show ((w.alloc (.cells #[.string s,.string t] 43)).alloc (.cells #[.string ⟨#[]⟩,.int .u8 0,.int .i64 0,.string ⟨#[]⟩,.slice none 0 0,.slice none 0 0] 120)).heap[w.heap.size]?=some (.cells #[.string s,.string t] 43 (0,0)) by rw [Below.heap_alloc _ _ _ (by simp)];exact heap_alloc_new w _)
 unfold jf at HI
 rw [hk,if_pos rfl] at HI
 unfold cu dG
 generalize (⟨(jX s.data.toList t.data.toList).toArray⟩:ByteArray)=ID at HI ⊢
 have HK:=Lh hk
 have hr0:=z8 (w.alloc (.cells #[.string s,.string t] 43)) (.string ⟨#[]⟩) (.int .u8 0) (.int .i64 0) (.string ⟨#[]⟩) (.slice none 0 0) (.slice none 0 0) 120
 rw [show (w.alloc (.cells #[.string s,.string t] 43)).heap.size=w.heap.size+1 by simp] at hr0
 have HR0:=Lh hr0
 have HB0:=Lh hW
 clear hk hr0 hW hT
 go_enter Tryz.func87,Tryz.ntmps87
 go_wp2_with fail
 refine HI.out.mono ?_
 clear HI
 rintro e w1 ⟨rfl,hb1⟩
 have HRS:=Lh (qj hb1 HR0.out (by simp))
 have hx1:w1.heap[w.heap.size]?=some (.cells #[.string s,.string t] 43 (0,0)):=by rw [hb1.block _ (by simp;omega)];exact HX0.out
 have hz1:w.heap.size+2≤w1.heap.size:=by have:=hb1.size;simp at this;omega
 have HB1:=Lh (HB0.out.trans (hb1.mono (by simp;omega)))
 have c0:w1.cell? ⟨w.heap.size,0,none⟩=some (.string s):=qq hx1 rfl
 have c1:w1.cell? ⟨w.heap.size,1,none⟩=some (.string t):=qq hx1 rfl
 have HV:=Lh (wG s t w1 (by omega) (by omega) HK.out)
 clear hb1 HX0 HR0 HB0 hx1
 go_wp2_with fail
 refine HV.out.mono ?_
 clear HV
 rintro e w2 ⟨an,cn,ai,ci,rfl,hr2,hb2⟩
 have HR2:=Lh (hr2.carry (w':=w2.alloc (.cells #[.int .u8 5,.int .i64 0,.string ⟨#[]⟩,.slice an 2 cn,.slice ai 2 ci] 25)) lz lz (fun b _ h=>Below.heap_alloc _ _ _ h))
 have hres:=qj (hb2.alloc hb2.size (.cells #[.int .u8 5,.int .i64 0,.string ⟨#[]⟩,.slice an 2 cn,.slice ai 2 ci] 25)) HRS.out (by omega)
 have HB2:=Lh (HB1.out.trans ((hb2.alloc hb2.size (.cells #[.int .u8 5,.int .i64 0,.string ⟨#[]⟩,.slice an 2 cn,.slice ai 2 ci] 25)).mono (by omega)))
 have hz2:w1.heap.size≤w2.heap.size:=hb2.size
 have hz3:¬(w.heap.size+1=w2.heap.size):=by omega
 have HR3:=Lh hres
 obtain ⟨t0,t1,t2,t3,t4⟩:=rc5 hres;have t5:=hres.cell (i:=5) (by decide)
 obtain ⟨s0,s1,s2,s3,s4⟩:=rf5 hres;have s5:=hres.frozen 5
 simp only [qo] at t0 t1 t2 t3 t4 t5
 clear hres hb2 hr2 c0 c1
 go_wp2
 refine bodyPost_ret (qk Tryz.results87 _ _ (w.heap.size+1) 120 _ (0,0) _ rfl (zy (wu _ _ _ _ _ _ HR3.out)) Tryz.underlying120 rfl (by kernel_rfl) _ rfl) rfl ⟨an,cn,ai,ci,rfl,?_,xn _ _ _ _ _ _ HB2.out (by omega)⟩
 exact Rep.carry (by omega) (show w2.heap.size≤_ by simp [World.setCell]) (fun j hj _=>gi _ _ _ _ _ _ (by omega)) _ _ HR2.out
theorem nX (x y:Mem) (W:World):Calls Tryz.prog 89 #[.agg (qV x).toArray,.agg (qV y).toArray] W fun e w'=>e=.returned (.int .i64 (cfM x y))∧∃q os',w'=grow (W.drewN q) os':=by
 have hcon:=fun W'=>Tryz.strings_Compare x.name y.name W'
 unfold cfM qV
 generalize Lib.compareBytes x.name.data.toList y.name.data.toList=r at hcon ⊢
 go_enter Tryz.func89,Tryz.ntmps89
 go_wp2_with (go_at_call 155;refine (hcon _).mono ?_;rintro e w' ⟨rfl,rfl⟩)
 go_ret
 exact ⟨rfl,0,_,by rw [alloc_eq_grow,alloc_eq_grow,grow_grow];rfl⟩
end Go.Proofs.YthgembbgcbaghaaGreatDoor

namespace Go.Proofs.YthgembbgcbaghaaGreatDoor
open Go.RowKit Go.Shelf Go.Sort
theorem uU:∀a b:List UInt8,decide (Lib.compareBytes a b<0)=Op.bytesLess a b
 | [],[]=>rfl
 | [],_ :: _=>rfl
 | _ :: _,[]=>rfl
 | a :: ax,b :: bx=>by
  unfold Lib.compareBytes Op.bytesLess
  by_cases h1:a<b
  · simp [h1]
  · by_cases h2:b<a
    · have:¬a=b:=fun e=>by subst e;exact h1 h2
      simp [h1,h2,this]
    · have e:a=b:=UInt8.le_antisymm (UInt8.not_lt.1 h2) (UInt8.not_lt.1 h1)
      subst e
      rw [if_neg h1,if_neg h1,uU ax bx]
      simp
theorem yE (x y:Mem):ltOf cfM x y=bl x.name y.name:=by
 unfold ltOf cfM bl
 rw [uU,ByteArray.toList_eq,ByteArray.toList_eq]
theorem lg {a b c:ByteArray} (h:bl a b=false) (h':bl b c=false):bl a c=false:=by
 cases h2:bl a c
 · rfl
 · cases h3:bl b a
   · rw [fx h h3,h'] at h2;cases h2
   · rw [xi h3 h2] at h';cases h'
theorem tE:SWO (ltOf cfM) where
 irrefl x:=by rw [yE];exact zc _
 trans x y z:=by rw [yE,yE,yE];exact xi
 ntrans x y z:=by rw [yE,yE,yE];exact lg
def lf (d d':Array Mem):Prop:=d'.size=d.size∧d'.toList.Perm d.toList∧∀i j,i<j→j<d.size→bl d'[j]!.name d'[i]!.name=false
def nJ (blk off:Nat) (d:Array Mem) (w:World) (e:Ending) (w':World):Prop :=
 e=.returned (.tuple #[])∧∃d',lf d d'∧HoldsK qV 6 w' blk off d'∧Touch (· = blk) w w'
theorem sD (blk off cap:Nat) (d:Array Mem) (w:World) (hH:HoldsK qV 6 w blk off d) (hblk:blk<w.heap.size) (h12:d.size≤4294967296) :
 Calls Tryz.prog 88 #[.slice (some ⟨blk,off,none⟩) d.size cap,.func (.func 89) #[] #[]] w (nJ blk off d w):=by
 have eg:∀args w,(callFunc 89 args).run Tryz.prog w=.ok (.enter 89 args) w:=enters_of Tryz.func89 (by kernel_rfl) rfl
 have hcon:=AnyQ.slices_SortFunc df 6 Tryz.isAgg120 Tryz.sizeOf120 qV zZ xq cfM tE 89 #[] blk off cap d w eg (fun _ _ _ _ x y=>nX x y _) hH hblk (by omega)
 refine hcon.mono ?_
 rintro e w' ⟨rfl,d',n,os,hp,hs,rfl⟩
 refine ⟨rfl,d',⟨hp.1,?_,fun i j hij hj=>?_⟩,holdsK_grow qV 6 _ _ _ _ _ (by simp [putRowK,Go.Sort.ahead];exact hblk) (holdsK_putRowK qV 6 _ _ _ d _ (holdsK_ahead qV 6 _ _ _ _ _ hH) hp.1),jq⟩
 · have:=hp.2.2
   have e1:d'.extract 0 d.size=d':=by rw [← hp.1];simp
   have e2:d.extract 0 d.size=d:=by simp
   rwa [e1,e2] at this
 · have:=hs i j (Nat.zero_le _) hij hj
   rwa [yE] at this
def xH (seen:List ByteArray):List Key2→Int
 | []=>0
 | k :: r=>if ok2 k then (if xW seen (id2 k) then 7 else xH (seen ++ [id2 k]) r) else 3
def vK (l:List Key2):Int:=if 32<l.length then 5 else xH [] l
theorem y6 (l:List Key2) (k:Nat) (h:k<l.length):xH (ids (l.take k)) (l.drop k)=if ok2 l[k] then (if xW (ids (l.take k)) (id2 l[k]) then 7 else xH (ids (l.take (k+1))) (l.drop (k+1))) else 3:=by
 rw [List.drop_eq_getElem_cons h,xH]
 have:ids (l.take k) ++ [id2 l[k]]=ids (l.take (k+1)):=by unfold ids;rw [List.take_succ_eq_append_getElem h,List.map_append];rfl
 rw [this]
theorem vv:∀(l:List Key2) (seen:List ByteArray),xH seen l=0↔(∀k ∈ l,ok2 k=true)∧(∀k ∈ l,id2 k ∉ seen)∧(ids l).Nodup
 | [],seen=>by simp [xH,ids]
 | k :: r,seen=>by
  unfold xH
  have ih:=vv r (seen ++ [id2 k])
  by_cases h1:ok2 k=true
  · rw [if_pos h1]
    by_cases h2:xW seen (id2 k)=true
    · rw [if_pos h2]
      have:=(kx _ _).1 h2
      constructor
      · intro h;cases h
      · rintro ⟨_,h,_⟩;exact absurd this (h k (List.mem_cons_self ..))
    · rw [if_neg h2,ih]
      have h3:id2 k ∉ seen:=fun h=>h2 ((kx _ _).2 h)
      unfold ids
      rw [List.map_cons,List.nodup_cons]
      constructor
      · rintro ⟨a,b,c⟩
        refine ⟨fun x hx=>?_,fun x hx=>?_,fun hm=>?_,c⟩
        · rcases List.mem_cons.1 hx with rfl|hx
          · exact h1
          · exact a x hx
        · rcases List.mem_cons.1 hx with rfl|hx
          · exact h3
          · exact fun h=>b x hx (List.mem_append_left _ h)
        · obtain ⟨x,hx,e⟩:=List.mem_map.1 hm
          exact b x hx (by rw [e];simp)
      · rintro ⟨a,b,c,d⟩
        refine ⟨fun x hx=>a x (List.mem_cons_of_mem _ hx),fun x hx hm=>?_,d⟩
        rcases List.mem_append.1 hm with hm|hm
        · exact b x (List.mem_cons_of_mem _ hx) hm
        · simp at hm
          exact c (List.mem_map.2 ⟨x,hx,hm⟩)
  · rw [if_neg h1]
    constructor
    · intro h;cases h
    · rintro ⟨h,_⟩;exact absurd (h k (List.mem_cons_self ..)) h1
theorem uM {α β:Type} (f:α→β) {l1 l2:List β} (h:l1.Perm l2):∀zs:List α,zs.map f=l2→∃zs':List α,zs'.Perm zs∧zs'.map f=l1:=by
 induction h with
 | nil=>intro zs h;exact ⟨[],by rw [List.map_eq_nil_iff.1 h],rfl⟩
 | cons x _ ih =>
  intro zs h
  match zs,h with
  | z :: zr,h =>
   simp only [List.map_cons,List.cons.injEq] at h
   obtain ⟨zs',hp,e⟩:=ih zr h.2
   exact ⟨z :: zs',hp.cons z,by simp [e,h.1]⟩
 | swap x y r =>
  intro zs h
  match zs,h with
  | [_],h=>simp at h
  | a :: b :: zr,h =>
   simp only [List.map_cons,List.cons.injEq] at h
   exact ⟨b :: a :: zr,List.Perm.swap _ _ _,by simp [h.1,h.2.1,h.2.2]⟩
 | trans _ _ ih1 ih2 =>
  intro zs h
  obtain ⟨z1,p1,e1⟩:=ih2 zs h
  obtain ⟨z2,p2,e2⟩:=ih1 z1 e1
  exact ⟨z2,p2.trans p1,e2⟩
theorem pC {l:List ByteArray} (h:∀i j (hi:i<l.length) (hj:j<l.length),i<j→bl l[i] l[j]=true):qe l=true:=by
 match l with
 | []=>rfl
 | [_]=>rfl
 | a :: b :: r =>
  unfold qe
  rw [Bool.and_eq_true]
  refine ⟨h 0 1 (by simp) (by simp) (by omega),pC fun i j hi hj hij=>?_⟩
  have:=h (i+1) (j+1) (by simpa using hi) (by simpa using hj) (by omega)
  simpa using this
theorem fs {m1 m2:List Key2} (hp:m1.Perm m2) (h1:qe (ids m1)=true) (h2:qe (ids m2)=true):m1=m2:=by
 have pw:∀m:List Key2,qe (ids m)=true→m.Pairwise (fun a b=>bl (id2 a) (id2 b)=true):=fun m h=>by
  rw [List.pairwise_iff_getElem]
  intro i j hi hj hij
  have:=xN h i j (by simpa [ids] using hi) (by simpa [ids] using hj) hij
  simpa [ids] using this
 refine hp.eq_of_pairwise (le:=fun a b=>bl (id2 a) (id2 b)=true) (fun a b _ _ x y=>?_) (pw m1 h1) (pw m2 h2)
 rw [hY x] at y;cases y
def xj (w:World) (base:Nat) (X:Nat→Prop) (zs:List (Mem × Key2)):Prop :=
 ∀z ∈ zs,z.1.name=id2 z.2∧∃lo hi,base≤lo∧hi≤w.heap.size∧(∀b,X b→¬(lo≤b∧b<hi))∧Rep w lo hi (obj2 z.2) z.1.val
theorem xj.nil (w:World) (base:Nat) (X:Nat→Prop):xj w base X []:=fun z h=>by simp at h
theorem xj.carry {w w':World} {base:Nat} {X X':Nat→Prop} {zs:List (Mem × Key2)} (h:xj w base X zs) (hsz:w.heap.size≤w'.heap.size)
 (hs:∀b,b<w.heap.size→¬X b→base≤b→w'.heap[b]?=w.heap[b]?) (hX:∀b,X' b→X b∨w.heap.size≤b∨b<base):xj w' base X' zs:=by
 intro z hz
 obtain ⟨hn,lo,hi,h1,h2,h3,hr⟩:=h z hz
 refine ⟨hn,lo,hi,h1,by omega,fun b hx hb=>?_,Rep.carry lz lz (fun b hb1 hb2=>hs b (by omega) (fun hx=>h3 b hx ⟨hb1,hb2⟩) (by omega)) _ _ hr⟩
 rcases hX b hx with hx|hx|hx
 · exact h3 b hx hb
 · omega
 · omega
theorem xj.snoc {w:World} {base:Nat} {X:Nat→Prop} {zs:List (Mem × Key2)} (h:xj w base X zs) (x:Mem) (k:Key2) (lo hi:Nat) (hn:x.name=id2 k) (h1:base≤lo) (h2:hi≤w.heap.size) (h3:∀b,X b→¬(lo≤b∧b<hi)) (hr:Rep w lo hi (obj2 k) x.val) :
 xj w base X (zs ++ [(x,k)]):=by
 intro z hz
 rcases List.mem_append.1 hz with hz|hz
 · exact h z hz
 · simp at hz;subst hz;exact ⟨hn,lo,hi,h1,h2,h3,hr⟩
theorem xj.perm {w:World} {base:Nat} {X:Nat→Prop} {zs zs':List (Mem × Key2)} (h:xj w base X zs) (hp:zs'.Perm zs):xj w base X zs':=fun z hz=>h z (hp.subset hz)
theorem flat_get {ms:List Mem} (i c:Nat) (hi:i<ms.length) (hc:c<6):(ms.flatMap qV)[i * 6+c]?=some ((qV ms[i])[c]!):=by
 induction ms generalizing i with
 | nil=>simp at hi
 | cons m r ih =>
  rw [List.flatMap_cons]
  rcases i with _|i
  · rw [List.getElem?_append_left (by rw [zZ];omega)]
    rw [Nat.zero_mul,Nat.zero_add]
    have:c<(qV m).length:=by rw [zZ];exact hc
    rw [List.getElem?_eq_getElem this]
    show some _=some ((qV m)[c]!)
    rw [getElem!_pos (qV m) c this]
  · rw [List.getElem?_append_right (by rw [zZ];omega),zZ,show (i+1) * 6+c - 6=i * 6+c by omega]
    exact ih i (by simpa using hi)
theorem ct {w:World} {base e g cap n:Nat} {ms:List Mem} (h:w.ownsRow base e 6 (.slice (some ⟨g,0,none⟩) n cap) n (ms.flatMap qV)):HoldsK qV 6 w g 0 ms.toArray:=by
 intro j hj
 have hj':j<ms.length * 6:=by simpa using hj
 rcases h.2 with ⟨hx,_⟩|⟨g',cap',cur,hx,hg,hh,_⟩
 · cases hx
 · simp only [Value.slice.injEq,Option.some.injEq,Addr.mk.injEq,and_true] at hx
   obtain ⟨rfl,_⟩:=hx
   refine ⟨?_,by simp [World.frozen?,hh]⟩
   have hq:j / 6<ms.length:=by omega
   have hm:j % 6<6:=Nat.mod_lt _ (by decide)
   have hf:=flat_get (ms:=ms) (j / 6) (j % 6) hq hm
   rw [show j / 6 * 6+j % 6=j by omega] at hf
   have hc:=h.cells (g:=g) rfl j _ hf
   have ea:(⟨g,0,none⟩:Addr).add j=⟨g,j,none⟩:=by unfold Addr.add;split <;> simp_all
   rw [ea] at hc
   rw [Nat.zero_add,hc,get_flatK _ _ _ _ (by simpa using hj')]
   congr 2
   simp [hq]
set_option maxHeartbeats 400000 in
theorem aN (W:World):Calls Tryz.prog 209 #[.slice none 0 0,.int .i64 0,.int .i64 0,.func (.func 89) #[] #[]] W fun e w'=>e=.returned (.tuple #[])∧w'=W:=by
 go_enter Tryz.func209,Tryz.ntmps209
 go_wp2
 go_loopw [8] (fun i wr=>i=.int .i64 1∧wr=W) (fun _ _=>0)
 case atStart=>exact ⟨rfl,rfl⟩
 case round =>
  obtain ⟨rfl,rfl⟩:=hrel
  go_wp2
  go_end0
  exact ⟨rfl,rfl⟩
set_option maxHeartbeats 400000 in
theorem aS (W:World) (lim:Int):Calls Tryz.prog 153 #[.slice none 0 0,.int .i64 0,.int .i64 0,.int .i64 lim,.func (.func 89) #[] #[]] W fun e w'=>e=.returned (.tuple #[])∧w'=W:=by
 have H:=aN W
 go_enter Tryz.func153,Tryz.ntmps153
 go_wp2
 go_loopw [1,2,3,10,11,12,13,14,15,16,17,18,19,20] (fun a b _ _ _ _ _ _ _ _ _ _ _ _ wr=>a=.int .i64 0∧b=.int .i64 0∧wr=W) (fun _ _ _ _ _ _ _ _ _ _ _ _ _ _ _=>0)
 case atStart=>exact ⟨rfl,rfl,rfl⟩
 case round =>
  obtain ⟨rfl,rfl,rfl⟩:=hrel
  go_wp2_with fail
  refine H.mono ?_
  rintro e w1 ⟨rfl,rfl⟩
  go_wp2
  (try simp only [Exit.inBlock,Exit.then])
  refine bodyPost_ret (results_none rfl _ _ _) rfl ?_
  exact ⟨rfl,rfl⟩
set_option maxHeartbeats 400000 in
theorem sL (w:World):Calls Tryz.prog 88 #[.slice none 0 0,.func (.func 89) #[] #[]] w fun e w'=>e=.returned (.tuple #[])∧w'=w:=by
 have HL:=Tryz.bits_Len 0 w (by omega) (by omega)
 go_enter Tryz.func88,Tryz.ntmps88
 go_wp2_with fail
 refine HL.mono ?_
 rintro e w1 ⟨rfl,rfl⟩
 go_wp2_with fail
 refine (aS _ _).mono ?_
 rintro e w2 ⟨rfl,rfl⟩
 go_wp2
 go_end0
 exact ⟨rfl,rfl⟩
end Go.Proofs.YthgembbgcbaghaaGreatDoor

namespace Go.Proofs.YthgembbgcbaghaaGreatDoor
open Go.RowKit
theorem uD (x:DelegV):qX x=(zb x.name.data.toList && (!gk x.name && (jo x.au.thr x.au.ids && (if 0<x.paths.length then decide (x.pres.length=0) && (decide (x.paths.length≤32) && x.paths.all qL) else decide (0<x.pres.length) && (decide (x.pres.length≤32) && x.pres.all preB))))):=by
 unfold qX xe
 have e1:(x.paths≠[])=(0<x.paths.length):=by rw [List.length_pos_iff]
 have e2:x.pres.isEmpty=decide (x.pres.length=0):=by cases x.pres <;> rfl
 have e3:(!x.pres.isEmpty)=decide (0<x.pres.length):=by cases x.pres <;> rfl
 simp only [e1,Bool.and_assoc]
 congr 3
 split
 · rw [e2]
 · rw [e3]
set_option maxHeartbeats 2000000 in
set_option maxRecDepth 100000 in
theorem jb (x:DelegV) (ia pa qa:Option Addr) (ic pc qc:Nat) (w:World) (hI:DelegIn w 0 w.heap.size x ia pa qa) (hf:DelegFits x) :
 Calls Tryz.prog 77 #[.agg #[.string x.name,.int .i64 x.au.thr,.slice ia x.au.ids.length ic,.bool x.term,.slice pa x.paths.length pc,.slice qa x.pres.length qc]] w fun e w'=>e=.returned (.bool (qX x))∧Below w.heap.size w w':=by
 have HV:=Lh (uD x)
 obtain ⟨V,hV⟩:∃V,V=qX x:=⟨_,rfl⟩
 rw [← hV] at HV ⊢
 clear hV
 obtain ⟨nm,⟨thr,ids⟩,term,ps,qs⟩:=x
 dsimp only at HV hI hf ⊢
 obtain ⟨f1,f2,f3,f4⟩:=hf
 obtain ⟨i1,i2,i3⟩:=hI
 dsimp only at f1 f2 f3 f4 i1 i2 i3
 obtain ⟨W,hW⟩:∃W,W=w.alloc (.cells #[.string nm,.int .i64 thr,.slice ia ids.length ic,.bool term,.slice pa ps.length pc,.slice qa qs.length qc] 41):=⟨_,rfl⟩
 have hbw:Below w.heap.size w W:=by rw [hW];exact (Below.refl _ _).alloc lz _
 have hx:W.heap[w.heap.size]?=some (.cells #[.string nm,.int .i64 thr,.slice ia ids.length ic,.bool term,.slice pa ps.length pc,.slice qa qs.length qc] 41 (0,0)):=by rw [hW];exact heap_alloc_new w _
 have HB:=Lh hbw
 have HX:=Lh hx
 have HW:=Lh hW
 have q0:=qq hx (j:=0) rfl
 have q1:=qq hx (j:=1) rfl
 have q2:=qq hx (j:=2) rfl
 have HN:=Lh (fun w=>jr nm w (by omega))
 have HT:=Lh (fun w=>cC nm w)
 have HA:=Lh (cE thr ids ia ic W (i1.below hbw lz lz hbw.size) f2.2.2)
 have HP:=Lh (fun (w3:World) (h:Below w.heap.size w w3)=>b9 ps pa pc w3 (i2.below h lz lz h.size) f3.1 f3.2)
 have HQ:=Lh (fun (w3:World) (h:Below w.heap.size w w3)=>fm qs qa qc w3 (i3.below h lz lz h.size) f4.1 f4.2)
 clear hbw hx hW f1 f2 f3 f4 i1 i2 i3
 obtain ⟨b1,hb1⟩:∃b,b=zb nm.data.toList:=⟨_,rfl⟩
 obtain ⟨b2,hb2⟩:∃b,b=gk nm:=⟨_,rfl⟩
 obtain ⟨b3,hb3⟩:∃b,b=jo thr ids:=⟨_,rfl⟩
 rw [← hb1] at HN HV
 rw [← hb2] at HT HV
 rw [← hb3] at HA HV
 clear hb1 hb2 hb3
 go_enter Tryz.func77,Tryz.ntmps77
 go_upto_region 1 with fail
 rw [← HW.out]
 clear HW
 cases b1
 · go_wp2_with (go_at_call 134;refine (HN.out _).mono ?_;rintro e w3 ⟨rfl,rfl⟩)
   go_ret
   exact ⟨qz HV.out.symm,HB.out⟩
 cases b2
 case true =>
  go_wp2_with (first|(go_at_call 134;refine (HN.out _).mono ?_;rintro e w3 ⟨rfl,rfl⟩)|(go_at_call 135;refine (HT.out _).mono ?_;rintro e w3 ⟨rfl,rfl⟩))
  go_ret
  exact ⟨qz HV.out.symm,HB.out⟩
 cases b3
 · go_wp2_with (first|(go_at_call 134;refine (HN.out _).mono ?_;rintro e w3 ⟨rfl,rfl⟩)|(go_at_call 135;refine (HT.out _).mono ?_;rintro e w3 ⟨rfl,rfl⟩)|(go_at_call 136;refine HA.out.mono ?_;rintro e w3 ⟨rfl,hb⟩;have HB3:=Lh (HB.out.trans (hb.mono HB.out.size));clear hb))
   go_ret
   exact ⟨qz HV.out.symm,HB3.out⟩
 obtain ⟨A,hA⟩:∃A,A=(decide (ps.length≤32) && ps.all qL):=⟨_,rfl⟩
 obtain ⟨B,hB⟩:∃B,B=(decide (qs.length≤32) && qs.all preB):=⟨_,rfl⟩
 rw [← hA] at HP HV
 rw [← hB] at HQ HV
 clear hA hB
 obtain ⟨np,hnp⟩:∃np,np=ps.length:=⟨_,rfl⟩
 obtain ⟨nq,hnq⟩:∃nq,nq=qs.length:=⟨_,rfl⟩
 rw [← hnp] at HP HV HX ⊢
 rw [← hnq] at HQ HV HX ⊢
 clear hnp hnq
 go_upto_region 3 with (first|(go_at_call 134;refine (HN.out _).mono ?_;rintro e w3 ⟨rfl,rfl⟩)|(go_at_call 135;refine (HT.out _).mono ?_;rintro e w3 ⟨rfl,rfl⟩)|(go_at_call 136;refine HA.out.mono ?_;rintro e w3 ⟨rfl,hb⟩;have HB3:=Lh (HB.out.trans (hb.mono HB.out.size));have hz:=(hb.block _ (qx HX.out)).trans HX.out;have z4:=qq hz (j:=4) rfl;have z5:=qq hz (j:=5) rfl;clear hb hz))
 clear HN HT HA HX q0 q1 q2
 by_cases hp0:0<np
 · have d1:decide (0<(np:Int))=true:=by rw [decide_eq_true_eq];omega
   have d4:decide (0<np)=true:=by rw [decide_eq_true_eq];omega
   by_cases hq0:nq=0
   · have d2:((nq:Int) == 0)=true:=by rw [beq_iff_eq];omega
     have HR:=Lh (show V=A by rw [HV.out,if_pos hp0,decide_eq_true hq0];simp)
     clear HQ
     go_upto_region 4 with fail
     go_wp2_with (go_at_call 137;refine (HP.out _ HB3.out).mono ?_;rintro e w5 ⟨rfl,hb⟩;have HB5:=Lh (HB3.out.trans (hb.mono HB3.out.size));clear hb)
     go_ret
     exact ⟨qz HR.out.symm,HB5.out⟩
   · have d2:((nq:Int) == 0)=false:=by rw [beq_eq_false_iff_ne];omega
     have HR:=Lh (show V=false by rw [HV.out,if_pos hp0,decide_eq_false hq0];simp)
     go_wp2
     go_ret
     exact ⟨qz HR.out.symm,HB3.out⟩
 · have d1:decide (0<(np:Int))=false:=by rw [decide_eq_false_iff_not];omega
   have d4:decide (0<np)=false:=by rw [decide_eq_false_iff_not];omega
   by_cases hq0:0<nq
   · have d2:decide (0<(nq:Int))=true:=by rw [decide_eq_true_eq];omega
     have d3:decide (0<nq)=true:=by rw [decide_eq_true_eq];omega
     have HR:=Lh (show V=B by rw [HV.out,if_neg hp0,decide_eq_true hq0];simp)
     clear HP
     go_upto_region 5 with fail
     go_wp2_with (go_at_call 137;refine (HQ.out _ HB3.out).mono ?_;rintro e w5 ⟨rfl,hb⟩;have HB5:=Lh (HB3.out.trans (hb.mono HB3.out.size));clear hb)
     go_ret
     exact ⟨qz HR.out.symm,HB5.out⟩
   · have d2:decide (0<(nq:Int))=false:=by rw [decide_eq_false_iff_not];omega
     have d3:decide (0<nq)=false:=by rw [decide_eq_false_iff_not];omega
     have HR:=Lh (show V=false by rw [HV.out,if_neg hp0,decide_eq_false hq0];simp)
     go_wp2
     go_ret
     exact ⟨qz HR.out.symm,HB3.out⟩
set_option maxHeartbeats 4000000 in
set_option maxRecDepth 100000 in
theorem pz (l:List DelegV) (a:Option Addr) (c:Nat) (w:World) (hA:qE w 0 w.heap.size a l) (hl:l.length≤4294967296) (hc:l.length≤c) (hf:∀x ∈ l,DelegFits x) :
 Calls Tryz.prog 83 #[.slice a l.length c] w fun e w'=>e=.returned (.bool (zq l))∧Below w.heap.size w w':=by
 have HA:=Lh hA
 have HF:=Lh hf
 clear hA hf
 obtain ⟨n,hn⟩:∃n,n=l.length:=⟨_,rfl⟩
 have HN:=Lh hn
 rw [← hn] at hl hc ⊢
 clear hn
 obtain ⟨V,hV⟩:∃V,V=zq l:=⟨_,rfl⟩
 have HV:=Lh hV
 rw [← hV]
 clear hV
 by_cases h64:64<n
 · have HR:=Lh (HV.out.trans (b8 (l:=l) (by rw [← HN.out];omega)))
   have d1:decide (64<(n:Int))=true:=by rw [decide_eq_true_eq];omega
   go_enter Tryz.func83,Tryz.ntmps83
   go_wp2
   go_ret
   exact ⟨qz HR.out.symm,Below.refl _ _⟩
 have d1:decide (64<(n:Int))=false:=by rw [decide_eq_false_iff_not];omega
 have h64':n≤64:=by omega
 clear h64
 go_enter Tryz.func83,Tryz.ntmps83
 go_wp2
 go_loopw [3,4,10] (fun _ _ i wr=>∃k:Nat,k≤n∧i=.int .i64 k∧(∀j (h:j<l.length),j<k→qX l[j]=true)∧(∀j (h:j<l.length),j<k→((l.take j).any fun y=>decide (y.name=l[j].name))=false)∧Below w.heap.size w wr) (fun _ _ i _=>n - (intOf i).toNat)
 case atStart=>exact ⟨0,by omega,rfl,fun j _ h=>by omega,fun j _ h=>by omega,Below.refl _ _⟩
 case round =>
  obtain ⟨k,hk,rfl,ho1,ho2,hbk⟩:=hrel
  have HO1:=Lh ho1
  have HO2:=Lh ho2
  have HBK:=Lh hbk
  clear ho1 ho2 hbk
  by_cases hlt:k<n
  · have hkl:k<l.length:=by rw [← HN.out];exact hlt
    obtain ⟨b,o,ha,-,hb,ia,ic,pa,pc,qa,qc,e0,e1,e2,e3,e4,e5,-,-,-,hin⟩:=(HA.out.below HBK.out lz lz HBK.out.size).at k hkl
    have HAR:=Lh (HA.out.take k)
    subst ha
    have m1:(0:Int)≤(k:Int):=by omega
    have m2:(k:Int)<(n:Int):=by omega
    have m3:decide ((k:Int)<(n:Int))=true:=by simpa using hlt
    have mkc:(k:Int)≤(c:Int):=by omega
    have HBAD:=Lh (fu (l:=l) hkl)
    have HTWI:=Lh (bh (l:=l) hkl)
    have HN1:=Lh (show qX l[k]=true→∀j (h:j<l.length),j<k+1→qX l[j]=true from fun h0 j hj hjk=>by
     rcases Nat.lt_succ_iff_lt_or_eq.1 hjk with h1|h1
     · exact HO1.out j hj h1
     · subst h1;exact h0)
    have HN2:=Lh (show ((l.take k).any fun y=>decide (y.name=l[k].name))=false→∀j (h:j<l.length),j<k+1→((l.take j).any fun y=>decide (y.name=l[j].name))=false from fun h0 j hj hjk=>by
     rcases Nat.lt_succ_iff_lt_or_eq.1 hjk with h1|h1
     · exact HO2.out j hj h1
     · subst h1;exact h0)
    have HFX:=Lh (HF.out l[k] (List.getElem_mem hkl))
    obtain ⟨x,hx⟩:∃x,x=l[k]:=⟨_,rfl⟩
    rw [← hx] at e0 e1 e2 e3 e4 e5 hin HBAD HTWI HN1 HN2 HFX
    clear hx
    obtain ⟨nm,au,tm,ps,qs⟩:=x
    dsimp only at e0 e1 e2 e3 e4 e5
    obtain ⟨WX,hWX⟩:∃WX,WX=wr.alloc (.cells #[.string nm,.int .i64 au.thr,.slice ia au.ids.length ic,.bool tm,.slice pa ps.length pc,.slice qa qs.length qc] 41):=⟨_,rfl⟩
    have hbX:Below wr.heap.size wr WX:=by rw [hWX];exact (Below.refl _ _).alloc lz _
    have hxX:WX.heap[wr.heap.size]?=some (.cells #[.string nm,.int .i64 au.thr,.slice ia au.ids.length ic,.bool tm,.slice pa ps.length pc,.slice qa qs.length qc] 41 (0,0)):=by rw [hWX];exact heap_alloc_new wr _
    have HBX:=Lh (HBK.out.trans (hbX.mono HBK.out.size))
    have HCX:=Lh (show ∀w':World,Below WX.heap.size WX w'→w'.cell? ⟨wr.heap.size,0,none⟩=some (.string nm)∧w'.cell? ⟨wr.heap.size,1,none⟩=some (.int .i64 au.thr)∧w'.cell? ⟨wr.heap.size,2,none⟩=some (.slice ia au.ids.length ic)∧w'.cell? ⟨wr.heap.size,3,none⟩=some (.bool tm)∧w'.cell? ⟨wr.heap.size,4,none⟩=some (.slice pa ps.length pc)∧w'.cell? ⟨wr.heap.size,5,none⟩=some (.slice qa qs.length qc) from fun w' h=>by
     have hz:=(h.block _ (qx hxX)).trans hxX
     exact ⟨qq hz rfl,qq hz rfl,qq hz rfl,qq hz rfl,qq hz rfl,qq hz rfl⟩)
    have HRM:=Lh (show ∀w':World,Below WX.heap.size WX w'→_ from fun w' h=>jb ⟨nm,au,tm,ps,qs⟩ ia pa qa ic pc qc w' (hin.below (hbX.trans (h.mono hbX.size)) lz lz (Nat.le_trans hbX.size h.size)) HFX.out)
    have HHN:=Lh (show ∀w':World,Below WX.heap.size WX w'→_ from fun w' h=>wC (l.take k) nm (some ⟨b,o,none⟩) c w' (HAR.out.below (HBX.out.trans (h.mono HBX.out.size)) lz lz (Nat.le_trans HBX.out.size h.size)) (by rw [List.length_take];omega))
    have HTL:=Lh (show (l.take k).length=k by rw [List.length_take];omega)
    rw [HTL.out] at HHN
    have HWX:=Lh hWX
    have HBK2:=Lh hbX.size
    obtain ⟨b1,hb1⟩:∃b,b=qX ⟨nm,au,tm,ps,qs⟩:=⟨_,rfl⟩
    obtain ⟨b2,hb2⟩:∃b2,b2=(l.take k).any fun y=>decide (y.name=nm):=⟨_,rfl⟩
    rw [← hb1] at HRM HBAD HN1
    rw [← hb2] at HHN HTWI HN2
    clear hbX hxX hWX hb1 hb2 hin
    go_upto_region 6 with fail
    rw [← HWX.out]
    clear e0 e1 e2 e3 e4 e5 HWX
    cases b1
    · have HR:=Lh (HV.out.trans (HBAD.out rfl))
      obtain ⟨V,hV⟩:∃V:List MP,V=[.con (.agg #[.string nm,.int .i64 au.thr,.slice ia au.ids.length ic,.bool tm,.slice pa ps.length pc,.slice qa qs.length qc]),.con (.bool false),.con (.bool true),.con (.bool true),.any,.any,.any,.any,.any,.any]:=⟨_,rfl⟩
      have HV:=Lh hV
      clear hV
      refine zf 10 (fun d a' w'=>∃x15 x16 x17 x18 x19 x20 x21 x22 x23 x24,a'=⟨#[Value.slice (some { block:=b,off:=o }) n c,undef,u2,Value.int IntKind.i64 (k:Int),Value.pointer (some { block:=wr.heap.size,off:=0 }),Value.slice (some { block:=b,off:=o }) n c,Value.int IntKind.i64 (n:Int),Value.bool false,Value.slice (some { block:=b,off:=o }) n c,Value.int IntKind.i64 (n:Int),Value.int IntKind.i64 (k:Int),Value.bool true,Value.int IntKind.i64 (k:Int),Value.pointer (some { block:=b,off:=o+k * 6 }),Value.agg #[Value.string nm,Value.int IntKind.i64 au.thr,Value.slice ia au.ids.length ic,Value.bool tm,Value.slice pa ps.length pc,Value.slice qa qs.length qc],x15,x16,x17,x18,x19,x20,x21,x22,x23,x24,u25,u26],[]⟩∧zN WX V d w' [x15,x16,x17,x18,x19,x20,x21,x22,x23,x24]) (by kernel_rfl) (by kernel_rfl) ?first ?step ?last
      case first=>exact ⟨_,_,_,_,_,_,_,_,_,_,rfl,zN.first _ _ _ (by rw [HV.out];rfl)⟩
      case step =>
       rintro d a' w' ⟨x15,x16,x17,x18,x19,x20,x21,x22,x23,x24,rfl,h⟩ q hq hn hw
       rcases q with _|_|_|_|_|_|_|_|_|_|q
       · obtain ⟨q0,q1,q2,q3,q4,q5⟩:=HCX.out w' h.1
         refine wpOp_step rfl fun K hK=>?_
         go_simp
         exact hK _ _ ⟨_,x16,x17,x18,x19,x20,x21,x22,x23,x24,rfl,h.sameC 0 _ HV rfl⟩
       · obtain rfl:=h.con 0 (hw _ rfl ⟨0,.data⟩ (by simp) rfl) HV rfl rfl
         obtain ⟨q0,q1,q2,q3,q4,q5⟩:=HCX.out w' h.1
         refine wpOp_step rfl fun K hK=>?_
         go_simp
         refine (HRM.out w' h.1).mono ?_
         rintro e w2 ⟨rfl,hb2⟩
         exact hK _ _ ⟨_,_,x17,x18,x19,x20,x21,x22,x23,x24,rfl,h.didC hb2 1 _ HV rfl⟩
       · obtain rfl:=h.con 1 (hw _ rfl ⟨1,.data⟩ (by simp) rfl) HV rfl rfl
         refine wpOp_step rfl fun K hK=>?_
         go_simp
         exact hK _ _ ⟨x15,_,_,x18,x19,x20,x21,x22,x23,x24,rfl,h.sameC 2 _ HV rfl⟩
       · obtain rfl:=h.con 2 (hw _ rfl ⟨2,.data⟩ (by simp) rfl) HV rfl rfl
         refine wpOp_step rfl fun K hK=>?_
         go_simp
         exact hK _ _ ⟨x15,x16,_,_,x19,x20,x21,x22,x23,x24,rfl,h.sameC 3 _ HV rfl⟩
       · obtain rfl:=h.con 3 (hw _ rfl ⟨3,.guard⟩ (by simp) rfl) HV rfl rfl
         refine wpOp_step rfl fun K hK=>?_
         go_simp
         exact hK _ _ ⟨x15,x16,x17,_,_,x20,x21,x22,x23,x24,rfl,h.same 4 _ .any (by rw [HV.out];rfl) trivial⟩
       · obtain rfl:=h.con 3 (hw _ rfl ⟨3,.guard⟩ (by simp) rfl) HV rfl rfl
         refine wpOp_step rfl fun K hK=>?_
         go_simp
         exact hK _ _ ⟨x15,x16,x17,_,x19,_,x21,x22,x23,x24,rfl,h.same 5 _ .any (by rw [HV.out];rfl) trivial⟩
       · obtain rfl:=h.con 3 (hw _ rfl ⟨3,.guard⟩ (by simp) rfl) HV rfl rfl
         refine wpOp_step rfl fun K hK=>?_
         go_simp
         exact hK _ _ ⟨x15,x16,x17,_,x19,x20,_,x22,x23,x24,rfl,h.same 6 _ .any (by rw [HV.out];rfl) trivial⟩
       · obtain rfl:=h.con 3 (hw _ rfl ⟨3,.guard⟩ (by simp) rfl) HV rfl rfl
         refine wpOp_step rfl fun K hK=>?_
         go_simp
         exact hK _ _ ⟨x15,x16,x17,_,x19,x20,x21,_,x23,x24,rfl,h.same 7 _ .any (by rw [HV.out];rfl) trivial⟩
       · obtain rfl:=h.con 3 (hw _ rfl ⟨3,.guard⟩ (by simp) rfl) HV rfl rfl
         refine wpOp_step rfl fun K hK=>?_
         go_simp
         exact hK _ _ ⟨x15,x16,x17,_,x19,x20,x21,x22,_,x24,rfl,h.same 8 _ .any (by rw [HV.out];rfl) trivial⟩
       · obtain rfl:=h.con 3 (hw _ rfl ⟨3,.chain⟩ (by simp) rfl) HV rfl rfl
         refine wpOp_step rfl fun K hK=>?_
         go_simp
         exact hK _ _ ⟨x15,x16,x17,_,x19,x20,x21,x22,x23,_,rfl,h.same 9 _ .any (by rw [HV.out];rfl) trivial⟩
       · omega
      case last =>
       rintro d a' w' hall ⟨x15,x16,x17,x18,x19,x20,x21,x22,x23,x24,rfl,h⟩
       have hle:=h.1
       obtain rfl:=h.con 3 (hall _ (by omega)) HV rfl rfl
       have HLE:=Lh hle
       clear h hall hle HV
       have HBF:=Lh (HBX.out.trans (HLE.out.mono HBX.out.size))
       go_wp2
       go_ret
       exact ⟨qz HR.out.symm,HBF.out⟩
    · cases b2
      · have HR1:=Lh (HN1.out rfl)
        have HR2:=Lh (HN2.out rfl)
        obtain ⟨V,hV⟩:∃V:List MP,V=[.con (.agg #[.string nm,.int .i64 au.thr,.slice ia au.ids.length ic,.bool tm,.slice pa ps.length pc,.slice qa qs.length qc]),.con (.bool true),.con (.bool false),.con (.bool false),.con (.slice (some ⟨b,o,none⟩) n c),.con (.int .i64 (k:Int)),.con (.slice (some ⟨b,o,none⟩) k c),.con (.pointer (some ⟨wr.heap.size,0,none⟩)),.con (.string nm),.con (.bool false)]:=⟨_,rfl⟩
        have HV:=Lh hV
        clear hV
        refine zf 10 (fun d a' w'=>∃x15 x16 x17 x18 x19 x20 x21 x22 x23 x24,a'=⟨#[Value.slice (some { block:=b,off:=o }) n c,undef,u2,Value.int IntKind.i64 (k:Int),Value.pointer (some { block:=wr.heap.size,off:=0 }),Value.slice (some { block:=b,off:=o }) n c,Value.int IntKind.i64 (n:Int),Value.bool false,Value.slice (some { block:=b,off:=o }) n c,Value.int IntKind.i64 (n:Int),Value.int IntKind.i64 (k:Int),Value.bool true,Value.int IntKind.i64 (k:Int),Value.pointer (some { block:=b,off:=o+k * 6 }),Value.agg #[Value.string nm,Value.int IntKind.i64 au.thr,Value.slice ia au.ids.length ic,Value.bool tm,Value.slice pa ps.length pc,Value.slice qa qs.length qc],x15,x16,x17,x18,x19,x20,x21,x22,x23,x24,u25,u26],[]⟩∧zN WX V d w' [x15,x16,x17,x18,x19,x20,x21,x22,x23,x24]) (by kernel_rfl) (by kernel_rfl) ?first ?step ?last
        case first=>exact ⟨_,_,_,_,_,_,_,_,_,_,rfl,zN.first _ _ _ (by rw [HV.out];rfl)⟩
        case step =>
         rintro d a' w' ⟨x15,x16,x17,x18,x19,x20,x21,x22,x23,x24,rfl,h⟩ q hq hn hw
         rcases q with _|_|_|_|_|_|_|_|_|_|q
         · obtain ⟨q0,q1,q2,q3,q4,q5⟩:=HCX.out w' h.1
           refine wpOp_step rfl fun K hK=>?_
           go_simp
           exact hK _ _ ⟨_,x16,x17,x18,x19,x20,x21,x22,x23,x24,rfl,h.sameC 0 _ HV rfl⟩
         · obtain rfl:=h.con 0 (hw _ rfl ⟨0,.data⟩ (by simp) rfl) HV rfl rfl
           obtain ⟨q0,q1,q2,q3,q4,q5⟩:=HCX.out w' h.1
           refine wpOp_step rfl fun K hK=>?_
           go_simp
           refine (HRM.out w' h.1).mono ?_
           rintro e w2 ⟨rfl,hb2⟩
           exact hK _ _ ⟨_,_,x17,x18,x19,x20,x21,x22,x23,x24,rfl,h.didC hb2 1 _ HV rfl⟩
         · obtain rfl:=h.con 1 (hw _ rfl ⟨1,.data⟩ (by simp) rfl) HV rfl rfl
           refine wpOp_step rfl fun K hK=>?_
           go_simp
           exact hK _ _ ⟨x15,_,_,x18,x19,x20,x21,x22,x23,x24,rfl,h.sameC 2 _ HV rfl⟩
         · obtain rfl:=h.con 2 (hw _ rfl ⟨2,.data⟩ (by simp) rfl) HV rfl rfl
           refine wpOp_step rfl fun K hK=>?_
           go_simp
           exact hK _ _ ⟨x15,x16,_,_,x19,x20,x21,x22,x23,x24,rfl,h.sameC 3 _ HV rfl⟩
         · obtain rfl:=h.con 3 (hw _ rfl ⟨3,.guard⟩ (by simp) rfl) HV rfl rfl
           refine wpOp_step rfl fun K hK=>?_
           go_simp
           exact hK _ _ ⟨x15,x16,x17,_,_,x20,x21,x22,x23,x24,rfl,h.sameC 4 _ HV rfl⟩
         · obtain rfl:=h.con 3 (hw _ rfl ⟨3,.guard⟩ (by simp) rfl) HV rfl rfl
           refine wpOp_step rfl fun K hK=>?_
           go_simp
           exact hK _ _ ⟨x15,x16,x17,_,x19,_,x21,x22,x23,x24,rfl,h.sameC 5 _ HV rfl⟩
         · obtain rfl:=h.con 3 (hw _ rfl ⟨3,.guard⟩ (by simp) rfl) HV rfl rfl
           obtain rfl:=h.con 4 (hw _ rfl ⟨4,.data⟩ (by simp) rfl) HV rfl rfl
           obtain rfl:=h.con 5 (hw _ rfl ⟨5,.data⟩ (by simp) rfl) HV rfl rfl
           refine wpOp_step rfl fun K hK=>?_
           go_simp
           exact hK _ _ ⟨x15,x16,x17,_,_,_,_,x22,x23,x24,rfl,h.sameC 6 _ HV rfl⟩
         · obtain rfl:=h.con 3 (hw _ rfl ⟨3,.guard⟩ (by simp) rfl) HV rfl rfl
           refine wpOp_step rfl fun K hK=>?_
           go_simp
           exact hK _ _ ⟨x15,x16,x17,_,x19,x20,x21,_,x23,x24,rfl,h.sameC 7 _ HV rfl⟩
         · obtain rfl:=h.con 3 (hw _ rfl ⟨3,.guard⟩ (by simp) rfl) HV rfl rfl
           obtain rfl:=h.con 7 (hw _ rfl ⟨7,.data⟩ (by simp) rfl) HV rfl rfl
           obtain ⟨q0,q1,q2,q3,q4,q5⟩:=HCX.out w' h.1
           refine wpOp_step rfl fun K hK=>?_
           go_simp
           exact hK _ _ ⟨x15,x16,x17,_,x19,x20,x21,_,_,x24,rfl,h.sameC 8 _ HV rfl⟩
         · obtain rfl:=h.con 3 (hw _ rfl ⟨3,.chain⟩ (by simp) rfl) HV rfl rfl
           obtain rfl:=h.con 6 (hw _ rfl ⟨6,.data⟩ (by simp) rfl) HV rfl rfl
           obtain rfl:=h.con 8 (hw _ rfl ⟨8,.data⟩ (by simp) rfl) HV rfl rfl
           obtain ⟨q0,q1,q2,q3,q4,q5⟩:=HCX.out w' h.1
           refine wpOp_step rfl fun K hK=>?_
           go_simp
           refine (HHN.out w' h.1).mono ?_
           rintro e w2 ⟨rfl,hb2⟩
           exact hK _ _ ⟨x15,x16,x17,_,x19,x20,_,x22,_,_,rfl,h.didC hb2 9 _ HV rfl⟩
         · omega
        case last =>
         rintro d a' w' hall ⟨x15,x16,x17,x18,x19,x20,x21,x22,x23,x24,rfl,h⟩
         have hle:=h.1
         obtain rfl:=h.con 3 (hall _ (by omega)) HV rfl rfl
         obtain rfl:=h.con 9 (hall _ (by omega)) HV rfl rfl
         have HLE:=Lh hle
         clear h hall hle HV
         have HBF:=Lh (HBX.out.trans (HLE.out.mono HBX.out.size))
         go_wp2
         go_roundw
         case rel=>exact ⟨k+1,by omega,by go_num,HR1.out,HR2.out,HBF.out⟩
         case measure=>simp [intOf];omega
      · have HR:=Lh (HV.out.trans (HTWI.out rfl))
        obtain ⟨V,hV⟩:∃V:List MP,V=[.con (.agg #[.string nm,.int .i64 au.thr,.slice ia au.ids.length ic,.bool tm,.slice pa ps.length pc,.slice qa qs.length qc]),.con (.bool true),.con (.bool false),.con (.bool false),.con (.slice (some ⟨b,o,none⟩) n c),.con (.int .i64 (k:Int)),.con (.slice (some ⟨b,o,none⟩) k c),.con (.pointer (some ⟨wr.heap.size,0,none⟩)),.con (.string nm),.con (.bool true)]:=⟨_,rfl⟩
        have HV:=Lh hV
        clear hV
        refine zf 10 (fun d a' w'=>∃x15 x16 x17 x18 x19 x20 x21 x22 x23 x24,a'=⟨#[Value.slice (some { block:=b,off:=o }) n c,undef,u2,Value.int IntKind.i64 (k:Int),Value.pointer (some { block:=wr.heap.size,off:=0 }),Value.slice (some { block:=b,off:=o }) n c,Value.int IntKind.i64 (n:Int),Value.bool false,Value.slice (some { block:=b,off:=o }) n c,Value.int IntKind.i64 (n:Int),Value.int IntKind.i64 (k:Int),Value.bool true,Value.int IntKind.i64 (k:Int),Value.pointer (some { block:=b,off:=o+k * 6 }),Value.agg #[Value.string nm,Value.int IntKind.i64 au.thr,Value.slice ia au.ids.length ic,Value.bool tm,Value.slice pa ps.length pc,Value.slice qa qs.length qc],x15,x16,x17,x18,x19,x20,x21,x22,x23,x24,u25,u26],[]⟩∧zN WX V d w' [x15,x16,x17,x18,x19,x20,x21,x22,x23,x24]) (by kernel_rfl) (by kernel_rfl) ?first ?step ?last
        case first=>exact ⟨_,_,_,_,_,_,_,_,_,_,rfl,zN.first _ _ _ (by rw [HV.out];rfl)⟩
        case step =>
         rintro d a' w' ⟨x15,x16,x17,x18,x19,x20,x21,x22,x23,x24,rfl,h⟩ q hq hn hw
         rcases q with _|_|_|_|_|_|_|_|_|_|q
         · obtain ⟨q0,q1,q2,q3,q4,q5⟩:=HCX.out w' h.1
           refine wpOp_step rfl fun K hK=>?_
           go_simp
           exact hK _ _ ⟨_,x16,x17,x18,x19,x20,x21,x22,x23,x24,rfl,h.sameC 0 _ HV rfl⟩
         · obtain rfl:=h.con 0 (hw _ rfl ⟨0,.data⟩ (by simp) rfl) HV rfl rfl
           obtain ⟨q0,q1,q2,q3,q4,q5⟩:=HCX.out w' h.1
           refine wpOp_step rfl fun K hK=>?_
           go_simp
           refine (HRM.out w' h.1).mono ?_
           rintro e w2 ⟨rfl,hb2⟩
           exact hK _ _ ⟨_,_,x17,x18,x19,x20,x21,x22,x23,x24,rfl,h.didC hb2 1 _ HV rfl⟩
         · obtain rfl:=h.con 1 (hw _ rfl ⟨1,.data⟩ (by simp) rfl) HV rfl rfl
           refine wpOp_step rfl fun K hK=>?_
           go_simp
           exact hK _ _ ⟨x15,_,_,x18,x19,x20,x21,x22,x23,x24,rfl,h.sameC 2 _ HV rfl⟩
         · obtain rfl:=h.con 2 (hw _ rfl ⟨2,.data⟩ (by simp) rfl) HV rfl rfl
           refine wpOp_step rfl fun K hK=>?_
           go_simp
           exact hK _ _ ⟨x15,x16,_,_,x19,x20,x21,x22,x23,x24,rfl,h.sameC 3 _ HV rfl⟩
         · obtain rfl:=h.con 3 (hw _ rfl ⟨3,.guard⟩ (by simp) rfl) HV rfl rfl
           refine wpOp_step rfl fun K hK=>?_
           go_simp
           exact hK _ _ ⟨x15,x16,x17,_,_,x20,x21,x22,x23,x24,rfl,h.sameC 4 _ HV rfl⟩
         · obtain rfl:=h.con 3 (hw _ rfl ⟨3,.guard⟩ (by simp) rfl) HV rfl rfl
           refine wpOp_step rfl fun K hK=>?_
           go_simp
           exact hK _ _ ⟨x15,x16,x17,_,x19,_,x21,x22,x23,x24,rfl,h.sameC 5 _ HV rfl⟩
         · obtain rfl:=h.con 3 (hw _ rfl ⟨3,.guard⟩ (by simp) rfl) HV rfl rfl
           obtain rfl:=h.con 4 (hw _ rfl ⟨4,.data⟩ (by simp) rfl) HV rfl rfl
           obtain rfl:=h.con 5 (hw _ rfl ⟨5,.data⟩ (by simp) rfl) HV rfl rfl
           refine wpOp_step rfl fun K hK=>?_
           go_simp
           exact hK _ _ ⟨x15,x16,x17,_,_,_,_,x22,x23,x24,rfl,h.sameC 6 _ HV rfl⟩
         · obtain rfl:=h.con 3 (hw _ rfl ⟨3,.guard⟩ (by simp) rfl) HV rfl rfl
           refine wpOp_step rfl fun K hK=>?_
           go_simp
           exact hK _ _ ⟨x15,x16,x17,_,x19,x20,x21,_,x23,x24,rfl,h.sameC 7 _ HV rfl⟩
         · obtain rfl:=h.con 3 (hw _ rfl ⟨3,.guard⟩ (by simp) rfl) HV rfl rfl
           obtain rfl:=h.con 7 (hw _ rfl ⟨7,.data⟩ (by simp) rfl) HV rfl rfl
           obtain ⟨q0,q1,q2,q3,q4,q5⟩:=HCX.out w' h.1
           refine wpOp_step rfl fun K hK=>?_
           go_simp
           exact hK _ _ ⟨x15,x16,x17,_,x19,x20,x21,_,_,x24,rfl,h.sameC 8 _ HV rfl⟩
         · obtain rfl:=h.con 3 (hw _ rfl ⟨3,.chain⟩ (by simp) rfl) HV rfl rfl
           obtain rfl:=h.con 6 (hw _ rfl ⟨6,.data⟩ (by simp) rfl) HV rfl rfl
           obtain rfl:=h.con 8 (hw _ rfl ⟨8,.data⟩ (by simp) rfl) HV rfl rfl
           obtain ⟨q0,q1,q2,q3,q4,q5⟩:=HCX.out w' h.1
           refine wpOp_step rfl fun K hK=>?_
           go_simp
           refine (HHN.out w' h.1).mono ?_
           rintro e w2 ⟨rfl,hb2⟩
           exact hK _ _ ⟨x15,x16,x17,_,x19,x20,_,x22,_,_,rfl,h.didC hb2 9 _ HV rfl⟩
         · omega
        case last =>
         rintro d a' w' hall ⟨x15,x16,x17,x18,x19,x20,x21,x22,x23,x24,rfl,h⟩
         have hle:=h.1
         obtain rfl:=h.con 3 (hall _ (by omega)) HV rfl rfl
         obtain rfl:=h.con 9 (hall _ (by omega)) HV rfl rfl
         have HLE:=Lh hle
         clear h hall hle HV
         have HBF:=Lh (HBX.out.trans (HLE.out.mono HBX.out.size))
         go_wp2
         go_ret
         exact ⟨qz HR.out.symm,HBF.out⟩
  · have m3:decide ((k:Int)<(n:Int))=false:=by simpa using hlt
    have HR:=Lh (HV.out.trans (ur (l:=l) (by rw [← HN.out];exact h64') (fun j hj=>HO1.out j hj (by rw [← HN.out] at hj;omega)) (fun j hj=>HO2.out j hj (by rw [← HN.out] at hj;omega))))
    go_wp2
    go_ret
    exact ⟨qz HR.out.symm,HBK.out⟩
set_option maxHeartbeats 1000000 in
theorem ft (l:List ByteArray) (path:ByteArray) (a:Option Addr) (c:Nat) (w:World) (hA:qw w 0 w.heap.size a l) (hl:l.length≤4294967296) (hs:∀s ∈ l,s.size≤4294967296) (hp:path.size≤4294967296) (hT:Tabs w) :
 Calls Tryz.prog 315 #[.slice a l.length c,.string path] w fun e w'=>e=.returned (.bool (xl l path))∧Below w.heap.size w w':=by
 have HA:=Lh hA
 have HS:=Lh hs
 have HD:=Lh (ny path w (by omega) hT)
 have HV:=Lh (show xl l path=l.any (fun q=>preB q && ff q (sQ path)) from rfl)
 clear hA hs hT
 obtain ⟨n,hn⟩:∃n,n=l.length:=⟨_,rfl⟩
 have HN:=Lh hn
 rw [← hn] at hl ⊢
 clear hn
 obtain ⟨D,hD⟩:∃D,D=sQ path:=⟨_,rfl⟩
 rw [← hD] at HV
 rw [show (⟨(kW path.data.toList).toArray⟩:ByteArray)=sQ path from rfl,← hD] at HD
 obtain ⟨V,hVV⟩:∃V,V=xl l path:=⟨_,rfl⟩
 rw [← hVV] at HV ⊢
 clear hD hVV
 go_enter Tryz.func315,Tryz.ntmps315
 go_wp2_with (go_at_call 181;refine HD.out.mono ?_;rintro e w1 ⟨rfl,hb⟩;have HB1:=Lh hb;clear hb)
 go_loopw [7,12] (fun _ i wr=>∃k:Nat,k≤n∧i=.int .i64 k∧(∀j (h:j<l.length),j<k→(preB l[j] && ff l[j] D)=false)∧Below w.heap.size w wr) (fun _ i _=>n - (intOf i).toNat)
 case atStart=>exact ⟨0,by omega,rfl,fun j _ h=>by omega,HB1.out⟩
 case round =>
  obtain ⟨k,hk,rfl,hno,hbk⟩:=hrel
  have HNO:=Lh hno
  have HBK:=Lh hbk
  clear hno hbk
  by_cases hlt:k<n
  · have hkl:k<l.length:=by rw [← HN.out];exact hlt
    obtain ⟨b,o,ha,-,hb,e0⟩:=(HA.out.below HBK.out lz lz lz).at k hkl
    subst ha
    have m1:(0:Int)≤(k:Int):=by omega
    have m2:(k:Int)<(n:Int):=by omega
    have m3:decide ((k:Int)<(n:Int))=true:=by simpa using hlt
    have HYES:=Lh (fc (f:=fun q=>preB q && ff q D) hkl)
    have HNX:=Lh (show (preB l[k] && ff l[k] D)=false→∀j (h:j<l.length),j<k+1→(preB l[j] && ff l[j] D)=false from fun h0 j hj hjk=>by
     rcases Nat.lt_succ_iff_lt_or_eq.1 hjk with h1|h1
     · exact HNO.out j hj h1
     · subst h1;exact h0)
    have hsz:=HS.out l[k] (List.getElem_mem hkl)
    obtain ⟨q,hq⟩:∃q,q=l[k]:=⟨_,rfl⟩
    rw [← hq] at e0 HYES HNX hsz
    have HM:=Lh (fun w=>rM q w (by omega))
    have HH:=Lh (fun w=>Tryz.strings_HasPrefix D q w)
    have hpf:Lib.hasPrefix D.data.toList q.data.toList=ff q D:=rfl
    rw [hpf] at HH
    obtain ⟨y,hy⟩:∃y,y=preB q:=⟨_,rfl⟩
    obtain ⟨z,hz⟩:∃z,z=ff q D:=⟨_,rfl⟩
    rw [← hy] at HM HYES HNX
    rw [← hz] at HH HYES HNX
    clear hq hy hz hsz hpf
    cases y with
    | false =>
     have HR:=Lh (HNX.out rfl)
     go_wp2_with (go_at_call 139;refine (HM.out _).mono ?_;rintro e w3 ⟨rfl,rfl⟩)
     go_roundw
     case rel=>exact ⟨k+1,by omega,by go_num,HR.out,HBK.out⟩
     case measure=>simp [intOf];omega
    | true =>
     cases z with
     | false =>
      have HR:=Lh (HNX.out rfl)
      go_wp2_with (first|(go_at_call 139;refine (HM.out _).mono ?_;rintro e w3 ⟨rfl,rfl⟩)|(go_at_call 208;refine (HH.out _).mono ?_;rintro e w3 ⟨rfl,rfl⟩))
      go_roundw
      case rel=>exact ⟨k+1,by omega,by go_num,HR.out,HBK.out⟩
      case measure=>simp [intOf];omega
     | true =>
      have HR:=Lh (HV.out.trans (HYES.out rfl))
      go_wp2_with (first|(go_at_call 139;refine (HM.out _).mono ?_;rintro e w3 ⟨rfl,rfl⟩)|(go_at_call 208;refine (HH.out _).mono ?_;rintro e w3 ⟨rfl,rfl⟩))
      go_ret
      exact ⟨qz HR.out.symm,HBK.out⟩
  · have m3:decide ((k:Int)<(n:Int))=false:=by simpa using hlt
    have HR:=Lh (HV.out.trans (bt (f:=fun q=>preB q && ff q D) (l:=l) (n:=k) (by rw [← HN.out];omega) HNO.out))
    go_wp2
    go_ret
    exact ⟨qz HR.out.symm,HBK.out⟩
theorem lh (a : Option Addr) (n c : Nat) (w : World) : (method 412 164 (.slice a n c) "legate/deleg.has").run Tryz.prog w = .ok (308, .slice a n c) w := by kernel_rfl
theorem lu (a : Option Addr) (n c : Nat) (w : World) : (method 412 165 (.slice a n c) "legate/deleg.has").run Tryz.prog w = .ok (314, .slice a n c) w := by kernel_rfl
set_option maxHeartbeats 400000 in
theorem aA (l:List ByteArray) (path:ByteArray) (a:Option Addr) (c:Nat) (w:World) (hA:qw w 0 w.heap.size a l) (hl:l.length≤4294967296) (hs:∀s ∈ l,s.size≤4294967296) (hp:path.size≤4294967296) :
 Calls Tryz.prog 308 #[.slice a l.length c,.string path] w fun e w'=>e=.returned (.bool (l.any fun p=>jV runes p path))∧Below w.heap.size w w':=by
 have HG:=Lh (sJ l path a c w hA hl hs hp)
 obtain ⟨n,hn⟩:∃n,n=l.length:=⟨_,rfl⟩
 obtain ⟨V,hV⟩:∃V,V=l.any (fun p=>jV runes p path):=⟨_,rfl⟩
 rw [← hV] at HG ⊢
 rw [← hn] at HG ⊢
 clear hA hl hs hn hV
 go_enter Tryz.func308,Tryz.ntmps308
 go_wp2_with (go_at_call 309;refine HG.out.mono ?_;rintro e w1 ⟨rfl,hb⟩;have HB:=Lh hb;clear hb)
 go_ret
 exact ⟨rfl,HB.out⟩
set_option maxHeartbeats 400000 in
theorem aT (l:List ByteArray) (path:ByteArray) (a:Option Addr) (c:Nat) (w:World) (hA:qw w 0 w.heap.size a l) (hl:l.length≤4294967296) (hs:∀s ∈ l,s.size≤4294967296) (hp:path.size≤4294967296) (hT:Tabs w) :
 Calls Tryz.prog 314 #[.slice a l.length c,.string path] w fun e w'=>e=.returned (.bool (xl l path))∧Below w.heap.size w w':=by
 have HG:=Lh (ft l path a c w hA hl hs hp hT)
 obtain ⟨n,hn⟩:∃n,n=l.length:=⟨_,rfl⟩
 obtain ⟨V,hV⟩:∃V,V=xl l path:=⟨_,rfl⟩
 rw [← hV] at HG ⊢
 rw [← hn] at HG ⊢
 clear hA hl hs hn hV hT
 go_enter Tryz.func314,Tryz.ntmps314
 go_wp2_with (go_at_call 315;refine HG.out.mono ?_;rintro e w1 ⟨rfl,hb⟩;have HB:=Lh hb;clear hb)
 go_ret
 exact ⟨rfl,HB.out⟩
set_option maxHeartbeats 1000000 in
set_option maxRecDepth 100000 in
theorem fi (nm:ByteArray) (thr:Int) (ids:List ByteArray) (tm:Bool) (ps qs:List ByteArray) (ia pa qa:Option Addr) (ic pc qc:Nat) (w:World) :
 Calls Tryz.prog 78 #[.agg #[.string nm,.int .i64 thr,.slice ia ids.length ic,.bool tm,.slice pa ps.length pc,.slice qa qs.length qc]] w fun e w'=>e=.returned (if ps≠[] then .iface 164 (.slice pa ps.length pc) else .iface 165 (.slice qa qs.length qc))∧Below w.heap.size w w':=by
 obtain ⟨W,hW⟩:∃W,W=w.alloc (.cells #[.string nm,.int .i64 thr,.slice ia ids.length ic,.bool tm,.slice pa ps.length pc,.slice qa qs.length qc] 41):=⟨_,rfl⟩
 have HB:=Lh (show Below w.heap.size w W by rw [hW];exact (Below.refl _ _).alloc lz _)
 have hx:W.heap[w.heap.size]?=some (.cells #[.string nm,.int .i64 thr,.slice ia ids.length ic,.bool tm,.slice pa ps.length pc,.slice qa qs.length qc] 41 (0,0)):=by rw [hW];exact heap_alloc_new w _
 have q4:=qq hx (j:=4) rfl;have q5:=qq hx (j:=5) rfl
 have HW:=Lh hW
 clear hW hx
 by_cases hps:ps=[]
 · have n1:decide ((0:Int)<(ps.length:Int))=false:=by subst hps;rfl
   have n3:decide (0<ps.length)=false:=by subst hps;rfl
   have n4:¬0<ps.length:=by subst hps;simp
   rw [if_neg (by simp [hps])]
   clear hps
   go_enter Tryz.func78,Tryz.ntmps78
   go_upto_region 1 with fail
   rw [← HW.out]
   clear HW
   go_wp2
   go_ret
   exact ⟨rfl,HB.out⟩
 · have n4:0<ps.length:=List.length_pos_iff.2 hps
   have n1:decide ((0:Int)<(ps.length:Int))=true:=by rw [decide_eq_true_eq];omega
   have n3:decide (0<ps.length)=true:=by rw [decide_eq_true_eq];omega
   rw [if_pos hps]
   clear hps
   go_enter Tryz.func78,Tryz.ntmps78
   go_upto_region 1 with fail
   rw [← HW.out]
   clear HW
   go_wp2
   go_ret
   exact ⟨rfl,HB.out⟩
theorem aI (x:DelegV) (path:ByteArray):isD runes x path=(qX x && (qL path && (if x.paths≠[] then x.paths.any (fun p=>jV runes p path) else xl x.pres path))):=by
 unfold isD
 rw [Bool.and_assoc]
set_option maxHeartbeats 2000000 in
set_option maxRecDepth 100000 in
theorem sR (x:DelegV) (path:ByteArray) (ia pa qa:Option Addr) (ic pc qc:Nat) (w:World) (hI:DelegIn w 0 w.heap.size x ia pa qa) (hf:DelegFits x) (hp:path.size≤4294967296) (hT:Tabs w) :
 Calls Tryz.prog 23 #[.agg #[.string x.name,.int .i64 x.au.thr,.slice ia x.au.ids.length ic,.bool x.term,.slice pa x.paths.length pc,.slice qa x.pres.length qc],.string path] w fun e w'=>e=.returned (.bool (isD runes x path))∧Below w.heap.size w w':=by
 have HV:=Lh (aI x path)
 obtain ⟨V,hV⟩:∃V,V=isD runes x path:=⟨_,rfl⟩
 rw [← hV] at HV ⊢
 clear hV
 obtain ⟨nm,⟨thr,ids⟩,tm,ps,qs⟩:=x
 dsimp only at HV ⊢
 obtain ⟨W,hW⟩:∃W,W=w.alloc (.cells #[.string nm,.int .i64 thr,.slice ia ids.length ic,.bool tm,.slice pa ps.length pc,.slice qa qs.length qc] 41):=⟨_,rfl⟩
 have hb:Below w.heap.size w W:=by rw [hW];exact (Below.refl _ _).alloc lz _
 have hx:W.heap[w.heap.size]?=some (.cells #[.string nm,.int .i64 thr,.slice ia ids.length ic,.bool tm,.slice pa ps.length pc,.slice qa qs.length qc] 41 (0,0)):=by rw [hW];exact heap_alloc_new w _
 have HB:=Lh hb
 have HC:=Lh (show ∀w':World,Below W.heap.size W w'→w'.cell? ⟨w.heap.size,0,none⟩=some (.string nm)∧w'.cell? ⟨w.heap.size,1,none⟩=some (.int .i64 thr)∧w'.cell? ⟨w.heap.size,2,none⟩=some (.slice ia ids.length ic)∧w'.cell? ⟨w.heap.size,3,none⟩=some (.bool tm)∧w'.cell? ⟨w.heap.size,4,none⟩=some (.slice pa ps.length pc)∧w'.cell? ⟨w.heap.size,5,none⟩=some (.slice qa qs.length qc) from fun w' h=>by
  have y:=(h.block _ (qx hx)).trans hx
  exact ⟨qq y rfl,qq y rfl,qq y rfl,qq y rfl,qq y rfl,qq y rfl⟩)
 have HI:=Lh (show ∀w':World,Below W.heap.size W w'→DelegIn w' 0 w'.heap.size ⟨nm,⟨thr,ids⟩,tm,ps,qs⟩ ia pa qa∧Tabs w' from fun w' h=>⟨hI.below (hb.trans (h.mono hb.size)) lz lz (Nat.le_trans hb.size h.size),hT.below (hb.trans (h.mono hb.size))⟩)
 have HRM:=Lh (jb ⟨nm,⟨thr,ids⟩,tm,ps,qs⟩ ia pa qa ic pc qc W (HI.out W (Below.refl _ _)).1 hf)
 have HPT:=Lh (fun w=>wH path w (by omega))
 have HMA:=Lh (fun w=>fi nm thr ids tm ps qs ia pa qa ic pc qc w)
 have HHP:=Lh (show ∀w':World,Below W.heap.size W w'→_ from fun w' h=>aA ps path pa pc w' (HI.out w' h).1.paths hf.paths.1 hf.paths.2 hp)
 have HHQ:=Lh (show ∀w':World,Below W.heap.size W w'→_ from fun w' h=>aT qs path qa qc w' (HI.out w' h).1.pres hf.pres.1 hf.pres.2 hp (HI.out w' h).2)
 have hm1:=lh
 have hm2:=lu
 have HWH:=Lh hW
 obtain ⟨b1,hb1⟩:∃b,b=qX ⟨nm,⟨thr,ids⟩,tm,ps,qs⟩:=⟨_,rfl⟩
 obtain ⟨b2,hb2⟩:∃b,b=qL path:=⟨_,rfl⟩
 obtain ⟨A,hA⟩:∃A,A=ps.any (fun p=>jV runes p path):=⟨_,rfl⟩
 obtain ⟨B,hB⟩:∃B,B=xl qs path:=⟨_,rfl⟩
 rw [← hb1,← hb2,← hA,← hB] at HV
 rw [← hb1] at HRM
 rw [← hb2] at HPT
 rw [← hA] at HHP
 rw [← hB] at HHQ
 clear hb hx hW hI hf hp hT hb1 hb2 hA hB
 obtain ⟨q0,q1,q2,q3,q4,q5⟩:=HC.out W (Below.refl _ _)
 go_enter Tryz.func23,Tryz.ntmps23
 go_upto_region 1 with fail
 rw [← HWH.out]
 clear HWH
 cases b1 with
 | false =>
  go_wp2_with (go_at_call 77;refine HRM.out.mono ?_;rintro e w1 ⟨rfl,hb⟩;have HB1:=Lh hb;clear hb)
  go_ret
  exact ⟨qz HV.out.symm,HB.out.trans (HB1.out.mono HB.out.size)⟩
 | true =>
  rw [Bool.true_and] at HV
  cases b2 with
  | false =>
   go_wp2_with (first|(go_at_call 77;refine HRM.out.mono ?_;rintro e w1 ⟨rfl,hb⟩;have HB1:=Lh hb;clear hb)|(go_at_call 34;refine (HPT.out _).mono ?_;rintro e w2 ⟨rfl,hb⟩;have HB2:=Lh (HB1.out.trans (hb.mono HB1.out.size));clear hb))
   go_ret
   exact ⟨qz HV.out.symm,HB.out.trans (HB2.out.mono HB.out.size)⟩
  | true =>
   rw [Bool.true_and] at HV
   by_cases hps:ps=[]
   · rw [if_neg (by simp [hps])] at HV
     simp only [show ¬ps≠[] from by simp [hps],if_false] at HMA
     clear hps
     go_wp2_with (first|(go_at_call 77;refine HRM.out.mono ?_;rintro e w1 ⟨rfl,hb⟩;have HB1:=Lh hb;clear hb)|(go_at_call 34;refine (HPT.out _).mono ?_;rintro e w2 ⟨rfl,hb⟩;have HB2:=Lh (HB1.out.trans (hb.mono HB1.out.size));obtain ⟨z0,z1,z2,z3,z4,z5⟩:=HC.out _ HB2.out;clear hb)|(go_at_call 78;refine (HMA.out _).mono ?_;rintro e w3 ⟨rfl,hb⟩;have HB3:=Lh (HB2.out.trans (hb.mono HB2.out.size));clear hb)|(go_at_call 314;refine (HHQ.out _ HB3.out).mono ?_;rintro e w4 ⟨rfl,hb⟩;have HB4:=Lh (HB3.out.trans (hb.mono HB3.out.size));clear hb))
     go_ret
     exact ⟨qz HV.out.symm,HB.out.trans (HB4.out.mono HB.out.size)⟩
   · rw [if_pos hps] at HV
     simp only [if_pos hps] at HMA
     clear hps
     go_wp2_with (first|(go_at_call 77;refine HRM.out.mono ?_;rintro e w1 ⟨rfl,hb⟩;have HB1:=Lh hb;clear hb)|(go_at_call 34;refine (HPT.out _).mono ?_;rintro e w2 ⟨rfl,hb⟩;have HB2:=Lh (HB1.out.trans (hb.mono HB1.out.size));obtain ⟨z0,z1,z2,z3,z4,z5⟩:=HC.out _ HB2.out;clear hb)|(go_at_call 78;refine (HMA.out _).mono ?_;rintro e w3 ⟨rfl,hb⟩;have HB3:=Lh (HB2.out.trans (hb.mono HB2.out.size));clear hb)|(go_at_call 308;refine (HHP.out _ HB3.out).mono ?_;rintro e w4 ⟨rfl,hb⟩;have HB4:=Lh (HB3.out.trans (hb.mono HB3.out.size));clear hb))
     go_ret
     exact ⟨qz HV.out.symm,HB.out.trans (HB4.out.mono HB.out.size)⟩
end Go.Proofs.YthgembbgcbaghaaGreatDoor
