/- The contract of legateref22.Value. Printed by genref22v.py. -/
import Derived.Test.YtnlgmcapbbgelaaGreatDoorRt44
import Derived.Test.YtnlgmcapbbgelaaGreatDoorRt37

namespace Go.Proofs.YtnlgmcapbbgelaaGreatDoor
open Go.RowKit Go.Shelf Go.Sort
def nR (t:Int) (l:List ByteArray) (w:World) (e:Ending) (w':World):Prop :=
 ∃g ai ci,e=.returned (.slice (some ⟨g,0,none⟩) 2 2)∧w.heap.size≤g∧w'.heap[g]?=some (.cells #[.string ⟨#[107,101,121,105,100,115]⟩,.int .u8 4,.int .i64 0,.string ⟨#[]⟩,.slice none 0 0,.slice ai l.length ci,.string ⟨#[116,104,114,101,115,104,111,108,100]⟩,.int .u8 2,.int .i64 t,.string ⟨#[]⟩,.slice none 0 0,.slice none 0 0] 181 (0,0)) ∧
  (∃hi,hi≤g∧Rep w' w.heap.size hi (qC l) (.agg #[.int .u8 4,.int .i64 0,.string ⟨#[]⟩,.slice none 0 0,.slice ai l.length ci]))∧Below w.heap.size w w'
set_option maxHeartbeats 2000000 in
set_option maxRecDepth 100000 in
theorem mq (t:Int) (l:List ByteArray) (a:Option Addr) (c:Nat) (w:World) (hS:qv w 0 w.heap.size a l) (hl:l.length≤4294967296) :
 Calls Tryz.prog 131 #[.agg #[.int .i64 t,.slice a l.length c]] w (nR t l w):=by
 obtain ⟨W,hW⟩:∃W,W=w.alloc (.cells #[.int .i64 t,.slice a l.length c] 30):=⟨_,rfl⟩
 have hb:Below w.heap.size w W:=by rw [hW];exact (Below.refl _ _).alloc lz _
 have hx:W.heap[w.heap.size]?=some (.cells #[.int .i64 t,.slice a l.length c] 30 (0,0)):=by rw [hW];exact heap_alloc_new w _
 have HC:=Lh (show ∀w':World,Below W.heap.size W w'→w'.cell? ⟨w.heap.size,0,none⟩=some (.int .i64 t)∧w'.cell? ⟨w.heap.size,1,none⟩=some (.slice a l.length c)∧w.heap.size<w'.heap.size from fun w' h=>by
  have y0:=(h.block _ (qz hx)).trans hx
  exact ⟨qq y0 rfl,qq y0 rfl,Nat.lt_of_lt_of_le (qz hx) h.size⟩)
 have HT:=Lh (show ∀w':World,Below W.heap.size W w'→Calls Tryz.prog 18 #[.slice a l.length c] w' (fun e w2=>∃ai ci,e=.returned (.agg #[.int .u8 4,.int .i64 0,.string ⟨#[]⟩,.slice none 0 0,.slice ai l.length ci])∧Hid (Rep w2 W.heap.size w2.heap.size (qC l) (.agg #[.int .u8 4,.int .i64 0,.string ⟨#[]⟩,.slice none 0 0,.slice ai l.length ci]))∧Below W.heap.size W w2∧w2.cell? ⟨w.heap.size,0,none⟩=some (.int .i64 t)∧w2.cell? ⟨w.heap.size,1,none⟩=some (.slice a l.length c)∧w.heap.size<w2.heap.size) from fun w' h=>by
  have hbw:=hb.trans (h.mono hb.size)
  refine (uP l a c w' (hS.below hbw lz lz hbw.size) hl).mono ?_
  rintro e w2 ⟨ai,ci,rfl,hr,hb2⟩
  have h2:=h.trans (hb2.mono h.size)
  exact ⟨ai,ci,rfl,Lh (Rep.carry h.size lz (fun _ _ _=>rfl) _ _ hr),h2,HC.out _ h2⟩)
 have HN:=Lh (show ∀w':World,Below W.heap.size W w'→Calls Tryz.prog 80 #[.int .i64 t] w' (fun e w2=>e=.returned (.agg #[.int .u8 2,.int .i64 t,.string ⟨#[]⟩,.slice none 0 0,.slice none 0 0])∧Below w'.heap.size w' w2∧Below W.heap.size W w2∧w2.cell? ⟨w.heap.size,0,none⟩=some (.int .i64 t)∧w2.cell? ⟨w.heap.size,1,none⟩=some (.slice a l.length c)∧w.heap.size<w2.heap.size) from fun w' h=>by
  refine (pr t w').mono ?_
  rintro e w2 ⟨rfl,rfl⟩
  have hb2:Below w'.heap.size w' (w'.alloc (.cells #[.int .u8 2,.int .i64 t,.string ⟨#[]⟩,.slice none 0 0,.slice none 0 0] 25)):=(Below.refl _ _).alloc lz _
  have h2:=h.trans (hb2.mono h.size)
  exact ⟨rfl,hb2,h2,HC.out _ h2⟩)
 have HB:=Lh hb
 have HW:=Lh hW
 clear hS hb hx hW
 have hbz:Below W.heap.size W W.drew:=(Below.refl _ _).drew
 obtain ⟨q0,q1,hzq⟩:=HC.out W (Below.refl _ _)
 go_enter Tryz.func131,Tryz.ntmps131
 go_upto_region 1 with fail
 rw [← HW.out]
 clear HW
 go_region_held3 (fun w'=>w'.cell? ⟨w.heap.size,0,none⟩=some (.int .i64 t)∧w'.cell? ⟨w.heap.size,1,none⟩=some (.slice a l.length c)) (first|(with_reducible exact ⟨q0,q1⟩)|(with_reducible exact ⟨(qh _ hzq).trans q0,(qh _ hzq).trans q1⟩)|(go_keep;done)) (first|(go_at_call 18;(with_reducible refine (HT.out _ hbz).mono ?_);rintro e w2 ⟨ai,ci,rfl,HTX,hbz,q0,q1,hzq⟩)|(go_at_call 80;(with_reducible refine (HN.out _ hbz).mono ?_);rintro e w2 ⟨rfl,hbn,hbz,q0,q1,hzq⟩;replace HTX:=Lh (HTX.out.below hbn lz lz hbn.size))|(go_at_call 80;(with_reducible refine (HN.out _ hbz).mono ?_);rintro e w2 ⟨rfl,-,hbz,q0,q1,hzq⟩))
 all_goals
  have HBZ:=Lh hbz
  clear hbz q0 q1 hzq
  go_wp2
  go_ret
  exact ⟨_,ai,ci,rfl,Nat.le_trans HB.out.size HBZ.out.size,heap_alloc_new _ _,⟨_,Nat.le_refl _,Rep.carry HB.out.size lz (fun _ _ _=>rfl) _ _ (HTX.out.below ((Below.refl _ _).alloc lz _) lz lz lz)⟩,(HB.out.trans (HBZ.out.mono HB.out.size)).alloc (Nat.le_trans HB.out.size HBZ.out.size) _⟩
theorem aM (t:Int) (l:List ByteArray) (g:Nat) (ai:Option Addr) (ci:Nat) (lo:Nat) (w:World) (hlo:lo≤w.heap.size) (hgl:lo≤g) (hg:w.heap[g]?=some (.cells #[.string ⟨#[107,101,121,105,100,115]⟩,.int .u8 4,.int .i64 0,.string ⟨#[]⟩,.slice none 0 0,.slice ai l.length ci,.string ⟨#[116,104,114,101,115,104,111,108,100]⟩,.int .u8 2,.int .i64 t,.string ⟨#[]⟩,.slice none 0 0,.slice none 0 0] 181 (0,0)))
 (hR:∃hi,hi≤g∧Rep w lo hi (qC l) (.agg #[.int .u8 4,.int .i64 0,.string ⟨#[]⟩,.slice none 0 0,.slice ai l.length ci])) :
 Calls Tryz.prog 130 #[.slice (some ⟨g,0,none⟩) 2 2] w (cS [qQ,thrN] [qC l,xF t] lo w):=by
 obtain ⟨hi,hhi,hR⟩:=hR
 have hM:lT 181 lo w (.slice (some ⟨g,0,none⟩) 2 2) [(qQ,qC l),(thrN,xF t)]:=by
  refine ⟨[⟨qQ,4,0,⟨#[]⟩,none,0,0,ai,l.length,ci⟩,mT thrN t],?_,rfl⟩
  refine MemsT.row (T:=181) (W0:=lo) (w:=w) (blk:=g) [⟨qQ,4,0,⟨#[]⟩,none,0,0,ai,l.length,ci⟩,mT thrN t] [qC l,xF t] hgl rfl (by simp) (by rw [hg];rfl) fun i hi'=>?_
  match i,hi' with
  | 0,_=>exact ⟨lo,hi,Nat.le_refl _,hhi,hR⟩
  | 1,_=>exact ⟨lo,lo,Nat.le_refl _,hgl,g8 _ _ _ _⟩
 exact fg lo g 2 w [(qQ,qC l),(thrN,xF t)] [(qQ,qC l),(thrN,xF t)] hM (List.Perm.refl _) (show qr [qQ,thrN]=true by decide +kernel) (by simp) hlo (qz hg)
set_option maxHeartbeats 2000000 in
set_option maxRecDepth 100000 in
theorem lj (t:Int) (l:List ByteArray) (a:Option Addr) (c:Nat) (w:World) (hS:qv w 0 w.heap.size a l) (hf:kL ⟨t,l⟩) :
 Calls Tryz.prog 79 #[.agg #[.int .i64 t,.slice a l.length c]] w (fs (ku ⟨t,l⟩) w):=by
 obtain ⟨W,hW⟩:∃W,W=(w.alloc (.cells #[.int .i64 t,.slice a l.length c] 30)).alloc (.cells #[.int .u8 0,.int .i64 0,.string ⟨#[]⟩,.slice none 0 0,.slice none 0 0] 25):=⟨_,rfl⟩
 have hz1:(w.alloc (.cells #[.int .i64 t,.slice a l.length c] 30)).heap.size=w.heap.size+1:=by simp
 have hb:Below w.heap.size w W:=by rw [hW];exact ((Below.refl _ _).alloc lz _).alloc (by simp) _
 have hx:W.heap[w.heap.size]?=some (.cells #[.int .i64 t,.slice a l.length c] 30 (0,0)):=by rw [hW,Below.heap_alloc _ _ _ (by simp)];exact heap_alloc_new w _
 have hr0:W.rowIs (w.heap.size+1) 25 5 (qs (.int .u8 0) (.int .i64 0) (.string ⟨#[]⟩) (.slice none 0 0) (.slice none 0 0)):=by
  have:=qf (w.alloc (.cells #[.int .i64 t,.slice a l.length c] 30)) (.int .u8 0) (.int .i64 0) (.string ⟨#[]⟩) (.slice none 0 0) (.slice none 0 0) 25
  rw [hz1,← hW] at this
  exact this
 have HMY:=Lh (yo t l a c W (hS.below hb lz lz hb.size) (fun s hs=>Nat.le_trans (hf.2.2 s hs) (by decide)) (Nat.le_trans hf.2.1 (by decide)))
 have HS:=Lh hS
 have HF:=Lh hf
 have HB:=Lh hb
 have HX:=Lh hx
 have HR0:=Lh hr0
 have HW:=Lh hW
 obtain ⟨mb,hmb⟩:∃mb,mb=zM t l:=⟨_,rfl⟩
 rw [← hmb] at HMY
 have HMB:=Lh hmb
 clear hS hf hb hx hr0 hW hz1 hmb
 have c0:W.cell? ⟨w.heap.size,0,none⟩=some (.int .i64 t):=qq HX.out rfl
 have c1:W.cell? ⟨w.heap.size,1,none⟩=some (.slice a l.length c):=qq HX.out rfl
 go_enter Tryz.func79,Tryz.ntmps79
 go_upto_region 1 with fail
 rw [← HW.out]
 clear HW
 go_wp2_with fail
 refine HMY.out.mono ?_
 clear HMY c0 c1
 rintro r w1 ⟨rfl,hb1⟩
 have hx1:=(hb1.block _ (qz HX.out)).trans HX.out
 have hr1:=qx hb1 HR0.out HR0.out.lt
 have HX1:=Lh hx1
 have HR1:=Lh hr1
 have HB1:=Lh (HB.out.trans (hb1.mono HB.out.size))
 have HZ1:=Lh (show w.heap.size+1<w1.heap.size from hr1.lt)
 clear hb1 hx1
 cases mb with
 | false =>
  have HV:=Lh (show ku ⟨t,l⟩=(qO,3) by unfold ku qe;rw [← HMB.out];rfl)
  obtain ⟨t0,t1,t2,t3,t4⟩:=rc5 hr1
  obtain ⟨s0,s1,s2,s3,s4⟩:=rf5 hr1
  simp only [qs] at t0 t1 t2 t3 t4
  clear hr1
  go_wp2
  refine bodyPost_ret (qj Tryz.results79 _ _ (w.heap.size+1) 25 _ (0,0) _ rfl (qm (set5 _ _ _ _ _ HR1.out)) Tryz.underlying25 rfl (by kernel_rfl) _ rfl) rfl ?_
  rw [HV.out]
  exact k6 ⟨rfl,qT _ _ _ _ _ HB1.out (by omega)⟩
 | true =>
  have HV:=Lh (show ku ⟨t,l⟩=(qZ ⟨t,l⟩,0) by unfold ku qe;rw [← HMB.out];rfl)
  have hpt:=xz (a:=⟨t,l⟩) (by unfold qe;exact HMB.out.symm)
  have HWT:=Lh (show (qC l).wt≤4294967296 from fE (fun x hx=>by have:=(kU (jJ _ _ hpt.2.2 x hx)).2;omega) hpt.1.2)
  have HME:=Lh (mq t l a c w1 (HS.out.below HB1.out lz lz HB1.out.size) HF.out.2.1)
  have c0:w1.cell? ⟨w.heap.size,0,none⟩=some (.int .i64 t):=qq HX1.out rfl
  have c1:w1.cell? ⟨w.heap.size,1,none⟩=some (.slice a l.length c):=qq HX1.out rfl
  clear hr1 hpt
  go_wp2_with fail
  refine HME.out.mono ?_
  clear HME c0 c1
  rintro r w2 ⟨g,ai,ci,rfl,hgl,hg,hr,hb2⟩
  have HLG:=Lh hgl
  clear hgl
  have HO:=Lh (aM t l g ai ci w1.heap.size w2 hb2.size HLG.out hg hr)
  have HR2:=Lh (qx hb2 HR1.out HR1.out.lt)
  have HB2:=Lh (HB1.out.trans (hb2.mono HB1.out.size))
  have HZ2:=Lh (show w.heap.size+1<w2.heap.size from Nat.lt_of_lt_of_le HZ1.out hb2.size)
  clear hg hr hb2
  go_wp2_with fail
  refine HO.out.mono ?_
  clear HO
  rintro r w3 ⟨an3,cn3,ai3,ci3,rfl,hr3,hb3⟩
  have hb33:=hb3
  obtain ⟨W4,hW4⟩:∃W4,W4=w3.alloc (.cells #[.int .u8 5,.int .i64 0,.string ⟨#[]⟩,.slice an3 2 cn3,.slice ai3 2 ci3] 25):=⟨_,rfl⟩
  have hx4:W4.heap[w3.heap.size]?=some (.cells #[.int .u8 5,.int .i64 0,.string ⟨#[]⟩,.slice an3 2 cn3,.slice ai3 2 ci3] 25 (0,0)):=by rw [hW4];exact heap_alloc_new w3 _
  have hb4:Below w3.heap.size w3 W4:=by rw [hW4];exact (Below.refl _ _).alloc lz _
  have HR4:=Lh (hr3.below (lo':=w1.heap.size) (hi':=W4.heap.size) hb4 lz lz hb4.size)
  have HRS:=Lh (qx hb4 (qx hb3 HR2.out HR2.out.lt) (Nat.lt_of_lt_of_le HR2.out.lt hb3.size))
  have HB4:=Lh (HB2.out.trans ((hb3.trans (hb4.mono hb3.size)).mono HB2.out.size))
  have hres:=HRS.out
  obtain ⟨t0,t1,t2,t3,t4⟩:=rc5 hres
  obtain ⟨s0,s1,s2,s3,s4⟩:=rf5 hres
  simp only [qs] at t0 t1 t2 t3 t4
  obtain ⟨y0,y1,y2,y3,y4⟩:=bx5 hx4
  have HW4:=Lh hW4
  have hzz:w.heap.size+1<W4.heap.size:=hres.lt
  clear hres hr3 hb3 hb33 hx4 hb4 hW4
  go_upto_region 4 with fail
  rw [← HW4.out]
  clear HW4
  go_wp2
  refine bodyPost_ret (qj Tryz.results79 _ _ (w.heap.size+1) 25 _ (0,0) _ rfl (qm (set5 _ _ _ _ _ HRS.out)) Tryz.underlying25 rfl (by kernel_rfl) _ rfl) rfl ?_
  rw [HV.out]
  exact ⟨an3,cn3,ai3,ci3,rfl,Rep.carry (by have:=HZ1.out;omega) (show W4.heap.size≤_ by simp [World.setCell]) (fun j hj _=>jC _ _ _ _ _ (by have:=HZ1.out;omega)) _ _ HR4.out,qT _ _ _ _ _ HB4.out (by omega)⟩
theorem xA {w n:World} {b:Nat} {o:Obj} (h:n=w.alloc o) (hb:b=w.heap.size):n.heap[b]?=some o:=by rw [h,hb];exact heap_alloc_new w _
theorem lE {w:World} {b T:Nat} {a0 a1 a2 a3 a4:Value} (h:w.heap[b]?=some (.cells #[a0,a1,a2,a3,a4] T (0,0))):w.rowIs b T 5 (qs a0 a1 a2 a3 a4):=⟨_,h,rfl,fun i hi=>by rcases i with _|_|_|_|_|i <;> first|rfl|omega⟩
theorem pO (t:ByteArray) (w:World):Calls Tryz.prog 20 #[.string t] w fun e w'=>e=.returned (.agg #[.int .u8 3,.int .i64 0,.string t,.slice none 0 0,.slice none 0 0])∧Below w.heap.size w w' :=
 (gX t w).mono fun e w' h=>⟨h.1,by rw [h.2];exact (Below.refl _ _).alloc lz _⟩
theorem nN (n:Int) (w:World):Calls Tryz.prog 80 #[.int .i64 n] w fun e w'=>e=.returned (.agg #[.int .u8 2,.int .i64 n,.string ⟨#[]⟩,.slice none 0 0,.slice none 0 0])∧Below w.heap.size w w' :=
 (pr n w).mono fun e w' h=>⟨h.1,by rw [h.2];exact (Below.refl _ _).alloc lz _⟩
theorem pE (l:List Key2) (a:Option Addr) (c:Nat) (w:World) (hK:zo w 0 w.heap.size a l) (hm:zx l=true) (hs:∀k ∈ l,k.1.size≤300∧k.2.size≤300) :
 Calls Tryz.prog 78 #[.slice a l.length c] w fun e w'=>∃an cn ai ci,e=.returned (.tuple #[.agg #[.int .u8 5,.int .i64 0,.string ⟨#[]⟩,.slice an l.length cn,.slice ai l.length ci],.int .i64 0])∧Rep w' w.heap.size w'.heap.size (zD l) (.agg #[.int .u8 5,.int .i64 0,.string ⟨#[]⟩,.slice an l.length cn,.slice ai l.length ci])∧Below w.heap.size w w':=by
 obtain ⟨h1,h2,h3⟩:=zw.1 hm
 refine (dI l a c w hK (by omega) hs).mono ?_
 rintro e w' ⟨u,hu,-,-,hv⟩
 have he:jM l=0:=lS h2 h3 h1
 obtain ⟨m,hp,hr,rfl⟩:=hu he
 obtain rfl:m=l:=yi hp hr h3
 rw [he] at hv
 obtain ⟨an,cn,ai,ci,h4,h5,h6⟩:=hv
 have e1:(zD m).names.length=m.length:=List.length_map ..
 have e2:(zD m).items.length=m.length:=List.length_map ..
 rw [e1,e2] at h4 h5
 exact ⟨an,cn,ai,ci,h4,h5,h6⟩
theorem kw (t:Int) (l:List ByteArray) (a:Option Addr) (c:Nat) (w:World) (hS:qv w 0 w.heap.size a l) (hm:qe ⟨t,l⟩=true) :
 Calls Tryz.prog 79 #[.agg #[.int .i64 t,.slice a l.length c]] w fun e w'=>∃an cn ai ci,e=.returned (.tuple #[.agg #[.int .u8 5,.int .i64 0,.string ⟨#[]⟩,.slice an 2 cn,.slice ai 2 ci],.int .i64 0])∧Rep w' w.heap.size w'.heap.size (qZ ⟨t,l⟩) (.agg #[.int .u8 5,.int .i64 0,.string ⟨#[]⟩,.slice an 2 cn,.slice ai 2 ci])∧Below w.heap.size w w':=by
 have e:ku ⟨t,l⟩=(qZ ⟨t,l⟩,0):=by unfold ku;rw [if_pos hm]
 refine (lj t l a c w hS (jl hm)).mono ?_
 rw [e]
 rintro r w' ⟨an,cn,ai,ci,h1,h2,h3⟩
 exact ⟨an,cn,ai,ci,h1,h2,h3⟩
set_option maxHeartbeats 4000000 in
set_option maxRecDepth 100000 in
theorem lw (v e:Int) (l:List Key2) (t1 t2 t3:Int) (d1 d2 d3:List ByteArray) (ka i1 i2 i3:Option Addr) (kc c1 c2 c3:Nat) (w:World) (hI:RootIn w 0 w.heap.size ⟨v,e,l,⟨⟨t1,d1⟩,⟨t2,d2⟩,⟨t3,d3⟩⟩⟩ ka i1 i2 i3) (hf:RootFits ⟨v,e,l,⟨⟨t1,d1⟩,⟨t2,d2⟩,⟨t3,d3⟩⟩⟩) :
 Calls Tryz.prog 34 #[.agg #[.int .i64 v,.int .i64 e,.slice ka l.length kc,.int .i64 t1,.slice i1 d1.length c1,.int .i64 t2,.slice i2 d2.length c2,.int .i64 t3,.slice i3 d3.length c3]] w (fs (kx ⟨v,e,l,⟨⟨t1,d1⟩,⟨t2,d2⟩,⟨t3,d3⟩⟩⟩) w):=by
 have HB:=Lh (Below.refl w.heap.size w)
 have HI:=Lh hI
 have HF:=Lh hf
 clear hI hf
 go_enter Tryz.func34,Tryz.ntmps34
 obtain ⟨bR,hbR⟩:∃bR,bR=w.heap.size:=⟨_,rfl⟩
 obtain ⟨w1,hw1⟩:∃w1,w1=w.alloc (.cells #[.int .i64 v,.int .i64 e,.slice ka l.length kc,.int .i64 t1,.slice i1 d1.length c1,.int .i64 t2,.slice i2 d2.length c2,.int .i64 t3,.slice i3 d3.length c3] 32):=⟨_,rfl⟩
 have hbx:Below w.heap.size w w1:=by rw [hw1];exact (Below.refl _ _).alloc lz _
 have HXR:=Lh (show w1.heap[bR]?=some (.cells #[.int .i64 v,.int .i64 e,.slice ka l.length kc,.int .i64 t1,.slice i1 d1.length c1,.int .i64 t2,.slice i2 d2.length c2,.int .i64 t3,.slice i3 d3.length c3] 32 (0,0)) by rw [hw1,hbR];exact heap_alloc_new w _)
 replace HB:=Lh (HB.out.trans (hbx.mono HB.out.size))
 replace HI:=Lh (HI.out.below hbx lz lz hbx.size)
 have Hw1:=Lh (And.intro hw1 hbR)
 clear hbx hw1 hbR
 obtain ⟨bZ,hbZ⟩:∃bZ,bZ=w1.heap.size:=⟨_,rfl⟩
 obtain ⟨w2,hw2⟩:∃w2,w2=w1.alloc (.cells #[.int .u8 0,.int .i64 0,.string ⟨#[]⟩,.slice none 0 0,.slice none 0 0] 25):=⟨_,rfl⟩
 have hbx:Below w1.heap.size w1 w2:=by rw [hw2];exact (Below.refl _ _).alloc lz _
 have HXZ:=Lh (show w2.heap[bZ]?=some (.cells #[.int .u8 0,.int .i64 0,.string ⟨#[]⟩,.slice none 0 0,.slice none 0 0] 25 (0,0)) by rw [hw2,hbZ];exact heap_alloc_new w1 _)
 replace HB:=Lh (HB.out.trans (hbx.mono HB.out.size))
 replace HXR:=Lh ((hbx.block _ (qz HXR.out)).trans HXR.out)
 replace HI:=Lh (HI.out.below hbx lz lz hbx.size)
 have Hw2:=Lh (And.intro hw2 hbZ)
 clear hbx hw2 hbZ
 have HBZ:=Lh (show bZ=w.heap.size+1 by rw [Hw2.out.2,Hw1.out.1];simp)
 go_upto_region 1 with fail
 rw [← Hw1.out.1,← Hw2.out.1,← Hw1.out.2,show bR+1=bZ by rw [Hw2.out.2,Hw1.out.1,Hw1.out.2];simp]
 clear Hw1 Hw2
 obtain ⟨mb,hmb⟩:∃mb,mb=zu ⟨v,e,l,⟨⟨t1,d1⟩,⟨t2,d2⟩,⟨t3,d3⟩⟩⟩:=⟨_,rfl⟩
 have HMC:=Lh (cD v e l t1 t2 t3 d1 d2 d3 ka i1 i2 i3 kc c1 c2 c3 w2 HI.out HF.out)
 rw [← hmb] at HMC
 have HMB:=Lh hmb
 clear hmb
 obtain ⟨xR0,xR1,xR2,xR3,xR4,xR5,xR6,xR7,xR8⟩:=bx9 HXR.out
 go_wp2_with fail
 refine (HMC.out).mono ?_
 clear xR0 xR1 xR2 xR3 xR4 xR5 xR6 xR7 xR8
 rintro ee w3 ⟨rfl,hb⟩
 replace HB:=Lh (HB.out.trans (hb.mono HB.out.size))
 replace HXR:=Lh ((hb.block _ (qz HXR.out)).trans HXR.out)
 replace HXZ:=Lh ((hb.block _ (qz HXZ.out)).trans HXZ.out)
 replace HI:=Lh (HI.out.below hb lz lz hb.size)
 clear hb HMC
 have HL3:=Lh (Nat.le_refl w3.heap.size)
 have HZ3:=Lh (qz HXZ.out)
 have HW3:=Lh HB.out.size
 cases mb
 case false =>
  have HV:=Lh (show kx ⟨v,e,l,⟨⟨t1,d1⟩,⟨t2,d2⟩,⟨t3,d3⟩⟩⟩=(qO,3) by unfold kx;rw [← HMB.out];rfl)
  have s0:w3.frozen? ⟨bZ,0,none⟩=false:=by simp [World.frozen?,HXZ.out]
  have s1:w3.frozen? ⟨bZ,1,none⟩=false:=by simp [World.frozen?,HXZ.out]
  have s2:w3.frozen? ⟨bZ,2,none⟩=false:=by simp [World.frozen?,HXZ.out]
  have s3:w3.frozen? ⟨bZ,3,none⟩=false:=by simp [World.frozen?,HXZ.out]
  have s4:w3.frozen? ⟨bZ,4,none⟩=false:=by simp [World.frozen?,HXZ.out]
  obtain ⟨xZ0,xZ1,xZ2,xZ3,xZ4⟩:=bx5 HXZ.out
  go_wp2
  refine bodyPost_ret (qj Tryz.results34 _ _ bZ 25 _ (0,0) _ rfl (qm (set5 _ _ _ _ _ (lE HXZ.out))) Tryz.underlying25 rfl (by kernel_rfl) _ rfl) rfl ?_
  rw [HV.out]
  exact k6 ⟨rfl,qT _ _ _ _ _ HB.out (by have:=HBZ.out;omega)⟩
 case true =>
  have HV:=Lh (show kx ⟨v,e,l,⟨⟨t1,d1⟩,⟨t2,d2⟩,⟨t3,d3⟩⟩⟩=(zH ⟨v,e,l,⟨⟨t1,d1⟩,⟨t2,d2⟩,⟨t3,d3⟩⟩⟩,0) by unfold kx;rw [← HMB.out];rfl)
  have HPT:=Lh (xj.1 HMB.out.symm)
  have HM3:=Lh (vg.1 HPT.out.2.2.2)
  have HSE:=Lh (show xP e=0∧jg e=xU e from by
   have h:=HPT.out.2.1
   dsimp only at h
   exact ⟨if_pos h,show jg e=_ from if_pos h⟩)
  have HSH:=Lh (fX e w3)
  rw [HSE.out.1,HSE.out.2] at HSH
  obtain ⟨ds,hds⟩:∃ds,ds=xU e:=⟨_,rfl⟩
  rw [← hds] at HSH
  have HDS:=Lh hds
  clear hds
  dsimp only at HPT HM3
  obtain ⟨xR0,xR1,xR2,xR3,xR4,xR5,xR6,xR7,xR8⟩:=bx9 HXR.out
  go_wp2_with fail
  refine (HSH.out).mono ?_
  clear xR0 xR1 xR2 xR3 xR4 xR5 xR6 xR7 xR8
  rintro ee w4 ⟨rfl,hb⟩
  replace HB:=Lh (HB.out.trans (hb.mono HB.out.size))
  replace HXR:=Lh ((hb.block _ (qz HXR.out)).trans HXR.out)
  replace HXZ:=Lh ((hb.block _ (qz HXZ.out)).trans HXZ.out)
  replace HI:=Lh (HI.out.below hb lz lz hb.size)
  replace HL3:=Lh (Nat.le_trans HL3.out hb.size)
  clear hb HSH
  obtain ⟨xR0,xR1,xR2,xR3,xR4,xR5,xR6,xR7,xR8⟩:=bx9 HXR.out
  go_wp2_with fail
  refine (pE l ka kc w4 HI.out.keys HPT.out.2.2.1 HF.out.keys).mono ?_
  clear xR0 xR1 xR2 xR3 xR4 xR5 xR6 xR7 xR8
  rintro ee w5 ⟨qn,qc,qi,qd,rfl,hr,hb⟩
  have HSq:=HL3
  replace HB:=Lh (HB.out.trans (hb.mono HB.out.size))
  replace HXR:=Lh ((hb.block _ (qz HXR.out)).trans HXR.out)
  replace HXZ:=Lh ((hb.block _ (qz HXZ.out)).trans HXZ.out)
  replace HI:=Lh (HI.out.below hb lz lz hb.size)
  replace HL3:=Lh (Nat.le_trans HL3.out hb.size)
  have Hq:=Lh (show Rep w5 w3.heap.size w5.heap.size (zD l) (.agg #[.int .u8 5,.int .i64 0,.string ⟨#[]⟩,.slice qn l.length qc,.slice qi l.length qd]) from hr.carry HSq.out lz (fun _ _ _=>rfl))
  clear hr hb HSq
  obtain ⟨bK,hbK⟩:∃bK,bK=w5.heap.size:=⟨_,rfl⟩
  obtain ⟨w5x,hw5x⟩:∃w5x,w5x=w5.alloc (.cells #[.int .u8 5,.int .i64 0,.string ⟨#[]⟩,.slice qn l.length qc,.slice qi l.length qd] 25):=⟨_,rfl⟩
  have hbx:Below w5.heap.size w5 w5x:=by rw [hw5x];exact (Below.refl _ _).alloc lz _
  have HXK:=Lh (show w5x.heap[bK]?=some (.cells #[.int .u8 5,.int .i64 0,.string ⟨#[]⟩,.slice qn l.length qc,.slice qi l.length qd] 25 (0,0)) by rw [hw5x,hbK];exact heap_alloc_new w5 _)
  replace HB:=Lh (HB.out.trans (hbx.mono HB.out.size))
  replace HXR:=Lh ((hbx.block _ (qz HXR.out)).trans HXR.out)
  replace HXZ:=Lh ((hbx.block _ (qz HXZ.out)).trans HXZ.out)
  replace HI:=Lh (HI.out.below hbx lz lz hbx.size)
  replace Hq:=Lh (Hq.out.below hbx lz lz hbx.size)
  replace HL3:=Lh (Nat.le_trans HL3.out hbx.size)
  have Hw5x:=Lh (And.intro hw5x hbK)
  clear hbx hw5x hbK
  go_upto_region 5 with fail
  rw [← Hw5x.out.1,← Hw5x.out.2]
  clear Hw5x
  obtain ⟨xR0,xR1,xR2,xR3,xR4,xR5,xR6,xR7,xR8⟩:=bx9 HXR.out
  go_wp2_with fail
  refine (kw t1 d1 i1 c1 w5x HI.out.a HM3.out.1).mono ?_
  clear xR0 xR1 xR2 xR3 xR4 xR5 xR6 xR7 xR8
  rintro ee w6 ⟨an,ac,ai,ad,rfl,hr,hb⟩
  have HSa:=HL3
  replace HB:=Lh (HB.out.trans (hb.mono HB.out.size))
  replace HXR:=Lh ((hb.block _ (qz HXR.out)).trans HXR.out)
  replace HXZ:=Lh ((hb.block _ (qz HXZ.out)).trans HXZ.out)
  replace HXK:=Lh ((hb.block _ (qz HXK.out)).trans HXK.out)
  replace HI:=Lh (HI.out.below hb lz lz hb.size)
  replace Hq:=Lh (Hq.out.below hb lz lz hb.size)
  replace HL3:=Lh (Nat.le_trans HL3.out hb.size)
  have Ha:=Lh (show Rep w6 w3.heap.size w6.heap.size (qZ ⟨t1,d1⟩) (.agg #[.int .u8 5,.int .i64 0,.string ⟨#[]⟩,.slice an 2 ac,.slice ai 2 ad]) from hr.carry HSa.out lz (fun _ _ _=>rfl))
  clear hr hb HSa
  obtain ⟨bA,hbA⟩:∃bA,bA=w6.heap.size:=⟨_,rfl⟩
  obtain ⟨w6x,hw6x⟩:∃w6x,w6x=w6.alloc (.cells #[.int .u8 5,.int .i64 0,.string ⟨#[]⟩,.slice an 2 ac,.slice ai 2 ad] 25):=⟨_,rfl⟩
  have hbx:Below w6.heap.size w6 w6x:=by rw [hw6x];exact (Below.refl _ _).alloc lz _
  have HXA:=Lh (show w6x.heap[bA]?=some (.cells #[.int .u8 5,.int .i64 0,.string ⟨#[]⟩,.slice an 2 ac,.slice ai 2 ad] 25 (0,0)) by rw [hw6x,hbA];exact heap_alloc_new w6 _)
  replace HB:=Lh (HB.out.trans (hbx.mono HB.out.size))
  replace HXR:=Lh ((hbx.block _ (qz HXR.out)).trans HXR.out)
  replace HXZ:=Lh ((hbx.block _ (qz HXZ.out)).trans HXZ.out)
  replace HXK:=Lh ((hbx.block _ (qz HXK.out)).trans HXK.out)
  replace HI:=Lh (HI.out.below hbx lz lz hbx.size)
  replace Hq:=Lh (Hq.out.below hbx lz lz hbx.size)
  replace Ha:=Lh (Ha.out.below hbx lz lz hbx.size)
  replace HL3:=Lh (Nat.le_trans HL3.out hbx.size)
  have Hw6x:=Lh (And.intro hw6x hbA)
  clear hbx hw6x hbA
  go_upto_region 6 with fail
  rw [← Hw6x.out.1,← Hw6x.out.2]
  clear Hw6x
  obtain ⟨xR0,xR1,xR2,xR3,xR4,xR5,xR6,xR7,xR8⟩:=bx9 HXR.out
  go_wp2_with fail
  refine (kw t2 d2 i2 c2 w6x HI.out.b HM3.out.2.1).mono ?_
  clear xR0 xR1 xR2 xR3 xR4 xR5 xR6 xR7 xR8
  rintro ee w7 ⟨bn,bc,bi,bd,rfl,hr,hb⟩
  have HSb:=HL3
  replace HB:=Lh (HB.out.trans (hb.mono HB.out.size))
  replace HXR:=Lh ((hb.block _ (qz HXR.out)).trans HXR.out)
  replace HXZ:=Lh ((hb.block _ (qz HXZ.out)).trans HXZ.out)
  replace HXK:=Lh ((hb.block _ (qz HXK.out)).trans HXK.out)
  replace HXA:=Lh ((hb.block _ (qz HXA.out)).trans HXA.out)
  replace HI:=Lh (HI.out.below hb lz lz hb.size)
  replace Hq:=Lh (Hq.out.below hb lz lz hb.size)
  replace Ha:=Lh (Ha.out.below hb lz lz hb.size)
  replace HL3:=Lh (Nat.le_trans HL3.out hb.size)
  have Hb:=Lh (show Rep w7 w3.heap.size w7.heap.size (qZ ⟨t2,d2⟩) (.agg #[.int .u8 5,.int .i64 0,.string ⟨#[]⟩,.slice bn 2 bc,.slice bi 2 bd]) from hr.carry HSb.out lz (fun _ _ _=>rfl))
  clear hr hb HSb
  obtain ⟨bB,hbB⟩:∃bB,bB=w7.heap.size:=⟨_,rfl⟩
  obtain ⟨w7x,hw7x⟩:∃w7x,w7x=w7.alloc (.cells #[.int .u8 5,.int .i64 0,.string ⟨#[]⟩,.slice bn 2 bc,.slice bi 2 bd] 25):=⟨_,rfl⟩
  have hbx:Below w7.heap.size w7 w7x:=by rw [hw7x];exact (Below.refl _ _).alloc lz _
  have HXB:=Lh (show w7x.heap[bB]?=some (.cells #[.int .u8 5,.int .i64 0,.string ⟨#[]⟩,.slice bn 2 bc,.slice bi 2 bd] 25 (0,0)) by rw [hw7x,hbB];exact heap_alloc_new w7 _)
  replace HB:=Lh (HB.out.trans (hbx.mono HB.out.size))
  replace HXR:=Lh ((hbx.block _ (qz HXR.out)).trans HXR.out)
  replace HXZ:=Lh ((hbx.block _ (qz HXZ.out)).trans HXZ.out)
  replace HXK:=Lh ((hbx.block _ (qz HXK.out)).trans HXK.out)
  replace HXA:=Lh ((hbx.block _ (qz HXA.out)).trans HXA.out)
  replace HI:=Lh (HI.out.below hbx lz lz hbx.size)
  replace Hq:=Lh (Hq.out.below hbx lz lz hbx.size)
  replace Ha:=Lh (Ha.out.below hbx lz lz hbx.size)
  replace Hb:=Lh (Hb.out.below hbx lz lz hbx.size)
  replace HL3:=Lh (Nat.le_trans HL3.out hbx.size)
  have Hw7x:=Lh (And.intro hw7x hbB)
  clear hbx hw7x hbB
  go_upto_region 7 with fail
  rw [← Hw7x.out.1,← Hw7x.out.2]
  clear Hw7x
  obtain ⟨xR0,xR1,xR2,xR3,xR4,xR5,xR6,xR7,xR8⟩:=bx9 HXR.out
  go_wp2_with fail
  refine (kw t3 d3 i3 c3 w7x HI.out.c HM3.out.2.2).mono ?_
  clear xR0 xR1 xR2 xR3 xR4 xR5 xR6 xR7 xR8
  rintro ee w8 ⟨cn,cc,ci,cd,rfl,hr,hb⟩
  have HSc:=HL3
  replace HB:=Lh (HB.out.trans (hb.mono HB.out.size))
  replace HXR:=Lh ((hb.block _ (qz HXR.out)).trans HXR.out)
  replace HXZ:=Lh ((hb.block _ (qz HXZ.out)).trans HXZ.out)
  replace HXK:=Lh ((hb.block _ (qz HXK.out)).trans HXK.out)
  replace HXA:=Lh ((hb.block _ (qz HXA.out)).trans HXA.out)
  replace HXB:=Lh ((hb.block _ (qz HXB.out)).trans HXB.out)
  replace HI:=Lh (HI.out.below hb lz lz hb.size)
  replace Hq:=Lh (Hq.out.below hb lz lz hb.size)
  replace Ha:=Lh (Ha.out.below hb lz lz hb.size)
  replace Hb:=Lh (Hb.out.below hb lz lz hb.size)
  replace HL3:=Lh (Nat.le_trans HL3.out hb.size)
  have Hc:=Lh (show Rep w8 w3.heap.size w8.heap.size (qZ ⟨t3,d3⟩) (.agg #[.int .u8 5,.int .i64 0,.string ⟨#[]⟩,.slice cn 2 cc,.slice ci 2 cd]) from hr.carry HSc.out lz (fun _ _ _=>rfl))
  clear hr hb HSc
  obtain ⟨bC,hbC⟩:∃bC,bC=w8.heap.size:=⟨_,rfl⟩
  obtain ⟨w8x,hw8x⟩:∃w8x,w8x=w8.alloc (.cells #[.int .u8 5,.int .i64 0,.string ⟨#[]⟩,.slice cn 2 cc,.slice ci 2 cd] 25):=⟨_,rfl⟩
  have hbx:Below w8.heap.size w8 w8x:=by rw [hw8x];exact (Below.refl _ _).alloc lz _
  have HXC:=Lh (show w8x.heap[bC]?=some (.cells #[.int .u8 5,.int .i64 0,.string ⟨#[]⟩,.slice cn 2 cc,.slice ci 2 cd] 25 (0,0)) by rw [hw8x,hbC];exact heap_alloc_new w8 _)
  replace HB:=Lh (HB.out.trans (hbx.mono HB.out.size))
  replace HXR:=Lh ((hbx.block _ (qz HXR.out)).trans HXR.out)
  replace HXZ:=Lh ((hbx.block _ (qz HXZ.out)).trans HXZ.out)
  replace HXK:=Lh ((hbx.block _ (qz HXK.out)).trans HXK.out)
  replace HXA:=Lh ((hbx.block _ (qz HXA.out)).trans HXA.out)
  replace HXB:=Lh ((hbx.block _ (qz HXB.out)).trans HXB.out)
  replace HI:=Lh (HI.out.below hbx lz lz hbx.size)
  replace Hq:=Lh (Hq.out.below hbx lz lz hbx.size)
  replace Ha:=Lh (Ha.out.below hbx lz lz hbx.size)
  replace Hb:=Lh (Hb.out.below hbx lz lz hbx.size)
  replace Hc:=Lh (Hc.out.below hbx lz lz hbx.size)
  replace HL3:=Lh (Nat.le_trans HL3.out hbx.size)
  have Hw8x:=Lh (And.intro hw8x hbC)
  clear hbx hw8x hbC
  go_upto_region 8 with fail
  rw [← Hw8x.out.1,← Hw8x.out.2]
  clear Hw8x
  have HSB:=HL3
  obtain ⟨bN,hbN⟩:∃bN,bN=w8x.heap.size:=⟨_,rfl⟩
  obtain ⟨w9,hw9⟩:∃w9,w9=w8x.alloc (.cells #[.string ⟨#[114,111,111,116]⟩,.string ⟨#[115,110,97,112,115,104,111,116]⟩,.string ⟨#[116,97,114,103,101,116,115]⟩] 9):=⟨_,rfl⟩
  have hbx:Below w8x.heap.size w8x w9:=by rw [hw9];exact (Below.refl _ _).alloc lz _
  have HXN:=Lh (show w9.heap[bN]?=some (.cells #[.string ⟨#[114,111,111,116]⟩,.string ⟨#[115,110,97,112,115,104,111,116]⟩,.string ⟨#[116,97,114,103,101,116,115]⟩] 9 (0,0)) by rw [hw9,hbN];exact heap_alloc_new w8x _)
  replace HB:=Lh (HB.out.trans (hbx.mono HB.out.size))
  replace HXR:=Lh ((hbx.block _ (qz HXR.out)).trans HXR.out)
  replace HXZ:=Lh ((hbx.block _ (qz HXZ.out)).trans HXZ.out)
  replace HXK:=Lh ((hbx.block _ (qz HXK.out)).trans HXK.out)
  replace HXA:=Lh ((hbx.block _ (qz HXA.out)).trans HXA.out)
  replace HXB:=Lh ((hbx.block _ (qz HXB.out)).trans HXB.out)
  replace HXC:=Lh ((hbx.block _ (qz HXC.out)).trans HXC.out)
  replace HI:=Lh (HI.out.below hbx lz lz hbx.size)
  replace Hq:=Lh (Hq.out.below hbx lz lz hbx.size)
  replace Ha:=Lh (Ha.out.below hbx lz lz hbx.size)
  replace Hb:=Lh (Hb.out.below hbx lz lz hbx.size)
  replace Hc:=Lh (Hc.out.below hbx lz lz hbx.size)
  replace HL3:=Lh (Nat.le_trans HL3.out hbx.size)
  have Hw9:=Lh (And.intro hw9 hbN)
  clear hbx hw9 hbN
  have xA0:(w8x.alloc (.cells #[.string ⟨#[114,111,111,116]⟩,.string ⟨#[115,110,97,112,115,104,111,116]⟩,.string ⟨#[116,97,114,103,101,116,115]⟩] 9)).cell? ⟨bA,0,none⟩=some (.int .u8 5):=by rw [← Hw9.out.1];exact qq HXA.out (j:=0) rfl
  have xA1:(w8x.alloc (.cells #[.string ⟨#[114,111,111,116]⟩,.string ⟨#[115,110,97,112,115,104,111,116]⟩,.string ⟨#[116,97,114,103,101,116,115]⟩] 9)).cell? ⟨bA,1,none⟩=some (.int .i64 0):=by rw [← Hw9.out.1];exact qq HXA.out (j:=1) rfl
  have xA2:(w8x.alloc (.cells #[.string ⟨#[114,111,111,116]⟩,.string ⟨#[115,110,97,112,115,104,111,116]⟩,.string ⟨#[116,97,114,103,101,116,115]⟩] 9)).cell? ⟨bA,2,none⟩=some (.string ⟨#[]⟩):=by rw [← Hw9.out.1];exact qq HXA.out (j:=2) rfl
  have xA3:(w8x.alloc (.cells #[.string ⟨#[114,111,111,116]⟩,.string ⟨#[115,110,97,112,115,104,111,116]⟩,.string ⟨#[116,97,114,103,101,116,115]⟩] 9)).cell? ⟨bA,3,none⟩=some (.slice an 2 ac):=by rw [← Hw9.out.1];exact qq HXA.out (j:=3) rfl
  have xA4:(w8x.alloc (.cells #[.string ⟨#[114,111,111,116]⟩,.string ⟨#[115,110,97,112,115,104,111,116]⟩,.string ⟨#[116,97,114,103,101,116,115]⟩] 9)).cell? ⟨bA,4,none⟩=some (.slice ai 2 ad):=by rw [← Hw9.out.1];exact qq HXA.out (j:=4) rfl
  have xB0:(w8x.alloc (.cells #[.string ⟨#[114,111,111,116]⟩,.string ⟨#[115,110,97,112,115,104,111,116]⟩,.string ⟨#[116,97,114,103,101,116,115]⟩] 9)).cell? ⟨bB,0,none⟩=some (.int .u8 5):=by rw [← Hw9.out.1];exact qq HXB.out (j:=0) rfl
  have xB1:(w8x.alloc (.cells #[.string ⟨#[114,111,111,116]⟩,.string ⟨#[115,110,97,112,115,104,111,116]⟩,.string ⟨#[116,97,114,103,101,116,115]⟩] 9)).cell? ⟨bB,1,none⟩=some (.int .i64 0):=by rw [← Hw9.out.1];exact qq HXB.out (j:=1) rfl
  have xB2:(w8x.alloc (.cells #[.string ⟨#[114,111,111,116]⟩,.string ⟨#[115,110,97,112,115,104,111,116]⟩,.string ⟨#[116,97,114,103,101,116,115]⟩] 9)).cell? ⟨bB,2,none⟩=some (.string ⟨#[]⟩):=by rw [← Hw9.out.1];exact qq HXB.out (j:=2) rfl
  have xB3:(w8x.alloc (.cells #[.string ⟨#[114,111,111,116]⟩,.string ⟨#[115,110,97,112,115,104,111,116]⟩,.string ⟨#[116,97,114,103,101,116,115]⟩] 9)).cell? ⟨bB,3,none⟩=some (.slice bn 2 bc):=by rw [← Hw9.out.1];exact qq HXB.out (j:=3) rfl
  have xB4:(w8x.alloc (.cells #[.string ⟨#[114,111,111,116]⟩,.string ⟨#[115,110,97,112,115,104,111,116]⟩,.string ⟨#[116,97,114,103,101,116,115]⟩] 9)).cell? ⟨bB,4,none⟩=some (.slice bi 2 bd):=by rw [← Hw9.out.1];exact qq HXB.out (j:=4) rfl
  have xC0:(w8x.alloc (.cells #[.string ⟨#[114,111,111,116]⟩,.string ⟨#[115,110,97,112,115,104,111,116]⟩,.string ⟨#[116,97,114,103,101,116,115]⟩] 9)).cell? ⟨bC,0,none⟩=some (.int .u8 5):=by rw [← Hw9.out.1];exact qq HXC.out (j:=0) rfl
  have xC1:(w8x.alloc (.cells #[.string ⟨#[114,111,111,116]⟩,.string ⟨#[115,110,97,112,115,104,111,116]⟩,.string ⟨#[116,97,114,103,101,116,115]⟩] 9)).cell? ⟨bC,1,none⟩=some (.int .i64 0):=by rw [← Hw9.out.1];exact qq HXC.out (j:=1) rfl
  have xC2:(w8x.alloc (.cells #[.string ⟨#[114,111,111,116]⟩,.string ⟨#[115,110,97,112,115,104,111,116]⟩,.string ⟨#[116,97,114,103,101,116,115]⟩] 9)).cell? ⟨bC,2,none⟩=some (.string ⟨#[]⟩):=by rw [← Hw9.out.1];exact qq HXC.out (j:=2) rfl
  have xC3:(w8x.alloc (.cells #[.string ⟨#[114,111,111,116]⟩,.string ⟨#[115,110,97,112,115,104,111,116]⟩,.string ⟨#[116,97,114,103,101,116,115]⟩] 9)).cell? ⟨bC,3,none⟩=some (.slice cn 2 cc):=by rw [← Hw9.out.1];exact qq HXC.out (j:=3) rfl
  have xC4:(w8x.alloc (.cells #[.string ⟨#[114,111,111,116]⟩,.string ⟨#[115,110,97,112,115,104,111,116]⟩,.string ⟨#[116,97,114,103,101,116,115]⟩] 9)).cell? ⟨bC,4,none⟩=some (.slice ci 2 cd):=by rw [← Hw9.out.1];exact qq HXC.out (j:=4) rfl
  obtain ⟨bI,hbI⟩:∃bI,bI=w9.heap.size:=⟨_,rfl⟩
  obtain ⟨wa,hwa⟩:∃wa,wa=w9.alloc (.cells #[.int .u8 5,.int .i64 0,.string ⟨#[]⟩,.slice an 2 ac,.slice ai 2 ad,.int .u8 5,.int .i64 0,.string ⟨#[]⟩,.slice bn 2 bc,.slice bi 2 bd,.int .u8 5,.int .i64 0,.string ⟨#[]⟩,.slice cn 2 cc,.slice ci 2 cd] 25):=⟨_,rfl⟩
  have hbx:Below w9.heap.size w9 wa:=by rw [hwa];exact (Below.refl _ _).alloc lz _
  have HXI:=Lh (show wa.heap[bI]?=some (.cells #[.int .u8 5,.int .i64 0,.string ⟨#[]⟩,.slice an 2 ac,.slice ai 2 ad,.int .u8 5,.int .i64 0,.string ⟨#[]⟩,.slice bn 2 bc,.slice bi 2 bd,.int .u8 5,.int .i64 0,.string ⟨#[]⟩,.slice cn 2 cc,.slice ci 2 cd] 25 (0,0)) by rw [hwa,hbI];exact heap_alloc_new w9 _)
  replace HB:=Lh (HB.out.trans (hbx.mono HB.out.size))
  replace HXR:=Lh ((hbx.block _ (qz HXR.out)).trans HXR.out)
  replace HXZ:=Lh ((hbx.block _ (qz HXZ.out)).trans HXZ.out)
  replace HXK:=Lh ((hbx.block _ (qz HXK.out)).trans HXK.out)
  replace HXA:=Lh ((hbx.block _ (qz HXA.out)).trans HXA.out)
  replace HXB:=Lh ((hbx.block _ (qz HXB.out)).trans HXB.out)
  replace HXC:=Lh ((hbx.block _ (qz HXC.out)).trans HXC.out)
  replace HXN:=Lh ((hbx.block _ (qz HXN.out)).trans HXN.out)
  replace HI:=Lh (HI.out.below hbx lz lz hbx.size)
  replace Hq:=Lh (Hq.out.below hbx lz lz hbx.size)
  replace Ha:=Lh (Ha.out.below hbx lz lz hbx.size)
  replace Hb:=Lh (Hb.out.below hbx lz lz hbx.size)
  replace Hc:=Lh (Hc.out.below hbx lz lz hbx.size)
  replace HL3:=Lh (Nat.le_trans HL3.out hbx.size)
  have Hwa:=Lh (And.intro hwa hbI)
  clear hbx hwa hbI
  have HBN:=Lh Hw9.out.2
  have HBI:=Lh (show w8x.heap.size≤bI from by rw [Hwa.out.2,Hw9.out.1];simp)
  obtain ⟨bL,hbL⟩:∃bL,bL=wa.heap.size:=⟨_,rfl⟩
  obtain ⟨wb,hwb⟩:∃wb,wb=wa.alloc (.cells #[.int .u8 5,.int .i64 0,.string ⟨#[]⟩,.slice (some ⟨bN,0,none⟩) 3 3,.slice (some ⟨bI,0,none⟩) 3 3] 25):=⟨_,rfl⟩
  have hbx:Below wa.heap.size wa wb:=by rw [hwb];exact (Below.refl _ _).alloc lz _
  have HXL:=Lh (show wb.heap[bL]?=some (.cells #[.int .u8 5,.int .i64 0,.string ⟨#[]⟩,.slice (some ⟨bN,0,none⟩) 3 3,.slice (some ⟨bI,0,none⟩) 3 3] 25 (0,0)) by rw [hwb,hbL];exact heap_alloc_new wa _)
  replace HB:=Lh (HB.out.trans (hbx.mono HB.out.size))
  replace HXR:=Lh ((hbx.block _ (qz HXR.out)).trans HXR.out)
  replace HXZ:=Lh ((hbx.block _ (qz HXZ.out)).trans HXZ.out)
  replace HXK:=Lh ((hbx.block _ (qz HXK.out)).trans HXK.out)
  replace HXA:=Lh ((hbx.block _ (qz HXA.out)).trans HXA.out)
  replace HXB:=Lh ((hbx.block _ (qz HXB.out)).trans HXB.out)
  replace HXC:=Lh ((hbx.block _ (qz HXC.out)).trans HXC.out)
  replace HXN:=Lh ((hbx.block _ (qz HXN.out)).trans HXN.out)
  replace HXI:=Lh ((hbx.block _ (qz HXI.out)).trans HXI.out)
  replace HI:=Lh (HI.out.below hbx lz lz hbx.size)
  replace Hq:=Lh (Hq.out.below hbx lz lz hbx.size)
  replace Ha:=Lh (Ha.out.below hbx lz lz hbx.size)
  replace Hb:=Lh (Hb.out.below hbx lz lz hbx.size)
  replace Hc:=Lh (Hc.out.below hbx lz lz hbx.size)
  replace HL3:=Lh (Nat.le_trans HL3.out hbx.size)
  have Hwb:=Lh (And.intro hwb hbL)
  clear hbx hwb hbL
  go_upto_region 9 with fail
  clear xA0 xA1 xA2 xA3 xA4
  clear xB0 xB1 xB2 xB3 xB4
  clear xC0 xC1 xC2 xC3 xC4
  rw [← Hw9.out.1,← Hw9.out.2,show bN+1=bI by rw [Hwa.out.2,Hw9.out.1,Hw9.out.2];simp,← Hwa.out.1,show bI+1=bL by rw [Hwb.out.2,Hwa.out.1,Hwa.out.2];simp,← Hwb.out.1]
  clear Hw9 Hwa Hwb
  have HLR:=Lh (show Rep wb w3.heap.size wb.heap.size (qI ⟨⟨t1,d1⟩,⟨t2,d2⟩,⟨t3,d3⟩⟩) (.agg #[.int .u8 5,.int .i64 0,.string ⟨#[]⟩,.slice (some ⟨bN,0,none⟩) 3 3,.slice (some ⟨bI,0,none⟩) 3 3]) from by
   have:=bU (w:=wb) (lo:=w3.heap.size) (hi:=wb.heap.size) (bn:=bN) (bi:=bI) (T1:=9) (T2:=25) [qV,zB,xH] [(qZ ⟨t1,d1⟩,(.int .u8 5,.int .i64 0,.string ⟨#[]⟩,.slice an 2 ac,.slice ai 2 ad)),(qZ ⟨t2,d2⟩,(.int .u8 5,.int .i64 0,.string ⟨#[]⟩,.slice bn 2 bc,.slice bi 2 bd)),(qZ ⟨t3,d3⟩,(.int .u8 5,.int .i64 0,.string ⟨#[]⟩,.slice cn 2 cc,.slice ci 2 cd))] (by have:=HSB.out;have:=HBN.out;omega) (qz HXN.out) (by have:=HSB.out;have:=HBI.out;omega) (qz HXI.out) HXN.out HXI.out (by
    intro p hp
    simp only [List.mem_cons,List.not_mem_nil,or_false] at hp
    rcases hp with rfl|rfl|rfl
    · exact Ha.out
    · exact Hb.out
    · exact Hc.out)
   exact this)
  have HC:=Lh (show ∀w':World,Below wb.heap.size wb w'→(w'.heap[bK]?=some (.cells #[.int .u8 5,.int .i64 0,.string ⟨#[]⟩,.slice qn l.length qc,.slice qi l.length qd] 25 (0,0))∧w'.heap[bL]?=some (.cells #[.int .u8 5,.int .i64 0,.string ⟨#[]⟩,.slice (some ⟨bN,0,none⟩) 3 3,.slice (some ⟨bI,0,none⟩) 3 3] 25 (0,0)))∧w'.heap[bR]?=some (.cells #[.int .i64 v,.int .i64 e,.slice ka l.length kc,.int .i64 t1,.slice i1 d1.length c1,.int .i64 t2,.slice i2 d2.length c2,.int .i64 t3,.slice i3 d3.length c3] 32 (0,0)) from fun w' h=>⟨⟨(h.block _ (qz HXK.out)).trans HXK.out,(h.block _ (qz HXL.out)).trans HXL.out⟩,(h.block _ (qz HXR.out)).trans HXR.out⟩)
  have HKL:=Lh (show ∀w':World,Below wb.heap.size wb w'→Rep w' w3.heap.size w'.heap.size (zD l) (.agg #[.int .u8 5,.int .i64 0,.string ⟨#[]⟩,.slice qn l.length qc,.slice qi l.length qd])∧Rep w' w3.heap.size w'.heap.size (qI ⟨⟨t1,d1⟩,⟨t2,d2⟩,⟨t3,d3⟩⟩) (.agg #[.int .u8 5,.int .i64 0,.string ⟨#[]⟩,.slice (some ⟨bN,0,none⟩) 3 3,.slice (some ⟨bI,0,none⟩) 3 3])∧w'.heap[bZ]?=some (.cells #[.int .u8 0,.int .i64 0,.string ⟨#[]⟩,.slice none 0 0,.slice none 0 0] 25 (0,0))∧Below w.heap.size w w' from fun w' h=>⟨Hq.out.below h lz lz h.size,HLR.out.below h lz lz h.size,(h.block _ (qz HXZ.out)).trans HXZ.out,HB.out.trans (h.mono HB.out.size)⟩)
  obtain ⟨V,hV⟩:∃V:List MP,V=[.row wb.heap.size 5 9 #[.string ⟨#[95,116,121,112,101]⟩,.string ⟨#[101,120,112,105,114,101,115]⟩,.string ⟨#[107,101,121,115]⟩,.string ⟨#[114,111,108,101,115]⟩,.string ⟨#[118,101,114,115,105,111,110]⟩],.con (.agg #[.int .u8 3,.int .i64 0,.string ⟨#[114,111,111,116]⟩,.slice none 0 0,.slice none 0 0]),.con (.string ds),.con (.agg #[.int .u8 3,.int .i64 0,.string ds,.slice none 0 0,.slice none 0 0]),.con (.agg #[.int .u8 5,.int .i64 0,.string ⟨#[]⟩,.slice qn l.length qc,.slice qi l.length qd]),.con (.agg #[.int .u8 5,.int .i64 0,.string ⟨#[]⟩,.slice (some ⟨bN,0,none⟩) 3 3,.slice (some ⟨bI,0,none⟩) 3 3]),.con (.pointer (some ⟨bR,0,none⟩)),.con (.int .i64 v),.con (.agg #[.int .u8 2,.int .i64 v,.string ⟨#[]⟩,.slice none 0 0,.slice none 0 0]),.row wb.heap.size 5 25 #[.int .u8 3,.int .i64 0,.string ⟨#[114,111,111,116]⟩,.slice none 0 0,.slice none 0 0,.int .u8 3,.int .i64 0,.string ds,.slice none 0 0,.slice none 0 0,.int .u8 5,.int .i64 0,.string ⟨#[]⟩,.slice qn l.length qc,.slice qi l.length qd,.int .u8 5,.int .i64 0,.string ⟨#[]⟩,.slice (some ⟨bN,0,none⟩) 3 3,.slice (some ⟨bI,0,none⟩) 3 3,.int .u8 2,.int .i64 v,.string ⟨#[]⟩,.slice none 0 0,.slice none 0 0]]:=⟨_,rfl⟩
  have HV:=Lh hV
  clear hV
  refine xB 10 (fun d a' w'=>∃x55 x56 x57 x58 x59 x60 x61 x62 x63 x64,a'=⟨#[Value.agg #[Value.int IntKind.i64 v,Value.int IntKind.i64 e,Value.slice ka l.length kc,Value.int IntKind.i64 t1,Value.slice i1 d1.length c1,Value.int IntKind.i64 t2,Value.slice i2 d2.length c2,Value.int IntKind.i64 t3,Value.slice i3 d3.length c3],Value.pointer (some { block:=bR,off:=0 }),Value.pointer (some { block:=bZ,off:=0 }),Value.int IntKind.i64 0,Value.string ds,Value.int IntKind.i64 0,Value.pointer (some { block:=bK,off:=0 }),Value.int IntKind.i64 0,Value.pointer (some { block:=bA,off:=0 }),Value.int IntKind.i64 0,Value.pointer (some { block:=bB,off:=0 }),Value.int IntKind.i64 0,Value.pointer (some { block:=bC,off:=0 }),Value.int IntKind.i64 0,Value.pointer (some { block:=bL,off:=0 }),Value.agg #[Value.int IntKind.i64 v,Value.int IntKind.i64 e,Value.slice ka l.length kc,Value.int IntKind.i64 t1,Value.slice i1 d1.length c1,Value.int IntKind.i64 t2,Value.slice i2 d2.length c2,Value.int IntKind.i64 t3,Value.slice i3 d3.length c3],Value.bool true,Value.bool false,undef,Value.tuple #[Value.string ds,Value.int IntKind.i64 0],Value.pointer (some { block:=bR,off:=1 }),Value.int IntKind.i64 e,Value.tuple #[Value.string ds,Value.int IntKind.i64 0],Value.string ds,Value.int IntKind.i64 0,Value.tuple #[Value.agg #[Value.int IntKind.u8 5,Value.int IntKind.i64 0,Value.string ⟨#[]⟩,Value.slice qn l.length qc,Value.slice qi l.length qd],Value.int IntKind.i64 0],Value.pointer (some { block:=bR,off:=2 }),Value.slice ka l.length kc,Value.tuple #[Value.agg #[Value.int IntKind.u8 5,Value.int IntKind.i64 0,Value.string ⟨#[]⟩,Value.slice qn l.length qc,Value.slice qi l.length qd],Value.int IntKind.i64 0],Value.agg #[Value.int IntKind.u8 5,Value.int IntKind.i64 0,Value.string ⟨#[]⟩,Value.slice qn l.length qc,Value.slice qi l.length qd],Value.int IntKind.i64 0,Value.tuple #[Value.agg #[Value.int IntKind.u8 5,Value.int IntKind.i64 0,Value.string ⟨#[]⟩,Value.slice an 2 ac,Value.slice ai 2 ad],Value.int IntKind.i64 0],Value.pointer (some { block:=bR,off:=3 }),Value.agg #[Value.int IntKind.i64 t1,Value.slice i1 d1.length c1],Value.tuple #[Value.agg #[Value.int IntKind.u8 5,Value.int IntKind.i64 0,Value.string ⟨#[]⟩,Value.slice an 2 ac,Value.slice ai 2 ad],Value.int IntKind.i64 0],Value.agg #[Value.int IntKind.u8 5,Value.int IntKind.i64 0,Value.string ⟨#[]⟩,Value.slice an 2 ac,Value.slice ai 2 ad],Value.int IntKind.i64 0,Value.tuple #[Value.agg #[Value.int IntKind.u8 5,Value.int IntKind.i64 0,Value.string ⟨#[]⟩,Value.slice bn 2 bc,Value.slice bi 2 bd],Value.int IntKind.i64 0],Value.pointer (some { block:=bR,off:=5 }),Value.agg #[Value.int IntKind.i64 t2,Value.slice i2 d2.length c2],Value.tuple #[Value.agg #[Value.int IntKind.u8 5,Value.int IntKind.i64 0,Value.string ⟨#[]⟩,Value.slice bn 2 bc,Value.slice bi 2 bd],Value.int IntKind.i64 0],Value.agg #[Value.int IntKind.u8 5,Value.int IntKind.i64 0,Value.string ⟨#[]⟩,Value.slice bn 2 bc,Value.slice bi 2 bd],Value.int IntKind.i64 0,Value.tuple #[Value.agg #[Value.int IntKind.u8 5,Value.int IntKind.i64 0,Value.string ⟨#[]⟩,Value.slice cn 2 cc,Value.slice ci 2 cd],Value.int IntKind.i64 0],Value.pointer (some { block:=bR,off:=7 }),Value.agg #[Value.int IntKind.i64 t3,Value.slice i3 d3.length c3],Value.tuple #[Value.agg #[Value.int IntKind.u8 5,Value.int IntKind.i64 0,Value.string ⟨#[]⟩,Value.slice cn 2 cc,Value.slice ci 2 cd],Value.int IntKind.i64 0],Value.agg #[Value.int IntKind.u8 5,Value.int IntKind.i64 0,Value.string ⟨#[]⟩,Value.slice cn 2 cc,Value.slice ci 2 cd],Value.int IntKind.i64 0,Value.slice (some { block:=bN,off:=0 }) 3 3,Value.agg #[Value.int IntKind.u8 5,Value.int IntKind.i64 0,Value.string ⟨#[]⟩,Value.slice an 2 ac,Value.slice ai 2 ad],Value.agg #[Value.int IntKind.u8 5,Value.int IntKind.i64 0,Value.string ⟨#[]⟩,Value.slice bn 2 bc,Value.slice bi 2 bd],Value.agg #[Value.int IntKind.u8 5,Value.int IntKind.i64 0,Value.string ⟨#[]⟩,Value.slice cn 2 cc,Value.slice ci 2 cd],Value.slice (some { block:=bI,off:=0 }) 3 3,Value.agg #[Value.int IntKind.u8 5,Value.int IntKind.i64 0,Value.string ⟨#[]⟩,Value.slice (some { block:=bN,off:=0 }) 3 3,Value.slice (some { block:=bI,off:=0 }) 3 3],x55,x56,x57,x58,x59,x60,x61,x62,x63,x64,undef],[]⟩∧jy wb V d w' [x55,x56,x57,x58,x59,x60,x61,x62,x63,x64]) (by kernel_rfl) (by kernel_rfl) ?first ?step ?last
  case first=>exact ⟨_,_,_,_,_,_,_,_,_,_,rfl,jy.first _ _ _ (by rw [HV.out];rfl)⟩
  case step =>
   rintro d a' w' ⟨x55,x56,x57,x58,x59,x60,x61,x62,x63,x64,rfl,h⟩ q hq hn hw
   rcases q with _|_|_|_|_|_|_|_|_|_|q
   · refine wpOp_step rfl fun K hK=>?_
     go_simp
     exact hK _ _ ⟨_,x56,x57,x58,x59,x60,x61,x62,x63,x64,rfl,h.new _ 0 _ (.row wb.heap.size 5 9 #[.string ⟨#[95,116,121,112,101]⟩,.string ⟨#[101,120,112,105,114,101,115]⟩,.string ⟨#[107,101,121,115]⟩,.string ⟨#[114,111,108,101,115]⟩,.string ⟨#[118,101,114,115,105,111,110]⟩]) (by rw [HV.out];rfl) (yg.made _ h.1.size)⟩
   · skip
     refine wpOp_step rfl fun K hK=>?_
     go_simp
     refine (pO ⟨#[114,111,111,116]⟩ w').mono ?_
     rintro e w2 ⟨rfl,hb2⟩
     exact hK _ _ ⟨x55,_,x57,x58,x59,x60,x61,x62,x63,x64,rfl,h.didC hb2 1 _ HV rfl⟩
   · refine wpOp_step rfl fun K hK=>?_
     go_simp
     exact hK _ _ ⟨x55,x56,_,x58,x59,x60,x61,x62,x63,x64,rfl,h.sameC 2 _ HV rfl⟩
   · obtain rfl:=h.con 2 (hw _ rfl ⟨2,.data⟩ (by simp) rfl) HV rfl rfl
     skip
     refine wpOp_step rfl fun K hK=>?_
     go_simp
     refine (pO ds w').mono ?_
     rintro e w2 ⟨rfl,hb2⟩
     exact hK _ _ ⟨x55,x56,_,_,x59,x60,x61,x62,x63,x64,rfl,h.didC hb2 3 _ HV rfl⟩
   · have z:=(HC.out w' h.1).1.1;obtain ⟨a0,a1,a2,a3,a4⟩:=bx5 z
     refine wpOp_step rfl fun K hK=>?_
     go_simp
     exact hK _ _ ⟨x55,x56,x57,x58,_,x60,x61,x62,x63,x64,rfl,h.sameC 4 _ HV rfl⟩
   · have z:=(HC.out w' h.1).1.2;obtain ⟨a0,a1,a2,a3,a4⟩:=bx5 z
     refine wpOp_step rfl fun K hK=>?_
     go_simp
     exact hK _ _ ⟨x55,x56,x57,x58,x59,_,x61,x62,x63,x64,rfl,h.sameC 5 _ HV rfl⟩
   · refine wpOp_step rfl fun K hK=>?_
     go_simp
     exact hK _ _ ⟨x55,x56,x57,x58,x59,x60,_,x62,x63,x64,rfl,h.sameC 6 _ HV rfl⟩
   · obtain rfl:=h.con 6 (hw _ rfl ⟨6,.data⟩ (by simp) rfl) HV rfl rfl
     have a0:=qq (HC.out w' h.1).2 (j:=0) rfl
     refine wpOp_step rfl fun K hK=>?_
     go_simp
     exact hK _ _ ⟨x55,x56,x57,x58,x59,x60,_,_,x63,x64,rfl,h.sameC 7 _ HV rfl⟩
   · obtain rfl:=h.con 7 (hw _ rfl ⟨7,.data⟩ (by simp) rfl) HV rfl rfl
     skip
     refine wpOp_step rfl fun K hK=>?_
     go_simp
     refine (nN v w').mono ?_
     rintro e w2 ⟨rfl,hb2⟩
     exact hK _ _ ⟨x55,x56,x57,x58,x59,x60,x61,_,_,x64,rfl,h.didC hb2 8 _ HV rfl⟩
   · obtain rfl:=h.con 1 (hw _ rfl ⟨1,.data⟩ (by simp) rfl) HV rfl rfl
     obtain rfl:=h.con 3 (hw _ rfl ⟨3,.data⟩ (by simp) rfl) HV rfl rfl
     obtain rfl:=h.con 4 (hw _ rfl ⟨4,.data⟩ (by simp) rfl) HV rfl rfl
     obtain rfl:=h.con 5 (hw _ rfl ⟨5,.data⟩ (by simp) rfl) HV rfl rfl
     obtain rfl:=h.con 8 (hw _ rfl ⟨8,.data⟩ (by simp) rfl) HV rfl rfl
     refine wpOp_step rfl fun K hK=>?_
     go_simp
     exact hK _ _ ⟨x55,_,x57,_,_,_,x61,x62,_,_,rfl,h.new _ 9 _ (.row wb.heap.size 5 25 #[.int .u8 3,.int .i64 0,.string ⟨#[114,111,111,116]⟩,.slice none 0 0,.slice none 0 0,.int .u8 3,.int .i64 0,.string ds,.slice none 0 0,.slice none 0 0,.int .u8 5,.int .i64 0,.string ⟨#[]⟩,.slice qn l.length qc,.slice qi l.length qd,.int .u8 5,.int .i64 0,.string ⟨#[]⟩,.slice (some ⟨bN,0,none⟩) 3 3,.slice (some ⟨bI,0,none⟩) 3 3,.int .u8 2,.int .i64 v,.string ⟨#[]⟩,.slice none 0 0,.slice none 0 0]) (by rw [HV.out];rfl) (yg.made _ h.1.size)⟩
   · omega
  case last =>
   rintro d a' w' hall ⟨x55,x56,x57,x58,x59,x60,x61,x62,x63,x64,rfl,h⟩
   have hle:=h.1
   obtain ⟨b55,k55,rfl,m55⟩:=h.get 0 (hall _ (by omega)) (.row wb.heap.size 5 9 #[.string ⟨#[95,116,121,112,101]⟩,.string ⟨#[101,120,112,105,114,101,115]⟩,.string ⟨#[107,101,121,115]⟩,.string ⟨#[114,111,108,101,115]⟩,.string ⟨#[118,101,114,115,105,111,110]⟩]) (by rw [HV.out];rfl) _ rfl
   obtain ⟨b64,k64,rfl,m64⟩:=h.get 9 (hall _ (by omega)) (.row wb.heap.size 5 25 #[.int .u8 3,.int .i64 0,.string ⟨#[114,111,111,116]⟩,.slice none 0 0,.slice none 0 0,.int .u8 3,.int .i64 0,.string ds,.slice none 0 0,.slice none 0 0,.int .u8 5,.int .i64 0,.string ⟨#[]⟩,.slice qn l.length qc,.slice qi l.length qd,.int .u8 5,.int .i64 0,.string ⟨#[]⟩,.slice (some ⟨bN,0,none⟩) 3 3,.slice (some ⟨bI,0,none⟩) 3 3,.int .u8 2,.int .i64 v,.string ⟨#[]⟩,.slice none 0 0,.slice none 0 0]) (by rw [HV.out];rfl) _ rfl
   have HLE:=Lh hle
   clear h hall hle HV
   obtain ⟨hk,hl,hz,hbw⟩:=HKL.out w' HLE.out
   have HXZ:=Lh hz
   have HB2:=Lh hbw
   have M55:=Lh m55
   have M64:=Lh m64
   have HKR:=Lh hk
   have HLR2:=Lh hl
   have HZW:=HL3
   have K55:=Lh k55
   have K64:=Lh k64
   clear hk hl hz hbw m55 m64 k55 k64
   have s0:w'.frozen? ⟨bZ,0,none⟩=false:=by simp [World.frozen?,HXZ.out]
   have s1:w'.frozen? ⟨bZ,1,none⟩=false:=by simp [World.frozen?,HXZ.out]
   have s2:w'.frozen? ⟨bZ,2,none⟩=false:=by simp [World.frozen?,HXZ.out]
   have s3:w'.frozen? ⟨bZ,3,none⟩=false:=by simp [World.frozen?,HXZ.out]
   have s4:w'.frozen? ⟨bZ,4,none⟩=false:=by simp [World.frozen?,HXZ.out]
   have z0:=qq HXZ.out (j:=0) rfl
   have z1:=qq HXZ.out (j:=1) rfl
   have z2:=qq HXZ.out (j:=2) rfl
   have z3:=qq HXZ.out (j:=3) rfl
   have z4:=qq HXZ.out (j:=4) rfl
   go_wp2
   refine bodyPost_ret (qj Tryz.results34 _ _ bZ 25 _ (0,0) _ rfl (qm (set5 _ _ _ _ _ (lE HXZ.out))) Tryz.underlying25 rfl (by kernel_rfl) _ rfl) rfl ?_
   rw [HV.out]
   have hrep:Rep w' w3.heap.size w'.heap.size (zH ⟨v,e,l,⟨⟨t1,d1⟩,⟨t2,d2⟩,⟨t3,d3⟩⟩⟩) (.agg #[.int .u8 5,.int .i64 0,.string ⟨#[]⟩,.slice (some ⟨b55,0,none⟩) 5 5,.slice (some ⟨b64,0,none⟩) 5 5]):=by
    have:=bU (w:=w') (lo:=w3.heap.size) (hi:=w'.heap.size) (bn:=b55) (bi:=b64) (T1:=9) (T2:=25) [xq,xI,zF,jK,xT] [(txtJ qV,(.int .u8 3,.int .i64 0,.string ⟨#[114,111,111,116]⟩,.slice none 0 0,.slice none 0 0)),(txtJ ds,(.int .u8 3,.int .i64 0,.string ds,.slice none 0 0,.slice none 0 0)),(zD l,(.int .u8 5,.int .i64 0,.string ⟨#[]⟩,.slice qn l.length qc,.slice qi l.length qd)),(qI ⟨⟨t1,d1⟩,⟨t2,d2⟩,⟨t3,d3⟩⟩,(.int .u8 5,.int .i64 0,.string ⟨#[]⟩,.slice (some ⟨bN,0,none⟩) 3 3,.slice (some ⟨bI,0,none⟩) 3 3)),(xF v,(.int .u8 2,.int .i64 v,.string ⟨#[]⟩,.slice none 0 0,.slice none 0 0))] (Nat.le_trans HZW.out K55.out) (qz M55.out) (Nat.le_trans HZW.out K64.out) (qz M64.out) M55.out M64.out (by
     intro p hp
     simp only [List.mem_cons,List.not_mem_nil,or_false] at hp
     rcases hp with rfl|rfl|rfl|rfl|rfl
     · exact jh _ _ _ _
     · exact jh _ _ _ _
     · exact HKR.out
     · exact HLR2.out
     · exact g8 _ _ _ _)
    rw [HDS.out] at this
    exact this
   exact ⟨_,_,_,_,rfl,Rep.carry HW3.out (show w'.heap.size≤_ by simp [World.setCell]) (fun j hj hlt=>jC _ _ _ _ _ (by have:=HZ3.out;omega)) _ _ hrep,qT _ _ _ _ _ HB2.out (by have:=HBZ.out;omega)⟩
end Go.Proofs.YtnlgmcapbbgelaaGreatDoor
