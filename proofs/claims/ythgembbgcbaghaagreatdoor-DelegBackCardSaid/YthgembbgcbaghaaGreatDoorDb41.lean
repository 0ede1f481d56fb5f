/- The contracts of deleg.sameRole, slices.EqualFunc of delegations and deleg.Same. Printed by gendelegsame.py. -/
import Derived.Test.YthgembbgcbaghaaGreatDoorDb40

namespace Go.Proofs.YthgembbgcbaghaaGreatDoor
open Go.RowKit Go.Shelf Go.Sort
set_option maxHeartbeats 8000000 in
set_option maxRecDepth 100000 in
theorem uV (w:World) (hT:Tabs w):Calls Tryz.prog 14 #[] w fun e w'=>e=.returned (.bool true)∧Below w.heap.size w w':=by
 have HT:=Lh (show ∀w':World,Below w.heap.size w w'→Tabs w' from fun w' h=>hT.below h)
 clear hT
 have HR1:=Lh (gw raN tK false w)
 go_enter Tryz.func14,Tryz.ntmps14
 go_wp2_with fail
 refine HR1.out.mono ?_
 clear HR1
 rintro e w1 ⟨a1,p1,rfl,hs1,hp1,hb1⟩
 have HN1:=Lh (show RoleIn w1 a1 p1 tK from ⟨hs1.carry (Nat.zero_le _) lz (fun _ _ _=>rfl),hp1.carry (Nat.zero_le _) lz (fun _ _ _=>rfl)⟩)
 have HB1:=Lh hb1
 clear hs1 hp1 hb1
 have HR2:=Lh (gw bbN sG true w1)
 go_wp2_with fail
 refine HR2.out.mono ?_
 clear HR2
 rintro e w2 ⟨a2,p2,rfl,hs1,hp1,hb1⟩
 have HN2:=Lh (show RoleIn w2 a2 p2 sG from ⟨hs1.carry (Nat.zero_le _) lz (fun _ _ _=>rfl),hp1.carry (Nat.zero_le _) lz (fun _ _ _=>rfl)⟩)
 replace HN1:=Lh (HN1.out.below hb1)
 have HB2:=Lh (HB1.out.trans (hb1.mono HB1.out.size))
 clear hs1 hp1 hb1
 have HR3:=Lh (gw pcN vp false w2)
 go_wp2_with fail
 refine HR3.out.mono ?_
 clear HR3
 rintro e w3 ⟨a3,p3,rfl,hs1,hp1,hb1⟩
 have HN3:=Lh (show RoleIn w3 a3 p3 vp from ⟨hs1.carry (Nat.zero_le _) lz (fun _ _ _=>rfl),hp1.carry (Nat.zero_le _) lz (fun _ _ _=>rfl)⟩)
 replace HN1:=Lh (HN1.out.below hb1)
 replace HN2:=Lh (HN2.out.below hb1)
 have HB3:=Lh (HB2.out.trans (hb1.mono HB2.out.size))
 clear hs1 hp1 hb1
 have hz3:((w3.alloc (.cells #[.string raN,.int .i64 1,.slice (some ⟨a1,0,none⟩) 1 1,.bool false,.slice (some ⟨p1,0,none⟩) 1 1,.slice none 0 0] 41)).alloc (.cells #[.string bbN,.int .i64 1,.slice (some ⟨a2,0,none⟩) 1 1,.bool true,.slice (some ⟨p2,0,none⟩) 1 1,.slice none 0 0] 41)).heap.size=w3.heap.size+1+1:=by simp
 obtain ⟨W4,hW4⟩:∃W4,W4=((w3.alloc (.cells #[.string raN,.int .i64 1,.slice (some ⟨a1,0,none⟩) 1 1,.bool false,.slice (some ⟨p1,0,none⟩) 1 1,.slice none 0 0] 41)).alloc (.cells #[.string bbN,.int .i64 1,.slice (some ⟨a2,0,none⟩) 1 1,.bool true,.slice (some ⟨p2,0,none⟩) 1 1,.slice none 0 0] 41)).alloc (.cells #[.string pcN,.int .i64 1,.slice (some ⟨a3,0,none⟩) 1 1,.bool false,.slice (some ⟨p3,0,none⟩) 1 1,.slice none 0 0] 41):=⟨_,rfl⟩
 have h1:W4.heap[w3.heap.size]?=some (.cells #[.string raN,.int .i64 1,.slice (some ⟨a1,0,none⟩) 1 1,.bool false,.slice (some ⟨p1,0,none⟩) 1 1,.slice none 0 0] 41 (0,0)):=by rw [hW4,Below.heap_alloc _ _ _ (by rw [hz3];omega)];exact zf w3 _ _
 have h2:W4.heap[w3.heap.size+1]?=some (.cells #[.string bbN,.int .i64 1,.slice (some ⟨a2,0,none⟩) 1 1,.bool true,.slice (some ⟨p2,0,none⟩) 1 1,.slice none 0 0] 41 (0,0)):=by rw [hW4,Below.heap_alloc _ _ _ (by rw [hz3];omega)];exact xK w3 _ _
 have h3:W4.rowIs (w3.heap.size+1+1) 41 6 (qX (.string pcN) (.int .i64 1) (.slice (some ⟨a3,0,none⟩) 1 1) (.bool false) (.slice (some ⟨p3,0,none⟩) 1 1) (.slice none 0 0)):=by
  have:=xh ((w3.alloc (.cells #[.string raN,.int .i64 1,.slice (some ⟨a1,0,none⟩) 1 1,.bool false,.slice (some ⟨p1,0,none⟩) 1 1,.slice none 0 0] 41)).alloc (.cells #[.string bbN,.int .i64 1,.slice (some ⟨a2,0,none⟩) 1 1,.bool true,.slice (some ⟨p2,0,none⟩) 1 1,.slice none 0 0] 41)) (.string pcN) (.int .i64 1) (.slice (some ⟨a3,0,none⟩) 1 1) (.bool false) (.slice (some ⟨p3,0,none⟩) 1 1) (.slice none 0 0) 41
  rw [hz3,← hW4] at this
  exact this
 have HZ4:=Lh (show W4.heap.size=w3.heap.size+3 from by rw [hW4];simp)
 have HB4:=Lh (show Below w3.heap.size w3 W4 from by rw [hW4];exact (((Below.refl _ _).alloc lz _).alloc (by simp) _).alloc (by rw [hz3];omega) _)
 have HW4:=Lh hW4
 go_upto_region 2 with fail
 rw [← HW4.out]
 clear HW4 hW4 hz3
 have x0:=qq h1 (j:=0) rfl;have x1:=qq h1 (j:=1) rfl;have x2:=qq h1 (j:=2) rfl;have x3:=qq h1 (j:=3) rfl;have x4:=qq h1 (j:=4) rfl;have x5:=qq h1 (j:=5) rfl
 have y0:=qq h2 (j:=0) rfl;have y1:=qq h2 (j:=1) rfl;have y2:=qq h2 (j:=2) rfl;have y3:=qq h2 (j:=3) rfl;have y4:=qq h2 (j:=4) rfl;have y5:=qq h2 (j:=5) rfl
 obtain ⟨z0,z1,z2,z3,z4⟩:=rc5 h3;have z5:=h3.cell (i:=5) (by decide)
 simp only [qX] at z0 z1 z2 z3 z4 z5
 have H1:=Lh h1
 have H2:=Lh h2
 have H3:=Lh h3
 obtain ⟨W5,hW5⟩:∃W5,W5=(W4.alloc (.cells #[.string raN,.int .i64 1,.slice (some ⟨a1,0,none⟩) 1 1,.bool false,.slice (some ⟨p1,0,none⟩) 1 1,.slice none 0 0,.string bbN,.int .i64 1,.slice (some ⟨a2,0,none⟩) 1 1,.bool true,.slice (some ⟨p2,0,none⟩) 1 1,.slice none 0 0,.string pcN,.int .i64 1,.slice (some ⟨a3,0,none⟩) 1 1,.bool false,.slice (some ⟨p3,0,none⟩) 1 1,.slice none 0 0] 41)).alloc (.cells #[.slice none 0 0,.slice (some ⟨W4.heap.size,0,none⟩) 3 3,.int .i64 0,.slice none 0 0,.int .i64 0,.string ⟨#[]⟩] 35):=⟨_,rfl⟩
 have HB5:=Lh (show Below W4.heap.size W4 W5 from by rw [hW5];exact ((Below.refl _ _).alloc lz _).alloc (by simp) _)
 have HQ5:=Lh (show W5.heap[W4.heap.size]?=some (.cells #[.string raN,.int .i64 1,.slice (some ⟨a1,0,none⟩) 1 1,.bool false,.slice (some ⟨p1,0,none⟩) 1 1,.slice none 0 0,.string bbN,.int .i64 1,.slice (some ⟨a2,0,none⟩) 1 1,.bool true,.slice (some ⟨p2,0,none⟩) 1 1,.slice none 0 0,.string pcN,.int .i64 1,.slice (some ⟨a3,0,none⟩) 1 1,.bool false,.slice (some ⟨p3,0,none⟩) 1 1,.slice none 0 0] 41 (0,0)) from by rw [hW5];exact zf W4 _ _)
 have HD5:=Lh (show W5.heap[W4.heap.size+1]?=some (.cells #[.slice none 0 0,.slice (some ⟨W4.heap.size,0,none⟩) 3 3,.int .i64 0,.slice none 0 0,.int .i64 0,.string ⟨#[]⟩] 35 (0,0)) from by rw [hW5];exact xK W4 _ _)
 have HZ5:=Lh (show W5.heap.size=W4.heap.size+2 from by rw [hW5];simp)
 have HW5:=Lh hW5
 clear h1 h2 h3 hW5
 go_upto_region 3 with fail
 rw [← HW5.out]
 clear HW5 x0 x1 x2 x3 x4 x5 y0 y1 y2 y3 y4 y5 z0 z1 z2 z3 z4 z5
 have hr5:=qj HB5.out H3.out H3.out.lt
 obtain ⟨z0,z1,z2,z3,z4⟩:=rc5 hr5;have z5:=hr5.cell (i:=5) (by decide)
 have f3:=hr5.frozen 3
 simp only [qX] at z0 z1 z2 z3 z4 z5
 obtain ⟨W6,hW6⟩:∃W6,W6=W5.setCell ⟨w3.heap.size+1+1,3,none⟩ (.bool true):=⟨_,rfl⟩
 have hr6:W6.rowIs (w3.heap.size+1+1) 41 6 (qX (.string pcN) (.int .i64 1) (.slice (some ⟨a3,0,none⟩) 1 1) (.bool true) (.slice (some ⟨p3,0,none⟩) 1 1) (.slice none 0 0)):=by
  rw [hW6]
  refine (hr5.set 3 _).congr fun j hj=>?_
  rcases j with _|_|_|_|_|_|j <;> first|rfl|omega
 have hs6:∀k,k≠w3.heap.size+1+1→W6.heap[k]?=W5.heap[k]?:=fun k hk=>by rw [hW6];exact Below.heap_setCell _ _ _ _ hk
 have HZ6:=Lh (show W6.heap.size=W5.heap.size from by rw [hW6];simp [World.setCell])
 have HB6:=Lh (show Below w3.heap.size w3 W6 from by rw [hW6];exact (HB4.out.trans (HB5.out.mono HB4.out.size)).setCell (by show w3.heap.size≤w3.heap.size+1+1;omega) _)
 have H16:=Lh ((hs6 w3.heap.size (by omega)).trans ((HB5.out.block _ (qx H1.out)).trans H1.out))
 have HQ6:=Lh ((hs6 W4.heap.size (by have:=HZ4.out;omega)).trans HQ5.out)
 have HD6:=Lh ((hs6 (W4.heap.size+1) (by have:=HZ4.out;omega)).trans HD5.out)
 have H36:=Lh hr6
 have HW6:=Lh hW6
 clear hr5 hr6 hs6 hW6
 go_upto_region 4 with fail
 rw [← HW6.out]
 clear HW6 z0 z1 z2 z3 z4 z5 f3 H1 H2 H3 HQ5 HD5
 have h1:=H16.out
 have h3:=H36.out
 have x0:=qq h1 (j:=0) rfl;have x1:=qq h1 (j:=1) rfl;have x2:=qq h1 (j:=2) rfl;have x3:=qq h1 (j:=3) rfl;have x4:=qq h1 (j:=4) rfl;have x5:=qq h1 (j:=5) rfl
 obtain ⟨z0,z1,z2,z3,z4⟩:=rc5 h3;have z5:=h3.cell (i:=5) (by decide)
 simp only [qX] at z0 z1 z2 z3 z4 z5
 obtain ⟨W7,hW7⟩:∃W7,W7=(W6.alloc (.cells #[.string pcN,.int .i64 1,.slice (some ⟨a3,0,none⟩) 1 1,.bool true,.slice (some ⟨p3,0,none⟩) 1 1,.slice none 0 0,.string raN,.int .i64 1,.slice (some ⟨a1,0,none⟩) 1 1,.bool false,.slice (some ⟨p1,0,none⟩) 1 1,.slice none 0 0] 41)).alloc (.cells #[.slice none 0 0,.slice (some ⟨W6.heap.size,0,none⟩) 2 2,.int .i64 0,.slice none 0 0,.int .i64 0,.string ⟨#[]⟩] 35):=⟨_,rfl⟩
 have hb7:Below W6.heap.size W6 W7:=by rw [hW7];exact ((Below.refl _ _).alloc lz _).alloc (by simp) _
 have hq7:W7.heap[W6.heap.size]?=some (.cells #[.string pcN,.int .i64 1,.slice (some ⟨a3,0,none⟩) 1 1,.bool true,.slice (some ⟨p3,0,none⟩) 1 1,.slice none 0 0,.string raN,.int .i64 1,.slice (some ⟨a1,0,none⟩) 1 1,.bool false,.slice (some ⟨p1,0,none⟩) 1 1,.slice none 0 0] 41 (0,0)):=by rw [hW7];exact zf W6 _ _
 have he7:W7.heap[W6.heap.size+1]?=some (.cells #[.slice none 0 0,.slice (some ⟨W6.heap.size,0,none⟩) 2 2,.int .i64 0,.slice none 0 0,.int .i64 0,.string ⟨#[]⟩] 35 (0,0)):=by rw [hW7];exact xK W6 _ _
 have hd7:=(hb7.block _ (qx HD6.out)).trans HD6.out
 have hqq:=(hb7.block _ (qx HQ6.out)).trans HQ6.out
 have HB7:=Lh (HB6.out.trans (hb7.mono HB6.out.size))
 have HE:=Lh (show ∀w':World,Below W7.heap.size W7 w'→(DelegsIn w' 0 w'.heap.size exD none (some ⟨W4.heap.size,0,none⟩) none∧DelegsIn w' 0 w'.heap.size exE none (some ⟨W6.heap.size,0,none⟩) none∧Tabs w')∧(w'.cell? ⟨W4.heap.size+1,0,none⟩=some (.slice none 0 0)∧w'.cell? ⟨W4.heap.size+1,1,none⟩=some (.slice (some ⟨W4.heap.size,0,none⟩) 3 3)∧w'.cell? ⟨W4.heap.size+1,2,none⟩=some (.int .i64 0)∧w'.cell? ⟨W4.heap.size+1,3,none⟩=some (.slice none 0 0)∧w'.cell? ⟨W4.heap.size+1,4,none⟩=some (.int .i64 0)∧w'.cell? ⟨W4.heap.size+1,5,none⟩=some (.string ⟨#[]⟩))∧(w'.cell? ⟨W6.heap.size+1,0,none⟩=some (.slice none 0 0)∧w'.cell? ⟨W6.heap.size+1,1,none⟩=some (.slice (some ⟨W6.heap.size,0,none⟩) 2 2)∧w'.cell? ⟨W6.heap.size+1,2,none⟩=some (.int .i64 0)∧w'.cell? ⟨W6.heap.size+1,3,none⟩=some (.slice none 0 0)∧w'.cell? ⟨W6.heap.size+1,4,none⟩=some (.int .i64 0)∧w'.cell? ⟨W6.heap.size+1,5,none⟩=some (.string ⟨#[]⟩)) from fun w' h=>by
  have hb':=HB7.out.trans (h.mono HB7.out.size)
  have r1:=HN1.out.below hb'
  have r2:=HN2.out.below hb'
  have r3:=HN3.out.below hb'
  have k1:=(h.block _ (qx hqq)).trans hqq
  have k2:=(h.block _ (qx hq7)).trans hq7
  have k3:=(h.block _ (qx hd7)).trans hd7
  have k4:=(h.block _ (qx he7)).trans he7
  exact ⟨⟨⟨.inl rfl,nu k1 r1 r2 r3,.inl rfl⟩,⟨.inl rfl,nh k2 r3 r1,.inl rfl⟩,HT.out w' (HB3.out.trans (hb'.mono HB3.out.size))⟩,⟨qq k3 rfl,qq k3 rfl,qq k3 rfl,qq k3 rfl,qq k3 rfl,qq k3 rfl⟩,⟨qq k4 rfl,qq k4 rfl,qq k4 rfl,qq k4 rfl,qq k4 rfl,qq k4 rfl⟩⟩)
 have HW7:=Lh hW7
 have HBW:=Lh (HB3.out.trans (HB7.out.mono HB3.out.size))
 have HPOS:=Lh (show 0<W7.heap.size from Nat.lt_of_le_of_lt (Nat.zero_le _) (qx he7))
 clear h1 h3 hW7 hb7 hq7 he7 hd7 hqq
 go_upto_region 5 with fail
 rw [← HW7.out]
 clear HW7 x0 x1 x2 x3 x4 x5 z0 z1 z2 z3 z4 z5 H16 H36 HQ6 HD6 HB4 HB5 HB6 HN1 HN2 HN3
 obtain ⟨⟨i1,i2,i3⟩,⟨d0,d1,d2,d3,d4,d5⟩,-⟩:=HE.out W7 (Below.refl _ _)
 have HV:=Lh (tO W4.heap.size W7 i1 i3)
 clear i1 i2 i3
 go_wp2_with fail
 refine HV.out.mono ?_
 clear HV d0 d1 d2 d3 d4 d5
 rintro e w8 ⟨an,cn,ai,ci,rfl,hr8,hb8⟩
 obtain ⟨W9,hW9⟩:∃W9,W9=w8.alloc (.cells #[.int .u8 5,.int .i64 0,.string ⟨#[]⟩,.slice an 2 cn,.slice ai 2 ci] 25):=⟨_,rfl⟩
 have hb9:Below w8.heap.size w8 W9:=by rw [hW9];exact (Below.refl _ _).alloc lz _
 have hx9:W9.heap[w8.heap.size]?=some (.cells #[.int .u8 5,.int .i64 0,.string ⟨#[]⟩,.slice an 2 cn,.slice ai 2 ci] 25 (0,0)):=by rw [hW9];exact heap_alloc_new w8 _
 have HB9:=Lh (hb8.trans (hb9.mono hb8.size))
 have HOF:=Lh (oO _ W9 W7.heap.size HPOS.out (hr8.below hb9 lz lz hb9.size) (HE.out W9 HB9.out).1.2.2)
 obtain ⟨v0,v1,v2,v3,v4⟩:=bx5 hx9
 have HW9:=Lh hW9
 clear hb8 hr8 hb9 hx9 hW9
 go_upto_region 6 with fail
 rw [← HW9.out]
 clear HW9
 go_wp2_with fail
 refine HOF.out.mono ?_
 clear HOF v0 v1 v2 v3 v4
 rintro e w10 ⟨ka,kc,ra,rc,ba,bc,rfl,hi10,hb10⟩
 obtain ⟨W11,hW11⟩:∃W11,W11=w10.alloc (.cells #[.slice ka 0 kc,.slice ra 3 rc,.int .i64 0,.slice ba 0 bc,.int .i64 0,.string ⟨#[]⟩] 35):=⟨_,rfl⟩
 have hb11:Below w10.heap.size w10 W11:=by rw [hW11];exact (Below.refl _ _).alloc lz _
 have HX11:=Lh (show W11.heap[w10.heap.size]?=some (.cells #[.slice ka 0 kc,.slice ra 3 rc,.int .i64 0,.slice ba 0 bc,.int .i64 0,.string ⟨#[]⟩] 35 (0,0)) from by rw [hW11];exact heap_alloc_new w10 _)
 have HI11:=Lh (show tI W11 ka ra ba from hi10.below hb11 lz lz hb11.size)
 have HB11:=Lh (HB9.out.trans ((hb10.trans (hb11.mono hb10.size)).mono HB9.out.size))
 have HW11:=Lh hW11
 have HWH:=Lh (mN W11)
 clear hi10 hb10 hb11 hW11
 go_upto_region 7 with fail
 rw [← HW11.out]
 clear HW11
 go_wp2_with fail
 refine HWH.out.mono ?_
 clear HWH
 rintro e w12 ⟨g,rfl,hs12,hb12⟩
 obtain ⟨W13,hW13⟩:∃W13,W13=w12.alloc (.cells #[.slice none 0 0,.slice none 0 0,.int .i64 1,.slice (some ⟨g,0,none⟩) 1 1,.int .i64 2,.string ⟨#[112]⟩] 35):=⟨_,rfl⟩
 have hb13:Below w12.heap.size w12 W13:=by rw [hW13];exact (Below.refl _ _).alloc lz _
 have hb113:Below W11.heap.size W11 W13:=hb12.trans (hb13.mono hb12.size)
 have hx13:W13.heap[w12.heap.size]?=some (.cells #[.slice none 0 0,.slice none 0 0,.int .i64 1,.slice (some ⟨g,0,none⟩) 1 1,.int .i64 2,.string ⟨#[112]⟩] 35 (0,0)):=by rw [hW13];exact heap_alloc_new w12 _
 have HB13:=Lh (HB11.out.trans (hb113.mono HB11.out.size))
 have HF:=Lh (show ∀w':World,Below W13.heap.size W13 w'→(tI w' ka ra ba∧qg w' 0 w'.heap.size (some ⟨g,0,none⟩) [yE 97])∧(w'.cell? ⟨w10.heap.size,0,none⟩=some (.slice ka 0 kc)∧w'.cell? ⟨w10.heap.size,1,none⟩=some (.slice ra 3 rc)∧w'.cell? ⟨w10.heap.size,2,none⟩=some (.int .i64 0)∧w'.cell? ⟨w10.heap.size,3,none⟩=some (.slice ba 0 bc)∧w'.cell? ⟨w10.heap.size,4,none⟩=some (.int .i64 0)∧w'.cell? ⟨w10.heap.size,5,none⟩=some (.string ⟨#[]⟩))∧(w'.cell? ⟨w12.heap.size,0,none⟩=some (.slice none 0 0)∧w'.cell? ⟨w12.heap.size,1,none⟩=some (.slice none 0 0)∧w'.cell? ⟨w12.heap.size,2,none⟩=some (.int .i64 1)∧w'.cell? ⟨w12.heap.size,3,none⟩=some (.slice (some ⟨g,0,none⟩) 1 1)∧w'.cell? ⟨w12.heap.size,4,none⟩=some (.int .i64 2)∧w'.cell? ⟨w12.heap.size,5,none⟩=some (.string ⟨#[112]⟩)) from fun w' h=>by
  have hb':=hb113.trans (h.mono hb113.size)
  have k1:=(hb'.block _ (qx HX11.out)).trans HX11.out
  have k2:=(h.block _ (qx hx13)).trans hx13
  exact ⟨⟨HI11.out.below hb' lz lz hb'.size,(hs12.carry (Nat.zero_le _) lz (fun _ _ _=>rfl)).below (hb13.trans (h.mono hb13.size)) lz lz (Nat.le_trans hb13.size h.size)⟩,⟨qq k1 rfl,qq k1 rfl,qq k1 rfl,qq k1 rfl,qq k1 rfl,qq k1 rfl⟩,⟨qq k2 rfl,qq k2 rfl,qq k2 rfl,qq k2 rfl,qq k2 rfl,qq k2 rfl⟩⟩)
 have HBI:=Lh (ow g W13 (HE.out W13 HB13.out).1.2.2)
 have HW13:=Lh hW13
 clear hs12 hb12 hW13 hb13 hb113 hx13
 go_upto_region 8 with fail
 rw [← HW13.out]
 clear HW13
 obtain ⟨-,-,b0,b1,b2,b3,b4,b5⟩:=HF.out W13 (Below.refl _ _)
 go_wp2_with fail
 refine HBI.out.mono ?_
 clear HBI b0 b1 b2 b3 b4 b5
 rintro e w14 ⟨rfl,hb14⟩
 obtain ⟨S,hS⟩:∃S,S=binS:=⟨_,rfl⟩
 rw [← hS]
 have HS:=Lh hS
 have HF14:=Lh hb14
 have HB14:=Lh (HB13.out.trans (hb14.mono HB13.out.size))
 clear hb14 hS
 go_upto_region 9 with fail
 obtain ⟨W15,hW15⟩:∃W15,W15=w14.alloc (.cells #[.string ⟨#[97]⟩,.string ⟨#[99]⟩] 9):=⟨_,rfl⟩
 have hb':Below w14.heap.size w14 W15:=by rw [hW15];exact (Below.refl _ _).alloc lz _
 have hg':W15.heap[w14.heap.size]?=some (.cells #[.string ⟨#[97]⟩,.string ⟨#[99]⟩] 9 (0,0)):=by rw [hW15];exact heap_alloc_new w14 _
 have HA15:=Lh (HB14.out.trans (hb'.mono HB14.out.size))
 have HC15:=Lh (HF14.out.trans (hb'.mono HF14.out.size))
 have HM:=Lh (ce W4.heap.size w14.heap.size vp [raN,pcN] W15 (HE.out W15 HA15.out).1.1 (nc hg') (by decide) (by decide) wj.1 (HE.out W15 HA15.out).1.2.2)
 have HW15:=Lh hW15
 clear hb' hg' hW15
 obtain ⟨-,⟨d0,d1,d2,d3,d4,d5⟩,-⟩:=HE.out w14 HB14.out
 go_wp2_with fail
 rw [← HW15.out]
 refine HM.out.mono ?_
 clear HM HW15 d0 d1 d2 d3 d4 d5
 rintro e w16 ⟨rfl,hb'⟩
 have HB16:=Lh (HA15.out.trans (hb'.mono HA15.out.size))
 have HF16:=Lh (HC15.out.trans (hb'.mono HC15.out.size))
 clear hb'
 obtain ⟨W17,hW17⟩:∃W17,W17=w16.alloc (.cells #[.string ⟨#[98]⟩] 9):=⟨_,rfl⟩
 have hb':Below w16.heap.size w16 W17:=by rw [hW17];exact (Below.refl _ _).alloc lz _
 have hg':W17.heap[w16.heap.size]?=some (.cells #[.string ⟨#[98]⟩] 9 (0,0)):=by rw [hW17];exact heap_alloc_new w16 _
 have HA17:=Lh (HB16.out.trans (hb'.mono HB16.out.size))
 have HC17:=Lh (HF16.out.trans (hb'.mono HF16.out.size))
 have HM:=Lh (ce W4.heap.size w16.heap.size pzN [bbN] W17 (HE.out W17 HA17.out).1.1 (gh hg') (by decide) (by decide) wj.2.1 (HE.out W17 HA17.out).1.2.2)
 have HW17:=Lh hW17
 clear hb' hg' hW17
 obtain ⟨-,⟨d0,d1,d2,d3,d4,d5⟩,-⟩:=HE.out w16 HB16.out
 go_wp2_with fail
 rw [← HW17.out]
 refine HM.out.mono ?_
 clear HM HW17 d0 d1 d2 d3 d4 d5
 rintro e w18 ⟨rfl,hb'⟩
 have HB18:=Lh (HA17.out.trans (hb'.mono HA17.out.size))
 have HF18:=Lh (HC17.out.trans (hb'.mono HC17.out.size))
 clear hb'
 obtain ⟨W19,hW19⟩:∃W19,W19=w18.alloc (.cells #[.string ⟨#[99]⟩] 9):=⟨_,rfl⟩
 have hb':Below w18.heap.size w18 W19:=by rw [hW19];exact (Below.refl _ _).alloc lz _
 have hg':W19.heap[w18.heap.size]?=some (.cells #[.string ⟨#[99]⟩] 9 (0,0)):=by rw [hW19];exact heap_alloc_new w18 _
 have HA19:=Lh (HB18.out.trans (hb'.mono HB18.out.size))
 have HC19:=Lh (HF18.out.trans (hb'.mono HF18.out.size))
 have HM:=Lh (aM W6.heap.size w18.heap.size vp [pcN] W19 (HE.out W19 HA19.out).1.2.1 (gh hg') (by decide) (by decide) wj.2.2.1 (HE.out W19 HA19.out).1.2.2)
 have HW19:=Lh hW19
 clear hb' hg' hW19
 obtain ⟨-,-,d0,d1,d2,d3,d4,d5⟩:=HE.out w18 HB18.out
 go_wp2_with fail
 rw [← HW19.out]
 refine HM.out.mono ?_
 clear HM HW19 d0 d1 d2 d3 d4 d5
 rintro e w20 ⟨rfl,hb'⟩
 have HB20:=Lh (HA19.out.trans (hb'.mono HA19.out.size))
 have HF20:=Lh (HC19.out.trans (hb'.mono HC19.out.size))
 clear hb'
 have HSM:=Lh (ov ka ra ba kc rc bc W4.heap.size w20 (HF.out w20 HF20.out).1.1 (HE.out w20 HB20.out).1.1)
 obtain ⟨-,⟨d0,d1,d2,d3,d4,d5⟩,-⟩:=HE.out w20 HB20.out
 obtain ⟨-,⟨o0,o1,o2,o3,o4,o5⟩,-⟩:=HF.out w20 HF20.out
 go_wp2_with fail
 refine HSM.out.mono ?_
 clear HSM d0 d1 d2 d3 d4 d5 o0 o1 o2 o3 o4 o5
 rintro e w21 ⟨rfl,hb'⟩
 have HB21:=Lh (HB20.out.trans (hb'.mono HB20.out.size))
 have HF21:=Lh (HF20.out.trans (hb'.mono HF20.out.size))
 clear hb'
 obtain ⟨W22,hW22⟩:∃W22,W22=w21.alloc (.cells #[.string S] 9):=⟨_,rfl⟩
 have hb':Below w21.heap.size w21 W22:=by rw [hW22];exact (Below.refl _ _).alloc lz _
 have hg':W22.heap[w21.heap.size]?=some (.cells #[.string S] 9 (0,0)):=by rw [hW22];exact heap_alloc_new w21 _
 have HA22:=Lh (HB21.out.trans (hb'.mono HB21.out.size))
 have HC22:=Lh (HF21.out.trans (hb'.mono HF21.out.size))
 have HM:=Lh (aC g w21.heap.size W22 (HF.out W22 HC22.out).1.2 (by rw [← HS.out];exact gh hg') (HE.out W22 HA22.out).1.2.2)
 have HW22:=Lh hW22
 clear hb' hg' hW22
 obtain ⟨-,-,d0,d1,d2,d3,d4,d5⟩:=HF.out w21 HF21.out
 go_wp2_with fail
 rw [← HW22.out]
 refine HM.out.mono ?_
 clear HM HW22 d0 d1 d2 d3 d4 d5
 rintro e w23 ⟨rfl,hb'⟩
 have HB23:=Lh (HA22.out.trans (hb'.mono HA22.out.size))
 have HF23:=Lh (HC22.out.trans (hb'.mono HC22.out.size))
 clear hb'
 go_wp2
 go_ret
 exact ⟨rfl,HBW.out.trans (HB23.out.mono HBW.out.size)⟩
theorem cQ (n n2:ByteArray) (a a2:AuthV) (t t2:Bool) (p p2 q q2:List ByteArray):decide ((⟨n,a,t,p,q⟩:DelegV)=⟨n2,a2,t2,p2,q2⟩)=((n.toList == n2.toList) && (decide (a=a2) && ((t == t2) && (decide (p=p2) && decide (q=q2))))):=by
 rw [ba_eq]
 simp only [DelegV.mk.injEq,Bool.decide_and]
 rfl
set_option maxHeartbeats 4000000 in
set_option maxRecDepth 100000 in
theorem p8 (nm:ByteArray) (t:Int) (ids:List ByteArray) (tm:Bool) (ps qs:List ByteArray) (ia pa qa:Option Addr) (ic pc qc:Nat) (nm2:ByteArray) (t2:Int) (ids2:List ByteArray) (tm2:Bool) (ps2 qs2:List ByteArray) (ib pb qb:Option Addr) (ie pd qd:Nat) (w:World)
 (hX:DelegIn w 0 w.heap.size ⟨nm,⟨t,ids⟩,tm,ps,qs⟩ ia pa qa) (hY:DelegIn w 0 w.heap.size ⟨nm2,⟨t2,ids2⟩,tm2,ps2,qs2⟩ ib pb qb) (hf:DelegFits ⟨nm,⟨t,ids⟩,tm,ps,qs⟩) (hg:DelegFits ⟨nm2,⟨t2,ids2⟩,tm2,ps2,qs2⟩) :
 Calls Tryz.prog 97 #[.agg #[.string nm,.int .i64 t,.slice ia ids.length ic,.bool tm,.slice pa ps.length pc,.slice qa qs.length qc],.agg #[.string nm2,.int .i64 t2,.slice ib ids2.length ie,.bool tm2,.slice pb ps2.length pd,.slice qb qs2.length qd]] w fun e w'=>e=.returned (.bool (decide ((⟨nm,⟨t,ids⟩,tm,ps,qs⟩:DelegV)=⟨nm2,⟨t2,ids2⟩,tm2,ps2,qs2⟩)))∧Below w.heap.size w w':=by
 obtain ⟨W,hW⟩:∃W,W=(w.alloc (.cells #[.string nm,.int .i64 t,.slice ia ids.length ic,.bool tm,.slice pa ps.length pc,.slice qa qs.length qc] 41)).alloc (.cells #[.string nm2,.int .i64 t2,.slice ib ids2.length ie,.bool tm2,.slice pb ps2.length pd,.slice qb qs2.length qd] 41):=⟨_,rfl⟩
 have hb:Below w.heap.size w W:=by rw [hW];exact ((Below.refl _ _).alloc lz _).alloc (by simp) _
 have hx:W.heap[w.heap.size]?=some (.cells #[.string nm,.int .i64 t,.slice ia ids.length ic,.bool tm,.slice pa ps.length pc,.slice qa qs.length qc] 41 (0,0)):=by rw [hW];exact zf w _ _
 have hy:W.heap[w.heap.size+1]?=some (.cells #[.string nm2,.int .i64 t2,.slice ib ids2.length ie,.bool tm2,.slice pb ps2.length pd,.slice qb qs2.length qd] 41 (0,0)):=by rw [hW];exact xK w _ _
 have HC:=Lh (show ∀w':World,Below W.heap.size W w'→w'.cell? ⟨w.heap.size,0,none⟩=some (.string nm)∧w'.cell? ⟨w.heap.size,1,none⟩=some (.int .i64 t)∧w'.cell? ⟨w.heap.size,2,none⟩=some (.slice ia ids.length ic)∧w'.cell? ⟨w.heap.size,3,none⟩=some (.bool tm)∧w'.cell? ⟨w.heap.size,4,none⟩=some (.slice pa ps.length pc)∧w'.cell? ⟨w.heap.size,5,none⟩=some (.slice qa qs.length qc)∧w'.cell? ⟨w.heap.size+1,0,none⟩=some (.string nm2)∧w'.cell? ⟨w.heap.size+1,1,none⟩=some (.int .i64 t2)∧w'.cell? ⟨w.heap.size+1,2,none⟩=some (.slice ib ids2.length ie)∧w'.cell? ⟨w.heap.size+1,3,none⟩=some (.bool tm2)∧w'.cell? ⟨w.heap.size+1,4,none⟩=some (.slice pb ps2.length pd)∧w'.cell? ⟨w.heap.size+1,5,none⟩=some (.slice qb qs2.length qd) from fun w' h=>by
  have h1:=(h.block _ (qx hx)).trans hx
  have h2:=(h.block _ (qx hy)).trans hy
  exact ⟨qq h1 rfl,qq h1 rfl,qq h1 rfl,qq h1 rfl,qq h1 rfl,qq h1 rfl,qq h2 rfl,qq h2 rfl,qq h2 rfl,qq h2 rfl,qq h2 rfl,qq h2 rfl⟩)
 have HV:=Lh (cQ nm nm2 ⟨t,ids⟩ ⟨t2,ids2⟩ tm tm2 ps ps2 qs qs2)
 have HI:=Lh (show ∀w':World,Below W.heap.size W w'→DelegIn w' 0 w'.heap.size ⟨nm,⟨t,ids⟩,tm,ps,qs⟩ ia pa qa∧DelegIn w' 0 w'.heap.size ⟨nm2,⟨t2,ids2⟩,tm2,ps2,qs2⟩ ib pb qb from fun w' h=>⟨hX.below (hb.trans (h.mono hb.size)) lz lz (Nat.le_trans hb.size h.size),hY.below (hb.trans (h.mono hb.size)) lz lz (Nat.le_trans hb.size h.size)⟩)
 have HEA:=Lh (show ∀w':World,Below W.heap.size W w'→_ from fun w' h=>m7 t t2 ids ids2 ia ib ic ie w' (HI.out w' h).1.ids (HI.out w' h).2.ids hf.au.2.1 hg.au.2.1)
 have HEP:=Lh (show ∀w':World,Below W.heap.size W w'→_ from fun w' h=>yR ps ps2 pa pb pc pd w' 0 w'.heap.size (HI.out w' h).1.paths (HI.out w' h).2.paths hf.paths.1 hg.paths.1)
 have HEQ:=Lh (show ∀w':World,Below W.heap.size W w'→_ from fun w' h=>yR qs qs2 qa qb qc qd w' 0 w'.heap.size (HI.out w' h).1.pres (HI.out w' h).2.pres hf.pres.1 hg.pres.1)
 have HB:=Lh hb
 have HW:=Lh hW
 obtain ⟨q,hq⟩:∃q,q=decide ((⟨nm,⟨t,ids⟩,tm,ps,qs⟩:DelegV)=⟨nm2,⟨t2,ids2⟩,tm2,ps2,qs2⟩):=⟨_,rfl⟩
 rw [← hq] at HV ⊢
 obtain ⟨e0,he0⟩:∃e0,e0=(nm.toList == nm2.toList):=⟨_,rfl⟩
 obtain ⟨e1,he1⟩:∃e1,e1=decide ((⟨t,ids⟩:AuthV)=⟨t2,ids2⟩):=⟨_,rfl⟩
 obtain ⟨e2,he2⟩:∃e2,e2=(tm == tm2):=⟨_,rfl⟩
 obtain ⟨e3,he3⟩:∃e3,e3=decide (ps=ps2):=⟨_,rfl⟩
 obtain ⟨e4,he4⟩:∃e4,e4=decide (qs=qs2):=⟨_,rfl⟩
 rw [← he0,← he1,← he2,← he3,← he4] at HV
 rw [← he1] at HEA
 rw [← he3] at HEP
 rw [← he4] at HEQ
 replace he0:=he0.symm
 replace he2:=he2.symm
 have HE2:=Lh he2
 clear hb hW hx hy hX hY hf hg hq he1 he2 he3 he4
 obtain ⟨x0,x1,x2,x3,x4,x5,y0,y1,y2,y3,y4,y5⟩:=HC.out W (Below.refl _ _)
 cases e0 with
 | false =>
  simp only [Bool.false_and] at HV
  go_enter Tryz.func97,Tryz.ntmps97
  go_upto_region 1 with fail
  rw [← HW.out]
  go_wp2
  go_ret
  exact ⟨qz HV.out.symm,HB.out⟩
 | true =>
 rw [Bool.true_and] at HV
 go_enter Tryz.func97,Tryz.ntmps97
 go_upto_region 1 with fail
 rw [← HW.out]
 clear HW
 go_wp2_with fail
 refine (HEA.out W (Below.refl _ _)).mono ?_
 clear HEA
 clear x0 x1 x2 x3 x4 x5 y0 y1 y2 y3 y4 y5
 rintro r w1 ⟨rfl,hb1⟩
 have HB1:=Lh hb1
 clear hb1
 cases e1 with
 | false =>
  simp only [Bool.false_and] at HV
  go_wp2
  go_ret
  exact ⟨qz HV.out.symm,HB.out.trans (HB1.out.mono HB.out.size)⟩
 | true =>
 rw [Bool.true_and] at HV
 obtain ⟨x0,x1,x2,x3,x4,x5,y0,y1,y2,y3,y4,y5⟩:=HC.out w1 HB1.out
 have he2:=HE2.out
 cases e2 with
 | false =>
  simp only [Bool.false_and] at HV
  go_wp2
  go_ret
  exact ⟨qz HV.out.symm,HB.out.trans (HB1.out.mono HB.out.size)⟩
 | true =>
 rw [Bool.true_and] at HV
 have HEP1:=Lh (HEP.out w1 HB1.out)
 go_wp2_with fail
 refine HEP1.out.mono ?_
 clear HEP HEP1
 clear x0 x1 x2 x3 x4 x5 y0 y1 y2 y3 y4 y5
 rintro r w2 ⟨rfl,n2,rfl⟩
 have HB2:=Lh (Below.drewN HB1.out n2)
 cases e3 with
 | false =>
  simp only [Bool.false_and] at HV
  go_wp2
  go_ret
  exact ⟨qz HV.out.symm,HB.out.trans (HB2.out.mono HB.out.size)⟩
 | true =>
 rw [Bool.true_and] at HV
 obtain ⟨x0,x1,x2,x3,x4,x5,y0,y1,y2,y3,y4,y5⟩:=HC.out (w1.drewN n2) HB2.out
 have HEQ1:=Lh (HEQ.out (w1.drewN n2) HB2.out)
 go_wp2_with fail
 refine HEQ1.out.mono ?_
 clear HEQ HEQ1
 clear x0 x1 x2 x3 x4 x5 y0 y1 y2 y3 y4 y5
 rintro r w3 ⟨rfl,n3,rfl⟩
 go_wp2
 go_ret
 exact ⟨qz HV.out.symm,HB.out.trans ((Below.drewN HB1.out _).mono HB.out.size)⟩
set_option maxHeartbeats 4000000 in
set_option maxRecDepth 100000 in
theorem dF (l m:List DelegV) (a b:Option Addr) (c d:Nat) (w:World) (hA:q8 w 0 w.heap.size a l) (hB:q8 w 0 w.heap.size b m) (hfl:∀x ∈ l,DelegFits x) (hfm:∀x ∈ m,DelegFits x) (hl:l.length≤100) :
 Calls Tryz.prog 96 #[.slice a l.length c,.slice b m.length d,.func (.func 97) #[] #[]] w fun e w'=>e=.returned (.bool (decide (l=m)))∧Below w.heap.size w w':=by
 obtain ⟨nn,hnn⟩:∃nn,nn=l.length:=⟨_,rfl⟩
 by_cases hn:l.length=m.length
 case neg =>
  have t1:((l.length:Int) != (m.length:Int))=true:=by rw [bne_iff_ne];omega
  have t2:(l.length != m.length)=true:=by rw [bne_iff_ne];omega
  have HD:=Lh (show decide (l=m)=false from decide_eq_false fun e=>hn (by rw [e]))
  clear hn hnn
  go_enter Tryz.func96,Tryz.ntmps96
  go_wp2
  go_ret
  exact ⟨qz HD.out.symm,Below.refl _ _⟩
 have HA:=Lh hA
 have HBb:=Lh hB
 have HNL:=Lh hnn
 have HNM:=Lh (show nn=m.length from by rw [hnn,hn])
 have HFL:=Lh hfl
 have HFM:=Lh hfm
 rw [← hn,← hnn]
 have t1:((nn:Int) != (nn:Int))=false:=by simp
 have t2:(nn != nn)=false:=by simp
 have hl':nn≤100:=by omega
 clear hA hB hn hfl hfm hnn hl
 go_enter Tryz.func96,Tryz.ntmps96
 go_wp2
 go_loopw [7,8,9,17] (fun _ _ _ i wr=>∃k:Nat,k≤nn∧i=.int .i64 k∧l.take k=m.take k∧Below w.heap.size w wr) (fun _ _ _ i _=>nn - (intOf i).toNat)
 case atStart=>exact ⟨0,by omega,rfl,by simp,Below.refl _ _⟩
 case round =>
  obtain ⟨k,hk,rfl,hsf,hb⟩:=hrel
  have HSF:=Lh hsf
  have HB:=Lh hb
  clear hsf
  by_cases hlt:k<nn
  · have hll:k<l.length:=by rw [← HNL.out];exact hlt
    have hlm:k<m.length:=by rw [← HNM.out];exact hlt
    obtain ⟨b1,o1,ha1,_,hbl1,ia,ic,pa,pc,qa,qc,c0,c1,c2,c3,c4,c5,_,_,_,hi1⟩:=(HA.out.below hb lz lz hb.size).at k hll
    obtain ⟨b2,o2,ha2,_,hbl2,ib,ie,pb,pd,qb,qd,y0,y1,y2,y3,y4,y5,_,_,_,hi2⟩:=(HBb.out.below hb lz lz hb.size).at k hlm
    subst ha1 ha2
    have HTK:=Lh (show l[k]=m[k]→l.take (k+1)=m.take (k+1) from fun h=>by rw [List.take_succ_eq_append_getElem hll,List.take_succ_eq_append_getElem hlm,HSF.out,h])
    have HNO:=Lh (show l[k]≠m[k]→decide (l=m)=false from fun h=>decide_eq_false fun e=>h (by subst e;rfl))
    have HF1:=Lh (HFL.out l[k] (List.getElem_mem hll))
    have HF2:=Lh (HFM.out m[k] (List.getElem_mem hlm))
    obtain ⟨p,hp⟩:∃p,p=l[k]:=⟨_,rfl⟩
    obtain ⟨q,hq⟩:∃q,q=m[k]:=⟨_,rfl⟩
    rw [← hp] at c0 c1 c2 c3 c4 c5 hi1 HF1
    rw [← hq] at y0 y1 y2 y3 y4 y5 hi2 HF2
    rw [← hp,← hq] at HTK HNO
    clear hp hq
    obtain ⟨nm,⟨t,ids⟩,tm,ps,qs⟩:=p
    obtain ⟨nm2,⟨t2,ids2⟩,tm2,ps2,qs2⟩:=q
    dsimp only at c0 c1 c2 c3 c4 c5 y0 y1 y2 y3 y4 y5
    obtain ⟨W2,hW2⟩:∃W2,W2=wr.alloc (.cells #[.string nm,.int .i64 t,.slice ia ids.length ic,.bool tm,.slice pa ps.length pc,.slice qa qs.length qc] 41):=⟨_,rfl⟩
    have hb2:Below wr.heap.size wr W2:=by rw [hW2];exact (Below.refl _ _).alloc lz _
    have hx2:W2.heap[wr.heap.size]?=some (.cells #[.string nm,.int .i64 t,.slice ia ids.length ic,.bool tm,.slice pa ps.length pc,.slice qa qs.length qc] 41 (0,0)):=by rw [hW2];exact heap_alloc_new wr _
    have hz2:W2.heap.size=wr.heap.size+1:=by rw [hW2];simp
    have z0:W2.cell? ⟨b2,o2+k * 6,none⟩=some (.string nm2):=by rw [hb2.cell hbl2];exact y0
    have z1:W2.cell? ⟨b2,o2+k * 6+1,none⟩=some (.int .i64 t2):=by rw [hb2.cell hbl2];exact y1
    have z2:W2.cell? ⟨b2,o2+k * 6+2,none⟩=some (.slice ib ids2.length ie):=by rw [hb2.cell hbl2];exact y2
    have z3:W2.cell? ⟨b2,o2+k * 6+3,none⟩=some (.bool tm2):=by rw [hb2.cell hbl2];exact y3
    have z4:W2.cell? ⟨b2,o2+k * 6+4,none⟩=some (.slice pb ps2.length pd):=by rw [hb2.cell hbl2];exact y4
    have z5:W2.cell? ⟨b2,o2+k * 6+5,none⟩=some (.slice qb qs2.length qd):=by rw [hb2.cell hbl2];exact y5
    obtain ⟨W3,hW3⟩:∃W3,W3=W2.alloc (.cells #[.string nm2,.int .i64 t2,.slice ib ids2.length ie,.bool tm2,.slice pb ps2.length pd,.slice qb qs2.length qd] 41):=⟨_,rfl⟩
    have hb3:Below W2.heap.size W2 W3:=by rw [hW3];exact (Below.refl _ _).alloc lz _
    have hx3:W3.heap[W2.heap.size]?=some (.cells #[.string nm2,.int .i64 t2,.slice ib ids2.length ie,.bool tm2,.slice pb ps2.length pd,.slice qb qs2.length qd] 41 (0,0)):=by rw [hW3];exact heap_alloc_new W2 _
    have hx2':=(hb3.block _ (qx hx2)).trans hx2
    rw [hz2] at hx3
    have hb13:Below wr.heap.size wr W3:=hb2.trans (hb3.mono hb2.size)
    have HSP:=Lh (p8 nm t ids tm ps qs ia pa qa ic pc qc nm2 t2 ids2 tm2 ps2 qs2 ib pb qb ie pd qd W3 (hi1.below hb13 lz lz hb13.size) (hi2.below hb13 lz lz hb13.size) HF1.out HF2.out)
    obtain ⟨bb,hbb⟩:∃bb,bb=decide ((⟨nm,⟨t,ids⟩,tm,ps,qs⟩:DelegV)=⟨nm2,⟨t2,ids2⟩,tm2,ps2,qs2⟩):=⟨_,rfl⟩
    rw [← hbb] at HSP
    have HBE:=Lh hbb
    have HW2:=Lh hW2
    have HW3:=Lh hW3
    have HB3:=Lh (HB.out.trans (hb13.mono HB.out.size))
    have HX2:=Lh hx2'
    have HX3:=Lh hx3
    have d2:(0:Int)≤(k:Int):=by omega
    have d3:(k:Int)<(nn:Int):=by omega
    have d4:decide ((k:Int)<(nn:Int))=true:=by simpa using hlt
    clear y0 y1 y2 y3 y4 y5 hb hb2 hb3 hb13 hx2 hx2' hx3 hW2 hW3 hbl1 hbl2 hi1 hi2 hbb
    go_upto_region 6 with fail
    rw [← HW2.out]
    clear c0 c1 c2 c3 c4 c5
    go_upto_region 7 with fail
    rw [← HW3.out]
    clear z0 z1 z2 z3 z4 z5
    have g0:=qq HX2.out (j:=0) rfl;have g1:=qq HX2.out (j:=1) rfl;have g2:=qq HX2.out (j:=2) rfl;have g3:=qq HX2.out (j:=3) rfl;have g4:=qq HX2.out (j:=4) rfl;have g5:=qq HX2.out (j:=5) rfl
    have f0:=qq HX3.out (j:=0) rfl;have f1:=qq HX3.out (j:=1) rfl;have f2:=qq HX3.out (j:=2) rfl;have f3:=qq HX3.out (j:=3) rfl;have f4:=qq HX3.out (j:=4) rfl;have f5:=qq HX3.out (j:=5) rfl
    go_wp2_with fail
    refine HSP.out.mono ?_
    clear HSP g0 g1 g2 g3 g4 g5 f0 f1 f2 f3 f4 f5
    rintro e w5 ⟨rfl,hb5⟩
    have HB5:=Lh (HB3.out.trans (hb5.mono HB3.out.size))
    clear hb5
    cases bb with
    | true =>
     have HIF:=Lh (HTK.out (of_decide_eq_true HBE.out.symm))
     go_wp2
     go_roundw
     case rel=>exact ⟨k+1,by omega,by go_num,HIF.out,HB5.out⟩
     case measure=>simp [intOf];omega
    | false =>
     have HIF:=Lh (HNO.out (of_decide_eq_false HBE.out.symm))
     go_wp2
     go_ret
     exact ⟨qz HIF.out.symm,HB5.out⟩
  · obtain rfl:k=nn:=by omega
    have d4:decide ((k:Int)<(k:Int))=false:=by simp
    have HR:=Lh (show decide (l=m)=true by
     have:=HSF.out
     rw [List.take_of_length_le (by rw [← HNL.out];exact Nat.le_refl _),List.take_of_length_le (by rw [← HNM.out];exact Nat.le_refl _)] at this
     exact decide_eq_true this)
    clear hb
    go_wp2
    go_ret
    exact ⟨qz HR.out.symm,HB.out⟩
theorem cZ (l l2:List Key2) (rs rs2:List DelegV) (bits bits2 t t2:Int) (pre pre2:ByteArray) (ids ids2:List ByteArray):decide ((⟨l,rs,⟨bits,pre,⟨t,ids⟩⟩⟩:DelegsV)=⟨l2,rs2,⟨bits2,pre2,⟨t2,ids2⟩⟩⟩)=(decide (l=l2) && (decide (rs=rs2) && ((bits == bits2) && ((pre.toList == pre2.toList) && decide ((⟨t,ids⟩:AuthV)=⟨t2,ids2⟩))))):=by
 rw [ba_eq]
 simp only [DelegsV.mk.injEq,BinsV.mk.injEq,Bool.decide_and]
 rfl
set_option maxHeartbeats 4000000 in
set_option maxRecDepth 100000 in
theorem nl (l:List Key2) (rs:List DelegV) (t bits:Int) (ids:List ByteArray) (pre:ByteArray) (ka ra ba:Option Addr) (kc rc bc:Nat) (l2:List Key2) (rs2:List DelegV) (t2 bits2:Int) (ids2:List ByteArray) (pre2:ByteArray) (kb rb bb:Option Addr) (kd rd bd:Nat) (w:World)
 (hI:DelegsIn w 0 w.heap.size ⟨l,rs,⟨bits,pre,⟨t,ids⟩⟩⟩ ka ra ba) (hJ:DelegsIn w 0 w.heap.size ⟨l2,rs2,⟨bits2,pre2,⟨t2,ids2⟩⟩⟩ kb rb bb) (hf:DelegsFits ⟨l,rs,⟨bits,pre,⟨t,ids⟩⟩⟩) (hg:DelegsFits ⟨l2,rs2,⟨bits2,pre2,⟨t2,ids2⟩⟩⟩) :
 Calls Tryz.prog 42 #[.agg #[.slice ka l.length kc,.slice ra rs.length rc,.int .i64 t,.slice ba ids.length bc,.int .i64 bits,.string pre],.agg #[.slice kb l2.length kd,.slice rb rs2.length rd,.int .i64 t2,.slice bb ids2.length bd,.int .i64 bits2,.string pre2]] w fun r w'=>r=.returned (.bool (decide ((⟨l,rs,⟨bits,pre,⟨t,ids⟩⟩⟩:DelegsV)=⟨l2,rs2,⟨bits2,pre2,⟨t2,ids2⟩⟩⟩)))∧Below w.heap.size w w':=by
 obtain ⟨W,hW⟩:∃W,W=(w.alloc (.cells #[.slice ka l.length kc,.slice ra rs.length rc,.int .i64 t,.slice ba ids.length bc,.int .i64 bits,.string pre] 35)).alloc (.cells #[.slice kb l2.length kd,.slice rb rs2.length rd,.int .i64 t2,.slice bb ids2.length bd,.int .i64 bits2,.string pre2] 35):=⟨_,rfl⟩
 have hb:Below w.heap.size w W:=by rw [hW];exact ((Below.refl _ _).alloc lz _).alloc (by simp) _
 have hx:W.heap[w.heap.size]?=some (.cells #[.slice ka l.length kc,.slice ra rs.length rc,.int .i64 t,.slice ba ids.length bc,.int .i64 bits,.string pre] 35 (0,0)):=by rw [hW];exact zf w _ _
 have hy:W.heap[w.heap.size+1]?=some (.cells #[.slice kb l2.length kd,.slice rb rs2.length rd,.int .i64 t2,.slice bb ids2.length bd,.int .i64 bits2,.string pre2] 35 (0,0)):=by rw [hW];exact xK w _ _
 have HC:=Lh (show ∀w':World,Below W.heap.size W w'→w'.cell? ⟨w.heap.size,0,none⟩=some (.slice ka l.length kc)∧w'.cell? ⟨w.heap.size,1,none⟩=some (.slice ra rs.length rc)∧w'.cell? ⟨w.heap.size,2,none⟩=some (.int .i64 t)∧w'.cell? ⟨w.heap.size,3,none⟩=some (.slice ba ids.length bc)∧w'.cell? ⟨w.heap.size,4,none⟩=some (.int .i64 bits)∧w'.cell? ⟨w.heap.size,5,none⟩=some (.string pre)∧w'.cell? ⟨w.heap.size+1,0,none⟩=some (.slice kb l2.length kd)∧w'.cell? ⟨w.heap.size+1,1,none⟩=some (.slice rb rs2.length rd)∧w'.cell? ⟨w.heap.size+1,2,none⟩=some (.int .i64 t2)∧w'.cell? ⟨w.heap.size+1,3,none⟩=some (.slice bb ids2.length bd)∧w'.cell? ⟨w.heap.size+1,4,none⟩=some (.int .i64 bits2)∧w'.cell? ⟨w.heap.size+1,5,none⟩=some (.string pre2) from fun w' h=>by
  have h1:=(h.block _ (qx hx)).trans hx
  have h2:=(h.block _ (qx hy)).trans hy
  exact ⟨qq h1 rfl,qq h1 rfl,qq h1 rfl,qq h1 rfl,qq h1 rfl,qq h1 rfl,qq h2 rfl,qq h2 rfl,qq h2 rfl,qq h2 rfl,qq h2 rfl,qq h2 rfl⟩)
 have HV:=Lh (cZ l l2 rs rs2 bits bits2 t t2 pre pre2 ids ids2)
 have HI:=Lh (show ∀w':World,Below W.heap.size W w'→DelegsIn w' 0 w'.heap.size ⟨l,rs,⟨bits,pre,⟨t,ids⟩⟩⟩ ka ra ba∧DelegsIn w' 0 w'.heap.size ⟨l2,rs2,⟨bits2,pre2,⟨t2,ids2⟩⟩⟩ kb rb bb from fun w' h=>⟨hI.below (hb.trans (h.mono hb.size)) lz lz (Nat.le_trans hb.size h.size),hJ.below (hb.trans (h.mono hb.size)) lz lz (Nat.le_trans hb.size h.size)⟩)
 have HEK:=Lh (ng l l2 ka kb kc kd W (HI.out W (Below.refl _ _)).1.keys (HI.out W (Below.refl _ _)).2.keys (by have:l.length≤40:=hf.len;omega) (by have:l2.length≤40:=hg.len;omega))
 have HER:=Lh (show ∀w':World,Below W.heap.size W w'→_ from fun w' h=>dF rs rs2 ra rb rc rd w' (HI.out w' h).1.roles (HI.out w' h).2.roles hf.roles hg.roles (by have:rs.length≤70:=hf.many;omega))
 have HEA:=Lh (show ∀w':World,Below W.heap.size W w'→_ from fun w' h=>m7 t t2 ids ids2 ba bb bc bd w' (HI.out w' h).1.bids (HI.out w' h).2.bids hf.au.2.1 hg.au.2.1)
 have HB:=Lh hb
 have HW:=Lh hW
 obtain ⟨q,hq⟩:∃q,q=decide ((⟨l,rs,⟨bits,pre,⟨t,ids⟩⟩⟩:DelegsV)=⟨l2,rs2,⟨bits2,pre2,⟨t2,ids2⟩⟩⟩):=⟨_,rfl⟩
 rw [← hq] at HV ⊢
 obtain ⟨e0,he0⟩:∃e0,e0=decide (l=l2):=⟨_,rfl⟩
 obtain ⟨e1,he1⟩:∃e1,e1=decide (rs=rs2):=⟨_,rfl⟩
 obtain ⟨e2,he2⟩:∃e2,e2=(bits == bits2):=⟨_,rfl⟩
 obtain ⟨e3,he3⟩:∃e3,e3=(pre.toList == pre2.toList):=⟨_,rfl⟩
 obtain ⟨e4,he4⟩:∃e4,e4=decide ((⟨t,ids⟩:AuthV)=⟨t2,ids2⟩):=⟨_,rfl⟩
 rw [← he0,← he1,← he2,← he3,← he4] at HV
 rw [← he0] at HEK
 rw [← he1] at HER
 rw [← he4] at HEA
 have HE2:=Lh he2.symm
 have HE3:=Lh he3.symm
 clear hb hW hx hy hI hJ hf hg hq he0 he1 he2 he3 he4
 obtain ⟨x0,x1,x2,x3,x4,x5,y0,y1,y2,y3,y4,y5⟩:=HC.out W (Below.refl _ _)
 go_enter Tryz.func42,Tryz.ntmps42
 go_upto_region 1 with fail
 rw [← HW.out]
 clear HW
 go_wp2_with fail
 refine HEK.out.mono ?_
 clear HEK
 clear x0 x1 x2 x3 x4 x5 y0 y1 y2 y3 y4 y5
 rintro r w1 ⟨rfl,hb1⟩
 have HB1:=Lh hb1
 clear hb1
 cases e0 with
 | false =>
  simp only [Bool.false_and] at HV
  go_wp2
  go_ret
  exact ⟨qz HV.out.symm,HB.out.trans (HB1.out.mono HB.out.size)⟩
 | true =>
 rw [Bool.true_and] at HV
 obtain ⟨x0,x1,x2,x3,x4,x5,y0,y1,y2,y3,y4,y5⟩:=HC.out w1 HB1.out
 have HER1:=Lh (HER.out w1 HB1.out)
 clear HER
 go_wp2_with fail
 refine HER1.out.mono ?_
 clear HER1
 clear x0 x1 x2 x3 x4 x5 y0 y1 y2 y3 y4 y5
 rintro r w2 ⟨rfl,hb2⟩
 have HB2:=Lh (HB1.out.trans (hb2.mono HB1.out.size))
 clear hb2
 cases e1 with
 | false =>
  simp only [Bool.false_and] at HV
  go_wp2
  go_ret
  exact ⟨qz HV.out.symm,HB.out.trans (HB2.out.mono HB.out.size)⟩
 | true =>
 rw [Bool.true_and] at HV
 obtain ⟨x0,x1,x2,x3,x4,x5,y0,y1,y2,y3,y4,y5⟩:=HC.out w2 HB2.out
 have he2:=HE2.out
 have he3:=HE3.out
 cases e2 with
 | false =>
  simp only [Bool.false_and] at HV
  go_wp2
  go_ret
  exact ⟨qz HV.out.symm,HB.out.trans (HB2.out.mono HB.out.size)⟩
 | true =>
 rw [Bool.true_and] at HV
 cases e3 with
 | false =>
  simp only [Bool.false_and] at HV
  go_wp2
  go_ret
  exact ⟨qz HV.out.symm,HB.out.trans (HB2.out.mono HB.out.size)⟩
 | true =>
 rw [Bool.true_and] at HV
 have HEA1:=Lh (HEA.out w2 HB2.out)
 clear HEA
 go_wp2_with fail
 refine HEA1.out.mono ?_
 clear HEA1
 clear x0 x1 x2 x3 x4 x5 y0 y1 y2 y3 y4 y5
 rintro r w3 ⟨rfl,hb3⟩
 have HB3:=Lh (HB2.out.trans (hb3.mono HB2.out.size))
 clear hb3
 go_wp2
 go_ret
 exact ⟨qz HV.out.symm,HB.out.trans (HB3.out.mono HB.out.size)⟩
end Go.Proofs.YthgembbgcbaghaaGreatDoor
