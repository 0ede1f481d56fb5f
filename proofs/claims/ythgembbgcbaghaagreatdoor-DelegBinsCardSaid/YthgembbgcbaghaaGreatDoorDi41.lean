/- The law DelegBins: the call returns true. Printed by gendelegbins.py. -/
import Derived.Test.YthgembbgcbaghaaGreatDoorDi40
import Derived.Test.YthgembbgcbaghaaGreatDoorDi26

namespace Go.Proofs.YthgembbgcbaghaaGreatDoor
open Go.RowKit Go.Shelf Go.Sort
set_option maxHeartbeats 8000000 in
set_option maxRecDepth 100000 in
theorem vW (w:World) (hT:Tabs w):Calls Tryz.prog 14 #[] w fun e w'=>e=.returned (.bool true)∧Below w.heap.size w w':=by
 have HT:=Lh (show ∀w':World,Below w.heap.size w w'→Tabs w' from fun w' h=>hT.below h)
 clear hT
 have HR1:=Lh (yX raN aq false w)
 go_enter Tryz.func14,Tryz.ntmps14
 go_wp2_with fail
 refine HR1.out.mono ?_
 clear HR1
 rintro e w1 ⟨a1,p1,rfl,hs1,hp1,hb1⟩
 have HN1:=Lh (show RoleIn w1 a1 p1 aq from ⟨hs1.carry (Nat.zero_le _) lz (fun _ _ _=>rfl),hp1.carry (Nat.zero_le _) lz (fun _ _ _=>rfl)⟩)
 have HB1:=Lh hb1
 clear hs1 hp1 hb1
 have HR2:=Lh (yX bbN r8 true w1)
 go_wp2_with fail
 refine HR2.out.mono ?_
 clear HR2
 rintro e w2 ⟨a2,p2,rfl,hs1,hp1,hb1⟩
 have HN2:=Lh (show RoleIn w2 a2 p2 r8 from ⟨hs1.carry (Nat.zero_le _) lz (fun _ _ _=>rfl),hp1.carry (Nat.zero_le _) lz (fun _ _ _=>rfl)⟩)
 replace HN1:=Lh (HN1.out.below hb1)
 have HB2:=Lh (HB1.out.trans (hb1.mono HB1.out.size))
 clear hs1 hp1 hb1
 have HR3:=Lh (yX pcN kM false w2)
 go_wp2_with fail
 refine HR3.out.mono ?_
 clear HR3
 rintro e w3 ⟨a3,p3,rfl,hs1,hp1,hb1⟩
 have HN3:=Lh (show RoleIn w3 a3 p3 kM from ⟨hs1.carry (Nat.zero_le _) lz (fun _ _ _=>rfl),hp1.carry (Nat.zero_le _) lz (fun _ _ _=>rfl)⟩)
 replace HN1:=Lh (HN1.out.below hb1)
 replace HN2:=Lh (HN2.out.below hb1)
 have HB3:=Lh (HB2.out.trans (hb1.mono HB2.out.size))
 clear hs1 hp1 hb1
 have hz3:((w3.alloc (.cells #[.string raN,.int .i64 1,.slice (some ⟨a1,0,none⟩) 1 1,.bool false,.slice (some ⟨p1,0,none⟩) 1 1,.slice none 0 0] 41)).alloc (.cells #[.string bbN,.int .i64 1,.slice (some ⟨a2,0,none⟩) 1 1,.bool true,.slice (some ⟨p2,0,none⟩) 1 1,.slice none 0 0] 41)).heap.size=w3.heap.size+1+1:=by simp
 obtain ⟨W4,hW4⟩:∃W4,W4=((w3.alloc (.cells #[.string raN,.int .i64 1,.slice (some ⟨a1,0,none⟩) 1 1,.bool false,.slice (some ⟨p1,0,none⟩) 1 1,.slice none 0 0] 41)).alloc (.cells #[.string bbN,.int .i64 1,.slice (some ⟨a2,0,none⟩) 1 1,.bool true,.slice (some ⟨p2,0,none⟩) 1 1,.slice none 0 0] 41)).alloc (.cells #[.string pcN,.int .i64 1,.slice (some ⟨a3,0,none⟩) 1 1,.bool false,.slice (some ⟨p3,0,none⟩) 1 1,.slice none 0 0] 41):=⟨_,rfl⟩
 have h1:W4.heap[w3.heap.size]?=some (.cells #[.string raN,.int .i64 1,.slice (some ⟨a1,0,none⟩) 1 1,.bool false,.slice (some ⟨p1,0,none⟩) 1 1,.slice none 0 0] 41 (0,0)):=by rw [hW4,Below.heap_alloc _ _ _ (by rw [hz3];omega)];exact zi w3 _ _
 have h2:W4.heap[w3.heap.size+1]?=some (.cells #[.string bbN,.int .i64 1,.slice (some ⟨a2,0,none⟩) 1 1,.bool true,.slice (some ⟨p2,0,none⟩) 1 1,.slice none 0 0] 41 (0,0)):=by rw [hW4,Below.heap_alloc _ _ _ (by rw [hz3];omega)];exact js w3 _ _
 have h3:W4.rowIs (w3.heap.size+1+1) 41 6 (qt (.string pcN) (.int .i64 1) (.slice (some ⟨a3,0,none⟩) 1 1) (.bool false) (.slice (some ⟨p3,0,none⟩) 1 1) (.slice none 0 0)):=by
  have:=xk ((w3.alloc (.cells #[.string raN,.int .i64 1,.slice (some ⟨a1,0,none⟩) 1 1,.bool false,.slice (some ⟨p1,0,none⟩) 1 1,.slice none 0 0] 41)).alloc (.cells #[.string bbN,.int .i64 1,.slice (some ⟨a2,0,none⟩) 1 1,.bool true,.slice (some ⟨p2,0,none⟩) 1 1,.slice none 0 0] 41)) (.string pcN) (.int .i64 1) (.slice (some ⟨a3,0,none⟩) 1 1) (.bool false) (.slice (some ⟨p3,0,none⟩) 1 1) (.slice none 0 0) 41
  rw [hz3,← hW4] at this
  exact this
 have HZ4:=Lh (show W4.heap.size=w3.heap.size+3 from by rw [hW4];simp)
 have HB4:=Lh (show Below w3.heap.size w3 W4 from by rw [hW4];exact (((Below.refl _ _).alloc lz _).alloc (by simp) _).alloc (by rw [hz3];omega) _)
 have HW4:=Lh hW4
 go_upto_region 2 with fail
 rw [← HW4.out]
 clear HW4 hW4 hz3
 have x0:=qq h1 (j:=0) rfl;have x1:=qq h1 (j:=1) rfl;have x2:=qq h1 (j:=2) rfl;have x3:=qq h1 (j:=3) rfl;have x4:=qq h1 (j:=4) rfl;have x5:=qq h1 (j:=5) rfl
 have y0:=qq h2 (j:=0) rfl;have y1:=qq h2 (j:=1) rfl;have y2:=qq h2 (j:=2) rfl;have y3:=qq h2 (j:=3) rfl;have y4:=qq h2 (j:=4) rfl;have y5:=qq h2 (j:=5) rfl
 obtain ⟨z0,z1,z2,z3,z4⟩:=rc5 h3;have z5:=h3.cell (i:=5) (by decide)
 simp only [qt] at z0 z1 z2 z3 z4 z5
 have H1:=Lh h1
 have H2:=Lh h2
 have H3:=Lh h3
 obtain ⟨W5,hW5⟩:∃W5,W5=(W4.alloc (.cells #[.string raN,.int .i64 1,.slice (some ⟨a1,0,none⟩) 1 1,.bool false,.slice (some ⟨p1,0,none⟩) 1 1,.slice none 0 0,.string bbN,.int .i64 1,.slice (some ⟨a2,0,none⟩) 1 1,.bool true,.slice (some ⟨p2,0,none⟩) 1 1,.slice none 0 0,.string pcN,.int .i64 1,.slice (some ⟨a3,0,none⟩) 1 1,.bool false,.slice (some ⟨p3,0,none⟩) 1 1,.slice none 0 0] 41)).alloc (.cells #[.slice none 0 0,.slice (some ⟨W4.heap.size,0,none⟩) 3 3,.int .i64 0,.slice none 0 0,.int .i64 0,.string ⟨#[]⟩] 35):=⟨_,rfl⟩
 have HB5:=Lh (show Below W4.heap.size W4 W5 from by rw [hW5];exact ((Below.refl _ _).alloc lz _).alloc (by simp) _)
 have HQ5:=Lh (show W5.heap[W4.heap.size]?=some (.cells #[.string raN,.int .i64 1,.slice (some ⟨a1,0,none⟩) 1 1,.bool false,.slice (some ⟨p1,0,none⟩) 1 1,.slice none 0 0,.string bbN,.int .i64 1,.slice (some ⟨a2,0,none⟩) 1 1,.bool true,.slice (some ⟨p2,0,none⟩) 1 1,.slice none 0 0,.string pcN,.int .i64 1,.slice (some ⟨a3,0,none⟩) 1 1,.bool false,.slice (some ⟨p3,0,none⟩) 1 1,.slice none 0 0] 41 (0,0)) from by rw [hW5];exact zi W4 _ _)
 have HD5:=Lh (show W5.heap[W4.heap.size+1]?=some (.cells #[.slice none 0 0,.slice (some ⟨W4.heap.size,0,none⟩) 3 3,.int .i64 0,.slice none 0 0,.int .i64 0,.string ⟨#[]⟩] 35 (0,0)) from by rw [hW5];exact js W4 _ _)
 have HZ5:=Lh (show W5.heap.size=W4.heap.size+2 from by rw [hW5];simp)
 have HW5:=Lh hW5
 clear h1 h2 h3 hW5
 go_upto_region 3 with fail
 rw [← HW5.out]
 clear HW5 x0 x1 x2 x3 x4 x5 y0 y1 y2 y3 y4 y5 z0 z1 z2 z3 z4 z5
 have hr5:=qj HB5.out H3.out H3.out.lt
 obtain ⟨z0,z1,z2,z3,z4⟩:=rc5 hr5;have z5:=hr5.cell (i:=5) (by decide)
 have f3:=hr5.frozen 3
 simp only [qt] at z0 z1 z2 z3 z4 z5
 obtain ⟨W6,hW6⟩:∃W6,W6=W5.setCell ⟨w3.heap.size+1+1,3,none⟩ (.bool true):=⟨_,rfl⟩
 have hr6:W6.rowIs (w3.heap.size+1+1) 41 6 (qt (.string pcN) (.int .i64 1) (.slice (some ⟨a3,0,none⟩) 1 1) (.bool true) (.slice (some ⟨p3,0,none⟩) 1 1) (.slice none 0 0)):=by
  rw [hW6]
  refine (hr5.set 3 _).congr fun j hj=>?_
  rcases j with _|_|_|_|_|_|j <;> first|rfl|omega
 have hs6:∀k,k≠w3.heap.size+1+1→W6.heap[k]?=W5.heap[k]?:=fun k hk=>by rw [hW6];exact Below.heap_setCell _ _ _ _ hk
 have HZ6:=Lh (show W6.heap.size=W5.heap.size from by rw [hW6];simp [World.setCell])
 have HB6:=Lh (show Below w3.heap.size w3 W6 from by rw [hW6];exact (HB4.out.trans (HB5.out.mono HB4.out.size)).setCell (by show w3.heap.size≤w3.heap.size+1+1;omega) _)
 have H16:=Lh ((hs6 w3.heap.size (by omega)).trans ((HB5.out.block _ (qx H1.out)).trans H1.out))
 have HQ6:=Lh ((hs6 W4.heap.size (by have:=HZ4.out;omega)).trans HQ5.out)
 have HD6:=Lh ((hs6 (W4.heap.size+1) (by have:=HZ4.out;omega)).trans HD5.out)
 have H36:=Lh hr6
 have HW6:=Lh hW6
 clear hr5 hr6 hs6 hW6
 go_upto_region 4 with fail
 rw [← HW6.out]
 clear HW6 z0 z1 z2 z3 z4 z5 f3 H1 H2 H3 HQ5 HD5
 have h1:=H16.out
 have h3:=H36.out
 have x0:=qq h1 (j:=0) rfl;have x1:=qq h1 (j:=1) rfl;have x2:=qq h1 (j:=2) rfl;have x3:=qq h1 (j:=3) rfl;have x4:=qq h1 (j:=4) rfl;have x5:=qq h1 (j:=5) rfl
 obtain ⟨z0,z1,z2,z3,z4⟩:=rc5 h3;have z5:=h3.cell (i:=5) (by decide)
 simp only [qt] at z0 z1 z2 z3 z4 z5
 obtain ⟨W7,hW7⟩:∃W7,W7=(W6.alloc (.cells #[.string pcN,.int .i64 1,.slice (some ⟨a3,0,none⟩) 1 1,.bool true,.slice (some ⟨p3,0,none⟩) 1 1,.slice none 0 0,.string raN,.int .i64 1,.slice (some ⟨a1,0,none⟩) 1 1,.bool false,.slice (some ⟨p1,0,none⟩) 1 1,.slice none 0 0] 41)).alloc (.cells #[.slice none 0 0,.slice (some ⟨W6.heap.size,0,none⟩) 2 2,.int .i64 0,.slice none 0 0,.int .i64 0,.string ⟨#[]⟩] 35):=⟨_,rfl⟩
 have hb7:Below W6.heap.size W6 W7:=by rw [hW7];exact ((Below.refl _ _).alloc lz _).alloc (by simp) _
 have hq7:W7.heap[W6.heap.size]?=some (.cells #[.string pcN,.int .i64 1,.slice (some ⟨a3,0,none⟩) 1 1,.bool true,.slice (some ⟨p3,0,none⟩) 1 1,.slice none 0 0,.string raN,.int .i64 1,.slice (some ⟨a1,0,none⟩) 1 1,.bool false,.slice (some ⟨p1,0,none⟩) 1 1,.slice none 0 0] 41 (0,0)):=by rw [hW7];exact zi W6 _ _
 have he7:W7.heap[W6.heap.size+1]?=some (.cells #[.slice none 0 0,.slice (some ⟨W6.heap.size,0,none⟩) 2 2,.int .i64 0,.slice none 0 0,.int .i64 0,.string ⟨#[]⟩] 35 (0,0)):=by rw [hW7];exact js W6 _ _
 have hd7:=(hb7.block _ (qx HD6.out)).trans HD6.out
 have hqq:=(hb7.block _ (qx HQ6.out)).trans HQ6.out
 have HB7:=Lh (HB6.out.trans (hb7.mono HB6.out.size))
 have HE:=Lh (show ∀w':World,Below W7.heap.size W7 w'→(DelegsIn w' 0 w'.heap.size exD none (some ⟨W4.heap.size,0,none⟩) none∧DelegsIn w' 0 w'.heap.size exE none (some ⟨W6.heap.size,0,none⟩) none∧Tabs w')∧(w'.cell? ⟨W4.heap.size+1,0,none⟩=some (.slice none 0 0)∧w'.cell? ⟨W4.heap.size+1,1,none⟩=some (.slice (some ⟨W4.heap.size,0,none⟩) 3 3)∧w'.cell? ⟨W4.heap.size+1,2,none⟩=some (.int .i64 0)∧w'.cell? ⟨W4.heap.size+1,3,none⟩=some (.slice none 0 0)∧w'.cell? ⟨W4.heap.size+1,4,none⟩=some (.int .i64 0)∧w'.cell? ⟨W4.heap.size+1,5,none⟩=some (.string ⟨#[]⟩))∧(w'.cell? ⟨W6.heap.size+1,0,none⟩=some (.slice none 0 0)∧w'.cell? ⟨W6.heap.size+1,1,none⟩=some (.slice (some ⟨W6.heap.size,0,none⟩) 2 2)∧w'.cell? ⟨W6.heap.size+1,2,none⟩=some (.int .i64 0)∧w'.cell? ⟨W6.heap.size+1,3,none⟩=some (.slice none 0 0)∧w'.cell? ⟨W6.heap.size+1,4,none⟩=some (.int .i64 0)∧w'.cell? ⟨W6.heap.size+1,5,none⟩=some (.string ⟨#[]⟩)) from fun w' h=>by
  have hb':=HB7.out.trans (h.mono HB7.out.size)
  have r1:=HN1.out.below hb'
  have r2:=HN2.out.below hb'
  have r3:=HN3.out.below hb'
  have k1:=(h.block _ (qx hqq)).trans hqq
  have k2:=(h.block _ (qx hq7)).trans hq7
  have k3:=(h.block _ (qx hd7)).trans hd7
  have k4:=(h.block _ (qx he7)).trans he7
  exact ⟨⟨⟨.inl rfl,rx k1 r1 r2 r3,.inl rfl⟩,⟨.inl rfl,rz k2 r3 r1,.inl rfl⟩,HT.out w' (HB3.out.trans (hb'.mono HB3.out.size))⟩,⟨qq k3 rfl,qq k3 rfl,qq k3 rfl,qq k3 rfl,qq k3 rfl,qq k3 rfl⟩,⟨qq k4 rfl,qq k4 rfl,qq k4 rfl,qq k4 rfl,qq k4 rfl,qq k4 rfl⟩⟩)
 have HW7:=Lh hW7
 have HBW:=Lh (HB3.out.trans (HB7.out.mono HB3.out.size))
 have HPOS:=Lh (show 0<W7.heap.size from Nat.lt_of_le_of_lt (Nat.zero_le _) (qx he7))
 clear h1 h3 hW7 hb7 hq7 he7 hd7 hqq
 go_upto_region 5 with fail
 rw [← HW7.out]
 clear HW7 x0 x1 x2 x3 x4 x5 z0 z1 z2 z3 z4 z5 H16 H36 HQ6 HD6 HB4 HB5 HB6 HN1 HN2 HN3
 obtain ⟨⟨i1,i2,i3⟩,⟨d0,d1,d2,d3,d4,d5⟩,-⟩:=HE.out W7 (Below.refl _ _)
 have HV:=Lh (aW W4.heap.size W7 i1 i3)
 clear i1 i2 i3
 go_wp2_with fail
 refine HV.out.mono ?_
 clear HV d0 d1 d2 d3 d4 d5
 rintro e w8 ⟨an,cn,ai,ci,rfl,hr8,hb8⟩
 obtain ⟨W9,hW9⟩:∃W9,W9=w8.alloc (.cells #[.int .u8 5,.int .i64 0,.string ⟨#[]⟩,.slice an 2 cn,.slice ai 2 ci] 25):=⟨_,rfl⟩
 have hb9:Below w8.heap.size w8 W9:=by rw [hW9];exact (Below.refl _ _).alloc lz _
 have hx9:W9.heap[w8.heap.size]?=some (.cells #[.int .u8 5,.int .i64 0,.string ⟨#[]⟩,.slice an 2 cn,.slice ai 2 ci] 25 (0,0)):=by rw [hW9];exact heap_alloc_new w8 _
 have HB9:=Lh (hb8.trans (hb9.mono hb8.size))
 have HOF:=Lh (iK _ W9 W7.heap.size HPOS.out (hr8.below hb9 lz lz hb9.size) (HE.out W9 HB9.out).1.2.2)
 obtain ⟨v0,v1,v2,v3,v4⟩:=bx5 hx9
 have HW9:=Lh hW9
 clear hb8 hr8 hb9 hx9 hW9
 go_upto_region 6 with fail
 rw [← HW9.out]
 clear HW9
 go_wp2_with fail
 refine HOF.out.mono ?_
 clear HOF v0 v1 v2 v3 v4
 rintro e w10 ⟨ka,kc,ra,rc,ba,bc,rfl,hi10,hb10⟩
 obtain ⟨W11,hW11⟩:∃W11,W11=w10.alloc (.cells #[.slice ka 0 kc,.slice ra 3 rc,.int .i64 0,.slice ba 0 bc,.int .i64 0,.string ⟨#[]⟩] 35):=⟨_,rfl⟩
 have hb11:Below w10.heap.size w10 W11:=by rw [hW11];exact (Below.refl _ _).alloc lz _
 have HX11:=Lh (show W11.heap[w10.heap.size]?=some (.cells #[.slice ka 0 kc,.slice ra 3 rc,.int .i64 0,.slice ba 0 bc,.int .i64 0,.string ⟨#[]⟩] 35 (0,0)) from by rw [hW11];exact heap_alloc_new w10 _)
 have HI11:=Lh (show aV W11 ka ra ba from hi10.below hb11 lz lz hb11.size)
 have HB11:=Lh (HB9.out.trans ((hb10.trans (hb11.mono hb10.size)).mono HB9.out.size))
 have HW11:=Lh hW11
 have HWH:=Lh (uU W11)
 clear hi10 hb10 hb11 hW11
 go_upto_region 7 with fail
 rw [← HW11.out]
 clear HW11
 go_wp2_with fail
 refine HWH.out.mono ?_
 clear HWH
 rintro e w12 ⟨g,rfl,hs12,hb12⟩
 obtain ⟨W13,hW13⟩:∃W13,W13=w12.alloc (.cells #[.slice none 0 0,.slice none 0 0,.int .i64 1,.slice (some ⟨g,0,none⟩) 1 1,.int .i64 2,.string ⟨#[112]⟩] 35):=⟨_,rfl⟩
 have hb13:Below w12.heap.size w12 W13:=by rw [hW13];exact (Below.refl _ _).alloc lz _
 have hb113:Below W11.heap.size W11 W13:=hb12.trans (hb13.mono hb12.size)
 have hx13:W13.heap[w12.heap.size]?=some (.cells #[.slice none 0 0,.slice none 0 0,.int .i64 1,.slice (some ⟨g,0,none⟩) 1 1,.int .i64 2,.string ⟨#[112]⟩] 35 (0,0)):=by rw [hW13];exact heap_alloc_new w12 _
 have HB13:=Lh (HB11.out.trans (hb113.mono HB11.out.size))
 have HF:=Lh (show ∀w':World,Below W13.heap.size W13 w'→(aV w' ka ra ba∧qk w' 0 w'.heap.size (some ⟨g,0,none⟩) [ya 97])∧(w'.cell? ⟨w10.heap.size,0,none⟩=some (.slice ka 0 kc)∧w'.cell? ⟨w10.heap.size,1,none⟩=some (.slice ra 3 rc)∧w'.cell? ⟨w10.heap.size,2,none⟩=some (.int .i64 0)∧w'.cell? ⟨w10.heap.size,3,none⟩=some (.slice ba 0 bc)∧w'.cell? ⟨w10.heap.size,4,none⟩=some (.int .i64 0)∧w'.cell? ⟨w10.heap.size,5,none⟩=some (.string ⟨#[]⟩))∧(w'.cell? ⟨w12.heap.size,0,none⟩=some (.slice none 0 0)∧w'.cell? ⟨w12.heap.size,1,none⟩=some (.slice none 0 0)∧w'.cell? ⟨w12.heap.size,2,none⟩=some (.int .i64 1)∧w'.cell? ⟨w12.heap.size,3,none⟩=some (.slice (some ⟨g,0,none⟩) 1 1)∧w'.cell? ⟨w12.heap.size,4,none⟩=some (.int .i64 2)∧w'.cell? ⟨w12.heap.size,5,none⟩=some (.string ⟨#[112]⟩)) from fun w' h=>by
  have hb':=hb113.trans (h.mono hb113.size)
  have k1:=(hb'.block _ (qx HX11.out)).trans HX11.out
  have k2:=(h.block _ (qx hx13)).trans hx13
  exact ⟨⟨HI11.out.below hb' lz lz hb'.size,(hs12.carry (Nat.zero_le _) lz (fun _ _ _=>rfl)).below (hb13.trans (h.mono hb13.size)) lz lz (Nat.le_trans hb13.size h.size)⟩,⟨qq k1 rfl,qq k1 rfl,qq k1 rfl,qq k1 rfl,qq k1 rfl,qq k1 rfl⟩,⟨qq k2 rfl,qq k2 rfl,qq k2 rfl,qq k2 rfl,qq k2 rfl,qq k2 rfl⟩⟩)
 have HBI:=Lh (tB g W13 (HE.out W13 HB13.out).1.2.2)
 have HW13:=Lh hW13
 clear hs12 hb12 hW13 hb13 hb113 hx13
 go_upto_region 8 with fail
 rw [← HW13.out]
 clear HW13
 obtain ⟨-,-,b0,b1,b2,b3,b4,b5⟩:=HF.out W13 (Below.refl _ _)
 go_wp2_with fail
 refine HBI.out.mono ?_
 clear HBI b0 b1 b2 b3 b4 b5
 rintro e w14 ⟨rfl,hb14⟩
 obtain ⟨S,hS⟩:∃S,S=binS:=⟨_,rfl⟩
 rw [← hS]
 have HS:=Lh hS
 have HF14:=Lh hb14
 have HB14:=Lh (HB13.out.trans (hb14.mono HB13.out.size))
 clear hb14 hS
 go_upto_region 9 with fail
 obtain ⟨W15,hW15⟩:∃W15,W15=w14.alloc (.cells #[.string ⟨#[97]⟩,.string ⟨#[99]⟩] 9):=⟨_,rfl⟩
 have hb':Below w14.heap.size w14 W15:=by rw [hW15];exact (Below.refl _ _).alloc lz _
 have hg':W15.heap[w14.heap.size]?=some (.cells #[.string ⟨#[97]⟩,.string ⟨#[99]⟩] 9 (0,0)):=by rw [hW15];exact heap_alloc_new w14 _
 have HA15:=Lh (HB14.out.trans (hb'.mono HB14.out.size))
 have HC15:=Lh (HF14.out.trans (hb'.mono HF14.out.size))
 have HM:=Lh (mc W4.heap.size w14.heap.size kM [raN,pcN] W15 (HE.out W15 HA15.out).1.1 (rj hg') (by decide) (by decide) vZ.1 (HE.out W15 HA15.out).1.2.2)
 have HW15:=Lh hW15
 clear hb' hg' hW15
 obtain ⟨-,⟨d0,d1,d2,d3,d4,d5⟩,-⟩:=HE.out w14 HB14.out
 go_wp2_with fail
 rw [← HW15.out]
 refine HM.out.mono ?_
 clear HM HW15 d0 d1 d2 d3 d4 d5
 rintro e w16 ⟨rfl,hb'⟩
 have HB16:=Lh (HA15.out.trans (hb'.mono HA15.out.size))
 have HF16:=Lh (HC15.out.trans (hb'.mono HC15.out.size))
 clear hb'
 obtain ⟨W17,hW17⟩:∃W17,W17=w16.alloc (.cells #[.string ⟨#[98]⟩] 9):=⟨_,rfl⟩
 have hb':Below w16.heap.size w16 W17:=by rw [hW17];exact (Below.refl _ _).alloc lz _
 have hg':W17.heap[w16.heap.size]?=some (.cells #[.string ⟨#[98]⟩] 9 (0,0)):=by rw [hW17];exact heap_alloc_new w16 _
 have HA17:=Lh (HB16.out.trans (hb'.mono HB16.out.size))
 have HC17:=Lh (HF16.out.trans (hb'.mono HF16.out.size))
 have HM:=Lh (mc W4.heap.size w16.heap.size pzN [bbN] W17 (HE.out W17 HA17.out).1.1 (yW hg') (by decide) (by decide) vZ.2.1 (HE.out W17 HA17.out).1.2.2)
 have HW17:=Lh hW17
 clear hb' hg' hW17
 obtain ⟨-,⟨d0,d1,d2,d3,d4,d5⟩,-⟩:=HE.out w16 HB16.out
 go_wp2_with fail
 rw [← HW17.out]
 refine HM.out.mono ?_
 clear HM HW17 d0 d1 d2 d3 d4 d5
 rintro e w18 ⟨rfl,hb'⟩
 have HB18:=Lh (HA17.out.trans (hb'.mono HA17.out.size))
 have HF18:=Lh (HC17.out.trans (hb'.mono HC17.out.size))
 clear hb'
 obtain ⟨W19,hW19⟩:∃W19,W19=w18.alloc (.cells #[.string ⟨#[99]⟩] 9):=⟨_,rfl⟩
 have hb':Below w18.heap.size w18 W19:=by rw [hW19];exact (Below.refl _ _).alloc lz _
 have hg':W19.heap[w18.heap.size]?=some (.cells #[.string ⟨#[99]⟩] 9 (0,0)):=by rw [hW19];exact heap_alloc_new w18 _
 have HA19:=Lh (HB18.out.trans (hb'.mono HB18.out.size))
 have HC19:=Lh (HF18.out.trans (hb'.mono HF18.out.size))
 have HM:=Lh (se W6.heap.size w18.heap.size kM [pcN] W19 (HE.out W19 HA19.out).1.2.1 (yW hg') (by decide) (by decide) vZ.2.2.1 (HE.out W19 HA19.out).1.2.2)
 have HW19:=Lh hW19
 clear hb' hg' hW19
 obtain ⟨-,-,d0,d1,d2,d3,d4,d5⟩:=HE.out w18 HB18.out
 go_wp2_with fail
 rw [← HW19.out]
 refine HM.out.mono ?_
 clear HM HW19 d0 d1 d2 d3 d4 d5
 rintro e w20 ⟨rfl,hb'⟩
 have HB20:=Lh (HA19.out.trans (hb'.mono HA19.out.size))
 have HF20:=Lh (HC19.out.trans (hb'.mono HC19.out.size))
 clear hb'
 have HSM:=Lh (tG ka ra ba kc rc bc W4.heap.size w20 (HF.out w20 HF20.out).1.1 (HE.out w20 HB20.out).1.1)
 obtain ⟨-,⟨d0,d1,d2,d3,d4,d5⟩,-⟩:=HE.out w20 HB20.out
 obtain ⟨-,⟨o0,o1,o2,o3,o4,o5⟩,-⟩:=HF.out w20 HF20.out
 go_wp2_with fail
 refine HSM.out.mono ?_
 clear HSM d0 d1 d2 d3 d4 d5 o0 o1 o2 o3 o4 o5
 rintro e w21 ⟨rfl,hb'⟩
 have HB21:=Lh (HB20.out.trans (hb'.mono HB20.out.size))
 have HF21:=Lh (HF20.out.trans (hb'.mono HF20.out.size))
 clear hb'
 obtain ⟨W22,hW22⟩:∃W22,W22=w21.alloc (.cells #[.string S] 9):=⟨_,rfl⟩
 have hb':Below w21.heap.size w21 W22:=by rw [hW22];exact (Below.refl _ _).alloc lz _
 have hg':W22.heap[w21.heap.size]?=some (.cells #[.string S] 9 (0,0)):=by rw [hW22];exact heap_alloc_new w21 _
 have HA22:=Lh (HB21.out.trans (hb'.mono HB21.out.size))
 have HC22:=Lh (HF21.out.trans (hb'.mono HF21.out.size))
 have HM:=Lh (sQ g w21.heap.size W22 (HF.out W22 HC22.out).1.2 (by rw [← HS.out];exact yW hg') (HE.out W22 HA22.out).1.2.2)
 have HW22:=Lh hW22
 clear hb' hg' hW22
 obtain ⟨-,-,d0,d1,d2,d3,d4,d5⟩:=HF.out w21 HF21.out
 go_wp2_with fail
 rw [← HW22.out]
 refine HM.out.mono ?_
 clear HM HW22 d0 d1 d2 d3 d4 d5
 rintro e w23 ⟨rfl,hb'⟩
 have HB23:=Lh (HA22.out.trans (hb'.mono HA22.out.size))
 have HF23:=Lh (HC22.out.trans (hb'.mono HC22.out.size))
 clear hb'
 go_wp2
 go_ret
 exact ⟨rfl,HBW.out.trans (HB23.out.mono HBW.out.size)⟩
theorem da {T:Nat} {S:List StepV} {w w':World} {e:Ending} (h:pJ T S w e w'):∃y,e=.returned y∧az S w' y∧Below w.heap.size w w':=by
 obtain ⟨a,c,qs,rfl,hqs,hown,hb⟩:=h
 have hc:=(ItemsOwn.cells bv hown).2.1
 exact ⟨_,rfl,⟨a,c,rfl,hc,(zI.steps hown hqs).carry (Nat.zero_le _) lz (fun _ _ _=>rfl)⟩,hb⟩
theorem cF {l:List Key2} {b:BinsV} (h:qV ⟨l,[],b⟩=true) (h0:b.bits≠0):qD b=false∧zm b=0∧b.pre.size≤64:=by
 have hb:qD b=false:=by
  unfold qD
  exact decide_eq_false fun e=>h0 e.1
 rw [q7] at h
 unfold zo at h
 dsimp only at h
 rw [hb,if_neg (by decide)] at h
 simp only [Bool.and_eq_true] at h
 obtain ⟨p1,-,-,p4⟩:=xh h.2.2
 exact ⟨hb,p1,p4⟩
theorem vm {w n:World} {b:Nat} {o:Obj} (h:n=w.alloc o) (hb:b=w.heap.size):n.heap[b]?=some o:=by rw [h,hb];exact heap_alloc_new w _
theorem gz {w:World} {b T:Nat} {a0 a1 a2 a3:Value} (h:w.heap[b]?=some (.cells #[a0,a1,a2,a3] T (0,0))):w.cell? ⟨b,0,none⟩=some a0∧w.cell? ⟨b,1,none⟩=some a1∧w.cell? ⟨b,2,none⟩=some a2∧w.cell? ⟨b,3,none⟩=some a3:=⟨qq h rfl,qq h rfl,qq h rfl,qq h rfl⟩
theorem mr {w:World} {b T:Nat} {a0 a1 a2 a3 a4 a5:Value} (h:w.heap[b]?=some (.cells #[a0,a1,a2,a3,a4,a5] T (0,0))):w.cell? ⟨b,0,none⟩=some a0∧w.cell? ⟨b,1,none⟩=some a1∧w.cell? ⟨b,2,none⟩=some a2∧w.cell? ⟨b,3,none⟩=some a3∧w.cell? ⟨b,4,none⟩=some a4∧w.cell? ⟨b,5,none⟩=some a5:=⟨qq h rfl,qq h rfl,qq h rfl,qq h rfl,qq h rfl,qq h rfl⟩
set_option maxHeartbeats 8000000 in
set_option maxRecDepth 100000 in
theorem fF (l:List Key2) (t bits:Int) (ids:List ByteArray) (pre path:ByteArray) (ka ba:Option Addr) (kc bc:Nat) (w:World) (hK:zX w 0 w.heap.size ka l) (hlk:l.length≤9223372036854775807) (ht:-9223372036854775808≤t∧t≤9223372036854775807) (hbb:-9223372036854775808≤bits∧bits≤9223372036854775807)
 (hli:ids.length≤9223372036854775807) (hB:qk w 0 w.heap.size ba ids) (hT:Tabs w) :
 Calls Tryz.prog 11 #[.slice ka l.length kc,.agg #[.int .i64 t,.slice ba ids.length bc,.int .i64 bits,.string pre],.string path] w fun e w'=>e=.returned (.bool true)∧Below w.heap.size w w':=by
 have HTB:=Lh (show ∀w':World,Below w.heap.size w w'→Tabs w' from fun w' h=>hT.below h)
 have HB:=Lh (Below.refl w.heap.size w)
 have HI:=Lh (show DelegsIn w 0 w.heap.size ⟨l,[],⟨bits,pre,⟨t,ids⟩⟩⟩ ka none ba from ⟨hK,.inl rfl,hB⟩)
 have HFT:=Lh (show NotLongD ⟨l,[],⟨bits,pre,⟨t,ids⟩⟩⟩→DelegsFits ⟨l,[],⟨bits,pre,⟨t,ids⟩⟩⟩ from fun h=>gv h hbb ht (fun x hx=>(by cases hx)))
 have HGL:=Lh (And.intro hlk hli)
 clear hT hK hB hlk hli ht hbb
 go_enter Tryz.func11,Tryz.ntmps11
 obtain ⟨bB,hbB⟩:∃bB,bB=w.heap.size:=⟨_,rfl⟩
 obtain ⟨w1,hw1⟩:∃w1,w1=w.alloc (.cells #[.int .i64 t,.slice ba ids.length bc,.int .i64 bits,.string pre] 33):=⟨_,rfl⟩
 have hbx:Below w.heap.size w w1:=by rw [hw1];exact (Below.refl _ _).alloc lz _
 have HXB:=Lh (vm hw1 hbB)
 replace HB:=Lh (HB.out.trans (hbx.mono HB.out.size))
 replace HI:=Lh (HI.out.below hbx lz lz hbx.size)
 have Hw1:=Lh (And.intro hw1 hbB)
 clear hbx hw1 hbB
 go_upto_region 1 with fail
 rw [← Hw1.out.1,← Hw1.out.2]
 clear Hw1
 obtain ⟨xB0,xB1,xB2,xB3⟩:=gz HXB.out
 obtain ⟨bD,hbD⟩:∃bD,bD=w1.heap.size:=⟨_,rfl⟩
 obtain ⟨w2,hw2⟩:∃w2,w2=w1.alloc (.cells #[.slice ka l.length kc,.slice none 0 0,.int .i64 t,.slice ba ids.length bc,.int .i64 bits,.string pre] 35):=⟨_,rfl⟩
 have hbx:Below w1.heap.size w1 w2:=by rw [hw2];exact (Below.refl _ _).alloc lz _
 have HXD:=Lh (vm hw2 hbD)
 replace HB:=Lh (HB.out.trans (hbx.mono HB.out.size))
 replace HXB:=Lh ((hbx.block _ (qx HXB.out)).trans HXB.out)
 replace HI:=Lh (HI.out.below hbx lz lz hbx.size)
 have Hw2:=Lh (And.intro hw2 hbD)
 clear hbx hw2 hbD
 go_upto_region 2 with fail
 rw [← Hw2.out.1,← Hw2.out.2]
 clear Hw2
 clear xB0 xB1 xB2 xB3
 obtain ⟨xD0,xD1,xD2,xD3,xD4,xD5⟩:=mr HXD.out
 go_wp2_with fail
 refine (lQ l [] t bits ids pre ka none ba kc 0 bc w2 HI.out HGL.out.1 (by simp) (fun x hx=>(by cases hx)) HGL.out.2).mono ?_
 clear xD0 xD1 xD2 xD3 xD4 xD5
 rintro ee w3 ⟨b,rfl,hn,hb⟩
 replace HB:=Lh (HB.out.trans (hb.mono HB.out.size))
 replace HXB:=Lh ((hb.block _ (qx HXB.out)).trans HXB.out)
 replace HXD:=Lh ((hb.block _ (qx HXD.out)).trans HXD.out)
 replace HI:=Lh (HI.out.below hb lz lz hb.size)
 have HN:=Lh hn
 clear hn hb
 cases b
 case true =>
  go_wp2_with fail
  refine (vW w3 (HTB.out w3 HB.out)).mono ?_
  rintro ee wz ⟨rfl,hz⟩
  have HBZ:=Lh (HB.out.trans (hz.mono HB.out.size))
  clear hz
  go_wp2
  go_ret
  exact ⟨rfl,HBZ.out⟩
 case false =>
  have HF:=Lh (HFT.out (HN.out rfl))
  clear HN HFT HGL
  by_cases hns:1000<path.size
  case pos =>
   have a1:decide ((1000:Int)<path.size)=true:=decide_eq_true (by omega)
   go_wp2_with fail
   refine (vW w3 (HTB.out w3 HB.out)).mono ?_
   rintro ee wz ⟨rfl,hz⟩
   have HBZ:=Lh (HB.out.trans (hz.mono HB.out.size))
   clear hz
   go_wp2
   go_ret
   exact ⟨rfl,HBZ.out⟩
  case neg =>
   have a1:decide ((1000:Int)<path.size)=false:=decide_eq_false (by omega)
   have HNS:=Lh (Nat.le_of_not_lt hns)
   clear hns
   obtain ⟨mb,hmb⟩:∃mb,mb=qV ⟨l,[],⟨bits,pre,⟨t,ids⟩⟩⟩:=⟨_,rfl⟩
   have HMC:=Lh (wE l [] t bits ids pre ka none ba kc 0 bc w3 HI.out HF.out lz (HTB.out w3 HB.out))
   rw [← hmb] at HMC
   have HMB:=Lh hmb
   clear hmb
   obtain ⟨xD0,xD1,xD2,xD3,xD4,xD5⟩:=mr HXD.out
   go_wp2_with fail
   refine (HMC.out).mono ?_
   clear xD0 xD1 xD2 xD3 xD4 xD5
   rintro ee w4 ⟨rfl,hb⟩
   replace HB:=Lh (HB.out.trans (hb.mono HB.out.size))
   replace HXB:=Lh ((hb.block _ (qx HXB.out)).trans HXB.out)
   replace HXD:=Lh ((hb.block _ (qx HXD.out)).trans HXD.out)
   replace HI:=Lh (HI.out.below hb lz lz hb.size)
   clear hb HMC
   cases mb
   case false =>
    go_wp2_with fail
    refine (vW w4 (HTB.out w4 HB.out)).mono ?_
    rintro ee wz ⟨rfl,hz⟩
    have HBZ:=Lh (HB.out.trans (hz.mono HB.out.size))
    clear hz
    go_wp2
    go_ret
    exact ⟨rfl,HBZ.out⟩
   case true =>
    by_cases hz:bits=0
    case pos =>
     have a2:(bits == 0)=true:=by simpa using hz
     clear hz
     obtain ⟨xB0,xB1,xB2,xB3⟩:=gz HXB.out
     go_wp2_with fail
     refine (vW w4 (HTB.out w4 HB.out)).mono ?_
     clear xB0 xB1 xB2 xB3
     rintro ee wz ⟨rfl,hz⟩
     have HBZ:=Lh (HB.out.trans (hz.mono HB.out.size))
     clear hz
     go_wp2
     go_ret
     exact ⟨rfl,HBZ.out⟩
    case neg =>
     have a2:(bits == 0)=false:=by simpa using hz
     obtain ⟨hnb,hwe,hps⟩:=cF HMB.out.symm hz
     obtain ⟨k,hk,hk1,hk2⟩:=bG hwe
     subst hk
     have HWE:=Lh hwe
     have HNB:=Lh hnb
     have HPS:=Lh (show pre.size≤64 from hps)
     have HK:=Lh (And.intro hk1 hk2)
     clear hz hwe hnb hps
     obtain ⟨pb,hpb⟩:∃pb,pb=qU path:=⟨_,rfl⟩
     have HPC:=Lh (vx path w4 (by have:=HNS.out;omega))
     rw [← hpb] at HPC
     have HPB:=Lh hpb
     clear hpb
     obtain ⟨xB0,xB1,xB2,xB3⟩:=gz HXB.out
     go_wp2_with fail
     refine (HPC.out).mono ?_
     clear xB0 xB1 xB2 xB3
     rintro ee w5 ⟨rfl,hb⟩
     replace HB:=Lh (HB.out.trans (hb.mono HB.out.size))
     replace HXB:=Lh ((hb.block _ (qx HXB.out)).trans HXB.out)
     replace HXD:=Lh ((hb.block _ (qx HXD.out)).trans HXD.out)
     replace HI:=Lh (HI.out.below hb lz lz hb.size)
     clear hb HPC
     cases pb
     case false =>
      go_wp2_with fail
      refine (vW w5 (HTB.out w5 HB.out)).mono ?_
      rintro ee wz ⟨rfl,hz⟩
      have HBZ:=Lh (HB.out.trans (hz.mono HB.out.size))
      clear hz
      go_wp2
      go_ret
      exact ⟨rfl,HBZ.out⟩
     case true =>
      go_wp2_with fail
      refine (vW w5 (HTB.out w5 HB.out)).mono ?_
      rintro ee w6 ⟨rfl,hb⟩
      replace HB:=Lh (HB.out.trans (hb.mono HB.out.size))
      replace HXB:=Lh ((hb.block _ (qx HXB.out)).trans HXB.out)
      replace HXD:=Lh ((hb.block _ (qx HXD.out)).trans HXD.out)
      replace HI:=Lh (HI.out.below hb lz lz hb.size)
      clear hb a1 a2
      go_upto_region 4 with fail
      obtain ⟨R,hR⟩:∃R,R=qT pre k (jD path k):=⟨_,rfl⟩
      obtain ⟨S,hS⟩:∃S:List StepV,S=[⟨R,⟨t,ids⟩,true⟩]:=⟨_,rfl⟩
      have HS1:=Lh (show zT runes ⟨l,[],⟨(k:Int),pre,⟨t,ids⟩⟩⟩ path=S from by rw [lm HMB.out.symm HNB.out HPB.out.symm,hS,hR];rfl)
      have HS2:=Lh (show (k:Int)≤6→zT runes ⟨l,zc ⟨(k:Int),pre,⟨t,ids⟩⟩,binsZ⟩ path=S from fun h=>by rw [nY HMB.out.symm HNB.out h HPB.out.symm,hS,hR];rfl)
      have HL1:=Lh (show S.length=1 from by rw [hS];rfl)
      have HS0:=Lh (show ∀h:0<S.length,S[0]=⟨R,⟨t,ids⟩,true⟩ from fun h=>by subst hS;rfl)
      have HSI:=Lh (show ∀x ∈ S,x.au.ids.length≤4294967296 from fun x hx=>by
       rw [hS] at hx
       obtain rfl:x=⟨R,⟨t,ids⟩,true⟩:=by simpa using hx
       exact HF.out.au.2.1)
      have HRR:=Lh hR
      have HGC:=Lh (yK l [] t (k:Int) ids pre path ka none ba kc 0 bc w6 HI.out HF.out lz (by have:=HNS.out;omega) (HTB.out w6 HB.out))
      rw [HS1.out] at HGC
      have HGS:=Lh (HGC.out.mono fun e w2 h2=>da h2)
      clear hS hR HGC
      obtain ⟨xD0,xD1,xD2,xD3,xD4,xD5⟩:=mr HXD.out
      go_wp2_with fail
      refine (HGS.out).mono ?_
      clear xD0 xD1 xD2 xD3 xD4 xD5
      rintro ee w7 ⟨y,rfl,⟨z1,y1,rfl,hcz,hst⟩,hb⟩
      rw [HL1.out] at hcz ⊢
      replace HB:=Lh (HB.out.trans (hb.mono HB.out.size))
      replace HXB:=Lh ((hb.block _ (qx HXB.out)).trans HXB.out)
      replace HXD:=Lh ((hb.block _ (qx HXD.out)).trans HXD.out)
      replace HI:=Lh (HI.out.below hb lz lz hb.size)
      have HST:=Lh (show zd w7 0 w7.heap.size z1 S from hst)
      clear hst hb hcz HGS
      go_upto_region 5 with fail
      have HBG:=Lh (bP t k ids pre path ba bc w7 (by have:=HPS.out;omega) (by have:=HNS.out;omega) HWE.out HK.out.1 HK.out.2 (HTB.out w7 HB.out))
      rw [← HRR.out] at HBG
      obtain ⟨xB0,xB1,xB2,xB3⟩:=gz HXB.out
      go_wp2_with fail
      refine (HBG.out).mono ?_
      clear xB0 xB1 xB2 xB3
      rintro ee w8 ⟨rfl,hb⟩
      replace HB:=Lh (HB.out.trans (hb.mono HB.out.size))
      replace HXB:=Lh ((hb.block _ (qx HXB.out)).trans HXB.out)
      replace HXD:=Lh ((hb.block _ (qx HXD.out)).trans HXD.out)
      replace HI:=Lh (HI.out.below hb lz lz hb.size)
      replace HST:=Lh (HST.out.below hb lz lz hb.size)
      clear hb HBG
      go_upto_region 6 with fail
      obtain ⟨p,o,ha,-,hpb2,ja,jc,s0,s1,s2,s3,-,hss⟩:=HST.out.at 0 (by rw [HL1.out];decide)
      subst ha
      rw [HS0.out (by rw [HL1.out];decide)] at s0 s1 s2 s3 hss
      dsimp only at s0 s1 s2 s3 hss
      simp only [Nat.zero_mul,Nat.add_zero] at s0 s1 s2 s3
      have HTX:=Lh (fun n=>jU ids ids ja ba jc bc (w8.drewN n) (hss.carry (Nat.zero_le _) lz (fun _ _ _=>rfl)) (HI.out.bids.carry lz lz (fun _ _ _=>rfl)) HF.out.au.2.1)
      rw [decide_eq_true (show ids=ids from rfl)] at HTX
      have j4:(R.toList == R.toList)=true:=by simp
      have j5:(R.toList != R.toList)=false:=by simp
      have j7:(t != t)=false:=by simp
      clear hss
      obtain ⟨xB0,xB1,xB2,xB3⟩:=gz HXB.out
      go_wp2_with fail
      go_quiet ((go_at_call 35;with_reducible exact Calls.quiet_of (HTX.out _)))
      clear xB0 xB1 xB2 xB3
      clear s0 s1 s2 s3 j4 j5 j7 HTX
      obtain ⟨w9,hw9⟩:∃w9,w9=w8.drewN nq:=⟨_,rfl⟩
      have hb9:Below w8.heap.size w8 w9:=by rw [hw9];exact Below.drewN (Below.refl _ _) _
      rw [← hw9]
      clear hw9
      replace HB:=Lh (HB.out.trans (hb9.mono HB.out.size))
      replace HXB:=Lh ((hb9.block _ (qx HXB.out)).trans HXB.out)
      replace HXD:=Lh ((hb9.block _ (qx HXD.out)).trans HXD.out)
      replace HI:=Lh (HI.out.below hb9 lz lz hb9.size)
      replace HST:=Lh (HST.out.below hb9 lz lz hb9.size)
      clear hb9
      go_upto_region 8 with fail
      by_cases h6:k≤6
      case pos =>
       have HEX:=Lh (cJ t k ids pre ba bc w9 (by have:=HPS.out;omega) HWE.out HI.out.bids HF.out.au.2.1 HK.out.1 h6)
       have H6:=Lh (show (k:Int)≤6 by omega)
       clear h6
       obtain ⟨nA,hnA⟩:∃nA,nA=(zc ⟨(k:Int),pre,⟨t,ids⟩⟩).length:=⟨_,rfl⟩
       rw [← hnA] at HEX
       have HNA:=Lh hnA
       clear hnA
       obtain ⟨xB0,xB1,xB2,xB3⟩:=gz HXB.out
       go_wp2_with fail
       refine (HEX.out).mono ?_
       clear xB0 xB1 xB2 xB3
       rintro ee wa ⟨a9,c9,rfl,hc9,hrow,hb⟩
       replace HB:=Lh (HB.out.trans (hb.mono HB.out.size))
       replace HXB:=Lh ((hb.block _ (qx HXB.out)).trans HXB.out)
       replace HXD:=Lh ((hb.block _ (qx HXD.out)).trans HXD.out)
       replace HI:=Lh (HI.out.below hb lz lz hb.size)
       replace HST:=Lh (HST.out.below hb lz lz hb.size)
       have HX:=Lh (show DelegsIn wa 0 wa.heap.size ⟨l,zc ⟨(k:Int),pre,⟨t,ids⟩⟩,binsZ⟩ ka a9 none from ⟨HI.out.keys,hrow.carry (Nat.zero_le _) lz (fun _ _ _=>rfl),.inl rfl⟩)
       have HC9:=Lh (show (zc ⟨(k:Int),pre,⟨t,ids⟩⟩).length≤c9 from by rw [← HNA.out];exact hc9)
       clear hrow hc9 hb HEX
       go_upto_region 11 with fail
       obtain ⟨bE,hbE⟩:∃bE,bE=wa.heap.size:=⟨_,rfl⟩
       obtain ⟨wb,hwb⟩:∃wb,wb=wa.alloc (.cells #[.slice ka l.length kc,.slice a9 nA c9,.int .i64 0,.slice none 0 0,.int .i64 0,.string ⟨#[]⟩] 35):=⟨_,rfl⟩
       have hbx:Below wa.heap.size wa wb:=by rw [hwb];exact (Below.refl _ _).alloc lz _
       have HXE:=Lh (vm hwb hbE)
       replace HB:=Lh (HB.out.trans (hbx.mono HB.out.size))
       replace HXB:=Lh ((hbx.block _ (qx HXB.out)).trans HXB.out)
       replace HXD:=Lh ((hbx.block _ (qx HXD.out)).trans HXD.out)
       replace HI:=Lh (HI.out.below hbx lz lz hbx.size)
       replace HST:=Lh (HST.out.below hbx lz lz hbx.size)
       replace HX:=Lh (HX.out.below hbx lz lz hbx.size)
       have Hwb:=Lh (And.intro hwb hbE)
       clear hbx hwb hbE
       go_upto_region 12 with fail
       rw [← Hwb.out.1,← Hwb.out.2]
       clear Hwb
       have HMX:=Lh (bX HMB.out.symm HNB.out H6.out)
       have HFX:=Lh (bM HMX.out)
       have HMC:=Lh (wE l (zc ⟨(k:Int),pre,⟨t,ids⟩⟩) 0 0 [] ⟨#[]⟩ ka a9 none kc c9 0 wb HX.out HFX.out HC9.out (HTB.out wb HB.out))
       rw [show qV ⟨l,zc ⟨(k:Int),pre,⟨t,ids⟩⟩,⟨0,⟨#[]⟩,⟨0,[]⟩⟩⟩=true from HMX.out,← HNA.out] at HMC
       obtain ⟨xE0,xE1,xE2,xE3,xE4,xE5⟩:=mr HXE.out
       go_wp2_with fail
       refine (HMC.out).mono ?_
       clear xE0 xE1 xE2 xE3 xE4 xE5
       rintro ee wc ⟨rfl,hb⟩
       replace HB:=Lh (HB.out.trans (hb.mono HB.out.size))
       replace HXB:=Lh ((hb.block _ (qx HXB.out)).trans HXB.out)
       replace HXD:=Lh ((hb.block _ (qx HXD.out)).trans HXD.out)
       replace HXE:=Lh ((hb.block _ (qx HXE.out)).trans HXE.out)
       replace HI:=Lh (HI.out.below hb lz lz hb.size)
       replace HST:=Lh (HST.out.below hb lz lz hb.size)
       replace HX:=Lh (HX.out.below hb lz lz hb.size)
       clear hb HMC
       have HGC:=Lh (yK l (zc ⟨(k:Int),pre,⟨t,ids⟩⟩) 0 0 [] ⟨#[]⟩ path ka a9 none kc c9 0 wc HX.out HFX.out HC9.out (by have:=HNS.out;omega) (HTB.out wc HB.out))
       rw [show zT runes ⟨l,zc ⟨(k:Int),pre,⟨t,ids⟩⟩,⟨0,⟨#[]⟩,⟨0,[]⟩⟩⟩ path=S from HS2.out H6.out,← HNA.out] at HGC
       have HGS:=Lh (HGC.out.mono fun e w2 h2=>da h2)
       clear HGC
       obtain ⟨xE0,xE1,xE2,xE3,xE4,xE5⟩:=mr HXE.out
       go_wp2_with fail
       refine (HGS.out).mono ?_
       clear xE0 xE1 xE2 xE3 xE4 xE5
       rintro ee wd ⟨y,rfl,⟨z2,y2,rfl,hcz,hst⟩,hb⟩
       rw [HL1.out] at hcz ⊢
       replace HB:=Lh (HB.out.trans (hb.mono HB.out.size))
       replace HXB:=Lh ((hb.block _ (qx HXB.out)).trans HXB.out)
       replace HXD:=Lh ((hb.block _ (qx HXD.out)).trans HXD.out)
       replace HXE:=Lh ((hb.block _ (qx HXE.out)).trans HXE.out)
       replace HI:=Lh (HI.out.below hb lz lz hb.size)
       replace HST:=Lh (HST.out.below hb lz lz hb.size)
       replace HX:=Lh (HX.out.below hb lz lz hb.size)
       have HS4:=Lh (show zd wd 0 wd.heap.size z2 S from hst)
       clear hst hb hcz HGS
       have HT1:=Lh (pF S z2 y2 wd HS4.out (by rw [HL1.out];decide))
       rw [HL1.out] at HT1
       go_wp2_with fail
       refine (HT1.out).mono ?_
       rintro ee we ⟨a1,c1,rfl,hst,hb⟩
       replace HB:=Lh (HB.out.trans (hb.mono HB.out.size))
       replace HXB:=Lh ((hb.block _ (qx HXB.out)).trans HXB.out)
       replace HXD:=Lh ((hb.block _ (qx HXD.out)).trans HXD.out)
       replace HXE:=Lh ((hb.block _ (qx HXE.out)).trans HXE.out)
       replace HI:=Lh (HI.out.below hb lz lz hb.size)
       replace HST:=Lh (HST.out.below hb lz lz hb.size)
       replace HX:=Lh (HX.out.below hb lz lz hb.size)
       replace HS4:=Lh (HS4.out.below hb lz lz hb.size)
       have HS5:=Lh (show zd we 0 we.heap.size a1 S from hst)
       clear hst hb HT1
       have HT1:=Lh (pF S _ y1 we HST.out (by rw [HL1.out];decide))
       rw [HL1.out] at HT1
       go_wp2_with fail
       refine (HT1.out).mono ?_
       rintro ee wf ⟨a2,c2,rfl,hst,hb⟩
       replace HB:=Lh (HB.out.trans (hb.mono HB.out.size))
       replace HXB:=Lh ((hb.block _ (qx HXB.out)).trans HXB.out)
       replace HXD:=Lh ((hb.block _ (qx HXD.out)).trans HXD.out)
       replace HXE:=Lh ((hb.block _ (qx HXE.out)).trans HXE.out)
       replace HI:=Lh (HI.out.below hb lz lz hb.size)
       replace HST:=Lh (HST.out.below hb lz lz hb.size)
       replace HX:=Lh (HX.out.below hb lz lz hb.size)
       replace HS4:=Lh (HS4.out.below hb lz lz hb.size)
       replace HS5:=Lh (HS5.out.below hb lz lz hb.size)
       have HS6:=Lh (show zd wf 0 wf.heap.size a2 S from hst)
       clear hst hb HT1
       have HSM:=Lh (cP S S a1 a2 c1 c2 wf HS5.out HS6.out (by rw [HL1.out];decide) HSI.out HSI.out)
       rw [decide_eq_true (show S=S from rfl),HL1.out] at HSM
       go_wp2_with fail
       refine (HSM.out).mono ?_
       rintro ee wg ⟨rfl,hb⟩
       have HBZ:=Lh (HB.out.trans (hb.mono HB.out.size))
       clear hb HSM
       go_wp2
       go_ret
       exact ⟨rfl,HBZ.out⟩
      case neg =>
       have HEX:=Lh (bF t k ids pre ba bc w9 (by have:=HPS.out;omega) HWE.out (by omega) HK.out.2)
       have g1:decide ((6:Int)<(k:Int))=true:=decide_eq_true (by omega)
       have g2:decide ((k:Int) > 6)=true:=decide_eq_true (by omega)
       have HG:=Lh (And.intro g1 g2)
       clear h6 g1 g2
       obtain ⟨xB0,xB1,xB2,xB3⟩:=gz HXB.out
       go_wp2_with fail
       refine (HEX.out).mono ?_
       clear xB0 xB1 xB2 xB3
       rintro ee wa ⟨rfl,hb⟩
       replace HB:=Lh (HB.out.trans (hb.mono HB.out.size))
       replace HXB:=Lh ((hb.block _ (qx HXB.out)).trans HXB.out)
       replace HXD:=Lh ((hb.block _ (qx HXD.out)).trans HXD.out)
       replace HI:=Lh (HI.out.below hb lz lz hb.size)
       replace HST:=Lh (HST.out.below hb lz lz hb.size)
       clear hb HEX
       obtain ⟨g1,g2⟩:=HG.out
       obtain ⟨xB0,xB1,xB2,xB3⟩:=gz HXB.out
       go_wp2
       go_ret
       exact ⟨rfl,HB.out⟩
end Go.Proofs.YthgembbgcbaghaaGreatDoor
