/- deleg.Value, with what lies apart. Printed by mkx.py. -/
import Derived.Test.YthgembbgcbaghaaGreatDoorDa39

namespace Go.Proofs.YthgembbgcbaghaaGreatDoor
open Go.RowKit Go.Shelf Go.Sort
set_option maxHeartbeats 8000000 in
set_option maxRecDepth 100000 in
theorem gd (w:World) (hT:Tabs w):Calls Tryz.prog 14 #[] w fun e w'=>e=.returned (.bool true)∧Below w.heap.size w w':=by
 have HT:=Lh (show ∀w':World,Below w.heap.size w w'→Tabs w' from fun w' h=>hT.below h)
 clear hT
 have HR1:=Lh (ye raN sW false w)
 go_enter Tryz.func14,Tryz.ntmps14
 go_wp2_with fail
 refine HR1.out.mono ?_
 clear HR1
 rintro e w1 ⟨a1,p1,rfl,hs1,hp1,hb1⟩
 have HN1:=Lh (show RoleIn w1 a1 p1 sW from ⟨hs1.carry (Nat.zero_le _) lz (fun _ _ _=>rfl),hp1.carry (Nat.zero_le _) lz (fun _ _ _=>rfl)⟩)
 have HB1:=Lh hb1
 clear hs1 hp1 hb1
 have HR2:=Lh (ye bbN rW true w1)
 go_wp2_with fail
 refine HR2.out.mono ?_
 clear HR2
 rintro e w2 ⟨a2,p2,rfl,hs1,hp1,hb1⟩
 have HN2:=Lh (show RoleIn w2 a2 p2 rW from ⟨hs1.carry (Nat.zero_le _) lz (fun _ _ _=>rfl),hp1.carry (Nat.zero_le _) lz (fun _ _ _=>rfl)⟩)
 replace HN1:=Lh (HN1.out.below hb1)
 have HB2:=Lh (HB1.out.trans (hb1.mono HB1.out.size))
 clear hs1 hp1 hb1
 have HR3:=Lh (ye pcN kB false w2)
 go_wp2_with fail
 refine HR3.out.mono ?_
 clear HR3
 rintro e w3 ⟨a3,p3,rfl,hs1,hp1,hb1⟩
 have HN3:=Lh (show RoleIn w3 a3 p3 kB from ⟨hs1.carry (Nat.zero_le _) lz (fun _ _ _=>rfl),hp1.carry (Nat.zero_le _) lz (fun _ _ _=>rfl)⟩)
 replace HN1:=Lh (HN1.out.below hb1)
 replace HN2:=Lh (HN2.out.below hb1)
 have HB3:=Lh (HB2.out.trans (hb1.mono HB2.out.size))
 clear hs1 hp1 hb1
 have hz3:((w3.alloc (.cells #[.string raN,.int .i64 1,.slice (some ⟨a1,0,none⟩) 1 1,.bool false,.slice (some ⟨p1,0,none⟩) 1 1,.slice none 0 0] 41)).alloc (.cells #[.string bbN,.int .i64 1,.slice (some ⟨a2,0,none⟩) 1 1,.bool true,.slice (some ⟨p2,0,none⟩) 1 1,.slice none 0 0] 41)).heap.size=w3.heap.size+1+1:=by simp
 obtain ⟨W4,hW4⟩:∃W4,W4=((w3.alloc (.cells #[.string raN,.int .i64 1,.slice (some ⟨a1,0,none⟩) 1 1,.bool false,.slice (some ⟨p1,0,none⟩) 1 1,.slice none 0 0] 41)).alloc (.cells #[.string bbN,.int .i64 1,.slice (some ⟨a2,0,none⟩) 1 1,.bool true,.slice (some ⟨p2,0,none⟩) 1 1,.slice none 0 0] 41)).alloc (.cells #[.string pcN,.int .i64 1,.slice (some ⟨a3,0,none⟩) 1 1,.bool false,.slice (some ⟨p3,0,none⟩) 1 1,.slice none 0 0] 41):=⟨_,rfl⟩
 have h1:W4.heap[w3.heap.size]?=some (.cells #[.string raN,.int .i64 1,.slice (some ⟨a1,0,none⟩) 1 1,.bool false,.slice (some ⟨p1,0,none⟩) 1 1,.slice none 0 0] 41 (0,0)):=by rw [hW4,Below.heap_alloc _ _ _ (by rw [hz3];omega)];exact zk w3 _ _
 have h2:W4.heap[w3.heap.size+1]?=some (.cells #[.string bbN,.int .i64 1,.slice (some ⟨a2,0,none⟩) 1 1,.bool true,.slice (some ⟨p2,0,none⟩) 1 1,.slice none 0 0] 41 (0,0)):=by rw [hW4,Below.heap_alloc _ _ _ (by rw [hz3];omega)];exact jl w3 _ _
 have h3:W4.rowIs (w3.heap.size+1+1) 41 6 (qo (.string pcN) (.int .i64 1) (.slice (some ⟨a3,0,none⟩) 1 1) (.bool false) (.slice (some ⟨p3,0,none⟩) 1 1) (.slice none 0 0)):=by
  have:=z8 ((w3.alloc (.cells #[.string raN,.int .i64 1,.slice (some ⟨a1,0,none⟩) 1 1,.bool false,.slice (some ⟨p1,0,none⟩) 1 1,.slice none 0 0] 41)).alloc (.cells #[.string bbN,.int .i64 1,.slice (some ⟨a2,0,none⟩) 1 1,.bool true,.slice (some ⟨p2,0,none⟩) 1 1,.slice none 0 0] 41)) (.string pcN) (.int .i64 1) (.slice (some ⟨a3,0,none⟩) 1 1) (.bool false) (.slice (some ⟨p3,0,none⟩) 1 1) (.slice none 0 0) 41
  rw [hz3,← hW4] at this
  exact this
 have HZ4:=Lh (show W4.heap.size=w3.heap.size+3 from by rw [hW4];simp)
 have HB4:=Lh (show Below w3.heap.size w3 W4 from by rw [hW4];exact (((Below.refl _ _).alloc lz _).alloc (by simp) _).alloc (by rw [hz3];omega) _)
 have HW4:=Lh hW4
 go_upto_region 2 with fail
 rw [← HW4.out]
 clear HW4 hW4 hz3
 have x0:=qq h1 (j:=0) rfl;have x1:=qq h1 (j:=1) rfl;have x2:=qq h1 (j:=2) rfl;have x3:=qq h1 (j:=3) rfl;have x4:=qq h1 (j:=4) rfl;have x5:=qq h1 (j:=5) rfl
 have y0:=qq h2 (j:=0) rfl;have y1:=qq h2 (j:=1) rfl;have y2:=qq h2 (j:=2) rfl;have y3:=qq h2 (j:=3) rfl;have y4:=qq h2 (j:=4) rfl;have y5:=qq h2 (j:=5) rfl
 obtain ⟨z0,z1,z2,z3,z4⟩:=rc5 h3;have z5:=h3.cell (i:=5) (by decide)
 simp only [qo] at z0 z1 z2 z3 z4 z5
 have H1:=Lh h1
 have H2:=Lh h2
 have H3:=Lh h3
 obtain ⟨W5,hW5⟩:∃W5,W5=(W4.alloc (.cells #[.string raN,.int .i64 1,.slice (some ⟨a1,0,none⟩) 1 1,.bool false,.slice (some ⟨p1,0,none⟩) 1 1,.slice none 0 0,.string bbN,.int .i64 1,.slice (some ⟨a2,0,none⟩) 1 1,.bool true,.slice (some ⟨p2,0,none⟩) 1 1,.slice none 0 0,.string pcN,.int .i64 1,.slice (some ⟨a3,0,none⟩) 1 1,.bool false,.slice (some ⟨p3,0,none⟩) 1 1,.slice none 0 0] 41)).alloc (.cells #[.slice none 0 0,.slice (some ⟨W4.heap.size,0,none⟩) 3 3,.int .i64 0,.slice none 0 0,.int .i64 0,.string ⟨#[]⟩] 35):=⟨_,rfl⟩
 have HB5:=Lh (show Below W4.heap.size W4 W5 from by rw [hW5];exact ((Below.refl _ _).alloc lz _).alloc (by simp) _)
 have HQ5:=Lh (show W5.heap[W4.heap.size]?=some (.cells #[.string raN,.int .i64 1,.slice (some ⟨a1,0,none⟩) 1 1,.bool false,.slice (some ⟨p1,0,none⟩) 1 1,.slice none 0 0,.string bbN,.int .i64 1,.slice (some ⟨a2,0,none⟩) 1 1,.bool true,.slice (some ⟨p2,0,none⟩) 1 1,.slice none 0 0,.string pcN,.int .i64 1,.slice (some ⟨a3,0,none⟩) 1 1,.bool false,.slice (some ⟨p3,0,none⟩) 1 1,.slice none 0 0] 41 (0,0)) from by rw [hW5];exact zk W4 _ _)
 have HD5:=Lh (show W5.heap[W4.heap.size+1]?=some (.cells #[.slice none 0 0,.slice (some ⟨W4.heap.size,0,none⟩) 3 3,.int .i64 0,.slice none 0 0,.int .i64 0,.string ⟨#[]⟩] 35 (0,0)) from by rw [hW5];exact jl W4 _ _)
 have HZ5:=Lh (show W5.heap.size=W4.heap.size+2 from by rw [hW5];simp)
 have HW5:=Lh hW5
 clear h1 h2 h3 hW5
 go_upto_region 3 with fail
 rw [← HW5.out]
 clear HW5 x0 x1 x2 x3 x4 x5 y0 y1 y2 y3 y4 y5 z0 z1 z2 z3 z4 z5
 have hr5:=qj HB5.out H3.out H3.out.lt
 obtain ⟨z0,z1,z2,z3,z4⟩:=rc5 hr5;have z5:=hr5.cell (i:=5) (by decide)
 have f3:=hr5.frozen 3
 simp only [qo] at z0 z1 z2 z3 z4 z5
 obtain ⟨W6,hW6⟩:∃W6,W6=W5.setCell ⟨w3.heap.size+1+1,3,none⟩ (.bool true):=⟨_,rfl⟩
 have hr6:W6.rowIs (w3.heap.size+1+1) 41 6 (qo (.string pcN) (.int .i64 1) (.slice (some ⟨a3,0,none⟩) 1 1) (.bool true) (.slice (some ⟨p3,0,none⟩) 1 1) (.slice none 0 0)):=by
  rw [hW6]
  refine (hr5.set 3 _).congr fun j hj=>?_
  rcases j with _|_|_|_|_|_|j <;> first|rfl|omega
 have hs6:∀k,k≠w3.heap.size+1+1→W6.heap[k]?=W5.heap[k]?:=fun k hk=>by rw [hW6];exact Below.heap_setCell _ _ _ _ hk
 have HZ6:=Lh (show W6.heap.size=W5.heap.size from by rw [hW6];simp [World.setCell])
 have HB6:=Lh (show Below w3.heap.size w3 W6 from by rw [hW6];exact (HB4.out.trans (HB5.out.mono HB4.out.size)).setCell (by show w3.heap.size≤w3.heap.size+1+1;omega) _)
 have H16:=Lh ((hs6 w3.heap.size (by omega)).trans ((HB5.out.block _ (qx H1.out)).trans H1.out))
 have HQ6:=Lh ((hs6 W4.heap.size (by have:=HZ4.out;omega)).trans HQ5.out)
 have HD6:=Lh ((hs6 (W4.heap.size+1) (by have:=HZ4.out;omega)).trans HD5.out)
 have H36:=Lh hr6
 have HW6:=Lh hW6
 clear hr5 hr6 hs6 hW6
 go_upto_region 4 with fail
 rw [← HW6.out]
 clear HW6 z0 z1 z2 z3 z4 z5 f3 H1 H2 H3 HQ5 HD5
 have h1:=H16.out
 have h3:=H36.out
 have x0:=qq h1 (j:=0) rfl;have x1:=qq h1 (j:=1) rfl;have x2:=qq h1 (j:=2) rfl;have x3:=qq h1 (j:=3) rfl;have x4:=qq h1 (j:=4) rfl;have x5:=qq h1 (j:=5) rfl
 obtain ⟨z0,z1,z2,z3,z4⟩:=rc5 h3;have z5:=h3.cell (i:=5) (by decide)
 simp only [qo] at z0 z1 z2 z3 z4 z5
 obtain ⟨W7,hW7⟩:∃W7,W7=(W6.alloc (.cells #[.string pcN,.int .i64 1,.slice (some ⟨a3,0,none⟩) 1 1,.bool true,.slice (some ⟨p3,0,none⟩) 1 1,.slice none 0 0,.string raN,.int .i64 1,.slice (some ⟨a1,0,none⟩) 1 1,.bool false,.slice (some ⟨p1,0,none⟩) 1 1,.slice none 0 0] 41)).alloc (.cells #[.slice none 0 0,.slice (some ⟨W6.heap.size,0,none⟩) 2 2,.int .i64 0,.slice none 0 0,.int .i64 0,.string ⟨#[]⟩] 35):=⟨_,rfl⟩
 have hb7:Below W6.heap.size W6 W7:=by rw [hW7];exact ((Below.refl _ _).alloc lz _).alloc (by simp) _
 have hq7:W7.heap[W6.heap.size]?=some (.cells #[.string pcN,.int .i64 1,.slice (some ⟨a3,0,none⟩) 1 1,.bool true,.slice (some ⟨p3,0,none⟩) 1 1,.slice none 0 0,.string raN,.int .i64 1,.slice (some ⟨a1,0,none⟩) 1 1,.bool false,.slice (some ⟨p1,0,none⟩) 1 1,.slice none 0 0] 41 (0,0)):=by rw [hW7];exact zk W6 _ _
 have he7:W7.heap[W6.heap.size+1]?=some (.cells #[.slice none 0 0,.slice (some ⟨W6.heap.size,0,none⟩) 2 2,.int .i64 0,.slice none 0 0,.int .i64 0,.string ⟨#[]⟩] 35 (0,0)):=by rw [hW7];exact jl W6 _ _
 have hd7:=(hb7.block _ (qx HD6.out)).trans HD6.out
 have hqq:=(hb7.block _ (qx HQ6.out)).trans HQ6.out
 have HB7:=Lh (HB6.out.trans (hb7.mono HB6.out.size))
 have HE:=Lh (show ∀w':World,Below W7.heap.size W7 w'→(DelegsIn w' 0 w'.heap.size exD none (some ⟨W4.heap.size,0,none⟩) none∧DelegsIn w' 0 w'.heap.size exE none (some ⟨W6.heap.size,0,none⟩) none∧Tabs w')∧(w'.cell? ⟨W4.heap.size+1,0,none⟩=some (.slice none 0 0)∧w'.cell? ⟨W4.heap.size+1,1,none⟩=some (.slice (some ⟨W4.heap.size,0,none⟩) 3 3)∧w'.cell? ⟨W4.heap.size+1,2,none⟩=some (.int .i64 0)∧w'.cell? ⟨W4.heap.size+1,3,none⟩=some (.slice none 0 0)∧w'.cell? ⟨W4.heap.size+1,4,none⟩=some (.int .i64 0)∧w'.cell? ⟨W4.heap.size+1,5,none⟩=some (.string ⟨#[]⟩))∧(w'.cell? ⟨W6.heap.size+1,0,none⟩=some (.slice none 0 0)∧w'.cell? ⟨W6.heap.size+1,1,none⟩=some (.slice (some ⟨W6.heap.size,0,none⟩) 2 2)∧w'.cell? ⟨W6.heap.size+1,2,none⟩=some (.int .i64 0)∧w'.cell? ⟨W6.heap.size+1,3,none⟩=some (.slice none 0 0)∧w'.cell? ⟨W6.heap.size+1,4,none⟩=some (.int .i64 0)∧w'.cell? ⟨W6.heap.size+1,5,none⟩=some (.string ⟨#[]⟩)) from fun w' h=>by
  have hb':=HB7.out.trans (h.mono HB7.out.size)
  have r1:=HN1.out.below hb'
  have r2:=HN2.out.below hb'
  have r3:=HN3.out.below hb'
  have k1:=(h.block _ (qx hqq)).trans hqq
  have k2:=(h.block _ (qx hq7)).trans hq7
  have k3:=(h.block _ (qx hd7)).trans hd7
  have k4:=(h.block _ (qx he7)).trans he7
  exact ⟨⟨⟨.inl rfl,lH k1 r1 r2 r3,.inl rfl⟩,⟨.inl rfl,lF k2 r3 r1,.inl rfl⟩,HT.out w' (HB3.out.trans (hb'.mono HB3.out.size))⟩,⟨qq k3 rfl,qq k3 rfl,qq k3 rfl,qq k3 rfl,qq k3 rfl,qq k3 rfl⟩,⟨qq k4 rfl,qq k4 rfl,qq k4 rfl,qq k4 rfl,qq k4 rfl,qq k4 rfl⟩⟩)
 have HW7:=Lh hW7
 have HBW:=Lh (HB3.out.trans (HB7.out.mono HB3.out.size))
 have HPOS:=Lh (show 0<W7.heap.size from Nat.lt_of_le_of_lt (Nat.zero_le _) (qx he7))
 clear h1 h3 hW7 hb7 hq7 he7 hd7 hqq
 go_upto_region 5 with fail
 rw [← HW7.out]
 clear HW7 x0 x1 x2 x3 x4 x5 z0 z1 z2 z3 z4 z5 H16 H36 HQ6 HD6 HB4 HB5 HB6 HN1 HN2 HN3
 obtain ⟨⟨i1,i2,i3⟩,⟨d0,d1,d2,d3,d4,d5⟩,-⟩:=HE.out W7 (Below.refl _ _)
 have HV:=Lh (s9 W4.heap.size W7 i1 i3)
 clear i1 i2 i3
 go_wp2_with fail
 refine HV.out.mono ?_
 clear HV d0 d1 d2 d3 d4 d5
 rintro e w8 ⟨an,cn,ai,ci,rfl,hr8,hb8⟩
 obtain ⟨W9,hW9⟩:∃W9,W9=w8.alloc (.cells #[.int .u8 5,.int .i64 0,.string ⟨#[]⟩,.slice an 2 cn,.slice ai 2 ci] 25):=⟨_,rfl⟩
 have hb9:Below w8.heap.size w8 W9:=by rw [hW9];exact (Below.refl _ _).alloc lz _
 have hx9:W9.heap[w8.heap.size]?=some (.cells #[.int .u8 5,.int .i64 0,.string ⟨#[]⟩,.slice an 2 cn,.slice ai 2 ci] 25 (0,0)):=by rw [hW9];exact heap_alloc_new w8 _
 have HB9:=Lh (hb8.trans (hb9.mono hb8.size))
 have HOF:=Lh (iz _ W9 W7.heap.size HPOS.out (hr8.below hb9 lz lz hb9.size) (HE.out W9 HB9.out).1.2.2)
 obtain ⟨v0,v1,v2,v3,v4⟩:=bx5 hx9
 have HW9:=Lh hW9
 clear hb8 hr8 hb9 hx9 hW9
 go_upto_region 6 with fail
 rw [← HW9.out]
 clear HW9
 go_wp2_with fail
 refine HOF.out.mono ?_
 clear HOF v0 v1 v2 v3 v4
 rintro e w10 ⟨ka,kc,ra,rc,ba,bc,rfl,hi10,hb10⟩
 obtain ⟨W11,hW11⟩:∃W11,W11=w10.alloc (.cells #[.slice ka 0 kc,.slice ra 3 rc,.int .i64 0,.slice ba 0 bc,.int .i64 0,.string ⟨#[]⟩] 35):=⟨_,rfl⟩
 have hb11:Below w10.heap.size w10 W11:=by rw [hW11];exact (Below.refl _ _).alloc lz _
 have HX11:=Lh (show W11.heap[w10.heap.size]?=some (.cells #[.slice ka 0 kc,.slice ra 3 rc,.int .i64 0,.slice ba 0 bc,.int .i64 0,.string ⟨#[]⟩] 35 (0,0)) from by rw [hW11];exact heap_alloc_new w10 _)
 have HI11:=Lh (show s8 W11 ka ra ba from hi10.below hb11 lz lz hb11.size)
 have HB11:=Lh (HB9.out.trans ((hb10.trans (hb11.mono hb10.size)).mono HB9.out.size))
 have HW11:=Lh hW11
 have HWH:=Lh (uB W11)
 clear hi10 hb10 hb11 hW11
 go_upto_region 7 with fail
 rw [← HW11.out]
 clear HW11
 go_wp2_with fail
 refine HWH.out.mono ?_
 clear HWH
 rintro e w12 ⟨g,rfl,hs12,hb12⟩
 obtain ⟨W13,hW13⟩:∃W13,W13=w12.alloc (.cells #[.slice none 0 0,.slice none 0 0,.int .i64 1,.slice (some ⟨g,0,none⟩) 1 1,.int .i64 2,.string ⟨#[112]⟩] 35):=⟨_,rfl⟩
 have hb13:Below w12.heap.size w12 W13:=by rw [hW13];exact (Below.refl _ _).alloc lz _
 have hb113:Below W11.heap.size W11 W13:=hb12.trans (hb13.mono hb12.size)
 have hx13:W13.heap[w12.heap.size]?=some (.cells #[.slice none 0 0,.slice none 0 0,.int .i64 1,.slice (some ⟨g,0,none⟩) 1 1,.int .i64 2,.string ⟨#[112]⟩] 35 (0,0)):=by rw [hW13];exact heap_alloc_new w12 _
 have HB13:=Lh (HB11.out.trans (hb113.mono HB11.out.size))
 have HF:=Lh (show ∀w':World,Below W13.heap.size W13 w'→(s8 w' ka ra ba∧qw w' 0 w'.heap.size (some ⟨g,0,none⟩) [yc 97])∧(w'.cell? ⟨w10.heap.size,0,none⟩=some (.slice ka 0 kc)∧w'.cell? ⟨w10.heap.size,1,none⟩=some (.slice ra 3 rc)∧w'.cell? ⟨w10.heap.size,2,none⟩=some (.int .i64 0)∧w'.cell? ⟨w10.heap.size,3,none⟩=some (.slice ba 0 bc)∧w'.cell? ⟨w10.heap.size,4,none⟩=some (.int .i64 0)∧w'.cell? ⟨w10.heap.size,5,none⟩=some (.string ⟨#[]⟩))∧(w'.cell? ⟨w12.heap.size,0,none⟩=some (.slice none 0 0)∧w'.cell? ⟨w12.heap.size,1,none⟩=some (.slice none 0 0)∧w'.cell? ⟨w12.heap.size,2,none⟩=some (.int .i64 1)∧w'.cell? ⟨w12.heap.size,3,none⟩=some (.slice (some ⟨g,0,none⟩) 1 1)∧w'.cell? ⟨w12.heap.size,4,none⟩=some (.int .i64 2)∧w'.cell? ⟨w12.heap.size,5,none⟩=some (.string ⟨#[112]⟩)) from fun w' h=>by
  have hb':=hb113.trans (h.mono hb113.size)
  have k1:=(hb'.block _ (qx HX11.out)).trans HX11.out
  have k2:=(h.block _ (qx hx13)).trans hx13
  exact ⟨⟨HI11.out.below hb' lz lz hb'.size,(hs12.carry (Nat.zero_le _) lz (fun _ _ _=>rfl)).below (hb13.trans (h.mono hb13.size)) lz lz (Nat.le_trans hb13.size h.size)⟩,⟨qq k1 rfl,qq k1 rfl,qq k1 rfl,qq k1 rfl,qq k1 rfl,qq k1 rfl⟩,⟨qq k2 rfl,qq k2 rfl,qq k2 rfl,qq k2 rfl,qq k2 rfl,qq k2 rfl⟩⟩)
 have HBI:=Lh (tk g W13 (HE.out W13 HB13.out).1.2.2)
 have HW13:=Lh hW13
 clear hs12 hb12 hW13 hb13 hb113 hx13
 go_upto_region 8 with fail
 rw [← HW13.out]
 clear HW13
 obtain ⟨-,-,b0,b1,b2,b3,b4,b5⟩:=HF.out W13 (Below.refl _ _)
 go_wp2_with fail
 refine HBI.out.mono ?_
 clear HBI b0 b1 b2 b3 b4 b5
 rintro e w14 ⟨rfl,hb14⟩
 obtain ⟨S,hS⟩:∃S,S=binS:=⟨_,rfl⟩
 rw [← hS]
 have HS:=Lh hS
 have HF14:=Lh hb14
 have HB14:=Lh (HB13.out.trans (hb14.mono HB13.out.size))
 clear hb14 hS
 go_upto_region 9 with fail
 obtain ⟨W15,hW15⟩:∃W15,W15=w14.alloc (.cells #[.string ⟨#[97]⟩,.string ⟨#[99]⟩] 9):=⟨_,rfl⟩
 have hb':Below w14.heap.size w14 W15:=by rw [hW15];exact (Below.refl _ _).alloc lz _
 have hg':W15.heap[w14.heap.size]?=some (.cells #[.string ⟨#[97]⟩,.string ⟨#[99]⟩] 9 (0,0)):=by rw [hW15];exact heap_alloc_new w14 _
 have HA15:=Lh (HB14.out.trans (hb'.mono HB14.out.size))
 have HC15:=Lh (HF14.out.trans (hb'.mono HF14.out.size))
 have HM:=Lh (mv W4.heap.size w14.heap.size kB [raN,pcN] W15 (HE.out W15 HA15.out).1.1 (lU hg') (by decide) (by decide) vQ.1 (HE.out W15 HA15.out).1.2.2)
 have HW15:=Lh hW15
 clear hb' hg' hW15
 obtain ⟨-,⟨d0,d1,d2,d3,d4,d5⟩,-⟩:=HE.out w14 HB14.out
 go_wp2_with fail
 rw [← HW15.out]
 refine HM.out.mono ?_
 clear HM HW15 d0 d1 d2 d3 d4 d5
 rintro e w16 ⟨rfl,hb'⟩
 have HB16:=Lh (HA15.out.trans (hb'.mono HA15.out.size))
 have HF16:=Lh (HC15.out.trans (hb'.mono HC15.out.size))
 clear hb'
 obtain ⟨W17,hW17⟩:∃W17,W17=w16.alloc (.cells #[.string ⟨#[98]⟩] 9):=⟨_,rfl⟩
 have hb':Below w16.heap.size w16 W17:=by rw [hW17];exact (Below.refl _ _).alloc lz _
 have hg':W17.heap[w16.heap.size]?=some (.cells #[.string ⟨#[98]⟩] 9 (0,0)):=by rw [hW17];exact heap_alloc_new w16 _
 have HA17:=Lh (HB16.out.trans (hb'.mono HB16.out.size))
 have HC17:=Lh (HF16.out.trans (hb'.mono HF16.out.size))
 have HM:=Lh (mv W4.heap.size w16.heap.size pzN [bbN] W17 (HE.out W17 HA17.out).1.1 (yW hg') (by decide) (by decide) vQ.2.1 (HE.out W17 HA17.out).1.2.2)
 have HW17:=Lh hW17
 clear hb' hg' hW17
 obtain ⟨-,⟨d0,d1,d2,d3,d4,d5⟩,-⟩:=HE.out w16 HB16.out
 go_wp2_with fail
 rw [← HW17.out]
 refine HM.out.mono ?_
 clear HM HW17 d0 d1 d2 d3 d4 d5
 rintro e w18 ⟨rfl,hb'⟩
 have HB18:=Lh (HA17.out.trans (hb'.mono HA17.out.size))
 have HF18:=Lh (HC17.out.trans (hb'.mono HC17.out.size))
 clear hb'
 obtain ⟨W19,hW19⟩:∃W19,W19=w18.alloc (.cells #[.string ⟨#[99]⟩] 9):=⟨_,rfl⟩
 have hb':Below w18.heap.size w18 W19:=by rw [hW19];exact (Below.refl _ _).alloc lz _
 have hg':W19.heap[w18.heap.size]?=some (.cells #[.string ⟨#[99]⟩] 9 (0,0)):=by rw [hW19];exact heap_alloc_new w18 _
 have HA19:=Lh (HB18.out.trans (hb'.mono HB18.out.size))
 have HC19:=Lh (HF18.out.trans (hb'.mono HF18.out.size))
 have HM:=Lh (nU W6.heap.size w18.heap.size kB [pcN] W19 (HE.out W19 HA19.out).1.2.1 (yW hg') (by decide) (by decide) vQ.2.2.1 (HE.out W19 HA19.out).1.2.2)
 have HW19:=Lh hW19
 clear hb' hg' hW19
 obtain ⟨-,-,d0,d1,d2,d3,d4,d5⟩:=HE.out w18 HB18.out
 go_wp2_with fail
 rw [← HW19.out]
 refine HM.out.mono ?_
 clear HM HW19 d0 d1 d2 d3 d4 d5
 rintro e w20 ⟨rfl,hb'⟩
 have HB20:=Lh (HA19.out.trans (hb'.mono HA19.out.size))
 have HF20:=Lh (HC19.out.trans (hb'.mono HC19.out.size))
 clear hb'
 have HSM:=Lh (tj ka ra ba kc rc bc W4.heap.size w20 (HF.out w20 HF20.out).1.1 (HE.out w20 HB20.out).1.1)
 obtain ⟨-,⟨d0,d1,d2,d3,d4,d5⟩,-⟩:=HE.out w20 HB20.out
 obtain ⟨-,⟨o0,o1,o2,o3,o4,o5⟩,-⟩:=HF.out w20 HF20.out
 go_wp2_with fail
 refine HSM.out.mono ?_
 clear HSM d0 d1 d2 d3 d4 d5 o0 o1 o2 o3 o4 o5
 rintro e w21 ⟨rfl,hb'⟩
 have HB21:=Lh (HB20.out.trans (hb'.mono HB20.out.size))
 have HF21:=Lh (HF20.out.trans (hb'.mono HF20.out.size))
 clear hb'
 obtain ⟨W22,hW22⟩:∃W22,W22=w21.alloc (.cells #[.string S] 9):=⟨_,rfl⟩
 have hb':Below w21.heap.size w21 W22:=by rw [hW22];exact (Below.refl _ _).alloc lz _
 have hg':W22.heap[w21.heap.size]?=some (.cells #[.string S] 9 (0,0)):=by rw [hW22];exact heap_alloc_new w21 _
 have HA22:=Lh (HB21.out.trans (hb'.mono HB21.out.size))
 have HC22:=Lh (HF21.out.trans (hb'.mono HF21.out.size))
 have HM:=Lh (nM g w21.heap.size W22 (HF.out W22 HC22.out).1.2 (by rw [← HS.out];exact yW hg') (HE.out W22 HA22.out).1.2.2)
 have HW22:=Lh hW22
 clear hb' hg' hW22
 obtain ⟨-,-,d0,d1,d2,d3,d4,d5⟩:=HF.out w21 HF21.out
 go_wp2_with fail
 rw [← HW22.out]
 refine HM.out.mono ?_
 clear HM HW22 d0 d1 d2 d3 d4 d5
 rintro e w23 ⟨rfl,hb'⟩
 have HB23:=Lh (HA22.out.trans (hb'.mono HA22.out.size))
 have HF23:=Lh (HC22.out.trans (hb'.mono HC22.out.size))
 clear hb'
 go_wp2
 go_ret
 exact ⟨rfl,HBW.out.trans (HB23.out.mono HBW.out.size)⟩
set_option maxHeartbeats 8000000 in
set_option maxRecDepth 100000 in
theorem fB (l:List Key2) (rs:List DelegV) (t bits:Int) (ids:List ByteArray) (pre:ByteArray) (ka ra ba:Option Addr) (kc rc bc:Nat) (w:World) (hI:DelegsIn w 0 w.heap.size ⟨l,rs,⟨bits,pre,⟨t,ids⟩⟩⟩ ka ra ba) (hm:zY ⟨l,rs,⟨bits,pre,⟨t,ids⟩⟩⟩=true) (hT:Tabs w) :
 Calls Tryz.prog 85 #[.agg #[.slice ka l.length kc,.slice ra rs.length rc,.int .i64 t,.slice ba ids.length bc,.int .i64 bits,.string pre]] w (pt (qg ⟨l,rs,⟨bits,pre,⟨t,ids⟩⟩⟩) w):=by
 have hm2:=hm
 rw [zB,Bool.and_eq_true] at hm2
 dsimp only at hm2
 obtain ⟨hk,hm2⟩:=hm2
 have HMK:=Lh hk
 have HM2:=Lh hm2
 have hklen:l.length≤32:=(qA.1 hk).1
 obtain ⟨W,hW⟩:∃W,W=(w.alloc (.cells #[.slice ka l.length kc,.slice ra rs.length rc,.int .i64 t,.slice ba ids.length bc,.int .i64 bits,.string pre] 35)).alloc (.cells #[.int .u8 0,.int .i64 0,.string ⟨#[]⟩,.slice none 0 0,.slice none 0 0] 25):=⟨_,rfl⟩
 have hz1:(w.alloc (.cells #[.slice ka l.length kc,.slice ra rs.length rc,.int .i64 t,.slice ba ids.length bc,.int .i64 bits,.string pre] 35)).heap.size=w.heap.size+1:=by simp
 have hb:Below w.heap.size w W:=by rw [hW];exact ((Below.refl _ _).alloc lz _).alloc (by simp) _
 have hx:W.heap[w.heap.size]?=some (.cells #[.slice ka l.length kc,.slice ra rs.length rc,.int .i64 t,.slice ba ids.length bc,.int .i64 bits,.string pre] 35 (0,0)):=by rw [hW];exact zk w _ _
 have hr0:W.rowIs (w.heap.size+1) 25 5 (qQ (.int .u8 0) (.int .i64 0) (.string ⟨#[]⟩) (.slice none 0 0) (.slice none 0 0)):=by
  have:=qp (w.alloc (.cells #[.slice ka l.length kc,.slice ra rs.length rc,.int .i64 t,.slice ba ids.length bc,.int .i64 bits,.string pre] 35)) (.int .u8 0) (.int .i64 0) (.string ⟨#[]⟩) (.slice none 0 0) (.slice none 0 0) 25
  rw [hz1,← hW] at this
  exact this
 have HC:=Lh (show ∀w':World,Below W.heap.size W w'→w'.cell? ⟨w.heap.size,0,none⟩=some (.slice ka l.length kc)∧w'.cell? ⟨w.heap.size,1,none⟩=some (.slice ra rs.length rc)∧w'.cell? ⟨w.heap.size,2,none⟩=some (.int .i64 t)∧w'.cell? ⟨w.heap.size,3,none⟩=some (.slice ba ids.length bc)∧w'.cell? ⟨w.heap.size,4,none⟩=some (.int .i64 bits)∧w'.cell? ⟨w.heap.size,5,none⟩=some (.string pre) from fun w' h=>by
  have y:=(h.block _ (qx hx)).trans hx
  exact ⟨qq y rfl,qq y rfl,qq y rfl,qq y rfl,qq y rfl,qq y rfl⟩)
 have HR0:=Lh hr0
 have HB:=Lh hb
 have HZ2:=Lh (show w.heap.size+2≤W.heap.size from hr0.lt)
 have HW:=Lh hW
 have HI:=Lh (show ∀w':World,Below W.heap.size W w'→DelegsIn w' 0 w'.heap.size ⟨l,rs,⟨bits,pre,⟨t,ids⟩⟩⟩ ka ra ba from fun w' h=>hI.below (hb.trans (h.mono hb.size)) lz lz (Nat.le_trans hb.size h.size))
 have HKT:=Lh (yX l ka kc W (HI.out W (Below.refl _ _)).keys hk (hT.below hb))
 have HNO:=Lh (fun w'=>jT t bits ids pre ba bc w')
 have HBO:=Lh (show ∀w':World,Below W.heap.size W w'→qI ⟨bits,pre,⟨t,ids⟩⟩=true→_ from fun w' h hmb=>kA bits t ids pre ba bc w' (HI.out w' h).bids hmb)
 have HJ:=Lh (show qg ⟨l,rs,⟨bits,pre,⟨t,ids⟩⟩⟩=jz (qF ⟨l,rs,⟨bits,pre,⟨t,ids⟩⟩⟩) from rfl)
 have HTW:=Lh (show (qT l).wt≤4294967296 from by
  have:=wW (m:=l) (fun k hk'=>by have:=wY ((qA.1 hk).2.1 k hk');omega)
  omega)
 obtain ⟨J,hJ⟩:∃J,J=qg ⟨l,rs,⟨bits,pre,⟨t,ids⟩⟩⟩:=⟨_,rfl⟩
 rw [← hJ] at HJ ⊢
 obtain ⟨nb,hnb⟩:∃nb,nb=zg ⟨bits,pre,⟨t,ids⟩⟩:=⟨_,rfl⟩
 rw [← hnb] at HNO HM2
 have HNB:=Lh hnb
 clear hW hb hx hr0 hz1 hI hm hm2 hk hJ hnb hT
 obtain ⟨q0,q1,q2,q3,q4,q5⟩:=HC.out W (Below.refl _ _)
 go_enter Tryz.func85,Tryz.ntmps85
 go_upto_region 1 with fail
 rw [← HW.out]
 clear HW
 go_wp2_with fail
 refine HKT.out.mono ?_
 clear HKT q0 q1 q2 q3 q4 q5
 rintro r w1 ⟨an,cn,ai,ci,rfl,hr1,hb1⟩
 obtain ⟨W2,hW2⟩:∃W2,W2=w1.alloc (.cells #[.int .u8 5,.int .i64 0,.string ⟨#[]⟩,.slice an l.length cn,.slice ai l.length ci] 25):=⟨_,rfl⟩
 have hb12:Below w1.heap.size w1 W2:=by rw [hW2];exact (Below.refl _ _).alloc lz _
 have hx2:W2.heap[w1.heap.size]?=some (.cells #[.int .u8 5,.int .i64 0,.string ⟨#[]⟩,.slice an l.length cn,.slice ai l.length ci] 25 (0,0)):=by rw [hW2];exact heap_alloc_new w1 _
 have HR1:=Lh hr1
 have HB1:=Lh hb1
 have HB12:=Lh hb12
 have HW2:=Lh hW2
 obtain ⟨z0,z1,z2,z3,z4⟩:=bx5 hx2
 clear hr1 hb1 hb12 hx2 hW2
 go_upto_region 2 with fail
 rw [← HW2.out]
 clear HW2
 obtain ⟨W3,hW3⟩:∃W3,W3=W2.alloc (.cells #[.string ⟨#[107,101,121,115]⟩,.int .u8 5,.int .i64 0,.string ⟨#[]⟩,.slice an l.length cn,.slice ai l.length ci] 169):=⟨_,rfl⟩
 have hb23:Below W2.heap.size W2 W3:=by rw [hW3];exact (Below.refl _ _).alloc lz _
 have hx3:W3.heap[W2.heap.size]?=some (.cells #[.string ⟨#[107,101,121,115]⟩,.int .u8 5,.int .i64 0,.string ⟨#[]⟩,.slice an l.length cn,.slice ai l.length ci] 169 (0,0)):=by rw [hW3];exact heap_alloc_new W2 _
 obtain ⟨g0,hg0⟩:∃g0,g0=W2.heap.size:=⟨_,rfl⟩
 have HG0:=Lh hg0
 have hb13:Below w1.heap.size w1 W3:=HB12.out.trans (hb23.mono HB12.out.size)
 have HM3:=Lh (show MemsAt W.heap.size W3 (.slice (some ⟨g0,0,none⟩) 1 1) [(⟨keysN,5,0,⟨#[]⟩,an,l.length,cn,ai,l.length,ci⟩:Mem)] [qT l] from by
  rw [hg0]
  exact MemsAt.one (⟨keysN,5,0,⟨#[]⟩,an,l.length,cn,ai,l.length,ci⟩:Mem) (qT l) W.heap.size w1.heap.size (Nat.le_trans HB1.out.size HB12.out.size) lz HB12.out.size (HR1.out.below hb13 lz lz lz) hx3)
 have HB3:=Lh (HB1.out.trans (hb13.mono HB1.out.size))
 have HW3:=Lh hW3
 clear hb23 hx3 hW3 hg0 hb13 HR1
 go_upto_region 3 with fail
 rw [← HW3.out,← HG0.out]
 clear HW3 z0 z1 z2 z3 z4
 obtain ⟨q0,q1,q2,q3,q4,q5⟩:=HC.out W3 HB3.out
 go_wp2_with fail
 refine (HNO.out _).mono ?_
 clear HNO q0 q1 q2 q3 q4 q5
 rintro r w4 ⟨rfl,hb4⟩
 have HM4:=Lh (HM3.out.below hb4)
 have HB4:=Lh (HB3.out.trans (hb4.mono HB3.out.size))
 obtain ⟨q0,q1,q2,q3,q4,q5⟩:=HC.out w4 HB4.out
 clear hb4 HM3 HB12
 obtain ⟨i1,hi1,hy0,hy1,hy2⟩:=info_parts js
 cases nb with
 | true =>
  have HMR:=Lh (show zq rs=true from HM2.out)
  have HALL:=Lh (show rs.length≤64∧∀x ∈ rs,qX x=true from by
   have h:=HMR.out
   unfold zq at h
   simp only [Bool.and_eq_true,decide_eq_true_eq] at h
   exact ⟨h.1.1,fun x hx=>List.all_eq_true.1 h.1.2 x hx⟩)
  replace HJ:=Lh (show J=jz [(keysN,qT l),(z7,zu (rs.map qb))] from by
   rw [HJ.out]
   unfold qF
   rw [if_pos HNB.out.symm])
  obtain ⟨i0,hi0,hz0,hz1,hz2⟩:=info_parts xv
  obtain ⟨nn,hnn⟩:∃nn,nn=rs.length:=⟨_,rfl⟩
  have HNN:=Lh hnn
  have hnl:nn≤64:=by rw [hnn];exact HALL.out.1
  rw [← hnn] at HC q1 ⊢
  clear hnn
  have h4z:W.heap.size≤w4.heap.size:=HB4.out.size
  go_upto_region 5 with (at_make;refine wpList_make_own _ rfl (.const (.int .i64 0)) (.tmp 25) 23 rfl W.heap.size 25 i0 _ 5 Tryz.underlying23 hi0 hz0 hz1 .i64 .i64 _ nn rfl rfl rfl (by rw [hz2];omega) (by unfold maxLen;omega) h4z ?_;intro w5 hown5 hgrow5;have HO5:=Lh hown5;have HB5:=Lh (below_grown (v:=.slice none 0 0) (Below.refl w4.heap.size w4) lz hgrow5 (fun b hb=>by cases hb));obtain ⟨q0,q1,q2,q3,q4,q5⟩:=HC.out w5 (HB4.out.trans (HB5.out.mono HB4.out.size));clear hown5 hgrow5)
  go_wp2_with fail
  go_loopw [6,8,30] (fun s6 _ i wr=>∃(k:Nat) (cs:List Value),k≤nn∧i=.int .i64 k∧wr.ownsRow W.heap.size 25 5 s6 k cs∧qM wr W.heap.size (fun b=>s6.ownBlock=some b) ((rs.take k).map qb) cs∧(∀b,s6.ownBlock=some b→w4.heap.size≤b)∧Below w4.heap.size w4 wr) (fun _ _ i _=>nn - (intOf i).toNat)
  case atStart=>exact ⟨0,[],by omega,rfl,HO5.out,by simpa using qM.nil _ _ _,fun b hb=>by simp only [Value.ownBlock,Option.some.injEq] at hb;omega,HB5.out⟩
  case round =>
   obtain ⟨k,cs,hk,rfl,hown,hrr,hblk,hbr⟩:=hrel
   have HO:=Lh hown
   have HRR:=Lh hrr
   have HBL:=Lh hblk
   have HBR:=Lh hbr
   have HBW:=Lh (HB4.out.trans (hbr.mono HB4.out.size))
   clear hown hrr hblk hbr HO5 HB5 q0 q1 q2 q3 q4 q5
   by_cases hlt:k<nn
   · have hkl:k<rs.length:=by rw [← HNN.out];exact hlt
     obtain ⟨b,o,ha,-,hbb,ia,ic,pa,pc,qa,qc,e0,e1,e2,e3,e4,e5,-,-,-,hin⟩:=(HI.out wr HBW.out).roles.at k hkl
     subst ha
     have m1:(0:Int)≤(k:Int):=by omega
     have m2:(k:Int)<(nn:Int):=by omega
     have m3:decide ((k:Int)<(nn:Int))=true:=by simpa using hlt
     have hmx:=HALL.out.2 rs[k] (List.getElem_mem hkl)
     have HTK:=Lh (show (rs.take (k+1)).map qb=(rs.take k).map qb ++ [qb rs[k]] from by rw [List.take_succ_eq_append_getElem hkl,List.map_append];rfl)
     obtain ⟨x,hx⟩:∃x,x=rs[k]:=⟨_,rfl⟩
     rw [← hx] at e0 e1 e2 e3 e4 e5 hin hmx HTK
     clear hx
     obtain ⟨nm,au,tm,ps,qs⟩:=x
     obtain ⟨thr,xid⟩:=au
     dsimp only at e0 e1 e2 e3 e4 e5
     obtain ⟨WX,hWX⟩:∃WX,WX=wr.alloc (.cells #[.string nm,.int .i64 thr,.slice ia xid.length ic,.bool tm,.slice pa ps.length pc,.slice qa qs.length qc] 41):=⟨_,rfl⟩
     have hbX:Below wr.heap.size wr WX:=by rw [hWX];exact (Below.refl _ _).alloc lz _
     have hxX:WX.heap[wr.heap.size]?=some (.cells #[.string nm,.int .i64 thr,.slice ia xid.length ic,.bool tm,.slice pa ps.length pc,.slice qa qs.length qc] 41 (0,0)):=by rw [hWX];exact heap_alloc_new wr _
     have z0:=qq hxX (j:=0) rfl;have z1:=qq hxX (j:=1) rfl;have z2:=qq hxX (j:=2) rfl;have z3:=qq hxX (j:=3) rfl;have z4:=qq hxX (j:=4) rfl;have z5:=qq hxX (j:=5) rfl
     have HRO:=Lh ((kS nm thr xid tm ps qs ia pa qa ic pc qc WX (hin.below hbX lz lz hbX.size) hmx).mono fun e w' h=>bH h rfl rfl rfl)
     unfold vm at HRO
     obtain ⟨u,hu⟩:∃u,u=qb ⟨nm,⟨thr,xid⟩,tm,ps,qs⟩:=⟨_,rfl⟩
     rw [← hu] at HRO HTK
     have HBX:=Lh hbX
     have HWX:=Lh hWX
     clear hbX hxX hWX hin hmx hu
     go_upto_region 8 with fail
     rw [← HWX.out]
     clear e0 e1 e2 e3 e4 e5 HWX
     go_wp2_with fail
     refine HRO.out.mono ?_
     clear HRO z0 z1 z2 z3 z4 z5
     rintro r w6 ⟨an3,cn3,ai3,ci3,rfl,hr6,hb6⟩
     have HR6:=Lh hr6
     have HB6:=Lh (HBX.out.trans (hb6.mono HBX.out.size))
     have HO6:=Lh (qB HO.out HB6.out)
     have HZ6:=Lh (show wr.heap.size≤WX.heap.size∧WX.heap.size≤w6.heap.size from ⟨HBX.out.size,hb6.size⟩)
     have h6z:W.heap.size≤w6.heap.size:=Nat.le_trans HBW.out.size HB6.out.size
     clear hr6 hb6
     go_wp2_with (at_builtin;refine wpList_append_lies _ rfl (.tmp 34) (.tmp 37) 23 rfl W.heap.size 25 i0 _ 5 80 Tryz.underlying23 hi0 hz0 hz1 hz2 rfl (by omega) u6 k cs rfl (HO6.out.alloc _) ⟨w6.heap.size,0,none⟩ 1 1 (Array.toList #[.int .u8 u.kind,.int .i64 u.n,.string u.t,.slice an3 u.names.length cn3,.slice ai3 u.items.length ci3]) rfl rfl (World.news_of_block (cs:=#[.int .u8 u.kind,.int .i64 u.n,.string u.t,.slice an3 u.names.length cn3,.slice ai3 u.items.length ci3]) (t:=25) (fr:=(0,0)) (heap_alloc_new w6 _)) (by simp [Value.oneCell']) (by omega) (by unfold maxLen;omega) (by omega) (by simp;omega) (w6.heap.size+1) (by simp) ?_;intro g cap w7 hown7 hgrow7 hat7 hlt7;have HO7:=Lh hown7;have HG7:=Lh hgrow7;have HA7:=Lh hat7;clear hown7 hgrow7 hat7)
     have hga:Below w6.heap.size w6 (w6.alloc (.cells #[.int .u8 u.kind,.int .i64 u.n,.string u.t,.slice an3 u.names.length cn3,.slice ai3 u.items.length ci3] 25)):=(Below.refl _ _).alloc lz _
     have HRN:=Lh (pO (cap:=cap) (k:=k) (g:=g) HO.out HRR.out HB6.out HBW.out.size HZ6.out.1 lz HR6.out hga HG7.out (by
      rcases HA7.out with h|h
      · exact .inl h
      · exact .inr (by omega)))
     have HBN:=Lh (below_grown ((HBR.out.trans (HB6.out.mono HBR.out.size)).trans (hga.mono (Nat.le_trans HBR.out.size HB6.out.size))) (by have:=HBR.out.size;have:=HB6.out.size;simp;omega) HG7.out (fun b hb=>HBL.out b hb))
     have HGN:=Lh (show w4.heap.size≤g from by
      rcases HA7.out with h|h
      · exact HBL.out g h
      · have:=HBR.out.size;have:=HB6.out.size;omega)
     clear hga HG7 HA7 HR6 HO6 HB6
     go_roundw
     case rel=>exact ⟨k+1,_,by omega,by go_num,HO7.out,by rw [HTK.out];exact HRN.out,fun b hb=>by simp only [Value.ownBlock,Option.some.injEq] at hb;have:=HGN.out;omega,HBN.out⟩
     case measure=>simp [intOf];omega
   · have m3:decide ((k:Int)<(nn:Int))=false:=by simpa using hlt
     have HNK:=Lh (show k=rs.length from by rw [← HNN.out];omega)
     have hni:rs.take k=rs:=List.take_of_length_le (by rw [HNK.out];exact Nat.le_refl _)
     have HVA:=Lh (show ∃a c,u6=.slice a k c∧qR wr W.heap.size wr.heap.size a (rs.map qb) from by
      have h:=HRR.out
      rw [hni] at h
      obtain ⟨a,c,h1,h2,h3⟩:=zC HO.out h (by rw [List.length_map,← HNK.out])
      refine ⟨a,c,?_,h3⟩
      rw [h1,List.length_map,← HNK.out])
     clear hni HRR HO HBL
     obtain ⟨va,vc,hs6,hva⟩:=HVA.out
     subst hs6
     have HLS:=Lh (rC (rs.map qb) va vc W.heap.size wr (by have:=HZ2.out;omega) hva (by rw [List.length_map,← HNK.out];omega) (fun x hx=>by
      obtain ⟨y,hy,rfl⟩:=List.mem_map.1 hx
      have:=yJ (HALL.out.2 y hy);omega))
     unfold ya at HLS
     rw [List.length_map,← HNK.out] at HLS
     have HMW:=Lh (HM4.out.below HBR.out)
     clear hva HVA
     go_wp2_with fail
     refine HLS.out.mono ?_
     clear HLS
     rintro r w5 ⟨a5,c5,rfl,hr5,hb5⟩
     have HR5:=Lh hr5
     have HB5:=Lh hb5
     have HBQ:=Lh HBW.out
     have hwq:W.heap.size≤wr.heap.size:=HBW.out.size
     have hw5:W.heap.size≤w5.heap.size:=Nat.le_trans hwq hb5.size
     have HM5:=Lh (HMW.out.below hb5)
     have HO5:=Lh (show w5.ownsRow W.heap.size 169 6 (.slice (some ⟨g0,0,none⟩) 1 1) 1 (q8 [(⟨keysN,5,0,⟨#[]⟩,an,l.length,cn,ai,l.length,ci⟩:Mem)]) from HM5.out.own)
     have HZ5:=Lh (show g0<wr.heap.size from (HMW.out.own.lt g0 rfl).2)
     clear hr5 hb5
     go_upto_region 12 with (at_builtin;refine wpList_append_lies _ rfl (.tmp 40) (.tmp 44) 170 rfl W.heap.size 169 i1 _ 6 96 Tryz.underlying170 hi1 hy0 hy1 hy2 rfl (by omega) (.slice (some ⟨g0,0,none⟩) 1 1) 1 (q8 [(⟨keysN,5,0,⟨#[]⟩,an,l.length,cn,ai,l.length,ci⟩:Mem)]) rfl (HO5.out.alloc _) ⟨w5.heap.size,0,none⟩ 1 1 (qV (⟨z7,4,0,⟨#[]⟩,none,0,0,a5,k,c5⟩:Mem)) rfl rfl (World.news_of_block (cs:=#[.string ⟨#[114,111,108,101,115]⟩,.int .u8 4,.int .i64 0,.string ⟨#[]⟩,.slice none 0 0,.slice a5 k c5]) (t:=169) (fr:=(0,0)) (heap_alloc_new w5 _)) (xq _) (by omega) (by unfold maxLen;omega) (by omega) (by simp;omega) (w5.heap.size+1) (by simp) ?_;intro g3 cap3 w6 hown6 hgrow6 hat6 hlt6;have HO6:=Lh hown6;have HG6:=Lh hgrow6;have HA6:=Lh hat6;clear hown6 hgrow6 hat6)
     have hga:Below w5.heap.size w5 (w5.alloc (.cells #[.string ⟨#[114,111,108,101,115]⟩,.int .u8 4,.int .i64 0,.string ⟨#[]⟩,.slice none 0 0,.slice a5 k c5] 169)):=(Below.refl _ _).alloc lz _
     have HBF:=Lh (below_grown ((HBQ.out.trans (HB5.out.mono hwq)).trans (hga.mono hw5)) (by simp;omega) HG6.out (fun b hb=>(HO5.out.lt b hb).1))
     have HMF:=Lh (show MemsAt W.heap.size w6 (.slice (some ⟨g3,0,none⟩) 2 cap3) ([(⟨keysN,5,0,⟨#[]⟩,an,l.length,cn,ai,l.length,ci⟩:Mem)] ++ [(⟨z7,4,0,⟨#[]⟩,none,0,0,a5,k,c5⟩:Mem)]) ([qT l] ++ [zu (rs.map qb)]) from (HM5.out.below hga).snoc (⟨z7,4,0,⟨#[]⟩,none,0,0,a5,k,c5⟩:Mem) (zu (rs.map qb)) wr.heap.size w5.heap.size hwq (by simp) (fun b hb=>by simp only [Value.ownBlock,Option.some.injEq] at hb;have:=HZ5.out;omega) (HR5.out.below hga lz lz lz) HG6.out HO6.out (by
      rcases HA6.out with h|h
      · exact .inl h.symm
      · exact .inr ⟨g3,rfl,by simp;omega⟩))
     have HZF:=Lh HZ2.out
     clear HO5 HO6 HG6 HA6 HMW HM5 HB5 HR5 hga
     have HMO:=Lh (dk (v:=.slice (some ⟨g3,0,none⟩) 2 cap3) [(keysN,qT l),(z7,zu (rs.map qb))] (N:=[(keysN,qT l),(z7,zu (rs.map qb))]) ⟨_,by simpa using HMF.out,by simp⟩ ⟨_,_,rfl⟩ (List.Perm.refl _) zm.2.2.2.1 (by simp) (fun p hp=>by
      simp only [List.mem_cons,List.not_mem_nil,or_false] at hp
      rcases hp with rfl|rfl
      · exact HTW.out
      · show (zu (rs.map qb)).wt≤4294967296;rw [yK];have h1:=kC rs HALL.out.2;have h2:=HALL.out.1;omega) (by have:=HZF.out;omega))
     clear HMF
     go_wp2_with fail
     refine HMO.out.mono ?_
     clear HMO
     rintro e w8 ⟨an8,cn8,ai8,ci8,rfl,hr8,hb8⟩
     have hbF:Below W.heap.size W w8:=HBF.out.trans (hb8.mono HBF.out.size)
     obtain ⟨W9,hW9⟩:∃W9,W9=w8.alloc (.cells #[.int .u8 5,.int .i64 0,.string ⟨#[]⟩,.slice an8 2 cn8,.slice ai8 2 ci8] 25):=⟨_,rfl⟩
     have hb9:Below w8.heap.size w8 W9:=by rw [hW9];exact (Below.refl _ _).alloc lz _
     have hx9:W9.heap[w8.heap.size]?=some (.cells #[.int .u8 5,.int .i64 0,.string ⟨#[]⟩,.slice an8 2 cn8,.slice ai8 2 ci8] 25 (0,0)):=by rw [hW9];exact heap_alloc_new w8 _
     have hres:=qj (hbF.trans (hb9.mono hbF.size)) HR0.out HR0.out.lt
     have HRS:=Lh hres
     have HR8:=Lh (vq.below hr8 (B:=w8.heap.size) hb9 lz lz hb9.size)
     have HZ8:=Lh (show w.heap.size+2≤w6.heap.size from Nat.le_trans HZ2.out HBF.out.size)
     have HB8:=Lh (HB.out.trans ((hbF.trans (hb9.mono hbF.size)).mono HB.out.size))
     obtain ⟨z0,z1,z2,z3,z4⟩:=bx5 hx9
     obtain ⟨t0,t1,t2,t3,t4⟩:=rc5 hres
     obtain ⟨s0,s1,s2,s3,s4⟩:=rf5 hres
     simp only [qQ] at t0 t1 t2 t3 t4
     have HW9:=Lh hW9
     clear hres hr8 hb8 hbF hb9 hx9 hW9
     go_upto_region 13 with fail
     rw [← HW9.out]
     clear HW9
     go_wp2
     refine bodyPost_ret (results_cell_row Tryz.results85 _ _ (w.heap.size+1) 25 _ (0,0) _ rfl (qi (set5 _ _ _ _ _ HRS.out)) Tryz.underlying25 rfl (by kernel_rfl)) rfl ?_
     rw [HJ.out]
     refine ⟨an8,cn8,ai8,ci8,rfl,?_,q7 _ _ _ _ _ HB8.out (by omega)⟩
     exact vq.carry (by have:=HZ8.out;omega) (show W9.heap.size≤_ by simp [World.setCell]) (fun j hj _=>xr _ _ _ _ _ (by have:=HZ8.out;omega)) _ _ HR8.out
 | false =>
  have HMB:=Lh (show qI ⟨bits,pre,⟨t,ids⟩⟩=true from by
   have h:=HM2.out
   simp only [Bool.false_eq_true,if_false,Bool.and_eq_true] at h
   exact h.2)
  replace HJ:=Lh (show J=jz [(keysN,qT l),(zA,zV ⟨bits,pre,⟨t,ids⟩⟩)] from by
   rw [HJ.out]
   unfold qF
   rw [if_neg (by rw [← HNB.out];decide)])
  have HBB:=Lh (HBO.out w4 HB4.out HMB.out)
  unfold jP at HBB
  have HWB:=Lh (bF HMB.out)
  obtain ⟨u,hu⟩:∃u,u=zV ⟨bits,pre,⟨t,ids⟩⟩:=⟨_,rfl⟩
  have HUK:=Lh (show u.kind=5∧u.n=0∧u.t=⟨#[]⟩ from by rw [hu];exact ⟨rfl,rfl,rfl⟩)
  rw [← hu] at HBB HJ HWB
  clear hu
  have HMW:=Lh HM4.out
  have HBQ:=Lh HB4.out
  have hwq:W.heap.size≤w4.heap.size:=HB4.out.size
  go_wp2_with fail
  refine HBB.out.mono ?_
  clear HBB q0 q1 q2 q3 q4 q5
  rintro r w5 ⟨a6,c6,a5,c5,rfl,hr5,hb5⟩
  have HR5:=Lh hr5
  have HB5:=Lh hb5
  have hw5:W.heap.size≤w5.heap.size:=Nat.le_trans hwq hb5.size
  have HM5:=Lh (HMW.out.below hb5)
  have HO5:=Lh (show w5.ownsRow W.heap.size 169 6 (.slice (some ⟨g0,0,none⟩) 1 1) 1 (q8 [(⟨keysN,5,0,⟨#[]⟩,an,l.length,cn,ai,l.length,ci⟩:Mem)]) from HM5.out.own)
  have HZ5:=Lh (show g0<w4.heap.size from (HMW.out.own.lt g0 rfl).2)
  clear hr5 hb5
  go_upto_region 12 with (at_builtin;refine wpList_append_lies _ rfl (.tmp 46) (.tmp 51) 170 rfl W.heap.size 169 i1 _ 6 96 Tryz.underlying170 hi1 hy0 hy1 hy2 rfl (by omega) (.slice (some ⟨g0,0,none⟩) 1 1) 1 (q8 [(⟨keysN,5,0,⟨#[]⟩,an,l.length,cn,ai,l.length,ci⟩:Mem)]) rfl (HO5.out.alloc _) ⟨w5.heap.size,0,none⟩ 1 1 (qV (⟨zA,5,0,⟨#[]⟩,a6,u.names.length,c6,a5,u.items.length,c5⟩:Mem)) rfl rfl (World.news_of_block (cs:=#[.string ⟨#[115,117,99,99,105,110,99,116,95,114,111,108,101,115]⟩,.int .u8 5,.int .i64 0,.string ⟨#[]⟩,.slice a6 u.names.length c6,.slice a5 u.items.length c5]) (t:=169) (fr:=(0,0)) (heap_alloc_new w5 _)) (xq _) (by omega) (by unfold maxLen;omega) (by omega) (by simp;omega) (w5.heap.size+1) (by simp) ?_;intro g3 cap3 w6 hown6 hgrow6 hat6 hlt6;have HO6:=Lh hown6;have HG6:=Lh hgrow6;have HA6:=Lh hat6;clear hown6 hgrow6 hat6)
  have hga:Below w5.heap.size w5 (w5.alloc (.cells #[.string ⟨#[115,117,99,99,105,110,99,116,95,114,111,108,101,115]⟩,.int .u8 5,.int .i64 0,.string ⟨#[]⟩,.slice a6 u.names.length c6,.slice a5 u.items.length c5] 169)):=(Below.refl _ _).alloc lz _
  have HBF:=Lh (below_grown ((HBQ.out.trans (HB5.out.mono hwq)).trans (hga.mono hw5)) (by simp;omega) HG6.out (fun b hb=>(HO5.out.lt b hb).1))
  have HMF:=Lh (show MemsAt W.heap.size w6 (.slice (some ⟨g3,0,none⟩) 2 cap3) ([(⟨keysN,5,0,⟨#[]⟩,an,l.length,cn,ai,l.length,ci⟩:Mem)] ++ [(⟨zA,5,0,⟨#[]⟩,a6,u.names.length,c6,a5,u.items.length,c5⟩:Mem)]) ([qT l] ++ [u]) from (HM5.out.below hga).snoc (⟨zA,5,0,⟨#[]⟩,a6,u.names.length,c6,a5,u.items.length,c5⟩:Mem) (u) w4.heap.size w5.heap.size hwq (by simp) (fun b hb=>by simp only [Value.ownBlock,Option.some.injEq] at hb;have:=HZ5.out;omega) (HR5.out.below hga lz lz lz) HG6.out HO6.out (by
   rcases HA6.out with h|h
   · exact .inl h.symm
   · exact .inr ⟨g3,rfl,by simp;omega⟩))
  have HZF:=Lh HZ2.out
  clear HO5 HO6 HG6 HA6 HMW HM5 HB5 HR5 hga
  have HMO:=Lh (dk (v:=.slice (some ⟨g3,0,none⟩) 2 cap3) [(keysN,qT l),(zA,u)] (N:=[(keysN,qT l),(zA,u)]) ⟨_,by simpa using HMF.out,by simp⟩ ⟨_,_,rfl⟩ (List.Perm.refl _) zm.2.2.2.2 (by simp) (fun p hp=>by
   simp only [List.mem_cons,List.not_mem_nil,or_false] at hp
   rcases hp with rfl|rfl
   · exact HTW.out
   · show u.wt≤4294967296;have:=HWB.out;omega) (by have:=HZF.out;omega))
  clear HMF
  go_wp2_with fail
  refine HMO.out.mono ?_
  clear HMO
  rintro e w8 ⟨an8,cn8,ai8,ci8,rfl,hr8,hb8⟩
  have hbF:Below W.heap.size W w8:=HBF.out.trans (hb8.mono HBF.out.size)
  obtain ⟨W9,hW9⟩:∃W9,W9=w8.alloc (.cells #[.int .u8 5,.int .i64 0,.string ⟨#[]⟩,.slice an8 2 cn8,.slice ai8 2 ci8] 25):=⟨_,rfl⟩
  have hb9:Below w8.heap.size w8 W9:=by rw [hW9];exact (Below.refl _ _).alloc lz _
  have hx9:W9.heap[w8.heap.size]?=some (.cells #[.int .u8 5,.int .i64 0,.string ⟨#[]⟩,.slice an8 2 cn8,.slice ai8 2 ci8] 25 (0,0)):=by rw [hW9];exact heap_alloc_new w8 _
  have hres:=qj (hbF.trans (hb9.mono hbF.size)) HR0.out HR0.out.lt
  have HRS:=Lh hres
  have HR8:=Lh (vq.below hr8 (B:=w8.heap.size) hb9 lz lz hb9.size)
  have HZ8:=Lh (show w.heap.size+2≤w6.heap.size from Nat.le_trans HZ2.out HBF.out.size)
  have HB8:=Lh (HB.out.trans ((hbF.trans (hb9.mono hbF.size)).mono HB.out.size))
  obtain ⟨z0,z1,z2,z3,z4⟩:=bx5 hx9
  obtain ⟨t0,t1,t2,t3,t4⟩:=rc5 hres
  obtain ⟨s0,s1,s2,s3,s4⟩:=rf5 hres
  simp only [qQ] at t0 t1 t2 t3 t4
  have HW9:=Lh hW9
  clear hres hr8 hb8 hbF hb9 hx9 hW9
  go_upto_region 13 with fail
  rw [← HW9.out]
  clear HW9
  go_wp2
  refine bodyPost_ret (results_cell_row Tryz.results85 _ _ (w.heap.size+1) 25 _ (0,0) _ rfl (qi (set5 _ _ _ _ _ HRS.out)) Tryz.underlying25 rfl (by kernel_rfl)) rfl ?_
  rw [HJ.out]
  refine ⟨an8,cn8,ai8,ci8,rfl,?_,q7 _ _ _ _ _ HB8.out (by omega)⟩
  exact vq.carry (by have:=HZ8.out;omega) (show W9.heap.size≤_ by simp [World.setCell]) (fun j hj _=>xr _ _ _ _ _ (by have:=HZ8.out;omega)) _ _ HR8.out
set_option maxHeartbeats 4000000 in
set_option maxRecDepth 100000 in
theorem mw (l:List Key2) (rs:List DelegV) (t bits:Int) (ids:List ByteArray) (pre:ByteArray) (ka ra ba:Option Addr) (kc rc bc:Nat) (w:World) (hI:DelegsIn w 0 w.heap.size ⟨l,rs,⟨bits,pre,⟨t,ids⟩⟩⟩ ka ra ba) (hf:DelegsFits ⟨l,rs,⟨bits,pre,⟨t,ids⟩⟩⟩) (hrc:rs.length≤rc) (hT:Tabs w) :
 Calls Tryz.prog 36 #[.agg #[.slice ka l.length kc,.slice ra rs.length rc,.int .i64 t,.slice ba ids.length bc,.int .i64 bits,.string pre]] w (rg (z6 ⟨l,rs,⟨bits,pre,⟨t,ids⟩⟩⟩) w):=by
 obtain ⟨W,hW⟩:∃W,W=(w.alloc (.cells #[.slice ka l.length kc,.slice ra rs.length rc,.int .i64 t,.slice ba ids.length bc,.int .i64 bits,.string pre] 35)).alloc (.cells #[.int .u8 0,.int .i64 0,.string ⟨#[]⟩,.slice none 0 0,.slice none 0 0] 25):=⟨_,rfl⟩
 have hz1:(w.alloc (.cells #[.slice ka l.length kc,.slice ra rs.length rc,.int .i64 t,.slice ba ids.length bc,.int .i64 bits,.string pre] 35)).heap.size=w.heap.size+1:=by simp
 have hb:Below w.heap.size w W:=by rw [hW];exact ((Below.refl _ _).alloc lz _).alloc (by simp) _
 have hx:W.heap[w.heap.size]?=some (.cells #[.slice ka l.length kc,.slice ra rs.length rc,.int .i64 t,.slice ba ids.length bc,.int .i64 bits,.string pre] 35 (0,0)):=by rw [hW];exact zk w _ _
 have hr0:W.rowIs (w.heap.size+1) 25 5 (qQ (.int .u8 0) (.int .i64 0) (.string ⟨#[]⟩) (.slice none 0 0) (.slice none 0 0)):=by
  have:=qp (w.alloc (.cells #[.slice ka l.length kc,.slice ra rs.length rc,.int .i64 t,.slice ba ids.length bc,.int .i64 bits,.string pre] 35)) (.int .u8 0) (.int .i64 0) (.string ⟨#[]⟩) (.slice none 0 0) (.slice none 0 0) 25
  rw [hz1,← hW] at this
  exact this
 have HC:=Lh (show ∀w':World,Below W.heap.size W w'→w'.cell? ⟨w.heap.size,0,none⟩=some (.slice ka l.length kc)∧w'.cell? ⟨w.heap.size,1,none⟩=some (.slice ra rs.length rc)∧w'.cell? ⟨w.heap.size,2,none⟩=some (.int .i64 t)∧w'.cell? ⟨w.heap.size,3,none⟩=some (.slice ba ids.length bc)∧w'.cell? ⟨w.heap.size,4,none⟩=some (.int .i64 bits)∧w'.cell? ⟨w.heap.size,5,none⟩=some (.string pre) from fun w' h=>by
  have y:=(h.block _ (qx hx)).trans hx
  exact ⟨qq y rfl,qq y rfl,qq y rfl,qq y rfl,qq y rfl,qq y rfl⟩)
 have HI:=Lh (show ∀w':World,Below W.heap.size W w'→DelegsIn w' 0 w'.heap.size ⟨l,rs,⟨bits,pre,⟨t,ids⟩⟩⟩ ka ra ba∧Tabs w' from fun w' h=>⟨hI.below (hb.trans (h.mono hb.size)) lz lz (Nat.le_trans hb.size h.size),hT.below (hb.trans (h.mono hb.size))⟩)
 have HR0:=Lh hr0
 have HB:=Lh hb
 have HWH:=Lh hW
 have HMY:=Lh (vf l rs t bits ids pre ka ra ba kc rc bc W (HI.out W (Below.refl _ _)).1 hf hrc (HI.out W (Below.refl _ _)).2)
 obtain ⟨mb,hmb⟩:∃mb,mb=qG ⟨l,rs,⟨bits,pre,⟨t,ids⟩⟩⟩:=⟨_,rfl⟩
 rw [← hmb] at HMY
 have HMB:=Lh hmb
 have HOB:=Lh (show mb=true→∀w':World,Below W.heap.size W w'→_ from fun hm w' h=>fB l rs t bits ids pre ka ra ba kc rc bc w' (HI.out w' h).1 (by rw [← q9,← hmb];exact hm) (HI.out w' h).2)
 unfold pt at HOB
 clear hW hz1 hb hx hr0 hI hf hrc hT hmb
 obtain ⟨q0,q1,q2,q3,q4,q5⟩:=HC.out W (Below.refl _ _)
 go_enter Tryz.func36,Tryz.ntmps36
 go_upto_region 1 with fail
 rw [← HWH.out]
 clear HWH
 go_wp2_with fail
 refine HMY.out.mono ?_
 clear HMY q0 q1 q2 q3 q4 q5
 rintro r w1 ⟨rfl,hb1⟩
 have HB1:=Lh hb1
 obtain ⟨q0,q1,q2,q3,q4,q5⟩:=HC.out w1 hb1
 have hr1:=qj hb1 HR0.out HR0.out.lt
 have HR1:=Lh hr1
 have HBW:=Lh (HB.out.trans (hb1.mono HB.out.size))
 clear hb1
 cases mb with
 | false =>
  have HV:=Lh (show z6 ⟨l,rs,⟨bits,pre,⟨t,ids⟩⟩⟩=(zx,3) by unfold z6;rw [← HMB.out];rfl)
  obtain ⟨t0,t1,t2,t3,t4⟩:=rc5 hr1
  obtain ⟨s0,s1,s2,s3,s4⟩:=rf5 hr1
  simp only [qQ] at t0 t1 t2 t3 t4
  clear hr1
  go_wp2
  refine bodyPost_ret (qk Tryz.results36 _ _ (w.heap.size+1) 25 _ (0,0) _ rfl (qi (set5 _ _ _ _ _ HR1.out)) Tryz.underlying25 rfl (by kernel_rfl) _ rfl) rfl ?_
  rw [HV.out]
  exact uz ⟨rfl,q7 _ _ _ _ _ HBW.out (by omega)⟩
 | true =>
  have HV:=Lh (show z6 ⟨l,rs,⟨bits,pre,⟨t,ids⟩⟩⟩=(qg ⟨l,rs,⟨bits,pre,⟨t,ids⟩⟩⟩,0) by unfold z6;rw [← HMB.out];rfl)
  have HOW:=Lh (HOB.out rfl w1 HB1.out)
  have HJK:=Lh (show (qg ⟨l,rs,⟨bits,pre,⟨t,ids⟩⟩⟩).kind=5∧(qg ⟨l,rs,⟨bits,pre,⟨t,ids⟩⟩⟩).n=0∧(qg ⟨l,rs,⟨bits,pre,⟨t,ids⟩⟩⟩).t=⟨#[]⟩ from ⟨rfl,rfl,rfl⟩)
  obtain ⟨J,hJ⟩:∃J,J=qg ⟨l,rs,⟨bits,pre,⟨t,ids⟩⟩⟩:=⟨_,rfl⟩
  rw [← hJ] at HV HOW HJK
  clear hJ hr1 HOB
  go_wp2_with fail
  refine HOW.out.mono ?_
  clear HOW q0 q1 q2 q3 q4 q5
  rintro r w2 ⟨an,cn,ai,ci,rfl,hr2,hb2⟩
  have HR2:=Lh hr2
  have hres:=qj hb2 HR1.out HR1.out.lt
  have HRS:=Lh hres
  have HB2:=Lh (HBW.out.trans (hb2.mono HBW.out.size))
  have HZ:=Lh (show w.heap.size+2≤w1.heap.size from HR1.out.lt)
  obtain ⟨t0,t1,t2,t3,t4⟩:=rc5 hres
  obtain ⟨s0,s1,s2,s3,s4⟩:=rf5 hres
  simp only [qQ] at t0 t1 t2 t3 t4
  clear hres hr2 hb2
  go_wp2
  refine bodyPost_ret (qk Tryz.results36 _ _ (w.heap.size+1) 25 _ (0,0) _ rfl (qi (set5 _ _ _ _ _ HRS.out)) Tryz.underlying25 rfl (by kernel_rfl) _ rfl) rfl ?_
  rw [HV.out]
  refine ⟨an,cn,ai,ci,by rw [HJK.out.1,HJK.out.2.1,HJK.out.2.2];rfl,?_,q7 _ _ _ _ _ HB2.out (by omega)⟩
  dsimp only
  rw [HJK.out.1,HJK.out.2.1,HJK.out.2.2]
  exact vq.carry (by have:=HZ.out;omega) (show w2.heap.size≤_ by simp [World.setCell]) (fun j hj _=>xr _ _ _ _ _ (by have:=HZ.out;omega)) _ _ HR2.out
end Go.Proofs.YthgembbgcbaghaaGreatDoor
