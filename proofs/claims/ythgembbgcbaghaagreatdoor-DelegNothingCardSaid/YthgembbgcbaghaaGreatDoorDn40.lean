/- legatelaw20.awake returns true. Printed by genawake20.py. -/
import Derived.Test.YthgembbgcbaghaaGreatDoorDn39

namespace Go.Proofs.YthgembbgcbaghaaGreatDoor
open Go.RowKit Go.Shelf Go.Sort
set_option maxHeartbeats 8000000 in
set_option maxRecDepth 100000 in
theorem yX (w:World) (hT:Tabs w):Calls Tryz.prog 14 #[] w fun e w'=>e=.returned (.bool true)∧Below w.heap.size w w':=by
 have HT:=Lh (show ∀w':World,Below w.heap.size w w'→Tabs w' from fun w' h=>hT.below h)
 clear hT
 have HR1:=Lh (gk raN tM false w)
 go_enter Tryz.func14,Tryz.ntmps14
 go_wp2_with fail
 refine HR1.out.mono ?_
 clear HR1
 rintro e w1 ⟨a1,p1,rfl,hs1,hp1,hb1⟩
 have HN1:=Lh (show RoleIn w1 a1 p1 tM from ⟨hs1.carry (Nat.zero_le _) lz (fun _ _ _=>rfl),hp1.carry (Nat.zero_le _) lz (fun _ _ _=>rfl)⟩)
 have HB1:=Lh hb1
 clear hs1 hp1 hb1
 have HR2:=Lh (gk bbN sL true w1)
 go_wp2_with fail
 refine HR2.out.mono ?_
 clear HR2
 rintro e w2 ⟨a2,p2,rfl,hs1,hp1,hb1⟩
 have HN2:=Lh (show RoleIn w2 a2 p2 sL from ⟨hs1.carry (Nat.zero_le _) lz (fun _ _ _=>rfl),hp1.carry (Nat.zero_le _) lz (fun _ _ _=>rfl)⟩)
 replace HN1:=Lh (HN1.out.below hb1)
 have HB2:=Lh (HB1.out.trans (hb1.mono HB1.out.size))
 clear hs1 hp1 hb1
 have HR3:=Lh (gk pcN vx false w2)
 go_wp2_with fail
 refine HR3.out.mono ?_
 clear HR3
 rintro e w3 ⟨a3,p3,rfl,hs1,hp1,hb1⟩
 have HN3:=Lh (show RoleIn w3 a3 p3 vx from ⟨hs1.carry (Nat.zero_le _) lz (fun _ _ _=>rfl),hp1.carry (Nat.zero_le _) lz (fun _ _ _=>rfl)⟩)
 replace HN1:=Lh (HN1.out.below hb1)
 replace HN2:=Lh (HN2.out.below hb1)
 have HB3:=Lh (HB2.out.trans (hb1.mono HB2.out.size))
 clear hs1 hp1 hb1
 have hz3:((w3.alloc (.cells #[.string raN,.int .i64 1,.slice (some ⟨a1,0,none⟩) 1 1,.bool false,.slice (some ⟨p1,0,none⟩) 1 1,.slice none 0 0] 41)).alloc (.cells #[.string bbN,.int .i64 1,.slice (some ⟨a2,0,none⟩) 1 1,.bool true,.slice (some ⟨p2,0,none⟩) 1 1,.slice none 0 0] 41)).heap.size=w3.heap.size+1+1:=by simp
 obtain ⟨W4,hW4⟩:∃W4,W4=((w3.alloc (.cells #[.string raN,.int .i64 1,.slice (some ⟨a1,0,none⟩) 1 1,.bool false,.slice (some ⟨p1,0,none⟩) 1 1,.slice none 0 0] 41)).alloc (.cells #[.string bbN,.int .i64 1,.slice (some ⟨a2,0,none⟩) 1 1,.bool true,.slice (some ⟨p2,0,none⟩) 1 1,.slice none 0 0] 41)).alloc (.cells #[.string pcN,.int .i64 1,.slice (some ⟨a3,0,none⟩) 1 1,.bool false,.slice (some ⟨p3,0,none⟩) 1 1,.slice none 0 0] 41):=⟨_,rfl⟩
 have h1:W4.heap[w3.heap.size]?=some (.cells #[.string raN,.int .i64 1,.slice (some ⟨a1,0,none⟩) 1 1,.bool false,.slice (some ⟨p1,0,none⟩) 1 1,.slice none 0 0] 41 (0,0)):=by rw [hW4,Below.heap_alloc _ _ _ (by rw [hz3];omega)];exact zk w3 _ _
 have h2:W4.heap[w3.heap.size+1]?=some (.cells #[.string bbN,.int .i64 1,.slice (some ⟨a2,0,none⟩) 1 1,.bool true,.slice (some ⟨p2,0,none⟩) 1 1,.slice none 0 0] 41 (0,0)):=by rw [hW4,Below.heap_alloc _ _ _ (by rw [hz3];omega)];exact jw w3 _ _
 have h3:W4.rowIs (w3.heap.size+1+1) 41 6 (qQ (.string pcN) (.int .i64 1) (.slice (some ⟨a3,0,none⟩) 1 1) (.bool false) (.slice (some ⟨p3,0,none⟩) 1 1) (.slice none 0 0)):=by
  have:=xw ((w3.alloc (.cells #[.string raN,.int .i64 1,.slice (some ⟨a1,0,none⟩) 1 1,.bool false,.slice (some ⟨p1,0,none⟩) 1 1,.slice none 0 0] 41)).alloc (.cells #[.string bbN,.int .i64 1,.slice (some ⟨a2,0,none⟩) 1 1,.bool true,.slice (some ⟨p2,0,none⟩) 1 1,.slice none 0 0] 41)) (.string pcN) (.int .i64 1) (.slice (some ⟨a3,0,none⟩) 1 1) (.bool false) (.slice (some ⟨p3,0,none⟩) 1 1) (.slice none 0 0) 41
  rw [hz3,← hW4] at this
  exact this
 have HZ4:=Lh (show W4.heap.size=w3.heap.size+3 from by rw [hW4];simp)
 have HB4:=Lh (show Below w3.heap.size w3 W4 from by rw [hW4];exact (((Below.refl _ _).alloc lz _).alloc (by simp) _).alloc (by rw [hz3];omega) _)
 have HW4:=Lh hW4
 go_upto_region 2 with fail
 rw [← HW4.out]
 clear HW4 hW4 hz3
 have x0:=qq h1 (j:=0) rfl;have x1:=qq h1 (j:=1) rfl;have x2:=qq h1 (j:=2) rfl;have x3:=qq h1 (j:=3) rfl;have x4:=qq h1 (j:=4) rfl;have x5:=qq h1 (j:=5) rfl
 have y0:=qq h2 (j:=0) rfl;have y1:=qq h2 (j:=1) rfl;have y2:=qq h2 (j:=2) rfl;have y3:=qq h2 (j:=3) rfl;have y4:=qq h2 (j:=4) rfl;have y5:=qq h2 (j:=5) rfl
 obtain ⟨z0,z1,z2,z3,z4⟩:=rc5 h3;have z5:=h3.cell (i:=5) (by decide)
 simp only [qQ] at z0 z1 z2 z3 z4 z5
 have H1:=Lh h1
 have H2:=Lh h2
 have H3:=Lh h3
 obtain ⟨W5,hW5⟩:∃W5,W5=(W4.alloc (.cells #[.string raN,.int .i64 1,.slice (some ⟨a1,0,none⟩) 1 1,.bool false,.slice (some ⟨p1,0,none⟩) 1 1,.slice none 0 0,.string bbN,.int .i64 1,.slice (some ⟨a2,0,none⟩) 1 1,.bool true,.slice (some ⟨p2,0,none⟩) 1 1,.slice none 0 0,.string pcN,.int .i64 1,.slice (some ⟨a3,0,none⟩) 1 1,.bool false,.slice (some ⟨p3,0,none⟩) 1 1,.slice none 0 0] 41)).alloc (.cells #[.slice none 0 0,.slice (some ⟨W4.heap.size,0,none⟩) 3 3,.int .i64 0,.slice none 0 0,.int .i64 0,.string ⟨#[]⟩] 35):=⟨_,rfl⟩
 have HB5:=Lh (show Below W4.heap.size W4 W5 from by rw [hW5];exact ((Below.refl _ _).alloc lz _).alloc (by simp) _)
 have HQ5:=Lh (show W5.heap[W4.heap.size]?=some (.cells #[.string raN,.int .i64 1,.slice (some ⟨a1,0,none⟩) 1 1,.bool false,.slice (some ⟨p1,0,none⟩) 1 1,.slice none 0 0,.string bbN,.int .i64 1,.slice (some ⟨a2,0,none⟩) 1 1,.bool true,.slice (some ⟨p2,0,none⟩) 1 1,.slice none 0 0,.string pcN,.int .i64 1,.slice (some ⟨a3,0,none⟩) 1 1,.bool false,.slice (some ⟨p3,0,none⟩) 1 1,.slice none 0 0] 41 (0,0)) from by rw [hW5];exact zk W4 _ _)
 have HD5:=Lh (show W5.heap[W4.heap.size+1]?=some (.cells #[.slice none 0 0,.slice (some ⟨W4.heap.size,0,none⟩) 3 3,.int .i64 0,.slice none 0 0,.int .i64 0,.string ⟨#[]⟩] 35 (0,0)) from by rw [hW5];exact jw W4 _ _)
 have HZ5:=Lh (show W5.heap.size=W4.heap.size+2 from by rw [hW5];simp)
 have HW5:=Lh hW5
 clear h1 h2 h3 hW5
 go_upto_region 3 with fail
 rw [← HW5.out]
 clear HW5 x0 x1 x2 x3 x4 x5 y0 y1 y2 y3 y4 y5 z0 z1 z2 z3 z4 z5
 have hr5:=qj HB5.out H3.out H3.out.lt
 obtain ⟨z0,z1,z2,z3,z4⟩:=rc5 hr5;have z5:=hr5.cell (i:=5) (by decide)
 have f3:=hr5.frozen 3
 simp only [qQ] at z0 z1 z2 z3 z4 z5
 obtain ⟨W6,hW6⟩:∃W6,W6=W5.setCell ⟨w3.heap.size+1+1,3,none⟩ (.bool true):=⟨_,rfl⟩
 have hr6:W6.rowIs (w3.heap.size+1+1) 41 6 (qQ (.string pcN) (.int .i64 1) (.slice (some ⟨a3,0,none⟩) 1 1) (.bool true) (.slice (some ⟨p3,0,none⟩) 1 1) (.slice none 0 0)):=by
  rw [hW6]
  refine (hr5.set 3 _).congr fun j hj=>?_
  rcases j with _|_|_|_|_|_|j <;> first|rfl|omega
 have hs6:∀k,k≠w3.heap.size+1+1→W6.heap[k]?=W5.heap[k]?:=fun k hk=>by rw [hW6];exact Below.heap_setCell _ _ _ _ hk
 have HZ6:=Lh (show W6.heap.size=W5.heap.size from by rw [hW6];simp [World.setCell])
 have HB6:=Lh (show Below w3.heap.size w3 W6 from by rw [hW6];exact (HB4.out.trans (HB5.out.mono HB4.out.size)).setCell (by show w3.heap.size≤w3.heap.size+1+1;omega) _)
 have H16:=Lh ((hs6 w3.heap.size (by omega)).trans ((HB5.out.block _ (qz H1.out)).trans H1.out))
 have HQ6:=Lh ((hs6 W4.heap.size (by have:=HZ4.out;omega)).trans HQ5.out)
 have HD6:=Lh ((hs6 (W4.heap.size+1) (by have:=HZ4.out;omega)).trans HD5.out)
 have H36:=Lh hr6
 have HW6:=Lh hW6
 clear hr5 hr6 hs6 hW6
 go_upto_region 4 with fail
 rw [← HW6.out]
 clear HW6 z0 z1 z2 z3 z4 z5 f3 H1 H2 H3 HQ5 HD5
 have h1:=H16.out
 have h3:=H36.out
 have x0:=qq h1 (j:=0) rfl;have x1:=qq h1 (j:=1) rfl;have x2:=qq h1 (j:=2) rfl;have x3:=qq h1 (j:=3) rfl;have x4:=qq h1 (j:=4) rfl;have x5:=qq h1 (j:=5) rfl
 obtain ⟨z0,z1,z2,z3,z4⟩:=rc5 h3;have z5:=h3.cell (i:=5) (by decide)
 simp only [qQ] at z0 z1 z2 z3 z4 z5
 obtain ⟨W7,hW7⟩:∃W7,W7=(W6.alloc (.cells #[.string pcN,.int .i64 1,.slice (some ⟨a3,0,none⟩) 1 1,.bool true,.slice (some ⟨p3,0,none⟩) 1 1,.slice none 0 0,.string raN,.int .i64 1,.slice (some ⟨a1,0,none⟩) 1 1,.bool false,.slice (some ⟨p1,0,none⟩) 1 1,.slice none 0 0] 41)).alloc (.cells #[.slice none 0 0,.slice (some ⟨W6.heap.size,0,none⟩) 2 2,.int .i64 0,.slice none 0 0,.int .i64 0,.string ⟨#[]⟩] 35):=⟨_,rfl⟩
 have hb7:Below W6.heap.size W6 W7:=by rw [hW7];exact ((Below.refl _ _).alloc lz _).alloc (by simp) _
 have hq7:W7.heap[W6.heap.size]?=some (.cells #[.string pcN,.int .i64 1,.slice (some ⟨a3,0,none⟩) 1 1,.bool true,.slice (some ⟨p3,0,none⟩) 1 1,.slice none 0 0,.string raN,.int .i64 1,.slice (some ⟨a1,0,none⟩) 1 1,.bool false,.slice (some ⟨p1,0,none⟩) 1 1,.slice none 0 0] 41 (0,0)):=by rw [hW7];exact zk W6 _ _
 have he7:W7.heap[W6.heap.size+1]?=some (.cells #[.slice none 0 0,.slice (some ⟨W6.heap.size,0,none⟩) 2 2,.int .i64 0,.slice none 0 0,.int .i64 0,.string ⟨#[]⟩] 35 (0,0)):=by rw [hW7];exact jw W6 _ _
 have hd7:=(hb7.block _ (qz HD6.out)).trans HD6.out
 have hqq:=(hb7.block _ (qz HQ6.out)).trans HQ6.out
 have HB7:=Lh (HB6.out.trans (hb7.mono HB6.out.size))
 have HE:=Lh (show ∀w':World,Below W7.heap.size W7 w'→(DelegsIn w' 0 w'.heap.size exD none (some ⟨W4.heap.size,0,none⟩) none∧DelegsIn w' 0 w'.heap.size exE none (some ⟨W6.heap.size,0,none⟩) none∧Tabs w')∧(w'.cell? ⟨W4.heap.size+1,0,none⟩=some (.slice none 0 0)∧w'.cell? ⟨W4.heap.size+1,1,none⟩=some (.slice (some ⟨W4.heap.size,0,none⟩) 3 3)∧w'.cell? ⟨W4.heap.size+1,2,none⟩=some (.int .i64 0)∧w'.cell? ⟨W4.heap.size+1,3,none⟩=some (.slice none 0 0)∧w'.cell? ⟨W4.heap.size+1,4,none⟩=some (.int .i64 0)∧w'.cell? ⟨W4.heap.size+1,5,none⟩=some (.string ⟨#[]⟩))∧(w'.cell? ⟨W6.heap.size+1,0,none⟩=some (.slice none 0 0)∧w'.cell? ⟨W6.heap.size+1,1,none⟩=some (.slice (some ⟨W6.heap.size,0,none⟩) 2 2)∧w'.cell? ⟨W6.heap.size+1,2,none⟩=some (.int .i64 0)∧w'.cell? ⟨W6.heap.size+1,3,none⟩=some (.slice none 0 0)∧w'.cell? ⟨W6.heap.size+1,4,none⟩=some (.int .i64 0)∧w'.cell? ⟨W6.heap.size+1,5,none⟩=some (.string ⟨#[]⟩)) from fun w' h=>by
  have hb':=HB7.out.trans (h.mono HB7.out.size)
  have r1:=HN1.out.below hb'
  have r2:=HN2.out.below hb'
  have r3:=HN3.out.below hb'
  have k1:=(h.block _ (qz hqq)).trans hqq
  have k2:=(h.block _ (qz hq7)).trans hq7
  have k3:=(h.block _ (qz hd7)).trans hd7
  have k4:=(h.block _ (qz he7)).trans he7
  exact ⟨⟨⟨.inl rfl,nt k1 r1 r2 r3,.inl rfl⟩,⟨.inl rfl,nr k2 r3 r1,.inl rfl⟩,HT.out w' (HB3.out.trans (hb'.mono HB3.out.size))⟩,⟨qq k3 rfl,qq k3 rfl,qq k3 rfl,qq k3 rfl,qq k3 rfl,qq k3 rfl⟩,⟨qq k4 rfl,qq k4 rfl,qq k4 rfl,qq k4 rfl,qq k4 rfl,qq k4 rfl⟩⟩)
 have HW7:=Lh hW7
 have HBW:=Lh (HB3.out.trans (HB7.out.mono HB3.out.size))
 have HPOS:=Lh (show 0<W7.heap.size from Nat.lt_of_le_of_lt (Nat.zero_le _) (qz he7))
 clear h1 h3 hW7 hb7 hq7 he7 hd7 hqq
 go_upto_region 5 with fail
 rw [← HW7.out]
 clear HW7 x0 x1 x2 x3 x4 x5 z0 z1 z2 z3 z4 z5 H16 H36 HQ6 HD6 HB4 HB5 HB6 HN1 HN2 HN3
 obtain ⟨⟨i1,i2,i3⟩,⟨d0,d1,d2,d3,d4,d5⟩,-⟩:=HE.out W7 (Below.refl _ _)
 have HV:=Lh (ig W4.heap.size W7 i1 i3)
 clear i1 i2 i3
 go_wp2_with fail
 refine HV.out.mono ?_
 clear HV d0 d1 d2 d3 d4 d5
 rintro e w8 ⟨an,cn,ai,ci,rfl,hr8,hb8⟩
 obtain ⟨W9,hW9⟩:∃W9,W9=w8.alloc (.cells #[.int .u8 5,.int .i64 0,.string ⟨#[]⟩,.slice an 2 cn,.slice ai 2 ci] 25):=⟨_,rfl⟩
 have hb9:Below w8.heap.size w8 W9:=by rw [hW9];exact (Below.refl _ _).alloc lz _
 have hx9:W9.heap[w8.heap.size]?=some (.cells #[.int .u8 5,.int .i64 0,.string ⟨#[]⟩,.slice an 2 cn,.slice ai 2 ci] 25 (0,0)):=by rw [hW9];exact heap_alloc_new w8 _
 have HB9:=Lh (hb8.trans (hb9.mono hb8.size))
 have HOF:=Lh (ep _ W9 W7.heap.size HPOS.out (hr8.below hb9 lz lz hb9.size) (HE.out W9 HB9.out).1.2.2)
 obtain ⟨v0,v1,v2,v3,v4⟩:=bx5 hx9
 have HW9:=Lh hW9
 clear hb8 hr8 hb9 hx9 hW9
 go_upto_region 6 with fail
 rw [← HW9.out]
 clear HW9
 go_wp2_with fail
 refine HOF.out.mono ?_
 clear HOF v0 v1 v2 v3 v4
 rintro e w10 ⟨ka,kc,ra,rc,ba,bc,rfl,hi10,hb10⟩
 obtain ⟨W11,hW11⟩:∃W11,W11=w10.alloc (.cells #[.slice ka 0 kc,.slice ra 3 rc,.int .i64 0,.slice ba 0 bc,.int .i64 0,.string ⟨#[]⟩] 35):=⟨_,rfl⟩
 have hb11:Below w10.heap.size w10 W11:=by rw [hW11];exact (Below.refl _ _).alloc lz _
 have HX11:=Lh (show W11.heap[w10.heap.size]?=some (.cells #[.slice ka 0 kc,.slice ra 3 rc,.int .i64 0,.slice ba 0 bc,.int .i64 0,.string ⟨#[]⟩] 35 (0,0)) from by rw [hW11];exact heap_alloc_new w10 _)
 have HI11:=Lh (show iy W11 ka ra ba from hi10.below hb11 lz lz hb11.size)
 have HB11:=Lh (HB9.out.trans ((hb10.trans (hb11.mono hb10.size)).mono HB9.out.size))
 have HW11:=Lh hW11
 have HWH:=Lh (mN W11)
 clear hi10 hb10 hb11 hW11
 go_upto_region 7 with fail
 rw [← HW11.out]
 clear HW11
 go_wp2_with fail
 refine HWH.out.mono ?_
 clear HWH
 rintro e w12 ⟨g,rfl,hs12,hb12⟩
 obtain ⟨W13,hW13⟩:∃W13,W13=w12.alloc (.cells #[.slice none 0 0,.slice none 0 0,.int .i64 1,.slice (some ⟨g,0,none⟩) 1 1,.int .i64 2,.string ⟨#[112]⟩] 35):=⟨_,rfl⟩
 have hb13:Below w12.heap.size w12 W13:=by rw [hW13];exact (Below.refl _ _).alloc lz _
 have hb113:Below W11.heap.size W11 W13:=hb12.trans (hb13.mono hb12.size)
 have hx13:W13.heap[w12.heap.size]?=some (.cells #[.slice none 0 0,.slice none 0 0,.int .i64 1,.slice (some ⟨g,0,none⟩) 1 1,.int .i64 2,.string ⟨#[112]⟩] 35 (0,0)):=by rw [hW13];exact heap_alloc_new w12 _
 have HB13:=Lh (HB11.out.trans (hb113.mono HB11.out.size))
 have HF:=Lh (show ∀w':World,Below W13.heap.size W13 w'→(iy w' ka ra ba∧qg w' 0 w'.heap.size (some ⟨g,0,none⟩) [yI 97])∧(w'.cell? ⟨w10.heap.size,0,none⟩=some (.slice ka 0 kc)∧w'.cell? ⟨w10.heap.size,1,none⟩=some (.slice ra 3 rc)∧w'.cell? ⟨w10.heap.size,2,none⟩=some (.int .i64 0)∧w'.cell? ⟨w10.heap.size,3,none⟩=some (.slice ba 0 bc)∧w'.cell? ⟨w10.heap.size,4,none⟩=some (.int .i64 0)∧w'.cell? ⟨w10.heap.size,5,none⟩=some (.string ⟨#[]⟩))∧(w'.cell? ⟨w12.heap.size,0,none⟩=some (.slice none 0 0)∧w'.cell? ⟨w12.heap.size,1,none⟩=some (.slice none 0 0)∧w'.cell? ⟨w12.heap.size,2,none⟩=some (.int .i64 1)∧w'.cell? ⟨w12.heap.size,3,none⟩=some (.slice (some ⟨g,0,none⟩) 1 1)∧w'.cell? ⟨w12.heap.size,4,none⟩=some (.int .i64 2)∧w'.cell? ⟨w12.heap.size,5,none⟩=some (.string ⟨#[112]⟩)) from fun w' h=>by
  have hb':=hb113.trans (h.mono hb113.size)
  have k1:=(hb'.block _ (qz HX11.out)).trans HX11.out
  have k2:=(h.block _ (qz hx13)).trans hx13
  exact ⟨⟨HI11.out.below hb' lz lz hb'.size,(hs12.carry (Nat.zero_le _) lz (fun _ _ _=>rfl)).below (hb13.trans (h.mono hb13.size)) lz lz (Nat.le_trans hb13.size h.size)⟩,⟨qq k1 rfl,qq k1 rfl,qq k1 rfl,qq k1 rfl,qq k1 rfl,qq k1 rfl⟩,⟨qq k2 rfl,qq k2 rfl,qq k2 rfl,qq k2 rfl,qq k2 rfl,qq k2 rfl⟩⟩)
 have HBI:=Lh (oi g W13 (HE.out W13 HB13.out).1.2.2)
 have HW13:=Lh hW13
 clear hs12 hb12 hW13 hb13 hb113 hx13
 go_upto_region 8 with fail
 rw [← HW13.out]
 clear HW13
 obtain ⟨-,-,b0,b1,b2,b3,b4,b5⟩:=HF.out W13 (Below.refl _ _)
 go_wp2_with fail
 refine HBI.out.mono ?_
 clear HBI b0 b1 b2 b3 b4 b5
 rintro e w14 ⟨rfl,hb14⟩
 obtain ⟨S,hS⟩:∃S,S=binS:=⟨_,rfl⟩
 rw [← hS]
 have HS:=Lh hS
 have HF14:=Lh hb14
 have HB14:=Lh (HB13.out.trans (hb14.mono HB13.out.size))
 clear hb14 hS
 go_upto_region 9 with fail
 obtain ⟨W15,hW15⟩:∃W15,W15=w14.alloc (.cells #[.string ⟨#[97]⟩,.string ⟨#[99]⟩] 9):=⟨_,rfl⟩
 have hb':Below w14.heap.size w14 W15:=by rw [hW15];exact (Below.refl _ _).alloc lz _
 have hg':W15.heap[w14.heap.size]?=some (.cells #[.string ⟨#[97]⟩,.string ⟨#[99]⟩] 9 (0,0)):=by rw [hW15];exact heap_alloc_new w14 _
 have HA15:=Lh (HB14.out.trans (hb'.mono HB14.out.size))
 have HC15:=Lh (HF14.out.trans (hb'.mono HF14.out.size))
 have HM:=Lh (co W4.heap.size w14.heap.size vx [raN,pcN] W15 (HE.out W15 HA15.out).1.1 (nQ hg') (by decide) (by decide) vS.1 (HE.out W15 HA15.out).1.2.2)
 have HW15:=Lh hW15
 clear hb' hg' hW15
 obtain ⟨-,⟨d0,d1,d2,d3,d4,d5⟩,-⟩:=HE.out w14 HB14.out
 go_wp2_with fail
 rw [← HW15.out]
 refine HM.out.mono ?_
 clear HM HW15 d0 d1 d2 d3 d4 d5
 rintro e w16 ⟨rfl,hb'⟩
 have HB16:=Lh (HA15.out.trans (hb'.mono HA15.out.size))
 have HF16:=Lh (HC15.out.trans (hb'.mono HC15.out.size))
 clear hb'
 obtain ⟨W17,hW17⟩:∃W17,W17=w16.alloc (.cells #[.string ⟨#[98]⟩] 9):=⟨_,rfl⟩
 have hb':Below w16.heap.size w16 W17:=by rw [hW17];exact (Below.refl _ _).alloc lz _
 have hg':W17.heap[w16.heap.size]?=some (.cells #[.string ⟨#[98]⟩] 9 (0,0)):=by rw [hW17];exact heap_alloc_new w16 _
 have HA17:=Lh (HB16.out.trans (hb'.mono HB16.out.size))
 have HC17:=Lh (HF16.out.trans (hb'.mono HF16.out.size))
 have HM:=Lh (co W4.heap.size w16.heap.size pzN [bbN] W17 (HE.out W17 HA17.out).1.1 (gf hg') (by decide) (by decide) vS.2.1 (HE.out W17 HA17.out).1.2.2)
 have HW17:=Lh hW17
 clear hb' hg' hW17
 obtain ⟨-,⟨d0,d1,d2,d3,d4,d5⟩,-⟩:=HE.out w16 HB16.out
 go_wp2_with fail
 rw [← HW17.out]
 refine HM.out.mono ?_
 clear HM HW17 d0 d1 d2 d3 d4 d5
 rintro e w18 ⟨rfl,hb'⟩
 have HB18:=Lh (HA17.out.trans (hb'.mono HA17.out.size))
 have HF18:=Lh (HC17.out.trans (hb'.mono HC17.out.size))
 clear hb'
 obtain ⟨W19,hW19⟩:∃W19,W19=w18.alloc (.cells #[.string ⟨#[99]⟩] 9):=⟨_,rfl⟩
 have hb':Below w18.heap.size w18 W19:=by rw [hW19];exact (Below.refl _ _).alloc lz _
 have hg':W19.heap[w18.heap.size]?=some (.cells #[.string ⟨#[99]⟩] 9 (0,0)):=by rw [hW19];exact heap_alloc_new w18 _
 have HA19:=Lh (HB18.out.trans (hb'.mono HB18.out.size))
 have HC19:=Lh (HF18.out.trans (hb'.mono HF18.out.size))
 have HM:=Lh (aT W6.heap.size w18.heap.size vx [pcN] W19 (HE.out W19 HA19.out).1.2.1 (gf hg') (by decide) (by decide) vS.2.2.1 (HE.out W19 HA19.out).1.2.2)
 have HW19:=Lh hW19
 clear hb' hg' hW19
 obtain ⟨-,-,d0,d1,d2,d3,d4,d5⟩:=HE.out w18 HB18.out
 go_wp2_with fail
 rw [← HW19.out]
 refine HM.out.mono ?_
 clear HM HW19 d0 d1 d2 d3 d4 d5
 rintro e w20 ⟨rfl,hb'⟩
 have HB20:=Lh (HA19.out.trans (hb'.mono HA19.out.size))
 have HF20:=Lh (HC19.out.trans (hb'.mono HC19.out.size))
 clear hb'
 have HSM:=Lh (ot ka ra ba kc rc bc W4.heap.size w20 (HF.out w20 HF20.out).1.1 (HE.out w20 HB20.out).1.1)
 obtain ⟨-,⟨d0,d1,d2,d3,d4,d5⟩,-⟩:=HE.out w20 HB20.out
 obtain ⟨-,⟨o0,o1,o2,o3,o4,o5⟩,-⟩:=HF.out w20 HF20.out
 go_wp2_with fail
 refine HSM.out.mono ?_
 clear HSM d0 d1 d2 d3 d4 d5 o0 o1 o2 o3 o4 o5
 rintro e w21 ⟨rfl,hb'⟩
 have HB21:=Lh (HB20.out.trans (hb'.mono HB20.out.size))
 have HF21:=Lh (HF20.out.trans (hb'.mono HF20.out.size))
 clear hb'
 obtain ⟨W22,hW22⟩:∃W22,W22=w21.alloc (.cells #[.string S] 9):=⟨_,rfl⟩
 have hb':Below w21.heap.size w21 W22:=by rw [hW22];exact (Below.refl _ _).alloc lz _
 have hg':W22.heap[w21.heap.size]?=some (.cells #[.string S] 9 (0,0)):=by rw [hW22];exact heap_alloc_new w21 _
 have HA22:=Lh (HB21.out.trans (hb'.mono HB21.out.size))
 have HC22:=Lh (HF21.out.trans (hb'.mono HF21.out.size))
 have HM:=Lh (aI g w21.heap.size W22 (HF.out W22 HC22.out).1.2 (by rw [← HS.out];exact gf hg') (HE.out W22 HA22.out).1.2.2)
 have HW22:=Lh hW22
 clear hb' hg' hW22
 obtain ⟨-,-,d0,d1,d2,d3,d4,d5⟩:=HF.out w21 HF21.out
 go_wp2_with fail
 rw [← HW22.out]
 refine HM.out.mono ?_
 clear HM HW22 d0 d1 d2 d3 d4 d5
 rintro e w23 ⟨rfl,hb'⟩
 have HB23:=Lh (HA22.out.trans (hb'.mono HA22.out.size))
 have HF23:=Lh (HC22.out.trans (hb'.mono HC22.out.size))
 clear hb'
 go_wp2
 go_ret
 exact ⟨rfl,HBW.out.trans (HB23.out.mono HBW.out.size)⟩
end Go.Proofs.YthgembbgcbaghaaGreatDoor
