/- The contract of legatelaw20.DelegMore. Printed by gendelegmore.py. -/
import Derived.Test.YthgembbgcbaghaaGreatDoorDm39
import Derived.Test.YthgembbgcbaghaaGreatDoorDm26

namespace Go.Proofs.YthgembbgcbaghaaGreatDoor
open Go.RowKit Go.Shelf Go.Sort
set_option maxHeartbeats 8000000 in
set_option maxRecDepth 100000 in
theorem sA (w:World) (hT:Tabs w):Calls Tryz.prog 14 #[] w fun e w'=>e=.returned (.bool true)∧Below w.heap.size w w':=by
 have HT:=Lh (show ∀w':World,Below w.heap.size w w'→Tabs w' from fun w' h=>hT.below h)
 clear hT
 have HR1:=Lh (yX raN sZ false w)
 go_enter Tryz.func14,Tryz.ntmps14
 go_wp2_with fail
 refine HR1.out.mono ?_
 clear HR1
 rintro e w1 ⟨a1,p1,rfl,hs1,hp1,hb1⟩
 have HN1:=Lh (show RoleIn w1 a1 p1 sZ from ⟨hs1.carry (Nat.zero_le _) lz (fun _ _ _=>rfl),hp1.carry (Nat.zero_le _) lz (fun _ _ _=>rfl)⟩)
 have HB1:=Lh hb1
 clear hs1 hp1 hb1
 have HR2:=Lh (yX bbN rK true w1)
 go_wp2_with fail
 refine HR2.out.mono ?_
 clear HR2
 rintro e w2 ⟨a2,p2,rfl,hs1,hp1,hb1⟩
 have HN2:=Lh (show RoleIn w2 a2 p2 rK from ⟨hs1.carry (Nat.zero_le _) lz (fun _ _ _=>rfl),hp1.carry (Nat.zero_le _) lz (fun _ _ _=>rfl)⟩)
 replace HN1:=Lh (HN1.out.below hb1)
 have HB2:=Lh (HB1.out.trans (hb1.mono HB1.out.size))
 clear hs1 hp1 hb1
 have HR3:=Lh (yX pcN kG false w2)
 go_wp2_with fail
 refine HR3.out.mono ?_
 clear HR3
 rintro e w3 ⟨a3,p3,rfl,hs1,hp1,hb1⟩
 have HN3:=Lh (show RoleIn w3 a3 p3 kG from ⟨hs1.carry (Nat.zero_le _) lz (fun _ _ _=>rfl),hp1.carry (Nat.zero_le _) lz (fun _ _ _=>rfl)⟩)
 replace HN1:=Lh (HN1.out.below hb1)
 replace HN2:=Lh (HN2.out.below hb1)
 have HB3:=Lh (HB2.out.trans (hb1.mono HB2.out.size))
 clear hs1 hp1 hb1
 have hz3:((w3.alloc (.cells #[.string raN,.int .i64 1,.slice (some ⟨a1,0,none⟩) 1 1,.bool false,.slice (some ⟨p1,0,none⟩) 1 1,.slice none 0 0] 41)).alloc (.cells #[.string bbN,.int .i64 1,.slice (some ⟨a2,0,none⟩) 1 1,.bool true,.slice (some ⟨p2,0,none⟩) 1 1,.slice none 0 0] 41)).heap.size=w3.heap.size+1+1:=by simp
 obtain ⟨W4,hW4⟩:∃W4,W4=((w3.alloc (.cells #[.string raN,.int .i64 1,.slice (some ⟨a1,0,none⟩) 1 1,.bool false,.slice (some ⟨p1,0,none⟩) 1 1,.slice none 0 0] 41)).alloc (.cells #[.string bbN,.int .i64 1,.slice (some ⟨a2,0,none⟩) 1 1,.bool true,.slice (some ⟨p2,0,none⟩) 1 1,.slice none 0 0] 41)).alloc (.cells #[.string pcN,.int .i64 1,.slice (some ⟨a3,0,none⟩) 1 1,.bool false,.slice (some ⟨p3,0,none⟩) 1 1,.slice none 0 0] 41):=⟨_,rfl⟩
 have h1:W4.heap[w3.heap.size]?=some (.cells #[.string raN,.int .i64 1,.slice (some ⟨a1,0,none⟩) 1 1,.bool false,.slice (some ⟨p1,0,none⟩) 1 1,.slice none 0 0] 41 (0,0)):=by rw [hW4,Below.heap_alloc _ _ _ (by rw [hz3];omega)];exact zp w3 _ _
 have h2:W4.heap[w3.heap.size+1]?=some (.cells #[.string bbN,.int .i64 1,.slice (some ⟨a2,0,none⟩) 1 1,.bool true,.slice (some ⟨p2,0,none⟩) 1 1,.slice none 0 0] 41 (0,0)):=by rw [hW4,Below.heap_alloc _ _ _ (by rw [hz3];omega)];exact xI w3 _ _
 have h3:W4.rowIs (w3.heap.size+1+1) 41 6 (qt (.string pcN) (.int .i64 1) (.slice (some ⟨a3,0,none⟩) 1 1) (.bool false) (.slice (some ⟨p3,0,none⟩) 1 1) (.slice none 0 0)):=by
  have:=zU ((w3.alloc (.cells #[.string raN,.int .i64 1,.slice (some ⟨a1,0,none⟩) 1 1,.bool false,.slice (some ⟨p1,0,none⟩) 1 1,.slice none 0 0] 41)).alloc (.cells #[.string bbN,.int .i64 1,.slice (some ⟨a2,0,none⟩) 1 1,.bool true,.slice (some ⟨p2,0,none⟩) 1 1,.slice none 0 0] 41)) (.string pcN) (.int .i64 1) (.slice (some ⟨a3,0,none⟩) 1 1) (.bool false) (.slice (some ⟨p3,0,none⟩) 1 1) (.slice none 0 0) 41
  rw [hz3,← hW4] at this
  exact this
 have HZ4:=Lh (show W4.heap.size=w3.heap.size+3 from by rw [hW4];simp)
 have HB4:=Lh (show Below w3.heap.size w3 W4 from by rw [hW4];exact (((Below.refl _ _).alloc lz _).alloc (by simp) _).alloc (by rw [hz3];omega) _)
 have HW4:=Lh hW4
 go_upto_region 2 with fail
 rw [← HW4.out]
 clear HW4 hW4 hz3
 have x0:=qq h1 (j:=0) rfl;have x1:=qq h1 (j:=1) rfl;have x2:=qq h1 (j:=2) rfl;have x3:=qq h1 (j:=3) rfl;have x4:=qq h1 (j:=4) rfl;have x5:=qq h1 (j:=5) rfl
 have y0:=qq h2 (j:=0) rfl;have y1:=qq h2 (j:=1) rfl;have y2:=qq h2 (j:=2) rfl;have y3:=qq h2 (j:=3) rfl;have y4:=qq h2 (j:=4) rfl;have y5:=qq h2 (j:=5) rfl
 obtain ⟨z0,z1,z2,z3,z4⟩:=rc5 h3;have z5:=h3.cell (i:=5) (by decide)
 simp only [qt] at z0 z1 z2 z3 z4 z5
 have H1:=Lh h1
 have H2:=Lh h2
 have H3:=Lh h3
 obtain ⟨W5,hW5⟩:∃W5,W5=(W4.alloc (.cells #[.string raN,.int .i64 1,.slice (some ⟨a1,0,none⟩) 1 1,.bool false,.slice (some ⟨p1,0,none⟩) 1 1,.slice none 0 0,.string bbN,.int .i64 1,.slice (some ⟨a2,0,none⟩) 1 1,.bool true,.slice (some ⟨p2,0,none⟩) 1 1,.slice none 0 0,.string pcN,.int .i64 1,.slice (some ⟨a3,0,none⟩) 1 1,.bool false,.slice (some ⟨p3,0,none⟩) 1 1,.slice none 0 0] 41)).alloc (.cells #[.slice none 0 0,.slice (some ⟨W4.heap.size,0,none⟩) 3 3,.int .i64 0,.slice none 0 0,.int .i64 0,.string ⟨#[]⟩] 35):=⟨_,rfl⟩
 have HB5:=Lh (show Below W4.heap.size W4 W5 from by rw [hW5];exact ((Below.refl _ _).alloc lz _).alloc (by simp) _)
 have HQ5:=Lh (show W5.heap[W4.heap.size]?=some (.cells #[.string raN,.int .i64 1,.slice (some ⟨a1,0,none⟩) 1 1,.bool false,.slice (some ⟨p1,0,none⟩) 1 1,.slice none 0 0,.string bbN,.int .i64 1,.slice (some ⟨a2,0,none⟩) 1 1,.bool true,.slice (some ⟨p2,0,none⟩) 1 1,.slice none 0 0,.string pcN,.int .i64 1,.slice (some ⟨a3,0,none⟩) 1 1,.bool false,.slice (some ⟨p3,0,none⟩) 1 1,.slice none 0 0] 41 (0,0)) from by rw [hW5];exact zp W4 _ _)
 have HD5:=Lh (show W5.heap[W4.heap.size+1]?=some (.cells #[.slice none 0 0,.slice (some ⟨W4.heap.size,0,none⟩) 3 3,.int .i64 0,.slice none 0 0,.int .i64 0,.string ⟨#[]⟩] 35 (0,0)) from by rw [hW5];exact xI W4 _ _)
 have HZ5:=Lh (show W5.heap.size=W4.heap.size+2 from by rw [hW5];simp)
 have HW5:=Lh hW5
 clear h1 h2 h3 hW5
 go_upto_region 3 with fail
 rw [← HW5.out]
 clear HW5 x0 x1 x2 x3 x4 x5 y0 y1 y2 y3 y4 y5 z0 z1 z2 z3 z4 z5
 have hr5:=qj HB5.out H3.out H3.out.lt
 obtain ⟨z0,z1,z2,z3,z4⟩:=rc5 hr5;have z5:=hr5.cell (i:=5) (by decide)
 have f3:=hr5.frozen 3
 simp only [qt] at z0 z1 z2 z3 z4 z5
 obtain ⟨W6,hW6⟩:∃W6,W6=W5.setCell ⟨w3.heap.size+1+1,3,none⟩ (.bool true):=⟨_,rfl⟩
 have hr6:W6.rowIs (w3.heap.size+1+1) 41 6 (qt (.string pcN) (.int .i64 1) (.slice (some ⟨a3,0,none⟩) 1 1) (.bool true) (.slice (some ⟨p3,0,none⟩) 1 1) (.slice none 0 0)):=by
  rw [hW6]
  refine (hr5.set 3 _).congr fun j hj=>?_
  rcases j with _|_|_|_|_|_|j <;> first|rfl|omega
 have hs6:∀k,k≠w3.heap.size+1+1→W6.heap[k]?=W5.heap[k]?:=fun k hk=>by rw [hW6];exact Below.heap_setCell _ _ _ _ hk
 have HZ6:=Lh (show W6.heap.size=W5.heap.size from by rw [hW6];simp [World.setCell])
 have HB6:=Lh (show Below w3.heap.size w3 W6 from by rw [hW6];exact (HB4.out.trans (HB5.out.mono HB4.out.size)).setCell (by show w3.heap.size≤w3.heap.size+1+1;omega) _)
 have H16:=Lh ((hs6 w3.heap.size (by omega)).trans ((HB5.out.block _ (qk H1.out)).trans H1.out))
 have HQ6:=Lh ((hs6 W4.heap.size (by have:=HZ4.out;omega)).trans HQ5.out)
 have HD6:=Lh ((hs6 (W4.heap.size+1) (by have:=HZ4.out;omega)).trans HD5.out)
 have H36:=Lh hr6
 have HW6:=Lh hW6
 clear hr5 hr6 hs6 hW6
 go_upto_region 4 with fail
 rw [← HW6.out]
 clear HW6 z0 z1 z2 z3 z4 z5 f3 H1 H2 H3 HQ5 HD5
 have h1:=H16.out
 have h3:=H36.out
 have x0:=qq h1 (j:=0) rfl;have x1:=qq h1 (j:=1) rfl;have x2:=qq h1 (j:=2) rfl;have x3:=qq h1 (j:=3) rfl;have x4:=qq h1 (j:=4) rfl;have x5:=qq h1 (j:=5) rfl
 obtain ⟨z0,z1,z2,z3,z4⟩:=rc5 h3;have z5:=h3.cell (i:=5) (by decide)
 simp only [qt] at z0 z1 z2 z3 z4 z5
 obtain ⟨W7,hW7⟩:∃W7,W7=(W6.alloc (.cells #[.string pcN,.int .i64 1,.slice (some ⟨a3,0,none⟩) 1 1,.bool true,.slice (some ⟨p3,0,none⟩) 1 1,.slice none 0 0,.string raN,.int .i64 1,.slice (some ⟨a1,0,none⟩) 1 1,.bool false,.slice (some ⟨p1,0,none⟩) 1 1,.slice none 0 0] 41)).alloc (.cells #[.slice none 0 0,.slice (some ⟨W6.heap.size,0,none⟩) 2 2,.int .i64 0,.slice none 0 0,.int .i64 0,.string ⟨#[]⟩] 35):=⟨_,rfl⟩
 have hb7:Below W6.heap.size W6 W7:=by rw [hW7];exact ((Below.refl _ _).alloc lz _).alloc (by simp) _
 have hq7:W7.heap[W6.heap.size]?=some (.cells #[.string pcN,.int .i64 1,.slice (some ⟨a3,0,none⟩) 1 1,.bool true,.slice (some ⟨p3,0,none⟩) 1 1,.slice none 0 0,.string raN,.int .i64 1,.slice (some ⟨a1,0,none⟩) 1 1,.bool false,.slice (some ⟨p1,0,none⟩) 1 1,.slice none 0 0] 41 (0,0)):=by rw [hW7];exact zp W6 _ _
 have he7:W7.heap[W6.heap.size+1]?=some (.cells #[.slice none 0 0,.slice (some ⟨W6.heap.size,0,none⟩) 2 2,.int .i64 0,.slice none 0 0,.int .i64 0,.string ⟨#[]⟩] 35 (0,0)):=by rw [hW7];exact xI W6 _ _
 have hd7:=(hb7.block _ (qk HD6.out)).trans HD6.out
 have hqq:=(hb7.block _ (qk HQ6.out)).trans HQ6.out
 have HB7:=Lh (HB6.out.trans (hb7.mono HB6.out.size))
 have HE:=Lh (show ∀w':World,Below W7.heap.size W7 w'→(DelegsIn w' 0 w'.heap.size exD none (some ⟨W4.heap.size,0,none⟩) none∧DelegsIn w' 0 w'.heap.size exE none (some ⟨W6.heap.size,0,none⟩) none∧Tabs w')∧(w'.cell? ⟨W4.heap.size+1,0,none⟩=some (.slice none 0 0)∧w'.cell? ⟨W4.heap.size+1,1,none⟩=some (.slice (some ⟨W4.heap.size,0,none⟩) 3 3)∧w'.cell? ⟨W4.heap.size+1,2,none⟩=some (.int .i64 0)∧w'.cell? ⟨W4.heap.size+1,3,none⟩=some (.slice none 0 0)∧w'.cell? ⟨W4.heap.size+1,4,none⟩=some (.int .i64 0)∧w'.cell? ⟨W4.heap.size+1,5,none⟩=some (.string ⟨#[]⟩))∧(w'.cell? ⟨W6.heap.size+1,0,none⟩=some (.slice none 0 0)∧w'.cell? ⟨W6.heap.size+1,1,none⟩=some (.slice (some ⟨W6.heap.size,0,none⟩) 2 2)∧w'.cell? ⟨W6.heap.size+1,2,none⟩=some (.int .i64 0)∧w'.cell? ⟨W6.heap.size+1,3,none⟩=some (.slice none 0 0)∧w'.cell? ⟨W6.heap.size+1,4,none⟩=some (.int .i64 0)∧w'.cell? ⟨W6.heap.size+1,5,none⟩=some (.string ⟨#[]⟩)) from fun w' h=>by
  have hb':=HB7.out.trans (h.mono HB7.out.size)
  have r1:=HN1.out.below hb'
  have r2:=HN2.out.below hb'
  have r3:=HN3.out.below hb'
  have k1:=(h.block _ (qk hqq)).trans hqq
  have k2:=(h.block _ (qk hq7)).trans hq7
  have k3:=(h.block _ (qk hd7)).trans hd7
  have k4:=(h.block _ (qk he7)).trans he7
  exact ⟨⟨⟨.inl rfl,lH k1 r1 r2 r3,.inl rfl⟩,⟨.inl rfl,lF k2 r3 r1,.inl rfl⟩,HT.out w' (HB3.out.trans (hb'.mono HB3.out.size))⟩,⟨qq k3 rfl,qq k3 rfl,qq k3 rfl,qq k3 rfl,qq k3 rfl,qq k3 rfl⟩,⟨qq k4 rfl,qq k4 rfl,qq k4 rfl,qq k4 rfl,qq k4 rfl,qq k4 rfl⟩⟩)
 have HW7:=Lh hW7
 have HBW:=Lh (HB3.out.trans (HB7.out.mono HB3.out.size))
 have HPOS:=Lh (show 0<W7.heap.size from Nat.lt_of_le_of_lt (Nat.zero_le _) (qk he7))
 clear h1 h3 hW7 hb7 hq7 he7 hd7 hqq
 go_upto_region 5 with fail
 rw [← HW7.out]
 clear HW7 x0 x1 x2 x3 x4 x5 z0 z1 z2 z3 z4 z5 H16 H36 HQ6 HD6 HB4 HB5 HB6 HN1 HN2 HN3
 obtain ⟨⟨i1,i2,i3⟩,⟨d0,d1,d2,d3,d4,d5⟩,-⟩:=HE.out W7 (Below.refl _ _)
 have HV:=Lh (sS W4.heap.size W7 i1 i3)
 clear i1 i2 i3
 go_wp2_with fail
 refine HV.out.mono ?_
 clear HV d0 d1 d2 d3 d4 d5
 rintro e w8 ⟨an,cn,ai,ci,rfl,hr8,hb8⟩
 obtain ⟨W9,hW9⟩:∃W9,W9=w8.alloc (.cells #[.int .u8 5,.int .i64 0,.string ⟨#[]⟩,.slice an 2 cn,.slice ai 2 ci] 25):=⟨_,rfl⟩
 have hb9:Below w8.heap.size w8 W9:=by rw [hW9];exact (Below.refl _ _).alloc lz _
 have hx9:W9.heap[w8.heap.size]?=some (.cells #[.int .u8 5,.int .i64 0,.string ⟨#[]⟩,.slice an 2 cn,.slice ai 2 ci] 25 (0,0)):=by rw [hW9];exact heap_alloc_new w8 _
 have HB9:=Lh (hb8.trans (hb9.mono hb8.size))
 have HOF:=Lh (tA _ W9 W7.heap.size HPOS.out (hr8.below hb9 lz lz hb9.size) (HE.out W9 HB9.out).1.2.2)
 obtain ⟨v0,v1,v2,v3,v4⟩:=bx5 hx9
 have HW9:=Lh hW9
 clear hb8 hr8 hb9 hx9 hW9
 go_upto_region 6 with fail
 rw [← HW9.out]
 clear HW9
 go_wp2_with fail
 refine HOF.out.mono ?_
 clear HOF v0 v1 v2 v3 v4
 rintro e w10 ⟨ka,kc,ra,rc,ba,bc,rfl,hi10,hb10⟩
 obtain ⟨W11,hW11⟩:∃W11,W11=w10.alloc (.cells #[.slice ka 0 kc,.slice ra 3 rc,.int .i64 0,.slice ba 0 bc,.int .i64 0,.string ⟨#[]⟩] 35):=⟨_,rfl⟩
 have hb11:Below w10.heap.size w10 W11:=by rw [hW11];exact (Below.refl _ _).alloc lz _
 have HX11:=Lh (show W11.heap[w10.heap.size]?=some (.cells #[.slice ka 0 kc,.slice ra 3 rc,.int .i64 0,.slice ba 0 bc,.int .i64 0,.string ⟨#[]⟩] 35 (0,0)) from by rw [hW11];exact heap_alloc_new w10 _)
 have HI11:=Lh (show sN W11 ka ra ba from hi10.below hb11 lz lz hb11.size)
 have HB11:=Lh (HB9.out.trans ((hb10.trans (hb11.mono hb10.size)).mono HB9.out.size))
 have HW11:=Lh hW11
 have HWH:=Lh (uJ W11)
 clear hi10 hb10 hb11 hW11
 go_upto_region 7 with fail
 rw [← HW11.out]
 clear HW11
 go_wp2_with fail
 refine HWH.out.mono ?_
 clear HWH
 rintro e w12 ⟨g,rfl,hs12,hb12⟩
 obtain ⟨W13,hW13⟩:∃W13,W13=w12.alloc (.cells #[.slice none 0 0,.slice none 0 0,.int .i64 1,.slice (some ⟨g,0,none⟩) 1 1,.int .i64 2,.string ⟨#[112]⟩] 35):=⟨_,rfl⟩
 have hb13:Below w12.heap.size w12 W13:=by rw [hW13];exact (Below.refl _ _).alloc lz _
 have hb113:Below W11.heap.size W11 W13:=hb12.trans (hb13.mono hb12.size)
 have hx13:W13.heap[w12.heap.size]?=some (.cells #[.slice none 0 0,.slice none 0 0,.int .i64 1,.slice (some ⟨g,0,none⟩) 1 1,.int .i64 2,.string ⟨#[112]⟩] 35 (0,0)):=by rw [hW13];exact heap_alloc_new w12 _
 have HB13:=Lh (HB11.out.trans (hb113.mono HB11.out.size))
 have HF:=Lh (show ∀w':World,Below W13.heap.size W13 w'→(sN w' ka ra ba∧qy w' 0 w'.heap.size (some ⟨g,0,none⟩) [yr 97])∧(w'.cell? ⟨w10.heap.size,0,none⟩=some (.slice ka 0 kc)∧w'.cell? ⟨w10.heap.size,1,none⟩=some (.slice ra 3 rc)∧w'.cell? ⟨w10.heap.size,2,none⟩=some (.int .i64 0)∧w'.cell? ⟨w10.heap.size,3,none⟩=some (.slice ba 0 bc)∧w'.cell? ⟨w10.heap.size,4,none⟩=some (.int .i64 0)∧w'.cell? ⟨w10.heap.size,5,none⟩=some (.string ⟨#[]⟩))∧(w'.cell? ⟨w12.heap.size,0,none⟩=some (.slice none 0 0)∧w'.cell? ⟨w12.heap.size,1,none⟩=some (.slice none 0 0)∧w'.cell? ⟨w12.heap.size,2,none⟩=some (.int .i64 1)∧w'.cell? ⟨w12.heap.size,3,none⟩=some (.slice (some ⟨g,0,none⟩) 1 1)∧w'.cell? ⟨w12.heap.size,4,none⟩=some (.int .i64 2)∧w'.cell? ⟨w12.heap.size,5,none⟩=some (.string ⟨#[112]⟩)) from fun w' h=>by
  have hb':=hb113.trans (h.mono hb113.size)
  have k1:=(hb'.block _ (qk HX11.out)).trans HX11.out
  have k2:=(h.block _ (qk hx13)).trans hx13
  exact ⟨⟨HI11.out.below hb' lz lz hb'.size,(hs12.carry (Nat.zero_le _) lz (fun _ _ _=>rfl)).below (hb13.trans (h.mono hb13.size)) lz lz (Nat.le_trans hb13.size h.size)⟩,⟨qq k1 rfl,qq k1 rfl,qq k1 rfl,qq k1 rfl,qq k1 rfl,qq k1 rfl⟩,⟨qq k2 rfl,qq k2 rfl,qq k2 rfl,qq k2 rfl,qq k2 rfl,qq k2 rfl⟩⟩)
 have HBI:=Lh (tq g W13 (HE.out W13 HB13.out).1.2.2)
 have HW13:=Lh hW13
 clear hs12 hb12 hW13 hb13 hb113 hx13
 go_upto_region 8 with fail
 rw [← HW13.out]
 clear HW13
 obtain ⟨-,-,b0,b1,b2,b3,b4,b5⟩:=HF.out W13 (Below.refl _ _)
 go_wp2_with fail
 refine HBI.out.mono ?_
 clear HBI b0 b1 b2 b3 b4 b5
 rintro e w14 ⟨rfl,hb14⟩
 obtain ⟨S,hS⟩:∃S,S=binS:=⟨_,rfl⟩
 rw [← hS]
 have HS:=Lh hS
 have HF14:=Lh hb14
 have HB14:=Lh (HB13.out.trans (hb14.mono HB13.out.size))
 clear hb14 hS
 go_upto_region 9 with fail
 obtain ⟨W15,hW15⟩:∃W15,W15=w14.alloc (.cells #[.string ⟨#[97]⟩,.string ⟨#[99]⟩] 9):=⟨_,rfl⟩
 have hb':Below w14.heap.size w14 W15:=by rw [hW15];exact (Below.refl _ _).alloc lz _
 have hg':W15.heap[w14.heap.size]?=some (.cells #[.string ⟨#[97]⟩,.string ⟨#[99]⟩] 9 (0,0)):=by rw [hW15];exact heap_alloc_new w14 _
 have HA15:=Lh (HB14.out.trans (hb'.mono HB14.out.size))
 have HC15:=Lh (HF14.out.trans (hb'.mono HF14.out.size))
 have HM:=Lh (u7 W4.heap.size w14.heap.size kG [raN,pcN] W15 (HE.out W15 HA15.out).1.1 (lU hg') (by decide) (by decide) vr.1 (HE.out W15 HA15.out).1.2.2)
 have HW15:=Lh hW15
 clear hb' hg' hW15
 obtain ⟨-,⟨d0,d1,d2,d3,d4,d5⟩,-⟩:=HE.out w14 HB14.out
 go_wp2_with fail
 rw [← HW15.out]
 refine HM.out.mono ?_
 clear HM HW15 d0 d1 d2 d3 d4 d5
 rintro e w16 ⟨rfl,hb'⟩
 have HB16:=Lh (HA15.out.trans (hb'.mono HA15.out.size))
 have HF16:=Lh (HC15.out.trans (hb'.mono HC15.out.size))
 clear hb'
 obtain ⟨W17,hW17⟩:∃W17,W17=w16.alloc (.cells #[.string ⟨#[98]⟩] 9):=⟨_,rfl⟩
 have hb':Below w16.heap.size w16 W17:=by rw [hW17];exact (Below.refl _ _).alloc lz _
 have hg':W17.heap[w16.heap.size]?=some (.cells #[.string ⟨#[98]⟩] 9 (0,0)):=by rw [hW17];exact heap_alloc_new w16 _
 have HA17:=Lh (HB16.out.trans (hb'.mono HB16.out.size))
 have HC17:=Lh (HF16.out.trans (hb'.mono HF16.out.size))
 have HM:=Lh (u7 W4.heap.size w16.heap.size pzN [bbN] W17 (HE.out W17 HA17.out).1.1 (yW hg') (by decide) (by decide) vr.2.1 (HE.out W17 HA17.out).1.2.2)
 have HW17:=Lh hW17
 clear hb' hg' hW17
 obtain ⟨-,⟨d0,d1,d2,d3,d4,d5⟩,-⟩:=HE.out w16 HB16.out
 go_wp2_with fail
 rw [← HW17.out]
 refine HM.out.mono ?_
 clear HM HW17 d0 d1 d2 d3 d4 d5
 rintro e w18 ⟨rfl,hb'⟩
 have HB18:=Lh (HA17.out.trans (hb'.mono HA17.out.size))
 have HF18:=Lh (HC17.out.trans (hb'.mono HC17.out.size))
 clear hb'
 obtain ⟨W19,hW19⟩:∃W19,W19=w18.alloc (.cells #[.string ⟨#[99]⟩] 9):=⟨_,rfl⟩
 have hb':Below w18.heap.size w18 W19:=by rw [hW19];exact (Below.refl _ _).alloc lz _
 have hg':W19.heap[w18.heap.size]?=some (.cells #[.string ⟨#[99]⟩] 9 (0,0)):=by rw [hW19];exact heap_alloc_new w18 _
 have HA19:=Lh (HB18.out.trans (hb'.mono HB18.out.size))
 have HC19:=Lh (HF18.out.trans (hb'.mono HF18.out.size))
 have HM:=Lh (nP W6.heap.size w18.heap.size kG [pcN] W19 (HE.out W19 HA19.out).1.2.1 (yW hg') (by decide) (by decide) vr.2.2.1 (HE.out W19 HA19.out).1.2.2)
 have HW19:=Lh hW19
 clear hb' hg' hW19
 obtain ⟨-,-,d0,d1,d2,d3,d4,d5⟩:=HE.out w18 HB18.out
 go_wp2_with fail
 rw [← HW19.out]
 refine HM.out.mono ?_
 clear HM HW19 d0 d1 d2 d3 d4 d5
 rintro e w20 ⟨rfl,hb'⟩
 have HB20:=Lh (HA19.out.trans (hb'.mono HA19.out.size))
 have HF20:=Lh (HC19.out.trans (hb'.mono HC19.out.size))
 clear hb'
 have HSM:=Lh (aE ka ra ba kc rc bc W4.heap.size w20 (HF.out w20 HF20.out).1.1 (HE.out w20 HB20.out).1.1)
 obtain ⟨-,⟨d0,d1,d2,d3,d4,d5⟩,-⟩:=HE.out w20 HB20.out
 obtain ⟨-,⟨o0,o1,o2,o3,o4,o5⟩,-⟩:=HF.out w20 HF20.out
 go_wp2_with fail
 refine HSM.out.mono ?_
 clear HSM d0 d1 d2 d3 d4 d5 o0 o1 o2 o3 o4 o5
 rintro e w21 ⟨rfl,hb'⟩
 have HB21:=Lh (HB20.out.trans (hb'.mono HB20.out.size))
 have HF21:=Lh (HF20.out.trans (hb'.mono HF20.out.size))
 clear hb'
 obtain ⟨W22,hW22⟩:∃W22,W22=w21.alloc (.cells #[.string S] 9):=⟨_,rfl⟩
 have hb':Below w21.heap.size w21 W22:=by rw [hW22];exact (Below.refl _ _).alloc lz _
 have hg':W22.heap[w21.heap.size]?=some (.cells #[.string S] 9 (0,0)):=by rw [hW22];exact heap_alloc_new w21 _
 have HA22:=Lh (HB21.out.trans (hb'.mono HB21.out.size))
 have HC22:=Lh (HF21.out.trans (hb'.mono HF21.out.size))
 have HM:=Lh (nF g w21.heap.size W22 (HF.out W22 HC22.out).1.2 (by rw [← HS.out];exact yW hg') (HE.out W22 HA22.out).1.2.2)
 have HW22:=Lh hW22
 clear hb' hg' hW22
 obtain ⟨-,-,d0,d1,d2,d3,d4,d5⟩:=HF.out w21 HF21.out
 go_wp2_with fail
 rw [← HW22.out]
 refine HM.out.mono ?_
 clear HM HW22 d0 d1 d2 d3 d4 d5
 rintro e w23 ⟨rfl,hb'⟩
 have HB23:=Lh (HA22.out.trans (hb'.mono HA22.out.size))
 have HF23:=Lh (HC22.out.trans (hb'.mono HC22.out.size))
 clear hb'
 go_wp2
 go_ret
 exact ⟨rfl,HBW.out.trans (HB23.out.mono HBW.out.size)⟩
theorem wy {d:DelegsV} {path:ByteArray} (h1:qG d=true) (h2:qM path=true) (h3:d.bins.bits=0):zk runes d path=zh runes path d.roles:=by
 unfold zk
 rw [h1,h2,if_pos (by decide)]
 have:zy d.bins=true:=by
  cases hn:zy d.bins with
  | true=>rfl
  | false =>
   rw [zc] at h1
   unfold zo at h1
   rw [hn,if_neg (by decide)] at h1
   simp only [Bool.and_eq_true] at h1
   have:=(xS h1.2.2).1
   omega
 rw [if_pos this]
theorem dk {T:Nat} {S:List StepV} {w w':World} {e:Ending} (h:pt T S w e w'):∃y,e=.returned y∧gm S w' y∧Below w.heap.size w w':=by
 obtain ⟨a,c,qs,rfl,hqs,hown,hb⟩:=h
 have hc:=(ItemsOwn.cells bg hown).2.1
 exact ⟨_,rfl,⟨a,c,rfl,hc,(zA.steps hown hqs).carry (Nat.zero_le _) lz (fun _ _ _=>rfl)⟩,hb⟩
theorem ce {l:List Key2} {rs:List DelegV} {b:BinsV} {x:DelegV} {path:ByteArray} (hm:qG ⟨l,rs,b⟩=true) (hm2:qG ⟨l,rs ++ [x],b⟩=true) (hb:b.bits=0) :
 ∃on:Bool,zk runes ⟨l,rs ++ [x],b⟩ path=zk runes ⟨l,rs,b⟩ path ++ (if isD runes x path && on then [z7 x] else [])∧(zk runes ⟨l,rs,b⟩ path=[]→on=true)∧∀k (h:k<(zk runes ⟨l,rs,b⟩ path).length),k+1=(zk runes ⟨l,rs,b⟩ path).length→on = !((zk runes ⟨l,rs,b⟩ path)[k].term):=by
 cases hp:qM path with
 | false =>
  have e1:zk runes ⟨l,rs,b⟩ path=[]:=vX (by rw [hp];simp)
  have e2:zk runes ⟨l,rs ++ [x],b⟩ path=[]:=vX (by rw [hp];simp)
  have e3:isD runes x path=false:=by rw [nQ,hp];simp
  rw [e1,e2,e3]
  exact ⟨true,rfl,fun _=>rfl,fun k h=>(by simp at h)⟩
 | true =>
  rw [wy hm hp hb,wy hm2 hp hb]
  refine ⟨!((zh runes path rs).any (·.term)),bw runes path x rs,fun h=>?_,fun k h hk=>?_⟩
  · show (!((zh runes path rs).any (·.term)))=true
    rw [show zh runes path rs=[] from h];rfl
  · replace hk:k+1=(zh runes path rs).length:=hk
    rw [wz,List.getLast?_eq_getElem?,show (zh runes path rs).length - 1=k from by omega,List.getElem?_eq_getElem h]
    rfl
theorem wg {path:ByteArray}:∀ {rs:List DelegV} {s:StepV},s ∈ zh runes path rs→∃x ∈ rs,s=z7 x
 | [],s,h=>(by cases h)
 | y :: r,s,h=>by
  rw [zh] at h
  split at h
  · rcases List.mem_cons.1 h with h|h
    · exact ⟨y,List.mem_cons_self ..,h⟩
    · split at h
      · cases h
      · obtain ⟨x,hx,e⟩:=wg h
        exact ⟨x,List.mem_cons_of_mem _ hx,e⟩
  · obtain ⟨x,hx,e⟩:=wg h
    exact ⟨x,List.mem_cons_of_mem _ hx,e⟩
theorem pS {path:ByteArray}:∀ {rs:List DelegV},(zh runes path rs).length≤rs.length
 | []=>Nat.le_refl _
 | y :: r=>by
  rw [zh]
  have:=pS (path:=path) (rs:=r)
  split
  · split
    · simp
    · simp only [List.length_cons];omega
  · simp only [List.length_cons];omega
theorem bH {d:DelegsV} {path:ByteArray} (hf:DelegsFits d) (hm:qG d=true) (hb:d.bins.bits=0):(zk runes d path).length≤70∧∀s ∈ zk runes d path,s.au.ids.length≤4294967296:=by
 cases hp:qM path with
 | false =>
  rw [show zk runes d path=[] from vX (by rw [hp];simp)]
  exact ⟨by simp,fun s hs=>(by cases hs)⟩
 | true =>
  rw [wy hm hp hb]
  refine ⟨Nat.le_trans pS hf.many,fun s hs=>?_⟩
  obtain ⟨x,hx,rfl⟩:=wg hs
  exact (hf.roles x hx).au.2.1
theorem nH {l:List Key2} {rs:List DelegV} {b:BinsV} {x:DelegV} (hf:DelegsFits ⟨l,rs,b⟩) (hx:DelegFits x) (hm:qG ⟨l,rs,b⟩=true) (hb:b.bits=0):DelegsFits ⟨l,rs ++ [x],b⟩:=by
 have h64:rs.length≤64:=by
  rw [zc] at hm
  unfold zo at hm
  cases hn:zy b with
  | true =>
   dsimp only at hm
   rw [hn,if_pos rfl] at hm
   simp only [Bool.and_eq_true,decide_eq_true_eq] at hm
   exact hm.2.1.1
  | false =>
   dsimp only at hm
   rw [hn,if_neg (by decide)] at hm
   simp only [Bool.and_eq_true] at hm
   have:=(xS hm.2.2).1
   omega
 exact ⟨hf.len,hf.keys,by show (rs ++ [x]).length≤70;rw [List.length_append];show rs.length+1≤70;omega,fun y hy=>by
  rcases List.mem_append.1 hy with hy|hy
  · exact hf.roles y hy
  · obtain rfl:y=x:=by simpa using hy
    exact hx,hf.bits,hf.pre,hf.au⟩
set_option maxHeartbeats 4000000 in
set_option maxRecDepth 100000 in
theorem fY (l:List Key2) (rs:List DelegV) (t bits:Int) (ids:List ByteArray) (pre path:ByteArray) (ka ra ba:Option Addr) (kc rc bc:Nat) (nm:ByteArray) (thr:Int) (xid:List ByteArray) (tm:Bool) (ps qs:List ByteArray) (ia pa qa:Option Addr) (ic pc qc:Nat) (w:World) (G:DelegsGot w ⟨l,rs,⟨bits,pre,⟨t,ids⟩⟩⟩ ka ra ba kc rc bc) (X:DelegGot w ⟨nm,⟨thr,xid⟩,tm,ps,qs⟩ ia pa qa ic pc qc) (hT:Tabs w) :
 Calls Tryz.prog 7 #[.agg #[.slice ka l.length kc,.slice ra rs.length rc,.int .i64 t,.slice ba ids.length bc,.int .i64 bits,.string pre],.agg #[.string nm,.int .i64 thr,.slice ia xid.length ic,.bool tm,.slice pa ps.length pc,.slice qa qs.length qc],.string path] w fun e w'=>e=.returned (.bool true)∧Below w.heap.size w w':=by
 obtain ⟨W,hW⟩:∃W,W=(w.alloc (.cells #[.slice ka l.length kc,.slice ra rs.length rc,.int .i64 t,.slice ba ids.length bc,.int .i64 bits,.string pre] 35)).alloc (.cells #[.string nm,.int .i64 thr,.slice ia xid.length ic,.bool tm,.slice pa ps.length pc,.slice qa qs.length qc] 41):=⟨_,rfl⟩
 have hb:Below w.heap.size w W:=by rw [hW];exact ((Below.refl _ _).alloc lz _).alloc (by simp) _
 have hx:W.heap[w.heap.size]?=some (.cells #[.slice ka l.length kc,.slice ra rs.length rc,.int .i64 t,.slice ba ids.length bc,.int .i64 bits,.string pre] 35 (0,0)):=by rw [hW];exact zp w _ _
 have hy:W.heap[w.heap.size+1]?=some (.cells #[.string nm,.int .i64 thr,.slice ia xid.length ic,.bool tm,.slice pa ps.length pc,.slice qa qs.length qc] 41 (0,0)):=by rw [hW];exact xI w _ _
 have HC:=Lh (show ∀w':World,Below W.heap.size W w'→w'.cell? ⟨w.heap.size,0,none⟩=some (.slice ka l.length kc)∧w'.cell? ⟨w.heap.size,1,none⟩=some (.slice ra rs.length rc)∧w'.cell? ⟨w.heap.size,2,none⟩=some (.int .i64 t)∧w'.cell? ⟨w.heap.size,3,none⟩=some (.slice ba ids.length bc)∧w'.cell? ⟨w.heap.size,4,none⟩=some (.int .i64 bits)∧w'.cell? ⟨w.heap.size,5,none⟩=some (.string pre) from fun w' h=>by
  have y:=(h.block _ (qk hx)).trans hx
  exact ⟨qq y rfl,qq y rfl,qq y rfl,qq y rfl,qq y rfl,qq y rfl⟩)
 have HX:=Lh (show ∀w':World,Below W.heap.size W w'→w'.cell? ⟨w.heap.size+1,0,none⟩=some (.string nm)∧w'.cell? ⟨w.heap.size+1,1,none⟩=some (.int .i64 thr)∧w'.cell? ⟨w.heap.size+1,2,none⟩=some (.slice ia xid.length ic)∧w'.cell? ⟨w.heap.size+1,3,none⟩=some (.bool tm)∧w'.cell? ⟨w.heap.size+1,4,none⟩=some (.slice pa ps.length pc)∧w'.cell? ⟨w.heap.size+1,5,none⟩=some (.slice qa qs.length qc) from fun w' h=>by
  have y:=(h.block _ (qk hy)).trans hy
  exact ⟨qq y rfl,qq y rfl,qq y rfl,qq y rfl,qq y rfl,qq y rfl⟩)
 have HI:=Lh (show ∀w':World,Below W.heap.size W w'→DelegsIn w' 0 w'.heap.size ⟨l,rs,⟨bits,pre,⟨t,ids⟩⟩⟩ ka ra ba∧Tabs w'∧DelegIn w' 0 w'.heap.size ⟨nm,⟨thr,xid⟩,tm,ps,qs⟩ ia pa qa from fun w' h=>⟨G.rows.below (hb.trans (h.mono hb.size)) lz lz (Nat.le_trans hb.size h.size),hT.below (hb.trans (h.mono hb.size)),X.rows.below (hb.trans (h.mono hb.size)) lz lz (Nat.le_trans hb.size h.size)⟩)
 have hrc:rs.length≤rc:=G.cr
 have HLO:=Lh (pW l rs t bits ids pre ka ra ba kc rc bc W (HI.out W (Below.refl _ _)).1 G.lk G.lr (fun x hx=>⟨(G.each x hx).2.2.1,(G.each x hx).2.2.2.1,(G.each x hx).2.2.2.2⟩) G.lb)
 have HAW:=Lh (show ∀w':World,Below W.heap.size W w'→_ from fun w' h=>sA w' (HI.out w' h).2.1)
 have HFT:=Lh (show NotLongD ⟨l,rs,⟨bits,pre,⟨t,ids⟩⟩⟩→DelegsFits ⟨l,rs,⟨bits,pre,⟨t,ids⟩⟩⟩ from fun h=>kR h G.bits G.thr (fun x hx=>(G.each x hx).1))
 have HLX:=Lh (show ∀(w':World) (g:Nat),Below W.heap.size W w'→w'.heap[g]?=some (.cells #[.string nm,.int .i64 thr,.slice ia xid.length ic,.bool tm,.slice pa ps.length pc,.slice qa qs.length qc] 41 (0,0))→Calls Tryz.prog 18 #[.agg #[.slice none 0 0,.slice (some ⟨g,0,none⟩) 1 1,.int .i64 0,.slice none 0 0,.int .i64 0,.string ⟨#[]⟩]] w' (bX ⟨[],[⟨nm,⟨thr,xid⟩,tm,ps,qs⟩],xQ⟩ w') from fun w' g h hg=>pW [] [⟨nm,⟨thr,xid⟩,tm,ps,qs⟩] 0 0 [] ⟨#[]⟩ none (some ⟨g,0,none⟩) none 0 1 0 w' ⟨.inl rfl,.inr ⟨g,0,rfl,Nat.zero_le _,qk hg,fun i hi=>by
  match i,hi with
  | 0,_=>exact ⟨ia,ic,pa,pc,qa,qc,qq hg (j:=0) rfl,qq hg (j:=1) rfl,qq hg (j:=2) rfl,qq hg (j:=3) rfl,qq hg (j:=4) rfl,qq hg (j:=5) rfl,X.ci,X.cp,X.cq,(HI.out w' h).2.2⟩⟩,.inl rfl⟩ (by decide) (by show 1≤9223372036854775807;decide) (fun x hx=>by
  obtain rfl:x=⟨nm,⟨thr,xid⟩,tm,ps,qs⟩:=by simpa using hx
  exact ⟨X.li,X.lp,X.lq⟩) (by decide))
 have HFX:=Lh (show NotLongD ⟨[],[⟨nm,⟨thr,xid⟩,tm,ps,qs⟩],xQ⟩→DelegFits ⟨nm,⟨thr,xid⟩,tm,ps,qs⟩ from fun h=>(kR h (show -9223372036854775808≤(0:Int)∧(0:Int)≤9223372036854775807 from ⟨by decide,by decide⟩) (show -9223372036854775808≤(0:Int)∧(0:Int)≤9223372036854775807 from ⟨by decide,by decide⟩) (fun x hx=>by
  obtain rfl:x=⟨nm,⟨thr,xid⟩,tm,ps,qs⟩:=by simpa using hx
  exact X.thr)).roles _ (List.mem_singleton.2 rfl))
 have HXC:=Lh (show xid.length≤ic∧ps.length≤pc∧qs.length≤qc from ⟨X.ci,X.cp,X.cq⟩)
 have HB:=Lh hb
 have HW:=Lh hW
 have HRC:=Lh hrc
 have HZW:=Lh (show w.heap.size+1<W.heap.size from qk hy)
 clear hb hx hy hW G X hT hrc
 obtain ⟨q0,q1,q2,q3,q4,q5⟩:=HC.out W (Below.refl _ _)
 go_enter Tryz.func7,Tryz.ntmps7
 go_upto_region 1 with fail
 rw [← HW.out]
 clear HW
 go_wp2_with fail
 refine HLO.out.mono ?_
 clear HLO q0 q1 q2 q3 q4 q5
 rintro e w1 ⟨b,rfl,hnl,hb1⟩
 have HB1:=Lh hb1
 have HNL:=Lh hnl
 clear hb1 hnl
 cases b with
 | true =>
  go_wp2_with fail
  refine (HAW.out w1 HB1.out).mono ?_
  rintro e wa ⟨rfl,hba⟩
  have HBA:=Lh (HB1.out.trans (hba.mono HB1.out.size))
  clear hba
  go_wp2
  go_ret
  exact ⟨rfl,HB.out.trans (HBA.out.mono HB.out.size)⟩
 | false =>
 have HF:=Lh (HFT.out (HNL.out rfl))
 clear HFT HNL
 obtain ⟨W2,hW2⟩:∃W2,W2=w1.alloc (.cells #[.string nm,.int .i64 thr,.slice ia xid.length ic,.bool tm,.slice pa ps.length pc,.slice qa qs.length qc] 41):=⟨_,rfl⟩
 have hb2:Below w1.heap.size w1 W2:=by rw [hW2];exact (Below.refl _ _).alloc lz _
 have HB2:=Lh (HB1.out.trans (hb2.mono HB1.out.size))
 have HLX2:=Lh (HLX.out W2 w1.heap.size HB2.out (by rw [hW2];exact heap_alloc_new w1 _))
 have HW2:=Lh hW2
 clear hb2 hW2 HLX
 obtain ⟨x0,x1,x2,x3,x4,x5⟩:=HX.out w1 HB1.out
 go_wp2_with fail
 rw [← HW2.out]
 refine HLX2.out.mono ?_
 clear HLX2 HW2 x0 x1 x2 x3 x4 x5
 rintro e w3 ⟨b,rfl,hnl,hb3⟩
 have HB3:=Lh (HB2.out.trans (hb3.mono HB2.out.size))
 have HNL:=Lh hnl
 clear hb3 hnl
 cases b with
 | true =>
  go_wp2_with fail
  refine (HAW.out w3 HB3.out).mono ?_
  rintro e wa ⟨rfl,hba⟩
  have HBA:=Lh (HB3.out.trans (hba.mono HB3.out.size))
  clear hba
  go_wp2
  go_ret
  exact ⟨rfl,HB.out.trans (HBA.out.mono HB.out.size)⟩
 | false =>
 replace HFX:=Lh (HFX.out (HNL.out rfl))
 clear HNL
 by_cases h1000:path.size≤1000
 case neg =>
  have g1:decide (1000<(path.size:Int))=true:=by simp;omega
  go_wp2_with fail
  refine (HAW.out w3 HB3.out).mono ?_
  rintro e wa ⟨rfl,hba⟩
  have HBA:=Lh (HB3.out.trans (hba.mono HB3.out.size))
  clear hba
  go_wp2
  go_ret
  exact ⟨rfl,HB.out.trans (HBA.out.mono HB.out.size)⟩
 have g1:decide (1000<(path.size:Int))=false:=by simp;omega
 obtain ⟨q0,q1,q2,q3,q4,q5⟩:=HC.out w3 HB3.out
 by_cases hbits:bits=0
 case neg =>
  have g2:(bits != 0)=true:=by simpa using hbits
  clear hbits
  go_wp2_with fail
  refine (HAW.out w3 HB3.out).mono ?_
  rintro e wa ⟨rfl,hba⟩
  have HBA:=Lh (HB3.out.trans (hba.mono HB3.out.size))
  clear hba
  go_wp2
  go_ret
  exact ⟨rfl,HB.out.trans (HBA.out.mono HB.out.size)⟩
 have g2:(bits != 0)=false:=by simpa using hbits
 have HBT:=Lh hbits
 have HMY:=Lh (wT l rs t bits ids pre ka ra ba kc rc bc w3 (HI.out w3 HB3.out).1 HF.out HRC.out (HI.out w3 HB3.out).2.1)
 obtain ⟨mb,hmb⟩:∃mb,mb=qG ⟨l,rs,⟨bits,pre,⟨t,ids⟩⟩⟩:=⟨_,rfl⟩
 have HMB:=Lh hmb
 rw [← hmb] at HMY
 clear hbits hmb
 go_wp2_with fail
 refine HMY.out.mono ?_
 clear HMY q0 q1 q2 q3 q4 q5
 rintro e w4 ⟨rfl,hb4⟩
 have HB4:=Lh (HB3.out.trans (hb4.mono HB3.out.size))
 clear hb4
 cases mb with
 | false =>
  go_wp2_with fail
  refine (HAW.out w4 HB4.out).mono ?_
  rintro e wa ⟨rfl,hba⟩
  have HBA:=Lh (HB4.out.trans (hba.mono HB4.out.size))
  clear hba
  go_wp2
  go_ret
  exact ⟨rfl,HB.out.trans (HBA.out.mono HB.out.size)⟩
 | true =>
 go_wp2_with fail
 refine (HAW.out w4 HB4.out).mono ?_
 clear HAW
 rintro e w5 ⟨rfl,hb5⟩
 have HB5:=Lh (HB4.out.trans (hb5.mono HB4.out.size))
 clear hb5
 obtain ⟨q0,q1,q2,q3,q4,q5⟩:=HC.out w5 HB5.out
 obtain ⟨W6,hW6⟩:∃W6,W6=w5.alloc (.cells #[.slice ka l.length kc,.slice ra rs.length rc,.int .i64 t,.slice ba ids.length bc,.int .i64 bits,.string pre] 35):=⟨_,rfl⟩
 have hb6:Below w5.heap.size w5 W6:=by rw [hW6];exact (Below.refl _ _).alloc lz _
 have HB6:=Lh (HB5.out.trans (hb6.mono HB5.out.size))
 have HM6:=Lh (show W6.rowIs w5.heap.size 35 6 (qt (.slice ka l.length kc) (.slice ra rs.length rc) (.int .i64 t) (.slice ba ids.length bc) (.int .i64 bits) (.string pre)) from by rw [hW6];exact zU w5 _ _ _ _ _ _ _)
 have HW6:=Lh hW6
 clear hb6 hW6
 go_upto_region 4 with fail
 rw [← HW6.out]
 clear HW6 q0 q1 q2 q3 q4 q5
 obtain ⟨qC,hqc,hqp,hqn⟩:=mN (HI.out W (Below.refl _ _)).1.roles
 obtain ⟨nn,hnn⟩:∃nn,nn=rs.length:=⟨_,rfl⟩
 replace hqc:qC.map (·.x)=rs:=hqc
 replace hqn:0<rs.length→_:=hqn
 have HNN:=Lh hnn
 have HQC:=Lh hqc
 have HQP:=Lh hqp
 have hql:qC.length=nn:=by rw [hnn,← hqc,List.length_map]
 have HQL:=Lh hql
 have HFL:=Lh (show (qC.flatMap j5).length=nn * 6 from by rw [yd j5 6 k9,hql])
 have HYW:=Lh (show ∀w':World,Below W6.heap.size W6 w'→Below W.heap.size W w' from fun w' h=>HB6.out.trans (h.mono HB6.out.size))
 have HNEW:=Lh (show ∀w':World,Below W6.heap.size W6 w'→0<nn→∃ad,ra=some ad∧∀j u,(qC.flatMap j5)[j]?=some u→w'.cell? (ad.add j)=some u from fun w' h h0=>by
  obtain ⟨ad,e,hc⟩:=hqn (by rw [← hnn];exact h0)
  exact ⟨ad,e,fun j u hj=>((HYW.out w' h).cell (World.block_lt_of_cell? W _ (hc j u hj))).trans (hc j u hj)⟩)
 have HON1:=Lh (show ∀u ∈ qC.flatMap j5,u.oneCell'=true from fun u hu=>by
  obtain ⟨q,-,hq⟩:=List.mem_flatMap.1 hu
  exact rS q u hq)
 have f70:nn≤70:=by rw [hnn];exact HF.out.many
 obtain ⟨H,hH0⟩:∃H,H=W6.heap.size:=⟨_,rfl⟩
 have HH:=Lh hH0
 obtain ⟨i1,hi1,hy0,hy1,hy2⟩:=info_parts pH
 rw [← hnn] at HC
 clear hnn hqc hqp hqn hql hH0
 obtain ⟨V,hV⟩:∃V:List (Option Value),V=[none,some (.pointer (some ⟨w.heap.size,1,none⟩)),some (.slice ra nn rc),none,some (.agg #[.string nm,.int .i64 thr,.slice ia xid.length ic,.bool tm,.slice pa ps.length pc,.slice qa qs.length qc]),none,none]:=⟨_,rfl⟩
 have HV:=Lh hV
 clear hV
 refine qO 7 (fun d a' w'=>∃x41 x42 x43 x44 x45 x46 x47,a'=⟨#[Value.agg #[Value.slice ka l.length kc,Value.slice ra rs.length rc,Value.int IntKind.i64 t,Value.slice ba ids.length bc,Value.int IntKind.i64 bits,Value.string pre],Value.agg #[Value.string nm,Value.int IntKind.i64 thr,Value.slice ia xid.length ic,Value.bool tm,Value.slice pa ps.length pc,Value.slice qa qs.length qc],Value.string path,Value.pointer (some { block:=w.heap.size,off:=0 }),Value.pointer (some { block:=w.heap.size+1,off:=0 }),undef,Value.bool false,Value.pointer (some { block:=w5.heap.size,off:=0 }),undef,undef,undef,Value.agg #[Value.slice ka l.length kc,Value.slice ra rs.length rc,Value.int IntKind.i64 t,Value.slice ba ids.length bc,Value.int IntKind.i64 bits,Value.string pre],Value.bool false,Value.bool false,Value.agg #[Value.string nm,Value.int IntKind.i64 thr,Value.slice ia xid.length ic,Value.bool tm,Value.slice pa ps.length pc,Value.slice qa qs.length qc],Value.slice (some { block:=w1.heap.size,off:=0 }) 1 1,Value.agg #[Value.slice none 0 0,Value.slice (some { block:=w1.heap.size,off:=0 }) 1 1,Value.int IntKind.i64 0,Value.slice none 0 0,Value.int IntKind.i64 0,Value.string ⟨#[]⟩],Value.bool false,Value.bool false,Value.bool false,Value.string path,Value.int IntKind.i64 (path.size:Int),Value.bool false,Value.bool false,Value.bool false,Value.pointer (some { block:=w.heap.size,off:=2 }),Value.pointer (some { block:=w.heap.size,off:=4 }),Value.int IntKind.i64 bits,Value.bool false,Value.bool false,Value.bool false,Value.agg #[Value.slice ka l.length kc,Value.slice ra rs.length rc,Value.int IntKind.i64 t,Value.slice ba ids.length bc,Value.int IntKind.i64 bits,Value.string pre],Value.bool true,Value.bool false,Value.bool false,Value.bool false,Value.bool true,Value.bool false,Value.bool false,undef,Value.agg #[Value.slice ka l.length kc,Value.slice ra rs.length rc,Value.int IntKind.i64 t,Value.slice ba ids.length bc,Value.int IntKind.i64 bits,Value.string pre],x41,x42,x43,x44,x45,x46,x47,undef,undef,undef,undef,undef,undef,undef,undef,undef,undef,undef,undef,undef,undef,undef,undef,undef,undef,undef,undef,undef,undef,undef,undef,undef,undef,undef,undef,undef,undef,undef,undef,undef,undef,undef,undef,undef,undef,undef,undef,undef,undef,undef,undef,undef,undef,undef,undef,undef,undef,undef,undef,undef,undef,undef],[]⟩∧gv W6 V d w' [x41,x42,x43,x44,x45,x46,x47]∧ChnD H 41 (qC.flatMap j5) #[.string nm,.int .i64 thr,.slice ia xid.length ic,.bool tm,.slice pa ps.length pc,.slice qa qs.length qc] nn d w' x41 x44 x46 x47) (by kernel_rfl) (by kernel_rfl) ?first ?step ?last
 case first=>exact ⟨_,_,_,_,_,_,_,rfl,gv.first _ _ _ (by rw [HV.out];rfl),ChnD.first _ _ _ _ _⟩
 case step =>
  rintro d a' w' ⟨x41,x42,x43,x44,x45,x46,x47,rfl,h,hc⟩ q hq hn hw
  have hH:H≤w'.heap.size:=by rw [HH.out];exact h.1.size
  rcases q with _|_|_|_|_|_|_|q
  · refine wpOp_step rfl fun K hK=>?_
    go_simp
    exact hK _ _ ⟨_,x42,x43,x44,x45,x46,x47,rfl,h.did (h.1.alloc h.1.size _) 0 _ none (by rw [HV.out];rfl) (fun v e=>by cases e),hc.s0 hH hn⟩
  · refine wpOp_step rfl fun K hK=>?_
    go_simp
    exact hK _ _ ⟨x41,_,x43,x44,x45,x46,x47,rfl,h.same 1 _ (.pointer (some ⟨w.heap.size,1,none⟩)) (by rw [HV.out];rfl) rfl,hc.same 1 (by decide) (by decide) (by decide) (by decide)⟩
  · obtain rfl:x42=.pointer (some ⟨w.heap.size,1,none⟩):=h.get 1 (hw _ rfl ⟨1,.data⟩ (by simp) rfl) (.pointer (some ⟨w.heap.size,1,none⟩)) (by rw [HV.out];rfl) _ rfl
    obtain ⟨q0,q1,q2,q3,q4,q5⟩:=HC.out w' (HYW.out w' h.1)
    refine wpOp_step rfl fun K hK=>?_
    go_simp
    exact hK _ _ ⟨x41,_,_,x44,x45,x46,x47,rfl,h.same 2 _ (.slice ra nn rc) (by rw [HV.out];rfl) rfl,hc.same 2 (by decide) (by decide) (by decide) (by decide)⟩
  · obtain rfl:x43=.slice ra nn rc:=h.get 2 (hw _ rfl ⟨2,.data⟩ (by simp) rfl) (.slice ra nn rc) (by rw [HV.out];rfl) _ rfl
    have h0:d 0:=(hw _ rfl ⟨0,.data⟩ (by simp) rfl)
    have how:=hc.own0 h0 hn
    refine wpOp_step rfl fun K hK=>?_
    refine gk w' rfl (.tmp 41) (.tmp 43) 29 rfl H 41 i1 _ 6 104 Tryz.underlying29 hi1 hy0 hy1 hy2 rfl (by decide) x41 0 [] rfl how ra nn rc (qC.flatMap j5) rfl HFL.out (HNEW.out w' h.1) HON1.out (by unfold maxLen;omega) (by omega) hH _ rfl ?_
    intro a4 c4 w2 ho hg hat
    exact hK _ _ ⟨x41,x42,_,_,x45,x46,x47,rfl,h.did (below_grown h.1 h.1.size hg fun b hb=>(by rw [← HH.out];exact (how.lt b hb).1)) 3 _ none (by rw [HV.out];rfl) (fun v e=>by cases e),hc.s5 h0 hn ho hg hat⟩
  · obtain ⟨u0,u1,u2,u3,u4,u5⟩:=HX.out w' (HYW.out w' h.1)
    refine wpOp_step rfl fun K hK=>?_
    go_simp
    exact hK _ _ ⟨x41,x42,x43,x44,_,x46,x47,rfl,h.same 4 _ (.agg #[.string nm,.int .i64 thr,.slice ia xid.length ic,.bool tm,.slice pa ps.length pc,.slice qa qs.length qc]) (by rw [HV.out];rfl) rfl,hc.same 4 (by decide) (by decide) (by decide) (by decide)⟩
  · obtain rfl:x45=.agg #[.string nm,.int .i64 thr,.slice ia xid.length ic,.bool tm,.slice pa ps.length pc,.slice qa qs.length qc]:=h.get 4 (hw _ rfl ⟨4,.data⟩ (by simp) rfl) (.agg #[.string nm,.int .i64 thr,.slice ia xid.length ic,.bool tm,.slice pa ps.length pc,.slice qa qs.length qc]) (by rw [HV.out];rfl) _ rfl
    refine wpOp_step rfl fun K hK=>?_
    go_simp
    exact hK _ _ ⟨x41,x42,x43,x44,_,_,x47,rfl,h.did (h.1.alloc h.1.size _) 5 _ none (by rw [HV.out];rfl) (fun v e=>by cases e),hc.s7 hH hn⟩
  · have h5:d 3:=(hw _ rfl ⟨3,.data⟩ (by simp) rfl)
    have h7:d 5:=(hw _ rfl ⟨5,.data⟩ (by simp) rfl)
    have how:=hc.own1 h5 hn
    obtain ⟨b,rfl,hb1,hb2,hb3,hb4⟩:=hc.row h7 hn
    refine wpOp_step rfl fun K hK=>?_
    refine step_append_lies w' rfl (.tmp 44) (.tmp 46) 29 rfl H 41 i1 _ 6 104 Tryz.underlying29 hi1 hy0 hy1 hy2 rfl (by decide) x44 nn (qC.flatMap j5) rfl how ⟨b,0,none⟩ 1 1 (Array.toList #[.string nm,.int .i64 thr,.slice ia xid.length ic,.bool tm,.slice pa ps.length pc,.slice qa qs.length qc]) rfl rfl (World.news_of_block hb2) (by simp [Value.oneCell']) (by decide) (by unfold maxLen;omega) (by omega) hH _ rfl ?_
    intro g4 c4 w2 ho hg hat hlt
    exact hK _ _ ⟨x41,x42,x43,x44,x45,_,_,rfl,h.did (below_grown h.1 h.1.size hg fun b hb=>(by rw [← HH.out];exact (how.lt b hb).1)) 6 _ none (by rw [HV.out];rfl) (fun v e=>by cases e),hc.s8 h5 h7 ho⟩
  · omega
 case last =>
  rintro d a' w' hall ⟨x41,x42,x43,x44,x45,x46,x47,rfl,h,hc⟩
  have hown:=hc.own2 (hall 6 (by omega))
  have hbel:=h.1
  clear h hc hall HV
  obtain ⟨a8,n8,c8,h47⟩:∃a n c,x47=.slice a n c:=by
   rcases hown.2 with ⟨h,_⟩|⟨g,cap,cur,h,_⟩
   · exact ⟨_,_,_,h⟩
   · exact ⟨_,_,_,h⟩
  subst h47
  have HOWN:=Lh hown
  have HBL:=Lh hbel
  have hr:=qj hbel HM6.out HM6.out.lt
  have HR:=Lh hr
  obtain ⟨m0,m1,m2,m3,m4⟩:=rc5 hr;have m5:=hr.cell (i:=5) (by decide)
  have f1:=hr.frozen 1
  simp only [qt] at m0 m1 m2 m3 m4 m5
  simp only [List.drop_succ_cons,List.drop_zero]
  obtain ⟨W8,hW8⟩:∃W8,W8=w'.setCell ⟨w5.heap.size,1,none⟩ (.slice a8 n8 c8):=⟨_,rfl⟩
  have HW8:=Lh hW8
  clear hown hbel hr hW8
  go_upto_region 5 with fail
  rw [← HW8.out]
  clear m0 m1 m2 m3 m4 m5 f1
  have hz5:w5.heap.size<H:=by rw [HH.out];exact HM6.out.lt
  have hput:Touch (fun b=>b=w5.heap.size) w' W8:=by rw [HW8.out];exact qW _
  have HB8:=Lh (show Below W.heap.size W W8 from by rw [HW8.out];exact (HYW.out w' HBL.out).setCell (by exact HB5.out.size) _)
  obtain ⟨qx,hqx⟩:∃qx:DelegC,qx=⟨⟨nm,⟨thr,xid⟩,tm,ps,qs⟩,ia,ic,pa,pc,qa,qc⟩:=⟨_,rfl⟩
  have hown8:W8.ownsRow H 41 6 (.slice a8 n8 c8) (qC ++ [qx]).length ((qC ++ [qx]).flatMap j5):=by
   have:=pf HOWN.out hput (fun k hk e=>by omega)
   rw [List.length_append,List.flatMap_append,HQL.out,hqx]
   simpa [j5] using this
  obtain ⟨a9,c9,hx47,hc8,hrow8⟩:=fh (l:=rs ++ [(⟨nm,⟨thr,xid⟩,tm,ps,qs⟩:DelegV)]) hown8 (by rw [List.map_append,HQC.out,hqx];rfl) (fun q hq=>by
   rcases List.mem_append.1 hq with hq|hq
   · obtain ⟨k1,k2,k3,k4⟩:=HQP.out q hq
     exact ⟨k1,k2,k3,k4.below HB8.out lz lz HB8.out.size⟩
   · obtain rfl:q=qx:=by simpa using hq
     rw [hqx]
     exact ⟨HXC.out.1,HXC.out.2.1,HXC.out.2.2,(HI.out W8 HB8.out).2.2⟩)
  have HR8:=Lh (show W8.rowIs w5.heap.size 35 6 (qt (.slice ka l.length kc) (.slice a8 n8 c8) (.int .i64 t) (.slice ba ids.length bc) (.int .i64 bits) (.string pre)) from by
   rw [HW8.out]
   refine (HR.out.set 1 _).congr fun j hj=>?_
   rcases j with _|_|_|_|_|_|j <;> first|rfl|omega)
  simp only [Value.slice.injEq] at hx47
  obtain ⟨rfl,hn2,rfl⟩:=hx47
  rw [← hn2] at hc8
  have HN2:=Lh hn2
  have HC8:=Lh hc8
  have HROW8:=Lh hrow8
  clear hz5 hput hqx hown8 hc8 hrow8 hn2 HW8 HOWN
  have HFW:=Lh (nH HF.out HFX.out HMB.out.symm HBT.out)
  have HD8:=Lh (show ∀w':World,Below W8.heap.size W8 w'→(w'.cell? ⟨w5.heap.size,0,none⟩=some (.slice ka l.length kc)∧w'.cell? ⟨w5.heap.size,1,none⟩=some (.slice a8 n8 c8)∧w'.cell? ⟨w5.heap.size,2,none⟩=some (.int .i64 t)∧w'.cell? ⟨w5.heap.size,3,none⟩=some (.slice ba ids.length bc)∧w'.cell? ⟨w5.heap.size,4,none⟩=some (.int .i64 bits)∧w'.cell? ⟨w5.heap.size,5,none⟩=some (.string pre))∧DelegsIn w' 0 w'.heap.size ⟨l,rs ++ [(⟨nm,⟨thr,xid⟩,tm,ps,qs⟩:DelegV)],⟨bits,pre,⟨t,ids⟩⟩⟩ ka a8 ba from fun w' h=>by
   have y:=q8 (qj h HR8.out HR8.out.lt)
   exact ⟨⟨qq y rfl,qq y rfl,qq y rfl,qq y rfl,qq y rfl,qq y rfl⟩,(HI.out w' (HB8.out.trans (h.mono HB8.out.size))).1.keys,HROW8.out.below h lz lz h.size,(HI.out w' (HB8.out.trans (h.mono HB8.out.size))).1.bids⟩)
  have hnc:(rs ++ [(⟨nm,⟨thr,xid⟩,tm,ps,qs⟩:DelegV)]).length≤c8:=by rw [← HN2.out];exact HC8.out
  have HNC:=Lh hnc
  have HMM:=Lh (wT l (rs ++ [(⟨nm,⟨thr,xid⟩,tm,ps,qs⟩:DelegV)]) t bits ids pre ka a8 ba kc c8 bc W8 (HD8.out W8 (Below.refl _ _)).2 HFW.out hnc (HI.out W8 HB8.out).2.1)
  rw [← HN2.out] at HMM
  obtain ⟨mb2,hmb2⟩:∃mb2,mb2=qG ⟨l,rs ++ [(⟨nm,⟨thr,xid⟩,tm,ps,qs⟩:DelegV)],⟨bits,pre,⟨t,ids⟩⟩⟩:=⟨_,rfl⟩
  have HMB2:=Lh hmb2
  rw [← hmb2] at HMM
  clear hnc hmb2
  obtain ⟨⟨m0,m1,m2,m3,m4,m5⟩,-⟩:=HD8.out W8 (Below.refl _ _)
  go_wp2_with fail
  refine HMM.out.mono ?_
  clear HMM m0 m1 m2 m3 m4 m5
  rintro e w9 ⟨rfl,hb9⟩
  have HE9:=Lh hb9
  have HB9:=Lh (HB8.out.trans (hb9.mono HB8.out.size))
  clear hb9
  cases mb2 with
  | false =>
   go_wp2
   go_ret
   exact ⟨rfl,HB.out.trans (HB9.out.mono HB.out.size)⟩
  | true =>
  go_upto_region 7 with fail
  have HGO1:=Lh (show ∀w':World,Below w9.heap.size w9 w'→Calls Tryz.prog 20 #[.agg #[.slice ka l.length kc,.slice ra nn rc,.int .i64 t,.slice ba ids.length bc,.int .i64 bits,.string pre],.string path] w' (fun e w2=>∃y,e=.returned y∧gm (zk runes ⟨l,rs,⟨bits,pre,⟨t,ids⟩⟩⟩ path) w2 y∧Below w'.heap.size w' w2) from fun w' h=>by
   rw [HNN.out]
   have h':=HB9.out.trans (h.mono HB9.out.size)
   exact (yK l rs t bits ids pre path ka ra ba kc rc bc w' (HI.out w' h').1 HF.out HRC.out (by omega) (HI.out w' h').2.1).mono fun e w2 h2=>dk h2)
  have HGO2:=Lh (show ∀w':World,Below w9.heap.size w9 w'→Calls Tryz.prog 20 #[.agg #[.slice ka l.length kc,.slice a8 n8 c8,.int .i64 t,.slice ba ids.length bc,.int .i64 bits,.string pre],.string path] w' (fun e w2=>∃y,e=.returned y∧gm (zk runes ⟨l,rs ++ [(⟨nm,⟨thr,xid⟩,tm,ps,qs⟩:DelegV)],⟨bits,pre,⟨t,ids⟩⟩⟩ path) w2 y∧Below w'.heap.size w' w2) from fun w' h=>by
   rw [HN2.out]
   have h':=HB9.out.trans (h.mono HB9.out.size)
   exact (yK l (rs ++ [(⟨nm,⟨thr,xid⟩,tm,ps,qs⟩:DelegV)]) t bits ids pre path ka a8 ba kc c8 bc w' (HD8.out w' (HE9.out.trans (h.mono HE9.out.size))).2 HFW.out HNC.out (by omega) (HI.out w' h').2.1).mono fun e w2 h2=>dk h2)
  obtain ⟨S1,hS1⟩:∃S1,S1=zk runes ⟨l,rs,⟨bits,pre,⟨t,ids⟩⟩⟩ path:=⟨_,rfl⟩
  obtain ⟨S2,hS2⟩:∃S2,S2=zk runes ⟨l,rs ++ [(⟨nm,⟨thr,xid⟩,tm,ps,qs⟩:DelegV)],⟨bits,pre,⟨t,ids⟩⟩⟩ path:=⟨_,rfl⟩
  rw [← hS1] at HGO1
  rw [← hS2] at HGO2
  have HS1:=Lh hS1
  have HS2:=Lh hS2
  clear hS1 hS2
  obtain ⟨V,hV⟩:∃V:List MP,V=[.con (.agg #[.slice ka l.length kc,.slice ra nn rc,.int .i64 t,.slice ba ids.length bc,.int .i64 bits,.string pre]),.con (.string path),.steps S1,.con (.agg #[.slice ka l.length kc,.slice a8 n8 c8,.int .i64 t,.slice ba ids.length bc,.int .i64 bits,.string pre]),.con (.string path),.steps S2]:=⟨_,rfl⟩
  have HV:=Lh hV
  clear hV
  refine qO 6 (fun d a' w'=>∃x52 x53 x54 x55 x56 x57,a'=⟨#[Value.agg #[Value.slice ka l.length kc,Value.slice ra rs.length rc,Value.int IntKind.i64 t,Value.slice ba ids.length bc,Value.int IntKind.i64 bits,Value.string pre],Value.agg #[Value.string nm,Value.int IntKind.i64 thr,Value.slice ia xid.length ic,Value.bool tm,Value.slice pa ps.length pc,Value.slice qa qs.length qc],Value.string path,Value.pointer (some { block:=w.heap.size,off:=0 }),Value.pointer (some { block:=w.heap.size+1,off:=0 }),undef,Value.bool false,Value.pointer (some { block:=w5.heap.size,off:=0 }),undef,undef,undef,Value.agg #[Value.slice ka l.length kc,Value.slice ra rs.length rc,Value.int IntKind.i64 t,Value.slice ba ids.length bc,Value.int IntKind.i64 bits,Value.string pre],Value.bool false,Value.bool false,Value.agg #[Value.string nm,Value.int IntKind.i64 thr,Value.slice ia xid.length ic,Value.bool tm,Value.slice pa ps.length pc,Value.slice qa qs.length qc],Value.slice (some { block:=w1.heap.size,off:=0 }) 1 1,Value.agg #[Value.slice none 0 0,Value.slice (some { block:=w1.heap.size,off:=0 }) 1 1,Value.int IntKind.i64 0,Value.slice none 0 0,Value.int IntKind.i64 0,Value.string ⟨#[]⟩],Value.bool false,Value.bool false,Value.bool false,Value.string path,Value.int IntKind.i64 (path.size:Int),Value.bool false,Value.bool false,Value.bool false,Value.pointer (some { block:=w.heap.size,off:=2 }),Value.pointer (some { block:=w.heap.size,off:=4 }),Value.int IntKind.i64 bits,Value.bool false,Value.bool false,Value.bool false,Value.agg #[Value.slice ka l.length kc,Value.slice ra rs.length rc,Value.int IntKind.i64 t,Value.slice ba ids.length bc,Value.int IntKind.i64 bits,Value.string pre],Value.bool true,Value.bool false,Value.bool false,Value.bool false,Value.bool true,Value.bool false,Value.bool false,undef,Value.agg #[Value.slice ka l.length kc,Value.slice ra rs.length rc,Value.int IntKind.i64 t,Value.slice ba ids.length bc,Value.int IntKind.i64 bits,Value.string pre],x41,x42,x43,x44,x45,x46,Value.slice a8 n8 c8,Value.pointer (some { block:=w5.heap.size,off:=1 }),Value.agg #[Value.slice ka l.length kc,Value.slice a8 n8 c8,Value.int IntKind.i64 t,Value.slice ba ids.length bc,Value.int IntKind.i64 bits,Value.string pre],Value.bool true,Value.bool false,x52,x53,x54,x55,x56,x57,undef,undef,undef,undef,undef,undef,undef,undef,undef,undef,undef,undef,undef,undef,undef,undef,undef,undef,undef,undef,undef,undef,undef,undef,undef,undef,undef,undef,undef,undef,undef,undef,undef,undef,undef,undef,undef,undef,undef,undef,undef,undef,undef,undef,undef],[]⟩∧zC w9 V d w' [x52,x53,x54,x55,x56,x57]) (by kernel_rfl) (by kernel_rfl) ?first ?step ?last
  case first=>exact ⟨_,_,_,_,_,_,rfl,zC.first _ _ _ (by rw [HV.out];rfl)⟩
  case step =>
   rintro d a' w' ⟨x52,x53,x54,x55,x56,x57,rfl,h⟩ q hq hn hw
   rcases q with _|_|_|_|_|_|q
   · obtain ⟨q0,q1,q2,q3,q4,q5⟩:=HC.out w' (HB9.out.trans (h.1.mono HB9.out.size));obtain ⟨⟨m0,m1,m2,m3,m4,m5⟩,-⟩:=HD8.out w' (HE9.out.trans (h.1.mono HE9.out.size))
     refine wpOp_step rfl fun K hK=>?_
     go_simp
     exact hK _ _ ⟨_,x53,x54,x55,x56,x57,rfl,h.sameC 0 _ HV rfl⟩
   · refine wpOp_step rfl fun K hK=>?_
     go_simp
     exact hK _ _ ⟨x52,_,x54,x55,x56,x57,rfl,h.sameC 1 _ HV rfl⟩
   · obtain rfl:=h.con 0 (hw _ rfl ⟨0,.data⟩ (by simp) rfl) HV rfl rfl
     obtain rfl:=h.con 1 (hw _ rfl ⟨1,.data⟩ (by simp) rfl) HV rfl rfl
     obtain ⟨q0,q1,q2,q3,q4,q5⟩:=HC.out w' (HB9.out.trans (h.1.mono HB9.out.size));obtain ⟨⟨m0,m1,m2,m3,m4,m5⟩,-⟩:=HD8.out w' (HE9.out.trans (h.1.mono HE9.out.size))
     refine wpOp_step rfl fun K hK=>?_
     go_simp
     refine (HGO1.out w' h.1).mono ?_
     rintro e w2 ⟨y,rfl,hy,hb2⟩
     exact hK _ _ ⟨_,_,_,x55,x56,x57,rfl,h.did hb2 2 _ (.steps S1) (by rw [HV.out];rfl) hy⟩
   · obtain ⟨q0,q1,q2,q3,q4,q5⟩:=HC.out w' (HB9.out.trans (h.1.mono HB9.out.size));obtain ⟨⟨m0,m1,m2,m3,m4,m5⟩,-⟩:=HD8.out w' (HE9.out.trans (h.1.mono HE9.out.size))
     refine wpOp_step rfl fun K hK=>?_
     go_simp
     exact hK _ _ ⟨x52,x53,x54,_,x56,x57,rfl,h.sameC 3 _ HV rfl⟩
   · refine wpOp_step rfl fun K hK=>?_
     go_simp
     exact hK _ _ ⟨x52,x53,x54,x55,_,x57,rfl,h.sameC 4 _ HV rfl⟩
   · obtain rfl:=h.con 3 (hw _ rfl ⟨3,.data⟩ (by simp) rfl) HV rfl rfl
     obtain rfl:=h.con 4 (hw _ rfl ⟨4,.data⟩ (by simp) rfl) HV rfl rfl
     obtain ⟨q0,q1,q2,q3,q4,q5⟩:=HC.out w' (HB9.out.trans (h.1.mono HB9.out.size));obtain ⟨⟨m0,m1,m2,m3,m4,m5⟩,-⟩:=HD8.out w' (HE9.out.trans (h.1.mono HE9.out.size))
     refine wpOp_step rfl fun K hK=>?_
     go_simp
     refine (HGO2.out w' h.1).mono ?_
     rintro e w2 ⟨y,rfl,hy,hb2⟩
     exact hK _ _ ⟨x52,x53,x54,_,_,_,rfl,h.did hb2 5 _ (.steps S2) (by rw [HV.out];rfl) hy⟩
   · omega
  case last =>
   rintro d a' w' hall ⟨x52,x53,x54,x55,x56,x57,rfl,h⟩
   have hle:=h.1
   have hs54:=h.get 2 (hall _ (by omega)) (.steps S1) (by rw [HV.out];rfl) _ rfl
   have hs57:=h.get 5 (hall _ (by omega)) (.steps S2) (by rw [HV.out];rfl) _ rfl
   have HLE:=Lh hle
   clear h hall hle HV
   obtain ⟨z1,y1,rfl,-,hs1⟩:=hs54
   obtain ⟨z2,y2,rfl,hcz,hs2⟩:=hs57
   have HCZ:=Lh hcz
   clear hcz
   have HT1:=Lh hs1
   have HT2:=Lh hs2
   clear hs1 hs2
   simp only [List.drop_succ_cons,List.drop_zero]
   have HBF:=Lh (HB9.out.trans (HLE.out.mono HB9.out.size))
   obtain ⟨on,hon,hon0,hon1⟩:=ce (path:=path) HMB.out.symm HMB2.out.symm HBT.out
   rw [← HS1.out,← HS2.out] at hon
   rw [← HS1.out] at hon0 hon1
   have HF1:=Lh (bH (path:=path) HF.out HMB.out.symm HBT.out)
   have HF2:=Lh (bH (path:=path) HFW.out HMB2.out.symm HBT.out)
   rw [← HS1.out] at HF1
   rw [← HS2.out] at HF2
   have HIS:=Lh (cE ⟨nm,⟨thr,xid⟩,tm,ps,qs⟩ path ia pa qa ic pc qc w' (HI.out w' HBF.out).2.2 HFX.out (by omega) (HI.out w' HBF.out).2.1)
   obtain ⟨bi,hbi⟩:∃bi,bi=isD runes ⟨nm,⟨thr,xid⟩,tm,ps,qs⟩ path:=⟨_,rfl⟩
   rw [← hbi] at HIS hon
   have HON:=Lh hon
   obtain ⟨n1,hn1⟩:∃n1,n1=S1.length:=⟨_,rfl⟩
   have HN1:=Lh hn1
   obtain ⟨n3,hn3⟩:∃n3,n3=S2.length:=⟨_,rfl⟩
   have HN3:=Lh hn3
   have b1:n1≤70:=by rw [hn1];exact HF1.out.1
   have b3:n3≤70:=by rw [hn3];exact HF2.out.1
   have HCASE:=Lh (show (n1=0∧on=true)∨∃k,∃h:k<S1.length,n1=k+1∧on = !(S1[k].term) from by
    rcases Nat.eq_zero_or_pos S1.length with h|h
    · exact .inl ⟨by omega,hon0 (List.eq_nil_of_length_eq_zero h)⟩
    · exact .inr ⟨S1.length - 1,by omega,by omega,hon1 _ (by omega) (by omega)⟩)
   rw [← hn1,← hn3]
   clear hon hon0 hon1 hbi hn1 hn3
   have HTA0:=Lh (show ∀v':World,Below w'.heap.size w' v'→Calls Tryz.prog 22 #[.slice z1 n1 y1] v' (fun e w2=>∃a' c',e=.returned (.slice a' n1 c')∧q6 w2 0 w2.heap.size a' S1∧Below v'.heap.size v' w2) from fun v' h=>by
    have e1:=HN1.out
    have b:=HF1.out.1
    have:=yQ S1 z1 y1 v' (HT1.out.below h lz lz h.size) (by omega)
    rwa [← e1] at this)
   have HTB0:=Lh (show ∀v':World,Below w'.heap.size w' v'→S2=S1→Calls Tryz.prog 22 #[.slice z2 n3 y2] v' (fun e w2=>∃a' c',e=.returned (.slice a' n1 c')∧q6 w2 0 w2.heap.size a' S1∧Below v'.heap.size v' w2) from fun v' h hq=>by
    have e1:=HN1.out
    have e3:=HN3.out
    have b:=HF1.out.1
    have hs:=HT2.out.below h lz lz h.size
    rw [hq] at hs e3
    have:=yQ S1 z2 y2 v' hs (by omega)
    rw [← e1] at this
    rwa [e3.trans e1.symm])
   have HTB1:=Lh (show ∀v':World,Below w'.heap.size w' v'→S2=S1 ++ [z7 ⟨nm,⟨thr,xid⟩,tm,ps,qs⟩]→Calls Tryz.prog 22 #[.slice z2 n1 y2] v' (fun e w2=>∃a' c',e=.returned (.slice a' n1 c')∧q6 w2 0 w2.heap.size a' S1∧Below v'.heap.size v' w2) from fun v' h hq=>by
    have e1:=HN1.out
    have b:=HF1.out.1
    have hs:=(HT2.out.below h lz lz h.size).take S1.length
    rw [hq,List.take_left' rfl] at hs
    have:=yQ S1 z2 y2 v' hs (by omega)
    rwa [← e1] at this)
   have HSM0:=Lh (show ∀(v':World) (a1 a2:Option Addr) (c1 c2:Nat),q6 v' 0 v'.heap.size a1 S1→q6 v' 0 v'.heap.size a2 S1→Calls Tryz.prog 21 #[.slice a1 n1 c1,.slice a2 n1 c2] v' (fun e w2=>e=.returned (.bool true)∧Below v'.heap.size v' w2) from fun v' a1 a2 c1 c2 h1 h2=>by
    have e1:=HN1.out
    have b:=HF1.out.1
    have:=co S1 S1 a1 a2 c1 c2 v' h1 h2 (by omega) HF1.out.2 HF1.out.2
    rw [decide_eq_true (show S1=S1 from rfl)] at this
    rwa [← e1] at this)
   go_upto_region 8 with fail
   rcases HCASE.out with ⟨h0,h1⟩|⟨k,hk,h0,h1⟩
   · subst h1
     have c1:((n1:Int) == 0)=true:=by rw [h0];rfl
     clear h0
     go_upto_region 9 with fail
     obtain ⟨u0,u1,u2,u3,u4,u5⟩:=HX.out w' HBF.out
     go_wp2_with fail
     refine HIS.out.mono ?_
     clear HIS u0 u1 u2 u3 u4 u5
     rintro e w10 ⟨rfl,hb10⟩
     replace HT2:=Lh (HT2.out.below hb10 lz lz hb10.size)
     have HC10:=Lh hb10
     have HB10:=Lh (HBF.out.trans (hb10.mono HBF.out.size))
     clear hb10
     cases bi with
     | false =>
      have HEQ:=Lh (show S2=S1 from by rw [HON.out];simp)
      go_wp2_with fail
      refine (HTA0.out w10 HC10.out).mono ?_
      clear HTA0
      rintro e w11 ⟨a1,c1',rfl,hst1,hb11⟩
      have HQ1:=Lh hst1
      have HB11:=Lh hb11
      clear hst1 hb11
      go_wp2_with fail
      refine (HTB0.out w11 (HC10.out.trans (HB11.out.mono HC10.out.size)) HEQ.out).mono ?_
      clear HTB0 HTB1
      rintro e w12 ⟨a2,c2',rfl,hst2,hb12⟩
      have HSM:=Lh (HSM0.out w12 a1 a2 c1' c2' (HQ1.out.below hb12 lz lz hb12.size) hst2)
      have HB12:=Lh (HB10.out.trans ((HB11.out.trans (hb12.mono HB11.out.size)).mono HB10.out.size))
      clear hst2 hb12 HSM0
      go_wp2_with fail
      refine HSM.out.mono ?_
      rintro e w13 ⟨rfl,hb13⟩
      have HB13:=Lh (HB12.out.trans (hb13.mono HB12.out.size))
      clear hb13 HSM
      go_wp2
      go_ret
      exact ⟨rfl,HB.out.trans (HB13.out.mono HB.out.size)⟩
     | true =>
      have HEQ:=Lh (show S2=S1 ++ [z7 ⟨nm,⟨thr,xid⟩,tm,ps,qs⟩] from by rw [HON.out];simp)
      have h31:n3=n1+1:=by rw [HN3.out,HEQ.out,HN1.out];simp
      have H31:=Lh h31
      have hk2:n1<S2.length:=by rw [← HN3.out];omega
      obtain ⟨p7,o7,ha,-,hpb7,ja7,jc7,t0,t1,t2,t3,-,-⟩:=HT2.out.at n1 hk2
      subst ha
      have hS2:S2[n1]=z7 ⟨nm,⟨thr,xid⟩,tm,ps,qs⟩:=by
       have e:S2[n1]?=some (z7 ⟨nm,⟨thr,xid⟩,tm,ps,qs⟩):=by rw [HEQ.out,HN1.out];simp
       exact Option.some.inj ((List.getElem?_eq_getElem hk2).symm.trans e)
      rw [hS2] at t0
      dsimp only [z7] at t0
      have d1:((n3:Int) != (n1:Int)+1)=false:=by rw [h31];simp
      have d2:(0:Int)≤(n1:Int):=by omega
      have d3:(n1:Int)<(n3:Int):=by omega
      have d4:(nm.toList == nm.toList)=true:=by simp
      have d5:(nm.toList != nm.toList)=false:=by simp
      have d6:n1≤y2:=by have:=HCZ.out;omega
      obtain ⟨u0,u1,u2,u3,u4,u5⟩:=HX.out w10 HB10.out
      clear h31 hS2 hk2 t1 t2 t3
      go_wp2_with fail
      go_quiet (fail)
      have HBQ:=Lh (Below.drewN HB10.out nq)
      have HCQ:=Lh (Below.drewN HC10.out nq)
      obtain ⟨wq,hwq⟩:∃wq,wq=w10.drewN nq:=⟨_,rfl⟩
      rw [← hwq] at HBQ HCQ ⊢
      clear hwq u0 u1 u2 u3 u4 u5 t0 d1 d4 d5
      go_wp2_with fail
      refine (HTA0.out wq HCQ.out).mono ?_
      clear HTA0
      rintro e w11 ⟨a1,c1',rfl,hst1,hb11⟩
      have HQ1:=Lh hst1
      have HB11:=Lh hb11
      clear hst1 hb11
      go_wp2_with fail
      refine (HTB1.out w11 (HCQ.out.trans (HB11.out.mono HCQ.out.size)) HEQ.out).mono ?_
      clear HTB0 HTB1
      rintro e w12 ⟨a2,c2',rfl,hst2,hb12⟩
      have HSM:=Lh (HSM0.out w12 a1 a2 c1' c2' (HQ1.out.below hb12 lz lz hb12.size) hst2)
      have HB12:=Lh (HBQ.out.trans ((HB11.out.trans (hb12.mono HB11.out.size)).mono HBQ.out.size))
      clear hst2 hb12 HSM0
      go_wp2_with fail
      refine HSM.out.mono ?_
      rintro e w13 ⟨rfl,hb13⟩
      have HB13:=Lh (HB12.out.trans (hb13.mono HB12.out.size))
      clear hb13 HSM
      go_wp2
      go_ret
      exact ⟨rfl,HB.out.trans (HB13.out.mono HB.out.size)⟩
   · obtain ⟨p,o,ha,-,hpb,ja,jc,s0,s1,s2,s3,-,-⟩:=HT1.out.at k hk
     subst ha
     have c1:((n1:Int) == 0)=false:=by rw [h0];simp;omega
     have c2:(0:Int)≤(k:Int):=by omega
     have c3:(k:Int)<(n1:Int):=by omega
     have c4:(n1:Int) - 1=(k:Int):=by omega
     obtain ⟨tk,htk⟩:∃tk,tk=S1[k].term:=⟨_,rfl⟩
     rw [← htk] at s3 h1
     clear htk h0 s0 s1 s2
     cases tk with
     | true =>
      replace h1:on=false:=h1
      subst h1
      go_upto_region 9 with fail
      obtain ⟨u0,u1,u2,u3,u4,u5⟩:=HX.out w' HBF.out
      go_wp2_with fail
      refine HIS.out.mono ?_
      clear HIS u0 u1 u2 u3 u4 u5
      rintro e w10 ⟨rfl,hb10⟩
      replace HT2:=Lh (HT2.out.below hb10 lz lz hb10.size)
      have HC10:=Lh hb10
      have HB10:=Lh (HBF.out.trans (hb10.mono HBF.out.size))
      clear hb10
      cases bi with
      | false =>
       have HEQ:=Lh (show S2=S1 from by rw [HON.out];simp)
       go_wp2_with fail
       refine (HTA0.out w10 HC10.out).mono ?_
       clear HTA0
       rintro e w11 ⟨a1,c1',rfl,hst1,hb11⟩
       have HQ1:=Lh hst1
       have HB11:=Lh hb11
       clear hst1 hb11
       go_wp2_with fail
       refine (HTB0.out w11 (HC10.out.trans (HB11.out.mono HC10.out.size)) HEQ.out).mono ?_
       clear HTB0 HTB1
       rintro e w12 ⟨a2,c2',rfl,hst2,hb12⟩
       have HSM:=Lh (HSM0.out w12 a1 a2 c1' c2' (HQ1.out.below hb12 lz lz hb12.size) hst2)
       have HB12:=Lh (HB10.out.trans ((HB11.out.trans (hb12.mono HB11.out.size)).mono HB10.out.size))
       clear hst2 hb12 HSM0
       go_wp2_with fail
       refine HSM.out.mono ?_
       rintro e w13 ⟨rfl,hb13⟩
       have HB13:=Lh (HB12.out.trans (hb13.mono HB12.out.size))
       clear hb13 HSM
       go_wp2
       go_ret
       exact ⟨rfl,HB.out.trans (HB13.out.mono HB.out.size)⟩
      | true =>
       have HEQ:=Lh (show S2=S1 from by rw [HON.out];simp)
       go_wp2_with fail
       refine (HTA0.out w10 HC10.out).mono ?_
       clear HTA0
       rintro e w11 ⟨a1,c1',rfl,hst1,hb11⟩
       have HQ1:=Lh hst1
       have HB11:=Lh hb11
       clear hst1 hb11
       go_wp2_with fail
       refine (HTB0.out w11 (HC10.out.trans (HB11.out.mono HC10.out.size)) HEQ.out).mono ?_
       clear HTB0 HTB1
       rintro e w12 ⟨a2,c2',rfl,hst2,hb12⟩
       have HSM:=Lh (HSM0.out w12 a1 a2 c1' c2' (HQ1.out.below hb12 lz lz hb12.size) hst2)
       have HB12:=Lh (HB10.out.trans ((HB11.out.trans (hb12.mono HB11.out.size)).mono HB10.out.size))
       clear hst2 hb12 HSM0
       go_wp2_with fail
       refine HSM.out.mono ?_
       rintro e w13 ⟨rfl,hb13⟩
       have HB13:=Lh (HB12.out.trans (hb13.mono HB12.out.size))
       clear hb13 HSM
       go_wp2
       go_ret
       exact ⟨rfl,HB.out.trans (HB13.out.mono HB.out.size)⟩
     | false =>
      replace h1:on=true:=h1
      subst h1
      go_upto_region 9 with fail
      obtain ⟨u0,u1,u2,u3,u4,u5⟩:=HX.out w' HBF.out
      go_wp2_with fail
      refine HIS.out.mono ?_
      clear HIS u0 u1 u2 u3 u4 u5
      rintro e w10 ⟨rfl,hb10⟩
      replace HT2:=Lh (HT2.out.below hb10 lz lz hb10.size)
      have HC10:=Lh hb10
      have HB10:=Lh (HBF.out.trans (hb10.mono HBF.out.size))
      clear hb10
      cases bi with
      | false =>
       have HEQ:=Lh (show S2=S1 from by rw [HON.out];simp)
       go_wp2_with fail
       refine (HTA0.out w10 HC10.out).mono ?_
       clear HTA0
       rintro e w11 ⟨a1,c1',rfl,hst1,hb11⟩
       have HQ1:=Lh hst1
       have HB11:=Lh hb11
       clear hst1 hb11
       go_wp2_with fail
       refine (HTB0.out w11 (HC10.out.trans (HB11.out.mono HC10.out.size)) HEQ.out).mono ?_
       clear HTB0 HTB1
       rintro e w12 ⟨a2,c2',rfl,hst2,hb12⟩
       have HSM:=Lh (HSM0.out w12 a1 a2 c1' c2' (HQ1.out.below hb12 lz lz hb12.size) hst2)
       have HB12:=Lh (HB10.out.trans ((HB11.out.trans (hb12.mono HB11.out.size)).mono HB10.out.size))
       clear hst2 hb12 HSM0
       go_wp2_with fail
       refine HSM.out.mono ?_
       rintro e w13 ⟨rfl,hb13⟩
       have HB13:=Lh (HB12.out.trans (hb13.mono HB12.out.size))
       clear hb13 HSM
       go_wp2
       go_ret
       exact ⟨rfl,HB.out.trans (HB13.out.mono HB.out.size)⟩
      | true =>
       have HEQ:=Lh (show S2=S1 ++ [z7 ⟨nm,⟨thr,xid⟩,tm,ps,qs⟩] from by rw [HON.out];simp)
       have h31:n3=n1+1:=by rw [HN3.out,HEQ.out,HN1.out];simp
       have H31:=Lh h31
       have hk2:n1<S2.length:=by rw [← HN3.out];omega
       obtain ⟨p7,o7,ha,-,hpb7,ja7,jc7,t0,t1,t2,t3,-,-⟩:=HT2.out.at n1 hk2
       subst ha
       have hS2:S2[n1]=z7 ⟨nm,⟨thr,xid⟩,tm,ps,qs⟩:=by
        have e:S2[n1]?=some (z7 ⟨nm,⟨thr,xid⟩,tm,ps,qs⟩):=by rw [HEQ.out,HN1.out];simp
        exact Option.some.inj ((List.getElem?_eq_getElem hk2).symm.trans e)
       rw [hS2] at t0
       dsimp only [z7] at t0
       have d1:((n3:Int) != (n1:Int)+1)=false:=by rw [h31];simp
       have d2:(0:Int)≤(n1:Int):=by omega
       have d3:(n1:Int)<(n3:Int):=by omega
       have d4:(nm.toList == nm.toList)=true:=by simp
       have d5:(nm.toList != nm.toList)=false:=by simp
       have d6:n1≤y2:=by have:=HCZ.out;omega
       obtain ⟨u0,u1,u2,u3,u4,u5⟩:=HX.out w10 HB10.out
       clear h31 hS2 hk2 t1 t2 t3
       go_wp2_with fail
       go_quiet (fail)
       have HBQ:=Lh (Below.drewN HB10.out nq)
       have HCQ:=Lh (Below.drewN HC10.out nq)
       obtain ⟨wq,hwq⟩:∃wq,wq=w10.drewN nq:=⟨_,rfl⟩
       rw [← hwq] at HBQ HCQ ⊢
       clear hwq u0 u1 u2 u3 u4 u5 t0 d1 d4 d5
       go_wp2_with fail
       refine (HTA0.out wq HCQ.out).mono ?_
       clear HTA0
       rintro e w11 ⟨a1,c1',rfl,hst1,hb11⟩
       have HQ1:=Lh hst1
       have HB11:=Lh hb11
       clear hst1 hb11
       go_wp2_with fail
       refine (HTB1.out w11 (HCQ.out.trans (HB11.out.mono HCQ.out.size)) HEQ.out).mono ?_
       clear HTB0 HTB1
       rintro e w12 ⟨a2,c2',rfl,hst2,hb12⟩
       have HSM:=Lh (HSM0.out w12 a1 a2 c1' c2' (HQ1.out.below hb12 lz lz hb12.size) hst2)
       have HB12:=Lh (HBQ.out.trans ((HB11.out.trans (hb12.mono HB11.out.size)).mono HBQ.out.size))
       clear hst2 hb12 HSM0
       go_wp2_with fail
       refine HSM.out.mono ?_
       rintro e w13 ⟨rfl,hb13⟩
       have HB13:=Lh (HB12.out.trans (hb13.mono HB12.out.size))
       clear hb13 HSM
       go_wp2
       go_ret
       exact ⟨rfl,HB.out.trans (HB13.out.mono HB.out.size)⟩
end Go.Proofs.YthgembbgcbaghaaGreatDoor
