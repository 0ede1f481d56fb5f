/- The contract of legatelaw20.DelegRow. Printed by gendelegrow.py. -/
import Derived.Test.YthgembbgcbaghaaGreatDoorDr39
import Derived.Test.YthgembbgcbaghaaGreatDoorDr26

namespace Go.Proofs.YthgembbgcbaghaaGreatDoor
open Go.RowKit Go.Shelf Go.Sort
set_option maxHeartbeats 8000000 in
set_option maxRecDepth 100000 in
theorem su (w:World) (hT:Tabs w):Calls Tryz.prog 14 #[] w fun e w'=>e=.returned (.bool true)∧Below w.heap.size w w':=by
 have HT:=Lh (show ∀w':World,Below w.heap.size w w'→Tabs w' from fun w' h=>hT.below h)
 clear hT
 have HR1:=Lh (yh raN nH false w)
 go_enter Tryz.func14,Tryz.ntmps14
 go_wp2_with fail
 refine HR1.out.mono ?_
 clear HR1
 rintro e w1 ⟨a1,p1,rfl,hs1,hp1,hb1⟩
 have HN1:=Lh (show RoleIn w1 a1 p1 nH from ⟨hs1.carry (Nat.zero_le _) lz (fun _ _ _=>rfl),hp1.carry (Nat.zero_le _) lz (fun _ _ _=>rfl)⟩)
 have HB1:=Lh hb1
 clear hs1 hp1 hb1
 have HR2:=Lh (yh bbN l6 true w1)
 go_wp2_with fail
 refine HR2.out.mono ?_
 clear HR2
 rintro e w2 ⟨a2,p2,rfl,hs1,hp1,hb1⟩
 have HN2:=Lh (show RoleIn w2 a2 p2 l6 from ⟨hs1.carry (Nat.zero_le _) lz (fun _ _ _=>rfl),hp1.carry (Nat.zero_le _) lz (fun _ _ _=>rfl)⟩)
 replace HN1:=Lh (HN1.out.below hb1)
 have HB2:=Lh (HB1.out.trans (hb1.mono HB1.out.size))
 clear hs1 hp1 hb1
 have HR3:=Lh (yh pcN kY false w2)
 go_wp2_with fail
 refine HR3.out.mono ?_
 clear HR3
 rintro e w3 ⟨a3,p3,rfl,hs1,hp1,hb1⟩
 have HN3:=Lh (show RoleIn w3 a3 p3 kY from ⟨hs1.carry (Nat.zero_le _) lz (fun _ _ _=>rfl),hp1.carry (Nat.zero_le _) lz (fun _ _ _=>rfl)⟩)
 replace HN1:=Lh (HN1.out.below hb1)
 replace HN2:=Lh (HN2.out.below hb1)
 have HB3:=Lh (HB2.out.trans (hb1.mono HB2.out.size))
 clear hs1 hp1 hb1
 have hz3:((w3.alloc (.cells #[.string raN,.int .i64 1,.slice (some ⟨a1,0,none⟩) 1 1,.bool false,.slice (some ⟨p1,0,none⟩) 1 1,.slice none 0 0] 41)).alloc (.cells #[.string bbN,.int .i64 1,.slice (some ⟨a2,0,none⟩) 1 1,.bool true,.slice (some ⟨p2,0,none⟩) 1 1,.slice none 0 0] 41)).heap.size=w3.heap.size+1+1:=by simp
 obtain ⟨W4,hW4⟩:∃W4,W4=((w3.alloc (.cells #[.string raN,.int .i64 1,.slice (some ⟨a1,0,none⟩) 1 1,.bool false,.slice (some ⟨p1,0,none⟩) 1 1,.slice none 0 0] 41)).alloc (.cells #[.string bbN,.int .i64 1,.slice (some ⟨a2,0,none⟩) 1 1,.bool true,.slice (some ⟨p2,0,none⟩) 1 1,.slice none 0 0] 41)).alloc (.cells #[.string pcN,.int .i64 1,.slice (some ⟨a3,0,none⟩) 1 1,.bool false,.slice (some ⟨p3,0,none⟩) 1 1,.slice none 0 0] 41):=⟨_,rfl⟩
 have h1:W4.heap[w3.heap.size]?=some (.cells #[.string raN,.int .i64 1,.slice (some ⟨a1,0,none⟩) 1 1,.bool false,.slice (some ⟨p1,0,none⟩) 1 1,.slice none 0 0] 41 (0,0)):=by rw [hW4,Below.heap_alloc _ _ _ (by rw [hz3];omega)];exact zh w3 _ _
 have h2:W4.heap[w3.heap.size+1]?=some (.cells #[.string bbN,.int .i64 1,.slice (some ⟨a2,0,none⟩) 1 1,.bool true,.slice (some ⟨p2,0,none⟩) 1 1,.slice none 0 0] 41 (0,0)):=by rw [hW4,Below.heap_alloc _ _ _ (by rw [hz3];omega)];exact jh w3 _ _
 have h3:W4.rowIs (w3.heap.size+1+1) 41 6 (qt (.string pcN) (.int .i64 1) (.slice (some ⟨a3,0,none⟩) 1 1) (.bool false) (.slice (some ⟨p3,0,none⟩) 1 1) (.slice none 0 0)):=by
  have:=zO ((w3.alloc (.cells #[.string raN,.int .i64 1,.slice (some ⟨a1,0,none⟩) 1 1,.bool false,.slice (some ⟨p1,0,none⟩) 1 1,.slice none 0 0] 41)).alloc (.cells #[.string bbN,.int .i64 1,.slice (some ⟨a2,0,none⟩) 1 1,.bool true,.slice (some ⟨p2,0,none⟩) 1 1,.slice none 0 0] 41)) (.string pcN) (.int .i64 1) (.slice (some ⟨a3,0,none⟩) 1 1) (.bool false) (.slice (some ⟨p3,0,none⟩) 1 1) (.slice none 0 0) 41
  rw [hz3,← hW4] at this
  exact this
 have HZ4:=Lh (show W4.heap.size=w3.heap.size+3 from by rw [hW4];simp)
 have HB4:=Lh (show Below w3.heap.size w3 W4 from by rw [hW4];exact (((Below.refl _ _).alloc lz _).alloc (by simp) _).alloc (by rw [hz3];omega) _)
 have HW4:=Lh hW4
 go_upto_region 2 with fail
 rw [← HW4.out]
 clear HW4 hW4 hz3
 have x0:=qq h1 (j:=0) rfl;have x1:=qq h1 (j:=1) rfl;have x2:=qq h1 (j:=2) rfl;have x3:=qq h1 (j:=3) rfl;have x4:=qq h1 (j:=4) rfl;have x5:=qq h1 (j:=5) rfl
 have y0:=qq h2 (j:=0) rfl;have y1:=qq h2 (j:=1) rfl;have y2:=qq h2 (j:=2) rfl;have y3:=qq h2 (j:=3) rfl;have y4:=qq h2 (j:=4) rfl;have y5:=qq h2 (j:=5) rfl
 obtain ⟨z0,z1,z2,z3,z4⟩:=rc5 h3;have z5:=h3.cell (i:=5) (by decide)
 simp only [qt] at z0 z1 z2 z3 z4 z5
 have H1:=Lh h1
 have H2:=Lh h2
 have H3:=Lh h3
 obtain ⟨W5,hW5⟩:∃W5,W5=(W4.alloc (.cells #[.string raN,.int .i64 1,.slice (some ⟨a1,0,none⟩) 1 1,.bool false,.slice (some ⟨p1,0,none⟩) 1 1,.slice none 0 0,.string bbN,.int .i64 1,.slice (some ⟨a2,0,none⟩) 1 1,.bool true,.slice (some ⟨p2,0,none⟩) 1 1,.slice none 0 0,.string pcN,.int .i64 1,.slice (some ⟨a3,0,none⟩) 1 1,.bool false,.slice (some ⟨p3,0,none⟩) 1 1,.slice none 0 0] 41)).alloc (.cells #[.slice none 0 0,.slice (some ⟨W4.heap.size,0,none⟩) 3 3,.int .i64 0,.slice none 0 0,.int .i64 0,.string ⟨#[]⟩] 35):=⟨_,rfl⟩
 have HB5:=Lh (show Below W4.heap.size W4 W5 from by rw [hW5];exact ((Below.refl _ _).alloc lz _).alloc (by simp) _)
 have HQ5:=Lh (show W5.heap[W4.heap.size]?=some (.cells #[.string raN,.int .i64 1,.slice (some ⟨a1,0,none⟩) 1 1,.bool false,.slice (some ⟨p1,0,none⟩) 1 1,.slice none 0 0,.string bbN,.int .i64 1,.slice (some ⟨a2,0,none⟩) 1 1,.bool true,.slice (some ⟨p2,0,none⟩) 1 1,.slice none 0 0,.string pcN,.int .i64 1,.slice (some ⟨a3,0,none⟩) 1 1,.bool false,.slice (some ⟨p3,0,none⟩) 1 1,.slice none 0 0] 41 (0,0)) from by rw [hW5];exact zh W4 _ _)
 have HD5:=Lh (show W5.heap[W4.heap.size+1]?=some (.cells #[.slice none 0 0,.slice (some ⟨W4.heap.size,0,none⟩) 3 3,.int .i64 0,.slice none 0 0,.int .i64 0,.string ⟨#[]⟩] 35 (0,0)) from by rw [hW5];exact jh W4 _ _)
 have HZ5:=Lh (show W5.heap.size=W4.heap.size+2 from by rw [hW5];simp)
 have HW5:=Lh hW5
 clear h1 h2 h3 hW5
 go_upto_region 3 with fail
 rw [← HW5.out]
 clear HW5 x0 x1 x2 x3 x4 x5 y0 y1 y2 y3 y4 y5 z0 z1 z2 z3 z4 z5
 have hr5:=qx HB5.out H3.out H3.out.lt
 obtain ⟨z0,z1,z2,z3,z4⟩:=rc5 hr5;have z5:=hr5.cell (i:=5) (by decide)
 have f3:=hr5.frozen 3
 simp only [qt] at z0 z1 z2 z3 z4 z5
 obtain ⟨W6,hW6⟩:∃W6,W6=W5.setCell ⟨w3.heap.size+1+1,3,none⟩ (.bool true):=⟨_,rfl⟩
 have hr6:W6.rowIs (w3.heap.size+1+1) 41 6 (qt (.string pcN) (.int .i64 1) (.slice (some ⟨a3,0,none⟩) 1 1) (.bool true) (.slice (some ⟨p3,0,none⟩) 1 1) (.slice none 0 0)):=by
  rw [hW6]
  refine (hr5.set 3 _).congr fun j hj=>?_
  rcases j with _|_|_|_|_|_|j <;> first|rfl|omega
 have hs6:∀k,k≠w3.heap.size+1+1→W6.heap[k]?=W5.heap[k]?:=fun k hk=>by rw [hW6];exact Below.heap_setCell _ _ _ _ hk
 have HZ6:=Lh (show W6.heap.size=W5.heap.size from by rw [hW6];simp [World.setCell])
 have HB6:=Lh (show Below w3.heap.size w3 W6 from by rw [hW6];exact (HB4.out.trans (HB5.out.mono HB4.out.size)).setCell (by show w3.heap.size≤w3.heap.size+1+1;omega) _)
 have H16:=Lh ((hs6 w3.heap.size (by omega)).trans ((HB5.out.block _ (qv H1.out)).trans H1.out))
 have HQ6:=Lh ((hs6 W4.heap.size (by have:=HZ4.out;omega)).trans HQ5.out)
 have HD6:=Lh ((hs6 (W4.heap.size+1) (by have:=HZ4.out;omega)).trans HD5.out)
 have H36:=Lh hr6
 have HW6:=Lh hW6
 clear hr5 hr6 hs6 hW6
 go_upto_region 4 with fail
 rw [← HW6.out]
 clear HW6 z0 z1 z2 z3 z4 z5 f3 H1 H2 H3 HQ5 HD5
 have h1:=H16.out
 have h3:=H36.out
 have x0:=qq h1 (j:=0) rfl;have x1:=qq h1 (j:=1) rfl;have x2:=qq h1 (j:=2) rfl;have x3:=qq h1 (j:=3) rfl;have x4:=qq h1 (j:=4) rfl;have x5:=qq h1 (j:=5) rfl
 obtain ⟨z0,z1,z2,z3,z4⟩:=rc5 h3;have z5:=h3.cell (i:=5) (by decide)
 simp only [qt] at z0 z1 z2 z3 z4 z5
 obtain ⟨W7,hW7⟩:∃W7,W7=(W6.alloc (.cells #[.string pcN,.int .i64 1,.slice (some ⟨a3,0,none⟩) 1 1,.bool true,.slice (some ⟨p3,0,none⟩) 1 1,.slice none 0 0,.string raN,.int .i64 1,.slice (some ⟨a1,0,none⟩) 1 1,.bool false,.slice (some ⟨p1,0,none⟩) 1 1,.slice none 0 0] 41)).alloc (.cells #[.slice none 0 0,.slice (some ⟨W6.heap.size,0,none⟩) 2 2,.int .i64 0,.slice none 0 0,.int .i64 0,.string ⟨#[]⟩] 35):=⟨_,rfl⟩
 have hb7:Below W6.heap.size W6 W7:=by rw [hW7];exact ((Below.refl _ _).alloc lz _).alloc (by simp) _
 have hq7:W7.heap[W6.heap.size]?=some (.cells #[.string pcN,.int .i64 1,.slice (some ⟨a3,0,none⟩) 1 1,.bool true,.slice (some ⟨p3,0,none⟩) 1 1,.slice none 0 0,.string raN,.int .i64 1,.slice (some ⟨a1,0,none⟩) 1 1,.bool false,.slice (some ⟨p1,0,none⟩) 1 1,.slice none 0 0] 41 (0,0)):=by rw [hW7];exact zh W6 _ _
 have he7:W7.heap[W6.heap.size+1]?=some (.cells #[.slice none 0 0,.slice (some ⟨W6.heap.size,0,none⟩) 2 2,.int .i64 0,.slice none 0 0,.int .i64 0,.string ⟨#[]⟩] 35 (0,0)):=by rw [hW7];exact jh W6 _ _
 have hd7:=(hb7.block _ (qv HD6.out)).trans HD6.out
 have hqq:=(hb7.block _ (qv HQ6.out)).trans HQ6.out
 have HB7:=Lh (HB6.out.trans (hb7.mono HB6.out.size))
 have HE:=Lh (show ∀w':World,Below W7.heap.size W7 w'→(DelegsIn w' 0 w'.heap.size exD none (some ⟨W4.heap.size,0,none⟩) none∧DelegsIn w' 0 w'.heap.size exE none (some ⟨W6.heap.size,0,none⟩) none∧Tabs w')∧(w'.cell? ⟨W4.heap.size+1,0,none⟩=some (.slice none 0 0)∧w'.cell? ⟨W4.heap.size+1,1,none⟩=some (.slice (some ⟨W4.heap.size,0,none⟩) 3 3)∧w'.cell? ⟨W4.heap.size+1,2,none⟩=some (.int .i64 0)∧w'.cell? ⟨W4.heap.size+1,3,none⟩=some (.slice none 0 0)∧w'.cell? ⟨W4.heap.size+1,4,none⟩=some (.int .i64 0)∧w'.cell? ⟨W4.heap.size+1,5,none⟩=some (.string ⟨#[]⟩))∧(w'.cell? ⟨W6.heap.size+1,0,none⟩=some (.slice none 0 0)∧w'.cell? ⟨W6.heap.size+1,1,none⟩=some (.slice (some ⟨W6.heap.size,0,none⟩) 2 2)∧w'.cell? ⟨W6.heap.size+1,2,none⟩=some (.int .i64 0)∧w'.cell? ⟨W6.heap.size+1,3,none⟩=some (.slice none 0 0)∧w'.cell? ⟨W6.heap.size+1,4,none⟩=some (.int .i64 0)∧w'.cell? ⟨W6.heap.size+1,5,none⟩=some (.string ⟨#[]⟩)) from fun w' h=>by
  have hb':=HB7.out.trans (h.mono HB7.out.size)
  have r1:=HN1.out.below hb'
  have r2:=HN2.out.below hb'
  have r3:=HN3.out.below hb'
  have k1:=(h.block _ (qv hqq)).trans hqq
  have k2:=(h.block _ (qv hq7)).trans hq7
  have k3:=(h.block _ (qv hd7)).trans hd7
  have k4:=(h.block _ (qv he7)).trans he7
  exact ⟨⟨⟨.inl rfl,dE k1 r1 r2 r3,.inl rfl⟩,⟨.inl rfl,dO k2 r3 r1,.inl rfl⟩,HT.out w' (HB3.out.trans (hb'.mono HB3.out.size))⟩,⟨qq k3 rfl,qq k3 rfl,qq k3 rfl,qq k3 rfl,qq k3 rfl,qq k3 rfl⟩,⟨qq k4 rfl,qq k4 rfl,qq k4 rfl,qq k4 rfl,qq k4 rfl,qq k4 rfl⟩⟩)
 have HW7:=Lh hW7
 have HBW:=Lh (HB3.out.trans (HB7.out.mono HB3.out.size))
 have HPOS:=Lh (show 0<W7.heap.size from Nat.lt_of_le_of_lt (Nat.zero_le _) (qv he7))
 clear h1 h3 hW7 hb7 hq7 he7 hd7 hqq
 go_upto_region 5 with fail
 rw [← HW7.out]
 clear HW7 x0 x1 x2 x3 x4 x5 z0 z1 z2 z3 z4 z5 H16 H36 HQ6 HD6 HB4 HB5 HB6 HN1 HN2 HN3
 obtain ⟨⟨i1,i2,i3⟩,⟨d0,d1,d2,d3,d4,d5⟩,-⟩:=HE.out W7 (Below.refl _ _)
 have HV:=Lh (sf W4.heap.size W7 i1 i3)
 clear i1 i2 i3
 go_wp2_with fail
 refine HV.out.mono ?_
 clear HV d0 d1 d2 d3 d4 d5
 rintro e w8 ⟨an,cn,ai,ci,rfl,hr8,hb8⟩
 obtain ⟨W9,hW9⟩:∃W9,W9=w8.alloc (.cells #[.int .u8 5,.int .i64 0,.string ⟨#[]⟩,.slice an 2 cn,.slice ai 2 ci] 25):=⟨_,rfl⟩
 have hb9:Below w8.heap.size w8 W9:=by rw [hW9];exact (Below.refl _ _).alloc lz _
 have hx9:W9.heap[w8.heap.size]?=some (.cells #[.int .u8 5,.int .i64 0,.string ⟨#[]⟩,.slice an 2 cn,.slice ai 2 ci] 25 (0,0)):=by rw [hW9];exact heap_alloc_new w8 _
 have HB9:=Lh (hb8.trans (hb9.mono hb8.size))
 have HOF:=Lh (tu _ W9 W7.heap.size HPOS.out (hr8.below hb9 lz lz hb9.size) (HE.out W9 HB9.out).1.2.2)
 obtain ⟨v0,v1,v2,v3,v4⟩:=bx5 hx9
 have HW9:=Lh hW9
 clear hb8 hr8 hb9 hx9 hW9
 go_upto_region 6 with fail
 rw [← HW9.out]
 clear HW9
 go_wp2_with fail
 refine HOF.out.mono ?_
 clear HOF v0 v1 v2 v3 v4
 rintro e w10 ⟨ka,kc,ra,rc,ba,bc,rfl,hi10,hb10⟩
 obtain ⟨W11,hW11⟩:∃W11,W11=w10.alloc (.cells #[.slice ka 0 kc,.slice ra 3 rc,.int .i64 0,.slice ba 0 bc,.int .i64 0,.string ⟨#[]⟩] 35):=⟨_,rfl⟩
 have hb11:Below w10.heap.size w10 W11:=by rw [hW11];exact (Below.refl _ _).alloc lz _
 have HX11:=Lh (show W11.heap[w10.heap.size]?=some (.cells #[.slice ka 0 kc,.slice ra 3 rc,.int .i64 0,.slice ba 0 bc,.int .i64 0,.string ⟨#[]⟩] 35 (0,0)) from by rw [hW11];exact heap_alloc_new w10 _)
 have HI11:=Lh (show sg W11 ka ra ba from hi10.below hb11 lz lz hb11.size)
 have HB11:=Lh (HB9.out.trans ((hb10.trans (hb11.mono hb10.size)).mono HB9.out.size))
 have HW11:=Lh hW11
 have HWH:=Lh (uj W11)
 clear hi10 hb10 hb11 hW11
 go_upto_region 7 with fail
 rw [← HW11.out]
 clear HW11
 go_wp2_with fail
 refine HWH.out.mono ?_
 clear HWH
 rintro e w12 ⟨g,rfl,hs12,hb12⟩
 obtain ⟨W13,hW13⟩:∃W13,W13=w12.alloc (.cells #[.slice none 0 0,.slice none 0 0,.int .i64 1,.slice (some ⟨g,0,none⟩) 1 1,.int .i64 2,.string ⟨#[112]⟩] 35):=⟨_,rfl⟩
 have hb13:Below w12.heap.size w12 W13:=by rw [hW13];exact (Below.refl _ _).alloc lz _
 have hb113:Below W11.heap.size W11 W13:=hb12.trans (hb13.mono hb12.size)
 have hx13:W13.heap[w12.heap.size]?=some (.cells #[.slice none 0 0,.slice none 0 0,.int .i64 1,.slice (some ⟨g,0,none⟩) 1 1,.int .i64 2,.string ⟨#[112]⟩] 35 (0,0)):=by rw [hW13];exact heap_alloc_new w12 _
 have HB13:=Lh (HB11.out.trans (hb113.mono HB11.out.size))
 have HF:=Lh (show ∀w':World,Below W13.heap.size W13 w'→(sg w' ka ra ba∧qw w' 0 w'.heap.size (some ⟨g,0,none⟩) [yk 97])∧(w'.cell? ⟨w10.heap.size,0,none⟩=some (.slice ka 0 kc)∧w'.cell? ⟨w10.heap.size,1,none⟩=some (.slice ra 3 rc)∧w'.cell? ⟨w10.heap.size,2,none⟩=some (.int .i64 0)∧w'.cell? ⟨w10.heap.size,3,none⟩=some (.slice ba 0 bc)∧w'.cell? ⟨w10.heap.size,4,none⟩=some (.int .i64 0)∧w'.cell? ⟨w10.heap.size,5,none⟩=some (.string ⟨#[]⟩))∧(w'.cell? ⟨w12.heap.size,0,none⟩=some (.slice none 0 0)∧w'.cell? ⟨w12.heap.size,1,none⟩=some (.slice none 0 0)∧w'.cell? ⟨w12.heap.size,2,none⟩=some (.int .i64 1)∧w'.cell? ⟨w12.heap.size,3,none⟩=some (.slice (some ⟨g,0,none⟩) 1 1)∧w'.cell? ⟨w12.heap.size,4,none⟩=some (.int .i64 2)∧w'.cell? ⟨w12.heap.size,5,none⟩=some (.string ⟨#[112]⟩)) from fun w' h=>by
  have hb':=hb113.trans (h.mono hb113.size)
  have k1:=(hb'.block _ (qv HX11.out)).trans HX11.out
  have k2:=(h.block _ (qv hx13)).trans hx13
  exact ⟨⟨HI11.out.below hb' lz lz hb'.size,(hs12.carry (Nat.zero_le _) lz (fun _ _ _=>rfl)).below (hb13.trans (h.mono hb13.size)) lz lz (Nat.le_trans hb13.size h.size)⟩,⟨qq k1 rfl,qq k1 rfl,qq k1 rfl,qq k1 rfl,qq k1 rfl,qq k1 rfl⟩,⟨qq k2 rfl,qq k2 rfl,qq k2 rfl,qq k2 rfl,qq k2 rfl,qq k2 rfl⟩⟩)
 have HBI:=Lh (aa g W13 (HE.out W13 HB13.out).1.2.2)
 have HW13:=Lh hW13
 clear hs12 hb12 hW13 hb13 hb113 hx13
 go_upto_region 8 with fail
 rw [← HW13.out]
 clear HW13
 obtain ⟨-,-,b0,b1,b2,b3,b4,b5⟩:=HF.out W13 (Below.refl _ _)
 go_wp2_with fail
 refine HBI.out.mono ?_
 clear HBI b0 b1 b2 b3 b4 b5
 rintro e w14 ⟨rfl,hb14⟩
 obtain ⟨S,hS⟩:∃S,S=binS:=⟨_,rfl⟩
 rw [← hS]
 have HS:=Lh hS
 have HF14:=Lh hb14
 have HB14:=Lh (HB13.out.trans (hb14.mono HB13.out.size))
 clear hb14 hS
 go_upto_region 9 with fail
 obtain ⟨W15,hW15⟩:∃W15,W15=w14.alloc (.cells #[.string ⟨#[97]⟩,.string ⟨#[99]⟩] 9):=⟨_,rfl⟩
 have hb':Below w14.heap.size w14 W15:=by rw [hW15];exact (Below.refl _ _).alloc lz _
 have hg':W15.heap[w14.heap.size]?=some (.cells #[.string ⟨#[97]⟩,.string ⟨#[99]⟩] 9 (0,0)):=by rw [hW15];exact heap_alloc_new w14 _
 have HA15:=Lh (HB14.out.trans (hb'.mono HB14.out.size))
 have HC15:=Lh (HF14.out.trans (hb'.mono HF14.out.size))
 have HM:=Lh (uZ W4.heap.size w14.heap.size kY [raN,pcN] W15 (HE.out W15 HA15.out).1.1 (d8 hg') (by decide) (by decide) vd.1 (HE.out W15 HA15.out).1.2.2)
 have HW15:=Lh hW15
 clear hb' hg' hW15
 obtain ⟨-,⟨d0,d1,d2,d3,d4,d5⟩,-⟩:=HE.out w14 HB14.out
 go_wp2_with fail
 rw [← HW15.out]
 refine HM.out.mono ?_
 clear HM HW15 d0 d1 d2 d3 d4 d5
 rintro e w16 ⟨rfl,hb'⟩
 have HB16:=Lh (HA15.out.trans (hb'.mono HA15.out.size))
 have HF16:=Lh (HC15.out.trans (hb'.mono HC15.out.size))
 clear hb'
 obtain ⟨W17,hW17⟩:∃W17,W17=w16.alloc (.cells #[.string ⟨#[98]⟩] 9):=⟨_,rfl⟩
 have hb':Below w16.heap.size w16 W17:=by rw [hW17];exact (Below.refl _ _).alloc lz _
 have hg':W17.heap[w16.heap.size]?=some (.cells #[.string ⟨#[98]⟩] 9 (0,0)):=by rw [hW17];exact heap_alloc_new w16 _
 have HA17:=Lh (HB16.out.trans (hb'.mono HB16.out.size))
 have HC17:=Lh (HF16.out.trans (hb'.mono HF16.out.size))
 have HM:=Lh (uZ W4.heap.size w16.heap.size pzN [bbN] W17 (HE.out W17 HA17.out).1.1 (yd hg') (by decide) (by decide) vd.2.1 (HE.out W17 HA17.out).1.2.2)
 have HW17:=Lh hW17
 clear hb' hg' hW17
 obtain ⟨-,⟨d0,d1,d2,d3,d4,d5⟩,-⟩:=HE.out w16 HB16.out
 go_wp2_with fail
 rw [← HW17.out]
 refine HM.out.mono ?_
 clear HM HW17 d0 d1 d2 d3 d4 d5
 rintro e w18 ⟨rfl,hb'⟩
 have HB18:=Lh (HA17.out.trans (hb'.mono HA17.out.size))
 have HF18:=Lh (HC17.out.trans (hb'.mono HC17.out.size))
 clear hb'
 obtain ⟨W19,hW19⟩:∃W19,W19=w18.alloc (.cells #[.string ⟨#[99]⟩] 9):=⟨_,rfl⟩
 have hb':Below w18.heap.size w18 W19:=by rw [hW19];exact (Below.refl _ _).alloc lz _
 have hg':W19.heap[w18.heap.size]?=some (.cells #[.string ⟨#[99]⟩] 9 (0,0)):=by rw [hW19];exact heap_alloc_new w18 _
 have HA19:=Lh (HB18.out.trans (hb'.mono HB18.out.size))
 have HC19:=Lh (HF18.out.trans (hb'.mono HF18.out.size))
 have HM:=Lh (rI W6.heap.size w18.heap.size kY [pcN] W19 (HE.out W19 HA19.out).1.2.1 (yd hg') (by decide) (by decide) vd.2.2.1 (HE.out W19 HA19.out).1.2.2)
 have HW19:=Lh hW19
 clear hb' hg' hW19
 obtain ⟨-,-,d0,d1,d2,d3,d4,d5⟩:=HE.out w18 HB18.out
 go_wp2_with fail
 rw [← HW19.out]
 refine HM.out.mono ?_
 clear HM HW19 d0 d1 d2 d3 d4 d5
 rintro e w20 ⟨rfl,hb'⟩
 have HB20:=Lh (HA19.out.trans (hb'.mono HA19.out.size))
 have HF20:=Lh (HC19.out.trans (hb'.mono HC19.out.size))
 clear hb'
 have HSM:=Lh (ar ka ra ba kc rc bc W4.heap.size w20 (HF.out w20 HF20.out).1.1 (HE.out w20 HB20.out).1.1)
 obtain ⟨-,⟨d0,d1,d2,d3,d4,d5⟩,-⟩:=HE.out w20 HB20.out
 obtain ⟨-,⟨o0,o1,o2,o3,o4,o5⟩,-⟩:=HF.out w20 HF20.out
 go_wp2_with fail
 refine HSM.out.mono ?_
 clear HSM d0 d1 d2 d3 d4 d5 o0 o1 o2 o3 o4 o5
 rintro e w21 ⟨rfl,hb'⟩
 have HB21:=Lh (HB20.out.trans (hb'.mono HB20.out.size))
 have HF21:=Lh (HF20.out.trans (hb'.mono HF20.out.size))
 clear hb'
 obtain ⟨W22,hW22⟩:∃W22,W22=w21.alloc (.cells #[.string S] 9):=⟨_,rfl⟩
 have hb':Below w21.heap.size w21 W22:=by rw [hW22];exact (Below.refl _ _).alloc lz _
 have hg':W22.heap[w21.heap.size]?=some (.cells #[.string S] 9 (0,0)):=by rw [hW22];exact heap_alloc_new w21 _
 have HA22:=Lh (HB21.out.trans (hb'.mono HB21.out.size))
 have HC22:=Lh (HF21.out.trans (hb'.mono HF21.out.size))
 have HM:=Lh (rO g w21.heap.size W22 (HF.out W22 HC22.out).1.2 (by rw [← HS.out];exact yd hg') (HE.out W22 HA22.out).1.2.2)
 have HW22:=Lh hW22
 clear hb' hg' hW22
 obtain ⟨-,-,d0,d1,d2,d3,d4,d5⟩:=HF.out w21 HF21.out
 go_wp2_with fail
 rw [← HW22.out]
 refine HM.out.mono ?_
 clear HM HW22 d0 d1 d2 d3 d4 d5
 rintro e w23 ⟨rfl,hb'⟩
 have HB23:=Lh (HA22.out.trans (hb'.mono HA22.out.size))
 have HF23:=Lh (HC22.out.trans (hb'.mono HC22.out.size))
 clear hb'
 go_wp2
 go_ret
 exact ⟨rfl,HBW.out.trans (HB23.out.mono HBW.out.size)⟩
theorem mD {d:DelegsV} {path:ByteArray} (h1:qD d=true) (h2:qU path=true) (h3:d.bins.bits=0):xf runes d path=xK runes path d.roles:=by
 unfold xf
 rw [h1,h2,if_pos (by decide)]
 have:zy d.bins=true:=by
  cases hn:zy d.bins with
  | true=>rfl
  | false =>
   rw [zd] at h1
   unfold zK at h1
   rw [hn,if_neg (by decide)] at h1
   simp only [Bool.and_eq_true] at h1
   have:=(jA h1.2.2).1
   omega
 rw [if_pos this]
set_option maxHeartbeats 4000000 in
set_option maxRecDepth 100000 in
theorem uX (l:List Key2) (rs:List DelegV) (t bits:Int) (ids:List ByteArray) (pre path:ByteArray) (ka ra ba:Option Addr) (kc rc bc:Nat) (w:World) (G:DelegsGot w ⟨l,rs,⟨bits,pre,⟨t,ids⟩⟩⟩ ka ra ba kc rc bc) (hT:Tabs w) :
 Calls Tryz.prog 6 #[.agg #[.slice ka l.length kc,.slice ra rs.length rc,.int .i64 t,.slice ba ids.length bc,.int .i64 bits,.string pre],.string path] w fun e w'=>e=.returned (.bool true)∧Below w.heap.size w w':=by
 obtain ⟨W,hW⟩:∃W,W=w.alloc (.cells #[.slice ka l.length kc,.slice ra rs.length rc,.int .i64 t,.slice ba ids.length bc,.int .i64 bits,.string pre] 35):=⟨_,rfl⟩
 have hb:Below w.heap.size w W:=by rw [hW];exact (Below.refl _ _).alloc lz _
 have hx:W.heap[w.heap.size]?=some (.cells #[.slice ka l.length kc,.slice ra rs.length rc,.int .i64 t,.slice ba ids.length bc,.int .i64 bits,.string pre] 35 (0,0)):=by rw [hW];exact heap_alloc_new w _
 have HC:=Lh (show ∀w':World,Below W.heap.size W w'→w'.cell? ⟨w.heap.size,0,none⟩=some (.slice ka l.length kc)∧w'.cell? ⟨w.heap.size,1,none⟩=some (.slice ra rs.length rc)∧w'.cell? ⟨w.heap.size,2,none⟩=some (.int .i64 t)∧w'.cell? ⟨w.heap.size,3,none⟩=some (.slice ba ids.length bc)∧w'.cell? ⟨w.heap.size,4,none⟩=some (.int .i64 bits)∧w'.cell? ⟨w.heap.size,5,none⟩=some (.string pre) from fun w' h=>by
  have y:=(h.block _ (qv hx)).trans hx
  exact ⟨qq y rfl,qq y rfl,qq y rfl,qq y rfl,qq y rfl,qq y rfl⟩)
 have HI:=Lh (show ∀w':World,Below W.heap.size W w'→DelegsIn w' 0 w'.heap.size ⟨l,rs,⟨bits,pre,⟨t,ids⟩⟩⟩ ka ra ba∧Tabs w' from fun w' h=>⟨G.rows.below (hb.trans (h.mono hb.size)) lz lz (Nat.le_trans hb.size h.size),hT.below (hb.trans (h.mono hb.size))⟩)
 have hrc:rs.length≤rc:=G.cr
 have HLO:=Lh (dc l rs t bits ids pre ka ra ba kc rc bc W (HI.out W (Below.refl _ _)).1 G.lk G.lr (fun x hx=>⟨(G.each x hx).2.2.1,(G.each x hx).2.2.2.1,(G.each x hx).2.2.2.2⟩) G.lb)
 have HAW:=Lh (show ∀w':World,Below W.heap.size W w'→_ from fun w' h=>su w' (HI.out w' h).2)
 have HFT:=Lh (show NotLongD ⟨l,rs,⟨bits,pre,⟨t,ids⟩⟩⟩→DelegsFits ⟨l,rs,⟨bits,pre,⟨t,ids⟩⟩⟩ from fun h=>yS h G.bits G.thr (fun x hx=>(G.each x hx).1))
 have HB:=Lh hb
 have HW:=Lh hW
 have HRC:=Lh hrc
 clear hb hx hW G hT hrc
 obtain ⟨q0,q1,q2,q3,q4,q5⟩:=HC.out W (Below.refl _ _)
 go_enter Tryz.func6,Tryz.ntmps6
 go_upto_region 1 with fail
 rw [← HW.out]
 clear HW
 go_wp2_with fail
 refine HLO.out.mono ?_
 clear HLO q0 q1 q2 q3 q4 q5
 rintro e w1 ⟨b,rfl,hnl,hb1⟩
 have HB1:=Lh hb1
 have HNL:=Lh hnl
 clear hb1 hnl
 cases b with
 | true =>
  go_wp2_with fail
  refine (HAW.out w1 HB1.out).mono ?_
  rintro e wa ⟨rfl,hba⟩
  have HBA:=Lh (HB1.out.trans (hba.mono HB1.out.size))
  clear hba
  go_wp2
  go_ret
  exact ⟨rfl,HB.out.trans (HBA.out.mono HB.out.size)⟩
 | false =>
 have HF:=Lh (HFT.out (HNL.out rfl))
 clear HFT HNL
 by_cases h1000:path.size≤1000
 case neg =>
  have g1:decide (1000<(path.size:Int))=true:=by simp;omega
  go_wp2_with fail
  refine (HAW.out w1 HB1.out).mono ?_
  rintro e wa ⟨rfl,hba⟩
  have HBA:=Lh (HB1.out.trans (hba.mono HB1.out.size))
  clear hba
  go_wp2
  go_ret
  exact ⟨rfl,HB.out.trans (HBA.out.mono HB.out.size)⟩
 have g1:decide (1000<(path.size:Int))=false:=by simp;omega
 have HPT:=Lh (fun w=>kO path w (by omega))
 obtain ⟨q0,q1,q2,q3,q4,q5⟩:=HC.out w1 HB1.out
 by_cases hbits:bits=0
 case neg =>
  have g2:(bits != 0)=true:=by simpa using hbits
  clear hbits
  go_wp2_with fail
  refine (HAW.out w1 HB1.out).mono ?_
  rintro e wa ⟨rfl,hba⟩
  have HBA:=Lh (HB1.out.trans (hba.mono HB1.out.size))
  clear hba
  go_wp2
  go_ret
  exact ⟨rfl,HB.out.trans (HBA.out.mono HB.out.size)⟩
 have g2:(bits != 0)=false:=by simpa using hbits
 have HBT:=Lh hbits
 have HMY:=Lh (bg l rs t bits ids pre ka ra ba kc rc bc w1 (HI.out w1 HB1.out).1 HF.out HRC.out (HI.out w1 HB1.out).2)
 have HGO:=Lh (show ∀w':World,Below W.heap.size W w'→_ from fun w' h=>pi l rs t bits ids pre path ka ra ba kc rc bc w' (HI.out w' h).1 HF.out HRC.out (by omega) (HI.out w' h).2)
 have HGL:=Lh (@mD ⟨l,rs,⟨bits,pre,⟨t,ids⟩⟩⟩ path)
 have HGB:=Lh (@pt ⟨l,rs,⟨bits,pre,⟨t,ids⟩⟩⟩ path)
 have HIS:=Lh (show ∀w':World,Below W.heap.size W w'→∀x ∈ rs,∀ia pa qa ic pc qc,DelegIn w' 0 w'.heap.size x ia pa qa→_ from fun w' h x hx ia pa qa ic pc qc hin=>ce x path ia pa qa ic pc qc w' hin (HF.out.roles x hx) (by omega) (HI.out w' h).2)
 obtain ⟨S,hS⟩:∃S,S=xf runes ⟨l,rs,⟨bits,pre,⟨t,ids⟩⟩⟩ path:=⟨_,rfl⟩
 rw [← hS] at HGO HGL HGB
 obtain ⟨mb,hmb⟩:∃mb,mb=qD ⟨l,rs,⟨bits,pre,⟨t,ids⟩⟩⟩:=⟨_,rfl⟩
 rw [← hmb] at HMY HGL HGB
 obtain ⟨pb,hpb⟩:∃pb,pb=qU path:=⟨_,rfl⟩
 rw [← hpb] at HPT HGL HGB
 clear hbits hS hmb hpb
 go_wp2_with fail
 refine HMY.out.mono ?_
 clear HMY q0 q1 q2 q3 q4 q5
 rintro e w2 ⟨rfl,hb2⟩
 have HB2:=Lh (HB1.out.trans (hb2.mono HB1.out.size))
 clear hb2
 cases mb with
 | false =>
  go_wp2_with fail
  refine (HAW.out w2 HB2.out).mono ?_
  rintro e wa ⟨rfl,hba⟩
  have HBA:=Lh (HB2.out.trans (hba.mono HB2.out.size))
  clear hba
  go_wp2
  go_ret
  exact ⟨rfl,HB.out.trans (HBA.out.mono HB.out.size)⟩
 | true =>
 go_wp2_with fail
 refine (HAW.out w2 HB2.out).mono ?_
 clear HAW
 rintro e w3 ⟨rfl,hb3⟩
 have HB3:=Lh (HB2.out.trans (hb3.mono HB2.out.size))
 clear hb3
 obtain ⟨q0,q1,q2,q3,q4,q5⟩:=HC.out w3 HB3.out
 go_wp2_with fail
 refine (HGO.out w3 HB3.out).mono ?_
 clear HGO q0 q1 q2 q3 q4 q5
 rintro e w4 ⟨a,c,sq,rfl,hsq,hown,hb4⟩
 have HST:=Lh (zM.steps hown hsq)
 have HB4:=Lh (HB3.out.trans (hb4.mono HB3.out.size))
 clear hown hsq hb4
 go_wp2_with fail
 refine (HPT.out w4).mono ?_
 clear HPT
 rintro e w5 ⟨rfl,hb5⟩
 have HB5:=Lh (HB4.out.trans (hb5.mono HB4.out.size))
 replace HST:=Lh (HST.out.below hb5 lz lz hb5.size)
 clear hb5
 cases pb with
 | false =>
  have hS0:S=[]:=HGB.out (by simp)
  subst hS0
  rw [List.length_nil]
  go_wp2
  go_ret
  exact ⟨by first|rfl|simp,HB.out.trans (HB5.out.mono HB.out.size)⟩
 | true =>
 have HSL:=Lh (show S=xK runes path rs from HGL.out (by first|exact rfl|exact trivial) (by first|exact rfl|exact trivial) HBT.out)
 obtain ⟨nn,hnn⟩:∃nn,nn=rs.length:=⟨_,rfl⟩
 have HNN:=Lh hnn
 obtain ⟨n1,hn1⟩:∃n1,n1=S.length:=⟨_,rfl⟩
 have HN1:=Lh hn1
 rw [← hn1]
 rw [← hnn] at HC
 have f70:nn≤70:=by rw [hnn];exact HF.out.many
 clear hnn hn1 HGL HGB
 go_wp2_with fail
 go_loopw [6,7,8] (fun at' i _ wr=>∃k m:Nat,k≤nn∧m≤k∧m≤n1∧at'=.int .i64 m∧i=.int .i64 k∧xK runes path (rs.drop k)=S.drop m∧Below w5.heap.size w5 wr) (fun _ i _ _=>nn - (intOf i).toNat)
 case atStart=>exact ⟨0,0,by omega,by omega,by omega,rfl,rfl,HSL.out.symm,Below.refl _ _⟩
 case round =>
  obtain ⟨k,m,hk,hmk,hm,rfl,rfl,hgl,hbr⟩:=hrel
  have HGL:=Lh hgl
  have HBR:=Lh hbr
  have HBZ:=Lh (HB5.out.trans (hbr.mono HB5.out.size))
  obtain ⟨q0,q1,q2,q3,q4,q5⟩:=HC.out wr HBZ.out
  clear hgl hbr q0 q2 q3 q4 q5
  by_cases hlt:k<nn
  · have hkl:k<rs.length:=by rw [← HNN.out];exact hlt
    obtain ⟨b,o,ha,-,hbb,ia,ic,pa,pc,qa,qc,e0,e1,e2,e3,e4,e5,-,-,-,hin⟩:=(HI.out wr HBZ.out).1.roles.at k hkl
    subst ha
    have m1:(0:Int)≤(k:Int):=by omega
    have m2:(k:Int)<(nn:Int):=by omega
    have m3:decide ((k:Int)<(nn:Int))=true:=by simpa using hlt
    have HAT:=Lh (ut (rs:=rs) (path:=path) hkl)
    have hmem:=List.getElem_mem hkl
    obtain ⟨x,hx⟩:∃x,x=rs[k]:=⟨_,rfl⟩
    rw [← hx] at e0 e1 e2 e3 e4 e5 hin HAT hmem
    clear hx
    obtain ⟨nm,⟨thr,xid⟩,tm,ps,qs⟩:=x
    dsimp only at e0 e1 e2 e3 e4 e5
    obtain ⟨WX,hWX⟩:∃WX,WX=wr.alloc (.cells #[.string nm,.int .i64 thr,.slice ia xid.length ic,.bool tm,.slice pa ps.length pc,.slice qa qs.length qc] 41):=⟨_,rfl⟩
    have hbX:Below wr.heap.size wr WX:=by rw [hWX];exact (Below.refl _ _).alloc lz _
    have hxX:WX.heap[wr.heap.size]?=some (.cells #[.string nm,.int .i64 thr,.slice ia xid.length ic,.bool tm,.slice pa ps.length pc,.slice qa qs.length qc] 41 (0,0)):=by rw [hWX];exact heap_alloc_new wr _
    have HBX:=Lh (HBR.out.trans (hbX.mono HBR.out.size))
    have HCX:=Lh (show ∀w':World,Below WX.heap.size WX w'→w'.cell? ⟨wr.heap.size,0,none⟩=some (.string nm)∧w'.cell? ⟨wr.heap.size,1,none⟩=some (.int .i64 thr)∧w'.cell? ⟨wr.heap.size,2,none⟩=some (.slice ia xid.length ic)∧w'.cell? ⟨wr.heap.size,3,none⟩=some (.bool tm)∧w'.cell? ⟨wr.heap.size,4,none⟩=some (.slice pa ps.length pc)∧w'.cell? ⟨wr.heap.size,5,none⟩=some (.slice qa qs.length qc) from fun w' h=>by
     have y:=(h.block _ (qv hxX)).trans hxX
     exact ⟨qq y rfl,qq y rfl,qq y rfl,qq y rfl,qq y rfl,qq y rfl⟩)
    have HIX:=Lh (HIS.out WX (HB5.out.trans (HBX.out.mono HB5.out.size)) _ hmem ia pa qa ic pc qc (hin.below hbX lz lz hbX.size))
    have HIN:=Lh (show ∀w':World,Below WX.heap.size WX w'→qw w' 0 w'.heap.size ia xid from fun w' h=>hin.ids.below (hbX.trans (h.mono hbX.size)) lz lz (Nat.le_trans hbX.size h.size))
    have hxl:xid.length≤4294967296:=(HF.out.roles _ hmem).au.2.1
    have HWX:=Lh hWX
    obtain ⟨bi,hbi⟩:∃bi,bi=isD runes ⟨nm,⟨thr,xid⟩,tm,ps,qs⟩ path:=⟨_,rfl⟩
    rw [← hbi] at HIX HAT
    dsimp only at HIX HAT
    clear hbX hxX hWX hin hmem hbi
    obtain ⟨z0,z1,z2,z3,z4,z5⟩:=HCX.out WX (Below.refl _ _)
    go_upto_region 11 with fail
    rw [← HWX.out]
    clear e0 e1 e2 e3 e4 e5 HWX q1
    go_wp2_with fail
    refine HIX.out.mono ?_
    clear HIX z0 z1 z2 z3 z4 z5
    rintro e w6 ⟨rfl,hb6⟩
    have HB6:=Lh hb6
    have HBW:=Lh (HBX.out.trans (hb6.mono HBX.out.size))
    clear hb6
    cases bi with
    | false =>
     rw [if_neg (by decide)] at HAT
     go_wp2
     go_roundw
     case rel=>exact ⟨k+1,m,by omega,by omega,by omega,rfl,by go_num,by rw [← HAT.out,HGL.out],HBW.out⟩
     case measure=>simp [intOf];omega
    | true =>
     rw [if_pos rfl] at HAT
     have HDR:=Lh (show S.drop m=_ from HGL.out.symm.trans HAT.out)
     have hml:m<S.length:=by
      rcases Nat.lt_or_ge m S.length with h|h
      · exact h
      · have:=HDR.out
        rw [List.drop_eq_nil_of_le h] at this
        cases this
     have hcons:=HDR.out
     rw [List.drop_eq_getElem_cons hml] at hcons
     injection hcons with hS1 hS2
     have HS2:=Lh hS2
     obtain ⟨gb,go,ha,-,hgb,ja,jc,s0,s1,s2,s3,-,hss⟩:=(HST.out.below HBW.out lz lz HBW.out.size).at m hml
     subst ha
     rw [hS1] at s0 s1 s2 s3 hss
     dsimp only [my] at s0 s1 s2 s3 hss
     have HTX:=Lh (fun n=>jV xid xid ja ia jc ic (w6.drewN n) (hss.carry (Nat.zero_le _) lz (fun _ _ _=>rfl)) (HIN.out (w6.drewN n) (Below.drewN HB6.out n)) hxl)
     rw [decide_eq_true (show xid=xid from rfl)] at HTX
     have hn1:m<n1:=by rw [HN1.out];exact hml
     have j1:(0:Int)≤(m:Int):=by omega
     have j2:(m:Int)<(n1:Int):=by omega
     have j3:((m:Int) == (n1:Int))=false:=by simp;omega
     have j4:(nm.toList == nm.toList)=true:=by simp
     have j5:(nm.toList != nm.toList)=false:=by simp
     have j6:(tm != tm)=false:=by simp
     have j7:(thr != thr)=false:=by simp
     clear hS1 hS2 hss hml
     obtain ⟨z0,z1,z2,z3,z4,z5⟩:=HCX.out w6 HB6.out
     go_wp2_with fail
     go_quiet ((go_at_call 35;with_reducible exact Calls.quiet_of (HTX.out _)))
     have hb7:=Below.drewN HB6.out nq
     have HB7:=Lh (Below.drewN HBW.out nq)
     clear s0 s1 s2 s3 z0 z1 z2 z4 z5
     cases tm with
     | true =>
      have HLE:=Lh (show n1=m+1 from by
       have h:=HS2.out
       rw [if_pos rfl] at h
       have:=congrArg List.length h
       rw [List.length_drop,List.length_nil] at this
       rw [HN1.out]
       have:=HN1.out
       omega)
      go_wp2
      go_ret
      exact ⟨by rw [HLE.out];first|rfl|simp,HB.out.trans ((HB5.out.trans (HB7.out.mono HB5.out.size)).mono HB.out.size)⟩
     | false =>
      have HNX:=Lh (show xK runes path (rs.drop (k+1))=S.drop (m+1) from by
       have h:=HS2.out
       rw [if_neg (by decide)] at h
       exact h.symm)
      go_wp2
      go_roundw
      case rel=>exact ⟨k+1,m+1,by omega,by omega,by omega,by go_num,by go_num,HNX.out,HB7.out⟩
      case measure=>simp [intOf];omega
  · have m3:decide ((k:Int)<(nn:Int))=false:=by simpa using hlt
    have HLE:=Lh (show n1=m from by
     have h:=HGL.out
     rw [List.drop_eq_nil_of_le (by rw [← HNN.out];omega)] at h
     have:=congrArg List.length h
     rw [List.length_drop] at this
     have h3:(xK runes path []).length=0:=rfl
     rw [h3,← HN1.out] at this
     omega)
    go_wp2
    go_ret
    exact ⟨by rw [HLE.out];first|rfl|simp,HB.out.trans (HBZ.out.mono HB.out.size)⟩
end Go.Proofs.YthgembbgcbaghaaGreatDoor
