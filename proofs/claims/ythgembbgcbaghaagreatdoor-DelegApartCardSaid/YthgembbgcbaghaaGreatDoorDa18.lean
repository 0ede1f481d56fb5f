/- The hashes of an object, plain: which they are, or why there are none. No program in sight. -/
import Derived.Test.YthgembbgcbaghaaGreatDoorDa17

namespace Go.Proofs.YthgembbgcbaghaaGreatDoor
open Go.RowKit Go.WideMaps Go.Maps
def zJ (k n l h:Int):Int:=if k≠2 then 10 else if n<l∨h<n then 1 else 0
def xF (k n l h:Int):Int:=if k≠2 then 0 else if n<l∨h<n then 0 else n
theorem pZ {k n l h:Int} (e:zJ k n l h=0):k=2∧¬(n<l∨h<n):=by
 unfold zJ at e
 split at e
 · omega
 split at e
 · omega
 · exact ⟨by omega,by omega⟩
theorem dZ {k n l h:Int} (e:zJ k n l h=0):xF k n l h=n:=by
 obtain ⟨a,b⟩:=pZ e
 unfold xF;rw [if_neg (by simp [a]),if_neg b]
theorem dX {k n l h:Int} (e:¬zJ k n l h=0):xF k n l h=0:=by
 unfold zJ at e;unfold xF
 split
 · rfl
 split
 · rfl
 · rename_i a b;rw [if_neg a,if_neg b] at e;omega
theorem dJ {it:JV} {a:List ByteArray} {l h:Int} {X:Int × PS} (e:¬zJ it.kind it.n l h=0) :
 (if it.kind≠2 then ((0:Int),(⟨a,10⟩:PS)) else if it.n<l∨h<it.n then (0,⟨a,1⟩) else X)=(0,⟨a,zJ it.kind it.n l h⟩):=by
 unfold zJ at e ⊢
 split
 · rfl
 split
 · rfl
 · rename_i a b;rw [if_neg a,if_neg b] at e;omega
set_option maxHeartbeats 400000 in
theorem sk (k n:Int) (t:ByteArray) (a b:Value) (l h:Int) (p1 p2:Nat) (w:World) (c1:w.cell? ⟨p1,0,none⟩=some (.int .i64 l)) (c2:w.cell? ⟨p2,0,none⟩=some (.int .i64 h)) :
 Calls Tryz.prog 185 #[.agg #[.int .u8 k,.int .i64 n,.string t,a,b],.pointer (some ⟨p1,0,none⟩),.pointer (some ⟨p2,0,none⟩)] w fun e w'=>e=.returned (.tuple #[.int .i64 (xF k n l h),.int .i64 (zJ k n l h)])∧Below w.heap.size w w':=by
 have hb:Below w.heap.size w (w.alloc (.cells #[.int .u8 k,.int .i64 n,.string t,a,b] 25)):=(Below.refl _ _).alloc lz _
 have d1:(w.alloc (.cells #[.int .u8 k,.int .i64 n,.string t,a,b] 25)).cell? ⟨p1,0,none⟩=some (.int .i64 l):=by rw [hb.cell (World.block_lt_of_cell? w _ c1)];exact c1
 have d2:(w.alloc (.cells #[.int .u8 k,.int .i64 n,.string t,a,b] 25)).cell? ⟨p2,0,none⟩=some (.int .i64 h):=by rw [hb.cell (World.block_lt_of_cell? w _ c2)];exact c2
 have HB:=Lh hb
 clear hb
 by_cases hk:k=2
 · subst hk
   by_cases h1:n<l
   · have HV:=Lh (show xF 2 n l h=0∧zJ 2 n l h=1 by unfold xF zJ;simp [h1])
     have h1':decide (n<l)=true:=by simpa using h1
     go_enter Tryz.func185,Tryz.ntmps185
     go_wp2
     go_ret2
     exact ⟨by rw [HV.out.1,HV.out.2];rfl,HB.out.trans (by first|exact Below.refl _ _|exact (Below.refl _ _).drew)⟩
   · have h1':decide (n<l)=false:=by simpa using h1
     by_cases h2:h<n
     · have HV:=Lh (show xF 2 n l h=0∧zJ 2 n l h=1 by unfold xF zJ;simp [h2])
       have h2':decide (h<n)=true:=by simpa using h2
       go_enter Tryz.func185,Tryz.ntmps185
       go_wp2
       go_ret2
       exact ⟨by rw [HV.out.1,HV.out.2];rfl,HB.out.trans (by first|exact Below.refl _ _|exact (Below.refl _ _).drew)⟩
     · have HV:=Lh (show xF 2 n l h=n∧zJ 2 n l h=0 by unfold xF zJ;simp [h1,h2])
       have h2':decide (h<n)=false:=by simpa using h2
       clear h1 h2
       go_enter Tryz.func185,Tryz.ntmps185
       go_wp2
       go_ret2
       exact ⟨by rw [HV.out.1,HV.out.2];rfl,HB.out.trans (by first|exact Below.refl _ _|exact (Below.refl _ _).drew)⟩
 · have HV:=Lh (show xF k n l h=0∧zJ k n l h=10 by unfold xF zJ;simp [hk])
   have hk':(k == 2)=false:=by simpa using hk
   clear hk
   go_enter Tryz.func185,Tryz.ntmps185
   go_wp2
   go_ret2
   exact ⟨by rw [HV.out.1,HV.out.2];rfl,HB.out⟩
def cF (o m lo hi:Nat) (v:JV) (an ai:Option Addr) (cn ci:Nat) (y:ByteArray) (l h:Int) (st:PS) (w:World) (e:Ending) (w':World):Prop :=
 e=.returned (.int .i64 (qP v y l h st).1)∧PickAt o m lo hi v an ai cn ci (qP v y l h st).2 w'∧Touch (fun b=>b=o∨b=m) w w'
set_option maxHeartbeats 1000000 in
set_option maxRecDepth 100000 in
theorem sw (o m lo hi:Nat) (v:JV) (an ai:Option Addr) (cn ci:Nat) (y:ByteArray) (l h:Int) (st:PS) (w:World) (hP:PickAt o m lo hi v an ai cn ci st w) (hy:y.size≤4294967296) (ha:st.asked.length≤4294967296) (p1 p2:Nat) (g1:w.heap[p1]?=some (.cells #[.int .i64 l] 2 (0,0))) (g2:w.heap[p2]?=some (.cells #[.int .i64 h] 2 (0,0))) :
 Calls Tryz.prog 184 #[.pointer (some ⟨o,0,none⟩),.string y,.func (.func 185) #[] #[.pointer (some ⟨p1,0,none⟩),.pointer (some ⟨p2,0,none⟩)]] w (cF o m lo hi v an ai cn ci y l h st w):=by
 have HP:=Lh hP
 have HG1:=Lh g1
 have HG2:=Lh g2
 clear hP g1 g2
 have c6:w.cell? ⟨o,6,none⟩=some (.int .i64 st.err):=qq HP.out.obj rfl
 have c0:w.cell? ⟨o,0,none⟩=some (.int .u8 5):=(qq (j:=0) HP.out.obj rfl).trans (by rw [HP.out.kind];rfl)
 by_cases he:st.err=0
 · rw [he] at c6
   have HE:=Lh he
   clear he
   have c1:w.cell? ⟨o,1,none⟩=some (.int .i64 v.n):=qq HP.out.obj rfl
   have c2:w.cell? ⟨o,2,none⟩=some (.string v.t):=qq HP.out.obj rfl
   have c3:w.cell? ⟨o,3,none⟩=some (.slice an v.names.length cn):=qq HP.out.obj rfl
   have c4:w.cell? ⟨o,4,none⟩=some (.slice ai v.items.length ci):=qq HP.out.obj rfl
   have HR:=Lh HP.out.rep
   rw [HP.out.kind] at HR
   have HG:=Lh (xS v y _ w lo hi HP.out.wt HP.out.pos HP.out.le HR.out HP.out.kind HP.out.rise HP.out.len)
   go_enter Tryz.func184,Tryz.ntmps184
   go_wp2_with fail
   refine (qD o 0 5 w c6 c0 (fun _=>rfl)).mono ?_
   rintro r w' ⟨rfl,rfl⟩
   go_wp2_with fail
   refine HG.out.mono ?_
   clear HG c0 c1 c2 c3 c4 c6
   rintro e w1 ⟨hh,hb1⟩
   have HB1:=Lh hb1
   clear hb1
   rcases hh with ⟨r,hr1,hr2,hre,an',cn',ai',ci',rfl,hrep⟩|⟨hno,rfl⟩
   · have HL:=Lh (xB HP.out.rise r hr1 hr2 hre)
     clear hre hrep
     generalize v.items[r]=it at *
     have hb2:Below w.heap.size w (w1.alloc (.cells #[.int .u8 it.kind,.int .i64 it.n,.string it.t,.slice an' it.names.length cn',.slice ai' it.items.length ci'] 25)):=HB1.out.alloc HB1.out.size _
     have HB2:=Lh hb2
     have HC:=Lh (sk it.kind it.n it.t (.slice an' it.names.length cn') (.slice ai' it.items.length ci') l h p1 p2 (w1.alloc (.cells #[.int .u8 it.kind,.int .i64 it.n,.string it.t,.slice an' it.names.length cn',.slice ai' it.items.length ci'] 25)) (qq ((hb2.block _ (qx HG1.out)).trans HG1.out) rfl) (qq ((hb2.block _ (qx HG2.out)).trans HG2.out) rfl))
     clear hb2
     by_cases hk:zJ it.kind it.n l h=0
     · have HK:=Lh hk
       have HX:=Lh (show qP v y l h st=(it.n,⟨y :: st.asked,0⟩) by unfold qP;rw [if_neg (by simp [HE.out]),HL.out];obtain ⟨q1,q2⟩:=pZ hk;simp only;rw [if_neg (by simp [q1]),if_neg q2])
       rw [dZ hk,hk] at HC
       clear hk
       go_wp2_with fail
       refine HC.out.mono ?_
       clear HC
       rintro e w2 ⟨rfl,hb3⟩
       have HB3:=Lh (HB2.out.trans (hb3.mono HB2.out.size))
       have HP3:=Lh (HP.out.below HB3.out)
       clear hb3 HB2
       have d5:w2.cell? ⟨o,5,none⟩=some (.map (some m)):=qq HP3.out.obj rfl
       have hkey:keyOf Tryz.prog 9 (.string y)=some (.string y.data.toList):=keyOf_string_mk Tryz.underlying9 (by unfold maxLen;omega)
       obtain ⟨D,n,hown,hn,hD⟩:=HP3.out.map
       obtain ⟨c,hat,hc0,hc1,hc2⟩:=hD.2 y
       obtain ⟨c',hrun,hat',_⟩:=hown.lookup_int xP Tryz.underlying150 Tryz.underlying3 (jC _) hkey
       rw [hat] at hat'
       simp only [DataW.lit.injEq,Lit.int.injEq,true_and] at hat'
       subst hat'
       have HD:=Lh (hD.cons y c hat)
       have HKY:=Lh hkey
       have HOW:=Lh hown
       clear hD hat hc2 hkey hown
       go_wp2_with (at_mapUpdate;refine wpList_mapUpdate_own _ rfl _ _ _ 150 rfl 9 3 xP Tryz.underlying150 _ m n D rfl HOW.out (by unfold maxLen;omega) _ _ _ rfl rfl HKY.out _ [] (plainElem_int Tryz.underlying3 (WalkArith.wf_i64 (by omega))) ?_)
       intro w3 hown3 hgrow3
       have HP4:=Lh (HP3.out.ask y hgrow3 hown3 (by omega) HD.out)
       have HT:=Lh (show Touch (fun b=>b=o∨b=m) w w3 from ⟨by rw [hgrow3.os,HB3.out.os],by rw [hgrow3.tape,HB3.out.tape],by rw [hgrow3.output,HB3.out.output],Nat.le_trans HB3.out.size hgrow3.size,fun k hk hs=>by rw [hgrow3.block k (Nat.lt_of_lt_of_le hk HB3.out.size) (fun e=>hs (.inr (Option.some.inj e))),HB3.out.block k hk]⟩)
       clear hgrow3 hown3
       rw [HE.out] at HP4
       go_wp2
       go_ret
       exact ⟨by rw [HX.out];rfl,by rw [HX.out];exact HP4.out,HT.out⟩
     · have HX:=Lh (show qP v y l h st=(0,⟨st.asked,zJ it.kind it.n l h⟩) by unfold qP;rw [if_neg (by simp [HE.out]),HL.out];exact dJ hk)
       obtain ⟨er,her⟩:∃er,er=zJ it.kind it.n l h:=⟨_,rfl⟩
       rw [dX hk,← her] at HC
       rw [← her] at HX hk
       have hk':(er != 0)=true:=by simpa using hk
       have hk2:(er == 0)=false:=by simpa using hk
       clear hk her
       go_wp2_with fail
       refine HC.out.mono ?_
       clear HC
       rintro e w2 ⟨rfl,hb3⟩
       have HB3:=Lh (HB2.out.trans (hb3.mono HB2.out.size))
       have HP3:=Lh (HP.out.below HB3.out)
       clear hb3 HB2
       have d6:w2.cell? ⟨o,6,none⟩=some (.int .i64 0):=(qq (j:=6) HP3.out.obj rfl).trans (by rw [HE.out];rfl)
       have d0:w2.cell? ⟨o,0,none⟩=some (.int .u8 5):=(qq (j:=0) HP3.out.obj rfl).trans (by rw [HP.out.kind];rfl)
       have d7:w2.frozen? ⟨o,6,none⟩=false:=by simp [World.frozen?,HP3.out.obj]
       go_wp2_with fail
       refine (zX o er _ d6 d0 d7).mono ?_
       clear d6 d0 d7
       rintro e w3 ⟨rfl,rfl⟩
       have HP4:=Lh (HP3.out.fail er)
       have HT:=Lh (show Touch (fun b=>b=o∨b=m) w (w2.setCell ⟨o,6,none⟩ (.int .i64 er)) from (Touch.of_below HB3.out lz).setCell (.inl (.inl rfl)) _)
       go_wp2
       go_ret
       exact ⟨by rw [HX.out];rfl,by rw [HX.out];exact HP4.out,HT.out⟩
   · have HX:=Lh (show qP v y l h st=(0,⟨st.asked,6⟩) by unfold qP;rw [if_neg (by simp [HE.out]),show v.look y=none from xz _ _ _ hno])
     unfold zeroAgg
     have HB3:=Lh (show Below w.heap.size w (w1.alloc (.cells #[.int .u8 0,.int .i64 0,.string ⟨#[]⟩,.slice none 0 0,.slice none 0 0] 25)) from HB1.out.alloc HB1.out.size _)
     have HP3:=Lh (HP.out.below HB3.out)
     clear hno HB1
     have d6:(w1.alloc (.cells #[.int .u8 0,.int .i64 0,.string ⟨#[]⟩,.slice none 0 0,.slice none 0 0] 25)).cell? ⟨o,6,none⟩=some (.int .i64 0):=(qq (j:=6) HP3.out.obj rfl).trans (by rw [HE.out];rfl)
     have d0:(w1.alloc (.cells #[.int .u8 0,.int .i64 0,.string ⟨#[]⟩,.slice none 0 0,.slice none 0 0] 25)).cell? ⟨o,0,none⟩=some (.int .u8 5):=(qq (j:=0) HP3.out.obj rfl).trans (by rw [HP.out.kind];rfl)
     have d7:(w1.alloc (.cells #[.int .u8 0,.int .i64 0,.string ⟨#[]⟩,.slice none 0 0,.slice none 0 0] 25)).frozen? ⟨o,6,none⟩=false:=by simp [World.frozen?,HP3.out.obj]
     go_wp2_with fail
     refine (zX o 6 _ d6 d0 d7).mono ?_
     clear d6 d0 d7
     rintro e w3 ⟨rfl,rfl⟩
     have HP4:=Lh (HP3.out.fail 6)
     have HT:=Lh (show Touch (fun b=>b=o∨b=m) w ((w1.alloc (.cells #[.int .u8 0,.int .i64 0,.string ⟨#[]⟩,.slice none 0 0,.slice none 0 0] 25)).setCell ⟨o,6,none⟩ (.int .i64 6)) from (Touch.of_below HB3.out lz).setCell (.inl (.inl rfl)) _)
     go_wp2
     go_ret
     exact ⟨by rw [HX.out];rfl,by rw [HX.out];exact HP4.out,HT.out⟩
 · have he':(st.err == 0)=false:=by simpa using he
   have he2:(st.err != 0)=true:=by simpa using he
   have HX:=Lh (show qP v y l h st=(0,st) by unfold qP;rw [if_pos he])
   have HE:=Lh he
   clear he
   go_enter Tryz.func184,Tryz.ntmps184
   go_wp2_with fail
   refine (qD o st.err 5 w c6 c0 (fun _=>rfl)).mono ?_
   rintro r w' ⟨rfl,rfl⟩
   go_wp2
   go_ret
   exact ⟨by rw [HX.out];rfl,by rw [HX.out];exact HP.out,Touch.refl _ _⟩
set_option maxHeartbeats 1000000 in
theorem rl (o m lo hi:Nat) (v:JV) (an ai:Option Addr) (cn ci:Nat) (y:ByteArray) (l h:Int) (st:PS) (w:World) (hP:PickAt o m lo hi v an ai cn ci st w) (hy:y.size≤4294967296) (ha:st.asked.length≤4294967296) (hm:m<w.heap.size) (ho:o<w.heap.size) :
 Calls Tryz.prog 123 #[.pointer (some ⟨o,0,none⟩),.string y,.int .i64 l,.int .i64 h] w (cF o m lo hi v an ai cn ci y l h st w):=by
 have hb:Below w.heap.size w ((w.alloc (.cells #[.int .i64 l] 2)).alloc (.cells #[.int .i64 h] 2)):=((Below.refl _ _).alloc lz _).alloc (by simp) _
 have hz:(w.alloc (.cells #[.int .i64 l] 2)).heap.size=w.heap.size+1:=by simp
 have hn:=heap_alloc_new (w.alloc (.cells #[.int .i64 l] 2)) (.cells #[.int .i64 h] 2)
 rw [hz] at hn
 have HC:=Lh (sw o m lo hi v an ai cn ci y l h st _ (hP.below hb) hy ha w.heap.size (w.heap.size+1) (by rw [Below.heap_alloc _ _ _ (by omega)];exact heap_alloc_new w _) hn)
 have HB:=Lh hb
 have HO:=Lh (And.intro ho hm)
 clear hP hb hz hn ho hm
 go_enter Tryz.func123,Tryz.ntmps123
 go_wp2_with fail
 refine HC.out.mono ?_
 rintro e w' ⟨rfl,h1,h2⟩
 have H1:=Lh h1
 have H2:=Lh h2
 clear h1 h2
 go_wp2
 go_ret
 exact ⟨rfl,H1.out,(Touch.of_below HB.out lz).trans H2.out⟩
def zF (it:JV) (most:Nat):Int:=if it.kind≠5 then 10 else if most<it.items.length then 5 else 0
theorem dK {it:JV} {most:Nat} (e:zF it most=0):it.kind=5∧¬most<it.items.length:=by
 unfold zF at e
 split at e
 · omega
 split at e
 · omega
 · exact ⟨by omega,by omega⟩
theorem dV {it:JV} {a:List ByteArray} {most:Nat} {X:JV × PS} (e:¬zF it most=0) :
 (if it.kind≠5 then (zx,(⟨a,10⟩:PS)) else if most<it.items.length then (zx,⟨a,5⟩) else X)=(zx,⟨a,zF it most⟩):=by
 unfold zF at e ⊢
 split
 · rfl
 split
 · rfl
 · rename_i a b;rw [if_neg a,if_neg b] at e;omega
set_option maxHeartbeats 1000000 in
set_option maxRecDepth 100000 in
theorem sy (it:JV) (most p1:Nat) (an' ai':Option Addr) (cn' ci':Nat) (w:World) (c1:w.cell? ⟨p1,0,none⟩=some (.int .i64 most)) :
 Calls Tryz.prog 120 #[.agg #[.int .u8 it.kind,.int .i64 it.n,.string it.t,.slice an' it.names.length cn',.slice ai' it.items.length ci'],.pointer (some ⟨p1,0,none⟩)] w fun e w'=>e=.returned (.tuple #[if zF it most=0 then .agg #[.int .u8 it.kind,.int .i64 it.n,.string it.t,.slice an' it.names.length cn',.slice ai' it.items.length ci'] else zeroAgg,.int .i64 (zF it most)])∧Below w.heap.size w w':=by
 have hz:(w.alloc (.cells #[.int .u8 it.kind,.int .i64 it.n,.string it.t,.slice an' it.names.length cn',.slice ai' it.items.length ci'] 25)).heap.size=w.heap.size+1:=by simp
 have hb:Below w.heap.size w ((w.alloc (.cells #[.int .u8 it.kind,.int .i64 it.n,.string it.t,.slice an' it.names.length cn',.slice ai' it.items.length ci'] 25)).alloc (.cells #[.int .u8 0,.int .i64 0,.string ⟨#[]⟩,.slice none 0 0,.slice none 0 0] 25)):=((Below.refl _ _).alloc lz _).alloc (by simp) _
 have d1:((w.alloc (.cells #[.int .u8 it.kind,.int .i64 it.n,.string it.t,.slice an' it.names.length cn',.slice ai' it.items.length ci'] 25)).alloc (.cells #[.int .u8 0,.int .i64 0,.string ⟨#[]⟩,.slice none 0 0,.slice none 0 0] 25)).cell? ⟨p1,0,none⟩=some (.int .i64 most):=by rw [hb.cell (World.block_lt_of_cell? w _ c1)];exact c1
 have hbox:=(qp w (.int .u8 it.kind) (.int .i64 it.n) (.string it.t) (.slice an' it.names.length cn') (.slice ai' it.items.length ci') 25).alloc (.cells #[.int .u8 0,.int .i64 0,.string ⟨#[]⟩,.slice none 0 0,.slice none 0 0] 25)
 have hres:=qp (w.alloc (.cells #[.int .u8 it.kind,.int .i64 it.n,.string it.t,.slice an' it.names.length cn',.slice ai' it.items.length ci'] 25)) (.int .u8 0) (.int .i64 0) (.string ⟨#[]⟩) (.slice none 0 0) (.slice none 0 0) 25
 rw [hz] at hres
 obtain ⟨W2,hW2⟩:∃W2,W2=((w.alloc (.cells #[.int .u8 it.kind,.int .i64 it.n,.string it.t,.slice an' it.names.length cn',.slice ai' it.items.length ci'] 25)).alloc (.cells #[.int .u8 0,.int .i64 0,.string ⟨#[]⟩,.slice none 0 0,.slice none 0 0] 25)):=⟨_,rfl⟩
 rw [← hW2] at hb d1 hbox hres
 obtain ⟨t0,t1,t2,t3,t4⟩:=rc5 hres
 obtain ⟨s0,s1,s2,s3,s4⟩:=rf5 hres
 obtain ⟨b0,b1,b2,b3,b4⟩:=rc5 hbox
 simp only [qQ] at t0 t1 t2 t3 t4 b0 b1 b2 b3 b4
 have HB:=Lh hb
 have HRS:=Lh hres
 have HW:=Lh hW2
 clear hb hbox hres hz hW2
 by_cases hk:it.kind=5
 · by_cases h1:most<it.items.length
   · have HV:=Lh (show zF it most=5 by unfold zF;rw [if_neg (by simp [hk]),if_pos h1])
     have HV2:=Lh (show (if zF it most=0 then (.agg #[.int .u8 it.kind,.int .i64 it.n,.string it.t,.slice an' it.names.length cn',.slice ai' it.items.length ci']:Value) else zeroAgg)=zeroAgg by rw [HV.out];rfl)
     rw [HV2.out,HV.out]
     rw [hk] at b0
     have h1':decide ((most:Int)<(it.items.length:Int))=true:=by simpa using h1
     clear hk
     go_enter Tryz.func120,Tryz.ntmps120
     go_upto_region 1 with fail
     rw [← HW.out]
     go_wp2
     refine bodyPost_ret (qk Tryz.results120 _ _ (w.heap.size+1) 25 _ (0,0) _ rfl (qi (set5 _ _ _ _ _ HRS.out)) Tryz.underlying25 rfl (by kernel_rfl) _ rfl) rfl ⟨rfl,q7 _ _ _ _ _ HB.out (by omega)⟩
   · have HV:=Lh (show zF it most=0 by unfold zF;rw [if_neg (by simp [hk]),if_neg h1])
     have HV2:=Lh (show (if zF it most=0 then (.agg #[.int .u8 it.kind,.int .i64 it.n,.string it.t,.slice an' it.names.length cn',.slice ai' it.items.length ci']:Value) else zeroAgg)=.agg #[.int .u8 it.kind,.int .i64 it.n,.string it.t,.slice an' it.names.length cn',.slice ai' it.items.length ci'] by rw [HV.out];rfl)
     rw [HV2.out,HV.out]
     have HK:=Lh hk
     rw [hk] at b0
     have h1':decide ((most:Int)<(it.items.length:Int))=false:=by simpa using h1
     clear hk
     go_enter Tryz.func120,Tryz.ntmps120
     go_upto_region 1 with fail
     rw [← HW.out]
     go_wp2
     refine bodyPost_ret (qk Tryz.results120 _ _ (w.heap.size+1) 25 _ (0,0) _ rfl (qi (set5 _ _ _ _ _ HRS.out)) Tryz.underlying25 rfl (by kernel_rfl) _ rfl) rfl ⟨by rw [HK.out] <;> rfl,q7 _ _ _ _ _ HB.out (by omega)⟩
 · have HV:=Lh (show zF it most=10 by unfold zF;rw [if_pos hk])
   have HV2:=Lh (show (if zF it most=0 then (.agg #[.int .u8 it.kind,.int .i64 it.n,.string it.t,.slice an' it.names.length cn',.slice ai' it.items.length ci']:Value) else zeroAgg)=zeroAgg by rw [HV.out];rfl)
   rw [HV2.out,HV.out]
   have hk':(it.kind == 5)=false:=by simpa using hk
   clear hk
   go_enter Tryz.func120,Tryz.ntmps120
   go_upto_region 1 with fail
   rw [← HW.out]
   go_wp2
   refine bodyPost_ret (qk Tryz.results120 _ _ (w.heap.size+1) 25 _ (0,0) _ rfl (qi (set5 _ _ _ _ _ HRS.out)) Tryz.underlying25 rfl (by kernel_rfl) _ rfl) rfl ⟨rfl,q7 _ _ _ _ _ HB.out (by omega)⟩
def vz (o m lo hi:Nat) (v:JV) (an ai:Option Addr) (cn ci:Nat) (y:ByteArray) (most:Nat) (st:PS) (w:World) (e:Ending) (w':World):Prop :=
 (∃an' cn' ai' ci',e=.returned (.agg #[.int .u8 (qr v y most st).1.kind,.int .i64 (qr v y most st).1.n,.string (qr v y most st).1.t,.slice an' (qr v y most st).1.names.length cn',.slice ai' (qr v y most st).1.items.length ci'])∧Rep w' w.heap.size w'.heap.size (qr v y most st).1 (.agg #[.int .u8 (qr v y most st).1.kind,.int .i64 (qr v y most st).1.n,.string (qr v y most st).1.t,.slice an' (qr v y most st).1.names.length cn',.slice ai' (qr v y most st).1.items.length ci'])) ∧
 PickAt o m lo hi v an ai cn ci (qr v y most st).2 w'∧Touch (fun b=>b=o∨b=m) w w'
theorem PickAt.set5 {o m lo hi g:Nat} {v:JV} {an ai:Option Addr} {cn ci:Nat} {st:PS} {w:World} (h:PickAt o m lo hi v an ai cn ci st w) (v0 v1 v2 v3 v4:Value) (ho:g≠o) (hm:g≠m) (hh:hi≤g):PickAt o m lo hi v an ai cn ci st (((((w.setCell ⟨g,0,none⟩ v0).setCell ⟨g,1,none⟩ v1).setCell ⟨g,2,none⟩ v2).setCell ⟨g,3,none⟩ v3).setCell ⟨g,4,none⟩ v4):=by
 have hs:(((((w.setCell ⟨g,0,none⟩ v0).setCell ⟨g,1,none⟩ v1).setCell ⟨g,2,none⟩ v2).setCell ⟨g,3,none⟩ v3).setCell ⟨g,4,none⟩ v4).heap.size=w.heap.size:=aw
 have h5:=q7 (b:=g) v0 v1 v2 v3 v4 (Below.refl g w) lz
 have hg:=fun k (hk:k≠g)=>xr (W:=w) v0 v1 v2 v3 v4 hk
 refine ⟨by rw [hg o (Ne.symm ho)];exact h.obj,?_,?_,h.pos,h.out,by rw [hs];exact h.le,h.kind,h.rise,h.len,h.wt⟩
 · obtain ⟨D,n,h1,h2,h3⟩:=h.map
   exact ⟨D,n,h1.kept (row:=some g) ⟨h5.os,h5.tape,h5.output,h5.size,fun k hk hn=>hg k (fun e=>hn (by rw [e]))⟩ (fun e=>hm (Option.some.inj e).symm),h2,h3⟩
 · exact Rep.carry lz lz (fun k _ hk=>hg k (by omega)) _ _ h.rep
theorem gI {o m lo hi:Nat} {v:JV} {an ai:Option Addr} {cn ci:Nat} {y:ByteArray} {most:Nat} {st st':PS} {it:JV} {w w3:World} {lo1 hi1 g:Nat} {an' ai':Option Addr} {cn' ci':Nat} (h:qr v y most st=(it,st'))
 (hR:Rep w3 lo1 hi1 it (.agg #[.int .u8 it.kind,.int .i64 it.n,.string it.t,.slice an' it.names.length cn',.slice ai' it.items.length ci'])) (hwg:w.heap.size≤g) (hlo:g<lo1) (hhi:hi1≤w3.heap.size) (hP:PickAt o m lo hi v an ai cn ci st' w3) (hT:Touch (fun b=>b=o∨b=m) w w3) (ho:g≠o) (hm:g≠m) (hh:hi≤g) :
 vz o m lo hi v an ai cn ci y most st w (.returned (.agg #[.int .u8 it.kind,.int .i64 it.n,.string it.t,.slice an' it.names.length cn',.slice ai' it.items.length ci'])) (((((w3.setCell ⟨g,0,none⟩ (.int .u8 it.kind)).setCell ⟨g,1,none⟩ (.int .i64 it.n)).setCell ⟨g,2,none⟩ (.string it.t)).setCell ⟨g,3,none⟩ (.slice an' it.names.length cn')).setCell ⟨g,4,none⟩ (.slice ai' it.items.length ci')):=by
 have hg:=fun k (hk:k≠g)=>xr (W:=w3) (.int .u8 it.kind) (.int .i64 it.n) (.string it.t) (.slice an' it.names.length cn') (.slice ai' it.items.length ci') hk
 have hs:=aw (W:=w3) (b:=g) (v0:=.int .u8 it.kind) (v1:=.int .i64 it.n) (v2:=.string it.t) (v3:=.slice an' it.names.length cn') (v4:=.slice ai' it.items.length ci')
 have hR2:=Rep.carry (lo':=w.heap.size) (hi':=(((((w3.setCell ⟨g,0,none⟩ (.int .u8 it.kind)).setCell ⟨g,1,none⟩ (.int .i64 it.n)).setCell ⟨g,2,none⟩ (.string it.t)).setCell ⟨g,3,none⟩ (.slice an' it.names.length cn')).setCell ⟨g,4,none⟩ (.slice ai' it.items.length ci')).heap.size) (by omega) (by rw [hs];exact hhi) (fun k h1 _=>hg k (by omega)) _ _ hR
 have hP2:=hP.set5 (.int .u8 it.kind) (.int .i64 it.n) (.string it.t) (.slice an' it.names.length cn') (.slice ai' it.items.length ci') ho hm hh
 have hT2:=((((hT.setCell (p:=⟨g,0,none⟩) (.inr hwg) (.int .u8 it.kind)).setCell (p:=⟨g,1,none⟩) (.inr hwg) (.int .i64 it.n)).setCell (p:=⟨g,2,none⟩) (.inr hwg) (.string it.t)).setCell (p:=⟨g,3,none⟩) (.inr hwg) (.slice an' it.names.length cn')).setCell (p:=⟨g,4,none⟩) (.inr hwg) (.slice ai' it.items.length ci')
 unfold vz
 rw [h]
 exact ⟨⟨an',cn',ai',ci',rfl,hR2⟩,hP2,hT2⟩
theorem gO {o m lo hi:Nat} {v:JV} {an ai:Option Addr} {cn ci:Nat} {y:ByteArray} {most:Nat} {st st':PS} {w w3:World} (h:qr v y most st=(zx,st'))
 (hP:PickAt o m lo hi v an ai cn ci st' w3) (hT:Touch (fun b=>b=o∨b=m) w w3) (ho:w.heap.size≠o) (hm:w.heap.size≠m) (hh:hi≤w.heap.size) :
 vz o m lo hi v an ai cn ci y most st w (.returned zeroAgg) (((((w3.setCell ⟨w.heap.size,0,none⟩ (.int .u8 0)).setCell ⟨w.heap.size,1,none⟩ (.int .i64 0)).setCell ⟨w.heap.size,2,none⟩ (.string ⟨#[]⟩)).setCell ⟨w.heap.size,3,none⟩ (.slice none 0 0)).setCell ⟨w.heap.size,4,none⟩ (.slice none 0 0)) :=
 gI (it:=zx) (an':=none) (ai':=none) (cn':=0) (ci':=0) (lo1:=w.heap.size+1) (hi1:=0) h (kQ _ _ _) lz (by omega) (by omega) hP hT ho hm hh
set_option maxHeartbeats 4000000 in
set_option maxRecDepth 100000 in
theorem sg (o m lo hi:Nat) (v:JV) (an ai:Option Addr) (cn ci:Nat) (y:ByteArray) (most:Nat) (st:PS) (w:World) (hP:PickAt o m lo hi v an ai cn ci st w) (hy:y.size≤4294967296) (ha:st.asked.length≤4294967296) (p1:Nat) (g1:w.heap[p1]?=some (.cells #[.int .i64 most] 3 (0,0))) :
 Calls Tryz.prog 119 #[.pointer (some ⟨o,0,none⟩),.string y,.func (.func 120) #[] #[.pointer (some ⟨p1,0,none⟩)]] w (vz o m lo hi v an ai cn ci y most st w):=by
 have ho:o<w.heap.size:=qx hP.obj
 have hm:m<w.heap.size:=by obtain ⟨D,n,h,_⟩:=hP.map;exact h.lt
 have hle:=hP.le
 obtain ⟨W2,hW2⟩:∃W2,W2=(w.alloc (.cells #[.int .u8 0,.int .i64 0,.string ⟨#[]⟩,.slice none 0 0,.slice none 0 0] 25)).alloc (.cells #[.int .u8 0,.int .i64 0,.string ⟨#[]⟩,.slice none 0 0,.slice none 0 0] 25):=⟨_,rfl⟩
 have hz1:(w.alloc (.cells #[.int .u8 0,.int .i64 0,.string ⟨#[]⟩,.slice none 0 0,.slice none 0 0] 25)).heap.size=w.heap.size+1:=by simp
 have hz2:W2.heap.size=w.heap.size+2:=by rw [hW2];simp
 have hb2:Below w.heap.size w W2:=by rw [hW2];exact ((Below.refl _ _).alloc lz _).alloc (by simp) _
 have hr6:W2.rowIs w.heap.size 25 5 (qQ (.int .u8 0) (.int .i64 0) (.string ⟨#[]⟩) (.slice none 0 0) (.slice none 0 0)):=by rw [hW2];exact (qp w (.int .u8 0) (.int .i64 0) (.string ⟨#[]⟩) (.slice none 0 0) (.slice none 0 0) 25).alloc _
 have hr7:W2.rowIs (w.heap.size+1) 25 5 (qQ (.int .u8 0) (.int .i64 0) (.string ⟨#[]⟩) (.slice none 0 0) (.slice none 0 0)):=by
  have:=qp (w.alloc (.cells #[.int .u8 0,.int .i64 0,.string ⟨#[]⟩,.slice none 0 0,.slice none 0 0] 25)) (.int .u8 0) (.int .i64 0) (.string ⟨#[]⟩) (.slice none 0 0) (.slice none 0 0) 25
  rw [hz1,← hW2] at this
  exact this
 have HP:=Lh (hP.below hb2)
 have HG1:=Lh ((hb2.block _ (qx g1)).trans g1)
 have HO:=Lh (And.intro ho (And.intro hm (And.intro hle hz2)))
 have HB2:=Lh hb2
 have HR6:=Lh hr6
 have HR7:=Lh hr7
 have HW:=Lh hW2
 clear hP g1 ho hm hle hz1 hz2 hb2 hr6 hr7 hW2
 have c6:W2.cell? ⟨o,6,none⟩=some (.int .i64 st.err):=qq HP.out.obj rfl
 have c0:W2.cell? ⟨o,0,none⟩=some (.int .u8 5):=(qq (j:=0) HP.out.obj rfl).trans (by rw [HP.out.kind];rfl)
 by_cases he:st.err=0
 · rw [he] at c6
   have HE:=Lh he
   clear he
   have c1:W2.cell? ⟨o,1,none⟩=some (.int .i64 v.n):=qq HP.out.obj rfl
   have c2:W2.cell? ⟨o,2,none⟩=some (.string v.t):=qq HP.out.obj rfl
   have c3:W2.cell? ⟨o,3,none⟩=some (.slice an v.names.length cn):=qq HP.out.obj rfl
   have c4:W2.cell? ⟨o,4,none⟩=some (.slice ai v.items.length ci):=qq HP.out.obj rfl
   have HR:=Lh HP.out.rep
   rw [HP.out.kind] at HR
   have HG:=Lh (xS v y _ W2 lo hi HP.out.wt HP.out.pos HP.out.le HR.out HP.out.kind HP.out.rise HP.out.len)
   go_enter Tryz.func119,Tryz.ntmps119
   go_upto_region 2 with fail
   rw [← HW.out]
   go_wp2_with fail
   refine (qD o 0 5 W2 c6 c0 (fun _=>rfl)).mono ?_
   rintro r w' ⟨rfl,h'⟩
   subst h'
   go_wp2_with fail
   refine HG.out.mono ?_
   clear HG c0 c1 c2 c3 c4 c6 HR
   rintro e w1 ⟨hh,hb1⟩
   have HB1:=Lh hb1
   have HR6a:=Lh (qj hb1 HR6.out HR6.out.lt)
   have HR7a:=Lh (qj hb1 HR7.out HR7.out.lt)
   have hz:=hb1.size
   clear hb1
   rcases hh with ⟨r,hr1,hr2,hre,an',cn',ai',ci',rfl,hrep⟩|⟨hno,rfl⟩
   · have HL:=Lh (xB HP.out.rise r hr1 hr2 hre)
     have HREP:=Lh hrep
     clear hre hrep
     generalize v.items[r]=it at *
     clear hr1 hr2
     have hb3:Below W2.heap.size W2 (w1.alloc (.cells #[.int .u8 it.kind,.int .i64 it.n,.string it.t,.slice an' it.names.length cn',.slice ai' it.items.length ci'] 25)):=HB1.out.alloc HB1.out.size _
     have HC:=Lh (sy it most p1 an' ai' cn' ci' (w1.alloc (.cells #[.int .u8 it.kind,.int .i64 it.n,.string it.t,.slice an' it.names.length cn',.slice ai' it.items.length ci'] 25)) (qq ((hb3.block _ (qx HG1.out)).trans HG1.out) rfl))
     have HB3:=Lh hb3
     clear hb3
     by_cases hk:zF it most=0
     · have HX:=Lh (show qr v y most st=(it,⟨y :: st.asked,0⟩) by unfold qr;rw [if_neg (by simp [HE.out]),HL.out];obtain ⟨q1,q2⟩:=dK hk;simp only;rw [if_neg (by simp [q1]),if_neg q2])
       have HC:=Lh (show Calls Tryz.prog 120 #[.agg #[.int .u8 it.kind,.int .i64 it.n,.string it.t,.slice an' it.names.length cn',.slice ai' it.items.length ci'],.pointer (some ⟨p1,0,none⟩)] (w1.alloc (.cells #[.int .u8 it.kind,.int .i64 it.n,.string it.t,.slice an' it.names.length cn',.slice ai' it.items.length ci'] 25)) (fun e w'=>e=.returned (.tuple #[.agg #[.int .u8 it.kind,.int .i64 it.n,.string it.t,.slice an' it.names.length cn',.slice ai' it.items.length ci'],.int .i64 0])∧Below (w1.alloc (.cells #[.int .u8 it.kind,.int .i64 it.n,.string it.t,.slice an' it.names.length cn',.slice ai' it.items.length ci'] 25)).heap.size (w1.alloc (.cells #[.int .u8 it.kind,.int .i64 it.n,.string it.t,.slice an' it.names.length cn',.slice ai' it.items.length ci'] 25)) w') from by have h:=HC.out;rw [hk] at h;exact h)
       clear hk
       go_wp2_with fail
       refine HC.out.mono ?_
       clear HC
       rintro e w2 ⟨rfl,hb4⟩
       obtain ⟨W3,hW3⟩:∃W3,W3=w2.alloc (.cells #[.int .u8 it.kind,.int .i64 it.n,.string it.t,.slice an' it.names.length cn',.slice ai' it.items.length ci'] 25):=⟨_,rfl⟩
       have hzz:w1.heap.size+1≤w2.heap.size:=by have:=hb4.size;simpa using this
       have hb5:Below W2.heap.size W2 W3:=by rw [hW3];exact (HB3.out.trans (hb4.mono HB3.out.size)).alloc (HB3.out.trans (hb4.mono HB3.out.size)).size _
       have hx10:W3.heap[w2.heap.size]?=some (.cells #[.int .u8 it.kind,.int .i64 it.n,.string it.t,.slice an' it.names.length cn',.slice ai' it.items.length ci'] 25 (0,0)):=by rw [hW3];exact heap_alloc_new w2 _
       have hkeep:∀k,k<w1.heap.size→W3.heap[k]?=w1.heap[k]?:=fun k hk=>by rw [hW3,Below.heap_alloc _ _ _ (by omega),hb4.block k (by simp;omega),Below.heap_alloc _ _ _ hk]
       have HX10:=Lh hx10
       have HKP:=Lh hkeep
       have HB5:=Lh hb5
       have HZZ:=Lh hzz
       have HZ3:=Lh (show W3.heap.size=w2.heap.size+1 by rw [hW3];simp)
       have HW3:=Lh hW3
       have HP3:=Lh (HP.out.below HB5.out)
       have HR6b:=Lh (qj HB5.out HR6.out HR6.out.lt)
       clear hb4 hx10 hkeep hb5 hzz hW3 HB3
       have d5:W3.cell? ⟨o,5,none⟩=some (.map (some m)):=qq HP3.out.obj rfl
       have hkey:keyOf Tryz.prog 9 (.string y)=some (.string y.data.toList):=keyOf_string_mk Tryz.underlying9 (by unfold maxLen;omega)
       obtain ⟨D,n,hown,hn,hD⟩:=HP3.out.map
       obtain ⟨c,hat,hc0,hc1,hc2⟩:=hD.2 y
       obtain ⟨c',hrun,hat',_⟩:=hown.lookup_int xP Tryz.underlying150 Tryz.underlying3 (jC _) hkey
       rw [hat] at hat'
       simp only [DataW.lit.injEq,Lit.int.injEq,true_and] at hat'
       subst hat'
       have HD:=Lh (hD.cons y c hat)
       have HKY:=Lh hkey
       have HOW:=Lh hown
       clear hD hat hc2 hkey hown
       go_upto_region 9 with fail
       rw [← HW3.out]
       go_wp2_with (at_mapUpdate;refine wpList_mapUpdate_own _ rfl _ _ _ 150 rfl 9 3 xP Tryz.underlying150 _ m n D rfl HOW.out (by unfold maxLen;omega) _ _ _ rfl rfl HKY.out _ [] (plainElem_int Tryz.underlying3 (WalkArith.wf_i64 (by omega))) ?_;intro w3 hown3 hgrow3;have HOW3:=Lh hown3;have HGR3:=Lh hgrow3;clear hown3 hgrow3;have HNM:=Lh (show w2.heap.size≠m from by have:=HO.out;have:=HZZ.out;omega);have x0:w3.cell? ⟨w2.heap.size,0,none⟩=_:=qq ((HGR3.out.block _ (qx HX10.out) (fun e=>HNM.out (Option.some.inj e))).trans HX10.out) rfl;have x1:w3.cell? ⟨w2.heap.size,1,none⟩=_:=qq ((HGR3.out.block _ (qx HX10.out) (fun e=>HNM.out (Option.some.inj e))).trans HX10.out) rfl;have x2:w3.cell? ⟨w2.heap.size,2,none⟩=_:=qq ((HGR3.out.block _ (qx HX10.out) (fun e=>HNM.out (Option.some.inj e))).trans HX10.out) rfl;have x3:w3.cell? ⟨w2.heap.size,3,none⟩=_:=qq ((HGR3.out.block _ (qx HX10.out) (fun e=>HNM.out (Option.some.inj e))).trans HX10.out) rfl;have x4:w3.cell? ⟨w2.heap.size,4,none⟩=_:=qq ((HGR3.out.block _ (qx HX10.out) (fun e=>HNM.out (Option.some.inj e))).trans HX10.out) rfl;have hr6:=HR6b.out.of_block (HGR3.out.block _ HR6b.out.lt (fun e=>by have:=Option.some.inj e;have:=HO.out;omega));obtain ⟨t0,t1,t2,t3,t4⟩:=rc5 hr6;obtain ⟨s0,s1,s2,s3,s4⟩:=rf5 hr6;simp only [qQ] at t0 t1 t2 t3 t4;have HR6c:=Lh hr6;clear hr6)
       have HP4:=Lh (HP3.out.ask y HGR3.out HOW3.out (by omega) HD.out)
       have HT:=Lh (show Touch (fun b=>b=o∨b=m) w w3 from by
        have h1:=HB2.out.trans (HB5.out.mono HB2.out.size)
        have h2:=HGR3.out
        exact ⟨by rw [h2.os,h1.os],by rw [h2.tape,h1.tape],by rw [h2.output,h1.output],Nat.le_trans h1.size h2.size,fun k hk hs=>by rw [h2.block k (Nat.lt_of_lt_of_le hk h1.size) (fun e=>hs (.inr (Option.some.inj e))),h1.block k hk]⟩)
       have HRE:=Lh (Rep.carry (lo':=W2.heap.size) (hi':=w1.heap.size) lz lz (fun k h1 h2=>(HGR3.out.block k (by have:=HZ3.out;have:=HZZ.out;omega) (fun e=>by have:=Option.some.inj e;have:=HO.out;omega)).trans (HKP.out k h2)) _ _ HREP.out)
       have HSZ:=Lh (show w1.heap.size≤w3.heap.size from by have:=HGR3.out.size;have:=HZ3.out;have:=HZZ.out;omega)
       rw [HE.out] at HP4
       have HNO:=Lh (show w.heap.size≠o∧w.heap.size≠m from by have:=HO.out;omega)
       go_wp2
       refine bodyPost_ret (results_cell_row Tryz.results119 _ _ w.heap.size 25 _ (0,0) _ rfl (qi (set5 _ _ _ _ _ HR6c.out)) Tryz.underlying25 rfl (by kernel_rfl)) rfl ?_
       exact gI HX.out HRE.out lz (by have:=HO.out;omega) HSZ.out HP4.out HT.out HNO.out.1 HNO.out.2 HO.out.2.2.1
     · have HX:=Lh (show qr v y most st=(zx,⟨st.asked,zF it most⟩) by unfold qr;rw [if_neg (by simp [HE.out]),HL.out];exact dV hk)
       obtain ⟨er,her⟩:∃er,er=zF it most:=⟨_,rfl⟩
       have HC:=Lh (show Calls Tryz.prog 120 #[.agg #[.int .u8 it.kind,.int .i64 it.n,.string it.t,.slice an' it.names.length cn',.slice ai' it.items.length ci'],.pointer (some ⟨p1,0,none⟩)] (w1.alloc (.cells #[.int .u8 it.kind,.int .i64 it.n,.string it.t,.slice an' it.names.length cn',.slice ai' it.items.length ci'] 25)) (fun e w'=>e=.returned (.tuple #[zeroAgg,.int .i64 er])∧Below (w1.alloc (.cells #[.int .u8 it.kind,.int .i64 it.n,.string it.t,.slice an' it.names.length cn',.slice ai' it.items.length ci'] 25)).heap.size (w1.alloc (.cells #[.int .u8 it.kind,.int .i64 it.n,.string it.t,.slice an' it.names.length cn',.slice ai' it.items.length ci'] 25)) w') from by have h:=HC.out;rw [if_neg hk,← her] at h;exact h)
       rw [← her] at HX hk
       have hk':(er != 0)=true:=by simpa using hk
       have hk2:(er == 0)=false:=by simpa using hk
       clear hk her
       go_wp2_with fail
       refine HC.out.mono ?_
       clear HC
       rintro e w2 ⟨rfl,hb4⟩
       have HBX:=Lh (HB3.out.trans (hb4.mono HB3.out.size))
       clear hb4 HB3
       unfold zeroAgg
       obtain ⟨W3,hW3⟩:∃W3,W3=w2.alloc (.cells #[.int .u8 0,.int .i64 0,.string ⟨#[]⟩,.slice none 0 0,.slice none 0 0] 25):=⟨_,rfl⟩
       have hb5:Below W2.heap.size W2 W3:=by rw [hW3];exact HBX.out.alloc HBX.out.size _
       have HP3:=Lh (HP.out.below hb5)
       have hr6:=qj hb5 HR6.out HR6.out.lt
       have hr7:=qj hb5 HR7.out HR7.out.lt
       have HB5:=Lh hb5
       have HR6b:=Lh hr6
       have HR7b:=Lh hr7
       have HW3:=Lh hW3
       clear hb5 hr6 hr7 hW3
       have d6:W3.cell? ⟨o,6,none⟩=some (.int .i64 0):=(qq (j:=6) HP3.out.obj rfl).trans (by rw [HE.out];rfl)
       have d0:W3.cell? ⟨o,0,none⟩=some (.int .u8 5):=(qq (j:=0) HP3.out.obj rfl).trans (by rw [HP.out.kind];rfl)
       have d7:W3.frozen? ⟨o,6,none⟩=false:=by simp [World.frozen?,HP3.out.obj]
       go_upto_region 9 with fail
       rw [← HW3.out]
       go_wp2_with fail
       refine (zX o er W3 d6 d0 d7).mono ?_
       clear d6 d0 d7
       rintro e w3 ⟨rfl,h3⟩
       have HT3:=Lh (show Touch (fun b=>b=o) W3 w3 from by rw [h3];exact Touch.setCell (S:=fun b=>b=o) (p:=⟨o,6,none⟩) (Touch.refl _ _) (.inl rfl) _)
       have HP4:=Lh (show PickAt o m lo hi v an ai cn ci ⟨st.asked,er⟩ w3 from by rw [h3];exact HP3.out.fail er)
       clear h3
       have hr6:=HT3.out.row HR6b.out (by have:=HO.out;omega)
       have hr7:=HT3.out.row HR7b.out (by have:=HO.out;omega)
       obtain ⟨t0,t1,t2,t3,t4⟩:=rc5 hr6
       obtain ⟨s0,s1,s2,s3,s4⟩:=rf5 hr6
       obtain ⟨z0,z1,z2,z3,z4⟩:=rc5 hr7
       simp only [qQ] at t0 t1 t2 t3 t4 z0 z1 z2 z3 z4
       have HR6c:=Lh hr6
       clear hr6 hr7
       have HT:=Lh (show Touch (fun b=>b=o∨b=m) w w3 from (Touch.of_below (HB2.out.trans (HB5.out.mono HB2.out.size)) lz).trans (HT3.out.mono (fun k _ h=>.inl h)))
       have HNO:=Lh (show w.heap.size≠o∧w.heap.size≠m from by have:=HO.out;omega)
       go_wp2
       refine bodyPost_ret (results_cell_row Tryz.results119 _ _ w.heap.size 25 _ (0,0) _ rfl (qi (set5 _ _ _ _ _ HR6c.out)) Tryz.underlying25 rfl (by kernel_rfl)) rfl ?_
       exact gO HX.out HP4.out HT.out HNO.out.1 HNO.out.2 HO.out.2.2.1
   · have HX:=Lh (show qr v y most st=(zx,⟨st.asked,6⟩) by unfold qr;rw [if_neg (by simp [HE.out]),show v.look y=none from xz _ _ _ hno])
     clear hno
     have HBX:=Lh HB1.out
     unfold zeroAgg
     obtain ⟨W3,hW3⟩:∃W3,W3=w1.alloc (.cells #[.int .u8 0,.int .i64 0,.string ⟨#[]⟩,.slice none 0 0,.slice none 0 0] 25):=⟨_,rfl⟩
     have hb5:Below W2.heap.size W2 W3:=by rw [hW3];exact HBX.out.alloc HBX.out.size _
     have HP3:=Lh (HP.out.below hb5)
     have hr6:=qj hb5 HR6.out HR6.out.lt
     have hr7:=qj hb5 HR7.out HR7.out.lt
     have HB5:=Lh hb5
     have HR6b:=Lh hr6
     have HR7b:=Lh hr7
     have HW3:=Lh hW3
     clear hb5 hr6 hr7 hW3
     have d6:W3.cell? ⟨o,6,none⟩=some (.int .i64 0):=(qq (j:=6) HP3.out.obj rfl).trans (by rw [HE.out];rfl)
     have d0:W3.cell? ⟨o,0,none⟩=some (.int .u8 5):=(qq (j:=0) HP3.out.obj rfl).trans (by rw [HP.out.kind];rfl)
     have d7:W3.frozen? ⟨o,6,none⟩=false:=by simp [World.frozen?,HP3.out.obj]
     go_upto_region 5 with fail
     rw [← HW3.out]
     go_wp2_with fail
     refine (zX o 6 W3 d6 d0 d7).mono ?_
     clear d6 d0 d7
     rintro e w3 ⟨rfl,h3⟩
     have HT3:=Lh (show Touch (fun b=>b=o) W3 w3 from by rw [h3];exact Touch.setCell (S:=fun b=>b=o) (p:=⟨o,6,none⟩) (Touch.refl _ _) (.inl rfl) _)
     have HP4:=Lh (show PickAt o m lo hi v an ai cn ci ⟨st.asked,6⟩ w3 from by rw [h3];exact HP3.out.fail 6)
     clear h3
     have hr6:=HT3.out.row HR6b.out (by have:=HO.out;omega)
     have hr7:=HT3.out.row HR7b.out (by have:=HO.out;omega)
     obtain ⟨t0,t1,t2,t3,t4⟩:=rc5 hr6
     obtain ⟨s0,s1,s2,s3,s4⟩:=rf5 hr6
     obtain ⟨z0,z1,z2,z3,z4⟩:=rc5 hr7
     simp only [qQ] at t0 t1 t2 t3 t4 z0 z1 z2 z3 z4
     have HR6c:=Lh hr6
     clear hr6 hr7
     have HT:=Lh (show Touch (fun b=>b=o∨b=m) w w3 from (Touch.of_below (HB2.out.trans (HB5.out.mono HB2.out.size)) lz).trans (HT3.out.mono (fun k _ h=>.inl h)))
     have HNO:=Lh (show w.heap.size≠o∧w.heap.size≠m from by have:=HO.out;omega)
     go_wp2
     refine bodyPost_ret (results_cell_row Tryz.results119 _ _ w.heap.size 25 _ (0,0) _ rfl (qi (set5 _ _ _ _ _ HR6c.out)) Tryz.underlying25 rfl (by kernel_rfl)) rfl ?_
     exact gO HX.out HP4.out HT.out HNO.out.1 HNO.out.2 HO.out.2.2.1
 · have he':(st.err == 0)=false:=by simpa using he
   have he2:(st.err != 0)=true:=by simpa using he
   have HX:=Lh (show qr v y most st=(zx,st) by unfold qr;rw [if_pos he])
   clear he
   have hr6:=HR6.out
   have hr7:=HR7.out
   obtain ⟨t0,t1,t2,t3,t4⟩:=rc5 hr6
   obtain ⟨s0,s1,s2,s3,s4⟩:=rf5 hr6
   obtain ⟨z0,z1,z2,z3,z4⟩:=rc5 hr7
   simp only [qQ] at t0 t1 t2 t3 t4 z0 z1 z2 z3 z4
   clear hr6 hr7
   have HT:=Lh (show Touch (fun b=>b=o∨b=m) w W2 from Touch.of_below HB2.out lz)
   have HNO:=Lh (show w.heap.size≠o∧w.heap.size≠m from by have:=HO.out;omega)
   go_enter Tryz.func119,Tryz.ntmps119
   go_upto_region 2 with fail
   rw [← HW.out]
   go_wp2_with fail
   refine (qD o st.err 5 W2 c6 c0 (fun h=>by simp [h] at he')).mono ?_
   rintro r w' ⟨rfl,h'⟩
   subst h'
   go_wp2
   refine bodyPost_ret (results_cell_row Tryz.results119 _ _ w.heap.size 25 _ (0,0) _ rfl (qi (set5 _ _ _ _ _ HR6.out)) Tryz.underlying25 rfl (by kernel_rfl)) rfl ?_
   exact gO HX.out HP.out HT.out HNO.out.1 HNO.out.2 HO.out.2.2.1
set_option maxHeartbeats 2000000 in
set_option maxRecDepth 100000 in
theorem rr (o m lo hi:Nat) (v:JV) (an ai:Option Addr) (cn ci:Nat) (y:ByteArray) (most:Nat) (st:PS) (w:World) (hP:PickAt o m lo hi v an ai cn ci st w) (hy:y.size≤4294967296) (ha:st.asked.length≤4294967296) :
 Calls Tryz.prog 62 #[.pointer (some ⟨o,0,none⟩),.string y,.int .i64 most] w (vz o m lo hi v an ai cn ci y most st w):=by
 have ho:o<w.heap.size:=qx hP.obj
 have hm:m<w.heap.size:=by obtain ⟨D,n,h,_⟩:=hP.map;exact h.lt
 have hle:=hP.le
 obtain ⟨W2,hW2⟩:∃W2,W2=(w.alloc (.cells #[.int .i64 most] 3)).alloc (.cells #[.int .u8 0,.int .i64 0,.string ⟨#[]⟩,.slice none 0 0,.slice none 0 0] 25):=⟨_,rfl⟩
 have hz1:(w.alloc (.cells #[.int .i64 most] 3)).heap.size=w.heap.size+1:=by simp
 have hz2:W2.heap.size=w.heap.size+2:=by rw [hW2];simp
 have hb2:Below w.heap.size w W2:=by rw [hW2];exact ((Below.refl _ _).alloc lz _).alloc (by simp) _
 have hg:W2.heap[w.heap.size]?=some (.cells #[.int .i64 most] 3 (0,0)):=by rw [hW2,Below.heap_alloc _ _ _ (by simp)];exact heap_alloc_new w _
 have hr7:W2.rowIs (w.heap.size+1) 25 5 (qQ (.int .u8 0) (.int .i64 0) (.string ⟨#[]⟩) (.slice none 0 0) (.slice none 0 0)):=by
  have:=qp (w.alloc (.cells #[.int .i64 most] 3)) (.int .u8 0) (.int .i64 0) (.string ⟨#[]⟩) (.slice none 0 0) (.slice none 0 0) 25
  rw [hz1,← hW2] at this
  exact this
 have HT:=Lh (sg o m lo hi v an ai cn ci y most st W2 (hP.below hb2) hy ha w.heap.size hg)
 have HO:=Lh (And.intro ho (And.intro hm (And.intro hle hz2)))
 have HB2:=Lh hb2
 have HR7:=Lh hr7
 have HW:=Lh hW2
 clear hP ho hm hle hz1 hz2 hb2 hg hr7 hW2
 go_enter Tryz.func62,Tryz.ntmps62
 go_upto_region 1 with fail
 rw [← HW.out]
 go_wp2_with fail
 refine HT.out.mono ?_
 clear HT
 rintro e w3 ⟨⟨an',cn',ai',ci',rfl,hrep⟩,hp,ht⟩
 obtain ⟨it,st',hx⟩:∃it st',qr v y most st=(it,st'):=⟨_,_,rfl⟩
 rw [hx] at hrep hp ⊢
 have HX:=Lh hx
 have HREP:=Lh hrep
 have HP3:=Lh hp
 have HT3:=Lh ht
 have hr7:=ht.row HR7.out (by have:=HO.out;omega)
 clear hx hrep hp ht
 obtain ⟨t0,t1,t2,t3,t4⟩:=rc5 hr7
 obtain ⟨s0,s1,s2,s3,s4⟩:=rf5 hr7
 simp only [qQ] at t0 t1 t2 t3 t4
 have HR7c:=Lh hr7
 clear hr7
 have HT4:=Lh (show Touch (fun b=>b=o∨b=m) w w3 from (Touch.of_below HB2.out lz).trans HT3.out)
 have HNO:=Lh (show w.heap.size+1≠o∧w.heap.size+1≠m∧hi≤w.heap.size+1 from by have:=HO.out;omega)
 go_wp2
 refine bodyPost_ret (results_cell_row Tryz.results62 _ _ (w.heap.size+1) 25 _ (0,0) _ rfl (qi (set5 _ _ _ _ _ HR7c.out)) Tryz.underlying25 rfl (by kernel_rfl)) rfl ?_
 exact gI HX.out HREP.out (Nat.le_succ _) (by have:=HO.out;omega) lz HP3.out HT4.out HNO.out.1 HNO.out.2.1 HNO.out.2.2
set_option maxHeartbeats 400000 in
theorem aV (o:Nat) (err:Int) (y:ByteArray) (l h:Int) (w:World) (hb:zO o err w) (ho:o<w.heap.size) :
 Calls Tryz.prog 123 #[.pointer (some ⟨o,0,none⟩),.string y,.int .i64 l,.int .i64 h] w fun e w'=>e=.returned (.int .i64 0)∧Below w.heap.size w w':=by
 obtain ⟨W2,hW2⟩:∃W2,W2=(w.alloc (.cells #[.int .i64 l] 2)).alloc (.cells #[.int .i64 h] 2):=⟨_,rfl⟩
 have hb2:Below w.heap.size w W2:=by rw [hW2];exact ((Below.refl _ _).alloc lz _).alloc (by simp) _
 obtain ⟨he,c6,k,c0⟩:=hb.below hb2 ho
 have HB2:=Lh hb2
 have HW:=Lh hW2
 clear hW2 hb2 hb
 have HT:=Lh (show ∀fv,Calls Tryz.prog 184 #[.pointer (some ⟨o,0,none⟩),.string y,fv] W2 (fun e w'=>e=.returned (.int .i64 0)∧W2=w') from fun fv=>by
  have he':(err == 0)=false:=by simpa using he
  have he2:(err != 0)=true:=by simpa using he
  have HE:=Lh he
  clear he
  go_enter Tryz.func184,Tryz.ntmps184
  go_wp2_with fail
  refine (qD o err k W2 c6 c0 (fun h=>absurd h HE.out)).mono ?_
  rintro r w' ⟨rfl,rfl⟩
  go_wp2
  go_ret
  exact ⟨rfl,rfl⟩)
 clear he c6 c0
 go_enter Tryz.func123,Tryz.ntmps123
 go_wp2_with fail
 rw [← HW.out]
 refine (HT.out _).mono ?_
 rintro e w' ⟨rfl,rfl⟩
 go_wp2
 go_ret
 exact ⟨rfl,HB2.out⟩
set_option maxHeartbeats 400000 in
theorem sf (o:Nat) (err e:Int) (w:World) (h:zO o err w) :
 Calls Tryz.prog 63 #[.pointer (some ⟨o,0,none⟩),.int .i64 e] w fun r w'=>r=.returned (.tuple #[])∧w'=w:=by
 obtain ⟨he,c6,k,c0⟩:=h
 have he':(err == 0)=false:=by simpa using he
 have he2:(err != 0)=true:=by simpa using he
 have HE:=Lh he
 clear he
 go_enter Tryz.func63,Tryz.ntmps63
 go_wp2_with fail
 refine (qD o err k w c6 c0 (fun h=>absurd h HE.out)).mono ?_
 rintro r w' ⟨rfl,rfl⟩
 go_wp2
 go_end0
 exact ⟨rfl,rfl⟩
set_option maxHeartbeats 1000000 in
set_option maxRecDepth 100000 in
theorem aW (o:Nat) (err:Int) (y:ByteArray) (most:Int) (w:World) (hb:zO o err w) (ho:o<w.heap.size) :
 Calls Tryz.prog 62 #[.pointer (some ⟨o,0,none⟩),.string y,.int .i64 most] w fun e w'=>e=.returned (.agg #[.int .u8 0,.int .i64 0,.string ⟨#[]⟩,.slice none 0 0,.slice none 0 0])∧Below w.heap.size w w':=by
 have HT:=Lh (show ∀(fv:Value) (W2:World),zO o err W2→o<W2.heap.size→Calls Tryz.prog 119 #[.pointer (some ⟨o,0,none⟩),.string y,fv] W2 (fun e w'=>e=.returned (.agg #[.int .u8 0,.int .i64 0,.string ⟨#[]⟩,.slice none 0 0,.slice none 0 0])∧Below W2.heap.size W2 w') from fun fv W2 hp hz=>by
  obtain ⟨W4,hW4⟩:∃W4,W4=(W2.alloc (.cells #[.int .u8 0,.int .i64 0,.string ⟨#[]⟩,.slice none 0 0,.slice none 0 0] 25)).alloc (.cells #[.int .u8 0,.int .i64 0,.string ⟨#[]⟩,.slice none 0 0,.slice none 0 0] 25):=⟨_,rfl⟩
  have hb4:Below W2.heap.size W2 W4:=by rw [hW4];exact ((Below.refl _ _).alloc lz _).alloc (by simp) _
  have hz1:(W2.alloc (.cells #[.int .u8 0,.int .i64 0,.string ⟨#[]⟩,.slice none 0 0,.slice none 0 0] 25)).heap.size=W2.heap.size+1:=by simp
  have hr0:W4.rowIs W2.heap.size 25 5 (qQ (.int .u8 0) (.int .i64 0) (.string ⟨#[]⟩) (.slice none 0 0) (.slice none 0 0)):=by
   rw [hW4]
   exact qj ((Below.refl _ _).alloc lz _) (qp W2 (.int .u8 0) (.int .i64 0) (.string ⟨#[]⟩) (.slice none 0 0) (.slice none 0 0) 25) (by simp)
  have hr1:W4.rowIs (W2.heap.size+1) 25 5 (qQ (.int .u8 0) (.int .i64 0) (.string ⟨#[]⟩) (.slice none 0 0) (.slice none 0 0)):=by
   have:=qp (W2.alloc (.cells #[.int .u8 0,.int .i64 0,.string ⟨#[]⟩,.slice none 0 0,.slice none 0 0] 25)) (.int .u8 0) (.int .i64 0) (.string ⟨#[]⟩) (.slice none 0 0) (.slice none 0 0) 25
   rw [hz1,← hW4] at this
   exact this
  obtain ⟨he,c6,k,c0⟩:=hp.below hb4 hz
  have he':(err == 0)=false:=by simpa using he
  have he2:(err != 0)=true:=by simpa using he
  have HE:=Lh he
  obtain ⟨t0,t1,t2,t3,t4⟩:=rc5 hr0
  obtain ⟨s0,s1,s2,s3,s4⟩:=rf5 hr0
  obtain ⟨u0,u1,u2,u3,u4⟩:=rc5 hr1
  simp only [qQ] at t0 t1 t2 t3 t4 u0 u1 u2 u3 u4
  have HR0:=Lh hr0
  have HB4:=Lh hb4
  have HW4:=Lh hW4
  clear he hW4 hb4 hr0 hr1 hz1
  go_enter Tryz.func119,Tryz.ntmps119
  go_upto_region 2 with fail
  rw [← HW4.out]
  go_wp2_with fail
  refine (qD o err k W4 c6 c0 (fun h=>absurd h HE.out)).mono ?_
  rintro r w' ⟨rfl,h'⟩
  subst h'
  go_wp2
  refine bodyPost_ret (results_cell_row Tryz.results119 _ _ W2.heap.size 25 _ (0,0) _ rfl (qi (set5 _ _ _ _ _ HR0.out)) Tryz.underlying25 rfl (by kernel_rfl)) rfl ?_
  exact ⟨rfl,q7 _ _ _ _ _ HB4.out lz⟩)
 obtain ⟨W2,hW2⟩:∃W2,W2=(w.alloc (.cells #[.int .i64 most] 3)).alloc (.cells #[.int .u8 0,.int .i64 0,.string ⟨#[]⟩,.slice none 0 0,.slice none 0 0] 25):=⟨_,rfl⟩
 have hb2:Below w.heap.size w W2:=by rw [hW2];exact ((Below.refl _ _).alloc lz _).alloc (by simp) _
 have hz1:(w.alloc (.cells #[.int .i64 most] 3)).heap.size=w.heap.size+1:=by simp
 have hr1:W2.rowIs (w.heap.size+1) 25 5 (qQ (.int .u8 0) (.int .i64 0) (.string ⟨#[]⟩) (.slice none 0 0) (.slice none 0 0)):=by
  have:=qp (w.alloc (.cells #[.int .i64 most] 3)) (.int .u8 0) (.int .i64 0) (.string ⟨#[]⟩) (.slice none 0 0) (.slice none 0 0) 25
  rw [hz1,← hW2] at this
  exact this
 have HT2:=Lh (fun fv=>HT.out fv W2 (hb.below hb2 ho) (Nat.lt_of_lt_of_le ho hb2.size))
 have HB2:=Lh hb2
 have HR1:=Lh hr1
 have HW2:=Lh hW2
 clear hW2 hb2 hr1 hz1 hb HT
 go_enter Tryz.func62,Tryz.ntmps62
 go_upto_region 1 with fail
 rw [← HW2.out]
 go_wp2_with fail
 refine (HT2.out _).mono ?_
 clear HT2
 rintro r w3 ⟨rfl,hb3⟩
 have hr3:=qj hb3 HR1.out HR1.out.lt
 have HR3:=Lh hr3
 have HB3:=Lh (HB2.out.trans (hb3.mono HB2.out.size))
 obtain ⟨t0,t1,t2,t3,t4⟩:=rc5 hr3
 obtain ⟨s0,s1,s2,s3,s4⟩:=rf5 hr3
 simp only [qQ] at t0 t1 t2 t3 t4
 clear hr3 hb3
 go_wp2
 refine bodyPost_ret (results_cell_row Tryz.results62 _ _ (w.heap.size+1) 25 _ (0,0) _ rfl (qi (set5 _ _ _ _ _ HR3.out)) Tryz.underlying25 rfl (by kernel_rfl)) rfl ?_
 exact ⟨rfl,q7 _ _ _ _ _ HB3.out (by omega)⟩
end Go.Proofs.YthgembbgcbaghaaGreatDoor

namespace Go.Proofs.YthgembbgcbaghaaGreatDoor
open Go.RowKit
def rn (o m lo hi:Nat) (v:JV) (an ai:Option Addr) (cn ci:Nat) (st:PS) (w:World) (r:Ending) (w':World):Prop:=r=.returned (.tuple #[])∧PickAt o m lo hi v an ai cn ci st w'∧Touch (fun b=>b=o∨b=m) w w'
set_option maxHeartbeats 1000000 in
theorem dW (o m lo hi:Nat) (v:JV) (an ai:Option Addr) (cn ci:Nat) (e:Int) (st:PS) (w:World) (hP:PickAt o m lo hi v an ai cn ci st w) :
 Calls Tryz.prog 63 #[.pointer (some ⟨o,0,none⟩),.int .i64 e] w (rn o m lo hi v an ai cn ci (st.fail e) w):=by
 have c6:w.cell? ⟨o,6,none⟩=some (.int .i64 st.err):=qq hP.obj rfl
 have c0:w.cell? ⟨o,0,none⟩=some (.int .u8 5):=(qq (j:=0) hP.obj rfl).trans (by rw [hP.kind];rfl)
 have d7:w.frozen? ⟨o,6,none⟩=false:=by simp [World.frozen?,hP.obj]
 by_cases he:st.err=0
 · rw [he] at c6
   refine (zX o e w c6 c0 d7).mono ?_
   rintro r w' ⟨rfl,rfl⟩
   refine ⟨rfl,?_,(Touch.refl _ _).setCell (.inl (.inl rfl)) _⟩
   unfold PS.fail
   rw [if_pos he]
   exact hP.fail e
 · have he':(st.err == 0)=false:=by simpa using he
   have HX:=Lh (show st.fail e=st by unfold PS.fail;rw [if_neg he])
   have HP:=Lh hP
   have HE:=Lh (qD o st.err 5 w c6 c0 (fun h=>by simp [h] at he'))
   clear hP he c6 c0 d7
   go_enter Tryz.func63,Tryz.ntmps63
   go_wp2_with fail
   refine HE.out.mono ?_
   rintro r w' ⟨rfl,h'⟩
   subst w'
   go_wp2
   go_end0
   exact ⟨rfl,by rw [HX.out];exact HP.out,Touch.refl _ _⟩
end Go.Proofs.YthgembbgcbaghaaGreatDoor

namespace Go.Proofs.YthgembbgcbaghaaGreatDoor
open Go.RowKit Go.WideMaps Go.Maps
theorem PickAt.touch {o m lo hi g:Nat} {v:JV} {an ai:Option Addr} {cn ci:Nat} {st:PS} {w w':World} (h:PickAt o m lo hi v an ai cn ci st w) (hT:Touch (fun b=>b=g) w w') (ho:g≠o) (hm:g≠m) (hh:hi≤g):PickAt o m lo hi v an ai cn ci st w':=by
 have hlo:o<w.heap.size:=qx h.obj
 refine ⟨by rw [hT.block o hlo (fun e=>ho e.symm)];exact h.obj,?_,?_,h.pos,h.out,Nat.le_trans h.le hT.size,h.kind,h.rise,h.len,h.wt⟩
 · obtain ⟨D,n,h1,h2,h3⟩:=h.map
   exact ⟨D,n,h1.kept (row:=some g) ⟨hT.os,hT.tape,hT.output,hT.size,fun k hk hn=>hT.block k hk (fun e=>hn (by rw [e]))⟩ (fun e=>hm (Option.some.inj e).symm),h2,h3⟩
 · exact Rep.carry lz lz (fun k _ hk=>hT.block k (Nat.lt_of_lt_of_le hk h.le) (by omega)) _ _ h.rep
theorem qW {w:World} {g j:Nat} (u:Value):Touch (fun b=>b=g) w (w.setCell ⟨g,j,none⟩ u):=Touch.setCell (S:=fun b=>b=g) (p:=⟨g,j,none⟩) (Touch.refl _ _) (.inl rfl) u
theorem ux {v:JV} {y:ByteArray} {l h:Int} {st:PS}:(qP v y l h st).2.asked.length≤st.asked.length+1:=by
 unfold qP
 split
 · simp
 split
 · simp
 split
 · simp
 split <;> simp
theorem zO.touch {o p:Nat} {err:Int} {w w':World} (h:zO o err w) (ht:Touch (fun b=>b=p) w w') (ho:o<w.heap.size) (hne:o≠p):zO o err w':=by
 obtain ⟨h1,h2,k,h3⟩:=h
 exact ⟨h1,by rw [ht.cell (p:=⟨o,6,none⟩) ho hne];exact h2,k,by rw [ht.cell (p:=⟨o,0,none⟩) ho hne];exact h3⟩
theorem kw {st:PS} {e:Int}:(st.fail e).asked=st.asked:=by unfold PS.fail;split <;> rfl
theorem rt {v:JV} {y:ByteArray} {st:PS}:(qf v y st).2.asked.length≤st.asked.length+1:=by
 unfold qf
 split
 · simp
 split
 · simp
 · split <;> simp
set_option maxHeartbeats 1000000 in
set_option maxRecDepth 100000 in
theorem ri (o m lo hi:Nat) (v:JV) (an ai:Option Addr) (cn ci:Nat) (y:ByteArray) (st:PS) (w:World) (hP:PickAt o m lo hi v an ai cn ci st w) :
 Calls Tryz.prog 64 #[.pointer (some ⟨o,0,none⟩),.string y] w fun e w'=>e=.returned (.bool (qN v y st))∧Below w.heap.size w w':=by
 have HP:=Lh hP
 clear hP
 have c6:w.cell? ⟨o,6,none⟩=some (.int .i64 st.err):=qq HP.out.obj rfl
 have c0:w.cell? ⟨o,0,none⟩=some (.int .u8 5):=(qq (j:=0) HP.out.obj rfl).trans (by rw [HP.out.kind];rfl)
 by_cases he:st.err=0
 · rw [he] at c6
   have HE:=Lh he
   clear he
   have c1:w.cell? ⟨o,1,none⟩=some (.int .i64 v.n):=qq HP.out.obj rfl
   have c2:w.cell? ⟨o,2,none⟩=some (.string v.t):=qq HP.out.obj rfl
   have c3:w.cell? ⟨o,3,none⟩=some (.slice an v.names.length cn):=qq HP.out.obj rfl
   have c4:w.cell? ⟨o,4,none⟩=some (.slice ai v.items.length ci):=qq HP.out.obj rfl
   have HR:=Lh HP.out.rep
   rw [HP.out.kind] at HR
   have HG:=Lh (xS v y _ w lo hi HP.out.wt HP.out.pos HP.out.le HR.out HP.out.kind HP.out.rise HP.out.len)
   go_enter Tryz.func64,Tryz.ntmps64
   go_wp2_with fail
   refine (qD o 0 5 w c6 c0 (fun _=>rfl)).mono ?_
   rintro r w' ⟨rfl,rfl⟩
   go_wp2_with fail
   refine HG.out.mono ?_
   clear HG c0 c1 c2 c3 c4 c6
   rintro e w1 ⟨hh,hb1⟩
   have HB1:=Lh hb1
   clear hb1
   rcases hh with ⟨r,hr1,hr2,hre,an',cn',ai',ci',rfl,hrep⟩|⟨hno,rfl⟩
   · have HX:=Lh (show qN v y st=true by unfold qN;rw [xB HP.out.rise r hr1 hr2 hre,HE.out];rfl)
     clear hre hrep
     go_wp2
     go_ret
     exact ⟨qz HX.out.symm,HB1.out.alloc HB1.out.size _⟩
   · have HX:=Lh (show qN v y st=false by unfold qN;rw [show v.look y=none from xz _ _ _ hno,HE.out];rfl)
     clear hno
     unfold zeroAgg
     go_wp2
     go_ret
     exact ⟨qz HX.out.symm,HB1.out.alloc HB1.out.size _⟩
 · have he':(st.err == 0)=false:=by simpa using he
   have he2:(st.err != 0)=true:=by simpa using he
   have HX:=Lh (show qN v y st=false by unfold qN;simp [he])
   clear he
   go_enter Tryz.func64,Tryz.ntmps64
   go_wp2_with fail
   refine (qD o st.err 5 w c6 c0 (fun h=>by simp [h] at he')).mono ?_
   rintro r w' ⟨rfl,rfl⟩
   go_wp2
   go_ret
   exact ⟨qz HX.out.symm,Below.refl _ _⟩
set_option maxHeartbeats 400000 in
theorem aY (o:Nat) (err:Int) (y:ByteArray) (w:World) (h:zO o err w) :
 Calls Tryz.prog 64 #[.pointer (some ⟨o,0,none⟩),.string y] w fun e w'=>e=.returned (.bool false)∧w=w':=by
 obtain ⟨he,c6,k,c0⟩:=h
 have he':(err == 0)=false:=by simpa using he
 have he2:(err != 0)=true:=by simpa using he
 have HE:=Lh he
 clear he
 go_enter Tryz.func64,Tryz.ntmps64
 go_wp2_with fail
 refine (qD o err k w c6 c0 (fun h=>absurd h HE.out)).mono ?_
 rintro r w' ⟨rfl,rfl⟩
 go_wp2
 go_ret
 exact ⟨rfl,rfl⟩
end Go.Proofs.YthgembbgcbaghaaGreatDoor

namespace Go.Proofs.YthgembbgcbaghaaGreatDoor
open Go.RowKit
end Go.Proofs.YthgembbgcbaghaaGreatDoor
