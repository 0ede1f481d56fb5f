/- A value of which the row of Items lies apart from what its items hold. No program in sight. -/
import Derived.Test.YthgembbgcbaghaaGreatDoorDa12

namespace Go.Proofs.YthgembbgcbaghaaGreatDoor
open Go.RowKit Go.WideMaps Go.Maps
set_option maxHeartbeats 400000 in
theorem qD (o:Nat) (err kind:Int) (w:World) (h6:w.cell? ⟨o,6,none⟩=some (.int .i64 err)) (h0:w.cell? ⟨o,0,none⟩=some (.int .u8 kind)) (hk:err=0→kind=5) :
 Calls Tryz.prog 121 #[.pointer (some ⟨o,0,none⟩)] w fun e w'=>e=.returned (.int .i64 err)∧w=w':=by
 by_cases he:err=0
 · have hk':=hk he
   subst he hk'
   clear hk
   go_enter Tryz.func121,Tryz.ntmps121
   go_wp2
   go_ret
   exact ⟨rfl,rfl⟩
 · have he':(err == 0)=false:=by simpa using he
   clear hk he
   go_enter Tryz.func121,Tryz.ntmps121
   go_wp2
   go_ret
   exact ⟨rfl,rfl⟩
set_option maxHeartbeats 400000 in
theorem zX (o:Nat) (e:Int) (w:World) (h6:w.cell? ⟨o,6,none⟩=some (.int .i64 0)) (h0:w.cell? ⟨o,0,none⟩=some (.int .u8 5)) (hf:w.frozen? ⟨o,6,none⟩=false) :
 Calls Tryz.prog 63 #[.pointer (some ⟨o,0,none⟩),.int .i64 e] w fun r w'=>r=.returned (.tuple #[])∧w'=w.setCell ⟨o,6,none⟩ (.int .i64 e):=by
 go_enter Tryz.func63,Tryz.ntmps63
 go_wp2_with fail
 refine (qD o 0 5 w h6 h0 (fun _=>rfl)).mono ?_
 rintro r w' ⟨rfl,rfl⟩
 go_wp2
 go_end0
 exact ⟨rfl,rfl⟩
set_option maxHeartbeats 400000 in
theorem rk (k n:Int) (t:ByteArray) (a b:Value) (w:World) :
 Calls Tryz.prog 187 #[.agg #[.int .u8 k,.int .i64 n,.string t,a,b]] w fun e w'=>e=.returned (.tuple #[.string (if k=3 then t else ⟨#[]⟩),.int .i64 (if k=3 then 0 else 10)])∧Below w.heap.size w w':=by
 have HB:=Lh (show Below w.heap.size w (w.alloc (.cells #[.int .u8 k,.int .i64 n,.string t,a,b] 25)) from (Below.refl _ _).alloc lz _)
 by_cases hk:k=3
 · subst hk
   go_enter Tryz.func187,Tryz.ntmps187
   go_wp2
   go_ret2
   exact ⟨by simp,HB.out⟩
 · have hk':(k == 3)=false:=by simpa using hk
   have HK:=Lh hk
   clear hk
   go_enter Tryz.func187,Tryz.ntmps187
   go_wp2
   go_ret2
   exact ⟨by simp,HB.out⟩
theorem xP:Keyed Tryz.prog 9:=string_keyed Tryz.underlying9
theorem jC (w:World):(zeroValue 3).run Tryz.prog w=.ok (.int .i64 0) w:=by kernel_rfl
def uq (o m lo hi:Nat) (v:JV) (an ai:Option Addr) (cn ci:Nat) (y:ByteArray) (st:PS) (w:World) (e:Ending) (w':World):Prop :=
 e=.returned (.string (qf v y st).1)∧PickAt o m lo hi v an ai cn ci (qf v y st).2 w'∧Touch (fun b=>b=o∨b=m) w w'
set_option maxHeartbeats 1000000 in
set_option maxRecDepth 100000 in
theorem rv (o m lo hi:Nat) (v:JV) (an ai:Option Addr) (cn ci:Nat) (y:ByteArray) (st:PS) (w:World) (hP:PickAt o m lo hi v an ai cn ci st w) (hy:y.size≤4294967296) (ha:st.asked.length≤4294967296) :
 Calls Tryz.prog 186 #[.pointer (some ⟨o,0,none⟩),.string y,.func (.func 187) #[] #[]] w (uq o m lo hi v an ai cn ci y st w):=by
 have HP:=Lh hP
 clear hP
 have c6:w.cell? ⟨o,6,none⟩=some (.int .i64 st.err):=qq HP.out.obj rfl
 have c0:w.cell? ⟨o,0,none⟩=some (.int .u8 5):=(qq (j:=0) HP.out.obj rfl).trans (by rw [HP.out.kind];rfl)
 by_cases he:st.err=0
 · rw [he] at c6
   have HE:=Lh he
   clear he
   have c1:w.cell? ⟨o,1,none⟩=some (.int .i64 v.n):=qq HP.out.obj rfl
   have c2:w.cell? ⟨o,2,none⟩=some (.string v.t):=qq HP.out.obj rfl
   have c3:w.cell? ⟨o,3,none⟩=some (.slice an v.names.length cn):=qq HP.out.obj rfl
   have c4:w.cell? ⟨o,4,none⟩=some (.slice ai v.items.length ci):=qq HP.out.obj rfl
   have HR:=Lh HP.out.rep
   rw [HP.out.kind] at HR
   have HG:=Lh (xS v y _ w lo hi HP.out.wt HP.out.pos HP.out.le HR.out HP.out.kind HP.out.rise HP.out.len)
   go_enter Tryz.func186,Tryz.ntmps186
   go_wp2_with fail
   refine (qD o 0 5 w c6 c0 (fun _=>rfl)).mono ?_
   rintro r w' ⟨rfl,rfl⟩
   go_wp2_with fail
   refine HG.out.mono ?_
   clear HG c0 c1 c2 c3 c4 c6
   rintro e w1 ⟨hh,hb1⟩
   have HB1:=Lh hb1
   clear hb1
   rcases hh with ⟨r,hr1,hr2,hre,an',cn',ai',ci',rfl,hrep⟩|⟨hno,rfl⟩
   · have HL:=Lh (xB HP.out.rise r hr1 hr2 hre)
     clear hre hrep
     generalize v.items[r]=it at *
     have hb2:Below w.heap.size w (w1.alloc (.cells #[.int .u8 it.kind,.int .i64 it.n,.string it.t,.slice an' it.names.length cn',.slice ai' it.items.length ci'] 25)):=HB1.out.alloc HB1.out.size _
     have HB2:=Lh hb2
     have HC:=Lh (rk it.kind it.n it.t (.slice an' it.names.length cn') (.slice ai' it.items.length ci') (w1.alloc (.cells #[.int .u8 it.kind,.int .i64 it.n,.string it.t,.slice an' it.names.length cn',.slice ai' it.items.length ci'] 25)))
     clear hb2
     by_cases hk:it.kind=3
     · have HK:=Lh hk
       rw [if_pos hk,if_pos hk] at HC
       clear hk
       go_wp2_with fail
       refine HC.out.mono ?_
       clear HC
       rintro e w2 ⟨rfl,hb3⟩
       have HB3:=Lh (HB2.out.trans (hb3.mono HB2.out.size))
       have HP3:=Lh (HP.out.below HB3.out)
       clear hb3 HB2
       have d5:w2.cell? ⟨o,5,none⟩=some (.map (some m)):=qq HP3.out.obj rfl
       have hkey:keyOf Tryz.prog 9 (.string y)=some (.string y.data.toList):=keyOf_string_mk Tryz.underlying9 (by unfold maxLen;omega)
       obtain ⟨D,n,hown,hn,hD⟩:=HP3.out.map
       obtain ⟨c,hat,hc0,hc1,hc2⟩:=hD.2 y
       obtain ⟨c',hrun,hat',_⟩:=hown.lookup_int xP Tryz.underlying150 Tryz.underlying3 (jC _) hkey
       rw [hat] at hat'
       simp only [DataW.lit.injEq,Lit.int.injEq,true_and] at hat'
       subst hat'
       have HD:=Lh (hD.cons y c hat)
       have HKY:=Lh hkey
       have HOW:=Lh hown
       clear hD hat hc2 hkey hown
       go_wp2_with (at_mapUpdate;refine wpList_mapUpdate_own _ rfl _ _ _ 150 rfl 9 3 xP Tryz.underlying150 _ m n D rfl HOW.out (by unfold maxLen;omega) _ _ _ rfl rfl HKY.out _ [] (plainElem_int Tryz.underlying3 (WalkArith.wf_i64 (by omega))) ?_)
       intro w3 hown3 hgrow3
       have HP4:=Lh (HP3.out.ask y hgrow3 hown3 (by omega) HD.out)
       have HT:=Lh (show Touch (fun b=>b=o∨b=m) w w3 from ⟨by rw [hgrow3.os,HB3.out.os],by rw [hgrow3.tape,HB3.out.tape],by rw [hgrow3.output,HB3.out.output],Nat.le_trans HB3.out.size hgrow3.size,fun k hk hs=>by rw [hgrow3.block k (Nat.lt_of_lt_of_le hk HB3.out.size) (fun e=>hs (.inr (Option.some.inj e))),HB3.out.block k hk]⟩)
       clear hgrow3 hown3
       have HX:=Lh (show qf v y st=(it.t,⟨y :: st.asked,0⟩) by unfold qf;rw [if_neg (by simp [HE.out]),HL.out];simp [HK.out])
       rw [HE.out] at HP4
       go_wp2
       go_ret
       exact ⟨by rw [HX.out];rfl,by rw [HX.out];exact HP4.out,HT.out⟩
     · have HX:=Lh (show qf v y st=(⟨#[]⟩,⟨st.asked,10⟩) by unfold qf;rw [if_neg (by simp [HE.out]),HL.out];simp [hk])
       rw [if_neg hk,if_neg hk] at HC
       clear hk
       go_wp2_with fail
       refine HC.out.mono ?_
       clear HC
       rintro e w2 ⟨rfl,hb3⟩
       have HB3:=Lh (HB2.out.trans (hb3.mono HB2.out.size))
       have HP3:=Lh (HP.out.below HB3.out)
       clear hb3 HB2
       have d6:w2.cell? ⟨o,6,none⟩=some (.int .i64 0):=(qq (j:=6) HP3.out.obj rfl).trans (by rw [HE.out];rfl)
       have d0:w2.cell? ⟨o,0,none⟩=some (.int .u8 5):=(qq (j:=0) HP3.out.obj rfl).trans (by rw [HP.out.kind];rfl)
       have d7:w2.frozen? ⟨o,6,none⟩=false:=by simp [World.frozen?,HP3.out.obj]
       go_wp2_with fail
       refine (zX o 10 _ d6 d0 d7).mono ?_
       clear d6 d0 d7
       rintro e w3 ⟨rfl,rfl⟩
       have HP4:=Lh (HP3.out.fail 10)
       have HT:=Lh (show Touch (fun b=>b=o∨b=m) w (w2.setCell ⟨o,6,none⟩ (.int .i64 10)) from (Touch.of_below HB3.out lz).setCell (.inl (.inl rfl)) _)
       go_wp2
       go_ret
       exact ⟨by rw [HX.out];rfl,by rw [HX.out];exact HP4.out,HT.out⟩
   · have HX:=Lh (show qf v y st=(⟨#[]⟩,⟨st.asked,6⟩) by unfold qf;rw [if_neg (by simp [HE.out]),show v.look y=none from xz _ _ _ hno])
     unfold zeroAgg
     have HB3:=Lh (show Below w.heap.size w (w1.alloc (.cells #[.int .u8 0,.int .i64 0,.string ⟨#[]⟩,.slice none 0 0,.slice none 0 0] 25)) from HB1.out.alloc HB1.out.size _)
     have HP3:=Lh (HP.out.below HB3.out)
     clear hno HB1
     have d6:(w1.alloc (.cells #[.int .u8 0,.int .i64 0,.string ⟨#[]⟩,.slice none 0 0,.slice none 0 0] 25)).cell? ⟨o,6,none⟩=some (.int .i64 0):=(qq (j:=6) HP3.out.obj rfl).trans (by rw [HE.out];rfl)
     have d0:(w1.alloc (.cells #[.int .u8 0,.int .i64 0,.string ⟨#[]⟩,.slice none 0 0,.slice none 0 0] 25)).cell? ⟨o,0,none⟩=some (.int .u8 5):=(qq (j:=0) HP3.out.obj rfl).trans (by rw [HP.out.kind];rfl)
     have d7:(w1.alloc (.cells #[.int .u8 0,.int .i64 0,.string ⟨#[]⟩,.slice none 0 0,.slice none 0 0] 25)).frozen? ⟨o,6,none⟩=false:=by simp [World.frozen?,HP3.out.obj]
     go_wp2_with fail
     refine (zX o 6 _ d6 d0 d7).mono ?_
     clear d6 d0 d7
     rintro e w3 ⟨rfl,rfl⟩
     have HP4:=Lh (HP3.out.fail 6)
     have HT:=Lh (show Touch (fun b=>b=o∨b=m) w ((w1.alloc (.cells #[.int .u8 0,.int .i64 0,.string ⟨#[]⟩,.slice none 0 0,.slice none 0 0] 25)).setCell ⟨o,6,none⟩ (.int .i64 6)) from (Touch.of_below HB3.out lz).setCell (.inl (.inl rfl)) _)
     go_wp2
     go_ret
     exact ⟨by rw [HX.out];rfl,by rw [HX.out];exact HP4.out,HT.out⟩
 · have he':(st.err == 0)=false:=by simpa using he
   have he2:(st.err != 0)=true:=by simpa using he
   have HX:=Lh (show qf v y st=(⟨#[]⟩,st) by unfold qf;rw [if_pos he])
   have HE:=Lh he
   clear he
   go_enter Tryz.func186,Tryz.ntmps186
   go_wp2_with fail
   refine (qD o st.err 5 w c6 c0 (fun _=>rfl)).mono ?_
   rintro r w' ⟨rfl,rfl⟩
   go_wp2
   go_ret
   exact ⟨by rw [HX.out];rfl,by rw [HX.out];exact HP.out,Touch.refl _ _⟩
set_option maxHeartbeats 400000 in
theorem yf (o m lo hi:Nat) (v:JV) (an ai:Option Addr) (cn ci:Nat) (y:ByteArray) (st:PS) (w:World) (hP:PickAt o m lo hi v an ai cn ci st w) (hy:y.size≤4294967296) (ha:st.asked.length≤4294967296) :
 Calls Tryz.prog 124 #[.pointer (some ⟨o,0,none⟩),.string y] w (uq o m lo hi v an ai cn ci y st w):=by
 have HC:=Lh (rv o m lo hi v an ai cn ci y st w hP hy ha)
 clear hP
 go_enter Tryz.func124,Tryz.ntmps124
 go_wp2_with fail
 refine HC.out.mono ?_
 rintro e w' ⟨rfl,h1,h2⟩
 have H1:=Lh h1
 have H2:=Lh h2
 clear h1 h2
 go_wp2
 go_ret
 exact ⟨rfl,H1.out,H2.out⟩
def zO (o:Nat) (err:Int) (w:World):Prop:=err≠0∧w.cell? ⟨o,6,none⟩=some (.int .i64 err)∧∃k,w.cell? ⟨o,0,none⟩=some (.int .u8 k)
theorem zO.below {o:Nat} {err:Int} {w w':World} (h:zO o err w) (hb:Below w.heap.size w w') (ho:o<w.heap.size):zO o err w':=by
 obtain ⟨h1,h2,k,h3⟩:=h
 exact ⟨h1,by rw [hb.cell ho];exact h2,k,by rw [hb.cell ho];exact h3⟩
set_option maxHeartbeats 400000 in
theorem fj (o:Nat) (err:Int) (y:ByteArray) (w:World) (h:zO o err w) :
 Calls Tryz.prog 124 #[.pointer (some ⟨o,0,none⟩),.string y] w fun e w'=>e=.returned (.string ⟨#[]⟩)∧w=w':=by
 obtain ⟨he,c6,k,c0⟩:=h
 have HT:=Lh (show Calls Tryz.prog 186 #[.pointer (some ⟨o,0,none⟩),.string y,.func (.func 187) #[] #[]] w (fun e w'=>e=.returned (.string ⟨#[]⟩)∧w=w') by
  have he':(err == 0)=false:=by simpa using he
  have he2:(err != 0)=true:=by simpa using he
  have HE:=Lh he
  clear he
  go_enter Tryz.func186,Tryz.ntmps186
  go_wp2_with fail
  refine (qD o err k w c6 c0 (fun h=>absurd h HE.out)).mono ?_
  rintro r w' ⟨rfl,rfl⟩
  go_wp2
  go_ret
  exact ⟨rfl,rfl⟩)
 clear he c6 c0
 go_enter Tryz.func124,Tryz.ntmps124
 go_wp2_with fail
 refine HT.out.mono ?_
 rintro e w' ⟨rfl,rfl⟩
 go_wp2
 go_ret
 exact ⟨rfl,rfl⟩
set_option maxHeartbeats 400000 in
theorem fk (o:Nat) (err k:Int) (w:World) (he:err≠0) (c6:w.cell? ⟨o,6,none⟩=some (.int .i64 err)) (c0:w.cell? ⟨o,0,none⟩=some (.int .u8 k)) :
 Calls Tryz.prog 68 #[.pointer (some ⟨o,0,none⟩)] w fun e w'=>e=.returned (.int .i64 err)∧w=w':=by
 have he':(err == 0)=false:=by simpa using he
 have he2:(err != 0)=true:=by simpa using he
 have HE:=Lh he
 clear he
 go_enter Tryz.func68,Tryz.ntmps68
 go_wp2_with fail
 refine (qD o err k w c6 c0 (fun h=>absurd h HE.out)).mono ?_
 rintro r w' ⟨rfl,rfl⟩
 go_wp2
 go_ret
 exact ⟨rfl,rfl⟩
theorem ry {α:Type} (p:α→Bool) (l:List α) (k:Nat) (h:k<l.length) (ha:(l.take k).all p=true) (hp:p l[k]=true):(l.take (k+1)).all p=true:=by
 rw [List.take_succ_eq_append_getElem h,List.all_append,ha];simp [hp]
theorem nE {α:Type} (p:α→Bool) (l:List α) (k:Nat) (h:k<l.length) (hp:p l[k]=false):l.all p=false:=by
 rw [List.all_eq_false];exact ⟨l[k],List.getElem_mem h,by simp [hp]⟩
set_option maxHeartbeats 400000 in
set_option maxRecDepth 100000 in
theorem pn (o m lo hi:Nat) (v:JV) (an ai:Option Addr) (cn ci:Nat) (st:PS) (w:World) (hP:PickAt o m lo hi v an ai cn ci st w) (hn:∀i (h:i<v.names.length),v.names[i].size≤4294967296) :
 Calls Tryz.prog 68 #[.pointer (some ⟨o,0,none⟩)] w fun e w'=>e=.returned (.int .i64 (qh v st))∧w=w':=by
 have c6:w.cell? ⟨o,6,none⟩=some (.int .i64 st.err):=qq hP.obj rfl
 have c0:w.cell? ⟨o,0,none⟩=some (.int .u8 5):=(qq (j:=0) hP.obj rfl).trans (by rw [hP.kind];rfl)
 by_cases he:st.err=0
 · have c3:w.cell? ⟨o,3,none⟩=some (.slice an v.names.length cn):=qq hP.obj rfl
   have c5:w.cell? ⟨o,5,none⟩=some (.map (some m)):=qq hP.obj rfl
   rw [he] at c6
   have HX:=Lh (show qh v st=if v.names.all (fun n=>st.asked.any fun a=>decide (a=n)) then 0 else 11 by unfold qh;rw [if_neg (by simp [he])])
   have hnl:=(v.wt_bd).2.1
   have hwt:=hP.wt
   have HP:=Lh hP
   have HN:=Lh hn
   obtain ⟨nn,hnn⟩:∃nn,nn=v.names.length:=⟨_,rfl⟩
   rw [← hnn] at c3 hnl
   have HNN:=Lh hnn
   clear hP he hn hnn
   go_enter Tryz.func68,Tryz.ntmps68
   go_wp2_with fail
   refine (qD o 0 5 w c6 c0 (fun _=>rfl)).mono ?_
   rintro r w' ⟨rfl,rfl⟩
   go_wp2
   clear c6 c0 c3
   go_loop [5,17] (fun _ i=>∃k:Nat,k≤nn∧i=.int .i64 k∧(v.names.take k).all (fun n=>st.asked.any fun a=>decide (a=n))=true) (fun _ i=>nn - (intOf i).toNat)
   case atStart=>exact ⟨0,by omega,rfl,by simp⟩
   case round =>
    obtain ⟨k,hk,rfl,hall⟩:=hrel
    have HA:=Lh hall
    clear hall
    by_cases hlt:k<nn
    · have hlt':k<v.names.length:=by rw [← HNN.out];exact hlt
      obtain ⟨_,_,_,h3,_⟩:True∧True∧True∧qw w lo hi an v.names∧True:=by
       obtain ⟨an',cn',ai',ci',hx,_,_,h3,_⟩:=HP.out.rep.parts
       simp only [Value.agg.injEq,Array.mk.injEq,List.cons.injEq,and_true,Value.slice.injEq] at hx
       obtain ⟨_,_,_,⟨rfl,_,_⟩,_⟩:=hx
       exact ⟨trivial,trivial,trivial,h3,trivial⟩
      obtain ⟨nb,noff,rfl,_,_,yn⟩:=h3.at k hlt'
      have hsz:=HN.out k hlt'
      have HTK:=Lh (ry (fun n=>st.asked.any fun a=>decide (a=n)) v.names k hlt' HA.out)
      have HTB:=Lh (nE (fun n=>st.asked.any fun a=>decide (a=n)) v.names k hlt')
      clear h3
      generalize v.names[k]=nk at *
      have hkey:keyOf Tryz.prog 9 (.string nk)=some (.string nk.data.toList):=keyOf_string_mk Tryz.underlying9 (by unfold maxLen;omega)
      obtain ⟨D,n,hown,hn,hD⟩:=HP.out.map
      obtain ⟨c,hat,hc0,hc1,hc2⟩:=hD.2 nk
      obtain ⟨c',hrun,hat',_⟩:=hown.lookup_int xP Tryz.underlying150 Tryz.underlying3 (jC _) hkey
      rw [hat] at hat'
      simp only [DataW.lit.injEq,Lit.int.injEq,true_and] at hat'
      subst hat'
      clear hown hat hD hn hkey
      by_cases hc:c=0
      · have hm:=hc2.1 hc
        have HF:=Lh (HTB.out (by
         rw [List.any_eq_false];intro a ha;simp only [decide_eq_true_eq];intro e;subst e;exact hm ha))
        subst hc
        clear hc2 hm
        go_wp2
        go_ret
        exact ⟨by rw [HX.out,HF.out];rfl,rfl⟩
      · have hm:nk ∈ st.asked:=by
         by_cases h:nk ∈ st.asked
         · exact h
         · exact absurd (hc2.2 h) hc
        have HF:=Lh (HTK.out (by rw [List.any_eq_true];exact ⟨nk,hm,by simp⟩))
        have hcb:(c == 0)=false:=by simpa using hc
        clear hc2 hm hc
        go_wp2
        go_round
        case rel=>exact ⟨k+1,by omega,by go_num,HF.out⟩
        case measure=>simp [intOf];omega
    · have HF:=Lh (show v.names.all (fun n=>st.asked.any fun a=>decide (a=n))=true by
       have:=HA.out;rwa [List.take_of_length_le (by rw [← HNN.out];omega)] at this)
      go_wp2
      go_ret
      exact ⟨by rw [HX.out,HF.out];rfl,rfl⟩
 · have HX:=Lh (show qh v st=st.err by unfold qh;rw [if_pos he])
   refine (fk o st.err 5 w he c6 c0).mono ?_
   rintro e w' ⟨rfl,rfl⟩
   exact ⟨by rw [HX.out],rfl⟩
def dc (w:World) (e:Ending) (w':World):Prop:=∃o,e=.returned (.pointer (some ⟨o,0,none⟩))∧w.heap.size≤o∧o<w'.heap.size∧zO o 10 w'∧Below w.heap.size w w'
set_option maxHeartbeats 400000 in
theorem gC (k n:Int) (t:ByteArray) (a b:Value) (w:World) (hk:k≠5) :
 Calls Tryz.prog 60 #[.agg #[.int .u8 k,.int .i64 n,.string t,a,b]] w (dc w):=by
 have hk':(k == 5)=false:=by simpa using hk
 have hk2:(k != 5)=true:=by simpa using hk
 clear hk
 go_enter Tryz.func60,Tryz.ntmps60
 go_wp2
 go_ret
 refine ⟨_,rfl,by omega,by simp,⟨by decide,?_,0,?_⟩,((Below.refl _ _).alloc lz _).alloc (by simp) _⟩
 · go_simp
 · go_simp
def aK (v:JV) (w:World) (e:Ending) (w':World):Prop:=∃o m lo hi an ai cn ci,e=.returned (.pointer (some ⟨o,0,none⟩))∧PickAt o m lo hi v an ai cn ci ⟨[],0⟩ w'∧w.heap.size≤o∧w.heap.size≤m∧Below w.heap.size w w'
set_option maxHeartbeats 400000 in
set_option maxRecDepth 100000 in
theorem yR (v:JV) (x:Value) (w:World) (lo hi:Nat) (hN:v.wt≤4294967296) (hhi:hi≤w.heap.size) (hR:Rep w lo hi v x) (hk:v.kind=5) (hr:qe v.names=true) (hl:v.names.length=v.items.length) (hS:∀k (h:k<v.items.length),bD lo v.items[k]) :
 Calls Tryz.prog 60 #[x] w (aK v w):=by
 obtain ⟨an,cn,ai,ci,rfl,h1,h2,h3,h4⟩:=hR.parts
 obtain ⟨b1,b2,b3,b4⟩:=v.wt_bd
 rw [hl,hk]
 rw [hl,hk] at hR
 obtain ⟨nn,hnn⟩:∃nn,nn=v.items.length:=⟨_,rfl⟩
 rw [← hnn] at hR b3 ⊢
 have HNN:=Lh hnn
 have H3:=Lh h3
 have HR:=Lh hR
 have HRS:=Lh hr
 have HS:=Lh hS
 have HK:=Lh hk
 have HL:=Lh hl
 clear h1 h2 h3 h4 hR hr hS hk hnn hl
 have hmm:=@run_makeMap Tryz.prog
 have HB0:=Lh (show Below w.heap.size w (w.alloc (.cells #[.int .u8 5,.int .i64 v.n,.string v.t,.slice an nn cn,.slice ai nn ci] 25)) from (Below.refl _ _).alloc lz _)
 have HX0:=Lh (heap_alloc_new w (.cells #[.int .u8 5,.int .i64 v.n,.string v.t,.slice an nn cn,.slice ai nn ci] 25))
 go_enter Tryz.func60,Tryz.ntmps60
 go_wp2
 go_loopw [3] (fun i wr=>∃k:Nat,1≤k∧(k≤nn∨k=1)∧i=.int .i64 k∧Below (w.heap.size+1) (w.alloc (.cells #[.int .u8 5,.int .i64 v.n,.string v.t,.slice an nn cn,.slice ai nn ci] 25)) wr) (fun i _=>nn - (intOf i).toNat)
 case atStart=>exact ⟨1,by omega,.inr rfl,rfl,Below.refl _ _⟩
 case round =>
  obtain ⟨k,hk1,hk2,rfl,hbel⟩:=hrel
  have hz:w.heap.size+1≤wr.heap.size:=by have:=hbel.size;simpa using this
  have hx1:wr.heap[w.heap.size]?=some (.cells #[.int .u8 5,.int .i64 v.n,.string v.t,.slice an nn cn,.slice ai nn ci] 25 (0,0)):=by rw [hbel.block _ (by omega)];exact HX0.out
  have HX1:=Lh hx1
  have HBW:=Lh (show Below w.heap.size w wr from HB0.out.trans (hbel.mono (by omega)))
  have c3:wr.cell? ⟨w.heap.size,3,none⟩=some (.slice an nn cn):=qq hx1 rfl
  have HB:=Lh hbel
  clear hx1 hbel
  by_cases hlt:k<nn
  · have hltn:k<v.names.length:=by rw [HL.out,← HNN.out];exact hlt
    obtain ⟨b,off,rfl,_,hb,y1⟩:=(H3.out.below HBW.out hhi lz lz).at k hltn
    obtain ⟨b',off',hbb,_,_,y0⟩:=(H3.out.below HBW.out hhi lz lz).at (k - 1) (by omega)
    obtain ⟨rfl,rfl⟩:b=b'∧off=off':=by simpa using hbb
    clear hbb
    have hless:=xN HRS.out (k - 1) k (by omega) hltn (by omega)
    unfold bl at hless
    generalize v.names[k - 1]=na at hless y0
    generalize v.names[k]=nb at hless y1
    have i0:IntKind.i64.wrap ((k:Int) - 1)=(k:Int) - 1:=IntWalk.i64_in _ (by omega)
    have j0:0≤(k:Int) - 1:=by omega
    have j1:1≤(k:Int):=by omega
    have j2:(k:Int) - 1<(nn:Int):=by omega
    have j3:(k:Int)<(nn:Int):=by omega
    have t0:((k:Int) - 1).toNat=k - 1:=by omega
    go_wp2_with fail
    go_quiet (fail)
    go_wp2
    go_roundw
    case rel=>exact ⟨k+1,by omega,by omega,by go_num,Below.drewN HB.out _⟩
    case measure=>simp [intOf];omega
  · have c0:wr.cell? ⟨w.heap.size,0,none⟩=some (.int .u8 5):=qq HX1.out rfl
    have c1:wr.cell? ⟨w.heap.size,1,none⟩=some (.int .i64 v.n):=qq HX1.out rfl
    have c2:wr.cell? ⟨w.heap.size,2,none⟩=some (.string v.t):=qq HX1.out rfl
    have c4:wr.cell? ⟨w.heap.size,4,none⟩=some (.slice ai nn ci):=qq HX1.out rfl
    have HC:=Lh (kq v _ wr lo hi hN (by omega) (HR.out.below HBW.out hhi lz lz) HS.out)
    go_wp2_with fail
    refine HC.out.mono ?_
    clear HC c0 c1 c2 c3 c4
    rintro e w2 ⟨an2,cn2,ai2,ci2,rfl,hr2,hb2⟩
    have hz2:=hb2.size
    have HR2:=Lh hr2
    have HB2:=Lh (HBW.out.trans (hb2.mono (by omega)))
    clear hr2 hb2
    go_wp2
    go_ret
    refine ⟨w2.heap.size+1,w2.heap.size,wr.heap.size,w2.heap.size,an2,ai2,cn2,ci2,rfl,?_,by omega,by omega,(HB2.out.alloc (by omega) _).alloc (by simp;omega) _⟩
    have hbb:Below w2.heap.size w2 ((w2.alloc (.map #[] 0)).alloc (.cells #[.int .u8 v.kind,.int .i64 v.n,.string v.t,.slice an2 v.names.length cn2,.slice ai2 v.items.length ci2,.map (some w2.heap.size),.int .i64 0] 152)):=((Below.refl _ _).alloc lz _).alloc (by simp) _
    exact {
     obj:=by
      have:=heap_alloc_new (w2.alloc (.map #[] 0)) (.cells #[.int .u8 v.kind,.int .i64 v.n,.string v.t,.slice an2 v.names.length cn2,.slice ai2 v.items.length ci2,.map (some w2.heap.size),.int .i64 0] 152)
      rw [show (w2.alloc (.map #[] 0)).heap.size=w2.heap.size+1 by simp] at this
      exact this
     map:=⟨_,0,(World.ownsMap_made w2 _ _ _).alloc _,by omega,h9.nil⟩
     rep:=HR2.out.below hbb lz lz lz
     pos:=by omega
     out:=⟨by omega,by omega⟩
     le:=hbb.size
     kind:=HK.out
     rise:=HRS.out
     len:=HL.out
     wt:=hN }
end Go.Proofs.YthgembbgcbaghaaGreatDoor

namespace Go.Proofs.YthgembbgcbaghaaGreatDoor
open Go.RowKit
def xW (seen:List ByteArray) (x:ByteArray):Bool:=seen.any fun y=>y.toList == x.toList
theorem kx (seen:List ByteArray) (x:ByteArray):xW seen x=true↔x ∈ seen:=by
 unfold xW
 rw [List.any_eq_true]
 constructor
 · rintro ⟨y,hy,e⟩;rw [← yg (eq_of_beq e)];exact hy
 · intro h;exact ⟨x,h,by simp⟩
def yN (s:ByteArray):Bool:=decide (s.size=64) && xY s.data.toList
def zS (seen:List ByteArray):List ByteArray→Int
 | []=>0
 | x :: r=>if yN x then (if xW seen x then 7 else zS (seen ++ [x]) r) else 3
def jo (t:Int) (ids:List ByteArray):Bool:=decide (1≤ids.length∧ids.length≤16∧1≤t∧t≤ids.length) && decide (zS [] ids=0)
def gD (c:UInt8):List UInt8:=if c.toNat=34∨c.toNat=92 then [92,c] else [c]
def wJ (l:List UInt8):List UInt8:=l.flatMap gD
def xb (l:List UInt8):List UInt8:=34 :: (wJ l ++ [34])
theorem dd (s:ByteArray) (k:Nat) (h:k<s.size):wJ (s.data.toList.take (k+1))=wJ (s.data.toList.take k) ++ gD s[k]:=by
 unfold wJ;rw [wI s k h];simp
theorem k9 (l:List UInt8):(wJ l).length≤2 * l.length:=by
 induction l with
 | nil=>simp [wJ]
 | cons c r ih =>
  have e:wJ (c :: r)=gD c ++ wJ r:=by simp [wJ]
  rw [e,List.length_append,List.length_cons]
  have:(gD c).length≤2:=by unfold gD;split <;> simp
  omega
def dl (s:ByteArray) (w:World) (e:Ending) (w':World):Prop:=e=.returned (.tuple #[.string ⟨(xb s.data.toList).toArray⟩,.int .i64 0])∧Below w.heap.size w w'
set_option maxHeartbeats 400000 in
set_option maxRecDepth 100000 in
theorem mG (s:ByteArray) (w:World) (hs:s.size≤4096) (hu:wX s=true) :
 Calls Tryz.prog 229 #[.string s] w (dl s w):=by
 go_enter Tryz.func229,Tryz.ntmps229
 go_wp2_with fail
 refine (gF s _ (by omega)).mono ?_
 rintro e w1 ⟨rfl,hb1⟩
 have HB1:=Lh hb1;clear hb1
 go_wp2_with fail
 have h0:vO w1.heap.size w1.heap.size [] (w1.alloc (.cells #[.pointer none,.slice none 0 0] 228)):=Lib.IsBuilderF.of (Lib.fresh_isBuilder _ _ w1)
 refine (zl w1.heap.size w1.heap.size [] 34 _ h0 (by simp) (by simp)).mono ?_
 rintro e w2 ⟨rfl,hu2,hb2,hk2⟩
 have HU2:=Lh hu2
 have HB2:=Lh (show Below w1.heap.size w1 w2 from ((Below.refl _ _).alloc lz _).trans hb2)
 clear hu2 hb2 hk2 h0
 go_wp2
 go_loopw [5,15] (fun _ i wr=>∃k:Nat,k≤s.size∧i=.int .i64 k∧p8 w1.heap.size w1.heap.size (Lib.byteCells (34 :: wJ (s.data.toList.take k))) wr∧Below w1.heap.size w1 wr) (fun _ i _=>s.size - (intOf i).toNat)
 case atStart=>exact ⟨0,Nat.zero_le _,rfl,HU2.out,HB2.out⟩
 case round =>
  obtain ⟨k,hk,rfl,hbu,hbe⟩:=hrel
  have hl:=k9 (s.data.toList.take k)
  have hl2:(s.data.toList.take k).length≤k:=List.length_take_le _ _
  have hz:=hbe.size
  have HBU:=Lh hbu
  have HBE:=Lh hbe
  clear hbu hbe
  by_cases hlt:k<s.size
  · have HS:=Lh (dd s k hlt)
    by_cases h1:s[k].toNat=34∨s[k].toNat=92
    · have HE:Hid (gD s[k]=[92,s[k]]):=Lh (by unfold gD;rw [if_pos h1])
      rcases h1 with h1|h1
      case' inl=>have t1:((s[k].toNat:Int) == 34)=true:=by simp;omega
      case' inr =>
       have t1:((s[k].toNat:Int) == 34)=false:=by simp;omega
       have t2:((s[k].toNat:Int) == 92)=true:=by simp;omega
      all_goals
       clear h1
       go_wp2_with fail
       refine (zl w1.heap.size w1.heap.size _ 92 _ (.inr HBU.out) (by simp [Lib.byteCells];omega) (by omega)).mono ?_
       rintro e w3 ⟨rfl,hu3,hb3,-⟩
       have hz3:=hb3.size
       have HU3:=Lh hu3
       have HB3:=Lh (HBE.out.trans hb3)
       clear hu3 hb3
       go_wp2_with fail
       refine (zl w1.heap.size w1.heap.size _ _ _ (.inr HU3.out) (by simp [Lib.byteCells];omega) (by omega)).mono ?_
       rintro e w4 ⟨rfl,hu4,hb4,-⟩
       have HU4:=Lh hu4
       have HB4:=Lh (HB3.out.trans hb4)
       clear hu4 hb4
       go_wp2
       go_roundw
       case rel=>exact ⟨k+1,by omega,by go_num,by rw [HS.out,HE.out];simpa [Lib.byteCells] using HU4.out,HB4.out⟩
       case measure=>simp [intOf];omega
    · have HE:Hid (gD s[k]=[s[k]]):=Lh (by unfold gD;rw [if_neg h1])
      have t1:((s[k].toNat:Int) == 34)=false:=by simp;omega
      have t2:((s[k].toNat:Int) == 92)=false:=by simp;omega
      clear h1
      go_wp2_with fail
      refine (zl w1.heap.size w1.heap.size _ _ _ (.inr HBU.out) (by simp [Lib.byteCells];omega) (by omega)).mono ?_
      rintro e w4 ⟨rfl,hu4,hb4,-⟩
      have HU4:=Lh hu4
      have HB4:=Lh (HBE.out.trans hb4)
      clear hu4 hb4
      go_wp2
      go_roundw
      case rel=>exact ⟨k+1,by omega,by go_num,by rw [HS.out,HE.out];simpa [Lib.byteCells] using HU4.out,HB4.out⟩
      case measure=>simp [intOf];omega
  · have HF:=Lh (show s.data.toList.take k=s.data.toList from List.take_of_length_le (by rw [qm];omega))
    rw [HF.out] at HBU
    go_wp2_with fail
    refine (zl w1.heap.size w1.heap.size _ 34 _ (.inr HBU.out) (by have:=k9 s.data.toList;rw [qm] at this;simp [Lib.byteCells];omega) (by omega)).mono ?_
    rintro e w3 ⟨rfl,hu3,hb3,-⟩
    have HU3:=Lh (show p8 w1.heap.size w1.heap.size (Lib.byteCells (xb s.data.toList)) w3 by simpa [Lib.byteCells,xb] using hu3)
    have HB3:=Lh (HBE.out.trans hb3)
    clear hu3 hb3
    go_wp2_with fail
    refine (vY w1.heap.size w1.heap.size _ _ (.inr HU3.out) (by simp [xb])).mono ?_
    rintro e w4 ⟨rfl,hb4,-⟩
    have HB4:=Lh (HB1.out.trans ((HB3.out.trans hb4).mono HB1.out.size))
    clear hb4
    go_wp2
    go_ret2
    exact ⟨rfl,HB4.out⟩
theorem ba_eq {a b:ByteArray}:(a.toList == b.toList)=decide (a=b):=by
 rw [ByteArray.toList_eq,ByteArray.toList_eq,Bool.eq_iff_iff]
 simp only [beq_iff_eq,decide_eq_true_eq]
 exact ⟨fun h=>pr h,fun h=>by rw [h]⟩
theorem vd {w:World} {base base' e size n:Nat} {v:Value} {cs:List Value} (h:w.ownsRow base e size v n cs) (hb:base'≤base):w.ownsRow base' e size v n cs:=by
 refine ⟨h.1,?_⟩
 rcases h.2 with h2|⟨g,cap,cur,hv,hg,r⟩
 · exact .inl h2
 · exact .inr ⟨g,cap,cur,hv,Nat.le_trans hb hg,r⟩
structure ObjAt2 (W wr:World) (B cb T e1 e5:Nat) (vn vi:Value) (ns:List ByteArray) (its:List JV) (cs:List Value):Prop where
 lt:cb<W.heap.size
 le:B≤W.heap.size
 touch:Touch (· = cb) W wr
 row:wr.rowIs cb T 5 (qQ (.int .u8 5) (.int .i64 0) (.string ⟨#[]⟩) vn vi)
 names:wr.ownsRow W.heap.size e1 1 vn ns.length (ns.map .string)
 items:wr.ownsRow W.heap.size e5 5 vi its.length cs
 reps:qM wr B (fun b=>b=cb∨vn.ownBlock=some b∨vi.ownBlock=some b) its cs
 ne:∀b,vn.ownBlock=some b→vi.ownBlock≠some b
theorem ObjAt2.below {W wr w':World} {B cb T e1 e5:Nat} {vn vi:Value} {ns:List ByteArray} {its:List JV} {cs:List Value} (h:ObjAt2 W wr B cb T e1 e5 vn vi ns its cs) (hb:Below wr.heap.size wr w'):ObjAt2 W w' B cb T e1 e5 vn vi ns its cs where
 lt:=h.lt
 le:=h.le
 touch:=h.touch.trans (Touch.of_below hb lz)
 row:=qj hb h.row h.row.lt
 names:=qB h.names hb
 items:=qB h.items hb
 reps:=h.reps.carry hb.size lz (fun b hb' _=>hb.block b hb') (fun _ hx=>.inl hx)
 ne:=h.ne
theorem ObjAt2.name {W wr w4:World} {B cb T e1 e5 g cap:Nat} {vn vi:Value} {ns:List ByteArray} {its:List JV} {cs:List Value} (h:ObjAt2 W wr B cb T e1 e5 vn vi ns its cs) (x:ByteArray)
 (hg:wr.grownBy w4 vn.ownBlock) (hat:vn.ownBlock=some g∨wr.heap.size≤g)
 (ho4:w4.ownsRow W.heap.size e1 1 (.slice (some ⟨g,0,none⟩) (ns.length+1) cap) (ns.length+1) (ns.map .string ++ [.string x])) :
 ObjAt2 W (w4.setCell ⟨cb,3,none⟩ (.slice (some ⟨g,0,none⟩) (ns.length+1) cap)) B cb T e1 e5 (.slice (some ⟨g,0,none⟩) (ns.length+1) cap) vi (ns ++ [x]) its cs:=by
 have hwz:W.heap.size≤wr.heap.size:=h.touch.size
 have hz4:=hg.size
 have hlt:=h.lt
 have hon:∀b,vn.ownBlock=some b→W.heap.size≤b∧b<wr.heap.size:=fun b hb=>h.names.lt b hb
 have hoi:∀b,vi.ownBlock=some b→W.heap.size≤b∧b<wr.heap.size:=fun b hb=>h.items.lt b hb
 have s2:∀b,b<wr.heap.size→vn.ownBlock≠some b→w4.heap[b]?=wr.heap[b]?:=fun b hb hne=>hg.block b hb (fun e=>hne e.symm)
 have s3:∀b,b≠cb→(w4.setCell ⟨cb,3,none⟩ (.slice (some ⟨g,0,none⟩) (ns.length+1) cap)).heap[b]?=w4.heap[b]?:=fun b hb=>Below.heap_setCell _ _ _ _ hb
 have hcn:vn.ownBlock≠some cb:=fun e=>by have:=(hon cb e).1;omega
 have hz5:(w4.setCell ⟨cb,3,none⟩ (.slice (some ⟨g,0,none⟩) (ns.length+1) cap)).heap.size=w4.heap.size:=by simp [World.setCell]
 have hgb:∀b,(Value.slice (some ⟨g,0,none⟩) (ns.length+1) cap).ownBlock=some b→b=g:=fun b hb=>by simp [Value.ownBlock] at hb;exact hb.symm
 have hgi:vi.ownBlock≠some g:=fun e=>by
  rcases hat with ha|ha
  · exact h.ne g ha e
  · have:=(hoi g e).2;omega
 refine ⟨hlt,h.le,⟨?_,?_,?_,by omega,fun b hb hne=>?_⟩,?_,?_,?_,?_,?_⟩
 · show w4.os=_;rw [hg.os,h.touch.os]
 · show w4.tape=_;rw [hg.tape,h.touch.tape]
 · show w4.output=_;rw [hg.output,h.touch.output]
 · rw [s3 b hne,s2 b (by omega) (fun e=>by have:=(hon b e).1;omega)];exact h.touch.block b hb hne
 · have h4:w4.rowIs cb T 5 _:=h.row.of_block (s2 cb (by omega) hcn)
   refine (h4.set 3 _).congr fun i hi=>?_
   rcases i with _|_|_|_|_|i <;> first|rfl|omega
 · have:=ownsRow_setCell_below ho4 hlt (Value.slice (some ⟨g,0,none⟩) (ns.length+1) cap) (a:=⟨cb,3,none⟩)
   simpa using this
 · refine zL h.items fun b hb=>?_
   rw [s3 b (fun e=>by have:=(hoi b hb).1;omega),s2 b (hoi b hb).2 (fun e=>h.ne b e hb)]
 · refine h.reps.carry (by omega) lz (fun b hb hx=>?_) (fun b hx=>?_)
   · rw [s3 b (fun e=>hx (.inl e)),s2 b hb (fun e=>hx (.inr (.inl e)))]
   · rcases hx with hx|hx|hx
     · exact .inl (.inl hx)
     · rw [hgb b hx]
       rcases hat with ha|ha
       · exact .inl (.inr (.inl ha))
       · exact .inr ha
     · exact .inl (.inr (.inr hx))
 · intro b hb
   rw [hgb b hb];exact hgi
theorem ObjAt2.item {W wr w4:World} {B cb T e1 e5 g cap lo hi:Nat} {vn vi:Value} {ns:List ByteArray} {its:List JV} {cs:List Value} {it:JV} {an ai:Option Addr} {cn ci:Nat} (h:ObjAt2 W wr B cb T e1 e5 vn vi ns its cs)
 (hlo:B≤lo) (hhi:hi≤cb) (hr3:Rep wr lo hi it (.agg #[.int .u8 it.kind,.int .i64 it.n,.string it.t,.slice an it.names.length cn,.slice ai it.items.length ci]))
 (hg:wr.grownBy w4 vi.ownBlock) (hat:vi.ownBlock=some g∨wr.heap.size≤g)
 (ho4:w4.ownsRow W.heap.size e5 5 (.slice (some ⟨g,0,none⟩) (its.length+1) cap) (its.length+1) (cs ++ [.int .u8 it.kind,.int .i64 it.n,.string it.t,.slice an it.names.length cn,.slice ai it.items.length ci])) :
 ObjAt2 W (w4.setCell ⟨cb,4,none⟩ (.slice (some ⟨g,0,none⟩) (its.length+1) cap)) B cb T e1 e5 vn (.slice (some ⟨g,0,none⟩) (its.length+1) cap) ns (its ++ [it]) (cs ++ [.int .u8 it.kind,.int .i64 it.n,.string it.t,.slice an it.names.length cn,.slice ai it.items.length ci]):=by
 have hwz:W.heap.size≤wr.heap.size:=h.touch.size
 have hz4:=hg.size
 have hlt:=h.lt
 have hon:∀b,vn.ownBlock=some b→W.heap.size≤b∧b<wr.heap.size:=fun b hb=>h.names.lt b hb
 have hoi:∀b,vi.ownBlock=some b→W.heap.size≤b∧b<wr.heap.size:=fun b hb=>h.items.lt b hb
 have s2:∀b,b<wr.heap.size→vi.ownBlock≠some b→w4.heap[b]?=wr.heap[b]?:=fun b hb hne=>hg.block b hb (fun e=>hne e.symm)
 have s3:∀b,b≠cb→(w4.setCell ⟨cb,4,none⟩ (.slice (some ⟨g,0,none⟩) (its.length+1) cap)).heap[b]?=w4.heap[b]?:=fun b hb=>Below.heap_setCell _ _ _ _ hb
 have hcn:vi.ownBlock≠some cb:=fun e=>by have:=(hoi cb e).1;omega
 have hz5:(w4.setCell ⟨cb,4,none⟩ (.slice (some ⟨g,0,none⟩) (its.length+1) cap)).heap.size=w4.heap.size:=by simp [World.setCell]
 have hgb:∀b,(Value.slice (some ⟨g,0,none⟩) (its.length+1) cap).ownBlock=some b→b=g:=fun b hb=>by simp [Value.ownBlock] at hb;exact hb.symm
 refine ⟨hlt,h.le,⟨?_,?_,?_,by omega,fun b hb hne=>?_⟩,?_,?_,?_,?_,?_⟩
 · show w4.os=_;rw [hg.os,h.touch.os]
 · show w4.tape=_;rw [hg.tape,h.touch.tape]
 · show w4.output=_;rw [hg.output,h.touch.output]
 · rw [s3 b hne,s2 b (by omega) (fun e=>by have:=(hoi b e).1;omega)];exact h.touch.block b hb hne
 · have h4:w4.rowIs cb T 5 _:=h.row.of_block (by rw [s2 cb (by omega) hcn])
   refine (h4.set 4 _).congr fun i hi=>?_
   rcases i with _|_|_|_|_|i <;> first|rfl|omega
 · refine zL h.names fun b hb=>?_
   have:=hon b hb
   rw [s3 b (fun e=>by omega),s2 b (by omega) (h.ne b hb)]
 · have:=ownsRow_setCell_below ho4 hlt (Value.slice (some ⟨g,0,none⟩) (its.length+1) cap) (a:=⟨cb,4,none⟩)
   simpa using this
 · have c1:qM (w4.setCell ⟨cb,4,none⟩ (.slice (some ⟨g,0,none⟩) (its.length+1) cap)) B (fun b=>b=cb∨vn.ownBlock=some b∨(Value.slice (some ⟨g,0,none⟩) (its.length+1) cap).ownBlock=some b) its cs:=by
    refine h.reps.carry (by omega) lz (fun b hb hx=>?_) (fun b hx=>?_)
    · rw [s3 b (fun e=>hx (.inl e)),s2 b (by omega) (fun e=>hx (.inr (.inr e)))]
    · rcases hx with hx|hx|hx
      · exact .inl (.inl hx)
      · exact .inl (.inr (.inl hx))
      · rw [hgb b hx]
        rcases hat with ha|ha
        · exact .inl (.inr (.inr ha))
        · exact .inr (by omega)
   refine c1.snoc it lo hi an cn ai ci (by omega) (by omega) (fun b hx hb=>?_) (Rep.carry lz lz (fun b h1 h2=>?_) _ _ hr3)
   · rcases hx with hx|hx|hx
     · omega
     · have:=hon b hx;omega
     · rw [hgb b hx] at hb
       rcases hat with ha|ha
       · have:=hoi g ha;omega
       · omega
   · rw [s3 b (by omega),s2 b (by omega) (fun e=>by have:=(hoi b e).1;omega)]
 · intro b hb e
   rw [hgb b e] at hb
   rcases hat with ha|ha
   · exact h.ne g hb ha
   · have:=(hon g hb).2;omega
theorem ObjAt2.done {W wr:World} {B cb T e1 e5:Nat} {vn vi:Value} {ns:List ByteArray} {its:List JV} {cs:List Value} (h:ObjAt2 W wr B cb T e1 e5 vn vi ns its cs) :
 ∃an cn ai ci,vn=.slice an ns.length cn∧vi=.slice ai its.length ci∧Rep wr B wr.heap.size (.mk 5 0 ⟨#[]⟩ ns its) (.agg #[.int .u8 5,.int .i64 0,.string ⟨#[]⟩,.slice an ns.length cn,.slice ai its.length ci]):=by
 obtain ⟨an,cn,h1,h2,h3⟩:=xG (vd h.names h.le) rfl
 obtain ⟨ai,ci,h4,h5,h6⟩:=zC (vd h.items h.le) h.reps rfl
 exact ⟨an,cn,ai,ci,h1,h4,Rep.mk (v:=.mk 5 0 ⟨#[]⟩ ns its) h2 h5 h3 h6⟩
def je (w:World) (lo hi:Nat) (ai:Option Addr) (its:List JV):Prop:=∀i (h:i<its.length),∃g l2 h2 an cn bi ci,ai=some ⟨g,0,none⟩∧lo≤g∧g<hi∧w.cell? ⟨g,i * 5+4,none⟩=some (.slice bi its[i].items.length ci)∧lo≤l2∧h2≤hi∧¬(l2≤g∧g<h2) ∧
 Rep w l2 h2 its[i] (.agg #[.int .u8 its[i].kind,.int .i64 its[i].n,.string its[i].t,.slice an its[i].names.length cn,.slice bi its[i].items.length ci])
theorem je.carry {w w':World} {lo hi lo' hi':Nat} {ai:Option Addr} {its:List JV} (h1:lo'≤lo) (h2:hi≤hi') (hs:∀b,lo≤b→b<hi→w'.heap[b]?=w.heap[b]?) (h:je w lo hi ai its):je w' lo' hi' ai its:=fun i hi0=>by
 obtain ⟨g,l2,e2,an,cn,bi,ci,ha,k1,k2,kc,k3,k4,k5,hr⟩:=h i hi0
 exact ⟨g,l2,e2,an,cn,bi,ci,ha,by omega,by omega,by rw [World.cell?_of_block (w:=w) (hs g k1 k2)];exact kc,by omega,by omega,k5,Rep.carry lz lz (fun b hb hb'=>hs b (by omega) (by omega)) _ _ hr⟩
def vq (w:World) (lo hi:Nat) (v:JV) (x:Value):Prop:=Rep w lo hi v x∧∀k n t an ln cn ai li ci,x=.agg #[k,n,t,.slice an ln cn,.slice ai li ci]→je w lo hi ai v.items
theorem vq.carry {w w':World} {lo hi lo' hi':Nat} (h1:lo'≤lo) (h2:hi≤hi') (hs:∀b,lo≤b→b<hi→w'.heap[b]?=w.heap[b]?) (v:JV) (x:Value) (h:vq w lo hi v x):vq w' lo' hi' v x :=
 ⟨Rep.carry h1 h2 hs v x h.1,fun k n t an ln cn ai li ci e=>(h.2 k n t an ln cn ai li ci e).carry h1 h2 hs⟩
theorem vq.below {w w':World} {lo hi lo' hi' B:Nat} {v:JV} {x:Value} (h:vq w lo hi v x) (hb:Below B w w') (hB:hi≤B) (h1:lo'≤lo) (h2:hi≤hi'):vq w' lo' hi' v x :=
 vq.carry h1 h2 (fun b _ hlt=>hb.block b (by omega)) v x h
theorem ObjAt.doneS {W wr:World} {cb T e1 e5:Nat} {vn vi:Value} {ns:List ByteArray} {its:List JV} {cs:List Value} (h:ObjAt W wr cb T e1 e5 vn vi ns its cs) :
 ∃an cn ai ci,vn=.slice an ns.length cn∧vi=.slice ai its.length ci∧vq wr W.heap.size wr.heap.size (.mk 5 0 ⟨#[]⟩ ns its) (.agg #[.int .u8 5,.int .i64 0,.string ⟨#[]⟩,.slice an ns.length cn,.slice ai its.length ci]):=by
 obtain ⟨an,cn,ai,ci,h1,h2,h3⟩:=h.done
 refine ⟨an,cn,ai,ci,h1,h2,h3,fun k n t an' ln cn' ai' li ci' e i hi=>?_⟩
 simp only [Value.agg.injEq,Array.mk.injEq,List.cons.injEq,Value.slice.injEq,and_true] at e
 obtain ⟨-,-,-,-,rfl,rfl,rfl⟩:=e
 replace hi:i<its.length:=hi
 obtain ⟨lo,hi2,an2,cn2,ai2,ci2,k1,k2,k3,e0,e1',e2,e3,e4,hr⟩:=h.reps.2 i hi
 rcases h.items.2 with ⟨hv,h0⟩|⟨g,cap,cur,hv,hg,hh,hc,hm,hz,ht⟩
 · exact absurd hi (by omega)
 · rw [h2] at hv
   simp only [Value.slice.injEq] at hv
   obtain ⟨rfl,-,rfl⟩:=hv
   refine ⟨g,lo,hi2,an2,cn2,ai2,ci2,rfl,hg,qx hh,?_,k1,k2,k3 g (.inr (.inr (by rw [h2];rfl))),hr⟩
   have hc2:wr.cell? ⟨g,i * 5+4,none⟩=cur[i * 5+4]?:=by simp [World.cell?,hh]
   rw [hc2,show i * 5+4=5 * i+4 from by omega]
   have hl:cs.length=5 * its.length:=h.reps.1
   have e5:cs[5 * i+4]?=cur[5 * i+4]?:=by
    rw [← ht,List.getElem?_take,if_pos (by omega),Array.getElem?_toList]
   rw [← e5]
   exact e4
def gL (ns:List ByteArray) (its:List JV) (w:World) (e:Ending) (w':World):Prop :=
 ∃an cn ai ci,e=.returned (.tuple #[.agg #[.int .u8 5,.int .i64 0,.string ⟨#[]⟩,.slice an ns.length cn,.slice ai its.length ci],.int .i64 0]) ∧
  vq w' w.heap.size w'.heap.size (.mk 5 0 ⟨#[]⟩ ns its) (.agg #[.int .u8 5,.int .i64 0,.string ⟨#[]⟩,.slice an ns.length cn,.slice ai its.length ci])∧Below w.heap.size w w'
def pt (v:JV) (w:World) (e:Ending) (w':World):Prop :=
 ∃an cn ai ci,e=.returned (.agg #[.int .u8 5,.int .i64 0,.string ⟨#[]⟩,.slice an v.names.length cn,.slice ai v.items.length ci])∧vq w' w.heap.size w'.heap.size v (.agg #[.int .u8 5,.int .i64 0,.string ⟨#[]⟩,.slice an v.names.length cn,.slice ai v.items.length ci])∧Below w.heap.size w w'
def rg (r:JV × Int) (w:World) (e:Ending) (w':World):Prop :=
 ∃an cn ai ci,e=.returned (.tuple #[.agg #[.int .u8 r.1.kind,.int .i64 r.1.n,.string r.1.t,.slice an r.1.names.length cn,.slice ai r.1.items.length ci],.int .i64 r.2]) ∧
  vq w' w.heap.size w'.heap.size r.1 (.agg #[.int .u8 r.1.kind,.int .i64 r.1.n,.string r.1.t,.slice an r.1.names.length cn,.slice ai r.1.items.length ci])∧Below w.heap.size w w'
theorem uz {er:Int} {w:World} {e:Ending} {w':World} (hp:e=.returned (.tuple #[.agg #[.int .u8 0,.int .i64 0,.string ⟨#[]⟩,.slice none 0 0,.slice none 0 0],.int .i64 er])∧Below w.heap.size w w'):rg (zx,er) w e w' :=
 ⟨none,0,none,0,hp.1,⟨kQ _ _ _,fun _ _ _ _ _ _ _ _ _ _ i h=>absurd h (by simp [zx,JV.items])⟩,hp.2⟩
end Go.Proofs.YthgembbgcbaghaaGreatDoor
