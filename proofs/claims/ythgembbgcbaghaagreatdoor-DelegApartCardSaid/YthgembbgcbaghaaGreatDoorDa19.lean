/- The contract of legateref08.Same: equal in all parts. -/
import Derived.Test.YthgembbgcbaghaaGreatDoorDa18
import Derived.StillTailTactics

namespace Go.Proofs.YthgembbgcbaghaaGreatDoor
open Go.RowKit
theorem uj:∀ {ns:List ByteArray} {xs:List JV} {y:ByteArray} {x:JV},qC ns xs y=some x→x.wt≤JV.wts xs
 | n :: ns,z :: xs,y,x,h=>by
  rw [qC] at h
  simp only [JV.wts]
  split at h
  · injection h with h;subst h;omega
  · have:=uj h;omega
theorem gE {v:JV} {y:ByteArray} {most:Nat} {st:PS} (h:v.wt≤4294967296):(qr v y most st).1.wt≤4294967296:=by
 have hz:zx.wt≤4294967296:=by decide
 have h2:=v.wt_bd
 unfold qr
 split
 · exact hz
 · split
   · exact hz
   · rename_i it hit
     have:=uj (show qC v.names v.items y=some it from hit)
     split
     · exact hz
     · split
       · exact hz
       · show it.wt≤_;omega
theorem fp {α:Type} {l m:List α} {k:Nat} (h:k<l.length) (h':k<m.length) (e:l.take k=m.take k) (e2:l[k]=m[k]):l.take (k+1)=m.take (k+1):=by
 rw [List.take_succ_eq_append_getElem h,List.take_succ_eq_append_getElem h',e,e2]
set_option maxRecDepth 100000 in
set_option maxHeartbeats 2000000 in
theorem su (N:Nat):∀(v u:JV) (x y:Value) (lo hi:Nat) (w:World),v.wt≤N→u.wt≤4294967296→N≤4294967296→hi≤w.heap.size→Rep w lo hi v x→Rep w lo hi u y →
 Calls Tryz.prog 39 #[x,y] w fun e w'=>e=.returned (.bool (v.sameB u))∧Below w.heap.size w w':=by
 induction N with
 | zero=>intro v u x y lo hi w h;have:=v.wt_pos;omega
 | succ N ih =>
  intro v u x y lo hi w hN hU hM hhi hR hS
  have IH:=Lh ih
  clear ih
  obtain ⟨an,cn,ai,ci,rfl,_,_,h3,h4⟩:=hR.parts
  obtain ⟨an',cn',ai',ci',rfl,_,_,h3',h4'⟩:=hS.parts
  have HEQ:=Lh (v.sameB_eq u)
  obtain ⟨b1,b2,b3,b4⟩:=v.wt_bd
  obtain ⟨d1,d2,d3,d4⟩:=u.wt_bd
  have H3:=Lh h3
  have H4:=Lh h4
  have H3':=Lh h3'
  have H4':=Lh h4'
  clear h3 h4 h3' h4' hR hS
  have HB0:=Lh (show Below w.heap.size w ((w.alloc (.cells #[.int .u8 v.kind,.int .i64 v.n,.string v.t,.slice an v.names.length cn,.slice ai v.items.length ci] 25)).alloc (.cells #[.int .u8 u.kind,.int .i64 u.n,.string u.t,.slice an' u.names.length cn',.slice ai' u.items.length ci'] 25)) from ((Below.refl _ _).alloc lz _).alloc (by simp) _)
  by_cases hk:v.kind=u.kind
  case neg =>
   have t1:(v.kind == u.kind)=false:=by simpa using hk
   have t2:(v.kind != u.kind)=true:=by simpa using hk
   rw [decide_eq_false hk] at HEQ
   clear hk
   go_enter Tryz.func39,Tryz.ntmps39
   go_wp2
   go_ret
   exact ⟨by rw [HEQ.out];rfl,HB0.out⟩
  have t1:(v.kind != u.kind)=false:=by simpa using hk
  have HK:=Lh hk
  rw [decide_eq_true hk] at HEQ
  clear hk
  by_cases hn:v.n=u.n
  case neg =>
   have t3:(v.n != u.n)=true:=by simpa using hn
   rw [decide_eq_false hn] at HEQ
   clear hn
   go_enter Tryz.func39,Tryz.ntmps39
   go_wp2
   go_ret
   exact ⟨by rw [HEQ.out];rfl,HB0.out⟩
  have t2:(v.n != u.n)=false:=by simpa using hn
  rw [decide_eq_true hn] at HEQ
  clear hn
  by_cases ht:v.t=u.t
  case neg =>
   have t3:(v.t.toList == u.t.toList)=false:=beq_eq_false_iff_ne.2 (fun e=>ht (gw e))
   have t4:(v.t.toList != u.t.toList)=true:=bne_iff_ne.2 (fun e=>ht (gw e))
   rw [decide_eq_false ht] at HEQ
   clear ht
   go_enter Tryz.func39,Tryz.ntmps39
   go_wp2
   go_ret
   exact ⟨by rw [HEQ.out];rfl,HB0.out⟩
  have t3:(v.t.toList == u.t.toList)=true:=by rw [ht];simp
  have t4:(v.t.toList != u.t.toList)=false:=by rw [ht];simp
  rw [decide_eq_true ht] at HEQ
  clear ht
  by_cases hm:v.names.length=u.names.length
  case neg =>
   have t5:((v.names.length:Int) != (u.names.length:Int))=true:=by rw [bne_iff_ne];omega
   have t6:(v.names.length != u.names.length)=true:=by rw [bne_iff_ne];omega
   rw [decide_eq_false (fun e:v.names=u.names=>hm (by rw [e]))] at HEQ
   clear hm
   go_enter Tryz.func39,Tryz.ntmps39
   go_wp2
   go_ret
   exact ⟨by rw [HEQ.out];rfl,HB0.out⟩
  by_cases hl:v.items.length=u.items.length
  case neg =>
   have t5:((v.items.length:Int) != (u.items.length:Int))=true:=by rw [bne_iff_ne];omega
   have t6:(v.items.length != u.items.length)=true:=by rw [bne_iff_ne];omega
   have t7:((v.names.length:Int) != (u.names.length:Int))=false:=by rw [bne_eq_false_iff_eq];omega
   have t8:(v.names.length != u.names.length)=false:=by rw [bne_eq_false_iff_eq];omega
   rw [decide_eq_false hl] at HEQ
   clear hl hm
   go_enter Tryz.func39,Tryz.ntmps39
   go_wp2
   go_ret
   exact ⟨by rw [HEQ.out];simp,HB0.out⟩
  rw [decide_eq_true hl] at HEQ
  simp only [Bool.true_and] at HEQ
  rw [← hl,← hm]
  obtain ⟨ni,hni⟩:∃ni,ni=v.items.length:=⟨_,rfl⟩
  obtain ⟨nn,hnn⟩:∃nn,nn=v.names.length:=⟨_,rfl⟩
  rw [← hni,← hnn]
  rw [← hni] at b3
  rw [← hnn] at b2
  have HNI:=Lh hni
  have HNU:=Lh (show u.items.length=ni by rw [hni,hl])
  have HNN:=Lh hnn
  have HNM:=Lh (show u.names.length=nn by rw [hnn,hm])
  clear hl hni hm hnn HB0
  have hx0:((w.alloc (.cells #[.int .u8 v.kind,.int .i64 v.n,.string v.t,.slice an nn cn,.slice ai ni ci] 25)).alloc (.cells #[.int .u8 u.kind,.int .i64 u.n,.string u.t,.slice an' nn cn',.slice ai' ni ci'] 25)).heap[w.heap.size]?=some (.cells #[.int .u8 v.kind,.int .i64 v.n,.string v.t,.slice an nn cn,.slice ai ni ci] 25 (0,0)):=(Below.heap_alloc _ _ _ (by simp)).trans (heap_alloc_new w _)
  have hy0:((w.alloc (.cells #[.int .u8 v.kind,.int .i64 v.n,.string v.t,.slice an nn cn,.slice ai ni ci] 25)).alloc (.cells #[.int .u8 u.kind,.int .i64 u.n,.string u.t,.slice an' nn cn',.slice ai' ni ci'] 25)).heap[w.heap.size+1]?=some (.cells #[.int .u8 u.kind,.int .i64 u.n,.string u.t,.slice an' nn cn',.slice ai' ni ci'] 25 (0,0)):=by
   have:=heap_alloc_new (w.alloc (.cells #[.int .u8 v.kind,.int .i64 v.n,.string v.t,.slice an nn cn,.slice ai ni ci] 25)) (.cells #[.int .u8 u.kind,.int .i64 u.n,.string u.t,.slice an' nn cn',.slice ai' ni ci'] 25)
   rwa [show (w.alloc (.cells #[.int .u8 v.kind,.int .i64 v.n,.string v.t,.slice an nn cn,.slice ai ni ci] 25)).heap.size=w.heap.size+1 by simp] at this
  have HB0:=Lh (show Below w.heap.size w ((w.alloc (.cells #[.int .u8 v.kind,.int .i64 v.n,.string v.t,.slice an nn cn,.slice ai ni ci] 25)).alloc (.cells #[.int .u8 u.kind,.int .i64 u.n,.string u.t,.slice an' nn cn',.slice ai' ni ci'] 25)) from ((Below.refl _ _).alloc lz _).alloc (by simp) _)
  have HX0:=Lh hx0
  have HY0:=Lh hy0
  clear hx0 hy0
  -- what each later world gives
  have HW:=Lh (show ∀w':World,Below (w.heap.size+2) ((w.alloc (.cells #[.int .u8 v.kind,.int .i64 v.n,.string v.t,.slice an nn cn,.slice ai ni ci] 25)).alloc (.cells #[.int .u8 u.kind,.int .i64 u.n,.string u.t,.slice an' nn cn',.slice ai' ni ci'] 25)) w' →
   Below w.heap.size w w'∧w.heap.size+2≤w'.heap.size∧w'.cell? ⟨w.heap.size,3,none⟩=some (.slice an nn cn)∧w'.cell? ⟨w.heap.size,4,none⟩=some (.slice ai ni ci)∧w'.cell? ⟨w.heap.size+1,3,none⟩=some (.slice an' nn cn')∧w'.cell? ⟨w.heap.size+1,4,none⟩=some (.slice ai' ni ci') from fun w' h=>by
   have hx:w'.heap[w.heap.size]?=_:=(h.block _ (by omega)).trans HX0.out
   have hy:w'.heap[w.heap.size+1]?=_:=(h.block _ (by omega)).trans HY0.out
   exact ⟨HB0.out.trans (h.mono (by omega)),by have:=h.size;simpa using this,qq hx rfl,qq hx rfl,qq hy rfl,qq hy rfl⟩)
  go_enter Tryz.func39,Tryz.ntmps39
  go_wp2
  clear t1 t2 t3 t4
  go_loopw [5] (fun i wr=>∃k:Nat,k≤nn∧i=.int .i64 k∧v.names.take k=u.names.take k∧Below (w.heap.size+2) ((w.alloc (.cells #[.int .u8 v.kind,.int .i64 v.n,.string v.t,.slice an nn cn,.slice ai ni ci] 25)).alloc (.cells #[.int .u8 u.kind,.int .i64 u.n,.string u.t,.slice an' nn cn',.slice ai' ni ci'] 25)) wr) (fun i _=>nn - (intOf i).toNat)
  case atStart=>exact ⟨0,by omega,rfl,by simp,Below.refl _ _⟩
  case round =>
   obtain ⟨k,hk,rfl,hall,hbel⟩:=hrel
   obtain ⟨hbw,hz,c3,c4,d3',d4'⟩:=HW.out wr hbel
   have HA:=Lh hall
   have HB:=Lh hbel
   have HBW:=Lh hbw
   clear hall hbel hbw
   by_cases hlt:k<nn
   · have hl1:k<v.names.length:=by rw [← HNN.out];exact hlt
     have hl2:k<u.names.length:=by rw [HNM.out];exact hlt
     obtain ⟨p,f,rfl,_,_,y1⟩:=(H3.out.below HBW.out hhi lz lz).at k hl1
     obtain ⟨p',f',rfl,_,_,y2⟩:=(H3'.out.below HBW.out hhi lz lz).at k hl2
     have g1:0≤(k:Int):=by omega
     have g2:(k:Int)<(nn:Int):=by omega
     by_cases he:v.names[k]=u.names[k]
     · have HF:=Lh (fp hl1 hl2 HA.out he)
       have t1:(v.names[k].toList == u.names[k].toList)=true:=by rw [he];simp
       have t2:(v.names[k].toList != u.names[k].toList)=false:=by rw [he];simp
       clear he
       generalize v.names[k]=na at *
       generalize u.names[k]=nb at *
       go_wp2_with fail
       go_quiet (fail)
       go_wp2
       go_roundw
       case rel=>exact ⟨k+1,by omega,by go_num,HF.out,Below.drewN HB.out _⟩
       case measure=>simp [intOf];omega
     · have HF:=Lh (show decide (v.names=u.names)=false from decide_eq_false (fun e=>he (by simp only [e])))
       have t1:(v.names[k].toList == u.names[k].toList)=false:=beq_eq_false_iff_ne.2 (fun e=>he (gw e))
       have t2:(v.names[k].toList != u.names[k].toList)=true:=bne_iff_ne.2 (fun e=>he (gw e))
       clear he
       generalize v.names[k]=na at *
       generalize u.names[k]=nb at *
       go_wp2_with fail
       go_quiet (fail)
       go_wp2
       go_ret
       exact ⟨by rw [HEQ.out,HF.out];rfl,Below.drewN HBW.out _⟩
   · have HNE:=Lh (show v.names=u.names by
      have:=HA.out;rwa [List.take_of_length_le (by rw [← HNN.out];omega),List.take_of_length_le (by rw [HNM.out];omega)] at this)
     rw [decide_eq_true HNE.out,Bool.true_and] at HEQ
     obtain ⟨k1,rfl⟩:∃k1:Nat,k1=k:=⟨_,rfl⟩
     obtain ⟨wa,rfl⟩:∃wa:World,wa=wr:=⟨_,rfl⟩
     go_wp2
     clear c3 c4 d3' d4'
     go_loopw [6] (fun i wr=>∃k:Nat,k≤ni∧i=.int .i64 k∧JV.sameL (v.items.take k) (u.items.take k)=true∧Below (w.heap.size+2) ((w.alloc (.cells #[.int .u8 v.kind,.int .i64 v.n,.string v.t,.slice an nn cn,.slice ai ni ci] 25)).alloc (.cells #[.int .u8 u.kind,.int .i64 u.n,.string u.t,.slice an' nn cn',.slice ai' ni ci'] 25)) wr) (fun i _=>ni - (intOf i).toNat)
     case atStart=>exact ⟨0,by omega,rfl,by simp [JV.sameL],HB.out⟩
     case round =>
      clear HA HB HBW hz
      obtain ⟨k,hk2,rfl,hall,hbel⟩:=hrel
      obtain ⟨hbw,hz,c3,c4,d3',d4'⟩:=HW.out wr hbel
      have HA:=Lh hall
      have HB:=Lh hbel
      have HBW:=Lh hbw
      clear hall hbel hbw c3 d3'
      by_cases hlt2:k<ni
      · have hltv:k<v.items.length:=by rw [← HNI.out];exact hlt2
        have hltu:k<u.items.length:=by rw [HNU.out];exact hlt2
        obtain ⟨p,f,e0,e1,e2,e3,e4,rfl,_,_,g0,g1,g2,g3,g4,hr⟩:=(H4.out.below HBW.out hhi lz lz).at k hltv
        obtain ⟨p',f',e0',e1',e2',e3',e4',rfl,_,_,g0',g1',g2',g3',g4',hr'⟩:=(H4'.out.below HBW.out hhi lz lz).at k hltu
        have hw1:=JV.wts_get v.items k hltv
        have hw2:=JV.wts_get u.items k hltu
        have HTK:=Lh (JV.sameL_take v.items u.items k hltv hltu)
        have HTB:=Lh (JV.sameL_bad v.items u.items k hltv hltu)
        have HC:=Lh (IH.out v.items[k] u.items[k] _ _ lo hi wr.drew (by omega) (by omega) (by omega) (by show hi≤wr.heap.size;omega) (Rep.carry (w:=wr) (w':=wr.drew) lz lz (fun _ _ _=>rfl) _ _ hr) (Rep.carry (w:=wr) (w':=wr.drew) lz lz (fun _ _ _=>rfl) _ _ hr'))
        clear hr hr'
        generalize v.items[k]=it at *
        generalize u.items[k]=jt at *
        have m1:0≤(k:Int):=by omega
        have m2:(k:Int)<(ni:Int):=by omega
        cases hsb:it.sameB jt
        · have HF:=Lh (HTB.out hsb)
          rw [hsb] at HC
          clear hsb
          go_wp2_with fail
          go_still_tail 10,(by kernel_rfl)
          go_wp2_with fail
          refine HC.out.mono ?_
          rintro e w5 ⟨rfl,hb5⟩
          have HB5:=Lh (HBW.out.drew.trans (hb5.mono (by show w.heap.size≤wr.heap.size;omega)))
          clear hb5 g0 g1 g2 g3 g4 g0' g1' g2' g3' g4' c4 d4'
          go_wp2
          go_ret
          exact ⟨by rw [HEQ.out,HF.out];rfl,HB5.out⟩
        · have HF:=Lh (show JV.sameL (v.items.take (k+1)) (u.items.take (k+1))=true by rw [HTK.out,HA.out,hsb];rfl)
          rw [hsb] at HC
          clear hsb
          go_wp2_with fail
          go_still_tail 10,(by kernel_rfl)
          go_wp2_with fail
          refine HC.out.mono ?_
          rintro e w5 ⟨rfl,hb5⟩
          have HB5:=Lh (HB.out.drew.trans (hb5.mono (by show w.heap.size+2≤wr.heap.size;omega)))
          clear hb5 g0 g1 g2 g3 g4 g0' g1' g2' g3' g4' c4 d4'
          go_wp2
          go_roundw
          case rel=>exact ⟨k+1,by omega,by go_num,HF.out,HB5.out⟩
          case measure=>simp [intOf];omega
      · have HF:=Lh (show JV.sameL v.items u.items=true by
         have:=HA.out;rwa [List.take_of_length_le (by rw [← HNI.out];omega),List.take_of_length_le (by rw [HNU.out];omega)] at this)
        go_wp2
        go_ret
        exact ⟨by rw [HEQ.out,HF.out];rfl,HBW.out⟩
end Go.Proofs.YthgembbgcbaghaaGreatDoor
