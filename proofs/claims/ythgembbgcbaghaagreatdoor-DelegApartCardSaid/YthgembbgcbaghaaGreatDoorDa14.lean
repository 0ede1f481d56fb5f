/- The contract of pick.ObjectOf: 12 members or fewer, whose names rise once they are sorted. -/
import Derived.Test.YthgembbgcbaghaaGreatDoorDa12

namespace Go.Proofs.YthgembbgcbaghaaGreatDoor
open Go.RowKit Go.Shelf Go.Sort
def wK (ns:List ByteArray) (its:List JV) (w:World) (e:Ending) (w':World):Prop :=
 ∃an cn ai ci,e=.returned (.tuple #[.agg #[.int .u8 5,.int .i64 0,.string ⟨#[]⟩,.slice an ns.length cn,.slice ai its.length ci],.int .i64 0]) ∧
  Rep w' w.heap.size w'.heap.size (.mk 5 0 ⟨#[]⟩ ns its) (.agg #[.int .u8 5,.int .i64 0,.string ⟨#[]⟩,.slice an ns.length cn,.slice ai its.length ci])∧Below w.heap.size w w'
theorem gy:(Tryz.prog.info? 9).map (fun i=>(i.zero,i.size,i.bytes))=some (some (.string ⟨#[]⟩),1,16):=by kernel_rfl
set_option maxRecDepth 100000 in
set_option maxHeartbeats 400000 in
theorem vF (d d':Array Mem) (its:List JV) (blk off cap:Nat) (w:World) (lo hi:Nat) (hH:HoldsK qV 6 w blk off d) (hblk:blk<w.heap.size) (h12:d.size≤4294967296) (hds:d'.size=d.size)
 (hs:∀g cap1 w1,HoldsK qV 6 w1 g 0 d→g<w1.heap.size→Calls Tryz.prog 206 #[.slice (some ⟨g,0,none⟩) d.size cap1,.func (.func 207) #[] #[]] w1 fun e w'=>e=.returned (.tuple #[])∧HoldsK qV 6 w' g 0 d'∧Touch (· = g) w1 w')
 (hl:d'.size=its.length) (hm:∀i (h:i<its.length),Rep w lo hi its[i] d'[i]!.val∧its[i].wt≤4294967296∧∀k (h':k<its[i].items.length),bD lo its[i].items[k])
 (hne:∀i,i+1<d'.size→d'[i]!.name≠d'[i+1]!.name) (hhi:hi≤w.heap.size) :
 Calls Tryz.prog 150 #[.slice (some ⟨blk,off,none⟩) d.size cap] w (wK (d'.toList.map (·.name)) its w):=by
 have HH:=Lh hH
 have HS:=Lh hs
 have HM:=Lh hm
 have HNE:=Lh hne
 clear hH hs hm hne
 go_enter Tryz.func150,Tryz.ntmps150
 go_wp2_with fail
 have hres:=qp w (.int .u8 0) (.int .i64 0) (.string ⟨#[]⟩) (.slice none 0 0) (.slice none 0 0) 25
 have HB0:=Lh (show Below w.heap.size w (w.alloc (.cells #[.int .u8 0,.int .i64 0,.string ⟨#[]⟩,.slice none 0 0,.slice none 0 0] 25)) from (Below.refl _ _).alloc lz _)
 have HC:=Lh (hF blk off cap d (w.alloc (.cells #[.int .u8 0,.int .i64 0,.string ⟨#[]⟩,.slice none 0 0,.slice none 0 0] 25)) (fun j hj=>by
  have:=HH.out j hj
  exact ⟨(qt _ hblk).trans this.1,by rw [HB0.out.frozen (by exact hblk)];exact this.2⟩) (by omega))
 refine HC.out.mono ?_
 clear HC
 rintro e w1 ⟨g,cap1,rfl,hg,hg1,hH1,hb1⟩
 have hg':w.heap.size<g:=by simp at hg;omega
 have hb01:Below w.heap.size w w1:=HB0.out.trans (hb1.mono (by simp))
 have hres1:=qj hb1 hres (by simp)
 have HSM:=Lh (HS.out g cap1 w1 hH1 hg1)
 clear hH1 hb1 hres
 go_wp2_with fail
 refine HSM.out.mono ?_
 clear HSM
 rintro e w2 ⟨rfl,hH2,ht2⟩
 have hz2:w1.heap.size≤w2.heap.size:=ht2.size
 have hb02:Below w.heap.size w w2:=hb01.trans (ht2.below (by omega) fun k hk e=>by omega)
 have hres2:=ht2.row hres1 (by omega)
 have HH2:=Lh hH2
 have HB2:=Lh hb02
 have HR2:=Lh hres2
 clear hH2 hb02 hres2 hres1 ht2 hb01 HB0
 obtain ⟨nd,hnd⟩:∃nd,nd=d.size:=⟨_,rfl⟩
 rw [← hnd]
 rw [← hnd] at hds h12
 have HND:=Lh hnd
 clear hnd
 go_wp2
 have HO:=Lh (show ObjAt (w2.alloc (.cells #[.int .u8 5,.int .i64 0,.string ⟨#[]⟩,.slice none 0 0,.slice none 0 0] 25)) (w2.alloc (.cells #[.int .u8 5,.int .i64 0,.string ⟨#[]⟩,.slice none 0 0,.slice none 0 0] 25)) w2.heap.size 25 9 25 (.slice none 0 0) (.slice none 0 0) [] [] [] from
  ⟨by simp,Touch.refl _ _,qp _ _ _ _ _ _ _,World.ownsRow_nil _ _ _ _,World.ownsRow_nil _ _ _ _,qM.nil _ _ _,fun b hb=>by simp [Value.ownBlock] at hb⟩)
 have hbw:Below w2.heap.size w2 (w2.alloc (.cells #[.int .u8 5,.int .i64 0,.string ⟨#[]⟩,.slice none 0 0,.slice none 0 0] 25)):=(Below.refl _ _).alloc lz _
 have HB3:=Lh (HB2.out.trans (hbw.mono (by omega)))
 have HR3:=Lh (qj hbw HR2.out (by omega))
 have HH3:=Lh (show HoldsK qV 6 (w2.alloc (.cells #[.int .u8 5,.int .i64 0,.string ⟨#[]⟩,.slice none 0 0,.slice none 0 0] 25)) g 0 d' from fun j hj=>by
  have:=HH2.out j hj
  exact ⟨(qt _ (by show g<_;omega)).trans this.1,by rw [hbw.frozen (by show g<_;omega)];exact this.2⟩)
 have hgc:g<w2.heap.size:=by omega
 have hwc:w.heap.size<w2.heap.size:=by omega
 clear HB2 HR2 HH2 hbw
 generalize (w2.alloc (.cells #[.int .u8 5,.int .i64 0,.string ⟨#[]⟩,.slice none 0 0,.slice none 0 0] 25))=W at HO HB3 HR3 HH3 ⊢
 clear hz2
 generalize w2.heap.size=cb at HO hgc hwc ⊢
 obtain ⟨i1,hi1,hy0,hy1,hy2⟩:=info_parts xv
 obtain ⟨i2,hi2,hx0,hx1,hx2⟩:=info_parts gy
 go_loopw [6,7,15] (fun _ _ i wr=>∃(k:Nat) (cs:List Value) (vn vi:Value),k≤nd∧i=.int .i64 k∧ObjAt W wr cb 25 9 25 vn vi ((d'.toList.map (·.name)).take k) (its.take k) cs) (fun _ _ i _=>nd - (intOf i).toNat)
 case atStart=>exact ⟨0,[],.slice none 0 0,.slice none 0 0,by omega,rfl,by simpa using HO.out⟩
 case round =>
  obtain ⟨k,cs,vn,vi,hk,rfl,hobj⟩:=hrel
  have HOB:=Lh hobj
  clear hobj
  by_cases hlt:k<nd
  · have hcz:W.heap.size≤wr.heap.size:=HOB.out.touch.size
    have hcw:=HOB.out.lt
    have hcell:∀i c,i<nd→c<6→wr.cell? ⟨g,i * 6+c,none⟩=some ((qV d'[i]!)[c]!):=fun i c hi hc=>by
     have:=HH3.out.cell (i:=i) (c:=c) (by omega) hc
     rw [HOB.out.touch.cell (show g<W.heap.size by omega) (show ¬g=cb by omega)]
     simpa using this.1
    have y0:=hcell k 0 hlt (by decide);have y1:=hcell k 1 hlt (by decide);have y2:=hcell k 2 hlt (by decide);have y3:=hcell k 3 hlt (by decide);have y4:=hcell k 4 hlt (by decide);have y5:=hcell k 5 hlt (by decide)
    have HCE:=Lh hcell
    clear hcell
    generalize hmk:d'[k]! = mk at y0 y1 y2 y3 y4 y5
    have HMK:=Lh hmk
    clear hmk
    simp only [qV,Nat.add_zero,List.getElem!_cons_zero,List.getElem!_cons_succ] at y0 y1 y2 y3 y4 y5
    rcases Nat.lt_or_ge 0 k with hk0|hk0
    case' inl =>
     have z0:=HCE.out (k - 1) 0 (by omega) (by decide)
     have HNK:=Lh (HNE.out (k - 1) (by omega))
     rw [show k - 1+1=k by omega,HMK.out] at HNK
     generalize d'[k - 1]! = mp at z0 HNK
     simp only [qV,Nat.add_zero,List.getElem!_cons_zero] at z0
     have i0:IntKind.i64.wrap ((k:Int) - 1)=(k:Int) - 1:=IntWalk.i64_in _ (by omega)
     have j0:0≤(k:Int) - 1:=by omega
     have j1:1≤(k:Int):=by omega
     have j2:(k:Int) - 1<(nd:Int):=by omega
     have t0:((k:Int) - 1).toNat=k - 1:=by omega
     have hd2:(mp.name.toList == mk.name.toList)=false:=by
      rw [ByteArray.toList_eq,ByteArray.toList_eq]
      cases hq:(mp.name.data.toList == mk.name.data.toList)
      · rfl
      · exact absurd (ByteArray.ext (Array.toList_inj.1 (eq_of_beq hq))) HNK.out
     have hgz:g<wr.heap.size:=by omega
     have hgz2:¬g=wr.heap.size:=by omega
     have z0':(wr.alloc (.cells #[.string mk.name,.int .u8 mk.k,.int .i64 mk.n,.string mk.t,.slice mk.an mk.nn mk.cn,.slice mk.ai mk.ni mk.ci] 169)).cell? ⟨g,(k - 1) * 6,none⟩=some (.string mp.name):=(qt _ hgz).trans z0
     have hdd:decide (0<k)=true:=by simpa using hk0
     go_wp2_with fail
     go_quiet (fail)
    case' inr =>
     have hdd:decide (0<k)=false:=by simp;omega
     go_wp2_with fail
     go_quiet (fail)
    all_goals
     have HW2:=Lh (show Below wr.heap.size wr ((wr.alloc (.cells #[.string mk.name,.int .u8 mk.k,.int .i64 mk.n,.string mk.t,.slice mk.an mk.nn mk.cn,.slice mk.ai mk.ni mk.ci] 169)).drewN nq) from Below.drewN ((Below.refl _ _).alloc lz _) _)
     have HO2:=Lh (HOB.out.below HW2.out)
     have HE2:=Lh (show ((wr.alloc (.cells #[.string mk.name,.int .u8 mk.k,.int .i64 mk.n,.string mk.t,.slice mk.an mk.nn mk.cn,.slice mk.ai mk.ni mk.ci] 169)).drewN nq).heap[wr.heap.size]?=some (.cells #[.string mk.name,.int .u8 mk.k,.int .i64 mk.n,.string mk.t,.slice mk.an mk.nn mk.cn,.slice mk.ai mk.ni mk.ci] 169 (0,0)) from heap_alloc_new wr _)
     have hz9:((wr.alloc (.cells #[.string mk.name,.int .u8 mk.k,.int .i64 mk.n,.string mk.t,.slice mk.an mk.nn mk.cn,.slice mk.ai mk.ni mk.ci] 169)).drewN nq).heap.size=wr.heap.size+1:=by simp
     generalize ((wr.alloc (.cells #[.string mk.name,.int .u8 mk.k,.int .i64 mk.n,.string mk.t,.slice mk.an mk.nn mk.cn,.slice mk.ai mk.ni mk.ci] 169)).drewN nq)=w5 at HW2 HO2 HE2 hz9 ⊢
     clear y0 y1 y2 y3 y4 y5
     have c3:w5.cell? ⟨cb,3,none⟩=some vn:=HO2.out.row.cell (by decide)
     have f3:w5.frozen? ⟨cb,3,none⟩=false:=HO2.out.row.frozen 3
     have m0:w5.cell? ⟨wr.heap.size,0,none⟩=some (.string mk.name):=by simp [World.cell?,HE2.out]
     have HLN:=Lh (show ((d'.toList.map (·.name)).take k).length=k by simp;omega)
     have HN:=Lh (show w5.ownsRow W.heap.size 9 1 vn k (((d'.toList.map (·.name)).take k).map .string) by have:=HO2.out.names;rwa [HLN.out] at this)
     have hw5:W.heap.size≤w5.heap.size:=HO2.out.touch.size
     have hcw5:cb<w5.heap.size:=HO2.out.row.lt
     have hnb:some cb≠vn.ownBlock:=fun e=>by have:=(HO2.out.names.lt _ e.symm).1;omega
     have HNW:=Lh (show some wr.heap.size≠vn.ownBlock from fun e=>by have:=(HOB.out.names.lt _ e.symm).2;omega)
     have HZ9:=Lh hz9
     clear hz9
     go_wp2_with (at_builtin;refine wpList_append_lies _ rfl (.tmp 35) (.tmp 38) 22 rfl W.heap.size 9 i2 _ 1 16 Tryz.underlying22 hi2 hx0 hx1 hx2 rfl (by decide) vn k (((d'.toList.map (·.name)).take k).map .string) rfl (HN.out.alloc _) ⟨w5.heap.size,0,none⟩ 1 1 [.string mk.name] rfl rfl (World.news_of_block (cs:=#[.string mk.name]) (t:=9) (fr:=(0,0)) (heap_alloc_new w5 _)) (by simp [Value.oneCell']) (by omega) (by unfold maxLen;omega) (by omega) (by simp;omega) (w5.heap.size+1) (by simp) ?_;intro g1 cap2 w6 hown6 hgrow6 hat6 hlt6;have c36:=qS hgrow6 hcw5 hnb c3;have f36:=qO hgrow6 hcw5 hnb f3;have HO6:=Lh hown6;have HG6:=Lh hgrow6;have HA6:=Lh hat6;clear hown6 hgrow6 hat6)
     have HO7:=Lh (show ObjAt W (w6.setCell ⟨cb,3,none⟩ (.slice (some ⟨g1,0,none⟩) (k+1) cap2)) cb 25 9 25 (.slice (some ⟨g1,0,none⟩) (k+1) cap2) vi ((d'.toList.map (·.name)).take k ++ [mk.name]) (its.take k) cs by
      have:=(HO2.out.below ((Below.refl _ _).alloc lz (.cells #[.string mk.name] 9))).name mk.name (g:=g1) (cap:=cap2) HG6.out (by rcases HA6.out with h|h;exact .inl h;exact .inr (by simp;omega)) (by rw [HLN.out];exact HO6.out)
      rwa [HLN.out] at this)
     have HE7:=Lh (show (w6.setCell ⟨cb,3,none⟩ (.slice (some ⟨g1,0,none⟩) (k+1) cap2)).heap[wr.heap.size]?=some (.cells #[.string mk.name,.int .u8 mk.k,.int .i64 mk.n,.string mk.t,.slice mk.an mk.nn mk.cn,.slice mk.ai mk.ni mk.ci] 169 (0,0)) by
      rw [Below.heap_setCell _ _ _ _ (show wr.heap.size≠cb by omega),HG6.out.block _ (by have:=HZ9.out;simp;omega) HNW.out,Below.heap_alloc _ _ _ (by have:=HZ9.out;omega)];exact HE2.out)
     clear HO6 HG6 HA6 HN HNW HO2 HE2 HW2 HZ9 c36 f36 c3 f3 m0 hnb hcw5 hw5 hlt6
     generalize (w6.setCell ⟨cb,3,none⟩ (.slice (some ⟨g1,0,none⟩) (k+1) cap2))=w7 at HO7 HE7 ⊢
     generalize (Value.slice (some ⟨g1,0,none⟩) (k+1) cap2)=vn7 at HO7 ⊢
     have c4:w7.cell? ⟨cb,4,none⟩=some vi:=HO7.out.row.cell (by decide)
     have f4:w7.frozen? ⟨cb,4,none⟩=false:=HO7.out.row.frozen 4
     have hz7:W.heap.size≤w7.heap.size:=HO7.out.touch.size
     have m1:w7.cell? ⟨wr.heap.size,1,none⟩=some (.int .u8 mk.k):=by simp [World.cell?,HE7.out]
     have m2:w7.cell? ⟨wr.heap.size,2,none⟩=some (.int .i64 mk.n):=by simp [World.cell?,HE7.out]
     have m3:w7.cell? ⟨wr.heap.size,3,none⟩=some (.string mk.t):=by simp [World.cell?,HE7.out]
     have m4:w7.cell? ⟨wr.heap.size,4,none⟩=some (.slice mk.an mk.nn mk.cn):=by simp [World.cell?,HE7.out]
     have m5:w7.cell? ⟨wr.heap.size,5,none⟩=some (.slice mk.ai mk.ni mk.ci):=by simp [World.cell?,HE7.out]
     have hki:k<its.length:=by omega
     obtain ⟨hrk,hwk,hsk⟩:=HM.out k hki
     rw [HMK.out] at hrk
     have HTI:=Lh (show its.take (k+1)=its.take k ++ [its[k]] from List.take_succ_eq_append_getElem hki)
     have HTN:=Lh (show (d'.toList.map (·.name)).take (k+1)=(d'.toList.map (·.name)).take k ++ [mk.name] by
      have hkd:k<d'.size:=by omega
      rw [List.take_succ_eq_append_getElem (by simpa using hkd),← HMK.out];simp [hkd])
     have HLI:=Lh (show (its.take k).length=k by simp;omega)
     generalize its[k]=it at hrk hwk hsk HTI
     have HBW:=Lh (show Below w.heap.size w w7 from HB3.out.trans (HO7.out.touch.below (by omega) fun j hj e=>by omega))
     have HI:=Lh (show w7.ownsRow W.heap.size 25 5 vi k cs by have:=HO7.out.items;rwa [HLI.out] at this)
     have hcz:cb<w7.heap.size:=HO7.out.row.lt
     have hnb:some cb≠vi.ownBlock:=fun e=>by have:=(HO7.out.items.lt _ e.symm).1;omega
     have HCI:=Lh (show Calls Tryz.prog 91 #[.agg #[.int .u8 mk.k,.int .i64 mk.n,.string mk.t,.slice mk.an mk.nn mk.cn,.slice mk.ai mk.ni mk.ci]] w7.drew (fun e w3=>∃an3 cn3 ai3 ci3,e=.returned (.agg #[.int .u8 it.kind,.int .i64 it.n,.string it.t,.slice an3 it.names.length cn3,.slice ai3 it.items.length ci3])∧Rep w3 w7.heap.size w3.heap.size it (.agg #[.int .u8 it.kind,.int .i64 it.n,.string it.t,.slice an3 it.names.length cn3,.slice ai3 it.items.length ci3])∧Below w7.heap.size w7 w3∧w7.heap.size≤w3.heap.size∧w3.cell? ⟨cb,4,none⟩=some vi∧w3.frozen? ⟨cb,4,none⟩=false∧w3.ownsRow W.heap.size 25 5 vi k cs) by
      refine (kq it _ w7.drew lo hi hwk (by have:=HBW.out.size;exact Nat.le_trans hhi this) (Rep.below (show Rep w lo hi it _ from hrk) (HBW.out.drew) hhi lz lz) hsk).mono ?_
      rintro e w3 ⟨an3,cn3,ai3,ci3,rfl,hr3,hb3⟩
      have hb4:Below w7.heap.size w7 w3:=(Below.refl _ _).drew.trans hb3
      exact ⟨an3,cn3,ai3,ci3,rfl,hr3,hb4,hb4.size,by rw [hb4.cell hcz];exact c4,by rw [hb4.frozen hcz];exact f4,qB HI.out hb4⟩)
     clear hrk hwk hsk HBW HI
     go_wp2_with fail
     go_region_law (first|(refine step_append_lies _ (by rfl) (.tmp 42) (.tmp 46) 23 (by rfl) W.heap.size 25 i1 _ 5 80 Tryz.underlying23 hi1 hy0 hy1 hy2 rfl (by omega) vi k cs (by rfl) (HO3.out.alloc _) ⟨w3.heap.size,0,none⟩ 1 1 (Array.toList #[.int .u8 it.kind,.int .i64 it.n,.string it.t,.slice an3 it.names.length cn3,.slice ai3 it.items.length ci3]) (by rfl) (by rfl) (World.news_of_block (cs:=#[.int .u8 it.kind,.int .i64 it.n,.string it.t,.slice an3 it.names.length cn3,.slice ai3 it.items.length ci3]) (t:=25) (fr:=(0,0)) (heap_alloc_new w3 _)) (by simp [Value.oneCell']) (by omega) (by unfold maxLen;omega) (by omega) (by simp;omega) (w3.heap.size+1) (by simp) ?_;intro g2 cap3 w4 hown4 hgrow4 hat4 hlt4;have c44:=qS hgrow4 hcz3 hnb c43;have f44:=qO hgrow4 hcz3 hnb f43;have HO4:=Lh hown4;have HG4:=Lh hgrow4;have HA4:=Lh hat4;clear hown4 hgrow4 hat4)|(go_simp;go_at_call 91;(with_reducible refine HCI.out.mono ?_);rintro e w3 ⟨an3,cn3,ai3,ci3,rfl,hr3,hb3,hz3,c43,f43,ho3⟩;have hcz3:cb<w3.heap.size:=Nat.lt_of_lt_of_le hcz hz3;have HO3:=Lh ho3;have HR3':=Lh hr3;have HB3':=Lh hb3;clear ho3 hr3 hb3))
     all_goals
      have HST:=Lh (show ObjAt W (w4.setCell ⟨cb,4,none⟩ (.slice (some ⟨g2,0,none⟩) (k+1) cap3)) cb 25 9 25 vn7 (.slice (some ⟨g2,0,none⟩) (k+1) cap3) ((d'.toList.map (·.name)).take (k+1)) (its.take (k+1)) _ by
       have:=HO7.out.item (it:=it) (lo:=w7.heap.size) (hi:=w3.heap.size) (g:=g2) (cap:=cap3) (HB3'.out.trans ((Below.refl _ _).alloc hz3 _)) lz (by simp) (HR3'.out.carry lz lz fun b _ hb=>Below.heap_alloc _ _ _ hb) HG4.out (by rcases HA4.out with h|h;exact .inl h;exact .inr (by simp;omega)) (by rw [HLI.out];exact HO4.out)
       rw [HLI.out,← HTI.out,← HTN.out] at this
       exact this)
      clear HO7 HB3' HR3' HG4 HA4 HO4 HO3 HCI HTI HTN HLI c4 f4 m1 m2 m3 m4 m5 c43 f43 c44 f44 HE7
      go_wp2
      go_roundw
      case rel=>exact ⟨k+1,_,_,_,by omega,by go_num,HST.out⟩
      case measure=>simp [intOf];omega
  · obtain rfl:k=nd:=by omega
    have hn1:(d'.toList.map (·.name)).take k=d'.toList.map (·.name):=List.take_of_length_le (by simp;omega)
    have hn2:its.take k=its:=List.take_of_length_le (by omega)
    rw [hn1,hn2] at HOB
    have HLN:=Lh (show (d'.toList.map (·.name)).length=k by simp;omega)
    have HLI:=Lh (show its.length=k by omega)
    obtain ⟨an,cn,ai,ci,rfl,rfl,hrep⟩:=HOB.out.done
    have HRP:=Lh hrep
    have hrow:=HOB.out.row
    have hres:=HOB.out.touch.row HR3.out (by omega)
    have hcw:=HOB.out.lt
    have hz:=HOB.out.touch.size
    rw [HLN.out,HLI.out] at hrow
    obtain ⟨r0,r1,r2,r3,r4⟩:=rc5 hrow
    obtain ⟨t0,t1,t2,t3,t4⟩:=rc5 hres
    obtain ⟨s0,s1,s2,s3,s4⟩:=rf5 hres
    simp only [qQ] at r0 r1 r2 r3 r4 t0 t1 t2 t3 t4
    have HRS:=Lh hres
    have HBW:=Lh (show Below w.heap.size w wr from HB3.out.trans (HOB.out.touch.below (by omega) fun j hj e=>by omega))
    clear hrow hres hrep hn1 hn2 HOB
    go_wp2
    refine bodyPost_ret (qk Tryz.results150 _ _ w.heap.size 25 _ (0,0) _ rfl (qi (set5 _ _ _ _ _ HRS.out)) Tryz.underlying25 rfl (by kernel_rfl) _ rfl) rfl ⟨an,cn,ai,ci,?_,?_,q7 _ _ _ _ _ HBW.out lz⟩
    · rw [HLN.out,HLI.out];rfl
    · exact Rep.carry (by omega) (show wr.heap.size≤_ by simp [World.setCell]) (fun j hj _=>xr _ _ _ _ _ (by omega)) _ _ HRP.out
theorem fw (d d':Array Mem) (its:List JV) (blk off cap:Nat) (w:World) (lo hi:Nat) (hH:HoldsK qV 6 w blk off d) (hblk:blk<w.heap.size) (h12:d.size≤12) (hs:insertionSort (ltOf cfM) d 0 d.size=d')
 (hl:d'.size=its.length) (hm:∀i (h:i<its.length),Rep w lo hi its[i] d'[i]!.val∧its[i].wt≤4294967296∧∀k (h':k<its[i].items.length),bD lo its[i].items[k])
 (hne:∀i,i+1<d'.size→d'[i]!.name≠d'[i+1]!.name) (hhi:hi≤w.heap.size) :
 Calls Tryz.prog 150 #[.slice (some ⟨blk,off,none⟩) d.size cap] w (wK (d'.toList.map (·.name)) its w) :=
 vF d d' its blk off cap w lo hi hH hblk (by omega) (by rw [← hs];exact ji _ _ _ _) (fun g cap1 w1 hH1 hg1=>by
  have:=nI g 0 cap1 d w1 hH1 hg1 h12
  rw [hs] at this
  exact this) hl hm hne hhi
end Go.Proofs.YthgembbgcbaghaaGreatDoor
