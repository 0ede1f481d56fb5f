/- The law DelegApart: the call returns true. Printed by gendelegapart.py. -/
import Derived.Test.YthgembbgcbaghaaGreatDoorDa40
import Derived.Test.YthgembbgcbaghaaGreatDoorDa26

namespace Go.Proofs.YthgembbgcbaghaaGreatDoor
open Go.RowKit Go.Shelf Go.Sort
theorem gq {r:DelegsV} (h:qG r=true):z6 r=(qg r,0):=by unfold z6;rw [if_pos h]
theorem wy {path:ByteArray}:∀ {rs:List DelegV} {s:StepV},s ∈ xI runes path rs→∃x ∈ rs,s=mR x
 | [],s,h=>(by cases h)
 | y :: r,s,h=>by
  rw [xI] at h
  split at h
  · rcases List.mem_cons.1 h with h|h
    · exact ⟨y,List.mem_cons_self ..,h⟩
    · split at h
      · cases h
      · obtain ⟨x,hx,e⟩:=wy h
        exact ⟨x,List.mem_cons_of_mem _ hx,e⟩
  · obtain ⟨x,hx,e⟩:=wy h
    exact ⟨x,List.mem_cons_of_mem _ hx,e⟩
theorem p6 {path:ByteArray}:∀ {rs:List DelegV},(xI runes path rs).length≤rs.length
 | []=>Nat.le_refl _
 | y :: r=>by
  rw [xI]
  have:=p6 (path:=path) (rs:=r)
  split
  · split
    · simp
    · simp only [List.length_cons];omega
  · simp only [List.length_cons];omega
theorem my {d:DelegsV} {path:ByteArray} (hf:DelegsFits d):(xg runes d path).length≤70∧∀s ∈ xg runes d path,s.au.ids.length≤4294967296:=by
 unfold xg
 split
 · split
   · refine ⟨Nat.le_trans p6 hf.many,fun s hs=>?_⟩
     obtain ⟨x,hx,rfl⟩:=wy hs
     exact (hf.roles x hx).au.2.1
   · refine ⟨by simp,fun s hs=>?_⟩
     rw [List.mem_singleton] at hs
     rw [hs]
     exact hf.au.2.1
 · exact ⟨by simp,fun s hs=>(by cases hs)⟩
theorem kR (d:DelegsV):(qg d).names=if zg d.bins then [keysN,z7] else [keysN,zA]:=by
 show (qF d).map (·.1)=_
 unfold qF
 split <;> rfl
theorem fP (d:DelegsV):qe (qg d).names=true:=by
 rw [kR]
 split <;> kernel_rfl
theorem xU (d:DelegsV):(qg d).names.length=2∧(qg d).items.length=2:=by
 show ((qF d).map (·.1)).length=2∧((qF d).map (·.2)).length=2
 unfold qF
 split <;> exact ⟨rfl,rfl⟩
theorem fF {d:DelegsV} (h:qG d=true):∀i (hi:i<(qg d).items.length),(qg d).items[i].items.length≤64:=by
 rw [q9,zB,Bool.and_eq_true] at h
 obtain ⟨hk,h⟩:=h
 have h2:=(qA.1 hk).1
 have hall:∀x ∈ (qg d).items,x.items.length≤64:=fun x hx=>by
  have hx:x ∈ (qF d).map (·.2):=hx
  unfold qF at hx
  cases hb:zg d.bins with
  | true =>
   rw [hb,if_pos rfl] at hx h
   unfold zq at h
   simp only [Bool.and_eq_true,decide_eq_true_eq] at h
   simp only [List.map_cons,List.map_nil,List.mem_cons,List.not_mem_nil,or_false] at hx
   rcases hx with rfl|rfl
   · show (d.keys.map _).length≤64
     rw [List.length_map];omega
   · show (d.roles.map qb).length≤64
     rw [List.length_map];omega
  | false =>
   rw [hb,if_neg (by decide)] at hx
   simp only [List.map_cons,List.map_nil,List.mem_cons,List.not_mem_nil,or_false] at hx
   rcases hx with rfl|rfl
   · show (d.keys.map _).length≤64
     rw [List.length_map];omega
   · show (bk d.bins |>.map (·.2)).length≤64
     exact (show 4≤64 by decide)
 exact fun i hi=>hall _ (List.getElem_mem hi)
theorem lM (d:DelegsV) (x:Value) (w:World) (lo:Nat) (hlo:0<lo) (hm:qG d=true) (hV:Rep w lo w.heap.size (qg d) x) :
 Calls Tryz.prog 38 #[x,.string ⟨#[107,101,121,115]⟩] w fun e w'=>∃an cn ai ci,e=.returned (.tuple #[.agg #[.int .u8 5,.int .i64 0,.string ⟨#[]⟩,.slice an d.keys.length cn,.slice ai d.keys.length ci],.bool true]) ∧
  Rep w' w.heap.size w'.heap.size (qT d.keys) (.agg #[.int .u8 5,.int .i64 0,.string ⟨#[]⟩,.slice an d.keys.length cn,.slice ai d.keys.length ci])∧Below w.heap.size w w':=by
 refine (xS (qg d) keysN x w lo w.heap.size (wv (by rw [← q9];exact hm)) hlo lz hV rfl (fP d) (by rw [(xU d).1,(xU d).2])).mono ?_
 rintro e w' ⟨h|h,hb⟩
 · obtain ⟨q,h1,h2,h3,an,cn,ai,ci,h4,h5⟩:=h
   have hq:(qg d).items[q]=qT d.keys:=by
    have h0:q=0:=by
     have hl:=(xU d).1
     rcases q with _|_|q
     · rfl
     · exfalso
       have e:=kR d
       have h3':(qg d).names[1]=keysN:=h3
       simp only [e] at h3'
       split at h3'
       · exact absurd (show z7=keysN from h3') (by decide)
       · exact absurd (show zA=keysN from h3') (by decide)
     · omega
    subst h0
    rfl
   rw [hq] at h4 h5
   have e1:(qT d.keys).names.length=d.keys.length:=List.length_map ..
   have e2:(qT d.keys).items.length=d.keys.length:=List.length_map ..
   rw [e1,e2] at h4 h5
   exact ⟨an,cn,ai,ci,h4,h5,hb⟩
 · exfalso
   have e:=kR d
   have h1:=h.1 0 (by rw [(xU d).1];decide)
   apply h1
   simp only [e]
   split <;> rfl
theorem xE {w n:World} {b:Nat} {o:Obj} (h:n=w.alloc o) (hb:b=w.heap.size):n.heap[b]?=some o:=by rw [h,hb];exact heap_alloc_new w _
theorem nC {w:World} {b T:Nat} {a0 a1 a2 a3 a4:Value} (h:w.heap[b]?=some (.cells #[a0,a1,a2,a3,a4] T (0,0))):w.cell? ⟨b,0,none⟩=some a0∧w.cell? ⟨b,1,none⟩=some a1∧w.cell? ⟨b,2,none⟩=some a2∧w.cell? ⟨b,3,none⟩=some a3∧w.cell? ⟨b,4,none⟩=some a4:=⟨qq h rfl,qq h rfl,qq h rfl,qq h rfl,qq h rfl⟩
theorem bC {w:World} {b T:Nat} {a0 a1 a2 a3 a4 a5:Value} (h:w.heap[b]?=some (.cells #[a0,a1,a2,a3,a4,a5] T (0,0))):w.cell? ⟨b,0,none⟩=some a0∧w.cell? ⟨b,1,none⟩=some a1∧w.cell? ⟨b,2,none⟩=some a2∧w.cell? ⟨b,3,none⟩=some a3∧w.cell? ⟨b,4,none⟩=some a4∧w.cell? ⟨b,5,none⟩=some a5:=⟨qq h rfl,qq h rfl,qq h rfl,qq h rfl,qq h rfl,qq h rfl⟩
set_option maxHeartbeats 8000000 in
set_option maxRecDepth 100000 in
theorem pj (l:List Key2) (rs:List DelegV) (t bits:Int) (ids:List ByteArray) (pre path:ByteArray) (ka ra ba:Option Addr) (kc rc bc:Nat) (w:World) (G:DelegsGot w ⟨l,rs,⟨bits,pre,⟨t,ids⟩⟩⟩ ka ra ba kc rc bc) (hT:Tabs w) :
 Calls Tryz.prog 8 #[.agg #[.slice ka l.length kc,.slice ra rs.length rc,.int .i64 t,.slice ba ids.length bc,.int .i64 bits,.string pre],.string path] w fun e w'=>e=.returned (.bool true)∧Below w.heap.size w w':=by
 have HTB:=Lh (show ∀w':World,Below w.heap.size w w'→Tabs w' from fun w' h=>hT.below h)
 have HB:=Lh (Below.refl w.heap.size w)
 have HZ0:=Lh (show 0<w.heap.size from Nat.lt_of_le_of_lt (Nat.zero_le _) hT.l1)
 have HI:=Lh G.rows
 have HIB:=Lh (show ∀w':World,Below w.heap.size w w'→DelegsIn w' 0 w'.heap.size ⟨l,rs,⟨bits,pre,⟨t,ids⟩⟩⟩ ka ra ba from fun w' h=>G.rows.below h lz lz h.size)
 have HRC:=Lh (show rs.length≤rc from G.cr)
 have HFT:=Lh (show NotLongD ⟨l,rs,⟨bits,pre,⟨t,ids⟩⟩⟩→DelegsFits ⟨l,rs,⟨bits,pre,⟨t,ids⟩⟩⟩ from fun h=>gv h G.bits G.thr (fun x hx=>(G.each x hx).1))
 have HGL:=Lh (show l.length≤9223372036854775807∧rs.length≤9223372036854775807∧(∀x ∈ rs,Lens x)∧ids.length≤9223372036854775807 from ⟨G.lk,G.lr,(fun x hx=>⟨(G.each x hx).2.2.1,(G.each x hx).2.2.2.1,(G.each x hx).2.2.2.2⟩),G.lb⟩)
 clear hT G
 go_enter Tryz.func8,Tryz.ntmps8
 obtain ⟨bR,hbR⟩:∃bR,bR=w.heap.size:=⟨_,rfl⟩
 obtain ⟨w1,hw1⟩:∃w1,w1=w.alloc (.cells #[.slice ka l.length kc,.slice ra rs.length rc,.int .i64 t,.slice ba ids.length bc,.int .i64 bits,.string pre] 35):=⟨_,rfl⟩
 have hbx:Below w.heap.size w w1:=by rw [hw1];exact (Below.refl _ _).alloc lz _
 have HXR:=Lh (xE hw1 hbR)
 replace HB:=Lh (HB.out.trans (hbx.mono HB.out.size))
 replace HI:=Lh (HI.out.below hbx lz lz hbx.size)
 have Hw1:=Lh (And.intro hw1 hbR)
 clear hbx hw1 hbR
 have HBR:=Lh (show bR=w.heap.size∧w.heap.size<w1.heap.size from ⟨Hw1.out.2,by have:=qx HXR.out;rw [← Hw1.out.2];exact this⟩)
 go_upto_region 1 with fail
 rw [← Hw1.out.1,← Hw1.out.2]
 clear Hw1
 obtain ⟨xR0,xR1,xR2,xR3,xR4,xR5⟩:=bC HXR.out
 go_wp2_with fail
 refine (dA l rs t bits ids pre ka ra ba kc rc bc w1 HI.out HGL.out.1 HGL.out.2.1 HGL.out.2.2.1 HGL.out.2.2.2).mono ?_
 clear xR0 xR1 xR2 xR3 xR4 xR5
 rintro ee w3 ⟨b,rfl,hn,hb⟩
 have HZ3:=Lh hb.size
 replace HB:=Lh (HB.out.trans (hb.mono HB.out.size))
 replace HXR:=Lh ((hb.block _ (qx HXR.out)).trans HXR.out)
 replace HI:=Lh (HI.out.below hb lz lz hb.size)
 have HN:=Lh hn
 clear hn hb
 cases b
 case true =>
  go_wp2_with fail
  refine (gd w3 (HTB.out w3 HB.out)).mono ?_
  rintro ee wz ⟨rfl,hz⟩
  have HBZ:=Lh (HB.out.trans (hz.mono HB.out.size))
  clear hz
  go_wp2
  go_ret
  exact ⟨rfl,HBZ.out⟩
 case false =>
  have HF:=Lh (HFT.out (HN.out rfl))
  clear HN HFT HGL
  by_cases hns:1000<path.size
  case pos =>
   have a1:decide ((1000:Int)<path.size)=true:=decide_eq_true (by omega)
   go_wp2_with fail
   refine (gd w3 (HTB.out w3 HB.out)).mono ?_
   rintro ee wz ⟨rfl,hz⟩
   have HBZ:=Lh (HB.out.trans (hz.mono HB.out.size))
   clear hz
   go_wp2
   go_ret
   exact ⟨rfl,HBZ.out⟩
  case neg =>
   have a1:decide ((1000:Int)<path.size)=false:=decide_eq_false (by omega)
   have HNS:=Lh (Nat.le_of_not_lt hns)
   clear hns
   obtain ⟨mb,hmb⟩:∃mb,mb=qG ⟨l,rs,⟨bits,pre,⟨t,ids⟩⟩⟩:=⟨_,rfl⟩
   have HMC:=Lh (vf l rs t bits ids pre ka ra ba kc rc bc w3 HI.out HF.out HRC.out (HTB.out w3 HB.out))
   rw [← hmb] at HMC
   have HMB:=Lh hmb
   clear hmb
   obtain ⟨xR0,xR1,xR2,xR3,xR4,xR5⟩:=bC HXR.out
   go_wp2_with fail
   refine (HMC.out).mono ?_
   clear xR0 xR1 xR2 xR3 xR4 xR5
   rintro ee w5 ⟨rfl,hb⟩
   have HZ5:=Lh hb.size
   replace HB:=Lh (HB.out.trans (hb.mono HB.out.size))
   replace HXR:=Lh ((hb.block _ (qx HXR.out)).trans HXR.out)
   replace HI:=Lh (HI.out.below hb lz lz hb.size)
   clear hb HMC
   cases mb
   case false =>
    go_wp2_with fail
    refine (gd w5 (HTB.out w5 HB.out)).mono ?_
    rintro ee wz ⟨rfl,hz⟩
    have HBZ:=Lh (HB.out.trans (hz.mono HB.out.size))
    clear hz
    go_wp2
    go_ret
    exact ⟨rfl,HBZ.out⟩
   case true =>
    go_wp2_with fail
    refine (gd w5 (HTB.out w5 HB.out)).mono ?_
    rintro ee w6 ⟨rfl,hb⟩
    have HZ6:=Lh (show w.heap.size<w6.heap.size from by have h1:=HBR.out.2;have h2:=HZ3.out;have h3:=HZ5.out;have h4:=hb.size;omega)
    replace HB:=Lh (HB.out.trans (hb.mono HB.out.size))
    replace HXR:=Lh ((hb.block _ (qx HXR.out)).trans HXR.out)
    replace HI:=Lh (HI.out.below hb lz lz hb.size)
    clear hb a1 HZ3 HZ5
    go_upto_region 3 with fail
    have HR0:=Lh (gq HMB.out.symm)
    obtain ⟨xR0,xR1,xR2,xR3,xR4,xR5⟩:=bC HXR.out
    go_wp2_with fail
    refine (mw l rs t bits ids pre ka ra ba kc rc bc w6 HI.out HF.out HRC.out (HTB.out w6 HB.out)).mono ?_
    clear xR0 xR1 xR2 xR3 xR4 xR5
    rintro ee w7 ⟨an,cn,ai,ci,h4,hr,hb⟩
    rw [HR0.out] at h4 hr
    dsimp only at h4 hr
    obtain ⟨J,hJ⟩:∃J,J=qg ⟨l,rs,⟨bits,pre,⟨t,ids⟩⟩⟩:=⟨_,rfl⟩
    rw [← hJ] at h4 hr
    have e1:J.names.length=2:=by rw [hJ];exact (xU _).1
    have e2:J.items.length=2:=by rw [hJ];exact (xU _).2
    have e3:J.kind=5∧J.n=0∧J.t=⟨#[]⟩:=by rw [hJ];exact ⟨rfl,rfl,rfl⟩
    rw [e1,e2,e3.1,e3.2.1,e3.2.2] at h4 hr
    have HE2:=Lh e2
    have HJE:=Lh hJ
    have HIS:=Lh (hr.2 _ _ _ _ _ _ _ _ _ rfl)
    subst h4
    have HZ7:=Lh hb.size
    clear hr hJ HR0 e1 e2 e3
    replace HB:=Lh (HB.out.trans (hb.mono HB.out.size))
    replace HXR:=Lh ((hb.block _ (qx HXR.out)).trans HXR.out)
    replace HI:=Lh (HI.out.below hb lz lz hb.size)
    clear hb
    obtain ⟨bV,hbV⟩:∃bV,bV=w7.heap.size:=⟨_,rfl⟩
    obtain ⟨w8,hw8⟩:∃w8,w8=w7.alloc (.cells #[.int .u8 5,.int .i64 0,.string ⟨#[]⟩,.slice an 2 cn,.slice ai 2 ci] 25):=⟨_,rfl⟩
    have hbx:Below w7.heap.size w7 w8:=by rw [hw8];exact (Below.refl _ _).alloc lz _
    have HXV:=Lh (xE hw8 hbV)
    replace HB:=Lh (HB.out.trans (hbx.mono HB.out.size))
    replace HXR:=Lh ((hbx.block _ (qx HXR.out)).trans HXR.out)
    replace HI:=Lh (HI.out.below hbx lz lz hbx.size)
    have Hw8:=Lh (And.intro hw8 hbV)
    clear hbx hw8 hbV
    have HBV:=Lh (show bV=w7.heap.size∧w7.heap.size<w8.heap.size∧Below w7.heap.size w7 w8 from ⟨Hw8.out.2,by have:=qx HXV.out;rw [← Hw8.out.2];exact this,by rw [Hw8.out.1];exact (Below.refl _ _).alloc lz _⟩)
    go_upto_region 4 with fail
    rw [← Hw8.out.1,← Hw8.out.2]
    clear Hw8
    have HMK:=Lh (show zj l=true from by have h:=HMB.out.symm;rw [q9,zB,Bool.and_eq_true] at h;exact h.1)
    obtain ⟨xR0,xR1,xR2,xR3,xR4,xR5⟩:=bC HXR.out
    go_wp2_with fail
    refine (yX l ka kc w8 HI.out.keys HMK.out (HTB.out w8 HB.out)).mono ?_
    clear xR0 xR1 xR2 xR3 xR4 xR5
    rintro ee w9 ⟨tn,tc,ti,td,h4,hr,hb⟩
    subst h4
    have HTR:=Lh hr
    have HZ9:=Lh (And.intro hb.size hb)
    replace HB:=Lh (HB.out.trans (hb.mono HB.out.size))
    replace HXR:=Lh ((hb.block _ (qx HXR.out)).trans HXR.out)
    replace HXV:=Lh ((hb.block _ (qx HXV.out)).trans HXV.out)
    replace HI:=Lh (HI.out.below hb lz lz hb.size)
    clear hb hr
    obtain ⟨bT,hbT⟩:∃bT,bT=w9.heap.size:=⟨_,rfl⟩
    obtain ⟨w10,hw10⟩:∃w10,w10=w9.alloc (.cells #[.int .u8 5,.int .i64 0,.string ⟨#[]⟩,.slice tn l.length tc,.slice ti l.length td] 25):=⟨_,rfl⟩
    have hbx:Below w9.heap.size w9 w10:=by rw [hw10];exact (Below.refl _ _).alloc lz _
    have HXT:=Lh (xE hw10 hbT)
    replace HB:=Lh (HB.out.trans (hbx.mono HB.out.size))
    replace HXR:=Lh ((hbx.block _ (qx HXR.out)).trans HXR.out)
    replace HXV:=Lh ((hbx.block _ (qx HXV.out)).trans HXV.out)
    replace HI:=Lh (HI.out.below hbx lz lz hbx.size)
    have Hw10:=Lh (And.intro hw10 hbT)
    clear hbx hw10 hbT
    have HBT:=Lh (show bT=w9.heap.size∧w9.heap.size<w10.heap.size∧Below w9.heap.size w9 w10 from ⟨Hw10.out.2,by have:=qx HXT.out;rw [← Hw10.out.2];exact this,by rw [Hw10.out.1];exact (Below.refl _ _).alloc lz _⟩)
    go_upto_region 5 with fail
    rw [← Hw10.out.1,← Hw10.out.2]
    clear Hw10
    go_upto_region 7 with fail
    obtain ⟨xR0,xR1,xR2,xR3,xR4,xR5⟩:=bC HXR.out
    have HFS:=Lh (my (d:=⟨l,rs,⟨bits,pre,⟨t,ids⟩⟩⟩) (path:=path) HF.out)
    go_wp2_with fail
    refine (pE l rs t bits ids pre path ka ra ba kc rc bc w10 HI.out HF.out HRC.out (by have:=HNS.out;omega) (HTB.out w10 HB.out)).mono ?_
    clear xR0 xR1 xR2 xR3 xR4 xR5
    rintro ee w11 ⟨a,c,qs,rfl,hqs,hown,hb11⟩
    obtain ⟨S,hS⟩:∃S,S=xg runes ⟨l,rs,⟨bits,pre,⟨t,ids⟩⟩⟩ path:=⟨_,rfl⟩
    rw [← hS] at hqs hown HFS ⊢
    obtain ⟨n,hn⟩:∃n,n=S.length:=⟨_,rfl⟩
    rw [← hn] at hown ⊢
    have h10:Below w7.heap.size w7 w10:=HBV.out.2.2.trans ((HZ9.out.2.mono (Nat.le_of_lt HBV.out.2.1)).trans (HBT.out.2.2.mono (Nat.le_trans (Nat.le_of_lt HBV.out.2.1) HZ9.out.1)))
    have hit:je w11 w6.heap.size w7.heap.size ai J.items:=HIS.out.carry lz lz (fun b _ hlt=>(h10.trans (hb11.mono h10.size)).block b hlt)
    have hl6:0<w6.heap.size:=Nat.lt_of_le_of_lt (Nat.zero_le _) HZ6.out
    have hsp:=r9 hown hqs hn hit HE2.out hl6 h10.size
    have HOK:=Lh (fun b o hc=>ap (b:=b) (o:=o) hown hqs hn hit HE2.out hl6 h10.size hc)
    obtain ⟨SP,hSP⟩:∃SP,SP=SS w6.heap.size w7.heap.size w10.heap.size:=⟨_,rfl⟩
    obtain ⟨CP,hCP⟩:∃CP,CP=SC w11 a ai n:=⟨_,rfl⟩
    obtain ⟨HP,hHP⟩:∃HP,HP=SH w11 a ai n:=⟨_,rfl⟩
    have HSTP:=Lh (show ∀j,j<n→∃g ia m ic,a=some ⟨g,0,none⟩∧m≤4294967296∧HP g (j * 4+2) (.slice ia m ic)∧∀q,q<m→∃b off,ia=some ⟨b,off,none⟩∧CP b (off+q) from fun j hj=>by
     have hjS:j<S.length:=by omega
     obtain ⟨g,ia,ic,lo,hi',ha,-,-,-,-,-,c2,-,-,-,-,-,hss⟩:=hown.at hqs j hjS
     refine ⟨g,ia,S[j].au.ids.length,ic,ha,HFS.out.2 _ (List.getElem_mem hjS),by rw [hHP];exact ⟨c2,.inl ⟨j,hj,ha,rfl⟩⟩,fun q hq=>?_⟩
     rcases hss.1 with e|⟨b,off,e,-⟩
     · rw [e] at hq;simp at hq
     · refine ⟨b,off,e,?_⟩
       rw [hCP]
       rw [e] at c2
       exact .inl ⟨j,g,off,q,_,ic,hj,ha,c2,hq,rfl⟩)
    have HITM:=Lh (show ∀i,i<2→∃g bi m bc,ai=some ⟨g,0,none⟩∧m≤64∧HP g (i * 5+4) (.slice bi m bc)∧∀q,q<m→∃b off,bi=some ⟨b,off,none⟩∧∀r,r<5→CP b (off+q * 5+r) from fun i hi=>by
     have hi2:i<J.items.length:=by rw [HE2.out];exact hi
     obtain ⟨g,l2,h2,an',cn',bi,ci',ha,-,-,kc,-,-,-,hrep⟩:=hit i hi2
     refine ⟨g,bi,J.items[i].items.length,ci',ha,?_,by rw [hHP];exact ⟨kc,.inr ⟨i,hi,ha,rfl⟩⟩,fun q hq=>?_⟩
     · have h:=fF (d:=⟨l,rs,⟨bits,pre,⟨t,ids⟩⟩⟩) HMB.out.symm
       rw [← HJE.out] at h
       exact h i hi2
     · obtain ⟨_,_,bi',_,hx,_,_,_,hv⟩:=hrep.parts
       simp only [Value.agg.injEq,Array.mk.injEq,List.cons.injEq,Value.slice.injEq,and_true] at hx
       obtain ⟨-,-,-,-,rfl,-⟩:=hx
       rcases hv with e|⟨b,off,e,-⟩
       · rw [e] at hq;simp at hq
       · refine ⟨b,off,e,fun r hr=>?_⟩
         rw [hCP]
         rw [e] at kc
         exact .inr ⟨i,g,off,q,r,_,ci',hi,ha,kc,hq,hr,rfl⟩)
    rw [← hSP,← hCP,← hHP] at hsp
    have HSP0:=Lh hsp
    rw [← hSP,← hCP,← hHP] at HOK
    have HSS:=Lh (show ∀b,b<w10.heap.size→(b<w6.heap.size∨w7.heap.size≤b)→¬SP b from fun b h1 h2 h3=>by
     rw [hSP] at h3
     rcases h3 with h3|h3 <;> omega)
    have HVC:=Lh (show ∀w':World,Touch SP w11 w'→w'.cell? ⟨bV,4,none⟩=some (.slice ai 2 ci) from fun w' h=>by
     have hv:bV<w10.heap.size:=qx HXV.out
     rw [h.cell (p:=⟨bV,4,none⟩) (Nat.lt_of_lt_of_le hv hb11.size) (HSS.out bV hv (.inr (by rw [HBV.out.1];exact Nat.le_refl _))),hb11.cell (p:=⟨bV,4,none⟩) hv]
     exact qq HXV.out rfl)
    have HB11:=Lh hb11
    have hn70:n≤70:=by rw [hn];exact HFS.out.1
    clear hqs hown hit hS hn hSP hCP hHP hsp h10 hl6 hb11 HFS
    go_wp2
    go_loopw [10,11] (fun i _ wr=>∃j:Nat,j≤n∧i=.int .i64 j∧Sp SP CP HP w11 wr) (fun i _ _=>n - (intOf i).toNat)
    case atStart=>exact ⟨0,by omega,rfl,HSP0.out⟩
    case round =>
     obtain ⟨j,hj,rfl,hsp⟩:=hrel
     have HS1:=Lh hsp
     clear HSP0 hsp
     by_cases hlt:j<n
     · obtain ⟨g,ia,m,ic,ha,hm,hh,hq⟩:=HSTP.out j hlt
       subst ha
       have HHD:=Lh hh
       have HQC:=Lh hq
       have h3:=HS1.out.hdr _ _ _ hh
       have m1:decide ((j:Int)<(n:Int))=true:=by simp;omega
       have m2:(0:Int)≤(j:Int):=by omega
       have m3:(j:Int)<(n:Int):=by omega
       clear hh hq
       go_wp2
       clear h3
       go_loopw [11] (fun k wr=>∃q:Nat,q≤m∧k=.int .i64 q∧Sp SP CP HP w11 wr) (fun k _=>m - (intOf k).toNat)
       case atStart=>exact ⟨0,by omega,rfl,HS1.out⟩
       case round =>
        obtain ⟨q,hqm,rfl,hsp⟩:=hrel
        have HS2:=Lh hsp
        clear HS1 hsp
        have h3:=HS2.out.hdr _ _ _ HHD.out
        by_cases hlt2:q<m
        · obtain ⟨b,off,hia,hc⟩:=HQC.out q hlt2
          subst hia
          have HCQ:=Lh hc
          obtain ⟨⟨x0,c0⟩,f0⟩:=HS2.out.live _ _ hc
          have k1:decide ((q:Int)<(m:Int))=true:=by simp;omega
          have k2:(0:Int)≤(q:Int):=by omega
          have k3:(q:Int)<(m:Int):=by omega
          clear hc
          go_wp2
          go_roundw
          case rel =>
           have ok:=HOK.out _ _ HCQ.out
           exact ⟨q+1,by omega,by go_num,HS2.out.set _ _ _ ok.2.1 ok.2.2⟩
          case measure=>simp [intOf];omega
        · obtain rfl:q=m:=by omega
          have k1:decide ((q:Int)<(q:Int))=false:=by simp
          go_wp2
          go_roundw
          case rel=>exact ⟨j+1,by omega,by go_num,HS2.out⟩
          case measure=>simp [intOf];omega
     · obtain rfl:j=n:=by omega
       have m1:decide ((j:Int)<(j:Int))=false:=by simp
       have v4:=HVC.out wr HS1.out.touch
       go_wp2
       clear v4
       go_loopw [12,13] (fun i _ wr=>∃e:Nat,e≤2∧i=.int .i64 e∧Sp SP CP HP w11 wr) (fun i _ _=>2 - (intOf i).toNat)
       case atStart=>exact ⟨0,by omega,rfl,HS1.out⟩
       case round =>
        obtain ⟨e,he,rfl,hsp⟩:=hrel
        have HS2:=Lh hsp
        clear HS1 hsp
        by_cases hlt:e<2
        · obtain ⟨g,bi,m,ic,ha,hm,hh,hq⟩:=HITM.out e hlt
          subst ha
          have HHD:=Lh hh
          have HQC:=Lh hq
          have h3:=HS2.out.hdr _ _ _ hh
          have v4:=HVC.out wr HS2.out.touch
          have n1:decide ((e:Int)<2)=true:=by simp;omega
          have n2:(0:Int)≤(e:Int):=by omega
          have n3:(e:Int)<2:=by omega
          clear hh hq
          go_wp2
          clear h3 v4
          go_loopw [13] (fun k wr=>∃q:Nat,q≤m∧k=.int .i64 q∧Sp SP CP HP w11 wr) (fun k _=>m - (intOf k).toNat)
          case atStart=>exact ⟨0,by omega,rfl,HS2.out⟩
          case round =>
           obtain ⟨q,hqm,rfl,hsp⟩:=hrel
           have HS3:=Lh hsp
           clear HS2 hsp
           have h3:=HS3.out.hdr _ _ _ HHD.out
           have v4:=HVC.out wr HS3.out.touch
           by_cases hlt2:q<m
           · obtain ⟨b,off,hia,hc⟩:=HQC.out q hlt2
             subst hia
             have HCQ:=Lh hc
             obtain ⟨⟨x0,c0⟩,f0⟩:=HS3.out.live _ _ (hc 0 (by decide))
             obtain ⟨⟨x1,c1⟩,f1⟩:=HS3.out.live _ _ (hc 1 (by decide))
             obtain ⟨⟨x2,c2⟩,f2⟩:=HS3.out.live _ _ (hc 2 (by decide))
             obtain ⟨⟨x3,c3⟩,f3⟩:=HS3.out.live _ _ (hc 3 (by decide))
             obtain ⟨⟨x4,c4⟩,f4⟩:=HS3.out.live _ _ (hc 4 (by decide))
             simp only [Nat.add_zero] at c0 f0
             have k1:decide ((q:Int)<(m:Int))=true:=by simp;omega
             have k2:(0:Int)≤(q:Int):=by omega
             have k3:(q:Int)<(m:Int):=by omega
             clear hc
             go_wp2
             go_roundw
             case rel =>
              have o0:=HOK.out _ _ (HCQ.out 0 (by decide));have o1:=HOK.out _ _ (HCQ.out 1 (by decide));have o2:=HOK.out _ _ (HCQ.out 2 (by decide));have o3:=HOK.out _ _ (HCQ.out 3 (by decide));have o4:=HOK.out _ _ (HCQ.out 4 (by decide))
              exact ⟨q+1,by omega,by go_num,((((HS3.out.set _ _ _ o0.2.1 o0.2.2).set _ _ _ o1.2.1 o1.2.2).set _ _ _ o2.2.1 o2.2.2).set _ _ _ o3.2.1 o3.2.2).set _ _ _ o4.2.1 o4.2.2⟩
             case measure=>simp [intOf];omega
           · obtain rfl:q=m:=by omega
             have k1:decide ((q:Int)<(q:Int))=false:=by simp
             go_wp2
             go_roundw
             case rel=>exact ⟨e+1,by omega,by go_num,HS3.out⟩
             case measure=>simp [intOf];omega
        · obtain rfl:e=2:=by omega
          have n1:decide (((2:Nat):Int)<2)=false:=by simp
          have v4:=HVC.out wr HS2.out.touch
          have hto:=HS2.out.touch
          have hb:Below w.heap.size w wr:=HB.out.trans ((HB11.out.mono HB.out.size).trans (hto.below (Nat.le_trans HB.out.size HB11.out.size) (fun b hb=>HSS.out b (by have:=HB.out.size;omega) (.inl (by have:=HZ6.out;omega)))))
          have keep:∀b,b<w10.heap.size→(b<w6.heap.size∨w7.heap.size≤b)→wr.heap[b]?=w10.heap[b]?:=fun b h1 h2=>(hto.block b (Nat.lt_of_lt_of_le h1 HB11.out.size) (HSS.out b h1 h2)).trans (HB11.out.block b h1)
          have hxr:=(keep bR (qx HXR.out) (.inl (by rw [HBR.out.1];exact HZ6.out))).trans HXR.out
          have hxt:=(keep bT (qx HXT.out) (.inr (by have h1:=HBT.out.1;have h2:=HBV.out.2.1;have h3:=HZ9.out.1;omega))).trans HXT.out
          have hrt:Rep wr 0 wr.heap.size (qT l) (.agg #[.int .u8 5,.int .i64 0,.string ⟨#[]⟩,.slice tn l.length tc,.slice ti l.length td]):=Rep.carry (Nat.zero_le _) (Nat.le_trans (Nat.le_of_lt HBT.out.2.1) (Nat.le_trans HB11.out.size hto.size)) (fun b h1 h2=>(keep b (Nat.lt_trans h2 HBT.out.2.1) (.inr (by have:=HBV.out.2.1;omega))).trans (HBT.out.2.2.block b h2)) _ _ HTR.out
          go_upto_region 22 with fail
          clear v4
          replace HB:=Lh hb
          replace HXR:=Lh hxr
          replace HXT:=Lh hxt
          replace HI:=Lh (HIB.out wr hb)
          have HTT:=Lh hrt
          clear hto hb keep hxr hxt hrt HS2 HXV
          have HLO:=Lh (show 0<wr.heap.size from Nat.lt_of_lt_of_le HZ0.out HB.out.size)
          obtain ⟨xR0,xR1,xR2,xR3,xR4,xR5⟩:=bC HXR.out
          go_wp2_with fail
          refine (bU l rs t bits ids pre ka ra ba kc rc bc wr HI.out HF.out HRC.out (HTB.out wr HB.out)).mono ?_
          clear xR0 xR1 xR2 xR3 xR4 xR5
          rintro ee wa ⟨bn,bd,bi,be,h4,hr,hb⟩
          rw [gq HMB.out.symm] at h4 hr
          dsimp only at h4 hr
          rw [← HJE.out] at h4 hr
          subst h4
          replace HB:=Lh (HB.out.trans (hb.mono HB.out.size))
          replace HXR:=Lh ((hb.block _ (qx HXR.out)).trans HXR.out)
          replace HXT:=Lh ((hb.block _ (qx HXT.out)).trans HXT.out)
          replace HI:=Lh (HI.out.below hb lz lz hb.size)
          replace HTT:=Lh (HTT.out.below hb lz lz hb.size)
          have HV:=Lh hr
          clear hr hb
          obtain ⟨bW,hbW⟩:∃bW,bW=wa.heap.size:=⟨_,rfl⟩
          obtain ⟨wb,hwb⟩:∃wb,wb=wa.alloc (.cells #[.int .u8 J.kind,.int .i64 J.n,.string J.t,.slice bn J.names.length bd,.slice bi J.items.length be] 25):=⟨_,rfl⟩
          have hbx:Below wa.heap.size wa wb:=by rw [hwb];exact (Below.refl _ _).alloc lz _
          have HXW:=Lh (xE hwb hbW)
          replace HB:=Lh (HB.out.trans (hbx.mono HB.out.size))
          replace HXR:=Lh ((hbx.block _ (qx HXR.out)).trans HXR.out)
          replace HXT:=Lh ((hbx.block _ (qx HXT.out)).trans HXT.out)
          replace HI:=Lh (HI.out.below hbx lz lz hbx.size)
          replace HTT:=Lh (HTT.out.below hbx lz lz hbx.size)
          replace HV:=Lh (HV.out.below hbx lz lz hbx.size)
          have Hwb:=Lh (And.intro hwb hbW)
          clear hbx hwb hbW
          go_upto_region 23 with fail
          rw [← Hwb.out.1,← Hwb.out.2]
          clear Hwb
          obtain ⟨xW0,xW1,xW2,xW3,xW4⟩:=nC HXW.out
          go_wp2_with fail
          refine (lM ⟨l,rs,⟨bits,pre,⟨t,ids⟩⟩⟩ _ wb wr.heap.size HLO.out HMB.out.symm (by rw [← HJE.out];exact HV.out)).mono ?_
          clear xW0 xW1 xW2 xW3 xW4
          rintro ee wc ⟨en,ed,ei,ee2,h4,hr,hb⟩
          subst h4
          replace HB:=Lh (HB.out.trans (hb.mono HB.out.size))
          replace HXR:=Lh ((hb.block _ (qx HXR.out)).trans HXR.out)
          replace HXT:=Lh ((hb.block _ (qx HXT.out)).trans HXT.out)
          replace HXW:=Lh ((hb.block _ (qx HXW.out)).trans HXW.out)
          replace HI:=Lh (HI.out.below hb lz lz hb.size)
          replace HTT:=Lh (HTT.out.below hb lz lz hb.size)
          replace HV:=Lh (HV.out.below hb lz lz hb.size)
          have HKK:=Lh (show Rep wc 0 wc.heap.size (qT l) _ from hr.carry (Nat.zero_le _) lz (fun _ _ _=>rfl))
          clear hr hb
          obtain ⟨bK,hbK⟩:∃bK,bK=wc.heap.size:=⟨_,rfl⟩
          obtain ⟨wd,hwd⟩:∃wd,wd=wc.alloc (.cells #[.int .u8 5,.int .i64 0,.string ⟨#[]⟩,.slice en l.length ed,.slice ei l.length ee2] 25):=⟨_,rfl⟩
          have hbx:Below wc.heap.size wc wd:=by rw [hwd];exact (Below.refl _ _).alloc lz _
          have HXK:=Lh (xE hwd hbK)
          replace HB:=Lh (HB.out.trans (hbx.mono HB.out.size))
          replace HXR:=Lh ((hbx.block _ (qx HXR.out)).trans HXR.out)
          replace HXT:=Lh ((hbx.block _ (qx HXT.out)).trans HXT.out)
          replace HXW:=Lh ((hbx.block _ (qx HXW.out)).trans HXW.out)
          replace HI:=Lh (HI.out.below hbx lz lz hbx.size)
          replace HTT:=Lh (HTT.out.below hbx lz lz hbx.size)
          replace HV:=Lh (HV.out.below hbx lz lz hbx.size)
          replace HKK:=Lh (HKK.out.below hbx lz lz hbx.size)
          have Hwd:=Lh (And.intro hwd hbK)
          clear hbx hwd hbK
          go_upto_region 24 with fail
          rw [← Hwd.out.1,← Hwd.out.2]
          clear Hwd
          have HMC:=Lh (vf l rs t bits ids pre ka ra ba kc rc bc wd HI.out HF.out HRC.out (HTB.out wd HB.out))
          rw [← HMB.out] at HMC
          obtain ⟨xR0,xR1,xR2,xR3,xR4,xR5⟩:=bC HXR.out
          go_wp2_with fail
          refine (HMC.out).mono ?_
          clear xR0 xR1 xR2 xR3 xR4 xR5
          rintro ee we ⟨rfl,hb⟩
          replace HB:=Lh (HB.out.trans (hb.mono HB.out.size))
          replace HXR:=Lh ((hb.block _ (qx HXR.out)).trans HXR.out)
          replace HXT:=Lh ((hb.block _ (qx HXT.out)).trans HXT.out)
          replace HXW:=Lh ((hb.block _ (qx HXW.out)).trans HXW.out)
          replace HXK:=Lh ((hb.block _ (qx HXK.out)).trans HXK.out)
          replace HI:=Lh (HI.out.below hb lz lz hb.size)
          replace HTT:=Lh (HTT.out.below hb lz lz hb.size)
          replace HV:=Lh (HV.out.below hb lz lz hb.size)
          replace HKK:=Lh (HKK.out.below hb lz lz hb.size)
          clear hb HMC
          have HTW:=Lh (show (qT l).wt≤4294967296 from by
           have h1:=wW (m:=l) (fun k hk'=>by have:=HF.out.keys k hk';omega)
           have h2:l.length≤40:=HF.out.len
           omega)
          have HSC:=Lh (su 4294967296 (qT l) (qT l) _ _ 0 we.heap.size we HTW.out HTW.out lz lz HKK.out HTT.out)
          rw [(JV.sameB_iff (qT l) (qT l)).2 rfl] at HSC
          obtain ⟨xK0,xK1,xK2,xK3,xK4⟩:=nC HXK.out
          obtain ⟨xT0,xT1,xT2,xT3,xT4⟩:=nC HXT.out
          go_wp2_with fail
          refine (HSC.out).mono ?_
          clear xK0 xK1 xK2 xK3 xK4
          clear xT0 xT1 xT2 xT3 xT4
          rintro ee wf ⟨rfl,hb⟩
          have HBZ:=Lh (HB.out.trans (hb.mono HB.out.size))
          clear hb HSC
          go_wp2
          go_ret
          exact ⟨rfl,HBZ.out⟩
end Go.Proofs.YthgembbgcbaghaaGreatDoor
