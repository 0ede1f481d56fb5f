/- The contract of deleg.rolesOf. Printed by gendelegroles.py. -/
import Derived.Test.YthgembbgcbaghaaGreatDoorDi32
import Derived.Test.YthgembbgcbaghaaGreatDoorDi25
import Derived.Test.YthgembbgcbaghaaGreatDoorDi19

namespace Go.Proofs.YthgembbgcbaghaaGreatDoor
open Go.RowKit
theorem lM (a : Option Addr) (n c : Nat) (w : World) : (method 412 164 (.slice a n c) "legate/deleg.has").run Tryz.prog w = .ok (308, .slice a n c) w := by kernel_rfl
theorem lC (a : Option Addr) (n c : Nat) (w : World) : (method 412 165 (.slice a n c) "legate/deleg.has").run Tryz.prog w = .ok (314, .slice a n c) w := by kernel_rfl
set_option maxHeartbeats 400000 in
theorem tn (l:List ByteArray) (path:ByteArray) (a:Option Addr) (c:Nat) (w:World) (hA:qk w 0 w.heap.size a l) (hl:l.length≤4294967296) (hs:∀s ∈ l,s.size≤4294967296) (hp:path.size≤4294967296) :
 Calls Tryz.prog 308 #[.slice a l.length c,.string path] w fun e w'=>e=.returned (.bool (l.any fun p=>jV runes p path))∧Below w.heap.size w w':=by
 have HG:=Lh (sE l path a c w hA hl hs hp)
 obtain ⟨n,hn⟩:∃n,n=l.length:=⟨_,rfl⟩
 obtain ⟨V,hV⟩:∃V,V=l.any (fun p=>jV runes p path):=⟨_,rfl⟩
 rw [← hV] at HG ⊢
 rw [← hn] at HG ⊢
 clear hA hl hs hn hV
 go_enter Tryz.func308,Tryz.ntmps308
 go_wp2_with (go_at_call 309;refine HG.out.mono ?_;rintro e w1 ⟨rfl,hb⟩;have HB:=Lh hb;clear hb)
 go_ret
 exact ⟨rfl,HB.out⟩
set_option maxHeartbeats 400000 in
theorem tt (l:List ByteArray) (path:ByteArray) (a:Option Addr) (c:Nat) (w:World) (hA:qk w 0 w.heap.size a l) (hl:l.length≤4294967296) (hs:∀s ∈ l,s.size≤4294967296) (hp:path.size≤4294967296) (hT:Tabs w) :
 Calls Tryz.prog 314 #[.slice a l.length c,.string path] w fun e w'=>e=.returned (.bool (z7 l path))∧Below w.heap.size w w':=by
 have HG:=Lh (ft l path a c w hA hl hs hp hT)
 obtain ⟨n,hn⟩:∃n,n=l.length:=⟨_,rfl⟩
 obtain ⟨V,hV⟩:∃V,V=z7 l path:=⟨_,rfl⟩
 rw [← hV] at HG ⊢
 rw [← hn] at HG ⊢
 clear hA hl hs hn hV hT
 go_enter Tryz.func314,Tryz.ntmps314
 go_wp2_with (go_at_call 315;refine HG.out.mono ?_;rintro e w1 ⟨rfl,hb⟩;have HB:=Lh hb;clear hb)
 go_ret
 exact ⟨rfl,HB.out⟩
set_option maxHeartbeats 1000000 in
set_option maxRecDepth 100000 in
theorem fi (nm:ByteArray) (thr:Int) (ids:List ByteArray) (tm:Bool) (ps qs:List ByteArray) (ia pa qa:Option Addr) (ic pc qc:Nat) (w:World) :
 Calls Tryz.prog 78 #[.agg #[.string nm,.int .i64 thr,.slice ia ids.length ic,.bool tm,.slice pa ps.length pc,.slice qa qs.length qc]] w fun e w'=>e=.returned (if ps≠[] then .iface 164 (.slice pa ps.length pc) else .iface 165 (.slice qa qs.length qc))∧Below w.heap.size w w':=by
 obtain ⟨W,hW⟩:∃W,W=w.alloc (.cells #[.string nm,.int .i64 thr,.slice ia ids.length ic,.bool tm,.slice pa ps.length pc,.slice qa qs.length qc] 41):=⟨_,rfl⟩
 have HB:=Lh (show Below w.heap.size w W by rw [hW];exact (Below.refl _ _).alloc lz _)
 have hx:W.heap[w.heap.size]?=some (.cells #[.string nm,.int .i64 thr,.slice ia ids.length ic,.bool tm,.slice pa ps.length pc,.slice qa qs.length qc] 41 (0,0)):=by rw [hW];exact heap_alloc_new w _
 have q4:=qq hx (j:=4) rfl;have q5:=qq hx (j:=5) rfl
 have HW:=Lh hW
 clear hW hx
 by_cases hps:ps=[]
 · have n1:decide ((0:Int)<(ps.length:Int))=false:=by subst hps;rfl
   have n3:decide (0<ps.length)=false:=by subst hps;rfl
   have n4:¬0<ps.length:=by subst hps;simp
   rw [if_neg (by simp [hps])]
   clear hps
   go_enter Tryz.func78,Tryz.ntmps78
   go_upto_region 1 with fail
   rw [← HW.out]
   clear HW
   go_wp2
   go_ret
   exact ⟨rfl,HB.out⟩
 · have n4:0<ps.length:=List.length_pos_iff.2 hps
   have n1:decide ((0:Int)<(ps.length:Int))=true:=by rw [decide_eq_true_eq];omega
   have n3:decide (0<ps.length)=true:=by rw [decide_eq_true_eq];omega
   rw [if_pos hps]
   clear hps
   go_enter Tryz.func78,Tryz.ntmps78
   go_upto_region 1 with fail
   rw [← HW.out]
   clear HW
   go_wp2
   go_ret
   exact ⟨rfl,HB.out⟩
theorem ti (x:DelegV) (path:ByteArray):isD runes x path=(qi x && (qU path && (if x.paths≠[] then x.paths.any (fun p=>jV runes p path) else z7 x.pres path))):=by
 unfold isD
 rw [Bool.and_assoc]
set_option maxHeartbeats 2000000 in
set_option maxRecDepth 100000 in
theorem ar (x:DelegV) (path:ByteArray) (ia pa qa:Option Addr) (ic pc qc:Nat) (w:World) (hI:DelegIn w 0 w.heap.size x ia pa qa) (hf:DelegFits x) (hp:path.size≤4294967296) (hT:Tabs w) :
 Calls Tryz.prog 23 #[.agg #[.string x.name,.int .i64 x.au.thr,.slice ia x.au.ids.length ic,.bool x.term,.slice pa x.paths.length pc,.slice qa x.pres.length qc],.string path] w fun e w'=>e=.returned (.bool (isD runes x path))∧Below w.heap.size w w':=by
 have HV:=Lh (ti x path)
 obtain ⟨V,hV⟩:∃V,V=isD runes x path:=⟨_,rfl⟩
 rw [← hV] at HV ⊢
 clear hV
 obtain ⟨nm,⟨thr,ids⟩,tm,ps,qs⟩:=x
 dsimp only at HV ⊢
 obtain ⟨W,hW⟩:∃W,W=w.alloc (.cells #[.string nm,.int .i64 thr,.slice ia ids.length ic,.bool tm,.slice pa ps.length pc,.slice qa qs.length qc] 41):=⟨_,rfl⟩
 have hb:Below w.heap.size w W:=by rw [hW];exact (Below.refl _ _).alloc lz _
 have hx:W.heap[w.heap.size]?=some (.cells #[.string nm,.int .i64 thr,.slice ia ids.length ic,.bool tm,.slice pa ps.length pc,.slice qa qs.length qc] 41 (0,0)):=by rw [hW];exact heap_alloc_new w _
 have HB:=Lh hb
 have HC:=Lh (show ∀w':World,Below W.heap.size W w'→w'.cell? ⟨w.heap.size,0,none⟩=some (.string nm)∧w'.cell? ⟨w.heap.size,1,none⟩=some (.int .i64 thr)∧w'.cell? ⟨w.heap.size,2,none⟩=some (.slice ia ids.length ic)∧w'.cell? ⟨w.heap.size,3,none⟩=some (.bool tm)∧w'.cell? ⟨w.heap.size,4,none⟩=some (.slice pa ps.length pc)∧w'.cell? ⟨w.heap.size,5,none⟩=some (.slice qa qs.length qc) from fun w' h=>by
  have y:=(h.block _ (qx hx)).trans hx
  exact ⟨qq y rfl,qq y rfl,qq y rfl,qq y rfl,qq y rfl,qq y rfl⟩)
 have HI:=Lh (show ∀w':World,Below W.heap.size W w'→DelegIn w' 0 w'.heap.size ⟨nm,⟨thr,ids⟩,tm,ps,qs⟩ ia pa qa∧Tabs w' from fun w' h=>⟨hI.below (hb.trans (h.mono hb.size)) lz lz (Nat.le_trans hb.size h.size),hT.below (hb.trans (h.mono hb.size))⟩)
 have HRM:=Lh (jf ⟨nm,⟨thr,ids⟩,tm,ps,qs⟩ ia pa qa ic pc qc W (HI.out W (Below.refl _ _)).1 hf)
 have HPT:=Lh (fun w=>vx path w (by omega))
 have HMA:=Lh (fun w=>fi nm thr ids tm ps qs ia pa qa ic pc qc w)
 have HHP:=Lh (show ∀w':World,Below W.heap.size W w'→_ from fun w' h=>tn ps path pa pc w' (HI.out w' h).1.paths hf.paths.1 hf.paths.2 hp)
 have HHQ:=Lh (show ∀w':World,Below W.heap.size W w'→_ from fun w' h=>tt qs path qa qc w' (HI.out w' h).1.pres hf.pres.1 hf.pres.2 hp (HI.out w' h).2)
 have hm1:=lM
 have hm2:=lC
 have HWH:=Lh hW
 obtain ⟨b1,hb1⟩:∃b,b=qi ⟨nm,⟨thr,ids⟩,tm,ps,qs⟩:=⟨_,rfl⟩
 obtain ⟨b2,hb2⟩:∃b,b=qU path:=⟨_,rfl⟩
 obtain ⟨A,hA⟩:∃A,A=ps.any (fun p=>jV runes p path):=⟨_,rfl⟩
 obtain ⟨B,hB⟩:∃B,B=z7 qs path:=⟨_,rfl⟩
 rw [← hb1,← hb2,← hA,← hB] at HV
 rw [← hb1] at HRM
 rw [← hb2] at HPT
 rw [← hA] at HHP
 rw [← hB] at HHQ
 clear hb hx hW hI hf hp hT hb1 hb2 hA hB
 obtain ⟨q0,q1,q2,q3,q4,q5⟩:=HC.out W (Below.refl _ _)
 go_enter Tryz.func23,Tryz.ntmps23
 go_upto_region 1 with fail
 rw [← HWH.out]
 clear HWH
 cases b1 with
 | false =>
  go_wp2_with (go_at_call 77;refine HRM.out.mono ?_;rintro e w1 ⟨rfl,hb⟩;have HB1:=Lh hb;clear hb)
  go_ret
  exact ⟨qz HV.out.symm,HB.out.trans (HB1.out.mono HB.out.size)⟩
 | true =>
  rw [Bool.true_and] at HV
  cases b2 with
  | false =>
   go_wp2_with (first|(go_at_call 77;refine HRM.out.mono ?_;rintro e w1 ⟨rfl,hb⟩;have HB1:=Lh hb;clear hb)|(go_at_call 34;refine (HPT.out _).mono ?_;rintro e w2 ⟨rfl,hb⟩;have HB2:=Lh (HB1.out.trans (hb.mono HB1.out.size));clear hb))
   go_ret
   exact ⟨qz HV.out.symm,HB.out.trans (HB2.out.mono HB.out.size)⟩
  | true =>
   rw [Bool.true_and] at HV
   by_cases hps:ps=[]
   · rw [if_neg (by simp [hps])] at HV
     simp only [show ¬ps≠[] from by simp [hps],if_false] at HMA
     clear hps
     go_wp2_with (first|(go_at_call 77;refine HRM.out.mono ?_;rintro e w1 ⟨rfl,hb⟩;have HB1:=Lh hb;clear hb)|(go_at_call 34;refine (HPT.out _).mono ?_;rintro e w2 ⟨rfl,hb⟩;have HB2:=Lh (HB1.out.trans (hb.mono HB1.out.size));obtain ⟨z0,z1,z2,z3,z4,z5⟩:=HC.out _ HB2.out;clear hb)|(go_at_call 78;refine (HMA.out _).mono ?_;rintro e w3 ⟨rfl,hb⟩;have HB3:=Lh (HB2.out.trans (hb.mono HB2.out.size));clear hb)|(go_at_call 314;refine (HHQ.out _ HB3.out).mono ?_;rintro e w4 ⟨rfl,hb⟩;have HB4:=Lh (HB3.out.trans (hb.mono HB3.out.size));clear hb))
     go_ret
     exact ⟨qz HV.out.symm,HB.out.trans (HB4.out.mono HB.out.size)⟩
   · rw [if_pos hps] at HV
     simp only [if_pos hps] at HMA
     clear hps
     go_wp2_with (first|(go_at_call 77;refine HRM.out.mono ?_;rintro e w1 ⟨rfl,hb⟩;have HB1:=Lh hb;clear hb)|(go_at_call 34;refine (HPT.out _).mono ?_;rintro e w2 ⟨rfl,hb⟩;have HB2:=Lh (HB1.out.trans (hb.mono HB1.out.size));obtain ⟨z0,z1,z2,z3,z4,z5⟩:=HC.out _ HB2.out;clear hb)|(go_at_call 78;refine (HMA.out _).mono ?_;rintro e w3 ⟨rfl,hb⟩;have HB3:=Lh (HB2.out.trans (hb.mono HB2.out.size));clear hb)|(go_at_call 308;refine (HHP.out _ HB3.out).mono ?_;rintro e w4 ⟨rfl,hb⟩;have HB4:=Lh (HB3.out.trans (hb.mono HB3.out.size));clear hb))
     go_ret
     exact ⟨qz HV.out.symm,HB.out.trans (HB4.out.mono HB.out.size)⟩
end Go.Proofs.YthgembbgcbaghaaGreatDoor

namespace Go.Proofs.YthgembbgcbaghaaGreatDoor
open Go.RowKit Go.Shelf Go.Sort
set_option maxHeartbeats 2000000 in
set_option maxRecDepth 100000 in
theorem vV (t u:Int) (l m:List ByteArray) (a b:Option Addr) (c d:Nat) (w:World) (hA:qk w 0 w.heap.size a l) (hB:qk w 0 w.heap.size b m) (hl:l.length≤4294967296) (_hm:m.length≤4294967296) :
 Calls Tryz.prog 70 #[.agg #[.int .i64 t,.slice a l.length c],.agg #[.int .i64 u,.slice b m.length d]] w fun e w'=>e=.returned (.bool (decide ((⟨t,l⟩:AuthV)=⟨u,m⟩)))∧Below w.heap.size w w':=by
 obtain ⟨W,hW⟩:∃W,W=(w.alloc (.cells #[.int .i64 t,.slice a l.length c] 31)).alloc (.cells #[.int .i64 u,.slice b m.length d] 31):=⟨_,rfl⟩
 have hb:Below w.heap.size w W:=by rw [hW];exact ((Below.refl _ _).alloc lz _).alloc (by simp) _
 have hx:W.heap[w.heap.size]?=some (.cells #[.int .i64 t,.slice a l.length c] 31 (0,0)):=by rw [hW];exact zi w _ _
 have hy:W.heap[w.heap.size+1]?=some (.cells #[.int .i64 u,.slice b m.length d] 31 (0,0)):=by rw [hW];exact js w _ _
 have HC:=Lh (show ∀w':World,Below W.heap.size W w'→w'.cell? ⟨w.heap.size,0,none⟩=some (.int .i64 t)∧w'.cell? ⟨w.heap.size,1,none⟩=some (.slice a l.length c)∧w'.cell? ⟨w.heap.size+1,0,none⟩=some (.int .i64 u)∧w'.cell? ⟨w.heap.size+1,1,none⟩=some (.slice b m.length d) from fun w' h=>by
  have h1:=(h.block _ (qx hx)).trans hx
  have h2:=(h.block _ (qx hy)).trans hy
  exact ⟨qq h1 rfl,qq h1 rfl,qq h2 rfl,qq h2 rfl⟩)
 have HB:=Lh hb
 have HW:=Lh hW
 have HA:=Lh (hA.below hb lz lz hb.size)
 have HBB:=Lh (hB.below hb lz lz hb.size)
 have HV:=Lh (show decide ((⟨t,l⟩:AuthV)=⟨u,m⟩)=(decide (t=u) && decide (l=m)) by
  by_cases h1:t=u <;> by_cases h2:l=m <;> simp [h1,h2])
 obtain ⟨q,hq⟩:∃q,q=decide ((⟨t,l⟩:AuthV)=⟨u,m⟩):=⟨_,rfl⟩
 rw [← hq] at HV ⊢
 clear hb hW hx hy hA hB hq
 obtain ⟨x0,x1,y0,y1⟩:=HC.out W (Below.refl _ _)
 by_cases h:t=u
 case neg =>
  have n1:(t != u)=true:=by simpa using h
  rw [decide_eq_false h,Bool.false_and] at HV
  clear h
  go_enter Tryz.func70,Tryz.ntmps70
  go_upto_region 1 with fail
  rw [← HW.out]
  go_wp2
  go_ret
  exact ⟨qz HV.out.symm,HB.out⟩
 have n1:(t != u)=false:=by simpa using h
 rw [decide_eq_true h,Bool.true_and] at HV
 clear h
 by_cases hlm:l.length=m.length
 case neg =>
  have n2:((l.length:Int) != (m.length:Int))=true:=by simp;omega
  have HD:=Lh (show q=false by rw [HV.out];exact decide_eq_false fun e=>hlm (by rw [e]))
  clear hlm
  go_enter Tryz.func70,Tryz.ntmps70
  go_upto_region 1 with fail
  rw [← HW.out]
  go_wp2
  go_ret
  exact ⟨qz HD.out.symm,HB.out⟩
 obtain ⟨n,hn⟩:∃n,n=l.length:=⟨_,rfl⟩
 have HNL:=Lh hn
 have HNM:=Lh (show n=m.length by rw [hn,hlm])
 rw [← hlm,← hn] at HC HW y1
 rw [← hn] at x1 ⊢
 rw [← hlm,← hn]
 have hnb:n≤4294967296:=by omega
 have n2:((n:Int) != (n:Int))=false:=by simp
 clear hlm hn hl
 go_enter Tryz.func70,Tryz.ntmps70
 go_upto_region 1 with fail
 rw [← HW.out]
 clear HW
 go_wp2_with fail
 clear x0 x1 y0 y1
 go_loopw [5] (fun i wr=>∃k:Nat,k≤n∧i=.int .i64 k∧l.take k=m.take k∧Below W.heap.size W wr) (fun i _=>n - (intOf i).toNat)
 case atStart=>exact ⟨0,by omega,rfl,rfl,Below.refl _ _⟩
 case round =>
  obtain ⟨k,hk,rfl,htk,hbk⟩:=hrel
  have HTK:=Lh htk
  have HBK:=Lh hbk
  obtain ⟨x0,x1,y0,y1⟩:=HC.out wr hbk
  clear htk hbk
  by_cases hlt:k<n
  · have hkl:k<l.length:=by rw [← HNL.out];exact hlt
    have hkm:k<m.length:=by rw [← HNM.out];exact hlt
    obtain ⟨p,f,ha,_,hp,e0⟩:=(HA.out.below HBK.out lz lz lz).at k hkl
    subst ha
    obtain ⟨q2,g,ha,_,hq2,f0⟩:=(HBB.out.below HBK.out lz lz lz).at k hkm
    subst ha
    have HTS:=Lh (show l[k]=m[k]→l.take (k+1)=m.take (k+1) from fun e=>by rw [List.take_succ_eq_append_getElem hkl,List.take_succ_eq_append_getElem hkm,HTK.out,e])
    have HNE:=Lh (show l[k]≠m[k]→decide (l=m)=false from fun e=>decide_eq_false fun e2=>e (by subst e2;rfl))
    obtain ⟨x,hx⟩:∃x:ByteArray,x=l[k]:=⟨_,rfl⟩
    obtain ⟨y,hy⟩:∃y:ByteArray,y=m[k]:=⟨_,rfl⟩
    replace e0:=e0.trans (congrArg (fun z:ByteArray=>some (Value.string z)) hx.symm)
    replace f0:=f0.trans (congrArg (fun z:ByteArray=>some (Value.string z)) hy.symm)
    rw [← hx,← hy] at HTS HNE
    clear hx hy
    have m1:(0:Int)≤(k:Int):=by omega
    have m2:(k:Int)<(n:Int):=by omega
    have m3:decide ((k:Int)<(n:Int))=true:=by simpa using hlt
    cases h1:(x.toList == y.toList)
    · have HR:=Lh (show q=false by rw [HV.out];exact HNE.out fun e=>by rw [e] at h1;simp at h1)
      go_wp2_with fail
      go_quiet (fail)
      go_wp2
      go_ret
      exact ⟨qz HR.out.symm,Below.drewN (HB.out.trans (HBK.out.mono HB.out.size)) _⟩
    · have HEQ:=Lh (HTS.out (by rw [ba_eq,decide_eq_true_eq] at h1;exact h1))
      go_wp2_with fail
      go_quiet (fail)
      go_wp2
      go_roundw
      case rel=>exact ⟨k+1,by omega,by go_num,HEQ.out,Below.drewN HBK.out _⟩
      case measure=>simp [intOf];omega
  · obtain rfl:k=n:=by omega
    have HR:=Lh (show q=true by
     rw [HV.out]
     have:=HTK.out
     rw [List.take_of_length_le (by rw [← HNL.out];exact Nat.le_refl _),List.take_of_length_le (by rw [← HNM.out];exact Nat.le_refl _)] at this
     exact decide_eq_true this)
    go_wp2
    go_ret
    exact ⟨qz HR.out.symm,HB.out.trans (HBK.out.mono HB.out.size)⟩
theorem xf {v:JV} {y:ByteArray} {most:Nat} {st:PS}:(qv v y most st).1.length≤most∧(∀s ∈ (qv v y most st).1,s.size≤v.wt)∧(qv v y most st).2.asked.length≤st.asked.length+1:=by
 unfold qv
 split
 · exact ⟨Nat.zero_le _,fun s hs=>(by cases hs),Nat.le_succ _⟩
 · split
   · exact ⟨Nat.zero_le _,fun s hs=>(by cases hs),Nat.le_succ _⟩
   · rename_i it hit
     split
     · exact ⟨Nat.zero_le _,fun s hs=>(by cases hs),Nat.le_succ _⟩
     · split
       · exact ⟨Nat.zero_le _,fun s hs=>(by cases hs),Nat.le_succ _⟩
       · split
         · rename_i h _
           refine ⟨by rw [List.length_map];omega,fun s hs=>?_,by simp⟩
           obtain ⟨x,hx,rfl⟩:=List.mem_map.1 hs
           obtain ⟨i,hi,rfl⟩:=List.getElem_of_mem hx
           have h1:=JV.wts_get it.items i hi
           have h2:=it.wt_bd
           have h3:=it.items[i].wt_bd
           obtain ⟨j,hj,rfl⟩:=List.getElem_of_mem (kr hit).2
           have h4:=JV.wts_get v.items j hj
           have h5:=v.wt_bd
           omega
         · exact ⟨Nat.zero_le _,fun s hs=>(by cases hs),Nat.le_succ _⟩
def vb (o m lo hi:Nat) (v:JV) (an ai:Option Addr) (cn ci:Nat) (r:AuthV × PS) (w:World) (e:Ending) (w':World):Prop :=
 (∃ia ic,e=.returned (.agg #[.int .i64 r.1.thr,.slice ia r.1.ids.length ic])∧r.1.ids.length≤ic∧qk w' w.heap.size w'.heap.size ia r.1.ids)∧vk o m lo hi v an ai cn ci r.2 w w'
set_option maxHeartbeats 2000000 in
set_option maxRecDepth 100000 in
theorem uT {o m lo hi:Nat} {v:JV} {an ai:Option Addr} {cn ci:Nat} {st:PS} {w:World} (h:zV o m lo hi v an ai cn ci st w) (hv:v.wt≤4294967296) (ha:st.asked.length≤4294967000) :
 Calls Tryz.prog 122 #[.pointer (some ⟨o,0,none⟩)] w (vb o m lo hi v an ai cn ci (jT v st) w):=by
 have hlt:=h.lt
 obtain ⟨W,hW⟩:∃W,W=w.alloc (.cells #[.int .i64 0,.slice none 0 0] 31):=⟨_,rfl⟩
 have hb:Below w.heap.size w W:=by rw [hW];exact (Below.refl _ _).alloc lz _
 have hr0:W.rowIs w.heap.size 31 2 (jl (.int .i64 0) (.slice none 0 0)):=by rw [hW];exact kV w _ _ _
 have HT:=Lh (m9 qy 16 (h.below hb) (by decide) (by omega))
 have HFT:=Lh (@xf v qy 16 st)
 have HK:=Lh (show jT v st=(if (qP v thrN 1 ((qv v qy 16 st).1.length:Int) (jA v st)).2.err≠0 then authZ else ⟨(qP v thrN 1 ((qv v qy 16 st).1.length:Int) (jA v st)).1,(qv v qy 16 st).1⟩,(qP v thrN 1 ((qv v qy 16 st).1.length:Int) (jA v st)).2) from rfl)
 have HS:=Lh (show jA v st=(if (qv v qy 16 st).1=[] then (qv v qy 16 st).2.fail 4 else (qv v qy 16 st).2).fail (z8 [] (qv v qy 16 st).1) from rfl)
 obtain ⟨K,hK⟩:∃K,K=jT v st:=⟨_,rfl⟩
 rw [← hK] at HK ⊢
 obtain ⟨R,hR⟩:∃R,R=qv v qy 16 st:=⟨_,rfl⟩
 rw [← hR] at HT HFT HK HS
 obtain ⟨S3,hS3⟩:∃S3,S3=jA v st:=⟨_,rfl⟩
 rw [← hS3] at HK HS
 have HB:=Lh hb
 have HR0:=Lh hr0
 have HW:=Lh hW
 have HZ:=Lh (show o<w.heap.size∧m<w.heap.size∧hi≤w.heap.size∧w.heap.size<W.heap.size from ⟨hlt.1,hlt.2.1,hlt.2.2,hr0.lt⟩)
 have HA:=Lh ha
 have HV:=Lh hv
 clear h hlt hb hr0 hW hK hR hS3 ha hv
 obtain ⟨L,S1⟩:=R
 dsimp only at HT HFT HK HS
 go_enter Tryz.func122,Tryz.ntmps122
 go_upto_region 1 with fail
 rw [← HW.out]
 clear HW
 go_wp2_with fail
 refine HT.out.mono ?_
 clear HT
 rintro r w1 ⟨⟨a1,c1,rfl,hcap,hs1⟩,hp1,ht1⟩
 have HCAP:=Lh (show L.length≤c1 from hcap)
 clear hcap
 have HS1:=Lh (show qk w1 W.heap.size w1.heap.size a1 L from hs1)
 have HP1:=Lh hp1
 have HT1:=Lh ht1
 have HR1:=Lh (ht1.row HR0.out (by have:=HZ.out;omega))
 have HZ1:=Lh ht1.size
 clear hs1 hp1 ht1
 by_cases hL:L=[]
 · have hl0:((L.length:Int) == 0)=true:=by rw [hL];rfl
   rw [if_pos hL] at HS
   clear hL
   go_wp2_with fail
   refine (pG 4 HP1.out).mono ?_
   rintro r w2 ⟨rfl,hp2,ht2⟩
   have HP2:=Lh hp2
   have HT2:=Lh (HT1.out.trans (ht2.mono fun _ _ h=>h))
   have HR2:=Lh (ht2.row HR1.out (by have:=HZ.out;omega))
   have HS2:=Lh (show qk w2 W.heap.size w2.heap.size a1 L from HS1.out.carry lz ht2.size (fun b h1 h2=>ht2.block b h2 (by have:=HZ.out;omega)))
   have HZ2:=Lh (Nat.le_trans HZ1.out ht2.size)
   clear hp2 ht2 HP1 HT1 HR1 HS1 HZ1
   generalize hq2:S1.fail 4=S2 at HP2 HS
   have HA2:=Lh (show S2.asked.length≤st.asked.length+1 by rw [← hq2,ku];exact HFT.out.2.2)
   clear hq2
   have HWR:=Lh (yZ L a1 c1 w2 (HS2.out.carry (Nat.zero_le _) lz (fun _ _ _=>rfl)) (by have:=HFT.out.1;omega) (fun s hs=>Nat.le_trans (HFT.out.2.1 s hs) HV.out))
   obtain ⟨ie,hie⟩:∃ie,ie=z8 [] L:=⟨_,rfl⟩
   rw [← hie] at HWR HS
   clear hie
   go_wp2_with fail
   refine HWR.out.mono ?_
   clear HWR
   rintro r w3 ⟨rfl,hb3⟩
   have HP3:=Lh (HP2.out.below hb3)
   have HR3:=Lh (qj hb3 HR2.out HR2.out.lt)
   have HT3:=Lh (HT2.out.trans (Touch.of_below hb3 lz))
   have HS3:=Lh (show qk w3 W.heap.size w3.heap.size a1 L from HS2.out.below hb3 lz lz hb3.size)
   have HZ3:=Lh (Nat.le_trans HZ2.out hb3.size)
   clear hb3 HP2 HR2 HT2 HS2 HZ2
   go_wp2_with fail
   refine (pG ie HP3.out).mono ?_
   rintro r w4 ⟨rfl,hp4,ht4⟩
   rw [← HS.out] at hp4
   have HA4:=Lh (show S3.asked.length≤st.asked.length+1 by rw [HS.out,ku];exact HA2.out)
   have HP4:=Lh hp4
   have HR4:=Lh (ht4.row HR3.out (by have:=HZ.out;omega))
   have HT4:=Lh (HT3.out.trans (ht4.mono fun _ _ h=>h))
   have HS4:=Lh (show qk w4 W.heap.size w4.heap.size a1 L from HS3.out.carry lz ht4.size (fun b h1 h2=>ht4.block b h2 (by have:=HZ.out;omega)))
   have HZ4:=Lh (Nat.le_trans HZ3.out ht4.size)
   clear hp4 ht4 HP3 HR3 HT3 HS3 HZ3 HS
   have HNU:=Lh (tg thrN 1 (L.length:Int) HP4.out (by decide) (by have:=HA4.out;have:=HA.out;omega))
   obtain ⟨N,hN⟩:∃N,N=qP v thrN 1 (L.length:Int) S3:=⟨_,rfl⟩
   rw [← hN] at HNU HK
   clear hN
   obtain ⟨nn,S4⟩:=N
   dsimp only at HNU HK
   go_wp2_with fail
   refine HNU.out.mono ?_
   clear HNU
   rintro r w5 ⟨rfl,hp5,ht5⟩
   have HP5:=Lh hp5
   have hr5:=ht5.row HR4.out (by have:=HZ.out;omega)
   have HR5:=Lh hr5
   have HT5:=Lh (HT4.out.trans (ht5.mono fun _ _ h=>h))
   have HS5:=Lh (show qk w5 W.heap.size w5.heap.size a1 L from HS4.out.carry lz ht5.size (fun b h1 h2=>ht5.block b h2 (by have:=HZ.out;omega)))
   have HZ5:=Lh (Nat.le_trans HZ4.out ht5.size)
   clear hp5 ht5 HP4 HR4 HT4 HS4 HZ4
   go_wp2_with fail
   refine (tR HP5.out).mono ?_
   rintro r w6 ⟨rfl,h6⟩
   subst h6
   have t0:=hr5.cell (i:=0) (by decide);have t1:=hr5.cell (i:=1) (by decide)
   have s0:=hr5.frozen 0;have s1:=hr5.frozen 1
   simp only [jl] at t0 t1
   clear hr5
   have HTW:=Lh (show Touch (fun b=>b=o∨b=m) w w5 from (Touch.of_below HB.out lz).trans HT5.out)
   by_cases he:S4.err=0
   · have e1:(S4.err != 0)=false:=by simpa using he
     rw [if_neg (by simp [he])] at HK
     clear he
     go_wp2
     refine bodyPost_ret (results_cell_row Tryz.results122 _ _ w.heap.size 31 _ (0,0) _ rfl (zG (set2 _ _ HR5.out)) Tryz.underlying31 rfl (by kernel_rfl)) rfl ?_
     unfold vb
     rw [HK.out]
     have hput:Touch (fun b=>b=w.heap.size) w5 ((w5.setCell ⟨w.heap.size,0,none⟩ (.int .i64 nn)).setCell ⟨w.heap.size,1,none⟩ (.slice a1 L.length c1)):=(qY _).trans (qY _)
     refine ⟨⟨a1,c1,rfl,HCAP.out,?_⟩,HP5.out.touch hput (by have:=HZ.out;omega) (by have:=HZ.out;omega) HZ.out.2.2.1,?_⟩
     · refine HS5.out.carry (by have:=HZ.out;omega) hput.size (fun b h1 h2=>hput.block b h2 (by have:=HZ.out;omega))
     · exact ((HTW.out.setCell (p:=⟨w.heap.size,0,none⟩) (.inr lz) _).setCell (p:=⟨w.heap.size,1,none⟩) (.inr lz) _)
   · have e1:(S4.err != 0)=true:=by simpa using he
     rw [if_pos he] at HK
     clear he
     go_wp2
     refine bodyPost_ret (results_cell_row Tryz.results122 _ _ w.heap.size 31 _ (0,0) _ rfl (zG (set2 _ _ HR5.out)) Tryz.underlying31 rfl (by kernel_rfl)) rfl ?_
     unfold vb
     rw [HK.out]
     have hput:Touch (fun b=>b=w.heap.size) w5 ((w5.setCell ⟨w.heap.size,0,none⟩ (.int .i64 0)).setCell ⟨w.heap.size,1,none⟩ (.slice none 0 0)):=(qY _).trans (qY _)
     refine ⟨⟨none,0,rfl,Nat.le_refl _,.inl rfl⟩,HP5.out.touch hput (by have:=HZ.out;omega) (by have:=HZ.out;omega) HZ.out.2.2.1,?_⟩
     exact ((HTW.out.setCell (p:=⟨w.heap.size,0,none⟩) (.inr lz) _).setCell (p:=⟨w.heap.size,1,none⟩) (.inr lz) _)
 · have hl0:((L.length:Int) == 0)=false:=by
    cases L with
    | nil=>exact absurd rfl hL
    | cons x r=>simp;omega
   rw [if_neg hL] at HS
   clear hL
   have HA2:=Lh (show S1.asked.length≤st.asked.length+1 from HFT.out.2.2)
   have HP2:=Lh HP1.out
   have HT2:=Lh HT1.out
   have HR2:=Lh HR1.out
   have HS2:=Lh HS1.out
   have HZ2:=Lh HZ1.out
   clear HP1 HT1 HR1 HS1 HZ1
   obtain ⟨w2,hw2⟩:∃w2,w2=w1:=⟨_,rfl⟩
   obtain ⟨S2,hq2⟩:∃S2,S2=S1:=⟨_,rfl⟩
   rw [← hw2] at HP2 HT2 HR2 HS2 HZ2 ⊢
   rw [← hq2] at HP2 HA2 HS
   clear hw2 hq2
   have HWR:=Lh (yZ L a1 c1 w2 (HS2.out.carry (Nat.zero_le _) lz (fun _ _ _=>rfl)) (by have:=HFT.out.1;omega) (fun s hs=>Nat.le_trans (HFT.out.2.1 s hs) HV.out))
   obtain ⟨ie,hie⟩:∃ie,ie=z8 [] L:=⟨_,rfl⟩
   rw [← hie] at HWR HS
   clear hie
   go_wp2_with fail
   refine HWR.out.mono ?_
   clear HWR
   rintro r w3 ⟨rfl,hb3⟩
   have HP3:=Lh (HP2.out.below hb3)
   have HR3:=Lh (qj hb3 HR2.out HR2.out.lt)
   have HT3:=Lh (HT2.out.trans (Touch.of_below hb3 lz))
   have HS3:=Lh (show qk w3 W.heap.size w3.heap.size a1 L from HS2.out.below hb3 lz lz hb3.size)
   have HZ3:=Lh (Nat.le_trans HZ2.out hb3.size)
   clear hb3 HP2 HR2 HT2 HS2 HZ2
   go_wp2_with fail
   refine (pG ie HP3.out).mono ?_
   rintro r w4 ⟨rfl,hp4,ht4⟩
   rw [← HS.out] at hp4
   have HA4:=Lh (show S3.asked.length≤st.asked.length+1 by rw [HS.out,ku];exact HA2.out)
   have HP4:=Lh hp4
   have HR4:=Lh (ht4.row HR3.out (by have:=HZ.out;omega))
   have HT4:=Lh (HT3.out.trans (ht4.mono fun _ _ h=>h))
   have HS4:=Lh (show qk w4 W.heap.size w4.heap.size a1 L from HS3.out.carry lz ht4.size (fun b h1 h2=>ht4.block b h2 (by have:=HZ.out;omega)))
   have HZ4:=Lh (Nat.le_trans HZ3.out ht4.size)
   clear hp4 ht4 HP3 HR3 HT3 HS3 HZ3 HS
   have HNU:=Lh (tg thrN 1 (L.length:Int) HP4.out (by decide) (by have:=HA4.out;have:=HA.out;omega))
   obtain ⟨N,hN⟩:∃N,N=qP v thrN 1 (L.length:Int) S3:=⟨_,rfl⟩
   rw [← hN] at HNU HK
   clear hN
   obtain ⟨nn,S4⟩:=N
   dsimp only at HNU HK
   go_wp2_with fail
   refine HNU.out.mono ?_
   clear HNU
   rintro r w5 ⟨rfl,hp5,ht5⟩
   have HP5:=Lh hp5
   have hr5:=ht5.row HR4.out (by have:=HZ.out;omega)
   have HR5:=Lh hr5
   have HT5:=Lh (HT4.out.trans (ht5.mono fun _ _ h=>h))
   have HS5:=Lh (show qk w5 W.heap.size w5.heap.size a1 L from HS4.out.carry lz ht5.size (fun b h1 h2=>ht5.block b h2 (by have:=HZ.out;omega)))
   have HZ5:=Lh (Nat.le_trans HZ4.out ht5.size)
   clear hp5 ht5 HP4 HR4 HT4 HS4 HZ4
   go_wp2_with fail
   refine (tR HP5.out).mono ?_
   rintro r w6 ⟨rfl,h6⟩
   subst h6
   have t0:=hr5.cell (i:=0) (by decide);have t1:=hr5.cell (i:=1) (by decide)
   have s0:=hr5.frozen 0;have s1:=hr5.frozen 1
   simp only [jl] at t0 t1
   clear hr5
   have HTW:=Lh (show Touch (fun b=>b=o∨b=m) w w5 from (Touch.of_below HB.out lz).trans HT5.out)
   by_cases he:S4.err=0
   · have e1:(S4.err != 0)=false:=by simpa using he
     rw [if_neg (by simp [he])] at HK
     clear he
     go_wp2
     refine bodyPost_ret (results_cell_row Tryz.results122 _ _ w.heap.size 31 _ (0,0) _ rfl (zG (set2 _ _ HR5.out)) Tryz.underlying31 rfl (by kernel_rfl)) rfl ?_
     unfold vb
     rw [HK.out]
     have hput:Touch (fun b=>b=w.heap.size) w5 ((w5.setCell ⟨w.heap.size,0,none⟩ (.int .i64 nn)).setCell ⟨w.heap.size,1,none⟩ (.slice a1 L.length c1)):=(qY _).trans (qY _)
     refine ⟨⟨a1,c1,rfl,HCAP.out,?_⟩,HP5.out.touch hput (by have:=HZ.out;omega) (by have:=HZ.out;omega) HZ.out.2.2.1,?_⟩
     · refine HS5.out.carry (by have:=HZ.out;omega) hput.size (fun b h1 h2=>hput.block b h2 (by have:=HZ.out;omega))
     · exact ((HTW.out.setCell (p:=⟨w.heap.size,0,none⟩) (.inr lz) _).setCell (p:=⟨w.heap.size,1,none⟩) (.inr lz) _)
   · have e1:(S4.err != 0)=true:=by simpa using he
     rw [if_pos he] at HK
     clear he
     go_wp2
     refine bodyPost_ret (results_cell_row Tryz.results122 _ _ w.heap.size 31 _ (0,0) _ rfl (zG (set2 _ _ HR5.out)) Tryz.underlying31 rfl (by kernel_rfl)) rfl ?_
     unfold vb
     rw [HK.out]
     have hput:Touch (fun b=>b=w.heap.size) w5 ((w5.setCell ⟨w.heap.size,0,none⟩ (.int .i64 0)).setCell ⟨w.heap.size,1,none⟩ (.slice none 0 0)):=(qY _).trans (qY _)
     refine ⟨⟨none,0,rfl,Nat.le_refl _,.inl rfl⟩,HP5.out.touch hput (by have:=HZ.out;omega) (by have:=HZ.out;omega) HZ.out.2.2.1,?_⟩
     exact ((HTW.out.setCell (p:=⟨w.heap.size,0,none⟩) (.inr lz) _).setCell (p:=⟨w.heap.size,1,none⟩) (.inr lz) _)
end Go.Proofs.YthgembbgcbaghaaGreatDoor

namespace Go.Proofs.YthgembbgcbaghaaGreatDoor
open Go.RowKit
theorem pM {v:JV} {y:ByteArray} {st:PS}:(qb v y st).1.size≤v.wt:=by
 unfold qb
 split
 · exact Nat.zero_le _
 · split
   · exact Nat.zero_le _
   · rename_i it hit
     split
     · have h2:=it.wt_bd
       obtain ⟨j,hj,rfl⟩:=List.getElem_of_mem (kr hit).2
       have h4:=JV.wts_get v.items j hj
       have h5:=v.wt_bd
       show v.items[j].t.size≤v.wt
       omega
     · exact Nat.zero_le _
theorem uI {v:JV} {y:ByteArray} {l h:Int} {st:PS} (h0:l≤h) (hl:0≤l):0≤(qP v y l h st).1∧(qP v y l h st).1≤h:=by
 unfold qP
 split
 · exact ⟨Int.le_refl _,by show (0:Int)≤h;omega⟩
 · split
   · exact ⟨Int.le_refl _,by show (0:Int)≤h;omega⟩
   · split
     · exact ⟨Int.le_refl _,by show (0:Int)≤h;omega⟩
     · split
       · exact ⟨Int.le_refl _,by show (0:Int)≤h;omega⟩
       · rename_i it _ _ h1
         show 0≤it.n∧it.n≤h
         omega
theorem tQ {v:JV} {y:ByteArray} {most:Nat} {st:PS}:(qd v y most st).2.asked.length≤st.asked.length+1:=by
 unfold qd
 split
 · exact Nat.le_succ _
 · split
   · exact Nat.le_succ _
   · split
     · exact Nat.le_succ _
     · split
       · exact Nat.le_succ _
       · simp
theorem sj {v:JV} {y:ByteArray} {st:PS}:(qF v y st).2.asked.length≤st.asked.length+1:=by
 unfold qF
 split
 · exact Nat.le_succ _
 · split
   · exact Nat.le_succ _
   · split
     · exact Nat.le_succ _
     · simp
theorem uO {v:JV} {st:PS}:(jT v st).2.asked.length≤st.asked.length+2:=by
 have h1:=(@xf v qy 16 st).2.2
 have h2:(jA v st).asked.length≤st.asked.length+1:=by
  unfold jA
  rw [ku]
  split
  · rw [ku];exact h1
  · exact h1
 have h3:=@h9 v thrN 1 ((qv v qy 16 st).1.length:Int) (jA v st)
 show (kT v st).2.asked.length≤_
 unfold kT
 omega
theorem pC {v:JV} {st:PS} (hv:v.wt≤4294967296):xy (jT v st).1:=by
 unfold jT
 split
 · show xy authZ
   exact ⟨⟨by decide,by decide⟩,by decide,fun s hs=>(by cases hs)⟩
 · have h1:=@xf v qy 16 st
   have h2:(kT v st).1≤16∧0≤(kT v st).1:=by
    unfold kT
    by_cases h:(qv v qy 16 st).1=[]
    · have:(jA v st).err≠0:=by
       unfold jA
       rw [if_pos h,h]
       generalize (qv v qy 16 st).2=q
       unfold PS.fail
       by_cases hq:q.err=0
       · simp [hq]
       · simp [hq]
      unfold qP
      rw [if_pos this]
      show (0:Int)≤16∧(0:Int)≤0
      exact ⟨by decide,by decide⟩
    · have hl:0<(qv v qy 16 st).1.length:=List.length_pos_iff.2 h
      have:=@uI v thrN 1 ((qv v qy 16 st).1.length:Int) (jA v st) (by omega) (by omega)
      omega
   exact ⟨⟨by show -9223372036854775808≤(kT v st).1;omega,by show (kT v st).1≤9223372036854775807;omega⟩,by show (qv v qy 16 st).1.length≤_;omega,fun s hs=>Nat.le_trans (h1.2.1 s hs) hv⟩
def rgN (u:JV) (st:PS):ByteArray × PS:=qb u zh st
def rgA (u:JV) (st:PS):AuthV × PS:=jT u (rgN u st).2
def rgT (u:JV) (st:PS):Bool × PS:=qF u trmN (rgA u st).2
def rgP (u:JV) (st:PS):(List ByteArray × List ByteArray) × PS:=if qA u zH (rgT u st).2 then (([],(qv u zH 32 (rgT u st).2).1),(qv u zH 32 (rgT u st).2).2) else (((qv u xQ 32 (rgT u st).2).1,[]),(qv u xQ 32 (rgT u st).2).2)
def rgX (u:JV) (st:PS):DelegV:=⟨(rgN u st).1,(rgA u st).1,(rgT u st).1,(rgP u st).1.1,(rgP u st).1.2⟩
def du (u:JV) (st:PS):DelegV × Int:=if qp u (rgP u st).2≠0 then (kq,qp u (rgP u st).2) else if qi (rgX u st) then (rgX u st,0) else (kq,3)
theorem lD {v:JV} (h:v.kind=5):du v ⟨[],0⟩=zZ v:=by
 unfold zZ
 rw [if_neg (by simp [h])]
 rfl
theorem lL:du zf ⟨[],10⟩=(kq,10):=by decide +kernel
theorem tZ {u:JV} {st:PS} (h:st.asked.length≤1000):(rgN u st).2.asked.length≤1001∧(rgA u st).2.asked.length≤1003∧(rgT u st).2.asked.length≤1004:=by
 have h1:=@rL u zh st
 have h2:=@uO u (rgN u st).2
 have h3:=@sj u trmN (rgA u st).2
 have e1:(rgN u st).2.asked.length≤1001:=by unfold rgN;omega
 have e2:(rgA u st).2.asked.length≤1003:=by unfold rgA;omega
 exact ⟨e1,e2,by unfold rgT;omega⟩
def bgA (u:JV) (st:PS):AuthV × PS:=jT u st
def bgB (u:JV) (st:PS):Int × PS:=qP u jp 1 32 (bgA u st).2
def bgP (u:JV) (st:PS):ByteArray × PS:=qb u jC (bgB u st).2
def dm (u:JV) (st:PS):BinsV × Int:=if qp u (bgP u st).2≠0 then (binsZ,qp u (bgP u st).2) else if qS ⟨(bgB u st).1,(bgP u st).1,(bgA u st).1⟩ then (⟨(bgB u st).1,(bgP u st).1,(bgA u st).1⟩,0) else (binsZ,3)
theorem lR {v:JV} (h:v.kind=5):dm v ⟨[],0⟩=xj v:=by
 unfold xj
 rw [if_neg (by simp [h])]
 rfl
theorem lN:dm zf ⟨[],10⟩=(binsZ,10):=by decide +kernel
theorem tX {u:JV} {st:PS} (h:st.asked.length≤1000):(bgA u st).2.asked.length≤1002∧(bgB u st).2.asked.length≤1003:=by
 have h1:=@uO u st
 have h2:=@h9 u jp 1 32 (bgA u st).2
 have e1:(bgA u st).2.asked.length≤1002:=by unfold bgA;omega
 exact ⟨e1,by unfold bgB;omega⟩
end Go.Proofs.YthgembbgcbaghaaGreatDoor

namespace Go.Proofs.YthgembbgcbaghaaGreatDoor
open Go.RowKit Go.Shelf Go.Sort
def kL (r:DelegV × Int) (w:World) (e:Ending) (w':World):Prop :=
 ∃ia ic pa pc qa qc,e=.returned (.tuple #[.agg #[.string r.1.name,.int .i64 r.1.au.thr,.slice ia r.1.au.ids.length ic,.bool r.1.term,.slice pa r.1.paths.length pc,.slice qa r.1.pres.length qc],.int .i64 r.2])∧(r.1.au.ids.length≤ic∧r.1.paths.length≤pc∧r.1.pres.length≤qc)∧DelegIn w' w.heap.size w'.heap.size r.1 ia pa qa∧Below w.heap.size w w'
theorem j6 {er:Int} {w w':World} (hb:Below w.heap.size w w'):kL (kq,er) w (.returned (.tuple #[.agg #[.string ⟨#[]⟩,.int .i64 0,.slice none 0 0,.bool false,.slice none 0 0,.slice none 0 0],.int .i64 er])) w' :=
 ⟨none,0,none,0,none,0,rfl,⟨Nat.le_refl _,Nat.le_refl _,Nat.le_refl _⟩,⟨.inl rfl,.inl rfl,.inl rfl⟩,hb⟩
set_option maxHeartbeats 4000000 in
set_option maxRecDepth 100000 in
theorem fe (C:JV→Prop) (st:PS) (v:JV) (x:Value) (w:World) (hR:Rep w 0 w.heap.size v x) (ha:st.asked.length≤1000)
 (hOf:∀w1,Below w.heap.size w w1→Calls Tryz.prog 60 #[x] w1 (wR C st w1)) :
 Calls Tryz.prog 125 #[x] w (fun e w'=>∃u,C u∧kL (du u st) w e w'):=by
 obtain ⟨an,cn,ai,ci,hx,h1,h2,h3,h4⟩:=hR.parts
 clear h1 h2 h3 h4
 subst hx
 obtain ⟨W,hW⟩:∃W,W=(w.alloc (.cells #[.int .u8 v.kind,.int .i64 v.n,.string v.t,.slice an v.names.length cn,.slice ai v.items.length ci] 25)).alloc (.cells #[.string ⟨#[]⟩,.int .i64 0,.slice none 0 0,.bool false,.slice none 0 0,.slice none 0 0] 41):=⟨_,rfl⟩
 have hz1:(w.alloc (.cells #[.int .u8 v.kind,.int .i64 v.n,.string v.t,.slice an v.names.length cn,.slice ai v.items.length ci] 25)).heap.size=w.heap.size+1:=by simp
 have hb:Below w.heap.size w W:=by rw [hW];exact ((Below.refl _ _).alloc lz _).alloc (by simp) _
 have hx0:W.heap[w.heap.size]?=some (.cells #[.int .u8 v.kind,.int .i64 v.n,.string v.t,.slice an v.names.length cn,.slice ai v.items.length ci] 25 (0,0)):=by rw [hW];exact zi w _ _
 have hr0:W.rowIs (w.heap.size+1) 41 6 (qt (.string ⟨#[]⟩) (.int .i64 0) (.slice none 0 0) (.bool false) (.slice none 0 0) (.slice none 0 0)):=by
  have:=xk (w.alloc (.cells #[.int .u8 v.kind,.int .i64 v.n,.string v.t,.slice an v.names.length cn,.slice ai v.items.length ci] 25)) (.string ⟨#[]⟩) (.int .i64 0) (.slice none 0 0) (.bool false) (.slice none 0 0) (.slice none 0 0) 41
  rw [hz1,← hW] at this
  exact this
 have HOF:=Lh (hOf W hb)
 have HB:=Lh hb
 have HX0:=Lh hx0
 have HR0:=Lh hr0
 have HW:=Lh hW
 have HA:=Lh ha
 have HZ1:=Lh (show w.heap.size+2≤W.heap.size from hr0.lt)
 clear hOf hW hz1 hb hx0 hr0 hR ha
 obtain ⟨c0,c1,c2,c3,c4⟩:=bx5 HX0.out
 go_enter Tryz.func125,Tryz.ntmps125
 go_upto_region 1 with fail
 rw [← HW.out]
 clear HW
 go_wp2_with fail
 refine HOF.out.mono ?_
 clear HOF c0 c1 c2 c3 c4
 rintro e w2 ⟨u,o,m,lo,hi,an2,ai2,cn2,ci2,hC,hu,rfl,hp2,ho2,hm2,hb2⟩
 have HC:=Lh hC
 have HU:=Lh hu
 have hlt:=hp2.lt
 obtain ⟨p,hpp⟩:∃p,p=w2.heap.size:=⟨_,rfl⟩
 obtain ⟨W3,hW3⟩:∃W3,W3=w2.alloc (.cells #[.string ⟨#[]⟩,.int .i64 0,.slice none 0 0,.bool false,.slice none 0 0,.slice none 0 0] 41):=⟨_,rfl⟩
 have hb3:Below w2.heap.size w2 W3:=by rw [hW3];exact (Below.refl _ _).alloc lz _
 have hq3:W3.rowIs p 41 6 (qt (.string ⟨#[]⟩) (.int .i64 0) (.slice none 0 0) (.bool false) (.slice none 0 0) (.slice none 0 0)):=by rw [hW3,hpp];exact xk _ _ _ _ _ _ _ _
 have HN:=Lh (show p≠o∧p≠m∧hi≤p∧w.heap.size+2≤o∧w.heap.size+2≤m∧w.heap.size+2≤p∧p<W3.heap.size∧o<W3.heap.size∧m<W3.heap.size from by
  have h1:=hb2.size;have h2:=hq3.lt;have h3:=HZ1.out;have h4:=hb3.size;omega)
 have HP:=Lh (hp2.below hb3)
 have HR:=Lh (qj (hb2.trans (hb3.mono hb2.size)) HR0.out HR0.out.lt)
 replace HB:=Lh (HB.out.trans ((hb2.trans (hb3.mono hb2.size)).mono HB.out.size))
 have HQ:=Lh hq3
 have HZ:=Lh (Nat.le_refl W3.heap.size)
 have HW3:=Lh hW3
 have HPE:=Lh hpp
 clear hC hu hlt hp2 ho2 hm2 hb2 hb3 hq3 hW3 hpp HR0 HX0 HZ1
 have HLN:=Lh (@tZ u st HA.out)
 have HFN:=Lh (Nat.le_trans (@pM u zh st) HU.out)
 have HTX:=Lh (aH zh HP.out (by decide) (by have:=HA.out;omega))
 rw [show qb u zh st=rgN u st from rfl] at HTX HFN
 have HA1:=Lh (show rgA u st=jT u (rgN u st).2 from rfl)
 have HG:=Lh (show du u st=if qp u (rgP u st).2≠0 then (kq,qp u (rgP u st).2) else if qi (rgX u st) then (rgX u st,0) else (kq,3) from rfl)
 have HX1:=Lh (show rgX u st=⟨(rgN u st).1,(rgA u st).1,(rgT u st).1,(rgP u st).1.1,(rgP u st).1.2⟩ from rfl)
 have HT1:=Lh (show rgT u st=qF u trmN (rgA u st).2 from rfl)
 have HP1:=Lh (show rgP u st=if qA u zH (rgT u st).2 then (([],(qv u zH 32 (rgT u st).2).1),(qv u zH 32 (rgT u st).2).2) else (((qv u xQ 32 (rgT u st).2).1,[]),(qv u xQ 32 (rgT u st).2).2) from rfl)
 obtain ⟨GX,hGX⟩:∃GX,GX=rgX u st:=⟨_,rfl⟩
 rw [← hGX] at HG HX1
 clear hGX
 have HL1:=Lh HLN.out.1
 obtain ⟨GN,hGN⟩:∃GN,GN=rgN u st:=⟨_,rfl⟩
 rw [← hGN] at HTX HA1 HX1 HL1 HFN
 clear hGN
 obtain ⟨nm,SN⟩:=GN
 dsimp only at HTX HA1 HX1 HL1 HFN
 go_upto_region 3 with fail
 rw [← HW3.out,← HPE.out]
 clear HPE HW3
 go_wp2_with fail
 refine HTX.out.mono ?_
 clear HTX
 rintro e w4 ⟨rfl,hp',ht'⟩
 replace HP:=Lh hp'
 replace HR:=Lh (ht'.row HR.out (by have:=HN.out;omega))
 replace HQ:=Lh (ht'.row HQ.out (by have:=HN.out;omega))
 replace HB:=Lh (HB.out.trans (ht'.below (by have:=HB.out.size;omega) fun k hk e=>by have:=HN.out;omega))
 replace HZ:=Lh (Nat.le_trans HZ.out ht'.size)
 clear hp' ht'
 have e0:=HQ.out.cell (i:=0) (by decide)
 have f0:=HQ.out.frozen 0
 simp only [qt] at e0
 obtain ⟨W5,hW5⟩:∃W5,W5=w4.setCell ⟨p,0,none⟩ (.string nm):=⟨_,rfl⟩
 have hput:Touch (fun b=>b=p) w4 W5:=by rw [hW5];exact (Touch.refl _ _).trans (qY _)
 replace HQ:=Lh (show W5.rowIs p 41 6 (qt (.string nm) (.int .i64 0) (.slice none 0 0) (.bool false) (.slice none 0 0) (.slice none 0 0)) from by
  rw [hW5]
  refine (HQ.out.set 0 _).congr fun j hj=>?_
  rcases j with _|_|_|_|_|_|j <;> first|rfl|omega)
 replace HP:=Lh (HP.out.touch hput HN.out.1 HN.out.2.1 HN.out.2.2.1)
 replace HR:=Lh (hput.row HR.out (by have:=HN.out;omega))
 replace HB:=Lh (HB.out.trans (hput.below (by have:=HB.out.size;omega) fun k hk e=>by have:=HN.out;omega))
 replace HZ:=Lh (Nat.le_trans HZ.out hput.size)
 have HW5:=Lh hW5
 clear hput hW5
 go_upto_region 4 with fail
 rw [← HW5.out]
 clear HW5 e0 f0
 have HPA:=Lh (uT HP.out HU.out (by have:=HL1.out;omega))
 have HFA:=Lh (@pC u SN HU.out)
 rw [← HA1.out] at HPA HFA
 have HL2:=Lh HLN.out.2.1
 obtain ⟨GA,hGA⟩:∃GA,GA=rgA u st:=⟨_,rfl⟩
 rw [← hGA] at HPA HFA HX1 HT1 HL2
 clear hGA HA1
 obtain ⟨au,SA⟩:=GA
 dsimp only at HPA HFA HX1 HT1 HL2
 go_wp2_with fail
 refine HPA.out.mono ?_
 clear HPA
 rintro e w6 ⟨⟨ia,ic,rfl,hcp,hs⟩,hp',ht'⟩
 have HCA:=Lh (show au.ids.length≤ic from hcp)
 have HSA:=Lh (show qk w6 W3.heap.size w6.heap.size ia au.ids from hs.carry HZ.out lz (fun _ _ _=>rfl))
 clear hcp hs
 replace HP:=Lh hp'
 replace HR:=Lh (ht'.row HR.out (by have:=HN.out;omega))
 replace HQ:=Lh (ht'.row HQ.out (by have:=HN.out;omega))
 replace HB:=Lh (HB.out.trans (ht'.below (by have:=HB.out.size;omega) fun k hk e=>by have:=HN.out;omega))
 replace HZ:=Lh (Nat.le_trans HZ.out ht'.size)
 clear hp' ht'
 have e1:=HQ.out.cell (i:=1) (by decide)
 have f1:=HQ.out.frozen 1
 simp only [qt] at e1
 have e2:=HQ.out.cell (i:=2) (by decide)
 have f2:=HQ.out.frozen 2
 simp only [qt] at e2
 obtain ⟨W7,hW7⟩:∃W7,W7=(w6.setCell ⟨p,1,none⟩ (.int .i64 au.thr)).setCell ⟨p,2,none⟩ (.slice ia au.ids.length ic):=⟨_,rfl⟩
 have hput:Touch (fun b=>b=p) w6 W7:=by rw [hW7];exact ((Touch.refl _ _).trans (qY _)).trans (qY _)
 replace HQ:=Lh (show W7.rowIs p 41 6 (qt (.string nm) (.int .i64 au.thr) (.slice ia au.ids.length ic) (.bool false) (.slice none 0 0) (.slice none 0 0)) from by
  rw [hW7]
  refine ((HQ.out.set 1 _).set 2 _).congr fun j hj=>?_
  rcases j with _|_|_|_|_|_|j <;> first|rfl|omega)
 replace HP:=Lh (HP.out.touch hput HN.out.1 HN.out.2.1 HN.out.2.2.1)
 replace HR:=Lh (hput.row HR.out (by have:=HN.out;omega))
 replace HB:=Lh (HB.out.trans (hput.below (by have:=HB.out.size;omega) fun k hk e=>by have:=HN.out;omega))
 replace HZ:=Lh (Nat.le_trans HZ.out hput.size)
 replace HSA:=Lh (HSA.out.carry lz hput.size (fun b h1 h2=>hput.block b h2 (by have:=HN.out;omega)))
 have HW7:=Lh hW7
 clear hput hW7
 go_upto_region 5 with fail
 rw [← HW7.out]
 clear HW7 e1 f1 e2 f2
 have HBO:=Lh (tS trmN HP.out (by decide) (by have:=HL2.out;omega))
 rw [← HT1.out] at HBO
 have HL3:=Lh HLN.out.2.2
 obtain ⟨GT,hGT⟩:∃GT,GT=rgT u st:=⟨_,rfl⟩
 rw [← hGT] at HBO HX1 HP1 HL3
 clear hGT HT1
 obtain ⟨tm,ST⟩:=GT
 dsimp only at HBO HX1 HP1 HL3
 go_wp2_with fail
 refine HBO.out.mono ?_
 clear HBO
 rintro e w8 ⟨rfl,hp',ht'⟩
 replace HP:=Lh hp'
 replace HR:=Lh (ht'.row HR.out (by have:=HN.out;omega))
 replace HQ:=Lh (ht'.row HQ.out (by have:=HN.out;omega))
 replace HB:=Lh (HB.out.trans (ht'.below (by have:=HB.out.size;omega) fun k hk e=>by have:=HN.out;omega))
 replace HZ:=Lh (Nat.le_trans HZ.out ht'.size)
 replace HSA:=Lh (HSA.out.carry lz ht'.size (fun b h1 h2=>ht'.block b h2 (by have:=HN.out;omega)))
 clear hp' ht'
 have e3:=HQ.out.cell (i:=3) (by decide)
 have f3:=HQ.out.frozen 3
 simp only [qt] at e3
 obtain ⟨W9,hW9⟩:∃W9,W9=w8.setCell ⟨p,3,none⟩ (.bool tm):=⟨_,rfl⟩
 have hput:Touch (fun b=>b=p) w8 W9:=by rw [hW9];exact (Touch.refl _ _).trans (qY _)
 replace HQ:=Lh (show W9.rowIs p 41 6 (qt (.string nm) (.int .i64 au.thr) (.slice ia au.ids.length ic) (.bool tm) (.slice none 0 0) (.slice none 0 0)) from by
  rw [hW9]
  refine (HQ.out.set 3 _).congr fun j hj=>?_
  rcases j with _|_|_|_|_|_|j <;> first|rfl|omega)
 replace HP:=Lh (HP.out.touch hput HN.out.1 HN.out.2.1 HN.out.2.2.1)
 replace HR:=Lh (hput.row HR.out (by have:=HN.out;omega))
 replace HB:=Lh (HB.out.trans (hput.below (by have:=HB.out.size;omega) fun k hk e=>by have:=HN.out;omega))
 replace HZ:=Lh (Nat.le_trans HZ.out hput.size)
 replace HSA:=Lh (HSA.out.carry lz hput.size (fun b h1 h2=>hput.block b h2 (by have:=HN.out;omega)))
 have HW9:=Lh hW9
 clear hput hW9
 go_upto_region 6 with fail
 rw [← HW9.out]
 clear HW9 e3 f3
 have HHS:=Lh (tN zH HP.out)
 go_wp2_with fail
 refine HHS.out.mono ?_
 clear HHS
 rintro e w10 ⟨rfl,hb'⟩
 replace HP:=Lh (HP.out.below hb')
 replace HR:=Lh (qj hb' HR.out HR.out.lt)
 replace HQ:=Lh (qj hb' HQ.out HQ.out.lt)
 replace HB:=Lh (HB.out.trans (hb'.mono HB.out.size))
 replace HZ:=Lh (Nat.le_trans HZ.out hb'.size)
 replace HSA:=Lh (HSA.out.below hb' lz lz hb'.size)
 clear hb'
 obtain ⟨hv,hhv⟩:∃hv,hv=qA u zH ST:=⟨_,rfl⟩
 rw [← hhv] at HP1 ⊢
 clear hhv
 cases hv with
 | true =>
  rw [if_pos rfl] at HP1
  have HTS:=Lh (m9 zH 32 HP.out (by decide) (by have:=HL3.out;omega))
  have HFT:=Lh (@xf u zH 32 ST)
  obtain ⟨GP,hGP⟩:∃GP,GP=qv u zH 32 ST:=⟨_,rfl⟩
  rw [← hGP] at HTS HFT HP1
  clear hGP
  obtain ⟨PL,SP⟩:=GP
  dsimp only at HTS HFT HP1
  rw [HP1.out] at HG HX1
  clear HP1
  dsimp only at HG HX1
  go_wp2_with fail
  refine HTS.out.mono ?_
  clear HTS
  rintro e w11 ⟨⟨pa,pc,rfl,hcp,hs⟩,hp',ht'⟩
  have HCP:=Lh (show PL.length≤pc from hcp)
  have HSP:=Lh (show qk w11 W3.heap.size w11.heap.size pa PL from hs.carry HZ.out lz (fun _ _ _=>rfl))
  clear hcp hs
  replace HP:=Lh hp'
  replace HR:=Lh (ht'.row HR.out (by have:=HN.out;omega))
  replace HQ:=Lh (ht'.row HQ.out (by have:=HN.out;omega))
  replace HB:=Lh (HB.out.trans (ht'.below (by have:=HB.out.size;omega) fun k hk e=>by have:=HN.out;omega))
  replace HZ:=Lh (Nat.le_trans HZ.out ht'.size)
  replace HSA:=Lh (HSA.out.carry lz ht'.size (fun b h1 h2=>ht'.block b h2 (by have:=HN.out;omega)))
  clear hp' ht'
  have e5:=HQ.out.cell (i:=5) (by decide)
  have f5:=HQ.out.frozen 5
  simp only [qt] at e5
  obtain ⟨W12,hW12⟩:∃W12,W12=w11.setCell ⟨p,5,none⟩ (.slice pa PL.length pc):=⟨_,rfl⟩
  have hput:Touch (fun b=>b=p) w11 W12:=by rw [hW12];exact (Touch.refl _ _).trans (qY _)
  replace HQ:=Lh (show W12.rowIs p 41 6 (qt (.string nm) (.int .i64 au.thr) (.slice ia au.ids.length ic) (.bool tm) (.slice none 0 0) (.slice pa PL.length pc)) from by
   rw [hW12]
   refine (HQ.out.set 5 _).congr fun j hj=>?_
   rcases j with _|_|_|_|_|_|j <;> first|rfl|omega)
  replace HP:=Lh (HP.out.touch hput HN.out.1 HN.out.2.1 HN.out.2.2.1)
  replace HR:=Lh (hput.row HR.out (by have:=HN.out;omega))
  replace HB:=Lh (HB.out.trans (hput.below (by have:=HB.out.size;omega) fun k hk e=>by have:=HN.out;omega))
  replace HZ:=Lh (Nat.le_trans HZ.out hput.size)
  replace HSA:=Lh (HSA.out.carry lz hput.size (fun b h1 h2=>hput.block b h2 (by have:=HN.out;omega)))
  replace HSP:=Lh (HSP.out.carry lz hput.size (fun b h1 h2=>hput.block b h2 (by have:=HN.out;omega)))
  have HW12:=Lh hW12
  clear hput hW12
  go_upto_region 9 with fail
  rw [← HW12.out]
  clear HW12 e5 f5
  have HD:=Lh (ui HP.out HU.out)
  obtain ⟨dn,hdn⟩:∃dn,dn=qp u SP:=⟨_,rfl⟩
  rw [← hdn] at HD HG
  clear hdn
  have hR:=HR.out
  obtain ⟨t0,t1,t2,t3,t4⟩:=rc5 hR;have t5:=hR.cell (i:=5) (by decide)
  obtain ⟨s0,s1,s2,s3,s4⟩:=rf5 hR;have s5:=hR.frozen 5
  simp only [qt] at t0 t1 t2 t3 t4 t5
  clear hR
  go_wp2_with fail
  refine HD.out.mono ?_
  clear HD
  rintro e w20 ⟨rfl,h'⟩
  subst h'
  by_cases hd:dn=0
  case neg =>
   have d1:(dn != 0)=true:=by simpa using hd
   rw [if_pos hd] at HG
   clear hd
   go_wp2
   refine bodyPost_ret (qw Tryz.results125 _ _ (w.heap.size+1) 41 _ (0,0) _ rfl (zb (wn _ _ _ _ _ _ HR.out)) Tryz.underlying41 rfl (by kernel_rfl) _ rfl) rfl ?_
   refine ⟨u,HC.out,?_⟩
   rw [HG.out]
   exact j6 (xJ _ _ _ _ _ _ HB.out (by omega))
  subst hd
  rw [if_neg (by decide)] at HG
  have HMY:=Lh (jf (⟨nm,au,tm,[],PL⟩:DelegV) ia none pa ic 0 pc W12 ⟨HSA.out.carry (Nat.zero_le _) lz (fun _ _ _=>rfl),(.inl rfl),HSP.out.carry (Nat.zero_le _) lz (fun _ _ _=>rfl)⟩ ⟨HFN.out,HFA.out,⟨Nat.zero_le _,fun s hs=>(by cases hs)⟩,⟨Nat.le_trans HFT.out.1 (by decide),fun s hs=>Nat.le_trans (HFT.out.2.1 s hs) HU.out⟩⟩)
  dsimp only [List.length_nil] at HMY
  rw [← HX1.out] at HMY
  obtain ⟨mb,hmb⟩:∃mb,mb=qi GX:=⟨_,rfl⟩
  rw [← hmb] at HMY HG
  clear hmb
  rw [HX1.out] at HG
  have e0:=HQ.out.cell (i:=0) (by decide)
  have f0:=HQ.out.frozen 0
  simp only [qt] at e0
  have e1:=HQ.out.cell (i:=1) (by decide)
  have f1:=HQ.out.frozen 1
  simp only [qt] at e1
  have e2:=HQ.out.cell (i:=2) (by decide)
  have f2:=HQ.out.frozen 2
  simp only [qt] at e2
  have e3:=HQ.out.cell (i:=3) (by decide)
  have f3:=HQ.out.frozen 3
  simp only [qt] at e3
  have e4:=HQ.out.cell (i:=4) (by decide)
  have f4:=HQ.out.frozen 4
  simp only [qt] at e4
  have e5:=HQ.out.cell (i:=5) (by decide)
  have f5:=HQ.out.frozen 5
  simp only [qt] at e5
  go_wp2_with fail
  refine HMY.out.mono ?_
  clear HMY e0 f0 e1 f1 e2 f2 e3 f3 e4 f4 e5 f5 t0 s0 t1 s1 t2 s2 t3 s3 t4 s4 t5 s5
  rintro e w21 ⟨rfl,hb'⟩
  replace HP:=Lh (HP.out.below hb')
  replace HR:=Lh (qj hb' HR.out HR.out.lt)
  replace HQ:=Lh (qj hb' HQ.out HQ.out.lt)
  replace HB:=Lh (HB.out.trans (hb'.mono HB.out.size))
  replace HZ:=Lh (Nat.le_trans HZ.out hb'.size)
  replace HSA:=Lh (HSA.out.below hb' lz lz hb'.size)
  replace HSP:=Lh (HSP.out.below hb' lz lz hb'.size)
  clear hb'
  have hR:=HR.out
  obtain ⟨t0,t1,t2,t3,t4⟩:=rc5 hR;have t5:=hR.cell (i:=5) (by decide)
  obtain ⟨s0,s1,s2,s3,s4⟩:=rf5 hR;have s5:=hR.frozen 5
  simp only [qt] at t0 t1 t2 t3 t4 t5
  have e0:=HQ.out.cell (i:=0) (by decide)
  have f0:=HQ.out.frozen 0
  simp only [qt] at e0
  have e1:=HQ.out.cell (i:=1) (by decide)
  have f1:=HQ.out.frozen 1
  simp only [qt] at e1
  have e2:=HQ.out.cell (i:=2) (by decide)
  have f2:=HQ.out.frozen 2
  simp only [qt] at e2
  have e3:=HQ.out.cell (i:=3) (by decide)
  have f3:=HQ.out.frozen 3
  simp only [qt] at e3
  have e4:=HQ.out.cell (i:=4) (by decide)
  have f4:=HQ.out.frozen 4
  simp only [qt] at e4
  have e5:=HQ.out.cell (i:=5) (by decide)
  have f5:=HQ.out.frozen 5
  simp only [qt] at e5
  clear hR
  cases mb with
  | false =>
   rw [if_neg (by decide)] at HG
   go_wp2
   refine bodyPost_ret (qw Tryz.results125 _ _ (w.heap.size+1) 41 _ (0,0) _ rfl (zb (wn _ _ _ _ _ _ HR.out)) Tryz.underlying41 rfl (by kernel_rfl) _ rfl) rfl ?_
   refine ⟨u,HC.out,?_⟩
   rw [HG.out]
   exact j6 (xJ _ _ _ _ _ _ HB.out (by omega))
  | true =>
   rw [if_pos rfl] at HG
   have HZB:=Lh (show w.heap.size+2≤W3.heap.size from by have:=HN.out;omega)
   go_wp2
   refine bodyPost_ret (qw Tryz.results125 _ _ (w.heap.size+1) 41 _ (0,0) _ rfl (zb (wn _ _ _ _ _ _ HR.out)) Tryz.underlying41 rfl (by kernel_rfl) _ rfl) rfl ?_
   refine ⟨u,HC.out,?_⟩
   rw [HG.out]
   have hc:=fun b (h1:W3.heap.size≤b) (h2:b<w21.heap.size)=>gi (W:=w21) (.string nm) (.int .i64 au.thr) (.slice ia au.ids.length ic) (.bool tm) (.slice none 0 0) (.slice pa PL.length pc) (show b≠w.heap.size+1 by have:=HZB.out;omega)
   exact ⟨ia,ic,none,0,pa,pc,rfl,⟨HCA.out,Nat.le_refl _,HCP.out⟩,⟨HSA.out.carry (by have:=HZB.out;omega) (Nat.le_of_eq wZ.symm) hc,(.inl rfl),HSP.out.carry (by have:=HZB.out;omega) (Nat.le_of_eq wZ.symm) hc⟩,xJ _ _ _ _ _ _ HB.out (by omega)⟩
 | false =>
  rw [if_neg (by decide)] at HP1
  have HTS:=Lh (m9 xQ 32 HP.out (by decide) (by have:=HL3.out;omega))
  have HFT:=Lh (@xf u xQ 32 ST)
  obtain ⟨GP,hGP⟩:∃GP,GP=qv u xQ 32 ST:=⟨_,rfl⟩
  rw [← hGP] at HTS HFT HP1
  clear hGP
  obtain ⟨PL,SP⟩:=GP
  dsimp only at HTS HFT HP1
  rw [HP1.out] at HG HX1
  clear HP1
  dsimp only at HG HX1
  go_wp2_with fail
  refine HTS.out.mono ?_
  clear HTS
  rintro e w11 ⟨⟨pa,pc,rfl,hcp,hs⟩,hp',ht'⟩
  have HCP:=Lh (show PL.length≤pc from hcp)
  have HSP:=Lh (show qk w11 W3.heap.size w11.heap.size pa PL from hs.carry HZ.out lz (fun _ _ _=>rfl))
  clear hcp hs
  replace HP:=Lh hp'
  replace HR:=Lh (ht'.row HR.out (by have:=HN.out;omega))
  replace HQ:=Lh (ht'.row HQ.out (by have:=HN.out;omega))
  replace HB:=Lh (HB.out.trans (ht'.below (by have:=HB.out.size;omega) fun k hk e=>by have:=HN.out;omega))
  replace HZ:=Lh (Nat.le_trans HZ.out ht'.size)
  replace HSA:=Lh (HSA.out.carry lz ht'.size (fun b h1 h2=>ht'.block b h2 (by have:=HN.out;omega)))
  clear hp' ht'
  have e4:=HQ.out.cell (i:=4) (by decide)
  have f4:=HQ.out.frozen 4
  simp only [qt] at e4
  obtain ⟨W12,hW12⟩:∃W12,W12=w11.setCell ⟨p,4,none⟩ (.slice pa PL.length pc):=⟨_,rfl⟩
  have hput:Touch (fun b=>b=p) w11 W12:=by rw [hW12];exact (Touch.refl _ _).trans (qY _)
  replace HQ:=Lh (show W12.rowIs p 41 6 (qt (.string nm) (.int .i64 au.thr) (.slice ia au.ids.length ic) (.bool tm) (.slice pa PL.length pc) (.slice none 0 0)) from by
   rw [hW12]
   refine (HQ.out.set 4 _).congr fun j hj=>?_
   rcases j with _|_|_|_|_|_|j <;> first|rfl|omega)
  replace HP:=Lh (HP.out.touch hput HN.out.1 HN.out.2.1 HN.out.2.2.1)
  replace HR:=Lh (hput.row HR.out (by have:=HN.out;omega))
  replace HB:=Lh (HB.out.trans (hput.below (by have:=HB.out.size;omega) fun k hk e=>by have:=HN.out;omega))
  replace HZ:=Lh (Nat.le_trans HZ.out hput.size)
  replace HSA:=Lh (HSA.out.carry lz hput.size (fun b h1 h2=>hput.block b h2 (by have:=HN.out;omega)))
  replace HSP:=Lh (HSP.out.carry lz hput.size (fun b h1 h2=>hput.block b h2 (by have:=HN.out;omega)))
  have HW12:=Lh hW12
  clear hput hW12
  go_upto_region 9 with fail
  rw [← HW12.out]
  clear HW12 e4 f4
  have HD:=Lh (ui HP.out HU.out)
  obtain ⟨dn,hdn⟩:∃dn,dn=qp u SP:=⟨_,rfl⟩
  rw [← hdn] at HD HG
  clear hdn
  have hR:=HR.out
  obtain ⟨t0,t1,t2,t3,t4⟩:=rc5 hR;have t5:=hR.cell (i:=5) (by decide)
  obtain ⟨s0,s1,s2,s3,s4⟩:=rf5 hR;have s5:=hR.frozen 5
  simp only [qt] at t0 t1 t2 t3 t4 t5
  clear hR
  go_wp2_with fail
  refine HD.out.mono ?_
  clear HD
  rintro e w20 ⟨rfl,h'⟩
  subst h'
  by_cases hd:dn=0
  case neg =>
   have d1:(dn != 0)=true:=by simpa using hd
   rw [if_pos hd] at HG
   clear hd
   go_wp2
   refine bodyPost_ret (qw Tryz.results125 _ _ (w.heap.size+1) 41 _ (0,0) _ rfl (zb (wn _ _ _ _ _ _ HR.out)) Tryz.underlying41 rfl (by kernel_rfl) _ rfl) rfl ?_
   refine ⟨u,HC.out,?_⟩
   rw [HG.out]
   exact j6 (xJ _ _ _ _ _ _ HB.out (by omega))
  subst hd
  rw [if_neg (by decide)] at HG
  have HMY:=Lh (jf (⟨nm,au,tm,PL,[]⟩:DelegV) ia pa none ic pc 0 W12 ⟨HSA.out.carry (Nat.zero_le _) lz (fun _ _ _=>rfl),HSP.out.carry (Nat.zero_le _) lz (fun _ _ _=>rfl),(.inl rfl)⟩ ⟨HFN.out,HFA.out,⟨Nat.le_trans HFT.out.1 (by decide),fun s hs=>Nat.le_trans (HFT.out.2.1 s hs) HU.out⟩,⟨Nat.zero_le _,fun s hs=>(by cases hs)⟩⟩)
  dsimp only [List.length_nil] at HMY
  rw [← HX1.out] at HMY
  obtain ⟨mb,hmb⟩:∃mb,mb=qi GX:=⟨_,rfl⟩
  rw [← hmb] at HMY HG
  clear hmb
  rw [HX1.out] at HG
  have e0:=HQ.out.cell (i:=0) (by decide)
  have f0:=HQ.out.frozen 0
  simp only [qt] at e0
  have e1:=HQ.out.cell (i:=1) (by decide)
  have f1:=HQ.out.frozen 1
  simp only [qt] at e1
  have e2:=HQ.out.cell (i:=2) (by decide)
  have f2:=HQ.out.frozen 2
  simp only [qt] at e2
  have e3:=HQ.out.cell (i:=3) (by decide)
  have f3:=HQ.out.frozen 3
  simp only [qt] at e3
  have e4:=HQ.out.cell (i:=4) (by decide)
  have f4:=HQ.out.frozen 4
  simp only [qt] at e4
  have e5:=HQ.out.cell (i:=5) (by decide)
  have f5:=HQ.out.frozen 5
  simp only [qt] at e5
  go_wp2_with fail
  refine HMY.out.mono ?_
  clear HMY e0 f0 e1 f1 e2 f2 e3 f3 e4 f4 e5 f5 t0 s0 t1 s1 t2 s2 t3 s3 t4 s4 t5 s5
  rintro e w21 ⟨rfl,hb'⟩
  replace HP:=Lh (HP.out.below hb')
  replace HR:=Lh (qj hb' HR.out HR.out.lt)
  replace HQ:=Lh (qj hb' HQ.out HQ.out.lt)
  replace HB:=Lh (HB.out.trans (hb'.mono HB.out.size))
  replace HZ:=Lh (Nat.le_trans HZ.out hb'.size)
  replace HSA:=Lh (HSA.out.below hb' lz lz hb'.size)
  replace HSP:=Lh (HSP.out.below hb' lz lz hb'.size)
  clear hb'
  have hR:=HR.out
  obtain ⟨t0,t1,t2,t3,t4⟩:=rc5 hR;have t5:=hR.cell (i:=5) (by decide)
  obtain ⟨s0,s1,s2,s3,s4⟩:=rf5 hR;have s5:=hR.frozen 5
  simp only [qt] at t0 t1 t2 t3 t4 t5
  have e0:=HQ.out.cell (i:=0) (by decide)
  have f0:=HQ.out.frozen 0
  simp only [qt] at e0
  have e1:=HQ.out.cell (i:=1) (by decide)
  have f1:=HQ.out.frozen 1
  simp only [qt] at e1
  have e2:=HQ.out.cell (i:=2) (by decide)
  have f2:=HQ.out.frozen 2
  simp only [qt] at e2
  have e3:=HQ.out.cell (i:=3) (by decide)
  have f3:=HQ.out.frozen 3
  simp only [qt] at e3
  have e4:=HQ.out.cell (i:=4) (by decide)
  have f4:=HQ.out.frozen 4
  simp only [qt] at e4
  have e5:=HQ.out.cell (i:=5) (by decide)
  have f5:=HQ.out.frozen 5
  simp only [qt] at e5
  clear hR
  cases mb with
  | false =>
   rw [if_neg (by decide)] at HG
   go_wp2
   refine bodyPost_ret (qw Tryz.results125 _ _ (w.heap.size+1) 41 _ (0,0) _ rfl (zb (wn _ _ _ _ _ _ HR.out)) Tryz.underlying41 rfl (by kernel_rfl) _ rfl) rfl ?_
   refine ⟨u,HC.out,?_⟩
   rw [HG.out]
   exact j6 (xJ _ _ _ _ _ _ HB.out (by omega))
  | true =>
   rw [if_pos rfl] at HG
   have HZB:=Lh (show w.heap.size+2≤W3.heap.size from by have:=HN.out;omega)
   go_wp2
   refine bodyPost_ret (qw Tryz.results125 _ _ (w.heap.size+1) 41 _ (0,0) _ rfl (zb (wn _ _ _ _ _ _ HR.out)) Tryz.underlying41 rfl (by kernel_rfl) _ rfl) rfl ?_
   refine ⟨u,HC.out,?_⟩
   rw [HG.out]
   have hc:=fun b (h1:W3.heap.size≤b) (h2:b<w21.heap.size)=>gi (W:=w21) (.string nm) (.int .i64 au.thr) (.slice ia au.ids.length ic) (.bool tm) (.slice pa PL.length pc) (.slice none 0 0) (show b≠w.heap.size+1 by have:=HZB.out;omega)
   exact ⟨ia,ic,pa,pc,none,0,rfl,⟨HCA.out,HCP.out,Nat.le_refl _⟩,⟨HSA.out.carry (by have:=HZB.out;omega) (Nat.le_of_eq wZ.symm) hc,HSP.out.carry (by have:=HZB.out;omega) (Nat.le_of_eq wZ.symm) hc,(.inl rfl)⟩,xJ _ _ _ _ _ _ HB.out (by omega)⟩
theorem uE (v:JV) (x:Value) (w:World) (lo:Nat) (hlo:0<lo) (hN:v.wt≤4294967296) (hR:Rep w lo w.heap.size v x) (hp:v.kind=5→qe v.names=true∧v.names.length=v.items.length) :
 Calls Tryz.prog 125 #[x] w (kL (zZ v) w):=by
 refine (fe (xE v) (st0 v) v x w (hR.carry (Nat.zero_le _) lz (fun _ _ _=>rfl)) (by unfold st0;split <;> simp) (fun w1 hb=>nc hN hlo hb.size (hR.below hb lz lz lz) hp)).mono ?_
 rintro e w' ⟨u,hu,h⟩
 unfold xE at hu
 unfold st0 at h
 by_cases hk:v.kind=5
 · rw [if_pos hk] at hu h
   subst hu
   rw [← lD hk];exact h
 · rw [if_neg hk] at hu h
   subst hu
   have:zZ v=(kq,10):=by unfold zZ;rw [if_pos hk]
   rw [this]
   rw [lL] at h;exact h
theorem lS {l:List JV} {acc:List DelegV} {k:Nat} (hk:k<l.length):xq (l.drop k) acc=if (zZ l[k]).2≠0 then ([],(zZ l[k]).2) else if acc.any (fun y=>decide (y.name=(zZ l[k]).1.name)) then ([],7) else xq (l.drop (k+1)) (acc ++ [(zZ l[k]).1]):=by
 rw [List.drop_eq_getElem_cons hk,xq]
theorem pD:(Tryz.prog.info? 41).map (fun i=>(i.zero,i.size,i.bytes))=some (some (.agg #[.string ⟨#[]⟩,.int .i64 0,.slice none 0 0,.bool false,.slice none 0 0,.slice none 0 0]),6,104):=by kernel_rfl
def vp (r:List DelegV × Int) (w:World) (e:Ending) (w':World):Prop :=
 ∃a c,e=.returned (.tuple #[.slice a r.1.length c,.int .i64 r.2])∧r.1.length≤c∧qI w' w.heap.size w'.heap.size a r.1∧Below w.heap.size w w'
theorem wO {er:Int} {w w':World} (hb:Below w.heap.size w w'):vp ([],er) w (.returned (.tuple #[.slice none 0 0,.int .i64 er])) w':=⟨none,0,rfl,Nat.le_refl _,.inl rfl,hb⟩
set_option maxHeartbeats 4000000 in
set_option maxRecDepth 100000 in
theorem fQ (items:List JV) (a0:Option Addr) (c0:Nat) (w:World) (lo:Nat) (hlo:0<lo) (hN:JV.wts items≤4294967296) (hA:q6 w lo w.heap.size a0 items) (hp:∀v ∈ items,v.kind=5→qe v.names=true∧v.names.length=v.items.length) (hl:items.length≤4294967296) :
 Calls Tryz.prog 66 #[.slice a0 items.length c0] w (vp (xq items []) w):=by
 have HA:=Lh hA
 have HLO:=Lh hlo
 have HWT:=Lh hN
 have HP:=Lh hp
 obtain ⟨G,hG⟩:∃G,G=xq items []:=⟨_,rfl⟩
 rw [← hG]
 have HG:=Lh hG
 obtain ⟨nn,hnn⟩:∃nn,nn=items.length:=⟨_,rfl⟩
 have HNN:=Lh hnn
 rw [← hnn] at hl ⊢
 clear hA hlo hN hp hG hnn
 go_enter Tryz.func66,Tryz.ntmps66
 go_wp2_with fail
 go_loopw [4,6,7,8,11] (fun s4 _ _ _ i wr=>∃(k:Nat) (a:Option Addr) (c:Nat) (qs:List DelegC),k≤nn∧qs.length=k∧i=.int .i64 k∧s4=.slice a k c∧G=xq (items.drop k) (qs.map (·.x))∧jh 41 w.heap.size wr s4 qs∧Below w.heap.size w wr) (fun _ _ _ _ i _=>nn - (intOf i).toNat)
 case atStart=>exact ⟨0,none,0,[],by omega,rfl,rfl,rfl,HG.out,ItemsOwn.nil _ _ _ _ _ _,Below.refl _ _⟩
 case round =>
  obtain ⟨k,a4,c4,sq,hk,hsk,rfl,rfl,hge,hown,hbr⟩:=hrel
  have HGE:=Lh hge
  have HO:=Lh hown
  have HBR:=Lh hbr
  have HSK:=Lh hsk
  clear hge hown hbr HG hsk
  by_cases hlt:k<nn
  · have hkl:k<items.length:=by rw [← HNN.out];exact hlt
    obtain ⟨b,o,an3,cn3,ai3,ci3,ha,-,hbb,e0,e1,e2,e3,e4,hrep⟩:=(HA.out.below HBR.out lz lz lz).get k hkl
    subst ha
    have m1:(0:Int)≤(k:Int):=by omega
    have m2:(k:Int)<(nn:Int):=by omega
    have m3:decide ((k:Int)<(nn:Int))=true:=by simpa using hlt
    have HGL:=Lh (lS (l:=items) (acc:=sq.map (·.x)) hkl)
    have hwt:=JV.wts_get items k hkl
    have hpk:=HP.out _ (List.getElem_mem hkl)
    obtain ⟨it,hit⟩:∃it,it=items[k]:=⟨_,rfl⟩
    rw [← hit] at e0 e1 e2 e3 e4 hrep HGL hwt hpk
    clear hit
    obtain ⟨WX,hWX⟩:∃WX,WX=wr.alloc (.cells #[.int .u8 it.kind,.int .i64 it.n,.string it.t,.slice an3 it.names.length cn3,.slice ai3 it.items.length ci3] 25):=⟨_,rfl⟩
    have hbX:Below wr.heap.size wr WX:=by rw [hWX];exact (Below.refl _ _).alloc lz _
    have hxX:WX.heap[wr.heap.size]?=some (.cells #[.int .u8 it.kind,.int .i64 it.n,.string it.t,.slice an3 it.names.length cn3,.slice ai3 it.items.length ci3] 25 (0,0)):=by rw [hWX];exact heap_alloc_new wr _
    have HRO:=Lh (uE it _ WX lo HLO.out (by have:=HWT.out;omega) (hrep.below hbX (by have:=HBR.out.size;omega) lz (by have:=HBR.out.size;have:=hbX.size;omega)) hpk)
    have HBX:=Lh hbX
    have HXL:=Lh (qx hxX)
    have HWX:=Lh hWX
    obtain ⟨z0,z1,z2,z3,z4⟩:=bx5 hxX
    obtain ⟨DX,hDX⟩:∃DX,DX=zZ it:=⟨_,rfl⟩
    rw [← hDX] at HRO HGL
    clear hbX hxX hWX hrep hDX hwt hpk
    obtain ⟨x,er⟩:=DX
    unfold kL at HRO
    dsimp only at HRO HGL
    go_upto_region 5 with fail
    rw [← HWX.out]
    clear e0 e1 e2 e3 e4 HWX
    go_wp2_with fail
    refine HRO.out.mono ?_
    clear HRO z0 z1 z2 z3 z4
    rintro e w4 ⟨ia,ic,pa,pc,qa,qc,rfl,hcaps,hin,hb4⟩
    obtain ⟨WY,hWY⟩:∃WY,WY=w4.alloc (.cells #[.string x.name,.int .i64 x.au.thr,.slice ia x.au.ids.length ic,.bool x.term,.slice pa x.paths.length pc,.slice qa x.pres.length qc] 41):=⟨_,rfl⟩
    have hbY:Below w4.heap.size w4 WY:=by rw [hWY];exact (Below.refl _ _).alloc lz _
    have hyY:WY.heap[w4.heap.size]?=some (.cells #[.string x.name,.int .i64 x.au.thr,.slice ia x.au.ids.length ic,.bool x.term,.slice pa x.paths.length pc,.slice qa x.pres.length qc] 41 (0,0)):=by rw [hWY];exact heap_alloc_new w4 _
    have hby:Below wr.heap.size wr WY:=HBX.out.trans ((hb4.trans (hbY.mono hb4.size)).mono HBX.out.size)
    have HCX:=Lh (show ∀w':World,Below WY.heap.size WY w'→w'.cell? ⟨w4.heap.size,0,none⟩=some (.string x.name)∧w'.cell? ⟨w4.heap.size,1,none⟩=some (.int .i64 x.au.thr)∧w'.cell? ⟨w4.heap.size,2,none⟩=some (.slice ia x.au.ids.length ic)∧w'.cell? ⟨w4.heap.size,3,none⟩=some (.bool x.term)∧w'.cell? ⟨w4.heap.size,4,none⟩=some (.slice pa x.paths.length pc)∧w'.cell? ⟨w4.heap.size,5,none⟩=some (.slice qa x.pres.length qc) from fun w' h=>by
     have y:=(h.block _ (qx hyY)).trans hyY
     exact ⟨qq y rfl,qq y rfl,qq y rfl,qq y rfl,qq y rfl,qq y rfl⟩)
    have HOY:=Lh (ItemsOwn.below wy HO.out hby)
    have HBY:=Lh (HBR.out.trans (hby.mono HBR.out.size))
    have HIN:=Lh (show DelegIn WY WX.heap.size w4.heap.size x ia pa qa from hin.below hbY lz lz lz)
    have HCP:=Lh hcaps
    have HSZ:=Lh (show w.heap.size≤wr.heap.size∧wr.heap.size<WX.heap.size∧WX.heap.size≤w4.heap.size∧w4.heap.size<WY.heap.size from ⟨HBR.out.size,HXL.out,hb4.size,qx hyY⟩)
    have HWY:=Lh hWY
    have HOB:=Lh (show ∀b,(Value.slice a4 k c4).ownBlock=some b→b<wr.heap.size from fun b hb=>(HO.out.own.lt b hb).2)
    clear hWY hbY hyY hby hcaps hin hb4 HO HBX HXL
    go_upto_region 6 with fail
    rw [← HWY.out]
    clear HWY
    by_cases her:er=0
    case neg =>
     have d1:(er != 0)=true:=by simpa using her
     rw [if_pos her] at HGL
     clear her
     go_wp2
     go_ret2
     rw [HGE.out,HGL.out]
     exact wO HBY.out
    subst her
    rw [if_neg (by decide)] at HGL
    obtain ⟨a9,c9,hv9,-,hr9⟩:=jh.row (l:=sq.map (·.x)) HOY.out rfl
    have hlm:(sq.map (·.x)).length=k:=by rw [List.length_map];exact HSK.out
    rw [hlm] at hv9
    simp only [Value.slice.injEq,true_and] at hv9
    obtain ⟨rfl,rfl⟩:=hv9
    have HHN:=Lh (wL (sq.map (·.x)) x.name a4 c4 WY (hr9.carry (Nat.zero_le _) lz (fun _ _ _=>rfl)) (by rw [hlm];omega))
    rw [hlm] at HHN
    obtain ⟨V,hV⟩:∃V,V=(sq.map (·.x)).any (fun y=>decide (y.name=x.name)):=⟨_,rfl⟩
    rw [← hV] at HHN HGL
    clear hV hlm hr9
    obtain ⟨y0,y1,y2,y3,y4,y5⟩:=HCX.out WY (Below.refl _ _)
    go_wp2_with fail
    refine HHN.out.mono ?_
    clear HHN y0 y1 y2 y3 y4 y5
    rintro e w6 ⟨rfl,hb6⟩
    have HB6:=Lh hb6
    clear hb6
    cases V with
    | true =>
     rw [if_pos rfl] at HGL
     go_wp2
     go_ret2
     rw [HGE.out,HGL.out]
     exact wO (HBY.out.trans (HB6.out.mono HBY.out.size))
    | false =>
     rw [if_neg (by decide)] at HGL
     obtain ⟨y0,y1,y2,y3,y4,y5⟩:=HCX.out w6 HB6.out
     obtain ⟨WA,hWA⟩:∃WA,WA=w6.alloc (.cells #[.string x.name,.int .i64 x.au.thr,.slice ia x.au.ids.length ic,.bool x.term,.slice pa x.paths.length pc,.slice qa x.pres.length qc] 41):=⟨_,rfl⟩
     have hbA:Below w6.heap.size w6 WA:=by rw [hWA];exact (Below.refl _ _).alloc lz _
     have hxA:WA.heap[w6.heap.size]?=some (.cells #[.string x.name,.int .i64 x.au.thr,.slice ia x.au.ids.length ic,.bool x.term,.slice pa x.paths.length pc,.slice qa x.pres.length qc] 41 (0,0)):=by rw [hWA];exact heap_alloc_new w6 _
     have hb6A:Below WY.heap.size WY WA:=HB6.out.trans (hbA.mono HB6.out.size)
     have HOA:=Lh (ItemsOwn.below wy HOY.out hb6A)
     have HOW:=Lh (show WA.ownsRow w.heap.size 41 6 (.slice a4 k c4) k (sq.flatMap s9) from by have:=HOA.out.own;rw [HSK.out] at this;exact this)
     have HBA:=Lh (HBY.out.trans (hb6A.mono HBY.out.size))
     have HINA:=Lh (HIN.out.below hb6A (by have:=HSZ.out;omega) lz lz)
     have HXA:=Lh hxA
     have HWA:=Lh hWA
     have HSA:=Lh (show WY.heap.size≤w6.heap.size∧w6.heap.size<WA.heap.size from ⟨HB6.out.size,qx hxA⟩)
     obtain ⟨i1,hi1,hy0,hy1,hy2⟩:=info_parts pD
     have hwz:w.heap.size≤WA.heap.size:=HBA.out.size
     clear hWA hbA hxA hb6A
     go_upto_region 11 with (at_builtin;rw [← HWA.out];(refine wpList_append_lies _ rfl (.tmp 27) (.tmp 29) 29 rfl w.heap.size 41 i1 _ 6 104 Tryz.underlying29 hi1 hy0 hy1 hy2 rfl (by omega) (.slice a4 k c4) k (sq.flatMap s9) rfl HOW.out ⟨w6.heap.size,0,none⟩ 1 1 [.string x.name,.int .i64 x.au.thr,.slice ia x.au.ids.length ic,.bool x.term,.slice pa x.paths.length pc,.slice qa x.pres.length qc] rfl rfl (World.news_of_block (cs:=#[.string x.name,.int .i64 x.au.thr,.slice ia x.au.ids.length ic,.bool x.term,.slice pa x.paths.length pc,.slice qa x.pres.length qc]) (t:=41) (fr:=(0,0)) HXA.out) (by simp [Value.oneCell']) (by omega) (by unfold maxLen;omega) (by omega) (by have:=HSA.out;omega) WA.heap.size (by omega) ?_);intro g2 cap2 w7 hown6 hgrow6 hat6 hlt6;have HO6:=Lh hown6;have HG6:=Lh hgrow6;have HA6:=Lh hat6;clear hown6 hgrow6 hat6)
     obtain ⟨qn,hqn⟩:∃qn:DelegC,qn=⟨x,ia,ic,pa,pc,qa,qc⟩:=⟨_,rfl⟩
     have HQN:=Lh hqn
     have HON:=Lh (show jh 41 w.heap.size w7 (.slice (some ⟨g2,0,none⟩) (k+1) cap2) (sq ++ [qn]) from ItemsOwn.snoc wy (v':=.slice (some ⟨g2,0,none⟩) (k+1) cap2) HOA.out qn WX.heap.size w4.heap.size (by have:=HSZ.out;omega) (by have:=HSZ.out;have:=HSA.out;omega) (fun b hb hbg=>by
      have h1:=HOB.out b hb
      have:=HSZ.out
      omega) (by rw [hqn];exact ⟨HCP.out.1,HCP.out.2.1,HCP.out.2.2,HINA.out⟩) HG6.out (by rw [HSK.out,hqn];exact HO6.out) (by
      rcases HA6.out with h|h
      · exact .inl h.symm
      · exact .inr ⟨g2,rfl,by omega⟩))
     have HBN:=Lh (below_grown HBA.out hwz HG6.out (fun b hb=>(HOW.out.lt b hb).1))
     have HLN:=Lh (show (sq ++ [qn]).length=k+1 from by rw [List.length_append,HSK.out];rfl)
     have HMP:=Lh (show (sq ++ [qn]).map (·.x)=sq.map (·.x) ++ [x] from by rw [List.map_append,hqn];rfl)
     clear HO6 HG6 HA6 HOW hqn
     go_wp2
     go_roundw
     case rel=>exact ⟨k+1,some ⟨g2,0,none⟩,cap2,sq ++ [qn],by omega,HLN.out,by go_num,rfl,by rw [HGE.out,HGL.out,HMP.out],HON.out,HBN.out⟩
     case measure=>simp [intOf];omega
  · have m3:decide ((k:Int)<(nn:Int))=false:=by simpa using hlt
    have HNIL:=Lh (show G=(sq.map (·.x),0) from by
     rw [HGE.out,List.drop_eq_nil_of_le (by rw [← HNN.out];omega),xq])
    obtain ⟨a9,c9,hv9,hc9,hr9⟩:=jh.row (l:=sq.map (·.x)) HO.out rfl
    have hlm:(sq.map (·.x)).length=k:=by rw [List.length_map];exact HSK.out
    rw [hlm] at hv9
    simp only [Value.slice.injEq,true_and] at hv9
    obtain ⟨rfl,rfl⟩:=hv9
    have HR9:=Lh hr9
    have HC9:=Lh hc9
    have HLM:=Lh hlm
    clear hr9 hc9 hlm
    go_wp2
    go_ret2
    rw [HNIL.out]
    exact ⟨a4,c4,by rw [HLM.out] <;> rfl,HC9.out,HR9.out,HBR.out⟩
end Go.Proofs.YthgembbgcbaghaaGreatDoor
