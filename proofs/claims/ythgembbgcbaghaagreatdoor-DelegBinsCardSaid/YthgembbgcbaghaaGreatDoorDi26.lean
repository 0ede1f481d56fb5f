/- The contract of legatelaw20.told: the steps as the reference writes them. Printed by gensteps20.py. -/
import Derived.Test.YthgembbgcbaghaaGreatDoorDi23

namespace Go.Proofs.YthgembbgcbaghaaGreatDoor
open Go.RowKit
def zU:List ByteArray→Nat→Nat
 | [],n=>n
 | s :: r,n=>if n<20000 then zU r (n+10+min 20000 s.size) else n
theorem ld {l:List ByteArray} {n:Nat} (h:20000≤n):zU l n=n:=by
 cases l with
 | nil=>rfl
 | cons s r=>rw [zU,if_neg (by omega)]
theorem kQ:∀(l:List ByteArray) (n:Nat),n≤40010→zU l n≤40010
 | [],n,h=>h
 | s :: r,n,h=>by
  rw [zU]
  split
  · exact kQ r _ (by omega)
  · exact h
def vw (l:List ByteArray):Prop:=l.length≤2000∧∀s ∈ l,s.size≤20000
theorem wS:∀(l:List ByteArray) (n:Nat),zU l n<20000→n+10 * l.length≤zU l n∧∀s ∈ l,s.size≤20000
 | [],n,_=>⟨by rw [List.length_nil];show n+10 * 0≤n;omega,fun s hs=>(by cases hs)⟩
 | s :: r,n,h=>by
  rw [zU] at h ⊢
  split at h
  · rename_i hn
    rw [if_pos hn]
    obtain ⟨h1,h2⟩:=wS r _ h
    refine ⟨by rw [List.length_cons];omega,fun x hx=>?_⟩
    rcases List.mem_cons.1 hx with rfl|hx
    · omega
    · exact h2 x hx
  · omega
theorem vX {l:List ByteArray} (h:zU l 0<20000):vw l:=by
 obtain ⟨h1,h2⟩:=wS l 0 h
 exact ⟨by omega,h2⟩
theorem ll {l:List ByteArray} {n k:Nat} (hk:k<l.length) (hn:n<20000):zU (l.drop k) n=zU (l.drop (k+1)) (n+10+min 20000 l[k].size):=by
 rw [List.drop_eq_getElem_cons hk,zU,if_pos hn]
set_option maxHeartbeats 1000000 in
set_option maxRecDepth 100000 in
theorem wA (l:List ByteArray) (a:Option Addr) (c:Nat) (w:World) (h:qk w 0 w.heap.size a l) (hl:l.length≤9223372036854775807) :
 Calls Tryz.prog 71 #[.slice a l.length c] w fun e w'=>e=.returned (.int .i64 (zU l 0:Nat))∧w'=w:=by
 have H:=Lh h
 obtain ⟨T,hT⟩:∃T,T=zU l 0:=⟨_,rfl⟩
 rw [← hT]
 have HT:=Lh hT
 obtain ⟨nn,hnn⟩:∃nn,nn=l.length:=⟨_,rfl⟩
 have HNN:=Lh hnn
 rw [← hnn] at hl ⊢
 clear h hT hnn
 go_enter Tryz.func71,Tryz.ntmps71
 go_wp2_with fail
 go_loop [3,4] (fun n j=>∃k m:Nat,k≤nn∧j=.int .i64 k∧n=.int .i64 m∧m≤40010∧10 * k≤m∧T=zU (l.drop k) m) (fun _ j=>nn - (intOf j).toNat)
 case atStart=>exact ⟨0,0,by omega,rfl,rfl,by omega,by omega,HT.out⟩
 case round =>
  obtain ⟨k,m,hk,rfl,rfl,hm,hkm,ht⟩:=hrel
  have HTT:=Lh ht
  clear ht HT
  by_cases hgo:k<nn∧m<20000
  · obtain ⟨hlt,hn⟩:=hgo
    have hkl:k<l.length:=by rw [← HNN.out];exact hlt
    obtain ⟨b,o,ha,_,_,e5⟩:=H.out.at k hkl
    subst ha
    have HAT:=Lh (ll hkl hn)
    obtain ⟨nm,hnm⟩:∃nm,nm=l[k]:=⟨_,rfl⟩
    rw [← hnm] at e5 HAT
    clear hnm
    obtain ⟨mn,hmn,hmn2⟩:∃mn:Nat,(if (nm.size:Int)<20000 then (nm.size:Int) else 20000)=(mn:Int)∧mn=min 20000 nm.size:=by
     by_cases h:nm.size<20000
     · exact ⟨nm.size,by rw [if_pos (by omega)],by omega⟩
     · exact ⟨20000,by rw [if_neg (by omega)];rfl,by omega⟩
    have HM2:=Lh hmn2
    rw [← hmn2] at HAT
    have mn1:mn≤20000:=by omega
    have d1:decide ((k:Int)<(nn:Int))=true:=by simp;omega
    have d2:decide ((m:Int)<20000)=true:=by simp;omega
    have d3:decide (k<nn)=true:=by simpa using hlt
    have d4:decide (m<20000)=true:=by simpa using hn
    clear hmn2
    go_wp2
    go_round
    case rel=>exact ⟨k+1,m+10+mn,by omega,by go_num,by go_num,by omega,by omega,by rw [HTT.out,HAT.out]⟩
    case measure=>simp [intOf];omega
  · have HX:=Lh (show T=m from by
     by_cases h2:m<20000
     · rw [HTT.out,List.drop_eq_nil_of_le (by rw [← HNN.out];omega),zU]
     · rw [HTT.out,ld (by omega)])
    by_cases hkn:k<nn
    · have d1:decide ((k:Int)<(nn:Int))=true:=by simp;omega
      have d2:decide ((m:Int)<20000)=false:=by simp;omega
      have d3:decide (k<nn)=true:=by simpa using hkn
      have d4:decide (m<20000)=false:=by simp;omega
      clear hgo
      go_wp2
      go_ret
      exact ⟨by rw [HX.out];rfl,rfl⟩
    · have d1:decide ((k:Int)<(nn:Int))=false:=by simp;omega
      have d3:decide (k<nn)=false:=by simpa using hkn
      clear hgo
      go_wp2
      go_ret
      exact ⟨by rw [HX.out];rfl,rfl⟩
structure ShortD (x:DelegV):Prop where
 name:x.name.size≤20000
 ids:vw x.au.ids
 paths:vw x.paths
 pres:vw x.pres
structure NotLongD (d:DelegsV):Prop where
 len:d.keys.length≤40
 keys:∀k ∈ d.keys,k.1.size≤300∧k.2.size≤300
 many:d.roles.length≤70
 roles:∀x ∈ d.roles,ShortD x
 pre:d.bins.pre.size≤300
 ids:vw d.bins.au.ids
def cj (d:DelegsV) (w:World) (e:Ending) (w':World):Prop:=∃b:Bool,e=.returned (.bool b)∧(b=false→NotLongD d)∧Below w.heap.size w w'
structure Lens (x:DelegV):Prop where
 ids:x.au.ids.length≤9223372036854775807
 paths:x.paths.length≤9223372036854775807
 pres:x.pres.length≤9223372036854775807
set_option maxHeartbeats 4000000 in
set_option maxRecDepth 100000 in
theorem lQ (l:List Key2) (rs:List DelegV) (t bits:Int) (ids:List ByteArray) (pre:ByteArray) (ka ra ba:Option Addr) (kc rc bc:Nat) (w:World) (hI:DelegsIn w 0 w.heap.size ⟨l,rs,⟨bits,pre,⟨t,ids⟩⟩⟩ ka ra ba) (hl:l.length≤9223372036854775807) (hr:rs.length≤9223372036854775807) (hx:∀x ∈ rs,Lens x) (hi:ids.length≤9223372036854775807) :
 Calls Tryz.prog 18 #[.agg #[.slice ka l.length kc,.slice ra rs.length rc,.int .i64 t,.slice ba ids.length bc,.int .i64 bits,.string pre]] w (cj ⟨l,rs,⟨bits,pre,⟨t,ids⟩⟩⟩ w):=by
 obtain ⟨W,hW⟩:∃W,W=w.alloc (.cells #[.slice ka l.length kc,.slice ra rs.length rc,.int .i64 t,.slice ba ids.length bc,.int .i64 bits,.string pre] 35):=⟨_,rfl⟩
 have hb:Below w.heap.size w W:=by rw [hW];exact (Below.refl _ _).alloc lz _
 have hxx:W.heap[w.heap.size]?=some (.cells #[.slice ka l.length kc,.slice ra rs.length rc,.int .i64 t,.slice ba ids.length bc,.int .i64 bits,.string pre] 35 (0,0)):=by rw [hW];exact heap_alloc_new w _
 have HC:=Lh (show ∀w':World,Below W.heap.size W w'→w'.cell? ⟨w.heap.size,0,none⟩=some (.slice ka l.length kc)∧w'.cell? ⟨w.heap.size,1,none⟩=some (.slice ra rs.length rc)∧w'.cell? ⟨w.heap.size,2,none⟩=some (.int .i64 t)∧w'.cell? ⟨w.heap.size,3,none⟩=some (.slice ba ids.length bc)∧w'.cell? ⟨w.heap.size,4,none⟩=some (.int .i64 bits)∧w'.cell? ⟨w.heap.size,5,none⟩=some (.string pre) from fun w' h=>by
  have y:=(h.block _ (qx hxx)).trans hxx
  exact ⟨qq y rfl,qq y rfl,qq y rfl,qq y rfl,qq y rfl,qq y rfl⟩)
 have HI:=Lh (show ∀w':World,Below W.heap.size W w'→DelegsIn w' 0 w'.heap.size ⟨l,rs,⟨bits,pre,⟨t,ids⟩⟩⟩ ka ra ba from fun w' h=>hI.below (hb.trans (h.mono hb.size)) lz lz (Nat.le_trans hb.size h.size))
 have HTX:=Lh (wA ids ba bc W (HI.out W (Below.refl _ _)).bids hi)
 have HX:=Lh hx
 have HB:=Lh hb
 have HW:=Lh hW
 clear hI hb hxx hW hx hi
 obtain ⟨y0,y1,y2,y3,y4,y5⟩:=HC.out W (Below.refl _ _)
 by_cases h40:l.length≤40
 case neg =>
  have h40':decide (40<(l.length:Int))=true:=by simp;omega
  clear HC
  go_enter Tryz.func18,Tryz.ntmps18
  go_upto_region 1 with fail
  rw [← HW.out]
  go_wp2
  go_ret
  exact ⟨true,rfl,(fun h=>by cases h),HB.out⟩
 have h40':decide (40<(l.length:Int))=false:=by simp;omega
 by_cases h70:rs.length≤70
 case neg =>
  have h70':decide (70<(rs.length:Int))=true:=by simp;omega
  clear HC
  go_enter Tryz.func18,Tryz.ntmps18
  go_upto_region 1 with fail
  rw [← HW.out]
  go_wp2
  go_ret
  exact ⟨true,rfl,(fun h=>by cases h),HB.out⟩
 have h70':decide (70<(rs.length:Int))=false:=by simp;omega
 by_cases h300:pre.size≤300
 case neg =>
  have h300':decide (300<(pre.size:Int))=true:=by simp;omega
  clear HC
  go_enter Tryz.func18,Tryz.ntmps18
  go_upto_region 1 with fail
  rw [← HW.out]
  go_wp2
  go_ret
  exact ⟨true,rfl,(fun h=>by cases h),HB.out⟩
 have h300':decide (300<(pre.size:Int))=false:=by simp;omega
 have HLE:=Lh (And.intro h40 (And.intro h70 h300))
 obtain ⟨T,hT⟩:∃T,T=zU ids 0:=⟨_,rfl⟩
 rw [← hT] at HTX
 have HTO:=Lh (show T≤40010∧(T<20000→vw ids) from ⟨by rw [hT];exact kQ _ _ (by omega),fun h=>vX (by rw [← hT];exact h)⟩)
 obtain ⟨nn,hnn⟩:∃nn,nn=l.length:=⟨_,rfl⟩
 have HNN:=Lh hnn
 rw [← hnn] at HC HW y0 h40' h40
 obtain ⟨mm,hmm⟩:∃mm,mm=rs.length:=⟨_,rfl⟩
 have HMM:=Lh hmm
 rw [← hmm] at HC HW y1 h70' h70
 rw [← hnn,← hmm]
 clear h300 hnn hmm hT hl hr
 go_enter Tryz.func18,Tryz.ntmps18
 go_upto_region 1 with fail
 rw [← HW.out]
 clear HW
 go_wp2_with fail
 refine HTX.out.mono ?_
 clear HTX y0 y1 y2 y3 y4 y5
 rintro e w2 ⟨rfl,h2⟩
 subst h2
 go_wp2_with fail
 go_loopw [4] (fun i wr=>∃k:Nat,k≤nn∧i=.int .i64 k∧(∀j (h:j<l.length),j<k→l[j].1.size≤300∧l[j].2.size≤300)∧wr=w2) (fun i _=>nn - (intOf i).toNat)
 case atStart=>exact ⟨0,by omega,rfl,fun j _ h=>by omega,rfl⟩
 case round =>
  obtain ⟨k,hk,rfl,hal,hww⟩:=hrel
  have hw2:=hww.symm
  subst hw2
  clear hww
  have HAL:=Lh hal
  obtain ⟨y0,y1,y2,y3,y4,y5⟩:=HC.out w2 (Below.refl _ _)
  clear hal y2 y3 y4 y5
  by_cases hlt:k<nn
  · have hlt':k<l.length:=by rw [← HNN.out];exact hlt
    obtain ⟨b,off,ha,_,hb,e0,e1⟩:=((HI.out w2 (Below.refl _ _)).keys).at k hlt'
    subst ha
    obtain ⟨s0,hs0⟩:∃s0,s0=l[k].1:=⟨_,rfl⟩
    obtain ⟨s1,hs1⟩:∃s1,s1=l[k].2:=⟨_,rfl⟩
    replace e0:=e0.trans (congrArg (fun z=>some (Value.string z)) hs0.symm)
    replace e1:=e1.trans (congrArg (fun z=>some (Value.string z)) hs1.symm)
    have HS1:=Lh (And.intro hs0 hs1)
    have m1:(0:Int)≤(k:Int):=by omega
    have m2:(k:Int)<(nn:Int):=by omega
    have m3:decide ((k:Int)<(nn:Int))=true:=by simpa using hlt
    clear hs0 hs1
    by_cases g0:s0.size≤300
    · have g0':decide (300<(s0.size:Int))=false:=by simp;omega
      by_cases g1:s1.size≤300
      · have g1':decide (300<(s1.size:Int))=false:=by simp;omega
        have HN:=Lh (show ∀j (h:j<l.length),j<k+1→l[j].1.size≤300∧l[j].2.size≤300 from fun j hj hjk=>by
         rcases Nat.lt_succ_iff_lt_or_eq.1 hjk with h|h
         · exact HAL.out j hj h
         · subst h;exact ⟨by rw [← HS1.out.1];exact g0,by rw [← HS1.out.2];exact g1⟩)
        clear g0 g1
        go_wp2
        go_roundw
        case rel=>exact ⟨k+1,by omega,by go_num,HN.out,by first|exact trivial|exact rfl⟩
        case measure=>simp [intOf];omega
      · have g1':decide (300<(s1.size:Int))=true:=by simp;omega
        clear g0 g1
        go_wp2
        go_ret
        exact ⟨true,rfl,(fun h=>by cases h),HB.out⟩
    · have g0':decide (300<(s0.size:Int))=true:=by simp;omega
      clear g0
      go_wp2
      go_ret
      exact ⟨true,rfl,(fun h=>by cases h),HB.out⟩
  · obtain rfl:k=nn:=by omega
    have m3:decide ((k:Int)<(k:Int))=false:=by simp
    have HKS:=Lh (show ∀x ∈ l,x.1.size≤300∧x.2.size≤300 from fun x hx=>by
     obtain ⟨j,hj,rfl⟩:=List.getElem_of_mem hx
     exact HAL.out j hj (by rw [HNN.out];exact hj))
    clear HAL
    go_wp2_with fail
    clear y0 y1
    go_loopw [3,5] (fun n i w4=>∃q m:Nat,q≤mm∧i=.int .i64 q∧n=.int .i64 m∧m≤180000∧(m<20000→vw ids∧∀j (h:j<rs.length),j<q→ShortD rs[j])∧Below w2.heap.size w2 w4) (fun _ i _=>mm - (intOf i).toNat)
    case atStart=>exact ⟨0,T,by omega,rfl,rfl,by have:=HTO.out.1;omega,fun h=>⟨HTO.out.2 h,fun j _ h=>by omega⟩,Below.refl _ _⟩
    case round =>
     obtain ⟨q,m,hq,rfl,rfl,hm,hsh,hbr⟩:=hrel
     have HSH:=Lh hsh
     have HBR:=Lh hbr
     obtain ⟨y0,y1,y2,y3,y4,y5⟩:=HC.out wr hbr
     clear hsh hbr y0 y2 y3 y4 y5
     by_cases hgo:q<mm∧m<20000
     · obtain ⟨hlt,hn⟩:=hgo
       have hql:q<rs.length:=by rw [← HMM.out];exact hlt
       obtain ⟨b,o,ha,-,hbb,ia,ic,pa,pc,qa,qc,e0,e1,e2,e3,e4,e5,-,-,-,hin⟩:=(HI.out wr HBR.out).roles.at q hql
       subst ha
       have hxl:=HX.out _ (List.getElem_mem hql)
       have HST:=Lh (HSH.out hn)
       obtain ⟨x,hx⟩:∃x,x=rs[q]:=⟨_,rfl⟩
       have HXQ:=Lh hx
       rw [← hx] at e0 e1 e2 e3 e4 e5 hin hxl
       clear hx
       obtain ⟨nm,⟨thr,xid⟩,tm,ps,qs⟩:=x
       dsimp only at e0 e1 e2 e3 e4 e5
       obtain ⟨l1,l2,l3⟩:=hxl
       dsimp only at l1 l2 l3
       have HA1:=Lh (fun n=>wA xid ia ic (wr.drewN n) hin.ids l1)
       have HA2:=Lh (fun n=>wA ps pa pc (wr.drewN n) hin.paths l2)
       have HA3:=Lh (fun n=>wA qs qa qc (wr.drewN n) hin.pres l3)
       have HO1:=Lh (@vX xid)
       have HO2:=Lh (@vX ps)
       have HO3:=Lh (@vX qs)
       obtain ⟨a1,ha1⟩:∃a1,a1=zU xid 0:=⟨_,rfl⟩
       obtain ⟨a2,ha2⟩:∃a2,a2=zU ps 0:=⟨_,rfl⟩
       obtain ⟨a3,ha3⟩:∃a3,a3=zU qs 0:=⟨_,rfl⟩
       have b1:a1≤40010:=by rw [ha1];exact kQ _ _ (by omega)
       have b2:a2≤40010:=by rw [ha2];exact kQ _ _ (by omega)
       have b3:a3≤40010:=by rw [ha3];exact kQ _ _ (by omega)
       rw [← ha1] at HA1 HO1
       rw [← ha2] at HA2 HO2
       rw [← ha3] at HA3 HO3
       clear hin ha1 ha2 ha3 l1 l2 l3
       obtain ⟨mn,hmn,hmn2⟩:∃mn:Nat,(if (nm.size:Int)<20000 then (nm.size:Int) else 20000)=(mn:Int)∧mn=min 20000 nm.size:=by
        by_cases h:nm.size<20000
        · exact ⟨nm.size,by rw [if_pos (by omega)],by omega⟩
        · exact ⟨20000,by rw [if_neg (by omega)];rfl,by omega⟩
       have HM2:=Lh hmn2
       have mn1:mn≤20000:=by omega
       have m1:(0:Int)≤(q:Int):=by omega
       have m2:(q:Int)<(mm:Int):=by omega
       have d1:decide ((q:Int)<(mm:Int))=true:=by simp;omega
       have d2:decide ((m:Int)<20000)=true:=by simp;omega
       have d3:decide (q<mm)=true:=by simpa using hlt
       have d4:decide (m<20000)=true:=by simpa using hn
       clear hmn2
       go_wp2_with fail
       go_quiet (first|(go_at_call 71;with_reducible exact Calls.quiet_of_same (HA1.out _))|(go_at_call 71;with_reducible exact Calls.quiet_of_same (HA2.out _))|(go_at_call 71;with_reducible exact Calls.quiet_of_same (HA3.out _)))
       go_wp2
       go_roundw
       case rel =>
        refine ⟨q+1,m+50+mn+a1+a2+a3,by omega,by go_num,by go_num,by omega,fun h=>⟨HST.out.1,fun j hj hjk=>?_⟩,Below.drewN HBR.out _⟩
        rcases Nat.lt_succ_iff_lt_or_eq.1 hjk with h1|h1
        · exact HST.out.2 j hj h1
        · subst h1
          rw [← HXQ.out]
          exact ⟨by have:=HM2.out;show nm.size≤20000;omega,HO1.out (by omega),HO2.out (by omega),HO3.out (by omega)⟩
       case measure=>simp [intOf];omega
     · have HXX:=Lh (show m<20000→NotLongD ⟨l,rs,⟨bits,pre,⟨t,ids⟩⟩⟩ from fun h=>by
        obtain ⟨h1,h2⟩:=HSH.out h
        have hqm:q=mm:=by omega
        refine ⟨HLE.out.1,HKS.out,HLE.out.2.1,fun x hx=>?_,HLE.out.2.2,h1⟩
        obtain ⟨j,hj,rfl⟩:=List.getElem_of_mem hx
        exact h2 j hj (by rw [hqm,HMM.out];exact hj))
       clear HSH
       by_cases hkn:q<mm
       · have d1:decide ((q:Int)<(mm:Int))=true:=by simp;omega
         have d2:decide ((m:Int)<20000)=false:=by simp;omega
         have d3:decide (q<mm)=true:=by simpa using hkn
         have d4:decide (m<20000)=false:=by simp;omega
         clear hgo
         go_wp2
         go_ret
         exact ⟨_,rfl,fun h=>HXX.out (by have h2:(m:Int)<20000:=(by simpa using h);omega),HB.out.trans (HBR.out.mono HB.out.size)⟩
       · have d1:decide ((q:Int)<(mm:Int))=false:=by simp;omega
         have d3:decide (q<mm)=false:=by simpa using hkn
         clear hgo
         go_wp2
         go_ret
         exact ⟨_,rfl,fun h=>HXX.out (by have h2:(m:Int)<20000:=(by simpa using h);omega),HB.out.trans (HBR.out.mono HB.out.size)⟩
theorem gv {d:DelegsV} (h:NotLongD d) (hb:-9223372036854775808≤d.bins.bits∧d.bins.bits≤9223372036854775807) (ht:-9223372036854775808≤d.bins.au.thr∧d.bins.au.thr≤9223372036854775807) (hx:∀x ∈ d.roles,-9223372036854775808≤x.au.thr∧x.au.thr≤9223372036854775807):DelegsFits d :=
 have sh:∀ {l:List ByteArray},vw l→l.length≤4294967296∧∀s ∈ l,s.size≤4294967296:=fun h=>⟨Nat.le_trans h.1 (by decide),fun s hs=>Nat.le_trans (h.2 s hs) (by decide)⟩
 ⟨h.len,h.keys,h.many,fun x hxm=>⟨Nat.le_trans (h.roles x hxm).name (by decide),⟨hx x hxm,sh (h.roles x hxm).ids⟩,sh (h.roles x hxm).paths,sh (h.roles x hxm).pres⟩,hb,h.pre,⟨ht,sh h.ids⟩⟩
end Go.Proofs.YthgembbgcbaghaaGreatDoor

namespace Go.Proofs.YthgembbgcbaghaaGreatDoor
open Go.RowKit Go.Shelf Go.Sort
def anyP (_:World) (_ _:Nat) (_:jY):Prop:=True
theorem bJ:yr anyP:=fun _ _ _ _ _ _ _=>trivial
theorem lZ:(Tryz.prog.info? 105).map (fun i=>(i.zero,i.size,i.bytes))=some (some (.agg #[.string ⟨#[]⟩,.int .i64 0,.slice none 0 0,.bool false]),4,56):=by kernel_rfl
theorem fd {T B:Nat} {w:World} {a:Option Addr} {n c:Nat} {qs:List jY} {S:List StepV} (h:ItemsOwn T 4 B encS anyP w (.slice a n c) qs) (hS:qs.map (·.1)=S) (hq:∀q ∈ qs,q.1.au.ids.length≤q.2.2∧qk w 0 w.heap.size q.2.1 q.1.au.ids):zd w 0 w.heap.size a S:=by
 subst hS
 obtain ⟨-,-,h3⟩:=ItemsOwn.cells bv h
 rcases h3 with h3|⟨g,ha,hg,hlt,hf,hc⟩
 · exact .inl (by rw [h3];rfl)
 · refine .inr ⟨g,0,ha,Nat.zero_le _,hlt,fun i hi=>?_⟩
   have hi2:i<qs.length:=by simpa using hi
   have e:(qs.map (·.1))[i]=qs[i].1:=List.getElem_map ..
   rw [e,Nat.zero_add]
   obtain ⟨h1,h2⟩:=hq qs[i] (List.getElem_mem hi2)
   exact ⟨qs[i].2.1,qs[i].2.2,hc i hi2 0 (by decide),hc i hi2 1 (by decide),hc i hi2 2 (by decide),hc i hi2 3 (by decide),h1,h2⟩
set_option maxHeartbeats 4000000 in
set_option maxRecDepth 100000 in
theorem pF (S:List StepV) (a:Option Addr) (c:Nat) (w:World) (hS:zd w 0 w.heap.size a S) (hl:S.length≤1000) :
 Calls Tryz.prog 22 #[.slice a S.length c] w fun e w'=>∃a' c',e=.returned (.slice a' S.length c')∧zd w' 0 w'.heap.size a' S∧Below w.heap.size w w':=by
 have HS:=Lh hS
 obtain ⟨nn,hnn⟩:∃nn,nn=S.length:=⟨_,rfl⟩
 have HNN:=Lh hnn
 rw [← hnn] at hl ⊢
 clear hS hnn
 go_enter Tryz.func22,Tryz.ntmps22
 go_wp2_with fail
 go_loopw [3,4] (fun s3 i wr=>∃(k:Nat) (a3:Option Addr) (c3:Nat) (qs:List jY),k≤nn∧qs.length=k∧i=.int .i64 k∧s3=.slice a3 k c3∧qs.map (·.1)=S.take k∧(∀q ∈ qs,q.1.au.ids.length≤q.2.2∧qk w 0 w.heap.size q.2.1 q.1.au.ids)∧ItemsOwn 105 4 w.heap.size encS anyP wr s3 qs∧Below w.heap.size w wr) (fun _ i _=>nn - (intOf i).toNat)
 case atStart=>exact ⟨0,none,0,[],by omega,rfl,rfl,rfl,rfl,fun q hq=>(by cases hq),ItemsOwn.nil _ _ _ _ _ _,Below.refl _ _⟩
 case round =>
  obtain ⟨k,a3,c3,qs,hk,hqk,rfl,rfl,hmp,hal,hown,hbr⟩:=hrel
  have HMP:=Lh hmp
  have HAL:=Lh hal
  have HO:=Lh hown
  have HBR:=Lh hbr
  have HQK:=Lh hqk
  clear hmp hal hown hbr hqk
  by_cases hlt:k<nn
  · have hkl:k<S.length:=by rw [← HNN.out];exact hlt
    obtain ⟨b,o,ha,-,hb,ia,ic,e0',e1',e2',e3',l1,hs⟩:=HS.out.at k hkl
    subst ha
    have e0:=(HBR.out.cell hb).trans e0'
    have e1:=(HBR.out.cell hb).trans e1'
    have e2:=(HBR.out.cell hb).trans e2'
    have e3:=(HBR.out.cell hb).trans e3'
    have HTK:=Lh (show S.take (k+1)=S.take k ++ [S[k]] from List.take_succ_eq_append_getElem hkl)
    obtain ⟨x,hx⟩:∃x,x=S[k]:=⟨_,rfl⟩
    rw [← hx] at e0 e1 e2 e3 l1 hs HTK
    clear hx e0' e1' e2' e3'
    obtain ⟨nm,⟨thr,xid⟩,tm⟩:=x
    dsimp only at e0 e1 e2 e3 l1 hs
    have m1:(0:Int)≤(k:Int):=by omega
    have m2:(k:Int)<(nn:Int):=by omega
    have m3:decide ((k:Int)<(nn:Int))=true:=by simpa using hlt
    obtain ⟨WA,hWA⟩:∃WA,WA=wr.alloc (.cells #[.string nm,.int .i64 thr,.slice ia xid.length ic,.bool tm] 105):=⟨_,rfl⟩
    have hbA:Below wr.heap.size wr WA:=by rw [hWA];exact (Below.refl _ _).alloc lz _
    have HXA:=Lh (show WA.heap[wr.heap.size]?=some (.cells #[.string nm,.int .i64 thr,.slice ia xid.length ic,.bool tm] 105 (0,0)) from by rw [hWA];exact heap_alloc_new wr _)
    have HOA:=Lh (ItemsOwn.below bJ HO.out hbA)
    have HOW:=Lh (show WA.ownsRow w.heap.size 105 4 (.slice a3 k c3) k (qs.flatMap encS) from by have:=HOA.out.own;rw [HQK.out] at this;exact this)
    have HBA:=Lh (HBR.out.trans (hbA.mono HBR.out.size))
    have HWA:=Lh hWA
    have HSA:=Lh (show w.heap.size≤wr.heap.size∧wr.heap.size<WA.heap.size from ⟨HBR.out.size,qx HXA.out⟩)
    have hwz:w.heap.size≤WA.heap.size:=HBA.out.size
    have HL1:=Lh (And.intro l1 hs)
    obtain ⟨i1,hi1,hy0,hy1,hy2⟩:=info_parts lZ
    clear hWA hbA hs hb
    go_upto_region 4 with (at_builtin;rw [← HWA.out];(refine wpList_append_lies _ rfl (.tmp 11) (.tmp 16) 46 rfl w.heap.size 105 i1 _ 4 56 Tryz.underlying46 hi1 hy0 hy1 hy2 rfl (by omega) (.slice a3 k c3) k (qs.flatMap encS) rfl HOW.out ⟨wr.heap.size,0,none⟩ 1 1 [.string nm,.int .i64 thr,.slice ia xid.length ic,.bool tm] rfl rfl (World.news_of_block (cs:=#[.string nm,.int .i64 thr,.slice ia xid.length ic,.bool tm]) (t:=105) (fr:=(0,0)) HXA.out) (by simp [Value.oneCell']) (by omega) (by unfold maxLen;omega) (by omega) (by have:=HSA.out;omega) WA.heap.size (by omega) ?_);intro g2 cap2 w7 hown6 hgrow6 hat6 hlt6;have HO6:=Lh hown6;have HG6:=Lh hgrow6;have HA6:=Lh hat6;clear hown6 hgrow6 hat6)
    obtain ⟨qn,hqn⟩:∃qn:jY,qn=(⟨nm,⟨thr,xid⟩,tm⟩,ia,ic):=⟨_,rfl⟩
    have HON:=Lh (show ItemsOwn 105 4 w.heap.size encS anyP w7 (.slice (some ⟨g2,0,none⟩) (k+1) cap2) (qs ++ [qn]) from ItemsOwn.snoc bJ (v':=.slice (some ⟨g2,0,none⟩) (k+1) cap2) HOA.out qn w.heap.size w.heap.size lz hwz (fun b hb hbg=>by omega) trivial HG6.out (by rw [HQK.out,hqn];exact HO6.out) (by
     rcases HA6.out with h|h
     · exact .inl h.symm
     · exact .inr ⟨g2,rfl,by omega⟩))
    have HBN:=Lh (below_grown HBA.out hwz HG6.out (fun b hb=>(HOW.out.lt b hb).1))
    have HLN:=Lh (show (qs ++ [qn]).length=k+1 from by rw [List.length_append,HQK.out];rfl)
    have HMN:=Lh (show (qs ++ [qn]).map (·.1)=S.take (k+1) from by rw [List.map_append,HMP.out,HTK.out,hqn];rfl)
    have HAN:=Lh (show ∀q ∈ qs ++ [qn],q.1.au.ids.length≤q.2.2∧qk w 0 w.heap.size q.2.1 q.1.au.ids from fun q hq=>by
     rcases List.mem_append.1 hq with hq|hq
     · exact HAL.out q hq
     · obtain rfl:q=qn:=by simpa using hq
       rw [hqn];exact HL1.out)
    clear HO6 HG6 HA6 HOW hqn l1
    go_wp2
    go_roundw
    case rel=>exact ⟨k+1,some ⟨g2,0,none⟩,cap2,qs ++ [qn],by omega,HLN.out,by go_num,rfl,HMN.out,HAN.out,HON.out,HBN.out⟩
    case measure=>simp [intOf];omega
  · have m3:decide ((k:Int)<(nn:Int))=false:=by simpa using hlt
    obtain rfl:k=nn:=by omega
    go_wp2
    go_ret
    refine ⟨a3,c3,rfl,fd HO.out (by rw [HMP.out,List.take_of_length_le (by rw [← HNN.out];exact Nat.le_refl _)]) (fun q hq=>?_),HBR.out⟩
    obtain ⟨h1,h2⟩:=HAL.out q hq
    exact ⟨h1,h2.below HBR.out lz lz HBR.out.size⟩
end Go.Proofs.YthgembbgcbaghaaGreatDoor
