/- The contracts of legatelaw20.texts and Long: what is not long is few, and short. Printed by genlong20.py. -/
import Derived.Test.YthgembbgcbaghaaGreatDoorDa23

namespace Go.Proofs.YthgembbgcbaghaaGreatDoor
open Go.RowKit
def zG:List ByteArray→Nat→Nat
 | [],n=>n
 | s :: r,n=>if n<20000 then zG r (n+10+min 20000 s.size) else n
theorem dN {l:List ByteArray} {n:Nat} (h:20000≤n):zG l n=n:=by
 cases l with
 | nil=>rfl
 | cons s r=>rw [zG,if_neg (by omega)]
theorem ku:∀(l:List ByteArray) (n:Nat),n≤40010→zG l n≤40010
 | [],n,h=>h
 | s :: r,n,h=>by
  rw [zG]
  split
  · exact ku r _ (by omega)
  · exact h
def vk (l:List ByteArray):Prop:=l.length≤2000∧∀s ∈ l,s.size≤20000
theorem wR:∀(l:List ByteArray) (n:Nat),zG l n<20000→n+10 * l.length≤zG l n∧∀s ∈ l,s.size≤20000
 | [],n,_=>⟨by rw [List.length_nil];show n+10 * 0≤n;omega,fun s hs=>(by cases hs)⟩
 | s :: r,n,h=>by
  rw [zG] at h ⊢
  split at h
  · rename_i hn
    rw [if_pos hn]
    obtain ⟨h1,h2⟩:=wR r _ h
    refine ⟨by rw [List.length_cons];omega,fun x hx=>?_⟩
    rcases List.mem_cons.1 hx with rfl|hx
    · omega
    · exact h2 x hx
  · omega
theorem vZ {l:List ByteArray} (h:zG l 0<20000):vk l:=by
 obtain ⟨h1,h2⟩:=wR l 0 h
 exact ⟨by omega,h2⟩
theorem dS {l:List ByteArray} {n k:Nat} (hk:k<l.length) (hn:n<20000):zG (l.drop k) n=zG (l.drop (k+1)) (n+10+min 20000 l[k].size):=by
 rw [List.drop_eq_getElem_cons hk,zG,if_pos hn]
set_option maxHeartbeats 1000000 in
set_option maxRecDepth 100000 in
theorem wN (l:List ByteArray) (a:Option Addr) (c:Nat) (w:World) (h:qw w 0 w.heap.size a l) (hl:l.length≤9223372036854775807) :
 Calls Tryz.prog 71 #[.slice a l.length c] w fun e w'=>e=.returned (.int .i64 (zG l 0:Nat))∧w'=w:=by
 have H:=Lh h
 obtain ⟨T,hT⟩:∃T,T=zG l 0:=⟨_,rfl⟩
 rw [← hT]
 have HT:=Lh hT
 obtain ⟨nn,hnn⟩:∃nn,nn=l.length:=⟨_,rfl⟩
 have HNN:=Lh hnn
 rw [← hnn] at hl ⊢
 clear h hT hnn
 go_enter Tryz.func71,Tryz.ntmps71
 go_wp2_with fail
 go_loop [3,4] (fun n j=>∃k m:Nat,k≤nn∧j=.int .i64 k∧n=.int .i64 m∧m≤40010∧10 * k≤m∧T=zG (l.drop k) m) (fun _ j=>nn - (intOf j).toNat)
 case atStart=>exact ⟨0,0,by omega,rfl,rfl,by omega,by omega,HT.out⟩
 case round =>
  obtain ⟨k,m,hk,rfl,rfl,hm,hkm,ht⟩:=hrel
  have HTT:=Lh ht
  clear ht HT
  by_cases hgo:k<nn∧m<20000
  · obtain ⟨hlt,hn⟩:=hgo
    have hkl:k<l.length:=by rw [← HNN.out];exact hlt
    obtain ⟨b,o,ha,_,_,e5⟩:=H.out.at k hkl
    subst ha
    have HAT:=Lh (dS hkl hn)
    obtain ⟨nm,hnm⟩:∃nm,nm=l[k]:=⟨_,rfl⟩
    rw [← hnm] at e5 HAT
    clear hnm
    obtain ⟨mn,hmn,hmn2⟩:∃mn:Nat,(if (nm.size:Int)<20000 then (nm.size:Int) else 20000)=(mn:Int)∧mn=min 20000 nm.size:=by
     by_cases h:nm.size<20000
     · exact ⟨nm.size,by rw [if_pos (by omega)],by omega⟩
     · exact ⟨20000,by rw [if_neg (by omega)];rfl,by omega⟩
    have HM2:=Lh hmn2
    rw [← hmn2] at HAT
    have mn1:mn≤20000:=by omega
    have d1:decide ((k:Int)<(nn:Int))=true:=by simp;omega
    have d2:decide ((m:Int)<20000)=true:=by simp;omega
    have d3:decide (k<nn)=true:=by simpa using hlt
    have d4:decide (m<20000)=true:=by simpa using hn
    clear hmn2
    go_wp2
    go_round
    case rel=>exact ⟨k+1,m+10+mn,by omega,by go_num,by go_num,by omega,by omega,by rw [HTT.out,HAT.out]⟩
    case measure=>simp [intOf];omega
  · have HX:=Lh (show T=m from by
     by_cases h2:m<20000
     · rw [HTT.out,List.drop_eq_nil_of_le (by rw [← HNN.out];omega),zG]
     · rw [HTT.out,dN (by omega)])
    by_cases hkn:k<nn
    · have d1:decide ((k:Int)<(nn:Int))=true:=by simp;omega
      have d2:decide ((m:Int)<20000)=false:=by simp;omega
      have d3:decide (k<nn)=true:=by simpa using hkn
      have d4:decide (m<20000)=false:=by simp;omega
      clear hgo
      go_wp2
      go_ret
      exact ⟨by rw [HX.out];rfl,rfl⟩
    · have d1:decide ((k:Int)<(nn:Int))=false:=by simp;omega
      have d3:decide (k<nn)=false:=by simpa using hkn
      clear hgo
      go_wp2
      go_ret
      exact ⟨by rw [HX.out];rfl,rfl⟩
structure ShortD (x:DelegV):Prop where
 name:x.name.size≤20000
 ids:vk x.au.ids
 paths:vk x.paths
 pres:vk x.pres
structure NotLongD (d:DelegsV):Prop where
 len:d.keys.length≤40
 keys:∀k ∈ d.keys,k.1.size≤300∧k.2.size≤300
 many:d.roles.length≤70
 roles:∀x ∈ d.roles,ShortD x
 pre:d.bins.pre.size≤300
 ids:vk d.bins.au.ids
def mO (d:DelegsV) (w:World) (e:Ending) (w':World):Prop:=∃b:Bool,e=.returned (.bool b)∧(b=false→NotLongD d)∧Below w.heap.size w w'
structure Lens (x:DelegV):Prop where
 ids:x.au.ids.length≤9223372036854775807
 paths:x.paths.length≤9223372036854775807
 pres:x.pres.length≤9223372036854775807
set_option maxHeartbeats 4000000 in
set_option maxRecDepth 100000 in
theorem dA (l:List Key2) (rs:List DelegV) (t bits:Int) (ids:List ByteArray) (pre:ByteArray) (ka ra ba:Option Addr) (kc rc bc:Nat) (w:World) (hI:DelegsIn w 0 w.heap.size ⟨l,rs,⟨bits,pre,⟨t,ids⟩⟩⟩ ka ra ba) (hl:l.length≤9223372036854775807) (hr:rs.length≤9223372036854775807) (hx:∀x ∈ rs,Lens x) (hi:ids.length≤9223372036854775807) :
 Calls Tryz.prog 18 #[.agg #[.slice ka l.length kc,.slice ra rs.length rc,.int .i64 t,.slice ba ids.length bc,.int .i64 bits,.string pre]] w (mO ⟨l,rs,⟨bits,pre,⟨t,ids⟩⟩⟩ w):=by
 obtain ⟨W,hW⟩:∃W,W=w.alloc (.cells #[.slice ka l.length kc,.slice ra rs.length rc,.int .i64 t,.slice ba ids.length bc,.int .i64 bits,.string pre] 35):=⟨_,rfl⟩
 have hb:Below w.heap.size w W:=by rw [hW];exact (Below.refl _ _).alloc lz _
 have hxx:W.heap[w.heap.size]?=some (.cells #[.slice ka l.length kc,.slice ra rs.length rc,.int .i64 t,.slice ba ids.length bc,.int .i64 bits,.string pre] 35 (0,0)):=by rw [hW];exact heap_alloc_new w _
 have HC:=Lh (show ∀w':World,Below W.heap.size W w'→w'.cell? ⟨w.heap.size,0,none⟩=some (.slice ka l.length kc)∧w'.cell? ⟨w.heap.size,1,none⟩=some (.slice ra rs.length rc)∧w'.cell? ⟨w.heap.size,2,none⟩=some (.int .i64 t)∧w'.cell? ⟨w.heap.size,3,none⟩=some (.slice ba ids.length bc)∧w'.cell? ⟨w.heap.size,4,none⟩=some (.int .i64 bits)∧w'.cell? ⟨w.heap.size,5,none⟩=some (.string pre) from fun w' h=>by
  have y:=(h.block _ (qx hxx)).trans hxx
  exact ⟨qq y rfl,qq y rfl,qq y rfl,qq y rfl,qq y rfl,qq y rfl⟩)
 have HI:=Lh (show ∀w':World,Below W.heap.size W w'→DelegsIn w' 0 w'.heap.size ⟨l,rs,⟨bits,pre,⟨t,ids⟩⟩⟩ ka ra ba from fun w' h=>hI.below (hb.trans (h.mono hb.size)) lz lz (Nat.le_trans hb.size h.size))
 have HTX:=Lh (wN ids ba bc W (HI.out W (Below.refl _ _)).bids hi)
 have HX:=Lh hx
 have HB:=Lh hb
 have HW:=Lh hW
 clear hI hb hxx hW hx hi
 obtain ⟨y0,y1,y2,y3,y4,y5⟩:=HC.out W (Below.refl _ _)
 by_cases h40:l.length≤40
 case neg =>
  have h40':decide (40<(l.length:Int))=true:=by simp;omega
  clear HC
  go_enter Tryz.func18,Tryz.ntmps18
  go_upto_region 1 with fail
  rw [← HW.out]
  go_wp2
  go_ret
  exact ⟨true,rfl,(fun h=>by cases h),HB.out⟩
 have h40':decide (40<(l.length:Int))=false:=by simp;omega
 by_cases h70:rs.length≤70
 case neg =>
  have h70':decide (70<(rs.length:Int))=true:=by simp;omega
  clear HC
  go_enter Tryz.func18,Tryz.ntmps18
  go_upto_region 1 with fail
  rw [← HW.out]
  go_wp2
  go_ret
  exact ⟨true,rfl,(fun h=>by cases h),HB.out⟩
 have h70':decide (70<(rs.length:Int))=false:=by simp;omega
 by_cases h300:pre.size≤300
 case neg =>
  have h300':decide (300<(pre.size:Int))=true:=by simp;omega
  clear HC
  go_enter Tryz.func18,Tryz.ntmps18
  go_upto_region 1 with fail
  rw [← HW.out]
  go_wp2
  go_ret
  exact ⟨true,rfl,(fun h=>by cases h),HB.out⟩
 have h300':decide (300<(pre.size:Int))=false:=by simp;omega
 have HLE:=Lh (And.intro h40 (And.intro h70 h300))
 obtain ⟨T,hT⟩:∃T,T=zG ids 0:=⟨_,rfl⟩
 rw [← hT] at HTX
 have HTO:=Lh (show T≤40010∧(T<20000→vk ids) from ⟨by rw [hT];exact ku _ _ (by omega),fun h=>vZ (by rw [← hT];exact h)⟩)
 obtain ⟨nn,hnn⟩:∃nn,nn=l.length:=⟨_,rfl⟩
 have HNN:=Lh hnn
 rw [← hnn] at HC HW y0 h40' h40
 obtain ⟨mm,hmm⟩:∃mm,mm=rs.length:=⟨_,rfl⟩
 have HMM:=Lh hmm
 rw [← hmm] at HC HW y1 h70' h70
 rw [← hnn,← hmm]
 clear h300 hnn hmm hT hl hr
 go_enter Tryz.func18,Tryz.ntmps18
 go_upto_region 1 with fail
 rw [← HW.out]
 clear HW
 go_wp2_with fail
 refine HTX.out.mono ?_
 clear HTX y0 y1 y2 y3 y4 y5
 rintro e w2 ⟨rfl,h2⟩
 subst h2
 go_wp2_with fail
 go_loopw [4] (fun i wr=>∃k:Nat,k≤nn∧i=.int .i64 k∧(∀j (h:j<l.length),j<k→l[j].1.size≤300∧l[j].2.size≤300)∧wr=w2) (fun i _=>nn - (intOf i).toNat)
 case atStart=>exact ⟨0,by omega,rfl,fun j _ h=>by omega,rfl⟩
 case round =>
  obtain ⟨k,hk,rfl,hal,hww⟩:=hrel
  have hw2:=hww.symm
  subst hw2
  clear hww
  have HAL:=Lh hal
  obtain ⟨y0,y1,y2,y3,y4,y5⟩:=HC.out w2 (Below.refl _ _)
  clear hal y2 y3 y4 y5
  by_cases hlt:k<nn
  · have hlt':k<l.length:=by rw [← HNN.out];exact hlt
    obtain ⟨b,off,ha,_,hb,e0,e1⟩:=((HI.out w2 (Below.refl _ _)).keys).at k hlt'
    subst ha
    obtain ⟨s0,hs0⟩:∃s0,s0=l[k].1:=⟨_,rfl⟩
    obtain ⟨s1,hs1⟩:∃s1,s1=l[k].2:=⟨_,rfl⟩
    replace e0:=e0.trans (congrArg (fun z=>some (Value.string z)) hs0.symm)
    replace e1:=e1.trans (congrArg (fun z=>some (Value.string z)) hs1.symm)
    have HS1:=Lh (And.intro hs0 hs1)
    have m1:(0:Int)≤(k:Int):=by omega
    have m2:(k:Int)<(nn:Int):=by omega
    have m3:decide ((k:Int)<(nn:Int))=true:=by simpa using hlt
    clear hs0 hs1
    by_cases g0:s0.size≤300
    · have g0':decide (300<(s0.size:Int))=false:=by simp;omega
      by_cases g1:s1.size≤300
      · have g1':decide (300<(s1.size:Int))=false:=by simp;omega
        have HN:=Lh (show ∀j (h:j<l.length),j<k+1→l[j].1.size≤300∧l[j].2.size≤300 from fun j hj hjk=>by
         rcases Nat.lt_succ_iff_lt_or_eq.1 hjk with h|h
         · exact HAL.out j hj h
         · subst h;exact ⟨by rw [← HS1.out.1];exact g0,by rw [← HS1.out.2];exact g1⟩)
        clear g0 g1
        go_wp2
        go_roundw
        case rel=>exact ⟨k+1,by omega,by go_num,HN.out,by first|exact trivial|exact rfl⟩
        case measure=>simp [intOf];omega
      · have g1':decide (300<(s1.size:Int))=true:=by simp;omega
        clear g0 g1
        go_wp2
        go_ret
        exact ⟨true,rfl,(fun h=>by cases h),HB.out⟩
    · have g0':decide (300<(s0.size:Int))=true:=by simp;omega
      clear g0
      go_wp2
      go_ret
      exact ⟨true,rfl,(fun h=>by cases h),HB.out⟩
  · obtain rfl:k=nn:=by omega
    have m3:decide ((k:Int)<(k:Int))=false:=by simp
    have HKS:=Lh (show ∀x ∈ l,x.1.size≤300∧x.2.size≤300 from fun x hx=>by
     obtain ⟨j,hj,rfl⟩:=List.getElem_of_mem hx
     exact HAL.out j hj (by rw [HNN.out];exact hj))
    clear HAL
    go_wp2_with fail
    clear y0 y1
    go_loopw [3,5] (fun n i w4=>∃q m:Nat,q≤mm∧i=.int .i64 q∧n=.int .i64 m∧m≤180000∧(m<20000→vk ids∧∀j (h:j<rs.length),j<q→ShortD rs[j])∧Below w2.heap.size w2 w4) (fun _ i _=>mm - (intOf i).toNat)
    case atStart=>exact ⟨0,T,by omega,rfl,rfl,by have:=HTO.out.1;omega,fun h=>⟨HTO.out.2 h,fun j _ h=>by omega⟩,Below.refl _ _⟩
    case round =>
     obtain ⟨q,m,hq,rfl,rfl,hm,hsh,hbr⟩:=hrel
     have HSH:=Lh hsh
     have HBR:=Lh hbr
     obtain ⟨y0,y1,y2,y3,y4,y5⟩:=HC.out wr hbr
     clear hsh hbr y0 y2 y3 y4 y5
     by_cases hgo:q<mm∧m<20000
     · obtain ⟨hlt,hn⟩:=hgo
       have hql:q<rs.length:=by rw [← HMM.out];exact hlt
       obtain ⟨b,o,ha,-,hbb,ia,ic,pa,pc,qa,qc,e0,e1,e2,e3,e4,e5,-,-,-,hin⟩:=(HI.out wr HBR.out).roles.at q hql
       subst ha
       have hxl:=HX.out _ (List.getElem_mem hql)
       have HST:=Lh (HSH.out hn)
       obtain ⟨x,hx⟩:∃x,x=rs[q]:=⟨_,rfl⟩
       have HXQ:=Lh hx
       rw [← hx] at e0 e1 e2 e3 e4 e5 hin hxl
       clear hx
       obtain ⟨nm,⟨thr,xid⟩,tm,ps,qs⟩:=x
       dsimp only at e0 e1 e2 e3 e4 e5
       obtain ⟨l1,l2,l3⟩:=hxl
       dsimp only at l1 l2 l3
       have HA1:=Lh (fun n=>wN xid ia ic (wr.drewN n) hin.ids l1)
       have HA2:=Lh (fun n=>wN ps pa pc (wr.drewN n) hin.paths l2)
       have HA3:=Lh (fun n=>wN qs qa qc (wr.drewN n) hin.pres l3)
       have HO1:=Lh (@vZ xid)
       have HO2:=Lh (@vZ ps)
       have HO3:=Lh (@vZ qs)
       obtain ⟨a1,ha1⟩:∃a1,a1=zG xid 0:=⟨_,rfl⟩
       obtain ⟨a2,ha2⟩:∃a2,a2=zG ps 0:=⟨_,rfl⟩
       obtain ⟨a3,ha3⟩:∃a3,a3=zG qs 0:=⟨_,rfl⟩
       have b1:a1≤40010:=by rw [ha1];exact ku _ _ (by omega)
       have b2:a2≤40010:=by rw [ha2];exact ku _ _ (by omega)
       have b3:a3≤40010:=by rw [ha3];exact ku _ _ (by omega)
       rw [← ha1] at HA1 HO1
       rw [← ha2] at HA2 HO2
       rw [← ha3] at HA3 HO3
       clear hin ha1 ha2 ha3 l1 l2 l3
       obtain ⟨mn,hmn,hmn2⟩:∃mn:Nat,(if (nm.size:Int)<20000 then (nm.size:Int) else 20000)=(mn:Int)∧mn=min 20000 nm.size:=by
        by_cases h:nm.size<20000
        · exact ⟨nm.size,by rw [if_pos (by omega)],by omega⟩
        · exact ⟨20000,by rw [if_neg (by omega)];rfl,by omega⟩
       have HM2:=Lh hmn2
       have mn1:mn≤20000:=by omega
       have m1:(0:Int)≤(q:Int):=by omega
       have m2:(q:Int)<(mm:Int):=by omega
       have d1:decide ((q:Int)<(mm:Int))=true:=by simp;omega
       have d2:decide ((m:Int)<20000)=true:=by simp;omega
       have d3:decide (q<mm)=true:=by simpa using hlt
       have d4:decide (m<20000)=true:=by simpa using hn
       clear hmn2
       go_wp2_with fail
       go_quiet (first|(go_at_call 71;with_reducible exact Calls.quiet_of_same (HA1.out _))|(go_at_call 71;with_reducible exact Calls.quiet_of_same (HA2.out _))|(go_at_call 71;with_reducible exact Calls.quiet_of_same (HA3.out _)))
       go_wp2
       go_roundw
       case rel =>
        refine ⟨q+1,m+50+mn+a1+a2+a3,by omega,by go_num,by go_num,by omega,fun h=>⟨HST.out.1,fun j hj hjk=>?_⟩,Below.drewN HBR.out _⟩
        rcases Nat.lt_succ_iff_lt_or_eq.1 hjk with h1|h1
        · exact HST.out.2 j hj h1
        · subst h1
          rw [← HXQ.out]
          exact ⟨by have:=HM2.out;show nm.size≤20000;omega,HO1.out (by omega),HO2.out (by omega),HO3.out (by omega)⟩
       case measure=>simp [intOf];omega
     · have HXX:=Lh (show m<20000→NotLongD ⟨l,rs,⟨bits,pre,⟨t,ids⟩⟩⟩ from fun h=>by
        obtain ⟨h1,h2⟩:=HSH.out h
        have hqm:q=mm:=by omega
        refine ⟨HLE.out.1,HKS.out,HLE.out.2.1,fun x hx=>?_,HLE.out.2.2,h1⟩
        obtain ⟨j,hj,rfl⟩:=List.getElem_of_mem hx
        exact h2 j hj (by rw [hqm,HMM.out];exact hj))
       clear HSH
       by_cases hkn:q<mm
       · have d1:decide ((q:Int)<(mm:Int))=true:=by simp;omega
         have d2:decide ((m:Int)<20000)=false:=by simp;omega
         have d3:decide (q<mm)=true:=by simpa using hkn
         have d4:decide (m<20000)=false:=by simp;omega
         clear hgo
         go_wp2
         go_ret
         exact ⟨_,rfl,fun h=>HXX.out (by have h2:(m:Int)<20000:=(by simpa using h);omega),HB.out.trans (HBR.out.mono HB.out.size)⟩
       · have d1:decide ((q:Int)<(mm:Int))=false:=by simp;omega
         have d3:decide (q<mm)=false:=by simpa using hkn
         clear hgo
         go_wp2
         go_ret
         exact ⟨_,rfl,fun h=>HXX.out (by have h2:(m:Int)<20000:=(by simpa using h);omega),HB.out.trans (HBR.out.mono HB.out.size)⟩
theorem gv {d:DelegsV} (h:NotLongD d) (hb:-9223372036854775808≤d.bins.bits∧d.bins.bits≤9223372036854775807) (ht:-9223372036854775808≤d.bins.au.thr∧d.bins.au.thr≤9223372036854775807) (hx:∀x ∈ d.roles,-9223372036854775808≤x.au.thr∧x.au.thr≤9223372036854775807):DelegsFits d :=
 have sh:∀ {l:List ByteArray},vk l→l.length≤4294967296∧∀s ∈ l,s.size≤4294967296:=fun h=>⟨Nat.le_trans h.1 (by decide),fun s hs=>Nat.le_trans (h.2 s hs) (by decide)⟩
 ⟨h.len,h.keys,h.many,fun x hxm=>⟨Nat.le_trans (h.roles x hxm).name (by decide),⟨hx x hxm,sh (h.roles x hxm).ids⟩,sh (h.roles x hxm).paths,sh (h.roles x hxm).pres⟩,hb,h.pre,⟨ht,sh h.ids⟩⟩
end Go.Proofs.YthgembbgcbaghaaGreatDoor
