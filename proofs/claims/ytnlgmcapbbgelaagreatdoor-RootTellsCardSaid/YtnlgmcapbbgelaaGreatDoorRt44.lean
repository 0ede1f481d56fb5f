/- The contract of legateref11.ObjectOf: members whose names, sorted, rise. -/
import Derived.Test.YtnlgmcapbbgelaaGreatDoorRt39
import Derived.OwnWalk

namespace Go.Proofs.YtnlgmcapbbgelaaGreatDoor
open Go.RowKit Go.Shelf Go.Sort
def cS (ns:List ByteArray) (its:List JV) (lo:Nat) (w:World) (e:Ending) (w':World):Prop :=
 ∃an cn ai ci,e=.returned (.tuple #[.agg #[.int .u8 5,.int .i64 0,.string ⟨#[]⟩,.slice an ns.length cn,.slice ai its.length ci],.int .i64 0]) ∧
  Rep w' lo w'.heap.size (.mk 5 0 ⟨#[]⟩ ns its) (.agg #[.int .u8 5,.int .i64 0,.string ⟨#[]⟩,.slice an ns.length cn,.slice ai its.length ci])∧Below w.heap.size w w'
theorem nL {w:World} {base e size n q cn:Nat} {an:Option Addr} {xs:List Value} (h:w.ownsRow base e size (.slice an q cn) n xs) (h0:0<n):∃gn,an=some ⟨gn,0,none⟩∧base≤gn∧gn<w.heap.size:=by
 rcases h.2 with ⟨_,hz⟩|⟨gn,cap,cur,hv,hg,hh,_⟩
 · omega
 · simp only [Value.slice.injEq] at hv
   exact ⟨gn,hv.1,hg,qz hh⟩
set_option maxHeartbeats 4000000 in
set_option maxRecDepth 100000 in
theorem fg (W0 g cap:Nat) (w:World) (M N:List NJ) (hM:lT 181 W0 w (.slice (some ⟨g,0,none⟩) N.length cap) N) (hp:M.Perm N) (hr:qr (M.map (·.1))=true) (hl:N.length≤4294967296) (hW:W0≤w.heap.size) (hg:g<w.heap.size) :
 Calls Tryz.prog 130 #[.slice (some ⟨g,0,none⟩) N.length cap] w (cS (M.map (·.1)) (M.map (·.2)) W0 w):=by
 obtain ⟨ms,hms,hnm,hlen⟩:=hM.len
 obtain ⟨n,hn⟩:∃n,n=N.length:=⟨_,rfl⟩
 rw [← hn] at hms hl hlen ⊢
 have HN:=Lh hn
 have HNM:=Lh hnm
 have HP:=Lh hp
 have HR:=Lh hr
 have HLEN:=Lh hlen
 have HMS:=Lh hms
 have HND:=Lh (show ∀i j,i<n→j<i→ms[i]!.name≠ms[j]!.name from fun i j hi hj=>by
  have h1:(M.map (·.1)).Nodup:=List.Pairwise.imp (fun {a b} (h:Op.bytesLess a.toList b.toList=true) e=>by rw [e,zG] at h;cases h) ((dl _).1 hr)
  have h2:(ms.map (·.name)).Nodup:=by rw [hnm];exact ((hp.map (·.1)).nodup_iff).1 h1
  have h3:=List.pairwise_iff_getElem.1 h2 j i (by simp;omega) (by simp;omega) hj
  rw [getElem!_pos ms i (by omega),getElem!_pos ms j (by omega)]
  simp only [List.getElem_map] at h3
  exact fun e=>h3 e.symm)
 have HCE:=Lh (show ∀(w':World),w'.heap[g]?=w.heap[g]?→∀i c,i<n→c<6→w'.cell? ⟨g,i * 6+c,none⟩=some ((qY ms[i]!)[c]!) from fun w' hb i c hi hc=>by
  rw [World.cell?_of_block (w:=w) hb,getElem!_pos ms i (by omega),getElem!_pos (qY (ms[i]'(by omega))) c (by rw [ze];exact hc)]
  exact hms.cell i (by omega) c hc)
 clear hms hnm hp hr hM hlen hn
 go_enter Tryz.func130,Tryz.ntmps130
 go_wp2
 obtain ⟨W,hW2⟩:∃W,W=(w.alloc (.cells #[.int .u8 0,.int .i64 0,.string ⟨#[]⟩,.slice none 0 0,.slice none 0 0] 25)).alloc (.cells #[.int .u8 5,.int .i64 0,.string ⟨#[]⟩,.slice none 0 0,.slice none 0 0] 25):=⟨_,rfl⟩
 rw [← hW2]
 have hz1:(w.alloc (.cells #[.int .u8 0,.int .i64 0,.string ⟨#[]⟩,.slice none 0 0,.slice none 0 0] 25)).heap.size=w.heap.size+1:=by simp
 have hz2:W.heap.size=w.heap.size+2:=by rw [hW2];simp
 have hb2:Below w.heap.size w W:=by rw [hW2];exact ((Below.refl _ _).alloc lz _).alloc (by simp) _
 have hr0:W.rowIs w.heap.size 25 5 (qs (.int .u8 0) (.int .i64 0) (.string ⟨#[]⟩) (.slice none 0 0) (.slice none 0 0)):=by
  rw [hW2]
  exact qx ((Below.refl _ _).alloc lz _) (qf w (.int .u8 0) (.int .i64 0) (.string ⟨#[]⟩) (.slice none 0 0) (.slice none 0 0) 25) (by simp)
 have hr1:W.rowIs (w.heap.size+1) 25 5 (qs (.int .u8 5) (.int .i64 0) (.string ⟨#[]⟩) (.slice none 0 0) (.slice none 0 0)):=by
  have:=qf (w.alloc (.cells #[.int .u8 0,.int .i64 0,.string ⟨#[]⟩,.slice none 0 0,.slice none 0 0] 25)) (.int .u8 5) (.int .i64 0) (.string ⟨#[]⟩) (.slice none 0 0) (.slice none 0 0) 25
  rw [hz1,← hW2] at this
  exact this
 have HB2:=Lh hb2
 have HR0:=Lh hr0
 have HR1:=Lh hr1
 have HZ2:=Lh hz2
 clear hW2 hb2 hr0 hr1 hz1 hz2
 go_loopw [5,6] (fun i _ wr=>∃k:Nat,k≤n∧i=.int .i64 k∧Below W.heap.size W wr) (fun i _ _=>n - (intOf i).toNat)
 case atStart=>exact ⟨0,by omega,rfl,Below.refl _ _⟩
 case round =>
  obtain ⟨k,hk,rfl,hbw⟩:=hrel
  have HBW:=Lh hbw
  clear hbw
  by_cases hlt:k<n
  · go_wp2
    go_loopw [6] (fun i wr=>∃j:Nat,j≤k∧i=.int .i64 j∧Below W.heap.size W wr) (fun i _=>k - (intOf i).toNat)
    case atStart=>exact ⟨0,by omega,rfl,HBW.out⟩
    case round =>
     obtain ⟨j,hj,rfl,hbw⟩:=hrel
     have HBX:=Lh hbw
     clear hbw
     by_cases hjk:j<k
     · have hgb:wr.heap[g]?=w.heap[g]?:=(HBX.out.block g (by have:=HZ2.out;omega)).trans (HB2.out.block g hg)
       have y0:=HCE.out wr hgb k 0 hlt (by decide)
       have y1:=HCE.out wr hgb j 0 (by omega) (by decide)
       have hne:=HND.out k j hlt hjk
       generalize ms[k]! = ma at y0 hne
       generalize ms[j]! = mb at y1 hne
       simp only [qY,Nat.add_zero,List.getElem!_cons_zero] at y0 y1
       have hd2:(ma.name.toList == mb.name.toList)=false:=by
        rw [ByteArray.toList_eq,ByteArray.toList_eq]
        cases hq:(ma.name.data.toList == mb.name.data.toList)
        · rfl
        · exact absurd (ByteArray.ext (Array.toList_inj.1 (eq_of_beq hq))) hne
       have hjn:j<n:=by omega
       clear hne hgb
       go_wp2_with fail
       go_quiet (fail)
       go_wp2
       go_roundw
       case rel=>exact ⟨j+1,by omega,by go_num,Below.drewN HBX.out _⟩
       case measure=>simp [intOf];omega
     · obtain rfl:j=k:=by omega
       go_wp2
       go_roundw
       case rel=>exact ⟨j+1,by omega,by go_num,HBX.out⟩
       case measure=>simp [intOf];omega
  · obtain rfl:k=n:=by omega
    have hb:=HBW.out
    have hwz:=hb.size
    have hcb:w.heap.size+1<wr.heap.size:=by have:=HZ2.out;omega
    have HO:=Lh (show ObjAt2 wr wr W0 (w.heap.size+1) 25 9 25 (.slice none 0 0) (.slice none 0 0) [] [] [] from
     ⟨hcb,by omega,Touch.refl _ _,qx hb HR1.out (by have:=HZ2.out;omega),World.ownsRow_nil _ _ _ _,World.ownsRow_nil _ _ _ _,qP.nil _ _ _,fun b hb=>by simp [Value.ownBlock] at hb⟩)
    have HBA:=Lh (show Below w.heap.size w wr from HB2.out.trans (hb.mono (by have:=HZ2.out;omega)))
    have HRA:=Lh (qx hb HR0.out (by have:=HZ2.out;omega))
    have HGC:=Lh (show g<w.heap.size∧w.heap.size+1<wr.heap.size from ⟨hg,hcb⟩)
    clear hb hwz HBW HB2 HR0 HR1 HZ2 HND hlt hk
    generalize wr=Z at *
    obtain ⟨MN,hMN⟩:∃MN,MN=M.map (·.1):=⟨_,rfl⟩
    obtain ⟨NN,hNN⟩:∃NN,NN=ms.map (·.name):=⟨_,rfl⟩
    have HMN:=Lh hMN
    have HNN:=Lh hNN
    have HML:=Lh (show M.length=k by have:=HP.out.length_eq;rw [this,← HN.out])
    have HNL:=Lh (show NN.length=k by rw [hNN,List.length_map];exact HLEN.out)
    have HNI:=Lh (show ∀i,i<k→∃h:i<NN.length,NN[i]=ms[i]!.name from fun i hi=>by
     have h1:i<ms.length:=by have:=HLEN.out;omega
     subst hNN
     refine ⟨by simpa using h1,?_⟩
     rw [getElem!_pos ms i h1];simp)
    clear hMN hNN
    obtain ⟨i1,hi1,hy0,hy1,hy2⟩:=info_parts xo
    obtain ⟨i2,hi2,hx0,hx1,hx2⟩:=info_parts vO
    go_wp2
    go_loopw [7,8] (fun _ _ wr=>∃(q:Nat) (cs:List Value) (an:Option Addr) (cn:Nat) (vi:Value),q≤k∧ObjAt2 Z wr W0 (w.heap.size+1) 25 9 25 (.slice an q cn) vi (MN.take q) ((M.map (·.2)).take q) cs∧qP w W0 (fun b=>w.heap.size≤b) ((M.map (·.2)).take q) cs) (fun _ _ wr=>k - (match wr.cell? ⟨w.heap.size+1,3,none⟩ with|some (.slice _ l _)=>l|_=>0))
    case atStart=>exact ⟨0,[],none,0,.slice none 0 0,by omega,by simpa using HO.out,by simpa using qP.nil _ _ _⟩
    case round =>
     obtain ⟨q,cs,an,cn,vi,hq,hobj,hrrw⟩:=hrel
     have HRR:=Lh hrrw
     clear hrrw
     have HOB:=Lh hobj
     clear hobj
     generalize wr=Y at *
     have c3:Y.cell? ⟨w.heap.size+1,3,none⟩=some (.slice an q cn):=HOB.out.row.cell (by decide)
     have HGB:=Lh (show ∀wx:World,Below Y.heap.size Y wx→wx.heap[g]?=w.heap[g]? from fun wx h=>by
      have h1:=HOB.out.touch.size
      have h2:=HGC.out
      rw [h.block g (by omega),HOB.out.touch.block g (by omega) (by omega),HBA.out.block g h2.1])
     have HC3:=Lh c3
     by_cases hlt:q<k
     · go_wp2
       go_loopw [7,8] (fun at_ i wx=>∃(j:Nat) (a:Int),j≤k∧at_=.int .i64 a∧i=.int .i64 j∧zd MN NN q j a∧Below Y.heap.size Y wx) (fun _ i _=>k - (intOf i).toNat)
       case atStart=>exact ⟨0,-1,by omega,rfl,rfl,zd.start _ _ _,Below.refl _ _⟩
       case round =>
        obtain ⟨j,a,hj,rfl,rfl,hla,hbx⟩:=hrel
        have HLA:=Lh hla
        have HBX:=Lh hbx
        replace c3:wr.cell? ⟨w.heap.size+1,3,none⟩=some (.slice an q cn):=(hbx.cell HOB.out.row.lt).trans c3
        clear hla hbx
        by_cases hjk:j<k
        · have y0:=HCE.out wr (HGB.out wr HBX.out) j 0 hjk (by decide)
          have hnj:=HNI.out j hjk
          generalize ms[j]! = ma at y0 hnj
          have HNJ:=Lh hnj
          clear hnj
          simp only [qY,Nat.add_zero,List.getElem!_cons_zero] at y0
          have HSK:=Lh (show (0<q∧∃gn lp,an=some ⟨gn,0,none⟩∧wr.cell? ⟨gn,q - 1,none⟩=some (.string lp)∧MN[q-1]?=some lp)∨q=0 from by
           rcases Nat.eq_zero_or_pos q with h|h
           · exact .inr h
           · have hln:(MN.take q).length=q:=by rw [List.length_take,HMN.out,List.length_map,HML.out];omega
             have hown:=qX HOB.out.names HBX.out
             obtain ⟨gn,rfl,_,_⟩:=nL hown (by omega)
             have hq1:q - 1<MN.length:=by rw [HMN.out,List.length_map,HML.out];omega
             refine .inl ⟨h,gn,MN[q-1],rfl,?_,List.getElem?_eq_getElem hq1⟩
             have:=hown.cells (g:=gn) rfl (q - 1) (.string MN[q-1]) (by rw [List.getElem?_map,List.getElem?_take_of_lt (by omega),List.getElem?_eq_getElem hq1];rfl)
             have e:(⟨gn,0,none⟩:Addr).add (q - 1)=⟨gn,q - 1,none⟩:=by unfold Addr.add;split <;> simp_all
             rwa [e] at this)
          have hdj:((j:Int).toNat)=j:=by omega
          rcases HSK.out with ⟨h0,gn,lp,rfl,z0,hlp⟩|rfl
          case' inl =>
           have HLP:=Lh hlp
           clear hlp HSK
           have i0:IntKind.i64.wrap ((q:Int) - 1)=(q:Int) - 1:=IntWalk.i64_in _ (by omega)
           have j0:0≤(q:Int) - 1:=by omega
           have j1:1≤(q:Int):=by omega
           have j2:(q:Int) - 1<(q:Int):=by omega
           have t0:((q:Int) - 1).toNat=q - 1:=by omega
           have hdd:decide (0<q)=true:=by simpa using h0
           cases hb:Op.bytesLess lp.toList ma.name.toList
           case' false =>
            have HNE:=Lh (show ¬Eli MN NN q j from by
             rintro (h|⟨h1,h2,h⟩)
             · omega
             · obtain ⟨h3,h4⟩:=HNJ.out
               rw [h4] at h
               have e:MN[q-1]=lp:=by have:=HLP.out;rw [List.getElem?_eq_getElem h1] at this;exact Option.some.inj this
               rw [e] at h
               unfold bl at h
               rw [hb] at h;cases h)
            cases hb2:Op.bytesLess ma.name.toList lp.toList
            case' false=>have hb3:(ma.name.toList == lp.toList)=true:=by simpa using yh _ _ hb2 hb
            all_goals
             clear hb
             go_wp2_with fail
             go_quiet (fail)
             go_wp2
             go_roundw
             case rel=>exact ⟨j+1,a,by omega,rfl,by go_num,HLA.out.skip HNE.out,Below.drewN HBX.out _⟩
             case measure=>simp [intOf];omega
           case' true =>
            have HEL:=Lh (show Eli MN NN q j from by
             obtain ⟨h3,h4⟩:=HNJ.out
             have h1:q - 1<MN.length:=by
              have:=HLP.out
              rw [List.getElem?_eq_some_iff] at this
              exact this.1
             refine .inr ⟨h1,h3,?_⟩
             have e:MN[q-1]=lp:=by have:=HLP.out;rw [List.getElem?_eq_getElem h1] at this;exact Option.some.inj this
             rw [e,h4];exact hb)
            have hb2:Op.bytesLess ma.name.toList lp.toList=false:=by
             cases h:Op.bytesLess ma.name.toList lp.toList with
             | false=>rfl
             | true=>have:=j4 _ _ _ h hb;rw [zG] at this;cases this
            have hb3:(
             ma.name.toList == lp.toList)=false:=by
             cases h:(ma.name.toList == lp.toList) with
             | false=>rfl
             | true =>
              have h2:ma.name.toList=lp.toList:=by simpa using h
              rw [h2,zG] at hb;cases hb
            clear hb
            go_wp2_with fail
            go_quiet (fail)
            clear i0 j0 j1 j2 t0 hb2 hb3 z0 hdd
          case' inr =>
           have HEL:=Lh (show Eli MN NN 0 j from .inl rfl)
           clear HSK
           have hdd:decide ((0:Int)<((0:Nat):Int))=false:=by simp
           go_wp2_with fail
           go_quiet (fail)
           clear hdd
          all_goals
           have HBY:=Lh (show Below Y.heap.size Y (wr.drewN nq) from Below.drewN HBX.out _)
           replace y0:(wr.drewN nq).cell? ⟨g,j * 6,none⟩=some (.string ma.name):=y0
           clear HBX c3
           generalize wr.drewN nq=w5 at HBY y0 ⊢
           have hjn:=HNJ.out.1
           by_cases ha:a<0
           · have HAN:=Lh ha
             have hda:decide (a<0)=true:=by simpa using ha
             clear ha
             go_wp2_with fail
             go_quiet (fail)
             go_wp2
             go_roundw
             case rel=>exact ⟨j+1,(j:Int),by omega,rfl,by go_num,HLA.out.first hjn HAN.out HEL.out,Below.drewN HBY.out _⟩
             case measure=>simp [intOf];omega
           · obtain ⟨b,hbl,rfl⟩:∃b:Nat,b<NN.length∧a=(b:Int):=by
              rcases HLA.out with ⟨e,_⟩|⟨b,hb,e,_⟩
              · omega
              · exact ⟨b,hb,e⟩
             have hbk:b<k:=by have:=HNL.out;omega
             have y1:=HCE.out w5 (HGB.out w5 HBY.out) b 0 hbk (by decide)
             have hnb:=HNI.out b hbk
             generalize ms[b]! = mb at y1 hnb
             have HNB:=Lh hnb
             clear hnb ha
             simp only [qY,Nat.add_zero,List.getElem!_cons_zero] at y1
             have hda:decide ((b:Int)<0)=false:=by simp
             have hb0:0≤(b:Int):=by omega
             have hbt:((b:Int).toNat)=b:=by omega
             cases hc:Op.bytesLess ma.name.toList mb.name.toList
             · have HLS:=Lh (show bl NN[j] NN[b]=false by unfold bl;rw [HNJ.out.2,HNB.out.2];exact hc)
               go_wp2_with fail
               go_quiet (fail)
               go_wp2
               go_roundw
               case rel=>exact ⟨j+1,(b:Int),by omega,rfl,by go_num,HLA.out.keep hjn hbl HLS.out,Below.drewN HBY.out _⟩
               case measure=>simp [intOf];omega
             · have HLS:=Lh (show bl NN[j] NN[b]=true by unfold bl;rw [HNJ.out.2,HNB.out.2];exact hc)
               go_wp2_with fail
               go_quiet (fail)
               go_wp2
               go_roundw
               case rel=>exact ⟨j+1,(j:Int),by omega,rfl,by go_num,HLA.out.less hjn hbl HLS.out HEL.out,Below.drewN HBY.out _⟩
               case measure=>simp [intOf];omega
        · obtain rfl:j=k:=by omega
          obtain ⟨b,hbl,rfl,hnb⟩:=zd.done (M:=MN) (N:=NN) (by rw [HMN.out];exact HR.out) (by rw [HMN.out,HNN.out,HNM.out];exact HP.out.map _) (by rw [HMN.out,List.length_map,HML.out];exact hlt) (by have:=HLA.out;rwa [← HNL.out] at this)
          have hbk:b<j:=by have:=HNL.out;omega
          have HNB:=Lh hnb
          have HBL:=Lh hbl
          clear HLA
          have HY:=Lh (HGB.out wr HBX.out)
          have HW5:=Lh (HOB.out.below HBX.out)
          have hqM:q<M.length:=by rw [HML.out];exact hlt
          have hbN:b<N.length:=by rw [← HN.out];exact hbk
          have hbm:b<ms.length:=by rw [HLEN.out];exact hbk
          have heq:N[b]=M[q]:=by
           obtain ⟨c,hc,e⟩:=List.getElem_of_mem (HP.out.mem_iff.2 (List.getElem_mem hbN))
           have e1:N[b].1=M[q].1:=by
            have h1:=HNB.out
            have h2:NN[b]=N[b].1:=by
             have h3:NN=N.map (·.1):=HNN.out.trans HNM.out
             have:=List.getElem_of_eq h3 hbl
             rw [List.getElem_map] at this
             exact this
            have h4:MN[q]'(by rw [HMN.out,List.length_map];exact hqM)=M[q].1:=by
             have:=List.getElem_of_eq HMN.out (i:=q) (by rw [HMN.out,List.length_map];exact hqM)
             rw [List.getElem_map] at this
             exact this
            rw [← h2,← h4];exact h1
           have e2:c=q:=yC (M.map (·.1)) HR.out c q (by simpa using hc) (by simpa using hqM) (by simp only [List.getElem_map];rw [e,e1])
           subst e2
           exact e.symm
          obtain ⟨lo,hi,hlo,hhi,-,hrk⟩:=HMS.out.reps b (by simpa using hbN)
          simp only [List.getElem_map] at hrk
          rw [heq] at hrk
          have hnm:(ms[b]'hbm).name=M[q].1:=by
           have:=List.getElem_of_eq HNM.out (i:=b) (by simpa using hbm)
           simp only [List.getElem_map] at this
           rw [this,heq]
          have HTN:=Lh (show MN.take (q+1)=MN.take q ++ [M[q].1] by
           have h1:q<MN.length:=by rw [HMN.out,List.length_map];exact hqM
           rw [List.take_succ_eq_append_getElem h1]
           have:=List.getElem_of_eq HMN.out h1
           rw [this];simp)
          have HTI:=Lh (show (M.map (·.2)).take (q+1)=(M.map (·.2)).take q ++ [M[q].2] by
           rw [List.take_succ_eq_append_getElem (by simpa using hqM)];simp)
          obtain ⟨an5,cn5,ai5,ci5,hval,-,-,-,-⟩:=hrk.parts
          have hmb:ms[b]! = ⟨M[q].1,M[q].2.kind,M[q].2.n,M[q].2.t,an5,M[q].2.names.length,cn5,ai5,M[q].2.items.length,ci5⟩:=by
           rw [getElem!_pos ms b hbm]
           generalize ms[b]=x at hval hnm
           obtain ⟨x0,x1,x2,x3,x4,x5,x6,x7,x8,x9⟩:=x
           simp only [Mem.val,Value.agg.injEq,Array.mk.injEq,List.cons.injEq,Value.int.injEq,Value.string.injEq,Value.slice.injEq,true_and,and_true] at hval
           dsimp only at hnm
           obtain ⟨rfl,rfl,rfl,⟨rfl,rfl,rfl⟩,rfl,rfl,rfl⟩:=hval
           rw [hnm]
          rw [hval] at hrk
          have HRK:=Lh hrk
          have HCB:=Lh (show ∀(w':World),w'.heap[g]?=w.heap[g]?→∀c,c<6→w'.cell? ⟨g,b * 6+c,none⟩=some ((qY ⟨M[q].1,M[q].2.kind,M[q].2.n,M[q].2.t,an5,M[q].2.names.length,cn5,ai5,M[q].2.items.length,ci5⟩)[c]!) from fun w' h c hc=>by
           have:=HCE.out w' h b c hbk hc
           rwa [hmb] at this)
          generalize M[q].1=nm at HTN HCB hnm hmb
          generalize M[q].2=it at HTI HCB HRK hrk hval hmb
          clear hnm hmb hval hrk heq hbm hbN hqM
          clear HOB HBX c3
          generalize wr=V at *
          have hpl:w.heap.size+1<V.heap.size:=HW5.out.row.lt
          have hpn:some (w.heap.size+1)≠(Value.slice an q cn).ownBlock:=fun e=>by have:=(HW5.out.names.lt _ e.symm).1;omega
          have e2:V.cell? ⟨w.heap.size+1,3,none⟩=some (.slice an q cn):=HW5.out.row.cell (by decide)
          have fp2:=HW5.out.row.frozen 3
          have y0:=HCB.out V HY.out 0 (by decide)
          simp only [qY,Nat.add_zero,List.getElem!_cons_zero] at y0
          have HLN:=Lh (show (MN.take q).length=q by rw [List.length_take,HMN.out,List.length_map,HML.out];omega)
          have HOD:=Lh (show V.drew.ownsRow Z.heap.size 9 1 (.slice an q cn) q ((MN.take q).map .string) by have:=HW5.out.names;rw [HLN.out] at this;exact this)
          have hzv:Z.heap.size≤V.heap.size:=HW5.out.touch.size
          have hb0:0≤(b:Int):=by omega
          have hbt:((b:Int).toNat)=b:=by omega
          go_upto_region 18 with fail
          go_region_law (refine step_append_lies _ (by rfl) (.tmp 82) (.tmp 88) 22 (by rfl) Z.heap.size 9 i2 _ 1 16 Tryz.underlying22 hi2 hx0 hx1 hx2 rfl (by omega) (.slice an q cn) q ((MN.take q).map .string) (by rfl) (HOD.out.alloc _) ⟨V.heap.size,0,none⟩ 1 1 (Array.toList #[.string nm]) (by rfl) (by rfl) (World.news_of_block (cs:=#[.string nm]) (t:=9) (fr:=(0,0)) (heap_alloc_new V.drew _)) (by simp [Value.oneCell']) (by omega) (by unfold maxLen;omega) (by omega) (by simp;omega) (V.heap.size+1) (by simp) ?_;intro g2 cap3 w4 hown4 hgrow4 hat4 hlt4;have c44:w4.cell? ⟨w.heap.size+1,3,none⟩=some (.slice an q cn):=(World.cell?_of_block (hgrow4.block _ (by simp;omega) hpn)).trans ((qh _ (show w.heap.size+1<V.drew.heap.size from hpl)).trans e2);have f44:w4.frozen? ⟨w.heap.size+1,3,none⟩=false:=(World.frozen?_of_block (hgrow4.block _ (by simp;omega) hpn)).trans ((((Below.refl V.drew.heap.size V.drew).alloc lz _).frozen (show w.heap.size+1<V.drew.heap.size from hpl)).trans fp2);have HO4:=Lh hown4;have HG4:=Lh hgrow4;have HA4:=Lh hat4;clear hown4 hgrow4 hat4)
          all_goals
           have HO7:=Lh (show ObjAt2 Z (w4.setCell ⟨w.heap.size+1,3,none⟩ (.slice (some ⟨g2,0,none⟩) (q+1) cap3)) W0 (w.heap.size+1) 25 9 25 (.slice (some ⟨g2,0,none⟩) (q+1) cap3) vi (MN.take (q+1)) ((M.map (·.2)).take q) cs by
            have:=(HW5.out.below (((Below.refl V.heap.size V).drew).alloc lz (.cells #[.string nm] 9))).name nm (g:=g2) (cap:=cap3) HG4.out (by
             rcases HA4.out with h|h
             · exact .inl h
             · exact .inr (by simp;omega)) (by rw [HLN.out];exact HO4.out)
            rw [HLN.out,← HTN.out] at this
            exact this)
           clear HW5 HO4 HG4 HA4 c44 f44 e2 fp2 y0 HOD HLN HTN hpn hpl hzv HY
           generalize (w4.setCell ⟨w.heap.size+1,3,none⟩ (.slice (some ⟨g2,0,none⟩) (q+1) cap3))=V7 at HO7 ⊢
           have hpl:w.heap.size+1<V7.heap.size:=HO7.out.row.lt
           have hpn:some (w.heap.size+1)≠vi.ownBlock:=fun e=>by have:=(HO7.out.items.lt _ e.symm).1;omega
           have e2:V7.cell? ⟨w.heap.size+1,4,none⟩=some vi:=HO7.out.row.cell (by decide)
           have fp2:=HO7.out.row.frozen 4
           have HG7:=Lh (show ∀x,x<w.heap.size→V7.heap[x]?=w.heap[x]? from fun x hx=>by
            rw [HO7.out.touch.block x (by omega) (by omega),HBA.out.block x hx])
           have y1:=HCB.out V7 (HG7.out g HGC.out.1) 1 (by decide);have y2:=HCB.out V7 (HG7.out g HGC.out.1) 2 (by decide);have y3:=HCB.out V7 (HG7.out g HGC.out.1) 3 (by decide);have y4:=HCB.out V7 (HG7.out g HGC.out.1) 4 (by decide);have y5:=HCB.out V7 (HG7.out g HGC.out.1) 5 (by decide)
           simp only [qY,List.getElem!_cons_zero,List.getElem!_cons_succ] at y1 y2 y3 y4 y5
           have HLI:=Lh (show ((M.map (·.2)).take q).length=q by rw [List.length_take,List.length_map,HML.out];omega)
           have HOD:=Lh (show V7.drew.ownsRow Z.heap.size 25 5 vi q cs by have:=HO7.out.items;rw [HLI.out] at this;exact this)
           have hzv:Z.heap.size≤V7.heap.size:=HO7.out.touch.size
           go_upto_region 19 with fail
           go_region_law (refine step_append_lies _ (by rfl) (.tmp 92) (.tmp 98) 23 (by rfl) Z.heap.size 25 i1 _ 5 80 Tryz.underlying23 hi1 hy0 hy1 hy2 rfl (by omega) vi q cs (by rfl) (HOD.out.alloc _) ⟨V7.heap.size,0,none⟩ 1 1 (Array.toList #[.int .u8 it.kind,.int .i64 it.n,.string it.t,.slice an5 it.names.length cn5,.slice ai5 it.items.length ci5]) (by rfl) (by rfl) (World.news_of_block (cs:=#[.int .u8 it.kind,.int .i64 it.n,.string it.t,.slice an5 it.names.length cn5,.slice ai5 it.items.length ci5]) (t:=25) (fr:=(0,0)) (heap_alloc_new V7.drew _)) (by simp [Value.oneCell']) (by omega) (by unfold maxLen;omega) (by omega) (by simp;omega) (V7.heap.size+1) (by simp) ?_;intro g6 cap6 w6 hown4 hgrow4 hat4 hlt4;have c44:w6.cell? ⟨w.heap.size+1,4,none⟩=some vi:=(World.cell?_of_block (hgrow4.block _ (by simp;omega) hpn)).trans ((qh _ (show w.heap.size+1<V7.drew.heap.size from hpl)).trans e2);have f44:w6.frozen? ⟨w.heap.size+1,4,none⟩=false:=(World.frozen?_of_block (hgrow4.block _ (by simp;omega) hpn)).trans ((((Below.refl V7.drew.heap.size V7.drew).alloc lz _).frozen (show w.heap.size+1<V7.drew.heap.size from hpl)).trans fp2);have HO4:=Lh hown4;have HG4:=Lh hgrow4;have HA4:=Lh hat4;clear hown4 hgrow4 hat4)
           all_goals
            have HO8:=Lh (show ObjAt2 Z (w6.setCell ⟨w.heap.size+1,4,none⟩ (.slice (some ⟨g6,0,none⟩) (q+1) cap6)) W0 (w.heap.size+1) 25 9 25 (.slice (some ⟨g2,0,none⟩) (q+1) cap3) (.slice (some ⟨g6,0,none⟩) (q+1) cap6) (MN.take (q+1)) ((M.map (·.2)).take (q+1)) _ by
             have:=(HO7.out.below (((Below.refl V7.heap.size V7).drew).alloc lz (.cells #[.int .u8 it.kind,.int .i64 it.n,.string it.t,.slice an5 it.names.length cn5,.slice ai5 it.items.length ci5] 25))).item (it:=it) (lo:=lo) (hi:=hi) (g:=g6) (cap:=cap6) hlo (by omega) (Rep.carry (w:=w) lz lz (fun x _ hx=>(Below.heap_alloc _ _ _ (show x<V7.drew.heap.size from by show x<V7.heap.size;omega)).trans (HG7.out x (by omega))) _ _ HRK.out) HG4.out (by
              rcases HA4.out with h|h
              · exact .inl h
              · exact .inr (by simp;omega)) (by rw [HLI.out];exact HO4.out)
             rw [HLI.out,← HTI.out] at this
             exact this)
            have HRN:=Lh (HRR.out.snoc it lo hi an5 cn5 ai5 ci5 hlo hhi (fun x hx hb=>by omega) HRK.out)
            rw [← HTI.out] at HRN
            clear HO7 HO4 HG4 HA4 c44 f44 e2 fp2 y1 y2 y3 y4 y5 HOD HLI HTI
            go_wp2
            go_roundw
            case rel=>exact ⟨q+1,_,_,_,_,by omega,HO8.out,HRN.out⟩
            case measure =>
             have h1:=HC3.out
             have h2:=HO8.out.row.cell (i:=3) (by decide)
             simp only [qs] at h2
             rw [h1,h2]
             exact Nat.sub_lt_sub_left hlt (Nat.lt_succ_self _)
     · obtain rfl:q=k:=by omega
       have hn1:MN.take q=MN:=List.take_of_length_le (by rw [HMN.out,List.length_map,HML.out];exact Nat.le_refl _)
       have hn2:(M.map (·.2)).take q=M.map (·.2):=List.take_of_length_le (by rw [List.length_map,HML.out];exact Nat.le_refl _)
       rw [hn1,hn2] at HOB
       rw [hn2] at HRR
       have HLN:=Lh (show MN.length=q by rw [HMN.out,List.length_map,HML.out])
       have HLI:=Lh (show (M.map (·.2)).length=q by rw [List.length_map,HML.out])
       obtain ⟨an2,cn2,ai,ci,hv1,rfl,hrep⟩:=HOB.out.done
       obtain ⟨rfl,rfl⟩:an=an2∧cn=cn2:=by simpa [HLN.out] using hv1
       have HRP:=Lh (show ∀F:World,(∀x,x≠w.heap.size→F.heap[x]?=Y.heap[x]?)→Y.heap.size≤F.heap.size→Rep F W0 F.heap.size (.mk 5 0 ⟨#[]⟩ MN (M.map (·.2))) (.agg #[.int .u8 5,.int .i64 0,.string ⟨#[]⟩,.slice an MN.length cn,.slice ai (M.map (·.2)).length ci]) from fun F hF hz=>by
        have hlt:=HOB.out.lt
        have hzz:=HOB.out.touch.size
        have nF:=xQ (zv HOB.out.names fun x hx=>hF x (by have:=(HOB.out.names.lt x hx).1;omega)) HOB.out.le
        have iF:=xQ (zv HOB.out.items fun x hx=>hF x (by have:=(HOB.out.items.lt x hx).1;omega)) HOB.out.le
        have rF:qP F W0 (fun b=>w.heap.size≤b) (M.map (·.2)) cs:=HRR.out.carry (by omega) lz (fun x hx _=>by rw [hF x (by omega),HOB.out.touch.block x (by omega) (by omega),HBA.out.block x hx]) (fun _ h=>.inl h)
        obtain ⟨a1,c1,h1,h2,h3⟩:=je nF rfl
        obtain ⟨a2,c2,h4,h5,h6⟩:=xt iF rF rfl
        simp only [Value.slice.injEq] at h1 h4
        obtain ⟨rfl,-,rfl⟩:=h1
        obtain ⟨rfl,-,rfl⟩:=h4
        exact Rep.mk (v:=.mk 5 0 ⟨#[]⟩ MN (M.map (·.2))) h2 h5 h3 h6)
       have hrow:=HOB.out.row
       have hcw:=HOB.out.lt
       have hz:=HOB.out.touch.size
       have hres:=HOB.out.touch.row HRA.out (by omega)
       rw [HLI.out] at hrow
       obtain ⟨r0,r1,r2,r3,r4⟩:=rc5 hrow
       obtain ⟨t0,t1,t2,t3,t4⟩:=rc5 hres
       obtain ⟨s0,s1,s2,s3,s4⟩:=rf5 hres
       simp only [qs] at r0 r1 r2 r3 r4 t0 t1 t2 t3 t4
       have HRS:=Lh hres
       have HBF:=Lh (show Below w.heap.size w Y from HBA.out.trans (HOB.out.touch.below (by omega) fun j hj e=>by omega))
       clear hrow hres hrep hn1 hn2 HOB c3 hv1
       go_wp2
       refine bodyPost_ret (qj Tryz.results130 _ _ w.heap.size 25 _ (0,0) _ rfl (qm (set5 _ _ _ _ _ HRS.out)) Tryz.underlying25 rfl (by kernel_rfl) _ rfl) rfl ⟨an,cn,ai,ci,?_,?_,qT _ _ _ _ _ HBF.out lz⟩
       · rw [← HMN.out,HLN.out,HLI.out];rfl
       · rw [← HMN.out]
         exact HRP.out _ (fun x hx=>jC _ _ _ _ _ hx) (by simp [World.setCell])
end Go.Proofs.YtnlgmcapbbgelaaGreatDoor
