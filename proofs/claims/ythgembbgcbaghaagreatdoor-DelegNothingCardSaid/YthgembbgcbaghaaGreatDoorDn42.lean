/- Contracts for the law DelegNothing: With and Without of delegations' object, and deleg.Of of what comes of it. -/
import Derived.Test.YthgembbgcbaghaaGreatDoorDn41
import Derived.Test.YthgembbgcbaghaaGreatDoorDn39

namespace Go.Proofs.YthgembbgcbaghaaGreatDoor
open Go.RowKit
def ip (v:JV) (y:ByteArray) (w:World) (e:Ending) (w':World):Prop :=
 ∃(an:Option Addr) (cn:Nat) (ai:Option Addr) (ci:Nat),e=.returned (.tuple #[.agg #[.int .u8 5,.int .i64 0,.string ⟨#[]⟩,.slice an (vd v y v.names.length).length cn,.slice ai (wP v y v.names.length).length ci],.bool true]) ∧
  Rep w' w.heap.size w'.heap.size (wF v y) (.agg #[.int .u8 5,.int .i64 0,.string ⟨#[]⟩,.slice an (vd v y v.names.length).length cn,.slice ai (wP v y v.names.length).length ci])∧Below w.heap.size w w'
set_option maxHeartbeats 4000000 in
set_option maxRecDepth 100000 in
theorem p5 (lo:Nat) (v:JV) (y:ByteArray) (xv:Value) (w:World) (hwv:v.wt≤2000000000) (hk:v.kind=5) (hn0:v.n=0) (ht0:v.t=⟨#[]⟩) (hlen:v.names.length=v.items.length)
 (hr:qo v.names=true) (hfl:∀it ∈ v.items,up lo it) (hy:y ∈ v.names) (hV:Rep w lo w.heap.size v xv) :
 Calls Tryz.prog 45 #[xv,.string y] w (ip v y w):=by
 obtain ⟨an,cn,ai,ci,rfl,-,-,h3,h4⟩:=hV.parts
 obtain ⟨b1,b2,b3,b4⟩:=v.wt_bd
 obtain ⟨nn,hnn⟩:∃nn,nn=v.names.length:=⟨_,rfl⟩
 rw [hk,hn0,ht0,← hlen,← hnn]
 have HNN:=Lh hnn
 have HNI:=Lh (show v.items.length=nn by rw [hnn,hlen])
 have hnb9:nn≤2000000000:=by rw [hnn];omega
 have HRI0:=Lh hr
 have HFLA:=Lh hfl
 have HY:=Lh hy
 obtain ⟨W0,hW0⟩:∃W0,W0=(w.alloc (.cells #[.int .u8 5,.int .i64 0,.string ⟨#[]⟩,.slice an nn cn,.slice ai nn ci] 25)).alloc (.cells #[.int .u8 0,.int .i64 0,.string ⟨#[]⟩,.slice none 0 0,.slice none 0 0] 25):=⟨_,rfl⟩
 have hz0:W0.heap.size=w.heap.size+2:=by rw [hW0];simp
 have HB0:=Lh (show Below w.heap.size w W0 by rw [hW0];exact ((Below.refl _ _).alloc lz _).alloc (by simp) _)
 have HXV:=Lh (show W0.heap[w.heap.size]?=some (.cells #[.int .u8 5,.int .i64 0,.string ⟨#[]⟩,.slice an nn cn,.slice ai nn ci] 25 (0,0)) by rw [hW0];exact zk _ _ _)
 have HRS0:=Lh (show W0.rowIs (w.heap.size+1) 25 5 (qZ (.int .u8 0) (.int .i64 0) (.string ⟨#[]⟩) (.slice none 0 0) (.slice none 0 0)) by
  rw [hW0]
  have:=qf (w.alloc (.cells #[.int .u8 5,.int .i64 0,.string ⟨#[]⟩,.slice an nn cn,.slice ai nn ci] 25)) (.int .u8 0) (.int .i64 0) (.string ⟨#[]⟩) (.slice none 0 0) (.slice none 0 0) 25
  rwa [show (w.alloc (.cells #[.int .u8 5,.int .i64 0,.string ⟨#[]⟩,.slice an nn cn,.slice ai nn ci] 25)).heap.size=w.heap.size+1 by simp] at this)
 have HS:=Lh (h3.below HB0.out lz (Nat.zero_le _) HB0.out.size)
 have HI:=Lh (h4.below HB0.out lz lz HB0.out.size)
 have HFI:=Lh (yL v.names y an cn W0 HS.out (by omega) hr)
 rw [← hnn] at HFI
 unfold bC at HFI
 have HW0:=Lh hW0
 have HZ0:=Lh hz0
 clear h3 h4 hV hW0 hz0 hr hfl hnn hlen hk hn0 ht0 b2 b3 hy
 obtain ⟨i1,hi1,hy0,hy1,hy2⟩:=info_parts zA
 obtain ⟨i2,hi2,hx0,hx1,hx2⟩:=info_parts yw
 go_enter Tryz.func45,Tryz.ntmps45
 go_wp2_with fail
 rw [← HW0.out]
 refine HFI.out.mono ?_
 clear HFI HW0
 rintro e wc ⟨r,f,rfl,hrl,hq1,hq2,hq3,hq4,hb2⟩
 have hft:f=true:=by
  cases f
  · obtain ⟨j,hj,e⟩:=List.getElem_of_mem HY.out
    exact absurd e (hq4 rfl j hj)
  · rfl
 subst hft
 have HB2:=Lh hb2
 clear hq1 hq2 hq3 hq4 hb2 hrl HY
 obtain ⟨c0,c1,c2,c3,c4⟩:=jq HXV.out HB2.out
 have c3':(wc.alloc (.cells #[.int .u8 5,.int .i64 0,.string ⟨#[]⟩,.slice none 0 0,.slice none 0 0] 25)).cell? ⟨w.heap.size,3,none⟩=some (.slice an nn cn):=(ql _ (by have:=HB2.out.size;have:=HZ0.out;show w.heap.size<_;omega)).trans c3
 go_wp2_with fail
 clear c0 c1 c2 c3 c4 c3'
 have HO:=Lh (show ObjAt (wc.alloc (.cells #[.int .u8 5,.int .i64 0,.string ⟨#[]⟩,.slice none 0 0,.slice none 0 0] 25)) (wc.alloc (.cells #[.int .u8 5,.int .i64 0,.string ⟨#[]⟩,.slice none 0 0,.slice none 0 0] 25)) wc.heap.size 25 9 25 (.slice none 0 0) (.slice none 0 0) [] [] [] from
  ⟨by simp,Touch.refl _ _,qf _ _ _ _ _ _ _,World.ownsRow_nil _ _ _ _,World.ownsRow_nil _ _ _ _,qR.nil _ _ _,fun b hb=>by simp [Value.ownBlock] at hb⟩)
 have HBW:=Lh (show Below W0.heap.size W0 (wc.alloc (.cells #[.int .u8 5,.int .i64 0,.string ⟨#[]⟩,.slice none 0 0,.slice none 0 0] 25)) from fq HB2.out)
 have hcb0:W0.heap.size≤wc.heap.size:=HB2.out.size
 clear HB2
 generalize (wc.alloc (.cells #[.int .u8 5,.int .i64 0,.string ⟨#[]⟩,.slice none 0 0,.slice none 0 0] 25))=W at HO HBW ⊢
 generalize wc.heap.size=cb at HO hcb0 ⊢
 have HBT:=Lh (show ∀w',Touch (· = cb) W w'→Below W0.heap.size W0 w' from fun w' h=>HBW.out.trans (h.below HBW.out.size fun j hj e=>by omega))
 go_loopw [9,10,46] (fun _ _ i wr=>∃(k:Nat) (cs:List Value) (vn vi:Value),k≤nn∧i=.int .i64 k∧ObjAt W wr cb 25 9 25 vn vi (vd v y k) (wP v y k) cs) (fun _ _ i _=>nn - (intOf i).toNat)
 case atStart=>exact ⟨0,[],.slice none 0 0,.slice none 0 0,by omega,rfl,HO.out⟩
 case round =>
  obtain ⟨k,cs,vn,vi,hkr,rfl,hobj⟩:=hrel
  have HOB:=Lh hobj
  clear hobj
  by_cases hlt:k<nn
  · have hkn9:k<v.names.length:=by rw [← HNN.out];omega
    have hki9:k<v.items.length:=by rw [HNI.out];omega
    have hol1:=nN v y k
    have hol2:=nS v y k
    have HBR:=Lh (HBT.out wr HOB.out.touch)
    obtain ⟨pb,pf,ha,_,hpb,y1⟩:=(HS.out.below HBR.out lz lz lz).at k hkn9
    subst ha
    have HSTP:=Lh (lN v y k hkn9 hki9)
    obtain ⟨nk,hnk⟩:∃nk,nk=v.names[k]:=⟨_,rfl⟩
    replace y1:=y1.trans (congrArg (fun z=>some (Value.string z)) hnk.symm)
    rw [← hnk] at HSTP
    have HNK:=Lh hnk
    clear hnk
    have j0:(0:Int)≤(k:Int):=by omega
    have j1:(k:Int)<(nn:Int):=by omega
    cases hne:(nk.toList != y.toList)
    · have HST:=Lh (show gI v y (k+1)=gI v y k by rw [HSTP.out,hne];simp)
      have hne2:(nk.toList == y.toList)=true:=by simpa [bne] using hne
      go_wp2
      go_roundw
      case rel =>
       have HF:=HOB.out
       unfold vd wP at HF
       rw [← HST.out] at HF
       exact ⟨k+1,_,_,_,by omega,by go_num,HF⟩
      case measure=>simp [intOf];omega
    · have hne2:(nk.toList == y.toList)=false:=by simpa [bne] using hne
      have HNE:=Lh hne
      have c3o:wr.cell? ⟨cb,3,none⟩=some vn:=HOB.out.row.cell (by decide)
      have f3o:wr.frozen? ⟨cb,3,none⟩=false:=HOB.out.row.frozen 3
      obtain ⟨kn,hkn⟩:∃kn,kn=(vd v y k).length:=⟨_,rfl⟩
      have HKN:=Lh hkn
      have hkb:kn≤2000000001:=by rw [hkn];(try simp);omega
      have HNA:=Lh (show wr.ownsRow W.heap.size 9 1 vn kn ((vd v y k).map .string) by rw [hkn];exact HOB.out.names)
      have hcwr:cb<wr.heap.size:=HOB.out.row.lt
      have hcne:¬cb=wr.heap.size:=by omega
      have hzwr:W.heap.size≤wr.heap.size:=HOB.out.touch.size
      have hnb:some cb≠vn.ownBlock:=fun e=>by have:=(HOB.out.names.lt _ e.symm).1;have:=HOB.out.lt;omega
      clear hkn
      go_wp2_with (at_builtin;refine wpList_append_lies _ (by rfl) (.tmp 55) (.tmp 57) 22 (by rfl) W.heap.size 9 i2 _ 1 16 Tryz.underlying22 hi2 hx0 hx1 hx2 rfl (by decide) vn kn ((vd v y k).map .string) (by rfl) (by exact HNA.out.alloc _) _ 1 1 [.string nk] (by rfl) (by rfl) (by exact World.news_of_block (cs:=#[.string nk]) (t:=9) (fr:=(0,0)) (heap_alloc_new _ _)) (by simp [Value.oneCell']) (by omega) (by unfold maxLen;omega) (by omega) (by simp;omega) _ rfl ?_;intro g1 cap2 w6 hown6 hgrow6 hat6 hlt6;have HBN:=Lh (below_grow wr hgrow6 (by first|exact (Below.refl _ _).drew.alloc lz _|exact ((Below.refl _ _).alloc lz _).drew|exact (Below.refl _ _).alloc lz _));have c36:=kO hgrow6 HBN.out hcwr hnb c3o;have f36:=jl hgrow6 HBN.out hcwr hnb f3o;have HO6:=Lh hown6;have HG6:=Lh hgrow6;have HA6:=Lh hat6;clear hown6 hgrow6 hat6)
      have HO7:=Lh (show ObjAt W (w6.setCell ⟨cb,3,none⟩ (.slice (some ⟨g1,0,none⟩) (kn+1) cap2)) cb 25 9 25 (.slice (some ⟨g1,0,none⟩) (kn+1) cap2) vi (vd v y k ++ [nk]) (wP v y k) cs by
       have:=(HOB.out.below HBN.out).name nk (g:=g1) (cap:=cap2) HG6.out (by rcases HA6.out with h|h;exact .inl h;exact .inr (by have:=HBN.out.size;omega)) (by rw [← HKN.out];exact HO6.out)
       rwa [← HKN.out] at this)
      clear HO6 HG6 HA6 HNA HBN c3o f3o hnb hcwr hcne hzwr hlt6 HOB
      generalize (w6.setCell ⟨cb,3,none⟩ (.slice (some ⟨g1,0,none⟩) (kn+1) cap2))=w7 at HO7 ⊢
      generalize (Value.slice (some ⟨g1,0,none⟩) (kn+1) cap2)=vn7 at HO7 ⊢
      clear y1 HBR
      have HBR:=Lh (HBT.out w7 HO7.out.touch)
      obtain ⟨ib,io,ian,icn,iai,ici,hia,_,hib,y0,y1,y2,y3,y4,hri⟩:=(HI.out.below HBR.out lz lz lz).get k hki9
      subst hia
      have hfk:=HFLA.out v.items[k] (List.getElem_mem hki9)
      have hwk:=JV.wts_get v.items k hki9
      have hit:∃it,it=v.items[k]:=⟨_,rfl⟩
      obtain ⟨it,hit⟩:=hit
      rw [← hit] at y0 y1 y2 y3 y4 hri hfk hwk HSTP
      have HFL:=Lh hfk
      have HRI:=Lh (Rep.carry lz HBR.out.size (fun _ _ _=>rfl) _ _ hri)
      clear hit hfk hri
      obtain ⟨c0,c1,c2,c3,c4⟩:=jq HXV.out HBR.out
      have hpz:ib<w7.heap.size:=by have:=HBR.out.size;omega
      have hwz:w.heap.size<w7.heap.size:=by have:=HBR.out.size;have:=HZ0.out;omega
      clear c0 c1 c2 c3
      have c4o:w7.cell? ⟨cb,4,none⟩=some vi:=HO7.out.row.cell (by decide)
      have f4o:w7.frozen? ⟨cb,4,none⟩=false:=HO7.out.row.frozen 4
      obtain ⟨ki,hki⟩:∃ki,ki=(wP v y k).length:=⟨_,rfl⟩
      have HKI:=Lh hki
      have hkib:ki≤2000000001:=by rw [hki];(try simp);omega
      have HI7:=Lh (show w7.ownsRow W.heap.size 25 5 vi ki cs by rw [hki];exact HO7.out.items)
      have hcz7:cb<w7.heap.size:=HO7.out.row.lt
      have hz7:W.heap.size≤w7.heap.size:=HO7.out.touch.size
      have hnb:some cb≠vi.ownBlock:=fun e=>by have:=(HO7.out.items.lt _ e.symm).1;have:=HO7.out.lt;omega
      have HCI:=Lh (show Calls Tryz.prog 91 #[.agg #[.int .u8 it.kind,.int .i64 it.n,.string it.t,.slice ian it.names.length icn,.slice iai it.items.length ici]] w7.drew (fun e w3=>∃an3 cn3 ai3 ci3,e=.returned (.agg #[.int .u8 it.kind,.int .i64 it.n,.string it.t,.slice an3 it.names.length cn3,.slice ai3 it.items.length ci3])∧Rep w3 w7.heap.size w3.heap.size it (.agg #[.int .u8 it.kind,.int .i64 it.n,.string it.t,.slice an3 it.names.length cn3,.slice ai3 it.items.length ci3])∧Below w7.heap.size w7 w3∧w7.heap.size≤w3.heap.size∧w3.cell? ⟨cb,4,none⟩=some vi∧w3.frozen? ⟨cb,4,none⟩=false∧w3.ownsRow W.heap.size 25 5 vi ki cs) by
       refine (HFL.out _ w7.drew w7.heap.size lz (show Rep w7.drew lo w7.heap.size it _ from Rep.carry (w:=w7) (w':=w7.drew) lz lz (fun _ _ _=>rfl) _ _ HRI.out)).mono ?_
       rintro e w3 ⟨an3,cn3,ai3,ci3,rfl,hr3,hb3⟩
       have hb4:Below w7.heap.size w7 w3:=(Below.refl _ _).drew.trans hb3
       exact ⟨an3,cn3,ai3,ci3,rfl,hr3,hb4,hb4.size,by rw [hb4.cell hcz7];exact c4o,by rw [hb4.frozen hcz7];exact f4o,qG HI7.out hb4⟩)
      clear hki
      go_wp2_with fail
      go_region_law (first|(refine step_append_lies _ (by rfl) (.tmp 61) (.tmp 68) 23 (by rfl) W.heap.size 25 i1 _ 5 80 Tryz.underlying23 hi1 hy0 hy1 hy2 rfl (by omega) vi ki cs (by rfl) (HO3.out.alloc _) ⟨w3.heap.size,0,none⟩ 1 1 (Array.toList #[.int .u8 it.kind,.int .i64 it.n,.string it.t,.slice an3 it.names.length cn3,.slice ai3 it.items.length ci3]) (by rfl) (by rfl) (World.news_of_block (cs:=#[.int .u8 it.kind,.int .i64 it.n,.string it.t,.slice an3 it.names.length cn3,.slice ai3 it.items.length ci3]) (t:=25) (fr:=(0,0)) (heap_alloc_new w3 _)) (by simp [Value.oneCell']) (by omega) (by unfold maxLen;omega) (by omega) (by simp;omega) (w3.heap.size+1) (by simp) ?_;intro g2 cap3 w4 hown4 hgrow4 hat4 hlt4;have c44:=qM hgrow4 hcz3 hnb c43;have f44:=qH hgrow4 hcz3 hnb f43;have HO4:=Lh hown4;have HG4:=Lh hgrow4;have HA4:=Lh hat4;clear hown4 hgrow4 hat4)|(go_simp;go_at_call 91;(with_reducible refine HCI.out.mono ?_);rintro e w3 ⟨an3,cn3,ai3,ci3,rfl,hr3,hb3,hz3,c43,f43,ho3⟩;have hcz3:cb<w3.heap.size:=Nat.lt_of_lt_of_le hcz7 hz3;have HO3:=Lh ho3;have HR3':=Lh hr3;have HB3':=Lh hb3;clear ho3 hr3 hb3))
      all_goals
       have HST:=Lh (show ObjAt W (w4.setCell ⟨cb,4,none⟩ (.slice (some ⟨g2,0,none⟩) (ki+1) cap3)) cb 25 9 25 vn7 (.slice (some ⟨g2,0,none⟩) (ki+1) cap3) (vd v y k ++ [nk]) (wP v y k ++ [it]) _ by
        have:=HO7.out.item (it:=it) (lo:=w7.heap.size) (hi:=w3.heap.size) (g:=g2) (cap:=cap3) (HB3'.out.trans ((Below.refl _ _).alloc hz3 _)) lz (by simp) (HR3'.out.carry lz lz fun b _ hb=>Below.heap_alloc _ _ _ hb) HG4.out (by rcases HA4.out with h|h;exact .inl h;exact .inr (by simp;omega)) (by rw [← HKI.out];exact HO4.out)
        rw [← HKI.out] at this
        exact this)
       clear HO7 HB3' HR3' HG4 HA4 HO4 HO3 HCI HI7
       clear y0 y1 y2 y3 y4 c4
       go_wp2
       go_roundw
       case rel =>
        have e0:gI v y (k+1)=gI v y k ++ [(nk,it)]:=by rw [HSTP.out,HNE.out];simp
        have e1:vd v y (k+1)=vd v y k ++ [nk]:=by unfold vd;rw [e0,List.map_append];rfl
        have e2:wP v y (k+1)=wP v y k ++ [it]:=by unfold wP;rw [e0,List.map_append];rfl
        have HF:=HST.out
        rw [← e1,← e2] at HF
        exact ⟨k+1,_,_,_,by omega,by go_num,HF⟩
       case measure=>simp [intOf];omega
  · obtain rfl:k=nn:=by omega
    obtain ⟨an',cn',ai',ci',rfl,rfl,hrep⟩:=HOB.out.done
    have HRP:=Lh hrep
    have hrow:=HOB.out.row
    have HBE:=Lh (HBT.out wr HOB.out.touch)
    have hres:=qj HBE.out HRS0.out (by have:=HZ0.out;omega)
    have hcw:=HOB.out.lt
    have hz:=HOB.out.touch.size
    have hwz:w.heap.size+2≤wr.heap.size:=by have:=HBE.out.size;have:=HZ0.out;omega
    obtain ⟨nl,hnl⟩:∃nl,nl=(vd v y k).length:=⟨_,rfl⟩
    obtain ⟨il,hil⟩:∃il,il=(wP v y k).length:=⟨_,rfl⟩
    rw [← hnl,← hil] at hrow HRP
    have HNL:=Lh hnl
    have HIL:=Lh hil
    have r0':=hrow.cell (i:=0) (by decide);have r1:=hrow.cell (i:=1) (by decide);have r2:=hrow.cell (i:=2) (by decide);have r3:=hrow.cell (i:=3) (by decide);have r4:=hrow.cell (i:=4) (by decide)
    obtain ⟨t0,t1,t2,t3,t4⟩:=rc5 hres
    obtain ⟨s0,s1,s2,s3,s4⟩:=rf5 hres
    simp only [qZ] at r0' r1 r2 r3 r4 t0 t1 t2 t3 t4
    have HRS:=Lh hres
    have HBF:=Lh (HB0.out.trans (HBE.out.mono HB0.out.size))
    clear hrow hres hrep HOB hnl hil
    go_wp2
    refine bodyPost_ret (qk Tryz.results45 _ _ (w.heap.size+1) 25 _ (0,0) _ rfl (qX (set5 _ _ _ _ _ HRS.out)) Tryz.underlying25 rfl (by kernel_rfl) _ rfl) rfl ⟨an',cn',ai',ci',?_,?_,zj _ _ _ _ _ HBF.out (by omega)⟩
    · rw [← HNN.out,← HNL.out,← HIL.out];rfl
    · unfold wF
      rw [← HNN.out,← HNL.out,← HIL.out]
      exact Rep.carry (by have:=HBW.out.size;have:=HZ0.out;omega) (show wr.heap.size≤_ by simp [World.setCell]) (fun j hj _=>jv _ _ _ _ _ (by have:=HBW.out.size;have:=HZ0.out;omega)) _ _ HRP.out
def aE (J:JV) (er:Value) (w:World) (e:Ending) (w':World):Prop:=∃an cn ai ci,e=.returned (.tuple #[.agg #[.int .u8 5,.int .i64 0,.string ⟨#[]⟩,.slice an J.names.length cn,.slice ai J.items.length ci],er]) ∧
 Rep w' w.heap.size w'.heap.size J (.agg #[.int .u8 5,.int .i64 0,.string ⟨#[]⟩,.slice an J.names.length cn,.slice ai J.items.length ci])∧Below w.heap.size w w'
theorem oo {l:List ByteArray} {n:ByteArray} {f:Bool} {r:Nat} (h4:f=true→∃h:r<l.length,l[r]=n) (hn:n ∉ l):f=false:=by
 cases f with
 | false=>rfl
 | true=>obtain ⟨h,h'⟩:=h4 rfl;exact absurd (h' ▸ List.getElem_mem h) hn
theorem fN (p:NJ→Bool):∀N:List NJ,qv ((N.filter p).map (·.1))≤qv (N.map (·.1))∧JV.wts ((N.filter p).map (·.2))≤JV.wts (N.map (·.2))
 | []=>⟨Nat.le_refl _,Nat.le_refl _⟩
 | a :: l=>by
  have:=fN p l
  rw [List.filter_cons]
  split <;> simp only [List.map_cons,qv,JV.wts] <;> omega
theorem iu (N:List NJ) (y:ByteArray):(wF (zV N) y).wt≤(zV N).wt:=by
 rw [vX,wC,wC]
 have:=fN (fun z=>z.1.toList != y.toList) N
 omega
theorem wA {c:Nat}:∀(l:List ByteArray),(∀x ∈ l,x.size≤c)→(qh l).wt≤1+(c+1) * l.length:=fun l h=>by
 have h1:∀l:List ByteArray,(∀x ∈ l,x.size≤c)→JV.wts (l.map txtJ)≤(c+1) * l.length:=fun l=>by
  induction l with
  | nil=>intro _;simp [JV.wts]
  | cons x r ih =>
   intro h
   have h1:=h x (List.mem_cons_self ..)
   have h2:=ih fun y hy=>h y (List.mem_cons_of_mem _ hy)
   rw [List.map_cons,JV.wts,xg,List.length_cons,Nat.mul_succ];omega
 have:=h1 l h
 show 1+(⟨#[]⟩:ByteArray).size+qv [] + JV.wts (l.map txtJ)≤_
 have e:(⟨#[]⟩:ByteArray).size=0:=rfl
 have e2:qv []=0:=rfl
 omega
theorem dD {x:DelegV} (h:qK x=true):(qm x).wt≤20000:=by
 obtain ⟨s1,⟨-,s2,s3⟩,⟨s4,-⟩,⟨s6,-⟩⟩:=jR h
 obtain ⟨-,-,h3,h4⟩:=xP h
 have ha:=zE h3
 have h2:=wA (c:=64) x.au.ids (fun s hs=>by have:=(kX (xI _ _ ha.2.2 s hs)).2;omega)
 rw [show qm x=zV (zd x) from rfl,wC]
 unfold zd
 rcases h4 with ⟨hp,-,-,h6⟩|⟨hp,-,-,h6⟩
 · rw [if_pos hp]
   have h3:=wA (c:=256) x.paths (fun s hs=>fC (List.all_eq_true.1 h6 s hs))
   show 1+qv [qb,zx,xm,trmN,thrN] + ((qh x.au.ids).wt+((txtJ x.name).wt+((qh x.paths).wt+((za x.term).wt+((zh x.au.thr).wt+0)))))≤_
   have e1:qv [qb,zx,xm,trmN,thrN]≤100:=by decide
   rw [xg,vO,kV]
   omega
 · rw [if_neg (by rw [hp];simp)]
   have h3:=wA (c:=64) x.pres (fun s hs=>cy (List.all_eq_true.1 h6 s hs))
   show 1+qv [qb,zx,zJ,trmN,thrN] + ((qh x.au.ids).wt+((txtJ x.name).wt+((qh x.pres).wt+((za x.term).wt+((zh x.au.thr).wt+0)))))≤_
   have e1:qv [qb,zx,zJ,trmN,thrN]≤100:=by decide
   rw [xg,vO,kV]
   omega
theorem gL:∀(l:List DelegV),(∀x ∈ l,qK x=true)→JV.wts (l.map qm)≤20000 * l.length
 | [],_=>by simp [JV.wts]
 | x :: r,h=>by
  have h1:=dD (h x (List.mem_cons_self ..))
  have h2:=gL r fun y hy=>h y (List.mem_cons_of_mem _ hy)
  rw [List.map_cons,JV.wts,List.length_cons];omega
theorem gR {d:DelegsV} (h:qP d=true):(qy d).wt≤1900000000:=by
 rw [zQ,xQ,Bool.and_eq_true] at h
 obtain ⟨hk,h⟩:=h
 have h1:=bz (m:=d.keys) (fun k hk'=>by have:=yb ((q6.1 hk).2.1 k hk');omega)
 have h2:=(q6.1 hk).1
 rw [show qy d=zV (qW d) from rfl,wC]
 unfold qW
 split
 · rename_i hb
   rw [if_pos hb] at h
   unfold zy at h
   simp only [Bool.and_eq_true,decide_eq_true_eq] at h
   have h3:=gL d.roles fun x hx=>List.all_eq_true.1 h.1.2 x hx
   show 1+qv [qt,zX] + ((zu d.keys).wt+((zn (d.roles.map qm)).wt+0))≤_
   have e1:qv [qt,zX]≤100:=by decide
   rw [gy]
   have:=h.1.1
   omega
 · rename_i hb
   rw [if_neg hb,Bool.and_eq_true] at h
   have h3:=pV h.2
   show 1+qv [qt,zl] + ((zu d.keys).wt+((zt d.bins).wt+0))≤_
   have e1:qv [qt,zl]≤100:=by decide
   omega
theorem vh (d:DelegsV):(qy d).names=if qS d.bins then [qt,zX] else [qt,zl]:=by
 show (qW d).map (·.1)=_
 unfold qW
 split <;> rfl
theorem yJ (d:DelegsV):qo (qy d).names=true:=by
 rw [vh]
 split <;> kernel_rfl
theorem pF (d:DelegsV):(qy d).names.length=(qy d).items.length:=by
 show ((qW d).map (·.1)).length=((qW d).map (·.2)).length
 simp
theorem vE (d:DelegsV) (n:ByteArray) (x:JV) (xv xx:Value) (w:World) (lo:Nat) (hlo:0<lo) (hm:qP d=true) (hx:x.wt≤20000) (hns:n.size≤300) (hn:n≠qt∧n≠zl∧(n=zX→qS d.bins=false)) (hV:Rep w lo w.heap.size (qy d) xv) (hX:Rep w 0 w.heap.size x xx) :
 Calls Tryz.prog 46 #[xv,.string n,xx] w fun e w'=>∃J,aE J (.int .i64 0) w e w'∧J.wt≤4294967296∧(qT J).2=if J.mayB then 11 else 3:=by
 have hw:=gR hm
 have hl:=vh d
 have h2:(qy d).names.length=2:=by rw [hl];split <;> rfl
 have hin:n ∉ (qy d).names:=by
  rw [hl]
  cases hb:qS d.bins with
  | true =>
   rw [if_pos rfl]
   intro h
   rcases List.mem_cons.1 h with h|h
   · exact hn.1 h
   · have:=hn.2.2 (by simpa using h)
     rw [hb] at this;cases this
  | false =>
   rw [if_neg (by decide)]
   intro h
   rcases List.mem_cons.1 h with h|h
   · exact hn.1 h
   · exact hn.2.1 (by simpa using h)
 refine (dC (WeakCopy x) 0 lo (qy d) n x xv xx w (by omega) (by omega) rfl rfl rfl (pF d) (yJ d) (pP (by omega) hlo) hV hX (ce (by omega))).mono ?_
 rintro e w' ⟨r,f,x',an,cn,ai,ci,h1,h2',h3,h4,h5,h6,h7,h8,h9⟩
 have hf:f=false:=oo h4 hin
 subst hf
 refine ⟨jK (qy d) r false n x',⟨an,cn,ai,ci,h7,h8,h9⟩,?_,me hm (by omega) hn⟩
 have:=sN (qy d) r false n x'
 have:=h6.wt
 omega
theorem nX (d:DelegsV) (x:Value) (w:World) (lo:Nat) (hlo:0<lo) (hm:qP d=true) (hV:Rep w lo w.heap.size (qy d) x) :
 Calls Tryz.prog 45 #[x,.string ⟨#[107,101,121,115]⟩] w fun e w'=>∃J,aE J (.bool true) w e w'∧J.wt≤4294967296∧(qT J).2=6:=by
 have hw:=gR hm
 refine (p5 lo (qy d) qt x w (by omega) rfl rfl rfl (pF d) (yJ d) (pP (by omega) hlo) (by rw [vh];split <;> simp) hV).mono ?_
 rintro e w' ⟨an,cn,ai,ci,h1,h2,h3⟩
 refine ⟨wF (qy d) qt,⟨an,cn,ai,ci,h1,h2,h3⟩,?_,pN hm⟩
 have:=iu (qW d) qt
 have e:(zV (qW d)).wt=(qy d).wt:=rfl
 have e2:(wF (zV (qW d)) qt).wt=(wF (qy d) qt).wt:=rfl
 omega
def ef (er:Int) (w:World) (e:Ending) (w':World):Prop:=∃(z0 z1:Int) (s0:ByteArray) (n0 n1 n2:Nat) (y0 y1 y2:Option Addr) (m0 m1 m2:Nat),e=.returned (.tuple #[.agg #[.slice y0 n0 m0,.slice y1 n1 m1,.int .i64 z0,.slice y2 n2 m2,.int .i64 z1,.string s0],.int .i64 er])∧Below w.heap.size w w'
theorem tq (v:JV) (x:Value) (w:World) (lo:Nat) (hlo:0<lo) (hN:v.wt≤4294967296) (hR:Rep w lo w.heap.size v x) (hT:Tabs w):Calls Tryz.prog 16 #[x] w (ef (qT v).2 w):=by
 refine (gD v x w lo hlo hN hR hT).mono ?_
 rintro e w' ⟨ka,kc,ra,rc,ba,bc,h1,h2,h3,h4⟩
 exact ⟨_,_,_,_,_,_,ka,ra,ba,kc,rc,bc,h1,h4⟩
end Go.Proofs.YthgembbgcbaghaaGreatDoor
