/- The contract of value.With: an object whose Items are copied exactly (flat ones, or all the call own), with a value that is copied in any way. -/
import Derived.Test.YthgembbgcbaghaaGreatDoorDn25

namespace Go.Proofs.YthgembbgcbaghaaGreatDoor
open Go.RowKit
theorem below_grow {W w':World} {row:Option Nat} (wr:World) (_h:W.grownBy w' row) (hb:Below wr.heap.size wr W):Below wr.heap.size wr W:=hb
theorem fR {α:Type} {pre l:List α} {q k:Nat} (h:q≤k) (hk:k<l.length):pre ++ (l.drop q).take (k+1 - q)=pre ++ (l.drop q).take (k - q) ++ [l[k]]:=by
 have e:k+1 - q=(k - q)+1:=by omega
 rw [e,List.take_succ_eq_append_getElem (by rw [List.length_drop];omega),← List.append_assoc,List.getElem_drop]
 congr 3
 omega
def nZ (C:JV→Prop) (v:JV) (y:ByteArray) (w:World) (e:Ending) (w':World):Prop :=
 ∃(r:Nat) (f:Bool) (x':JV) (an:Option Addr) (cn:Nat) (ai:Option Addr) (ci:Nat),r≤v.names.length∧(∀t (h:t<v.names.length),t<r→bl v.names[t] y=true)∧(∀t (h:t<v.names.length),r≤t→bl v.names[t] y=false) ∧
  (f=true→∃h:r<v.names.length,v.names[r]=y)∧(f=false→∀t (h:t<v.names.length),v.names[t]≠y)∧C x' ∧
  e=.returned (.tuple #[.agg #[.int .u8 5,.int .i64 0,.string ⟨#[]⟩,.slice an (ww v r f y).length cn,.slice ai (go v r f x').length ci],.int .i64 0]) ∧
  Rep w' w.heap.size w'.heap.size (jK v r f y x') (.agg #[.int .u8 5,.int .i64 0,.string ⟨#[]⟩,.slice an (ww v r f y).length cn,.slice ai (go v r f x').length ci])∧Below w.heap.size w w'
def aO (C:JV→Prop) (lo:Nat) (v:JV):Prop:=∀(x:Value) (w:World) (hi:Nat),hi≤w.heap.size→Rep w lo hi v x→Calls Tryz.prog 91 #[x] w (fun e w'=>∃u an cn ai ci,C u∧e=.returned (.agg #[.int .u8 u.kind,.int .i64 u.n,.string u.t,.slice an u.names.length cn,.slice ai u.items.length ci])∧Rep w' w.heap.size w'.heap.size u (.agg #[.int .u8 u.kind,.int .i64 u.n,.string u.t,.slice an u.names.length cn,.slice ai u.items.length ci])∧Below w.heap.size w w')
theorem ce {v:JV} (hN:v.wt≤4294967296):aO (WeakCopy v) 0 v:=fun x w hi hhi hR=>cI v x w hi hN hhi hR
set_option maxHeartbeats 4000000 in
set_option maxRecDepth 100000 in
theorem dC (C:JV→Prop) (lx lo:Nat) (v:JV) (y:ByteArray) (x:JV) (xv xx:Value) (w:World) (hwv:v.wt≤2000000000) (_hwx:x.wt≤2000000000) (hk:v.kind=5) (hn0:v.n=0) (ht0:v.t=⟨#[]⟩) (hlen:v.names.length=v.items.length)
 (hr:qo v.names=true) (hfl:∀it ∈ v.items,up lo it) (hV:Rep w lo w.heap.size v xv) (hX:Rep w lx w.heap.size x xx) (hcx:aO C lx x) :
 Calls Tryz.prog 46 #[xv,.string y,xx] w (nZ C v y w):=by
 obtain ⟨an,cn,ai,ci,rfl,-,-,h3,h4⟩:=hV.parts
 obtain ⟨bn,dn,bi,di,rfl,-,-,-,-⟩:=hX.parts
 obtain ⟨b1,b2,b3,b4⟩:=v.wt_bd
 obtain ⟨nn,hnn⟩:∃nn,nn=v.names.length:=⟨_,rfl⟩
 rw [hk,hn0,ht0,← hlen,← hnn]
 have HNN:=Lh hnn
 have HNI:=Lh (show v.items.length=nn by rw [hnn,hlen])
 have hnb9:nn≤2000000000:=by rw [hnn];omega
 have HRI0:=Lh hr
 have HFLA:=Lh hfl
 have HCX:=Lh hcx
 clear hcx
 obtain ⟨W0,hW0⟩:∃W0,W0=((w.alloc (.cells #[.int .u8 5,.int .i64 0,.string ⟨#[]⟩,.slice an nn cn,.slice ai nn ci] 25)).alloc (.cells #[.int .u8 x.kind,.int .i64 x.n,.string x.t,.slice bn x.names.length dn,.slice bi x.items.length di] 25)).alloc (.cells #[.int .u8 0,.int .i64 0,.string ⟨#[]⟩,.slice none 0 0,.slice none 0 0] 25):=⟨_,rfl⟩
 have hz0:W0.heap.size=w.heap.size+3:=by rw [hW0];simp
 have HB0:=Lh (show Below w.heap.size w W0 by rw [hW0];exact (((Below.refl _ _).alloc lz _).alloc (by simp) _).alloc (by simp;omega) _)
 have HXV:=Lh (show W0.heap[w.heap.size]?=some (.cells #[.int .u8 5,.int .i64 0,.string ⟨#[]⟩,.slice an nn cn,.slice ai nn ci] 25 (0,0)) by rw [hW0];exact d8 (zk _ _ _))
 have HXX:=Lh (show W0.heap[w.heap.size+1]?=some (.cells #[.int .u8 x.kind,.int .i64 x.n,.string x.t,.slice bn x.names.length dn,.slice bi x.items.length di] 25 (0,0)) by rw [hW0];exact d8 (jw _ _ _))
 have HRS0:=Lh (show W0.rowIs (w.heap.size+2) 25 5 (qZ (.int .u8 0) (.int .i64 0) (.string ⟨#[]⟩) (.slice none 0 0) (.slice none 0 0)) by
  rw [hW0]
  have:=qf ((w.alloc (.cells #[.int .u8 5,.int .i64 0,.string ⟨#[]⟩,.slice an nn cn,.slice ai nn ci] 25)).alloc (.cells #[.int .u8 x.kind,.int .i64 x.n,.string x.t,.slice bn x.names.length dn,.slice bi x.items.length di] 25)) (.int .u8 0) (.int .i64 0) (.string ⟨#[]⟩) (.slice none 0 0) (.slice none 0 0) 25
  rwa [show ((w.alloc (.cells #[.int .u8 5,.int .i64 0,.string ⟨#[]⟩,.slice an nn cn,.slice ai nn ci] 25)).alloc (.cells #[.int .u8 x.kind,.int .i64 x.n,.string x.t,.slice bn x.names.length dn,.slice bi x.items.length di] 25)).heap.size=w.heap.size+2 by simp] at this)
 have HS:=Lh (h3.below HB0.out lz (Nat.zero_le _) HB0.out.size)
 have HI:=Lh (h4.below HB0.out lz lz HB0.out.size)
 have HX:=Lh (hX.below HB0.out lz lz HB0.out.size)
 have HAS:=Lh (xK v.names an cn W0 HS.out (by omega))
 rw [hr,← hnn] at HAS
 have HW0:=Lh hW0
 have HZ0:=Lh hz0
 clear h3 h4 hX hV hW0 hz0 hr hfl hnn hlen hk hn0 ht0 b2 b3
 obtain ⟨i1,hi1,hy0,hy1,hy2⟩:=info_parts zA
 obtain ⟨i2,hi2,hx0,hx1,hx2⟩:=info_parts yw
 go_enter Tryz.func46,Tryz.ntmps46
 go_wp2_with fail
 rw [← HW0.out]
 refine HAS.out.mono ?_
 clear HAS HW0
 rintro e w1 ⟨rfl,hb1⟩
 have HB1:=Lh hb1
 have HFI:=Lh (yL v.names y an cn w1 (HS.out.below hb1 lz lz hb1.size) (by rw [← HNN.out];omega) HRI0.out)
 rw [← HNN.out] at HFI
 unfold bC at HFI
 obtain ⟨c0,c1,c2,c3,c4⟩:=jq HXV.out hb1
 clear hb1
 go_wp2_with fail
 refine HFI.out.mono ?_
 clear HFI c0 c1 c2 c3 c4
 rintro e w2 ⟨r,f,rfl,hrl,hq1,hq2,hq3,hq4,hb2⟩
 have HQ:=Lh (And.intro hq1 (And.intro hq2 (And.intro hq3 hq4)))
 have hqf:f=true→r<nn:=fun h=>by obtain ⟨h',_⟩:=hq3 h;rw [HNN.out];exact h'
 rw [← HNN.out] at hrl
 have HB2:=Lh (HB1.out.trans (hb2.mono HB1.out.size))
 clear hq1 hq2 hq3 hq4 hb2 HB1
 obtain ⟨q,hq⟩:∃q,q=r+f.toNat:=⟨_,rfl⟩
 have hqr:r≤q:=by omega
 have hqn:q≤nn:=by
  rw [hq]
  cases f
  · simpa using hrl
  · have:=hqf rfl;simp;omega
 go_upto_if 40 with fail
 go_cut [10] (fun s10 wx=>s10=.int .i64 (q:Int)∧wx=w2)
 case first =>
  cases f
  · go_wp2_with fail
    go_meet
    exact ⟨by rw [hq];simp,rfl⟩
  · have hw1:IntKind.i64.wrap ((r:Int)+1)=(r:Int)+1:=IntWalk.i64_in _ (by omega)
    go_wp2_with fail
    go_meet
    exact ⟨by rw [hq];simp,rfl⟩
 case rest =>
  obtain ⟨hs10,hwc⟩:=hcut
  subst hs10
  subst hwc
  have HQQ:=Lh hq
  clear hq hqf
  obtain ⟨c0,c1,c2,c3,c4⟩:=jq HXV.out HB2.out
  go_wp2_with fail
  clear c0 c1 c2 c3 c4
  have HO:=Lh (show ObjAt (wc.alloc (.cells #[.int .u8 5,.int .i64 0,.string ⟨#[]⟩,.slice none 0 0,.slice none 0 0] 25)) (wc.alloc (.cells #[.int .u8 5,.int .i64 0,.string ⟨#[]⟩,.slice none 0 0,.slice none 0 0] 25)) wc.heap.size 25 9 25 (.slice none 0 0) (.slice none 0 0) [] [] [] from
   ⟨by simp,Touch.refl _ _,qf _ _ _ _ _ _ _,World.ownsRow_nil _ _ _ _,World.ownsRow_nil _ _ _ _,qR.nil _ _ _,fun b hb=>by simp [Value.ownBlock] at hb⟩)
  have HBW:=Lh (show Below W0.heap.size W0 (wc.alloc (.cells #[.int .u8 5,.int .i64 0,.string ⟨#[]⟩,.slice none 0 0,.slice none 0 0] 25)) from fq HB2.out)
  have hcb0:W0.heap.size≤wc.heap.size:=HB2.out.size
  clear HB2
  generalize (wc.alloc (.cells #[.int .u8 5,.int .i64 0,.string ⟨#[]⟩,.slice none 0 0,.slice none 0 0] 25))=W at HO HBW ⊢
  generalize wc.heap.size=cb at HO hcb0 ⊢
  have HBT:=Lh (show ∀w',Touch (· = cb) W w'→Below W0.heap.size W0 w' from fun w' h=>HBW.out.trans (h.below HBW.out.size fun j hj e=>by omega))
  go_loopw [12,51] (fun _ i wr=>∃(k:Nat) (cs:List Value) (vn vi:Value),k≤r∧i=.int .i64 k∧ObjAt W wr cb 25 9 25 vn vi (v.names.take k) (v.items.take k) cs) (fun _ i _=>r - (intOf i).toNat)
  case atStart=>exact ⟨0,[],.slice none 0 0,.slice none 0 0,by omega,rfl,by simpa using HO.out⟩
  case round =>
   obtain ⟨k,cs,vn,vi,hkr,rfl,hobj⟩:=hrel
   have HOB:=Lh hobj
   clear hobj
   by_cases hlt:k<r
   · have hkn9:k<v.names.length:=by rw [← HNN.out];omega
     have hki9:k<v.items.length:=by rw [HNI.out];omega
     have HBR:=Lh (HBT.out wr HOB.out.touch)
     obtain ⟨pb,pf,ha,_,hpb,y1⟩:=(HS.out.below HBR.out lz lz lz).at k hkn9
     subst ha
     obtain ⟨nk,hnk⟩:∃nk,nk=v.names[k]:=⟨_,rfl⟩
     replace y1:=y1.trans (congrArg (fun z=>some (Value.string z)) hnk.symm)
     have HNK:=Lh hnk
     clear hnk
     obtain ⟨c0,c1,c2,c3,c4⟩:=jq HXV.out HBR.out
     have hpz:pb<wr.heap.size:=by have:=HBR.out.size;omega
     have hpne:¬pb=wr.heap.size:=by omega
     have hwz:w.heap.size<wr.heap.size:=by have:=HBR.out.size;have:=HZ0.out;omega
     have hwne:¬w.heap.size=wr.heap.size:=by omega
     have j0:(0:Int)≤(k:Int):=by omega
     have j1:(k:Int)<(nn:Int):=by omega
     clear c0 c1 c2 c4
     have c3o:wr.cell? ⟨cb,3,none⟩=some vn:=HOB.out.row.cell (by decide)
     have f3o:wr.frozen? ⟨cb,3,none⟩=false:=HOB.out.row.frozen 3
     obtain ⟨kn,hkn⟩:∃kn,kn=(v.names.take k).length:=⟨_,rfl⟩
     have HKN:=Lh hkn
     have hkb:kn≤2000000001:=by rw [hkn];(try simp);omega
     have HNA:=Lh (show wr.ownsRow W.heap.size 9 1 vn kn ((v.names.take k).map .string) by rw [hkn];exact HOB.out.names)
     have hcwr:cb<wr.heap.size:=HOB.out.row.lt
     have hcne:¬cb=wr.heap.size:=by omega
     have hzwr:W.heap.size≤wr.heap.size:=HOB.out.touch.size
     have hnb:some cb≠vn.ownBlock:=fun e=>by have:=(HOB.out.names.lt _ e.symm).1;have:=HOB.out.lt;omega
     clear hkn
     go_upto_region 13 with fail
     go_cut [62] (fun _ wx=>∃vn,ObjAt W wx cb 25 9 25 vn vi (v.names.take k ++ [nk]) (v.items.take k) cs)
     case first =>
      go_region_law (first|(refine step_append_lies _ (by rfl) (.tmp 55) (.tmp 61) 22 (by rfl) W.heap.size 9 i2 _ 1 16 Tryz.underlying22 hi2 hx0 hx1 hx2 rfl (by decide) vn kn ((v.names.take k).map .string) (by rfl) (by exact HNA.out.alloc _) _ 1 1 [.string nk] (by rfl) (by rfl) (by exact World.news_of_block (cs:=#[.string nk]) (t:=9) (fr:=(0,0)) (heap_alloc_new _ _)) (by simp [Value.oneCell']) (by omega) (by unfold maxLen;omega) (by omega) (by simp;omega) _ rfl ?_;intro g1 cap2 w6 hown6 hgrow6 hat6 hlt6;have HBN:=Lh (below_grow wr hgrow6 (by first|exact (Below.refl _ _).drew.alloc lz _|exact ((Below.refl _ _).alloc lz _).drew|exact (Below.refl _ _).alloc lz _));have c36:=kO hgrow6 HBN.out hcwr hnb c3o;have f36:=jl hgrow6 HBN.out hcwr hnb f3o;have HO6:=Lh hown6;have HG6:=Lh hgrow6;have HA6:=Lh hat6;clear hown6 hgrow6 hat6))
      all_goals
       have HO7:=Lh (show ObjAt W (w6.setCell ⟨cb,3,none⟩ (.slice (some ⟨g1,0,none⟩) (kn+1) cap2)) cb 25 9 25 (.slice (some ⟨g1,0,none⟩) (kn+1) cap2) vi (v.names.take k ++ [nk]) (v.items.take k) cs by
        have:=(HOB.out.below HBN.out).name nk (g:=g1) (cap:=cap2) HG6.out (by rcases HA6.out with h|h;exact .inl h;exact .inr (by have:=HBN.out.size;omega)) (by rw [← HKN.out];exact HO6.out)
        rwa [← HKN.out] at this)
       clear HO6 HG6 HA6 HBN
       go_wp2_with fail
       go_meet
       exact ⟨_,HO7.out⟩
     case rest =>
      obtain ⟨vn7,hobj7⟩:=hcut
      have HO7:=Lh hobj7
      clear hobj7 HNA c3o f3o hnb hcwr hcne hzwr HOB
      obtain ⟨w7,hw7⟩:∃w7,w7=wc:=⟨_,rfl⟩
      rw [← hw7] at HO7
      rw [← hw7]
      clear hw7
      clear y1 c3 hpz hpne hwz hwne HBR
      have HBR:=Lh (HBT.out w7 HO7.out.touch)
      obtain ⟨ib,io,ian,icn,iai,ici,hia,_,hib,y0,y1,y2,y3,y4,hri⟩:=(HI.out.below HBR.out lz lz lz).get k hki9
      subst hia
      have hfk:=HFLA.out v.items[k] (List.getElem_mem hki9)
      have hwk:=JV.wts_get v.items k hki9
      have hit:∃it,it=v.items[k]:=⟨_,rfl⟩
      obtain ⟨it,hit⟩:=hit
      rw [← hit] at y0 y1 y2 y3 y4 hri hfk hwk
      have HIT:=Lh hit
      have HFL:=Lh hfk
      have HRI:=Lh (Rep.carry lz HBR.out.size (fun _ _ _=>rfl) _ _ hri)
      clear hit hfk hri
      obtain ⟨c0,c1,c2,c3,c4⟩:=jq HXV.out HBR.out
      have hpz:ib<w7.heap.size:=by have:=HBR.out.size;omega
      have hwz:w.heap.size<w7.heap.size:=by have:=HBR.out.size;have:=HZ0.out;omega
      clear c0 c1 c2 c3
      have c4o:w7.cell? ⟨cb,4,none⟩=some vi:=HO7.out.row.cell (by decide)
      have f4o:w7.frozen? ⟨cb,4,none⟩=false:=HO7.out.row.frozen 4
      obtain ⟨ki,hki⟩:∃ki,ki=(v.items.take k).length:=⟨_,rfl⟩
      have HKI:=Lh hki
      have hkib:ki≤2000000001:=by rw [hki];(try simp);omega
      have HI7:=Lh (show w7.ownsRow W.heap.size 25 5 vi ki cs by rw [hki];exact HO7.out.items)
      have hcz7:cb<w7.heap.size:=HO7.out.row.lt
      have hz7:W.heap.size≤w7.heap.size:=HO7.out.touch.size
      have hnb:some cb≠vi.ownBlock:=fun e=>by have:=(HO7.out.items.lt _ e.symm).1;have:=HO7.out.lt;omega
      have HCI:=Lh (show Calls Tryz.prog 91 #[.agg #[.int .u8 it.kind,.int .i64 it.n,.string it.t,.slice ian it.names.length icn,.slice iai it.items.length ici]] w7.drew (fun e w3=>∃an3 cn3 ai3 ci3,e=.returned (.agg #[.int .u8 it.kind,.int .i64 it.n,.string it.t,.slice an3 it.names.length cn3,.slice ai3 it.items.length ci3])∧Rep w3 w7.heap.size w3.heap.size it (.agg #[.int .u8 it.kind,.int .i64 it.n,.string it.t,.slice an3 it.names.length cn3,.slice ai3 it.items.length ci3])∧Below w7.heap.size w7 w3∧w7.heap.size≤w3.heap.size∧w3.cell? ⟨cb,4,none⟩=some vi∧w3.frozen? ⟨cb,4,none⟩=false∧w3.ownsRow W.heap.size 25 5 vi ki cs) by
       refine (HFL.out _ w7.drew w7.heap.size lz (show Rep w7.drew lo w7.heap.size it _ from Rep.carry (w:=w7) (w':=w7.drew) lz lz (fun _ _ _=>rfl) _ _ HRI.out)).mono ?_
       rintro e w3 ⟨an3,cn3,ai3,ci3,rfl,hr3,hb3⟩
       have hb4:Below w7.heap.size w7 w3:=(Below.refl _ _).drew.trans hb3
       exact ⟨an3,cn3,ai3,ci3,rfl,hr3,hb4,hb4.size,by rw [hb4.cell hcz7];exact c4o,by rw [hb4.frozen hcz7];exact f4o,qG HI7.out hb4⟩)
      clear hki
      go_wp2_with fail
      go_region_law (first|(refine step_append_lies _ (by rfl) (.tmp 65) (.tmp 72) 23 (by rfl) W.heap.size 25 i1 _ 5 80 Tryz.underlying23 hi1 hy0 hy1 hy2 rfl (by omega) vi ki cs (by rfl) (HO3.out.alloc _) ⟨w3.heap.size,0,none⟩ 1 1 (Array.toList #[.int .u8 it.kind,.int .i64 it.n,.string it.t,.slice an3 it.names.length cn3,.slice ai3 it.items.length ci3]) (by rfl) (by rfl) (World.news_of_block (cs:=#[.int .u8 it.kind,.int .i64 it.n,.string it.t,.slice an3 it.names.length cn3,.slice ai3 it.items.length ci3]) (t:=25) (fr:=(0,0)) (heap_alloc_new w3 _)) (by simp [Value.oneCell']) (by omega) (by unfold maxLen;omega) (by omega) (by simp;omega) (w3.heap.size+1) (by simp) ?_;intro g2 cap3 w4 hown4 hgrow4 hat4 hlt4;have c44:=qM hgrow4 hcz3 hnb c43;have f44:=qH hgrow4 hcz3 hnb f43;have HO4:=Lh hown4;have HG4:=Lh hgrow4;have HA4:=Lh hat4;clear hown4 hgrow4 hat4)|(go_simp;go_at_call 91;(with_reducible refine HCI.out.mono ?_);rintro e w3 ⟨an3,cn3,ai3,ci3,rfl,hr3,hb3,hz3,c43,f43,ho3⟩;have hcz3:cb<w3.heap.size:=Nat.lt_of_lt_of_le hcz7 hz3;have HO3:=Lh ho3;have HR3':=Lh hr3;have HB3':=Lh hb3;clear ho3 hr3 hb3))
      all_goals
       have HST:=Lh (show ObjAt W (w4.setCell ⟨cb,4,none⟩ (.slice (some ⟨g2,0,none⟩) (ki+1) cap3)) cb 25 9 25 vn7 (.slice (some ⟨g2,0,none⟩) (ki+1) cap3) (v.names.take k ++ [nk]) (v.items.take k ++ [it]) _ by
        have:=HO7.out.item (it:=it) (lo:=w7.heap.size) (hi:=w3.heap.size) (g:=g2) (cap:=cap3) (HB3'.out.trans ((Below.refl _ _).alloc hz3 _)) lz (by simp) (HR3'.out.carry lz lz fun b _ hb=>Below.heap_alloc _ _ _ hb) HG4.out (by rcases HA4.out with h|h;exact .inl h;exact .inr (by simp;omega)) (by rw [← HKI.out];exact HO4.out)
        rw [← HKI.out] at this
        exact this)
       clear HO7 HB3' HR3' HG4 HA4 HO4 HO3 HCI HI7
       clear y0 y1 y2 y3 y4 c4
       go_wp2
       go_roundw
       case rel =>
        have e1:v.names.take (k+1)=v.names.take k ++ [nk]:=by rw [HNK.out];exact List.take_succ_eq_append_getElem hkn9
        have e2:v.items.take (k+1)=v.items.take k ++ [it]:=by rw [HIT.out];exact List.take_succ_eq_append_getElem hki9
        have HF:=HST.out
        rw [← e1,← e2] at HF
        exact ⟨k+1,_,_,_,by omega,by go_num,HF⟩
       case measure=>simp [intOf];omega
   · obtain rfl:k=r:=by omega
     obtain ⟨r0,hr0⟩:∃r0,r0=k:=⟨_,rfl⟩
     rw [← hr0] at HOB HQ HQQ hrl hqr
     rw [← hr0]
     clear hr0 hlt hkr
     have c3o:wr.cell? ⟨cb,3,none⟩=some vn:=HOB.out.row.cell (by decide)
     have f3o:wr.frozen? ⟨cb,3,none⟩=false:=HOB.out.row.frozen 3
     obtain ⟨kn,hkn⟩:∃kn,kn=(v.names.take r0).length:=⟨_,rfl⟩
     have HKN:=Lh hkn
     have hkb:kn≤2000000001:=by rw [hkn];(try simp);omega
     have HNA:=Lh (show wr.ownsRow W.heap.size 9 1 vn kn ((v.names.take r0).map .string) by rw [hkn];exact HOB.out.names)
     have hcwr:cb<wr.heap.size:=HOB.out.row.lt
     have hcne:¬cb=wr.heap.size:=by omega
     have hzwr:W.heap.size≤wr.heap.size:=HOB.out.touch.size
     have hnb:some cb≠vn.ownBlock:=fun e=>by have:=(HOB.out.names.lt _ e.symm).1;have:=HOB.out.lt;omega
     clear hkn
     go_wp2_with (at_builtin;refine wpList_append_lies _ (by rfl) (.tmp 77) (.tmp 79) 22 (by rfl) W.heap.size 9 i2 _ 1 16 Tryz.underlying22 hi2 hx0 hx1 hx2 rfl (by decide) vn kn ((v.names.take r0).map .string) (by rfl) (by exact HNA.out.alloc _) _ 1 1 [.string y] (by rfl) (by rfl) (by exact World.news_of_block (cs:=#[.string y]) (t:=9) (fr:=(0,0)) (heap_alloc_new _ _)) (by simp [Value.oneCell']) (by omega) (by unfold maxLen;omega) (by omega) (by simp;omega) _ rfl ?_;intro g1 cap2 w6 hown6 hgrow6 hat6 hlt6;have HBN:=Lh (below_grow wr hgrow6 (by first|exact (Below.refl _ _).drew.alloc lz _|exact ((Below.refl _ _).alloc lz _).drew|exact (Below.refl _ _).alloc lz _));have c36:=kO hgrow6 HBN.out hcwr hnb c3o;have f36:=jl hgrow6 HBN.out hcwr hnb f3o;have HO6:=Lh hown6;have HG6:=Lh hgrow6;have HA6:=Lh hat6;clear hown6 hgrow6 hat6)
     have HO7:=Lh (show ObjAt W (w6.setCell ⟨cb,3,none⟩ (.slice (some ⟨g1,0,none⟩) (kn+1) cap2)) cb 25 9 25 (.slice (some ⟨g1,0,none⟩) (kn+1) cap2) vi (v.names.take r0 ++ [y]) (v.items.take r0) cs by
      have:=(HOB.out.below HBN.out).name y (g:=g1) (cap:=cap2) HG6.out (by rcases HA6.out with h|h;exact .inl h;exact .inr (by have:=HBN.out.size;omega)) (by rw [← HKN.out];exact HO6.out)
      rwa [← HKN.out] at this)
     clear HO6 HG6 HA6 HNA HBN c3o f3o hnb hcwr hcne hzwr hlt6 HOB
     generalize (w6.setCell ⟨cb,3,none⟩ (.slice (some ⟨g1,0,none⟩) (kn+1) cap2))=w7 at HO7 ⊢
     generalize (Value.slice (some ⟨g1,0,none⟩) (kn+1) cap2)=vn7 at HO7 ⊢
     have HBR:=Lh (HBT.out w7 HO7.out.touch)
     have HRI:=Lh (HX.out.below HBR.out lz lz HBR.out.size)
     obtain ⟨y0,y1,y2,y3,y4⟩:=jq HXX.out HBR.out
     have hwz:w.heap.size+1<w7.heap.size:=by have:=HBR.out.size;have:=HZ0.out;omega
     obtain ⟨ian,hian⟩:∃ian,ian=bn:=⟨_,rfl⟩
     obtain ⟨icn,hicn⟩:∃icn,icn=dn:=⟨_,rfl⟩
     obtain ⟨iai,hiai⟩:∃iai,iai=bi:=⟨_,rfl⟩
     obtain ⟨ici,hici⟩:∃ici,ici=di:=⟨_,rfl⟩
     rw [← hian,← hicn] at y3
     rw [← hiai,← hici] at y4
     rw [← hian,← hicn,← hiai,← hici] at HRI
     clear hian hicn hiai hici
     have c4o:w7.cell? ⟨cb,4,none⟩=some vi:=HO7.out.row.cell (by decide)
     have f4o:w7.frozen? ⟨cb,4,none⟩=false:=HO7.out.row.frozen 4
     obtain ⟨ki,hki⟩:∃ki,ki=(v.items.take r0).length:=⟨_,rfl⟩
     have HKI:=Lh hki
     have hkib:ki≤2000000001:=by rw [hki];(try simp);omega
     have HI7:=Lh (show w7.ownsRow W.heap.size 25 5 vi ki cs by rw [hki];exact HO7.out.items)
     have hcz7:cb<w7.heap.size:=HO7.out.row.lt
     have hz7:W.heap.size≤w7.heap.size:=HO7.out.touch.size
     have hnb:some cb≠vi.ownBlock:=fun e=>by have:=(HO7.out.items.lt _ e.symm).1;have:=HO7.out.lt;omega
     have HCI:=Lh (show Calls Tryz.prog 91 #[.agg #[.int .u8 x.kind,.int .i64 x.n,.string x.t,.slice ian x.names.length icn,.slice iai x.items.length ici]] w7.drew (fun e w3=>∃x1 an3 cn3 ai3 ci3,C x1∧e=.returned (.agg #[.int .u8 x1.kind,.int .i64 x1.n,.string x1.t,.slice an3 x1.names.length cn3,.slice ai3 x1.items.length ci3])∧Rep w3 w7.heap.size w3.heap.size x1 (.agg #[.int .u8 x1.kind,.int .i64 x1.n,.string x1.t,.slice an3 x1.names.length cn3,.slice ai3 x1.items.length ci3])∧Below w7.heap.size w7 w3∧w7.heap.size≤w3.heap.size∧w3.cell? ⟨cb,4,none⟩=some vi∧w3.frozen? ⟨cb,4,none⟩=false∧w3.ownsRow W.heap.size 25 5 vi ki cs) by
      refine (HCX.out _ w7.drew w7.heap.size lz (show Rep w7.drew lx w7.heap.size x _ from Rep.carry (w:=w7) (w':=w7.drew) lz lz (fun _ _ _=>rfl) _ _ HRI.out)).mono ?_
      rintro e w3 ⟨x1,an3,cn3,ai3,ci3,hwc,rfl,hr3,hb3⟩
      have hb4:Below w7.heap.size w7 w3:=(Below.refl _ _).drew.trans hb3
      exact ⟨x1,an3,cn3,ai3,ci3,hwc,rfl,hr3,hb4,hb4.size,by rw [hb4.cell hcz7];exact c4o,by rw [hb4.frozen hcz7];exact f4o,qG HI7.out hb4⟩)
     clear hki
     go_upto_region 17 with fail
     go_cut [87] (fun _ wx=>∃x1 vi cs,C x1∧ObjAt W wx cb 25 9 25 vn7 vi (v.names.take r0 ++ [y]) (v.items.take r0 ++ [x1]) cs)
     case first =>
      go_region_law (first|(refine step_append_lies _ (by rfl) (.tmp 83) (.tmp 86) 23 (by rfl) W.heap.size 25 i1 _ 5 80 Tryz.underlying23 hi1 hy0 hy1 hy2 rfl (by omega) vi ki cs (by rfl) (HO3.out.alloc _) ⟨w3.heap.size,0,none⟩ 1 1 (Array.toList #[.int .u8 x1.kind,.int .i64 x1.n,.string x1.t,.slice an3 x1.names.length cn3,.slice ai3 x1.items.length ci3]) (by rfl) (by rfl) (World.news_of_block (cs:=#[.int .u8 x1.kind,.int .i64 x1.n,.string x1.t,.slice an3 x1.names.length cn3,.slice ai3 x1.items.length ci3]) (t:=25) (fr:=(0,0)) (heap_alloc_new w3 _)) (by simp [Value.oneCell']) (by omega) (by unfold maxLen;omega) (by omega) (by simp;omega) (w3.heap.size+1) (by simp) ?_;intro g2 cap3 w4 hown4 hgrow4 hat4 hlt4;have c44:=qM hgrow4 hcz3 hnb c43;have f44:=qH hgrow4 hcz3 hnb f43;have HO4:=Lh hown4;have HG4:=Lh hgrow4;have HA4:=Lh hat4;clear hown4 hgrow4 hat4)|(go_simp;go_at_call 91;(with_reducible refine HCI.out.mono ?_);rintro e w3 ⟨x1,an3,cn3,ai3,ci3,hwc,rfl,hr3,hb3,hz3,c43,f43,ho3⟩;have hcz3:cb<w3.heap.size:=Nat.lt_of_lt_of_le hcz7 hz3;have HO3:=Lh ho3;have HR3':=Lh hr3;have HB3':=Lh hb3;clear ho3 hr3 hb3))
      all_goals
       have HST:=Lh (show ObjAt W (w4.setCell ⟨cb,4,none⟩ (.slice (some ⟨g2,0,none⟩) (ki+1) cap3)) cb 25 9 25 vn7 (.slice (some ⟨g2,0,none⟩) (ki+1) cap3) (v.names.take r0 ++ [y]) (v.items.take r0 ++ [x1]) _ by
        have:=HO7.out.item (it:=x1) (lo:=w7.heap.size) (hi:=w3.heap.size) (g:=g2) (cap:=cap3) (HB3'.out.trans ((Below.refl _ _).alloc hz3 _)) lz (by simp) (HR3'.out.carry lz lz fun b _ hb=>Below.heap_alloc _ _ _ hb) HG4.out (by rcases HA4.out with h|h;exact .inl h;exact .inr (by simp;omega)) (by rw [← HKI.out];exact HO4.out)
        rw [← HKI.out] at this
        exact this)
       clear HO7 HB3' HR3' HG4 HA4 HO4 HO3 HCI HI7
       go_wp2_with fail
       go_meet
       exact ⟨x1,_,_,hwc,HST.out⟩
     case rest =>
      obtain ⟨x1,vi8,cs8,hwc,hobj8⟩:=hcut
      have HST:=Lh hobj8
      clear hobj8 HI7 c4o f4o hnb hcz7 hz7 HO7 HCI
      obtain ⟨w8,hw8⟩:∃w8,w8=wc:=⟨_,rfl⟩
      rw [← hw8] at HST
      rw [← hw8]
      clear hw8
      clear y0 y1 y2 y3 y4
      have HWC:=Lh hwc
      clear hwc
      go_wp2_with fail
      go_loopw [13] (fun i wr=>∃(k:Nat) (cs:List Value) (vn vi:Value),q≤k∧k≤nn∧i=.int .i64 k∧ObjAt W wr cb 25 9 25 vn vi (v.names.take r0 ++ [y] ++ (v.names.drop q).take (k - q)) (v.items.take r0 ++ [x1] ++ (v.items.drop q).take (k - q)) cs) (fun i _=>nn - (intOf i).toNat)
      case atStart =>
       have HF:=HST.out
       have e1:v.names.take r0 ++ [y] ++ (v.names.drop q).take (q - q)=v.names.take r0 ++ [y]:=by rw [Nat.sub_self,List.take_zero,List.append_nil]
       have e2:v.items.take r0 ++ [x1] ++ (v.items.drop q).take (q - q)=v.items.take r0 ++ [x1]:=by rw [Nat.sub_self,List.take_zero,List.append_nil]
       rw [← e1,← e2] at HF
       exact ⟨q,_,_,_,Nat.le_refl _,hqn,rfl,HF⟩
      case round =>
       obtain ⟨k,cs,vn,vi,hqk,hkr,rfl,hobj⟩:=hrel
       have HOB:=Lh hobj
       clear hobj
       obtain ⟨c0,c1,c2,c3,c4⟩:=jq HXV.out (HBT.out wr HOB.out.touch)
       clear c0 c1 c2 c4
       by_cases hlt:k<nn
       · have hkn9:k<v.names.length:=by rw [← HNN.out];omega
         have hki9:k<v.items.length:=by rw [HNI.out];omega
         clear c3
         have HBR:=Lh (HBT.out wr HOB.out.touch)
         obtain ⟨pb,pf,ha,_,hpb,y1⟩:=(HS.out.below HBR.out lz lz lz).at k hkn9
         subst ha
         obtain ⟨nk,hnk⟩:∃nk,nk=v.names[k]:=⟨_,rfl⟩
         replace y1:=y1.trans (congrArg (fun z=>some (Value.string z)) hnk.symm)
         have HNK:=Lh hnk
         clear hnk
         obtain ⟨c0,c1,c2,c3,c4⟩:=jq HXV.out HBR.out
         have hpz:pb<wr.heap.size:=by have:=HBR.out.size;omega
         have hpne:¬pb=wr.heap.size:=by omega
         have hwz:w.heap.size<wr.heap.size:=by have:=HBR.out.size;have:=HZ0.out;omega
         have hwne:¬w.heap.size=wr.heap.size:=by omega
         have j0:(0:Int)≤(k:Int):=by omega
         have j1:(k:Int)<(nn:Int):=by omega
         clear c0 c1 c2 c4
         have c3o:wr.cell? ⟨cb,3,none⟩=some vn:=HOB.out.row.cell (by decide)
         have f3o:wr.frozen? ⟨cb,3,none⟩=false:=HOB.out.row.frozen 3
         obtain ⟨kn,hkn⟩:∃kn,kn=(v.names.take r0 ++ [y] ++ (v.names.drop q).take (k - q)).length:=⟨_,rfl⟩
         have HKN:=Lh hkn
         have hkb:kn≤2000000001:=by rw [hkn];(try simp);omega
         have HNA:=Lh (show wr.ownsRow W.heap.size 9 1 vn kn ((v.names.take r0 ++ [y] ++ (v.names.drop q).take (k - q)).map .string) by rw [hkn];exact HOB.out.names)
         have hcwr:cb<wr.heap.size:=HOB.out.row.lt
         have hcne:¬cb=wr.heap.size:=by omega
         have hzwr:W.heap.size≤wr.heap.size:=HOB.out.touch.size
         have hnb:some cb≠vn.ownBlock:=fun e=>by have:=(HOB.out.names.lt _ e.symm).1;have:=HOB.out.lt;omega
         clear hkn
         go_upto_region 21 with fail
         go_cut [105] (fun _ wx=>∃vn,ObjAt W wx cb 25 9 25 vn vi (v.names.take r0 ++ [y] ++ (v.names.drop q).take (k - q) ++ [nk]) (v.items.take r0 ++ [x1] ++ (v.items.drop q).take (k - q)) cs)
         case first =>
          go_region_law (first|(refine step_append_lies _ (by rfl) (.tmp 98) (.tmp 104) 22 (by rfl) W.heap.size 9 i2 _ 1 16 Tryz.underlying22 hi2 hx0 hx1 hx2 rfl (by decide) vn kn ((v.names.take r0 ++ [y] ++ (v.names.drop q).take (k - q)).map .string) (by rfl) (by exact HNA.out.alloc _) _ 1 1 [.string nk] (by rfl) (by rfl) (by exact World.news_of_block (cs:=#[.string nk]) (t:=9) (fr:=(0,0)) (heap_alloc_new _ _)) (by simp [Value.oneCell']) (by omega) (by unfold maxLen;omega) (by omega) (by simp;omega) _ rfl ?_;intro g1 cap2 w6 hown6 hgrow6 hat6 hlt6;have HBN:=Lh (below_grow wr hgrow6 (by first|exact (Below.refl _ _).drew.alloc lz _|exact ((Below.refl _ _).alloc lz _).drew|exact (Below.refl _ _).alloc lz _));have c36:=kO hgrow6 HBN.out hcwr hnb c3o;have f36:=jl hgrow6 HBN.out hcwr hnb f3o;have HO6:=Lh hown6;have HG6:=Lh hgrow6;have HA6:=Lh hat6;clear hown6 hgrow6 hat6))
          all_goals
           have HO7:=Lh (show ObjAt W (w6.setCell ⟨cb,3,none⟩ (.slice (some ⟨g1,0,none⟩) (kn+1) cap2)) cb 25 9 25 (.slice (some ⟨g1,0,none⟩) (kn+1) cap2) vi (v.names.take r0 ++ [y] ++ (v.names.drop q).take (k - q) ++ [nk]) (v.items.take r0 ++ [x1] ++ (v.items.drop q).take (k - q)) cs by
            have:=(HOB.out.below HBN.out).name nk (g:=g1) (cap:=cap2) HG6.out (by rcases HA6.out with h|h;exact .inl h;exact .inr (by have:=HBN.out.size;omega)) (by rw [← HKN.out];exact HO6.out)
            rwa [← HKN.out] at this)
           clear HO6 HG6 HA6 HBN
           go_wp2_with fail
           go_meet
           exact ⟨_,HO7.out⟩
         case rest =>
          obtain ⟨vn7,hobj7⟩:=hcut
          have HO7:=Lh hobj7
          clear hobj7 HNA c3o f3o hnb hcwr hcne hzwr HOB
          obtain ⟨w7,hw7⟩:∃w7,w7=wc:=⟨_,rfl⟩
          rw [← hw7] at HO7
          rw [← hw7]
          clear hw7
          clear y1 c3 hpz hpne hwz hwne HBR
          have HBR:=Lh (HBT.out w7 HO7.out.touch)
          obtain ⟨ib,io,ian,icn,iai,ici,hia,_,hib,y0,y1,y2,y3,y4,hri⟩:=(HI.out.below HBR.out lz lz lz).get k hki9
          subst hia
          have hfk:=HFLA.out v.items[k] (List.getElem_mem hki9)
          have hwk:=JV.wts_get v.items k hki9
          have hit:∃it,it=v.items[k]:=⟨_,rfl⟩
          obtain ⟨it,hit⟩:=hit
          rw [← hit] at y0 y1 y2 y3 y4 hri hfk hwk
          have HIT:=Lh hit
          have HFL:=Lh hfk
          have HRI:=Lh (Rep.carry lz HBR.out.size (fun _ _ _=>rfl) _ _ hri)
          clear hit hfk hri
          obtain ⟨c0,c1,c2,c3,c4⟩:=jq HXV.out HBR.out
          have hpz:ib<w7.heap.size:=by have:=HBR.out.size;omega
          have hwz:w.heap.size<w7.heap.size:=by have:=HBR.out.size;have:=HZ0.out;omega
          clear c0 c1 c2 c3
          have c4o:w7.cell? ⟨cb,4,none⟩=some vi:=HO7.out.row.cell (by decide)
          have f4o:w7.frozen? ⟨cb,4,none⟩=false:=HO7.out.row.frozen 4
          obtain ⟨ki,hki⟩:∃ki,ki=(v.items.take r0 ++ [x1] ++ (v.items.drop q).take (k - q)).length:=⟨_,rfl⟩
          have HKI:=Lh hki
          have hkib:ki≤2000000001:=by rw [hki];(try simp);omega
          have HI7:=Lh (show w7.ownsRow W.heap.size 25 5 vi ki cs by rw [hki];exact HO7.out.items)
          have hcz7:cb<w7.heap.size:=HO7.out.row.lt
          have hz7:W.heap.size≤w7.heap.size:=HO7.out.touch.size
          have hnb:some cb≠vi.ownBlock:=fun e=>by have:=(HO7.out.items.lt _ e.symm).1;have:=HO7.out.lt;omega
          have HCI:=Lh (show Calls Tryz.prog 91 #[.agg #[.int .u8 it.kind,.int .i64 it.n,.string it.t,.slice ian it.names.length icn,.slice iai it.items.length ici]] w7.drew (fun e w3=>∃an3 cn3 ai3 ci3,e=.returned (.agg #[.int .u8 it.kind,.int .i64 it.n,.string it.t,.slice an3 it.names.length cn3,.slice ai3 it.items.length ci3])∧Rep w3 w7.heap.size w3.heap.size it (.agg #[.int .u8 it.kind,.int .i64 it.n,.string it.t,.slice an3 it.names.length cn3,.slice ai3 it.items.length ci3])∧Below w7.heap.size w7 w3∧w7.heap.size≤w3.heap.size∧w3.cell? ⟨cb,4,none⟩=some vi∧w3.frozen? ⟨cb,4,none⟩=false∧w3.ownsRow W.heap.size 25 5 vi ki cs) by
           refine (HFL.out _ w7.drew w7.heap.size lz (show Rep w7.drew lo w7.heap.size it _ from Rep.carry (w:=w7) (w':=w7.drew) lz lz (fun _ _ _=>rfl) _ _ HRI.out)).mono ?_
           rintro e w3 ⟨an3,cn3,ai3,ci3,rfl,hr3,hb3⟩
           have hb4:Below w7.heap.size w7 w3:=(Below.refl _ _).drew.trans hb3
           exact ⟨an3,cn3,ai3,ci3,rfl,hr3,hb4,hb4.size,by rw [hb4.cell hcz7];exact c4o,by rw [hb4.frozen hcz7];exact f4o,qG HI7.out hb4⟩)
          clear hki
          go_wp2_with fail
          go_region_law (first|(refine step_append_lies _ (by rfl) (.tmp 108) (.tmp 115) 23 (by rfl) W.heap.size 25 i1 _ 5 80 Tryz.underlying23 hi1 hy0 hy1 hy2 rfl (by omega) vi ki cs (by rfl) (HO3.out.alloc _) ⟨w3.heap.size,0,none⟩ 1 1 (Array.toList #[.int .u8 it.kind,.int .i64 it.n,.string it.t,.slice an3 it.names.length cn3,.slice ai3 it.items.length ci3]) (by rfl) (by rfl) (World.news_of_block (cs:=#[.int .u8 it.kind,.int .i64 it.n,.string it.t,.slice an3 it.names.length cn3,.slice ai3 it.items.length ci3]) (t:=25) (fr:=(0,0)) (heap_alloc_new w3 _)) (by simp [Value.oneCell']) (by omega) (by unfold maxLen;omega) (by omega) (by simp;omega) (w3.heap.size+1) (by simp) ?_;intro g2 cap3 w4 hown4 hgrow4 hat4 hlt4;have c44:=qM hgrow4 hcz3 hnb c43;have f44:=qH hgrow4 hcz3 hnb f43;have HO4:=Lh hown4;have HG4:=Lh hgrow4;have HA4:=Lh hat4;clear hown4 hgrow4 hat4)|(go_simp;go_at_call 91;(with_reducible refine HCI.out.mono ?_);rintro e w3 ⟨an3,cn3,ai3,ci3,rfl,hr3,hb3,hz3,c43,f43,ho3⟩;have hcz3:cb<w3.heap.size:=Nat.lt_of_lt_of_le hcz7 hz3;have HO3:=Lh ho3;have HR3':=Lh hr3;have HB3':=Lh hb3;clear ho3 hr3 hb3))
          all_goals
           have HST:=Lh (show ObjAt W (w4.setCell ⟨cb,4,none⟩ (.slice (some ⟨g2,0,none⟩) (ki+1) cap3)) cb 25 9 25 vn7 (.slice (some ⟨g2,0,none⟩) (ki+1) cap3) (v.names.take r0 ++ [y] ++ (v.names.drop q).take (k - q) ++ [nk]) (v.items.take r0 ++ [x1] ++ (v.items.drop q).take (k - q) ++ [it]) _ by
            have:=HO7.out.item (it:=it) (lo:=w7.heap.size) (hi:=w3.heap.size) (g:=g2) (cap:=cap3) (HB3'.out.trans ((Below.refl _ _).alloc hz3 _)) lz (by simp) (HR3'.out.carry lz lz fun b _ hb=>Below.heap_alloc _ _ _ hb) HG4.out (by rcases HA4.out with h|h;exact .inl h;exact .inr (by simp;omega)) (by rw [← HKI.out];exact HO4.out)
            rw [← HKI.out] at this
            exact this)
           clear HO7 HB3' HR3' HG4 HA4 HO4 HO3 HCI HI7
           clear y0 y1 y2 y3 y4 c4
           go_wp2
           go_roundw
           case rel =>
            have e1:v.names.take r0 ++ [y] ++ (v.names.drop q).take (k+1 - q)=v.names.take r0 ++ [y] ++ (v.names.drop q).take (k - q) ++ [nk]:=by rw [HNK.out];exact fR hqk hkn9
            have e2:v.items.take r0 ++ [x1] ++ (v.items.drop q).take (k+1 - q)=v.items.take r0 ++ [x1] ++ (v.items.drop q).take (k - q) ++ [it]:=by rw [HIT.out];exact fR hqk hki9
            have HF:=HST.out
            rw [← e1,← e2] at HF
            exact ⟨k+1,_,_,_,by omega,by omega,by go_num,HF⟩
           case measure=>simp [intOf];omega
       · obtain rfl:k=nn:=by omega
         have hn1:(v.names.drop q).take (k - q)=v.names.drop q:=List.take_of_length_le (by rw [List.length_drop,← HNN.out];omega)
         have hn2:(v.items.drop q).take (k - q)=v.items.drop q:=List.take_of_length_le (by rw [List.length_drop,HNI.out];omega)
         rw [hn1,hn2] at HOB
         obtain ⟨an',cn',ai',ci',rfl,rfl,hrep⟩:=HOB.out.done
         have HRP:=Lh hrep
         have hrow:=HOB.out.row
         have HBE:=Lh (HBT.out wr HOB.out.touch)
         have hres:=qj HBE.out HRS0.out (by have:=HZ0.out;omega)
         have hcw:=HOB.out.lt
         have hz:=HOB.out.touch.size
         have hwz:w.heap.size+3≤wr.heap.size:=by have:=HBE.out.size;have:=HZ0.out;omega
         obtain ⟨nl,hnl⟩:∃nl,nl=(v.names.take r0 ++ [y] ++ v.names.drop q).length:=⟨_,rfl⟩
         obtain ⟨il,hil⟩:∃il,il=(v.items.take r0 ++ [x1] ++ v.items.drop q).length:=⟨_,rfl⟩
         rw [← hnl,← hil] at hrow HRP
         have HNL:=Lh hnl
         have HIL:=Lh hil
         have r0':=hrow.cell (i:=0) (by decide);have r1:=hrow.cell (i:=1) (by decide);have r2:=hrow.cell (i:=2) (by decide);have r3:=hrow.cell (i:=3) (by decide);have r4:=hrow.cell (i:=4) (by decide)
         obtain ⟨t0,t1,t2,t3,t4⟩:=rc5 hres
         obtain ⟨s0,s1,s2,s3,s4⟩:=rf5 hres
         simp only [qZ] at r0' r1 r2 r3 r4 t0 t1 t2 t3 t4
         have HRS:=Lh hres
         have HBF:=Lh (HB0.out.trans (HBE.out.mono HB0.out.size))
         clear hrow hres hrep hn1 hn2 HOB hnl hil
         go_wp2
         obtain ⟨p1,p2,p3,p4⟩:=HQ.out
         refine bodyPost_ret (qk Tryz.results46 _ _ (w.heap.size+2) 25 _ (0,0) _ rfl (qX (set5 _ _ _ _ _ HRS.out)) Tryz.underlying25 rfl (by kernel_rfl) _ rfl) rfl ⟨r0,f,x1,an',cn',ai',ci',by rw [← HNN.out];exact hrl,p1,p2,p3,p4,HWC.out,?_,?_,zj _ _ _ _ _ HBF.out (by omega)⟩
         · unfold ww go;rw [← HQQ.out,← HNL.out,← HIL.out];rfl
         · unfold jK ww go
           rw [← HQQ.out,← HNL.out,← HIL.out]
           exact Rep.carry (by have:=HBW.out.size;have:=HZ0.out;omega) (show wr.heap.size≤_ by simp [World.setCell]) (fun j hj _=>jv _ _ _ _ _ (by have:=HBW.out.size;have:=HZ0.out;omega)) _ _ HRP.out
theorem pP {v:JV} {lo:Nat} (hwv:v.wt≤2000000000) (hl:0<lo):∀it ∈ v.items,up lo it:=fun it h=>by
 obtain ⟨i,hi,rfl⟩:=List.getElem_of_mem h
 have h1:=JV.wts_get v.items i hi
 have h2:=v.wt_bd
 exact dh lo _ (by omega) hl
end Go.Proofs.YthgembbgcbaghaaGreatDoor
