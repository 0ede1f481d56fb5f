/- The contract of value.Without: an object of flat Items. -/
import Derived.Test.YtnlgmcapbbgelaaGreatDoorRn38
import Derived.Test.YtnlgmcapbbgelaaGreatDoorRn40
import Derived.Test.YtnlgmcapbbgelaaGreatDoorRn41

namespace Go.Proofs.YtnlgmcapbbgelaaGreatDoor
open Go.RowKit Go.Shelf Go.Sort
def nine22:ByteArray:=⟨#[49,57,55,48,45,48,49,45,48,49,84,48,48,58,48,48,58,48,57,90]⟩
theorem nine22_eq:dateB 9=nine22:=by decide +kernel
theorem exR_fits:RootFits exR:=rootFits_may exR_may
def snpJ1:JV:=withJ exRJ 0 true typN (txtJ snpN)
theorem snpJ1_of:rootOfA snpJ1=(rootZ,13):=by decide +kernel
theorem snpJ1_wt:snpJ1.wt≤4294967296:=by decide +kernel
def AwVal (w:World) (e:Ending) (w':World):Prop:=∃an cn ai ci,e=.returned (.tuple #[.agg #[.int .u8 5,.int .i64 0,.string ⟨#[]⟩,.slice an 5 cn,.slice ai 5 ci],.int .i64 0])∧Rep w' w.heap.size w'.heap.size exRJ (.agg #[.int .u8 5,.int .i64 0,.string ⟨#[]⟩,.slice an 5 cn,.slice ai 5 ci])∧Below w.heap.size w w'
theorem awVal22 (ia ib ic:Option Addr) (w:World) (hI:RootIn w 0 w.heap.size exR none ia ib ic) (hT:Tabs w) (hTW:TabW w) (hP:Pow10 w) (hTP:TopsW w):Calls Tryz.prog 23 #[.agg #[.int .i64 1,.int .i64 9,.slice none 0 0,.int .i64 1,.slice ia 1 1,.int .i64 1,.slice ib 1 1,.int .i64 1,.slice ic 1 1]] w (AwVal w):=by
 refine (rootValue 1 9 [] 1 1 1 [digN 97] [digN 98] [digN 99] none ia ib ic 0 1 1 1 w hI exR_fits hT hTW hP hTP).mono ?_
 have e:rootR ⟨1,9,[],⟨⟨1,[digN 97]⟩,⟨1,[digN 98]⟩,⟨1,[digN 99]⟩⟩⟩=(exRJ,0):=by
  unfold rootR
  rw [if_pos (show mayRoot ⟨1,9,[],⟨⟨1,[digN 97]⟩,⟨1,[digN 98]⟩,⟨1,[digN 99]⟩⟩⟩=true from exR_may)];rfl
 rw [e]
 rintro r w' ⟨an,cn,ai,ci,h1,h2,h3⟩
 exact ⟨an,cn,ai,ci,h1,h2,h3⟩
def AwOf (w:World) (e:Ending) (w':World):Prop:=∃ka kc j1 c1 j2 c2 j3 c3,e=.returned (.tuple #[.agg #[.int .i64 1,.int .i64 9,.slice ka 0 kc,.int .i64 1,.slice j1 1 c1,.int .i64 1,.slice j2 1 c2,.int .i64 1,.slice j3 1 c3],.int .i64 0])∧RootIn w' w.heap.size w'.heap.size exR ka j1 j2 j3∧Below w.heap.size w w'
theorem awOf22 (x:Value) (w:World) (lo:Nat) (hlo:0<lo) (hR:Rep w lo w.heap.size exRJ x) (hT:Tabs w) (hTW:TabW w) (_hP:Pow10 w) (hTP:TopsW w):Calls Tryz.prog 13 #[x] w (AwOf w):=by
 refine (rootOfOwn exRJ x w lo hlo (Nat.le_trans exRJ_wt (by decide)) hR hT hTW hTP).mono ?_
 rw [exR_back]
 rintro r w' ⟨ka,kc,j1,c1,j2,c2,j3,c3,h1,h2,h3⟩
 exact ⟨ka,kc,j1,c1,j2,c2,j3,c3,h1,h2,h3⟩
def AwOfZ (er:Int) (w:World) (e:Ending) (w':World):Prop:=∃za zb z1 y1 z2 y2 z3 y3,e=.returned (.tuple #[.agg #[.int .i64 0,.int .i64 0,.slice za 0 zb,.int .i64 0,.slice z1 0 y1,.int .i64 0,.slice z2 0 y2,.int .i64 0,.slice z3 0 y3],.int .i64 er])∧Below w.heap.size w w'
theorem awOfZ22 (v:JV) (er:Int) (x:Value) (w:World) (lo:Nat) (hlo:0<lo) (hw:v.wt≤4294967296) (h0:rootOfA v=(rootZ,er)) (hR:Rep w lo w.heap.size v x) (hT:Tabs w) (hTW:TabW w) (_hP:Pow10 w) (hTP:TopsW w):Calls Tryz.prog 13 #[x] w (AwOfZ er w):=by
 refine (rootOfOwn v x w lo hlo hw hR hT hTW hTP).mono ?_
 rw [h0]
 rintro r w' ⟨ka,kc,j1,c1,j2,c2,j3,c3,h1,h2,h3⟩
 exact ⟨ka,kc,j1,c1,j2,c2,j3,c3,h1,h3⟩
theorem awGet22 (x:Value) (w:World) (lo:Nat) (hlo:0<lo) (hR:Rep w lo w.heap.size exRJ x):Calls Tryz.prog 28 #[x,.string ⟨#[101,120,112,105,114,101,115]⟩] w fun e w'=>∃gn gc gi gd,e=.returned (.tuple #[.agg #[.int .u8 3,.int .i64 0,.string ⟨#[49,57,55,48,45,48,49,45,48,49,84,48,48,58,48,48,58,48,57,90]⟩,.slice gn 0 gc,.slice gi 0 gd],.bool true])∧Below w.heap.size w w':=by
 refine (valueGet exRJ expN x w lo w.heap.size (Nat.le_trans exRJ_wt (by decide)) hlo lz hR rfl root_names.1 rfl).mono ?_
 rintro e w' ⟨h|h,hb⟩
 · obtain ⟨r,h1,h2,h3,gn,gc,gi,gd,h4,h5⟩:=h
   have hr:r=1:=rises_neq exRJ.names root_names.1 r 1 h1 (by decide) h3
   subst hr
   refine ⟨gn,gc,gi,gd,?_,hb⟩
   rw [h4]
   have e1:exRJ.items[1]=txtJ nine22:=by rw [← nine22_eq];rfl
   have e2:∀(J:JV),J=txtJ nine22→(Ending.returned (.tuple #[.agg #[.int .u8 J.kind,.int .i64 J.n,.string J.t,.slice gn J.names.length gc,.slice gi J.items.length gd],.bool true]))=.returned (.tuple #[.agg #[.int .u8 3,.int .i64 0,.string ⟨#[49,57,55,48,45,48,49,45,48,49,84,48,48,58,48,48,58,48,57,90]⟩,.slice gn 0 gc,.slice gi 0 gd],.bool true]):=fun J hJ=>by subst hJ;rfl
   exact e2 _ e1
 · exact absurd rfl (h.1 1 (by decide))
theorem weak_flat {x u:JV} (h:WeakCopy x u) (hi:x.items=[]):u=x:=weak_eq h (by
 intro y hy
 have h0:u.items.length=0:=by rw [h.len,hi];rfl
 rw [List.eq_nil_of_length_eq_zero h0] at hy;cases hy)
def WithFPost (v:JV) (y:ByteArray) (x:JV) (w:World) (e:Ending) (w':World):Prop :=
 ∃(r:Nat) (f:Bool) (an:Option Addr) (cn:Nat) (ai:Option Addr) (ci:Nat),r≤v.names.length∧(∀t (h:t<v.names.length),t<r→bl v.names[t] y=true)∧(∀t (h:t<v.names.length),r≤t→bl v.names[t] y=false) ∧
  (f=true→∃h:r<v.names.length,v.names[r]=y)∧(f=false→∀t (h:t<v.names.length),v.names[t]≠y) ∧
  e=.returned (.tuple #[.agg #[.int .u8 5,.int .i64 0,.string ⟨#[]⟩,.slice an (withN v r f y).length cn,.slice ai (withI v r f x).length ci],.int .i64 0]) ∧
  Rep w' w.heap.size w'.heap.size (withJ v r f y x) (.agg #[.int .u8 5,.int .i64 0,.string ⟨#[]⟩,.slice an (withN v r f y).length cn,.slice ai (withI v r f x).length ci])∧Below w.heap.size w w'
theorem valueWithF (lo:Nat) (hlo:0<lo) (v:JV) (y:ByteArray) (x:JV) (xv xx:Value) (w:World) (hwv:v.wt≤2000000000) (hwx:x.wt≤2000000000) (hk:v.kind=5) (hn0:v.n=0) (ht0:v.t=⟨#[]⟩) (hlen:v.names.length=v.items.length)
 (hr:rises v.names=true) (hxi:x.items=[]) (hV:Rep w lo w.heap.size v xv) (hX:Rep w 0 w.heap.size x xx):Calls Tryz.prog 29 #[xv,.string y,xx] w (WithFPost v y x w):=by
 refine (valueWithE lo v y x xv xx w hwv hwx hk hn0 ht0 hlen hr (fun it hit=>copyEx_own lo it (by
  obtain ⟨i,hi,rfl⟩:=List.getElem_of_mem hit
  have h1:=JV.wts_get v.items i hi;have h2:=v.wt_bd;omega) hlo) hV hX).mono ?_
 rintro e w' ⟨r,f,x',an,cn,ai,ci,h1,h2,h3,h4,h5,h6,h7,h8,h9⟩
 have:=weak_flat h6 hxi
 subst this
 exact ⟨r,f,an,cn,ai,ci,h1,h2,h3,h4,h5,h7,h8,h9⟩
def AwWith (w:World) (e:Ending) (w':World):Prop:=∃an cn ai ci,e=.returned (.tuple #[.agg #[.int .u8 5,.int .i64 0,.string ⟨#[]⟩,.slice an 5 cn,.slice ai 5 ci],.int .i64 0])∧Rep w' w.heap.size w'.heap.size snpJ1 (.agg #[.int .u8 5,.int .i64 0,.string ⟨#[]⟩,.slice an 5 cn,.slice ai 5 ci])∧Below w.heap.size w w'
theorem awWith22 (x:Value) (w:World) (lo:Nat) (hlo:0<lo) (hR:Rep w lo w.heap.size exRJ x):Calls Tryz.prog 29 #[x,.string ⟨#[95,116,121,112,101]⟩,.agg #[.int .u8 3,.int .i64 0,.string ⟨#[115,110,97,112,115,104,111,116]⟩,.slice none 0 0,.slice none 0 0]] w (AwWith w):=by
 refine (valueWithF lo hlo exRJ typN (txtJ snpN) x _ w (Nat.le_trans exRJ_wt (by decide)) (by decide) rfl rfl rfl rfl root_names.1 rfl hR (rep_txt _ _ _ snpN)).mono ?_
 rintro e w' ⟨r,f,an,cn,ai,ci,h1,h2,h3,h4,h5,h6,h7,h8⟩
 have hf:f=true:=by
  cases f with
  | true=>rfl
  | false=>exact absurd rfl (h5 rfl 0 (by decide))
 subst hf
 obtain ⟨h9,h10⟩:=h4 rfl
 have hr:r=0:=rises_neq exRJ.names root_names.1 r 0 h9 (by decide) h10
 subst hr
 exact ⟨an,cn,ai,ci,h6,h7,h8⟩
theorem awAuth22 (ka j1 j2 j3:Option Addr) (kc c1 c2 c3:Nat) (w:World) (hI:RootIn w 0 w.heap.size exR ka j1 j2 j3) (hTP:TopsW w):Calls Tryz.prog 30 #[.agg #[.int .i64 1,.int .i64 9,.slice ka 0 kc,.int .i64 1,.slice j1 1 c1,.int .i64 1,.slice j2 1 c2,.int .i64 1,.slice j3 1 c3],.string ⟨#[115,110,97,112,115,104,111,116]⟩] w fun e w'=>∃ja jc,e=.returned (.tuple #[.agg #[.int .i64 1,.slice ja 1 jc],.bool true])∧StrsAt w' w.heap.size w'.heap.size ja [digN 98]∧Below w.heap.size w w':=by
 refine (rootAuthF 1 9 [] 1 1 1 [digN 97] [digN 98] [digN 99] ka j1 j2 j3 kc c1 c2 c3 snpN w hI exR_fits hTP).mono ?_
 have e:rootAuth ⟨1,9,[],⟨⟨1,[digN 97]⟩,⟨1,[digN 98]⟩,⟨1,[digN 99]⟩⟩⟩ snpN=(⟨1,[digN 98]⟩,true):=by
  unfold rootAuth
  rw [if_neg roles_names.2.2.1,if_pos rfl]
 rw [e]
 rintro r w' ⟨ja,jc,h1,h2,h3⟩
 exact ⟨ja,jc,h1,h2,h3⟩
theorem awNo22 (ka j1 j2 j3:Option Addr) (kc c1 c2 c3:Nat) (w:World) (hI:RootIn w 0 w.heap.size exR ka j1 j2 j3) (hTP:TopsW w):Calls Tryz.prog 30 #[.agg #[.int .i64 1,.int .i64 9,.slice ka 0 kc,.int .i64 1,.slice j1 1 c1,.int .i64 1,.slice j2 1 c2,.int .i64 1,.slice j3 1 c3],.string ⟨#[116,105,109,101,115,116,97,109,112]⟩] w fun e w'=>∃ja jc,e=.returned (.tuple #[.agg #[.int .i64 0,.slice ja 0 jc],.bool false])∧Below w.heap.size w w':=by
 refine (rootAuthF 1 9 [] 1 1 1 [digN 97] [digN 98] [digN 99] ka j1 j2 j3 kc c1 c2 c3 tstN w hI exR_fits hTP).mono ?_
 have e:rootAuth ⟨1,9,[],⟨⟨1,[digN 97]⟩,⟨1,[digN 98]⟩,⟨1,[digN 99]⟩⟩⟩ tstN=(authZ,false):=rootAuth_none _ (by
  intro h
  rcases List.mem_cons.mp h with h|h
  · exact absurd h (by decide)
  rcases List.mem_cons.mp h with h|h
  · exact absurd h (by decide)
  rcases List.mem_cons.mp h with h|h
  · exact absurd h (by decide)
  cases h)
 rw [e]
 rintro r w' ⟨ja,jc,h1,h2,h3⟩
 exact ⟨ja,jc,h1,h3⟩
def IsEx (lo:Nat) (w:World) (x:Value):Prop:=∃ia ib ic,x=.agg #[.int .i64 1,.int .i64 9,.slice none 0 0,.int .i64 1,.slice ia 1 1,.int .i64 1,.slice ib 1 1,.int .i64 1,.slice ic 1 1]∧RootIn w lo w.heap.size exR none ia ib ic
def MP.ex (lo:Nat):MP:=⟨IsEx lo,fun _ _ _ hb ⟨ia,ib,ic,e,hr⟩=>⟨ia,ib,ic,e,hr.below hb lz lz hb.size⟩⟩
def IsWho (c:UInt8) (lo:Nat) (w:World) (x:Value):Prop:=∃ga,x=.agg #[.int .i64 1,.slice ga 1 1]∧StrsAt w lo w.heap.size ga [digN c]
def MP.who (c:UInt8) (lo:Nat):MP:=⟨IsWho c lo,fun _ _ _ hb ⟨ga,e,hr⟩=>⟨ga,e,hr.below hb lz lz hb.size⟩⟩
theorem awEx22 (w:World):Calls Tryz.prog 22 #[] w fun e w'=>∃y,e=.returned y∧IsEx 0 w' y∧Below w.heap.size w w' :=
 (lawEx22 w).mono fun _ _ ⟨ia,ib,ic,h1,h2,h3⟩=>⟨_,h1,⟨ia,ib,ic,rfl,h2.carry (Nat.zero_le _) lz (fun _ _ _=>rfl)⟩,h3⟩
theorem awWho22 (c:UInt8) (w:World):Calls Tryz.prog 16 #[.int .u8 c.toNat] w fun e w'=>∃y,e=.returned y∧IsWho c 0 w' y∧Below w.heap.size w w' :=
 (lawWho c w).mono fun _ _ ⟨_,h1,h2,h3⟩=>⟨_,h1,⟨_,rfl,h2.carry (Nat.zero_le _) lz (fun _ _ _=>rfl)⟩,h3⟩
theorem awSame22 (ka j1 j2 j3 ia ib ic:Option Addr) (kc c1 c2 c3:Nat) (w:World) (hI:RootIn w 0 w.heap.size exR ka j1 j2 j3) (hJ:RootIn w 0 w.heap.size exR none ia ib ic):Calls Tryz.prog 14 #[.agg #[.int .i64 1,.int .i64 9,.slice ka 0 kc,.int .i64 1,.slice j1 1 c1,.int .i64 1,.slice j2 1 c2,.int .i64 1,.slice j3 1 c3],.agg #[.int .i64 1,.int .i64 9,.slice none 0 0,.int .i64 1,.slice ia 1 1,.int .i64 1,.slice ib 1 1,.int .i64 1,.slice ic 1 1]] w fun e w'=>e=.returned (.bool true)∧Below w.heap.size w w':=by
 refine (ref22Same 1 9 [] 1 1 1 [digN 97] [digN 98] [digN 99] ka j1 j2 j3 kc c1 c2 c3 1 9 [] 1 1 1 [digN 97] [digN 98] [digN 99] none ia ib ic 0 1 1 1 w hI hJ exR_fits exR_fits).mono ?_
 rintro e w' ⟨h1,h2⟩
 exact ⟨by rw [h1,sameRoot_self],h2⟩
theorem awSameA22 (ja ga:Option Addr) (jc:Nat) (w:World) (hI:StrsAt w 0 w.heap.size ja [digN 98]) (hJ:StrsAt w 0 w.heap.size ga [digN 98]):Calls Tryz.prog 31 #[.agg #[.int .i64 1,.slice ja 1 jc],.agg #[.int .i64 1,.slice ga 1 1]] w fun e w'=>e=.returned (.bool true)∧Below w.heap.size w w':=by
 refine (ref15Same 1 1 [digN 98] [digN 98] ja ga jc 1 w hI hJ (by decide) (by decide)).mono ?_
 rintro e w' ⟨h1,h2⟩
 exact ⟨by rw [h1,decide_eq_true rfl],h2⟩
set_option maxHeartbeats 8000000 in
set_option maxRecDepth 100000 in
theorem lawAwake22 (w:World) (hT:Tabs w) (hTW:TabW w) (hP:Pow10 w) (hTP:TopsW w):Calls Tryz.prog 11 #[] w fun e w'=>e=.returned (.bool true)∧Below w.heap.size w w':=by
 have HTB:=Lh (show ∀w':World,Below w.heap.size w w'→Tabs w'∧TabW w'∧Pow10 w'∧TopsW w' from fun w' h=>⟨hT.below h,hTW.below h,hP.below h,hTP.below h⟩)
 have HB:=Lh (Below.refl w.heap.size w)
 have HZ0:=Lh (show 0<w.heap.size from Nat.lt_of_le_of_lt (Nat.zero_le _) hTP.lt)
 clear hT hTW hP hTP
 go_enter Tryz.func11,Tryz.ntmps11
 go_wp2_with fail
 refine (lawEx22 w).mono ?_
 rintro ee w1 ⟨ia,ib,ic,rfl,hI,hb⟩
 replace HB:=Lh (HB.out.trans (hb.mono HB.out.size))
 have HI:=Lh (hI.carry (Nat.zero_le _) lz (fun _ _ _=>rfl))
 clear hI hb
 go_wp2_with fail
 refine (awVal22 ia ib ic w1 HI.out (HTB.out w1 HB.out).1 (HTB.out w1 HB.out).2.1 (HTB.out w1 HB.out).2.2.1 (HTB.out w1 HB.out).2.2.2).mono ?_
 rintro ee w2 ⟨an,cn,ai,ci,rfl,hr,hb⟩
 have HLO:=Lh (show 0<w1.heap.size from Nat.lt_of_lt_of_le HZ0.out HB.out.size)
 have HZ7:=Lh (Nat.le_refl w1.heap.size)
 replace HB:=Lh (HB.out.trans (hb.mono HB.out.size))
 replace HZ7:=Lh (Nat.le_trans HZ7.out hb.size)
 have HV:=Lh hr
 clear hr hb HI
 obtain ⟨bV,hbV⟩:∃bV,bV=w2.heap.size:=⟨_,rfl⟩
 obtain ⟨w3,hw3⟩:∃w3,w3=w2.alloc (.cells #[.int .u8 5,.int .i64 0,.string ⟨#[]⟩,.slice an 5 cn,.slice ai 5 ci] 25):=⟨_,rfl⟩
 have hbx:Below w2.heap.size w2 w3:=by rw [hw3];exact (Below.refl _ _).alloc lz _
 have HXV:=Lh (show w3.heap[bV]?=some (.cells #[.int .u8 5,.int .i64 0,.string ⟨#[]⟩,.slice an 5 cn,.slice ai 5 ci] 25 (0,0)) by rw [hw3,hbV];exact heap_alloc_new w2 _)
 replace HB:=Lh (HB.out.trans (hbx.mono HB.out.size))
 replace HV:=Lh (HV.out.below hbx lz lz hbx.size)
 replace HZ7:=Lh (Nat.le_trans HZ7.out hbx.size)
 have Hw3:=Lh (And.intro hw3 hbV)
 clear hbx hw3 hbV
 go_upto_region 2 with fail
 rw [← Hw3.out.1,← Hw3.out.2]
 clear Hw3
 have xV0:=box_cell HXV.out (j:=0) rfl;have xV1:=box_cell HXV.out (j:=1) rfl;have xV2:=box_cell HXV.out (j:=2) rfl;have xV3:=box_cell HXV.out (j:=3) rfl;have xV4:=box_cell HXV.out (j:=4) rfl
 go_wp2_with fail
 refine (awOf22 _ w3 w1.heap.size HLO.out HV.out (HTB.out w3 HB.out).1 (HTB.out w3 HB.out).2.1 (HTB.out w3 HB.out).2.2.1 (HTB.out w3 HB.out).2.2.2).mono ?_
 clear xV0 xV1 xV2 xV3 xV4
 rintro ee w4 ⟨ka,kc,j1,c1,j2,c2,j3,c3,rfl,hI,hb⟩
 replace HB:=Lh (HB.out.trans (hb.mono HB.out.size))
 replace HXV:=Lh ((hb.block _ (heap_lt HXV.out)).trans HXV.out)
 replace HV:=Lh (HV.out.below hb lz lz hb.size)
 replace HZ7:=Lh (Nat.le_trans HZ7.out hb.size)
 have HI:=Lh (hI.carry (Nat.zero_le _) lz (fun _ _ _=>rfl))
 clear hI hb
 obtain ⟨bR,hbR⟩:∃bR,bR=w4.heap.size:=⟨_,rfl⟩
 obtain ⟨w5,hw5⟩:∃w5,w5=w4.alloc (.cells #[.int .i64 1,.int .i64 9,.slice ka 0 kc,.int .i64 1,.slice j1 1 c1,.int .i64 1,.slice j2 1 c2,.int .i64 1,.slice j3 1 c3] 32):=⟨_,rfl⟩
 have hbx:Below w4.heap.size w4 w5:=by rw [hw5];exact (Below.refl _ _).alloc lz _
 have HXR:=Lh (show w5.heap[bR]?=some (.cells #[.int .i64 1,.int .i64 9,.slice ka 0 kc,.int .i64 1,.slice j1 1 c1,.int .i64 1,.slice j2 1 c2,.int .i64 1,.slice j3 1 c3] 32 (0,0)) by rw [hw5,hbR];exact heap_alloc_new w4 _)
 replace HB:=Lh (HB.out.trans (hbx.mono HB.out.size))
 replace HXV:=Lh ((hbx.block _ (heap_lt HXV.out)).trans HXV.out)
 replace HV:=Lh (HV.out.below hbx lz lz hbx.size)
 replace HI:=Lh (HI.out.below hbx lz lz hbx.size)
 replace HZ7:=Lh (Nat.le_trans HZ7.out hbx.size)
 have Hw5:=Lh (And.intro hw5 hbR)
 clear hbx hw5 hbR
 go_upto_region 3 with fail
 rw [← Hw5.out.1,← Hw5.out.2]
 clear Hw5
 have xV0:=box_cell HXV.out (j:=0) rfl;have xV1:=box_cell HXV.out (j:=1) rfl;have xV2:=box_cell HXV.out (j:=2) rfl;have xV3:=box_cell HXV.out (j:=3) rfl;have xV4:=box_cell HXV.out (j:=4) rfl
 go_wp2_with fail
 refine (awGet22 _ w5 w1.heap.size HLO.out HV.out).mono ?_
 clear xV0 xV1 xV2 xV3 xV4
 rintro ee w6 ⟨gn,gc,gi,gd,rfl,hb⟩
 replace HB:=Lh (HB.out.trans (hb.mono HB.out.size))
 replace HXV:=Lh ((hb.block _ (heap_lt HXV.out)).trans HXV.out)
 replace HXR:=Lh ((hb.block _ (heap_lt HXR.out)).trans HXR.out)
 replace HV:=Lh (HV.out.below hb lz lz hb.size)
 replace HI:=Lh (HI.out.below hb lz lz hb.size)
 replace HZ7:=Lh (Nat.le_trans HZ7.out hb.size)
 clear hb
 obtain ⟨bT,hbT⟩:∃bT,bT=w6.heap.size:=⟨_,rfl⟩
 obtain ⟨w7,hw7⟩:∃w7,w7=w6.alloc (.cells #[.int .u8 3,.int .i64 0,.string ⟨#[49,57,55,48,45,48,49,45,48,49,84,48,48,58,48,48,58,48,57,90]⟩,.slice gn 0 gc,.slice gi 0 gd] 25):=⟨_,rfl⟩
 have hbx:Below w6.heap.size w6 w7:=by rw [hw7];exact (Below.refl _ _).alloc lz _
 have HXT:=Lh (show w7.heap[bT]?=some (.cells #[.int .u8 3,.int .i64 0,.string ⟨#[49,57,55,48,45,48,49,45,48,49,84,48,48,58,48,48,58,48,57,90]⟩,.slice gn 0 gc,.slice gi 0 gd] 25 (0,0)) by rw [hw7,hbT];exact heap_alloc_new w6 _)
 replace HB:=Lh (HB.out.trans (hbx.mono HB.out.size))
 replace HXV:=Lh ((hbx.block _ (heap_lt HXV.out)).trans HXV.out)
 replace HXR:=Lh ((hbx.block _ (heap_lt HXR.out)).trans HXR.out)
 replace HV:=Lh (HV.out.below hbx lz lz hbx.size)
 replace HI:=Lh (HI.out.below hbx lz lz hbx.size)
 replace HZ7:=Lh (Nat.le_trans HZ7.out hbx.size)
 have Hw7:=Lh (And.intro hw7 hbT)
 clear hbx hw7 hbT
 go_upto_region 4 with fail
 rw [← Hw7.out.1,← Hw7.out.2]
 clear Hw7
 have HZ8:=Lh HZ7.out
 have xV0:=box_cell HXV.out (j:=0) rfl;have xV1:=box_cell HXV.out (j:=1) rfl;have xV2:=box_cell HXV.out (j:=2) rfl;have xV3:=box_cell HXV.out (j:=3) rfl;have xV4:=box_cell HXV.out (j:=4) rfl
 go_wp2_with fail
 refine (awWith22 _ w7 w1.heap.size HLO.out HV.out).mono ?_
 clear xV0 xV1 xV2 xV3 xV4
 rintro ee w8 ⟨hn,hc,hi,hd,rfl,hr,hb⟩
 replace HB:=Lh (HB.out.trans (hb.mono HB.out.size))
 replace HXV:=Lh ((hb.block _ (heap_lt HXV.out)).trans HXV.out)
 replace HXR:=Lh ((hb.block _ (heap_lt HXR.out)).trans HXR.out)
 replace HXT:=Lh ((hb.block _ (heap_lt HXT.out)).trans HXT.out)
 replace HV:=Lh (HV.out.below hb lz lz hb.size)
 replace HI:=Lh (HI.out.below hb lz lz hb.size)
 replace HZ7:=Lh (Nat.le_trans HZ7.out hb.size)
 have HW:=Lh (hr.carry (lo':=w1.heap.size) (HZ8.out) lz (fun _ _ _=>rfl))
 clear hr hb
 obtain ⟨bW,hbW⟩:∃bW,bW=w8.heap.size:=⟨_,rfl⟩
 obtain ⟨w9,hw9⟩:∃w9,w9=w8.alloc (.cells #[.int .u8 5,.int .i64 0,.string ⟨#[]⟩,.slice hn 5 hc,.slice hi 5 hd] 25):=⟨_,rfl⟩
 have hbx:Below w8.heap.size w8 w9:=by rw [hw9];exact (Below.refl _ _).alloc lz _
 have HXW:=Lh (show w9.heap[bW]?=some (.cells #[.int .u8 5,.int .i64 0,.string ⟨#[]⟩,.slice hn 5 hc,.slice hi 5 hd] 25 (0,0)) by rw [hw9,hbW];exact heap_alloc_new w8 _)
 replace HB:=Lh (HB.out.trans (hbx.mono HB.out.size))
 replace HXV:=Lh ((hbx.block _ (heap_lt HXV.out)).trans HXV.out)
 replace HXR:=Lh ((hbx.block _ (heap_lt HXR.out)).trans HXR.out)
 replace HXT:=Lh ((hbx.block _ (heap_lt HXT.out)).trans HXT.out)
 replace HV:=Lh (HV.out.below hbx lz lz hbx.size)
 replace HI:=Lh (HI.out.below hbx lz lz hbx.size)
 replace HW:=Lh (HW.out.below hbx lz lz hbx.size)
 replace HZ7:=Lh (Nat.le_trans HZ7.out hbx.size)
 have Hw9:=Lh (And.intro hw9 hbW)
 clear hbx hw9 hbW
 go_upto_region 5 with fail
 rw [← Hw9.out.1,← Hw9.out.2]
 clear Hw9
 have xW0:=box_cell HXW.out (j:=0) rfl;have xW1:=box_cell HXW.out (j:=1) rfl;have xW2:=box_cell HXW.out (j:=2) rfl;have xW3:=box_cell HXW.out (j:=3) rfl;have xW4:=box_cell HXW.out (j:=4) rfl
 go_wp2_with fail
 refine (awOfZ22 snpJ1 13 _ w9 w1.heap.size HLO.out snpJ1_wt snpJ1_of HW.out (HTB.out w9 HB.out).1 (HTB.out w9 HB.out).2.1 (HTB.out w9 HB.out).2.2.1 (HTB.out w9 HB.out).2.2.2).mono ?_
 clear xW0 xW1 xW2 xW3 xW4
 rintro ee w10 ⟨za,zb,z1,y1,z2,y2,z3,y3,rfl,hb⟩
 replace HB:=Lh (HB.out.trans (hb.mono HB.out.size))
 replace HXV:=Lh ((hb.block _ (heap_lt HXV.out)).trans HXV.out)
 replace HXR:=Lh ((hb.block _ (heap_lt HXR.out)).trans HXR.out)
 replace HXT:=Lh ((hb.block _ (heap_lt HXT.out)).trans HXT.out)
 replace HXW:=Lh ((hb.block _ (heap_lt HXW.out)).trans HXW.out)
 replace HV:=Lh (HV.out.below hb lz lz hb.size)
 replace HI:=Lh (HI.out.below hb lz lz hb.size)
 replace HW:=Lh (HW.out.below hb lz lz hb.size)
 replace HZ7:=Lh (Nat.le_trans HZ7.out hb.size)
 clear hb HW HXW
 obtain ⟨bZ,hbZ⟩:∃bZ,bZ=w10.heap.size:=⟨_,rfl⟩
 obtain ⟨w11,hw11⟩:∃w11,w11=w10.alloc (.cells #[.int .i64 0,.int .i64 0,.slice za 0 zb,.int .i64 0,.slice z1 0 y1,.int .i64 0,.slice z2 0 y2,.int .i64 0,.slice z3 0 y3] 32):=⟨_,rfl⟩
 have hbx:Below w10.heap.size w10 w11:=by rw [hw11];exact (Below.refl _ _).alloc lz _
 have HXZ:=Lh (show w11.heap[bZ]?=some (.cells #[.int .i64 0,.int .i64 0,.slice za 0 zb,.int .i64 0,.slice z1 0 y1,.int .i64 0,.slice z2 0 y2,.int .i64 0,.slice z3 0 y3] 32 (0,0)) by rw [hw11,hbZ];exact heap_alloc_new w10 _)
 replace HB:=Lh (HB.out.trans (hbx.mono HB.out.size))
 replace HXV:=Lh ((hbx.block _ (heap_lt HXV.out)).trans HXV.out)
 replace HXR:=Lh ((hbx.block _ (heap_lt HXR.out)).trans HXR.out)
 replace HXT:=Lh ((hbx.block _ (heap_lt HXT.out)).trans HXT.out)
 replace HV:=Lh (HV.out.below hbx lz lz hbx.size)
 replace HI:=Lh (HI.out.below hbx lz lz hbx.size)
 replace HZ7:=Lh (Nat.le_trans HZ7.out hbx.size)
 have Hw11:=Lh (And.intro hw11 hbZ)
 clear hbx hw11 hbZ
 go_upto_region 6 with fail
 rw [← Hw11.out.1,← Hw11.out.2]
 clear Hw11
 have xR0:=box_cell HXR.out (j:=0) rfl;have xR1:=box_cell HXR.out (j:=1) rfl;have xR2:=box_cell HXR.out (j:=2) rfl;have xR3:=box_cell HXR.out (j:=3) rfl;have xR4:=box_cell HXR.out (j:=4) rfl;have xR5:=box_cell HXR.out (j:=5) rfl;have xR6:=box_cell HXR.out (j:=6) rfl;have xR7:=box_cell HXR.out (j:=7) rfl;have xR8:=box_cell HXR.out (j:=8) rfl
 go_wp2_with fail
 refine (awAuth22 ka j1 j2 j3 kc c1 c2 c3 w11 HI.out (HTB.out w11 HB.out).2.2.2).mono ?_
 clear xR0 xR1 xR2 xR3 xR4 xR5 xR6 xR7 xR8
 rintro ee w12 ⟨ja,jc,rfl,hs,hb⟩
 replace HB:=Lh (HB.out.trans (hb.mono HB.out.size))
 replace HXV:=Lh ((hb.block _ (heap_lt HXV.out)).trans HXV.out)
 replace HXR:=Lh ((hb.block _ (heap_lt HXR.out)).trans HXR.out)
 replace HXT:=Lh ((hb.block _ (heap_lt HXT.out)).trans HXT.out)
 replace HV:=Lh (HV.out.below hb lz lz hb.size)
 replace HI:=Lh (HI.out.below hb lz lz hb.size)
 replace HZ7:=Lh (Nat.le_trans HZ7.out hb.size)
 have HS:=Lh (hs.carry (Nat.zero_le _) lz (fun _ _ _=>rfl))
 clear hs hb HXZ
 obtain ⟨bA,hbA⟩:∃bA,bA=w12.heap.size:=⟨_,rfl⟩
 obtain ⟨w13,hw13⟩:∃w13,w13=w12.alloc (.cells #[.int .i64 1,.slice ja 1 jc] 30):=⟨_,rfl⟩
 have hbx:Below w12.heap.size w12 w13:=by rw [hw13];exact (Below.refl _ _).alloc lz _
 have HXA:=Lh (show w13.heap[bA]?=some (.cells #[.int .i64 1,.slice ja 1 jc] 30 (0,0)) by rw [hw13,hbA];exact heap_alloc_new w12 _)
 replace HB:=Lh (HB.out.trans (hbx.mono HB.out.size))
 replace HXV:=Lh ((hbx.block _ (heap_lt HXV.out)).trans HXV.out)
 replace HXR:=Lh ((hbx.block _ (heap_lt HXR.out)).trans HXR.out)
 replace HXT:=Lh ((hbx.block _ (heap_lt HXT.out)).trans HXT.out)
 replace HV:=Lh (HV.out.below hbx lz lz hbx.size)
 replace HI:=Lh (HI.out.below hbx lz lz hbx.size)
 replace HS:=Lh (HS.out.below hbx lz lz hbx.size)
 replace HZ7:=Lh (Nat.le_trans HZ7.out hbx.size)
 have Hw13:=Lh (And.intro hw13 hbA)
 clear hbx hw13 hbA
 go_upto_region 7 with fail
 rw [← Hw13.out.1,← Hw13.out.2]
 clear Hw13
 have xR0:=box_cell HXR.out (j:=0) rfl;have xR1:=box_cell HXR.out (j:=1) rfl;have xR2:=box_cell HXR.out (j:=2) rfl;have xR3:=box_cell HXR.out (j:=3) rfl;have xR4:=box_cell HXR.out (j:=4) rfl;have xR5:=box_cell HXR.out (j:=5) rfl;have xR6:=box_cell HXR.out (j:=6) rfl;have xR7:=box_cell HXR.out (j:=7) rfl;have xR8:=box_cell HXR.out (j:=8) rfl
 go_wp2_with fail
 refine (awNo22 ka j1 j2 j3 kc c1 c2 c3 w13 HI.out (HTB.out w13 HB.out).2.2.2).mono ?_
 clear xR0 xR1 xR2 xR3 xR4 xR5 xR6 xR7 xR8
 rintro ee w14 ⟨jb,jd,rfl,hb⟩
 replace HB:=Lh (HB.out.trans (hb.mono HB.out.size))
 replace HXV:=Lh ((hb.block _ (heap_lt HXV.out)).trans HXV.out)
 replace HXR:=Lh ((hb.block _ (heap_lt HXR.out)).trans HXR.out)
 replace HXT:=Lh ((hb.block _ (heap_lt HXT.out)).trans HXT.out)
 replace HXA:=Lh ((hb.block _ (heap_lt HXA.out)).trans HXA.out)
 replace HV:=Lh (HV.out.below hb lz lz hb.size)
 replace HI:=Lh (HI.out.below hb lz lz hb.size)
 replace HS:=Lh (HS.out.below hb lz lz hb.size)
 replace HZ7:=Lh (Nat.le_trans HZ7.out hb.size)
 clear hb
 obtain ⟨bN,hbN⟩:∃bN,bN=w14.heap.size:=⟨_,rfl⟩
 obtain ⟨w15,hw15⟩:∃w15,w15=w14.alloc (.cells #[.int .i64 0,.slice jb 0 jd] 30):=⟨_,rfl⟩
 have hbx:Below w14.heap.size w14 w15:=by rw [hw15];exact (Below.refl _ _).alloc lz _
 have HXN:=Lh (show w15.heap[bN]?=some (.cells #[.int .i64 0,.slice jb 0 jd] 30 (0,0)) by rw [hw15,hbN];exact heap_alloc_new w14 _)
 replace HB:=Lh (HB.out.trans (hbx.mono HB.out.size))
 replace HXV:=Lh ((hbx.block _ (heap_lt HXV.out)).trans HXV.out)
 replace HXR:=Lh ((hbx.block _ (heap_lt HXR.out)).trans HXR.out)
 replace HXT:=Lh ((hbx.block _ (heap_lt HXT.out)).trans HXT.out)
 replace HXA:=Lh ((hbx.block _ (heap_lt HXA.out)).trans HXA.out)
 replace HV:=Lh (HV.out.below hbx lz lz hbx.size)
 replace HI:=Lh (HI.out.below hbx lz lz hbx.size)
 replace HS:=Lh (HS.out.below hbx lz lz hbx.size)
 replace HZ7:=Lh (Nat.le_trans HZ7.out hbx.size)
 have Hw15:=Lh (And.intro hw15 hbN)
 clear hbx hw15 hbN
 go_upto_region 8 with fail
 rw [← Hw15.out.1,← Hw15.out.2]
 clear Hw15
 have HC:=Lh (show ∀w':World,Below w15.heap.size w15 w'→(w'.cell? ⟨bT,2,none⟩=some (.string ⟨#[49,57,55,48,45,48,49,45,48,49,84,48,48,58,48,48,58,48,57,90]⟩)∧w'.cell? ⟨bV,3,none⟩=some (.slice an 5 cn)∧w'.cell? ⟨bA,0,none⟩=some (.int .i64 1)∧w'.cell? ⟨bA,1,none⟩=some (.slice ja 1 jc))∧(w'.cell? ⟨bR,0,none⟩=some (.int .i64 1)∧w'.cell? ⟨bR,1,none⟩=some (.int .i64 9)∧w'.cell? ⟨bR,2,none⟩=some (.slice ka 0 kc)∧w'.cell? ⟨bR,3,none⟩=some (.int .i64 1)∧w'.cell? ⟨bR,4,none⟩=some (.slice j1 1 c1)∧w'.cell? ⟨bR,5,none⟩=some (.int .i64 1)∧w'.cell? ⟨bR,6,none⟩=some (.slice j2 1 c2)∧w'.cell? ⟨bR,7,none⟩=some (.int .i64 1)∧w'.cell? ⟨bR,8,none⟩=some (.slice j3 1 c3)) from fun w' h=>by
  have y1:=(h.block _ (heap_lt HXT.out)).trans HXT.out
  have y2:=(h.block _ (heap_lt HXV.out)).trans HXV.out
  have y3:=(h.block _ (heap_lt HXA.out)).trans HXA.out
  have y4:=(h.block _ (heap_lt HXR.out)).trans HXR.out
  exact ⟨⟨box_cell y1 rfl,box_cell y2 rfl,box_cell y3 rfl,box_cell y3 rfl⟩,box_cell y4 rfl,box_cell y4 rfl,box_cell y4 rfl,box_cell y4 rfl,box_cell y4 rfl,box_cell y4 rfl,box_cell y4 rfl,box_cell y4 rfl,box_cell y4 rfl⟩)
 have HSM:=Lh (show ∀(w':World) (ia ib ic:Option Addr),Below w15.heap.size w15 w'→RootIn w' 0 w'.heap.size exR none ia ib ic→Calls Tryz.prog 14 #[.agg #[.int .i64 1,.int .i64 9,.slice ka 0 kc,.int .i64 1,.slice j1 1 c1,.int .i64 1,.slice j2 1 c2,.int .i64 1,.slice j3 1 c3],.agg #[.int .i64 1,.int .i64 9,.slice none 0 0,.int .i64 1,.slice ia 1 1,.int .i64 1,.slice ib 1 1,.int .i64 1,.slice ic 1 1]] w' (fun e w''=>e=.returned (.bool true)∧Below w'.heap.size w' w'') from fun w' ia ib ic h hj=>awSame22 ka j1 j2 j3 ia ib ic kc c1 c2 c3 w' (HI.out.below h lz lz h.size) hj)
 have HSA:=Lh (show ∀(w':World) (ga:Option Addr),Below w15.heap.size w15 w'→StrsAt w' 0 w'.heap.size ga [digN 98]→Calls Tryz.prog 31 #[.agg #[.int .i64 1,.slice ja 1 jc],.agg #[.int .i64 1,.slice ga 1 1]] w' (fun e w''=>e=.returned (.bool true)∧Below w'.heap.size w' w'') from fun w' ga h hj=>awSameA22 ja ga jc w' (HS.out.below h lz lz h.size) hj)
 obtain ⟨V,hV⟩:∃V:List MP,V=[.con (.int .i64 0),.con (.bool true),.con (.bool true),.con (.int .i64 0),.con (.bool true),.con (.bool true),.con (.bool true),.con (.agg #[.int .i64 1,.int .i64 9,.slice ka 0 kc,.int .i64 1,.slice j1 1 c1,.int .i64 1,.slice j2 1 c2,.int .i64 1,.slice j3 1 c3]),MP.ex 0,.con (.bool true),.con (.bool true),.con (.bool true),.con (.bool true),.con (.bool true),.con (.bool true),.con (.pointer (some ⟨bT,2,none⟩)),.con (.string ⟨#[49,57,55,48,45,48,49,45,48,49,84,48,48,58,48,48,58,48,57,90]⟩),.con (.bool true),.con (.bool true),.con (.bool true),.con (.int .i64 0),.con (.bool true),.con (.bool true),.con (.bool true),.con (.int .i64 13),.con (.bool true),.con (.bool true),.con (.bool true),.con (.bool true),.con (.bool true),.con (.bool true),.con (.bool false),.con (.bool true),.con (.bool true),.con (.bool true),.con (.agg #[.int .i64 1,.slice ja 1 jc]),MP.who 98 0,.con (.bool true),.con (.bool true),.con (.bool true),.con (.pointer (some ⟨bV,3,none⟩)),.con (.slice an 5 cn),.con (.int .i64 5),.con (.bool true),.con (.bool true)]:=⟨_,rfl⟩
 have HV:=Lh hV
 clear hV
 refine wp_region_inv 45 (fun d a' w'=>∃x51 x52 x53 x54 x55 x56 x57 x58 x59 x60 x61 x62 x63 x64 x65 x66 x67 x68 x69 x70 x71 x72 x73 x74 x75 x76 x77 x78 x79 x80 x81 x82 x83 x84 x85 x86 x87 x88 x89 x90 x91 x92 x93 x94 x95,a'=⟨#[Value.bool false,Value.pointer (some { block:=bV,off:=0 }),Value.int IntKind.i64 0,Value.pointer (some { block:=bR,off:=0 }),Value.int IntKind.i64 0,Value.pointer (some { block:=bT,off:=0 }),Value.bool true,Value.pointer (some { block:=bW,off:=0 }),Value.int IntKind.i64 0,Value.pointer (some { block:=bZ,off:=0 }),Value.int IntKind.i64 13,Value.pointer (some { block:=bA,off:=0 }),Value.bool true,Value.pointer (some { block:=bN,off:=0 }),Value.bool false,Value.tuple #[Value.agg #[Value.int IntKind.u8 5,Value.int IntKind.i64 0,Value.string ⟨#[]⟩,Value.slice an 5 cn,Value.slice ai 5 ci],Value.int IntKind.i64 0],Value.agg #[Value.int IntKind.i64 1,Value.int IntKind.i64 9,Value.slice none 0 0,Value.int IntKind.i64 1,Value.slice ia 1 1,Value.int IntKind.i64 1,Value.slice ib 1 1,Value.int IntKind.i64 1,Value.slice ic 1 1],Value.tuple #[Value.agg #[Value.int IntKind.u8 5,Value.int IntKind.i64 0,Value.string ⟨#[]⟩,Value.slice an 5 cn,Value.slice ai 5 ci],Value.int IntKind.i64 0],Value.agg #[Value.int IntKind.u8 5,Value.int IntKind.i64 0,Value.string ⟨#[]⟩,Value.slice an 5 cn,Value.slice ai 5 ci],Value.int IntKind.i64 0,Value.tuple #[Value.agg #[Value.int IntKind.i64 1,Value.int IntKind.i64 9,Value.slice ka 0 kc,Value.int IntKind.i64 1,Value.slice j1 1 c1,Value.int IntKind.i64 1,Value.slice j2 1 c2,Value.int IntKind.i64 1,Value.slice j3 1 c3],Value.int IntKind.i64 0],Value.agg #[Value.int IntKind.u8 5,Value.int IntKind.i64 0,Value.string ⟨#[]⟩,Value.slice an 5 cn,Value.slice ai 5 ci],Value.tuple #[Value.agg #[Value.int IntKind.i64 1,Value.int IntKind.i64 9,Value.slice ka 0 kc,Value.int IntKind.i64 1,Value.slice j1 1 c1,Value.int IntKind.i64 1,Value.slice j2 1 c2,Value.int IntKind.i64 1,Value.slice j3 1 c3],Value.int IntKind.i64 0],Value.agg #[Value.int IntKind.i64 1,Value.int IntKind.i64 9,Value.slice ka 0 kc,Value.int IntKind.i64 1,Value.slice j1 1 c1,Value.int IntKind.i64 1,Value.slice j2 1 c2,Value.int IntKind.i64 1,Value.slice j3 1 c3],Value.int IntKind.i64 0,Value.tuple #[Value.agg #[Value.int IntKind.u8 3,Value.int IntKind.i64 0,Value.string ⟨#[49,57,55,48,45,48,49,45,48,49,84,48,48,58,48,48,58,48,57,90]⟩,Value.slice gn 0 gc,Value.slice gi 0 gd],Value.bool true],Value.agg #[Value.int IntKind.u8 5,Value.int IntKind.i64 0,Value.string ⟨#[]⟩,Value.slice an 5 cn,Value.slice ai 5 ci],Value.tuple #[Value.agg #[Value.int IntKind.u8 3,Value.int IntKind.i64 0,Value.string ⟨#[49,57,55,48,45,48,49,45,48,49,84,48,48,58,48,48,58,48,57,90]⟩,Value.slice gn 0 gc,Value.slice gi 0 gd],Value.bool true],Value.agg #[Value.int IntKind.u8 3,Value.int IntKind.i64 0,Value.string ⟨#[49,57,55,48,45,48,49,45,48,49,84,48,48,58,48,48,58,48,57,90]⟩,Value.slice gn 0 gc,Value.slice gi 0 gd],Value.bool true,Value.tuple #[Value.agg #[Value.int IntKind.u8 5,Value.int IntKind.i64 0,Value.string ⟨#[]⟩,Value.slice hn 5 hc,Value.slice hi 5 hd],Value.int IntKind.i64 0],Value.agg #[Value.int IntKind.u8 5,Value.int IntKind.i64 0,Value.string ⟨#[]⟩,Value.slice an 5 cn,Value.slice ai 5 ci],Value.agg #[Value.int IntKind.u8 3,Value.int IntKind.i64 0,Value.string ⟨#[115,110,97,112,115,104,111,116]⟩,Value.slice none 0 0,Value.slice none 0 0],Value.tuple #[Value.agg #[Value.int IntKind.u8 5,Value.int IntKind.i64 0,Value.string ⟨#[]⟩,Value.slice hn 5 hc,Value.slice hi 5 hd],Value.int IntKind.i64 0],Value.agg #[Value.int IntKind.u8 5,Value.int IntKind.i64 0,Value.string ⟨#[]⟩,Value.slice hn 5 hc,Value.slice hi 5 hd],Value.int IntKind.i64 0,Value.tuple #[Value.agg #[Value.int IntKind.i64 0,Value.int IntKind.i64 0,Value.slice za 0 zb,Value.int IntKind.i64 0,Value.slice z1 0 y1,Value.int IntKind.i64 0,Value.slice z2 0 y2,Value.int IntKind.i64 0,Value.slice z3 0 y3],Value.int IntKind.i64 13],Value.agg #[Value.int IntKind.u8 5,Value.int IntKind.i64 0,Value.string ⟨#[]⟩,Value.slice hn 5 hc,Value.slice hi 5 hd],Value.tuple #[Value.agg #[Value.int IntKind.i64 0,Value.int IntKind.i64 0,Value.slice za 0 zb,Value.int IntKind.i64 0,Value.slice z1 0 y1,Value.int IntKind.i64 0,Value.slice z2 0 y2,Value.int IntKind.i64 0,Value.slice z3 0 y3],Value.int IntKind.i64 13],Value.agg #[Value.int IntKind.i64 0,Value.int IntKind.i64 0,Value.slice za 0 zb,Value.int IntKind.i64 0,Value.slice z1 0 y1,Value.int IntKind.i64 0,Value.slice z2 0 y2,Value.int IntKind.i64 0,Value.slice z3 0 y3],Value.int IntKind.i64 13,Value.tuple #[Value.agg #[Value.int IntKind.i64 1,Value.slice ja 1 jc],Value.bool true],Value.agg #[Value.int IntKind.i64 1,Value.int IntKind.i64 9,Value.slice ka 0 kc,Value.int IntKind.i64 1,Value.slice j1 1 c1,Value.int IntKind.i64 1,Value.slice j2 1 c2,Value.int IntKind.i64 1,Value.slice j3 1 c3],Value.tuple #[Value.agg #[Value.int IntKind.i64 1,Value.slice ja 1 jc],Value.bool true],Value.agg #[Value.int IntKind.i64 1,Value.slice ja 1 jc],Value.bool true,Value.tuple #[Value.agg #[Value.int IntKind.i64 0,Value.slice jb 0 jd],Value.bool false],Value.agg #[Value.int IntKind.i64 1,Value.int IntKind.i64 9,Value.slice ka 0 kc,Value.int IntKind.i64 1,Value.slice j1 1 c1,Value.int IntKind.i64 1,Value.slice j2 1 c2,Value.int IntKind.i64 1,Value.slice j3 1 c3],Value.tuple #[Value.agg #[Value.int IntKind.i64 0,Value.slice jb 0 jd],Value.bool false],Value.agg #[Value.int IntKind.i64 0,Value.slice jb 0 jd],Value.bool false,x51,x52,x53,x54,x55,x56,x57,x58,x59,x60,x61,x62,x63,x64,x65,x66,x67,x68,x69,x70,x71,x72,x73,x74,x75,x76,x77,x78,x79,x80,x81,x82,x83,x84,x85,x86,x87,x88,x89,x90,x91,x92,x93,x94,x95],[]⟩∧RegI w15 V d w' [x51,x52,x53,x54,x55,x56,x57,x58,x59,x60,x61,x62,x63,x64,x65,x66,x67,x68,x69,x70,x71,x72,x73,x74,x75,x76,x77,x78,x79,x80,x81,x82,x83,x84,x85,x86,x87,x88,x89,x90,x91,x92,x93,x94,x95]) (by kernel_rfl) (by kernel_rfl) ?first ?step ?last
 case first=>exact ⟨_,_,_,_,_,_,_,_,_,_,_,_,_,_,_,_,_,_,_,_,_,_,_,_,_,_,_,_,_,_,_,_,_,_,_,_,_,_,_,_,_,_,_,_,_,rfl,RegI.first _ _ _ (by rw [HV.out];rfl)⟩
 case step =>
  rintro d a' w' ⟨x51,x52,x53,x54,x55,x56,x57,x58,x59,x60,x61,x62,x63,x64,x65,x66,x67,x68,x69,x70,x71,x72,x73,x74,x75,x76,x77,x78,x79,x80,x81,x82,x83,x84,x85,x86,x87,x88,x89,x90,x91,x92,x93,x94,x95,rfl,h⟩ q hq hn hw
  rcases q with _|_|_|_|_|_|_|_|_|_|_|_|_|_|_|_|_|_|_|_|_|_|_|_|_|_|_|_|_|_|_|_|_|_|_|_|_|_|_|_|_|_|_|_|_|q
  · refine wpOp_step rfl fun K hK=>?_
    go_simp
    exact hK _ _ ⟨_,x52,x53,x54,x55,x56,x57,x58,x59,x60,x61,x62,x63,x64,x65,x66,x67,x68,x69,x70,x71,x72,x73,x74,x75,x76,x77,x78,x79,x80,x81,x82,x83,x84,x85,x86,x87,x88,x89,x90,x91,x92,x93,x94,x95,rfl,h.sameC 0 _ HV rfl⟩
  · obtain rfl:=h.con 0 (hw _ rfl ⟨0,.data⟩ (by simp) rfl) HV rfl rfl
    refine wpOp_step rfl fun K hK=>?_
    go_simp
    exact hK _ _ ⟨_,_,x53,x54,x55,x56,x57,x58,x59,x60,x61,x62,x63,x64,x65,x66,x67,x68,x69,x70,x71,x72,x73,x74,x75,x76,x77,x78,x79,x80,x81,x82,x83,x84,x85,x86,x87,x88,x89,x90,x91,x92,x93,x94,x95,rfl,h.sameC 1 _ HV rfl⟩
  · obtain rfl:=h.con 1 (hw _ rfl ⟨1,.data⟩ (by simp) rfl) HV rfl rfl
    refine wpOp_step rfl fun K hK=>?_
    go_simp
    exact hK _ _ ⟨x51,_,_,x54,x55,x56,x57,x58,x59,x60,x61,x62,x63,x64,x65,x66,x67,x68,x69,x70,x71,x72,x73,x74,x75,x76,x77,x78,x79,x80,x81,x82,x83,x84,x85,x86,x87,x88,x89,x90,x91,x92,x93,x94,x95,rfl,h.sameC 2 _ HV rfl⟩
  · obtain rfl:=h.con 2 (hw _ rfl ⟨2,.guard⟩ (by simp) rfl) HV rfl rfl
    refine wpOp_step rfl fun K hK=>?_
    go_simp
    exact hK _ _ ⟨x51,x52,_,_,x55,x56,x57,x58,x59,x60,x61,x62,x63,x64,x65,x66,x67,x68,x69,x70,x71,x72,x73,x74,x75,x76,x77,x78,x79,x80,x81,x82,x83,x84,x85,x86,x87,x88,x89,x90,x91,x92,x93,x94,x95,rfl,h.sameC 3 _ HV rfl⟩
  · obtain rfl:=h.con 2 (hw _ rfl ⟨2,.guard⟩ (by simp) rfl) HV rfl rfl
    obtain rfl:=h.con 3 (hw _ rfl ⟨3,.data⟩ (by simp) rfl) HV rfl rfl
    refine wpOp_step rfl fun K hK=>?_
    go_simp
    exact hK _ _ ⟨x51,x52,_,_,_,x56,x57,x58,x59,x60,x61,x62,x63,x64,x65,x66,x67,x68,x69,x70,x71,x72,x73,x74,x75,x76,x77,x78,x79,x80,x81,x82,x83,x84,x85,x86,x87,x88,x89,x90,x91,x92,x93,x94,x95,rfl,h.sameC 4 _ HV rfl⟩
  · obtain rfl:=h.con 2 (hw _ rfl ⟨2,.data⟩ (by simp) rfl) HV rfl rfl
    obtain rfl:=h.con 4 (hw _ rfl ⟨4,.data⟩ (by simp) rfl) HV rfl rfl
    refine wpOp_step rfl fun K hK=>?_
    go_simp
    exact hK _ _ ⟨x51,x52,_,x54,_,_,x57,x58,x59,x60,x61,x62,x63,x64,x65,x66,x67,x68,x69,x70,x71,x72,x73,x74,x75,x76,x77,x78,x79,x80,x81,x82,x83,x84,x85,x86,x87,x88,x89,x90,x91,x92,x93,x94,x95,rfl,h.sameC 5 _ HV rfl⟩
  · obtain rfl:=h.con 5 (hw _ rfl ⟨5,.data⟩ (by simp) rfl) HV rfl rfl
    refine wpOp_step rfl fun K hK=>?_
    go_simp
    exact hK _ _ ⟨x51,x52,x53,x54,x55,_,_,x58,x59,x60,x61,x62,x63,x64,x65,x66,x67,x68,x69,x70,x71,x72,x73,x74,x75,x76,x77,x78,x79,x80,x81,x82,x83,x84,x85,x86,x87,x88,x89,x90,x91,x92,x93,x94,x95,rfl,h.sameC 6 _ HV rfl⟩
  · obtain rfl:=h.con 6 (hw _ rfl ⟨6,.guard⟩ (by simp) rfl) HV rfl rfl
    obtain ⟨⟨q0,q1,q2,q3⟩,r0,r1,r2,r3,r4,r5,r6,r7,r8⟩:=HC.out w' h.1
    refine wpOp_step rfl fun K hK=>?_
    go_simp
    exact hK _ _ ⟨x51,x52,x53,x54,x55,x56,_,_,x59,x60,x61,x62,x63,x64,x65,x66,x67,x68,x69,x70,x71,x72,x73,x74,x75,x76,x77,x78,x79,x80,x81,x82,x83,x84,x85,x86,x87,x88,x89,x90,x91,x92,x93,x94,x95,rfl,h.sameC 7 _ HV rfl⟩
  · obtain rfl:=h.con 6 (hw _ rfl ⟨6,.chain⟩ (by simp) rfl) HV rfl rfl
    obtain ⟨⟨q0,q1,q2,q3⟩,r0,r1,r2,r3,r4,r5,r6,r7,r8⟩:=HC.out w' h.1
    refine wpOp_step rfl fun K hK=>?_
    go_simp
    refine (awEx22 w').mono ?_
    rintro e w2 ⟨y,rfl,hy,hb2⟩
    exact hK _ _ ⟨x51,x52,x53,x54,x55,x56,_,x58,_,x60,x61,x62,x63,x64,x65,x66,x67,x68,x69,x70,x71,x72,x73,x74,x75,x76,x77,x78,x79,x80,x81,x82,x83,x84,x85,x86,x87,x88,x89,x90,x91,x92,x93,x94,x95,rfl,h.did hb2 8 _ (MP.ex 0) (by rw [HV.out];rfl) hy⟩
  · obtain rfl:=h.con 6 (hw _ rfl ⟨6,.guard⟩ (by simp) rfl) HV rfl rfl
    obtain rfl:=h.con 7 (hw _ rfl ⟨7,.data⟩ (by simp) rfl) HV rfl rfl
    have hs59:=h.get 8 (hw _ rfl ⟨8,.data⟩ (by simp) rfl) (MP.ex 0) (by rw [HV.out];rfl) _ rfl
    obtain ⟨ia2,ib2,ic2,rfl,hj2⟩:=hs59
    obtain ⟨⟨q0,q1,q2,q3⟩,r0,r1,r2,r3,r4,r5,r6,r7,r8⟩:=HC.out w' h.1
    refine wpOp_step rfl fun K hK=>?_
    go_simp
    refine (HSM.out w' ia2 ib2 ic2 h.1 hj2).mono ?_
    rintro e w2 ⟨rfl,hb2⟩
    exact hK _ _ ⟨x51,x52,x53,x54,x55,x56,_,_,_,_,x61,x62,x63,x64,x65,x66,x67,x68,x69,x70,x71,x72,x73,x74,x75,x76,x77,x78,x79,x80,x81,x82,x83,x84,x85,x86,x87,x88,x89,x90,x91,x92,x93,x94,x95,rfl,h.didC hb2 9 _ HV rfl⟩
  · obtain rfl:=h.con 6 (hw _ rfl ⟨6,.data⟩ (by simp) rfl) HV rfl rfl
    obtain rfl:=h.con 9 (hw _ rfl ⟨9,.data⟩ (by simp) rfl) HV rfl rfl
    refine wpOp_step rfl fun K hK=>?_
    go_simp
    exact hK _ _ ⟨x51,x52,x53,x54,x55,x56,_,x58,x59,_,_,x62,x63,x64,x65,x66,x67,x68,x69,x70,x71,x72,x73,x74,x75,x76,x77,x78,x79,x80,x81,x82,x83,x84,x85,x86,x87,x88,x89,x90,x91,x92,x93,x94,x95,rfl,h.sameC 10 _ HV rfl⟩
  · obtain rfl:=h.con 10 (hw _ rfl ⟨10,.data⟩ (by simp) rfl) HV rfl rfl
    refine wpOp_step rfl fun K hK=>?_
    go_simp
    exact hK _ _ ⟨x51,x52,x53,x54,x55,x56,x57,x58,x59,x60,_,_,x63,x64,x65,x66,x67,x68,x69,x70,x71,x72,x73,x74,x75,x76,x77,x78,x79,x80,x81,x82,x83,x84,x85,x86,x87,x88,x89,x90,x91,x92,x93,x94,x95,rfl,h.sameC 11 _ HV rfl⟩
  · obtain rfl:=h.con 11 (hw _ rfl ⟨11,.guard⟩ (by simp) rfl) HV rfl rfl
    refine wpOp_step rfl fun K hK=>?_
    go_simp
    exact hK _ _ ⟨x51,x52,x53,x54,x55,x56,x57,x58,x59,x60,x61,_,_,x64,x65,x66,x67,x68,x69,x70,x71,x72,x73,x74,x75,x76,x77,x78,x79,x80,x81,x82,x83,x84,x85,x86,x87,x88,x89,x90,x91,x92,x93,x94,x95,rfl,h.sameC 12 _ HV rfl⟩
  · obtain rfl:=h.con 11 (hw _ rfl ⟨11,.data⟩ (by simp) rfl) HV rfl rfl
    obtain rfl:=h.con 12 (hw _ rfl ⟨12,.data⟩ (by simp) rfl) HV rfl rfl
    refine wpOp_step rfl fun K hK=>?_
    go_simp
    exact hK _ _ ⟨x51,x52,x53,x54,x55,x56,x57,x58,x59,x60,x61,_,_,_,x65,x66,x67,x68,x69,x70,x71,x72,x73,x74,x75,x76,x77,x78,x79,x80,x81,x82,x83,x84,x85,x86,x87,x88,x89,x90,x91,x92,x93,x94,x95,rfl,h.sameC 13 _ HV rfl⟩
  · obtain rfl:=h.con 13 (hw _ rfl ⟨13,.data⟩ (by simp) rfl) HV rfl rfl
    refine wpOp_step rfl fun K hK=>?_
    go_simp
    exact hK _ _ ⟨x51,x52,x53,x54,x55,x56,x57,x58,x59,x60,x61,x62,x63,_,_,x66,x67,x68,x69,x70,x71,x72,x73,x74,x75,x76,x77,x78,x79,x80,x81,x82,x83,x84,x85,x86,x87,x88,x89,x90,x91,x92,x93,x94,x95,rfl,h.sameC 14 _ HV rfl⟩
  · obtain rfl:=h.con 14 (hw _ rfl ⟨14,.guard⟩ (by simp) rfl) HV rfl rfl
    refine wpOp_step rfl fun K hK=>?_
    go_simp
    exact hK _ _ ⟨x51,x52,x53,x54,x55,x56,x57,x58,x59,x60,x61,x62,x63,x64,_,_,x67,x68,x69,x70,x71,x72,x73,x74,x75,x76,x77,x78,x79,x80,x81,x82,x83,x84,x85,x86,x87,x88,x89,x90,x91,x92,x93,x94,x95,rfl,h.sameC 15 _ HV rfl⟩
  · obtain rfl:=h.con 14 (hw _ rfl ⟨14,.guard⟩ (by simp) rfl) HV rfl rfl
    obtain rfl:=h.con 15 (hw _ rfl ⟨15,.data⟩ (by simp) rfl) HV rfl rfl
    obtain ⟨⟨q0,q1,q2,q3⟩,r0,r1,r2,r3,r4,r5,r6,r7,r8⟩:=HC.out w' h.1
    refine wpOp_step rfl fun K hK=>?_
    go_simp
    exact hK _ _ ⟨x51,x52,x53,x54,x55,x56,x57,x58,x59,x60,x61,x62,x63,x64,_,_,_,x68,x69,x70,x71,x72,x73,x74,x75,x76,x77,x78,x79,x80,x81,x82,x83,x84,x85,x86,x87,x88,x89,x90,x91,x92,x93,x94,x95,rfl,h.sameC 16 _ HV rfl⟩
  · obtain rfl:=h.con 14 (hw _ rfl ⟨14,.guard⟩ (by simp) rfl) HV rfl rfl
    obtain rfl:=h.con 16 (hw _ rfl ⟨16,.data⟩ (by simp) rfl) HV rfl rfl
    refine wpOp_step rfl fun K hK=>?_
    go_simp
    exact hK _ _ ⟨x51,x52,x53,x54,x55,x56,x57,x58,x59,x60,x61,x62,x63,x64,_,x66,_,_,x69,x70,x71,x72,x73,x74,x75,x76,x77,x78,x79,x80,x81,x82,x83,x84,x85,x86,x87,x88,x89,x90,x91,x92,x93,x94,x95,rfl,h.sameC 17 _ HV rfl⟩
  · obtain rfl:=h.con 14 (hw _ rfl ⟨14,.data⟩ (by simp) rfl) HV rfl rfl
    obtain rfl:=h.con 17 (hw _ rfl ⟨17,.data⟩ (by simp) rfl) HV rfl rfl
    refine wpOp_step rfl fun K hK=>?_
    go_simp
    exact hK _ _ ⟨x51,x52,x53,x54,x55,x56,x57,x58,x59,x60,x61,x62,x63,x64,_,x66,x67,_,_,x70,x71,x72,x73,x74,x75,x76,x77,x78,x79,x80,x81,x82,x83,x84,x85,x86,x87,x88,x89,x90,x91,x92,x93,x94,x95,rfl,h.sameC 18 _ HV rfl⟩
  · obtain rfl:=h.con 18 (hw _ rfl ⟨18,.data⟩ (by simp) rfl) HV rfl rfl
    refine wpOp_step rfl fun K hK=>?_
    go_simp
    exact hK _ _ ⟨x51,x52,x53,x54,x55,x56,x57,x58,x59,x60,x61,x62,x63,x64,x65,x66,x67,x68,_,_,x71,x72,x73,x74,x75,x76,x77,x78,x79,x80,x81,x82,x83,x84,x85,x86,x87,x88,x89,x90,x91,x92,x93,x94,x95,rfl,h.sameC 19 _ HV rfl⟩
  · obtain rfl:=h.con 19 (hw _ rfl ⟨19,.guard⟩ (by simp) rfl) HV rfl rfl
    refine wpOp_step rfl fun K hK=>?_
    go_simp
    exact hK _ _ ⟨x51,x52,x53,x54,x55,x56,x57,x58,x59,x60,x61,x62,x63,x64,x65,x66,x67,x68,x69,_,_,x72,x73,x74,x75,x76,x77,x78,x79,x80,x81,x82,x83,x84,x85,x86,x87,x88,x89,x90,x91,x92,x93,x94,x95,rfl,h.sameC 20 _ HV rfl⟩
  · obtain rfl:=h.con 19 (hw _ rfl ⟨19,.guard⟩ (by simp) rfl) HV rfl rfl
    obtain rfl:=h.con 20 (hw _ rfl ⟨20,.data⟩ (by simp) rfl) HV rfl rfl
    refine wpOp_step rfl fun K hK=>?_
    go_simp
    exact hK _ _ ⟨x51,x52,x53,x54,x55,x56,x57,x58,x59,x60,x61,x62,x63,x64,x65,x66,x67,x68,x69,_,_,_,x73,x74,x75,x76,x77,x78,x79,x80,x81,x82,x83,x84,x85,x86,x87,x88,x89,x90,x91,x92,x93,x94,x95,rfl,h.sameC 21 _ HV rfl⟩
  · obtain rfl:=h.con 19 (hw _ rfl ⟨19,.data⟩ (by simp) rfl) HV rfl rfl
    obtain rfl:=h.con 21 (hw _ rfl ⟨21,.data⟩ (by simp) rfl) HV rfl rfl
    refine wpOp_step rfl fun K hK=>?_
    go_simp
    exact hK _ _ ⟨x51,x52,x53,x54,x55,x56,x57,x58,x59,x60,x61,x62,x63,x64,x65,x66,x67,x68,x69,_,x71,_,_,x74,x75,x76,x77,x78,x79,x80,x81,x82,x83,x84,x85,x86,x87,x88,x89,x90,x91,x92,x93,x94,x95,rfl,h.sameC 22 _ HV rfl⟩
  · obtain rfl:=h.con 22 (hw _ rfl ⟨22,.data⟩ (by simp) rfl) HV rfl rfl
    refine wpOp_step rfl fun K hK=>?_
    go_simp
    exact hK _ _ ⟨x51,x52,x53,x54,x55,x56,x57,x58,x59,x60,x61,x62,x63,x64,x65,x66,x67,x68,x69,x70,x71,x72,_,_,x75,x76,x77,x78,x79,x80,x81,x82,x83,x84,x85,x86,x87,x88,x89,x90,x91,x92,x93,x94,x95,rfl,h.sameC 23 _ HV rfl⟩
  · obtain rfl:=h.con 23 (hw _ rfl ⟨23,.guard⟩ (by simp) rfl) HV rfl rfl
    refine wpOp_step rfl fun K hK=>?_
    go_simp
    exact hK _ _ ⟨x51,x52,x53,x54,x55,x56,x57,x58,x59,x60,x61,x62,x63,x64,x65,x66,x67,x68,x69,x70,x71,x72,x73,_,_,x76,x77,x78,x79,x80,x81,x82,x83,x84,x85,x86,x87,x88,x89,x90,x91,x92,x93,x94,x95,rfl,h.sameC 24 _ HV rfl⟩
  · obtain rfl:=h.con 23 (hw _ rfl ⟨23,.guard⟩ (by simp) rfl) HV rfl rfl
    obtain rfl:=h.con 24 (hw _ rfl ⟨24,.data⟩ (by simp) rfl) HV rfl rfl
    refine wpOp_step rfl fun K hK=>?_
    go_simp
    exact hK _ _ ⟨x51,x52,x53,x54,x55,x56,x57,x58,x59,x60,x61,x62,x63,x64,x65,x66,x67,x68,x69,x70,x71,x72,x73,_,_,_,x77,x78,x79,x80,x81,x82,x83,x84,x85,x86,x87,x88,x89,x90,x91,x92,x93,x94,x95,rfl,h.sameC 25 _ HV rfl⟩
  · obtain rfl:=h.con 23 (hw _ rfl ⟨23,.data⟩ (by simp) rfl) HV rfl rfl
    obtain rfl:=h.con 25 (hw _ rfl ⟨25,.data⟩ (by simp) rfl) HV rfl rfl
    refine wpOp_step rfl fun K hK=>?_
    go_simp
    exact hK _ _ ⟨x51,x52,x53,x54,x55,x56,x57,x58,x59,x60,x61,x62,x63,x64,x65,x66,x67,x68,x69,x70,x71,x72,x73,_,x75,_,_,x78,x79,x80,x81,x82,x83,x84,x85,x86,x87,x88,x89,x90,x91,x92,x93,x94,x95,rfl,h.sameC 26 _ HV rfl⟩
  · obtain rfl:=h.con 26 (hw _ rfl ⟨26,.data⟩ (by simp) rfl) HV rfl rfl
    refine wpOp_step rfl fun K hK=>?_
    go_simp
    exact hK _ _ ⟨x51,x52,x53,x54,x55,x56,x57,x58,x59,x60,x61,x62,x63,x64,x65,x66,x67,x68,x69,x70,x71,x72,x73,x74,x75,x76,_,_,x79,x80,x81,x82,x83,x84,x85,x86,x87,x88,x89,x90,x91,x92,x93,x94,x95,rfl,h.sameC 27 _ HV rfl⟩
  · obtain rfl:=h.con 27 (hw _ rfl ⟨27,.guard⟩ (by simp) rfl) HV rfl rfl
    refine wpOp_step rfl fun K hK=>?_
    go_simp
    exact hK _ _ ⟨x51,x52,x53,x54,x55,x56,x57,x58,x59,x60,x61,x62,x63,x64,x65,x66,x67,x68,x69,x70,x71,x72,x73,x74,x75,x76,x77,_,_,x80,x81,x82,x83,x84,x85,x86,x87,x88,x89,x90,x91,x92,x93,x94,x95,rfl,h.sameC 28 _ HV rfl⟩
  · obtain rfl:=h.con 27 (hw _ rfl ⟨27,.data⟩ (by simp) rfl) HV rfl rfl
    obtain rfl:=h.con 28 (hw _ rfl ⟨28,.data⟩ (by simp) rfl) HV rfl rfl
    refine wpOp_step rfl fun K hK=>?_
    go_simp
    exact hK _ _ ⟨x51,x52,x53,x54,x55,x56,x57,x58,x59,x60,x61,x62,x63,x64,x65,x66,x67,x68,x69,x70,x71,x72,x73,x74,x75,x76,x77,_,_,_,x81,x82,x83,x84,x85,x86,x87,x88,x89,x90,x91,x92,x93,x94,x95,rfl,h.sameC 29 _ HV rfl⟩
  · obtain rfl:=h.con 29 (hw _ rfl ⟨29,.data⟩ (by simp) rfl) HV rfl rfl
    refine wpOp_step rfl fun K hK=>?_
    go_simp
    exact hK _ _ ⟨x51,x52,x53,x54,x55,x56,x57,x58,x59,x60,x61,x62,x63,x64,x65,x66,x67,x68,x69,x70,x71,x72,x73,x74,x75,x76,x77,x78,x79,_,_,x82,x83,x84,x85,x86,x87,x88,x89,x90,x91,x92,x93,x94,x95,rfl,h.sameC 30 _ HV rfl⟩
  · obtain rfl:=h.con 30 (hw _ rfl ⟨30,.guard⟩ (by simp) rfl) HV rfl rfl
    refine wpOp_step rfl fun K hK=>?_
    go_simp
    exact hK _ _ ⟨x51,x52,x53,x54,x55,x56,x57,x58,x59,x60,x61,x62,x63,x64,x65,x66,x67,x68,x69,x70,x71,x72,x73,x74,x75,x76,x77,x78,x79,x80,_,_,x83,x84,x85,x86,x87,x88,x89,x90,x91,x92,x93,x94,x95,rfl,h.sameC 31 _ HV rfl⟩
  · obtain rfl:=h.con 30 (hw _ rfl ⟨30,.guard⟩ (by simp) rfl) HV rfl rfl
    obtain rfl:=h.con 31 (hw _ rfl ⟨31,.data⟩ (by simp) rfl) HV rfl rfl
    refine wpOp_step rfl fun K hK=>?_
    go_simp
    exact hK _ _ ⟨x51,x52,x53,x54,x55,x56,x57,x58,x59,x60,x61,x62,x63,x64,x65,x66,x67,x68,x69,x70,x71,x72,x73,x74,x75,x76,x77,x78,x79,x80,_,_,_,x84,x85,x86,x87,x88,x89,x90,x91,x92,x93,x94,x95,rfl,h.sameC 32 _ HV rfl⟩
  · obtain rfl:=h.con 30 (hw _ rfl ⟨30,.data⟩ (by simp) rfl) HV rfl rfl
    obtain rfl:=h.con 32 (hw _ rfl ⟨32,.data⟩ (by simp) rfl) HV rfl rfl
    refine wpOp_step rfl fun K hK=>?_
    go_simp
    exact hK _ _ ⟨x51,x52,x53,x54,x55,x56,x57,x58,x59,x60,x61,x62,x63,x64,x65,x66,x67,x68,x69,x70,x71,x72,x73,x74,x75,x76,x77,x78,x79,x80,_,x82,_,_,x85,x86,x87,x88,x89,x90,x91,x92,x93,x94,x95,rfl,h.sameC 33 _ HV rfl⟩
  · obtain rfl:=h.con 33 (hw _ rfl ⟨33,.data⟩ (by simp) rfl) HV rfl rfl
    refine wpOp_step rfl fun K hK=>?_
    go_simp
    exact hK _ _ ⟨x51,x52,x53,x54,x55,x56,x57,x58,x59,x60,x61,x62,x63,x64,x65,x66,x67,x68,x69,x70,x71,x72,x73,x74,x75,x76,x77,x78,x79,x80,x81,x82,x83,_,_,x86,x87,x88,x89,x90,x91,x92,x93,x94,x95,rfl,h.sameC 34 _ HV rfl⟩
  · obtain rfl:=h.con 34 (hw _ rfl ⟨34,.guard⟩ (by simp) rfl) HV rfl rfl
    obtain ⟨⟨q0,q1,q2,q3⟩,r0,r1,r2,r3,r4,r5,r6,r7,r8⟩:=HC.out w' h.1
    refine wpOp_step rfl fun K hK=>?_
    go_simp
    exact hK _ _ ⟨x51,x52,x53,x54,x55,x56,x57,x58,x59,x60,x61,x62,x63,x64,x65,x66,x67,x68,x69,x70,x71,x72,x73,x74,x75,x76,x77,x78,x79,x80,x81,x82,x83,x84,_,_,x87,x88,x89,x90,x91,x92,x93,x94,x95,rfl,h.sameC 35 _ HV rfl⟩
  · obtain rfl:=h.con 34 (hw _ rfl ⟨34,.chain⟩ (by simp) rfl) HV rfl rfl
    obtain ⟨⟨q0,q1,q2,q3⟩,r0,r1,r2,r3,r4,r5,r6,r7,r8⟩:=HC.out w' h.1
    refine wpOp_step rfl fun K hK=>?_
    go_simp
    refine (awWho22 98 w').mono ?_
    rintro e w2 ⟨y,rfl,hy,hb2⟩
    exact hK _ _ ⟨x51,x52,x53,x54,x55,x56,x57,x58,x59,x60,x61,x62,x63,x64,x65,x66,x67,x68,x69,x70,x71,x72,x73,x74,x75,x76,x77,x78,x79,x80,x81,x82,x83,x84,_,x86,_,x88,x89,x90,x91,x92,x93,x94,x95,rfl,h.did hb2 36 _ (MP.who 98 0) (by rw [HV.out];rfl) hy⟩
  · obtain rfl:=h.con 34 (hw _ rfl ⟨34,.guard⟩ (by simp) rfl) HV rfl rfl
    obtain rfl:=h.con 35 (hw _ rfl ⟨35,.data⟩ (by simp) rfl) HV rfl rfl
    have hs87:=h.get 36 (hw _ rfl ⟨36,.data⟩ (by simp) rfl) (MP.who 98 0) (by rw [HV.out];rfl) _ rfl
    obtain ⟨ga2,rfl,hj3⟩:=hs87
    obtain ⟨⟨q0,q1,q2,q3⟩,r0,r1,r2,r3,r4,r5,r6,r7,r8⟩:=HC.out w' h.1
    refine wpOp_step rfl fun K hK=>?_
    go_simp
    refine (HSA.out w' ga2 h.1 hj3).mono ?_
    rintro e w2 ⟨rfl,hb2⟩
    exact hK _ _ ⟨x51,x52,x53,x54,x55,x56,x57,x58,x59,x60,x61,x62,x63,x64,x65,x66,x67,x68,x69,x70,x71,x72,x73,x74,x75,x76,x77,x78,x79,x80,x81,x82,x83,x84,_,_,_,_,x89,x90,x91,x92,x93,x94,x95,rfl,h.didC hb2 37 _ HV rfl⟩
  · obtain rfl:=h.con 34 (hw _ rfl ⟨34,.data⟩ (by simp) rfl) HV rfl rfl
    obtain rfl:=h.con 37 (hw _ rfl ⟨37,.data⟩ (by simp) rfl) HV rfl rfl
    refine wpOp_step rfl fun K hK=>?_
    go_simp
    exact hK _ _ ⟨x51,x52,x53,x54,x55,x56,x57,x58,x59,x60,x61,x62,x63,x64,x65,x66,x67,x68,x69,x70,x71,x72,x73,x74,x75,x76,x77,x78,x79,x80,x81,x82,x83,x84,_,x86,x87,_,_,x90,x91,x92,x93,x94,x95,rfl,h.sameC 38 _ HV rfl⟩
  · obtain rfl:=h.con 38 (hw _ rfl ⟨38,.data⟩ (by simp) rfl) HV rfl rfl
    refine wpOp_step rfl fun K hK=>?_
    go_simp
    exact hK _ _ ⟨x51,x52,x53,x54,x55,x56,x57,x58,x59,x60,x61,x62,x63,x64,x65,x66,x67,x68,x69,x70,x71,x72,x73,x74,x75,x76,x77,x78,x79,x80,x81,x82,x83,x84,x85,x86,x87,x88,_,_,x91,x92,x93,x94,x95,rfl,h.sameC 39 _ HV rfl⟩
  · obtain rfl:=h.con 39 (hw _ rfl ⟨39,.guard⟩ (by simp) rfl) HV rfl rfl
    refine wpOp_step rfl fun K hK=>?_
    go_simp
    exact hK _ _ ⟨x51,x52,x53,x54,x55,x56,x57,x58,x59,x60,x61,x62,x63,x64,x65,x66,x67,x68,x69,x70,x71,x72,x73,x74,x75,x76,x77,x78,x79,x80,x81,x82,x83,x84,x85,x86,x87,x88,x89,_,_,x92,x93,x94,x95,rfl,h.sameC 40 _ HV rfl⟩
  · obtain rfl:=h.con 39 (hw _ rfl ⟨39,.guard⟩ (by simp) rfl) HV rfl rfl
    obtain rfl:=h.con 40 (hw _ rfl ⟨40,.data⟩ (by simp) rfl) HV rfl rfl
    obtain ⟨⟨q0,q1,q2,q3⟩,r0,r1,r2,r3,r4,r5,r6,r7,r8⟩:=HC.out w' h.1
    refine wpOp_step rfl fun K hK=>?_
    go_simp
    exact hK _ _ ⟨x51,x52,x53,x54,x55,x56,x57,x58,x59,x60,x61,x62,x63,x64,x65,x66,x67,x68,x69,x70,x71,x72,x73,x74,x75,x76,x77,x78,x79,x80,x81,x82,x83,x84,x85,x86,x87,x88,x89,_,_,_,x93,x94,x95,rfl,h.sameC 41 _ HV rfl⟩
  · obtain rfl:=h.con 39 (hw _ rfl ⟨39,.guard⟩ (by simp) rfl) HV rfl rfl
    obtain rfl:=h.con 41 (hw _ rfl ⟨41,.data⟩ (by simp) rfl) HV rfl rfl
    refine wpOp_step rfl fun K hK=>?_
    go_simp
    exact hK _ _ ⟨x51,x52,x53,x54,x55,x56,x57,x58,x59,x60,x61,x62,x63,x64,x65,x66,x67,x68,x69,x70,x71,x72,x73,x74,x75,x76,x77,x78,x79,x80,x81,x82,x83,x84,x85,x86,x87,x88,x89,_,x91,_,_,x94,x95,rfl,h.sameC 42 _ HV rfl⟩
  · obtain rfl:=h.con 39 (hw _ rfl ⟨39,.guard⟩ (by simp) rfl) HV rfl rfl
    obtain rfl:=h.con 42 (hw _ rfl ⟨42,.data⟩ (by simp) rfl) HV rfl rfl
    refine wpOp_step rfl fun K hK=>?_
    go_simp
    exact hK _ _ ⟨x51,x52,x53,x54,x55,x56,x57,x58,x59,x60,x61,x62,x63,x64,x65,x66,x67,x68,x69,x70,x71,x72,x73,x74,x75,x76,x77,x78,x79,x80,x81,x82,x83,x84,x85,x86,x87,x88,x89,_,x91,x92,_,_,x95,rfl,h.sameC 43 _ HV rfl⟩
  · obtain rfl:=h.con 39 (hw _ rfl ⟨39,.data⟩ (by simp) rfl) HV rfl rfl
    obtain rfl:=h.con 43 (hw _ rfl ⟨43,.data⟩ (by simp) rfl) HV rfl rfl
    refine wpOp_step rfl fun K hK=>?_
    go_simp
    exact hK _ _ ⟨x51,x52,x53,x54,x55,x56,x57,x58,x59,x60,x61,x62,x63,x64,x65,x66,x67,x68,x69,x70,x71,x72,x73,x74,x75,x76,x77,x78,x79,x80,x81,x82,x83,x84,x85,x86,x87,x88,x89,_,x91,x92,x93,_,_,rfl,h.sameC 44 _ HV rfl⟩
  · omega
 case last =>
  rintro d a' w' hall ⟨x51,x52,x53,x54,x55,x56,x57,x58,x59,x60,x61,x62,x63,x64,x65,x66,x67,x68,x69,x70,x71,x72,x73,x74,x75,x76,x77,x78,x79,x80,x81,x82,x83,x84,x85,x86,x87,x88,x89,x90,x91,x92,x93,x94,x95,rfl,h⟩
  have hle:=h.1
  obtain rfl:=h.con 44 (hall _ (by omega)) HV rfl rfl
  have HLE:=Lh hle
  clear h hall hle HV
  have hb:=HLE.out
  have HBF:=Lh (HB.out.trans (hb.mono HB.out.size))
  clear hb
  go_wp2
  go_ret
  exact ⟨rfl,HBF.out⟩
end Go.Proofs.YtnlgmcapbbgelaaGreatDoor

namespace Go.Proofs.YtnlgmcapbbgelaaGreatDoor
open Go.RowKit
def OwnObj (n:Nat) (er:List Value) (J:JV) (w:World) (e:Ending) (w':World):Prop:=∃an cn ai ci,e=.returned (.tuple (#[.agg #[.int .u8 5,.int .i64 0,.string ⟨#[]⟩,.slice an n cn,.slice ai n ci]] ++ er.toArray))∧Rep w' w.heap.size w'.heap.size J (.agg #[.int .u8 5,.int .i64 0,.string ⟨#[]⟩,.slice an n cn,.slice ai n ci])∧Below w.heap.size w w'
theorem getRoles (r:RootV) (x:Value) (w:World) (lo:Nat) (hlo:0<lo) (hm:mayRoot r=true) (hR:Rep w lo w.heap.size (rootJ r) x):Calls Tryz.prog 28 #[x,.string ⟨#[114,111,108,101,115]⟩] w (OwnObj 3 [.bool true] (rolesJ r.au) w):=by
 refine (valueGet (rootJ r) rolN x w lo w.heap.size (Nat.le_trans (rootJ_wt hm) (by decide)) hlo lz hR rfl root_names.1 rfl).mono ?_
 rintro e w' ⟨h|h,hb⟩
 · obtain ⟨q,h1,h2,h3,gn,gc,gi,gd,h4,h5⟩:=h
   have hr:q=3:=rises_neq (rootJ r).names root_names.1 q 3 h1 (show 3<5 by decide) h3
   subst hr
   exact ⟨gn,gc,gi,gd,h4,h5,hb⟩
 · exact absurd rfl (h.1 3 (show 3<5 by decide))
theorem withOwn (v:JV) (y:ByteArray) (x:JV) (xv xx:Value) (w:World) (lo lx:Nat) (q:Nat) (hlo:0<lo) (hlx:0<lx) (hwv:v.wt≤2000000000) (hwx:x.wt≤2000000000) (hk:v.kind=5) (hn0:v.n=0) (ht0:v.t=⟨#[]⟩) (hlen:v.names.length=v.items.length) (hr:rises v.names=true) (hq:q<v.names.length) (hy:v.names[q]=y)
 (hV:Rep w lo w.heap.size v xv) (hX:Rep w lx w.heap.size x xx):Calls Tryz.prog 29 #[xv,.string y,xx] w (fun e w'=>∃an cn ai ci,e=.returned (.tuple #[.agg #[.int .u8 5,.int .i64 0,.string ⟨#[]⟩,.slice an (withN v q true y).length cn,.slice ai (withI v q true x).length ci],.int .i64 0]) ∧
 Rep w' w.heap.size w'.heap.size (withJ v q true y x) (.agg #[.int .u8 5,.int .i64 0,.string ⟨#[]⟩,.slice an (withN v q true y).length cn,.slice ai (withI v q true x).length ci])∧Below w.heap.size w w'):=by
 refine (valueWithC (fun u=>u=x) lx lo v y x xv xx w hwv hwx hk hn0 ht0 hlen hr (own_copies hwv hlo) hV hX (copyTo_ex (copyEx_own lx x (Nat.le_trans hwx (by decide)) hlx))).mono ?_
 rintro e w' ⟨r,f,x',an,cn,ai,ci,h1,h2,h3,h4,h5,h6,h7,h8,h9⟩
 subst h6
 have hf:f=true:=by
  cases f with
  | true=>rfl
  | false=>exact absurd hy (h5 rfl q hq)
 subst hf
 obtain ⟨h10,h11⟩:=h4 rfl
 have hr:r=q:=rises_neq v.names hr r q h10 hq (h11.trans hy.symm)
 subst hr
 exact ⟨an,cn,ai,ci,h7,h8,h9⟩
def OutPost (v:JV) (y:ByteArray) (w:World) (e:Ending) (w':World):Prop :=
 ∃(an:Option Addr) (cn:Nat) (ai:Option Addr) (ci:Nat),e=.returned (.tuple #[.agg #[.int .u8 5,.int .i64 0,.string ⟨#[]⟩,.slice an (outN v y v.names.length).length cn,.slice ai (outI v y v.names.length).length ci],.bool true]) ∧
  Rep w' w.heap.size w'.heap.size (outJ v y) (.agg #[.int .u8 5,.int .i64 0,.string ⟨#[]⟩,.slice an (outN v y v.names.length).length cn,.slice ai (outI v y v.names.length).length ci])∧Below w.heap.size w w'
set_option maxHeartbeats 4000000 in
set_option maxRecDepth 100000 in
theorem valueWithoutE (lo:Nat) (v:JV) (y:ByteArray) (xv:Value) (w:World) (hwv:v.wt≤2000000000) (hk:v.kind=5) (hn0:v.n=0) (ht0:v.t=⟨#[]⟩) (hlen:v.names.length=v.items.length)
 (hr:rises v.names=true) (hfl:∀it ∈ v.items,CopyEx lo it) (hy:y ∈ v.names) (hV:Rep w lo w.heap.size v xv) :
 Calls Tryz.prog 32 #[xv,.string y] w (OutPost v y w):=by
 obtain ⟨an,cn,ai,ci,rfl,-,-,h3,h4⟩:=hV.parts
 obtain ⟨b1,b2,b3,b4⟩:=v.wt_bd
 obtain ⟨nn,hnn⟩:∃nn,nn=v.names.length:=⟨_,rfl⟩
 rw [hk,hn0,ht0,← hlen,← hnn]
 have HNN:=Lh hnn
 have HNI:=Lh (show v.items.length=nn by rw [hnn,hlen])
 have hnb9:nn≤2000000000:=by rw [hnn];omega
 have HRI0:=Lh hr
 have HFLA:=Lh hfl
 have HY:=Lh hy
 obtain ⟨W0,hW0⟩:∃W0,W0=(w.alloc (.cells #[.int .u8 5,.int .i64 0,.string ⟨#[]⟩,.slice an nn cn,.slice ai nn ci] 25)).alloc (.cells #[.int .u8 0,.int .i64 0,.string ⟨#[]⟩,.slice none 0 0,.slice none 0 0] 25):=⟨_,rfl⟩
 have hz0:W0.heap.size=w.heap.size+2:=by rw [hW0];simp
 have HB0:=Lh (show Below w.heap.size w W0 by rw [hW0];exact ((Below.refl _ _).alloc lz _).alloc (by simp) _)
 have HXV:=Lh (show W0.heap[w.heap.size]?=some (.cells #[.int .u8 5,.int .i64 0,.string ⟨#[]⟩,.slice an nn cn,.slice ai nn ci] 25 (0,0)) by rw [hW0];exact heap_old _ _ _)
 have HRS0:=Lh (show W0.rowIs (w.heap.size+1) 25 5 (pick5 (.int .u8 0) (.int .i64 0) (.string ⟨#[]⟩) (.slice none 0 0) (.slice none 0 0)) by
  rw [hW0]
  have:=rowIs_box5 (w.alloc (.cells #[.int .u8 5,.int .i64 0,.string ⟨#[]⟩,.slice an nn cn,.slice ai nn ci] 25)) (.int .u8 0) (.int .i64 0) (.string ⟨#[]⟩) (.slice none 0 0) (.slice none 0 0) 25
  rwa [show (w.alloc (.cells #[.int .u8 5,.int .i64 0,.string ⟨#[]⟩,.slice an nn cn,.slice ai nn ci] 25)).heap.size=w.heap.size+1 by simp] at this)
 have HS:=Lh (h3.below HB0.out lz (Nat.zero_le _) HB0.out.size)
 have HI:=Lh (h4.below HB0.out lz lz HB0.out.size)
 have HFI:=Lh (valueFind v.names y an cn W0 HS.out (by omega) hr)
 rw [← hnn] at HFI
 unfold FindPost at HFI
 have HW0:=Lh hW0
 have HZ0:=Lh hz0
 clear h3 h4 hV hW0 hz0 hr hfl hnn hlen hk hn0 ht0 b2 b3 hy
 obtain ⟨i1,hi1,hy0,hy1,hy2⟩:=info_parts infoValue
 obtain ⟨i2,hi2,hx0,hx1,hx2⟩:=info_parts infoStr
 go_enter Tryz.func32,Tryz.ntmps32
 go_wp2_with fail
 rw [← HW0.out]
 refine HFI.out.mono ?_
 clear HFI HW0
 rintro e wc ⟨r,f,rfl,hrl,hq1,hq2,hq3,hq4,hb2⟩
 have hft:f=true:=by
  cases f
  · obtain ⟨j,hj,e⟩:=List.getElem_of_mem HY.out
    exact absurd e (hq4 rfl j hj)
  · rfl
 subst hft
 have HB2:=Lh hb2
 clear hq1 hq2 hq3 hq4 hb2 hrl HY
 obtain ⟨c0,c1,c2,c3,c4⟩:=kcells5 HXV.out HB2.out
 have c3':(wc.alloc (.cells #[.int .u8 5,.int .i64 0,.string ⟨#[]⟩,.slice none 0 0,.slice none 0 0] 25)).cell? ⟨w.heap.size,3,none⟩=some (.slice an nn cn):=(cell_alloc_lt _ (by have:=HB2.out.size;have:=HZ0.out;show w.heap.size<_;omega)).trans c3
 go_wp2_with fail
 clear c0 c1 c2 c3 c4 c3'
 have HO:=Lh (show ObjAt (wc.alloc (.cells #[.int .u8 5,.int .i64 0,.string ⟨#[]⟩,.slice none 0 0,.slice none 0 0] 25)) (wc.alloc (.cells #[.int .u8 5,.int .i64 0,.string ⟨#[]⟩,.slice none 0 0,.slice none 0 0] 25)) wc.heap.size 25 9 25 (.slice none 0 0) (.slice none 0 0) [] [] [] from
  ⟨by simp,Touch.refl _ _,rowIs_box5 _ _ _ _ _ _ _,World.ownsRow_nil _ _ _ _,World.ownsRow_nil _ _ _ _,RepRow.nil _ _ _,fun b hb=>by simp [Value.ownBlock] at hb⟩)
 have HBW:=Lh (show Below W0.heap.size W0 (wc.alloc (.cells #[.int .u8 5,.int .i64 0,.string ⟨#[]⟩,.slice none 0 0,.slice none 0 0] 25)) from below_now HB2.out)
 have hcb0:W0.heap.size≤wc.heap.size:=HB2.out.size
 clear HB2
 generalize (wc.alloc (.cells #[.int .u8 5,.int .i64 0,.string ⟨#[]⟩,.slice none 0 0,.slice none 0 0] 25))=W at HO HBW ⊢
 generalize wc.heap.size=cb at HO hcb0 ⊢
 have HBT:=Lh (show ∀w',Touch (· = cb) W w'→Below W0.heap.size W0 w' from fun w' h=>HBW.out.trans (h.below HBW.out.size fun j hj e=>by omega))
 go_loopw [9,10,46] (fun _ _ i wr=>∃(k:Nat) (cs:List Value) (vn vi:Value),k≤nn∧i=.int .i64 k∧ObjAt W wr cb 25 9 25 vn vi (outN v y k) (outI v y k) cs) (fun _ _ i _=>nn - (intOf i).toNat)
 case atStart=>exact ⟨0,[],.slice none 0 0,.slice none 0 0,by omega,rfl,HO.out⟩
 case round =>
  obtain ⟨k,cs,vn,vi,hkr,rfl,hobj⟩:=hrel
  have HOB:=Lh hobj
  clear hobj
  by_cases hlt:k<nn
  · have hkn9:k<v.names.length:=by rw [← HNN.out];omega
    have hki9:k<v.items.length:=by rw [HNI.out];omega
    have hol1:=outN_len v y k
    have hol2:=outI_len v y k
    have HBR:=Lh (HBT.out wr HOB.out.touch)
    obtain ⟨pb,pf,ha,_,hpb,y1⟩:=(HS.out.below HBR.out lz lz lz).at k hkn9
    subst ha
    have HSTP:=Lh (outP_step v y k hkn9 hki9)
    obtain ⟨nk,hnk⟩:∃nk,nk=v.names[k]:=⟨_,rfl⟩
    replace y1:=y1.trans (congrArg (fun z=>some (Value.string z)) hnk.symm)
    rw [← hnk] at HSTP
    have HNK:=Lh hnk
    clear hnk
    have j0:(0:Int)≤(k:Int):=by omega
    have j1:(k:Int)<(nn:Int):=by omega
    cases hne:(nk.toList != y.toList)
    · have HST:=Lh (show outP v y (k+1)=outP v y k by rw [HSTP.out,hne];simp)
      have hne2:(nk.toList == y.toList)=true:=by simpa [bne] using hne
      go_wp2
      go_roundw
      case rel =>
       have HF:=HOB.out
       unfold outN outI at HF
       rw [← HST.out] at HF
       exact ⟨k+1,_,_,_,by omega,by go_num,HF⟩
      case measure=>simp [intOf];omega
    · have hne2:(nk.toList == y.toList)=false:=by simpa [bne] using hne
      have HNE:=Lh hne
      have c3o:wr.cell? ⟨cb,3,none⟩=some vn:=HOB.out.row.cell (by decide)
      have f3o:wr.frozen? ⟨cb,3,none⟩=false:=HOB.out.row.frozen 3
      obtain ⟨kn,hkn⟩:∃kn,kn=(outN v y k).length:=⟨_,rfl⟩
      have HKN:=Lh hkn
      have hkb:kn≤2000000001:=by rw [hkn];(try simp);omega
      have HNA:=Lh (show wr.ownsRow W.heap.size 9 1 vn kn ((outN v y k).map .string) by rw [hkn];exact HOB.out.names)
      have hcwr:cb<wr.heap.size:=HOB.out.row.lt
      have hcne:¬cb=wr.heap.size:=by omega
      have hzwr:W.heap.size≤wr.heap.size:=HOB.out.touch.size
      have hnb:some cb≠vn.ownBlock:=fun e=>by have:=(HOB.out.names.lt _ e.symm).1;have:=HOB.out.lt;omega
      clear hkn
      go_wp2_with (at_builtin;refine wpList_append_lies _ (by rfl) (.tmp 55) (.tmp 57) 22 (by rfl) W.heap.size 9 i2 _ 1 16 Tryz.underlying22 hi2 hx0 hx1 hx2 rfl (by decide) vn kn ((outN v y k).map .string) (by rfl) (by exact HNA.out.alloc _) _ 1 1 [.string nk] (by rfl) (by rfl) (by exact World.news_of_block (cs:=#[.string nk]) (t:=9) (fr:=(0,0)) (heap_alloc_new _ _)) (by simp [Value.oneCell']) (by omega) (by unfold maxLen;omega) (by omega) (by simp;omega) _ rfl ?_;intro g1 cap2 w6 hown6 hgrow6 hat6 hlt6;have HBN:=Lh (below_grow wr hgrow6 (by first|exact (Below.refl _ _).drew.alloc lz _|exact ((Below.refl _ _).alloc lz _).drew|exact (Below.refl _ _).alloc lz _));have c36:=grow_cellB hgrow6 HBN.out hcwr hnb c3o;have f36:=grow_frozenB hgrow6 HBN.out hcwr hnb f3o;have HO6:=Lh hown6;have HG6:=Lh hgrow6;have HA6:=Lh hat6;clear hown6 hgrow6 hat6)
      have HO7:=Lh (show ObjAt W (w6.setCell ⟨cb,3,none⟩ (.slice (some ⟨g1,0,none⟩) (kn+1) cap2)) cb 25 9 25 (.slice (some ⟨g1,0,none⟩) (kn+1) cap2) vi (outN v y k ++ [nk]) (outI v y k) cs by
       have:=(HOB.out.below HBN.out).name nk (g:=g1) (cap:=cap2) HG6.out (by rcases HA6.out with h|h;exact .inl h;exact .inr (by have:=HBN.out.size;omega)) (by rw [← HKN.out];exact HO6.out)
       rwa [← HKN.out] at this)
      clear HO6 HG6 HA6 HNA HBN c3o f3o hnb hcwr hcne hzwr hlt6 HOB
      generalize (w6.setCell ⟨cb,3,none⟩ (.slice (some ⟨g1,0,none⟩) (kn+1) cap2))=w7 at HO7 ⊢
      generalize (Value.slice (some ⟨g1,0,none⟩) (kn+1) cap2)=vn7 at HO7 ⊢
      clear y1 HBR
      have HBR:=Lh (HBT.out w7 HO7.out.touch)
      obtain ⟨ib,io,ian,icn,iai,ici,hia,_,hib,y0,y1,y2,y3,y4,hri⟩:=(HI.out.below HBR.out lz lz lz).get k hki9
      subst hia
      have hfk:=HFLA.out v.items[k] (List.getElem_mem hki9)
      have hwk:=JV.wts_get v.items k hki9
      have hit:∃it,it=v.items[k]:=⟨_,rfl⟩
      obtain ⟨it,hit⟩:=hit
      rw [← hit] at y0 y1 y2 y3 y4 hri hfk hwk HSTP
      have HFL:=Lh hfk
      have HRI:=Lh (Rep.carry lz HBR.out.size (fun _ _ _=>rfl) _ _ hri)
      clear hit hfk hri
      obtain ⟨c0,c1,c2,c3,c4⟩:=kcells5 HXV.out HBR.out
      have hpz:ib<w7.heap.size:=by have:=HBR.out.size;omega
      have hwz:w.heap.size<w7.heap.size:=by have:=HBR.out.size;have:=HZ0.out;omega
      clear c0 c1 c2 c3
      have c4o:w7.cell? ⟨cb,4,none⟩=some vi:=HO7.out.row.cell (by decide)
      have f4o:w7.frozen? ⟨cb,4,none⟩=false:=HO7.out.row.frozen 4
      obtain ⟨ki,hki⟩:∃ki,ki=(outI v y k).length:=⟨_,rfl⟩
      have HKI:=Lh hki
      have hkib:ki≤2000000001:=by rw [hki];(try simp);omega
      have HI7:=Lh (show w7.ownsRow W.heap.size 25 5 vi ki cs by rw [hki];exact HO7.out.items)
      have hcz7:cb<w7.heap.size:=HO7.out.row.lt
      have hz7:W.heap.size≤w7.heap.size:=HO7.out.touch.size
      have hnb:some cb≠vi.ownBlock:=fun e=>by have:=(HO7.out.items.lt _ e.symm).1;have:=HO7.out.lt;omega
      have HCI:=Lh (show Calls Tryz.prog 73 #[.agg #[.int .u8 it.kind,.int .i64 it.n,.string it.t,.slice ian it.names.length icn,.slice iai it.items.length ici]] w7.drew (fun e w3=>∃an3 cn3 ai3 ci3,e=.returned (.agg #[.int .u8 it.kind,.int .i64 it.n,.string it.t,.slice an3 it.names.length cn3,.slice ai3 it.items.length ci3])∧Rep w3 w7.heap.size w3.heap.size it (.agg #[.int .u8 it.kind,.int .i64 it.n,.string it.t,.slice an3 it.names.length cn3,.slice ai3 it.items.length ci3])∧Below w7.heap.size w7 w3∧w7.heap.size≤w3.heap.size∧w3.cell? ⟨cb,4,none⟩=some vi∧w3.frozen? ⟨cb,4,none⟩=false∧w3.ownsRow W.heap.size 25 5 vi ki cs) by
       refine (HFL.out _ w7.drew w7.heap.size lz (show Rep w7.drew lo w7.heap.size it _ from Rep.carry (w:=w7) (w':=w7.drew) lz lz (fun _ _ _=>rfl) _ _ HRI.out)).mono ?_
       rintro e w3 ⟨an3,cn3,ai3,ci3,rfl,hr3,hb3⟩
       have hb4:Below w7.heap.size w7 w3:=(Below.refl _ _).drew.trans hb3
       exact ⟨an3,cn3,ai3,ci3,rfl,hr3,hb4,hb4.size,by rw [hb4.cell hcz7];exact c4o,by rw [hb4.frozen hcz7];exact f4o,owns_below HI7.out hb4⟩)
      clear hki
      go_wp2_with fail
      go_region_law (first|(refine step_append_lies _ (by rfl) (.tmp 61) (.tmp 68) 23 (by rfl) W.heap.size 25 i1 _ 5 80 Tryz.underlying23 hi1 hy0 hy1 hy2 rfl (by omega) vi ki cs (by rfl) (HO3.out.alloc _) ⟨w3.heap.size,0,none⟩ 1 1 (Array.toList #[.int .u8 it.kind,.int .i64 it.n,.string it.t,.slice an3 it.names.length cn3,.slice ai3 it.items.length ci3]) (by rfl) (by rfl) (World.news_of_block (cs:=#[.int .u8 it.kind,.int .i64 it.n,.string it.t,.slice an3 it.names.length cn3,.slice ai3 it.items.length ci3]) (t:=25) (fr:=(0,0)) (heap_alloc_new w3 _)) (by simp [Value.oneCell']) (by omega) (by unfold maxLen;omega) (by omega) (by simp;omega) (w3.heap.size+1) (by simp) ?_;intro g2 cap3 w4 hown4 hgrow4 hat4 hlt4;have c44:=grow_cell hgrow4 hcz3 hnb c43;have f44:=grow_frozen hgrow4 hcz3 hnb f43;have HO4:=Lh hown4;have HG4:=Lh hgrow4;have HA4:=Lh hat4;clear hown4 hgrow4 hat4)|(go_simp;go_at_call 73;(with_reducible refine HCI.out.mono ?_);rintro e w3 ⟨an3,cn3,ai3,ci3,rfl,hr3,hb3,hz3,c43,f43,ho3⟩;have hcz3:cb<w3.heap.size:=Nat.lt_of_lt_of_le hcz7 hz3;have HO3:=Lh ho3;have HR3':=Lh hr3;have HB3':=Lh hb3;clear ho3 hr3 hb3))
      all_goals
       have HST:=Lh (show ObjAt W (w4.setCell ⟨cb,4,none⟩ (.slice (some ⟨g2,0,none⟩) (ki+1) cap3)) cb 25 9 25 vn7 (.slice (some ⟨g2,0,none⟩) (ki+1) cap3) (outN v y k ++ [nk]) (outI v y k ++ [it]) _ by
        have:=HO7.out.item (it:=it) (lo:=w7.heap.size) (hi:=w3.heap.size) (g:=g2) (cap:=cap3) (HB3'.out.trans ((Below.refl _ _).alloc hz3 _)) lz (by simp) (HR3'.out.carry lz lz fun b _ hb=>Below.heap_alloc _ _ _ hb) HG4.out (by rcases HA4.out with h|h;exact .inl h;exact .inr (by simp;omega)) (by rw [← HKI.out];exact HO4.out)
        rw [← HKI.out] at this
        exact this)
       clear HO7 HB3' HR3' HG4 HA4 HO4 HO3 HCI HI7
       clear y0 y1 y2 y3 y4 c4
       go_wp2
       go_roundw
       case rel =>
        have e0:outP v y (k+1)=outP v y k ++ [(nk,it)]:=by rw [HSTP.out,HNE.out];simp
        have e1:outN v y (k+1)=outN v y k ++ [nk]:=by unfold outN;rw [e0,List.map_append];rfl
        have e2:outI v y (k+1)=outI v y k ++ [it]:=by unfold outI;rw [e0,List.map_append];rfl
        have HF:=HST.out
        rw [← e1,← e2] at HF
        exact ⟨k+1,_,_,_,by omega,by go_num,HF⟩
       case measure=>simp [intOf];omega
  · obtain rfl:k=nn:=by omega
    obtain ⟨an',cn',ai',ci',rfl,rfl,hrep⟩:=HOB.out.done
    have HRP:=Lh hrep
    have hrow:=HOB.out.row
    have HBE:=Lh (HBT.out wr HOB.out.touch)
    have hres:=below_row HBE.out HRS0.out (by have:=HZ0.out;omega)
    have hcw:=HOB.out.lt
    have hz:=HOB.out.touch.size
    have hwz:w.heap.size+2≤wr.heap.size:=by have:=HBE.out.size;have:=HZ0.out;omega
    obtain ⟨nl,hnl⟩:∃nl,nl=(outN v y k).length:=⟨_,rfl⟩
    obtain ⟨il,hil⟩:∃il,il=(outI v y k).length:=⟨_,rfl⟩
    rw [← hnl,← hil] at hrow HRP
    have HNL:=Lh hnl
    have HIL:=Lh hil
    have r0':=hrow.cell (i:=0) (by decide);have r1:=hrow.cell (i:=1) (by decide);have r2:=hrow.cell (i:=2) (by decide);have r3:=hrow.cell (i:=3) (by decide);have r4:=hrow.cell (i:=4) (by decide)
    have t0:=hres.cell (i:=0) (by decide);have t1:=hres.cell (i:=1) (by decide);have t2:=hres.cell (i:=2) (by decide);have t3:=hres.cell (i:=3) (by decide);have t4:=hres.cell (i:=4) (by decide)
    have s0:=hres.frozen 0;have s1:=hres.frozen 1;have s2:=hres.frozen 2;have s3:=hres.frozen 3;have s4:=hres.frozen 4
    simp only [pick5] at r0' r1 r2 r3 r4 t0 t1 t2 t3 t4
    have HRS:=Lh hres
    have HBF:=Lh (HB0.out.trans (HBE.out.mono HB0.out.size))
    clear hrow hres hrep HOB hnl hil
    go_wp2
    refine bodyPost_ret (results_row_tmp Tryz.results32 _ _ (w.heap.size+1) 25 _ (0,0) _ rfl (row5_heap (set5 _ _ _ _ _ HRS.out)) Tryz.underlying25 rfl (by kernel_rfl) _ rfl) rfl ⟨an',cn',ai',ci',?_,?_,below5 _ _ _ _ _ HBF.out (by omega)⟩
    · rw [← HNN.out,← HNL.out,← HIL.out];rfl
    · unfold outJ
      rw [← HNN.out,← HNL.out,← HIL.out]
      exact Rep.carry (by have:=HBW.out.size;have:=HZ0.out;omega) (show wr.heap.size≤_ by simp [World.setCell]) (fun j hj _=>heap5 _ _ _ _ _ (by have:=HBW.out.size;have:=HZ0.out;omega)) _ _ HRP.out
end Go.Proofs.YtnlgmcapbbgelaaGreatDoor
