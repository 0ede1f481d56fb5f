/- The law RootNames: what stands behind its loop. Printed by genrnamesd.py. -/
import Derived.Test.YtnlgmcapbbgelaaGreatDoorRx40
import Derived.Test.YtnlgmcapbbgelaaGreatDoorRx42
import Derived.Test.YtnlgmcapbbgelaaGreatDoorRx43

namespace Go.Proofs.YtnlgmcapbbgelaaGreatDoor
open Go.RowKit Go.Shelf Go.Sort
def nine22:ByteArray:=⟨#[49,57,55,48,45,48,49,45,48,49,84,48,48,58,48,48,58,48,57,90]⟩
theorem lb:xR 9=nine22:=by decide +kernel
theorem xH:RootFits exR:=fe wK
def cF:JV:=fI jW 0 true zK (txtJ zp)
theorem rT:zc cF=(jV,13):=by decide +kernel
theorem rI:cF.wt≤4294967296:=by decide +kernel
def tw (w:World) (e:Ending) (w':World):Prop:=∃an cn ai ci,e=.returned (.tuple #[.agg #[.int .u8 5,.int .i64 0,.string ⟨#[]⟩,.slice an 5 cn,.slice ai 5 ci],.int .i64 0])∧Rep w' w.heap.size w'.heap.size jW (.agg #[.int .u8 5,.int .i64 0,.string ⟨#[]⟩,.slice an 5 cn,.slice ai 5 ci])∧Below w.heap.size w w'
theorem cH (ia ib ic:Option Addr) (w:World) (hI:RootIn w 0 w.heap.size exR none ia ib ic) (hT:Tabs w) (hTW:TabW w) (hP:zo w) (hTP:TopsW w):Calls Tryz.prog 23 #[.agg #[.int .i64 1,.int .i64 9,.slice none 0 0,.int .i64 1,.slice ia 1 1,.int .i64 1,.slice ib 1 1,.int .i64 1,.slice ic 1 1]] w (tw w):=by
 refine (p7 1 9 [] 1 1 1 [qG 97] [qG 98] [qG 99] none ia ib ic 0 1 1 1 w hI xH hT hTW hP hTP).mono ?_
 have e:wG ⟨1,9,[],⟨⟨1,[qG 97]⟩,⟨1,[qG 98]⟩,⟨1,[qG 99]⟩⟩⟩=(jW,0):=by
  unfold wG
  rw [if_pos (show qD ⟨1,9,[],⟨⟨1,[qG 97]⟩,⟨1,[qG 98]⟩,⟨1,[qG 99]⟩⟩⟩=true from wK)];rfl
 rw [e]
 rintro r w' ⟨an,cn,ai,ci,h1,h2,h3⟩
 exact ⟨an,cn,ai,ci,h1,h2,h3⟩
def tW (w:World) (e:Ending) (w':World):Prop:=∃ka kc j1 c1 j2 c2 j3 c3,e=.returned (.tuple #[.agg #[.int .i64 1,.int .i64 9,.slice ka 0 kc,.int .i64 1,.slice j1 1 c1,.int .i64 1,.slice j2 1 c2,.int .i64 1,.slice j3 1 c3],.int .i64 0])∧RootIn w' w.heap.size w'.heap.size exR ka j1 j2 j3∧Below w.heap.size w w'
theorem af (x:Value) (w:World) (lo:Nat) (hlo:0<lo) (hR:Rep w lo w.heap.size jW x) (hT:Tabs w) (hTW:TabW w) (_hP:zo w) (hTP:TopsW w):Calls Tryz.prog 13 #[x] w (tW w):=by
 refine (yb jW x w lo hlo (Nat.le_trans wV (by decide)) hR hT hTW hTP).mono ?_
 rw [rg]
 rintro r w' ⟨ka,kc,j1,c1,j2,c2,j3,c3,h1,h2,h3⟩
 exact ⟨ka,kc,j1,c1,j2,c2,j3,c3,h1,h2,h3⟩
def tg (er:Int) (w:World) (e:Ending) (w':World):Prop:=∃za zb z1 y1 z2 y2 z3 y3,e=.returned (.tuple #[.agg #[.int .i64 0,.int .i64 0,.slice za 0 zb,.int .i64 0,.slice z1 0 y1,.int .i64 0,.slice z2 0 y2,.int .i64 0,.slice z3 0 y3],.int .i64 er])∧Below w.heap.size w w'
theorem sj (v:JV) (er:Int) (x:Value) (w:World) (lo:Nat) (hlo:0<lo) (hw:v.wt≤4294967296) (h0:zc v=(jV,er)) (hR:Rep w lo w.heap.size v x) (hT:Tabs w) (hTW:TabW w) (_hP:zo w) (hTP:TopsW w):Calls Tryz.prog 13 #[x] w (tg er w):=by
 refine (yb v x w lo hlo hw hR hT hTW hTP).mono ?_
 rw [h0]
 rintro r w' ⟨ka,kc,j1,c1,j2,c2,j3,c3,h1,h2,h3⟩
 exact ⟨ka,kc,j1,c1,j2,c2,j3,c3,h1,h3⟩
theorem sk (x:Value) (w:World) (lo:Nat) (hlo:0<lo) (hR:Rep w lo w.heap.size jW x):Calls Tryz.prog 28 #[x,.string ⟨#[101,120,112,105,114,101,115]⟩] w fun e w'=>∃gn gc gi gd,e=.returned (.tuple #[.agg #[.int .u8 3,.int .i64 0,.string ⟨#[49,57,55,48,45,48,49,45,48,49,84,48,48,58,48,48,58,48,57,90]⟩,.slice gn 0 gc,.slice gi 0 gd],.bool true])∧Below w.heap.size w w':=by
 refine (kG jW xz x w lo w.heap.size (Nat.le_trans wV (by decide)) hlo lz hR rfl zZ.1 rfl).mono ?_
 rintro e w' ⟨h|h,hb⟩
 · obtain ⟨r,h1,h2,h3,gn,gc,gi,gd,h4,h5⟩:=h
   have hr:r=1:=pK jW.names zZ.1 r 1 h1 (by decide) h3
   subst hr
   refine ⟨gn,gc,gi,gd,?_,hb⟩
   rw [h4]
   have e1:jW.items[1]=txtJ nine22:=by rw [← lb];rfl
   have e2:∀(J:JV),J=txtJ nine22→(Ending.returned (.tuple #[.agg #[.int .u8 J.kind,.int .i64 J.n,.string J.t,.slice gn J.names.length gc,.slice gi J.items.length gd],.bool true]))=.returned (.tuple #[.agg #[.int .u8 3,.int .i64 0,.string ⟨#[49,57,55,48,45,48,49,45,48,49,84,48,48,58,48,48,58,48,57,90]⟩,.slice gn 0 gc,.slice gi 0 gd],.bool true]):=fun J hJ=>by subst hJ;rfl
   exact e2 _ e1
 · exact absurd rfl (h.1 1 (by decide))
def lf (v:JV) (y:ByteArray) (x:JV) (w:World) (e:Ending) (w':World):Prop :=
 ∃(r:Nat) (f:Bool) (an:Option Addr) (cn:Nat) (ai:Option Addr) (ci:Nat),r≤v.names.length∧(∀t (h:t<v.names.length),t<r→bl v.names[t] y=true)∧(∀t (h:t<v.names.length),r≤t→bl v.names[t] y=false) ∧
  (f=true→∃h:r<v.names.length,v.names[r]=y)∧(f=false→∀t (h:t<v.names.length),v.names[t]≠y) ∧
  e=.returned (.tuple #[.agg #[.int .u8 5,.int .i64 0,.string ⟨#[]⟩,.slice an (gv v r f y).length cn,.slice ai (gw v r f x).length ci],.int .i64 0]) ∧
  Rep w' w.heap.size w'.heap.size (fI v r f y x) (.agg #[.int .u8 5,.int .i64 0,.string ⟨#[]⟩,.slice an (gv v r f y).length cn,.slice ai (gw v r f x).length ci])∧Below w.heap.size w w'
theorem mO (lo:Nat) (hlo:0<lo) (v:JV) (y:ByteArray) (x:JV) (xv xx:Value) (w:World) (hwv:v.wt≤2000000000) (hwx:x.wt≤2000000000) (hk:v.kind=5) (hn0:v.n=0) (ht0:v.t=⟨#[]⟩) (hlen:v.names.length=v.items.length)
 (hr:ql v.names=true) (hxi:x.items=[]) (hV:Rep w lo w.heap.size v xv) (hX:Rep w 0 w.heap.size x xx):Calls Tryz.prog 29 #[xv,.string y,xx] w (lf v y x w):=by
 refine (bH (fun u=>u=x) 0 lo v y x xv xx w hwv hwx hk hn0 ht0 hlen hr (bU hwv hlo) hV hX (fj (uB 0 x (Nat.le_trans hwx (by decide)) hxi))).mono ?_
 rintro e w' ⟨r,f,x',an,cn,ai,ci,h1,h2,h3,h4,h5,h6,h7,h8,h9⟩
 subst h6
 exact ⟨r,f,an,cn,ai,ci,h1,h2,h3,h4,h5,h7,h8,h9⟩
def ah (w:World) (e:Ending) (w':World):Prop:=∃an cn ai ci,e=.returned (.tuple #[.agg #[.int .u8 5,.int .i64 0,.string ⟨#[]⟩,.slice an 5 cn,.slice ai 5 ci],.int .i64 0])∧Rep w' w.heap.size w'.heap.size cF (.agg #[.int .u8 5,.int .i64 0,.string ⟨#[]⟩,.slice an 5 cn,.slice ai 5 ci])∧Below w.heap.size w w'
theorem rO (x:Value) (w:World) (lo:Nat) (hlo:0<lo) (hR:Rep w lo w.heap.size jW x):Calls Tryz.prog 29 #[x,.string ⟨#[95,116,121,112,101]⟩,.agg #[.int .u8 3,.int .i64 0,.string ⟨#[115,110,97,112,115,104,111,116]⟩,.slice none 0 0,.slice none 0 0]] w (ah w):=by
 refine (mO lo hlo jW zK (txtJ zp) x _ w (Nat.le_trans wV (by decide)) (by decide) rfl rfl rfl rfl zZ.1 rfl hR (jX _ _ _ zp)).mono ?_
 rintro e w' ⟨r,f,an,cn,ai,ci,h1,h2,h3,h4,h5,h6,h7,h8⟩
 have hf:f=true:=by
  cases f with
  | true=>rfl
  | false=>exact absurd rfl (h5 rfl 0 (by decide))
 subst hf
 obtain ⟨h9,h10⟩:=h4 rfl
 have hr:r=0:=pK jW.names zZ.1 r 0 h9 (by decide) h10
 subst hr
 exact ⟨an,cn,ai,ci,h6,h7,h8⟩
theorem rE (ka j1 j2 j3:Option Addr) (kc c1 c2 c3:Nat) (w:World) (hI:RootIn w 0 w.heap.size exR ka j1 j2 j3) (hTP:TopsW w):Calls Tryz.prog 30 #[.agg #[.int .i64 1,.int .i64 9,.slice ka 0 kc,.int .i64 1,.slice j1 1 c1,.int .i64 1,.slice j2 1 c2,.int .i64 1,.slice j3 1 c3],.string ⟨#[115,110,97,112,115,104,111,116]⟩] w fun e w'=>∃ja jc,e=.returned (.tuple #[.agg #[.int .i64 1,.slice ja 1 jc],.bool true])∧qk w' w.heap.size w'.heap.size ja [qG 98]∧Below w.heap.size w w':=by
 refine (pI 1 9 [] 1 1 1 [qG 97] [qG 98] [qG 99] ka j1 j2 j3 kc c1 c2 c3 zp w hI xH hTP).mono ?_
 have e:xF ⟨1,9,[],⟨⟨1,[qG 97]⟩,⟨1,[qG 98]⟩,⟨1,[qG 99]⟩⟩⟩ zp=(⟨1,[qG 98]⟩,true):=by
  unfold xF
  rw [if_neg xP.2.2.1,if_pos rfl]
 rw [e]
 rintro r w' ⟨ja,jc,h1,h2,h3⟩
 exact ⟨ja,jc,h1,h2,h3⟩
theorem ac (ka j1 j2 j3:Option Addr) (kc c1 c2 c3:Nat) (w:World) (hI:RootIn w 0 w.heap.size exR ka j1 j2 j3) (hTP:TopsW w):Calls Tryz.prog 30 #[.agg #[.int .i64 1,.int .i64 9,.slice ka 0 kc,.int .i64 1,.slice j1 1 c1,.int .i64 1,.slice j2 1 c2,.int .i64 1,.slice j3 1 c3],.string ⟨#[116,105,109,101,115,116,97,109,112]⟩] w fun e w'=>∃ja jc,e=.returned (.tuple #[.agg #[.int .i64 0,.slice ja 0 jc],.bool false])∧Below w.heap.size w w':=by
 refine (pI 1 9 [] 1 1 1 [qG 97] [qG 98] [qG 99] ka j1 j2 j3 kc c1 c2 c3 sR w hI xH hTP).mono ?_
 have e:xF ⟨1,9,[],⟨⟨1,[qG 97]⟩,⟨1,[qG 98]⟩,⟨1,[qG 99]⟩⟩⟩ sR=(authZ,false):=pj _ (by
  intro h
  rcases List.mem_cons.mp h with h|h
  · exact absurd h (by decide)
  rcases List.mem_cons.mp h with h|h
  · exact absurd h (by decide)
  rcases List.mem_cons.mp h with h|h
  · exact absurd h (by decide)
  cases h)
 rw [e]
 rintro r w' ⟨ja,jc,h1,h2,h3⟩
 exact ⟨ja,jc,h1,h3⟩
def tp (lo:Nat) (w:World) (x:Value):Prop:=∃ia ib ic,x=.agg #[.int .i64 1,.int .i64 9,.slice none 0 0,.int .i64 1,.slice ia 1 1,.int .i64 1,.slice ib 1 1,.int .i64 1,.slice ic 1 1]∧RootIn w lo w.heap.size exR none ia ib ic
def MP.ex (lo:Nat):MP:=⟨tp lo,fun _ _ _ hb ⟨ia,ib,ic,e,hr⟩=>⟨ia,ib,ic,e,hr.below hb lz lz hb.size⟩⟩
def so (c:UInt8) (lo:Nat) (w:World) (x:Value):Prop:=∃ga,x=.agg #[.int .i64 1,.slice ga 1 1]∧qk w lo w.heap.size ga [qG c]
def MP.who (c:UInt8) (lo:Nat):MP:=⟨so c lo,fun _ _ _ hb ⟨ga,e,hr⟩=>⟨ga,e,hr.below hb lz lz hb.size⟩⟩
theorem yf (w:World):Calls Tryz.prog 22 #[] w fun e w'=>∃y,e=.returned y∧tp 0 w' y∧Below w.heap.size w w' :=
 (cG w).mono fun _ _ ⟨ia,ib,ic,h1,h2,h3⟩=>⟨_,h1,⟨ia,ib,ic,rfl,h2.carry (Nat.zero_le _) lz (fun _ _ _=>rfl)⟩,h3⟩
theorem sv (c:UInt8) (w:World):Calls Tryz.prog 16 #[.int .u8 c.toNat] w fun e w'=>∃y,e=.returned y∧so c 0 w' y∧Below w.heap.size w w' :=
 (bJ c w).mono fun _ _ ⟨_,h1,h2,h3⟩=>⟨_,h1,⟨_,rfl,h2.carry (Nat.zero_le _) lz (fun _ _ _=>rfl)⟩,h3⟩
theorem r9 (ka j1 j2 j3 ia ib ic:Option Addr) (kc c1 c2 c3:Nat) (w:World) (hI:RootIn w 0 w.heap.size exR ka j1 j2 j3) (hJ:RootIn w 0 w.heap.size exR none ia ib ic):Calls Tryz.prog 14 #[.agg #[.int .i64 1,.int .i64 9,.slice ka 0 kc,.int .i64 1,.slice j1 1 c1,.int .i64 1,.slice j2 1 c2,.int .i64 1,.slice j3 1 c3],.agg #[.int .i64 1,.int .i64 9,.slice none 0 0,.int .i64 1,.slice ia 1 1,.int .i64 1,.slice ib 1 1,.int .i64 1,.slice ic 1 1]] w fun e w'=>e=.returned (.bool true)∧Below w.heap.size w w':=by
 refine (dE 1 9 [] 1 1 1 [qG 97] [qG 98] [qG 99] ka j1 j2 j3 kc c1 c2 c3 1 9 [] 1 1 1 [qG 97] [qG 98] [qG 99] none ia ib ic 0 1 1 1 w hI hJ xH xH).mono ?_
 rintro e w' ⟨h1,h2⟩
 exact ⟨by rw [h1,pk],h2⟩
theorem lh (ja ga:Option Addr) (jc:Nat) (w:World) (hI:qk w 0 w.heap.size ja [qG 98]) (hJ:qk w 0 w.heap.size ga [qG 98]):Calls Tryz.prog 31 #[.agg #[.int .i64 1,.slice ja 1 jc],.agg #[.int .i64 1,.slice ga 1 1]] w fun e w'=>e=.returned (.bool true)∧Below w.heap.size w w':=by
 refine (vk 1 1 [qG 98] [qG 98] ja ga jc 1 w hI hJ (by decide) (by decide)).mono ?_
 rintro e w' ⟨h1,h2⟩
 exact ⟨by rw [h1,decide_eq_true rfl],h2⟩
theorem qu {w n:World} {b:Nat} {o:Obj} (h:n=w.alloc o) (hb:b=w.heap.size):n.heap[b]?=some o:=by rw [h,hb];exact heap_alloc_new w _
theorem bM {w:World} {b T:Nat} {a0 a1 a2 a3 a4:Value} (h:w.heap[b]?=some (.cells #[a0,a1,a2,a3,a4] T (0,0))):w.cell? ⟨b,0,none⟩=some a0∧w.cell? ⟨b,1,none⟩=some a1∧w.cell? ⟨b,2,none⟩=some a2∧w.cell? ⟨b,3,none⟩=some a3∧w.cell? ⟨b,4,none⟩=some a4:=⟨qq h rfl,qq h rfl,qq h rfl,qq h rfl,qq h rfl⟩
theorem bC {α:Type} (p:α→Bool):∀(l:List α) (r:Nat),r≤l.length→(∀t (h:t<l.length),t<r→p l[t]=true)→(∀t (h:t<l.length),r≤t→p l[t]=false)→l.countP p=r
 | [],r,hr,_,_=>by simp at hr;simp [hr]
 | a :: l,0,_,_,h2=>by
  have h0:=h2 0 (by simp) lz
  have ih:=bC p l 0 (Nat.zero_le _) (fun t _ h=>by omega) (fun t h _=>by have:=h2 (t+1) (by simp;omega) (by omega);simpa using this)
  rw [List.countP_cons_of_neg (by simpa using h0),ih]
 | a :: l,r+1,hr,h1,h2=>by
  have h0:=h1 0 (by simp) (by omega)
  have ih:=bC p l r (by simpa using hr) (fun t h ht=>by have:=h1 (t+1) (by simp;omega) (by omega);simpa using this) (fun t h ht=>by have:=h2 (t+1) (by simp;omega) (by omega);simpa using this)
  rw [List.countP_cons_of_pos (by simpa using h0),ih]
theorem mE:∀p ∈ km,jW.names.countP (fun m=>bl m p.2.2.1)=p.1∧jW.names.any (fun m=>decide (m=p.2.2.1))=p.2.1:=by decide +kernel
theorem lu (p:Nat × Bool × ByteArray × JV × Int) (hp:p ∈ km) (x xx:Value) (w:World) (lo lx:Nat) (hlo:0<lo) (hlx:0<lx) (hR:Rep w lo w.heap.size jW x) (hX:Rep w lx w.heap.size p.2.2.2.1 xx) :
 Calls Tryz.prog 29 #[x,.string p.2.2.1,xx] w fun e w'=>∃an cn ai ci,e=.returned (.tuple #[.agg #[.int .u8 5,.int .i64 0,.string ⟨#[]⟩,.slice an (uW p).names.length cn,.slice ai (uW p).items.length ci],.int .i64 0])∧Rep w' w.heap.size w'.heap.size (uW p) (.agg #[.int .u8 5,.int .i64 0,.string ⟨#[]⟩,.slice an (uW p).names.length cn,.slice ai (uW p).items.length ci])∧Below w.heap.size w w':=by
 have hw:=pM p hp
 refine (bH (fun u=>u=p.2.2.2.1) lx lo jW p.2.2.1 p.2.2.2.1 x xx w (Nat.le_trans wV (by decide)) (Nat.le_trans hw.2 (by decide)) rfl rfl rfl rfl zZ.1 (bU (Nat.le_trans wV (by decide)) hlo) hR hX (fj (bh lx _ (Nat.le_trans hw.2 (by decide)) hlx))).mono ?_
 rintro e w' ⟨r,f,x',an,cn,ai,ci,h1,h2,h3,h4,h5,h6,h7,h8,h9⟩
 obtain ⟨k1,k2⟩:=mE p hp
 have hr:r=p.1:=(bC (fun m=>bl m p.2.2.1) jW.names r h1 h2 h3).symm.trans k1
 have hf:f=p.2.1:=by
  rw [← k2]
  cases f with
  | true =>
   obtain ⟨hh,he⟩:=h4 rfl
   exact (List.any_eq_true.2 ⟨_,List.getElem_mem hh,decide_eq_true he⟩).symm
  | false =>
   refine (List.any_eq_false.2 fun y hy=>?_).symm
   obtain ⟨t,ht,he⟩:=List.getElem_of_mem hy
   have:=h5 rfl t ht
   rw [he] at this
   simpa using this
 subst hr hf h6
 exact ⟨an,cn,ai,ci,h7,h8,h9⟩
set_option maxHeartbeats 4000000 in
set_option maxRecDepth 100000 in
theorem lm (p:Nat × Bool × ByteArray × JV × Int) (hp:p ∈ km) (x:Value) (w:World) (lo:Nat) (hlo:0<lo) (hR:Rep w lo w.heap.size p.2.2.2.1 x) (hT:Tabs w) (hTW:TabW w) (hP:zo w) (hTP:TopsW w) :
 Calls Tryz.prog 21 #[.string p.2.2.1,x] w fun e w'=>e=.returned (.int .i64 p.2.2.2.2)∧Below w.heap.size w w':=by
 obtain ⟨an,cn,ai,ci,rfl,-,-,-,-⟩:=hR.parts
 have HTB:=Lh (show ∀w':World,Below w.heap.size w w'→Tabs w'∧TabW w'∧zo w'∧TopsW w' from fun w' h=>⟨hT.below h,hTW.below h,hP.below h,hTP.below h⟩)
 have HB:=Lh (Below.refl w.heap.size w)
 have HZ0:=Lh (show 0<w.heap.size from Nat.lt_of_le_of_lt (Nat.zero_le _) hTP.lt)
 have HX:=Lh hR
 have HLO:=Lh hlo
 have HWR:=Lh (fun (x xx:Value) (w:World) (lo lx:Nat) h1 h2 h3 h4=>lu p hp x xx w lo lx h1 h2 h3 h4)
 have HWT:=Lh (pM p hp).1
 have HER:=Lh (mG p hp)
 obtain ⟨J,hJ⟩:∃J,J=p.2.2.2.1:=⟨_,rfl⟩
 obtain ⟨K,hK⟩:∃K,K=uW p:=⟨_,rfl⟩
 obtain ⟨nm,hnm⟩:∃nm,nm=p.2.2.1:=⟨_,rfl⟩
 obtain ⟨er,her⟩:∃er,er=p.2.2.2.2:=⟨_,rfl⟩
 rw [← hJ] at HX HWR
 rw [← hJ,← hnm,← her]
 rw [← hK] at HWR HWT HER
 rw [← hnm] at HWR
 rw [← her] at HER
 clear hT hTW hP hTP hR hlo hp hJ hK hnm her
 go_enter Tryz.func21,Tryz.ntmps21
 obtain ⟨bX,hbX⟩:∃bX,bX=w.heap.size:=⟨_,rfl⟩
 obtain ⟨w1,hw1⟩:∃w1,w1=w.alloc (.cells #[.int .u8 J.kind,.int .i64 J.n,.string J.t,.slice an J.names.length cn,.slice ai J.items.length ci] 25):=⟨_,rfl⟩
 have hbx:Below w.heap.size w w1:=by rw [hw1];exact (Below.refl _ _).alloc lz _
 have HXX:=Lh (qu hw1 hbX)
 replace HB:=Lh (HB.out.trans (hbx.mono HB.out.size))
 replace HX:=Lh (HX.out.below hbx lz lz hbx.size)
 have Hw1:=Lh (And.intro hw1 hbX)
 clear hbx hw1 hbX
 go_upto_region 1 with fail
 rw [← Hw1.out.1,← Hw1.out.2]
 clear Hw1
 go_wp2_with fail
 refine (yf w1).mono ?_
 rintro ee w2 ⟨y,rfl,⟨ia,ib,ic,rfl,hI⟩,hb⟩
 replace HB:=Lh (HB.out.trans (hb.mono HB.out.size))
 replace HXX:=Lh ((hb.block _ (qz HXX.out)).trans HXX.out)
 replace HX:=Lh (HX.out.below hb lz lz hb.size)
 have HI:=Lh hI
 clear hI hb
 have HLV:=Lh (show 0<w2.heap.size from Nat.lt_of_lt_of_le HZ0.out HB.out.size)
 go_wp2_with fail
 refine (cH ia ib ic w2 HI.out (HTB.out w2 HB.out).1 (HTB.out w2 HB.out).2.1 (HTB.out w2 HB.out).2.2.1 (HTB.out w2 HB.out).2.2.2).mono ?_
 rintro ee w3 ⟨vn,vc,vi,vd,rfl,hr,hb⟩
 replace HB:=Lh (HB.out.trans (hb.mono HB.out.size))
 replace HXX:=Lh ((hb.block _ (qz HXX.out)).trans HXX.out)
 replace HX:=Lh (HX.out.below hb lz lz hb.size)
 have HV:=Lh hr
 clear hr hb HI
 obtain ⟨bV,hbV⟩:∃bV,bV=w3.heap.size:=⟨_,rfl⟩
 obtain ⟨w4,hw4⟩:∃w4,w4=w3.alloc (.cells #[.int .u8 5,.int .i64 0,.string ⟨#[]⟩,.slice vn 5 vc,.slice vi 5 vd] 25):=⟨_,rfl⟩
 have hbx:Below w3.heap.size w3 w4:=by rw [hw4];exact (Below.refl _ _).alloc lz _
 have HXV:=Lh (qu hw4 hbV)
 replace HB:=Lh (HB.out.trans (hbx.mono HB.out.size))
 replace HXX:=Lh ((hbx.block _ (qz HXX.out)).trans HXX.out)
 replace HX:=Lh (HX.out.below hbx lz lz hbx.size)
 replace HV:=Lh (HV.out.below hbx lz lz hbx.size)
 have Hw4:=Lh (And.intro hw4 hbV)
 clear hbx hw4 hbV
 go_upto_region 2 with fail
 rw [← Hw4.out.1,← Hw4.out.2]
 clear Hw4
 have HLW:=Lh (show 0<w4.heap.size from Nat.lt_of_lt_of_le HZ0.out HB.out.size)
 obtain ⟨xV0,xV1,xV2,xV3,xV4⟩:=bM HXV.out
 obtain ⟨xX0,xX1,xX2,xX3,xX4⟩:=bM HXX.out
 go_wp2_with fail
 refine (HWR.out _ _ w4 w2.heap.size lo HLV.out HLO.out HV.out HX.out).mono ?_
 clear xV0 xV1 xV2 xV3 xV4
 clear xX0 xX1 xX2 xX3 xX4
 rintro ee w5 ⟨wn,wc,wi,wd,rfl,hr,hb⟩
 replace HB:=Lh (HB.out.trans (hb.mono HB.out.size))
 replace HXX:=Lh ((hb.block _ (qz HXX.out)).trans HXX.out)
 replace HXV:=Lh ((hb.block _ (qz HXV.out)).trans HXV.out)
 replace HX:=Lh (HX.out.below hb lz lz hb.size)
 replace HV:=Lh (HV.out.below hb lz lz hb.size)
 have HW:=Lh hr
 clear hr hb HWR
 obtain ⟨bW,hbW⟩:∃bW,bW=w5.heap.size:=⟨_,rfl⟩
 obtain ⟨w6,hw6⟩:∃w6,w6=w5.alloc (.cells #[.int .u8 5,.int .i64 0,.string ⟨#[]⟩,.slice wn K.names.length wc,.slice wi K.items.length wd] 25):=⟨_,rfl⟩
 have hbx:Below w5.heap.size w5 w6:=by rw [hw6];exact (Below.refl _ _).alloc lz _
 have HXW:=Lh (qu hw6 hbW)
 replace HB:=Lh (HB.out.trans (hbx.mono HB.out.size))
 replace HXX:=Lh ((hbx.block _ (qz HXX.out)).trans HXX.out)
 replace HXV:=Lh ((hbx.block _ (qz HXV.out)).trans HXV.out)
 replace HX:=Lh (HX.out.below hbx lz lz hbx.size)
 replace HV:=Lh (HV.out.below hbx lz lz hbx.size)
 replace HW:=Lh (HW.out.below hbx lz lz hbx.size)
 have Hw6:=Lh (And.intro hw6 hbW)
 clear hbx hw6 hbW
 go_upto_region 3 with fail
 rw [← Hw6.out.1,← Hw6.out.2]
 clear Hw6
 have HCO:=Lh (sx K _ w6 w4.heap.size HLW.out HWT.out HW.out (HTB.out w6 HB.out).1 (HTB.out w6 HB.out).2.1 (HTB.out w6 HB.out).2.2.2)
 rw [HER.out] at HCO
 obtain ⟨xW0,xW1,xW2,xW3,xW4⟩:=bM HXW.out
 go_wp2_with fail
 refine (HCO.out).mono ?_
 clear xW0 xW1 xW2 xW3 xW4
 rintro ee w7 ⟨z0,z1,z2,z3,z4,n0,n1,n2,n3,y0,y1,y2,y3,m0,m1,m2,m3,h4,hb⟩
 subst h4
 clear HCO
 replace HB:=Lh (HB.out.trans (hb.mono HB.out.size))
 replace HXX:=Lh ((hb.block _ (qz HXX.out)).trans HXX.out)
 replace HXV:=Lh ((hb.block _ (qz HXV.out)).trans HXV.out)
 replace HXW:=Lh ((hb.block _ (qz HXW.out)).trans HXW.out)
 replace HX:=Lh (HX.out.below hb lz lz hb.size)
 replace HV:=Lh (HV.out.below hb lz lz hb.size)
 replace HW:=Lh (HW.out.below hb lz lz hb.size)
 have HBE:=Lh (HB.out.alloc HB.out.size (.cells #[.int .i64 z0,.int .i64 z1,.slice y0 n0 m0,.int .i64 z2,.slice y1 n1 m1,.int .i64 z3,.slice y2 n2 m2,.int .i64 z4,.slice y3 n3 m3] 32))
 clear hb
 go_wp2
 go_ret
 exact ⟨rfl,HBE.out⟩
end Go.Proofs.YtnlgmcapbbgelaaGreatDoor

namespace Go.Proofs.YtnlgmcapbbgelaaGreatDoor
open Go.RowKit
theorem sw (f:Nat→Value):frR f=⟨((List.range 197).map f).toArray,[]⟩:=by kernel_rfl
theorem nz (xs:Array Value) (h:xs.size=197):(⟨xs,[]⟩:Act)=frR (fun i=>xs.getD i undef):=by
 rw [sw]
 congr 1
 apply Array.ext
 · simp [h]
 · intro i h1 h2
   simp [Array.getD,h1]
set_option maxHeartbeats 16000000 in
set_option maxRecDepth 100000 in
theorem m6 (B:Nat) (W:World) (p:Nat→Nat) (f:Nat→Value) (K:Act→World→Prop) (Q:Exit→Act→World→Prop) (hfix:uG p f) (hB0:0<B) (hT:Tabs W) (hTW:TabW W) (hP:zo W) (hTP:TopsW W)
 (htab:wO B 48 vX W (f 118)) (e119:f 119=.int .i64 18) (e120:f 120=.int .i64 0)
 (hK:∀(f':Nat→Value) (w':World),uG p f'→Below W.heap.size W w'→K (frR f') w') :
 Code.wp Tryz.prog (tu (sF (wq 9 (Tryz.f4.body.getD .skip)))) (Exit.then K Q) (frR f) W:=by
 conv=>arg 2;whnf
 obtain ⟨b,cs,e118,hb,hm,hc⟩:=htab
 replace e118:f 118=.slice (some ⟨b,0,none⟩) 18 18:=e118
 have hfr:frR f=⟨#[f 0,f 1,f 2,f 3,f 4,f 5,f 6,f 7,f 8,f 9,f 10,f 11,f 12,f 13,f 14,f 15,f 16,f 17,f 18,f 19,f 20,f 21,f 22,f 23,f 24,f 25,f 26,f 27,f 28,f 29,f 30,f 31,f 32,f 33,f 34,f 35,f 36,f 37,f 38,f 39,f 40,f 41,f 42,f 43,f 44,f 45,f 46,f 47,f 48,f 49,f 50,f 51,f 52,f 53,f 54,f 55,f 56,f 57,f 58,f 59,f 60,f 61,f 62,f 63,f 64,f 65,f 66,f 67,f 68,f 69,f 70,f 71,f 72,f 73,f 74,f 75,f 76,f 77,f 78,f 79,f 80,f 81,f 82,f 83,f 84,f 85,f 86,f 87,f 88,f 89,f 90,f 91,f 92,f 93,f 94,f 95,f 96,f 97,f 98,f 99,f 100,f 101,f 102,f 103,f 104,f 105,f 106,f 107,f 108,f 109,f 110,f 111,f 112,f 113,f 114,f 115,f 116,f 117,.slice (some ⟨b,0,none⟩) 18 18,.int .i64 18,.int .i64 0,f 121,f 122,f 123,f 124,f 125,f 126,f 127,f 128,f 129,f 130,f 131,f 132,f 133,f 134,f 135,f 136,f 137,f 138,f 139,f 140,f 141,f 142,f 143,f 144,f 145,f 146,f 147,f 148,f 149,f 150,f 151,f 152,f 153,f 154,f 155,f 156,f 157,f 158,f 159,f 160,f 161,f 162,f 163,f 164,f 165,f 166,f 167,f 168,f 169,f 170,f 171,f 172,f 173,f 174,f 175,f 176,f 177,f 178,f 179,f 180,f 181,f 182,f 183,f 184,f 185,f 186,f 187,f 188,f 189,f 190,f 191,f 192,f 193,f 194,f 195,f 196],[]⟩:=by
  have:frR f=⟨#[f 0,f 1,f 2,f 3,f 4,f 5,f 6,f 7,f 8,f 9,f 10,f 11,f 12,f 13,f 14,f 15,f 16,f 17,f 18,f 19,f 20,f 21,f 22,f 23,f 24,f 25,f 26,f 27,f 28,f 29,f 30,f 31,f 32,f 33,f 34,f 35,f 36,f 37,f 38,f 39,f 40,f 41,f 42,f 43,f 44,f 45,f 46,f 47,f 48,f 49,f 50,f 51,f 52,f 53,f 54,f 55,f 56,f 57,f 58,f 59,f 60,f 61,f 62,f 63,f 64,f 65,f 66,f 67,f 68,f 69,f 70,f 71,f 72,f 73,f 74,f 75,f 76,f 77,f 78,f 79,f 80,f 81,f 82,f 83,f 84,f 85,f 86,f 87,f 88,f 89,f 90,f 91,f 92,f 93,f 94,f 95,f 96,f 97,f 98,f 99,f 100,f 101,f 102,f 103,f 104,f 105,f 106,f 107,f 108,f 109,f 110,f 111,f 112,f 113,f 114,f 115,f 116,f 117,f 118,f 119,f 120,f 121,f 122,f 123,f 124,f 125,f 126,f 127,f 128,f 129,f 130,f 131,f 132,f 133,f 134,f 135,f 136,f 137,f 138,f 139,f 140,f 141,f 142,f 143,f 144,f 145,f 146,f 147,f 148,f 149,f 150,f 151,f 152,f 153,f 154,f 155,f 156,f 157,f 158,f 159,f 160,f 161,f 162,f 163,f 164,f 165,f 166,f 167,f 168,f 169,f 170,f 171,f 172,f 173,f 174,f 175,f 176,f 177,f 178,f 179,f 180,f 181,f 182,f 183,f 184,f 185,f 186,f 187,f 188,f 189,f 190,f 191,f 192,f 193,f 194,f 195,f 196],[]⟩:=rfl
  rw [this,e118,e119,e120]
 rw [hfr]
 dsimp only
 have HK:=Lh hK
 have HF:=Lh hfix
 have HM:=Lh hm
 have HC:=Lh hc
 have HT:=Lh (show ∀w',Below W.heap.size W w'→Tabs w'∧TabW w'∧zo w'∧TopsW w' from fun w' h=>⟨hT.below h,hTW.below h,hP.below h,hTP.below h⟩)
 have hbl:=qz hm
 clear hK hfix hm hc hT hTW hP hTP hfr e118 e119 e120
 go_step
 go_loopw [120] (fun i wr=>∃k:Nat,k≤18∧i=.int .i64 k∧Below W.heap.size W wr) (fun i _=>18 - (intOf i).toNat)
 case atStart=>exact ⟨0,by omega,rfl,Below.refl _ _⟩
 case round =>
  obtain ⟨k,hk,rfl,hbw⟩:=hrel
  have HB:=Lh hbw
  clear hbw
  by_cases hlt:k<18
  case pos =>
   have hlt5:(k:Int)<18:=by omega
   have hk0:(0:Int)≤(k:Int):=by omega
   obtain ⟨pr,hpr,hk2,hrow⟩:=rm k hlt
   obtain ⟨k5,⟨c0,c1,c2,c3,c4,q0,q1,q2,q3,q4,hrep⟩,q6⟩:=HC.out k hk2
   have HWI:=Lh (fun (x:Value) (w:World) (lo:Nat) h1 h2 h3 h4 h5 h6=>lm pr hpr x w lo h1 h2 h3 h4 h5 h6)
   rw [hrow] at k5 q6 hrep
   dsimp only at k5 q6 hrep
   generalize pr.2.2.1=nm at k5 HWI
   generalize pr.2.2.2.1=J at hrep HWI
   generalize pr.2.2.2.2=E at q6 HWI
   have hmw:=(HB.out.block _ hbl).trans HM.out
   obtain ⟨an,cn,ai,ci,hce,hrr⟩:=hrep
   simp only [Value.agg.injEq,Array.mk.injEq,List.cons.injEq,and_true] at hce
   obtain ⟨rfl,rfl,rfl,rfl,rfl⟩:=hce
   have y0:=qq hmw k5;have y1:=qq hmw q0;have y2:=qq hmw q1;have y3:=qq hmw q2;have y4:=qq hmw q3;have y5:=qq hmw q4;have y6:=qq hmw q6
   have HRP:=Lh (show ∀w',Below W.heap.size W w'→Rep w' B w'.heap.size J (.agg #[.int .u8 J.kind,.int .i64 J.n,.string J.t,.slice an J.names.length cn,.slice ai J.items.length ci]) from fun w' h=>hrr.below h lz lz h.size)
   clear hrr k5 q0 q1 q2 q3 q4 q6 hmw hrow hpr hk2
   obtain ⟨bx,hbx0⟩:∃bx,bx=wr.heap.size:=⟨_,rfl⟩
   obtain ⟨W2,hW2⟩:∃W2,W2=wr.alloc (.cells #[.string nm,.int .u8 J.kind,.int .i64 J.n,.string J.t,.slice an J.names.length cn,.slice ai J.items.length ci,.int .i64 E] 48):=⟨_,rfl⟩
   have hbx:Below wr.heap.size wr W2:=by rw [hW2];exact (Below.refl _ _).alloc lz _
   have HX:=Lh (show W2.heap[bx]?=some (.cells #[.string nm,.int .u8 J.kind,.int .i64 J.n,.string J.t,.slice an J.names.length cn,.slice ai J.items.length ci,.int .i64 E] 48 (0,0)) by rw [hW2,hbx0];exact heap_alloc_new wr _)
   have HB2:=Lh (HB.out.trans (hbx.mono HB.out.size))
   have HW2:=Lh (And.intro hW2 hbx0)
   clear hW2 hbx hbx0
   go_upto_region 13 with fail
   rw [← HW2.out.1,← HW2.out.2]
   clear HW2 y0 y1 y2 y3 y4 y5 y6
   have HCX:=Lh (show ∀w':World,Below W2.heap.size W2 w'→w'.heap[bx]?=some (.cells #[.string nm,.int .u8 J.kind,.int .i64 J.n,.string J.t,.slice an J.names.length cn,.slice ai J.items.length ci,.int .i64 E] 48 (0,0)) from fun w' h=>(h.block _ (qz HX.out)).trans HX.out)
   have HCW:=Lh (show ∀w':World,Below W2.heap.size W2 w'→Calls Tryz.prog 21 #[.string nm,.agg #[.int .u8 J.kind,.int .i64 J.n,.string J.t,.slice an J.names.length cn,.slice ai J.items.length ci]] w' (fun e w2=>e=.returned (.int .i64 E)∧Below w'.heap.size w' w2) from fun w' h=>by
    have hb:=HB2.out.trans (h.mono HB2.out.size)
    exact HWI.out _ w' B hB0 (HRP.out w' hb) (HT.out w' hb).1 (HT.out w' hb).2.1 (HT.out w' hb).2.2.1 (HT.out w' hb).2.2.2)
   have hne:(E != E)=false:=by simp
   clear HWI HX
   obtain ⟨V,hV⟩:∃V:List MP,V=[.con (.pointer (some ⟨bx,0,none⟩)),.con (.string nm),.con (.pointer (some ⟨bx,1,none⟩)),.con (.agg #[.int .u8 J.kind,.int .i64 J.n,.string J.t,.slice an J.names.length cn,.slice ai J.items.length ci]),.con (.int .i64 E),.con (.pointer (some ⟨bx,6,none⟩)),.con (.int .i64 E)]:=⟨_,rfl⟩
   have HV:=Lh hV
   clear hV
   refine xJ 7 (fun d a' w'=>∃x124 x125 x126 x127 x128 x129 x130,a'=⟨#[u0,f 1,f 2,f 3,f 4,f 5,f 6,f 7,f 8,f 9,f 10,f 11,f 12,Value.pointer (some { block:=bx,off:=0 }),f 14,f 15,f 16,f 17,f 18,f 19,f 20,f 21,f 22,f 23,f 24,f 25,f 26,f 27,f 28,f 29,f 30,f 31,f 32,f 33,f 34,f 35,f 36,f 37,f 38,f 39,f 40,f 41,f 42,f 43,f 44,f 45,f 46,f 47,f 48,f 49,f 50,f 51,f 52,f 53,f 54,f 55,f 56,f 57,f 58,f 59,f 60,f 61,f 62,f 63,f 64,f 65,f 66,f 67,f 68,f 69,f 70,f 71,f 72,f 73,f 74,f 75,f 76,f 77,f 78,f 79,f 80,f 81,f 82,f 83,f 84,f 85,f 86,f 87,f 88,f 89,f 90,f 91,f 92,f 93,f 94,f 95,f 96,f 97,f 98,f 99,f 100,f 101,f 102,f 103,f 104,f 105,f 106,f 107,f 108,f 109,f 110,f 111,f 112,f 113,f 114,f 115,f 116,f 117,Value.slice (some { block:=b,off:=0 }) 18 18,Value.int IntKind.i64 18,Value.int IntKind.i64 (k:Int),Value.bool true,Value.pointer (some { block:=b,off:=k * 7 }),Value.agg #[Value.string nm,Value.int IntKind.u8 J.kind,Value.int IntKind.i64 J.n,Value.string J.t,Value.slice an J.names.length cn,Value.slice ai J.items.length ci,Value.int IntKind.i64 E],x124,x125,x126,x127,x128,x129,x130,u131,u132,f 133,f 134,f 135,f 136,f 137,f 138,f 139,f 140,f 141,f 142,f 143,f 144,f 145,f 146,f 147,f 148,f 149,f 150,f 151,f 152,f 153,f 154,f 155,f 156,f 157,f 158,f 159,f 160,f 161,f 162,f 163,f 164,f 165,f 166,f 167,f 168,f 169,f 170,f 171,f 172,f 173,f 174,f 175,f 176,f 177,f 178,f 179,f 180,f 181,f 182,f 183,f 184,f 185,f 186,f 187,f 188,f 189,f 190,f 191,f 192,f 193,f 194,f 195,f 196],[]⟩∧xm W2 V d w' [x124,x125,x126,x127,x128,x129,x130]) (by kernel_rfl) (by kernel_rfl) ?first ?step ?last
   case first=>exact ⟨_,_,_,_,_,_,_,rfl,xm.first _ _ _ (by rw [HV.out];rfl)⟩
   case step =>
    rintro d a' w' ⟨x124,x125,x126,x127,x128,x129,x130,rfl,h⟩ q hq hn hw
    rcases q with _|_|_|_|_|_|_|q
    · refine wpOp_step rfl fun K hK=>?_
      go_simp
      exact hK _ _ ⟨_,x125,x126,x127,x128,x129,x130,rfl,h.sameC 0 _ HV rfl⟩
    · obtain rfl:=h.con 0 (hw _ rfl ⟨0,.data⟩ (by simp) rfl) HV rfl rfl
      have z:=HCX.out w' h.1;have a0:=qq z (j:=0) rfl
      refine wpOp_step rfl fun K hK=>?_
      go_simp
      exact hK _ _ ⟨_,_,x126,x127,x128,x129,x130,rfl,h.sameC 1 _ HV rfl⟩
    · refine wpOp_step rfl fun K hK=>?_
      go_simp
      exact hK _ _ ⟨x124,x125,_,x127,x128,x129,x130,rfl,h.sameC 2 _ HV rfl⟩
    · obtain rfl:=h.con 2 (hw _ rfl ⟨2,.data⟩ (by simp) rfl) HV rfl rfl
      have z:=HCX.out w' h.1;have a1:=qq z (j:=1) rfl;have a2:=qq z (j:=2) rfl;have a3:=qq z (j:=3) rfl;have a4:=qq z (j:=4) rfl;have a5:=qq z (j:=5) rfl
      refine wpOp_step rfl fun K hK=>?_
      go_simp
      exact hK _ _ ⟨x124,x125,_,_,x128,x129,x130,rfl,h.sameC 3 _ HV rfl⟩
    · obtain rfl:=h.con 1 (hw _ rfl ⟨1,.data⟩ (by simp) rfl) HV rfl rfl
      obtain rfl:=h.con 3 (hw _ rfl ⟨3,.data⟩ (by simp) rfl) HV rfl rfl
      skip
      refine wpOp_step rfl fun K hK=>?_
      go_simp
      refine (HCW.out w' h.1).mono ?_
      rintro e w2 ⟨rfl,hb2⟩
      exact hK _ _ ⟨x124,_,x126,_,_,x129,x130,rfl,h.didC hb2 4 _ HV rfl⟩
    · refine wpOp_step rfl fun K hK=>?_
      go_simp
      exact hK _ _ ⟨x124,x125,x126,x127,x128,_,x130,rfl,h.sameC 5 _ HV rfl⟩
    · obtain rfl:=h.con 5 (hw _ rfl ⟨5,.data⟩ (by simp) rfl) HV rfl rfl
      have z:=HCX.out w' h.1;have a6:=qq z (j:=6) rfl
      refine wpOp_step rfl fun K hK=>?_
      go_simp
      exact hK _ _ ⟨x124,x125,x126,x127,x128,_,_,rfl,h.sameC 6 _ HV rfl⟩
    · omega
   case last =>
    rintro d a' w' hall ⟨x124,x125,x126,x127,x128,x129,x130,rfl,h⟩
    have hle:=h.1
    obtain rfl:=h.con 4 (hall _ (by omega)) HV rfl rfl
    obtain rfl:=h.con 6 (hall _ (by omega)) HV rfl rfl
    have HLE:=Lh hle
    clear h hall hle HV
    have HB4:=Lh (HB2.out.trans (HLE.out.mono HB2.out.size))
    go_wp2
    go_roundw
    case rel=>exact ⟨k+1,by omega,by go_num,HB4.out⟩
    case measure=>simp [intOf];omega
  case neg =>
   obtain rfl:k=18:=by omega
   go_wp2
   refine Eq.mpr (congrArg (fun a=>K a wr) (nz _ rfl)) (HK.out _ wr (fun j hj=>?_) HB.out)
   have hj2:=hj
   simp only [pL,List.mem_cons,List.not_mem_nil,or_false] at hj2
   rcases hj2 with rfl|rfl|rfl|rfl|rfl|rfl|rfl|rfl|rfl <;> exact HF.out _ hj
end Go.Proofs.YtnlgmcapbbgelaaGreatDoor

namespace Go.Proofs.YtnlgmcapbbgelaaGreatDoor
open Go.RowKit Go.Shelf Go.Sort
theorem cU {w:World} {b T:Nat} {a0 a1 a2 a3 a4 a5 a6 a7 a8:Value} (h:w.heap[b]?=some (.cells #[a0,a1,a2,a3,a4,a5,a6,a7,a8] T (0,0))):w.cell? ⟨b,0,none⟩=some a0∧w.cell? ⟨b,1,none⟩=some a1∧w.cell? ⟨b,2,none⟩=some a2∧w.cell? ⟨b,3,none⟩=some a3∧w.cell? ⟨b,4,none⟩=some a4∧w.cell? ⟨b,5,none⟩=some a5∧w.cell? ⟨b,6,none⟩=some a6∧w.cell? ⟨b,7,none⟩=some a7∧w.cell? ⟨b,8,none⟩=some a8:=⟨qq h rfl,qq h rfl,qq h rfl,qq h rfl,qq h rfl,qq h rfl,qq h rfl,qq h rfl,qq h rfl⟩
theorem lc {a b c:AuthV} {v e:Int} (h:qD ⟨v,e,[],⟨a,b,c⟩⟩=false):wG ⟨v,e,[],⟨a,b,c⟩⟩=(qL,3):=by unfold wG;rw [if_neg (by rw [h];decide)]
theorem nx (v e:Int) (hv:-9223372036854775808≤v∧v≤9223372036854775807) (he:-9223372036854775808≤e∧e≤9223372036854775807):RootFits ⟨v,e,[],exR.au⟩ :=
 ⟨hv,he,Nat.zero_le _,fun k hk=>(by cases hk),xH.a,xH.b,xH.c⟩
theorem cM (v e:Int) (hv:-9223372036854775808≤v∧v≤9223372036854775807) (he:-9223372036854775808≤e∧e≤9223372036854775807) (b:Bool) (hb:qD ⟨v,e,[],exR.au⟩=b) (ia ib ic:Option Addr) (w:World) (hI:RootIn w 0 w.heap.size exR none ia ib ic) (hT:Tabs w) (hTW:TabW w) (hP:zo w) :
 Calls Tryz.prog 24 #[.agg #[.int .i64 v,.int .i64 e,.slice none 0 0,.int .i64 1,.slice ia 1 1,.int .i64 1,.slice ib 1 1,.int .i64 1,.slice ic 1 1]] w fun r w'=>r=.returned (.bool b)∧Below w.heap.size w w':=by
 have:=fB v e [] 1 1 1 [qG 97] [qG 98] [qG 99] none ia ib ic 0 1 1 1 w ⟨.inl rfl,hI.a,hI.b,hI.c⟩ (nx v e hv he) hT hTW hP
 rw [show qD ⟨v,e,[],⟨⟨1,[qG 97]⟩,⟨1,[qG 98]⟩,⟨1,[qG 99]⟩⟩⟩=b from hb] at this
 exact this
theorem sy (w:World) (hT:Tabs w) (hTW:TabW w) (hP:zo w):Calls Tryz.prog 24 #[.agg #[.int .i64 0,.int .i64 0,.slice none 0 0,.int .i64 0,.slice none 0 0,.int .i64 0,.slice none 0 0,.int .i64 0,.slice none 0 0]] w fun r w'=>r=.returned (.bool false)∧Below w.heap.size w w':=by
 have:=fB 0 0 [] 0 0 0 [] [] [] none none none none 0 0 0 0 w ⟨.inl rfl,.inl rfl,.inl rfl,.inl rfl⟩ ⟨by decide,by decide,by decide,(fun k hk=>by cases hk),jY,jY,jY⟩ hT hTW hP
 rw [show qD ⟨0,0,[],⟨⟨0,[]⟩,⟨0,[]⟩,⟨0,[]⟩⟩⟩=false from bg.2.2.2] at this
 exact this
theorem ar (ia ib ic:Option Addr) (w:World) (hI:RootIn w 0 w.heap.size exR none ia ib ic) (hT:Tabs w) (hTW:TabW w) (hP:zo w) (hTP:TopsW w) :
 Calls Tryz.prog 23 #[.agg #[.int .i64 0,.int .i64 9,.slice none 0 0,.int .i64 1,.slice ia 1 1,.int .i64 1,.slice ib 1 1,.int .i64 1,.slice ic 1 1]] w fun r w'=>∃an cn ai ci,r=.returned (.tuple #[.agg #[.int .u8 0,.int .i64 0,.string ⟨#[]⟩,.slice an 0 cn,.slice ai 0 ci],.int .i64 3])∧Below w.heap.size w w':=by
 refine (p7 0 9 [] 1 1 1 [qG 97] [qG 98] [qG 99] none ia ib ic 0 1 1 1 w ⟨.inl rfl,hI.a,hI.b,hI.c⟩ (nx 0 9 (by decide) (by decide)) hT hTW hP hTP).mono ?_
 rw [lc (show qD ⟨0,9,[],⟨⟨1,[qG 97]⟩,⟨1,[qG 98]⟩,⟨1,[qG 99]⟩⟩⟩=false from bg.2.2.1)]
 rintro r w' ⟨an,cn,ai,ci,h1,-,h2⟩
 exact ⟨an,cn,ai,ci,h1,h2⟩
set_option maxHeartbeats 16000000 in
set_option maxRecDepth 100000 in
theorem m7 (w W:World) (p3:Nat) (f:Nat→Value) (hB:Below w.heap.size w W) (hT:Tabs w) (hTW:TabW w) (hP:zo w) (hTP:TopsW w) (hf3:f 3=.pointer (some ⟨p3,0,none⟩)) (hX3:W.heap[p3]?=some (.cells #[.int .u8 4,.int .i64 0,.string ⟨#[]⟩,.slice none 0 0,.slice none 0 0] 25 (0,0))) :
 Code.wp Tryz.prog (wq 10 (Tryz.f4.body.getD .skip)) (bodyPost Tryz.prog Tryz.f4 fun e w'=>e=.returned (.bool true)∧Below w.heap.size w w') (frR f) W:=by
 conv=>arg 2;whnf
 have hfr:frR f=⟨#[f 0,f 1,f 2,.pointer (some ⟨p3,0,none⟩),f 4,f 5,f 6,f 7,f 8,f 9,f 10,f 11,f 12,f 13,f 14,f 15,f 16,f 17,f 18,f 19,f 20,f 21,f 22,f 23,f 24,f 25,f 26,f 27,f 28,f 29,f 30,f 31,f 32,f 33,f 34,f 35,f 36,f 37,f 38,f 39,f 40,f 41,f 42,f 43,f 44,f 45,f 46,f 47,f 48,f 49,f 50,f 51,f 52,f 53,f 54,f 55,f 56,f 57,f 58,f 59,f 60,f 61,f 62,f 63,f 64,f 65,f 66,f 67,f 68,f 69,f 70,f 71,f 72,f 73,f 74,f 75,f 76,f 77,f 78,f 79,f 80,f 81,f 82,f 83,f 84,f 85,f 86,f 87,f 88,f 89,f 90,f 91,f 92,f 93,f 94,f 95,f 96,f 97,f 98,f 99,f 100,f 101,f 102,f 103,f 104,f 105,f 106,f 107,f 108,f 109,f 110,f 111,f 112,f 113,f 114,f 115,f 116,f 117,f 118,f 119,f 120,f 121,f 122,f 123,f 124,f 125,f 126,f 127,f 128,f 129,f 130,f 131,f 132,f 133,f 134,f 135,f 136,f 137,f 138,f 139,f 140,f 141,f 142,f 143,f 144,f 145,f 146,f 147,f 148,f 149,f 150,f 151,f 152,f 153,f 154,f 155,f 156,f 157,f 158,f 159,f 160,f 161,f 162,f 163,f 164,f 165,f 166,f 167,f 168,f 169,f 170,f 171,f 172,f 173,f 174,f 175,f 176,f 177,f 178,f 179,f 180,f 181,f 182,f 183,f 184,f 185,f 186,f 187,f 188,f 189,f 190,f 191,f 192,f 193,f 194,f 195,f 196],[]⟩:=by
  have:frR f=⟨#[f 0,f 1,f 2,f 3,f 4,f 5,f 6,f 7,f 8,f 9,f 10,f 11,f 12,f 13,f 14,f 15,f 16,f 17,f 18,f 19,f 20,f 21,f 22,f 23,f 24,f 25,f 26,f 27,f 28,f 29,f 30,f 31,f 32,f 33,f 34,f 35,f 36,f 37,f 38,f 39,f 40,f 41,f 42,f 43,f 44,f 45,f 46,f 47,f 48,f 49,f 50,f 51,f 52,f 53,f 54,f 55,f 56,f 57,f 58,f 59,f 60,f 61,f 62,f 63,f 64,f 65,f 66,f 67,f 68,f 69,f 70,f 71,f 72,f 73,f 74,f 75,f 76,f 77,f 78,f 79,f 80,f 81,f 82,f 83,f 84,f 85,f 86,f 87,f 88,f 89,f 90,f 91,f 92,f 93,f 94,f 95,f 96,f 97,f 98,f 99,f 100,f 101,f 102,f 103,f 104,f 105,f 106,f 107,f 108,f 109,f 110,f 111,f 112,f 113,f 114,f 115,f 116,f 117,f 118,f 119,f 120,f 121,f 122,f 123,f 124,f 125,f 126,f 127,f 128,f 129,f 130,f 131,f 132,f 133,f 134,f 135,f 136,f 137,f 138,f 139,f 140,f 141,f 142,f 143,f 144,f 145,f 146,f 147,f 148,f 149,f 150,f 151,f 152,f 153,f 154,f 155,f 156,f 157,f 158,f 159,f 160,f 161,f 162,f 163,f 164,f 165,f 166,f 167,f 168,f 169,f 170,f 171,f 172,f 173,f 174,f 175,f 176,f 177,f 178,f 179,f 180,f 181,f 182,f 183,f 184,f 185,f 186,f 187,f 188,f 189,f 190,f 191,f 192,f 193,f 194,f 195,f 196],[]⟩:=rfl
  rw [this,hf3]
 rw [hfr]
 dsimp only
 have HTB:=Lh (show ∀w':World,Below w.heap.size w w'→Tabs w'∧TabW w'∧zo w'∧TopsW w' from fun w' h=>⟨hT.below h,hTW.below h,hP.below h,hTP.below h⟩)
 have HB:=Lh hB
 have HZ0:=Lh (show 0<w.heap.size from Nat.lt_of_le_of_lt (Nat.zero_le _) hTP.lt)
 obtain ⟨bT,hbT⟩:∃bT,bT=p3:=⟨_,rfl⟩
 rw [← hbT] at hX3
 have HXT:=Lh hX3
 rw [← hbT]
 clear hfr hf3 hT hTW hP hTP hB hX3 hbT
 have HCO:=Lh (sx qL (.agg #[.int .u8 0,.int .i64 0,.string ⟨#[]⟩,.slice none 0 0,.slice none 0 0]) W 1 (by decide) (by decide) (gN _ _ _ 0 0 ⟨#[]⟩) (HTB.out W HB.out).1 (HTB.out W HB.out).2.1 (HTB.out W HB.out).2.2.2)
 rw [kU.1] at HCO
 go_wp2_with fail
 refine (HCO.out).mono ?_
 rintro ee w1 ⟨z0,z1,z2,z3,z4,n0,n1,n2,n3,y0,y1,y2,y3,m0,m1,m2,m3,h4,hb⟩
 subst h4
 clear HCO
 replace HB:=Lh (HB.out.trans (hb.mono HB.out.size))
 replace HXT:=Lh ((hb.block _ (qz HXT.out)).trans HXT.out)
 clear hb
 obtain ⟨bA,hbA⟩:∃bA,bA=w1.heap.size:=⟨_,rfl⟩
 obtain ⟨w2,hw2⟩:∃w2,w2=w1.alloc (.cells #[.int .i64 z0,.int .i64 z1,.slice y0 n0 m0,.int .i64 z2,.slice y1 n1 m1,.int .i64 z3,.slice y2 n2 m2,.int .i64 z4,.slice y3 n3 m3] 32):=⟨_,rfl⟩
 have hbx:Below w1.heap.size w1 w2:=by rw [hw2];exact (Below.refl _ _).alloc lz _
 have HXA:=Lh (qu hw2 hbA)
 replace HB:=Lh (HB.out.trans (hbx.mono HB.out.size))
 replace HXT:=Lh ((hbx.block _ (qz HXT.out)).trans HXT.out)
 have Hw2:=Lh (And.intro hw2 hbA)
 clear hbx hw2 hbA
 go_upto_region 17 with fail
 rw [← Hw2.out.1,← Hw2.out.2]
 clear Hw2
 clear HXA
 have HCO:=Lh (sx zP (.agg #[.int .u8 4,.int .i64 0,.string ⟨#[]⟩,.slice none 0 0,.slice none 0 0]) w2 1 (by decide) (by decide) (gN _ _ _ 4 0 ⟨#[]⟩) (HTB.out w2 HB.out).1 (HTB.out w2 HB.out).2.1 (HTB.out w2 HB.out).2.2.2)
 rw [kU.2.1] at HCO
 obtain ⟨xT0,xT1,xT2,xT3,xT4⟩:=bM HXT.out
 go_wp2_with fail
 refine (HCO.out).mono ?_
 clear xT0 xT1 xT2 xT3 xT4
 rintro ee w3 ⟨z0,z1,z2,z3,z4,n0,n1,n2,n3,y0,y1,y2,y3,m0,m1,m2,m3,h4,hb⟩
 subst h4
 clear HCO
 replace HB:=Lh (HB.out.trans (hb.mono HB.out.size))
 replace HXT:=Lh ((hb.block _ (qz HXT.out)).trans HXT.out)
 clear hb
 obtain ⟨bA,hbA⟩:∃bA,bA=w3.heap.size:=⟨_,rfl⟩
 obtain ⟨w4,hw4⟩:∃w4,w4=w3.alloc (.cells #[.int .i64 z0,.int .i64 z1,.slice y0 n0 m0,.int .i64 z2,.slice y1 n1 m1,.int .i64 z3,.slice y2 n2 m2,.int .i64 z4,.slice y3 n3 m3] 32):=⟨_,rfl⟩
 have hbx:Below w3.heap.size w3 w4:=by rw [hw4];exact (Below.refl _ _).alloc lz _
 have HXA:=Lh (qu hw4 hbA)
 replace HB:=Lh (HB.out.trans (hbx.mono HB.out.size))
 replace HXT:=Lh ((hbx.block _ (qz HXT.out)).trans HXT.out)
 have Hw4:=Lh (And.intro hw4 hbA)
 clear hbx hw4 hbA
 go_upto_region 18 with fail
 rw [← Hw4.out.1,← Hw4.out.2]
 clear Hw4
 clear HXA HXT
 have HCO:=Lh (sx (xr []) (.agg #[.int .u8 5,.int .i64 0,.string ⟨#[]⟩,.slice none 0 0,.slice none 0 0]) w4 1 (by decide) (by decide) (gN _ _ _ 5 0 ⟨#[]⟩) (HTB.out w4 HB.out).1 (HTB.out w4 HB.out).2.1 (HTB.out w4 HB.out).2.2.2)
 rw [kU.2.2] at HCO
 go_wp2_with fail
 refine (HCO.out).mono ?_
 rintro ee w5 ⟨z0,z1,z2,z3,z4,n0,n1,n2,n3,y0,y1,y2,y3,m0,m1,m2,m3,h4,hb⟩
 subst h4
 clear HCO
 replace HB:=Lh (HB.out.trans (hb.mono HB.out.size))
 clear hb
 obtain ⟨bA,hbA⟩:∃bA,bA=w5.heap.size:=⟨_,rfl⟩
 obtain ⟨w6,hw6⟩:∃w6,w6=w5.alloc (.cells #[.int .i64 z0,.int .i64 z1,.slice y0 n0 m0,.int .i64 z2,.slice y1 n1 m1,.int .i64 z3,.slice y2 n2 m2,.int .i64 z4,.slice y3 n3 m3] 32):=⟨_,rfl⟩
 have hbx:Below w5.heap.size w5 w6:=by rw [hw6];exact (Below.refl _ _).alloc lz _
 have HXA:=Lh (qu hw6 hbA)
 replace HB:=Lh (HB.out.trans (hbx.mono HB.out.size))
 have Hw6:=Lh (And.intro hw6 hbA)
 clear hbx hw6 hbA
 go_upto_region 19 with fail
 rw [← Hw6.out.1,← Hw6.out.2]
 clear Hw6
 clear HXA
 go_wp2_with fail
 refine (yf w6).mono ?_
 rintro ee w7 ⟨y,rfl,⟨ixa,ixb,ixc,rfl,hI⟩,hb⟩
 replace HB:=Lh (HB.out.trans (hb.mono HB.out.size))
 have HIx:=Lh hI
 clear hI hb
 go_wp2_with fail
 refine (yf w7).mono ?_
 rintro ee w8 ⟨y,rfl,⟨iya,iyb,iyc,rfl,hI⟩,hb⟩
 replace HB:=Lh (HB.out.trans (hb.mono HB.out.size))
 replace HIx:=Lh (HIx.out.below hb lz lz hb.size)
 have HIy:=Lh hI
 clear hI hb
 go_wp2_with fail
 refine (yf w8).mono ?_
 rintro ee w9 ⟨y,rfl,⟨iza,izb,izc,rfl,hI⟩,hb⟩
 replace HB:=Lh (HB.out.trans (hb.mono HB.out.size))
 replace HIx:=Lh (HIx.out.below hb lz lz hb.size)
 replace HIy:=Lh (HIy.out.below hb lz lz hb.size)
 have HIz:=Lh hI
 clear hI hb
 obtain ⟨bL,hbL⟩:∃bL,bL=w9.heap.size:=⟨_,rfl⟩
 obtain ⟨wa,hwa⟩:∃wa,wa=w9.alloc (.cells #[.int .i64 1,.int .i64 253402300800,.slice none 0 0,.int .i64 1,.slice ixa 1 1,.int .i64 1,.slice ixb 1 1,.int .i64 1,.slice ixc 1 1] 32):=⟨_,rfl⟩
 have hbx:Below w9.heap.size w9 wa:=by rw [hwa];exact (Below.refl _ _).alloc lz _
 have HXL:=Lh (qu hwa hbL)
 replace HB:=Lh (HB.out.trans (hbx.mono HB.out.size))
 replace HIx:=Lh (HIx.out.below hbx lz lz hbx.size)
 replace HIy:=Lh (HIy.out.below hbx lz lz hbx.size)
 replace HIz:=Lh (HIz.out.below hbx lz lz hbx.size)
 have Hwa:=Lh (And.intro hwa hbL)
 clear hbx hwa hbL
 obtain ⟨bE,hbE⟩:∃bE,bE=wa.heap.size:=⟨_,rfl⟩
 obtain ⟨wb,hwb⟩:∃wb,wb=wa.alloc (.cells #[.int .i64 1,.int .i64 (-1),.slice none 0 0,.int .i64 1,.slice iya 1 1,.int .i64 1,.slice iyb 1 1,.int .i64 1,.slice iyc 1 1] 32):=⟨_,rfl⟩
 have hbx:Below wa.heap.size wa wb:=by rw [hwb];exact (Below.refl _ _).alloc lz _
 have HXE:=Lh (qu hwb hbE)
 replace HB:=Lh (HB.out.trans (hbx.mono HB.out.size))
 replace HXL:=Lh ((hbx.block _ (qz HXL.out)).trans HXL.out)
 replace HIx:=Lh (HIx.out.below hbx lz lz hbx.size)
 replace HIy:=Lh (HIy.out.below hbx lz lz hbx.size)
 replace HIz:=Lh (HIz.out.below hbx lz lz hbx.size)
 have Hwb:=Lh (And.intro hwb hbE)
 clear hbx hwb hbE
 obtain ⟨bZ,hbZ⟩:∃bZ,bZ=wb.heap.size:=⟨_,rfl⟩
 obtain ⟨wc,hwc⟩:∃wc,wc=wb.alloc (.cells #[.int .i64 0,.int .i64 9,.slice none 0 0,.int .i64 1,.slice iza 1 1,.int .i64 1,.slice izb 1 1,.int .i64 1,.slice izc 1 1] 32):=⟨_,rfl⟩
 have hbx:Below wb.heap.size wb wc:=by rw [hwc];exact (Below.refl _ _).alloc lz _
 have HXZ:=Lh (qu hwc hbZ)
 replace HB:=Lh (HB.out.trans (hbx.mono HB.out.size))
 replace HXL:=Lh ((hbx.block _ (qz HXL.out)).trans HXL.out)
 replace HXE:=Lh ((hbx.block _ (qz HXE.out)).trans HXE.out)
 replace HIx:=Lh (HIx.out.below hbx lz lz hbx.size)
 replace HIy:=Lh (HIy.out.below hbx lz lz hbx.size)
 replace HIz:=Lh (HIz.out.below hbx lz lz hbx.size)
 have Hwc:=Lh (And.intro hwc hbZ)
 clear hbx hwc hbZ
 go_upto_region 23 with fail
 rw [← Hwa.out.1,← Hwa.out.2,show bL+1=bE by rw [Hwb.out.2,Hwa.out.1,Hwa.out.2];simp,← Hwb.out.1,show bE+1=bZ by rw [Hwc.out.2,Hwb.out.1,Hwb.out.2];simp,← Hwc.out.1]
 clear Hwa Hwb Hwc
 obtain ⟨xZ0,xZ1,xZ2,xZ3,xZ4,xZ5,xZ6,xZ7,xZ8⟩:=cU HXZ.out
 go_wp2_with fail
 refine (ar iza izb izc wc HIz.out (HTB.out wc HB.out).1 (HTB.out wc HB.out).2.1 (HTB.out wc HB.out).2.2.1 (HTB.out wc HB.out).2.2.2).mono ?_
 clear xZ0 xZ1 xZ2 xZ3 xZ4 xZ5 xZ6 xZ7 xZ8
 rintro ee wd ⟨vn,vc,vi,vd,rfl,hb⟩
 replace HB:=Lh (HB.out.trans (hb.mono HB.out.size))
 replace HXL:=Lh ((hb.block _ (qz HXL.out)).trans HXL.out)
 replace HXE:=Lh ((hb.block _ (qz HXE.out)).trans HXE.out)
 replace HXZ:=Lh ((hb.block _ (qz HXZ.out)).trans HXZ.out)
 replace HIx:=Lh (HIx.out.below hb lz lz hb.size)
 replace HIy:=Lh (HIy.out.below hb lz lz hb.size)
 replace HIz:=Lh (HIz.out.below hb lz lz hb.size)
 clear hb
 obtain ⟨bV,hbV⟩:∃bV,bV=wd.heap.size:=⟨_,rfl⟩
 obtain ⟨we,hwe⟩:∃we,we=wd.alloc (.cells #[.int .u8 0,.int .i64 0,.string ⟨#[]⟩,.slice vn 0 vc,.slice vi 0 vd] 25):=⟨_,rfl⟩
 have hbx:Below wd.heap.size wd we:=by rw [hwe];exact (Below.refl _ _).alloc lz _
 have HXV:=Lh (qu hwe hbV)
 replace HB:=Lh (HB.out.trans (hbx.mono HB.out.size))
 replace HXL:=Lh ((hbx.block _ (qz HXL.out)).trans HXL.out)
 replace HXE:=Lh ((hbx.block _ (qz HXE.out)).trans HXE.out)
 replace HXZ:=Lh ((hbx.block _ (qz HXZ.out)).trans HXZ.out)
 replace HIx:=Lh (HIx.out.below hbx lz lz hbx.size)
 replace HIy:=Lh (HIy.out.below hbx lz lz hbx.size)
 replace HIz:=Lh (HIz.out.below hbx lz lz hbx.size)
 have Hwe:=Lh (And.intro hwe hbV)
 clear hbx hwe hbV
 go_upto_region 24 with fail
 rw [← Hwe.out.1,← Hwe.out.2]
 clear Hwe
 clear HXV
 obtain ⟨xL0,xL1,xL2,xL3,xL4,xL5,xL6,xL7,xL8⟩:=cU HXL.out
 go_wp2_with fail
 refine (cM 1 253402300800 (by decide) (by decide) false bg.1 ixa ixb ixc we HIx.out (HTB.out we HB.out).1 (HTB.out we HB.out).2.1 (HTB.out we HB.out).2.2.1).mono ?_
 clear xL0 xL1 xL2 xL3 xL4 xL5 xL6 xL7 xL8
 rintro ee wf ⟨rfl,hb⟩
 replace HB:=Lh (HB.out.trans (hb.mono HB.out.size))
 replace HXL:=Lh ((hb.block _ (qz HXL.out)).trans HXL.out)
 replace HXE:=Lh ((hb.block _ (qz HXE.out)).trans HXE.out)
 replace HXZ:=Lh ((hb.block _ (qz HXZ.out)).trans HXZ.out)
 replace HIx:=Lh (HIx.out.below hb lz lz hb.size)
 replace HIy:=Lh (HIy.out.below hb lz lz hb.size)
 replace HIz:=Lh (HIz.out.below hb lz lz hb.size)
 clear hb
 obtain ⟨xE0,xE1,xE2,xE3,xE4,xE5,xE6,xE7,xE8⟩:=cU HXE.out
 go_wp2_with fail
 refine (cM 1 (-1) (by decide) (by decide) false bg.2.1 iya iyb iyc wf HIy.out (HTB.out wf HB.out).1 (HTB.out wf HB.out).2.1 (HTB.out wf HB.out).2.2.1).mono ?_
 clear xE0 xE1 xE2 xE3 xE4 xE5 xE6 xE7 xE8
 rintro ee wg ⟨rfl,hb⟩
 replace HB:=Lh (HB.out.trans (hb.mono HB.out.size))
 replace HXL:=Lh ((hb.block _ (qz HXL.out)).trans HXL.out)
 replace HXE:=Lh ((hb.block _ (qz HXE.out)).trans HXE.out)
 replace HXZ:=Lh ((hb.block _ (qz HXZ.out)).trans HXZ.out)
 replace HIx:=Lh (HIx.out.below hb lz lz hb.size)
 replace HIy:=Lh (HIy.out.below hb lz lz hb.size)
 replace HIz:=Lh (HIz.out.below hb lz lz hb.size)
 clear hb
 obtain ⟨xZ0,xZ1,xZ2,xZ3,xZ4,xZ5,xZ6,xZ7,xZ8⟩:=cU HXZ.out
 go_wp2_with fail
 refine (cM 0 9 (by decide) (by decide) false bg.2.2.1 iza izb izc wg HIz.out (HTB.out wg HB.out).1 (HTB.out wg HB.out).2.1 (HTB.out wg HB.out).2.2.1).mono ?_
 clear xZ0 xZ1 xZ2 xZ3 xZ4 xZ5 xZ6 xZ7 xZ8
 rintro ee wh ⟨rfl,hb⟩
 replace HB:=Lh (HB.out.trans (hb.mono HB.out.size))
 replace HXL:=Lh ((hb.block _ (qz HXL.out)).trans HXL.out)
 replace HXE:=Lh ((hb.block _ (qz HXE.out)).trans HXE.out)
 replace HXZ:=Lh ((hb.block _ (qz HXZ.out)).trans HXZ.out)
 replace HIx:=Lh (HIx.out.below hb lz lz hb.size)
 replace HIy:=Lh (HIy.out.below hb lz lz hb.size)
 replace HIz:=Lh (HIz.out.below hb lz lz hb.size)
 clear hb
 go_wp2_with fail
 refine (yf wh).mono ?_
 rintro ee wi ⟨y,rfl,⟨iwa,iwb,iwc,rfl,hI⟩,hb⟩
 replace HB:=Lh (HB.out.trans (hb.mono HB.out.size))
 replace HXL:=Lh ((hb.block _ (qz HXL.out)).trans HXL.out)
 replace HXE:=Lh ((hb.block _ (qz HXE.out)).trans HXE.out)
 replace HXZ:=Lh ((hb.block _ (qz HXZ.out)).trans HXZ.out)
 replace HIx:=Lh (HIx.out.below hb lz lz hb.size)
 replace HIy:=Lh (HIy.out.below hb lz lz hb.size)
 replace HIz:=Lh (HIz.out.below hb lz lz hb.size)
 have HIw:=Lh hI
 clear hI hb
 go_wp2_with fail
 refine (cM 1 9 (by decide) (by decide) true wK iwa iwb iwc wi HIw.out (HTB.out wi HB.out).1 (HTB.out wi HB.out).2.1 (HTB.out wi HB.out).2.2.1).mono ?_
 rintro ee wj ⟨rfl,hb⟩
 replace HB:=Lh (HB.out.trans (hb.mono HB.out.size))
 replace HXL:=Lh ((hb.block _ (qz HXL.out)).trans HXL.out)
 replace HXE:=Lh ((hb.block _ (qz HXE.out)).trans HXE.out)
 replace HXZ:=Lh ((hb.block _ (qz HXZ.out)).trans HXZ.out)
 replace HIx:=Lh (HIx.out.below hb lz lz hb.size)
 replace HIy:=Lh (HIy.out.below hb lz lz hb.size)
 replace HIz:=Lh (HIz.out.below hb lz lz hb.size)
 replace HIw:=Lh (HIw.out.below hb lz lz hb.size)
 clear hb
 go_wp2_with fail
 refine (sy wj (HTB.out wj HB.out).1 (HTB.out wj HB.out).2.1 (HTB.out wj HB.out).2.2.1).mono ?_
 rintro ee wk ⟨rfl,hb⟩
 replace HB:=Lh (HB.out.trans (hb.mono HB.out.size))
 replace HXL:=Lh ((hb.block _ (qz HXL.out)).trans HXL.out)
 replace HXE:=Lh ((hb.block _ (qz HXE.out)).trans HXE.out)
 replace HXZ:=Lh ((hb.block _ (qz HXZ.out)).trans HXZ.out)
 replace HIx:=Lh (HIx.out.below hb lz lz hb.size)
 replace HIy:=Lh (HIy.out.below hb lz lz hb.size)
 replace HIz:=Lh (HIz.out.below hb lz lz hb.size)
 replace HIw:=Lh (HIw.out.below hb lz lz hb.size)
 clear hb
 have HBE:=Lh HB.out
 go_wp2
 go_ret
 exact ⟨rfl,HBE.out⟩
end Go.Proofs.YtnlgmcapbbgelaaGreatDoor
