/- Contracts for the law RootNothing: With, Without, Get of a root's object and of its roles, and root.Of of what comes of it. -/
import Derived.Test.YtnlgmcapbbgelaaGreatDoorRn42

namespace Go.Proofs.YtnlgmcapbbgelaaGreatDoor
open Go.RowKit
def ObjOwn (J:JV) (er:Value) (w:World) (e:Ending) (w':World):Prop:=∃an cn ai ci,e=.returned (.tuple #[.agg #[.int .u8 5,.int .i64 0,.string ⟨#[]⟩,.slice an J.names.length cn,.slice ai J.items.length ci],er]) ∧
 Rep w' w.heap.size w'.heap.size J (.agg #[.int .u8 5,.int .i64 0,.string ⟨#[]⟩,.slice an J.names.length cn,.slice ai J.items.length ci])∧Below w.heap.size w w'
theorem not_in {l:List ByteArray} {n:ByteArray} {f:Bool} {r:Nat} (h4:f=true→∃h:r<l.length,l[r]=n) (hn:n ∉ l):f=false:=by
 cases f with
 | false=>rfl
 | true=>obtain ⟨h,h'⟩:=h4 rfl;exact absurd (h' ▸ List.getElem_mem h) hn
theorem withAnyRoot (R:RootV) (n:ByteArray) (x:JV) (xv xx:Value) (w:World) (lo:Nat) (hlo:0<lo) (hm:mayRoot R=true) (hx:x.wt≤20000) (hns:n.size≤300) (hV:Rep w lo w.heap.size (rootJ R) xv) (hX:Rep w 0 w.heap.size x xx) :
 Calls Tryz.prog 29 #[xv,.string n,xx] w fun e w'=>∃J,ObjOwn J (.int .i64 0) w e w'∧J.wt≤4294967296∧(n ∉ [typN,expN,keysN,rolN,verN]→(rootOfA J).2=if J.mayB then 11 else 3):=by
 have hw:=rootJ_wt hm
 refine (valueWithC (WeakCopy x) 0 lo (rootJ R) n x xv xx w (by omega) (by omega) rfl rfl rfl rfl root_names.1 (own_copies (by omega) hlo) hV hX (copyTo_weak (by omega))).mono ?_
 rintro e w' ⟨r,f,x',an,cn,ai,ci,h1,h2,h3,h4,h5,h6,h7,h8,h9⟩
 refine ⟨withJ (rootJ R) r f n x',⟨an,cn,ai,ci,h7,h8,h9⟩,?_,fun hn=>?_⟩
 · have:=withJ_wt (rootJ R) r f n x'
   have:=h6.wt
   omega
 · have hf:f=false:=not_in h4 hn
   subst hf
   exact root_more hm h1 hn
theorem rolesJ_wt2 {R:RootV} (hm:mayRoot R=true):(rolesJ R.au).wt≤7000:=rolesJ_wt (mayRoot_parts.1 hm).2.2.2
theorem withAnyRoles (R:RootV) (n:ByteArray) (x:JV) (xv xx:Value) (w:World) (lo:Nat) (hlo:0<lo) (hm:mayRoot R=true) (hx:x.wt≤20000) (hns:n.size≤300) (hV:Rep w lo w.heap.size (rolesJ R.au) xv) (hX:Rep w 0 w.heap.size x xx) :
 Calls Tryz.prog 29 #[xv,.string n,xx] w fun e w'=>∃J,ObjOwn J (.int .i64 0) w e w'∧J.wt≤2000000∧(n ∉ [rootN,snpN,tgtN]→(rootOfA (withJ (rootJ R) 3 true rolN J)).2=if (withJ (rootJ R) 3 true rolN J).mayB then 11 else 3):=by
 have hw:=rolesJ_wt2 hm
 refine (valueWithC (WeakCopy x) 0 lo (rolesJ R.au) n x xv xx w (by omega) (by omega) rfl rfl rfl rfl roles_names.1 (own_copies (by omega) hlo) hV hX (copyTo_weak (by omega))).mono ?_
 rintro e w' ⟨r,f,x',an,cn,ai,ci,h1,h2,h3,h4,h5,h6,h7,h8,h9⟩
 refine ⟨withJ (rolesJ R.au) r f n x',⟨an,cn,ai,ci,h7,h8,h9⟩,?_,fun hn=>?_⟩
 · have:=withJ_wt (rolesJ R.au) r f n x'
   have:=h6.wt
   omega
 · have hf:f=false:=not_in h4 hn
   subst hf
   exact root_more_role hm h1 hn
theorem withRolesJ (R:RootV) (J:JV) (x y:Value) (w:World) (lo lx:Nat) (hlo:0<lo) (hlx:0<lx) (hm:mayRoot R=true) (hJ:J.wt≤2000000) (hV:Rep w lo w.heap.size (rootJ R) x) (hX:Rep w lx w.heap.size J y) :
 Calls Tryz.prog 29 #[x,.string ⟨#[114,111,108,101,115]⟩,y] w fun e w'=>ObjOwn (withJ (rootJ R) 3 true rolN J) (.int .i64 0) w e w'∧(withJ (rootJ R) 3 true rolN J).wt≤4294967296:=by
 have hw:=rootJ_wt hm
 refine (withOwn (rootJ R) rolN J x y w lo lx 3 hlo hlx (by omega) (by omega) rfl rfl rfl rfl root_names.1 (show 3<5 by decide) rfl hV hX).mono ?_
 rintro e w' ⟨an,cn,ai,ci,h1,h2,h3⟩
 refine ⟨⟨an,cn,ai,ci,h1,h2,h3⟩,?_⟩
 have:=withJ_wt (rootJ R) 3 true rolN J
 have:rolN.size=5:=rfl
 omega
theorem withType (R:RootV) (t:ByteArray) (x:Value) (w:World) (lo:Nat) (hlo:0<lo) (hm:mayRoot R=true) (ht:t.size≤300) (hV:Rep w lo w.heap.size (rootJ R) x) :
 Calls Tryz.prog 29 #[x,.string ⟨#[95,116,121,112,101]⟩,.agg #[.int .u8 3,.int .i64 0,.string t,.slice none 0 0,.slice none 0 0]] w fun e w'=>ObjOwn (withJ (rootJ R) 0 true typN (txtJ t)) (.int .i64 0) w e w'∧(withJ (rootJ R) 0 true typN (txtJ t)).wt≤4294967296:=by
 have hw:=rootJ_wt hm
 have h1:(txtJ t).wt=1+t.size:=txtJ_wt1 t
 refine (withOwn (rootJ R) typN (txtJ t) x _ w lo 1 0 hlo (by decide) (by omega) (by omega) rfl rfl rfl rfl root_names.1 (show 0<5 by decide) rfl hV (rep_txt _ _ _ t)).mono ?_
 rintro e w' ⟨an,cn,ai,ci,h1,h2,h3⟩
 refine ⟨⟨an,cn,ai,ci,h1,h2,h3⟩,?_⟩
 have:=withJ_wt (rootJ R) 0 true typN (txtJ t)
 have:typN.size=5:=rfl
 omega
theorem nj_filter (p:NJ→Bool):∀N:List NJ,bytesSum ((N.filter p).map (·.1))≤bytesSum (N.map (·.1))∧JV.wts ((N.filter p).map (·.2))≤JV.wts (N.map (·.2))
 | []=>⟨Nat.le_refl _,Nat.le_refl _⟩
 | a :: l=>by
  have:=nj_filter p l
  rw [List.filter_cons]
  split <;> simp only [List.map_cons,bytesSum,JV.wts] <;> omega
theorem outJ_wt (N:List NJ) (y:ByteArray):(outJ (objJ N) y).wt≤(objJ N).wt:=by
 rw [outJ_filter,wt_obj,wt_obj]
 have:=nj_filter (fun z=>z.1.toList != y.toList) N
 omega
def IsTupJ (lo:Nat) (J:JV) (er:Value) (w:World) (x:Value):Prop:=∃an cn ai ci,x=.tuple #[.agg #[.int .u8 5,.int .i64 0,.string ⟨#[]⟩,.slice an J.names.length cn,.slice ai J.items.length ci],er]∧Rep w lo w.heap.size J (.agg #[.int .u8 5,.int .i64 0,.string ⟨#[]⟩,.slice an J.names.length cn,.slice ai J.items.length ci])
def IsObjJ (lo:Nat) (J:JV) (w:World) (x:Value):Prop:=∃an cn ai ci,x=.agg #[.int .u8 5,.int .i64 0,.string ⟨#[]⟩,.slice an J.names.length cn,.slice ai J.items.length ci]∧Rep w lo w.heap.size J (.agg #[.int .u8 5,.int .i64 0,.string ⟨#[]⟩,.slice an J.names.length cn,.slice ai J.items.length ci])
def MP.tupJ (lo:Nat) (J:JV) (er:Value):MP:=⟨IsTupJ lo J er,fun _ _ _ hb ⟨an,cn,ai,ci,e,hr⟩=>⟨an,cn,ai,ci,e,hr.below hb lz lz hb.size⟩⟩
def MP.objJ (lo:Nat) (J:JV):MP:=⟨IsObjJ lo J,fun _ _ _ hb ⟨an,cn,ai,ci,e,hr⟩=>⟨an,cn,ai,ci,e,hr.below hb lz lz hb.size⟩⟩
theorem outRootE (R:RootV) (n:ByteArray) (x:Value) (w:World) (lo B:Nat) (hB:B≤w.heap.size) (hlo:0<lo) (hm:mayRoot R=true) (hn:n ∈ [typN,expN,keysN,rolN,verN]) (hV:Rep w lo w.heap.size (rootJ R) x) :
 Calls Tryz.prog 32 #[x,.string n] w fun e w'=>∃y,e=.returned y∧IsTupJ B (outJ (rootJ R) n) (.bool true) w' y∧Below w.heap.size w w':=by
 have hw:=rootJ_wt hm
 refine (valueWithoutE lo (rootJ R) n x w (by omega) rfl rfl rfl rfl root_names.1 (own_copies (by omega) hlo) hn hV).mono ?_
 rintro e w' ⟨an,cn,ai,ci,h1,h2,h3⟩
 exact ⟨_,h1,⟨an,cn,ai,ci,rfl,Rep.carry hB lz (fun _ _ _=>rfl) _ _ h2⟩,h3⟩
theorem outRoot_facts {R:RootV} (hm:mayRoot R=true) {n:ByteArray} (hn:n ∈ [typN,expN,keysN,rolN,verN]):(outJ (rootJ R) n).wt≤4294967296∧(rootOfA (outJ (rootJ R) n)).2=6∧(outJ (rootJ R) n).solid=true :=
 ⟨Nat.le_trans (outJ_wt (rootM R) n) (Nat.le_trans (rootJ_wt hm) (by decide)),by rw [root_less hm hn],outRoot_solid hm n⟩
theorem outRolesE (R:RootV) (n:ByteArray) (x:Value) (w:World) (lo B:Nat) (hB:B≤w.heap.size) (hlo:0<lo) (hm:mayRoot R=true) (hn:n ∈ [rootN,snpN,tgtN]) (hV:Rep w lo w.heap.size (rolesJ R.au) x) :
 Calls Tryz.prog 32 #[x,.string n] w fun e w'=>∃y,e=.returned y∧IsTupJ B (outJ (rolesJ R.au) n) (.bool true) w' y∧Below w.heap.size w w':=by
 have hw:=rolesJ_wt2 hm
 refine (valueWithoutE lo (rolesJ R.au) n x w (by omega) rfl rfl rfl rfl roles_names.1 (own_copies (by omega) hlo) hn hV).mono ?_
 rintro e w' ⟨an,cn,ai,ci,h1,h2,h3⟩
 exact ⟨_,h1,⟨an,cn,ai,ci,rfl,Rep.carry hB lz (fun _ _ _=>rfl) _ _ h2⟩,h3⟩
theorem outRoles_facts {R:RootV} (hm:mayRoot R=true) {n:ByteArray} (hn:n ∈ [rootN,snpN,tgtN]):(outJ (rolesJ R.au) n).wt≤2000000∧(rootOfA (withJ (rootJ R) 3 true rolN (outJ (rolesJ R.au) n))).2=6∧(outJ (rolesJ R.au) n).solid=true :=
 ⟨Nat.le_trans (outJ_wt (rolesM R.au) n) (Nat.le_trans (rolesJ_wt2 hm) (by decide)),by rw [root_less_role hm hn],outRoles_solid R.au n⟩
def Has22 (N:List ByteArray) (n:ByteArray) (w:World) (e:Ending) (w':World):Prop:=∃(kb:Bool) (k m:Int) (t:ByteArray) (gn gi:Option Addr) (l1 c1 l2 c2:Nat),e=.returned (.tuple #[.agg #[.int .u8 k,.int .i64 m,.string t,.slice gn l1 c1,.slice gi l2 c2],.bool kb])∧(kb=false→n ∉ N)∧Below w.heap.size w w'
theorem hasAny (v:JV) (n:ByteArray) (x:Value) (w:World) (lo:Nat) (hlo:0<lo) (hN:v.wt≤4294967296) (hk:v.kind=5) (hr:rises v.names=true) (hl:v.names.length=v.items.length) (hR:Rep w lo w.heap.size v x):Calls Tryz.prog 28 #[x,.string n] w (Has22 v.names n w):=by
 refine (valueGet v n x w lo w.heap.size hN hlo lz hR hk hr hl).mono ?_
 rintro e w' ⟨h|h,hb⟩
 · obtain ⟨q,h1,h2,h3,gn,gc,gi,gd,h4,h5⟩:=h
   exact ⟨true,_,_,_,gn,gi,_,gc,_,gd,h4,fun h=>(by cases h),hb⟩
 · exact ⟨false,0,0,⟨#[]⟩,none,none,0,0,0,0,h.2,fun _ hin=>by
    obtain ⟨t,ht,e⟩:=List.getElem_of_mem hin
    exact h.1 t ht e,hb⟩
theorem obj_name {w:World} {lo hi:Nat} {v:JV} {k m:Int} {t:ByteArray} {an ai:Option Addr} {cn ci l1 l2:Nat} (h:Rep w lo hi v (.agg #[.int .u8 k,.int .i64 m,.string t,.slice an l1 cn,.slice ai l2 ci])) (i:Nat) (hlt:i<v.names.length):∃b off,an=some ⟨b,off,none⟩∧b<hi∧w.cell? ⟨b,off+i,none⟩=some (.string v.names[i]):=by
 obtain ⟨an',cn',ai',ci',hx,-,-,h3,-⟩:=h.parts
 simp only [Value.agg.injEq,Array.mk.injEq,List.cons.injEq,and_true,Value.slice.injEq] at hx
 obtain ⟨-,-,-,⟨rfl,-,-⟩,-⟩:=hx
 rcases h3 with h0|⟨b,off,h4,-,h6,h5⟩
 · rw [h0] at hlt;exact absurd hlt (by simp)
 · exact ⟨b,off,h4,h6,h5 i hlt⟩
theorem type_err {R:RootV} (hm:mayRoot R=true) {t:ByteArray}:(rootOfA (withJ (rootJ R) 0 true typN (txtJ t))).2=if (withJ (rootJ R) 0 true typN (txtJ t)).mayB=false then 3 else if t=rootN then 0 else 13:=by
 cases hb:(withJ (rootJ R) 0 true typN (txtJ t)).mayB
 · unfold rootOfA
   rw [if_pos hb,if_pos rfl]
 · rw [if_neg (by decide),root_type hm]
   split
   · rename_i h0
     exfalso
     have hs:withJ (rootJ R) 0 true typN (txtJ t)=objJ ((typN,txtJ t) :: (rootM R).tail):=by
      rw [show rootJ R=objJ (rootM R) from rfl,withJ_set (N:=rootM R) (r:=0) (n:=typN) (by show 0<5;decide)]
      rfl
     have hp:=may_part hb
     rw [hs] at hp
     have h2:=(part_obj hp rfl).2.2.2 (txtJ t) (by simp [objJ,JV.items])
     rw [txtJ_partB,h0] at h2
     cases h2
   · split <;> rfl
end Go.Proofs.YtnlgmcapbbgelaaGreatDoor
