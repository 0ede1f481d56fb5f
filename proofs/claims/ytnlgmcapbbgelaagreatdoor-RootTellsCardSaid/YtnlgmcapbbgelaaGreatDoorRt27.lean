/- The contracts of legateref15.Digest, ids, May and of legateref16.sig. -/
import Derived.Test.YtnlgmcapbbgelaaGreatDoorCards
import Derived.Test.YtnlgmcapbbgelaaGreatDoorTie
import Derived.Test.YtnlgmcapbbgelaaGreatDoorRt05
import Derived.Test.YtnlgmcapbbgelaaGreatDoorRt26
import Derived.Deep.DeepHandedRow
import Derived.Lib.LaidTab
import Derived.ChangeMaps5
import Derived.Shelf.SlSortCmp.WholeK

namespace Go.Proofs.YtnlgmcapbbgelaaGreatDoor
open Go.ChangeShapes Go.WideShapes Go.ChangeAt Go.RowKit Go.Joins Go.ChangeMaps
theorem own:ownKnob Tryz.prog.godebug=none:=by kernel_rfl
theorem oK : Tryz.prog.globalNamed "legate/hex.digits" = some 2 := by kernel_rfl
theorem oV : Tryz.prog.globalNamed "legate/sha.initial" = some 4 := by kernel_rfl
theorem oW : Tryz.prog.globalNamed "legate/sha.rounds" = some 5 := by kernel_rfl
theorem oY:(Tryz.prog.globals[2]?).map (·.type)=some 184:=by kernel_rfl
theorem oG:(Tryz.prog.globals[4]?).map (·.type)=some 211:=by kernel_rfl
theorem oB:(Tryz.prog.globals[5]?).map (·.type)=some 238:=by kernel_rfl
theorem sI:Tryz.prog.cellsOf 184=16:=by kernel_rfl
theorem sO:Tryz.prog.cellsOf 211=8:=by kernel_rfl
theorem sE:Tryz.prog.cellsOf 238=64:=by kernel_rfl
theorem cells5:Tryz.prog.cellsOf 5=1:=by kernel_rfl
theorem lM:Tryz.prog.cellsOf 198=1:=by kernel_rfl
theorem o4 : Tryz.prog.globalNamed "internal/strconv.uint64pow10" = some 6 := by kernel_rfl
theorem oP : Tryz.prog.globalNamed "legate/when.before" = some 1 := by kernel_rfl
theorem oF:(Tryz.prog.globals[6]?).map (·.type)=some 255:=by kernel_rfl
theorem oH:(Tryz.prog.globals[1]?).map (·.type)=some 133:=by kernel_rfl
theorem s9:Tryz.prog.cellsOf 255=20:=by kernel_rfl
theorem aq:Tryz.prog.cellsOf 133=13:=by kernel_rfl
theorem tK:Tryz.prog.cellsOf 200=1:=by kernel_rfl
theorem az:Tryz.prog.cellsOf 3=1:=by kernel_rfl
theorem o5 : Tryz.prog.globalNamed "legate/root.tops" = some 0 := by kernel_rfl
theorem oU:(Tryz.prog.globals[0]?).map (·.type)=some 103:=by kernel_rfl
theorem aj:Tryz.prog.cellsOf 103=3:=by kernel_rfl
theorem rE:Tryz.prog.cellsOf 32=9:=by kernel_rfl
theorem r9:Tryz.prog.cellsOf 30=2:=by kernel_rfl
def hexZs:List Int:=[48,49,50,51,52,53,54,55,56,57,97,98,99,100,101,102]
def iniZs:List Int:=[1779033703,3144134277,1013904242,2773480762,1359893119,2600822924,528734635,1541459225]
def befZs:List Int:=[0,31,59,90,120,151,181,212,243,273,304,334,365]
abbrev laidAll : List (String × DataW Unit) := [("legate/hex.digits", Rows.laid_legate_hex_digits), ("math/bits.deBruijn32tab", Rows.laid_math_bits_deBruijn32tab), ("math/bits.deBruijn64tab", Rows.laid_math_bits_deBruijn64tab), ("internal/strconv.uint64pow10", Rows.laid_internal_strconv_uint64pow10), ("legate/sha.initial", Rows.laid_legate_sha_initial), ("legate/sha.rounds", Rows.laid_legate_sha_rounds), ("legate/when.before", Rows.laid_legate_when_before), ("legate/root.tops", Rows.laid_legate_root_tops)]
theorem qM {P:Program} {W:World} {x:String × DataW Unit} {r:List (String × DataW Unit)} (h:laidMet P (x :: r) W):laidMet P r W:=by
 obtain ⟨ps,⟨g,t,cs,fuel,p,q,h1,h2,h3,h4,h5,rfl⟩,hn,ha⟩:=h
 exact ⟨q,h5,(List.nodup_append.1 hn).2.1,fun b off hp=>ha b off (List.mem_append.2 (.inr hp))⟩
theorem tV {W:World} (h:laidMet Tryz.prog laidAll W):Tabs W:=by
 have h1 : Lib.TabIs Tryz.prog W "legate/hex.digits" .u8 hexZs := Lib.tabIs_of_head oK oY Tryz.underlying184 Tryz.underlying5 cells5 sI h
 have h5:=qM (qM (qM (qM h)))
 have h2 : Lib.TabIs Tryz.prog W "legate/sha.initial" .u32 iniZs := Lib.tabIs_of_head oV oG Tryz.underlying211 Tryz.underlying198 lM sO h5
 have h3 : Lib.TabIs Tryz.prog W "legate/sha.rounds" .u32 kays := Lib.tabIs_of_head oW oB Tryz.underlying238 Tryz.underlying198 lM sE (qM h5)
 have c1:∀i,i<16→W.cell? ⟨2,i,none⟩=some (.int .u8 (qL i).toNat):=fun i hi=>by
  rw [h1.cell oK i hi]
  have:∀m:Fin 16,hexZs.getD m.val 0=((qL m.val).toNat:Int):=by decide
  rw [this ⟨i,hi⟩]
 have c2:∀i,i<8→W.cell? ⟨4,i,none⟩=some (.int .u32 (wy.at i)):=fun i hi=>by
  rw [h2.cell oV i hi]
  have:∀m:Fin 8,iniZs.getD m.val 0=wy.at m.val:=by decide
  rw [this ⟨i,hi⟩]
 have c3:∀i,i<64→W.cell? ⟨5,i,none⟩=some (.int .u32 (kay i)):=fun i hi=>h3.cell oW i (show i<kays.length by exact hi)
 exact ⟨c2,c3,c1,World.block_lt_of_cell? W _ (c2 0 (by decide)),World.block_lt_of_cell? W _ (c3 0 (by decide)),World.block_lt_of_cell? W _ (c1 0 (by decide))⟩
theorem iS {W:World} (h:laidMet Tryz.prog laidAll W):js W :=
 Lib.tabIs_of_head o4 oF Tryz.underlying255 Tryz.underlying200 tK s9 (qM (qM (qM h)))
theorem tW {W:World} (h:laidMet Tryz.prog laidAll W):TabW W:=by
 have h1 : Lib.TabIs Tryz.prog W "legate/when.before" .i64 befZs := Lib.tabIs_of_head oP oH Tryz.underlying133 Tryz.underlying3 az aq (qM (qM (qM (qM (qM (qM h))))))
 have c1:∀i,i<13→W.cell? ⟨1,i,none⟩=some (.int .i64 (beforeN i)):=fun i hi=>by
  rw [h1.cell oP i hi]
  have:∀m:Fin 13,befZs.getD m.val 0=beforeN m.val:=by decide
  rw [this ⟨i,hi⟩]
 exact ⟨c1,World.block_lt_of_cell? W _ (c1 0 (by decide))⟩
def iy:List (List UInt8):=[[114,111,111,116],[115,110,97,112,115,104,111,116],[116,97,114,103,101,116,115]]
theorem fy {H:Type} {enc:TypeId × Value→H} {P:Program} {w:World} {base:Nat} {sp:Nat→Bool} {held:Bool} {fuel:Nat} {t e:TypeId} {n:Nat} {cs:List Value} {zs:List (List UInt8)} {p:List MemPlace}
 (ht:P.underlying t=some (.array n e)) (he:P.underlying e=some .string) (hce:P.cellsOf e=1) (hct:P.cellsOf t=n)
 (h:DataW.trod enc P w base sp held fuel t cs=some (.agg (zs.map fun z=>.lit (.string z)),p)):cs=zs.map fun z=>Value.string ⟨z.toArray⟩:=by
 cases fuel with
 | zero=>simp [DataW.trod] at h
 | succ fuel =>
  simp only [DataW.trod,ht,hce,hct,Nat.mul_one] at h
  split at h
  · rename_i hl
    obtain ⟨xs,hm,hx⟩:=Option.map_eq_some_iff.1 h
    have hxs:xs.map (·.1)=zs.map fun z=>(DataW.lit (.string z):DataW H):=by
     have:=congrArg Prod.fst hx
     simpa using this
    have hxl:xs.length=n:=by simpa using Lib.mapM_length hm
    have hzl:zs.length=n:=by
     have:=congrArg List.length hxs
     simp at this
     omega
    apply List.ext_getElem?
    intro i
    by_cases hi:i<n
    · obtain ⟨b,hb,hf⟩:=Lib.mapM_at hm i i (by simp [hi])
      obtain ⟨z,hc,rfl,_⟩:=DataW.trod_string he hf
      have h1:cs[i]?=some (.string z):=by
       have:=congrArg (·[0]?) hc
       simpa [List.getElem?_take,List.getElem?_drop] using this
      have h2:(xs.map (·.1))[i]?=some (DataW.lit (.string z.data.toList):DataW H):=by simp [hb]
      rw [hxs] at h2
      simp only [List.getElem?_map,Option.map_eq_some_iff,DataW.lit.injEq,Lit.string.injEq] at h2
      obtain ⟨z',hz',rfl⟩:=h2
      simp [h1,hz']
    · rw [List.getElem?_eq_none (by omega),List.getElem?_eq_none (by simp;omega)]
  · cases h
theorem tY {W:World} (h:laidMet Tryz.prog laidAll W):TopsW W:=by
 have h8 : laidMet Tryz.prog [("legate/root.tops", .agg (iy.map fun z => .lit (.string z)))] W := qM (qM (qM (qM (qM (qM (qM h))))))
 obtain ⟨ps,⟨g,t,cs,fuel,p,q,g1,g2,g3,g4,g5,rfl⟩,hn,ha⟩:=h8
 obtain rfl:0=g:=Option.some.inj (o5.symm.trans g1)
 rw [oU] at g2
 obtain rfl:103=t:=Option.some.inj g2
 have e:=fy Tryz.underlying103 Tryz.underlying9 fh aj g4
 obtain rfl:cs=(iy.map fun z=>Value.string ⟨z.toArray⟩).toArray:=by rw [← e]
 have hc:∀i:Nat,W.cell? ⟨0,i,none⟩=_:=World.var?_cell g1 g3
 have c0:W.cell? ⟨0,0,none⟩=some (.string ⟨#[114,111,111,116]⟩):=hc 0
 exact ⟨c0,hc 1,hc 2,World.block_lt_of_cell? W _ c0⟩
def ak:DataW Unit→Array Value
 | .agg l=>(l.map fun
  | .lit (.int k n)=>Value.int k n
  | .lit (.string s)=>Value.string ⟨s.toArray⟩
  | _=>undef).toArray
 | _=>#[]
def lay (g:Nat) (d:DataW Unit) (h:Array Obj):Array Obj:=h.modify g fun
 | .cells _ t frozen=>.cells (ak d) t frozen
 | o=>o
noncomputable def laidWorld (os:Os):World :=
 { World.holding Tryz.prog os ⟨#[],#[],[]⟩ with heap:=lay 0 Rows.laid_legate_root_tops (lay 1 Rows.laid_legate_when_before (lay 5 Rows.laid_legate_sha_rounds (lay 4 Rows.laid_legate_sha_initial (lay 6 Rows.laid_internal_strconv_uint64pow10 (lay 8 Rows.laid_math_bits_deBruijn64tab (lay 7 Rows.laid_math_bits_deBruijn32tab (lay 2 Rows.laid_legate_hex_digits (World.holding Tryz.prog os ⟨#[],#[],[]⟩).heap))))))) }
theorem dC {H:Type} {enc:TypeId × Value→H} {P:Program} {f:Func} {s:ChangeSpec} {a1 a2 a3 a4:Bool} {W W':World} {args:Array Value} {v:Value} {ds gs:List (DataW H)} {before pa pv:List MemPlace}
 (hW:DataW.Whole enc P f.params.toList s.vars a1 W args.toList ds gs before)
 (hr:∀(b:Nat) (sp:Nat→Bool) (hd:Bool),DataW.TrodAll enc P W' b sp hd f.resultTypes.toList (v.resultList f.resultTypes.size) (s.fn H (ds ++ gs)).results [])
 (ha:∀sp:Nat→Bool,(∀p ∈ before,sp p.block=true)→DataW.TrodAll enc P W' 0 sp true f.params.toList args.toList (s.fn H (ds ++ gs)).args pa)
 (hv:∀sp:Nat→Bool,(∀p ∈ before,sp p.block=true)→DataW.TrodVars enc P W' sp s.vars (s.fn H (ds ++ gs)).vars pv)
 (he:before=pa ++ pv) (hb:Below W.heap.size W W')
 (hok:∀(j:Nat) (t:TypeId) (r:Value),f.resultTypes[j]?=some t→(v.resultList f.resultTypes.size)[j]?=some r→Value.okWide P W' .any 0 t r) :
 s.post enc P f a1 a2 a3 a4 W args v W':=by
 have hlt:=hW.lt
 have hold:∀p ∈ before,(fun b=>decide (b<W.heap.size)) p.block=true:=fun p hp=>decide_eq_true (hlt p hp)
 refine ⟨ds,gs,before,[],pa,pv,hW,hr _ _ _,ha _ hold,hv _ hold,World.keptBut_mono (fun p hp=>⟨hp,.inr ?_⟩) (hb.frame (· ∈ before)),fun _=>?_⟩
 · rw [he] at hp;exact List.mem_append.1 hp
 obtain ⟨_,_,_,_,_,hz,hn⟩:=hW
 refine ⟨hok,_,_,([] ++ pa) ++ pv,⟨[] ++ pa,pv,trodAll_append (ha _ fun _ _=>rfl) (hr _ _ _),hv _ fun _ _=>rfl,rfl,fun b off hp=>?_,fun h1=>?_⟩,fun p hp _=>?_⟩
 · have hin:MemPlace.cell b off ∈ before:=by rw [he];exact hp
   rw [hb.frozen (hlt _ hin)];exact hz b off hin
 · have:=hn h1;rwa [he] at this
 · rw [he];exact hp
theorem laidOut:laidOutB Tryz.prog=true:=by kernel_rfl
theorem wW {H:Type} {enc:TypeId × Value→H} {W W':World} {sp:Nat→Bool} (hb:Below W.heap.size W W'):∀(ts:List TypeId) (vs:List Value) (ds:List (DataW H)) (ps:List MemPlace),
 (∀t ∈ ts,Tryz.prog.readableRec t=true∧t<Tryz.prog.types.size)→DataW.TrodAll enc Tryz.prog W 0 (fun _=>true) true ts vs ds ps→(∀x ∈ ps,x.block<W.heap.size)→(∀x ∈ ps,sp x.block=true)→DataW.TrodAll enc Tryz.prog W' 0 sp true ts vs ds ps
 | [],vs,ds,ps,_,h,_,_=>by
  cases vs <;> cases ds <;> simp [DataW.TrodAll] at h
  subst h;simp [DataW.TrodAll]
 | t :: ts,vs,ds,ps,ht,h,hlt,hs=>by
  obtain ⟨v,vs',d,ds',p,q,rfl,rfl,rfl,hd,hr⟩:=trodAll_cons h
  obtain ⟨h1,h2⟩:=ht t (by simp)
  have e1:=WideElems.Trod_stays (sp':=sp) laidOut h1 h2 hd (fun x hx=>hb.same (hlt x (List.mem_append.2 (.inl hx)))) (fun x hx=>hs x (List.mem_append.2 (.inl hx)))
  have e2:=wW hb ts vs' ds' q (fun t' h'=>ht t' (List.mem_cons.2 (.inr h'))) hr (fun x hx=>hlt x (List.mem_append.2 (.inr hx))) (fun x hx=>hs x (List.mem_append.2 (.inr hx)))
  exact ⟨p,q,e1,e2,rfl⟩
theorem uC {H:Type} {enc:TypeId × Value→H} {P:Program} {w:World} {base:Nat} {spare:Nat→Bool} {held:Bool} {t:TypeId} {f0 f1 f2 f3 f4 f5:Field} {fuel:Nat} {cs:List Value} {x:DataW H × List MemPlace} (ht:P.underlying t=some (.struct #[f0,f1,f2,f3,f4,f5])) (h:DataW.trod enc P w base spare held fuel t cs=some x) :
 ∃y0 y1 y2 y3 y4 y5 n,DataW.trod enc P w base spare held n f0.type ((cs.drop f0.offset).take (P.cellsOf f0.type))=some y0∧DataW.trod enc P w base spare held n f1.type ((cs.drop f1.offset).take (P.cellsOf f1.type))=some y1∧DataW.trod enc P w base spare held n f2.type ((cs.drop f2.offset).take (P.cellsOf f2.type))=some y2 ∧
  DataW.trod enc P w base spare held n f3.type ((cs.drop f3.offset).take (P.cellsOf f3.type))=some y3∧DataW.trod enc P w base spare held n f4.type ((cs.drop f4.offset).take (P.cellsOf f4.type))=some y4∧DataW.trod enc P w base spare held n f5.type ((cs.drop f5.offset).take (P.cellsOf f5.type))=some y5:=by
 obtain ⟨xs,n,_,rfl,hl,hlen,hf⟩:=DataW.trod_struct ht h
 match xs,hlen with
 | [y0,y1,y2,y3,y4,y5],_=>exact ⟨y0,y1,y2,y3,y4,y5,n,by simpa using hf 0 f0 rfl,by simpa using hf 1 f1 rfl,by simpa using hf 2 f2 rfl,by simpa using hf 3 f3 rfl,by simpa using hf 4 f4 rfl,by simpa using hf 5 f5 rfl⟩
theorem dD {n:Int} (h:(Lit.int .i64 n).wf=true):-9223372036854775808≤n∧n≤9223372036854775807:=by
 unfold Lit.wf at h
 rw [Bool.and_eq_true,decide_eq_true_eq,decide_eq_true_eq] at h
 exact h
section
variable {H:Type} {enc:TypeId × Value→H} {W:World} {base:Nat}
set_option maxRecDepth 100000 in
theorem tB {v:Value} {d:DataW H} {p:List MemPlace} (hv:Value.okWide Tryz.prog W .any base 9 v) (h:DataW.Trod enc Tryz.prog W 0 (fun _=>true) true 9 v d p) :
 ∃s:ByteArray,v=.string s:=by
 obtain ⟨s,rfl,_⟩:=open_string Tryz.underlying9 hv h
 exact ⟨s,rfl⟩
set_option maxRecDepth 100000 in
theorem y9 {fuel:Nat} {spare:Nat→Bool} {held:Bool} {cs:List Value} {x:DataW H × List MemPlace} (h:DataW.trod enc Tryz.prog W 0 spare held fuel 30 cs=some x) :
 ∃(t:Int) (a:Option Addr) (cap:Nat) (l:List ByteArray),cs=[.int .i64 t,.slice a l.length cap]∧(-9223372036854775808≤t∧t≤9223372036854775807)∧l.length≤cap∧l.length≤9223372036854775807∧qv W 0 W.heap.size a l:=by
 obtain ⟨c0,c1,y0,y1,n,rfl,h0,h1⟩:=mu Tryz.underlying30 (by kernel_rfl) r9 h
 obtain ⟨t,e0,_,w0⟩:=DataW.trod_int Tryz.underlying3 h0
 obtain ⟨ia,ic,ids,e1,hc,hm,_,hS⟩:=cE Tryz.underlying22 Tryz.underlying9 fh h1
 simp only [List.cons.injEq,and_true] at e0
 subst e0 e1
 exact ⟨t,ia,ic,ids,rfl,dD w0,hc,by unfold maxLen at hm;omega,hS⟩
structure RootGot (W:World) (v e:Int) (l:List Key2) (t1 t2 t3:Int) (d1 d2 d3:List ByteArray) (ka i1 i2 i3:Option Addr) (kc:Nat):Prop where
 hv:-9223372036854775808≤v∧v≤9223372036854775807
 he:-9223372036854775808≤e∧e≤9223372036854775807
 ha:-9223372036854775808≤t1∧t1≤9223372036854775807
 hb:-9223372036854775808≤t2∧t2≤9223372036854775807
 hc:-9223372036854775808≤t3∧t3≤9223372036854775807
 lk:l.length≤9223372036854775807
 l1:d1.length≤9223372036854775807
 l2:d2.length≤9223372036854775807
 l3:d3.length≤9223372036854775807
 ck:l.length≤kc
 rows:RootIn W 0 W.heap.size ⟨v,e,l,⟨⟨t1,d1⟩,⟨t2,d2⟩,⟨t3,d3⟩⟩⟩ ka i1 i2 i3
set_option maxRecDepth 100000 in
theorem cK {x:Value} {d:DataW H} {p:List MemPlace} (hv:Value.okWide Tryz.prog W .any base 32 x) (h:DataW.Trod enc Tryz.prog W 0 (fun _=>true) true 32 x d p) :
 ∃(v e:Int) (l:List Key2) (t1 t2 t3:Int) (d1 d2 d3:List ByteArray) (ka i1 i2 i3:Option Addr) (kc c1 c2 c3:Nat),x=.agg #[.int .i64 v,.int .i64 e,.slice ka l.length kc,.int .i64 t1,.slice i1 d1.length c1,.int .i64 t2,.slice i2 d2.length c2,.int .i64 t3,.slice i3 d3.length c3]∧RootGot W v e l t1 t2 t3 d1 d2 d3 ka i1 i2 i3 kc:=by
 obtain ⟨cs,rfl,hsz⟩:=okWide_struct Tryz.underlying32 hv
 rw [rE] at hsz
 obtain ⟨cs⟩:=cs
 obtain ⟨x0,x1,x2,x3,x4,x5,x6,x7,x8,rfl⟩:∃x0 x1 x2 x3 x4 x5 x6 x7 x8,cs=[x0,x1,x2,x3,x4,x5,x6,x7,x8]:=by
  match cs,hsz with
  | [x0,x1,x2,x3,x4,x5,x6,x7,x8],_=>exact ⟨x0,x1,x2,x3,x4,x5,x6,x7,x8,rfl⟩
 obtain ⟨fuel,hf⟩:=h
 obtain ⟨y0,y1,y2,y3,y4,y5,n,h0,h1,h2,h3,h4,h5⟩:=uC Tryz.underlying32 hf
 have g0:DataW.trod enc Tryz.prog W 0 (fun _=>true) true n 2 [x0]=some y0:=h0
 have g1:DataW.trod enc Tryz.prog W 0 (fun _=>true) true n 2 [x1]=some y1:=h1
 have g2:DataW.trod enc Tryz.prog W 0 (fun _=>true) true n 28 [x2]=some y2:=h2
 have g3:DataW.trod enc Tryz.prog W 0 (fun _=>true) true n 30 [x3,x4]=some y3:=h3
 have g4:DataW.trod enc Tryz.prog W 0 (fun _=>true) true n 30 [x5,x6]=some y4:=h4
 have g5:DataW.trod enc Tryz.prog W 0 (fun _=>true) true n 30 [x7,x8]=some y5:=h5
 obtain ⟨v,e0,_,w0⟩:=DataW.trod_int Tryz.underlying2 g0
 obtain ⟨e,e1,_,w1⟩:=DataW.trod_int Tryz.underlying2 g1
 obtain ⟨ka,kc,l,e2,hkc,hm,_,hK⟩:=rx g2
 obtain ⟨t1,i1,c1,d1,e3,a1,_,b1,s1⟩:=y9 g3
 obtain ⟨t2,i2,c2,d2,e4,a2,_,b2,s2⟩:=y9 g4
 obtain ⟨t3,i3,c3,d3,e5,a3,_,b3,s3⟩:=y9 g5
 simp only [List.cons.injEq,and_true] at e0 e1 e3 e4 e5
 obtain ⟨rfl,rfl⟩:=e3
 obtain ⟨rfl,rfl⟩:=e4
 obtain ⟨rfl,rfl⟩:=e5
 subst e0 e1 e2
 exact ⟨v,e,l,t1,t2,t3,d1,d2,d3,ka,i1,i2,i3,kc,c1,c2,c3,rfl,⟨dD w0,dD w1,a1,a2,a3,by unfold maxLen at hm;omega,b1,b2,b3,hkc,⟨hK,s1,s2,s3⟩⟩⟩
end
end Go.Proofs.YtnlgmcapbbgelaaGreatDoor

namespace Go.Proofs.YtnlgmcapbbgelaaGreatDoor
open Go.RowKit Go.Shelf Go.Sort
theorem cV:∀a b:List UInt8,decide (Lib.compareBytes a b<0)=Op.bytesLess a b
 | [],[]=>rfl
 | [],_ :: _=>rfl
 | _ :: _,[]=>rfl
 | a :: ax,b :: bx=>by
  unfold Lib.compareBytes Op.bytesLess
  by_cases h1:a<b
  · simp [h1]
  · by_cases h2:b<a
    · have:¬a=b:=fun e=>by subst e;exact h1 h2
      simp [h1,h2,this]
    · have e:a=b:=UInt8.le_antisymm (UInt8.not_lt.1 h2) (UInt8.not_lt.1 h1)
      subst e
      rw [if_neg h1,if_neg h1,cV ax bx]
      simp
theorem gG (x y:Mem):ltOf cfM x y=bl x.name y.name:=by
 unfold ltOf cfM bl
 rw [cV,ByteArray.toList_eq,ByteArray.toList_eq]
theorem nz {a b c:ByteArray} (h:bl a b=false) (h':bl b c=false):bl a c=false:=by
 cases h2:bl a c
 · rfl
 · cases h3:bl b a
   · rw [pq h h3,h'] at h2;cases h2
   · rw [xm h3 h2] at h';cases h'
theorem o6:SWO (ltOf cfM) where
 irrefl x:=by rw [gG];exact zj _
 trans x y z:=by rw [gG,gG,gG];exact xm
 ntrans x y z:=by rw [gG,gG,gG];exact nz
def nx (d d':Array Mem):Prop:=d'.size=d.size∧d'.toList.Perm d.toList∧∀i j,i<j→j<d.size→bl d'[j]!.name d'[i]!.name=false
def aw (blk off:Nat) (d:Array Mem) (w:World) (e:Ending) (w':World):Prop :=
 e=.returned (.tuple #[])∧∃d',nx d d'∧HoldsK qY 6 w' blk off d'∧Touch (· = blk) w w'
theorem tP (blk off cap:Nat) (d:Array Mem) (w:World) (hH:HoldsK qY 6 w blk off d) (hblk:blk<w.heap.size) (h12:d.size≤4294967296) :
 Calls Tryz.prog 119 #[.slice (some ⟨blk,off,none⟩) d.size cap,.func (.func 120) #[] #[]] w (aw blk off d w):=by
 have eg:∀args w,(callFunc 120 args).run Tryz.prog w=.ok (.enter 120 args) w:=enters_of Tryz.func120 (by kernel_rfl) rfl
 have hcon:=AnyQ.slices_SortFunc rk 6 Tryz.isAgg144 Tryz.sizeOf144 qY ze yu cfM o6 120 #[] blk off cap d w eg (fun _ _ _ _ x y=>sA x y _) hH hblk (by omega)
 refine hcon.mono ?_
 rintro e w' ⟨rfl,d',n,os,hp,hs,rfl⟩
 refine ⟨rfl,d',⟨hp.1,?_,fun i j hij hj=>?_⟩,holdsK_grow qY 6 _ _ _ _ _ (by simp [putRowK,Go.Sort.ahead];exact hblk) (holdsK_putRowK qY 6 _ _ _ d _ (holdsK_ahead qY 6 _ _ _ _ _ hH) hp.1),jU⟩
 · have:=hp.2.2
   have e1:d'.extract 0 d.size=d':=by rw [← hp.1];simp
   have e2:d.extract 0 d.size=d:=by simp
   rwa [e1,e2] at this
 · have:=hs i j (Nat.zero_le _) hij hj
   rwa [gG] at this
def xy (seen:List ByteArray):List Key2→Int
 | []=>0
 | k :: r=>if ok2 k then (if zN seen (id2 k) then 7 else xy (seen ++ [id2 k]) r) else 3
def jM (l:List Key2):Int:=if 32<l.length then 5 else xy [] l
theorem vG (l:List Key2) (k:Nat) (h:k<l.length):xy (ids (l.take k)) (l.drop k)=if ok2 l[k] then (if zN (ids (l.take k)) (id2 l[k]) then 7 else xy (ids (l.take (k+1))) (l.drop (k+1))) else 3:=by
 rw [List.drop_eq_getElem_cons h,xy]
 have:ids (l.take k) ++ [id2 l[k]]=ids (l.take (k+1)):=by unfold ids;rw [List.take_succ_eq_append_getElem h,List.map_append];rfl
 rw [this]
theorem vB:∀(l:List Key2) (seen:List ByteArray),xy seen l=0↔(∀k ∈ l,ok2 k=true)∧(∀k ∈ l,id2 k ∉ seen)∧(ids l).Nodup
 | [],seen=>by simp [xy,ids]
 | k :: r,seen=>by
  unfold xy
  have ih:=vB r (seen ++ [id2 k])
  by_cases h1:ok2 k=true
  · rw [if_pos h1]
    by_cases h2:zN seen (id2 k)=true
    · rw [if_pos h2]
      have:=(xR _ _).1 h2
      constructor
      · intro h;cases h
      · rintro ⟨_,h,_⟩;exact absurd this (h k (List.mem_cons_self ..))
    · rw [if_neg h2,ih]
      have h3:id2 k ∉ seen:=fun h=>h2 ((xR _ _).2 h)
      unfold ids
      rw [List.map_cons,List.nodup_cons]
      constructor
      · rintro ⟨a,b,c⟩
        refine ⟨fun x hx=>?_,fun x hx=>?_,fun hm=>?_,c⟩
        · rcases List.mem_cons.1 hx with rfl|hx
          · exact h1
          · exact a x hx
        · rcases List.mem_cons.1 hx with rfl|hx
          · exact h3
          · exact fun h=>b x hx (List.mem_append_left _ h)
        · obtain ⟨x,hx,e⟩:=List.mem_map.1 hm
          exact b x hx (by rw [e];simp)
      · rintro ⟨a,b,c,d⟩
        refine ⟨fun x hx=>a x (List.mem_cons_of_mem _ hx),fun x hx hm=>?_,d⟩
        rcases List.mem_append.1 hm with hm|hm
        · exact b x (List.mem_cons_of_mem _ hx) hm
        · simp at hm
          exact c (List.mem_map.2 ⟨x,hx,hm⟩)
  · rw [if_neg h1]
    constructor
    · intro h;cases h
    · rintro ⟨h,_⟩;exact absurd (h k (List.mem_cons_self ..)) h1
theorem cW {α β:Type} (f:α→β) {l1 l2:List β} (h:l1.Perm l2):∀zs:List α,zs.map f=l2→∃zs':List α,zs'.Perm zs∧zs'.map f=l1:=by
 induction h with
 | nil=>intro zs h;exact ⟨[],by rw [List.map_eq_nil_iff.1 h],rfl⟩
 | cons x _ ih =>
  intro zs h
  match zs,h with
  | z :: zr,h =>
   simp only [List.map_cons,List.cons.injEq] at h
   obtain ⟨zs',hp,e⟩:=ih zr h.2
   exact ⟨z :: zs',hp.cons z,by simp [e,h.1]⟩
 | swap x y r =>
  intro zs h
  match zs,h with
  | [_],h=>simp at h
  | a :: b :: zr,h =>
   simp only [List.map_cons,List.cons.injEq] at h
   exact ⟨b :: a :: zr,List.Perm.swap _ _ _,by simp [h.1,h.2.1,h.2.2]⟩
 | trans _ _ ih1 ih2 =>
  intro zs h
  obtain ⟨z1,p1,e1⟩:=ih2 zs h
  obtain ⟨z2,p2,e2⟩:=ih1 z1 e1
  exact ⟨z2,p2.trans p1,e2⟩
theorem gq {l:List ByteArray} (h:∀i j (hi:i<l.length) (hj:j<l.length),i<j→bl l[i] l[j]=true):qr l=true:=by
 match l with
 | []=>rfl
 | [_]=>rfl
 | a :: b :: r =>
  unfold qr
  rw [Bool.and_eq_true]
  refine ⟨h 0 1 (by simp) (by simp) (by omega),gq fun i j hi hj hij=>?_⟩
  have:=h (i+1) (j+1) (by simpa using hi) (by simpa using hj) (by omega)
  simpa using this
theorem yi {m1 m2:List Key2} (hp:m1.Perm m2) (h1:qr (ids m1)=true) (h2:qr (ids m2)=true):m1=m2:=by
 have pw:∀m:List Key2,qr (ids m)=true→m.Pairwise (fun a b=>bl (id2 a) (id2 b)=true):=fun m h=>by
  rw [List.pairwise_iff_getElem]
  intro i j hi hj hij
  have:=z8 h i j (by simpa [ids] using hi) (by simpa [ids] using hj) hij
  simpa [ids] using this
 refine hp.eq_of_pairwise (le:=fun a b=>bl (id2 a) (id2 b)=true) (fun a b _ _ x y=>?_) (pw m1 h1) (pw m2 h2)
 rw [mU x] at y;cases y
def xn (w:World) (base:Nat) (X:Nat→Prop) (zs:List (Mem × Key2)):Prop :=
 ∀z ∈ zs,z.1.name=id2 z.2∧∃lo hi,base≤lo∧hi≤w.heap.size∧(∀b,X b→¬(lo≤b∧b<hi))∧Rep w lo hi (obj2 z.2) z.1.val
theorem xn.nil (w:World) (base:Nat) (X:Nat→Prop):xn w base X []:=fun z h=>by simp at h
theorem xn.carry {w w':World} {base:Nat} {X X':Nat→Prop} {zs:List (Mem × Key2)} (h:xn w base X zs) (hsz:w.heap.size≤w'.heap.size)
 (hs:∀b,b<w.heap.size→¬X b→base≤b→w'.heap[b]?=w.heap[b]?) (hX:∀b,X' b→X b∨w.heap.size≤b∨b<base):xn w' base X' zs:=by
 intro z hz
 obtain ⟨hn,lo,hi,h1,h2,h3,hr⟩:=h z hz
 refine ⟨hn,lo,hi,h1,by omega,fun b hx hb=>?_,Rep.carry lz lz (fun b hb1 hb2=>hs b (by omega) (fun hx=>h3 b hx ⟨hb1,hb2⟩) (by omega)) _ _ hr⟩
 rcases hX b hx with hx|hx|hx
 · exact h3 b hx hb
 · omega
 · omega
theorem xn.snoc {w:World} {base:Nat} {X:Nat→Prop} {zs:List (Mem × Key2)} (h:xn w base X zs) (x:Mem) (k:Key2) (lo hi:Nat) (hn:x.name=id2 k) (h1:base≤lo) (h2:hi≤w.heap.size) (h3:∀b,X b→¬(lo≤b∧b<hi)) (hr:Rep w lo hi (obj2 k) x.val) :
 xn w base X (zs ++ [(x,k)]):=by
 intro z hz
 rcases List.mem_append.1 hz with hz|hz
 · exact h z hz
 · simp at hz;subst hz;exact ⟨hn,lo,hi,h1,h2,h3,hr⟩
theorem xn.perm {w:World} {base:Nat} {X:Nat→Prop} {zs zs':List (Mem × Key2)} (h:xn w base X zs) (hp:zs'.Perm zs):xn w base X zs':=fun z hz=>h z (hp.subset hz)
theorem flat_get {ms:List Mem} (i c:Nat) (hi:i<ms.length) (hc:c<6):(ms.flatMap qY)[i * 6+c]?=some ((qY ms[i])[c]!):=by
 induction ms generalizing i with
 | nil=>simp at hi
 | cons m r ih =>
  rw [List.flatMap_cons]
  rcases i with _|i
  · rw [List.getElem?_append_left (by rw [ze];omega)]
    rw [Nat.zero_mul,Nat.zero_add]
    have:c<(qY m).length:=by rw [ze];exact hc
    rw [List.getElem?_eq_getElem this]
    show some _=some ((qY m)[c]!)
    rw [getElem!_pos (qY m) c this]
  · rw [List.getElem?_append_right (by rw [ze];omega),ze,show (i+1) * 6+c - 6=i * 6+c by omega]
    exact ih i (by simpa using hi)
theorem dL {w:World} {base e g cap n:Nat} {ms:List Mem} (h:w.ownsRow base e 6 (.slice (some ⟨g,0,none⟩) n cap) n (ms.flatMap qY)):HoldsK qY 6 w g 0 ms.toArray:=by
 intro j hj
 have hj':j<ms.length * 6:=by simpa using hj
 rcases h.2 with ⟨hx,_⟩|⟨g',cap',cur,hx,hg,hh,_⟩
 · cases hx
 · simp only [Value.slice.injEq,Option.some.injEq,Addr.mk.injEq,and_true] at hx
   obtain ⟨rfl,_⟩:=hx
   refine ⟨?_,by simp [World.frozen?,hh]⟩
   have hq:j / 6<ms.length:=by omega
   have hm:j % 6<6:=Nat.mod_lt _ (by decide)
   have hf:=flat_get (ms:=ms) (j / 6) (j % 6) hq hm
   rw [show j / 6 * 6+j % 6=j by omega] at hf
   have hc:=h.cells (g:=g) rfl j _ hf
   have ea:(⟨g,0,none⟩:Addr).add j=⟨g,j,none⟩:=by unfold Addr.add;split <;> simp_all
   rw [ea] at hc
   rw [Nat.zero_add,hc,get_flatK _ _ _ _ (by simpa using hj')]
   congr 2
   simp [hq]
end Go.Proofs.YtnlgmcapbbgelaaGreatDoor

namespace Go.Proofs.YtnlgmcapbbgelaaGreatDoor
open Go.RowKit
theorem nj (x:Int):xg x 0=x:=by unfold xg;simp
theorem nv (x:Int) (h:w32 x) (n:Nat) (hn:n<32):xg x (n+1)=xg x n / 2+xg x n % 2 * 2147483648:=by
 obtain ⟨h0,_⟩:=h
 obtain ⟨X,rfl⟩:=Int.eq_ofNat_of_zero_le h0
 have e1:(2:Int) ^ (32 - n)=2 * 2 ^ (32 - (n+1)):=by
  rw [show 32 - n=(32 - (n+1))+1 by omega,Int.pow_succ];omega
 have e2:(2:Int) ^ (n+1)=2 * 2 ^ n:=by rw [Int.pow_succ];omega
 have e3:(2:Int) ^ n * 2 ^ (32 - (n+1))=2147483648:=by rw [← Int.pow_add,show n+(32 - (n+1))=31 by omega];rfl
 unfold xg
 rw [e1,e2]
 generalize hA:(2:Int) ^ n=A at *
 generalize hB:(2:Int) ^ (32 - (n+1))=B at *
 have hA0:0<A:=by rw [← hA];exact Int.pow_pos (by omega)
 obtain ⟨q,hq⟩:∃q,q=(X:Int) / A:=⟨_,rfl⟩
 have hm:(X:Int) % A=X - A * q:=by rw [hq];have:=Int.emod_add_mul_ediv (X:Int) A;omega
 have hd:(X:Int) / (2 * A)=q / 2:=by rw [hq,Int.mul_comm 2 A,Int.ediv_ediv_of_nonneg (by omega)]
 have hm2:(X:Int) % (2 * A)=X - 2 * A * (q / 2):=by have:=Int.emod_add_mul_ediv (X:Int) (2 * A);rw [hd] at this;omega
 rw [hm2,hd,← hq,hm]
 have f1:((X:Int) - A * q) * (2 * B)+q=2 * (((X:Int) - A * q) * B)+q:=by rw [← Int.mul_assoc,Int.mul_comm _ 2,Int.mul_assoc]
 rw [f1]
 have f2:((X:Int) - 2 * A * (q / 2)) * B=((X:Int) - A * q) * B+(q % 2) * (A * B):=by
  have:q=2 * (q / 2)+q % 2:=by omega
  have f3:(X:Int) - 2 * A * (q / 2)=(X - A * q)+A * (q % 2):=by
   have g:A * q=A * (2 * (q / 2))+A * (q % 2):=by rw [← Int.mul_add,← this]
   have g2:A * (2 * (q / 2))=2 * A * (q / 2):=by rw [← Int.mul_assoc,Int.mul_comm A 2]
   omega
  rw [f3,Int.add_mul,Int.mul_comm A (q % 2),Int.mul_assoc]
 rw [f2,e3]
 omega
set_option maxHeartbeats 400000 in
theorem nw (x:Int) (n:Nat) (w:World) (h:w32 x) (hn:n≤31) :
 Calls Tryz.prog 225 #[.int .u32 x,.int .i64 n] w fun e w'=>e=.returned (.int .u32 (xg x n))∧w=w':=by
 have HX:=Lh h
 clear h
 go_enter Tryz.func225,Tryz.ntmps225
 go_wp2
 go_loop [0,5] (fun y i=>∃k:Nat,k≤n∧i=.int .i64 k∧y=.int .u32 (xg x k)) (fun _ i=>n - (intOf i).toNat)
 case atStart=>exact ⟨0,by omega,rfl,by rw [nj]⟩
 case round =>
  obtain ⟨k,hk,rfl,rfl⟩:=hrel
  obtain ⟨b1,b2⟩:=aS HX.out k (by omega)
  by_cases hlt:k<n
  · have HS:=Lh (nv x HX.out k (by omega))
    generalize xg x k=y at *
    go_wp2
    go_round
    case rel=>exact ⟨k+1,by omega,by go_num,by rw [HS.out]⟩
    case measure=>simp [intOf];omega
  · obtain rfl:k=n:=by omega
    go_wp2
    go_ret
    exact ⟨rfl,rfl⟩
set_option maxHeartbeats 400000 in
theorem iA (x:Int) (n:Nat) (w:World) (h:w32 x) (hn:n≤31) :
 Calls Tryz.prog 235 #[.int .u32 x,.int .i64 n] w fun e w'=>e=.returned (.int .u32 (x / 2 ^ n))∧w=w':=by
 obtain ⟨b1,b2⟩:=h
 go_enter Tryz.func235,Tryz.ntmps235
 go_wp2
 go_loop [0,5] (fun y i=>∃k:Nat,k≤n∧i=.int .i64 k∧y=.int .u32 (x / 2 ^ k)) (fun _ i=>n - (intOf i).toNat)
 case atStart=>exact ⟨0,by omega,rfl,by simp⟩
 case round =>
  obtain ⟨k,hk,rfl,rfl⟩:=hrel
  have c1:0≤x / 2 ^ k:=Int.ediv_nonneg b1 (by have:=Int.pow_pos (n:=2) (m:=k) (by omega);omega)
  have c2:x / 2 ^ k<4294967296:=by have:=Int.ediv_le_self (2 ^ k) b1;omega
  by_cases hlt:k<n
  · have HS:=Lh (show x / 2 ^ (k+1)=x / 2 ^ k / 2 by rw [Int.pow_succ,Int.ediv_ediv_of_nonneg (by have:=Int.pow_pos (n:=2) (m:=k) (by omega);omega)])
    generalize x / 2 ^ k=y at *
    go_wp2
    go_round
    case rel=>exact ⟨k+1,by omega,by go_num,by rw [HS.out]⟩
    case measure=>simp [intOf];omega
  · obtain rfl:k=n:=by omega
    go_wp2
    go_ret
    exact ⟨rfl,rfl⟩
theorem tF {w:World} {g T N:Nat} {v:Value} {f:Nat→Value} (hrow:w.rowIs g T N f) (h:∀j,j<N→f j=v) (hN:N≤maxLen):w.ownsRow g T 1 (.slice (some ⟨g,0,none⟩) N N) N (List.replicate N v):=by
 obtain ⟨cur,hh,hz,hf⟩:=hrow
 refine ⟨by simp,.inr ⟨g,N,cur,rfl,Nat.le_refl _,hh,Nat.le_refl _,hN,by omega,?_⟩⟩
 apply List.ext_getElem?
 intro j
 by_cases hj:j<N
 · have h1:=hf j hj
   rw [h j hj] at h1
   have h2:j<cur.size:=by omega
   rw [Array.getElem?_eq_getElem h2] at h1
   simp only [Option.some.injEq] at h1
   simp [hj,h2,h1]
 · rw [List.getElem?_eq_none (by simp;omega),List.getElem?_eq_none (by simp;omega)]
theorem ny (c:UInt8) (n:Nat):Lib.byteCells (List.replicate n c)=List.replicate n (.int .u8 c.toNat):=by simp [Lib.byteCells]
set_option maxHeartbeats 1000000 in
set_option maxRecDepth 100000 in
theorem oM (c:UInt8) (w:World):Calls Tryz.prog 19 #[.int .u8 c.toNat] w fun e w'=>e=.returned (.string (zL c))∧Below w.heap.size w w':=by
 obtain ⟨s,hs⟩:∃s,s=zL c:=⟨_,rfl⟩
 have HS:=Lh (show s=⟨(List.replicate 64 c).toArray⟩ from hs)
 rw [← hs]
 obtain ⟨n,hn⟩:∃n:Nat,n=c.toNat:=⟨_,rfl⟩
 have HN:=Lh hn
 rw [← hn]
 clear hs hn
 obtain ⟨i0,hi,hz0,hz1,hz2⟩:=info_parts pD
 go_enter Tryz.func19,Tryz.ntmps19
 go_wp2_with (at_make;refine wpList_make_full _ rfl (.const (.int .i64 64)) (.const (.int .i64 64)) 99 rfl w.heap.size 5 i0 (.int .u8 0) 1 Tryz.underlying99 hi hz0 hz1 .i64 .i64 _ _ 64 rfl rfl rfl rfl ?b2 ?b3 lz ?_)
 case b2=>rw [hz2];decide
 case b3=>unfold maxLen;decide
 intro w1 hown hgrow
 have HB1:Hid (Below w.heap.size w w1):=(Below.refl _ _).grown hgrow lz (by simp)
 have HR1:=Lh (show ∃f,w1.rowIs w.heap.size 5 64 f from by
  rcases hown.2 with ⟨h,_⟩|⟨g,cap,cur,hv,hg,hh,hc,hm,hz,ht⟩
  · cases h
  · simp only [Value.slice.injEq,Option.some.injEq,Addr.mk.injEq,and_true,true_and] at hv
    obtain ⟨rfl,rfl⟩:=hv
    exact ⟨fun i=>cur[i]!,cur,hh,hz,fun i hi=>by show cur[i]?=some cur[i]!;rw [getElem!_pos cur i (by omega),Array.getElem?_eq_getElem (by omega)]⟩)
 have HZ1:=Lh (show w.heap.size<w1.heap.size from by
  obtain ⟨f,hf⟩:=HR1.out
  exact hf.lt)
 clear hown hgrow
 go_wp2
 go_loopw [4] (fun i wr=>∃(k:Nat) (f:Nat→Value),k≤64∧i=.int .i64 k∧wr.rowIs w.heap.size 5 64 f∧(∀j,j<k→f j=.int .u8 n)∧Below w.heap.size w wr) (fun i _=>64 - (intOf i).toNat)
 case atStart =>
  obtain ⟨f,hf⟩:=HR1.out
  exact ⟨0,f,by omega,rfl,hf,fun j h=>by omega,HB1.out⟩
 case round =>
  obtain ⟨k,f,hk,rfl,hrow,hal,hbel⟩:=hrel
  have HAL:=Lh hal
  have HB:=Lh hbel
  have HRW:=Lh hrow
  clear hal hbel
  by_cases hlt:k<64
  · have m1:decide ((k:Int)<64)=true:=by simp;omega
    have m0:(0:Int)≤(k:Int):=by omega
    have m2:(k:Int)<64:=by omega
    have e0:=hrow.cell (i:=k) hlt
    have f0:=hrow.frozen k
    have HRN:=Lh (hrow.set k (.int .u8 (n:Int)))
    clear hrow
    go_wp2
    go_roundw
    case rel =>
     refine ⟨k+1,_,by omega,by go_num,HRN.out,fun j hj=>?_,HB.out.setCell lz _⟩
     by_cases e:j=k
     · simp [e]
     · simp only [e,if_false];exact HAL.out j (by omega)
    case measure=>simp [intOf];omega
  · obtain rfl:k=64:=by omega
    have m1:decide (((64:Nat):Int)<64)=false:=by decide
    have hown2:=tF hrow (fun j hj=>HAL.out j hj) (by unfold maxLen;omega)
    rw [HN.out,← ny] at hown2
    have hcv:=zW (P:=Tryz.prog) 99 9 5 Tryz.underlying99 Tryz.underlying5 Tryz.underlying9 hown2
    rw [← HS.out] at hcv
    clear hrow hown2
    go_wp2
    go_ret
    exact ⟨rfl,HB.out⟩
set_option maxHeartbeats 1000000 in
set_option maxRecDepth 100000 in
theorem uD (c:UInt8) (w:World):Calls Tryz.prog 16 #[.int .u8 c.toNat] w fun e w'=>∃g,e=.returned (.agg #[.int .i64 1,.slice (some ⟨g,0,none⟩) 1 1])∧qv w' w.heap.size w'.heap.size (some ⟨g,0,none⟩) [zL c]∧Below w.heap.size w w':=by
 obtain ⟨n,hn⟩:∃n:Nat,n=c.toNat:=⟨_,rfl⟩
 obtain ⟨W,hW⟩:∃W,W=w.alloc (.cells #[.int .i64 0,.slice none 0 0] 30):=⟨_,rfl⟩
 have hb:Below w.heap.size w W:=by rw [hW];exact (Below.refl _ _).alloc lz _
 have hr:W.rowIs w.heap.size 30 2 (xh (.int .i64 0) (.slice none 0 0)):=by rw [hW];exact jQ w _ _ _
 have HID:=Lh (oM c W)
 rw [← hn] at HID ⊢
 obtain ⟨s,hs⟩:∃s,s=zL c:=⟨_,rfl⟩
 rw [← hs] at HID ⊢
 have HB:=Lh hb
 have HR:=Lh hr
 have HW:=Lh hW
 clear hn hW hb hr hs
 go_enter Tryz.func16,Tryz.ntmps16
 go_upto_region 1 with fail
 rw [← HW.out]
 clear HW
 go_wp2_with fail
 refine HID.out.mono ?_
 clear HID
 rintro r w1 ⟨rfl,hb1⟩
 have hr1:=qx hb1 HR.out HR.out.lt
 have hrX:=hr1.alloc (.cells #[.string s] 9)
 have HRX:=Lh hrX
 have HB1:=Lh (HB.out.trans (hb1.mono HB.out.size))
 have HX:=Lh (heap_alloc_new w1 (.cells #[.string s] 9))
 have HZ:=Lh (show w.heap.size<w1.heap.size from hr1.lt)
 have t0:=hrX.cell (i:=0) (by decide);have t1:=hrX.cell (i:=1) (by decide)
 have s0:=hrX.frozen 0;have s1:=hrX.frozen 1
 simp only [xh] at t0 t1
 clear hr1 hrX hb1
 go_wp2
 refine bodyPost_ret (results_cell_row Tryz.results16 _ _ w.heap.size 30 _ (0,0) _ rfl (qU (set2 _ _ HRX.out)) Tryz.underlying30 rfl (by kernel_rfl)) rfl ?_
 refine ⟨w1.heap.size,rfl,.inr ⟨_,0,rfl,by have:=HZ.out;omega,by simp [World.setCell],fun i hi=>?_⟩,zU _ _ (HB1.out.alloc HB1.out.size _) lz⟩
 obtain rfl:i=0:=by simp at hi;omega
 rw [World.cell?_of_block (w:=w1.alloc (.cells #[.string s] 9)) (ft _ _ (show w1.heap.size≠w.heap.size by have:=HZ.out;omega))]
 exact qq HX.out rfl
def iT (w:World) (e:Ending) (w':World):Prop:=∃ia ib ic,e=.returned (.agg #[.int .i64 1,.int .i64 9,.slice none 0 0,.int .i64 1,.slice ia 1 1,.int .i64 1,.slice ib 1 1,.int .i64 1,.slice ic 1 1])∧RootIn w' w.heap.size w'.heap.size exR none ia ib ic∧Below w.heap.size w w'
set_option maxHeartbeats 1000000 in
set_option maxRecDepth 100000 in
theorem lC (w:World):Calls Tryz.prog 22 #[] w (iT w):=by
 obtain ⟨W,hW⟩:∃W,W=w.alloc (.cells #[.int .i64 0,.int .i64 0,.slice none 0 0,.int .i64 0,.slice none 0 0,.int .i64 0,.slice none 0 0,.int .i64 0,.slice none 0 0] 32):=⟨_,rfl⟩
 have HB:=Lh (show Below w.heap.size w W by rw [hW];exact (Below.refl _ _).alloc lz _)
 have HR:=Lh (show W.rowIs w.heap.size 32 9 (q9 (.int .i64 0) (.int .i64 0) (.slice none 0 0) (.int .i64 0) (.slice none 0 0) (.int .i64 0) (.slice none 0 0) (.int .i64 0) (.slice none 0 0)) by rw [hW];exact wH w _ _ _ _ _ _ _ _ _ _)
 have HW:=Lh hW
 clear hW
 go_enter Tryz.func22,Tryz.ntmps22
 go_upto_region 1 with fail
 rw [← HW.out]
 clear HW
 go_wp2_with fail
 refine (uD 97 W).mono ?_
 rintro r w1 ⟨ga,rfl,hs1,hb1⟩
 have HS1:=Lh hs1
 have HZ0:=Lh HR.out.lt
 replace HR:=Lh (qx hb1 HR.out HR.out.lt)
 replace HB:=Lh (HB.out.trans (hb1.mono HB.out.size))
 have HZ1:=Lh (show w.heap.size<W.heap.size∧W.heap.size≤w1.heap.size from ⟨HZ0.out,hb1.size⟩)
 clear hs1 hb1
 go_wp2_with fail
 refine (uD 98 w1).mono ?_
 rintro r w2 ⟨gb,rfl,hs2,hb2⟩
 have HS2:=Lh hs2
 replace HR:=Lh (qx hb2 HR.out HR.out.lt)
 replace HB:=Lh (HB.out.trans (hb2.mono HB.out.size))
 replace HS1:=Lh (HS1.out.below hb2 lz lz hb2.size)
 have HZ2:=Lh hb2.size
 clear hs2 hb2
 go_wp2_with fail
 refine (uD 99 w2).mono ?_
 rintro r w3 ⟨gc,rfl,hs3,hb3⟩
 have HS3:=Lh hs3
 have hr3:=qx hb3 HR.out HR.out.lt
 have HR3:=Lh hr3
 replace HB:=Lh (HB.out.trans (hb3.mono HB.out.size))
 replace HS1:=Lh (HS1.out.below hb3 lz lz hb3.size)
 replace HS2:=Lh (HS2.out.below hb3 lz lz hb3.size)
 clear hs3 hb3
 obtain ⟨t0,t1,t2,t3,t4⟩:=rc5 hr3;have t5:=hr3.cell (i:=5) (by decide);have t6:=hr3.cell (i:=6) (by decide);have t7:=hr3.cell (i:=7) (by decide);have t8:=hr3.cell (i:=8) (by decide)
 obtain ⟨s0,s1,s2,s3,s4⟩:=rf5 hr3;have s5:=hr3.frozen 5;have s6:=hr3.frozen 6;have s7:=hr3.frozen 7;have s8:=hr3.frozen 8
 simp only [q9] at t0 t1 t2 t3 t4 t5 t6 t7 t8
 clear hr3
 go_wp2
 refine bodyPost_ret (results_cell_row Tryz.results22 _ _ w.heap.size 32 _ (0,0) _ rfl (jA (rj _ _ _ _ _ _ _ _ _ HR3.out)) Tryz.underlying32 rfl (by kernel_rfl)) rfl ?_
 have hz:=HZ1.out
 have hz2:=HZ2.out
 refine ⟨_,_,_,rfl,⟨.inl rfl,?_,?_,?_⟩,yH _ _ _ _ _ _ _ _ _ HB.out lz⟩
 · exact HS1.out.carry (by omega) (Nat.le_of_eq vr.symm) (fun b h1 h2=>mo _ _ _ _ _ _ _ _ _ (by omega))
 · exact HS2.out.carry (by omega) (Nat.le_of_eq vr.symm) (fun b h1 h2=>mo _ _ _ _ _ _ _ _ _ (by omega))
 · exact HS3.out.carry (by omega) (Nat.le_of_eq vr.symm) (fun b h1 h2=>mo _ _ _ _ _ _ _ _ _ (by omega))
theorem iI {a b:ByteArray} (h:a=b):(a.toList == b.toList)=true:=by rw [h];exact beq_self_eq_true _
theorem oC {a b:ByteArray} (h:a≠b):(a.toList == b.toList)=false:=by rw [beq_eq_false_iff_ne];exact fun e=>h (kZ e)
theorem cG (s:ByteArray) (w:World) (hs:s.size≤9223372036854775807) :
 Calls Tryz.prog 164 #[.string s] w fun e w'=>e=.returned (.bool (jP s))∧w=w':=by
 by_cases h:s.size=64
 · have d:((s.size:Int) == 64)=true:=by rw [h];rfl
   have HF:=Lh (show jP s=jo s.data.toList by unfold jP;rw [decide_eq_true h,Bool.true_and])
   have HI:=Lh (ll s w hs)
   clear h
   go_enter Tryz.func164,Tryz.ntmps164
   go_wp2_with fail
   refine HI.out.mono ?_
   rintro e w1 ⟨rfl,rfl⟩
   go_wp2
   go_ret
   exact ⟨qk HF.out.symm,rfl⟩
 · have d:((s.size:Int) == 64)=false:=by simp only [beq_eq_false_iff_ne];omega
   have HF:=Lh (show jP s=false by unfold jP;rw [decide_eq_false h,Bool.false_and])
   clear h
   go_enter Tryz.func164,Tryz.ntmps164
   go_wp2
   go_ret
   exact ⟨qk HF.out.symm,rfl⟩
theorem tH {l:List ByteArray} {k:Nat} (h:k<l.length) (he:qH [] l=qH (l.take k) (l.drop k)) (hb:jP l[k]=false):qH [] l=3:=by
 rw [he,List.drop_eq_getElem_cons h,qH,hb];rfl
theorem ng {l:List ByteArray} {k j:Nat} (h:k<l.length) (hj:j<k) (he:qH [] l=qH (l.take k) (l.drop k)) (hb:jP l[k]=true) (e:l[j]=l[k]):qH [] l=7:=by
 have hm:zN (l.take k) l[k]=true:=by
  rw [xR,List.mem_take_iff_getElem]
  exact ⟨j,by omega,e⟩
 rw [he,List.drop_eq_getElem_cons h,qH,hb,hm];rfl
theorem ay {l:List ByteArray} {k:Nat} (h:k<l.length) (he:qH [] l=qH (l.take k) (l.drop k)) (hb:jP l[k]=true) (hn:∀j (hj:j<k),l[j]≠l[k]):qH [] l=qH (l.take (k+1)) (l.drop (k+1)):=by
 have hm:zN (l.take k) l[k]=false:=by
  rw [Bool.eq_false_iff]
  intro h2
  rw [xR,List.mem_take_iff_getElem] at h2
  obtain ⟨j,hj,e⟩:=h2
  exact hn j (by omega) e
 rw [he,List.drop_eq_getElem_cons h,qH,hb,hm,if_pos rfl,if_neg (by simp),List.take_succ_eq_append_getElem h]
set_option maxRecDepth 100000 in
set_option maxHeartbeats 1000000 in
theorem ag (l:List ByteArray) (a:Option Addr) (c:Nat) (w:World) (hS:qv w 0 w.heap.size a l) (hs:∀s ∈ l,s.size≤9223372036854775807) (hl:l.length≤9223372036854775807) :
 Calls Tryz.prog 134 #[.slice a l.length c] w fun e w'=>e=.returned (.int .i64 (if l.length=0 then 4 else qH [] l))∧Below w.heap.size w w':=by
 by_cases h0:l.length=0
 · have d:((l.length:Int) == 0)=true:=by rw [h0];rfl
   obtain ⟨E,hE⟩:∃E,E=(if l.length=0 then 4 else qH [] l):=⟨_,rfl⟩
   rw [← hE]
   have HE:=Lh (show E=4 by rw [hE,if_pos h0])
   clear hE
   go_enter Tryz.func134,Tryz.ntmps134
   go_wp2
   go_ret
   exact ⟨qF HE.out.symm,Below.refl _ _⟩
 have d:((l.length:Int) == 0)=false:=by simp only [beq_eq_false_iff_ne];omega
 rw [if_neg h0]
 have HS:=Lh hS
 have HZ:=Lh hs
 clear hS hs h0
 go_enter Tryz.func134,Tryz.ntmps134
 go_wp2
 go_loopw [3,4] (fun i _ wr=>∃k:Nat,k≤l.length∧i=.int .i64 k∧qH [] l=qH (l.take k) (l.drop k)∧Below w.heap.size w wr) (fun i _ _=>l.length - (intOf i).toNat)
 case atStart=>exact ⟨0,Nat.zero_le _,rfl,by simp,Below.refl _ _⟩
 case round =>
  obtain ⟨k,hk,rfl,he,hbel⟩:=hrel
  have HE:=Lh he
  have HB:=Lh hbel
  clear he hbel
  by_cases hlt:k<l.length
  · have m1:(k:Int)<(l.length:Int):=by omega
    have m0:(0:Int)≤(k:Int):=by omega
    obtain ⟨b,off,ha,_,hb,e0⟩:=HS.out.at k hlt
    subst ha
    have HD:=Lh (cG l[k] wr (HZ.out _ (List.getElem_mem hlt)))
    have HAT:=Lh (fun (j:Nat) (hj:j<l.length)=>HS.out.at j hj)
    obtain ⟨x,hx⟩:∃x,x=l[k]:=⟨_,rfl⟩
    obtain ⟨g,hg⟩:∃g,g=jP l[k]:=⟨_,rfl⟩
    rw [← hg,← hx] at HD
    rw [← hx] at e0
    have HX:=Lh hx
    have HG:=Lh hg
    have HCE:=Lh (show ∀w':World,Below w.heap.size w w'→w'.cell? ⟨b,off+k,none⟩=some (.string x) from fun w' h=>(World.cell?_of_block (w:=w) (h.block b hb)).trans e0)
    clear hx hg e0
    have e0:=HCE.out wr HB.out
    cases g
    · have HF:=Lh (tH hlt HE.out HG.out.symm)
      go_wp2_with fail
      refine HD.out.mono ?_
      rintro e w1 ⟨rfl,rfl⟩
      go_wp2
      go_ret
      exact ⟨qF HF.out.symm,HB.out⟩
    go_wp2_with fail
    refine HD.out.mono ?_
    clear HD
    rintro e w1 ⟨rfl,rfl⟩
    clear e0
    go_wp2
    go_loopw [4] (fun i wi=>∃j:Nat,j≤k∧i=.int .i64 j∧(∀q (hq:q<j) (hq2:q<l.length),l[q]≠x)∧Below w.heap.size w wi) (fun i _=>k - (intOf i).toNat)
    case atStart=>exact ⟨0,Nat.zero_le _,rfl,(fun q hq=>by omega),HB.out⟩
    case round =>
     obtain ⟨j,hj,rfl,hn,hbel⟩:=hrel
     have HNE:=Lh hn
     have HB2:=Lh hbel
     clear hn hbel HB
     by_cases hjk:j<k
     · have m2:(j:Int)<(k:Int):=by omega
       have m3:(0:Int)≤(j:Int):=by omega
       have m4:(j:Int)<(l.length:Int):=by omega
       obtain ⟨b2,off2,ha2,_,hb2,f0⟩:=HAT.out j (by omega)
       simp only [Option.some.injEq,Addr.mk.injEq,and_true] at ha2
       obtain ⟨rfl,rfl⟩:=ha2
       have e0:=HCE.out _ HB2.out
       replace f0:=(World.cell?_of_block (w:=w) (HB2.out.block b hb2)).trans f0
       obtain ⟨y,hy⟩:∃y,y=l[j]:=⟨_,rfl⟩
       rw [← hy] at f0
       have HY:=Lh hy
       clear hy
       by_cases hxy:y=x
       · have q1:=iI hxy
         have HXY:=Lh hxy
         have HF:=Lh (ng hlt hjk HE.out HG.out.symm (by rw [← HY.out,← HX.out];exact hxy))
         clear hxy
         go_upto_region 11 with fail
         go_quiet (fail)
         go_wp2
         go_ret
         exact ⟨qF HF.out.symm,Below.drewN HB2.out _⟩
       · have q1:=oC hxy
         have HXY:=Lh hxy
         clear hxy
         go_upto_region 11 with fail
         go_quiet (fail)
         go_wp2
         go_roundw
         case rel =>
          refine ⟨j+1,by omega,by go_num,fun q hq hq2=>?_,Below.drewN HB2.out _⟩
          by_cases e:q=j
          · subst e;rw [← HY.out];exact HXY.out
          · exact HNE.out q (by omega) hq2
         case measure=>simp [intOf];omega
     · obtain rfl:j=k:=by omega
       have m2:¬((j:Int)<(j:Int)):=by omega
       go_wp2
       go_roundw
       case rel=>exact ⟨j+1,by omega,by go_num,ay hlt HE.out HG.out.symm fun q hq=>by rw [← HX.out];exact HNE.out q hq (by omega),HB2.out⟩
       case measure=>simp [intOf];omega
  · obtain rfl:k=l.length:=by omega
    have HF:=Lh (show qH [] l=0 by rw [HE.out,List.drop_length];rfl)
    go_wp2
    go_ret
    exact ⟨qF HF.out.symm,HB.out⟩
set_option maxRecDepth 100000 in
set_option maxHeartbeats 1000000 in
theorem yo (t:Int) (l:List ByteArray) (a:Option Addr) (c:Nat) (w:World) (hS:qv w 0 w.heap.size a l) (hs:∀s ∈ l,s.size≤9223372036854775807) (hl:l.length≤9223372036854775807) :
 Calls Tryz.prog 82 #[.agg #[.int .i64 t,.slice a l.length c]] w fun e w'=>e=.returned (.bool (zM t l))∧Below w.heap.size w w':=by
 have HB0:=Lh (show Below w.heap.size w (w.alloc (.cells #[.int .i64 t,.slice a l.length c] 30)) from (Below.refl _ _).alloc lz _)
 by_cases h2:16<l.length
 · have HF:=Lh (xS (t:=t) (l:=l) (by omega))
   have d2:¬((l.length:Int)≤16):=by omega
   go_enter Tryz.func82,Tryz.ntmps82
   go_wp2
   go_ret
   exact ⟨qk HF.out.symm,HB0.out⟩
 have d2:(l.length:Int)≤16:=by omega
 have HI:=Lh (ag l a c _ (hS.below HB0.out lz lz (by simp)) hs hl)
 obtain ⟨E,hE⟩:∃E,E=(if l.length=0 then 4 else qH [] l):=⟨_,rfl⟩
 rw [← hE] at HI
 have HE:=Lh hE
 clear hE hS hs
 by_cases hE0:E=0
 · have d0:(E == 0)=true:=by rw [hE0];rfl
   have HE2:=Lh (show l.length≠0∧qH [] l=0 by
    have:=HE.out
    rw [hE0] at this
    split at this
    · cases this
    · exact ⟨by assumption,this.symm⟩)
   clear hE0
   by_cases h3:1≤t
   · by_cases h4:t≤(l.length:Int)
     · have HF:=Lh (show zM t l=true by unfold zM;rw [HE2.out.2];have:=HE2.out.1;simp;omega)
       have d4:decide (t≤(l.length:Int))=true:=by simp;omega
       go_enter Tryz.func82,Tryz.ntmps82
       go_wp2_with fail
       refine HI.out.mono ?_
       rintro e w1 ⟨rfl,hb1⟩
       have HB1:=Lh (HB0.out.trans (hb1.mono HB0.out.size))
       have hx1:=(hb1.block w.heap.size (by simp)).trans (heap_alloc_new w (.cells #[.int .i64 t,.slice a l.length c] 30))
       have c0:w1.cell? ⟨w.heap.size,0,none⟩=some (.int .i64 t):=qq hx1 rfl
       have c1:w1.cell? ⟨w.heap.size,1,none⟩=some (.slice a l.length c):=qq hx1 rfl
       clear hb1 hx1
       go_wp2
       go_ret
       exact ⟨qk HF.out.symm,HB1.out⟩
     · have HF:=Lh (xS (t:=t) (l:=l) (by omega))
       have d4:decide (t≤(l.length:Int))=false:=by simp;omega
       go_enter Tryz.func82,Tryz.ntmps82
       go_wp2_with fail
       refine HI.out.mono ?_
       rintro e w1 ⟨rfl,hb1⟩
       have HB1:=Lh (HB0.out.trans (hb1.mono HB0.out.size))
       have hx1:=(hb1.block w.heap.size (by simp)).trans (heap_alloc_new w (.cells #[.int .i64 t,.slice a l.length c] 30))
       have c0:w1.cell? ⟨w.heap.size,0,none⟩=some (.int .i64 t):=qq hx1 rfl
       have c1:w1.cell? ⟨w.heap.size,1,none⟩=some (.slice a l.length c):=qq hx1 rfl
       clear hb1 hx1
       go_wp2
       go_ret
       exact ⟨qk HF.out.symm,HB1.out⟩
   · have HF:=Lh (xS (t:=t) (l:=l) (by omega))
     go_enter Tryz.func82,Tryz.ntmps82
     go_wp2_with fail
     refine HI.out.mono ?_
     rintro e w1 ⟨rfl,hb1⟩
     have HB1:=Lh (HB0.out.trans (hb1.mono HB0.out.size))
     have hx1:=(hb1.block w.heap.size (by simp)).trans (heap_alloc_new w (.cells #[.int .i64 t,.slice a l.length c] 30))
     have c0:w1.cell? ⟨w.heap.size,0,none⟩=some (.int .i64 t):=qq hx1 rfl
     have c1:w1.cell? ⟨w.heap.size,1,none⟩=some (.slice a l.length c):=qq hx1 rfl
     clear hb1 hx1
     go_wp2
     go_ret
     exact ⟨qk HF.out.symm,HB1.out⟩
 · have d0:(E == 0)=false:=by rw [beq_eq_false_iff_ne];exact hE0
   have HF:=Lh (show zM t l=false by
    by_cases hz:l.length=0
    · exact xS (by omega)
    · have:=HE.out
      rw [if_neg hz] at this
      unfold zM
      rw [decide_eq_false (p:=qH [] l=0) (by rw [← this];exact hE0),Bool.and_false])
   clear hE0
   go_enter Tryz.func82,Tryz.ntmps82
   go_wp2_with fail
   refine HI.out.mono ?_
   rintro e w1 ⟨rfl,hb1⟩
   have HB1:=Lh (HB0.out.trans (hb1.mono HB0.out.size))
   have hx1:=(hb1.block w.heap.size (by simp)).trans (heap_alloc_new w (.cells #[.int .i64 t,.slice a l.length c] 30))
   have c0:w1.cell? ⟨w.heap.size,0,none⟩=some (.int .i64 t):=qq hx1 rfl
   have c1:w1.cell? ⟨w.heap.size,1,none⟩=some (.slice a l.length c):=qq hx1 rfl
   clear hb1 hx1
   go_wp2
   go_ret
   exact ⟨qk HF.out.symm,HB1.out⟩
end Go.Proofs.YtnlgmcapbbgelaaGreatDoor
