/- The contract of key.Of for any value that came in. -/
import Derived.Test.YtnlgmcapbbgelaaGreatDoorRn19

namespace Go.Proofs.YtnlgmcapbbgelaaGreatDoor
open Go.RowKit
structure RootV where
 ver:Int
 exp:Int
 keys:List Key2
 au:Auth3
deriving DecidableEq
def rootZ:RootV:=⟨0,0,[],auth3Z⟩
def keysN:ByteArray:=⟨#[107,101,121,115]⟩
def rolN:ByteArray:=⟨#[114,111,108,101,115]⟩
def mayKeys (l:List Key2):Bool:=decide (l.length≤32) && l.all ok2 && rises (ids l)
def mayRoot (r:RootV):Bool:=decide (1≤r.ver∧r.ver≤1099511627776) && decide (0≤r.exp∧r.exp≤253402300799) && mayKeys r.keys && may3 r.au
def rootM (r:RootV):List NJ:=[(typN,txtJ rootN),(expN,txtJ (dateB r.exp)),(keysN,tabJ r.keys),(rolN,rolesJ r.au),(verN,numJ r.ver)]
def rootJ (r:RootV):JV:=objJ (rootM r)
def rolesOfA (v:JV):Auth3 × Int:=if v.kind≠5 then (auth3Z,10) else rolesOfK v
def rtT (v:JV):PS:=if (pickText v typN ⟨[],0⟩).1≠rootN then (pickText v typN ⟨[],0⟩).2.fail 13 else (pickText v typN ⟨[],0⟩).2
def rtB (v:JV):Int × PS:=pickNum v verN 1 1099511627776 (rtT v)
def rtC (v:JV):ByteArray × PS:=pickText v expN (rtB v).2
def rtR (v:JV):Int × Int:=readD (rtC v).1.data.toList
def rtK (v:JV):JV × PS:=pickObj v keysN 32 ((rtC v).2.fail (rtR v).2)
def rtL (v:JV):List Key2 × Int:=keysJ (rtK v).1
def rtO (v:JV):JV × PS:=pickObj v rolN 8192 ((rtK v).2.fail (rtL v).2)
def rtA (v:JV):Auth3 × Int:=rolesOfA (rtO v).1
def rtF (v:JV):PS:=(rtO v).2.fail (rtA v).2
def rootOfK (v:JV):RootV × Int:=if pickDone v (rtF v)≠0 then (rootZ,pickDone v (rtF v)) else (⟨(rtB v).1,(rtR v).1,(rtL v).1,(rtA v).1⟩,0)
def rootOfA (v:JV):RootV × Int:=if v.mayB=false then (rootZ,3) else if v.kind≠5 then (rootZ,10) else rootOfK v
theorem root_names:rises [typN,expN,keysN,rolN,verN]=true∧(txtOk typN=true∧txtOk expN=true∧txtOk keysN=true∧txtOk rolN=true∧txtOk verN=true)∧(typN≠expN∧typN≠keysN∧typN≠rolN∧typN≠verN∧expN≠keysN∧expN≠rolN∧expN≠verN∧keysN≠rolN∧keysN≠verN∧rolN≠verN):=by
 refine ⟨by kernel_rfl,⟨?_,?_,?_,?_,?_⟩,by decide⟩
 all_goals
  refine txtOk_plain ?_ (by decide)
  intro c hc
  unfold plainC
  revert c
  decide
theorem mayKeys_parts {l:List Key2}:mayKeys l=true↔l.length≤32∧(∀k ∈ l,ok2 k=true)∧rises (ids l)=true:=by
 unfold mayKeys
 simp only [Bool.and_eq_true,decide_eq_true_eq,List.all_eq_true]
 exact ⟨fun h=>⟨h.1.1,h.1.2,h.2⟩,fun h=>⟨⟨h.1,h.2.1⟩,h.2.2⟩⟩
theorem mayRoot_parts {r:RootV}:mayRoot r=true↔(1≤r.ver∧r.ver≤1099511627776)∧(0≤r.exp∧r.exp≤253402300799)∧mayKeys r.keys=true∧may3 r.au=true:=by
 unfold mayRoot
 simp only [Bool.and_eq_true,decide_eq_true_eq]
 exact ⟨fun h=>⟨h.1.1.1,h.1.1.2,h.1.2,h.2⟩,fun h=>⟨⟨⟨h.1,h.2.1⟩,h.2.2.1⟩,h.2.2.2⟩⟩
theorem tabJ_ok {l:List Key2} (h:mayKeys l=true):(tabJ l).partB=true∧(tabJ l).count≤130∧(tabJ l).depth≤3:=by
 obtain ⟨h1,h2,h3⟩:=mayKeys_parts.1 h
 refine ⟨may_part (tabJ_may h2 h3 h1),?_,?_⟩
 · rw [JV.count_eq]
   have:=counts_le 3 (l.map obj2) fun x hx=>by obtain ⟨k,_,rfl⟩:=List.mem_map.1 hx;exact Nat.le_refl 3
   rw [List.length_map] at this
   show 1+JV.counts (l.map obj2)≤_
   omega
 · rw [JV.depth_eq]
   have:=depths_le2 1 (l.map obj2) fun x hx=>by obtain ⟨k,_,rfl⟩:=List.mem_map.1 hx;exact Nat.le_refl 1
   rw [if_neg (by simp [tabJ,JV.kind])]
   show JV.depths (l.map obj2)+1≤_
   omega
theorem rootN_txt:txtOk rootN=true:=roles_names.2.1.1
theorem rootM_ok {r:RootV} (h:mayRoot r=true):∀p ∈ rootM r,txtOk p.1=true∧p.2.partB=true∧p.2.count≤130∧p.2.depth≤3:=fun p hp=>by
 obtain ⟨_,he,hk,ha⟩:=mayRoot_parts.1 h
 obtain ⟨r0,⟨n1,n2,n3,n4,n5⟩,-⟩:=root_names
 simp only [rootM,List.mem_cons,List.not_mem_nil,or_false] at hp
 have t1:=txtJ_cd rootN
 have t2:=txtJ_cd (dateB r.exp)
 have t3:=numJ_cd r.ver
 rcases hp with rfl|rfl|rfl|rfl|rfl
 · exact ⟨n1,txtJ_part rootN_txt,Nat.le_trans (Nat.le_of_eq t1.1) (by decide),Nat.le_trans (Nat.le_of_eq t1.2) (by decide)⟩
 · exact ⟨n2,txtJ_part (date_txt he).1,Nat.le_trans (Nat.le_of_eq t2.1) (by decide),Nat.le_trans (Nat.le_of_eq t2.2) (by decide)⟩
 · exact ⟨n3,tabJ_ok hk⟩
 · exact ⟨n4,rolesJ_ok ha⟩
 · exact ⟨n5,numJ_part _,Nat.le_trans (Nat.le_of_eq t3.1) (by decide),Nat.le_trans (Nat.le_of_eq t3.2) (by decide)⟩
theorem few_may {N:List NJ} (hr:rises (N.map (·.1))=true) (hl:N.length≤6) (hp:∀p ∈ N,txtOk p.1=true∧p.2.partB=true∧p.2.count≤130∧p.2.depth≤3):(objJ N).mayB=true:=by
 have h1:=objJ_part ⟨hr,fun p h=>⟨(hp p h).1,(hp p h).2.1⟩⟩
 have h2:=objJ_count 130 fun p h=>(hp p h).2.2.1
 have h3:=objJ_depth 3 fun p h=>(hp p h).2.2.2
 have h4:N.length * 130≤6 * 130:=Nat.mul_le_mul_right _ hl
 rw [JV.mayB_iff,h1,decide_eq_true (by omega),decide_eq_true (by omega)];rfl
theorem rootJ_may {r:RootV} (h:mayRoot r=true):(rootJ r).mayB=true:=by
 exact few_may root_names.1 (by show 5≤6;decide) (rootM_ok h)
theorem rootJ_look (r:RootV):(rootJ r).look typN=some (txtJ rootN)∧(rootJ r).look expN=some (txtJ (dateB r.exp))∧(rootJ r).look keysN=some (tabJ r.keys)∧(rootJ r).look rolN=some (rolesJ r.au)∧(rootJ r).look verN=some (numJ r.ver):=by
 obtain ⟨a1,a2,a3,a4,a5,a6,a7,a8,a9,a10⟩:=root_names.2.2
 have e:∀y,(rootJ r).look y=lookL [typN,expN,keysN,rolN,verN] [txtJ rootN,txtJ (dateB r.exp),tabJ r.keys,rolesJ r.au,numJ r.ver] y:=fun _=>rfl
 refine ⟨?_,?_,?_,?_,?_⟩ <;> simp [e,lookL,a1,a2,a3,a4,a5,a6,a7,a8,a9,a10]
theorem pickObj_ok {v it:JV} {y:ByteArray} {most:Nat} {a:List ByteArray} (h:v.look y=some it) (hk:it.kind=5) (hl:it.items.length≤most):pickObj v y most ⟨a,0⟩=(it,⟨y :: a,0⟩):=by
 unfold pickObj
 rw [if_neg (by simp),h]
 show (if it.kind≠5 then _ else if most<it.items.length then _ else _:JV × PS)=_
 rw [if_neg (by simp [hk]),if_neg (by omega)]
theorem root_back {r:RootV} (h:mayRoot r=true):rootOfK (rootJ r)=(r,0):=by
 obtain ⟨hv,he,hk,ha⟩:=mayRoot_parts.1 h
 obtain ⟨k1,k2,k3⟩:=mayKeys_parts.1 hk
 obtain ⟨l1,l2,l3,l4,l5⟩:=rootJ_look r
 have e0:rtT (rootJ r)=⟨[typN],0⟩:=by
  unfold rtT
  rw [pickText_ok l1,if_neg (by simp)]
 have e1:rtB (rootJ r)=(r.ver,⟨[verN,typN],0⟩):=by unfold rtB;rw [e0];exact pickNum_ok l5 hv.1 hv.2
 have e2:rtC (rootJ r)=(dateB r.exp,⟨[expN,verN,typN],0⟩):=by unfold rtC;rw [e1];exact pickText_ok l2
 have e3:rtR (rootJ r)=(r.exp,0):=by unfold rtR;rw [e2];exact (date_txt he).2
 have e4:rtK (rootJ r)=(tabJ r.keys,⟨[keysN,expN,verN,typN],0⟩):=by
  unfold rtK
  rw [e2,e3]
  exact pickObj_ok l3 rfl (by show (r.keys.map obj2).length≤32;rw [List.length_map];exact k1)
 have e5:rtL (rootJ r)=(r.keys,0):=by unfold rtL;rw [e4];exact keysJ_tab k2 k3 k1
 have e6:rtO (rootJ r)=(rolesJ r.au,⟨[rolN,keysN,expN,verN,typN],0⟩):=by
  unfold rtO
  rw [e4,e5]
  exact pickObj_ok l4 rfl (by show 3≤8192;decide)
 have e7:rtA (rootJ r)=(r.au,0):=by
  unfold rtA rolesOfA
  rw [e6]
  dsimp only
  rw [if_neg (by simp [rolesJ,objJ,JV.kind])]
  exact roles_back ha
 have e8:rtF (rootJ r)=⟨[rolN,keysN,expN,verN,typN],0⟩:=by unfold rtF;rw [e6,e7];rfl
 have e9:pickDone (rootJ r) ⟨[rolN,keysN,expN,verN,typN],0⟩=0:=by
  unfold pickDone
  rw [if_neg (by simp),if_pos]
  simp [rootJ,objJ,JV.names,rootM]
 unfold rootOfK
 rw [e8,e9,if_neg (by simp),e1,e3,e5,e7]
theorem look_put:∀(ns:List ByteArray) (xs:List JV) (r:Nat) (n y:ByteArray) (x:JV),ns.length=xs.length→r≤ns.length→n≠y→lookL (ns.take r ++ [n] ++ ns.drop r) (xs.take r ++ [x] ++ xs.drop r) y=lookL ns xs y
 | ns,xs,0,n,y,x,_,_,h=>by simp [lookL,h]
 | [],_,r+1,_,_,_,_,hr,_=>by simp at hr
 | m :: ns,[],r+1,_,_,_,hl,_,_=>by simp at hl
 | m :: ns,z :: xs,r+1,n,y,x,hl,hr,h=>by
  have ih:=look_put ns xs r n y x (by simpa using hl) (by simpa using hr) h
  simp only [List.take_succ_cons,List.drop_succ_cons,List.cons_append]
  rw [lookL,lookL,ih]
theorem withJ_look {v:JV} {r:Nat} {n y:ByteArray} {x:JV} (hl:v.names.length=v.items.length) (hr:r≤v.names.length) (h:n≠y):(withJ v r false n x).look y=v.look y:=by
 show lookL (withN v r false n) (withI v r false x) y=lookL v.names v.items y
 exact look_put _ _ r n y x hl hr h
theorem withJ_mem (v:JV) (r:Nat) (f:Bool) (n:ByteArray) (x:JV):n ∈ (withJ v r f n x).names:=by
 show n ∈ withN v r f n
 unfold withN
 simp
theorem withJ_set {N:List NJ} {r:Nat} {n:ByteArray} {x:JV} (h:r<N.length):withJ (objJ N) r true n x=objJ (N.set r (n,x)):=by
 have h1:withN (objJ N) r true n=(N.set r (n,x)).map (·.1):=by
  show (N.map (·.1)).take r ++ [n] ++ (N.map (·.1)).drop (r+1)=_
  rw [List.set_eq_take_append_cons_drop,if_pos h,List.map_append,List.map_take,List.map_cons,List.map_drop]
  simp
 have h2:withI (objJ N) r true x=(N.set r (n,x)).map (·.2):=by
  show (N.map (·.2)).take r ++ [x] ++ (N.map (·.2)).drop (r+1)=_
  rw [List.set_eq_take_append_cons_drop,if_pos h,List.map_append,List.map_take,List.map_cons,List.map_drop]
  simp
 unfold withJ
 rw [h1,h2]
 rfl
theorem outJ_filter (N:List NJ) (y:ByteArray):outJ (objJ N) y=objJ (N.filter fun z=>z.1.toList != y.toList):=by
 have h0:((objJ N).names.zip (objJ N).items).take (objJ N).names.length=N:=by
  show ((N.map (·.1)).zip (N.map (·.2))).take (N.map (·.1)).length=N
  have:(N.map (·.1)).zip (N.map (·.2))=N:=by
   induction N with
   | nil=>rfl
   | cons a r ih=>simp only [List.map_cons,List.zip_cons_cons,ih]
  rw [this,List.length_map,List.take_length]
 unfold outJ outN outI outP
 rw [h0]
 rfl
theorem filter_rises {N:List NJ} (p:NJ→Bool) (h:rises (N.map (·.1))=true):rises ((N.filter p).map (·.1))=true:=by
 rw [rises_pair] at h ⊢
 exact h.sublist (List.filter_sublist.map _)
theorem look_filter:∀(N:List NJ) (n y:ByteArray),lookL ((N.filter fun z=>z.1.toList != n.toList).map (·.1)) ((N.filter fun z=>z.1.toList != n.toList).map (·.2)) y=if n=y then none else lookL (N.map (·.1)) (N.map (·.2)) y
 | [],n,y=>by simp [lookL]
 | a :: N,n,y=>by
  have ih:=look_filter N n y
  by_cases h:a.1=n
  · have hb:(a.1.toList != n.toList)=false:=by rw [h];simp
    rw [List.filter_cons,hb,if_neg (by simp),ih,List.map_cons,List.map_cons,lookL]
    by_cases hy:n=y
    · rw [if_pos hy,if_pos hy]
    · rw [if_neg hy,if_neg hy,if_neg (by rw [h];exact hy)]
  · have hb:(a.1.toList != n.toList)=true:=by
     rw [bne_iff_ne]
     exact fun e=>h (ba_ext e)
    rw [List.filter_cons,hb,if_pos rfl,List.map_cons,List.map_cons,lookL,ih,List.map_cons,List.map_cons,lookL]
    by_cases hy:n=y
    · subst hy
      simp [h]
    · simp only [if_neg hy]
theorem outJ_look (N:List NJ) (n y:ByteArray):(outJ (objJ N) n).look y=if n=y then none else (objJ N).look y:=by
 rw [outJ_filter]
 exact look_filter N n y
theorem rootA_eq {v:JV} (hm:v.mayB=true) (hk:v.kind=5):rootOfA v=rootOfK v:=by
 unfold rootOfA
 rw [if_neg (by rw [hm];decide),if_neg (by simp [hk])]
theorem rt_done {u:JV} {er:Int} (h0:er≠0) (h:(rtF u).err=er):rootOfK u=(rootZ,er):=by
 have h2:pickDone u (rtF u)=er:=by rw [done_err (by rw [h];exact h0),h]
 unfold rootOfK
 rw [h2,if_pos h0]
theorem rt_rol {u:JV} {er:Int} (h0:er≠0) (h:(rtO u).2.err=er):rootOfK u=(rootZ,er) :=
 rt_done h0 (by unfold rtF;rw [fail_keeps (by rw [h];exact h0),h])
theorem rt_key {u:JV} {er:Int} (h0:er≠0) (h:(rtK u).2.err=er):rootOfK u=(rootZ,er) :=
 rt_rol h0 (by unfold rtO;rw [fail_keeps (by rw [h];exact h0),obj_keeps (by rw [h];exact h0),h])
theorem rt_exp {u:JV} {er:Int} (h0:er≠0) (h:(rtC u).2.err=er):rootOfK u=(rootZ,er) :=
 rt_key h0 (by unfold rtK;rw [fail_keeps (by rw [h];exact h0),obj_keeps (by rw [h];exact h0),h])
theorem rt_ver {u:JV} {er:Int} (h0:er≠0) (h:(rtB u).2.err=er):rootOfK u=(rootZ,er) :=
 rt_exp h0 (by unfold rtC;rw [text_keeps (by rw [h];exact h0),h])
theorem rt_typ {u:JV} {er:Int} (h0:er≠0) (h:(rtT u).err=er):rootOfK u=(rootZ,er) :=
 rt_ver h0 (by unfold rtB;rw [num_keeps (by rw [h];exact h0),h])
theorem rt1 {u:JV} (h:u.look typN=some (txtJ rootN)):rtT u=⟨[typN],0⟩:=by
 unfold rtT
 rw [pickText_ok h,if_neg (by simp)]
theorem rt2 {u:JV} {r:RootV} (hm:mayRoot r=true) (ht:rtT u=⟨[typN],0⟩) (h:u.look verN=some (numJ r.ver)):rtB u=(r.ver,⟨[verN,typN],0⟩):=by
 unfold rtB
 rw [ht]
 exact pickNum_ok h (mayRoot_parts.1 hm).1.1 (mayRoot_parts.1 hm).1.2
theorem rt3 {u:JV} {r:RootV} (hb:rtB u=(r.ver,⟨[verN,typN],0⟩)) (h:u.look expN=some (txtJ (dateB r.exp))):rtC u=(dateB r.exp,⟨[expN,verN,typN],0⟩):=by
 unfold rtC
 rw [hb]
 exact pickText_ok h
theorem rt3s {u:JV} {r:RootV} (hm:mayRoot r=true) (hc:rtC u=(dateB r.exp,⟨[expN,verN,typN],0⟩)):rtR u=(r.exp,0)∧(rtC u).2.fail (rtR u).2=⟨[expN,verN,typN],0⟩:=by
 have e:rtR u=(r.exp,0):=by unfold rtR;rw [hc];exact (date_txt (mayRoot_parts.1 hm).2.1).2
 refine ⟨e,?_⟩
 rw [hc,e];rfl
theorem rt4 {u:JV} {r:RootV} (hm:mayRoot r=true) (hc:rtC u=(dateB r.exp,⟨[expN,verN,typN],0⟩)) (h:u.look keysN=some (tabJ r.keys)):rtK u=(tabJ r.keys,⟨[keysN,expN,verN,typN],0⟩)∧rtL u=(r.keys,0):=by
 obtain ⟨k1,k2,k3⟩:=mayKeys_parts.1 (mayRoot_parts.1 hm).2.2.1
 have e:rtK u=(tabJ r.keys,⟨[keysN,expN,verN,typN],0⟩):=by
  unfold rtK
  rw [(rt3s hm hc).2]
  exact pickObj_ok h rfl (by show (r.keys.map obj2).length≤32;rw [List.length_map];exact k1)
 refine ⟨e,?_⟩
 unfold rtL;rw [e];exact keysJ_tab k2 k3 k1
theorem root_full {u q:JV} {r:RootV} (hm:mayRoot r=true) (h1:u.look typN=some (txtJ rootN)) (h2:u.look verN=some (numJ r.ver)) (h3:u.look expN=some (txtJ (dateB r.exp))) (h4:u.look keysN=some (tabJ r.keys))
 (h5:u.look rolN=some q) (hq:q.kind=5) (hl:q.items.length≤8192) :
 rootOfK u=if (rolesOfK q).2≠0 then (rootZ,(rolesOfK q).2) else if pickDone u ⟨[rolN,keysN,expN,verN,typN],0⟩≠0 then (rootZ,pickDone u ⟨[rolN,keysN,expN,verN,typN],0⟩) else (⟨r.ver,r.exp,r.keys,(rolesOfK q).1⟩,0):=by
 have e1:=rt2 hm (rt1 h1) h2
 have e2:=rt3 e1 h3
 have e3:=(rt3s hm e2).1
 obtain ⟨e4,e5⟩:=rt4 hm e2 h4
 have e6:rtO u=(q,⟨[rolN,keysN,expN,verN,typN],0⟩):=by
  unfold rtO
  rw [e4,e5]
  exact pickObj_ok h5 hq hl
 have e7:rtA u=rolesOfK q:=by unfold rtA rolesOfA;rw [e6];exact if_neg (by simp [hq])
 split
 · rename_i hr
   refine rt_done hr ?_
   unfold rtF
   rw [e6,e7]
   rfl
 · rename_i hr
   have hr0:(rolesOfK q).2=0:=by simpa using hr
   have e8:rtF u=⟨[rolN,keysN,expN,verN,typN],0⟩:=by unfold rtF;rw [e6,e7,hr0];rfl
   unfold rootOfK
   rw [e8,e1,e3,e5,e7]
theorem done_more {u:JV} {asked:List ByteArray} {x:ByteArray} (hx:x ∈ u.names) (hn:x ∉ asked):pickDone u ⟨asked,0⟩=11:=by
 unfold pickDone
 rw [if_neg (by simp),if_neg]
 intro h
 have:=List.all_eq_true.1 h x hx
 obtain ⟨a,ha,e⟩:=List.any_eq_true.1 this
 simp only [decide_eq_true_eq] at e
 subst e
 exact hn ha
theorem root_more {r:RootV} (hm:mayRoot r=true) {i:Nat} {n:ByteArray} {x:JV} (hi:i≤5) (hn:n ∉ [typN,expN,keysN,rolN,verN]):(rootOfA (withJ (rootJ r) i false n x)).2=if (withJ (rootJ r) i false n x).mayB then 11 else 3:=by
 cases hb:(withJ (rootJ r) i false n x).mayB
 · unfold rootOfA
   rw [if_pos hb];rfl
 · obtain ⟨l1,l2,l3,l4,l5⟩:=rootJ_look r
   simp only [List.mem_cons,List.not_mem_nil,or_false,not_or] at hn
   obtain ⟨a1,a2,a3,a4,a5⟩:=hn
   have hlen:(rootJ r).names.length=(rootJ r).items.length:=rfl
   have hi':i≤(rootJ r).names.length:=hi
   have hq:=roles_back (mayRoot_parts.1 hm).2.2.2
   rw [rootA_eq hb rfl,root_full hm (q:=rolesJ r.au) (by rw [withJ_look hlen hi' a1];exact l1) (by rw [withJ_look hlen hi' a5];exact l5) (by rw [withJ_look hlen hi' a2];exact l2) (by rw [withJ_look hlen hi' a3];exact l3) (by rw [withJ_look hlen hi' a4];exact l4) rfl (by show 3≤8192;decide),hq,if_neg (by simp),done_more (withJ_mem _ _ _ _ _) (by simp [a1,a2,a3,a4,a5]),if_pos (by decide)]
   rfl
theorem root_less {r:RootV} (hm:mayRoot r=true) {n:ByteArray} (hn:n ∈ [typN,expN,keysN,rolN,verN]):rootOfA (outJ (rootJ r) n)=(rootZ,6):=by
 obtain ⟨l1,l2,l3,l4,l5⟩:=rootJ_look r
 obtain ⟨a1,a2,a3,a4,a5,a6,a7,a8,a9,a10⟩:=root_names.2.2
 have hmay:(outJ (rootJ r) n).mayB=true:=by
  rw [show rootJ r=objJ (rootM r) from rfl,outJ_filter]
  refine few_may (filter_rises _ root_names.1) (Nat.le_trans (List.length_filter_le _ _) (by show 5≤6;decide)) fun p hp=>rootM_ok hm p (List.mem_filter.1 hp).1
 have lk:∀y,(outJ (rootJ r) n).look y=if n=y then none else (rootJ r).look y:=outJ_look (rootM r) n
 have hk:(outJ (rootJ r) n).kind=5:=rfl
 rw [rootA_eq hmay hk]
 generalize outJ (rootJ r) n=u at lk
 simp only [List.mem_cons,List.not_mem_nil,or_false] at hn
 rcases hn with rfl|rfl|rfl|rfl|rfl
 · refine rt_typ (by decide) ?_
   have e:pickText u typN ⟨[],0⟩=(⟨#[]⟩,⟨[],6⟩):=by unfold pickText;rw [if_neg (by simp),lk,if_pos rfl]
   unfold rtT
   rw [e,if_pos (by decide)]
   rfl
 · refine rt_exp (by decide) ?_
   have e:=rt2 hm (rt1 (u:=u) (by rw [lk,if_neg (Ne.symm a1)];exact l1)) (by rw [lk,if_neg a7];exact l5)
   unfold rtC pickText
   rw [e,if_neg (by simp),lk,if_pos rfl]
 · refine rt_key (by decide) ?_
   have e:=rt3 (rt2 hm (rt1 (u:=u) (by rw [lk,if_neg (Ne.symm a2)];exact l1)) (by rw [lk,if_neg a9];exact l5)) (by rw [lk,if_neg (Ne.symm a5)];exact l2)
   unfold rtK
   rw [(rt3s hm e).2]
   unfold pickObj
   rw [if_neg (by simp),lk,if_pos rfl]
 · refine rt_rol (by decide) ?_
   have e:=rt3 (rt2 hm (rt1 (u:=u) (by rw [lk,if_neg (Ne.symm a3)];exact l1)) (by rw [lk,if_neg a10];exact l5)) (by rw [lk,if_neg (Ne.symm a6)];exact l2)
   obtain ⟨e4,e5⟩:=rt4 hm e (by rw [lk,if_neg (Ne.symm a8)];exact l3)
   unfold rtO
   rw [e4,e5]
   unfold pickObj
   rw [if_neg (by simp [PS.fail]),lk,if_pos rfl]
 · refine rt_ver (by decide) ?_
   have e:=rt1 (u:=u) (by rw [lk,if_neg (Ne.symm a4)];exact l1)
   unfold rtB pickNum
   rw [e,if_neg (by simp),lk,if_pos rfl]
theorem root_type {r:RootV} (hm:mayRoot r=true) {t:ByteArray}:rootOfA (withJ (rootJ r) 0 true typN (txtJ t))=if txtOk t=false then (rootZ,3) else if t=rootN then (r,0) else (rootZ,13):=by
 rw [show rootJ r=objJ (rootM r) from rfl,withJ_set (N:=rootM r) (r:=0) (n:=typN) (by show 0<5;decide)]
 have hset:(rootM r).set 0 (typN,txtJ t)=(typN,txtJ t) :: (rootM r).tail:=rfl
 split
 · rename_i ht
   have hp:(objJ ((rootM r).set 0 (typN,txtJ t))).mayB=false:=by
    have:(objJ ((rootM r).set 0 (typN,txtJ t))).partB=false:=by
     rw [JV.partB_eq]
     have:JV.partsB (objJ ((rootM r).set 0 (typN,txtJ t))).items=false:=JV.partsB_bad _ 0 (by show 0<5;decide) (by show (txtJ t).partB=false;rw [txtJ_partB];exact ht)
     rw [this];simp
    rw [JV.mayB_iff,this];rfl
   unfold rootOfA
   rw [if_pos hp]
 · rename_i ht
   have htt:txtOk t=true:=by simpa using ht
   have c:=txtJ_cd t
   have hmay:(objJ ((rootM r).set 0 (typN,txtJ t))).mayB=true:=by
    refine few_may root_names.1 (by show 5≤6;decide) fun p hp=>?_
    rcases List.mem_cons.1 (hset ▸ hp) with rfl|h
    · exact ⟨root_names.2.1.1,txtJ_part htt,Nat.le_trans (Nat.le_of_eq c.1) (by decide),Nat.le_trans (Nat.le_of_eq c.2) (by decide)⟩
    · exact rootM_ok hm p (List.mem_of_mem_tail h)
   rw [rootA_eq hmay rfl]
   split
   · rename_i e
     rw [e]
     exact root_back hm
   · rename_i e
     refine rt_typ (by decide) ?_
     unfold rtT
     rw [pickText_ok (t:=t) (by show lookL (typN :: _) (txtJ t :: _) typN=_;simp [lookL]),if_pos e]
     rfl
def rootJR (r:RootV) (q:JV):JV:=objJ [(typN,txtJ rootN),(expN,txtJ (dateB r.exp)),(keysN,tabJ r.keys),(rolN,q),(verN,numJ r.ver)]
theorem rootJR_with (r:RootV) (q:JV):withJ (rootJ r) 3 true rolN q=rootJR r q:=withJ_set (N:=rootM r) (r:=3) (n:=rolN) (by show 3<5;decide)
theorem rootJR_may {r:RootV} (hm:mayRoot r=true) {q:JV} (h:q.partB=true∧q.count≤130∧q.depth≤3):(rootJR r q).mayB=true:=by
 refine few_may root_names.1 (by show 5≤6;decide) fun p hp=>?_
 simp only [List.mem_cons,List.not_mem_nil,or_false] at hp
 have hr:=rootM_ok hm
 rcases hp with rfl|rfl|rfl|rfl|rfl
 · exact hr _ (by simp [rootM])
 · exact hr _ (by simp [rootM])
 · exact hr _ (by simp [rootM])
 · exact ⟨root_names.2.1.2.2.2.1,h⟩
 · exact hr _ (by simp [rootM])
theorem rootJR_of {r:RootV} (hm:mayRoot r=true) {q:JV} (hq:q.kind=5) (hl:q.items.length≤8192):rootOfK (rootJR r q)=if (rolesOfK q).2≠0 then (rootZ,(rolesOfK q).2) else (⟨r.ver,r.exp,r.keys,(rolesOfK q).1⟩,0):=by
 obtain ⟨a1,a2,a3,a4,a5,a6,a7,a8,a9,a10⟩:=root_names.2.2
 have e:∀y,(rootJR r q).look y=lookL [typN,expN,keysN,rolN,verN] [txtJ rootN,txtJ (dateB r.exp),tabJ r.keys,q,numJ r.ver] y:=fun _=>rfl
 rw [root_full (u:=rootJR r q) hm (q:=q) (by rw [e];simp [lookL]) (by rw [e];simp [lookL,a4,a7,a9,a10]) (by rw [e];simp [lookL,a1]) (by rw [e];simp [lookL,a2,a5]) (by rw [e];simp [lookL,a3,a6,a8]) hq hl]
 have e9:pickDone (rootJR r q) ⟨[rolN,keysN,expN,verN,typN],0⟩=0:=by
  unfold pickDone
  rw [if_neg (by simp),if_pos]
  simp [rootJR,objJ,JV.names]
 rw [e9,if_neg (show ¬(0:Int)≠0 by simp)]
theorem roleS_keeps {v:JV} {y:ByteArray} {st:PS} (h:st.err≠0):(roleS v y st).2=st:=by
 unfold roleS
 show (pickObj v y 8192 st).2.fail _=st
 rw [obj_keeps h,fail_keeps h]
theorem roleS_none {v:JV} {y:ByteArray} {s:List ByteArray} (h:v.look y=none):(roleS v y ⟨s,0⟩).2.err=6:=by
 unfold roleS
 have e:pickObj v y 8192 ⟨s,0⟩=(zeroJ,⟨s,6⟩):=by unfold pickObj;rw [if_neg (by simp),h]
 rw [e]
 dsimp only
 rw [fail_keeps (by simp)]
theorem rol_bad {v:JV} {er:Int} (h0:er≠0) (h:(rol3 v).2.err=er):rolesOfK v=(auth3Z,er):=by
 have e:pickDone v (rol3 v).2=er:=by rw [done_err (by rw [h];exact h0),h]
 unfold rolesOfK
 rw [e,if_pos h0]
theorem may3_parts {x:Auth3}:may3 x=true↔mayAuth x.a=true∧mayAuth x.b=true∧mayAuth x.c=true:=by
 unfold may3
 simp only [Bool.and_eq_true]
 exact ⟨fun h=>⟨h.1.1,h.1.2,h.2⟩,fun h=>⟨⟨h.1,h.2.1⟩,h.2.2⟩⟩
theorem rolesJ_look (x:Auth3):(rolesJ x).look rootN=some (authJ x.a)∧(rolesJ x).look snpN=some (authJ x.b)∧(rolesJ x).look tgtN=some (authJ x.c):=by
 obtain ⟨n1,n2,n3⟩:=roles_names.2.2
 have k0:∀y,(rolesJ x).look y=lookL [rootN,snpN,tgtN] [authJ x.a,authJ x.b,authJ x.c] y:=fun _=>rfl
 refine ⟨?_,?_,?_⟩ <;> simp [k0,lookL,n1,n2,n3]
theorem roles_less {x:Auth3} (h:may3 x=true) {n:ByteArray} (hn:n ∈ [rootN,snpN,tgtN]):rolesOfK (outJ (rolesJ x) n)=(auth3Z,6):=by
 obtain ⟨h1,h2,h3⟩:=may3_parts.1 h
 obtain ⟨l1,l2,l3⟩:=rolesJ_look x
 obtain ⟨n1,n2,n3⟩:=roles_names.2.2
 have lk:∀y,(outJ (rolesJ x) n).look y=if n=y then none else (rolesJ x).look y:=outJ_look (rolesM x) n
 generalize outJ (rolesJ x) n=u at lk
 refine rol_bad (by decide) ?_
 simp only [List.mem_cons,List.not_mem_nil,or_false] at hn
 rcases hn with rfl|rfl|rfl
 · have e1:(rol1 u).2.err=6:=roleS_none (by rw [lk,if_pos rfl])
   have e2:(rol2 u).2=(rol1 u).2:=roleS_keeps (by rw [e1];decide)
   have e3:(rol3 u).2=(rol2 u).2:=roleS_keeps (by rw [e2,e1];decide)
   rw [e3,e2,e1]
 · have e1:rol1 u=(x.a,⟨[rootN],0⟩):=roleS_ok (by rw [lk,if_neg (Ne.symm n1)];exact l1) h1
   have e2:(rol2 u).2.err=6:=by
    unfold rol2
    rw [e1]
    exact roleS_none (by rw [lk,if_pos rfl])
   have e3:(rol3 u).2=(rol2 u).2:=roleS_keeps (by rw [e2];decide)
   rw [e3,e2]
 · have e1:rol1 u=(x.a,⟨[rootN],0⟩):=roleS_ok (by rw [lk,if_neg (Ne.symm n2)];exact l1) h1
   have e2:rol2 u=(x.b,⟨[snpN,rootN],0⟩):=by
    unfold rol2
    rw [e1]
    exact roleS_ok (by rw [lk,if_neg (Ne.symm n3)];exact l2) h2
   unfold rol3
   rw [e2]
   exact roleS_none (by rw [lk,if_pos rfl])
theorem roles_more {x:Auth3} (h:may3 x=true) {i:Nat} {n:ByteArray} {y:JV} (hi:i≤3) (hn:n ∉ [rootN,snpN,tgtN]):rolesOfK (withJ (rolesJ x) i false n y)=(auth3Z,11):=by
 obtain ⟨h1,h2,h3⟩:=may3_parts.1 h
 obtain ⟨l1,l2,l3⟩:=rolesJ_look x
 simp only [List.mem_cons,List.not_mem_nil,or_false,not_or] at hn
 obtain ⟨a1,a2,a3⟩:=hn
 have hlen:(rolesJ x).names.length=(rolesJ x).items.length:=rfl
 have hi':i≤(rolesJ x).names.length:=hi
 have hx:n ∈ (withJ (rolesJ x) i false n y).names:=withJ_mem _ _ _ _ _
 have k1:(withJ (rolesJ x) i false n y).look rootN=some (authJ x.a):=by rw [withJ_look hlen hi' a1];exact l1
 have k2:(withJ (rolesJ x) i false n y).look snpN=some (authJ x.b):=by rw [withJ_look hlen hi' a2];exact l2
 have k3:(withJ (rolesJ x) i false n y).look tgtN=some (authJ x.c):=by rw [withJ_look hlen hi' a3];exact l3
 generalize withJ (rolesJ x) i false n y=u at hx k1 k2 k3
 have e1:rol1 u=(x.a,⟨[rootN],0⟩):=roleS_ok k1 h1
 have e2:rol2 u=(x.b,⟨[snpN,rootN],0⟩):=by
  unfold rol2
  rw [e1]
  exact roleS_ok k2 h2
 have e3:rol3 u=(x.c,⟨[tgtN,snpN,rootN],0⟩):=by
  unfold rol3
  rw [e2]
  exact roleS_ok k3 h3
 have e4:pickDone u ⟨[tgtN,snpN,rootN],0⟩=11:=done_more hx (by simp [a1,a2,a3])
 unfold rolesOfK
 rw [e3,e4,if_pos (by decide)]
theorem root_less_role {r:RootV} (hm:mayRoot r=true) {n:ByteArray} (hn:n ∈ [rootN,snpN,tgtN]):rootOfA (withJ (rootJ r) 3 true rolN (outJ (rolesJ r.au) n))=(rootZ,6):=by
 have h3:=(mayRoot_parts.1 hm).2.2.2
 have hq:(outJ (rolesJ r.au) n).kind=5:=rfl
 have hN:outJ (rolesJ r.au) n=objJ ((rolesM r.au).filter fun z=>z.1.toList != n.toList):=outJ_filter _ _
 have hlen:((rolesM r.au).filter fun z=>z.1.toList != n.toList).length≤3:=List.length_filter_le _ _
 have hp:∀p ∈ (rolesM r.au).filter (fun z=>z.1.toList != n.toList),txtOk p.1=true∧p.2.partB=true∧p.2.count≤40∧p.2.depth≤2:=fun p hp=>by
  have hp:=(List.mem_filter.1 hp).1
  obtain ⟨ha,hb,hc⟩:=may3_parts.1 h3
  obtain ⟨-,⟨n1,n2,n3⟩,-⟩:=roles_names
  simp only [rolesM,List.mem_cons,List.not_mem_nil,or_false] at hp
  rcases hp with rfl|rfl|rfl
  · exact ⟨n1,authJ_ok ha⟩
  · exact ⟨n2,authJ_ok hb⟩
  · exact ⟨n3,authJ_ok hc⟩
 have hpart:=objJ_part ⟨filter_rises (N:=rolesM r.au) (fun z=>z.1.toList != n.toList) roles_names.1,fun p h=>⟨(hp p h).1,(hp p h).2.1⟩⟩
 have hcnt:=objJ_count 40 fun p h=>(hp p h).2.2.1
 have hdep:=objJ_depth 2 fun p h=>(hp p h).2.2.2
 have hmul:((rolesM r.au).filter fun z=>z.1.toList != n.toList).length * 40≤3 * 40:=Nat.mul_le_mul_right _ hlen
 have hil:(outJ (rolesJ r.au) n).items.length≤8192:=by
  rw [hN]
  show (((rolesM r.au).filter fun z=>z.1.toList != n.toList).map (·.2)).length≤8192
  rw [List.length_map]
  omega
 have e:=roles_less h3 hn
 rw [rootJR_with,rootA_eq (rootJR_may hm (by rw [hN];exact ⟨hpart,by omega,hdep⟩)) rfl,rootJR_of hm hq hil,e,if_pos (by decide)]
theorem root_more_role {r:RootV} (hm:mayRoot r=true) {i:Nat} {n:ByteArray} {y:JV} (hi:i≤3) (hn:n ∉ [rootN,snpN,tgtN]):(rootOfA (withJ (rootJ r) 3 true rolN (withJ (rolesJ r.au) i false n y))).2=if (withJ (rootJ r) 3 true rolN (withJ (rolesJ r.au) i false n y)).mayB then 11 else 3:=by
 cases hb:(withJ (rootJ r) 3 true rolN (withJ (rolesJ r.au) i false n y)).mayB
 · unfold rootOfA
   rw [if_pos hb];rfl
 · have hil:(withJ (rolesJ r.au) i false n y).items.length≤8192:=by
    show (withI (rolesJ r.au) i false y).length≤8192
    unfold withI
    have:(rolesJ r.au).items.length=3:=rfl
    simp only [List.length_append,List.length_take,List.length_drop,List.length_cons,List.length_nil]
    omega
   have e:=roles_more (mayRoot_parts.1 hm).2.2.2 (y:=y) hi hn
   rw [rootA_eq hb rfl,rootJR_with,rootJR_of hm rfl hil,e,if_pos (by decide)]
   rfl
def digN (c:UInt8):ByteArray:=⟨(List.replicate 64 c).toArray⟩
def oneV (c:UInt8):AuthV:=⟨1,[digN c]⟩
def exR:RootV:=⟨1,9,[],⟨oneV 97,oneV 98,oneV 99⟩⟩
def exRJ:JV:=rootJ exR
def tstN:ByteArray:=⟨#[116,105,109,101,115,116,97,109,112]⟩
theorem exR_may:mayRoot exR=true:=by decide +kernel
theorem exR_back:rootOfA exRJ=(exR,0):=by
 rw [show exRJ=rootJ exR from rfl,rootA_eq (rootJ_may exR_may) rfl]
 exact root_back exR_may
theorem exRJ_wt:exRJ.wt≤2000000:=by decide +kernel
theorem wt_obj (N:List NJ):(objJ N).wt=1+bytesSum (N.map (·.1))+JV.wts (N.map (·.2)):=by
 show 1+(⟨#[]⟩:ByteArray).size+bytesSum (N.map (·.1))+JV.wts (N.map (·.2))=_
 rfl
theorem txtJ_wt1 (t:ByteArray):(txtJ t).wt=1+t.size:=by simp [txtJ,JV.wt,JV.wts,bytesSum]
theorem numJ_wt1 (n:Int):(numJ n).wt=1:=by simp [numJ,JV.wt,JV.wts,bytesSum,ByteArray.size]
theorem texts_wts:∀l:List ByteArray,(∀x ∈ l,x.size=64)→JV.wts (l.map txtJ)=65 * l.length
 | [],_=>rfl
 | x :: r,h=>by
  have h1:=h x (List.mem_cons_self ..)
  have h2:=texts_wts r fun y hy=>h y (List.mem_cons_of_mem _ hy)
  rw [List.map_cons,JV.wts,h2,txtJ_wt1,h1,List.length_cons];omega
theorem authJ_wt {a:AuthV} (h:mayAuth a=true):(authJ a).wt≤2000:=by
 obtain ⟨hl,ht,hi⟩:=mayAuth_parts h
 have hx:=idsErr_hex _ _ hi
 have h1:=texts_wts a.ids fun x hx'=>(hex64_txt (hx x hx')).2
 rw [show authJ a=objJ (authM a) from rfl,wt_obj]
 have e1:bytesSum ((authM a).map (·.1))=17:=rfl
 have e2:(textsJ a.ids).wt=1+JV.wts (a.ids.map txtJ):=by
  show 1+(⟨#[]⟩:ByteArray).size+bytesSum [] + JV.wts (a.ids.map txtJ)=_
  rfl
 have e3:JV.wts ((authM a).map (·.2))=(textsJ a.ids).wt+((numJ a.thr).wt+0):=rfl
 rw [e1,e3,e2,numJ_wt1,h1]
 omega
theorem rolesJ_wt {x:Auth3} (h:may3 x=true):(rolesJ x).wt≤7000:=by
 obtain ⟨h1,h2,h3⟩:=may3_parts.1 h
 have w1:=authJ_wt h1
 have w2:=authJ_wt h2
 have w3:=authJ_wt h3
 rw [show rolesJ x=objJ (rolesM x) from rfl,wt_obj]
 have e1:bytesSum ((rolesM x).map (·.1))=22:=rfl
 have e3:JV.wts ((rolesM x).map (·.2))=(authJ x.a).wt+((authJ x.b).wt+((authJ x.c).wt+0)):=rfl
 rw [e1,e3]
 omega
theorem rootM_wts {r:RootV} (h:mayRoot r=true):∀p ∈ rootM r,p.2.wt≤40000:=fun p hp=>by
 obtain ⟨_,he,hk,ha⟩:=mayRoot_parts.1 h
 obtain ⟨k1,k2,k3⟩:=mayKeys_parts.1 hk
 simp only [rootM,List.mem_cons,List.not_mem_nil,or_false] at hp
 rcases hp with rfl|rfl|rfl|rfl|rfl
 · show (txtJ rootN).wt≤40000
   rw [txtJ_wt1];decide
 · show (txtJ (dateB r.exp)).wt≤40000
   have h1:=(date_bytes r.exp.toNat (by omega)).1
   have:(dateB r.exp).size=(dateL r.exp.toNat).length:=by simp [dateB,ByteArray.size]
   rw [txtJ_wt1];omega
 · have:=tabJ_wt (m:=r.keys) fun k hk'=>ok2_size (k2 k hk')
   show (tabJ r.keys).wt≤40000
   omega
 · have:=rolesJ_wt ha
   show (rolesJ r.au).wt≤40000
   omega
 · show (numJ r.ver).wt≤40000
   rw [numJ_wt1];decide
theorem wts_le:∀(l:List JV) (b:Nat),(∀x ∈ l,x.wt≤b)→JV.wts l≤l.length * b
 | [],b,_=>by simp [JV.wts]
 | x :: r,b,h=>by
  have h1:=h x (List.mem_cons_self ..)
  have h2:=wts_le r b fun y hy=>h y (List.mem_cons_of_mem _ hy)
  rw [JV.wts,List.length_cons,Nat.succ_mul];omega
theorem rootJ_wt {r:RootV} (h:mayRoot r=true):(rootJ r).wt≤210000:=by
 rw [show rootJ r=objJ (rootM r) from rfl,wt_obj]
 have e1:bytesSum ((rootM r).map (·.1))≤100:=by show bytesSum [typN,expN,keysN,rolN,verN]≤100;decide
 have e2:=wts_le ((rootM r).map (·.2)) 40000 fun x hx=>by obtain ⟨p,hp,rfl⟩:=List.mem_map.1 hx;exact rootM_wts h p hp
 have e3:((rootM r).map (·.2)).length=5:=rfl
 rw [e3] at e2
 omega
theorem bytes_take:∀(l:List ByteArray) (k:Nat),bytesSum (l.take k)+bytesSum (l.drop k)=bytesSum l
 | [],k=>by simp [bytesSum]
 | a :: r,0=>by simp [bytesSum]
 | a :: r,k+1=>by have:=bytes_take r k;simp only [List.take_succ_cons,List.drop_succ_cons,bytesSum];omega
theorem wts_take:∀(l:List JV) (k:Nat),JV.wts (l.take k)+JV.wts (l.drop k)=JV.wts l
 | [],k=>by simp [JV.wts]
 | a :: r,0=>by simp [JV.wts]
 | a :: r,k+1=>by have:=wts_take r k;simp only [List.take_succ_cons,List.drop_succ_cons,JV.wts];omega
theorem bytes_app:∀a b:List ByteArray,bytesSum (a ++ b)=bytesSum a+bytesSum b
 | [],b=>by simp [bytesSum]
 | x :: a,b=>by have:=bytes_app a b;simp only [List.cons_append,bytesSum];omega
theorem wts_app:∀a b:List JV,JV.wts (a ++ b)=JV.wts a+JV.wts b
 | [],b=>by simp [JV.wts]
 | x :: a,b=>by have:=wts_app a b;simp only [List.cons_append,JV.wts];omega
theorem withJ_wt (v:JV) (r:Nat) (f:Bool) (n:ByteArray) (x:JV):(withJ v r f n x).wt≤v.wt+n.size+x.wt+1:=by
 have h1:=bytes_take v.names r
 have h2:=wts_take v.items r
 have h3:bytesSum (v.names.drop (r+f.toNat))≤bytesSum (v.names.drop r):=by
  rw [← List.drop_drop]
  have:=bytes_take (v.names.drop r) f.toNat
  omega
 have h4:JV.wts (v.items.drop (r+f.toNat))≤JV.wts (v.items.drop r):=by
  rw [← List.drop_drop]
  have:=wts_take (v.items.drop r) f.toNat
  omega
 have e:v.wt=1+v.t.size+bytesSum v.names+JV.wts v.items:=by cases v;rfl
 have e2:(withJ v r f n x).wt=1+0+bytesSum (withN v r f n)+JV.wts (withI v r f x):=rfl
 rw [e2,e]
 unfold withN withI
 rw [bytes_app,bytes_app,wts_app,wts_app]
 simp only [bytesSum,JV.wts]
 omega
def rootAuth (r:RootV) (role:ByteArray):AuthV × Bool:=if rootN=role then (r.au.a,true) else if snpN=role then (r.au.b,true) else if tgtN=role then (r.au.c,true) else (authZ,false)
theorem rootAuth_none (r:RootV) {role:ByteArray} (h:role ∉ [rootN,snpN,tgtN]):rootAuth r role=(authZ,false):=by
 simp only [List.mem_cons,List.not_mem_nil,or_false,not_or] at h
 unfold rootAuth
 rw [if_neg (Ne.symm h.1),if_neg (Ne.symm h.2.1),if_neg (Ne.symm h.2.2)]
def sameRoot (a b:RootV):Bool:=decide (a=b)
theorem sameRoot_parts (a b:RootV):sameRoot a b=(decide (a.ver=b.ver) && decide (a.exp=b.exp) && decide (a.keys=b.keys) && decide (a.au.a=b.au.a) && decide (a.au.b=b.au.b) && decide (a.au.c=b.au.c)):=by
 obtain ⟨v1,e1,k1,x1,y1,z1⟩:=a
 obtain ⟨v2,e2,k2,x2,y2,z2⟩:=b
 unfold sameRoot
 simp only [RootV.mk.injEq,Auth3.mk.injEq]
 by_cases h1:v1=v2 <;> by_cases h2:e1=e2 <;> by_cases h3:k1=k2 <;> by_cases h4:x1=x2 <;> by_cases h5:y1=y2 <;> by_cases h6:z1=z2 <;> simp [h1,h2,h3,h4,h5,h6]
theorem sameRoot_self (a:RootV):sameRoot a a=true:=by simp [sameRoot]
structure RootIn (w:World) (lo hi:Nat) (r:RootV) (ka i1 i2 i3:Option Addr):Prop where
 keys:KeysAt w lo hi ka r.keys
 a:StrsAt w lo hi i1 r.au.a.ids
 b:StrsAt w lo hi i2 r.au.b.ids
 c:StrsAt w lo hi i3 r.au.c.ids
theorem RootIn.below {w w':World} {lo hi lo' hi' B:Nat} {r:RootV} {ka i1 i2 i3:Option Addr} (h:RootIn w lo hi r ka i1 i2 i3) (hb:Below B w w') (hB:hi≤B) (h1:lo'≤lo) (h2:hi≤hi'):RootIn w' lo' hi' r ka i1 i2 i3 :=
 ⟨h.keys.below hb hB h1 h2,h.a.below hb hB h1 h2,h.b.below hb hB h1 h2,h.c.below hb hB h1 h2⟩
theorem RootIn.carry {w w':World} {lo hi lo' hi':Nat} {r:RootV} {ka i1 i2 i3:Option Addr} (h:RootIn w lo hi r ka i1 i2 i3) (h1:lo'≤lo) (h2:hi≤hi') (hs:∀b,lo≤b→b<hi→w'.heap[b]?=w.heap[b]?):RootIn w' lo' hi' r ka i1 i2 i3 :=
 ⟨h.keys.carry h1 h2 hs,h.a.carry h1 h2 hs,h.b.carry h1 h2 hs,h.c.carry h1 h2 hs⟩
def AuthFits (a:AuthV):Prop:=(-9223372036854775808≤a.thr∧a.thr≤9223372036854775807)∧a.ids.length≤4294967296∧∀s ∈ a.ids,s.size≤4294967296
structure RootFits (r:RootV):Prop where
 ver:-9223372036854775808≤r.ver∧r.ver≤9223372036854775807
 exp:-9223372036854775808≤r.exp∧r.exp≤9223372036854775807
 len:r.keys.length≤40
 keys:∀k ∈ r.keys,k.1.size≤300∧k.2.size≤300
 a:AuthFits r.au.a
 b:AuthFits r.au.b
 c:AuthFits r.au.c
theorem authFits_may {a:AuthV} (h:mayAuth a=true):AuthFits a:=by
 obtain ⟨h1,h2,h3⟩:=mayAuth_parts h
 refine ⟨by omega,by omega,fun s hs=>?_⟩
 have:=(hex64_txt (idsErr_hex _ _ h3 s hs)).2
 omega
theorem rootFits_may {r:RootV} (h:mayRoot r=true):RootFits r:=by
 obtain ⟨hv,he,hk,ha⟩:=mayRoot_parts.1 h
 obtain ⟨k1,k2,k3⟩:=mayKeys_parts.1 hk
 obtain ⟨a1,a2,a3⟩:=may3_parts.1 ha
 exact ⟨by omega,by omega,by omega,fun k hk'=>by have:=ok2_size (k2 k hk');omega,authFits_may a1,authFits_may a2,authFits_may a3⟩
def TextsPost (l:List ByteArray) (w:World) (e:Ending) (w':World):Prop :=
 ∃ai ci,e=.returned (.agg #[.int .u8 4,.int .i64 0,.string ⟨#[]⟩,.slice none 0 0,.slice ai l.length ci])∧Rep w' w.heap.size w'.heap.size (textsJ l) (.agg #[.int .u8 4,.int .i64 0,.string ⟨#[]⟩,.slice none 0 0,.slice ai l.length ci])∧Below w.heap.size w w'
set_option maxHeartbeats 2000000 in
set_option maxRecDepth 100000 in
theorem textsOf (l:List ByteArray) (a:Option Addr) (c:Nat) (w:World) (hS:StrsAt w 0 w.heap.size a l) (hl:l.length≤4294967296) :
 Calls Tryz.prog 114 #[.slice a l.length c] w (TextsPost l w):=by
 obtain ⟨W,hW⟩:∃W,W=(w.alloc (.cells #[.int .u8 0,.int .i64 0,.string ⟨#[]⟩,.slice none 0 0,.slice none 0 0] 25)).alloc (.cells #[.int .u8 4,.int .i64 0,.string ⟨#[]⟩,.slice none 0 0,.slice none 0 0] 25):=⟨_,rfl⟩
 have hz1:(w.alloc (.cells #[.int .u8 0,.int .i64 0,.string ⟨#[]⟩,.slice none 0 0,.slice none 0 0] 25)).heap.size=w.heap.size+1:=by simp
 have hz2:W.heap.size=w.heap.size+2:=by rw [hW];simp
 have hb2:Below w.heap.size w W:=by rw [hW];exact ((Below.refl _ _).alloc lz _).alloc (by simp) _
 have hr0:W.rowIs w.heap.size 25 5 (pick5 (.int .u8 0) (.int .i64 0) (.string ⟨#[]⟩) (.slice none 0 0) (.slice none 0 0)):=by rw [hW];exact (rowIs_box5 w (.int .u8 0) (.int .i64 0) (.string ⟨#[]⟩) (.slice none 0 0) (.slice none 0 0) 25).alloc _
 have hr1:W.rowIs (w.heap.size+1) 25 5 (pick5 (.int .u8 4) (.int .i64 0) (.string ⟨#[]⟩) (.slice none 0 0) (.slice none 0 0)):=by
  have:=rowIs_box5 (w.alloc (.cells #[.int .u8 0,.int .i64 0,.string ⟨#[]⟩,.slice none 0 0,.slice none 0 0] 25)) (.int .u8 4) (.int .i64 0) (.string ⟨#[]⟩) (.slice none 0 0) (.slice none 0 0) 25
  rw [hz1,← hW] at this
  exact this
 have HS:=Lh hS
 have HW:=Lh hW
 have HB2:=Lh hb2
 have HR0:=Lh hr0
 have HR1:=Lh hr1
 have HZ2:=Lh hz2
 obtain ⟨nn,hnn⟩:∃nn,nn=l.length:=⟨_,rfl⟩
 have HNN:=Lh hnn
 rw [← hnn] at hl ⊢
 clear hS hW hb2 hr0 hr1 hz1 hz2 hnn
 obtain ⟨i0,hi0,hz0,hz1,hz2⟩:=info_parts infoValue
 go_enter Tryz.func114,Tryz.ntmps114
 go_upto_region 2 with fail
 rw [← HW.out]
 clear HW
 obtain ⟨cb,hcb⟩:∃cb,cb=w.heap.size+1:=⟨_,rfl⟩
 have HCB:=Lh hcb
 rw [← hcb] at HR1 ⊢
 have hltW:cb<W.heap.size:=by have:=HZ2.out;omega
 clear hcb
 go_wp2
 go_loopw [5,9] (fun _ i wr=>∃(k:Nat) (cs:List Value) (vi:Value),k≤nn∧i=.int .i64 k∧Touch (· = cb) W wr∧wr.rowIs cb 25 5 (pick5 (.int .u8 4) (.int .i64 0) (.string ⟨#[]⟩) (.slice none 0 0) vi)∧wr.ownsRow W.heap.size 25 5 vi k cs∧RepRow wr W.heap.size (fun b=>b=cb∨vi.ownBlock=some b) ((l.take k).map txtJ) cs) (fun _ i _=>nn - (intOf i).toNat)
 case atStart=>exact ⟨0,[],.slice none 0 0,by omega,rfl,Touch.refl _ _,HR1.out,World.ownsRow_nil _ _ _ _,by simpa using RepRow.nil _ _ _⟩
 case round =>
  obtain ⟨k,cs,vi,hk,rfl,htch,hrow,hown,hrr⟩:=hrel
  by_cases hlt2:k<nn
  · have hlt':k<l.length:=by rw [← HNN.out];exact hlt2
    have HB:Hid (Below w.heap.size w wr):=HB2.out.trans (htch.below (by have:=HZ2.out;omega) fun j hj e=>by have:=HCB.out;omega)
    obtain ⟨b,off,rfl,_,hb,y0⟩:=(HS.out.below HB.out lz lz lz).at k hlt'
    have HTK:=Lh (show (l.take (k+1)).map txtJ=(l.take k).map txtJ ++ [txtJ l[k]] by rw [List.take_succ_eq_append_getElem hlt',List.map_append];rfl)
    have c4:wr.cell? ⟨cb,4,none⟩=some vi:=hrow.cell (by omega)
    have f4:wr.frozen? ⟨cb,4,none⟩=false:=hrow.frozen 4
    have hcz:cb<wr.heap.size:=hrow.lt
    have hwz:W.heap.size≤wr.heap.size:=htch.size
    have hnb:some cb≠vi.ownBlock:=fun e=>by have:=(hown.lt _ e.symm).1;omega
    have HRW:=Lh hrow
    have HTC:=Lh htch
    have HO:=Lh hown
    have HRR:=Lh hrr
    clear hrow htch hown hrr
    generalize l[k]=it at *
    have HCI:=Lh (show Calls Tryz.prog 65 #[.string it] wr.drew (fun e w3=>e=.returned (.agg #[.int .u8 3,.int .i64 0,.string it,.slice none 0 0,.slice none 0 0])∧Rep w3 (wr.heap.size+1) w3.heap.size (txtJ it) (.agg #[.int .u8 3,.int .i64 0,.string it,.slice none 0 0,.slice none 0 0])∧Below (wr.heap.size+1) ((wr.alloc (.cells #[.int .u8 3,.int .i64 0,.string it,.slice none 0 0,.slice none 0 0] 25)).drew) w3∧wr.heap.size<w3.heap.size∧w3.cell? ⟨cb,4,none⟩=some vi∧w3.frozen? ⟨cb,4,none⟩=false∧w3.ownsRow W.heap.size 25 5 vi k cs) by
     refine (pickTextOf it wr.drew).mono ?_
     rintro e w3 ⟨rfl,rfl⟩
     have hb4:Below wr.heap.size wr (wr.drew.alloc (.cells #[.int .u8 3,.int .i64 0,.string it,.slice none 0 0,.slice none 0 0] 25)):=(Below.refl _ _).drew.alloc lz _
     exact ⟨rfl,rep_txt _ _ _ _,Below.refl _ _,by simp,by rw [hb4.cell hcz];exact c4,by rw [hb4.frozen hcz];exact f4,owns_below HO.out hb4⟩)
    go_wp2_with fail
    go_region_law (first|(refine step_append_lies _ (by rfl) (.tmp 14) (.tmp 17) 23 (by rfl) W.heap.size 25 i0 _ 5 80 Tryz.underlying23 hi0 hz0 hz1 hz2 rfl (by omega) vi k cs (by rfl) (HO3.out.alloc _) ⟨w3.heap.size,0,none⟩ 1 1 (Array.toList #[.int .u8 3,.int .i64 0,.string it,.slice none 0 0,.slice none 0 0]) (by rfl) (by rfl) (World.news_of_block (cs:=#[.int .u8 3,.int .i64 0,.string it,.slice none 0 0,.slice none 0 0]) (t:=25) (fr:=(0,0)) (heap_alloc_new w3 _)) (by simp [Value.oneCell']) (by omega) (by unfold maxLen;omega) (by omega) (by simp;omega) (w3.heap.size+1) (by simp) ?_;intro g cap w4 hown4 hgrow4 hat4 hlt4;have c44:=grow_cell hgrow4 hcz3 hnb c43;have f44:=grow_frozen hgrow4 hcz3 hnb f43;have HO4:=Lh hown4;have HG4:=Lh hgrow4;have HA4:=Lh hat4;clear hown4 hgrow4 hat4)|(go_simp;go_at_call 65;(with_reducible refine HCI.out.mono ?_);rintro e w3 ⟨rfl,hr3,hb3,hz3,c43,f43,ho3⟩;have hcz3:cb<w3.heap.size:=Nat.lt_trans hcz hz3;have HO3:=Lh ho3;have HR3:=Lh hr3;have HB3:=Lh hb3;clear ho3 hr3 hb3))
    all_goals
     have HST:=Lh (row_step (j:=4) (it:=txtJ it) (an:=none) (cn:=0) (ai:=none) (ci:=0) hltW HTC.out HRW.out HO.out HRR.out HB3.out HR3.out HG4.out HA4.out HO4.out)
     clear HTC HRW HO HRR HB3 HR3 HG4 HA4 HO4 HO3 HCI
     go_wp2
     go_roundw
     case rel =>
      obtain ⟨z1,z2,z3,z4⟩:=HST.out
      refine ⟨k+1,_,_,by omega,by go_num,z1,z2.congr fun i hi=>?_,z3,by rw [HTK.out];exact z4⟩
      rcases i with _|_|_|_|_|i <;> first|rfl|omega
     case measure=>simp [intOf];omega
  · obtain rfl:k=nn:=by omega
    have hni':(l.take k).map txtJ=l.map txtJ:=by rw [List.take_of_length_le (by rw [← HNN.out];exact Nat.le_refl _)]
    rw [hni'] at hrr
    have hml:(l.map txtJ).length=k:=by rw [List.length_map,← HNN.out]
    obtain ⟨a5,c5,rfl,hc5,hv5⟩:=owns_vals hown hrr hml.symm
    rw [hml] at hc5 hrow
    have HV5:=Lh hv5
    have HC5:=Lh hc5
    have HML:=Lh hml
    have hres:=(htch.row HR0.out (by have:=HCB.out;omega))
    have r0:=hrow.cell (i:=0) (by decide);have r1:=hrow.cell (i:=1) (by decide);have r2:=hrow.cell (i:=2) (by decide);have r3:=hrow.cell (i:=3) (by decide);have r4:=hrow.cell (i:=4) (by decide)
    have t0:=hres.cell (i:=0) (by decide);have t1:=hres.cell (i:=1) (by decide);have t2:=hres.cell (i:=2) (by decide);have t3:=hres.cell (i:=3) (by decide);have t4:=hres.cell (i:=4) (by decide)
    have s0:=hres.frozen 0;have s1:=hres.frozen 1;have s2:=hres.frozen 2;have s3:=hres.frozen 3;have s4:=hres.frozen 4
    simp only [pick5] at r0 r1 r2 r3 r4 t0 t1 t2 t3 t4
    have HT:=Lh htch
    have HRS:=Lh hres
    clear hrow hres hown hrr hv5 htch hni' hc5 hml
    go_wp2
    refine bodyPost_ret (results_cell_row Tryz.results114 _ _ w.heap.size 25 _ (0,0) _ rfl (row5_heap (set5 _ _ _ _ _ HRS.out)) Tryz.underlying25 rfl (by kernel_rfl)) rfl ?_
    have hbw:Below w.heap.size w wr:=HB2.out.trans (HT.out.below (by have:=HZ2.out;omega) fun j hj e=>by have:=HCB.out;omega)
    refine ⟨a5,c5,by rw [← HNN.out],?_,below5 _ _ _ _ _ hbw lz⟩
    rw [← HNN.out]
    have hrep:=Rep.mk (v:=textsJ l) (an:=none) (cn:=0) (ai:=a5) (ci:=c5) (w:=wr) (lo:=W.heap.size) (hi:=wr.heap.size) lz (by show (l.map txtJ).length≤c5;rw [HML.out];exact HC5.out) (.inl rfl) HV5.out
    have e5:(textsJ l).items.length=k:=HML.out
    rw [e5] at hrep
    exact Rep.carry (by have:=HZ2.out;omega) (show wr.heap.size≤_ by simp [World.setCell]) (fun j hj _=>heap5 _ _ _ _ _ (by have:=HZ2.out;omega)) _ _ hrep
def KeyOfPost (v:JV) (w:World) (e:Ending) (w':World):Prop :=
 e=.returned (.tuple #[.agg #[.string (keyOfJ v).1.1,.string (keyOfJ v).1.2],.int .i64 (keyOfJ v).2])∧Below w.heap.size w w'
set_option maxHeartbeats 1000000 in
set_option maxRecDepth 100000 in
theorem keyOf (v:JV) (x:Value) (w:World) (lo hi:Nat) (hN:v.wt≤4294967296) (hhi:hi≤w.heap.size) (hR:Rep w lo hi v x) (hS:v.mayB=true→v.kind=5→∀k (h:k<v.items.length),Seen lo v.items[k]) :
 Calls Tryz.prog 106 #[x] w (KeyOfPost v w):=by
 obtain ⟨an,cn,ai,ci,hx,h1,h2,h3,h4⟩:=hR.parts
 have HR:=Lh hR
 have HS:=Lh hS
 clear h1 h2 h3 h4 hR hS
 subst hx
 have HB0:=Lh (show Below w.heap.size w ((w.alloc (.cells #[.int .u8 v.kind,.int .i64 v.n,.string v.t,.slice an v.names.length cn,.slice ai v.items.length ci] 25)).alloc (.cells #[.string ⟨#[]⟩,.string ⟨#[]⟩] 38)) from ((Below.refl _ _).alloc lz _).alloc (by simp) _)
 have HX0:=Lh (show ((w.alloc (.cells #[.int .u8 v.kind,.int .i64 v.n,.string v.t,.slice an v.names.length cn,.slice ai v.items.length ci] 25)).alloc (.cells #[.string ⟨#[]⟩,.string ⟨#[]⟩] 38)).heap[w.heap.size]?=some (.cells #[.int .u8 v.kind,.int .i64 v.n,.string v.t,.slice an v.names.length cn,.slice ai v.items.length ci] 25 (0,0)) by rw [Below.heap_alloc _ _ _ (by simp)];exact heap_alloc_new w _)
 have hr0:=rowIs_box2 (w.alloc (.cells #[.int .u8 v.kind,.int .i64 v.n,.string v.t,.slice an v.names.length cn,.slice ai v.items.length ci] 25)) (.string ⟨#[]⟩) (.string ⟨#[]⟩) 38
 rw [show (w.alloc (.cells #[.int .u8 v.kind,.int .i64 v.n,.string v.t,.slice an v.names.length cn,.slice ai v.items.length ci] 25)).heap.size=w.heap.size+1 by simp] at hr0
 have HR0:=Lh hr0
 clear hr0
 have HM:=Lh (valueMay v _ ((w.alloc (.cells #[.int .u8 v.kind,.int .i64 v.n,.string v.t,.slice an v.names.length cn,.slice ai v.items.length ci] 25)).alloc (.cells #[.string ⟨#[]⟩,.string ⟨#[]⟩] 38)) hN (HR.out.below HB0.out hhi (Nat.zero_le _) (by simp;omega)))
 cases hm:v.mayB
 · have HX:=Lh (show keyOfJ v=((⟨#[]⟩,⟨#[]⟩),3) by unfold keyOfJ;rw [if_pos hm])
   rw [hm] at HM
   clear hm
   go_enter Tryz.func106,Tryz.ntmps106
   go_wp2_with fail
   refine HM.out.mono ?_
   rintro e w1 ⟨rfl,hb1⟩
   have hres:=below_row hb1 HR0.out (by simp)
   have HRS:=Lh hres
   have HB1:=Lh (HB0.out.trans (hb1.mono (by simp;omega)))
   have t0:=hres.cell (i:=0) (by decide);have t1:=hres.cell (i:=1) (by decide)
   have s0:=hres.frozen 0;have s1:=hres.frozen 1
   simp only [pick2] at t0 t1
   clear hres hb1
   go_wp2
   refine bodyPost_ret (results_row_tmp Tryz.results106 _ _ (w.heap.size+1) 38 _ (0,0) _ rfl (row2_heap (set2 _ _ HRS.out)) Tryz.underlying38 rfl (by kernel_rfl) _ rfl) rfl ⟨?_,below2 _ _ HB1.out (by omega)⟩
   rw [HX.out];rfl
 · rw [hm] at HM
   have HMB:=Lh hm
   clear hm
   by_cases hk:v.kind=5
   · obtain ⟨hri,hle,htx⟩:=may_obj HMB.out hk
     obtain ⟨st1,hst1⟩:∃r,r=pickText v pubN ⟨[],0⟩:=⟨_,rfl⟩
     obtain ⟨st2,hst2⟩:∃r,r=pickText v schN st1.2:=⟨_,rfl⟩
     obtain ⟨dn,hdn⟩:∃r,r=pickDone v st2.2:=⟨_,rfl⟩
     have HX:=Lh (show keyOfJ v=if dn≠0 then ((⟨#[]⟩,⟨#[]⟩),dn) else if keyOk st2.1.data.toList st1.1.data.toList then ((st2.1,st1.1),0) else ((⟨#[]⟩,⟨#[]⟩),3) by
      unfold keyOfJ;rw [if_neg (by rw [HMB.out];simp),if_neg (by simp [hk]),hdn,hst2,hst1])
     obtain ⟨z1,z2⟩:=text_size (y:=pubN) (st:=⟨[],0⟩) hN
     obtain ⟨z3,z4⟩:=text_size (y:=schN) (st:=st1.2) hN
     rw [← hst1] at z1 z2
     rw [← hst2] at z3 z4
     simp only [List.length_nil] at z2
     have HST1:=Lh hst1
     have HST2:=Lh hst2
     have HDN:=Lh hdn
     have HRI:=Lh hri
     have HLE:=Lh hle
     have HTX:=Lh htx
     have HK:=Lh hk
     clear hst1 hst2 hdn hri hle htx hk
     go_enter Tryz.func106,Tryz.ntmps106
     go_wp2_with fail
     refine HM.out.mono ?_
     clear HM
     rintro e w1 ⟨rfl,hb1⟩
     have hz1:w.heap.size+2≤w1.heap.size:=by have:=hb1.size;simp at this;omega
     have HB1:=Lh (HB0.out.trans (hb1.mono (by simp;omega)))
     have HR1:=Lh (below_row hb1 HR0.out (by simp))
     have hx1:w1.heap[w.heap.size]?=some (.cells #[.int .u8 v.kind,.int .i64 v.n,.string v.t,.slice an v.names.length cn,.slice ai v.items.length ci] 25 (0,0)):=by rw [hb1.block _ (by simp;omega)];exact HX0.out
     have c0:w1.cell? ⟨w.heap.size,0,none⟩=some (.int .u8 v.kind):=box_cell hx1 rfl
     have c1:w1.cell? ⟨w.heap.size,1,none⟩=some (.int .i64 v.n):=box_cell hx1 rfl
     have c2:w1.cell? ⟨w.heap.size,2,none⟩=some (.string v.t):=box_cell hx1 rfl
     have c3:w1.cell? ⟨w.heap.size,3,none⟩=some (.slice an v.names.length cn):=box_cell hx1 rfl
     have c4:w1.cell? ⟨w.heap.size,4,none⟩=some (.slice ai v.items.length ci):=box_cell hx1 rfl
     have HOF:=Lh (pickOf_good v _ w1 lo hi hN (by omega) (HR.out.below HB1.out hhi lz lz) HK.out HRI.out HLE.out (HS.out HMB.out HK.out))
     clear hb1 hx1
     go_wp2_with fail
     refine HOF.out.mono ?_
     clear HOF c0 c1 c2 c3 c4 HR HS HX0 HB0 HR0
     rintro e w2 ⟨o,m,lo2,hi2,an2,ai2,cn2,ci2,rfl,hp2,ho2,hm2,hb2⟩
     have HT1:=Lh (pickTextF o m lo2 hi2 v an2 ai2 cn2 ci2 pubN ⟨[],0⟩ w2 hp2 (by decide) (by simp))
     have HR2:=Lh (below_row hb2 HR1.out (by omega))
     have hz2:=hb2.size
     have HB2:=Lh (HB1.out.trans (hb2.mono (by omega)))
     clear hp2 hb2 HR1 HB1
     go_wp2_with fail
     refine HT1.out.mono ?_
     clear HT1
     rintro e w3 ⟨rfl,hp3,ht3⟩
     rw [← HST1.out] at hp3 ⊢
     have HT2:=Lh (pickTextF o m lo2 hi2 v an2 ai2 cn2 ci2 schN st1.2 w3 hp3 (by decide) (by omega))
     have hz3:=ht3.size
     have HR3:=Lh (ht3.row HR2.out (by omega))
     have HB3:=Lh (HB2.out.trans (ht3.below (by omega) fun k hk e=>by omega))
     clear hp3 ht3 HR2 HB2
     go_wp2_with fail
     refine HT2.out.mono ?_
     clear HT2
     rintro e w4 ⟨rfl,hp4,ht4⟩
     rw [← HST2.out] at hp4 ⊢
     have hz4:=ht4.size
     have HR4:=Lh (ht4.row HR3.out (by omega))
     have HB4:=Lh (HB3.out.trans (ht4.below (by omega) fun k hk e=>by omega))
     have HDO:=Lh (pickDoneF o m lo2 hi2 v an2 ai2 cn2 ci2 st2.2 (w4.alloc (.cells #[.string st2.1,.string st1.1] 38)) (hp4.below ((Below.refl _ _).alloc lz _)) (fun i hi=>by
      have:=List.all_eq_true.1 HTX.out _ (List.getElem_mem hi)
      unfold txtOk at this;simp at this;omega))
     rw [← HDN.out] at HDO
     clear hp4 ht4 HR3 HB3
     go_wp2_with fail
     refine HDO.out.mono ?_
     clear HDO
     rintro e w5 ⟨rfl,rfl⟩
     have HR5:=Lh (HR4.out.alloc (.cells #[.string st2.1,.string st1.1] 38))
     have HB5:=Lh (HB4.out.alloc HB4.out.size (.cells #[.string st2.1,.string st1.1] 38))
     clear HR4 HB4
     by_cases hd:dn=0
     · rw [hd] at HX ⊢
       simp only [ne_eq,not_true_eq_false,if_false] at HX
       clear hd HDN
       have HKM:=Lh (keyMay st2.1 st1.1 (w4.alloc (.cells #[.string st2.1,.string st1.1] 38)) (by omega) (by omega))
       cases hko:keyOk st2.1.data.toList st1.1.data.toList
       · rw [hko] at HKM HX
         clear hko
         go_wp2_with fail
         refine HKM.out.mono ?_
         rintro e w6 ⟨rfl,hb6⟩
         have hres:=below_row hb6 HR5.out (by simp;omega)
         have HRS:=Lh hres
         have HB6:=Lh (HB5.out.trans (hb6.mono (by simp;omega)))
         have t0:=hres.cell (i:=0) (by decide);have t1:=hres.cell (i:=1) (by decide)
         have s0:=hres.frozen 0;have s1:=hres.frozen 1
         simp only [pick2] at t0 t1
         clear hres hb6
         go_wp2
         refine bodyPost_ret (results_row_tmp Tryz.results106 _ _ (w.heap.size+1) 38 _ (0,0) _ rfl (row2_heap (set2 _ _ HRS.out)) Tryz.underlying38 rfl (by kernel_rfl) _ rfl) rfl ⟨?_,below2 _ _ HB6.out (by omega)⟩
         rw [HX.out];rfl
       · rw [hko] at HKM HX
         clear hko
         go_wp2_with fail
         refine HKM.out.mono ?_
         rintro e w6 ⟨rfl,hb6⟩
         have hres:=below_row hb6 HR5.out (by simp;omega)
         have hx6:w6.heap[w4.heap.size]?=some (.cells #[.string st2.1,.string st1.1] 38 (0,0)):=by rw [hb6.block _ (by simp)];exact heap_alloc_new _ _
         have d0:w6.cell? ⟨w4.heap.size,0,none⟩=some (.string st2.1):=box_cell hx6 rfl
         have d1:w6.cell? ⟨w4.heap.size,1,none⟩=some (.string st1.1):=box_cell hx6 rfl
         have HRS:=Lh hres
         have HB6:=Lh (HB5.out.trans (hb6.mono (by simp;omega)))
         have t0:=hres.cell (i:=0) (by decide);have t1:=hres.cell (i:=1) (by decide)
         have s0:=hres.frozen 0;have s1:=hres.frozen 1
         simp only [pick2] at t0 t1
         clear hres hb6 hx6
         go_wp2
         refine bodyPost_ret (results_row_tmp Tryz.results106 _ _ (w.heap.size+1) 38 _ (0,0) _ rfl (row2_heap (set2 _ _ HRS.out)) Tryz.underlying38 rfl (by kernel_rfl) _ rfl) rfl ⟨?_,below2 _ _ HB6.out (by omega)⟩
         rw [HX.out];rfl
     · rw [if_pos hd] at HX
       have hd1:(dn == 0)=false:=by simpa using hd
       have hd2:(dn != 0)=true:=by simpa using hd
       have hres:=HR5.out
       have t0:=hres.cell (i:=0) (by decide);have t1:=hres.cell (i:=1) (by decide)
       have s0:=hres.frozen 0;have s1:=hres.frozen 1
       simp only [pick2] at t0 t1
       clear hres hd HDN
       go_wp2
       refine bodyPost_ret (results_row_tmp Tryz.results106 _ _ (w.heap.size+1) 38 _ (0,0) _ rfl (row2_heap (set2 _ _ HR5.out)) Tryz.underlying38 rfl (by kernel_rfl) _ rfl) rfl ⟨?_,below2 _ _ HB5.out (by omega)⟩
       rw [HX.out];rfl
   · have HX:=Lh (show keyOfJ v=((⟨#[]⟩,⟨#[]⟩),10) by unfold keyOfJ;rw [if_neg (by rw [HMB.out];simp),if_pos hk])
     have HK:=Lh hk
     clear hk
     go_enter Tryz.func106,Tryz.ntmps106
     go_wp2_with fail
     refine HM.out.mono ?_
     clear HM
     rintro e w1 ⟨rfl,hb1⟩
     have hz1:w.heap.size+2≤w1.heap.size:=by have:=hb1.size;simp at this;omega
     have HB1:=Lh (HB0.out.trans (hb1.mono (by simp;omega)))
     have HR1:=Lh (below_row hb1 HR0.out (by simp))
     have hx1:w1.heap[w.heap.size]?=some (.cells #[.int .u8 v.kind,.int .i64 v.n,.string v.t,.slice an v.names.length cn,.slice ai v.items.length ci] 25 (0,0)):=by rw [hb1.block _ (by simp;omega)];exact HX0.out
     have c0:w1.cell? ⟨w.heap.size,0,none⟩=some (.int .u8 v.kind):=box_cell hx1 rfl
     have c1:w1.cell? ⟨w.heap.size,1,none⟩=some (.int .i64 v.n):=box_cell hx1 rfl
     have c2:w1.cell? ⟨w.heap.size,2,none⟩=some (.string v.t):=box_cell hx1 rfl
     have c3:w1.cell? ⟨w.heap.size,3,none⟩=some (.slice an v.names.length cn):=box_cell hx1 rfl
     have c4:w1.cell? ⟨w.heap.size,4,none⟩=some (.slice ai v.items.length ci):=box_cell hx1 rfl
     clear hb1 hx1
     go_wp2_with fail
     refine (pickOf_bad v.kind v.n v.t _ _ w1 HK.out).mono ?_
     clear c0 c1 c2 c3 c4
     rintro e w2 ⟨o,rfl,ho1,ho2,hp2,hb2⟩
     have HP2:=Lh hp2
     have HR2:=Lh (below_row hb2 HR1.out (by omega))
     have HB2:=Lh (HB1.out.trans (hb2.mono (by omega)))
     clear hp2 hb2
     go_wp2_with fail
     refine (textBad o 10 _ w2 HP2.out).mono ?_
     rintro e w3 ⟨rfl,rfl⟩
     go_wp2_with fail
     refine (textBad o 10 _ w2 HP2.out).mono ?_
     rintro e w3 ⟨rfl,rfl⟩
     have HP3:=Lh (HP2.out.below ((Below.refl _ _).alloc lz (.cells #[.string ⟨#[]⟩,.string ⟨#[]⟩] 38)) ho2)
     obtain ⟨p1,p2,kk,p3⟩:=HP3.out
     have HD:=Lh (doneErr o 10 kk _ p1 p2 p3)
     clear p1 p2 p3
     go_wp2_with fail
     refine HD.out.mono ?_
     rintro e w3 ⟨rfl,rfl⟩
     have hres:=HR2.out.alloc (.cells #[.string ⟨#[]⟩,.string ⟨#[]⟩] 38)
     have HRS:=Lh hres
     have HB3:=Lh (HB2.out.alloc HB2.out.size (.cells #[.string ⟨#[]⟩,.string ⟨#[]⟩] 38))
     have t0:=hres.cell (i:=0) (by decide);have t1:=hres.cell (i:=1) (by decide)
     have s0:=hres.frozen 0;have s1:=hres.frozen 1
     simp only [pick2] at t0 t1
     clear hres
     go_wp2
     refine bodyPost_ret (results_row_tmp Tryz.results106 _ _ (w.heap.size+1) 38 _ (0,0) _ rfl (row2_heap (set2 _ _ HRS.out)) Tryz.underlying38 rfl (by kernel_rfl) _ rfl) rfl ⟨?_,below2 _ _ HB3.out (by omega)⟩
     rw [HX.out];rfl
end Go.Proofs.YtnlgmcapbbgelaaGreatDoor

namespace Go.Proofs.YtnlgmcapbbgelaaGreatDoor
open Go.RowKit Go.WideMaps Go.Maps
end Go.Proofs.YtnlgmcapbbgelaaGreatDoor
