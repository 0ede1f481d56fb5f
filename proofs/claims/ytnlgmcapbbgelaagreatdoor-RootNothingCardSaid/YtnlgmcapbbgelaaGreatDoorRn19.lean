/- Plain: the object of a root's three roles, there and back. No program in sight. -/
import Derived.Test.YtnlgmcapbbgelaaGreatDoorRn18
import Derived.Test.YtnlgmcapbbgelaaGreatDoorRn17

namespace Go.Proofs.YtnlgmcapbbgelaaGreatDoor
open Go.RowKit Go.WideMaps Go.Maps
theorem wts_pt:∀(l l':List JV),l'.length=l.length→(∀j (h:j<l'.length) (h':j<l.length),l'[j].wt≤l[j].wt)→JV.wts l'≤JV.wts l
 | [],[],_,_=>Nat.le_refl _
 | x :: r,y :: s,h,hp=>by
  have h0:=hp 0 (by simp) (by simp)
  have h1:=wts_pt r s (by simpa using h) (fun j h1 h2=>by have:=hp (j+1) (by simpa using h1) (by simpa using h2);simpa using this)
  simp only [List.getElem_cons_zero] at h0
  rw [JV.wts,JV.wts];omega
 | [],_ :: _,h,_=>by simp at h
 | _ :: _,[],h,_=>by simp at h
theorem WeakCopy.wt {v v':JV} (h:WeakCopy v v'):v'.wt≤v.wt:=by
 have:=wts_pt v.items v'.items h.len (fun j h1 h2=>by
  rcases h.items j h1 h2 with e|⟨e,_⟩
  · rw [e];exact Nat.le_refl _
  · rw [e];exact JV.wt_pos _)
 rw [JV.wt_eq,JV.wt_eq,h.t,h.names];omega
theorem partsB_get (l:List JV) (j:Nat) (h:j<l.length) (hp:JV.partsB l=true):l[j].partB=true:=by
 cases hb:l[j].partB
 · rw [JV.partsB_bad l j h hb] at hp;cases hp
 · rfl
end Go.Proofs.YtnlgmcapbbgelaaGreatDoor

namespace Go.Proofs.YtnlgmcapbbgelaaGreatDoor
open Go.RowKit
theorem nil_bytes {t:ByteArray} (h:t.toList=[]):t=⟨#[]⟩:=by
 rw [ByteArray.toList_eq] at h
 exact bytes_ext (by simpa using h)
theorem part_obj {x:JV} (h:x.partB=true) (hk:x.kind=5):(x.n=0∧x.t=⟨#[]⟩)∧x.names.length=x.items.length∧rises x.names=true∧∀y ∈ x.items,y.partB=true:=by
 rw [JV.partB_eq,Bool.and_eq_true] at h
 obtain ⟨h1,h2⟩:=h
 rw [hk] at h1
 unfold properB at h1
 rw [if_neg (by decide),if_neg (by decide),if_neg (by decide),if_neg (by decide),if_pos rfl,Bool.and_eq_true,Bool.and_eq_true,decide_eq_true_eq] at h1
 obtain ⟨⟨⟨a,b,c⟩,d⟩,-⟩:=h1
 refine ⟨⟨a,nil_bytes b⟩,c,d,fun y hy=>?_⟩
 obtain ⟨i,hi,rfl⟩:=List.getElem_of_mem hy
 exact partsB_get _ i hi h2
theorem lookL_mem:∀ {ns:List ByteArray} {xs:List JV} {y:ByteArray} {x:JV},lookL ns xs y=some x→y ∈ ns∧x ∈ xs
 | n :: ns,z :: xs,y,x,h=>by
  rw [lookL] at h
  split at h
  · rename_i e
    injection h with h
    subst h;subst e
    exact ⟨List.mem_cons_self ..,List.mem_cons_self ..⟩
  · have:=lookL_mem h
    exact ⟨List.mem_cons_of_mem _ this.1,List.mem_cons_of_mem _ this.2⟩
def PartW (v:JV):Prop:=v.kind=5∧(v.n=0∧v.t=⟨#[]⟩)∧rises v.names=true∧v.names.length=v.items.length∧∀x ∈ v.items,x.partB=true∨x=zeroJ
theorem partW_of {v:JV} (h:v.mayB=true) (hk:v.kind=5):PartW v:=by
 rw [JV.mayB_iff] at h
 simp only [Bool.and_eq_true] at h
 obtain ⟨a,b,c,d⟩:=part_obj h.1.1 hk
 exact ⟨hk,a,c,b,fun x hx=>.inl (d x hx)⟩
theorem weak_eq {v v':JV} (hw:WeakCopy v v') (h:∀x ∈ v'.items,x.kind≠0):v'=v:=by
 have hi:v'.items=v.items:=by
  apply List.ext_getElem hw.len
  intro i ha hb
  rcases hw.items i ha hb with e|⟨e,_⟩
  · exact e
  · exact absurd (by rw [e];rfl) (h _ (List.getElem_mem ha))
 have h1:=hw.kind;have h2:=hw.n;have h3:=hw.t;have h4:=hw.names
 obtain ⟨k,n,t,ns,xs⟩:=v
 obtain ⟨k',n',t',ns',xs'⟩:=v'
 simp only [JV.kind,JV.n,JV.t,JV.names,JV.items] at *
 rw [h1,h2,h3,h4,hi]
theorem lookW {v:JV} (h:PartW v) {y:ByteArray} {it:JV} (e:v.look y=some it) (hk:it.kind≠0):it.partB=true:=by
 rcases h.2.2.2.2 it (lookL_mem e).2 with h|h
 · exact h
 · exact absurd (by rw [h];rfl) hk
theorem fail_keeps {st:PS} {e:Int} (h:st.err≠0):st.fail e=st:=by unfold PS.fail;rw [if_neg h]
theorem num_keeps {v:JV} {y:ByteArray} {lo hi:Int} {st:PS} (h:st.err≠0):(pickNum v y lo hi st).2=st:=by unfold pickNum;rw [if_pos h]
theorem text_keeps {v:JV} {y:ByteArray} {st:PS} (h:st.err≠0):(pickText v y st).2=st:=by unfold pickText;rw [if_pos h]
theorem obj_keeps {v:JV} {y:ByteArray} {n:Nat} {st:PS} (h:st.err≠0):(pickObj v y n st).2=st:=by unfold pickObj;rw [if_pos h]
theorem done_err {v:JV} {st:PS} (h:st.err≠0):pickDone v st=st.err:=by unfold pickDone;rw [if_pos h]
theorem txtJ_partB (t:ByteArray):(txtJ t).partB=txtOk t:=by
 rw [JV.partB_eq]
 show (properB 3 0 t [] 0 && JV.partsB [])=_
 unfold properB
 rw [if_neg (by decide),if_neg (by decide),if_pos rfl]
 simp [JV.partsB]
def hexChar (n:Nat):UInt8:=if n<10 then UInt8.ofNat (48+n) else UInt8.ofNat (87+n)
def hexEnc:List UInt8→List UInt8
 | []=>[]
 | c :: r=>hexChar (c.toNat / 16) :: hexChar (c.toNat % 16) :: hexEnc r
theorem hexEnc_append (l m:List UInt8):hexEnc (l ++ m)=hexEnc l ++ hexEnc m:=by
 induction l with
 | nil=>rfl
 | cons c r ih=>simp [hexEnc,ih]
theorem hexEnc_length (l:List UInt8):(hexEnc l).length=2 * l.length:=by
 induction l with
 | nil=>rfl
 | cons c r ih=>simp [hexEnc,ih];omega
def shaHex (l:List UInt8):List UInt8:=hexEnc (shaSum l)
theorem shaHex_length (l:List UInt8):(shaHex l).length=64:=by unfold shaHex;rw [hexEnc_length,shaSum_length]
theorem isHex_char (n:Nat) (h:n<16):isHex (hexChar n)=true:=by
 have:∀m:Fin 16,isHex (hexChar m.val)=true:=by decide
 exact this ⟨n,h⟩
theorem allHex_enc:∀l:List UInt8,allHex (hexEnc l)=true
 | []=>rfl
 | c :: r=>by
  have h:=allHex_enc r
  have hc:c.toNat<256:=c.toNat_lt
  unfold allHex at h ⊢
  simp only [hexEnc,List.all_cons,Bool.and_eq_true]
  exact ⟨isHex_char _ (by omega),isHex_char _ (by omega),h⟩
theorem allHex_sha (l:List UInt8):allHex (shaHex l)=true:=allHex_enc _
def pubN:ByteArray:=⟨#[112,117,98,108,105,99]⟩
def schN:ByteArray:=⟨#[115,99,104,101,109,101]⟩
def keyJ (s t:ByteArray):JV:=.mk 5 0 ⟨#[]⟩ [pubN,schN] [txtJ t,txtJ s]
theorem key_parts {s t:List UInt8} (h:keyOk s t=true):roleOk s=true∧pubOk t=true:=by
 unfold keyOk at h;simpa using h
theorem key_txt {s t:ByteArray} (h:keyOk s.data.toList t.data.toList=true):txtOk s=true∧txtOk t=true∧s.size≤64∧t.size≤128:=by
 obtain ⟨h1,h2⟩:=key_parts h
 have h3:=role_plain h1
 have h4:=pub_plain h2
 rw [toList_length] at h3 h4
 exact ⟨txtOk_plain h3.1 (by omega),txtOk_plain h4.1 (by omega),h3.2.2,h4.2.2⟩
theorem names_ok:txtOk pubN=true∧txtOk schN=true∧rises [pubN,schN]=true:=by
 refine ⟨txtOk_plain ?_ (by decide),txtOk_plain ?_ (by decide),?_⟩
 · intro c hc;unfold plainC;revert c;decide
 · intro c hc;unfold plainC;revert c;decide
 · unfold rises rises;rw [ByteArray.toList_eq,ByteArray.toList_eq];decide
theorem txtJ_may (t:ByteArray) (h:txtOk t=true) (d:Nat) (l:Int) (hl:1≤l):(txtJ t).may d l=(true,l - 1):=by
 unfold txtJ
 rw [JV.may,if_neg (by omega)]
 have:properB 3 0 t [] 0=true:=by unfold properB;simp [h]
 rw [show ([]:List JV).length=0 from rfl,this]
 simp
theorem keyJ_may {s t:ByteArray} (h:keyOk s.data.toList t.data.toList=true):(keyJ s t).mayB=true:=by
 obtain ⟨h1,h2,_,_⟩:=key_txt h
 obtain ⟨n1,n2,n3⟩:=names_ok
 unfold JV.mayB keyJ
 have hp:properB 5 0 ⟨#[]⟩ [pubN,schN] 2=true:=by
  unfold properB
  rw [ByteArray.toList_eq]
  simp [n1,n2,n3]
 have hm:JV.mays [txtJ t,txtJ s] (12 - 1) (8192 - 1)=(true,8192 - 1 - 1 - 1):=by
  rw [JV.mays,txtJ_may t h2 _ _ (by omega),if_pos rfl,JV.mays,txtJ_may s h1 _ _ (by omega),if_pos rfl,JV.mays]
 rw [JV.may,if_neg (by omega),show ([txtJ t,txtJ s]:List JV).length=2 from rfl,hp,if_neg (by decide),if_neg (by decide),if_neg (by decide),hm]
theorem keyJ_wt {s t:ByteArray} (hs:s.size≤4294967) (ht:t.size≤4294967):(keyJ s t).wt≤4294967296:=by
 unfold keyJ txtJ
 have e1:pubN.size=6:=rfl
 have e2:schN.size=6:=rfl
 have e3:(⟨#[]⟩:ByteArray).size=0:=rfl
 simp only [JV.wt,JV.wts,bytesSum]
 omega
def keyF1:List UInt8:=[123,34,112,117,98,108,105,99,34,58,34]
def keyF2:List UInt8:=[34,44,34,115,99,104,101,109,101,34,58,34]
def keyForm (s t:List UInt8):List UInt8:=keyF1 ++ (t ++ (keyF2 ++ (s ++ [34,125])))
theorem keyForm_len (s t:List UInt8):(keyForm s t).length=s.length+t.length+25:=by simp [keyForm,keyF1,keyF2];omega
def keyId (s t:List UInt8):List UInt8:=if keyOk s t then shaHex (keyForm s t) else []
def keyOfJ (v:JV):(ByteArray × ByteArray) × Int :=
 if v.mayB=false then ((⟨#[]⟩,⟨#[]⟩),3) else if v.kind≠5 then ((⟨#[]⟩,⟨#[]⟩),10) else
  if pickDone v (pickText v schN (pickText v pubN ⟨[],0⟩).2).2≠0 then ((⟨#[]⟩,⟨#[]⟩),pickDone v (pickText v schN (pickText v pubN ⟨[],0⟩).2).2) else
  if keyOk (pickText v schN (pickText v pubN ⟨[],0⟩).2).1.data.toList (pickText v pubN ⟨[],0⟩).1.data.toList then (((pickText v schN (pickText v pubN ⟨[],0⟩).2).1,(pickText v pubN ⟨[],0⟩).1),0) else ((⟨#[]⟩,⟨#[]⟩),3)
theorem pub_ne:pubN≠schN:=by decide
theorem look_pub (s t:ByteArray):(keyJ s t).look pubN=some (txtJ t):=by
 unfold JV.look keyJ JV.names JV.items;simp [lookL]
theorem look_sch (s t:ByteArray):(keyJ s t).look schN=some (txtJ s):=by
 unfold JV.look keyJ JV.names JV.items;simp [lookL,pub_ne]
theorem keyOf_keyJ {s t:ByteArray} (h:keyOk s.data.toList t.data.toList=true):keyOfJ (keyJ s t)=((s,t),0):=by
 have h1:pickText (keyJ s t) pubN ⟨[],0⟩=(t,⟨[pubN],0⟩):=by unfold pickText;rw [if_neg (by simp),look_pub];rfl
 have h2:pickText (keyJ s t) schN ⟨[pubN],0⟩=(s,⟨[schN,pubN],0⟩):=by unfold pickText;rw [if_neg (by simp),look_sch];rfl
 have h3:pickDone (keyJ s t) ⟨[schN,pubN],0⟩=0:=by
  unfold pickDone;rw [if_neg (by simp)]
  have:(keyJ s t).names=[pubN,schN]:=rfl
  rw [this];simp
 unfold keyOfJ
 rw [if_neg (by rw [keyJ_may h];simp),if_neg (by show ¬(5:Int)≠5;simp),h1]
 simp only
 rw [h2]
 simp only
 rw [h3,if_neg (by simp),if_pos h]
def idOf (s t:ByteArray):ByteArray:=⟨(keyId s.data.toList t.data.toList).toArray⟩
def ok2 (k:Key2):Bool:=keyOk k.1.data.toList k.2.data.toList
def id2 (k:Key2):ByteArray:=idOf k.1 k.2
def ids (l:List Key2):List ByteArray:=l.map id2
def obj2 (k:Key2):JV:=keyJ k.1 k.2
def tabJ (m:List Key2):JV:=.mk 5 0 ⟨#[]⟩ (m.map id2) (m.map obj2)
theorem rises_nodup {l:List ByteArray} (h:rises l=true):l.Nodup:=by
 rw [List.Nodup,List.pairwise_iff_getElem]
 intro i j hi hj hij e
 have:=rises_lt h i j hi hj hij
 rw [e,bl_irrefl] at this;cases this
theorem id2_size {k:Key2}:(id2 k).size≤64:=by
 show (keyId _ _).toArray.size≤64
 unfold keyId
 split
 · rw [List.size_toArray,shaHex_length];exact Nat.le_refl _
 · simp
theorem obj2_wt {k:Key2} (h:k.1.size≤300∧k.2.size≤300):(obj2 k).wt≤1000:=by
 unfold obj2 keyJ txtJ
 have e1:pubN.size=6:=rfl
 have e2:schN.size=6:=rfl
 have e3:(⟨#[]⟩:ByteArray).size=0:=rfl
 simp only [JV.wt,JV.wts,bytesSum]
 omega
theorem tabJ_wt {m:List Key2} (hs:∀k ∈ m,k.1.size≤300∧k.2.size≤300):(tabJ m).wt≤1+1100 * m.length:=by
 have h1:∀m:List Key2,bytesSum (m.map id2)≤65 * m.length:=fun m=>by
  induction m with
  | nil=>simp [bytesSum]
  | cons k r ih=>have:=@id2_size k;simp only [List.map_cons,bytesSum,List.length_cons];omega
 have h2:∀m:List Key2,(∀k ∈ m,k.1.size≤300∧k.2.size≤300)→JV.wts (m.map obj2)≤1000 * m.length:=fun m=>by
  induction m with
  | nil=>intro _;simp [JV.wts]
  | cons k r ih=>intro hs;have:=obj2_wt (hs k (by simp));have:=ih (fun k hk=>hs k (List.mem_cons_of_mem _ hk));simp only [List.map_cons,JV.wts,List.length_cons];omega
 have e3:(⟨#[]⟩:ByteArray).size=0:=rfl
 have:=h1 m
 have:=h2 m hs
 unfold tabJ
 simp only [JV.wt]
 omega
theorem keyOfJ_ok {v:JV} (h:(keyOfJ v).2=0):keyOk (keyOfJ v).1.1.data.toList (keyOfJ v).1.2.data.toList=true∧(keyOfJ v).1.1.size≤64∧(keyOfJ v).1.2.size≤128:=by
 have h2:keyOk (keyOfJ v).1.1.data.toList (keyOfJ v).1.2.data.toList=true:=by
  unfold keyOfJ at h ⊢
  split at h
  · cases h
  next c1 =>
  rw [if_neg c1]
  split at h
  · cases h
  next c2 =>
  rw [if_neg c2]
  split at h
  · next c3=>exact absurd h c3
  next c3 =>
  rw [if_neg c3]
  split at h
  · next c4=>rw [if_pos c4];exact c4
  · cases h
 obtain ⟨_,_,a,b⟩:=key_txt h2
 exact ⟨h2,a,b⟩
def keysL:List ByteArray→List JV→List Key2→List Key2 × Int
 | id :: ns,it :: its,acc=>if (keyOfJ it).2≠0 then ([],(keyOfJ it).2) else if (idOf (keyOfJ it).1.1 (keyOfJ it).1.2).toList == id.toList then keysL ns its (acc ++ [(keyOfJ it).1]) else ([],3)
 | _,_,acc=>(acc,0)
def stepL (r:Key2 × Int) (id:ByteArray) (ns:List ByteArray) (its:List JV) (acc:List Key2):List Key2 × Int :=
 if r.2≠0 then ([],r.2) else if (idOf r.1.1 r.1.2).toList == id.toList then keysL ns its (acc ++ [r.1]) else ([],3)
theorem keysL_nil (its:List JV) (acc:List Key2):keysL [] its acc=(acc,0):=by
 unfold keysL;rfl
theorem keysL_step (ns:List ByteArray) (its:List JV) (k:Nat) (acc:List Key2) (h:k<ns.length) (h':k<its.length):keysL (ns.drop k) (its.drop k) acc=stepL (keyOfJ its[k]) ns[k] (ns.drop (k+1)) (its.drop (k+1)) acc:=by
 rw [List.drop_eq_getElem_cons h,List.drop_eq_getElem_cons h',keysL,stepL]
def keysJ (v:JV):List Key2 × Int:=if v.mayB=false then ([],3) else if v.kind≠5 then ([],10) else if 32<v.names.length then ([],5) else keysL v.names v.items []
theorem may_part {v:JV} (h:v.mayB=true):v.partB=true:=by
 rw [JV.mayB_iff] at h
 simp only [Bool.and_eq_true] at h
 exact h.1.1
theorem txt_id {k:Key2} (h:ok2 k=true):txtOk (id2 k)=true:=by
 have e:(id2 k).data.toList=shaHex (keyForm k.1.data.toList k.2.data.toList):=by
  show (keyId _ _)=_
  unfold keyId
  rw [if_pos (show keyOk k.1.data.toList k.2.data.toList=true from h)]
 refine txtOk_plain ?_ (Nat.le_trans id2_size (by decide))
 rw [e]
 have:=allHex_sha (keyForm k.1.data.toList k.2.data.toList)
 unfold allHex at this
 exact fun c hc=>plain_hex (List.all_eq_true.1 this c hc)
theorem tabJ_may {m:List Key2} (hok:∀k ∈ m,ok2 k=true) (hr:rises (ids m)=true) (hl:m.length≤32):(tabJ m).mayB=true:=by
 rw [JV.mayB_iff]
 have hp:∀m:List Key2,(∀k ∈ m,ok2 k=true)→JV.partsB (m.map obj2)=true:=fun m=>by
  induction m with
  | nil=>intro _;rfl
  | cons k r ih =>
   intro h
   rw [List.map_cons,JV.partsB,Bool.and_eq_true]
   exact ⟨may_part (keyJ_may (h k (by simp))),ih fun x hx=>h x (List.mem_cons_of_mem _ hx)⟩
 have hc:∀m:List Key2,JV.counts (m.map obj2)=3 * m.length:=fun m=>by
  induction m with
  | nil=>rfl
  | cons k r ih =>
   have:JV.count (obj2 k)=3:=rfl
   rw [List.map_cons,JV.counts,ih,this,List.length_cons];omega
 have hd:∀m:List Key2,JV.depths (m.map obj2)≤1:=fun m=>by
  induction m with
  | nil=>exact Nat.zero_le _
  | cons k r ih =>
   have:JV.depth (obj2 k)=1:=rfl
   rw [List.map_cons,JV.depths,this];omega
 have h1:(tabJ m).partB=true:=by
  unfold tabJ
  rw [JV.partB,hp m hok]
  have:properB 5 0 ⟨#[]⟩ (m.map id2) (m.map obj2).length=(decide ((0:Int)=0∧(⟨#[]⟩:ByteArray).toList=[]∧(m.map id2).length=(m.map obj2).length) && rises (m.map id2) && (m.map id2).all txtOk):=rfl
  rw [this,show rises (m.map id2)=true from hr,ByteArray.toList_eq]
  have h2:(m.map id2).all txtOk=true:=by
   rw [List.all_eq_true]
   intro x hx
   obtain ⟨k,hk,rfl⟩:=List.mem_map.1 hx
   exact txt_id (hok k hk)
  rw [h2]
  simp
 have h2:(tabJ m).count≤8192:=by unfold tabJ;rw [JV.count,hc];omega
 have h3:(tabJ m).depth≤12:=by
  unfold tabJ;rw [JV.depth,if_neg (by simp)];have:=hd m;omega
 rw [h1]
 simp [h2,h3]
theorem keysL_tab:∀(m:List Key2) (acc:List Key2),(∀k ∈ m,ok2 k=true)→keysL (m.map id2) (m.map obj2) acc=(acc ++ m,0)
 | [],acc,_=>by simp [keysL]
 | k :: r,acc,h=>by
  have e:=keyOf_keyJ (s:=k.1) (t:=k.2) (h k (by simp))
  rw [List.map_cons,List.map_cons,keysL,show obj2 k=keyJ k.1 k.2 from rfl,e]
  simp only
  rw [if_neg (by simp),if_pos (by simp [id2]),keysL_tab r _ fun x hx=>h x (List.mem_cons_of_mem _ hx)]
  simp
theorem keysJ_tab {m:List Key2} (hok:∀k ∈ m,ok2 k=true) (hr:rises (ids m)=true) (hl:m.length≤32):keysJ (tabJ m)=(m,0):=by
 unfold keysJ
 rw [if_neg (by rw [tabJ_may hok hr hl];simp),if_neg (by show ¬(5:Int)≠5;simp),if_neg (by show ¬32<(m.map id2).length;simp;omega)]
 show keysL (m.map id2) (m.map obj2) []=_
 rw [keysL_tab m [] hok,List.nil_append]
theorem ok2_size {k:Key2} (h:ok2 k=true):k.1.size≤300∧k.2.size≤300:=by
 obtain ⟨_,_,a,b⟩:=key_txt h
 omega
end Go.Proofs.YtnlgmcapbbgelaaGreatDoor

namespace Go.Proofs.YtnlgmcapbbgelaaGreatDoor
open Go.RowKit Go.Shelf Go.Sort
theorem objTwo (t s:ByteArray) (w:World) (T:Nat) (ht:t.size≤4294967000) (hs:s.size≤4294967000) :
 Calls Tryz.prog 62 #[.slice (some ⟨w.heap.size,0,none⟩) 2 2] (w.alloc (.cells #[.string ⟨#[112,117,98,108,105,99]⟩,.int .u8 3,.int .i64 0,.string t,.slice none 0 0,.slice none 0 0,.string ⟨#[115,99,104,101,109,101]⟩,.int .u8 3,.int .i64 0,.string s,.slice none 0 0,.slice none 0 0] T))
  (ObjPost [pubN,schN] [txtJ t,txtJ s] (w.alloc (.cells #[.string ⟨#[112,117,98,108,105,99]⟩,.int .u8 3,.int .i64 0,.string t,.slice none 0 0,.slice none 0 0,.string ⟨#[115,99,104,101,109,101]⟩,.int .u8 3,.int .i64 0,.string s,.slice none 0 0,.slice none 0 0] T))):=by
 have:=pickObjectOf #[memT pubN t,memT schN s] #[memT pubN t,memT schN s] [txtJ t,txtJ s] w.heap.size 0 2 (w.alloc (.cells #[.string ⟨#[112,117,98,108,105,99]⟩,.int .u8 3,.int .i64 0,.string t,.slice none 0 0,.slice none 0 0,.string ⟨#[115,99,104,101,109,101]⟩,.int .u8 3,.int .i64 0,.string s,.slice none 0 0,.slice none 0 0] T)) 0 0 ?_ (by simp) (by simp) ?_ rfl ?_ ?_ (by simp)
 · exact this
 · exact holds_heap (T:=T) (by rw [heap_alloc_new,flat_two];rfl)
 · refine ins_sorted _ _ _ fun j hj=>?_
   obtain rfl:j=0:=by simp at hj;omega
   show ltOf cfM (memT schN s) (memT pubN t)=false
   show decide (Lib.compareBytes schN.data.toList pubN.data.toList<0)=false
   decide
 · intro i hi
   match i,hi with
   | 0,_=>exact ⟨rep_txt _ _ _ _,by simp [txtJ,JV.wt,JV.wts,bytesSum];omega,fun k h=>by simp [txtJ,JV.items] at h⟩
   | 1,_=>exact ⟨rep_txt _ _ _ _,by simp [txtJ,JV.wt,JV.wts,bytesSum];omega,fun k h=>by simp [txtJ,JV.items] at h⟩
 · intro i hi
   obtain rfl:i=0:=by simp at hi;omega
   show pubN≠schN
   decide
def KeyValPost (s t:ByteArray) (w:World) (e:Ending) (w':World):Prop :=
 ∃an cn ai ci,e=.returned (.tuple #[.agg #[.int .u8 5,.int .i64 0,.string ⟨#[]⟩,.slice an 2 cn,.slice ai 2 ci],.int .i64 0]) ∧
  Rep w' w.heap.size w'.heap.size (keyJ s t) (.agg #[.int .u8 5,.int .i64 0,.string ⟨#[]⟩,.slice an 2 cn,.slice ai 2 ci])∧Below w.heap.size w w'
set_option maxHeartbeats 400000 in
set_option maxRecDepth 100000 in
theorem keyValue_no (s t:ByteArray) (w:World) (hs:s.size≤4294967000) (ht:t.size≤4294967000) (hk:keyOk s.data.toList t.data.toList=false) :
 Calls Tryz.prog 17 #[.agg #[.string s,.string t]] w fun e w'=>e=.returned (.tuple #[zeroAgg,.int .i64 3])∧Below w.heap.size w w':=by
 have HM:=Lh (keyMay s t ((w.alloc (.cells #[.string s,.string t] 38)).alloc (.cells #[.int .u8 0,.int .i64 0,.string ⟨#[]⟩,.slice none 0 0,.slice none 0 0] 25)) (by omega) (by omega))
 rw [hk] at HM
 have hr0:=rowIs_box5 (w.alloc (.cells #[.string s,.string t] 38)) (.int .u8 0) (.int .i64 0) (.string ⟨#[]⟩) (.slice none 0 0) (.slice none 0 0) 25
 rw [show (w.alloc (.cells #[.string s,.string t] 38)).heap.size=w.heap.size+1 by simp] at hr0
 have HR0:=Lh hr0
 have HB0:=Lh (show Below w.heap.size w ((w.alloc (.cells #[.string s,.string t] 38)).alloc (.cells #[.int .u8 0,.int .i64 0,.string ⟨#[]⟩,.slice none 0 0,.slice none 0 0] 25)) from ((Below.refl _ _).alloc lz _).alloc (by simp) _)
 clear hk hr0
 go_enter Tryz.func17,Tryz.ntmps17
 go_wp2_with fail
 refine HM.out.mono ?_
 rintro e w1 ⟨rfl,hb1⟩
 have hres:=below_row hb1 HR0.out (by simp)
 have HRS:=Lh hres
 have HB1:=Lh (HB0.out.trans (hb1.mono (by simp;omega)))
 have t0:=hres.cell (i:=0) (by decide);have t1:=hres.cell (i:=1) (by decide);have t2:=hres.cell (i:=2) (by decide);have t3:=hres.cell (i:=3) (by decide);have t4:=hres.cell (i:=4) (by decide)
 have s0:=hres.frozen 0;have s1:=hres.frozen 1;have s2:=hres.frozen 2;have s3:=hres.frozen 3;have s4:=hres.frozen 4
 simp only [pick5] at t0 t1 t2 t3 t4
 clear hres hb1
 go_wp2
 exact bodyPost_ret (results_row_tmp Tryz.results17 _ _ (w.heap.size+1) 25 _ (0,0) _ rfl (row5_heap (set5 _ _ _ _ _ HRS.out)) Tryz.underlying25 rfl (by kernel_rfl) _ rfl) rfl ⟨rfl,below5 _ _ _ _ _ HB1.out (by omega)⟩
set_option maxHeartbeats 1000000 in
set_option maxRecDepth 100000 in
theorem keyValue_yes (s t:ByteArray) (w:World) (hs:s.size≤4294967000) (ht:t.size≤4294967000) (hk:keyOk s.data.toList t.data.toList=true) :
 Calls Tryz.prog 17 #[.agg #[.string s,.string t]] w (KeyValPost s t w):=by
 have HM:=Lh (keyMay s t ((w.alloc (.cells #[.string s,.string t] 38)).alloc (.cells #[.int .u8 0,.int .i64 0,.string ⟨#[]⟩,.slice none 0 0,.slice none 0 0] 25)) (by omega) (by omega))
 rw [hk] at HM
 have hr0:=rowIs_box5 (w.alloc (.cells #[.string s,.string t] 38)) (.int .u8 0) (.int .i64 0) (.string ⟨#[]⟩) (.slice none 0 0) (.slice none 0 0) 25
 rw [show (w.alloc (.cells #[.string s,.string t] 38)).heap.size=w.heap.size+1 by simp] at hr0
 have HR0:=Lh hr0
 have HB0:=Lh (show Below w.heap.size w ((w.alloc (.cells #[.string s,.string t] 38)).alloc (.cells #[.int .u8 0,.int .i64 0,.string ⟨#[]⟩,.slice none 0 0,.slice none 0 0] 25)) from ((Below.refl _ _).alloc lz _).alloc (by simp) _)
 have HX0:=Lh (show ((w.alloc (.cells #[.string s,.string t] 38)).alloc (.cells #[.int .u8 0,.int .i64 0,.string ⟨#[]⟩,.slice none 0 0,.slice none 0 0] 25)).heap[w.heap.size]?=some (.cells #[.string s,.string t] 38 (0,0)) by rw [Below.heap_alloc _ _ _ (by simp)];exact heap_alloc_new w _)
 clear hk hr0
 go_enter Tryz.func17,Tryz.ntmps17
 go_wp2_with fail
 refine HM.out.mono ?_
 clear HM
 rintro e w1 ⟨rfl,hb1⟩
 have HRS:=Lh (below_row hb1 HR0.out (by simp))
 have hz1:w.heap.size+2≤w1.heap.size:=by have:=hb1.size;simp at this;omega
 have hx1:w1.heap[w.heap.size]?=some (.cells #[.string s,.string t] 38 (0,0)):=by rw [hb1.block _ (by simp;omega)];exact HX0.out
 have HX1:=Lh hx1
 have HB1:=Lh (HB0.out.trans (hb1.mono (by simp;omega)))
 clear hb1 hx1 HX0 HB0 HR0
 have HC:=Lh (show ∀w':World,Below w1.heap.size w1 w'→w'.cell? ⟨w.heap.size,0,none⟩=some (.string s)∧w'.cell? ⟨w.heap.size,1,none⟩=some (.string t)∧w.heap.size<w'.heap.size from fun w' h=>by
  have:=h.size
  exact ⟨by rw [h.cell (by show w.heap.size<_;omega)];simp [World.cell?,HX1.out],by rw [h.cell (by show w.heap.size<_;omega)];simp [World.cell?,HX1.out],by omega⟩)
 have HT:=Lh (show ∀(u:ByteArray) (w':World),Below w1.heap.size w1 w'→Calls Tryz.prog 65 #[.string u] w' (fun e w''=>e=.returned (.agg #[.int .u8 3,.int .i64 0,.string u,.slice none 0 0,.slice none 0 0])∧Below w1.heap.size w1 w''∧w''.cell? ⟨w.heap.size,0,none⟩=some (.string s)∧w''.cell? ⟨w.heap.size,1,none⟩=some (.string t)∧w.heap.size<w''.heap.size) from fun u w' h=>by
  refine (pickTextOf u w').mono ?_
  rintro e w'' ⟨rfl,rfl⟩
  have hb:Below w1.heap.size w1 (w'.alloc (.cells #[.int .u8 3,.int .i64 0,.string u,.slice none 0 0,.slice none 0 0] 25)):=h.alloc h.size _
  exact ⟨rfl,hb,HC.out _ hb⟩)
 have HO:=Lh (show ∀(w':World),Below w1.heap.size w1 w'→Calls Tryz.prog 62 #[.slice (some ⟨w'.heap.size,0,none⟩) 2 2] (w'.alloc (.cells #[.string ⟨#[112,117,98,108,105,99]⟩,.int .u8 3,.int .i64 0,.string t,.slice none 0 0,.slice none 0 0,.string ⟨#[115,99,104,101,109,101]⟩,.int .u8 3,.int .i64 0,.string s,.slice none 0 0,.slice none 0 0] 98)) (fun e w''=>∃an cn ai ci,e=.returned (.tuple #[.agg #[.int .u8 5,.int .i64 0,.string ⟨#[]⟩,.slice an 2 cn,.slice ai 2 ci],.int .i64 0])∧Rep w'' w1.heap.size w''.heap.size (keyJ s t) (.agg #[.int .u8 5,.int .i64 0,.string ⟨#[]⟩,.slice an 2 cn,.slice ai 2 ci])∧Below w1.heap.size w1 w''∧w''.cell? ⟨w.heap.size,0,none⟩=some (.string s)∧w''.cell? ⟨w.heap.size,1,none⟩=some (.string t)∧w''.rowIs (w.heap.size+1) 25 5 (pick5 (.int .u8 0) (.int .i64 0) (.string ⟨#[]⟩) (.slice none 0 0) (.slice none 0 0))) from fun w' h=>by
  refine (objTwo t s w' _ ht hs).mono ?_
  rintro e w'' ⟨an,cn,ai,ci,rfl,hr,hb⟩
  have hb2:Below w1.heap.size w1 w'':=(h.alloc h.size _).trans (hb.mono (by have:=h.size;simp;omega))
  have hc:=HC.out _ hb2
  exact ⟨an,cn,ai,ci,rfl,Rep.carry (by have:=h.size;simp;omega) lz (fun _ _ _=>rfl) _ _ hr,hb2,hc.1,hc.2.1,below_row hb2 HRS.out (by omega)⟩)
 have hbz:Below w1.heap.size w1 w1.drew:=(Below.refl _ _).drew
 obtain ⟨q0,q1,hzq⟩:=HC.out w1 (Below.refl _ _)
 go_wp2_with fail
 go_region_held3 (fun w'=>w'.cell? ⟨w.heap.size,0,none⟩=some (.string s)∧w'.cell? ⟨w.heap.size,1,none⟩=some (.string t)) (first|(with_reducible exact ⟨q0,q1⟩)|(with_reducible exact ⟨(cell_alloc_lt _ hzq).trans q0,(cell_alloc_lt _ hzq).trans q1⟩)|(go_keep;done)) (first|(go_at_call 65;(with_reducible refine (HT.out _ _ hbz).mono ?_);rintro e w2 ⟨rfl,hbz,q0,q1,hzq⟩)|(go_at_call 62;(with_reducible refine (HO.out _ hbz).mono ?_);rintro e w5 ⟨an,cn,ai,ci,rfl,hr5,hb5,q0,q1,hres⟩;have t0:=hres.cell (i:=0) (by decide);have t1:=hres.cell (i:=1) (by decide);have t2:=hres.cell (i:=2) (by decide);have t3:=hres.cell (i:=3) (by decide);have t4:=hres.cell (i:=4) (by decide);have s0:=hres.frozen 0;have s1:=hres.frozen 1;have s2:=hres.frozen 2;have s3:=hres.frozen 3;have s4:=hres.frozen 4;have HRS5:=Lh hres;have HR5:=Lh hr5;have HB5:=Lh hb5;clear hres hr5 hb5;simp only [pick5] at t0 t1 t2 t3 t4))
 go_wp2
 refine bodyPost_ret (results_row_tmp Tryz.results17 _ _ (w.heap.size+1) 25 _ (0,0) _ rfl (row5_heap (set5 _ _ _ _ _ HRS5.out)) Tryz.underlying25 rfl (by kernel_rfl) _ rfl) rfl ⟨an,cn,ai,ci,rfl,?_,below5 _ _ _ _ _ (HB1.out.trans (HB5.out.mono (by omega))) (by omega)⟩
 exact Rep.carry (by omega) (show w5.heap.size≤_ by simp [World.setCell]) (fun j hj _=>heap5 _ _ _ _ _ (by omega)) _ _ HR5.out
end Go.Proofs.YtnlgmcapbbgelaaGreatDoor

namespace Go.Proofs.YtnlgmcapbbgelaaGreatDoor
open Go.RowKit
theorem escL_plain (l:List UInt8) (h:∀c ∈ l,plainC c):escL l=l:=by
 induction l with
 | nil=>rfl
 | cons c r ih =>
  have hc:=h c (by simp)
  have e:escL (c :: r)=escC c ++ escL r:=by simp [escL]
  rw [e,ih fun d hd=>h d (by simp [hd])]
  unfold escC plainC at *
  rw [if_neg (by omega)];rfl
theorem keyJ_form {s t:ByteArray} (h:keyOk s.data.toList t.data.toList=true):(keyJ s t).form false:=by
 obtain ⟨h1,h2,_,_⟩:=key_txt h
 obtain ⟨n1,n2,n3⟩:=names_ok
 have e:∀i (hi:i < [pubN,schN].length),txtOk [pubN,schN][i]=true:=fun i hi=>by
  match i,hi with
  | 0,_=>exact n1
  | 1,_=>exact n2
 unfold keyJ JV.form
 refine ⟨.inr (.inr (.inr (.inr ⟨rfl,rfl,e⟩))),?_⟩
 unfold JV.forms JV.forms JV.forms
 unfold txtJ JV.form
 exact ⟨⟨.inr (.inr (.inl ⟨rfl,h2⟩)),by unfold JV.forms;trivial⟩,⟨.inr (.inr (.inl ⟨rfl,h1⟩)),by unfold JV.forms;trivial⟩,trivial⟩
theorem keyJ_enc {s t:ByteArray} (h:keyOk s.data.toList t.data.toList=true):(keyJ s t).enc=keyForm s.data.toList t.data.toList:=by
 obtain ⟨h1,h2⟩:=key_parts h
 have e1:=escL_plain _ (role_plain h1).1
 have e2:=escL_plain _ (pub_plain h2).1
 have e3:quoteL pubN.data.toList=[34,112,117,98,108,105,99,34]:=by decide
 have e4:quoteL schN.data.toList=[34,115,99,104,101,109,101,34]:=by decide
 unfold keyJ txtJ
 simp [JV.enc,JV.encO,sep,e3,e4,keyForm,keyF1,keyF2]
 simp [quoteL,e1,e2]
end Go.Proofs.YtnlgmcapbbgelaaGreatDoor

namespace Go.Proofs.YtnlgmcapbbgelaaGreatDoor
open Go.RowKit Go.WideMaps Go.Maps
def PickG (o m lo hi:Nat) (v:JV) (an ai:Option Addr) (cn ci:Nat) (st:PS) (w:World):Prop :=
 PickAt o m lo hi v an ai cn ci st w∨(PickBad o st.err w∧o<w.heap.size∧m=o∧hi=0)
theorem PickG.lt {o m lo hi:Nat} {v:JV} {an ai:Option Addr} {cn ci:Nat} {st:PS} {w:World} (h:PickG o m lo hi v an ai cn ci st w):o<w.heap.size∧m<w.heap.size∧hi≤w.heap.size:=by
 rcases h with h|⟨-,h2,rfl,rfl⟩
 · exact ⟨heap_lt h.obj,by obtain ⟨D,n,h1,_⟩:=h.map;exact h1.lt,h.le⟩
 · exact ⟨h2,h2,Nat.zero_le _⟩
theorem PickG.below {o m lo hi:Nat} {v:JV} {an ai:Option Addr} {cn ci:Nat} {st:PS} {w w':World} (h:PickG o m lo hi v an ai cn ci st w) (hb:Below w.heap.size w w'):PickG o m lo hi v an ai cn ci st w':=by
 rcases h with h|⟨h1,h2,h3,h4⟩
 · exact .inl (h.below hb)
 · exact .inr ⟨h1.below hb h2,Nat.lt_of_lt_of_le h2 hb.size,h3,h4⟩
theorem PickG.touch {o m lo hi g:Nat} {v:JV} {an ai:Option Addr} {cn ci:Nat} {st:PS} {w w':World} (h:PickG o m lo hi v an ai cn ci st w) (hT:Touch (fun b=>b=g) w w') (ho:g≠o) (hm:g≠m) (hh:hi≤g):PickG o m lo hi v an ai cn ci st w':=by
 rcases h with h|⟨h1,h2,h3,h4⟩
 · exact .inl (h.touch hT ho hm hh)
 · exact .inr ⟨h1.touch hT h2 (Ne.symm ho),Nat.lt_of_lt_of_le h2 hT.size,h3,h4⟩
theorem PickG.cells {o m lo hi:Nat} {v:JV} {an ai:Option Addr} {cn ci:Nat} {st:PS} {w:World} (h:PickG o m lo hi v an ai cn ci st w):∃k,w.cell? ⟨o,6,none⟩=some (.int .i64 st.err)∧w.cell? ⟨o,0,none⟩=some (.int .u8 k)∧(st.err=0→k=5):=by
 rcases h with h|⟨⟨h1,h2,k,h3⟩,-⟩
 · exact ⟨5,box_cell h.obj rfl,(box_cell (j:=0) h.obj rfl).trans (by rw [h.kind];rfl),fun _=>rfl⟩
 · exact ⟨k,h2,h3,fun e=>absurd e h1⟩
theorem errG {o m lo hi:Nat} {v:JV} {an ai:Option Addr} {cn ci:Nat} {st:PS} {w:World} (h:PickG o m lo hi v an ai cn ci st w) :
 Calls Tryz.prog 98 #[.pointer (some ⟨o,0,none⟩)] w fun e w'=>e=.returned (.int .i64 st.err)∧w=w':=by
 obtain ⟨k,h1,h2,h3⟩:=h.cells
 exact pickErr o st.err k w h1 h2 h3
def LeftG (o m lo hi:Nat) (v:JV) (an ai:Option Addr) (cn ci:Nat) (st:PS) (w w':World):Prop :=
 PickG o m lo hi v an ai cn ci st w'∧Touch (fun b=>b=o∨b=m) w w'
theorem pickText_err {v:JV} {y:ByteArray} {st:PS} (h:st.err≠0):pickText v y st=(⟨#[]⟩,st):=by unfold pickText;rw [if_pos h]
theorem pickNum_err {v:JV} {y:ByteArray} {l h:Int} {st:PS} (he:st.err≠0):pickNum v y l h st=(0,st):=by unfold pickNum;rw [if_pos he]
theorem pickObj_err {v:JV} {y:ByteArray} {most:Nat} {st:PS} (h:st.err≠0):pickObj v y most st=(zeroJ,st):=by unfold pickObj;rw [if_pos h]
theorem fail_err {st:PS} {e:Int} (h:st.err≠0):st.fail e=st:=by unfold PS.fail;rw [if_neg h]
theorem textG {o m lo hi:Nat} {v:JV} {an ai:Option Addr} {cn ci:Nat} {st:PS} {w:World} (y:ByteArray) (h:PickG o m lo hi v an ai cn ci st w) (hy:y.size≤4294967296) (ha:st.asked.length≤4294967296) :
 Calls Tryz.prog 53 #[.pointer (some ⟨o,0,none⟩),.string y] w fun e w'=>e=.returned (.string (pickText v y st).1)∧LeftG o m lo hi v an ai cn ci (pickText v y st).2 w w':=by
 rcases h with h|⟨h1,h2,h3,h4⟩
 · exact (pickTextF o m lo hi v an ai cn ci y st w h hy ha).mono fun e w' ⟨e1,e2,e3⟩=>⟨e1,.inl e2,e3⟩
 · refine (textBad o st.err y w h1).mono fun e w' ⟨e1,e2⟩=>?_
   subst e2
   rw [pickText_err h1.1]
   exact ⟨e1,.inr ⟨h1,h2,h3,h4⟩,Touch.refl _ _⟩
theorem numG {o m lo hi:Nat} {v:JV} {an ai:Option Addr} {cn ci:Nat} {st:PS} {w:World} (y:ByteArray) (l u:Int) (h:PickG o m lo hi v an ai cn ci st w) (hy:y.size≤4294967296) (ha:st.asked.length≤4294967296) :
 Calls Tryz.prog 55 #[.pointer (some ⟨o,0,none⟩),.string y,.int .i64 l,.int .i64 u] w fun e w'=>e=.returned (.int .i64 (pickNum v y l u st).1)∧LeftG o m lo hi v an ai cn ci (pickNum v y l u st).2 w w':=by
 have hlt:=h.lt
 rcases h with h|⟨h1,h2,h3,h4⟩
 · exact (pickNumF o m lo hi v an ai cn ci y l u st w h hy ha hlt.2.1 hlt.1).mono fun e w' ⟨e1,e2,e3⟩=>⟨e1,.inl e2,e3⟩
 · refine (numBad o st.err y l u w h1 h2).mono fun e w' ⟨e1,e2⟩=>?_
   rw [pickNum_err h1.1]
   exact ⟨e1,.inr ⟨h1.below e2 h2,Nat.lt_of_lt_of_le h2 e2.size,h3,h4⟩,Touch.of_below e2 lz⟩
def ObjG (v:JV) (y:ByteArray) (most:Nat) (st:PS) (w:World) (e:Ending) (w':World):Prop :=
 ∃an' cn' ai' ci',e=.returned (.agg #[.int .u8 (pickObj v y most st).1.kind,.int .i64 (pickObj v y most st).1.n,.string (pickObj v y most st).1.t,.slice an' (pickObj v y most st).1.names.length cn',.slice ai' (pickObj v y most st).1.items.length ci'])∧Rep w' w.heap.size w'.heap.size (pickObj v y most st).1 (.agg #[.int .u8 (pickObj v y most st).1.kind,.int .i64 (pickObj v y most st).1.n,.string (pickObj v y most st).1.t,.slice an' (pickObj v y most st).1.names.length cn',.slice ai' (pickObj v y most st).1.items.length ci'])
theorem objGG {o m lo hi:Nat} {v:JV} {an ai:Option Addr} {cn ci:Nat} {st:PS} {w:World} (y:ByteArray) (most:Nat) (h:PickG o m lo hi v an ai cn ci st w) (hy:y.size≤4294967296) (ha:st.asked.length≤4294967296) :
 Calls Tryz.prog 58 #[.pointer (some ⟨o,0,none⟩),.string y,.int .i64 most] w fun e w'=>ObjG v y most st w e w'∧LeftG o m lo hi v an ai cn ci (pickObj v y most st).2 w w':=by
 rcases h with h|⟨h1,h2,h3,h4⟩
 · exact (pickObjF o m lo hi v an ai cn ci y most st w h hy ha).mono fun e w' ⟨⟨a,b,c,d,e1,e2⟩,e3,e4⟩=>⟨⟨a,b,c,d,e1,e2⟩,.inl e3,e4⟩
 · refine (objBad o st.err y most w h1 h2).mono fun e w' ⟨e1,e2⟩=>?_
   unfold ObjG
   rw [pickObj_err h1.1]
   exact ⟨⟨none,0,none,0,e1,rep_zeroJW _ _ _⟩,.inr ⟨h1.below e2 h2,Nat.lt_of_lt_of_le h2 e2.size,h3,h4⟩,Touch.of_below e2 lz⟩
theorem failG {o m lo hi:Nat} {v:JV} {an ai:Option Addr} {cn ci:Nat} {st:PS} {w:World} (e:Int) (h:PickG o m lo hi v an ai cn ci st w) :
 Calls Tryz.prog 54 #[.pointer (some ⟨o,0,none⟩),.int .i64 e] w fun r w'=>r=.returned (.tuple #[])∧LeftG o m lo hi v an ai cn ci (st.fail e) w w':=by
 rcases h with h|⟨h1,h2,h3,h4⟩
 · exact (pickFailG o m lo hi v an ai cn ci e st w h).mono fun r w' ⟨e1,e2,e3⟩=>⟨e1,.inl e2,e3⟩
 · refine (failBad o st.err e w h1).mono fun r w' ⟨e1,e2⟩=>?_
   subst e2
   rw [fail_err h1.1]
   exact ⟨e1,.inr ⟨h1,h2,h3,h4⟩,Touch.refl _ _⟩
theorem doneG {o m lo hi:Nat} {v:JV} {an ai:Option Addr} {cn ci:Nat} {st:PS} {w:World} (h:PickG o m lo hi v an ai cn ci st w) (hv:v.wt≤4294967296) :
 Calls Tryz.prog 60 #[.pointer (some ⟨o,0,none⟩)] w fun e w'=>e=.returned (.int .i64 (pickDone v st))∧w=w':=by
 rcases h with h|⟨⟨h1,c6,k,c0⟩,h2⟩
 · exact pickDoneF o m lo hi v an ai cn ci st w h (fun i hi=>by have h1:=bytesSum_get v.names i hi;have h2:=v.wt_eq;omega)
 · refine (doneErr o st.err k w h1 c6 c0).mono fun e w' ⟨e1,e2⟩=>⟨?_,e2⟩
   rw [e1]
   unfold pickDone
   rw [if_pos h1]
def st0 (v:JV):PS:=if v.kind=5 then ⟨[],0⟩ else ⟨[],10⟩
def OfGPost (C:JV→Prop) (st:PS) (w:World) (e:Ending) (w':World):Prop :=
 ∃u o m lo hi an ai cn ci,C u∧u.wt≤4294967296∧e=.returned (.pointer (some ⟨o,0,none⟩))∧PickG o m lo hi u an ai cn ci st w'∧w.heap.size≤o∧w.heap.size≤m∧Below w.heap.size w w'
def CopyOwn (v u:JV):Prop:=u=if v.kind=5 then v else zeroJ
theorem zeroJ_wt:zeroJ.wt≤4294967296:=by rw [JV.wt_eq];decide
theorem ofBadG {v:JV} {x:Value} {w:World} {lo hi:Nat} {C:JV→Prop} (hR:Rep w lo hi v x) (hk:v.kind≠5) (hC:C zeroJ):Calls Tryz.prog 52 #[x] w (OfGPost C (st0 v) w):=by
 obtain ⟨an,cn,ai,ci,rfl,-⟩:=hR.parts
 refine (pickOf_bad v.kind v.n v.t _ _ w hk).mono ?_
 rintro e w' ⟨o,e1,e2,e3,e4,e5⟩
 refine ⟨zeroJ,o,o,0,0,none,none,0,0,hC,zeroJ_wt,e1,?_,e2,e2,e5⟩
 unfold st0
 rw [if_neg hk]
 exact .inr ⟨e4,e3,rfl,rfl⟩
theorem ofOwn {v:JV} {x:Value} {w:World} {lo hi:Nat} (hN:v.wt≤4294967296) (hlo:0<lo) (hhi:hi≤w.heap.size) (hR:Rep w lo hi v x) (hp:v.kind=5→rises v.names=true∧v.names.length=v.items.length):Calls Tryz.prog 52 #[x] w (OfGPost (CopyOwn v) (st0 v) w):=by
 by_cases hk:v.kind=5
 · refine (pickOf_good v x w lo hi hN hhi hR hk (hp hk).1 (hp hk).2 (fun _ _=>.inl hlo)).mono ?_
   rintro e w' ⟨o,m,lo2,hi2,an,ai,cn,ci,e1,e2,e3,e4,e5⟩
   refine ⟨v,o,m,lo2,hi2,an,ai,cn,ci,?_,hN,e1,?_,e3,e4,e5⟩
   · unfold CopyOwn;rw [if_pos hk]
   · unfold st0;rw [if_pos hk];exact .inl e2
 · exact ofBadG hR hk (by unfold CopyOwn;rw [if_neg hk])
end Go.Proofs.YtnlgmcapbbgelaaGreatDoor

namespace Go.Proofs.YtnlgmcapbbgelaaGreatDoor
open Go.RowKit
structure AuthV where
 thr:Int
 ids:List ByteArray
deriving DecidableEq
def authZ:AuthV:=⟨0,[]⟩
def mayAuth (a:AuthV):Bool:=authOk a.thr a.ids
def keyidsN:ByteArray:=⟨#[107,101,121,105,100,115]⟩
def thrN:ByteArray:=⟨#[116,104,114,101,115,104,111,108,100]⟩
def listJ (l:List JV):JV:=.mk 4 0 ⟨#[]⟩ [] l
def textsJ (l:List ByteArray):JV:=listJ (l.map txtJ)
def authM (a:AuthV):List NJ:=[(keyidsN,textsJ a.ids),(thrN,numJ a.thr)]
def authJ (a:AuthV):JV:=objJ (authM a)
def pickTexts (v:JV) (y:ByteArray) (most:Nat) (st:PS):List ByteArray × PS :=
 if st.err≠0 then ([],st) else match v.look y with
 | none=>([],⟨st.asked,6⟩)
 | some it=>if it.kind≠4 then ([],⟨st.asked,10⟩) else if most<it.items.length then ([],⟨st.asked,5⟩) else if it.items.all (fun x=>decide (x.kind=3)) then (it.items.map JV.t,⟨y :: st.asked,0⟩) else ([],⟨st.asked,10⟩)
def partS (v:JV) (st:PS):PS:=(if (pickTexts v keyidsN 16 st).1=[] then (pickTexts v keyidsN 16 st).2.fail 4 else (pickTexts v keyidsN 16 st).2).fail (idsErr [] (pickTexts v keyidsN 16 st).1)
def partN (v:JV) (st:PS):Int × PS:=pickNum v thrN 1 ((pickTexts v keyidsN 16 st).1.length:Int) (partS v st)
def partK (v:JV) (st:PS):AuthV × PS:=(if (partN v st).2.err≠0 then authZ else ⟨(partN v st).1,(pickTexts v keyidsN 16 st).1⟩,(partN v st).2)
def authOfK (v:JV):AuthV × Int:=if pickDone v (partK v ⟨[],0⟩).2≠0 then (authZ,pickDone v (partK v ⟨[],0⟩).2) else ((partK v ⟨[],0⟩).1,0)
def authOfA (v:JV):AuthV × Int:=if v.mayB=false then (authZ,3) else if v.kind≠5 then (authZ,10) else authOfK v
theorem listJ_part {l:List JV} (h:∀x ∈ l,x.partB=true):(listJ l).partB=true:=by
 rw [JV.partB_eq]
 show (properB 4 0 ⟨#[]⟩ [] l.length && JV.partsB l)=true
 rw [parts_all l h]
 unfold properB
 rw [if_neg (by decide),if_neg (by decide),if_neg (by decide),if_pos rfl]
 have h2:(⟨#[]⟩:ByteArray).toList=[]:=by rw [ByteArray.toList_eq]
 simp [h2]
theorem auth_names:rises [keyidsN,thrN]=true∧txtOk keyidsN=true∧txtOk thrN=true∧keyidsN≠thrN:=by
 refine ⟨by kernel_rfl,?_,?_,by decide⟩
 all_goals
  refine txtOk_plain ?_ (by decide)
  intro c hc
  unfold plainC
  revert c
  decide
theorem mayAuth_parts {a:AuthV} (h:mayAuth a=true):(1≤a.ids.length∧a.ids.length≤16)∧(1≤a.thr∧a.thr≤a.ids.length)∧idsErr [] a.ids=0:=by
 unfold mayAuth authOk at h
 simp only [Bool.and_eq_true,decide_eq_true_eq] at h
 exact ⟨⟨h.1.1,h.1.2.1⟩,h.1.2.2,h.2⟩
theorem idsErr_hex:∀(l seen:List ByteArray),idsErr seen l=0→∀x ∈ l,hex64 x=true
 | [],_,_,x,hx=>by simp at hx
 | y :: r,seen,h,x,hx=>by
  unfold idsErr at h
  split at h
  · rename_i h1
    split at h
    · cases h
    · rcases List.mem_cons.1 hx with e|e
      · rw [e];exact h1
      · exact idsErr_hex r _ h x e
  · cases h
theorem hex64_txt {x:ByteArray} (h:hex64 x=true):txtOk x=true∧x.size=64:=by
 unfold hex64 at h
 simp only [Bool.and_eq_true,decide_eq_true_eq] at h
 refine ⟨txtOk_plain ?_ (by omega),h.1⟩
 intro c hc
 have h2:=List.all_eq_true.1 (by unfold allHex at h;exact h.2) c hc
 unfold isHex at h2
 unfold plainC
 simp at h2 ⊢
 omega
theorem authJ_look (a:AuthV):(authJ a).look keyidsN=some (textsJ a.ids)∧(authJ a).look thrN=some (numJ a.thr):=by
 have h:=auth_names.2.2.2
 constructor
 · show lookL [keyidsN,thrN] [textsJ a.ids,numJ a.thr] keyidsN=_
   simp [lookL]
 · show lookL [keyidsN,thrN] [textsJ a.ids,numJ a.thr] thrN=_
   simp [lookL,h]
theorem pickTexts_ok {v:JV} {y:ByteArray} {l:List ByteArray} {most:Nat} {a:List ByteArray} (h:v.look y=some (textsJ l)) (hl:l.length≤most):pickTexts v y most ⟨a,0⟩=(l,⟨y :: a,0⟩):=by
 unfold pickTexts
 rw [if_neg (by simp),h]
 show (if (textsJ l).kind≠4 then _ else _:List ByteArray × PS)=_
 have hi:(textsJ l).items=l.map txtJ:=rfl
 rw [if_neg (by simp [textsJ,listJ,JV.kind]),hi,if_neg (by rw [List.length_map];omega),if_pos (by simp [txtJ,JV.kind])]
 have hm:(l.map txtJ).map JV.t=l:=by rw [List.map_map];exact (List.map_congr_left fun x _=>rfl).trans (List.map_id l)
 rw [hm]
theorem auth_back {a:AuthV} (h:mayAuth a=true):authOfK (authJ a)=(a,0):=by
 obtain ⟨hl,ht,hi⟩:=mayAuth_parts h
 obtain ⟨e1,e2⟩:=authJ_look a
 have p1:pickTexts (authJ a) keyidsN 16 ⟨[],0⟩=(a.ids,⟨[keyidsN],0⟩):=pickTexts_ok e1 hl.2
 have hne:¬a.ids=[]:=fun e=>by rw [e] at hl;simp at hl
 have p2:partS (authJ a) ⟨[],0⟩=⟨[keyidsN],0⟩:=by
  unfold partS
  rw [p1]
  dsimp only
  rw [if_neg hne,hi]
  rfl
 have p3:partN (authJ a) ⟨[],0⟩=(a.thr,⟨[thrN,keyidsN],0⟩):=by
  unfold partN
  rw [p1,p2]
  exact pickNum_ok e2 ht.1 ht.2
 have p4:partK (authJ a) ⟨[],0⟩=(a,⟨[thrN,keyidsN],0⟩):=by
  unfold partK
  rw [p3,p1]
  rfl
 have p5:pickDone (authJ a) ⟨[thrN,keyidsN],0⟩=0:=by
  unfold pickDone
  rw [if_neg (by simp),if_pos]
  simp [authJ,objJ,JV.names,authM]
 unfold authOfK
 rw [p4,p5,if_neg (by simp)]
theorem authJ_ok {a:AuthV} (h:mayAuth a=true):(authJ a).partB=true∧(authJ a).count≤40∧(authJ a).depth≤2:=by
 obtain ⟨hl,ht,hi⟩:=mayAuth_parts h
 obtain ⟨n1,n2,n3,n4⟩:=auth_names
 have hx:=idsErr_hex _ _ hi
 have h0:∀x ∈ a.ids.map txtJ,x.partB=true∧x.count≤1∧x.depth≤0:=fun x hx'=>by
  obtain ⟨b,hb,rfl⟩:=List.mem_map.1 hx'
  have:=txtJ_cd b
  exact ⟨txtJ_part (hex64_txt (hx b hb)).1,Nat.le_of_eq this.1,Nat.le_of_eq this.2⟩
 have hc:(textsJ a.ids).count≤17:=by
  rw [JV.count_eq]
  have:=counts_le 1 (a.ids.map txtJ) fun x hx'=>(h0 x hx').2.1
  rw [List.length_map] at this
  show 1+JV.counts (a.ids.map txtJ)≤_
  omega
 have hd:(textsJ a.ids).depth≤1:=by
  rw [JV.depth_eq]
  have:=depths_le2 0 (a.ids.map txtJ) fun x hx'=>(h0 x hx').2.2
  rw [if_neg (by simp [textsJ,listJ,JV.kind])]
  show JV.depths (a.ids.map txtJ)+1≤_
  omega
 have hp:∀p ∈ authM a,txtOk p.1=true∧p.2.partB=true∧p.2.count≤17∧p.2.depth≤1:=fun p hp=>by
  simp only [authM,List.mem_cons,List.not_mem_nil,or_false] at hp
  have:=numJ_cd a.thr
  rcases hp with rfl|rfl
  · exact ⟨n2,listJ_part fun x hx'=>(h0 x hx').1,hc,hd⟩
  · exact ⟨n3,numJ_part _,Nat.le_trans (Nat.le_of_eq this.1) (by decide),Nat.le_trans (Nat.le_of_eq this.2) (by decide)⟩
 refine ⟨objJ_part ⟨n1,fun p h=>⟨(hp p h).1,(hp p h).2.1⟩⟩,?_,objJ_depth 1 fun p h=>(hp p h).2.2.2⟩
 have:=objJ_count 17 fun p h=>(hp p h).2.2.1
 have e:(authM a).length=2:=rfl
 rw [e] at this
 show (objJ (authM a)).count≤40
 omega
theorem authJ_may {a:AuthV} (h:mayAuth a=true):(authJ a).mayB=true:=by
 obtain ⟨h1,h2,h3⟩:=authJ_ok h
 rw [JV.mayB_iff,h1,decide_eq_true (by omega),decide_eq_true (by omega)];rfl
end Go.Proofs.YtnlgmcapbbgelaaGreatDoor

namespace Go.Proofs.YtnlgmcapbbgelaaGreatDoor
open Go.RowKit Go.WideMaps Go.Maps
def itemsErr (it:JV) (most:Nat):Int:=if it.kind≠4 then 10 else if most<it.items.length then 5 else 0
def textsErr (it:JV) (most:Nat):Int:=if itemsErr it most≠0 then itemsErr it most else if it.items.all (fun x=>decide (x.kind=3)) then 0 else 10
def textsL (it:JV) (most:Nat):List ByteArray:=if textsErr it most=0 then it.items.map JV.t else []
theorem textsErr_ok {it:JV} {most:Nat} (e:textsErr it most=0):it.kind=4∧¬most<it.items.length∧it.items.all (fun x=>decide (x.kind=3))=true:=by
 unfold textsErr itemsErr at e
 by_cases h1:it.kind=4
 · by_cases h2:most<it.items.length
   · simp [h1,h2] at e
   · cases h3:it.items.all (fun x=>decide (x.kind=3)) with
     | true=>exact ⟨h1,h2,rfl⟩
     | false=>simp [h1,h2,h3] at e
 · simp [h1] at e
theorem textsErr_no {it:JV} {a:List ByteArray} {most:Nat} {X:List ByteArray × PS} (e:¬textsErr it most=0) :
 (if it.kind≠4 then ([],(⟨a,10⟩:PS)) else if most<it.items.length then ([],⟨a,5⟩) else if it.items.all (fun x=>decide (x.kind=3)) then X else ([],⟨a,10⟩))=([],⟨a,textsErr it most⟩):=by
 unfold textsErr itemsErr at e ⊢
 by_cases h1:it.kind=4
 · by_cases h2:most<it.items.length
   · simp [h1,h2]
   · cases h3:it.items.all (fun x=>decide (x.kind=3)) with
     | true=>simp [h1,h2,h3] at e
     | false=>simp [h1,h2]
 · simp [h1]
theorem textsErr_items {it:JV} {most:Nat} (h:itemsErr it most≠0):textsErr it most=itemsErr it most:=by unfold textsErr;rw [if_pos h]
set_option maxHeartbeats 1000000 in
set_option maxRecDepth 100000 in
theorem pickItems (it:JV) (most:Nat) (an' ai':Option Addr) (cn' ci':Nat) (w:World) :
 Calls Tryz.prog 209 #[.agg #[.int .u8 it.kind,.int .i64 it.n,.string it.t,.slice an' it.names.length cn',.slice ai' it.items.length ci'],.int .i64 most] w fun e w'=>e=.returned (.tuple #[if itemsErr it most=0 then .slice ai' it.items.length ci' else .slice none 0 0,.int .i64 (itemsErr it most)])∧Below w.heap.size w w':=by
 have HB:=Lh (show Below w.heap.size w (w.alloc (.cells #[.int .u8 it.kind,.int .i64 it.n,.string it.t,.slice an' it.names.length cn',.slice ai' it.items.length ci'] 25)) from (Below.refl _ _).alloc lz _)
 by_cases hk:it.kind=4
 · by_cases h1:most<it.items.length
   · have HV:=Lh (show itemsErr it most=5 by unfold itemsErr;rw [if_neg (by simp [hk]),if_pos h1])
     rw [HV.out,if_neg (show ¬(5:Int)=0 by decide)]
     rw [hk] at HB ⊢
     have h1':decide ((most:Int)<(it.items.length:Int))=true:=by simpa using h1
     clear hk
     go_enter Tryz.func209,Tryz.ntmps209
     go_wp2
     go_ret2
     exact ⟨rfl,HB.out⟩
   · have HV:=Lh (show itemsErr it most=0 by unfold itemsErr;rw [if_neg (by simp [hk]),if_neg h1])
     rw [HV.out,if_pos rfl]
     rw [hk] at HB ⊢
     have h1':decide ((most:Int)<(it.items.length:Int))=false:=by simpa using h1
     clear hk
     go_enter Tryz.func209,Tryz.ntmps209
     go_wp2
     go_ret2
     exact ⟨rfl,HB.out⟩
 · have HV:=Lh (show itemsErr it most=10 by unfold itemsErr;rw [if_pos hk])
   rw [HV.out,if_neg (show ¬(10:Int)=0 by decide)]
   have hk':(it.kind != 4)=true:=by simpa using hk
   clear hk
   go_enter Tryz.func209,Tryz.ntmps209
   go_wp2
   go_ret2
   exact ⟨rfl,HB.out⟩
def TConvPost (it:JV) (most:Nat) (w:World) (e:Ending) (w':World):Prop :=
 ∃a c,e=.returned (.tuple #[.slice a (textsL it most).length c,.int .i64 (textsErr it most)])∧StrsAt w' w.heap.size w'.heap.size a (textsL it most)∧Below w.heap.size w w'
theorem tconv_bad {it:JV} {most:Nat} {w w':World} {er:Int} (h:textsErr it most=er) (h0:er≠0) (hb:Below w.heap.size w w'):TConvPost it most w (.returned (.tuple #[.slice none 0 0,.int .i64 er])) w':=by
 unfold TConvPost textsL
 rw [h,if_neg h0]
 exact ⟨none,0,rfl,.inl rfl,hb⟩
set_option maxHeartbeats 2000000 in
set_option maxRecDepth 100000 in
theorem textsConv (it:JV) (most p1:Nat) (an' ai':Option Addr) (cn' ci' lo:Nat) (w:World) (hN:it.wt≤4294967296) (hR:Rep w lo w.heap.size it (.agg #[.int .u8 it.kind,.int .i64 it.n,.string it.t,.slice an' it.names.length cn',.slice ai' it.items.length ci'])) (c1:w.cell? ⟨p1,0,none⟩=some (.int .i64 most)) :
 Calls Tryz.prog 208 #[.agg #[.int .u8 it.kind,.int .i64 it.n,.string it.t,.slice an' it.names.length cn',.slice ai' it.items.length ci'],.pointer (some ⟨p1,0,none⟩)] w (TConvPost it most w):=by
 obtain ⟨an2,cn2,ai2,ci2,hx,-,-,-,h4⟩:=hR.parts
 simp only [Value.agg.injEq,Array.mk.injEq,List.cons.injEq,Value.slice.injEq,true_and,and_true] at hx
 obtain ⟨⟨rfl,rfl⟩,rfl,rfl⟩:=hx
 obtain ⟨W,hW⟩:∃W,W=w.alloc (.cells #[.int .u8 it.kind,.int .i64 it.n,.string it.t,.slice an' it.names.length cn',.slice ai' it.items.length ci'] 25):=⟨_,rfl⟩
 have hb:Below w.heap.size w W:=by rw [hW];exact (Below.refl _ _).alloc lz _
 have d1:W.cell? ⟨p1,0,none⟩=some (.int .i64 most):=by rw [hb.cell (World.block_lt_of_cell? w _ c1)];exact c1
 have hx0:W.heap[w.heap.size]?=some (.cells #[.int .u8 it.kind,.int .i64 it.n,.string it.t,.slice an' it.names.length cn',.slice ai' it.items.length ci'] 25 (0,0)):=by rw [hW];exact heap_alloc_new w _
 have HI:=Lh (pickItems it most an' ai' cn' ci' W)
 have HBW:=Lh hb
 have H4:=Lh h4
 have HW:=Lh hW
 have HLN:=Lh (show it.items.length≤4294967296 by have:=it.wt_bd;omega)
 have x0:=box_cell hx0 (j:=0) rfl;have x1:=box_cell hx0 (j:=1) rfl;have x2:=box_cell hx0 (j:=2) rfl;have x3:=box_cell hx0 (j:=3) rfl;have x4:=box_cell hx0 (j:=4) rfl
 clear hb c1 hW h4 hR hx0 hN
 obtain ⟨nn,hnn⟩:∃nn,nn=it.items.length:=⟨_,rfl⟩
 rw [← hnn] at HI HLN x4 ⊢
 rw [← hnn] at HW
 have HNN:=Lh hnn
 clear hnn
 by_cases hie:itemsErr it most=0
 case neg =>
  have HV:=Lh (textsErr_items hie)
  obtain ⟨er,her⟩:∃er,er=itemsErr it most:=⟨_,rfl⟩
  rw [if_neg hie,← her] at HI
  rw [← her] at HV hie
  have h1:(er != 0)=true:=by simpa using hie
  have HNE:=Lh hie
  clear hie her
  go_enter Tryz.func208,Tryz.ntmps208
  go_upto_region 1 with fail
  rw [← HW.out]
  go_wp2_with fail
  refine HI.out.mono ?_
  rintro e w1 ⟨rfl,hb1⟩
  have HB1:=Lh (HBW.out.trans (hb1.mono HBW.out.size))
  clear hb1
  go_wp2
  go_ret2
  exact tconv_bad HV.out HNE.out HB1.out
 have HV:=Lh (show textsErr it most=if it.items.all (fun x=>decide (x.kind=3)) then 0 else 10 by unfold textsErr;rw [if_neg (by simp [hie])])
 rw [if_pos hie,hie] at HI
 clear hie
 obtain ⟨i2,hi2,hx0,hx1,hx2⟩:=info_parts infoStr
 go_enter Tryz.func208,Tryz.ntmps208
 go_upto_region 1 with fail
 rw [← HW.out]
 go_wp2_with fail
 refine HI.out.mono ?_
 clear HI
 rintro e w1 ⟨rfl,hb1⟩
 have HB1:=Lh (HBW.out.trans (hb1.mono HBW.out.size))
 clear hb1 HW x0 x1 x2 x3 x4 d1
 go_wp2
 go_loopw [7,9,21] (fun vs _ i wr=>∃(k:Nat),k≤nn∧i=.int .i64 k∧(∀j (h:j<it.items.length),j<k→it.items[j].kind=3)∧wr.ownsRow w1.heap.size 9 1 vs k (((it.items.map JV.t).take k).map .string)∧Below w1.heap.size w1 wr) (fun _ _ i _=>nn - (intOf i).toNat)
 case atStart=>exact ⟨0,by omega,rfl,fun j _ h=>by omega,World.ownsRow_nil _ _ _ _,Below.refl _ _⟩
 case round =>
  obtain ⟨k,hk,rfl,hal,hown,hbel⟩:=hrel
  have hlk:((it.items.map JV.t).take k).length=k:=by rw [List.length_take,List.length_map,← HNN.out];omega
  obtain ⟨am,cm,hv0,-,-⟩:=owns_strs hown hlk.symm
  rw [hlk] at hv0
  subst hv0
  clear hlk
  have HB:Hid (Below w.heap.size w wr):=HB1.out.trans (hbel.mono HB1.out.size)
  have HBL:=Lh hbel
  have HO:=Lh hown
  have HAL:=Lh hal
  clear hal
  by_cases hlt:k<nn
  · have hlt':k<it.items.length:=by rw [← HNN.out];exact hlt
    obtain ⟨b,off,an3,cn3,ai3,ci3,rfl,_,hbz,y0,y1,y2,y3,y4,_⟩:=(H4.out.below HB.out lz lz HB.out.size).get k hlt'
    have HTK:=Lh (show ((it.items.map JV.t).take (k+1)).map Value.string=((it.items.map JV.t).take k).map .string ++ [.string it.items[k].t] by rw [List.take_succ_eq_append_getElem (by simpa using hlt'),List.map_append];simp)
    have HKA:=Lh (show it.items[k].kind≠3→it.items.all (fun x=>decide (x.kind=3))=false from fun h=>List.all_eq_false.2 ⟨it.items[k],List.getElem_mem _,by simpa using h⟩)
    have HKB:=Lh (show it.items[k].kind=3→∀j (h:j<it.items.length),j<k+1→it.items[j].kind=3 from fun h j hj hjk=>by
     rcases Nat.lt_succ_iff_lt_or_eq.1 hjk with h1|h1
     · exact HAL.out j hj h1
     · subst h1;exact h)
    obtain ⟨vo,hvo⟩:∃vo,vo=(Value.slice (some ⟨b,off,none⟩) nn ci'):=⟨_,rfl⟩
    clear vo hvo
    generalize it.items[k]=x at *
    have hz:w1.heap.size≤wr.heap.size:=hbel.size
    obtain ⟨WX,hWX⟩:∃WX,WX=wr.alloc (.cells #[.int .u8 x.kind,.int .i64 x.n,.string x.t,.slice an3 x.names.length cn3,.slice ai3 x.items.length ci3] 25):=⟨_,rfl⟩
    have hbX:Below wr.heap.size wr WX:=by rw [hWX];exact (Below.refl _ _).alloc lz _
    have hxX:WX.heap[wr.heap.size]?=some (.cells #[.int .u8 x.kind,.int .i64 x.n,.string x.t,.slice an3 x.names.length cn3,.slice ai3 x.items.length ci3] 25 (0,0)):=by rw [hWX];exact heap_alloc_new wr _
    have HBX:=Lh (HBL.out.trans (hbX.mono hz))
    have HOX:=Lh (owns_below HO.out hbX)
    have HBZ:=Lh (HB.out.trans (hbX.mono HB.out.size))
    have hzX:w1.heap.size≤WX.heap.size:=by rw [hWX];simp;omega
    have HWX:=Lh hWX
    have z0:WX.cell? ⟨wr.heap.size,0,none⟩=some (.int .u8 x.kind):=box_cell hxX rfl
    have z2:WX.cell? ⟨wr.heap.size,2,none⟩=some (.string x.t):=box_cell hxX rfl
    clear hbel hown hbX hxX hWX
    by_cases hk3:x.kind=3
    · have HK3:=Lh (HKB.out hk3)
      have h3:(x.kind != 3)=false:=by simpa using hk3
      have hnb:=HLN.out
      clear hk3 HKA HKB
      go_upto_region 8 with fail
      rw [← HWX.out]
      go_wp2_with (at_builtin;refine wpList_append_lies _ rfl (.tmp 28) (.tmp 31) 22 rfl w1.heap.size 9 i2 _ 1 16 Tryz.underlying22 hi2 hx0 hx1 hx2 rfl (by decide) (.slice am k cm) k (((it.items.map JV.t).take k).map .string) rfl (HOX.out.alloc _) ⟨WX.heap.size,0,none⟩ 1 1 [.string x.t] rfl rfl (World.news_of_block (cs:=#[.string x.t]) (t:=9) (fr:=(0,0)) (heap_alloc_new WX _)) (by simp [Value.oneCell']) (by omega) (by unfold maxLen;omega) (by omega) (by simp;omega) (WX.heap.size+1) (by simp) ?_;intro g1 cap2 w6 hown6 hgrow6 hat6 hlt6;have HO6:=Lh hown6;have HG6:=Lh hgrow6;clear hown6 hgrow6 hat6)
      go_roundw
      case rel =>
       refine ⟨k+1,by omega,by go_num,HK3.out,?_,below_grown (HBX.out.alloc (by omega) _) (by simp;omega) HG6.out (fun b hb=>(HOX.out.lt b hb).1)⟩
       rw [HTK.out]
       exact HO6.out
      case measure=>simp [intOf];omega
    · have HV2:=Lh (show textsErr it most=10 by rw [HV.out,HKA.out hk3];rfl)
      have h3:(x.kind != 3)=true:=by simpa using hk3
      clear hk3 HKA HKB
      go_upto_region 8 with fail
      rw [← HWX.out]
      go_wp2
      go_ret2
      exact tconv_bad HV2.out (by decide) HBZ.out
  · obtain rfl:k=nn:=by omega
    have HV2:=Lh (show textsErr it most=0 by
     rw [HV.out,if_pos]
     refine List.all_eq_true.2 fun x hx=>?_
     obtain ⟨j,hj,rfl⟩:=List.getElem_of_mem hx
     simpa using HAL.out j hj (by rw [HNN.out];exact hj))
    have hlm:(it.items.map JV.t).length=k:=by rw [List.length_map,HNN.out]
    rw [List.take_of_length_le (Nat.le_of_eq hlm)] at hown
    obtain ⟨a5,c5,hv6,_,hv5⟩:=owns_strs hown hlm.symm
    rw [hlm] at hv6
    simp only [Value.slice.injEq,true_and] at hv6
    obtain ⟨rfl,rfl⟩:=hv6
    have HV5:=Lh hv5
    have HLM:=Lh hlm
    clear hown hv5 hbel hlm
    go_wp2
    go_ret2
    have e1:textsL it most=it.items.map JV.t:=by unfold textsL;rw [if_pos HV2.out]
    unfold TConvPost
    rw [e1,HV2.out,HLM.out]
    exact ⟨am,cm,rfl,HV5.out.carry HB1.out.size lz (fun _ _ _=>rfl),HB.out⟩
def TextsPostP (o m lo hi:Nat) (v:JV) (an ai:Option Addr) (cn ci:Nat) (y:ByteArray) (most:Nat) (st:PS) (w:World) (e:Ending) (w':World):Prop :=
 (∃a c,e=.returned (.slice a (pickTexts v y most st).1.length c)∧StrsAt w' w.heap.size w'.heap.size a (pickTexts v y most st).1)∧PickAt o m lo hi v an ai cn ci (pickTexts v y most st).2 w'∧Touch (fun b=>b=o∨b=m) w w'
theorem textsPost0 {o m lo hi:Nat} {v:JV} {an ai:Option Addr} {cn ci:Nat} {y:ByteArray} {most:Nat} {st st':PS} {w w':World} (h:pickTexts v y most st=([],st')) (hP:PickAt o m lo hi v an ai cn ci st' w') (hT:Touch (fun b=>b=o∨b=m) w w'):TextsPostP o m lo hi v an ai cn ci y most st w (.returned (.slice none 0 0)) w':=by
 unfold TextsPostP
 rw [h]
 exact ⟨⟨none,0,rfl,.inl rfl⟩,hP,hT⟩
set_option maxHeartbeats 2000000 in
set_option maxRecDepth 100000 in
theorem takeTexts (o m lo hi:Nat) (v:JV) (an ai:Option Addr) (cn ci:Nat) (y:ByteArray) (most:Nat) (st:PS) (w:World) (hP:PickAt o m lo hi v an ai cn ci st w) (hy:y.size≤4294967296) (ha:st.asked.length≤4294967296) (p1:Nat) (g1:w.heap[p1]?=some (.cells #[.int .i64 most] 3 (0,0))) :
 Calls Tryz.prog 207 #[.pointer (some ⟨o,0,none⟩),.string y,.func (.func 208) #[] #[.pointer (some ⟨p1,0,none⟩)]] w (TextsPostP o m lo hi v an ai cn ci y most st w):=by
 have HP:=Lh hP
 have HG1:=Lh g1
 clear hP g1
 have c6:w.cell? ⟨o,6,none⟩=some (.int .i64 st.err):=box_cell HP.out.obj rfl
 have c0:w.cell? ⟨o,0,none⟩=some (.int .u8 5):=(box_cell (j:=0) HP.out.obj rfl).trans (by rw [HP.out.kind];rfl)
 by_cases he:st.err=0
 · rw [he] at c6
   have HE:=Lh he
   clear he
   have c1:w.cell? ⟨o,1,none⟩=some (.int .i64 v.n):=box_cell HP.out.obj rfl
   have c2:w.cell? ⟨o,2,none⟩=some (.string v.t):=box_cell HP.out.obj rfl
   have c3:w.cell? ⟨o,3,none⟩=some (.slice an v.names.length cn):=box_cell HP.out.obj rfl
   have c4:w.cell? ⟨o,4,none⟩=some (.slice ai v.items.length ci):=box_cell HP.out.obj rfl
   have HR:=Lh HP.out.rep
   rw [HP.out.kind] at HR
   have HG:=Lh (valueGet v y _ w lo hi HP.out.wt HP.out.pos HP.out.le HR.out HP.out.kind HP.out.rise HP.out.len)
   go_enter Tryz.func207,Tryz.ntmps207
   go_wp2_with fail
   refine (pickErr o 0 5 w c6 c0 (fun _=>rfl)).mono ?_
   rintro r w' ⟨rfl,rfl⟩
   go_wp2_with fail
   refine HG.out.mono ?_
   clear HG c0 c1 c2 c3 c4 c6
   rintro e w1 ⟨hh,hb1⟩
   have HB1:=Lh hb1
   clear hb1
   rcases hh with ⟨r,hr1,hr2,hre,an',cn',ai',ci',rfl,hrep⟩|⟨hno,rfl⟩
   · have HL:=Lh (look_some HP.out.rise r hr1 hr2 hre)
     have HREP:=Lh hrep
     have HWT:=Lh (show v.items[r].wt≤4294967296 by have h1:=JV.wts_get v.items r hr2;have h2:=v.wt_bd;have h3:=HP.out.wt;omega)
     clear hre hrep
     generalize v.items[r]=it at *
     have hb2:Below w.heap.size w (w1.alloc (.cells #[.int .u8 it.kind,.int .i64 it.n,.string it.t,.slice an' it.names.length cn',.slice ai' it.items.length ci'] 25)):=HB1.out.alloc HB1.out.size _
     have HB2:=Lh hb2
     have HC:=Lh (textsConv it most p1 an' ai' cn' ci' w.heap.size (w1.alloc (.cells #[.int .u8 it.kind,.int .i64 it.n,.string it.t,.slice an' it.names.length cn',.slice ai' it.items.length ci'] 25)) HWT.out (HREP.out.below ((Below.refl _ _).alloc lz _) lz lz (by simp)) (box_cell ((hb2.block _ (heap_lt HG1.out)).trans HG1.out) rfl))
     clear hb2
     unfold TConvPost at HC
     by_cases hk:textsErr it most=0
     · have HX:=Lh (show pickTexts v y most st=(it.items.map JV.t,⟨y :: st.asked,0⟩) by unfold pickTexts;rw [if_neg (by simp [HE.out]),HL.out];obtain ⟨q1,q2,q3⟩:=textsErr_ok hk;simp only;rw [if_neg (by simp [q1]),if_neg q2,if_pos q3])
       rw [show textsL it most=it.items.map JV.t by unfold textsL;rw [if_pos hk],hk] at HC
       clear hk
       obtain ⟨L,hL⟩:∃L,L=it.items.map JV.t:=⟨_,rfl⟩
       rw [← hL] at HC HX
       clear hL
       go_wp2_with fail
       refine HC.out.mono ?_
       clear HC
       rintro e w2 ⟨al,cl,rfl,hsl,hb3⟩
       have HB3:=Lh (HB2.out.trans (hb3.mono HB2.out.size))
       have HP3:=Lh (HP.out.below HB3.out)
       have HSL:=Lh hsl
       have HZL:=Lh (show w.heap.size<(w1.alloc (.cells #[.int .u8 it.kind,.int .i64 it.n,.string it.t,.slice an' it.names.length cn',.slice ai' it.items.length ci'] 25)).heap.size from by have:=HB1.out.size;simp;omega)
       have HMZ:=Lh (show m<w.heap.size from by obtain ⟨D,n,h,_⟩:=HP.out.map;exact h.lt)
       clear hb3 HB2 hsl
       have d5:w2.cell? ⟨o,5,none⟩=some (.map (some m)):=box_cell HP3.out.obj rfl
       have hkey:keyOf Tryz.prog 9 (.string y)=some (.string y.data.toList):=keyOf_string_mk Tryz.underlying9 (by unfold maxLen;omega)
       obtain ⟨D,n,hown,hn,hD⟩:=HP3.out.map
       obtain ⟨c,hat,hc0,hc1,hc2⟩:=hD.2 y
       obtain ⟨c',hrun,hat',_⟩:=hown.lookup_int lawStr Tryz.underlying124 Tryz.underlying3 (zeroInt _) hkey
       rw [hat] at hat'
       simp only [DataW.lit.injEq,Lit.int.injEq,true_and] at hat'
       subst hat'
       have HD:=Lh (hD.cons y c hat)
       have HKY:=Lh hkey
       have HOW:=Lh hown
       clear hD hat hc2 hkey hown
       go_wp2_with (at_mapUpdate;refine wpList_mapUpdate_own _ rfl _ _ _ 124 rfl 9 3 lawStr Tryz.underlying124 _ m n D rfl HOW.out (by unfold maxLen;omega) _ _ _ rfl rfl HKY.out _ [] (plainElem_int Tryz.underlying3 (WalkArith.wf_i64 (by omega))) ?_)
       intro w3 hown3 hgrow3
       have HP4:=Lh (HP3.out.ask y hgrow3 hown3 (by omega) HD.out)
       have HT:=Lh (show Touch (fun b=>b=o∨b=m) w w3 from ⟨by rw [hgrow3.os,HB3.out.os],by rw [hgrow3.tape,HB3.out.tape],by rw [hgrow3.output,HB3.out.output],Nat.le_trans HB3.out.size hgrow3.size,fun k hk hs=>by rw [hgrow3.block k (Nat.lt_of_lt_of_le hk HB3.out.size) (fun e=>hs (.inr (Option.some.inj e))),HB3.out.block k hk]⟩)
       have HS3:=Lh (show StrsAt w3 w.heap.size w3.heap.size al L from HSL.out.carry (Nat.le_of_lt HZL.out) hgrow3.size fun b h1 h2=>hgrow3.block b h2 (fun e=>by have:=Option.some.inj e;have:=HZL.out;have:=HMZ.out;omega))
       clear hgrow3 hown3
       rw [HE.out] at HP4
       go_wp2
       go_ret
       unfold TextsPostP
       rw [HX.out]
       exact ⟨⟨al,cl,rfl,HS3.out⟩,HP4.out,HT.out⟩
     · have HX:=Lh (show pickTexts v y most st=([],⟨st.asked,textsErr it most⟩) by unfold pickTexts;rw [if_neg (by simp [HE.out]),HL.out];exact textsErr_no hk)
       rw [show textsL it most=[] by unfold textsL;rw [if_neg hk]] at HC
       obtain ⟨er,her⟩:∃er,er=textsErr it most:=⟨_,rfl⟩
       rw [← her] at HC HX hk
       have hk':(er != 0)=true:=by simpa using hk
       have hk2:(er == 0)=false:=by simpa using hk
       clear hk her
       go_wp2_with fail
       refine HC.out.mono ?_
       clear HC
       rintro e w2 ⟨al,cl,rfl,-,hb3⟩
       have HB3:=Lh (HB2.out.trans (hb3.mono HB2.out.size))
       have HP3:=Lh (HP.out.below HB3.out)
       clear hb3 HB2
       have d6:w2.cell? ⟨o,6,none⟩=some (.int .i64 0):=(box_cell (j:=6) HP3.out.obj rfl).trans (by rw [HE.out];rfl)
       have d0:w2.cell? ⟨o,0,none⟩=some (.int .u8 5):=(box_cell (j:=0) HP3.out.obj rfl).trans (by rw [HP.out.kind];rfl)
       have d7:w2.frozen? ⟨o,6,none⟩=false:=by simp [World.frozen?,HP3.out.obj]
       go_wp2_with fail
       refine (pickFail o er _ d6 d0 d7).mono ?_
       clear d6 d0 d7
       rintro e w3 ⟨rfl,rfl⟩
       have HP4:=Lh (HP3.out.fail er)
       have HT:=Lh (show Touch (fun b=>b=o∨b=m) w (w2.setCell ⟨o,6,none⟩ (.int .i64 er)) from (Touch.of_below HB3.out lz).setCell (.inl (.inl rfl)) _)
       go_wp2
       go_ret
       exact textsPost0 HX.out HP4.out HT.out
   · have HX:=Lh (show pickTexts v y most st=([],⟨st.asked,6⟩) by unfold pickTexts;rw [if_neg (by simp [HE.out]),show v.look y=none from lookL_none _ _ _ hno])
     unfold zeroAgg
     have HB3:=Lh (show Below w.heap.size w (w1.alloc (.cells #[.int .u8 0,.int .i64 0,.string ⟨#[]⟩,.slice none 0 0,.slice none 0 0] 25)) from HB1.out.alloc HB1.out.size _)
     have HP3:=Lh (HP.out.below HB3.out)
     clear hno HB1
     have d6:(w1.alloc (.cells #[.int .u8 0,.int .i64 0,.string ⟨#[]⟩,.slice none 0 0,.slice none 0 0] 25)).cell? ⟨o,6,none⟩=some (.int .i64 0):=(box_cell (j:=6) HP3.out.obj rfl).trans (by rw [HE.out];rfl)
     have d0:(w1.alloc (.cells #[.int .u8 0,.int .i64 0,.string ⟨#[]⟩,.slice none 0 0,.slice none 0 0] 25)).cell? ⟨o,0,none⟩=some (.int .u8 5):=(box_cell (j:=0) HP3.out.obj rfl).trans (by rw [HP.out.kind];rfl)
     have d7:(w1.alloc (.cells #[.int .u8 0,.int .i64 0,.string ⟨#[]⟩,.slice none 0 0,.slice none 0 0] 25)).frozen? ⟨o,6,none⟩=false:=by simp [World.frozen?,HP3.out.obj]
     go_wp2_with fail
     refine (pickFail o 6 _ d6 d0 d7).mono ?_
     clear d6 d0 d7
     rintro e w3 ⟨rfl,rfl⟩
     have HP4:=Lh (HP3.out.fail 6)
     have HT:=Lh (show Touch (fun b=>b=o∨b=m) w ((w1.alloc (.cells #[.int .u8 0,.int .i64 0,.string ⟨#[]⟩,.slice none 0 0,.slice none 0 0] 25)).setCell ⟨o,6,none⟩ (.int .i64 6)) from (Touch.of_below HB3.out lz).setCell (.inl (.inl rfl)) _)
     go_wp2
     go_ret
     exact textsPost0 HX.out HP4.out HT.out
 · have he':(st.err == 0)=false:=by simpa using he
   have he2:(st.err != 0)=true:=by simpa using he
   have HX:=Lh (show pickTexts v y most st=([],st) by unfold pickTexts;rw [if_pos he])
   have HE:=Lh he
   clear he
   go_enter Tryz.func207,Tryz.ntmps207
   go_wp2_with fail
   refine (pickErr o st.err 5 w c6 c0 (fun _=>rfl)).mono ?_
   rintro r w' ⟨rfl,rfl⟩
   go_wp2
   go_ret
   exact textsPost0 HX.out HP.out (Touch.refl _ _)
set_option maxHeartbeats 1000000 in
set_option maxRecDepth 100000 in
theorem textsG {o m lo hi:Nat} {v:JV} {an ai:Option Addr} {cn ci:Nat} {st:PS} {w:World} (y:ByteArray) (most:Nat) (h:PickG o m lo hi v an ai cn ci st w) (hy:y.size≤4294967296) (ha:st.asked.length≤4294967296) :
 Calls Tryz.prog 173 #[.pointer (some ⟨o,0,none⟩),.string y,.int .i64 most] w fun e w'=>(∃a c,e=.returned (.slice a (pickTexts v y most st).1.length c)∧StrsAt w' w.heap.size w'.heap.size a (pickTexts v y most st).1)∧LeftG o m lo hi v an ai cn ci (pickTexts v y most st).2 w w':=by
 have hb:Below w.heap.size w (w.alloc (.cells #[.int .i64 most] 3)):=(Below.refl _ _).alloc lz _
 have HT:=Lh (show Calls Tryz.prog 207 #[.pointer (some ⟨o,0,none⟩),.string y,.func (.func 208) #[] #[.pointer (some ⟨w.heap.size,0,none⟩)]] (w.alloc (.cells #[.int .i64 most] 3)) (fun e w'=>(∃a c,e=.returned (.slice a (pickTexts v y most st).1.length c)∧StrsAt w' w.heap.size w'.heap.size a (pickTexts v y most st).1)∧LeftG o m lo hi v an ai cn ci (pickTexts v y most st).2 w w') by
  have hT0:Touch (fun b=>b=o∨b=m) w (w.alloc (.cells #[.int .i64 most] 3)):=Touch.of_below hb lz
  rcases h with h|⟨⟨h1,c6,k,c0⟩,h2,h3,h4⟩
  · refine (takeTexts o m lo hi v an ai cn ci y most st _ (h.below hb) hy ha w.heap.size (heap_alloc_new w _)).mono ?_
    rintro e w' ⟨⟨a,c,e1,e2⟩,e3,e4⟩
    exact ⟨⟨a,c,e1,e2.carry hb.size lz (fun _ _ _=>rfl)⟩,.inl e3,hT0.trans (e4.mono fun _ _ h=>h)⟩
  · obtain ⟨W2,hW2⟩:∃W2,W2=w.alloc (.cells #[.int .i64 most] 3):=⟨_,rfl⟩
    rw [← hW2] at hb hT0 ⊢
    have HPB:=Lh (show PickG o m lo hi v an ai cn ci st W2 from (PickG.below (.inr ⟨⟨h1,c6,k,c0⟩,h2,h3,h4⟩) hb))
    have e6:W2.cell? ⟨o,6,none⟩=some (.int .i64 st.err):=by rw [hb.cell h2];exact c6
    have e0:W2.cell? ⟨o,0,none⟩=some (.int .u8 k):=by rw [hb.cell h2];exact c0
    have he':(st.err == 0)=false:=by simpa using h1
    have he2:(st.err != 0)=true:=by simpa using h1
    have HE:=Lh h1
    have HT0:=Lh hT0
    have HX:=Lh (show pickTexts v y most st=([],st) by unfold pickTexts;rw [if_pos h1])
    clear h1 c6 c0 hW2 hb hT0
    go_enter Tryz.func207,Tryz.ntmps207
    go_wp2_with fail
    refine (pickErr o st.err k W2 e6 e0 (fun h=>absurd h HE.out)).mono ?_
    rintro r w' ⟨rfl,h'⟩
    subst h'
    go_wp2
    go_ret
    rw [HX.out]
    exact ⟨⟨none,0,rfl,.inl rfl⟩,HPB.out,HT0.out⟩)
 clear h hb
 obtain ⟨R,hR⟩:∃R,R=pickTexts v y most st:=⟨_,rfl⟩
 rw [← hR] at HT ⊢
 clear hR
 go_enter Tryz.func173,Tryz.ntmps173
 go_wp2_with fail
 refine HT.out.mono ?_
 rintro e w' ⟨⟨a,c,rfl,h1⟩,h2⟩
 have H1:=Lh h1
 have H2:=Lh h2
 clear h1 h2
 go_wp2
 go_ret
 exact ⟨⟨a,c,rfl,H1.out⟩,H2.out⟩
end Go.Proofs.YtnlgmcapbbgelaaGreatDoor

namespace Go.Proofs.YtnlgmcapbbgelaaGreatDoor
open Go.RowKit
def rootN:ByteArray:=⟨#[114,111,111,116]⟩
structure Auth3 where
 a:AuthV
 b:AuthV
 c:AuthV
deriving DecidableEq
def auth3Z:Auth3:=⟨authZ,authZ,authZ⟩
def may3 (x:Auth3):Bool:=mayAuth x.a && mayAuth x.b && mayAuth x.c
def rolesM (x:Auth3):List NJ:=[(rootN,authJ x.a),(snpN,authJ x.b),(tgtN,authJ x.c)]
def rolesJ (x:Auth3):JV:=objJ (rolesM x)
def roleS (v:JV) (y:ByteArray) (st:PS):AuthV × PS:=((authOfA (pickObj v y 8192 st).1).1,(pickObj v y 8192 st).2.fail (authOfA (pickObj v y 8192 st).1).2)
def rol1 (v:JV):AuthV × PS:=roleS v rootN ⟨[],0⟩
def rol2 (v:JV):AuthV × PS:=roleS v snpN (rol1 v).2
def rol3 (v:JV):AuthV × PS:=roleS v tgtN (rol2 v).2
def rolesOfK (v:JV):Auth3 × Int:=if pickDone v (rol3 v).2≠0 then (auth3Z,pickDone v (rol3 v).2) else (⟨(rol1 v).1,(rol2 v).1,(rol3 v).1⟩,0)
theorem roles_names:rises [rootN,snpN,tgtN]=true∧(txtOk rootN=true∧txtOk snpN=true∧txtOk tgtN=true)∧(rootN≠snpN∧rootN≠tgtN∧snpN≠tgtN):=by
 refine ⟨by kernel_rfl,⟨?_,?_,?_⟩,by decide⟩
 all_goals
  refine txtOk_plain ?_ (by decide)
  intro c hc
  unfold plainC
  revert c
  decide
theorem authOfA_back {a:AuthV} (h:mayAuth a=true):authOfA (authJ a)=(a,0):=by
 unfold authOfA
 rw [if_neg (by rw [authJ_may h];decide),if_neg (by simp [authJ,objJ,JV.kind]),auth_back h]
theorem roleS_ok {v:JV} {y:ByteArray} {a:AuthV} {s:List ByteArray} (h:v.look y=some (authJ a)) (hm:mayAuth a=true):roleS v y ⟨s,0⟩=(a,⟨y :: s,0⟩):=by
 have e:pickObj v y 8192 ⟨s,0⟩=(authJ a,⟨y :: s,0⟩):=by
  unfold pickObj
  rw [if_neg (by simp),h]
  show (if (authJ a).kind≠5 then _ else if 8192<(authJ a).items.length then _ else _:JV × PS)=_
  rw [if_neg (by simp [authJ,objJ,JV.kind]),if_neg (by simp [authJ,objJ,JV.items,authM])]
 unfold roleS
 rw [e]
 dsimp only
 rw [authOfA_back hm]
 rfl
theorem roles_back {x:Auth3} (h:may3 x=true):rolesOfK (rolesJ x)=(x,0):=by
 unfold may3 at h
 simp only [Bool.and_eq_true] at h
 obtain ⟨⟨ha,hb⟩,hc⟩:=h
 obtain ⟨n1,n2,n3⟩:=roles_names.2.2
 have k0:∀y,(rolesJ x).look y=lookL [rootN,snpN,tgtN] [authJ x.a,authJ x.b,authJ x.c] y:=fun _=>rfl
 have e1:rol1 (rolesJ x)=(x.a,⟨[rootN],0⟩):=roleS_ok (by rw [k0];simp [lookL]) ha
 have e2:rol2 (rolesJ x)=(x.b,⟨[snpN,rootN],0⟩):=by
  unfold rol2
  rw [e1]
  exact roleS_ok (by rw [k0];simp [lookL,n1]) hb
 have e3:rol3 (rolesJ x)=(x.c,⟨[tgtN,snpN,rootN],0⟩):=by
  unfold rol3
  rw [e2]
  exact roleS_ok (by rw [k0];simp [lookL,n2,n3]) hc
 have e4:pickDone (rolesJ x) ⟨[tgtN,snpN,rootN],0⟩=0:=by
  unfold pickDone
  rw [if_neg (by simp),if_pos]
  simp [rolesJ,objJ,JV.names,rolesM]
 unfold rolesOfK
 rw [e3,e4,if_neg (by simp),e1,e2]
theorem rolesJ_ok {x:Auth3} (h:may3 x=true):(rolesJ x).partB=true∧(rolesJ x).count≤130∧(rolesJ x).depth≤3:=by
 unfold may3 at h
 simp only [Bool.and_eq_true] at h
 obtain ⟨⟨ha,hb⟩,hc⟩:=h
 obtain ⟨r,⟨n1,n2,n3⟩,-⟩:=roles_names
 have hp:∀p ∈ rolesM x,txtOk p.1=true∧p.2.partB=true∧p.2.count≤40∧p.2.depth≤2:=fun p hp=>by
  simp only [rolesM,List.mem_cons,List.not_mem_nil,or_false] at hp
  rcases hp with rfl|rfl|rfl
  · exact ⟨n1,authJ_ok ha⟩
  · exact ⟨n2,authJ_ok hb⟩
  · exact ⟨n3,authJ_ok hc⟩
 refine ⟨objJ_part ⟨r,fun p h=>⟨(hp p h).1,(hp p h).2.1⟩⟩,?_,objJ_depth 2 fun p h=>(hp p h).2.2.2⟩
 have:=objJ_count 40 fun p h=>(hp p h).2.2.1
 have e:(rolesM x).length=3:=rfl
 rw [e] at this
 show (objJ (rolesM x)).count≤130
 omega
end Go.Proofs.YtnlgmcapbbgelaaGreatDoor
