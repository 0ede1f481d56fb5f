/- Plain: the object of a root's three roles, there and back. No program in sight. -/
import Derived.Test.YtnlgmcapbbgelaaGreatDoorRt18
import Derived.Test.YtnlgmcapbbgelaaGreatDoorRt17

namespace Go.Proofs.YtnlgmcapbbgelaaGreatDoor
open Go.RowKit Go.WideMaps Go.Maps
theorem dt (l:List JV) (j:Nat) (h:j<l.length) (hp:JV.partsB l=true):l[j].partB=true:=by
 cases hb:l[j].partB
 · rw [JV.partsB_bad l j h hb] at hp;cases hp
 · rfl
end Go.Proofs.YtnlgmcapbbgelaaGreatDoor

namespace Go.Proofs.YtnlgmcapbbgelaaGreatDoor
open Go.RowKit
theorem rX {t:ByteArray} (h:t.toList=[]):t=⟨#[]⟩:=by
 rw [ByteArray.toList_eq] at h
 exact fG (by simpa using h)
theorem mO {x:JV} (h:x.partB=true) (hk:x.kind=5):(x.n=0∧x.t=⟨#[]⟩)∧x.names.length=x.items.length∧qr x.names=true∧∀y ∈ x.items,y.partB=true:=by
 rw [JV.partB_eq,Bool.and_eq_true] at h
 obtain ⟨h1,h2⟩:=h
 rw [hk] at h1
 unfold qK at h1
 rw [if_neg (by decide),if_neg (by decide),if_neg (by decide),if_neg (by decide),if_pos rfl,Bool.and_eq_true,Bool.and_eq_true,decide_eq_true_eq] at h1
 obtain ⟨⟨⟨a,b,c⟩,d⟩,-⟩:=h1
 refine ⟨⟨a,rX b⟩,c,d,fun y hy=>?_⟩
 obtain ⟨i,hi,rfl⟩:=List.getElem_of_mem hy
 exact dt _ i hi h2
theorem yA:∀ {ns:List ByteArray} {xs:List JV} {y:ByteArray} {x:JV},zX ns xs y=some x→y ∈ ns∧x ∈ xs
 | n :: ns,z :: xs,y,x,h=>by
  rw [zX] at h
  split at h
  · rename_i e
    injection h with h
    subst h;subst e
    exact ⟨List.mem_cons_self ..,List.mem_cons_self ..⟩
  · have:=yA h
    exact ⟨List.mem_cons_of_mem _ this.1,List.mem_cons_of_mem _ this.2⟩
def lJ (v:JV):Prop:=v.kind=5∧(v.n=0∧v.t=⟨#[]⟩)∧qr v.names=true∧v.names.length=v.items.length∧∀x ∈ v.items,x.partB=true∨x=qO
theorem mE {v:JV} (h:v.mayB=true) (hk:v.kind=5):lJ v:=by
 rw [JV.mayB_iff] at h
 simp only [Bool.and_eq_true] at h
 obtain ⟨a,b,c,d⟩:=mO h.1.1 hk
 exact ⟨hk,a,c,b,fun x hx=>.inl (d x hx)⟩
theorem ol {v:JV} (h:lJ v) {y:ByteArray} {it:JV} (e:v.look y=some it) (hk:it.kind≠0):it.partB=true:=by
 rcases h.2.2.2.2 it (yA e).2 with h|h
 · exact h
 · exact absurd (by rw [h];rfl) hk
def qL (n:Nat):UInt8:=if n<10 then UInt8.ofNat (48+n) else UInt8.ofNat (87+n)
def xw:List UInt8→List UInt8
 | []=>[]
 | c :: r=>qL (c.toNat / 16) :: qL (c.toNat % 16) :: xw r
theorem fq (l m:List UInt8):xw (l ++ m)=xw l ++ xw m:=by
 induction l with
 | nil=>rfl
 | cons c r ih=>simp [xw,ih]
theorem fx (l:List UInt8):(xw l).length=2 * l.length:=by
 induction l with
 | nil=>rfl
 | cons c r ih=>simp [xw,ih];omega
def vk (l:List UInt8):List UInt8:=xw (jH l)
theorem we (l:List UInt8):(vk l).length=64:=by unfold vk;rw [fx,ko]
theorem pn (n:Nat) (h:n<16):zR (qL n)=true:=by
 have:∀m:Fin 16,zR (qL m.val)=true:=by decide
 exact this ⟨n,h⟩
theorem pt:∀l:List UInt8,jo (xw l)=true
 | []=>rfl
 | c :: r=>by
  have h:=pt r
  have hc:c.toNat<256:=c.toNat_lt
  unfold jo at h ⊢
  simp only [xw,List.all_cons,Bool.and_eq_true]
  exact ⟨pn _ (by omega),pn _ (by omega),h⟩
theorem de (l:List UInt8):jo (vk l)=true:=pt _
def xV:ByteArray:=⟨#[112,117,98,108,105,99]⟩
def schN:ByteArray:=⟨#[115,99,104,101,109,101]⟩
def xO (s t:ByteArray):JV:=.mk 5 0 ⟨#[]⟩ [xV,schN] [txtJ t,txtJ s]
theorem fC {s t:List UInt8} (h:zp s t=true):xX s=true∧yz t=true:=by
 unfold zp at h;simpa using h
theorem g9 {s t:ByteArray} (h:zp s.data.toList t.data.toList=true):qW s=true∧qW t=true∧s.size≤64∧t.size≤128:=by
 obtain ⟨h1,h2⟩:=fC h
 have h3:=pk h1
 have h4:=fW h2
 rw [qg] at h3 h4
 exact ⟨zn h3.1 (by omega),zn h4.1 (by omega),h3.2.2,h4.2.2⟩
theorem m6:qW xV=true∧qW schN=true∧qr [xV,schN]=true:=by
 refine ⟨zn ?_ (by decide),zn ?_ (by decide),?_⟩
 · intro c hc;unfold xJ;revert c;decide
 · intro c hc;unfold xJ;revert c;decide
 · unfold qr qr;rw [ByteArray.toList_eq,ByteArray.toList_eq];decide
theorem m7 (t:ByteArray) (h:qW t=true) (d:Nat) (l:Int) (hl:1≤l):(txtJ t).may d l=(true,l - 1):=by
 unfold txtJ
 rw [JV.may,if_neg (by omega)]
 have:qK 3 0 t [] 0=true:=by unfold qK;simp [h]
 rw [show ([]:List JV).length=0 from rfl,this]
 simp
theorem pi {s t:ByteArray} (h:zp s.data.toList t.data.toList=true):(xO s t).mayB=true:=by
 obtain ⟨h1,h2,_,_⟩:=g9 h
 obtain ⟨n1,n2,n3⟩:=m6
 unfold JV.mayB xO
 have hp:qK 5 0 ⟨#[]⟩ [xV,schN] 2=true:=by
  unfold qK
  rw [ByteArray.toList_eq]
  simp [n1,n2,n3]
 have hm:JV.mays [txtJ t,txtJ s] (12 - 1) (8192 - 1)=(true,8192 - 1 - 1 - 1):=by
  rw [JV.mays,m7 t h2 _ _ (by omega),if_pos rfl,JV.mays,m7 s h1 _ _ (by omega),if_pos rfl,JV.mays]
 rw [JV.may,if_neg (by omega),show ([txtJ t,txtJ s]:List JV).length=2 from rfl,hp,if_neg (by decide),if_neg (by decide),if_neg (by decide),hm]
theorem th {s t:ByteArray} (hs:s.size≤4294967) (ht:t.size≤4294967):(xO s t).wt≤4294967296:=by
 unfold xO txtJ
 have e1:xV.size=6:=rfl
 have e2:schN.size=6:=rfl
 have e3:(⟨#[]⟩:ByteArray).size=0:=rfl
 simp only [JV.wt,JV.wts,qt]
 omega
def lK:List UInt8:=[123,34,112,117,98,108,105,99,34,58,34]
def lV:List UInt8:=[34,44,34,115,99,104,101,109,101,34,58,34]
def jG (s t:List UInt8):List UInt8:=lK ++ (t ++ (lV ++ (s ++ [34,125])))
theorem m8 (s t:List UInt8):(jG s t).length=s.length+t.length+25:=by simp [jG,lK,lV];omega
def ju (s t:List UInt8):List UInt8:=if zp s t then vk (jG s t) else []
def zy (v:JV):(ByteArray × ByteArray) × Int :=
 if v.mayB=false then ((⟨#[]⟩,⟨#[]⟩),3) else if v.kind≠5 then ((⟨#[]⟩,⟨#[]⟩),10) else
  if qu v (qy v schN (qy v xV ⟨[],0⟩).2).2≠0 then ((⟨#[]⟩,⟨#[]⟩),qu v (qy v schN (qy v xV ⟨[],0⟩).2).2) else
  if zp (qy v schN (qy v xV ⟨[],0⟩).2).1.data.toList (qy v xV ⟨[],0⟩).1.data.toList then (((qy v schN (qy v xV ⟨[],0⟩).2).1,(qy v xV ⟨[],0⟩).1),0) else ((⟨#[]⟩,⟨#[]⟩),3)
theorem iV:xV≠schN:=by decide
theorem sl (s t:ByteArray):(xO s t).look xV=some (txtJ t):=by
 unfold JV.look xO JV.names JV.items;simp [zX]
theorem sr (s t:ByteArray):(xO s t).look schN=some (txtJ s):=by
 unfold JV.look xO JV.names JV.items;simp [zX,iV]
theorem dQ {s t:ByteArray} (h:zp s.data.toList t.data.toList=true):zy (xO s t)=((s,t),0):=by
 have h1:qy (xO s t) xV ⟨[],0⟩=(t,⟨[xV],0⟩):=by unfold qy;rw [if_neg (by simp),sl];rfl
 have h2:qy (xO s t) schN ⟨[xV],0⟩=(s,⟨[schN,xV],0⟩):=by unfold qy;rw [if_neg (by simp),sr];rfl
 have h3:qu (xO s t) ⟨[schN,xV],0⟩=0:=by
  unfold qu;rw [if_neg (by simp)]
  have:(xO s t).names=[xV,schN]:=rfl
  rw [this];simp
 unfold zy
 rw [if_neg (by rw [pi h];simp),if_neg (by show ¬(5:Int)≠5;simp),h1]
 simp only
 rw [h2]
 simp only
 rw [h3,if_neg (by simp),if_pos h]
def rJ (s t:ByteArray):ByteArray:=⟨(ju s.data.toList t.data.toList).toArray⟩
def ok2 (k:Key2):Bool:=zp k.1.data.toList k.2.data.toList
def id2 (k:Key2):ByteArray:=rJ k.1 k.2
def ids (l:List Key2):List ByteArray:=l.map id2
def obj2 (k:Key2):JV:=xO k.1 k.2
def zD (m:List Key2):JV:=.mk 5 0 ⟨#[]⟩ (m.map id2) (m.map obj2)
theorem m9 {l:List ByteArray} (h:qr l=true):l.Nodup:=by
 rw [List.Nodup,List.pairwise_iff_getElem]
 intro i j hi hj hij e
 have:=z8 h i j hi hj hij
 rw [e,zj] at this;cases this
theorem cq {k:Key2}:(id2 k).size≤64:=by
 show (ju _ _).toArray.size≤64
 unfold ju
 split
 · rw [List.size_toArray,we];exact Nat.le_refl _
 · simp
theorem tu {k:Key2} (h:k.1.size≤300∧k.2.size≤300):(obj2 k).wt≤1000:=by
 unfold obj2 xO txtJ
 have e1:xV.size=6:=rfl
 have e2:schN.size=6:=rfl
 have e3:(⟨#[]⟩:ByteArray).size=0:=rfl
 simp only [JV.wt,JV.wts,qt]
 omega
theorem bq {m:List Key2} (hs:∀k ∈ m,k.1.size≤300∧k.2.size≤300):(zD m).wt≤1+1100 * m.length:=by
 have h1:∀m:List Key2,qt (m.map id2)≤65 * m.length:=fun m=>by
  induction m with
  | nil=>simp [qt]
  | cons k r ih=>have:=@cq k;simp only [List.map_cons,qt,List.length_cons];omega
 have h2:∀m:List Key2,(∀k ∈ m,k.1.size≤300∧k.2.size≤300)→JV.wts (m.map obj2)≤1000 * m.length:=fun m=>by
  induction m with
  | nil=>intro _;simp [JV.wts]
  | cons k r ih=>intro hs;have:=tu (hs k (by simp));have:=ih (fun k hk=>hs k (List.mem_cons_of_mem _ hk));simp only [List.map_cons,JV.wts,List.length_cons];omega
 have e3:(⟨#[]⟩:ByteArray).size=0:=rfl
 have:=h1 m
 have:=h2 m hs
 unfold zD
 simp only [JV.wt]
 omega
theorem rK {v:JV} (h:(zy v).2=0):zp (zy v).1.1.data.toList (zy v).1.2.data.toList=true∧(zy v).1.1.size≤64∧(zy v).1.2.size≤128:=by
 have h2:zp (zy v).1.1.data.toList (zy v).1.2.data.toList=true:=by
  unfold zy at h ⊢
  split at h
  · cases h
  next c1 =>
  rw [if_neg c1]
  split at h
  · cases h
  next c2 =>
  rw [if_neg c2]
  split at h
  · next c3=>exact absurd h c3
  next c3 =>
  rw [if_neg c3]
  split at h
  · next c4=>rw [if_pos c4];exact c4
  · cases h
 obtain ⟨_,_,a,b⟩:=g9 h2
 exact ⟨h2,a,b⟩
def jR:List ByteArray→List JV→List Key2→List Key2 × Int
 | id :: ns,it :: its,acc=>if (zy it).2≠0 then ([],(zy it).2) else if (rJ (zy it).1.1 (zy it).1.2).toList == id.toList then jR ns its (acc ++ [(zy it).1]) else ([],3)
 | _,_,acc=>(acc,0)
def fD (r:Key2 × Int) (id:ByteArray) (ns:List ByteArray) (its:List JV) (acc:List Key2):List Key2 × Int :=
 if r.2≠0 then ([],r.2) else if (rJ r.1.1 r.1.2).toList == id.toList then jR ns its (acc ++ [r.1]) else ([],3)
theorem rV (its:List JV) (acc:List Key2):jR [] its acc=(acc,0):=by
 unfold jR;rfl
theorem dZ (ns:List ByteArray) (its:List JV) (k:Nat) (acc:List Key2) (h:k<ns.length) (h':k<its.length):jR (ns.drop k) (its.drop k) acc=fD (zy its[k]) ns[k] (ns.drop (k+1)) (its.drop (k+1)) acc:=by
 rw [List.drop_eq_getElem_cons h,List.drop_eq_getElem_cons h',jR,fD]
def xZ (v:JV):List Key2 × Int:=if v.mayB=false then ([],3) else if v.kind≠5 then ([],10) else if 32<v.names.length then ([],5) else jR v.names v.items []
theorem cz {v:JV} (h:v.mayB=true):v.partB=true:=by
 rw [JV.mayB_iff] at h
 simp only [Bool.and_eq_true] at h
 exact h.1.1
theorem iW {k:Key2} (h:ok2 k=true):qW (id2 k)=true:=by
 have e:(id2 k).data.toList=vk (jG k.1.data.toList k.2.data.toList):=by
  show (ju _ _)=_
  unfold ju
  rw [if_pos (show zp k.1.data.toList k.2.data.toList=true from h)]
 refine zn ?_ (Nat.le_trans cq (by decide))
 rw [e]
 have:=de (jG k.1.data.toList k.2.data.toList)
 unfold jo at this
 exact fun c hc=>fV (List.all_eq_true.1 this c hc)
theorem cx {m:List Key2} (hok:∀k ∈ m,ok2 k=true) (hr:qr (ids m)=true) (hl:m.length≤32):(zD m).mayB=true:=by
 rw [JV.mayB_iff]
 have hp:∀m:List Key2,(∀k ∈ m,ok2 k=true)→JV.partsB (m.map obj2)=true:=fun m=>by
  induction m with
  | nil=>intro _;rfl
  | cons k r ih =>
   intro h
   rw [List.map_cons,JV.partsB,Bool.and_eq_true]
   exact ⟨cz (pi (h k (by simp))),ih fun x hx=>h x (List.mem_cons_of_mem _ hx)⟩
 have hc:∀m:List Key2,JV.counts (m.map obj2)=3 * m.length:=fun m=>by
  induction m with
  | nil=>rfl
  | cons k r ih =>
   have:JV.count (obj2 k)=3:=rfl
   rw [List.map_cons,JV.counts,ih,this,List.length_cons];omega
 have hd:∀m:List Key2,JV.depths (m.map obj2)≤1:=fun m=>by
  induction m with
  | nil=>exact Nat.zero_le _
  | cons k r ih =>
   have:JV.depth (obj2 k)=1:=rfl
   rw [List.map_cons,JV.depths,this];omega
 have h1:(zD m).partB=true:=by
  unfold zD
  rw [JV.partB,hp m hok]
  have:qK 5 0 ⟨#[]⟩ (m.map id2) (m.map obj2).length=(decide ((0:Int)=0∧(⟨#[]⟩:ByteArray).toList=[]∧(m.map id2).length=(m.map obj2).length) && qr (m.map id2) && (m.map id2).all qW):=rfl
  rw [this,show qr (m.map id2)=true from hr,ByteArray.toList_eq]
  have h2:(m.map id2).all qW=true:=by
   rw [List.all_eq_true]
   intro x hx
   obtain ⟨k,hk,rfl⟩:=List.mem_map.1 hx
   exact iW (hok k hk)
  rw [h2]
  simp
 have h2:(zD m).count≤8192:=by unfold zD;rw [JV.count,hc];omega
 have h3:(zD m).depth≤12:=by
  unfold zD;rw [JV.depth,if_neg (by simp)];have:=hd m;omega
 rw [h1]
 simp [h2,h3]
theorem fL:∀(m:List Key2) (acc:List Key2),(∀k ∈ m,ok2 k=true)→jR (m.map id2) (m.map obj2) acc=(acc ++ m,0)
 | [],acc,_=>by simp [jR]
 | k :: r,acc,h=>by
  have e:=dQ (s:=k.1) (t:=k.2) (h k (by simp))
  rw [List.map_cons,List.map_cons,jR,show obj2 k=xO k.1 k.2 from rfl,e]
  simp only
  rw [if_neg (by simp),if_pos (by simp [id2]),fL r _ fun x hx=>h x (List.mem_cons_of_mem _ hx)]
  simp
theorem rW {m:List Key2} (hok:∀k ∈ m,ok2 k=true) (hr:qr (ids m)=true) (hl:m.length≤32):xZ (zD m)=(m,0):=by
 unfold xZ
 rw [if_neg (by rw [cx hok hr hl];simp),if_neg (by show ¬(5:Int)≠5;simp),if_neg (by show ¬32<(m.map id2).length;simp;omega)]
 show jR (m.map id2) (m.map obj2) []=_
 rw [fL m [] hok,List.nil_append]
theorem pe {k:Key2} (h:ok2 k=true):k.1.size≤300∧k.2.size≤300:=by
 obtain ⟨_,_,a,b⟩:=g9 h
 omega
end Go.Proofs.YtnlgmcapbbgelaaGreatDoor

namespace Go.Proofs.YtnlgmcapbbgelaaGreatDoor
open Go.RowKit Go.Shelf Go.Sort
theorem iY (t s:ByteArray) (w:World) (T:Nat) (ht:t.size≤4294967000) (hs:s.size≤4294967000) :
 Calls Tryz.prog 62 #[.slice (some ⟨w.heap.size,0,none⟩) 2 2] (w.alloc (.cells #[.string ⟨#[112,117,98,108,105,99]⟩,.int .u8 3,.int .i64 0,.string t,.slice none 0 0,.slice none 0 0,.string ⟨#[115,99,104,101,109,101]⟩,.int .u8 3,.int .i64 0,.string s,.slice none 0 0,.slice none 0 0] T))
  (kh [xV,schN] [txtJ t,txtJ s] (w.alloc (.cells #[.string ⟨#[112,117,98,108,105,99]⟩,.int .u8 3,.int .i64 0,.string t,.slice none 0 0,.slice none 0 0,.string ⟨#[115,99,104,101,109,101]⟩,.int .u8 3,.int .i64 0,.string s,.slice none 0 0,.slice none 0 0] T))):=by
 have:=yc #[yd xV t,yd schN s] #[yd xV t,yd schN s] [txtJ t,txtJ s] w.heap.size 0 2 (w.alloc (.cells #[.string ⟨#[112,117,98,108,105,99]⟩,.int .u8 3,.int .i64 0,.string t,.slice none 0 0,.slice none 0 0,.string ⟨#[115,99,104,101,109,101]⟩,.int .u8 3,.int .i64 0,.string s,.slice none 0 0,.slice none 0 0] T)) 0 0 ?_ (by simp) (by simp) ?_ rfl ?_ ?_ (by simp)
 · exact this
 · exact wM (T:=T) (by rw [heap_alloc_new,mN];rfl)
 · refine pj _ _ _ fun j hj=>?_
   obtain rfl:j=0:=by simp at hj;omega
   show ltOf cfM (yd schN s) (yd xV t)=false
   show decide (Lib.compareBytes schN.data.toList xV.data.toList<0)=false
   decide
 · intro i hi
   match i,hi with
   | 0,_=>exact ⟨jh _ _ _ _,by simp [txtJ,JV.wt,JV.wts,qt];omega,fun k h=>by simp [txtJ,JV.items] at h⟩
   | 1,_=>exact ⟨jh _ _ _ _,by simp [txtJ,JV.wt,JV.wts,qt];omega,fun k h=>by simp [txtJ,JV.items] at h⟩
 · intro i hi
   obtain rfl:i=0:=by simp at hi;omega
   show xV≠schN
   decide
def wR (s t:ByteArray) (w:World) (e:Ending) (w':World):Prop :=
 ∃an cn ai ci,e=.returned (.tuple #[.agg #[.int .u8 5,.int .i64 0,.string ⟨#[]⟩,.slice an 2 cn,.slice ai 2 ci],.int .i64 0]) ∧
  Rep w' w.heap.size w'.heap.size (xO s t) (.agg #[.int .u8 5,.int .i64 0,.string ⟨#[]⟩,.slice an 2 cn,.slice ai 2 ci])∧Below w.heap.size w w'
set_option maxHeartbeats 400000 in
set_option maxRecDepth 100000 in
theorem cj (s t:ByteArray) (w:World) (hs:s.size≤4294967000) (ht:t.size≤4294967000) (hk:zp s.data.toList t.data.toList=false) :
 Calls Tryz.prog 17 #[.agg #[.string s,.string t]] w fun e w'=>e=.returned (.tuple #[zeroAgg,.int .i64 3])∧Below w.heap.size w w':=by
 have HM:=Lh (dh s t ((w.alloc (.cells #[.string s,.string t] 38)).alloc (.cells #[.int .u8 0,.int .i64 0,.string ⟨#[]⟩,.slice none 0 0,.slice none 0 0] 25)) (by omega) (by omega))
 rw [hk] at HM
 have hr0:=qf (w.alloc (.cells #[.string s,.string t] 38)) (.int .u8 0) (.int .i64 0) (.string ⟨#[]⟩) (.slice none 0 0) (.slice none 0 0) 25
 rw [show (w.alloc (.cells #[.string s,.string t] 38)).heap.size=w.heap.size+1 by simp] at hr0
 have HR0:=Lh hr0
 have HB0:=Lh (show Below w.heap.size w ((w.alloc (.cells #[.string s,.string t] 38)).alloc (.cells #[.int .u8 0,.int .i64 0,.string ⟨#[]⟩,.slice none 0 0,.slice none 0 0] 25)) from ((Below.refl _ _).alloc lz _).alloc (by simp) _)
 clear hk hr0
 go_enter Tryz.func17,Tryz.ntmps17
 go_wp2_with fail
 refine HM.out.mono ?_
 rintro e w1 ⟨rfl,hb1⟩
 have hres:=qx hb1 HR0.out (by simp)
 have HRS:=Lh hres
 have HB1:=Lh (HB0.out.trans (hb1.mono (by simp;omega)))
 obtain ⟨t0,t1,t2,t3,t4⟩:=rc5 hres
 obtain ⟨s0,s1,s2,s3,s4⟩:=rf5 hres
 simp only [qs] at t0 t1 t2 t3 t4
 clear hres hb1
 go_wp2
 exact bodyPost_ret (qj Tryz.results17 _ _ (w.heap.size+1) 25 _ (0,0) _ rfl (qm (set5 _ _ _ _ _ HRS.out)) Tryz.underlying25 rfl (by kernel_rfl) _ rfl) rfl ⟨rfl,qT _ _ _ _ _ HB1.out (by omega)⟩
set_option maxHeartbeats 1000000 in
set_option maxRecDepth 100000 in
theorem yl (s t:ByteArray) (w:World) (hs:s.size≤4294967000) (ht:t.size≤4294967000) (hk:zp s.data.toList t.data.toList=true) :
 Calls Tryz.prog 17 #[.agg #[.string s,.string t]] w (wR s t w):=by
 have HM:=Lh (dh s t ((w.alloc (.cells #[.string s,.string t] 38)).alloc (.cells #[.int .u8 0,.int .i64 0,.string ⟨#[]⟩,.slice none 0 0,.slice none 0 0] 25)) (by omega) (by omega))
 rw [hk] at HM
 have hr0:=qf (w.alloc (.cells #[.string s,.string t] 38)) (.int .u8 0) (.int .i64 0) (.string ⟨#[]⟩) (.slice none 0 0) (.slice none 0 0) 25
 rw [show (w.alloc (.cells #[.string s,.string t] 38)).heap.size=w.heap.size+1 by simp] at hr0
 have HR0:=Lh hr0
 have HB0:=Lh (show Below w.heap.size w ((w.alloc (.cells #[.string s,.string t] 38)).alloc (.cells #[.int .u8 0,.int .i64 0,.string ⟨#[]⟩,.slice none 0 0,.slice none 0 0] 25)) from ((Below.refl _ _).alloc lz _).alloc (by simp) _)
 have HX0:=Lh (show ((w.alloc (.cells #[.string s,.string t] 38)).alloc (.cells #[.int .u8 0,.int .i64 0,.string ⟨#[]⟩,.slice none 0 0,.slice none 0 0] 25)).heap[w.heap.size]?=some (.cells #[.string s,.string t] 38 (0,0)) by rw [Below.heap_alloc _ _ _ (by simp)];exact heap_alloc_new w _)
 clear hk hr0
 go_enter Tryz.func17,Tryz.ntmps17
 go_wp2_with fail
 refine HM.out.mono ?_
 clear HM
 rintro e w1 ⟨rfl,hb1⟩
 have HRS:=Lh (qx hb1 HR0.out (by simp))
 have hz1:w.heap.size+2≤w1.heap.size:=by have:=hb1.size;simp at this;omega
 have hx1:w1.heap[w.heap.size]?=some (.cells #[.string s,.string t] 38 (0,0)):=by rw [hb1.block _ (by simp;omega)];exact HX0.out
 have HX1:=Lh hx1
 have HB1:=Lh (HB0.out.trans (hb1.mono (by simp;omega)))
 clear hb1 hx1 HX0 HB0 HR0
 have HC:=Lh (show ∀w':World,Below w1.heap.size w1 w'→w'.cell? ⟨w.heap.size,0,none⟩=some (.string s)∧w'.cell? ⟨w.heap.size,1,none⟩=some (.string t)∧w.heap.size<w'.heap.size from fun w' h=>by
  have:=h.size
  exact ⟨by rw [h.cell (by show w.heap.size<_;omega)];simp [World.cell?,HX1.out],by rw [h.cell (by show w.heap.size<_;omega)];simp [World.cell?,HX1.out],by omega⟩)
 have HT:=Lh (show ∀(u:ByteArray) (w':World),Below w1.heap.size w1 w'→Calls Tryz.prog 65 #[.string u] w' (fun e w''=>e=.returned (.agg #[.int .u8 3,.int .i64 0,.string u,.slice none 0 0,.slice none 0 0])∧Below w1.heap.size w1 w''∧w''.cell? ⟨w.heap.size,0,none⟩=some (.string s)∧w''.cell? ⟨w.heap.size,1,none⟩=some (.string t)∧w.heap.size<w''.heap.size) from fun u w' h=>by
  refine (wU u w').mono ?_
  rintro e w'' ⟨rfl,rfl⟩
  have hb:Below w1.heap.size w1 (w'.alloc (.cells #[.int .u8 3,.int .i64 0,.string u,.slice none 0 0,.slice none 0 0] 25)):=h.alloc h.size _
  exact ⟨rfl,hb,HC.out _ hb⟩)
 have HO:=Lh (show ∀(w':World),Below w1.heap.size w1 w'→Calls Tryz.prog 62 #[.slice (some ⟨w'.heap.size,0,none⟩) 2 2] (w'.alloc (.cells #[.string ⟨#[112,117,98,108,105,99]⟩,.int .u8 3,.int .i64 0,.string t,.slice none 0 0,.slice none 0 0,.string ⟨#[115,99,104,101,109,101]⟩,.int .u8 3,.int .i64 0,.string s,.slice none 0 0,.slice none 0 0] 98)) (fun e w''=>∃an cn ai ci,e=.returned (.tuple #[.agg #[.int .u8 5,.int .i64 0,.string ⟨#[]⟩,.slice an 2 cn,.slice ai 2 ci],.int .i64 0])∧Rep w'' w1.heap.size w''.heap.size (xO s t) (.agg #[.int .u8 5,.int .i64 0,.string ⟨#[]⟩,.slice an 2 cn,.slice ai 2 ci])∧Below w1.heap.size w1 w''∧w''.cell? ⟨w.heap.size,0,none⟩=some (.string s)∧w''.cell? ⟨w.heap.size,1,none⟩=some (.string t)∧w''.rowIs (w.heap.size+1) 25 5 (qs (.int .u8 0) (.int .i64 0) (.string ⟨#[]⟩) (.slice none 0 0) (.slice none 0 0))) from fun w' h=>by
  refine (iY t s w' _ ht hs).mono ?_
  rintro e w'' ⟨an,cn,ai,ci,rfl,hr,hb⟩
  have hb2:Below w1.heap.size w1 w'':=(h.alloc h.size _).trans (hb.mono (by have:=h.size;simp;omega))
  have hc:=HC.out _ hb2
  exact ⟨an,cn,ai,ci,rfl,Rep.carry (by have:=h.size;simp;omega) lz (fun _ _ _=>rfl) _ _ hr,hb2,hc.1,hc.2.1,qx hb2 HRS.out (by omega)⟩)
 have hbz:Below w1.heap.size w1 w1.drew:=(Below.refl _ _).drew
 obtain ⟨q0,q1,hzq⟩:=HC.out w1 (Below.refl _ _)
 go_wp2_with fail
 go_region_held3 (fun w'=>w'.cell? ⟨w.heap.size,0,none⟩=some (.string s)∧w'.cell? ⟨w.heap.size,1,none⟩=some (.string t)) (first|(with_reducible exact ⟨q0,q1⟩)|(with_reducible exact ⟨(qh _ hzq).trans q0,(qh _ hzq).trans q1⟩)|(go_keep;done)) (first|(go_at_call 65;(with_reducible refine (HT.out _ _ hbz).mono ?_);rintro e w2 ⟨rfl,hbz,q0,q1,hzq⟩)|(go_at_call 62;(with_reducible refine (HO.out _ hbz).mono ?_);rintro e w5 ⟨an,cn,ai,ci,rfl,hr5,hb5,q0,q1,hres⟩;obtain ⟨t0,t1,t2,t3,t4⟩:=rc5 hres;obtain ⟨s0,s1,s2,s3,s4⟩:=rf5 hres;have HRS5:=Lh hres;have HR5:=Lh hr5;have HB5:=Lh hb5;clear hres hr5 hb5;simp only [qs] at t0 t1 t2 t3 t4))
 go_wp2
 refine bodyPost_ret (qj Tryz.results17 _ _ (w.heap.size+1) 25 _ (0,0) _ rfl (qm (set5 _ _ _ _ _ HRS5.out)) Tryz.underlying25 rfl (by kernel_rfl) _ rfl) rfl ⟨an,cn,ai,ci,rfl,?_,qT _ _ _ _ _ (HB1.out.trans (HB5.out.mono (by omega))) (by omega)⟩
 exact Rep.carry (by omega) (show w5.heap.size≤_ by simp [World.setCell]) (fun j hj _=>jC _ _ _ _ _ (by omega)) _ _ HR5.out
end Go.Proofs.YtnlgmcapbbgelaaGreatDoor

namespace Go.Proofs.YtnlgmcapbbgelaaGreatDoor
open Go.RowKit
theorem pQ (l:List UInt8) (h:∀c ∈ l,xJ c):ym l=l:=by
 induction l with
 | nil=>rfl
 | cons c r ih =>
  have hc:=h c (by simp)
  have e:ym (c :: r)=pp c ++ ym r:=by simp [ym]
  rw [e,ih fun d hd=>h d (by simp [hd])]
  unfold pp xJ at *
  rw [if_neg (by omega)];rfl
theorem rY {s t:ByteArray} (h:zp s.data.toList t.data.toList=true):(xO s t).form false:=by
 obtain ⟨h1,h2,_,_⟩:=g9 h
 obtain ⟨n1,n2,n3⟩:=m6
 have e:∀i (hi:i < [xV,schN].length),qW [xV,schN][i]=true:=fun i hi=>by
  match i,hi with
  | 0,_=>exact n1
  | 1,_=>exact n2
 unfold xO JV.form
 refine ⟨.inr (.inr (.inr (.inr ⟨rfl,rfl,e⟩))),?_⟩
 unfold JV.forms JV.forms JV.forms
 unfold txtJ JV.form
 exact ⟨⟨.inr (.inr (.inl ⟨rfl,h2⟩)),by unfold JV.forms;trivial⟩,⟨.inr (.inr (.inl ⟨rfl,h1⟩)),by unfold JV.forms;trivial⟩,trivial⟩
theorem si {s t:ByteArray} (h:zp s.data.toList t.data.toList=true):(xO s t).enc=jG s.data.toList t.data.toList:=by
 obtain ⟨h1,h2⟩:=fC h
 have e1:=pQ _ (pk h1).1
 have e2:=pQ _ (fW h2).1
 have e3:xK xV.data.toList=[34,112,117,98,108,105,99,34]:=by decide
 have e4:xK schN.data.toList=[34,115,99,104,101,109,101,34]:=by decide
 unfold xO txtJ
 simp [JV.enc,JV.encO,sep,e3,e4,jG,lK,lV]
 simp [xK,e1,e2]
end Go.Proofs.YtnlgmcapbbgelaaGreatDoor

namespace Go.Proofs.YtnlgmcapbbgelaaGreatDoor
open Go.RowKit Go.WideMaps Go.Maps
def zS (o m lo hi:Nat) (v:JV) (an ai:Option Addr) (cn ci:Nat) (st:PS) (w:World):Prop :=
 PickAt o m lo hi v an ai cn ci st w∨(xe o st.err w∧o<w.heap.size∧m=o∧hi=0)
theorem zS.lt {o m lo hi:Nat} {v:JV} {an ai:Option Addr} {cn ci:Nat} {st:PS} {w:World} (h:zS o m lo hi v an ai cn ci st w):o<w.heap.size∧m<w.heap.size∧hi≤w.heap.size:=by
 rcases h with h|⟨-,h2,rfl,rfl⟩
 · exact ⟨qz h.obj,by obtain ⟨D,n,h1,_⟩:=h.map;exact h1.lt,h.le⟩
 · exact ⟨h2,h2,Nat.zero_le _⟩
theorem zS.below {o m lo hi:Nat} {v:JV} {an ai:Option Addr} {cn ci:Nat} {st:PS} {w w':World} (h:zS o m lo hi v an ai cn ci st w) (hb:Below w.heap.size w w'):zS o m lo hi v an ai cn ci st w':=by
 rcases h with h|⟨h1,h2,h3,h4⟩
 · exact .inl (h.below hb)
 · exact .inr ⟨h1.below hb h2,Nat.lt_of_lt_of_le h2 hb.size,h3,h4⟩
theorem zS.touch {o m lo hi g:Nat} {v:JV} {an ai:Option Addr} {cn ci:Nat} {st:PS} {w w':World} (h:zS o m lo hi v an ai cn ci st w) (hT:Touch (fun b=>b=g) w w') (ho:g≠o) (hm:g≠m) (hh:hi≤g):zS o m lo hi v an ai cn ci st w':=by
 rcases h with h|⟨h1,h2,h3,h4⟩
 · exact .inl (h.touch hT ho hm hh)
 · exact .inr ⟨h1.touch hT h2 (Ne.symm ho),Nat.lt_of_lt_of_le h2 hT.size,h3,h4⟩
theorem zS.cells {o m lo hi:Nat} {v:JV} {an ai:Option Addr} {cn ci:Nat} {st:PS} {w:World} (h:zS o m lo hi v an ai cn ci st w):∃k,w.cell? ⟨o,6,none⟩=some (.int .i64 st.err)∧w.cell? ⟨o,0,none⟩=some (.int .u8 k)∧(st.err=0→k=5):=by
 rcases h with h|⟨⟨h1,h2,k,h3⟩,-⟩
 · exact ⟨5,qq h.obj rfl,(qq (j:=0) h.obj rfl).trans (by rw [h.kind];rfl),fun _=>rfl⟩
 · exact ⟨k,h2,h3,fun e=>absurd e h1⟩
theorem oa {o m lo hi:Nat} {v:JV} {an ai:Option Addr} {cn ci:Nat} {st:PS} {w:World} (h:zS o m lo hi v an ai cn ci st w) :
 Calls Tryz.prog 98 #[.pointer (some ⟨o,0,none⟩)] w fun e w'=>e=.returned (.int .i64 st.err)∧w=w':=by
 obtain ⟨k,h1,h2,h3⟩:=h.cells
 exact zZ o st.err k w h1 h2 h3
def pZ (o m lo hi:Nat) (v:JV) (an ai:Option Addr) (cn ci:Nat) (st:PS) (w w':World):Prop :=
 zS o m lo hi v an ai cn ci st w'∧Touch (fun b=>b=o∨b=m) w w'
theorem uJ {v:JV} {y:ByteArray} {st:PS} (h:st.err≠0):qy v y st=(⟨#[]⟩,st):=by unfold qy;rw [if_pos h]
theorem cv {v:JV} {y:ByteArray} {l h:Int} {st:PS} (he:st.err≠0):qD v y l h st=(0,st):=by unfold qD;rw [if_pos he]
theorem cy {v:JV} {y:ByteArray} {most:Nat} {st:PS} (h:st.err≠0):qw v y most st=(qO,st):=by unfold qw;rw [if_pos h]
theorem so {st:PS} {e:Int} (h:st.err≠0):st.fail e=st:=by unfold PS.fail;rw [if_neg h]
theorem sQ {o m lo hi:Nat} {v:JV} {an ai:Option Addr} {cn ci:Nat} {st:PS} {w:World} (y:ByteArray) (h:zS o m lo hi v an ai cn ci st w) (hy:y.size≤4294967296) (ha:st.asked.length≤4294967296) :
 Calls Tryz.prog 53 #[.pointer (some ⟨o,0,none⟩),.string y] w fun e w'=>e=.returned (.string (qy v y st).1)∧pZ o m lo hi v an ai cn ci (qy v y st).2 w w':=by
 rcases h with h|⟨h1,h2,h3,h4⟩
 · exact (yD o m lo hi v an ai cn ci y st w h hy ha).mono fun e w' ⟨e1,e2,e3⟩=>⟨e1,.inl e2,e3⟩
 · refine (ue o st.err y w h1).mono fun e w' ⟨e1,e2⟩=>?_
   subst e2
   rw [uJ h1.1]
   exact ⟨e1,.inr ⟨h1,h2,h3,h4⟩,Touch.refl _ _⟩
theorem tm {o m lo hi:Nat} {v:JV} {an ai:Option Addr} {cn ci:Nat} {st:PS} {w:World} (y:ByteArray) (l u:Int) (h:zS o m lo hi v an ai cn ci st w) (hy:y.size≤4294967296) (ha:st.asked.length≤4294967296) :
 Calls Tryz.prog 55 #[.pointer (some ⟨o,0,none⟩),.string y,.int .i64 l,.int .i64 u] w fun e w'=>e=.returned (.int .i64 (qD v y l u st).1)∧pZ o m lo hi v an ai cn ci (qD v y l u st).2 w w':=by
 have hlt:=h.lt
 rcases h with h|⟨h1,h2,h3,h4⟩
 · exact (sh o m lo hi v an ai cn ci y l u st w h hy ha hlt.2.1 hlt.1).mono fun e w' ⟨e1,e2,e3⟩=>⟨e1,.inl e2,e3⟩
 · refine (iJ o st.err y l u w h1 h2).mono fun e w' ⟨e1,e2⟩=>?_
   rw [cv h1.1]
   exact ⟨e1,.inr ⟨h1.below e2 h2,Nat.lt_of_lt_of_le h2 e2.size,h3,h4⟩,Touch.of_below e2 lz⟩
def uK (v:JV) (y:ByteArray) (most:Nat) (st:PS) (w:World) (e:Ending) (w':World):Prop :=
 ∃an' cn' ai' ci',e=.returned (.agg #[.int .u8 (qw v y most st).1.kind,.int .i64 (qw v y most st).1.n,.string (qw v y most st).1.t,.slice an' (qw v y most st).1.names.length cn',.slice ai' (qw v y most st).1.items.length ci'])∧Rep w' w.heap.size w'.heap.size (qw v y most st).1 (.agg #[.int .u8 (qw v y most st).1.kind,.int .i64 (qw v y most st).1.n,.string (qw v y most st).1.t,.slice an' (qw v y most st).1.names.length cn',.slice ai' (qw v y most st).1.items.length ci'])
theorem pX {o m lo hi:Nat} {v:JV} {an ai:Option Addr} {cn ci:Nat} {st:PS} {w:World} (y:ByteArray) (most:Nat) (h:zS o m lo hi v an ai cn ci st w) (hy:y.size≤4294967296) (ha:st.asked.length≤4294967296) :
 Calls Tryz.prog 58 #[.pointer (some ⟨o,0,none⟩),.string y,.int .i64 most] w fun e w'=>uK v y most st w e w'∧pZ o m lo hi v an ai cn ci (qw v y most st).2 w w':=by
 rcases h with h|⟨h1,h2,h3,h4⟩
 · exact (su o m lo hi v an ai cn ci y most st w h hy ha).mono fun e w' ⟨⟨a,b,c,d,e1,e2⟩,e3,e4⟩=>⟨⟨a,b,c,d,e1,e2⟩,.inl e3,e4⟩
 · refine (iK o st.err y most w h1 h2).mono fun e w' ⟨e1,e2⟩=>?_
   unfold uK
   rw [cy h1.1]
   exact ⟨⟨none,0,none,0,e1,wP _ _ _⟩,.inr ⟨h1.below e2 h2,Nat.lt_of_lt_of_le h2 e2.size,h3,h4⟩,Touch.of_below e2 lz⟩
theorem kH {o m lo hi:Nat} {v:JV} {an ai:Option Addr} {cn ci:Nat} {st:PS} {w:World} (e:Int) (h:zS o m lo hi v an ai cn ci st w) :
 Calls Tryz.prog 54 #[.pointer (some ⟨o,0,none⟩),.int .i64 e] w fun r w'=>r=.returned (.tuple #[])∧pZ o m lo hi v an ai cn ci (st.fail e) w w':=by
 rcases h with h|⟨h1,h2,h3,h4⟩
 · exact (rZ o m lo hi v an ai cn ci e st w h).mono fun r w' ⟨e1,e2,e3⟩=>⟨e1,.inl e2,e3⟩
 · refine (tp o st.err e w h1).mono fun r w' ⟨e1,e2⟩=>?_
   subst e2
   rw [so h1.1]
   exact ⟨e1,.inr ⟨h1,h2,h3,h4⟩,Touch.refl _ _⟩
theorem lW {o m lo hi:Nat} {v:JV} {an ai:Option Addr} {cn ci:Nat} {st:PS} {w:World} (h:zS o m lo hi v an ai cn ci st w) (hv:v.wt≤4294967296) :
 Calls Tryz.prog 60 #[.pointer (some ⟨o,0,none⟩)] w fun e w'=>e=.returned (.int .i64 (qu v st))∧w=w':=by
 rcases h with h|⟨⟨h1,c6,k,c0⟩,h2⟩
 · exact fB o m lo hi v an ai cn ci st w h (fun i hi=>by have h1:=kI v.names i hi;have h2:=v.wt_eq;omega)
 · refine (uQ o st.err k w h1 c6 c0).mono fun e w' ⟨e1,e2⟩=>⟨?_,e2⟩
   rw [e1]
   unfold qu
   rw [if_pos h1]
def st0 (v:JV):PS:=if v.kind=5 then ⟨[],0⟩ else ⟨[],10⟩
def bz (C:JV→Prop) (st:PS) (w:World) (e:Ending) (w':World):Prop :=
 ∃u o m lo hi an ai cn ci,C u∧u.wt≤4294967296∧e=.returned (.pointer (some ⟨o,0,none⟩))∧zS o m lo hi u an ai cn ci st w'∧w.heap.size≤o∧w.heap.size≤m∧Below w.heap.size w w'
def xM (v u:JV):Prop:=u=if v.kind=5 then v else qO
theorem sZ:qO.wt≤4294967296:=by rw [JV.wt_eq];decide
theorem iG {v:JV} {x:Value} {w:World} {lo hi:Nat} {C:JV→Prop} (hR:Rep w lo hi v x) (hk:v.kind≠5) (hC:C qO):Calls Tryz.prog 52 #[x] w (bz C (st0 v) w):=by
 obtain ⟨an,cn,ai,ci,rfl,-⟩:=hR.parts
 refine (pg v.kind v.n v.t _ _ w hk).mono ?_
 rintro e w' ⟨o,e1,e2,e3,e4,e5⟩
 refine ⟨qO,o,o,0,0,none,none,0,0,hC,sZ,e1,?_,e2,e2,e5⟩
 unfold st0
 rw [if_neg hk]
 exact .inr ⟨e4,e3,rfl,rfl⟩
theorem sX {v:JV} {x:Value} {w:World} {lo hi:Nat} (hN:v.wt≤4294967296) (hlo:0<lo) (hhi:hi≤w.heap.size) (hR:Rep w lo hi v x) (hp:v.kind=5→qr v.names=true∧v.names.length=v.items.length):Calls Tryz.prog 52 #[x] w (bz (xM v) (st0 v) w):=by
 by_cases hk:v.kind=5
 · refine (ge v x w lo hi hN hhi hR hk (hp hk).1 (hp hk).2 (fun _ _=>.inl hlo)).mono ?_
   rintro e w' ⟨o,m,lo2,hi2,an,ai,cn,ci,e1,e2,e3,e4,e5⟩
   refine ⟨v,o,m,lo2,hi2,an,ai,cn,ci,?_,hN,e1,?_,e3,e4,e5⟩
   · unfold xM;rw [if_pos hk]
   · unfold st0;rw [if_pos hk];exact .inl e2
 · exact iG hR hk (by unfold xM;rw [if_neg hk])
end Go.Proofs.YtnlgmcapbbgelaaGreatDoor

namespace Go.Proofs.YtnlgmcapbbgelaaGreatDoor
open Go.RowKit
structure AuthV where
 thr:Int
 ids:List ByteArray
deriving DecidableEq
def zQ:AuthV:=⟨0,[]⟩
def qe (a:AuthV):Bool:=zM a.thr a.ids
def qQ:ByteArray:=⟨#[107,101,121,105,100,115]⟩
def thrN:ByteArray:=⟨#[116,104,114,101,115,104,111,108,100]⟩
def lY (l:List JV):JV:=.mk 4 0 ⟨#[]⟩ [] l
def qC (l:List ByteArray):JV:=lY (l.map txtJ)
def wQ (a:AuthV):List NJ:=[(qQ,qC a.ids),(thrN,xF a.thr)]
def qZ (a:AuthV):JV:=ky (wQ a)
def qp (v:JV) (y:ByteArray) (most:Nat) (st:PS):List ByteArray × PS :=
 if st.err≠0 then ([],st) else match v.look y with
 | none=>([],⟨st.asked,6⟩)
 | some it=>if it.kind≠4 then ([],⟨st.asked,10⟩) else if most<it.items.length then ([],⟨st.asked,5⟩) else if it.items.all (fun x=>decide (x.kind=3)) then (it.items.map JV.t,⟨y :: st.asked,0⟩) else ([],⟨st.asked,10⟩)
def gJ (v:JV) (st:PS):PS:=(if (qp v qQ 16 st).1=[] then (qp v qQ 16 st).2.fail 4 else (qp v qQ 16 st).2).fail (qH [] (qp v qQ 16 st).1)
def cg (v:JV) (st:PS):Int × PS:=qD v thrN 1 ((qp v qQ 16 st).1.length:Int) (gJ v st)
def j9 (v:JV) (st:PS):AuthV × PS:=(if (cg v st).2.err≠0 then zQ else ⟨(cg v st).1,(qp v qQ 16 st).1⟩,(cg v st).2)
def uV (v:JV):AuthV × Int:=if qu v (j9 v ⟨[],0⟩).2≠0 then (zQ,qu v (j9 v ⟨[],0⟩).2) else ((j9 v ⟨[],0⟩).1,0)
def zh (v:JV):AuthV × Int:=if v.mayB=false then (zQ,3) else if v.kind≠5 then (zQ,10) else uV v
theorem dX {l:List JV} (h:∀x ∈ l,x.partB=true):(lY l).partB=true:=by
 rw [JV.partB_eq]
 show (qK 4 0 ⟨#[]⟩ [] l.length && JV.partsB l)=true
 rw [yL l h]
 unfold qK
 rw [if_neg (by decide),if_neg (by decide),if_neg (by decide),if_pos rfl]
 have h2:(⟨#[]⟩:ByteArray).toList=[]:=by rw [ByteArray.toList_eq]
 simp [h2]
theorem pJ:qr [qQ,thrN]=true∧qW qQ=true∧qW thrN=true∧qQ≠thrN:=by
 refine ⟨by kernel_rfl,?_,?_,by decide⟩
 all_goals
  refine zn ?_ (by decide)
  intro c hc
  unfold xJ
  revert c
  decide
theorem xz {a:AuthV} (h:qe a=true):(1≤a.ids.length∧a.ids.length≤16)∧(1≤a.thr∧a.thr≤a.ids.length)∧qH [] a.ids=0:=by
 unfold qe zM at h
 simp only [Bool.and_eq_true,decide_eq_true_eq] at h
 exact ⟨⟨h.1.1,h.1.2.1⟩,h.1.2.2,h.2⟩
theorem jJ:∀(l seen:List ByteArray),qH seen l=0→∀x ∈ l,jP x=true
 | [],_,_,x,hx=>by simp at hx
 | y :: r,seen,h,x,hx=>by
  unfold qH at h
  split at h
  · rename_i h1
    split at h
    · cases h
    · rcases List.mem_cons.1 hx with e|e
      · rw [e];exact h1
      · exact jJ r _ h x e
  · cases h
theorem kU {x:ByteArray} (h:jP x=true):qW x=true∧x.size=64:=by
 unfold jP at h
 simp only [Bool.and_eq_true,decide_eq_true_eq] at h
 refine ⟨zn ?_ (by omega),h.1⟩
 intro c hc
 have h2:=List.all_eq_true.1 (by unfold jo at h;exact h.2) c hc
 unfold zR at h2
 unfold xJ
 simp at h2 ⊢
 omega
theorem dJ (a:AuthV):(qZ a).look qQ=some (qC a.ids)∧(qZ a).look thrN=some (xF a.thr):=by
 have h:=pJ.2.2.2
 constructor
 · show zX [qQ,thrN] [qC a.ids,xF a.thr] qQ=_
   simp [zX]
 · show zX [qQ,thrN] [qC a.ids,xF a.thr] thrN=_
   simp [zX,h]
theorem uW {v:JV} {y:ByteArray} {l:List ByteArray} {most:Nat} {a:List ByteArray} (h:v.look y=some (qC l)) (hl:l.length≤most):qp v y most ⟨a,0⟩=(l,⟨y :: a,0⟩):=by
 unfold qp
 rw [if_neg (by simp),h]
 show (if (qC l).kind≠4 then _ else _:List ByteArray × PS)=_
 have hi:(qC l).items=l.map txtJ:=rfl
 rw [if_neg (by simp [qC,lY,JV.kind]),hi,if_neg (by rw [List.length_map];omega),if_pos (by simp [txtJ,JV.kind])]
 have hm:(l.map txtJ).map JV.t=l:=by rw [List.map_map];exact (List.map_congr_left fun x _=>rfl).trans (List.map_id l)
 rw [hm]
theorem rG {a:AuthV} (h:qe a=true):uV (qZ a)=(a,0):=by
 obtain ⟨hl,ht,hi⟩:=xz h
 obtain ⟨e1,e2⟩:=dJ a
 have p1:qp (qZ a) qQ 16 ⟨[],0⟩=(a.ids,⟨[qQ],0⟩):=uW e1 hl.2
 have hne:¬a.ids=[]:=fun e=>by rw [e] at hl;simp at hl
 have p2:gJ (qZ a) ⟨[],0⟩=⟨[qQ],0⟩:=by
  unfold gJ
  rw [p1]
  dsimp only
  rw [if_neg hne,hi]
  rfl
 have p3:cg (qZ a) ⟨[],0⟩=(a.thr,⟨[thrN,qQ],0⟩):=by
  unfold cg
  rw [p1,p2]
  exact pm e2 ht.1 ht.2
 have p4:j9 (qZ a) ⟨[],0⟩=(a,⟨[thrN,qQ],0⟩):=by
  unfold j9
  rw [p3,p1]
  rfl
 have p5:qu (qZ a) ⟨[thrN,qQ],0⟩=0:=by
  unfold qu
  rw [if_neg (by simp),if_pos]
  simp [qZ,ky,JV.names,wQ]
 unfold uV
 rw [p4,p5,if_neg (by simp)]
theorem yr {a:AuthV} (h:qe a=true):(qZ a).partB=true∧(qZ a).count≤40∧(qZ a).depth≤2:=by
 obtain ⟨hl,ht,hi⟩:=xz h
 obtain ⟨n1,n2,n3,n4⟩:=pJ
 have hx:=jJ _ _ hi
 have h0:∀x ∈ a.ids.map txtJ,x.partB=true∧x.count≤1∧x.depth≤0:=fun x hx'=>by
  obtain ⟨b,hb,rfl⟩:=List.mem_map.1 hx'
  have:=uZ b
  exact ⟨yN (kU (hx b hb)).1,Nat.le_of_eq this.1,Nat.le_of_eq this.2⟩
 have hc:(qC a.ids).count≤17:=by
  rw [JV.count_eq]
  have:=counts_le 1 (a.ids.map txtJ) fun x hx'=>(h0 x hx').2.1
  rw [List.length_map] at this
  show 1+JV.counts (a.ids.map txtJ)≤_
  omega
 have hd:(qC a.ids).depth≤1:=by
  rw [JV.depth_eq]
  have:=vx 0 (a.ids.map txtJ) fun x hx'=>(h0 x hx').2.2
  rw [if_neg (by simp [qC,lY,JV.kind])]
  show JV.depths (a.ids.map txtJ)+1≤_
  omega
 have hp:∀p ∈ wQ a,qW p.1=true∧p.2.partB=true∧p.2.count≤17∧p.2.depth≤1:=fun p hp=>by
  simp only [wQ,List.mem_cons,List.not_mem_nil,or_false] at hp
  have:=la a.thr
  rcases hp with rfl|rfl
  · exact ⟨n2,dX fun x hx'=>(h0 x hx').1,hc,hd⟩
  · exact ⟨n3,fP _,Nat.le_trans (Nat.le_of_eq this.1) (by decide),Nat.le_trans (Nat.le_of_eq this.2) (by decide)⟩
 refine ⟨yR ⟨n1,fun p h=>⟨(hp p h).1,(hp p h).2.1⟩⟩,?_,wL 1 fun p h=>(hp p h).2.2.2⟩
 have:=wD 17 fun p h=>(hp p h).2.2.1
 have e:(wQ a).length=2:=rfl
 rw [e] at this
 show (ky (wQ a)).count≤40
 omega
theorem rB {a:AuthV} (h:qe a=true):(qZ a).mayB=true:=by
 obtain ⟨h1,h2,h3⟩:=yr h
 rw [JV.mayB_iff,h1,decide_eq_true (by omega),decide_eq_true (by omega)];rfl
end Go.Proofs.YtnlgmcapbbgelaaGreatDoor

namespace Go.Proofs.YtnlgmcapbbgelaaGreatDoor
open Go.RowKit Go.WideMaps Go.Maps
def zm (it:JV) (most:Nat):Int:=if it.kind≠4 then 10 else if most<it.items.length then 5 else 0
def zg (it:JV) (most:Nat):Int:=if zm it most≠0 then zm it most else if it.items.all (fun x=>decide (x.kind=3)) then 0 else 10
def vv (it:JV) (most:Nat):List ByteArray:=if zg it most=0 then it.items.map JV.t else []
theorem cp {it:JV} {most:Nat} (e:zg it most=0):it.kind=4∧¬most<it.items.length∧it.items.all (fun x=>decide (x.kind=3))=true:=by
 unfold zg zm at e
 by_cases h1:it.kind=4
 · by_cases h2:most<it.items.length
   · simp [h1,h2] at e
   · cases h3:it.items.all (fun x=>decide (x.kind=3)) with
     | true=>exact ⟨h1,h2,rfl⟩
     | false=>simp [h1,h2,h3] at e
 · simp [h1] at e
theorem cf {it:JV} {a:List ByteArray} {most:Nat} {X:List ByteArray × PS} (e:¬zg it most=0) :
 (if it.kind≠4 then ([],(⟨a,10⟩:PS)) else if most<it.items.length then ([],⟨a,5⟩) else if it.items.all (fun x=>decide (x.kind=3)) then X else ([],⟨a,10⟩))=([],⟨a,zg it most⟩):=by
 unfold zg zm at e ⊢
 by_cases h1:it.kind=4
 · by_cases h2:most<it.items.length
   · simp [h1,h2]
   · cases h3:it.items.all (fun x=>decide (x.kind=3)) with
     | true=>simp [h1,h2,h3] at e
     | false=>simp [h1,h2]
 · simp [h1]
theorem pK {it:JV} {most:Nat} (h:zm it most≠0):zg it most=zm it most:=by unfold zg;rw [if_pos h]
set_option maxHeartbeats 1000000 in
set_option maxRecDepth 100000 in
theorem rP (it:JV) (most:Nat) (an' ai':Option Addr) (cn' ci':Nat) (w:World) :
 Calls Tryz.prog 209 #[.agg #[.int .u8 it.kind,.int .i64 it.n,.string it.t,.slice an' it.names.length cn',.slice ai' it.items.length ci'],.int .i64 most] w fun e w'=>e=.returned (.tuple #[if zm it most=0 then .slice ai' it.items.length ci' else .slice none 0 0,.int .i64 (zm it most)])∧Below w.heap.size w w':=by
 have HB:=Lh (show Below w.heap.size w (w.alloc (.cells #[.int .u8 it.kind,.int .i64 it.n,.string it.t,.slice an' it.names.length cn',.slice ai' it.items.length ci'] 25)) from (Below.refl _ _).alloc lz _)
 by_cases hk:it.kind=4
 · by_cases h1:most<it.items.length
   · have HV:=Lh (show zm it most=5 by unfold zm;rw [if_neg (by simp [hk]),if_pos h1])
     rw [HV.out,if_neg (show ¬(5:Int)=0 by decide)]
     rw [hk] at HB ⊢
     have h1':decide ((most:Int)<(it.items.length:Int))=true:=by simpa using h1
     clear hk
     go_enter Tryz.func209,Tryz.ntmps209
     go_wp2
     go_ret2
     exact ⟨rfl,HB.out⟩
   · have HV:=Lh (show zm it most=0 by unfold zm;rw [if_neg (by simp [hk]),if_neg h1])
     rw [HV.out,if_pos rfl]
     rw [hk] at HB ⊢
     have h1':decide ((most:Int)<(it.items.length:Int))=false:=by simpa using h1
     clear hk
     go_enter Tryz.func209,Tryz.ntmps209
     go_wp2
     go_ret2
     exact ⟨rfl,HB.out⟩
 · have HV:=Lh (show zm it most=10 by unfold zm;rw [if_pos hk])
   rw [HV.out,if_neg (show ¬(10:Int)=0 by decide)]
   have hk':(it.kind != 4)=true:=by simpa using hk
   clear hk
   go_enter Tryz.func209,Tryz.ntmps209
   go_wp2
   go_ret2
   exact ⟨rfl,HB.out⟩
def kM (it:JV) (most:Nat) (w:World) (e:Ending) (w':World):Prop :=
 ∃a c,e=.returned (.tuple #[.slice a (vv it most).length c,.int .i64 (zg it most)])∧qv w' w.heap.size w'.heap.size a (vv it most)∧Below w.heap.size w w'
theorem fR {it:JV} {most:Nat} {w w':World} {er:Int} (h:zg it most=er) (h0:er≠0) (hb:Below w.heap.size w w'):kM it most w (.returned (.tuple #[.slice none 0 0,.int .i64 er])) w':=by
 unfold kM vv
 rw [h,if_neg h0]
 exact ⟨none,0,rfl,.inl rfl,hb⟩
set_option maxHeartbeats 2000000 in
set_option maxRecDepth 100000 in
theorem rH (it:JV) (most p1:Nat) (an' ai':Option Addr) (cn' ci' lo:Nat) (w:World) (hN:it.wt≤4294967296) (hR:Rep w lo w.heap.size it (.agg #[.int .u8 it.kind,.int .i64 it.n,.string it.t,.slice an' it.names.length cn',.slice ai' it.items.length ci'])) (c1:w.cell? ⟨p1,0,none⟩=some (.int .i64 most)) :
 Calls Tryz.prog 208 #[.agg #[.int .u8 it.kind,.int .i64 it.n,.string it.t,.slice an' it.names.length cn',.slice ai' it.items.length ci'],.pointer (some ⟨p1,0,none⟩)] w (kM it most w):=by
 obtain ⟨an2,cn2,ai2,ci2,hx,-,-,-,h4⟩:=hR.parts
 simp only [Value.agg.injEq,Array.mk.injEq,List.cons.injEq,Value.slice.injEq,true_and,and_true] at hx
 obtain ⟨⟨rfl,rfl⟩,rfl,rfl⟩:=hx
 obtain ⟨W,hW⟩:∃W,W=w.alloc (.cells #[.int .u8 it.kind,.int .i64 it.n,.string it.t,.slice an' it.names.length cn',.slice ai' it.items.length ci'] 25):=⟨_,rfl⟩
 have hb:Below w.heap.size w W:=by rw [hW];exact (Below.refl _ _).alloc lz _
 have d1:W.cell? ⟨p1,0,none⟩=some (.int .i64 most):=by rw [hb.cell (World.block_lt_of_cell? w _ c1)];exact c1
 have hx0:W.heap[w.heap.size]?=some (.cells #[.int .u8 it.kind,.int .i64 it.n,.string it.t,.slice an' it.names.length cn',.slice ai' it.items.length ci'] 25 (0,0)):=by rw [hW];exact heap_alloc_new w _
 have HI:=Lh (rP it most an' ai' cn' ci' W)
 have HBW:=Lh hb
 have H4:=Lh h4
 have HW:=Lh hW
 have HLN:=Lh (show it.items.length≤4294967296 by have:=it.wt_bd;omega)
 obtain ⟨x0,x1,x2,x3,x4⟩:=bx5 hx0
 clear hb c1 hW h4 hR hx0 hN
 obtain ⟨nn,hnn⟩:∃nn,nn=it.items.length:=⟨_,rfl⟩
 rw [← hnn] at HI HLN x4 ⊢
 rw [← hnn] at HW
 have HNN:=Lh hnn
 clear hnn
 by_cases hie:zm it most=0
 case neg =>
  have HV:=Lh (pK hie)
  obtain ⟨er,her⟩:∃er,er=zm it most:=⟨_,rfl⟩
  rw [if_neg hie,← her] at HI
  rw [← her] at HV hie
  have h1:(er != 0)=true:=by simpa using hie
  have HNE:=Lh hie
  clear hie her
  go_enter Tryz.func208,Tryz.ntmps208
  go_upto_region 1 with fail
  rw [← HW.out]
  go_wp2_with fail
  refine HI.out.mono ?_
  rintro e w1 ⟨rfl,hb1⟩
  have HB1:=Lh (HBW.out.trans (hb1.mono HBW.out.size))
  clear hb1
  go_wp2
  go_ret2
  exact fR HV.out HNE.out HB1.out
 have HV:=Lh (show zg it most=if it.items.all (fun x=>decide (x.kind=3)) then 0 else 10 by unfold zg;rw [if_neg (by simp [hie])])
 rw [if_pos hie,hie] at HI
 clear hie
 obtain ⟨i2,hi2,hx0,hx1,hx2⟩:=info_parts vO
 go_enter Tryz.func208,Tryz.ntmps208
 go_upto_region 1 with fail
 rw [← HW.out]
 go_wp2_with fail
 refine HI.out.mono ?_
 clear HI
 rintro e w1 ⟨rfl,hb1⟩
 have HB1:=Lh (HBW.out.trans (hb1.mono HBW.out.size))
 clear hb1 HW x0 x1 x2 x3 x4 d1
 go_wp2
 go_loopw [7,9,21] (fun vs _ i wr=>∃(k:Nat),k≤nn∧i=.int .i64 k∧(∀j (h:j<it.items.length),j<k→it.items[j].kind=3)∧wr.ownsRow w1.heap.size 9 1 vs k (((it.items.map JV.t).take k).map .string)∧Below w1.heap.size w1 wr) (fun _ _ i _=>nn - (intOf i).toNat)
 case atStart=>exact ⟨0,by omega,rfl,fun j _ h=>by omega,World.ownsRow_nil _ _ _ _,Below.refl _ _⟩
 case round =>
  obtain ⟨k,hk,rfl,hal,hown,hbel⟩:=hrel
  have hlk:((it.items.map JV.t).take k).length=k:=by rw [List.length_take,List.length_map,← HNN.out];omega
  obtain ⟨am,cm,hv0,-,-⟩:=je hown hlk.symm
  rw [hlk] at hv0
  subst hv0
  clear hlk
  have HB:Hid (Below w.heap.size w wr):=HB1.out.trans (hbel.mono HB1.out.size)
  have HBL:=Lh hbel
  have HO:=Lh hown
  have HAL:=Lh hal
  clear hal
  by_cases hlt:k<nn
  · have hlt':k<it.items.length:=by rw [← HNN.out];exact hlt
    obtain ⟨b,off,an3,cn3,ai3,ci3,rfl,_,hbz,y0,y1,y2,y3,y4,_⟩:=(H4.out.below HB.out lz lz HB.out.size).get k hlt'
    have HTK:=Lh (show ((it.items.map JV.t).take (k+1)).map Value.string=((it.items.map JV.t).take k).map .string ++ [.string it.items[k].t] by rw [List.take_succ_eq_append_getElem (by simpa using hlt'),List.map_append];simp)
    have HKA:=Lh (show it.items[k].kind≠3→it.items.all (fun x=>decide (x.kind=3))=false from fun h=>List.all_eq_false.2 ⟨it.items[k],List.getElem_mem _,by simpa using h⟩)
    have HKB:=Lh (show it.items[k].kind=3→∀j (h:j<it.items.length),j<k+1→it.items[j].kind=3 from fun h j hj hjk=>by
     rcases Nat.lt_succ_iff_lt_or_eq.1 hjk with h1|h1
     · exact HAL.out j hj h1
     · subst h1;exact h)
    obtain ⟨vo,hvo⟩:∃vo,vo=(Value.slice (some ⟨b,off,none⟩) nn ci'):=⟨_,rfl⟩
    clear vo hvo
    generalize it.items[k]=x at *
    have hz:w1.heap.size≤wr.heap.size:=hbel.size
    obtain ⟨WX,hWX⟩:∃WX,WX=wr.alloc (.cells #[.int .u8 x.kind,.int .i64 x.n,.string x.t,.slice an3 x.names.length cn3,.slice ai3 x.items.length ci3] 25):=⟨_,rfl⟩
    have hbX:Below wr.heap.size wr WX:=by rw [hWX];exact (Below.refl _ _).alloc lz _
    have hxX:WX.heap[wr.heap.size]?=some (.cells #[.int .u8 x.kind,.int .i64 x.n,.string x.t,.slice an3 x.names.length cn3,.slice ai3 x.items.length ci3] 25 (0,0)):=by rw [hWX];exact heap_alloc_new wr _
    have HBX:=Lh (HBL.out.trans (hbX.mono hz))
    have HOX:=Lh (qX HO.out hbX)
    have HBZ:=Lh (HB.out.trans (hbX.mono HB.out.size))
    have hzX:w1.heap.size≤WX.heap.size:=by rw [hWX];simp;omega
    have HWX:=Lh hWX
    have z0:WX.cell? ⟨wr.heap.size,0,none⟩=some (.int .u8 x.kind):=qq hxX rfl
    have z2:WX.cell? ⟨wr.heap.size,2,none⟩=some (.string x.t):=qq hxX rfl
    clear hbel hown hbX hxX hWX
    by_cases hk3:x.kind=3
    · have HK3:=Lh (HKB.out hk3)
      have h3:(x.kind != 3)=false:=by simpa using hk3
      have hnb:=HLN.out
      clear hk3 HKA HKB
      go_upto_region 8 with fail
      rw [← HWX.out]
      go_wp2_with (at_builtin;refine wpList_append_lies _ rfl (.tmp 28) (.tmp 31) 22 rfl w1.heap.size 9 i2 _ 1 16 Tryz.underlying22 hi2 hx0 hx1 hx2 rfl (by decide) (.slice am k cm) k (((it.items.map JV.t).take k).map .string) rfl (HOX.out.alloc _) ⟨WX.heap.size,0,none⟩ 1 1 [.string x.t] rfl rfl (World.news_of_block (cs:=#[.string x.t]) (t:=9) (fr:=(0,0)) (heap_alloc_new WX _)) (by simp [Value.oneCell']) (by omega) (by unfold maxLen;omega) (by omega) (by simp;omega) (WX.heap.size+1) (by simp) ?_;intro g1 cap2 w6 hown6 hgrow6 hat6 hlt6;have HO6:=Lh hown6;have HG6:=Lh hgrow6;clear hown6 hgrow6 hat6)
      go_roundw
      case rel =>
       refine ⟨k+1,by omega,by go_num,HK3.out,?_,below_grown (HBX.out.alloc (by omega) _) (by simp;omega) HG6.out (fun b hb=>(HOX.out.lt b hb).1)⟩
       rw [HTK.out]
       exact HO6.out
      case measure=>simp [intOf];omega
    · have HV2:=Lh (show zg it most=10 by rw [HV.out,HKA.out hk3];rfl)
      have h3:(x.kind != 3)=true:=by simpa using hk3
      clear hk3 HKA HKB
      go_upto_region 8 with fail
      rw [← HWX.out]
      go_wp2
      go_ret2
      exact fR HV2.out (by decide) HBZ.out
  · obtain rfl:k=nn:=by omega
    have HV2:=Lh (show zg it most=0 by
     rw [HV.out,if_pos]
     refine List.all_eq_true.2 fun x hx=>?_
     obtain ⟨j,hj,rfl⟩:=List.getElem_of_mem hx
     simpa using HAL.out j hj (by rw [HNN.out];exact hj))
    have hlm:(it.items.map JV.t).length=k:=by rw [List.length_map,HNN.out]
    rw [List.take_of_length_le (Nat.le_of_eq hlm)] at hown
    obtain ⟨a5,c5,hv6,_,hv5⟩:=je hown hlm.symm
    rw [hlm] at hv6
    simp only [Value.slice.injEq,true_and] at hv6
    obtain ⟨rfl,rfl⟩:=hv6
    have HV5:=Lh hv5
    have HLM:=Lh hlm
    clear hown hv5 hbel hlm
    go_wp2
    go_ret2
    have e1:vv it most=it.items.map JV.t:=by unfold vv;rw [if_pos HV2.out]
    unfold kM
    rw [e1,HV2.out,HLM.out]
    exact ⟨am,cm,rfl,HV5.out.carry HB1.out.size lz (fun _ _ _=>rfl),HB.out⟩
def vw (o m lo hi:Nat) (v:JV) (an ai:Option Addr) (cn ci:Nat) (y:ByteArray) (most:Nat) (st:PS) (w:World) (e:Ending) (w':World):Prop :=
 (∃a c,e=.returned (.slice a (qp v y most st).1.length c)∧qv w' w.heap.size w'.heap.size a (qp v y most st).1)∧PickAt o m lo hi v an ai cn ci (qp v y most st).2 w'∧Touch (fun b=>b=o∨b=m) w w'
theorem wS {o m lo hi:Nat} {v:JV} {an ai:Option Addr} {cn ci:Nat} {y:ByteArray} {most:Nat} {st st':PS} {w w':World} (h:qp v y most st=([],st')) (hP:PickAt o m lo hi v an ai cn ci st' w') (hT:Touch (fun b=>b=o∨b=m) w w'):vw o m lo hi v an ai cn ci y most st w (.returned (.slice none 0 0)) w':=by
 unfold vw
 rw [h]
 exact ⟨⟨none,0,rfl,.inl rfl⟩,hP,hT⟩
set_option maxHeartbeats 2000000 in
set_option maxRecDepth 100000 in
theorem rU (o m lo hi:Nat) (v:JV) (an ai:Option Addr) (cn ci:Nat) (y:ByteArray) (most:Nat) (st:PS) (w:World) (hP:PickAt o m lo hi v an ai cn ci st w) (hy:y.size≤4294967296) (ha:st.asked.length≤4294967296) (p1:Nat) (g1:w.heap[p1]?=some (.cells #[.int .i64 most] 3 (0,0))) :
 Calls Tryz.prog 207 #[.pointer (some ⟨o,0,none⟩),.string y,.func (.func 208) #[] #[.pointer (some ⟨p1,0,none⟩)]] w (vw o m lo hi v an ai cn ci y most st w):=by
 have HP:=Lh hP
 have HG1:=Lh g1
 clear hP g1
 have c6:w.cell? ⟨o,6,none⟩=some (.int .i64 st.err):=qq HP.out.obj rfl
 have c0:w.cell? ⟨o,0,none⟩=some (.int .u8 5):=(qq (j:=0) HP.out.obj rfl).trans (by rw [HP.out.kind];rfl)
 by_cases he:st.err=0
 · rw [he] at c6
   have HE:=Lh he
   clear he
   have c1:w.cell? ⟨o,1,none⟩=some (.int .i64 v.n):=qq HP.out.obj rfl
   have c2:w.cell? ⟨o,2,none⟩=some (.string v.t):=qq HP.out.obj rfl
   have c3:w.cell? ⟨o,3,none⟩=some (.slice an v.names.length cn):=qq HP.out.obj rfl
   have c4:w.cell? ⟨o,4,none⟩=some (.slice ai v.items.length ci):=qq HP.out.obj rfl
   have HR:=Lh HP.out.rep
   rw [HP.out.kind] at HR
   have HG:=Lh (vZ v y _ w lo hi HP.out.wt HP.out.pos HP.out.le HR.out HP.out.kind HP.out.rise HP.out.len)
   go_enter Tryz.func207,Tryz.ntmps207
   go_wp2_with fail
   refine (zZ o 0 5 w c6 c0 (fun _=>rfl)).mono ?_
   rintro r w' ⟨rfl,rfl⟩
   go_wp2_with fail
   refine HG.out.mono ?_
   clear HG c0 c1 c2 c3 c4 c6
   rintro e w1 ⟨hh,hb1⟩
   have HB1:=Lh hb1
   clear hb1
   rcases hh with ⟨r,hr1,hr2,hre,an',cn',ai',ci',rfl,hrep⟩|⟨hno,rfl⟩
   · have HL:=Lh (vA HP.out.rise r hr1 hr2 hre)
     have HREP:=Lh hrep
     have HWT:=Lh (show v.items[r].wt≤4294967296 by have h1:=JV.wts_get v.items r hr2;have h2:=v.wt_bd;have h3:=HP.out.wt;omega)
     clear hre hrep
     generalize v.items[r]=it at *
     have hb2:Below w.heap.size w (w1.alloc (.cells #[.int .u8 it.kind,.int .i64 it.n,.string it.t,.slice an' it.names.length cn',.slice ai' it.items.length ci'] 25)):=HB1.out.alloc HB1.out.size _
     have HB2:=Lh hb2
     have HC:=Lh (rH it most p1 an' ai' cn' ci' w.heap.size (w1.alloc (.cells #[.int .u8 it.kind,.int .i64 it.n,.string it.t,.slice an' it.names.length cn',.slice ai' it.items.length ci'] 25)) HWT.out (HREP.out.below ((Below.refl _ _).alloc lz _) lz lz (by simp)) (qq ((hb2.block _ (qz HG1.out)).trans HG1.out) rfl))
     clear hb2
     unfold kM at HC
     by_cases hk:zg it most=0
     · have HX:=Lh (show qp v y most st=(it.items.map JV.t,⟨y :: st.asked,0⟩) by unfold qp;rw [if_neg (by simp [HE.out]),HL.out];obtain ⟨q1,q2,q3⟩:=cp hk;simp only;rw [if_neg (by simp [q1]),if_neg q2,if_pos q3])
       rw [show vv it most=it.items.map JV.t by unfold vv;rw [if_pos hk],hk] at HC
       clear hk
       obtain ⟨L,hL⟩:∃L,L=it.items.map JV.t:=⟨_,rfl⟩
       rw [← hL] at HC HX
       clear hL
       go_wp2_with fail
       refine HC.out.mono ?_
       clear HC
       rintro e w2 ⟨al,cl,rfl,hsl,hb3⟩
       have HB3:=Lh (HB2.out.trans (hb3.mono HB2.out.size))
       have HP3:=Lh (HP.out.below HB3.out)
       have HSL:=Lh hsl
       have HZL:=Lh (show w.heap.size<(w1.alloc (.cells #[.int .u8 it.kind,.int .i64 it.n,.string it.t,.slice an' it.names.length cn',.slice ai' it.items.length ci'] 25)).heap.size from by have:=HB1.out.size;simp;omega)
       have HMZ:=Lh (show m<w.heap.size from by obtain ⟨D,n,h,_⟩:=HP.out.map;exact h.lt)
       clear hb3 HB2 hsl
       have d5:w2.cell? ⟨o,5,none⟩=some (.map (some m)):=qq HP3.out.obj rfl
       have hkey:keyOf Tryz.prog 9 (.string y)=some (.string y.data.toList):=keyOf_string_mk Tryz.underlying9 (by unfold maxLen;omega)
       obtain ⟨D,n,hown,hn,hD⟩:=HP3.out.map
       obtain ⟨c,hat,hc0,hc1,hc2⟩:=hD.2 y
       obtain ⟨c',hrun,hat',_⟩:=hown.lookup_int vq Tryz.underlying124 Tryz.underlying3 (vI _) hkey
       rw [hat] at hat'
       simp only [DataW.lit.injEq,Lit.int.injEq,true_and] at hat'
       subst hat'
       have HD:=Lh (hD.cons y c hat)
       have HKY:=Lh hkey
       have HOW:=Lh hown
       clear hD hat hc2 hkey hown
       go_wp2_with (at_mapUpdate;refine wpList_mapUpdate_own _ rfl _ _ _ 124 rfl 9 3 vq Tryz.underlying124 _ m n D rfl HOW.out (by unfold maxLen;omega) _ _ _ rfl rfl HKY.out _ [] (plainElem_int Tryz.underlying3 (WalkArith.wf_i64 (by omega))) ?_)
       intro w3 hown3 hgrow3
       have HP4:=Lh (HP3.out.ask y hgrow3 hown3 (by omega) HD.out)
       have HT:=Lh (show Touch (fun b=>b=o∨b=m) w w3 from ⟨by rw [hgrow3.os,HB3.out.os],by rw [hgrow3.tape,HB3.out.tape],by rw [hgrow3.output,HB3.out.output],Nat.le_trans HB3.out.size hgrow3.size,fun k hk hs=>by rw [hgrow3.block k (Nat.lt_of_lt_of_le hk HB3.out.size) (fun e=>hs (.inr (Option.some.inj e))),HB3.out.block k hk]⟩)
       have HS3:=Lh (show qv w3 w.heap.size w3.heap.size al L from HSL.out.carry (Nat.le_of_lt HZL.out) hgrow3.size fun b h1 h2=>hgrow3.block b h2 (fun e=>by have:=Option.some.inj e;have:=HZL.out;have:=HMZ.out;omega))
       clear hgrow3 hown3
       rw [HE.out] at HP4
       go_wp2
       go_ret
       unfold vw
       rw [HX.out]
       exact ⟨⟨al,cl,rfl,HS3.out⟩,HP4.out,HT.out⟩
     · have HX:=Lh (show qp v y most st=([],⟨st.asked,zg it most⟩) by unfold qp;rw [if_neg (by simp [HE.out]),HL.out];exact cf hk)
       rw [show vv it most=[] by unfold vv;rw [if_neg hk]] at HC
       obtain ⟨er,her⟩:∃er,er=zg it most:=⟨_,rfl⟩
       rw [← her] at HC HX hk
       have hk':(er != 0)=true:=by simpa using hk
       have hk2:(er == 0)=false:=by simpa using hk
       clear hk her
       go_wp2_with fail
       refine HC.out.mono ?_
       clear HC
       rintro e w2 ⟨al,cl,rfl,-,hb3⟩
       have HB3:=Lh (HB2.out.trans (hb3.mono HB2.out.size))
       have HP3:=Lh (HP.out.below HB3.out)
       clear hb3 HB2
       have d6:w2.cell? ⟨o,6,none⟩=some (.int .i64 0):=(qq (j:=6) HP3.out.obj rfl).trans (by rw [HE.out];rfl)
       have d0:w2.cell? ⟨o,0,none⟩=some (.int .u8 5):=(qq (j:=0) HP3.out.obj rfl).trans (by rw [HP.out.kind];rfl)
       have d7:w2.frozen? ⟨o,6,none⟩=false:=by simp [World.frozen?,HP3.out.obj]
       go_wp2_with fail
       refine (jf o er _ d6 d0 d7).mono ?_
       clear d6 d0 d7
       rintro e w3 ⟨rfl,rfl⟩
       have HP4:=Lh (HP3.out.fail er)
       have HT:=Lh (show Touch (fun b=>b=o∨b=m) w (w2.setCell ⟨o,6,none⟩ (.int .i64 er)) from (Touch.of_below HB3.out lz).setCell (.inl (.inl rfl)) _)
       go_wp2
       go_ret
       exact wS HX.out HP4.out HT.out
   · have HX:=Lh (show qp v y most st=([],⟨st.asked,6⟩) by unfold qp;rw [if_neg (by simp [HE.out]),show v.look y=none from j6 _ _ _ hno])
     unfold zeroAgg
     have HB3:=Lh (show Below w.heap.size w (w1.alloc (.cells #[.int .u8 0,.int .i64 0,.string ⟨#[]⟩,.slice none 0 0,.slice none 0 0] 25)) from HB1.out.alloc HB1.out.size _)
     have HP3:=Lh (HP.out.below HB3.out)
     clear hno HB1
     have d6:(w1.alloc (.cells #[.int .u8 0,.int .i64 0,.string ⟨#[]⟩,.slice none 0 0,.slice none 0 0] 25)).cell? ⟨o,6,none⟩=some (.int .i64 0):=(qq (j:=6) HP3.out.obj rfl).trans (by rw [HE.out];rfl)
     have d0:(w1.alloc (.cells #[.int .u8 0,.int .i64 0,.string ⟨#[]⟩,.slice none 0 0,.slice none 0 0] 25)).cell? ⟨o,0,none⟩=some (.int .u8 5):=(qq (j:=0) HP3.out.obj rfl).trans (by rw [HP.out.kind];rfl)
     have d7:(w1.alloc (.cells #[.int .u8 0,.int .i64 0,.string ⟨#[]⟩,.slice none 0 0,.slice none 0 0] 25)).frozen? ⟨o,6,none⟩=false:=by simp [World.frozen?,HP3.out.obj]
     go_wp2_with fail
     refine (jf o 6 _ d6 d0 d7).mono ?_
     clear d6 d0 d7
     rintro e w3 ⟨rfl,rfl⟩
     have HP4:=Lh (HP3.out.fail 6)
     have HT:=Lh (show Touch (fun b=>b=o∨b=m) w ((w1.alloc (.cells #[.int .u8 0,.int .i64 0,.string ⟨#[]⟩,.slice none 0 0,.slice none 0 0] 25)).setCell ⟨o,6,none⟩ (.int .i64 6)) from (Touch.of_below HB3.out lz).setCell (.inl (.inl rfl)) _)
     go_wp2
     go_ret
     exact wS HX.out HP4.out HT.out
 · have he':(st.err == 0)=false:=by simpa using he
   have he2:(st.err != 0)=true:=by simpa using he
   have HX:=Lh (show qp v y most st=([],st) by unfold qp;rw [if_pos he])
   have HE:=Lh he
   clear he
   go_enter Tryz.func207,Tryz.ntmps207
   go_wp2_with fail
   refine (zZ o st.err 5 w c6 c0 (fun _=>rfl)).mono ?_
   rintro r w' ⟨rfl,rfl⟩
   go_wp2
   go_ret
   exact wS HX.out HP.out (Touch.refl _ _)
set_option maxHeartbeats 1000000 in
set_option maxRecDepth 100000 in
theorem iB {o m lo hi:Nat} {v:JV} {an ai:Option Addr} {cn ci:Nat} {st:PS} {w:World} (y:ByteArray) (most:Nat) (h:zS o m lo hi v an ai cn ci st w) (hy:y.size≤4294967296) (ha:st.asked.length≤4294967296) :
 Calls Tryz.prog 173 #[.pointer (some ⟨o,0,none⟩),.string y,.int .i64 most] w fun e w'=>(∃a c,e=.returned (.slice a (qp v y most st).1.length c)∧qv w' w.heap.size w'.heap.size a (qp v y most st).1)∧pZ o m lo hi v an ai cn ci (qp v y most st).2 w w':=by
 have hb:Below w.heap.size w (w.alloc (.cells #[.int .i64 most] 3)):=(Below.refl _ _).alloc lz _
 have HT:=Lh (show Calls Tryz.prog 207 #[.pointer (some ⟨o,0,none⟩),.string y,.func (.func 208) #[] #[.pointer (some ⟨w.heap.size,0,none⟩)]] (w.alloc (.cells #[.int .i64 most] 3)) (fun e w'=>(∃a c,e=.returned (.slice a (qp v y most st).1.length c)∧qv w' w.heap.size w'.heap.size a (qp v y most st).1)∧pZ o m lo hi v an ai cn ci (qp v y most st).2 w w') by
  have hT0:Touch (fun b=>b=o∨b=m) w (w.alloc (.cells #[.int .i64 most] 3)):=Touch.of_below hb lz
  rcases h with h|⟨⟨h1,c6,k,c0⟩,h2,h3,h4⟩
  · refine (rU o m lo hi v an ai cn ci y most st _ (h.below hb) hy ha w.heap.size (heap_alloc_new w _)).mono ?_
    rintro e w' ⟨⟨a,c,e1,e2⟩,e3,e4⟩
    exact ⟨⟨a,c,e1,e2.carry hb.size lz (fun _ _ _=>rfl)⟩,.inl e3,hT0.trans (e4.mono fun _ _ h=>h)⟩
  · obtain ⟨W2,hW2⟩:∃W2,W2=w.alloc (.cells #[.int .i64 most] 3):=⟨_,rfl⟩
    rw [← hW2] at hb hT0 ⊢
    have HPB:=Lh (show zS o m lo hi v an ai cn ci st W2 from (zS.below (.inr ⟨⟨h1,c6,k,c0⟩,h2,h3,h4⟩) hb))
    have e6:W2.cell? ⟨o,6,none⟩=some (.int .i64 st.err):=by rw [hb.cell h2];exact c6
    have e0:W2.cell? ⟨o,0,none⟩=some (.int .u8 k):=by rw [hb.cell h2];exact c0
    have he':(st.err == 0)=false:=by simpa using h1
    have he2:(st.err != 0)=true:=by simpa using h1
    have HE:=Lh h1
    have HT0:=Lh hT0
    have HX:=Lh (show qp v y most st=([],st) by unfold qp;rw [if_pos h1])
    clear h1 c6 c0 hW2 hb hT0
    go_enter Tryz.func207,Tryz.ntmps207
    go_wp2_with fail
    refine (zZ o st.err k W2 e6 e0 (fun h=>absurd h HE.out)).mono ?_
    rintro r w' ⟨rfl,h'⟩
    subst h'
    go_wp2
    go_ret
    rw [HX.out]
    exact ⟨⟨none,0,rfl,.inl rfl⟩,HPB.out,HT0.out⟩)
 clear h hb
 obtain ⟨R,hR⟩:∃R,R=qp v y most st:=⟨_,rfl⟩
 rw [← hR] at HT ⊢
 clear hR
 go_enter Tryz.func173,Tryz.ntmps173
 go_wp2_with fail
 refine HT.out.mono ?_
 rintro e w' ⟨⟨a,c,rfl,h1⟩,h2⟩
 have H1:=Lh h1
 have H2:=Lh h2
 clear h1 h2
 go_wp2
 go_ret
 exact ⟨⟨a,c,rfl,H1.out⟩,H2.out⟩
end Go.Proofs.YtnlgmcapbbgelaaGreatDoor

namespace Go.Proofs.YtnlgmcapbbgelaaGreatDoor
open Go.RowKit
def qV:ByteArray:=⟨#[114,111,111,116]⟩
structure Auth3 where
 a:AuthV
 b:AuthV
 c:AuthV
deriving DecidableEq
def pV:Auth3:=⟨zQ,zQ,zQ⟩
def fj (x:Auth3):Bool:=qe x.a && qe x.b && qe x.c
def vy (x:Auth3):List NJ:=[(qV,qZ x.a),(zB,qZ x.b),(xH,qZ x.c)]
def qI (x:Auth3):JV:=ky (vy x)
def wZ (v:JV) (y:ByteArray) (st:PS):AuthV × PS:=((zh (qw v y 8192 st).1).1,(qw v y 8192 st).2.fail (zh (qw v y 8192 st).1).2)
def iP (v:JV):AuthV × PS:=wZ v qV ⟨[],0⟩
def tc (v:JV):AuthV × PS:=wZ v zB (iP v).2
def sJ (v:JV):AuthV × PS:=wZ v xH (tc v).2
def pW (v:JV):Auth3 × Int:=if qu v (sJ v).2≠0 then (pV,qu v (sJ v).2) else (⟨(iP v).1,(tc v).1,(sJ v).1⟩,0)
theorem jF:qr [qV,zB,xH]=true∧(qW qV=true∧qW zB=true∧qW xH=true)∧(qV≠zB∧qV≠xH∧zB≠xH):=by
 refine ⟨by kernel_rfl,⟨?_,?_,?_⟩,by decide⟩
 all_goals
  refine zn ?_ (by decide)
  intro c hc
  unfold xJ
  revert c
  decide
theorem uY {a:AuthV} (h:qe a=true):zh (qZ a)=(a,0):=by
 unfold zh
 rw [if_neg (by rw [rB h];decide),if_neg (by simp [qZ,ky,JV.kind]),rG h]
theorem pY {v:JV} {y:ByteArray} {a:AuthV} {s:List ByteArray} (h:v.look y=some (qZ a)) (hm:qe a=true):wZ v y ⟨s,0⟩=(a,⟨y :: s,0⟩):=by
 have e:qw v y 8192 ⟨s,0⟩=(qZ a,⟨y :: s,0⟩):=by
  unfold qw
  rw [if_neg (by simp),h]
  show (if (qZ a).kind≠5 then _ else if 8192<(qZ a).items.length then _ else _:JV × PS)=_
  rw [if_neg (by simp [qZ,ky,JV.kind]),if_neg (by simp [qZ,ky,JV.items,wQ])]
 unfold wZ
 rw [e]
 dsimp only
 rw [uY hm]
 rfl
theorem dK {x:Auth3} (h:fj x=true):pW (qI x)=(x,0):=by
 unfold fj at h
 simp only [Bool.and_eq_true] at h
 obtain ⟨⟨ha,hb⟩,hc⟩:=h
 obtain ⟨n1,n2,n3⟩:=jF.2.2
 have k0:∀y,(qI x).look y=zX [qV,zB,xH] [qZ x.a,qZ x.b,qZ x.c] y:=fun _=>rfl
 have e1:iP (qI x)=(x.a,⟨[qV],0⟩):=pY (by rw [k0];simp [zX]) ha
 have e2:tc (qI x)=(x.b,⟨[zB,qV],0⟩):=by
  unfold tc
  rw [e1]
  exact pY (by rw [k0];simp [zX,n1]) hb
 have e3:sJ (qI x)=(x.c,⟨[xH,zB,qV],0⟩):=by
  unfold sJ
  rw [e2]
  exact pY (by rw [k0];simp [zX,n2,n3]) hc
 have e4:qu (qI x) ⟨[xH,zB,qV],0⟩=0:=by
  unfold qu
  rw [if_neg (by simp),if_pos]
  simp [qI,ky,JV.names,vy]
 unfold pW
 rw [e3,e4,if_neg (by simp),e1,e2]
theorem rM {x:Auth3} (h:fj x=true):(qI x).partB=true∧(qI x).count≤130∧(qI x).depth≤3:=by
 unfold fj at h
 simp only [Bool.and_eq_true] at h
 obtain ⟨⟨ha,hb⟩,hc⟩:=h
 obtain ⟨r,⟨n1,n2,n3⟩,-⟩:=jF
 have hp:∀p ∈ vy x,qW p.1=true∧p.2.partB=true∧p.2.count≤40∧p.2.depth≤2:=fun p hp=>by
  simp only [vy,List.mem_cons,List.not_mem_nil,or_false] at hp
  rcases hp with rfl|rfl|rfl
  · exact ⟨n1,yr ha⟩
  · exact ⟨n2,yr hb⟩
  · exact ⟨n3,yr hc⟩
 refine ⟨yR ⟨r,fun p h=>⟨(hp p h).1,(hp p h).2.1⟩⟩,?_,wL 2 fun p h=>(hp p h).2.2.2⟩
 have:=wD 40 fun p h=>(hp p h).2.2.1
 have e:(vy x).length=3:=rfl
 rw [e] at this
 show (ky (vy x)).count≤130
 omega
end Go.Proofs.YtnlgmcapbbgelaaGreatDoor
