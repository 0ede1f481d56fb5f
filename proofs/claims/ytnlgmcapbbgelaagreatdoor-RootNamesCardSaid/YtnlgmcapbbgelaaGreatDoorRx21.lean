/- Plain: the object of a root's three roles, there and back. No program in sight. -/
import Derived.Test.YtnlgmcapbbgelaaGreatDoorRx20
import Derived.Test.YtnlgmcapbbgelaaGreatDoorRx18

namespace Go.Proofs.YtnlgmcapbbgelaaGreatDoor
open Go.RowKit Go.WideMaps Go.Maps
theorem me (l:List JV) (j:Nat) (h:j<l.length) (hp:JV.partsB l=true):l[j].partB=true:=by
 cases hb:l[j].partB
 · rw [JV.partsB_bad l j h hb] at hp;cases hp
 · rfl
end Go.Proofs.YtnlgmcapbbgelaaGreatDoor

namespace Go.Proofs.YtnlgmcapbbgelaaGreatDoor
open Go.RowKit
theorem dc {t:ByteArray} (h:t.toList=[]):t=⟨#[]⟩:=by
 rw [ByteArray.toList_eq] at h
 exact pJ (by simpa using h)
theorem uf {x:JV} (h:x.partB=true) (hk:x.kind=5):(x.n=0∧x.t=⟨#[]⟩)∧x.names.length=x.items.length∧ql x.names=true∧∀y ∈ x.items,y.partB=true:=by
 rw [JV.partB_eq,Bool.and_eq_true] at h
 obtain ⟨h1,h2⟩:=h
 rw [hk] at h1
 unfold qn at h1
 rw [if_neg (by decide),if_neg (by decide),if_neg (by decide),if_neg (by decide),if_pos rfl,Bool.and_eq_true,Bool.and_eq_true,decide_eq_true_eq] at h1
 obtain ⟨⟨⟨a,b,c⟩,d⟩,-⟩:=h1
 refine ⟨⟨a,dc b⟩,c,d,fun y hy=>?_⟩
 obtain ⟨i,hi,rfl⟩:=List.getElem_of_mem hy
 exact me _ i hi h2
theorem w0:∀ {ns:List ByteArray} {xs:List JV} {y:ByteArray} {x:JV},zw ns xs y=some x→y ∈ ns∧x ∈ xs
 | n :: ns,z :: xs,y,x,h=>by
  rw [zw] at h
  split at h
  · rename_i e
    injection h with h
    subst h;subst e
    exact ⟨List.mem_cons_self ..,List.mem_cons_self ..⟩
  · have:=w0 h
    exact ⟨List.mem_cons_of_mem _ this.1,List.mem_cons_of_mem _ this.2⟩
def cr (v:JV):Prop:=v.kind=5∧(v.n=0∧v.t=⟨#[]⟩)∧ql v.names=true∧v.names.length=v.items.length∧∀x ∈ v.items,x.partB=true∨x=qL
theorem uh {v:JV} (h:v.mayB=true) (hk:v.kind=5):cr v:=by
 rw [JV.mayB_iff] at h
 simp only [Bool.and_eq_true] at h
 obtain ⟨a,b,c,d⟩:=uf h.1.1 hk
 exact ⟨hk,a,c,b,fun x hx=>.inl (d x hx)⟩
theorem aG {v:JV} (h:cr v) {y:ByteArray} {it:JV} (e:v.look y=some it) (hk:it.kind≠0):it.partB=true:=by
 rcases h.2.2.2.2 it (w0 e).2 with h|h
 · exact h
 · exact absurd (by rw [h];rfl) hk
def q9 (n:Nat):UInt8:=if n<10 then UInt8.ofNat (48+n) else UInt8.ofNat (87+n)
def zS:List UInt8→List UInt8
 | []=>[]
 | c :: r=>q9 (c.toNat / 16) :: q9 (c.toNat % 16) :: zS r
theorem pq (l m:List UInt8):zS (l ++ m)=zS l ++ zS m:=by
 induction l with
 | nil=>rfl
 | cons c r ih=>simp [zS,ih]
theorem pz (l:List UInt8):(zS l).length=2 * l.length:=by
 induction l with
 | nil=>rfl
 | cons c r ih=>simp [zS,ih];omega
def vR (l:List UInt8):List UInt8:=zS (vG l)
theorem ve (l:List UInt8):(vR l).length=64:=by unfold vR;rw [pz,vp]
theorem gS (n:Nat) (h:n<16):xa (q9 n)=true:=by
 have:∀m:Fin 16,xa (q9 m.val)=true:=by decide
 exact this ⟨n,h⟩
theorem gI:∀l:List UInt8,jz (zS l)=true
 | []=>rfl
 | c :: r=>by
  have h:=gI r
  have hc:c.toNat<256:=c.toNat_lt
  unfold jz at h ⊢
  simp only [zS,List.all_cons,Bool.and_eq_true]
  exact ⟨gS _ (by omega),gS _ (by omega),h⟩
theorem mQ (l:List UInt8):jz (vR l)=true:=gI _
def zE:ByteArray:=⟨#[112,117,98,108,105,99]⟩
def schN:ByteArray:=⟨#[115,99,104,101,109,101]⟩
def xQ (s t:ByteArray):JV:=.mk 5 0 ⟨#[]⟩ [zE,schN] [txtJ t,txtJ s]
theorem pP {s t:List UInt8} (h:zl s t=true):xf s=true∧yh t=true:=by
 unfold zl at h;simpa using h
theorem yM {s t:ByteArray} (h:zl s.data.toList t.data.toList=true):qe s=true∧qe t=true∧s.size≤64∧t.size≤128:=by
 obtain ⟨h1,h2⟩:=pP h
 have h3:=gV h1
 have h4:=pZ h2
 rw [qp] at h3 h4
 exact ⟨zx h3.1 (by omega),zx h4.1 (by omega),h3.2.2,h4.2.2⟩
theorem uu:qe zE=true∧qe schN=true∧ql [zE,schN]=true:=by
 refine ⟨zx ?_ (by decide),zx ?_ (by decide),?_⟩
 · intro c hc;unfold zR;revert c;decide
 · intro c hc;unfold zR;revert c;decide
 · unfold ql ql;rw [ByteArray.toList_eq,ByteArray.toList_eq];decide
theorem um (t:ByteArray) (h:qe t=true) (d:Nat) (l:Int) (hl:1≤l):(txtJ t).may d l=(true,l - 1):=by
 unfold txtJ
 rw [JV.may,if_neg (by omega)]
 have:qn 3 0 t [] 0=true:=by unfold qn;simp [h]
 rw [show ([]:List JV).length=0 from rfl,this]
 simp
theorem gE {s t:ByteArray} (h:zl s.data.toList t.data.toList=true):(xQ s t).mayB=true:=by
 obtain ⟨h1,h2,_,_⟩:=yM h
 obtain ⟨n1,n2,n3⟩:=uu
 unfold JV.mayB xQ
 have hp:qn 5 0 ⟨#[]⟩ [zE,schN] 2=true:=by
  unfold qn
  rw [ByteArray.toList_eq]
  simp [n1,n2,n3]
 have hm:JV.mays [txtJ t,txtJ s] (12 - 1) (8192 - 1)=(true,8192 - 1 - 1 - 1):=by
  rw [JV.mays,um t h2 _ _ (by omega),if_pos rfl,JV.mays,um s h1 _ _ (by omega),if_pos rfl,JV.mays]
 rw [JV.may,if_neg (by omega),show ([txtJ t,txtJ s]:List JV).length=2 from rfl,hp,if_neg (by decide),if_neg (by decide),if_neg (by decide),hm]
theorem nW {s t:ByteArray} (hs:s.size≤4294967) (ht:t.size≤4294967):(xQ s t).wt≤4294967296:=by
 unfold xQ txtJ
 have e1:zE.size=6:=rfl
 have e2:schN.size=6:=rfl
 have e3:(⟨#[]⟩:ByteArray).size=0:=rfl
 simp only [JV.wt,JV.wts,qm]
 omega
def lO:List UInt8:=[123,34,112,117,98,108,105,99,34,58,34]
def lE:List UInt8:=[34,44,34,115,99,104,101,109,101,34,58,34]
def jK (s t:List UInt8):List UInt8:=lO ++ (t ++ (lE ++ (s ++ [34,125])))
theorem ul (s t:List UInt8):(jK s t).length=s.length+t.length+25:=by simp [jK,lO,lE];omega
def jm (s t:List UInt8):List UInt8:=if zl s t then vR (jK s t) else []
def qN (v:JV):(ByteArray × ByteArray) × Int :=
 if v.mayB=false then ((⟨#[]⟩,⟨#[]⟩),3) else if v.kind≠5 then ((⟨#[]⟩,⟨#[]⟩),10) else
  if qf v (qy v schN (qy v zE ⟨[],0⟩).2).2≠0 then ((⟨#[]⟩,⟨#[]⟩),qf v (qy v schN (qy v zE ⟨[],0⟩).2).2) else
  if zl (qy v schN (qy v zE ⟨[],0⟩).2).1.data.toList (qy v zE ⟨[],0⟩).1.data.toList then (((qy v schN (qy v zE ⟨[],0⟩).2).1,(qy v zE ⟨[],0⟩).1),0) else ((⟨#[]⟩,⟨#[]⟩),3)
theorem sH:zE≠schN:=by decide
theorem l6 (s t:ByteArray):(xQ s t).look zE=some (txtJ t):=by
 unfold JV.look xQ JV.names JV.items;simp [zw]
theorem l7 (s t:ByteArray):(xQ s t).look schN=some (txtJ s):=by
 unfold JV.look xQ JV.names JV.items;simp [zw,sH]
theorem mZ {s t:ByteArray} (h:zl s.data.toList t.data.toList=true):qN (xQ s t)=((s,t),0):=by
 have h1:qy (xQ s t) zE ⟨[],0⟩=(t,⟨[zE],0⟩):=by unfold qy;rw [if_neg (by simp),l6];rfl
 have h2:qy (xQ s t) schN ⟨[zE],0⟩=(s,⟨[schN,zE],0⟩):=by unfold qy;rw [if_neg (by simp),l7];rfl
 have h3:qf (xQ s t) ⟨[schN,zE],0⟩=0:=by
  unfold qf;rw [if_neg (by simp)]
  have:(xQ s t).names=[zE,schN]:=rfl
  rw [this];simp
 unfold qN
 rw [if_neg (by rw [gE h];simp),if_neg (by show ¬(5:Int)≠5;simp),h1]
 simp only
 rw [h2]
 simp only
 rw [h3,if_neg (by simp),if_pos h]
def dd (s t:ByteArray):ByteArray:=⟨(jm s.data.toList t.data.toList).toArray⟩
def ok2 (k:Key2):Bool:=zl k.1.data.toList k.2.data.toList
def id2 (k:Key2):ByteArray:=dd k.1 k.2
def ids (l:List Key2):List ByteArray:=l.map id2
def obj2 (k:Key2):JV:=xQ k.1 k.2
def xk (m:List Key2):JV:=.mk 5 0 ⟨#[]⟩ (m.map id2) (m.map obj2)
theorem us {l:List ByteArray} (h:ql l=true):l.Nodup:=by
 rw [List.Nodup,List.pairwise_iff_getElem]
 intro i j hi hj hij e
 have:=xB h i j hi hj hij
 rw [e,zh] at this;cases this
theorem ua {k:Key2}:(id2 k).size≤64:=by
 show (jm _ _).toArray.size≤64
 unfold jm
 split
 · rw [List.size_toArray,ve];exact Nat.le_refl _
 · simp
theorem nY {k:Key2} (h:k.1.size≤300∧k.2.size≤300):(obj2 k).wt≤1000:=by
 unfold obj2 xQ txtJ
 have e1:zE.size=6:=rfl
 have e2:schN.size=6:=rfl
 have e3:(⟨#[]⟩:ByteArray).size=0:=rfl
 simp only [JV.wt,JV.wts,qm]
 omega
theorem ct {m:List Key2} (hs:∀k ∈ m,k.1.size≤300∧k.2.size≤300):(xk m).wt≤1+1100 * m.length:=by
 have h1:∀m:List Key2,qm (m.map id2)≤65 * m.length:=fun m=>by
  induction m with
  | nil=>simp [qm]
  | cons k r ih=>have:=@ua k;simp only [List.map_cons,qm,List.length_cons];omega
 have h2:∀m:List Key2,(∀k ∈ m,k.1.size≤300∧k.2.size≤300)→JV.wts (m.map obj2)≤1000 * m.length:=fun m=>by
  induction m with
  | nil=>intro _;simp [JV.wts]
  | cons k r ih=>intro hs;have:=nY (hs k (by simp));have:=ih (fun k hk=>hs k (List.mem_cons_of_mem _ hk));simp only [List.map_cons,JV.wts,List.length_cons];omega
 have e3:(⟨#[]⟩:ByteArray).size=0:=rfl
 have:=h1 m
 have:=h2 m hs
 unfold xk
 simp only [JV.wt]
 omega
theorem dl {v:JV} (h:(qN v).2=0):zl (qN v).1.1.data.toList (qN v).1.2.data.toList=true∧(qN v).1.1.size≤64∧(qN v).1.2.size≤128:=by
 have h2:zl (qN v).1.1.data.toList (qN v).1.2.data.toList=true:=by
  unfold qN at h ⊢
  split at h
  · cases h
  next c1 =>
  rw [if_neg c1]
  split at h
  · cases h
  next c2 =>
  rw [if_neg c2]
  split at h
  · next c3=>exact absurd h c3
  next c3 =>
  rw [if_neg c3]
  split at h
  · next c4=>rw [if_pos c4];exact c4
  · cases h
 obtain ⟨_,_,a,b⟩:=yM h2
 exact ⟨h2,a,b⟩
def xS:List ByteArray→List JV→List Key2→List Key2 × Int
 | id :: ns,it :: its,acc=>if (qN it).2≠0 then ([],(qN it).2) else if (dd (qN it).1.1 (qN it).1.2).toList == id.toList then xS ns its (acc ++ [(qN it).1]) else ([],3)
 | _,_,acc=>(acc,0)
def pF (r:Key2 × Int) (id:ByteArray) (ns:List ByteArray) (its:List JV) (acc:List Key2):List Key2 × Int :=
 if r.2≠0 then ([],r.2) else if (dd r.1.1 r.1.2).toList == id.toList then xS ns its (acc ++ [r.1]) else ([],3)
theorem dr (its:List JV) (acc:List Key2):xS [] its acc=(acc,0):=by
 unfold xS;rfl
theorem mX (ns:List ByteArray) (its:List JV) (k:Nat) (acc:List Key2) (h:k<ns.length) (h':k<its.length):xS (ns.drop k) (its.drop k) acc=pF (qN its[k]) ns[k] (ns.drop (k+1)) (its.drop (k+1)) acc:=by
 rw [List.drop_eq_getElem_cons h,List.drop_eq_getElem_cons h',xS,pF]
def zL (v:JV):List Key2 × Int:=if v.mayB=false then ([],3) else if v.kind≠5 then ([],10) else if 32<v.names.length then ([],5) else xS v.names v.items []
theorem ut {v:JV} (h:v.mayB=true):v.partB=true:=by
 rw [JV.mayB_iff] at h
 simp only [Bool.and_eq_true] at h
 exact h.1.1
theorem sU {k:Key2} (h:ok2 k=true):qe (id2 k)=true:=by
 have e:(id2 k).data.toList=vR (jK k.1.data.toList k.2.data.toList):=by
  show (jm _ _)=_
  unfold jm
  rw [if_pos (show zl k.1.data.toList k.2.data.toList=true from h)]
 refine zx ?_ (Nat.le_trans ua (by decide))
 rw [e]
 have:=mQ (jK k.1.data.toList k.2.data.toList)
 unfold jz at this
 exact fun c hc=>pQ (List.all_eq_true.1 this c hc)
theorem uo {m:List Key2} (hok:∀k ∈ m,ok2 k=true) (hr:ql (ids m)=true) (hl:m.length≤32):(xk m).mayB=true:=by
 rw [JV.mayB_iff]
 have hp:∀m:List Key2,(∀k ∈ m,ok2 k=true)→JV.partsB (m.map obj2)=true:=fun m=>by
  induction m with
  | nil=>intro _;rfl
  | cons k r ih =>
   intro h
   rw [List.map_cons,JV.partsB,Bool.and_eq_true]
   exact ⟨ut (gE (h k (by simp))),ih fun x hx=>h x (List.mem_cons_of_mem _ hx)⟩
 have hc:∀m:List Key2,JV.counts (m.map obj2)=3 * m.length:=fun m=>by
  induction m with
  | nil=>rfl
  | cons k r ih =>
   have:JV.count (obj2 k)=3:=rfl
   rw [List.map_cons,JV.counts,ih,this,List.length_cons];omega
 have hd:∀m:List Key2,JV.depths (m.map obj2)≤1:=fun m=>by
  induction m with
  | nil=>exact Nat.zero_le _
  | cons k r ih =>
   have:JV.depth (obj2 k)=1:=rfl
   rw [List.map_cons,JV.depths,this];omega
 have h1:(xk m).partB=true:=by
  unfold xk
  rw [JV.partB,hp m hok]
  have:qn 5 0 ⟨#[]⟩ (m.map id2) (m.map obj2).length=(decide ((0:Int)=0∧(⟨#[]⟩:ByteArray).toList=[]∧(m.map id2).length=(m.map obj2).length) && ql (m.map id2) && (m.map id2).all qe):=rfl
  rw [this,show ql (m.map id2)=true from hr,ByteArray.toList_eq]
  have h2:(m.map id2).all qe=true:=by
   rw [List.all_eq_true]
   intro x hx
   obtain ⟨k,hk,rfl⟩:=List.mem_map.1 hx
   exact sU (hok k hk)
  rw [h2]
  simp
 have h2:(xk m).count≤8192:=by unfold xk;rw [JV.count,hc];omega
 have h3:(xk m).depth≤12:=by
  unfold xk;rw [JV.depth,if_neg (by simp)];have:=hd m;omega
 rw [h1]
 simp [h2,h3]
theorem pH:∀(m:List Key2) (acc:List Key2),(∀k ∈ m,ok2 k=true)→xS (m.map id2) (m.map obj2) acc=(acc ++ m,0)
 | [],acc,_=>by simp [xS]
 | k :: r,acc,h=>by
  have e:=mZ (s:=k.1) (t:=k.2) (h k (by simp))
  rw [List.map_cons,List.map_cons,xS,show obj2 k=xQ k.1 k.2 from rfl,e]
  simp only
  rw [if_neg (by simp),if_pos (by simp [id2]),pH r _ fun x hx=>h x (List.mem_cons_of_mem _ hx)]
  simp
theorem da {m:List Key2} (hok:∀k ∈ m,ok2 k=true) (hr:ql (ids m)=true) (hl:m.length≤32):zL (xk m)=(m,0):=by
 unfold zL
 rw [if_neg (by rw [uo hok hr hl];simp),if_neg (by show ¬(5:Int)≠5;simp),if_neg (by show ¬32<(m.map id2).length;simp;omega)]
 show xS (m.map id2) (m.map obj2) []=_
 rw [pH m [] hok,List.nil_append]
theorem ue {k:Key2} (h:ok2 k=true):k.1.size≤300∧k.2.size≤300:=by
 obtain ⟨_,_,a,b⟩:=yM h
 omega
end Go.Proofs.YtnlgmcapbbgelaaGreatDoor

namespace Go.Proofs.YtnlgmcapbbgelaaGreatDoor
open Go.RowKit Go.Shelf Go.Sort
theorem sM (t s:ByteArray) (w:World) (T:Nat) (ht:t.size≤4294967000) (hs:s.size≤4294967000) :
 Calls Tryz.prog 62 #[.slice (some ⟨w.heap.size,0,none⟩) 2 2] (w.alloc (.cells #[.string ⟨#[112,117,98,108,105,99]⟩,.int .u8 3,.int .i64 0,.string t,.slice none 0 0,.slice none 0 0,.string ⟨#[115,99,104,101,109,101]⟩,.int .u8 3,.int .i64 0,.string s,.slice none 0 0,.slice none 0 0] T))
  (jZ [zE,schN] [txtJ t,txtJ s] (w.alloc (.cells #[.string ⟨#[112,117,98,108,105,99]⟩,.int .u8 3,.int .i64 0,.string t,.slice none 0 0,.slice none 0 0,.string ⟨#[115,99,104,101,109,101]⟩,.int .u8 3,.int .i64 0,.string s,.slice none 0 0,.slice none 0 0] T))):=by
 have:=wm #[wl zE t,wl schN s] #[wl zE t,wl schN s] [txtJ t,txtJ s] w.heap.size 0 2 (w.alloc (.cells #[.string ⟨#[112,117,98,108,105,99]⟩,.int .u8 3,.int .i64 0,.string t,.slice none 0 0,.slice none 0 0,.string ⟨#[115,99,104,101,109,101]⟩,.int .u8 3,.int .i64 0,.string s,.slice none 0 0,.slice none 0 0] T)) 0 0 ?_ (by simp) (by simp) ?_ rfl ?_ ?_ (by simp)
 · exact this
 · exact vM (T:=T) (by rw [heap_alloc_new,uy];rfl)
 · refine gJ _ _ _ fun j hj=>?_
   obtain rfl:j=0:=by simp at hj;omega
   show ltOf cfM (wl schN s) (wl zE t)=false
   show decide (Lib.compareBytes schN.data.toList zE.data.toList<0)=false
   decide
 · intro i hi
   match i,hi with
   | 0,_=>exact ⟨jX _ _ _ _,by simp [txtJ,JV.wt,JV.wts,qm];omega,fun k h=>by simp [txtJ,JV.items] at h⟩
   | 1,_=>exact ⟨jX _ _ _ _,by simp [txtJ,JV.wt,JV.wts,qm];omega,fun k h=>by simp [txtJ,JV.items] at h⟩
 · intro i hi
   obtain rfl:i=0:=by simp at hi;omega
   show zE≠schN
   decide
def mJ (s t:ByteArray) (w:World) (e:Ending) (w':World):Prop :=
 ∃an cn ai ci,e=.returned (.tuple #[.agg #[.int .u8 5,.int .i64 0,.string ⟨#[]⟩,.slice an 2 cn,.slice ai 2 ci],.int .i64 0]) ∧
  Rep w' w.heap.size w'.heap.size (xQ s t) (.agg #[.int .u8 5,.int .i64 0,.string ⟨#[]⟩,.slice an 2 cn,.slice ai 2 ci])∧Below w.heap.size w w'
set_option maxHeartbeats 400000 in
set_option maxRecDepth 100000 in
theorem uQ (s t:ByteArray) (w:World) (hs:s.size≤4294967000) (ht:t.size≤4294967000) (hk:zl s.data.toList t.data.toList=false) :
 Calls Tryz.prog 17 #[.agg #[.string s,.string t]] w fun e w'=>e=.returned (.tuple #[zeroAgg,.int .i64 3])∧Below w.heap.size w w':=by
 have HM:=Lh (mc s t ((w.alloc (.cells #[.string s,.string t] 38)).alloc (.cells #[.int .u8 0,.int .i64 0,.string ⟨#[]⟩,.slice none 0 0,.slice none 0 0] 25)) (by omega) (by omega))
 rw [hk] at HM
 have hr0:=qh (w.alloc (.cells #[.string s,.string t] 38)) (.int .u8 0) (.int .i64 0) (.string ⟨#[]⟩) (.slice none 0 0) (.slice none 0 0) 25
 rw [show (w.alloc (.cells #[.string s,.string t] 38)).heap.size=w.heap.size+1 by simp] at hr0
 have HR0:=Lh hr0
 have HB0:=Lh (show Below w.heap.size w ((w.alloc (.cells #[.string s,.string t] 38)).alloc (.cells #[.int .u8 0,.int .i64 0,.string ⟨#[]⟩,.slice none 0 0,.slice none 0 0] 25)) from ((Below.refl _ _).alloc lz _).alloc (by simp) _)
 clear hk hr0
 go_enter Tryz.func17,Tryz.ntmps17
 go_wp2_with fail
 refine HM.out.mono ?_
 rintro e w1 ⟨rfl,hb1⟩
 have hres:=qx hb1 HR0.out (by simp)
 have HRS:=Lh hres
 have HB1:=Lh (HB0.out.trans (hb1.mono (by simp;omega)))
 obtain ⟨t0,t1,t2,t3,t4⟩:=rc5 hres
 obtain ⟨s0,s1,s2,s3,s4⟩:=rf5 hres
 simp only [qQ] at t0 t1 t2 t3 t4
 clear hres hb1
 go_wp2
 exact bodyPost_ret (qj Tryz.results17 _ _ (w.heap.size+1) 25 _ (0,0) _ rfl (qs (set5 _ _ _ _ _ HRS.out)) Tryz.underlying25 rfl (by kernel_rfl) _ rfl) rfl ⟨rfl,zy _ _ _ _ _ HB1.out (by omega)⟩
set_option maxHeartbeats 1000000 in
set_option maxRecDepth 100000 in
theorem ky (s t:ByteArray) (w:World) (hs:s.size≤4294967000) (ht:t.size≤4294967000) (hk:zl s.data.toList t.data.toList=true) :
 Calls Tryz.prog 17 #[.agg #[.string s,.string t]] w (mJ s t w):=by
 have HM:=Lh (mc s t ((w.alloc (.cells #[.string s,.string t] 38)).alloc (.cells #[.int .u8 0,.int .i64 0,.string ⟨#[]⟩,.slice none 0 0,.slice none 0 0] 25)) (by omega) (by omega))
 rw [hk] at HM
 have hr0:=qh (w.alloc (.cells #[.string s,.string t] 38)) (.int .u8 0) (.int .i64 0) (.string ⟨#[]⟩) (.slice none 0 0) (.slice none 0 0) 25
 rw [show (w.alloc (.cells #[.string s,.string t] 38)).heap.size=w.heap.size+1 by simp] at hr0
 have HR0:=Lh hr0
 have HB0:=Lh (show Below w.heap.size w ((w.alloc (.cells #[.string s,.string t] 38)).alloc (.cells #[.int .u8 0,.int .i64 0,.string ⟨#[]⟩,.slice none 0 0,.slice none 0 0] 25)) from ((Below.refl _ _).alloc lz _).alloc (by simp) _)
 have HX0:=Lh (show ((w.alloc (.cells #[.string s,.string t] 38)).alloc (.cells #[.int .u8 0,.int .i64 0,.string ⟨#[]⟩,.slice none 0 0,.slice none 0 0] 25)).heap[w.heap.size]?=some (.cells #[.string s,.string t] 38 (0,0)) by rw [Below.heap_alloc _ _ _ (by simp)];exact heap_alloc_new w _)
 clear hk hr0
 go_enter Tryz.func17,Tryz.ntmps17
 go_wp2_with fail
 refine HM.out.mono ?_
 clear HM
 rintro e w1 ⟨rfl,hb1⟩
 have HRS:=Lh (qx hb1 HR0.out (by simp))
 have hz1:w.heap.size+2≤w1.heap.size:=by have:=hb1.size;simp at this;omega
 have hx1:w1.heap[w.heap.size]?=some (.cells #[.string s,.string t] 38 (0,0)):=by rw [hb1.block _ (by simp;omega)];exact HX0.out
 have HX1:=Lh hx1
 have HB1:=Lh (HB0.out.trans (hb1.mono (by simp;omega)))
 clear hb1 hx1 HX0 HB0 HR0
 have HC:=Lh (show ∀w':World,Below w1.heap.size w1 w'→w'.cell? ⟨w.heap.size,0,none⟩=some (.string s)∧w'.cell? ⟨w.heap.size,1,none⟩=some (.string t)∧w.heap.size<w'.heap.size from fun w' h=>by
  have:=h.size
  exact ⟨by rw [h.cell (by show w.heap.size<_;omega)];simp [World.cell?,HX1.out],by rw [h.cell (by show w.heap.size<_;omega)];simp [World.cell?,HX1.out],by omega⟩)
 have HT:=Lh (show ∀(u:ByteArray) (w':World),Below w1.heap.size w1 w'→Calls Tryz.prog 65 #[.string u] w' (fun e w''=>e=.returned (.agg #[.int .u8 3,.int .i64 0,.string u,.slice none 0 0,.slice none 0 0])∧Below w1.heap.size w1 w''∧w''.cell? ⟨w.heap.size,0,none⟩=some (.string s)∧w''.cell? ⟨w.heap.size,1,none⟩=some (.string t)∧w.heap.size<w''.heap.size) from fun u w' h=>by
  refine (vU u w').mono ?_
  rintro e w'' ⟨rfl,rfl⟩
  have hb:Below w1.heap.size w1 (w'.alloc (.cells #[.int .u8 3,.int .i64 0,.string u,.slice none 0 0,.slice none 0 0] 25)):=h.alloc h.size _
  exact ⟨rfl,hb,HC.out _ hb⟩)
 have HO:=Lh (show ∀(w':World),Below w1.heap.size w1 w'→Calls Tryz.prog 62 #[.slice (some ⟨w'.heap.size,0,none⟩) 2 2] (w'.alloc (.cells #[.string ⟨#[112,117,98,108,105,99]⟩,.int .u8 3,.int .i64 0,.string t,.slice none 0 0,.slice none 0 0,.string ⟨#[115,99,104,101,109,101]⟩,.int .u8 3,.int .i64 0,.string s,.slice none 0 0,.slice none 0 0] 98)) (fun e w''=>∃an cn ai ci,e=.returned (.tuple #[.agg #[.int .u8 5,.int .i64 0,.string ⟨#[]⟩,.slice an 2 cn,.slice ai 2 ci],.int .i64 0])∧Rep w'' w1.heap.size w''.heap.size (xQ s t) (.agg #[.int .u8 5,.int .i64 0,.string ⟨#[]⟩,.slice an 2 cn,.slice ai 2 ci])∧Below w1.heap.size w1 w''∧w''.cell? ⟨w.heap.size,0,none⟩=some (.string s)∧w''.cell? ⟨w.heap.size,1,none⟩=some (.string t)∧w''.rowIs (w.heap.size+1) 25 5 (qQ (.int .u8 0) (.int .i64 0) (.string ⟨#[]⟩) (.slice none 0 0) (.slice none 0 0))) from fun w' h=>by
  refine (sM t s w' _ ht hs).mono ?_
  rintro e w'' ⟨an,cn,ai,ci,rfl,hr,hb⟩
  have hb2:Below w1.heap.size w1 w'':=(h.alloc h.size _).trans (hb.mono (by have:=h.size;simp;omega))
  have hc:=HC.out _ hb2
  exact ⟨an,cn,ai,ci,rfl,Rep.carry (by have:=h.size;simp;omega) lz (fun _ _ _=>rfl) _ _ hr,hb2,hc.1,hc.2.1,qx hb2 HRS.out (by omega)⟩)
 have hbz:Below w1.heap.size w1 w1.drew:=(Below.refl _ _).drew
 obtain ⟨q0,q1,hzq⟩:=HC.out w1 (Below.refl _ _)
 go_wp2_with fail
 go_region_held3 (fun w'=>w'.cell? ⟨w.heap.size,0,none⟩=some (.string s)∧w'.cell? ⟨w.heap.size,1,none⟩=some (.string t)) (first|(with_reducible exact ⟨q0,q1⟩)|(with_reducible exact ⟨(qc _ hzq).trans q0,(qc _ hzq).trans q1⟩)|(go_keep;done)) (first|(go_at_call 65;(with_reducible refine (HT.out _ _ hbz).mono ?_);rintro e w2 ⟨rfl,hbz,q0,q1,hzq⟩)|(go_at_call 62;(with_reducible refine (HO.out _ hbz).mono ?_);rintro e w5 ⟨an,cn,ai,ci,rfl,hr5,hb5,q0,q1,hres⟩;obtain ⟨t0,t1,t2,t3,t4⟩:=rc5 hres;obtain ⟨s0,s1,s2,s3,s4⟩:=rf5 hres;have HRS5:=Lh hres;have HR5:=Lh hr5;have HB5:=Lh hb5;clear hres hr5 hb5;simp only [qQ] at t0 t1 t2 t3 t4))
 go_wp2
 refine bodyPost_ret (qj Tryz.results17 _ _ (w.heap.size+1) 25 _ (0,0) _ rfl (qs (set5 _ _ _ _ _ HRS5.out)) Tryz.underlying25 rfl (by kernel_rfl) _ rfl) rfl ⟨an,cn,ai,ci,rfl,?_,zy _ _ _ _ _ (HB1.out.trans (HB5.out.mono (by omega))) (by omega)⟩
 exact Rep.carry (by omega) (show w5.heap.size≤_ by simp [World.setCell]) (fun j hj _=>jB _ _ _ _ _ (by omega)) _ _ HR5.out
end Go.Proofs.YtnlgmcapbbgelaaGreatDoor

namespace Go.Proofs.YtnlgmcapbbgelaaGreatDoor
open Go.RowKit
theorem g6 (l:List UInt8) (h:∀c ∈ l,zR c):wu l=l:=by
 induction l with
 | nil=>rfl
 | cons c r ih =>
  have hc:=h c (by simp)
  have e:wu (c :: r)=gG c ++ wu r:=by simp [wu]
  rw [e,ih fun d hd=>h d (by simp [hd])]
  unfold gG zR at *
  rw [if_neg (by omega)];rfl
theorem dt {s t:ByteArray} (h:zl s.data.toList t.data.toList=true):(xQ s t).form false:=by
 obtain ⟨h1,h2,_,_⟩:=yM h
 obtain ⟨n1,n2,n3⟩:=uu
 have e:∀i (hi:i < [zE,schN].length),qe [zE,schN][i]=true:=fun i hi=>by
  match i,hi with
  | 0,_=>exact n1
  | 1,_=>exact n2
 unfold xQ JV.form
 refine ⟨.inr (.inr (.inr (.inr ⟨rfl,rfl,e⟩))),?_⟩
 unfold JV.forms JV.forms JV.forms
 unfold txtJ JV.form
 exact ⟨⟨.inr (.inr (.inl ⟨rfl,h2⟩)),by unfold JV.forms;trivial⟩,⟨.inr (.inr (.inl ⟨rfl,h1⟩)),by unfold JV.forms;trivial⟩,trivial⟩
theorem l8 {s t:ByteArray} (h:zl s.data.toList t.data.toList=true):(xQ s t).enc=jK s.data.toList t.data.toList:=by
 obtain ⟨h1,h2⟩:=pP h
 have e1:=g6 _ (gV h1).1
 have e2:=g6 _ (pZ h2).1
 have e3:zN zE.data.toList=[34,112,117,98,108,105,99,34]:=by decide
 have e4:zN schN.data.toList=[34,115,99,104,101,109,101,34]:=by decide
 unfold xQ txtJ
 simp [JV.enc,JV.encO,sep,e3,e4,jK,lO,lE]
 simp [zN,e1,e2]
end Go.Proofs.YtnlgmcapbbgelaaGreatDoor

namespace Go.Proofs.YtnlgmcapbbgelaaGreatDoor
open Go.RowKit Go.WideMaps Go.Maps
def ze (o m lo hi:Nat) (v:JV) (an ai:Option Addr) (cn ci:Nat) (st:PS) (w:World):Prop :=
 PickAt o m lo hi v an ai cn ci st w∨(zC o st.err w∧o<w.heap.size∧m=o∧hi=0)
theorem ze.lt {o m lo hi:Nat} {v:JV} {an ai:Option Addr} {cn ci:Nat} {st:PS} {w:World} (h:ze o m lo hi v an ai cn ci st w):o<w.heap.size∧m<w.heap.size∧hi≤w.heap.size:=by
 rcases h with h|⟨-,h2,rfl,rfl⟩
 · exact ⟨qz h.obj,by obtain ⟨D,n,h1,_⟩:=h.map;exact h1.lt,h.le⟩
 · exact ⟨h2,h2,Nat.zero_le _⟩
theorem ze.below {o m lo hi:Nat} {v:JV} {an ai:Option Addr} {cn ci:Nat} {st:PS} {w w':World} (h:ze o m lo hi v an ai cn ci st w) (hb:Below w.heap.size w w'):ze o m lo hi v an ai cn ci st w':=by
 rcases h with h|⟨h1,h2,h3,h4⟩
 · exact .inl (h.below hb)
 · exact .inr ⟨h1.below hb h2,Nat.lt_of_lt_of_le h2 hb.size,h3,h4⟩
theorem ze.touch {o m lo hi g:Nat} {v:JV} {an ai:Option Addr} {cn ci:Nat} {st:PS} {w w':World} (h:ze o m lo hi v an ai cn ci st w) (hT:Touch (fun b=>b=g) w w') (ho:g≠o) (hm:g≠m) (hh:hi≤g):ze o m lo hi v an ai cn ci st w':=by
 rcases h with h|⟨h1,h2,h3,h4⟩
 · exact .inl (h.touch hT ho hm hh)
 · exact .inr ⟨h1.touch hT h2 (Ne.symm ho),Nat.lt_of_lt_of_le h2 hT.size,h3,h4⟩
theorem ze.cells {o m lo hi:Nat} {v:JV} {an ai:Option Addr} {cn ci:Nat} {st:PS} {w:World} (h:ze o m lo hi v an ai cn ci st w):∃k,w.cell? ⟨o,6,none⟩=some (.int .i64 st.err)∧w.cell? ⟨o,0,none⟩=some (.int .u8 k)∧(st.err=0→k=5):=by
 rcases h with h|⟨⟨h1,h2,k,h3⟩,-⟩
 · exact ⟨5,qq h.obj rfl,(qq (j:=0) h.obj rfl).trans (by rw [h.kind];rfl),fun _=>rfl⟩
 · exact ⟨k,h2,h3,fun e=>absurd e h1⟩
theorem aB {o m lo hi:Nat} {v:JV} {an ai:Option Addr} {cn ci:Nat} {st:PS} {w:World} (h:ze o m lo hi v an ai cn ci st w) :
 Calls Tryz.prog 98 #[.pointer (some ⟨o,0,none⟩)] w fun e w'=>e=.returned (.int .i64 st.err)∧w=w':=by
 obtain ⟨k,h1,h2,h3⟩:=h.cells
 exact zv o st.err k w h1 h2 h3
def g8 (o m lo hi:Nat) (v:JV) (an ai:Option Addr) (cn ci:Nat) (st:PS) (w w':World):Prop :=
 ze o m lo hi v an ai cn ci st w'∧Touch (fun b=>b=o∨b=m) w w'
theorem fl {v:JV} {y:ByteArray} {st:PS} (h:st.err≠0):qy v y st=(⟨#[]⟩,st):=by unfold qy;rw [if_pos h]
theorem uZ {v:JV} {y:ByteArray} {l h:Int} {st:PS} (he:st.err≠0):qB v y l h st=(0,st):=by unfold qB;rw [if_pos he]
theorem uX {v:JV} {y:ByteArray} {most:Nat} {st:PS} (h:st.err≠0):qv v y most st=(qL,st):=by unfold qv;rw [if_pos h]
theorem l9 {st:PS} {e:Int} (h:st.err≠0):st.fail e=st:=by unfold PS.fail;rw [if_neg h]
theorem rq {o m lo hi:Nat} {v:JV} {an ai:Option Addr} {cn ci:Nat} {st:PS} {w:World} (y:ByteArray) (h:ze o m lo hi v an ai cn ci st w) (hy:y.size≤4294967296) (ha:st.asked.length≤4294967296) :
 Calls Tryz.prog 53 #[.pointer (some ⟨o,0,none⟩),.string y] w fun e w'=>e=.returned (.string (qy v y st).1)∧g8 o m lo hi v an ai cn ci (qy v y st).2 w w':=by
 rcases h with h|⟨h1,h2,h3,h4⟩
 · exact (wS o m lo hi v an ai cn ci y st w h hy ha).mono fun e w' ⟨e1,e2,e3⟩=>⟨e1,.inl e2,e3⟩
 · refine (fu o st.err y w h1).mono fun e w' ⟨e1,e2⟩=>?_
   subst e2
   rw [fl h1.1]
   exact ⟨e1,.inr ⟨h1,h2,h3,h4⟩,Touch.refl _ _⟩
theorem nG {o m lo hi:Nat} {v:JV} {an ai:Option Addr} {cn ci:Nat} {st:PS} {w:World} (y:ByteArray) (l u:Int) (h:ze o m lo hi v an ai cn ci st w) (hy:y.size≤4294967296) (ha:st.asked.length≤4294967296) :
 Calls Tryz.prog 55 #[.pointer (some ⟨o,0,none⟩),.string y,.int .i64 l,.int .i64 u] w fun e w'=>e=.returned (.int .i64 (qB v y l u st).1)∧g8 o m lo hi v an ai cn ci (qB v y l u st).2 w w':=by
 have hlt:=h.lt
 rcases h with h|⟨h1,h2,h3,h4⟩
 · exact (lN o m lo hi v an ai cn ci y l u st w h hy ha hlt.2.1 hlt.1).mono fun e w' ⟨e1,e2,e3⟩=>⟨e1,.inl e2,e3⟩
 · refine (sB o st.err y l u w h1 h2).mono fun e w' ⟨e1,e2⟩=>?_
   rw [uZ h1.1]
   exact ⟨e1,.inr ⟨h1.below e2 h2,Nat.lt_of_lt_of_le h2 e2.size,h3,h4⟩,Touch.of_below e2 lz⟩
def fs (v:JV) (y:ByteArray) (most:Nat) (st:PS) (w:World) (e:Ending) (w':World):Prop :=
 ∃an' cn' ai' ci',e=.returned (.agg #[.int .u8 (qv v y most st).1.kind,.int .i64 (qv v y most st).1.n,.string (qv v y most st).1.t,.slice an' (qv v y most st).1.names.length cn',.slice ai' (qv v y most st).1.items.length ci'])∧Rep w' w.heap.size w'.heap.size (qv v y most st).1 (.agg #[.int .u8 (qv v y most st).1.kind,.int .i64 (qv v y most st).1.n,.string (qv v y most st).1.t,.slice an' (qv v y most st).1.names.length cn',.slice ai' (qv v y most st).1.items.length ci'])
theorem g9 {o m lo hi:Nat} {v:JV} {an ai:Option Addr} {cn ci:Nat} {st:PS} {w:World} (y:ByteArray) (most:Nat) (h:ze o m lo hi v an ai cn ci st w) (hy:y.size≤4294967296) (ha:st.asked.length≤4294967296) :
 Calls Tryz.prog 58 #[.pointer (some ⟨o,0,none⟩),.string y,.int .i64 most] w fun e w'=>fs v y most st w e w'∧g8 o m lo hi v an ai cn ci (qv v y most st).2 w w':=by
 rcases h with h|⟨h1,h2,h3,h4⟩
 · exact (lS o m lo hi v an ai cn ci y most st w h hy ha).mono fun e w' ⟨⟨a,b,c,d,e1,e2⟩,e3,e4⟩=>⟨⟨a,b,c,d,e1,e2⟩,.inl e3,e4⟩
 · refine (sP o st.err y most w h1 h2).mono fun e w' ⟨e1,e2⟩=>?_
   unfold fs
   rw [uX h1.1]
   exact ⟨⟨none,0,none,0,e1,vW _ _ _⟩,.inr ⟨h1.below e2 h2,Nat.lt_of_lt_of_le h2 e2.size,h3,h4⟩,Touch.of_below e2 lz⟩
theorem jT {o m lo hi:Nat} {v:JV} {an ai:Option Addr} {cn ci:Nat} {st:PS} {w:World} (e:Int) (h:ze o m lo hi v an ai cn ci st w) :
 Calls Tryz.prog 54 #[.pointer (some ⟨o,0,none⟩),.int .i64 e] w fun r w'=>r=.returned (.tuple #[])∧g8 o m lo hi v an ai cn ci (st.fail e) w w':=by
 rcases h with h|⟨h1,h2,h3,h4⟩
 · exact (dh o m lo hi v an ai cn ci e st w h).mono fun r w' ⟨e1,e2,e3⟩=>⟨e1,.inl e2,e3⟩
 · refine (nK o st.err e w h1).mono fun r w' ⟨e1,e2⟩=>?_
   subst e2
   rw [l9 h1.1]
   exact ⟨e1,.inr ⟨h1,h2,h3,h4⟩,Touch.refl _ _⟩
theorem co {o m lo hi:Nat} {v:JV} {an ai:Option Addr} {cn ci:Nat} {st:PS} {w:World} (h:ze o m lo hi v an ai cn ci st w) (hv:v.wt≤4294967296) :
 Calls Tryz.prog 60 #[.pointer (some ⟨o,0,none⟩)] w fun e w'=>e=.returned (.int .i64 (qf v st))∧w=w':=by
 rcases h with h|⟨⟨h1,c6,k,c0⟩,h2⟩
 · exact pV o m lo hi v an ai cn ci st w h (fun i hi=>by have h1:=j9 v.names i hi;have h2:=v.wt_eq;omega)
 · refine (fm o st.err k w h1 c6 c0).mono fun e w' ⟨e1,e2⟩=>⟨?_,e2⟩
   rw [e1]
   unfold qf
   rw [if_pos h1]
def st0 (v:JV):PS:=if v.kind=5 then ⟨[],0⟩ else ⟨[],10⟩
def yC (C:JV→Prop) (st:PS) (w:World) (e:Ending) (w':World):Prop :=
 ∃u o m lo hi an ai cn ci,C u∧u.wt≤4294967296∧e=.returned (.pointer (some ⟨o,0,none⟩))∧ze o m lo hi u an ai cn ci st w'∧w.heap.size≤o∧w.heap.size≤m∧Below w.heap.size w w'
def z8 (v u:JV):Prop:=u=if v.kind=5 then v else qL
theorem rz:qL.wt≤4294967296:=by rw [JV.wt_eq];decide
theorem sC {v:JV} {x:Value} {w:World} {lo hi:Nat} {C:JV→Prop} (hR:Rep w lo hi v x) (hk:v.kind≠5) (hC:C qL):Calls Tryz.prog 52 #[x] w (yC C (st0 v) w):=by
 obtain ⟨an,cn,ai,ci,rfl,-⟩:=hR.parts
 refine (gY v.kind v.n v.t _ _ w hk).mono ?_
 rintro e w' ⟨o,e1,e2,e3,e4,e5⟩
 refine ⟨qL,o,o,0,0,none,none,0,0,hC,rz,e1,?_,e2,e2,e5⟩
 unfold st0
 rw [if_neg hk]
 exact .inr ⟨e4,e3,rfl,rfl⟩
theorem rx {v:JV} {x:Value} {w:World} {lo hi:Nat} (hN:v.wt≤4294967296) (hlo:0<lo) (hhi:hi≤w.heap.size) (hR:Rep w lo hi v x) (hp:v.kind=5→ql v.names=true∧v.names.length=v.items.length):Calls Tryz.prog 52 #[x] w (yC (z8 v) (st0 v) w):=by
 by_cases hk:v.kind=5
 · refine (ye v x w lo hi hN hhi hR hk (hp hk).1 (hp hk).2 (fun _ _=>.inl hlo)).mono ?_
   rintro e w' ⟨o,m,lo2,hi2,an,ai,cn,ci,e1,e2,e3,e4,e5⟩
   refine ⟨v,o,m,lo2,hi2,an,ai,cn,ci,?_,hN,e1,?_,e3,e4,e5⟩
   · unfold z8;rw [if_pos hk]
   · unfold st0;rw [if_pos hk];exact .inl e2
 · exact sC hR hk (by unfold z8;rw [if_neg hk])
end Go.Proofs.YtnlgmcapbbgelaaGreatDoor

namespace Go.Proofs.YtnlgmcapbbgelaaGreatDoor
open Go.RowKit
structure AuthV where
 thr:Int
 ids:List ByteArray
deriving DecidableEq
def authZ:AuthV:=⟨0,[]⟩
def qZ (a:AuthV):Bool:=jf a.thr a.ids
def qX:ByteArray:=⟨#[107,101,121,105,100,115]⟩
def thrN:ByteArray:=⟨#[116,104,114,101,115,104,111,108,100]⟩
def ce (l:List JV):JV:=.mk 4 0 ⟨#[]⟩ [] l
def qF (l:List ByteArray):JV:=ce (l.map txtJ)
def vQ (a:AuthV):List NJ:=[(qX,qF a.ids),(thrN,qV a.thr)]
def qd (a:AuthV):JV:=xr (vQ a)
def qg (v:JV) (y:ByteArray) (most:Nat) (st:PS):List ByteArray × PS :=
 if st.err≠0 then ([],st) else match v.look y with
 | none=>([],⟨st.asked,6⟩)
 | some it=>if it.kind≠4 then ([],⟨st.asked,10⟩) else if most<it.items.length then ([],⟨st.asked,5⟩) else if it.items.all (fun x=>decide (x.kind=3)) then (it.items.map JV.t,⟨y :: st.asked,0⟩) else ([],⟨st.asked,10⟩)
def yJ (v:JV) (st:PS):PS:=(if (qg v qX 16 st).1=[] then (qg v qX 16 st).2.fail 4 else (qg v qX 16 st).2).fail (zG [] (qg v qX 16 st).1)
def uJ (v:JV) (st:PS):Int × PS:=qB v thrN 1 ((qg v qX 16 st).1.length:Int) (yJ v st)
def jl (v:JV) (st:PS):AuthV × PS:=(if (uJ v st).2.err≠0 then authZ else ⟨(uJ v st).1,(qg v qX 16 st).1⟩,(uJ v st).2)
def ft (v:JV):AuthV × Int:=if qf v (jl v ⟨[],0⟩).2≠0 then (authZ,qf v (jl v ⟨[],0⟩).2) else ((jl v ⟨[],0⟩).1,0)
def qA (v:JV):AuthV × Int:=if v.mayB=false then (authZ,3) else if v.kind≠5 then (authZ,10) else ft v
theorem mK {l:List JV} (h:∀x ∈ l,x.partB=true):(ce l).partB=true:=by
 rw [JV.partB_eq]
 show (qn 4 0 ⟨#[]⟩ [] l.length && JV.partsB l)=true
 rw [wA l h]
 unfold qn
 rw [if_neg (by decide),if_neg (by decide),if_neg (by decide),if_pos rfl]
 have h2:(⟨#[]⟩:ByteArray).toList=[]:=by rw [ByteArray.toList_eq]
 simp [h2]
theorem bq:ql [qX,thrN]=true∧qe qX=true∧qe thrN=true∧qX≠thrN:=by
 refine ⟨by kernel_rfl,?_,?_,by decide⟩
 all_goals
  refine zx ?_ (by decide)
  intro c hc
  unfold zR
  revert c
  decide
theorem z7 {a:AuthV} (h:qZ a=true):(1≤a.ids.length∧a.ids.length≤16)∧(1≤a.thr∧a.thr≤a.ids.length)∧zG [] a.ids=0:=by
 unfold qZ jf at h
 simp only [Bool.and_eq_true,decide_eq_true_eq] at h
 exact ⟨⟨h.1.1,h.1.2.1⟩,h.1.2.2,h.2⟩
theorem jr:∀(l seen:List ByteArray),zG seen l=0→∀x ∈ l,yQ x=true
 | [],_,_,x,hx=>by simp at hx
 | y :: r,seen,h,x,hx=>by
  unfold zG at h
  split at h
  · rename_i h1
    split at h
    · cases h
    · rcases List.mem_cons.1 hx with e|e
      · rw [e];exact h1
      · exact jr r _ h x e
  · cases h
theorem k9 {x:ByteArray} (h:yQ x=true):qe x=true∧x.size=64:=by
 unfold yQ at h
 simp only [Bool.and_eq_true,decide_eq_true_eq] at h
 refine ⟨zx ?_ (by omega),h.1⟩
 intro c hc
 have h2:=List.all_eq_true.1 (by unfold jz at h;exact h.2) c hc
 unfold xa at h2
 unfold zR
 simp at h2 ⊢
 omega
theorem mV (a:AuthV):(qd a).look qX=some (qF a.ids)∧(qd a).look thrN=some (qV a.thr):=by
 have h:=bq.2.2.2
 constructor
 · show zw [qX,thrN] [qF a.ids,qV a.thr] qX=_
   simp [zw]
 · show zw [qX,thrN] [qF a.ids,qV a.thr] thrN=_
   simp [zw,h]
theorem fi {v:JV} {y:ByteArray} {l:List ByteArray} {most:Nat} {a:List ByteArray} (h:v.look y=some (qF l)) (hl:l.length≤most):qg v y most ⟨a,0⟩=(l,⟨y :: a,0⟩):=by
 unfold qg
 rw [if_neg (by simp),h]
 show (if (qF l).kind≠4 then _ else _:List ByteArray × PS)=_
 have hi:(qF l).items=l.map txtJ:=rfl
 rw [if_neg (by simp [qF,ce,JV.kind]),hi,if_neg (by rw [List.length_map];omega),if_pos (by simp [txtJ,JV.kind])]
 have hm:(l.map txtJ).map JV.t=l:=by rw [List.map_map];exact (List.map_congr_left fun x _=>rfl).trans (List.map_id l)
 rw [hm]
theorem de {a:AuthV} (h:qZ a=true):ft (qd a)=(a,0):=by
 obtain ⟨hl,ht,hi⟩:=z7 h
 obtain ⟨e1,e2⟩:=mV a
 have p1:qg (qd a) qX 16 ⟨[],0⟩=(a.ids,⟨[qX],0⟩):=fi e1 hl.2
 have hne:¬a.ids=[]:=fun e=>by rw [e] at hl;simp at hl
 have p2:yJ (qd a) ⟨[],0⟩=⟨[qX],0⟩:=by
  unfold yJ
  rw [p1]
  dsimp only
  rw [if_neg hne,hi]
  rfl
 have p3:uJ (qd a) ⟨[],0⟩=(a.thr,⟨[thrN,qX],0⟩):=by
  unfold uJ
  rw [p1,p2]
  exact gP e2 ht.1 ht.2
 have p4:jl (qd a) ⟨[],0⟩=(a,⟨[thrN,qX],0⟩):=by
  unfold jl
  rw [p3,p1]
  rfl
 have p5:qf (qd a) ⟨[thrN,qX],0⟩=0:=by
  unfold qf
  rw [if_neg (by simp),if_pos]
  simp [qd,xr,JV.names,vQ]
 unfold ft
 rw [p4,p5,if_neg (by simp)]
theorem wZ {a:AuthV} (h:qZ a=true):(qd a).partB=true∧(qd a).count≤40∧(qd a).depth≤2:=by
 obtain ⟨hl,ht,hi⟩:=z7 h
 obtain ⟨n1,n2,n3,n4⟩:=bq
 have hx:=jr _ _ hi
 have h0:∀x ∈ a.ids.map txtJ,x.partB=true∧x.count≤1∧x.depth≤0:=fun x hx'=>by
  obtain ⟨b,hb,rfl⟩:=List.mem_map.1 hx'
  have:=fc b
  exact ⟨wI (k9 (hx b hb)).1,Nat.le_of_eq this.1,Nat.le_of_eq this.2⟩
 have hc:(qF a.ids).count≤17:=by
  rw [JV.count_eq]
  have:=counts_le 1 (a.ids.map txtJ) fun x hx'=>(h0 x hx').2.1
  rw [List.length_map] at this
  show 1+JV.counts (a.ids.map txtJ)≤_
  omega
 have hd:(qF a.ids).depth≤1:=by
  rw [JV.depth_eq]
  have:=kw 0 (a.ids.map txtJ) fun x hx'=>(h0 x hx').2.2
  rw [if_neg (by simp [qF,ce,JV.kind])]
  show JV.depths (a.ids.map txtJ)+1≤_
  omega
 have hp:∀p ∈ vQ a,qe p.1=true∧p.2.partB=true∧p.2.count≤17∧p.2.depth≤1:=fun p hp=>by
  simp only [vQ,List.mem_cons,List.not_mem_nil,or_false] at hp
  have:=cf a.thr
  rcases hp with rfl|rfl
  · exact ⟨n2,mK fun x hx'=>(h0 x hx').1,hc,hd⟩
  · exact ⟨n3,pW _,Nat.le_trans (Nat.le_of_eq this.1) (by decide),Nat.le_trans (Nat.le_of_eq this.2) (by decide)⟩
 refine ⟨wT ⟨n1,fun p h=>⟨(hp p h).1,(hp p h).2.1⟩⟩,?_,vL 1 fun p h=>(hp p h).2.2.2⟩
 have:=vD 17 fun p h=>(hp p h).2.2.1
 have e:(vQ a).length=2:=rfl
 rw [e] at this
 show (xr (vQ a)).count≤40
 omega
theorem dQ {a:AuthV} (h:qZ a=true):(qd a).mayB=true:=by
 obtain ⟨h1,h2,h3⟩:=wZ h
 rw [JV.mayB_iff,h1,decide_eq_true (by omega),decide_eq_true (by omega)];rfl
end Go.Proofs.YtnlgmcapbbgelaaGreatDoor

namespace Go.Proofs.YtnlgmcapbbgelaaGreatDoor
open Go.RowKit Go.WideMaps Go.Maps
def qI (it:JV) (most:Nat):Int:=if it.kind≠4 then 10 else if most<it.items.length then 5 else 0
def qS (it:JV) (most:Nat):Int:=if qI it most≠0 then qI it most else if it.items.all (fun x=>decide (x.kind=3)) then 0 else 10
def kg (it:JV) (most:Nat):List ByteArray:=if qS it most=0 then it.items.map JV.t else []
theorem uK {it:JV} {most:Nat} (e:qS it most=0):it.kind=4∧¬most<it.items.length∧it.items.all (fun x=>decide (x.kind=3))=true:=by
 unfold qS qI at e
 by_cases h1:it.kind=4
 · by_cases h2:most<it.items.length
   · simp [h1,h2] at e
   · cases h3:it.items.all (fun x=>decide (x.kind=3)) with
     | true=>exact ⟨h1,h2,rfl⟩
     | false=>simp [h1,h2,h3] at e
 · simp [h1] at e
theorem uV {it:JV} {a:List ByteArray} {most:Nat} {X:List ByteArray × PS} (e:¬qS it most=0) :
 (if it.kind≠4 then ([],(⟨a,10⟩:PS)) else if most<it.items.length then ([],⟨a,5⟩) else if it.items.all (fun x=>decide (x.kind=3)) then X else ([],⟨a,10⟩))=([],⟨a,qS it most⟩):=by
 unfold qS qI at e ⊢
 by_cases h1:it.kind=4
 · by_cases h2:most<it.items.length
   · simp [h1,h2]
   · cases h3:it.items.all (fun x=>decide (x.kind=3)) with
     | true=>simp [h1,h2,h3] at e
     | false=>simp [h1,h2]
 · simp [h1]
theorem bz {it:JV} {most:Nat} (h:qI it most≠0):qS it most=qI it most:=by unfold qS;rw [if_pos h]
set_option maxHeartbeats 1000000 in
set_option maxRecDepth 100000 in
theorem dZ (it:JV) (most:Nat) (an' ai':Option Addr) (cn' ci':Nat) (w:World) :
 Calls Tryz.prog 209 #[.agg #[.int .u8 it.kind,.int .i64 it.n,.string it.t,.slice an' it.names.length cn',.slice ai' it.items.length ci'],.int .i64 most] w fun e w'=>e=.returned (.tuple #[if qI it most=0 then .slice ai' it.items.length ci' else .slice none 0 0,.int .i64 (qI it most)])∧Below w.heap.size w w':=by
 have HB:=Lh (show Below w.heap.size w (w.alloc (.cells #[.int .u8 it.kind,.int .i64 it.n,.string it.t,.slice an' it.names.length cn',.slice ai' it.items.length ci'] 25)) from (Below.refl _ _).alloc lz _)
 by_cases hk:it.kind=4
 · by_cases h1:most<it.items.length
   · have HV:=Lh (show qI it most=5 by unfold qI;rw [if_neg (by simp [hk]),if_pos h1])
     rw [HV.out,if_neg (show ¬(5:Int)=0 by decide)]
     rw [hk] at HB ⊢
     have h1':decide ((most:Int)<(it.items.length:Int))=true:=by simpa using h1
     clear hk
     go_enter Tryz.func209,Tryz.ntmps209
     go_wp2
     go_ret2
     exact ⟨rfl,HB.out⟩
   · have HV:=Lh (show qI it most=0 by unfold qI;rw [if_neg (by simp [hk]),if_neg h1])
     rw [HV.out,if_pos rfl]
     rw [hk] at HB ⊢
     have h1':decide ((most:Int)<(it.items.length:Int))=false:=by simpa using h1
     clear hk
     go_enter Tryz.func209,Tryz.ntmps209
     go_wp2
     go_ret2
     exact ⟨rfl,HB.out⟩
 · have HV:=Lh (show qI it most=10 by unfold qI;rw [if_pos hk])
   rw [HV.out,if_neg (show ¬(10:Int)=0 by decide)]
   have hk':(it.kind != 4)=true:=by simpa using hk
   clear hk
   go_enter Tryz.func209,Tryz.ntmps209
   go_wp2
   go_ret2
   exact ⟨rfl,HB.out⟩
def jI (it:JV) (most:Nat) (w:World) (e:Ending) (w':World):Prop :=
 ∃a c,e=.returned (.tuple #[.slice a (kg it most).length c,.int .i64 (qS it most)])∧qk w' w.heap.size w'.heap.size a (kg it most)∧Below w.heap.size w w'
theorem pU {it:JV} {most:Nat} {w w':World} {er:Int} (h:qS it most=er) (h0:er≠0) (hb:Below w.heap.size w w'):jI it most w (.returned (.tuple #[.slice none 0 0,.int .i64 er])) w':=by
 unfold jI kg
 rw [h,if_neg h0]
 exact ⟨none,0,rfl,.inl rfl,hb⟩
set_option maxHeartbeats 2000000 in
set_option maxRecDepth 100000 in
theorem dX (it:JV) (most p1:Nat) (an' ai':Option Addr) (cn' ci' lo:Nat) (w:World) (hN:it.wt≤4294967296) (hR:Rep w lo w.heap.size it (.agg #[.int .u8 it.kind,.int .i64 it.n,.string it.t,.slice an' it.names.length cn',.slice ai' it.items.length ci'])) (c1:w.cell? ⟨p1,0,none⟩=some (.int .i64 most)) :
 Calls Tryz.prog 208 #[.agg #[.int .u8 it.kind,.int .i64 it.n,.string it.t,.slice an' it.names.length cn',.slice ai' it.items.length ci'],.pointer (some ⟨p1,0,none⟩)] w (jI it most w):=by
 obtain ⟨an2,cn2,ai2,ci2,hx,-,-,-,h4⟩:=hR.parts
 simp only [Value.agg.injEq,Array.mk.injEq,List.cons.injEq,Value.slice.injEq,true_and,and_true] at hx
 obtain ⟨⟨rfl,rfl⟩,rfl,rfl⟩:=hx
 obtain ⟨W,hW⟩:∃W,W=w.alloc (.cells #[.int .u8 it.kind,.int .i64 it.n,.string it.t,.slice an' it.names.length cn',.slice ai' it.items.length ci'] 25):=⟨_,rfl⟩
 have hb:Below w.heap.size w W:=by rw [hW];exact (Below.refl _ _).alloc lz _
 have d1:W.cell? ⟨p1,0,none⟩=some (.int .i64 most):=by rw [hb.cell (World.block_lt_of_cell? w _ c1)];exact c1
 have hx0:W.heap[w.heap.size]?=some (.cells #[.int .u8 it.kind,.int .i64 it.n,.string it.t,.slice an' it.names.length cn',.slice ai' it.items.length ci'] 25 (0,0)):=by rw [hW];exact heap_alloc_new w _
 have HI:=Lh (dZ it most an' ai' cn' ci' W)
 have HBW:=Lh hb
 have H4:=Lh h4
 have HW:=Lh hW
 have HLN:=Lh (show it.items.length≤4294967296 by have:=it.wt_bd;omega)
 obtain ⟨x0,x1,x2,x3,x4⟩:=bx5 hx0
 clear hb c1 hW h4 hR hx0 hN
 obtain ⟨nn,hnn⟩:∃nn,nn=it.items.length:=⟨_,rfl⟩
 rw [← hnn] at HI HLN x4 ⊢
 rw [← hnn] at HW
 have HNN:=Lh hnn
 clear hnn
 by_cases hie:qI it most=0
 case neg =>
  have HV:=Lh (bz hie)
  obtain ⟨er,her⟩:∃er,er=qI it most:=⟨_,rfl⟩
  rw [if_neg hie,← her] at HI
  rw [← her] at HV hie
  have h1:(er != 0)=true:=by simpa using hie
  have HNE:=Lh hie
  clear hie her
  go_enter Tryz.func208,Tryz.ntmps208
  go_upto_region 1 with fail
  rw [← HW.out]
  go_wp2_with fail
  refine HI.out.mono ?_
  rintro e w1 ⟨rfl,hb1⟩
  have HB1:=Lh (HBW.out.trans (hb1.mono HBW.out.size))
  clear hb1
  go_wp2
  go_ret2
  exact pU HV.out HNE.out HB1.out
 have HV:=Lh (show qS it most=if it.items.all (fun x=>decide (x.kind=3)) then 0 else 10 by unfold qS;rw [if_neg (by simp [hie])])
 rw [if_pos hie,hie] at HI
 clear hie
 obtain ⟨i2,hi2,hx0,hx1,hx2⟩:=info_parts yU
 go_enter Tryz.func208,Tryz.ntmps208
 go_upto_region 1 with fail
 rw [← HW.out]
 go_wp2_with fail
 refine HI.out.mono ?_
 clear HI
 rintro e w1 ⟨rfl,hb1⟩
 have HB1:=Lh (HBW.out.trans (hb1.mono HBW.out.size))
 clear hb1 HW x0 x1 x2 x3 x4 d1
 go_wp2
 go_loopw [7,9,21] (fun vs _ i wr=>∃(k:Nat),k≤nn∧i=.int .i64 k∧(∀j (h:j<it.items.length),j<k→it.items[j].kind=3)∧wr.ownsRow w1.heap.size 9 1 vs k (((it.items.map JV.t).take k).map .string)∧Below w1.heap.size w1 wr) (fun _ _ i _=>nn - (intOf i).toNat)
 case atStart=>exact ⟨0,by omega,rfl,fun j _ h=>by omega,World.ownsRow_nil _ _ _ _,Below.refl _ _⟩
 case round =>
  obtain ⟨k,hk,rfl,hal,hown,hbel⟩:=hrel
  have hlk:((it.items.map JV.t).take k).length=k:=by rw [List.length_take,List.length_map,← HNN.out];omega
  obtain ⟨am,cm,hv0,-,-⟩:=xI hown hlk.symm
  rw [hlk] at hv0
  subst hv0
  clear hlk
  have HB:Hid (Below w.heap.size w wr):=HB1.out.trans (hbel.mono HB1.out.size)
  have HBL:=Lh hbel
  have HO:=Lh hown
  have HAL:=Lh hal
  clear hal
  by_cases hlt:k<nn
  · have hlt':k<it.items.length:=by rw [← HNN.out];exact hlt
    obtain ⟨b,off,an3,cn3,ai3,ci3,rfl,_,hbz,y0,y1,y2,y3,y4,_⟩:=(H4.out.below HB.out lz lz HB.out.size).get k hlt'
    have HTK:=Lh (show ((it.items.map JV.t).take (k+1)).map Value.string=((it.items.map JV.t).take k).map .string ++ [.string it.items[k].t] by rw [List.take_succ_eq_append_getElem (by simpa using hlt'),List.map_append];simp)
    have HKA:=Lh (show it.items[k].kind≠3→it.items.all (fun x=>decide (x.kind=3))=false from fun h=>List.all_eq_false.2 ⟨it.items[k],List.getElem_mem _,by simpa using h⟩)
    have HKB:=Lh (show it.items[k].kind=3→∀j (h:j<it.items.length),j<k+1→it.items[j].kind=3 from fun h j hj hjk=>by
     rcases Nat.lt_succ_iff_lt_or_eq.1 hjk with h1|h1
     · exact HAL.out j hj h1
     · subst h1;exact h)
    obtain ⟨vo,hvo⟩:∃vo,vo=(Value.slice (some ⟨b,off,none⟩) nn ci'):=⟨_,rfl⟩
    clear vo hvo
    generalize it.items[k]=x at *
    have hz:w1.heap.size≤wr.heap.size:=hbel.size
    obtain ⟨WX,hWX⟩:∃WX,WX=wr.alloc (.cells #[.int .u8 x.kind,.int .i64 x.n,.string x.t,.slice an3 x.names.length cn3,.slice ai3 x.items.length ci3] 25):=⟨_,rfl⟩
    have hbX:Below wr.heap.size wr WX:=by rw [hWX];exact (Below.refl _ _).alloc lz _
    have hxX:WX.heap[wr.heap.size]?=some (.cells #[.int .u8 x.kind,.int .i64 x.n,.string x.t,.slice an3 x.names.length cn3,.slice ai3 x.items.length ci3] 25 (0,0)):=by rw [hWX];exact heap_alloc_new wr _
    have HBX:=Lh (HBL.out.trans (hbX.mono hz))
    have HOX:=Lh (qJ HO.out hbX)
    have HBZ:=Lh (HB.out.trans (hbX.mono HB.out.size))
    have hzX:w1.heap.size≤WX.heap.size:=by rw [hWX];simp;omega
    have HWX:=Lh hWX
    have z0:WX.cell? ⟨wr.heap.size,0,none⟩=some (.int .u8 x.kind):=qq hxX rfl
    have z2:WX.cell? ⟨wr.heap.size,2,none⟩=some (.string x.t):=qq hxX rfl
    clear hbel hown hbX hxX hWX
    by_cases hk3:x.kind=3
    · have HK3:=Lh (HKB.out hk3)
      have h3:(x.kind != 3)=false:=by simpa using hk3
      have hnb:=HLN.out
      clear hk3 HKA HKB
      go_upto_region 8 with fail
      rw [← HWX.out]
      go_wp2_with (at_builtin;refine wpList_append_lies _ rfl (.tmp 28) (.tmp 31) 22 rfl w1.heap.size 9 i2 _ 1 16 Tryz.underlying22 hi2 hx0 hx1 hx2 rfl (by decide) (.slice am k cm) k (((it.items.map JV.t).take k).map .string) rfl (HOX.out.alloc _) ⟨WX.heap.size,0,none⟩ 1 1 [.string x.t] rfl rfl (World.news_of_block (cs:=#[.string x.t]) (t:=9) (fr:=(0,0)) (heap_alloc_new WX _)) (by simp [Value.oneCell']) (by omega) (by unfold maxLen;omega) (by omega) (by simp;omega) (WX.heap.size+1) (by simp) ?_;intro g1 cap2 w6 hown6 hgrow6 hat6 hlt6;have HO6:=Lh hown6;have HG6:=Lh hgrow6;clear hown6 hgrow6 hat6)
      go_roundw
      case rel =>
       refine ⟨k+1,by omega,by go_num,HK3.out,?_,below_grown (HBX.out.alloc (by omega) _) (by simp;omega) HG6.out (fun b hb=>(HOX.out.lt b hb).1)⟩
       rw [HTK.out]
       exact HO6.out
      case measure=>simp [intOf];omega
    · have HV2:=Lh (show qS it most=10 by rw [HV.out,HKA.out hk3];rfl)
      have h3:(x.kind != 3)=true:=by simpa using hk3
      clear hk3 HKA HKB
      go_upto_region 8 with fail
      rw [← HWX.out]
      go_wp2
      go_ret2
      exact pU HV2.out (by decide) HBZ.out
  · obtain rfl:k=nn:=by omega
    have HV2:=Lh (show qS it most=0 by
     rw [HV.out,if_pos]
     refine List.all_eq_true.2 fun x hx=>?_
     obtain ⟨j,hj,rfl⟩:=List.getElem_of_mem hx
     simpa using HAL.out j hj (by rw [HNN.out];exact hj))
    have hlm:(it.items.map JV.t).length=k:=by rw [List.length_map,HNN.out]
    rw [List.take_of_length_le (Nat.le_of_eq hlm)] at hown
    obtain ⟨a5,c5,hv6,_,hv5⟩:=xI hown hlm.symm
    rw [hlm] at hv6
    simp only [Value.slice.injEq,true_and] at hv6
    obtain ⟨rfl,rfl⟩:=hv6
    have HV5:=Lh hv5
    have HLM:=Lh hlm
    clear hown hv5 hbel hlm
    go_wp2
    go_ret2
    have e1:kg it most=it.items.map JV.t:=by unfold kg;rw [if_pos HV2.out]
    unfold jI
    rw [e1,HV2.out,HLM.out]
    exact ⟨am,cm,rfl,HV5.out.carry HB1.out.size lz (fun _ _ _=>rfl),HB.out⟩
def kf (o m lo hi:Nat) (v:JV) (an ai:Option Addr) (cn ci:Nat) (y:ByteArray) (most:Nat) (st:PS) (w:World) (e:Ending) (w':World):Prop :=
 (∃a c,e=.returned (.slice a (qg v y most st).1.length c)∧qk w' w.heap.size w'.heap.size a (qg v y most st).1)∧PickAt o m lo hi v an ai cn ci (qg v y most st).2 w'∧Touch (fun b=>b=o∨b=m) w w'
theorem vN {o m lo hi:Nat} {v:JV} {an ai:Option Addr} {cn ci:Nat} {y:ByteArray} {most:Nat} {st st':PS} {w w':World} (h:qg v y most st=([],st')) (hP:PickAt o m lo hi v an ai cn ci st' w') (hT:Touch (fun b=>b=o∨b=m) w w'):kf o m lo hi v an ai cn ci y most st w (.returned (.slice none 0 0)) w':=by
 unfold kf
 rw [h]
 exact ⟨⟨none,0,rfl,.inl rfl⟩,hP,hT⟩
set_option maxHeartbeats 2000000 in
set_option maxRecDepth 100000 in
theorem dJ (o m lo hi:Nat) (v:JV) (an ai:Option Addr) (cn ci:Nat) (y:ByteArray) (most:Nat) (st:PS) (w:World) (hP:PickAt o m lo hi v an ai cn ci st w) (hy:y.size≤4294967296) (ha:st.asked.length≤4294967296) (p1:Nat) (g1:w.heap[p1]?=some (.cells #[.int .i64 most] 3 (0,0))) :
 Calls Tryz.prog 207 #[.pointer (some ⟨o,0,none⟩),.string y,.func (.func 208) #[] #[.pointer (some ⟨p1,0,none⟩)]] w (kf o m lo hi v an ai cn ci y most st w):=by
 have HP:=Lh hP
 have HG1:=Lh g1
 clear hP g1
 have c6:w.cell? ⟨o,6,none⟩=some (.int .i64 st.err):=qq HP.out.obj rfl
 have c0:w.cell? ⟨o,0,none⟩=some (.int .u8 5):=(qq (j:=0) HP.out.obj rfl).trans (by rw [HP.out.kind];rfl)
 by_cases he:st.err=0
 · rw [he] at c6
   have HE:=Lh he
   clear he
   have c1:w.cell? ⟨o,1,none⟩=some (.int .i64 v.n):=qq HP.out.obj rfl
   have c2:w.cell? ⟨o,2,none⟩=some (.string v.t):=qq HP.out.obj rfl
   have c3:w.cell? ⟨o,3,none⟩=some (.slice an v.names.length cn):=qq HP.out.obj rfl
   have c4:w.cell? ⟨o,4,none⟩=some (.slice ai v.items.length ci):=qq HP.out.obj rfl
   have HR:=Lh HP.out.rep
   rw [HP.out.kind] at HR
   have HG:=Lh (kG v y _ w lo hi HP.out.wt HP.out.pos HP.out.le HR.out HP.out.kind HP.out.rise HP.out.len)
   go_enter Tryz.func207,Tryz.ntmps207
   go_wp2_with fail
   refine (zv o 0 5 w c6 c0 (fun _=>rfl)).mono ?_
   rintro r w' ⟨rfl,rfl⟩
   go_wp2_with fail
   refine HG.out.mono ?_
   clear HG c0 c1 c2 c3 c4 c6
   rintro e w1 ⟨hh,hb1⟩
   have HB1:=Lh hb1
   clear hb1
   rcases hh with ⟨r,hr1,hr2,hre,an',cn',ai',ci',rfl,hrep⟩|⟨hno,rfl⟩
   · have HL:=Lh (kE HP.out.rise r hr1 hr2 hre)
     have HREP:=Lh hrep
     have HWT:=Lh (show v.items[r].wt≤4294967296 by have h1:=JV.wts_get v.items r hr2;have h2:=v.wt_bd;have h3:=HP.out.wt;omega)
     clear hre hrep
     generalize v.items[r]=it at *
     have hb2:Below w.heap.size w (w1.alloc (.cells #[.int .u8 it.kind,.int .i64 it.n,.string it.t,.slice an' it.names.length cn',.slice ai' it.items.length ci'] 25)):=HB1.out.alloc HB1.out.size _
     have HB2:=Lh hb2
     have HC:=Lh (dX it most p1 an' ai' cn' ci' w.heap.size (w1.alloc (.cells #[.int .u8 it.kind,.int .i64 it.n,.string it.t,.slice an' it.names.length cn',.slice ai' it.items.length ci'] 25)) HWT.out (HREP.out.below ((Below.refl _ _).alloc lz _) lz lz (by simp)) (qq ((hb2.block _ (qz HG1.out)).trans HG1.out) rfl))
     clear hb2
     unfold jI at HC
     by_cases hk:qS it most=0
     · have HX:=Lh (show qg v y most st=(it.items.map JV.t,⟨y :: st.asked,0⟩) by unfold qg;rw [if_neg (by simp [HE.out]),HL.out];obtain ⟨q1,q2,q3⟩:=uK hk;simp only;rw [if_neg (by simp [q1]),if_neg q2,if_pos q3])
       rw [show kg it most=it.items.map JV.t by unfold kg;rw [if_pos hk],hk] at HC
       clear hk
       obtain ⟨L,hL⟩:∃L,L=it.items.map JV.t:=⟨_,rfl⟩
       rw [← hL] at HC HX
       clear hL
       go_wp2_with fail
       refine HC.out.mono ?_
       clear HC
       rintro e w2 ⟨al,cl,rfl,hsl,hb3⟩
       have HB3:=Lh (HB2.out.trans (hb3.mono HB2.out.size))
       have HP3:=Lh (HP.out.below HB3.out)
       have HSL:=Lh hsl
       have HZL:=Lh (show w.heap.size<(w1.alloc (.cells #[.int .u8 it.kind,.int .i64 it.n,.string it.t,.slice an' it.names.length cn',.slice ai' it.items.length ci'] 25)).heap.size from by have:=HB1.out.size;simp;omega)
       have HMZ:=Lh (show m<w.heap.size from by obtain ⟨D,n,h,_⟩:=HP.out.map;exact h.lt)
       clear hb3 HB2 hsl
       have d5:w2.cell? ⟨o,5,none⟩=some (.map (some m)):=qq HP3.out.obj rfl
       have hkey:keyOf Tryz.prog 9 (.string y)=some (.string y.data.toList):=keyOf_string_mk Tryz.underlying9 (by unfold maxLen;omega)
       obtain ⟨D,n,hown,hn,hD⟩:=HP3.out.map
       obtain ⟨c,hat,hc0,hc1,hc2⟩:=hD.2 y
       obtain ⟨c',hrun,hat',_⟩:=hown.lookup_int kx Tryz.underlying124 Tryz.underlying3 (k6 _) hkey
       rw [hat] at hat'
       simp only [DataW.lit.injEq,Lit.int.injEq,true_and] at hat'
       subst hat'
       have HD:=Lh (hD.cons y c hat)
       have HKY:=Lh hkey
       have HOW:=Lh hown
       clear hD hat hc2 hkey hown
       go_wp2_with (at_mapUpdate;refine wpList_mapUpdate_own _ rfl _ _ _ 124 rfl 9 3 kx Tryz.underlying124 _ m n D rfl HOW.out (by unfold maxLen;omega) _ _ _ rfl rfl HKY.out _ [] (plainElem_int Tryz.underlying3 (WalkArith.wf_i64 (by omega))) ?_)
       intro w3 hown3 hgrow3
       have HP4:=Lh (HP3.out.ask y hgrow3 hown3 (by omega) HD.out)
       have HT:=Lh (show Touch (fun b=>b=o∨b=m) w w3 from ⟨by rw [hgrow3.os,HB3.out.os],by rw [hgrow3.tape,HB3.out.tape],by rw [hgrow3.output,HB3.out.output],Nat.le_trans HB3.out.size hgrow3.size,fun k hk hs=>by rw [hgrow3.block k (Nat.lt_of_lt_of_le hk HB3.out.size) (fun e=>hs (.inr (Option.some.inj e))),HB3.out.block k hk]⟩)
       have HS3:=Lh (show qk w3 w.heap.size w3.heap.size al L from HSL.out.carry (Nat.le_of_lt HZL.out) hgrow3.size fun b h1 h2=>hgrow3.block b h2 (fun e=>by have:=Option.some.inj e;have:=HZL.out;have:=HMZ.out;omega))
       clear hgrow3 hown3
       rw [HE.out] at HP4
       go_wp2
       go_ret
       unfold kf
       rw [HX.out]
       exact ⟨⟨al,cl,rfl,HS3.out⟩,HP4.out,HT.out⟩
     · have HX:=Lh (show qg v y most st=([],⟨st.asked,qS it most⟩) by unfold qg;rw [if_neg (by simp [HE.out]),HL.out];exact uV hk)
       rw [show kg it most=[] by unfold kg;rw [if_neg hk]] at HC
       obtain ⟨er,her⟩:∃er,er=qS it most:=⟨_,rfl⟩
       rw [← her] at HC HX hk
       have hk':(er != 0)=true:=by simpa using hk
       have hk2:(er == 0)=false:=by simpa using hk
       clear hk her
       go_wp2_with fail
       refine HC.out.mono ?_
       clear HC
       rintro e w2 ⟨al,cl,rfl,-,hb3⟩
       have HB3:=Lh (HB2.out.trans (hb3.mono HB2.out.size))
       have HP3:=Lh (HP.out.below HB3.out)
       clear hb3 HB2
       have d6:w2.cell? ⟨o,6,none⟩=some (.int .i64 0):=(qq (j:=6) HP3.out.obj rfl).trans (by rw [HE.out];rfl)
       have d0:w2.cell? ⟨o,0,none⟩=some (.int .u8 5):=(qq (j:=0) HP3.out.obj rfl).trans (by rw [HP.out.kind];rfl)
       have d7:w2.frozen? ⟨o,6,none⟩=false:=by simp [World.frozen?,HP3.out.obj]
       go_wp2_with fail
       refine (xl o er _ d6 d0 d7).mono ?_
       clear d6 d0 d7
       rintro e w3 ⟨rfl,rfl⟩
       have HP4:=Lh (HP3.out.fail er)
       have HT:=Lh (show Touch (fun b=>b=o∨b=m) w (w2.setCell ⟨o,6,none⟩ (.int .i64 er)) from (Touch.of_below HB3.out lz).setCell (.inl (.inl rfl)) _)
       go_wp2
       go_ret
       exact vN HX.out HP4.out HT.out
   · have HX:=Lh (show qg v y most st=([],⟨st.asked,6⟩) by unfold qg;rw [if_neg (by simp [HE.out]),show v.look y=none from jp _ _ _ hno])
     unfold zeroAgg
     have HB3:=Lh (show Below w.heap.size w (w1.alloc (.cells #[.int .u8 0,.int .i64 0,.string ⟨#[]⟩,.slice none 0 0,.slice none 0 0] 25)) from HB1.out.alloc HB1.out.size _)
     have HP3:=Lh (HP.out.below HB3.out)
     clear hno HB1
     have d6:(w1.alloc (.cells #[.int .u8 0,.int .i64 0,.string ⟨#[]⟩,.slice none 0 0,.slice none 0 0] 25)).cell? ⟨o,6,none⟩=some (.int .i64 0):=(qq (j:=6) HP3.out.obj rfl).trans (by rw [HE.out];rfl)
     have d0:(w1.alloc (.cells #[.int .u8 0,.int .i64 0,.string ⟨#[]⟩,.slice none 0 0,.slice none 0 0] 25)).cell? ⟨o,0,none⟩=some (.int .u8 5):=(qq (j:=0) HP3.out.obj rfl).trans (by rw [HP.out.kind];rfl)
     have d7:(w1.alloc (.cells #[.int .u8 0,.int .i64 0,.string ⟨#[]⟩,.slice none 0 0,.slice none 0 0] 25)).frozen? ⟨o,6,none⟩=false:=by simp [World.frozen?,HP3.out.obj]
     go_wp2_with fail
     refine (xl o 6 _ d6 d0 d7).mono ?_
     clear d6 d0 d7
     rintro e w3 ⟨rfl,rfl⟩
     have HP4:=Lh (HP3.out.fail 6)
     have HT:=Lh (show Touch (fun b=>b=o∨b=m) w ((w1.alloc (.cells #[.int .u8 0,.int .i64 0,.string ⟨#[]⟩,.slice none 0 0,.slice none 0 0] 25)).setCell ⟨o,6,none⟩ (.int .i64 6)) from (Touch.of_below HB3.out lz).setCell (.inl (.inl rfl)) _)
     go_wp2
     go_ret
     exact vN HX.out HP4.out HT.out
 · have he':(st.err == 0)=false:=by simpa using he
   have he2:(st.err != 0)=true:=by simpa using he
   have HX:=Lh (show qg v y most st=([],st) by unfold qg;rw [if_pos he])
   have HE:=Lh he
   clear he
   go_enter Tryz.func207,Tryz.ntmps207
   go_wp2_with fail
   refine (zv o st.err 5 w c6 c0 (fun _=>rfl)).mono ?_
   rintro r w' ⟨rfl,rfl⟩
   go_wp2
   go_ret
   exact vN HX.out HP.out (Touch.refl _ _)
set_option maxHeartbeats 1000000 in
set_option maxRecDepth 100000 in
theorem sD {o m lo hi:Nat} {v:JV} {an ai:Option Addr} {cn ci:Nat} {st:PS} {w:World} (y:ByteArray) (most:Nat) (h:ze o m lo hi v an ai cn ci st w) (hy:y.size≤4294967296) (ha:st.asked.length≤4294967296) :
 Calls Tryz.prog 173 #[.pointer (some ⟨o,0,none⟩),.string y,.int .i64 most] w fun e w'=>(∃a c,e=.returned (.slice a (qg v y most st).1.length c)∧qk w' w.heap.size w'.heap.size a (qg v y most st).1)∧g8 o m lo hi v an ai cn ci (qg v y most st).2 w w':=by
 have hb:Below w.heap.size w (w.alloc (.cells #[.int .i64 most] 3)):=(Below.refl _ _).alloc lz _
 have HT:=Lh (show Calls Tryz.prog 207 #[.pointer (some ⟨o,0,none⟩),.string y,.func (.func 208) #[] #[.pointer (some ⟨w.heap.size,0,none⟩)]] (w.alloc (.cells #[.int .i64 most] 3)) (fun e w'=>(∃a c,e=.returned (.slice a (qg v y most st).1.length c)∧qk w' w.heap.size w'.heap.size a (qg v y most st).1)∧g8 o m lo hi v an ai cn ci (qg v y most st).2 w w') by
  have hT0:Touch (fun b=>b=o∨b=m) w (w.alloc (.cells #[.int .i64 most] 3)):=Touch.of_below hb lz
  rcases h with h|⟨⟨h1,c6,k,c0⟩,h2,h3,h4⟩
  · refine (dJ o m lo hi v an ai cn ci y most st _ (h.below hb) hy ha w.heap.size (heap_alloc_new w _)).mono ?_
    rintro e w' ⟨⟨a,c,e1,e2⟩,e3,e4⟩
    exact ⟨⟨a,c,e1,e2.carry hb.size lz (fun _ _ _=>rfl)⟩,.inl e3,hT0.trans (e4.mono fun _ _ h=>h)⟩
  · obtain ⟨W2,hW2⟩:∃W2,W2=w.alloc (.cells #[.int .i64 most] 3):=⟨_,rfl⟩
    rw [← hW2] at hb hT0 ⊢
    have HPB:=Lh (show ze o m lo hi v an ai cn ci st W2 from (ze.below (.inr ⟨⟨h1,c6,k,c0⟩,h2,h3,h4⟩) hb))
    have e6:W2.cell? ⟨o,6,none⟩=some (.int .i64 st.err):=by rw [hb.cell h2];exact c6
    have e0:W2.cell? ⟨o,0,none⟩=some (.int .u8 k):=by rw [hb.cell h2];exact c0
    have he':(st.err == 0)=false:=by simpa using h1
    have he2:(st.err != 0)=true:=by simpa using h1
    have HE:=Lh h1
    have HT0:=Lh hT0
    have HX:=Lh (show qg v y most st=([],st) by unfold qg;rw [if_pos h1])
    clear h1 c6 c0 hW2 hb hT0
    go_enter Tryz.func207,Tryz.ntmps207
    go_wp2_with fail
    refine (zv o st.err k W2 e6 e0 (fun h=>absurd h HE.out)).mono ?_
    rintro r w' ⟨rfl,h'⟩
    subst h'
    go_wp2
    go_ret
    rw [HX.out]
    exact ⟨⟨none,0,rfl,.inl rfl⟩,HPB.out,HT0.out⟩)
 clear h hb
 obtain ⟨R,hR⟩:∃R,R=qg v y most st:=⟨_,rfl⟩
 rw [← hR] at HT ⊢
 clear hR
 go_enter Tryz.func173,Tryz.ntmps173
 go_wp2_with fail
 refine HT.out.mono ?_
 rintro e w' ⟨⟨a,c,rfl,h1⟩,h2⟩
 have H1:=Lh h1
 have H2:=Lh h2
 clear h1 h2
 go_wp2
 go_ret
 exact ⟨⟨a,c,rfl,H1.out⟩,H2.out⟩
end Go.Proofs.YtnlgmcapbbgelaaGreatDoor

namespace Go.Proofs.YtnlgmcapbbgelaaGreatDoor
open Go.RowKit
def qo:ByteArray:=⟨#[114,111,111,116]⟩
structure Auth3 where
 a:AuthV
 b:AuthV
 c:AuthV
deriving DecidableEq
def bj:Auth3:=⟨authZ,authZ,authZ⟩
def px (x:Auth3):Bool:=qZ x.a && qZ x.b && qZ x.c
def kh (x:Auth3):List NJ:=[(qo,qd x.a),(zp,qd x.b),(zO,qd x.c)]
def qT (x:Auth3):JV:=xr (kh x)
def vZ (v:JV) (y:ByteArray) (st:PS):AuthV × PS:=((qA (qv v y 8192 st).1).1,(qv v y 8192 st).2.fail (qA (qv v y 8192 st).1).2)
def sL (v:JV):AuthV × PS:=vZ v qo ⟨[],0⟩
def nB (v:JV):AuthV × PS:=vZ v zp (sL v).2
def rj (v:JV):AuthV × PS:=vZ v zO (nB v).2
def bk (v:JV):Auth3 × Int:=if qf v (rj v).2≠0 then (bj,qf v (rj v).2) else (⟨(sL v).1,(nB v).1,(rj v).1⟩,0)
theorem xP:ql [qo,zp,zO]=true∧(qe qo=true∧qe zp=true∧qe zO=true)∧(qo≠zp∧qo≠zO∧zp≠zO):=by
 refine ⟨by kernel_rfl,⟨?_,?_,?_⟩,by decide⟩
 all_goals
  refine zx ?_ (by decide)
  intro c hc
  unfold zR
  revert c
  decide
theorem fo {a:AuthV} (h:qZ a=true):qA (qd a)=(a,0):=by
 unfold qA
 rw [if_neg (by rw [dQ h];decide),if_neg (by simp [qd,xr,JV.kind]),de h]
theorem bv {v:JV} {y:ByteArray} {a:AuthV} {s:List ByteArray} (h:v.look y=some (qd a)) (hm:qZ a=true):vZ v y ⟨s,0⟩=(a,⟨y :: s,0⟩):=by
 have e:qv v y 8192 ⟨s,0⟩=(qd a,⟨y :: s,0⟩):=by
  unfold qv
  rw [if_neg (by simp),h]
  show (if (qd a).kind≠5 then _ else if 8192<(qd a).items.length then _ else _:JV × PS)=_
  rw [if_neg (by simp [qd,xr,JV.kind]),if_neg (by simp [qd,xr,JV.items,vQ])]
 unfold vZ
 rw [e]
 dsimp only
 rw [fo hm]
 rfl
theorem mW {x:Auth3} (h:px x=true):bk (qT x)=(x,0):=by
 unfold px at h
 simp only [Bool.and_eq_true] at h
 obtain ⟨⟨ha,hb⟩,hc⟩:=h
 obtain ⟨n1,n2,n3⟩:=xP.2.2
 have k0:∀y,(qT x).look y=zw [qo,zp,zO] [qd x.a,qd x.b,qd x.c] y:=fun _=>rfl
 have e1:sL (qT x)=(x.a,⟨[qo],0⟩):=bv (by rw [k0];simp [zw]) ha
 have e2:nB (qT x)=(x.b,⟨[zp,qo],0⟩):=by
  unfold nB
  rw [e1]
  exact bv (by rw [k0];simp [zw,n1]) hb
 have e3:rj (qT x)=(x.c,⟨[zO,zp,qo],0⟩):=by
  unfold rj
  rw [e2]
  exact bv (by rw [k0];simp [zw,n2,n3]) hc
 have e4:qf (qT x) ⟨[zO,zp,qo],0⟩=0:=by
  unfold qf
  rw [if_neg (by simp),if_pos]
  simp [qT,xr,JV.names,kh]
 unfold bk
 rw [e3,e4,if_neg (by simp),e1,e2]
theorem dK {x:Auth3} (h:px x=true):(qT x).partB=true∧(qT x).count≤130∧(qT x).depth≤3:=by
 unfold px at h
 simp only [Bool.and_eq_true] at h
 obtain ⟨⟨ha,hb⟩,hc⟩:=h
 obtain ⟨r,⟨n1,n2,n3⟩,-⟩:=xP
 have hp:∀p ∈ kh x,qe p.1=true∧p.2.partB=true∧p.2.count≤40∧p.2.depth≤2:=fun p hp=>by
  simp only [kh,List.mem_cons,List.not_mem_nil,or_false] at hp
  rcases hp with rfl|rfl|rfl
  · exact ⟨n1,wZ ha⟩
  · exact ⟨n2,wZ hb⟩
  · exact ⟨n3,wZ hc⟩
 refine ⟨wT ⟨r,fun p h=>⟨(hp p h).1,(hp p h).2.1⟩⟩,?_,vL 2 fun p h=>(hp p h).2.2.2⟩
 have:=vD 40 fun p h=>(hp p h).2.2.1
 have e:(kh x).length=3:=rfl
 rw [e] at this
 show (xr (kh x)).count≤130
 omega
end Go.Proofs.YtnlgmcapbbgelaaGreatDoor
