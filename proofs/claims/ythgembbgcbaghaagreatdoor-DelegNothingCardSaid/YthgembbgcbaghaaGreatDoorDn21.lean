/- Plain: what root.Of tells of a root's object with a member less, with another member, with a member more; the same of the object of its roles. No program in sight. -/
import Derived.Test.YthgembbgcbaghaaGreatDoorDn20
import Derived.Test.YthgembbgcbaghaaGreatDoorDn17

namespace Go.Proofs.YthgembbgcbaghaaGreatDoor
open Go.RowKit Go.WideMaps Go.Maps
theorem sB:∀(l l':List JV),l'.length=l.length→(∀j (h:j<l'.length) (h':j<l.length),l'[j].wt≤l[j].wt)→JV.wts l'≤JV.wts l
 | [],[],_,_=>Nat.le_refl _
 | x :: r,y :: s,h,hp=>by
  have h0:=hp 0 (by simp) (by simp)
  have h1:=sB r s (by simpa using h) (fun j h1 h2=>by have:=hp (j+1) (by simpa using h1) (by simpa using h2);simpa using this)
  simp only [List.getElem_cons_zero] at h0
  rw [JV.wts,JV.wts];omega
 | [],_ :: _,h,_=>by simp at h
 | _ :: _,[],h,_=>by simp at h
theorem WeakCopy.wt {v v':JV} (h:WeakCopy v v'):v'.wt≤v.wt:=by
 have:=sB v.items v'.items h.len (fun j h1 h2=>by
  rcases h.items j h1 h2 with e|⟨e,_⟩
  · rw [e];exact Nat.le_refl _
  · rw [e];exact JV.wt_pos _)
 rw [JV.wt_eq,JV.wt_eq,h.t,h.names];omega
theorem cO (l:List JV) (j:Nat) (h:j<l.length) (hp:JV.partsB l=true):l[j].partB=true:=by
 cases hb:l[j].partB
 · rw [JV.partsB_bad l j h hb] at hp;cases hp
 · rfl
end Go.Proofs.YthgembbgcbaghaaGreatDoor

namespace Go.Proofs.YthgembbgcbaghaaGreatDoor
open Go.RowKit
theorem rp {t:ByteArray} (h:t.toList=[]):t=⟨#[]⟩:=by
 rw [ByteArray.toList_eq] at h
 exact fg (by simpa using h)
theorem yg {x:JV} (h:x.partB=true) (hk:x.kind=5):(x.n=0∧x.t=⟨#[]⟩)∧x.names.length=x.items.length∧qo x.names=true∧∀y ∈ x.items,y.partB=true:=by
 rw [JV.partB_eq,Bool.and_eq_true] at h
 obtain ⟨h1,h2⟩:=h
 rw [hk] at h1
 unfold qV at h1
 rw [if_neg (by decide),if_neg (by decide),if_neg (by decide),if_neg (by decide),if_pos rfl,Bool.and_eq_true,Bool.and_eq_true,decide_eq_true_eq] at h1
 obtain ⟨⟨⟨a,b,c⟩,d⟩,-⟩:=h1
 refine ⟨⟨a,rp b⟩,c,d,fun y hy=>?_⟩
 obtain ⟨i,hi,rfl⟩:=List.getElem_of_mem hy
 exact cO _ i hi h2
theorem kZ:∀ {ns:List ByteArray} {xs:List JV} {y:ByteArray} {x:JV},qB ns xs y=some x→y ∈ ns∧x ∈ xs
 | n :: ns,z :: xs,y,x,h=>by
  rw [qB] at h
  split at h
  · rename_i e
    injection h with h
    subst h;subst e
    exact ⟨List.mem_cons_self ..,List.mem_cons_self ..⟩
  · have:=kZ h
    exact ⟨List.mem_cons_of_mem _ this.1,List.mem_cons_of_mem _ this.2⟩
def lg (v:JV):Prop:=v.kind=5∧(v.n=0∧v.t=⟨#[]⟩)∧qo v.names=true∧v.names.length=v.items.length∧∀x ∈ v.items,x.partB=true∨x=qi
theorem sP {v:JV} (h:v.mayB=true) (hk:v.kind=5):lg v:=by
 rw [JV.mayB_iff] at h
 simp only [Bool.and_eq_true] at h
 obtain ⟨a,b,c,d⟩:=yg h.1.1 hk
 exact ⟨hk,a,c,b,fun x hx=>.inl (d x hx)⟩
theorem oW {v:JV} (h:lg v) {y:ByteArray} {it:JV} (e:v.look y=some it) (hk:it.kind≠0):it.partB=true:=by
 rcases h.2.2.2.2 it (kZ e).2 with h|h
 · exact h
 · exact absurd (by rw [h];rfl) hk
theorem cE {st:PS} {e:Int} (h:st.err≠0):st.fail e=st:=by unfold PS.fail;rw [if_neg h]
theorem sF {v:JV} {st:PS} (h:st.err≠0):qp v st=st.err:=by unfold qp;rw [if_pos h]
def q8 (n:Nat):UInt8:=if n<10 then UInt8.ofNat (48+n) else UInt8.ofNat (87+n)
def xl:List UInt8→List UInt8
 | []=>[]
 | c :: r=>q8 (c.toNat / 16) :: q8 (c.toNat % 16) :: xl r
theorem pL (l m:List UInt8):xl (l ++ m)=xl l ++ xl m:=by
 induction l with
 | nil=>rfl
 | cons c r ih=>simp [xl,ih]
theorem pR (l:List UInt8):(xl l).length=2 * l.length:=by
 induction l with
 | nil=>rfl
 | cons c r ih=>simp [xl,ih];omega
def k8 (l:List UInt8):List UInt8:=xl (zZ l)
theorem wm (l:List UInt8):(k8 l).length=64:=by unfold k8;rw [pR,xE]
theorem px (n:Nat) (h:n<16):xM (q8 n)=true:=by
 have:∀m:Fin 16,xM (q8 m.val)=true:=by decide
 exact this ⟨n,h⟩
theorem pj:∀l:List UInt8,xR (xl l)=true
 | []=>rfl
 | c :: r=>by
  have h:=pj r
  have hc:c.toNat<256:=c.toNat_lt
  unfold xR at h ⊢
  simp only [xl,List.all_cons,Bool.and_eq_true]
  exact ⟨px _ (by omega),px _ (by omega),h⟩
theorem c8 (l:List UInt8):xR (k8 l)=true:=pj _
def xt:ByteArray:=⟨#[112,117,98,108,105,99]⟩
def schN:ByteArray:=⟨#[115,99,104,101,109,101]⟩
def jf (s t:ByteArray):JV:=.mk 5 0 ⟨#[]⟩ [xt,schN] [txtJ t,txtJ s]
theorem fd {s t:List UInt8} (h:zW s t=true):zf s=true∧gu t=true:=by
 unfold zW at h;simpa using h
theorem bq {s t:ByteArray} (h:zW s.data.toList t.data.toList=true):qJ s=true∧qJ t=true∧s.size≤64∧t.size≤128:=by
 obtain ⟨h1,h2⟩:=fd h
 have h3:=wM h1
 have h4:=fy h2
 rw [qd] at h3 h4
 exact ⟨zc h3.1 (by omega),zc h4.1 (by omega),h3.2.2,h4.2.2⟩
theorem mx:qJ xt=true∧qJ schN=true∧qo [xt,schN]=true:=by
 refine ⟨zc ?_ (by decide),zc ?_ (by decide),?_⟩
 · intro c hc;unfold xY;revert c;decide
 · intro c hc;unfold xY;revert c;decide
 · unfold qo qo;rw [ByteArray.toList_eq,ByteArray.toList_eq];decide
theorem mv (t:ByteArray) (h:qJ t=true) (d:Nat) (l:Int) (hl:1≤l):(txtJ t).may d l=(true,l - 1):=by
 unfold txtJ
 rw [JV.may,if_neg (by omega)]
 have:qV 3 0 t [] 0=true:=by unfold qV;simp [h]
 rw [show ([]:List JV).length=0 from rfl,this]
 simp
theorem pk {s t:ByteArray} (h:zW s.data.toList t.data.toList=true):(jf s t).mayB=true:=by
 obtain ⟨h1,h2,_,_⟩:=bq h
 obtain ⟨n1,n2,n3⟩:=mx
 unfold JV.mayB jf
 have hp:qV 5 0 ⟨#[]⟩ [xt,schN] 2=true:=by
  unfold qV
  rw [ByteArray.toList_eq]
  simp [n1,n2,n3]
 have hm:JV.mays [txtJ t,txtJ s] (12 - 1) (8192 - 1)=(true,8192 - 1 - 1 - 1):=by
  rw [JV.mays,mv t h2 _ _ (by omega),if_pos rfl,JV.mays,mv s h1 _ _ (by omega),if_pos rfl,JV.mays]
 rw [JV.may,if_neg (by omega),show ([txtJ t,txtJ s]:List JV).length=2 from rfl,hp,if_neg (by decide),if_neg (by decide),if_neg (by decide),hm]
theorem tZ {s t:ByteArray} (hs:s.size≤4294967) (ht:t.size≤4294967):(jf s t).wt≤4294967296:=by
 unfold jf txtJ
 have e1:xt.size=6:=rfl
 have e2:schN.size=6:=rfl
 have e3:(⟨#[]⟩:ByteArray).size=0:=rfl
 simp only [JV.wt,JV.wts,qv]
 omega
def sH:List UInt8:=[123,34,112,117,98,108,105,99,34,58,34]
def sU:List UInt8:=[34,44,34,115,99,104,101,109,101,34,58,34]
def j4 (s t:List UInt8):List UInt8:=sH ++ (t ++ (sU ++ (s ++ [34,125])))
theorem mw (s t:List UInt8):(j4 s t).length=s.length+t.length+25:=by simp [j4,sH,sU];omega
def jF (s t:List UInt8):List UInt8:=if zW s t then k8 (j4 s t) else []
def zw (v:JV):(ByteArray × ByteArray) × Int :=
 if v.mayB=false then ((⟨#[]⟩,⟨#[]⟩),3) else if v.kind≠5 then ((⟨#[]⟩,⟨#[]⟩),10) else
  if qp v (qu v schN (qu v xt ⟨[],0⟩).2).2≠0 then ((⟨#[]⟩,⟨#[]⟩),qp v (qu v schN (qu v xt ⟨[],0⟩).2).2) else
  if zW (qu v schN (qu v xt ⟨[],0⟩).2).1.data.toList (qu v xt ⟨[],0⟩).1.data.toList then (((qu v schN (qu v xt ⟨[],0⟩).2).1,(qu v xt ⟨[],0⟩).1),0) else ((⟨#[]⟩,⟨#[]⟩),3)
theorem iR:xt≠schN:=by decide
theorem sM (s t:ByteArray):(jf s t).look xt=some (txtJ t):=by
 unfold JV.look jf JV.names JV.items;simp [qB]
theorem sC (s t:ByteArray):(jf s t).look schN=some (txtJ s):=by
 unfold JV.look jf JV.names JV.items;simp [qB,iR]
theorem dq {s t:ByteArray} (h:zW s.data.toList t.data.toList=true):zw (jf s t)=((s,t),0):=by
 have h1:qu (jf s t) xt ⟨[],0⟩=(t,⟨[xt],0⟩):=by unfold qu;rw [if_neg (by simp),sM];rfl
 have h2:qu (jf s t) schN ⟨[xt],0⟩=(s,⟨[schN,xt],0⟩):=by unfold qu;rw [if_neg (by simp),sC];rfl
 have h3:qp (jf s t) ⟨[schN,xt],0⟩=0:=by
  unfold qp;rw [if_neg (by simp)]
  have:(jf s t).names=[xt,schN]:=rfl
  rw [this];simp
 unfold zw
 rw [if_neg (by rw [pk h];simp),if_neg (by show ¬(5:Int)≠5;simp),h1]
 simp only
 rw [h2]
 simp only
 rw [h3,if_neg (by simp),if_pos h]
def rf (s t:ByteArray):ByteArray:=⟨(jF s.data.toList t.data.toList).toArray⟩
def ok2 (k:Key2):Bool:=zW k.1.data.toList k.2.data.toList
def id2 (k:Key2):ByteArray:=rf k.1 k.2
def ids (l:List Key2):List ByteArray:=l.map id2
def obj2 (k:Key2):JV:=jf k.1 k.2
def zu (m:List Key2):JV:=.mk 5 0 ⟨#[]⟩ (m.map id2) (m.map obj2)
theorem mg {l:List ByteArray} (h:qo l=true):l.Nodup:=by
 rw [List.Nodup,List.pairwise_iff_getElem]
 intro i j hi hj hij e
 have:=jy h i j hi hj hij
 rw [e,zo] at this;cases this
theorem mf {k:Key2}:(id2 k).size≤64:=by
 show (jF _ _).toArray.size≤64
 unfold jF
 split
 · rw [List.size_toArray,wm];exact Nat.le_refl _
 · simp
theorem tX {k:Key2} (h:k.1.size≤300∧k.2.size≤300):(obj2 k).wt≤1000:=by
 unfold obj2 jf txtJ
 have e1:xt.size=6:=rfl
 have e2:schN.size=6:=rfl
 have e3:(⟨#[]⟩:ByteArray).size=0:=rfl
 simp only [JV.wt,JV.wts,qv]
 omega
theorem bz {m:List Key2} (hs:∀k ∈ m,k.1.size≤300∧k.2.size≤300):(zu m).wt≤1+1100 * m.length:=by
 have h1:∀m:List Key2,qv (m.map id2)≤65 * m.length:=fun m=>by
  induction m with
  | nil=>simp [qv]
  | cons k r ih=>have:=@mf k;simp only [List.map_cons,qv,List.length_cons];omega
 have h2:∀m:List Key2,(∀k ∈ m,k.1.size≤300∧k.2.size≤300)→JV.wts (m.map obj2)≤1000 * m.length:=fun m=>by
  induction m with
  | nil=>intro _;simp [JV.wts]
  | cons k r ih=>intro hs;have:=tX (hs k (by simp));have:=ih (fun k hk=>hs k (List.mem_cons_of_mem _ hk));simp only [List.map_cons,JV.wts,List.length_cons];omega
 have e3:(⟨#[]⟩:ByteArray).size=0:=rfl
 have:=h1 m
 have:=h2 m hs
 unfold zu
 simp only [JV.wt]
 omega
theorem rh {v:JV} (h:(zw v).2=0):zW (zw v).1.1.data.toList (zw v).1.2.data.toList=true∧(zw v).1.1.size≤64∧(zw v).1.2.size≤128:=by
 have h2:zW (zw v).1.1.data.toList (zw v).1.2.data.toList=true:=by
  unfold zw at h ⊢
  split at h
  · cases h
  next c1 =>
  rw [if_neg c1]
  split at h
  · cases h
  next c2 =>
  rw [if_neg c2]
  split at h
  · next c3=>exact absurd h c3
  next c3 =>
  rw [if_neg c3]
  split at h
  · next c4=>rw [if_pos c4];exact c4
  · cases h
 obtain ⟨_,_,a,b⟩:=bq h2
 exact ⟨h2,a,b⟩
def jm:List ByteArray→List JV→List Key2→List Key2 × Int
 | id :: ns,it :: its,acc=>if (zw it).2≠0 then ([],(zw it).2) else if (rf (zw it).1.1 (zw it).1.2).toList == id.toList then jm ns its (acc ++ [(zw it).1]) else ([],3)
 | _,_,acc=>(acc,0)
def fl (r:Key2 × Int) (id:ByteArray) (ns:List ByteArray) (its:List JV) (acc:List Key2):List Key2 × Int :=
 if r.2≠0 then ([],r.2) else if (rf r.1.1 r.1.2).toList == id.toList then jm ns its (acc ++ [r.1]) else ([],3)
theorem ru (its:List JV) (acc:List Key2):jm [] its acc=(acc,0):=by
 unfold jm;rfl
theorem dz (ns:List ByteArray) (its:List JV) (k:Nat) (acc:List Key2) (h:k<ns.length) (h':k<its.length):jm (ns.drop k) (its.drop k) acc=fl (zw its[k]) ns[k] (ns.drop (k+1)) (its.drop (k+1)) acc:=by
 rw [List.drop_eq_getElem_cons h,List.drop_eq_getElem_cons h',jm,fl]
def xi (v:JV):List Key2 × Int:=if v.mayB=false then ([],3) else if v.kind≠5 then ([],10) else if 32<v.names.length then ([],5) else jm v.names v.items []
theorem iN {t:ByteArray} (h:t.toList=[]):t=⟨#[]⟩:=vt (by rw [h,ByteArray.toList_eq])
theorem tJ {n:Int} {t:ByteArray} {ns:List ByteArray} {li:Nat} (h:qV 5 n t ns li=true):n=0∧t=⟨#[]⟩∧ns.length=li∧qo ns=true∧ns.all qJ=true:=by
 have e:qV 5 n t ns li=(decide (n=0∧t.toList=[]∧ns.length=li) && qo ns && ns.all qJ):=rfl
 rw [e] at h
 simp only [Bool.and_eq_true,decide_eq_true_eq] at h
 exact ⟨h.1.1.1,iN h.1.1.2.1,h.1.1.2.2,h.1.2,h.2⟩
theorem py:∀ {l:List JV},JV.partsB l=true→∀x ∈ l,JV.partB x=true
 | [],_,x,hx=>by simp at hx
 | y :: r,h,x,hx=>by
  rw [JV.partsB,Bool.and_eq_true] at h
  rcases List.mem_cons.1 hx with rfl|hx
  · exact h.1
  · exact py h.2 x hx
theorem mh {v:JV} (h:v.mayB=true):v.partB=true:=by
 rw [JV.mayB_iff] at h
 simp only [Bool.and_eq_true] at h
 exact h.1.1
theorem iS {k:Key2} (h:ok2 k=true):qJ (id2 k)=true:=by
 have e:(id2 k).data.toList=k8 (j4 k.1.data.toList k.2.data.toList):=by
  show (jF _ _)=_
  unfold jF
  rw [if_pos (show zW k.1.data.toList k.2.data.toList=true from h)]
 refine zc ?_ (Nat.le_trans mf (by decide))
 rw [e]
 have:=c8 (j4 k.1.data.toList k.2.data.toList)
 unfold xR at this
 exact fun c hc=>yD (List.all_eq_true.1 this c hc)
theorem mu {m:List Key2} (hok:∀k ∈ m,ok2 k=true) (hr:qo (ids m)=true) (hl:m.length≤32):(zu m).mayB=true:=by
 rw [JV.mayB_iff]
 have hp:∀m:List Key2,(∀k ∈ m,ok2 k=true)→JV.partsB (m.map obj2)=true:=fun m=>by
  induction m with
  | nil=>intro _;rfl
  | cons k r ih =>
   intro h
   rw [List.map_cons,JV.partsB,Bool.and_eq_true]
   exact ⟨mh (pk (h k (by simp))),ih fun x hx=>h x (List.mem_cons_of_mem _ hx)⟩
 have hc:∀m:List Key2,JV.counts (m.map obj2)=3 * m.length:=fun m=>by
  induction m with
  | nil=>rfl
  | cons k r ih =>
   have:JV.count (obj2 k)=3:=rfl
   rw [List.map_cons,JV.counts,ih,this,List.length_cons];omega
 have hd:∀m:List Key2,JV.depths (m.map obj2)≤1:=fun m=>by
  induction m with
  | nil=>exact Nat.zero_le _
  | cons k r ih =>
   have:JV.depth (obj2 k)=1:=rfl
   rw [List.map_cons,JV.depths,this];omega
 have h1:(zu m).partB=true:=by
  unfold zu
  rw [JV.partB,hp m hok]
  have:qV 5 0 ⟨#[]⟩ (m.map id2) (m.map obj2).length=(decide ((0:Int)=0∧(⟨#[]⟩:ByteArray).toList=[]∧(m.map id2).length=(m.map obj2).length) && qo (m.map id2) && (m.map id2).all qJ):=rfl
  rw [this,show qo (m.map id2)=true from hr,ByteArray.toList_eq]
  have h2:(m.map id2).all qJ=true:=by
   rw [List.all_eq_true]
   intro x hx
   obtain ⟨k,hk,rfl⟩:=List.mem_map.1 hx
   exact iS (hok k hk)
  rw [h2]
  simp
 have h2:(zu m).count≤8192:=by unfold zu;rw [JV.count,hc];omega
 have h3:(zu m).depth≤12:=by
  unfold zu;rw [JV.depth,if_neg (by simp)];have:=hd m;omega
 rw [h1]
 simp [h2,h3]
theorem fs:∀(m:List Key2) (acc:List Key2),(∀k ∈ m,ok2 k=true)→jm (m.map id2) (m.map obj2) acc=(acc ++ m,0)
 | [],acc,_=>by simp [jm]
 | k :: r,acc,h=>by
  have e:=dq (s:=k.1) (t:=k.2) (h k (by simp))
  rw [List.map_cons,List.map_cons,jm,show obj2 k=jf k.1 k.2 from rfl,e]
  simp only
  rw [if_neg (by simp),if_pos (by simp [id2]),fs r _ fun x hx=>h x (List.mem_cons_of_mem _ hx)]
  simp
theorem yT {m:List Key2} (hok:∀k ∈ m,ok2 k=true) (hr:qo (ids m)=true) (hl:m.length≤32):xi (zu m)=(m,0):=by
 unfold xi
 rw [if_neg (by rw [mu hok hr hl];simp),if_neg (by show ¬(5:Int)≠5;simp),if_neg (by show ¬32<(m.map id2).length;simp;omega)]
 show jm (m.map id2) (m.map obj2) []=_
 rw [fs m [] hok,List.nil_append]
theorem yb {k:Key2} (h:ok2 k=true):k.1.size≤300∧k.2.size≤300:=by
 obtain ⟨_,_,a,b⟩:=bq h
 omega
end Go.Proofs.YthgembbgcbaghaaGreatDoor

namespace Go.Proofs.YthgembbgcbaghaaGreatDoor
open Go.RowKit Go.Shelf Go.Sort
theorem iA (t s:ByteArray) (w:World) (T:Nat) (ht:t.size≤4294967000) (hs:s.size≤4294967000) :
 Calls Tryz.prog 150 #[.slice (some ⟨w.heap.size,0,none⟩) 2 2] (w.alloc (.cells #[.string ⟨#[112,117,98,108,105,99]⟩,.int .u8 3,.int .i64 0,.string t,.slice none 0 0,.slice none 0 0,.string ⟨#[115,99,104,101,109,101]⟩,.int .u8 3,.int .i64 0,.string s,.slice none 0 0,.slice none 0 0] T))
  (yv [xt,schN] [txtJ t,txtJ s] (w.alloc (.cells #[.string ⟨#[112,117,98,108,105,99]⟩,.int .u8 3,.int .i64 0,.string t,.slice none 0 0,.slice none 0 0,.string ⟨#[115,99,104,101,109,101]⟩,.int .u8 3,.int .i64 0,.string s,.slice none 0 0,.slice none 0 0] T))):=by
 have:=hY #[jB xt t,jB schN s] #[jB xt t,jB schN s] [txtJ t,txtJ s] w.heap.size 0 2 (w.alloc (.cells #[.string ⟨#[112,117,98,108,105,99]⟩,.int .u8 3,.int .i64 0,.string t,.slice none 0 0,.slice none 0 0,.string ⟨#[115,99,104,101,109,101]⟩,.int .u8 3,.int .i64 0,.string s,.slice none 0 0,.slice none 0 0] T)) 0 0 ?_ (by simp) (by simp) ?_ rfl ?_ ?_ (by simp)
 · exact this
 · exact cT (T:=T) (by rw [heap_alloc_new,si];rfl)
 · refine cD _ _ _ fun j hj=>?_
   obtain rfl:j=0:=by simp at hj;omega
   show ltOf cfM (jB schN s) (jB xt t)=false
   show decide (Lib.compareBytes schN.data.toList xt.data.toList<0)=false
   decide
 · intro i hi
   match i,hi with
   | 0,_=>exact ⟨yy _ _ _ _,by simp [txtJ,JV.wt,JV.wts,qv];omega,fun k h=>by simp [txtJ,JV.items] at h⟩
   | 1,_=>exact ⟨yy _ _ _ _,by simp [txtJ,JV.wt,JV.wts,qv];omega,fun k h=>by simp [txtJ,JV.items] at h⟩
 · intro i hi
   obtain rfl:i=0:=by simp at hi;omega
   show xt≠schN
   decide
def dx (s t:ByteArray) (w:World) (e:Ending) (w':World):Prop :=
 ∃an cn ai ci,e=.returned (.tuple #[.agg #[.int .u8 5,.int .i64 0,.string ⟨#[]⟩,.slice an 2 cn,.slice ai 2 ci],.int .i64 0]) ∧
  Rep w' w.heap.size w'.heap.size (jf s t) (.agg #[.int .u8 5,.int .i64 0,.string ⟨#[]⟩,.slice an 2 cn,.slice ai 2 ci])∧Below w.heap.size w w'
set_option maxHeartbeats 400000 in
set_option maxRecDepth 100000 in
theorem mc (s t:ByteArray) (w:World) (hs:s.size≤4294967000) (ht:t.size≤4294967000) (hk:zW s.data.toList t.data.toList=false) :
 Calls Tryz.prog 152 #[.agg #[.string s,.string t]] w fun e w'=>e=.returned (.tuple #[zeroAgg,.int .i64 3])∧Below w.heap.size w w':=by
 have HM:=Lh (cM s t ((w.alloc (.cells #[.string s,.string t] 43)).alloc (.cells #[.int .u8 0,.int .i64 0,.string ⟨#[]⟩,.slice none 0 0,.slice none 0 0] 25)) (by omega) (by omega))
 rw [hk] at HM
 have hr0:=qf (w.alloc (.cells #[.string s,.string t] 43)) (.int .u8 0) (.int .i64 0) (.string ⟨#[]⟩) (.slice none 0 0) (.slice none 0 0) 25
 rw [show (w.alloc (.cells #[.string s,.string t] 43)).heap.size=w.heap.size+1 by simp] at hr0
 have HR0:=Lh hr0
 have HB0:=Lh (show Below w.heap.size w ((w.alloc (.cells #[.string s,.string t] 43)).alloc (.cells #[.int .u8 0,.int .i64 0,.string ⟨#[]⟩,.slice none 0 0,.slice none 0 0] 25)) from ((Below.refl _ _).alloc lz _).alloc (by simp) _)
 clear hk hr0
 go_enter Tryz.func152,Tryz.ntmps152
 go_wp2_with fail
 refine HM.out.mono ?_
 rintro e w1 ⟨rfl,hb1⟩
 have hres:=qj hb1 HR0.out (by simp)
 have HRS:=Lh hres
 have HB1:=Lh (HB0.out.trans (hb1.mono (by simp;omega)))
 obtain ⟨t0,t1,t2,t3,t4⟩:=rc5 hres
 obtain ⟨s0,s1,s2,s3,s4⟩:=rf5 hres
 simp only [qZ] at t0 t1 t2 t3 t4
 clear hres hb1
 go_wp2
 exact bodyPost_ret (qk Tryz.results152 _ _ (w.heap.size+1) 25 _ (0,0) _ rfl (qX (set5 _ _ _ _ _ HRS.out)) Tryz.underlying25 rfl (by kernel_rfl) _ rfl) rfl ⟨rfl,zj _ _ _ _ _ HB1.out (by omega)⟩
set_option maxHeartbeats 1000000 in
set_option maxRecDepth 100000 in
theorem yf (s t:ByteArray) (w:World) (hs:s.size≤4294967000) (ht:t.size≤4294967000) (hk:zW s.data.toList t.data.toList=true) :
 Calls Tryz.prog 152 #[.agg #[.string s,.string t]] w (dx s t w):=by
 have HM:=Lh (cM s t ((w.alloc (.cells #[.string s,.string t] 43)).alloc (.cells #[.int .u8 0,.int .i64 0,.string ⟨#[]⟩,.slice none 0 0,.slice none 0 0] 25)) (by omega) (by omega))
 rw [hk] at HM
 have hr0:=qf (w.alloc (.cells #[.string s,.string t] 43)) (.int .u8 0) (.int .i64 0) (.string ⟨#[]⟩) (.slice none 0 0) (.slice none 0 0) 25
 rw [show (w.alloc (.cells #[.string s,.string t] 43)).heap.size=w.heap.size+1 by simp] at hr0
 have HR0:=Lh hr0
 have HB0:=Lh (show Below w.heap.size w ((w.alloc (.cells #[.string s,.string t] 43)).alloc (.cells #[.int .u8 0,.int .i64 0,.string ⟨#[]⟩,.slice none 0 0,.slice none 0 0] 25)) from ((Below.refl _ _).alloc lz _).alloc (by simp) _)
 have HX0:=Lh (show ((w.alloc (.cells #[.string s,.string t] 43)).alloc (.cells #[.int .u8 0,.int .i64 0,.string ⟨#[]⟩,.slice none 0 0,.slice none 0 0] 25)).heap[w.heap.size]?=some (.cells #[.string s,.string t] 43 (0,0)) by rw [Below.heap_alloc _ _ _ (by simp)];exact heap_alloc_new w _)
 clear hk hr0
 go_enter Tryz.func152,Tryz.ntmps152
 go_wp2_with fail
 refine HM.out.mono ?_
 clear HM
 rintro e w1 ⟨rfl,hb1⟩
 have HRS:=Lh (qj hb1 HR0.out (by simp))
 have hz1:w.heap.size+2≤w1.heap.size:=by have:=hb1.size;simp at this;omega
 have hx1:w1.heap[w.heap.size]?=some (.cells #[.string s,.string t] 43 (0,0)):=by rw [hb1.block _ (by simp;omega)];exact HX0.out
 have HX1:=Lh hx1
 have HB1:=Lh (HB0.out.trans (hb1.mono (by simp;omega)))
 clear hb1 hx1 HX0 HB0 HR0
 have HC:=Lh (show ∀w':World,Below w1.heap.size w1 w'→w'.cell? ⟨w.heap.size,0,none⟩=some (.string s)∧w'.cell? ⟨w.heap.size,1,none⟩=some (.string t)∧w.heap.size<w'.heap.size from fun w' h=>by
  have:=h.size
  exact ⟨by rw [h.cell (by show w.heap.size<_;omega)];simp [World.cell?,HX1.out],by rw [h.cell (by show w.heap.size<_;omega)];simp [World.cell?,HX1.out],by omega⟩)
 have HT:=Lh (show ∀(u:ByteArray) (w':World),Below w1.heap.size w1 w'→Calls Tryz.prog 201 #[.string u] w' (fun e w''=>e=.returned (.agg #[.int .u8 3,.int .i64 0,.string u,.slice none 0 0,.slice none 0 0])∧Below w1.heap.size w1 w''∧w''.cell? ⟨w.heap.size,0,none⟩=some (.string s)∧w''.cell? ⟨w.heap.size,1,none⟩=some (.string t)∧w.heap.size<w''.heap.size) from fun u w' h=>by
  refine (kI u w').mono ?_
  rintro e w'' ⟨rfl,rfl⟩
  have hb:Below w1.heap.size w1 (w'.alloc (.cells #[.int .u8 3,.int .i64 0,.string u,.slice none 0 0,.slice none 0 0] 25)):=h.alloc h.size _
  exact ⟨rfl,hb,HC.out _ hb⟩)
 have HO:=Lh (show ∀(w':World),Below w1.heap.size w1 w'→Calls Tryz.prog 150 #[.slice (some ⟨w'.heap.size,0,none⟩) 2 2] (w'.alloc (.cells #[.string ⟨#[112,117,98,108,105,99]⟩,.int .u8 3,.int .i64 0,.string t,.slice none 0 0,.slice none 0 0,.string ⟨#[115,99,104,101,109,101]⟩,.int .u8 3,.int .i64 0,.string s,.slice none 0 0,.slice none 0 0] 169)) (fun e w''=>∃an cn ai ci,e=.returned (.tuple #[.agg #[.int .u8 5,.int .i64 0,.string ⟨#[]⟩,.slice an 2 cn,.slice ai 2 ci],.int .i64 0])∧Rep w'' w1.heap.size w''.heap.size (jf s t) (.agg #[.int .u8 5,.int .i64 0,.string ⟨#[]⟩,.slice an 2 cn,.slice ai 2 ci])∧Below w1.heap.size w1 w''∧w''.cell? ⟨w.heap.size,0,none⟩=some (.string s)∧w''.cell? ⟨w.heap.size,1,none⟩=some (.string t)∧w''.rowIs (w.heap.size+1) 25 5 (qZ (.int .u8 0) (.int .i64 0) (.string ⟨#[]⟩) (.slice none 0 0) (.slice none 0 0))) from fun w' h=>by
  refine (iA t s w' _ ht hs).mono ?_
  rintro e w'' ⟨an,cn,ai,ci,rfl,hr,hb⟩
  have hb2:Below w1.heap.size w1 w'':=(h.alloc h.size _).trans (hb.mono (by have:=h.size;simp;omega))
  have hc:=HC.out _ hb2
  exact ⟨an,cn,ai,ci,rfl,Rep.carry (by have:=h.size;simp;omega) lz (fun _ _ _=>rfl) _ _ hr,hb2,hc.1,hc.2.1,qj hb2 HRS.out (by omega)⟩)
 have hbz:Below w1.heap.size w1 w1.drew:=(Below.refl _ _).drew
 obtain ⟨q0,q1,hzq⟩:=HC.out w1 (Below.refl _ _)
 go_wp2_with fail
 go_region_held3 (fun w'=>w'.cell? ⟨w.heap.size,0,none⟩=some (.string s)∧w'.cell? ⟨w.heap.size,1,none⟩=some (.string t)) (first|(with_reducible exact ⟨q0,q1⟩)|(with_reducible exact ⟨(ql _ hzq).trans q0,(ql _ hzq).trans q1⟩)|(go_keep;done)) (first|(go_at_call 201;(with_reducible refine (HT.out _ _ hbz).mono ?_);rintro e w2 ⟨rfl,hbz,q0,q1,hzq⟩)|(go_at_call 150;(with_reducible refine (HO.out _ hbz).mono ?_);rintro e w5 ⟨an,cn,ai,ci,rfl,hr5,hb5,q0,q1,hres⟩;obtain ⟨t0,t1,t2,t3,t4⟩:=rc5 hres;obtain ⟨s0,s1,s2,s3,s4⟩:=rf5 hres;have HRS5:=Lh hres;have HR5:=Lh hr5;have HB5:=Lh hb5;clear hres hr5 hb5;simp only [qZ] at t0 t1 t2 t3 t4))
 go_wp2
 refine bodyPost_ret (qk Tryz.results152 _ _ (w.heap.size+1) 25 _ (0,0) _ rfl (qX (set5 _ _ _ _ _ HRS5.out)) Tryz.underlying25 rfl (by kernel_rfl) _ rfl) rfl ⟨an,cn,ai,ci,rfl,?_,zj _ _ _ _ _ (HB1.out.trans (HB5.out.mono (by omega))) (by omega)⟩
 exact Rep.carry (by omega) (show w5.heap.size≤_ by simp [World.setCell]) (fun j hj _=>jv _ _ _ _ _ (by omega)) _ _ HR5.out
end Go.Proofs.YthgembbgcbaghaaGreatDoor

namespace Go.Proofs.YthgembbgcbaghaaGreatDoor
open Go.RowKit
theorem pg (l:List UInt8) (h:∀c ∈ l,xY c):yk l=l:=by
 induction l with
 | nil=>rfl
 | cons c r ih =>
  have hc:=h c (by simp)
  have e:yk (c :: r)=bS c ++ yk r:=by simp [yk]
  rw [e,ih fun d hd=>h d (by simp [hd])]
  unfold bS xY at *
  rw [if_neg (by omega)];rfl
theorem rl {s t:ByteArray} (h:zW s.data.toList t.data.toList=true):(jf s t).form false:=by
 obtain ⟨h1,h2,_,_⟩:=bq h
 obtain ⟨n1,n2,n3⟩:=mx
 have e:∀i (hi:i < [xt,schN].length),qJ [xt,schN][i]=true:=fun i hi=>by
  match i,hi with
  | 0,_=>exact n1
  | 1,_=>exact n2
 unfold jf JV.form
 refine ⟨.inr (.inr (.inr (.inr ⟨rfl,rfl,e⟩))),?_⟩
 unfold JV.forms JV.forms JV.forms
 unfold txtJ JV.form
 exact ⟨⟨.inr (.inr (.inl ⟨rfl,h2⟩)),by unfold JV.forms;trivial⟩,⟨.inr (.inr (.inl ⟨rfl,h1⟩)),by unfold JV.forms;trivial⟩,trivial⟩
theorem sD {s t:ByteArray} (h:zW s.data.toList t.data.toList=true):(jf s t).enc=j4 s.data.toList t.data.toList:=by
 obtain ⟨h1,h2⟩:=fd h
 have e1:=pg _ (wM h1).1
 have e2:=pg _ (fy h2).1
 have e3:xd xt.data.toList=[34,112,117,98,108,105,99,34]:=by decide
 have e4:xd schN.data.toList=[34,115,99,104,101,109,101,34]:=by decide
 unfold jf txtJ
 simp [JV.enc,JV.encO,sep,e3,e4,j4,sH,sU]
 simp [xd,e1,e2]
structure AuthV where
 thr:Int
 ids:List ByteArray
deriving DecidableEq
def authZ:AuthV:=⟨0,[]⟩
def xG (a:AuthV):Bool:=jG a.thr a.ids
def qb:ByteArray:=⟨#[107,101,121,105,100,115]⟩
def thrN:ByteArray:=⟨#[116,104,114,101,115,104,111,108,100]⟩
def zn (l:List JV):JV:=.mk 4 0 ⟨#[]⟩ [] l
def qh (l:List ByteArray):JV:=zn (l.map txtJ)
def qw (v:JV) (y:ByteArray) (most:Nat) (st:PS):List ByteArray × PS :=
 if st.err≠0 then ([],st) else match v.look y with
 | none=>([],⟨st.asked,6⟩)
 | some it=>if it.kind≠4 then ([],⟨st.asked,10⟩) else if most<it.items.length then ([],⟨st.asked,5⟩) else if it.items.all (fun x=>decide (x.kind=3)) then (it.items.map JV.t,⟨y :: st.asked,0⟩) else ([],⟨st.asked,10⟩)
def j5 (v:JV) (st:PS):PS:=(if (qw v qb 16 st).1=[] then (qw v qb 16 st).2.fail 4 else (qw v qb 16 st).2).fail (z8 [] (qw v qb 16 st).1)
def vu (v:JV) (st:PS):Int × PS:=qN v thrN 1 ((qw v qb 16 st).1.length:Int) (j5 v st)
def j6 (v:JV) (st:PS):AuthV × PS:=(if (vu v st).2.err≠0 then authZ else ⟨(vu v st).1,(qw v qb 16 st).1⟩,(vu v st).2)
theorem pp {l:List JV} (h:∀x ∈ l,x.partB=true):(zn l).partB=true:=by
 rw [JV.partB_eq]
 show (qV 4 0 ⟨#[]⟩ [] l.length && JV.partsB l)=true
 rw [yN l h]
 unfold qV
 rw [if_neg (by decide),if_neg (by decide),if_neg (by decide),if_pos rfl]
 have h2:(⟨#[]⟩:ByteArray).toList=[]:=by rw [ByteArray.toList_eq]
 simp [h2]
theorem zE {a:AuthV} (h:xG a=true):(1≤a.ids.length∧a.ids.length≤16)∧(1≤a.thr∧a.thr≤a.ids.length)∧z8 [] a.ids=0:=by
 unfold xG jG at h
 simp only [Bool.and_eq_true,decide_eq_true_eq] at h
 exact ⟨⟨h.1.1,h.1.2.1⟩,h.1.2.2,h.2⟩
theorem xI:∀(l seen:List ByteArray),z8 seen l=0→∀x ∈ l,gK x=true
 | [],_,_,x,hx=>by simp at hx
 | y :: r,seen,h,x,hx=>by
  unfold z8 at h
  split at h
  · rename_i h1
    split at h
    · cases h
    · rcases List.mem_cons.1 hx with e|e
      · rw [e];exact h1
      · exact xI r _ h x e
  · cases h
theorem kX {x:ByteArray} (h:gK x=true):qJ x=true∧x.size=64:=by
 unfold gK at h
 simp only [Bool.and_eq_true,decide_eq_true_eq] at h
 refine ⟨zc ?_ (by omega),h.1⟩
 intro c hc
 have h2:=List.all_eq_true.1 (by unfold xR at h;exact h.2) c hc
 unfold xM at h2
 unfold xY
 simp at h2 ⊢
 omega
theorem k9 {v:JV} {y:ByteArray} {l:List ByteArray} {most:Nat} {a:List ByteArray} (h:v.look y=some (qh l)) (hl:l.length≤most):qw v y most ⟨a,0⟩=(l,⟨y :: a,0⟩):=by
 unfold qw
 rw [if_neg (by simp),h]
 show (if (qh l).kind≠4 then _ else _:List ByteArray × PS)=_
 have hi:(qh l).items=l.map txtJ:=rfl
 rw [if_neg (by simp [qh,zn,JV.kind]),hi,if_neg (by rw [List.length_map];omega),if_pos (by simp [txtJ,JV.kind])]
 have hm:(l.map txtJ).map JV.t=l:=by rw [List.map_map];exact (List.map_congr_left fun x _=>rfl).trans (List.map_id l)
 rw [hm]
def ml:ByteArray:=⟨#[114,111,111,116]⟩
structure Auth3 where
 a:AuthV
 b:AuthV
 c:AuthV
deriving DecidableEq
structure RootV where
 ver:Int
 exp:Int
 keys:List Key2
 au:Auth3
deriving DecidableEq
def qt:ByteArray:=⟨#[107,101,121,115]⟩
def zX:ByteArray:=⟨#[114,111,108,101,115]⟩
def zp (l:List Key2):Bool:=decide (l.length≤32) && l.all ok2 && qo (ids l)
theorem dj:qo [l5,l6,qt,zX,l4]=true∧(qJ l5=true∧qJ l6=true∧qJ qt=true∧qJ zX=true∧qJ l4=true)∧(l5≠l6∧l5≠qt∧l5≠zX∧l5≠l4∧l6≠qt∧l6≠zX∧l6≠l4∧qt≠zX∧qt≠l4∧zX≠l4):=by
 refine ⟨by kernel_rfl,⟨?_,?_,?_,?_,?_⟩,by decide⟩
 all_goals
  refine zc ?_ (by decide)
  intro c hc
  unfold xY
  revert c
  decide
theorem q6 {l:List Key2}:zp l=true↔l.length≤32∧(∀k ∈ l,ok2 k=true)∧qo (ids l)=true:=by
 unfold zp
 simp only [Bool.and_eq_true,decide_eq_true_eq,List.all_eq_true]
 exact ⟨fun h=>⟨h.1.1,h.1.2,h.2⟩,fun h=>⟨⟨h.1,h.2.1⟩,h.2.2⟩⟩
theorem tK {l:List Key2} (h:zp l=true):(zu l).partB=true∧(zu l).count≤130∧(zu l).depth≤3:=by
 obtain ⟨h1,h2,h3⟩:=q6.1 h
 refine ⟨mh (mu h2 h3 h1),?_,?_⟩
 · rw [JV.count_eq]
   have:=counts_le 3 (l.map obj2) fun x hx=>by obtain ⟨k,_,rfl⟩:=List.mem_map.1 hx;exact Nat.le_refl 3
   rw [List.length_map] at this
   show 1+JV.counts (l.map obj2)≤_
   omega
 · rw [JV.depth_eq]
   have:=jP 1 (l.map obj2) fun x hx=>by obtain ⟨k,_,rfl⟩:=List.mem_map.1 hx;exact Nat.le_refl 1
   rw [if_neg (by simp [zu,JV.kind])]
   show JV.depths (l.map obj2)+1≤_
   omega
theorem tV {N:List NJ} (hr:qo (N.map (·.1))=true) (hl:N.length≤6) (hp:∀p ∈ N,qJ p.1=true∧p.2.partB=true∧p.2.count≤130∧p.2.depth≤3):(zV N).mayB=true:=by
 have h1:=ko ⟨hr,fun p h=>⟨(hp p h).1,(hp p h).2.1⟩⟩
 have h2:=bT 130 fun p h=>(hp p h).2.2.1
 have h3:=kE 3 fun p h=>(hp p h).2.2.2
 have h4:N.length * 130≤6 * 130:=Nat.mul_le_mul_right _ hl
 rw [JV.mayB_iff,h1,decide_eq_true (by omega),decide_eq_true (by omega)];rfl
theorem jH {v it:JV} {y:ByteArray} {most:Nat} {a:List ByteArray} (h:v.look y=some it) (hk:it.kind=5) (hl:it.items.length≤most):qr v y most ⟨a,0⟩=(it,⟨y :: a,0⟩):=by
 unfold qr
 rw [if_neg (by simp),h]
 show (if it.kind≠5 then _ else if most<it.items.length then _ else _:JV × PS)=_
 rw [if_neg (by simp [hk]),if_neg (by omega)]
theorem mr:∀(ns:List ByteArray) (xs:List JV) (r:Nat) (n y:ByteArray) (x:JV),ns.length=xs.length→r≤ns.length→n≠y→qB (ns.take r ++ [n] ++ ns.drop r) (xs.take r ++ [x] ++ xs.drop r) y=qB ns xs y
 | ns,xs,0,n,y,x,_,_,h=>by simp [qB,h]
 | [],_,r+1,_,_,_,_,hr,_=>by simp at hr
 | m :: ns,[],r+1,_,_,_,hl,_,_=>by simp at hl
 | m :: ns,z :: xs,r+1,n,y,x,hl,hr,h=>by
  have ih:=mr ns xs r n y x (by simpa using hl) (by simpa using hr) h
  simp only [List.take_succ_cons,List.drop_succ_cons,List.cons_append]
  rw [qB,qB,ih]
theorem vq {v:JV} {r:Nat} {n y:ByteArray} {x:JV} (hl:v.names.length=v.items.length) (hr:r≤v.names.length) (h:n≠y):(jK v r false n x).look y=v.look y:=by
 show qB (ww v r false n) (go v r false x) y=qB v.names v.items y
 exact mr _ _ r n y x hl hr h
theorem rr (v:JV) (r:Nat) (f:Bool) (n:ByteArray) (x:JV):n ∈ (jK v r f n x).names:=by
 show n ∈ ww v r f n
 unfold ww
 simp
theorem vX (N:List NJ) (y:ByteArray):wF (zV N) y=zV (N.filter fun z=>z.1.toList != y.toList):=by
 have h0:((zV N).names.zip (zV N).items).take (zV N).names.length=N:=by
  show ((N.map (·.1)).zip (N.map (·.2))).take (N.map (·.1)).length=N
  have:(N.map (·.1)).zip (N.map (·.2))=N:=by
   induction N with
   | nil=>rfl
   | cons a r ih=>simp only [List.map_cons,List.zip_cons_cons,ih]
  rw [this,List.length_map,List.take_length]
 unfold wF vd wP gI
 rw [h0]
 rfl
theorem uq {N:List NJ} (p:NJ→Bool) (h:qo (N.map (·.1))=true):qo ((N.filter p).map (·.1))=true:=by
 rw [cS] at h ⊢
 exact h.sublist (List.filter_sublist.map _)
theorem gY:∀(N:List NJ) (n y:ByteArray),qB ((N.filter fun z=>z.1.toList != n.toList).map (·.1)) ((N.filter fun z=>z.1.toList != n.toList).map (·.2)) y=if n=y then none else qB (N.map (·.1)) (N.map (·.2)) y
 | [],n,y=>by simp [qB]
 | a :: N,n,y=>by
  have ih:=gY N n y
  by_cases h:a.1=n
  · have hb:(a.1.toList != n.toList)=false:=by rw [h];simp
    rw [List.filter_cons,hb,if_neg (by simp),ih,List.map_cons,List.map_cons,qB]
    by_cases hy:n=y
    · rw [if_pos hy,if_pos hy]
    · rw [if_neg hy,if_neg hy,if_neg (by rw [h];exact hy)]
  · have hb:(a.1.toList != n.toList)=true:=by
     rw [bne_iff_ne]
     exact fun e=>h (vt e)
    rw [List.filter_cons,hb,if_pos rfl,List.map_cons,List.map_cons,qB,ih,List.map_cons,List.map_cons,qB]
    by_cases hy:n=y
    · subst hy
      simp [h]
    · simp only [if_neg hy]
theorem rn (N:List NJ) (n y:ByteArray):(wF (zV N) n).look y=if n=y then none else (zV N).look y:=by
 rw [vX]
 exact gY N n y
theorem rt {u:JV} {asked:List ByteArray} {x:ByteArray} (hx:x ∈ u.names) (hn:x ∉ asked):qp u ⟨asked,0⟩=11:=by
 unfold qp
 rw [if_neg (by simp),if_neg]
 intro h
 have:=List.all_eq_true.1 h x hx
 obtain ⟨a,ha,e⟩:=List.any_eq_true.1 this
 simp only [decide_eq_true_eq] at e
 subst e
 exact hn ha
end Go.Proofs.YthgembbgcbaghaaGreatDoor
