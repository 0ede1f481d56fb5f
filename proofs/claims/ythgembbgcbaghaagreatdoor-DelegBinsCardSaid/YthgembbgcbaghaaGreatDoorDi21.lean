/- Plain: what root.Of tells of a root's object with a member less, with another member, with a member more; the same of the object of its roles. No program in sight. -/
import Derived.Test.YthgembbgcbaghaaGreatDoorDi20
import Derived.Test.YthgembbgcbaghaaGreatDoorDi17

namespace Go.Proofs.YthgembbgcbaghaaGreatDoor
open Go.RowKit Go.WideMaps Go.Maps
theorem mL (l:List JV) (j:Nat) (h:j<l.length) (hp:JV.partsB l=true):l[j].partB=true:=by
 cases hb:l[j].partB
 · rw [JV.partsB_bad l j h hb] at hp;cases hp
 · rfl
end Go.Proofs.YthgembbgcbaghaaGreatDoor

namespace Go.Proofs.YthgembbgcbaghaaGreatDoor
open Go.RowKit
theorem dI {t:ByteArray} (h:t.toList=[]):t=⟨#[]⟩:=by
 rw [ByteArray.toList_eq] at h
 exact pd (by simpa using h)
theorem gE {x:JV} (h:x.partB=true) (hk:x.kind=5):(x.n=0∧x.t=⟨#[]⟩)∧x.names.length=x.items.length∧qe x.names=true∧∀y ∈ x.items,y.partB=true:=by
 rw [JV.partB_eq,Bool.and_eq_true] at h
 obtain ⟨h1,h2⟩:=h
 rw [hk] at h1
 unfold qJ at h1
 rw [if_neg (by decide),if_neg (by decide),if_neg (by decide),if_neg (by decide),if_pos rfl,Bool.and_eq_true,Bool.and_eq_true,decide_eq_true_eq] at h1
 obtain ⟨⟨⟨a,b,c⟩,d⟩,-⟩:=h1
 refine ⟨⟨a,dI b⟩,c,d,fun y hy=>?_⟩
 obtain ⟨i,hi,rfl⟩:=List.getElem_of_mem hy
 exact mL _ i hi h2
theorem kr:∀ {ns:List ByteArray} {xs:List JV} {y:ByteArray} {x:JV},qC ns xs y=some x→y ∈ ns∧x ∈ xs
 | n :: ns,z :: xs,y,x,h=>by
  rw [qC] at h
  split at h
  · rename_i e
    injection h with h
    subst h;subst e
    exact ⟨List.mem_cons_self ..,List.mem_cons_self ..⟩
  · have:=kr h
    exact ⟨List.mem_cons_of_mem _ this.1,List.mem_cons_of_mem _ this.2⟩
def cA (v:JV):Prop:=v.kind=5∧(v.n=0∧v.t=⟨#[]⟩)∧qe v.names=true∧v.names.length=v.items.length∧∀x ∈ v.items,x.partB=true∨x=zf
theorem rS {v:JV} (h:v.mayB=true) (hk:v.kind=5):cA v:=by
 rw [JV.mayB_iff] at h
 simp only [Bool.and_eq_true] at h
 obtain ⟨a,b,c,d⟩:=gE h.1.1 hk
 exact ⟨hk,a,c,b,fun x hx=>.inl (d x hx)⟩
theorem tL {v:JV} (h:cA v) {y:ByteArray} {it:JV} (e:v.look y=some it) (hk:it.kind≠0):it.partB=true:=by
 rcases h.2.2.2.2 it (kr e).2 with h|h
 · exact h
 · exact absurd (by rw [h];rfl) hk
def qB (n:Nat):UInt8:=if n<10 then UInt8.ofNat (48+n) else UInt8.ofNat (87+n)
def xw:List UInt8→List UInt8
 | []=>[]
 | c :: r=>qB (c.toNat / 16) :: qB (c.toNat % 16) :: xw r
theorem bS (l m:List UInt8):xw (l ++ m)=xw l ++ xw m:=by
 induction l with
 | nil=>rfl
 | cons c r ih=>simp [xw,ih]
theorem bA (l:List UInt8):(xw l).length=2 * l.length:=by
 induction l with
 | nil=>rfl
 | cons c r ih=>simp [xw,ih];omega
def jJ (l:List UInt8):List UInt8:=xw (qO l)
theorem vM (l:List UInt8):(jJ l).length=64:=by unfold jJ;rw [bA,xt]
theorem wj (n:Nat) (h:n<16):xn (qB n)=true:=by
 have:∀m:Fin 16,xn (qB m.val)=true:=by decide
 exact this ⟨n,h⟩
theorem g6:∀l:List UInt8,xd (xw l)=true
 | []=>rfl
 | c :: r=>by
  have h:=g6 r
  have hc:c.toNat<256:=c.toNat_lt
  unfold xd at h ⊢
  simp only [xw,List.all_cons,Bool.and_eq_true]
  exact ⟨wj _ (by omega),wj _ (by omega),h⟩
theorem mR (l:List UInt8):xd (jJ l)=true:=g6 _
def xi:ByteArray:=⟨#[112,117,98,108,105,99]⟩
def schN:ByteArray:=⟨#[115,99,104,101,109,101]⟩
def jv (s t:ByteArray):JV:=.mk 5 0 ⟨#[]⟩ [xi,schN] [txtJ t,txtJ s]
theorem pi {s t:List UInt8} (h:zY s t=true):q9 s=true∧yY t=true:=by
 unfold zY at h;simpa using h
theorem gh {s t:ByteArray} (h:zY s.data.toList t.data.toList=true):qQ s=true∧qQ t=true∧s.size≤64∧t.size≤128:=by
 obtain ⟨h1,h2⟩:=pi h
 have h3:=wx h1
 have h4:=pm h2
 rw [qh] at h3 h4
 exact ⟨zl h3.1 (by omega),zl h4.1 (by omega),h3.2.2,h4.2.2⟩
theorem uz:qQ xi=true∧qQ schN=true∧qe [xi,schN]=true:=by
 refine ⟨zl ?_ (by decide),zl ?_ (by decide),?_⟩
 · intro c hc;unfold xG;revert c;decide
 · intro c hc;unfold xG;revert c;decide
 · unfold qe qe;rw [ByteArray.toList_eq,ByteArray.toList_eq];decide
theorem ux (t:ByteArray) (h:qQ t=true) (d:Nat) (l:Int) (hl:1≤l):(txtJ t).may d l=(true,l - 1):=by
 unfold txtJ
 rw [JV.may,if_neg (by omega)]
 have:qJ 3 0 t [] 0=true:=by unfold qJ;simp [h]
 rw [show ([]:List JV).length=0 from rfl,this]
 simp
theorem g7 {s t:ByteArray} (h:zY s.data.toList t.data.toList=true):(jv s t).mayB=true:=by
 obtain ⟨h1,h2,_,_⟩:=gh h
 obtain ⟨n1,n2,n3⟩:=uz
 unfold JV.mayB jv
 have hp:qJ 5 0 ⟨#[]⟩ [xi,schN] 2=true:=by
  unfold qJ
  rw [ByteArray.toList_eq]
  simp [n1,n2,n3]
 have hm:JV.mays [txtJ t,txtJ s] (12 - 1) (8192 - 1)=(true,8192 - 1 - 1 - 1):=by
  rw [JV.mays,ux t h2 _ _ (by omega),if_pos rfl,JV.mays,ux s h1 _ _ (by omega),if_pos rfl,JV.mays]
 rw [JV.may,if_neg (by omega),show ([txtJ t,txtJ s]:List JV).length=2 from rfl,hp,if_neg (by decide),if_neg (by decide),if_neg (by decide),hm]
theorem sL {s t:ByteArray} (hs:s.size≤4294967) (ht:t.size≤4294967):(jv s t).wt≤4294967296:=by
 unfold jv txtJ
 have e1:xi.size=6:=rfl
 have e2:schN.size=6:=rfl
 have e3:(⟨#[]⟩:ByteArray).size=0:=rfl
 simp only [JV.wt,JV.wts,qu]
 omega
def rA:List UInt8:=[123,34,112,117,98,108,105,99,34,58,34]
def rT:List UInt8:=[34,44,34,115,99,104,101,109,101,34,58,34]
def jS (s t:List UInt8):List UInt8:=rA ++ (t ++ (rT ++ (s ++ [34,125])))
theorem uj (s t:List UInt8):(jS s t).length=s.length+t.length+25:=by simp [jS,rA,rT];omega
def jK (s t:List UInt8):List UInt8:=if zY s t then jJ (jS s t) else []
def zw (v:JV):(ByteArray × ByteArray) × Int :=
 if v.mayB=false then ((⟨#[]⟩,⟨#[]⟩),3) else if v.kind≠5 then ((⟨#[]⟩,⟨#[]⟩),10) else
  if qp v (qb v schN (qb v xi ⟨[],0⟩).2).2≠0 then ((⟨#[]⟩,⟨#[]⟩),qp v (qb v schN (qb v xi ⟨[],0⟩).2).2) else
  if zY (qb v schN (qb v xi ⟨[],0⟩).2).1.data.toList (qb v xi ⟨[],0⟩).1.data.toList then (((qb v schN (qb v xi ⟨[],0⟩).2).1,(qb v xi ⟨[],0⟩).1),0) else ((⟨#[]⟩,⟨#[]⟩),3)
theorem tx:xi≠schN:=by decide
theorem rI (s t:ByteArray):(jv s t).look xi=some (txtJ t):=by
 unfold JV.look jv JV.names JV.items;simp [qC]
theorem rO (s t:ByteArray):(jv s t).look schN=some (txtJ s):=by
 unfold JV.look jv JV.names JV.items;simp [qC,tx]
theorem mN {s t:ByteArray} (h:zY s.data.toList t.data.toList=true):zw (jv s t)=((s,t),0):=by
 have h1:qb (jv s t) xi ⟨[],0⟩=(t,⟨[xi],0⟩):=by unfold qb;rw [if_neg (by simp),rI];rfl
 have h2:qb (jv s t) schN ⟨[xi],0⟩=(s,⟨[schN,xi],0⟩):=by unfold qb;rw [if_neg (by simp),rO];rfl
 have h3:qp (jv s t) ⟨[schN,xi],0⟩=0:=by
  unfold qp;rw [if_neg (by simp)]
  have:(jv s t).names=[xi,schN]:=rfl
  rw [this];simp
 unfold zw
 rw [if_neg (by rw [g7 h];simp),if_neg (by show ¬(5:Int)≠5;simp),h1]
 simp only
 rw [h2]
 simp only
 rw [h3,if_neg (by simp),if_pos h]
def dO (s t:ByteArray):ByteArray:=⟨(jK s.data.toList t.data.toList).toArray⟩
def ok2 (k:Key2):Bool:=zY k.1.data.toList k.2.data.toList
def id2 (k:Key2):ByteArray:=dO k.1 k.2
def ids (l:List Key2):List ByteArray:=l.map id2
def obj2 (k:Key2):JV:=jv k.1 k.2
def zW (m:List Key2):JV:=.mk 5 0 ⟨#[]⟩ (m.map id2) (m.map obj2)
theorem uk {l:List ByteArray} (h:qe l=true):l.Nodup:=by
 rw [List.Nodup,List.pairwise_iff_getElem]
 intro i j hi hj hij e
 have:=jx h i j hi hj hij
 rw [e,zQ] at this;cases this
theorem uv {k:Key2}:(id2 k).size≤64:=by
 show (jK _ _).toArray.size≤64
 unfold jK
 split
 · rw [List.size_toArray,vM];exact Nat.le_refl _
 · simp
theorem sR {k:Key2} (h:k.1.size≤300∧k.2.size≤300):(obj2 k).wt≤1000:=by
 unfold obj2 jv txtJ
 have e1:xi.size=6:=rfl
 have e2:schN.size=6:=rfl
 have e3:(⟨#[]⟩:ByteArray).size=0:=rfl
 simp only [JV.wt,JV.wts,qu]
 omega
theorem fy {m:List Key2} (hs:∀k ∈ m,k.1.size≤300∧k.2.size≤300):(zW m).wt≤1+1100 * m.length:=by
 have h1:∀m:List Key2,qu (m.map id2)≤65 * m.length:=fun m=>by
  induction m with
  | nil=>simp [qu]
  | cons k r ih=>have:=@uv k;simp only [List.map_cons,qu,List.length_cons];omega
 have h2:∀m:List Key2,(∀k ∈ m,k.1.size≤300∧k.2.size≤300)→JV.wts (m.map obj2)≤1000 * m.length:=fun m=>by
  induction m with
  | nil=>intro _;simp [JV.wts]
  | cons k r ih=>intro hs;have:=sR (hs k (by simp));have:=ih (fun k hk=>hs k (List.mem_cons_of_mem _ hk));simp only [List.map_cons,JV.wts,List.length_cons];omega
 have e3:(⟨#[]⟩:ByteArray).size=0:=rfl
 have:=h1 m
 have:=h2 m hs
 unfold zW
 simp only [JV.wt]
 omega
theorem dE {v:JV} (h:(zw v).2=0):zY (zw v).1.1.data.toList (zw v).1.2.data.toList=true∧(zw v).1.1.size≤64∧(zw v).1.2.size≤128:=by
 have h2:zY (zw v).1.1.data.toList (zw v).1.2.data.toList=true:=by
  unfold zw at h ⊢
  split at h
  · cases h
  next c1 =>
  rw [if_neg c1]
  split at h
  · cases h
  next c2 =>
  rw [if_neg c2]
  split at h
  · next c3=>exact absurd h c3
  next c3 =>
  rw [if_neg c3]
  split at h
  · next c4=>rw [if_pos c4];exact c4
  · cases h
 obtain ⟨_,_,a,b⟩:=gh h2
 exact ⟨h2,a,b⟩
def jg:List ByteArray→List JV→List Key2→List Key2 × Int
 | id :: ns,it :: its,acc=>if (zw it).2≠0 then ([],(zw it).2) else if (dO (zw it).1.1 (zw it).1.2).toList == id.toList then jg ns its (acc ++ [(zw it).1]) else ([],3)
 | _,_,acc=>(acc,0)
def pe (r:Key2 × Int) (id:ByteArray) (ns:List ByteArray) (its:List JV) (acc:List Key2):List Key2 × Int :=
 if r.2≠0 then ([],r.2) else if (dO r.1.1 r.1.2).toList == id.toList then jg ns its (acc ++ [r.1]) else ([],3)
theorem d8 (its:List JV) (acc:List Key2):jg [] its acc=(acc,0):=by
 unfold jg;rfl
theorem mS (ns:List ByteArray) (its:List JV) (k:Nat) (acc:List Key2) (h:k<ns.length) (h':k<its.length):jg (ns.drop k) (its.drop k) acc=pe (zw its[k]) ns[k] (ns.drop (k+1)) (its.drop (k+1)) acc:=by
 rw [List.drop_eq_getElem_cons h,List.drop_eq_getElem_cons h',jg,pe]
def xo (v:JV):List Key2 × Int:=if v.mayB=false then ([],3) else if v.kind≠5 then ([],10) else if 32<v.names.length then ([],5) else jg v.names v.items []
theorem g8:∀ {l:List JV},JV.partsB l=true→∀x ∈ l,JV.partB x=true
 | [],_,x,hx=>by simp at hx
 | y :: r,h,x,hx=>by
  rw [JV.partsB,Bool.and_eq_true] at h
  rcases List.mem_cons.1 hx with rfl|hx
  · exact h.1
  · exact g8 h.2 x hx
theorem uw {v:JV} (h:v.mayB=true):v.partB=true:=by
 rw [JV.mayB_iff] at h
 simp only [Bool.and_eq_true] at h
 exact h.1.1
theorem tj {k:Key2} (h:ok2 k=true):qQ (id2 k)=true:=by
 have e:(id2 k).data.toList=jJ (jS k.1.data.toList k.2.data.toList):=by
  show (jK _ _)=_
  unfold jK
  rw [if_pos (show zY k.1.data.toList k.2.data.toList=true from h)]
 refine zl ?_ (Nat.le_trans uv (by decide))
 rw [e]
 have:=mR (jS k.1.data.toList k.2.data.toList)
 unfold xd at this
 exact fun c hc=>yu (List.all_eq_true.1 this c hc)
theorem uy {m:List Key2} (hok:∀k ∈ m,ok2 k=true) (hr:qe (ids m)=true) (hl:m.length≤32):(zW m).mayB=true:=by
 rw [JV.mayB_iff]
 have hp:∀m:List Key2,(∀k ∈ m,ok2 k=true)→JV.partsB (m.map obj2)=true:=fun m=>by
  induction m with
  | nil=>intro _;rfl
  | cons k r ih =>
   intro h
   rw [List.map_cons,JV.partsB,Bool.and_eq_true]
   exact ⟨uw (g7 (h k (by simp))),ih fun x hx=>h x (List.mem_cons_of_mem _ hx)⟩
 have hc:∀m:List Key2,JV.counts (m.map obj2)=3 * m.length:=fun m=>by
  induction m with
  | nil=>rfl
  | cons k r ih =>
   have:JV.count (obj2 k)=3:=rfl
   rw [List.map_cons,JV.counts,ih,this,List.length_cons];omega
 have hd:∀m:List Key2,JV.depths (m.map obj2)≤1:=fun m=>by
  induction m with
  | nil=>exact Nat.zero_le _
  | cons k r ih =>
   have:JV.depth (obj2 k)=1:=rfl
   rw [List.map_cons,JV.depths,this];omega
 have h1:(zW m).partB=true:=by
  unfold zW
  rw [JV.partB,hp m hok]
  have:qJ 5 0 ⟨#[]⟩ (m.map id2) (m.map obj2).length=(decide ((0:Int)=0∧(⟨#[]⟩:ByteArray).toList=[]∧(m.map id2).length=(m.map obj2).length) && qe (m.map id2) && (m.map id2).all qQ):=rfl
  rw [this,show qe (m.map id2)=true from hr,ByteArray.toList_eq]
  have h2:(m.map id2).all qQ=true:=by
   rw [List.all_eq_true]
   intro x hx
   obtain ⟨k,hk,rfl⟩:=List.mem_map.1 hx
   exact tj (hok k hk)
  rw [h2]
  simp
 have h2:(zW m).count≤8192:=by unfold zW;rw [JV.count,hc];omega
 have h3:(zW m).depth≤12:=by
  unfold zW;rw [JV.depth,if_neg (by simp)];have:=hd m;omega
 rw [h1]
 simp [h2,h3]
theorem pQ:∀(m:List Key2) (acc:List Key2),(∀k ∈ m,ok2 k=true)→jg (m.map id2) (m.map obj2) acc=(acc ++ m,0)
 | [],acc,_=>by simp [jg]
 | k :: r,acc,h=>by
  have e:=mN (s:=k.1) (t:=k.2) (h k (by simp))
  rw [List.map_cons,List.map_cons,jg,show obj2 k=jv k.1 k.2 from rfl,e]
  simp only
  rw [if_neg (by simp),if_pos (by simp [id2]),pQ r _ fun x hx=>h x (List.mem_cons_of_mem _ hx)]
  simp
theorem pZ {m:List Key2} (hok:∀k ∈ m,ok2 k=true) (hr:qe (ids m)=true) (hl:m.length≤32):xo (zW m)=(m,0):=by
 unfold xo
 rw [if_neg (by rw [uy hok hr hl];simp),if_neg (by show ¬(5:Int)≠5;simp),if_neg (by show ¬32<(m.map id2).length;simp;omega)]
 show jg (m.map id2) (m.map obj2) []=_
 rw [pQ m [] hok,List.nil_append]
theorem wB {k:Key2} (h:ok2 k=true):k.1.size≤300∧k.2.size≤300:=by
 obtain ⟨_,_,a,b⟩:=gh h
 omega
end Go.Proofs.YthgembbgcbaghaaGreatDoor

namespace Go.Proofs.YthgembbgcbaghaaGreatDoor
open Go.RowKit Go.Shelf Go.Sort
theorem tk (t s:ByteArray) (w:World) (T:Nat) (ht:t.size≤4294967000) (hs:s.size≤4294967000) :
 Calls Tryz.prog 150 #[.slice (some ⟨w.heap.size,0,none⟩) 2 2] (w.alloc (.cells #[.string ⟨#[112,117,98,108,105,99]⟩,.int .u8 3,.int .i64 0,.string t,.slice none 0 0,.slice none 0 0,.string ⟨#[115,99,104,101,109,101]⟩,.int .u8 3,.int .i64 0,.string s,.slice none 0 0,.slice none 0 0] T))
  (wY [xi,schN] [txtJ t,txtJ s] (w.alloc (.cells #[.string ⟨#[112,117,98,108,105,99]⟩,.int .u8 3,.int .i64 0,.string t,.slice none 0 0,.slice none 0 0,.string ⟨#[115,99,104,101,109,101]⟩,.int .u8 3,.int .i64 0,.string s,.slice none 0 0,.slice none 0 0] T))):=by
 have:=fj #[jZ xi t,jZ schN s] #[jZ xi t,jZ schN s] [txtJ t,txtJ s] w.heap.size 0 2 (w.alloc (.cells #[.string ⟨#[112,117,98,108,105,99]⟩,.int .u8 3,.int .i64 0,.string t,.slice none 0 0,.slice none 0 0,.string ⟨#[115,99,104,101,109,101]⟩,.int .u8 3,.int .i64 0,.string s,.slice none 0 0,.slice none 0 0] T)) 0 0 ?_ (by simp) (by simp) ?_ rfl ?_ ?_ (by simp)
 · exact this
 · exact mD (T:=T) (by rw [heap_alloc_new,rP];rfl)
 · refine mF _ _ _ fun j hj=>?_
   obtain rfl:j=0:=by simp at hj;omega
   show ltOf cfM (jZ schN s) (jZ xi t)=false
   show decide (Lib.compareBytes schN.data.toList xi.data.toList<0)=false
   decide
 · intro i hi
   match i,hi with
   | 0,_=>exact ⟨wG _ _ _ _,by simp [txtJ,JV.wt,JV.wts,qu];omega,fun k h=>by simp [txtJ,JV.items] at h⟩
   | 1,_=>exact ⟨wG _ _ _ _,by simp [txtJ,JV.wt,JV.wts,qu];omega,fun k h=>by simp [txtJ,JV.items] at h⟩
 · intro i hi
   obtain rfl:i=0:=by simp at hi;omega
   show xi≠schN
   decide
def mA (s t:ByteArray) (w:World) (e:Ending) (w':World):Prop :=
 ∃an cn ai ci,e=.returned (.tuple #[.agg #[.int .u8 5,.int .i64 0,.string ⟨#[]⟩,.slice an 2 cn,.slice ai 2 ci],.int .i64 0]) ∧
  Rep w' w.heap.size w'.heap.size (jv s t) (.agg #[.int .u8 5,.int .i64 0,.string ⟨#[]⟩,.slice an 2 cn,.slice ai 2 ci])∧Below w.heap.size w w'
set_option maxHeartbeats 400000 in
set_option maxRecDepth 100000 in
theorem ug (s t:ByteArray) (w:World) (hs:s.size≤4294967000) (ht:t.size≤4294967000) (hk:zY s.data.toList t.data.toList=false) :
 Calls Tryz.prog 152 #[.agg #[.string s,.string t]] w fun e w'=>e=.returned (.tuple #[zeroAgg,.int .i64 3])∧Below w.heap.size w w':=by
 have HM:=Lh (mB s t ((w.alloc (.cells #[.string s,.string t] 43)).alloc (.cells #[.int .u8 0,.int .i64 0,.string ⟨#[]⟩,.slice none 0 0,.slice none 0 0] 25)) (by omega) (by omega))
 rw [hk] at HM
 have hr0:=qm (w.alloc (.cells #[.string s,.string t] 43)) (.int .u8 0) (.int .i64 0) (.string ⟨#[]⟩) (.slice none 0 0) (.slice none 0 0) 25
 rw [show (w.alloc (.cells #[.string s,.string t] 43)).heap.size=w.heap.size+1 by simp] at hr0
 have HR0:=Lh hr0
 have HB0:=Lh (show Below w.heap.size w ((w.alloc (.cells #[.string s,.string t] 43)).alloc (.cells #[.int .u8 0,.int .i64 0,.string ⟨#[]⟩,.slice none 0 0,.slice none 0 0] 25)) from ((Below.refl _ _).alloc lz _).alloc (by simp) _)
 clear hk hr0
 go_enter Tryz.func152,Tryz.ntmps152
 go_wp2_with fail
 refine HM.out.mono ?_
 rintro e w1 ⟨rfl,hb1⟩
 have hres:=qj hb1 HR0.out (by simp)
 have HRS:=Lh hres
 have HB1:=Lh (HB0.out.trans (hb1.mono (by simp;omega)))
 obtain ⟨t0,t1,t2,t3,t4⟩:=rc5 hres
 obtain ⟨s0,s1,s2,s3,s4⟩:=rf5 hres
 simp only [qK] at t0 t1 t2 t3 t4
 clear hres hb1
 go_wp2
 exact bodyPost_ret (qw Tryz.results152 _ _ (w.heap.size+1) 25 _ (0,0) _ rfl (qZ (set5 _ _ _ _ _ HRS.out)) Tryz.underlying25 rfl (by kernel_rfl) _ rfl) rfl ⟨rfl,zu _ _ _ _ _ HB1.out (by omega)⟩
set_option maxHeartbeats 1000000 in
set_option maxRecDepth 100000 in
theorem wP (s t:ByteArray) (w:World) (hs:s.size≤4294967000) (ht:t.size≤4294967000) (hk:zY s.data.toList t.data.toList=true) :
 Calls Tryz.prog 152 #[.agg #[.string s,.string t]] w (mA s t w):=by
 have HM:=Lh (mB s t ((w.alloc (.cells #[.string s,.string t] 43)).alloc (.cells #[.int .u8 0,.int .i64 0,.string ⟨#[]⟩,.slice none 0 0,.slice none 0 0] 25)) (by omega) (by omega))
 rw [hk] at HM
 have hr0:=qm (w.alloc (.cells #[.string s,.string t] 43)) (.int .u8 0) (.int .i64 0) (.string ⟨#[]⟩) (.slice none 0 0) (.slice none 0 0) 25
 rw [show (w.alloc (.cells #[.string s,.string t] 43)).heap.size=w.heap.size+1 by simp] at hr0
 have HR0:=Lh hr0
 have HB0:=Lh (show Below w.heap.size w ((w.alloc (.cells #[.string s,.string t] 43)).alloc (.cells #[.int .u8 0,.int .i64 0,.string ⟨#[]⟩,.slice none 0 0,.slice none 0 0] 25)) from ((Below.refl _ _).alloc lz _).alloc (by simp) _)
 have HX0:=Lh (show ((w.alloc (.cells #[.string s,.string t] 43)).alloc (.cells #[.int .u8 0,.int .i64 0,.string ⟨#[]⟩,.slice none 0 0,.slice none 0 0] 25)).heap[w.heap.size]?=some (.cells #[.string s,.string t] 43 (0,0)) by rw [Below.heap_alloc _ _ _ (by simp)];exact heap_alloc_new w _)
 clear hk hr0
 go_enter Tryz.func152,Tryz.ntmps152
 go_wp2_with fail
 refine HM.out.mono ?_
 clear HM
 rintro e w1 ⟨rfl,hb1⟩
 have HRS:=Lh (qj hb1 HR0.out (by simp))
 have hz1:w.heap.size+2≤w1.heap.size:=by have:=hb1.size;simp at this;omega
 have hx1:w1.heap[w.heap.size]?=some (.cells #[.string s,.string t] 43 (0,0)):=by rw [hb1.block _ (by simp;omega)];exact HX0.out
 have HX1:=Lh hx1
 have HB1:=Lh (HB0.out.trans (hb1.mono (by simp;omega)))
 clear hb1 hx1 HX0 HB0 HR0
 have HC:=Lh (show ∀w':World,Below w1.heap.size w1 w'→w'.cell? ⟨w.heap.size,0,none⟩=some (.string s)∧w'.cell? ⟨w.heap.size,1,none⟩=some (.string t)∧w.heap.size<w'.heap.size from fun w' h=>by
  have:=h.size
  exact ⟨by rw [h.cell (by show w.heap.size<_;omega)];simp [World.cell?,HX1.out],by rw [h.cell (by show w.heap.size<_;omega)];simp [World.cell?,HX1.out],by omega⟩)
 have HT:=Lh (show ∀(u:ByteArray) (w':World),Below w1.heap.size w1 w'→Calls Tryz.prog 201 #[.string u] w' (fun e w''=>e=.returned (.agg #[.int .u8 3,.int .i64 0,.string u,.slice none 0 0,.slice none 0 0])∧Below w1.heap.size w1 w''∧w''.cell? ⟨w.heap.size,0,none⟩=some (.string s)∧w''.cell? ⟨w.heap.size,1,none⟩=some (.string t)∧w.heap.size<w''.heap.size) from fun u w' h=>by
  refine (kP u w').mono ?_
  rintro e w'' ⟨rfl,rfl⟩
  have hb:Below w1.heap.size w1 (w'.alloc (.cells #[.int .u8 3,.int .i64 0,.string u,.slice none 0 0,.slice none 0 0] 25)):=h.alloc h.size _
  exact ⟨rfl,hb,HC.out _ hb⟩)
 have HO:=Lh (show ∀(w':World),Below w1.heap.size w1 w'→Calls Tryz.prog 150 #[.slice (some ⟨w'.heap.size,0,none⟩) 2 2] (w'.alloc (.cells #[.string ⟨#[112,117,98,108,105,99]⟩,.int .u8 3,.int .i64 0,.string t,.slice none 0 0,.slice none 0 0,.string ⟨#[115,99,104,101,109,101]⟩,.int .u8 3,.int .i64 0,.string s,.slice none 0 0,.slice none 0 0] 169)) (fun e w''=>∃an cn ai ci,e=.returned (.tuple #[.agg #[.int .u8 5,.int .i64 0,.string ⟨#[]⟩,.slice an 2 cn,.slice ai 2 ci],.int .i64 0])∧Rep w'' w1.heap.size w''.heap.size (jv s t) (.agg #[.int .u8 5,.int .i64 0,.string ⟨#[]⟩,.slice an 2 cn,.slice ai 2 ci])∧Below w1.heap.size w1 w''∧w''.cell? ⟨w.heap.size,0,none⟩=some (.string s)∧w''.cell? ⟨w.heap.size,1,none⟩=some (.string t)∧w''.rowIs (w.heap.size+1) 25 5 (qK (.int .u8 0) (.int .i64 0) (.string ⟨#[]⟩) (.slice none 0 0) (.slice none 0 0))) from fun w' h=>by
  refine (tk t s w' _ ht hs).mono ?_
  rintro e w'' ⟨an,cn,ai,ci,rfl,hr,hb⟩
  have hb2:Below w1.heap.size w1 w'':=(h.alloc h.size _).trans (hb.mono (by have:=h.size;simp;omega))
  have hc:=HC.out _ hb2
  exact ⟨an,cn,ai,ci,rfl,Rep.carry (by have:=h.size;simp;omega) lz (fun _ _ _=>rfl) _ _ hr,hb2,hc.1,hc.2.1,qj hb2 HRS.out (by omega)⟩)
 have hbz:Below w1.heap.size w1 w1.drew:=(Below.refl _ _).drew
 obtain ⟨q0,q1,hzq⟩:=HC.out w1 (Below.refl _ _)
 go_wp2_with fail
 go_region_held3 (fun w'=>w'.cell? ⟨w.heap.size,0,none⟩=some (.string s)∧w'.cell? ⟨w.heap.size,1,none⟩=some (.string t)) (first|(with_reducible exact ⟨q0,q1⟩)|(with_reducible exact ⟨(qo _ hzq).trans q0,(qo _ hzq).trans q1⟩)|(go_keep;done)) (first|(go_at_call 201;(with_reducible refine (HT.out _ _ hbz).mono ?_);rintro e w2 ⟨rfl,hbz,q0,q1,hzq⟩)|(go_at_call 150;(with_reducible refine (HO.out _ hbz).mono ?_);rintro e w5 ⟨an,cn,ai,ci,rfl,hr5,hb5,q0,q1,hres⟩;obtain ⟨t0,t1,t2,t3,t4⟩:=rc5 hres;obtain ⟨s0,s1,s2,s3,s4⟩:=rf5 hres;have HRS5:=Lh hres;have HR5:=Lh hr5;have HB5:=Lh hb5;clear hres hr5 hb5;simp only [qK] at t0 t1 t2 t3 t4))
 go_wp2
 refine bodyPost_ret (qw Tryz.results152 _ _ (w.heap.size+1) 25 _ (0,0) _ rfl (qZ (set5 _ _ _ _ _ HRS5.out)) Tryz.underlying25 rfl (by kernel_rfl) _ rfl) rfl ⟨an,cn,ai,ci,rfl,?_,zu _ _ _ _ _ (HB1.out.trans (HB5.out.mono (by omega))) (by omega)⟩
 exact Rep.carry (by omega) (show w5.heap.size≤_ by simp [World.setCell]) (fun j hj _=>jd _ _ _ _ _ (by omega)) _ _ HR5.out
end Go.Proofs.YthgembbgcbaghaaGreatDoor

namespace Go.Proofs.YthgembbgcbaghaaGreatDoor
open Go.RowKit
theorem g9 (l:List UInt8) (h:∀c ∈ l,xG c):wW l=l:=by
 induction l with
 | nil=>rfl
 | cons c r ih =>
  have hc:=h c (by simp)
  have e:wW (c :: r)=gL c ++ wW r:=by simp [wW]
  rw [e,ih fun d hd=>h d (by simp [hd])]
  unfold gL xG at *
  rw [if_neg (by omega)];rfl
theorem d9 {s t:ByteArray} (h:zY s.data.toList t.data.toList=true):(jv s t).form false:=by
 obtain ⟨h1,h2,_,_⟩:=gh h
 obtain ⟨n1,n2,n3⟩:=uz
 have e:∀i (hi:i < [xi,schN].length),qQ [xi,schN][i]=true:=fun i hi=>by
  match i,hi with
  | 0,_=>exact n1
  | 1,_=>exact n2
 unfold jv JV.form
 refine ⟨.inr (.inr (.inr (.inr ⟨rfl,rfl,e⟩))),?_⟩
 unfold JV.forms JV.forms JV.forms
 unfold txtJ JV.form
 exact ⟨⟨.inr (.inr (.inl ⟨rfl,h2⟩)),by unfold JV.forms;trivial⟩,⟨.inr (.inr (.inl ⟨rfl,h1⟩)),by unfold JV.forms;trivial⟩,trivial⟩
theorem rE {s t:ByteArray} (h:zY s.data.toList t.data.toList=true):(jv s t).enc=jS s.data.toList t.data.toList:=by
 obtain ⟨h1,h2⟩:=pi h
 have e1:=g9 _ (wx h1).1
 have e2:=g9 _ (pm h2).1
 have e3:xl xi.data.toList=[34,112,117,98,108,105,99,34]:=by decide
 have e4:xl schN.data.toList=[34,115,99,104,101,109,101,34]:=by decide
 unfold jv txtJ
 simp [JV.enc,JV.encO,sep,e3,e4,jS,rA,rT]
 simp [xl,e1,e2]
structure AuthV where
 thr:Int
 ids:List ByteArray
deriving DecidableEq
def authZ:AuthV:=⟨0,[]⟩
def xZ (a:AuthV):Bool:=jQ a.thr a.ids
def qy:ByteArray:=⟨#[107,101,121,105,100,115]⟩
def thrN:ByteArray:=⟨#[116,104,114,101,115,104,111,108,100]⟩
def zM (l:List JV):JV:=.mk 4 0 ⟨#[]⟩ [] l
def qf (l:List ByteArray):JV:=zM (l.map txtJ)
def qv (v:JV) (y:ByteArray) (most:Nat) (st:PS):List ByteArray × PS :=
 if st.err≠0 then ([],st) else match v.look y with
 | none=>([],⟨st.asked,6⟩)
 | some it=>if it.kind≠4 then ([],⟨st.asked,10⟩) else if most<it.items.length then ([],⟨st.asked,5⟩) else if it.items.all (fun x=>decide (x.kind=3)) then (it.items.map JV.t,⟨y :: st.asked,0⟩) else ([],⟨st.asked,10⟩)
def jA (v:JV) (st:PS):PS:=(if (qv v qy 16 st).1=[] then (qv v qy 16 st).2.fail 4 else (qv v qy 16 st).2).fail (z8 [] (qv v qy 16 st).1)
def kT (v:JV) (st:PS):Int × PS:=qP v thrN 1 ((qv v qy 16 st).1.length:Int) (jA v st)
def jT (v:JV) (st:PS):AuthV × PS:=(if (kT v st).2.err≠0 then authZ else ⟨(kT v st).1,(qv v qy 16 st).1⟩,(kT v st).2)
theorem bq {l:List JV} (h:∀x ∈ l,x.partB=true):(zM l).partB=true:=by
 rw [JV.partB_eq]
 show (qJ 4 0 ⟨#[]⟩ [] l.length && JV.partsB l)=true
 rw [yc l h]
 unfold qJ
 rw [if_neg (by decide),if_neg (by decide),if_neg (by decide),if_pos rfl]
 have h2:(⟨#[]⟩:ByteArray).toList=[]:=by rw [ByteArray.toList_eq]
 simp [h2]
theorem z6 {a:AuthV} (h:xZ a=true):(1≤a.ids.length∧a.ids.length≤16)∧(1≤a.thr∧a.thr≤a.ids.length)∧z8 [] a.ids=0:=by
 unfold xZ jQ at h
 simp only [Bool.and_eq_true,decide_eq_true_eq] at h
 exact ⟨⟨h.1.1,h.1.2.1⟩,h.1.2.2,h.2⟩
theorem xS:∀(l seen:List ByteArray),z8 seen l=0→∀x ∈ l,yS x=true
 | [],_,_,x,hx=>by simp at hx
 | y :: r,seen,h,x,hx=>by
  unfold z8 at h
  split at h
  · rename_i h1
    split at h
    · cases h
    · rcases List.mem_cons.1 hx with e|e
      · rw [e];exact h1
      · exact xS r _ h x e
  · cases h
theorem kn {x:ByteArray} (h:yS x=true):qQ x=true∧x.size=64:=by
 unfold yS at h
 simp only [Bool.and_eq_true,decide_eq_true_eq] at h
 refine ⟨zl ?_ (by omega),h.1⟩
 intro c hc
 have h2:=List.all_eq_true.1 (by unfold xd at h;exact h.2) c hc
 unfold xn at h2
 unfold xG
 simp at h2 ⊢
 omega
theorem kH {v:JV} {y:ByteArray} {l:List ByteArray} {most:Nat} {a:List ByteArray} (h:v.look y=some (qf l)) (hl:l.length≤most):qv v y most ⟨a,0⟩=(l,⟨y :: a,0⟩):=by
 unfold qv
 rw [if_neg (by simp),h]
 show (if (qf l).kind≠4 then _ else _:List ByteArray × PS)=_
 have hi:(qf l).items=l.map txtJ:=rfl
 rw [if_neg (by simp [qf,zM,JV.kind]),hi,if_neg (by rw [List.length_map];omega),if_pos (by simp [txtJ,JV.kind])]
 have hm:(l.map txtJ).map JV.t=l:=by rw [List.map_map];exact (List.map_congr_left fun x _=>rfl).trans (List.map_id l)
 rw [hm]
def ub:ByteArray:=⟨#[114,111,111,116]⟩
structure Auth3 where
 a:AuthV
 b:AuthV
 c:AuthV
deriving DecidableEq
structure RootV where
 ver:Int
 exp:Int
 keys:List Key2
 au:Auth3
deriving DecidableEq
def qH:ByteArray:=⟨#[107,101,121,115]⟩
def xH:ByteArray:=⟨#[114,111,108,101,115]⟩
def zp (l:List Key2):Bool:=decide (l.length≤32) && l.all ok2 && qe (ids l)
theorem mT:qe [dP,dF,qH,xH,dB]=true∧(qQ dP=true∧qQ dF=true∧qQ qH=true∧qQ xH=true∧qQ dB=true)∧(dP≠dF∧dP≠qH∧dP≠xH∧dP≠dB∧dF≠qH∧dF≠xH∧dF≠dB∧qH≠xH∧qH≠dB∧xH≠dB):=by
 refine ⟨by kernel_rfl,⟨?_,?_,?_,?_,?_⟩,by decide⟩
 all_goals
  refine zl ?_ (by decide)
  intro c hc
  unfold xG
  revert c
  decide
theorem zx {l:List Key2}:zp l=true↔l.length≤32∧(∀k ∈ l,ok2 k=true)∧qe (ids l)=true:=by
 unfold zp
 simp only [Bool.and_eq_true,decide_eq_true_eq,List.all_eq_true]
 exact ⟨fun h=>⟨h.1.1,h.1.2,h.2⟩,fun h=>⟨⟨h.1,h.2.1⟩,h.2.2⟩⟩
theorem sN {l:List Key2} (h:zp l=true):(zW l).partB=true∧(zW l).count≤130∧(zW l).depth≤3:=by
 obtain ⟨h1,h2,h3⟩:=zx.1 h
 refine ⟨uw (uy h2 h3 h1),?_,?_⟩
 · rw [JV.count_eq]
   have:=counts_le 3 (l.map obj2) fun x hx=>by obtain ⟨k,_,rfl⟩:=List.mem_map.1 hx;exact Nat.le_refl 3
   rw [List.length_map] at this
   show 1+JV.counts (l.map obj2)≤_
   omega
 · rw [JV.depth_eq]
   have:=jX 1 (l.map obj2) fun x hx=>by obtain ⟨k,_,rfl⟩:=List.mem_map.1 hx;exact Nat.le_refl 1
   rw [if_neg (by simp [zW,JV.kind])]
   show JV.depths (l.map obj2)+1≤_
   omega
theorem sS {N:List NJ} (hr:qe (N.map (·.1))=true) (hl:N.length≤6) (hp:∀p ∈ N,qQ p.1=true∧p.2.partB=true∧p.2.count≤130∧p.2.depth≤3):(jM N).mayB=true:=by
 have h1:=vt ⟨hr,fun p h=>⟨(hp p h).1,(hp p h).2.1⟩⟩
 have h2:=gN 130 fun p h=>(hp p h).2.2.1
 have h3:=kF 3 fun p h=>(hp p h).2.2.2
 have h4:N.length * 130≤6 * 130:=Nat.mul_le_mul_right _ hl
 rw [JV.mayB_iff,h1,decide_eq_true (by omega),decide_eq_true (by omega)];rfl
theorem wk {v it:JV} {y:ByteArray} {most:Nat} {a:List ByteArray} (h:v.look y=some it) (hk:it.kind=5) (hl:it.items.length≤most):qd v y most ⟨a,0⟩=(it,⟨y :: a,0⟩):=by
 unfold qd
 rw [if_neg (by simp),h]
 show (if it.kind≠5 then _ else if most<it.items.length then _ else _:JV × PS)=_
 rw [if_neg (by simp [hk]),if_neg (by omega)]
end Go.Proofs.YthgembbgcbaghaaGreatDoor
