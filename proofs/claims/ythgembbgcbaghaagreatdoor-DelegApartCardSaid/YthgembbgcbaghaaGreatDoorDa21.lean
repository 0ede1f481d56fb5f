/- Plain: what root.Of tells of a root's object with a member less, with another member, with a member more; the same of the object of its roles. No program in sight. -/
import Derived.Test.YthgembbgcbaghaaGreatDoorDa20
import Derived.Test.YthgembbgcbaghaaGreatDoorDa17

namespace Go.Proofs.YthgembbgcbaghaaGreatDoor
open Go.RowKit Go.WideMaps Go.Maps
theorem mP (l:List JV) (j:Nat) (h:j<l.length) (hp:JV.partsB l=true):l[j].partB=true:=by
 cases hb:l[j].partB
 · rw [JV.partsB_bad l j h hb] at hp;cases hp
 · rfl
end Go.Proofs.YthgembbgcbaghaaGreatDoor

namespace Go.Proofs.YthgembbgcbaghaaGreatDoor
open Go.RowKit
theorem dY {t:ByteArray} (h:t.toList=[]):t=⟨#[]⟩:=by
 rw [ByteArray.toList_eq] at h
 exact pr (by simpa using h)
theorem g6 {x:JV} (h:x.partB=true) (hk:x.kind=5):(x.n=0∧x.t=⟨#[]⟩)∧x.names.length=x.items.length∧qe x.names=true∧∀y ∈ x.items,y.partB=true:=by
 rw [JV.partB_eq,Bool.and_eq_true] at h
 obtain ⟨h1,h2⟩:=h
 rw [hk] at h1
 unfold qK at h1
 rw [if_neg (by decide),if_neg (by decide),if_neg (by decide),if_neg (by decide),if_pos rfl,Bool.and_eq_true,Bool.and_eq_true,decide_eq_true_eq] at h1
 obtain ⟨⟨⟨a,b,c⟩,d⟩,-⟩:=h1
 refine ⟨⟨a,dY b⟩,c,d,fun y hy=>?_⟩
 obtain ⟨i,hi,rfl⟩:=List.getElem_of_mem hy
 exact mP _ i hi h2
theorem ky:∀ {ns:List ByteArray} {xs:List JV} {y:ByteArray} {x:JV},qC ns xs y=some x→y ∈ ns∧x ∈ xs
 | n :: ns,z :: xs,y,x,h=>by
  rw [qC] at h
  split at h
  · rename_i e
    injection h with h
    subst h;subst e
    exact ⟨List.mem_cons_self ..,List.mem_cons_self ..⟩
  · have:=ky h
    exact ⟨List.mem_cons_of_mem _ this.1,List.mem_cons_of_mem _ this.2⟩
def cH (v:JV):Prop:=v.kind=5∧(v.n=0∧v.t=⟨#[]⟩)∧qe v.names=true∧v.names.length=v.items.length∧∀x ∈ v.items,x.partB=true∨x=zx
theorem rQ {v:JV} (h:v.mayB=true) (hk:v.kind=5):cH v:=by
 rw [JV.mayB_iff] at h
 simp only [Bool.and_eq_true] at h
 obtain ⟨a,b,c,d⟩:=g6 h.1.1 hk
 exact ⟨hk,a,c,b,fun x hx=>.inl (d x hx)⟩
theorem tu {v:JV} (h:cH v) {y:ByteArray} {it:JV} (e:v.look y=some it) (hk:it.kind≠0):it.partB=true:=by
 rcases h.2.2.2.2 it (ky e).2 with h|h
 · exact h
 · exact absurd (by rw [h];rfl) hk
def q6 (n:Nat):UInt8:=if n<10 then UInt8.ofNat (48+n) else UInt8.ofNat (87+n)
def xf:List UInt8→List UInt8
 | []=>[]
 | c :: r=>q6 (c.toNat / 16) :: q6 (c.toNat % 16) :: xf r
theorem bI (l m:List UInt8):xf (l ++ m)=xf l ++ xf m:=by
 induction l with
 | nil=>rfl
 | cons c r ih=>simp [xf,ih]
theorem bO (l:List UInt8):(xf l).length=2 * l.length:=by
 induction l with
 | nil=>rfl
 | cons c r ih=>simp [xf,ih];omega
def kW (l:List UInt8):List UInt8:=xf (za l)
theorem vH (l:List UInt8):(kW l).length=64:=by unfold kW;rw [bO,xM]
theorem g7 (n:Nat) (h:n<16):xK (q6 n)=true:=by
 have:∀m:Fin 16,xK (q6 m.val)=true:=by decide
 exact this ⟨n,h⟩
theorem g8:∀l:List UInt8,xY (xf l)=true
 | []=>rfl
 | c :: r=>by
  have h:=g8 r
  have hc:c.toNat<256:=c.toNat_lt
  unfold xY at h ⊢
  simp only [xf,List.all_cons,Bool.and_eq_true]
  exact ⟨g7 _ (by omega),g7 _ (by omega),h⟩
theorem mF (l:List UInt8):xY (kW l)=true:=g8 _
def xu:ByteArray:=⟨#[112,117,98,108,105,99]⟩
def schN:ByteArray:=⟨#[115,99,104,101,109,101]⟩
def jx (s t:ByteArray):JV:=.mk 5 0 ⟨#[]⟩ [xu,schN] [txtJ t,txtJ s]
theorem pX {s t:List UInt8} (h:ze s t=true):zb s=true∧yY t=true:=by
 unfold ze at h;simpa using h
theorem gf {s t:ByteArray} (h:ze s.data.toList t.data.toList=true):qZ s=true∧qZ t=true∧s.size≤64∧t.size≤128:=by
 obtain ⟨h1,h2⟩:=pX h
 have h3:=wq h1
 have h4:=pl h2
 rw [qm] at h3 h4
 exact ⟨zh h3.1 (by omega),zh h4.1 (by omega),h3.2.2,h4.2.2⟩
theorem uk:qZ xu=true∧qZ schN=true∧qe [xu,schN]=true:=by
 refine ⟨zh ?_ (by decide),zh ?_ (by decide),?_⟩
 · intro c hc;unfold xo;revert c;decide
 · intro c hc;unfold xo;revert c;decide
 · unfold qe qe;rw [ByteArray.toList_eq,ByteArray.toList_eq];decide
theorem uv (t:ByteArray) (h:qZ t=true) (d:Nat) (l:Int) (hl:1≤l):(txtJ t).may d l=(true,l - 1):=by
 unfold txtJ
 rw [JV.may,if_neg (by omega)]
 have:qK 3 0 t [] 0=true:=by unfold qK;simp [h]
 rw [show ([]:List JV).length=0 from rfl,this]
 simp
theorem g9 {s t:ByteArray} (h:ze s.data.toList t.data.toList=true):(jx s t).mayB=true:=by
 obtain ⟨h1,h2,_,_⟩:=gf h
 obtain ⟨n1,n2,n3⟩:=uk
 unfold JV.mayB jx
 have hp:qK 5 0 ⟨#[]⟩ [xu,schN] 2=true:=by
  unfold qK
  rw [ByteArray.toList_eq]
  simp [n1,n2,n3]
 have hm:JV.mays [txtJ t,txtJ s] (12 - 1) (8192 - 1)=(true,8192 - 1 - 1 - 1):=by
  rw [JV.mays,uv t h2 _ _ (by omega),if_pos rfl,JV.mays,uv s h1 _ _ (by omega),if_pos rfl,JV.mays]
 rw [JV.may,if_neg (by omega),show ([txtJ t,txtJ s]:List JV).length=2 from rfl,hp,if_neg (by decide),if_neg (by decide),if_neg (by decide),hm]
theorem sm {s t:ByteArray} (hs:s.size≤4294967) (ht:t.size≤4294967):(jx s t).wt≤4294967296:=by
 unfold jx txtJ
 have e1:xu.size=6:=rfl
 have e2:schN.size=6:=rfl
 have e3:(⟨#[]⟩:ByteArray).size=0:=rfl
 simp only [JV.wt,JV.wts,qd]
 omega
def rZ:List UInt8:=[123,34,112,117,98,108,105,99,34,58,34]
def rX:List UInt8:=[34,44,34,115,99,104,101,109,101,34,58,34]
def jD (s t:List UInt8):List UInt8:=rZ ++ (t ++ (rX ++ (s ++ [34,125])))
theorem uw (s t:List UInt8):(jD s t).length=s.length+t.length+25:=by simp [jD,rZ,rX];omega
def jX (s t:List UInt8):List UInt8:=if ze s t then kW (jD s t) else []
def zv (v:JV):(ByteArray × ByteArray) × Int :=
 if v.mayB=false then ((⟨#[]⟩,⟨#[]⟩),3) else if v.kind≠5 then ((⟨#[]⟩,⟨#[]⟩),10) else
  if qh v (qf v schN (qf v xu ⟨[],0⟩).2).2≠0 then ((⟨#[]⟩,⟨#[]⟩),qh v (qf v schN (qf v xu ⟨[],0⟩).2).2) else
  if ze (qf v schN (qf v xu ⟨[],0⟩).2).1.data.toList (qf v xu ⟨[],0⟩).1.data.toList then (((qf v schN (qf v xu ⟨[],0⟩).2).1,(qf v xu ⟨[],0⟩).1),0) else ((⟨#[]⟩,⟨#[]⟩),3)
theorem aG:xu≠schN:=by decide
theorem rJ (s t:ByteArray):(jx s t).look xu=some (txtJ t):=by
 unfold JV.look jx JV.names JV.items;simp [qC]
theorem rK (s t:ByteArray):(jx s t).look schN=some (txtJ s):=by
 unfold JV.look jx JV.names JV.items;simp [qC,aG]
theorem mH {s t:ByteArray} (h:ze s.data.toList t.data.toList=true):zv (jx s t)=((s,t),0):=by
 have h1:qf (jx s t) xu ⟨[],0⟩=(t,⟨[xu],0⟩):=by unfold qf;rw [if_neg (by simp),rJ];rfl
 have h2:qf (jx s t) schN ⟨[xu],0⟩=(s,⟨[schN,xu],0⟩):=by unfold qf;rw [if_neg (by simp),rK];rfl
 have h3:qh (jx s t) ⟨[schN,xu],0⟩=0:=by
  unfold qh;rw [if_neg (by simp)]
  have:(jx s t).names=[xu,schN]:=rfl
  rw [this];simp
 unfold zv
 rw [if_neg (by rw [g9 h];simp),if_neg (by show ¬(5:Int)≠5;simp),h1]
 simp only
 rw [h2]
 simp only
 rw [h3,if_neg (by simp),if_pos h]
def dG (s t:ByteArray):ByteArray:=⟨(jX s.data.toList t.data.toList).toArray⟩
def ok2 (k:Key2):Bool:=ze k.1.data.toList k.2.data.toList
def id2 (k:Key2):ByteArray:=dG k.1 k.2
def ids (l:List Key2):List ByteArray:=l.map id2
def obj2 (k:Key2):JV:=jx k.1 k.2
def qT (m:List Key2):JV:=.mk 5 0 ⟨#[]⟩ (m.map id2) (m.map obj2)
theorem uy {l:List ByteArray} (h:qe l=true):l.Nodup:=by
 rw [List.Nodup,List.pairwise_iff_getElem]
 intro i j hi hj hij e
 have:=xN h i j hi hj hij
 rw [e,zc] at this;cases this
theorem ug {k:Key2}:(id2 k).size≤64:=by
 show (jX _ _).toArray.size≤64
 unfold jX
 split
 · rw [List.size_toArray,vH];exact Nat.le_refl _
 · simp
theorem sd {k:Key2} (h:k.1.size≤300∧k.2.size≤300):(obj2 k).wt≤1000:=by
 unfold obj2 jx txtJ
 have e1:xu.size=6:=rfl
 have e2:schN.size=6:=rfl
 have e3:(⟨#[]⟩:ByteArray).size=0:=rfl
 simp only [JV.wt,JV.wts,qd]
 omega
theorem wW {m:List Key2} (hs:∀k ∈ m,k.1.size≤300∧k.2.size≤300):(qT m).wt≤1+1100 * m.length:=by
 have h1:∀m:List Key2,qd (m.map id2)≤65 * m.length:=fun m=>by
  induction m with
  | nil=>simp [qd]
  | cons k r ih=>have:=@ug k;simp only [List.map_cons,qd,List.length_cons];omega
 have h2:∀m:List Key2,(∀k ∈ m,k.1.size≤300∧k.2.size≤300)→JV.wts (m.map obj2)≤1000 * m.length:=fun m=>by
  induction m with
  | nil=>intro _;simp [JV.wts]
  | cons k r ih=>intro hs;have:=sd (hs k (by simp));have:=ih (fun k hk=>hs k (List.mem_cons_of_mem _ hk));simp only [List.map_cons,JV.wts,List.length_cons];omega
 have e3:(⟨#[]⟩:ByteArray).size=0:=rfl
 have:=h1 m
 have:=h2 m hs
 unfold qT
 simp only [JV.wt]
 omega
theorem dB {v:JV} (h:(zv v).2=0):ze (zv v).1.1.data.toList (zv v).1.2.data.toList=true∧(zv v).1.1.size≤64∧(zv v).1.2.size≤128:=by
 have h2:ze (zv v).1.1.data.toList (zv v).1.2.data.toList=true:=by
  unfold zv at h ⊢
  split at h
  · cases h
  next c1 =>
  rw [if_neg c1]
  split at h
  · cases h
  next c2 =>
  rw [if_neg c2]
  split at h
  · next c3=>exact absurd h c3
  next c3 =>
  rw [if_neg c3]
  split at h
  · next c4=>rw [if_pos c4];exact c4
  · cases h
 obtain ⟨_,_,a,b⟩:=gf h2
 exact ⟨h2,a,b⟩
def jv:List ByteArray→List JV→List Key2→List Key2 × Int
 | id :: ns,it :: its,acc=>if (zv it).2≠0 then ([],(zv it).2) else if (dG (zv it).1.1 (zv it).1.2).toList == id.toList then jv ns its (acc ++ [(zv it).1]) else ([],3)
 | _,_,acc=>(acc,0)
def pJ (r:Key2 × Int) (id:ByteArray) (ns:List ByteArray) (its:List JV) (acc:List Key2):List Key2 × Int :=
 if r.2≠0 then ([],r.2) else if (dG r.1.1 r.1.2).toList == id.toList then jv ns its (acc ++ [r.1]) else ([],3)
theorem dP (its:List JV) (acc:List Key2):jv [] its acc=(acc,0):=by
 unfold jv;rfl
theorem mU (ns:List ByteArray) (its:List JV) (k:Nat) (acc:List Key2) (h:k<ns.length) (h':k<its.length):jv (ns.drop k) (its.drop k) acc=pJ (zv its[k]) ns[k] (ns.drop (k+1)) (its.drop (k+1)) acc:=by
 rw [List.drop_eq_getElem_cons h,List.drop_eq_getElem_cons h',jv,pJ]
def xm (v:JV):List Key2 × Int:=if v.mayB=false then ([],3) else if v.kind≠5 then ([],10) else if 32<v.names.length then ([],5) else jv v.names v.items []
theorem bq:∀ {l:List JV},JV.partsB l=true→∀x ∈ l,JV.partB x=true
 | [],_,x,hx=>by simp at hx
 | y :: r,h,x,hx=>by
  rw [JV.partsB,Bool.and_eq_true] at h
  rcases List.mem_cons.1 hx with rfl|hx
  · exact h.1
  · exact bq h.2 x hx
theorem ub {v:JV} (h:v.mayB=true):v.partB=true:=by
 rw [JV.mayB_iff] at h
 simp only [Bool.and_eq_true] at h
 exact h.1.1
theorem aB {k:Key2} (h:ok2 k=true):qZ (id2 k)=true:=by
 have e:(id2 k).data.toList=kW (jD k.1.data.toList k.2.data.toList):=by
  show (jX _ _)=_
  unfold jX
  rw [if_pos (show ze k.1.data.toList k.2.data.toList=true from h)]
 refine zh ?_ (Nat.le_trans ug (by decide))
 rw [e]
 have:=mF (jD k.1.data.toList k.2.data.toList)
 unfold xY at this
 exact fun c hc=>yb (List.all_eq_true.1 this c hc)
theorem up {m:List Key2} (hok:∀k ∈ m,ok2 k=true) (hr:qe (ids m)=true) (hl:m.length≤32):(qT m).mayB=true:=by
 rw [JV.mayB_iff]
 have hp:∀m:List Key2,(∀k ∈ m,ok2 k=true)→JV.partsB (m.map obj2)=true:=fun m=>by
  induction m with
  | nil=>intro _;rfl
  | cons k r ih =>
   intro h
   rw [List.map_cons,JV.partsB,Bool.and_eq_true]
   exact ⟨ub (g9 (h k (by simp))),ih fun x hx=>h x (List.mem_cons_of_mem _ hx)⟩
 have hc:∀m:List Key2,JV.counts (m.map obj2)=3 * m.length:=fun m=>by
  induction m with
  | nil=>rfl
  | cons k r ih =>
   have:JV.count (obj2 k)=3:=rfl
   rw [List.map_cons,JV.counts,ih,this,List.length_cons];omega
 have hd:∀m:List Key2,JV.depths (m.map obj2)≤1:=fun m=>by
  induction m with
  | nil=>exact Nat.zero_le _
  | cons k r ih =>
   have:JV.depth (obj2 k)=1:=rfl
   rw [List.map_cons,JV.depths,this];omega
 have h1:(qT m).partB=true:=by
  unfold qT
  rw [JV.partB,hp m hok]
  have:qK 5 0 ⟨#[]⟩ (m.map id2) (m.map obj2).length=(decide ((0:Int)=0∧(⟨#[]⟩:ByteArray).toList=[]∧(m.map id2).length=(m.map obj2).length) && qe (m.map id2) && (m.map id2).all qZ):=rfl
  rw [this,show qe (m.map id2)=true from hr,ByteArray.toList_eq]
  have h2:(m.map id2).all qZ=true:=by
   rw [List.all_eq_true]
   intro x hx
   obtain ⟨k,hk,rfl⟩:=List.mem_map.1 hx
   exact aB (hok k hk)
  rw [h2]
  simp
 have h2:(qT m).count≤8192:=by unfold qT;rw [JV.count,hc];omega
 have h3:(qT m).depth≤12:=by
  unfold qT;rw [JV.depth,if_neg (by simp)];have:=hd m;omega
 rw [h1]
 simp [h2,h3]
theorem pK:∀(m:List Key2) (acc:List Key2),(∀k ∈ m,ok2 k=true)→jv (m.map id2) (m.map obj2) acc=(acc ++ m,0)
 | [],acc,_=>by simp [jv]
 | k :: r,acc,h=>by
  have e:=mH (s:=k.1) (t:=k.2) (h k (by simp))
  rw [List.map_cons,List.map_cons,jv,show obj2 k=jx k.1 k.2 from rfl,e]
  simp only
  rw [if_neg (by simp),if_pos (by simp [id2]),pK r _ fun x hx=>h x (List.mem_cons_of_mem _ hx)]
  simp
theorem pV {m:List Key2} (hok:∀k ∈ m,ok2 k=true) (hr:qe (ids m)=true) (hl:m.length≤32):xm (qT m)=(m,0):=by
 unfold xm
 rw [if_neg (by rw [up hok hr hl];simp),if_neg (by show ¬(5:Int)≠5;simp),if_neg (by show ¬32<(m.map id2).length;simp;omega)]
 show jv (m.map id2) (m.map obj2) []=_
 rw [pK m [] hok,List.nil_append]
theorem wY {k:Key2} (h:ok2 k=true):k.1.size≤300∧k.2.size≤300:=by
 obtain ⟨_,_,a,b⟩:=gf h
 omega
end Go.Proofs.YthgembbgcbaghaaGreatDoor

namespace Go.Proofs.YthgembbgcbaghaaGreatDoor
open Go.RowKit Go.Shelf Go.Sort
theorem aP (t s:ByteArray) (w:World) (T:Nat) (ht:t.size≤4294967000) (hs:s.size≤4294967000) :
 Calls Tryz.prog 150 #[.slice (some ⟨w.heap.size,0,none⟩) 2 2] (w.alloc (.cells #[.string ⟨#[112,117,98,108,105,99]⟩,.int .u8 3,.int .i64 0,.string t,.slice none 0 0,.slice none 0 0,.string ⟨#[115,99,104,101,109,101]⟩,.int .u8 3,.int .i64 0,.string s,.slice none 0 0,.slice none 0 0] T))
  (wK [xu,schN] [txtJ t,txtJ s] (w.alloc (.cells #[.string ⟨#[112,117,98,108,105,99]⟩,.int .u8 3,.int .i64 0,.string t,.slice none 0 0,.slice none 0 0,.string ⟨#[115,99,104,101,109,101]⟩,.int .u8 3,.int .i64 0,.string s,.slice none 0 0,.slice none 0 0] T))):=by
 have:=fw #[jQ xu t,jQ schN s] #[jQ xu t,jQ schN s] [txtJ t,txtJ s] w.heap.size 0 2 (w.alloc (.cells #[.string ⟨#[112,117,98,108,105,99]⟩,.int .u8 3,.int .i64 0,.string t,.slice none 0 0,.slice none 0 0,.string ⟨#[115,99,104,101,109,101]⟩,.int .u8 3,.int .i64 0,.string s,.slice none 0 0,.slice none 0 0] T)) 0 0 ?_ (by simp) (by simp) ?_ rfl ?_ ?_ (by simp)
 · exact this
 · exact mB (T:=T) (by rw [heap_alloc_new,rp];rfl)
 · refine mK _ _ _ fun j hj=>?_
   obtain rfl:j=0:=by simp at hj;omega
   show ltOf cfM (jQ schN s) (jQ xu t)=false
   show decide (Lib.compareBytes schN.data.toList xu.data.toList<0)=false
   decide
 · intro i hi
   match i,hi with
   | 0,_=>exact ⟨wV _ _ _ _,by simp [txtJ,JV.wt,JV.wts,qd];omega,fun k h=>by simp [txtJ,JV.items] at h⟩
   | 1,_=>exact ⟨wV _ _ _ _,by simp [txtJ,JV.wt,JV.wts,qd];omega,fun k h=>by simp [txtJ,JV.items] at h⟩
 · intro i hi
   obtain rfl:i=0:=by simp at hi;omega
   show xu≠schN
   decide
def mM (s t:ByteArray) (w:World) (e:Ending) (w':World):Prop :=
 ∃an cn ai ci,e=.returned (.tuple #[.agg #[.int .u8 5,.int .i64 0,.string ⟨#[]⟩,.slice an 2 cn,.slice ai 2 ci],.int .i64 0]) ∧
  Rep w' w.heap.size w'.heap.size (jx s t) (.agg #[.int .u8 5,.int .i64 0,.string ⟨#[]⟩,.slice an 2 cn,.slice ai 2 ci])∧Below w.heap.size w w'
set_option maxHeartbeats 400000 in
set_option maxRecDepth 100000 in
theorem uf (s t:ByteArray) (w:World) (hs:s.size≤4294967000) (ht:t.size≤4294967000) (hk:ze s.data.toList t.data.toList=false) :
 Calls Tryz.prog 152 #[.agg #[.string s,.string t]] w fun e w'=>e=.returned (.tuple #[zeroAgg,.int .i64 3])∧Below w.heap.size w w':=by
 have HM:=Lh (mX s t ((w.alloc (.cells #[.string s,.string t] 43)).alloc (.cells #[.int .u8 0,.int .i64 0,.string ⟨#[]⟩,.slice none 0 0,.slice none 0 0] 25)) (by omega) (by omega))
 rw [hk] at HM
 have hr0:=qp (w.alloc (.cells #[.string s,.string t] 43)) (.int .u8 0) (.int .i64 0) (.string ⟨#[]⟩) (.slice none 0 0) (.slice none 0 0) 25
 rw [show (w.alloc (.cells #[.string s,.string t] 43)).heap.size=w.heap.size+1 by simp] at hr0
 have HR0:=Lh hr0
 have HB0:=Lh (show Below w.heap.size w ((w.alloc (.cells #[.string s,.string t] 43)).alloc (.cells #[.int .u8 0,.int .i64 0,.string ⟨#[]⟩,.slice none 0 0,.slice none 0 0] 25)) from ((Below.refl _ _).alloc lz _).alloc (by simp) _)
 clear hk hr0
 go_enter Tryz.func152,Tryz.ntmps152
 go_wp2_with fail
 refine HM.out.mono ?_
 rintro e w1 ⟨rfl,hb1⟩
 have hres:=qj hb1 HR0.out (by simp)
 have HRS:=Lh hres
 have HB1:=Lh (HB0.out.trans (hb1.mono (by simp;omega)))
 obtain ⟨t0,t1,t2,t3,t4⟩:=rc5 hres
 obtain ⟨s0,s1,s2,s3,s4⟩:=rf5 hres
 simp only [qQ] at t0 t1 t2 t3 t4
 clear hres hb1
 go_wp2
 exact bodyPost_ret (qk Tryz.results152 _ _ (w.heap.size+1) 25 _ (0,0) _ rfl (qi (set5 _ _ _ _ _ HRS.out)) Tryz.underlying25 rfl (by kernel_rfl) _ rfl) rfl ⟨rfl,q7 _ _ _ _ _ HB1.out (by omega)⟩
set_option maxHeartbeats 1000000 in
set_option maxRecDepth 100000 in
theorem wG (s t:ByteArray) (w:World) (hs:s.size≤4294967000) (ht:t.size≤4294967000) (hk:ze s.data.toList t.data.toList=true) :
 Calls Tryz.prog 152 #[.agg #[.string s,.string t]] w (mM s t w):=by
 have HM:=Lh (mX s t ((w.alloc (.cells #[.string s,.string t] 43)).alloc (.cells #[.int .u8 0,.int .i64 0,.string ⟨#[]⟩,.slice none 0 0,.slice none 0 0] 25)) (by omega) (by omega))
 rw [hk] at HM
 have hr0:=qp (w.alloc (.cells #[.string s,.string t] 43)) (.int .u8 0) (.int .i64 0) (.string ⟨#[]⟩) (.slice none 0 0) (.slice none 0 0) 25
 rw [show (w.alloc (.cells #[.string s,.string t] 43)).heap.size=w.heap.size+1 by simp] at hr0
 have HR0:=Lh hr0
 have HB0:=Lh (show Below w.heap.size w ((w.alloc (.cells #[.string s,.string t] 43)).alloc (.cells #[.int .u8 0,.int .i64 0,.string ⟨#[]⟩,.slice none 0 0,.slice none 0 0] 25)) from ((Below.refl _ _).alloc lz _).alloc (by simp) _)
 have HX0:=Lh (show ((w.alloc (.cells #[.string s,.string t] 43)).alloc (.cells #[.int .u8 0,.int .i64 0,.string ⟨#[]⟩,.slice none 0 0,.slice none 0 0] 25)).heap[w.heap.size]?=some (.cells #[.string s,.string t] 43 (0,0)) by rw [Below.heap_alloc _ _ _ (by simp)];exact heap_alloc_new w _)
 clear hk hr0
 go_enter Tryz.func152,Tryz.ntmps152
 go_wp2_with fail
 refine HM.out.mono ?_
 clear HM
 rintro e w1 ⟨rfl,hb1⟩
 have HRS:=Lh (qj hb1 HR0.out (by simp))
 have hz1:w.heap.size+2≤w1.heap.size:=by have:=hb1.size;simp at this;omega
 have hx1:w1.heap[w.heap.size]?=some (.cells #[.string s,.string t] 43 (0,0)):=by rw [hb1.block _ (by simp;omega)];exact HX0.out
 have HX1:=Lh hx1
 have HB1:=Lh (HB0.out.trans (hb1.mono (by simp;omega)))
 clear hb1 hx1 HX0 HB0 HR0
 have HC:=Lh (show ∀w':World,Below w1.heap.size w1 w'→w'.cell? ⟨w.heap.size,0,none⟩=some (.string s)∧w'.cell? ⟨w.heap.size,1,none⟩=some (.string t)∧w.heap.size<w'.heap.size from fun w' h=>by
  have:=h.size
  exact ⟨by rw [h.cell (by show w.heap.size<_;omega)];simp [World.cell?,HX1.out],by rw [h.cell (by show w.heap.size<_;omega)];simp [World.cell?,HX1.out],by omega⟩)
 have HT:=Lh (show ∀(u:ByteArray) (w':World),Below w1.heap.size w1 w'→Calls Tryz.prog 201 #[.string u] w' (fun e w''=>e=.returned (.agg #[.int .u8 3,.int .i64 0,.string u,.slice none 0 0,.slice none 0 0])∧Below w1.heap.size w1 w''∧w''.cell? ⟨w.heap.size,0,none⟩=some (.string s)∧w''.cell? ⟨w.heap.size,1,none⟩=some (.string t)∧w.heap.size<w''.heap.size) from fun u w' h=>by
  refine (kK u w').mono ?_
  rintro e w'' ⟨rfl,rfl⟩
  have hb:Below w1.heap.size w1 (w'.alloc (.cells #[.int .u8 3,.int .i64 0,.string u,.slice none 0 0,.slice none 0 0] 25)):=h.alloc h.size _
  exact ⟨rfl,hb,HC.out _ hb⟩)
 have HO:=Lh (show ∀(w':World),Below w1.heap.size w1 w'→Calls Tryz.prog 150 #[.slice (some ⟨w'.heap.size,0,none⟩) 2 2] (w'.alloc (.cells #[.string ⟨#[112,117,98,108,105,99]⟩,.int .u8 3,.int .i64 0,.string t,.slice none 0 0,.slice none 0 0,.string ⟨#[115,99,104,101,109,101]⟩,.int .u8 3,.int .i64 0,.string s,.slice none 0 0,.slice none 0 0] 169)) (fun e w''=>∃an cn ai ci,e=.returned (.tuple #[.agg #[.int .u8 5,.int .i64 0,.string ⟨#[]⟩,.slice an 2 cn,.slice ai 2 ci],.int .i64 0])∧Rep w'' w1.heap.size w''.heap.size (jx s t) (.agg #[.int .u8 5,.int .i64 0,.string ⟨#[]⟩,.slice an 2 cn,.slice ai 2 ci])∧Below w1.heap.size w1 w''∧w''.cell? ⟨w.heap.size,0,none⟩=some (.string s)∧w''.cell? ⟨w.heap.size,1,none⟩=some (.string t)∧w''.rowIs (w.heap.size+1) 25 5 (qQ (.int .u8 0) (.int .i64 0) (.string ⟨#[]⟩) (.slice none 0 0) (.slice none 0 0))) from fun w' h=>by
  refine (aP t s w' _ ht hs).mono ?_
  rintro e w'' ⟨an,cn,ai,ci,rfl,hr,hb⟩
  have hb2:Below w1.heap.size w1 w'':=(h.alloc h.size _).trans (hb.mono (by have:=h.size;simp;omega))
  have hc:=HC.out _ hb2
  exact ⟨an,cn,ai,ci,rfl,Rep.carry (by have:=h.size;simp;omega) lz (fun _ _ _=>rfl) _ _ hr,hb2,hc.1,hc.2.1,qj hb2 HRS.out (by omega)⟩)
 have hbz:Below w1.heap.size w1 w1.drew:=(Below.refl _ _).drew
 obtain ⟨q0,q1,hzq⟩:=HC.out w1 (Below.refl _ _)
 go_wp2_with fail
 go_region_held3 (fun w'=>w'.cell? ⟨w.heap.size,0,none⟩=some (.string s)∧w'.cell? ⟨w.heap.size,1,none⟩=some (.string t)) (first|(with_reducible exact ⟨q0,q1⟩)|(with_reducible exact ⟨(qt _ hzq).trans q0,(qt _ hzq).trans q1⟩)|(go_keep;done)) (first|(go_at_call 201;(with_reducible refine (HT.out _ _ hbz).mono ?_);rintro e w2 ⟨rfl,hbz,q0,q1,hzq⟩)|(go_at_call 150;(with_reducible refine (HO.out _ hbz).mono ?_);rintro e w5 ⟨an,cn,ai,ci,rfl,hr5,hb5,q0,q1,hres⟩;obtain ⟨t0,t1,t2,t3,t4⟩:=rc5 hres;obtain ⟨s0,s1,s2,s3,s4⟩:=rf5 hres;have HRS5:=Lh hres;have HR5:=Lh hr5;have HB5:=Lh hb5;clear hres hr5 hb5;simp only [qQ] at t0 t1 t2 t3 t4))
 go_wp2
 refine bodyPost_ret (qk Tryz.results152 _ _ (w.heap.size+1) 25 _ (0,0) _ rfl (qi (set5 _ _ _ _ _ HRS5.out)) Tryz.underlying25 rfl (by kernel_rfl) _ rfl) rfl ⟨an,cn,ai,ci,rfl,?_,q7 _ _ _ _ _ (HB1.out.trans (HB5.out.mono (by omega))) (by omega)⟩
 exact Rep.carry (by omega) (show w5.heap.size≤_ by simp [World.setCell]) (fun j hj _=>xr _ _ _ _ _ (by omega)) _ _ HR5.out
end Go.Proofs.YthgembbgcbaghaaGreatDoor

namespace Go.Proofs.YthgembbgcbaghaaGreatDoor
open Go.RowKit
theorem bz (l:List UInt8) (h:∀c ∈ l,xo c):wJ l=l:=by
 induction l with
 | nil=>rfl
 | cons c r ih =>
  have hc:=h c (by simp)
  have e:wJ (c :: r)=gD c ++ wJ r:=by simp [wJ]
  rw [e,ih fun d hd=>h d (by simp [hd])]
  unfold gD xo at *
  rw [if_neg (by omega)];rfl
theorem dF {s t:ByteArray} (h:ze s.data.toList t.data.toList=true):(jx s t).form false:=by
 obtain ⟨h1,h2,_,_⟩:=gf h
 obtain ⟨n1,n2,n3⟩:=uk
 have e:∀i (hi:i < [xu,schN].length),qZ [xu,schN][i]=true:=fun i hi=>by
  match i,hi with
  | 0,_=>exact n1
  | 1,_=>exact n2
 unfold jx JV.form
 refine ⟨.inr (.inr (.inr (.inr ⟨rfl,rfl,e⟩))),?_⟩
 unfold JV.forms JV.forms JV.forms
 unfold txtJ JV.form
 exact ⟨⟨.inr (.inr (.inl ⟨rfl,h2⟩)),by unfold JV.forms;trivial⟩,⟨.inr (.inr (.inl ⟨rfl,h1⟩)),by unfold JV.forms;trivial⟩,trivial⟩
theorem rV {s t:ByteArray} (h:ze s.data.toList t.data.toList=true):(jx s t).enc=jD s.data.toList t.data.toList:=by
 obtain ⟨h1,h2⟩:=pX h
 have e1:=bz _ (wq h1).1
 have e2:=bz _ (pl h2).1
 have e3:xb xu.data.toList=[34,112,117,98,108,105,99,34]:=by decide
 have e4:xb schN.data.toList=[34,115,99,104,101,109,101,34]:=by decide
 unfold jx txtJ
 simp [JV.enc,JV.encO,sep,e3,e4,jD,rZ,rX]
 simp [xb,e1,e2]
structure AuthV where
 thr:Int
 ids:List ByteArray
deriving DecidableEq
def authZ:AuthV:=⟨0,[]⟩
def xe (a:AuthV):Bool:=jo a.thr a.ids
def qy:ByteArray:=⟨#[107,101,121,105,100,115]⟩
def thrN:ByteArray:=⟨#[116,104,114,101,115,104,111,108,100]⟩
def zu (l:List JV):JV:=.mk 4 0 ⟨#[]⟩ [] l
def qu (l:List ByteArray):JV:=zu (l.map txtJ)
def qv (v:JV) (y:ByteArray) (most:Nat) (st:PS):List ByteArray × PS :=
 if st.err≠0 then ([],st) else match v.look y with
 | none=>([],⟨st.asked,6⟩)
 | some it=>if it.kind≠4 then ([],⟨st.asked,10⟩) else if most<it.items.length then ([],⟨st.asked,5⟩) else if it.items.all (fun x=>decide (x.kind=3)) then (it.items.map JV.t,⟨y :: st.asked,0⟩) else ([],⟨st.asked,10⟩)
def jL (v:JV) (st:PS):PS:=(if (qv v qy 16 st).1=[] then (qv v qy 16 st).2.fail 4 else (qv v qy 16 st).2).fail (zS [] (qv v qy 16 st).1)
def kN (v:JV) (st:PS):Int × PS:=qP v thrN 1 ((qv v qy 16 st).1.length:Int) (jL v st)
def jR (v:JV) (st:PS):AuthV × PS:=(if (kN v st).2.err≠0 then authZ else ⟨(kN v st).1,(qv v qy 16 st).1⟩,(kN v st).2)
theorem bj {l:List JV} (h:∀x ∈ l,x.partB=true):(zu l).partB=true:=by
 rw [JV.partB_eq]
 show (qK 4 0 ⟨#[]⟩ [] l.length && JV.partsB l)=true
 rw [yh l h]
 unfold qK
 rw [if_neg (by decide),if_neg (by decide),if_neg (by decide),if_pos rfl]
 have h2:(⟨#[]⟩:ByteArray).toList=[]:=by rw [ByteArray.toList_eq]
 simp [h2]
theorem xc {a:AuthV} (h:xe a=true):(1≤a.ids.length∧a.ids.length≤16)∧(1≤a.thr∧a.thr≤a.ids.length)∧zS [] a.ids=0:=by
 unfold xe jo at h
 simp only [Bool.and_eq_true,decide_eq_true_eq] at h
 exact ⟨⟨h.1.1,h.1.2.1⟩,h.1.2.2,h.2⟩
theorem jJ:∀(l seen:List ByteArray),zS seen l=0→∀x ∈ l,yN x=true
 | [],_,_,x,hx=>by simp at hx
 | y :: r,seen,h,x,hx=>by
  unfold zS at h
  split at h
  · rename_i h1
    split at h
    · cases h
    · rcases List.mem_cons.1 hx with e|e
      · rw [e];exact h1
      · exact jJ r _ h x e
  · cases h
theorem vr {x:ByteArray} (h:yN x=true):qZ x=true∧x.size=64:=by
 unfold yN at h
 simp only [Bool.and_eq_true,decide_eq_true_eq] at h
 refine ⟨zh ?_ (by omega),h.1⟩
 intro c hc
 have h2:=List.all_eq_true.1 (by unfold xY at h;exact h.2) c hc
 unfold xK at h2
 unfold xo
 simp at h2 ⊢
 omega
theorem kY {v:JV} {y:ByteArray} {l:List ByteArray} {most:Nat} {a:List ByteArray} (h:v.look y=some (qu l)) (hl:l.length≤most):qv v y most ⟨a,0⟩=(l,⟨y :: a,0⟩):=by
 unfold qv
 rw [if_neg (by simp),h]
 show (if (qu l).kind≠4 then _ else _:List ByteArray × PS)=_
 have hi:(qu l).items=l.map txtJ:=rfl
 rw [if_neg (by simp [qu,zu,JV.kind]),hi,if_neg (by rw [List.length_map];omega),if_pos (by simp [txtJ,JV.kind])]
 have hm:(l.map txtJ).map JV.t=l:=by rw [List.map_map];exact (List.map_congr_left fun x _=>rfl).trans (List.map_id l)
 rw [hm]
def uh:ByteArray:=⟨#[114,111,111,116]⟩
structure Auth3 where
 a:AuthV
 b:AuthV
 c:AuthV
deriving DecidableEq
structure RootV where
 ver:Int
 exp:Int
 keys:List Key2
 au:Auth3
deriving DecidableEq
def keysN:ByteArray:=⟨#[107,101,121,115]⟩
def z7:ByteArray:=⟨#[114,111,108,101,115]⟩
def zj (l:List Key2):Bool:=decide (l.length≤32) && l.all ok2 && qe (ids l)
theorem mC:qe [da,dt,keysN,z7,dr]=true∧(qZ da=true∧qZ dt=true∧qZ keysN=true∧qZ z7=true∧qZ dr=true)∧(da≠dt∧da≠keysN∧da≠z7∧da≠dr∧dt≠keysN∧dt≠z7∧dt≠dr∧keysN≠z7∧keysN≠dr∧z7≠dr):=by
 refine ⟨by kernel_rfl,⟨?_,?_,?_,?_,?_⟩,by decide⟩
 all_goals
  refine zh ?_ (by decide)
  intro c hc
  unfold xo
  revert c
  decide
theorem qA {l:List Key2}:zj l=true↔l.length≤32∧(∀k ∈ l,ok2 k=true)∧qe (ids l)=true:=by
 unfold zj
 simp only [Bool.and_eq_true,decide_eq_true_eq,List.all_eq_true]
 exact ⟨fun h=>⟨h.1.1,h.1.2,h.2⟩,fun h=>⟨⟨h.1,h.2.1⟩,h.2.2⟩⟩
theorem sl {l:List Key2} (h:zj l=true):(qT l).partB=true∧(qT l).count≤130∧(qT l).depth≤3:=by
 obtain ⟨h1,h2,h3⟩:=qA.1 h
 refine ⟨ub (up h2 h3 h1),?_,?_⟩
 · rw [JV.count_eq]
   have:=counts_le 3 (l.map obj2) fun x hx=>by obtain ⟨k,_,rfl⟩:=List.mem_map.1 hx;exact Nat.le_refl 3
   rw [List.length_map] at this
   show 1+JV.counts (l.map obj2)≤_
   omega
 · rw [JV.depth_eq]
   have:=jZ 1 (l.map obj2) fun x hx=>by obtain ⟨k,_,rfl⟩:=List.mem_map.1 hx;exact Nat.le_refl 1
   rw [if_neg (by simp [qT,JV.kind])]
   show JV.depths (l.map obj2)+1≤_
   omega
theorem sr {N:List NJ} (hr:qe (N.map (·.1))=true) (hl:N.length≤6) (hp:∀p ∈ N,qZ p.1=true∧p.2.partB=true∧p.2.count≤130∧p.2.depth≤3):(jz N).mayB=true:=by
 have h1:=vl ⟨hr,fun p h=>⟨(hp p h).1,(hp p h).2.1⟩⟩
 have h2:=gN 130 fun p h=>(hp p h).2.2.1
 have h3:=kV 3 fun p h=>(hp p h).2.2.2
 have h4:N.length * 130≤6 * 130:=Nat.mul_le_mul_right _ hl
 rw [JV.mayB_iff,h1,decide_eq_true (by omega),decide_eq_true (by omega)];rfl
theorem wx {v it:JV} {y:ByteArray} {most:Nat} {a:List ByteArray} (h:v.look y=some it) (hk:it.kind=5) (hl:it.items.length≤most):qr v y most ⟨a,0⟩=(it,⟨y :: a,0⟩):=by
 unfold qr
 rw [if_neg (by simp),h]
 show (if it.kind≠5 then _ else if most<it.items.length then _ else _:JV × PS)=_
 rw [if_neg (by simp [hk]),if_neg (by omega)]
end Go.Proofs.YthgembbgcbaghaaGreatDoor
