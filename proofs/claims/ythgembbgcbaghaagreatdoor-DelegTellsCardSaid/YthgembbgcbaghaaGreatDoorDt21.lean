import Derived.Test.YthgembbgcbaghaaGreatDoorDt20
import Derived.Test.YthgembbgcbaghaaGreatDoorDt17
set_option maxHeartbeats 1000000
set_option maxRecDepth 100000

namespace Go.Proofs.YthgembbgcbaghaaGreatDoor
open Go.RowKit Go.WideMaps Go.Maps
theorem rz (l:List JV) (j:Nat) (h:j<l.length) (hp:JV.partsB l=true):l[j].partB=true:=by
 cases hb:l[j].partB
 . rw [JV.partsB_bad l j h hb] at hp;cases hp
 . rfl
theorem sl {t:ByteArray} (h:t.toList=[]):t=⟨#[]⟩:=by rw [X2] at h;exact uX (by simpa using h)
theorem fm {x:JV} (h:x.partB=true) (hk:x.kind=5):(x.n=0/\x.t=⟨#[]⟩)/\x.names.length=x.items.length/\qe x.names=true/\∀y ∈ x.items,y.partB=true:=by rw [JV.partB_eq,J4] at h;obtain ⟨e,f⟩:=h;rw [hk] at e;unfold qV at e;rw [Z5 (by decide),Z5 (by decide),Z5 (by decide),Z5 (by decide),J1 rfl,J4,J4,Q6] at e;obtain ⟨⟨⟨a,b,c⟩,d⟩,-⟩:=e;refine ⟨⟨a,sl b⟩,c,d,fun y hy=>?_⟩;obtain ⟨i,hi,rfl⟩:=Y3 hy;exact rz _ i hi f
theorem vb:∀ {ns:List ByteArray} {xs:List JV} {y:ByteArray} {x:JV},q7 ns xs y=some x->y ∈ ns/\x ∈ xs
 | n :: ns,z :: xs,y,x,h=>by
  rw [q7] at h;split at h
  . rename_i e;injection h with h
    subst h;subst e;exact ⟨N9 ..,N9 ..⟩
  . have:=vb h;exact ⟨K9 _ this.1,K9 _ this.2⟩
def ny (v:JV):Prop:=v.kind=5/\(v.n=0/\v.t=⟨#[]⟩)/\qe v.names=true/\v.names.length=v.items.length/\∀x ∈ v.items,x.partB=true\/x=zo
theorem tU {v:JV} (h:v.mayB=true) (hk:v.kind=5):ny v:=by rw [JV.mayB_iff] at h;simp only [J4] at h;obtain ⟨a,b,c,d⟩:=fm h.1.1 hk;exact ⟨hk,a,c,b,fun x hx=>.inl (d x hx)⟩
theorem QH {v:JV} (h:ny v) {y:ByteArray} {it:JV} (e:v.look y=some it) (hk:it.kind≠0):it.partB=true:=by
 rcases h.2.2.2.2 it (vb e).2 with h|h
 . exact h
 . exact absurd (by rw [h];rfl) hk
def qL (n:Nat):UInt8:=if n<10 then UInt8.ofNat (48+n) else UInt8.ofNat (87+n)
def xr:List UInt8->List UInt8
 | []=>[]
 | c :: r=>qL (c.toNat / 16) :: qL (c.toNat % 16) :: xr r
theorem uv (l m:List UInt8):xr (l ++ m)=xr l ++ xr m:=by
 induction l with
 | nil=>rfl
 | cons c r ih=>simp [xr,ih]
theorem uw (l:List UInt8):(xr l).length=2 * l.length:=by
 induction l with
 | nil=>rfl
 | cons c r ih=>simp [xr,ih];omega
def kK (l:List UInt8):List UInt8:=xr (ze l)
theorem yk (l:List UInt8):(kK l).length=64:=by unfold kK;rw [uw,xE]
theorem fl (n:Nat) (h:n<16):xv (qL n)=true:=by
 have:∀m:Fin 16,xv (qL m.val)=true:=by decide
 exact this ⟨n,h⟩
theorem fs:∀l:List UInt8,jw (xr l)=true
 | []=>rfl
 | c :: r=>by have h:=fs r;have hc:c.toNat<256:=c.toNat_lt;unfold jw at h ⊢;simp only [xr,List.all_cons,J4];exact ⟨fl _ (by omega),fl _ (by omega),h⟩
theorem rx (l:List UInt8):jw (kK l)=true:=fs _
def xS:ByteArray:=⟨#[112,117,98,108,105,99]⟩
def schN:ByteArray:=⟨#[115,99,104,101,109,101]⟩
def jr (s t:ByteArray):JV:=.mk 5 0 ⟨#[]⟩ [xS,schN] [txtJ t,txtJ s]
theorem uG {s t:List UInt8} (h:zh s t=true):zf s=true/\yK t=true:=by unfold zh at h;simpa using h
theorem pf {s t:ByteArray} (h:zh s.data.toList t.data.toList=true):qQ s=true/\qQ t=true/\s.size<=64/\t.size<=128:=by obtain ⟨c,d⟩:=uG h;have a:=yt c;have b:=uZ d;rw [qp] at a b;exact ⟨zB a.1 (by omega),zB b.1 (by omega),a.2.2,b.2.2⟩
theorem dz:qQ xS=true/\qQ schN=true/\qe [xS,schN]=true:=by
 refine ⟨zB ?_ (by decide),zB ?_ (by decide),?_⟩
 . intro c hc;unfold jJ;revert c;decide
 . intro c hc;unfold jJ;revert c;decide
 . unfold qe qe;rw [X2,X2];decide
theorem dx (t:ByteArray) (h:qQ t=true) (d:Nat) (l:Int) (hl:1<=l):(txtJ t).may d l=(true,l - 1):=by
 unfold txtJ;rw [JV.may,Z5 (by omega)];have:qV 3 0 t [] 0=true:=by unfold qV;simp [h]
 rw [show ([]:List JV).length=0 from rfl,this];simp
theorem ft {s t:ByteArray} (h:zh s.data.toList t.data.toList=true):(jr s t).mayB=true:=by obtain ⟨a,b,_,_⟩:=pf h;obtain ⟨e,f,g⟩:=dz;unfold JV.mayB jr;have d:qV 5 0 ⟨#[]⟩ [xS,schN] 2=true:=(by unfold qV;rw [X2];simp [e,f,g]);have c:JV.mays [txtJ t,txtJ s] (12 - 1) (8192 - 1)=(true,8192 - 1 - 1 - 1):=(by rw [JV.mays,dx t b _ _ (by omega),J1 rfl,JV.mays,dx s a _ _ (by omega),J1 rfl,JV.mays]);rw [JV.may,Z5 (by omega),show ([txtJ t,txtJ s]:List JV).length=2 from rfl,d,Z5 (by decide),Z5 (by decide),Z5 (by decide),c]
theorem oP {s t:ByteArray} (hs:s.size<=4294967) (ht:t.size<=4294967):(jr s t).wt<=4294967296:=by unfold jr txtJ;have a:xS.size=6:=rfl;have b:schN.size=6:=rfl;have c:(⟨#[]⟩:ByteArray).size=0:=rfl;simp only [JV.wt,JV.wts,qo];omega
def ng:List UInt8:=[123,34,112,117,98,108,105,99,34,58,34]
def nf:List UInt8:=[34,44,34,115,99,104,101,109,101,34,58,34]
def jA (s t:List UInt8):List UInt8:=ng ++ (t ++ (nf ++ (s ++ [34,125])))
theorem dj (s t:List UInt8):(jA s t).length=s.length+t.length+25:=by simp [jA,ng,nf];omega
def jK (s t:List UInt8):List UInt8:=if zh s t then kK (jA s t) else []
def zZ (v:JV):(ByteArray × ByteArray) × Int :=
 if v.mayB=false then ((⟨#[]⟩,⟨#[]⟩),3) else if v.kind≠5 then ((⟨#[]⟩,⟨#[]⟩),10) else
  if qr v (ql v schN (ql v xS ⟨[],0⟩).2).2≠0 then ((⟨#[]⟩,⟨#[]⟩),qr v (ql v schN (ql v xS ⟨[],0⟩).2).2) else
  if zh (ql v schN (ql v xS ⟨[],0⟩).2).1.data.toList (ql v xS ⟨[],0⟩).1.data.toList then (((ql v schN (ql v xS ⟨[],0⟩).2).1,(ql v xS ⟨[],0⟩).1),0) else ((⟨#[]⟩,⟨#[]⟩),3)
theorem Qz:xS≠schN:=by decide
theorem tM (s t:ByteArray):(jr s t).look xS=some (txtJ t):=by unfold JV.look jr JV.names JV.items;simp [q7]
theorem tC (s t:ByteArray):(jr s t).look schN=some (txtJ s):=by unfold JV.look jr JV.names JV.items;simp [q7,Qz]
theorem rj {s t:ByteArray} (h:zh s.data.toList t.data.toList=true):zZ (jr s t)=((s,t),0):=by
 have a:ql (jr s t) xS ⟨[],0⟩=(t,⟨[xS],0⟩):=by unfold ql;rw [Z5 (by simp),tM];rfl
 have b:ql (jr s t) schN ⟨[xS],0⟩=(s,⟨[schN,xS],0⟩):=by unfold ql;rw [Z5 (by simp),tC];rfl
 have c:qr (jr s t) ⟨[schN,xS],0⟩=0:=(by unfold qr;rw [Z5 (by simp)];have:(jr s t).names=[xS,schN]:=rfl;rw [this];simp);unfold zZ;rw [Z5 (by rw [ft h];simp),Z5 (by show ¬(5:Int)≠5;simp),a];simp only;rw [b];simp only;rw [c,Z5 (by simp),J1 h]
def sr (s t:ByteArray):ByteArray:=⟨(jK s.data.toList t.data.toList).toArray⟩
def ok2 (k:Key2):Bool:=zh k.1.data.toList k.2.data.toList
def id2 (k:Key2):ByteArray:=sr k.1 k.2
def ids (l:List Key2):List ByteArray:=l.map id2
def obj2 (k:Key2):JV:=jr k.1 k.2
def zi (m:List Key2):JV:=.mk 5 0 ⟨#[]⟩ (m.map id2) (m.map obj2)
theorem dv {l:List ByteArray} (h:qe l=true):l.Nodup:=by rw [List.Nodup,N8];intro i j hi hj hij e;have:=jZ h i j hi hj hij;rw [e,zK] at this;cases this
theorem dw {k:Key2}:(id2 k).size<=64:=by
 show (jK _ _).toArray.size<=64;unfold jK;split
 . rw [List.size_toArray,yk];exact J0 _
 . simp
theorem oF {k:Key2} (h:k.1.size<=300/\k.2.size<=300):(obj2 k).wt<=1000:=by unfold obj2 jr txtJ;have a:xS.size=6:=rfl;have b:schN.size=6:=rfl;have c:(⟨#[]⟩:ByteArray).size=0:=rfl;simp only [JV.wt,JV.wts,qo];omega
theorem mC {m:List Key2} (hs:∀k ∈ m,k.1.size<=300/\k.2.size<=300):(zi m).wt<=1+1100 * m.length:=by
 have a:∀m:List Key2,qo (m.map id2)<=65 * m.length:=fun m=>by
  induction m with
  | nil=>simp [qo]
  | cons k r ih=>have:=@dw k;simp only [G9,qo,N2];omega
 have b:∀m:List Key2,(∀k ∈ m,k.1.size<=300/\k.2.size<=300)->JV.wts (m.map obj2)<=1000 * m.length:=fun m=>by
  induction m with
  | nil=>intro _;simp [JV.wts]
  | cons k r ih=>intro hs;have:=oF (hs k (by simp));have:=ih (fun k hk=>hs k (K9 _ hk));simp only [G9,JV.wts,N2];omega
 have c:(⟨#[]⟩:ByteArray).size=0:=rfl;have:=a m;have:=b m hs;unfold zi;simp only [JV.wt];omega
theorem si {v:JV} (h:(zZ v).2=0):zh (zZ v).1.1.data.toList (zZ v).1.2.data.toList=true/\(zZ v).1.1.size<=64/\(zZ v).1.2.size<=128:=by
 have c:zh (zZ v).1.1.data.toList (zZ v).1.2.data.toList=true:=by
  unfold zZ at h ⊢;split at h
  . cases h
  next c1 =>
  rw [Z5 c1];split at h
  . cases h
  next c2 =>
  rw [Z5 c2];split at h
  . next c3=>exact absurd h c3
  next c3 =>
  rw [Z5 c3];split at h
  . next c4=>rw [J1 c4];exact c4
  . cases h
 obtain ⟨_,_,a,b⟩:=pf c;exact ⟨c,a,b⟩
def kz:List ByteArray->List JV->List Key2->List Key2 × Int
 | id :: ns,it :: its,acc=>if (zZ it).2≠0 then ([],(zZ it).2) else if (sr (zZ it).1.1 (zZ it).1.2).toList == id.toList then kz ns its (acc ++ [(zZ it).1]) else ([],3)
 | _,_,acc=>(acc,0)
def uB (r:Key2 × Int) (id:ByteArray) (ns:List ByteArray) (its:List JV) (acc:List Key2):List Key2 × Int :=
 if r.2≠0 then ([],r.2) else if (sr r.1.1 r.1.2).toList == id.toList then kz ns its (acc ++ [r.1]) else ([],3)
theorem se (its:List JV) (acc:List Key2):kz [] its acc=(acc,0):=by unfold kz;rfl
theorem rk (ns:List ByteArray) (its:List JV) (k:Nat) (acc:List Key2) (h:k<ns.length) (h':k<its.length):kz (ns.drop k) (its.drop k) acc=uB (zZ its[k]) ns[k] (ns.drop (k+1)) (its.drop (k+1)) acc:=by rw [K0 h,K0 h',kz,uB]
def jx (v:JV):List Key2 × Int:=if v.mayB=false then ([],3) else if v.kind≠5 then ([],10) else if 32<v.names.length then ([],5) else kz v.names v.items []
theorem fe:∀ {l:List JV},JV.partsB l=true->∀x ∈ l,JV.partB x=true
 | [],_,x,hx=>by simp at hx
 | y :: r,h,x,hx=>by
  rw [JV.partsB,J4] at h;rcases G3.1 hx with rfl|hx
  . exact h.1
  . exact fe h.2 x hx
theorem dy {v:JV} (h:v.mayB=true):v.partB=true:=by rw [JV.mayB_iff] at h;simp only [J4] at h;exact h.1.1
theorem Qx {k:Key2} (h:ok2 k=true):qQ (id2 k)=true:=by have e:(id2 k).data.toList=kK (jA k.1.data.toList k.2.data.toList):=(by show (jK _ _)=_;unfold jK;rw [J1 (show zh k.1.data.toList k.2.data.toList=true from h)]);refine zB ?_ (Z3 dw (by decide));rw [e];have:=rx (jA k.1.data.toList k.2.data.toList);unfold jw at this;exact fun c hc=>gF (V4.1 this c hc)
theorem dg {m:List Key2} (hok:∀k ∈ m,ok2 k=true) (hr:qe (ids m)=true) (hl:m.length<=32):(zi m).mayB=true:=by
 rw [JV.mayB_iff];have g:∀m:List Key2,(∀k ∈ m,ok2 k=true)->JV.partsB (m.map obj2)=true:=fun m=>by
  induction m with
  | nil=>intro _;rfl
  | cons k r ih => intro h;rw [G9,JV.partsB,J4];exact ⟨dy (ft (h k (by simp))),ih fun x hx=>h x (K9 _ hx)⟩
 have d:∀m:List Key2,JV.counts (m.map obj2)=3 * m.length:=fun m=>by
  induction m with
  | nil=>rfl
  | cons k r ih => have:JV.count (obj2 k)=3:=rfl;rw [G9,JV.counts,ih,this,N2];omega
 have e:∀m:List Key2,JV.depths (m.map obj2)<=1:=fun m=>by
  induction m with
  | nil=>exact J8 _
  | cons k r ih => have:JV.depth (obj2 k)=1:=rfl;rw [G9,JV.depths,this];omega
 have b:(zi m).partB=true:=(by unfold zi;rw [JV.partB,g m hok];have:qV 5 0 ⟨#[]⟩ (m.map id2) (m.map obj2).length=(decide ((0:Int)=0/\(⟨#[]⟩:ByteArray).toList=[]/\(m.map id2).length=(m.map obj2).length) && qe (m.map id2) && (m.map id2).all qQ):=rfl;rw [this,show qe (m.map id2)=true from hr,X2];have a:(m.map id2).all qQ=true:=(by rw [V4];intro x hx;obtain ⟨k,f,rfl⟩:=M4.1 hx;exact Qx (hok k f));rw [a];simp);have a:(zi m).count<=8192:=by unfold zi;rw [JV.count,d];omega
 have c:(zi m).depth<=12:=(by unfold zi;rw [JV.depth,Z5 (by simp)];have:=e m;omega);rw [b];simp [a,c]
theorem uP:∀(m:List Key2) (acc:List Key2),(∀k ∈ m,ok2 k=true)->kz (m.map id2) (m.map obj2) acc=(acc ++ m,0)
 | [],acc,_=>by simp [kz]
 | k :: r,acc,h=>by have e:=rj (s:=k.1) (t:=k.2) (h k (by simp));rw [G9,G9,kz,show obj2 k=jr k.1 k.2 from rfl,e];simp only;rw [Z5 (by simp),J1 (by simp [id2]),uP r _ fun x hx=>h x (K9 _ hx)];simp
theorem uF {m:List Key2} (hok:∀k ∈ m,ok2 k=true) (hr:qe (ids m)=true) (hl:m.length<=32):jx (zi m)=(m,0):=by unfold jx;rw [Z5 (by rw [dg hok hr hl];simp),Z5 (by show ¬(5:Int)≠5;simp),Z5 (by show ¬32<(m.map id2).length;simp;omega)];show kz (m.map id2) (m.map obj2) []=_;rw [uP m [] hok,List.nil_append]
theorem yT {k:Key2} (h:ok2 k=true):k.1.size<=300/\k.2.size<=300:=by obtain ⟨_,_,a,b⟩:=pf h;omega
open Go.Shelf Go.Sort
theorem Qj (t s:ByteArray) (w:World) (T:Nat) (ht:t.size<=4294967000) (hs:s.size<=4294967000) :
 Calls Tryz.prog 150 #[.slice (some ⟨w.heap.size,0,none⟩) 2 2] (w.alloc (.cells #[.string ⟨#[112,117,98,108,105,99]⟩,.int .u8 3,.int .i64 0,.string t,.slice none 0 0,.slice none 0 0,.string ⟨#[115,99,104,101,109,101]⟩,.int .u8 3,.int .i64 0,.string s,.slice none 0 0,.slice none 0 0] T))
  (yS [xS,schN] [txtJ t,txtJ s] (w.alloc (.cells #[.string ⟨#[112,117,98,108,105,99]⟩,.int .u8 3,.int .i64 0,.string t,.slice none 0 0,.slice none 0 0,.string ⟨#[115,99,104,101,109,101]⟩,.int .u8 3,.int .i64 0,.string s,.slice none 0 0,.slice none 0 0] T))):=by
 have:=mB #[xj xS t,xj schN s] #[xj xS t,xj schN s] [txtJ t,txtJ s] w.heap.size 0 2 (w.alloc (.cells #[.string ⟨#[112,117,98,108,105,99]⟩,.int .u8 3,.int .i64 0,.string t,.slice none 0 0,.slice none 0 0,.string ⟨#[115,99,104,101,109,101]⟩,.int .u8 3,.int .i64 0,.string s,.slice none 0 0,.slice none 0 0] T)) 0 0 ?_ (by simp) (by simp) ?_ rfl ?_ ?_ (by simp)
 . exact this
 . exact rq (T:=T) (by rw [Z4,tZ];rfl)
 . refine lA _ _ _ fun j hj=>?_;obtain rfl:j=0:=by simp at hj;omega
   show ltOf cfM (xj schN s) (xj xS t)=false;show decide (Lib.compareBytes schN.data.toList xS.data.toList<0)=false;decide
 . intro i hi
   match i,hi with
   | 0,_=>exact ⟨jN _ _ _ _,by simp [txtJ,JV.wt,JV.wts,qo];omega,fun k h=>by simp [txtJ,JV.items] at h⟩
   | 1,_=>exact ⟨jN _ _ _ _,by simp [txtJ,JV.wt,JV.wts,qo];omega,fun k h=>by simp [txtJ,JV.items] at h⟩
 . intro i hi;obtain rfl:i=0:=by simp at hi;omega
   show xS≠schN;decide
def fQ (s t:ByteArray) (w:World) (e:Ending) (w':World):Prop :=
 ∃an cn ai ci,e=.returned (.tuple #[.agg #[.int .u8 5,.int .i64 0,.string ⟨#[]⟩,.slice an 2 cn,.slice ai 2 ci],.int .i64 0]) /\
  Rep w' w.heap.size w'.heap.size (jr s t) (.agg #[.int .u8 5,.int .i64 0,.string ⟨#[]⟩,.slice an 2 cn,.slice ai 2 ci])/\Below w.heap.size w w'
theorem db (s t:ByteArray) (w:World) (hs:s.size<=4294967000) (ht:t.size<=4294967000) (hk:zh s.data.toList t.data.toList=false) :
 Calls Tryz.prog 152 #[.agg #[.string s,.string t]] w fun e w'=>e=.returned (.tuple #[zeroAgg,.int .i64 3])/\Below w.heap.size w w':=by
 have i:=U (lC s t ((w.alloc (.cells #[.string s,.string t] 43)).alloc (.cells #[.int .u8 0,.int .i64 0,.string ⟨#[]⟩,.slice none 0 0,.slice none 0 0] 25)) (by omega) (by omega));rw [hk] at i;have c:=qh (w.alloc (.cells #[.string s,.string t] 43)) (.int .u8 0) (.int .i64 0) (.string ⟨#[]⟩) (.slice none 0 0) (.slice none 0 0) 25;rw [show (w.alloc (.cells #[.string s,.string t] 43)).heap.size=w.heap.size+1 by simp] at c;have g:=U c;have d:=O0 (Below w.heap.size w ((w.alloc (.cells #[.string s,.string t] 43)).alloc (.cells #[.int .u8 0,.int .i64 0,.string ⟨#[]⟩,.slice none 0 0,.slice none 0 0] 25))) (((Z0 _ _).alloc lz _).alloc (by simp) _);clear hk c;go_enter Tryz.func152,Tryz.ntmps152;go_wp2_with fail;refine i.o.mono ?_;rintro e x ⟨rfl,b⟩;have a:=qj b g.o (by simp);have h:=U a;have f:=U (d.o.trans (b.mono (by simp;omega)));obtain ⟨j,k,l,m,o⟩:=rc5 a;obtain ⟨p,q,r,u,v⟩:=rf5 a;simp only [qZ] at j k l m o;clear a b;go_wp2;exact J3 (qk Tryz.results152 _ _ (w.heap.size+1) 25 _ (0,0) _ rfl (qm (set5 _ _ _ _ _ h.o)) J5 rfl (by kernel_rfl) _ rfl) rfl ⟨rfl,zx _ _ _ _ _ f.o (by omega)⟩
theorem yI (s t:ByteArray) (w:World) (hs:s.size<=4294967000) (ht:t.size<=4294967000) (hk:zh s.data.toList t.data.toList=true) :
 Calls Tryz.prog 152 #[.agg #[.string s,.string t]] w (fQ s t w):=by
 have I:=U (lC s t ((w.alloc (.cells #[.string s,.string t] 43)).alloc (.cells #[.int .u8 0,.int .i64 0,.string ⟨#[]⟩,.slice none 0 0,.slice none 0 0] 25)) (by omega) (by omega));rw [hk] at I;have i:=qh (w.alloc (.cells #[.string s,.string t] 43)) (.int .u8 0) (.int .i64 0) (.string ⟨#[]⟩) (.slice none 0 0) (.slice none 0 0) 25;rw [show (w.alloc (.cells #[.string s,.string t] 43)).heap.size=w.heap.size+1 by simp] at i;have r:=U i;have q:=O0 (Below w.heap.size w ((w.alloc (.cells #[.string s,.string t] 43)).alloc (.cells #[.int .u8 0,.int .i64 0,.string ⟨#[]⟩,.slice none 0 0,.slice none 0 0] 25))) (((Z0 _ _).alloc lz _).alloc (by simp) _);have x:=U (show ((w.alloc (.cells #[.string s,.string t] 43)).alloc (.cells #[.int .u8 0,.int .i64 0,.string ⟨#[]⟩,.slice none 0 0,.slice none 0 0] 25)).heap[w.heap.size]?=some (.cells #[.string s,.string t] 43 (0,0)) by rw [X5 _ _ _ (by simp)];exact Z4 w _);clear hk i;go_enter Tryz.func152,Tryz.ntmps152;go_wp2_with fail;refine I.o.mono ?_;clear I;rintro e b ⟨rfl,d⟩;have K:=U (qj d r.o (by simp));have Q:w.heap.size+2<=b.heap.size:=by have:=d.size;simp at this;omega
 have B:b.heap[w.heap.size]?=some (.cells #[.string s,.string t] 43 (0,0)):=by rw [d.block _ (by simp;omega)];exact x.o
 have y:=U B;have F:=U (q.o.trans (d.mono (by simp;omega)));clear d B x q r;have H:=U (show ∀w':World,Below b.heap.size b w'->w'.cell? ⟨w.heap.size,0,none⟩=some (.string s)/\w'.cell? ⟨w.heap.size,1,none⟩=some (.string t)/\w.heap.size<w'.heap.size from fun w' h=>by
  have:=h.size;exact ⟨by rw [h.cell (by show w.heap.size<_;omega)];simp [World.cell?,y.o],by rw [h.cell (by show w.heap.size<_;omega)];simp [World.cell?,y.o],by omega⟩)
 have N:=U (show ∀(u:ByteArray) (w':World),Below b.heap.size b w'->Calls Tryz.prog 201 #[.string u] w' (fun e a=>e=.returned (.agg #[.int .u8 3,.int .i64 0,.string u,.slice none 0 0,.slice none 0 0])/\Below b.heap.size b a/\a.cell? ⟨w.heap.size,0,none⟩=some (.string s)/\a.cell? ⟨w.heap.size,1,none⟩=some (.string t)/\w.heap.size<a.heap.size) from fun u w' h=>by
  refine (vG u w').mono ?_;rintro e a ⟨rfl,rfl⟩;have C:Below b.heap.size b (w'.alloc (.cells #[.int .u8 3,.int .i64 0,.string u,.slice none 0 0,.slice none 0 0] 25)):=h.alloc h.size _;exact ⟨rfl,C,H.o _ C⟩)
 have M:=U (show ∀(w':World),Below b.heap.size b w'->Calls Tryz.prog 150 #[.slice (some ⟨w'.heap.size,0,none⟩) 2 2] (w'.alloc (.cells #[.string ⟨#[112,117,98,108,105,99]⟩,.int .u8 3,.int .i64 0,.string t,.slice none 0 0,.slice none 0 0,.string ⟨#[115,99,104,101,109,101]⟩,.int .u8 3,.int .i64 0,.string s,.slice none 0 0,.slice none 0 0] 169)) (fun e a=>∃m p l o,e=.returned (.tuple #[.agg #[.int .u8 5,.int .i64 0,.string ⟨#[]⟩,.slice m 2 p,.slice l 2 o],.int .i64 0])/\Rep a b.heap.size a.heap.size (jr s t) (.agg #[.int .u8 5,.int .i64 0,.string ⟨#[]⟩,.slice m 2 p,.slice l 2 o])/\Below b.heap.size b a/\a.cell? ⟨w.heap.size,0,none⟩=some (.string s)/\a.cell? ⟨w.heap.size,1,none⟩=some (.string t)/\a.rowIs (w.heap.size+1) 25 5 (qZ (.int .u8 0) (.int .i64 0) (.string ⟨#[]⟩) (.slice none 0 0) (.slice none 0 0))) from fun w' h=>by
  refine (Qj t s w' _ ht hs).mono ?_;rintro e a ⟨m,p,l,o,rfl,P,C⟩;have f:Below b.heap.size b a:=(h.alloc h.size _).trans (C.mono (by have:=h.size;simp;omega));have L:=H.o _ f;exact ⟨m,p,l,o,rfl,Rep.carry (by have:=h.size;simp;omega) lz (fun _ _ _=>rfl) _ _ P,f,L.1,L.2.1,qj f K.o (by omega)⟩)
 have g:Below b.heap.size b b.drew:=(Z0 _ _).drew;obtain ⟨D,E,k⟩:=H.o b (Z0 _ _);go_wp2_with fail
 go_region_held3 (fun w'=>w'.cell? ⟨w.heap.size,0,none⟩=some (.string s)/\w'.cell? ⟨w.heap.size,1,none⟩=some (.string t)) (first|(with_reducible exact ⟨D,E⟩)|(with_reducible exact ⟨(qi _ k).trans D,(qi _ k).trans E⟩)|(go_keep;done)) (first|(go_at_call 201;(with_reducible refine (N.o _ _ g).mono ?_);rintro e w2 ⟨rfl,g,D,E,k⟩)|(go_at_call 150;(with_reducible refine (M.o _ g).mono ?_);rintro e X ⟨m,p,l,o,rfl,A,z,D,E,c⟩;obtain ⟨R,S,T,V,W⟩:=rc5 c;obtain ⟨Y,Z,s2,s3,s4⟩:=rf5 c;have v:=U c;have J:=U A;have G:=U z;clear c A z;simp only [qZ] at R S T V W))
 go_wp2;refine J3 (qk Tryz.results152 _ _ (w.heap.size+1) 25 _ (0,0) _ rfl (qm (set5 _ _ _ _ _ v.o)) J5 rfl (by kernel_rfl) _ rfl) rfl ⟨m,p,l,o,rfl,?_,zx _ _ _ _ _ (F.o.trans (G.o.mono (by omega))) (by omega)⟩;exact Rep.carry (by omega) (show X.heap.size<=_ by simp [World.setCell]) (fun j hj _=>xI _ _ _ _ _ (by omega)) _ _ J.o
theorem fZ (l:List UInt8) (h:∀c ∈ l,jJ c):yN l=l:=by
 induction l with
 | nil=>rfl
 | cons c r ih =>
  have a:=h c (by simp);have e:yN (c :: r)=p9 c ++ yN r:=by simp [yN]
  rw [e,ih fun d hd=>h d (by simp [hd])];unfold p9 jJ at *;rw [Z5 (by omega)];rfl
theorem sQ {s t:ByteArray} (h:zh s.data.toList t.data.toList=true):(jr s t).form false:=by
 obtain ⟨a,b,_,_⟩:=pf h;obtain ⟨c,d,f⟩:=dz;have e:∀i (hi:i < [xS,schN].length),qQ [xS,schN][i]=true:=fun i hi=>by
  match i,hi with
  | 0,_=>exact c
  | 1,_=>exact d
 unfold jr JV.form;refine ⟨.inr (.inr (.inr (.inr ⟨rfl,rfl,e⟩))),?_⟩;unfold JV.forms JV.forms JV.forms;unfold txtJ JV.form;exact ⟨⟨.inr (.inr (.inl ⟨rfl,b⟩)),by unfold JV.forms;trivial⟩,⟨.inr (.inr (.inl ⟨rfl,a⟩)),by unfold JV.forms;trivial⟩,trivial⟩
theorem tD {s t:ByteArray} (h:zh s.data.toList t.data.toList=true):(jr s t).enc=jA s.data.toList t.data.toList:=by
 obtain ⟨e,f⟩:=uG h;have a:=fZ _ (yt e).1;have b:=fZ _ (uZ f).1;have c:xN xS.data.toList=[34,112,117,98,108,105,99,34]:=by decide
 have d:xN schN.data.toList=[34,115,99,104,101,109,101,34]:=by decide
 unfold jr txtJ;simp [JV.enc,JV.encO,sep,c,d,jA,ng,nf];simp [xN,a,b]
structure AuthV where
 thr:Int
 ids:List ByteArray
deriving DecidableEq
def authZ:AuthV:=⟨0,[]⟩
def jv (a:AuthV):Bool:=xw a.thr a.ids
def qy:ByteArray:=⟨#[107,101,121,105,100,115]⟩
def thrN:ByteArray:=⟨#[116,104,114,101,115,104,111,108,100]⟩
def zY (l:List JV):JV:=.mk 4 0 ⟨#[]⟩ [] l
def qg (l:List ByteArray):JV:=zY (l.map txtJ)
def qw (v:JV) (y:ByteArray) (most:Nat) (st:PS):List ByteArray × PS :=
 if st.err≠0 then ([],st) else match v.look y with
 | none=>([],⟨st.asked,6⟩)
 | some it=>if it.kind≠4 then ([],⟨st.asked,10⟩) else if most<it.items.length then ([],⟨st.asked,5⟩) else if it.items.all (fun x=>decide (x.kind=3)) then (it.items.map JV.t,⟨y :: st.asked,0⟩) else ([],⟨st.asked,10⟩)
def kC (v:JV) (st:PS):PS:=(if (qw v qy 16 st).1=[] then (qw v qy 16 st).2.fail 4 else (qw v qy 16 st).2).fail (qA [] (qw v qy 16 st).1)
def vO (v:JV) (st:PS):Int × PS:=qT v thrN 1 ((qw v qy 16 st).1.length:Int) (kC v st)
def kD (v:JV) (st:PS):AuthV × PS:=(if (vO v st).2.err≠0 then authZ else ⟨(vO v st).1,(qw v qy 16 st).1⟩,(vO v st).2)
theorem fX {l:List JV} (h:∀x ∈ l,x.partB=true):(zY l).partB=true:=by
 rw [JV.partB_eq];show (qV 4 0 ⟨#[]⟩ [] l.length && JV.partsB l)=true;rw [gU l h];unfold qV;rw [Z5 (by decide),Z5 (by decide),Z5 (by decide),J1 rfl];have a:(⟨#[]⟩:ByteArray).toList=[]:=by rw [X2]
 simp [a]
theorem zI {a:AuthV} (h:jv a=true):(1<=a.ids.length/\a.ids.length<=16)/\(1<=a.thr/\a.thr<=a.ids.length)/\qA [] a.ids=0:=by unfold jv xw at h;simp only [J4,Q6] at h;exact ⟨⟨h.1.1,h.1.2.1⟩,h.1.2.2,h.2⟩
theorem jb:∀(l seen:List ByteArray),qA seen l=0->∀x ∈ l,j4 x=true
 | [],_,_,x,hx=>by simp at hx
 | y :: r,seen,h,x,hx=>by
  unfold qA at h;split at h
  . rename_i h1;split at h
    . cases h
    . rcases G3.1 hx with e|e
      . rw [e];exact h1
      . exact jb r _ h x e
  . cases h
theorem kh {x:ByteArray} (h:j4 x=true):qQ x=true/\x.size=64:=by unfold j4 at h;simp only [J4,Q6] at h;refine ⟨zB ?_ (by omega),h.1⟩;intro c hc;have a:=V4.1 (by unfold jw at h;exact h.2) c hc;unfold xv at a;unfold jJ;simp at a ⊢;omega
theorem vP {v:JV} {y:ByteArray} {l:List ByteArray} {most:Nat} {a:List ByteArray} (h:v.look y=some (qg l)) (hl:l.length<=most):qw v y most ⟨a,0⟩=(l,⟨y :: a,0⟩):=by
 unfold qw;rw [Z5 (by simp),h];show (if (qg l).kind≠4 then _ else _:List ByteArray × PS)=_;have hi:(qg l).items=l.map txtJ:=rfl;rw [Z5 (by simp [qg,zY,JV.kind]),hi,Z5 (by rw [J9];omega),J1 (by simp [txtJ,JV.kind])];have b:(l.map txtJ).map JV.t=l:=by rw [List.map_map];exact (List.map_congr_left fun x _=>rfl).trans (List.map_id l)
 rw [b]
def yO:ByteArray:=⟨#[114,111,111,116]⟩
structure Auth3 where
 a:AuthV
 b:AuthV
 c:AuthV
deriving DecidableEq
structure RootV where
 ver:Int
 exp:Int
 keys:List Key2
 au:Auth3
deriving DecidableEq
def qP:ByteArray:=⟨#[107,101,121,115]⟩
def xB:ByteArray:=⟨#[114,111,108,101,115]⟩
def zg (l:List Key2):Bool:=decide (l.length<=32) && l.all ok2 && qe (ids l)
theorem rv:qe [nO,nE,qP,xB,nI]=true/\(qQ nO=true/\qQ nE=true/\qQ qP=true/\qQ xB=true/\qQ nI=true)/\(nO≠nE/\nO≠qP/\nO≠xB/\nO≠nI/\nE≠qP/\nE≠xB/\nE≠nI/\qP≠xB/\qP≠nI/\xB≠nI):=by
 refine ⟨by kernel_rfl,⟨?_,?_,?_,?_,?_⟩,by decide⟩
 all_goals
  refine zB ?_ (by decide);intro c hc;unfold jJ
  revert c
  decide
theorem q9 {l:List Key2}:zg l=true↔l.length<=32/\(∀k ∈ l,ok2 k=true)/\qe (ids l)=true:=by unfold zg;simp only [J4,Q6,V4];exact ⟨fun h=>⟨h.1.1,h.1.2,h.2⟩,fun h=>⟨⟨h.1,h.2.1⟩,h.2.2⟩⟩
theorem oH {l:List Key2} (h:zg l=true):(zi l).partB=true/\(zi l).count<=130/\(zi l).depth<=3:=by
 obtain ⟨a,b,c⟩:=q9.1 h;refine ⟨dy (dg b c a),?_,?_⟩
 . rw [JV.count_eq];have:=counts_le 3 (l.map obj2) fun x hx=>by obtain ⟨k,_,rfl⟩:=M4.1 hx;exact J0 3
   rw [J9] at this;show 1+JV.counts (l.map obj2)<=_;omega
 . rw [JV.depth_eq];have:=kJ 1 (l.map obj2) fun x hx=>by obtain ⟨k,_,rfl⟩:=M4.1 hx;exact J0 1
   rw [Z5 (by simp [zi,JV.kind])];show JV.depths (l.map obj2)+1<=_;omega
theorem oU {N:List NJ} (hr:qe (N.map (·.1))=true) (hl:N.length<=6) (hp:∀p ∈ N,qQ p.1=true/\p.2.partB=true/\p.2.count<=130/\p.2.depth<=3):(j5 N).mayB=true:=by have a:=wD ⟨hr,fun p h=>⟨(hp p h).1,(hp p h).2.1⟩⟩;have b:=fk 130 fun p h=>(hp p h).2.2.1;have c:=vB 3 fun p h=>(hp p h).2.2.2;have d:N.length * 130<=6 * 130:=Nat.mul_le_mul_right _ hl;rw [JV.mayB_iff,a,J2 (by omega),J2 (by omega)];rfl
theorem yi {v it:JV} {y:ByteArray} {most:Nat} {a:List ByteArray} (h:v.look y=some it) (hk:it.kind=5) (hl:it.items.length<=most):qX v y most ⟨a,0⟩=(it,⟨y :: a,0⟩):=by unfold qX;rw [Z5 (by simp),h];show (if it.kind≠5 then _ else if most<it.items.length then _ else _:JV × PS)=_;rw [Z5 (by simp [hk]),Z5 (by omega)]
end Go.Proofs.YthgembbgcbaghaaGreatDoor
