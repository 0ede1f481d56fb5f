/- Plain: what root.Of tells of a root's object with a member less, with another member, with a member more; the same of the object of its roles. No program in sight. -/
import Derived.Test.YthgembbgcbaghaaGreatDoorDb20
import Derived.Test.YthgembbgcbaghaaGreatDoorDb17

namespace Go.Proofs.YthgembbgcbaghaaGreatDoor
open Go.RowKit Go.WideMaps Go.Maps
theorem sZ:∀(l l':List JV),l'.length=l.length→(∀j (h:j<l'.length) (h':j<l.length),l'[j].wt≤l[j].wt)→JV.wts l'≤JV.wts l
 | [],[],_,_=>Nat.le_refl _
 | x :: r,y :: s,h,hp=>by
  have h0:=hp 0 (by simp) (by simp)
  have h1:=sZ r s (by simpa using h) (fun j h1 h2=>by have:=hp (j+1) (by simpa using h1) (by simpa using h2);simpa using this)
  simp only [List.getElem_cons_zero] at h0
  rw [JV.wts,JV.wts];omega
 | [],_ :: _,h,_=>by simp at h
 | _ :: _,[],h,_=>by simp at h
theorem WeakCopy.wt {v v':JV} (h:WeakCopy v v'):v'.wt≤v.wt:=by
 have:=sZ v.items v'.items h.len (fun j h1 h2=>by
  rcases h.items j h1 h2 with e|⟨e,_⟩
  · rw [e];exact Nat.le_refl _
  · rw [e];exact JV.wt_pos _)
 rw [JV.wt_eq,JV.wt_eq,h.t,h.names];omega
theorem b9 (l:List JV) (j:Nat) (h:j<l.length) (hp:JV.partsB l=true):l[j].partB=true:=by
 cases hb:l[j].partB
 · rw [JV.partsB_bad l j h hb] at hp;cases hp
 · rfl
def tf (v:JV) (w:World) (e:Ending) (w':World):Prop:=∃v',WeakCopy v v'∧sw v' w e w'
set_option maxHeartbeats 400000 in
set_option maxRecDepth 100000 in
theorem uj (v:JV) (x:Value) (w:World) (hi:Nat) (hN:v.wt≤4294967296) (hhi:hi≤w.heap.size) (hR:Rep w 0 hi v x) (hk:v.kind=5) (hr:qQ v.names=true) (hl:v.names.length=v.items.length) :
 Calls Tryz.prog 60 #[x] w (tf v w):=by
 obtain ⟨an,cn,ai,ci,rfl,h1,h2,h3,h4⟩:=hR.parts
 obtain ⟨b1,b2,b3,b4⟩:=v.wt_bd
 rw [hl,hk]
 rw [hl,hk] at hR
 obtain ⟨nn,hnn⟩:∃nn,nn=v.items.length:=⟨_,rfl⟩
 rw [← hnn] at hR b3 ⊢
 have HNN:=Lh hnn
 have H3:=Lh h3
 have HR:=Lh hR
 have HRS:=Lh hr
 have HK:=Lh hk
 have HL:=Lh hl
 clear h1 h2 h3 h4 hR hr hk hnn hl
 have hmm:=@run_makeMap Tryz.prog
 have HB0:=Lh (show Below w.heap.size w (w.alloc (.cells #[.int .u8 5,.int .i64 v.n,.string v.t,.slice an nn cn,.slice ai nn ci] 25)) from (Below.refl _ _).alloc lz _)
 have HX0:=Lh (heap_alloc_new w (.cells #[.int .u8 5,.int .i64 v.n,.string v.t,.slice an nn cn,.slice ai nn ci] 25))
 go_enter Tryz.func60,Tryz.ntmps60
 go_wp2
 go_loopw [3] (fun i wr=>∃k:Nat,1≤k∧(k≤nn∨k=1)∧i=.int .i64 k∧Below (w.heap.size+1) (w.alloc (.cells #[.int .u8 5,.int .i64 v.n,.string v.t,.slice an nn cn,.slice ai nn ci] 25)) wr) (fun i _=>nn - (intOf i).toNat)
 case atStart=>exact ⟨1,by omega,.inr rfl,rfl,Below.refl _ _⟩
 case round =>
  obtain ⟨k,hk1,hk2,rfl,hbel⟩:=hrel
  have hz:w.heap.size+1≤wr.heap.size:=by have:=hbel.size;simpa using this
  have hx1:wr.heap[w.heap.size]?=some (.cells #[.int .u8 5,.int .i64 v.n,.string v.t,.slice an nn cn,.slice ai nn ci] 25 (0,0)):=by rw [hbel.block _ (by omega)];exact HX0.out
  have HX1:=Lh hx1
  have HBW:=Lh (show Below w.heap.size w wr from HB0.out.trans (hbel.mono (by omega)))
  have c3:wr.cell? ⟨w.heap.size,3,none⟩=some (.slice an nn cn):=qq hx1 rfl
  have HB:=Lh hbel
  clear hx1 hbel
  by_cases hlt:k<nn
  · have hltn:k<v.names.length:=by rw [HL.out,← HNN.out];exact hlt
    obtain ⟨b,off,rfl,_,hb,y1⟩:=(H3.out.below HBW.out hhi lz lz).at k hltn
    obtain ⟨b',off',hbb,_,_,y0⟩:=(H3.out.below HBW.out hhi lz lz).at (k - 1) (by omega)
    obtain ⟨rfl,rfl⟩:b=b'∧off=off':=by simpa using hbb
    clear hbb
    have hless:=xC HRS.out (k - 1) k (by omega) hltn (by omega)
    unfold bl at hless
    generalize v.names[k - 1]=na at hless y0
    generalize v.names[k]=nb at hless y1
    have i0:IntKind.i64.wrap ((k:Int) - 1)=(k:Int) - 1:=IntWalk.i64_in _ (by omega)
    have j0:0≤(k:Int) - 1:=by omega
    have j1:1≤(k:Int):=by omega
    have j2:(k:Int) - 1<(nn:Int):=by omega
    have j3:(k:Int)<(nn:Int):=by omega
    have t0:((k:Int) - 1).toNat=k - 1:=by omega
    go_wp2_with fail
    go_quiet (fail)
    go_wp2
    go_roundw
    case rel=>exact ⟨k+1,by omega,by omega,by go_num,Below.drewN HB.out _⟩
    case measure=>simp [intOf];omega
  · have c0:wr.cell? ⟨w.heap.size,0,none⟩=some (.int .u8 5):=qq HX1.out rfl
    have c1:wr.cell? ⟨w.heap.size,1,none⟩=some (.int .i64 v.n):=qq HX1.out rfl
    have c2:wr.cell? ⟨w.heap.size,2,none⟩=some (.string v.t):=qq HX1.out rfl
    have c4:wr.cell? ⟨w.heap.size,4,none⟩=some (.slice ai nn ci):=qq HX1.out rfl
    have HC:=Lh (cI v _ wr hi hN (by omega) (HR.out.below HBW.out hhi lz lz))
    go_wp2_with fail
    refine HC.out.mono ?_
    clear HC c0 c1 c2 c3 c4
    rintro e w2 ⟨v',an2,cn2,ai2,ci2,hwc,rfl,hr2,hb2⟩
    have HWC:=Lh hwc
    clear hwc
    have hz2:=hb2.size
    have HR2:=Lh hr2
    have HB2:=Lh (HBW.out.trans (hb2.mono (by omega)))
    clear hr2 hb2
    go_wp2
    go_ret
    refine ⟨v',HWC.out,w2.heap.size+1,w2.heap.size,wr.heap.size,w2.heap.size,an2,ai2,cn2,ci2,rfl,?_,by omega,by omega,(HB2.out.alloc (by omega) _).alloc (by simp;omega) _⟩
    have hbb:Below w2.heap.size w2 ((w2.alloc (.map #[] 0)).alloc (.cells #[.int .u8 v'.kind,.int .i64 v'.n,.string v'.t,.slice an2 v'.names.length cn2,.slice ai2 v'.items.length ci2,.map (some w2.heap.size),.int .i64 0] 152)):=((Below.refl _ _).alloc lz _).alloc (by simp) _
    exact {
     obj:=by
      have:=heap_alloc_new (w2.alloc (.map #[] 0)) (.cells #[.int .u8 v'.kind,.int .i64 v'.n,.string v'.t,.slice an2 v'.names.length cn2,.slice ai2 v'.items.length ci2,.map (some w2.heap.size),.int .i64 0] 152)
      rw [show (w2.alloc (.map #[] 0)).heap.size=w2.heap.size+1 by simp] at this
      exact this
     map:=⟨_,0,(World.ownsMap_made w2 _ _ _).alloc _,by omega,hQ.nil⟩
     rep:=HR2.out.below hbb lz lz lz
     pos:=by omega
     out:=⟨by omega,by omega⟩
     le:=hbb.size
     kind:=HWC.out.kind.trans HK.out
     rise:=by rw [HWC.out.names];exact HRS.out
     len:=by rw [HWC.out.names,HWC.out.len];exact HL.out
     wt:=Nat.le_trans HWC.out.wt hN }
end Go.Proofs.YthgembbgcbaghaaGreatDoor

namespace Go.Proofs.YthgembbgcbaghaaGreatDoor
open Go.RowKit
theorem vO {t:ByteArray} (h:t.toList=[]):t=⟨#[]⟩:=by
 rw [ByteArray.toList_eq] at h
 exact ff (by simpa using h)
theorem my {x:JV} (h:x.partB=true) (hk:x.kind=2):x=zh x.n:=by
 rw [JV.partB_eq,Bool.and_eq_true] at h
 obtain ⟨h1,-⟩:=h
 obtain ⟨k,n,t,ns,xs⟩:=x
 simp only [JV.kind,JV.n,JV.t,JV.names,JV.items] at h1 hk ⊢
 subst hk
 unfold qJ at h1
 rw [if_neg (by decide),if_pos rfl,decide_eq_true_eq] at h1
 obtain ⟨a,b,c⟩:=h1
 rw [vO a,List.eq_nil_of_length_eq_zero b,List.eq_nil_of_length_eq_zero c]
 rfl
theorem vK {x:JV} (h:x.partB=true) (hk:x.kind=3):x=txtJ x.t:=by
 rw [JV.partB_eq,Bool.and_eq_true] at h
 obtain ⟨h1,-⟩:=h
 obtain ⟨k,n,t,ns,xs⟩:=x
 simp only [JV.kind,JV.n,JV.t,JV.names,JV.items] at h1 hk ⊢
 subst hk
 unfold qJ at h1
 rw [if_neg (by decide),if_neg (by decide),if_pos rfl,Bool.and_eq_true,decide_eq_true_eq] at h1
 obtain ⟨⟨a,b,c⟩,-⟩:=h1
 rw [a,List.eq_nil_of_length_eq_zero b,List.eq_nil_of_length_eq_zero c]
 rfl
theorem kK {x:JV} (h:x.partB=true) (hk:x.kind=5):(x.n=0∧x.t=⟨#[]⟩)∧x.names.length=x.items.length∧qQ x.names=true∧∀y ∈ x.items,y.partB=true:=by
 rw [JV.partB_eq,Bool.and_eq_true] at h
 obtain ⟨h1,h2⟩:=h
 rw [hk] at h1
 unfold qJ at h1
 rw [if_neg (by decide),if_neg (by decide),if_neg (by decide),if_neg (by decide),if_pos rfl,Bool.and_eq_true,Bool.and_eq_true,decide_eq_true_eq] at h1
 obtain ⟨⟨⟨a,b,c⟩,d⟩,-⟩:=h1
 refine ⟨⟨a,vO b⟩,c,d,fun y hy=>?_⟩
 obtain ⟨i,hi,rfl⟩:=List.getElem_of_mem hy
 exact b9 _ i hi h2
theorem mg:∀(a b:List ByteArray),qQ a=true→qQ b=true→(∀x,x ∈ a↔x ∈ b)→a=b
 | [],[],_,_,_=>rfl
 | [],y :: b,_,_,h=>by have:=(h y).2 (List.mem_cons_self ..);cases this
 | x :: a,[],_,_,h=>by have:=(h x).1 (List.mem_cons_self ..);cases this
 | x :: a,y :: b,ha,hb,h=>by
  have hx:∀z ∈ a,bl x z=true:=fun z hz=>by
   obtain ⟨i,hi,rfl⟩:=List.getElem_of_mem hz
   exact vq ha i hi
  have hy:∀z ∈ b,bl y z=true:=fun z hz=>by
   obtain ⟨i,hi,rfl⟩:=List.getElem_of_mem hz
   exact vq hb i hi
  have e:x=y:=by
   rcases List.mem_cons.1 ((h x).1 (List.mem_cons_self ..)) with e|hxb
   · exact e
   · rcases List.mem_cons.1 ((h y).2 (List.mem_cons_self ..)) with e|hya
     · exact e.symm
     · have h1:=hy x hxb
       have h2:=hx y hya
       rw [yw h1] at h2;cases h2
  subst e
  rw [mg a b (wD ha) (wD hb) fun z=>?_]
  constructor
  · intro hz
    rcases List.mem_cons.1 ((h z).1 (List.mem_cons_of_mem _ hz)) with e|hzb
    · have:=hx z hz;rw [e,zt] at this;cases this
    · exact hzb
  · intro hz
    rcases List.mem_cons.1 ((h z).2 (List.mem_cons_of_mem _ hz)) with e|hza
    · have:=hy z hz;rw [e,zt] at this;cases this
    · exact hza
theorem zy:∀ {ns:List ByteArray} {xs:List JV} {y:ByteArray} {x:JV},qS ns xs y=some x→y ∈ ns∧x ∈ xs
 | n :: ns,z :: xs,y,x,h=>by
  rw [qS] at h
  split at h
  · rename_i e
    injection h with h
    subst h;subst e
    exact ⟨List.mem_cons_self ..,List.mem_cons_self ..⟩
  · have:=zy h
    exact ⟨List.mem_cons_of_mem _ this.1,List.mem_cons_of_mem _ this.2⟩
theorem pq {v:JV} {N:List NJ} (hk:v.kind=5) (hp:v.n=0∧v.t=⟨#[]⟩) (hr:qQ v.names=true) (hl:v.names.length=v.items.length) (hN:qQ (N.map (·.1))=true) (h1:∀x ∈ v.names,x ∈ N.map (·.1)) (h2:∀p ∈ N,v.look p.1=some p.2):v=xI N:=by
 have hn:v.names=N.map (·.1):=mg _ _ hr hN fun x=>⟨h1 x,fun hx=>by
  obtain ⟨p,hpN,rfl⟩:=List.mem_map.1 hx
  exact (zy (h2 p hpN)).1⟩
 have hi:v.items=N.map (·.2):=by
  apply List.ext_getElem
  · rw [← hl,hn];simp
  · intro i ha hb
    have hi:i<N.length:=by simpa using hb
    have e:=h2 N[i] (List.getElem_mem hi)
    have e2:v.names[i]'(by omega)=N[i].1:=by
     have:=List.getElem_of_eq hn (i:=i) (by omega)
     simpa using this
    rw [xG hr i (by omega) ha e2] at e
    simpa using Option.some.inj e
 obtain ⟨k,n,t,ns,xs⟩:=v
 simp only [JV.kind,JV.n,JV.t,JV.names,JV.items] at *
 rw [hk,hp.1,hp.2,hn,hi];rfl
def fl (v:JV):Prop:=v.kind=5∧(v.n=0∧v.t=⟨#[]⟩)∧qQ v.names=true∧v.names.length=v.items.length∧∀x ∈ v.items,x.partB=true∨x=qo
theorem pz {v:JV} (h:v.mayB=true) (hk:v.kind=5):fl v:=by
 rw [JV.mayB_iff] at h
 simp only [Bool.and_eq_true] at h
 obtain ⟨a,b,c,d⟩:=kK h.1.1 hk
 exact ⟨hk,a,c,b,fun x hx=>.inl (d x hx)⟩
theorem px {v v':JV} (hw:WeakCopy v v') (h:v.mayB=true) (hk:v.kind=5):fl v':=by
 obtain ⟨_,a,b,c,d⟩:=pz h hk
 refine ⟨hw.kind.trans hk,⟨hw.n.trans a.1,hw.t.trans a.2⟩,by rw [hw.names];exact b,by rw [hw.names,hw.len];exact c,fun x hx=>?_⟩
 obtain ⟨i,hi,rfl⟩:=List.getElem_of_mem hx
 have hi':i<v.items.length:=by rw [← hw.len];exact hi
 rcases hw.items i hi hi' with e|⟨e,_⟩
 · rw [e]
   rw [JV.mayB_iff] at h
   simp only [Bool.and_eq_true] at h
   exact .inl ((kK h.1.1 hk).2.2.2 _ (List.getElem_mem hi'))
 · exact .inr e
theorem th {v v':JV} (hw:WeakCopy v v') (h:∀x ∈ v'.items,x.kind≠0):v'=v:=by
 have hi:v'.items=v.items:=by
  apply List.ext_getElem hw.len
  intro i ha hb
  rcases hw.items i ha hb with e|⟨e,_⟩
  · exact e
  · exact absurd (by rw [e];rfl) (h _ (List.getElem_mem ha))
 have h1:=hw.kind;have h2:=hw.n;have h3:=hw.t;have h4:=hw.names
 obtain ⟨k,n,t,ns,xs⟩:=v
 obtain ⟨k',n',t',ns',xs'⟩:=v'
 simp only [JV.kind,JV.n,JV.t,JV.names,JV.items] at *
 rw [h1,h2,h3,h4,hi]
theorem kV {st:PS} {e:Int} (h:(st.fail e).err=0):st.err=0∧e=0∧st.fail e=⟨st.asked,0⟩:=by
 unfold PS.fail at h ⊢
 split at h
 · rename_i h0
   have he:e=0:=h
   rw [if_pos h0,he]
   exact ⟨h0,rfl,rfl⟩
 · rename_i h0
   exact absurd h h0
theorem gW {v:JV} {y:ByteArray} {lo hi:Int} {st:PS} (h:(qF v y lo hi st).2.err=0):st.err=0∧∃it,v.look y=some it∧it.kind=2∧(lo≤it.n∧it.n≤hi)∧qF v y lo hi st=(it.n,⟨y :: st.asked,0⟩):=by
 unfold qF at h ⊢
 split at h
 · rename_i h0;exact absurd h h0
 rename_i h0
 rw [if_neg h0]
 split at h
 · simp at h
 rename_i it hit
 split at h
 · simp at h
 rename_i h1
 split at h
 · simp at h
 rename_i h2
 exact ⟨by simpa using h0,it,hit,by simpa using h1,by omega,(if_neg h1).trans (if_neg h2)⟩
theorem yf {v:JV} {y:ByteArray} {st:PS} (h:(qp v y st).2.err=0):st.err=0∧∃it,v.look y=some it∧it.kind=3∧qp v y st=(it.t,⟨y :: st.asked,0⟩):=by
 unfold qp at h ⊢
 split at h
 · rename_i h0;exact absurd h h0
 rename_i h0
 rw [if_neg h0]
 split at h
 · simp at h
 rename_i it hit
 split at h
 · rename_i h1
   exact ⟨by simpa using h0,it,hit,h1,if_pos h1⟩
 · simp at h
theorem gY {v:JV} {y:ByteArray} {most:Nat} {st:PS} (h:(qr v y most st).2.err=0):st.err=0∧∃it,v.look y=some it∧it.kind=5∧it.items.length≤most∧qr v y most st=(it,⟨y :: st.asked,0⟩):=by
 unfold qr at h ⊢
 split at h
 · rename_i h0;exact absurd h h0
 rename_i h0
 rw [if_neg h0]
 split at h
 · simp at h
 rename_i it hit
 split at h
 · simp at h
 rename_i h1
 split at h
 · simp at h
 rename_i h2
 exact ⟨by simpa using h0,it,hit,by simpa using h1,by omega,(if_neg h1).trans (if_neg h2)⟩
theorem vv {v:JV} {st:PS} (h:qf v st=0):st.err=0∧∀n ∈ v.names,n ∈ st.asked:=by
 unfold qf at h
 split at h
 · rename_i h0;exact absurd h h0
 rename_i h0
 split at h
 · rename_i h1
   refine ⟨by simpa using h0,fun n hn=>?_⟩
   have:=List.all_eq_true.1 h1 n hn
   obtain ⟨a,ha,e⟩:=List.any_eq_true.1 this
   simp only [decide_eq_true_eq] at e
   rw [← e];exact ha
 · cases h
theorem sX {v:JV} (h:fl v) {y:ByteArray} {it:JV} (e:v.look y=some it) (hk:it.kind≠0):it.partB=true:=by
 rcases h.2.2.2.2 it (zy e).2 with h|h
 · exact h
 · exact absurd (by rw [h];rfl) hk
def zj (n:Nat):UInt8:=if n<10 then UInt8.ofNat (48+n) else UInt8.ofNat (87+n)
def xZ:List UInt8→List UInt8
 | []=>[]
 | c :: r=>zj (c.toNat / 16) :: zj (c.toNat % 16) :: xZ r
theorem pL (l m:List UInt8):xZ (l ++ m)=xZ l ++ xZ m:=by
 induction l with
 | nil=>rfl
 | cons c r ih=>simp [xZ,ih]
theorem pR (l:List UInt8):(xZ l).length=2 * l.length:=by
 induction l with
 | nil=>rfl
 | cons c r ih=>simp [xZ,ih];omega
def vw (l:List UInt8):List UInt8:=xZ (zF l)
theorem wZ (l:List UInt8):(vw l).length=64:=by unfold vw;rw [pR,jb]
theorem pj (n:Nat) (h:n<16):xO (zj n)=true:=by
 have:∀m:Fin 16,xO (zj m.val)=true:=by decide
 exact this ⟨n,h⟩
theorem pk:∀l:List UInt8,jx (xZ l)=true
 | []=>rfl
 | c :: r=>by
  have h:=pk r
  have hc:c.toNat<256:=c.toNat_lt
  unfold jx at h ⊢
  simp only [xZ,List.all_cons,Bool.and_eq_true]
  exact ⟨pj _ (by omega),pj _ (by omega),h⟩
theorem cO (l:List UInt8):jx (vw l)=true:=pk _
def zu:ByteArray:=⟨#[112,117,98,108,105,99]⟩
def schN:ByteArray:=⟨#[115,99,104,101,109,101]⟩
def jw (s t:ByteArray):JV:=.mk 5 0 ⟨#[]⟩ [zu,schN] [txtJ t,txtJ s]
theorem fs {s t:List UInt8} (h:zC s t=true):zi s=true∧gu t=true:=by
 unfold zC at h;simpa using h
theorem bj {s t:ByteArray} (h:zC s.data.toList t.data.toList=true):qY s=true∧qY t=true∧s.size≤64∧t.size≤128:=by
 obtain ⟨h1,h2⟩:=fs h
 have h3:=wL h1
 have h4:=fp h2
 rw [ql] at h3 h4
 exact ⟨zX h3.1 (by omega),zX h4.1 (by omega),h3.2.2,h4.2.2⟩
theorem py:qY zu=true∧qY schN=true∧qQ [zu,schN]=true:=by
 refine ⟨zX ?_ (by decide),zX ?_ (by decide),?_⟩
 · intro c hc;unfold xL;revert c;decide
 · intro c hc;unfold xL;revert c;decide
 · unfold qQ qQ;rw [ByteArray.toList_eq,ByteArray.toList_eq];decide
theorem mf (t:ByteArray) (h:qY t=true) (d:Nat) (l:Int) (hl:1≤l):(txtJ t).may d l=(true,l - 1):=by
 unfold txtJ
 rw [JV.may,if_neg (by omega)]
 have:qJ 3 0 t [] 0=true:=by unfold qJ;simp [h]
 rw [show ([]:List JV).length=0 from rfl,this]
 simp
theorem pg {s t:ByteArray} (h:zC s.data.toList t.data.toList=true):(jw s t).mayB=true:=by
 obtain ⟨h1,h2,_,_⟩:=bj h
 obtain ⟨n1,n2,n3⟩:=py
 unfold JV.mayB jw
 have hp:qJ 5 0 ⟨#[]⟩ [zu,schN] 2=true:=by
  unfold qJ
  rw [ByteArray.toList_eq]
  simp [n1,n2,n3]
 have hm:JV.mays [txtJ t,txtJ s] (12 - 1) (8192 - 1)=(true,8192 - 1 - 1 - 1):=by
  rw [JV.mays,mf t h2 _ _ (by omega),if_pos rfl,JV.mays,mf s h1 _ _ (by omega),if_pos rfl,JV.mays]
 rw [JV.may,if_neg (by omega),show ([txtJ t,txtJ s]:List JV).length=2 from rfl,hp,if_neg (by decide),if_neg (by decide),if_neg (by decide),hm]
theorem tu {s t:ByteArray} (hs:s.size≤4294967) (ht:t.size≤4294967):(jw s t).wt≤4294967296:=by
 unfold jw txtJ
 have e1:zu.size=6:=rfl
 have e2:schN.size=6:=rfl
 have e3:(⟨#[]⟩:ByteArray).size=0:=rfl
 simp only [JV.wt,JV.wts,qu]
 omega
def sJ:List UInt8:=[123,34,112,117,98,108,105,99,34,58,34]
def sK:List UInt8:=[34,44,34,115,99,104,101,109,101,34,58,34]
def j9 (s t:List UInt8):List UInt8:=sJ ++ (t ++ (sK ++ (s ++ [34,125])))
theorem mh (s t:List UInt8):(j9 s t).length=s.length+t.length+25:=by simp [j9,sJ,sK];omega
def jD (s t:List UInt8):List UInt8:=if zC s t then vw (j9 s t) else []
def q9 (v:JV):(ByteArray × ByteArray) × Int :=
 if v.mayB=false then ((⟨#[]⟩,⟨#[]⟩),3) else if v.kind≠5 then ((⟨#[]⟩,⟨#[]⟩),10) else
  if qf v (qp v schN (qp v zu ⟨[],0⟩).2).2≠0 then ((⟨#[]⟩,⟨#[]⟩),qf v (qp v schN (qp v zu ⟨[],0⟩).2).2) else
  if zC (qp v schN (qp v zu ⟨[],0⟩).2).1.data.toList (qp v zu ⟨[],0⟩).1.data.toList then (((qp v schN (qp v zu ⟨[],0⟩).2).1,(qp v zu ⟨[],0⟩).1),0) else ((⟨#[]⟩,⟨#[]⟩),3)
theorem cE:zu≠schN:=by decide
theorem sV (s t:ByteArray):(jw s t).look zu=some (txtJ t):=by
 unfold JV.look jw JV.names JV.items;simp [qS]
theorem sW (s t:ByteArray):(jw s t).look schN=some (txtJ s):=by
 unfold JV.look jw JV.names JV.items;simp [qS,cE]
theorem c8 {s t:ByteArray} (h:zC s.data.toList t.data.toList=true):q9 (jw s t)=((s,t),0):=by
 have h1:qp (jw s t) zu ⟨[],0⟩=(t,⟨[zu],0⟩):=by unfold qp;rw [if_neg (by simp),sV];rfl
 have h2:qp (jw s t) schN ⟨[zu],0⟩=(s,⟨[schN,zu],0⟩):=by unfold qp;rw [if_neg (by simp),sW];rfl
 have h3:qf (jw s t) ⟨[schN,zu],0⟩=0:=by
  unfold qf;rw [if_neg (by simp)]
  have:(jw s t).names=[zu,schN]:=rfl
  rw [this];simp
 unfold q9
 rw [if_neg (by rw [pg h];simp),if_neg (by show ¬(5:Int)≠5;simp),h1]
 simp only
 rw [h2]
 simp only
 rw [h3,if_neg (by simp),if_pos h]
def rk (s t:ByteArray):ByteArray:=⟨(jD s.data.toList t.data.toList).toArray⟩
def ok2 (k:Key2):Bool:=zC k.1.data.toList k.2.data.toList
def id2 (k:Key2):ByteArray:=rk k.1 k.2
def ids (l:List Key2):List ByteArray:=l.map id2
def obj2 (k:Key2):JV:=jw k.1 k.2
def zV (m:List Key2):JV:=.mk 5 0 ⟨#[]⟩ (m.map id2) (m.map obj2)
theorem gG {l:List ByteArray} (h:qQ l=true):l.Nodup:=by
 rw [List.Nodup,List.pairwise_iff_getElem]
 intro i j hi hj hij e
 have:=xC h i j hi hj hij
 rw [e,zt] at this;cases this
theorem mu {k:Key2}:(id2 k).size≤64:=by
 show (jD _ _).toArray.size≤64
 unfold jD
 split
 · rw [List.size_toArray,wZ];exact Nat.le_refl _
 · simp
theorem tc {k:Key2} (h:k.1.size≤300∧k.2.size≤300):(obj2 k).wt≤1000:=by
 unfold obj2 jw txtJ
 have e1:zu.size=6:=rfl
 have e2:schN.size=6:=rfl
 have e3:(⟨#[]⟩:ByteArray).size=0:=rfl
 simp only [JV.wt,JV.wts,qu]
 omega
theorem uk {m:List Key2} (hs:∀k ∈ m,k.1.size≤300∧k.2.size≤300):(zV m).wt≤1+1100 * m.length:=by
 have h1:∀m:List Key2,qu (m.map id2)≤65 * m.length:=fun m=>by
  induction m with
  | nil=>simp [qu]
  | cons k r ih=>have:=@mu k;simp only [List.map_cons,qu,List.length_cons];omega
 have h2:∀m:List Key2,(∀k ∈ m,k.1.size≤300∧k.2.size≤300)→JV.wts (m.map obj2)≤1000 * m.length:=fun m=>by
  induction m with
  | nil=>intro _;simp [JV.wts]
  | cons k r ih=>intro hs;have:=tc (hs k (by simp));have:=ih (fun k hk=>hs k (List.mem_cons_of_mem _ hk));simp only [List.map_cons,JV.wts,List.length_cons];omega
 have e3:(⟨#[]⟩:ByteArray).size=0:=rfl
 have:=h1 m
 have:=h2 m hs
 unfold zV
 simp only [JV.wt]
 omega
theorem ft {v:JV} (h:(q9 v).2=0):zC (q9 v).1.1.data.toList (q9 v).1.2.data.toList=true∧(q9 v).1.1.size≤64∧(q9 v).1.2.size≤128:=by
 have h2:zC (q9 v).1.1.data.toList (q9 v).1.2.data.toList=true:=by
  unfold q9 at h ⊢
  split at h
  · cases h
  next c1 =>
  rw [if_neg c1]
  split at h
  · cases h
  next c2 =>
  rw [if_neg c2]
  split at h
  · next c3=>exact absurd h c3
  next c3 =>
  rw [if_neg c3]
  split at h
  · next c4=>rw [if_pos c4];exact c4
  · cases h
 obtain ⟨_,_,a,b⟩:=bj h2
 exact ⟨h2,a,b⟩
def xo:List ByteArray→List JV→List Key2→List Key2 × Int
 | id :: ns,it :: its,acc=>if (q9 it).2≠0 then ([],(q9 it).2) else if (rk (q9 it).1.1 (q9 it).1.2).toList == id.toList then xo ns its (acc ++ [(q9 it).1]) else ([],3)
 | _,_,acc=>(acc,0)
def fi (r:Key2 × Int) (id:ByteArray) (ns:List ByteArray) (its:List JV) (acc:List Key2):List Key2 × Int :=
 if r.2≠0 then ([],r.2) else if (rk r.1.1 r.1.2).toList == id.toList then xo ns its (acc ++ [r.1]) else ([],3)
theorem rv (its:List JV) (acc:List Key2):xo [] its acc=(acc,0):=by
 unfold xo;rfl
theorem dq (ns:List ByteArray) (its:List JV) (k:Nat) (acc:List Key2) (h:k<ns.length) (h':k<its.length):xo (ns.drop k) (its.drop k) acc=fi (q9 its[k]) ns[k] (ns.drop (k+1)) (its.drop (k+1)) acc:=by
 rw [List.drop_eq_getElem_cons h,List.drop_eq_getElem_cons h',xo,fi]
def zH (v:JV):List Key2 × Int:=if v.mayB=false then ([],3) else if v.kind≠5 then ([],10) else if 32<v.names.length then ([],5) else xo v.names v.items []
theorem iV {t:ByteArray} (h:t.toList=[]):t=⟨#[]⟩:=ky (by rw [h,ByteArray.toList_eq])
theorem dO {n:Int} {t:ByteArray} {ns:List ByteArray} {li:Nat} (h:qJ 5 n t ns li=true):n=0∧t=⟨#[]⟩∧ns.length=li∧qQ ns=true∧ns.all qY=true:=by
 have e:qJ 5 n t ns li=(decide (n=0∧t.toList=[]∧ns.length=li) && qQ ns && ns.all qY):=rfl
 rw [e] at h
 simp only [Bool.and_eq_true,decide_eq_true_eq] at h
 exact ⟨h.1.1.1,iV h.1.1.2.1,h.1.1.2.2,h.1.2,h.2⟩
theorem vy:∀ {l:List JV},JV.partsB l=true→∀x ∈ l,JV.partB x=true
 | [],_,x,hx=>by simp at hx
 | y :: r,h,x,hx=>by
  rw [JV.partsB,Bool.and_eq_true] at h
  rcases List.mem_cons.1 hx with rfl|hx
  · exact h.1
  · exact vy h.2 x hx
theorem yh {v:JV} (h:v.mayB=true):v.partB=true:=by
 rw [JV.mayB_iff] at h
 simp only [Bool.and_eq_true] at h
 exact h.1.1
theorem ry {ns:List ByteArray} (hr:qQ ns=true) (hp:zu ∈ ns) (hs:schN ∈ ns) (ho:∀n ∈ ns,n=zu∨n=schN):ns=[zu,schN]:=by
 have hlt:bl schN zu=false:=by
  have:=py.2.2
  unfold qQ at this
  rw [Bool.and_eq_true] at this
  exact yw this.1
 have hnd:=gG hr
 match ns,hr,hp,hs,ho,hnd with
 | [],_,hp,_,_,_=>simp at hp
 | [a],_,hp,hs,_,_ =>
  simp at hp hs
  exact absurd (hp.trans hs.symm) cE
 | [a,b],hr,hp,hs,ho,hnd =>
  rcases ho a (by simp) with rfl|rfl <;> rcases ho b (by simp) with rfl|rfl
  · simp at hnd
  · rfl
  · unfold qQ at hr
    rw [Bool.and_eq_true] at hr
    have:=hr.1
    rw [show Op.bytesLess schN.toList zu.toList=bl schN zu from rfl,hlt] at this
    cases this
  · simp at hnd
 | a :: b :: c :: r,_,_,_,ho,hnd =>
  rcases ho a (by simp) with rfl|rfl <;> rcases ho b (by simp) with rfl|rfl <;> rcases ho c (by simp) with rfl|rfl <;> simp at hnd
theorem dz {v:JV} (h:(q9 v).2=0):v.mayB=true∧v=jw (q9 v).1.1 (q9 v).1.2:=by
 unfold q9 at h ⊢
 split at h
 · cases h
 next c1 =>
 rw [if_neg c1]
 split at h
 · cases h
 next c2 =>
 rw [if_neg c2]
 split at h
 · next c3=>exact absurd h c3
 next c3 =>
 rw [if_neg c3]
 split at h
 case isFalse=>cases h
 next c4 =>
 rw [if_pos c4]
 have hm:v.mayB=true:=by simpa using c1
 have hk:v.kind=5:=by simpa using c2
 refine ⟨hm,?_⟩
 have hpt:=yh hm
 replace c3:qf v (qp v schN (qp v zu ⟨[],0⟩).2).2=0:=by simpa using c3
 clear c4 c1 c2
 cases h1:v.look zu with
 | none =>
  have e1:qp v zu ⟨[],0⟩=(⟨#[]⟩,⟨[],6⟩):=by unfold qp;rw [if_neg (by simp),h1]
  have e2:qp v schN ⟨[],6⟩=(⟨#[]⟩,⟨[],6⟩):=by unfold qp;rw [if_pos (by simp)]
  rw [e1] at c3;simp only at c3;rw [e2] at c3;unfold qf at c3;rw [if_pos (by simp)] at c3;cases c3
 | some a =>
  by_cases ka:a.kind=3
  case neg =>
   have e1:qp v zu ⟨[],0⟩=(⟨#[]⟩,⟨[],10⟩):=by unfold qp;rw [if_neg (by simp),h1];simp only;rw [if_neg ka]
   have e2:qp v schN ⟨[],10⟩=(⟨#[]⟩,⟨[],10⟩):=by unfold qp;rw [if_pos (by simp)]
   rw [e1] at c3;simp only at c3;rw [e2] at c3;unfold qf at c3;rw [if_pos (by simp)] at c3;cases c3
  have e1:qp v zu ⟨[],0⟩=(a.t,⟨[zu],0⟩):=by unfold qp;rw [if_neg (by simp),h1];simp only;rw [if_pos ka]
  rw [e1] at c3 ⊢
  simp only at c3 ⊢
  cases h2:v.look schN with
  | none =>
   have e2:qp v schN ⟨[zu],0⟩=(⟨#[]⟩,⟨[zu],6⟩):=by unfold qp;rw [if_neg (by simp),h2]
   rw [e2] at c3;unfold qf at c3;rw [if_pos (by simp)] at c3;cases c3
  | some b =>
   by_cases kb:b.kind=3
   case neg =>
    have e2:qp v schN ⟨[zu],0⟩=(⟨#[]⟩,⟨[zu],10⟩):=by unfold qp;rw [if_neg (by simp),h2];simp only;rw [if_neg kb]
    rw [e2] at c3;unfold qf at c3;rw [if_pos (by simp)] at c3;cases c3
   have e2:qp v schN ⟨[zu],0⟩=(b.t,⟨[schN,zu],0⟩):=by unfold qp;rw [if_neg (by simp),h2];simp only;rw [if_pos kb]
   rw [e2] at c3 ⊢
   simp only at c3 ⊢
   unfold qf at c3
   rw [if_neg (by simp)] at c3
   have hall:v.names.all (fun n=>[schN,zu].any fun a=>decide (a=n))=true:=by
    split at c3
    · assumption
    · cases c3
   obtain ⟨k,n,t,ns,xs⟩:=v
   obtain rfl:k=5:=hk
   rw [JV.partB,Bool.and_eq_true] at hpt
   obtain ⟨rfl,rfl,hlen,hris,_⟩:=dO hpt.1
   have hal2:∀x ∈ ns,x=zu∨x=schN:=fun x hx=>by
    have:=List.all_eq_true.1 hall x hx
    simp at this
    rcases this with e|e
    · exact .inr e.symm
    · exact .inl e.symm
   obtain rfl:=ry hris (zy h1).1 (zy h2).1 hal2
   match xs,hlen with
   | [p,q],_ =>
    have w1:qS [zu,schN] [p,q] zu=some p:=by simp [qS]
    have w2:qS [zu,schN] [p,q] schN=some q:=by simp [qS,cE]
    obtain rfl:p=a:=Option.some.inj (w1.symm.trans h1)
    obtain rfl:q=b:=Option.some.inj (w2.symm.trans h2)
    have p1:=vK (vy hpt.2 p (by simp)) ka
    have p2:=vK (vy hpt.2 q (by simp)) kb
    unfold jw
    rw [← p1,← p2]
theorem iW {k:Key2} (h:ok2 k=true):qY (id2 k)=true:=by
 have e:(id2 k).data.toList=vw (j9 k.1.data.toList k.2.data.toList):=by
  show (jD _ _)=_
  unfold jD
  rw [if_pos (show zC k.1.data.toList k.2.data.toList=true from h)]
 refine zX ?_ (Nat.le_trans mu (by decide))
 rw [e]
 have:=cO (j9 k.1.data.toList k.2.data.toList)
 unfold jx at this
 exact fun c hc=>yS (List.all_eq_true.1 this c hc)
theorem mc {m:List Key2} (hok:∀k ∈ m,ok2 k=true) (hr:qQ (ids m)=true) (hl:m.length≤32):(zV m).mayB=true:=by
 rw [JV.mayB_iff]
 have hp:∀m:List Key2,(∀k ∈ m,ok2 k=true)→JV.partsB (m.map obj2)=true:=fun m=>by
  induction m with
  | nil=>intro _;rfl
  | cons k r ih =>
   intro h
   rw [List.map_cons,JV.partsB,Bool.and_eq_true]
   exact ⟨yh (pg (h k (by simp))),ih fun x hx=>h x (List.mem_cons_of_mem _ hx)⟩
 have hc:∀m:List Key2,JV.counts (m.map obj2)=3 * m.length:=fun m=>by
  induction m with
  | nil=>rfl
  | cons k r ih =>
   have:JV.count (obj2 k)=3:=rfl
   rw [List.map_cons,JV.counts,ih,this,List.length_cons];omega
 have hd:∀m:List Key2,JV.depths (m.map obj2)≤1:=fun m=>by
  induction m with
  | nil=>exact Nat.zero_le _
  | cons k r ih =>
   have:JV.depth (obj2 k)=1:=rfl
   rw [List.map_cons,JV.depths,this];omega
 have h1:(zV m).partB=true:=by
  unfold zV
  rw [JV.partB,hp m hok]
  have:qJ 5 0 ⟨#[]⟩ (m.map id2) (m.map obj2).length=(decide ((0:Int)=0∧(⟨#[]⟩:ByteArray).toList=[]∧(m.map id2).length=(m.map obj2).length) && qQ (m.map id2) && (m.map id2).all qY):=rfl
  rw [this,show qQ (m.map id2)=true from hr,ByteArray.toList_eq]
  have h2:(m.map id2).all qY=true:=by
   rw [List.all_eq_true]
   intro x hx
   obtain ⟨k,hk,rfl⟩:=List.mem_map.1 hx
   exact iW (hok k hk)
  rw [h2]
  simp
 have h2:(zV m).count≤8192:=by unfold zV;rw [JV.count,hc];omega
 have h3:(zV m).depth≤12:=by
  unfold zV;rw [JV.depth,if_neg (by simp)];have:=hd m;omega
 rw [h1]
 simp [h2,h3]
theorem fe:∀(m:List Key2) (acc:List Key2),(∀k ∈ m,ok2 k=true)→xo (m.map id2) (m.map obj2) acc=(acc ++ m,0)
 | [],acc,_=>by simp [xo]
 | k :: r,acc,h=>by
  have e:=c8 (s:=k.1) (t:=k.2) (h k (by simp))
  rw [List.map_cons,List.map_cons,xo,show obj2 k=jw k.1 k.2 from rfl,e]
  simp only
  rw [if_neg (by simp),if_pos (by simp [id2]),fe r _ fun x hx=>h x (List.mem_cons_of_mem _ hx)]
  simp
theorem fQ {m:List Key2} (hok:∀k ∈ m,ok2 k=true) (hr:qQ (ids m)=true) (hl:m.length≤32):zH (zV m)=(m,0):=by
 unfold zH
 rw [if_neg (by rw [mc hok hr hl];simp),if_neg (by show ¬(5:Int)≠5;simp),if_neg (by show ¬32<(m.map id2).length;simp;omega)]
 show xo (m.map id2) (m.map obj2) []=_
 rw [fe m [] hok,List.nil_append]
theorem pp:∀(ns:List ByteArray) (its:List JV) (acc:List Key2),ns.length=its.length→(xo ns its acc).2=0→∃m:List Key2,(xo ns its acc).1=acc ++ m∧ns=m.map id2∧its=m.map obj2∧∀k ∈ m,ok2 k=true
 | [],[],acc,_,_=>⟨[],by simp [xo]⟩
 | id :: ns,it :: its,acc,hl,h=>by
  rw [xo] at h ⊢
  split at h
  · next c=>exact absurd h c
  next c =>
  rw [if_neg c]
  split at h
  case isFalse=>cases h
  next c2 =>
  rw [if_pos c2]
  obtain ⟨m,e1,e2,e3,e4⟩:=pp ns its _ (by simpa using hl) h
  have c':(q9 it).2=0:=by simpa using c
  obtain ⟨_,hb⟩:=dz c'
  obtain ⟨hok,_,_⟩:=ft c'
  refine ⟨(q9 it).1 :: m,by rw [e1];simp,?_,?_,?_⟩
  · rw [List.map_cons,← e2]
    congr 1
    exact (ky (eq_of_beq c2)).symm
  · rw [List.map_cons,← e3]
    congr 1
  · intro k hk
    rcases List.mem_cons.1 hk with rfl|hk
    · exact hok
    · exact e4 k hk
theorem dx {v:JV} (h:(zH v).2=0):v=zV (zH v).1∧(∀k ∈ (zH v).1,ok2 k=true)∧qQ (ids (zH v).1)=true∧(zH v).1.length≤32:=by
 unfold zH at h ⊢
 split at h
 · cases h
 next c1 =>
 rw [if_neg c1]
 split at h
 · cases h
 next c2 =>
 rw [if_neg c2]
 split at h
 · cases h
 next c3 =>
 rw [if_neg c3]
 have hm:v.mayB=true:=by simpa using c1
 have hk:v.kind=5:=by simpa using c2
 have hpt:=yh hm
 obtain ⟨k,n,t,ns,xs⟩:=v
 obtain rfl:k=5:=hk
 rw [JV.partB,Bool.and_eq_true] at hpt
 obtain ⟨rfl,rfl,hlen,hris,_⟩:=dO hpt.1
 obtain ⟨m,e1,e2,e3,e4⟩:=pp ns xs [] hlen h
 have e1':(xo (JV.names (.mk 5 0 ⟨#[]⟩ ns xs)) (JV.items (.mk 5 0 ⟨#[]⟩ ns xs)) []).1=m:=by
  show (xo ns xs []).1=m
  rw [e1,List.nil_append]
 rw [e1']
 refine ⟨by unfold zV;rw [← e2,← e3],e4,by unfold ids;rw [← e2];exact hris,?_⟩
 have:ns.length=m.length:=by rw [e2,List.length_map]
 have c3':¬32<ns.length:=c3
 omega
theorem yu {k:Key2} (h:ok2 k=true):k.1.size≤300∧k.2.size≤300:=by
 obtain ⟨_,_,a,b⟩:=bj h
 omega
end Go.Proofs.YthgembbgcbaghaaGreatDoor

namespace Go.Proofs.YthgembbgcbaghaaGreatDoor
open Go.RowKit Go.Shelf Go.Sort
theorem iY (t s:ByteArray) (w:World) (T:Nat) (ht:t.size≤4294967000) (hs:s.size≤4294967000) :
 Calls Tryz.prog 150 #[.slice (some ⟨w.heap.size,0,none⟩) 2 2] (w.alloc (.cells #[.string ⟨#[112,117,98,108,105,99]⟩,.int .u8 3,.int .i64 0,.string t,.slice none 0 0,.slice none 0 0,.string ⟨#[115,99,104,101,109,101]⟩,.int .u8 3,.int .i64 0,.string s,.slice none 0 0,.slice none 0 0] T))
  (yg [zu,schN] [txtJ t,txtJ s] (w.alloc (.cells #[.string ⟨#[112,117,98,108,105,99]⟩,.int .u8 3,.int .i64 0,.string t,.slice none 0 0,.slice none 0 0,.string ⟨#[115,99,104,101,109,101]⟩,.int .u8 3,.int .i64 0,.string s,.slice none 0 0,.slice none 0 0] T))):=by
 have:=h9 #[jM zu t,jM schN s] #[jM zu t,jM schN s] [txtJ t,txtJ s] w.heap.size 0 2 (w.alloc (.cells #[.string ⟨#[112,117,98,108,105,99]⟩,.int .u8 3,.int .i64 0,.string t,.slice none 0 0,.slice none 0 0,.string ⟨#[115,99,104,101,109,101]⟩,.int .u8 3,.int .i64 0,.string s,.slice none 0 0,.slice none 0 0] T)) 0 0 ?_ (by simp) (by simp) ?_ rfl ?_ ?_ (by simp)
 · exact this
 · exact cT (T:=T) (by rw [heap_alloc_new,sy];rfl)
 · refine cL _ _ _ fun j hj=>?_
   obtain rfl:j=0:=by simp at hj;omega
   show ltOf cfM (jM schN s) (jM zu t)=false
   show decide (Lib.compareBytes schN.data.toList zu.data.toList<0)=false
   decide
 · intro i hi
   match i,hi with
   | 0,_=>exact ⟨yb _ _ _ _,by simp [txtJ,JV.wt,JV.wts,qu];omega,fun k h=>by simp [txtJ,JV.items] at h⟩
   | 1,_=>exact ⟨yb _ _ _ _,by simp [txtJ,JV.wt,JV.wts,qu];omega,fun k h=>by simp [txtJ,JV.items] at h⟩
 · intro i hi
   obtain rfl:i=0:=by simp at hi;omega
   show zu≠schN
   decide
def dj (s t:ByteArray) (w:World) (e:Ending) (w':World):Prop :=
 ∃an cn ai ci,e=.returned (.tuple #[.agg #[.int .u8 5,.int .i64 0,.string ⟨#[]⟩,.slice an 2 cn,.slice ai 2 ci],.int .i64 0]) ∧
  Rep w' w.heap.size w'.heap.size (jw s t) (.agg #[.int .u8 5,.int .i64 0,.string ⟨#[]⟩,.slice an 2 cn,.slice ai 2 ci])∧Below w.heap.size w w'
set_option maxHeartbeats 400000 in
set_option maxRecDepth 100000 in
theorem ml (s t:ByteArray) (w:World) (hs:s.size≤4294967000) (ht:t.size≤4294967000) (hk:zC s.data.toList t.data.toList=false) :
 Calls Tryz.prog 152 #[.agg #[.string s,.string t]] w fun e w'=>e=.returned (.tuple #[zeroAgg,.int .i64 3])∧Below w.heap.size w w':=by
 have HM:=Lh (cD s t ((w.alloc (.cells #[.string s,.string t] 43)).alloc (.cells #[.int .u8 0,.int .i64 0,.string ⟨#[]⟩,.slice none 0 0,.slice none 0 0] 25)) (by omega) (by omega))
 rw [hk] at HM
 have hr0:=qi (w.alloc (.cells #[.string s,.string t] 43)) (.int .u8 0) (.int .i64 0) (.string ⟨#[]⟩) (.slice none 0 0) (.slice none 0 0) 25
 rw [show (w.alloc (.cells #[.string s,.string t] 43)).heap.size=w.heap.size+1 by simp] at hr0
 have HR0:=Lh hr0
 have HB0:=Lh (show Below w.heap.size w ((w.alloc (.cells #[.string s,.string t] 43)).alloc (.cells #[.int .u8 0,.int .i64 0,.string ⟨#[]⟩,.slice none 0 0,.slice none 0 0] 25)) from ((Below.refl _ _).alloc lz _).alloc (by simp) _)
 clear hk hr0
 go_enter Tryz.func152,Tryz.ntmps152
 go_wp2_with fail
 refine HM.out.mono ?_
 rintro e w1 ⟨rfl,hb1⟩
 have hres:=qj hb1 HR0.out (by simp)
 have HRS:=Lh hres
 have HB1:=Lh (HB0.out.trans (hb1.mono (by simp;omega)))
 obtain ⟨t0,t1,t2,t3,t4⟩:=rc5 hres
 obtain ⟨s0,s1,s2,s3,s4⟩:=rf5 hres
 simp only [qW] at t0 t1 t2 t3 t4
 clear hres hb1
 go_wp2
 exact bodyPost_ret (qw Tryz.results152 _ _ (w.heap.size+1) 25 _ (0,0) _ rfl (qG (set5 _ _ _ _ _ HRS.out)) Tryz.underlying25 rfl (by kernel_rfl) _ rfl) rfl ⟨rfl,ze _ _ _ _ _ HB1.out (by omega)⟩
set_option maxHeartbeats 1000000 in
set_option maxRecDepth 100000 in
theorem ym (s t:ByteArray) (w:World) (hs:s.size≤4294967000) (ht:t.size≤4294967000) (hk:zC s.data.toList t.data.toList=true) :
 Calls Tryz.prog 152 #[.agg #[.string s,.string t]] w (dj s t w):=by
 have HM:=Lh (cD s t ((w.alloc (.cells #[.string s,.string t] 43)).alloc (.cells #[.int .u8 0,.int .i64 0,.string ⟨#[]⟩,.slice none 0 0,.slice none 0 0] 25)) (by omega) (by omega))
 rw [hk] at HM
 have hr0:=qi (w.alloc (.cells #[.string s,.string t] 43)) (.int .u8 0) (.int .i64 0) (.string ⟨#[]⟩) (.slice none 0 0) (.slice none 0 0) 25
 rw [show (w.alloc (.cells #[.string s,.string t] 43)).heap.size=w.heap.size+1 by simp] at hr0
 have HR0:=Lh hr0
 have HB0:=Lh (show Below w.heap.size w ((w.alloc (.cells #[.string s,.string t] 43)).alloc (.cells #[.int .u8 0,.int .i64 0,.string ⟨#[]⟩,.slice none 0 0,.slice none 0 0] 25)) from ((Below.refl _ _).alloc lz _).alloc (by simp) _)
 have HX0:=Lh (show ((w.alloc (.cells #[.string s,.string t] 43)).alloc (.cells #[.int .u8 0,.int .i64 0,.string ⟨#[]⟩,.slice none 0 0,.slice none 0 0] 25)).heap[w.heap.size]?=some (.cells #[.string s,.string t] 43 (0,0)) by rw [Below.heap_alloc _ _ _ (by simp)];exact heap_alloc_new w _)
 clear hk hr0
 go_enter Tryz.func152,Tryz.ntmps152
 go_wp2_with fail
 refine HM.out.mono ?_
 clear HM
 rintro e w1 ⟨rfl,hb1⟩
 have HRS:=Lh (qj hb1 HR0.out (by simp))
 have hz1:w.heap.size+2≤w1.heap.size:=by have:=hb1.size;simp at this;omega
 have hx1:w1.heap[w.heap.size]?=some (.cells #[.string s,.string t] 43 (0,0)):=by rw [hb1.block _ (by simp;omega)];exact HX0.out
 have HX1:=Lh hx1
 have HB1:=Lh (HB0.out.trans (hb1.mono (by simp;omega)))
 clear hb1 hx1 HX0 HB0 HR0
 have HC:=Lh (show ∀w':World,Below w1.heap.size w1 w'→w'.cell? ⟨w.heap.size,0,none⟩=some (.string s)∧w'.cell? ⟨w.heap.size,1,none⟩=some (.string t)∧w.heap.size<w'.heap.size from fun w' h=>by
  have:=h.size
  exact ⟨by rw [h.cell (by show w.heap.size<_;omega)];simp [World.cell?,HX1.out],by rw [h.cell (by show w.heap.size<_;omega)];simp [World.cell?,HX1.out],by omega⟩)
 have HT:=Lh (show ∀(u:ByteArray) (w':World),Below w1.heap.size w1 w'→Calls Tryz.prog 201 #[.string u] w' (fun e w''=>e=.returned (.agg #[.int .u8 3,.int .i64 0,.string u,.slice none 0 0,.slice none 0 0])∧Below w1.heap.size w1 w''∧w''.cell? ⟨w.heap.size,0,none⟩=some (.string s)∧w''.cell? ⟨w.heap.size,1,none⟩=some (.string t)∧w.heap.size<w''.heap.size) from fun u w' h=>by
  refine (vx u w').mono ?_
  rintro e w'' ⟨rfl,rfl⟩
  have hb:Below w1.heap.size w1 (w'.alloc (.cells #[.int .u8 3,.int .i64 0,.string u,.slice none 0 0,.slice none 0 0] 25)):=h.alloc h.size _
  exact ⟨rfl,hb,HC.out _ hb⟩)
 have HO:=Lh (show ∀(w':World),Below w1.heap.size w1 w'→Calls Tryz.prog 150 #[.slice (some ⟨w'.heap.size,0,none⟩) 2 2] (w'.alloc (.cells #[.string ⟨#[112,117,98,108,105,99]⟩,.int .u8 3,.int .i64 0,.string t,.slice none 0 0,.slice none 0 0,.string ⟨#[115,99,104,101,109,101]⟩,.int .u8 3,.int .i64 0,.string s,.slice none 0 0,.slice none 0 0] 169)) (fun e w''=>∃an cn ai ci,e=.returned (.tuple #[.agg #[.int .u8 5,.int .i64 0,.string ⟨#[]⟩,.slice an 2 cn,.slice ai 2 ci],.int .i64 0])∧Rep w'' w1.heap.size w''.heap.size (jw s t) (.agg #[.int .u8 5,.int .i64 0,.string ⟨#[]⟩,.slice an 2 cn,.slice ai 2 ci])∧Below w1.heap.size w1 w''∧w''.cell? ⟨w.heap.size,0,none⟩=some (.string s)∧w''.cell? ⟨w.heap.size,1,none⟩=some (.string t)∧w''.rowIs (w.heap.size+1) 25 5 (qW (.int .u8 0) (.int .i64 0) (.string ⟨#[]⟩) (.slice none 0 0) (.slice none 0 0))) from fun w' h=>by
  refine (iY t s w' _ ht hs).mono ?_
  rintro e w'' ⟨an,cn,ai,ci,rfl,hr,hb⟩
  have hb2:Below w1.heap.size w1 w'':=(h.alloc h.size _).trans (hb.mono (by have:=h.size;simp;omega))
  have hc:=HC.out _ hb2
  exact ⟨an,cn,ai,ci,rfl,Rep.carry (by have:=h.size;simp;omega) lz (fun _ _ _=>rfl) _ _ hr,hb2,hc.1,hc.2.1,qj hb2 HRS.out (by omega)⟩)
 have hbz:Below w1.heap.size w1 w1.drew:=(Below.refl _ _).drew
 obtain ⟨q0,q1,hzq⟩:=HC.out w1 (Below.refl _ _)
 go_wp2_with fail
 go_region_held3 (fun w'=>w'.cell? ⟨w.heap.size,0,none⟩=some (.string s)∧w'.cell? ⟨w.heap.size,1,none⟩=some (.string t)) (first|(with_reducible exact ⟨q0,q1⟩)|(with_reducible exact ⟨(qt _ hzq).trans q0,(qt _ hzq).trans q1⟩)|(go_keep;done)) (first|(go_at_call 201;(with_reducible refine (HT.out _ _ hbz).mono ?_);rintro e w2 ⟨rfl,hbz,q0,q1,hzq⟩)|(go_at_call 150;(with_reducible refine (HO.out _ hbz).mono ?_);rintro e w5 ⟨an,cn,ai,ci,rfl,hr5,hb5,q0,q1,hres⟩;obtain ⟨t0,t1,t2,t3,t4⟩:=rc5 hres;obtain ⟨s0,s1,s2,s3,s4⟩:=rf5 hres;have HRS5:=Lh hres;have HR5:=Lh hr5;have HB5:=Lh hb5;clear hres hr5 hb5;simp only [qW] at t0 t1 t2 t3 t4))
 go_wp2
 refine bodyPost_ret (qw Tryz.results152 _ _ (w.heap.size+1) 25 _ (0,0) _ rfl (qG (set5 _ _ _ _ _ HRS5.out)) Tryz.underlying25 rfl (by kernel_rfl) _ rfl) rfl ⟨an,cn,ai,ci,rfl,?_,ze _ _ _ _ _ (HB1.out.trans (HB5.out.mono (by omega))) (by omega)⟩
 exact Rep.carry (by omega) (show w5.heap.size≤_ by simp [World.setCell]) (fun j hj _=>jV _ _ _ _ _ (by omega)) _ _ HR5.out
end Go.Proofs.YthgembbgcbaghaaGreatDoor

namespace Go.Proofs.YthgembbgcbaghaaGreatDoor
open Go.RowKit
theorem pf (l:List UInt8) (h:∀c ∈ l,xL c):yy l=l:=by
 induction l with
 | nil=>rfl
 | cons c r ih =>
  have hc:=h c (by simp)
  have e:yy (c :: r)=bD c ++ yy r:=by simp [yy]
  rw [e,ih fun d hd=>h d (by simp [hd])]
  unfold bD xL at *
  rw [if_neg (by omega)];rfl
theorem rg {s t:ByteArray} (h:zC s.data.toList t.data.toList=true):(jw s t).form false:=by
 obtain ⟨h1,h2,_,_⟩:=bj h
 obtain ⟨n1,n2,n3⟩:=py
 have e:∀i (hi:i < [zu,schN].length),qY [zu,schN][i]=true:=fun i hi=>by
  match i,hi with
  | 0,_=>exact n1
  | 1,_=>exact n2
 unfold jw JV.form
 refine ⟨.inr (.inr (.inr (.inr ⟨rfl,rfl,e⟩))),?_⟩
 unfold JV.forms JV.forms JV.forms
 unfold txtJ JV.form
 exact ⟨⟨.inr (.inr (.inl ⟨rfl,h2⟩)),by unfold JV.forms;trivial⟩,⟨.inr (.inr (.inl ⟨rfl,h1⟩)),by unfold JV.forms;trivial⟩,trivial⟩
theorem sY {s t:ByteArray} (h:zC s.data.toList t.data.toList=true):(jw s t).enc=j9 s.data.toList t.data.toList:=by
 obtain ⟨h1,h2⟩:=fs h
 have e1:=pf _ (wL h1).1
 have e2:=pf _ (fp h2).1
 have e3:xQ zu.data.toList=[34,112,117,98,108,105,99,34]:=by decide
 have e4:xQ schN.data.toList=[34,115,99,104,101,109,101,34]:=by decide
 unfold jw txtJ
 simp [JV.enc,JV.encO,sep,e3,e4,j9,sJ,sK]
 simp [xQ,e1,e2]
structure AuthV where
 thr:Int
 ids:List ByteArray
deriving DecidableEq
def authZ:AuthV:=⟨0,[]⟩
def xf (a:AuthV):Bool:=js a.thr a.ids
def qy:ByteArray:=⟨#[107,101,121,105,100,115]⟩
def thrN:ByteArray:=⟨#[116,104,114,101,115,104,111,108,100]⟩
def zG (l:List JV):JV:=.mk 4 0 ⟨#[]⟩ [] l
def qh (l:List ByteArray):JV:=zG (l.map txtJ)
def qv (v:JV) (y:ByteArray) (most:Nat) (st:PS):List ByteArray × PS :=
 if st.err≠0 then ([],st) else match v.look y with
 | none=>([],⟨st.asked,6⟩)
 | some it=>if it.kind≠4 then ([],⟨st.asked,10⟩) else if most<it.items.length then ([],⟨st.asked,5⟩) else if it.items.all (fun x=>decide (x.kind=3)) then (it.items.map JV.t,⟨y :: st.asked,0⟩) else ([],⟨st.asked,10⟩)
def jm (v:JV) (st:PS):PS:=(if (qv v qy 16 st).1=[] then (qv v qy 16 st).2.fail 4 else (qv v qy 16 st).2).fail (zO [] (qv v qy 16 st).1)
def kW (v:JV) (st:PS):Int × PS:=qF v thrN 1 ((qv v qy 16 st).1.length:Int) (jm v st)
def xe (v:JV) (st:PS):AuthV × PS:=(if (kW v st).2.err≠0 then authZ else ⟨(kW v st).1,(qv v qy 16 st).1⟩,(kW v st).2)
theorem ph {l:List JV} (h:∀x ∈ l,x.partB=true):(zG l).partB=true:=by
 rw [JV.partB_eq]
 show (qJ 4 0 ⟨#[]⟩ [] l.length && JV.partsB l)=true
 rw [yT l h]
 unfold qJ
 rw [if_neg (by decide),if_neg (by decide),if_neg (by decide),if_pos rfl]
 have h2:(⟨#[]⟩:ByteArray).toList=[]:=by rw [ByteArray.toList_eq]
 simp [h2]
theorem xk {a:AuthV} (h:xf a=true):(1≤a.ids.length∧a.ids.length≤16)∧(1≤a.thr∧a.thr≤a.ids.length)∧zO [] a.ids=0:=by
 unfold xf js at h
 simp only [Bool.and_eq_true,decide_eq_true_eq] at h
 exact ⟨⟨h.1.1,h.1.2.1⟩,h.1.2.2,h.2⟩
theorem jy:∀(l seen:List ByteArray),zO seen l=0→∀x ∈ l,gJ x=true
 | [],_,_,x,hx=>by simp at hx
 | y :: r,seen,h,x,hx=>by
  unfold zO at h
  split at h
  · rename_i h1
    split at h
    · cases h
    · rcases List.mem_cons.1 hx with e|e
      · rw [e];exact h1
      · exact jy r _ h x e
  · cases h
theorem kY {x:ByteArray} (h:gJ x=true):qY x=true∧x.size=64:=by
 unfold gJ at h
 simp only [Bool.and_eq_true,decide_eq_true_eq] at h
 refine ⟨zX ?_ (by omega),h.1⟩
 intro c hc
 have h2:=List.all_eq_true.1 (by unfold jx at h;exact h.2) c hc
 unfold xO at h2
 unfold xL
 simp at h2 ⊢
 omega
theorem vg {v:JV} {y:ByteArray} {l:List ByteArray} {most:Nat} {a:List ByteArray} (h:v.look y=some (qh l)) (hl:l.length≤most):qv v y most ⟨a,0⟩=(l,⟨y :: a,0⟩):=by
 unfold qv
 rw [if_neg (by simp),h]
 show (if (qh l).kind≠4 then _ else _:List ByteArray × PS)=_
 have hi:(qh l).items=l.map txtJ:=rfl
 rw [if_neg (by simp [qh,zG,JV.kind]),hi,if_neg (by rw [List.length_map];omega),if_pos (by simp [txtJ,JV.kind])]
 have hm:(l.map txtJ).map JV.t=l:=by rw [List.map_map];exact (List.map_congr_left fun x _=>rfl).trans (List.map_id l)
 rw [hm]
theorem kf {v:JV} {y:ByteArray} {most:Nat} {st:PS} (h:(qv v y most st).2.err=0):st.err=0∧∃it,v.look y=some it∧it.kind=4∧it.items.length≤most∧(∀x ∈ it.items,x.kind=3)∧qv v y most st=(it.items.map JV.t,⟨y :: st.asked,0⟩):=by
 unfold qv at h ⊢
 split at h
 · rename_i h0;exact absurd h h0
 · rename_i h0
   rw [if_neg h0]
   refine ⟨by simpa using h0,?_⟩
   cases hl:v.look y with
   | none=>rw [hl] at h;simp at h
   | some it =>
    rw [hl] at h
    dsimp only at h ⊢
    split at h
    · simp at h
    · rename_i h1
      split at h
      · simp at h
      · rename_i h2
        split at h
        · rename_i h3
          rw [if_neg h1,if_neg h2,if_pos h3]
          exact ⟨it,rfl,by simpa using h1,by omega,fun x hx=>by simpa using List.all_eq_true.1 h3 x hx,rfl⟩
        · simp at h
theorem fZ {x:JV} (h:x.partB=true) (hk:x.kind=4):x=zG x.items∧∀y ∈ x.items,y.partB=true:=by
 rw [JV.partB_eq,Bool.and_eq_true] at h
 obtain ⟨h1,h2⟩:=h
 refine ⟨?_,fun y hy=>by obtain ⟨i,hi,rfl⟩:=List.getElem_of_mem hy;exact b9 _ i hi h2⟩
 clear h2
 obtain ⟨k,n,t,ns,xs⟩:=x
 simp only [JV.kind,JV.n,JV.t,JV.names,JV.items] at h1 hk ⊢
 subst hk
 unfold qJ at h1
 rw [if_neg (by decide),if_neg (by decide),if_neg (by decide),if_pos rfl,decide_eq_true_eq] at h1
 obtain ⟨a,b,c⟩:=h1
 rw [a,vO b,List.eq_nil_of_length_eq_zero c]
 rfl
def mr:ByteArray:=⟨#[114,111,111,116]⟩
structure Auth3 where
 a:AuthV
 b:AuthV
 c:AuthV
deriving DecidableEq
structure RootV where
 ver:Int
 exp:Int
 keys:List Key2
 au:Auth3
deriving DecidableEq
def qL:ByteArray:=⟨#[107,101,121,115]⟩
def xa:ByteArray:=⟨#[114,111,108,101,115]⟩
def zc (l:List Key2):Bool:=decide (l.length≤32) && l.all ok2 && qQ (ids l)
theorem dk:qQ [lT,lI,qL,xa,lA]=true∧(qY lT=true∧qY lI=true∧qY qL=true∧qY xa=true∧qY lA=true)∧(lT≠lI∧lT≠qL∧lT≠xa∧lT≠lA∧lI≠qL∧lI≠xa∧lI≠lA∧qL≠xa∧qL≠lA∧xa≠lA):=by
 refine ⟨by kernel_rfl,⟨?_,?_,?_,?_,?_⟩,by decide⟩
 all_goals
  refine zX ?_ (by decide)
  intro c hc
  unfold xL
  revert c
  decide
theorem zk {l:List Key2}:zc l=true↔l.length≤32∧(∀k ∈ l,ok2 k=true)∧qQ (ids l)=true:=by
 unfold zc
 simp only [Bool.and_eq_true,decide_eq_true_eq,List.all_eq_true]
 exact ⟨fun h=>⟨h.1.1,h.1.2,h.2⟩,fun h=>⟨⟨h.1,h.2.1⟩,h.2.2⟩⟩
theorem td {l:List Key2} (h:zc l=true):(zV l).partB=true∧(zV l).count≤130∧(zV l).depth≤3:=by
 obtain ⟨h1,h2,h3⟩:=zk.1 h
 refine ⟨yh (mc h2 h3 h1),?_,?_⟩
 · rw [JV.count_eq]
   have:=counts_le 3 (l.map obj2) fun x hx=>by obtain ⟨k,_,rfl⟩:=List.mem_map.1 hx;exact Nat.le_refl 3
   rw [List.length_map] at this
   show 1+JV.counts (l.map obj2)≤_
   omega
 · rw [JV.depth_eq]
   have:=jC 1 (l.map obj2) fun x hx=>by obtain ⟨k,_,rfl⟩:=List.mem_map.1 hx;exact Nat.le_refl 1
   rw [if_neg (by simp [zV,JV.kind])]
   show JV.depths (l.map obj2)+1≤_
   omega
theorem tl {N:List NJ} (hr:qQ (N.map (·.1))=true) (hl:N.length≤6) (hp:∀p ∈ N,qY p.1=true∧p.2.partB=true∧p.2.count≤130∧p.2.depth≤3):(xI N).mayB=true:=by
 have h1:=vI ⟨hr,fun p h=>⟨(hp p h).1,(hp p h).2.1⟩⟩
 have h2:=bS 130 fun p h=>(hp p h).2.2.1
 have h3:=vk 3 fun p h=>(hp p h).2.2.2
 have h4:N.length * 130≤6 * 130:=Nat.mul_le_mul_right _ hl
 rw [JV.mayB_iff,h1,decide_eq_true (by omega),decide_eq_true (by omega)];rfl
theorem wR {v it:JV} {y:ByteArray} {most:Nat} {a:List ByteArray} (h:v.look y=some it) (hk:it.kind=5) (hl:it.items.length≤most):qr v y most ⟨a,0⟩=(it,⟨y :: a,0⟩):=by
 unfold qr
 rw [if_neg (by simp),h]
 show (if it.kind≠5 then _ else if most<it.items.length then _ else _:JV × PS)=_
 rw [if_neg (by simp [hk]),if_neg (by omega)]
end Go.Proofs.YthgembbgcbaghaaGreatDoor
