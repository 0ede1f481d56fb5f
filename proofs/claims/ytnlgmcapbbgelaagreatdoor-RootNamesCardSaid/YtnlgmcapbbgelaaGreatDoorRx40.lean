/- The contract of root.Value. Printed by genrootval.py. -/
import Derived.Test.YtnlgmcapbbgelaaGreatDoorRx39
import Derived.Test.YtnlgmcapbbgelaaGreatDoorRx37

namespace Go.Proofs.YtnlgmcapbbgelaaGreatDoor
open Go.RowKit Go.Shelf Go.Sort
theorem ag (g cap:Nat) (d d':Array Mem) (w:World) (hH:HoldsK qW 6 w g 0 d) (hg:g<w.heap.size) (hn:d.size≤4294967296) (hp:d'.toList.Perm d.toList) (hr:fP d') :
 Calls Tryz.prog 111 #[.slice (some ⟨g,0,none⟩) d.size cap,.func (.func 112) #[] #[]] w fun e w'=>e=.returned (.tuple #[])∧HoldsK qW 6 w' g 0 d'∧Touch (· = g) w w':=by
 have eg:∀args w,(callFunc 112 args).run Tryz.prog w=.ok (.enter 112 args) w:=enters_of Tryz.func112 (by kernel_rfl) rfl
 have hcon:=AnyQ.slices_SortFunc gr 6 Tryz.isAgg98 Tryz.sizeOf98 qW zn wy cfM tk 112 #[] g 0 cap d w eg (fun _ _ _ _ x y=>pe x y _) hH hg (by omega)
 refine hcon.mono ?_
 rintro e w' ⟨rfl,e',n,os,hpe,hs,rfl⟩
 have hsz:d'.size=d.size:=by simpa using hp.length_eq
 have hd:e'=d':=fF hr (by
  have:=hpe.2.2
  have e1:e'.extract 0 d.size=e':=by rw [← hpe.1];simp
  have e2:d.extract 0 d.size=d:=by simp
  rw [e1,e2] at this
  exact this.trans hp.symm) (fun i j hij hj=>by
  have:=hs i j (Nat.zero_le _) hij (by omega)
  rwa [kL] at this)
 subst hd
 exact ⟨rfl,holdsK_grow qW 6 _ _ _ _ _ (by simp [putRowK,Go.Sort.ahead];exact hg) (holdsK_putRowK qW 6 _ _ _ _ _ (holdsK_ahead qW 6 _ _ _ _ _ hH) hpe.1),xC⟩
theorem vK (d d':Array Mem) (its:List JV) (blk off cap:Nat) (w:World) (lo hi:Nat) (hH:HoldsK qW 6 w blk off d) (hblk:blk<w.heap.size) (hn:d.size≤4294967296) (hp:d'.toList.Perm d.toList) (hr:fP d')
 (hl:d'.size=its.length) (hm:∀i (h:i<its.length),Rep w lo hi its[i] d'[i]!.val∧its[i].wt≤4294967296∧∀k (h':k<its[i].items.length),fN lo its[i].items[k])
 (hhi:hi≤w.heap.size) :
 Calls Tryz.prog 62 #[.slice (some ⟨blk,off,none⟩) d.size cap] w (jZ (d'.toList.map (·.name)) its w) :=
 vt d d' its blk off cap w lo hi hH hblk hn (by simpa using hp.length_eq) (fun g cap1 w1 hH1 hg1=>ag g cap1 d d' w1 hH1 hg1 hn hp hr) hl hm (fun i h e=>by
  have:=hr i (i+1) h (by omega)
  rw [getElem!_pos d' i (by omega),getElem!_pos d' (i+1) h] at e
  rw [e,zh] at this;cases this) hhi
def kQ (W0:Nat) (w:World) (v:Value) (N:List NJ):Prop :=
 ∃ms,MemsAt W0 w v ms (N.map (·.2))∧ms.map (·.name)=N.map (·.1)
theorem kQ.len {W0:Nat} {w:World} {v:Value} {N:List NJ} (h:kQ W0 w v N):∃ms,MemsAt W0 w v ms (N.map (·.2))∧ms.map (·.name)=N.map (·.1)∧ms.length=N.length:=by
 obtain ⟨ms,h1,h2⟩:=h
 exact ⟨ms,h1,h2,by have:=congrArg List.length h2;simpa using this⟩
theorem d8 {α β:Type} (f:α→β):∀ {M L:List β},M.Perm L→∀Z:List α,Z.map f=L→∃Z':List α,Z'.Perm Z∧Z'.map f=M:=by
 intro M L h
 induction h with
 | nil=>intro Z hZ;exact ⟨Z,.refl _,by simpa using hZ⟩
 | @cons x l1 l2 h ih =>
  intro Z hZ
  cases Z with
  | nil=>simp at hZ
  | cons z zs =>
   simp only [List.map_cons,List.cons.injEq] at hZ
   obtain ⟨Z',h1,h2⟩:=ih zs hZ.2
   exact ⟨z :: Z',h1.cons z,by simp [h2,hZ.1]⟩
 | @swap x y l =>
  intro Z hZ
  cases Z with
  | nil=>simp at hZ
  | cons z zs =>
   cases zs with
   | nil=>simp at hZ
   | cons z2 zs =>
    simp only [List.map_cons,List.cons.injEq] at hZ
    exact ⟨z2 :: z :: zs,.swap _ _ _,by simp [hZ]⟩
 | @trans l1 l2 l3 h1 h2 ih1 ih2 =>
  intro Z hZ
  obtain ⟨Z2,a,b⟩:=ih2 Z hZ
  obtain ⟨Z1,c,d⟩:=ih1 Z2 b
  exact ⟨Z1,c.trans a,d⟩
theorem pE {ms:List Mem} {ns:List ByteArray} (h:ql ns=true) (hn:ms.map (·.name)=ns):fP ms.toArray:=by
 subst hn
 intro i j hj hij
 have hj':j<ms.length:=by simpa using hj
 have hs:=wN _ h i j (by simp;omega) (by simp;omega) hij
 simp only [List.getElem_toArray]
 unfold bl
 simpa using hs
theorem ab {W0:Nat} {w:World} {v:Value} {N:List NJ} (M:List NJ) (hM:kQ W0 w v N) (hg:∃g cap,v=.slice (some ⟨g,0,none⟩) N.length cap) (hp:M.Perm N) (hr:ql (M.map (·.1))=true) (hl:N.length≤4294967296) (hw:∀p ∈ M,p.2.wt≤4294967296) (h0:0<W0) :
 Calls Tryz.prog 62 #[v] w (jZ (M.map (·.1)) (M.map (·.2)) w):=by
 obtain ⟨ms,hms,hn,hlen⟩:=hM.len
 obtain ⟨g,cap,rfl⟩:=hg
 have hzl:(N.zip ms).length=N.length:=by simp [hlen]
 obtain ⟨Z,hZp,hZm⟩:=d8 (fun z:NJ × Mem=>z.1) hp (N.zip ms) (by rw [List.map_fst_zip];omega)
 have hin:∀z ∈ Z,z.2.name=z.1.1∧Rep w W0 w.heap.size z.1.2 z.2.val:=fun z hz=>by
  obtain ⟨i,hi,rfl⟩:=List.getElem_of_mem (hZp.mem_iff.1 hz)
  have hi':i<N.length:=by omega
  rw [List.getElem_zip]
  have e1:=List.getElem_of_eq hn (i:=i) (by simp;omega)
  simp only [List.getElem_map] at e1
  obtain ⟨lo,hi2,h1,h2,_,hr⟩:=hms.reps i (by simp;omega)
  simp only [List.getElem_map] at hr
  exact ⟨e1,Rep.carry h1 h2 (fun _ _ _=>rfl) _ _ hr⟩
 have hlZ:Z.length=N.length:=by rw [hZp.length_eq,hzl]
 have hlM:M.length=Z.length:=by rw [← hZm,List.length_map]
 have hown:=hms.own
 rw [← hlen] at hown
 have hH:g<w.heap.size∧HoldsK qW 6 w g 0 ms.toArray:=by
  rcases Nat.eq_zero_or_pos ms.length with h|h
  · rcases hown.2 with ⟨hv,_⟩|⟨g',cap',cur,hv,hg,hh,hc,hm,hs,ht⟩
    · cases hv
    · cases hv
      refine ⟨qz hh,fun j hj=>?_⟩
      simp [h] at hj
  · obtain ⟨g',cap',hv,hlt,hH⟩:=pB hown h
    cases hv
    exact ⟨hlt,hH⟩
 have hnm:(Z.map (·.2)).map (·.name)=M.map (·.1):=by
  rw [List.map_map,← hZm,List.map_map]
  exact List.map_congr_left fun z hz=>(hin z hz).1
 have hms2:((N.zip ms).map (·.2))=ms:=by rw [List.map_snd_zip];omega
 have:=vK ms.toArray (Z.map (·.2)).toArray (M.map (·.2)) g 0 cap w W0 w.heap.size hH.2 hH.1 (by simp;omega) (by
  have:=hZp.map (·.2)
  rw [hms2] at this
  simpa using this) (pE hr hnm) (by simp [hlM]) (fun i hi=>?_) lz
 · rw [show ((Z.map (·.2)).toArray.toList.map (·.name))=M.map (·.1) from hnm] at this
   rw [show ms.toArray.size=N.length by simp [hlen]] at this
   exact this
 · have hi':i<Z.length:=by have:=hi;simp at this;omega
   have hiM:i<M.length:=by omega
   have eM:M[i]=Z[i].1:=by
    have:=List.getElem_of_eq hZm (i:=i) (by simpa using hi')
    simpa using this.symm
   obtain ⟨_,hr⟩:=hin Z[i] (List.getElem_mem hi')
   refine ⟨?_,?_,fun k _=>.inl h0⟩
   · rw [getElem!_pos _ i (by simpa using hi')]
     simp only [List.getElem_toArray,List.getElem_map]
     rw [eM]
     exact hr
   · rw [List.getElem_map]
     exact hw _ (List.getElem_mem hiM)
theorem d9 (a b c d e:Mem):flatK qW 6 #[a,b,c,d,e]=#[.string a.name,.int .u8 a.k,.int .i64 a.n,.string a.t,.slice a.an a.nn a.cn,.slice a.ai a.ni a.ci,.string b.name,.int .u8 b.k,.int .i64 b.n,.string b.t,.slice b.an b.nn b.cn,.slice b.ai b.ni b.ci,.string c.name,.int .u8 c.k,.int .i64 c.n,.string c.t,.slice c.an c.nn c.cn,.slice c.ai c.ni c.ci,.string d.name,.int .u8 d.k,.int .i64 d.n,.string d.t,.slice d.an d.nn d.cn,.slice d.ai d.ni d.ci,.string e.name,.int .u8 e.k,.int .i64 e.n,.string e.t,.slice e.an e.nn e.cn,.slice e.ai e.ni e.ci]:=by
 apply Array.ext
 · simp
 · intro i h1 h2
   have h3:i<30:=by simpa using h2
   simp only [flatK,Array.getElem_map,Array.getElem_range]
   match i,h3 with
   | 0,_=>rfl
   | 1,_=>rfl
   | 2,_=>rfl
   | 3,_=>rfl
   | 4,_=>rfl
   | 5,_=>rfl
   | 6,_=>rfl
   | 7,_=>rfl
   | 8,_=>rfl
   | 9,_=>rfl
   | 10,_=>rfl
   | 11,_=>rfl
   | 12,_=>rfl
   | 13,_=>rfl
   | 14,_=>rfl
   | 15,_=>rfl
   | 16,_=>rfl
   | 17,_=>rfl
   | 18,_=>rfl
   | 19,_=>rfl
   | 20,_=>rfl
   | 21,_=>rfl
   | 22,_=>rfl
   | 23,_=>rfl
   | 24,_=>rfl
   | 25,_=>rfl
   | 26,_=>rfl
   | 27,_=>rfl
   | 28,_=>rfl
   | 29,_=>rfl
   | n+30,h=>exact absurd h (by omega)
def mI (n:Int) (t:ByteArray) (l:Nat) (an:Option Addr) (cn:Nat) (ai:Option Addr) (ci:Nat) (rn:Option Addr) (rc:Nat) (ri:Option Addr) (rd:Nat):Array Mem:=#[wl zK qo,dm xq n,wl xz t,⟨zm,5,0,⟨#[]⟩,an,l,cn,ai,l,ci⟩,⟨xb,5,0,⟨#[]⟩,rn,3,rc,ri,3,rd⟩]
def wY (v:Int) (ds:ByteArray) (l:List Key2) (x:Auth3):JV:=xr [(zK,txtJ qo),(xz,txtJ ds),(zm,xk l),(xb,qT x),(xq,qV v)]
theorem sq (n:Int) (t:ByteArray) (l:List Key2) (x:Auth3) (an ai rn ri:Option Addr) (cn ci rc rd:Nat) (blk cap:Nat) (w:World) (lo:Nat) (hlo:0<lo) (ht:t.size≤4294967000) (hw1:(xk l).wt≤4294967296) (hw2:(qT x).wt≤4294967296)
 (hR1:Rep w lo w.heap.size (xk l) (.agg #[.int .u8 5,.int .i64 0,.string ⟨#[]⟩,.slice an l.length cn,.slice ai l.length ci])) (hR2:Rep w lo w.heap.size (qT x) (.agg #[.int .u8 5,.int .i64 0,.string ⟨#[]⟩,.slice rn 3 rc,.slice ri 3 rd]))
 (hH:HoldsK qW 6 w blk 0 (mI n t l.length an cn ai ci rn rc ri rd)) (hb:blk<w.heap.size) :
 Calls Tryz.prog 62 #[.slice (some ⟨blk,0,none⟩) 5 cap] w (jZ [zK,xz,zm,xb,xq] [txtJ qo,txtJ t,xk l,qT x,qV n] w):=by
 refine vK (mI n t l.length an cn ai ci rn rc ri rd) #[wl zK qo,wl xz t,⟨zm,5,0,⟨#[]⟩,an,l.length,cn,ai,l.length,ci⟩,⟨xb,5,0,⟨#[]⟩,rn,3,rc,ri,3,rd⟩,dm xq n] [txtJ qo,txtJ t,xk l,qT x,qV n] blk 0 cap w lo w.heap.size hH hb (by show 5≤4294967296;decide) ?_ ?_ rfl ?_ lz
 · exact (List.perm_append_comm (l₁:=[wl xz t,⟨zm,5,0,⟨#[]⟩,an,l.length,cn,ai,l.length,ci⟩,⟨xb,5,0,⟨#[]⟩,rn,3,rc,ri,3,rd⟩]) (l₂:=[dm xq n])).cons (wl zK qo)
 · exact pE (ms:=[wl zK qo,wl xz t,⟨zm,5,0,⟨#[]⟩,an,l.length,cn,ai,l.length,ci⟩,⟨xb,5,0,⟨#[]⟩,rn,3,rc,ri,3,rd⟩,dm xq n]) zZ.1 rfl
 · intro i hi
   match i,hi with
   | 0,_=>exact ⟨jX _ _ _ _,by show (txtJ qo).wt≤4294967296;decide,fun k h=>by simp [txtJ,JV.items] at h⟩
   | 1,_=>exact ⟨jX _ _ _ _,by simp [txtJ,JV.wt,JV.wts,qm];omega,fun k h=>by simp [txtJ,JV.items] at h⟩
   | 2,_=>exact ⟨hR1,hw1,fun k h=>.inl hlo⟩
   | 3,_=>exact ⟨hR2,hw2,fun k h=>.inl hlo⟩
   | 4,_=>exact ⟨fd _ _ _ _,by simp [qV,JV.wt,JV.wts,qm,ByteArray.size],fun k h=>by simp [qV,JV.items] at h⟩
theorem fH (l:List Key2) (a:Option Addr) (c:Nat) (w:World) (hK:zY w 0 w.heap.size a l) (hm:zq l=true) (hs:∀k ∈ l,k.1.size≤300∧k.2.size≤300) (hT:Tabs w) :
 Calls Tryz.prog 67 #[.slice a l.length c] w fun e w'=>∃an cn ai ci,e=.returned (.tuple #[.agg #[.int .u8 5,.int .i64 0,.string ⟨#[]⟩,.slice an l.length cn,.slice ai l.length ci],.int .i64 0])∧Rep w' w.heap.size w'.heap.size (xk l) (.agg #[.int .u8 5,.int .i64 0,.string ⟨#[]⟩,.slice an l.length cn,.slice ai l.length ci])∧Below w.heap.size w w':=by
 obtain ⟨h1,h2,h3⟩:=zV.1 hm
 refine (fW l a c w hK (by omega) hs hT).mono ?_
 rintro e w' ⟨u,hu,-,-,hv⟩
 have he:vw l=0:=n9 h2 h3 h1
 obtain ⟨m,hp,hr,rfl⟩:=hu he
 obtain rfl:m=l:=fK hp hr h3
 rw [he] at hv
 obtain ⟨an,cn,ai,ci,h4,h5,h6⟩:=hv
 have e1:(xk m).names.length=m.length:=List.length_map ..
 have e2:(xk m).items.length=m.length:=List.length_map ..
 rw [e1,e2] at h4 h5
 exact ⟨an,cn,ai,ci,h4,h5,h6⟩
theorem xW (t:Int) (l:List ByteArray) (a:Option Addr) (c:Nat) (w:World) (hS:qk w 0 w.heap.size a l) (hm:qZ ⟨t,l⟩=true) :
 Calls Tryz.prog 15 #[.agg #[.int .i64 t,.slice a l.length c]] w fun e w'=>∃an cn ai ci,e=.returned (.tuple #[.agg #[.int .u8 5,.int .i64 0,.string ⟨#[]⟩,.slice an 2 cn,.slice ai 2 ci],.int .i64 0])∧Rep w' w.heap.size w'.heap.size (qd ⟨t,l⟩) (.agg #[.int .u8 5,.int .i64 0,.string ⟨#[]⟩,.slice an 2 cn,.slice ai 2 ci])∧Below w.heap.size w w':=by
 refine (dM t l a c w hS (xT hm)).mono ?_
 have e:be ⟨t,l⟩=(qd ⟨t,l⟩,0):=by unfold be;rw [if_pos hm]
 rw [e]
 rintro r w' ⟨an,cn,ai,ci,h1,h2,h3⟩
 exact ⟨an,cn,ai,ci,h1,h2,h3⟩
theorem p0 (t:ByteArray) (w:World):Calls Tryz.prog 65 #[.string t] w fun e w'=>e=.returned (.agg #[.int .u8 3,.int .i64 0,.string t,.slice none 0 0,.slice none 0 0])∧Below w.heap.size w w' :=
 (vU t w).mono fun e w' h=>⟨h.1,by rw [h.2];exact (Below.refl _ _).alloc lz _⟩
theorem rL (n:Int) (w:World):Calls Tryz.prog 69 #[.int .i64 n] w fun e w'=>e=.returned (.agg #[.int .u8 2,.int .i64 n,.string ⟨#[]⟩,.slice none 0 0,.slice none 0 0])∧Below w.heap.size w w' :=
 (uC n w).mono fun e w' h=>⟨h.1,by rw [h.2];exact (Below.refl _ _).alloc lz _⟩
theorem yg {W0:Nat} {w w4:World} {am:Option Addr} {cm g cap:Nat} {N:List NJ} {nm:ByteArray} {it:JV} {an ai:Option Addr} {nn cn ni ci lo hi:Nat} {T:Nat} {cs:Array Value} (_h:kQ W0 w (.slice am N.length cm) N) (h1:W0≤lo) (h2:hi≤w.heap.size) (h3:∀b,(Value.slice am N.length cm).ownBlock=some b→¬(lo≤b∧b<hi))
 (hr:Rep w lo hi it (.agg #[.int .u8 5,.int .i64 0,.string ⟨#[]⟩,.slice an nn cn,.slice ai ni ci])) (hg:(w.alloc (.cells cs T)).grownBy w4 (Value.slice am N.length cm).ownBlock) {ms:List Mem} (hms:MemsAt W0 w (.slice am N.length cm) ms (N.map (·.2))) (hnm:ms.map (·.name)=N.map (·.1))
 (ho:w4.ownsRow W0 98 6 (.slice (some ⟨g,0,none⟩) (N.length+1) cap) (N.length+1) (xN ms ++ [.string nm,.int .u8 5,.int .i64 0,.string ⟨#[]⟩,.slice an nn cn,.slice ai ni ci])) (ha:(Value.slice am N.length cm).ownBlock=some g∨g=w.heap.size+1) :
 kQ W0 w4 (.slice (some ⟨g,0,none⟩) (N.length+1) cap) (N ++ [(nm,it)]):=by
 have hlen:ms.length=N.length:=by have:=congrArg List.length hnm;simpa using this
 have hba:Below w.heap.size w (w.alloc (.cells cs T)):=(Below.refl _ _).alloc lz _
 refine ⟨ms ++ [⟨nm,5,0,⟨#[]⟩,an,nn,cn,ai,ni,ci⟩],?_,?_⟩
 · rw [List.map_append]
   refine (hms.below hba).snoc (v':=.slice (some ⟨g,0,none⟩) (N.length+1) cap) ⟨nm,5,0,⟨#[]⟩,an,nn,cn,ai,ni,ci⟩ it lo hi h1 (by simp;omega) h3 (hr.below hba h2 lz lz) hg (by rw [hlen];exact ho) ?_
   rcases ha with h|h
   · exact .inl h.symm
   · exact .inr ⟨g,rfl,by simp;omega⟩
 · rw [List.map_append,List.map_append,hnm];rfl
def rR (lo:Nat) (v:JV) (w:World) (x:Value):Prop:=∃an cn ai ci,x=.tuple #[.agg #[.int .u8 5,.int .i64 0,.string ⟨#[]⟩,.slice an 5 cn,.slice ai 5 ci],.int .i64 0]∧Rep w lo w.heap.size v (.agg #[.int .u8 5,.int .i64 0,.string ⟨#[]⟩,.slice an 5 cn,.slice ai 5 ci])
def ap (lo:Nat) (v:JV) (w:World) (x:Value):Prop:=∃an cn ai ci,x=.agg #[.int .u8 5,.int .i64 0,.string ⟨#[]⟩,.slice an 5 cn,.slice ai 5 ci]∧Rep w lo w.heap.size v (.agg #[.int .u8 5,.int .i64 0,.string ⟨#[]⟩,.slice an 5 cn,.slice ai 5 ci])
def MP.tup5 (lo:Nat) (v:JV):MP:=⟨rR lo v,fun _ _ _ hb ⟨an,cn,ai,ci,e,hr⟩=>⟨an,cn,ai,ci,e,hr.below hb lz lz hb.size⟩⟩
def MP.obj5 (lo:Nat) (v:JV):MP:=⟨ap lo v,fun _ _ _ hb ⟨an,cn,ai,ci,e,hr⟩=>⟨an,cn,ai,ci,e,hr.below hb lz lz hb.size⟩⟩
def wG (r:RootV):JV × Int:=if qD r then (zB r,0) else (qL,3)
set_option maxHeartbeats 8000000 in
set_option maxRecDepth 100000 in
theorem p7 (v e:Int) (l:List Key2) (t1 t2 t3:Int) (d1 d2 d3:List ByteArray) (ka i1 i2 i3:Option Addr) (kc c1 c2 c3:Nat) (w:World) (hI:RootIn w 0 w.heap.size ⟨v,e,l,⟨⟨t1,d1⟩,⟨t2,d2⟩,⟨t3,d3⟩⟩⟩ ka i1 i2 i3) (hf:RootFits ⟨v,e,l,⟨⟨t1,d1⟩,⟨t2,d2⟩,⟨t3,d3⟩⟩⟩) (hT:Tabs w) (hTW:TabW w) (hP:zo w) (hTP:TopsW w) :
 Calls Tryz.prog 23 #[.agg #[.int .i64 v,.int .i64 e,.slice ka l.length kc,.int .i64 t1,.slice i1 d1.length c1,.int .i64 t2,.slice i2 d2.length c2,.int .i64 t3,.slice i3 d3.length c3]] w (lB (wG ⟨v,e,l,⟨⟨t1,d1⟩,⟨t2,d2⟩,⟨t3,d3⟩⟩⟩) w):=by
 obtain ⟨W,hW⟩:∃W,W=(w.alloc (.cells #[.int .i64 v,.int .i64 e,.slice ka l.length kc,.int .i64 t1,.slice i1 d1.length c1,.int .i64 t2,.slice i2 d2.length c2,.int .i64 t3,.slice i3 d3.length c3] 32)).alloc (.cells #[.int .u8 0,.int .i64 0,.string ⟨#[]⟩,.slice none 0 0,.slice none 0 0] 25):=⟨_,rfl⟩
 have hb:Below w.heap.size w W:=by rw [hW];exact ((Below.refl _ _).alloc lz _).alloc (by simp) _
 have HX:=Lh (show W.heap[w.heap.size]?=some (.cells #[.int .i64 v,.int .i64 e,.slice ka l.length kc,.int .i64 t1,.slice i1 d1.length c1,.int .i64 t2,.slice i2 d2.length c2,.int .i64 t3,.slice i3 d3.length c3] 32 (0,0)) by rw [hW];exact xG w _ _)
 have HR:=Lh (show W.rowIs (w.heap.size+1) 25 5 (qQ (.int .u8 0) (.int .i64 0) (.string ⟨#[]⟩) (.slice none 0 0) (.slice none 0 0)) by
  have:=qh (w.alloc (.cells #[.int .i64 v,.int .i64 e,.slice ka l.length kc,.int .i64 t1,.slice i1 d1.length c1,.int .i64 t2,.slice i2 d2.length c2,.int .i64 t3,.slice i3 d3.length c3] 32)) (.int .u8 0) (.int .i64 0) (.string ⟨#[]⟩) (.slice none 0 0) (.slice none 0 0) 25
  rw [show (w.alloc (.cells #[.int .i64 v,.int .i64 e,.slice ka l.length kc,.int .i64 t1,.slice i1 d1.length c1,.int .i64 t2,.slice i2 d2.length c2,.int .i64 t3,.slice i3 d3.length c3] 32)).heap.size=w.heap.size+1 by simp,← hW] at this
  exact this)
 have HI:=Lh (show ∀w':World,Below w.heap.size w w'→RootIn w' 0 w'.heap.size ⟨v,e,l,⟨⟨t1,d1⟩,⟨t2,d2⟩,⟨t3,d3⟩⟩⟩ ka i1 i2 i3∧Tabs w'∧TabW w'∧zo w'∧TopsW w' from fun w' h=>⟨hI.below h lz lz h.size,hT.below h,hTW.below h,hP.below h,hTP.below h⟩)
 have HF:=Lh hf
 have HB:=Lh hb
 have HW:=Lh hW
 have HMY:=Lh (fB v e l t1 t2 t3 d1 d2 d3 ka i1 i2 i3 kc c1 c2 c3 W (hI.below hb lz lz hb.size) hf (hT.below hb) (hTW.below hb) (hP.below hb))
 obtain ⟨mb,hmb⟩:∃mb,mb=qD ⟨v,e,l,⟨⟨t1,d1⟩,⟨t2,d2⟩,⟨t3,d3⟩⟩⟩:=⟨_,rfl⟩
 rw [← hmb] at HMY
 have HMB:=Lh hmb
 clear hI hf hb hW hT hTW hP hTP hmb
 obtain ⟨x0,x1,x2,x3,x4,x5,x6,x7,x8⟩:=bx9 HX.out
 go_enter Tryz.func23,Tryz.ntmps23
 go_upto_region 1 with fail
 rw [← HW.out]
 clear HW
 go_wp2_with fail
 refine HMY.out.mono ?_
 clear HMY x0 x1 x2 x3 x4 x5 x6 x7 x8
 rintro r w1 ⟨rfl,hb1⟩
 replace HX:=Lh ((hb1.block _ (qz HX.out)).trans HX.out)
 replace HR:=Lh (qx hb1 HR.out HR.out.lt)
 replace HB:=Lh (HB.out.trans (hb1.mono HB.out.size))
 clear hb1
 cases mb with
 | false =>
  have HV:=Lh (show wG ⟨v,e,l,⟨⟨t1,d1⟩,⟨t2,d2⟩,⟨t3,d3⟩⟩⟩=(qL,3) by unfold wG;rw [← HMB.out];rfl)
  have hres:=HR.out
  obtain ⟨t0,t1,t2,t3,t4⟩:=rc5 hres
  obtain ⟨s0,s1,s2,s3,s4⟩:=rf5 hres
  simp only [qQ] at t0 t1 t2 t3 t4
  clear hres
  go_wp2
  refine bodyPost_ret (qj Tryz.results23 _ _ (w.heap.size+1) 25 _ (0,0) _ rfl (qs (set5 _ _ _ _ _ HR.out)) Tryz.underlying25 rfl (by kernel_rfl) _ rfl) rfl ?_
  rw [HV.out]
  exact gy ⟨rfl,zy _ _ _ _ _ HB.out (by omega)⟩
 | true =>
  have HV:=Lh (show wG ⟨v,e,l,⟨⟨t1,d1⟩,⟨t2,d2⟩,⟨t3,d3⟩⟩⟩=(zB ⟨v,e,l,⟨⟨t1,d1⟩,⟨t2,d2⟩,⟨t3,d3⟩⟩⟩,0) by unfold wG;rw [← HMB.out];rfl)
  have hparts:=xV.1 HMB.out.symm
  have HPT:=Lh hparts
  have HM3:=Lh (vS.1 hparts.2.2.2)
  clear hparts
  have HSH:=Lh (hF e w1 (HI.out w1 HB.out).2.2.1 (HI.out w1 HB.out).2.2.2.1)
  have HSE:=Lh (show vh e=0∧vu e=xR e from by
   have h:=HPT.out.2.1
   dsimp only at h
   exact ⟨if_pos h,show vu e=_ from if_pos h⟩)
  rw [HSE.out.1,HSE.out.2] at HSH
  have HDS:=Lh (show (xR e).size≤4294967000 from by
   have h:=HPT.out.2.1
   dsimp only at h
   have h1:=(yI e.toNat (by omega)).1
   have:(xR e).size=(jP e.toNat).length:=by simp [xR,ByteArray.size]
   omega)
  obtain ⟨ds,hds⟩:∃ds,ds=xR e:=⟨_,rfl⟩
  rw [← hds] at HSH HDS
  have HDE:=Lh hds
  clear hds HSE
  have x1:=qq HX.out (j:=1) rfl
  go_wp2_with fail
  refine HSH.out.mono ?_
  clear HSH x1
  rintro r wz ⟨rfl,hb2⟩
  replace HX:=Lh ((hb2.block _ (qz HX.out)).trans HX.out)
  replace HR:=Lh (qx hb2 HR.out HR.out.lt)
  replace HB:=Lh (HB.out.trans (hb2.mono HB.out.size))
  clear hb2
  have HKT:=Lh (fH l ka kc wz (HI.out wz HB.out).1.keys HPT.out.2.2.1 HF.out.keys (HI.out wz HB.out).2.1)
  have x2:=qq HX.out (j:=2) rfl
  go_wp2_with fail
  refine HKT.out.mono ?_
  clear HKT x2
  rintro r w3 ⟨an,cn,ai,ci,rfl,hr3,hb3⟩
  obtain ⟨q,hq⟩:∃q,q=w3.heap.size:=⟨_,rfl⟩
  obtain ⟨W4,hW4⟩:∃W4,W4=w3.alloc (.cells #[.int .u8 5,.int .i64 0,.string ⟨#[]⟩,.slice an l.length cn,.slice ai l.length ci] 25):=⟨_,rfl⟩
  have hb4:Below wz.heap.size wz W4:=by rw [hW4];exact hb3.alloc hb3.size _
  have hx4:W4.heap[q]?=some (.cells #[.int .u8 5,.int .i64 0,.string ⟨#[]⟩,.slice an l.length cn,.slice ai l.length ci] 25 (0,0)):=by rw [hW4,hq];exact heap_alloc_new w3 _
  have hb34:Below w3.heap.size w3 W4:=by rw [hW4];exact (Below.refl _ _).alloc lz _
  have HTB:=Lh (show Rep W4 wz.heap.size W4.heap.size (xk l) (.agg #[.int .u8 5,.int .i64 0,.string ⟨#[]⟩,.slice an l.length cn,.slice ai l.length ci]) from hr3.below hb34 lz lz hb34.size)
  have HZ2:=Lh (show w.heap.size+1<wz.heap.size from HR.out.lt)
  replace HX:=Lh ((hb4.block _ (qz HX.out)).trans HX.out)
  replace HR:=Lh (qx hb4 HR.out HR.out.lt)
  replace HB:=Lh (HB.out.trans (hb4.mono HB.out.size))
  have HZ4:=Lh (show wz.heap.size≤W4.heap.size from hb4.size)
  have HXQ:=Lh hx4
  have HW4:=Lh hW4
  have HQE:=Lh hq
  clear hr3 hb3 hW4 hb4 hx4 hb34 hq
  go_upto_region 7 with fail
  rw [← HW4.out,← HQE.out]
  clear HW4 HQE
  have HAU:=Lh (yy v e l t1 t2 t3 d1 d2 d3 ka i1 i2 i3 kc c1 c2 c3 W4)
  unfold vx at HAU
  obtain ⟨x0,x1,x2,x3,x4,x5,x6,x7,x8⟩:=bx9 HX.out
  go_wp2_with fail
  refine HAU.out.mono ?_
  clear HAU x0 x1 x2 x3 x4 x5 x6 x7 x8
  rintro r w5 ⟨rfl,hb5⟩
  replace HX:=Lh ((hb5.block _ (qz HX.out)).trans HX.out)
  replace HR:=Lh (qx hb5 HR.out HR.out.lt)
  replace HB:=Lh (HB.out.trans (hb5.mono HB.out.size))
  replace HXQ:=Lh ((hb5.block _ (qz HXQ.out)).trans HXQ.out)
  replace HTB:=Lh (HTB.out.below hb5 lz lz hb5.size)
  have HZ5:=Lh (show wz.heap.size≤w5.heap.size∧w.heap.size+1<w5.heap.size from by have h1:=HZ4.out;have h2:=hb5.size;have h3:=HZ2.out;omega)
  clear hb5 HZ4
  obtain ⟨i4,hi4,hy0,hy1,hy2⟩:=info_parts gX
  go_wp2
  go_loopw [7,8,9,10,11,37] (fun s7 _ _ _ _ i wr=>Below w5.heap.size w5 wr∧((i=.int .i64 0∧kQ w5.heap.size wr s7 []∧∃am cm,s7=.slice am 0 cm)∨(i=.int .i64 1∧kQ w5.heap.size wr s7 [(qo,qd ⟨t1,d1⟩)]∧∃am cm,s7=.slice am 1 cm)∨(i=.int .i64 2∧kQ w5.heap.size wr s7 [(qo,qd ⟨t1,d1⟩),(zp,qd ⟨t2,d2⟩)]∧∃am cm,s7=.slice am 2 cm)∨(i=.int .i64 3∧kQ w5.heap.size wr s7 [(qo,qd ⟨t1,d1⟩),(zp,qd ⟨t2,d2⟩),(zO,qd ⟨t3,d3⟩)]∧∃am cm,s7=.slice am 3 cm))) (fun _ _ _ _ _ i _=>3 - (intOf i).toNat)
  case atStart=>exact ⟨Below.refl _ _,.inl ⟨rfl,⟨[],MemsAt.nil _ _,rfl⟩,none,0,rfl⟩⟩
  case round =>
   obtain ⟨hbr,hcase⟩:=hrel
   have HBL:=Lh hbr
   have HBR:=Lh (HB.out.trans (hbr.mono HB.out.size))
   clear hbr
   rcases hcase with ⟨rfl,hmb,am,cm,rfl⟩|⟨rfl,hmb,am,cm,rfl⟩|⟨rfl,hmb,am,cm,rfl⟩|⟨rfl,hmb,am,cm,rfl⟩
   · obtain ⟨ms,hms,hnm⟩:=hmb
     have HMS:=Lh hms
     have HNM:=Lh hnm
     have HML:=Lh (show ms.length=0 from by have:=congrArg List.length hnm;simpa using this)
     obtain ⟨WX,hWX⟩:∃WX,WX=wr.alloc (.cells #[.int .i64 t1,.slice i1 d1.length c1] 30):=⟨_,rfl⟩
     have hbX:Below wr.heap.size wr WX:=by rw [hWX];exact (Below.refl _ _).alloc lz _
     have hxX:WX.heap[wr.heap.size]?=some (.cells #[.int .i64 t1,.slice i1 d1.length c1] 30 (0,0)):=by rw [hWX];exact heap_alloc_new wr _
     have HBX:=Lh (HBR.out.trans (hbX.mono HBR.out.size))
     have HBLX:=Lh (HBL.out.trans (hbX.mono HBL.out.size))
     have HMX:=Lh (hms.below hbX)
     have HAV:=Lh (xW t1 d1 i1 c1 WX (HI.out WX HBX.out).1.a HM3.out.1)
     have z0:=qq hxX (j:=0) rfl;have z1:=qq hxX (j:=1) rfl
     have HWX:=Lh hWX
     have ix:=yk t1 t2 t3 d1 d2 d3 i1 i2 i3 c1 c2 c3
     clear hms hnm hWX hbX hxX
     go_upto_region 13 with fail
     rw [← HWX.out]
     go_wp2_with fail
     refine HAV.out.mono ?_
     clear HAV z0 z1 ix
     rintro r w7 ⟨bn,bc,bi,bd,rfl,hr7,hb7⟩
     obtain ⟨WY,hWY⟩:∃WY,WY=w7.alloc (.cells #[.int .u8 5,.int .i64 0,.string ⟨#[]⟩,.slice bn 2 bc,.slice bi 2 bd] 25):=⟨_,rfl⟩
     have hbY:Below w7.heap.size w7 WY:=by rw [hWY];exact (Below.refl _ _).alloc lz _
     have hxY:WY.heap[w7.heap.size]?=some (.cells #[.int .u8 5,.int .i64 0,.string ⟨#[]⟩,.slice bn 2 bc,.slice bi 2 bd] 25 (0,0)):=by rw [hWY];exact heap_alloc_new w7 _
     have hbXY:=hb7.trans (hbY.mono hb7.size)
     have HBY:=Lh (HBX.out.trans (hbXY.mono HBX.out.size))
     have HBLY:=Lh (HBLX.out.trans (hbXY.mono HBLX.out.size))
     have hms8:=HMX.out.below hbXY
     have HMY8:=Lh hms8
     have HR8:=Lh (show Rep WY WX.heap.size w7.heap.size (qd ⟨t1,d1⟩) (.agg #[.int .u8 5,.int .i64 0,.string ⟨#[]⟩,.slice bn 2 bc,.slice bi 2 bd]) from hr7.below hbY lz lz lz)
     have HZ8:=Lh (show w5.heap.size≤WX.heap.size∧w7.heap.size≤WY.heap.size∧w5.heap.size≤WY.heap.size from ⟨HBLX.out.size,hbY.size,HBLY.out.size⟩)
     have HOB8:=Lh (show ∀b,(Value.slice am 0 cm).ownBlock=some b→b<WX.heap.size from fun b hb=>(HMX.out.own.lt _ hb).2)
     have HOD:=Lh (show WY.drew.ownsRow w5.heap.size 98 6 (.slice am 0 cm) 0 (xN ms) from by
      have:=qJ hms8.own ((Below.refl WY.heap.size WY).drew)
      rwa [HML.out] at this)
     have HWY:=Lh hWY
     have gk:=(HI.out WY HBY.out).2.2.2.2.c0
     obtain ⟨y0,y1,y2,y3,y4⟩:=bx5 hxY
     have hzY:w5.heap.size≤WY.heap.size:=HBLY.out.size
     clear hr7 hb7 hWY hbY hxY hbXY hms8 HMX
     go_upto_region 14 with fail
     rw [← HWY.out]
     go_upto_region 16 with fail
     go_region_law (refine step_append_lies _ (by rfl) (.tmp 49) (.tmp 55) 94 (by rfl) w5.heap.size 98 i4 _ 6 96 Tryz.underlying94 hi4 hy0 hy1 hy2 rfl (by omega) (.slice am 0 cm) 0 (xN ms) (by rfl) (HOD.out.alloc _) ⟨WY.heap.size,0,none⟩ 1 1 (Array.toList #[.string ⟨#[114,111,111,116]⟩,.int .u8 5,.int .i64 0,.string ⟨#[]⟩,.slice bn 2 bc,.slice bi 2 bd]) (by rfl) (by rfl) (World.news_of_block (cs:=#[.string ⟨#[114,111,111,116]⟩,.int .u8 5,.int .i64 0,.string ⟨#[]⟩,.slice bn 2 bc,.slice bi 2 bd]) (t:=98) (fr:=(0,0)) (heap_alloc_new WY.drew _)) (by simp [Value.oneCell']) (by omega) (by unfold maxLen;omega) (by omega) (by simp;omega) (WY.heap.size+1) (by simp) ?_;intro g2 cap3 w4 hown4 hgrow4 hat4 hlt4;have HO4:=Lh hown4;have HG4:=Lh hgrow4;have HA4:=Lh hat4;clear hown4 hgrow4 hat4)
     all_goals
      have hbd:Below WY.heap.size WY (WY.drew.alloc (.cells #[.string ⟨#[114,111,111,116]⟩,.int .u8 5,.int .i64 0,.string ⟨#[]⟩,.slice bn 2 bc,.slice bi 2 bd] 98)):=(Below.refl WY.heap.size WY).drew.alloc lz _
      have HBF:=Lh (show Below w5.heap.size w5 w4 from HBLY.out.trans (below_grown (hbd.mono hzY) (Nat.le_trans hzY hbd.size) HG4.out (fun b hb=>(HOD.out.lt b hb).1)))
      have HMF:=Lh (show kQ w5.heap.size w4 (.slice (some ⟨g2,0,none⟩) (0+1) cap3) (([]:List NJ) ++ [(qo,qd ⟨t1,d1⟩)]) from yg (N:=([]:List NJ)) (w:=WY.drew) (it:=qd ⟨t1,d1⟩) (nm:=qo) (cs:=#[.string ⟨#[114,111,111,116]⟩,.int .u8 5,.int .i64 0,.string ⟨#[]⟩,.slice bn 2 bc,.slice bi 2 bd]) (T:=98) ⟨ms,HMY8.out.below ((Below.refl _ _).drew),HNM.out⟩ HZ8.out.1 HZ8.out.2.1 (fun b hb=>by have:=HOB8.out b hb;omega) (HR8.out.below ((Below.refl _ _).drew) HZ8.out.2.1 lz lz) HG4.out (HMY8.out.below ((Below.refl _ _).drew)) HNM.out HO4.out (by
       rcases HA4.out with h|h
       · exact .inl h
       · exact .inr (by simpa using h)))
      clear hbd y0 y1 y2 y3 y4 HO4 HG4 HA4
      go_wp2
      go_roundw
      case rel=>exact ⟨HBF.out,.inr (.inl ⟨rfl,HMF.out,_,_,rfl⟩)⟩
      case measure=>simp [intOf]
   · obtain ⟨ms,hms,hnm⟩:=hmb
     have HMS:=Lh hms
     have HNM:=Lh hnm
     have HML:=Lh (show ms.length=1 from by have:=congrArg List.length hnm;simpa using this)
     obtain ⟨WX,hWX⟩:∃WX,WX=wr.alloc (.cells #[.int .i64 t2,.slice i2 d2.length c2] 30):=⟨_,rfl⟩
     have hbX:Below wr.heap.size wr WX:=by rw [hWX];exact (Below.refl _ _).alloc lz _
     have hxX:WX.heap[wr.heap.size]?=some (.cells #[.int .i64 t2,.slice i2 d2.length c2] 30 (0,0)):=by rw [hWX];exact heap_alloc_new wr _
     have HBX:=Lh (HBR.out.trans (hbX.mono HBR.out.size))
     have HBLX:=Lh (HBL.out.trans (hbX.mono HBL.out.size))
     have HMX:=Lh (hms.below hbX)
     have HAV:=Lh (xW t2 d2 i2 c2 WX (HI.out WX HBX.out).1.b HM3.out.2.1)
     have z0:=qq hxX (j:=0) rfl;have z1:=qq hxX (j:=1) rfl
     have HWX:=Lh hWX
     have ix:=yv t1 t2 t3 d1 d2 d3 i1 i2 i3 c1 c2 c3
     clear hms hnm hWX hbX hxX
     go_upto_region 13 with fail
     rw [← HWX.out]
     go_wp2_with fail
     refine HAV.out.mono ?_
     clear HAV z0 z1 ix
     rintro r w7 ⟨bn,bc,bi,bd,rfl,hr7,hb7⟩
     obtain ⟨WY,hWY⟩:∃WY,WY=w7.alloc (.cells #[.int .u8 5,.int .i64 0,.string ⟨#[]⟩,.slice bn 2 bc,.slice bi 2 bd] 25):=⟨_,rfl⟩
     have hbY:Below w7.heap.size w7 WY:=by rw [hWY];exact (Below.refl _ _).alloc lz _
     have hxY:WY.heap[w7.heap.size]?=some (.cells #[.int .u8 5,.int .i64 0,.string ⟨#[]⟩,.slice bn 2 bc,.slice bi 2 bd] 25 (0,0)):=by rw [hWY];exact heap_alloc_new w7 _
     have hbXY:=hb7.trans (hbY.mono hb7.size)
     have HBY:=Lh (HBX.out.trans (hbXY.mono HBX.out.size))
     have HBLY:=Lh (HBLX.out.trans (hbXY.mono HBLX.out.size))
     have hms8:=HMX.out.below hbXY
     have HMY8:=Lh hms8
     have HR8:=Lh (show Rep WY WX.heap.size w7.heap.size (qd ⟨t2,d2⟩) (.agg #[.int .u8 5,.int .i64 0,.string ⟨#[]⟩,.slice bn 2 bc,.slice bi 2 bd]) from hr7.below hbY lz lz lz)
     have HZ8:=Lh (show w5.heap.size≤WX.heap.size∧w7.heap.size≤WY.heap.size∧w5.heap.size≤WY.heap.size from ⟨HBLX.out.size,hbY.size,HBLY.out.size⟩)
     have HOB8:=Lh (show ∀b,(Value.slice am 1 cm).ownBlock=some b→b<WX.heap.size from fun b hb=>(HMX.out.own.lt _ hb).2)
     have HOD:=Lh (show WY.drew.ownsRow w5.heap.size 98 6 (.slice am 1 cm) 1 (xN ms) from by
      have:=qJ hms8.own ((Below.refl WY.heap.size WY).drew)
      rwa [HML.out] at this)
     have HWY:=Lh hWY
     have gk:=(HI.out WY HBY.out).2.2.2.2.c1
     obtain ⟨y0,y1,y2,y3,y4⟩:=bx5 hxY
     have hzY:w5.heap.size≤WY.heap.size:=HBLY.out.size
     clear hr7 hb7 hWY hbY hxY hbXY hms8 HMX
     go_upto_region 14 with fail
     rw [← HWY.out]
     go_upto_region 16 with fail
     go_region_law (refine step_append_lies _ (by rfl) (.tmp 49) (.tmp 55) 94 (by rfl) w5.heap.size 98 i4 _ 6 96 Tryz.underlying94 hi4 hy0 hy1 hy2 rfl (by omega) (.slice am 1 cm) 1 (xN ms) (by rfl) (HOD.out.alloc _) ⟨WY.heap.size,0,none⟩ 1 1 (Array.toList #[.string ⟨#[115,110,97,112,115,104,111,116]⟩,.int .u8 5,.int .i64 0,.string ⟨#[]⟩,.slice bn 2 bc,.slice bi 2 bd]) (by rfl) (by rfl) (World.news_of_block (cs:=#[.string ⟨#[115,110,97,112,115,104,111,116]⟩,.int .u8 5,.int .i64 0,.string ⟨#[]⟩,.slice bn 2 bc,.slice bi 2 bd]) (t:=98) (fr:=(0,0)) (heap_alloc_new WY.drew _)) (by simp [Value.oneCell']) (by omega) (by unfold maxLen;omega) (by omega) (by simp;omega) (WY.heap.size+1) (by simp) ?_;intro g2 cap3 w4 hown4 hgrow4 hat4 hlt4;have HO4:=Lh hown4;have HG4:=Lh hgrow4;have HA4:=Lh hat4;clear hown4 hgrow4 hat4)
     all_goals
      have hbd:Below WY.heap.size WY (WY.drew.alloc (.cells #[.string ⟨#[115,110,97,112,115,104,111,116]⟩,.int .u8 5,.int .i64 0,.string ⟨#[]⟩,.slice bn 2 bc,.slice bi 2 bd] 98)):=(Below.refl WY.heap.size WY).drew.alloc lz _
      have HBF:=Lh (show Below w5.heap.size w5 w4 from HBLY.out.trans (below_grown (hbd.mono hzY) (Nat.le_trans hzY hbd.size) HG4.out (fun b hb=>(HOD.out.lt b hb).1)))
      have HMF:=Lh (show kQ w5.heap.size w4 (.slice (some ⟨g2,0,none⟩) (1+1) cap3) ([(qo,qd ⟨t1,d1⟩)] ++ [(zp,qd ⟨t2,d2⟩)]) from yg (N:=[(qo,qd ⟨t1,d1⟩)]) (w:=WY.drew) (it:=qd ⟨t2,d2⟩) (nm:=zp) (cs:=#[.string ⟨#[115,110,97,112,115,104,111,116]⟩,.int .u8 5,.int .i64 0,.string ⟨#[]⟩,.slice bn 2 bc,.slice bi 2 bd]) (T:=98) ⟨ms,HMY8.out.below ((Below.refl _ _).drew),HNM.out⟩ HZ8.out.1 HZ8.out.2.1 (fun b hb=>by have:=HOB8.out b hb;omega) (HR8.out.below ((Below.refl _ _).drew) HZ8.out.2.1 lz lz) HG4.out (HMY8.out.below ((Below.refl _ _).drew)) HNM.out HO4.out (by
       rcases HA4.out with h|h
       · exact .inl h
       · exact .inr (by simpa using h)))
      clear hbd y0 y1 y2 y3 y4 HO4 HG4 HA4
      go_wp2
      go_roundw
      case rel=>exact ⟨HBF.out,.inr (.inr (.inl ⟨rfl,HMF.out,_,_,rfl⟩))⟩
      case measure=>simp [intOf]
   · obtain ⟨ms,hms,hnm⟩:=hmb
     have HMS:=Lh hms
     have HNM:=Lh hnm
     have HML:=Lh (show ms.length=2 from by have:=congrArg List.length hnm;simpa using this)
     obtain ⟨WX,hWX⟩:∃WX,WX=wr.alloc (.cells #[.int .i64 t3,.slice i3 d3.length c3] 30):=⟨_,rfl⟩
     have hbX:Below wr.heap.size wr WX:=by rw [hWX];exact (Below.refl _ _).alloc lz _
     have hxX:WX.heap[wr.heap.size]?=some (.cells #[.int .i64 t3,.slice i3 d3.length c3] 30 (0,0)):=by rw [hWX];exact heap_alloc_new wr _
     have HBX:=Lh (HBR.out.trans (hbX.mono HBR.out.size))
     have HBLX:=Lh (HBL.out.trans (hbX.mono HBL.out.size))
     have HMX:=Lh (hms.below hbX)
     have HAV:=Lh (xW t3 d3 i3 c3 WX (HI.out WX HBX.out).1.c HM3.out.2.2)
     have z0:=qq hxX (j:=0) rfl;have z1:=qq hxX (j:=1) rfl
     have HWX:=Lh hWX
     have ix:=yw t1 t2 t3 d1 d2 d3 i1 i2 i3 c1 c2 c3
     clear hms hnm hWX hbX hxX
     go_upto_region 13 with fail
     rw [← HWX.out]
     go_wp2_with fail
     refine HAV.out.mono ?_
     clear HAV z0 z1 ix
     rintro r w7 ⟨bn,bc,bi,bd,rfl,hr7,hb7⟩
     obtain ⟨WY,hWY⟩:∃WY,WY=w7.alloc (.cells #[.int .u8 5,.int .i64 0,.string ⟨#[]⟩,.slice bn 2 bc,.slice bi 2 bd] 25):=⟨_,rfl⟩
     have hbY:Below w7.heap.size w7 WY:=by rw [hWY];exact (Below.refl _ _).alloc lz _
     have hxY:WY.heap[w7.heap.size]?=some (.cells #[.int .u8 5,.int .i64 0,.string ⟨#[]⟩,.slice bn 2 bc,.slice bi 2 bd] 25 (0,0)):=by rw [hWY];exact heap_alloc_new w7 _
     have hbXY:=hb7.trans (hbY.mono hb7.size)
     have HBY:=Lh (HBX.out.trans (hbXY.mono HBX.out.size))
     have HBLY:=Lh (HBLX.out.trans (hbXY.mono HBLX.out.size))
     have hms8:=HMX.out.below hbXY
     have HMY8:=Lh hms8
     have HR8:=Lh (show Rep WY WX.heap.size w7.heap.size (qd ⟨t3,d3⟩) (.agg #[.int .u8 5,.int .i64 0,.string ⟨#[]⟩,.slice bn 2 bc,.slice bi 2 bd]) from hr7.below hbY lz lz lz)
     have HZ8:=Lh (show w5.heap.size≤WX.heap.size∧w7.heap.size≤WY.heap.size∧w5.heap.size≤WY.heap.size from ⟨HBLX.out.size,hbY.size,HBLY.out.size⟩)
     have HOB8:=Lh (show ∀b,(Value.slice am 2 cm).ownBlock=some b→b<WX.heap.size from fun b hb=>(HMX.out.own.lt _ hb).2)
     have HOD:=Lh (show WY.drew.ownsRow w5.heap.size 98 6 (.slice am 2 cm) 2 (xN ms) from by
      have:=qJ hms8.own ((Below.refl WY.heap.size WY).drew)
      rwa [HML.out] at this)
     have HWY:=Lh hWY
     have gk:=(HI.out WY HBY.out).2.2.2.2.c2
     obtain ⟨y0,y1,y2,y3,y4⟩:=bx5 hxY
     have hzY:w5.heap.size≤WY.heap.size:=HBLY.out.size
     clear hr7 hb7 hWY hbY hxY hbXY hms8 HMX
     go_upto_region 14 with fail
     rw [← HWY.out]
     go_upto_region 16 with fail
     go_region_law (refine step_append_lies _ (by rfl) (.tmp 49) (.tmp 55) 94 (by rfl) w5.heap.size 98 i4 _ 6 96 Tryz.underlying94 hi4 hy0 hy1 hy2 rfl (by omega) (.slice am 2 cm) 2 (xN ms) (by rfl) (HOD.out.alloc _) ⟨WY.heap.size,0,none⟩ 1 1 (Array.toList #[.string ⟨#[116,97,114,103,101,116,115]⟩,.int .u8 5,.int .i64 0,.string ⟨#[]⟩,.slice bn 2 bc,.slice bi 2 bd]) (by rfl) (by rfl) (World.news_of_block (cs:=#[.string ⟨#[116,97,114,103,101,116,115]⟩,.int .u8 5,.int .i64 0,.string ⟨#[]⟩,.slice bn 2 bc,.slice bi 2 bd]) (t:=98) (fr:=(0,0)) (heap_alloc_new WY.drew _)) (by simp [Value.oneCell']) (by omega) (by unfold maxLen;omega) (by omega) (by simp;omega) (WY.heap.size+1) (by simp) ?_;intro g2 cap3 w4 hown4 hgrow4 hat4 hlt4;have HO4:=Lh hown4;have HG4:=Lh hgrow4;have HA4:=Lh hat4;clear hown4 hgrow4 hat4)
     all_goals
      have hbd:Below WY.heap.size WY (WY.drew.alloc (.cells #[.string ⟨#[116,97,114,103,101,116,115]⟩,.int .u8 5,.int .i64 0,.string ⟨#[]⟩,.slice bn 2 bc,.slice bi 2 bd] 98)):=(Below.refl WY.heap.size WY).drew.alloc lz _
      have HBF:=Lh (show Below w5.heap.size w5 w4 from HBLY.out.trans (below_grown (hbd.mono hzY) (Nat.le_trans hzY hbd.size) HG4.out (fun b hb=>(HOD.out.lt b hb).1)))
      have HMF:=Lh (show kQ w5.heap.size w4 (.slice (some ⟨g2,0,none⟩) (2+1) cap3) ([(qo,qd ⟨t1,d1⟩),(zp,qd ⟨t2,d2⟩)] ++ [(zO,qd ⟨t3,d3⟩)]) from yg (N:=[(qo,qd ⟨t1,d1⟩),(zp,qd ⟨t2,d2⟩)]) (w:=WY.drew) (it:=qd ⟨t3,d3⟩) (nm:=zO) (cs:=#[.string ⟨#[116,97,114,103,101,116,115]⟩,.int .u8 5,.int .i64 0,.string ⟨#[]⟩,.slice bn 2 bc,.slice bi 2 bd]) (T:=98) ⟨ms,HMY8.out.below ((Below.refl _ _).drew),HNM.out⟩ HZ8.out.1 HZ8.out.2.1 (fun b hb=>by have:=HOB8.out b hb;omega) (HR8.out.below ((Below.refl _ _).drew) HZ8.out.2.1 lz lz) HG4.out (HMY8.out.below ((Below.refl _ _).drew)) HNM.out HO4.out (by
       rcases HA4.out with h|h
       · exact .inl h
       · exact .inr (by simpa using h)))
      clear hbd y0 y1 y2 y3 y4 HO4 HG4 HA4
      go_wp2
      go_roundw
      case rel=>exact ⟨HBF.out,.inr (.inr (.inr ⟨rfl,HMF.out,_,_,rfl⟩))⟩
      case measure=>simp [intOf]
   · have HOB:=Lh (ab (W0:=w5.heap.size) (N:=[(qo,qd ⟨t1,d1⟩),(zp,qd ⟨t2,d2⟩),(zO,qd ⟨t3,d3⟩)]) [(qo,qd ⟨t1,d1⟩),(zp,qd ⟨t2,d2⟩),(zO,qd ⟨t3,d3⟩)] hmb (by
      obtain ⟨ms,h1,h2,h3⟩:=hmb.len
      obtain ⟨g,cap,h4,-⟩:=h1.holds (by rw [h3];exact Nat.zero_lt_succ _)
      rw [h3] at h4
      exact ⟨g,cap,h4⟩) (List.Perm.refl _) xP.1 (by show 3≤4294967296;decide) (fun p hp=>by
      have h1:=jO HM3.out.1;have h2:=jO HM3.out.2.1;have h3:=jO HM3.out.2.2
      simp only [List.mem_cons,List.not_mem_nil,or_false] at hp
      rcases hp with rfl|rfl|rfl
      · exact Nat.le_trans h1 (by decide)
      · exact Nat.le_trans h2 (by decide)
      · exact Nat.le_trans h3 (by decide)) (by have:=HZ5.out;omega))
     have HWR:=Lh (show (qT ⟨⟨t1,d1⟩,⟨t2,d2⟩,⟨t3,d3⟩⟩).wt≤4294967296∧(xk l).wt≤4294967296 from ⟨Nat.le_trans (dG HPT.out.2.2.2) (by decide),Nat.le_trans (ct fun k hk=>ue ((zV.1 HPT.out.2.2.1).2.1 k hk)) (by have:l.length≤40:=HF.out.len;omega)⟩)
     clear hmb
     unfold jZ at HOB
     go_wp2_with fail
     refine HOB.out.mono ?_
     clear HOB
     rintro r w6 ⟨rn,rc,ri,rd,rfl,hr6,hb6⟩
     obtain ⟨q2,hq2⟩:∃q2,q2=w6.heap.size:=⟨_,rfl⟩
     obtain ⟨W6,hW6⟩:∃W6,W6=w6.alloc (.cells #[.int .u8 5,.int .i64 0,.string ⟨#[]⟩,.slice rn 3 rc,.slice ri 3 rd] 25):=⟨_,rfl⟩
     have hb67:Below w6.heap.size w6 W6:=by rw [hW6];exact (Below.refl _ _).alloc lz _
     have hx6:W6.heap[q2]?=some (.cells #[.int .u8 5,.int .i64 0,.string ⟨#[]⟩,.slice rn 3 rc,.slice ri 3 rd] 25 (0,0)):=by rw [hW6,hq2];exact heap_alloc_new w6 _
     have hb5r:Below w5.heap.size w5 W6:=HBL.out.trans ((hb6.trans (hb67.mono hb6.size)).mono HBL.out.size)
     have HRL:=Lh (show Rep W6 wz.heap.size W6.heap.size (qT ⟨⟨t1,d1⟩,⟨t2,d2⟩,⟨t3,d3⟩⟩) (.agg #[.int .u8 5,.int .i64 0,.string ⟨#[]⟩,.slice rn 3 rc,.slice ri 3 rd]) from by
      have h1:=HZ5.out;have h2:=HBL.out.size
      exact (show Rep w6 wr.heap.size w6.heap.size (qT ⟨⟨t1,d1⟩,⟨t2,d2⟩,⟨t3,d3⟩⟩) (.agg #[.int .u8 5,.int .i64 0,.string ⟨#[]⟩,.slice rn 3 rc,.slice ri 3 rd]) from hr6).below hb67 lz (by omega) hb67.size)
     have HTL:=Lh (HTB.out.below hb5r lz lz hb5r.size)
     have HB6:=Lh (HB.out.trans (hb5r.mono HB.out.size))
     have HRR:=Lh (qx hb5r HR.out HR.out.lt)
     have HC6:=Lh (show ∀w':World,Below W6.heap.size W6 w'→w'.cell? ⟨w.heap.size,0,none⟩=some (.int .i64 v)∧(w'.cell? ⟨q,0,none⟩=some (.int .u8 5)∧w'.cell? ⟨q,1,none⟩=some (.int .i64 0)∧w'.cell? ⟨q,2,none⟩=some (.string ⟨#[]⟩)∧w'.cell? ⟨q,3,none⟩=some (.slice an l.length cn)∧w'.cell? ⟨q,4,none⟩=some (.slice ai l.length ci))∧(w'.cell? ⟨q2,0,none⟩=some (.int .u8 5)∧w'.cell? ⟨q2,1,none⟩=some (.int .i64 0)∧w'.cell? ⟨q2,2,none⟩=some (.string ⟨#[]⟩)∧w'.cell? ⟨q2,3,none⟩=some (.slice rn 3 rc)∧w'.cell? ⟨q2,4,none⟩=some (.slice ri 3 rd)) from fun w' h=>by
      have h5:=hb5r.trans (h.mono hb5r.size)
      have y:=(h5.block _ (qz HX.out)).trans HX.out
      have z:=(h5.block _ (qz HXQ.out)).trans HXQ.out
      have u:=(h.block _ (qz hx6)).trans hx6
      exact ⟨qq y rfl,⟨qq z rfl,qq z rfl,qq z rfl,qq z rfl,qq z rfl⟩,qq u rfl,qq u rfl,qq u rfl,qq u rfl,qq u rfl⟩)
     have HZ6:=Lh (show 0<wz.heap.size∧wz.heap.size≤W6.heap.size∧w.heap.size+1<wz.heap.size from by have h1:=HZ5.out;have h2:=hb5r.size;have h3:=HZ2.out;omega)
     have HOBJ:=Lh (show ∀(w':World) (b:Nat),Below W6.heap.size W6 w'→w'.heap[b]?=some (.cells #[.string ⟨#[95,116,121,112,101]⟩,.int .u8 3,.int .i64 0,.string ⟨#[114,111,111,116]⟩,.slice none 0 0,.slice none 0 0,.string ⟨#[118,101,114,115,105,111,110]⟩,.int .u8 2,.int .i64 v,.string ⟨#[]⟩,.slice none 0 0,.slice none 0 0,.string ⟨#[101,120,112,105,114,101,115]⟩,.int .u8 3,.int .i64 0,.string ds,.slice none 0 0,.slice none 0 0,.string ⟨#[107,101,121,115]⟩,.int .u8 5,.int .i64 0,.string ⟨#[]⟩,.slice an l.length cn,.slice ai l.length ci,.string ⟨#[114,111,108,101,115]⟩,.int .u8 5,.int .i64 0,.string ⟨#[]⟩,.slice rn 3 rc,.slice ri 3 rd] 98 (0,0))→Calls Tryz.prog 62 #[.slice (some ⟨b,0,none⟩) 5 5] w' (fun e wz'=>∃y,e=.returned y∧rR wz.heap.size (wY v ds l ⟨⟨t1,d1⟩,⟨t2,d2⟩,⟨t3,d3⟩⟩) wz' y∧Below w'.heap.size w' wz') from fun w' b hbw hm=>by
      refine (sq v ds l ⟨⟨t1,d1⟩,⟨t2,d2⟩,⟨t3,d3⟩⟩ an ai rn ri cn ci rc rd b 5 w' wz.heap.size HZ6.out.1 HDS.out HWR.out.2 HWR.out.1 (HTL.out.below hbw lz lz hbw.size) (HRL.out.below hbw lz lz hbw.size) (vM (T:=98) (by rw [hm];unfold mI;rw [d9];rfl)) (qz hm)).mono ?_
      rintro e wz' ⟨a7,c7,j7,k7,rfl,hr7,hb7⟩
      refine ⟨_,rfl,⟨a7,c7,j7,k7,rfl,?_⟩,hb7⟩
      exact Rep.carry (Nat.le_trans HZ6.out.2.1 hbw.size) lz (fun _ _ _=>rfl) _ _ hr7)
     have HW6:=Lh hW6
     have HQ2:=Lh hq2
     clear hr6 hb6 hW6 hb67 hx6 hb5r hq2
     go_upto_region 19 with fail
     rw [← HW6.out,← HQ2.out]
     clear HW6 HQ2
     go_upto_region 21 with fail
     obtain ⟨V,hV⟩:∃V:List MP,V=[.con (.agg #[.int .u8 3,.int .i64 0,.string ⟨#[114,111,111,116]⟩,.slice none 0 0,.slice none 0 0]),.con (.agg #[.string ⟨#[95,116,121,112,101]⟩,.int .u8 3,.int .i64 0,.string ⟨#[114,111,111,116]⟩,.slice none 0 0,.slice none 0 0]),.con (.pointer (some ⟨w.heap.size,0,none⟩)),.con (.int .i64 v),.con (.agg #[.int .u8 2,.int .i64 v,.string ⟨#[]⟩,.slice none 0 0,.slice none 0 0]),.con (.agg #[.string ⟨#[118,101,114,115,105,111,110]⟩,.int .u8 2,.int .i64 v,.string ⟨#[]⟩,.slice none 0 0,.slice none 0 0]),.con (.string ds),.con (.agg #[.int .u8 3,.int .i64 0,.string ds,.slice none 0 0,.slice none 0 0]),.con (.agg #[.string ⟨#[101,120,112,105,114,101,115]⟩,.int .u8 3,.int .i64 0,.string ds,.slice none 0 0,.slice none 0 0]),.con (.agg #[.int .u8 5,.int .i64 0,.string ⟨#[]⟩,.slice an l.length cn,.slice ai l.length ci]),.con (.agg #[.string ⟨#[107,101,121,115]⟩,.int .u8 5,.int .i64 0,.string ⟨#[]⟩,.slice an l.length cn,.slice ai l.length ci]),.con (.agg #[.int .u8 5,.int .i64 0,.string ⟨#[]⟩,.slice rn 3 rc,.slice ri 3 rd]),.con (.agg #[.string ⟨#[114,111,108,101,115]⟩,.int .u8 5,.int .i64 0,.string ⟨#[]⟩,.slice rn 3 rc,.slice ri 3 rd]),.row W6.heap.size 5 98 #[.string ⟨#[95,116,121,112,101]⟩,.int .u8 3,.int .i64 0,.string ⟨#[114,111,111,116]⟩,.slice none 0 0,.slice none 0 0,.string ⟨#[118,101,114,115,105,111,110]⟩,.int .u8 2,.int .i64 v,.string ⟨#[]⟩,.slice none 0 0,.slice none 0 0,.string ⟨#[101,120,112,105,114,101,115]⟩,.int .u8 3,.int .i64 0,.string ds,.slice none 0 0,.slice none 0 0,.string ⟨#[107,101,121,115]⟩,.int .u8 5,.int .i64 0,.string ⟨#[]⟩,.slice an l.length cn,.slice ai l.length ci,.string ⟨#[114,111,108,101,115]⟩,.int .u8 5,.int .i64 0,.string ⟨#[]⟩,.slice rn 3 rc,.slice ri 3 rd],.tup5 wz.heap.size (wY v ds l ⟨⟨t1,d1⟩,⟨t2,d2⟩,⟨t3,d3⟩⟩),.obj5 wz.heap.size (wY v ds l ⟨⟨t1,d1⟩,⟨t2,d2⟩,⟨t3,d3⟩⟩),.con (.int .i64 0)]:=⟨_,rfl⟩
     have HV:=Lh hV
     clear hV
     refine xJ 17 (fun d a' w'=>∃x66 x67 x68 x69 x70 x71 x72 x73 x74 x75 x76 x77 x78 x79 x80 x81 x82,a'=⟨#[Value.agg #[Value.int IntKind.i64 v,Value.int IntKind.i64 e,Value.slice ka l.length kc,Value.int IntKind.i64 t1,Value.slice i1 d1.length c1,Value.int IntKind.i64 t2,Value.slice i2 d2.length c2,Value.int IntKind.i64 t3,Value.slice i3 d3.length c3],Value.pointer (some { block:=w.heap.size,off:=0 }),Value.pointer (some { block:=w.heap.size+1,off:=0 }),u3,Value.string ds,Value.int IntKind.i64 0,Value.pointer (some { block:=q,off:=0 }),Value.slice am 3 cm,u8,u9,u10,u11,Value.pointer (some { block:=q2,off:=0 }),Value.agg #[Value.int IntKind.i64 v,Value.int IntKind.i64 e,Value.slice ka l.length kc,Value.int IntKind.i64 t1,Value.slice i1 d1.length c1,Value.int IntKind.i64 t2,Value.slice i2 d2.length c2,Value.int IntKind.i64 t3,Value.slice i3 d3.length c3],Value.bool true,Value.bool false,undef,Value.tuple #[Value.string ds,Value.int IntKind.i64 0],Value.pointer (some { block:=w.heap.size,off:=1 }),Value.int IntKind.i64 e,Value.tuple #[Value.string ds,Value.int IntKind.i64 0],Value.string ds,Value.int IntKind.i64 0,Value.int IntKind.i64 0,Value.bool false,undef,Value.tuple #[Value.agg #[Value.int IntKind.u8 5,Value.int IntKind.i64 0,Value.string ⟨#[]⟩,Value.slice an l.length cn,Value.slice ai l.length ci],Value.int IntKind.i64 0],Value.pointer (some { block:=w.heap.size,off:=2 }),Value.slice ka l.length kc,Value.tuple #[Value.agg #[Value.int IntKind.u8 5,Value.int IntKind.i64 0,Value.string ⟨#[]⟩,Value.slice an l.length cn,Value.slice ai l.length ci],Value.int IntKind.i64 0],Value.agg #[Value.int IntKind.u8 5,Value.int IntKind.i64 0,Value.string ⟨#[]⟩,Value.slice an l.length cn,Value.slice ai l.length ci],Value.int IntKind.i64 0,Value.int IntKind.i64 0,Value.bool false,undef,Value.agg #[Value.int IntKind.i64 v,Value.int IntKind.i64 e,Value.slice ka l.length kc,Value.int IntKind.i64 t1,Value.slice i1 d1.length c1,Value.int IntKind.i64 t2,Value.slice i2 d2.length c2,Value.int IntKind.i64 t3,Value.slice i3 d3.length c3],Value.agg #[Value.int IntKind.i64 t1,Value.slice i1 d1.length c1,Value.int IntKind.i64 t2,Value.slice i2 d2.length c2,Value.int IntKind.i64 t3,Value.slice i3 d3.length c3],Value.int IntKind.i64 3,Value.bool false,u39,u40,u41,u42,u43,u44,u45,u46,u47,u48,u49,u50,u51,u52,u53,u54,u55,u56,u57,Value.tuple #[Value.agg #[Value.int IntKind.u8 5,Value.int IntKind.i64 0,Value.string ⟨#[]⟩,Value.slice rn 3 rc,Value.slice ri 3 rd],Value.int IntKind.i64 0],Value.slice am 3 cm,Value.tuple #[Value.agg #[Value.int IntKind.u8 5,Value.int IntKind.i64 0,Value.string ⟨#[]⟩,Value.slice rn 3 rc,Value.slice ri 3 rd],Value.int IntKind.i64 0],Value.agg #[Value.int IntKind.u8 5,Value.int IntKind.i64 0,Value.string ⟨#[]⟩,Value.slice rn 3 rc,Value.slice ri 3 rd],Value.int IntKind.i64 0,Value.int IntKind.i64 0,Value.bool false,undef,x66,x67,x68,x69,x70,x71,x72,x73,x74,x75,x76,x77,x78,x79,x80,x81,x82],[]⟩∧xm W6 V d w' [x66,x67,x68,x69,x70,x71,x72,x73,x74,x75,x76,x77,x78,x79,x80,x81,x82]) (by kernel_rfl) (by kernel_rfl) ?first ?step ?last
     case first=>exact ⟨_,_,_,_,_,_,_,_,_,_,_,_,_,_,_,_,_,rfl,xm.first _ _ _ (by rw [HV.out];rfl)⟩
     case step =>
      rintro d a' w' ⟨x66,x67,x68,x69,x70,x71,x72,x73,x74,x75,x76,x77,x78,x79,x80,x81,x82,rfl,h⟩ q hq hn hw
      rcases q with _|_|_|_|_|_|_|_|_|_|_|_|_|_|_|_|_|q
      · obtain ⟨q0,⟨y0,y1,y2,y3,y4⟩,z0,z1,z2,z3,z4⟩:=HC6.out w' h.1
        refine wpOp_step rfl fun K hK=>?_
        go_simp
        refine (p0 _ w').mono ?_
        rintro e w2 ⟨rfl,hb2⟩
        exact hK _ _ ⟨_,x67,x68,x69,x70,x71,x72,x73,x74,x75,x76,x77,x78,x79,x80,x81,x82,rfl,h.didC hb2 0 _ HV rfl⟩
      · obtain rfl:=h.con 0 (hw _ rfl ⟨0,.data⟩ (by simp) rfl) HV rfl rfl
        refine wpOp_step rfl fun K hK=>?_
        go_simp
        exact hK _ _ ⟨_,_,x68,x69,x70,x71,x72,x73,x74,x75,x76,x77,x78,x79,x80,x81,x82,rfl,h.sameC 1 _ HV rfl⟩
      · refine wpOp_step rfl fun K hK=>?_
        go_simp
        exact hK _ _ ⟨x66,x67,_,x69,x70,x71,x72,x73,x74,x75,x76,x77,x78,x79,x80,x81,x82,rfl,h.sameC 2 _ HV rfl⟩
      · obtain rfl:=h.con 2 (hw _ rfl ⟨2,.data⟩ (by simp) rfl) HV rfl rfl
        obtain ⟨q0,⟨y0,y1,y2,y3,y4⟩,z0,z1,z2,z3,z4⟩:=HC6.out w' h.1
        refine wpOp_step rfl fun K hK=>?_
        go_simp
        exact hK _ _ ⟨x66,x67,_,_,x70,x71,x72,x73,x74,x75,x76,x77,x78,x79,x80,x81,x82,rfl,h.sameC 3 _ HV rfl⟩
      · obtain rfl:=h.con 3 (hw _ rfl ⟨3,.data⟩ (by simp) rfl) HV rfl rfl
        obtain ⟨q0,⟨y0,y1,y2,y3,y4⟩,z0,z1,z2,z3,z4⟩:=HC6.out w' h.1
        refine wpOp_step rfl fun K hK=>?_
        go_simp
        refine (rL v w').mono ?_
        rintro e w2 ⟨rfl,hb2⟩
        exact hK _ _ ⟨x66,x67,x68,_,_,x71,x72,x73,x74,x75,x76,x77,x78,x79,x80,x81,x82,rfl,h.didC hb2 4 _ HV rfl⟩
      · obtain rfl:=h.con 4 (hw _ rfl ⟨4,.data⟩ (by simp) rfl) HV rfl rfl
        refine wpOp_step rfl fun K hK=>?_
        go_simp
        exact hK _ _ ⟨x66,x67,x68,x69,_,_,x72,x73,x74,x75,x76,x77,x78,x79,x80,x81,x82,rfl,h.sameC 5 _ HV rfl⟩
      · refine wpOp_step rfl fun K hK=>?_
        go_simp
        exact hK _ _ ⟨x66,x67,x68,x69,x70,x71,_,x73,x74,x75,x76,x77,x78,x79,x80,x81,x82,rfl,h.sameC 6 _ HV rfl⟩
      · obtain rfl:=h.con 6 (hw _ rfl ⟨6,.data⟩ (by simp) rfl) HV rfl rfl
        obtain ⟨q0,⟨y0,y1,y2,y3,y4⟩,z0,z1,z2,z3,z4⟩:=HC6.out w' h.1
        refine wpOp_step rfl fun K hK=>?_
        go_simp
        refine (p0 ds w').mono ?_
        rintro e w2 ⟨rfl,hb2⟩
        exact hK _ _ ⟨x66,x67,x68,x69,x70,x71,_,_,x74,x75,x76,x77,x78,x79,x80,x81,x82,rfl,h.didC hb2 7 _ HV rfl⟩
      · obtain rfl:=h.con 7 (hw _ rfl ⟨7,.data⟩ (by simp) rfl) HV rfl rfl
        refine wpOp_step rfl fun K hK=>?_
        go_simp
        exact hK _ _ ⟨x66,x67,x68,x69,x70,x71,x72,_,_,x75,x76,x77,x78,x79,x80,x81,x82,rfl,h.sameC 8 _ HV rfl⟩
      · obtain ⟨q0,⟨y0,y1,y2,y3,y4⟩,z0,z1,z2,z3,z4⟩:=HC6.out w' h.1
        refine wpOp_step rfl fun K hK=>?_
        go_simp
        exact hK _ _ ⟨x66,x67,x68,x69,x70,x71,x72,x73,x74,_,x76,x77,x78,x79,x80,x81,x82,rfl,h.sameC 9 _ HV rfl⟩
      · obtain rfl:=h.con 9 (hw _ rfl ⟨9,.data⟩ (by simp) rfl) HV rfl rfl
        refine wpOp_step rfl fun K hK=>?_
        go_simp
        exact hK _ _ ⟨x66,x67,x68,x69,x70,x71,x72,x73,x74,_,_,x77,x78,x79,x80,x81,x82,rfl,h.sameC 10 _ HV rfl⟩
      · obtain ⟨q0,⟨y0,y1,y2,y3,y4⟩,z0,z1,z2,z3,z4⟩:=HC6.out w' h.1
        refine wpOp_step rfl fun K hK=>?_
        go_simp
        exact hK _ _ ⟨x66,x67,x68,x69,x70,x71,x72,x73,x74,x75,x76,_,x78,x79,x80,x81,x82,rfl,h.sameC 11 _ HV rfl⟩
      · obtain rfl:=h.con 11 (hw _ rfl ⟨11,.data⟩ (by simp) rfl) HV rfl rfl
        refine wpOp_step rfl fun K hK=>?_
        go_simp
        exact hK _ _ ⟨x66,x67,x68,x69,x70,x71,x72,x73,x74,x75,x76,_,_,x79,x80,x81,x82,rfl,h.sameC 12 _ HV rfl⟩
      · obtain rfl:=h.con 1 (hw _ rfl ⟨1,.data⟩ (by simp) rfl) HV rfl rfl
        obtain rfl:=h.con 5 (hw _ rfl ⟨5,.data⟩ (by simp) rfl) HV rfl rfl
        obtain rfl:=h.con 8 (hw _ rfl ⟨8,.data⟩ (by simp) rfl) HV rfl rfl
        obtain rfl:=h.con 10 (hw _ rfl ⟨10,.data⟩ (by simp) rfl) HV rfl rfl
        obtain rfl:=h.con 12 (hw _ rfl ⟨12,.data⟩ (by simp) rfl) HV rfl rfl
        refine wpOp_step rfl fun K hK=>?_
        go_simp
        exact hK _ _ ⟨x66,_,x68,x69,x70,_,x72,x73,_,x75,_,x77,_,_,x80,x81,x82,rfl,h.new _ 13 _ (.row W6.heap.size 5 98 #[.string ⟨#[95,116,121,112,101]⟩,.int .u8 3,.int .i64 0,.string ⟨#[114,111,111,116]⟩,.slice none 0 0,.slice none 0 0,.string ⟨#[118,101,114,115,105,111,110]⟩,.int .u8 2,.int .i64 v,.string ⟨#[]⟩,.slice none 0 0,.slice none 0 0,.string ⟨#[101,120,112,105,114,101,115]⟩,.int .u8 3,.int .i64 0,.string ds,.slice none 0 0,.slice none 0 0,.string ⟨#[107,101,121,115]⟩,.int .u8 5,.int .i64 0,.string ⟨#[]⟩,.slice an l.length cn,.slice ai l.length ci,.string ⟨#[114,111,108,101,115]⟩,.int .u8 5,.int .i64 0,.string ⟨#[]⟩,.slice rn 3 rc,.slice ri 3 rd]) (by rw [HV.out];rfl) (jC.made _ h.1.size)⟩
      · obtain ⟨b79,k79,rfl,m79⟩:=h.get 13 (hw _ rfl ⟨13,.data⟩ (by simp) rfl) (.row W6.heap.size 5 98 #[.string ⟨#[95,116,121,112,101]⟩,.int .u8 3,.int .i64 0,.string ⟨#[114,111,111,116]⟩,.slice none 0 0,.slice none 0 0,.string ⟨#[118,101,114,115,105,111,110]⟩,.int .u8 2,.int .i64 v,.string ⟨#[]⟩,.slice none 0 0,.slice none 0 0,.string ⟨#[101,120,112,105,114,101,115]⟩,.int .u8 3,.int .i64 0,.string ds,.slice none 0 0,.slice none 0 0,.string ⟨#[107,101,121,115]⟩,.int .u8 5,.int .i64 0,.string ⟨#[]⟩,.slice an l.length cn,.slice ai l.length ci,.string ⟨#[114,111,108,101,115]⟩,.int .u8 5,.int .i64 0,.string ⟨#[]⟩,.slice rn 3 rc,.slice ri 3 rd]) (by rw [HV.out];rfl) _ rfl
        obtain ⟨q0,⟨y0,y1,y2,y3,y4⟩,z0,z1,z2,z3,z4⟩:=HC6.out w' h.1
        refine wpOp_step rfl fun K hK=>?_
        go_simp
        refine (HOBJ.out w' b79 h.1 m79).mono ?_
        rintro e w2 ⟨y,rfl,hy,hb2⟩
        exact hK _ _ ⟨x66,x67,x68,x69,x70,x71,x72,x73,x74,x75,x76,x77,x78,_,_,x81,x82,rfl,h.did hb2 14 _ (.tup5 wz.heap.size (wY v ds l ⟨⟨t1,d1⟩,⟨t2,d2⟩,⟨t3,d3⟩⟩)) (by rw [HV.out];rfl) hy⟩
      · have hs80:=h.get 14 (hw _ rfl ⟨14,.data⟩ (by simp) rfl) (.tup5 wz.heap.size (wY v ds l ⟨⟨t1,d1⟩,⟨t2,d2⟩,⟨t3,d3⟩⟩)) (by rw [HV.out];rfl) _ rfl
        obtain ⟨an7,cn7,ai7,ci7,rfl,hr7⟩:=hs80
        refine wpOp_step rfl fun K hK=>?_
        go_simp
        exact hK _ _ ⟨x66,x67,x68,x69,x70,x71,x72,x73,x74,x75,x76,x77,x78,x79,_,_,x82,rfl,h.same 15 _ (.obj5 wz.heap.size (wY v ds l ⟨⟨t1,d1⟩,⟨t2,d2⟩,⟨t3,d3⟩⟩)) (by rw [HV.out];rfl) ⟨_,_,_,_,rfl,hr7⟩⟩
      · have hs80:=h.get 14 (hw _ rfl ⟨14,.data⟩ (by simp) rfl) (.tup5 wz.heap.size (wY v ds l ⟨⟨t1,d1⟩,⟨t2,d2⟩,⟨t3,d3⟩⟩)) (by rw [HV.out];rfl) _ rfl
        obtain ⟨an7,cn7,ai7,ci7,rfl,hr7⟩:=hs80
        refine wpOp_step rfl fun K hK=>?_
        go_simp
        exact hK _ _ ⟨x66,x67,x68,x69,x70,x71,x72,x73,x74,x75,x76,x77,x78,x79,_,x81,_,rfl,h.same 16 _ (.con (.int .i64 0)) (by rw [HV.out];rfl) rfl⟩
      · omega
     case last =>
      rintro d a' w' hall ⟨x66,x67,x68,x69,x70,x71,x72,x73,x74,x75,x76,x77,x78,x79,x80,x81,x82,rfl,h⟩
      have hle:=h.1
      have hs81:=h.get 15 (hall _ (by omega)) (.obj5 wz.heap.size (wY v ds l ⟨⟨t1,d1⟩,⟨t2,d2⟩,⟨t3,d3⟩⟩)) (by rw [HV.out];rfl) _ rfl
      obtain rfl:=h.con 16 (hall _ (by omega)) HV rfl rfl
      have HLE:=Lh hle
      clear h hall hle HV
      have hb67:=HLE.out
      obtain ⟨an7,cn7,ai7,ci7,rfl,hr7⟩:=hs81
      have hres:=qx hb67 HRR.out HRR.out.lt
      have HRS:=Lh hres
      have HR7:=Lh hr7
      have HB7:=Lh (HB6.out.trans (hb67.mono HB6.out.size))
      obtain ⟨b0,b1,b2,b3,b4⟩:=rc5 hres
      obtain ⟨s0,s1,s2,s3,s4⟩:=rf5 hres
      simp only [qQ] at b0 b1 b2 b3 b4
      clear hres hr7 hb67 HOBJ
      go_wp2
      refine bodyPost_ret (qj Tryz.results23 _ _ (w.heap.size+1) 25 _ (0,0) _ rfl (qs (set5 _ _ _ _ _ HRS.out)) Tryz.underlying25 rfl (by kernel_rfl) _ rfl) rfl ?_
      rw [HV.out]
      have e9:wY v ds l ⟨⟨t1,d1⟩,⟨t2,d2⟩,⟨t3,d3⟩⟩=zB ⟨v,e,l,⟨⟨t1,d1⟩,⟨t2,d2⟩,⟨t3,d3⟩⟩⟩:=by rw [HDE.out];rfl
      have hrr:=HR7.out
      rw [e9] at hrr
      exact ⟨an7,cn7,ai7,ci7,rfl,Rep.carry (by have:=HZ6.out;omega) (show w'.heap.size≤_ by simp [World.setCell]) (fun j hj _=>jB _ _ _ _ _ (by have:=HZ6.out;omega)) _ _ hrr,zy _ _ _ _ _ HB7.out (by omega)⟩
end Go.Proofs.YtnlgmcapbbgelaaGreatDoor
