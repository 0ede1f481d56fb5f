import Derived.Test.YtkllbdlebjomkaaGreatDoorTn24
set_option maxHeartbeats 4000000
set_option maxRecDepth 100000

namespace Go.Proofs.YtkllbdlebjomkaaGreatDoor
open Go.RowKit
theorem below_grow {W w':World} {row:Option Nat} (wr:World) (_h:W.grownBy w' row) (a:O5 wr W):O5 wr W:=a
theorem mu {α:Type} {a l:List α} {q k:Nat} (h:q<=k) (b:k<l.length):a ++ (l.drop q).take (k+1 - q)=a ++ (l.drop q).take (k - q) ++ [l[k]]:=by
 have e:k+1 - q=(k - q)+1:=by omega
 rw [e,Z7 (by rw [zb9];omega),<- List.append_assoc,List.getElem_drop];congr 3;omega
def aD (C:JV->Prop) (v:JV) (y:ByteArray) (w:World) (e:Ending) (w':World):Prop :=
 ∃(r:Nat) (f:Bool) (x':JV) (an:Option Addr) (cn:Nat) (ai:Option Addr) (ci:Nat),r<=v.names.length/\(∀t (h:t<v.names.length),t<r->bl v.names[t] y=true)/\(∀t (h:t<v.names.length),r<=t->bl v.names[t] y=false) /\
  (f=true->∃h:r<v.names.length,v.names[r]=y)/\(f=false->∀t (h:t<v.names.length),v.names[t]≠y)/\C x' /\
  e=.returned (.tuple #[.agg #[.int .u8 5,.int .i64 0,.string ⟨#[]⟩,.slice an (cF v r f y).length cn,.slice ai (cH v r f x').length ci],.int .i64 0]) /\
  Rep w' w.heap.size w'.heap.size (cU v r f y x') (.agg #[.int .u8 5,.int .i64 0,.string ⟨#[]⟩,.slice an (cF v r f y).length cn,.slice ai (cH v r f x').length ci])/\O5 w w'
def oq (C:JV->Prop) (lo:Nat) (v:JV):Prop:=∀(x:Value) (w:World) (hi:Nat),hi<=w.heap.size->Rep w lo hi v x->Calls Tryz.prog 20 #[x] w (fun e w'=>∃u an cn ai ci,C u/\e=.returned (.agg #[.int .u8 u.kind,.int .i64 u.n,.string u.t,.slice an u.names.length cn,.slice ai u.items.length ci])/\Rep w' w.heap.size w'.heap.size u (.agg #[.int .u8 u.kind,.int .i64 u.n,.string u.t,.slice an u.names.length cn,.slice ai u.items.length ci])/\O5 w w')
theorem mc {v:JV} {lo:Nat} (h:bk lo v):oq (fun u=>u=v) lo v:=fun x w hi hhi hR=>(h x w hi hhi hR).mono fun _ _ ⟨an,cn,ai,ci,h1,h2,h3⟩=>⟨v,an,cn,ai,ci,rfl,h1,h2,h3⟩
theorem fN (C:JV->Prop) (lx lo:Nat) (v:JV) (y:ByteArray) (x:JV) (xv xx:Value) (w:World) (v9:v.wt<=2000000000) (_hwx:x.wt<=2000000000) (hk:v.kind=5) (v7:v.n=0) (v8:v.t=⟨#[]⟩) (r0:v.names.length=v.items.length)
 (hr:qd v.names=true) (v6:∀it ∈ v.items,bk lo it) (hV:Rep w lo w.heap.size v xv) (hX:Rep w lx w.heap.size x xx) (v5:oq C lx x) :
 Calls Tryz.prog 11 #[xv,.string y,xx] w (aD C v y w):=by
 obtain ⟨an,cn,ai,ci,rfl,-,-,h3,h4⟩:=hV.parts;obtain ⟨bn,dn,bi,di,rfl,-,-,-,-⟩:=hX.parts;obtain ⟨b1,b2,b3,b4⟩:=v.wt_bd;obtain ⟨Z,f8⟩:=O1 v.names.length;rw [hk,v7,v8,<- r0,<- f8];have b5:=U f8;have k1:=U (show v.items.length=Z by rw [f8,r0]);have v0:Z<=2000000000:=by rw [f8];omega
 have n3:=U hr;have i5:=U v6;have r5:=U v5;clear v5;obtain ⟨W0,e3⟩:=O1 (((w.alloc (.cells #[.int .u8 5,.int .i64 0,.string ⟨#[]⟩,.slice an Z cn,.slice ai Z ci] 26)).alloc (.cells #[.int .u8 x.kind,.int .i64 x.n,.string x.t,.slice bn x.names.length dn,.slice bi x.items.length di] 26)).alloc (.cells #[.int .u8 0,.int .i64 0,.string ⟨#[]⟩,.slice none 0 0,.slice none 0 0] 26));have q7:W0.heap.size=w.heap.size+3:=by rw [e3];simp
 have a5:=U (show O5 w W0 by rw [e3];exact ((O4).alloc (by simp) _).alloc (by simp;omega) _);have e0:=U (show W0.heap[w.heap.size]?=some (.cells #[.int .u8 5,.int .i64 0,.string ⟨#[]⟩,.slice an Z cn,.slice ai Z ci] 26 (0,0)) by rw [e3];exact nZ (qO _ _ _));have r8:=U (show W0.heap[w.heap.size+1]?=some (.cells #[.int .u8 x.kind,.int .i64 x.n,.string x.t,.slice bn x.names.length dn,.slice bi x.items.length di] 26 (0,0)) by rw [e3];exact nZ (kt _ _ _));have n5:=U (show W0.rowIs (w.heap.size+2) 26 5 (qo (.int .u8 0) (.int .i64 0) (.string ⟨#[]⟩) (.slice none 0 0) (.slice none 0 0)) by
  rw [e3];have:=qg ((w.alloc (.cells #[.int .u8 5,.int .i64 0,.string ⟨#[]⟩,.slice an Z cn,.slice ai Z ci] 26)).alloc (.cells #[.int .u8 x.kind,.int .i64 x.n,.string x.t,.slice bn x.names.length dn,.slice bi x.items.length di] 26)) (.int .u8 0) (.int .i64 0) (.string ⟨#[]⟩) (.slice none 0 0) (.slice none 0 0) 26;rwa [show ((w.alloc (.cells #[.int .u8 5,.int .i64 0,.string ⟨#[]⟩,.slice an Z cn,.slice ai Z ci] 26)).alloc (.cells #[.int .u8 x.kind,.int .i64 x.n,.string x.t,.slice bn x.names.length dn,.slice bi x.items.length di] 26)).heap.size=w.heap.size+2 by simp] at this)
 have HS:=U (h3.below a5.o lz (J0 _) a5.o.size);have HI:=U (h4.below a5.o lz lz a5.o.size);have HX:=U (hX.below a5.o lz lz a5.o.size);have i8:=U (xO v.names an cn W0 HS.o (by omega));rw [hr,<- f8] at i8;have n6:=U e3;have a2:=U q7;clear h3 h4 hX hV e3 q7 hr v6 f8 r0 hk v7 v8 b2 b3;obtain ⟨i1,k4,m4,m5,m6⟩:=V2 xi;obtain ⟨i2,k5,m1,m2,m3⟩:=V2 gb;go_enter Tryz.func11,Tryz.ntmps11;go_wp2_with fail;rw [<- n6.o];refine i8.o.mono ?_;clear i8 n6;rintro e w1 ⟨rfl,g7⟩;have i9:=U g7;have i3:=U (gN v.names y an cn w1 (HS.o.below g7 lz lz g7.size) (by rw [<- b5.o];omega) n3.o);rw [<- b5.o] at i3;unfold p0 at i3;obtain ⟨c0,c1,c2,c3,c4⟩:=jQ e0.o g7;clear g7;go_wp2_with fail;refine i3.o.mono ?_;clear i3 c0 c1 c2 c3 c4;rintro e w2 ⟨r,f,rfl,i4,q1,q2,l1,q3,o2⟩;have HQ:=U (And.intro q1 (And.intro q2 (And.intro l1 q3)));have q4:f=true->r<Z:=fun h=>by obtain ⟨h',_⟩:=l1 h;rw [b5.o];exact h'
 rw [<- b5.o] at i4;have i0:=U (O2 i9 o2);clear q1 q2 l1 q3 o2 i9;obtain ⟨q,hq⟩:=O1 (r+f.toNat);have t8:r<=q:=by omega
 have t7:q<=Z:=by
  rw [hq];cases f
  . simpa using i4
  . have:=q4 rfl;simp;omega
 go_upto_if 40 with fail
 go_cut [10] (fun s10 wx=>s10=.int .i64 (q:Int)/\wx=w2)
 case first =>
  cases f
  . go_wp2_with fail
    go_meet
    exact ⟨by rw [hq];simp,rfl⟩
  . have v3:IntKind.i64.wrap ((r:Int)+1)=(r:Int)+1:=N5 _ (by omega);go_wp2_with fail
    go_meet
    exact ⟨by rw [hq];simp,rfl⟩
 case rest =>
  obtain ⟨q6,d4⟩:=hcut;subst q6;subst d4;have k3:=U hq;clear hq q4;obtain ⟨c0,c1,c2,c3,c4⟩:=jQ e0.o i0.o;go_wp2_with fail;clear c0 c1 c2 c3 c4;have HO:=U (show ObjAt (wc.alloc (.cells #[.int .u8 5,.int .i64 0,.string ⟨#[]⟩,.slice none 0 0,.slice none 0 0] 26)) (wc.alloc (.cells #[.int .u8 5,.int .i64 0,.string ⟨#[]⟩,.slice none 0 0,.slice none 0 0] 26)) wc.heap.size 26 9 26 (.slice none 0 0) (.slice none 0 0) [] [] [] from
   ⟨by simp,Touch.refl _ _,qg _ _ _ _ _ _ _,Y3 _ _ _ _,Y3 _ _ _ _,qS.nil _ _ _,fun b hb=>by simp [Value.ownBlock] at hb⟩)
  have g3:=O0 (O5 W0 (wc.alloc (.cells #[.int .u8 5,.int .i64 0,.string ⟨#[]⟩,.slice none 0 0,.slice none 0 0] 26))) (uu i0.o);have o3:W0.heap.size<=wc.heap.size:=i0.o.size;clear i0;generalize (wc.alloc (.cells #[.int .u8 5,.int .i64 0,.string ⟨#[]⟩,.slice none 0 0,.slice none 0 0] 26))=W at HO g3 ⊢;generalize wc.heap.size=cb at HO o3 ⊢;have d7:=O0 (∀w',Touch (· = cb) W w'->O5 W0 w') (fun w' h=>g3.o.trans (h.below g3.o.size fun j hj e=>by omega));go_loopw [12,51] (fun _ i wr=>∃(k:Nat) (cs:List Value) (Y H:Value),k<=r/\i=.int .i64 k/\ObjAt W wr cb 26 9 26 Y H (v.names.take k) (v.items.take k) cs) (fun _ i _=>r - (intOf i).toNat)
  case atStart=>exact ⟨0,[],.slice none 0 0,.slice none 0 0,by omega,rfl,by simpa using HO.o⟩
  case round =>
   obtain ⟨k,cs,Y,H,p7,rfl,d3⟩:=hrel;have c:=U d3;clear d3;by_cases hlt:k<r
   . have d1:k<v.names.length:=by rw [<- b5.o];omega
     have K:k<v.items.length:=by rw [k1.o];omega
     have l:=U (d7.o wr c.o.touch);obtain ⟨pb,pf,ha,_,t6,y1⟩:=(HS.o.below l.o lz lz lz).at k d1;subst ha;obtain ⟨nk,e5⟩:=O1 (v.names[k]);replace y1:=y1.trans (J6 (fun z=>some (Value.string z)) e5.symm);have k2:=U e5;clear e5;obtain ⟨c0,c1,c2,c3,c4⟩:=jQ e0.o l.o;have h8:pb<wr.heap.size:=by have:=l.o.size;omega
     have h7:¬pb=wr.heap.size:=by omega
     have e8:w.heap.size<wr.heap.size:=by have:=l.o.size;have:=a2.o;omega
     have h9:¬w.heap.size=wr.heap.size:=by omega
     have j0:(0:Int)<=(k:Int):=by omega
     have j1:(k:Int)<(Z:Int):=by omega
     clear c0 c1 c2 c4;have c7:wr.cell? ⟨cb,3,none⟩=some Y:=c.o.row.cell (by decide);have c9:wr.frozen? ⟨cb,3,none⟩=false:=c.o.row.frozen 3;obtain ⟨S,L⟩:=O1 ((v.names.take k).length);have a9:=U L;have p6:S<=2000000001:=by rw [L];(try simp);omega
     have b0:=U (show wr.ownsRow W.heap.size 9 1 Y S ((v.names.take k).map .string) by rw [L];exact c.o.names);have F:cb<wr.heap.size:=c.o.row.lt;have d0:¬cb=wr.heap.size:=by omega
     have d6:W.heap.size<=wr.heap.size:=c.o.touch.size;have A:some cb≠Y.ownBlock:=fun e=>by have:=(c.o.names.lt _ e.symm).1;have:=c.o.lt;omega
     clear L;go_upto_region 13 with fail
     go_cut [62] (fun _ wx=>∃Y,ObjAt W wx cb 26 9 26 Y H (v.names.take k ++ [nk]) (v.items.take k) cs)
     case first =>
      go_region_law (first|(refine K9 _ (by rfl) (.tmp 55) (.tmp 61) 23 (by rfl) W.heap.size 9 i2 _ 1 16 M8 k5 m1 m2 m3 rfl (by decide) Y S ((v.names.take k).map .string) (by rfl) (by exact b0.o.alloc _) _ 1 1 [.string nk] (by rfl) (by rfl) (by exact J9 (cs:=#[.string nk]) (t:=9) (fr:=(0,0)) (Z5 _ _)) (by simp [Value.oneCell']) (by omega) (by unfold maxLen;omega) (by omega) (by simp;omega) _ rfl ?_;intro g1 cap2 w6 hown6 hgrow6 hat6 hlt6;have D:=U (below_grow wr hgrow6 (by first|exact (Z0 _ _).drew.alloc lz _|exact (O4).drew|exact O4));have n7:=vC hgrow6 D.o F A c7;have n9:=jE hgrow6 D.o F A c9;have c5:=U hown6;have a7:=U hgrow6;have a4:=U hat6;clear hown6 hgrow6 hat6))
      all_goals
       have a:=U (show ObjAt W (w6.setCell ⟨cb,3,none⟩ (.slice (some ⟨g1,0,none⟩) (S+1) cap2)) cb 26 9 26 (.slice (some ⟨g1,0,none⟩) (S+1) cap2) H (v.names.take k ++ [nk]) (v.items.take k) cs by
        have:=(c.o.below D.o).name nk (g:=g1) (cap:=cap2) a7.o (by rcases a4.o with h|h;exact .inl h;exact .inr (by have:=D.o.size;omega)) (by rw [<- a9.o];exact c5.o);rwa [<- a9.o] at this)
       clear c5 a7 a4 D;go_wp2_with fail
       go_meet
       exact ⟨_,a.o⟩
     case rest =>
      obtain ⟨g0,V⟩:=hcut;have a:=U V;clear V b0 c7 c9 A F d0 d6 c;obtain ⟨d,e7⟩:=O1 wc;rw [<- e7] at a;rw [<- e7];clear e7;clear y1 c3 h8 h7 e8 h9 l;have l:=U (d7.o d a.o.touch);obtain ⟨ib,io,f1,f3,f0,f2,k6,_,t5,y0,y1,y2,y3,y4,e6⟩:=(HI.o.below l.o lz lz lz).get k K;subst k6;have e4:=i5.o v.items[k] (J8 K);have m0:=JV.wts_get v.items k K;have T:∃it,it=v.items[k]:=⟨_,rfl⟩;obtain ⟨it,T⟩:=T;rw [<- T] at y0 y1 y2 y3 y4 e6 e4 m0;have k0:=U T;have j3:=U e4;have f5:=U (Rep.carry lz l.o.size (fun _ _ _=>rfl) _ _ e6);clear T e4 e6;obtain ⟨c0,c1,c2,c3,c4⟩:=jQ e0.o l.o;have h8:ib<d.heap.size:=by have:=l.o.size;omega
      have e8:w.heap.size<d.heap.size:=by have:=l.o.size;have:=a2.o;omega
      clear c0 c1 c2 c3;have f6:d.cell? ⟨cb,4,none⟩=some H:=a.o.row.cell (by decide);have f7:d.frozen? ⟨cb,4,none⟩=false:=a.o.row.frozen 4;obtain ⟨R,J⟩:=O1 ((v.items.take k).length);have a8:=U J;have i6:R<=2000000001:=by rw [J];(try simp);omega
      have a1:=U (show d.ownsRow W.heap.size 26 5 H R cs by rw [J];exact a.o.items);have B:cb<d.heap.size:=a.o.row.lt;have n0:W.heap.size<=d.heap.size:=a.o.touch.size;have A:some cb≠H.ownBlock:=fun e=>by have:=(a.o.items.lt _ e.symm).1;have:=a.o.lt;omega
      have a0:=U (show Calls Tryz.prog 20 #[.agg #[.int .u8 it.kind,.int .i64 it.n,.string it.t,.slice f1 it.names.length f3,.slice f0 it.items.length f2]] d.drew (fun e u=>∃o s m p,e=.returned (.agg #[.int .u8 it.kind,.int .i64 it.n,.string it.t,.slice o it.names.length s,.slice m it.items.length p])/\Rep u d.heap.size u.heap.size it (.agg #[.int .u8 it.kind,.int .i64 it.n,.string it.t,.slice o it.names.length s,.slice m it.items.length p])/\O5 d u/\d.heap.size<=u.heap.size/\u.cell? ⟨cb,4,none⟩=some H/\u.frozen? ⟨cb,4,none⟩=false/\u.ownsRow W.heap.size 26 5 H R cs) by
       refine (j3.o _ d.drew d.heap.size lz (show Rep d.drew lo d.heap.size it _ from Rep.carry (w:=d) (w':=d.drew) lz lz (fun _ _ _=>rfl) _ _ f5.o)).mono ?_;rintro e u ⟨o,s,m,p,rfl,M,I⟩;have E:O5 d u:=(Z0 _ _).drew.trans I;exact ⟨o,s,m,p,rfl,M,E,E.size,by rw [E.cell B];exact f6,by rw [E.frozen B];exact f7,qV a1.o E⟩)
      clear J;go_wp2_with fail
      go_region_law (first|(refine K9 _ (by rfl) (.tmp 65) (.tmp 72) 24 (by rfl) W.heap.size 26 i1 _ 5 80 K2 k4 m4 m5 m6 rfl (by omega) H R cs (by rfl) (b6.o.alloc _) ⟨u.heap.size,0,none⟩ 1 1 (Array.toList #[.int .u8 it.kind,.int .i64 it.n,.string it.t,.slice o it.names.length s,.slice m it.items.length p]) (by rfl) (by rfl) (J9 (cs:=#[.int .u8 it.kind,.int .i64 it.n,.string it.t,.slice o it.names.length s,.slice m it.items.length p]) (t:=26) (fr:=(0,0)) (Z5 u _)) (by simp [Value.oneCell']) (by omega) (by unfold maxLen;omega) (by omega) (by simp;omega) (u.heap.size+1) (by simp) ?_;intro g2 cap3 w4 hown4 hgrow4 hat4 hlt4;have n8:=qA hgrow4 Q A g4;have o1:=qE hgrow4 Q A g5;have b7:=U hown4;have a6:=U hgrow4;have a3:=U hat4;clear hown4 hgrow4 hat4)|(go_simp;go_at_call 20;(with_reducible refine a0.o.mono ?_);rintro e u ⟨o,s,m,p,rfl,M,I,d5,g4,g5,d2⟩;have Q:cb<u.heap.size:=X1 B d5;have b6:=U d2;have P:=U M;have N:=U I;clear d2 M I))
      all_goals
       have c6:=U (show ObjAt W (w4.setCell ⟨cb,4,none⟩ (.slice (some ⟨g2,0,none⟩) (R+1) cap3)) cb 26 9 26 g0 (.slice (some ⟨g2,0,none⟩) (R+1) cap3) (v.names.take k ++ [nk]) (v.items.take k ++ [it]) _ by
        have:=a.o.item (it:=it) (lo:=d.heap.size) (hi:=u.heap.size) (g:=g2) (cap:=cap3) (N.o.trans ((Z0 _ _).alloc d5 _)) lz (by simp) (P.o.carry lz lz fun b _ hb=>X6 _ _ _ hb) a6.o (by rcases a3.o with h|h;exact .inl h;exact .inr (by simp;omega)) (by rw [<- a8.o];exact b7.o);rw [<- a8.o] at this;exact this)
       clear a N P a6 a3 b7 b6 a0 a1;clear y0 y1 y2 y3 y4 c4;go_wp2;go_roundw
       case rel =>
        have e1:v.names.take (k+1)=v.names.take k ++ [nk]:=by rw [k2.o];exact Z7 d1
        have e2:v.items.take (k+1)=v.items.take k ++ [it]:=by rw [k0.o];exact Z7 K
        have HF:=c6.o;rw [<- e1,<- e2] at HF;exact ⟨k+1,_,_,_,by omega,by go_num,HF⟩
       case measure=>simp [intOf];omega
   . obtain rfl:k=r:=by omega
     obtain ⟨G,l2⟩:=O1 k;rw [<- l2] at c HQ k3 i4 t8;rw [<- l2];clear l2 hlt p7;have c7:wr.cell? ⟨cb,3,none⟩=some Y:=c.o.row.cell (by decide);have c9:wr.frozen? ⟨cb,3,none⟩=false:=c.o.row.frozen 3;obtain ⟨S,L⟩:=O1 ((v.names.take G).length);have a9:=U L;have p6:S<=2000000001:=by rw [L];(try simp);omega
     have b0:=U (show wr.ownsRow W.heap.size 9 1 Y S ((v.names.take G).map .string) by rw [L];exact c.o.names);have F:cb<wr.heap.size:=c.o.row.lt;have d0:¬cb=wr.heap.size:=by omega
     have d6:W.heap.size<=wr.heap.size:=c.o.touch.size;have A:some cb≠Y.ownBlock:=fun e=>by have:=(c.o.names.lt _ e.symm).1;have:=c.o.lt;omega
     clear L;go_wp2_with (at_builtin;refine Y1 _ (by rfl) (.tmp 77) (.tmp 79) 23 (by rfl) W.heap.size 9 i2 _ 1 16 M8 k5 m1 m2 m3 rfl (by decide) Y S ((v.names.take G).map .string) (by rfl) (by exact b0.o.alloc _) _ 1 1 [.string y] (by rfl) (by rfl) (by exact J9 (cs:=#[.string y]) (t:=9) (fr:=(0,0)) (Z5 _ _)) (by simp [Value.oneCell']) (by omega) (by unfold maxLen;omega) (by omega) (by simp;omega) _ rfl ?_;intro g1 cap2 w6 hown6 hgrow6 hat6 hlt6;have D:=U (below_grow wr hgrow6 (by first|exact (Z0 _ _).drew.alloc lz _|exact (O4).drew|exact O4));have n7:=vC hgrow6 D.o F A c7;have n9:=jE hgrow6 D.o F A c9;have c5:=U hown6;have a7:=U hgrow6;have a4:=U hat6;clear hown6 hgrow6 hat6);have a:=U (show ObjAt W (w6.setCell ⟨cb,3,none⟩ (.slice (some ⟨g1,0,none⟩) (S+1) cap2)) cb 26 9 26 (.slice (some ⟨g1,0,none⟩) (S+1) cap2) H (v.names.take G ++ [y]) (v.items.take G) cs by
      have:=(c.o.below D.o).name y (g:=g1) (cap:=cap2) a7.o (by rcases a4.o with h|h;exact .inl h;exact .inr (by have:=D.o.size;omega)) (by rw [<- a9.o];exact c5.o);rwa [<- a9.o] at this)
     clear c5 a7 a4 b0 D c7 c9 A F d0 d6 hlt6 c;generalize (w6.setCell ⟨cb,3,none⟩ (.slice (some ⟨g1,0,none⟩) (S+1) cap2))=d at a ⊢;generalize (Value.slice (some ⟨g1,0,none⟩) (S+1) cap2)=g0 at a ⊢;have l:=U (d7.o d a.o.touch);have f5:=U (HX.o.below l.o lz lz l.o.size);obtain ⟨y0,y1,y2,y3,y4⟩:=jQ r8.o l.o;have e8:w.heap.size+1<d.heap.size:=by have:=l.o.size;have:=a2.o;omega
     obtain ⟨f1,h1⟩:=O1 bn;obtain ⟨f3,h5⟩:=O1 dn;obtain ⟨f0,h0⟩:=O1 bi;obtain ⟨f2,h2⟩:=O1 di;rw [<- h1,<- h5] at y3;rw [<- h0,<- h2] at y4;rw [<- h1,<- h5,<- h0,<- h2] at f5;clear h1 h5 h0 h2;have f6:d.cell? ⟨cb,4,none⟩=some H:=a.o.row.cell (by decide);have f7:d.frozen? ⟨cb,4,none⟩=false:=a.o.row.frozen 4;obtain ⟨R,J⟩:=O1 ((v.items.take G).length);have a8:=U J;have i6:R<=2000000001:=by rw [J];(try simp);omega
     have a1:=U (show d.ownsRow W.heap.size 26 5 H R cs by rw [J];exact a.o.items);have B:cb<d.heap.size:=a.o.row.lt;have n0:W.heap.size<=d.heap.size:=a.o.touch.size;have A:some cb≠H.ownBlock:=fun e=>by have:=(a.o.items.lt _ e.symm).1;have:=a.o.lt;omega
     have a0:=U (show Calls Tryz.prog 20 #[.agg #[.int .u8 x.kind,.int .i64 x.n,.string x.t,.slice f1 x.names.length f3,.slice f0 x.items.length f2]] d.drew (fun e u=>∃x1 o s m p,C x1/\e=.returned (.agg #[.int .u8 x1.kind,.int .i64 x1.n,.string x1.t,.slice o x1.names.length s,.slice m x1.items.length p])/\Rep u d.heap.size u.heap.size x1 (.agg #[.int .u8 x1.kind,.int .i64 x1.n,.string x1.t,.slice o x1.names.length s,.slice m x1.items.length p])/\O5 d u/\d.heap.size<=u.heap.size/\u.cell? ⟨cb,4,none⟩=some H/\u.frozen? ⟨cb,4,none⟩=false/\u.ownsRow W.heap.size 26 5 H R cs) by
      refine (r5.o _ d.drew d.heap.size lz (show Rep d.drew lx d.heap.size x _ from Rep.carry (w:=d) (w':=d.drew) lz lz (fun _ _ _=>rfl) _ _ f5.o)).mono ?_;rintro e u ⟨x1,o,s,m,p,d4,rfl,M,I⟩;have E:O5 d u:=(Z0 _ _).drew.trans I;exact ⟨x1,o,s,m,p,d4,rfl,M,E,E.size,by rw [E.cell B];exact f6,by rw [E.frozen B];exact f7,qV a1.o E⟩)
     clear J;go_upto_region 17 with fail
     go_cut [87] (fun _ wx=>∃x1 H cs,C x1/\ObjAt W wx cb 26 9 26 g0 H (v.names.take G ++ [y]) (v.items.take G ++ [x1]) cs)
     case first =>
      go_region_law (first|(refine K9 _ (by rfl) (.tmp 83) (.tmp 86) 24 (by rfl) W.heap.size 26 i1 _ 5 80 K2 k4 m4 m5 m6 rfl (by omega) H R cs (by rfl) (b6.o.alloc _) ⟨u.heap.size,0,none⟩ 1 1 (Array.toList #[.int .u8 x1.kind,.int .i64 x1.n,.string x1.t,.slice o x1.names.length s,.slice m x1.items.length p]) (by rfl) (by rfl) (J9 (cs:=#[.int .u8 x1.kind,.int .i64 x1.n,.string x1.t,.slice o x1.names.length s,.slice m x1.items.length p]) (t:=26) (fr:=(0,0)) (Z5 u _)) (by simp [Value.oneCell']) (by omega) (by unfold maxLen;omega) (by omega) (by simp;omega) (u.heap.size+1) (by simp) ?_;intro g2 cap3 w4 hown4 hgrow4 hat4 hlt4;have n8:=qA hgrow4 Q A g4;have o1:=qE hgrow4 Q A g5;have b7:=U hown4;have a6:=U hgrow4;have a3:=U hat4;clear hown4 hgrow4 hat4)|(go_simp;go_at_call 20;(with_reducible refine a0.o.mono ?_);rintro e u ⟨x1,o,s,m,p,d4,rfl,M,I,d5,g4,g5,d2⟩;have Q:cb<u.heap.size:=X1 B d5;have b6:=U d2;have P:=U M;have N:=U I;clear d2 M I))
      all_goals
       have c6:=U (show ObjAt W (w4.setCell ⟨cb,4,none⟩ (.slice (some ⟨g2,0,none⟩) (R+1) cap3)) cb 26 9 26 g0 (.slice (some ⟨g2,0,none⟩) (R+1) cap3) (v.names.take G ++ [y]) (v.items.take G ++ [x1]) _ by
        have:=a.o.item (it:=x1) (lo:=d.heap.size) (hi:=u.heap.size) (g:=g2) (cap:=cap3) (N.o.trans ((Z0 _ _).alloc d5 _)) lz (by simp) (P.o.carry lz lz fun b _ hb=>X6 _ _ _ hb) a6.o (by rcases a3.o with h|h;exact .inl h;exact .inr (by simp;omega)) (by rw [<- a8.o];exact b7.o);rw [<- a8.o] at this;exact this)
       clear a N P a6 a3 b7 b6 a0 a1;go_wp2_with fail
       go_meet
       exact ⟨x1,_,_,d4,c6.o⟩
     case rest =>
      obtain ⟨x1,v4,v1,d4,h6⟩:=hcut;have c6:=U h6;clear h6 a1 f6 f7 A B n0 a a0;obtain ⟨w8,l3⟩:=O1 wc;rw [<- l3] at c6;rw [<- l3];clear l3;clear y0 y1 y2 y3 y4;have r7:=U d4;clear d4;go_wp2_with fail;go_loopw [13] (fun i wr=>∃(k:Nat) (cs:List Value) (Y H:Value),q<=k/\k<=Z/\i=.int .i64 k/\ObjAt W wr cb 26 9 26 Y H (v.names.take G ++ [y] ++ (v.names.drop q).take (k - q)) (v.items.take G ++ [x1] ++ (v.items.drop q).take (k - q)) cs) (fun i _=>Z - (intOf i).toNat)
      case atStart =>
       have HF:=c6.o;have e1:v.names.take G ++ [y] ++ (v.names.drop q).take (q - q)=v.names.take G ++ [y]:=by rw [Nat.sub_self,List.take_zero,List.append_nil]
       have e2:v.items.take G ++ [x1] ++ (v.items.drop q).take (q - q)=v.items.take G ++ [x1]:=by rw [Nat.sub_self,List.take_zero,List.append_nil]
       rw [<- e1,<- e2] at HF;exact ⟨q,_,_,_,J2 _,t7,rfl,HF⟩
      case round =>
       obtain ⟨k,cs,Y,H,q5,p7,rfl,d3⟩:=hrel;have c:=U d3;clear d3;obtain ⟨c0,c1,c2,c3,c4⟩:=jQ e0.o (d7.o wr c.o.touch);clear c0 c1 c2 c4;by_cases hlt:k<Z
       . have d1:k<v.names.length:=by rw [<- b5.o];omega
         have K:k<v.items.length:=by rw [k1.o];omega
         clear c3;have l:=U (d7.o wr c.o.touch);obtain ⟨pb,pf,ha,_,t6,y1⟩:=(HS.o.below l.o lz lz lz).at k d1;subst ha;obtain ⟨nk,e5⟩:=O1 (v.names[k]);replace y1:=y1.trans (J6 (fun z=>some (Value.string z)) e5.symm);have k2:=U e5;clear e5;obtain ⟨c0,c1,c2,c3,c4⟩:=jQ e0.o l.o;have h8:pb<wr.heap.size:=by have:=l.o.size;omega
         have h7:¬pb=wr.heap.size:=by omega
         have e8:w.heap.size<wr.heap.size:=by have:=l.o.size;have:=a2.o;omega
         have h9:¬w.heap.size=wr.heap.size:=by omega
         have j0:(0:Int)<=(k:Int):=by omega
         have j1:(k:Int)<(Z:Int):=by omega
         clear c0 c1 c2 c4;have c7:wr.cell? ⟨cb,3,none⟩=some Y:=c.o.row.cell (by decide);have c9:wr.frozen? ⟨cb,3,none⟩=false:=c.o.row.frozen 3;obtain ⟨S,L⟩:=O1 ((v.names.take G ++ [y] ++ (v.names.drop q).take (k - q)).length);have a9:=U L;have p6:S<=2000000001:=by rw [L];(try simp);omega
         have b0:=U (show wr.ownsRow W.heap.size 9 1 Y S ((v.names.take G ++ [y] ++ (v.names.drop q).take (k - q)).map .string) by rw [L];exact c.o.names);have F:cb<wr.heap.size:=c.o.row.lt;have d0:¬cb=wr.heap.size:=by omega
         have d6:W.heap.size<=wr.heap.size:=c.o.touch.size;have A:some cb≠Y.ownBlock:=fun e=>by have:=(c.o.names.lt _ e.symm).1;have:=c.o.lt;omega
         clear L;go_upto_region 21 with fail
         go_cut [105] (fun _ wx=>∃Y,ObjAt W wx cb 26 9 26 Y H (v.names.take G ++ [y] ++ (v.names.drop q).take (k - q) ++ [nk]) (v.items.take G ++ [x1] ++ (v.items.drop q).take (k - q)) cs)
         case first =>
          go_region_law (first|(refine K9 _ (by rfl) (.tmp 98) (.tmp 104) 23 (by rfl) W.heap.size 9 i2 _ 1 16 M8 k5 m1 m2 m3 rfl (by decide) Y S ((v.names.take G ++ [y] ++ (v.names.drop q).take (k - q)).map .string) (by rfl) (by exact b0.o.alloc _) _ 1 1 [.string nk] (by rfl) (by rfl) (by exact J9 (cs:=#[.string nk]) (t:=9) (fr:=(0,0)) (Z5 _ _)) (by simp [Value.oneCell']) (by omega) (by unfold maxLen;omega) (by omega) (by simp;omega) _ rfl ?_;intro g1 cap2 w6 hown6 hgrow6 hat6 hlt6;have D:=U (below_grow wr hgrow6 (by first|exact (Z0 _ _).drew.alloc lz _|exact (O4).drew|exact O4));have n7:=vC hgrow6 D.o F A c7;have n9:=jE hgrow6 D.o F A c9;have c5:=U hown6;have a7:=U hgrow6;have a4:=U hat6;clear hown6 hgrow6 hat6))
          all_goals
           have a:=U (show ObjAt W (w6.setCell ⟨cb,3,none⟩ (.slice (some ⟨g1,0,none⟩) (S+1) cap2)) cb 26 9 26 (.slice (some ⟨g1,0,none⟩) (S+1) cap2) H (v.names.take G ++ [y] ++ (v.names.drop q).take (k - q) ++ [nk]) (v.items.take G ++ [x1] ++ (v.items.drop q).take (k - q)) cs by
            have:=(c.o.below D.o).name nk (g:=g1) (cap:=cap2) a7.o (by rcases a4.o with h|h;exact .inl h;exact .inr (by have:=D.o.size;omega)) (by rw [<- a9.o];exact c5.o);rwa [<- a9.o] at this)
           clear c5 a7 a4 D;go_wp2_with fail
           go_meet
           exact ⟨_,a.o⟩
         case rest =>
          obtain ⟨g0,V⟩:=hcut;have a:=U V;clear V b0 c7 c9 A F d0 d6 c;obtain ⟨d,e7⟩:=O1 wc;rw [<- e7] at a;rw [<- e7];clear e7;clear y1 c3 h8 h7 e8 h9 l;have l:=U (d7.o d a.o.touch);obtain ⟨ib,io,f1,f3,f0,f2,k6,_,t5,y0,y1,y2,y3,y4,e6⟩:=(HI.o.below l.o lz lz lz).get k K;subst k6;have e4:=i5.o v.items[k] (J8 K);have m0:=JV.wts_get v.items k K;have T:∃it,it=v.items[k]:=⟨_,rfl⟩;obtain ⟨it,T⟩:=T;rw [<- T] at y0 y1 y2 y3 y4 e6 e4 m0;have k0:=U T;have j3:=U e4;have f5:=U (Rep.carry lz l.o.size (fun _ _ _=>rfl) _ _ e6);clear T e4 e6;obtain ⟨c0,c1,c2,c3,c4⟩:=jQ e0.o l.o;have h8:ib<d.heap.size:=by have:=l.o.size;omega
          have e8:w.heap.size<d.heap.size:=by have:=l.o.size;have:=a2.o;omega
          clear c0 c1 c2 c3;have f6:d.cell? ⟨cb,4,none⟩=some H:=a.o.row.cell (by decide);have f7:d.frozen? ⟨cb,4,none⟩=false:=a.o.row.frozen 4;obtain ⟨R,J⟩:=O1 ((v.items.take G ++ [x1] ++ (v.items.drop q).take (k - q)).length);have a8:=U J;have i6:R<=2000000001:=by rw [J];(try simp);omega
          have a1:=U (show d.ownsRow W.heap.size 26 5 H R cs by rw [J];exact a.o.items);have B:cb<d.heap.size:=a.o.row.lt;have n0:W.heap.size<=d.heap.size:=a.o.touch.size;have A:some cb≠H.ownBlock:=fun e=>by have:=(a.o.items.lt _ e.symm).1;have:=a.o.lt;omega
          have a0:=U (show Calls Tryz.prog 20 #[.agg #[.int .u8 it.kind,.int .i64 it.n,.string it.t,.slice f1 it.names.length f3,.slice f0 it.items.length f2]] d.drew (fun e u=>∃o s m p,e=.returned (.agg #[.int .u8 it.kind,.int .i64 it.n,.string it.t,.slice o it.names.length s,.slice m it.items.length p])/\Rep u d.heap.size u.heap.size it (.agg #[.int .u8 it.kind,.int .i64 it.n,.string it.t,.slice o it.names.length s,.slice m it.items.length p])/\O5 d u/\d.heap.size<=u.heap.size/\u.cell? ⟨cb,4,none⟩=some H/\u.frozen? ⟨cb,4,none⟩=false/\u.ownsRow W.heap.size 26 5 H R cs) by
           refine (j3.o _ d.drew d.heap.size lz (show Rep d.drew lo d.heap.size it _ from Rep.carry (w:=d) (w':=d.drew) lz lz (fun _ _ _=>rfl) _ _ f5.o)).mono ?_;rintro e u ⟨o,s,m,p,rfl,M,I⟩;have E:O5 d u:=(Z0 _ _).drew.trans I;exact ⟨o,s,m,p,rfl,M,E,E.size,by rw [E.cell B];exact f6,by rw [E.frozen B];exact f7,qV a1.o E⟩)
          clear J;go_wp2_with fail
          go_region_law (first|(refine K9 _ (by rfl) (.tmp 108) (.tmp 115) 24 (by rfl) W.heap.size 26 i1 _ 5 80 K2 k4 m4 m5 m6 rfl (by omega) H R cs (by rfl) (b6.o.alloc _) ⟨u.heap.size,0,none⟩ 1 1 (Array.toList #[.int .u8 it.kind,.int .i64 it.n,.string it.t,.slice o it.names.length s,.slice m it.items.length p]) (by rfl) (by rfl) (J9 (cs:=#[.int .u8 it.kind,.int .i64 it.n,.string it.t,.slice o it.names.length s,.slice m it.items.length p]) (t:=26) (fr:=(0,0)) (Z5 u _)) (by simp [Value.oneCell']) (by omega) (by unfold maxLen;omega) (by omega) (by simp;omega) (u.heap.size+1) (by simp) ?_;intro g2 cap3 w4 hown4 hgrow4 hat4 hlt4;have n8:=qA hgrow4 Q A g4;have o1:=qE hgrow4 Q A g5;have b7:=U hown4;have a6:=U hgrow4;have a3:=U hat4;clear hown4 hgrow4 hat4)|(go_simp;go_at_call 20;(with_reducible refine a0.o.mono ?_);rintro e u ⟨o,s,m,p,rfl,M,I,d5,g4,g5,d2⟩;have Q:cb<u.heap.size:=X1 B d5;have b6:=U d2;have P:=U M;have N:=U I;clear d2 M I))
          all_goals
           have c6:=U (show ObjAt W (w4.setCell ⟨cb,4,none⟩ (.slice (some ⟨g2,0,none⟩) (R+1) cap3)) cb 26 9 26 g0 (.slice (some ⟨g2,0,none⟩) (R+1) cap3) (v.names.take G ++ [y] ++ (v.names.drop q).take (k - q) ++ [nk]) (v.items.take G ++ [x1] ++ (v.items.drop q).take (k - q) ++ [it]) _ by
            have:=a.o.item (it:=it) (lo:=d.heap.size) (hi:=u.heap.size) (g:=g2) (cap:=cap3) (N.o.trans ((Z0 _ _).alloc d5 _)) lz (by simp) (P.o.carry lz lz fun b _ hb=>X6 _ _ _ hb) a6.o (by rcases a3.o with h|h;exact .inl h;exact .inr (by simp;omega)) (by rw [<- a8.o];exact b7.o);rw [<- a8.o] at this;exact this)
           clear a N P a6 a3 b7 b6 a0 a1;clear y0 y1 y2 y3 y4 c4;go_wp2;go_roundw
           case rel =>
            have e1:v.names.take G ++ [y] ++ (v.names.drop q).take (k+1 - q)=v.names.take G ++ [y] ++ (v.names.drop q).take (k - q) ++ [nk]:=by rw [k2.o];exact mu q5 d1
            have e2:v.items.take G ++ [x1] ++ (v.items.drop q).take (k+1 - q)=v.items.take G ++ [x1] ++ (v.items.drop q).take (k - q) ++ [it]:=by rw [k0.o];exact mu q5 K
            have HF:=c6.o;rw [<- e1,<- e2] at HF;exact ⟨k+1,_,_,_,by omega,by omega,by go_num,HF⟩
           case measure=>simp [intOf];omega
       . obtain rfl:k=Z:=by omega
         have p8:(v.names.drop q).take (k - q)=v.names.drop q:=J4 (by rw [zb9,<- b5.o];omega);have q0:(v.items.drop q).take (k - q)=v.items.drop q:=J4 (by rw [zb9,k1.o];omega);rw [p8,q0] at c;obtain ⟨s6,s8,s5,s7,rfl,rfl,i7⟩:=c.o.done;have n4:=U i7;have X:=c.o.row;have j2:=U (d7.o wr c.o.touch);have f4:=qj j2.o n5.o (by have:=a2.o;omega);have v2:=c.o.lt;have hz:=c.o.touch.size;have e8:w.heap.size+3<=wr.heap.size:=by have:=j2.o.size;have:=a2.o;omega
         obtain ⟨nl,l0⟩:=O1 ((v.names.take G ++ [y] ++ v.names.drop q).length);obtain ⟨il,k7⟩:=O1 ((v.items.take G ++ [x1] ++ v.items.drop q).length);rw [<- l0,<- k7] at X n4;have n2:=U l0;have n1:=U k7;have t9:=X.cell (i:=0) (by decide);have r1:=X.cell (i:=1) (by decide);have r2:=X.cell (i:=2) (by decide);have r3:=X.cell (i:=3) (by decide);have r4:=X.cell (i:=4) (by decide);obtain ⟨t0,t1,t2,t3,t4⟩:=rc5 f4;obtain ⟨s0,s1,s2,s3,s4⟩:=rf5 f4;simp only [qo] at t9 r1 r2 r3 r4 t0 t1 t2 t3 t4;have r6:=U f4;have q8:=U (a5.o.trans (j2.o.mono a5.o.size));clear X f4 i7 p8 q0 c l0 k7;go_wp2;obtain ⟨p1,p2,p3,p4⟩:=HQ.o;refine Z8 (qk Tryz.results11 _ _ (w.heap.size+2) 26 _ (0,0) _ rfl (qr (set5 _ _ _ _ _ r6.o)) J7 rfl (by kernel_rfl) _ rfl) rfl ⟨G,f,x1,s6,s8,s5,s7,by rw [<- b5.o];exact i4,p1,p2,p3,p4,r7.o,?_,?_,zf _ _ _ _ _ q8.o (by omega)⟩
         . unfold cF cH;rw [<- k3.o,<- n2.o,<- n1.o];rfl
         . unfold cU cF cH;rw [<- k3.o,<- n2.o,<- n1.o];exact Rep.carry (by have:=g3.o.size;have:=a2.o;omega) (show wr.heap.size<=_ by simp [World.setCell]) (fun j hj _=>xJ _ _ _ _ _ (by have:=g3.o.size;have:=a2.o;omega)) _ _ n4.o
theorem yO {v:JV} {lo:Nat} (b:v.wt<=2000000000) (a:0<lo):∀it ∈ v.items,bk lo it:=fun it h=>by obtain ⟨i,hi,rfl⟩:=Y0 h;have h1:=JV.wts_get v.items i hi;have h2:=v.wt_bd;exact fG lo _ (by omega) a
