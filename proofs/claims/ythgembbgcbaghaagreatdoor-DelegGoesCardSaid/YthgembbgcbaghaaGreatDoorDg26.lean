import Derived.Test.YthgembbgcbaghaaGreatDoorDg23
import Derived.Test.YthgembbgcbaghaaGreatDoorDg19
set_option maxHeartbeats 4000000
set_option maxRecDepth 100000

namespace Go.Proofs.YthgembbgcbaghaaGreatDoor
open Go.RowKit
def xg:List ByteArray->Nat->Nat
 | [],n=>n
 | s :: r,n=>if n<20000 then xg r (n+10+min 20000 s.size) else n
theorem tx {l:List ByteArray} {n:Nat} (h:20000<=n):xg l n=n:=by
 cases l with
 | nil=>rfl
 | cons s r=>rw [xg,J3 (by omega)]
theorem vQ:∀(l:List ByteArray) (n:Nat),n<=40010->xg l n<=40010
 | [],n,h=>h
 | s :: r,n,h=>by
  rw [xg];split
  . exact vQ r _ (by omega)
  . exact h
def wM (l:List ByteArray):Prop:=l.length<=2000/\∀s ∈ l,s.size<=20000
theorem gG:∀(l:List ByteArray) (n:Nat),xg l n<20000->n+10 * l.length<=xg l n/\∀s ∈ l,s.size<=20000
 | [],n,_=>⟨by rw [zd9];show n+10 * 0<=n;omega,fun s hs=>(by cases hs)⟩
 | s :: r,n,h=>by
  rw [xg] at h ⊢;split at h
  . rename_i hn;rw [J8 hn];obtain ⟨h1,h2⟩:=gG r _ h;refine ⟨by rw [N3];omega,fun x hx=>?_⟩;rcases H0.1 hx with rfl|hx
    . omega
    . exact h2 x hx
  . omega
theorem yw {l:List ByteArray} (h:xg l 0<20000):wM l:=by obtain ⟨b,a⟩:=gG l 0 h;exact ⟨by omega,a⟩
theorem tj {l:List ByteArray} {n k:Nat} (a:k<l.length) (b:n<20000):xg (l.drop k) n=xg (l.drop (k+1)) (n+10+min 20000 l[k].size):=by rw [G3 a,xg,J8 b]
theorem gB (l:List ByteArray) (a:Option Addr) (c:Nat) (w:World) (h:qv w 0 w.heap.size a l) (R:l.length<=9223372036854775807) :
 Calls Tryz.prog 71 #[.slice a l.length c] w fun e w'=>e=.returned (.int .i64 (xg l 0:Nat))/\w'=w:=by
 have H:=U h;obtain ⟨T,y⟩:=O1 (xg l 0);rw [<- y];have z:=U y;obtain ⟨d,p⟩:=O1 l.length;have r:=U p;rw [<- p] at R ⊢;clear h y p;go_enter Tryz.func71,Tryz.ntmps71;go_wp2_with fail
 go_loop [3,4] (fun n j=>∃k m:Nat,k<=d/\j=.int .i64 k/\n=.int .i64 m/\m<=40010/\10 * k<=m/\T=xg (l.drop k) m) (fun _ j=>d - (intOf j).toNat)
 case atStart=>exact ⟨0,0,by omega,rfl,rfl,by omega,by omega,z.o⟩
 case round =>
  obtain ⟨k,m,P,rfl,rfl,Q,L,E⟩:=hrel;have i:=U E;clear E z;by_cases hgo:k<d/\m<20000
  . obtain ⟨u,D⟩:=hgo;have s:k<l.length:=by rw [<- r.o];exact u
    obtain ⟨b,o,K,_,_,J⟩:=H.o.at k s;subst K;have g:=U (tj s D);obtain ⟨q,v⟩:=O1 (l[k]);rw [<- v] at J g;clear v;obtain ⟨x,M,f⟩:∃x:Nat,(if (q.size:Int)<20000 then (q.size:Int) else 20000)=(x:Int)/\x=min 20000 q.size:=by
     by_cases h:q.size<20000
     . exact ⟨q.size,by rw [J8 (by omega)],by omega⟩
     . exact ⟨20000,by rw [J3 (by omega)];rfl,by omega⟩
    have F:=U f;rw [<- f] at g;have N:x<=20000:=by omega
    have B:decide ((k:Int)<(d:Int))=true:=by simp;omega
    have G:decide ((m:Int)<20000)=true:=by simp;omega
    have C:decide (k<d)=true:=by simpa using u
    have I:decide (m<20000)=true:=by simpa using D
    clear f;go_wp2
    go_round
    case rel=>exact ⟨k+1,m+10+x,by omega,by go_num,by go_num,by omega,by omega,by rw [i.o,g.o]⟩
    case measure=>simp [intOf];omega
  . have A:=U (show T=m from by
     by_cases h2:m<20000
     . rw [i.o,N7 (by rw [<- r.o];omega),xg]
     . rw [i.o,tx (by omega)])
    by_cases hkn:k<d
    . have B:decide ((k:Int)<(d:Int))=true:=by simp;omega
      have G:decide ((m:Int)<20000)=false:=by simp;omega
      have C:decide (k<d)=true:=by simpa using hkn
      have I:decide (m<20000)=false:=by simp;omega
      clear hgo;go_wp2;go_ret;exact ⟨by rw [A.o];rfl,rfl⟩
    . have B:decide ((k:Int)<(d:Int))=false:=by simp;omega
      have C:decide (k<d)=false:=by simpa using hkn
      clear hgo;go_wp2;go_ret;exact ⟨by rw [A.o];rfl,rfl⟩
structure ShortD (x:DelegV):Prop where
 name:x.name.size<=20000
 ids:wM x.au.ids
 paths:wM x.paths
 pres:wM x.pres
structure NotLongD (d:DelegsV):Prop where
 len:d.keys.length<=40
 keys:∀k ∈ d.keys,k.1.size<=300/\k.2.size<=300
 many:d.roles.length<=70
 roles:∀x ∈ d.roles,ShortD x
 pre:d.bins.pre.size<=300
 ids:wM d.bins.au.ids
def ux (d:DelegsV) (w:World) (e:Ending) (w':World):Prop:=∃b:Bool,e=.returned (.bool b)/\(b=false->NotLongD d)/\O5 w w'
structure Lens (x:DelegV):Prop where
 ids:x.au.ids.length<=9223372036854775807
 paths:x.paths.length<=9223372036854775807
 pres:x.pres.length<=9223372036854775807
theorem mK (l:List Key2) (rs:List DelegV) (t e8:Int) (ids:List ByteArray) (e9:ByteArray) (ka ra ba:Option Addr) (kc rc bc:Nat) (w:World) (hI:DelegsIn w 0 w.heap.size ⟨l,rs,⟨e8,e9,⟨t,ids⟩⟩⟩ ka ra ba) (hl:l.length<=9223372036854775807) (hr:rs.length<=9223372036854775807) (hx:∀x ∈ rs,Lens x) (hi:ids.length<=9223372036854775807) :
 Calls Tryz.prog 18 #[.agg #[.slice ka l.length kc,.slice ra rs.length rc,.int .i64 t,.slice ba ids.length bc,.int .i64 e8,.string e9]] w (ux ⟨l,rs,⟨e8,e9,⟨t,ids⟩⟩⟩ w):=by
 obtain ⟨W,hW⟩:=O1 (w.alloc (.cells #[.slice ka l.length kc,.slice ra rs.length rc,.int .i64 t,.slice ba ids.length bc,.int .i64 e8,.string e9] 35));have S:=O7 hW
 have Q:=O9 hW
 have u:=U (show ∀w':World,O5 W w'->w'.cell? ⟨w.heap.size,0,none⟩=some (.slice ka l.length kc)/\w'.cell? ⟨w.heap.size,1,none⟩=some (.slice ra rs.length rc)/\w'.cell? ⟨w.heap.size,2,none⟩=some (.int .i64 t)/\w'.cell? ⟨w.heap.size,3,none⟩=some (.slice ba ids.length bc)/\w'.cell? ⟨w.heap.size,4,none⟩=some (.int .i64 e8)/\w'.cell? ⟨w.heap.size,5,none⟩=some (.string e9) from fun w' h=>by
  have y:=(h.block _ (qx Q)).trans Q;exact ⟨qq y rfl,qq y rfl,qq y rfl,qq y rfl,qq y rfl,qq y rfl⟩)
 have HI:=O0 (∀w':World,O5 W w'->DelegsIn w' 0 w'.heap.size ⟨l,rs,⟨e8,e9,⟨t,ids⟩⟩⟩ ka ra ba) (fun w' h=>hI.below (S.trans (h.mono S.size)) lz lz (J1 S.size h.size));have G:=U (gB ids ba bc W (HI.o W (J0 _ _)).bids hi);have HX:=U hx;have f:=U S;have H:=U hW;clear hI S Q hW hx hi;obtain ⟨X,y1,y2,y3,y4,y5⟩:=u.o W (J0 _ _);by_cases h40:l.length<=40
 case neg =>
  have v:decide (40<(l.length:Int))=true:=by simp;omega
  clear u;go_enter Tryz.func18,Tryz.ntmps18;go_upto_region 1 with fail
  rw [<- H.o];go_wp2;go_ret;exact ⟨true,rfl,(fun h=>by cases h),f.o⟩
 have v:decide (40<(l.length:Int))=false:=by simp;omega
 by_cases h70:rs.length<=70
 case neg =>
  have A:decide (70<(rs.length:Int))=true:=by simp;omega
  clear u;go_enter Tryz.func18,Tryz.ntmps18;go_upto_region 1 with fail
  rw [<- H.o];go_wp2;go_ret;exact ⟨true,rfl,(fun h=>by cases h),f.o⟩
 have A:decide (70<(rs.length:Int))=false:=by simp;omega
 by_cases h300:e9.size<=300
 case neg =>
  have I:decide (300<(e9.size:Int))=true:=by simp;omega
  clear u;go_enter Tryz.func18,Tryz.ntmps18;go_upto_region 1 with fail
  rw [<- H.o];go_wp2;go_ret;exact ⟨true,rfl,(fun h=>by cases h),f.o⟩
 have I:decide (300<(e9.size:Int))=false:=by simp;omega
 have E:=U (And.intro h40 (And.intro h70 h300));obtain ⟨T,hT⟩:=O1 (xg ids 0);rw [<- hT] at G;have b4:=O0 (T<=40010/\(T<20000->wM ids)) (⟨by rw [hT];exact vQ _ _ (by omega),fun h=>yw (by rw [<- hT];exact h)⟩);obtain ⟨C,s⟩:=O1 l.length;have a5:=U s;rw [<- s] at u H X v h40;obtain ⟨a,r⟩:=O1 rs.length;have a4:=U r;rw [<- r] at u H y1 A h70;rw [<- s,<- r];clear h300 s r hT hl hr;go_enter Tryz.func18,Tryz.ntmps18;go_upto_region 1 with fail
 rw [<- H.o];clear H;go_wp2_with fail;refine G.o.mono ?_;clear G X y1 y2 y3 y4 y5;rintro e w2 ⟨rfl,h2⟩;subst h2;go_wp2_with fail;go_loopw [4] (fun i wr=>∃k:Nat,k<=C/\i=.int .i64 k/\(∀j (h:j<l.length),j<k->l[j].1.size<=300/\l[j].2.size<=300)/\wr=w2) (fun i _=>C - (intOf i).toNat)
 case atStart=>exact ⟨0,by omega,rfl,fun j _ h=>by omega,rfl⟩
 case round =>
  obtain ⟨k,hk,rfl,b6,c1⟩:=hrel;have d0:=c1.symm;subst d0;clear c1;have D:=U b6;obtain ⟨X,y1,y2,y3,y4,y5⟩:=u.o w2 (J0 _ _);clear b6 y2 y3 y4 y5;by_cases d:k<C
  . have b7:k<l.length:=by rw [<- a5.o];exact d
    obtain ⟨b,e6,ha,_,S,e0,e1⟩:=((HI.o w2 (J0 _ _)).keys).at k b7;subst ha;obtain ⟨s0,N⟩:=O1 (l[k].1);obtain ⟨s1,P⟩:=O1 (l[k].2);replace e0:=e0.trans (Y2 (fun z=>some (Value.string z)) N.symm);replace e1:=e1.trans (Y2 (fun z=>some (Value.string z)) P.symm);have a9:=U (And.intro N P);have m1:(0:Int)<=(k:Int):=by omega
    have m2:(k:Int)<(C:Int):=by omega
    have m3:decide ((k:Int)<(C:Int))=true:=by simpa using d
    clear N P;by_cases g0:s0.size<=300
    . have c6:decide (300<(s0.size:Int))=false:=by simp;omega
      by_cases g1:s1.size<=300
      . have c7:decide (300<(s1.size:Int))=false:=by simp;omega
        have HN:=U (show ∀j (h:j<l.length),j<k+1->l[j].1.size<=300/\l[j].2.size<=300 from fun j p hjk=>by
         rcases V5.1 hjk with h|h
         . exact D.o j p h
         . subst h;exact ⟨by rw [<- a9.o.1];exact g0,by rw [<- a9.o.2];exact g1⟩)
        clear g0 g1;go_wp2;go_roundw
        case rel=>exact ⟨k+1,by omega,by go_num,HN.o,by first|exact trivial|exact rfl⟩
        case measure=>simp [intOf];omega
      . have c7:decide (300<(s1.size:Int))=true:=by simp;omega
        clear g0 g1;go_wp2;go_ret;exact ⟨true,rfl,(fun h=>by cases h),f.o⟩
    . have c6:decide (300<(s0.size:Int))=true:=by simp;omega
      clear g0;go_wp2;go_ret;exact ⟨true,rfl,(fun h=>by cases h),f.o⟩
  . obtain rfl:k=C:=by omega
    have m3:decide ((k:Int)<(k:Int))=false:=by simp
    have c3:=U (show ∀x ∈ l,x.1.size<=300/\x.2.size<=300 from fun x hx=>by
     obtain ⟨j,p,rfl⟩:=V4 hx;exact D.o j p (by rw [a5.o];exact p))
    clear D;go_wp2_with fail;clear X y1;go_loopw [3,5] (fun n i w4=>∃q m:Nat,q<=a/\i=.int .i64 q/\n=.int .i64 m/\m<=180000/\(m<20000->wM ids/\∀j (h:j<rs.length),j<q->ShortD rs[j])/\O5 w2 w4) (fun _ i _=>a - (intOf i).toNat)
    case atStart=>exact ⟨0,T,by omega,rfl,rfl,by have:=b4.o.1;omega,fun h=>⟨b4.o.2 h,fun j _ h=>by omega⟩,J0 _ _⟩
    case round =>
     obtain ⟨q,m,hq,rfl,rfl,hm,c0,M⟩:=hrel;have F:=U c0;have g:=U M;obtain ⟨X,y1,y2,y3,y4,y5⟩:=u.o wr M;clear c0 M X y2 y3 y4 y5;by_cases hgo:q<a/\m<20000
     . obtain ⟨d,hn⟩:=hgo;have b9:q<rs.length:=by rw [<- a4.o];exact d
       obtain ⟨b,o,ha,-,d5,ia,ic,pa,pc,qa,qc,e0,e1,e2,e3,e4,e5,-,-,-,c⟩:=(HI.o wr g.o).roles.at q b9;subst ha;have c2:=HX.o _ (X6 b9);have b0:=U (F.o hn);obtain ⟨x,hx⟩:=O1 (rs[q]);have c5:=U hx;rw [<- hx] at e0 e1 e2 e3 e4 e5 c c2;clear hx;obtain ⟨V,⟨e7,R⟩,tm,ps,qs⟩:=x;dsimp only at e0 e1 e2 e3 e4 e5;obtain ⟨l1,l2,l3⟩:=c2;dsimp only at l1 l2 l3;have Y:=U (fun n=>gB R ia ic (wr.drewN n) c.ids l1);have Z:=U (fun n=>gB ps pa pc (wr.drewN n) c.paths l2);have a0:=U (fun n=>gB qs qa qc (wr.drewN n) c.pres l3);have a6:=U (@yw R);have a7:=U (@yw ps);have a8:=U (@yw qs);obtain ⟨a1,J⟩:=O1 (xg R 0);obtain ⟨a2,K⟩:=O1 (xg ps 0);obtain ⟨a3,L⟩:=O1 (xg qs 0);have b1:a1<=40010:=by rw [J];exact vQ _ _ (by omega)
       have b2:a2<=40010:=by rw [K];exact vQ _ _ (by omega)
       have b3:a3<=40010:=by rw [L];exact vQ _ _ (by omega)
       rw [<- J] at Y a6;rw [<- K] at Z a7;rw [<- L] at a0 a8;clear c J K L l1 l2 l3;obtain ⟨mn,d6,B⟩:∃mn:Nat,(if (V.size:Int)<20000 then (V.size:Int) else 20000)=(mn:Int)/\mn=min 20000 V.size:=by
        by_cases h:V.size<20000
        . exact ⟨V.size,by rw [J8 (by omega)],by omega⟩
        . exact ⟨20000,by rw [J3 (by omega)];rfl,by omega⟩
       have c4:=U B;have d7:mn<=20000:=by omega
       have m1:(0:Int)<=(q:Int):=by omega
       have m2:(q:Int)<(a:Int):=by omega
       have d1:decide ((q:Int)<(a:Int))=true:=by simp;omega
       have d2:decide ((m:Int)<20000)=true:=by simp;omega
       have d3:decide (q<a)=true:=by simpa using d
       have d4:decide (m<20000)=true:=by simpa using hn
       clear B;go_wp2_with fail;go_quiet (first|(go_at_call 71;with_reducible exact Calls.quiet_of_same (Y.o _))|(go_at_call 71;with_reducible exact Calls.quiet_of_same (Z.o _))|(go_at_call 71;with_reducible exact Calls.quiet_of_same (a0.o _)))
       go_wp2;go_roundw
       case rel =>
        refine ⟨q+1,m+50+mn+a1+a2+a3,by omega,by go_num,by go_num,by omega,fun h=>⟨b0.o.1,fun j p hjk=>?_⟩,Below.drewN g.o _⟩;rcases V5.1 hjk with h1|h1
        . exact b0.o.2 j p h1
        . subst h1;rw [<- c5.o];exact ⟨by have:=c4.o;show V.size<=20000;omega,a6.o (by omega),a7.o (by omega),a8.o (by omega)⟩
       case measure=>simp [intOf];omega
     . have b5:=U (show m<20000->NotLongD ⟨l,rs,⟨e8,e9,⟨t,ids⟩⟩⟩ from fun h=>by
        obtain ⟨h1,h2⟩:=F.o h;have c9:q=a:=by omega
        refine ⟨E.o.1,c3.o,E.o.2.1,fun x hx=>?_,E.o.2.2,h1⟩;obtain ⟨j,p,rfl⟩:=V4 hx;exact h2 j p (by rw [c9,a4.o];exact p))
       clear F;by_cases hkn:q<a
       . have d1:decide ((q:Int)<(a:Int))=true:=by simp;omega
         have d2:decide ((m:Int)<20000)=false:=by simp;omega
         have d3:decide (q<a)=true:=by simpa using hkn
         have d4:decide (m<20000)=false:=by simp;omega
         clear hgo;go_wp2;go_ret;exact ⟨_,rfl,fun h=>b5.o (by have h2:(m:Int)<20000:=(by simpa using h);omega),f.o.trans (g.o.mono f.o.size)⟩
       . have d1:decide ((q:Int)<(a:Int))=false:=by simp;omega
         have d3:decide (q<a)=false:=by simpa using hkn
         clear hgo;go_wp2;go_ret;exact ⟨_,rfl,fun h=>b5.o (by have h2:(m:Int)<20000:=(by simpa using h);omega),f.o.trans (g.o.mono f.o.size)⟩
theorem wu {d:DelegsV} (h:NotLongD d) (a:-9223372036854775808<=d.bins.bits/\d.bins.bits<=9223372036854775807) (b:-9223372036854775808<=d.bins.au.thr/\d.bins.au.thr<=9223372036854775807) (c:∀x ∈ d.roles,-9223372036854775808<=x.au.thr/\x.au.thr<=9223372036854775807):DelegsFits d :=
 have sh:∀ {l:List ByteArray},wM l->l.length<=4294967296/\∀s ∈ l,s.size<=4294967296:=fun h=>⟨J1 h.1 (by decide),fun s hs=>J1 (h.2 s hs) (by decide)⟩
 ⟨h.len,h.keys,h.many,fun x hxm=>⟨J1 (h.roles x hxm).name (by decide),⟨c x hxm,sh (h.roles x hxm).ids⟩,sh (h.roles x hxm).paths,sh (h.roles x hxm).pres⟩,a,h.pre,⟨b,sh h.ids⟩⟩
theorem gP (l:List ByteArray) (a:Option Addr) (c:Nat) (w:World) (hS:qv w 0 w.heap.size a l) (hl:l.length<=4294967296) :
 Calls Tryz.prog 221 #[.slice a l.length c] w (kX l w):=by
 obtain ⟨W,K⟩:=O1 ((w.alloc (.cells #[.int .u8 0,.int .i64 0,.string ⟨#[]⟩,.slice none 0 0,.slice none 0 0] 25)).alloc (.cells #[.int .u8 4,.int .i64 0,.string ⟨#[]⟩,.slice none 0 0,.slice none 0 0] 25));have x:(w.alloc (.cells #[.int .u8 0,.int .i64 0,.string ⟨#[]⟩,.slice none 0 0,.slice none 0 0] 25)).heap.size=w.heap.size+1:=by simp
 have y:W.heap.size=w.heap.size+2:=by rw [K];simp
 have a2:O5 w W:=by rw [K];exact (O4).alloc (by simp) _
 have a8:W.rowIs w.heap.size 25 5 (qZ (.int .u8 0) (.int .i64 0) (.string ⟨#[]⟩) (.slice none 0 0) (.slice none 0 0)):=by rw [K];exact (qh w (.int .u8 0) (.int .i64 0) (.string ⟨#[]⟩) (.slice none 0 0) (.slice none 0 0) 25).alloc _
 have a9:W.rowIs (w.heap.size+1) 25 5 (qZ (.int .u8 4) (.int .i64 0) (.string ⟨#[]⟩) (.slice none 0 0) (.slice none 0 0)):=(by have:=qh (w.alloc (.cells #[.int .u8 0,.int .i64 0,.string ⟨#[]⟩,.slice none 0 0,.slice none 0 0] 25)) (.int .u8 4) (.int .i64 0) (.string ⟨#[]⟩) (.slice none 0 0) (.slice none 0 0) 25;rw [x,<- K] at this;exact this);have HS:=U hS;have HW:=U K;have N:=U a2;have b3:=U a8;have X:=U a9;have r:=U y;obtain ⟨L,J⟩:=O1 l.length;have q:=U J;rw [<- J] at hl ⊢;clear hS K a2 a8 a9 x y J;obtain ⟨i0,c2,c3,x,y⟩:=K9 xq;go_enter Tryz.func221,Tryz.ntmps221;go_upto_region 2 with fail
 rw [<- HW.o];clear HW;obtain ⟨o,H⟩:=O1 (w.heap.size+1);have E:=U H;rw [<- H] at X ⊢;have a4:o<W.heap.size:=by have:=r.o;omega
 clear H;go_wp2;go_loopw [4] (fun i wr=>∃(k:Nat) (cs:List Value) (z:Value),k<=L/\i=.int .i64 k/\Touch (· = o) W wr/\wr.rowIs o 25 5 (qZ (.int .u8 4) (.int .i64 0) (.string ⟨#[]⟩) (.slice none 0 0) z)/\wr.ownsRow W.heap.size 25 5 z k cs/\qU wr W.heap.size (fun b=>b=o\/z.ownBlock=some b) ((l.take k).map txtJ) cs) (fun i _=>L - (intOf i).toNat)
 case atStart=>exact ⟨0,[],.slice none 0 0,by omega,rfl,Touch.refl _ _,X.o,W8 _ _ _ _,by simpa using qU.nil _ _ _⟩
 case round =>
  obtain ⟨k,cs,z,hk,rfl,f,d,h,s⟩:=hrel;by_cases hlt2:k<L
  . have B:k<l.length:=by rw [<- q.o];exact hlt2
    have HB:Hid (O5 w wr):=N.o.trans (f.below (by have:=r.o;omega) fun j hj e=>by have:=E.o;omega);obtain ⟨b,d1,rfl,_,hb,y0⟩:=(HS.o.below HB.o lz lz lz).at k B;have b6:=U (show (l.take (k+1)).map txtJ=(l.take k).map txtJ ++ [txtJ l[k]] by rw [J7 B,M1];rfl);have c4:wr.cell? ⟨o,4,none⟩=some z:=d.cell (by omega);have f4:wr.frozen? ⟨o,4,none⟩=false:=d.frozen 4;have I:o<wr.heap.size:=d.lt;have d0:W.heap.size<=wr.heap.size:=f.size;have a6:some o≠z.ownBlock:=fun e=>by have:=(h.lt _ e.symm).1;omega
    have a0:=U d;have a1:=U f;have HO:=U h;have Z:=U s;clear d f h s;generalize l[k]=it at *;have Q:=U (show Calls Tryz.prog 164 #[.string it] wr.drew (fun e p=>e=.returned (.agg #[.int .u8 3,.int .i64 0,.string it,.slice none 0 0,.slice none 0 0])/\Rep p (wr.heap.size+1) p.heap.size (txtJ it) (.agg #[.int .u8 3,.int .i64 0,.string it,.slice none 0 0,.slice none 0 0])/\Below (wr.heap.size+1) ((wr.alloc (.cells #[.int .u8 3,.int .i64 0,.string it,.slice none 0 0,.slice none 0 0] 25)).drew) p/\wr.heap.size<p.heap.size/\p.cell? ⟨o,4,none⟩=some z/\p.frozen? ⟨o,4,none⟩=false/\p.ownsRow W.heap.size 25 5 z k cs) by
     refine (pq it wr.drew).mono ?_;rintro e p ⟨rfl,rfl⟩;have F:O5 wr (wr.drew.alloc (.cells #[.int .u8 3,.int .i64 0,.string it,.slice none 0 0,.slice none 0 0] 25)):=(J0 _ _).drew.alloc lz _;exact ⟨rfl,jI _ _ _ _,J0 _ _,by simp,by rw [F.cell I];exact c4,by rw [F.frozen I];exact f4,qM HO.o F⟩)
    go_upto_region 5 with fail
    go_region_law (first|(refine N5 _ (by rfl) (.tmp 13) (.tmp 19) 23 (by rfl) W.heap.size 25 i0 _ 5 80 N4 c2 c3 x y rfl (by omega) z k cs (by rfl) (T.o.alloc _) ⟨p.heap.size,0,none⟩ 1 1 (Array.toList #[.int .u8 3,.int .i64 0,.string it,.slice none 0 0,.slice none 0 0]) (by rfl) (by rfl) (Y0 (cs:=#[.int .u8 3,.int .i64 0,.string it,.slice none 0 0,.slice none 0 0]) (t:=25) (fr:=(0,0)) (J2 p _)) (by simp [Value.oneCell']) (by omega) (by unfold maxLen;omega) (by omega) (by simp;omega) (p.heap.size+1) (by simp) ?_;intro g cap w4 hown4 hgrow4 hat4 hlt4;have c7:=zb hgrow4 A a6 b9;have c9:=zn hgrow4 A a6 c0;have V:=U hown4;have R:=U hgrow4;have M:=U hat4;clear hown4 hgrow4 hat4)|(go_simp;go_at_call 164;(with_reducible refine Q.o.mono ?_);rintro e p ⟨rfl,b0,a3,c6,b9,c0,a7⟩;have A:o<p.heap.size:=ze0 I c6;have T:=U a7;have Y:=U b0;have P:=U a3;clear a7 b0 a3))
    all_goals
     have b5:=U (row_step (j:=4) (it:=txtJ it) (an:=none) (cn:=0) (ai:=none) (ci:=0) a4 a1.o a0.o HO.o Z.o P.o Y.o R.o M.o V.o);clear a1 a0 HO Z P Y R M V T Q;go_wp2;go_roundw
     case rel => obtain ⟨z1,z2,z3,z4⟩:=b5.o;refine ⟨k+1,_,_,by omega,by go_num,z1,z2.congr fun i hi=>?_,z3,by rw [b6.o];exact z4⟩;rcases i with _|_|_|_|_|i <;> first|rfl|omega
     case measure=>simp [intOf];omega
  . obtain rfl:k=L:=by omega
    have C:(l.take k).map txtJ=l.map txtJ:=by rw [X2 (by rw [<- q.o];exact J9 _)]
    rw [C] at s;have u:(l.map txtJ).length=k:=by rw [X9,<- q.o]
    obtain ⟨a5,c5,rfl,G,b1⟩:=zN h s u.symm;rw [u] at G d;have b7:=U b1;have b2:=U G;have S:=U u;have m:=(f.row b3.o (by have:=E.o;omega));obtain ⟨r0,r1,r2,r3,r4⟩:=rc5 d;obtain ⟨t0,t1,t2,t3,t4⟩:=rc5 m;obtain ⟨s0,s1,s2,s3,s4⟩:=rf5 m;simp only [qZ] at r0 r1 r2 r3 r4 t0 t1 t2 t3 t4;have HT:=U f;have b4:=U m;clear d m h s b1 f C G u;go_wp2;refine X4 (Y7 Tryz.results221 _ _ w.heap.size 25 _ (0,0) _ rfl (qr (set5 _ _ _ _ _ b4.o)) X8 rfl (by kernel_rfl)) rfl ?_;have c1:O5 w wr:=N.o.trans (HT.o.below (by have:=r.o;omega) fun j hj e=>by have:=E.o;omega);refine ⟨a5,c5,by rw [<- q.o],?_,zj _ _ _ _ _ c1 lz⟩;rw [<- q.o];have D:=Rep.mk (v:=qb l) (an:=none) (cn:=0) (ai:=a5) (ci:=c5) (w:=wr) (lo:=W.heap.size) (hi:=wr.heap.size) lz (by show (l.map txtJ).length<=c5;rw [S.o];exact b2.o) (.inl rfl) b7.o;have e5:(qb l).items.length=k:=S.o;rw [e5] at D;exact Rep.carry (by have:=r.o;omega) (show wr.heap.size<=_ by simp [World.setCell]) (fun j hj _=>jm _ _ _ _ _ (by have:=r.o;omega)) _ _ D
theorem tk {W wr v:World} {u e T lo hi:Nat} {f:Nat->Value} {j k g cap:Nat} {x:Value} {cs:List Value} {l:List JV} {it:JV} {an ai:Option Addr} {cn ci:Nat}
 (C:u<W.heap.size) (w:Touch (· = u) W wr) (B:wr.rowIs u T 5 f) (A:wr.ownsRow W.heap.size e 5 x k cs) (F:qU wr W.heap.size (fun b=>b=u\/x.ownBlock=some b) l cs)
 (E:Rep wr lo hi it (.agg #[.int .u8 it.kind,.int .i64 it.n,.string it.t,.slice an it.names.length cn,.slice ai it.items.length ci])) (H:W.heap.size<=lo) (G:hi<=wr.heap.size) (hx:∀b,x.ownBlock=some b->¬(lo<=b/\b<hi))
 (z:wr.grownBy v x.ownBlock) (y:x.ownBlock=some g\/g=wr.heap.size)
 (D:v.ownsRow W.heap.size e 5 (.slice (some ⟨g,0,none⟩) (k+1) cap) (k+1) (cs ++ [.int .u8 it.kind,.int .i64 it.n,.string it.t,.slice an it.names.length cn,.slice ai it.items.length ci])) :
 Touch (· = u) W (v.setCell ⟨u,j,none⟩ (.slice (some ⟨g,0,none⟩) (k+1) cap)) /\
 (v.setCell ⟨u,j,none⟩ (.slice (some ⟨g,0,none⟩) (k+1) cap)).rowIs u T 5 (fun i=>if i=j then .slice (some ⟨g,0,none⟩) (k+1) cap else f i) /\
 (v.setCell ⟨u,j,none⟩ (.slice (some ⟨g,0,none⟩) (k+1) cap)).ownsRow W.heap.size e 5 (.slice (some ⟨g,0,none⟩) (k+1) cap) (k+1) (cs ++ [.int .u8 it.kind,.int .i64 it.n,.string it.t,.slice an it.names.length cn,.slice ai it.items.length ci]) /\
 qU (v.setCell ⟨u,j,none⟩ (.slice (some ⟨g,0,none⟩) (k+1) cap)) W.heap.size (fun b=>b=u\/(Value.slice (some ⟨g,0,none⟩) (k+1) cap).ownBlock=some b) (l ++ [it]) (cs ++ [.int .u8 it.kind,.int .i64 it.n,.string it.t,.slice an it.names.length cn,.slice ai it.items.length ci]):=by
 have q:W.heap.size<=wr.heap.size:=w.size;have r:wr.heap.size<=v.heap.size:=z.size;have s:(v.setCell ⟨u,j,none⟩ (.slice (some ⟨g,0,none⟩) (k+1) cap)).heap.size=v.heap.size:=by simp [World.setCell]
 have c:∀b,x.ownBlock=some b->W.heap.size<=b/\b<wr.heap.size:=fun b hb=>A.lt b hb;have d:∀b,b<wr.heap.size->x.ownBlock≠some b->v.heap[b]?=wr.heap[b]?:=fun b hb hne=>z.block b hb (fun e=>hne e.symm);have m:∀b,b≠u->(v.setCell ⟨u,j,none⟩ (.slice (some ⟨g,0,none⟩) (k+1) cap)).heap[b]?=v.heap[b]?:=fun b hb=>X5 _ _ _ _ hb;have h:x.ownBlock≠some u:=fun e=>by have:=(c u e).1;omega
 refine ⟨⟨?_,?_,?_,by omega,fun b hb hne=>?_⟩,?_,?_,?_⟩
 . show v.os=_;rw [z.os,w.os]
 . show v.tape=_;rw [z.tape,w.tape]
 . show v.output=_;rw [z.output,w.output]
 . rw [m b hne,d b (by omega) (fun e=>by have:=(c b e).1;omega)];exact w.block b hb hne
 . have p:v.rowIs u T 5 f:=B.of_block (by rw [d u (by omega) h]);exact p.set j _
 . exact M0 D C _
 . have a:∀b,(Value.slice (some ⟨g,0,none⟩) (k+1) cap).ownBlock=some b->b=g:=fun b hb=>by
    simp [Value.ownBlock] at hb;exact hb.symm
   have o:qU (v.setCell ⟨u,j,none⟩ (.slice (some ⟨g,0,none⟩) (k+1) cap)) W.heap.size (fun b=>b=u\/(Value.slice (some ⟨g,0,none⟩) (k+1) cap).ownBlock=some b) l cs:=by
    refine F.carry (by omega) lz (fun b hb hx=>?_) (fun b hx=>?_)
    . rw [m b (fun e=>hx (.inl e)),d b (by omega) (fun e=>hx (.inr e))]
    . rcases hx with hx|hx
      . exact .inl (.inl hx)
      . rw [a b hx];rcases y with ha|ha
        . exact .inl (.inr ha)
        . exact .inr (by omega)
   refine o.snoc it lo hi an cn ai ci (by omega) (by omega) (fun b hb' hb=>?_) (Rep.carry lz lz (fun b h1 h2=>?_) _ _ E)
   . rcases hb' with hb'|hb'
     . omega
     . rw [a b hb'] at hb;rcases y with ha|ha
       . exact hx g ha hb
       . omega
   . rw [m b (by omega),d b (by omega) (fun e=>hx b e ⟨h1,h2⟩)]
structure LsAt (W wr:World) (cl T k:Nat) (vi:Value) (l:List JV) (cs:List Value):Prop where
 touch:Touch (· = cl) W wr
 row:wr.rowIs cl T 5 (qZ (.int .u8 4) (.int .i64 0) (.string ⟨#[]⟩) (.slice none 0 0) vi)
 own:wr.ownsRow W.heap.size T 5 vi k cs
 reps:qU wr W.heap.size (fun b=>b=cl\/vi.ownBlock=some b) l cs
theorem LsAt.below {W wr w':World} {c T k:Nat} {d:Value} {l:List JV} {cs:List Value} (h:LsAt W wr c T k d l cs) (a:O5 wr w'):LsAt W w' c T k d l cs :=
 ⟨h.touch.trans (Touch.of_below a lz),qj a h.row h.row.lt,qM h.own a,h.reps.carry a.size lz (fun b hb' _=>a.block b hb') (fun _ hx=>.inl hx)⟩
theorem LsAt.step {W wr v:World} {f T k g cap lo hi:Nat} {m:Value} {l:List JV} {cs:List Value} {it:JV} {an ai:Option Addr} {cn ci:Nat} (h:LsAt W wr f T k m l cs) (p:f<W.heap.size)
 (u:Rep wr lo hi it (.agg #[.int .u8 it.kind,.int .i64 it.n,.string it.t,.slice an it.names.length cn,.slice ai it.items.length ci])) (r:W.heap.size<=lo) (q:hi<=wr.heap.size) (x:∀b,m.ownBlock=some b->¬(lo<=b/\b<hi))
 (w:wr.grownBy v m.ownBlock) (o:m.ownBlock=some g\/g=wr.heap.size)
 (s:v.ownsRow W.heap.size T 5 (.slice (some ⟨g,0,none⟩) (k+1) cap) (k+1) (cs ++ [.int .u8 it.kind,.int .i64 it.n,.string it.t,.slice an it.names.length cn,.slice ai it.items.length ci])) :
 LsAt W (v.setCell ⟨f,4,none⟩ (.slice (some ⟨g,0,none⟩) (k+1) cap)) f T (k+1) (.slice (some ⟨g,0,none⟩) (k+1) cap) (l ++ [it]) (cs ++ [.int .u8 it.kind,.int .i64 it.n,.string it.t,.slice an it.names.length cn,.slice ai it.items.length ci]):=by
 obtain ⟨a,c,d,e⟩:=tk (j:=4) p h.touch h.row h.own h.reps u r q x w o s;exact ⟨a,c.congr fun i hi=>by rcases i with _|_|_|_|_|i <;> first|rfl|omega,d,e⟩
theorem LsAt.done {W wr:World} {e T k:Nat} {d:Value} {l:List JV} {cs:List Value} (h:LsAt W wr e T k d l cs) (f:k=l.length):∃ai ci,d=.slice ai l.length ci/\Rep wr W.heap.size wr.heap.size (zB l) (.agg #[.int .u8 4,.int .i64 0,.string ⟨#[]⟩,.slice none 0 0,.slice ai l.length ci]):=by obtain ⟨ai,ci,a,b,c⟩:=zN h.own h.reps f;exact ⟨ai,ci,a,Rep.mk (v:=.mk 4 0 ⟨#[]⟩ [] l) lz b (.inl rfl) c⟩
open Go.Shelf Go.Sort
def anyP (_:World) (_ _:Nat) (_:jP):Prop:=True
theorem jS:bu anyP:=fun _ _ _ _ _ _ _=>trivial
theorem mV:(Tryz.prog.info? 105).map (fun i=>(i.zero,i.size,i.bytes))=some (some (.agg #[.string ⟨#[]⟩,.int .i64 0,.slice none 0 0,.bool false]),4,56):=by kernel_rfl
theorem vA {T B:Nat} {w:World} {a:Option Addr} {n c:Nat} {k:List jP} {S:List StepV} (h:ItemsOwn T 4 B encS anyP w (.slice a n c) k) (l:k.map (·.1)=S) (m:∀q ∈ k,q.1.au.ids.length<=q.2.2/\qv w 0 w.heap.size q.2.1 q.1.au.ids):xl w 0 w.heap.size a S:=by
 subst l;obtain ⟨-,-,d⟩:=ItemsOwn.cells fO h;rcases d with d|⟨g,ha,hg,hlt,hf,hc⟩
 . exact .inl (by rw [d];rfl)
 . refine .inr ⟨g,0,ha,X7 _,hlt,fun i hi=>?_⟩;have b:i<k.length:=by simpa using hi
   have e:(k.map (·.1))[i]=k[i].1:=N2 ..;rw [e,ze8];obtain ⟨f,j⟩:=m k[i] (X6 b);exact ⟨k[i].2.1,k[i].2.2,hc i b 0 (by decide),hc i b 1 (by decide),hc i b 2 (by decide),hc i b 3 (by decide),f,j⟩
theorem tv (S:List StepV) (a:Option Addr) (c:Nat) (w:World) (hS:xl w 0 w.heap.size a S) (hl:S.length<=1000) :
 Calls Tryz.prog 22 #[.slice a S.length c] w fun e w'=>∃a' c',e=.returned (.slice a' S.length c')/\xl w' 0 w'.heap.size a' S/\O5 w w':=by
 have HS:=U hS;obtain ⟨p,C⟩:=O1 S.length;have H:=U C;rw [<- C] at hl ⊢;clear hS C;go_enter Tryz.func22,Tryz.ntmps22;go_wp2_with fail;go_loopw [3,4] (fun s3 i wr=>∃(k:Nat) (M:Option Addr) (N:Nat) (f:List jP),k<=p/\f.length=k/\i=.int .i64 k/\s3=.slice M k N/\f.map (·.1)=S.take k/\(∀q ∈ f,q.1.au.ids.length<=q.2.2/\qv w 0 w.heap.size q.2.1 q.1.au.ids)/\ItemsOwn 105 4 w.heap.size encS anyP wr s3 f/\O5 w wr) (fun _ i _=>p - (intOf i).toNat)
 case atStart=>exact ⟨0,none,0,[],by omega,rfl,rfl,rfl,rfl,fun q hq=>(by cases hq),ItemsOwn.nil _ _ _ _ _ _,J0 _ _⟩
 case round =>
  obtain ⟨k,M,N,f,hk,Z,rfl,rfl,Y,V,v,W⟩:=hrel;have G:=U Y;have E:=U V;have HO:=U v;have d:=U W;have A:=U Z;clear Y V v W Z;by_cases hlt:k<p
  . have X:k<S.length:=by rw [<- H.o];exact hlt
    obtain ⟨b,o,ha,-,u,ia,ic,P,Q,R,T,l1,hs⟩:=HS.o.at k X;subst ha;have e0:=(d.o.cell u).trans P;have e1:=(d.o.cell u).trans Q;have e2:=(d.o.cell u).trans R;have e3:=(d.o.cell u).trans T;have K:=O0 (S.take (k+1)=S.take k ++ [S[k]]) (J7 X);obtain ⟨x,hx⟩:=O1 (S[k]);rw [<- hx] at e0 e1 e2 e3 l1 hs K;clear hx P Q R T;obtain ⟨nm,⟨g,j⟩,tm⟩:=x;dsimp only at e0 e1 e2 e3 l1 hs;have m1:(0:Int)<=(k:Int):=by omega
    have m2:(k:Int)<(p:Int):=by omega
    have m3:decide ((k:Int)<(p:Int))=true:=by simpa using hlt
    obtain ⟨s,l⟩:=O1 (wr.alloc (.cells #[.string nm,.int .i64 g,.slice ia j.length ic,.bool tm] 105));have B:=O7 l
    have L:=U (O9 l);have J:=U (ItemsOwn.below jS HO.o B);have z:=O0 (s.ownsRow w.heap.size 105 4 (.slice M k N) k (f.flatMap encS)) (by have:=J.o.own;rw [A.o] at this;exact this);have F:=U (O2 d B);have a9:=U l;have a8:=O0 (w.heap.size<=wr.heap.size/\wr.heap.size<s.heap.size) (⟨d.o.size,qx L.o⟩);have a0:w.heap.size<=s.heap.size:=F.o.size;have a4:=U (And.intro l1 hs);obtain ⟨i1,b0,b1,b2,b3⟩:=K9 mV;clear l B hs u;go_upto_region 4 with (at_builtin;rw [<- a9.o];(refine V6 _ rfl (.tmp 11) (.tmp 16) 46 rfl w.heap.size 105 i1 _ 4 56 Tryz.underlying46 b0 b1 b2 b3 rfl (by omega) (.slice M k N) k (f.flatMap encS) rfl z.o ⟨wr.heap.size,0,none⟩ 1 1 [.string nm,.int .i64 g,.slice ia j.length ic,.bool tm] rfl rfl (Y0 (cs:=#[.string nm,.int .i64 g,.slice ia j.length ic,.bool tm]) (t:=105) (fr:=(0,0)) L.o) (by simp [Value.oneCell']) (by omega) (by unfold maxLen;omega) (by omega) (by have:=a8.o;omega) s.heap.size (by omega) ?_);intro g2 cap2 w7 hown6 hgrow6 hat6 hlt6;have I:=U hown6;have y:=U hgrow6;have D:=U hat6;clear hown6 hgrow6 hat6)
    obtain ⟨r,m⟩:∃r:jP,r=(⟨nm,⟨g,j⟩,tm⟩,ia,ic):=⟨_,rfl⟩;have a7:=U (show ItemsOwn 105 4 w.heap.size encS anyP w7 (.slice (some ⟨g2,0,none⟩) (k+1) cap2) (f ++ [r]) from ItemsOwn.snoc jS (v':=.slice (some ⟨g2,0,none⟩) (k+1) cap2) J.o r w.heap.size w.heap.size lz a0 (fun b u hbg=>by omega) trivial y.o (by rw [A.o,m];exact I.o) (by
     rcases D.o with h|h
     . exact .inl h.symm
     . exact .inr ⟨g2,rfl,by omega⟩))
    have a2:=U (below_grown F.o a0 y.o (fun b u=>(z.o.lt b u).1));have a5:=O0 ((f ++ [r]).length=k+1) (by rw [G6,A.o];rfl);have a6:=O0 ((f ++ [r]).map (·.1)=S.take (k+1)) (by rw [M1,G.o,K.o,m];rfl);have a1:=U (show ∀q ∈ f ++ [r],q.1.au.ids.length<=q.2.2/\qv w 0 w.heap.size q.2.1 q.1.au.ids from fun q hq=>by
     rcases za5.1 hq with hq|hq
     . exact E.o q hq
     . obtain rfl:q=r:=by simpa using hq
       rw [m];exact a4.o)
    clear I y D z m l1;go_wp2;go_roundw
    case rel=>exact ⟨k+1,some ⟨g2,0,none⟩,cap2,f ++ [r],by omega,a5.o,by go_num,rfl,a6.o,a1.o,a7.o,a2.o⟩
    case measure=>simp [intOf];omega
  . have m3:decide ((k:Int)<(p:Int))=false:=by simpa using hlt
    obtain rfl:k=p:=by omega
    go_wp2;go_ret;refine ⟨M,N,rfl,vA HO.o (by rw [G.o,X2 (by rw [<- H.o];exact J9 _)]) (fun q hq=>?_),d.o⟩;obtain ⟨h1,h2⟩:=E.o q hq;exact ⟨h1,h2.below d.o lz lz d.o.size⟩
