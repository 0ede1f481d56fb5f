import Derived.Test.YthgembbgcbaghaaGreatDoorDt23
set_option maxHeartbeats 4000000
set_option maxRecDepth 100000

namespace Go.Proofs.YthgembbgcbaghaaGreatDoor
open Go.RowKit
def xz:List ByteArray->Nat->Nat
 | [],n=>n
 | s :: r,n=>if n<20000 then xz r (n+10+min 20000 s.size) else n
theorem sG {l:List ByteArray} {n:Nat} (h:20000<=n):xz l n=n:=by
 cases l with
 | nil=>rfl
 | cons s r=>rw [xz,Z5 (by omega)]
theorem vm:∀(l:List ByteArray) (n:Nat),n<=40010->xz l n<=40010
 | [],n,h=>h
 | s :: r,n,h=>by
  rw [xz];split
  . exact vm r _ (by omega)
  . exact h
def wJ (l:List ByteArray):Prop:=l.length<=2000/\∀s ∈ l,s.size<=20000
theorem gh:∀(l:List ByteArray) (n:Nat),xz l n<20000->n+10 * l.length<=xz l n/\∀s ∈ l,s.size<=20000
 | [],n,_=>⟨by rw [zc3];show n+10 * 0<=n;omega,fun s hs=>(by cases hs)⟩
 | s :: r,n,h=>by
  rw [xz] at h ⊢;split at h
  . rename_i hn;rw [J1 hn];obtain ⟨h1,h2⟩:=gh r _ h;refine ⟨by rw [N2];omega,fun x hx=>?_⟩;rcases G3.1 hx with rfl|hx
    . omega
    . exact h2 x hx
  . omega
theorem wS {l:List ByteArray} (h:xz l 0<20000):wJ l:=by obtain ⟨b,a⟩:=gh l 0 h;exact ⟨by omega,a⟩
theorem sB {l:List ByteArray} {n k:Nat} (hk:k<l.length) (hn:n<20000):xz (l.drop k) n=xz (l.drop (k+1)) (n+10+min 20000 l[k].size):=by rw [K0 hk,xz,J1 hn]
theorem gu (l:List ByteArray) (a:Option Addr) (c:Nat) (w:World) (h:qv w 0 w.heap.size a l) (hl:l.length<=9223372036854775807) :
 Calls Tryz.prog 71 #[.slice a l.length c] w fun e w'=>e=.returned (.int .i64 (xz l 0:Nat))/\w'=w:=by
 have H:=U h;obtain ⟨T,y⟩:=O1 (xz l 0);rw [<- y];have z:=U y;obtain ⟨d,p⟩:=O1 l.length;have r:=U p;rw [<- p] at hl ⊢;clear h y p;go_enter Tryz.func71,Tryz.ntmps71;go_wp2_with fail
 go_loop [3,4] (fun n j=>∃k m:Nat,k<=d/\j=.int .i64 k/\n=.int .i64 m/\m<=40010/\10 * k<=m/\T=xz (l.drop k) m) (fun _ j=>d - (intOf j).toNat)
 case atStart=>exact ⟨0,0,by omega,rfl,rfl,by omega,by omega,z.o⟩
 case round =>
  obtain ⟨k,m,P,rfl,rfl,Q,L,E⟩:=hrel;have i:=U E;clear E z;by_cases hgo:k<d/\m<20000
  . obtain ⟨u,D⟩:=hgo;have s:k<l.length:=by rw [<- r.o];exact u
    obtain ⟨b,o,K,_,_,J⟩:=H.o.at k s;subst K;have g:=U (sB s D);obtain ⟨q,v⟩:=O1 (l[k]);rw [<- v] at J g;clear v;obtain ⟨x,M,f⟩:∃x:Nat,(if (q.size:Int)<20000 then (q.size:Int) else 20000)=(x:Int)/\x=min 20000 q.size:=by
     by_cases h:q.size<20000
     . exact ⟨q.size,by rw [J1 (by omega)],by omega⟩
     . exact ⟨20000,by rw [Z5 (by omega)];rfl,by omega⟩
    have F:=U f;rw [<- f] at g;have N:x<=20000:=by omega
    have B:decide ((k:Int)<(d:Int))=true:=by simp;omega
    have G:decide ((m:Int)<20000)=true:=by simp;omega
    have C:decide (k<d)=true:=by simpa using u
    have I:decide (m<20000)=true:=by simpa using D
    clear f;go_wp2
    go_round
    case rel=>exact ⟨k+1,m+10+x,by omega,by go_num,by go_num,by omega,by omega,by rw [i.o,g.o]⟩
    case measure=>simp [intOf];omega
  . have A:=U (show T=m from by
     by_cases h2:m<20000
     . rw [i.o,List.drop_eq_nil_of_le (by rw [<- r.o];omega),xz]
     . rw [i.o,sG (by omega)])
    by_cases hkn:k<d
    . have B:decide ((k:Int)<(d:Int))=true:=by simp;omega
      have G:decide ((m:Int)<20000)=false:=by simp;omega
      have C:decide (k<d)=true:=by simpa using hkn
      have I:decide (m<20000)=false:=by simp;omega
      clear hgo;go_wp2;go_ret;exact ⟨by rw [A.o];rfl,rfl⟩
    . have B:decide ((k:Int)<(d:Int))=false:=by simp;omega
      have C:decide (k<d)=false:=by simpa using hkn
      clear hgo;go_wp2;go_ret;exact ⟨by rw [A.o];rfl,rfl⟩
structure ShortD (x:DelegV):Prop where
 name:x.name.size<=20000
 ids:wJ x.au.ids
 paths:wJ x.paths
 pres:wJ x.pres
structure NotLongD (d:DelegsV):Prop where
 len:d.keys.length<=40
 keys:∀k ∈ d.keys,k.1.size<=300/\k.2.size<=300
 many:d.roles.length<=70
 roles:∀x ∈ d.roles,ShortD x
 pre:d.bins.pre.size<=300
 ids:wJ d.bins.au.ids
def rn (d:DelegsV) (w:World) (e:Ending) (w':World):Prop:=∃b:Bool,e=.returned (.bool b)/\(b=false->NotLongD d)/\Below w.heap.size w w'
structure Lens (x:DelegV):Prop where
 ids:x.au.ids.length<=9223372036854775807
 paths:x.paths.length<=9223372036854775807
 pres:x.pres.length<=9223372036854775807
theorem uA (l:List Key2) (rs:List DelegV) (t bits:Int) (ids:List ByteArray) (pre:ByteArray) (ka ra ba:Option Addr) (kc rc bc:Nat) (w:World) (hI:DelegsIn w 0 w.heap.size ⟨l,rs,⟨bits,pre,⟨t,ids⟩⟩⟩ ka ra ba) (hl:l.length<=9223372036854775807) (hr:rs.length<=9223372036854775807) (hx:∀x ∈ rs,Lens x) (hi:ids.length<=9223372036854775807) :
 Calls Tryz.prog 18 #[.agg #[.slice ka l.length kc,.slice ra rs.length rc,.int .i64 t,.slice ba ids.length bc,.int .i64 bits,.string pre]] w (rn ⟨l,rs,⟨bits,pre,⟨t,ids⟩⟩⟩ w):=by
 obtain ⟨W,hW⟩:=O1 (w.alloc (.cells #[.slice ka l.length kc,.slice ra rs.length rc,.int .i64 t,.slice ba ids.length bc,.int .i64 bits,.string pre] 35));have S:Below w.heap.size w W:=by rw [hW];exact (Z0 _ _).alloc lz _
 have Q:W.heap[w.heap.size]?=some (.cells #[.slice ka l.length kc,.slice ra rs.length rc,.int .i64 t,.slice ba ids.length bc,.int .i64 bits,.string pre] 35 (0,0)):=by rw [hW];exact Z4 w _
 have u:=U (show ∀w':World,Below W.heap.size W w'->w'.cell? ⟨w.heap.size,0,none⟩=some (.slice ka l.length kc)/\w'.cell? ⟨w.heap.size,1,none⟩=some (.slice ra rs.length rc)/\w'.cell? ⟨w.heap.size,2,none⟩=some (.int .i64 t)/\w'.cell? ⟨w.heap.size,3,none⟩=some (.slice ba ids.length bc)/\w'.cell? ⟨w.heap.size,4,none⟩=some (.int .i64 bits)/\w'.cell? ⟨w.heap.size,5,none⟩=some (.string pre) from fun w' h=>by
  have y:=(h.block _ (qx Q)).trans Q;exact ⟨qq y rfl,qq y rfl,qq y rfl,qq y rfl,qq y rfl,qq y rfl⟩)
 have HI:=O0 (∀w':World,Below W.heap.size W w'->DelegsIn w' 0 w'.heap.size ⟨l,rs,⟨bits,pre,⟨t,ids⟩⟩⟩ ka ra ba) (fun w' h=>hI.below (S.trans (h.mono S.size)) lz lz (Z3 S.size h.size));have G:=U (gu ids ba bc W (HI.o W (Z0 _ _)).bids hi);have HX:=U hx;have f:=U S;have H:=U hW;clear hI S Q hW hx hi;obtain ⟨X,y1,y2,y3,y4,y5⟩:=u.o W (Z0 _ _);by_cases h40:l.length<=40
 case neg =>
  have v:decide (40<(l.length:Int))=true:=by simp;omega
  clear u;go_enter Tryz.func18,Tryz.ntmps18;go_upto_region 1 with fail
  rw [<- H.o];go_wp2;go_ret;exact ⟨true,rfl,(fun h=>by cases h),f.o⟩
 have v:decide (40<(l.length:Int))=false:=by simp;omega
 by_cases h70:rs.length<=70
 case neg =>
  have A:decide (70<(rs.length:Int))=true:=by simp;omega
  clear u;go_enter Tryz.func18,Tryz.ntmps18;go_upto_region 1 with fail
  rw [<- H.o];go_wp2;go_ret;exact ⟨true,rfl,(fun h=>by cases h),f.o⟩
 have A:decide (70<(rs.length:Int))=false:=by simp;omega
 by_cases h300:pre.size<=300
 case neg =>
  have I:decide (300<(pre.size:Int))=true:=by simp;omega
  clear u;go_enter Tryz.func18,Tryz.ntmps18;go_upto_region 1 with fail
  rw [<- H.o];go_wp2;go_ret;exact ⟨true,rfl,(fun h=>by cases h),f.o⟩
 have I:decide (300<(pre.size:Int))=false:=by simp;omega
 have E:=U (And.intro h40 (And.intro h70 h300));obtain ⟨T,hT⟩:=O1 (xz ids 0);rw [<- hT] at G;have b4:=O0 (T<=40010/\(T<20000->wJ ids)) (⟨by rw [hT];exact vm _ _ (by omega),fun h=>wS (by rw [<- hT];exact h)⟩);obtain ⟨C,s⟩:=O1 l.length;have a5:=U s;rw [<- s] at u H X v h40;obtain ⟨a,r⟩:=O1 rs.length;have a4:=U r;rw [<- r] at u H y1 A h70;rw [<- s,<- r];clear h300 s r hT hl hr;go_enter Tryz.func18,Tryz.ntmps18;go_upto_region 1 with fail
 rw [<- H.o];clear H;go_wp2_with fail;refine G.o.mono ?_;clear G X y1 y2 y3 y4 y5;rintro e w2 ⟨rfl,h2⟩;subst h2;go_wp2_with fail;go_loopw [4] (fun i wr=>∃k:Nat,k<=C/\i=.int .i64 k/\(∀j (h:j<l.length),j<k->l[j].1.size<=300/\l[j].2.size<=300)/\wr=w2) (fun i _=>C - (intOf i).toNat)
 case atStart=>exact ⟨0,by omega,rfl,fun j _ h=>by omega,rfl⟩
 case round =>
  obtain ⟨k,hk,rfl,b6,c1⟩:=hrel;have d0:=c1.symm;subst d0;clear c1;have D:=U b6;obtain ⟨X,y1,y2,y3,y4,y5⟩:=u.o w2 (Z0 _ _);clear b6 y2 y3 y4 y5;by_cases d:k<C
  . have b7:k<l.length:=by rw [<- a5.o];exact d
    obtain ⟨b,e6,ha,_,S,e0,e1⟩:=((HI.o w2 (Z0 _ _)).keys).at k b7;subst ha;obtain ⟨s0,N⟩:=O1 (l[k].1);obtain ⟨s1,P⟩:=O1 (l[k].2);replace e0:=e0.trans (X1 (fun z=>some (Value.string z)) N.symm);replace e1:=e1.trans (X1 (fun z=>some (Value.string z)) P.symm);have a9:=U (And.intro N P);have m1:(0:Int)<=(k:Int):=by omega
    have m2:(k:Int)<(C:Int):=by omega
    have m3:decide ((k:Int)<(C:Int))=true:=by simpa using d
    clear N P;by_cases g0:s0.size<=300
    . have c6:decide (300<(s0.size:Int))=false:=by simp;omega
      by_cases g1:s1.size<=300
      . have c7:decide (300<(s1.size:Int))=false:=by simp;omega
        have HN:=U (show ∀j (h:j<l.length),j<k+1->l[j].1.size<=300/\l[j].2.size<=300 from fun j p hjk=>by
         rcases Y1.1 hjk with h|h
         . exact D.o j p h
         . subst h;exact ⟨by rw [<- a9.o.1];exact g0,by rw [<- a9.o.2];exact g1⟩)
        clear g0 g1;go_wp2;go_roundw
        case rel=>exact ⟨k+1,by omega,by go_num,HN.o,by first|exact trivial|exact rfl⟩
        case measure=>simp [intOf];omega
      . have c7:decide (300<(s1.size:Int))=true:=by simp;omega
        clear g0 g1;go_wp2;go_ret;exact ⟨true,rfl,(fun h=>by cases h),f.o⟩
    . have c6:decide (300<(s0.size:Int))=true:=by simp;omega
      clear g0;go_wp2;go_ret;exact ⟨true,rfl,(fun h=>by cases h),f.o⟩
  . obtain rfl:k=C:=by omega
    have m3:decide ((k:Int)<(k:Int))=false:=by simp
    have c3:=U (show ∀x ∈ l,x.1.size<=300/\x.2.size<=300 from fun x hx=>by
     obtain ⟨j,p,rfl⟩:=Y3 hx;exact D.o j p (by rw [a5.o];exact p))
    clear D;go_wp2_with fail;clear X y1;go_loopw [3,5] (fun n i w4=>∃q m:Nat,q<=a/\i=.int .i64 q/\n=.int .i64 m/\m<=180000/\(m<20000->wJ ids/\∀j (h:j<rs.length),j<q->ShortD rs[j])/\Below w2.heap.size w2 w4) (fun _ i _=>a - (intOf i).toNat)
    case atStart=>exact ⟨0,T,by omega,rfl,rfl,by have:=b4.o.1;omega,fun h=>⟨b4.o.2 h,fun j _ h=>by omega⟩,Z0 _ _⟩
    case round =>
     obtain ⟨q,m,hq,rfl,rfl,hm,c0,M⟩:=hrel;have F:=U c0;have g:=U M;obtain ⟨X,y1,y2,y3,y4,y5⟩:=u.o wr M;clear c0 M X y2 y3 y4 y5;by_cases hgo:q<a/\m<20000
     . obtain ⟨d,hn⟩:=hgo;have b9:q<rs.length:=by rw [<- a4.o];exact d
       obtain ⟨b,o,ha,-,d5,ia,ic,pa,pc,qa,qc,e0,e1,e2,e3,e4,e5,-,-,-,c⟩:=(HI.o wr g.o).roles.at q b9;subst ha;have c2:=HX.o _ (J7 b9);have b0:=U (F.o hn);obtain ⟨x,hx⟩:=O1 (rs[q]);have c5:=U hx;rw [<- hx] at e0 e1 e2 e3 e4 e5 c c2;clear hx;obtain ⟨V,⟨e7,R⟩,tm,ps,qs⟩:=x;dsimp only at e0 e1 e2 e3 e4 e5;obtain ⟨l1,l2,l3⟩:=c2;dsimp only at l1 l2 l3;have Y:=U (fun n=>gu R ia ic (wr.drewN n) c.ids l1);have Z:=U (fun n=>gu ps pa pc (wr.drewN n) c.paths l2);have a0:=U (fun n=>gu qs qa qc (wr.drewN n) c.pres l3);have a6:=U (@wS R);have a7:=U (@wS ps);have a8:=U (@wS qs);obtain ⟨a1,J⟩:=O1 (xz R 0);obtain ⟨a2,K⟩:=O1 (xz ps 0);obtain ⟨a3,L⟩:=O1 (xz qs 0);have b1:a1<=40010:=by rw [J];exact vm _ _ (by omega)
       have b2:a2<=40010:=by rw [K];exact vm _ _ (by omega)
       have b3:a3<=40010:=by rw [L];exact vm _ _ (by omega)
       rw [<- J] at Y a6;rw [<- K] at Z a7;rw [<- L] at a0 a8;clear c J K L l1 l2 l3;obtain ⟨mn,d6,B⟩:∃mn:Nat,(if (V.size:Int)<20000 then (V.size:Int) else 20000)=(mn:Int)/\mn=min 20000 V.size:=by
        by_cases h:V.size<20000
        . exact ⟨V.size,by rw [J1 (by omega)],by omega⟩
        . exact ⟨20000,by rw [Z5 (by omega)];rfl,by omega⟩
       have c4:=U B;have d7:mn<=20000:=by omega
       have m1:(0:Int)<=(q:Int):=by omega
       have m2:(q:Int)<(a:Int):=by omega
       have d1:decide ((q:Int)<(a:Int))=true:=by simp;omega
       have d2:decide ((m:Int)<20000)=true:=by simp;omega
       have d3:decide (q<a)=true:=by simpa using d
       have d4:decide (m<20000)=true:=by simpa using hn
       clear B;go_wp2_with fail;go_quiet (first|(go_at_call 71;with_reducible exact Calls.quiet_of_same (Y.o _))|(go_at_call 71;with_reducible exact Calls.quiet_of_same (Z.o _))|(go_at_call 71;with_reducible exact Calls.quiet_of_same (a0.o _)))
       go_wp2;go_roundw
       case rel =>
        refine ⟨q+1,m+50+mn+a1+a2+a3,by omega,by go_num,by go_num,by omega,fun h=>⟨b0.o.1,fun j p hjk=>?_⟩,Below.drewN g.o _⟩;rcases Y1.1 hjk with h1|h1
        . exact b0.o.2 j p h1
        . subst h1;rw [<- c5.o];exact ⟨by have:=c4.o;show V.size<=20000;omega,a6.o (by omega),a7.o (by omega),a8.o (by omega)⟩
       case measure=>simp [intOf];omega
     . have b5:=U (show m<20000->NotLongD ⟨l,rs,⟨bits,pre,⟨t,ids⟩⟩⟩ from fun h=>by
        obtain ⟨h1,h2⟩:=F.o h;have c9:q=a:=by omega
        refine ⟨E.o.1,c3.o,E.o.2.1,fun x hx=>?_,E.o.2.2,h1⟩;obtain ⟨j,p,rfl⟩:=Y3 hx;exact h2 j p (by rw [c9,a4.o];exact p))
       clear F;by_cases hkn:q<a
       . have d1:decide ((q:Int)<(a:Int))=true:=by simp;omega
         have d2:decide ((m:Int)<20000)=false:=by simp;omega
         have d3:decide (q<a)=true:=by simpa using hkn
         have d4:decide (m<20000)=false:=by simp;omega
         clear hgo;go_wp2;go_ret;exact ⟨_,rfl,fun h=>b5.o (by have h2:(m:Int)<20000:=(by simpa using h);omega),f.o.trans (g.o.mono f.o.size)⟩
       . have d1:decide ((q:Int)<(a:Int))=false:=by simp;omega
         have d3:decide (q<a)=false:=by simpa using hkn
         clear hgo;go_wp2;go_ret;exact ⟨_,rfl,fun h=>b5.o (by have h2:(m:Int)<20000:=(by simpa using h);omega),f.o.trans (g.o.mono f.o.size)⟩
theorem vE {d:DelegsV} (h:NotLongD d) (hb:-9223372036854775808<=d.bins.bits/\d.bins.bits<=9223372036854775807) (ht:-9223372036854775808<=d.bins.au.thr/\d.bins.au.thr<=9223372036854775807) (hx:∀x ∈ d.roles,-9223372036854775808<=x.au.thr/\x.au.thr<=9223372036854775807):DelegsFits d :=
 have sh:∀ {l:List ByteArray},wJ l->l.length<=4294967296/\∀s ∈ l,s.size<=4294967296:=fun h=>⟨Z3 h.1 (by decide),fun s hs=>Z3 (h.2 s hs) (by decide)⟩
 ⟨h.len,h.keys,h.many,fun x hxm=>⟨Z3 (h.roles x hxm).name (by decide),⟨hx x hxm,sh (h.roles x hxm).ids⟩,sh (h.roles x hxm).paths,sh (h.roles x hxm).pres⟩,hb,h.pre,⟨ht,sh h.ids⟩⟩
end Go.Proofs.YthgembbgcbaghaaGreatDoor
