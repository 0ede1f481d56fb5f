import Derived.Test.YthgembbgcbaghaaGreatDoorDg25
import Derived.WalkSmall
import Derived.Test.YthgembbgcbaghaaGreatDoorDg32
set_option maxHeartbeats 4000000
set_option maxRecDepth 100000

namespace Go.Proofs.YthgembbgcbaghaaGreatDoor
open Go.RowKit
theorem ZY {a b:ByteArray} (h:a=b):(a.toList == b.toList)=true:=by rw [h];exact beq_self_eq_true _
theorem Xb {a b:ByteArray} (h:a≠b):(a.toList == b.toList)=false:=by rw [K3];exact fun e=>h (yV e)
theorem lD (s:ByteArray) (w:World) (f:s.size<=9223372036854775807) :
 Calls Tryz.prog 227 #[.string s] w fun e w'=>e=.returned (.bool (kz s))/\w=w':=by
 by_cases h:s.size=64
 . have d:((s.size:Int) == 64)=true:=by rw [h];rfl
   have a:=U (show kz s=jb s.data.toList by unfold kz;rw [X0 h,Y1]);have b:=U (cd s w f);clear h;go_enter Tryz.func227,Tryz.ntmps227;go_wp2_with fail;refine b.o.mono ?_;rintro e c ⟨rfl,rfl⟩;go_wp2;go_ret;exact ⟨qz a.o.symm,rfl⟩
 . have d:((s.size:Int) == 64)=false:=by simp only [K3];omega
   have a:=U (show kz s=false by unfold kz;rw [J5 h,V8]);clear h;go_enter Tryz.func227,Tryz.ntmps227;go_wp2;go_ret;exact ⟨qz a.o.symm,rfl⟩
theorem QU {l:List ByteArray} {k:Nat} (h:k<l.length) (b:qS [] l=qS (l.take k) (l.drop k)) (a:kz l[k]=false):qS [] l=3:=by rw [b,G3 h,qS,a];rfl
theorem tF {l:List ByteArray} {k j:Nat} (h:k<l.length) (d:j<k) (c:qS [] l=qS (l.take k) (l.drop k)) (b:kz l[k]=true) (e:l[j]=l[k]):qS [] l=7:=by have a:jl (l.take k) l[k]=true:=(by rw [jD,List.mem_take_iff_getElem];exact ⟨j,by omega,e⟩);rw [c,G3 h,qS,b,a];rfl
theorem eo {l:List ByteArray} {k:Nat} (h:k<l.length) (c:qS [] l=qS (l.take k) (l.drop k)) (b:kz l[k]=true) (f:∀j (d:j<k),l[j]≠l[k]):qS [] l=qS (l.take (k+1)) (l.drop (k+1)):=by have a:jl (l.take k) l[k]=false:=(by rw [Bool.eq_false_iff];intro h2;rw [jD,List.mem_take_iff_getElem] at h2;obtain ⟨j,d,e⟩:=h2;exact f j (by omega) e);rw [c,G3 h,qS,b,a,J8 rfl,J3 (by simp),J7 h]
theorem eQ (l:List ByteArray) (a:Option Addr) (c:Nat) (w:World) (hS:qv w 0 w.heap.size a l) (hs:∀s ∈ l,s.size<=9223372036854775807) (hl:l.length<=9223372036854775807) :
 Calls Tryz.prog 178 #[.slice a l.length c] w fun e w'=>e=.returned (.int .i64 (if l.length=0 then 4 else qS [] l))/\O5 w w':=by
 by_cases h0:l.length=0
 . have d:((l.length:Int) == 0)=true:=by rw [h0];rfl
   obtain ⟨E,I⟩:=O1 ((if l.length=0 then 4 else qS [] l));rw [<- I];have o:=U (show E=4 by rw [I,J8 h0]);clear I;go_enter Tryz.func178,Tryz.ntmps178;go_wp2;go_ret;exact ⟨xV o.o.symm,J0 _ _⟩
 have d:((l.length:Int) == 0)=false:=by simp only [K3];omega
 rw [J3 h0];have N:=U hS;have W:=U hs;clear hS hs h0;go_enter Tryz.func178,Tryz.ntmps178;go_wp2;go_loopw [3,4] (fun i _ wr=>∃k:Nat,k<=l.length/\i=.int .i64 k/\qS [] l=qS (l.take k) (l.drop k)/\O5 w wr) (fun i _ _=>l.length - (intOf i).toNat)
 case atStart=>exact ⟨0,X7 _,rfl,by simp,J0 _ _⟩
 case round =>
  obtain ⟨k,hk,rfl,R,f⟩:=hrel;have o:=U R;have r:=U f;clear R f;by_cases hlt:k<l.length
  . have m1:(k:Int)<(l.length:Int):=by omega
    have m0:(0:Int)<=(k:Int):=by omega
    obtain ⟨b,M,X,_,Y,p⟩:=N.o.at k hlt;subst X;have C:=U (lD l[k] wr (W.o _ (X6 hlt)));have F:=U (fun (j:Nat) (S:j<l.length)=>N.o.at j S);obtain ⟨x,D⟩:=O1 (l[k]);obtain ⟨g,K⟩:=O1 (kz l[k]);rw [<- K,<- D] at C;rw [<- D] at p;have P:=U D;have G:=U K;have u:=O0 (∀w':World,O5 w w'->w'.cell? ⟨b,M+k,none⟩=some (.string x)) (fun w' h=>(V9 (w:=w) (h.block b Y)).trans p);clear D K p;have p:=u.o wr r.o;cases g
    . have v:=U (QU hlt o.o G.o.symm);go_wp2_with fail;refine C.o.mono ?_;rintro e w1 ⟨rfl,rfl⟩;go_wp2;go_ret;exact ⟨xV v.o.symm,r.o⟩
    go_wp2_with fail
    refine C.o.mono ?_;clear C;rintro e w1 ⟨rfl,rfl⟩;clear p;go_wp2;go_loopw [4] (fun i wi=>∃j:Nat,j<=k/\i=.int .i64 j/\(∀q (hq:q<j) (hq2:q<l.length),l[q]≠x)/\O5 w wi) (fun i _=>k - (intOf i).toNat)
    case atStart=>exact ⟨0,X7 _,rfl,(fun q hq=>by omega),r.o⟩
    case round =>
     obtain ⟨j,S,rfl,T,f⟩:=hrel;have z:=U T;have m:=U f;clear T f r;by_cases hjk:j<k
     . have Z:(j:Int)<(k:Int):=by omega
       have m3:(0:Int)<=(j:Int):=by omega
       have m4:(j:Int)<(l.length:Int):=by omega
       obtain ⟨b2,V,B,_,J,H⟩:=F.o j (by omega);simp only [H6,Addr.mk.injEq,zb6] at B;obtain ⟨rfl,rfl⟩:=B;have p:=u.o _ m.o;replace H:=(V9 (w:=w) (m.o.block b J)).trans H;obtain ⟨y,L⟩:=O1 (l[j]);rw [<- L] at H;have Q:=U L;clear L;by_cases hxy:y=x
       . have q1:=ZY hxy;have A:=U hxy;have v:=U (tF hlt hjk o.o G.o.symm (by rw [<- Q.o,<- P.o];exact hxy));clear hxy;go_upto_region 11 with fail
         go_quiet (fail)
         go_wp2;go_ret;exact ⟨xV v.o.symm,Below.drewN m.o _⟩
       . have q1:=Xb hxy;have A:=U hxy;clear hxy;go_upto_region 11 with fail
         go_quiet (fail)
         go_wp2;go_roundw
         case rel =>
          refine ⟨j+1,by omega,by go_num,fun q hq hq2=>?_,Below.drewN m.o _⟩;by_cases e:q=j
          . subst e;rw [<- Q.o];exact A.o
          . exact z.o q (by omega) hq2
         case measure=>simp [intOf];omega
     . obtain rfl:j=k:=by omega
       have Z:¬((j:Int)<(j:Int)):=by omega
       go_wp2;go_roundw
       case rel=>exact ⟨j+1,by omega,by go_num,eo hlt o.o G.o.symm fun q hq=>by rw [<- P.o];exact z.o q hq (by omega),m.o⟩
       case measure=>simp [intOf];omega
  . obtain rfl:k=l.length:=by omega
    have v:=U (show qS [] l=0 by rw [o.o,List.drop_length];rfl);go_wp2;go_ret;exact ⟨xV v.o.symm,r.o⟩
theorem lL (t:Int) (l:List ByteArray) (a:Option Addr) (c:Nat) (w:World) (y:qv w 0 w.heap.size a l) (z:∀s ∈ l,s.size<=9223372036854775807) (A:l.length<=9223372036854775807) :
 Calls Tryz.prog 142 #[.agg #[.int .i64 t,.slice a l.length c]] w fun e w'=>e=.returned (.bool (xm t l))/\O5 w w':=by
 have f:=O0 (O5 w (w.alloc (.cells #[.int .i64 t,.slice a l.length c] 31))) O4;by_cases h2:16<l.length
 . have i:=U (jn (t:=t) (l:=l) (by omega));have v:¬((l.length:Int)<=16):=by omega
   go_enter Tryz.func142,Tryz.ntmps142;go_wp2;go_ret;exact ⟨qz i.o.symm,f.o⟩
 have v:(l.length:Int)<=16:=by omega
 have k:=U (eQ l a c _ (y.below f.o lz lz (by simp)) z A);obtain ⟨E,q⟩:=O1 ((if l.length=0 then 4 else qS [] l));rw [<- q] at k;have r:=U q;clear q y z;by_cases hE0:E=0
 . have u:(E == 0)=true:=by rw [hE0];rfl
   have j:=U (show l.length≠0/\qS [] l=0 by
    have:=r.o;rw [hE0] at this;split at this
    . cases this
    . exact ⟨by assumption,this.symm⟩)
   clear hE0;by_cases h3:1<=t
   . by_cases h4:t<=(l.length:Int)
     . have i:=U (show xm t l=true by unfold xm;rw [j.o.2];have:=j.o.1;simp;omega);have x:decide (t<=(l.length:Int))=true:=by simp;omega
       go_enter Tryz.func142,Tryz.ntmps142;go_wp2_with fail;refine k.o.mono ?_;rintro e h ⟨rfl,b⟩;have g:=U (O2 f b);have d:=(b.block w.heap.size (by simp)).trans (J2 w (.cells #[.int .i64 t,.slice a l.length c] 31));have m:=qq d (j:=0) rfl;have o:=qq d (j:=1) rfl;clear b d;go_wp2;go_ret;exact ⟨qz i.o.symm,g.o⟩
     . have i:=U (jn (t:=t) (l:=l) (by omega));have x:decide (t<=(l.length:Int))=false:=by simp;omega
       go_enter Tryz.func142,Tryz.ntmps142;go_wp2_with fail;refine k.o.mono ?_;rintro e h ⟨rfl,b⟩;have g:=U (O2 f b);have d:=(b.block w.heap.size (by simp)).trans (J2 w (.cells #[.int .i64 t,.slice a l.length c] 31));have m:=qq d (j:=0) rfl;have o:=qq d (j:=1) rfl;clear b d;go_wp2;go_ret;exact ⟨qz i.o.symm,g.o⟩
   . have i:=U (jn (t:=t) (l:=l) (by omega));go_enter Tryz.func142,Tryz.ntmps142;go_wp2_with fail;refine k.o.mono ?_;rintro e h ⟨rfl,b⟩;have g:=U (O2 f b);have d:=(b.block w.heap.size (by simp)).trans (J2 w (.cells #[.int .i64 t,.slice a l.length c] 31));have m:=qq d (j:=0) rfl;have o:=qq d (j:=1) rfl;clear b d;go_wp2;go_ret;exact ⟨qz i.o.symm,g.o⟩
 . have u:(E == 0)=false:=by rw [K3];exact hE0
   have i:=U (show xm t l=false by
    by_cases hz:l.length=0
    . exact jn (by omega)
    . have:=r.o;rw [J3 hz] at this;unfold xm;rw [J5 (p:=qS [] l=0) (by rw [<- this];exact hE0),N1])
   clear hE0;go_enter Tryz.func142,Tryz.ntmps142;go_wp2_with fail;refine k.o.mono ?_;rintro e h ⟨rfl,b⟩;have g:=U (O2 f b);have d:=(b.block w.heap.size (by simp)).trans (J2 w (.cells #[.int .i64 t,.slice a l.length c] 31));have m:=qq d (j:=0) rfl;have o:=qq d (j:=1) rfl;clear b d;go_wp2;go_ret;exact ⟨qz i.o.symm,g.o⟩
theorem lR (s:ByteArray) (w:World) :
 Calls Tryz.prog 141 #[.string s] w fun e w'=>e=.returned (.bool (vl s))/\w'=w:=by
 have j:(s.toList == [114,111,111,116])=decide (s=gr):=by rw [<- ba_eq,show gr.toList=[114,111,111,116] from by rw [Y3];rfl]
 have k:(s.toList == [115,110,97,112,115,104,111,116])=decide (s=cK):=by rw [<- ba_eq,show cK.toList=[115,110,97,112,115,104,111,116] from by rw [Y3];rfl]
 have l:(s.toList == [116,97,114,103,101,116,115])=decide (s=cV):=by rw [<- ba_eq,show cV.toList=[116,97,114,103,101,116,115] from by rw [Y3];rfl]
 have a:=U (show vl s=(decide (s=gr) || (decide (s=cK) || decide (s=cV))) by unfold vl;simp only [Bool.decide_or]);obtain ⟨g,c⟩:∃b,b=decide (s=gr):=⟨_,rfl⟩;obtain ⟨h,d⟩:∃b,b=decide (s=cK):=⟨_,rfl⟩;obtain ⟨i,f⟩:∃b,b=decide (s=cV):=⟨_,rfl⟩;rw [<- c] at j a;rw [<- d] at k a;rw [<- f] at l a;clear c d f;cases g
 . cases h
   . cases i
     . go_enter Tryz.func141,Tryz.ntmps141;go_wp2;go_ret;exact ⟨qz a.o.symm,rfl⟩
     . go_enter Tryz.func141,Tryz.ntmps141;go_wp2;go_ret;exact ⟨qz a.o.symm,rfl⟩
   . go_enter Tryz.func141,Tryz.ntmps141;go_wp2;go_ret;exact ⟨qz a.o.symm,rfl⟩
 . go_enter Tryz.func141,Tryz.ntmps141;go_wp2;go_ret;exact ⟨qz a.o.symm,rfl⟩
theorem cT (s:ByteArray) (w:World) (i:s.size<=4611686018427387904) :
 Calls Tryz.prog 197 #[.string s] w fun e w'=>e=.returned (.bool (qG s))/\O5 w w':=by
 by_cases h0:s.size=0
 . have b:=U (vr (s:=s) (by omega));have c:s.size<1:=by omega
   clear h0;go_enter Tryz.func197,Tryz.ntmps197;go_wp2;go_ret;exact ⟨qz b.o.symm,J0 _ _⟩
 have c:¬s.size<1:=by omega
 have a:0<s.size:=by omega
 by_cases h1:256<s.size
 . have b:=U (vr (s:=s) (by omega));clear h0;go_enter Tryz.func197,Tryz.ntmps197;go_wp2;go_ret;exact ⟨qz b.o.symm,J0 _ _⟩
 by_cases h2:s[0].toNat=47
 . have b:=U (yB a h2);have h:((s[0].toNat:Int) == 47)=true:=by simp;omega
   clear h2 h0;go_enter Tryz.func197,Tryz.ntmps197;go_wp2;go_ret;exact ⟨qz b.o.symm,J0 _ _⟩
 have h:((s[0].toNat:Int) == 47)=false:=by simp;omega
 have b:=U (f9 a (by omega) h2);have g:=U (fun w=>r8 s w i);clear h2 h0;go_enter Tryz.func197,Tryz.ntmps197;go_wp2_with fail;refine (g.o _).mono ?_;rintro e w' ⟨n,rfl,d⟩;have f:=U d;clear d;rw [<- b.o];go_wp2;go_ret;exact ⟨rfl,f.o⟩
theorem sE (s:ByteArray) (w:World) (f:s.size<=9223372036854775807) :
 Calls Tryz.prog 146 #[.string s] w fun e w'=>e=.returned (.bool (preB s))/\w=w':=by
 by_cases h1:s.size<1
 . have a:=U (pB (s:=s) (.inl h1));go_enter Tryz.func146,Tryz.ntmps146;go_wp2;go_ret;exact ⟨qz a.o.symm,rfl⟩
 by_cases h2:64<s.size
 . have a:=U (pB (s:=s) (.inr h2));go_enter Tryz.func146,Tryz.ntmps146;go_wp2;go_ret;exact ⟨qz a.o.symm,rfl⟩
 have c:1<=s.size:=by omega
 have d:s.size<=64:=by omega
 have a:=U (sB c d);have b:=U (fun w=>cd s w f);rw [<- a.o] at b;clear h1 h2;go_enter Tryz.func146,Tryz.ntmps146;go_wp2_with (go_at_call 199;refine (b.o _).mono ?_;rintro e w' ⟨rfl,rfl⟩);go_ret;exact ⟨rfl,rfl⟩
theorem uu (k:Nat) (w:World) (b:k<=32):Calls Tryz.prog 190 #[.int .i64 k] w fun e w'=>e=.returned (.int .i64 ((vz k:Nat):Int))/\w'=w:=by have a:=U (show ((vz k:Nat):Int)=((k:Int)+3) / 4 by unfold vz;omega);go_enter Tryz.func190,Tryz.ntmps190;go_wp2;go_ret;exact ⟨by rw [a.o];first|rfl|go_num,rfl⟩
theorem yU (t C:Int) (ids:List ByteArray) (D:ByteArray) (F:Option Addr) (G:Nat) (w:World) (H:D.size<=4294967296) :
 Calls Tryz.prog 131 #[.agg #[.int .i64 t,.slice F ids.length G,.int .i64 C,.string D]] w fun e w'=>e=.returned (.int .i64 (zu ⟨C,D,⟨t,ids⟩⟩))/\O5 w w':=by
 obtain ⟨W,l⟩:=O1 (w.alloc (.cells #[.int .i64 t,.slice F ids.length G,.int .i64 C,.string D] 33));have j:=O7 l
 have m:=O9 l
 have q:=U (show ∀w':World,O5 W w'->w'.cell? ⟨w.heap.size,0,none⟩=some (.int .i64 t)/\w'.cell? ⟨w.heap.size,1,none⟩=some (.slice F ids.length G)/\w'.cell? ⟨w.heap.size,2,none⟩=some (.int .i64 C)/\w'.cell? ⟨w.heap.size,3,none⟩=some (.string D) from fun w' h=>by
  have y:=(h.block _ (qx m)).trans m;exact ⟨qq y rfl,qq y rfl,qq y rfl,qq y rfl⟩)
 have f:=U j;have i:=U l;have a:=O0 (zu ⟨C,D,⟨t,ids⟩⟩=if C<1\/32<C then 1 else if zg D.data.toList=false then 3 else if 64<D.size+1+(C.toNat+3) / 4 then 5 else 0) rfl;obtain ⟨E,o⟩:=O1 (zu ⟨C,D,⟨t,ids⟩⟩);rw [<- o] at a ⊢;clear j m l o;obtain ⟨x,z,A,B⟩:=q.o W (J0 _ _);by_cases h1:C<1
 . rw [J8 (.inl h1)] at a;have r:decide (C<1)=true:=X0 h1;go_enter Tryz.func131,Tryz.ntmps131;go_upto_region 1 with fail
   rw [<- i.o];go_wp2;go_ret;exact ⟨by rw [a.o];rfl,f.o⟩
 have r:decide (C<1)=false:=J5 h1;by_cases h2:32<C
 . rw [J8 (.inr h2)] at a;have s:decide (32<C)=true:=X0 h2;go_enter Tryz.func131,Tryz.ntmps131;go_upto_region 1 with fail
   rw [<- i.o];go_wp2;go_ret;exact ⟨by rw [a.o];rfl,f.o⟩
 have s:decide (32<C)=false:=J5 h2;rw [J3 (by omega)] at a;obtain ⟨k,rfl⟩:∃k:Nat,C=(k:Int):=⟨C.toNat,by omega⟩;have g:=U (fun w:World=>(bz D w (by omega)).mono fun e w' h=>show e=.returned (.bool (zg D.data.toList))/\w=w' from h);rw [zb2] at a;have c:=U (fun w:World=>uu k w (by omega));obtain ⟨d,b⟩:=O1 (vz k);rw [<- b] at c;have v:d<=8:=by rw [b];unfold vz;omega
 rw [show (k+3) / 4=d from b.symm] at a;clear h1 h2 b;cases hr:zg D.data.toList
 . rw [hr] at g a;rw [J8 rfl] at a;clear hr;go_enter Tryz.func131,Tryz.ntmps131;go_upto_region 1 with fail
   rw [<- i.o];go_wp2_with (go_at_call 140;refine (g.o _).mono ?_;rintro e p ⟨rfl,rfl⟩);go_ret;exact ⟨by rw [a.o];rfl,f.o⟩
 . rw [hr] at g a;rw [J3 (by decide)] at a;clear hr;by_cases h3:64<D.size+1+d
   . have u:decide (64<(D.size:Int)+1+(d:Int))=true:=X0 (by omega);rw [J8 h3] at a;clear h3;go_enter Tryz.func131,Tryz.ntmps131;go_upto_region 1 with fail
     rw [<- i.o];go_wp2_with (go_at_call 140;refine (g.o _).mono ?_;rintro e p ⟨rfl,rfl⟩);go_quiet ((go_at_call 190;exact Calls.quiet_of_same (c.o _)));go_wp2;go_ret;exact ⟨by rw [a.o];rfl,Below.drewN f.o _⟩
   . have u:decide (64<(D.size:Int)+1+(d:Int))=false:=J5 (by omega);rw [J3 h3] at a;clear h3;go_enter Tryz.func131,Tryz.ntmps131;go_upto_region 1 with fail
     rw [<- i.o];go_wp2_with (go_at_call 140;refine (g.o _).mono ?_;rintro e p ⟨rfl,rfl⟩);go_quiet ((go_at_call 190;exact Calls.quiet_of_same (c.o _)));go_wp2;go_ret;exact ⟨by rw [a.o];rfl,Below.drewN f.o _⟩
theorem cI (e t:Int) (d:ByteArray) (ids:List ByteArray):q8 ⟨e,d,⟨t,ids⟩⟩=((e == 0) && ((d.toList == []) && ((t == 0) && ((ids.length:Int) == 0)))):=by
 unfold q8;have a:(⟨#[]⟩:ByteArray).toList=[]:=by rw [Y3]
 have b:(d.toList == [])=decide (d=⟨#[]⟩):=by rw [<- ba_eq,a]
 have c:((ids.length:Int) == 0)=decide (ids=[]):=by cases ids <;> simp;omega
 rw [b,c];simp only [Bool.decide_and];rfl
theorem bG (t p:Int) (ids:List ByteArray) (q:ByteArray) (r:Option Addr) (s:Nat) (w:World) :
 Calls Tryz.prog 73 #[.agg #[.int .i64 t,.slice r ids.length s,.int .i64 p,.string q]] w fun e w'=>e=.returned (.bool (q8 ⟨p,q,⟨t,ids⟩⟩))/\O5 w w':=by
 obtain ⟨W,f⟩:=O1 (w.alloc (.cells #[.int .i64 t,.slice r ids.length s,.int .i64 p,.string q] 33));have d:=O7 f
 have g:=O9 f
 have j:=U (show ∀w':World,O5 W w'->w'.cell? ⟨w.heap.size,0,none⟩=some (.int .i64 t)/\w'.cell? ⟨w.heap.size,1,none⟩=some (.slice r ids.length s)/\w'.cell? ⟨w.heap.size,2,none⟩=some (.int .i64 p)/\w'.cell? ⟨w.heap.size,3,none⟩=some (.string q) from fun w' h=>by
  have y:=(h.block _ (qx g)).trans g;exact ⟨qq y rfl,qq y rfl,qq y rfl,qq y rfl⟩)
 have b:=U d;have c:=U f;have a:=U (cI p t q ids);obtain ⟨V,i⟩:=O1 (q8 ⟨p,q,⟨t,ids⟩⟩);rw [<- i] at a ⊢;clear d g f i;obtain ⟨k,l,m,o⟩:=j.o W (J0 _ _);cases g1:(p == 0)
 . rw [g1] at a;go_enter Tryz.func73,Tryz.ntmps73;go_upto_region 1 with fail
   rw [<- c.o];go_wp2;go_ret;exact ⟨qz a.o.symm,b.o⟩
 rw [g1] at a;cases g2:(q.toList == [])
 . rw [g2] at a;go_enter Tryz.func73,Tryz.ntmps73;go_upto_region 1 with fail
   rw [<- c.o];go_wp2;go_ret;exact ⟨qz a.o.symm,b.o⟩
 rw [g2] at a;cases g3:(t == 0)
 . rw [g3] at a;go_enter Tryz.func73,Tryz.ntmps73;go_upto_region 1 with fail
   rw [<- c.o];go_wp2;go_ret;exact ⟨qz a.o.symm,b.o⟩
 rw [g3] at a;cases g4:((ids.length:Int) == 0)
 . rw [g4] at a;go_enter Tryz.func73,Tryz.ntmps73;go_upto_region 1 with fail
   rw [<- c.o];go_wp2;go_ret;exact ⟨qz a.o.symm,b.o⟩
 . rw [g4] at a;go_enter Tryz.func73,Tryz.ntmps73;go_upto_region 1 with fail
   rw [<- c.o];go_wp2;go_ret;exact ⟨qz a.o.symm,b.o⟩
theorem tH (t L:Int) (ids:List ByteArray) (M:ByteArray) (N:Option Addr) (P:Nat) (w:World) (S:M.size<=4294967296) (Q:qv w 0 w.heap.size N ids) (T:∀s ∈ ids,s.size<=9223372036854775807) (R:ids.length<=9223372036854775807) :
 Calls Tryz.prog 93 #[.agg #[.int .i64 t,.slice N ids.length P,.int .i64 L,.string M]] w fun e w'=>e=.returned (.bool (q6 ⟨L,M,⟨t,ids⟩⟩))/\O5 w w':=by
 obtain ⟨W,u⟩:=O1 (w.alloc (.cells #[.int .i64 t,.slice N ids.length P,.int .i64 L,.string M] 33));have b:=O7 u
 have D:=O9 u
 have B:=U (show ∀w':World,O5 W w'->w'.cell? ⟨w.heap.size,0,none⟩=some (.int .i64 t)/\w'.cell? ⟨w.heap.size,1,none⟩=some (.slice N ids.length P)/\w'.cell? ⟨w.heap.size,2,none⟩=some (.int .i64 L)/\w'.cell? ⟨w.heap.size,3,none⟩=some (.string M) from fun w' h=>by
  have y:=(h.block _ (qx D)).trans D;exact ⟨qq y rfl,qq y rfl,qq y rfl,qq y rfl⟩)
 have l:=U b;have F:=U u;have m:=O0 (q6 ⟨L,M,⟨t,ids⟩⟩=(decide (zu ⟨L,M,⟨t,ids⟩⟩=0) && xm t ids && !vl M)) rfl;have g:=U (yU t L ids M N P W S);have f:=O0 (∀w':World,O5 W w'->_) (fun w' h=>lL t ids N P w' (Q.below (b.trans (h.mono b.size)) lz lz (J1 b.size h.size)) T R);have o:=U (fun w:World=>(lR M w).mono fun e w' h=>show e=.returned (.bool (vl M))/\w=w' from ⟨h.1,h.2.symm⟩);obtain ⟨V,C⟩:=O1 (q6 ⟨L,M,⟨t,ids⟩⟩);obtain ⟨p,i⟩:=O1 (zu ⟨L,M,⟨t,ids⟩⟩);obtain ⟨E,j⟩:=O1 (xm t ids);obtain ⟨G,k⟩:=O1 (vl M);rw [<- C,<- i,<- j,<- k] at m;rw [<- C];rw [<- i] at g;rw [<- j] at f;rw [<- k] at o;clear b D u C i j k Q;obtain ⟨v,x,z,A⟩:=B.o W (J0 _ _);go_enter Tryz.func93,Tryz.ntmps93;go_upto_region 1 with fail
 rw [<- F.o];clear F;go_wp2_with fail;refine g.o.mono ?_;clear g v x z A;rintro e H ⟨rfl,q⟩;have a:=U q;clear q;by_cases h0:p=0
 case neg =>
  have I:(p == 0)=false:=by simpa using h0
  rw [J5 h0] at m;clear h0;go_wp2;go_ret;exact ⟨qz m.o.symm,l.o.trans (a.o.mono l.o.size)⟩
 have I:(p == 0)=true:=by simpa using h0
 rw [X0 h0] at m;clear h0;obtain ⟨v,x,z,A⟩:=B.o H a.o;have c:=U (f.o H a.o);clear f;go_wp2_with fail;refine c.o.mono ?_;clear c v x z A;rintro e J ⟨rfl,r⟩;have d:=U (O2 a r);clear r;cases E with
 | false => go_wp2;go_ret;exact ⟨qz m.o.symm,l.o.trans (d.o.mono l.o.size)⟩
 | true =>
 obtain ⟨v,x,z,A⟩:=B.o J d.o;go_wp2_with (go_at_call 141;refine (o.o _).mono ?_;rintro e K ⟨rfl,rfl⟩);go_ret;exact ⟨qz m.o.symm,l.o.trans (d.o.mono l.o.size)⟩
theorem mF (s:ByteArray) (w:World) (i:s.size<=4611686018427387904) :
 Calls Tryz.prog 72 #[.string s] w fun e w'=>e=.returned (.bool (qG s))/\O5 w w':=by
 by_cases h0:s.size=0
 . have b:=U (vr (s:=s) (by omega));have c:s.size<1:=by omega
   clear h0;go_enter Tryz.func72,Tryz.ntmps72;go_wp2;go_ret;exact ⟨qz b.o.symm,J0 _ _⟩
 have c:¬s.size<1:=by omega
 have a:0<s.size:=by omega
 by_cases h1:256<s.size
 . have b:=U (vr (s:=s) (by omega));clear h0;go_enter Tryz.func72,Tryz.ntmps72;go_wp2;go_ret;exact ⟨qz b.o.symm,J0 _ _⟩
 by_cases h2:s[0].toNat=47
 . have b:=U (yB a h2);have h:((s[0].toNat:Int) == 47)=true:=by simp;omega
   clear h2 h0;go_enter Tryz.func72,Tryz.ntmps72;go_wp2;go_ret;exact ⟨qz b.o.symm,J0 _ _⟩
 have h:((s[0].toNat:Int) == 47)=false:=by simp;omega
 have b:=U (f9 a (by omega) h2);have g:=U (fun w=>r8 s w i);clear h2 h0;go_enter Tryz.func72,Tryz.ntmps72;go_wp2_with fail;refine (g.o _).mono ?_;rintro e w' ⟨n,rfl,d⟩;have f:=U d;clear d;rw [<- b.o];go_wp2;go_ret;exact ⟨rfl,f.o⟩
theorem eZ:(Tryz.prog.info? 4).map (fun i=>(i.zero,i.size,i.bytes))=some (some (.bool false),1,1):=by kernel_rfl
theorem eX:(Tryz.prog.info? 21).map (fun i=>(i.zero,i.size,i.bytes))=some (some (.int .i32 0),1,4):=by kernel_rfl
theorem mH (n:Nat) (d:n<=4294967296) (w:World):(Instr.makeSlice 205 (.int .i64 ((n:Int)+1)) (.int .i64 ((n:Int)+1))).run Tryz.prog w=.ok (.slice (some ⟨w.heap.size,0,none⟩) (n+1) (n+1)) (w.alloc (.cells (madeCells #[.bool false] (n+1)) 4)):=by obtain ⟨i,hi,a,b,c⟩:=K9 eZ;have:=run_make_row (P:=Tryz.prog) 205 4 i (.bool false) Tryz.underlying205 hi a b rfl .i64 .i64 (n+1) (by rw [c];omega) (by omega) w;simpa using this
theorem tU {x r:Int} (h:x=r):x≠42->j7 x r=true:=by
 intro _;subst h;unfold j7;by_cases h:x=63
 . rw [J8 h,J6,h];decide
 . rw [J3 h,X0 rfl]
theorem eJ {r:Int} (h:r≠47):j7 63 r=true:=by unfold j7;rw [J8 rfl,X0 h]
theorem nR:j7 63 47=false:=by decide
theorem eK {x r:Int} (h:x≠r) (a:x≠63):j7 x r=false:=by unfold j7;rw [J3 a,J5 h]
theorem mU {s:ByteArray} (h:qG s=true):s.size<=256:=by unfold qG at h;simp only [X3,J6] at h;exact h.1.1.2
set_option pp.deepTerms true in
set_option pp.maxSteps 10000000 in
theorem nN (p s:ByteArray) (w:World) (hp:p.size<=4294967296) (hs:s.size<=4294967296) :
 Calls Tryz.prog 144 #[.string p,.string s] w fun e w'=>e=.returned (.bool (xk runes p s))/\O5 w w':=by
 have d5:=U (cT p w (by omega));have d6:=U (fun w'=>cT s w' (by omega));obtain ⟨V,hV⟩:=O1 (xk runes p s);have HV:=U (show V=(qG p && (qG s && iG (runes p) (runes s))) by rw [hV,xk,di,Bool.and_assoc]);rw [<- hV];clear hV;obtain ⟨b1,f1⟩:∃b,b=qG p:=⟨_,rfl⟩;obtain ⟨b2,f2⟩:∃b,b=qG s:=⟨_,rfl⟩;have g6:=O0 (b1=true->p.size<=256) (fun h=>mU (by rw [<- f1];exact h));have g7:=O0 (b2=true->s.size<=256) (fun h=>mU (by rw [<- f2];exact h));rw [<- f1] at d5 HV;rw [<- f2] at d6 HV;clear f1 f2 hp hs;obtain ⟨i1,l6,n3,n4,n5⟩:=K9 eX;go_enter Tryz.func144,Tryz.ntmps144;go_wp2_with fail;refine d5.o.mono ?_;clear d5;rintro e w1 ⟨rfl,B⟩;have a9:=U B;clear B;cases b1 with
 | false => go_wp2;go_ret;exact ⟨qz HV.o.symm,a9.o⟩
 | true =>
 rw [Y1] at HV;go_wp2_with fail;refine (d6.o w1).mono ?_;clear d6;rintro e w2 ⟨rfl,B⟩;have c9:=U (O2 a9 B);clear B a9;cases b2 with
 | false => go_wp2;go_ret;exact ⟨qz HV.o.symm,c9.o⟩
 | true =>
 rw [Y1] at HV;have f5:p.size<=256:=g6.o (by first|exact rfl|exact trivial);have n0:s.size<=256:=g7.o (by first|exact rfl|exact trivial);clear g6 g7;obtain ⟨z,a5⟩:=O1 w2.heap.size;have k6:=U a5;have e9:=U (show (w2.iter p 0).heap[z]?=some (.stringIter p 0) by rw [a5];exact World.iter_heap w2 p 0);have d0:=U (show Below z w2 (w2.iter p 0) by rw [a5];exact O4);obtain ⟨n,hn⟩:=O1 ((runes p).length);have HN:=U hn;have l7:n<=256:=by rw [hn];exact J1 (bZ p) f5
 clear hn;go_upto_region 5 with fail
 rw [<- a5];clear a5;obtain ⟨w3,k2⟩:=O1 (w2.iter p 0);rw [<- k2] at e9 d0 ⊢;clear k2;go_loopw [5,7] (fun v5 _ wr=>∃(pos a:Nat) (F:List Int) (pv:Value),v5=pv/\wr.heap[z]?=some (.stringIter p pos)/\wr.ownsRow (z+1) 21 1 pv F.length (F.map (Value.int .i32))/\Below z w2 wr/\F ++ kr p a pos=runes p/\p.size<=a+pos) (fun _ _ wr=>p.size - wr.iterPos z)
 case atStart=>exact ⟨0,p.size,[],_,rfl,e9.o,W8 _ _ _ _,d0.o,rfl,by omega⟩
 case round =>
  obtain ⟨pos,a,F,pv,m0,v,c6,B,f0,l5⟩:=hrel;obtain rfl:=m0.symm;have c0:=iterPos_of v;have a8:=U f0;have Q:=U c6;have H:=U B;have i2:F.length<=256:=(by have:=Y2 List.length f0;rw [G6,<- HN.o] at this;omega);clear c6 B f0 e9 d0;by_cases hlt:pos<p.size
  . obtain ⟨a,rfl⟩:∃f,a=f+1:=⟨a - 1,by omega⟩;have n2:=width_pos p pos;have I:∀ty,(Instr.next (.pointer (some ⟨z,0,none⟩)) true ty).run Tryz.prog wr=_:=fun ty=>Lib.run_next_any_at wr z p pos ty v hlt;have o:=Lib.iterAt_heap wr z p pos (pos+(Utf8.decode p pos).2) v;have d1:=U (Lib.below_iterAt H.o (k:=z) lz p (pos+(Utf8.decode p pos).2));have b3:=U (ownsRow_iterAt Q.o (k:=z) (by omega) p (pos+(Utf8.decode p pos).2));have Z:=U (show (F ++ [((Utf8.decode p pos).1:Int)]) ++ kr p a (pos+(Utf8.decode p pos).2)=runes p by rw [<- a8.o,uz p a pos hlt];simp);obtain ⟨R,M⟩:=O1 (wr.iterAt z p (pos+(Utf8.decode p pos).2));rw [<- M] at I o d1 b3;obtain ⟨d,hd⟩:∃d:Int,d=((Utf8.decode p pos).1:Int):=⟨_,rfl⟩;rw [<- hd] at I Z;obtain ⟨C,N⟩:∃q,q=pos+(Utf8.decode p pos).2:=⟨_,rfl⟩;rw [<- N] at o Z;have i9:=qx o;have i7:∀b,pv.ownBlock=some b->z+1<=b:=fun b hb=>(b3.o.lt b hb).1;have g5:=U (b3.o.alloc (.cells #[.int .i32 d] 21));clear M hd v H Q a8;go_wp2_with (at_builtin;refine V6 _ rfl (.tmp 26) (.tmp 28) 204 rfl (z+1) 21 i1 _ 1 4 Tryz.underlying204 l6 n3 n4 n5 rfl (by decide) pv F.length (F.map (Value.int .i32)) rfl g5.o ⟨R.heap.size,0,none⟩ 1 1 [.int .i32 d] rfl rfl (Y0 (J2 R _)) (by simp [Value.oneCell']) (by decide) (by unfold maxLen;omega) (by omega) (by simp;omega) _ rfl ?_;intro g c w5 hown5 hgrow5 hat5 hlt5;have k7:=U hown5;have d3:=U hgrow5;clear hown5 hgrow5 hat5 hlt5);have c5:w5.heap[z]?=some (.stringIter p C):=(by rw [d3.o.block z (by simp;omega) (fun e=>by have:=i7 _ e.symm;omega),Y4 _ _ _ i9];exact o);have i4:Below z w2 w5:=below_grown (d1.o.alloc (by omega) _) (by simp;omega) d3.o (fun b hb=>by have:=i7 b hb;omega);have HX:=U (And.intro c5 i4);clear c5 i4 d3 g5 b3 d1 o;go_roundw
    case rel=>exact ⟨C,a,F ++ [d],_,rfl,HX.o.1,by simpa using k7.o,HX.o.2,Z.o,by omega⟩
    case measure=>rw [iterPos_of HX.o.1,c0];omega
  . have I:∀ty,(
     Instr.next (.pointer (some ⟨z,0,none⟩)) true ty).run Tryz.prog wr=_:=fun ty=>Lib.run_next_end_at wr z p pos ty v hlt
    obtain rfl:F=runes p:=by have:=a8.o;rwa [mX p a pos hlt,List.append_nil] at this
    obtain ⟨pa,pc,rfl,j2⟩:=aE Q.o;have e7:=U (j2.carry (lo':=0) (hi':=wr.heap.size) (X7 _) lz (fun _ _ _=>rfl));have g3:=H;have k5:=O0 (z<=wr.heap.size) (ze7 (qx v));clear j2 Q a8 c0 i2 v H;obtain ⟨L,rfl⟩:=O1 wr;rw [<- HN.o];have f4:=mH n (by omega) L;have m5:IntKind.i64.wrap ((n:Int)+1)=(n:Int)+1:=V0 _ (by omega);go_upto_region 9 with fail
    obtain ⟨E,a4⟩:=O1 L.heap.size;obtain ⟨Wm,b6⟩:=O1 (L.alloc (.cells (madeCells #[.bool false] (n+1)) 4));have c2:Wm.rowIs E 4 (n+1) (fun _=>.bool false):=by rw [b6,a4];exact World.rowIs_made L _ _ _
    have i5:Below E L Wm:=by rw [b6,a4];exact O4
    rw [<- b6,<- a4];have e6:=U ((c2.set 0 (.bool true)).congr (g:=fun i=>.bool (decide (i=0))) (fun i _=>by
     by_cases h:i=0
     . rw [J8 h,X0 h]
     . rw [J3 h,J5 h]))
    obtain ⟨Ws,b9⟩:=O1 (Wm.setCell ⟨E,0,none⟩ (.bool true));have a0:=U (show Below E L Ws by rw [b9];exact i5.setCell (J9 E) _);rw [<- b9] at e6;have h9:E<=L.heap.size:=by omega
    have h4:=O0 (zR Ws 0 Ws.heap.size pa (runes p)) (e7.o.below a0.o (by omega) lz a0.o.size);have J:=U (sF (runes p) pa pc E (n+1) (fun i=>decide (i=0)) Ws h4.o (by rw [<- HN.o];omega) (by rw [<- HN.o];exact e6.o));rw [<- HN.o] at J;have cm:=c2.cell (i:=0) (by omega);have fm:=c2.frozen 0;have h6:=U b9;have Y:=U a4;clear c2 i5 f4 b6 a4 b9 e6;go_upto_region 10 with fail
    rw [<- h6.o];clear h6 cm fm;go_wp2_with fail;refine J.o.mono ?_;clear J h4;rintro e w5 ⟨rfl,k0,j0⟩;have d2:=O0 (Below E L w5) (a0.o.trans (k0.below (J1 h9 a0.o.size) (fun k hk e=>by omega)));have b4:=U j0;clear k0 j0 a0;obtain ⟨D,b5⟩:=O1 w5.heap.size;obtain ⟨w6,c3⟩:=O1 (w5.iter s 0);have h8:=U (show w6.heap[D]?=some (.stringIter s 0) by rw [b5,c3];exact World.iter_heap w5 s 0);have a6:=O7 c3
    have g2:=U (d2.o.trans (a6.mono (J1 h9 d2.o.size)));have g8:=O0 (w6.rowIs E 4 (n+1) (fun i=>.bool (gOn (runes p) (fun i=>decide (i=0)) i))) (b4.o.of_block (a6.block _ b4.o.lt));have g1:=U (show E<D by rw [b5];exact b4.o.lt);go_upto_region 12 with fail
    rw [<- c3,<- b5];clear c3 b5 a6 b4 d2;go_loopw [8,10,11,12] (fun v8 _ _ _ wr=>∃(pos a A:Nat) (f:Nat->Bool),v8=.slice (some ⟨A,0,none⟩) (n+1) (n+1)/\wr.heap[D]?=some (.stringIter s pos)/\wr.rowIs A 4 (n+1) (fun i=>.bool (f i))/\E<=A/\A≠D/\Below E L wr/\uQ (runes p) (kr s a pos) f n=V/\s.size<=a+pos) (fun _ _ _ _ wr=>s.size - wr.iterPos D)
    case atStart=>exact ⟨0,s.size,E,_,rfl,h8.o,g8.o,by omega,zc7 g1.o,g2.o,by rw [HV.o,HN.o];rfl,by omega⟩
    case round =>
     obtain ⟨pos,a,A,f,n1,v,c7,i0,c4,B,i6,l5⟩:=hrel;obtain rfl:=n1.symm;have c0:=iterPos_of v;have a3:=U c7;have H:=U B;have d4:=U i6;have g0:=U (And.intro i0 c4);clear c7 B i6 i0 c4 h8 g8 g2;by_cases hlt:pos<s.size
     case neg =>
      have I:∀ty,(Instr.next (.pointer (some ⟨D,0,none⟩)) true ty).run Tryz.prog wr=_:=fun ty=>Lib.run_next_end_at wr D s pos ty v hlt;have l3:=a3.o.cell (i:=n) (by omega);have k4:=U (show f n=V by have:=d4.o;rwa [mX s a pos hlt,oT] at this);rw [k4.o] at l3;have HE:=U (c9.o.trans ((show Below z w2 wr from g3.o.trans (H.o.mono (by have:=Y.o;have:=k5.o;omega))).mono (by rw [k6.o];exact c9.o.size)));have m6:(n:Int)<(n:Int)+1:=by omega
      have m7:(0:Int)<=(n:Int):=by omega
      go_wp2;go_ret;exact ⟨rfl,HE.o⟩
     case pos =>
      obtain ⟨a,rfl⟩:∃f,a=f+1:=⟨a - 1,by omega⟩;have n2:=width_pos s pos;have I:∀ty,(Instr.next (.pointer (some ⟨D,0,none⟩)) true ty).run Tryz.prog wr=_:=fun ty=>Lib.run_next_any_at wr D s pos ty v hlt;have o:=Lib.iterAt_heap wr D s pos (pos+(Utf8.decode s pos).2) v;have a2:=U (show uQ (runes p) (kr s a (pos+(Utf8.decode s pos).2)) (gOn (runes p) (wX (runes p) ((Utf8.decode s pos).1:Int) f)) n=V by have:=d4.o;rwa [uz s a pos hlt,aO] at this);obtain ⟨R,M⟩:=O1 (wr.iterAt D s (pos+(Utf8.decode s pos).2));have i3:Below E L R:=by rw [M];exact Lib.below_iterAt H.o (k:=D) (ze7 g1.o) s _
      have c1:R.rowIs A 4 (n+1) (fun i=>.bool (f i)):=a3.o.of_block (by rw [M];exact Lib.iterAt_other wr D A s _ g0.o.2);rw [<- M] at I o;obtain ⟨d,hd⟩:∃d:Int,d=((Utf8.decode s pos).1:Int):=⟨_,rfl⟩;rw [<- hd] at I a2;obtain ⟨C,N⟩:∃q,q=pos+(Utf8.decode s pos).2:=⟨_,rfl⟩;rw [<- N] at o a2;obtain ⟨X,hX⟩:=O1 R.heap.size;obtain ⟨W,b7⟩:=O1 (R.alloc (.cells (madeCells #[.bool false] (n+1)) 4));have a7:Below X R W:=by rw [b7,hX];exact O4
      have g9:=U (show W.rowIs X 4 (n+1) (fun i=>.bool (xy (runes p) d f 0 i)) from by
       have:W.rowIs X 4 (n+1) (fun _=>.bool false):=by rw [b7,hX];exact World.rowIs_made R _ _ _
       exact this.congr (fun i _=>by rw [nZ]))
      have S:=O0 (A<X/\D<X) (by rw [hX];exact ⟨c1.lt,qx o⟩);have e5:=O0 (W.rowIs A 4 (n+1) (fun i=>.bool (f i))) (c1.of_block (a7.block A S.o.1));have d7:=O0 (W.heap[D]?=some (.stringIter s C)) ((a7.block D S.o.2).trans o);have T:=O0 (E<=X) (by rw [hX];exact J1 g0.o.1 (ze7 c1.lt));have b0:=O0 (Below E L W) (i3.trans (a7.mono T.o));have h7:=O0 (X<=W.heap.size) (by rw [hX];exact a7.size);have f4:=mH n (by omega) R;have e8:=U (And.intro b7 hX);clear M hd v o i3 c1 a7 b7 hX a3 H d4;go_upto_region 15 with fail
      rw [<- e8.o.1,<- e8.o.2];clear f4 I e8;go_wp2;go_loopw [12] (fun i wx=>∃k:Nat,k<=n/\i=.int .i64 k/\wx.rowIs X 4 (n+1) (fun i=>.bool (xy (runes p) d f k i))/\Touch (· = X) W wx) (fun i _=>n - (intOf i).toNat)
      case atStart=>exact ⟨0,by omega,rfl,g9.o,Touch.refl _ _⟩
      case round =>
       obtain ⟨k,hk,rfl,j3,k1⟩:=hrel;have G:=U j3;have y:=U k1;clear j3 k1 g9;by_cases hkn:k<n
       case pos =>
        have f3:k<(runes p).length:=by rw [<- HN.o];exact hkn
        obtain ⟨b,f7,ha,-,l1,hc⟩:=e7.o.at k f3;have n6:=ha;subst ha;have l2:wr.cell? ⟨b,f7+k,none⟩=some (.int .i32 ((runes p).getD k 0)):=(by rw [y.o.cell (p:=⟨b,f7+k,none⟩) (Y5 l1 b0.o.size) (show b≠X by have:=T.o;have:=Y.o;omega),b0.o.cell (p:=⟨b,f7+k,none⟩) (show b<E by have:=Y.o;omega)];exact hc);have ca:wr.cell? ⟨A,k,none⟩=some (.bool (f k)):=(y.o.cell (p:=⟨A,k,none⟩) e5.o.lt (zc7 S.o.1)).trans (e5.o.cell (by omega));have cx:=G.o.cell (i:=k) (by omega);have fx:=G.o.frozen k;have cy:=G.o.cell (i:=k+1) (by omega);have fy:=G.o.frozen (k+1);have m1:(0:Int)<=(k:Int):=by omega
        have m2:(k:Int)<(n:Int):=by omega
        have m3:decide ((k:Int)<(n:Int))=true:=by simpa using hkn
        have m4:(k:Int)<(n:Int)+1:=by omega
        have m6:IntKind.i64.wrap ((k:Int)+1)=(k:Int)+1:=V0 _ (by omega);have m7:(0:Int)<=(k:Int)+1:=by omega
        have m8:(k:Int)+1<(n:Int)+1:=by omega
        have m9:((k:Int)+1).toNat=k+1:=by omega
        have u:=U (fun h=>G.o.congr (g:=fun i=>.bool (xy (runes p) d f (k+1) i)) (fun i _=>by rw [nJ (p:=runes p) (r:=d) (f:=f) (k:=k) h i]));have K:=U (fun h1 h2 h3=>(G.o.set k (.bool true)).congr (g:=fun i=>.bool (xy (runes p) d f (k+1) i)) (fun i _=>by
         rw [nK (p:=runes p) (r:=d) (f:=f) (k:=k) f3 h1 h2 h3 i];by_cases h:i=k
         . rw [J8 h,J8 h]
         . rw [J3 h,J3 h]))
        have P:=U (fun h1 h2 h3=>(G.o.set (k+1) (.bool true)).congr (g:=fun i=>.bool (xy (runes p) d f (k+1) i)) (fun i _=>by
         rw [aI (p:=runes p) (r:=d) (f:=f) (k:=k) f3 h1 h2 h3 i];by_cases h:i=k+1
         . rw [J8 h,J8 h]
         . rw [J3 h,J3 h]))
        obtain ⟨x,hx⟩:=O1 ((runes p).getD k 0);obtain ⟨q,hq⟩:=O1 (f k);rw [<- hx] at l2 u K P;rw [<- hq] at ca u K P;clear hx hq hc;have l:∀wy:World,wy.rowIs X 4 (n+1) (fun i=>.bool (xy (runes p) d f (k+1) i))->Touch (· = X) W wy->Hid (wy.rowIs X 4 (n+1) (fun i=>.bool (xy (runes p) d f (k+1) i))/\Touch (· = X) W wy):=fun wy h1 h2=>⟨h1,h2⟩
        cases q with
        | false =>
         have m:=U (l wr (u.o (.inl rfl)) y.o);clear l;go_wp2;go_roundw
         case rel=>exact ⟨k+1,by omega,by go_num,m.o.o.1,m.o.o.2⟩
         case measure=>simp [intOf];omega
        | true =>
         by_cases h42:x=42
         case pos =>
          have e1:(x == 42)=true:=by rw [h42];rfl
          by_cases h47:d=47
          . have e3:(d != 47)=false:=by rw [h47];rfl
            have m:=U (l wr (u.o (.inr (.inl ⟨h42,h47⟩))) y.o);clear l h47 h42;go_wp2;go_roundw
            case rel=>exact ⟨k+1,by omega,by go_num,m.o.o.1,m.o.o.2⟩
            case measure=>simp [intOf];omega
          . have e3:(d != 47)=true:=by simpa using h47
            have m:=U (l _ (K.o rfl h42 h47) (y.o.setCell (.inl rfl) _));clear l h47 h42;go_wp2;go_roundw
            case rel=>exact ⟨k+1,by omega,by go_num,m.o.o.1,m.o.o.2⟩
            case measure=>simp [intOf];omega
         case neg =>
          have e1:(x == 42)=false:=by simpa using h42
          by_cases hxd:x=d
          . have e2:(x == d)=true:=by rw [hxd];simp
            have m:=U (l _ (P.o rfl h42 (tU hxd h42)) (y.o.setCell (.inl rfl) _));clear l hxd h42;go_wp2;go_roundw
            case rel=>exact ⟨k+1,by omega,by go_num,m.o.o.1,m.o.o.2⟩
            case measure=>simp [intOf];omega
          . have e2:(x == d)=false:=by simpa using hxd
            by_cases h63:x=63
            . have e4:(x == 63)=true:=by rw [h63];rfl
              by_cases h47:d=47
              . have e3:(d != 47)=false:=by rw [h47];rfl
                have m:=U (l wr (u.o (.inr (.inr ⟨h42,by rw [h63,h47];exact nR⟩))) y.o);clear l h47 h42 h63 hxd;go_wp2;go_roundw
                case rel=>exact ⟨k+1,by omega,by go_num,m.o.o.1,m.o.o.2⟩
                case measure=>simp [intOf];omega
              . have e3:(d != 47)=true:=by simpa using h47
                have m:=U (l _ (P.o rfl h42 (by rw [h63];exact eJ h47)) (y.o.setCell (.inl rfl) _));clear l h47 h42 h63 hxd;go_wp2;go_roundw
                case rel=>exact ⟨k+1,by omega,by go_num,m.o.o.1,m.o.o.2⟩
                case measure=>simp [intOf];omega
            . have e4:(x == 63)=false:=by simpa using h63
              have m:=U (l wr (u.o (.inr (.inr ⟨h42,eK hxd h63⟩))) y.o);clear l h42 h63 hxd;go_wp2;go_roundw
              case rel=>exact ⟨k+1,by omega,by go_num,m.o.o.1,m.o.o.2⟩
              case measure=>simp [intOf];omega
       case neg =>
        obtain rfl:k=n:=by omega
        have m3:decide ((k:Int)<(k:Int))=false:=by simp
        have a1:=O0 (Below E L wr) (b0.o.trans (y.o.below (J1 T.o h7.o) (fun j hj e=>by have:=T.o;omega)));have h5:=O0 (wr.rowIs X 4 (k+1) (fun i=>.bool (wX (runes p) d f i))) (G.o.congr (fun i _=>by rw [HN.o,nX]));have h0:=O0 (zR wr 0 wr.heap.size pa (runes p)) (e7.o.below a1.o (by have:=Y.o;omega) lz a1.o.size);have J:=U (sF (runes p) pa pc X (k+1) (wX (runes p) d f) wr h0.o (by rw [<- HN.o];omega) (by rw [<- HN.o];exact h5.o));rw [<- HN.o] at J;have e0:=O0 (wr.heap[D]?=some (.stringIter s C)) ((y.o.block D (qx d7.o) (zc7 S.o.2)).trans d7.o);clear h5 h0 G y b0 d7 e5 h7;go_wp2_with fail;refine J.o.mono ?_;clear J;rintro e w7 ⟨rfl,f6,j1⟩;have l0:=U j1;have k3:=O0 (Below E L w7) (a1.o.trans (f6.below (J1 (G8 Y.o) a1.o.size) (fun j hj e=>by have:=T.o;omega)));have g4:=O0 (w7.heap[D]?=some (.stringIter s C)) ((f6.block D (qx e0.o) (zc7 S.o.2)).trans e0.o);clear f6 j1 a1 e0;go_wp2;go_roundw
        case rel=>exact ⟨C,a,X,_,rfl,g4.o,l0.o,T.o,Nat.ne_of_gt S.o.2,k3.o,a2.o,by omega⟩
        case measure=>rw [iterPos_of g4.o,c0];omega
theorem nS (l:List ByteArray) (path:ByteArray) (a:Option Addr) (c:Nat) (w:World) (R:qv w 0 w.heap.size a l) (T:l.length<=4294967296) (S:∀s ∈ l,s.size<=4294967296) (V:path.size<=4294967296) :
 Calls Tryz.prog 80 #[.slice a l.length c,.string path] w fun e w'=>(∃n,e=.returned (.tuple #[.int .i64 n,.bool (l.any fun q=>xk runes q path)]))/\O5 w w':=by
 have H:=U R;have I:=U S;clear R S;obtain ⟨n,D⟩:=O1 l.length;have E:=U D;rw [<- D] at T ⊢;clear D;go_enter Tryz.func80,Tryz.ntmps80;go_wp2;go_loopw [6] (fun i wr=>∃k:Nat,k<=n/\i=.int .i64 k/\(∀j (h:j<l.length),j<k->xk runes l[j] path=false)/\O5 w wr) (fun i _=>n - (intOf i).toNat)
 case atStart=>exact ⟨0,by omega,rfl,fun j _ h=>by omega,J0 _ _⟩
 case round =>
  obtain ⟨k,N,rfl,A,z⟩:=hrel;have v:=U A;have d:=U z;clear A z;by_cases hlt:k<n
  . have r:k<l.length:=by rw [<- E.o];exact hlt
    obtain ⟨b,o,K,-,u,J⟩:=(H.o.below d.o lz lz lz).at k r;subst K;have P:(0:Int)<=(k:Int):=by omega
    have Q:(k:Int)<(n:Int):=by omega
    have L:decide ((k:Int)<(n:Int))=true:=by simpa using hlt
    have g:=U (gK (f:=fun q=>xk runes q path) r);have p:=U (show xk runes l[k] path=false->∀j (h:j<l.length),j<k+1->xk runes l[j] path=false from fun h0 j hj hjk=>by
     rcases V5.1 hjk with h1|h1
     . exact v.o j hj h1
     . subst h1;exact h0)
    have B:=I.o l[k] (X6 r);obtain ⟨q,F⟩:=O1 (l[k]);rw [<- F] at J g p B;have C:=U (fun w=>nN q path w (by omega) (by omega));obtain ⟨y,G⟩:=O1 (xk runes q path);rw [<- G] at C g p;clear F G B;cases y with
    | true => have x:=U (g.o rfl);go_wp2_with (go_at_call 144;refine (C.o _).mono ?_;rintro e M ⟨rfl,u⟩;have m:=U u;clear u);go_ret2;exact ⟨⟨_,by rw [x.o];rfl⟩,d.o.trans (m.o.mono d.o.size)⟩
    | false =>
     have x:=U (p.o rfl);go_wp2_with (go_at_call 144;refine (C.o _).mono ?_;rintro e M ⟨rfl,u⟩;have m:=U u;clear u);go_roundw
     case rel=>exact ⟨k+1,by omega,by go_num,x.o,d.o.trans (m.o.mono d.o.size)⟩
     case measure=>simp [intOf];omega
  . have L:decide ((k:Int)<(n:Int))=false:=by simpa using hlt
    have x:=U (wH (f:=fun q=>xk runes q path) (l:=l) (n:=k) (by rw [<- E.o];omega) v.o);go_wp2;go_ret2;exact ⟨⟨_,by rw [x.o];rfl⟩,d.o⟩
theorem um (n:Nat) (w:World) (l:n<=62) :
 Calls Tryz.prog 192 #[.int .i64 n] w fun e w'=>e=.returned (.int .u64 ((2 ^ n:Nat):Int))/\w'=w:=by
 obtain ⟨V,b⟩:∃V:Nat,V=2 ^ n:=⟨_,rfl⟩;have d:=U b;rw [<- b];clear b;go_enter Tryz.func192,Tryz.ntmps192;go_wp2;go_loopw [3,4] (fun p i wr=>∃k P:Nat,k<=n/\i=.int .i64 k/\p=.int .u64 (P:Int)/\Hid (P=2 ^ k)/\wr=w) (fun _ i _=>n - (intOf i).toNat)
 case atStart=>exact ⟨0,1,by omega,rfl,rfl,rfl,rfl⟩
 case round =>
  obtain ⟨k,P,h,rfl,rfl,a,rfl⟩:=hrel;by_cases hlt:k<n
  . have f:decide ((k:Int)<(n:Int))=true:=by simpa using hlt
    have g:P<4611686018427387904:=(by rw [a.o];exact Y5 (Nat.pow_lt_pow_right (by decide) hlt) (J1 (zc2 (by decide) l) (by decide)));have j:IntKind.u64.wrap (2 * (P:Int))=2 * (P:Int):=zc5 _ (by omega);have c:=U (show 2 * P=2 ^ (k+1) by rw [a.o,Nat.pow_succ,Nat.mul_comm]);go_wp2;go_roundw
    case rel=>exact ⟨k+1,2 * P,by omega,by go_num,by simp,c,by first|rfl|trivial⟩
    case measure=>simp [intOf];omega
  . obtain rfl:k=n:=by omega
    have f:decide ((k:Int)<(k:Int))=false:=by simp
    go_wp2;go_ret;exact ⟨by rw [a.o,d.o];rfl,rfl⟩
theorem lN (x:Nat) (h:x<16) (w:World):(Instr.slice 9 (.string ⟨#[48,49,50,51,52,53,54,55,56,57,97,98,99,100,101,102]⟩) (some (.int .u64 (x:Int))) (some (.int .u64 ((x:Int)+1))) none).run Tryz.prog w=.ok (.string ⟨#[qH x]⟩) w:=by
 rw [run_slice_string (P:=Tryz.prog) w 9 ⟨#[48,49,50,51,52,53,54,55,56,57,97,98,99,100,101,102]⟩ .u64 .u64 (x:Int) ((x:Int)+1) Y6 (by omega) (by omega) (by show (x:Int)+1<=16;omega)];have e:∀m:Fin 16,((⟨#[48,49,50,51,52,53,54,55,56,57,97,98,99,100,101,102]⟩:ByteArray).extract m.val (m.val+1))=⟨#[qH m.val]⟩:=by decide
 have a:((x:Int)+1).toNat=x+1:=by omega
 rw [zb2,a,e ⟨x,h⟩]
theorem lS (m c:Nat) (w:World) (J:m<4294967296) (K:c<=16) :
 Calls Tryz.prog 193 #[.int .u64 m,.int .i64 c] w fun e w'=>e=.returned (.string ⟨(jR c m).toArray⟩)/\O5 w w':=by
 obtain ⟨V,l⟩:∃V:ByteArray,V=⟨(jR c m).toArray⟩:=⟨_,rfl⟩;have q:=U l;rw [<- l];clear l;go_enter Tryz.func193,Tryz.ntmps193;go_wp2;go_loopw [0,5,6,7] (fun nv ov i _ wr=>∃(j y:Nat) (s:ByteArray),j<=c/\i=.int .i64 j/\nv=.int .u64 (y:Int)/\ov=.string s/\Hid (y=m / 16 ^ j/\s=⟨(jR j m).toArray⟩)/\y<4294967296/\O5 w wr) (fun _ _ i _ _=>c - (intOf i).toNat)
 case atStart=>exact ⟨0,m,_,by omega,rfl,rfl,rfl,⟨by simp,rfl⟩,J,J0 _ _⟩
 case round =>
  obtain ⟨j,y,s,A,rfl,rfl,rfl,b,B,d⟩:=hrel;have a:=U d;clear d;by_cases hlt:j<c
  . have u:decide ((j:Int)<(c:Int))=true:=by simpa using hlt
    obtain ⟨x,f⟩:=O1 (y % 16);obtain ⟨z,h⟩:=O1 (y / 16);have g:x<16:=by rw [f];exact Nat.mod_lt _ (by decide)
    have C:(y:Int).tdiv 16=(z:Int):=by rw [M5 (by omega),h];rfl
    have D:(y:Int).tmod 16=(x:Int):=by rw [M6 (by omega),f];rfl
    have E:IntKind.u64.wrap (z:Int)=(z:Int):=zc5 _ (by omega);have I:(y:Int) / 16=(z:Int):=by rw [h];rfl
    have F:IntKind.u64.wrap (x:Int)=(x:Int):=zc5 _ (by omega);have G:IntKind.u64.wrap ((x:Int)+1)=(x:Int)+1:=zc5 _ (by omega);have H:(y:Int) % 16=(x:Int):=by rw [f];rfl
    have v:=lN x g;have k:=U (show z=m / 16 ^ (j+1)/\((⟨#[qH x]⟩:ByteArray) ++ s)=⟨(jR (j+1) m).toArray⟩ from ⟨by rw [h,b.o.1,Nat.div_div_eq_div_mul,Nat.pow_succ],by
     rw [b.o.2,lu,f,b.o.1];apply ByteArray.ext;rw [ByteArray.data_append];simp⟩)
    have o:z<4294967296:=by omega
    have p:s.size<=16:=by rw [b.o.2,ByteArray.size,za3,jv];omega
    have r:(⟨#[qH x]⟩:ByteArray).size=1:=rfl;clear f h;go_wp2;go_roundw
    case rel=>exact ⟨j+1,z,_,by omega,by go_num,by first|rfl|simp,rfl,k,o,a.o⟩
    case measure=>simp [intOf];omega
  . obtain rfl:j=c:=by omega
    have u:decide ((j:Int)<(j:Int))=false:=by simp
    go_wp2;go_ret;exact ⟨by rw [b.o.2,q.o];rfl,a.o⟩
theorem tM (l:List ByteArray) (a:Option Addr) (c:Nat) (w:World) (X:qv w 0 w.heap.size a l) (Z:l.length<=4294967296) (Y:∀s ∈ l,s.size<=4294967296) :
 Calls Tryz.prog 143 #[.slice a l.length c,.bool false] w fun e w'=>e=.returned (.bool (decide (0<l.length) && (decide (l.length<=32) && l.all qG)))/\O5 w w':=by
 have J:=U X;have K:=U Y;clear X Y;obtain ⟨n,F⟩:=O1 l.length;have G:=U F;rw [<- F] at Z ⊢;clear F;obtain ⟨V,E⟩:=O1 ((decide (0<n) && (decide (n<=32) && l.all qG)));have m:=U E;rw [<- E];clear E;by_cases h0:0<n
 case neg =>
  rw [J5 h0,V8] at m;have L:decide ((n:Int)<1)=true:=by rw [J6];omega
  clear h0;go_enter Tryz.func143,Tryz.ntmps143;go_wp2;go_ret;exact ⟨qz m.o.symm,J0 _ _⟩
 rw [X0 h0,Y1] at m;have L:decide ((n:Int)<1)=false:=by rw [V1];omega
 clear h0;by_cases h32:32<n
 . rw [J5 (by omega),V8] at m;have M:decide (32<(n:Int))=true:=by rw [J6];omega
   go_enter Tryz.func143,Tryz.ntmps143;go_wp2;go_ret;exact ⟨qz m.o.symm,J0 _ _⟩
 have M:decide (32<(n:Int))=false:=by rw [V1];omega
 rw [X0 (by omega),Y1] at m;go_enter Tryz.func143,Tryz.ntmps143;go_wp2;go_loopw [5] (fun i wr=>∃k:Nat,k<=n/\i=.int .i64 k/\(∀j (h:j<l.length),j<k->qG l[j]=true)/\O5 w wr) (fun i _=>n - (intOf i).toNat)
 case atStart=>exact ⟨0,by omega,rfl,fun j _ h=>by omega,J0 _ _⟩
 case round =>
  obtain ⟨k,S,rfl,B,A⟩:=hrel;have x:=U B;have d:=U A;clear B A;by_cases hlt:k<n
  . have u:k<l.length:=by rw [<- G.o];exact hlt
    obtain ⟨b,o,P,-,v,N⟩:=(J.o.below d.o lz lz lz).at k u;subst P;have T:(0:Int)<=(k:Int):=by omega
    have W:(k:Int)<(n:Int):=by omega
    have Q:decide ((k:Int)<(n:Int))=true:=by simpa using hlt
    have g:=U (gX (f:=qG) u);have r:=U (show qG l[k]=true->∀j (h:j<l.length),j<k+1->qG l[j]=true from fun h0 j hj hjk=>by
     rcases V5.1 hjk with h1|h1
     . exact x.o j hj h1
     . subst h1;exact h0)
    have C:=K.o l[k] (X6 u);obtain ⟨q,H⟩:=O1 (l[k]);rw [<- H] at N g r C;have D:=U (fun w:World=>cT q w (by omega));obtain ⟨y,I⟩:=O1 (qG q);rw [<- I] at D g r;clear H I C;cases y with
    | false => have z:=U (m.o.trans (g.o rfl));go_wp2_with (go_at_call 197;refine (D.o _).mono ?_;rintro e R ⟨rfl,v⟩;have p:=U v;clear v);go_ret;exact ⟨qz z.o.symm,d.o.trans (p.o.mono d.o.size)⟩
    | true =>
     have z:=U (r.o rfl);go_wp2_with (go_at_call 197;refine (D.o _).mono ?_;rintro e R ⟨rfl,v⟩;have p:=U v;clear v);go_roundw
     case rel=>exact ⟨k+1,by omega,by go_num,z.o,d.o.trans (p.o.mono d.o.size)⟩
     case measure=>simp [intOf];omega
  . have Q:decide ((k:Int)<(n:Int))=false:=by simpa using hlt
    have z:=U (m.o.trans (pP (f:=qG) (l:=l) (n:=k) (by rw [<- G.o];omega) x.o));go_wp2;go_ret;exact ⟨qz z.o.symm,d.o⟩
theorem tC (l:List ByteArray) (a:Option Addr) (c:Nat) (w:World) (X:qv w 0 w.heap.size a l) (Z:l.length<=4294967296) (Y:∀s ∈ l,s.size<=4294967296) :
 Calls Tryz.prog 143 #[.slice a l.length c,.bool true] w fun e w'=>e=.returned (.bool (decide (0<l.length) && (decide (l.length<=32) && l.all preB)))/\O5 w w':=by
 have J:=U X;have K:=U Y;clear X Y;obtain ⟨n,F⟩:=O1 l.length;have G:=U F;rw [<- F] at Z ⊢;clear F;obtain ⟨V,E⟩:=O1 ((decide (0<n) && (decide (n<=32) && l.all preB)));have m:=U E;rw [<- E];clear E;by_cases h0:0<n
 case neg =>
  rw [J5 h0,V8] at m;have L:decide ((n:Int)<1)=true:=by rw [J6];omega
  clear h0;go_enter Tryz.func143,Tryz.ntmps143;go_wp2;go_ret;exact ⟨qz m.o.symm,J0 _ _⟩
 rw [X0 h0,Y1] at m;have L:decide ((n:Int)<1)=false:=by rw [V1];omega
 clear h0;by_cases h32:32<n
 . rw [J5 (by omega),V8] at m;have M:decide (32<(n:Int))=true:=by rw [J6];omega
   go_enter Tryz.func143,Tryz.ntmps143;go_wp2;go_ret;exact ⟨qz m.o.symm,J0 _ _⟩
 have M:decide (32<(n:Int))=false:=by rw [V1];omega
 rw [X0 (by omega),Y1] at m;go_enter Tryz.func143,Tryz.ntmps143;go_wp2;go_loopw [5] (fun i wr=>∃k:Nat,k<=n/\i=.int .i64 k/\(∀j (h:j<l.length),j<k->preB l[j]=true)/\O5 w wr) (fun i _=>n - (intOf i).toNat)
 case atStart=>exact ⟨0,by omega,rfl,fun j _ h=>by omega,J0 _ _⟩
 case round =>
  obtain ⟨k,S,rfl,B,A⟩:=hrel;have x:=U B;have d:=U A;clear B A;by_cases hlt:k<n
  . have u:k<l.length:=by rw [<- G.o];exact hlt
    obtain ⟨b,o,P,-,v,N⟩:=(J.o.below d.o lz lz lz).at k u;subst P;have T:(0:Int)<=(k:Int):=by omega
    have W:(k:Int)<(n:Int):=by omega
    have Q:decide ((k:Int)<(n:Int))=true:=by simpa using hlt
    have g:=U (gX (f:=preB) u);have r:=U (show preB l[k]=true->∀j (h:j<l.length),j<k+1->preB l[j]=true from fun h0 j hj hjk=>by
     rcases V5.1 hjk with h1|h1
     . exact x.o j hj h1
     . subst h1;exact h0)
    have C:=K.o l[k] (X6 u);obtain ⟨q,H⟩:=O1 (l[k]);rw [<- H] at N g r C;have D:=U (fun w:World=>(sE q w (by omega)).mono fun e w' h=>show e=.returned (.bool (preB q))/\O5 w w' from ⟨h.1,by rw [<- h.2];exact J0 _ _⟩);obtain ⟨y,I⟩:=O1 (preB q);rw [<- I] at D g r;clear H I C;cases y with
    | false => have z:=U (m.o.trans (g.o rfl));go_wp2_with (go_at_call 146;refine (D.o _).mono ?_;rintro e R ⟨rfl,v⟩;have p:=U v;clear v);go_ret;exact ⟨qz z.o.symm,d.o.trans (p.o.mono d.o.size)⟩
    | true =>
     have z:=U (r.o rfl);go_wp2_with (go_at_call 146;refine (D.o _).mono ?_;rintro e R ⟨rfl,v⟩;have p:=U v;clear v);go_roundw
     case rel=>exact ⟨k+1,by omega,by go_num,z.o,d.o.trans (p.o.mono d.o.size)⟩
     case measure=>simp [intOf];omega
  . have Q:decide ((k:Int)<(n:Int))=false:=by simpa using hlt
    have z:=U (m.o.trans (pP (f:=preB) (l:=l) (n:=k) (by rw [<- G.o];omega) x.o));go_wp2;go_ret;exact ⟨qz z.o.symm,d.o⟩
theorem tD (A B:Bool) (p q:Nat):((decide (0<p) && A) && decide (q=0) || (decide (0<q) && B) && decide (p=0))=(if 0<p then decide (q=0) && A else decide (0<q) && B):=by
 split
 . rename_i h;rw [X0 h,J5 (show ¬p=0 by omega)];cases A <;> cases decide (q=0) <;> simp
 . rename_i h;rw [J5 h,X0 (show p=0 by omega)];cases B <;> simp
theorem lA (nm:ByteArray) (t:Int) (ids:List ByteArray) (tm:Bool) (ps qs:List ByteArray) (ia pa qa:Option Addr) (ic pc qc:Nat) (w:World) (hI:DelegIn w 0 w.heap.size ⟨nm,⟨t,ids⟩,tm,ps,qs⟩ ia pa qa) (hf:DelegFits ⟨nm,⟨t,ids⟩,tm,ps,qs⟩) :
 Calls Tryz.prog 79 #[.agg #[.string nm,.int .i64 t,.slice ia ids.length ic,.bool tm,.slice pa ps.length pc,.slice qa qs.length qc]] w fun e w'=>e=.returned (.bool (qi ⟨nm,⟨t,ids⟩,tm,ps,qs⟩))/\O5 w w':=by
 obtain ⟨W,R⟩:=O1 (w.alloc (.cells #[.string nm,.int .i64 t,.slice ia ids.length ic,.bool tm,.slice pa ps.length pc,.slice qa qs.length qc] 41));have L:=O7 R
 have hx:=O9 R
 have K:=U (show ∀w':World,O5 W w'->w'.cell? ⟨w.heap.size,0,none⟩=some (.string nm)/\w'.cell? ⟨w.heap.size,1,none⟩=some (.int .i64 t)/\w'.cell? ⟨w.heap.size,2,none⟩=some (.slice ia ids.length ic)/\w'.cell? ⟨w.heap.size,3,none⟩=some (.bool tm)/\w'.cell? ⟨w.heap.size,4,none⟩=some (.slice pa ps.length pc)/\w'.cell? ⟨w.heap.size,5,none⟩=some (.slice qa qs.length qc) from fun w' h=>by
  have y:=(h.block _ (qx hx)).trans hx;exact ⟨qq y rfl,qq y rfl,qq y rfl,qq y rfl,qq y rfl,qq y rfl⟩)
 have T:=O0 (∀w':World,O5 W w'->DelegIn w' 0 w'.heap.size ⟨nm,⟨t,ids⟩,tm,ps,qs⟩ ia pa qa) (fun w' h=>hI.below (L.trans (h.mono L.size)) lz lz (J1 L.size h.size));have f:=U (ph ⟨nm,⟨t,ids⟩,tm,ps,qs⟩);dsimp only at f;rw [<- tD] at f;have HF:=U hf;have j:=U (fun w:World=>bz nm w (by have:nm.size<=4294967296:=hf.name;omega));have x:=U (fun w:World=>(lR nm w).mono fun e w' h=>show e=.returned (.bool (vl nm))/\w=w' from ⟨h.1,h.2.symm⟩);have v:=U (lL t ids ia ic W (T.o W (J0 _ _)).ids (fun s hs=>J1 (hf.au.2.2 s hs) (by decide)) (J1 hf.au.2.1 (by decide)));obtain ⟨Q,z⟩:=O1 ((decide (0<ps.length) && (decide (ps.length<=32) && ps.all qG)));obtain ⟨H,A⟩:=O1 ((decide (0<qs.length) && (decide (qs.length<=32) && qs.all preB)));have I:=O0 (∀w':World,O5 W w'->Calls Tryz.prog 143 #[.slice pa ps.length pc,.bool false] w' (fun e G=>e=.returned (.bool Q)/\O5 w' G)) (fun w' h=>by rw [z];exact tM ps pa pc w' (T.o w' h).paths hf.paths.1 hf.paths.2);have J:=O0 (∀w':World,O5 W w'->Calls Tryz.prog 143 #[.slice qa qs.length qc,.bool true] w' (fun e G=>e=.returned (.bool H)/\O5 w' G)) (fun w' h=>by rw [A];exact tC qs qa qc w' (T.o w' h).pres hf.pres.1 hf.pres.2);rw [<- z,<- A] at f;obtain ⟨V,Z⟩:=O1 (qi ⟨nm,⟨t,ids⟩,tm,ps,qs⟩);obtain ⟨ro,C⟩:=O1 (zg nm.data.toList);obtain ⟨tp,D⟩:=O1 (vl nm);obtain ⟨ma,B⟩:=O1 (xm t ids);obtain ⟨S,F⟩:=O1 (decide (qs.length=0));obtain ⟨P,E⟩:=O1 (decide (ps.length=0));have X:((qs.length:Int) == 0)=S:=by rw [F];by_cases h:qs.length=0 <;> simp [h]
 have Y:((ps.length:Int) == 0)=P:=by rw [E];by_cases h:ps.length=0 <;> simp [h]
 rw [<- Z,<- C,<- D,<- B,<- F,<- E] at f;rw [<- Z];rw [<- C] at j;rw [<- D] at x;rw [<- B] at v;have HE:=U (And.intro X Y);have b:=U L;have HW:=U R;clear R L hx hI hf z A Z C D B F E X Y;obtain ⟨l,m,o,p,q,r⟩:=K.o W (J0 _ _);go_enter Tryz.func79,Tryz.ntmps79;go_upto_region 1 with fail
 rw [<- HW.o];clear HW;have a0:=U (J0 W.heap.size W);cases ro with
 | false =>
  go_wp2_with (go_at_call 140;refine (j.o _).mono ?_;rintro e u ⟨rfl,rfl⟩)
  go_ret;exact ⟨qz f.o.symm,b.o⟩
 | true =>
 cases tp with
 | true =>
  go_wp2_with (first|(go_at_call 140;refine (j.o _).mono ?_;rintro e u ⟨rfl,rfl⟩)|(go_at_call 141;refine (x.o _).mono ?_;rintro e u ⟨rfl,rfl⟩))
  go_ret;exact ⟨qz f.o.symm,b.o⟩
 | false =>
 go_wp2_with (first|(go_at_call 140;refine (j.o _).mono ?_;rintro e u ⟨rfl,rfl⟩)|(go_at_call 141;refine (x.o _).mono ?_;rintro e u ⟨rfl,rfl⟩)|fail)
 refine v.o.mono ?_;clear v l m o p q r;rintro e w1 ⟨rfl,M⟩;have g:=U M;clear M;cases ma with
 | false => go_wp2;go_ret;exact ⟨qz f.o.symm,b.o.trans (g.o.mono b.o.size)⟩
 | true =>
 obtain ⟨l,m,o,p,q,r⟩:=K.o w1 g.o;have k:=U (I.o w1 g.o);clear I;go_wp2_with fail;refine k.o.mono ?_;clear k l m o p q r;rintro e G ⟨rfl,N⟩;have c:=U (O2 g N);clear N;have d:=U (J.o G c.o);clear J;obtain ⟨l,m,o,p,q,r⟩:=K.o G c.o;obtain ⟨X,Y⟩:=HE.o;cases Q with
 | true =>
  cases S with
  | true => go_wp2;go_ret;exact ⟨qz f.o.symm,b.o.trans (c.o.mono b.o.size)⟩
  | false =>
   go_wp2_with fail
   refine d.o.mono ?_;clear d l m o p q r;rintro e u ⟨rfl,i⟩;have a:=U (O2 c i);clear i;obtain ⟨l,m,o,p,q,r⟩:=K.o u a.o;cases H with
   | false => go_wp2;go_ret;exact ⟨qz f.o.symm,b.o.trans (a.o.mono b.o.size)⟩
   | true =>
    cases P with
    | false => go_wp2;go_ret;exact ⟨qz f.o.symm,b.o.trans (a.o.mono b.o.size)⟩
    | true => go_wp2;go_ret;exact ⟨qz f.o.symm,b.o.trans (a.o.mono b.o.size)⟩
 | false =>
  go_wp2_with fail
  refine d.o.mono ?_;clear d l m o p q r;rintro e u ⟨rfl,i⟩;have a:=U (O2 c i);clear i;obtain ⟨l,m,o,p,q,r⟩:=K.o u a.o;cases H with
  | false => go_wp2;go_ret;exact ⟨qz f.o.symm,b.o.trans (a.o.mono b.o.size)⟩
  | true =>
   cases P with
   | false => go_wp2;go_ret;exact ⟨qz f.o.symm,b.o.trans (a.o.mono b.o.size)⟩
   | true => go_wp2;go_ret;exact ⟨qz f.o.symm,b.o.trans (a.o.mono b.o.size)⟩
