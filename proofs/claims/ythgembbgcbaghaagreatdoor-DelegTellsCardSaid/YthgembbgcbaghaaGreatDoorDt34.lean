import Derived.Test.YthgembbgcbaghaaGreatDoorDt32
set_option maxHeartbeats 2000000
set_option maxRecDepth 100000

namespace Go.Proofs.YthgembbgcbaghaaGreatDoor
open Go.RowKit
theorem Qt {a b:ByteArray} (h:a=b):(a.toList == b.toList)=true:=by rw [h];exact beq_self_eq_true _
theorem Q5 {a b:ByteArray} (h:a≠b):(a.toList == b.toList)=false:=by rw [Y8];exact fun e=>h (vW e)
theorem dN (s:ByteArray) (w:World) (hs:s.size<=9223372036854775807) :
 Calls Tryz.prog 227 #[.string s] w fun e w'=>e=.returned (.bool (j4 s))/\w=w':=by
 by_cases h:s.size=64
 . have d:((s.size:Int) == 64)=true:=by rw [h];rfl
   have a:=U (show j4 s=jw s.data.toList by unfold j4;rw [J2 h,X4]);have b:=U (mX s w hs);clear h;go_enter Tryz.func227,Tryz.ntmps227;go_wp2_with fail;refine b.o.mono ?_;rintro e c ⟨rfl,rfl⟩;go_wp2;go_ret;exact ⟨qz a.o.symm,rfl⟩
 . have d:((s.size:Int) == 64)=false:=by simp only [Y8];omega
   have a:=U (show j4 s=false by unfold j4;rw [Z7 h,V0]);clear h;go_enter Tryz.func227,Tryz.ntmps227;go_wp2;go_ret;exact ⟨qz a.o.symm,rfl⟩
theorem ew {l:List ByteArray} {k:Nat} (h:k<l.length) (he:qA [] l=qA (l.take k) (l.drop k)) (hb:j4 l[k]=false):qA [] l=3:=by rw [he,K0 h,qA,hb];rfl
theorem ab {l:List ByteArray} {k j:Nat} (h:k<l.length) (hj:j<k) (he:qA [] l=qA (l.take k) (l.drop k)) (hb:j4 l[k]=true) (e:l[j]=l[k]):qA [] l=7:=by have a:ju (l.take k) l[k]=true:=(by rw [jC,M8];exact ⟨j,by omega,e⟩);rw [he,K0 h,qA,hb,a];rfl
theorem iC {l:List ByteArray} {k:Nat} (h:k<l.length) (he:qA [] l=qA (l.take k) (l.drop k)) (hb:j4 l[k]=true) (hn:∀j (hj:j<k),l[j]≠l[k]):qA [] l=qA (l.take (k+1)) (l.drop (k+1)):=by have a:ju (l.take k) l[k]=false:=(by rw [Bool.eq_false_iff];intro h2;rw [jC,M8] at h2;obtain ⟨j,hj,e⟩:=h2;exact hn j (by omega) e);rw [he,K0 h,qA,hb,a,J1 rfl,Z5 (by simp),Z6 h]
theorem iD (l:List ByteArray) (a:Option Addr) (c:Nat) (w:World) (hS:qv w 0 w.heap.size a l) (hs:∀s ∈ l,s.size<=9223372036854775807) (hl:l.length<=9223372036854775807) :
 Calls Tryz.prog 178 #[.slice a l.length c] w fun e w'=>e=.returned (.int .i64 (if l.length=0 then 4 else qA [] l))/\Below w.heap.size w w':=by
 by_cases h0:l.length=0
 . have d:((l.length:Int) == 0)=true:=by rw [h0];rfl
   obtain ⟨E,I⟩:=O1 ((if l.length=0 then 4 else qA [] l));rw [<- I];have o:=U (show E=4 by rw [I,J1 h0]);clear I;go_enter Tryz.func178,Tryz.ntmps178;go_wp2;go_ret;exact ⟨xo o.o.symm,Z0 _ _⟩
 have d:((l.length:Int) == 0)=false:=by simp only [Y8];omega
 rw [Z5 h0];have N:=U hS;have W:=U hs;clear hS hs h0;go_enter Tryz.func178,Tryz.ntmps178;go_wp2;go_loopw [3,4] (fun i _ wr=>∃k:Nat,k<=l.length/\i=.int .i64 k/\qA [] l=qA (l.take k) (l.drop k)/\Below w.heap.size w wr) (fun i _ _=>l.length - (intOf i).toNat)
 case atStart=>exact ⟨0,J8 _,rfl,by simp,Z0 _ _⟩
 case round =>
  obtain ⟨k,hk,rfl,R,f⟩:=hrel;have o:=U R;have r:=U f;clear R f;by_cases hlt:k<l.length
  . have m1:(k:Int)<(l.length:Int):=by omega
    have m0:(0:Int)<=(k:Int):=by omega
    obtain ⟨b,M,X,_,Y,p⟩:=N.o.at k hlt;subst X;have C:=U (dN l[k] wr (W.o _ (J7 hlt)));have F:=U (fun (j:Nat) (S:j<l.length)=>N.o.at j S);obtain ⟨x,D⟩:=O1 (l[k]);obtain ⟨g,K⟩:=O1 (j4 l[k]);rw [<- K,<- D] at C;rw [<- D] at p;have P:=U D;have G:=U K;have u:=O0 (∀w':World,Below w.heap.size w w'->w'.cell? ⟨b,M+k,none⟩=some (.string x)) (fun w' h=>(Y6 (w:=w) (h.block b Y)).trans p);clear D K p;have p:=u.o wr r.o;cases g
    . have v:=U (ew hlt o.o G.o.symm);go_wp2_with fail;refine C.o.mono ?_;rintro e w1 ⟨rfl,rfl⟩;go_wp2;go_ret;exact ⟨xo v.o.symm,r.o⟩
    go_wp2_with fail
    refine C.o.mono ?_;clear C;rintro e w1 ⟨rfl,rfl⟩;clear p;go_wp2;go_loopw [4] (fun i wi=>∃j:Nat,j<=k/\i=.int .i64 j/\(∀q (hq:q<j) (hq2:q<l.length),l[q]≠x)/\Below w.heap.size w wi) (fun i _=>k - (intOf i).toNat)
    case atStart=>exact ⟨0,J8 _,rfl,(fun q hq=>by omega),r.o⟩
    case round =>
     obtain ⟨j,S,rfl,T,f⟩:=hrel;have z:=U T;have m:=U f;clear T f r;by_cases hjk:j<k
     . have Z:(j:Int)<(k:Int):=by omega
       have m3:(0:Int)<=(j:Int):=by omega
       have m4:(j:Int)<(l.length:Int):=by omega
       obtain ⟨b2,V,B,_,J,H⟩:=F.o j (by omega);simp only [K7,Addr.mk.injEq,M9] at B;obtain ⟨rfl,rfl⟩:=B;have p:=u.o _ m.o;replace H:=(Y6 (w:=w) (m.o.block b J)).trans H;obtain ⟨y,L⟩:=O1 (l[j]);rw [<- L] at H;have Q:=U L;clear L;by_cases hxy:y=x
       . have q1:=Qt hxy;have A:=U hxy;have v:=U (ab hlt hjk o.o G.o.symm (by rw [<- Q.o,<- P.o];exact hxy));clear hxy;go_upto_region 11 with fail
         go_quiet (fail)
         go_wp2;go_ret;exact ⟨xo v.o.symm,Below.drewN m.o _⟩
       . have q1:=Q5 hxy;have A:=U hxy;clear hxy;go_upto_region 11 with fail
         go_quiet (fail)
         go_wp2;go_roundw
         case rel =>
          refine ⟨j+1,by omega,by go_num,fun q hq hq2=>?_,Below.drewN m.o _⟩;by_cases e:q=j
          . subst e;rw [<- Q.o];exact A.o
          . exact z.o q (by omega) hq2
         case measure=>simp [intOf];omega
     . obtain rfl:j=k:=by omega
       have Z:¬((j:Int)<(j:Int)):=by omega
       go_wp2;go_roundw
       case rel=>exact ⟨j+1,by omega,by go_num,iC hlt o.o G.o.symm fun q hq=>by rw [<- P.o];exact z.o q hq (by omega),m.o⟩
       case measure=>simp [intOf];omega
  . obtain rfl:k=l.length:=by omega
    have v:=U (show qA [] l=0 by rw [o.o,List.drop_length];rfl);go_wp2;go_ret;exact ⟨xo v.o.symm,r.o⟩
theorem dS (t:Int) (l:List ByteArray) (a:Option Addr) (c:Nat) (w:World) (hS:qv w 0 w.heap.size a l) (hs:∀s ∈ l,s.size<=9223372036854775807) (hl:l.length<=9223372036854775807) :
 Calls Tryz.prog 142 #[.agg #[.int .i64 t,.slice a l.length c]] w fun e w'=>e=.returned (.bool (xw t l))/\Below w.heap.size w w':=by
 have f:=O0 (Below w.heap.size w (w.alloc (.cells #[.int .i64 t,.slice a l.length c] 31))) ((Z0 _ _).alloc lz _);by_cases h2:16<l.length
 . have i:=U (jd (t:=t) (l:=l) (by omega));have v:¬((l.length:Int)<=16):=by omega
   go_enter Tryz.func142,Tryz.ntmps142;go_wp2;go_ret;exact ⟨qz i.o.symm,f.o⟩
 have v:(l.length:Int)<=16:=by omega
 have k:=U (iD l a c _ (hS.below f.o lz lz (by simp)) hs hl);obtain ⟨E,q⟩:=O1 ((if l.length=0 then 4 else qA [] l));rw [<- q] at k;have r:=U q;clear q hS hs;by_cases hE0:E=0
 . have u:(E == 0)=true:=by rw [hE0];rfl
   have j:=U (show l.length≠0/\qA [] l=0 by
    have:=r.o;rw [hE0] at this;split at this
    . cases this
    . exact ⟨by assumption,this.symm⟩)
   clear hE0;by_cases h3:1<=t
   . by_cases h4:t<=(l.length:Int)
     . have i:=U (show xw t l=true by unfold xw;rw [j.o.2];have:=j.o.1;simp;omega);have x:decide (t<=(l.length:Int))=true:=by simp;omega
       go_enter Tryz.func142,Tryz.ntmps142;go_wp2_with fail;refine k.o.mono ?_;rintro e h ⟨rfl,b⟩;have g:=U (O2 f b);have d:=(b.block w.heap.size (by simp)).trans (Z4 w (.cells #[.int .i64 t,.slice a l.length c] 31));have m:h.cell? ⟨w.heap.size,0,none⟩=some (.int .i64 t):=qq d rfl;have o:h.cell? ⟨w.heap.size,1,none⟩=some (.slice a l.length c):=qq d rfl;clear b d;go_wp2;go_ret;exact ⟨qz i.o.symm,g.o⟩
     . have i:=U (jd (t:=t) (l:=l) (by omega));have x:decide (t<=(l.length:Int))=false:=by simp;omega
       go_enter Tryz.func142,Tryz.ntmps142;go_wp2_with fail;refine k.o.mono ?_;rintro e h ⟨rfl,b⟩;have g:=U (O2 f b);have d:=(b.block w.heap.size (by simp)).trans (Z4 w (.cells #[.int .i64 t,.slice a l.length c] 31));have m:h.cell? ⟨w.heap.size,0,none⟩=some (.int .i64 t):=qq d rfl;have o:h.cell? ⟨w.heap.size,1,none⟩=some (.slice a l.length c):=qq d rfl;clear b d;go_wp2;go_ret;exact ⟨qz i.o.symm,g.o⟩
   . have i:=U (jd (t:=t) (l:=l) (by omega));go_enter Tryz.func142,Tryz.ntmps142;go_wp2_with fail;refine k.o.mono ?_;rintro e h ⟨rfl,b⟩;have g:=U (O2 f b);have d:=(b.block w.heap.size (by simp)).trans (Z4 w (.cells #[.int .i64 t,.slice a l.length c] 31));have m:h.cell? ⟨w.heap.size,0,none⟩=some (.int .i64 t):=qq d rfl;have o:h.cell? ⟨w.heap.size,1,none⟩=some (.slice a l.length c):=qq d rfl;clear b d;go_wp2;go_ret;exact ⟨qz i.o.symm,g.o⟩
 . have u:(E == 0)=false:=by rw [Y8];exact hE0
   have i:=U (show xw t l=false by
    by_cases hz:l.length=0
    . exact jd (by omega)
    . have:=r.o;rw [Z5 hz] at this;unfold xw;rw [Z7 (p:=qA [] l=0) (by rw [<- this];exact hE0),N3])
   clear hE0;go_enter Tryz.func142,Tryz.ntmps142;go_wp2_with fail;refine k.o.mono ?_;rintro e h ⟨rfl,b⟩;have g:=U (O2 f b);have d:=(b.block w.heap.size (by simp)).trans (Z4 w (.cells #[.int .i64 t,.slice a l.length c] 31));have m:h.cell? ⟨w.heap.size,0,none⟩=some (.int .i64 t):=qq d rfl;have o:h.cell? ⟨w.heap.size,1,none⟩=some (.slice a l.length c):=qq d rfl;clear b d;go_wp2;go_ret;exact ⟨qz i.o.symm,g.o⟩
theorem dA (s:ByteArray) (w:World) :
 Calls Tryz.prog 141 #[.string s] w fun e w'=>e=.returned (.bool (vp s))/\w'=w:=by
 have j:(s.toList == [114,111,111,116])=decide (s=yO):=by rw [<- ba_eq,show yO.toList=[114,111,111,116] from by rw [X2];rfl]
 have k:(s.toList == [115,110,97,112,115,104,111,116])=decide (s=mP):=by rw [<- ba_eq,show mP.toList=[115,110,97,112,115,104,111,116] from by rw [X2];rfl]
 have l:(s.toList == [116,97,114,103,101,116,115])=decide (s=mF):=by rw [<- ba_eq,show mF.toList=[116,97,114,103,101,116,115] from by rw [X2];rfl]
 have a:=U (show vp s=(decide (s=yO) || (decide (s=mP) || decide (s=mF))) by unfold vp;simp only [Bool.decide_or]);obtain ⟨g,c⟩:∃b,b=decide (s=yO):=⟨_,rfl⟩;obtain ⟨h,d⟩:∃b,b=decide (s=mP):=⟨_,rfl⟩;obtain ⟨i,f⟩:∃b,b=decide (s=mF):=⟨_,rfl⟩;rw [<- c] at j a;rw [<- d] at k a;rw [<- f] at l a;clear c d f;cases g
 . cases h
   . cases i
     . go_enter Tryz.func141,Tryz.ntmps141;go_wp2;go_ret;exact ⟨qz a.o.symm,rfl⟩
     . go_enter Tryz.func141,Tryz.ntmps141;go_wp2;go_ret;exact ⟨qz a.o.symm,rfl⟩
   . go_enter Tryz.func141,Tryz.ntmps141;go_wp2;go_ret;exact ⟨qz a.o.symm,rfl⟩
 . go_enter Tryz.func141,Tryz.ntmps141;go_wp2;go_ret;exact ⟨qz a.o.symm,rfl⟩
theorem ey (s:ByteArray) (w:World) (hs:s.size<=4611686018427387904) :
 Calls Tryz.prog 197 #[.string s] w fun e w'=>e=.returned (.bool (qN s))/\Below w.heap.size w w':=by
 by_cases h0:s.size=0
 . have b:=U (gq (s:=s) (by omega));have c:s.size<1:=by omega
   clear h0;go_enter Tryz.func197,Tryz.ntmps197;go_wp2;go_ret;exact ⟨qz b.o.symm,Z0 _ _⟩
 have c:¬s.size<1:=by omega
 have a:0<s.size:=by omega
 by_cases h1:256<s.size
 . have b:=U (gq (s:=s) (by omega));clear h0;go_enter Tryz.func197,Tryz.ntmps197;go_wp2;go_ret;exact ⟨qz b.o.symm,Z0 _ _⟩
 by_cases h2:s[0].toNat=47
 . have b:=U (fW a h2);have h:((s[0].toNat:Int) == 47)=true:=by simp;omega
   clear h2 h0;go_enter Tryz.func197,Tryz.ntmps197;go_wp2;go_ret;exact ⟨qz b.o.symm,Z0 _ _⟩
 have h:((s[0].toNat:Int) == 47)=false:=by simp;omega
 have b:=U (dm a (by omega) h2);have g:=U (fun w=>tQ s w hs);clear h2 h0;go_enter Tryz.func197,Tryz.ntmps197;go_wp2_with fail;refine (g.o _).mono ?_;rintro e w' ⟨n,rfl,d⟩;have f:=U d;clear d;rw [<- b.o];go_wp2;go_ret;exact ⟨rfl,f.o⟩
theorem ep (s:ByteArray) (w:World) (hs:s.size<=9223372036854775807) :
 Calls Tryz.prog 146 #[.string s] w fun e w'=>e=.returned (.bool (preB s))/\w=w':=by
 by_cases h1:s.size<1
 . have a:=U (ph (s:=s) (.inl h1));go_enter Tryz.func146,Tryz.ntmps146;go_wp2;go_ret;exact ⟨qz a.o.symm,rfl⟩
 by_cases h2:64<s.size
 . have a:=U (ph (s:=s) (.inr h2));go_enter Tryz.func146,Tryz.ntmps146;go_wp2;go_ret;exact ⟨qz a.o.symm,rfl⟩
 have c:1<=s.size:=by omega
 have d:s.size<=64:=by omega
 have a:=U (nl c d);have b:=U (fun w=>mX s w hs);rw [<- a.o] at b;clear h1 h2;go_enter Tryz.func146,Tryz.ntmps146;go_wp2_with (go_at_call 199;refine (b.o _).mono ?_;rintro e w' ⟨rfl,rfl⟩);go_ret;exact ⟨rfl,rfl⟩
theorem rP (k:Nat) (w:World) (h2:k<=32):Calls Tryz.prog 190 #[.int .i64 k] w fun e w'=>e=.returned (.int .i64 ((wT k:Nat):Int))/\w'=w:=by have a:=U (show ((wT k:Nat):Int)=((k:Int)+3) / 4 by unfold wT;omega);go_enter Tryz.func190,Tryz.ntmps190;go_wp2;go_ret;exact ⟨by rw [a.o];first|rfl|go_num,rfl⟩
theorem rH (t bits:Int) (ids:List ByteArray) (pre:ByteArray) (ia:Option Addr) (ic:Nat) (w:World) (hp:pre.size<=4294967296) :
 Calls Tryz.prog 131 #[.agg #[.int .i64 t,.slice ia ids.length ic,.int .i64 bits,.string pre]] w fun e w'=>e=.returned (.int .i64 (zV ⟨bits,pre,⟨t,ids⟩⟩))/\Below w.heap.size w w':=by
 obtain ⟨W,l⟩:=O1 (w.alloc (.cells #[.int .i64 t,.slice ia ids.length ic,.int .i64 bits,.string pre] 33));have j:Below w.heap.size w W:=by rw [l];exact (Z0 _ _).alloc lz _
 have m:W.heap[w.heap.size]?=some (.cells #[.int .i64 t,.slice ia ids.length ic,.int .i64 bits,.string pre] 33 (0,0)):=by rw [l];exact Z4 w _
 have q:=U (show ∀w':World,Below W.heap.size W w'->w'.cell? ⟨w.heap.size,0,none⟩=some (.int .i64 t)/\w'.cell? ⟨w.heap.size,1,none⟩=some (.slice ia ids.length ic)/\w'.cell? ⟨w.heap.size,2,none⟩=some (.int .i64 bits)/\w'.cell? ⟨w.heap.size,3,none⟩=some (.string pre) from fun w' h=>by
  have y:=(h.block _ (qx m)).trans m;exact ⟨qq y rfl,qq y rfl,qq y rfl,qq y rfl⟩)
 have f:=U j;have i:=U l;have a:=O0 (zV ⟨bits,pre,⟨t,ids⟩⟩=if bits<1\/32<bits then 1 else if zf pre.data.toList=false then 3 else if 64<pre.size+1+(bits.toNat+3) / 4 then 5 else 0) rfl;obtain ⟨E,o⟩:=O1 (zV ⟨bits,pre,⟨t,ids⟩⟩);rw [<- o] at a ⊢;clear j m l o;obtain ⟨x,z,A,B⟩:=q.o W (Z0 _ _);by_cases h1:bits<1
 . rw [J1 (.inl h1)] at a;have r:decide (bits<1)=true:=J2 h1;go_enter Tryz.func131,Tryz.ntmps131;go_upto_region 1 with fail
   rw [<- i.o];go_wp2;go_ret;exact ⟨by rw [a.o];rfl,f.o⟩
 have r:decide (bits<1)=false:=Z7 h1;by_cases h2:32<bits
 . rw [J1 (.inr h2)] at a;have s:decide (32<bits)=true:=J2 h2;go_enter Tryz.func131,Tryz.ntmps131;go_upto_region 1 with fail
   rw [<- i.o];go_wp2;go_ret;exact ⟨by rw [a.o];rfl,f.o⟩
 have s:decide (32<bits)=false:=Z7 h2;rw [Z5 (by omega)] at a;obtain ⟨k,rfl⟩:∃k:Nat,bits=(k:Int):=⟨bits.toNat,by omega⟩;have g:=U (fun w:World=>(gP pre w (by omega)).mono fun e w' h=>show e=.returned (.bool (zf pre.data.toList))/\w=w' from h);rw [Int.toNat_natCast] at a;have c:=U (fun w:World=>rP k w (by omega));obtain ⟨d,b⟩:=O1 (wT k);rw [<- b] at c;have v:d<=8:=by rw [b];unfold wT;omega
 rw [show (k+3) / 4=d from b.symm] at a;clear h1 h2 b;cases hr:zf pre.data.toList
 . rw [hr] at g a;rw [J1 rfl] at a;clear hr;go_enter Tryz.func131,Tryz.ntmps131;go_upto_region 1 with fail
   rw [<- i.o];go_wp2_with (go_at_call 140;refine (g.o _).mono ?_;rintro e p ⟨rfl,rfl⟩);go_ret;exact ⟨by rw [a.o];rfl,f.o⟩
 . rw [hr] at g a;rw [Z5 (by decide)] at a;clear hr;by_cases h3:64<pre.size+1+d
   . have u:decide (64<(pre.size:Int)+1+(d:Int))=true:=J2 (by omega);rw [J1 h3] at a;clear h3;go_enter Tryz.func131,Tryz.ntmps131;go_upto_region 1 with fail
     rw [<- i.o];go_wp2_with (go_at_call 140;refine (g.o _).mono ?_;rintro e p ⟨rfl,rfl⟩);go_quiet ((go_at_call 190;exact Calls.quiet_of_same (c.o _)));go_wp2;go_ret;exact ⟨by rw [a.o];rfl,Below.drewN f.o _⟩
   . have u:decide (64<(pre.size:Int)+1+(d:Int))=false:=Z7 (by omega);rw [Z5 h3] at a;clear h3;go_enter Tryz.func131,Tryz.ntmps131;go_upto_region 1 with fail
     rw [<- i.o];go_wp2_with (go_at_call 140;refine (g.o _).mono ?_;rintro e p ⟨rfl,rfl⟩);go_quiet ((go_at_call 190;exact Calls.quiet_of_same (c.o _)));go_wp2;go_ret;exact ⟨by rw [a.o];rfl,Below.drewN f.o _⟩
theorem cz (bits t:Int) (pre:ByteArray) (ids:List ByteArray):zb ⟨bits,pre,⟨t,ids⟩⟩=((bits == 0) && ((pre.toList == []) && ((t == 0) && ((ids.length:Int) == 0)))):=by
 unfold zb;have a:(⟨#[]⟩:ByteArray).toList=[]:=by rw [X2]
 have b:(pre.toList == [])=decide (pre=⟨#[]⟩):=by rw [<- ba_eq,a]
 have c:((ids.length:Int) == 0)=decide (ids=[]):=by cases ids <;> simp;omega
 rw [b,c];simp only [Bool.decide_and];rfl
theorem mz (t bits:Int) (ids:List ByteArray) (pre:ByteArray) (ia:Option Addr) (ic:Nat) (w:World) :
 Calls Tryz.prog 73 #[.agg #[.int .i64 t,.slice ia ids.length ic,.int .i64 bits,.string pre]] w fun e w'=>e=.returned (.bool (zb ⟨bits,pre,⟨t,ids⟩⟩))/\Below w.heap.size w w':=by
 obtain ⟨W,f⟩:=O1 (w.alloc (.cells #[.int .i64 t,.slice ia ids.length ic,.int .i64 bits,.string pre] 33));have d:Below w.heap.size w W:=by rw [f];exact (Z0 _ _).alloc lz _
 have g:W.heap[w.heap.size]?=some (.cells #[.int .i64 t,.slice ia ids.length ic,.int .i64 bits,.string pre] 33 (0,0)):=by rw [f];exact Z4 w _
 have j:=U (show ∀w':World,Below W.heap.size W w'->w'.cell? ⟨w.heap.size,0,none⟩=some (.int .i64 t)/\w'.cell? ⟨w.heap.size,1,none⟩=some (.slice ia ids.length ic)/\w'.cell? ⟨w.heap.size,2,none⟩=some (.int .i64 bits)/\w'.cell? ⟨w.heap.size,3,none⟩=some (.string pre) from fun w' h=>by
  have y:=(h.block _ (qx g)).trans g;exact ⟨qq y rfl,qq y rfl,qq y rfl,qq y rfl⟩)
 have b:=U d;have c:=U f;have a:=U (cz bits t pre ids);obtain ⟨V,i⟩:=O1 (zb ⟨bits,pre,⟨t,ids⟩⟩);rw [<- i] at a ⊢;clear d g f i;obtain ⟨k,l,m,o⟩:=j.o W (Z0 _ _);cases g1:(bits == 0)
 . rw [g1] at a;go_enter Tryz.func73,Tryz.ntmps73;go_upto_region 1 with fail
   rw [<- c.o];go_wp2;go_ret;exact ⟨qz a.o.symm,b.o⟩
 rw [g1] at a;cases g2:(pre.toList == [])
 . rw [g2] at a;go_enter Tryz.func73,Tryz.ntmps73;go_upto_region 1 with fail
   rw [<- c.o];go_wp2;go_ret;exact ⟨qz a.o.symm,b.o⟩
 rw [g2] at a;cases g3:(t == 0)
 . rw [g3] at a;go_enter Tryz.func73,Tryz.ntmps73;go_upto_region 1 with fail
   rw [<- c.o];go_wp2;go_ret;exact ⟨qz a.o.symm,b.o⟩
 rw [g3] at a;cases g4:((ids.length:Int) == 0)
 . rw [g4] at a;go_enter Tryz.func73,Tryz.ntmps73;go_upto_region 1 with fail
   rw [<- c.o];go_wp2;go_ret;exact ⟨qz a.o.symm,b.o⟩
 . rw [g4] at a;go_enter Tryz.func73,Tryz.ntmps73;go_upto_region 1 with fail
   rw [<- c.o];go_wp2;go_ret;exact ⟨qz a.o.symm,b.o⟩
theorem ap (t bits:Int) (ids:List ByteArray) (pre:ByteArray) (ia:Option Addr) (ic:Nat) (w:World) (hp:pre.size<=4294967296) (hI:qv w 0 w.heap.size ia ids) (hs:∀s ∈ ids,s.size<=9223372036854775807) (hl:ids.length<=9223372036854775807) :
 Calls Tryz.prog 93 #[.agg #[.int .i64 t,.slice ia ids.length ic,.int .i64 bits,.string pre]] w fun e w'=>e=.returned (.bool (q8 ⟨bits,pre,⟨t,ids⟩⟩))/\Below w.heap.size w w':=by
 obtain ⟨W,u⟩:=O1 (w.alloc (.cells #[.int .i64 t,.slice ia ids.length ic,.int .i64 bits,.string pre] 33));have b:Below w.heap.size w W:=by rw [u];exact (Z0 _ _).alloc lz _
 have D:W.heap[w.heap.size]?=some (.cells #[.int .i64 t,.slice ia ids.length ic,.int .i64 bits,.string pre] 33 (0,0)):=by rw [u];exact Z4 w _
 have B:=U (show ∀w':World,Below W.heap.size W w'->w'.cell? ⟨w.heap.size,0,none⟩=some (.int .i64 t)/\w'.cell? ⟨w.heap.size,1,none⟩=some (.slice ia ids.length ic)/\w'.cell? ⟨w.heap.size,2,none⟩=some (.int .i64 bits)/\w'.cell? ⟨w.heap.size,3,none⟩=some (.string pre) from fun w' h=>by
  have y:=(h.block _ (qx D)).trans D;exact ⟨qq y rfl,qq y rfl,qq y rfl,qq y rfl⟩)
 have l:=U b;have F:=U u;have m:=O0 (q8 ⟨bits,pre,⟨t,ids⟩⟩=(decide (zV ⟨bits,pre,⟨t,ids⟩⟩=0) && xw t ids && !vp pre)) rfl;have g:=U (rH t bits ids pre ia ic W hp);have f:=O0 (∀w':World,Below W.heap.size W w'->_) (fun w' h=>dS t ids ia ic w' (hI.below (b.trans (h.mono b.size)) lz lz (Z3 b.size h.size)) hs hl);have o:=U (fun w:World=>(dA pre w).mono fun e w' h=>show e=.returned (.bool (vp pre))/\w=w' from ⟨h.1,h.2.symm⟩);obtain ⟨V,C⟩:=O1 (q8 ⟨bits,pre,⟨t,ids⟩⟩);obtain ⟨p,i⟩:=O1 (zV ⟨bits,pre,⟨t,ids⟩⟩);obtain ⟨E,j⟩:=O1 (xw t ids);obtain ⟨G,k⟩:=O1 (vp pre);rw [<- C,<- i,<- j,<- k] at m;rw [<- C];rw [<- i] at g;rw [<- j] at f;rw [<- k] at o;clear b D u C i j k hI;obtain ⟨v,x,z,A⟩:=B.o W (Z0 _ _);go_enter Tryz.func93,Tryz.ntmps93;go_upto_region 1 with fail
 rw [<- F.o];clear F;go_wp2_with fail;refine g.o.mono ?_;clear g v x z A;rintro e H ⟨rfl,q⟩;have a:=U q;clear q;by_cases h0:p=0
 case neg =>
  have I:(p == 0)=false:=by simpa using h0
  rw [Z7 h0] at m;clear h0;go_wp2;go_ret;exact ⟨qz m.o.symm,l.o.trans (a.o.mono l.o.size)⟩
 have I:(p == 0)=true:=by simpa using h0
 rw [J2 h0] at m;clear h0;obtain ⟨v,x,z,A⟩:=B.o H a.o;have c:=U (f.o H a.o);clear f;go_wp2_with fail;refine c.o.mono ?_;clear c v x z A;rintro e J ⟨rfl,r⟩;have d:=U (O2 a r);clear r;cases E with
 | false => go_wp2;go_ret;exact ⟨qz m.o.symm,l.o.trans (d.o.mono l.o.size)⟩
 | true =>
 obtain ⟨v,x,z,A⟩:=B.o J d.o;go_wp2_with (go_at_call 141;refine (o.o _).mono ?_;rintro e K ⟨rfl,rfl⟩);go_ret;exact ⟨qz m.o.symm,l.o.trans (d.o.mono l.o.size)⟩
theorem af (l:List ByteArray) (a:Option Addr) (c:Nat) (w:World) (hA:qv w 0 w.heap.size a l) (hl:l.length<=4294967296) (hs:∀s ∈ l,s.size<=4294967296) :
 Calls Tryz.prog 143 #[.slice a l.length c,.bool false] w fun e w'=>e=.returned (.bool (decide (0<l.length) && (decide (l.length<=32) && l.all qN)))/\Below w.heap.size w w':=by
 have J:=U hA;have K:=U hs;clear hA hs;obtain ⟨n,F⟩:=O1 l.length;have G:=U F;rw [<- F] at hl ⊢;clear F;obtain ⟨V,E⟩:=O1 ((decide (0<n) && (decide (n<=32) && l.all qN)));have m:=U E;rw [<- E];clear E;by_cases h0:0<n
 case neg =>
  rw [Z7 h0,V0] at m;have L:decide ((n:Int)<1)=true:=by rw [Q6];omega
  clear h0;go_enter Tryz.func143,Tryz.ntmps143;go_wp2;go_ret;exact ⟨qz m.o.symm,Z0 _ _⟩
 rw [J2 h0,X4] at m;have L:decide ((n:Int)<1)=false:=by rw [Y4];omega
 clear h0;by_cases h32:32<n
 . rw [Z7 (by omega),V0] at m;have M:decide (32<(n:Int))=true:=by rw [Q6];omega
   go_enter Tryz.func143,Tryz.ntmps143;go_wp2;go_ret;exact ⟨qz m.o.symm,Z0 _ _⟩
 have M:decide (32<(n:Int))=false:=by rw [Y4];omega
 rw [J2 (by omega),X4] at m;go_enter Tryz.func143,Tryz.ntmps143;go_wp2;go_loopw [5] (fun i wr=>∃k:Nat,k<=n/\i=.int .i64 k/\(∀j (h:j<l.length),j<k->qN l[j]=true)/\Below w.heap.size w wr) (fun i _=>n - (intOf i).toNat)
 case atStart=>exact ⟨0,by omega,rfl,fun j _ h=>by omega,Z0 _ _⟩
 case round =>
  obtain ⟨k,S,rfl,B,A⟩:=hrel;have x:=U B;have d:=U A;clear B A;by_cases hlt:k<n
  . have u:k<l.length:=by rw [<- G.o];exact hlt
    obtain ⟨b,o,P,-,v,N⟩:=(J.o.below d.o lz lz lz).at k u;subst P;have T:(0:Int)<=(k:Int):=by omega
    have W:(k:Int)<(n:Int):=by omega
    have Q:decide ((k:Int)<(n:Int))=true:=by simpa using hlt
    have g:=U (gj (f:=qN) u);have r:=U (show qN l[k]=true->∀j (h:j<l.length),j<k+1->qN l[j]=true from fun h0 j hj hjk=>by
     rcases Y1.1 hjk with h1|h1
     . exact x.o j hj h1
     . subst h1;exact h0)
    have C:=K.o l[k] (J7 u);obtain ⟨q,H⟩:=O1 (l[k]);rw [<- H] at N g r C;have D:=U (fun w:World=>ey q w (by omega));obtain ⟨y,I⟩:=O1 (qN q);rw [<- I] at D g r;clear H I C;cases y with
    | false => have z:=U (m.o.trans (g.o rfl));go_wp2_with (go_at_call 197;refine (D.o _).mono ?_;rintro e R ⟨rfl,v⟩;have p:=U v;clear v);go_ret;exact ⟨qz z.o.symm,d.o.trans (p.o.mono d.o.size)⟩
    | true =>
     have z:=U (r.o rfl);go_wp2_with (go_at_call 197;refine (D.o _).mono ?_;rintro e R ⟨rfl,v⟩;have p:=U v;clear v);go_roundw
     case rel=>exact ⟨k+1,by omega,by go_num,z.o,d.o.trans (p.o.mono d.o.size)⟩
     case measure=>simp [intOf];omega
  . have Q:decide ((k:Int)<(n:Int))=false:=by simpa using hlt
    have z:=U (m.o.trans (pu (f:=qN) (l:=l) (n:=k) (by rw [<- G.o];omega) x.o));go_wp2;go_ret;exact ⟨qz z.o.symm,d.o⟩
theorem ah (l:List ByteArray) (a:Option Addr) (c:Nat) (w:World) (hA:qv w 0 w.heap.size a l) (hl:l.length<=4294967296) (hs:∀s ∈ l,s.size<=4294967296) :
 Calls Tryz.prog 143 #[.slice a l.length c,.bool true] w fun e w'=>e=.returned (.bool (decide (0<l.length) && (decide (l.length<=32) && l.all preB)))/\Below w.heap.size w w':=by
 have J:=U hA;have K:=U hs;clear hA hs;obtain ⟨n,F⟩:=O1 l.length;have G:=U F;rw [<- F] at hl ⊢;clear F;obtain ⟨V,E⟩:=O1 ((decide (0<n) && (decide (n<=32) && l.all preB)));have m:=U E;rw [<- E];clear E;by_cases h0:0<n
 case neg =>
  rw [Z7 h0,V0] at m;have L:decide ((n:Int)<1)=true:=by rw [Q6];omega
  clear h0;go_enter Tryz.func143,Tryz.ntmps143;go_wp2;go_ret;exact ⟨qz m.o.symm,Z0 _ _⟩
 rw [J2 h0,X4] at m;have L:decide ((n:Int)<1)=false:=by rw [Y4];omega
 clear h0;by_cases h32:32<n
 . rw [Z7 (by omega),V0] at m;have M:decide (32<(n:Int))=true:=by rw [Q6];omega
   go_enter Tryz.func143,Tryz.ntmps143;go_wp2;go_ret;exact ⟨qz m.o.symm,Z0 _ _⟩
 have M:decide (32<(n:Int))=false:=by rw [Y4];omega
 rw [J2 (by omega),X4] at m;go_enter Tryz.func143,Tryz.ntmps143;go_wp2;go_loopw [5] (fun i wr=>∃k:Nat,k<=n/\i=.int .i64 k/\(∀j (h:j<l.length),j<k->preB l[j]=true)/\Below w.heap.size w wr) (fun i _=>n - (intOf i).toNat)
 case atStart=>exact ⟨0,by omega,rfl,fun j _ h=>by omega,Z0 _ _⟩
 case round =>
  obtain ⟨k,S,rfl,B,A⟩:=hrel;have x:=U B;have d:=U A;clear B A;by_cases hlt:k<n
  . have u:k<l.length:=by rw [<- G.o];exact hlt
    obtain ⟨b,o,P,-,v,N⟩:=(J.o.below d.o lz lz lz).at k u;subst P;have T:(0:Int)<=(k:Int):=by omega
    have W:(k:Int)<(n:Int):=by omega
    have Q:decide ((k:Int)<(n:Int))=true:=by simpa using hlt
    have g:=U (gj (f:=preB) u);have r:=U (show preB l[k]=true->∀j (h:j<l.length),j<k+1->preB l[j]=true from fun h0 j hj hjk=>by
     rcases Y1.1 hjk with h1|h1
     . exact x.o j hj h1
     . subst h1;exact h0)
    have C:=K.o l[k] (J7 u);obtain ⟨q,H⟩:=O1 (l[k]);rw [<- H] at N g r C;have D:=U (fun w:World=>(ep q w (by omega)).mono fun e w' h=>show e=.returned (.bool (preB q))/\Below w.heap.size w w' from ⟨h.1,by rw [<- h.2];exact Z0 _ _⟩);obtain ⟨y,I⟩:=O1 (preB q);rw [<- I] at D g r;clear H I C;cases y with
    | false => have z:=U (m.o.trans (g.o rfl));go_wp2_with (go_at_call 146;refine (D.o _).mono ?_;rintro e R ⟨rfl,v⟩;have p:=U v;clear v);go_ret;exact ⟨qz z.o.symm,d.o.trans (p.o.mono d.o.size)⟩
    | true =>
     have z:=U (r.o rfl);go_wp2_with (go_at_call 146;refine (D.o _).mono ?_;rintro e R ⟨rfl,v⟩;have p:=U v;clear v);go_roundw
     case rel=>exact ⟨k+1,by omega,by go_num,z.o,d.o.trans (p.o.mono d.o.size)⟩
     case measure=>simp [intOf];omega
  . have Q:decide ((k:Int)<(n:Int))=false:=by simpa using hlt
    have z:=U (m.o.trans (pu (f:=preB) (l:=l) (n:=k) (by rw [<- G.o];omega) x.o));go_wp2;go_ret;exact ⟨qz z.o.symm,d.o⟩
theorem ac (A B:Bool) (p q:Nat):((decide (0<p) && A) && decide (q=0) || (decide (0<q) && B) && decide (p=0))=(if 0<p then decide (q=0) && A else decide (0<q) && B):=by
 split
 . rename_i h;rw [J2 h,Z7 (show ¬p=0 by omega)];cases A <;> cases decide (q=0) <;> simp
 . rename_i h;rw [Z7 h,J2 (show p=0 by omega)];cases B <;> simp
theorem dI (nm:ByteArray) (t:Int) (ids:List ByteArray) (tm:Bool) (ps qs:List ByteArray) (ia pa qa:Option Addr) (ic pc qc:Nat) (w:World) (hI:DelegIn w 0 w.heap.size ⟨nm,⟨t,ids⟩,tm,ps,qs⟩ ia pa qa) (hf:DelegFits ⟨nm,⟨t,ids⟩,tm,ps,qs⟩) :
 Calls Tryz.prog 79 #[.agg #[.string nm,.int .i64 t,.slice ia ids.length ic,.bool tm,.slice pa ps.length pc,.slice qa qs.length qc]] w fun e w'=>e=.returned (.bool (qt ⟨nm,⟨t,ids⟩,tm,ps,qs⟩))/\Below w.heap.size w w':=by
 obtain ⟨W,R⟩:=O1 (w.alloc (.cells #[.string nm,.int .i64 t,.slice ia ids.length ic,.bool tm,.slice pa ps.length pc,.slice qa qs.length qc] 41));have L:Below w.heap.size w W:=by rw [R];exact (Z0 _ _).alloc lz _
 have hx:W.heap[w.heap.size]?=some (.cells #[.string nm,.int .i64 t,.slice ia ids.length ic,.bool tm,.slice pa ps.length pc,.slice qa qs.length qc] 41 (0,0)):=by rw [R];exact Z4 w _
 have K:=U (show ∀w':World,Below W.heap.size W w'->w'.cell? ⟨w.heap.size,0,none⟩=some (.string nm)/\w'.cell? ⟨w.heap.size,1,none⟩=some (.int .i64 t)/\w'.cell? ⟨w.heap.size,2,none⟩=some (.slice ia ids.length ic)/\w'.cell? ⟨w.heap.size,3,none⟩=some (.bool tm)/\w'.cell? ⟨w.heap.size,4,none⟩=some (.slice pa ps.length pc)/\w'.cell? ⟨w.heap.size,5,none⟩=some (.slice qa qs.length qc) from fun w' h=>by
  have y:=(h.block _ (qx hx)).trans hx;exact ⟨qq y rfl,qq y rfl,qq y rfl,qq y rfl,qq y rfl,qq y rfl⟩)
 have T:=O0 (∀w':World,Below W.heap.size W w'->DelegIn w' 0 w'.heap.size ⟨nm,⟨t,ids⟩,tm,ps,qs⟩ ia pa qa) (fun w' h=>hI.below (L.trans (h.mono L.size)) lz lz (Z3 L.size h.size));have f:=U (bM ⟨nm,⟨t,ids⟩,tm,ps,qs⟩);dsimp only at f;rw [<- ac] at f;have HF:=U hf;have j:=U (fun w:World=>gP nm w (by have:nm.size<=4294967296:=hf.name;omega));have x:=U (fun w:World=>(dA nm w).mono fun e w' h=>show e=.returned (.bool (vp nm))/\w=w' from ⟨h.1,h.2.symm⟩);have v:=U (dS t ids ia ic W (T.o W (Z0 _ _)).ids (fun s hs=>Z3 (hf.au.2.2 s hs) (by decide)) (Z3 hf.au.2.1 (by decide)));obtain ⟨Q,z⟩:=O1 ((decide (0<ps.length) && (decide (ps.length<=32) && ps.all qN)));obtain ⟨H,A⟩:=O1 ((decide (0<qs.length) && (decide (qs.length<=32) && qs.all preB)));have I:=O0 (∀w':World,Below W.heap.size W w'->Calls Tryz.prog 143 #[.slice pa ps.length pc,.bool false] w' (fun e G=>e=.returned (.bool Q)/\Below w'.heap.size w' G)) (fun w' h=>by rw [z];exact af ps pa pc w' (T.o w' h).paths hf.paths.1 hf.paths.2);have J:=O0 (∀w':World,Below W.heap.size W w'->Calls Tryz.prog 143 #[.slice qa qs.length qc,.bool true] w' (fun e G=>e=.returned (.bool H)/\Below w'.heap.size w' G)) (fun w' h=>by rw [A];exact ah qs qa qc w' (T.o w' h).pres hf.pres.1 hf.pres.2);rw [<- z,<- A] at f;obtain ⟨V,Z⟩:=O1 (qt ⟨nm,⟨t,ids⟩,tm,ps,qs⟩);obtain ⟨ro,C⟩:=O1 (zf nm.data.toList);obtain ⟨tp,D⟩:=O1 (vp nm);obtain ⟨ma,B⟩:=O1 (xw t ids);obtain ⟨S,F⟩:=O1 (decide (qs.length=0));obtain ⟨P,E⟩:=O1 (decide (ps.length=0));have X:((qs.length:Int) == 0)=S:=by rw [F];by_cases h:qs.length=0 <;> simp [h]
 have Y:((ps.length:Int) == 0)=P:=by rw [E];by_cases h:ps.length=0 <;> simp [h]
 rw [<- Z,<- C,<- D,<- B,<- F,<- E] at f;rw [<- Z];rw [<- C] at j;rw [<- D] at x;rw [<- B] at v;have HE:=U (And.intro X Y);have b:=U L;have HW:=U R;clear R L hx hI hf z A Z C D B F E X Y;obtain ⟨l,m,o,p,q,r⟩:=K.o W (Z0 _ _);go_enter Tryz.func79,Tryz.ntmps79;go_upto_region 1 with fail
 rw [<- HW.o];clear HW;have a0:=U (Z0 W.heap.size W);cases ro with
 | false =>
  go_wp2_with (go_at_call 140;refine (j.o _).mono ?_;rintro e u ⟨rfl,rfl⟩)
  go_ret;exact ⟨qz f.o.symm,b.o⟩
 | true =>
 cases tp with
 | true =>
  go_wp2_with (first|(go_at_call 140;refine (j.o _).mono ?_;rintro e u ⟨rfl,rfl⟩)|(go_at_call 141;refine (x.o _).mono ?_;rintro e u ⟨rfl,rfl⟩))
  go_ret;exact ⟨qz f.o.symm,b.o⟩
 | false =>
 go_wp2_with (first|(go_at_call 140;refine (j.o _).mono ?_;rintro e u ⟨rfl,rfl⟩)|(go_at_call 141;refine (x.o _).mono ?_;rintro e u ⟨rfl,rfl⟩)|fail)
 refine v.o.mono ?_;clear v l m o p q r;rintro e w1 ⟨rfl,M⟩;have g:=U M;clear M;cases ma with
 | false => go_wp2;go_ret;exact ⟨qz f.o.symm,b.o.trans (g.o.mono b.o.size)⟩
 | true =>
 obtain ⟨l,m,o,p,q,r⟩:=K.o w1 g.o;have k:=U (I.o w1 g.o);clear I;go_wp2_with fail;refine k.o.mono ?_;clear k l m o p q r;rintro e G ⟨rfl,N⟩;have c:=U (O2 g N);clear N;have d:=U (J.o G c.o);clear J;obtain ⟨l,m,o,p,q,r⟩:=K.o G c.o;obtain ⟨X,Y⟩:=HE.o;cases Q with
 | true =>
  cases S with
  | true => go_wp2;go_ret;exact ⟨qz f.o.symm,b.o.trans (c.o.mono b.o.size)⟩
  | false =>
   go_wp2_with fail
   refine d.o.mono ?_;clear d l m o p q r;rintro e u ⟨rfl,i⟩;have a:=U (O2 c i);clear i;obtain ⟨l,m,o,p,q,r⟩:=K.o u a.o;cases H with
   | false => go_wp2;go_ret;exact ⟨qz f.o.symm,b.o.trans (a.o.mono b.o.size)⟩
   | true =>
    cases P with
    | false => go_wp2;go_ret;exact ⟨qz f.o.symm,b.o.trans (a.o.mono b.o.size)⟩
    | true => go_wp2;go_ret;exact ⟨qz f.o.symm,b.o.trans (a.o.mono b.o.size)⟩
 | false =>
  go_wp2_with fail
  refine d.o.mono ?_;clear d l m o p q r;rintro e u ⟨rfl,i⟩;have a:=U (O2 c i);clear i;obtain ⟨l,m,o,p,q,r⟩:=K.o u a.o;cases H with
  | false => go_wp2;go_ret;exact ⟨qz f.o.symm,b.o.trans (a.o.mono b.o.size)⟩
  | true =>
   cases P with
   | false => go_wp2;go_ret;exact ⟨qz f.o.symm,b.o.trans (a.o.mono b.o.size)⟩
   | true => go_wp2;go_ret;exact ⟨qz f.o.symm,b.o.trans (a.o.mono b.o.size)⟩
end Go.Proofs.YthgembbgcbaghaaGreatDoor
