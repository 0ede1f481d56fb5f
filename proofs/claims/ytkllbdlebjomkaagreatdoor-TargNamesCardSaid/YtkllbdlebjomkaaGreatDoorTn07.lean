import Derived.Test.YtkllbdlebjomkaaGreatDoorTn06
import Derived.Laws.RangeAny
import Derived.Lib.AppendIntMem
import Derived.Test.YtkllbdlebjomkaaGreatDoorTn02
import Derived.Lib.ItoaLen
set_option maxHeartbeats 2000000
set_option maxRecDepth 100000

namespace Go.Proofs.YtkllbdlebjomkaaGreatDoor
open Go.RowKit
def pI (s:ByteArray) (pos:Nat):Bool:=((Utf8.decode s pos).1 == 65533) && !Lib.hasPrefix (s.data.toList.drop pos) [239,191,189]
def wJ (s:ByteArray):Nat->Nat->Bool
 | 0,_=>true
 | f+1,pos=>if pos<s.size then (if pI s pos then false else wJ s f (pos+(Utf8.decode s pos).2)) else true
def gx (s:ByteArray):Bool:=wJ s (s.size+1) 0
def oQ (s:ByteArray) (w:World) (e:Ending) (w':World):Prop:=∃n:Int,e=.returned (.tuple #[.int .i64 n,.bool (gx s)])/\O5 w w'
theorem l5 (s:ByteArray) (a:Nat):1<=(Utf8.decode s a).2:=by
 unfold Utf8.decode;dsimp only;repeat' split
 all_goals omega
theorem Qk (s:ByteArray) (w:World) (C:s.size<=9223372036854775807) :
 Calls Tryz.prog 122 #[.string s] w (oQ s w):=by
 go_enter Tryz.func122,Tryz.ntmps122;go_wp2;go_loopw [4,5,6] (fun v4 _ _ wr=>∃(a n f:Nat),n<=a/\n<=s.size/\v4=.int .i64 n/\wr=w.iter s a/\wJ s f a=gx s/\s.size+1<=f+a) (fun _ _ _ wr=>s.size - wr.iterPos w.heap.size)
 case atStart=>exact ⟨0,0,s.size+1,by omega,by omega,rfl,rfl,rfl,by omega⟩
 case round =>
  obtain ⟨a,n,f,B,y,rfl,rfl,c,A⟩:=hrel;by_cases hlt:a<s.size
  . obtain ⟨f,rfl⟩:∃g,f=g+1:=⟨f - 1,by omega⟩;have x:=l5 s a;have v:=decode_le s a;have p:wJ s (f+1) a=if pI s a then false else wJ s f (a+(Utf8.decode s a).2):=by rw [wJ,J3 hlt]
    have h:pI s a=(((Utf8.decode s a).1 == 65533) && !Lib.hasPrefix (s.data.toList.drop a) [239,191,189]):=rfl;have l:=fun ty=>run_next_any (P:=Tryz.prog) w s a ty hlt;generalize (Utf8.decode s a).1=r at *;generalize (Utf8.decode s a).2=d at *;have o:(s.extract a s.size).data.toList=s.data.toList.drop a:=(by rw [ByteArray.data_extract,Array.toList_extract,List.extract_eq_take_drop,J4];rw [zb9,qu];exact J2 _);have m:=U o;rw [p] at c;have k:=U c;have i:=U h;clear c p h o;by_cases hr:r=65533
    . have u:((r:Int) == 65533)=true:=by simp [hr]
      have b:(r == 65533)=true:=by simp [hr]
      cases hp:Lib.hasPrefix (s.data.toList.drop a) [239,191,189]
      . have j:=U (show gx s=false by rw [<- k.o,i.o,b,hp];rfl);have q:=U hp;clear hp b hr;go_wp2_with fail;refine (Tryz.strings_HasPrefix _ _ _).mono ?_;rintro e z ⟨rfl,rfl⟩;rw [show Lib.hasPrefix (s.extract a s.size).data.toList (⟨#[239,191,189]⟩:ByteArray).data.toList=false by rw [m.o];exact q.o];go_wp2;go_ret2;exact ⟨0,by rw [j.o];rfl,O4⟩
      . have j:=U (show wJ s f (a+d)=gx s by rw [<- k.o,i.o,b,hp];rfl);have q:=U hp;clear hp b hr;go_wp2_with fail;refine (Tryz.strings_HasPrefix _ _ _).mono ?_;rintro e z ⟨rfl,rfl⟩;rw [show Lib.hasPrefix (s.extract a s.size).data.toList (⟨#[239,191,189]⟩:ByteArray).data.toList=true by rw [m.o];exact q.o];go_wp2;go_roundw
        case rel=>exact ⟨a+d,n+1,f,by omega,by omega,by go_num,rfl,j.o,by omega⟩
        case measure=>simp;omega
    . have u:((r:Int) == 65533)=false:=by simp;omega
      have b:(r == 65533)=false:=by simp [hr]
      have j:=U (show wJ s f (a+d)=gx s by rw [<- k.o,i.o,b];rfl);clear b hr;go_wp2;go_roundw
      case rel=>exact ⟨a+d,n+1,f,by omega,by omega,by go_num,rfl,j.o,by omega⟩
      case measure=>simp;omega
  . have l:=fun ty=>run_next_end (P:=Tryz.prog) w s a ty hlt;have j:=U (show gx s=true by
     rw [<- c];cases f with
     | zero=>rfl
     | succ f=>rw [wJ,Z6 hlt])
    clear c;go_wp2;go_ret2;exact ⟨n,by rw [j.o];rfl,O4⟩
theorem pO (s:ByteArray) (w:World) (d:s.size<=9223372036854775807) :
 Calls Tryz.prog 95 #[.string s] w fun e w'=>e=.returned (.bool (gx s))/\O5 w w':=by
 go_enter Tryz.func95,Tryz.ntmps95;go_wp2_with fail;refine (Qk s w d).mono ?_;rintro e c ⟨n,rfl,a⟩;have b:=U a;clear a;go_wp2;go_ret;exact ⟨rfl,b.o⟩
open Go.Lib
abbrev zV (w : World) : Prop := Lib.TabIs Tryz.prog w "internal/strconv.uint64pow10" .u64 Lib.pow10Tab
theorem zV.below {w w':World} (h:zV w) (a:O5 w w'):zV w':=Lib.tabBelow_of_tabIs h w' a
theorem QT (k:Nat) (h:k<=4):Lib.repeatL (⟨#[48]⟩:ByteArray).data.toList k=List.replicate k 48:=by
 have:k=0\/k=1\/k=2\/k=3\/k=4:=by omega
 rcases this with rfl|rfl|rfl|rfl|rfl <;> rfl
theorem jD (a b:List UInt8):(⟨a.toArray⟩:ByteArray) ++ (⟨b.toArray⟩:ByteArray)=⟨(a ++ b).toArray⟩:=by apply ByteArray.ext;simp
theorem kI (a:List UInt8):(⟨a.toArray⟩:ByteArray).size=a.length:=by simp [ByteArray.size]
theorem yx (n z:Nat) (w:World) (C:n<=100000) (B:z<=4) (A:zV w):Calls Tryz.prog 80 #[.int .i64 n,.int .i64 z] w fun e w'=>e=.returned (.string ⟨(kN n z).toArray⟩)/\O5 w w':=by
 have h:=U (Tryz.strconv_Itoa n (by omega) (by omega) w A);have m:=O0 (kN n z=List.replicate (z - (Lib.itoa n).length) 48 ++ Lib.itoa n) rfl;generalize Lib.itoa n=l at *;obtain ⟨t,d⟩:∃t:ByteArray,t=⟨l.toArray⟩:=⟨_,rfl⟩;have b:t.size=l.length:=by rw [d];exact kI l
 rw [<- d] at h;have o:=U d;have c:=U b;by_cases hc:t.size<z
 . have i:=U (fun w':World=>Tryz.strings_Repeat ⟨#[48]⟩ (z - t.size) w' (by omega) (by show 1 * (z - t.size)<=_;omega));have u:((z - t.size:Nat):Int)=(z:Int) - t.size:=by omega
   rw [u,QT _ (by omega)] at i;obtain ⟨g,a⟩:∃g:ByteArray,g=⟨(List.replicate (z - t.size) 48).toArray⟩:=⟨_,rfl⟩;have x:g.size<=4:=by rw [a,kI,List.length_replicate];omega
   rw [<- a] at i;have j:=U a;have q:g.size+t.size<=100:=by omega
   have s:decide ((t.size:Int)<z)=true:=by simpa using hc
   have v:(t.size:Int)<z:=by omega
   clear A d b a;go_enter Tryz.func80,Tryz.ntmps80;go_wp2_with fail;refine h.o.mono ?_;rintro e w' ⟨rfl,k,f,rfl⟩;go_wp2_with fail;refine (i.o _).mono ?_;rintro e y ⟨rfl,p⟩;have r:=U ((below_grow w.heap.size w lz k f).trans (p.mono (below_grow w.heap.size w lz k f).size));clear p;go_wp2;go_ret;refine ⟨?_,r.o⟩;rw [m.o,<- c.o,<- jD,<- o.o,<- j.o];rfl
 . have s:decide ((t.size:Int)<z)=false:=by simp;omega
   clear A d b;go_enter Tryz.func80,Tryz.ntmps80;go_wp2_with fail;refine h.o.mono ?_;rintro e w' ⟨rfl,k,f,rfl⟩;go_wp2;go_ret;refine ⟨?_,below_grow w.heap.size w lz k f⟩;rw [m.o,<- c.o,show z - t.size=0 by omega,o.o];rfl
def vZ (n:Int):Int:=if 0<=n/\n<=253402300799 then 0 else 1
def jY (n:Int):ByteArray:=if 0<=n/\n<=253402300799 then ⟨(nu n.toNat).toArray⟩ else ⟨#[]⟩
theorem oZ {f y d:Nat} (h:y<9999/\zj (y+1)<=d):vm (f+1) y d=vm f (y+1) d:=by rw [vm,J3 h]
theorem tr {f y d:Nat} (h:¬(y<9999/\zj (y+1)<=d)):vm f y d=y:=by
 cases f with
 | zero=>rfl
 | succ f=>rw [vm,Z6 h]
theorem tn {y f m d:Nat} (h:m<12/\xT y m<=d):jM y (f+1) m d=jM y f (m+1) (d - xT y m):=by rw [jM,J3 h]
theorem sd {y f m d:Nat} (h:¬(m<12/\xT y m<=d)):jM y f m d=(m,d):=by
 cases f with
 | zero=>rfl
 | succ f=>rw [jM,Z6 h]
theorem l6 (y:Nat) (h:1970<=y):zj (y+1)<=zj y+366:=by unfold zj xQ;omega
theorem l7:zj 9999=2932532:=by decide
theorem ut (y m:Nat):ku y m=xT y m:=by unfold ku;rw [Z6 (by omega)];simp
theorem yj (n a:Nat) (b:n<=100000) (c:a<=4):(kN n a).length<=40:=by unfold kN;have:=Lib.itoa_length_le (n:Int) (by omega) (by omega);rw [K3,List.length_replicate];omega
theorem ts (a b c d e f:List UInt8):(⟨a.toArray⟩:ByteArray) ++ ⟨#[45]⟩ ++ ⟨b.toArray⟩ ++ ⟨#[45]⟩ ++ ⟨c.toArray⟩ ++ ⟨#[84]⟩ ++ ⟨d.toArray⟩ ++ ⟨#[58]⟩ ++ ⟨e.toArray⟩ ++ ⟨#[58]⟩ ++ ⟨f.toArray⟩ ++ ⟨#[90]⟩=⟨(a ++ [45] ++ b ++ [45] ++ c ++ [84] ++ d ++ [58] ++ e ++ [58] ++ f ++ [90]).toArray⟩:=by rw [<- jD,<- jD,<- jD,<- jD,<- jD,<- jD,<- jD,<- jD,<- jD,<- jD,<- jD]
theorem cR (n:Int) (w:World) (hT:TabW w) (hP:zV w):Calls Tryz.prog 36 #[.int .i64 n] w fun e w'=>e=.returned (.tuple #[.string (jY n),.int .i64 (vZ n)])/\O5 w w':=by
 by_cases h0:0<=n
 . by_cases W:n<=253402300799
   . obtain ⟨N,rfl⟩:∃N:Nat,n=N:=⟨n.toNat,by omega⟩;have C:=U (show jY N=⟨(nu N).toArray⟩/\vZ N=0 by unfold jY vZ;rw [J3 ⟨h0,W⟩,J3 ⟨h0,W⟩];exact ⟨rfl,rfl⟩);have e1:((N:Int).tdiv 86400)=((N / 86400:Nat):Int):=by rw [N4 (by omega)];omega
     have e2:((N:Int).tmod 86400)=((N % 86400:Nat):Int):=by rw [H6 (by omega)];omega
     obtain ⟨D,hD⟩:=O1 (N / 86400);obtain ⟨t,ht⟩:=O1 (N % 86400);have d0:D<=2932896:=by omega
     have d3:t<86400:=by omega
     rw [<- hD] at e1;rw [<- ht] at e2;have HD:=U (And.intro hD ht);have HT:=U hT;have V:=U hP;clear hD ht hT hP;go_enter Tryz.func36,Tryz.ntmps36;go_wp2;go_loopw [6] (fun y wr=>∃k:Nat,k<=8029/\y=.int .i64 ((1970+k:Nat):Int)/\zj (1970+k)<=D/\vm 8030 1970 D=vm (8030 - k) (1970+k) D/\O5 w wr) (fun y _=>10000 - (intOf y).toNat)
     case atStart=>exact ⟨0,by omega,rfl,by show zj 1970<=D;rw [show zj 1970=0 by decide];omega,rfl,Z0 _ _⟩
     case round =>
      obtain ⟨k,hk,rfl,R,o,b⟩:=hrel;obtain ⟨Y,hY⟩:=O1 (1970+k);rw [<- hY] at R o ⊢;have a1:1970<=Y/\Y<=9999:=by omega
      obtain ⟨c,hc⟩:∃c:Bool,c=decide (Y<9999/\zj (Y+1)<=D):=⟨_,rfl⟩;have H:=U (And.intro hY (And.intro R o));have i:=U hc;have S:=U b;clear hY R o hc b;go_upto_region 5 with fail
      go_cut [27] (fun s wx=>s=.bool c/\O5 wr wx)
      case first =>
       by_cases c1:Y<9999
       . have q1:decide ((Y:Int)<9999)=true:=by simp;omega
         have l:=U (yq (Y+1) wr (by omega) (by omega));rw [show ((Y+1:Nat):Int)=(Y:Int)+1 by omega] at l;have g:=U (show c=decide (zj (Y+1)<=D) by rw [i.o];simp [c1]);go_wp2_with fail;refine l.o.mono ?_;rintro e w' ⟨rfl,h'⟩;subst h';generalize zj (Y+1)=sa at *;go_wp2_with fail
         go_meet
         exact ⟨by rw [g.o] <;> simp,Z0 _ _⟩
       . have q1:decide ((Y:Int)<9999)=false:=by simp;omega
         have g:=U (show c=false by rw [i.o];simp [c1]);go_wp2_with fail
         go_meet
         exact ⟨by rw [g.o],Z0 _ _⟩
      case rest =>
       obtain ⟨rfl,m⟩:=hcut;have f:=U (O2 S m);clear m;cases c
       . have X:¬(Y<9999/\zj (Y+1)<=D):=fun h=>by have:=i.o;simp [h] at this
         have p:vm 8030 1970 D=Y:=by rw [H.o.2.2];exact tr X
         have hE:∃E,D=zj Y+E:=⟨D - zj Y,by have:=H.o.2.1;omega⟩;obtain ⟨E,hE⟩:=hE;have a0:E<=366:=by
          have W:=l6 Y a1.1;by_cases c9:Y<9999
          . have:¬zj (Y+1)<=D:=fun h=>X ⟨c9,h⟩;omega
          . have:Y=9999:=by omega
            subst this;have:=l7;omega
         have l:=U (yq Y wc a1.1 (by omega));have b7:=U p;have Z:=U (And.intro hE a0);clear X p H i a0;go_wp2_with fail;refine l.o.mono ?_;clear l;rintro e w' ⟨rfl,h'⟩;subst h';have c0:(D:Int) - (zj Y:Int)=(E:Int):=by omega
         generalize hsY:zj Y=sY at *;have b6:=U hsY;clear hsY;go_wp2;go_loopw [4,7] (fun dv mv wr=>∃k q:Nat,k<=11/\mv=.int .i64 ((k+1:Nat):Int)/\dv=.int .i64 (q:Int)/\q<=366/\jM Y 12 1 E=jM Y (12 - k) (k+1) q/\O5 w wr) (fun _ mv _=>12 - (intOf mv).toNat)
         case atStart=>exact ⟨0,E,by omega,rfl,J6 (Value.int .i64) (by omega),Z.o.2,rfl,f.o⟩
         case round =>
          obtain ⟨k,q,hk,rfl,rfl,hq,hm,b⟩:=hrel;obtain ⟨M,hM⟩:=O1 (k+1);rw [<- hM] at hm ⊢;have d1:1<=M/\M<=12:=by omega
          obtain ⟨c,hc⟩:∃c:Bool,c=decide (M<12/\xT Y M<=q):=⟨_,rfl⟩;have T:=U (And.intro hM hm);have i:=U hc;have S:=U b;clear hM hm hc b;clear c0 hE;go_upto_region 9 with fail
          go_cut [42] (fun s wx=>s=.bool c/\O5 wr wx)
          case first =>
           by_cases c1:M<12
           . have q1:decide ((M:Int)<12)=true:=by simp;omega
             have j:=U (pF Y M wr (HT.o.below S.o));rw [ut] at j;have g:=U (show c=decide (xT Y M<=q) by rw [i.o];simp [c1]);go_wp2_with fail;refine j.o.mono ?_;rintro e w' ⟨rfl,b⟩;have F:=U b;clear b;generalize xT Y M=sa at *;go_wp2_with fail
             go_meet
             exact ⟨by rw [g.o] <;> simp,F.o⟩
           . have q1:decide ((M:Int)<12)=false:=by simp;omega
             have g:=U (show c=false by rw [i.o];simp [c1]);go_wp2_with fail
             go_meet
             exact ⟨by rw [g.o],Z0 _ _⟩
          case rest =>
           obtain ⟨rfl,m⟩:=hcut;have f:=U (O2 S m);clear m;cases c
           . have X:¬(M<12/\xT Y M<=q):=fun h=>by have:=i.o;simp [h] at this
             have p:jM Y 12 1 E=(M,q):=by rw [T.o.2];exact sd X
             have b5:=U p;have a:=U f.o;clear p X i T;have d4:(t:Int).tdiv 3600=((t / 3600:Nat):Int):=by rw [N4 (by omega)];omega
             have c7:(t:Int).tdiv 60=((t / 60:Nat):Int):=by rw [N4 (by omega)];omega
             have d5:((t / 60:Nat):Int).tmod 60=((t / 60 % 60:Nat):Int):=by rw [H6 (by omega)];omega
             have d6:(t:Int).tmod 60=((t % 60:Nat):Int):=by rw [H6 (by omega)];omega
             have I:=U (yx (Y) 4 wc (by omega) (by decide) (V.o.below a.o));have a2:=yj (Y) 4 (by omega) (by decide);obtain ⟨P1,u⟩:∃P:ByteArray,P=⟨(kN (Y) 4).toArray⟩:=⟨_,rfl⟩;rw [<- u] at I;have z1:P1.size<=40:=by rw [u,kI];exact a2
             have a9:=U u;clear a2 u;go_wp2_with fail;refine I.o.mono ?_;clear I;rintro e c2 ⟨rfl,b⟩;replace a:=U (O2 a b);clear b;have J:=U (yx (M) 2 c2 (by omega) (by decide) (V.o.below a.o));have a3:=yj (M) 2 (by omega) (by decide);obtain ⟨P2,v⟩:∃P:ByteArray,P=⟨(kN (M) 2).toArray⟩:=⟨_,rfl⟩;rw [<- v] at J;have z2:P2.size<=40:=by rw [v,kI];exact a3
             have b0:=U v;clear a3 v;go_wp2_with fail;refine J.o.mono ?_;clear J;rintro e c3 ⟨rfl,b⟩;replace a:=U (O2 a b);clear b;have r:=U (yx (q+1) 2 c3 (by omega) (by decide) (V.o.below a.o));have a4:=yj (q+1) 2 (by omega) (by decide);obtain ⟨P3,x⟩:∃P:ByteArray,P=⟨(kN (q+1) 2).toArray⟩:=⟨_,rfl⟩;rw [<- x] at r;have z3:P3.size<=40:=by rw [x,kI];exact a4
             have b1:=U x;clear a4 x;rw [show ((q+1:Nat):Int)=(q:Int)+1 by omega] at r;go_wp2_with fail;refine r.o.mono ?_;clear r;rintro e c4 ⟨rfl,b⟩;replace a:=U (O2 a b);clear b;have K:=U (yx (t / 3600) 2 c4 (by omega) (by decide) (V.o.below a.o));have a5:=yj (t / 3600) 2 (by omega) (by decide);obtain ⟨P4,z⟩:∃P:ByteArray,P=⟨(kN (t / 3600) 2).toArray⟩:=⟨_,rfl⟩;rw [<- z] at K;have z4:P4.size<=40:=by rw [z,kI];exact a5
             have b2:=U z;clear a5 z;go_wp2_with fail;refine K.o.mono ?_;clear K;rintro e c5 ⟨rfl,b⟩;replace a:=U (O2 a b);clear b;have L:=U (yx (t / 60 % 60) 2 c5 (by omega) (by decide) (V.o.below a.o));have a6:=yj (t / 60 % 60) 2 (by omega) (by decide);obtain ⟨P5,A⟩:∃P:ByteArray,P=⟨(kN (t / 60 % 60) 2).toArray⟩:=⟨_,rfl⟩;rw [<- A] at L;have z5:P5.size<=40:=by rw [A,kI];exact a6
             have b3:=U A;clear a6 A;go_wp2_with fail;refine L.o.mono ?_;clear L;rintro e c6 ⟨rfl,b⟩;replace a:=U (O2 a b);clear b;have Q:=U (yx (t % 60) 2 c6 (by omega) (by decide) (V.o.below a.o));have a7:=yj (t % 60) 2 (by omega) (by decide);obtain ⟨P6,B⟩:∃P:ByteArray,P=⟨(kN (t % 60) 2).toArray⟩:=⟨_,rfl⟩;rw [<- B] at Q;have z6:P6.size<=40:=by rw [B,kI];exact a7
             have b4:=U B;clear a7 B;go_wp2_with fail;refine Q.o.mono ?_;clear Q;rintro e d7 ⟨rfl,b⟩;replace a:=U (O2 a b);clear b;have a8:=U (show nu N=kN Y 4 ++ [45] ++ kN M 2 ++ [45] ++ kN (q+1) 2 ++ [84] ++ kN (t / 3600) 2 ++ [58] ++ kN (t / 60 % 60) 2 ++ [58] ++ kN (t % 60) 2 ++ [90] by
              have W:N / 86400=D:=HD.o.1.symm;have h2:N % 86400=t:=HD.o.2.symm;have h3:vm 8030 1970 D=Y:=b7.o;unfold nu;simp only [W,h2,h3];rw [show D - zj Y=E by have:=Z.o.1;have:=b6.o;omega,b5.o])
             go_wp2;go_ret2;exact ⟨by rw [C.o.1,C.o.2,a8.o,<- ts,<- a9.o,<- b0.o,<- b1.o,<- b2.o,<- b3.o,<- b4.o];rfl,a.o⟩
           . have o:M<12/\xT Y M<=q:=of_decide_eq_true i.o.symm;have j:=U (pF Y M wc (HT.o.below f.o));rw [ut] at j;have G:=U (show jM Y 12 1 E=jM Y (12 - (k+1)) (k+1+1) (q - xT Y M) by
              have h:=T.o.2;rw [show 12 - k=(12 - (k+1))+1 by omega,tn o] at h;rw [h,T.o.1])
             have d:=O0 (k+1<=11/\M=k+1/\xT Y M<=q) (⟨by have:=T.o.1;omega,T.o.1,o.2⟩);have d2:(xT Y M:Int)<=q:=by omega
             clear o;go_wp2_with fail;refine j.o.mono ?_;rintro e w' ⟨rfl,b⟩;have F:=U (O2 f b);clear b;generalize xT Y M=sa at *;go_wp2;go_roundw
             case rel=>exact ⟨k+1,q - sa,d.o.1,by rw [d.o.2.1];rfl,by go_num,by omega,G.o,F.o⟩
             case measure=>have:=d.o;simp [intOf];omega
       . have o:Y<9999/\zj (Y+1)<=D:=of_decide_eq_true i.o.symm;have G:=U (show vm 8030 1970 D=vm (8030 - (k+1)) (1970+(k+1)) D by
          have h:=H.o.2.2;rw [show 8030 - k=(8030 - (k+1))+1 by omega,oZ o] at h;rw [h,H.o.1];rfl)
         have d:=O0 (k+1<=8029/\Y=1970+k/\zj (Y+1)<=D) (⟨by have:=H.o.1;omega,H.o.1,o.2⟩);clear o;go_wp2;go_roundw
         case rel=>exact ⟨k+1,d.o.1,by rw [d.o.2.1];rfl,by rw [show 1970+(k+1)=Y+1 by rw [d.o.2.1];rfl];exact d.o.2.2,G.o,f.o⟩
         case measure=>have:=d.o;simp [intOf];omega
   . have C:=U (show jY n=⟨#[]⟩/\vZ n=1 by unfold jY vZ;rw [Z6 (by omega),Z6 (by omega)];exact ⟨rfl,rfl⟩);have q0:decide (n<0)=false:=by simp;omega
     have q1:decide (253402300799<n)=true:=by simp;omega
     clear h0 W hT hP;go_enter Tryz.func36,Tryz.ntmps36;go_wp2;go_ret2;exact ⟨by rw [C.o.1,C.o.2];rfl,Z0 _ _⟩
 . have C:=U (show jY n=⟨#[]⟩/\vZ n=1 by unfold jY vZ;rw [Z6 (by omega),Z6 (by omega)];exact ⟨rfl,rfl⟩);have q0:decide (n<0)=true:=by simp;omega
   clear h0 hT hP;go_enter Tryz.func36,Tryz.ntmps36;go_wp2;go_ret2;exact ⟨by rw [C.o.1,C.o.2];rfl,Z0 _ _⟩
open Go.Shelf
theorem cN:(Tryz.prog.info? 67).map (fun i=>(i.zero,i.size,i.bytes))=some (some (.agg #[.string ⟨#[]⟩,.string ⟨#[]⟩]),2,32):=by kernel_rfl
theorem ti (l:List Key2) (j:Nat) (u:Value) (h:(l.flatMap jV)[j]?=some u):∃(d:j / 2<l.length),(jV l[j / 2])[j % 2]?=some u:=by
 induction l generalizing j with
 | nil=>simp at h
 | cons v r ih =>
  rw [List.flatMap_cons] at h;by_cases h3:j<2
  . have a:j / 2=0:=by omega
    have b:j % 2=j:=by omega
    rw [V4 (by show j<2;exact h3)] at h;refine ⟨by rw [a];simp,?_⟩;simp only [a,b];exact h
  . rw [Y8 (by show 2<=j;omega)] at h;obtain ⟨d,c⟩:=ih (j - 2) (by exact h);have a:j / 2=(j - 2) / 2+1:=by omega
    have b:j % 2=(j - 2) % 2:=by omega
    refine ⟨by rw [a];simp;omega,?_⟩;simp only [a,b,G3];exact c
theorem cS (l:List Key2) (a:Option Addr) (c:Nat) (w:World) (L:qJ w 0 w.heap.size a l) (M:l.length<=4294967296) :
 Calls Tryz.prog 86 #[.slice a l.length c] w fun e w'=>∃a' c',e=.returned (.slice a' l.length c')/\qJ w' w.heap.size w'.heap.size a' l/\O5 w w':=by
 have J:∀(w:World) (a:Option Addr) (n c n' c':Nat),(binOp .eql 30 (.slice a n c) (.slice none n' c')).run Tryz.prog w=.ok (.bool a.isNone) w:=fun w a n c n' c'=>Lib.run_eql_slice_nil w _ _ a n c n' c' Tryz.underlying30;obtain ⟨I,y,A,B,C⟩:=V2 cN;cases a with
 | none =>
  have x:l=[]:=by
   rcases L with h|⟨b,off,h,_⟩
   . exact h
   . cases h
  subst x;go_enter Tryz.func86,Tryz.ntmps86;go_wp2;go_ret;exact ⟨none,0,rfl,.inl rfl,Z0 _ _⟩
 | some ad =>
  have d:0<l.length->∃ad',some ad=some ad'/\∀j u,(l.flatMap jV)[j]?=some u->(w.alloc (.cells #[] 67)).cell? (ad'.add j)=some u:=fun x=>by
   rcases L with h|⟨b,off,h,_,hb,hc⟩
   . subst h;simp at x
   . refine ⟨ad,rfl,fun j u hj=>?_⟩;obtain ⟨z,f⟩:=ti l j u hj;obtain ⟨G,H⟩:=hc (j / 2) z;cases h;have e:(⟨b,off,none⟩:Addr).add j=⟨b,off+j,none⟩:=by unfold Addr.add;split <;> simp_all
     rw [e,ql _ hb];have K:j % 2<2:=Nat.mod_lt _ (by decide);unfold jV at f;rcases hq:j % 2 with _|_|q
     . rw [hq] at f;simp at f;subst f;rw [show off+j=off+j / 2 * 2 by omega];exact G
     . rw [hq] at f;simp at f;subst f;rw [show off+j=off+j / 2 * 2+1 by omega];exact H
     . omega
  have g:(l.flatMap jV).length=l.length * 2:=by
   clear L M d
   induction l with
   | nil=>rfl
   | cons v r ih=>rw [List.flatMap_cons,K3,ih];show 2+r.length * 2=(r.length+1) * 2;omega
  have i:∀u ∈ l.flatMap jV,u.oneCell'=true:=fun u f=>by obtain ⟨v,_,m⟩:=List.mem_flatMap.1 f;unfold jV at m;simp at m;rcases m with rfl|rfl <;> rfl
  have E:=U d;have D:=U g;have F:=U i;clear d g i L;go_enter Tryz.func86,Tryz.ntmps86;go_wp2_with (at_builtin;refine gz _ rfl (.tmp 5) (.tmp 6) 30 rfl w.heap.size 67 I _ 2 32 Tryz.underlying30 y A B C rfl (by decide) _ 0 [] rfl (World.ownsRow_made w #[] 0 lz (J0 _) (by simp)) _ l.length c (l.flatMap jV) rfl D.o E.o F.o ?c1 ?c2 ?c3 _ rfl ?_)
  case c1=>unfold maxLen;omega
  case c2=>omega
  case c3=>simp
  intro a2 c2 w2 hown2 hgrow2 hat2
  try simp only [za9] at hown2
  obtain ⟨_,_,m,o⟩:=yz hown2 rfl;simp only [Y2,za5] at m;obtain ⟨rfl,rfl⟩:=m;have s:=U o;clear o;have p:=U (((Z0 _ w).alloc lz _).grown hgrow2 (by simp) (by intro k hk;simp [Value.ownBlock] at hk;omega));clear hown2 hgrow2 hat2;go_wp2;go_ret;exact ⟨a2,c2,rfl,s.o,p.o⟩
