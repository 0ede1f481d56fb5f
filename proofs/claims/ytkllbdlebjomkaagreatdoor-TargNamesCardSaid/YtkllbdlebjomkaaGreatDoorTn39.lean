import Derived.Test.YtkllbdlebjomkaaGreatDoorTn04
set_option maxHeartbeats 1000000
set_option maxRecDepth 100000

namespace Go.Proofs.YtkllbdlebjomkaaGreatDoor
open Go.RowKit
theorem ext_list (s:ByteArray) (a b:Nat) (_:b<=s.size):(s.extract a b).data.toList=(s.data.toList.drop a).take (b - a):=by
 have h:s.data.toList.length=s.size:=by rw [G8];rfl
 rw [ByteArray.data_extract,Array.toList_extract,List.extract_eq_take_drop]
theorem cu:∀(l:List UInt8) (n:Int),0<=n->-1<=zk l n/\zk l n<(n+1) * 10 ^ l.length
 | [],n,h=>by simp [zk];omega
 | c :: r,n,h=>by
  rw [zk];split
  . rename_i hc;have ih:=cu r (10 * n+((c.toNat:Int) - 48)) (by omega);refine ⟨ih.1,Int.lt_of_lt_of_le ih.2 ?_⟩;rw [N0,Int.pow_succ];have hp:(0:Int)<=10 ^ r.length:=Int.pow_nonneg (by decide);have h2:10 * n+((c.toNat:Int) - 48)+1<=10 * (n+1):=by omega
    calc (10 * n+((c.toNat:Int) - 48)+1) * 10 ^ r.length<=(10 * (n+1)) * 10 ^ r.length:=Int.mul_le_mul_of_nonneg_right h2 hp
     _=(n+1) * (10 ^ r.length * 10):=by rw [Int.mul_comm 10 (n+1),Int.mul_assoc,Int.mul_comm 10]
  . have hp:(0:Int)<=10 ^ (c :: r).length:=Int.pow_nonneg (by decide);have:=Int.mul_nonneg (show (0:Int)<=n+1 by omega) hp;omega
theorem wO (l:List UInt8) (h:l.length<=2):-1<=zk l 0/\zk l 0<=99:=by
 have:=cu l 0 (Int.le_refl _);have a:l.length=0\/l.length=1\/l.length=2:=by omega
 refine ⟨this.1,?_⟩;have b:=this.2;rcases a with e|e|e <;> rw [e] at b <;> omega
theorem iO (l:List UInt8) (h:l.length<=4):-1<=zk l 0/\zk l 0<=9999:=by
 have:=cu l 0 (Int.le_refl _);have a:l.length=0\/l.length=1\/l.length=2\/l.length=3\/l.length=4:=by omega
 refine ⟨this.1,?_⟩;have b:=this.2;rcases a with e|e|e|e|e <;> rw [e] at b <;> omega
theorem aH (y:Nat) (h:y<=9999):zj y<=3000000:=by unfold zj xQ;omega
def kL (y m d hh mm ss:Int):Int × Int :=
 if d<1\/ku y m<d then (0,3) else
 if hh<0\/23<hh\/mm<0\/59<mm\/ss<0\/59<ss then (0,3) else
 (((zj y.toNat:Int)+beforeN (m.toNat - 1)+d - 1+(if 2<m/\yl y.toNat=true then 1 else 0)) * 86400+(hh * 3600+mm * 60+ss),0)
theorem aU {l:List UInt8} (h:l.length≠20):ww l=(0,3):=by unfold ww;rw [J3 h]
theorem ky {l:List UInt8} (a:l.length=20) (h:l[4]?≠some 45\/l[7]?≠some 45\/l[10]?≠some 84\/l[13]?≠some 58\/l[16]?≠some 58\/l[19]?≠some 90):ww l=(0,3):=by unfold ww;rw [Z6 (by omega),J3 h]
theorem iE {l:List UInt8} (a:l.length=20) (h:¬(l[4]?≠some 45\/l[7]?≠some 45\/l[10]?≠some 84\/l[13]?≠some 58\/l[16]?≠some 58\/l[19]?≠some 90)) :
 ww l=kL (zk (l.take 4) 0) (zk ((l.drop 5).take 2) 0) (zk ((l.drop 8).take 2) 0) (zk ((l.drop 11).take 2) 0) (zk ((l.drop 14).take 2) 0) (zk ((l.drop 17).take 2) 0):=by
 unfold ww kL ku;rw [Z6 (by omega),Z6 h]
theorem my {s:ByteArray} {i:Nat} (h:i<s.size) {c:UInt8} (b:s[i]≠c):s.data.toList[i]?≠some c:=by
 have a:i<s.data.toList.length:=by rw [G8];exact h
 rw [H9 a];intro e;exact b (X2 e)
theorem at_eq {s:ByteArray} {i:Nat} (h:i<s.size) {c:UInt8} (b:s[i]=c):s.data.toList[i]?=some c:=by
 have a:i<s.data.toList.length:=by rw [G8];exact h
 rw [H9 a];exact J6 some b
theorem lP (s:ByteArray) (w:World) (hT:TabW w):Calls Tryz.prog 29 #[.string s] w fun e w'=>e=.returned (.tuple #[.int .i64 (ww s.data.toList).1,.int .i64 (ww s.data.toList).2])/\O5 w w':=by
 have L:s.data.toList.length=s.size:=by rw [G8];rfl
 by_cases h20:s.size=20
 . have r:=U (
    show s.data.toList.length=20 by omega)
   have i4:4<s.size:=by omega
   have i7:7<s.size:=by omega
   have N:10<s.size:=by omega
   have P:13<s.size:=by omega
   have Q:16<s.size:=by omega
   have R:19<s.size:=by omega
   have h2:((s.size:Int) != 20)=false:=by simp;omega
   clear L;by_cases g4:s[4]=45
   . have G4:=U (
      at_eq i4 g4)
     have k4:((s[4].toNat:Int) != 45)=false:=by rw [g4];rfl
     clear g4;by_cases g7:s[7]=45
     . have G7:=U (at_eq i7 g7);have k7:((s[7].toNat:Int) != 45)=false:=by rw [g7];rfl
       clear g7;by_cases g10:s[10]=84
       . have A:=U (at_eq N g10);have a3:((s[10].toNat:Int) != 84)=false:=by rw [g10];rfl
         clear g10;by_cases g13:s[13]=58
         . have B:=U (at_eq P g13);have a4:((s[13].toNat:Int) != 58)=false:=by rw [g13];rfl
           clear g13;by_cases g16:s[16]=58
           . have C:=U (at_eq Q g16);have a5:((s[16].toNat:Int) != 58)=false:=by rw [g16];rfl
             clear g16;by_cases g19:s[19]=90
             . have D:=U (at_eq R g19);have a6:((s[19].toNat:Int) != 90)=false:=by rw [g19];rfl
               clear g19;have M:¬(s.data.toList[4]?≠some 45\/s.data.toList[7]?≠some 45\/s.data.toList[10]?≠some 84\/s.data.toList[13]?≠some 58\/s.data.toList[16]?≠some 58\/s.data.toList[19]?≠some 90):=(by rw [G4.o,G7.o,A.o,B.o,C.o,D.o];simp);have x:=iE r.o M;clear M G4 G7 A B C D;have Y:=U hT;clear hT;rw [<- show (s.extract 0 4).data.toList=s.data.toList.take 4 from ext_list s 0 4 (by omega),<- show (s.extract 5 7).data.toList=(s.data.toList.drop 5).take 2 from ext_list s 5 7 (by omega),<- show (s.extract 8 10).data.toList=(s.data.toList.drop 8).take 2 from ext_list s 8 10 (by omega),<- show (s.extract 11 13).data.toList=(s.data.toList.drop 11).take 2 from ext_list s 11 13 (by omega),<- show (s.extract 14 16).data.toList=(s.data.toList.drop 14).take 2 from ext_list s 14 16 (by omega),<- show (s.extract 17 19).data.toList=(s.data.toList.drop 17).take 2 from ext_list s 17 19 (by omega)] at x;have u:=O0 (∀a b,b<=a+4->(s.extract a b).size<=4) (fun a b h=>by simp [ByteArray.size_extract];omega);have j:=O0 (∀a b,b<=a+2->(s.extract a b).data.toList.length<=2) (fun a b h=>by rw [G8];show (s.extract a b).size<=2;simp [ByteArray.size_extract];omega);have f:=U x;clear x;have i0:4<=s.size:=by omega
               have i5:7<=s.size:=by omega
               have i8:10<=s.size:=by omega
               have c4:13<=s.size:=by omega
               have c5:16<=s.size:=by omega
               have c6:19<=s.size:=by omega
               go_enter Tryz.func29,Tryz.ntmps29;go_upto_region 5 with fail
               go_quiet ((go_at_call 64;exact Calls.quiet_of_same (pS _ _ (u.o _ _ (by decide)))))
               have b1:=iO (s.extract 0 4).data.toList (by rw [G8];exact u.o 0 4 (by decide));have b2:=wO (s.extract 5 7).data.toList (j.o 5 7 (by decide));have b3:=wO (s.extract 8 10).data.toList (j.o 8 10 (by decide));generalize zk (s.extract 0 4).data.toList 0=y at *;generalize zk (s.extract 5 7).data.toList 0=m at *;generalize zk (s.extract 8 10).data.toList 0=d at *;have E:=U (pF y m (w.drewN nq) ⟨Y.o.months,Y.o.lt⟩);have F:=O0 (∀hh mm ss,d<1->kL y m d hh mm ss=(0,3)) (fun hh mm ss h=>by unfold kL;rw [J3 (.inl h)]);have G:=O0 (∀hh mm ss,ku y m<d->kL y m d hh mm ss=(0,3)) (fun hh mm ss h=>by unfold kL;rw [J3 (.inr h)]);by_cases hd1:d<1
               . have q1:decide (d<1)=true:=by simpa using hd1
                 have c:=U (F.o (zk (s.extract 11 13).data.toList 0) (zk (s.extract 14 16).data.toList 0) (zk (s.extract 17 19).data.toList 0) hd1);clear hd1;go_wp2;go_ret2;exact ⟨by rw [f.o,c.o];rfl,Below.drewN (Z0 _ _) _⟩
               have q1:decide (d<1)=false:=by simpa using hd1
               go_wp2_with fail
               refine E.o.mono ?_;rintro e w1 ⟨rfl,J⟩;have i:=U ((Below.drewN (Z0 w.heap.size w) nq).trans J);clear J;by_cases hd2:ku y m<d
               . have q2:decide (ku y m<d)=true:=by simpa using hd2
                 have c:=U (G.o (zk (s.extract 11 13).data.toList 0) (zk (s.extract 14 16).data.toList 0) (zk (s.extract 17 19).data.toList 0) hd2);clear hd1 hd2;go_wp2;go_ret2;exact ⟨by rw [f.o,c.o];rfl,i.o⟩
               have q2:decide (ku y m<d)=false:=by simpa using hd2
               have hr:1970<=y/\y<=9999/\1<=m/\m<=12:=by
                have:¬(y<1970\/9999<y\/m<1\/12<m):=fun h=>by have:=wQ h;omega
                omega
               have K:1<=d:=by omega
               have X:=U (show ¬(d<1\/ku y m<d) by omega);clear hd1 hd2;obtain ⟨a,rfl⟩:∃a:Nat,y=a:=⟨y.toNat,by omega⟩;obtain ⟨b,rfl⟩:∃b:Nat,m=b:=⟨m.toNat,by omega⟩;have p:=U (And.intro hr K);have T:=U b3;clear F G E hr K b1 b2 b3;go_upto_region 8 with fail
               go_quiet ((go_at_call 64;exact Calls.quiet_of_same (pS _ _ (u.o _ _ (by decide)))))
               have b4:=wO (s.extract 11 13).data.toList (j.o 11 13 (by decide));have b5:=wO (s.extract 14 16).data.toList (j.o 14 16 (by decide));have b6:=wO (s.extract 17 19).data.toList (j.o 17 19 (by decide));generalize zk (s.extract 11 13).data.toList 0=hh at *;generalize zk (s.extract 14 16).data.toList 0=mm at *;generalize zk (s.extract 17 19).data.toList 0=ss at *;have k:=U (show kL a b d hh mm ss=if hh<0\/23<hh\/mm<0\/59<mm\/ss<0\/59<ss then (0,3) else (((zj a:Int)+beforeN (b - 1)+d - 1+(if 2<(b:Int)/\yl a=true then 1 else 0)) * 86400+(hh * 3600+mm * 60+ss),0) by unfold kL;rw [Z6 (by have h:=X.o;omega)];rfl);have a7:=U (And.intro b4 (And.intro b5 b6));clear b4 b5 b6;go_wp2_with fail;refine (pP hh 23 _).mono ?_;rintro e w' ⟨rfl,v⟩;subst v;by_cases H:0<=hh/\hh<=23
               . rw [show (decide (0<=hh) && decide (hh<=23))=true by simp [H]];have C1:=U H;clear H;go_wp2_with fail;refine (pP mm 59 _).mono ?_;rintro e w' ⟨rfl,v⟩;subst v;by_cases I:0<=mm/\mm<=59
                 . rw [show (decide (0<=mm) && decide (mm<=59))=true by simp [I]];have C2:=U I;clear I;go_wp2_with fail;refine (pP ss 59 _).mono ?_;rintro e w' ⟨rfl,v⟩;subst v;by_cases c3:0<=ss/\ss<=59
                   . rw [show (decide (0<=ss) && decide (ss<=59))=true by simp [c3]];have c:=U (show kL a b d hh mm ss=(((zj a:Int)+beforeN (b - 1)+d - 1+(if 2<(b:Int)/\yl a=true then 1 else 0)) * 86400+(hh * 3600+mm * 60+ss),0) by rw [k.o,Z6 (by have:=C1.o;have:=C2.o;omega)]);have H:=C1.o;have I:=C2.o;obtain ⟨S,z⟩:=O1 (w1.drewN nq);have o:=O0 (O5 w S) (by rw [z];exact Below.drewN i.o _);have a0:=U z;clear z;have Z:=U (Y.o.below o.o);have q1:S.cell? ⟨0,b - 1,none⟩=some (.int .i64 (beforeN (b - 1))):=Z.o.months (b - 1) (by have:=p.o;omega);have b7:=aH a (by have:=p.o;omega);have hu:=(uh ⟨b,by have:=p.o;omega⟩ (by show 1<=b;have:=p.o;omega));have c0:(beforeN (b - 1):Int)<=365:=by have h1:=hu.1;have h2:=hu.2;simp only at h1 h2;omega
                     have a8:=U (fun w':World=>yq a w' (by have:=p.o;omega) (by have:=p.o;omega));have V:=U (fun w':World=>cP a w' (by have:=p.o;omega));have b0:=p.o;have a9:=T.o;clear hu k;have a1:1970<=a:=by omega
                     have a2:a<=10000:=by omega
                     go_upto_region 11 with fail
                     rw [<- a0.o];go_quiet ((go_at_call 67;exact Calls.quiet_of_same (yq a _ a1 a2)));generalize zj a=sa at *;generalize beforeN (b - 1)=bb at *;by_cases hm2:2<(b:Int)
                     . have q2:decide (2<(b:Int))=true:=by simpa using hm2
                       have W:=U hm2;clear hm2;go_wp2_with fail;refine (V.o _).mono ?_;rintro e w' ⟨rfl,v⟩;subst v;cases hl:yl a
                       . have c:=U (show kL a b d hh mm ss=(((sa:Int)+bb+d - 1) * 86400+(hh * 3600+mm * 60+ss),0) by rw [c.o,Z6 (by simp [hl])];simp);go_wp2;go_ret2;exact ⟨by rw [f.o,c.o] <;> rfl,Below.drewN o.o _⟩
                       . have c:=U (show kL a b d hh mm ss=(((sa:Int)+bb+d) * 86400+(hh * 3600+mm * 60+ss),0) by rw [c.o,J3 ⟨W.o,hl⟩,show (sa:Int)+bb+d - 1+1=sa+bb+d by omega]);go_wp2;go_ret2;exact ⟨by rw [f.o,c.o] <;> rfl,Below.drewN o.o _⟩
                     . have q2:decide (2<(b:Int))=false:=by simpa using hm2
                       have c:=U (show kL a b d hh mm ss=(((sa:Int)+bb+d - 1) * 86400+(hh * 3600+mm * 60+ss),0) by rw [c.o,Z6 (by omega)];simp);clear hm2;go_wp2;go_ret2;exact ⟨by rw [f.o,c.o] <;> rfl,Below.drewN o.o _⟩
                   . have q:(decide (0<=ss) && decide (ss<=59))=false:=by
                      rw [Bool.and_eq_false_iff];simp only [Y7];omega
                     rw [q];have c:=U (show kL a b d hh mm ss=(0,3) by rw [k.o,J3 (by omega)]);clear c3 q;go_wp2;go_ret2;exact ⟨by rw [f.o,c.o];rfl,Below.drewN i.o _⟩
                 . have q:(decide (0<=mm) && decide (mm<=59))=false:=by
                    rw [Bool.and_eq_false_iff];simp only [Y7];omega
                   rw [q];have c:=U (show kL a b d hh mm ss=(0,3) by rw [k.o,J3 (by omega)]);clear I q;go_wp2;go_ret2;exact ⟨by rw [f.o,c.o];rfl,Below.drewN i.o _⟩
               . have q:(decide (0<=hh) && decide (hh<=23))=false:=by
                  rw [Bool.and_eq_false_iff];simp only [Y7];omega
                 rw [q];have c:=U (show kL a b d hh mm ss=(0,3) by rw [k.o,J3 (by omega)]);clear H q;go_wp2;go_ret2;exact ⟨by rw [f.o,c.o];rfl,Below.drewN i.o _⟩
             . have g:=U (ky r.o (.inr (.inr (.inr (.inr (.inr ((my R g19))))))));have a6:((s[19].toNat:Int) != 90)=true:=by
                have:s[19].toNat≠90:=fun e=>g19 (zb5.1 e);simp;omega
               clear g19;go_enter Tryz.func29,Tryz.ntmps29;go_wp2;go_ret2;exact ⟨by rw [g.o];rfl,Z0 _ _⟩
           . have g:=U (ky r.o (.inr (.inr (.inr (.inr (.inl (my Q g16)))))));have a5:((s[16].toNat:Int) != 58)=true:=by
              have:s[16].toNat≠58:=fun e=>g16 (zb5.1 e);simp;omega
             clear g16;go_enter Tryz.func29,Tryz.ntmps29;go_wp2;go_ret2;exact ⟨by rw [g.o];rfl,Z0 _ _⟩
         . have g:=U (ky r.o (.inr (.inr (.inr (.inl (my P g13))))));have a4:((s[13].toNat:Int) != 58)=true:=by
            have:s[13].toNat≠58:=fun e=>g13 (zb5.1 e);simp;omega
           clear g13;go_enter Tryz.func29,Tryz.ntmps29;go_wp2;go_ret2;exact ⟨by rw [g.o];rfl,Z0 _ _⟩
       . have g:=U (ky r.o (.inr (.inr (.inl (my N g10)))));have a3:((s[10].toNat:Int) != 84)=true:=by
          have:s[10].toNat≠84:=fun e=>g10 (zb5.1 e);simp;omega
         clear g10;go_enter Tryz.func29,Tryz.ntmps29;go_wp2;go_ret2;exact ⟨by rw [g.o];rfl,Z0 _ _⟩
     . have g:=U (ky r.o (.inr (.inl (my i7 g7))));have k7:((s[7].toNat:Int) != 45)=true:=by
        have:s[7].toNat≠45:=fun e=>g7 (zb5.1 e);simp;omega
       clear g7;go_enter Tryz.func29,Tryz.ntmps29;go_wp2;go_ret2;exact ⟨by rw [g.o];rfl,Z0 _ _⟩
   . have g:=U (ky r.o (.inl (my i4 g4)));have k4:((s[4].toNat:Int) != 45)=true:=by
      have:s[4].toNat≠45:=fun e=>g4 (zb5.1 e);simp;omega
     clear g4;go_enter Tryz.func29,Tryz.ntmps29;go_wp2;go_ret2;exact ⟨by rw [g.o];rfl,Z0 _ _⟩
 . have g:=U (aU (l:=s.data.toList) (by omega));have h2:((s.size:Int) != 20)=true:=by simp;omega
   go_enter Tryz.func29,Tryz.ntmps29;go_wp2;go_ret2;exact ⟨by rw [g.o];rfl,Z0 _ _⟩
