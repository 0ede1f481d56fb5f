import Derived.Test.YthgembbgcbaghaaGreatDoorDn10
set_option maxHeartbeats 1000000

namespace Go.Proofs.YthgembbgcbaghaaGreatDoor
open Go.RowKit
def qW (s:ByteArray):Bool:=decide (s.size<=4096) && wD s
def qK:List ByteArray->Bool
 | a :: b :: r=>Op.bytesLess a.toList b.toList && qK (b :: r)
 | _=>true
theorem ko:∀(l:List ByteArray) (k:Nat) (_:1<=k) (h:k<l.length),qK (l.take (k+1))=(qK (l.take k) && Op.bytesLess l[k-1].toList l[k].toList)
 | [],k,_,h=>by simp at h
 | [a],k,h1,h=>by simp at h;omega
 | a :: b :: r,1,_,_=>by simp [qK]
 | a :: b :: r,k+2,_,h=>by have:=ko (b :: r) (k+1) (by omega) (by simpa using h);simp only [K7,qK] at this ⊢;rw [this,Bool.and_assoc];rfl
theorem yo (l:List ByteArray) (k:Nat) (b:1<=k) (h:k<l.length) (c:Op.bytesLess l[k-1].toList l[k].toList=false):qK l=false:=by
 have a:∀(m:Nat),k+1<=m->m<=l.length->qK (l.take m)=false:=by
  intro m hm hm'
  induction m with
  | zero=>omega
  | succ m ih =>
   by_cases e:m=k
   . subst e;rw [ko l m b h,c,Bool.and_false]
   . rw [ko l m (by omega) (by omega),ih (by omega) (by omega),K9]
 have:=a l.length (by omega) lz;rwa [List.take_length] at this
theorem kU (s:ByteArray) (w:World) (d:s.size<=9223372036854775807) :
 Calls Tryz.prog 226 #[.string s] w fun e w'=>e=.returned (.bool (qW s))/\O5 w w':=by
 by_cases h:s.size<=4096
 . have a:=U (show qW s=wD s by unfold qW;rw [Q9 h];rfl);go_enter Tryz.func226,Tryz.ntmps226;go_wp2_with (go_at_call 86;refine (gT s _ d).mono ?_;rintro e w' ⟨rfl,b⟩;have c:=U b;clear b);go_ret;exact ⟨by rw [a.o];rfl,c.o⟩
 . have a:=U (show qW s=false by unfold qW;rw [Q8 h];rfl);go_enter Tryz.func226,Tryz.ntmps226;go_wp2;go_ret;exact ⟨by rw [a.o];rfl,Z0 _ _⟩
theorem jF (K:List ByteArray) (an:Option Addr) (cn:Nat) (w:World) (h:qy w 0 w.heap.size an K) (L:K.length<=4294967296) :
 Calls Tryz.prog 104 #[.slice an K.length cn] w fun e w'=>e=.returned (.bool (qK K))/\O5 w w':=by
 have q:=U h;clear h;go_enter Tryz.func104,Tryz.ntmps104;go_wp2;go_loopw [3] (fun i wr=>∃k:Nat,1<=k/\(k<=K.length\/k=1)/\i=.int .i64 k/\qK (K.take k)=true/\O5 w wr) (fun i _=>K.length - (intOf i).toNat)
 case atStart=>exact ⟨1,by omega,.inr rfl,rfl,by cases K <;> rfl,Z0 _ _⟩
 case round =>
  obtain ⟨k,d,C,rfl,j,a⟩:=hrel;by_cases hlt:k<K.length
  . obtain ⟨b,p,rfl,_,D,B⟩:=(q.o.below a lz lz a.size).at k hlt;obtain ⟨z,f,c,_,_,A⟩:=(q.o.below a lz lz a.size).at (k - 1) (by omega);obtain ⟨rfl,rfl⟩:b=z/\p=f:=by simpa using c
    have g:=U a;have v:=U j;have l:=U (ko K k d hlt);have o:=U (yo K k d hlt);clear a j c;obtain ⟨x,r⟩:=O1 (K[k-1]);obtain ⟨y,s⟩:=O1 (K[k]);rw [<- r] at A l o;rw [<- s] at B l o;clear r s;have E:IntKind.i64.wrap ((k:Int) - 1)=(k:Int) - 1:=G0 _ (by omega);have F:0<=(k:Int) - 1:=by omega
    have G:1<=(k:Int):=by omega
    have H:(k:Int) - 1<(K.length:Int):=by omega
    have I:(k:Int)<(K.length:Int):=by omega
    have J:((k:Int) - 1).toNat=k - 1:=by omega
    cases hlss:Op.bytesLess x.toList y.toList
    . have m:=U (o.o hlss);go_wp2_with fail;go_quiet (fail)
      go_wp2;go_ret;exact ⟨by rw [m.o];rfl,Below.drewN g.o _⟩
    . have u:=U hlss;go_wp2_with fail;go_quiet (fail)
      go_wp2;go_roundw
      case rel=>exact ⟨k+1,by omega,by omega,by go_num,by rw [l.o,v.o,u.o];rfl,Below.drewN g.o _⟩
      case measure=>simp [intOf];omega
  . have g:=U a;have m:=U (show qK K=true by
     have:K.take k=K:=Q4 (by omega);rwa [this] at j)
    clear j a;go_wp2;go_ret;exact ⟨by rw [m.o];rfl,g.o⟩
def qP (k n:Int) (t:ByteArray) (ns:List ByteArray) (li:Nat):Bool :=
 if k=1 then decide (t.toList=[]/\ns.length=0/\li=0/\(n=0\/n=1))
 else if k=2 then decide (t.toList=[]/\ns.length=0/\li=0)
 else if k=3 then decide (n=0/\ns.length=0/\li=0) && qW t
 else if k=4 then decide (n=0/\t.toList=[]/\ns.length=0)
 else if k=5 then decide (n=0/\t.toList=[]/\ns.length=li) && qK ns && ns.all qW
 else false
theorem uc (l:List UInt8):l.isEmpty=decide (l=[]):=by cases l <;> simp
theorem ud (k n:Int) (t:ByteArray) (X:List ByteArray) (an ai:Option Addr) (cn Y Z ci:Nat) (w:World) (h:qy w 0 w.heap.size an X) (a0:X.length=Y) (ht:t.size<=4294967296) (hn:Y<=4294967296) (hb:ql X<=4294967296) (a3:Z<=4294967296) :
 Calls Tryz.prog 175 #[.agg #[.int .u8 k,.int .i64 n,.string t,.slice an Y cn,.slice ai Z ci]] w fun e w'=>e=.returned (.bool (qP k n t X Z))/\O5 w w':=by
 have D:=U h;clear h;have f:=U a0;clear a0;by_cases hk1:k=1
 . subst hk1;have l:=U (show qP 1 n t X Z=decide (t.toList=[]/\Y=0/\Z=0/\(n=0\/n=1)) by rw [<- f.o];rfl);go_enter G2,K2;go_wp2
   all_goals go_ret
   all_goals refine ⟨qx ?_,O4⟩
   all_goals rw [l.o]
   all_goals (first|(simp_all;done)|(rw [M7];simp_all;done)|(simp_all;omega))
 by_cases hk2:k=2
 . subst hk2;have l:=U (show qP 2 n t X Z=decide (t.toList=[]/\Y=0/\Z=0) by rw [<- f.o];rfl);clear hk1;go_enter G2,K2;go_wp2
   all_goals go_ret
   all_goals refine ⟨qx ?_,O4⟩
   all_goals rw [l.o]
   all_goals (first|(simp_all;done)|(rw [M7];simp_all;done)|(simp_all;omega))
 by_cases hk4:k=4
 . subst hk4;have l:=U (show qP 4 n t X Z=decide (n=0/\t.toList=[]/\Y=0) by rw [<- f.o];rfl);clear hk1 hk2;go_enter G2,K2;go_wp2
   all_goals go_ret
   all_goals refine ⟨qx ?_,O4⟩
   all_goals rw [l.o]
   all_goals (first|(simp_all;done)|(rw [M7];simp_all;done)|(simp_all;omega))
 by_cases hk3:k=3
 . subst hk3;have l:=U (show qP 3 n t X Z=(decide (n=0/\Y=0/\Z=0) && qW t) by rw [<- f.o];rfl);clear hk1 hk2 hk4;by_cases hg:n=0/\Y=0/\Z=0
   . obtain ⟨rfl,rfl,rfl⟩:=hg;have q:=U (show qP 3 0 t X 0=qW t by rw [l.o];simp);go_enter G2,K2;go_wp2_with (go_at_call 226;refine (kU t _ (by omega)).mono ?_;rintro e w' ⟨rfl,g⟩;have u:=U g;clear g);go_ret;exact ⟨by rw [q.o];rfl,(O4).trans (u.o.mono (by simp))⟩
   . have q:=U (show qP 3 n t X Z=false by rw [l.o,Q8 hg];rfl);have y:n=0->Y=0->0<Z:=fun a b=>by rcases G3 Z with c|c;exact absurd ⟨a,b,c⟩ hg;exact c
     clear hg l;by_cases a1:n=0
     . subst a1;by_cases a2:Y=0
       . subst a2;have H:=y rfl rfl;clear y;go_enter G2,K2;go_wp2;go_ret;exact ⟨by rw [q.o];rfl,O4⟩
       . have H:0<Y:=by omega
         clear y a2;go_enter G2,K2;go_wp2;go_ret;exact ⟨by rw [q.o];rfl,O4⟩
     . clear y;go_enter G2,K2;go_wp2;go_ret;exact ⟨by rw [q.o];rfl,O4⟩
 by_cases hk5:k=5
 . subst hk5;have l:=U (show qP 5 n t X Z=(decide (n=0/\t.toList=[]/\Y=Z) && qK X && X.all qW) by rw [<- f.o];rfl);clear hk1 hk2 hk4 hk3;by_cases hg:n=0/\t.toList=[]/\Y=Z
   . obtain ⟨rfl,N,rfl⟩:=hg;have q:=U (show qP 5 0 t X Y=(qK X && X.all qW) by rw [l.o];simp [N]);clear l;cases hr:qK X
     . have v:=U (show qP 5 0 t X Y=false by rw [q.o,hr];rfl);have s:=U hr;clear hr;go_enter G2,K2;go_wp2_with fail;have m:=jF X an cn _ (D.o.below ((Z0 _ _).alloc lz (.cells #[.int .u8 5,.int .i64 0,.string t,.slice an Y cn,.slice ai Y ci] 25)) lz lz (by simp)) (by rw [f.o];exact hn);rw [f.o,s.o] at m;refine m.mono ?_;rintro e A ⟨rfl,p⟩;clear m;have u:Hid (O5 w A):=(O4).trans (p.mono (by simp));clear p;go_wp2;go_ret;exact ⟨qx v.o.symm,u.o⟩
     . have v:=U (show qP 5 0 t X Y=X.all qW by rw [q.o,hr];rfl);have s:=U hr;clear hr;go_enter G2,K2;go_wp2_with fail;have m:=jF X an cn _ (D.o.below ((Z0 _ _).alloc lz (.cells #[.int .u8 5,.int .i64 0,.string t,.slice an Y cn,.slice ai Y ci] 25)) lz lz (by simp)) (by rw [f.o];exact hn);rw [f.o,s.o] at m;refine m.mono ?_;rintro e A ⟨rfl,p⟩;clear m;have u:Hid (O5 w A):=(O4).trans (p.mono (by simp));have K:A.cell? ⟨w.heap.size,3,none⟩=some (.slice an Y cn):=by rw [p.cell (by simp)];go_simp
       clear p;go_wp2;clear K;go_loopw [4,91] (fun _ i wr=>∃j:Nat,j<=Y/\i=.int .i64 j/\(X.take j).all qW=true/\O5 w wr) (fun _ i _=>Y - (intOf i).toNat)
       case atStart=>exact ⟨0,by omega,rfl,by simp,u.o⟩
       case round =>
        obtain ⟨j,W,rfl,z,d⟩:=hrel;by_cases hlt:j<Y
        . obtain ⟨b,M,rfl,_,L,J⟩:=(D.o.below d lz lz d.size).at j (by rw [f.o];exact hlt);have E:=kP X j (by rw [f.o];exact hlt);have F:=U (show (X.take (j+1)).all qW=((X.take j).all qW && qW (X[j]'(by rw [f.o];exact hlt))) by
           rw [Z8 (by rw [f.o];exact hlt),List.all_append];simp)
          have G:=U (show qW (X[j]'(by rw [f.o];exact hlt))=false->X.all qW=false by
           intro hf;rw [N9];exact ⟨X[j]'(by rw [f.o];exact hlt),J1 _,by simp [hf]⟩)
          generalize X[j]'(by rw [f.o];exact hlt)=x at J E F G;have B:=U z;have o:=U d;clear z d;cases hx:qW x
          . have C:=U (G.o hx);go_wp2_with (go_at_call 226;refine (kU x _ (by omega)).mono ?_;rintro e w' ⟨rfl,g⟩;have r:=U g;clear g);go_ret;exact ⟨qx (by rw [v.o,C.o]),o.o.trans (r.o.mono o.o.size)⟩
          . have I:=U hx;go_wp2_with (go_at_call 226;refine (kU x _ (by omega)).mono ?_;rintro e w' ⟨rfl,g⟩;have r:=U g;clear g);go_roundw
            case rel=>exact ⟨j+1,by omega,by go_num,by rw [F.o,B.o,I.o];rfl,o.o.trans (r.o.mono o.o.size)⟩
            case measure=>simp [intOf];omega
        . have C:=U (show X.all qW=true by
           rwa [Q4 (by rw [f.o];omega)] at z)
          have o:=U d;clear z d;go_wp2;go_ret;exact ⟨qx (by rw [v.o,C.o]),o.o⟩
   . have q:=U (show qP 5 n t X Z=false by rw [l.o,Q8 hg];rfl);clear l;by_cases a1:n=0
     . subst a1;by_cases a2:t.toList=[]
       . have P:¬(Y:Int)=(Z:Int):=fun e=>hg ⟨rfl,a2,by omega⟩;clear hg;go_enter G2,K2;go_wp2_with fail
         all_goals first|(exfalso;omega)|(go_ret;exact ⟨qx (by rw [q.o]),O4⟩)
       . have H:t.toList.isEmpty=false:=by rw [uc];simp [a2]
         clear hg;go_enter G2,K2;go_wp2;go_ret;exact ⟨qx (by rw [q.o]),O4⟩
     . clear hg;go_enter G2,K2;go_wp2;go_ret;exact ⟨qx (by rw [q.o]),O4⟩
 . have l:=U (show qP k n t X Z=false by unfold qP;rw [Z6 hk1,Z6 hk2,Z6 hk3,Z6 hk4,Z6 hk5]);have Q:(k == 1)=false:=by simp [hk1]
   have R:(k == 2)=false:=by simp [hk2]
   have S:(k == 3)=false:=by simp [hk3]
   have T:(k == 4)=false:=by simp [hk4]
   have V:(k == 5)=false:=by simp [hk5]
   go_enter G2,K2;go_wp2
   all_goals go_ret
   all_goals exact ⟨qx l.o.symm,O4⟩
