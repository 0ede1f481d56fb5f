import Derived.Test.YthgembbgcbaghaaGreatDoorDg10
set_option maxHeartbeats 1000000

namespace Go.Proofs.YthgembbgcbaghaaGreatDoor
open Go.RowKit
def qe (s:ByteArray):Bool:=decide (s.size<=4096) && vF s
def qo:List ByteArray->Bool
 | a :: b :: r=>Op.bytesLess a.toList b.toList && qo (b :: r)
 | _=>true
theorem jH:∀(l:List ByteArray) (k:Nat) (_:1<=k) (h:k<l.length),qo (l.take (k+1))=(qo (l.take k) && Op.bytesLess l[k-1].toList l[k].toList)
 | [],k,_,h=>by simp at h
 | [a],k,h1,h=>by simp at h;omega
 | a :: b :: r,1,_,_=>by simp [qo]
 | a :: b :: r,k+2,_,h=>by have:=jH (b :: r) (k+1) (by omega) (by simpa using h);simp only [G7,qo] at this ⊢;rw [this,Bool.and_assoc];rfl
theorem yq (l:List ByteArray) (k:Nat) (b:1<=k) (h:k<l.length) (c:Op.bytesLess l[k-1].toList l[k].toList=false):qo l=false:=by
 have a:∀(m:Nat),k+1<=m->m<=l.length->qo (l.take m)=false:=by
  intro m hm hm'
  induction m with
  | zero=>omega
  | succ m ih =>
   by_cases e:m=k
   . subst e;rw [jH l m b h,c,N1]
   . rw [jH l m (by omega) (by omega),ih (by omega) (by omega),V8]
 have:=a l.length (by omega) lz;rwa [zd5] at this
theorem vH (s:ByteArray) (w:World) (d:s.size<=9223372036854775807) :
 Calls Tryz.prog 226 #[.string s] w fun e w'=>e=.returned (.bool (qe s))/\O5 w w':=by
 by_cases h:s.size<=4096
 . have a:=U (show qe s=vF s by unfold qe;rw [X0 h];rfl);go_enter Tryz.func226,Tryz.ntmps226;go_wp2_with (go_at_call 86;refine (fl s _ d).mono ?_;rintro e w' ⟨rfl,b⟩;have c:=U b;clear b);go_ret;exact ⟨by rw [a.o];rfl,c.o⟩
 . have a:=U (show qe s=false by unfold qe;rw [J5 h];rfl);go_enter Tryz.func226,Tryz.ntmps226;go_wp2;go_ret;exact ⟨by rw [a.o];rfl,J0 _ _⟩
theorem kG (K:List ByteArray) (an:Option Addr) (cn:Nat) (w:World) (h:qv w 0 w.heap.size an K) (L:K.length<=4294967296) :
 Calls Tryz.prog 104 #[.slice an K.length cn] w fun e w'=>e=.returned (.bool (qo K))/\O5 w w':=by
 have q:=U h;clear h;go_enter Tryz.func104,Tryz.ntmps104;go_wp2;go_loopw [3] (fun i wr=>∃k:Nat,1<=k/\(k<=K.length\/k=1)/\i=.int .i64 k/\qo (K.take k)=true/\O5 w wr) (fun i _=>K.length - (intOf i).toNat)
 case atStart=>exact ⟨1,by omega,.inr rfl,rfl,by cases K <;> rfl,J0 _ _⟩
 case round =>
  obtain ⟨k,d,C,rfl,j,a⟩:=hrel;by_cases hlt:k<K.length
  . obtain ⟨b,p,rfl,_,D,B⟩:=(q.o.below a lz lz a.size).at k hlt;obtain ⟨z,f,c,_,_,A⟩:=(q.o.below a lz lz a.size).at (k - 1) (by omega);obtain ⟨rfl,rfl⟩:b=z/\p=f:=by simpa using c
    have g:=U a;have v:=U j;have l:=U (jH K k d hlt);have o:=U (yq K k d hlt);clear a j c;obtain ⟨x,r⟩:=O1 (K[k-1]);obtain ⟨y,s⟩:=O1 (K[k]);rw [<- r] at A l o;rw [<- s] at B l o;clear r s;have E:IntKind.i64.wrap ((k:Int) - 1)=(k:Int) - 1:=V0 _ (by omega);have F:0<=(k:Int) - 1:=by omega
    have G:1<=(k:Int):=by omega
    have H:(k:Int) - 1<(K.length:Int):=by omega
    have I:(k:Int)<(K.length:Int):=by omega
    have J:((k:Int) - 1).toNat=k - 1:=by omega
    cases hlss:Op.bytesLess x.toList y.toList
    . have m:=U (o.o hlss);go_wp2_with fail;go_quiet (fail)
      go_wp2;go_ret;exact ⟨by rw [m.o];rfl,Below.drewN g.o _⟩
    . have u:=U hlss;go_wp2_with fail;go_quiet (fail)
      go_wp2;go_roundw
      case rel=>exact ⟨k+1,by omega,by omega,by go_num,by rw [l.o,v.o,u.o];rfl,Below.drewN g.o _⟩
      case measure=>simp [intOf];omega
  . have g:=U a;have m:=U (show qo K=true by
     have:K.take k=K:=X2 (by omega);rwa [this] at j)
    clear j a;go_wp2;go_ret;exact ⟨by rw [m.o];rfl,g.o⟩
def qJ (k n:Int) (t:ByteArray) (ns:List ByteArray) (li:Nat):Bool :=
 if k=1 then decide (t.toList=[]/\ns.length=0/\li=0/\(n=0\/n=1))
 else if k=2 then decide (t.toList=[]/\ns.length=0/\li=0)
 else if k=3 then decide (n=0/\ns.length=0/\li=0) && qe t
 else if k=4 then decide (n=0/\t.toList=[]/\ns.length=0)
 else if k=5 then decide (n=0/\t.toList=[]/\ns.length=li) && qo ns && ns.all qe
 else false
theorem bA (l:List UInt8):l.isEmpty=decide (l=[]):=by cases l <;> simp
theorem dK (k n:Int) (t:ByteArray) (X:List ByteArray) (an ai:Option Addr) (cn Y Z ci:Nat) (w:World) (h:qv w 0 w.heap.size an X) (a0:X.length=Y) (ht:t.size<=4294967296) (hn:Y<=4294967296) (hb:qt X<=4294967296) (a3:Z<=4294967296) :
 Calls Tryz.prog 175 #[.agg #[.int .u8 k,.int .i64 n,.string t,.slice an Y cn,.slice ai Z ci]] w fun e w'=>e=.returned (.bool (qJ k n t X Z))/\O5 w w':=by
 have D:=U h;clear h;have f:=U a0;clear a0;by_cases hk1:k=1
 . subst hk1;have l:=U (show qJ 1 n t X Z=decide (t.toList=[]/\Y=0/\Z=0/\(n=0\/n=1)) by rw [<- f.o];rfl);go_enter zb7,za6;go_wp2
   all_goals go_ret
   all_goals refine ⟨qz ?_,O4⟩
   all_goals rw [l.o]
   all_goals (first|(simp_all;done)|(rw [za4];simp_all;done)|(simp_all;omega))
 by_cases hk2:k=2
 . subst hk2;have l:=U (show qJ 2 n t X Z=decide (t.toList=[]/\Y=0/\Z=0) by rw [<- f.o];rfl);clear hk1;go_enter zb7,za6;go_wp2
   all_goals go_ret
   all_goals refine ⟨qz ?_,O4⟩
   all_goals rw [l.o]
   all_goals (first|(simp_all;done)|(rw [za4];simp_all;done)|(simp_all;omega))
 by_cases hk4:k=4
 . subst hk4;have l:=U (show qJ 4 n t X Z=decide (n=0/\t.toList=[]/\Y=0) by rw [<- f.o];rfl);clear hk1 hk2;go_enter zb7,za6;go_wp2
   all_goals go_ret
   all_goals refine ⟨qz ?_,O4⟩
   all_goals rw [l.o]
   all_goals (first|(simp_all;done)|(rw [za4];simp_all;done)|(simp_all;omega))
 by_cases hk3:k=3
 . subst hk3;have l:=U (show qJ 3 n t X Z=(decide (n=0/\Y=0/\Z=0) && qe t) by rw [<- f.o];rfl);clear hk1 hk2 hk4;by_cases hg:n=0/\Y=0/\Z=0
   . obtain ⟨rfl,rfl,rfl⟩:=hg;have q:=U (show qJ 3 0 t X 0=qe t by rw [l.o];simp);go_enter zb7,za6;go_wp2_with (go_at_call 226;refine (vH t _ (by omega)).mono ?_;rintro e w' ⟨rfl,g⟩;have u:=U g;clear g);go_ret;exact ⟨by rw [q.o];rfl,(O4).trans (u.o.mono (by simp))⟩
   . have q:=U (show qJ 3 n t X Z=false by rw [l.o,J5 hg];rfl);have y:n=0->Y=0->0<Z:=fun a b=>by rcases za0 Z with c|c;exact absurd ⟨a,b,c⟩ hg;exact c
     clear hg l;by_cases a1:n=0
     . subst a1;by_cases a2:Y=0
       . subst a2;have H:=y rfl rfl;clear y;go_enter zb7,za6;go_wp2;go_ret;exact ⟨by rw [q.o];rfl,O4⟩
       . have H:0<Y:=by omega
         clear y a2;go_enter zb7,za6;go_wp2;go_ret;exact ⟨by rw [q.o];rfl,O4⟩
     . clear y;go_enter zb7,za6;go_wp2;go_ret;exact ⟨by rw [q.o];rfl,O4⟩
 by_cases hk5:k=5
 . subst hk5;have l:=U (show qJ 5 n t X Z=(decide (n=0/\t.toList=[]/\Y=Z) && qo X && X.all qe) by rw [<- f.o];rfl);clear hk1 hk2 hk4 hk3;by_cases hg:n=0/\t.toList=[]/\Y=Z
   . obtain ⟨rfl,N,rfl⟩:=hg;have q:=U (show qJ 5 0 t X Y=(qo X && X.all qe) by rw [l.o];simp [N]);clear l;cases hr:qo X
     . have v:=U (show qJ 5 0 t X Y=false by rw [q.o,hr];rfl);have s:=U hr;clear hr;go_enter zb7,za6;go_wp2_with fail;have m:=kG X an cn _ (D.o.below ((J0 _ _).alloc lz (.cells #[.int .u8 5,.int .i64 0,.string t,.slice an Y cn,.slice ai Y ci] 25)) lz lz (by simp)) (by rw [f.o];exact hn);rw [f.o,s.o] at m;refine m.mono ?_;rintro e A ⟨rfl,p⟩;clear m;have u:Hid (O5 w A):=(O4).trans (p.mono (by simp));clear p;go_wp2;go_ret;exact ⟨qz v.o.symm,u.o⟩
     . have v:=U (show qJ 5 0 t X Y=X.all qe by rw [q.o,hr];rfl);have s:=U hr;clear hr;go_enter zb7,za6;go_wp2_with fail;have m:=kG X an cn _ (D.o.below ((J0 _ _).alloc lz (.cells #[.int .u8 5,.int .i64 0,.string t,.slice an Y cn,.slice ai Y ci] 25)) lz lz (by simp)) (by rw [f.o];exact hn);rw [f.o,s.o] at m;refine m.mono ?_;rintro e A ⟨rfl,p⟩;clear m;have u:Hid (O5 w A):=(O4).trans (p.mono (by simp));have K:A.cell? ⟨w.heap.size,3,none⟩=some (.slice an Y cn):=by rw [p.cell (by simp)];go_simp
       clear p;go_wp2;clear K;go_loopw [4,91] (fun _ i wr=>∃j:Nat,j<=Y/\i=.int .i64 j/\(X.take j).all qe=true/\O5 w wr) (fun _ i _=>Y - (intOf i).toNat)
       case atStart=>exact ⟨0,by omega,rfl,by simp,u.o⟩
       case round =>
        obtain ⟨j,W,rfl,z,d⟩:=hrel;by_cases hlt:j<Y
        . obtain ⟨b,M,rfl,_,L,J⟩:=(D.o.below d lz lz d.size).at j (by rw [f.o];exact hlt);have E:=kn X j (by rw [f.o];exact hlt);have F:=U (show (X.take (j+1)).all qe=((X.take j).all qe && qe (X[j]'(by rw [f.o];exact hlt))) by
           rw [J7 (by rw [f.o];exact hlt),List.all_append];simp)
          have G:=U (show qe (X[j]'(by rw [f.o];exact hlt))=false->X.all qe=false by
           intro hf;rw [zc6];exact ⟨X[j]'(by rw [f.o];exact hlt),X6 _,by simp [hf]⟩)
          generalize X[j]'(by rw [f.o];exact hlt)=x at J E F G;have B:=U z;have o:=U d;clear z d;cases hx:qe x
          . have C:=U (G.o hx);go_wp2_with (go_at_call 226;refine (vH x _ (by omega)).mono ?_;rintro e w' ⟨rfl,g⟩;have r:=U g;clear g);go_ret;exact ⟨qz (by rw [v.o,C.o]),o.o.trans (r.o.mono o.o.size)⟩
          . have I:=U hx;go_wp2_with (go_at_call 226;refine (vH x _ (by omega)).mono ?_;rintro e w' ⟨rfl,g⟩;have r:=U g;clear g);go_roundw
            case rel=>exact ⟨j+1,by omega,by go_num,by rw [F.o,B.o,I.o];rfl,o.o.trans (r.o.mono o.o.size)⟩
            case measure=>simp [intOf];omega
        . have C:=U (show X.all qe=true by
           rwa [X2 (by rw [f.o];omega)] at z)
          have o:=U d;clear z d;go_wp2;go_ret;exact ⟨qz (by rw [v.o,C.o]),o.o⟩
   . have q:=U (show qJ 5 n t X Z=false by rw [l.o,J5 hg];rfl);clear l;by_cases a1:n=0
     . subst a1;by_cases a2:t.toList=[]
       . have P:¬(Y:Int)=(Z:Int):=fun e=>hg ⟨rfl,a2,by omega⟩;clear hg;go_enter zb7,za6;go_wp2_with fail
         all_goals first|(exfalso;omega)|(go_ret;exact ⟨qz (by rw [q.o]),O4⟩)
       . have H:t.toList.isEmpty=false:=by rw [bA];simp [a2]
         clear hg;go_enter zb7,za6;go_wp2;go_ret;exact ⟨qz (by rw [q.o]),O4⟩
     . clear hg;go_enter zb7,za6;go_wp2;go_ret;exact ⟨qz (by rw [q.o]),O4⟩
 . have l:=U (show qJ k n t X Z=false by unfold qJ;rw [J3 hk1,J3 hk2,J3 hk3,J3 hk4,J3 hk5]);have Q:(k == 1)=false:=by simp [hk1]
   have R:(k == 2)=false:=by simp [hk2]
   have S:(k == 3)=false:=by simp [hk3]
   have T:(k == 4)=false:=by simp [hk4]
   have V:(k == 5)=false:=by simp [hk5]
   go_enter zb7,za6;go_wp2
   all_goals go_ret
   all_goals exact ⟨qz l.o.symm,O4⟩
