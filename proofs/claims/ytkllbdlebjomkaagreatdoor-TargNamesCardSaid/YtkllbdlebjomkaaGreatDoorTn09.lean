import Derived.Test.YtkllbdlebjomkaaGreatDoorTn07
set_option maxHeartbeats 1000000

namespace Go.Proofs.YtkllbdlebjomkaaGreatDoor
open Go.RowKit
def qX (s:ByteArray):Bool:=decide (s.size<=4096) && gx s
def qd:List ByteArray->Bool
 | a :: b :: r=>Op.bytesLess a.toList b.toList && qd (b :: r)
 | _=>true
theorem kz:∀(l:List ByteArray) (k:Nat) (_:1<=k) (h:k<l.length),qd (l.take (k+1))=(qd (l.take k) && Op.bytesLess l[k-1].toList l[k].toList)
 | [],k,_,h=>by simp at h
 | [a],k,h1,h=>by simp at h;omega
 | a :: b :: r,1,_,_=>by simp [qd]
 | a :: b :: r,k+2,_,h=>by have:=kz (b :: r) (k+1) (by omega) (by simpa using h);simp only [N2,qd] at this ⊢;rw [this,Bool.and_assoc];rfl
theorem vX (l:List ByteArray) (k:Nat) (b:1<=k) (h:k<l.length) (c:Op.bytesLess l[k-1].toList l[k].toList=false):qd l=false:=by
 have a:∀(m:Nat),k+1<=m->m<=l.length->qd (l.take m)=false:=by
  intro m hm hm'
  induction m with
  | zero=>omega
  | succ m ih =>
   by_cases e:m=k
   . subst e;rw [kz l m b h,c,zc1]
   . rw [kz l m (by omega) (by omega),ih (by omega) (by omega),M0]
 have:=a l.length (by omega) lz;rwa [zc0] at this
theorem vM (s:ByteArray) (w:World) (d:s.size<=9223372036854775807) :
 Calls Tryz.prog 121 #[.string s] w fun e w'=>e=.returned (.bool (qX s))/\O5 w w':=by
 by_cases h:s.size<=4096
 . have a:=U (show qX s=gx s by unfold qX;rw [X3 h];rfl);go_enter Tryz.func121,Tryz.ntmps121;go_wp2_with (go_at_call 95;refine (pO s _ d).mono ?_;rintro e w' ⟨rfl,b⟩;have c:=U b;clear b);go_ret;exact ⟨by rw [a.o];rfl,c.o⟩
 . have a:=U (show qX s=false by unfold qX;rw [X0 h];rfl);go_enter Tryz.func121,Tryz.ntmps121;go_wp2;go_ret;exact ⟨by rw [a.o];rfl,Z0 _ _⟩
theorem xO (ns:List ByteArray) (an:Option Addr) (cn:Nat) (w:World) (h:qy w 0 w.heap.size an ns) (K:ns.length<=4294967296) :
 Calls Tryz.prog 23 #[.slice an ns.length cn] w fun e w'=>e=.returned (.bool (qd ns))/\O5 w w':=by
 have q:=U h;clear h;go_enter Tryz.func23,Tryz.ntmps23;go_wp2;go_loopw [3] (fun i wr=>∃k:Nat,1<=k/\(k<=ns.length\/k=1)/\i=.int .i64 k/\qd (ns.take k)=true/\O5 w wr) (fun i _=>ns.length - (intOf i).toNat)
 case atStart=>exact ⟨1,by omega,.inr rfl,rfl,by cases ns <;> rfl,Z0 _ _⟩
 case round =>
  obtain ⟨k,d,C,rfl,j,a⟩:=hrel;by_cases hlt:k<ns.length
  . obtain ⟨b,p,rfl,_,D,B⟩:=(q.o.below a lz lz a.size).at k hlt;obtain ⟨z,f,c,_,_,A⟩:=(q.o.below a lz lz a.size).at (k - 1) (by omega);obtain ⟨rfl,rfl⟩:b=z/\p=f:=by simpa using c
    have g:=U a;have v:=U j;have l:=U (kz ns k d hlt);have o:=U (vX ns k d hlt);clear a j c;obtain ⟨x,r⟩:=O1 (ns[k-1]);obtain ⟨y,s⟩:=O1 (ns[k]);rw [<- r] at A l o;rw [<- s] at B l o;clear r s;have E:IntKind.i64.wrap ((k:Int) - 1)=(k:Int) - 1:=N5 _ (by omega);have F:0<=(k:Int) - 1:=by omega
    have G:1<=(k:Int):=by omega
    have H:(k:Int) - 1<(ns.length:Int):=by omega
    have I:(k:Int)<(ns.length:Int):=by omega
    have J:((k:Int) - 1).toNat=k - 1:=by omega
    cases hlss:Op.bytesLess x.toList y.toList
    . have m:=U (o.o hlss);go_wp2_with fail;go_quiet (fail)
      go_wp2;go_ret;exact ⟨by rw [m.o];rfl,Below.drewN g.o _⟩
    . have u:=U hlss;go_wp2_with fail;go_quiet (fail)
      go_wp2;go_roundw
      case rel=>exact ⟨k+1,by omega,by omega,by go_num,by rw [l.o,v.o,u.o];rfl,Below.drewN g.o _⟩
      case measure=>simp [intOf];omega
  . have g:=U a;have m:=U (show qd ns=true by
     have:ns.take k=ns:=J4 (by omega);rwa [this] at j)
    clear j a;go_wp2;go_ret;exact ⟨by rw [m.o];rfl,g.o⟩
def qK (k n:Int) (t:ByteArray) (ns:List ByteArray) (li:Nat):Bool :=
 if k=1 then decide (t.toList=[]/\ns.length=0/\li=0/\(n=0\/n=1))
 else if k=2 then decide (t.toList=[]/\ns.length=0/\li=0)
 else if k=3 then decide (n=0/\ns.length=0/\li=0) && qX t
 else if k=4 then decide (n=0/\t.toList=[]/\ns.length=0)
 else if k=5 then decide (n=0/\t.toList=[]/\ns.length=li) && qd ns && ns.all qX
 else false
theorem cT (l:List UInt8):l.isEmpty=decide (l=[]):=by cases l <;> simp
theorem cI (k n:Int) (t:ByteArray) (ns:List ByteArray) (an ai:Option Addr) (cn X Y ci:Nat) (w:World) (h:qy w 0 w.heap.size an ns) (Z:ns.length=X) (ht:t.size<=4294967296) (hn:X<=4294967296) (hb:qh ns<=4294967296) (a0:Y<=4294967296) :
 Calls Tryz.prog 93 #[.agg #[.int .u8 k,.int .i64 n,.string t,.slice an X cn,.slice ai Y ci]] w fun e w'=>e=.returned (.bool (qK k n t ns Y))/\O5 w w':=by
 have D:=U h;clear h;have f:=U Z;clear Z;by_cases hk1:k=1
 . subst hk1;have l:=U (show qK 1 n t ns Y=decide (t.toList=[]/\X=0/\Y=0/\(n=0\/n=1)) by rw [<- f.o];rfl);go_enter za2,M1;go_wp2
   all_goals go_ret
   all_goals refine ⟨qx ?_,O4⟩
   all_goals rw [l.o]
   all_goals (first|(simp_all;done)|(rw [zc3];simp_all;done)|(simp_all;omega))
 by_cases hk2:k=2
 . subst hk2;have l:=U (show qK 2 n t ns Y=decide (t.toList=[]/\X=0/\Y=0) by rw [<- f.o];rfl);clear hk1;go_enter za2,M1;go_wp2
   all_goals go_ret
   all_goals refine ⟨qx ?_,O4⟩
   all_goals rw [l.o]
   all_goals (first|(simp_all;done)|(rw [zc3];simp_all;done)|(simp_all;omega))
 by_cases hk4:k=4
 . subst hk4;have l:=U (show qK 4 n t ns Y=decide (n=0/\t.toList=[]/\X=0) by rw [<- f.o];rfl);clear hk1 hk2;go_enter za2,M1;go_wp2
   all_goals go_ret
   all_goals refine ⟨qx ?_,O4⟩
   all_goals rw [l.o]
   all_goals (first|(simp_all;done)|(rw [zc3];simp_all;done)|(simp_all;omega))
 by_cases hk3:k=3
 . subst hk3;have l:=U (show qK 3 n t ns Y=(decide (n=0/\X=0/\Y=0) && qX t) by rw [<- f.o];rfl);clear hk1 hk2 hk4;by_cases hg:n=0/\X=0/\Y=0
   . obtain ⟨rfl,rfl,rfl⟩:=hg;have q:=U (show qK 3 0 t ns 0=qX t by rw [l.o];simp);go_enter za2,M1;go_wp2_with (go_at_call 121;refine (vM t _ (by omega)).mono ?_;rintro e w' ⟨rfl,g⟩;have u:=U g;clear g);go_ret;exact ⟨by rw [q.o];rfl,(O4).trans (u.o.mono (by simp))⟩
   . have q:=U (show qK 3 n t ns Y=false by rw [l.o,X0 hg];rfl);have y:n=0->X=0->0<Y:=fun a b=>by rcases za6 Y with c|c;exact absurd ⟨a,b,c⟩ hg;exact c
     clear hg l;by_cases a1:n=0
     . subst a1;by_cases a2:X=0
       . subst a2;have H:=y rfl rfl;clear y;go_enter za2,M1;go_wp2;go_ret;exact ⟨by rw [q.o];rfl,O4⟩
       . have H:0<X:=by omega
         clear y a2;go_enter za2,M1;go_wp2;go_ret;exact ⟨by rw [q.o];rfl,O4⟩
     . clear y;go_enter za2,M1;go_wp2;go_ret;exact ⟨by rw [q.o];rfl,O4⟩
 by_cases hk5:k=5
 . subst hk5;have l:=U (show qK 5 n t ns Y=(decide (n=0/\t.toList=[]/\X=Y) && qd ns && ns.all qX) by rw [<- f.o];rfl);clear hk1 hk2 hk4 hk3;by_cases hg:n=0/\t.toList=[]/\X=Y
   . obtain ⟨rfl,N,rfl⟩:=hg;have q:=U (show qK 5 0 t ns X=(qd ns && ns.all qX) by rw [l.o];simp [N]);clear l;cases hr:qd ns
     . have v:=U (show qK 5 0 t ns X=false by rw [q.o,hr];rfl);have s:=U hr;clear hr;go_enter za2,M1;go_wp2_with fail;have m:=xO ns an cn _ (D.o.below ((Z0 _ _).alloc lz (.cells #[.int .u8 5,.int .i64 0,.string t,.slice an X cn,.slice ai X ci] 26)) lz lz (by simp)) (by rw [f.o];exact hn);rw [f.o,s.o] at m;refine m.mono ?_;rintro e A ⟨rfl,p⟩;clear m;have u:Hid (O5 w A):=(O4).trans (p.mono (by simp));clear p;go_wp2;go_ret;exact ⟨qx v.o.symm,u.o⟩
     . have v:=U (show qK 5 0 t ns X=ns.all qX by rw [q.o,hr];rfl);have s:=U hr;clear hr;go_enter za2,M1;go_wp2_with fail;have m:=xO ns an cn _ (D.o.below ((Z0 _ _).alloc lz (.cells #[.int .u8 5,.int .i64 0,.string t,.slice an X cn,.slice ai X ci] 26)) lz lz (by simp)) (by rw [f.o];exact hn);rw [f.o,s.o] at m;refine m.mono ?_;rintro e A ⟨rfl,p⟩;clear m;have u:Hid (O5 w A):=(O4).trans (p.mono (by simp));have K:A.cell? ⟨w.heap.size,3,none⟩=some (.slice an X cn):=by rw [p.cell (by simp)];go_simp
       clear p;go_wp2;clear K;go_loopw [4,91] (fun _ i wr=>∃j:Nat,j<=X/\i=.int .i64 j/\(ns.take j).all qX=true/\O5 w wr) (fun _ i _=>X - (intOf i).toNat)
       case atStart=>exact ⟨0,by omega,rfl,by simp,u.o⟩
       case round =>
        obtain ⟨j,W,rfl,z,d⟩:=hrel;by_cases hlt:j<X
        . obtain ⟨b,M,rfl,_,L,J⟩:=(D.o.below d lz lz d.size).at j (by rw [f.o];exact hlt);have E:=jI ns j (by rw [f.o];exact hlt);have F:=U (show (ns.take (j+1)).all qX=((ns.take j).all qX && qX (ns[j]'(by rw [f.o];exact hlt))) by
           rw [Z7 (by rw [f.o];exact hlt),List.all_append];simp)
          have G:=U (show qX (ns[j]'(by rw [f.o];exact hlt))=false->ns.all qX=false by
           intro hf;rw [zb2];exact ⟨ns[j]'(by rw [f.o];exact hlt),J8 _,by simp [hf]⟩)
          generalize ns[j]'(by rw [f.o];exact hlt)=x at J E F G;have B:=U z;have o:=U d;clear z d;cases hx:qX x
          . have C:=U (G.o hx);go_wp2_with (go_at_call 121;refine (vM x _ (by omega)).mono ?_;rintro e w' ⟨rfl,g⟩;have r:=U g;clear g);go_ret;exact ⟨qx (by rw [v.o,C.o]),o.o.trans (r.o.mono o.o.size)⟩
          . have I:=U hx;go_wp2_with (go_at_call 121;refine (vM x _ (by omega)).mono ?_;rintro e w' ⟨rfl,g⟩;have r:=U g;clear g);go_roundw
            case rel=>exact ⟨j+1,by omega,by go_num,by rw [F.o,B.o,I.o];rfl,o.o.trans (r.o.mono o.o.size)⟩
            case measure=>simp [intOf];omega
        . have C:=U (show ns.all qX=true by
           rwa [J4 (by rw [f.o];omega)] at z)
          have o:=U d;clear z d;go_wp2;go_ret;exact ⟨qx (by rw [v.o,C.o]),o.o⟩
   . have q:=U (show qK 5 n t ns Y=false by rw [l.o,X0 hg];rfl);clear l;by_cases a1:n=0
     . subst a1;by_cases a2:t.toList=[]
       . have P:¬(X:Int)=(Y:Int):=fun e=>hg ⟨rfl,a2,by omega⟩;clear hg;go_enter za2,M1;go_wp2_with fail
         all_goals first|(exfalso;omega)|(go_ret;exact ⟨qx (by rw [q.o]),O4⟩)
       . have H:t.toList.isEmpty=false:=by rw [cT];simp [a2]
         clear hg;go_enter za2,M1;go_wp2;go_ret;exact ⟨qx (by rw [q.o]),O4⟩
     . clear hg;go_enter za2,M1;go_wp2;go_ret;exact ⟨qx (by rw [q.o]),O4⟩
 . have l:=U (show qK k n t ns Y=false by unfold qK;rw [Z6 hk1,Z6 hk2,Z6 hk3,Z6 hk4,Z6 hk5]);have Q:(k == 1)=false:=by simp [hk1]
   have R:(k == 2)=false:=by simp [hk2]
   have S:(k == 3)=false:=by simp [hk3]
   have T:(k == 4)=false:=by simp [hk4]
   have V:(k == 5)=false:=by simp [hk5]
   go_enter za2,M1;go_wp2
   all_goals go_ret
   all_goals exact ⟨qx l.o.symm,O4⟩
