import Derived.Test.YthgembbgcbaghaaGreatDoorDt10
set_option maxHeartbeats 1000000

namespace Go.Proofs.YthgembbgcbaghaaGreatDoor
open Go.RowKit
def qQ (s:ByteArray):Bool:=decide (s.size<=4096) && vK s
def qe:List ByteArray->Bool
 | a :: b :: r=>Op.bytesLess a.toList b.toList && qe (b :: r)
 | _=>true
theorem jh:∀(l:List ByteArray) (k:Nat) (_:1<=k) (h:k<l.length),qe (l.take (k+1))=(qe (l.take k) && Op.bytesLess l[k-1].toList l[k].toList)
 | [],k,_,h=>by simp at h
 | [a],k,h1,h=>by simp at h;omega
 | a :: b :: r,1,_,_=>by simp [qe]
 | a :: b :: r,k+2,_,h=>by have:=jh (b :: r) (k+1) (by omega) (by simpa using h);simp only [V8,qe] at this ⊢;rw [this,Bool.and_assoc];rfl
theorem wM (l:List ByteArray) (k:Nat) (h1:1<=k) (h:k<l.length) (hb:Op.bytesLess l[k-1].toList l[k].toList=false):qe l=false:=by
 have a:∀(m:Nat),k+1<=m->m<=l.length->qe (l.take m)=false:=by
  intro m hm hm'
  induction m with
  | zero=>omega
  | succ m ih =>
   by_cases e:m=k
   . subst e;rw [jh l m h1 h,hb,N3]
   . rw [jh l m (by omega) (by omega),ih (by omega) (by omega),V0]
 have:=a l.length (by omega) lz;rwa [M5] at this
theorem vV (s:ByteArray) (w:World) (hs:s.size<=9223372036854775807) :
 Calls Tryz.prog 226 #[.string s] w fun e w'=>e=.returned (.bool (qQ s))/\Below w.heap.size w w':=by
 by_cases h:s.size<=4096
 . have a:=U (show qQ s=vK s by unfold qQ;rw [J2 h];rfl);go_enter Tryz.func226,Tryz.ntmps226;go_wp2_with (go_at_call 86;refine (pS s _ hs).mono ?_;rintro e w' ⟨rfl,b⟩;have c:=U b;clear b);go_ret;exact ⟨by rw [a.o];rfl,c.o⟩
 . have a:=U (show qQ s=false by unfold qQ;rw [Z7 h];rfl);go_enter Tryz.func226,Tryz.ntmps226;go_wp2;go_ret;exact ⟨by rw [a.o];rfl,Z0 _ _⟩
theorem kQ (ns:List ByteArray) (an:Option Addr) (cn:Nat) (w:World) (h:qv w 0 w.heap.size an ns) (hn:ns.length<=4294967296) :
 Calls Tryz.prog 104 #[.slice an ns.length cn] w fun e w'=>e=.returned (.bool (qe ns))/\Below w.heap.size w w':=by
 have q:=U h;clear h;go_enter Tryz.func104,Tryz.ntmps104;go_wp2;go_loopw [3] (fun i wr=>∃k:Nat,1<=k/\(k<=ns.length\/k=1)/\i=.int .i64 k/\qe (ns.take k)=true/\Below w.heap.size w wr) (fun i _=>ns.length - (intOf i).toNat)
 case atStart=>exact ⟨1,by omega,.inr rfl,rfl,by cases ns <;> rfl,Z0 _ _⟩
 case round =>
  obtain ⟨k,d,C,rfl,j,a⟩:=hrel;by_cases hlt:k<ns.length
  . obtain ⟨b,p,rfl,_,D,B⟩:=(q.o.below a lz lz a.size).at k hlt;obtain ⟨z,f,c,_,_,A⟩:=(q.o.below a lz lz a.size).at (k - 1) (by omega);obtain ⟨rfl,rfl⟩:b=z/\p=f:=by simpa using c
    have g:=U a;have v:=U j;have l:=U (jh ns k d hlt);have o:=U (wM ns k d hlt);clear a j c;obtain ⟨x,r⟩:=O1 (ns[k-1]);obtain ⟨y,s⟩:=O1 (ns[k]);rw [<- r] at A l o;rw [<- s] at B l o;clear r s;have E:IntKind.i64.wrap ((k:Int) - 1)=(k:Int) - 1:=Y2 _ (by omega);have F:0<=(k:Int) - 1:=by omega
    have G:1<=(k:Int):=by omega
    have H:(k:Int) - 1<(ns.length:Int):=by omega
    have I:(k:Int)<(ns.length:Int):=by omega
    have J:((k:Int) - 1).toNat=k - 1:=by omega
    cases hlss:Op.bytesLess x.toList y.toList
    . have m:=U (o.o hlss);go_wp2_with fail;go_quiet (fail)
      go_wp2;go_ret;exact ⟨by rw [m.o];rfl,Below.drewN g.o _⟩
    . have u:=U hlss;go_wp2_with fail;go_quiet (fail)
      go_wp2;go_roundw
      case rel=>exact ⟨k+1,by omega,by omega,by go_num,by rw [l.o,v.o,u.o];rfl,Below.drewN g.o _⟩
      case measure=>simp [intOf];omega
  . have g:=U a;have m:=U (show qe ns=true by
     have:ns.take k=ns:=Z8 (by omega);rwa [this] at j)
    clear j a;go_wp2;go_ret;exact ⟨by rw [m.o];rfl,g.o⟩
def qV (k n:Int) (t:ByteArray) (ns:List ByteArray) (li:Nat):Bool :=
 if k=1 then decide (t.toList=[]/\ns.length=0/\li=0/\(n=0\/n=1))
 else if k=2 then decide (t.toList=[]/\ns.length=0/\li=0)
 else if k=3 then decide (n=0/\ns.length=0/\li=0) && qQ t
 else if k=4 then decide (n=0/\t.toList=[]/\ns.length=0)
 else if k=5 then decide (n=0/\t.toList=[]/\ns.length=li) && qe ns && ns.all qQ
 else false
theorem br (l:List UInt8):l.isEmpty=decide (l=[]):=by cases l <;> simp
theorem cR (k n:Int) (t:ByteArray) (ns:List ByteArray) (an ai:Option Addr) (cn ln li ci:Nat) (w:World) (h:qv w 0 w.heap.size an ns) (hln:ns.length=ln) (ht:t.size<=4294967296) (hn:ln<=4294967296) (hb:qo ns<=4294967296) (hli:li<=4294967296) :
 Calls Tryz.prog 175 #[.agg #[.int .u8 k,.int .i64 n,.string t,.slice an ln cn,.slice ai li ci]] w fun e w'=>e=.returned (.bool (qV k n t ns li))/\Below w.heap.size w w':=by
 have D:=U h;clear h;have f:=U hln;clear hln;by_cases hk1:k=1
 . subst hk1;have l:=U (show qV 1 n t ns li=decide (t.toList=[]/\ln=0/\li=0/\(n=0\/n=1)) by rw [<- f.o];rfl);go_enter za1,M3;go_wp2
   all_goals go_ret
   all_goals refine ⟨qz ?_,(Z0 _ _).alloc lz _⟩
   all_goals rw [l.o]
   all_goals (first|(simp_all;done)|(rw [za0];simp_all;done)|(simp_all;omega))
 by_cases hk2:k=2
 . subst hk2;have l:=U (show qV 2 n t ns li=decide (t.toList=[]/\ln=0/\li=0) by rw [<- f.o];rfl);clear hk1;go_enter za1,M3;go_wp2
   all_goals go_ret
   all_goals refine ⟨qz ?_,(Z0 _ _).alloc lz _⟩
   all_goals rw [l.o]
   all_goals (first|(simp_all;done)|(rw [za0];simp_all;done)|(simp_all;omega))
 by_cases hk4:k=4
 . subst hk4;have l:=U (show qV 4 n t ns li=decide (n=0/\t.toList=[]/\ln=0) by rw [<- f.o];rfl);clear hk1 hk2;go_enter za1,M3;go_wp2
   all_goals go_ret
   all_goals refine ⟨qz ?_,(Z0 _ _).alloc lz _⟩
   all_goals rw [l.o]
   all_goals (first|(simp_all;done)|(rw [za0];simp_all;done)|(simp_all;omega))
 by_cases hk3:k=3
 . subst hk3;have l:=U (show qV 3 n t ns li=(decide (n=0/\ln=0/\li=0) && qQ t) by rw [<- f.o];rfl);clear hk1 hk2 hk4;by_cases hg:n=0/\ln=0/\li=0
   . obtain ⟨rfl,rfl,rfl⟩:=hg;have q:=U (show qV 3 0 t ns 0=qQ t by rw [l.o];simp);go_enter za1,M3;go_wp2_with (go_at_call 226;refine (vV t _ (by omega)).mono ?_;rintro e w' ⟨rfl,g⟩;have u:=U g;clear g);go_ret;exact ⟨by rw [q.o];rfl,(((Z0 _ _).alloc lz _)).trans (u.o.mono (by simp))⟩
   . have q:=U (show qV 3 n t ns li=false by rw [l.o,Z7 hg];rfl);have y:n=0->ln=0->0<li:=fun a b=>by rcases N4 li with c|c;exact absurd ⟨a,b,c⟩ hg;exact c
     clear hg l;by_cases a1:n=0
     . subst a1;by_cases a2:ln=0
       . subst a2;have H:=y rfl rfl;clear y;go_enter za1,M3;go_wp2;go_ret;exact ⟨by rw [q.o];rfl,(Z0 _ _).alloc lz _⟩
       . have H:0<ln:=by omega
         clear y a2;go_enter za1,M3;go_wp2;go_ret;exact ⟨by rw [q.o];rfl,(Z0 _ _).alloc lz _⟩
     . clear y;go_enter za1,M3;go_wp2;go_ret;exact ⟨by rw [q.o];rfl,(Z0 _ _).alloc lz _⟩
 by_cases hk5:k=5
 . subst hk5;have l:=U (show qV 5 n t ns li=(decide (n=0/\t.toList=[]/\ln=li) && qe ns && ns.all qQ) by rw [<- f.o];rfl);clear hk1 hk2 hk4 hk3;by_cases hg:n=0/\t.toList=[]/\ln=li
   . obtain ⟨rfl,N,rfl⟩:=hg;have q:=U (show qV 5 0 t ns ln=(qe ns && ns.all qQ) by rw [l.o];simp [N]);clear l;cases hr:qe ns
     . have v:=U (show qV 5 0 t ns ln=false by rw [q.o,hr];rfl);have s:=U hr;clear hr;go_enter za1,M3;go_wp2_with fail;have m:=kQ ns an cn _ (D.o.below ((Z0 _ _).alloc lz (.cells #[.int .u8 5,.int .i64 0,.string t,.slice an ln cn,.slice ai ln ci] 25)) lz lz (by simp)) (by rw [f.o];exact hn);rw [f.o,s.o] at m;refine m.mono ?_;rintro e A ⟨rfl,p⟩;clear m;have u:Hid (Below w.heap.size w A):=((Z0 _ _).alloc lz _).trans (p.mono (by simp));clear p;go_wp2;go_ret;exact ⟨qz v.o.symm,u.o⟩
     . have v:=U (show qV 5 0 t ns ln=ns.all qQ by rw [q.o,hr];rfl);have s:=U hr;clear hr;go_enter za1,M3;go_wp2_with fail;have m:=kQ ns an cn _ (D.o.below ((Z0 _ _).alloc lz (.cells #[.int .u8 5,.int .i64 0,.string t,.slice an ln cn,.slice ai ln ci] 25)) lz lz (by simp)) (by rw [f.o];exact hn);rw [f.o,s.o] at m;refine m.mono ?_;rintro e A ⟨rfl,p⟩;clear m;have u:Hid (Below w.heap.size w A):=((Z0 _ _).alloc lz _).trans (p.mono (by simp));have K:A.cell? ⟨w.heap.size,3,none⟩=some (.slice an ln cn):=by rw [p.cell (by simp)];go_simp
       clear p;go_wp2;clear K;go_loopw [4,91] (fun _ i wr=>∃j:Nat,j<=ln/\i=.int .i64 j/\(ns.take j).all qQ=true/\Below w.heap.size w wr) (fun _ i _=>ln - (intOf i).toNat)
       case atStart=>exact ⟨0,by omega,rfl,by simp,u.o⟩
       case round =>
        obtain ⟨j,W,rfl,z,d⟩:=hrel;by_cases hlt:j<ln
        . obtain ⟨b,M,rfl,_,L,J⟩:=(D.o.below d lz lz d.size).at j (by rw [f.o];exact hlt);have E:=kx ns j (by rw [f.o];exact hlt);have F:=U (show (ns.take (j+1)).all qQ=((ns.take j).all qQ && qQ (ns[j]'(by rw [f.o];exact hlt))) by
           rw [Z6 (by rw [f.o];exact hlt),List.all_append];simp)
          have G:=U (show qQ (ns[j]'(by rw [f.o];exact hlt))=false->ns.all qQ=false by
           intro hf;rw [zb0];exact ⟨ns[j]'(by rw [f.o];exact hlt),J7 _,by simp [hf]⟩)
          generalize ns[j]'(by rw [f.o];exact hlt)=x at J E F G;have B:=U z;have o:=U d;clear z d;cases hx:qQ x
          . have C:=U (G.o hx);go_wp2_with (go_at_call 226;refine (vV x _ (by omega)).mono ?_;rintro e w' ⟨rfl,g⟩;have r:=U g;clear g);go_ret;exact ⟨qz (by rw [v.o,C.o]),o.o.trans (r.o.mono o.o.size)⟩
          . have I:=U hx;go_wp2_with (go_at_call 226;refine (vV x _ (by omega)).mono ?_;rintro e w' ⟨rfl,g⟩;have r:=U g;clear g);go_roundw
            case rel=>exact ⟨j+1,by omega,by go_num,by rw [F.o,B.o,I.o];rfl,o.o.trans (r.o.mono o.o.size)⟩
            case measure=>simp [intOf];omega
        . have C:=U (show ns.all qQ=true by
           rwa [Z8 (by rw [f.o];omega)] at z)
          have o:=U d;clear z d;go_wp2;go_ret;exact ⟨qz (by rw [v.o,C.o]),o.o⟩
   . have q:=U (show qV 5 n t ns li=false by rw [l.o,Z7 hg];rfl);clear l;by_cases a1:n=0
     . subst a1;by_cases a2:t.toList=[]
       . have P:¬(ln:Int)=(li:Int):=fun e=>hg ⟨rfl,a2,by omega⟩;clear hg;go_enter za1,M3;go_wp2_with fail
         all_goals first|(exfalso;omega)|(go_ret;exact ⟨qz (by rw [q.o]),(Z0 _ _).alloc lz _⟩)
       . have H:t.toList.isEmpty=false:=by rw [br];simp [a2]
         clear hg;go_enter za1,M3;go_wp2;go_ret;exact ⟨qz (by rw [q.o]),(Z0 _ _).alloc lz _⟩
     . clear hg;go_enter za1,M3;go_wp2;go_ret;exact ⟨qz (by rw [q.o]),(Z0 _ _).alloc lz _⟩
 . have l:=U (show qV k n t ns li=false by unfold qV;rw [Z5 hk1,Z5 hk2,Z5 hk3,Z5 hk4,Z5 hk5]);have Q:(k == 1)=false:=by simp [hk1]
   have R:(k == 2)=false:=by simp [hk2]
   have S:(k == 3)=false:=by simp [hk3]
   have T:(k == 4)=false:=by simp [hk4]
   have V:(k == 5)=false:=by simp [hk5]
   go_enter za1,M3;go_wp2
   all_goals go_ret
   all_goals exact ⟨qz l.o.symm,(Z0 _ _).alloc lz _⟩
end Go.Proofs.YthgembbgcbaghaaGreatDoor
