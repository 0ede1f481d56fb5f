import Derived.Test.YthgembbgcbaghaaGreatDoorDn09
import Derived.Test.YthgembbgcbaghaaGreatDoorDn05
import Derived.Laws.RangeAny
import Derived.Test.YthgembbgcbaghaaGreatDoorDn03
import Derived.ScopeJumps
import Derived.WalkMore
set_option maxHeartbeats 4000000
set_option maxRecDepth 1000000

namespace Go.Proofs.YthgembbgcbaghaaGreatDoor
open Go.RowKit
def gA (s:ByteArray) (pos:Nat):Bool:=((Utf8.decode s pos).1 == 65533) && !Lib.hasPrefix (s.data.toList.drop pos) [239,191,189]
def vp (s:ByteArray):Nat->Nat->Bool
 | 0,_=>true
 | f+1,pos=>if pos<s.size then (if gA s pos then false else vp s f (pos+(Utf8.decode s pos).2)) else true
def wD (s:ByteArray):Bool:=vp s (s.size+1) 0
def sD (s:ByteArray) (w:World) (e:Ending) (w':World):Prop:=∃n:Int,e=.returned (.tuple #[.int .i64 n,.bool (wD s)])/\O5 w w'
theorem mR (s:ByteArray) (a:Nat):1<=(Utf8.decode s a).2:=by
 unfold Utf8.decode;dsimp only;repeat' split
 all_goals omega
theorem tV (s:ByteArray) (w:World) (C:s.size<=9223372036854775807) :
 Calls Tryz.prog 151 #[.string s] w (sD s w):=by
 go_enter Tryz.func151,Tryz.ntmps151;go_wp2;go_loopw [4,5,6] (fun v4 _ _ wr=>∃(a n f:Nat),n<=a/\n<=s.size/\v4=.int .i64 n/\wr=w.iter s a/\vp s f a=wD s/\s.size+1<=f+a) (fun _ _ _ wr=>s.size - wr.iterPos w.heap.size)
 case atStart=>exact ⟨0,0,s.size+1,by omega,by omega,rfl,rfl,rfl,by omega⟩
 case round =>
  obtain ⟨a,n,f,B,y,rfl,rfl,c,A⟩:=hrel;by_cases hlt:a<s.size
  . obtain ⟨f,rfl⟩:∃g,f=g+1:=⟨f - 1,by omega⟩;have x:=mR s a;have v:=decode_le s a;have p:vp s (f+1) a=if gA s a then false else vp s f (a+(Utf8.decode s a).2):=by rw [vp,Q1 hlt]
    have h:gA s a=(((Utf8.decode s a).1 == 65533) && !Lib.hasPrefix (s.data.toList.drop a) [239,191,189]):=rfl;have l:=fun ty=>run_next_any (P:=Tryz.prog) w s a ty hlt;generalize (Utf8.decode s a).1=r at *;generalize (Utf8.decode s a).2=d at *;have o:(s.extract a s.size).data.toList=s.data.toList.drop a:=(by rw [ByteArray.data_extract,Array.toList_extract,List.extract_eq_take_drop,Q4];rw [List.length_drop,qd];exact Z9 _);have m:=U o;rw [p] at c;have k:=U c;have i:=U h;clear c p h o;by_cases hr:r=65533
    . have u:((r:Int) == 65533)=true:=by simp [hr]
      have b:(r == 65533)=true:=by simp [hr]
      cases hp:Lib.hasPrefix (s.data.toList.drop a) [239,191,189]
      . have j:=U (show wD s=false by rw [<- k.o,i.o,b,hp];rfl);have q:=U hp;clear hp b hr;go_wp2_with fail;refine (Tryz.strings_HasPrefix _ _ _).mono ?_;rintro e z ⟨rfl,rfl⟩;rw [show Lib.hasPrefix (s.extract a s.size).data.toList (⟨#[239,191,189]⟩:ByteArray).data.toList=false by rw [m.o];exact q.o];go_wp2;go_ret2;exact ⟨0,by rw [j.o];rfl,O4⟩
      . have j:=U (show vp s f (a+d)=wD s by rw [<- k.o,i.o,b,hp];rfl);have q:=U hp;clear hp b hr;go_wp2_with fail;refine (Tryz.strings_HasPrefix _ _ _).mono ?_;rintro e z ⟨rfl,rfl⟩;rw [show Lib.hasPrefix (s.extract a s.size).data.toList (⟨#[239,191,189]⟩:ByteArray).data.toList=true by rw [m.o];exact q.o];go_wp2;go_roundw
        case rel=>exact ⟨a+d,n+1,f,by omega,by omega,by go_num,rfl,j.o,by omega⟩
        case measure=>simp;omega
    . have u:((r:Int) == 65533)=false:=by simp;omega
      have b:(r == 65533)=false:=by simp [hr]
      have j:=U (show vp s f (a+d)=wD s by rw [<- k.o,i.o,b];rfl);clear b hr;go_wp2;go_roundw
      case rel=>exact ⟨a+d,n+1,f,by omega,by omega,by go_num,rfl,j.o,by omega⟩
      case measure=>simp;omega
  . have l:=fun ty=>run_next_end (P:=Tryz.prog) w s a ty hlt;have j:=U (show wD s=true by
     rw [<- c];cases f with
     | zero=>rfl
     | succ f=>rw [vp,Z6 hlt])
    clear c;go_wp2;go_ret2;exact ⟨n,by rw [j.o];rfl,O4⟩
theorem gT (s:ByteArray) (w:World) (d:s.size<=9223372036854775807) :
 Calls Tryz.prog 86 #[.string s] w fun e w'=>e=.returned (.bool (wD s))/\O5 w w':=by
 go_enter Tryz.func86,Tryz.ntmps86;go_wp2_with fail;refine (tV s w d).mono ?_;rintro e c ⟨n,rfl,a⟩;have b:=U a;clear a;go_wp2;go_ret;exact ⟨rfl,b.o⟩
theorem mN (s t:ByteArray) (w:World) (i:s.size<=9223372036854775807) (j:t.size<=9223372036854775807) :
 Calls Tryz.prog 179 #[.agg #[.string s,.string t]] w fun e w'=>e=.returned (.bool (zF s.data.toList t.data.toList))/\O5 w w':=by
 unfold zF;cases hr:zl s.data.toList
 . have h:=U hr;go_enter Tryz.func179,Tryz.ntmps179;go_wp2_with (go_at_call 134;refine (jP s _ i).mono ?_;rintro e w' ⟨rfl,rfl⟩);go_ret;exact ⟨rfl,O4⟩
 by_cases h1:t.size<2\/128<t.size\/t.size % 2=1
 . have a:=U (ts h1);rw [a.o];by_cases b:t.size=0
   . have c:¬0<(t.size:Int):=by omega
     clear h1 b;go_enter Tryz.func179,Tryz.ntmps179;go_wp2_with (go_at_call 134;refine (jP s _ i).mono ?_;rintro e w' ⟨rfl,rfl⟩);go_ret;exact ⟨rfl,O4⟩
   have c:0<t.size:=by omega
   clear b;by_cases d:128<t.size
   . clear h1;go_enter Tryz.func179,Tryz.ntmps179;go_wp2_with (go_at_call 134;refine (jP s _ i).mono ?_;rintro e w' ⟨rfl,rfl⟩);go_ret;exact ⟨rfl,O4⟩
   have g:((t.size:Int) % 2 == 0)=false:=by simp;omega
   have f:t.size<=128:=by omega
   clear h1 d;go_enter Tryz.func179,Tryz.ntmps179;go_wp2_with (go_at_call 134;refine (jP s _ i).mono ?_;rintro e w' ⟨rfl,rfl⟩);go_ret;exact ⟨rfl,O4⟩
 . have a:=U (sP (s:=t) (by omega) (by omega) (by omega));rw [a.o];have b:2<=t.size:=by omega
   have d:t.size<=128:=by omega
   have g:((t.size:Int) % 2 == 0)=true:=by simp;omega
   clear h1;go_enter Tryz.func179,Tryz.ntmps179;go_wp2_with (first|(go_at_call 134;refine (jP s _ i).mono ?_;rintro e w' ⟨rfl,rfl⟩)|(go_at_call 195;refine (rM t _ j).mono ?_;rintro e w' ⟨rfl,rfl⟩));go_ret;exact ⟨by simp,O4⟩
mutual
def JV.count:JV->Nat
 | .mk _ _ _ _ xs=>1+JV.counts xs
def JV.counts:List JV->Nat
 | []=>0
 | x :: r=>JV.count x+JV.counts r
end
mutual
theorem JV.count_le:∀v:JV,v.count<=v.wt
 | .mk _ _ _ _ xs=>by have:=JV.counts_le xs;simp [JV.count,JV.wt];omega
theorem JV.counts_le:∀l:List JV,JV.counts l<=JV.wts l
 | []=>by simp [JV.counts]
 | x :: r=>by have:=JV.count_le x;have:=JV.counts_le r;simp [JV.counts,JV.wts];omega
end
theorem JV.wts_take (l:List JV) (k:Nat):JV.wts (l.take k)<=JV.wts l:=by
 induction l generalizing k with
 | nil=>simp
 | cons x r ih=>cases k with
  | zero=>simp [JV.wts]
  | succ k=>have:=ih k;simp [JV.wts];omega
theorem sL (a c:Int) (w:World):Calls Tryz.prog 313 #[.int .i32 a,.int .i32 c] w fun e w'=>e=.returned (.bool (ub a c))/\w'=w:=by
 have b:=O0 (ub a c=if a=63 then decide (c≠47) else decide (a=c)) rfl;by_cases ha:a=63
 . have f:(a == 63)=true:=by simpa using ha
   rw [Q1 ha] at b;clear ha;by_cases hc:c=47
   . have d:(c != 47)=false:=by simpa using hc
     rw [Q8 (by simpa using hc)] at b;go_enter Tryz.func313,Tryz.ntmps313;go_wp2;go_ret;exact ⟨qx b.o.symm,rfl⟩
   . have d:(c != 47)=true:=by simpa using hc
     rw [Q9 hc] at b;go_enter Tryz.func313,Tryz.ntmps313;go_wp2;go_ret;exact ⟨qx b.o.symm,rfl⟩
 . have f:(a == 63)=false:=by simpa using ha
   rw [Z6 ha] at b;clear ha;by_cases hc:a=c
   . have d:(a == c)=true:=by simpa using hc
     rw [Q9 hc] at b;go_enter Tryz.func313,Tryz.ntmps313;go_wp2;go_ret;exact ⟨qx b.o.symm,rfl⟩
   . have d:(a == c)=false:=by simpa using hc
     rw [Q8 hc] at b;go_enter Tryz.func313,Tryz.ntmps313;go_wp2;go_ret;exact ⟨qx b.o.symm,rfl⟩
def rC (f:Func):Code:=match f.body with|some (.seq _ (.scope c))=>(findLabel c 0).getD .skip|_=>.skip
def rD (p s:List Int) (pa sa:Option Addr) (pc sc:Nat) (B:Nat) (w0:World) (a:Act) (w:World):Prop :=
 ∃(i j st fr:Nat) (sv:Int) (u9 u10 u11 u12 u13 u14 u15 u16 u17 u18 u19 u20 u21 u22 u23 u24 u25 u26 u27 u28 u29 u30 u31 u32 u33 u34 u35 u36 u37 u38 u39 u40 u41 u42 u43 u44 u45 u46 u47 u48 u49 u50 u51 u52 u53 u54 u55 u56 u57 u58 u59 u60 u61 u62 u63 u64 u65 u66 u67 u68 u69 u70 u71 u72 u73 u74 u75 u76 u77 u78:Value),a={ tmps:=(Value.slice pa p.length pc :: .slice sa s.length sc :: undef :: undef :: .bool false :: .int .i64 i :: .int .i64 j :: .int .i64 sv :: .int .i64 fr :: u9 :: u10 :: u11 :: u12 :: u13 :: u14 :: u15 :: u16 :: u17 :: u18 :: u19 :: u20 :: u21 :: u22 :: u23 :: u24 :: u25 :: u26 :: u27 :: u28 :: u29 :: u30 :: u31 :: u32 :: u33 :: u34 :: u35 :: u36 :: u37 :: u38 :: u39 :: u40 :: u41 :: u42 :: u43 :: u44 :: u45 :: u46 :: u47 :: u48 :: u49 :: u50 :: u51 :: u52 :: u53 :: u54 :: u55 :: u56 :: u57 :: u58 :: u59 :: u60 :: u61 :: u62 :: u63 :: u64 :: u65 :: u66 :: u67 :: u68 :: u69 :: u70 :: u71 :: u72 :: u73 :: u74 :: u75 :: u76 :: u77 :: u78 :: []).toArray,defers:=[] }/\sv+1=(st:Int)/\GOk p s ⟨i,j,st,fr⟩/\we p s ⟨i,j,st,fr⟩=up p s/\Below B w0 w
def fK (p s:List Int) (a:Act) (_w:World):Nat:=gmu p s ⟨(intOf (a.tmps.getD 5 undef)).toNat,0,(intOf (a.tmps.getD 7 undef)+1).toNat,(intOf (a.tmps.getD 8 undef)).toNat⟩
theorem xx (p s:List Int) (v0 v1 v2 v3 v4:Value) (i j st fr:Nat) (a:Int) (u9 u10 u11 u12 u13 u14 u15 u16 u17 u18 u19 u20 u21 u22 u23 u24 u25 u26 u27 u28 u29 u30 u31 u32 u33 u34 u35 u36 u37 u38 u39 u40 u41 u42 u43 u44 u45 u46 u47 u48 u49 u50 u51 u52 u53 u54 u55 u56 u57 u58 u59 u60 u61 u62 u63 u64 u65 u66 u67 u68 u69 u70 u71 u72 u73 u74 u75 u76 u77 u78:Value) (w:World) (h:a+1=(st:Int)):fK p s { tmps:=(v0 :: v1 :: v2 :: v3 :: v4 :: .int .i64 i :: .int .i64 j :: .int .i64 a :: .int .i64 fr :: u9 :: u10 :: u11 :: u12 :: u13 :: u14 :: u15 :: u16 :: u17 :: u18 :: u19 :: u20 :: u21 :: u22 :: u23 :: u24 :: u25 :: u26 :: u27 :: u28 :: u29 :: u30 :: u31 :: u32 :: u33 :: u34 :: u35 :: u36 :: u37 :: u38 :: u39 :: u40 :: u41 :: u42 :: u43 :: u44 :: u45 :: u46 :: u47 :: u48 :: u49 :: u50 :: u51 :: u52 :: u53 :: u54 :: u55 :: u56 :: u57 :: u58 :: u59 :: u60 :: u61 :: u62 :: u63 :: u64 :: u65 :: u66 :: u67 :: u68 :: u69 :: u70 :: u71 :: u72 :: u73 :: u74 :: u75 :: u76 :: u77 :: u78 :: []).toArray,defers:=[] } w=gmu p s ⟨i,j,st,fr⟩:=by show gmu p s ⟨((i:Int)).toNat,0,(a+1).toNat,((fr:Int)).toNat⟩=_;rw [h,Int.toNat_natCast,Int.toNat_natCast,Int.toNat_natCast];rfl
theorem rL (p s:List Int) (pa sa:Option Addr) (pc sc:Nat) (w:World) (hp:xg w 0 w.heap.size pa p) (hs:xg w 0 w.heap.size sa s) (a4:p.length<=4294967296) (a5:s.length<=4294967296) (a:Act) (wr:World) (hJ:rD p s pa sa pc sc w.heap.size w a wr) :
 (vg 1 (rC Tryz.f312)).wp Tryz.prog (Exit.jump 0 (fun a2 w2=>rD p s pa sa pc sc w.heap.size w a2 w2/\fK p s a2 w2<fK p s a wr) (bodyPost Tryz.prog Tryz.f312 fun e w2=>e=.returned (.bool (up p s))/\O5 w w2)) a wr:=by
 obtain ⟨i,j,st,fr,G,u9,u10,u11,u12,u13,u14,u15,u16,u17,u18,u19,u20,u21,u22,u23,u24,u25,u26,u27,u28,u29,u30,u31,u32,u33,u34,u35,u36,u37,u38,u39,u40,u41,u42,u43,u44,u45,u46,u47,u48,u49,u50,u51,u52,u53,u54,u55,u56,u57,u58,u59,u60,u61,u62,u63,u64,u65,u66,u67,u68,u69,u70,u71,u72,u73,u74,u75,u76,u77,u78,rfl,C,u,hv,D⟩:=hJ;have HP:=U (hp.below D lz lz D.size);have R:=U (hs.below D lz lz D.size);have g:=U u;have o:=U hv;have m:=U D;have hi:=u.i;have hj:=u.j;have L:=u.st;have K:=u.fr;clear hp hs u hv D;obtain ⟨P,q⟩:=O1 p.length;obtain ⟨S,r⟩:=O1 s.length;have k:=U q;have f:=U r;dsimp only at hi hj L K;rw [<- q] at hi a4 ⊢;rw [<- r] at hj a5 ⊢;clear q r
 conv=>arg 2;whnf
 by_cases h1:i=P
 . have c1:((i:Int) == (P:Int))=true:=by rw [M1];omega
   have c3:decide ((i:Int)<(P:Int))=false:=by rw [X1];omega
   have I:¬i<P:=by omega
   by_cases h2:j=S
   . have c2:((j:Int) == (S:Int))=true:=by rw [M1];omega
     have d:=U (o.o.symm.trans (sU g.o (h1.trans k.o) (h2.trans f.o)));clear h1 h2;go_wp2
     try simp only [Exit.jump]
     go_ret;exact ⟨qx d.o.symm,m.o⟩
   have c2:((j:Int) == (S:Int))=false:=by rw [Y3];omega
   have c:=O0 (gD p s ⟨i,j,st,fr⟩) (.inl ⟨h1.trans k.o,fun h=>h2 (h.trans f.o.symm)⟩);clear h1 h2;by_cases h4:st=0
   . have M:decide (G<0)=true:=by rw [Z7];omega
     have d:=U (o.o.symm.trans (kH g.o c.o (.inl h4)));go_wp2;go_quiet (fail);go_wp2
     try simp only [Exit.jump]
     go_ret;exact ⟨qx d.o.symm,Below.drewN m.o _⟩
   have M:decide (G<0)=false:=by rw [X1];omega
   by_cases h5:fr=S
   . have N:((fr:Int) == (S:Int))=true:=by rw [M1];omega
     have d:=U (o.o.symm.trans (kH g.o c.o (.inr (.inl (h5.trans f.o)))));go_wp2;go_quiet (fail);go_wp2
     try simp only [Exit.jump]
     go_ret;exact ⟨qx d.o.symm,Below.drewN m.o _⟩
   have N:((fr:Int) == (S:Int))=false:=by rw [Y3];omega
   obtain ⟨V,W,A,-,J,B⟩:=R.o.at fr (by rw [<- f.o];omega);have k3:(0:Int)<=(fr:Int):=by omega
   have k4:(fr:Int)<(S:Int):=by omega
   subst A;have v:=O0 (∃z,z=s.getD fr 0) (⟨_,rfl⟩);obtain ⟨z,l⟩:=v.o;rw [<- l] at B;by_cases h6:z=47
   . have Q:(z == 47)=true:=by rw [M1];exact h6
     have d:=U (o.o.symm.trans (kH g.o c.o (.inr (.inr (l.symm.trans h6)))));clear l h4 h5 h6;go_wp2;go_quiet (fail);go_wp2
     try simp only [Exit.jump]
     go_ret;exact ⟨qx d.o.symm,Below.drewN m.o _⟩
   . have Q:(z == 47)=false:=by rw [Y3];exact h6
     have d:=U (gL g.o c.o ⟨h4,fun h=>h5 (h.trans f.o.symm),fun h=>h6 (l.trans h)⟩);clear l h4 h5 h6;go_wp2;go_quiet (fail);go_wp2;rw [show (fr:Int)+1=((fr+1:Nat):Int) from by omega];have q:=k.o;have r:=f.o;subst q;subst r;go_step3;refine ⟨rfl,⟨st,fr+1,st,fr+1,_,_,_,_,_,_,_,_,_,_,_,_,_,_,_,_,_,_,_,_,_,_,_,_,_,_,_,_,_,_,_,_,_,_,_,_,_,_,_,_,_,_,_,_,_,_,_,_,_,_,_,_,_,_,_,_,_,_,_,_,_,_,_,_,_,_,_,_,_,_,_,rfl,?_,d.o.2.1,d.o.1.symm.trans o.o,Below.drewN m.o _⟩,?_⟩
     . omega
     . rw [xx (j:=j) (h:=C),xx (i:=st) (j:=fr+1) (st:=st) (fr:=fr+1) (h:=by omega)];exact d.o.2.2
 have c1:((i:Int) == (P:Int))=false:=by rw [Y3];omega
 have I:i<P:=by omega
 have m1:(0:Int)<=(i:Int):=by omega
 have m2:(i:Int)<(P:Int):=by omega
 have m3:decide ((i:Int)<(P:Int))=true:=by rw [Z7];omega
 obtain ⟨pb,po,X,-,a1,Y⟩:=HP.o.at i (by rw [<- k.o];omega);subst X;obtain ⟨x,hx⟩:=O1 (p.getD i 0);rw [<- hx] at Y;have T:=U hx;clear h1 hx;by_cases h2:x=42
 . have q1:(x == 42)=true:=by rw [M1];exact h2
   have d:=U (rU g.o (show i<p.length by rw [<- k.o];exact I) (T.o.symm.trans h2));clear h2;go_wp2;rw [show (i:Int)+1=((i+1:Nat):Int) from by omega];have q:=k.o;have r:=f.o;subst q;subst r;go_step3;refine ⟨rfl,⟨i+1,j,i+1,j,_,_,_,_,_,_,_,_,_,_,_,_,_,_,_,_,_,_,_,_,_,_,_,_,_,_,_,_,_,_,_,_,_,_,_,_,_,_,_,_,_,_,_,_,_,_,_,_,_,_,_,_,_,_,_,_,_,_,_,_,_,_,_,_,_,_,_,_,_,_,_,rfl,?_,d.o.2.1,d.o.1.symm.trans o.o,m.o⟩,?_⟩
   . omega
   . rw [xx (j:=j) (h:=C),xx (i:=i+1) (j:=j) (st:=i+1) (fr:=j) (h:=by omega)];exact d.o.2.2
 have q1:(x == 42)=false:=by rw [Y3];exact h2
 have E:=O0 (¬p.getD i 0=42) (fun h=>h2 (T.o.trans h));clear h2;by_cases h3:j=S
 . have n1:¬j<S:=by omega
   have n2:decide ((j:Int)<(S:Int))=false:=by rw [X1];omega
   have c:=O0 (gD p s ⟨i,j,st,fr⟩) (.inr ⟨by rw [<- k.o];exact I,E.o,fun h=>absurd h (by rw [<- f.o];exact n1)⟩);clear h3;by_cases h4:st=0
   . have M:decide (G<0)=true:=by rw [Z7];omega
     have d:=U (o.o.symm.trans (kH g.o c.o (.inl h4)));go_wp2;go_quiet (fail);go_wp2
     try simp only [Exit.jump]
     go_ret;exact ⟨qx d.o.symm,Below.drewN m.o _⟩
   have M:decide (G<0)=false:=by rw [X1];omega
   by_cases h5:fr=S
   . have N:((fr:Int) == (S:Int))=true:=by rw [M1];omega
     have d:=U (o.o.symm.trans (kH g.o c.o (.inr (.inl (h5.trans f.o)))));go_wp2;go_quiet (fail);go_wp2
     try simp only [Exit.jump]
     go_ret;exact ⟨qx d.o.symm,Below.drewN m.o _⟩
   have N:((fr:Int) == (S:Int))=false:=by rw [Y3];omega
   obtain ⟨V,W,A,-,J,B⟩:=R.o.at fr (by rw [<- f.o];omega);have k3:(0:Int)<=(fr:Int):=by omega
   have k4:(fr:Int)<(S:Int):=by omega
   subst A;have v:=O0 (∃z,z=s.getD fr 0) (⟨_,rfl⟩);obtain ⟨z,l⟩:=v.o;rw [<- l] at B;by_cases h6:z=47
   . have Q:(z == 47)=true:=by rw [M1];exact h6
     have d:=U (o.o.symm.trans (kH g.o c.o (.inr (.inr (l.symm.trans h6)))));clear l h4 h5 h6;go_wp2;go_quiet (fail);go_wp2
     try simp only [Exit.jump]
     go_ret;exact ⟨qx d.o.symm,Below.drewN m.o _⟩
   . have Q:(z == 47)=false:=by rw [Y3];exact h6
     have d:=U (gL g.o c.o ⟨h4,fun h=>h5 (h.trans f.o.symm),fun h=>h6 (l.trans h)⟩);clear l h4 h5 h6;go_wp2;go_quiet (fail);go_wp2;rw [show (fr:Int)+1=((fr+1:Nat):Int) from by omega];have q:=k.o;have r:=f.o;subst q;subst r;go_step3;refine ⟨rfl,⟨st,fr+1,st,fr+1,_,_,_,_,_,_,_,_,_,_,_,_,_,_,_,_,_,_,_,_,_,_,_,_,_,_,_,_,_,_,_,_,_,_,_,_,_,_,_,_,_,_,_,_,_,_,_,_,_,_,_,_,_,_,_,_,_,_,_,_,_,_,_,_,_,_,_,_,_,_,_,rfl,?_,d.o.2.1,d.o.1.symm.trans o.o,Below.drewN m.o _⟩,?_⟩
     . omega
     . rw [xx (j:=j) (h:=C),xx (i:=st) (j:=fr+1) (st:=st) (fr:=fr+1) (h:=by omega)];exact d.o.2.2
 have n1:j<S:=by omega
 have n2:decide ((j:Int)<(S:Int))=true:=by rw [Z7];omega
 have m4:(0:Int)<=(j:Int):=by omega
 have m5:(j:Int)<(S:Int):=by omega
 obtain ⟨sb,so,Z,-,a3,a0⟩:=R.o.at j (by rw [<- f.o];omega);subst Z;obtain ⟨y,hy⟩:=O1 (s.getD j 0);rw [<- hy] at a0;have HY:=U hy;clear h3 hy;have F:=U (fun w=>sL x y w);obtain ⟨b,D⟩:=O1 (ub x y);rw [<- D] at F;have H:=U (show ub (p.getD i 0) (s.getD j 0)=b by rw [<- T.o,<- HY.o,D]);clear D;cases b
 case true =>
  have d:=U (sM g.o (show i<p.length by rw [<- k.o];exact I) E.o (show j<s.length by rw [<- f.o];exact n1) H.o);go_wp2;go_quiet ((go_at_call 313;exact Calls.quiet_of_same (F.o _)));go_wp2;rw [show (i:Int)+1=((i+1:Nat):Int) from by omega,show (j:Int)+1=((j+1:Nat):Int) from by omega];have q:=k.o;have r:=f.o;subst q;subst r;go_step3;refine ⟨rfl,⟨i+1,j+1,st,fr,_,_,_,_,_,_,_,_,_,_,_,_,_,_,_,_,_,_,_,_,_,_,_,_,_,_,_,_,_,_,_,_,_,_,_,_,_,_,_,_,_,_,_,_,_,_,_,_,_,_,_,_,_,_,_,_,_,_,_,_,_,_,_,_,_,_,_,_,_,_,_,rfl,?_,d.o.2.1,d.o.1.symm.trans o.o,Below.drewN m.o _⟩,?_⟩
  . omega
  . rw [xx (j:=j) (h:=C),xx (i:=i+1) (j:=j+1) (st:=st) (fr:=fr) (h:=by omega)];exact d.o.2.2
 case false =>
  have c:=O0 (gD p s ⟨i,j,st,fr⟩) (.inr ⟨by rw [<- k.o];exact I,E.o,fun _=>H.o⟩);by_cases h4:st=0
  . have M:decide (G<0)=true:=by rw [Z7];omega
    have d:=U (o.o.symm.trans (kH g.o c.o (.inl h4)));go_wp2;go_quiet ((go_at_call 313;exact Calls.quiet_of_same (F.o _)));go_wp2
    try simp only [Exit.jump]
    go_ret;exact ⟨qx d.o.symm,Below.drewN m.o _⟩
  have M:decide (G<0)=false:=by rw [X1];omega
  by_cases h5:fr=S
  . have N:((fr:Int) == (S:Int))=true:=by rw [M1];omega
    have d:=U (o.o.symm.trans (kH g.o c.o (.inr (.inl (h5.trans f.o)))));go_wp2;go_quiet ((go_at_call 313;exact Calls.quiet_of_same (F.o _)));go_wp2
    try simp only [Exit.jump]
    go_ret;exact ⟨qx d.o.symm,Below.drewN m.o _⟩
  have N:((fr:Int) == (S:Int))=false:=by rw [Y3];omega
  obtain ⟨V,W,A,-,J,B⟩:=R.o.at fr (by rw [<- f.o];omega);have k3:(0:Int)<=(fr:Int):=by omega
  have k4:(fr:Int)<(S:Int):=by omega
  obtain ⟨rfl,rfl⟩:sb=V/\so=W:=by simpa using A
  have v:=O0 (∃z,z=s.getD fr 0) (⟨_,rfl⟩);obtain ⟨z,l⟩:=v.o;rw [<- l] at B;by_cases h6:z=47
  . have Q:(z == 47)=true:=by rw [M1];exact h6
    have d:=U (o.o.symm.trans (kH g.o c.o (.inr (.inr (l.symm.trans h6)))));clear l h4 h5 h6;go_wp2;go_quiet ((go_at_call 313;exact Calls.quiet_of_same (F.o _)));go_wp2
    try simp only [Exit.jump]
    go_ret;exact ⟨qx d.o.symm,Below.drewN m.o _⟩
  . have Q:(z == 47)=false:=by rw [Y3];exact h6
    have d:=U (gL g.o c.o ⟨h4,fun h=>h5 (h.trans f.o.symm),fun h=>h6 (l.trans h)⟩);clear l h4 h5 h6;go_wp2;go_quiet ((go_at_call 313;exact Calls.quiet_of_same (F.o _)));go_wp2;rw [show (fr:Int)+1=((fr+1:Nat):Int) from by omega];have q:=k.o;have r:=f.o;subst q;subst r;go_step3;refine ⟨rfl,⟨st,fr+1,st,fr+1,_,_,_,_,_,_,_,_,_,_,_,_,_,_,_,_,_,_,_,_,_,_,_,_,_,_,_,_,_,_,_,_,_,_,_,_,_,_,_,_,_,_,_,_,_,_,_,_,_,_,_,_,_,_,_,_,_,_,_,_,_,_,_,_,_,_,_,_,_,_,_,rfl,?_,d.o.2.1,d.o.1.symm.trans o.o,Below.drewN m.o _⟩,?_⟩
    . omega
    . rw [xx (j:=j) (h:=C),xx (i:=st) (j:=fr+1) (st:=st) (fr:=fr+1) (h:=by omega)];exact d.o.2.2
theorem dN (p s:List Int) (pa b:Option Addr) (f g:Nat) (w:World) (i:xg w 0 w.heap.size pa p) (j:xg w 0 w.heap.size b s) (c:p.length<=4294967296) (d:s.length<=4294967296) :
 Calls Tryz.prog 312 #[.slice pa p.length f,.slice b s.length g] w fun e w2=>e=.returned (.bool (up p s))/\O5 w w2:=by
 have a:=U (rL p s pa b f g w i j c d);clear i j;go_enter Tryz.func312,Tryz.ntmps312;go_wp2;refine wp_scope_jumps 0 (rD p s pa b f g w.heap.size w) (fK p s) rfl ?_ ?_
 . go_wp2;go_step3;rename_i hK;refine hK _ _ ?_;refine wp_mono (a.o _ w ⟨0,0,0,0,-1,_,_,_,_,_,_,_,_,_,_,_,_,_,_,_,_,_,_,_,_,_,_,_,_,_,_,_,_,_,_,_,_,_,_,_,_,_,_,_,_,_,_,_,_,_,_,_,_,_,_,_,_,_,_,_,_,_,_,_,_,_,_,_,_,_,_,_,_,_,_,rfl,rfl,GOk.start p s,rfl,Z0 _ _⟩) ?_;intro e a2 w2 h;cases e with
   | goto l=>exact ⟨h.1,h.2.1⟩
   | normal=>exact h
   | exit _=>exact h
   | ret=>exact h
   | panic _=>exact h
   | outgrown=>exact h
 . intro a2 w2 hJ;have h:=a.o a2 w2 hJ;refine wp_seq (wp_skip ?_);show Code.wp _ _ _ a2 w2;exact h
