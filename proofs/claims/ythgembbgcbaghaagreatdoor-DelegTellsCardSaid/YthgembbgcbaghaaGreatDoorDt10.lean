import Derived.Test.YthgembbgcbaghaaGreatDoorDt09
import Derived.Test.YthgembbgcbaghaaGreatDoorDt05
import Derived.Laws.RangeAny
import Derived.ScopeJumps
import Derived.WalkMore
import Derived.Test.YthgembbgcbaghaaGreatDoorDt04
import Derived.BigRegion
import Derived.StillTailTactics
import Derived.IntWalk
set_option maxHeartbeats 4000000
set_option maxRecDepth 1000000

namespace Go.Proofs.YthgembbgcbaghaaGreatDoor
open Go.RowKit
def qR (s:ByteArray) (pos:Nat):Bool:=((Utf8.decode s pos).1 == 65533) && !Lib.hasPrefix (s.data.toList.drop pos) [239,191,189]
def jE (s:ByteArray):Nat->Nat->Bool
 | 0,_=>true
 | f+1,pos=>if pos<s.size then (if qR s pos then false else jE s f (pos+(Utf8.decode s pos).2)) else true
def vK (s:ByteArray):Bool:=jE s (s.size+1) 0
def mJ (s:ByteArray) (w:World) (e:Ending) (w':World):Prop:=∃n:Int,e=.returned (.tuple #[.int .i64 n,.bool (vK s)])/\Below w.heap.size w w'
theorem pN (s:ByteArray) (pos:Nat):1<=(Utf8.decode s pos).2:=by
 unfold Utf8.decode;dsimp only;repeat' split
 all_goals omega
theorem eS (s:ByteArray) (w:World) (hs:s.size<=9223372036854775807) :
 Calls Tryz.prog 151 #[.string s] w (mJ s w):=by
 go_enter Tryz.func151,Tryz.ntmps151;go_wp2;go_loopw [4,5,6] (fun v4 _ _ wr=>∃(a n f:Nat),n<=a/\n<=s.size/\v4=.int .i64 n/\wr=w.iter s a/\jE s f a=vK s/\s.size+1<=f+a) (fun _ _ _ wr=>s.size - wr.iterPos w.heap.size)
 case atStart=>exact ⟨0,0,s.size+1,by omega,by omega,rfl,rfl,rfl,by omega⟩
 case round =>
  obtain ⟨a,n,f,B,y,rfl,rfl,c,A⟩:=hrel;by_cases hlt:a<s.size
  . obtain ⟨f,rfl⟩:∃g,f=g+1:=⟨f - 1,by omega⟩;have x:=pN s a;have v:=decode_le s a;have p:jE s (f+1) a=if qR s a then false else jE s f (a+(Utf8.decode s a).2):=by rw [jE,J1 hlt]
    have h:qR s a=(((Utf8.decode s a).1 == 65533) && !Lib.hasPrefix (s.data.toList.drop a) [239,191,189]):=rfl;have l:=fun ty=>run_next_any (P:=Tryz.prog) w s a ty hlt;generalize (Utf8.decode s a).1=r at *;generalize (Utf8.decode s a).2=d at *;have o:(s.extract a s.size).data.toList=s.data.toList.drop a:=(by rw [ByteArray.data_extract,Array.toList_extract,List.extract_eq_take_drop,Z8];rw [List.length_drop,qp];exact J0 _);have m:=U o;rw [p] at c;have k:=U c;have i:=U h;clear c p h o;by_cases hr:r=65533
    . have u:((r:Int) == 65533)=true:=by simp [hr]
      have b:(r == 65533)=true:=by simp [hr]
      cases hp:Lib.hasPrefix (s.data.toList.drop a) [239,191,189]
      . have j:=U (show vK s=false by rw [<- k.o,i.o,b,hp];rfl);have q:=U hp;clear hp b hr;go_wp2_with fail;refine (Tryz.strings_HasPrefix _ _ _).mono ?_;rintro e z ⟨rfl,rfl⟩;rw [show Lib.hasPrefix (s.extract a s.size).data.toList (⟨#[239,191,189]⟩:ByteArray).data.toList=false by rw [m.o];exact q.o];go_wp2;go_ret2;exact ⟨0,by rw [j.o];rfl,(Z0 _ _).alloc lz _⟩
      . have j:=U (show jE s f (a+d)=vK s by rw [<- k.o,i.o,b,hp];rfl);have q:=U hp;clear hp b hr;go_wp2_with fail;refine (Tryz.strings_HasPrefix _ _ _).mono ?_;rintro e z ⟨rfl,rfl⟩;rw [show Lib.hasPrefix (s.extract a s.size).data.toList (⟨#[239,191,189]⟩:ByteArray).data.toList=true by rw [m.o];exact q.o];go_wp2;go_roundw
        case rel=>exact ⟨a+d,n+1,f,by omega,by omega,by go_num,rfl,j.o,by omega⟩
        case measure=>simp;omega
    . have u:((r:Int) == 65533)=false:=by simp;omega
      have b:(r == 65533)=false:=by simp [hr]
      have j:=U (show jE s f (a+d)=vK s by rw [<- k.o,i.o,b];rfl);clear b hr;go_wp2;go_roundw
      case rel=>exact ⟨a+d,n+1,f,by omega,by omega,by go_num,rfl,j.o,by omega⟩
      case measure=>simp;omega
  . have l:=fun ty=>run_next_end (P:=Tryz.prog) w s a ty hlt;have j:=U (show vK s=true by
     rw [<- c];cases f with
     | zero=>rfl
     | succ f=>rw [jE,Z5 hlt])
    clear c;go_wp2;go_ret2;exact ⟨n,by rw [j.o];rfl,(Z0 _ _).alloc lz _⟩
theorem pS (s:ByteArray) (w:World) (hs:s.size<=9223372036854775807) :
 Calls Tryz.prog 86 #[.string s] w fun e w'=>e=.returned (.bool (vK s))/\Below w.heap.size w w':=by
 go_enter Tryz.func86,Tryz.ntmps86;go_wp2_with fail;refine (eS s w hs).mono ?_;rintro e c ⟨n,rfl,a⟩;have b:=U a;clear a;go_wp2;go_ret;exact ⟨rfl,b.o⟩
theorem lC (s t:ByteArray) (w:World) (hs:s.size<=9223372036854775807) (ht:t.size<=9223372036854775807) :
 Calls Tryz.prog 179 #[.agg #[.string s,.string t]] w fun e w'=>e=.returned (.bool (zh s.data.toList t.data.toList))/\Below w.heap.size w w':=by
 unfold zh;cases hr:zf s.data.toList
 . have h:=U hr;go_enter Tryz.func179,Tryz.ntmps179;go_wp2_with (go_at_call 134;refine (ko s _ hs).mono ?_;rintro e w' ⟨rfl,rfl⟩);go_ret;exact ⟨rfl,(Z0 _ _).alloc lz _⟩
 by_cases h1:t.size<2\/128<t.size\/t.size % 2=1
 . have a:=U (mi h1);rw [a.o];by_cases b:t.size=0
   . have c:¬0<(t.size:Int):=by omega
     clear h1 b;go_enter Tryz.func179,Tryz.ntmps179;go_wp2_with (go_at_call 134;refine (ko s _ hs).mono ?_;rintro e w' ⟨rfl,rfl⟩);go_ret;exact ⟨rfl,(Z0 _ _).alloc lz _⟩
   have c:0<t.size:=by omega
   clear b;by_cases d:128<t.size
   . clear h1;go_enter Tryz.func179,Tryz.ntmps179;go_wp2_with (go_at_call 134;refine (ko s _ hs).mono ?_;rintro e w' ⟨rfl,rfl⟩);go_ret;exact ⟨rfl,(Z0 _ _).alloc lz _⟩
   have g:((t.size:Int) % 2 == 0)=false:=by simp;omega
   have f:t.size<=128:=by omega
   clear h1 d;go_enter Tryz.func179,Tryz.ntmps179;go_wp2_with (go_at_call 134;refine (ko s _ hs).mono ?_;rintro e w' ⟨rfl,rfl⟩);go_ret;exact ⟨rfl,(Z0 _ _).alloc lz _⟩
 . have a:=U (rA (s:=t) (by omega) (by omega) (by omega));rw [a.o];have b:2<=t.size:=by omega
   have d:t.size<=128:=by omega
   have g:((t.size:Int) % 2 == 0)=true:=by simp;omega
   clear h1;go_enter Tryz.func179,Tryz.ntmps179;go_wp2_with (first|(go_at_call 134;refine (ko s _ hs).mono ?_;rintro e w' ⟨rfl,rfl⟩)|(go_at_call 195;refine (tk t _ ht).mono ?_;rintro e w' ⟨rfl,rfl⟩));go_ret;exact ⟨by simp,(Z0 _ _).alloc lz _⟩
theorem tv (t:ByteArray) (w:World) (ht:t.size<=9223372036854775807) :
 Calls Tryz.prog 222 #[.string t] w fun e w'=>e=.returned (.bool (yK t.data.toList))/\w=w':=by
 by_cases g1:t.size<2
 . have a:=U (mi (.inl g1));go_enter Tryz.func222,Tryz.ntmps222;go_wp2;go_ret;exact ⟨qz a.o.symm,rfl⟩
 by_cases g2:128<t.size
 . have a:=U (mi (.inr (.inl g2)));go_enter Tryz.func222,Tryz.ntmps222;go_wp2;go_ret;exact ⟨qz a.o.symm,rfl⟩
 by_cases g3:t.size % 2=0
 . have a:=U (rA (s:=t) (by omega) (by omega) (by omega));have b:((t.size:Int) % 2 == 0)=true:=by simp;omega
   clear g3;go_enter Tryz.func222,Tryz.ntmps222;go_wp2_with (go_at_call 199;refine (mX t _ ht).mono ?_;rintro e w' ⟨rfl,rfl⟩);go_ret;exact ⟨qz a.o.symm,rfl⟩
 . have a:=U (mi (s:=t) (.inr (.inr (by omega))));have b:((t.size:Int) % 2 == 0)=false:=by simp;omega
   clear g3;go_enter Tryz.func222,Tryz.ntmps222;go_wp2;go_ret;exact ⟨qz a.o.symm,rfl⟩
theorem pA (s t:ByteArray) (w:World) (hs:s.size<=9223372036854775807) (ht:t.size<=9223372036854775807) :
 Calls Tryz.prog 168 #[.agg #[.string s,.string t]] w fun e w'=>e=.returned (.bool (zh s.data.toList t.data.toList))/\Below w.heap.size w w':=by
 unfold zh;cases hr:zf s.data.toList
 all_goals
  go_enter Tryz.func168,Tryz.ntmps168;go_wp2_with (first|(go_at_call 140;refine (gP s _ hs).mono ?_;rintro e w' ⟨rfl,rfl⟩)|(go_at_call 222;refine (tv t _ ht).mono ?_;rintro e w' ⟨rfl,rfl⟩));go_ret;exact ⟨by simp,(Z0 _ _).alloc lz _⟩
mutual
def JV.count:JV->Nat
 | .mk _ _ _ _ xs=>1+JV.counts xs
def JV.counts:List JV->Nat
 | []=>0
 | x :: r=>JV.count x+JV.counts r
end
theorem JV.counts_take (l:List JV) (k:Nat) (h:k<l.length):JV.counts (l.take (k+1))=JV.counts (l.take k)+JV.count l[k]:=by
 induction l generalizing k with
 | nil=>simp at h
 | cons x r ih =>
  cases k with
  | zero=>simp [JV.counts]
  | succ k=>simp only [V8,JV.counts,H6];rw [ih k (by simpa using h)];omega
mutual
theorem JV.count_le:∀v:JV,v.count<=v.wt
 | .mk _ _ _ _ xs=>by have:=JV.counts_le xs;simp [JV.count,JV.wt];omega
theorem JV.counts_le:∀l:List JV,JV.counts l<=JV.wts l
 | []=>by simp [JV.counts]
 | x :: r=>by have:=JV.count_le x;have:=JV.counts_le r;simp [JV.counts,JV.wts];omega
end
theorem JV.wts_take (l:List JV) (k:Nat):JV.wts (l.take k)<=JV.wts l:=by
 induction l generalizing k with
 | nil=>simp
 | cons x r ih=>cases k with
  | zero=>simp [JV.wts]
  | succ k=>have:=ih k;simp [JV.wts];omega
theorem tw (N:Nat):∀(v:JV) (x:Value) (w:World),v.wt<=N->N<=4294967296->Rep w 0 w.heap.size v x ->
 Calls Tryz.prog 107 #[x] w fun e w'=>e=.returned (.int .i64 v.count)/\Below w.heap.size w w':=by
 induction N with
 | zero=>intro v x w h;have:=v.wt_pos;omega
 | succ N ih =>
  intro v x w hN hM hR;obtain ⟨B,C,m,o,rfl,Z,h2,D,p⟩:=hR.parts;obtain ⟨I,J,K,L⟩:=v.wt_bd;have A:=U ih;clear ih;have r:=U p;clear p hR D;go_enter Tryz.func107,Tryz.ntmps107;go_wp2;go_loopw [3,4] (fun s i wr=>∃k:Nat,k<=v.items.length/\i=.int .i64 k/\s=.int .i64 (1+JV.counts (v.items.take k):Nat)/\Below (w.heap.size+1) (w.alloc (.cells #[.int .u8 v.kind,.int .i64 v.n,.string v.t,.slice B v.names.length C,.slice m v.items.length o] 25)) wr) (fun _ i _=>v.items.length - (intOf i).toNat)
  case atStart=>exact ⟨0,J8 _,rfl,by simp [JV.counts],Z0 _ _⟩
  case round =>
   obtain ⟨k,hk,rfl,rfl,a⟩:=hrel;have E:wr.cell? ⟨w.heap.size,4,none⟩=some (.slice m v.items.length o):=by rw [a.cell (by simp)];go_simp
   have d:Below w.heap.size w wr:=((Z0 _ _).alloc lz _).trans (a.mono (by omega));have hz:w.heap.size<wr.heap.size:=by have:=a.size;simp at this;omega
   have u:=U a;clear a;by_cases hlt:k<v.items.length
   . obtain ⟨b,H,M,P,Q,R,S,rfl,_,hb,T,V,W,X,Y,c⟩:=(r.o.below d lz lz d.size).at k hlt;have q:=JV.counts_le (v.items.take k);have j:=JV.wts_take v.items k;have F:=JV.wts_get v.items k hlt;have G:=JV.count_le v.items[k];have z:=U (JV.counts_take v.items k hlt);have l:=U d;clear d;have y:=U c;clear c;go_wp2_with fail;refine (A.o v.items[k] _ _ (by omega) (by omega) y.o).mono ?_;rintro e w1 ⟨rfl,f⟩;have g:=U f;clear f;go_wp2;go_roundw
     case rel=>exact ⟨k+1,by omega,by go_num,by rw [z.o];go_num,u.o.trans (g.o.mono (by omega))⟩
     case measure=>simp [intOf];omega
   . obtain rfl:k=v.items.length:=by omega
     have l:=U d;clear d;go_wp2;go_ret;refine ⟨xo ?_,l.o⟩;rw [M5];cases v;rfl
theorem ol (a c:Int) (w:World):Calls Tryz.prog 313 #[.int .i32 a,.int .i32 c] w fun e w'=>e=.returned (.bool (cF a c))/\w'=w:=by
 have b:=O0 (cF a c=if a=63 then decide (c≠47) else decide (a=c)) rfl;by_cases ha:a=63
 . have f:(a == 63)=true:=by simpa using ha
   rw [J1 ha] at b;clear ha;by_cases hc:c=47
   . have d:(c != 47)=false:=by simpa using hc
     rw [Z7 (by simpa using hc)] at b;go_enter Tryz.func313,Tryz.ntmps313;go_wp2;go_ret;exact ⟨qz b.o.symm,rfl⟩
   . have d:(c != 47)=true:=by simpa using hc
     rw [J2 hc] at b;go_enter Tryz.func313,Tryz.ntmps313;go_wp2;go_ret;exact ⟨qz b.o.symm,rfl⟩
 . have f:(a == 63)=false:=by simpa using ha
   rw [Z5 ha] at b;clear ha;by_cases hc:a=c
   . have d:(a == c)=true:=by simpa using hc
     rw [J2 hc] at b;go_enter Tryz.func313,Tryz.ntmps313;go_wp2;go_ret;exact ⟨qz b.o.symm,rfl⟩
   . have d:(a == c)=false:=by simpa using hc
     rw [Z7 hc] at b;go_enter Tryz.func313,Tryz.ntmps313;go_wp2;go_ret;exact ⟨qz b.o.symm,rfl⟩
def tg (f:Func):Code:=match f.body with|some (.seq _ (.scope c))=>(findLabel c 0).getD .skip|_=>.skip
def tf (p s:List Int) (pa sa:Option Addr) (pc sc:Nat) (B:Nat) (w0:World) (a:Act) (w:World):Prop :=
 ∃(i j st fr:Nat) (sv:Int) (u9 u10 u11 u12 u13 u14 u15 u16 u17 u18 u19 u20 u21 u22 u23 u24 u25 u26 u27 u28 u29 u30 u31 u32 u33 u34 u35 u36 u37 u38 u39 u40 u41 u42 u43 u44 u45 u46 u47 u48 u49 u50 u51 u52 u53 u54 u55 u56 u57 u58 u59 u60 u61 u62 u63 u64 u65 u66 u67 u68 u69 u70 u71 u72 u73 u74 u75 u76 u77 u78:Value),a={ tmps:=(Value.slice pa p.length pc :: .slice sa s.length sc :: undef :: undef :: .bool false :: .int .i64 i :: .int .i64 j :: .int .i64 sv :: .int .i64 fr :: u9 :: u10 :: u11 :: u12 :: u13 :: u14 :: u15 :: u16 :: u17 :: u18 :: u19 :: u20 :: u21 :: u22 :: u23 :: u24 :: u25 :: u26 :: u27 :: u28 :: u29 :: u30 :: u31 :: u32 :: u33 :: u34 :: u35 :: u36 :: u37 :: u38 :: u39 :: u40 :: u41 :: u42 :: u43 :: u44 :: u45 :: u46 :: u47 :: u48 :: u49 :: u50 :: u51 :: u52 :: u53 :: u54 :: u55 :: u56 :: u57 :: u58 :: u59 :: u60 :: u61 :: u62 :: u63 :: u64 :: u65 :: u66 :: u67 :: u68 :: u69 :: u70 :: u71 :: u72 :: u73 :: u74 :: u75 :: u76 :: u77 :: u78 :: []).toArray,defers:=[] }/\sv+1=(st:Int)/\GOk p s ⟨i,j,st,fr⟩/\ya p s ⟨i,j,st,fr⟩=cH p s/\Below B w0 w
def mK (p s:List Int) (a:Act) (_w:World):Nat:=gmu p s ⟨(intOf (a.tmps.getD 5 undef)).toNat,0,(intOf (a.tmps.getD 7 undef)+1).toNat,(intOf (a.tmps.getD 8 undef)).toNat⟩
theorem xd (p s:List Int) (v0 v1 v2 v3 v4:Value) (i j st fr:Nat) (sv:Int) (u9 u10 u11 u12 u13 u14 u15 u16 u17 u18 u19 u20 u21 u22 u23 u24 u25 u26 u27 u28 u29 u30 u31 u32 u33 u34 u35 u36 u37 u38 u39 u40 u41 u42 u43 u44 u45 u46 u47 u48 u49 u50 u51 u52 u53 u54 u55 u56 u57 u58 u59 u60 u61 u62 u63 u64 u65 u66 u67 u68 u69 u70 u71 u72 u73 u74 u75 u76 u77 u78:Value) (w:World) (h:sv+1=(st:Int)):mK p s { tmps:=(v0 :: v1 :: v2 :: v3 :: v4 :: .int .i64 i :: .int .i64 j :: .int .i64 sv :: .int .i64 fr :: u9 :: u10 :: u11 :: u12 :: u13 :: u14 :: u15 :: u16 :: u17 :: u18 :: u19 :: u20 :: u21 :: u22 :: u23 :: u24 :: u25 :: u26 :: u27 :: u28 :: u29 :: u30 :: u31 :: u32 :: u33 :: u34 :: u35 :: u36 :: u37 :: u38 :: u39 :: u40 :: u41 :: u42 :: u43 :: u44 :: u45 :: u46 :: u47 :: u48 :: u49 :: u50 :: u51 :: u52 :: u53 :: u54 :: u55 :: u56 :: u57 :: u58 :: u59 :: u60 :: u61 :: u62 :: u63 :: u64 :: u65 :: u66 :: u67 :: u68 :: u69 :: u70 :: u71 :: u72 :: u73 :: u74 :: u75 :: u76 :: u77 :: u78 :: []).toArray,defers:=[] } w=gmu p s ⟨i,j,st,fr⟩:=by show gmu p s ⟨((i:Int)).toNat,0,(sv+1).toNat,((fr:Int)).toNat⟩=_;rw [h,Int.toNat_natCast,Int.toNat_natCast,Int.toNat_natCast];rfl
theorem th (p s:List Int) (pa sa:Option Addr) (pc sc:Nat) (w:World) (hp:xe w 0 w.heap.size pa p) (hs:xe w 0 w.heap.size sa s) (hpl:p.length<=4294967296) (hsl:s.length<=4294967296) (a:Act) (wr:World) (hJ:tf p s pa sa pc sc w.heap.size w a wr) :
 (cC 1 (tg Tryz.f312)).wp Tryz.prog (Exit.jump 0 (fun a2 w2=>tf p s pa sa pc sc w.heap.size w a2 w2/\mK p s a2 w2<mK p s a wr) (bodyPost Tryz.prog Tryz.f312 fun e w2=>e=.returned (.bool (cH p s))/\Below w.heap.size w w2)) a wr:=by
 obtain ⟨i,j,st,fr,G,u9,u10,u11,u12,u13,u14,u15,u16,u17,u18,u19,u20,u21,u22,u23,u24,u25,u26,u27,u28,u29,u30,u31,u32,u33,u34,u35,u36,u37,u38,u39,u40,u41,u42,u43,u44,u45,u46,u47,u48,u49,u50,u51,u52,u53,u54,u55,u56,u57,u58,u59,u60,u61,u62,u63,u64,u65,u66,u67,u68,u69,u70,u71,u72,u73,u74,u75,u76,u77,u78,rfl,C,u,hv,D⟩:=hJ;have HP:=U (hp.below D lz lz D.size);have R:=U (hs.below D lz lz D.size);have g:=U u;have o:=U hv;have m:=U D;have hi:=u.i;have hj:=u.j;have L:=u.st;have K:=u.fr;clear hp hs u hv D;obtain ⟨P,q⟩:=O1 p.length;obtain ⟨S,r⟩:=O1 s.length;have k:=U q;have f:=U r;dsimp only at hi hj L K;rw [<- q] at hi hpl ⊢;rw [<- r] at hj hsl ⊢;clear q r
 conv=>arg 2;whnf
 by_cases h1:i=P
 . have c1:((i:Int) == (P:Int))=true:=by rw [zc6];omega
   have c3:decide ((i:Int)<(P:Int))=false:=by rw [Y4];omega
   have I:¬i<P:=by omega
   by_cases h2:j=S
   . have c2:((j:Int) == (S:Int))=true:=by rw [zc6];omega
     have d:=U (o.o.symm.trans (oh g.o (h1.trans k.o) (h2.trans f.o)));clear h1 h2;go_wp2
     try simp only [Exit.jump]
     go_ret;exact ⟨qz d.o.symm,m.o⟩
   have c2:((j:Int) == (S:Int))=false:=by rw [Y8];omega
   have c:=O0 (pG p s ⟨i,j,st,fr⟩) (.inl ⟨h1.trans k.o,fun h=>h2 (h.trans f.o.symm)⟩);clear h1 h2;by_cases h4:st=0
   . have M:decide (G<0)=true:=by rw [Q6];omega
     have d:=U (o.o.symm.trans (vX g.o c.o (.inl h4)));go_wp2;go_quiet (fail);go_wp2
     try simp only [Exit.jump]
     go_ret;exact ⟨qz d.o.symm,Below.drewN m.o _⟩
   have M:decide (G<0)=false:=by rw [Y4];omega
   by_cases h5:fr=S
   . have N:((fr:Int) == (S:Int))=true:=by rw [zc6];omega
     have d:=U (o.o.symm.trans (vX g.o c.o (.inr (.inl (h5.trans f.o)))));go_wp2;go_quiet (fail);go_wp2
     try simp only [Exit.jump]
     go_ret;exact ⟨qz d.o.symm,Below.drewN m.o _⟩
   have N:((fr:Int) == (S:Int))=false:=by rw [Y8];omega
   obtain ⟨V,W,A,-,J,B⟩:=R.o.at fr (by rw [<- f.o];omega);have k3:(0:Int)<=(fr:Int):=by omega
   have k4:(fr:Int)<(S:Int):=by omega
   subst A;have v:=O0 (∃z,z=s.getD fr 0) (⟨_,rfl⟩);obtain ⟨z,l⟩:=v.o;rw [<- l] at B;by_cases h6:z=47
   . have Q:(z == 47)=true:=by rw [zc6];exact h6
     have d:=U (o.o.symm.trans (vX g.o c.o (.inr (.inr (l.symm.trans h6)))));clear l h4 h5 h6;go_wp2;go_quiet (fail);go_wp2
     try simp only [Exit.jump]
     go_ret;exact ⟨qz d.o.symm,Below.drewN m.o _⟩
   . have Q:(z == 47)=false:=by rw [Y8];exact h6
     have d:=U (pB g.o c.o ⟨h4,fun h=>h5 (h.trans f.o.symm),fun h=>h6 (l.trans h)⟩);clear l h4 h5 h6;go_wp2;go_quiet (fail);go_wp2;rw [show (fr:Int)+1=((fr+1:Nat):Int) from by omega];have q:=k.o;have r:=f.o;subst q;subst r;go_step3;refine ⟨rfl,⟨st,fr+1,st,fr+1,_,_,_,_,_,_,_,_,_,_,_,_,_,_,_,_,_,_,_,_,_,_,_,_,_,_,_,_,_,_,_,_,_,_,_,_,_,_,_,_,_,_,_,_,_,_,_,_,_,_,_,_,_,_,_,_,_,_,_,_,_,_,_,_,_,_,_,_,_,_,_,rfl,?_,d.o.2.1,d.o.1.symm.trans o.o,Below.drewN m.o _⟩,?_⟩
     . omega
     . rw [xd (j:=j) (h:=C),xd (i:=st) (j:=fr+1) (st:=st) (fr:=fr+1) (h:=by omega)];exact d.o.2.2
 have c1:((i:Int) == (P:Int))=false:=by rw [Y8];omega
 have I:i<P:=by omega
 have m1:(0:Int)<=(i:Int):=by omega
 have m2:(i:Int)<(P:Int):=by omega
 have m3:decide ((i:Int)<(P:Int))=true:=by rw [Q6];omega
 obtain ⟨pb,po,X,-,a1,Y⟩:=HP.o.at i (by rw [<- k.o];omega);subst X;obtain ⟨x,hx⟩:=O1 (p.getD i 0);rw [<- hx] at Y;have T:=U hx;clear h1 hx;by_cases h2:x=42
 . have q1:(x == 42)=true:=by rw [zc6];exact h2
   have d:=U (tj g.o (show i<p.length by rw [<- k.o];exact I) (T.o.symm.trans h2));clear h2;go_wp2;rw [show (i:Int)+1=((i+1:Nat):Int) from by omega];have q:=k.o;have r:=f.o;subst q;subst r;go_step3;refine ⟨rfl,⟨i+1,j,i+1,j,_,_,_,_,_,_,_,_,_,_,_,_,_,_,_,_,_,_,_,_,_,_,_,_,_,_,_,_,_,_,_,_,_,_,_,_,_,_,_,_,_,_,_,_,_,_,_,_,_,_,_,_,_,_,_,_,_,_,_,_,_,_,_,_,_,_,_,_,_,_,_,rfl,?_,d.o.2.1,d.o.1.symm.trans o.o,m.o⟩,?_⟩
   . omega
   . rw [xd (j:=j) (h:=C),xd (i:=i+1) (j:=j) (st:=i+1) (fr:=j) (h:=by omega)];exact d.o.2.2
 have q1:(x == 42)=false:=by rw [Y8];exact h2
 have E:=O0 (¬p.getD i 0=42) (fun h=>h2 (T.o.trans h));clear h2;by_cases h3:j=S
 . have n1:¬j<S:=by omega
   have n2:decide ((j:Int)<(S:Int))=false:=by rw [Y4];omega
   have c:=O0 (pG p s ⟨i,j,st,fr⟩) (.inr ⟨by rw [<- k.o];exact I,E.o,fun h=>absurd h (by rw [<- f.o];exact n1)⟩);clear h3;by_cases h4:st=0
   . have M:decide (G<0)=true:=by rw [Q6];omega
     have d:=U (o.o.symm.trans (vX g.o c.o (.inl h4)));go_wp2;go_quiet (fail);go_wp2
     try simp only [Exit.jump]
     go_ret;exact ⟨qz d.o.symm,Below.drewN m.o _⟩
   have M:decide (G<0)=false:=by rw [Y4];omega
   by_cases h5:fr=S
   . have N:((fr:Int) == (S:Int))=true:=by rw [zc6];omega
     have d:=U (o.o.symm.trans (vX g.o c.o (.inr (.inl (h5.trans f.o)))));go_wp2;go_quiet (fail);go_wp2
     try simp only [Exit.jump]
     go_ret;exact ⟨qz d.o.symm,Below.drewN m.o _⟩
   have N:((fr:Int) == (S:Int))=false:=by rw [Y8];omega
   obtain ⟨V,W,A,-,J,B⟩:=R.o.at fr (by rw [<- f.o];omega);have k3:(0:Int)<=(fr:Int):=by omega
   have k4:(fr:Int)<(S:Int):=by omega
   subst A;have v:=O0 (∃z,z=s.getD fr 0) (⟨_,rfl⟩);obtain ⟨z,l⟩:=v.o;rw [<- l] at B;by_cases h6:z=47
   . have Q:(z == 47)=true:=by rw [zc6];exact h6
     have d:=U (o.o.symm.trans (vX g.o c.o (.inr (.inr (l.symm.trans h6)))));clear l h4 h5 h6;go_wp2;go_quiet (fail);go_wp2
     try simp only [Exit.jump]
     go_ret;exact ⟨qz d.o.symm,Below.drewN m.o _⟩
   . have Q:(z == 47)=false:=by rw [Y8];exact h6
     have d:=U (pB g.o c.o ⟨h4,fun h=>h5 (h.trans f.o.symm),fun h=>h6 (l.trans h)⟩);clear l h4 h5 h6;go_wp2;go_quiet (fail);go_wp2;rw [show (fr:Int)+1=((fr+1:Nat):Int) from by omega];have q:=k.o;have r:=f.o;subst q;subst r;go_step3;refine ⟨rfl,⟨st,fr+1,st,fr+1,_,_,_,_,_,_,_,_,_,_,_,_,_,_,_,_,_,_,_,_,_,_,_,_,_,_,_,_,_,_,_,_,_,_,_,_,_,_,_,_,_,_,_,_,_,_,_,_,_,_,_,_,_,_,_,_,_,_,_,_,_,_,_,_,_,_,_,_,_,_,_,rfl,?_,d.o.2.1,d.o.1.symm.trans o.o,Below.drewN m.o _⟩,?_⟩
     . omega
     . rw [xd (j:=j) (h:=C),xd (i:=st) (j:=fr+1) (st:=st) (fr:=fr+1) (h:=by omega)];exact d.o.2.2
 have n1:j<S:=by omega
 have n2:decide ((j:Int)<(S:Int))=true:=by rw [Q6];omega
 have m4:(0:Int)<=(j:Int):=by omega
 have m5:(j:Int)<(S:Int):=by omega
 obtain ⟨sb,so,Z,-,a3,a0⟩:=R.o.at j (by rw [<- f.o];omega);subst Z;obtain ⟨y,hy⟩:=O1 (s.getD j 0);rw [<- hy] at a0;have HY:=U hy;clear h3 hy;have F:=U (fun w=>ol x y w);obtain ⟨b,D⟩:=O1 (cF x y);rw [<- D] at F;have H:=U (show cF (p.getD i 0) (s.getD j 0)=b by rw [<- T.o,<- HY.o,D]);clear D;cases b
 case true =>
  have d:=U (ou g.o (show i<p.length by rw [<- k.o];exact I) E.o (show j<s.length by rw [<- f.o];exact n1) H.o);go_wp2;go_quiet ((go_at_call 313;exact Calls.quiet_of_same (F.o _)));go_wp2;rw [show (i:Int)+1=((i+1:Nat):Int) from by omega,show (j:Int)+1=((j+1:Nat):Int) from by omega];have q:=k.o;have r:=f.o;subst q;subst r;go_step3;refine ⟨rfl,⟨i+1,j+1,st,fr,_,_,_,_,_,_,_,_,_,_,_,_,_,_,_,_,_,_,_,_,_,_,_,_,_,_,_,_,_,_,_,_,_,_,_,_,_,_,_,_,_,_,_,_,_,_,_,_,_,_,_,_,_,_,_,_,_,_,_,_,_,_,_,_,_,_,_,_,_,_,_,rfl,?_,d.o.2.1,d.o.1.symm.trans o.o,Below.drewN m.o _⟩,?_⟩
  . omega
  . rw [xd (j:=j) (h:=C),xd (i:=i+1) (j:=j+1) (st:=st) (fr:=fr) (h:=by omega)];exact d.o.2.2
 case false =>
  have c:=O0 (pG p s ⟨i,j,st,fr⟩) (.inr ⟨by rw [<- k.o];exact I,E.o,fun _=>H.o⟩);by_cases h4:st=0
  . have M:decide (G<0)=true:=by rw [Q6];omega
    have d:=U (o.o.symm.trans (vX g.o c.o (.inl h4)));go_wp2;go_quiet ((go_at_call 313;exact Calls.quiet_of_same (F.o _)));go_wp2
    try simp only [Exit.jump]
    go_ret;exact ⟨qz d.o.symm,Below.drewN m.o _⟩
  have M:decide (G<0)=false:=by rw [Y4];omega
  by_cases h5:fr=S
  . have N:((fr:Int) == (S:Int))=true:=by rw [zc6];omega
    have d:=U (o.o.symm.trans (vX g.o c.o (.inr (.inl (h5.trans f.o)))));go_wp2;go_quiet ((go_at_call 313;exact Calls.quiet_of_same (F.o _)));go_wp2
    try simp only [Exit.jump]
    go_ret;exact ⟨qz d.o.symm,Below.drewN m.o _⟩
  have N:((fr:Int) == (S:Int))=false:=by rw [Y8];omega
  obtain ⟨V,W,A,-,J,B⟩:=R.o.at fr (by rw [<- f.o];omega);have k3:(0:Int)<=(fr:Int):=by omega
  have k4:(fr:Int)<(S:Int):=by omega
  obtain ⟨rfl,rfl⟩:sb=V/\so=W:=by simpa using A
  have v:=O0 (∃z,z=s.getD fr 0) (⟨_,rfl⟩);obtain ⟨z,l⟩:=v.o;rw [<- l] at B;by_cases h6:z=47
  . have Q:(z == 47)=true:=by rw [zc6];exact h6
    have d:=U (o.o.symm.trans (vX g.o c.o (.inr (.inr (l.symm.trans h6)))));clear l h4 h5 h6;go_wp2;go_quiet ((go_at_call 313;exact Calls.quiet_of_same (F.o _)));go_wp2
    try simp only [Exit.jump]
    go_ret;exact ⟨qz d.o.symm,Below.drewN m.o _⟩
  . have Q:(z == 47)=false:=by rw [Y8];exact h6
    have d:=U (pB g.o c.o ⟨h4,fun h=>h5 (h.trans f.o.symm),fun h=>h6 (l.trans h)⟩);clear l h4 h5 h6;go_wp2;go_quiet ((go_at_call 313;exact Calls.quiet_of_same (F.o _)));go_wp2;rw [show (fr:Int)+1=((fr+1:Nat):Int) from by omega];have q:=k.o;have r:=f.o;subst q;subst r;go_step3;refine ⟨rfl,⟨st,fr+1,st,fr+1,_,_,_,_,_,_,_,_,_,_,_,_,_,_,_,_,_,_,_,_,_,_,_,_,_,_,_,_,_,_,_,_,_,_,_,_,_,_,_,_,_,_,_,_,_,_,_,_,_,_,_,_,_,_,_,_,_,_,_,_,_,_,_,_,_,_,_,_,_,_,_,rfl,?_,d.o.2.1,d.o.1.symm.trans o.o,Below.drewN m.o _⟩,?_⟩
    . omega
    . rw [xd (j:=j) (h:=C),xd (i:=st) (j:=fr+1) (st:=st) (fr:=fr+1) (h:=by omega)];exact d.o.2.2
theorem nD (p s:List Int) (pa sa:Option Addr) (pc sc:Nat) (w:World) (hp:xe w 0 w.heap.size pa p) (hs:xe w 0 w.heap.size sa s) (hpl:p.length<=4294967296) (hsl:s.length<=4294967296) :
 Calls Tryz.prog 312 #[.slice pa p.length pc,.slice sa s.length sc] w fun e w2=>e=.returned (.bool (cH p s))/\Below w.heap.size w w2:=by
 have a:=U (th p s pa sa pc sc w hp hs hpl hsl);clear hp hs;go_enter Tryz.func312,Tryz.ntmps312;go_wp2;refine wp_scope_jumps 0 (tf p s pa sa pc sc w.heap.size w) (mK p s) rfl ?_ ?_
 . go_wp2;go_step3;rename_i hK;refine hK _ _ ?_;refine wp_mono (a.o _ w ⟨0,0,0,0,-1,_,_,_,_,_,_,_,_,_,_,_,_,_,_,_,_,_,_,_,_,_,_,_,_,_,_,_,_,_,_,_,_,_,_,_,_,_,_,_,_,_,_,_,_,_,_,_,_,_,_,_,_,_,_,_,_,_,_,_,_,_,_,_,_,_,_,_,_,_,_,rfl,rfl,GOk.start p s,rfl,Z0 _ _⟩) ?_;intro e a2 w2 h;cases e with
   | goto l=>exact ⟨h.1,h.2.1⟩
   | normal=>exact h
   | exit _=>exact h
   | ret=>exact h
   | panic _=>exact h
   | outgrown=>exact h
 . intro a2 w2 hJ;have h:=a.o a2 w2 hJ;refine wp_seq (wp_skip ?_);show Code.wp _ _ _ a2 w2;exact h
theorem get_at (s:ByteArray) (i:Nat) (h:i<s.data.toList.length):s.get! i=s.data.toList[i]:=by
 have a:i<s.data.size:=by simpa using h
 simp only [ByteArray.get!,Array.getElem_toList];exact getElem!_pos s.data i a
theorem drop_at {α:Type} (l:List α) (i:Nat) (h:i<l.length):l.drop i=l[i] :: l.drop (i+1):=K0 h
theorem Zx (s:ByteArray) (pos:Nat) (hb:(s.get! pos).toNat<128):qR s pos=false/\(Utf8.decode s pos).2=1:=by
 have e:Utf8.decode s pos=((s.get! pos).toNat,1):=by simp [Utf8.decode,hb]
 rw [qR,e];refine ⟨?_,rfl⟩;have:((s.get! pos).toNat == 65533)=false:=by simp;omega
 simp [this]
theorem oa (s:ByteArray) (pos:Nat):Lib.hasPrefix (s.data.toList.drop pos) [239,191,189]=true↔pos+2<s.size/\(s.get! pos).toNat=239/\(s.get! (pos+1)).toNat=191/\(s.get! (pos+2)).toNat=189:=by
 have f:s.data.toList.length=s.size:=by simp
 have c:∀(l:List UInt8),Lib.hasPrefix l [239,191,189]=true↔∃r,l=239 :: 191 :: 189 :: r:=by
  intro l;unfold Lib.hasPrefix;rw [List.isPrefixOf_iff_prefix];constructor
  . rintro ⟨r,rfl⟩;exact ⟨r,rfl⟩
  . rintro ⟨r,rfl⟩;exact ⟨r,rfl⟩
 rw [c];by_cases h:pos+2<s.size
 . rw [drop_at _ _ (by omega),drop_at _ _ (by omega),drop_at _ _ (by omega),<- get_at s pos (by omega),<- get_at s (pos+1) (by omega),<- get_at s (pos+1+1) (by omega)];constructor
   . rintro ⟨r,a⟩;simp only [W8] at a;rw [a.1,a.2.1,a.2.2.1];exact ⟨h,rfl,rfl,rfl⟩
   . rintro ⟨_,d,b,e⟩;refine ⟨s.data.toList.drop (pos+1+1+1),?_⟩;rw [show s.get! pos=239 from UInt8.toNat_inj.1 d,show s.get! (pos+1)=191 from UInt8.toNat_inj.1 b,show s.get! (pos+1+1)=189 from UInt8.toNat_inj.1 e]
 . constructor
   . rintro ⟨r,a⟩;have:=X1 List.length a;simp at this;omega
   . rintro ⟨b,_⟩;exact absurd b h
theorem r8 (s:ByteArray) (pos:Nat):qR s pos=true↔(Utf8.decode s pos).1=65533/\¬(pos+2<s.size/\(s.get! pos).toNat=239/\(s.get! (pos+1)).toNat=191/\(s.get! (pos+2)).toNat=189):=by rw [<- oa];unfold qR;simp
theorem pT (s:ByteArray) (pos:Nat):qR s pos=false↔¬((Utf8.decode s pos).1=65533/\¬(pos+2<s.size/\(s.get! pos).toNat=239/\(s.get! (pos+1)).toNat=191/\(s.get! (pos+2)).toNat=189)):=by rw [<- r8];simp
theorem Zj (s:ByteArray) (pos:Nat) (hb:128<=(s.get! pos).toNat/\(s.get! pos).toNat<192\/247<(s.get! pos).toNat):qR s pos=true:=by have a:=(s.get! pos).toNat_lt;have e:Utf8.decode s pos=(65533,1):=(by unfold Utf8.decode Utf8.runeError;simp only [M6];rw [Z5 (by omega),Z5 (by simp;omega),Z5 (by simp;omega),Z5 (by simp;omega)]);rw [r8,e];exact ⟨rfl,by omega⟩
theorem Zk (s:ByteArray) (pos:Nat) (hb:192<=(s.get! pos).toNat/\(s.get! pos).toNat<224) :
 (qR s pos=false↔pos+1<s.size/\ui (s.get! pos).toNat (s.get! (pos+1)).toNat)/\(qR s pos=false->(Utf8.decode s pos).2=2):=by
 have a:=(s.get! (pos+1)).toNat_lt;have e:Utf8.decode s pos=if pos+1<s.size/\ui (s.get! pos).toNat (s.get! (pos+1)).toNat then ((s.get! pos).toNat % 32 * 64+(s.get! (pos+1)).toNat % 64,2) else (65533,1):=by
  unfold Utf8.decode ui Utf8.runeError;simp only [M6];rw [Z5 (by omega)];by_cases g:pos+1<s.size/\(s.get! (pos+1)).toNat / 64=2
  . rw [J1 (by simp;omega)];by_cases g2:(s.get! pos).toNat % 32 * 64+(s.get! (pos+1)).toNat % 64≥128
    . rw [J1 g2,J1 (by omega)]
    . rw [Z5 g2,Z5 (by omega)]
  . rw [Z5 (by simp;omega),Z5 (by simp;omega),Z5 (by simp;omega),Z5 (by omega)]
 rw [pT,e];split
 . rename_i g;exact ⟨⟨fun _=>g,fun _=>by simp;omega⟩,fun _=>rfl⟩
 . rename_i g;exact ⟨⟨fun h=>absurd ⟨rfl,by omega⟩ h,fun h=>absurd h g⟩,fun h=>absurd ⟨rfl,by omega⟩ h⟩
theorem Zv (s:ByteArray) (pos:Nat) (hb:224<=(s.get! pos).toNat/\(s.get! pos).toNat<240) :
 (qR s pos=false↔pos+2<s.size/\pH (s.get! pos).toNat (s.get! (pos+1)).toNat (s.get! (pos+2)).toNat)/\(qR s pos=false->(Utf8.decode s pos).2=3):=by
 have a:=(s.get! (pos+1)).toNat_lt;have b:=(s.get! (pos+2)).toNat_lt;have e:Utf8.decode s pos=if pos+2<s.size/\pH (s.get! pos).toNat (s.get! (pos+1)).toNat (s.get! (pos+2)).toNat then ((s.get! pos).toNat % 16 * 4096+(s.get! (pos+1)).toNat % 64 * 64+(s.get! (pos+2)).toNat % 64,3) else (65533,1):=by
  unfold Utf8.decode pH Utf8.runeError Utf8.valid;simp only [M6];rw [Z5 (by omega),Z5 (by simp;omega)];by_cases g:pos+2<s.size/\(s.get! (pos+1)).toNat / 64=2/\(s.get! (pos+2)).toNat / 64=2
  . rw [J1 (by simp;omega)];by_cases g2:(s.get! pos).toNat % 16 * 4096+(s.get! (pos+1)).toNat % 64 * 64+(s.get! (pos+2)).toNat % 64≥2048/\((s.get! pos).toNat % 16 * 4096+(s.get! (pos+1)).toNat % 64 * 64+(s.get! (pos+2)).toNat % 64<55296\/57343<(s.get! pos).toNat % 16 * 4096+(s.get! (pos+1)).toNat % 64 * 64+(s.get! (pos+2)).toNat % 64)
    . rw [J1 (by simp;omega),J1 (by omega)]
    . rw [Z5 (by simp;omega),Z5 (by omega)]
  . rw [Z5 (by simp;omega),Z5 (by simp;omega),Z5 (by omega)]
 rw [pT,e];unfold pH;split
 . rename_i g;exact ⟨⟨fun _=>g,fun _=>by simp;omega⟩,fun _=>rfl⟩
 . rename_i g;exact ⟨⟨fun h=>absurd ⟨rfl,by omega⟩ h,fun h=>absurd h g⟩,fun h=>absurd ⟨rfl,by omega⟩ h⟩
theorem Zw (s:ByteArray) (pos:Nat) (hb:240<=(s.get! pos).toNat/\(s.get! pos).toNat<=247) :
 (qR s pos=false↔pos+3<s.size/\pU (s.get! pos).toNat (s.get! (pos+1)).toNat (s.get! (pos+2)).toNat (s.get! (pos+3)).toNat)/\(qR s pos=false->(Utf8.decode s pos).2=4):=by
 have a:=(s.get! (pos+1)).toNat_lt;have b:=(s.get! (pos+2)).toNat_lt;have c:=(s.get! (pos+3)).toNat_lt;have e:Utf8.decode s pos=if pos+3<s.size/\pU (s.get! pos).toNat (s.get! (pos+1)).toNat (s.get! (pos+2)).toNat (s.get! (pos+3)).toNat then ((s.get! pos).toNat % 8 * 262144+(s.get! (pos+1)).toNat % 64 * 4096+(s.get! (pos+2)).toNat % 64 * 64+(s.get! (pos+3)).toNat % 64,4) else (65533,1):=by
  unfold Utf8.decode pU Utf8.runeError Utf8.valid;simp only [M6];rw [Z5 (by omega),Z5 (by simp;omega),Z5 (by simp;omega)];by_cases g:pos+3<s.size/\(s.get! (pos+1)).toNat / 64=2/\(s.get! (pos+2)).toNat / 64=2/\(s.get! (pos+3)).toNat / 64=2
  . rw [J1 (by simp;omega)];by_cases g2:(s.get! pos).toNat % 8 * 262144+(s.get! (pos+1)).toNat % 64 * 4096+(s.get! (pos+2)).toNat % 64 * 64+(s.get! (pos+3)).toNat % 64≥65536/\(s.get! pos).toNat % 8 * 262144+(s.get! (pos+1)).toNat % 64 * 4096+(s.get! (pos+2)).toNat % 64 * 64+(s.get! (pos+3)).toNat % 64<=1114111
    . rw [J1 (by simp;omega),J1 (by omega)]
    . rw [Z5 (by simp;omega),Z5 (by omega)]
  . rw [Z5 (by simp;omega),Z5 (by omega)]
 rw [pT,e];unfold pU;split
 . rename_i g;exact ⟨⟨fun _=>g,fun _=>by simp;omega⟩,fun _=>rfl⟩
 . rename_i g;exact ⟨⟨fun h=>absurd ⟨rfl,by omega⟩ h,fun h=>absurd h g⟩,fun h=>absurd ⟨rfl,by omega⟩ h⟩
def yL (k:Nat) (hi:Int):Prop:=(k=0/\hi<32)\/(k=1/\hi<2048)\/(k=2/\hi<131072)\/(k=3/\hi<8388608)
def lD (l:List UInt8) (x:Int) (size:Nat) (lo hi i:Value):Prop :=
 ∃(k:Nat) (a b:Int),k+1<=size/\i=.int .i64 ((k:Int)+1)/\lo=.int .i64 a/\hi=.int .i64 b/\zL l x k=some (a,b)/\0<=a/\a<=b/\yL k b
theorem pI {k:Nat} {b:Int} (h:yL k b):b<8388608:=by unfold yL at h;omega
theorem vv (s:ByteArray) (k:Nat) (h:k<s.size):(s[k].toNat:Int)=qY s.data.toList k:=by
 unfold qY;have a:k<s.data.toList.length:=by simpa using h
 rw [Y0,Y5 a];rfl
theorem jf {l:List UInt8} {size k:Nat} (hk:k+1<size) (h:zL l (qY l 0 - vJ size) (k+1)=none):qU l size=false:=by unfold qU;have:=yU l _ (k+1) h (size - 1 - (k+1));rw [show k+1+(size - 1 - (k+1))=size - 1 by omega] at this;rw [this]
theorem wh {l:List UInt8} {size:Nat} {a b:Int} (h:zL l (qY l 0 - vJ size) (size - 1)=some (a,b)):qU l size=ki a b (ww size):=by unfold qU;rw [h]
theorem lL (s:ByteArray) (w:World) (hn:1<=s.size) (h1:192<=qY s.data.toList 0) (h2:qY s.data.toList 0<=223) :
 Calls Tryz.prog 240 #[.string s,.int .i64 2] w fun e w'=>e=.returned (.bool (qU s.data.toList 2))/\Below w.heap.size w w':=by
 have r:(s[0].toNat:Int)=qY s.data.toList 0:=vv s 0 (by omega);have Q:(0:Int)<(s.size:Int):=by omega
 obtain ⟨o,q⟩:=O1 (qY s.data.toList 0);rw [<- q] at h1 h2 r;have D:=U (show o - 192=qY s.data.toList 0 - vJ 2 by rw [q];rfl);clear q;have Y:IntKind.i64.wrap o=o:=Y2 _ (by omega);go_enter Tryz.func240,Tryz.ntmps240;go_wp2;go_quiet (fail);go_wp2;clear r Y;go_loopw [5,6,7] (fun lo hi i wr=>lD s.data.toList (o - 192) 2 lo hi i/\Below w.heap.size w wr) (fun _ _ i _=>2 - (intOf i).toNat)
 case atStart=>exact ⟨⟨0,_,_,by omega,rfl,rfl,rfl,rfl,by omega,Int.le_refl _,.inl ⟨rfl,by omega⟩⟩,Below.drewN (Z0 _ _) _⟩
 case round =>
  obtain ⟨⟨k,a,b,hk,rfl,rfl,rfl,z,Z,M,p⟩,m⟩:=hrel;have d:=U m;clear m;have j:=U z;have E:=pI p;clear z;have N:b<8388608:=E;by_cases hlt:k+1<2
  . have f:=U (show zL s.data.toList (o - 192) (k+1)=if k+1<s.data.toList.length then (if qY s.data.toList (k+1)<128\/191<qY s.data.toList (k+1) then none else some (64 * a+(qY s.data.toList (k+1) - 128),64 * b+(qY s.data.toList (k+1) - 128))) else some (64 * a,64 * b+63) by
     rw [zL,j.o])
    have y:(k:Int)+1<2:=by omega
    by_cases hks:k+1<s.size
    . have x:(k:Int)+1<(s.size:Int):=by omega
      have P:(s[k+1].toNat:Int)=qY s.data.toList (k+1):=vv s (k+1) hks;have F:=vz s.data.toList (k+1);rw [J1 (by rw [qp];exact hks)] at f;have ht:((k:Int)+1).toNat=k+1:=by omega
      obtain ⟨c,u⟩:=O1 (qY s.data.toList (k+1));rw [<- u] at P F f;clear u;by_cases g1:c<128
      . have C:=U (jf (l:=s.data.toList) (size:=2) hlt (by rw [<- D.o,f.o,J1 (.inl g1)]));go_wp2;go_ret;exact ⟨by rw [C.o] <;> rfl,d.o⟩
      by_cases g2:191<c
      . have C:=U (jf (l:=s.data.toList) (size:=2) hlt (by rw [<- D.o,f.o,J1 (.inr g2)]));go_wp2;go_ret;exact ⟨by rw [C.o] <;> rfl,d.o⟩
      rw [Z5 (by omega)] at f;have R:IntKind.u8.wrap (c - 128)=c - 128:=zd3 _ (by omega);have S:IntKind.i64.wrap (c - 128)=c - 128:=Y2 _ (by omega);have T:IntKind.i64.wrap (64 * a)=64 * a:=Y2 _ (by omega);have V:IntKind.i64.wrap (64 * b)=64 * b:=Y2 _ (by omega);have W:IntKind.i64.wrap (64 * a+(c - 128))=64 * a+(c - 128):=Y2 _ (by omega);have X:IntKind.i64.wrap (64 * b+(c - 128))=64 * b+(c - 128):=Y2 _ (by omega);go_wp2;go_quiet (fail);clear R S T V W X;go_wp2;go_roundw
      case rel=>exact ⟨⟨k+1,_,_,by omega,by go_num,rfl,rfl,f.o,by omega,by omega,by unfold yL at p ⊢;omega⟩,Below.drewN d.o _⟩
      case measure=>simp [intOf];omega
    . rw [Z5 (by rw [qp];exact hks)] at f;have x:¬(k:Int)+1<(s.size:Int):=by omega
      go_wp2;go_roundw
      case rel=>exact ⟨⟨k+1,_,_,by omega,by go_num,rfl,rfl,f.o,by omega,by omega,by unfold yL at p ⊢;omega⟩,d.o⟩
      case measure=>simp [intOf];omega
  . have v:k=2 - 1:=by omega
    have g:=O0 (qU s.data.toList 2=ki a b 128) (wh (by rw [<- D.o];rw [v] at j;exact j.o));have y:¬(k:Int)+1<2:=by omega
    clear v j;obtain ⟨A,I⟩:∃A:Int,max a 128=A:=⟨_,rfl⟩;obtain ⟨B,L⟩:∃B:Int,min b 1114111=B:=⟨_,rfl⟩;have G:=U (show A=max a 128 by rw [<- I]);have H:=U (show B=min b 1114111 by rw [<- L]);unfold ki at g;rw [<- G.o,<- H.o] at g;have K:128<=A:=by rw [<- I];omega
    clear G H;by_cases g1:55296<=A
    . by_cases g2:B<=57343
      . rw [J1 ⟨g1,g2⟩] at g;go_wp2;go_ret;exact ⟨by rw [g.o] <;> rfl,d.o.alloc d.o.size _⟩
      . rw [Z5 (fun h=>g2 h.2)] at g;by_cases g3:A<=B
        . rw [J2 g3] at g;go_wp2;go_ret;exact ⟨by rw [g.o] <;> rfl,d.o.alloc d.o.size _⟩
        . rw [Z7 g3] at g;go_wp2;go_ret;exact ⟨by rw [g.o] <;> rfl,d.o.alloc d.o.size _⟩
    . try (exfalso;omega)
      all_goals
       have J:decide (55296<=A)=false:=by simp;omega
       rw [Z5 (fun h=>g1 h.1)] at g;by_cases g3:A<=B
       . rw [J2 g3] at g;go_wp2;go_ret;exact ⟨by rw [g.o] <;> rfl,d.o.alloc d.o.size _⟩
       . rw [Z7 g3] at g;go_wp2;go_ret;exact ⟨by rw [g.o] <;> rfl,d.o.alloc d.o.size _⟩
theorem lR (s:ByteArray) (w:World) (hn:1<=s.size) (h1:224<=qY s.data.toList 0) (h2:qY s.data.toList 0<=239) :
 Calls Tryz.prog 240 #[.string s,.int .i64 3] w fun e w'=>e=.returned (.bool (qU s.data.toList 3))/\Below w.heap.size w w':=by
 have r:(s[0].toNat:Int)=qY s.data.toList 0:=vv s 0 (by omega);have Q:(0:Int)<(s.size:Int):=by omega
 obtain ⟨o,q⟩:=O1 (qY s.data.toList 0);rw [<- q] at h1 h2 r;have D:=U (show o - 224=qY s.data.toList 0 - vJ 3 by rw [q];rfl);clear q;have Y:IntKind.i64.wrap o=o:=Y2 _ (by omega);go_enter Tryz.func240,Tryz.ntmps240;go_wp2;go_quiet (fail);go_wp2;clear r Y;go_loopw [5,6,7] (fun lo hi i wr=>lD s.data.toList (o - 224) 3 lo hi i/\Below w.heap.size w wr) (fun _ _ i _=>3 - (intOf i).toNat)
 case atStart=>exact ⟨⟨0,_,_,by omega,rfl,rfl,rfl,rfl,by omega,Int.le_refl _,.inl ⟨rfl,by omega⟩⟩,Below.drewN (Z0 _ _) _⟩
 case round =>
  obtain ⟨⟨k,a,b,hk,rfl,rfl,rfl,z,Z,M,p⟩,m⟩:=hrel;have d:=U m;clear m;have j:=U z;have E:=pI p;clear z;have N:b<8388608:=E;by_cases hlt:k+1<3
  . have f:=U (show zL s.data.toList (o - 224) (k+1)=if k+1<s.data.toList.length then (if qY s.data.toList (k+1)<128\/191<qY s.data.toList (k+1) then none else some (64 * a+(qY s.data.toList (k+1) - 128),64 * b+(qY s.data.toList (k+1) - 128))) else some (64 * a,64 * b+63) by
     rw [zL,j.o])
    have y:(k:Int)+1<3:=by omega
    by_cases hks:k+1<s.size
    . have x:(k:Int)+1<(s.size:Int):=by omega
      have P:(s[k+1].toNat:Int)=qY s.data.toList (k+1):=vv s (k+1) hks;have F:=vz s.data.toList (k+1);rw [J1 (by rw [qp];exact hks)] at f;have ht:((k:Int)+1).toNat=k+1:=by omega
      obtain ⟨c,u⟩:=O1 (qY s.data.toList (k+1));rw [<- u] at P F f;clear u;by_cases g1:c<128
      . have C:=U (jf (l:=s.data.toList) (size:=3) hlt (by rw [<- D.o,f.o,J1 (.inl g1)]));go_wp2;go_ret;exact ⟨by rw [C.o] <;> rfl,d.o⟩
      by_cases g2:191<c
      . have C:=U (jf (l:=s.data.toList) (size:=3) hlt (by rw [<- D.o,f.o,J1 (.inr g2)]));go_wp2;go_ret;exact ⟨by rw [C.o] <;> rfl,d.o⟩
      rw [Z5 (by omega)] at f;have R:IntKind.u8.wrap (c - 128)=c - 128:=zd3 _ (by omega);have S:IntKind.i64.wrap (c - 128)=c - 128:=Y2 _ (by omega);have T:IntKind.i64.wrap (64 * a)=64 * a:=Y2 _ (by omega);have V:IntKind.i64.wrap (64 * b)=64 * b:=Y2 _ (by omega);have W:IntKind.i64.wrap (64 * a+(c - 128))=64 * a+(c - 128):=Y2 _ (by omega);have X:IntKind.i64.wrap (64 * b+(c - 128))=64 * b+(c - 128):=Y2 _ (by omega);go_wp2;go_quiet (fail);clear R S T V W X;go_wp2;go_roundw
      case rel=>exact ⟨⟨k+1,_,_,by omega,by go_num,rfl,rfl,f.o,by omega,by omega,by unfold yL at p ⊢;omega⟩,Below.drewN d.o _⟩
      case measure=>simp [intOf];omega
    . rw [Z5 (by rw [qp];exact hks)] at f;have x:¬(k:Int)+1<(s.size:Int):=by omega
      go_wp2;go_roundw
      case rel=>exact ⟨⟨k+1,_,_,by omega,by go_num,rfl,rfl,f.o,by omega,by omega,by unfold yL at p ⊢;omega⟩,d.o⟩
      case measure=>simp [intOf];omega
  . have v:k=3 - 1:=by omega
    have g:=O0 (qU s.data.toList 3=ki a b 2048) (wh (by rw [<- D.o];rw [v] at j;exact j.o));have y:¬(k:Int)+1<3:=by omega
    clear v j;obtain ⟨A,I⟩:∃A:Int,max a 2048=A:=⟨_,rfl⟩;obtain ⟨B,L⟩:∃B:Int,min b 1114111=B:=⟨_,rfl⟩;have G:=U (show A=max a 2048 by rw [<- I]);have H:=U (show B=min b 1114111 by rw [<- L]);unfold ki at g;rw [<- G.o,<- H.o] at g;have K:2048<=A:=by rw [<- I];omega
    clear G H;by_cases g1:55296<=A
    . by_cases g2:B<=57343
      . rw [J1 ⟨g1,g2⟩] at g;go_wp2;go_ret;exact ⟨by rw [g.o] <;> rfl,d.o.alloc d.o.size _⟩
      . rw [Z5 (fun h=>g2 h.2)] at g;by_cases g3:A<=B
        . rw [J2 g3] at g;go_wp2;go_ret;exact ⟨by rw [g.o] <;> rfl,d.o.alloc d.o.size _⟩
        . rw [Z7 g3] at g;go_wp2;go_ret;exact ⟨by rw [g.o] <;> rfl,d.o.alloc d.o.size _⟩
    . try (exfalso;omega)
      all_goals
       have J:decide (55296<=A)=false:=by simp;omega
       rw [Z5 (fun h=>g1 h.1)] at g;by_cases g3:A<=B
       . rw [J2 g3] at g;go_wp2;go_ret;exact ⟨by rw [g.o] <;> rfl,d.o.alloc d.o.size _⟩
       . rw [Z7 g3] at g;go_wp2;go_ret;exact ⟨by rw [g.o] <;> rfl,d.o.alloc d.o.size _⟩
theorem lN (s:ByteArray) (w:World) (hn:1<=s.size) (h1:240<=qY s.data.toList 0) (h2:qY s.data.toList 0<=247) :
 Calls Tryz.prog 240 #[.string s,.int .i64 4] w fun e w'=>e=.returned (.bool (qU s.data.toList 4))/\Below w.heap.size w w':=by
 have r:(s[0].toNat:Int)=qY s.data.toList 0:=vv s 0 (by omega);have Q:(0:Int)<(s.size:Int):=by omega
 obtain ⟨o,q⟩:=O1 (qY s.data.toList 0);rw [<- q] at h1 h2 r;have D:=U (show o - 240=qY s.data.toList 0 - vJ 4 by rw [q];rfl);clear q;have Y:IntKind.i64.wrap o=o:=Y2 _ (by omega);go_enter Tryz.func240,Tryz.ntmps240;go_wp2;go_quiet (fail);go_wp2;clear r Y;go_loopw [5,6,7] (fun lo hi i wr=>lD s.data.toList (o - 240) 4 lo hi i/\Below w.heap.size w wr) (fun _ _ i _=>4 - (intOf i).toNat)
 case atStart=>exact ⟨⟨0,_,_,by omega,rfl,rfl,rfl,rfl,by omega,Int.le_refl _,.inl ⟨rfl,by omega⟩⟩,Below.drewN (Z0 _ _) _⟩
 case round =>
  obtain ⟨⟨k,a,b,hk,rfl,rfl,rfl,z,Z,M,p⟩,m⟩:=hrel;have d:=U m;clear m;have j:=U z;have E:=pI p;clear z;have N:b<8388608:=E;by_cases hlt:k+1<4
  . have f:=U (show zL s.data.toList (o - 240) (k+1)=if k+1<s.data.toList.length then (if qY s.data.toList (k+1)<128\/191<qY s.data.toList (k+1) then none else some (64 * a+(qY s.data.toList (k+1) - 128),64 * b+(qY s.data.toList (k+1) - 128))) else some (64 * a,64 * b+63) by
     rw [zL,j.o])
    have y:(k:Int)+1<4:=by omega
    by_cases hks:k+1<s.size
    . have x:(k:Int)+1<(s.size:Int):=by omega
      have P:(s[k+1].toNat:Int)=qY s.data.toList (k+1):=vv s (k+1) hks;have F:=vz s.data.toList (k+1);rw [J1 (by rw [qp];exact hks)] at f;have ht:((k:Int)+1).toNat=k+1:=by omega
      obtain ⟨c,u⟩:=O1 (qY s.data.toList (k+1));rw [<- u] at P F f;clear u;by_cases g1:c<128
      . have C:=U (jf (l:=s.data.toList) (size:=4) hlt (by rw [<- D.o,f.o,J1 (.inl g1)]));go_wp2;go_ret;exact ⟨by rw [C.o] <;> rfl,d.o⟩
      by_cases g2:191<c
      . have C:=U (jf (l:=s.data.toList) (size:=4) hlt (by rw [<- D.o,f.o,J1 (.inr g2)]));go_wp2;go_ret;exact ⟨by rw [C.o] <;> rfl,d.o⟩
      rw [Z5 (by omega)] at f;have R:IntKind.u8.wrap (c - 128)=c - 128:=zd3 _ (by omega);have S:IntKind.i64.wrap (c - 128)=c - 128:=Y2 _ (by omega);have T:IntKind.i64.wrap (64 * a)=64 * a:=Y2 _ (by omega);have V:IntKind.i64.wrap (64 * b)=64 * b:=Y2 _ (by omega);have W:IntKind.i64.wrap (64 * a+(c - 128))=64 * a+(c - 128):=Y2 _ (by omega);have X:IntKind.i64.wrap (64 * b+(c - 128))=64 * b+(c - 128):=Y2 _ (by omega);go_wp2;go_quiet (fail);clear R S T V W X;go_wp2;go_roundw
      case rel=>exact ⟨⟨k+1,_,_,by omega,by go_num,rfl,rfl,f.o,by omega,by omega,by unfold yL at p ⊢;omega⟩,Below.drewN d.o _⟩
      case measure=>simp [intOf];omega
    . rw [Z5 (by rw [qp];exact hks)] at f;have x:¬(k:Int)+1<(s.size:Int):=by omega
      go_wp2;go_roundw
      case rel=>exact ⟨⟨k+1,_,_,by omega,by go_num,rfl,rfl,f.o,by omega,by omega,by unfold yL at p ⊢;omega⟩,d.o⟩
      case measure=>simp [intOf];omega
  . have v:k=4 - 1:=by omega
    have g:=O0 (qU s.data.toList 4=ki a b 65536) (wh (by rw [<- D.o];rw [v] at j;exact j.o));have y:¬(k:Int)+1<4:=by omega
    clear v j;obtain ⟨A,I⟩:∃A:Int,max a 65536=A:=⟨_,rfl⟩;obtain ⟨B,L⟩:∃B:Int,min b 1114111=B:=⟨_,rfl⟩;have G:=U (show A=max a 65536 by rw [<- I]);have H:=U (show B=min b 1114111 by rw [<- L]);unfold ki at g;rw [<- G.o,<- H.o] at g;have K:65536<=A:=by rw [<- I];omega
    clear G H;by_cases g1:55296<=A
    . by_cases g2:B<=57343
      . rw [J1 ⟨g1,g2⟩] at g;go_wp2;go_ret;exact ⟨by rw [g.o] <;> rfl,d.o.alloc d.o.size _⟩
      . rw [Z5 (fun h=>g2 h.2)] at g;by_cases g3:A<=B
        . rw [J2 g3] at g;go_wp2;go_ret;exact ⟨by rw [g.o] <;> rfl,d.o.alloc d.o.size _⟩
        . rw [Z7 g3] at g;go_wp2;go_ret;exact ⟨by rw [g.o] <;> rfl,d.o.alloc d.o.size _⟩
    . try (exfalso;omega)
      all_goals
       have J:decide (55296<=A)=false:=by simp;omega
       rw [Z5 (fun h=>g1 h.1)] at g;by_cases g3:A<=B
       . rw [J2 g3] at g;go_wp2;go_ret;exact ⟨by rw [g.o] <;> rfl,d.o.alloc d.o.size _⟩
       . rw [Z7 g3] at g;go_wp2;go_ret;exact ⟨by rw [g.o] <;> rfl,d.o.alloc d.o.size _⟩
def yR (s:ByteArray) (pos:Nat) (w:World) (e:Ending) (w':World):Prop :=
 ∃r sz er:Int,e=.returned (.tuple #[.int .i64 r,.int .i64 sz,.int .i64 er])/\((qR s pos=false/\er=0/\sz=((Utf8.decode s pos).2:Int))\/(qR s pos=true/\er≠0))/\Below w.heap.size w w'
theorem vw (s:ByteArray) (pos n:Nat):(s.extract pos (pos+n)).data.toList=(s.data.toList.drop pos).take n:=by rw [ByteArray.data_extract,Array.toList_extract,List.extract_eq_take_drop];congr 1;omega
theorem eA (s:ByteArray) (pos:Nat) (h:pos+1<=s.size):(s.extract pos (pos+1)).data.toList=[s.get! pos]:=by
 have a:s.data.toList.length=s.size:=by simp
 rw [vw,drop_at _ _ (by omega),<- get_at s pos (by omega)];rfl
theorem ot (s:ByteArray) (pos:Nat) (h:pos+2<=s.size):(s.extract pos (pos+2)).data.toList=[s.get! pos,s.get! (pos+1)]:=by
 have a:s.data.toList.length=s.size:=by simp
 rw [vw,drop_at _ _ (by omega),drop_at _ _ (by omega),<- get_at s pos (by omega),<- get_at s (pos+1) (by omega)];rfl
theorem eT (s:ByteArray) (pos:Nat) (h:pos+3<=s.size):(s.extract pos (pos+3)).data.toList=[s.get! pos,s.get! (pos+1),s.get! (pos+2)]:=by
 have a:s.data.toList.length=s.size:=by simp
 rw [vw,drop_at _ _ (by omega),drop_at _ _ (by omega),drop_at _ _ (by omega),<- get_at s pos (by omega),<- get_at s (pos+1) (by omega),<- get_at s (pos+1+1) (by omega)];rfl
theorem QF (s:ByteArray) (pos:Nat) (h:pos+4<=s.size):(s.extract pos (pos+4)).data.toList=[s.get! pos,s.get! (pos+1),s.get! (pos+2),s.get! (pos+3)]:=by
 have a:s.data.toList.length=s.size:=by simp
 rw [vw,drop_at _ _ (by omega),drop_at _ _ (by omega),drop_at _ _ (by omega),drop_at _ _ (by omega),<- get_at s pos (by omega),<- get_at s (pos+1) (by omega),<- get_at s (pos+1+1) (by omega),<- get_at s (pos+1+1+1) (by omega)];rfl
theorem at2 (s:ByteArray) (pos:Nat) (hb:192<=(s.get! pos).toNat/\(s.get! pos).toNat<=223) :
 (qR s pos=false->pos+2<=s.size/\(Utf8.decode s pos).2=2/\∀n,1<=n->n<=2->qU (s.extract pos (pos+n)).data.toList 2=true)/\(pos+2<=s.size->qU (s.extract pos (pos+2)).data.toList 2=true->qR s pos=false):=by
 obtain ⟨u1,u2⟩:=Zk s pos (by omega);obtain ⟨a,c⟩:=Q9 (s.get! pos) (s.get! (pos+1)) (by omega);constructor
 . intro h;obtain ⟨d,b⟩:=u1.1 h;refine ⟨by omega,u2 h,fun n hn hn'=>?_⟩;obtain rfl|rfl:n=1\/n=2:=by omega
   . rw [eA s pos (by omega)];exact c b
   . rw [ot s pos (by omega)];exact a.2 b
 . intro h h';rw [ot s pos h] at h';exact u1.2 ⟨by omega,a.1 h'⟩
theorem at3 (s:ByteArray) (pos:Nat) (hb:224<=(s.get! pos).toNat/\(s.get! pos).toNat<=239) :
 (qR s pos=false->pos+3<=s.size/\(Utf8.decode s pos).2=3/\∀n,1<=n->n<=3->qU (s.extract pos (pos+n)).data.toList 3=true)/\(pos+3<=s.size->qU (s.extract pos (pos+3)).data.toList 3=true->qR s pos=false):=by
 obtain ⟨u1,u2⟩:=Zv s pos (by omega);obtain ⟨b,c⟩:=Zq (s.get! pos) (s.get! (pos+1)) (s.get! (pos+2)) (by omega);constructor
 . intro h;obtain ⟨d,a⟩:=u1.1 h;refine ⟨by omega,u2 h,fun n hn hn'=>?_⟩;obtain rfl|rfl|rfl:n=1\/n=2\/n=3:=by omega
   . rw [eA s pos (by omega)];exact (c a).1
   . rw [ot s pos (by omega)];exact (c a).2
   . rw [eT s pos (by omega)];exact b.2 a
 . intro h h';rw [eT s pos h] at h';exact u1.2 ⟨by omega,b.1 h'⟩
theorem at4 (s:ByteArray) (pos:Nat) (hb:240<=(s.get! pos).toNat/\(s.get! pos).toNat<=247) :
 (qR s pos=false->pos+4<=s.size/\(Utf8.decode s pos).2=4/\∀n,1<=n->n<=4->qU (s.extract pos (pos+n)).data.toList 4=true)/\(pos+4<=s.size->qU (s.extract pos (pos+4)).data.toList 4=true->qR s pos=false):=by
 obtain ⟨u1,u2⟩:=Zw s pos (by omega);obtain ⟨c,b⟩:=Zz (s.get! pos) (s.get! (pos+1)) (s.get! (pos+2)) (s.get! (pos+3)) (by omega);constructor
 . intro h;obtain ⟨d,a⟩:=u1.1 h;refine ⟨by omega,u2 h,fun n hn hn'=>?_⟩;obtain rfl|rfl|rfl|rfl:n=1\/n=2\/n=3\/n=4:=by omega
   . rw [eA s pos (by omega)];exact (b a).1
   . rw [ot s pos (by omega)];exact (b a).2.1
   . rw [eT s pos (by omega)];exact (b a).2.2
   . rw [QF s pos (by omega)];exact c.2 a
 . intro h h';rw [QF s pos h] at h';exact u1.2 ⟨by omega,c.1 h'⟩
theorem wu (s:ByteArray) (k:Nat) (h:k<s.size):s.get! k=s[k]:=by
 have a:k<s.data.toList.length:=by simpa using h
 rw [get_at s k a];rfl
theorem pO (s:ByteArray) (pos n:Nat) (h:pos+n<=s.size) (hn:1<=n):qY (s.extract pos (pos+n)).data.toList 0=(s[pos].toNat:Int):=by
 have a:s.data.toList.length=s.size:=by simp
 rw [vw,drop_at _ _ (by omega),<- get_at s pos (by omega),wu s pos (by omega)];obtain ⟨m,rfl⟩:∃m,n=m+1:=⟨n - 1,by omega⟩;rfl
def rBd (k:Nat) (r:Int):Prop:=0<=r/\((k=0/\r<256)\/(k=1/\r<16896)\/(k=2/\r<1081600)\/(k=3/\r<69222656))
theorem tu (s:ByteArray) (pos:Nat) (w:World) (hs:s.size<=4611686018427387904) (hp:pos<s.size) (h1:192<=(s[pos].toNat:Int)) (h2:(s[pos].toNat:Int)<=223) :
 Calls Tryz.prog 189 #[.string s,.int .i64 pos] w (yR s pos w):=by
 have g:=U (at2 s pos (by rw [wu s pos hp];omega));have T:¬(pos:Int)<0:=by omega
 have V:(pos:Int)<(s.size:Int):=by omega
 have W:((pos:Int) == (s.size:Int))=false:=by simp;omega
 have X:decide ((pos:Int)<0)=false:=Z7 (by omega);have v:=U (fun n=>pO s pos n);obtain ⟨G,m⟩:=O1 ((s[pos].toNat:Int));have x:=U m;have P:(s[pos].toNat:Int)=G:=m.symm;rw [<- m] at h1 h2;clear m;have g1:decide (G<192)=false:=by simp;omega
 go_enter Tryz.func189,Tryz.ntmps189;go_wp2;go_loopw [9] (fun i wr=>∃k:Nat,k<=2/\i=.int .i64 ((k:Int)+1)/\(1<=k->pos+k<=s.size/\qU (s.extract pos (pos+k)).data.toList 2=true)/\Below w.heap.size w wr) (fun i _=>2+1 - (intOf i).toNat)
 case atStart=>exact ⟨0,by omega,rfl,fun h=>by omega,Z0 _ _⟩
 case round =>
  obtain ⟨k,hk,rfl,A,a⟩:=hrel;have y:=U A;have o:=U a;clear A a;by_cases hlt:k<2
  . have D:(k:Int)+1<=2:=by omega
    by_cases hsz:pos+(k+1)<=s.size
    . have E:¬(s.size:Int)<(pos:Int)+((k:Int)+1):=by omega
      have K:(pos:Int)+((k:Int)+1)<=(s.size:Int):=by omega
      have t1:((pos:Int)+((k:Int)+1)).toNat=pos+(k+1):=by omega
      have l:=U (lL (s.extract pos (pos+(k+1))) wr (by rw [ByteArray.size_extract];omega) (by rw [v.o (k+1) hsz (by omega),<- x.o];exact h1) (by rw [v.o (k+1) hsz (by omega),<- x.o];exact h2));cases hbg:qU (s.extract pos (pos+(k+1))).data.toList 2
      . rw [hbg] at l;have b:=U (show qR s pos=true by
         cases h:qR s pos
         . have:=(g.o.1 h).2.2 (k+1) (by omega) (by omega);rw [hbg] at this;cases this
         . rfl)
        clear hbg;go_wp2_with fail;refine l.o.mono ?_;rintro e w1 ⟨rfl,f⟩;have p:=U (O2 o f);clear f;go_wp2;go_ret3;exact ⟨0,0,12,rfl,.inr ⟨b.o,by decide⟩,p.o⟩
      . rw [hbg] at l;have H:=U hbg;clear hbg;go_wp2_with fail;refine l.o.mono ?_;rintro e w1 ⟨rfl,f⟩;have p:=U (O2 o f);clear f;go_wp2;go_roundw
        case rel=>exact ⟨k+1,by omega,by go_num,fun _=>⟨hsz,H.o⟩,p.o⟩
        case measure=>simp [intOf];omega
    . have E:(s.size:Int)<(pos:Int)+((k:Int)+1):=by omega
      have b:=U (show qR s pos=true by
       cases h:qR s pos
       . have:=(g.o.1 h).1;omega
       . rfl)
      go_wp2;go_ret3;exact ⟨0,0,4,rfl,.inr ⟨b.o,by decide⟩,o.o⟩
  . have C:k=2:=by omega
    have z:=U (show qR s pos=false by
     obtain ⟨L,M⟩:=y.o (by omega);rw [C] at L M;exact g.o.2 L M)
    have J:pos+2<=s.size:=by have:=(y.o (by omega)).1;omega
    have I:=U (g.o.1 z.o).2.1;have D:¬(k:Int)+1<=2:=by omega
    clear C;obtain ⟨N,rfl⟩:∃N:World,N=wr:=⟨_,rfl⟩;go_wp2;go_loopw [10,11] (fun r i wr=>∃(j:Nat) (F:Int),j+1<=2/\i=.int .i64 ((j:Int)+1)/\r=.int .i64 F/\rBd j F/\Below w.heap.size w wr) (fun _ i _=>2 - (intOf i).toNat)
    case atStart=>exact ⟨0,_,by omega,rfl,rfl,by unfold rBd;omega,o.o.alloc o.o.size _⟩
    case round =>
     obtain ⟨j,F,hj,rfl,rfl,q,a⟩:=hrel;have u:=U a;clear a;have Y:0<=F:=q.1;have Z:F<69222656:=by unfold rBd at q;omega
     by_cases hjl:j+1<2
     . have B:(j:Int)+1<2:=by omega
       have a0:(pos:Int)+((j:Int)+1)<(s.size:Int):=by omega
       have t1:((pos:Int)+((j:Int)+1)).toNat=pos+(j+1):=by omega
       have a1:pos+(j+1)<s.size:=by omega
       obtain ⟨c,hc⟩:∃c:Int,(s[pos+(j+1)].toNat:Int)=c:=⟨_,rfl⟩;have Q:0<=c/\c<=255:=by have:=s[pos+(j+1)].toNat_lt;omega
       obtain ⟨d,R⟩:∃d:Int,IntKind.u8.wrap (c - 128)=d:=⟨_,rfl⟩;have S:0<=d/\d<=255:=by rw [<- R,IntKind.wrap_u8];omega
       go_wp2;go_roundw
       case rel=>exact ⟨j+1,_,by omega,by go_num,rfl,by unfold rBd at q ⊢;omega,u.o⟩
       case measure=>simp [intOf];omega
     . have B:¬(j:Int)+1<2:=by omega
       go_wp2;go_ret3;exact ⟨_,2,0,rfl,.inl ⟨z.o,rfl,by rw [I.o];rfl⟩,u.o⟩
theorem tc (s:ByteArray) (pos:Nat) (w:World) (hs:s.size<=4611686018427387904) (hp:pos<s.size) (h1:224<=(s[pos].toNat:Int)) (h2:(s[pos].toNat:Int)<=239) :
 Calls Tryz.prog 189 #[.string s,.int .i64 pos] w (yR s pos w):=by
 have g:=U (at3 s pos (by rw [wu s pos hp];omega));have T:¬(pos:Int)<0:=by omega
 have V:(pos:Int)<(s.size:Int):=by omega
 have W:((pos:Int) == (s.size:Int))=false:=by simp;omega
 have X:decide ((pos:Int)<0)=false:=Z7 (by omega);have v:=U (fun n=>pO s pos n);obtain ⟨G,m⟩:=O1 ((s[pos].toNat:Int));have x:=U m;have P:(s[pos].toNat:Int)=G:=m.symm;rw [<- m] at h1 h2;clear m;have g1:decide (G<192)=false:=by simp;omega
 go_enter Tryz.func189,Tryz.ntmps189;go_wp2;go_loopw [9] (fun i wr=>∃k:Nat,k<=3/\i=.int .i64 ((k:Int)+1)/\(1<=k->pos+k<=s.size/\qU (s.extract pos (pos+k)).data.toList 3=true)/\Below w.heap.size w wr) (fun i _=>3+1 - (intOf i).toNat)
 case atStart=>exact ⟨0,by omega,rfl,fun h=>by omega,Z0 _ _⟩
 case round =>
  obtain ⟨k,hk,rfl,A,a⟩:=hrel;have y:=U A;have o:=U a;clear A a;by_cases hlt:k<3
  . have D:(k:Int)+1<=3:=by omega
    by_cases hsz:pos+(k+1)<=s.size
    . have E:¬(s.size:Int)<(pos:Int)+((k:Int)+1):=by omega
      have K:(pos:Int)+((k:Int)+1)<=(s.size:Int):=by omega
      have t1:((pos:Int)+((k:Int)+1)).toNat=pos+(k+1):=by omega
      have l:=U (lR (s.extract pos (pos+(k+1))) wr (by rw [ByteArray.size_extract];omega) (by rw [v.o (k+1) hsz (by omega),<- x.o];exact h1) (by rw [v.o (k+1) hsz (by omega),<- x.o];exact h2));cases hbg:qU (s.extract pos (pos+(k+1))).data.toList 3
      . rw [hbg] at l;have b:=U (show qR s pos=true by
         cases h:qR s pos
         . have:=(g.o.1 h).2.2 (k+1) (by omega) (by omega);rw [hbg] at this;cases this
         . rfl)
        clear hbg;go_wp2_with fail;refine l.o.mono ?_;rintro e w1 ⟨rfl,f⟩;have p:=U (O2 o f);clear f;go_wp2;go_ret3;exact ⟨0,0,12,rfl,.inr ⟨b.o,by decide⟩,p.o⟩
      . rw [hbg] at l;have H:=U hbg;clear hbg;go_wp2_with fail;refine l.o.mono ?_;rintro e w1 ⟨rfl,f⟩;have p:=U (O2 o f);clear f;go_wp2;go_roundw
        case rel=>exact ⟨k+1,by omega,by go_num,fun _=>⟨hsz,H.o⟩,p.o⟩
        case measure=>simp [intOf];omega
    . have E:(s.size:Int)<(pos:Int)+((k:Int)+1):=by omega
      have b:=U (show qR s pos=true by
       cases h:qR s pos
       . have:=(g.o.1 h).1;omega
       . rfl)
      go_wp2;go_ret3;exact ⟨0,0,4,rfl,.inr ⟨b.o,by decide⟩,o.o⟩
  . have C:k=3:=by omega
    have z:=U (show qR s pos=false by
     obtain ⟨L,M⟩:=y.o (by omega);rw [C] at L M;exact g.o.2 L M)
    have J:pos+3<=s.size:=by have:=(y.o (by omega)).1;omega
    have I:=U (g.o.1 z.o).2.1;have D:¬(k:Int)+1<=3:=by omega
    clear C;obtain ⟨N,rfl⟩:∃N:World,N=wr:=⟨_,rfl⟩;go_wp2;go_loopw [10,11] (fun r i wr=>∃(j:Nat) (F:Int),j+1<=3/\i=.int .i64 ((j:Int)+1)/\r=.int .i64 F/\rBd j F/\Below w.heap.size w wr) (fun _ i _=>3 - (intOf i).toNat)
    case atStart=>exact ⟨0,_,by omega,rfl,rfl,by unfold rBd;omega,o.o.alloc o.o.size _⟩
    case round =>
     obtain ⟨j,F,hj,rfl,rfl,q,a⟩:=hrel;have u:=U a;clear a;have Y:0<=F:=q.1;have Z:F<69222656:=by unfold rBd at q;omega
     by_cases hjl:j+1<3
     . have B:(j:Int)+1<3:=by omega
       have a0:(pos:Int)+((j:Int)+1)<(s.size:Int):=by omega
       have t1:((pos:Int)+((j:Int)+1)).toNat=pos+(j+1):=by omega
       have a1:pos+(j+1)<s.size:=by omega
       obtain ⟨c,hc⟩:∃c:Int,(s[pos+(j+1)].toNat:Int)=c:=⟨_,rfl⟩;have Q:0<=c/\c<=255:=by have:=s[pos+(j+1)].toNat_lt;omega
       obtain ⟨d,R⟩:∃d:Int,IntKind.u8.wrap (c - 128)=d:=⟨_,rfl⟩;have S:0<=d/\d<=255:=by rw [<- R,IntKind.wrap_u8];omega
       go_wp2;go_roundw
       case rel=>exact ⟨j+1,_,by omega,by go_num,rfl,by unfold rBd at q ⊢;omega,u.o⟩
       case measure=>simp [intOf];omega
     . have B:¬(j:Int)+1<3:=by omega
       go_wp2;go_ret3;exact ⟨_,3,0,rfl,.inl ⟨z.o,rfl,by rw [I.o];rfl⟩,u.o⟩
theorem td (s:ByteArray) (pos:Nat) (w:World) (hs:s.size<=4611686018427387904) (hp:pos<s.size) (h1:240<=(s[pos].toNat:Int)) (h2:(s[pos].toNat:Int)<=247) :
 Calls Tryz.prog 189 #[.string s,.int .i64 pos] w (yR s pos w):=by
 have g:=U (at4 s pos (by rw [wu s pos hp];omega));have T:¬(pos:Int)<0:=by omega
 have V:(pos:Int)<(s.size:Int):=by omega
 have W:((pos:Int) == (s.size:Int))=false:=by simp;omega
 have X:decide ((pos:Int)<0)=false:=Z7 (by omega);have v:=U (fun n=>pO s pos n);obtain ⟨G,m⟩:=O1 ((s[pos].toNat:Int));have x:=U m;have P:(s[pos].toNat:Int)=G:=m.symm;rw [<- m] at h1 h2;clear m;have g1:decide (G<192)=false:=by simp;omega
 go_enter Tryz.func189,Tryz.ntmps189;go_wp2;go_loopw [9] (fun i wr=>∃k:Nat,k<=4/\i=.int .i64 ((k:Int)+1)/\(1<=k->pos+k<=s.size/\qU (s.extract pos (pos+k)).data.toList 4=true)/\Below w.heap.size w wr) (fun i _=>4+1 - (intOf i).toNat)
 case atStart=>exact ⟨0,by omega,rfl,fun h=>by omega,Z0 _ _⟩
 case round =>
  obtain ⟨k,hk,rfl,A,a⟩:=hrel;have y:=U A;have o:=U a;clear A a;by_cases hlt:k<4
  . have D:(k:Int)+1<=4:=by omega
    by_cases hsz:pos+(k+1)<=s.size
    . have E:¬(s.size:Int)<(pos:Int)+((k:Int)+1):=by omega
      have K:(pos:Int)+((k:Int)+1)<=(s.size:Int):=by omega
      have t1:((pos:Int)+((k:Int)+1)).toNat=pos+(k+1):=by omega
      have l:=U (lN (s.extract pos (pos+(k+1))) wr (by rw [ByteArray.size_extract];omega) (by rw [v.o (k+1) hsz (by omega),<- x.o];exact h1) (by rw [v.o (k+1) hsz (by omega),<- x.o];exact h2));cases hbg:qU (s.extract pos (pos+(k+1))).data.toList 4
      . rw [hbg] at l;have b:=U (show qR s pos=true by
         cases h:qR s pos
         . have:=(g.o.1 h).2.2 (k+1) (by omega) (by omega);rw [hbg] at this;cases this
         . rfl)
        clear hbg;go_wp2_with fail;refine l.o.mono ?_;rintro e w1 ⟨rfl,f⟩;have p:=U (O2 o f);clear f;go_wp2;go_ret3;exact ⟨0,0,12,rfl,.inr ⟨b.o,by decide⟩,p.o⟩
      . rw [hbg] at l;have H:=U hbg;clear hbg;go_wp2_with fail;refine l.o.mono ?_;rintro e w1 ⟨rfl,f⟩;have p:=U (O2 o f);clear f;go_wp2;go_roundw
        case rel=>exact ⟨k+1,by omega,by go_num,fun _=>⟨hsz,H.o⟩,p.o⟩
        case measure=>simp [intOf];omega
    . have E:(s.size:Int)<(pos:Int)+((k:Int)+1):=by omega
      have b:=U (show qR s pos=true by
       cases h:qR s pos
       . have:=(g.o.1 h).1;omega
       . rfl)
      go_wp2;go_ret3;exact ⟨0,0,4,rfl,.inr ⟨b.o,by decide⟩,o.o⟩
  . have C:k=4:=by omega
    have z:=U (show qR s pos=false by
     obtain ⟨L,M⟩:=y.o (by omega);rw [C] at L M;exact g.o.2 L M)
    have J:pos+4<=s.size:=by have:=(y.o (by omega)).1;omega
    have I:=U (g.o.1 z.o).2.1;have D:¬(k:Int)+1<=4:=by omega
    clear C;obtain ⟨N,rfl⟩:∃N:World,N=wr:=⟨_,rfl⟩;go_wp2;go_loopw [10,11] (fun r i wr=>∃(j:Nat) (F:Int),j+1<=4/\i=.int .i64 ((j:Int)+1)/\r=.int .i64 F/\rBd j F/\Below w.heap.size w wr) (fun _ i _=>4 - (intOf i).toNat)
    case atStart=>exact ⟨0,_,by omega,rfl,rfl,by unfold rBd;omega,o.o.alloc o.o.size _⟩
    case round =>
     obtain ⟨j,F,hj,rfl,rfl,q,a⟩:=hrel;have u:=U a;clear a;have Y:0<=F:=q.1;have Z:F<69222656:=by unfold rBd at q;omega
     by_cases hjl:j+1<4
     . have B:(j:Int)+1<4:=by omega
       have a0:(pos:Int)+((j:Int)+1)<(s.size:Int):=by omega
       have t1:((pos:Int)+((j:Int)+1)).toNat=pos+(j+1):=by omega
       have a1:pos+(j+1)<s.size:=by omega
       obtain ⟨c,hc⟩:∃c:Int,(s[pos+(j+1)].toNat:Int)=c:=⟨_,rfl⟩;have Q:0<=c/\c<=255:=by have:=s[pos+(j+1)].toNat_lt;omega
       obtain ⟨d,R⟩:∃d:Int,IntKind.u8.wrap (c - 128)=d:=⟨_,rfl⟩;have S:0<=d/\d<=255:=by rw [<- R,IntKind.wrap_u8];omega
       go_wp2;go_roundw
       case rel=>exact ⟨j+1,_,by omega,by go_num,rfl,by unfold rBd at q ⊢;omega,u.o⟩
       case measure=>simp [intOf];omega
     . have B:¬(j:Int)+1<4:=by omega
       go_wp2;go_ret3;exact ⟨_,4,0,rfl,.inl ⟨z.o,rfl,by rw [I.o];rfl⟩,u.o⟩
theorem oo (s:ByteArray) (pos:Nat) (w:World) (hs:s.size<=4611686018427387904) (hp:pos<s.size) :
 Calls Tryz.prog 189 #[.string s,.int .i64 pos] w (yR s pos w):=by
 have d:=s[pos].toNat_lt;have i:=U (wu s pos hp);by_cases q0:(s[pos].toNat:Int)<128
 . have c:=U (Zx s pos (by rw [i.o];omega));have e:¬(pos:Int)<0:=by omega
   have f:(pos:Int)<(s.size:Int):=by omega
   have g:((pos:Int) == (s.size:Int))=false:=by simp;omega
   have h:decide ((pos:Int)<0)=false:=Z7 (by omega);obtain ⟨a,b⟩:∃a,(s[pos].toNat:Int)=a:=⟨_,rfl⟩;rw [b] at q0;have j:0<=a:=by omega
   clear d;go_enter Tryz.func189,Tryz.ntmps189;go_wp2;go_ret3;exact ⟨_,1,0,rfl,.inl ⟨c.o.1,rfl,by rw [c.o.2];rfl⟩,Z0 _ _⟩
 by_cases j:(s[pos].toNat:Int)<192\/247<(s[pos].toNat:Int)
 . have c:=U (Zj s pos (by rw [i.o];omega));have e:¬(pos:Int)<0:=by omega
   have f:(pos:Int)<(s.size:Int):=by omega
   have g:((pos:Int) == (s.size:Int))=false:=by simp;omega
   have h:decide ((pos:Int)<0)=false:=Z7 (by omega);obtain ⟨a,b⟩:∃a,(s[pos].toNat:Int)=a:=⟨_,rfl⟩;rw [b] at q0 j;clear d;by_cases q2:a<192
   . go_enter Tryz.func189,Tryz.ntmps189;go_wp2;go_ret3;exact ⟨0,0,12,rfl,.inr ⟨c.o,by decide⟩,Z0 _ _⟩
   . have k:247<a:=by omega
     have l:decide (a<192)=false:=by simp;omega
     go_enter Tryz.func189,Tryz.ntmps189;go_wp2;go_ret3;exact ⟨0,0,12,rfl,.inr ⟨c.o,by decide⟩,Z0 _ _⟩
 by_cases q2:(s[pos].toNat:Int)<=223
 . exact tu s pos w hs hp (by omega) q2
 by_cases k:(s[pos].toNat:Int)<=239
 . exact tc s pos w hs hp (by omega) k
 . exact td s pos w hs hp (by omega) (by omega)
end Go.Proofs.YthgembbgcbaghaaGreatDoor
