import Derived.Test.YthgembbgcbaghaaGreatDoorDg09
import Derived.Test.YthgembbgcbaghaaGreatDoorDg05
import Derived.Laws.RangeAny
import Derived.ScopeJumps
import Derived.WalkMore
import Derived.Test.YthgembbgcbaghaaGreatDoorDg04
import Derived.BigRegion
import Derived.StillTailTactics
import Derived.IntWalk
set_option maxHeartbeats 4000000
set_option maxRecDepth 1000000

namespace Go.Proofs.YthgembbgcbaghaaGreatDoor
open Go.RowKit
def qR (s:ByteArray) (pos:Nat):Bool:=((Utf8.decode s pos).1 == 65533) && !Lib.hasPrefix (s.data.toList.drop pos) [239,191,189]
def kq (s:ByteArray):Nat->Nat->Bool
 | 0,_=>true
 | f+1,pos=>if pos<s.size then (if qR s pos then false else kq s f (pos+(Utf8.decode s pos).2)) else true
def vF (s:ByteArray):Bool:=kq s (s.size+1) 0
def ct (s:ByteArray) (w:World) (e:Ending) (w':World):Prop:=∃n:Int,e=.returned (.tuple #[.int .i64 n,.bool (vF s)])/\O5 w w'
theorem fu (s:ByteArray) (a:Nat):1<=(Utf8.decode s a).2:=by
 unfold Utf8.decode;dsimp only;repeat' split
 all_goals omega
theorem Zv (s:ByteArray) (w:World) (C:s.size<=9223372036854775807) :
 Calls Tryz.prog 151 #[.string s] w (ct s w):=by
 go_enter Tryz.func151,Tryz.ntmps151;go_wp2;go_loopw [4,5,6] (fun v4 _ _ wr=>∃(a n f:Nat),n<=a/\n<=s.size/\v4=.int .i64 n/\wr=w.iter s a/\kq s f a=vF s/\s.size+1<=f+a) (fun _ _ _ wr=>s.size - wr.iterPos w.heap.size)
 case atStart=>exact ⟨0,0,s.size+1,by omega,by omega,rfl,rfl,rfl,by omega⟩
 case round =>
  obtain ⟨a,n,f,B,y,rfl,rfl,c,A⟩:=hrel;by_cases hlt:a<s.size
  . obtain ⟨f,rfl⟩:∃g,f=g+1:=⟨f - 1,by omega⟩;have x:=fu s a;have v:=decode_le s a;have p:kq s (f+1) a=if qR s a then false else kq s f (a+(Utf8.decode s a).2):=by rw [kq,J8 hlt]
    have h:qR s a=(((Utf8.decode s a).1 == 65533) && !Lib.hasPrefix (s.data.toList.drop a) [239,191,189]):=rfl;have l:=fun ty=>run_next_any (P:=Tryz.prog) w s a ty hlt;generalize (Utf8.decode s a).1=r at *;generalize (Utf8.decode s a).2=d at *;have o:(s.extract a s.size).data.toList=s.data.toList.drop a:=(by rw [ByteArray.data_extract,Array.toList_extract,List.extract_eq_take_drop,X2];rw [List.length_drop,qp];exact J9 _);have m:=U o;rw [p] at c;have k:=U c;have i:=U h;clear c p h o;by_cases hr:r=65533
    . have u:((r:Int) == 65533)=true:=by simp [hr]
      have b:(r == 65533)=true:=by simp [hr]
      cases hp:Lib.hasPrefix (s.data.toList.drop a) [239,191,189]
      . have j:=U (show vF s=false by rw [<- k.o,i.o,b,hp];rfl);have q:=U hp;clear hp b hr;go_wp2_with fail;refine (Tryz.strings_HasPrefix _ _ _).mono ?_;rintro e z ⟨rfl,rfl⟩;rw [show Lib.hasPrefix (s.extract a s.size).data.toList (⟨#[239,191,189]⟩:ByteArray).data.toList=false by rw [m.o];exact q.o];go_wp2;go_ret2;exact ⟨0,by rw [j.o];rfl,O4⟩
      . have j:=U (show kq s f (a+d)=vF s by rw [<- k.o,i.o,b,hp];rfl);have q:=U hp;clear hp b hr;go_wp2_with fail;refine (Tryz.strings_HasPrefix _ _ _).mono ?_;rintro e z ⟨rfl,rfl⟩;rw [show Lib.hasPrefix (s.extract a s.size).data.toList (⟨#[239,191,189]⟩:ByteArray).data.toList=true by rw [m.o];exact q.o];go_wp2;go_roundw
        case rel=>exact ⟨a+d,n+1,f,by omega,by omega,by go_num,rfl,j.o,by omega⟩
        case measure=>simp;omega
    . have u:((r:Int) == 65533)=false:=by simp;omega
      have b:(r == 65533)=false:=by simp [hr]
      have j:=U (show kq s f (a+d)=vF s by rw [<- k.o,i.o,b];rfl);clear b hr;go_wp2;go_roundw
      case rel=>exact ⟨a+d,n+1,f,by omega,by omega,by go_num,rfl,j.o,by omega⟩
      case measure=>simp;omega
  . have l:=fun ty=>run_next_end (P:=Tryz.prog) w s a ty hlt;have j:=U (show vF s=true by
     rw [<- c];cases f with
     | zero=>rfl
     | succ f=>rw [kq,J3 hlt])
    clear c;go_wp2;go_ret2;exact ⟨n,by rw [j.o];rfl,O4⟩
theorem fl (s:ByteArray) (w:World) (d:s.size<=9223372036854775807) :
 Calls Tryz.prog 86 #[.string s] w fun e w'=>e=.returned (.bool (vF s))/\O5 w w':=by
 go_enter Tryz.func86,Tryz.ntmps86;go_wp2_with fail;refine (Zv s w d).mono ?_;rintro e c ⟨n,rfl,a⟩;have b:=U a;clear a;go_wp2;go_ret;exact ⟨rfl,b.o⟩
theorem rU (s t:ByteArray) (w:World) (i:s.size<=9223372036854775807) (j:t.size<=9223372036854775807) :
 Calls Tryz.prog 179 #[.agg #[.string s,.string t]] w fun e w'=>e=.returned (.bool (zd s.data.toList t.data.toList))/\O5 w w':=by
 unfold zd;cases hr:zg s.data.toList
 . have h:=U hr;go_enter Tryz.func179,Tryz.ntmps179;go_wp2_with (go_at_call 134;refine (kY s _ i).mono ?_;rintro e w' ⟨rfl,rfl⟩);go_ret;exact ⟨rfl,O4⟩
 by_cases h1:t.size<2\/128<t.size\/t.size % 2=1
 . have a:=U (cj h1);rw [a.o];by_cases b:t.size=0
   . have c:¬0<(t.size:Int):=by omega
     clear h1 b;go_enter Tryz.func179,Tryz.ntmps179;go_wp2_with (go_at_call 134;refine (kY s _ i).mono ?_;rintro e w' ⟨rfl,rfl⟩);go_ret;exact ⟨rfl,O4⟩
   have c:0<t.size:=by omega
   clear b;by_cases d:128<t.size
   . clear h1;go_enter Tryz.func179,Tryz.ntmps179;go_wp2_with (go_at_call 134;refine (kY s _ i).mono ?_;rintro e w' ⟨rfl,rfl⟩);go_ret;exact ⟨rfl,O4⟩
   have g:((t.size:Int) % 2 == 0)=false:=by simp;omega
   have f:t.size<=128:=by omega
   clear h1 d;go_enter Tryz.func179,Tryz.ntmps179;go_wp2_with (go_at_call 134;refine (kY s _ i).mono ?_;rintro e w' ⟨rfl,rfl⟩);go_ret;exact ⟨rfl,O4⟩
 . have a:=U (sy (s:=t) (by omega) (by omega) (by omega));rw [a.o];have b:2<=t.size:=by omega
   have d:t.size<=128:=by omega
   have g:((t.size:Int) % 2 == 0)=true:=by simp;omega
   clear h1;go_enter Tryz.func179,Tryz.ntmps179;go_wp2_with (first|(go_at_call 134;refine (kY s _ i).mono ?_;rintro e w' ⟨rfl,rfl⟩)|(go_at_call 195;refine (iC t _ j).mono ?_;rintro e w' ⟨rfl,rfl⟩));go_ret;exact ⟨by simp,O4⟩
theorem iD (t:ByteArray) (w:World) (c:t.size<=9223372036854775807) :
 Calls Tryz.prog 222 #[.string t] w fun e w'=>e=.returned (.bool (yN t.data.toList))/\w=w':=by
 by_cases g1:t.size<2
 . have a:=U (cj (.inl g1));go_enter Tryz.func222,Tryz.ntmps222;go_wp2;go_ret;exact ⟨qz a.o.symm,rfl⟩
 by_cases g2:128<t.size
 . have a:=U (cj (.inr (.inl g2)));go_enter Tryz.func222,Tryz.ntmps222;go_wp2;go_ret;exact ⟨qz a.o.symm,rfl⟩
 by_cases g3:t.size % 2=0
 . have a:=U (sy (s:=t) (by omega) (by omega) (by omega));have b:((t.size:Int) % 2 == 0)=true:=by simp;omega
   clear g3;go_enter Tryz.func222,Tryz.ntmps222;go_wp2_with (go_at_call 199;refine (cd t _ c).mono ?_;rintro e w' ⟨rfl,rfl⟩);go_ret;exact ⟨qz a.o.symm,rfl⟩
 . have a:=U (cj (s:=t) (.inr (.inr (by omega))));have b:((t.size:Int) % 2 == 0)=false:=by simp;omega
   clear g3;go_enter Tryz.func222,Tryz.ntmps222;go_wp2;go_ret;exact ⟨qz a.o.symm,rfl⟩
theorem fs (s t:ByteArray) (w:World) (a:s.size<=9223372036854775807) (b:t.size<=9223372036854775807) :
 Calls Tryz.prog 168 #[.agg #[.string s,.string t]] w fun e w'=>e=.returned (.bool (zd s.data.toList t.data.toList))/\O5 w w':=by
 unfold zd;cases hr:zg s.data.toList
 all_goals
  go_enter Tryz.func168,Tryz.ntmps168;go_wp2_with (first|(go_at_call 140;refine (bz s _ a).mono ?_;rintro e w' ⟨rfl,rfl⟩)|(go_at_call 222;refine (iD t _ b).mono ?_;rintro e w' ⟨rfl,rfl⟩));go_ret;exact ⟨by simp,O4⟩
mutual
def JV.count:JV->Nat
 | .mk _ _ _ _ xs=>1+JV.counts xs
def JV.counts:List JV->Nat
 | []=>0
 | x :: r=>JV.count x+JV.counts r
end
theorem JV.counts_take (l:List JV) (k:Nat) (h:k<l.length):JV.counts (l.take (k+1))=JV.counts (l.take k)+JV.count l[k]:=by
 induction l generalizing k with
 | nil=>simp at h
 | cons x r ih =>
  cases k with
  | zero=>simp [JV.counts]
  | succ k=>simp only [G7,JV.counts,M9];rw [ih k (by simpa using h)];omega
mutual
theorem JV.count_le:∀v:JV,v.count<=v.wt
 | .mk _ _ _ _ xs=>by have:=JV.counts_le xs;simp [JV.count,JV.wt];omega
theorem JV.counts_le:∀l:List JV,JV.counts l<=JV.wts l
 | []=>by simp [JV.counts]
 | x :: r=>by have:=JV.count_le x;have:=JV.counts_le r;simp [JV.counts,JV.wts];omega
end
theorem JV.wts_take (l:List JV) (k:Nat):JV.wts (l.take k)<=JV.wts l:=by
 induction l generalizing k with
 | nil=>simp
 | cons x r ih=>cases k with
  | zero=>simp [JV.wts]
  | succ k=>have:=ih k;simp [JV.wts];omega
theorem iL (N:Nat):∀(v:JV) (x:Value) (w:World),v.wt<=N->N<=4294967296->Rep w 0 w.heap.size v x ->
 Calls Tryz.prog 107 #[x] w fun e w'=>e=.returned (.int .i64 v.count)/\O5 w w':=by
 induction N with
 | zero=>intro v x w h;have:=v.wt_pos;omega
 | succ N ih =>
  intro v x w hN hM hR;obtain ⟨B,C,m,o,rfl,Z,h2,D,p⟩:=hR.parts;obtain ⟨I,J,K,L⟩:=v.wt_bd;have A:=U ih;clear ih;have r:=U p;clear p hR D;go_enter Tryz.func107,Tryz.ntmps107;go_wp2;go_loopw [3,4] (fun s i wr=>∃k:Nat,k<=v.items.length/\i=.int .i64 k/\s=.int .i64 (1+JV.counts (v.items.take k):Nat)/\Below (w.heap.size+1) (w.alloc (.cells #[.int .u8 v.kind,.int .i64 v.n,.string v.t,.slice B v.names.length C,.slice m v.items.length o] 25)) wr) (fun _ i _=>v.items.length - (intOf i).toNat)
  case atStart=>exact ⟨0,X7 _,rfl,by simp [JV.counts],J0 _ _⟩
  case round =>
   obtain ⟨k,hk,rfl,rfl,a⟩:=hrel;have E:wr.cell? ⟨w.heap.size,4,none⟩=some (.slice m v.items.length o):=by rw [a.cell (by simp)];go_simp
   have d:O5 w wr:=(O4).trans (a.mono (by omega));have hz:w.heap.size<wr.heap.size:=by have:=a.size;simp at this;omega
   have u:=U a;clear a;by_cases hlt:k<v.items.length
   . obtain ⟨b,H,M,P,Q,R,S,rfl,_,hb,T,V,W,X,Y,c⟩:=(r.o.below d lz lz d.size).at k hlt;have q:=JV.counts_le (v.items.take k);have j:=JV.wts_take v.items k;have F:=JV.wts_get v.items k hlt;have G:=JV.count_le v.items[k];have z:=U (JV.counts_take v.items k hlt);have l:=U d;clear d;have y:=U c;clear c;go_wp2_with fail;refine (A.o v.items[k] _ _ (by omega) (by omega) y.o).mono ?_;rintro e w1 ⟨rfl,f⟩;have g:=U f;clear f;go_wp2;go_roundw
     case rel=>exact ⟨k+1,by omega,by go_num,by rw [z.o];go_num,u.o.trans (g.o.mono (by omega))⟩
     case measure=>simp [intOf];omega
   . obtain rfl:k=v.items.length:=by omega
     have l:=U d;clear d;go_wp2;go_ret;refine ⟨xV ?_,l.o⟩;rw [zd5];cases v;rfl
theorem Qk (a c:Int) (w:World):Calls Tryz.prog 313 #[.int .i32 a,.int .i32 c] w fun e w'=>e=.returned (.bool (j7 a c))/\w'=w:=by
 have b:=O0 (j7 a c=if a=63 then decide (c≠47) else decide (a=c)) rfl;by_cases ha:a=63
 . have f:(a == 63)=true:=by simpa using ha
   rw [J8 ha] at b;clear ha;by_cases hc:c=47
   . have d:(c != 47)=false:=by simpa using hc
     rw [J5 (by simpa using hc)] at b;go_enter Tryz.func313,Tryz.ntmps313;go_wp2;go_ret;exact ⟨qz b.o.symm,rfl⟩
   . have d:(c != 47)=true:=by simpa using hc
     rw [X0 hc] at b;go_enter Tryz.func313,Tryz.ntmps313;go_wp2;go_ret;exact ⟨qz b.o.symm,rfl⟩
 . have f:(a == 63)=false:=by simpa using ha
   rw [J3 ha] at b;clear ha;by_cases hc:a=c
   . have d:(a == c)=true:=by simpa using hc
     rw [X0 hc] at b;go_enter Tryz.func313,Tryz.ntmps313;go_wp2;go_ret;exact ⟨qz b.o.symm,rfl⟩
   . have d:(a == c)=false:=by simpa using hc
     rw [J5 hc] at b;go_enter Tryz.func313,Tryz.ntmps313;go_wp2;go_ret;exact ⟨qz b.o.symm,rfl⟩
def iR (f:Func):Code:=match f.body with|some (.seq _ (.scope c))=>(findLabel c 0).getD .skip|_=>.skip
def iN (p s:List Int) (pa sa:Option Addr) (pc sc:Nat) (B:Nat) (w0:World) (a:Act) (w:World):Prop :=
 ∃(i j st fr:Nat) (sv:Int) (u9 u10 u11 u12 u13 u14 u15 u16 u17 u18 u19 u20 u21 u22 u23 u24 u25 u26 u27 u28 u29 u30 u31 u32 u33 u34 u35 u36 u37 u38 u39 u40 u41 u42 u43 u44 u45 u46 u47 u48 u49 u50 u51 u52 u53 u54 u55 u56 u57 u58 u59 u60 u61 u62 u63 u64 u65 u66 u67 u68 u69 u70 u71 u72 u73 u74 u75 u76 u77 u78:Value),a={ tmps:=(Value.slice pa p.length pc :: .slice sa s.length sc :: undef :: undef :: .bool false :: .int .i64 i :: .int .i64 j :: .int .i64 sv :: .int .i64 fr :: u9 :: u10 :: u11 :: u12 :: u13 :: u14 :: u15 :: u16 :: u17 :: u18 :: u19 :: u20 :: u21 :: u22 :: u23 :: u24 :: u25 :: u26 :: u27 :: u28 :: u29 :: u30 :: u31 :: u32 :: u33 :: u34 :: u35 :: u36 :: u37 :: u38 :: u39 :: u40 :: u41 :: u42 :: u43 :: u44 :: u45 :: u46 :: u47 :: u48 :: u49 :: u50 :: u51 :: u52 :: u53 :: u54 :: u55 :: u56 :: u57 :: u58 :: u59 :: u60 :: u61 :: u62 :: u63 :: u64 :: u65 :: u66 :: u67 :: u68 :: u69 :: u70 :: u71 :: u72 :: u73 :: u74 :: u75 :: u76 :: u77 :: u78 :: []).toArray,defers:=[] }/\sv+1=(st:Int)/\GOk p s ⟨i,j,st,fr⟩/\wZ p s ⟨i,j,st,fr⟩=pO p s/\Below B w0 w
def co (p s:List Int) (a:Act) (_w:World):Nat:=gmu p s ⟨(intOf (a.tmps.getD 5 undef)).toNat,0,(intOf (a.tmps.getD 7 undef)+1).toNat,(intOf (a.tmps.getD 8 undef)).toNat⟩
theorem xQ (p s:List Int) (v0 v1 v2 v3 v4:Value) (i j st fr:Nat) (a:Int) (u9 u10 u11 u12 u13 u14 u15 u16 u17 u18 u19 u20 u21 u22 u23 u24 u25 u26 u27 u28 u29 u30 u31 u32 u33 u34 u35 u36 u37 u38 u39 u40 u41 u42 u43 u44 u45 u46 u47 u48 u49 u50 u51 u52 u53 u54 u55 u56 u57 u58 u59 u60 u61 u62 u63 u64 u65 u66 u67 u68 u69 u70 u71 u72 u73 u74 u75 u76 u77 u78:Value) (w:World) (h:a+1=(st:Int)):co p s { tmps:=(v0 :: v1 :: v2 :: v3 :: v4 :: .int .i64 i :: .int .i64 j :: .int .i64 a :: .int .i64 fr :: u9 :: u10 :: u11 :: u12 :: u13 :: u14 :: u15 :: u16 :: u17 :: u18 :: u19 :: u20 :: u21 :: u22 :: u23 :: u24 :: u25 :: u26 :: u27 :: u28 :: u29 :: u30 :: u31 :: u32 :: u33 :: u34 :: u35 :: u36 :: u37 :: u38 :: u39 :: u40 :: u41 :: u42 :: u43 :: u44 :: u45 :: u46 :: u47 :: u48 :: u49 :: u50 :: u51 :: u52 :: u53 :: u54 :: u55 :: u56 :: u57 :: u58 :: u59 :: u60 :: u61 :: u62 :: u63 :: u64 :: u65 :: u66 :: u67 :: u68 :: u69 :: u70 :: u71 :: u72 :: u73 :: u74 :: u75 :: u76 :: u77 :: u78 :: []).toArray,defers:=[] } w=gmu p s ⟨i,j,st,fr⟩:=by show gmu p s ⟨((i:Int)).toNat,0,(a+1).toNat,((fr:Int)).toNat⟩=_;rw [h,zb2,zb2,zb2];rfl
theorem iS (p s:List Int) (pa sa:Option Addr) (pc sc:Nat) (w:World) (hp:zR w 0 w.heap.size pa p) (hs:zR w 0 w.heap.size sa s) (a4:p.length<=4294967296) (a5:s.length<=4294967296) (a:Act) (wr:World) (hJ:iN p s pa sa pc sc w.heap.size w a wr) :
 (dZ 1 (iR Tryz.f312)).wp Tryz.prog (Exit.jump 0 (fun a2 w2=>iN p s pa sa pc sc w.heap.size w a2 w2/\co p s a2 w2<co p s a wr) (bodyPost Tryz.prog Tryz.f312 fun e w2=>e=.returned (.bool (pO p s))/\O5 w w2)) a wr:=by
 obtain ⟨i,j,st,fr,G,u9,u10,u11,u12,u13,u14,u15,u16,u17,u18,u19,u20,u21,u22,u23,u24,u25,u26,u27,u28,u29,u30,u31,u32,u33,u34,u35,u36,u37,u38,u39,u40,u41,u42,u43,u44,u45,u46,u47,u48,u49,u50,u51,u52,u53,u54,u55,u56,u57,u58,u59,u60,u61,u62,u63,u64,u65,u66,u67,u68,u69,u70,u71,u72,u73,u74,u75,u76,u77,u78,rfl,C,u,hv,D⟩:=hJ;have HP:=U (hp.below D lz lz D.size);have R:=U (hs.below D lz lz D.size);have g:=U u;have o:=U hv;have m:=U D;have hi:=u.i;have hj:=u.j;have L:=u.st;have K:=u.fr;clear hp hs u hv D;obtain ⟨P,q⟩:=O1 p.length;obtain ⟨S,r⟩:=O1 s.length;have k:=U q;have f:=U r;dsimp only at hi hj L K;rw [<- q] at hi a4 ⊢;rw [<- r] at hj a5 ⊢;clear q r
 conv=>arg 2;whnf
 by_cases h1:i=P
 . have c1:((i:Int) == (P:Int))=true:=by rw [zd6];omega
   have c3:decide ((i:Int)<(P:Int))=false:=by rw [V1];omega
   have I:¬i<P:=by omega
   by_cases h2:j=S
   . have c2:((j:Int) == (S:Int))=true:=by rw [zd6];omega
     have d:=U (o.o.symm.trans (Qz g.o (h1.trans k.o) (h2.trans f.o)));clear h1 h2;go_wp2
     try simp only [Exit.jump]
     go_ret;exact ⟨qz d.o.symm,m.o⟩
   have c2:((j:Int) == (S:Int))=false:=by rw [K3];omega
   have c:=O0 (p8 p s ⟨i,j,st,fr⟩) (.inl ⟨h1.trans k.o,fun h=>h2 (h.trans f.o.symm)⟩);clear h1 h2;by_cases h4:st=0
   . have M:decide (G<0)=true:=by rw [J6];omega
     have d:=U (o.o.symm.trans (vB g.o c.o (.inl h4)));go_wp2;go_quiet (fail);go_wp2
     try simp only [Exit.jump]
     go_ret;exact ⟨qz d.o.symm,Below.drewN m.o _⟩
   have M:decide (G<0)=false:=by rw [V1];omega
   by_cases h5:fr=S
   . have N:((fr:Int) == (S:Int))=true:=by rw [zd6];omega
     have d:=U (o.o.symm.trans (vB g.o c.o (.inr (.inl (h5.trans f.o)))));go_wp2;go_quiet (fail);go_wp2
     try simp only [Exit.jump]
     go_ret;exact ⟨qz d.o.symm,Below.drewN m.o _⟩
   have N:((fr:Int) == (S:Int))=false:=by rw [K3];omega
   obtain ⟨V,W,A,-,J,B⟩:=R.o.at fr (by rw [<- f.o];omega);have k3:(0:Int)<=(fr:Int):=by omega
   have k4:(fr:Int)<(S:Int):=by omega
   subst A;have v:=O0 (∃z,z=s.getD fr 0) (⟨_,rfl⟩);obtain ⟨z,l⟩:=v.o;rw [<- l] at B;by_cases h6:z=47
   . have Q:(z == 47)=true:=by rw [zd6];exact h6
     have d:=U (o.o.symm.trans (vB g.o c.o (.inr (.inr (l.symm.trans h6)))));clear l h4 h5 h6;go_wp2;go_quiet (fail);go_wp2
     try simp only [Exit.jump]
     go_ret;exact ⟨qz d.o.symm,Below.drewN m.o _⟩
   . have Q:(z == 47)=false:=by rw [K3];exact h6
     have d:=U (p9 g.o c.o ⟨h4,fun h=>h5 (h.trans f.o.symm),fun h=>h6 (l.trans h)⟩);clear l h4 h5 h6;go_wp2;go_quiet (fail);go_wp2;rw [show (fr:Int)+1=((fr+1:Nat):Int) from by omega];have q:=k.o;have r:=f.o;subst q;subst r;go_step3;refine ⟨rfl,⟨st,fr+1,st,fr+1,_,_,_,_,_,_,_,_,_,_,_,_,_,_,_,_,_,_,_,_,_,_,_,_,_,_,_,_,_,_,_,_,_,_,_,_,_,_,_,_,_,_,_,_,_,_,_,_,_,_,_,_,_,_,_,_,_,_,_,_,_,_,_,_,_,_,_,_,_,_,_,rfl,?_,d.o.2.1,d.o.1.symm.trans o.o,Below.drewN m.o _⟩,?_⟩
     . omega
     . rw [xQ (j:=j) (h:=C),xQ (i:=st) (j:=fr+1) (st:=st) (fr:=fr+1) (h:=by omega)];exact d.o.2.2
 have c1:((i:Int) == (P:Int))=false:=by rw [K3];omega
 have I:i<P:=by omega
 have m1:(0:Int)<=(i:Int):=by omega
 have m2:(i:Int)<(P:Int):=by omega
 have m3:decide ((i:Int)<(P:Int))=true:=by rw [J6];omega
 obtain ⟨pb,po,X,-,a1,Y⟩:=HP.o.at i (by rw [<- k.o];omega);subst X;obtain ⟨x,hx⟩:=O1 (p.getD i 0);rw [<- hx] at Y;have T:=U hx;clear h1 hx;by_cases h2:x=42
 . have q1:(x == 42)=true:=by rw [zd6];exact h2
   have d:=U (iM g.o (show i<p.length by rw [<- k.o];exact I) (T.o.symm.trans h2));clear h2;go_wp2;rw [show (i:Int)+1=((i+1:Nat):Int) from by omega];have q:=k.o;have r:=f.o;subst q;subst r;go_step3;refine ⟨rfl,⟨i+1,j,i+1,j,_,_,_,_,_,_,_,_,_,_,_,_,_,_,_,_,_,_,_,_,_,_,_,_,_,_,_,_,_,_,_,_,_,_,_,_,_,_,_,_,_,_,_,_,_,_,_,_,_,_,_,_,_,_,_,_,_,_,_,_,_,_,_,_,_,_,_,_,_,_,_,rfl,?_,d.o.2.1,d.o.1.symm.trans o.o,m.o⟩,?_⟩
   . omega
   . rw [xQ (j:=j) (h:=C),xQ (i:=i+1) (j:=j) (st:=i+1) (fr:=j) (h:=by omega)];exact d.o.2.2
 have q1:(x == 42)=false:=by rw [K3];exact h2
 have E:=O0 (¬p.getD i 0=42) (fun h=>h2 (T.o.trans h));clear h2;by_cases h3:j=S
 . have n1:¬j<S:=by omega
   have n2:decide ((j:Int)<(S:Int))=false:=by rw [V1];omega
   have c:=O0 (p8 p s ⟨i,j,st,fr⟩) (.inr ⟨by rw [<- k.o];exact I,E.o,fun h=>absurd h (by rw [<- f.o];exact n1)⟩);clear h3;by_cases h4:st=0
   . have M:decide (G<0)=true:=by rw [J6];omega
     have d:=U (o.o.symm.trans (vB g.o c.o (.inl h4)));go_wp2;go_quiet (fail);go_wp2
     try simp only [Exit.jump]
     go_ret;exact ⟨qz d.o.symm,Below.drewN m.o _⟩
   have M:decide (G<0)=false:=by rw [V1];omega
   by_cases h5:fr=S
   . have N:((fr:Int) == (S:Int))=true:=by rw [zd6];omega
     have d:=U (o.o.symm.trans (vB g.o c.o (.inr (.inl (h5.trans f.o)))));go_wp2;go_quiet (fail);go_wp2
     try simp only [Exit.jump]
     go_ret;exact ⟨qz d.o.symm,Below.drewN m.o _⟩
   have N:((fr:Int) == (S:Int))=false:=by rw [K3];omega
   obtain ⟨V,W,A,-,J,B⟩:=R.o.at fr (by rw [<- f.o];omega);have k3:(0:Int)<=(fr:Int):=by omega
   have k4:(fr:Int)<(S:Int):=by omega
   subst A;have v:=O0 (∃z,z=s.getD fr 0) (⟨_,rfl⟩);obtain ⟨z,l⟩:=v.o;rw [<- l] at B;by_cases h6:z=47
   . have Q:(z == 47)=true:=by rw [zd6];exact h6
     have d:=U (o.o.symm.trans (vB g.o c.o (.inr (.inr (l.symm.trans h6)))));clear l h4 h5 h6;go_wp2;go_quiet (fail);go_wp2
     try simp only [Exit.jump]
     go_ret;exact ⟨qz d.o.symm,Below.drewN m.o _⟩
   . have Q:(z == 47)=false:=by rw [K3];exact h6
     have d:=U (p9 g.o c.o ⟨h4,fun h=>h5 (h.trans f.o.symm),fun h=>h6 (l.trans h)⟩);clear l h4 h5 h6;go_wp2;go_quiet (fail);go_wp2;rw [show (fr:Int)+1=((fr+1:Nat):Int) from by omega];have q:=k.o;have r:=f.o;subst q;subst r;go_step3;refine ⟨rfl,⟨st,fr+1,st,fr+1,_,_,_,_,_,_,_,_,_,_,_,_,_,_,_,_,_,_,_,_,_,_,_,_,_,_,_,_,_,_,_,_,_,_,_,_,_,_,_,_,_,_,_,_,_,_,_,_,_,_,_,_,_,_,_,_,_,_,_,_,_,_,_,_,_,_,_,_,_,_,_,rfl,?_,d.o.2.1,d.o.1.symm.trans o.o,Below.drewN m.o _⟩,?_⟩
     . omega
     . rw [xQ (j:=j) (h:=C),xQ (i:=st) (j:=fr+1) (st:=st) (fr:=fr+1) (h:=by omega)];exact d.o.2.2
 have n1:j<S:=by omega
 have n2:decide ((j:Int)<(S:Int))=true:=by rw [J6];omega
 have m4:(0:Int)<=(j:Int):=by omega
 have m5:(j:Int)<(S:Int):=by omega
 obtain ⟨sb,so,Z,-,a3,a0⟩:=R.o.at j (by rw [<- f.o];omega);subst Z;obtain ⟨y,hy⟩:=O1 (s.getD j 0);rw [<- hy] at a0;have HY:=U hy;clear h3 hy;have F:=U (fun w=>Qk x y w);obtain ⟨b,D⟩:=O1 (j7 x y);rw [<- D] at F;have H:=U (show j7 (p.getD i 0) (s.getD j 0)=b by rw [<- T.o,<- HY.o,D]);clear D;cases b
 case true =>
  have d:=U (Qx g.o (show i<p.length by rw [<- k.o];exact I) E.o (show j<s.length by rw [<- f.o];exact n1) H.o);go_wp2;go_quiet ((go_at_call 313;exact Calls.quiet_of_same (F.o _)));go_wp2;rw [show (i:Int)+1=((i+1:Nat):Int) from by omega,show (j:Int)+1=((j+1:Nat):Int) from by omega];have q:=k.o;have r:=f.o;subst q;subst r;go_step3;refine ⟨rfl,⟨i+1,j+1,st,fr,_,_,_,_,_,_,_,_,_,_,_,_,_,_,_,_,_,_,_,_,_,_,_,_,_,_,_,_,_,_,_,_,_,_,_,_,_,_,_,_,_,_,_,_,_,_,_,_,_,_,_,_,_,_,_,_,_,_,_,_,_,_,_,_,_,_,_,_,_,_,_,rfl,?_,d.o.2.1,d.o.1.symm.trans o.o,Below.drewN m.o _⟩,?_⟩
  . omega
  . rw [xQ (j:=j) (h:=C),xQ (i:=i+1) (j:=j+1) (st:=st) (fr:=fr) (h:=by omega)];exact d.o.2.2
 case false =>
  have c:=O0 (p8 p s ⟨i,j,st,fr⟩) (.inr ⟨by rw [<- k.o];exact I,E.o,fun _=>H.o⟩);by_cases h4:st=0
  . have M:decide (G<0)=true:=by rw [J6];omega
    have d:=U (o.o.symm.trans (vB g.o c.o (.inl h4)));go_wp2;go_quiet ((go_at_call 313;exact Calls.quiet_of_same (F.o _)));go_wp2
    try simp only [Exit.jump]
    go_ret;exact ⟨qz d.o.symm,Below.drewN m.o _⟩
  have M:decide (G<0)=false:=by rw [V1];omega
  by_cases h5:fr=S
  . have N:((fr:Int) == (S:Int))=true:=by rw [zd6];omega
    have d:=U (o.o.symm.trans (vB g.o c.o (.inr (.inl (h5.trans f.o)))));go_wp2;go_quiet ((go_at_call 313;exact Calls.quiet_of_same (F.o _)));go_wp2
    try simp only [Exit.jump]
    go_ret;exact ⟨qz d.o.symm,Below.drewN m.o _⟩
  have N:((fr:Int) == (S:Int))=false:=by rw [K3];omega
  obtain ⟨V,W,A,-,J,B⟩:=R.o.at fr (by rw [<- f.o];omega);have k3:(0:Int)<=(fr:Int):=by omega
  have k4:(fr:Int)<(S:Int):=by omega
  obtain ⟨rfl,rfl⟩:sb=V/\so=W:=by simpa using A
  have v:=O0 (∃z,z=s.getD fr 0) (⟨_,rfl⟩);obtain ⟨z,l⟩:=v.o;rw [<- l] at B;by_cases h6:z=47
  . have Q:(z == 47)=true:=by rw [zd6];exact h6
    have d:=U (o.o.symm.trans (vB g.o c.o (.inr (.inr (l.symm.trans h6)))));clear l h4 h5 h6;go_wp2;go_quiet ((go_at_call 313;exact Calls.quiet_of_same (F.o _)));go_wp2
    try simp only [Exit.jump]
    go_ret;exact ⟨qz d.o.symm,Below.drewN m.o _⟩
  . have Q:(z == 47)=false:=by rw [K3];exact h6
    have d:=U (p9 g.o c.o ⟨h4,fun h=>h5 (h.trans f.o.symm),fun h=>h6 (l.trans h)⟩);clear l h4 h5 h6;go_wp2;go_quiet ((go_at_call 313;exact Calls.quiet_of_same (F.o _)));go_wp2;rw [show (fr:Int)+1=((fr+1:Nat):Int) from by omega];have q:=k.o;have r:=f.o;subst q;subst r;go_step3;refine ⟨rfl,⟨st,fr+1,st,fr+1,_,_,_,_,_,_,_,_,_,_,_,_,_,_,_,_,_,_,_,_,_,_,_,_,_,_,_,_,_,_,_,_,_,_,_,_,_,_,_,_,_,_,_,_,_,_,_,_,_,_,_,_,_,_,_,_,_,_,_,_,_,_,_,_,_,_,_,_,_,_,_,rfl,?_,d.o.2.1,d.o.1.symm.trans o.o,Below.drewN m.o _⟩,?_⟩
    . omega
    . rw [xQ (j:=j) (h:=C),xQ (i:=st) (j:=fr+1) (st:=st) (fr:=fr+1) (h:=by omega)];exact d.o.2.2
theorem af (p s:List Int) (pa b:Option Addr) (f g:Nat) (w:World) (i:zR w 0 w.heap.size pa p) (j:zR w 0 w.heap.size b s) (c:p.length<=4294967296) (d:s.length<=4294967296) :
 Calls Tryz.prog 312 #[.slice pa p.length f,.slice b s.length g] w fun e w2=>e=.returned (.bool (pO p s))/\O5 w w2:=by
 have a:=U (iS p s pa b f g w i j c d);clear i j;go_enter Tryz.func312,Tryz.ntmps312;go_wp2;refine wp_scope_jumps 0 (iN p s pa b f g w.heap.size w) (co p s) rfl ?_ ?_
 . go_wp2;go_step3;rename_i hK;refine hK _ _ ?_;refine wp_mono (a.o _ w ⟨0,0,0,0,-1,_,_,_,_,_,_,_,_,_,_,_,_,_,_,_,_,_,_,_,_,_,_,_,_,_,_,_,_,_,_,_,_,_,_,_,_,_,_,_,_,_,_,_,_,_,_,_,_,_,_,_,_,_,_,_,_,_,_,_,_,_,_,_,_,_,_,_,_,_,_,rfl,rfl,GOk.start p s,rfl,J0 _ _⟩) ?_;intro e a2 w2 h;cases e with
   | goto l=>exact ⟨h.1,h.2.1⟩
   | normal=>exact h
   | exit _=>exact h
   | ret=>exact h
   | panic _=>exact h
   | outgrown=>exact h
 . intro a2 w2 hJ;have h:=a.o a2 w2 hJ;refine wp_seq (wp_skip ?_);show Code.wp _ _ _ a2 w2;exact h
theorem get_at (s:ByteArray) (i:Nat) (h:i<s.data.toList.length):s.get! i=s.data.toList[i]:=by
 have a:i<s.data.size:=by simpa using h
 simp only [ByteArray.get!,Array.getElem_toList];exact getElem!_pos s.data i a
theorem drop_at {α:Type} (l:List α) (i:Nat) (h:i<l.length):l.drop i=l[i] :: l.drop (i+1):=G3 h
theorem Xd (s:ByteArray) (a:Nat) (b:(s.get! a).toNat<128):qR s a=false/\(Utf8.decode s a).2=1:=by
 have e:Utf8.decode s a=((s.get! a).toNat,1):=by simp [Utf8.decode,b]
 rw [qR,e];refine ⟨?_,rfl⟩;have:((s.get! a).toNat == 65533)=false:=by simp;omega
 simp [this]
theorem Qv (s:ByteArray) (g:Nat):Lib.hasPrefix (s.data.toList.drop g) [239,191,189]=true↔g+2<s.size/\(s.get! g).toNat=239/\(s.get! (g+1)).toNat=191/\(s.get! (g+2)).toNat=189:=by
 have f:s.data.toList.length=s.size:=by simp
 have c:∀(l:List UInt8),Lib.hasPrefix l [239,191,189]=true↔∃r,l=239 :: 191 :: 189 :: r:=by
  intro l;unfold Lib.hasPrefix;rw [List.isPrefixOf_iff_prefix];constructor
  . rintro ⟨r,rfl⟩;exact ⟨r,rfl⟩
  . rintro ⟨r,rfl⟩;exact ⟨r,rfl⟩
 rw [c];by_cases h:g+2<s.size
 . rw [drop_at _ _ (by omega),drop_at _ _ (by omega),drop_at _ _ (by omega),<- get_at s g (by omega),<- get_at s (g+1) (by omega),<- get_at s (g+1+1) (by omega)];constructor
   . rintro ⟨r,a⟩;simp only [G5] at a;rw [a.1,a.2.1,a.2.2.1];exact ⟨h,rfl,rfl,rfl⟩
   . rintro ⟨_,d,b,e⟩;refine ⟨s.data.toList.drop (g+1+1+1),?_⟩;rw [show s.get! g=239 from UInt8.toNat_inj.1 d,show s.get! (g+1)=191 from UInt8.toNat_inj.1 b,show s.get! (g+1+1)=189 from UInt8.toNat_inj.1 e]
 . constructor
   . rintro ⟨r,a⟩;have:=Y2 List.length a;simp at this;omega
   . rintro ⟨b,_⟩;exact absurd b h
theorem sr (s:ByteArray) (a:Nat):qR s a=true↔(Utf8.decode s a).1=65533/\¬(a+2<s.size/\(s.get! a).toNat=239/\(s.get! (a+1)).toNat=191/\(s.get! (a+2)).toNat=189):=by rw [<- Qv];unfold qR;simp
theorem ft (s:ByteArray) (a:Nat):qR s a=false↔¬((Utf8.decode s a).1=65533/\¬(a+2<s.size/\(s.get! a).toNat=239/\(s.get! (a+1)).toNat=191/\(s.get! (a+2)).toNat=189)):=by rw [<- sr];simp
theorem Xl (s:ByteArray) (b:Nat) (c:128<=(s.get! b).toNat/\(s.get! b).toNat<192\/247<(s.get! b).toNat):qR s b=true:=by have a:=(s.get! b).toNat_lt;have e:Utf8.decode s b=(65533,1):=(by unfold Utf8.decode Utf8.runeError;simp only [za9];rw [J3 (by omega),J3 (by simp;omega),J3 (by simp;omega),J3 (by simp;omega)]);rw [sr,e];exact ⟨rfl,by omega⟩
theorem Xr (s:ByteArray) (b:Nat) (c:192<=(s.get! b).toNat/\(s.get! b).toNat<224) :
 (qR s b=false↔b+1<s.size/\uS (s.get! b).toNat (s.get! (b+1)).toNat)/\(qR s b=false->(Utf8.decode s b).2=2):=by
 have a:=(s.get! (b+1)).toNat_lt;have e:Utf8.decode s b=if b+1<s.size/\uS (s.get! b).toNat (s.get! (b+1)).toNat then ((s.get! b).toNat % 32 * 64+(s.get! (b+1)).toNat % 64,2) else (65533,1):=by
  unfold Utf8.decode uS Utf8.runeError;simp only [za9];rw [J3 (by omega)];by_cases g:b+1<s.size/\(s.get! (b+1)).toNat / 64=2
  . rw [J8 (by simp;omega)];by_cases g2:(s.get! b).toNat % 32 * 64+(s.get! (b+1)).toNat % 64≥128
    . rw [J8 g2,J8 (by omega)]
    . rw [J3 g2,J3 (by omega)]
  . rw [J3 (by simp;omega),J3 (by simp;omega),J3 (by simp;omega),J3 (by omega)]
 rw [ft,e];split
 . rename_i g;exact ⟨⟨fun _=>g,fun _=>by simp;omega⟩,fun _=>rfl⟩
 . rename_i g;exact ⟨⟨fun h=>absurd ⟨rfl,by omega⟩ h,fun h=>absurd h g⟩,fun h=>absurd ⟨rfl,by omega⟩ h⟩
theorem Xn (s:ByteArray) (c:Nat) (d:224<=(s.get! c).toNat/\(s.get! c).toNat<240) :
 (qR s c=false↔c+2<s.size/\fj (s.get! c).toNat (s.get! (c+1)).toNat (s.get! (c+2)).toNat)/\(qR s c=false->(Utf8.decode s c).2=3):=by
 have a:=(s.get! (c+1)).toNat_lt;have b:=(s.get! (c+2)).toNat_lt;have e:Utf8.decode s c=if c+2<s.size/\fj (s.get! c).toNat (s.get! (c+1)).toNat (s.get! (c+2)).toNat then ((s.get! c).toNat % 16 * 4096+(s.get! (c+1)).toNat % 64 * 64+(s.get! (c+2)).toNat % 64,3) else (65533,1):=by
  unfold Utf8.decode fj Utf8.runeError Utf8.valid;simp only [za9];rw [J3 (by omega),J3 (by simp;omega)];by_cases g:c+2<s.size/\(s.get! (c+1)).toNat / 64=2/\(s.get! (c+2)).toNat / 64=2
  . rw [J8 (by simp;omega)];by_cases g2:(s.get! c).toNat % 16 * 4096+(s.get! (c+1)).toNat % 64 * 64+(s.get! (c+2)).toNat % 64≥2048/\((s.get! c).toNat % 16 * 4096+(s.get! (c+1)).toNat % 64 * 64+(s.get! (c+2)).toNat % 64<55296\/57343<(s.get! c).toNat % 16 * 4096+(s.get! (c+1)).toNat % 64 * 64+(s.get! (c+2)).toNat % 64)
    . rw [J8 (by simp;omega),J8 (by omega)]
    . rw [J3 (by simp;omega),J3 (by omega)]
  . rw [J3 (by simp;omega),J3 (by simp;omega),J3 (by omega)]
 rw [ft,e];unfold fj;split
 . rename_i g;exact ⟨⟨fun _=>g,fun _=>by simp;omega⟩,fun _=>rfl⟩
 . rename_i g;exact ⟨⟨fun h=>absurd ⟨rfl,by omega⟩ h,fun h=>absurd h g⟩,fun h=>absurd ⟨rfl,by omega⟩ h⟩
theorem Xs (s:ByteArray) (d:Nat) (f:240<=(s.get! d).toNat/\(s.get! d).toNat<=247) :
 (qR s d=false↔d+3<s.size/\fk (s.get! d).toNat (s.get! (d+1)).toNat (s.get! (d+2)).toNat (s.get! (d+3)).toNat)/\(qR s d=false->(Utf8.decode s d).2=4):=by
 have a:=(s.get! (d+1)).toNat_lt;have b:=(s.get! (d+2)).toNat_lt;have c:=(s.get! (d+3)).toNat_lt;have e:Utf8.decode s d=if d+3<s.size/\fk (s.get! d).toNat (s.get! (d+1)).toNat (s.get! (d+2)).toNat (s.get! (d+3)).toNat then ((s.get! d).toNat % 8 * 262144+(s.get! (d+1)).toNat % 64 * 4096+(s.get! (d+2)).toNat % 64 * 64+(s.get! (d+3)).toNat % 64,4) else (65533,1):=by
  unfold Utf8.decode fk Utf8.runeError Utf8.valid;simp only [za9];rw [J3 (by omega),J3 (by simp;omega),J3 (by simp;omega)];by_cases g:d+3<s.size/\(s.get! (d+1)).toNat / 64=2/\(s.get! (d+2)).toNat / 64=2/\(s.get! (d+3)).toNat / 64=2
  . rw [J8 (by simp;omega)];by_cases g2:(s.get! d).toNat % 8 * 262144+(s.get! (d+1)).toNat % 64 * 4096+(s.get! (d+2)).toNat % 64 * 64+(s.get! (d+3)).toNat % 64≥65536/\(s.get! d).toNat % 8 * 262144+(s.get! (d+1)).toNat % 64 * 4096+(s.get! (d+2)).toNat % 64 * 64+(s.get! (d+3)).toNat % 64<=1114111
    . rw [J8 (by simp;omega),J8 (by omega)]
    . rw [J3 (by simp;omega),J3 (by omega)]
  . rw [J3 (by simp;omega),J3 (by omega)]
 rw [ft,e];unfold fk;split
 . rename_i g;exact ⟨⟨fun _=>g,fun _=>by simp;omega⟩,fun _=>rfl⟩
 . rename_i g;exact ⟨⟨fun h=>absurd ⟨rfl,by omega⟩ h,fun h=>absurd h g⟩,fun h=>absurd ⟨rfl,by omega⟩ h⟩
def gw (k:Nat) (hi:Int):Prop:=(k=0/\hi<32)\/(k=1/\hi<2048)\/(k=2/\hi<131072)\/(k=3/\hi<8388608)
def rM (l:List UInt8) (x:Int) (size:Nat) (lo hi i:Value):Prop :=
 ∃(k:Nat) (a b:Int),k+1<=size/\i=.int .i64 ((k:Int)+1)/\lo=.int .i64 a/\hi=.int .i64 b/\zT l x k=some (a,b)/\0<=a/\a<=b/\gw k b
theorem fe {k:Nat} {b:Int} (h:gw k b):b<8388608:=by unfold gw at h;omega
theorem vf (s:ByteArray) (k:Nat) (h:k<s.size):(s[k].toNat:Int)=qV s.data.toList k:=by
 unfold qV;have a:k<s.data.toList.length:=by simpa using h
 rw [V2,V3 a];rfl
theorem jd {l:List UInt8} {size k:Nat} (a:k+1<size) (h:zT l (qV l 0 - vP size) (k+1)=none):qC l size=false:=by unfold qC;have:=gx l _ (k+1) h (size - 1 - (k+1));rw [show k+1+(size - 1 - (k+1))=size - 1 by omega] at this;rw [this]
theorem wW {l:List UInt8} {size:Nat} {a b:Int} (h:zT l (qV l 0 - vP size) (size - 1)=some (a,b)):qC l size=kW a b (wK size):=by unfold qC;rw [h]
theorem rC (s:ByteArray) (w:World) (hn:1<=s.size) (h1:192<=qV s.data.toList 0) (h2:qV s.data.toList 0<=223) :
 Calls Tryz.prog 240 #[.string s,.int .i64 2] w fun e w'=>e=.returned (.bool (qC s.data.toList 2))/\O5 w w':=by
 have r:(s[0].toNat:Int)=qV s.data.toList 0:=vf s 0 (by omega);have Q:(0:Int)<(s.size:Int):=by omega
 obtain ⟨o,q⟩:=O1 (qV s.data.toList 0);rw [<- q] at h1 h2 r;have D:=U (show o - 192=qV s.data.toList 0 - vP 2 by rw [q];rfl);clear q;have Y:IntKind.i64.wrap o=o:=V0 _ (by omega);go_enter Tryz.func240,Tryz.ntmps240;go_wp2;go_quiet (fail);go_wp2;clear r Y;go_loopw [5,6,7] (fun lo hi i wr=>rM s.data.toList (o - 192) 2 lo hi i/\O5 w wr) (fun _ _ i _=>2 - (intOf i).toNat)
 case atStart=>exact ⟨⟨0,_,_,by omega,rfl,rfl,rfl,rfl,by omega,Int.le_refl _,.inl ⟨rfl,by omega⟩⟩,Below.drewN (J0 _ _) _⟩
 case round =>
  obtain ⟨⟨k,a,b,hk,rfl,rfl,rfl,z,Z,M,p⟩,m⟩:=hrel;have d:=U m;clear m;have j:=U z;have E:=fe p;clear z;have N:b<8388608:=E;by_cases hlt:k+1<2
  . have f:=U (show zT s.data.toList (o - 192) (k+1)=if k+1<s.data.toList.length then (if qV s.data.toList (k+1)<128\/191<qV s.data.toList (k+1) then none else some (64 * a+(qV s.data.toList (k+1) - 128),64 * b+(qV s.data.toList (k+1) - 128))) else some (64 * a,64 * b+63) by
     rw [zT,j.o])
    have y:(k:Int)+1<2:=by omega
    by_cases hks:k+1<s.size
    . have x:(k:Int)+1<(s.size:Int):=by omega
      have P:(s[k+1].toNat:Int)=qV s.data.toList (k+1):=vf s (k+1) hks;have F:=vg s.data.toList (k+1);rw [J8 (by rw [qp];exact hks)] at f;have ht:((k:Int)+1).toNat=k+1:=by omega
      obtain ⟨c,u⟩:=O1 (qV s.data.toList (k+1));rw [<- u] at P F f;clear u;by_cases g1:c<128
      . have C:=U (jd (l:=s.data.toList) (size:=2) hlt (by rw [<- D.o,f.o,J8 (.inl g1)]));go_wp2;go_ret;exact ⟨by rw [C.o] <;> rfl,d.o⟩
      by_cases g2:191<c
      . have C:=U (jd (l:=s.data.toList) (size:=2) hlt (by rw [<- D.o,f.o,J8 (.inr g2)]));go_wp2;go_ret;exact ⟨by rw [C.o] <;> rfl,d.o⟩
      rw [J3 (by omega)] at f;have R:IntKind.u8.wrap (c - 128)=c - 128:=zf0 _ (by omega);have S:IntKind.i64.wrap (c - 128)=c - 128:=V0 _ (by omega);have T:IntKind.i64.wrap (64 * a)=64 * a:=V0 _ (by omega);have V:IntKind.i64.wrap (64 * b)=64 * b:=V0 _ (by omega);have W:IntKind.i64.wrap (64 * a+(c - 128))=64 * a+(c - 128):=V0 _ (by omega);have X:IntKind.i64.wrap (64 * b+(c - 128))=64 * b+(c - 128):=V0 _ (by omega);go_wp2;go_quiet (fail);clear R S T V W X;go_wp2;go_roundw
      case rel=>exact ⟨⟨k+1,_,_,by omega,by go_num,rfl,rfl,f.o,by omega,by omega,by unfold gw at p ⊢;omega⟩,Below.drewN d.o _⟩
      case measure=>simp [intOf];omega
    . rw [J3 (by rw [qp];exact hks)] at f;have x:¬(k:Int)+1<(s.size:Int):=by omega
      go_wp2;go_roundw
      case rel=>exact ⟨⟨k+1,_,_,by omega,by go_num,rfl,rfl,f.o,by omega,by omega,by unfold gw at p ⊢;omega⟩,d.o⟩
      case measure=>simp [intOf];omega
  . have v:k=2 - 1:=by omega
    have g:=O0 (qC s.data.toList 2=kW a b 128) (wW (by rw [<- D.o];rw [v] at j;exact j.o));have y:¬(k:Int)+1<2:=by omega
    clear v j;obtain ⟨A,I⟩:∃A:Int,max a 128=A:=⟨_,rfl⟩;obtain ⟨B,L⟩:∃B:Int,min b 1114111=B:=⟨_,rfl⟩;have G:=U (show A=max a 128 by rw [<- I]);have H:=U (show B=min b 1114111 by rw [<- L]);unfold kW at g;rw [<- G.o,<- H.o] at g;have K:128<=A:=by rw [<- I];omega
    clear G H;by_cases g1:55296<=A
    . by_cases g2:B<=57343
      . rw [J8 ⟨g1,g2⟩] at g;go_wp2;go_ret;exact ⟨by rw [g.o] <;> rfl,d.o.alloc d.o.size _⟩
      . rw [J3 (fun h=>g2 h.2)] at g;by_cases g3:A<=B
        . rw [X0 g3] at g;go_wp2;go_ret;exact ⟨by rw [g.o] <;> rfl,d.o.alloc d.o.size _⟩
        . rw [J5 g3] at g;go_wp2;go_ret;exact ⟨by rw [g.o] <;> rfl,d.o.alloc d.o.size _⟩
    . try (exfalso;omega)
      all_goals
       have J:decide (55296<=A)=false:=by simp;omega
       rw [J3 (fun h=>g1 h.1)] at g;by_cases g3:A<=B
       . rw [X0 g3] at g;go_wp2;go_ret;exact ⟨by rw [g.o] <;> rfl,d.o.alloc d.o.size _⟩
       . rw [J5 g3] at g;go_wp2;go_ret;exact ⟨by rw [g.o] <;> rfl,d.o.alloc d.o.size _⟩
theorem rD (s:ByteArray) (w:World) (hn:1<=s.size) (h1:224<=qV s.data.toList 0) (h2:qV s.data.toList 0<=239) :
 Calls Tryz.prog 240 #[.string s,.int .i64 3] w fun e w'=>e=.returned (.bool (qC s.data.toList 3))/\O5 w w':=by
 have r:(s[0].toNat:Int)=qV s.data.toList 0:=vf s 0 (by omega);have Q:(0:Int)<(s.size:Int):=by omega
 obtain ⟨o,q⟩:=O1 (qV s.data.toList 0);rw [<- q] at h1 h2 r;have D:=U (show o - 224=qV s.data.toList 0 - vP 3 by rw [q];rfl);clear q;have Y:IntKind.i64.wrap o=o:=V0 _ (by omega);go_enter Tryz.func240,Tryz.ntmps240;go_wp2;go_quiet (fail);go_wp2;clear r Y;go_loopw [5,6,7] (fun lo hi i wr=>rM s.data.toList (o - 224) 3 lo hi i/\O5 w wr) (fun _ _ i _=>3 - (intOf i).toNat)
 case atStart=>exact ⟨⟨0,_,_,by omega,rfl,rfl,rfl,rfl,by omega,Int.le_refl _,.inl ⟨rfl,by omega⟩⟩,Below.drewN (J0 _ _) _⟩
 case round =>
  obtain ⟨⟨k,a,b,hk,rfl,rfl,rfl,z,Z,M,p⟩,m⟩:=hrel;have d:=U m;clear m;have j:=U z;have E:=fe p;clear z;have N:b<8388608:=E;by_cases hlt:k+1<3
  . have f:=U (show zT s.data.toList (o - 224) (k+1)=if k+1<s.data.toList.length then (if qV s.data.toList (k+1)<128\/191<qV s.data.toList (k+1) then none else some (64 * a+(qV s.data.toList (k+1) - 128),64 * b+(qV s.data.toList (k+1) - 128))) else some (64 * a,64 * b+63) by
     rw [zT,j.o])
    have y:(k:Int)+1<3:=by omega
    by_cases hks:k+1<s.size
    . have x:(k:Int)+1<(s.size:Int):=by omega
      have P:(s[k+1].toNat:Int)=qV s.data.toList (k+1):=vf s (k+1) hks;have F:=vg s.data.toList (k+1);rw [J8 (by rw [qp];exact hks)] at f;have ht:((k:Int)+1).toNat=k+1:=by omega
      obtain ⟨c,u⟩:=O1 (qV s.data.toList (k+1));rw [<- u] at P F f;clear u;by_cases g1:c<128
      . have C:=U (jd (l:=s.data.toList) (size:=3) hlt (by rw [<- D.o,f.o,J8 (.inl g1)]));go_wp2;go_ret;exact ⟨by rw [C.o] <;> rfl,d.o⟩
      by_cases g2:191<c
      . have C:=U (jd (l:=s.data.toList) (size:=3) hlt (by rw [<- D.o,f.o,J8 (.inr g2)]));go_wp2;go_ret;exact ⟨by rw [C.o] <;> rfl,d.o⟩
      rw [J3 (by omega)] at f;have R:IntKind.u8.wrap (c - 128)=c - 128:=zf0 _ (by omega);have S:IntKind.i64.wrap (c - 128)=c - 128:=V0 _ (by omega);have T:IntKind.i64.wrap (64 * a)=64 * a:=V0 _ (by omega);have V:IntKind.i64.wrap (64 * b)=64 * b:=V0 _ (by omega);have W:IntKind.i64.wrap (64 * a+(c - 128))=64 * a+(c - 128):=V0 _ (by omega);have X:IntKind.i64.wrap (64 * b+(c - 128))=64 * b+(c - 128):=V0 _ (by omega);go_wp2;go_quiet (fail);clear R S T V W X;go_wp2;go_roundw
      case rel=>exact ⟨⟨k+1,_,_,by omega,by go_num,rfl,rfl,f.o,by omega,by omega,by unfold gw at p ⊢;omega⟩,Below.drewN d.o _⟩
      case measure=>simp [intOf];omega
    . rw [J3 (by rw [qp];exact hks)] at f;have x:¬(k:Int)+1<(s.size:Int):=by omega
      go_wp2;go_roundw
      case rel=>exact ⟨⟨k+1,_,_,by omega,by go_num,rfl,rfl,f.o,by omega,by omega,by unfold gw at p ⊢;omega⟩,d.o⟩
      case measure=>simp [intOf];omega
  . have v:k=3 - 1:=by omega
    have g:=O0 (qC s.data.toList 3=kW a b 2048) (wW (by rw [<- D.o];rw [v] at j;exact j.o));have y:¬(k:Int)+1<3:=by omega
    clear v j;obtain ⟨A,I⟩:∃A:Int,max a 2048=A:=⟨_,rfl⟩;obtain ⟨B,L⟩:∃B:Int,min b 1114111=B:=⟨_,rfl⟩;have G:=U (show A=max a 2048 by rw [<- I]);have H:=U (show B=min b 1114111 by rw [<- L]);unfold kW at g;rw [<- G.o,<- H.o] at g;have K:2048<=A:=by rw [<- I];omega
    clear G H;by_cases g1:55296<=A
    . by_cases g2:B<=57343
      . rw [J8 ⟨g1,g2⟩] at g;go_wp2;go_ret;exact ⟨by rw [g.o] <;> rfl,d.o.alloc d.o.size _⟩
      . rw [J3 (fun h=>g2 h.2)] at g;by_cases g3:A<=B
        . rw [X0 g3] at g;go_wp2;go_ret;exact ⟨by rw [g.o] <;> rfl,d.o.alloc d.o.size _⟩
        . rw [J5 g3] at g;go_wp2;go_ret;exact ⟨by rw [g.o] <;> rfl,d.o.alloc d.o.size _⟩
    . try (exfalso;omega)
      all_goals
       have J:decide (55296<=A)=false:=by simp;omega
       rw [J3 (fun h=>g1 h.1)] at g;by_cases g3:A<=B
       . rw [X0 g3] at g;go_wp2;go_ret;exact ⟨by rw [g.o] <;> rfl,d.o.alloc d.o.size _⟩
       . rw [J5 g3] at g;go_wp2;go_ret;exact ⟨by rw [g.o] <;> rfl,d.o.alloc d.o.size _⟩
theorem rL (s:ByteArray) (w:World) (hn:1<=s.size) (h1:240<=qV s.data.toList 0) (h2:qV s.data.toList 0<=247) :
 Calls Tryz.prog 240 #[.string s,.int .i64 4] w fun e w'=>e=.returned (.bool (qC s.data.toList 4))/\O5 w w':=by
 have r:(s[0].toNat:Int)=qV s.data.toList 0:=vf s 0 (by omega);have Q:(0:Int)<(s.size:Int):=by omega
 obtain ⟨o,q⟩:=O1 (qV s.data.toList 0);rw [<- q] at h1 h2 r;have D:=U (show o - 240=qV s.data.toList 0 - vP 4 by rw [q];rfl);clear q;have Y:IntKind.i64.wrap o=o:=V0 _ (by omega);go_enter Tryz.func240,Tryz.ntmps240;go_wp2;go_quiet (fail);go_wp2;clear r Y;go_loopw [5,6,7] (fun lo hi i wr=>rM s.data.toList (o - 240) 4 lo hi i/\O5 w wr) (fun _ _ i _=>4 - (intOf i).toNat)
 case atStart=>exact ⟨⟨0,_,_,by omega,rfl,rfl,rfl,rfl,by omega,Int.le_refl _,.inl ⟨rfl,by omega⟩⟩,Below.drewN (J0 _ _) _⟩
 case round =>
  obtain ⟨⟨k,a,b,hk,rfl,rfl,rfl,z,Z,M,p⟩,m⟩:=hrel;have d:=U m;clear m;have j:=U z;have E:=fe p;clear z;have N:b<8388608:=E;by_cases hlt:k+1<4
  . have f:=U (show zT s.data.toList (o - 240) (k+1)=if k+1<s.data.toList.length then (if qV s.data.toList (k+1)<128\/191<qV s.data.toList (k+1) then none else some (64 * a+(qV s.data.toList (k+1) - 128),64 * b+(qV s.data.toList (k+1) - 128))) else some (64 * a,64 * b+63) by
     rw [zT,j.o])
    have y:(k:Int)+1<4:=by omega
    by_cases hks:k+1<s.size
    . have x:(k:Int)+1<(s.size:Int):=by omega
      have P:(s[k+1].toNat:Int)=qV s.data.toList (k+1):=vf s (k+1) hks;have F:=vg s.data.toList (k+1);rw [J8 (by rw [qp];exact hks)] at f;have ht:((k:Int)+1).toNat=k+1:=by omega
      obtain ⟨c,u⟩:=O1 (qV s.data.toList (k+1));rw [<- u] at P F f;clear u;by_cases g1:c<128
      . have C:=U (jd (l:=s.data.toList) (size:=4) hlt (by rw [<- D.o,f.o,J8 (.inl g1)]));go_wp2;go_ret;exact ⟨by rw [C.o] <;> rfl,d.o⟩
      by_cases g2:191<c
      . have C:=U (jd (l:=s.data.toList) (size:=4) hlt (by rw [<- D.o,f.o,J8 (.inr g2)]));go_wp2;go_ret;exact ⟨by rw [C.o] <;> rfl,d.o⟩
      rw [J3 (by omega)] at f;have R:IntKind.u8.wrap (c - 128)=c - 128:=zf0 _ (by omega);have S:IntKind.i64.wrap (c - 128)=c - 128:=V0 _ (by omega);have T:IntKind.i64.wrap (64 * a)=64 * a:=V0 _ (by omega);have V:IntKind.i64.wrap (64 * b)=64 * b:=V0 _ (by omega);have W:IntKind.i64.wrap (64 * a+(c - 128))=64 * a+(c - 128):=V0 _ (by omega);have X:IntKind.i64.wrap (64 * b+(c - 128))=64 * b+(c - 128):=V0 _ (by omega);go_wp2;go_quiet (fail);clear R S T V W X;go_wp2;go_roundw
      case rel=>exact ⟨⟨k+1,_,_,by omega,by go_num,rfl,rfl,f.o,by omega,by omega,by unfold gw at p ⊢;omega⟩,Below.drewN d.o _⟩
      case measure=>simp [intOf];omega
    . rw [J3 (by rw [qp];exact hks)] at f;have x:¬(k:Int)+1<(s.size:Int):=by omega
      go_wp2;go_roundw
      case rel=>exact ⟨⟨k+1,_,_,by omega,by go_num,rfl,rfl,f.o,by omega,by omega,by unfold gw at p ⊢;omega⟩,d.o⟩
      case measure=>simp [intOf];omega
  . have v:k=4 - 1:=by omega
    have g:=O0 (qC s.data.toList 4=kW a b 65536) (wW (by rw [<- D.o];rw [v] at j;exact j.o));have y:¬(k:Int)+1<4:=by omega
    clear v j;obtain ⟨A,I⟩:∃A:Int,max a 65536=A:=⟨_,rfl⟩;obtain ⟨B,L⟩:∃B:Int,min b 1114111=B:=⟨_,rfl⟩;have G:=U (show A=max a 65536 by rw [<- I]);have H:=U (show B=min b 1114111 by rw [<- L]);unfold kW at g;rw [<- G.o,<- H.o] at g;have K:65536<=A:=by rw [<- I];omega
    clear G H;by_cases g1:55296<=A
    . by_cases g2:B<=57343
      . rw [J8 ⟨g1,g2⟩] at g;go_wp2;go_ret;exact ⟨by rw [g.o] <;> rfl,d.o.alloc d.o.size _⟩
      . rw [J3 (fun h=>g2 h.2)] at g;by_cases g3:A<=B
        . rw [X0 g3] at g;go_wp2;go_ret;exact ⟨by rw [g.o] <;> rfl,d.o.alloc d.o.size _⟩
        . rw [J5 g3] at g;go_wp2;go_ret;exact ⟨by rw [g.o] <;> rfl,d.o.alloc d.o.size _⟩
    . try (exfalso;omega)
      all_goals
       have J:decide (55296<=A)=false:=by simp;omega
       rw [J3 (fun h=>g1 h.1)] at g;by_cases g3:A<=B
       . rw [X0 g3] at g;go_wp2;go_ret;exact ⟨by rw [g.o] <;> rfl,d.o.alloc d.o.size _⟩
       . rw [J5 g3] at g;go_wp2;go_ret;exact ⟨by rw [g.o] <;> rfl,d.o.alloc d.o.size _⟩
def gy (s:ByteArray) (pos:Nat) (w:World) (e:Ending) (w':World):Prop :=
 ∃r sz er:Int,e=.returned (.tuple #[.int .i64 r,.int .i64 sz,.int .i64 er])/\((qR s pos=false/\er=0/\sz=((Utf8.decode s pos).2:Int))\/(qR s pos=true/\er≠0))/\O5 w w'
theorem vh (s:ByteArray) (a n:Nat):(s.extract a (a+n)).data.toList=(s.data.toList.drop a).take n:=by rw [ByteArray.data_extract,Array.toList_extract,List.extract_eq_take_drop];congr 1;omega
theorem Zw (s:ByteArray) (b:Nat) (h:b+1<=s.size):(s.extract b (b+1)).data.toList=[s.get! b]:=by
 have a:s.data.toList.length=s.size:=by simp
 rw [vh,drop_at _ _ (by omega),<- get_at s b (by omega)];rfl
theorem Qw (s:ByteArray) (b:Nat) (h:b+2<=s.size):(s.extract b (b+2)).data.toList=[s.get! b,s.get! (b+1)]:=by
 have a:s.data.toList.length=s.size:=by simp
 rw [vh,drop_at _ _ (by omega),drop_at _ _ (by omega),<- get_at s b (by omega),<- get_at s (b+1) (by omega)];rfl
theorem Zy (s:ByteArray) (b:Nat) (h:b+3<=s.size):(s.extract b (b+3)).data.toList=[s.get! b,s.get! (b+1),s.get! (b+2)]:=by
 have a:s.data.toList.length=s.size:=by simp
 rw [vh,drop_at _ _ (by omega),drop_at _ _ (by omega),drop_at _ _ (by omega),<- get_at s b (by omega),<- get_at s (b+1) (by omega),<- get_at s (b+1+1) (by omega)];rfl
theorem ZI (s:ByteArray) (b:Nat) (h:b+4<=s.size):(s.extract b (b+4)).data.toList=[s.get! b,s.get! (b+1),s.get! (b+2),s.get! (b+3)]:=by
 have a:s.data.toList.length=s.size:=by simp
 rw [vh,drop_at _ _ (by omega),drop_at _ _ (by omega),drop_at _ _ (by omega),drop_at _ _ (by omega),<- get_at s b (by omega),<- get_at s (b+1) (by omega),<- get_at s (b+1+1) (by omega),<- get_at s (b+1+1+1) (by omega)];rfl
theorem at2 (s:ByteArray) (e:Nat) (f:192<=(s.get! e).toNat/\(s.get! e).toNat<=223) :
 (qR s e=false->e+2<=s.size/\(Utf8.decode s e).2=2/\∀n,1<=n->n<=2->qC (s.extract e (e+n)).data.toList 2=true)/\(e+2<=s.size->qC (s.extract e (e+2)).data.toList 2=true->qR s e=false):=by
 obtain ⟨u1,u2⟩:=Xr s e (by omega);obtain ⟨a,c⟩:=Xu (s.get! e) (s.get! (e+1)) (by omega);constructor
 . intro h;obtain ⟨d,b⟩:=u1.1 h;refine ⟨by omega,u2 h,fun n hn hn'=>?_⟩;obtain rfl|rfl:n=1\/n=2:=by omega
   . rw [Zw s e (by omega)];exact c b
   . rw [Qw s e (by omega)];exact a.2 b
 . intro h h';rw [Qw s e h] at h';exact u1.2 ⟨by omega,a.1 h'⟩
theorem at3 (s:ByteArray) (e:Nat) (f:224<=(s.get! e).toNat/\(s.get! e).toNat<=239) :
 (qR s e=false->e+3<=s.size/\(Utf8.decode s e).2=3/\∀n,1<=n->n<=3->qC (s.extract e (e+n)).data.toList 3=true)/\(e+3<=s.size->qC (s.extract e (e+3)).data.toList 3=true->qR s e=false):=by
 obtain ⟨u1,u2⟩:=Xn s e (by omega);obtain ⟨b,c⟩:=Xm (s.get! e) (s.get! (e+1)) (s.get! (e+2)) (by omega);constructor
 . intro h;obtain ⟨d,a⟩:=u1.1 h;refine ⟨by omega,u2 h,fun n hn hn'=>?_⟩;obtain rfl|rfl|rfl:n=1\/n=2\/n=3:=by omega
   . rw [Zw s e (by omega)];exact (c a).1
   . rw [Qw s e (by omega)];exact (c a).2
   . rw [Zy s e (by omega)];exact b.2 a
 . intro h h';rw [Zy s e h] at h';exact u1.2 ⟨by omega,b.1 h'⟩
theorem at4 (s:ByteArray) (e:Nat) (f:240<=(s.get! e).toNat/\(s.get! e).toNat<=247) :
 (qR s e=false->e+4<=s.size/\(Utf8.decode s e).2=4/\∀n,1<=n->n<=4->qC (s.extract e (e+n)).data.toList 4=true)/\(e+4<=s.size->qC (s.extract e (e+4)).data.toList 4=true->qR s e=false):=by
 obtain ⟨u1,u2⟩:=Xs s e (by omega);obtain ⟨c,b⟩:=Xc (s.get! e) (s.get! (e+1)) (s.get! (e+2)) (s.get! (e+3)) (by omega);constructor
 . intro h;obtain ⟨d,a⟩:=u1.1 h;refine ⟨by omega,u2 h,fun n hn hn'=>?_⟩;obtain rfl|rfl|rfl|rfl:n=1\/n=2\/n=3\/n=4:=by omega
   . rw [Zw s e (by omega)];exact (b a).1
   . rw [Qw s e (by omega)];exact (b a).2.1
   . rw [Zy s e (by omega)];exact (b a).2.2
   . rw [ZI s e (by omega)];exact c.2 a
 . intro h h';rw [ZI s e h] at h';exact u1.2 ⟨by omega,c.1 h'⟩
theorem wY (s:ByteArray) (k:Nat) (h:k<s.size):s.get! k=s[k]:=by
 have a:k<s.data.toList.length:=by simpa using h
 rw [get_at s k a];rfl
theorem fQ (s:ByteArray) (b n:Nat) (h:b+n<=s.size) (c:1<=n):qV (s.extract b (b+n)).data.toList 0=(s[b].toNat:Int):=by
 have a:s.data.toList.length=s.size:=by simp
 rw [vh,drop_at _ _ (by omega),<- get_at s b (by omega),wY s b (by omega)];obtain ⟨m,rfl⟩:∃m,n=m+1:=⟨n - 1,by omega⟩;rfl
def rBd (k:Nat) (r:Int):Prop:=0<=r/\((k=0/\r<256)\/(k=1/\r<16896)\/(k=2/\r<1081600)\/(k=3/\r<69222656))
theorem iA (s:ByteArray) (a2:Nat) (w:World) (hs:s.size<=4611686018427387904) (hp:a2<s.size) (h1:192<=(s[a2].toNat:Int)) (h2:(s[a2].toNat:Int)<=223) :
 Calls Tryz.prog 189 #[.string s,.int .i64 a2] w (gy s a2 w):=by
 have g:=U (at2 s a2 (by rw [wY s a2 hp];omega));have T:¬(a2:Int)<0:=by omega
 have V:(a2:Int)<(s.size:Int):=by omega
 have W:((a2:Int) == (s.size:Int))=false:=by simp;omega
 have X:decide ((a2:Int)<0)=false:=J5 (by omega);have v:=U (fun n=>fQ s a2 n);obtain ⟨G,m⟩:=O1 ((s[a2].toNat:Int));have x:=U m;have P:(s[a2].toNat:Int)=G:=m.symm;rw [<- m] at h1 h2;clear m;have g1:decide (G<192)=false:=by simp;omega
 go_enter Tryz.func189,Tryz.ntmps189;go_wp2;go_loopw [9] (fun i wr=>∃k:Nat,k<=2/\i=.int .i64 ((k:Int)+1)/\(1<=k->a2+k<=s.size/\qC (s.extract a2 (a2+k)).data.toList 2=true)/\O5 w wr) (fun i _=>2+1 - (intOf i).toNat)
 case atStart=>exact ⟨0,by omega,rfl,fun h=>by omega,J0 _ _⟩
 case round =>
  obtain ⟨k,hk,rfl,A,a⟩:=hrel;have y:=U A;have o:=U a;clear A a;by_cases hlt:k<2
  . have D:(k:Int)+1<=2:=by omega
    by_cases hsz:a2+(k+1)<=s.size
    . have E:¬(s.size:Int)<(a2:Int)+((k:Int)+1):=by omega
      have K:(a2:Int)+((k:Int)+1)<=(s.size:Int):=by omega
      have t1:((a2:Int)+((k:Int)+1)).toNat=a2+(k+1):=by omega
      have l:=U (rC (s.extract a2 (a2+(k+1))) wr (by rw [ByteArray.size_extract];omega) (by rw [v.o (k+1) hsz (by omega),<- x.o];exact h1) (by rw [v.o (k+1) hsz (by omega),<- x.o];exact h2));cases hbg:qC (s.extract a2 (a2+(k+1))).data.toList 2
      . rw [hbg] at l;have b:=U (show qR s a2=true by
         cases h:qR s a2
         . have:=(g.o.1 h).2.2 (k+1) (by omega) (by omega);rw [hbg] at this;cases this
         . rfl)
        clear hbg;go_wp2_with fail;refine l.o.mono ?_;rintro e w1 ⟨rfl,f⟩;have p:=U (O2 o f);clear f;go_wp2;go_ret3;exact ⟨0,0,12,rfl,.inr ⟨b.o,by decide⟩,p.o⟩
      . rw [hbg] at l;have H:=U hbg;clear hbg;go_wp2_with fail;refine l.o.mono ?_;rintro e w1 ⟨rfl,f⟩;have p:=U (O2 o f);clear f;go_wp2;go_roundw
        case rel=>exact ⟨k+1,by omega,by go_num,fun _=>⟨hsz,H.o⟩,p.o⟩
        case measure=>simp [intOf];omega
    . have E:(s.size:Int)<(a2:Int)+((k:Int)+1):=by omega
      have b:=U (show qR s a2=true by
       cases h:qR s a2
       . have:=(g.o.1 h).1;omega
       . rfl)
      go_wp2;go_ret3;exact ⟨0,0,4,rfl,.inr ⟨b.o,by decide⟩,o.o⟩
  . have C:k=2:=by omega
    have z:=U (show qR s a2=false by
     obtain ⟨L,M⟩:=y.o (by omega);rw [C] at L M;exact g.o.2 L M)
    have J:a2+2<=s.size:=by have:=(y.o (by omega)).1;omega
    have I:=U (g.o.1 z.o).2.1;have D:¬(k:Int)+1<=2:=by omega
    clear C;obtain ⟨N,rfl⟩:∃N:World,N=wr:=⟨_,rfl⟩;go_wp2;go_loopw [10,11] (fun r i wr=>∃(j:Nat) (F:Int),j+1<=2/\i=.int .i64 ((j:Int)+1)/\r=.int .i64 F/\rBd j F/\O5 w wr) (fun _ i _=>2 - (intOf i).toNat)
    case atStart=>exact ⟨0,_,by omega,rfl,rfl,by unfold rBd;omega,o.o.alloc o.o.size _⟩
    case round =>
     obtain ⟨j,F,hj,rfl,rfl,q,a⟩:=hrel;have u:=U a;clear a;have Y:0<=F:=q.1;have Z:F<69222656:=by unfold rBd at q;omega
     by_cases hjl:j+1<2
     . have B:(j:Int)+1<2:=by omega
       have a0:(a2:Int)+((j:Int)+1)<(s.size:Int):=by omega
       have t1:((a2:Int)+((j:Int)+1)).toNat=a2+(j+1):=by omega
       have a1:a2+(j+1)<s.size:=by omega
       obtain ⟨c,hc⟩:∃c:Int,(s[a2+(j+1)].toNat:Int)=c:=⟨_,rfl⟩;have Q:0<=c/\c<=255:=by have:=s[a2+(j+1)].toNat_lt;omega
       obtain ⟨d,R⟩:∃d:Int,IntKind.u8.wrap (c - 128)=d:=⟨_,rfl⟩;have S:0<=d/\d<=255:=by rw [<- R,IntKind.wrap_u8];omega
       go_wp2;go_roundw
       case rel=>exact ⟨j+1,_,by omega,by go_num,rfl,by unfold rBd at q ⊢;omega,u.o⟩
       case measure=>simp [intOf];omega
     . have B:¬(j:Int)+1<2:=by omega
       go_wp2;go_ret3;exact ⟨_,2,0,rfl,.inl ⟨z.o,rfl,by rw [I.o];rfl⟩,u.o⟩
theorem iT (s:ByteArray) (a2:Nat) (w:World) (hs:s.size<=4611686018427387904) (hp:a2<s.size) (h1:224<=(s[a2].toNat:Int)) (h2:(s[a2].toNat:Int)<=239) :
 Calls Tryz.prog 189 #[.string s,.int .i64 a2] w (gy s a2 w):=by
 have g:=U (at3 s a2 (by rw [wY s a2 hp];omega));have T:¬(a2:Int)<0:=by omega
 have V:(a2:Int)<(s.size:Int):=by omega
 have W:((a2:Int) == (s.size:Int))=false:=by simp;omega
 have X:decide ((a2:Int)<0)=false:=J5 (by omega);have v:=U (fun n=>fQ s a2 n);obtain ⟨G,m⟩:=O1 ((s[a2].toNat:Int));have x:=U m;have P:(s[a2].toNat:Int)=G:=m.symm;rw [<- m] at h1 h2;clear m;have g1:decide (G<192)=false:=by simp;omega
 go_enter Tryz.func189,Tryz.ntmps189;go_wp2;go_loopw [9] (fun i wr=>∃k:Nat,k<=3/\i=.int .i64 ((k:Int)+1)/\(1<=k->a2+k<=s.size/\qC (s.extract a2 (a2+k)).data.toList 3=true)/\O5 w wr) (fun i _=>3+1 - (intOf i).toNat)
 case atStart=>exact ⟨0,by omega,rfl,fun h=>by omega,J0 _ _⟩
 case round =>
  obtain ⟨k,hk,rfl,A,a⟩:=hrel;have y:=U A;have o:=U a;clear A a;by_cases hlt:k<3
  . have D:(k:Int)+1<=3:=by omega
    by_cases hsz:a2+(k+1)<=s.size
    . have E:¬(s.size:Int)<(a2:Int)+((k:Int)+1):=by omega
      have K:(a2:Int)+((k:Int)+1)<=(s.size:Int):=by omega
      have t1:((a2:Int)+((k:Int)+1)).toNat=a2+(k+1):=by omega
      have l:=U (rD (s.extract a2 (a2+(k+1))) wr (by rw [ByteArray.size_extract];omega) (by rw [v.o (k+1) hsz (by omega),<- x.o];exact h1) (by rw [v.o (k+1) hsz (by omega),<- x.o];exact h2));cases hbg:qC (s.extract a2 (a2+(k+1))).data.toList 3
      . rw [hbg] at l;have b:=U (show qR s a2=true by
         cases h:qR s a2
         . have:=(g.o.1 h).2.2 (k+1) (by omega) (by omega);rw [hbg] at this;cases this
         . rfl)
        clear hbg;go_wp2_with fail;refine l.o.mono ?_;rintro e w1 ⟨rfl,f⟩;have p:=U (O2 o f);clear f;go_wp2;go_ret3;exact ⟨0,0,12,rfl,.inr ⟨b.o,by decide⟩,p.o⟩
      . rw [hbg] at l;have H:=U hbg;clear hbg;go_wp2_with fail;refine l.o.mono ?_;rintro e w1 ⟨rfl,f⟩;have p:=U (O2 o f);clear f;go_wp2;go_roundw
        case rel=>exact ⟨k+1,by omega,by go_num,fun _=>⟨hsz,H.o⟩,p.o⟩
        case measure=>simp [intOf];omega
    . have E:(s.size:Int)<(a2:Int)+((k:Int)+1):=by omega
      have b:=U (show qR s a2=true by
       cases h:qR s a2
       . have:=(g.o.1 h).1;omega
       . rfl)
      go_wp2;go_ret3;exact ⟨0,0,4,rfl,.inr ⟨b.o,by decide⟩,o.o⟩
  . have C:k=3:=by omega
    have z:=U (show qR s a2=false by
     obtain ⟨L,M⟩:=y.o (by omega);rw [C] at L M;exact g.o.2 L M)
    have J:a2+3<=s.size:=by have:=(y.o (by omega)).1;omega
    have I:=U (g.o.1 z.o).2.1;have D:¬(k:Int)+1<=3:=by omega
    clear C;obtain ⟨N,rfl⟩:∃N:World,N=wr:=⟨_,rfl⟩;go_wp2;go_loopw [10,11] (fun r i wr=>∃(j:Nat) (F:Int),j+1<=3/\i=.int .i64 ((j:Int)+1)/\r=.int .i64 F/\rBd j F/\O5 w wr) (fun _ i _=>3 - (intOf i).toNat)
    case atStart=>exact ⟨0,_,by omega,rfl,rfl,by unfold rBd;omega,o.o.alloc o.o.size _⟩
    case round =>
     obtain ⟨j,F,hj,rfl,rfl,q,a⟩:=hrel;have u:=U a;clear a;have Y:0<=F:=q.1;have Z:F<69222656:=by unfold rBd at q;omega
     by_cases hjl:j+1<3
     . have B:(j:Int)+1<3:=by omega
       have a0:(a2:Int)+((j:Int)+1)<(s.size:Int):=by omega
       have t1:((a2:Int)+((j:Int)+1)).toNat=a2+(j+1):=by omega
       have a1:a2+(j+1)<s.size:=by omega
       obtain ⟨c,hc⟩:∃c:Int,(s[a2+(j+1)].toNat:Int)=c:=⟨_,rfl⟩;have Q:0<=c/\c<=255:=by have:=s[a2+(j+1)].toNat_lt;omega
       obtain ⟨d,R⟩:∃d:Int,IntKind.u8.wrap (c - 128)=d:=⟨_,rfl⟩;have S:0<=d/\d<=255:=by rw [<- R,IntKind.wrap_u8];omega
       go_wp2;go_roundw
       case rel=>exact ⟨j+1,_,by omega,by go_num,rfl,by unfold rBd at q ⊢;omega,u.o⟩
       case measure=>simp [intOf];omega
     . have B:¬(j:Int)+1<3:=by omega
       go_wp2;go_ret3;exact ⟨_,3,0,rfl,.inl ⟨z.o,rfl,by rw [I.o];rfl⟩,u.o⟩
theorem iI (s:ByteArray) (a2:Nat) (w:World) (hs:s.size<=4611686018427387904) (hp:a2<s.size) (h1:240<=(s[a2].toNat:Int)) (h2:(s[a2].toNat:Int)<=247) :
 Calls Tryz.prog 189 #[.string s,.int .i64 a2] w (gy s a2 w):=by
 have g:=U (at4 s a2 (by rw [wY s a2 hp];omega));have T:¬(a2:Int)<0:=by omega
 have V:(a2:Int)<(s.size:Int):=by omega
 have W:((a2:Int) == (s.size:Int))=false:=by simp;omega
 have X:decide ((a2:Int)<0)=false:=J5 (by omega);have v:=U (fun n=>fQ s a2 n);obtain ⟨G,m⟩:=O1 ((s[a2].toNat:Int));have x:=U m;have P:(s[a2].toNat:Int)=G:=m.symm;rw [<- m] at h1 h2;clear m;have g1:decide (G<192)=false:=by simp;omega
 go_enter Tryz.func189,Tryz.ntmps189;go_wp2;go_loopw [9] (fun i wr=>∃k:Nat,k<=4/\i=.int .i64 ((k:Int)+1)/\(1<=k->a2+k<=s.size/\qC (s.extract a2 (a2+k)).data.toList 4=true)/\O5 w wr) (fun i _=>4+1 - (intOf i).toNat)
 case atStart=>exact ⟨0,by omega,rfl,fun h=>by omega,J0 _ _⟩
 case round =>
  obtain ⟨k,hk,rfl,A,a⟩:=hrel;have y:=U A;have o:=U a;clear A a;by_cases hlt:k<4
  . have D:(k:Int)+1<=4:=by omega
    by_cases hsz:a2+(k+1)<=s.size
    . have E:¬(s.size:Int)<(a2:Int)+((k:Int)+1):=by omega
      have K:(a2:Int)+((k:Int)+1)<=(s.size:Int):=by omega
      have t1:((a2:Int)+((k:Int)+1)).toNat=a2+(k+1):=by omega
      have l:=U (rL (s.extract a2 (a2+(k+1))) wr (by rw [ByteArray.size_extract];omega) (by rw [v.o (k+1) hsz (by omega),<- x.o];exact h1) (by rw [v.o (k+1) hsz (by omega),<- x.o];exact h2));cases hbg:qC (s.extract a2 (a2+(k+1))).data.toList 4
      . rw [hbg] at l;have b:=U (show qR s a2=true by
         cases h:qR s a2
         . have:=(g.o.1 h).2.2 (k+1) (by omega) (by omega);rw [hbg] at this;cases this
         . rfl)
        clear hbg;go_wp2_with fail;refine l.o.mono ?_;rintro e w1 ⟨rfl,f⟩;have p:=U (O2 o f);clear f;go_wp2;go_ret3;exact ⟨0,0,12,rfl,.inr ⟨b.o,by decide⟩,p.o⟩
      . rw [hbg] at l;have H:=U hbg;clear hbg;go_wp2_with fail;refine l.o.mono ?_;rintro e w1 ⟨rfl,f⟩;have p:=U (O2 o f);clear f;go_wp2;go_roundw
        case rel=>exact ⟨k+1,by omega,by go_num,fun _=>⟨hsz,H.o⟩,p.o⟩
        case measure=>simp [intOf];omega
    . have E:(s.size:Int)<(a2:Int)+((k:Int)+1):=by omega
      have b:=U (show qR s a2=true by
       cases h:qR s a2
       . have:=(g.o.1 h).1;omega
       . rfl)
      go_wp2;go_ret3;exact ⟨0,0,4,rfl,.inr ⟨b.o,by decide⟩,o.o⟩
  . have C:k=4:=by omega
    have z:=U (show qR s a2=false by
     obtain ⟨L,M⟩:=y.o (by omega);rw [C] at L M;exact g.o.2 L M)
    have J:a2+4<=s.size:=by have:=(y.o (by omega)).1;omega
    have I:=U (g.o.1 z.o).2.1;have D:¬(k:Int)+1<=4:=by omega
    clear C;obtain ⟨N,rfl⟩:∃N:World,N=wr:=⟨_,rfl⟩;go_wp2;go_loopw [10,11] (fun r i wr=>∃(j:Nat) (F:Int),j+1<=4/\i=.int .i64 ((j:Int)+1)/\r=.int .i64 F/\rBd j F/\O5 w wr) (fun _ i _=>4 - (intOf i).toNat)
    case atStart=>exact ⟨0,_,by omega,rfl,rfl,by unfold rBd;omega,o.o.alloc o.o.size _⟩
    case round =>
     obtain ⟨j,F,hj,rfl,rfl,q,a⟩:=hrel;have u:=U a;clear a;have Y:0<=F:=q.1;have Z:F<69222656:=by unfold rBd at q;omega
     by_cases hjl:j+1<4
     . have B:(j:Int)+1<4:=by omega
       have a0:(a2:Int)+((j:Int)+1)<(s.size:Int):=by omega
       have t1:((a2:Int)+((j:Int)+1)).toNat=a2+(j+1):=by omega
       have a1:a2+(j+1)<s.size:=by omega
       obtain ⟨c,hc⟩:∃c:Int,(s[a2+(j+1)].toNat:Int)=c:=⟨_,rfl⟩;have Q:0<=c/\c<=255:=by have:=s[a2+(j+1)].toNat_lt;omega
       obtain ⟨d,R⟩:∃d:Int,IntKind.u8.wrap (c - 128)=d:=⟨_,rfl⟩;have S:0<=d/\d<=255:=by rw [<- R,IntKind.wrap_u8];omega
       go_wp2;go_roundw
       case rel=>exact ⟨j+1,_,by omega,by go_num,rfl,by unfold rBd at q ⊢;omega,u.o⟩
       case measure=>simp [intOf];omega
     . have B:¬(j:Int)+1<4:=by omega
       go_wp2;go_ret3;exact ⟨_,4,0,rfl,.inl ⟨z.o,rfl,by rw [I.o];rfl⟩,u.o⟩
theorem Qy (s:ByteArray) (m:Nat) (w:World) (q:s.size<=4611686018427387904) (p:m<s.size) :
 Calls Tryz.prog 189 #[.string s,.int .i64 m] w (gy s m w):=by
 have d:=s[m].toNat_lt;have i:=U (wY s m p);by_cases q0:(s[m].toNat:Int)<128
 . have c:=U (Xd s m (by rw [i.o];omega));have e:¬(m:Int)<0:=by omega
   have f:(m:Int)<(s.size:Int):=by omega
   have g:((m:Int) == (s.size:Int))=false:=by simp;omega
   have h:decide ((m:Int)<0)=false:=J5 (by omega);obtain ⟨a,b⟩:∃a,(s[m].toNat:Int)=a:=⟨_,rfl⟩;rw [b] at q0;have j:0<=a:=by omega
   clear d;go_enter Tryz.func189,Tryz.ntmps189;go_wp2;go_ret3;exact ⟨_,1,0,rfl,.inl ⟨c.o.1,rfl,by rw [c.o.2];rfl⟩,J0 _ _⟩
 by_cases j:(s[m].toNat:Int)<192\/247<(s[m].toNat:Int)
 . have c:=U (Xl s m (by rw [i.o];omega));have e:¬(m:Int)<0:=by omega
   have f:(m:Int)<(s.size:Int):=by omega
   have g:((m:Int) == (s.size:Int))=false:=by simp;omega
   have h:decide ((m:Int)<0)=false:=J5 (by omega);obtain ⟨a,b⟩:∃a,(s[m].toNat:Int)=a:=⟨_,rfl⟩;rw [b] at q0 j;clear d;by_cases q2:a<192
   . go_enter Tryz.func189,Tryz.ntmps189;go_wp2;go_ret3;exact ⟨0,0,12,rfl,.inr ⟨c.o,by decide⟩,J0 _ _⟩
   . have k:247<a:=by omega
     have l:decide (a<192)=false:=by simp;omega
     go_enter Tryz.func189,Tryz.ntmps189;go_wp2;go_ret3;exact ⟨0,0,12,rfl,.inr ⟨c.o,by decide⟩,J0 _ _⟩
 by_cases q2:(s[m].toNat:Int)<=223
 . exact iA s m w q p (by omega) q2
 by_cases k:(s[m].toNat:Int)<=239
 . exact iT s m w q p (by omega) k
 . exact iI s m w q p (by omega) (by omega)
