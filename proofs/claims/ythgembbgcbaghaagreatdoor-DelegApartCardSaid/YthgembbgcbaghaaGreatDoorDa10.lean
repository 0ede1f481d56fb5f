/- The contracts of glob.one and glob.match. -/
import Derived.Test.YthgembbgcbaghaaGreatDoorDa09
import Derived.Test.YthgembbgcbaghaaGreatDoorDa05
import Derived.Laws.RangeAny
import Derived.Test.YthgembbgcbaghaaGreatDoorDa03
import Derived.ScopeJumps
import Derived.WalkMore

namespace Go.Proofs.YthgembbgcbaghaaGreatDoor
open Go.RowKit
def gP (s:ByteArray) (pos:Nat):Bool:=((Utf8.decode s pos).1 == 65533) && !Lib.hasPrefix (s.data.toList.drop pos) [239,191,189]
def k8 (s:ByteArray):Nat→Nat→Bool
 | 0,_=>true
 | f+1,pos=>if pos<s.size then (if gP s pos then false else k8 s f (pos+(Utf8.decode s pos).2)) else true
def wX (s:ByteArray):Bool:=k8 s (s.size+1) 0
def nA (s:ByteArray) (w:World) (e:Ending) (w':World):Prop:=∃n:Int,e=.returned (.tuple #[.int .i64 n,.bool (wX s)])∧Below w.heap.size w w'
theorem mZ (s:ByteArray) (pos:Nat):1≤(Utf8.decode s pos).2:=by
 unfold Utf8.decode;dsimp only;repeat' split
 all_goals omega
set_option maxHeartbeats 400000 in
theorem aJ (s:ByteArray) (w:World) (hs:s.size≤9223372036854775807) :
 Calls Tryz.prog 151 #[.string s] w (nA s w):=by
 go_enter Tryz.func151,Tryz.ntmps151
 go_wp2
 go_loopw [4,5,6] (fun v4 _ _ wr=>∃(pos n f:Nat),n≤pos∧n≤s.size∧v4=.int .i64 n∧wr=w.iter s pos∧k8 s f pos=wX s∧s.size+1≤f+pos) (fun _ _ _ wr=>s.size - wr.iterPos w.heap.size)
 case atStart=>exact ⟨0,0,s.size+1,by omega,by omega,rfl,rfl,rfl,by omega⟩
 case round =>
  obtain ⟨pos,n,f,hn,hn',rfl,rfl,hok,hf⟩:=hrel
  by_cases hlt:pos<s.size
  · obtain ⟨f,rfl⟩:∃g,f=g+1:=⟨f - 1,by omega⟩
    have hdp:=mZ s pos
    have hdl:=decode_le s pos
    have hun:k8 s (f+1) pos=if gP s pos then false else k8 s f (pos+(Utf8.decode s pos).2):=by rw [k8,if_pos hlt]
    have hbad:gP s pos=(((Utf8.decode s pos).1 == 65533) && !Lib.hasPrefix (s.data.toList.drop pos) [239,191,189]):=rfl
    have hnext:=fun ty=>run_next_any (P:=Tryz.prog) w s pos ty hlt
    generalize (Utf8.decode s pos).1=r at *
    generalize (Utf8.decode s pos).2=d at *
    have hex:(s.extract pos s.size).data.toList=s.data.toList.drop pos:=by
     rw [ByteArray.data_extract,Array.toList_extract,List.extract_eq_take_drop,List.take_of_length_le];rw [List.length_drop,qm];exact Nat.le_refl _
    have HEX:=Lh hex
    rw [hun] at hok
    have HOK:=Lh hok
    have HBD:=Lh hbad
    clear hok hun hbad hex
    by_cases hr:r=65533
    · have hr':((r:Int) == 65533)=true:=by simp [hr]
      have hr2:(r == 65533)=true:=by simp [hr]
      cases hp:Lib.hasPrefix (s.data.toList.drop pos) [239,191,189]
      · have HF:=Lh (show wX s=false by rw [← HOK.out,HBD.out,hr2,hp];rfl)
        have HP:=Lh hp
        clear hp hr2 hr
        go_wp2_with fail
        refine (Tryz.strings_HasPrefix _ _ _).mono ?_
        rintro e w2 ⟨rfl,rfl⟩
        rw [show Lib.hasPrefix (s.extract pos s.size).data.toList (⟨#[239,191,189]⟩:ByteArray).data.toList=false by rw [HEX.out];exact HP.out]
        go_wp2
        go_ret2
        exact ⟨0,by rw [HF.out];rfl,(Below.refl _ _).alloc lz _⟩
      · have HF:=Lh (show k8 s f (pos+d)=wX s by rw [← HOK.out,HBD.out,hr2,hp];rfl)
        have HP:=Lh hp
        clear hp hr2 hr
        go_wp2_with fail
        refine (Tryz.strings_HasPrefix _ _ _).mono ?_
        rintro e w2 ⟨rfl,rfl⟩
        rw [show Lib.hasPrefix (s.extract pos s.size).data.toList (⟨#[239,191,189]⟩:ByteArray).data.toList=true by rw [HEX.out];exact HP.out]
        go_wp2
        go_roundw
        case rel=>exact ⟨pos+d,n+1,f,by omega,by omega,by go_num,rfl,HF.out,by omega⟩
        case measure=>simp;omega
    · have hr':((r:Int) == 65533)=false:=by simp;omega
      have hr2:(r == 65533)=false:=by simp [hr]
      have HF:=Lh (show k8 s f (pos+d)=wX s by rw [← HOK.out,HBD.out,hr2];rfl)
      clear hr2 hr
      go_wp2
      go_roundw
      case rel=>exact ⟨pos+d,n+1,f,by omega,by omega,by go_num,rfl,HF.out,by omega⟩
      case measure=>simp;omega
  · have hnext:=fun ty=>run_next_end (P:=Tryz.prog) w s pos ty hlt
    have HF:=Lh (show wX s=true by
     rw [← hok];cases f with
     | zero=>rfl
     | succ f=>rw [k8,if_neg hlt])
    clear hok
    go_wp2
    go_ret2
    exact ⟨n,by rw [HF.out];rfl,(Below.refl _ _).alloc lz _⟩
set_option maxHeartbeats 400000 in
theorem gF (s:ByteArray) (w:World) (hs:s.size≤9223372036854775807) :
 Calls Tryz.prog 86 #[.string s] w fun e w'=>e=.returned (.bool (wX s))∧Below w.heap.size w w':=by
 go_enter Tryz.func86,Tryz.ntmps86
 go_wp2_with fail
 refine (aJ s w hs).mono ?_
 rintro e w2 ⟨n,rfl,hb⟩
 have HB:=Lh hb;clear hb
 go_wp2
 go_ret
 exact ⟨rfl,HB.out⟩
set_option maxHeartbeats 400000 in
theorem mX (s t:ByteArray) (w:World) (hs:s.size≤9223372036854775807) (ht:t.size≤9223372036854775807) :
 Calls Tryz.prog 179 #[.agg #[.string s,.string t]] w fun e w'=>e=.returned (.bool (ze s.data.toList t.data.toList))∧Below w.heap.size w w':=by
 unfold ze
 cases hr:zb s.data.toList
 · have HR:=Lh hr
   go_enter Tryz.func179,Tryz.ntmps179
   go_wp2_with (go_at_call 134;refine (jr s _ hs).mono ?_;rintro e w' ⟨rfl,rfl⟩)
   go_ret
   exact ⟨rfl,(Below.refl _ _).alloc lz _⟩
 by_cases h1:t.size<2∨128<t.size∨t.size % 2=1
 · have HP:=Lh (ac h1)
   rw [HP.out]
   by_cases g1:t.size=0
   · have g1':¬0<(t.size:Int):=by omega
     clear h1 g1
     go_enter Tryz.func179,Tryz.ntmps179
     go_wp2_with (go_at_call 134;refine (jr s _ hs).mono ?_;rintro e w' ⟨rfl,rfl⟩)
     go_ret
     exact ⟨rfl,(Below.refl _ _).alloc lz _⟩
   have g1':0<t.size:=by omega
   clear g1
   by_cases g2:128<t.size
   · clear h1
     go_enter Tryz.func179,Tryz.ntmps179
     go_wp2_with (go_at_call 134;refine (jr s _ hs).mono ?_;rintro e w' ⟨rfl,rfl⟩)
     go_ret
     exact ⟨rfl,(Below.refl _ _).alloc lz _⟩
   have g3:((t.size:Int) % 2 == 0)=false:=by simp;omega
   have g2':t.size≤128:=by omega
   clear h1 g2
   go_enter Tryz.func179,Tryz.ntmps179
   go_wp2_with (go_at_call 134;refine (jr s _ hs).mono ?_;rintro e w' ⟨rfl,rfl⟩)
   go_ret
   exact ⟨rfl,(Below.refl _ _).alloc lz _⟩
 · have HP:=Lh (nD (s:=t) (by omega) (by omega) (by omega))
   rw [HP.out]
   have g1:2≤t.size:=by omega
   have g2:t.size≤128:=by omega
   have g3:((t.size:Int) % 2 == 0)=true:=by simp;omega
   clear h1
   go_enter Tryz.func179,Tryz.ntmps179
   go_wp2_with (first|(go_at_call 134;refine (jr s _ hs).mono ?_;rintro e w' ⟨rfl,rfl⟩)|(go_at_call 195;refine (l9 t _ ht).mono ?_;rintro e w' ⟨rfl,rfl⟩))
   go_ret
   exact ⟨by simp,(Below.refl _ _).alloc lz _⟩
mutual
def JV.count:JV→Nat
 | .mk _ _ _ _ xs=>1+JV.counts xs
def JV.counts:List JV→Nat
 | []=>0
 | x :: r=>JV.count x+JV.counts r
end
mutual
theorem JV.count_le:∀v:JV,v.count≤v.wt
 | .mk _ _ _ _ xs=>by have:=JV.counts_le xs;simp [JV.count,JV.wt];omega
theorem JV.counts_le:∀l:List JV,JV.counts l≤JV.wts l
 | []=>by simp [JV.counts]
 | x :: r=>by have:=JV.count_le x;have:=JV.counts_le r;simp [JV.counts,JV.wts];omega
end
theorem JV.wts_take (l:List JV) (k:Nat):JV.wts (l.take k)≤JV.wts l:=by
 induction l generalizing k with
 | nil=>simp
 | cons x r ih=>cases k with
  | zero=>simp [JV.wts]
  | succ k=>have:=ih k;simp [JV.wts];omega
theorem nT (a c:Int) (w:World):Calls Tryz.prog 313 #[.int .i32 a,.int .i32 c] w fun e w'=>e=.returned (.bool (fN a c))∧w'=w:=by
 have HV:=Lh (show fN a c=if a=63 then decide (c≠47) else decide (a=c) from rfl)
 by_cases ha:a=63
 · have h1:(a == 63)=true:=by simpa using ha
   rw [if_pos ha] at HV
   clear ha
   by_cases hc:c=47
   · have h2:(c != 47)=false:=by simpa using hc
     rw [decide_eq_false (by simpa using hc)] at HV
     go_enter Tryz.func313,Tryz.ntmps313
     go_wp2
     go_ret
     exact ⟨qz HV.out.symm,rfl⟩
   · have h2:(c != 47)=true:=by simpa using hc
     rw [decide_eq_true hc] at HV
     go_enter Tryz.func313,Tryz.ntmps313
     go_wp2
     go_ret
     exact ⟨qz HV.out.symm,rfl⟩
 · have h1:(a == 63)=false:=by simpa using ha
   rw [if_neg ha] at HV
   clear ha
   by_cases hc:a=c
   · have h2:(a == c)=true:=by simpa using hc
     rw [decide_eq_true hc] at HV
     go_enter Tryz.func313,Tryz.ntmps313
     go_wp2
     go_ret
     exact ⟨qz HV.out.symm,rfl⟩
   · have h2:(a == c)=false:=by simpa using hc
     rw [decide_eq_false hc] at HV
     go_enter Tryz.func313,Tryz.ntmps313
     go_wp2
     go_ret
     exact ⟨qz HV.out.symm,rfl⟩
def rq (f:Func):Code:=match f.body with|some (.seq _ (.scope c))=>(findLabel c 0).getD .skip|_=>.skip
def rz (p s:List Int) (pa sa:Option Addr) (pc sc:Nat) (B:Nat) (w0:World) (a:Act) (w:World):Prop :=
 ∃(i j st fr:Nat) (sv:Int) (u9 u10 u11 u12 u13 u14 u15 u16 u17 u18 u19 u20 u21 u22 u23 u24 u25 u26 u27 u28 u29 u30 u31 u32 u33 u34 u35 u36 u37 u38 u39 u40 u41 u42 u43 u44 u45 u46 u47 u48 u49 u50 u51 u52 u53 u54 u55 u56 u57 u58 u59 u60 u61 u62 u63 u64 u65 u66 u67 u68 u69 u70 u71 u72 u73 u74 u75 u76 u77 u78:Value),a={ tmps:=(Value.slice pa p.length pc :: .slice sa s.length sc :: undef :: undef :: .bool false :: .int .i64 i :: .int .i64 j :: .int .i64 sv :: .int .i64 fr :: u9 :: u10 :: u11 :: u12 :: u13 :: u14 :: u15 :: u16 :: u17 :: u18 :: u19 :: u20 :: u21 :: u22 :: u23 :: u24 :: u25 :: u26 :: u27 :: u28 :: u29 :: u30 :: u31 :: u32 :: u33 :: u34 :: u35 :: u36 :: u37 :: u38 :: u39 :: u40 :: u41 :: u42 :: u43 :: u44 :: u45 :: u46 :: u47 :: u48 :: u49 :: u50 :: u51 :: u52 :: u53 :: u54 :: u55 :: u56 :: u57 :: u58 :: u59 :: u60 :: u61 :: u62 :: u63 :: u64 :: u65 :: u66 :: u67 :: u68 :: u69 :: u70 :: u71 :: u72 :: u73 :: u74 :: u75 :: u76 :: u77 :: u78 :: []).toArray,defers:=[] }∧sv+1=(st:Int)∧GOk p s ⟨i,j,st,fr⟩∧vE p s ⟨i,j,st,fr⟩=fS p s∧Below B w0 w
def fq (p s:List Int) (a:Act) (_w:World):Nat:=gmu p s ⟨(intOf (a.tmps.getD 5 undef)).toNat,0,(intOf (a.tmps.getD 7 undef)+1).toNat,(intOf (a.tmps.getD 8 undef)).toNat⟩
theorem zD (p s:List Int) (v0 v1 v2 v3 v4:Value) (i j st fr:Nat) (sv:Int) (u9 u10 u11 u12 u13 u14 u15 u16 u17 u18 u19 u20 u21 u22 u23 u24 u25 u26 u27 u28 u29 u30 u31 u32 u33 u34 u35 u36 u37 u38 u39 u40 u41 u42 u43 u44 u45 u46 u47 u48 u49 u50 u51 u52 u53 u54 u55 u56 u57 u58 u59 u60 u61 u62 u63 u64 u65 u66 u67 u68 u69 u70 u71 u72 u73 u74 u75 u76 u77 u78:Value) (w:World) (h:sv+1=(st:Int)):fq p s { tmps:=(v0 :: v1 :: v2 :: v3 :: v4 :: .int .i64 i :: .int .i64 j :: .int .i64 sv :: .int .i64 fr :: u9 :: u10 :: u11 :: u12 :: u13 :: u14 :: u15 :: u16 :: u17 :: u18 :: u19 :: u20 :: u21 :: u22 :: u23 :: u24 :: u25 :: u26 :: u27 :: u28 :: u29 :: u30 :: u31 :: u32 :: u33 :: u34 :: u35 :: u36 :: u37 :: u38 :: u39 :: u40 :: u41 :: u42 :: u43 :: u44 :: u45 :: u46 :: u47 :: u48 :: u49 :: u50 :: u51 :: u52 :: u53 :: u54 :: u55 :: u56 :: u57 :: u58 :: u59 :: u60 :: u61 :: u62 :: u63 :: u64 :: u65 :: u66 :: u67 :: u68 :: u69 :: u70 :: u71 :: u72 :: u73 :: u74 :: u75 :: u76 :: u77 :: u78 :: []).toArray,defers:=[] } w=gmu p s ⟨i,j,st,fr⟩:=by
 show gmu p s ⟨((i:Int)).toNat,0,(sv+1).toNat,((fr:Int)).toNat⟩=_
 rw [h,Int.toNat_natCast,Int.toNat_natCast,Int.toNat_natCast]
 rfl
set_option maxHeartbeats 4000000 in
set_option maxRecDepth 1000000 in
theorem rx (p s:List Int) (pa sa:Option Addr) (pc sc:Nat) (w:World) (hp:zI w 0 w.heap.size pa p) (hs:zI w 0 w.heap.size sa s) (hpl:p.length≤4294967296) (hsl:s.length≤4294967296) (a:Act) (wr:World) (hJ:rz p s pa sa pc sc w.heap.size w a wr) :
 (fI 1 (rq Tryz.f312)).wp Tryz.prog (Exit.jump 0 (fun a2 w2=>rz p s pa sa pc sc w.heap.size w a2 w2∧fq p s a2 w2<fq p s a wr) (bodyPost Tryz.prog Tryz.f312 fun e w2=>e=.returned (.bool (fS p s))∧Below w.heap.size w w2)) a wr:=by
 obtain ⟨i,j,st,fr,sv,u9,u10,u11,u12,u13,u14,u15,u16,u17,u18,u19,u20,u21,u22,u23,u24,u25,u26,u27,u28,u29,u30,u31,u32,u33,u34,u35,u36,u37,u38,u39,u40,u41,u42,u43,u44,u45,u46,u47,u48,u49,u50,u51,u52,u53,u54,u55,u56,u57,u58,u59,u60,u61,u62,u63,u64,u65,u66,u67,u68,u69,u70,u71,u72,u73,u74,u75,u76,u77,u78,rfl,hsv,hok,hv,hb⟩:=hJ
 have HP:=Lh (hp.below hb lz lz hb.size)
 have HS:=Lh (hs.below hb lz lz hb.size)
 have HOK:=Lh hok
 have HV:=Lh hv
 have HB:=Lh hb
 have hi:=hok.i
 have hj:=hok.j
 have hsti:=hok.st
 have hfrj:=hok.fr
 clear hp hs hok hv hb
 obtain ⟨P,hP⟩:∃P,P=p.length:=⟨_,rfl⟩
 obtain ⟨S,hS⟩:∃S,S=s.length:=⟨_,rfl⟩
 have HPL:=Lh hP
 have HSL:=Lh hS
 dsimp only at hi hj hsti hfrj
 rw [← hP] at hi hpl ⊢
 rw [← hS] at hj hsl ⊢
 clear hP hS
 conv=>arg 2;whnf
 by_cases h1:i=P
 · have c1:((i:Int) == (P:Int))=true:=by rw [beq_iff_eq];omega
   have c3:decide ((i:Int)<(P:Int))=false:=by rw [decide_eq_false_iff_not];omega
   have c4:¬i<P:=by omega
   by_cases h2:j=S
   · have c2:((j:Int) == (S:Int))=true:=by rw [beq_iff_eq];omega
     have HR:=Lh (HV.out.symm.trans (nN HOK.out (h1.trans HPL.out) (h2.trans HSL.out)))
     clear h1 h2
     go_wp2
     try simp only [Exit.jump]
     go_ret
     exact ⟨qz HR.out.symm,HB.out⟩
   have c2:((j:Int) == (S:Int))=false:=by rw [beq_eq_false_iff_ne];omega
   have HSTK:=Lh (show gV p s ⟨i,j,st,fr⟩ from .inl ⟨h1.trans HPL.out,fun h=>h2 (h.trans HSL.out.symm)⟩)
   clear h1 h2
   by_cases h4:st=0
   · have k1:decide (sv<0)=true:=by rw [decide_eq_true_eq];omega
     have HR:=Lh (HV.out.symm.trans (kX HOK.out HSTK.out (.inl h4)))
     go_wp2
     go_quiet (fail)
     go_wp2
     try simp only [Exit.jump]
     go_ret
     exact ⟨qz HR.out.symm,Below.drewN HB.out _⟩
   have k1:decide (sv<0)=false:=by rw [decide_eq_false_iff_not];omega
   by_cases h5:fr=S
   · have k2:((fr:Int) == (S:Int))=true:=by rw [beq_iff_eq];omega
     have HR:=Lh (HV.out.symm.trans (kX HOK.out HSTK.out (.inr (.inl (h5.trans HSL.out)))))
     go_wp2
     go_quiet (fail)
     go_wp2
     try simp only [Exit.jump]
     go_ret
     exact ⟨qz HR.out.symm,Below.drewN HB.out _⟩
   have k2:((fr:Int) == (S:Int))=false:=by rw [beq_eq_false_iff_ne];omega
   obtain ⟨fb,fo,hfa,-,hfb,hfc⟩:=HS.out.at fr (by rw [← HSL.out];omega)
   have k3:(0:Int)≤(fr:Int):=by omega
   have k4:(fr:Int)<(S:Int):=by omega
   subst hfa
   have HFE:=Lh (show ∃z,z=s.getD fr 0 from ⟨_,rfl⟩)
   obtain ⟨z,hz⟩:=HFE.out
   rw [← hz] at hfc
   by_cases h6:z=47
   · have k5:(z == 47)=true:=by rw [beq_iff_eq];exact h6
     have HR:=Lh (HV.out.symm.trans (kX HOK.out HSTK.out (.inr (.inr (hz.symm.trans h6)))))
     clear hz h4 h5 h6
     go_wp2
     go_quiet (fail)
     go_wp2
     try simp only [Exit.jump]
     go_ret
     exact ⟨qz HR.out.symm,Below.drewN HB.out _⟩
   · have k5:(z == 47)=false:=by rw [beq_eq_false_iff_ne];exact h6
     have HR:=Lh (gW HOK.out HSTK.out ⟨h4,fun h=>h5 (h.trans HSL.out.symm),fun h=>h6 (hz.trans h)⟩)
     clear hz h4 h5 h6
     go_wp2
     go_quiet (fail)
     go_wp2
     rw [show (fr:Int)+1=((fr+1:Nat):Int) from by omega]
     have hP:=HPL.out
     have hS:=HSL.out
     subst hP
     subst hS
     go_step3
     refine ⟨rfl,⟨st,fr+1,st,fr+1,_,_,_,_,_,_,_,_,_,_,_,_,_,_,_,_,_,_,_,_,_,_,_,_,_,_,_,_,_,_,_,_,_,_,_,_,_,_,_,_,_,_,_,_,_,_,_,_,_,_,_,_,_,_,_,_,_,_,_,_,_,_,_,_,_,_,_,_,_,_,_,rfl,?_,HR.out.2.1,HR.out.1.symm.trans HV.out,Below.drewN HB.out _⟩,?_⟩
     · omega
     · rw [zD (j:=j) (h:=hsv),zD (i:=st) (j:=fr+1) (st:=st) (fr:=fr+1) (h:=by omega)]
       exact HR.out.2.2
 have c1:((i:Int) == (P:Int))=false:=by rw [beq_eq_false_iff_ne];omega
 have c4:i<P:=by omega
 have m1:(0:Int)≤(i:Int):=by omega
 have m2:(i:Int)<(P:Int):=by omega
 have m3:decide ((i:Int)<(P:Int))=true:=by rw [decide_eq_true_eq];omega
 obtain ⟨pb,po,hpa,-,hpb,hpc⟩:=HP.out.at i (by rw [← HPL.out];omega)
 subst hpa
 obtain ⟨x,hx⟩:∃x,x=p.getD i 0:=⟨_,rfl⟩
 rw [← hx] at hpc
 have HX:=Lh hx
 clear h1 hx
 by_cases h2:x=42
 · have q1:(x == 42)=true:=by rw [beq_iff_eq];exact h2
   have HR:=Lh (l8 HOK.out (show i<p.length by rw [← HPL.out];exact c4) (HX.out.symm.trans h2))
   clear h2
   go_wp2
   rw [show (i:Int)+1=((i+1:Nat):Int) from by omega]
   have hP:=HPL.out
   have hS:=HSL.out
   subst hP
   subst hS
   go_step3
   refine ⟨rfl,⟨i+1,j,i+1,j,_,_,_,_,_,_,_,_,_,_,_,_,_,_,_,_,_,_,_,_,_,_,_,_,_,_,_,_,_,_,_,_,_,_,_,_,_,_,_,_,_,_,_,_,_,_,_,_,_,_,_,_,_,_,_,_,_,_,_,_,_,_,_,_,_,_,_,_,_,_,_,rfl,?_,HR.out.2.1,HR.out.1.symm.trans HV.out,HB.out⟩,?_⟩
   · omega
   · rw [zD (j:=j) (h:=hsv),zD (i:=i+1) (j:=j) (st:=i+1) (fr:=j) (h:=by omega)]
     exact HR.out.2.2
 have q1:(x == 42)=false:=by rw [beq_eq_false_iff_ne];exact h2
 have HX2:=Lh (show ¬p.getD i 0=42 from fun h=>h2 (HX.out.trans h))
 clear h2
 by_cases h3:j=S
 · have n1:¬j<S:=by omega
   have n2:decide ((j:Int)<(S:Int))=false:=by rw [decide_eq_false_iff_not];omega
   have HSTK:=Lh (show gV p s ⟨i,j,st,fr⟩ from .inr ⟨by rw [← HPL.out];exact c4,HX2.out,fun h=>absurd h (by rw [← HSL.out];exact n1)⟩)
   clear h3
   by_cases h4:st=0
   · have k1:decide (sv<0)=true:=by rw [decide_eq_true_eq];omega
     have HR:=Lh (HV.out.symm.trans (kX HOK.out HSTK.out (.inl h4)))
     go_wp2
     go_quiet (fail)
     go_wp2
     try simp only [Exit.jump]
     go_ret
     exact ⟨qz HR.out.symm,Below.drewN HB.out _⟩
   have k1:decide (sv<0)=false:=by rw [decide_eq_false_iff_not];omega
   by_cases h5:fr=S
   · have k2:((fr:Int) == (S:Int))=true:=by rw [beq_iff_eq];omega
     have HR:=Lh (HV.out.symm.trans (kX HOK.out HSTK.out (.inr (.inl (h5.trans HSL.out)))))
     go_wp2
     go_quiet (fail)
     go_wp2
     try simp only [Exit.jump]
     go_ret
     exact ⟨qz HR.out.symm,Below.drewN HB.out _⟩
   have k2:((fr:Int) == (S:Int))=false:=by rw [beq_eq_false_iff_ne];omega
   obtain ⟨fb,fo,hfa,-,hfb,hfc⟩:=HS.out.at fr (by rw [← HSL.out];omega)
   have k3:(0:Int)≤(fr:Int):=by omega
   have k4:(fr:Int)<(S:Int):=by omega
   subst hfa
   have HFE:=Lh (show ∃z,z=s.getD fr 0 from ⟨_,rfl⟩)
   obtain ⟨z,hz⟩:=HFE.out
   rw [← hz] at hfc
   by_cases h6:z=47
   · have k5:(z == 47)=true:=by rw [beq_iff_eq];exact h6
     have HR:=Lh (HV.out.symm.trans (kX HOK.out HSTK.out (.inr (.inr (hz.symm.trans h6)))))
     clear hz h4 h5 h6
     go_wp2
     go_quiet (fail)
     go_wp2
     try simp only [Exit.jump]
     go_ret
     exact ⟨qz HR.out.symm,Below.drewN HB.out _⟩
   · have k5:(z == 47)=false:=by rw [beq_eq_false_iff_ne];exact h6
     have HR:=Lh (gW HOK.out HSTK.out ⟨h4,fun h=>h5 (h.trans HSL.out.symm),fun h=>h6 (hz.trans h)⟩)
     clear hz h4 h5 h6
     go_wp2
     go_quiet (fail)
     go_wp2
     rw [show (fr:Int)+1=((fr+1:Nat):Int) from by omega]
     have hP:=HPL.out
     have hS:=HSL.out
     subst hP
     subst hS
     go_step3
     refine ⟨rfl,⟨st,fr+1,st,fr+1,_,_,_,_,_,_,_,_,_,_,_,_,_,_,_,_,_,_,_,_,_,_,_,_,_,_,_,_,_,_,_,_,_,_,_,_,_,_,_,_,_,_,_,_,_,_,_,_,_,_,_,_,_,_,_,_,_,_,_,_,_,_,_,_,_,_,_,_,_,_,_,rfl,?_,HR.out.2.1,HR.out.1.symm.trans HV.out,Below.drewN HB.out _⟩,?_⟩
     · omega
     · rw [zD (j:=j) (h:=hsv),zD (i:=st) (j:=fr+1) (st:=st) (fr:=fr+1) (h:=by omega)]
       exact HR.out.2.2
 have n1:j<S:=by omega
 have n2:decide ((j:Int)<(S:Int))=true:=by rw [decide_eq_true_eq];omega
 have m4:(0:Int)≤(j:Int):=by omega
 have m5:(j:Int)<(S:Int):=by omega
 obtain ⟨sb,so,hsa,-,hsb,hsc⟩:=HS.out.at j (by rw [← HSL.out];omega)
 subst hsa
 obtain ⟨y,hy⟩:∃y,y=s.getD j 0:=⟨_,rfl⟩
 rw [← hy] at hsc
 have HY:=Lh hy
 clear h3 hy
 have HO:=Lh (fun w=>nT x y w)
 obtain ⟨b,hb⟩:∃b,b=fN x y:=⟨_,rfl⟩
 rw [← hb] at HO
 have HBB:=Lh (show fN (p.getD i 0) (s.getD j 0)=b by rw [← HX.out,← HY.out,hb])
 clear hb
 cases b
 case true =>
  have HR:=Lh (nS HOK.out (show i<p.length by rw [← HPL.out];exact c4) HX2.out (show j<s.length by rw [← HSL.out];exact n1) HBB.out)
  go_wp2
  go_quiet ((go_at_call 313;exact Calls.quiet_of_same (HO.out _)))
  go_wp2
  rw [show (i:Int)+1=((i+1:Nat):Int) from by omega,show (j:Int)+1=((j+1:Nat):Int) from by omega]
  have hP:=HPL.out
  have hS:=HSL.out
  subst hP
  subst hS
  go_step3
  refine ⟨rfl,⟨i+1,j+1,st,fr,_,_,_,_,_,_,_,_,_,_,_,_,_,_,_,_,_,_,_,_,_,_,_,_,_,_,_,_,_,_,_,_,_,_,_,_,_,_,_,_,_,_,_,_,_,_,_,_,_,_,_,_,_,_,_,_,_,_,_,_,_,_,_,_,_,_,_,_,_,_,_,rfl,?_,HR.out.2.1,HR.out.1.symm.trans HV.out,Below.drewN HB.out _⟩,?_⟩
  · omega
  · rw [zD (j:=j) (h:=hsv),zD (i:=i+1) (j:=j+1) (st:=st) (fr:=fr) (h:=by omega)]
    exact HR.out.2.2
 case false =>
  have HSTK:=Lh (show gV p s ⟨i,j,st,fr⟩ from .inr ⟨by rw [← HPL.out];exact c4,HX2.out,fun _=>HBB.out⟩)
  by_cases h4:st=0
  · have k1:decide (sv<0)=true:=by rw [decide_eq_true_eq];omega
    have HR:=Lh (HV.out.symm.trans (kX HOK.out HSTK.out (.inl h4)))
    go_wp2
    go_quiet ((go_at_call 313;exact Calls.quiet_of_same (HO.out _)))
    go_wp2
    try simp only [Exit.jump]
    go_ret
    exact ⟨qz HR.out.symm,Below.drewN HB.out _⟩
  have k1:decide (sv<0)=false:=by rw [decide_eq_false_iff_not];omega
  by_cases h5:fr=S
  · have k2:((fr:Int) == (S:Int))=true:=by rw [beq_iff_eq];omega
    have HR:=Lh (HV.out.symm.trans (kX HOK.out HSTK.out (.inr (.inl (h5.trans HSL.out)))))
    go_wp2
    go_quiet ((go_at_call 313;exact Calls.quiet_of_same (HO.out _)))
    go_wp2
    try simp only [Exit.jump]
    go_ret
    exact ⟨qz HR.out.symm,Below.drewN HB.out _⟩
  have k2:((fr:Int) == (S:Int))=false:=by rw [beq_eq_false_iff_ne];omega
  obtain ⟨fb,fo,hfa,-,hfb,hfc⟩:=HS.out.at fr (by rw [← HSL.out];omega)
  have k3:(0:Int)≤(fr:Int):=by omega
  have k4:(fr:Int)<(S:Int):=by omega
  obtain ⟨rfl,rfl⟩:sb=fb∧so=fo:=by simpa using hfa
  have HFE:=Lh (show ∃z,z=s.getD fr 0 from ⟨_,rfl⟩)
  obtain ⟨z,hz⟩:=HFE.out
  rw [← hz] at hfc
  by_cases h6:z=47
  · have k5:(z == 47)=true:=by rw [beq_iff_eq];exact h6
    have HR:=Lh (HV.out.symm.trans (kX HOK.out HSTK.out (.inr (.inr (hz.symm.trans h6)))))
    clear hz h4 h5 h6
    go_wp2
    go_quiet ((go_at_call 313;exact Calls.quiet_of_same (HO.out _)))
    go_wp2
    try simp only [Exit.jump]
    go_ret
    exact ⟨qz HR.out.symm,Below.drewN HB.out _⟩
  · have k5:(z == 47)=false:=by rw [beq_eq_false_iff_ne];exact h6
    have HR:=Lh (gW HOK.out HSTK.out ⟨h4,fun h=>h5 (h.trans HSL.out.symm),fun h=>h6 (hz.trans h)⟩)
    clear hz h4 h5 h6
    go_wp2
    go_quiet ((go_at_call 313;exact Calls.quiet_of_same (HO.out _)))
    go_wp2
    rw [show (fr:Int)+1=((fr+1:Nat):Int) from by omega]
    have hP:=HPL.out
    have hS:=HSL.out
    subst hP
    subst hS
    go_step3
    refine ⟨rfl,⟨st,fr+1,st,fr+1,_,_,_,_,_,_,_,_,_,_,_,_,_,_,_,_,_,_,_,_,_,_,_,_,_,_,_,_,_,_,_,_,_,_,_,_,_,_,_,_,_,_,_,_,_,_,_,_,_,_,_,_,_,_,_,_,_,_,_,_,_,_,_,_,_,_,_,_,_,_,_,rfl,?_,HR.out.2.1,HR.out.1.symm.trans HV.out,Below.drewN HB.out _⟩,?_⟩
    · omega
    · rw [zD (j:=j) (h:=hsv),zD (i:=st) (j:=fr+1) (st:=st) (fr:=fr+1) (h:=by omega)]
      exact HR.out.2.2
theorem dh (p s:List Int) (pa sa:Option Addr) (pc sc:Nat) (w:World) (hp:zI w 0 w.heap.size pa p) (hs:zI w 0 w.heap.size sa s) (hpl:p.length≤4294967296) (hsl:s.length≤4294967296) :
 Calls Tryz.prog 312 #[.slice pa p.length pc,.slice sa s.length sc] w fun e w2=>e=.returned (.bool (fS p s))∧Below w.heap.size w w2:=by
 have HP:=Lh (rx p s pa sa pc sc w hp hs hpl hsl)
 clear hp hs
 go_enter Tryz.func312,Tryz.ntmps312
 go_wp2
 refine wp_scope_jumps 0 (rz p s pa sa pc sc w.heap.size w) (fq p s) rfl ?_ ?_
 · go_wp2
   go_step3
   rename_i hK
   refine hK _ _ ?_
   refine wp_mono (HP.out _ w ⟨0,0,0,0,-1,_,_,_,_,_,_,_,_,_,_,_,_,_,_,_,_,_,_,_,_,_,_,_,_,_,_,_,_,_,_,_,_,_,_,_,_,_,_,_,_,_,_,_,_,_,_,_,_,_,_,_,_,_,_,_,_,_,_,_,_,_,_,_,_,_,_,_,_,_,_,rfl,rfl,GOk.start p s,rfl,Below.refl _ _⟩) ?_
   intro e a2 w2 h
   cases e with
   | goto l=>exact ⟨h.1,h.2.1⟩
   | normal=>exact h
   | exit _=>exact h
   | ret=>exact h
   | panic _=>exact h
   | outgrown=>exact h
 · intro a2 w2 hJ
   have h:=HP.out a2 w2 hJ
   refine wp_seq (wp_skip ?_)
   show Code.wp _ _ _ a2 w2
   exact h
end Go.Proofs.YthgembbgcbaghaaGreatDoor
