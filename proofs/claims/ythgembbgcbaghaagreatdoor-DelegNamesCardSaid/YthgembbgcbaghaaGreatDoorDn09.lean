import Derived.Test.YthgembbgcbaghaaGreatDoorDn00
set_option maxHeartbeats 400000

namespace Go.Proofs.YthgembbgcbaghaaGreatDoor
open Go.RowKit
theorem hexDigit (s:ByteArray) (i:Nat) (w:World) (hi:i<s.size) (_hs:s.size<=9223372036854775807) :
 Calls Tryz.prog 242 #[.string s,.int .i64 i] w fun e w'=>e=.returned (.tuple #[.int .i64 (mB s[i]),.bool (xA s[i])])/\w=w':=by
 have a:s[i].toNat<256:=s[i].toNat_lt;go_enter Tryz.func242,Tryz.ntmps242;go_wp2
 all_goals go_ret2
 . exact ⟨mP (ux (by omega) (by omega)).1.symm (ux (by omega) (by omega)).2.symm,rfl⟩
 . exact ⟨mP (uj (by omega) (by omega)).1.symm (uj (by omega) (by omega)).2.symm,rfl⟩
 all_goals exact ⟨mP (dk (by omega) (by omega)).1.symm (dk (by omega) (by omega)).2.symm,rfl⟩
theorem rM (s:ByteArray) (w:World) (h:s.size<=9223372036854775807) :
 Calls Tryz.prog 195 #[.string s] w fun e w'=>e=.returned (.bool (xO s.data.toList))/\w=w':=by
 go_enter Tryz.func195,Tryz.ntmps195;go_wp2
 go_loop [3,4,5,8] (fun _ _ _ i=>∃k:Nat,k<=s.size/\i=.int .i64 k/\(s.data.toList.take k).all xA=true) (fun _ _ _ i=>s.size - (intOf i).toNat)
 case atStart=>exact ⟨0,Q2 _,rfl,by simp⟩
 case round =>
  obtain ⟨k,g,rfl,c⟩:=hrel;have b:=U c;clear c;by_cases hlt:k<s.size
  . have f:=U (vO xA s k hlt);cases hh:xA s[k]
    . have a:=U (pV xA s k hlt hh);go_wp2_with (go_at_call 242;refine (hexDigit s k _ hlt h).mono ?_;rintro e w' ⟨rfl,rfl⟩)
      go_ret;exact ⟨qx a.o.symm,rfl⟩
    . have d:=U hh;go_wp2_with (go_at_call 242;refine (hexDigit s k _ hlt h).mono ?_;rintro e w' ⟨rfl,rfl⟩)
      go_round
      case rel=>exact ⟨k+1,by omega,by go_num,by rw [f.o,b.o,d.o];rfl⟩
      case measure=>simp [intOf];omega
  . obtain rfl:k=s.size:=by omega
    have a:=U (yC xA s b.o);go_wp2;go_ret;exact ⟨qx a.o.symm,rfl⟩
theorem yI (c:UInt8) (w:World) :
 Calls Tryz.prog 194 #[.int .u8 c.toNat] w fun e w'=>e=.returned (.bool (jV c))/\w=w':=by
 have g:c.toNat<256:=c.toNat_lt;by_cases b:97<=(c.toNat:Int)/\(c.toNat:Int)<=122
 . obtain ⟨b,d⟩:=b;go_enter Tryz.func194,Tryz.ntmps194;go_wp2
   all_goals go_ret
   exact ⟨qx (kB (by omega)).symm,rfl⟩
 by_cases d:65<=(c.toNat:Int)/\(c.toNat:Int)<=90
 . obtain ⟨a,f⟩:=d;go_enter Tryz.func194,Tryz.ntmps194;go_wp2
   all_goals go_ret
   all_goals exact ⟨qx (kB (by omega)).symm,rfl⟩
 by_cases a:48<=(c.toNat:Int)/\(c.toNat:Int)<=57
 . obtain ⟨a,f⟩:=a;go_enter Tryz.func194,Tryz.ntmps194;go_wp2
   all_goals go_ret
   all_goals exact ⟨qx (kB (by omega)).symm,rfl⟩
 by_cases f:(c.toNat:Int)=46\/(c.toNat:Int)=95\/(c.toNat:Int)=45
 . go_enter Tryz.func194,Tryz.ntmps194;go_wp2
   all_goals go_ret
   all_goals exact ⟨qx (by rw [kB (by omega)];try (simp;omega)),rfl⟩
 . go_enter Tryz.func194,Tryz.ntmps194;go_wp2
   all_goals go_ret
   all_goals exact ⟨qx (by rw [uk (by omega)];try (simp;omega)),rfl⟩
theorem jP (s:ByteArray) (w:World) (r:s.size<=9223372036854775807) :
 Calls Tryz.prog 134 #[.string s] w fun e w'=>e=.returned (.bool (zl s.data.toList))/\w=w':=by
 by_cases h0:s.size=0
 . have a:=U (uv (s:=s) (by omega));have p:=wm s h0;clear h0;go_enter Tryz.func134,Tryz.ntmps134;go_wp2;go_ret;exact ⟨qx a.o.symm,rfl⟩
 obtain ⟨o,m⟩:=yb s (by omega);have b:0<s.size:=by omega
 clear h0;by_cases h1:64<s.size
 . have a:=U (uv (s:=s) (by omega));go_enter Tryz.func134,Tryz.ntmps134;go_wp2;go_ret;exact ⟨qx a.o.symm,rfl⟩
 by_cases h2:s[0].toNat=46
 . have a:=U (ro b h2);have l:((s[0].toNat:Int) == 46)=true:=by simp;omega
   clear h2;go_enter Tryz.func134,Tryz.ntmps134;go_wp2;go_ret;exact ⟨qx a.o.symm,rfl⟩
 have l:((s[0].toNat:Int) == 46)=false:=by simp;omega
 have c:s.size<=64:=by omega
 have g:=U h2;clear h2 h1;go_enter Tryz.func134,Tryz.ntmps134;go_wp2
 go_loop [3,18] (fun _ i=>∃k:Nat,k<=s.size/\i=.int .i64 k/\(s.data.toList.take k).all jV=true) (fun _ i=>s.size - (intOf i).toNat)
 case atStart=>exact ⟨0,Q2 _,rfl,by simp⟩
 case round =>
  obtain ⟨k,q,rfl,f⟩:=hrel;have d:=U f;clear f;by_cases hlt:k<s.size
  . have j:=U (vO jV s k hlt);cases hh:jV s[k]
    . have a:=U (rZ k hlt hh);go_wp2_with (go_at_call 194;refine (yI s[k] _).mono ?_;rintro e w' ⟨rfl,rfl⟩)
      go_ret;exact ⟨qx a.o.symm,rfl⟩
    . have h:=U hh;go_wp2_with (go_at_call 194;refine (yI s[k] _).mono ?_;rintro e w' ⟨rfl,rfl⟩)
      go_round
      case rel=>exact ⟨k+1,by omega,by go_num,by rw [j.o,d.o,h.o];rfl⟩
      case measure=>simp [intOf];omega
  . obtain rfl:k=s.size:=by omega
    have a:=U (dU b c g.o d.o);go_wp2;go_ret;exact ⟨qx a.o.symm,rfl⟩
