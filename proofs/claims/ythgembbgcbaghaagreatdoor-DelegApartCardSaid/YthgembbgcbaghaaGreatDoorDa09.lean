/- The contracts of the program's predicates on texts (hex, name, key.May) and of the references' ones: each returns just what the plain function says and leaves the world as it was. -/
import Derived.Test.YthgembbgcbaghaaGreatDoorDa00

namespace Go.Proofs.YthgembbgcbaghaaGreatDoor
open Go.RowKit
set_option maxHeartbeats 400000 in
theorem hexDigit (s:ByteArray) (i:Nat) (w:World) (hi:i<s.size) (_hs:s.size≤9223372036854775807) :
 Calls Tryz.prog 242 #[.string s,.int .i64 i] w fun e w'=>e=.returned (.tuple #[.int .i64 (mg s[i]),.bool (xK s[i])])∧w=w':=by
 have hc:s[i].toNat<256:=s[i].toNat_lt
 go_enter Tryz.func242,Tryz.ntmps242
 go_wp2
 all_goals go_ret2
 · exact ⟨mf (fH (by omega) (by omega)).1.symm (fH (by omega) (by omega)).2.symm,rfl⟩
 · exact ⟨mf (fU (by omega) (by omega)).1.symm (fU (by omega) (by omega)).2.symm,rfl⟩
 all_goals exact ⟨mf (cJ (by omega) (by omega)).1.symm (cJ (by omega) (by omega)).2.symm,rfl⟩
set_option maxHeartbeats 400000 in
theorem l9 (s:ByteArray) (w:World) (hs:s.size≤9223372036854775807) :
 Calls Tryz.prog 195 #[.string s] w fun e w'=>e=.returned (.bool (xY s.data.toList))∧w=w':=by
 go_enter Tryz.func195,Tryz.ntmps195
 go_wp2
 go_loop [3,4,5,8] (fun _ _ _ i=>∃k:Nat,k≤s.size∧i=.int .i64 k∧(s.data.toList.take k).all xK=true) (fun _ _ _ i=>s.size - (intOf i).toNat)
 case atStart=>exact ⟨0,Nat.zero_le _,rfl,by simp⟩
 case round =>
  obtain ⟨k,hk,rfl,ha⟩:=hrel
  have HA:=Lh ha;clear ha
  by_cases hlt:k<s.size
  · have HS:=Lh (vV xK s k hlt)
    cases hh:xK s[k]
    · have HF:=Lh (pk xK s k hlt hh)
      go_wp2_with (go_at_call 242;refine (hexDigit s k _ hlt hs).mono ?_;rintro e w' ⟨rfl,rfl⟩)
      go_ret
      exact ⟨qz HF.out.symm,rfl⟩
    · have HH:=Lh hh
      go_wp2_with (go_at_call 242;refine (hexDigit s k _ hlt hs).mono ?_;rintro e w' ⟨rfl,rfl⟩)
      go_round
      case rel=>exact ⟨k+1,by omega,by go_num,by rw [HS.out,HA.out,HH.out];rfl⟩
      case measure=>simp [intOf];omega
  · obtain rfl:k=s.size:=by omega
    have HF:=Lh (yG xK s HA.out)
    go_wp2
    go_ret
    exact ⟨qz HF.out.symm,rfl⟩
set_option maxHeartbeats 400000 in
theorem yC (c:UInt8) (w:World) :
 Calls Tryz.prog 194 #[.int .u8 c.toNat] w fun e w'=>e=.returned (.bool (jh c))∧w=w':=by
 have hc:c.toNat<256:=c.toNat_lt
 by_cases h1:97≤(c.toNat:Int)∧(c.toNat:Int)≤122
 · obtain ⟨h1,h2⟩:=h1
   go_enter Tryz.func194,Tryz.ntmps194
   go_wp2
   all_goals go_ret
   exact ⟨qz (kt (by omega)).symm,rfl⟩
 by_cases h2:65≤(c.toNat:Int)∧(c.toNat:Int)≤90
 · obtain ⟨h3,h4⟩:=h2
   go_enter Tryz.func194,Tryz.ntmps194
   go_wp2
   all_goals go_ret
   all_goals exact ⟨qz (kt (by omega)).symm,rfl⟩
 by_cases h3:48≤(c.toNat:Int)∧(c.toNat:Int)≤57
 · obtain ⟨h3,h4⟩:=h3
   go_enter Tryz.func194,Tryz.ntmps194
   go_wp2
   all_goals go_ret
   all_goals exact ⟨qz (kt (by omega)).symm,rfl⟩
 by_cases h4:(c.toNat:Int)=46∨(c.toNat:Int)=95∨(c.toNat:Int)=45
 · go_enter Tryz.func194,Tryz.ntmps194
   go_wp2
   all_goals go_ret
   all_goals exact ⟨qz (by rw [kt (by omega)];try (simp;omega)),rfl⟩
 · go_enter Tryz.func194,Tryz.ntmps194
   go_wp2
   all_goals go_ret
   all_goals exact ⟨qz (by rw [fM (by omega)];try (simp;omega)),rfl⟩
set_option maxHeartbeats 400000 in
theorem jr (s:ByteArray) (w:World) (hs:s.size≤9223372036854775807) :
 Calls Tryz.prog 134 #[.string s] w fun e w'=>e=.returned (.bool (zb s.data.toList))∧w=w':=by
 by_cases h0:s.size=0
 · have HF:=Lh (fC (s:=s) (by omega))
   have he:=vN s h0
   clear h0
   go_enter Tryz.func134,Tryz.ntmps134
   go_wp2
   go_ret
   exact ⟨qz HF.out.symm,rfl⟩
 obtain ⟨hne,hem⟩:=wO s (by omega)
 have h0':0<s.size:=by omega
 clear h0
 by_cases h1:64<s.size
 · have HF:=Lh (fC (s:=s) (by omega))
   go_enter Tryz.func134,Tryz.ntmps134
   go_wp2
   go_ret
   exact ⟨qz HF.out.symm,rfl⟩
 by_cases h2:s[0].toNat=46
 · have HF:=Lh (lC h0' h2)
   have hd:((s[0].toNat:Int) == 46)=true:=by simp;omega
   clear h2
   go_enter Tryz.func134,Tryz.ntmps134
   go_wp2
   go_ret
   exact ⟨qz HF.out.symm,rfl⟩
 have hd:((s[0].toNat:Int) == 46)=false:=by simp;omega
 have h1':s.size≤64:=by omega
 have H2:=Lh h2
 clear h2 h1
 go_enter Tryz.func134,Tryz.ntmps134
 go_wp2
 go_loop [3,18] (fun _ i=>∃k:Nat,k≤s.size∧i=.int .i64 k∧(s.data.toList.take k).all jh=true) (fun _ i=>s.size - (intOf i).toNat)
 case atStart=>exact ⟨0,Nat.zero_le _,rfl,by simp⟩
 case round =>
  obtain ⟨k,hk,rfl,ha⟩:=hrel
  have HA:=Lh ha;clear ha
  by_cases hlt:k<s.size
  · have HS:=Lh (vV jh s k hlt)
    cases hh:jh s[k]
    · have HF:=Lh (lD k hlt hh)
      go_wp2_with (go_at_call 194;refine (yC s[k] _).mono ?_;rintro e w' ⟨rfl,rfl⟩)
      go_ret
      exact ⟨qz HF.out.symm,rfl⟩
    · have HH:=Lh hh
      go_wp2_with (go_at_call 194;refine (yC s[k] _).mono ?_;rintro e w' ⟨rfl,rfl⟩)
      go_round
      case rel=>exact ⟨k+1,by omega,by go_num,by rw [HS.out,HA.out,HH.out];rfl⟩
      case measure=>simp [intOf];omega
  · obtain rfl:k=s.size:=by omega
    have HF:=Lh (dy h0' h1' H2.out HA.out)
    go_wp2
    go_ret
    exact ⟨qz HF.out.symm,rfl⟩
end Go.Proofs.YthgembbgcbaghaaGreatDoor
