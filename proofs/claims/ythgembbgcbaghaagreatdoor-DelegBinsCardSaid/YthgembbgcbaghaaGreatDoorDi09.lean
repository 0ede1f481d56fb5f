/- The contracts of the program's predicates on texts (hex, name, key.May) and of the references' ones: each returns just what the plain function says and leaves the world as it was. -/
import Derived.Test.YthgembbgcbaghaaGreatDoorDi00

namespace Go.Proofs.YthgembbgcbaghaaGreatDoor
open Go.RowKit
set_option maxHeartbeats 400000 in
theorem hexDigit (s:ByteArray) (i:Nat) (w:World) (hi:i<s.size) (_hs:s.size≤9223372036854775807) :
 Calls Tryz.prog 242 #[.string s,.int .i64 i] w fun e w'=>e=.returned (.tuple #[.int .i64 (ma s[i]),.bool (xn s[i])])∧w=w':=by
 have hc:s[i].toNat<256:=s[i].toNat_lt
 go_enter Tryz.func242,Tryz.ntmps242
 go_wp2
 all_goals go_ret2
 · exact ⟨mt (fH (by omega) (by omega)).1.symm (fH (by omega) (by omega)).2.symm,rfl⟩
 · exact ⟨mt (fU (by omega) (by omega)).1.symm (fU (by omega) (by omega)).2.symm,rfl⟩
 all_goals exact ⟨mt (cH (by omega) (by omega)).1.symm (cH (by omega) (by omega)).2.symm,rfl⟩
set_option maxHeartbeats 400000 in
theorem rZ (s:ByteArray) (w:World) (hs:s.size≤9223372036854775807) :
 Calls Tryz.prog 195 #[.string s] w fun e w'=>e=.returned (.bool (xd s.data.toList))∧w=w':=by
 go_enter Tryz.func195,Tryz.ntmps195
 go_wp2
 go_loop [3,4,5,8] (fun _ _ _ i=>∃k:Nat,k≤s.size∧i=.int .i64 k∧(s.data.toList.take k).all xn=true) (fun _ _ _ i=>s.size - (intOf i).toNat)
 case atStart=>exact ⟨0,Nat.zero_le _,rfl,by simp⟩
 case round =>
  obtain ⟨k,hk,rfl,ha⟩:=hrel
  have HA:=Lh ha;clear ha
  by_cases hlt:k<s.size
  · have HS:=Lh (vG xn s k hlt)
    cases hh:xn s[k]
    · have HF:=Lh (pj xn s k hlt hh)
      go_wp2_with (go_at_call 242;refine (hexDigit s k _ hlt hs).mono ?_;rintro e w' ⟨rfl,rfl⟩)
      go_ret
      exact ⟨qz HF.out.symm,rfl⟩
    · have HH:=Lh hh
      go_wp2_with (go_at_call 242;refine (hexDigit s k _ hlt hs).mono ?_;rintro e w' ⟨rfl,rfl⟩)
      go_round
      case rel=>exact ⟨k+1,by omega,by go_num,by rw [HS.out,HA.out,HH.out];rfl⟩
      case measure=>simp [intOf];omega
  · obtain rfl:k=s.size:=by omega
    have HF:=Lh (yG xn s HA.out)
    go_wp2
    go_ret
    exact ⟨qz HF.out.symm,rfl⟩
set_option maxHeartbeats 400000 in
theorem yD (c:UInt8) (w:World) :
 Calls Tryz.prog 194 #[.int .u8 c.toNat] w fun e w'=>e=.returned (.bool (jq c))∧w=w':=by
 have hc:c.toNat<256:=c.toNat_lt
 by_cases h1:97≤(c.toNat:Int)∧(c.toNat:Int)≤122
 · obtain ⟨h1,h2⟩:=h1
   go_enter Tryz.func194,Tryz.ntmps194
   go_wp2
   all_goals go_ret
   exact ⟨qz (jm (by omega)).symm,rfl⟩
 by_cases h2:65≤(c.toNat:Int)∧(c.toNat:Int)≤90
 · obtain ⟨h3,h4⟩:=h2
   go_enter Tryz.func194,Tryz.ntmps194
   go_wp2
   all_goals go_ret
   all_goals exact ⟨qz (jm (by omega)).symm,rfl⟩
 by_cases h3:48≤(c.toNat:Int)∧(c.toNat:Int)≤57
 · obtain ⟨h3,h4⟩:=h3
   go_enter Tryz.func194,Tryz.ntmps194
   go_wp2
   all_goals go_ret
   all_goals exact ⟨qz (jm (by omega)).symm,rfl⟩
 by_cases h4:(c.toNat:Int)=46∨(c.toNat:Int)=95∨(c.toNat:Int)=45
 · go_enter Tryz.func194,Tryz.ntmps194
   go_wp2
   all_goals go_ret
   all_goals exact ⟨qz (by rw [jm (by omega)];try (simp;omega)),rfl⟩
 · go_enter Tryz.func194,Tryz.ntmps194
   go_wp2
   all_goals go_ret
   all_goals exact ⟨qz (by rw [fM (by omega)];try (simp;omega)),rfl⟩
set_option maxHeartbeats 400000 in
theorem jt (s:ByteArray) (w:World) (hs:s.size≤9223372036854775807) :
 Calls Tryz.prog 134 #[.string s] w fun e w'=>e=.returned (.bool (q9 s.data.toList))∧w=w':=by
 by_cases h0:s.size=0
 · have HF:=Lh (fC (s:=s) (by omega))
   have he:=vA s h0
   clear h0
   go_enter Tryz.func134,Tryz.ntmps134
   go_wp2
   go_ret
   exact ⟨qz HF.out.symm,rfl⟩
 obtain ⟨hne,hem⟩:=yz s (by omega)
 have h0':0<s.size:=by omega
 clear h0
 by_cases h1:64<s.size
 · have HF:=Lh (fC (s:=s) (by omega))
   go_enter Tryz.func134,Tryz.ntmps134
   go_wp2
   go_ret
   exact ⟨qz HF.out.symm,rfl⟩
 by_cases h2:s[0].toNat=46
 · have HF:=Lh (rk h0' h2)
   have hd:((s[0].toNat:Int) == 46)=true:=by simp;omega
   clear h2
   go_enter Tryz.func134,Tryz.ntmps134
   go_wp2
   go_ret
   exact ⟨qz HF.out.symm,rfl⟩
 have hd:((s[0].toNat:Int) == 46)=false:=by simp;omega
 have h1':s.size≤64:=by omega
 have H2:=Lh h2
 clear h2 h1
 go_enter Tryz.func134,Tryz.ntmps134
 go_wp2
 go_loop [3,18] (fun _ i=>∃k:Nat,k≤s.size∧i=.int .i64 k∧(s.data.toList.take k).all jq=true) (fun _ i=>s.size - (intOf i).toNat)
 case atStart=>exact ⟨0,Nat.zero_le _,rfl,by simp⟩
 case round =>
  obtain ⟨k,hk,rfl,ha⟩:=hrel
  have HA:=Lh ha;clear ha
  by_cases hlt:k<s.size
  · have HS:=Lh (vG jq s k hlt)
    cases hh:jq s[k]
    · have HF:=Lh (rv k hlt hh)
      go_wp2_with (go_at_call 194;refine (yD s[k] _).mono ?_;rintro e w' ⟨rfl,rfl⟩)
      go_ret
      exact ⟨qz HF.out.symm,rfl⟩
    · have HH:=Lh hh
      go_wp2_with (go_at_call 194;refine (yD s[k] _).mono ?_;rintro e w' ⟨rfl,rfl⟩)
      go_round
      case rel=>exact ⟨k+1,by omega,by go_num,by rw [HS.out,HA.out,HH.out];rfl⟩
      case measure=>simp [intOf];omega
  · obtain rfl:k=s.size:=by omega
    have HF:=Lh (dt h0' h1' H2.out HA.out)
    go_wp2
    go_ret
    exact ⟨qz HF.out.symm,rfl⟩
end Go.Proofs.YthgembbgcbaghaaGreatDoor
