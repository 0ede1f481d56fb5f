/- The contracts of the program's predicates on texts (hex, name, key.May) and of the references' ones: each returns just what the plain function says and leaves the world as it was. -/
import Derived.Test.YtnlgmcapbbgelaaGreatDoorRt00

namespace Go.Proofs.YtnlgmcapbbgelaaGreatDoor
open Go.RowKit
set_option maxHeartbeats 400000 in
theorem hexDigit (s:ByteArray) (i:Nat) (w:World) (hi:i<s.size) (_hs:s.size≤9223372036854775807) :
 Calls Tryz.prog 155 #[.string s,.int .i64 i] w fun e w'=>e=.returned (.tuple #[.int .i64 (gH s[i]),.bool (zR s[i])])∧w=w':=by
 have hc:s[i].toNat<256:=s[i].toNat_lt
 go_enter Tryz.func155,Tryz.ntmps155
 go_wp2
 all_goals go_ret2
 · exact ⟨cA (yx (by omega) (by omega)).1.symm (yx (by omega) (by omega)).2.symm,rfl⟩
 · exact ⟨cA (yj (by omega) (by omega)).1.symm (yj (by omega) (by omega)).2.symm,rfl⟩
 all_goals exact ⟨cA (ud (by omega) (by omega)).1.symm (ud (by omega) (by omega)).2.symm,rfl⟩
set_option maxHeartbeats 400000 in
theorem iv (s:ByteArray) (w:World) (hs:s.size≤9223372036854775807) :
 Calls Tryz.prog 116 #[.string s] w fun e w'=>e=.returned (.bool (jo s.data.toList))∧w=w':=by
 go_enter Tryz.func116,Tryz.ntmps116
 go_wp2
 go_loop [3,4,5,8] (fun _ _ _ i=>∃k:Nat,k≤s.size∧i=.int .i64 k∧(s.data.toList.take k).all zR=true) (fun _ _ _ i=>s.size - (intOf i).toNat)
 case atStart=>exact ⟨0,Nat.zero_le _,rfl,by simp⟩
 case round =>
  obtain ⟨k,hk,rfl,ha⟩:=hrel
  have HA:=Lh ha;clear ha
  by_cases hlt:k<s.size
  · have HS:=Lh (jW zR s k hlt)
    cases hh:zR s[k]
    · have HF:=Lh (yW zR s k hlt hh)
      go_wp2_with (go_at_call 155;refine (hexDigit s k _ hlt hs).mono ?_;rintro e w' ⟨rfl,rfl⟩)
      go_ret
      exact ⟨qk HF.out.symm,rfl⟩
    · have HH:=Lh hh
      go_wp2_with (go_at_call 155;refine (hexDigit s k _ hlt hs).mono ?_;rintro e w' ⟨rfl,rfl⟩)
      go_round
      case rel=>exact ⟨k+1,by omega,by go_num,by rw [HS.out,HA.out,HH.out];rfl⟩
      case measure=>simp [intOf];omega
  · obtain rfl:k=s.size:=by omega
    have HF:=Lh (vc zR s HA.out)
    go_wp2
    go_ret
    exact ⟨qk HF.out.symm,rfl⟩
set_option maxHeartbeats 400000 in
theorem gr (c:UInt8) (w:World) :
 Calls Tryz.prog 154 #[.int .u8 c.toNat] w fun e w'=>e=.returned (.bool (xE c))∧w=w':=by
 have hc:c.toNat<256:=c.toNat_lt
 by_cases h1:97≤(c.toNat:Int)∧(c.toNat:Int)≤122
 · obtain ⟨h1,h2⟩:=h1
   go_enter Tryz.func154,Tryz.ntmps154
   go_wp2
   all_goals go_ret
   exact ⟨qk (xf (by omega)).symm,rfl⟩
 by_cases h2:65≤(c.toNat:Int)∧(c.toNat:Int)≤90
 · obtain ⟨h3,h4⟩:=h2
   go_enter Tryz.func154,Tryz.ntmps154
   go_wp2
   all_goals go_ret
   all_goals exact ⟨qk (xf (by omega)).symm,rfl⟩
 by_cases h3:48≤(c.toNat:Int)∧(c.toNat:Int)≤57
 · obtain ⟨h3,h4⟩:=h3
   go_enter Tryz.func154,Tryz.ntmps154
   go_wp2
   all_goals go_ret
   all_goals exact ⟨qk (xf (by omega)).symm,rfl⟩
 by_cases h4:(c.toNat:Int)=46∨(c.toNat:Int)=95∨(c.toNat:Int)=45
 · go_enter Tryz.func154,Tryz.ntmps154
   go_wp2
   all_goals go_ret
   all_goals exact ⟨qk (by rw [xf (by omega)];try (simp;omega)),rfl⟩
 · go_enter Tryz.func154,Tryz.ntmps154
   go_wp2
   all_goals go_ret
   all_goals exact ⟨qk (by rw [gy (by omega)];try (simp;omega)),rfl⟩
set_option maxHeartbeats 400000 in
theorem ve (s:ByteArray) (w:World) (hs:s.size≤9223372036854775807) :
 Calls Tryz.prog 115 #[.string s] w fun e w'=>e=.returned (.bool (xX s.data.toList))∧w=w':=by
 by_cases h0:s.size=0
 · have HF:=Lh (yk (s:=s) (by omega))
   have he:=cT s h0
   clear h0
   go_enter Tryz.func115,Tryz.ntmps115
   go_wp2
   go_ret
   exact ⟨qk HF.out.symm,rfl⟩
 obtain ⟨hne,hem⟩:=l8 s (by omega)
 have h0':0<s.size:=by omega
 clear h0
 by_cases h1:64<s.size
 · have HF:=Lh (yk (s:=s) (by omega))
   go_enter Tryz.func115,Tryz.ntmps115
   go_wp2
   go_ret
   exact ⟨qk HF.out.symm,rfl⟩
 by_cases h2:s[0].toNat=46
 · have HF:=Lh (mw h0' h2)
   have hd:((s[0].toNat:Int) == 46)=true:=by simp;omega
   clear h2
   go_enter Tryz.func115,Tryz.ntmps115
   go_wp2
   go_ret
   exact ⟨qk HF.out.symm,rfl⟩
 have hd:((s[0].toNat:Int) == 46)=false:=by simp;omega
 have h1':s.size≤64:=by omega
 have H2:=Lh h2
 clear h2 h1
 go_enter Tryz.func115,Tryz.ntmps115
 go_wp2
 go_loop [3,18] (fun _ i=>∃k:Nat,k≤s.size∧i=.int .i64 k∧(s.data.toList.take k).all xE=true) (fun _ i=>s.size - (intOf i).toNat)
 case atStart=>exact ⟨0,Nat.zero_le _,rfl,by simp⟩
 case round =>
  obtain ⟨k,hk,rfl,ha⟩:=hrel
  have HA:=Lh ha;clear ha
  by_cases hlt:k<s.size
  · have HS:=Lh (jW xE s k hlt)
    cases hh:xE s[k]
    · have HF:=Lh (my k hlt hh)
      go_wp2_with (go_at_call 154;refine (gr s[k] _).mono ?_;rintro e w' ⟨rfl,rfl⟩)
      go_ret
      exact ⟨qk HF.out.symm,rfl⟩
    · have HH:=Lh hh
      go_wp2_with (go_at_call 154;refine (gr s[k] _).mono ?_;rintro e w' ⟨rfl,rfl⟩)
      go_round
      case rel=>exact ⟨k+1,by omega,by go_num,by rw [HS.out,HA.out,HH.out];rfl⟩
      case measure=>simp [intOf];omega
  · obtain rfl:k=s.size:=by omega
    have HF:=Lh (ff h0' h1' H2.out HA.out)
    go_wp2
    go_ret
    exact ⟨qk HF.out.symm,rfl⟩
set_option maxHeartbeats 400000 in
theorem fJ (c:UInt8) (w:World) :
 Calls Tryz.prog 198 #[.int .u8 c.toNat] w fun e w'=>e=.returned (.bool (xE c))∧w=w':=by
 have hc:c.toNat<256:=c.toNat_lt
 by_cases h1:97≤(c.toNat:Int)∧(c.toNat:Int)≤122
 · obtain ⟨h1,h2⟩:=h1
   go_enter Tryz.func198,Tryz.ntmps198
   go_wp2
   all_goals go_ret
   exact ⟨qk (xf (by omega)).symm,rfl⟩
 by_cases h2:65≤(c.toNat:Int)∧(c.toNat:Int)≤90
 · obtain ⟨h3,h4⟩:=h2
   go_enter Tryz.func198,Tryz.ntmps198
   go_wp2
   all_goals go_ret
   all_goals exact ⟨qk (by rw [xf (by omega)];try (simp;omega)),rfl⟩
 by_cases h3:48≤(c.toNat:Int)∧(c.toNat:Int)≤57
 · obtain ⟨h3,h4⟩:=h3
   go_enter Tryz.func198,Tryz.ntmps198
   go_wp2
   all_goals go_ret
   all_goals exact ⟨qk (by rw [xf (by omega)];try (simp;omega)),rfl⟩
 by_cases h4:(c.toNat:Int)=46∨(c.toNat:Int)=95∨(c.toNat:Int)=45
 · go_enter Tryz.func198,Tryz.ntmps198
   go_wp2
   all_goals go_ret
   all_goals exact ⟨qk (by rw [xf (by omega)];try (simp;omega)),rfl⟩
 · go_enter Tryz.func198,Tryz.ntmps198
   go_wp2
   all_goals go_ret
   all_goals exact ⟨qk (by rw [gy (by omega)];try (simp;omega)),rfl⟩
set_option maxHeartbeats 400000 in
theorem ry (s:ByteArray) (w:World) (hs:s.size≤9223372036854775807) :
 Calls Tryz.prog 161 #[.string s] w fun e w'=>e=.returned (.bool (xX s.data.toList))∧w=w':=by
 by_cases h0:s.size=0
 · have HF:=Lh (yk (s:=s) (by omega))
   have h0':s.size<1:=by omega
   clear h0
   go_enter Tryz.func161,Tryz.ntmps161
   go_wp2
   go_ret
   exact ⟨qk HF.out.symm,rfl⟩
 have h0':0<s.size:=by omega
 clear h0
 by_cases h1:64<s.size
 · have HF:=Lh (yk (s:=s) (by omega))
   go_enter Tryz.func161,Tryz.ntmps161
   go_wp2
   go_ret
   exact ⟨qk HF.out.symm,rfl⟩
 by_cases h2:s[0].toNat=46
 · have HF:=Lh (mw h0' h2)
   have hd:((s[0].toNat:Int) == 46)=true:=by simp;omega
   clear h2
   go_enter Tryz.func161,Tryz.ntmps161
   go_wp2
   go_ret
   exact ⟨qk HF.out.symm,rfl⟩
 have hd:((s[0].toNat:Int) == 46)=false:=by simp;omega
 have h1':s.size≤64:=by omega
 have H2:=Lh h2
 clear h2 h1
 go_enter Tryz.func161,Tryz.ntmps161
 go_wp2
 go_loop [3] (fun i=>∃k:Nat,k≤s.size∧i=.int .i64 k∧(s.data.toList.take k).all xE=true) (fun i=>s.size - (intOf i).toNat)
 case atStart=>exact ⟨0,Nat.zero_le _,rfl,by simp⟩
 case round =>
  obtain ⟨k,hk,rfl,ha⟩:=hrel
  have HA:=Lh ha;clear ha
  by_cases hlt:k<s.size
  · have HS:=Lh (jW xE s k hlt)
    cases hh:xE s[k]
    · have HF:=Lh (my k hlt hh)
      go_wp2_with (go_at_call 198;refine (fJ s[k] _).mono ?_;rintro e w' ⟨rfl,rfl⟩)
      go_ret
      exact ⟨qk HF.out.symm,rfl⟩
    · have HH:=Lh hh
      go_wp2_with (go_at_call 198;refine (fJ s[k] _).mono ?_;rintro e w' ⟨rfl,rfl⟩)
      go_round
      case rel=>exact ⟨k+1,by omega,by go_num,by rw [HS.out,HA.out,HH.out];rfl⟩
      case measure=>simp [intOf];omega
  · obtain rfl:k=s.size:=by omega
    have HF:=Lh (ff h0' h1' H2.out HA.out)
    go_wp2
    go_ret
    exact ⟨qk HF.out.symm,rfl⟩
def dp (c:UInt8):Int:=if zR c then gH c else -1
theorem ld {c:UInt8}:zR c=false→dp c = -1:=fun h=>by unfold dp;rw [h];rfl
theorem bO {c:UInt8}:zR c=true→dp c=gH c:=fun h=>by unfold dp;rw [h];rfl
theorem aO (c:UInt8):0≤gH c∧gH c≤15:=by unfold gH;split <;> (try split) <;> omega
set_option maxHeartbeats 400000 in
theorem bE (c:UInt8) (w:World) :
 Calls Tryz.prog 222 #[.int .u8 c.toNat] w fun e w'=>e=.returned (.int .i64 (dp c))∧w=w':=by
 have hc:c.toNat<256:=c.toNat_lt
 go_enter Tryz.func222,Tryz.ntmps222
 go_wp2
 all_goals go_ret
 · exact ⟨qF (by rw [bO (yx (by omega) (by omega)).2,(yx (by omega) (by omega)).1]),rfl⟩
 · exact ⟨qF (by rw [bO (yj (by omega) (by omega)).2,(yj (by omega) (by omega)).1]),rfl⟩
 all_goals exact ⟨qF (by rw [ld (ud (by omega) (by omega)).2]),rfl⟩
set_option maxHeartbeats 400000 in
theorem ll (s:ByteArray) (w:World) (hs:s.size≤9223372036854775807) :
 Calls Tryz.prog 199 #[.string s] w fun e w'=>e=.returned (.bool (jo s.data.toList))∧w=w':=by
 go_enter Tryz.func199,Tryz.ntmps199
 go_wp2
 go_loop [3] (fun i=>∃k:Nat,k≤s.size∧i=.int .i64 k∧(s.data.toList.take k).all zR=true) (fun i=>s.size - (intOf i).toNat)
 case atStart=>exact ⟨0,Nat.zero_le _,rfl,by simp⟩
 case round =>
  obtain ⟨k,hk,rfl,ha⟩:=hrel
  have HA:=Lh ha;clear ha
  by_cases hlt:k<s.size
  · have HS:=Lh (jW zR s k hlt)
    have hb:=aO s[k]
    cases hh:zR s[k]
    · have HF:=Lh (yW zR s k hlt hh)
      have hv:dp s[k]<0:=by rw [ld hh];omega
      go_wp2_with (go_at_call 222;refine (bE s[k] _).mono ?_;rintro e w' ⟨rfl,rfl⟩)
      go_ret
      exact ⟨qk HF.out.symm,rfl⟩
    · have HH:=Lh hh
      have hv:0≤dp s[k]:=by rw [bO hh];omega
      go_wp2_with (go_at_call 222;refine (bE s[k] _).mono ?_;rintro e w' ⟨rfl,rfl⟩)
      go_round
      case rel=>exact ⟨k+1,by omega,by go_num,by rw [HS.out,HA.out,HH.out];rfl⟩
      case measure=>simp [intOf];omega
  · obtain rfl:k=s.size:=by omega
    have HF:=Lh (vc zR s HA.out)
    go_wp2
    go_ret
    exact ⟨qk HF.out.symm,rfl⟩
end Go.Proofs.YtnlgmcapbbgelaaGreatDoor
