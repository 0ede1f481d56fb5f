import Derived.Test.YthgembbgcbaghaaGreatDoorDg00
set_option maxHeartbeats 400000

namespace Go.Proofs.YthgembbgcbaghaaGreatDoor
open Go.RowKit
theorem hexDigit (s:ByteArray) (i:Nat) (w:World) (hi:i<s.size) (_hs:s.size<=9223372036854775807) :
 Calls Tryz.prog 242 #[.string s,.int .i64 i] w fun e w'=>e=.returned (.tuple #[.int .i64 (pn s[i]),.bool (xh s[i])])/\w=w':=by
 have a:s[i].toNat<256:=s[i].toNat_lt;go_enter Tryz.func242,Tryz.ntmps242;go_wp2
 all_goals go_ret2
 . exact ⟨rn (yS (by omega) (by omega)).1.symm (yS (by omega) (by omega)).2.symm,rfl⟩
 . exact ⟨rn (yA (by omega) (by omega)).1.symm (yA (by omega) (by omega)).2.symm,rfl⟩
 all_goals exact ⟨rn (cz (by omega) (by omega)).1.symm (cz (by omega) (by omega)).2.symm,rfl⟩
theorem iC (s:ByteArray) (w:World) (h:s.size<=9223372036854775807) :
 Calls Tryz.prog 195 #[.string s] w fun e w'=>e=.returned (.bool (jb s.data.toList))/\w=w':=by
 go_enter Tryz.func195,Tryz.ntmps195;go_wp2
 go_loop [3,4,5,8] (fun _ _ _ i=>∃k:Nat,k<=s.size/\i=.int .i64 k/\(s.data.toList.take k).all xh=true) (fun _ _ _ i=>s.size - (intOf i).toNat)
 case atStart=>exact ⟨0,X7 _,rfl,by simp⟩
 case round =>
  obtain ⟨k,g,rfl,c⟩:=hrel;have b:=U c;clear c;by_cases hlt:k<s.size
  . have f:=U (jT xh s k hlt);cases hh:xh s[k]
    . have a:=U (gS xh s k hlt hh);go_wp2_with (go_at_call 242;refine (hexDigit s k _ hlt h).mono ?_;rintro e w' ⟨rfl,rfl⟩)
      go_ret;exact ⟨qz a.o.symm,rfl⟩
    . have d:=U hh;go_wp2_with (go_at_call 242;refine (hexDigit s k _ hlt h).mono ?_;rintro e w' ⟨rfl,rfl⟩)
      go_round
      case rel=>exact ⟨k+1,by omega,by go_num,by rw [f.o,b.o,d.o];rfl⟩
      case measure=>simp [intOf];omega
  . obtain rfl:k=s.size:=by omega
    have a:=U (wm xh s b.o);go_wp2;go_ret;exact ⟨qz a.o.symm,rfl⟩
theorem bS (c:UInt8) (w:World) :
 Calls Tryz.prog 194 #[.int .u8 c.toNat] w fun e w'=>e=.returned (.bool (jo c))/\w=w':=by
 have g:c.toNat<256:=c.toNat_lt;by_cases b:97<=(c.toNat:Int)/\(c.toNat:Int)<=122
 . obtain ⟨b,d⟩:=b;go_enter Tryz.func194,Tryz.ntmps194;go_wp2
   all_goals go_ret
   exact ⟨qz (xF (by omega)).symm,rfl⟩
 by_cases d:65<=(c.toNat:Int)/\(c.toNat:Int)<=90
 . obtain ⟨a,f⟩:=d;go_enter Tryz.func194,Tryz.ntmps194;go_wp2
   all_goals go_ret
   all_goals exact ⟨qz (xF (by omega)).symm,rfl⟩
 by_cases a:48<=(c.toNat:Int)/\(c.toNat:Int)<=57
 . obtain ⟨a,f⟩:=a;go_enter Tryz.func194,Tryz.ntmps194;go_wp2
   all_goals go_ret
   all_goals exact ⟨qz (xF (by omega)).symm,rfl⟩
 by_cases f:(c.toNat:Int)=46\/(c.toNat:Int)=95\/(c.toNat:Int)=45
 . go_enter Tryz.func194,Tryz.ntmps194;go_wp2
   all_goals go_ret
   all_goals exact ⟨qz (by rw [xF (by omega)];try (simp;omega)),rfl⟩
 . go_enter Tryz.func194,Tryz.ntmps194;go_wp2
   all_goals go_ret
   all_goals exact ⟨qz (by rw [bM (by omega)];try (simp;omega)),rfl⟩
theorem kY (s:ByteArray) (w:World) (r:s.size<=9223372036854775807) :
 Calls Tryz.prog 134 #[.string s] w fun e w'=>e=.returned (.bool (zg s.data.toList))/\w=w':=by
 by_cases h0:s.size=0
 . have a:=U (yT (s:=s) (by omega));have p:=ye s h0;clear h0;go_enter Tryz.func134,Tryz.ntmps134;go_wp2;go_ret;exact ⟨qz a.o.symm,rfl⟩
 obtain ⟨o,m⟩:=gA s (by omega);have b:0<s.size:=by omega
 clear h0;by_cases h1:64<s.size
 . have a:=U (yT (s:=s) (by omega));go_enter Tryz.func134,Tryz.ntmps134;go_wp2;go_ret;exact ⟨qz a.o.symm,rfl⟩
 by_cases h2:s[0].toNat=46
 . have a:=U (dh b h2);have l:((s[0].toNat:Int) == 46)=true:=by simp;omega
   clear h2;go_enter Tryz.func134,Tryz.ntmps134;go_wp2;go_ret;exact ⟨qz a.o.symm,rfl⟩
 have l:((s[0].toNat:Int) == 46)=false:=by simp;omega
 have c:s.size<=64:=by omega
 have g:=U h2;clear h2 h1;go_enter Tryz.func134,Tryz.ntmps134;go_wp2
 go_loop [3,18] (fun _ i=>∃k:Nat,k<=s.size/\i=.int .i64 k/\(s.data.toList.take k).all jo=true) (fun _ i=>s.size - (intOf i).toNat)
 case atStart=>exact ⟨0,X7 _,rfl,by simp⟩
 case round =>
  obtain ⟨k,q,rfl,f⟩:=hrel;have d:=U f;clear f;by_cases hlt:k<s.size
  . have j:=U (jT jo s k hlt);cases hh:jo s[k]
    . have a:=U (du k hlt hh);go_wp2_with (go_at_call 194;refine (bS s[k] _).mono ?_;rintro e w' ⟨rfl,rfl⟩)
      go_ret;exact ⟨qz a.o.symm,rfl⟩
    . have h:=U hh;go_wp2_with (go_at_call 194;refine (bS s[k] _).mono ?_;rintro e w' ⟨rfl,rfl⟩)
      go_round
      case rel=>exact ⟨k+1,by omega,by go_num,by rw [j.o,d.o,h.o];rfl⟩
      case measure=>simp [intOf];omega
  . obtain rfl:k=s.size:=by omega
    have a:=U (uH b c g.o d.o);go_wp2;go_ret;exact ⟨qz a.o.symm,rfl⟩
theorem uT (c:UInt8) (w:World) :
 Calls Tryz.prog 196 #[.int .u8 c.toNat] w fun e w'=>e=.returned (.bool (jo c))/\w=w':=by
 have g:c.toNat<256:=c.toNat_lt;by_cases b:97<=(c.toNat:Int)/\(c.toNat:Int)<=122
 . obtain ⟨b,d⟩:=b;go_enter Tryz.func196,Tryz.ntmps196;go_wp2
   all_goals go_ret
   exact ⟨qz (xF (by omega)).symm,rfl⟩
 by_cases d:65<=(c.toNat:Int)/\(c.toNat:Int)<=90
 . obtain ⟨a,f⟩:=d;go_enter Tryz.func196,Tryz.ntmps196;go_wp2
   all_goals go_ret
   all_goals exact ⟨qz (by rw [xF (by omega)];try (simp;omega)),rfl⟩
 by_cases a:48<=(c.toNat:Int)/\(c.toNat:Int)<=57
 . obtain ⟨a,f⟩:=a;go_enter Tryz.func196,Tryz.ntmps196;go_wp2
   all_goals go_ret
   all_goals exact ⟨qz (by rw [xF (by omega)];try (simp;omega)),rfl⟩
 by_cases f:(c.toNat:Int)=46\/(c.toNat:Int)=95\/(c.toNat:Int)=45
 . go_enter Tryz.func196,Tryz.ntmps196;go_wp2
   all_goals go_ret
   all_goals exact ⟨qz (by rw [xF (by omega)];try (simp;omega)),rfl⟩
 . go_enter Tryz.func196,Tryz.ntmps196;go_wp2
   all_goals go_ret
   all_goals exact ⟨qz (by rw [bM (by omega)];try (simp;omega)),rfl⟩
theorem bz (s:ByteArray) (w:World) (p:s.size<=9223372036854775807) :
 Calls Tryz.prog 140 #[.string s] w fun e w'=>e=.returned (.bool (zg s.data.toList))/\w=w':=by
 by_cases h0:s.size=0
 . have a:=U (yT (s:=s) (by omega));have b:s.size<1:=by omega
   clear h0;go_enter Tryz.func140,Tryz.ntmps140;go_wp2;go_ret;exact ⟨qz a.o.symm,rfl⟩
 have b:0<s.size:=by omega
 clear h0;by_cases h1:64<s.size
 . have a:=U (yT (s:=s) (by omega));go_enter Tryz.func140,Tryz.ntmps140;go_wp2;go_ret;exact ⟨qz a.o.symm,rfl⟩
 by_cases h2:s[0].toNat=46
 . have a:=U (dh b h2);have l:((s[0].toNat:Int) == 46)=true:=by simp;omega
   clear h2;go_enter Tryz.func140,Tryz.ntmps140;go_wp2;go_ret;exact ⟨qz a.o.symm,rfl⟩
 have l:((s[0].toNat:Int) == 46)=false:=by simp;omega
 have c:s.size<=64:=by omega
 have g:=U h2;clear h2 h1;go_enter Tryz.func140,Tryz.ntmps140;go_wp2
 go_loop [3] (fun i=>∃k:Nat,k<=s.size/\i=.int .i64 k/\(s.data.toList.take k).all jo=true) (fun i=>s.size - (intOf i).toNat)
 case atStart=>exact ⟨0,X7 _,rfl,by simp⟩
 case round =>
  obtain ⟨k,m,rfl,f⟩:=hrel;have d:=U f;clear f;by_cases hlt:k<s.size
  . have j:=U (jT jo s k hlt);cases hh:jo s[k]
    . have a:=U (du k hlt hh);go_wp2_with (go_at_call 196;refine (uT s[k] _).mono ?_;rintro e w' ⟨rfl,rfl⟩)
      go_ret;exact ⟨qz a.o.symm,rfl⟩
    . have h:=U hh;go_wp2_with (go_at_call 196;refine (uT s[k] _).mono ?_;rintro e w' ⟨rfl,rfl⟩)
      go_round
      case rel=>exact ⟨k+1,by omega,by go_num,by rw [j.o,d.o,h.o];rfl⟩
      case measure=>simp [intOf];omega
  . obtain rfl:k=s.size:=by omega
    have a:=U (uH b c g.o d.o);go_wp2;go_ret;exact ⟨qz a.o.symm,rfl⟩
def rH (c:UInt8):Int:=if xh c then pn c else -1
theorem sl {c:UInt8}:xh c=false->rH c = -1:=fun h=>by unfold rH;rw [h];rfl
theorem ff {c:UInt8}:xh c=true->rH c=pn c:=fun h=>by unfold rH;rw [h];rfl
theorem Qj (c:UInt8):0<=pn c/\pn c<=15:=by unfold pn;split <;> (try split) <;> omega
theorem fh (c:UInt8) (w:World) :
 Calls Tryz.prog 243 #[.int .u8 c.toNat] w fun e w'=>e=.returned (.int .i64 (rH c))/\w=w':=by
 have a:c.toNat<256:=c.toNat_lt;go_enter Tryz.func243,Tryz.ntmps243;go_wp2
 all_goals go_ret
 . exact ⟨xV (by rw [ff (yS (by omega) (by omega)).2,(yS (by omega) (by omega)).1]),rfl⟩
 . exact ⟨xV (by rw [ff (yA (by omega) (by omega)).2,(yA (by omega) (by omega)).1]),rfl⟩
 all_goals exact ⟨xV (by rw [sl (cz (by omega) (by omega)).2]),rfl⟩
theorem cd (s:ByteArray) (w:World) (l:s.size<=9223372036854775807) :
 Calls Tryz.prog 199 #[.string s] w fun e w'=>e=.returned (.bool (jb s.data.toList))/\w=w':=by
 go_enter Tryz.func199,Tryz.ntmps199;go_wp2
 go_loop [3] (fun i=>∃k:Nat,k<=s.size/\i=.int .i64 k/\(s.data.toList.take k).all xh=true) (fun i=>s.size - (intOf i).toNat)
 case atStart=>exact ⟨0,X7 _,rfl,by simp⟩
 case round =>
  obtain ⟨k,j,rfl,c⟩:=hrel;have b:=U c;clear c;by_cases hlt:k<s.size
  . have f:=U (jT xh s k hlt);have h:=Qj s[k];cases hh:xh s[k]
    . have a:=U (gS xh s k hlt hh);have g:rH s[k]<0:=by rw [sl hh];omega
      go_wp2_with (go_at_call 243;refine (fh s[k] _).mono ?_;rintro e w' ⟨rfl,rfl⟩)
      go_ret;exact ⟨qz a.o.symm,rfl⟩
    . have d:=U hh;have g:0<=rH s[k]:=by rw [ff hh];omega
      go_wp2_with (go_at_call 243;refine (fh s[k] _).mono ?_;rintro e w' ⟨rfl,rfl⟩)
      go_round
      case rel=>exact ⟨k+1,by omega,by go_num,by rw [f.o,b.o,d.o];rfl⟩
      case measure=>simp [intOf];omega
  . obtain rfl:k=s.size:=by omega
    have a:=U (wm xh s b.o);go_wp2;go_ret;exact ⟨qz a.o.symm,rfl⟩
