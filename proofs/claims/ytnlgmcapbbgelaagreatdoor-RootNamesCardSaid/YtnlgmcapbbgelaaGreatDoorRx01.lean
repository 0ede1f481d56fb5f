/- Laws of single operations that the walks lean on: copy of a text into a row; a whole row loaded, a whole row stored. Over any program. -/
import Derived.Test.YtnlgmcapbbgelaaGreatDoorRx00
import Derived.ProofKit
import Derived.OpenShut
import Derived.ChangeSame
import Derived.SliceStrings
import Derived.Deep.Slices
import Derived.Lib.SmallJoins
import Derived.Carry
import Derived.BigQuiet
import Derived.Deep.RegionHeld3
import Derived.Deep.QuietTactic
import Derived.Outline
import Derived.Laws.BitsAllLaws
import Derived.Lib.Builder
import Derived.Lib.AppendStr
import Derived.Lib.UnsafeStr
import Derived.Lib.FrozenHead2
import Derived.Lib.OthersKept
import Derived.Laws.Externs
import Derived.Lib.LazyBuf
import Derived.Laws.Rows
import Derived.Laws.IdiomStrings
import Derived.Laws.BytesArg
import Derived.Lib.BufferRead

namespace Go.Proofs.YtnlgmcapbbgelaaGreatDoor
open Go.RowKit
def qL:JV:=.mk 0 0 ⟨#[]⟩ [] []
def zeroAggW:Value:=.agg #[.int .u8 0,.int .i64 0,.string ⟨#[]⟩,.slice none 0 0,.slice none 0 0]
theorem vW (w:World) (lo hi:Nat):Rep w lo hi qL zeroAggW:=by
 unfold qL Rep;exact ⟨none,0,none,0,rfl,Nat.le_refl _,Nat.le_refl _,.inl rfl,.inl rfl⟩
end Go.Proofs.YtnlgmcapbbgelaaGreatDoor

namespace Go.Proofs.YtnlgmcapbbgelaaGreatDoor
open Go.ChangeShapes Go.WideShapes Go.ChangeAt Go.RowKit Go.Joins Go.Deep
mutual
def JV.fits:JV→Prop
 | .mk _ _ t ns xs=>t.size≤maxLen∧ns.length≤maxLen∧xs.length≤maxLen∧(∀s ∈ ns,s.size≤maxLen)∧JV.fitsL xs
def JV.fitsL:List JV→Prop
 | []=>True
 | x :: r=>JV.fits x∧JV.fitsL r
end
section
variable {H:Type} {enc:TypeId × Value→H} {P:Program} {w:World} {base:Nat} {spare:Nat→Bool} {held:Bool}
end
theorem cA:Tryz.prog.cellsOf 9=1:=by kernel_rfl
abbrev Key2:=ByteArray × ByteArray
def zY (w:World) (lo hi:Nat) (a:Option Addr) (l:List Key2):Prop :=
 l=[]∨∃b off,a=some ⟨b,off,none⟩∧lo≤b∧b<hi∧∀i (h:i<l.length),w.cell? ⟨b,off+i * 2,none⟩=some (.string l[i].1)∧w.cell? ⟨b,off+i * 2+1,none⟩=some (.string l[i].2)
theorem zY.at {w:World} {lo hi:Nat} {a:Option Addr} {l:List Key2} (h:zY w lo hi a l) (i:Nat) (hi':i<l.length) :
 ∃b off,a=some ⟨b,off,none⟩∧lo≤b∧b<hi∧w.cell? ⟨b,off+i * 2,none⟩=some (.string l[i].1)∧w.cell? ⟨b,off+i * 2+1,none⟩=some (.string l[i].2):=by
 rcases h with h|⟨b,off,ha,hb,hb',hr⟩
 · rw [h] at hi';simp at hi'
 · exact ⟨b,off,ha,hb,hb',hr i hi'⟩
theorem zY.carry {w w':World} {lo hi lo' hi':Nat} {a:Option Addr} {l:List Key2} (h:zY w lo hi a l) (h1:lo'≤lo) (h2:hi≤hi') (hs:∀b,lo≤b→b<hi→w'.heap[b]?=w.heap[b]?):zY w' lo' hi' a l:=by
 rcases h with h|⟨b,off,ha,hb,hb',hr⟩
 · exact .inl h
 · refine .inr ⟨b,off,ha,by omega,by omega,fun i hi=>?_⟩
   have e:∀o,w'.cell? ⟨b,o,none⟩=w.cell? ⟨b,o,none⟩:=fun o=>World.cell?_of_block (w:=w) (w':=w') (hs b hb hb')
   rw [e,e];exact hr i hi
theorem zY.below {w w':World} {lo hi lo' hi' B:Nat} {a:Option Addr} {l:List Key2} (h:zY w lo hi a l) (hb:Below B w w') (hB:hi≤B) (h1:lo'≤lo) (h2:hi≤hi'):zY w' lo' hi' a l :=
 h.carry h1 h2 fun b _ hlt=>hb.block b (by omega)
end Go.Proofs.YtnlgmcapbbgelaaGreatDoor

namespace Go.Proofs.YtnlgmcapbbgelaaGreatDoor
open Go.RowKit
theorem qq {w:World} {p T j:Nat} {cs:Array Value} {u:Value} (hp:w.heap[p]?=some (.cells cs T (0,0))) (hj:cs[j]?=some u):w.cell? ⟨p,j,none⟩=some u:=by simp [World.cell?,hp,hj]
theorem qz {w:World} {p:Nat} {o:Obj} (h:w.heap[p]?=some o):p<w.heap.size:=(Array.getElem?_eq_some_iff.1 h).1
def xA (x:Int) (n:Nat):Int:=x % 2 ^ n * 2 ^ (32 - n)+x / 2 ^ n
def yB (a b:Int):Int:=bits .xor .u32 a b
def la (a b:Int):Int:=bits .and .u32 a b
def th (a:Int):Int:=bits .xor .u32 IntKind.u32.max a
def zT (a b:Int):Int:=(a+b) % 4294967296
def sg0 (x:Int):Int:=yB (yB (xA x 7) (xA x 18)) (x / 8)
def sg1 (x:Int):Int:=yB (yB (xA x 17) (xA x 19)) (x / 1024)
def bg0 (x:Int):Int:=yB (yB (xA x 2) (xA x 13)) (xA x 22)
def bg1 (x:Int):Int:=yB (yB (xA x 6) (xA x 11)) (xA x 25)
def chc (e f g:Int):Int:=yB (la e f) (la (th e) g)
def maj (a b c:Int):Int:=yB (yB (la a b) (la a c)) (la b c)
def be4 (p:Nat→Int) (i:Nat):Int:=p (4 * i) * 16777216+p (4 * i+1) * 65536+p (4 * i+2) * 256+p (4 * i+3)
def yO (p:Nat→Int):Nat→List Int
 | 0=>[]
 | n+1=>let l:=yO p n
  l ++ [if n<16 then be4 p n else zT (zT (zT (l.getD (n - 16) 0) (sg0 (l.getD (n - 15) 0))) (l.getD (n - 7) 0)) (sg1 (l.getD (n - 2) 0))]
def wrd (p:Nat→Int) (i:Nat):Int:=(yO p (i+1)).getD i 0
structure S8 where
 (a b c d e f g h:Int)
def S8.at (s:S8):Nat→Int
 | 0=>s.a|1=>s.b|2=>s.c|3=>s.d|4=>s.e|5=>s.f|6=>s.g|_=>s.h
def kays:List Int:=[0x428a2f98,0x71374491,0xb5c0fbcf,0xe9b5dba5,0x3956c25b,0x59f111f1,0x923f82a4,0xab1c5ed5,
 0xd807aa98,0x12835b01,0x243185be,0x550c7dc3,0x72be5d74,0x80deb1fe,0x9bdc06a7,0xc19bf174,
 0xe49b69c1,0xefbe4786,0x0fc19dc6,0x240ca1cc,0x2de92c6f,0x4a7484aa,0x5cb0a9dc,0x76f988da,
 0x983e5152,0xa831c66d,0xb00327c8,0xbf597fc7,0xc6e00bf3,0xd5a79147,0x06ca6351,0x14292967,
 0x27b70a85,0x2e1b2138,0x4d2c6dfc,0x53380d13,0x650a7354,0x766a0abb,0x81c2c92e,0x92722c85,
 0xa2bfe8a1,0xa81a664b,0xc24b8b70,0xc76c51a3,0xd192e819,0xd6990624,0xf40e3585,0x106aa070,
 0x19a4c116,0x1e376c08,0x2748774c,0x34b0bcb5,0x391c0cb3,0x4ed8aa4a,0x5b9cca4f,0x682e6ff3,
 0x748f82ee,0x78a5636f,0x84c87814,0x8cc70208,0x90befffa,0xa4506ceb,0xbef9a3f7,0xc67178f2]
def kay (i:Nat):Int:=kays.getD i 0
def vg:S8:=⟨0x6a09e667,0xbb67ae85,0x3c6ef372,0xa54ff53a,0x510e527f,0x9b05688c,0x1f83d9ab,0x5be0cd19⟩
def first (k x:Int) (s:S8):Int:=zT (zT (zT (zT s.h (bg1 s.e)) (chc s.e s.f s.g)) k) x
def rnd (k x:Int) (s:S8):S8:=⟨zT (zT (first k x s) (bg0 s.a)) (maj s.a s.b s.c),s.a,s.b,s.c,zT s.d (first k x s),s.e,s.f,s.g⟩
def vY (p:Nat→Int) (s:S8):Nat→S8
 | 0=>s
 | n+1=>rnd (kay n) (wrd p n) (vY p s n)
def S8.add (s t:S8):S8:=⟨zT s.a t.a,zT s.b t.b,zT s.c t.c,zT s.d t.d,zT s.e t.e,zT s.f t.f,zT s.g t.g,zT s.h t.h⟩
def vI (s:S8) (p:Nat→Int):S8:=s.add (vY p s 64)
theorem jF (p:Nat→Int):∀n,(yO p n).length=n
 | 0=>rfl
 | n+1=>by simp [yO,jF p n]
theorem jH (p:Nat→Int) (i:Nat):∀n,i<n→(yO p n).getD i 0=wrd p i
 | 0,h=>by omega
 | n+1,h=>by
  by_cases e:i=n
  · subst e;rfl
  · rw [← jH p i n (by omega)]
    simp only [yO,List.getD_eq_getElem?_getD]
    rw [List.getElem?_append_left (by rw [jF];omega)]
theorem lQ (p:Nat→Int) (n:Nat) (h:n<16):wrd p n=be4 p n:=by
 unfold wrd;simp only [yO,List.getD_eq_getElem?_getD]
 rw [List.getElem?_append_right (by rw [jF];omega),jF];simp [h]
theorem lZ (p:Nat→Int) (n:Nat) (h:16≤n):wrd p n=zT (zT (zT (wrd p (n - 16)) (sg0 (wrd p (n - 15)))) (wrd p (n - 7))) (sg1 (wrd p (n - 2))):=by
 conv=>lhs;unfold wrd
 simp only [yO,List.getD_eq_getElem?_getD]
 rw [List.getElem?_append_right (by rw [jF];omega),jF]
 simp only [Nat.sub_self,List.getElem?_cons_zero,Option.getD_some,if_neg (show ¬n<16 by omega)]
 simp only [← List.getD_eq_getElem?_getD]
 rw [jH p (n - 16) n (by omega),jH p (n - 15) n (by omega),jH p (n - 7) n (by omega),jH p (n - 2) n (by omega)]
theorem xh (a b:Int):0≤zT a b∧zT a b<4294967296:=by unfold zT;omega
def w32 (x:Int):Prop:=0≤x∧x<4294967296
theorem sX (a b c d:Int) (ha:0≤a∧a≤255) (hb:0≤b∧b≤255) (hc:0≤c∧c≤255) (hd:0≤d∧d≤255) :
 bits .or .u32 (bits .or .u32 (bits .or .u32 (a % 4294967296 * 16777216 % 4294967296) (b % 4294967296 * 65536 % 4294967296)) (c % 4294967296 * 256 % 4294967296)) (d % 4294967296) =
  a * 16777216+b * 65536+c * 256+d:=by
 obtain ⟨a,rfl⟩:=Int.eq_ofNat_of_zero_le ha.1
 obtain ⟨b,rfl⟩:=Int.eq_ofNat_of_zero_le hb.1
 obtain ⟨c,rfl⟩:=Int.eq_ofNat_of_zero_le hc.1
 obtain ⟨d,rfl⟩:=Int.eq_ofNat_of_zero_le hd.1
 have e1:((a:Int) % 4294967296 * 16777216 % 4294967296)=((a * 16777216:Nat):Int):=by omega
 have e2:((b:Int) % 4294967296 * 65536 % 4294967296)=((b * 65536:Nat):Int):=by omega
 have e3:((c:Int) % 4294967296 * 256 % 4294967296)=((c * 256:Nat):Int):=by omega
 have e4:((d:Int) % 4294967296)=((d:Nat):Int):=by omega
 rw [e1,e2,e3,e4,u32_or_nat _ _ (by omega) (by omega),nat_join 24 _ _ (by omega) (by omega),u32_or_nat _ _ (by omega) (by omega),nat_join 16 _ _ (by omega) (by omega),u32_or_nat _ _ (by omega) (by omega),nat_join 8 _ _ (by omega) (by omega)]
 omega
theorem cx (p:Nat→Int) (hp:∀i,i<64→0≤p i∧p i≤255) (i:Nat):w32 (wrd p i):=by
 by_cases h:i<16
 · rw [lQ p i h];unfold be4 w32
   have:=hp (4 * i) (by omega);have:=hp (4 * i+1) (by omega);have:=hp (4 * i+2) (by omega);have:=hp (4 * i+3) (by omega);omega
 · rw [lZ p i (by omega)];exact xh _ _
def S8.ok (s:S8):Prop:=w32 s.a∧w32 s.b∧w32 s.c∧w32 s.d∧w32 s.e∧w32 s.f∧w32 s.g∧w32 s.h
theorem sJ {k x:Int} {s:S8} (h:s.ok):(rnd k x s).ok:=by
 obtain ⟨ha,hb,hc,hd,he,hf,hg,hh⟩:=h
 exact ⟨xh _ _,ha,hb,hc,xh _ _,he,hf,hg⟩
theorem cj (p:Nat→Int) {s:S8} (h:s.ok):∀n,(vY p s n).ok
 | 0=>h
 | n+1=>sJ (cj p h n)
theorem sK (s t:S8):(s.add t).ok:=⟨xh _ _,xh _ _,xh _ _,xh _ _,xh _ _,xh _ _,xh _ _,xh _ _⟩
theorem lX:vg.ok:=by unfold S8.ok vg w32;simp
theorem lJ (s:S8) (p:Nat→Int):(vI s p).ok:=sK _ _
theorem aK (k x:Int) (s:S8):(s.h+bg1 s.e+chc s.e s.f s.g+k+x+bg0 s.a+maj s.a s.b s.c) % 4294967296=(rnd k x s).a:=by
 show _=zT (zT (first k x s) (bg0 s.a)) (maj s.a s.b s.c)
 unfold first zT;omega
theorem aV (k x:Int) (s:S8):(s.d+(s.h+bg1 s.e+chc s.e s.f s.g+k+x)) % 4294967296=(rnd k x s).e:=by
 show _=zT s.d (first k x s)
 unfold first zT;omega
theorem sV (s t:S8) (j:Nat):(s.add t).at j=zT (s.at j) (t.at j):=by
 rcases j with _|_|_|_|_|_|_|j <;> rfl
def jv (l:List UInt8) (i:Nat):Int:=((l.getD i 0).toNat:Int)
def xL (l:List UInt8):Nat→S8
 | 0=>vg
 | n+1=>vI (xL l n) (fun j=>jv l (64 * n+j))
theorem fA (l:List UInt8):∀n,(xL l n).ok
 | 0=>lX
 | _+1=>lJ _ _
theorem lK (l:List UInt8) (i:Nat):0≤jv l i∧jv l i≤255:=by
 unfold jv;have:=(l.getD i 0).toNat_lt;omega
theorem yE {p q:Nat→Int} (h:∀j,j<64→p j=q j):∀n,yO p n=yO q n
 | 0=>rfl
 | n+1=>by
  simp only [yO,yE h n]
  by_cases hn:n<16
  · simp only [if_pos hn];unfold be4;rw [h _ (by omega),h _ (by omega),h _ (by omega),h _ (by omega)]
  · simp only [if_neg hn]
theorem y9 {p q:Nat→Int} (h:∀j,j<64→p j=q j) (s:S8):∀n,vY p s n=vY q s n
 | 0=>rfl
 | n+1=>by simp only [vY,y9 h s n,wrd,yE h (n+1)]
theorem yc {p q:Nat→Int} (h:∀j,j<64→p j=q j) (s:S8):vI s p=vI s q:=by
 unfold vI;rw [y9 h]
theorem yd {l m:List UInt8}:∀n,(∀i,i<64 * n→jv l i=jv m i)→xL l n=xL m n
 | 0,_=>rfl
 | n+1,h=>by
  simp only [xL]
  rw [yd n fun i hi=>h i (by omega)]
  exact yc (fun j hj=>h _ (by omega)) _
def be8 (n:Nat) (j:Nat):Int:=(n:Int) / 2 ^ (56 - 8 * j) % 256
def u8 (i:Int):UInt8:=UInt8.ofNat i.toNat
theorem kX {i:Int} (h:0≤i) (h':i<256):((u8 i).toNat:Int)=i:=by
 unfold u8;rw [UInt8.toNat_ofNat'];omega
def wP (n:Nat):List UInt8:=(List.range 8).map fun j=>u8 (be8 n j)
theorem lV (n j:Nat):0≤be8 n j∧be8 n j<256:=by unfold be8;omega
theorem lW (n j:Nat) (hj:j<(wP n).length):((wP n)[j].toNat:Int)=be8 n j:=by
 simp only [wP,List.getElem_map,List.getElem_range];exact kX (lV n j).1 (lV n j).2
def wF (x:Int):List UInt8:=[u8 (x / 16777216 % 256),u8 (x / 65536 % 256),u8 (x / 256 % 256),u8 (x % 256)]
def bS (s:S8):Nat→List UInt8
 | 0=>[]
 | k+1=>bS s k ++ wF (s.at k)
def wH (l:List UInt8):List UInt8:=l ++ (128 :: List.replicate ((119 - l.length % 64) % 64) 0) ++ wP (l.length * 8)
def vG (l:List UInt8):List UInt8:=bS (xL (wH l) ((wH l).length / 64)) 8
theorem yl (s:S8):∀k,(bS s k).length=4 * k
 | 0=>rfl
 | k+1=>by simp [bS,yl s k,wF];omega
theorem vp (l:List UInt8):(vG l).length=32:=yl _ 8
theorem bI (l:List UInt8):(wH l).length=l.length+9+(119 - l.length % 64) % 64:=by
 unfold wH wP;simp;omega
theorem yr:∃j,Tryz.prog.info? 160=some j∧j.size=2:=by
 have h:(Tryz.prog.info? 160).map (·.size)=some 2:=by kernel_rfl
 obtain ⟨j,h1,h2⟩:=Option.map_eq_some_iff.1 h
 exact ⟨j,h1,h2⟩
theorem liesBuilder:liesAt Tryz.prog Tryz.prog.depth 160 (2 / Tryz.prog.cellsOf 160) 0 160 1=true:=by kernel_rfl
theorem infoByte:(Tryz.prog.info? 5).map (fun i=>(i.zero,i.size,i.bytes))=some (some (.int .u8 0),1,1):=by kernel_rfl
theorem cellsByte:Tryz.prog.cellsOf 5=1:=by kernel_rfl
abbrev vB (B b:Nat) (bs:List Value) (w:World):Prop:=Lib.IsBuilderF 160 5 B b bs w
abbrev fg (B b:Nat) (bs:List Value) (w:World):Prop:=Lib.BuilderAtF 160 5 B b (.pointer (some ⟨b,0,none⟩)) bs w
abbrev Kept (b:Nat) (w w':World):Prop:=Lib.OthersKept 5 (some b) w w'
set_option maxHeartbeats 400000 in
set_option maxRecDepth 100000 in
theorem gq (b:Nat) (w:World) (h0:w.cell? ⟨b,0,none⟩=some (.pointer (some ⟨b,0,none⟩))) :
 Calls Tryz.prog 166 #[.pointer (some ⟨b,0,none⟩)] w fun e w'=>e=.returned (.tuple #[])∧w'=w:=by
 obtain ⟨j,hj,_⟩:=yr
 go_enter Tryz.func166,Tryz.ntmps166
 go_wp2
 rw [Lib.run_neq_ptr_same w _ Tryz.underlying158 hj]
 go_wp2
 go_end0
 exact ⟨rfl,rfl⟩
set_option maxHeartbeats 400000 in
set_option maxRecDepth 100000 in
theorem yP (b:Nat) (w:World) (h0:w.cell? ⟨b,0,none⟩=some (.pointer none)) (hsh:w.shape? b=some (160,2)) (hfz:w.frozen? ⟨b,0,none⟩=false) :
 Calls Tryz.prog 166 #[.pointer (some ⟨b,0,none⟩)] w fun e w'=>e=.returned (.tuple #[])∧w'=w.setCell ⟨b,0,none⟩ (.pointer (some ⟨b,0,none⟩)):=by
 obtain ⟨j,hj,hjs⟩:=yr
 go_enter Tryz.func166,Tryz.ntmps166
 go_wp2
 rw [Lib.run_to_unsafe w ⟨b,0,none⟩ Tryz.underlying158 Tryz.underlying213 hj (by rw [hjs];decide) hsh (Nat.zero_lt_succ 1)]
 simp only [Result.andThen]
 rw [Oper.upon_value]
 go_wp2
 rw [run_callFunc_extern Tryz.func202 (by kernel_rfl) (by kernel_rfl) (by kernel_rfl) (e:=Extern.AbiNoEscape.same) (by kernel_rfl)]
 rw [Lib.run_noEscape]
 simp only [Result.andThen]
 rw [Oper.upon_value]
 go_wp2
 rw [Lib.run_from_unsafe w ⟨b,0,none⟩ Tryz.underlying213 Tryz.underlying158 hj hsh liesBuilder]
 simp only [Result.andThen]
 rw [Oper.upon_value]
 go_wp2
 go_end0
 exact ⟨rfl,rfl⟩
theorem pu (B b:Nat) (bs:List Value) (w:World) (h:vB B b bs w) :
 Calls Tryz.prog 166 #[.pointer (some ⟨b,0,none⟩)] w fun e w'=>e=.returned (.tuple #[])∧(fg B b bs w'∧Below B w w'∧Kept b w w'):=by
 rcases h with h|h
 · refine (yP b w h.cell0 h.shape h.frozen0).mono ?_
   rintro e w' ⟨rfl,rfl⟩
   exact ⟨rfl,h.used _,(Below.refl B w).setCell (p:=⟨b,0,none⟩) h.1 _,(Lib.OthersKept.refl _ _ w).setCell ⟨b,0,none⟩ rfl _⟩
 · refine (gq b w h.cell0).mono ?_
   rintro e w' ⟨rfl,rfl⟩
   exact ⟨rfl,h,Below.refl B _,Lib.OthersKept.refl _ _ _⟩
set_option maxHeartbeats 400000 in
set_option maxRecDepth 100000 in
theorem zf (B b:Nat) (bs:List Value) (c:Int) (w:World) (h:vB B b bs w) (hlen:bs.length+1≤140737488355328) (hBw:B≤w.heap.size) :
 Calls Tryz.prog 141 #[.pointer (some ⟨b,0,none⟩),.int .u8 c] w fun e w'=>e=.returned .nilIface∧(fg B b (bs ++ [.int .u8 c]) w'∧Below B w w'∧Kept b w w'):=by
 obtain ⟨i0,hi,hz0,hz1,hz2⟩:=info_parts infoByte
 go_enter Tryz.func141,Tryz.ntmps141
 go_wp2_with (go_at_call 166;refine (pu B b bs _ h).mono ?_)
 rintro e w1 ⟨rfl,h1,hb1,hk1⟩
 obtain ⟨hB,v,hbk,hown,hne⟩:=h1
 have c0:w1.cell? ⟨b,0,none⟩=some (.pointer (some ⟨b,0,none⟩)):=by rw [Lib.cell_of_heap hbk];rfl
 have c1:w1.cell? ⟨b,1,none⟩=some v:=by rw [Lib.cell_of_heap hbk];rfl
 go_wp2_with (at_builtin;refine wpList_append_ownF _ rfl _ _ 99 rfl B 5 i0 (.int .u8 0) 1 1 Tryz.underlying99 hi hz0 hz1 hz2 rfl (by decide) _ _ _ rfl (hown.alloc _) ⟨w1.heap.size,0,none⟩ 1 1 [.int .u8 c] rfl rfl ?c1 ?c2 ?c3 ?c4 ?c5 ?_)
 case c1 =>
  intro j u hj
  match j,hj with
  | 0,hj=>simp at hj;subst hj;simp [Addr.add]
 case c2=>intro u hu;simp at hu;subst hu;rfl
 case c3=>unfold maxLen;omega
 case c4=>omega
 case c5=>have:=hb1.size;simp;omega
 intro v' w2 hown' hgrow _
 have hlt:b<w1.heap.size:=by
  rcases Nat.lt_or_ge b w1.heap.size with h'|h'
  · exact h'
  · simp [Array.getElem?_eq_none h'] at hbk
 have hb2:w2.heap[b]?=some (.cells #[.pointer (some ⟨b,0,none⟩),v] 160 (0,0)):=by
  rw [hgrow.block b (by simp;omega) (fun e=>hne e.symm),Lib.alloc_old w1 _ b hlt]
  exact hbk
 have d0:w2.cell? ⟨b,0,none⟩=some (.pointer (some ⟨b,0,none⟩)):=by rw [Lib.cell_of_heap hb2];rfl
 have d1:w2.cell? ⟨b,1,none⟩=some v:=by rw [Lib.cell_of_heap hb2];rfl
 have f1:w2.frozen? ⟨b,1,none⟩=false:=Lib.frozen_of_heap hb2 1
 obtain ⟨g,cap,rfl⟩:∃g cap,v'=.slice (some ⟨g,0,none⟩) (bs.length+1) cap:=by
  rcases hown'.2 with ⟨_,h0⟩|⟨g,cap,cur,fz,hv,_⟩
  · omega
  · exact ⟨g,cap,hv⟩
 go_wp2
 go_ret
 refine ⟨rfl,?_,?_,((hk1.alloc _).grown hgrow (Lib.ownsRowF_kind (hown.alloc _))).setCell ⟨b,1,none⟩ rfl _⟩
 · exact Lib.BuilderAtF.put (T:=160) (e:=5) hB hb2 (bs':=bs ++ [.int .u8 c]) (by simpa using hown') (by decide)
 · exact ((hb1.alloc (by have:=hb1.size;omega) _).grown hgrow (by have:=hb1.size;simp;omega) (fun k hk=>(hown.lt k hk).1)).setCell (p:=⟨b,1,none⟩) hB _
set_option maxHeartbeats 400000 in
set_option maxRecDepth 100000 in
theorem ji (B b:Nat) (bs:List Value) (s:ByteArray) (w:World) (h:vB B b bs w) (hlen:bs.length+s.size≤140737488355328) (hBw:B≤w.heap.size) :
 Calls Tryz.prog 138 #[.pointer (some ⟨b,0,none⟩),.string s] w fun e w'=>e=.returned (.tuple #[.int .i64 s.size,.nilIface])∧(fg B b (bs ++ Lib.strCells s) w'∧Below B w w'∧Kept b w w'):=by
 obtain ⟨i0,hi,hz0,hz1,hz2⟩:=info_parts infoByte
 go_enter Tryz.func138,Tryz.ntmps138
 go_wp2_with (go_at_call 166;refine (pu B b bs _ h).mono ?_)
 rintro e w1 ⟨rfl,h1,hb1,hk1⟩
 obtain ⟨hB,v,hbk,hown,hne⟩:=h1
 have c0:w1.cell? ⟨b,0,none⟩=some (.pointer (some ⟨b,0,none⟩)):=by rw [Lib.cell_of_heap hbk];rfl
 have c1:w1.cell? ⟨b,1,none⟩=some v:=by rw [Lib.cell_of_heap hbk];rfl
 go_wp2_with (at_builtin;refine Lib.wpList_append_own_stringF _ rfl _ _ 99 9 rfl B 5 i0 Tryz.underlying99 Tryz.underlying9 hi hz0 hz1 hz2 _ _ _ rfl hown s rfl ?c3 ?c4 ?c5 ?_)
 case c3=>unfold maxLen;omega
 case c4=>omega
 case c5=>have:=hb1.size;omega
 intro v' w2 hown' hgrow _
 have hlt:b<w1.heap.size:=by
  rcases Nat.lt_or_ge b w1.heap.size with h'|h'
  · exact h'
  · simp [Array.getElem?_eq_none h'] at hbk
 have hb2:w2.heap[b]?=some (.cells #[.pointer (some ⟨b,0,none⟩),v] 160 (0,0)):=by
  rw [hgrow.block b hlt (fun e=>hne e.symm)]
  exact hbk
 have d0:w2.cell? ⟨b,0,none⟩=some (.pointer (some ⟨b,0,none⟩)):=by rw [Lib.cell_of_heap hb2];rfl
 have d1:w2.cell? ⟨b,1,none⟩=some v:=by rw [Lib.cell_of_heap hb2];rfl
 have f1:w2.frozen? ⟨b,1,none⟩=false:=Lib.frozen_of_heap hb2 1
 obtain ⟨ao,n',cap,rfl⟩:∃ao n' cap,v'=.slice ao n' cap:=by
  rcases hown'.2 with ⟨hv,_⟩|⟨g,cap,cur,fz,hv,_⟩
  · exact ⟨_,_,_,hv⟩
  · exact ⟨_,_,_,hv⟩
 go_wp2
 go_ret2
 refine ⟨rfl,?_,?_,(hk1.grown hgrow (Lib.ownsRowF_kind hown)).setCell ⟨b,1,none⟩ rfl _⟩
 · exact Lib.BuilderAtF.put (T:=160) (e:=5) hB hb2 (bs':=bs ++ Lib.strCells s) (by simpa [Lib.strCells_length] using hown') (by decide)
 · exact (hb1.grown hgrow (by have:=hb1.size;omega) (fun k hk=>(hown.lt k hk).1)).setCell (p:=⟨b,1,none⟩) hB _
set_option maxHeartbeats 400000 in
set_option maxRecDepth 100000 in
theorem vf (B b:Nat) (l:List UInt8) (w:World) (h:vB B b (Lib.byteCells l) w) (h0:l≠[]) :
 Calls Tryz.prog 142 #[.pointer (some ⟨b,0,none⟩)] w fun e w'=>e=.returned (.string ⟨l.toArray⟩)∧Below B w w'∧Kept b w w':=by
 obtain ⟨p,hAt⟩:∃p,Lib.BuilderAtF 160 5 B b p (Lib.byteCells l) w:=by
  rcases h with h|h
  · exact ⟨_,h⟩
  · exact ⟨_,h⟩
 obtain ⟨hB,v,hbk,hown,hne⟩:=hAt
 have hl0:l.length≠0:=by simpa using h0
 rw [Lib.byteCells_length] at hown
 obtain ⟨g,cap,cur,fz,rfl,hbg,hg,hfz,hnc,hcm,hcs,htake⟩:∃g cap cur fz,v=.slice (some ⟨g,0,none⟩) l.length cap∧B≤g∧w.heap[g]?=some (.cells cur 5 fz)∧fz.2≤l.length * 1∧l.length≤cap∧cap≤maxLen∧cur.size=cap * 1∧cur.toList.take (l.length * 1)=Lib.byteCells l:=by
  rcases hown.2 with ⟨_,hz⟩|⟨g,cap,cur,fz,hv,r⟩
  · exact absurd hz hl0
  · exact ⟨g,cap,cur,fz,hv,r⟩
 have c1:w.drew.cell? ⟨b,1,none⟩=some (.slice (some ⟨g,0,none⟩) l.length cap):=by
  have:w.drew.heap[b]?=some (.cells #[p,.slice (some ⟨g,0,none⟩) l.length cap] 160 (0,0)):=hbk
  rw [Lib.cell_of_heap this];rfl
 have hSD:(Builtin.unsafeSliceData_ #[99] 183 #[.slice (some ⟨g,0,none⟩) l.length cap]).run Tryz.prog w.drew=.ok (.pointer (some ⟨g,0,none⟩)) w.drew :=
  Lib.run_unsafeSliceData_row _ _ _ _ _ _ (by omega)
 have hUS:(Builtin.unsafeString_ #[183,3] 9 #[.pointer (some ⟨g,0,none⟩),.int .i64 l.length]).run Tryz.prog w.drew=.ok (.string ⟨l.toArray⟩) (w.drew.freeze ⟨g,0,none⟩ l.length):=by
  refine Lib.run_unsafeString_row w.drew 183 3 9 5 Tryz.underlying183 cellsByte g cur.size (by have hg':w.drew.heap[g]?=some (.cells cur 5 fz):=hg;simp [World.shape?,hg']) l h0 (by omega) (by unfold maxLen at hcm;omega) ?_
  intro j x hx
  have:=hown.cells (g:=g) rfl j (.int .u8 x.toNat) (by simp [Lib.byteCells,hx])
  exact this
 have HX:=Lh (show Below B w (w.drew.freeze ⟨g,0,none⟩ l.length)∧Kept b w (w.drew.freeze ⟨g,0,none⟩ l.length) from ⟨Lib.below_freeze (Below.drew (Below.refl B w)) (p:=⟨g,0,none⟩) hbg _,((Lib.OthersKept.refl _ _ w).drew).freeze ⟨g,0,none⟩ _ ⟨cur,fz,hg⟩⟩)
 clear hown hbk hne hg htake hcs hfz
 go_enter Tryz.func142,Tryz.ntmps142
 go_wp2
 go_region
 all_goals (go_wp2;go_ret;exact ⟨rfl,HX.out⟩)
section
variable {P:Program}
theorem jw {S:Nat→Prop} {b:Nat} {a:World} (hb:S b∨a.heap.size≤b):∀(vs:List Value) (o:Nat) (w:World),Touch S a w→Touch S a (w.setCells b o vs)
 | [],_,_,h=>h
 | v :: r,o,_,h=>jw hb r (o+1) _ (h.setCell hb v)
theorem fp (w:World) (dT sT ty elem:TypeId) (b o dLen dCap:Nat) (s:ByteArray)
 (hu:P.underlying dT=some (.slice elem)) (hz:∀w,(Go.sizeOf elem).run P w=.ok 1 w)
 (hc:∀j,j<Nat.min s.size dLen→(w.cell? ⟨b,o+j,none⟩).isSome=true) (hf:∀j,j<Nat.min s.size dLen→w.frozen? ⟨b,o+j,none⟩=false) :
 (Builtin.copy_ #[dT,sT] ty #[.slice (some ⟨b,o,none⟩) dLen dCap,.string s]).run P w=.ok (goInt (Nat.min s.size dLen)) (w.setCells b o ((s.data.toList.map fun x=>Value.int .u8 (x.toNat:Int)).take (Nat.min s.size dLen))):=by
 have hl:((s.data.toList.map fun x=>Value.int .u8 (x.toNat:Int)).take (Nat.min s.size dLen)).length=Nat.min s.size dLen:=by
  rw [List.length_take,List.length_map,qp];exact Nat.min_eq_left (Nat.min_le_left _ _)
 have hst:=run_storeCells_cells (P:=P) b o ((s.data.toList.map fun x=>Value.int .u8 (x.toNat:Int)).take (Nat.min s.size dLen)) 0 w (by rw [hl];simpa using hc) (by rw [hl];simpa using hf) (by
  intro v hv
  obtain ⟨x,_,rfl⟩:=List.mem_map.1 (List.mem_of_mem_take hv)
  rfl)
 simp [Builtin.copy_,run_underlying hu,Builtin.lenOf,Builtin.firstCells,hz]
 rw [hst]
 rfl
def cv (s:ByteArray) (i:Nat):Int:=((s.data.toList.getD i 0).toNat:Int)
theorem yF {w:World} {ops:Array Oper} {rest:List Oper} {o:Oper} {a:Act} {Q:Exit→Act→World→Prop} (hgd:o.guard=none) (d x:Operand) (dT sT:TypeId)
 (ho:o.op=.call { callee:=.builtin .copy,args:=#[d,x],argTypes:=#[dT,sT] }) (elem:TypeId) (hu:P.underlying dT=some (.slice elem)) (hz:∀w,(Go.sizeOf elem).run P w=.ok 1 w)
 (b off dLen dCap:Nat) (s:ByteArray) (hd:a.eval d=.slice (some ⟨b,off,none⟩) dLen dCap) (hs:a.eval x=.string s)
 (t N:Nat) (f:Nat→Value) (hr:w.rowIs b t N f) (n:Nat) (hn:n=Nat.min s.size dLen) (hfit:off+n≤N)
 (h:∀w',Hid (w'.rowIs b t N (fun j=>if off≤j∧j<off+n then .int .u8 (cv s (j - off)) else f j))→Hid (Touch (· = b) w w')→wpList P ops Q rest (a.put o.dst (goInt n)) w') :
 wpList P ops Q (o :: rest) a w:=by
 refine wpList_plain hgd fun K hK=>?_
 have hrun:=fp (P:=P) w dT sT o.type elem b off dLen dCap s hu hz (fun j hj=>by rw [hr.cell (by omega)];rfl) (fun j hj=>hr.frozen _)
 rw [← hn] at hrun
 unfold Oper.wp
 simp [execOp,ho,resolve,invoke,builtin,hd,hs,hrun,Result.andThen]
 refine hK _ _ (h _ ?_ (jw (S:=(· = b)) (b:=b) (a:=w) (.inl rfl) _ _ _ (Touch.refl _ _)))
 have hl:((s.data.toList.map fun x=>Value.int .u8 (x.toNat:Int)).take n).length=n:=by
  rw [List.length_take,List.length_map,qp,hn];exact Nat.min_eq_left (Nat.min_le_left _ _)
 refine (rowIs_setCells _ off w f hr).congr fun j hj=>?_
 rw [hl]
 by_cases e:off≤j∧j<off+n
 · rw [if_pos e,if_pos e,List.getElem?_take_of_lt (by omega),List.getElem?_map];unfold cv;rw [List.getD_eq_getElem?_getD]
   have:j - off<s.data.toList.length:=by rw [qp];have:n≤s.size:=hn ▸ Nat.min_le_left _ _;omega
   rw [List.getElem?_eq_getElem this];rfl
 · rw [if_neg e,if_neg e]
theorem lY {n:Nat} {f:Nat→Value} (h:∀i,i<n→(f i).oneCell'=true) (c:Array Value) (hc:c.size=n) (hf:∀i,i<n→c[i]?=some (f i)):∀v ∈ c.toList,v.oneCell'=true:=by
 intro v hv
 obtain ⟨i,hi,rfl⟩:=List.getElem_of_mem hv
 have hi':i<n:=by simpa [hc] using hi
 have:=hf i hi'
 rw [Array.getElem?_eq_getElem (by omega)] at this
 have e:c.toList[i]=f i:=by simpa using Option.some.inj this
 rw [e];exact h i hi'
theorem wpList_store_row {w:World} {ops:Array Oper} {rest:List Oper} {o:Oper} {a:Act} {Q:Exit→Act→World→Prop} (hgd:o.guard=none) (ty:TypeId) (x y:Operand)
 (ho:o.op=.store ty x y) (g t n:Nat) (f f':Nat→Value) (hx:a.eval x=.pointer (some ⟨g,0,none⟩)) (hr:w.rowIs g t n f) (cs:Array Value) (hy:a.eval y=.agg cs) (hcs:cs.size=n) (hcf:∀i,i<n→cs[i]?=some (f' i))
 (h1:∀i,i<n→(f' i).oneCell'=true) (hi:∀w,(Go.sizeOf ty).run P w=.ok n w)
 (h:∀w',Hid (w'.rowIs g t n f')→Hid (Touch (· = g) w w')→wpList P ops Q rest (a.put o.dst undef) w'):wpList P ops Q (o :: rest) a w:=by
 refine wpList_plain hgd fun K hK=>?_
 have hst:=run_storeCells_cells (P:=P) g 0 cs.toList 0 w (fun j hj=>by simp at hj;rw [hr.cell (i:=0+0+j) (by omega)];rfl) (fun j _=>hr.frozen _) (lY h1 cs hcs hcf)
 unfold Oper.wp execOp
 simp only [ho,hx,hy,Instr.storeAt,Instr.sureAddr,Sem.run_bind,Sem.run_pure,Result.andThen_ok,storeVar,Value.cells,hi]
 simp [hcs,hst,Oper.upon]
 refine hK _ _ (h _ ?_ (jw (S:=(· = g)) (b:=g) (a:=w) (.inl rfl) _ _ _ (Touch.refl _ _)))
 refine (rowIs_setCells _ 0 w f hr).congr fun j hj=>?_
 rw [if_pos (by simp;omega)]
 have:=hcf j hj
 simp at this ⊢
 rw [this];rfl
theorem vO {w:World} {ops:Array Oper} {rest:List Oper} {o:Oper} {a:Act} {Q:Exit→Act→World→Prop} (hgd:o.guard=none) (ty:TypeId) (x:Operand) (ho:o.op=.load ty x)
 (g t n:Nat) (f:Nat→Value) (hx:a.eval x=.pointer (some ⟨g,0,none⟩)) (hr:w.rowIs g t n f) (d:TypeDesc)
 (hu:P.underlying ty=some d) (hd:(match d with | .struct _ | .array _ _=>true|_=>false)=true) (hi:(P.info? ty).map (·.size)=some n)
 (h:∀cs:Array Value,Hid (cs.size=n)→Hid (∀i,i<n→cs[i]?=some (f i))→wpList P ops Q rest (a.put o.dst (.agg cs)) w):wpList P ops Q (o :: rest) a w:=by
 obtain ⟨c,hc,hn,hf⟩:=hr
 exact wpList_load_row hgd ty x ho g hx t c (0,0) d hc hu hd (by rw [hn];exact hi) (h c hn hf)
theorem gz {T N E:Nat} (hT:P.underlying T=some (.array N E)) (hz:∀w,(Go.sizeOf E).run P w=.ok 1 w) (b o u:Nat) (hu:u<N) (w:World) :
 (Instr.sliceAt T (.pointer (some ⟨b,o,none⟩)) (some (.int .i64 (u:Int))) none none).run P w=.ok (.slice (some ⟨b,o+u,none⟩) (N - u) (N - u)) w:=by
 have h1:(0:Int)≤u∧(u:Int)≤N:=by omega
 have hadd:(⟨b,o,none⟩:Addr).add u=⟨b,o+u,none⟩:=by unfold Addr.add;split <;> simp_all
 simp [Instr.sliceAt,run_underlying hT,Instr.sureAddr,Instr.sliceBounds,Instr.sliceBound,asIntOf,hz,show u≤N by omega]
 rw [if_neg (by omega),hadd]
theorem xu {w:World} {base:Nat} {v:Value} {n:Nat} {l:List UInt8} (src dst e:TypeId) (hs:P.underlying src=some (.slice e)) (he:P.underlying e=some (.int .u8)) (hd:P.underlying dst=some .string)
 (h:w.ownsRow base e 1 v n (Lib.byteCells l)):(convert src dst v).run P w=.ok (.string ⟨l.toArray⟩) w:=by
 have hn:l.length=n:=by have:=h.1;simpa [Lib.byteCells] using this
 rcases h.2 with ⟨rfl,h0⟩|⟨g,cap,cur,rfl,hg⟩
 · have:l=[]:=List.eq_nil_of_length_eq_zero (by omega)
   subst this
   exact Lib.run_convert_nil_bytes w src dst e 0 hs he hd
 · subst hn
   refine run_convert_bytes_back w src dst e ⟨g,0,none⟩ cap l hs he hd fun j hj=>?_
   refine h.cells rfl j _ ?_
   simp [Lib.byteCells,List.getElem?_eq_getElem hj]
end
end Go.Proofs.YtnlgmcapbbgelaaGreatDoor
