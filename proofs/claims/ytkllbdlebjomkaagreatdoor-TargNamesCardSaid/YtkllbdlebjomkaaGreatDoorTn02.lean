import Derived.Laws.BitsAllLaws
import Derived.Lib.Builder
import Derived.Lib.AppendStr
import Derived.Lib.UnsafeStr
import Derived.Lib.FrozenHead2
import Derived.Lib.OthersKept
import Derived.Laws.Externs
import Derived.Lib.LazyBuf
import Derived.Laws.Rows
import Derived.Laws.IdiomStrings
import Derived.Laws.BytesArg
import Derived.Lib.BufferRead
import Derived.Test.YtkllbdlebjomkaaGreatDoorTn01
import Derived.Deep.Cut
import Derived.Laws.AppendOwnNone
set_option maxHeartbeats 400000
set_option maxRecDepth 100000

namespace Go.Proofs.YtkllbdlebjomkaaGreatDoor
open Go.RowKit
def jO (x:Int) (n:Nat):Int:=x % 2 ^ n * 2 ^ (32 - n)+x / 2 ^ n
def py (a b:Int):Int:=bits .xor .u32 a b
def aE (a b:Int):Int:=bits .and .u32 a b
def Zn (a:Int):Int:=bits .xor .u32 IntKind.u32.max a
def xK (a b:Int):Int:=(a+b) % 4294967296
def sg0 (x:Int):Int:=py (py (jO x 7) (jO x 18)) (x / 8)
def sg1 (x:Int):Int:=py (py (jO x 17) (jO x 19)) (x / 1024)
def bg0 (x:Int):Int:=py (py (jO x 2) (jO x 13)) (jO x 22)
def bg1 (x:Int):Int:=py (py (jO x 6) (jO x 11)) (jO x 25)
def chc (e f g:Int):Int:=py (aE e f) (aE (Zn e) g)
def maj (a b c:Int):Int:=py (py (aE a b) (aE a c)) (aE b c)
def be4 (p:Nat->Int) (i:Nat):Int:=p (4 * i) * 16777216+p (4 * i+1) * 65536+p (4 * i+2) * 256+p (4 * i+3)
def pV (p:Nat->Int):Nat->List Int
 | 0=>[]
 | n+1=>let l:=pV p n
  l ++ [if n<16 then be4 p n else xK (xK (xK (l.getD (n - 16) 0) (sg0 (l.getD (n - 15) 0))) (l.getD (n - 7) 0)) (sg1 (l.getD (n - 2) 0))]
def wrd (p:Nat->Int) (i:Nat):Int:=(pV p (i+1)).getD i 0
structure S8 where
 (a b c d e f g h:Int)
def S8.at (s:S8):Nat->Int
 | 0=>s.a|1=>s.b|2=>s.c|3=>s.d|4=>s.e|5=>s.f|6=>s.g|_=>s.h
def kays:List Int:=[0x428a2f98,0x71374491,0xb5c0fbcf,0xe9b5dba5,0x3956c25b,0x59f111f1,0x923f82a4,0xab1c5ed5,
 0xd807aa98,0x12835b01,0x243185be,0x550c7dc3,0x72be5d74,0x80deb1fe,0x9bdc06a7,0xc19bf174,
 0xe49b69c1,0xefbe4786,0x0fc19dc6,0x240ca1cc,0x2de92c6f,0x4a7484aa,0x5cb0a9dc,0x76f988da,
 0x983e5152,0xa831c66d,0xb00327c8,0xbf597fc7,0xc6e00bf3,0xd5a79147,0x06ca6351,0x14292967,
 0x27b70a85,0x2e1b2138,0x4d2c6dfc,0x53380d13,0x650a7354,0x766a0abb,0x81c2c92e,0x92722c85,
 0xa2bfe8a1,0xa81a664b,0xc24b8b70,0xc76c51a3,0xd192e819,0xd6990624,0xf40e3585,0x106aa070,
 0x19a4c116,0x1e376c08,0x2748774c,0x34b0bcb5,0x391c0cb3,0x4ed8aa4a,0x5b9cca4f,0x682e6ff3,
 0x748f82ee,0x78a5636f,0x84c87814,0x8cc70208,0x90befffa,0xa4506ceb,0xbef9a3f7,0xc67178f2]
def kay (i:Nat):Int:=kays.getD i 0
def yr:S8:=⟨0x6a09e667,0xbb67ae85,0x3c6ef372,0xa54ff53a,0x510e527f,0x9b05688c,0x1f83d9ab,0x5be0cd19⟩
def first (k x:Int) (s:S8):Int:=xK (xK (xK (xK s.h (bg1 s.e)) (chc s.e s.f s.g)) k) x
def rnd (k x:Int) (s:S8):S8:=⟨xK (xK (first k x s) (bg0 s.a)) (maj s.a s.b s.c),s.a,s.b,s.c,xK s.d (first k x s),s.e,s.f,s.g⟩
def yF (p:Nat->Int) (s:S8):Nat->S8
 | 0=>s
 | n+1=>rnd (kay n) (wrd p n) (yF p s n)
def S8.add (s t:S8):S8:=⟨xK s.a t.a,xK s.b t.b,xK s.c t.c,xK s.d t.d,xK s.e t.e,xK s.f t.f,xK s.g t.g,xK s.h t.h⟩
def y9 (s:S8) (p:Nat->Int):S8:=s.add (yF p s 64)
theorem vl (p:Nat->Int):∀n,(pV p n).length=n
 | 0=>rfl
 | n+1=>by simp [pV,vl p n]
theorem vr (p:Nat->Int) (i:Nat):∀n,i<n->(pV p n).getD i 0=wrd p i
 | 0,h=>by omega
 | n+1,h=>by
  by_cases e:i=n
  . subst e;rfl
  . rw [<- vr p i n (by omega)];simp only [pV,V8];rw [V4 (by rw [vl];omega)]
theorem tq (p:Nat->Int) (n:Nat) (h:n<16):wrd p n=be4 p n:=by unfold wrd;simp only [pV,V8];rw [Y8 (by rw [vl];omega),vl];simp [h]
theorem tz (p:Nat->Int) (n:Nat) (h:16<=n):wrd p n=xK (xK (xK (wrd p (n - 16)) (sg0 (wrd p (n - 15)))) (wrd p (n - 7))) (sg1 (wrd p (n - 2))):=by
 conv=>lhs;unfold wrd
 simp only [pV,V8];rw [Y8 (by rw [vl];omega),vl];simp only [Nat.sub_self,List.getElem?_cons_zero,Option.getD_some,Z6 (show ¬n<16 by omega)];simp only [<- V8];rw [vr p (n - 16) n (by omega),vr p (n - 15) n (by omega),vr p (n - 7) n (by omega),vr p (n - 2) n (by omega)]
theorem xI (a b:Int):0<=xK a b/\xK a b<4294967296:=by unfold xK;omega
def w32 (x:Int):Prop:=0<=x/\x<4294967296
theorem eE (a b c d:Int) (i:0<=a/\a<=255) (j:0<=b/\b<=255) (k:0<=c/\c<=255) (l:0<=d/\d<=255) :
 bits .or .u32 (bits .or .u32 (bits .or .u32 (a % 4294967296 * 16777216 % 4294967296) (b % 4294967296 * 65536 % 4294967296)) (c % 4294967296 * 256 % 4294967296)) (d % 4294967296) =
  a * 16777216+b * 65536+c * 256+d:=by
 obtain ⟨a,rfl⟩:=zb1 i.1;obtain ⟨b,rfl⟩:=zb1 j.1;obtain ⟨c,rfl⟩:=zb1 k.1;obtain ⟨d,rfl⟩:=zb1 l.1;have e:((a:Int) % 4294967296 * 16777216 % 4294967296)=((a * 16777216:Nat):Int):=by omega
 have f:((b:Int) % 4294967296 * 65536 % 4294967296)=((b * 65536:Nat):Int):=by omega
 have g:((c:Int) % 4294967296 * 256 % 4294967296)=((c * 256:Nat):Int):=by omega
 have h:((d:Int) % 4294967296)=((d:Nat):Int):=by omega
 rw [e,f,g,h,u32_or_nat _ _ (by omega) (by omega),nat_join 24 _ _ (by omega) (by omega),u32_or_nat _ _ (by omega) (by omega),nat_join 16 _ _ (by omega) (by omega),u32_or_nat _ _ (by omega) (by omega),nat_join 8 _ _ (by omega) (by omega)];omega
theorem nr (p:Nat->Int) (a:∀i,i<64->0<=p i/\p i<=255) (i:Nat):w32 (wrd p i):=by
 by_cases h:i<16
 . rw [tq p i h];unfold be4 w32;have:=a (4 * i) (by omega);have:=a (4 * i+1) (by omega);have:=a (4 * i+2) (by omega);have:=a (4 * i+3) (by omega);omega
 . rw [tz p i (by omega)];exact xI _ _
def S8.ok (s:S8):Prop:=w32 s.a/\w32 s.b/\w32 s.c/\w32 s.d/\w32 s.e/\w32 s.f/\w32 s.g/\w32 s.h
theorem e9 {k x:Int} {s:S8} (h:s.ok):(rnd k x s).ok:=by obtain ⟨a,b,c,g,d,e,f,i⟩:=h;exact ⟨xI _ _,a,b,c,xI _ _,d,e,f⟩
theorem nt (p:Nat->Int) {s:S8} (h:s.ok):∀n,(yF p s n).ok
 | 0=>h
 | n+1=>e9 (nt p h n)
theorem Qq (s t:S8):(s.add t).ok:=⟨xI _ _,xI _ _,xI _ _,xI _ _,xI _ _,xI _ _,xI _ _,xI _ _⟩
theorem tx:yr.ok:=by unfold S8.ok yr w32;simp
theorem tj (s:S8) (p:Nat->Int):(y9 s p).ok:=Qq _ _
theorem QL (k x:Int) (s:S8):(s.h+bg1 s.e+chc s.e s.f s.g+k+x+bg0 s.a+maj s.a s.b s.c) % 4294967296=(rnd k x s).a:=by show _=xK (xK (first k x s) (bg0 s.a)) (maj s.a s.b s.c);unfold first xK;omega
theorem QR (k x:Int) (s:S8):(s.d+(s.h+bg1 s.e+chc s.e s.f s.g+k+x)) % 4294967296=(rnd k x s).e:=by show _=xK s.d (first k x s);unfold first xK;omega
theorem Qz (s t:S8) (j:Nat):(s.add t).at j=xK (s.at j) (t.at j):=by rcases j with _|_|_|_|_|_|_|j <;> rfl
def kf (l:List UInt8) (i:Nat):Int:=((l.getD i 0).toNat:Int)
def jN (l:List UInt8):Nat->S8
 | 0=>yr
 | n+1=>y9 (jN l n) (fun j=>kf l (64 * n+j))
theorem cG (l:List UInt8):∀n,(jN l n).ok
 | 0=>tx
 | _+1=>tj _ _
theorem tk (l:List UInt8) (i:Nat):0<=kf l i/\kf l i<=255:=by unfold kf;have:=(l.getD i 0).toNat_lt;omega
theorem pW {p q:Nat->Int} (h:∀j,j<64->p j=q j):∀n,pV p n=pV q n
 | 0=>rfl
 | n+1=>by
  simp only [pV,pW h n];by_cases hn:n<16
  . simp only [J3 hn];unfold be4;rw [h _ (by omega),h _ (by omega),h _ (by omega),h _ (by omega)]
  . simp only [Z6 hn]
theorem pY {p q:Nat->Int} (h:∀j,j<64->p j=q j) (s:S8):∀n,yF p s n=yF q s n
 | 0=>rfl
 | n+1=>by simp only [yF,pY h s n,wrd,pW h (n+1)]
theorem bu {p q:Nat->Int} (h:∀j,j<64->p j=q j) (s:S8):y9 s p=y9 s q:=by unfold y9;rw [pY h]
theorem br {l m:List UInt8}:∀n,(∀i,i<64 * n->kf l i=kf m i)->jN l n=jN m n
 | 0,_=>rfl
 | n+1,h=>by simp only [jN];rw [br n fun i hi=>h i (by omega)];exact bu (fun j hj=>h _ (by omega)) _
def be8 (n:Nat) (j:Nat):Int:=(n:Int) / 2 ^ (56 - 8 * j) % 256
def u8 (i:Int):UInt8:=UInt8.ofNat i.toNat
theorem we {i:Int} (h:0<=i) (a:i<256):((u8 i).toNat:Int)=i:=by unfold u8;rw [UInt8.toNat_ofNat'];omega
def gG (n:Nat):List UInt8:=(List.range 8).map fun j=>u8 (be8 n j)
theorem tv (n j:Nat):0<=be8 n j/\be8 n j<256:=by unfold be8;omega
theorem tw (n j:Nat) (a:j<(gG n).length):((gG n)[j].toNat:Int)=be8 n j:=by simp only [gG,zb8,List.getElem_range];exact we (tv n j).1 (tv n j).2
def gP (x:Int):List UInt8:=[u8 (x / 16777216 % 256),u8 (x / 65536 % 256),u8 (x / 256 % 256),u8 (x % 256)]
def fI (s:S8):Nat->List UInt8
 | 0=>[]
 | k+1=>fI s k ++ gP (s.at k)
def gF (l:List UInt8):List UInt8:=l ++ (128 :: List.replicate ((119 - l.length % 64) % 64) 0) ++ gG (l.length * 8)
def yH (l:List UInt8):List UInt8:=fI (jN (gF l) ((gF l).length / 64)) 8
theorem bt (s:S8):∀k,(fI s k).length=4 * k
 | 0=>rfl
 | k+1=>by simp [fI,bt s k,gP];omega
theorem ya (l:List UInt8):(yH l).length=32:=bt _ 8
theorem fO (l:List UInt8):(gF l).length=l.length+9+(119 - l.length % 64) % 64:=by unfold gF gG;simp;omega
theorem bo:∃j,Tryz.prog.info? 191=some j/\j.size=2:=by
 have h:(Tryz.prog.info? 191).map (·.size)=some 2:=by kernel_rfl
 obtain ⟨j,a,b⟩:=Option.map_eq_some_iff.1 h;exact ⟨j,a,b⟩
theorem liesBuilder:liesAt Tryz.prog Tryz.prog.depth 191 (2 / Tryz.prog.cellsOf 191) 0 191 1=true:=by kernel_rfl
theorem infoByte:(Tryz.prog.info? 5).map (fun i=>(i.zero,i.size,i.bytes))=some (some (.int .u8 0),1,1):=by kernel_rfl
theorem cellsByte:Tryz.prog.cellsOf 5=1:=by kernel_rfl
abbrev yU (B b:Nat) (bs:List Value) (w:World):Prop:=Lib.IsBuilderF 191 5 B b bs w
abbrev mQ (B b:Nat) (bs:List Value) (w:World):Prop:=Lib.BuilderAtF 191 5 B b (.pointer (some ⟨b,0,none⟩)) bs w
abbrev Kept (b:Nat) (w w':World):Prop:=Lib.OthersKept 5 (some b) w w'
theorem pG (b:Nat) (w:World) (c:w.cell? ⟨b,0,none⟩=some (.pointer (some ⟨b,0,none⟩))) :
 Calls Tryz.prog 176 #[.pointer (some ⟨b,0,none⟩)] w fun e w'=>e=.returned (.tuple #[])/\w'=w:=by
 obtain ⟨j,a,_⟩:=bo;go_enter Tryz.func176,Tryz.ntmps176;go_wp2;rw [Lib.run_neq_ptr_same w _ Tryz.underlying188 a];go_wp2
 go_end0
 exact ⟨rfl,rfl⟩
theorem pg (b:Nat) (w:World) (g:w.cell? ⟨b,0,none⟩=some (.pointer none)) (d:w.shape? b=some (191,2)) (f:w.frozen? ⟨b,0,none⟩=false) :
 Calls Tryz.prog 176 #[.pointer (some ⟨b,0,none⟩)] w fun e w'=>e=.returned (.tuple #[])/\w'=w.setCell ⟨b,0,none⟩ (.pointer (some ⟨b,0,none⟩)):=by
 obtain ⟨j,c,a⟩:=bo;go_enter Tryz.func176,Tryz.ntmps176;go_wp2;rw [Lib.run_to_unsafe w ⟨b,0,none⟩ Tryz.underlying188 Tryz.underlying254 c (by rw [a];decide) d (Nat.zero_lt_succ 1)];simp only [Result.andThen];rw [Oper.upon_value];go_wp2;rw [run_callFunc_extern Tryz.func192 (by kernel_rfl) (by kernel_rfl) (by kernel_rfl) (e:=Extern.AbiNoEscape.same) (by kernel_rfl)];rw [Lib.run_noEscape];simp only [Result.andThen];rw [Oper.upon_value];go_wp2;rw [Lib.run_from_unsafe w ⟨b,0,none⟩ Tryz.underlying254 Tryz.underlying188 c d liesBuilder];simp only [Result.andThen];rw [Oper.upon_value];go_wp2
 go_end0
 exact ⟨rfl,rfl⟩
theorem up (B b:Nat) (a:List Value) (w:World) (h:yU B b a w) :
 Calls Tryz.prog 176 #[.pointer (some ⟨b,0,none⟩)] w fun e w'=>e=.returned (.tuple #[])/\(mQ B b a w'/\Below B w w'/\Kept b w w'):=by
 rcases h with h|h
 . refine (pg b w h.cell0 h.shape h.frozen0).mono ?_;rintro e w' ⟨rfl,rfl⟩;exact ⟨rfl,h.used _,(Z0 B w).setCell (p:=⟨b,0,none⟩) h.1 _,(M9 _ _ w).setCell ⟨b,0,none⟩ rfl _⟩
 . refine (pG b w h.cell0).mono ?_;rintro e w' ⟨rfl,rfl⟩;exact ⟨rfl,h,Z0 B _,M9 _ _ _⟩
theorem zW (B b:Nat) (H:List Value) (c:Int) (w:World) (h:yU B b H w) (I:H.length+1<=140737488355328) (J:B<=w.heap.size) :
 Calls Tryz.prog 165 #[.pointer (some ⟨b,0,none⟩),.int .u8 c] w fun e w'=>e=.returned .nilIface/\(mQ B b (H ++ [.int .u8 c]) w'/\Below B w w'/\Kept b w w'):=by
 obtain ⟨C,hi,s,x,y⟩:=V2 infoByte;go_enter Tryz.func165,Tryz.ntmps165;go_wp2_with (go_at_call 176;refine (up B b H _ h).mono ?_);rintro e m ⟨rfl,A,f,o⟩;obtain ⟨z,v,l,a,r⟩:=A;have D:m.cell? ⟨b,0,none⟩=some (.pointer (some ⟨b,0,none⟩)):=by rw [M2 l];rfl
 have c1:m.cell? ⟨b,1,none⟩=some v:=by rw [M2 l];rfl
 go_wp2_with (at_builtin;refine wpList_append_ownF _ rfl _ _ 189 rfl B 5 C (.int .u8 0) 1 1 G6 hi s x y rfl (by decide) _ _ _ rfl (a.alloc _) ⟨m.heap.size,0,none⟩ 1 1 [.int .u8 c] rfl rfl ?c1 ?c2 ?c3 ?c4 ?c5 ?_)
 case c1 =>
  intro j u hj
  match j,hj with
  | 0,hj=>simp at hj;subst hj;simp [Addr.add]
 case c2=>intro u hu;simp at hu;subst hu;rfl
 case c3=>unfold maxLen;omega
 case c4=>omega
 case c5=>have:=f.size;simp;omega
 intro v' w2 hown' hgrow _;have q:b<m.heap.size:=by
  rcases Nat.lt_or_ge b m.heap.size with h'|h'
  . exact h'
  . simp [Array.getElem?_eq_none h'] at l
 have i:w2.heap[b]?=some (.cells #[.pointer (some ⟨b,0,none⟩),v] 191 (0,0)):=(by rw [hgrow.block b (by simp;omega) (fun e=>r e.symm),Lib.alloc_old m _ b q];exact l);have E:w2.cell? ⟨b,0,none⟩=some (.pointer (some ⟨b,0,none⟩)):=by rw [M2 i];rfl
 have F:w2.cell? ⟨b,1,none⟩=some v:=by rw [M2 i];rfl
 have G:w2.frozen? ⟨b,1,none⟩=false:=Lib.frozen_of_heap i 1;obtain ⟨g,d,rfl⟩:∃g d,v'=.slice (some ⟨g,0,none⟩) (H.length+1) d:=by
  rcases hown'.2 with ⟨_,h0⟩|⟨g,d,cur,fz,hv,_⟩
  . omega
  . exact ⟨g,d,hv⟩
 go_wp2;go_ret;refine ⟨rfl,?_,?_,((o.alloc _).grown hgrow (Lib.ownsRowF_kind (a.alloc _))).setCell ⟨b,1,none⟩ rfl _⟩
 . exact Lib.BuilderAtF.put (T:=191) (e:=5) z i (bs':=H ++ [.int .u8 c]) (by simpa using hown') (by decide)
 . exact ((f.alloc (by have:=f.size;omega) _).grown hgrow (by have:=f.size;simp;omega) (fun k hk=>(a.lt k hk).1)).setCell (p:=⟨b,1,none⟩) z _
theorem kA (B b:Nat) (I:List Value) (s:ByteArray) (w:World) (h:yU B b I w) (J:I.length+s.size<=140737488355328) (K:B<=w.heap.size) :
 Calls Tryz.prog 135 #[.pointer (some ⟨b,0,none⟩),.string s] w fun e w'=>e=.returned (.tuple #[.int .i64 s.size,.nilIface])/\(mQ B b (I ++ Lib.strCells s) w'/\Below B w w'/\Kept b w w'):=by
 obtain ⟨C,hi,q,r,u⟩:=V2 infoByte;go_enter Tryz.func135,Tryz.ntmps135;go_wp2_with (go_at_call 176;refine (up B b I _ h).mono ?_);rintro e j ⟨rfl,A,i,l⟩;obtain ⟨y,v,d,a,o⟩:=A;have D:j.cell? ⟨b,0,none⟩=some (.pointer (some ⟨b,0,none⟩)):=by rw [M2 d];rfl
 have E:j.cell? ⟨b,1,none⟩=some v:=by rw [M2 d];rfl
 go_wp2_with (at_builtin;refine Lib.wpList_append_own_stringF _ rfl _ _ 189 9 rfl B 5 C G6 Y9 hi q r u _ _ _ rfl a s rfl ?c3 ?c4 ?c5 ?_)
 case c3=>unfold maxLen;omega
 case c4=>omega
 case c5=>have:=i.size;omega
 intro v' w2 hown' hgrow _;have m:b<j.heap.size:=by
  rcases Nat.lt_or_ge b j.heap.size with h'|h'
  . exact h'
  . simp [Array.getElem?_eq_none h'] at d
 have c:w2.heap[b]?=some (.cells #[.pointer (some ⟨b,0,none⟩),v] 191 (0,0)):=(by rw [hgrow.block b m (fun e=>o e.symm)];exact d);have F:w2.cell? ⟨b,0,none⟩=some (.pointer (some ⟨b,0,none⟩)):=by rw [M2 c];rfl
 have G:w2.cell? ⟨b,1,none⟩=some v:=by rw [M2 c];rfl
 have H:w2.frozen? ⟨b,1,none⟩=false:=Lib.frozen_of_heap c 1;obtain ⟨x,z,f,rfl⟩:∃x z f,v'=.slice x z f:=by
  rcases hown'.2 with ⟨hv,_⟩|⟨g,f,cur,fz,hv,_⟩
  . exact ⟨_,_,_,hv⟩
  . exact ⟨_,_,_,hv⟩
 go_wp2;go_ret2;refine ⟨rfl,?_,?_,(l.grown hgrow (Lib.ownsRowF_kind a)).setCell ⟨b,1,none⟩ rfl _⟩
 . exact Lib.BuilderAtF.put (T:=191) (e:=5) y c (bs':=I ++ Lib.strCells s) (by simpa [Lib.strCells_length] using hown') (by decide)
 . exact (i.grown hgrow (by have:=i.size;omega) (fun k hk=>(a.lt k hk).1)).setCell (p:=⟨b,1,none⟩) y _
theorem yt (B b:Nat) (l:List UInt8) (w:World) (h:yU B b (Lib.byteCells l) w) (h0:l≠[]) :
 Calls Tryz.prog 137 #[.pointer (some ⟨b,0,none⟩)] w fun e w'=>e=.returned (.string ⟨l.toArray⟩)/\Below B w w'/\Kept b w w':=by
 obtain ⟨p,m⟩:∃p,Lib.BuilderAtF 191 5 B b p (Lib.byteCells l) w:=by
  rcases h with h|h
  . exact ⟨_,h⟩
  . exact ⟨_,h⟩
 obtain ⟨I,v,k,d,C⟩:=m;have A:l.length≠0:=by simpa using h0
 rw [Lib.byteCells_length] at d;obtain ⟨g,a,c,f,rfl,o,y,u,G,q,s,i⟩:∃g a c f,v=.slice (some ⟨g,0,none⟩) l.length a/\B<=g/\w.heap[g]?=some (.cells c 5 f)/\f.2<=l.length * 1/\l.length<=a/\a<=maxLen/\c.size=a * 1/\c.toList.take (l.length * 1)=Lib.byteCells l:=by
  rcases d.2 with ⟨_,hz⟩|⟨g,a,c,f,hv,r⟩
  . exact absurd hz A
  . exact ⟨g,a,c,f,hv,r⟩
 have H:w.drew.cell? ⟨b,1,none⟩=some (.slice (some ⟨g,0,none⟩) l.length a):=(by have:w.drew.heap[b]?=some (.cells #[p,.slice (some ⟨g,0,none⟩) l.length a] 191 (0,0)):=k;rw [M2 this];rfl);have E:(Builtin.unsafeSliceData_ #[189] 237 #[.slice (some ⟨g,0,none⟩) l.length a]).run Tryz.prog w.drew=.ok (.pointer (some ⟨g,0,none⟩)) w.drew :=
  Lib.run_unsafeSliceData_row _ _ _ _ _ _ (by omega)
 have F:(Builtin.unsafeString_ #[237,3] 9 #[.pointer (some ⟨g,0,none⟩),.int .i64 l.length]).run Tryz.prog w.drew=.ok (.string ⟨l.toArray⟩) (w.drew.freeze ⟨g,0,none⟩ l.length):=(by refine Lib.run_unsafeString_row w.drew 237 3 9 5 Tryz.underlying237 cellsByte g c.size (by have z:w.drew.heap[g]?=some (.cells c 5 f):=y;simp [World.shape?,z]) l h0 (by omega) (by unfold maxLen at q;omega) ?_;intro j x hx;have:=d.cells (g:=g) rfl j (.int .u8 x.toNat) (by simp [Lib.byteCells,hx]);exact this);have D:=O0 (Below B w (w.drew.freeze ⟨g,0,none⟩ l.length)/\Kept b w (w.drew.freeze ⟨g,0,none⟩ l.length)) (⟨Lib.below_freeze (Below.drew (Z0 B w)) (p:=⟨g,0,none⟩) o _,((M9 _ _ w).drew).freeze ⟨g,0,none⟩ _ ⟨c,f,y⟩⟩);clear d k C y i s u;go_enter Tryz.func137,Tryz.ntmps137;go_wp2
 go_region
 all_goals (go_wp2;go_ret;exact ⟨rfl,D.o⟩)
section
variable {P:Program}
theorem kh {S:Nat->Prop} {b:Nat} {a:World} (hb:S b\/a.heap.size<=b):∀(vs:List Value) (o:Nat) (w:World),Touch S a w->Touch S a (w.setCells b o vs)
 | [],_,_,h=>h
 | v :: r,o,_,h=>kh hb r (o+1) _ (h.setCell hb v)
theorem mZ (w:World) (g k l e:TypeId) (b o d f:Nat) (s:ByteArray)
 (h:P.underlying g=some (.slice e)) (i:∀w,(Go.sizeOf e).run P w=.ok 1 w)
 (hc:∀j,j<Nat.min s.size d->(w.cell? ⟨b,o+j,none⟩).isSome=true) (hf:∀j,j<Nat.min s.size d->w.frozen? ⟨b,o+j,none⟩=false) :
 (Builtin.copy_ #[g,k] l #[.slice (some ⟨b,o,none⟩) d f,.string s]).run P w=.ok (goInt (Nat.min s.size d)) (w.setCells b o ((s.data.toList.map fun x=>Value.int .u8 (x.toNat:Int)).take (Nat.min s.size d))):=by
 have c:((s.data.toList.map fun x=>Value.int .u8 (x.toNat:Int)).take (Nat.min s.size d)).length=Nat.min s.size d:=(by rw [M3,X7,qu];exact Nat.min_eq_left (Nat.min_le_left _ _));have a:=run_storeCells_cells (P:=P) b o ((s.data.toList.map fun x=>Value.int .u8 (x.toNat:Int)).take (Nat.min s.size d)) 0 w (by rw [c];simpa using hc) (by rw [c];simpa using hf) (by
  intro v hv;obtain ⟨x,_,rfl⟩:=H7.1 (List.mem_of_mem_take hv);rfl)
 simp [Builtin.copy_,run_underlying h,Builtin.lenOf,Builtin.firstCells,i];rw [a];rfl
def nQ (s:ByteArray) (i:Nat):Int:=((s.data.toList.getD i 0).toNat:Int)
theorem pp {w:World} {ops:Array Oper} {i:List Oper} {o:Oper} {a:Act} {Q:Exit->Act->World->Prop} (l:o.guard=none) (d x:Operand) (k m:TypeId)
 (p:o.op=.call { callee:=.builtin .copy,args:=#[d,x],argTypes:=#[k,m] }) (elem:TypeId) (hu:P.underlying k=some (.slice elem)) (hz:∀w,(Go.sizeOf elem).run P w=.ok 1 w)
 (b off dLen dCap:Nat) (s:ByteArray) (hd:a.eval d=.slice (some ⟨b,off,none⟩) dLen dCap) (hs:a.eval x=.string s)
 (t N:Nat) (f:Nat->Value) (hr:w.rowIs b t N f) (n:Nat) (hn:n=Nat.min s.size dLen) (hfit:off+n<=N)
 (h:∀w',Hid (w'.rowIs b t N (fun j=>if off<=j/\j<off+n then .int .u8 (nQ s (j - off)) else f j))->Hid (Touch (· = b) w w')->wpList P ops Q i (a.put o.dst (goInt n)) w') :
 wpList P ops Q (o :: i) a w:=by
 refine wpList_plain l fun K hK=>?_;have c:=mZ (P:=P) w k m o.type elem b off dLen dCap s hu hz (fun j hj=>by rw [hr.cell (by omega)];rfl) (fun j hj=>hr.frozen _);rw [<- hn] at c;unfold Oper.wp;simp [execOp,p,resolve,invoke,builtin,hd,hs,c,Result.andThen];refine hK _ _ (h _ ?_ (kh (S:=(· = b)) (b:=b) (a:=w) (.inl rfl) _ _ _ (Touch.refl _ _)));have g:((s.data.toList.map fun x=>Value.int .u8 (x.toNat:Int)).take n).length=n:=(by rw [M3,X7,qu,hn];exact Nat.min_eq_left (Nat.min_le_left _ _));refine (rowIs_setCells _ off w f hr).congr fun j hj=>?_;rw [g];by_cases e:off<=j/\j<off+n
 . rw [J3 e,J3 e,List.getElem?_take_of_lt (by omega),List.getElem?_map];unfold nQ;rw [V8];have:j - off<s.data.toList.length:=by rw [qu];have:n<=s.size:=hn ▸ Nat.min_le_left _ _;omega
   rw [H9 this];rfl
 . rw [Z6 e,Z6 e]
theorem tg {n:Nat} {f:Nat->Value} (h:∀i,i<n->(f i).oneCell'=true) (c:Array Value) (b:c.size=n) (d:∀i,i<n->c[i]?=some (f i)):∀v ∈ c.toList,v.oneCell'=true:=by
 intro v hv;obtain ⟨i,hi,rfl⟩:=Y0 hv;have a:i<n:=by simpa [b] using hi
 have:=d i a;rw [K7 (by omega)] at this;have e:c.toList[i]=f i:=by simpa using X2 this
 rw [e];exact h i a
theorem wpList_store_row {w:World} {ops:Array Oper} {d:List Oper} {o:Oper} {a:Act} {Q:Exit->Act->World->Prop} (m:o.guard=none) (q:TypeId) (x y:Operand)
 (s:o.op=.store q x y) (g t n:Nat) (f l:Nat->Value) (u:a.eval x=.pointer (some ⟨g,0,none⟩)) (p:w.rowIs g t n f) (cs:Array Value) (v:a.eval y=.agg cs) (k:cs.size=n) (e:∀i,i<n->cs[i]?=some (l i))
 (r:∀i,i<n->(l i).oneCell'=true) (hi:∀w,(Go.sizeOf q).run P w=.ok n w)
 (h:∀w',Hid (w'.rowIs g t n l)->Hid (Touch (· = g) w w')->wpList P ops Q d (a.put o.dst undef) w'):wpList P ops Q (o :: d) a w:=by
 refine wpList_plain m fun K hK=>?_;have c:=run_storeCells_cells (P:=P) g 0 cs.toList 0 w (fun j hj=>by simp at hj;rw [p.cell (i:=0+0+j) (by omega)];rfl) (fun j _=>p.frozen _) (tg r cs k e);unfold Oper.wp execOp;simp only [s,u,v,Instr.storeAt,Instr.sureAddr,Sem.run_bind,Sem.run_pure,Result.andThen_ok,storeVar,Value.cells,hi];simp [k,c,Oper.upon];refine hK _ _ (h _ ?_ (kh (S:=(· = g)) (b:=g) (a:=w) (.inl rfl) _ _ _ (Touch.refl _ _)));refine (rowIs_setCells _ 0 w f p).congr fun j hj=>?_;rw [J3 (by simp;omega)];have:=e j hj;simp at this ⊢;rw [this];rfl
theorem gq {w:World} {ops:Array Oper} {k:List Oper} {o:Oper} {a:Act} {Q:Exit->Act->World->Prop} (m:o.guard=none) (l:TypeId) (x:Operand) (q:o.op=.load l x)
 (g t n:Nat) (f:Nat->Value) (u:a.eval x=.pointer (some ⟨g,0,none⟩)) (r:w.rowIs g t n f) (d:TypeDesc)
 (s:P.underlying l=some d) (p:(match d with | .struct _ | .array _ _=>true|_=>false)=true) (hi:(P.info? l).map (·.size)=some n)
 (h:∀cs:Array Value,Hid (cs.size=n)->Hid (∀i,i<n->cs[i]?=some (f i))->wpList P ops Q k (a.put o.dst (.agg cs)) w):wpList P ops Q (o :: k) a w:=by
 obtain ⟨c,e,b,j⟩:=r;exact wpList_load_row m l x q g u t c (0,0) d e s p (by rw [b];exact hi) (h c b j)
theorem pB {T N E:Nat} (d:P.underlying T=some (.array N E)) (e:∀w,(Go.sizeOf E).run P w=.ok 1 w) (b o u:Nat) (f:u<N) (w:World) :
 (Instr.sliceAt T (.pointer (some ⟨b,o,none⟩)) (some (.int .i64 (u:Int))) none none).run P w=.ok (.slice (some ⟨b,o+u,none⟩) (N - u) (N - u)) w:=by
 have c:(0:Int)<=u/\(u:Int)<=N:=by omega
 have a:(⟨b,o,none⟩:Addr).add u=⟨b,o+u,none⟩:=by unfold Addr.add;split <;> simp_all
 simp [Instr.sliceAt,run_underlying d,Instr.sureAddr,Instr.sliceBounds,Instr.sliceBound,asIntOf,e,show u<=N by omega];rw [Z6 (by omega),a]
theorem kT {w:World} {d:Nat} {v:Value} {n:Nat} {l:List UInt8} (c b e:TypeId) (k:P.underlying c=some (.slice e)) (i:P.underlying e=some (.int .u8)) (f:P.underlying b=some .string)
 (h:w.ownsRow d e 1 v n (Lib.byteCells l)):(convert c b v).run P w=.ok (.string ⟨l.toArray⟩) w:=by
 have a:l.length=n:=by have:=h.1;simpa [Lib.byteCells] using this
 rcases h.2 with ⟨rfl,h0⟩|⟨g,cap,cur,rfl,hg⟩
 . have:l=[]:=X5 (by omega);subst this;exact Lib.run_convert_nil_bytes w c b e 0 k i f
 . subst a;refine run_convert_bytes_back w c b e ⟨g,0,none⟩ cap l k i f fun j hj=>?_;refine h.cells rfl j _ ?_;simp [Lib.byteCells,List.getElem?_eq_getElem hj]
end
structure TabW (w:World):Prop where
 months:∀i,i<13->w.cell? ⟨0,i,none⟩=some (.int .i64 (beforeN i))
 lt:0<w.heap.size
theorem TabW.below {w w':World} (h:TabW w) (a:O5 w w'):TabW w' where
 months i hi:=by rw [a.cell h.lt];exact h.months i hi
 lt:=X1 h.lt a.size
theorem cP (y:Nat) (w:World) (q:y<=100000):Calls Tryz.prog 68 #[.int .i64 y] w fun e w'=>e=.returned (.bool (yl y))/\w'=w:=by
 have h:((y:Int).tmod 4)=((y % 4:Nat):Int):=by rw [H6 (by omega)];omega
 have g:((y:Int).tmod 100)=((y % 100:Nat):Int):=by rw [H6 (by omega)];omega
 have f:((y:Int).tmod 400)=((y % 400:Nat):Int):=by rw [H6 (by omega)];omega
 have d:=O0 (yl y=(y % 4 == 0 && y % 100 != 0 || y % 400 == 0)) rfl;generalize y % 4=a at *;generalize y % 100=b at *;generalize y % 400=c at *;by_cases ha:a=0
 . subst ha;have l:((y:Int).tmod 4)=0:=h;by_cases hb:b=0
   . subst hb;have k:((y:Int).tmod 100)=0:=g;by_cases hc:c=0
     . subst hc;have i:((y:Int).tmod 400)=0:=f;clear h g f;go_enter Tryz.func68,Tryz.ntmps68;go_wp2;go_ret;exact ⟨qx (by rw [d.o];rfl),rfl⟩
     . have j:((c:Int) == 0)=false:=by simp;omega
       clear h g;go_enter Tryz.func68,Tryz.ntmps68;go_wp2;go_ret;exact ⟨qx (by rw [d.o];simp [hc]),rfl⟩
   . have o:((b:Int) == 0)=false:=by simp;omega
     have p:((b:Int) != 0)=true:=by simp;omega
     clear h f;go_enter Tryz.func68,Tryz.ntmps68;go_wp2;go_ret;exact ⟨qx (by rw [d.o];simp [hb]),rfl⟩
 . have m:((a:Int) == 0)=false:=by simp;omega
   by_cases hc:c=0
   . subst hc;have i:((y:Int).tmod 400)=0:=f;clear g f;go_enter Tryz.func68,Tryz.ntmps68;go_wp2;go_ret;exact ⟨qx (by rw [d.o];simp),rfl⟩
   . have j:((c:Int) == 0)=false:=by simp;omega
     clear g;go_enter Tryz.func68,Tryz.ntmps68;go_wp2;go_ret;exact ⟨qx (by rw [d.o];simp [ha,hc]),rfl⟩
theorem uf (y:Nat) (w:World) (f:y<=100000):Calls Tryz.prog 94 #[.int .i64 y] w fun e w'=>e=.returned (.int .i64 (xQ y))/\w'=w:=by
 have d:((y:Int).tdiv 4)=((y / 4:Nat):Int):=by rw [N4 (by omega)];omega
 have c:((y:Int).tdiv 100)=((y / 100:Nat):Int):=by rw [N4 (by omega)];omega
 have b:((y:Int).tdiv 400)=((y / 400:Nat):Int):=by rw [N4 (by omega)];omega
 have a:=U (show (xQ y:Int)=((y / 4:Nat):Int) - ((y / 100:Nat):Int)+((y / 400:Nat):Int) by unfold xQ;omega);go_enter Tryz.func94,Tryz.ntmps94;go_wp2;go_ret;exact ⟨zG (by rw [a.o];omega),rfl⟩
theorem pP (n h:Int) (w:World):Calls Tryz.prog 66 #[.int .i64 n,.int .i64 h] w fun e w'=>e=.returned (.bool (decide (0<=n) && decide (n<=h)))/\w'=w:=by
 by_cases h0:0<=n
 . have a:decide (0<=n)=true:=by simpa using h0
   go_enter Tryz.func66,Tryz.ntmps66;go_wp2;go_ret;exact ⟨qx (by simp [h0]),rfl⟩
 . have a:decide (0<=n)=false:=by simpa using h0
   go_enter Tryz.func66,Tryz.ntmps66;go_wp2;go_ret;exact ⟨qx (by simp),rfl⟩
theorem sb (y:Nat):xQ y<=y:=by unfold xQ;omega
theorem yq (y:Nat) (w:World) (i:1970<=y) (j:y<=10000):Calls Tryz.prog 67 #[.int .i64 y] w fun e w'=>e=.returned (.int .i64 (zj y))/\w'=w:=by
 have a:=U (uf (y - 1) w (by omega));have b:=U (uf 1969 w (by omega));have h:=sb (y - 1);have d:((y - 1:Nat):Int)=(y:Int) - 1:=by omega
 rw [d] at a;have c:=U (show (zj y:Int)=365 * ((y:Int) - 1970)+(xQ (y - 1):Int) - 477 by
  have f:xQ 1969=477:=by decide
  have g:xQ 1969<=xQ (y - 1):=by unfold xQ;omega
  unfold zj;rw [f] at g ⊢;omega)
 rw [show (xQ 1969:Int)=477 by decide] at b;generalize xQ (y - 1)=q at *;go_enter Tryz.func67,Tryz.ntmps67;go_wp2_with fail;refine a.o.mono ?_;rintro e w' ⟨rfl,rfl⟩;go_wp2_with fail;refine b.o.mono ?_;rintro e w' ⟨rfl,rfl⟩;go_wp2;go_ret;exact ⟨zG (by rw [c.o]),rfl⟩
def ku (y m:Int):Int:=if y<0\/m<0 then 0 else xT y.toNat m.toNat
theorem wQ {y m:Int} (h:y<1970\/9999<y\/m<1\/12<m):ku y m=0:=by
 unfold ku xT;split
 . rfl
 . rw [Z6 (by omega)];rfl
theorem uh:∀m:Fin 13,1<=m.val->beforeN (m.val - 1)<=beforeN m.val/\beforeN m.val<=365:=by decide
theorem pF (y m:Int) (w:World) (u:TabW w):Calls Tryz.prog 65 #[.int .i64 y,.int .i64 m] w fun e w'=>e=.returned (.int .i64 (ku y m))/\O5 w w':=by
 by_cases h1:1970<=y
 . by_cases h2:y<=9999
   . by_cases h3:1<=m
     . by_cases h4:m<=12
       . obtain ⟨a,rfl⟩:∃a:Nat,y=a:=⟨y.toNat,by omega⟩;obtain ⟨b,rfl⟩:∃b:Nat,m=b:=⟨m.toNat,by omega⟩;have d:=uh ⟨b,by omega⟩ (by show 1<=b;omega);have i:ku a b=(beforeN b:Int) - (beforeN (b - 1):Int)+(if b=2/\yl a=true then 1 else 0):=by
          unfold ku xT;rw [Z6 (by omega),J3 (by simp;omega)];simp only [Int.toNat_natCast];have:=d.1;simp only at this;split <;> omega
         have c:=U i;have o:=U d;have f:=U (fun w':World=>cP a w' (by omega));have r:w.cell? ⟨0,b,none⟩=some (.int .i64 (beforeN b)):=u.months b (by omega);have s:w.cell? ⟨0,b - 1,none⟩=some (.int .i64 (beforeN (b - 1))):=u.months (b - 1) (by omega);have k:(beforeN (b - 1):Int)<=beforeN b:=by have:=d.1;simp only at this;omega
         have l:(beforeN b:Int)<=365:=by have:=d.2;simp only at this;omega
         clear i d u;generalize beforeN b=p at *;generalize beforeN (b - 1)=q at *;by_cases hb2:b=2
         . have h:((b:Int) == 2)=true:=by simp;omega
           have j:=U hb2;clear hb2;cases hl:yl a
           . rw [hl] at f c;clear hl;go_enter Tryz.func65,Tryz.ntmps65;go_upto_region 3 with fail
             go_quiet (fail)
             go_wp2_with fail
             refine (f.o _).mono ?_;rintro e w' ⟨rfl,g⟩;subst g;go_wp2;go_ret;exact ⟨zG (by rw [c.o];simp),Below.drewN (Z0 _ _) _⟩
           . rw [hl] at f c;clear hl;go_enter Tryz.func65,Tryz.ntmps65;go_upto_region 3 with fail
             go_quiet (fail)
             go_wp2_with fail
             refine (f.o _).mono ?_;rintro e w' ⟨rfl,g⟩;subst g;go_wp2;go_ret;exact ⟨zG (by rw [c.o,J3 ⟨j.o,by simp⟩]),Below.drewN (Z0 _ _) _⟩
         . have h:((b:Int) == 2)=false:=by simp;omega
           have c:=U (show ku a b=p - q by rw [c.o,Z6 (by omega)];omega);clear hb2;go_enter Tryz.func65,Tryz.ntmps65;go_upto_region 3 with fail
           go_quiet (fail)
           go_wp2;go_ret;exact ⟨zG (by rw [c.o]),Below.drewN (Z0 _ _) _⟩
       . have c:=U (wQ (y:=y) (m:=m) (by omega));go_enter Tryz.func65,Tryz.ntmps65;go_wp2;go_ret;exact ⟨zG (by rw [c.o]),Z0 _ _⟩
     . have c:=U (wQ (y:=y) (m:=m) (by omega));go_enter Tryz.func65,Tryz.ntmps65;go_wp2;go_ret;exact ⟨zG (by rw [c.o]),Z0 _ _⟩
   . have c:=U (wQ (y:=y) (m:=m) (by omega));go_enter Tryz.func65,Tryz.ntmps65;go_wp2;go_ret;exact ⟨zG (by rw [c.o]),Z0 _ _⟩
 . have c:=U (wQ (y:=y) (m:=m) (by omega));go_enter Tryz.func65,Tryz.ntmps65;go_wp2;go_ret;exact ⟨zG (by rw [c.o]),Z0 _ _⟩
def cF (v:JV) (r:Nat) (f:Bool) (y:ByteArray):List ByteArray:=v.names.take r ++ [y] ++ v.names.drop (r+f.toNat)
def cH (v:JV) (r:Nat) (f:Bool) (x:JV):List JV:=v.items.take r ++ [x] ++ v.items.drop (r+f.toNat)
def cU (v:JV) (r:Nat) (f:Bool) (y:ByteArray) (x:JV):JV:=.mk 5 0 ⟨#[]⟩ (cF v r f y) (cH v r f x)
def pH (v:JV) (y:ByteArray) (k:Nat):List (ByteArray × JV):=((v.names.zip v.items).take k).filter fun z=>z.1.toList != y.toList
theorem sf (v:JV) (y:ByteArray) (k:Nat) (h:k<v.names.length) (a:k<v.items.length):pH v y (k+1)=pH v y k ++ (if v.names[k].toList != y.toList then [(v.names[k],v.items[k])] else []):=by unfold pH;rw [Z7 (by simp;omega),List.filter_append];congr 1;simp only [List.getElem_zip,List.filter_cons,List.filter_nil]
theorem cM (v:JV) (y:ByteArray) (k:Nat):(pH v y k).length<=k:=by unfold pH;refine Z3 (List.length_filter_le _ _) ?_;rw [M3];omega
def wZ (v:JV) (y:ByteArray) (k:Nat):List ByteArray:=(pH v y k).map Prod.fst
def yM (v:JV) (y:ByteArray) (k:Nat):List JV:=(pH v y k).map Prod.snd
theorem tp (v:JV) (y:ByteArray) (k:Nat):(wZ v y k).length<=k:=by unfold wZ;rw [X7];exact cM _ _ _
theorem tf (v:JV) (y:ByteArray) (k:Nat):(yM v y k).length<=k:=by unfold yM;rw [X7];exact cM _ _ _
def Qx (v:JV) (y:ByteArray):JV:=.mk 5 0 ⟨#[]⟩ (wZ v y v.names.length) (yM v y v.names.length)
theorem th {w w':World} {p:Nat} {o:Obj} (a:O5 w w') (h:w.heap[p]?=some o):w'.heap[p]?=some o:=by rw [a.block _ (qz h)];exact h
theorem nZ {w:World} {p:Nat} {o x:Obj} (h:w.heap[p]?=some o):(w.alloc x).heap[p]?=some o:=by rw [X6 _ _ _ (qz h)];exact h
theorem jQ {W X:World} {b T:Nat} {a c d e f:Value} (h:W.heap[b]?=some (.cells #[a,c,d,e,f] T (0,0))) (g:O5 W X) :
 X.cell? ⟨b,0,none⟩=some a/\X.cell? ⟨b,1,none⟩=some c/\X.cell? ⟨b,2,none⟩=some d/\X.cell? ⟨b,3,none⟩=some e/\X.cell? ⟨b,4,none⟩=some f:=by
 have:=th g h;exact ⟨qq this rfl,qq this rfl,qq this rfl,qq this rfl,qq this rfl⟩
theorem uu {W X:World} {o:Obj} (a:O5 W X):O5 W (X.alloc o):=a.alloc a.size _
theorem lA (w:World) (row:Option Nat):w.grownBy w row:=⟨rfl,rfl,rfl,J2 _,fun _ _ _=>rfl⟩
theorem ph {P:Program} {w:World} (a:Nat) (t j e:TypeId) (i:TypeInfo) (d:Nat) (h:P.underlying t=some (.slice e)) (hi:P.info? e=some i)
 (v:Value) (n:Nat) (xs:List Value) (b:w.ownsRow a e d v n xs) (f:Option Addr) (c:Nat) :
 (Builtin.append_ #[t,t] j #[v,.slice f 0 c]).run P w=.ok v w:=by
 rcases b.2 with ⟨rfl,rfl⟩|⟨g,cap,cur,rfl,_,_,hnc,_⟩
 . cases f <;> simp [Builtin.append_,run_underlying h,sizeOf,typeInfo,hi,Builtin.lenOf,Builtin.firstCells,loadCells,loadCellsFrom]
 . cases f <;> simp [Builtin.append_,run_underlying h,sizeOf,typeInfo,hi,Builtin.lenOf,Builtin.firstCells,hnc,storeCells,loadCells,loadCellsFrom]
theorem lT {w:World} {b e d n:Nat} {v:Value} {xs:List Value} (h:w.ownsRow b e d v n xs):∃a c,v=.slice a n c:=by
 rcases h.2 with ⟨rfl,rfl⟩|⟨g,cap,cur,rfl,_⟩
 . exact ⟨none,0,rfl⟩
 . exact ⟨_,_,rfl⟩
theorem fE {P:Program} {w:World} {o:Oper} {a:Act} {K:Act->World->Prop} {Q:Exit->Act->World->Prop} (s x:Operand) (t:TypeId)
 (f:o.op=.call { callee:=.builtin .append,args:=#[s,x],argTypes:=#[t,t] })
 (base:Nat) (e:TypeId) (i:TypeInfo) (z:Value) (size bytes:Nat) (ht:P.underlying t=some (.slice e)) (hi:P.info? e=some i) (hz:i.zero=some z)
 (hsize:i.size=size) (hby:i.bytes=bytes) (hzs:z.cells.size=size) (hsz:0<size)
 (v:Value) (n:Nat) (xs:List Value) (hs:a.eval s=v) (hown:w.ownsRow base e size v n xs)
 (sa:Option Addr) (m c:Nat) (news:List Value) (hx:a.eval x=.slice sa m c) (hl:news.length=m * size) (hnews:0<m->∃ad,sa=some ad/\∀j u,news[j]?=some u->w.cell? (ad.add j)=some u) (h1:∀u ∈ news,u.oneCell'=true)
 (h63:n+m<=maxLen) (hbytes:(n+m) * bytes<=140737488355328) (hbase:base<=w.heap.size) (H:Nat) (hH:w.heap.size=H)
 (h:∀a2 c2 w',w'.ownsRow base e size (.slice a2 (n+m) c2) (n+m) (xs ++ news)->w.grownBy w' v.ownBlock->((Value.slice a2 (n+m) c2).ownBlock=v.ownBlock\/(Value.slice a2 (n+m) c2).ownBlock=some H)->K (a.put o.dst (.slice a2 (n+m) c2)) w'):Oper.wp P o a w K Q:=by
 by_cases hm:0<m
 . obtain ⟨ad,rfl,d⟩:=hnews hm;refine wp_append_lies w s x t f base e i z size bytes ht hi hz hsize hby hzs hsz v n xs hs hown ad m c news hx hl d h1 hm h63 hbytes hbase H hH fun g cap w' h2 h3 h4 _=>h _ _ _ h2 h3 ?_;rcases h4 with h4|h4
   . exact .inl h4.symm
   . exact .inr (by rw [h4];rfl)
 . obtain rfl:m=0:=by omega
   obtain rfl:news=[]:=X5 (by simpa using hl);obtain ⟨a2,c2,rfl⟩:=lT hown;have b:=ph (P:=P) (w:=w) base t o.type e i size ht hi _ n xs hown sa c;unfold Oper.wp;simp [execOp,f,resolve,invoke,builtin,hs,hx,b,Result.andThen];exact h a2 c2 w (by simpa using hown) (lA _ _) (.inl rfl)
theorem gz {P:Program} (w:World) {ops:Array Oper} {b:List Oper} {o:Oper} {a:Act} {Q:Exit->Act->World->Prop} (d:o.guard=none) (s x:Operand) (t:TypeId)
 (f:o.op=.call { callee:=.builtin .append,args:=#[s,x],argTypes:=#[t,t] })
 (base:Nat) (e:TypeId) (i:TypeInfo) (z:Value) (size bytes:Nat) (ht:P.underlying t=some (.slice e)) (hi:P.info? e=some i) (hz:i.zero=some z)
 (hsize:i.size=size) (hby:i.bytes=bytes) (hzs:z.cells.size=size) (hsz:0<size)
 (v:Value) (n:Nat) (xs:List Value) (hs:a.eval s=v) (hown:w.ownsRow base e size v n xs)
 (sa:Option Addr) (m c:Nat) (news:List Value) (hx:a.eval x=.slice sa m c) (hl:news.length=m * size) (hnews:0<m->∃ad,sa=some ad/\∀j u,news[j]?=some u->w.cell? (ad.add j)=some u) (h1:∀u ∈ news,u.oneCell'=true)
 (h63:n+m<=maxLen) (hbytes:(n+m) * bytes<=140737488355328) (hbase:base<=w.heap.size) (H:Nat) (hH:w.heap.size=H)
 (h:∀a2 c2 w',w'.ownsRow base e size (.slice a2 (n+m) c2) (n+m) (xs ++ news)->w.grownBy w' v.ownBlock->((Value.slice a2 (n+m) c2).ownBlock=v.ownBlock\/(Value.slice a2 (n+m) c2).ownBlock=some H)->wpList P ops Q b (a.put o.dst (.slice a2 (n+m) c2)) w'):wpList P ops Q (o :: b) a w :=
 wpList_plain d fun _ hK=>fE s x t f base e i z size bytes ht hi hz hsize hby hzs hsz v n xs hs hown sa m c news hx hl hnews h1 h63 hbytes hbase H hH fun a2 c2 w' h2 h3 h4=>hK _ _ (h a2 c2 w' h2 h3 h4)
def jV (k:Key2):List Value:=[.string k.1,.string k.2]
theorem um {M:List Key2} (i:Nat) (hi:i<M.length):(M.flatMap jV)[i * 2]?=some (.string M[i].1)/\(M.flatMap jV)[i * 2+1]?=some (.string M[i].2):=by
 induction M generalizing i with
 | nil=>simp at hi
 | cons k r ih =>
  rw [List.flatMap_cons];rcases i with _|i
  . exact ⟨rfl,rfl⟩
  . have:=ih i (by simpa using hi);rw [Y8 (by simp [jV];omega),Y8 (by simp [jV];omega)];have a:(i+1) * 2 - (jV k).length=i * 2:=by simp [jV];omega
    have b:(i+1) * 2+1 - (jV k).length=i * 2+1:=by simp [jV];omega
    rw [a,b];exact this
theorem yz {w:World} {k e:Nat} {v:Value} {n:Nat} {M:List Key2} (h:w.ownsRow k e 2 v n (M.flatMap jV)) (l:n=M.length) :
 ∃a c,v=.slice a M.length c/\qJ w k w.heap.size a M:=by
 subst l;rcases h.2 with ⟨rfl,h0⟩|⟨g,cap,cur,rfl,hg,hh,hc,hm,hs,ht⟩
 . exact ⟨none,0,by rw [h0],.inl (X5 h0)⟩
 . refine ⟨_,_,rfl,.inr ⟨g,0,rfl,hg,qz hh,fun i hi=>?_⟩⟩;have f:∀j,(⟨g,0,none⟩:Addr).add j=⟨g,0+j,none⟩:=fun j=>by unfold Addr.add;split <;> simp_all
   have b:=h.cells (g:=g) rfl _ _ (um i hi).1;have d:=h.cells (g:=g) rfl _ _ (um i hi).2;rw [f] at b d;exact ⟨b,by rw [Nat.add_assoc];exact d⟩
theorem below_grown {B:Nat} {W w w':World} {v:Value} (a:Below B W w) (f:B<=w.heap.size) (c:w.grownBy w' v.ownBlock) (d:∀b,v.ownBlock=some b->B<=b):Below B W w':=by refine ⟨by rw [c.os,a.os],by rw [c.tape,a.tape],by rw [c.output,a.output],Z3 a.size c.size,fun b hlt=>?_⟩;rw [c.block b (by omega) (fun e=>by have:=d b e.symm;omega)];exact a.block b hlt
def jW (v:JV) (w:World) (e:Ending) (w':World):Prop :=
 ∃an cn ai ci,e=.returned (.agg #[.int .u8 5,.int .i64 0,.string ⟨#[]⟩,.slice an v.names.length cn,.slice ai v.items.length ci]) /\
  Rep w' w.heap.size w'.heap.size v (.agg #[.int .u8 5,.int .i64 0,.string ⟨#[]⟩,.slice an v.names.length cn,.slice ai v.items.length ci])/\O5 w w'
def pU (v:JV) (w:World) (e:Ending) (w':World):Prop :=
 ∃an cn ai ci,e=.returned (.tuple #[.agg #[.int .u8 5,.int .i64 0,.string ⟨#[]⟩,.slice an v.names.length cn,.slice ai v.items.length ci],.int .i64 0]) /\
  Rep w' w.heap.size w'.heap.size v (.agg #[.int .u8 5,.int .i64 0,.string ⟨#[]⟩,.slice an v.names.length cn,.slice ai v.items.length ci])/\O5 w w'
