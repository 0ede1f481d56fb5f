import Derived.Test.YthgembbgcbaghaaGreatDoorDn00
import Derived.ProofKit
import Derived.OpenShut
import Derived.ChangeSame
import Derived.SliceStrings
import Derived.Deep.Slices
import Derived.Lib.SmallJoins
import Derived.Carry
import Derived.BigQuiet
import Derived.Deep.RegionHeld3
import Derived.Deep.QuietTactic
import Derived.Outline
import Derived.Laws.BitsAllLaws
import Derived.Lib.Builder
import Derived.Lib.AppendStr
import Derived.Lib.UnsafeStr
import Derived.Lib.FrozenHead2
import Derived.Lib.OthersKept
import Derived.Laws.Externs
import Derived.Lib.LazyBuf
import Derived.Laws.Rows
import Derived.Laws.IdiomStrings
import Derived.Laws.BytesArg
import Derived.Lib.BufferRead
set_option maxHeartbeats 400000
set_option maxRecDepth 100000

namespace Go.Proofs.YthgembbgcbaghaaGreatDoor
open Go.RowKit
def qF:JV:=.mk 0 0 ⟨#[]⟩ [] []
def zeroAggW:Value:=.agg #[.int .u8 0,.int .i64 0,.string ⟨#[]⟩,.slice none 0 0,.slice none 0 0]
theorem wn (w:World) (lo hi:Nat):Rep w lo hi qF zeroAggW:=by unfold qF Rep;exact ⟨none,0,none,0,rfl,Z9 _,Z9 _,.inl rfl,.inl rfl⟩
open Go.ChangeShapes Go.WideShapes Go.ChangeAt Go.Joins Go.Deep
mutual
def JV.fits:JV->Prop
 | .mk _ _ t ns xs=>t.size<=maxLen/\ns.length<=maxLen/\xs.length<=maxLen/\(∀s ∈ ns,s.size<=maxLen)/\JV.fitsL xs
def JV.fitsL:List JV->Prop
 | []=>True
 | x :: r=>JV.fits x/\JV.fitsL r
end
section
variable {H:Type} {enc:TypeId × Value->H} {P:Program} {w:World} {base:Nat} {spare:Nat->Bool} {held:Bool}
end
abbrev Key2:=ByteArray × ByteArray
def xv (w:World) (lo hi:Nat) (a:Option Addr) (l:List Key2):Prop :=
 l=[]\/∃b off,a=some ⟨b,off,none⟩/\lo<=b/\b<hi/\∀i (h:i<l.length),w.cell? ⟨b,off+i * 2,none⟩=some (.string l[i].1)/\w.cell? ⟨b,off+i * 2+1,none⟩=some (.string l[i].2)
theorem xv.at {w:World} {lo hi:Nat} {a:Option Addr} {l:List Key2} (h:xv w lo hi a l) (i:Nat) (hi':i<l.length) :
 ∃b off,a=some ⟨b,off,none⟩/\lo<=b/\b<hi/\w.cell? ⟨b,off+i * 2,none⟩=some (.string l[i].1)/\w.cell? ⟨b,off+i * 2+1,none⟩=some (.string l[i].2):=by
 rcases h with h|⟨b,off,ha,hb,hb',hr⟩
 . rw [h] at hi';simp at hi'
 . exact ⟨b,off,ha,hb,hb',hr i hi'⟩
theorem xv.carry {w w':World} {lo hi lo' hi':Nat} {a:Option Addr} {l:List Key2} (h:xv w lo hi a l) (d:lo'<=lo) (f:hi<=hi') (c:∀b,lo<=b->b<hi->w'.heap[b]?=w.heap[b]?):xv w' lo' hi' a l:=by
 rcases h with h|⟨b,off,ha,hb,hb',hr⟩
 . exact .inl h
 . refine .inr ⟨b,off,ha,by omega,by omega,fun i hi=>?_⟩;have e:∀o,w'.cell? ⟨b,o,none⟩=w.cell? ⟨b,o,none⟩:=fun o=>J9 (w:=w) (w':=w') (c b hb hb');rw [e,e];exact hr i hi
theorem xv.below {w w':World} {lo hi lo' hi' B:Nat} {a:Option Addr} {l:List Key2} (h:xv w lo hi a l) (e:Below B w w') (f:hi<=B) (c:lo'<=lo) (d:hi<=hi'):xv w' lo' hi' a l :=
 h.carry c d fun b _ hlt=>e.block b (by omega)
theorem qq {w:World} {p T j:Nat} {cs:Array Value} {u:Value} (b:w.heap[p]?=some (.cells cs T (0,0))) (a:cs[j]?=some u):w.cell? ⟨p,j,none⟩=some u:=by simp [World.cell?,b,a]
theorem qz {w:World} {p:Nat} {o:Obj} (h:w.heap[p]?=some o):p<w.heap.size:=(H0.1 h).1
def jo (x:Int) (n:Nat):Int:=x % 2 ^ n * 2 ^ (32 - n)+x / 2 ^ n
def gh (a b:Int):Int:=bits .xor .u32 a b
def rX (a b:Int):Int:=bits .and .u32 a b
def ow (a:Int):Int:=bits .xor .u32 IntKind.u32.max a
def xX (a b:Int):Int:=(a+b) % 4294967296
def sg0 (x:Int):Int:=gh (gh (jo x 7) (jo x 18)) (x / 8)
def sg1 (x:Int):Int:=gh (gh (jo x 17) (jo x 19)) (x / 1024)
def bg0 (x:Int):Int:=gh (gh (jo x 2) (jo x 13)) (jo x 22)
def bg1 (x:Int):Int:=gh (gh (jo x 6) (jo x 11)) (jo x 25)
def chc (e f g:Int):Int:=gh (rX e f) (rX (ow e) g)
def maj (a b c:Int):Int:=gh (gh (rX a b) (rX a c)) (rX b c)
def be4 (p:Nat->Int) (i:Nat):Int:=p (4 * i) * 16777216+p (4 * i+1) * 65536+p (4 * i+2) * 256+p (4 * i+3)
def gV (p:Nat->Int):Nat->List Int
 | 0=>[]
 | n+1=>let l:=gV p n
  l ++ [if n<16 then be4 p n else xX (xX (xX (l.getD (n - 16) 0) (sg0 (l.getD (n - 15) 0))) (l.getD (n - 7) 0)) (sg1 (l.getD (n - 2) 0))]
def wrd (p:Nat->Int) (i:Nat):Int:=(gV p (i+1)).getD i 0
structure S8 where
 (a b c d e f g h:Int)
def S8.at (s:S8):Nat->Int
 | 0=>s.a|1=>s.b|2=>s.c|3=>s.d|4=>s.e|5=>s.f|6=>s.g|_=>s.h
def kays:List Int:=[0x428a2f98,0x71374491,0xb5c0fbcf,0xe9b5dba5,0x3956c25b,0x59f111f1,0x923f82a4,0xab1c5ed5,
 0xd807aa98,0x12835b01,0x243185be,0x550c7dc3,0x72be5d74,0x80deb1fe,0x9bdc06a7,0xc19bf174,
 0xe49b69c1,0xefbe4786,0x0fc19dc6,0x240ca1cc,0x2de92c6f,0x4a7484aa,0x5cb0a9dc,0x76f988da,
 0x983e5152,0xa831c66d,0xb00327c8,0xbf597fc7,0xc6e00bf3,0xd5a79147,0x06ca6351,0x14292967,
 0x27b70a85,0x2e1b2138,0x4d2c6dfc,0x53380d13,0x650a7354,0x766a0abb,0x81c2c92e,0x92722c85,
 0xa2bfe8a1,0xa81a664b,0xc24b8b70,0xc76c51a3,0xd192e819,0xd6990624,0xf40e3585,0x106aa070,
 0x19a4c116,0x1e376c08,0x2748774c,0x34b0bcb5,0x391c0cb3,0x4ed8aa4a,0x5b9cca4f,0x682e6ff3,
 0x748f82ee,0x78a5636f,0x84c87814,0x8cc70208,0x90befffa,0xa4506ceb,0xbef9a3f7,0xc67178f2]
def kay (i:Nat):Int:=kays.getD i 0
def vE:S8:=⟨0x6a09e667,0xbb67ae85,0x3c6ef372,0xa54ff53a,0x510e527f,0x9b05688c,0x1f83d9ab,0x5be0cd19⟩
def first (k x:Int) (s:S8):Int:=xX (xX (xX (xX s.h (bg1 s.e)) (chc s.e s.f s.g)) k) x
def rnd (k x:Int) (s:S8):S8:=⟨xX (xX (first k x s) (bg0 s.a)) (maj s.a s.b s.c),s.a,s.b,s.c,xX s.d (first k x s),s.e,s.f,s.g⟩
def ws (p:Nat->Int) (s:S8):Nat->S8
 | 0=>s
 | n+1=>rnd (kay n) (wrd p n) (ws p s n)
def S8.add (s t:S8):S8:=⟨xX s.a t.a,xX s.b t.b,xX s.c t.c,xX s.d t.d,xX s.e t.e,xX s.f t.f,xX s.g t.g,xX s.h t.h⟩
def wF (s:S8) (p:Nat->Int):S8:=s.add (ws p s 64)
theorem kr (p:Nat->Int):∀n,(gV p n).length=n
 | 0=>rfl
 | n+1=>by simp [gV,kr p n]
theorem kn (p:Nat->Int) (i:Nat):∀n,i<n->(gV p n).getD i 0=wrd p i
 | 0,h=>by omega
 | n+1,h=>by
  by_cases e:i=n
  . subst e;rfl
  . rw [<- kn p i n (by omega)];simp only [gV,X7];rw [Y8 (by rw [kr];omega)]
theorem rK (p:Nat->Int) (n:Nat) (h:n<16):wrd p n=be4 p n:=by unfold wrd;simp only [gV,X7];rw [X8 (by rw [kr];omega),kr];simp [h]
theorem rV (p:Nat->Int) (n:Nat) (h:16<=n):wrd p n=xX (xX (xX (wrd p (n - 16)) (sg0 (wrd p (n - 15)))) (wrd p (n - 7))) (sg1 (wrd p (n - 2))):=by
 conv=>lhs;unfold wrd
 simp only [gV,X7];rw [X8 (by rw [kr];omega),kr];simp only [Nat.sub_self,List.getElem?_cons_zero,Option.getD_some,Z6 (show ¬n<16 by omega)];simp only [<- X7];rw [kn p (n - 16) n (by omega),kn p (n - 15) n (by omega),kn p (n - 7) n (by omega),kn p (n - 2) n (by omega)]
theorem xF (a b:Int):0<=xX a b/\xX a b<4294967296:=by unfold xX;omega
def w32 (x:Int):Prop:=0<=x/\x<4294967296
theorem tQ (a b c d:Int) (i:0<=a/\a<=255) (j:0<=b/\b<=255) (k:0<=c/\c<=255) (l:0<=d/\d<=255) :
 bits .or .u32 (bits .or .u32 (bits .or .u32 (a % 4294967296 * 16777216 % 4294967296) (b % 4294967296 * 65536 % 4294967296)) (c % 4294967296 * 256 % 4294967296)) (d % 4294967296) =
  a * 16777216+b * 65536+c * 256+d:=by
 obtain ⟨a,rfl⟩:=N8 i.1;obtain ⟨b,rfl⟩:=N8 j.1;obtain ⟨c,rfl⟩:=N8 k.1;obtain ⟨d,rfl⟩:=N8 l.1;have e:((a:Int) % 4294967296 * 16777216 % 4294967296)=((a * 16777216:Nat):Int):=by omega
 have f:((b:Int) % 4294967296 * 65536 % 4294967296)=((b * 65536:Nat):Int):=by omega
 have g:((c:Int) % 4294967296 * 256 % 4294967296)=((c * 256:Nat):Int):=by omega
 have h:((d:Int) % 4294967296)=((d:Nat):Int):=by omega
 rw [e,f,g,h,u32_or_nat _ _ (by omega) (by omega),nat_join 24 _ _ (by omega) (by omega),u32_or_nat _ _ (by omega) (by omega),nat_join 16 _ _ (by omega) (by omega),u32_or_nat _ _ (by omega) (by omega),nat_join 8 _ _ (by omega) (by omega)];omega
theorem dw (p:Nat->Int) (a:∀i,i<64->0<=p i/\p i<=255) (i:Nat):w32 (wrd p i):=by
 by_cases h:i<16
 . rw [rK p i h];unfold be4 w32;have:=a (4 * i) (by omega);have:=a (4 * i+1) (by omega);have:=a (4 * i+2) (by omega);have:=a (4 * i+3) (by omega);omega
 . rw [rV p i (by omega)];exact xF _ _
def S8.ok (s:S8):Prop:=w32 s.a/\w32 s.b/\w32 s.c/\w32 s.d/\w32 s.e/\w32 s.f/\w32 s.g/\w32 s.h
theorem tZ {k x:Int} {s:S8} (h:s.ok):(rnd k x s).ok:=by obtain ⟨a,b,c,g,d,e,f,i⟩:=h;exact ⟨xF _ _,a,b,c,xF _ _,d,e,f⟩
theorem dy (p:Nat->Int) {s:S8} (h:s.ok):∀n,(ws p s n).ok
 | 0=>h
 | n+1=>tZ (dy p h n)
theorem tX (s t:S8):(s.add t).ok:=⟨xF _ _,xF _ _,xF _ _,xF _ _,xF _ _,xF _ _,xF _ _,xF _ _⟩
theorem rW:vE.ok:=by unfold S8.ok vE w32;simp
theorem rY (s:S8) (p:Nat->Int):(wF s p).ok:=tX _ _
theorem im (k x:Int) (s:S8):(s.h+bg1 s.e+chc s.e s.f s.g+k+x+bg0 s.a+maj s.a s.b s.c) % 4294967296=(rnd k x s).a:=by show _=xX (xX (first k x s) (bg0 s.a)) (maj s.a s.b s.c);unfold first xX;omega
theorem il (k x:Int) (s:S8):(s.d+(s.h+bg1 s.e+chc s.e s.f s.g+k+x)) % 4294967296=(rnd k x s).e:=by show _=xX s.d (first k x s);unfold first xX;omega
theorem tJ (s t:S8) (j:Nat):(s.add t).at j=xX (s.at j) (t.at j):=by rcases j with _|_|_|_|_|_|_|j <;> rfl
def jY (l:List UInt8) (i:Nat):Int:=((l.getD i 0).toNat:Int)
def jt (l:List UInt8):Nat->S8
 | 0=>vE
 | n+1=>wF (jt l n) (fun j=>jY l (64 * n+j))
theorem ug (l:List UInt8):∀n,(jt l n).ok
 | 0=>rW
 | _+1=>rY _ _
theorem rG (l:List UInt8) (i:Nat):0<=jY l i/\jY l i<=255:=by unfold jY;have:=(l.getD i 0).toNat_lt;omega
theorem gW {p q:Nat->Int} (h:∀j,j<64->p j=q j):∀n,gV p n=gV q n
 | 0=>rfl
 | n+1=>by
  simp only [gV,gW h n];by_cases hn:n<16
  . simp only [Q1 hn];unfold be4;rw [h _ (by omega),h _ (by omega),h _ (by omega),h _ (by omega)]
  . simp only [Z6 hn]
theorem gY {p q:Nat->Int} (h:∀j,j<64->p j=q j) (s:S8):∀n,ws p s n=ws q s n
 | 0=>rfl
 | n+1=>by simp only [ws,gY h s n,wrd,gW h (n+1)]
theorem yL {p q:Nat->Int} (h:∀j,j<64->p j=q j) (s:S8):wF s p=wF s q:=by unfold wF;rw [gY h]
theorem yR {l m:List UInt8}:∀n,(∀i,i<64 * n->jY l i=jY m i)->jt l n=jt m n
 | 0,_=>rfl
 | n+1,h=>by simp only [jt];rw [yR n fun i hi=>h i (by omega)];exact yL (fun j hj=>h _ (by omega)) _
def be8 (n:Nat) (j:Nat):Int:=(n:Int) / 2 ^ (56 - 8 * j) % 256
def u8 (i:Int):UInt8:=UInt8.ofNat i.toNat
theorem vy {i:Int} (h:0<=i) (a:i<256):((u8 i).toNat:Int)=i:=by unfold u8;rw [UInt8.toNat_ofNat'];omega
def yf (n:Nat):List UInt8:=(List.range 8).map fun j=>u8 (be8 n j)
theorem rB (n j:Nat):0<=be8 n j/\be8 n j<256:=by unfold be8;omega
theorem rP (n j:Nat) (a:j<(yf n).length):((yf n)[j].toNat:Int)=be8 n j:=by simp only [yf,N4,List.getElem_range];exact vy (rB n j).1 (rB n j).2
def yh (x:Int):List UInt8:=[u8 (x / 16777216 % 256),u8 (x / 65536 % 256),u8 (x / 256 % 256),u8 (x % 256)]
def pm (s:S8):Nat->List UInt8
 | 0=>[]
 | k+1=>pm s k ++ yh (s.at k)
def yu (l:List UInt8):List UInt8:=l ++ (128 :: List.replicate ((119 - l.length % 64) % 64) 0) ++ yf (l.length * 8)
def zW (l:List UInt8):List UInt8:=pm (jt (yu l) ((yu l).length / 64)) 8
theorem yN (s:S8):∀k,(pm s k).length=4 * k
 | 0=>rfl
 | k+1=>by simp [pm,yN s k,yh];omega
theorem jv (l:List UInt8):(zW l).length=32:=yN _ 8
theorem pd (l:List UInt8):(yu l).length=l.length+9+(119 - l.length % 64) % 64:=by unfold yu yf;simp;omega
theorem yS:∃j,Tryz.prog.info? 228=some j/\j.size=2:=by
 have h:(Tryz.prog.info? 228).map (·.size)=some 2:=by kernel_rfl
 obtain ⟨j,a,b⟩:=Option.map_eq_some_iff.1 h;exact ⟨j,a,b⟩
theorem liesBuilder:liesAt Tryz.prog Tryz.prog.depth 228 (2 / Tryz.prog.cellsOf 228) 0 228 1=true:=by kernel_rfl
theorem infoByte:(Tryz.prog.info? 5).map (fun i=>(i.zero,i.size,i.bytes))=some (some (.int .u8 0),1,1):=by kernel_rfl
theorem cellsByte:Tryz.prog.cellsOf 5=1:=by kernel_rfl
abbrev wi (B b:Nat) (bs:List Value) (w:World):Prop:=Lib.IsBuilderF 228 5 B b bs w
abbrev fZ (B b:Nat) (bs:List Value) (w:World):Prop:=Lib.BuilderAtF 228 5 B b (.pointer (some ⟨b,0,none⟩)) bs w
abbrev Kept (b:Nat) (w w':World):Prop:=Lib.OthersKept 5 (some b) w w'
theorem gG (b:Nat) (w:World) (c:w.cell? ⟨b,0,none⟩=some (.pointer (some ⟨b,0,none⟩))) :
 Calls Tryz.prog 254 #[.pointer (some ⟨b,0,none⟩)] w fun e w'=>e=.returned (.tuple #[])/\w'=w:=by
 obtain ⟨j,a,_⟩:=yS;go_enter Tryz.func254,Tryz.ntmps254;go_wp2;rw [Lib.run_neq_ptr_same w _ Tryz.underlying226 a];go_wp2
 go_end0
 exact ⟨rfl,rfl⟩
theorem gu (b:Nat) (w:World) (g:w.cell? ⟨b,0,none⟩=some (.pointer none)) (d:w.shape? b=some (228,2)) (f:w.frozen? ⟨b,0,none⟩=false) :
 Calls Tryz.prog 254 #[.pointer (some ⟨b,0,none⟩)] w fun e w'=>e=.returned (.tuple #[])/\w'=w.setCell ⟨b,0,none⟩ (.pointer (some ⟨b,0,none⟩)):=by
 obtain ⟨j,c,a⟩:=yS;go_enter Tryz.func254,Tryz.ntmps254;go_wp2;rw [Lib.run_to_unsafe w ⟨b,0,none⟩ Tryz.underlying226 Tryz.underlying279 c (by rw [a];decide) d (Nat.zero_lt_succ 1)];simp only [Result.andThen];rw [Oper.upon_value];go_wp2;rw [run_callFunc_extern Tryz.func272 (by kernel_rfl) (by kernel_rfl) (by kernel_rfl) (e:=Extern.AbiNoEscape.same) (by kernel_rfl)];rw [Lib.run_noEscape];simp only [Result.andThen];rw [Oper.upon_value];go_wp2;rw [Lib.run_from_unsafe w ⟨b,0,none⟩ Tryz.underlying279 Tryz.underlying226 c d liesBuilder];simp only [Result.andThen];rw [Oper.upon_value];go_wp2
 go_end0
 exact ⟨rfl,rfl⟩
theorem pW (B b:Nat) (a:List Value) (w:World) (h:wi B b a w) :
 Calls Tryz.prog 254 #[.pointer (some ⟨b,0,none⟩)] w fun e w'=>e=.returned (.tuple #[])/\(fZ B b a w'/\Below B w w'/\Kept b w w'):=by
 rcases h with h|h
 . refine (gu b w h.cell0 h.shape h.frozen0).mono ?_;rintro e w' ⟨rfl,rfl⟩;exact ⟨rfl,h.used _,(Z0 B w).setCell (p:=⟨b,0,none⟩) h.1 _,(H8 _ _ w).setCell ⟨b,0,none⟩ rfl _⟩
 . refine (gG b w h.cell0).mono ?_;rintro e w' ⟨rfl,rfl⟩;exact ⟨rfl,h,Z0 B _,H8 _ _ _⟩
theorem zX (B b:Nat) (H:List Value) (c:Int) (w:World) (h:wi B b H w) (I:H.length+1<=140737488355328) (J:B<=w.heap.size) :
 Calls Tryz.prog 233 #[.pointer (some ⟨b,0,none⟩),.int .u8 c] w fun e w'=>e=.returned .nilIface/\(fZ B b (H ++ [.int .u8 c]) w'/\Below B w w'/\Kept b w w'):=by
 obtain ⟨C,hi,s,x,y⟩:=V2 infoByte;go_enter Tryz.func233,Tryz.ntmps233;go_wp2_with (go_at_call 254;refine (pW B b H _ h).mono ?_);rintro e m ⟨rfl,A,f,o⟩;obtain ⟨z,v,l,a,r⟩:=A;have D:m.cell? ⟨b,0,none⟩=some (.pointer (some ⟨b,0,none⟩)):=by rw [G5 l];rfl
 have c1:m.cell? ⟨b,1,none⟩=some v:=by rw [G5 l];rfl
 go_wp2_with (at_builtin;refine wpList_append_ownF _ rfl _ _ 114 rfl B 5 C (.int .u8 0) 1 1 V0 hi s x y rfl (by decide) _ _ _ rfl (a.alloc _) ⟨m.heap.size,0,none⟩ 1 1 [.int .u8 c] rfl rfl ?c1 ?c2 ?c3 ?c4 ?c5 ?_)
 case c1 =>
  intro j u hj
  match j,hj with
  | 0,hj=>simp at hj;subst hj;simp [Addr.add]
 case c2=>intro u hu;simp at hu;subst hu;rfl
 case c3=>unfold maxLen;omega
 case c4=>omega
 case c5=>have:=f.size;simp;omega
 intro v' w2 hown' hgrow _;have q:b<m.heap.size:=by
  rcases Nat.lt_or_ge b m.heap.size with h'|h'
  . exact h'
  . simp [Array.getElem?_eq_none h'] at l
 have i:w2.heap[b]?=some (.cells #[.pointer (some ⟨b,0,none⟩),v] 228 (0,0)):=(by rw [hgrow.block b (by simp;omega) (fun e=>r e.symm),Lib.alloc_old m _ b q];exact l);have E:w2.cell? ⟨b,0,none⟩=some (.pointer (some ⟨b,0,none⟩)):=by rw [G5 i];rfl
 have F:w2.cell? ⟨b,1,none⟩=some v:=by rw [G5 i];rfl
 have G:w2.frozen? ⟨b,1,none⟩=false:=Lib.frozen_of_heap i 1;obtain ⟨g,d,rfl⟩:∃g d,v'=.slice (some ⟨g,0,none⟩) (H.length+1) d:=by
  rcases hown'.2 with ⟨_,h0⟩|⟨g,d,cur,fz,hv,_⟩
  . omega
  . exact ⟨g,d,hv⟩
 go_wp2;go_ret;refine ⟨rfl,?_,?_,((o.alloc _).grown hgrow (Lib.ownsRowF_kind (a.alloc _))).setCell ⟨b,1,none⟩ rfl _⟩
 . exact Lib.BuilderAtF.put (T:=228) (e:=5) z i (bs':=H ++ [.int .u8 c]) (by simpa using hown') (by decide)
 . exact ((f.alloc (by have:=f.size;omega) _).grown hgrow (by have:=f.size;simp;omega) (fun k hk=>(a.lt k hk).1)).setCell (p:=⟨b,1,none⟩) z _
theorem j6 (B b:Nat) (I:List Value) (s:ByteArray) (w:World) (h:wi B b I w) (J:I.length+s.size<=140737488355328) (K:B<=w.heap.size) :
 Calls Tryz.prog 230 #[.pointer (some ⟨b,0,none⟩),.string s] w fun e w'=>e=.returned (.tuple #[.int .i64 s.size,.nilIface])/\(fZ B b (I ++ Lib.strCells s) w'/\Below B w w'/\Kept b w w'):=by
 obtain ⟨C,hi,q,r,u⟩:=V2 infoByte;go_enter Tryz.func230,Tryz.ntmps230;go_wp2_with (go_at_call 254;refine (pW B b I _ h).mono ?_);rintro e j ⟨rfl,A,i,l⟩;obtain ⟨y,v,d,a,o⟩:=A;have D:j.cell? ⟨b,0,none⟩=some (.pointer (some ⟨b,0,none⟩)):=by rw [G5 d];rfl
 have E:j.cell? ⟨b,1,none⟩=some v:=by rw [G5 d];rfl
 go_wp2_with (at_builtin;refine Lib.wpList_append_own_stringF _ rfl _ _ 114 9 rfl B 5 C V0 X0 hi q r u _ _ _ rfl a s rfl ?c3 ?c4 ?c5 ?_)
 case c3=>unfold maxLen;omega
 case c4=>omega
 case c5=>have:=i.size;omega
 intro v' w2 hown' hgrow _;have m:b<j.heap.size:=by
  rcases Nat.lt_or_ge b j.heap.size with h'|h'
  . exact h'
  . simp [Array.getElem?_eq_none h'] at d
 have c:w2.heap[b]?=some (.cells #[.pointer (some ⟨b,0,none⟩),v] 228 (0,0)):=(by rw [hgrow.block b m (fun e=>o e.symm)];exact d);have F:w2.cell? ⟨b,0,none⟩=some (.pointer (some ⟨b,0,none⟩)):=by rw [G5 c];rfl
 have G:w2.cell? ⟨b,1,none⟩=some v:=by rw [G5 c];rfl
 have H:w2.frozen? ⟨b,1,none⟩=false:=Lib.frozen_of_heap c 1;obtain ⟨x,z,f,rfl⟩:∃x z f,v'=.slice x z f:=by
  rcases hown'.2 with ⟨hv,_⟩|⟨g,f,cur,fz,hv,_⟩
  . exact ⟨_,_,_,hv⟩
  . exact ⟨_,_,_,hv⟩
 go_wp2;go_ret2;refine ⟨rfl,?_,?_,(l.grown hgrow (Lib.ownsRowF_kind a)).setCell ⟨b,1,none⟩ rfl _⟩
 . exact Lib.BuilderAtF.put (T:=228) (e:=5) y c (bs':=I ++ Lib.strCells s) (by simpa [Lib.strCells_length] using hown') (by decide)
 . exact (i.grown hgrow (by have:=i.size;omega) (fun k hk=>(a.lt k hk).1)).setCell (p:=⟨b,1,none⟩) y _
theorem v8 (B b:Nat) (l:List UInt8) (w:World) (h:wi B b (Lib.byteCells l) w) (h0:l≠[]) :
 Calls Tryz.prog 234 #[.pointer (some ⟨b,0,none⟩)] w fun e w'=>e=.returned (.string ⟨l.toArray⟩)/\Below B w w'/\Kept b w w':=by
 obtain ⟨p,m⟩:∃p,Lib.BuilderAtF 228 5 B b p (Lib.byteCells l) w:=by
  rcases h with h|h
  . exact ⟨_,h⟩
  . exact ⟨_,h⟩
 obtain ⟨I,v,k,d,C⟩:=m;have A:l.length≠0:=by simpa using h0
 rw [Lib.byteCells_length] at d;obtain ⟨g,a,c,f,rfl,o,y,u,G,q,s,i⟩:∃g a c f,v=.slice (some ⟨g,0,none⟩) l.length a/\B<=g/\w.heap[g]?=some (.cells c 5 f)/\f.2<=l.length * 1/\l.length<=a/\a<=maxLen/\c.size=a * 1/\c.toList.take (l.length * 1)=Lib.byteCells l:=by
  rcases d.2 with ⟨_,hz⟩|⟨g,a,c,f,hv,r⟩
  . exact absurd hz A
  . exact ⟨g,a,c,f,hv,r⟩
 have H:w.drew.cell? ⟨b,1,none⟩=some (.slice (some ⟨g,0,none⟩) l.length a):=(by have:w.drew.heap[b]?=some (.cells #[p,.slice (some ⟨g,0,none⟩) l.length a] 228 (0,0)):=k;rw [G5 this];rfl);have E:(Builtin.unsafeSliceData_ #[114] 260 #[.slice (some ⟨g,0,none⟩) l.length a]).run Tryz.prog w.drew=.ok (.pointer (some ⟨g,0,none⟩)) w.drew :=
  Lib.run_unsafeSliceData_row _ _ _ _ _ _ (by omega)
 have F:(Builtin.unsafeString_ #[260,3] 9 #[.pointer (some ⟨g,0,none⟩),.int .i64 l.length]).run Tryz.prog w.drew=.ok (.string ⟨l.toArray⟩) (w.drew.freeze ⟨g,0,none⟩ l.length):=(by refine Lib.run_unsafeString_row w.drew 260 3 9 5 Tryz.underlying260 cellsByte g c.size (by have z:w.drew.heap[g]?=some (.cells c 5 f):=y;simp [World.shape?,z]) l h0 (by omega) (by unfold maxLen at q;omega) ?_;intro j x hx;have:=d.cells (g:=g) rfl j (.int .u8 x.toNat) (by simp [Lib.byteCells,hx]);exact this);have D:=O0 (Below B w (w.drew.freeze ⟨g,0,none⟩ l.length)/\Kept b w (w.drew.freeze ⟨g,0,none⟩ l.length)) (⟨Lib.below_freeze (Below.drew (Z0 B w)) (p:=⟨g,0,none⟩) o _,((H8 _ _ w).drew).freeze ⟨g,0,none⟩ _ ⟨c,f,y⟩⟩);clear d k C y i s u;go_enter Tryz.func234,Tryz.ntmps234;go_wp2
 go_region
 all_goals (go_wp2;go_ret;exact ⟨rfl,D.o⟩)
section
variable {P:Program}
theorem jG {S:Nat->Prop} {b:Nat} {a:World} (hb:S b\/a.heap.size<=b):∀(vs:List Value) (o:Nat) (w:World),Touch S a w->Touch S a (w.setCells b o vs)
 | [],_,_,h=>h
 | v :: r,o,_,h=>jG hb r (o+1) _ (h.setCell hb v)
theorem fX (w:World) (g k l e:TypeId) (b o d f:Nat) (s:ByteArray)
 (h:P.underlying g=some (.slice e)) (i:∀w,(Go.sizeOf e).run P w=.ok 1 w)
 (hc:∀j,j<Nat.min s.size d->(w.cell? ⟨b,o+j,none⟩).isSome=true) (hf:∀j,j<Nat.min s.size d->w.frozen? ⟨b,o+j,none⟩=false) :
 (Builtin.copy_ #[g,k] l #[.slice (some ⟨b,o,none⟩) d f,.string s]).run P w=.ok (goInt (Nat.min s.size d)) (w.setCells b o ((s.data.toList.map fun x=>Value.int .u8 (x.toNat:Int)).take (Nat.min s.size d))):=by
 have c:((s.data.toList.map fun x=>Value.int .u8 (x.toNat:Int)).take (Nat.min s.size d)).length=Nat.min s.size d:=(by rw [List.length_take,J6,qd];exact Nat.min_eq_left (Nat.min_le_left _ _));have a:=run_storeCells_cells (P:=P) b o ((s.data.toList.map fun x=>Value.int .u8 (x.toNat:Int)).take (Nat.min s.size d)) 0 w (by rw [c];simpa using hc) (by rw [c];simpa using hf) (by
  intro v hv;obtain ⟨x,_,rfl⟩:=V8.1 (List.mem_of_mem_take hv);rfl)
 simp [Builtin.copy_,run_underlying h,Builtin.lenOf,Builtin.firstCells,i];rw [a];rfl
def dg (s:ByteArray) (i:Nat):Int:=((s.data.toList.getD i 0).toNat:Int)
theorem gm {w:World} {ops:Array Oper} {i:List Oper} {o:Oper} {a:Act} {Q:Exit->Act->World->Prop} (l:o.guard=none) (d x:Operand) (k m:TypeId)
 (p:o.op=.call { callee:=.builtin .copy,args:=#[d,x],argTypes:=#[k,m] }) (elem:TypeId) (hu:P.underlying k=some (.slice elem)) (hz:∀w,(Go.sizeOf elem).run P w=.ok 1 w)
 (b off dLen dCap:Nat) (s:ByteArray) (hd:a.eval d=.slice (some ⟨b,off,none⟩) dLen dCap) (hs:a.eval x=.string s)
 (t N:Nat) (f:Nat->Value) (hr:w.rowIs b t N f) (n:Nat) (hn:n=Nat.min s.size dLen) (hfit:off+n<=N)
 (h:∀w',Hid (w'.rowIs b t N (fun j=>if off<=j/\j<off+n then .int .u8 (dg s (j - off)) else f j))->Hid (Touch (· = b) w w')->wpList P ops Q i (a.put o.dst (goInt n)) w') :
 wpList P ops Q (o :: i) a w:=by
 refine wpList_plain l fun K hK=>?_;have c:=fX (P:=P) w k m o.type elem b off dLen dCap s hu hz (fun j hj=>by rw [hr.cell (by omega)];rfl) (fun j hj=>hr.frozen _);rw [<- hn] at c;unfold Oper.wp;simp [execOp,p,resolve,invoke,builtin,hd,hs,c,Result.andThen];refine hK _ _ (h _ ?_ (jG (S:=(· = b)) (b:=b) (a:=w) (.inl rfl) _ _ _ (Touch.refl _ _)));have g:((s.data.toList.map fun x=>Value.int .u8 (x.toNat:Int)).take n).length=n:=(by rw [List.length_take,J6,qd,hn];exact Nat.min_eq_left (Nat.min_le_left _ _));refine (rowIs_setCells _ off w f hr).congr fun j hj=>?_;rw [g];by_cases e:off<=j/\j<off+n
 . rw [Q1 e,Q1 e,List.getElem?_take_of_lt (by omega),List.getElem?_map];unfold dg;rw [X7];have:j - off<s.data.toList.length:=by rw [qd];have:n<=s.size:=hn ▸ Nat.min_le_left _ _;omega
   rw [V5 this];rfl
 . rw [Z6 e,Z6 e]
theorem rF {n:Nat} {f:Nat->Value} (h:∀i,i<n->(f i).oneCell'=true) (c:Array Value) (b:c.size=n) (d:∀i,i<n->c[i]?=some (f i)):∀v ∈ c.toList,v.oneCell'=true:=by
 intro v hv;obtain ⟨i,hi,rfl⟩:=Y1 hv;have a:i<n:=by simpa [b] using hi
 have:=d i a;rw [V1 (by omega)] at this;have e:c.toList[i]=f i:=by simpa using J0 this
 rw [e];exact h i a
theorem wpList_store_row {w:World} {ops:Array Oper} {d:List Oper} {o:Oper} {a:Act} {Q:Exit->Act->World->Prop} (m:o.guard=none) (q:TypeId) (x y:Operand)
 (s:o.op=.store q x y) (g t n:Nat) (f l:Nat->Value) (u:a.eval x=.pointer (some ⟨g,0,none⟩)) (p:w.rowIs g t n f) (cs:Array Value) (v:a.eval y=.agg cs) (k:cs.size=n) (e:∀i,i<n->cs[i]?=some (l i))
 (r:∀i,i<n->(l i).oneCell'=true) (hi:∀w,(Go.sizeOf q).run P w=.ok n w)
 (h:∀w',Hid (w'.rowIs g t n l)->Hid (Touch (· = g) w w')->wpList P ops Q d (a.put o.dst undef) w'):wpList P ops Q (o :: d) a w:=by
 refine wpList_plain m fun K hK=>?_;have c:=run_storeCells_cells (P:=P) g 0 cs.toList 0 w (fun j hj=>by simp at hj;rw [p.cell (i:=0+0+j) (by omega)];rfl) (fun j _=>p.frozen _) (rF r cs k e);unfold Oper.wp execOp;simp only [s,u,v,Instr.storeAt,Instr.sureAddr,Sem.run_bind,Sem.run_pure,Result.andThen_ok,storeVar,Value.cells,hi];simp [k,c,Oper.upon];refine hK _ _ (h _ ?_ (jG (S:=(· = g)) (b:=g) (a:=w) (.inl rfl) _ _ _ (Touch.refl _ _)));refine (rowIs_setCells _ 0 w f p).congr fun j hj=>?_;rw [Q1 (by simp;omega)];have:=e j hj;simp at this ⊢;rw [this];rfl
theorem wH {w:World} {ops:Array Oper} {k:List Oper} {o:Oper} {a:Act} {Q:Exit->Act->World->Prop} (m:o.guard=none) (l:TypeId) (x:Operand) (q:o.op=.load l x)
 (g t n:Nat) (f:Nat->Value) (u:a.eval x=.pointer (some ⟨g,0,none⟩)) (r:w.rowIs g t n f) (d:TypeDesc)
 (s:P.underlying l=some d) (p:(match d with | .struct _ | .array _ _=>true|_=>false)=true) (hi:(P.info? l).map (·.size)=some n)
 (h:∀cs:Array Value,Hid (cs.size=n)->Hid (∀i,i<n->cs[i]?=some (f i))->wpList P ops Q k (a.put o.dst (.agg cs)) w):wpList P ops Q (o :: k) a w:=by
 obtain ⟨c,e,b,j⟩:=r;exact wpList_load_row m l x q g u t c (0,0) d e s p (by rw [b];exact hi) (h c b j)
theorem gB {T N E:Nat} (d:P.underlying T=some (.array N E)) (e:∀w,(Go.sizeOf E).run P w=.ok 1 w) (b o u:Nat) (f:u<N) (w:World) :
 (Instr.sliceAt T (.pointer (some ⟨b,o,none⟩)) (some (.int .i64 (u:Int))) none none).run P w=.ok (.slice (some ⟨b,o+u,none⟩) (N - u) (N - u)) w:=by
 have c:(0:Int)<=u/\(u:Int)<=N:=by omega
 have a:(⟨b,o,none⟩:Addr).add u=⟨b,o+u,none⟩:=by unfold Addr.add;split <;> simp_all
 simp [Instr.sliceAt,run_underlying d,Instr.sureAddr,Instr.sliceBounds,Instr.sliceBound,asIntOf,e,show u<=N by omega];rw [Z6 (by omega),a]
theorem xH {w:World} {d:Nat} {v:Value} {n:Nat} {l:List UInt8} (c b e:TypeId) (k:P.underlying c=some (.slice e)) (i:P.underlying e=some (.int .u8)) (f:P.underlying b=some .string)
 (h:w.ownsRow d e 1 v n (Lib.byteCells l)):(convert c b v).run P w=.ok (.string ⟨l.toArray⟩) w:=by
 have a:l.length=n:=by have:=h.1;simpa [Lib.byteCells] using this
 rcases h.2 with ⟨rfl,h0⟩|⟨g,cap,cur,rfl,hg⟩
 . have:l=[]:=J4 (by omega);subst this;exact Lib.run_convert_nil_bytes w c b e 0 k i f
 . subst a;refine run_convert_bytes_back w c b e ⟨g,0,none⟩ cap l k i f fun j hj=>?_;refine h.cells rfl j _ ?_;simp [Lib.byteCells,List.getElem?_eq_getElem hj]
end
