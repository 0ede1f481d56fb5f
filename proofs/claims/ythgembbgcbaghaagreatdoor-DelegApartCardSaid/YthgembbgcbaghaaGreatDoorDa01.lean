/- Laws of single operations that the walks lean on: copy of a text into a row; a whole row loaded, a whole row stored. Over any program. -/
import Derived.Test.YthgembbgcbaghaaGreatDoorDa00
import Derived.ProofKit
import Derived.OpenShut
import Derived.ChangeSame
import Derived.SliceStrings
import Derived.Deep.Slices
import Derived.Lib.SmallJoins
import Derived.Carry
import Derived.BigQuiet
import Derived.Deep.RegionHeld3
import Derived.Deep.QuietTactic
import Derived.Outline
import Derived.Laws.BitsAllLaws
import Derived.Lib.Builder
import Derived.Lib.AppendStr
import Derived.Lib.UnsafeStr
import Derived.Lib.FrozenHead2
import Derived.Lib.OthersKept
import Derived.Laws.Externs
import Derived.Lib.LazyBuf
import Derived.Laws.Rows
import Derived.Laws.IdiomStrings
import Derived.Laws.BytesArg
import Derived.Lib.BufferRead

namespace Go.Proofs.YthgembbgcbaghaaGreatDoor
open Go.RowKit
def zx:JV:=.mk 0 0 ⟨#[]⟩ [] []
def zeroAggW:Value:=.agg #[.int .u8 0,.int .i64 0,.string ⟨#[]⟩,.slice none 0 0,.slice none 0 0]
theorem kQ (w:World) (lo hi:Nat):Rep w lo hi zx zeroAggW:=by
 unfold zx Rep;exact ⟨none,0,none,0,rfl,Nat.le_refl _,Nat.le_refl _,.inl rfl,.inl rfl⟩
end Go.Proofs.YthgembbgcbaghaaGreatDoor

namespace Go.Proofs.YthgembbgcbaghaaGreatDoor
open Go.ChangeShapes Go.WideShapes Go.ChangeAt Go.RowKit Go.Joins Go.Deep
mutual
def JV.fits:JV→Prop
 | .mk _ _ t ns xs=>t.size≤maxLen∧ns.length≤maxLen∧xs.length≤maxLen∧(∀s ∈ ns,s.size≤maxLen)∧JV.fitsL xs
def JV.fitsL:List JV→Prop
 | []=>True
 | x :: r=>JV.fits x∧JV.fitsL r
end
theorem vA {w:World} {a:Addr} {v:Value} (h:w.cell? a=some v):a=⟨a.block,a.off,none⟩:=by
 obtain ⟨b,o,sp⟩:=a
 cases sp with
 | none=>rfl
 | some s=>simp [World.cell?] at h;split at h <;> simp at h
theorem wm (b o k:Nat):(⟨b,o,none⟩:Addr).add k=⟨b,o+k,none⟩:=by
 unfold Addr.add;split <;> simp_all
section
variable {H:Type} {enc:TypeId × Value→H} {P:Program} {w:World} {base:Nat} {spare:Nat→Bool} {held:Bool}
theorem kT {α:Type} {p:Nat→α→Prop}:∀(n:Nat),(∀i,i<n→∃v,p i v)→∃l:List α,l.length=n∧∀i (h:i<l.length),p i l[i]
 | 0,_=>⟨[],rfl,fun i h=>by simp at h⟩
 | n+1,h=>by
  obtain ⟨l,h1,h2⟩:=kT n fun i hi=>h i (by omega)
  obtain ⟨v,hv⟩:=h n (by omega)
  refine ⟨l ++ [v],by simp [h1],fun i hi=>?_⟩
  by_cases e:i<l.length
  · rw [List.getElem_append_left e];exact h2 i e
  · have:i=n:=by simp at hi;omega
    subst this
    rw [List.getElem_append_right (by omega)]
    simpa using hv
theorem vT {t e:TypeId} {fuel:Nat} {c:Value} {x:DataW H × List MemPlace} (ht:P.underlying t=some (.slice e)) (he:P.underlying e=some .string) (hc:P.cellsOf e=1) (h:DataW.trod enc P w base spare held fuel t [c]=some x) :
 ∃(a:Option Addr) (cap:Nat) (l:List ByteArray),c=.slice a l.length cap∧l.length≤cap∧l.length≤maxLen∧(∀s ∈ l,s.size≤maxLen)∧qw w 0 w.heap.size a l:=by
 rcases open_strings ht he hc h with ⟨h0,_⟩|⟨a,len,cap,ss,h0,_,hl,hm,hss,_,hcell,hsz⟩
 · simp at h0;subst h0
   exact ⟨none,0,[],rfl,Nat.le_refl _,by simp,by simp,.inl rfl⟩
 · simp at h0;subst h0
   have hlen:len≤ss.length:=by rw [hss];split <;> omega
   have e1:(ss.take len).length=len:=by rw [List.length_take];omega
   refine ⟨some a,cap,ss.take len,by rw [e1],by omega,by omega,fun s hs=>hsz s (List.mem_of_mem_take hs),?_⟩
   by_cases h0:len=0
   · subst h0;exact .inl rfl
   · have c0:=hcell 0 (by omega)
     rw [show a.add 0=a by simp [Addr.add]] at c0
     have ea:=vA c0
     refine .inr ⟨a.block,a.off,by rw [← ea],Nat.zero_le _,World.block_lt_of_cell? w _ c0,fun i hi=>?_⟩
     have hi':i<ss.length:=by rw [e1] at hi;omega
     have:=hcell i hi'
     rw [ea,wm] at this
     rw [this]
     simp [List.getD_eq_getElem?_getD,List.getElem?_eq_getElem hi',List.getElem_take]
end
theorem wE:Tryz.prog.cellsOf 9=1:=by kernel_rfl
abbrev Key2:=ByteArray × ByteArray
def zP (w:World) (lo hi:Nat) (a:Option Addr) (l:List Key2):Prop :=
 l=[]∨∃b off,a=some ⟨b,off,none⟩∧lo≤b∧b<hi∧∀i (h:i<l.length),w.cell? ⟨b,off+i * 2,none⟩=some (.string l[i].1)∧w.cell? ⟨b,off+i * 2+1,none⟩=some (.string l[i].2)
theorem zP.at {w:World} {lo hi:Nat} {a:Option Addr} {l:List Key2} (h:zP w lo hi a l) (i:Nat) (hi':i<l.length) :
 ∃b off,a=some ⟨b,off,none⟩∧lo≤b∧b<hi∧w.cell? ⟨b,off+i * 2,none⟩=some (.string l[i].1)∧w.cell? ⟨b,off+i * 2+1,none⟩=some (.string l[i].2):=by
 rcases h with h|⟨b,off,ha,hb,hb',hr⟩
 · rw [h] at hi';simp at hi'
 · exact ⟨b,off,ha,hb,hb',hr i hi'⟩
theorem zP.carry {w w':World} {lo hi lo' hi':Nat} {a:Option Addr} {l:List Key2} (h:zP w lo hi a l) (h1:lo'≤lo) (h2:hi≤hi') (hs:∀b,lo≤b→b<hi→w'.heap[b]?=w.heap[b]?):zP w' lo' hi' a l:=by
 rcases h with h|⟨b,off,ha,hb,hb',hr⟩
 · exact .inl h
 · refine .inr ⟨b,off,ha,by omega,by omega,fun i hi=>?_⟩
   have e:∀o,w'.cell? ⟨b,o,none⟩=w.cell? ⟨b,o,none⟩:=fun o=>World.cell?_of_block (w:=w) (w':=w') (hs b hb hb')
   rw [e,e];exact hr i hi
theorem zP.below {w w':World} {lo hi lo' hi' B:Nat} {a:Option Addr} {l:List Key2} (h:zP w lo hi a l) (hb:Below B w w') (hB:hi≤B) (h1:lo'≤lo) (h2:hi≤hi'):zP w' lo' hi' a l :=
 h.carry h1 h2 fun b _ hlt=>hb.block b (by omega)
theorem fL {H:Type} {enc:TypeId × Value→H} {P:Program} {w:World} {base:Nat} {spare:Nat→Bool} {held:Bool} {t:TypeId} {f0 f1:Field} {fuel:Nat} {cs:List Value} {x:DataW H × List MemPlace} (hs:P.underlying t=some (.struct #[f0,f1])) (hone:oneCellFields P #[f0,f1]=true) (hC:P.cellsOf t=2)
 (h:DataW.trod enc P w base spare held fuel t cs=some x) :
 ∃(c0 c1:Value) (y0 y1:DataW H × List MemPlace) (n:Nat),cs=[c0,c1]∧DataW.trod enc P w base spare held n f0.type [c0]=some y0∧DataW.trod enc P w base spare held n f1.type [c1]=some y1:=by
 obtain ⟨xs,n,hn,rfl,hl,hlen,hf⟩:=DataW.trod_struct hs h
 rw [hC] at hl
 obtain ⟨o0,k0⟩:=hone_of hone 0 f0 rfl
 obtain ⟨o1,k1⟩:=hone_of hone 1 f1 rfl
 match xs,hlen,cs,hl with
 | [y0,y1],_,[c0,c1],_=>exact ⟨c0,c1,y0,y1,n,rfl,by simpa [o0,k0] using hf 0 f0 rfl,by simpa [o1,k1] using hf 1 f1 rfl⟩
end Go.Proofs.YthgembbgcbaghaaGreatDoor

namespace Go.Proofs.YthgembbgcbaghaaGreatDoor
open Go.RowKit
theorem qq {w:World} {p T j:Nat} {cs:Array Value} {u:Value} (hp:w.heap[p]?=some (.cells cs T (0,0))) (hj:cs[j]?=some u):w.cell? ⟨p,j,none⟩=some u:=by simp [World.cell?,hp,hj]
theorem qx {w:World} {p:Nat} {o:Obj} (h:w.heap[p]?=some o):p<w.heap.size:=(Array.getElem?_eq_some_iff.1 h).1
def jw (x:Int) (n:Nat):Int:=x % 2 ^ n * 2 ^ (32 - n)+x / 2 ^ n
def gz (a b:Int):Int:=bits .xor .u32 a b
def lL (a b:Int):Int:=bits .and .u32 a b
def tN (a:Int):Int:=bits .xor .u32 IntKind.u32.max a
def xh (a b:Int):Int:=(a+b) % 4294967296
def sg0 (x:Int):Int:=gz (gz (jw x 7) (jw x 18)) (x / 8)
def sg1 (x:Int):Int:=gz (gz (jw x 17) (jw x 19)) (x / 1024)
def bg0 (x:Int):Int:=gz (gz (jw x 2) (jw x 13)) (jw x 22)
def bg1 (x:Int):Int:=gz (gz (jw x 6) (jw x 11)) (jw x 25)
def chc (e f g:Int):Int:=gz (lL e f) (lL (tN e) g)
def maj (a b c:Int):Int:=gz (gz (lL a b) (lL a c)) (lL b c)
def be4 (p:Nat→Int) (i:Nat):Int:=p (4 * i) * 16777216+p (4 * i+1) * 65536+p (4 * i+2) * 256+p (4 * i+3)
def go (p:Nat→Int):Nat→List Int
 | 0=>[]
 | n+1=>let l:=go p n
  l ++ [if n<16 then be4 p n else xh (xh (xh (l.getD (n - 16) 0) (sg0 (l.getD (n - 15) 0))) (l.getD (n - 7) 0)) (sg1 (l.getD (n - 2) 0))]
def wrd (p:Nat→Int) (i:Nat):Int:=(go p (i+1)).getD i 0
structure S8 where
 (a b c d e f g h:Int)
def S8.at (s:S8):Nat→Int
 | 0=>s.a|1=>s.b|2=>s.c|3=>s.d|4=>s.e|5=>s.f|6=>s.g|_=>s.h
def kays:List Int:=[0x428a2f98,0x71374491,0xb5c0fbcf,0xe9b5dba5,0x3956c25b,0x59f111f1,0x923f82a4,0xab1c5ed5,
 0xd807aa98,0x12835b01,0x243185be,0x550c7dc3,0x72be5d74,0x80deb1fe,0x9bdc06a7,0xc19bf174,
 0xe49b69c1,0xefbe4786,0x0fc19dc6,0x240ca1cc,0x2de92c6f,0x4a7484aa,0x5cb0a9dc,0x76f988da,
 0x983e5152,0xa831c66d,0xb00327c8,0xbf597fc7,0xc6e00bf3,0xd5a79147,0x06ca6351,0x14292967,
 0x27b70a85,0x2e1b2138,0x4d2c6dfc,0x53380d13,0x650a7354,0x766a0abb,0x81c2c92e,0x92722c85,
 0xa2bfe8a1,0xa81a664b,0xc24b8b70,0xc76c51a3,0xd192e819,0xd6990624,0xf40e3585,0x106aa070,
 0x19a4c116,0x1e376c08,0x2748774c,0x34b0bcb5,0x391c0cb3,0x4ed8aa4a,0x5b9cca4f,0x682e6ff3,
 0x748f82ee,0x78a5636f,0x84c87814,0x8cc70208,0x90befffa,0xa4506ceb,0xbef9a3f7,0xc67178f2]
def kay (i:Nat):Int:=kays.getD i 0
def vW:S8:=⟨0x6a09e667,0xbb67ae85,0x3c6ef372,0xa54ff53a,0x510e527f,0x9b05688c,0x1f83d9ab,0x5be0cd19⟩
def first (k x:Int) (s:S8):Int:=xh (xh (xh (xh s.h (bg1 s.e)) (chc s.e s.f s.g)) k) x
def rnd (k x:Int) (s:S8):S8:=⟨xh (xh (first k x s) (bg0 s.a)) (maj s.a s.b s.c),s.a,s.b,s.c,xh s.d (first k x s),s.e,s.f,s.g⟩
def vI (p:Nat→Int) (s:S8):Nat→S8
 | 0=>s
 | n+1=>rnd (kay n) (wrd p n) (vI p s n)
def S8.add (s t:S8):S8:=⟨xh s.a t.a,xh s.b t.b,xh s.c t.c,xh s.d t.d,xh s.e t.e,xh s.f t.f,xh s.g t.g,xh s.h t.h⟩
def wl (s:S8) (p:Nat→Int):S8:=s.add (vI p s 64)
theorem j7 (p:Nat→Int):∀n,(go p n).length=n
 | 0=>rfl
 | n+1=>by simp [go,j7 p n]
theorem j8 (p:Nat→Int) (i:Nat):∀n,i<n→(go p n).getD i 0=wrd p i
 | 0,h=>by omega
 | n+1,h=>by
  by_cases e:i=n
  · subst e;rfl
  · rw [← j8 p i n (by omega)]
    simp only [go,List.getD_eq_getElem?_getD]
    rw [List.getElem?_append_left (by rw [j7];omega)]
theorem lR (p:Nat→Int) (n:Nat) (h:n<16):wrd p n=be4 p n:=by
 unfold wrd;simp only [go,List.getD_eq_getElem?_getD]
 rw [List.getElem?_append_right (by rw [j7];omega),j7];simp [h]
theorem lN (p:Nat→Int) (n:Nat) (h:16≤n):wrd p n=xh (xh (xh (wrd p (n - 16)) (sg0 (wrd p (n - 15)))) (wrd p (n - 7))) (sg1 (wrd p (n - 2))):=by
 conv=>lhs;unfold wrd
 simp only [go,List.getD_eq_getElem?_getD]
 rw [List.getElem?_append_right (by rw [j7];omega),j7]
 simp only [Nat.sub_self,List.getElem?_cons_zero,Option.getD_some,if_neg (show ¬n<16 by omega)]
 simp only [← List.getD_eq_getElem?_getD]
 rw [j8 p (n - 16) n (by omega),j8 p (n - 15) n (by omega),j8 p (n - 7) n (by omega),j8 p (n - 2) n (by omega)]
theorem xa (a b:Int):0≤xh a b∧xh a b<4294967296:=by unfold xh;omega
def w32 (x:Int):Prop:=0≤x∧x<4294967296
theorem aa (a b c d:Int) (ha:0≤a∧a≤255) (hb:0≤b∧b≤255) (hc:0≤c∧c≤255) (hd:0≤d∧d≤255) :
 bits .or .u32 (bits .or .u32 (bits .or .u32 (a % 4294967296 * 16777216 % 4294967296) (b % 4294967296 * 65536 % 4294967296)) (c % 4294967296 * 256 % 4294967296)) (d % 4294967296) =
  a * 16777216+b * 65536+c * 256+d:=by
 obtain ⟨a,rfl⟩:=Int.eq_ofNat_of_zero_le ha.1
 obtain ⟨b,rfl⟩:=Int.eq_ofNat_of_zero_le hb.1
 obtain ⟨c,rfl⟩:=Int.eq_ofNat_of_zero_le hc.1
 obtain ⟨d,rfl⟩:=Int.eq_ofNat_of_zero_le hd.1
 have e1:((a:Int) % 4294967296 * 16777216 % 4294967296)=((a * 16777216:Nat):Int):=by omega
 have e2:((b:Int) % 4294967296 * 65536 % 4294967296)=((b * 65536:Nat):Int):=by omega
 have e3:((c:Int) % 4294967296 * 256 % 4294967296)=((c * 256:Nat):Int):=by omega
 have e4:((d:Int) % 4294967296)=((d:Nat):Int):=by omega
 rw [e1,e2,e3,e4,u32_or_nat _ _ (by omega) (by omega),nat_join 24 _ _ (by omega) (by omega),u32_or_nat _ _ (by omega) (by omega),nat_join 16 _ _ (by omega) (by omega),u32_or_nat _ _ (by omega) (by omega),nat_join 8 _ _ (by omega) (by omega)]
 omega
theorem cV (p:Nat→Int) (hp:∀i,i<64→0≤p i∧p i≤255) (i:Nat):w32 (wrd p i):=by
 by_cases h:i<16
 · rw [lR p i h];unfold be4 w32
   have:=hp (4 * i) (by omega);have:=hp (4 * i+1) (by omega);have:=hp (4 * i+2) (by omega);have:=hp (4 * i+3) (by omega);omega
 · rw [lN p i (by omega)];exact xa _ _
def S8.ok (s:S8):Prop:=w32 s.a∧w32 s.b∧w32 s.c∧w32 s.d∧w32 s.e∧w32 s.f∧w32 s.g∧w32 s.h
theorem ae {k x:Int} {s:S8} (h:s.ok):(rnd k x s).ok:=by
 obtain ⟨ha,hb,hc,hd,he,hf,hg,hh⟩:=h
 exact ⟨xa _ _,ha,hb,hc,xa _ _,he,hf,hg⟩
theorem cW (p:Nat→Int) {s:S8} (h:s.ok):∀n,(vI p s n).ok
 | 0=>h
 | n+1=>ae (cW p h n)
theorem aQ (s t:S8):(s.add t).ok:=⟨xa _ _,xa _ _,xa _ _,xa _ _,xa _ _,xa _ _,xa _ _,xa _ _⟩
theorem lS:vW.ok:=by unfold S8.ok vW w32;simp
theorem lA (s:S8) (p:Nat→Int):(wl s p).ok:=aQ _ _
theorem tw (k x:Int) (s:S8):(s.h+bg1 s.e+chc s.e s.f s.g+k+x+bg0 s.a+maj s.a s.b s.c) % 4294967296=(rnd k x s).a:=by
 show _=xh (xh (first k x s) (bg0 s.a)) (maj s.a s.b s.c)
 unfold first xh;omega
theorem tg (k x:Int) (s:S8):(s.d+(s.h+bg1 s.e+chc s.e s.f s.g+k+x)) % 4294967296=(rnd k x s).e:=by
 show _=xh s.d (first k x s)
 unfold first xh;omega
theorem aZ (s t:S8) (j:Nat):(s.add t).at j=xh (s.at j) (t.at j):=by
 rcases j with _|_|_|_|_|_|_|j <;> rfl
def jm (l:List UInt8) (i:Nat):Int:=((l.getD i 0).toNat:Int)
def jk (l:List UInt8):Nat→S8
 | 0=>vW
 | n+1=>wl (jk l n) (fun j=>jm l (64 * n+j))
theorem fR (l:List UInt8):∀n,(jk l n).ok
 | 0=>lS
 | _+1=>lA _ _
theorem lT (l:List UInt8) (i:Nat):0≤jm l i∧jm l i≤255:=by
 unfold jm;have:=(l.getD i 0).toNat_lt;omega
theorem ge {p q:Nat→Int} (h:∀j,j<64→p j=q j):∀n,go p n=go q n
 | 0=>rfl
 | n+1=>by
  simp only [go,ge h n]
  by_cases hn:n<16
  · simp only [if_pos hn];unfold be4;rw [h _ (by omega),h _ (by omega),h _ (by omega),h _ (by omega)]
  · simp only [if_neg hn]
theorem gQ {p q:Nat→Int} (h:∀j,j<64→p j=q j) (s:S8):∀n,vI p s n=vI q s n
 | 0=>rfl
 | n+1=>by simp only [vI,gQ h s n,wrd,ge h (n+1)]
theorem yP {p q:Nat→Int} (h:∀j,j<64→p j=q j) (s:S8):wl s p=wl s q:=by
 unfold wl;rw [gQ h]
theorem yF {l m:List UInt8}:∀n,(∀i,i<64 * n→jm l i=jm m i)→jk l n=jk m n
 | 0,_=>rfl
 | n+1,h=>by
  simp only [jk]
  rw [yF n fun i hi=>h i (by omega)]
  exact yP (fun j hj=>h _ (by omega)) _
def be8 (n:Nat) (j:Nat):Int:=(n:Int) / 2 ^ (56 - 8 * j) % 256
def u8 (i:Int):UInt8:=UInt8.ofNat i.toNat
theorem kI {i:Int} (h:0≤i) (h':i<256):((u8 i).toNat:Int)=i:=by
 unfold u8;rw [UInt8.toNat_ofNat'];omega
def yq (n:Nat):List UInt8:=(List.range 8).map fun j=>u8 (be8 n j)
theorem lI (n j:Nat):0≤be8 n j∧be8 n j<256:=by unfold be8;omega
theorem lO (n j:Nat) (hj:j<(yq n).length):((yq n)[j].toNat:Int)=be8 n j:=by
 simp only [yq,List.getElem_map,List.getElem_range];exact kI (lI n j).1 (lI n j).2
def yz (x:Int):List UInt8:=[u8 (x / 16777216 % 256),u8 (x / 65536 % 256),u8 (x / 256 % 256),u8 (x % 256)]
def bL (s:S8):Nat→List UInt8
 | 0=>[]
 | k+1=>bL s k ++ yz (s.at k)
def yx (l:List UInt8):List UInt8:=l ++ (128 :: List.replicate ((119 - l.length % 64) % 64) 0) ++ yq (l.length * 8)
def za (l:List UInt8):List UInt8:=bL (jk (yx l) ((yx l).length / 64)) 8
theorem yH (s:S8):∀k,(bL s k).length=4 * k
 | 0=>rfl
 | k+1=>by simp [bL,yH s k,yz];omega
theorem xM (l:List UInt8):(za l).length=32:=yH _ 8
theorem bN (l:List UInt8):(yx l).length=l.length+9+(119 - l.length % 64) % 64:=by
 unfold yx yq;simp;omega
theorem yU:∃j,Tryz.prog.info? 228=some j∧j.size=2:=by
 have h:(Tryz.prog.info? 228).map (·.size)=some 2:=by kernel_rfl
 obtain ⟨j,h1,h2⟩:=Option.map_eq_some_iff.1 h
 exact ⟨j,h1,h2⟩
theorem liesBuilder:liesAt Tryz.prog Tryz.prog.depth 228 (2 / Tryz.prog.cellsOf 228) 0 228 1=true:=by kernel_rfl
theorem infoByte:(Tryz.prog.info? 5).map (fun i=>(i.zero,i.size,i.bytes))=some (some (.int .u8 0),1,1):=by kernel_rfl
theorem cellsByte:Tryz.prog.cellsOf 5=1:=by kernel_rfl
abbrev vO (B b:Nat) (bs:List Value) (w:World):Prop:=Lib.IsBuilderF 228 5 B b bs w
abbrev p8 (B b:Nat) (bs:List Value) (w:World):Prop:=Lib.BuilderAtF 228 5 B b (.pointer (some ⟨b,0,none⟩)) bs w
abbrev Kept (b:Nat) (w w':World):Prop:=Lib.OthersKept 5 (some b) w w'
set_option maxHeartbeats 400000 in
set_option maxRecDepth 100000 in
theorem gZ (b:Nat) (w:World) (h0:w.cell? ⟨b,0,none⟩=some (.pointer (some ⟨b,0,none⟩))) :
 Calls Tryz.prog 254 #[.pointer (some ⟨b,0,none⟩)] w fun e w'=>e=.returned (.tuple #[])∧w'=w:=by
 obtain ⟨j,hj,_⟩:=yU
 go_enter Tryz.func254,Tryz.ntmps254
 go_wp2
 rw [Lib.run_neq_ptr_same w _ Tryz.underlying226 hj]
 go_wp2
 go_end0
 exact ⟨rfl,rfl⟩
set_option maxHeartbeats 400000 in
set_option maxRecDepth 100000 in
theorem gx (b:Nat) (w:World) (h0:w.cell? ⟨b,0,none⟩=some (.pointer none)) (hsh:w.shape? b=some (228,2)) (hfz:w.frozen? ⟨b,0,none⟩=false) :
 Calls Tryz.prog 254 #[.pointer (some ⟨b,0,none⟩)] w fun e w'=>e=.returned (.tuple #[])∧w'=w.setCell ⟨b,0,none⟩ (.pointer (some ⟨b,0,none⟩)):=by
 obtain ⟨j,hj,hjs⟩:=yU
 go_enter Tryz.func254,Tryz.ntmps254
 go_wp2
 rw [Lib.run_to_unsafe w ⟨b,0,none⟩ Tryz.underlying226 Tryz.underlying279 hj (by rw [hjs];decide) hsh (Nat.zero_lt_succ 1)]
 simp only [Result.andThen]
 rw [Oper.upon_value]
 go_wp2
 rw [run_callFunc_extern Tryz.func272 (by kernel_rfl) (by kernel_rfl) (by kernel_rfl) (e:=Extern.AbiNoEscape.same) (by kernel_rfl)]
 rw [Lib.run_noEscape]
 simp only [Result.andThen]
 rw [Oper.upon_value]
 go_wp2
 rw [Lib.run_from_unsafe w ⟨b,0,none⟩ Tryz.underlying279 Tryz.underlying226 hj hsh liesBuilder]
 simp only [Result.andThen]
 rw [Oper.upon_value]
 go_wp2
 go_end0
 exact ⟨rfl,rfl⟩
theorem py (B b:Nat) (bs:List Value) (w:World) (h:vO B b bs w) :
 Calls Tryz.prog 254 #[.pointer (some ⟨b,0,none⟩)] w fun e w'=>e=.returned (.tuple #[])∧(p8 B b bs w'∧Below B w w'∧Kept b w w'):=by
 rcases h with h|h
 · refine (gx b w h.cell0 h.shape h.frozen0).mono ?_
   rintro e w' ⟨rfl,rfl⟩
   exact ⟨rfl,h.used _,(Below.refl B w).setCell (p:=⟨b,0,none⟩) h.1 _,(Lib.OthersKept.refl _ _ w).setCell ⟨b,0,none⟩ rfl _⟩
 · refine (gZ b w h.cell0).mono ?_
   rintro e w' ⟨rfl,rfl⟩
   exact ⟨rfl,h,Below.refl B _,Lib.OthersKept.refl _ _ _⟩
set_option maxHeartbeats 400000 in
set_option maxRecDepth 100000 in
theorem zl (B b:Nat) (bs:List Value) (c:Int) (w:World) (h:vO B b bs w) (hlen:bs.length+1≤140737488355328) (hBw:B≤w.heap.size) :
 Calls Tryz.prog 233 #[.pointer (some ⟨b,0,none⟩),.int .u8 c] w fun e w'=>e=.returned .nilIface∧(p8 B b (bs ++ [.int .u8 c]) w'∧Below B w w'∧Kept b w w'):=by
 obtain ⟨i0,hi,hz0,hz1,hz2⟩:=info_parts infoByte
 go_enter Tryz.func233,Tryz.ntmps233
 go_wp2_with (go_at_call 254;refine (py B b bs _ h).mono ?_)
 rintro e w1 ⟨rfl,h1,hb1,hk1⟩
 obtain ⟨hB,v,hbk,hown,hne⟩:=h1
 have c0:w1.cell? ⟨b,0,none⟩=some (.pointer (some ⟨b,0,none⟩)):=by rw [Lib.cell_of_heap hbk];rfl
 have c1:w1.cell? ⟨b,1,none⟩=some v:=by rw [Lib.cell_of_heap hbk];rfl
 go_wp2_with (at_builtin;refine wpList_append_ownF _ rfl _ _ 114 rfl B 5 i0 (.int .u8 0) 1 1 Tryz.underlying114 hi hz0 hz1 hz2 rfl (by decide) _ _ _ rfl (hown.alloc _) ⟨w1.heap.size,0,none⟩ 1 1 [.int .u8 c] rfl rfl ?c1 ?c2 ?c3 ?c4 ?c5 ?_)
 case c1 =>
  intro j u hj
  match j,hj with
  | 0,hj=>simp at hj;subst hj;simp [Addr.add]
 case c2=>intro u hu;simp at hu;subst hu;rfl
 case c3=>unfold maxLen;omega
 case c4=>omega
 case c5=>have:=hb1.size;simp;omega
 intro v' w2 hown' hgrow _
 have hlt:b<w1.heap.size:=by
  rcases Nat.lt_or_ge b w1.heap.size with h'|h'
  · exact h'
  · simp [Array.getElem?_eq_none h'] at hbk
 have hb2:w2.heap[b]?=some (.cells #[.pointer (some ⟨b,0,none⟩),v] 228 (0,0)):=by
  rw [hgrow.block b (by simp;omega) (fun e=>hne e.symm),Lib.alloc_old w1 _ b hlt]
  exact hbk
 have d0:w2.cell? ⟨b,0,none⟩=some (.pointer (some ⟨b,0,none⟩)):=by rw [Lib.cell_of_heap hb2];rfl
 have d1:w2.cell? ⟨b,1,none⟩=some v:=by rw [Lib.cell_of_heap hb2];rfl
 have f1:w2.frozen? ⟨b,1,none⟩=false:=Lib.frozen_of_heap hb2 1
 obtain ⟨g,cap,rfl⟩:∃g cap,v'=.slice (some ⟨g,0,none⟩) (bs.length+1) cap:=by
  rcases hown'.2 with ⟨_,h0⟩|⟨g,cap,cur,fz,hv,_⟩
  · omega
  · exact ⟨g,cap,hv⟩
 go_wp2
 go_ret
 refine ⟨rfl,?_,?_,((hk1.alloc _).grown hgrow (Lib.ownsRowF_kind (hown.alloc _))).setCell ⟨b,1,none⟩ rfl _⟩
 · exact Lib.BuilderAtF.put (T:=228) (e:=5) hB hb2 (bs':=bs ++ [.int .u8 c]) (by simpa using hown') (by decide)
 · exact ((hb1.alloc (by have:=hb1.size;omega) _).grown hgrow (by have:=hb1.size;simp;omega) (fun k hk=>(hown.lt k hk).1)).setCell (p:=⟨b,1,none⟩) hB _
set_option maxHeartbeats 400000 in
set_option maxRecDepth 100000 in
theorem jU (B b:Nat) (bs:List Value) (s:ByteArray) (w:World) (h:vO B b bs w) (hlen:bs.length+s.size≤140737488355328) (hBw:B≤w.heap.size) :
 Calls Tryz.prog 230 #[.pointer (some ⟨b,0,none⟩),.string s] w fun e w'=>e=.returned (.tuple #[.int .i64 s.size,.nilIface])∧(p8 B b (bs ++ Lib.strCells s) w'∧Below B w w'∧Kept b w w'):=by
 obtain ⟨i0,hi,hz0,hz1,hz2⟩:=info_parts infoByte
 go_enter Tryz.func230,Tryz.ntmps230
 go_wp2_with (go_at_call 254;refine (py B b bs _ h).mono ?_)
 rintro e w1 ⟨rfl,h1,hb1,hk1⟩
 obtain ⟨hB,v,hbk,hown,hne⟩:=h1
 have c0:w1.cell? ⟨b,0,none⟩=some (.pointer (some ⟨b,0,none⟩)):=by rw [Lib.cell_of_heap hbk];rfl
 have c1:w1.cell? ⟨b,1,none⟩=some v:=by rw [Lib.cell_of_heap hbk];rfl
 go_wp2_with (at_builtin;refine Lib.wpList_append_own_stringF _ rfl _ _ 114 9 rfl B 5 i0 Tryz.underlying114 Tryz.underlying9 hi hz0 hz1 hz2 _ _ _ rfl hown s rfl ?c3 ?c4 ?c5 ?_)
 case c3=>unfold maxLen;omega
 case c4=>omega
 case c5=>have:=hb1.size;omega
 intro v' w2 hown' hgrow _
 have hlt:b<w1.heap.size:=by
  rcases Nat.lt_or_ge b w1.heap.size with h'|h'
  · exact h'
  · simp [Array.getElem?_eq_none h'] at hbk
 have hb2:w2.heap[b]?=some (.cells #[.pointer (some ⟨b,0,none⟩),v] 228 (0,0)):=by
  rw [hgrow.block b hlt (fun e=>hne e.symm)]
  exact hbk
 have d0:w2.cell? ⟨b,0,none⟩=some (.pointer (some ⟨b,0,none⟩)):=by rw [Lib.cell_of_heap hb2];rfl
 have d1:w2.cell? ⟨b,1,none⟩=some v:=by rw [Lib.cell_of_heap hb2];rfl
 have f1:w2.frozen? ⟨b,1,none⟩=false:=Lib.frozen_of_heap hb2 1
 obtain ⟨ao,n',cap,rfl⟩:∃ao n' cap,v'=.slice ao n' cap:=by
  rcases hown'.2 with ⟨hv,_⟩|⟨g,cap,cur,fz,hv,_⟩
  · exact ⟨_,_,_,hv⟩
  · exact ⟨_,_,_,hv⟩
 go_wp2
 go_ret2
 refine ⟨rfl,?_,?_,(hk1.grown hgrow (Lib.ownsRowF_kind hown)).setCell ⟨b,1,none⟩ rfl _⟩
 · exact Lib.BuilderAtF.put (T:=228) (e:=5) hB hb2 (bs':=bs ++ Lib.strCells s) (by simpa [Lib.strCells_length] using hown') (by decide)
 · exact (hb1.grown hgrow (by have:=hb1.size;omega) (fun k hk=>(hown.lt k hk).1)).setCell (p:=⟨b,1,none⟩) hB _
set_option maxHeartbeats 400000 in
set_option maxRecDepth 100000 in
theorem vY (B b:Nat) (l:List UInt8) (w:World) (h:vO B b (Lib.byteCells l) w) (h0:l≠[]) :
 Calls Tryz.prog 234 #[.pointer (some ⟨b,0,none⟩)] w fun e w'=>e=.returned (.string ⟨l.toArray⟩)∧Below B w w'∧Kept b w w':=by
 obtain ⟨p,hAt⟩:∃p,Lib.BuilderAtF 228 5 B b p (Lib.byteCells l) w:=by
  rcases h with h|h
  · exact ⟨_,h⟩
  · exact ⟨_,h⟩
 obtain ⟨hB,v,hbk,hown,hne⟩:=hAt
 have hl0:l.length≠0:=by simpa using h0
 rw [Lib.byteCells_length] at hown
 obtain ⟨g,cap,cur,fz,rfl,hbg,hg,hfz,hnc,hcm,hcs,htake⟩:∃g cap cur fz,v=.slice (some ⟨g,0,none⟩) l.length cap∧B≤g∧w.heap[g]?=some (.cells cur 5 fz)∧fz.2≤l.length * 1∧l.length≤cap∧cap≤maxLen∧cur.size=cap * 1∧cur.toList.take (l.length * 1)=Lib.byteCells l:=by
  rcases hown.2 with ⟨_,hz⟩|⟨g,cap,cur,fz,hv,r⟩
  · exact absurd hz hl0
  · exact ⟨g,cap,cur,fz,hv,r⟩
 have c1:w.drew.cell? ⟨b,1,none⟩=some (.slice (some ⟨g,0,none⟩) l.length cap):=by
  have:w.drew.heap[b]?=some (.cells #[p,.slice (some ⟨g,0,none⟩) l.length cap] 228 (0,0)):=hbk
  rw [Lib.cell_of_heap this];rfl
 have hSD:(Builtin.unsafeSliceData_ #[114] 260 #[.slice (some ⟨g,0,none⟩) l.length cap]).run Tryz.prog w.drew=.ok (.pointer (some ⟨g,0,none⟩)) w.drew :=
  Lib.run_unsafeSliceData_row _ _ _ _ _ _ (by omega)
 have hUS:(Builtin.unsafeString_ #[260,3] 9 #[.pointer (some ⟨g,0,none⟩),.int .i64 l.length]).run Tryz.prog w.drew=.ok (.string ⟨l.toArray⟩) (w.drew.freeze ⟨g,0,none⟩ l.length):=by
  refine Lib.run_unsafeString_row w.drew 260 3 9 5 Tryz.underlying260 cellsByte g cur.size (by have hg':w.drew.heap[g]?=some (.cells cur 5 fz):=hg;simp [World.shape?,hg']) l h0 (by omega) (by unfold maxLen at hcm;omega) ?_
  intro j x hx
  have:=hown.cells (g:=g) rfl j (.int .u8 x.toNat) (by simp [Lib.byteCells,hx])
  exact this
 have HX:=Lh (show Below B w (w.drew.freeze ⟨g,0,none⟩ l.length)∧Kept b w (w.drew.freeze ⟨g,0,none⟩ l.length) from ⟨Lib.below_freeze (Below.drew (Below.refl B w)) (p:=⟨g,0,none⟩) hbg _,((Lib.OthersKept.refl _ _ w).drew).freeze ⟨g,0,none⟩ _ ⟨cur,fz,hg⟩⟩)
 clear hown hbk hne hg htake hcs hfz
 go_enter Tryz.func234,Tryz.ntmps234
 go_wp2
 go_region
 all_goals (go_wp2;go_ret;exact ⟨rfl,HX.out⟩)
section
variable {P:Program}
theorem jd {S:Nat→Prop} {b:Nat} {a:World} (hb:S b∨a.heap.size≤b):∀(vs:List Value) (o:Nat) (w:World),Touch S a w→Touch S a (w.setCells b o vs)
 | [],_,_,h=>h
 | v :: r,o,_,h=>jd hb r (o+1) _ (h.setCell hb v)
theorem p9 (w:World) (dT sT ty elem:TypeId) (b o dLen dCap:Nat) (s:ByteArray)
 (hu:P.underlying dT=some (.slice elem)) (hz:∀w,(Go.sizeOf elem).run P w=.ok 1 w)
 (hc:∀j,j<Nat.min s.size dLen→(w.cell? ⟨b,o+j,none⟩).isSome=true) (hf:∀j,j<Nat.min s.size dLen→w.frozen? ⟨b,o+j,none⟩=false) :
 (Builtin.copy_ #[dT,sT] ty #[.slice (some ⟨b,o,none⟩) dLen dCap,.string s]).run P w=.ok (goInt (Nat.min s.size dLen)) (w.setCells b o ((s.data.toList.map fun x=>Value.int .u8 (x.toNat:Int)).take (Nat.min s.size dLen))):=by
 have hl:((s.data.toList.map fun x=>Value.int .u8 (x.toNat:Int)).take (Nat.min s.size dLen)).length=Nat.min s.size dLen:=by
  rw [List.length_take,List.length_map,qm];exact Nat.min_eq_left (Nat.min_le_left _ _)
 have hst:=run_storeCells_cells (P:=P) b o ((s.data.toList.map fun x=>Value.int .u8 (x.toNat:Int)).take (Nat.min s.size dLen)) 0 w (by rw [hl];simpa using hc) (by rw [hl];simpa using hf) (by
  intro v hv
  obtain ⟨x,_,rfl⟩:=List.mem_map.1 (List.mem_of_mem_take hv)
  rfl)
 simp [Builtin.copy_,run_underlying hu,Builtin.lenOf,Builtin.firstCells,hz]
 rw [hst]
 rfl
def cY (s:ByteArray) (i:Nat):Int:=((s.data.toList.getD i 0).toNat:Int)
theorem gj {w:World} {ops:Array Oper} {rest:List Oper} {o:Oper} {a:Act} {Q:Exit→Act→World→Prop} (hgd:o.guard=none) (d x:Operand) (dT sT:TypeId)
 (ho:o.op=.call { callee:=.builtin .copy,args:=#[d,x],argTypes:=#[dT,sT] }) (elem:TypeId) (hu:P.underlying dT=some (.slice elem)) (hz:∀w,(Go.sizeOf elem).run P w=.ok 1 w)
 (b off dLen dCap:Nat) (s:ByteArray) (hd:a.eval d=.slice (some ⟨b,off,none⟩) dLen dCap) (hs:a.eval x=.string s)
 (t N:Nat) (f:Nat→Value) (hr:w.rowIs b t N f) (n:Nat) (hn:n=Nat.min s.size dLen) (hfit:off+n≤N)
 (h:∀w',Hid (w'.rowIs b t N (fun j=>if off≤j∧j<off+n then .int .u8 (cY s (j - off)) else f j))→Hid (Touch (· = b) w w')→wpList P ops Q rest (a.put o.dst (goInt n)) w') :
 wpList P ops Q (o :: rest) a w:=by
 refine wpList_plain hgd fun K hK=>?_
 have hrun:=p9 (P:=P) w dT sT o.type elem b off dLen dCap s hu hz (fun j hj=>by rw [hr.cell (by omega)];rfl) (fun j hj=>hr.frozen _)
 rw [← hn] at hrun
 unfold Oper.wp
 simp [execOp,ho,resolve,invoke,builtin,hd,hs,hrun,Result.andThen]
 refine hK _ _ (h _ ?_ (jd (S:=(· = b)) (b:=b) (a:=w) (.inl rfl) _ _ _ (Touch.refl _ _)))
 have hl:((s.data.toList.map fun x=>Value.int .u8 (x.toNat:Int)).take n).length=n:=by
  rw [List.length_take,List.length_map,qm,hn];exact Nat.min_eq_left (Nat.min_le_left _ _)
 refine (rowIs_setCells _ off w f hr).congr fun j hj=>?_
 rw [hl]
 by_cases e:off≤j∧j<off+n
 · rw [if_pos e,if_pos e,List.getElem?_take_of_lt (by omega),List.getElem?_map];unfold cY;rw [List.getD_eq_getElem?_getD]
   have:j - off<s.data.toList.length:=by rw [qm];have:n≤s.size:=hn ▸ Nat.min_le_left _ _;omega
   rw [List.getElem?_eq_getElem this];rfl
 · rw [if_neg e,if_neg e]
theorem lE {n:Nat} {f:Nat→Value} (h:∀i,i<n→(f i).oneCell'=true) (c:Array Value) (hc:c.size=n) (hf:∀i,i<n→c[i]?=some (f i)):∀v ∈ c.toList,v.oneCell'=true:=by
 intro v hv
 obtain ⟨i,hi,rfl⟩:=List.getElem_of_mem hv
 have hi':i<n:=by simpa [hc] using hi
 have:=hf i hi'
 rw [Array.getElem?_eq_getElem (by omega)] at this
 have e:c.toList[i]=f i:=by simpa using Option.some.inj this
 rw [e];exact h i hi'
theorem wpList_store_row {w:World} {ops:Array Oper} {rest:List Oper} {o:Oper} {a:Act} {Q:Exit→Act→World→Prop} (hgd:o.guard=none) (ty:TypeId) (x y:Operand)
 (ho:o.op=.store ty x y) (g t n:Nat) (f f':Nat→Value) (hx:a.eval x=.pointer (some ⟨g,0,none⟩)) (hr:w.rowIs g t n f) (cs:Array Value) (hy:a.eval y=.agg cs) (hcs:cs.size=n) (hcf:∀i,i<n→cs[i]?=some (f' i))
 (h1:∀i,i<n→(f' i).oneCell'=true) (hi:∀w,(Go.sizeOf ty).run P w=.ok n w)
 (h:∀w',Hid (w'.rowIs g t n f')→Hid (Touch (· = g) w w')→wpList P ops Q rest (a.put o.dst undef) w'):wpList P ops Q (o :: rest) a w:=by
 refine wpList_plain hgd fun K hK=>?_
 have hst:=run_storeCells_cells (P:=P) g 0 cs.toList 0 w (fun j hj=>by simp at hj;rw [hr.cell (i:=0+0+j) (by omega)];rfl) (fun j _=>hr.frozen _) (lE h1 cs hcs hcf)
 unfold Oper.wp execOp
 simp only [ho,hx,hy,Instr.storeAt,Instr.sureAddr,Sem.run_bind,Sem.run_pure,Result.andThen_ok,storeVar,Value.cells,hi]
 simp [hcs,hst,Oper.upon]
 refine hK _ _ (h _ ?_ (jd (S:=(· = g)) (b:=g) (a:=w) (.inl rfl) _ _ _ (Touch.refl _ _)))
 refine (rowIs_setCells _ 0 w f hr).congr fun j hj=>?_
 rw [if_pos (by simp;omega)]
 have:=hcf j hj
 simp at this ⊢
 rw [this];rfl
theorem wn {w:World} {ops:Array Oper} {rest:List Oper} {o:Oper} {a:Act} {Q:Exit→Act→World→Prop} (hgd:o.guard=none) (ty:TypeId) (x:Operand) (ho:o.op=.load ty x)
 (g t n:Nat) (f:Nat→Value) (hx:a.eval x=.pointer (some ⟨g,0,none⟩)) (hr:w.rowIs g t n f) (d:TypeDesc)
 (hu:P.underlying ty=some d) (hd:(match d with | .struct _ | .array _ _=>true|_=>false)=true) (hi:(P.info? ty).map (·.size)=some n)
 (h:∀cs:Array Value,Hid (cs.size=n)→Hid (∀i,i<n→cs[i]?=some (f i))→wpList P ops Q rest (a.put o.dst (.agg cs)) w):wpList P ops Q (o :: rest) a w:=by
 obtain ⟨c,hc,hn,hf⟩:=hr
 exact wpList_load_row hgd ty x ho g hx t c (0,0) d hc hu hd (by rw [hn];exact hi) (h c hn hf)
theorem gX {T N E:Nat} (hT:P.underlying T=some (.array N E)) (hz:∀w,(Go.sizeOf E).run P w=.ok 1 w) (b o u:Nat) (hu:u<N) (w:World) :
 (Instr.sliceAt T (.pointer (some ⟨b,o,none⟩)) (some (.int .i64 (u:Int))) none none).run P w=.ok (.slice (some ⟨b,o+u,none⟩) (N - u) (N - u)) w:=by
 have h1:(0:Int)≤u∧(u:Int)≤N:=by omega
 have hadd:(⟨b,o,none⟩:Addr).add u=⟨b,o+u,none⟩:=by unfold Addr.add;split <;> simp_all
 simp [Instr.sliceAt,run_underlying hT,Instr.sureAddr,Instr.sliceBounds,Instr.sliceBound,asIntOf,hz,show u≤N by omega]
 rw [if_neg (by omega),hadd]
theorem xt {w:World} {base:Nat} {v:Value} {n:Nat} {l:List UInt8} (src dst e:TypeId) (hs:P.underlying src=some (.slice e)) (he:P.underlying e=some (.int .u8)) (hd:P.underlying dst=some .string)
 (h:w.ownsRow base e 1 v n (Lib.byteCells l)):(convert src dst v).run P w=.ok (.string ⟨l.toArray⟩) w:=by
 have hn:l.length=n:=by have:=h.1;simpa [Lib.byteCells] using this
 rcases h.2 with ⟨rfl,h0⟩|⟨g,cap,cur,rfl,hg⟩
 · have:l=[]:=List.eq_nil_of_length_eq_zero (by omega)
   subst this
   exact Lib.run_convert_nil_bytes w src dst e 0 hs he hd
 · subst hn
   refine run_convert_bytes_back w src dst e ⟨g,0,none⟩ cap l hs he hd fun j hj=>?_
   refine h.cells rfl j _ ?_
   simp [Lib.byteCells,List.getElem?_eq_getElem hj]
end
end Go.Proofs.YthgembbgcbaghaaGreatDoor
