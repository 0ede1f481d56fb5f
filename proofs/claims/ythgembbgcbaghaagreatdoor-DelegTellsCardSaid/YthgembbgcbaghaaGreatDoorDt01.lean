import Derived.Test.YthgembbgcbaghaaGreatDoorDt00
import Derived.ProofKit
import Derived.OpenShut
import Derived.ChangeSame
import Derived.SliceStrings
import Derived.Deep.Slices
import Derived.Lib.SmallJoins
import Derived.Carry
import Derived.BigQuiet
import Derived.Deep.RegionHeld3
import Derived.Deep.QuietTactic
import Derived.Outline
import Derived.Laws.BitsAllLaws
import Derived.Lib.Builder
import Derived.Lib.AppendStr
import Derived.Lib.UnsafeStr
import Derived.Lib.FrozenHead2
import Derived.Lib.OthersKept
import Derived.Laws.Externs
import Derived.Lib.LazyBuf
import Derived.Laws.Rows
import Derived.Laws.IdiomStrings
import Derived.Laws.BytesArg
import Derived.Lib.BufferRead
set_option maxHeartbeats 400000
set_option maxRecDepth 100000

namespace Go.Proofs.YthgembbgcbaghaaGreatDoor
open Go.RowKit
def zo:JV:=.mk 0 0 ⟨#[]⟩ [] []
def zeroAggW:Value:=.agg #[.int .u8 0,.int .i64 0,.string ⟨#[]⟩,.slice none 0 0,.slice none 0 0]
theorem yc (w:World) (lo hi:Nat):Rep w lo hi zo zeroAggW:=by unfold zo Rep;exact ⟨none,0,none,0,rfl,J0 _,J0 _,.inl rfl,.inl rfl⟩
open Go.ChangeShapes Go.WideShapes Go.ChangeAt Go.Joins Go.Deep
mutual
def JV.fits:JV->Prop
 | .mk _ _ t ns xs=>t.size<=maxLen/\ns.length<=maxLen/\xs.length<=maxLen/\(∀s ∈ ns,s.size<=maxLen)/\JV.fitsL xs
def JV.fitsL:List JV->Prop
 | []=>True
 | x :: r=>JV.fits x/\JV.fitsL r
end
theorem yd {w:World} {a:Addr} {v:Value} (h:w.cell? a=some v):a=⟨a.block,a.off,none⟩:=by
 obtain ⟨b,o,c⟩:=a;cases c with
 | none=>rfl
 | some s=>simp [World.cell?] at h;split at h <;> simp at h
theorem yP (b o k:Nat):(⟨b,o,none⟩:Addr).add k=⟨b,o+k,none⟩:=by unfold Addr.add;split <;> simp_all
section
variable {H:Type} {enc:TypeId × Value->H} {P:Program} {w:World} {base:Nat} {spare:Nat->Bool} {held:Bool}
theorem wq {α:Type} {p:Nat->α->Prop}:∀(n:Nat),(∀i,i<n->∃v,p i v)->∃l:List α,l.length=n/\∀i (h:i<l.length),p i l[i]
 | 0,_=>⟨[],rfl,fun i h=>by simp at h⟩
 | n+1,h=>by
  obtain ⟨l,h1,h2⟩:=wq n fun i hi=>h i (by omega);obtain ⟨v,hv⟩:=h n (by omega);refine ⟨l ++ [v],by simp [h1],fun i hi=>?_⟩;by_cases e:i<l.length
  . rw [K6 e];exact h2 i e
  . have:i=n:=by simp at hi;omega
    subst this;rw [G6 (by omega)];simpa using hv
theorem yl {t e:TypeId} {fuel:Nat} {c:Value} {x:DataW H × List MemPlace} (ht:P.underlying t=some (.slice e)) (he:P.underlying e=some .string) (hc:P.cellsOf e=1) (h:DataW.trod enc P w base spare held fuel t [c]=some x) :
 ∃(a:Option Addr) (cap:Nat) (l:List ByteArray),c=.slice a l.length cap/\l.length<=cap/\l.length<=maxLen/\(∀s ∈ l,s.size<=maxLen)/\qv w 0 w.heap.size a l:=by
 rcases open_strings ht he hc h with ⟨h0,_⟩|⟨a,len,cap,ss,h0,_,hl,hm,hss,_,hcell,hsz⟩
 . simp at h0;subst h0;exact ⟨none,0,[],rfl,J0 _,by simp,by simp,.inl rfl⟩
 . simp at h0;subst h0;have j:len<=ss.length:=by rw [hss];split <;> omega
   have f:(ss.take len).length=len:=by rw [N7];omega
   refine ⟨some a,cap,ss.take len,by rw [f],by omega,by omega,fun s hs=>hsz s (List.mem_of_mem_take hs),?_⟩;by_cases h0:len=0
   . subst h0;exact .inl rfl
   . have d:=hcell 0 (by omega);rw [show a.add 0=a by simp [Addr.add]] at d;have g:=yd d;refine .inr ⟨a.block,a.off,by rw [<- g],J8 _,G4 w _ d,fun i hi=>?_⟩;have b:i<ss.length:=by rw [f] at hi;omega
     have:=hcell i b;rw [g,yP] at this;rw [this];simp [List.getD_eq_getElem?_getD,List.getElem?_eq_getElem b,List.getElem_take]
end
theorem gJ:Tryz.prog.cellsOf 9=1:=by kernel_rfl
abbrev Key2:=ByteArray × ByteArray
def zA (w:World) (lo hi:Nat) (a:Option Addr) (l:List Key2):Prop :=
 l=[]\/∃b off,a=some ⟨b,off,none⟩/\lo<=b/\b<hi/\∀i (h:i<l.length),w.cell? ⟨b,off+i * 2,none⟩=some (.string l[i].1)/\w.cell? ⟨b,off+i * 2+1,none⟩=some (.string l[i].2)
theorem zA.at {w:World} {lo hi:Nat} {a:Option Addr} {l:List Key2} (h:zA w lo hi a l) (i:Nat) (hi':i<l.length) :
 ∃b off,a=some ⟨b,off,none⟩/\lo<=b/\b<hi/\w.cell? ⟨b,off+i * 2,none⟩=some (.string l[i].1)/\w.cell? ⟨b,off+i * 2+1,none⟩=some (.string l[i].2):=by
 rcases h with h|⟨b,off,ha,hb,hb',hr⟩
 . rw [h] at hi';simp at hi'
 . exact ⟨b,off,ha,hb,hb',hr i hi'⟩
theorem zA.carry {w w':World} {lo hi lo' hi':Nat} {a:Option Addr} {l:List Key2} (h:zA w lo hi a l) (h1:lo'<=lo) (h2:hi<=hi') (hs:∀b,lo<=b->b<hi->w'.heap[b]?=w.heap[b]?):zA w' lo' hi' a l:=by
 rcases h with h|⟨b,off,ha,hb,hb',hr⟩
 . exact .inl h
 . refine .inr ⟨b,off,ha,by omega,by omega,fun i hi=>?_⟩;have e:∀o,w'.cell? ⟨b,o,none⟩=w.cell? ⟨b,o,none⟩:=fun o=>Y6 (w:=w) (w':=w') (hs b hb hb');rw [e,e];exact hr i hi
theorem zA.below {w w':World} {lo hi lo' hi' B:Nat} {a:Option Addr} {l:List Key2} (h:zA w lo hi a l) (hb:Below B w w') (hB:hi<=B) (h1:lo'<=lo) (h2:hi<=hi'):zA w' lo' hi' a l :=
 h.carry h1 h2 fun b _ hlt=>hb.block b (by omega)
theorem cG {H:Type} {enc:TypeId × Value->H} {P:Program} {w:World} {base:Nat} {spare:Nat->Bool} {held:Bool} {t:TypeId} {f0 f1:Field} {fuel:Nat} {cs:List Value} {x:DataW H × List MemPlace} (hs:P.underlying t=some (.struct #[f0,f1])) (hone:oneCellFields P #[f0,f1]=true) (hC:P.cellsOf t=2)
 (h:DataW.trod enc P w base spare held fuel t cs=some x) :
 ∃(c0 c1:Value) (y0 y1:DataW H × List MemPlace) (n:Nat),cs=[c0,c1]/\DataW.trod enc P w base spare held n f0.type [c0]=some y0/\DataW.trod enc P w base spare held n f1.type [c1]=some y1:=by
 obtain ⟨i,n,j,rfl,c,a,b⟩:=DataW.trod_struct hs h;rw [hC] at c;obtain ⟨f,d⟩:=hone_of hone 0 f0 rfl;obtain ⟨g,e⟩:=hone_of hone 1 f1 rfl
 match i,a,cs,c with
 | [y0,y1],_,[c0,c1],_=>exact ⟨c0,c1,y0,y1,n,rfl,by simpa [f,d] using b 0 f0 rfl,by simpa [g,e] using b 1 f1 rfl⟩
theorem qq {w:World} {p T j:Nat} {cs:Array Value} {u:Value} (hp:w.heap[p]?=some (.cells cs T (0,0))) (hj:cs[j]?=some u):w.cell? ⟨p,j,none⟩=some u:=by simp [World.cell?,hp,hj]
theorem qx {w:World} {p:Nat} {o:Obj} (h:w.heap[p]?=some o):p<w.heap.size:=(Array.getElem?_eq_some_iff.1 h).1
def xJ (x:Int) (n:Nat):Int:=x % 2 ^ n * 2 ^ (32 - n)+x / 2 ^ n
def gK (a b:Int):Int:=bits .xor .u32 a b
def aS (a b:Int):Int:=bits .and .u32 a b
def Q8 (a:Int):Int:=bits .xor .u32 IntKind.u32.max a
def xC (a b:Int):Int:=(a+b) % 4294967296
def sg0 (x:Int):Int:=gK (gK (xJ x 7) (xJ x 18)) (x / 8)
def sg1 (x:Int):Int:=gK (gK (xJ x 17) (xJ x 19)) (x / 1024)
def bg0 (x:Int):Int:=gK (gK (xJ x 2) (xJ x 13)) (xJ x 22)
def bg1 (x:Int):Int:=gK (gK (xJ x 6) (xJ x 11)) (xJ x 25)
def chc (e f g:Int):Int:=gK (aS e f) (aS (Q8 e) g)
def maj (a b c:Int):Int:=gK (gK (aS a b) (aS a c)) (aS b c)
def be4 (p:Nat->Int) (i:Nat):Int:=p (4 * i) * 16777216+p (4 * i+1) * 65536+p (4 * i+2) * 256+p (4 * i+3)
def pZ (p:Nat->Int):Nat->List Int
 | 0=>[]
 | n+1=>let l:=pZ p n
  l ++ [if n<16 then be4 p n else xC (xC (xC (l.getD (n - 16) 0) (sg0 (l.getD (n - 15) 0))) (l.getD (n - 7) 0)) (sg1 (l.getD (n - 2) 0))]
def wrd (p:Nat->Int) (i:Nat):Int:=(pZ p (i+1)).getD i 0
structure S8 where
 (a b c d e f g h:Int)
def S8.at (s:S8):Nat->Int
 | 0=>s.a|1=>s.b|2=>s.c|3=>s.d|4=>s.e|5=>s.f|6=>s.g|_=>s.h
def kays:List Int:=[0x428a2f98,0x71374491,0xb5c0fbcf,0xe9b5dba5,0x3956c25b,0x59f111f1,0x923f82a4,0xab1c5ed5,
 0xd807aa98,0x12835b01,0x243185be,0x550c7dc3,0x72be5d74,0x80deb1fe,0x9bdc06a7,0xc19bf174,
 0xe49b69c1,0xefbe4786,0x0fc19dc6,0x240ca1cc,0x2de92c6f,0x4a7484aa,0x5cb0a9dc,0x76f988da,
 0x983e5152,0xa831c66d,0xb00327c8,0xbf597fc7,0xc6e00bf3,0xd5a79147,0x06ca6351,0x14292967,
 0x27b70a85,0x2e1b2138,0x4d2c6dfc,0x53380d13,0x650a7354,0x766a0abb,0x81c2c92e,0x92722c85,
 0xa2bfe8a1,0xa81a664b,0xc24b8b70,0xc76c51a3,0xd192e819,0xd6990624,0xf40e3585,0x106aa070,
 0x19a4c116,0x1e376c08,0x2748774c,0x34b0bcb5,0x391c0cb3,0x4ed8aa4a,0x5b9cca4f,0x682e6ff3,
 0x748f82ee,0x78a5636f,0x84c87814,0x8cc70208,0x90befffa,0xa4506ceb,0xbef9a3f7,0xc67178f2]
def kay (i:Nat):Int:=kays.getD i 0
def wO:S8:=⟨0x6a09e667,0xbb67ae85,0x3c6ef372,0xa54ff53a,0x510e527f,0x9b05688c,0x1f83d9ab,0x5be0cd19⟩
def first (k x:Int) (s:S8):Int:=xC (xC (xC (xC s.h (bg1 s.e)) (chc s.e s.f s.g)) k) x
def rnd (k x:Int) (s:S8):S8:=⟨xC (xC (first k x s) (bg0 s.a)) (maj s.a s.b s.c),s.a,s.b,s.c,xC s.d (first k x s),s.e,s.f,s.g⟩
def kj (p:Nat->Int) (s:S8):Nat->S8
 | 0=>s
 | n+1=>rnd (kay n) (wrd p n) (kj p s n)
def S8.add (s t:S8):S8:=⟨xC s.a t.a,xC s.b t.b,xC s.c t.c,xC s.d t.d,xC s.e t.e,xC s.f t.f,xC s.g t.g,xC s.h t.h⟩
def k8 (s:S8) (p:Nat->Int):S8:=s.add (kj p s 64)
theorem k9 (p:Nat->Int):∀n,(pZ p n).length=n
 | 0=>rfl
 | n+1=>by simp [pZ,k9 p n]
theorem vq (p:Nat->Int) (i:Nat):∀n,i<n->(pZ p n).getD i 0=wrd p i
 | 0,h=>by omega
 | n+1,h=>by
  by_cases e:i=n
  . subst e;rfl
  . rw [<- vq p i n (by omega)];simp only [pZ,Y0];rw [G5 (by rw [k9];omega)]
theorem lK (p:Nat->Int) (n:Nat) (h:n<16):wrd p n=be4 p n:=by unfold wrd;simp only [pZ,Y0];rw [V5 (by rw [k9];omega),k9];simp [h]
theorem lV (p:Nat->Int) (n:Nat) (h:16<=n):wrd p n=xC (xC (xC (wrd p (n - 16)) (sg0 (wrd p (n - 15)))) (wrd p (n - 7))) (sg1 (wrd p (n - 2))):=by
 conv=>lhs;unfold wrd
 simp only [pZ,Y0];rw [V5 (by rw [k9];omega),k9];simp only [Nat.sub_self,List.getElem?_cons_zero,Option.getD_some,Z5 (show ¬n<16 by omega)];simp only [<- Y0];rw [vq p (n - 16) n (by omega),vq p (n - 15) n (by omega),vq p (n - 7) n (by omega),vq p (n - 2) n (by omega)]
theorem jo (a b:Int):0<=xC a b/\xC a b<4294967296:=by unfold xC;omega
def w32 (x:Int):Prop:=0<=x/\x<4294967296
theorem og {x:Int} (h:w32 x) (n:Nat) (hn:n<=32):w32 (xJ x n):=by
 obtain ⟨f,g⟩:=h;unfold xJ w32;have a:(0:Int)<2 ^ n:=Int.pow_pos (by omega);have l:(0:Int)<2 ^ (32 - n):=Int.pow_pos (by omega);have e:(2:Int) ^ n * 2 ^ (32 - n)=4294967296:=by rw [<- Int.pow_add,show n+(32 - n)=32 by omega];rfl
 have b:0<=x % 2 ^ n:=Int.emod_nonneg _ (by omega);have c:x % 2 ^ n<=2 ^ n - 1:=by have:=Int.emod_lt_of_pos x a;omega
 have i:0<=x / 2 ^ n:=Int.ediv_nonneg f (by omega);have j:x / 2 ^ n<2 ^ (32 - n):=(by apply Int.ediv_lt_of_lt_mul a;rw [Int.mul_comm,e];exact g);have d:x % 2 ^ n * 2 ^ (32 - n)<=(2 ^ n - 1) * 2 ^ (32 - n):=Int.mul_le_mul_of_nonneg_right c (by omega);have k:0<=x % 2 ^ n * 2 ^ (32 - n):=Int.mul_nonneg b (by omega);rw [Int.sub_mul,e] at d;constructor <;> omega
theorem eD (a b c d:Int) (ha:0<=a/\a<=255) (hb:0<=b/\b<=255) (hc:0<=c/\c<=255) (hd:0<=d/\d<=255) :
 bits .or .u32 (bits .or .u32 (bits .or .u32 (a % 4294967296 * 16777216 % 4294967296) (b % 4294967296 * 65536 % 4294967296)) (c % 4294967296 * 256 % 4294967296)) (d % 4294967296) =
  a * 16777216+b * 65536+c * 256+d:=by
 obtain ⟨a,rfl⟩:=za4 ha.1;obtain ⟨b,rfl⟩:=za4 hb.1;obtain ⟨c,rfl⟩:=za4 hc.1;obtain ⟨d,rfl⟩:=za4 hd.1;have e:((a:Int) % 4294967296 * 16777216 % 4294967296)=((a * 16777216:Nat):Int):=by omega
 have f:((b:Int) % 4294967296 * 65536 % 4294967296)=((b * 65536:Nat):Int):=by omega
 have g:((c:Int) % 4294967296 * 256 % 4294967296)=((c * 256:Nat):Int):=by omega
 have h:((d:Int) % 4294967296)=((d:Nat):Int):=by omega
 rw [e,f,g,h,u32_or_nat _ _ (by omega) (by omega),nat_join 24 _ _ (by omega) (by omega),u32_or_nat _ _ (by omega) (by omega),nat_join 16 _ _ (by omega) (by omega),u32_or_nat _ _ (by omega) (by omega),nat_join 8 _ _ (by omega) (by omega)];omega
theorem pj (p:Nat->Int) (hp:∀i,i<64->0<=p i/\p i<=255) (i:Nat):w32 (wrd p i):=by
 by_cases h:i<16
 . rw [lK p i h];unfold be4 w32;have:=hp (4 * i) (by omega);have:=hp (4 * i+1) (by omega);have:=hp (4 * i+2) (by omega);have:=hp (4 * i+3) (by omega);omega
 . rw [lV p i (by omega)];exact jo _ _
def S8.ok (s:S8):Prop:=w32 s.a/\w32 s.b/\w32 s.c/\w32 s.d/\w32 s.e/\w32 s.f/\w32 s.g/\w32 s.h
theorem eL {k x:Int} {s:S8} (h:s.ok):(rnd k x s).ok:=by obtain ⟨a,b,c,g,d,e,f,i⟩:=h;exact ⟨jo _ _,a,b,c,jo _ _,d,e,f⟩
theorem me (p:Nat->Int) {s:S8} (h:s.ok):∀n,(kj p s n).ok
 | 0=>h
 | n+1=>eL (me p h n)
theorem eR (s t:S8):(s.add t).ok:=⟨jo _ _,jo _ _,jo _ _,jo _ _,jo _ _,jo _ _,jo _ _,jo _ _⟩
theorem aA:wO.ok:=by unfold S8.ok wO w32;simp
theorem aT (s:S8) (p:Nat->Int):(k8 s p).ok:=eR _ _
theorem eK (k x:Int) (s:S8):(s.h+bg1 s.e+chc s.e s.f s.g+k+x+bg0 s.a+maj s.a s.b s.c) % 4294967296=(rnd k x s).a:=by show _=xC (xC (first k x s) (bg0 s.a)) (maj s.a s.b s.c);unfold first xC;omega
theorem eV (k x:Int) (s:S8):(s.d+(s.h+bg1 s.e+chc s.e s.f s.g+k+x)) % 4294967296=(rnd k x s).e:=by show _=xC s.d (first k x s);unfold first xC;omega
theorem aI (s t:S8) (j:Nat):(s.add t).at j=xC (s.at j) (t.at j):=by rcases j with _|_|_|_|_|_|_|j <;> rfl
def qY (l:List UInt8) (i:Nat):Int:=((l.getD i 0).toNat:Int)
def xO (l:List UInt8):Nat->S8
 | 0=>wO
 | n+1=>k8 (xO l n) (fun j=>qY l (64 * n+j))
theorem yF (l:List UInt8):∀n,(xO l n).ok
 | 0=>aA
 | _+1=>aT _ _
theorem vz (l:List UInt8) (i:Nat):0<=qY l i/\qY l i<=255:=by unfold qY;have:=(l.getD i 0).toNat_lt;omega
theorem pX {p q:Nat->Int} (h:∀j,j<64->p j=q j):∀n,pZ p n=pZ q n
 | 0=>rfl
 | n+1=>by
  simp only [pZ,pX h n];by_cases hn:n<16
  . simp only [J1 hn];unfold be4;rw [h _ (by omega),h _ (by omega),h _ (by omega),h _ (by omega)]
  . simp only [Z5 hn]
theorem pJ {p q:Nat->Int} (h:∀j,j<64->p j=q j) (s:S8):∀n,kj p s n=kj q s n
 | 0=>rfl
 | n+1=>by simp only [kj,pJ h s n,wrd,pX h (n+1)]
theorem wj {p q:Nat->Int} (h:∀j,j<64->p j=q j) (s:S8):k8 s p=k8 s q:=by unfold k8;rw [pJ h]
theorem bg {l m:List UInt8}:∀n,(∀i,i<64 * n->qY l i=qY m i)->xO l n=xO m n
 | 0,_=>rfl
 | n+1,h=>by simp only [xO];rw [bg n fun i hi=>h i (by omega)];exact wj (fun j hj=>h _ (by omega)) _
def be8 (n:Nat) (j:Nat):Int:=(n:Int) / 2 ^ (56 - 8 * j) % 256
def u8 (i:Int):UInt8:=UInt8.ofNat i.toNat
theorem vx {i:Int} (h:0<=i) (h':i<256):((u8 i).toNat:Int)=i:=by unfold u8;rw [UInt8.toNat_ofNat'];omega
def vQ (n:Nat):List UInt8:=(List.range 8).map fun j=>u8 (be8 n j)
theorem cB (n:Nat):(vQ n).length=8:=by simp [vQ]
theorem aO (n j:Nat):0<=be8 n j/\be8 n j<256:=by unfold be8;omega
theorem aE (n j:Nat) (hj:j<(vQ n).length):((vQ n)[j].toNat:Int)=be8 n j:=by simp only [vQ,H8,List.getElem_range];exact vx (aO n j).1 (aO n j).2
def gV (x:Int):List UInt8:=[u8 (x / 16777216 % 256),u8 (x / 65536 % 256),u8 (x / 256 % 256),u8 (x % 256)]
def bT (s:S8):Nat->List UInt8
 | 0=>[]
 | k+1=>bT s k ++ gV (s.at k)
def wk (l:List UInt8):List UInt8:=l ++ (128 :: List.replicate ((119 - l.length % 64) % 64) 0) ++ vQ (l.length * 8)
def ze (l:List UInt8):List UInt8:=bT (xO (wk l) ((wk l).length / 64)) 8
theorem bf (s:S8):∀k,(bT s k).length=4 * k
 | 0=>rfl
 | k+1=>by simp [bT,bf s k,gV];omega
theorem xE (l:List UInt8):(ze l).length=32:=bf _ 8
theorem uj (l:List UInt8):(wk l).length=l.length+9+(119 - l.length % 64) % 64:=by unfold wk vQ;simp;omega
theorem bh:∃j,Tryz.prog.info? 228=some j/\j.size=2:=by
 have h:(Tryz.prog.info? 228).map (·.size)=some 2:=by kernel_rfl
 obtain ⟨j,a,b⟩:=Option.map_eq_some_iff.1 h;exact ⟨j,a,b⟩
theorem liesBuilder:liesAt Tryz.prog Tryz.prog.depth 228 (2 / Tryz.prog.cellsOf 228) 0 228 1=true:=by kernel_rfl
theorem infoByte:(Tryz.prog.info? 5).map (fun i=>(i.zero,i.size,i.bytes))=some (some (.int .u8 0),1,1):=by kernel_rfl
theorem cellsByte:Tryz.prog.cellsOf 5=1:=by kernel_rfl
abbrev yr (B b:Nat) (bs:List Value) (w:World):Prop:=Lib.IsBuilderF 228 5 B b bs w
abbrev mQ (B b:Nat) (bs:List Value) (w:World):Prop:=Lib.BuilderAtF 228 5 B b (.pointer (some ⟨b,0,none⟩)) bs w
abbrev Kept (b:Nat) (w w':World):Prop:=Lib.OthersKept 5 (some b) w w'
theorem pK (b:Nat) (w:World) (h0:w.cell? ⟨b,0,none⟩=some (.pointer (some ⟨b,0,none⟩))) :
 Calls Tryz.prog 254 #[.pointer (some ⟨b,0,none⟩)] w fun e w'=>e=.returned (.tuple #[])/\w'=w:=by
 obtain ⟨j,a,_⟩:=bh;go_enter Tryz.func254,Tryz.ntmps254;go_wp2;rw [Lib.run_neq_ptr_same w _ Tryz.underlying226 a];go_wp2
 go_end0
 exact ⟨rfl,rfl⟩
theorem bI (b:Nat) (w:World) (h0:w.cell? ⟨b,0,none⟩=some (.pointer none)) (hsh:w.shape? b=some (228,2)) (hfz:w.frozen? ⟨b,0,none⟩=false) :
 Calls Tryz.prog 254 #[.pointer (some ⟨b,0,none⟩)] w fun e w'=>e=.returned (.tuple #[])/\w'=w.setCell ⟨b,0,none⟩ (.pointer (some ⟨b,0,none⟩)):=by
 obtain ⟨j,c,a⟩:=bh;go_enter Tryz.func254,Tryz.ntmps254;go_wp2;rw [Lib.run_to_unsafe w ⟨b,0,none⟩ Tryz.underlying226 Tryz.underlying279 c (by rw [a];decide) hsh (Nat.zero_lt_succ 1)];simp only [Result.andThen];rw [Oper.upon_value];go_wp2;rw [run_callFunc_extern Tryz.func272 (by kernel_rfl) (by kernel_rfl) (by kernel_rfl) (e:=Extern.AbiNoEscape.same) (by kernel_rfl)];rw [Lib.run_noEscape];simp only [Result.andThen];rw [Oper.upon_value];go_wp2;rw [Lib.run_from_unsafe w ⟨b,0,none⟩ Tryz.underlying279 Tryz.underlying226 c hsh liesBuilder];simp only [Result.andThen];rw [Oper.upon_value];go_wp2
 go_end0
 exact ⟨rfl,rfl⟩
theorem ul (B b:Nat) (bs:List Value) (w:World) (h:yr B b bs w) :
 Calls Tryz.prog 254 #[.pointer (some ⟨b,0,none⟩)] w fun e w'=>e=.returned (.tuple #[])/\(mQ B b bs w'/\Below B w w'/\Kept b w w'):=by
 rcases h with h|h
 . refine (bI b w h.cell0 h.shape h.frozen0).mono ?_;rintro e w' ⟨rfl,rfl⟩;exact ⟨rfl,h.used _,(Z0 B w).setCell (p:=⟨b,0,none⟩) h.1 _,(zb4 _ _ w).setCell ⟨b,0,none⟩ rfl _⟩
 . refine (pK b w h.cell0).mono ?_;rintro e w' ⟨rfl,rfl⟩;exact ⟨rfl,h,Z0 B _,zb4 _ _ _⟩
theorem zC (B b:Nat) (bs:List Value) (c:Int) (w:World) (h:yr B b bs w) (hlen:bs.length+1<=140737488355328) (hBw:B<=w.heap.size) :
 Calls Tryz.prog 233 #[.pointer (some ⟨b,0,none⟩),.int .u8 c] w fun e w'=>e=.returned .nilIface/\(mQ B b (bs ++ [.int .u8 c]) w'/\Below B w w'/\Kept b w w'):=by
 obtain ⟨C,hi,s,x,y⟩:=V9 infoByte;go_enter Tryz.func233,Tryz.ntmps233;go_wp2_with (go_at_call 254;refine (ul B b bs _ h).mono ?_);rintro e m ⟨rfl,A,f,o⟩;obtain ⟨z,v,l,a,r⟩:=A;have D:m.cell? ⟨b,0,none⟩=some (.pointer (some ⟨b,0,none⟩)):=by rw [za5 l];rfl
 have c1:m.cell? ⟨b,1,none⟩=some v:=by rw [za5 l];rfl
 go_wp2_with (at_builtin;refine wpList_append_ownF _ rfl _ _ 114 rfl B 5 C (.int .u8 0) 1 1 V6 hi s x y rfl (by decide) _ _ _ rfl (a.alloc _) ⟨m.heap.size,0,none⟩ 1 1 [.int .u8 c] rfl rfl ?c1 ?c2 ?c3 ?c4 ?c5 ?_)
 case c1 =>
  intro j u hj
  match j,hj with
  | 0,hj=>simp at hj;subst hj;simp [Addr.add]
 case c2=>intro u hu;simp at hu;subst hu;rfl
 case c3=>unfold maxLen;omega
 case c4=>omega
 case c5=>have:=f.size;simp;omega
 intro v' w2 hown' hgrow _;have q:b<m.heap.size:=by
  rcases Nat.lt_or_ge b m.heap.size with h'|h'
  . exact h'
  . simp [Array.getElem?_eq_none h'] at l
 have i:w2.heap[b]?=some (.cells #[.pointer (some ⟨b,0,none⟩),v] 228 (0,0)):=(by rw [hgrow.block b (by simp;omega) (fun e=>r e.symm),Lib.alloc_old m _ b q];exact l);have E:w2.cell? ⟨b,0,none⟩=some (.pointer (some ⟨b,0,none⟩)):=by rw [za5 i];rfl
 have F:w2.cell? ⟨b,1,none⟩=some v:=by rw [za5 i];rfl
 have G:w2.frozen? ⟨b,1,none⟩=false:=Lib.frozen_of_heap i 1;obtain ⟨g,d,rfl⟩:∃g d,v'=.slice (some ⟨g,0,none⟩) (bs.length+1) d:=by
  rcases hown'.2 with ⟨_,h0⟩|⟨g,d,cur,fz,hv,_⟩
  . omega
  . exact ⟨g,d,hv⟩
 go_wp2;go_ret;refine ⟨rfl,?_,?_,((o.alloc _).grown hgrow (Lib.ownsRowF_kind (a.alloc _))).setCell ⟨b,1,none⟩ rfl _⟩
 . exact Lib.BuilderAtF.put (T:=228) (e:=5) z i (bs':=bs ++ [.int .u8 c]) (by simpa using hown') (by decide)
 . exact ((f.alloc (by have:=f.size;omega) _).grown hgrow (by have:=f.size;simp;omega) (fun k hk=>(a.lt k hk).1)).setCell (p:=⟨b,1,none⟩) z _
theorem kH (B b:Nat) (bs:List Value) (s:ByteArray) (w:World) (h:yr B b bs w) (hlen:bs.length+s.size<=140737488355328) (hBw:B<=w.heap.size) :
 Calls Tryz.prog 230 #[.pointer (some ⟨b,0,none⟩),.string s] w fun e w'=>e=.returned (.tuple #[.int .i64 s.size,.nilIface])/\(mQ B b (bs ++ Lib.strCells s) w'/\Below B w w'/\Kept b w w'):=by
 obtain ⟨C,hi,q,r,u⟩:=V9 infoByte;go_enter Tryz.func230,Tryz.ntmps230;go_wp2_with (go_at_call 254;refine (ul B b bs _ h).mono ?_);rintro e j ⟨rfl,A,i,l⟩;obtain ⟨y,v,d,a,o⟩:=A;have D:j.cell? ⟨b,0,none⟩=some (.pointer (some ⟨b,0,none⟩)):=by rw [za5 d];rfl
 have E:j.cell? ⟨b,1,none⟩=some v:=by rw [za5 d];rfl
 go_wp2_with (at_builtin;refine Lib.wpList_append_own_stringF _ rfl _ _ 114 9 rfl B 5 C V6 X8 hi q r u _ _ _ rfl a s rfl ?c3 ?c4 ?c5 ?_)
 case c3=>unfold maxLen;omega
 case c4=>omega
 case c5=>have:=i.size;omega
 intro v' w2 hown' hgrow _;have m:b<j.heap.size:=by
  rcases Nat.lt_or_ge b j.heap.size with h'|h'
  . exact h'
  . simp [Array.getElem?_eq_none h'] at d
 have c:w2.heap[b]?=some (.cells #[.pointer (some ⟨b,0,none⟩),v] 228 (0,0)):=(by rw [hgrow.block b m (fun e=>o e.symm)];exact d);have F:w2.cell? ⟨b,0,none⟩=some (.pointer (some ⟨b,0,none⟩)):=by rw [za5 c];rfl
 have G:w2.cell? ⟨b,1,none⟩=some v:=by rw [za5 c];rfl
 have H:w2.frozen? ⟨b,1,none⟩=false:=Lib.frozen_of_heap c 1;obtain ⟨x,z,f,rfl⟩:∃x z f,v'=.slice x z f:=by
  rcases hown'.2 with ⟨hv,_⟩|⟨g,f,cur,fz,hv,_⟩
  . exact ⟨_,_,_,hv⟩
  . exact ⟨_,_,_,hv⟩
 go_wp2;go_ret2;refine ⟨rfl,?_,?_,(l.grown hgrow (Lib.ownsRowF_kind a)).setCell ⟨b,1,none⟩ rfl _⟩
 . exact Lib.BuilderAtF.put (T:=228) (e:=5) y c (bs':=bs ++ Lib.strCells s) (by simpa [Lib.strCells_length] using hown') (by decide)
 . exact (i.grown hgrow (by have:=i.size;omega) (fun k hk=>(a.lt k hk).1)).setCell (p:=⟨b,1,none⟩) y _
theorem wE (B b:Nat) (l:List UInt8) (w:World) (h:yr B b (Lib.byteCells l) w) (h0:l≠[]) :
 Calls Tryz.prog 234 #[.pointer (some ⟨b,0,none⟩)] w fun e w'=>e=.returned (.string ⟨l.toArray⟩)/\Below B w w'/\Kept b w w':=by
 obtain ⟨p,m⟩:∃p,Lib.BuilderAtF 228 5 B b p (Lib.byteCells l) w:=by
  rcases h with h|h
  . exact ⟨_,h⟩
  . exact ⟨_,h⟩
 obtain ⟨I,v,k,d,C⟩:=m;have A:l.length≠0:=by simpa using h0
 rw [Lib.byteCells_length] at d;obtain ⟨g,a,c,f,rfl,o,y,u,G,q,s,i⟩:∃g a c f,v=.slice (some ⟨g,0,none⟩) l.length a/\B<=g/\w.heap[g]?=some (.cells c 5 f)/\f.2<=l.length * 1/\l.length<=a/\a<=maxLen/\c.size=a * 1/\c.toList.take (l.length * 1)=Lib.byteCells l:=by
  rcases d.2 with ⟨_,hz⟩|⟨g,a,c,f,hv,r⟩
  . exact absurd hz A
  . exact ⟨g,a,c,f,hv,r⟩
 have H:w.drew.cell? ⟨b,1,none⟩=some (.slice (some ⟨g,0,none⟩) l.length a):=(by have:w.drew.heap[b]?=some (.cells #[p,.slice (some ⟨g,0,none⟩) l.length a] 228 (0,0)):=k;rw [za5 this];rfl);have E:(Builtin.unsafeSliceData_ #[114] 260 #[.slice (some ⟨g,0,none⟩) l.length a]).run Tryz.prog w.drew=.ok (.pointer (some ⟨g,0,none⟩)) w.drew :=
  Lib.run_unsafeSliceData_row _ _ _ _ _ _ (by omega)
 have F:(Builtin.unsafeString_ #[260,3] 9 #[.pointer (some ⟨g,0,none⟩),.int .i64 l.length]).run Tryz.prog w.drew=.ok (.string ⟨l.toArray⟩) (w.drew.freeze ⟨g,0,none⟩ l.length):=(by refine Lib.run_unsafeString_row w.drew 260 3 9 5 Tryz.underlying260 cellsByte g c.size (by have z:w.drew.heap[g]?=some (.cells c 5 f):=y;simp [World.shape?,z]) l h0 (by omega) (by unfold maxLen at q;omega) ?_;intro j x hx;have:=d.cells (g:=g) rfl j (.int .u8 x.toNat) (by simp [Lib.byteCells,hx]);exact this);have D:=O0 (Below B w (w.drew.freeze ⟨g,0,none⟩ l.length)/\Kept b w (w.drew.freeze ⟨g,0,none⟩ l.length)) (⟨Lib.below_freeze (Below.drew (Z0 B w)) (p:=⟨g,0,none⟩) o _,((zb4 _ _ w).drew).freeze ⟨g,0,none⟩ _ ⟨c,f,y⟩⟩);clear d k C y i s u;go_enter Tryz.func234,Tryz.ntmps234;go_wp2
 go_region
 all_goals (go_wp2;go_ret;exact ⟨rfl,D.o⟩)
section
variable {P:Program}
theorem je {S:Nat->Prop} {b:Nat} {a:World} (hb:S b\/a.heap.size<=b):∀(vs:List Value) (o:Nat) (w:World),Touch S a w->Touch S a (w.setCells b o vs)
 | [],_,_,h=>h
 | v :: r,o,_,h=>je hb r (o+1) _ (h.setCell hb v)
theorem mZ (w:World) (dT sT ty elem:TypeId) (b o dLen dCap:Nat) (s:ByteArray)
 (hu:P.underlying dT=some (.slice elem)) (hz:∀w,(Go.sizeOf elem).run P w=.ok 1 w)
 (hc:∀j,j<Nat.min s.size dLen->(w.cell? ⟨b,o+j,none⟩).isSome=true) (hf:∀j,j<Nat.min s.size dLen->w.frozen? ⟨b,o+j,none⟩=false) :
 (Builtin.copy_ #[dT,sT] ty #[.slice (some ⟨b,o,none⟩) dLen dCap,.string s]).run P w=.ok (goInt (Nat.min s.size dLen)) (w.setCells b o ((s.data.toList.map fun x=>Value.int .u8 (x.toNat:Int)).take (Nat.min s.size dLen))):=by
 have c:((s.data.toList.map fun x=>Value.int .u8 (x.toNat:Int)).take (Nat.min s.size dLen)).length=Nat.min s.size dLen:=(by rw [N7,J9,qp];exact Nat.min_eq_left (Nat.min_le_left _ _));have a:=run_storeCells_cells (P:=P) b o ((s.data.toList.map fun x=>Value.int .u8 (x.toNat:Int)).take (Nat.min s.size dLen)) 0 w (by rw [c];simpa using hc) (by rw [c];simpa using hf) (by
  intro v hv;obtain ⟨x,_,rfl⟩:=M4.1 (List.mem_of_mem_take hv);rfl)
 simp [Builtin.copy_,run_underlying hu,Builtin.lenOf,Builtin.firstCells,hz];rw [a];rfl
def rI (s:ByteArray) (i:Nat):Int:=((s.data.toList.getD i 0).toNat:Int)
theorem bO {w:World} {ops:Array Oper} {rest:List Oper} {o:Oper} {a:Act} {Q:Exit->Act->World->Prop} (hgd:o.guard=none) (d x:Operand) (dT sT:TypeId)
 (ho:o.op=.call { callee:=.builtin .copy,args:=#[d,x],argTypes:=#[dT,sT] }) (elem:TypeId) (hu:P.underlying dT=some (.slice elem)) (hz:∀w,(Go.sizeOf elem).run P w=.ok 1 w)
 (b off dLen dCap:Nat) (s:ByteArray) (hd:a.eval d=.slice (some ⟨b,off,none⟩) dLen dCap) (hs:a.eval x=.string s)
 (t N:Nat) (f:Nat->Value) (hr:w.rowIs b t N f) (n:Nat) (hn:n=Nat.min s.size dLen) (hfit:off+n<=N)
 (h:∀w',Hid (w'.rowIs b t N (fun j=>if off<=j/\j<off+n then .int .u8 (rI s (j - off)) else f j))->Hid (Touch (· = b) w w')->wpList P ops Q rest (a.put o.dst (goInt n)) w') :
 wpList P ops Q (o :: rest) a w:=by
 refine wpList_plain hgd fun K hK=>?_;have c:=mZ (P:=P) w dT sT o.type elem b off dLen dCap s hu hz (fun j hj=>by rw [hr.cell (by omega)];rfl) (fun j hj=>hr.frozen _);rw [<- hn] at c;unfold Oper.wp;simp [execOp,ho,resolve,invoke,builtin,hd,hs,c,Result.andThen];refine hK _ _ (h _ ?_ (je (S:=(· = b)) (b:=b) (a:=w) (.inl rfl) _ _ _ (Touch.refl _ _)));have g:((s.data.toList.map fun x=>Value.int .u8 (x.toNat:Int)).take n).length=n:=(by rw [N7,J9,qp,hn];exact Nat.min_eq_left (Nat.min_le_left _ _));refine (rowIs_setCells _ off w f hr).congr fun j hj=>?_;rw [g];by_cases e:off<=j/\j<off+n
 . rw [J1 e,J1 e,List.getElem?_take_of_lt (by omega),List.getElem?_map];unfold rI;rw [Y0];have:j - off<s.data.toList.length:=by rw [qp];have:n<=s.size:=hn ▸ Nat.min_le_left _ _;omega
   rw [Y5 this];rfl
 . rw [Z5 e,Z5 e]
theorem cP {n:Nat} {f:Nat->Value} (h:∀i,i<n->(f i).oneCell'=true) (c:Array Value) (hc:c.size=n) (hf:∀i,i<n->c[i]?=some (f i)):∀v ∈ c.toList,v.oneCell'=true:=by
 intro v hv;obtain ⟨i,hi,rfl⟩:=Y3 hv;have a:i<n:=by simpa [hc] using hi
 have:=hf i a;rw [V3 (by omega)] at this;have e:c.toList[i]=f i:=by simpa using X7 this
 rw [e];exact h i a
theorem wpList_store_row {w:World} {ops:Array Oper} {rest:List Oper} {o:Oper} {a:Act} {Q:Exit->Act->World->Prop} (hgd:o.guard=none) (ty:TypeId) (x y:Operand)
 (ho:o.op=.store ty x y) (g t n:Nat) (f f':Nat->Value) (hx:a.eval x=.pointer (some ⟨g,0,none⟩)) (hr:w.rowIs g t n f) (cs:Array Value) (hy:a.eval y=.agg cs) (hcs:cs.size=n) (hcf:∀i,i<n->cs[i]?=some (f' i))
 (h1:∀i,i<n->(f' i).oneCell'=true) (hi:∀w,(Go.sizeOf ty).run P w=.ok n w)
 (h:∀w',Hid (w'.rowIs g t n f')->Hid (Touch (· = g) w w')->wpList P ops Q rest (a.put o.dst undef) w'):wpList P ops Q (o :: rest) a w:=by
 refine wpList_plain hgd fun K hK=>?_;have c:=run_storeCells_cells (P:=P) g 0 cs.toList 0 w (fun j hj=>by simp at hj;rw [hr.cell (i:=0+0+j) (by omega)];rfl) (fun j _=>hr.frozen _) (cP h1 cs hcs hcf);unfold Oper.wp execOp;simp only [ho,hx,hy,Instr.storeAt,Instr.sureAddr,Sem.run_bind,Sem.run_pure,Result.andThen_ok,storeVar,Value.cells,hi];simp [hcs,c,Oper.upon];refine hK _ _ (h _ ?_ (je (S:=(· = g)) (b:=g) (a:=w) (.inl rfl) _ _ _ (Touch.refl _ _)));refine (rowIs_setCells _ 0 w f hr).congr fun j hj=>?_;rw [J1 (by simp;omega)];have:=hcf j hj;simp at this ⊢;rw [this];rfl
theorem jQ {w:World} {ops:Array Oper} {rest:List Oper} {o:Oper} {a:Act} {Q:Exit->Act->World->Prop} (hgd:o.guard=none) (ty:TypeId) (x:Operand) (ho:o.op=.load ty x)
 (g t n:Nat) (f:Nat->Value) (hx:a.eval x=.pointer (some ⟨g,0,none⟩)) (hr:w.rowIs g t n f) (d:TypeDesc)
 (hu:P.underlying ty=some d) (hd:(match d with | .struct _ | .array _ _=>true|_=>false)=true) (hi:(P.info? ty).map (·.size)=some n)
 (h:∀cs:Array Value,Hid (cs.size=n)->Hid (∀i,i<n->cs[i]?=some (f i))->wpList P ops Q rest (a.put o.dst (.agg cs)) w):wpList P ops Q (o :: rest) a w:=by
 obtain ⟨c,e,b,j⟩:=hr;exact wpList_load_row hgd ty x ho g hx t c (0,0) d e hu hd (by rw [b];exact hi) (h c b j)
theorem pV {T N E:Nat} (hT:P.underlying T=some (.array N E)) (hz:∀w,(Go.sizeOf E).run P w=.ok 1 w) (b o u:Nat) (hu:u<N) (w:World) :
 (Instr.sliceAt T (.pointer (some ⟨b,o,none⟩)) (some (.int .i64 (u:Int))) none none).run P w=.ok (.slice (some ⟨b,o+u,none⟩) (N - u) (N - u)) w:=by
 have c:(0:Int)<=u/\(u:Int)<=N:=by omega
 have a:(⟨b,o,none⟩:Addr).add u=⟨b,o+u,none⟩:=by unfold Addr.add;split <;> simp_all
 simp [Instr.sliceAt,run_underlying hT,Instr.sureAddr,Instr.sliceBounds,Instr.sliceBound,asIntOf,hz,show u<=N by omega];rw [Z5 (by omega),a]
theorem zD {w:World} {base:Nat} {v:Value} {n:Nat} {l:List UInt8} (src dst e:TypeId) (hs:P.underlying src=some (.slice e)) (he:P.underlying e=some (.int .u8)) (hd:P.underlying dst=some .string)
 (h:w.ownsRow base e 1 v n (Lib.byteCells l)):(convert src dst v).run P w=.ok (.string ⟨l.toArray⟩) w:=by
 have a:l.length=n:=by have:=h.1;simpa [Lib.byteCells] using this
 rcases h.2 with ⟨rfl,h0⟩|⟨g,cap,cur,rfl,hg⟩
 . have:l=[]:=X3 (by omega);subst this;exact Lib.run_convert_nil_bytes w src dst e 0 hs he hd
 . subst a;refine run_convert_bytes_back w src dst e ⟨g,0,none⟩ cap l hs he hd fun j hj=>?_;refine h.cells rfl j _ ?_;simp [Lib.byteCells,List.getElem?_eq_getElem hj]
end
end Go.Proofs.YthgembbgcbaghaaGreatDoor
