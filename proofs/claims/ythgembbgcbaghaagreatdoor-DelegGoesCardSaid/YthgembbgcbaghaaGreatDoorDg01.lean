import Derived.Test.YthgembbgcbaghaaGreatDoorDg00
import Derived.ProofKit
import Derived.OpenShut
import Derived.ChangeSame
import Derived.SliceStrings
import Derived.Deep.Slices
import Derived.Lib.SmallJoins
import Derived.Carry
import Derived.BigQuiet
import Derived.Deep.RegionHeld3
import Derived.Deep.QuietTactic
import Derived.Outline
import Derived.Laws.BitsAllLaws
import Derived.Lib.Builder
import Derived.Lib.AppendStr
import Derived.Lib.UnsafeStr
import Derived.Lib.FrozenHead2
import Derived.Lib.OthersKept
import Derived.Laws.Externs
import Derived.Lib.LazyBuf
import Derived.Laws.Rows
import Derived.Laws.IdiomStrings
import Derived.Laws.BytesArg
import Derived.Lib.BufferRead
set_option maxHeartbeats 400000
set_option maxRecDepth 100000

namespace Go.Proofs.YthgembbgcbaghaaGreatDoor
open Go.RowKit
def zJ:JV:=.mk 0 0 ⟨#[]⟩ [] []
def zeroAggW:Value:=.agg #[.int .u8 0,.int .i64 0,.string ⟨#[]⟩,.slice none 0 0,.slice none 0 0]
theorem yZ (w:World) (lo hi:Nat):Rep w lo hi zJ zeroAggW:=by unfold zJ Rep;exact ⟨none,0,none,0,rfl,J9 _,J9 _,.inl rfl,.inl rfl⟩
open Go.ChangeShapes Go.WideShapes Go.ChangeAt Go.Joins Go.Deep
mutual
def JV.fits:JV->Prop
 | .mk _ _ t ns xs=>t.size<=maxLen/\ns.length<=maxLen/\xs.length<=maxLen/\(∀s ∈ ns,s.size<=maxLen)/\JV.fitsL xs
def JV.fitsL:List JV->Prop
 | []=>True
 | x :: r=>JV.fits x/\JV.fitsL r
end
theorem yX {w:World} {a:Addr} {v:Value} (h:w.cell? a=some v):a=⟨a.block,a.off,none⟩:=by
 obtain ⟨b,o,c⟩:=a;cases c with
 | none=>rfl
 | some s=>simp [World.cell?] at h;split at h <;> simp at h
theorem yE (b o k:Nat):(⟨b,o,none⟩:Addr).add k=⟨b,o+k,none⟩:=by unfold Addr.add;split <;> simp_all
section
variable {H:Type} {enc:TypeId × Value->H} {P:Program} {w:World} {base:Nat} {spare:Nat->Bool} {held:Bool}
theorem wn {α:Type} {p:Nat->α->Prop}:∀(n:Nat),(∀i,i<n->∃v,p i v)->∃l:List α,l.length=n/\∀i (h:i<l.length),p i l[i]
 | 0,_=>⟨[],rfl,fun i h=>by simp at h⟩
 | n+1,h=>by
  obtain ⟨l,h1,h2⟩:=wn n fun i hi=>h i (by omega);obtain ⟨v,hv⟩:=h n (by omega);refine ⟨l ++ [v],by simp [h1],fun i hi=>?_⟩;by_cases e:i<l.length
  . rw [G9 e];exact h2 i e
  . have:i=n:=by simp at hi;omega
    subst this;rw [N0 (by omega)];simpa using hv
theorem yJ {t e:TypeId} {k:Nat} {c:Value} {x:DataW H × List MemPlace} (p:P.underlying t=some (.slice e)) (o:P.underlying e=some .string) (m:P.cellsOf e=1) (h:DataW.trod enc P w base spare held k t [c]=some x) :
 ∃(a:Option Addr) (cap:Nat) (l:List ByteArray),c=.slice a l.length cap/\l.length<=cap/\l.length<=maxLen/\(∀s ∈ l,s.size<=maxLen)/\qv w 0 w.heap.size a l:=by
 rcases open_strings p o m h with ⟨h0,_⟩|⟨a,len,cap,ss,h0,_,hl,hm,hss,_,hcell,hsz⟩
 . simp at h0;subst h0;exact ⟨none,0,[],rfl,J9 _,by simp,by simp,.inl rfl⟩
 . simp at h0;subst h0;have j:len<=ss.length:=by rw [hss];split <;> omega
   have f:(ss.take len).length=len:=by rw [M7];omega
   refine ⟨some a,cap,ss.take len,by rw [f],by omega,by omega,fun s hs=>hsz s (List.mem_of_mem_take hs),?_⟩;by_cases h0:len=0
   . subst h0;exact .inl rfl
   . have d:=hcell 0 (by omega);rw [show a.add 0=a by simp [Addr.add]] at d;have g:=yX d;refine .inr ⟨a.block,a.off,by rw [<- g],X7 _,H8 w _ d,fun i hi=>?_⟩;have b:i<ss.length:=by rw [f] at hi;omega
     have:=hcell i b;rw [g,yE] at this;rw [this];simp [List.getD_eq_getElem?_getD,List.getElem?_eq_getElem b,List.getElem_take]
end
theorem gT:Tryz.prog.cellsOf 9=1:=by kernel_rfl
abbrev Key2:=ByteArray × ByteArray
def xu (w:World) (lo hi:Nat) (a:Option Addr) (l:List Key2):Prop :=
 l=[]\/∃b off,a=some ⟨b,off,none⟩/\lo<=b/\b<hi/\∀i (h:i<l.length),w.cell? ⟨b,off+i * 2,none⟩=some (.string l[i].1)/\w.cell? ⟨b,off+i * 2+1,none⟩=some (.string l[i].2)
theorem xu.at {w:World} {lo hi:Nat} {a:Option Addr} {l:List Key2} (h:xu w lo hi a l) (i:Nat) (hi':i<l.length) :
 ∃b off,a=some ⟨b,off,none⟩/\lo<=b/\b<hi/\w.cell? ⟨b,off+i * 2,none⟩=some (.string l[i].1)/\w.cell? ⟨b,off+i * 2+1,none⟩=some (.string l[i].2):=by
 rcases h with h|⟨b,off,ha,hb,hb',hr⟩
 . rw [h] at hi';simp at hi'
 . exact ⟨b,off,ha,hb,hb',hr i hi'⟩
theorem xu.carry {w w':World} {lo hi lo' hi':Nat} {a:Option Addr} {l:List Key2} (h:xu w lo hi a l) (d:lo'<=lo) (f:hi<=hi') (c:∀b,lo<=b->b<hi->w'.heap[b]?=w.heap[b]?):xu w' lo' hi' a l:=by
 rcases h with h|⟨b,off,ha,hb,hb',hr⟩
 . exact .inl h
 . refine .inr ⟨b,off,ha,by omega,by omega,fun i hi=>?_⟩;have e:∀o,w'.cell? ⟨b,o,none⟩=w.cell? ⟨b,o,none⟩:=fun o=>V9 (w:=w) (w':=w') (c b hb hb');rw [e,e];exact hr i hi
theorem xu.below {w w':World} {lo hi lo' hi' B:Nat} {a:Option Addr} {l:List Key2} (h:xu w lo hi a l) (e:Below B w w') (f:hi<=B) (c:lo'<=lo) (d:hi<=hi'):xu w' lo' hi' a l :=
 h.carry c d fun b _ hlt=>e.block b (by omega)
theorem dd {H:Type} {enc:TypeId × Value->H} {P:Program} {w:World} {l:Nat} {k:Nat->Bool} {m:Bool} {t:TypeId} {p q:Field} {r:Nat} {cs:List Value} {x:DataW H × List MemPlace} (A:P.underlying t=some (.struct #[p,q])) (o:oneCellFields P #[p,q]=true) (z:P.cellsOf t=2)
 (h:DataW.trod enc P w l k m r t cs=some x) :
 ∃(s u:Value) (v y:DataW H × List MemPlace) (n:Nat),cs=[s,u]/\DataW.trod enc P w l k m n p.type [s]=some v/\DataW.trod enc P w l k m n q.type [u]=some y:=by
 obtain ⟨i,n,j,rfl,c,a,b⟩:=DataW.trod_struct A h;rw [z] at c;obtain ⟨f,d⟩:=hone_of o 0 p rfl;obtain ⟨g,e⟩:=hone_of o 1 q rfl
 match i,a,cs,c with
 | [v,y],_,[s,u],_=>exact ⟨s,u,v,y,n,rfl,by simpa [f,d] using b 0 p rfl,by simpa [g,e] using b 1 q rfl⟩
theorem qq {w:World} {p T j:Nat} {cs:Array Value} {u:Value} (b:w.heap[p]?=some (.cells cs T (0,0))) (a:cs[j]?=some u):w.cell? ⟨p,j,none⟩=some u:=by simp [World.cell?,b,a]
theorem qx {w:World} {p:Nat} {o:Obj} (h:w.heap[p]?=some o):p<w.heap.size:=(Array.getElem?_eq_some_iff.1 h).1
def xB (x:Int) (n:Nat):Int:=x % 2 ^ n * 2 ^ (32 - n)+x / 2 ^ n
def gI (a b:Int):Int:=bits .xor .u32 a b
def iQ (a b:Int):Int:=bits .and .u32 a b
def Xh (a:Int):Int:=bits .xor .u32 IntKind.u32.max a
def xS (a b:Int):Int:=(a+b) % 4294967296
def sg0 (x:Int):Int:=gI (gI (xB x 7) (xB x 18)) (x / 8)
def sg1 (x:Int):Int:=gI (gI (xB x 17) (xB x 19)) (x / 1024)
def bg0 (x:Int):Int:=gI (gI (xB x 2) (xB x 13)) (xB x 22)
def bg1 (x:Int):Int:=gI (gI (xB x 6) (xB x 11)) (xB x 25)
def chc (e f g:Int):Int:=gI (iQ e f) (iQ (Xh e) g)
def maj (a b c:Int):Int:=gI (gI (iQ a b) (iQ a c)) (iQ b c)
def be4 (p:Nat->Int) (i:Nat):Int:=p (4 * i) * 16777216+p (4 * i+1) * 65536+p (4 * i+2) * 256+p (4 * i+3)
def pN (p:Nat->Int):Nat->List Int
 | 0=>[]
 | n+1=>let l:=pN p n
  l ++ [if n<16 then be4 p n else xS (xS (xS (l.getD (n - 16) 0) (sg0 (l.getD (n - 15) 0))) (l.getD (n - 7) 0)) (sg1 (l.getD (n - 2) 0))]
def wrd (p:Nat->Int) (i:Nat):Int:=(pN p (i+1)).getD i 0
structure S8 where
 (a b c d e f g h:Int)
def S8.at (s:S8):Nat->Int
 | 0=>s.a|1=>s.b|2=>s.c|3=>s.d|4=>s.e|5=>s.f|6=>s.g|_=>s.h
def kays:List Int:=[0x428a2f98,0x71374491,0xb5c0fbcf,0xe9b5dba5,0x3956c25b,0x59f111f1,0x923f82a4,0xab1c5ed5,
 0xd807aa98,0x12835b01,0x243185be,0x550c7dc3,0x72be5d74,0x80deb1fe,0x9bdc06a7,0xc19bf174,
 0xe49b69c1,0xefbe4786,0x0fc19dc6,0x240ca1cc,0x2de92c6f,0x4a7484aa,0x5cb0a9dc,0x76f988da,
 0x983e5152,0xa831c66d,0xb00327c8,0xbf597fc7,0xc6e00bf3,0xd5a79147,0x06ca6351,0x14292967,
 0x27b70a85,0x2e1b2138,0x4d2c6dfc,0x53380d13,0x650a7354,0x766a0abb,0x81c2c92e,0x92722c85,
 0xa2bfe8a1,0xa81a664b,0xc24b8b70,0xc76c51a3,0xd192e819,0xd6990624,0xf40e3585,0x106aa070,
 0x19a4c116,0x1e376c08,0x2748774c,0x34b0bcb5,0x391c0cb3,0x4ed8aa4a,0x5b9cca4f,0x682e6ff3,
 0x748f82ee,0x78a5636f,0x84c87814,0x8cc70208,0x90befffa,0xa4506ceb,0xbef9a3f7,0xc67178f2]
def kay (i:Nat):Int:=kays.getD i 0
def yf:S8:=⟨0x6a09e667,0xbb67ae85,0x3c6ef372,0xa54ff53a,0x510e527f,0x9b05688c,0x1f83d9ab,0x5be0cd19⟩
def first (k x:Int) (s:S8):Int:=xS (xS (xS (xS s.h (bg1 s.e)) (chc s.e s.f s.g)) k) x
def rnd (k x:Int) (s:S8):S8:=⟨xS (xS (first k x s) (bg0 s.a)) (maj s.a s.b s.c),s.a,s.b,s.c,xS s.d (first k x s),s.e,s.f,s.g⟩
def kt (p:Nat->Int) (s:S8):Nat->S8
 | 0=>s
 | n+1=>rnd (kay n) (wrd p n) (kt p s n)
def S8.add (s t:S8):S8:=⟨xS s.a t.a,xS s.b t.b,xS s.c t.c,xS s.d t.d,xS s.e t.e,xS s.f t.f,xS s.g t.g,xS s.h t.h⟩
def vv (s:S8) (p:Nat->Int):S8:=s.add (kt p s 64)
theorem vw (p:Nat->Int):∀n,(pN p n).length=n
 | 0=>rfl
 | n+1=>by simp [pN,vw p n]
theorem vy (p:Nat->Int) (i:Nat):∀n,i<n->(pN p n).getD i 0=wrd p i
 | 0,h=>by omega
 | n+1,h=>by
  by_cases e:i=n
  . subst e;rfl
  . rw [<- vy p i n (by omega)];simp only [pN,V2];rw [H9 (by rw [vw];omega)]
theorem ri (p:Nat->Int) (n:Nat) (h:n<16):wrd p n=be4 p n:=by unfold wrd;simp only [pN,V2];rw [G1 (by rw [vw];omega),vw];simp [h]
theorem rQ (p:Nat->Int) (n:Nat) (h:16<=n):wrd p n=xS (xS (xS (wrd p (n - 16)) (sg0 (wrd p (n - 15)))) (wrd p (n - 7))) (sg1 (wrd p (n - 2))):=by
 conv=>lhs;unfold wrd
 simp only [pN,V2];rw [G1 (by rw [vw];omega),vw];simp only [Nat.sub_self,List.getElem?_cons_zero,Option.getD_some,J3 (show ¬n<16 by omega)];simp only [<- V2];rw [vy p (n - 16) n (by omega),vy p (n - 15) n (by omega),vy p (n - 7) n (by omega),vy p (n - 2) n (by omega)]
theorem jQ (a b:Int):0<=xS a b/\xS a b<4294967296:=by unfold xS;omega
def w32 (x:Int):Prop:=0<=x/\x<4294967296
theorem eE {x:Int} (h:w32 x) (n:Nat) (m:n<=32):w32 (xB x n):=by
 obtain ⟨f,g⟩:=h;unfold xB w32;have a:(0:Int)<2 ^ n:=Int.pow_pos (by omega);have l:(0:Int)<2 ^ (32 - n):=Int.pow_pos (by omega);have e:(2:Int) ^ n * 2 ^ (32 - n)=4294967296:=by rw [<- Int.pow_add,show n+(32 - n)=32 by omega];rfl
 have b:0<=x % 2 ^ n:=Int.emod_nonneg _ (by omega);have c:x % 2 ^ n<=2 ^ n - 1:=by have:=Int.emod_lt_of_pos x a;omega
 have i:0<=x / 2 ^ n:=Int.ediv_nonneg f (by omega);have j:x / 2 ^ n<2 ^ (32 - n):=(by apply Int.ediv_lt_of_lt_mul a;rw [Int.mul_comm,e];exact g);have d:x % 2 ^ n * 2 ^ (32 - n)<=(2 ^ n - 1) * 2 ^ (32 - n):=Int.mul_le_mul_of_nonneg_right c (by omega);have k:0<=x % 2 ^ n * 2 ^ (32 - n):=Int.mul_nonneg b (by omega);rw [Int.sub_mul,e] at d;constructor <;> omega
theorem Zz (a b c d:Int) (i:0<=a/\a<=255) (j:0<=b/\b<=255) (k:0<=c/\c<=255) (l:0<=d/\d<=255) :
 bits .or .u32 (bits .or .u32 (bits .or .u32 (a % 4294967296 * 16777216 % 4294967296) (b % 4294967296 * 65536 % 4294967296)) (c % 4294967296 * 256 % 4294967296)) (d % 4294967296) =
  a * 16777216+b * 65536+c * 256+d:=by
 obtain ⟨a,rfl⟩:=zc0 i.1;obtain ⟨b,rfl⟩:=zc0 j.1;obtain ⟨c,rfl⟩:=zc0 k.1;obtain ⟨d,rfl⟩:=zc0 l.1;have e:((a:Int) % 4294967296 * 16777216 % 4294967296)=((a * 16777216:Nat):Int):=by omega
 have f:((b:Int) % 4294967296 * 65536 % 4294967296)=((b * 65536:Nat):Int):=by omega
 have g:((c:Int) % 4294967296 * 256 % 4294967296)=((c * 256:Nat):Int):=by omega
 have h:((d:Int) % 4294967296)=((d:Nat):Int):=by omega
 rw [e,f,g,h,u32_or_nat _ _ (by omega) (by omega),nat_join 24 _ _ (by omega) (by omega),u32_or_nat _ _ (by omega) (by omega),nat_join 16 _ _ (by omega) (by omega),u32_or_nat _ _ (by omega) (by omega),nat_join 8 _ _ (by omega) (by omega)];omega
theorem pK (p:Nat->Int) (a:∀i,i<64->0<=p i/\p i<=255) (i:Nat):w32 (wrd p i):=by
 by_cases h:i<16
 . rw [ri p i h];unfold be4 w32;have:=a (4 * i) (by omega);have:=a (4 * i+1) (by omega);have:=a (4 * i+2) (by omega);have:=a (4 * i+3) (by omega);omega
 . rw [rQ p i (by omega)];exact jQ _ _
def S8.ok (s:S8):Prop:=w32 s.a/\w32 s.b/\w32 s.c/\w32 s.d/\w32 s.e/\w32 s.f/\w32 s.g/\w32 s.h
theorem Zx {k x:Int} {s:S8} (h:s.ok):(rnd k x s).ok:=by obtain ⟨a,b,c,g,d,e,f,i⟩:=h;exact ⟨jQ _ _,a,b,c,jQ _ _,d,e,f⟩
theorem cg (p:Nat->Int) {s:S8} (h:s.ok):∀n,(kt p s n).ok
 | 0=>h
 | n+1=>Zx (cg p h n)
theorem Zj (s t:S8):(s.add t).ok:=⟨jQ _ _,jQ _ _,jQ _ _,jQ _ _,jQ _ _,jQ _ _,jQ _ _,jQ _ _⟩
theorem iZ:yf.ok:=by unfold S8.ok yf w32;simp
theorem iX (s:S8) (p:Nat->Int):(vv s p).ok:=Zj _ _
theorem Q0 (k x:Int) (s:S8):(s.h+bg1 s.e+chc s.e s.f s.g+k+x+bg0 s.a+maj s.a s.b s.c) % 4294967296=(rnd k x s).a:=by show _=xS (xS (first k x s) (bg0 s.a)) (maj s.a s.b s.c);unfold first xS;omega
theorem Q1 (k x:Int) (s:S8):(s.d+(s.h+bg1 s.e+chc s.e s.f s.g+k+x)) % 4294967296=(rnd k x s).e:=by show _=xS s.d (first k x s);unfold first xS;omega
theorem iJ (s t:S8) (j:Nat):(s.add t).at j=xS (s.at j) (t.at j):=by rcases j with _|_|_|_|_|_|_|j <;> rfl
def qV (l:List UInt8) (i:Nat):Int:=((l.getD i 0).toNat:Int)
def jx (l:List UInt8):Nat->S8
 | 0=>yf
 | n+1=>vv (jx l n) (fun j=>qV l (64 * n+j))
theorem y6 (l:List UInt8):∀n,(jx l n).ok
 | 0=>iZ
 | _+1=>iX _ _
theorem vg (l:List UInt8) (i:Nat):0<=qV l i/\qV l i<=255:=by unfold qV;have:=(l.getD i 0).toNat_lt;omega
theorem pS {p q:Nat->Int} (h:∀j,j<64->p j=q j):∀n,pN p n=pN q n
 | 0=>rfl
 | n+1=>by
  simp only [pN,pS h n];by_cases hn:n<16
  . simp only [J8 hn];unfold be4;rw [h _ (by omega),h _ (by omega),h _ (by omega),h _ (by omega)]
  . simp only [J3 hn]
theorem pA {p q:Nat->Int} (h:∀j,j<64->p j=q j) (s:S8):∀n,kt p s n=kt q s n
 | 0=>rfl
 | n+1=>by simp only [kt,pA h s n,wrd,pS h (n+1)]
theorem we {p q:Nat->Int} (h:∀j,j<64->p j=q j) (s:S8):vv s p=vv s q:=by unfold vv;rw [pA h]
theorem bD {l m:List UInt8}:∀n,(∀i,i<64 * n->qV l i=qV m i)->jx l n=jx m n
 | 0,_=>rfl
 | n+1,h=>by simp only [jx];rw [bD n fun i hi=>h i (by omega)];exact we (fun j hj=>h _ (by omega)) _
def be8 (n:Nat) (j:Nat):Int:=(n:Int) / 2 ^ (56 - 8 * j) % 256
def u8 (i:Int):UInt8:=UInt8.ofNat i.toNat
theorem vb {i:Int} (h:0<=i) (a:i<256):((u8 i).toNat:Int)=i:=by unfold u8;rw [UInt8.toNat_ofNat'];omega
def vY (n:Nat):List UInt8:=(List.range 8).map fun j=>u8 (be8 n j)
theorem dl (n:Nat):(vY n).length=8:=by simp [vY]
theorem iK (n j:Nat):0<=be8 n j/\be8 n j<256:=by unfold be8;omega
theorem iV (n j:Nat) (a:j<(vY n).length):((vY n)[j].toNat:Int)=be8 n j:=by simp only [vY,N2,List.getElem_range];exact vb (iK n j).1 (iK n j).2
def gO (x:Int):List UInt8:=[u8 (x / 16777216 % 256),u8 (x / 65536 % 256),u8 (x / 256 % 256),u8 (x % 256)]
def pt (s:S8):Nat->List UInt8
 | 0=>[]
 | k+1=>pt s k ++ gO (s.at k)
def wQ (l:List UInt8):List UInt8:=l ++ (128 :: List.replicate ((119 - l.length % 64) % 64) 0) ++ vY (l.length * 8)
def zk (l:List UInt8):List UInt8:=pt (jx (wQ l) ((wQ l).length / 64)) 8
theorem bR (s:S8):∀k,(pt s k).length=4 * k
 | 0=>rfl
 | k+1=>by simp [pt,bR s k,gO];omega
theorem xe (l:List UInt8):(zk l).length=32:=bR _ 8
theorem ue (l:List UInt8):(wQ l).length=l.length+9+(119 - l.length % 64) % 64:=by unfold wQ vY;simp;omega
theorem bN:∃j,Tryz.prog.info? 228=some j/\j.size=2:=by
 have h:(Tryz.prog.info? 228).map (·.size)=some 2:=by kernel_rfl
 obtain ⟨j,a,b⟩:=Option.map_eq_some_iff.1 h;exact ⟨j,a,b⟩
theorem liesBuilder:liesAt Tryz.prog Tryz.prog.depth 228 (2 / Tryz.prog.cellsOf 228) 0 228 1=true:=by kernel_rfl
theorem infoByte:(Tryz.prog.info? 5).map (fun i=>(i.zero,i.size,i.bytes))=some (some (.int .u8 0),1,1):=by kernel_rfl
theorem cellsByte:Tryz.prog.cellsOf 5=1:=by kernel_rfl
abbrev yK (B b:Nat) (bs:List Value) (w:World):Prop:=Lib.IsBuilderF 228 5 B b bs w
abbrev cf (B b:Nat) (bs:List Value) (w:World):Prop:=Lib.BuilderAtF 228 5 B b (.pointer (some ⟨b,0,none⟩)) bs w
abbrev Kept (b:Nat) (w w':World):Prop:=Lib.OthersKept 5 (some b) w w'
theorem pT (b:Nat) (w:World) (c:w.cell? ⟨b,0,none⟩=some (.pointer (some ⟨b,0,none⟩))) :
 Calls Tryz.prog 254 #[.pointer (some ⟨b,0,none⟩)] w fun e w'=>e=.returned (.tuple #[])/\w'=w:=by
 obtain ⟨j,a,_⟩:=bN;go_enter Tryz.func254,Tryz.ntmps254;go_wp2;rw [Lib.run_neq_ptr_same w _ Tryz.underlying226 a];go_wp2
 go_end0
 exact ⟨rfl,rfl⟩
theorem pi (b:Nat) (w:World) (g:w.cell? ⟨b,0,none⟩=some (.pointer none)) (d:w.shape? b=some (228,2)) (f:w.frozen? ⟨b,0,none⟩=false) :
 Calls Tryz.prog 254 #[.pointer (some ⟨b,0,none⟩)] w fun e w'=>e=.returned (.tuple #[])/\w'=w.setCell ⟨b,0,none⟩ (.pointer (some ⟨b,0,none⟩)):=by
 obtain ⟨j,c,a⟩:=bN;go_enter Tryz.func254,Tryz.ntmps254;go_wp2;rw [Lib.run_to_unsafe w ⟨b,0,none⟩ Tryz.underlying226 Tryz.underlying279 c (by rw [a];decide) d (Nat.zero_lt_succ 1)];simp only [Result.andThen];rw [Oper.upon_value];go_wp2;rw [run_callFunc_extern Tryz.func272 (by kernel_rfl) (by kernel_rfl) (by kernel_rfl) (e:=Extern.AbiNoEscape.same) (by kernel_rfl)];rw [Lib.run_noEscape];simp only [Result.andThen];rw [Oper.upon_value];go_wp2;rw [Lib.run_from_unsafe w ⟨b,0,none⟩ Tryz.underlying279 Tryz.underlying226 c d liesBuilder];simp only [Result.andThen];rw [Oper.upon_value];go_wp2
 go_end0
 exact ⟨rfl,rfl⟩
theorem uU (B b:Nat) (a:List Value) (w:World) (h:yK B b a w) :
 Calls Tryz.prog 254 #[.pointer (some ⟨b,0,none⟩)] w fun e w'=>e=.returned (.tuple #[])/\(cf B b a w'/\Below B w w'/\Kept b w w'):=by
 rcases h with h|h
 . refine (pi b w h.cell0 h.shape h.frozen0).mono ?_;rintro e w' ⟨rfl,rfl⟩;exact ⟨rfl,h.used _,(J0 B w).setCell (p:=⟨b,0,none⟩) h.1 _,(zc9 _ _ w).setCell ⟨b,0,none⟩ rfl _⟩
 . refine (pT b w h.cell0).mono ?_;rintro e w' ⟨rfl,rfl⟩;exact ⟨rfl,h,J0 B _,zc9 _ _ _⟩
theorem zS (B b:Nat) (H:List Value) (c:Int) (w:World) (h:yK B b H w) (I:H.length+1<=140737488355328) (J:B<=w.heap.size) :
 Calls Tryz.prog 233 #[.pointer (some ⟨b,0,none⟩),.int .u8 c] w fun e w'=>e=.returned .nilIface/\(cf B b (H ++ [.int .u8 c]) w'/\Below B w w'/\Kept b w w'):=by
 obtain ⟨C,hi,s,x,y⟩:=K9 infoByte;go_enter Tryz.func233,Tryz.ntmps233;go_wp2_with (go_at_call 254;refine (uU B b H _ h).mono ?_);rintro e m ⟨rfl,A,f,o⟩;obtain ⟨z,v,l,a,r⟩:=A;have D:m.cell? ⟨b,0,none⟩=some (.pointer (some ⟨b,0,none⟩)):=by rw [zc1 l];rfl
 have c1:m.cell? ⟨b,1,none⟩=some v:=by rw [zc1 l];rfl
 go_wp2_with (at_builtin;refine wpList_append_ownF _ rfl _ _ 114 rfl B 5 C (.int .u8 0) 1 1 G2 hi s x y rfl (by decide) _ _ _ rfl (a.alloc _) ⟨m.heap.size,0,none⟩ 1 1 [.int .u8 c] rfl rfl ?c1 ?c2 ?c3 ?c4 ?c5 ?_)
 case c1 =>
  intro j u hj
  match j,hj with
  | 0,hj=>simp at hj;subst hj;simp [Addr.add]
 case c2=>intro u hu;simp at hu;subst hu;rfl
 case c3=>unfold maxLen;omega
 case c4=>omega
 case c5=>have:=f.size;simp;omega
 intro v' w2 hown' hgrow _;have q:b<m.heap.size:=by
  rcases Nat.lt_or_ge b m.heap.size with h'|h'
  . exact h'
  . simp [Array.getElem?_eq_none h'] at l
 have i:w2.heap[b]?=some (.cells #[.pointer (some ⟨b,0,none⟩),v] 228 (0,0)):=(by rw [hgrow.block b (by simp;omega) (fun e=>r e.symm),Lib.alloc_old m _ b q];exact l);have E:w2.cell? ⟨b,0,none⟩=some (.pointer (some ⟨b,0,none⟩)):=by rw [zc1 i];rfl
 have F:w2.cell? ⟨b,1,none⟩=some v:=by rw [zc1 i];rfl
 have G:w2.frozen? ⟨b,1,none⟩=false:=Lib.frozen_of_heap i 1;obtain ⟨g,d,rfl⟩:∃g d,v'=.slice (some ⟨g,0,none⟩) (H.length+1) d:=by
  rcases hown'.2 with ⟨_,h0⟩|⟨g,d,cur,fz,hv,_⟩
  . omega
  . exact ⟨g,d,hv⟩
 go_wp2;go_ret;refine ⟨rfl,?_,?_,((o.alloc _).grown hgrow (Lib.ownsRowF_kind (a.alloc _))).setCell ⟨b,1,none⟩ rfl _⟩
 . exact Lib.BuilderAtF.put (T:=228) (e:=5) z i (bs':=H ++ [.int .u8 c]) (by simpa using hown') (by decide)
 . exact ((f.alloc (by have:=f.size;omega) _).grown hgrow (by have:=f.size;simp;omega) (fun k hk=>(a.lt k hk).1)).setCell (p:=⟨b,1,none⟩) z _
theorem kL (B b:Nat) (I:List Value) (s:ByteArray) (w:World) (h:yK B b I w) (J:I.length+s.size<=140737488355328) (K:B<=w.heap.size) :
 Calls Tryz.prog 230 #[.pointer (some ⟨b,0,none⟩),.string s] w fun e w'=>e=.returned (.tuple #[.int .i64 s.size,.nilIface])/\(cf B b (I ++ Lib.strCells s) w'/\Below B w w'/\Kept b w w'):=by
 obtain ⟨C,hi,q,r,u⟩:=K9 infoByte;go_enter Tryz.func230,Tryz.ntmps230;go_wp2_with (go_at_call 254;refine (uU B b I _ h).mono ?_);rintro e j ⟨rfl,A,i,l⟩;obtain ⟨y,v,d,a,o⟩:=A;have D:j.cell? ⟨b,0,none⟩=some (.pointer (some ⟨b,0,none⟩)):=by rw [zc1 d];rfl
 have E:j.cell? ⟨b,1,none⟩=some v:=by rw [zc1 d];rfl
 go_wp2_with (at_builtin;refine Lib.wpList_append_own_stringF _ rfl _ _ 114 9 rfl B 5 C G2 Y6 hi q r u _ _ _ rfl a s rfl ?c3 ?c4 ?c5 ?_)
 case c3=>unfold maxLen;omega
 case c4=>omega
 case c5=>have:=i.size;omega
 intro v' w2 hown' hgrow _;have m:b<j.heap.size:=by
  rcases Nat.lt_or_ge b j.heap.size with h'|h'
  . exact h'
  . simp [Array.getElem?_eq_none h'] at d
 have c:w2.heap[b]?=some (.cells #[.pointer (some ⟨b,0,none⟩),v] 228 (0,0)):=(by rw [hgrow.block b m (fun e=>o e.symm)];exact d);have F:w2.cell? ⟨b,0,none⟩=some (.pointer (some ⟨b,0,none⟩)):=by rw [zc1 c];rfl
 have G:w2.cell? ⟨b,1,none⟩=some v:=by rw [zc1 c];rfl
 have H:w2.frozen? ⟨b,1,none⟩=false:=Lib.frozen_of_heap c 1;obtain ⟨x,z,f,rfl⟩:∃x z f,v'=.slice x z f:=by
  rcases hown'.2 with ⟨hv,_⟩|⟨g,f,cur,fz,hv,_⟩
  . exact ⟨_,_,_,hv⟩
  . exact ⟨_,_,_,hv⟩
 go_wp2;go_ret2;refine ⟨rfl,?_,?_,(l.grown hgrow (Lib.ownsRowF_kind a)).setCell ⟨b,1,none⟩ rfl _⟩
 . exact Lib.BuilderAtF.put (T:=228) (e:=5) y c (bs':=I ++ Lib.strCells s) (by simpa [Lib.strCells_length] using hown') (by decide)
 . exact (i.grown hgrow (by have:=i.size;omega) (fun k hk=>(a.lt k hk).1)).setCell (p:=⟨b,1,none⟩) y _
theorem yh (B b:Nat) (l:List UInt8) (w:World) (h:yK B b (Lib.byteCells l) w) (h0:l≠[]) :
 Calls Tryz.prog 234 #[.pointer (some ⟨b,0,none⟩)] w fun e w'=>e=.returned (.string ⟨l.toArray⟩)/\Below B w w'/\Kept b w w':=by
 obtain ⟨p,m⟩:∃p,Lib.BuilderAtF 228 5 B b p (Lib.byteCells l) w:=by
  rcases h with h|h
  . exact ⟨_,h⟩
  . exact ⟨_,h⟩
 obtain ⟨I,v,k,d,C⟩:=m;have A:l.length≠0:=by simpa using h0
 rw [Lib.byteCells_length] at d;obtain ⟨g,a,c,f,rfl,o,y,u,G,q,s,i⟩:∃g a c f,v=.slice (some ⟨g,0,none⟩) l.length a/\B<=g/\w.heap[g]?=some (.cells c 5 f)/\f.2<=l.length * 1/\l.length<=a/\a<=maxLen/\c.size=a * 1/\c.toList.take (l.length * 1)=Lib.byteCells l:=by
  rcases d.2 with ⟨_,hz⟩|⟨g,a,c,f,hv,r⟩
  . exact absurd hz A
  . exact ⟨g,a,c,f,hv,r⟩
 have H:w.drew.cell? ⟨b,1,none⟩=some (.slice (some ⟨g,0,none⟩) l.length a):=(by have:w.drew.heap[b]?=some (.cells #[p,.slice (some ⟨g,0,none⟩) l.length a] 228 (0,0)):=k;rw [zc1 this];rfl);have E:(Builtin.unsafeSliceData_ #[114] 260 #[.slice (some ⟨g,0,none⟩) l.length a]).run Tryz.prog w.drew=.ok (.pointer (some ⟨g,0,none⟩)) w.drew :=
  Lib.run_unsafeSliceData_row _ _ _ _ _ _ (by omega)
 have F:(Builtin.unsafeString_ #[260,3] 9 #[.pointer (some ⟨g,0,none⟩),.int .i64 l.length]).run Tryz.prog w.drew=.ok (.string ⟨l.toArray⟩) (w.drew.freeze ⟨g,0,none⟩ l.length):=(by refine Lib.run_unsafeString_row w.drew 260 3 9 5 Tryz.underlying260 cellsByte g c.size (by have z:w.drew.heap[g]?=some (.cells c 5 f):=y;simp [World.shape?,z]) l h0 (by omega) (by unfold maxLen at q;omega) ?_;intro j x hx;have:=d.cells (g:=g) rfl j (.int .u8 x.toNat) (by simp [Lib.byteCells,hx]);exact this);have D:=O0 (Below B w (w.drew.freeze ⟨g,0,none⟩ l.length)/\Kept b w (w.drew.freeze ⟨g,0,none⟩ l.length)) (⟨Lib.below_freeze (Below.drew (J0 B w)) (p:=⟨g,0,none⟩) o _,((zc9 _ _ w).drew).freeze ⟨g,0,none⟩ _ ⟨c,f,y⟩⟩);clear d k C y i s u;go_enter Tryz.func234,Tryz.ntmps234;go_wp2
 go_region
 all_goals (go_wp2;go_ret;exact ⟨rfl,D.o⟩)
section
variable {P:Program}
theorem jZ {S:Nat->Prop} {b:Nat} {a:World} (hb:S b\/a.heap.size<=b):∀(vs:List Value) (o:Nat) (w:World),Touch S a w->Touch S a (w.setCells b o vs)
 | [],_,_,h=>h
 | v :: r,o,_,h=>jZ hb r (o+1) _ (h.setCell hb v)
theorem ch (w:World) (g k l e:TypeId) (b o d f:Nat) (s:ByteArray)
 (h:P.underlying g=some (.slice e)) (i:∀w,(Go.sizeOf e).run P w=.ok 1 w)
 (hc:∀j,j<Nat.min s.size d->(w.cell? ⟨b,o+j,none⟩).isSome=true) (hf:∀j,j<Nat.min s.size d->w.frozen? ⟨b,o+j,none⟩=false) :
 (Builtin.copy_ #[g,k] l #[.slice (some ⟨b,o,none⟩) d f,.string s]).run P w=.ok (goInt (Nat.min s.size d)) (w.setCells b o ((s.data.toList.map fun x=>Value.int .u8 (x.toNat:Int)).take (Nat.min s.size d))):=by
 have c:((s.data.toList.map fun x=>Value.int .u8 (x.toNat:Int)).take (Nat.min s.size d)).length=Nat.min s.size d:=(by rw [M7,X9,qp];exact Nat.min_eq_left (Nat.min_le_left _ _));have a:=run_storeCells_cells (P:=P) b o ((s.data.toList.map fun x=>Value.int .u8 (x.toNat:Int)).take (Nat.min s.size d)) 0 w (by rw [c];simpa using hc) (by rw [c];simpa using hf) (by
  intro v hv;obtain ⟨x,_,rfl⟩:=za8.1 (List.mem_of_mem_take hv);rfl)
 simp [Builtin.copy_,run_underlying h,Builtin.lenOf,Builtin.firstCells,i];rw [a];rfl
def sf (s:ByteArray) (i:Nat):Int:=((s.data.toList.getD i 0).toNat:Int)
theorem pe {w:World} {k:Array Oper} {i:List Oper} {o:Oper} {a:Act} {Q:Exit->Act->World->Prop} (m:o.guard=none) (d x:Operand) (l p:TypeId)
 (q:o.op=.call { callee:=.builtin .copy,args:=#[d,x],argTypes:=#[l,p] }) (elem:TypeId) (hu:P.underlying l=some (.slice elem)) (hz:∀w,(Go.sizeOf elem).run P w=.ok 1 w)
 (b off dLen dCap:Nat) (s:ByteArray) (hd:a.eval d=.slice (some ⟨b,off,none⟩) dLen dCap) (hs:a.eval x=.string s)
 (t N:Nat) (f:Nat->Value) (hr:w.rowIs b t N f) (n:Nat) (hn:n=Nat.min s.size dLen) (hfit:off+n<=N)
 (h:∀w',Hid (w'.rowIs b t N (fun j=>if off<=j/\j<off+n then .int .u8 (sf s (j - off)) else f j))->Hid (Touch (· = b) w w')->wpList P k Q i (a.put o.dst (goInt n)) w') :
 wpList P k Q (o :: i) a w:=by
 refine wpList_plain m fun K hK=>?_;have c:=ch (P:=P) w l p o.type elem b off dLen dCap s hu hz (fun j hj=>by rw [hr.cell (by omega)];rfl) (fun j hj=>hr.frozen _);rw [<- hn] at c;unfold Oper.wp;simp [execOp,q,resolve,invoke,builtin,hd,hs,c,Result.andThen];refine hK _ _ (h _ ?_ (jZ (S:=(· = b)) (b:=b) (a:=w) (.inl rfl) _ _ _ (Touch.refl _ _)));have g:((s.data.toList.map fun x=>Value.int .u8 (x.toNat:Int)).take n).length=n:=(by rw [M7,X9,qp,hn];exact Nat.min_eq_left (Nat.min_le_left _ _));refine (rowIs_setCells _ off w f hr).congr fun j hj=>?_;rw [g];by_cases e:off<=j/\j<off+n
 . rw [J8 e,J8 e,List.getElem?_take_of_lt (by omega),List.getElem?_map];unfold sf;rw [V2];have:j - off<s.data.toList.length:=by rw [qp];have:n<=s.size:=hn ▸ Nat.min_le_left _ _;omega
   rw [V3 this];rfl
 . rw [J3 e,J3 e]
theorem dr {n:Nat} {f:Nat->Value} (h:∀i,i<n->(f i).oneCell'=true) (c:Array Value) (b:c.size=n) (d:∀i,i<n->c[i]?=some (f i)):∀v ∈ c.toList,v.oneCell'=true:=by
 intro v hv;obtain ⟨i,hi,rfl⟩:=V4 hv;have a:i<n:=by simpa [b] using hi
 have:=d i a;rw [K0 (by omega)] at this;have e:c.toList[i]=f i:=by simpa using Y9 this
 rw [e];exact h i a
theorem wpList_store_row {w:World} {l:Array Oper} {d:List Oper} {o:Oper} {a:Act} {Q:Exit->Act->World->Prop} (p:o.guard=none) (r:TypeId) (x y:Operand)
 (u:o.op=.store r x y) (g t n:Nat) (f m:Nat->Value) (v:a.eval x=.pointer (some ⟨g,0,none⟩)) (q:w.rowIs g t n f) (cs:Array Value) (z:a.eval y=.agg cs) (k:cs.size=n) (e:∀i,i<n->cs[i]?=some (m i))
 (s:∀i,i<n->(m i).oneCell'=true) (hi:∀w,(Go.sizeOf r).run P w=.ok n w)
 (h:∀w',Hid (w'.rowIs g t n m)->Hid (Touch (· = g) w w')->wpList P l Q d (a.put o.dst undef) w'):wpList P l Q (o :: d) a w:=by
 refine wpList_plain p fun K hK=>?_;have c:=run_storeCells_cells (P:=P) g 0 cs.toList 0 w (fun j hj=>by simp at hj;rw [q.cell (i:=0+0+j) (by omega)];rfl) (fun j _=>q.frozen _) (dr s cs k e);unfold Oper.wp execOp;simp only [u,v,z,Instr.storeAt,Instr.sureAddr,Sem.run_bind,Sem.run_pure,Result.andThen_ok,storeVar,Value.cells,hi];simp [k,c,Oper.upon];refine hK _ _ (h _ ?_ (jZ (S:=(· = g)) (b:=g) (a:=w) (.inl rfl) _ _ _ (Touch.refl _ _)));refine (rowIs_setCells _ 0 w f q).congr fun j hj=>?_;rw [J8 (by simp;omega)];have:=e j hj;simp at this ⊢;rw [this];rfl
theorem jX {w:World} {l:Array Oper} {k:List Oper} {o:Oper} {a:Act} {Q:Exit->Act->World->Prop} (p:o.guard=none) (m:TypeId) (x:Operand) (r:o.op=.load m x)
 (g t n:Nat) (f:Nat->Value) (v:a.eval x=.pointer (some ⟨g,0,none⟩)) (s:w.rowIs g t n f) (d:TypeDesc)
 (u:P.underlying m=some d) (q:(match d with | .struct _ | .array _ _=>true|_=>false)=true) (hi:(P.info? m).map (·.size)=some n)
 (h:∀cs:Array Value,Hid (cs.size=n)->Hid (∀i,i<n->cs[i]?=some (f i))->wpList P l Q k (a.put o.dst (.agg cs)) w):wpList P l Q (o :: k) a w:=by
 obtain ⟨c,e,b,j⟩:=s;exact wpList_load_row p m x r g v t c (0,0) d e u q (by rw [b];exact hi) (h c b j)
theorem pI {T N E:Nat} (d:P.underlying T=some (.array N E)) (e:∀w,(Go.sizeOf E).run P w=.ok 1 w) (b o u:Nat) (f:u<N) (w:World) :
 (Instr.sliceAt T (.pointer (some ⟨b,o,none⟩)) (some (.int .i64 (u:Int))) none none).run P w=.ok (.slice (some ⟨b,o+u,none⟩) (N - u) (N - u)) w:=by
 have c:(0:Int)<=u/\(u:Int)<=N:=by omega
 have a:(⟨b,o,none⟩:Addr).add u=⟨b,o+u,none⟩:=by unfold Addr.add;split <;> simp_all
 simp [Instr.sliceAt,run_underlying d,Instr.sureAddr,Instr.sliceBounds,Instr.sliceBound,asIntOf,e,show u<=N by omega];rw [J3 (by omega),a]
theorem zA {w:World} {d:Nat} {v:Value} {n:Nat} {l:List UInt8} (c b e:TypeId) (k:P.underlying c=some (.slice e)) (i:P.underlying e=some (.int .u8)) (f:P.underlying b=some .string)
 (h:w.ownsRow d e 1 v n (Lib.byteCells l)):(convert c b v).run P w=.ok (.string ⟨l.toArray⟩) w:=by
 have a:l.length=n:=by have:=h.1;simpa [Lib.byteCells] using this
 rcases h.2 with ⟨rfl,h0⟩|⟨g,cap,cur,rfl,hg⟩
 . have:l=[]:=Y8 (by omega);subst this;exact Lib.run_convert_nil_bytes w c b e 0 k i f
 . subst a;refine run_convert_bytes_back w c b e ⟨g,0,none⟩ cap l k i f fun j hj=>?_;refine h.cells rfl j _ ?_;simp [Lib.byteCells,List.getElem?_eq_getElem hj]
end
