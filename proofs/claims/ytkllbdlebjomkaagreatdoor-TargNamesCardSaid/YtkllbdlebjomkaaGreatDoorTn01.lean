import Derived.Test.YtkllbdlebjomkaaGreatDoorTn00
import Derived.Lib.ItoaNum
import Derived.ProofKit
import Derived.OpenShut
import Derived.ChangeSame
import Derived.SliceStrings
import Derived.Deep.Slices
import Derived.Lib.SmallJoins
import Derived.Carry
import Derived.BigQuiet
import Derived.Deep.RegionHeld3
import Derived.Deep.QuietTactic
import Derived.Outline

namespace Go.Proofs.YtkllbdlebjomkaaGreatDoor
open Go.RowKit
mutual
def JV.count:JV->Nat
 | .mk _ _ _ _ xs=>1+JV.counts xs
def JV.counts:List JV->Nat
 | []=>0
 | x :: r=>JV.count x+JV.counts r
end
mutual
theorem JV.count_le:∀v:JV,v.count<=v.wt
 | .mk _ _ _ _ xs=>by have:=JV.counts_le xs;simp [JV.count,JV.wt];omega
theorem JV.counts_le:∀l:List JV,JV.counts l<=JV.wts l
 | []=>by simp [JV.counts]
 | x :: r=>by have:=JV.count_le x;have:=JV.counts_le r;simp [JV.counts,JV.wts];omega
end
theorem JV.wts_take (l:List JV) (k:Nat):JV.wts (l.take k)<=JV.wts l:=by
 induction l generalizing k with
 | nil=>simp
 | cons x r ih=>cases k with
  | zero=>simp [JV.wts]
  | succ k=>have:=ih k;simp [JV.wts];omega
def yl (y:Nat):Bool:=y % 4 == 0 && y % 100 != 0 || y % 400 == 0
def xQ (y:Nat):Nat:=y / 4 - y / 100+y / 400
def zj (y:Nat):Nat:=365 * (y - 1970)+xQ (y - 1) - xQ 1969
def beforeN:Nat->Nat
 | 0=>0|1=>31|2=>59|3=>90|4=>120|5=>151|6=>181|7=>212|8=>243|9=>273|10=>304|11=>334|_=>365
def xT (y m:Nat):Nat:=if 1970<=y/\y<=9999/\1<=m/\m<=12 then beforeN m - beforeN (m - 1)+(if m=2/\yl y=true then 1 else 0) else 0
def vm:Nat->Nat->Nat->Nat
 | 0,y,_=>y
 | f+1,y,d=>if y<9999/\zj (y+1)<=d then vm f (y+1) d else y
def jM (y:Nat):Nat->Nat->Nat->Nat × Nat
 | 0,m,d=>(m,d)
 | f+1,m,d=>if m<12/\xT y m<=d then jM y f (m+1) (d - xT y m) else (m,d)
def kN (n w:Nat):List UInt8:=List.replicate (w - (Lib.itoa n).length) 48 ++ Lib.itoa n
def nu (n:Nat):List UInt8 :=
 let y:=vm 8030 1970 (n / 86400)
 let md:=jM y 12 1 (n / 86400 - zj y)
 let t:=n % 86400
 kN y 4 ++ [45] ++ kN md.1 2 ++ [45] ++ kN (md.2+1) 2 ++ [84] ++ kN (t / 3600) 2 ++ [58] ++ kN (t / 60 % 60) 2 ++ [58] ++ kN (t % 60) 2 ++ [90]
def zk:List UInt8->Int->Int
 | [],n=>n
 | c :: r,n=>if 48<=c.toNat/\c.toNat<=57 then zk r (10 * n+((c.toNat:Int) - 48)) else -1
def ww (s:List UInt8):Int × Int :=
 if s.length≠20 then (0,3) else
 if s[4]?≠some 45\/s[7]?≠some 45\/s[10]?≠some 84\/s[13]?≠some 58\/s[16]?≠some 58\/s[19]?≠some 90 then (0,3) else
 let y:=zk (s.take 4) 0
 let m:=zk ((s.drop 5).take 2) 0
 let d:=zk ((s.drop 8).take 2) 0
 let days:Int:=if y<0\/m<0 then 0 else xT y.toNat m.toNat
 if d<1\/days<d then (0,3) else
 let hh:=zk ((s.drop 11).take 2) 0
 let mm:=zk ((s.drop 14).take 2) 0
 let ss:=zk ((s.drop 17).take 2) 0
 if hh<0\/23<hh\/mm<0\/59<mm\/ss<0\/59<ss then (0,3) else
 let n:Int:=zj y.toNat+beforeN (m.toNat - 1)+d - 1+(if 2<m/\yl y.toNat=true then 1 else 0)
 (n * 86400+(hh * 3600+mm * 60+ss),0)
def zeroJ:JV:=.mk 0 0 ⟨#[]⟩ [] []
def zeroAggW:Value:=.agg #[.int .u8 0,.int .i64 0,.string ⟨#[]⟩,.slice none 0 0,.slice none 0 0]
theorem yP (w:World) (lo hi:Nat):Rep w lo hi zeroJ zeroAggW:=by unfold zeroJ Rep;exact ⟨none,0,none,0,rfl,J2 _,J2 _,.inl rfl,.inl rfl⟩
open Go.ChangeShapes Go.WideShapes Go.ChangeAt Go.Joins Go.Deep
mutual
def JV.fits:JV->Prop
 | .mk _ _ t ns xs=>t.size<=maxLen/\ns.length<=maxLen/\xs.length<=maxLen/\(∀s ∈ ns,s.size<=maxLen)/\JV.fitsL xs
def JV.fitsL:List JV->Prop
 | []=>True
 | x :: r=>JV.fits x/\JV.fitsL r
end
section
variable {H:Type} {enc:TypeId × Value->H} {P:Program} {w:World} {base:Nat} {spare:Nat->Bool} {held:Bool}
end
abbrev Key2:=ByteArray × ByteArray
def qJ (w:World) (lo hi:Nat) (a:Option Addr) (l:List Key2):Prop :=
 l=[]\/∃b off,a=some ⟨b,off,none⟩/\lo<=b/\b<hi/\∀i (h:i<l.length),w.cell? ⟨b,off+i * 2,none⟩=some (.string l[i].1)/\w.cell? ⟨b,off+i * 2+1,none⟩=some (.string l[i].2)
theorem qJ.at {w:World} {lo hi:Nat} {a:Option Addr} {l:List Key2} (h:qJ w lo hi a l) (i:Nat) (hi':i<l.length) :
 ∃b off,a=some ⟨b,off,none⟩/\lo<=b/\b<hi/\w.cell? ⟨b,off+i * 2,none⟩=some (.string l[i].1)/\w.cell? ⟨b,off+i * 2+1,none⟩=some (.string l[i].2):=by
 rcases h with h|⟨b,off,ha,hb,hb',hr⟩
 . rw [h] at hi';simp at hi'
 . exact ⟨b,off,ha,hb,hb',hr i hi'⟩
theorem qJ.carry {w w':World} {lo hi lo' hi':Nat} {a:Option Addr} {l:List Key2} (h:qJ w lo hi a l) (d:lo'<=lo) (f:hi<=hi') (c:∀b,lo<=b->b<hi->w'.heap[b]?=w.heap[b]?):qJ w' lo' hi' a l:=by
 rcases h with h|⟨b,off,ha,hb,hb',hr⟩
 . exact .inl h
 . refine .inr ⟨b,off,ha,by omega,by omega,fun i hi=>?_⟩;have e:∀o,w'.cell? ⟨b,o,none⟩=w.cell? ⟨b,o,none⟩:=fun o=>G5 (w:=w) (w':=w') (c b hb hb');rw [e,e];exact hr i hi
theorem qJ.below {w w':World} {lo hi lo' hi' B:Nat} {a:Option Addr} {l:List Key2} (h:qJ w lo hi a l) (e:Below B w w') (f:hi<=B) (c:lo'<=lo) (d:hi<=hi'):qJ w' lo' hi' a l :=
 h.carry c d fun b _ hlt=>e.block b (by omega)
theorem qq {w:World} {p T j:Nat} {cs:Array Value} {u:Value} (b:w.heap[p]?=some (.cells cs T (0,0))) (a:cs[j]?=some u):w.cell? ⟨p,j,none⟩=some u:=by simp [World.cell?,b,a]
theorem qz {w:World} {p:Nat} {o:Obj} (h:w.heap[p]?=some o):p<w.heap.size:=(M6.1 h).1
