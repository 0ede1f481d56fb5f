/- Rows of nine cells that are stored to cell by cell. Printed by genbox9.py. No program in sight. -/
import Derived.Test.YtnlgmcapbbgelaaGreatDoorRx01
import Derived.Deep.Cut
import Derived.Laws.AppendOwnNone

namespace Go.Proofs.YtnlgmcapbbgelaaGreatDoor
open Go.RowKit
structure TabW (w:World):Prop where
 months:∀i,i<13→w.cell? ⟨1,i,none⟩=some (.int .i64 (beforeN i))
 lt:1<w.heap.size
theorem TabW.below {w w':World} (h:TabW w) (hb:Below w.heap.size w w'):TabW w' where
 months i hi:=by rw [hb.cell h.lt];exact h.months i hi
 lt:=Nat.lt_of_lt_of_le h.lt hb.size
theorem fT (y:Nat) (w:World) (hy:y≤100000):Calls Tryz.prog 105 #[.int .i64 y] w fun e w'=>e=.returned (.bool (zD y))∧w'=w:=by
 have e4:((y:Int).tmod 4)=((y % 4:Nat):Int):=by rw [Int.tmod_eq_emod_of_nonneg (by omega)];omega
 have e1:((y:Int).tmod 100)=((y % 100:Nat):Int):=by rw [Int.tmod_eq_emod_of_nonneg (by omega)];omega
 have e0:((y:Int).tmod 400)=((y % 400:Nat):Int):=by rw [Int.tmod_eq_emod_of_nonneg (by omega)];omega
 have HL:=Lh (show zD y=(y % 4 == 0 && y % 100 != 0 || y % 400 == 0) from rfl)
 generalize y % 4=a at *
 generalize y % 100=b at *
 generalize y % 400=c at *
 by_cases ha:a=0
 · subst ha
   have e4':((y:Int).tmod 4)=0:=e4
   by_cases hb:b=0
   · subst hb
     have e1':((y:Int).tmod 100)=0:=e1
     by_cases hc:c=0
     · subst hc
       have e0':((y:Int).tmod 400)=0:=e0
       clear e4 e1 e0
       go_enter Tryz.func105,Tryz.ntmps105
       go_wp2
       go_ret
       exact ⟨qw (by rw [HL.out];rfl),rfl⟩
     · have hc':((c:Int) == 0)=false:=by simp;omega
       clear e4 e1
       go_enter Tryz.func105,Tryz.ntmps105
       go_wp2
       go_ret
       exact ⟨qw (by rw [HL.out];simp [hc]),rfl⟩
   · have hb':((b:Int) == 0)=false:=by simp;omega
     have hb2:((b:Int) != 0)=true:=by simp;omega
     clear e4 e0
     go_enter Tryz.func105,Tryz.ntmps105
     go_wp2
     go_ret
     exact ⟨qw (by rw [HL.out];simp [hb]),rfl⟩
 · have ha':((a:Int) == 0)=false:=by simp;omega
   by_cases hc:c=0
   · subst hc
     have e0':((y:Int).tmod 400)=0:=e0
     clear e1 e0
     go_enter Tryz.func105,Tryz.ntmps105
     go_wp2
     go_ret
     exact ⟨qw (by rw [HL.out];simp),rfl⟩
   · have hc':((c:Int) == 0)=false:=by simp;omega
     clear e1
     go_enter Tryz.func105,Tryz.ntmps105
     go_wp2
     go_ret
     exact ⟨qw (by rw [HL.out];simp [ha,hc]),rfl⟩
theorem pm (y:Nat) (w:World) (hy:y≤100000):Calls Tryz.prog 149 #[.int .i64 y] w fun e w'=>e=.returned (.int .i64 (zg y))∧w'=w:=by
 have e4:((y:Int).tdiv 4)=((y / 4:Nat):Int):=by rw [Int.tdiv_eq_ediv_of_nonneg (by omega)];omega
 have e1:((y:Int).tdiv 100)=((y / 100:Nat):Int):=by rw [Int.tdiv_eq_ediv_of_nonneg (by omega)];omega
 have e0:((y:Int).tdiv 400)=((y / 400:Nat):Int):=by rw [Int.tdiv_eq_ediv_of_nonneg (by omega)];omega
 have HL:=Lh (show (zg y:Int)=((y / 4:Nat):Int) - ((y / 100:Nat):Int)+((y / 400:Nat):Int) by unfold zg;omega)
 go_enter Tryz.func149,Tryz.ntmps149
 go_wp2
 go_ret
 exact ⟨zu (by rw [HL.out];omega),rfl⟩
theorem gx (n h:Int) (w:World):Calls Tryz.prog 103 #[.int .i64 n,.int .i64 h] w fun e w'=>e=.returned (.bool (decide (0≤n) && decide (n≤h)))∧w'=w:=by
 by_cases h0:0≤n
 · have h0':decide (0≤n)=true:=by simpa using h0
   go_enter Tryz.func103,Tryz.ntmps103
   go_wp2
   go_ret
   exact ⟨qw (by simp [h0]),rfl⟩
 · have h0':decide (0≤n)=false:=by simpa using h0
   go_enter Tryz.func103,Tryz.ntmps103
   go_wp2
   go_ret
   exact ⟨qw (by simp),rfl⟩
theorem cT (y:Nat):zg y≤y:=by unfold zg;omega
theorem kT (y:Nat) (w:World) (h1:1970≤y) (hy:y≤10000):Calls Tryz.prog 104 #[.int .i64 y] w fun e w'=>e=.returned (.int .i64 (qt y))∧w'=w:=by
 have HA:=Lh (pm (y - 1) w (by omega))
 have HB:=Lh (pm 1969 w (by omega))
 have hl:=cT (y - 1)
 have e1:((y - 1:Nat):Int)=(y:Int) - 1:=by omega
 rw [e1] at HA
 have HL:=Lh (show (qt y:Int)=365 * ((y:Int) - 1970)+(zg (y - 1):Int) - 477 by
  have h2:zg 1969=477:=by decide
  have h3:zg 1969≤zg (y - 1):=by unfold zg;omega
  unfold qt;rw [h2] at h3 ⊢;omega)
 rw [show (zg 1969:Int)=477 by decide] at HB
 generalize zg (y - 1)=q at *
 go_enter Tryz.func104,Tryz.ntmps104
 go_wp2_with fail
 refine HA.out.mono ?_
 rintro e w' ⟨rfl,rfl⟩
 go_wp2_with fail
 refine HB.out.mono ?_
 rintro e w' ⟨rfl,rfl⟩
 go_wp2
 go_ret
 exact ⟨zu (by rw [HL.out]),rfl⟩
def jy (y m:Int):Int:=if y<0∨m<0 then 0 else zj y.toNat m.toNat
theorem kJ {y m:Int} (h:y<1970∨9999<y∨m<1∨12<m):jy y m=0:=by
 unfold jy zj;split
 · rfl
 · rw [if_neg (by omega)];rfl
theorem pc:∀m:Fin 13,1≤m.val→beforeN (m.val - 1)≤beforeN m.val∧beforeN m.val≤365:=by decide
theorem gj (y m:Int) (w:World) (hT:TabW w):Calls Tryz.prog 102 #[.int .i64 y,.int .i64 m] w fun e w'=>e=.returned (.int .i64 (jy y m))∧Below w.heap.size w w':=by
 by_cases h1:1970≤y
 · by_cases h2:y≤9999
   · by_cases h3:1≤m
     · by_cases h4:m≤12
       · obtain ⟨a,rfl⟩:∃a:Nat,y=a:=⟨y.toNat,by omega⟩
         obtain ⟨b,rfl⟩:∃b:Nat,m=b:=⟨m.toNat,by omega⟩
         have hu:=pc ⟨b,by omega⟩ (by show 1≤b;omega)
         have hd:jy a b=(beforeN b:Int) - (beforeN (b - 1):Int)+(if b=2∧zD a=true then 1 else 0):=by
          unfold jy zj
          rw [if_neg (by omega),if_pos (by simp;omega)]
          simp only [Int.toNat_natCast]
          have:=hu.1
          simp only at this
          split <;> omega
         have HD:=Lh hd
         have HU:=Lh hu
         have HL:=Lh (fun w':World=>fT a w' (by omega))
         have q1:w.cell? ⟨1,b,none⟩=some (.int .i64 (beforeN b)):=hT.months b (by omega)
         have q2:w.cell? ⟨1,b - 1,none⟩=some (.int .i64 (beforeN (b - 1))):=hT.months (b - 1) (by omega)
         have hu1:(beforeN (b - 1):Int)≤beforeN b:=by have:=hu.1;simp only at this;omega
         have hu2:(beforeN b:Int)≤365:=by have:=hu.2;simp only at this;omega
         clear hd hu hT
         generalize beforeN b=p at *
         generalize beforeN (b - 1)=q at *
         by_cases hb2:b=2
         · have hb3:((b:Int) == 2)=true:=by simp;omega
           have HB:=Lh hb2
           clear hb2
           cases hl:zD a
           · rw [hl] at HL HD
             clear hl
             go_enter Tryz.func102,Tryz.ntmps102
             go_upto_region 3 with fail
             go_quiet (fail)
             go_wp2_with fail
             refine (HL.out _).mono ?_
             rintro e w' ⟨rfl,h'⟩
             subst h'
             go_wp2
             go_ret
             exact ⟨zu (by rw [HD.out];simp),Below.drewN (Below.refl _ _) _⟩
           · rw [hl] at HL HD
             clear hl
             go_enter Tryz.func102,Tryz.ntmps102
             go_upto_region 3 with fail
             go_quiet (fail)
             go_wp2_with fail
             refine (HL.out _).mono ?_
             rintro e w' ⟨rfl,h'⟩
             subst h'
             go_wp2
             go_ret
             exact ⟨zu (by rw [HD.out,if_pos ⟨HB.out,by simp⟩]),Below.drewN (Below.refl _ _) _⟩
         · have hb3:((b:Int) == 2)=false:=by simp;omega
           have HD:=Lh (show jy a b=p - q by rw [HD.out,if_neg (by omega)];omega)
           clear hb2
           go_enter Tryz.func102,Tryz.ntmps102
           go_upto_region 3 with fail
           go_quiet (fail)
           go_wp2
           go_ret
           exact ⟨zu (by rw [HD.out]),Below.drewN (Below.refl _ _) _⟩
       · have HD:=Lh (kJ (y:=y) (m:=m) (by omega))
         go_enter Tryz.func102,Tryz.ntmps102
         go_wp2
         go_ret
         exact ⟨zu (by rw [HD.out]),Below.refl _ _⟩
     · have HD:=Lh (kJ (y:=y) (m:=m) (by omega))
       go_enter Tryz.func102,Tryz.ntmps102
       go_wp2
       go_ret
       exact ⟨zu (by rw [HD.out]),Below.refl _ _⟩
   · have HD:=Lh (kJ (y:=y) (m:=m) (by omega))
     go_enter Tryz.func102,Tryz.ntmps102
     go_wp2
     go_ret
     exact ⟨zu (by rw [HD.out]),Below.refl _ _⟩
 · have HD:=Lh (kJ (y:=y) (m:=m) (by omega))
   go_enter Tryz.func102,Tryz.ntmps102
   go_wp2
   go_ret
   exact ⟨zu (by rw [HD.out]),Below.refl _ _⟩
def wM (k:Key2):List Value:=[.string k.1,.string k.2]
theorem pd {M:List Key2} (i:Nat) (hi:i<M.length):(M.flatMap wM)[i * 2]?=some (.string M[i].1)∧(M.flatMap wM)[i * 2+1]?=some (.string M[i].2):=by
 induction M generalizing i with
 | nil=>simp at hi
 | cons k r ih =>
  rw [List.flatMap_cons]
  rcases i with _|i
  · exact ⟨rfl,rfl⟩
  · have:=ih i (by simpa using hi)
    rw [List.getElem?_append_right (by simp [wM];omega),List.getElem?_append_right (by simp [wM];omega)]
    have e1:(i+1) * 2 - (wM k).length=i * 2:=by simp [wM];omega
    have e2:(i+1) * 2+1 - (wM k).length=i * 2+1:=by simp [wM];omega
    rw [e1,e2]
    exact this
theorem wC {w:World} {base e:Nat} {v:Value} {n:Nat} {M:List Key2} (h:w.ownsRow base e 2 v n (M.flatMap wM)) (hn:n=M.length) :
 ∃a c,v=.slice a M.length c∧zY w base w.heap.size a M:=by
 subst hn
 rcases h.2 with ⟨rfl,h0⟩|⟨g,cap,cur,rfl,hg,hh,hc,hm,hs,ht⟩
 · exact ⟨none,0,by rw [h0],.inl (List.eq_nil_of_length_eq_zero h0)⟩
 · refine ⟨_,_,rfl,.inr ⟨g,0,rfl,hg,qz hh,fun i hi=>?_⟩⟩
   have ea:∀j,(⟨g,0,none⟩:Addr).add j=⟨g,0+j,none⟩:=fun j=>by unfold Addr.add;split <;> simp_all
   have h1:=h.cells (g:=g) rfl _ _ (pd i hi).1
   have h2:=h.cells (g:=g) rfl _ _ (pd i hi).2
   rw [ea] at h1 h2
   exact ⟨h1,by rw [Nat.add_assoc];exact h2⟩
theorem below_grown {B:Nat} {W w w':World} {v:Value} (hb:Below B W w) (hBw:B≤w.heap.size) (hg:w.grownBy w' v.ownBlock) (hown:∀b,v.ownBlock=some b→B≤b):Below B W w':=by
 refine ⟨by rw [hg.os,hb.os],by rw [hg.tape,hb.tape],by rw [hg.output,hb.output],Nat.le_trans hb.size hg.size,fun b hlt=>?_⟩
 rw [hg.block b (by omega) (fun e=>by have:=hown b e.symm;omega)]
 exact hb.block b hlt
end Go.Proofs.YtnlgmcapbbgelaaGreatDoor

namespace Go.Proofs.YtnlgmcapbbgelaaGreatDoor
open Go.ChangeShapes Go.WideShapes Go.ChangeAt Go.RowKit Go.Joins Go.Deep
end Go.Proofs.YtnlgmcapbbgelaaGreatDoor

namespace Go.Proofs.YtnlgmcapbbgelaaGreatDoor
open Go.RowKit
def gv (v:JV) (r:Nat) (f:Bool) (y:ByteArray):List ByteArray:=v.names.take r ++ [y] ++ v.names.drop (r+f.toNat)
def gw (v:JV) (r:Nat) (f:Bool) (x:JV):List JV:=v.items.take r ++ [x] ++ v.items.drop (r+f.toNat)
def fI (v:JV) (r:Nat) (f:Bool) (y:ByteArray) (x:JV):JV:=.mk 5 0 ⟨#[]⟩ (gv v r f y) (gw v r f x)
theorem lG {w w':World} {p:Nat} {o:Obj} (hb:Below w.heap.size w w') (h:w.heap[p]?=some o):w'.heap[p]?=some o:=by rw [hb.block _ (qz h)];exact h
theorem cy {w:World} {p:Nat} {o x:Obj} (h:w.heap[p]?=some o):(w.alloc x).heap[p]?=some o:=by rw [Below.heap_alloc _ _ _ (qz h)];exact h
theorem jo {W X:World} {b T:Nat} {c0 c1 c2 c3 c4:Value} (h:W.heap[b]?=some (.cells #[c0,c1,c2,c3,c4] T (0,0))) (hb:Below W.heap.size W X) :
 X.cell? ⟨b,0,none⟩=some c0∧X.cell? ⟨b,1,none⟩=some c1∧X.cell? ⟨b,2,none⟩=some c2∧X.cell? ⟨b,3,none⟩=some c3∧X.cell? ⟨b,4,none⟩=some c4:=by
 have:=lG hb h
 exact ⟨qq this rfl,qq this rfl,qq this rfl,qq this rfl,qq this rfl⟩
theorem cI {W X:World} {o:Obj} (hb:Below W.heap.size W X):Below W.heap.size W (X.alloc o):=hb.alloc hb.size _
def lB (r:JV × Int) (w:World) (e:Ending) (w':World):Prop :=
 ∃an cn ai ci,e=.returned (.tuple #[.agg #[.int .u8 r.1.kind,.int .i64 r.1.n,.string r.1.t,.slice an r.1.names.length cn,.slice ai r.1.items.length ci],.int .i64 r.2]) ∧
  Rep w' w.heap.size w'.heap.size r.1 (.agg #[.int .u8 r.1.kind,.int .i64 r.1.n,.string r.1.t,.slice an r.1.names.length cn,.slice ai r.1.items.length ci])∧Below w.heap.size w w'
theorem gy {er:Int} {w:World} {e:Ending} {w':World} (hp:e=.returned (.tuple #[.agg #[.int .u8 0,.int .i64 0,.string ⟨#[]⟩,.slice none 0 0,.slice none 0 0],.int .i64 er])∧Below w.heap.size w w'):lB (qL,er) w e w' :=
 ⟨none,0,none,0,hp.1,vW _ _ _,hp.2⟩
mutual
def JV.sameB:JV→JV→Bool
 | .mk k n t ns xs,.mk k' n' t' ns' xs'=>decide (k=k') && (decide (n=n') && (decide (t=t') && (decide (ns=ns') && (decide (xs.length=xs'.length) && JV.sameL xs xs'))))
def JV.sameL:List JV→List JV→Bool
 | [],_=>true
 | _ :: _,[]=>true
 | x :: xs,y :: ys=>JV.sameB x y && JV.sameL xs ys
end
mutual
theorem JV.sameB_iff:∀(v u:JV),v.sameB u=true↔v=u
 | .mk k n t ns xs,.mk k' n' t' ns' xs'=>by
  rw [JV.sameB]
  simp only [Bool.and_eq_true,decide_eq_true_eq]
  constructor
  · rintro ⟨rfl,rfl,rfl,rfl,hl,hs⟩
    rw [(JV.sameL_iff xs xs' hl).1 hs]
  · intro h
    injection h with h1 h2 h3 h4 h5
    subst h1 h2 h3 h4 h5
    exact ⟨rfl,rfl,rfl,rfl,rfl,(JV.sameL_iff xs xs rfl).2 rfl⟩
theorem JV.sameL_iff:∀(xs ys:List JV),xs.length=ys.length→(JV.sameL xs ys=true↔xs=ys)
 | [],[],_=>by simp [JV.sameL]
 | [],_ :: _,h=>by simp at h
 | _ :: _,[],h=>by simp at h
 | x :: xs,y :: ys,h=>by
  rw [JV.sameL,Bool.and_eq_true,JV.sameB_iff x y,JV.sameL_iff xs ys (by simpa using h)]
  simp
end
def qR (v0 v1 v2 v3 v4 v5 v6 v7 v8:Value):Nat→Value
 | 0=>v0|1=>v1|2=>v2|3=>v3|4=>v4|5=>v5|6=>v6|7=>v7|_=>v8
theorem vP (w:World) (v0 v1 v2 v3 v4 v5 v6 v7 v8:Value) (t:Nat):(w.alloc (.cells #[v0,v1,v2,v3,v4,v5,v6,v7,v8] t)).rowIs w.heap.size t 9 (qR v0 v1 v2 v3 v4 v5 v6 v7 v8):=jx rfl
theorem xO {w:World} {b t:Nat} {v0 v1 v2 v3 v4 v5 v6 v7 v8:Value} (h:w.rowIs b t 9 (qR v0 v1 v2 v3 v4 v5 v6 v7 v8)):w.heap[b]?=some (.cells #[v0,v1,v2,v3,v4,v5,v6,v7,v8] t (0,0)):=by
 obtain ⟨c,hc,hn,hf⟩:=h
 have e:c=#[v0,v1,v2,v3,v4,v5,v6,v7,v8]:=by
  apply Array.ext (by simp [hn])
  intro i h1 h2
  have:=hf i (by omega)
  rw [Array.getElem?_eq_getElem h1] at this
  have h3:=Option.some.inj this
  rw [h3]
  rcases i with _|_|_|_|_|_|_|_|_|i <;> first|rfl|(simp at h2;omega)
 rw [hc,e]
theorem cO {W:World} {b t:Nat} {f:Nat→Value} (v0 v1 v2 v3 v4 v5 v6 v7 v8:Value) (h:W.rowIs b t 9 f):(((((((((W.setCell ⟨b,0,none⟩ v0).setCell ⟨b,1,none⟩ v1).setCell ⟨b,2,none⟩ v2).setCell ⟨b,3,none⟩ v3).setCell ⟨b,4,none⟩ v4).setCell ⟨b,5,none⟩ v5).setCell ⟨b,6,none⟩ v6).setCell ⟨b,7,none⟩ v7).setCell ⟨b,8,none⟩ v8).rowIs b t 9 (qR v0 v1 v2 v3 v4 v5 v6 v7 v8):=by
 refine (((((((((h.set 0 v0).set 1 v1).set 2 v2).set 3 v3).set 4 v4).set 5 v5).set 6 v6).set 7 v7).set 8 v8).congr fun j hj=>?_
 rcases j with _|_|_|_|_|_|_|_|_|j <;> first|rfl|omega
theorem wD {B:Nat} {a W:World} {b:Nat} (v0 v1 v2 v3 v4 v5 v6 v7 v8:Value) (h:Below B a W) (hb:B≤b):Below B a (((((((((W.setCell ⟨b,0,none⟩ v0).setCell ⟨b,1,none⟩ v1).setCell ⟨b,2,none⟩ v2).setCell ⟨b,3,none⟩ v3).setCell ⟨b,4,none⟩ v4).setCell ⟨b,5,none⟩ v5).setCell ⟨b,6,none⟩ v6).setCell ⟨b,7,none⟩ v7).setCell ⟨b,8,none⟩ v8):=(((((((((h.setCell hb v0).setCell hb v1).setCell hb v2).setCell hb v3).setCell hb v4).setCell hb v5).setCell hb v6).setCell hb v7).setCell hb v8)
theorem fO {W:World} {b k:Nat} (v0 v1 v2 v3 v4 v5 v6 v7 v8:Value) (hk:k≠b):(((((((((W.setCell ⟨b,0,none⟩ v0).setCell ⟨b,1,none⟩ v1).setCell ⟨b,2,none⟩ v2).setCell ⟨b,3,none⟩ v3).setCell ⟨b,4,none⟩ v4).setCell ⟨b,5,none⟩ v5).setCell ⟨b,6,none⟩ v6).setCell ⟨b,7,none⟩ v7).setCell ⟨b,8,none⟩ v8).heap[k]?=W.heap[k]?:=by
 rw [Below.heap_setCell _ _ _ _ hk,Below.heap_setCell _ _ _ _ hk,Below.heap_setCell _ _ _ _ hk,Below.heap_setCell _ _ _ _ hk,Below.heap_setCell _ _ _ _ hk,Below.heap_setCell _ _ _ _ hk,Below.heap_setCell _ _ _ _ hk,Below.heap_setCell _ _ _ _ hk,Below.heap_setCell _ _ _ _ hk]
theorem kK {W:World} {b:Nat} {v0 v1 v2 v3 v4 v5 v6 v7 v8:Value}:(((((((((W.setCell ⟨b,0,none⟩ v0).setCell ⟨b,1,none⟩ v1).setCell ⟨b,2,none⟩ v2).setCell ⟨b,3,none⟩ v3).setCell ⟨b,4,none⟩ v4).setCell ⟨b,5,none⟩ v5).setCell ⟨b,6,none⟩ v6).setCell ⟨b,7,none⟩ v7).setCell ⟨b,8,none⟩ v8).heap.size=W.heap.size:=by simp [World.setCell]
theorem pl {W:World} {b k:Nat} (v0 v1:Value) (hk:k≠b):((W.setCell ⟨b,0,none⟩ v0).setCell ⟨b,1,none⟩ v1).heap[k]?=W.heap[k]?:=by
 rw [Below.heap_setCell _ _ _ _ hk,Below.heap_setCell _ _ _ _ hk]
theorem cg {W:World} {b:Nat} {v0 v1:Value}:((W.setCell ⟨b,0,none⟩ v0).setCell ⟨b,1,none⟩ v1).heap.size=W.heap.size:=by simp [World.setCell]
theorem lP {W:World} {b:Nat} {v0 v1 v2 v3 v4 v5:Value}:((((((W.setCell ⟨b,0,none⟩ v0).setCell ⟨b,1,none⟩ v1).setCell ⟨b,2,none⟩ v2).setCell ⟨b,3,none⟩ v3).setCell ⟨b,4,none⟩ v4).setCell ⟨b,5,none⟩ v5).heap.size=W.heap.size:=by simp [World.setCell]
end Go.Proofs.YtnlgmcapbbgelaaGreatDoor
