import Derived.Test.YtkllbdlebjomkaaGreatDoorTn13
import Derived.Shelf.SlSortCmp.WholeK

namespace Go.Proofs.YtkllbdlebjomkaaGreatDoor
open Go.RowKit Go.Shelf Go.Sort
theorem uI:∀a b:List UInt8,decide (Lib.compareBytes a b<0)=Op.bytesLess a b
 | [],[]=>rfl
 | [],_ :: _=>rfl
 | _ :: _,[]=>rfl
 | a :: ax,b :: bx=>by
  unfold Lib.compareBytes Op.bytesLess;by_cases h1:a<b
  . simp [h1]
  . by_cases h2:b<a
    . have:¬a=b:=fun e=>by subst e;exact h1 h2
      simp [h1,h2,this]
    . have e:a=b:=UInt8.le_antisymm (UInt8.not_lt.1 h2) (UInt8.not_lt.1 h1);subst e;rw [Z6 h1,Z6 h1,uI ax bx];simp
theorem wS (x y:Mem):ltOf cfM x y=bl x.name y.name:=by unfold ltOf cfM bl;rw [uI,X4,X4]
theorem rN {a b c:ByteArray} (h:bl a b=false) (d:bl b c=false):bl a c=false:=by
 cases h2:bl a c
 . rfl
 . cases h3:bl b a
   . rw [mK h h3,d] at h2;cases h2
   . rw [xE h3 h2] at d;cases d
theorem Zh:SWO (ltOf cfM) where
 irrefl x:=by rw [wS];exact zY _
 trans x y z:=by rw [wS,wS,wS];exact xE
 ntrans x y z:=by rw [wS,wS,wS];exact rN
def cp (d:Array Mem):Prop:=∀i j (hj:j<d.size),(hij:i<j)->bl d[i].name d[j].name=true
theorem cf {d m:Array Mem} (o:cp d) (hp:m.toList.Perm d.toList) (p:∀i j,i<j->j<d.size->bl m[j]!.name m[i]!.name=false):m=d:=by
 have l:m.size=d.size:=by simpa using hp.length_eq
 apply Array.toList_inj.1;refine hp.eq_of_pairwise (le:=fun a b=>bl b.name a.name=false) (fun a b ha hb x y=>?_) ?_ ?_
 . have e:=mK x y;have h:=hp.mem_iff.1 ha;obtain ⟨i,hi,rfl⟩:=Y0 h;obtain ⟨j,g,rfl⟩:=Y0 hb;simp only [G8,Array.getElem_toList] at hi g e ⊢;rcases Nat.lt_trichotomy i j with c|c|c
   . have:=o i j g c;rw [e,zY] at this;cases this
   . subst c;rfl
   . have:=o j i hi c;rw [e,zY] at this;cases this
 . rw [za3];intro i j hi g hij;have f:j<m.size:=by simpa using g
   have:=p i j hij (by omega);rw [getElem!_pos m j f,getElem!_pos m i (by omega)] at this;simpa using this
 . rw [za3];intro i j hi g hij;have f:j<d.size:=by simpa using g
   have k:=o i j f hij;simp only [Array.getElem_toList];cases h2:bl d[j].name d[i].name
   . rfl
   . have:=xE k h2;rw [zY] at this;cases this
