import Derived.Test.YthgembbgcbaghaaGreatDoorDt14
import Derived.Shelf.SlSortCmp.WholeK

namespace Go.Proofs.YthgembbgcbaghaaGreatDoor
open Go.RowKit Go.Shelf Go.Sort
theorem mx:∀a b:List UInt8,decide (Lib.compareBytes a b<0)=Op.bytesLess a b
 | [],[]=>rfl
 | [],_ :: _=>rfl
 | _ :: _,[]=>rfl
 | a :: ax,b :: bx=>by
  unfold Lib.compareBytes Op.bytesLess;by_cases h1:a<b
  . simp [h1]
  . by_cases h2:b<a
    . have:¬a=b:=fun e=>by subst e;exact h1 h2
      simp [h1,h2,this]
    . have e:a=b:=UInt8.le_antisymm (UInt8.not_lt.1 h2) (UInt8.not_lt.1 h1);subst e;rw [Z5 h1,Z5 h1,mx ax bx];simp
theorem wG (x y:Mem):ltOf cfM x y=bl x.name y.name:=by unfold ltOf cfM bl;rw [mx,X2,X2]
theorem rU {a b c:ByteArray} (h:bl a b=false) (h':bl b c=false):bl a c=false:=by
 cases h2:bl a c
 . rfl
 . cases h3:bl b a
   . rw [mV h h3,h'] at h2;cases h2
   . rw [jz h3 h2] at h';cases h'
theorem Q7:SWO (ltOf cfM) where
 irrefl x:=by rw [wG];exact zK _
 trans x y z:=by rw [wG,wG,wG];exact jz
 ntrans x y z:=by rw [wG,wG,wG];exact rU
def cx (d:Array Mem):Prop:=∀i j (hj:j<d.size),(hij:i<j)->bl d[i].name d[j].name=true
theorem cj {d d':Array Mem} (hr:cx d) (hp:d'.toList.Perm d.toList) (hs:∀i j,i<j->j<d.size->bl d'[j]!.name d'[i]!.name=false):d'=d:=by
 have l:d'.size=d.size:=by simpa using hp.length_eq
 apply Array.toList_inj.1;refine hp.eq_of_pairwise (le:=fun a b=>bl b.name a.name=false) (fun a b ha hb x y=>?_) ?_ ?_
 . have e:=mV x y;have h:=hp.mem_iff.1 ha;obtain ⟨i,hi,rfl⟩:=Y3 h;obtain ⟨j,g,rfl⟩:=Y3 hb;simp only [Array.length_toList,Array.getElem_toList] at hi g e ⊢;rcases Nat.lt_trichotomy i j with c|c|c
   . have:=hr i j g c;rw [e,zK] at this;cases this
   . subst c;rfl
   . have:=hr j i hi c;rw [e,zK] at this;cases this
 . rw [N8];intro i j hi g hij;have f:j<d'.size:=by simpa using g
   have:=hs i j hij (by omega);rw [getElem!_pos d' j f,getElem!_pos d' i (by omega)] at this;simpa using this
 . rw [N8];intro i j hi g hij;have f:j<d.size:=by simpa using g
   have k:=hr i j f hij;simp only [Array.getElem_toList];cases h2:bl d[j].name d[i].name
   . rfl
   . have:=jz k h2;rw [zK] at this;cases this
end Go.Proofs.YthgembbgcbaghaaGreatDoor
