/- pick.ObjectOf of members whose names rise: any number of them. -/
import Derived.Test.YthgembbgcbaghaaGreatDoorDa14
import Derived.Shelf.SlSortCmp.WholeK

namespace Go.Proofs.YthgembbgcbaghaaGreatDoor
open Go.RowKit Go.Shelf Go.Sort
theorem pR:∀a b:List UInt8,decide (Lib.compareBytes a b<0)=Op.bytesLess a b
 | [],[]=>rfl
 | [],_ :: _=>rfl
 | _ :: _,[]=>rfl
 | a :: ax,b :: bx=>by
  unfold Lib.compareBytes Op.bytesLess
  by_cases h1:a<b
  · simp [h1]
  · by_cases h2:b<a
    · have:¬a=b:=fun e=>by subst e;exact h1 h2
      simp [h1,h2,this]
    · have e:a=b:=UInt8.le_antisymm (UInt8.not_lt.1 h2) (UInt8.not_lt.1 h1)
      subst e
      rw [if_neg h1,if_neg h1,pR ax bx]
      simp
theorem vg (x y:Mem):ltOf cfM x y=bl x.name y.name:=by
 unfold ltOf cfM bl
 rw [pR,ByteArray.toList_eq,ByteArray.toList_eq]
theorem co {a b c:ByteArray} (h:bl a b=false) (h':bl b c=false):bl a c=false:=by
 cases h2:bl a c
 · rfl
 · cases h3:bl b a
   · rw [fx h h3,h'] at h2;cases h2
   · rw [xi h3 h2] at h';cases h'
theorem tD:SWO (ltOf cfM) where
 irrefl x:=by rw [vg];exact zc _
 trans x y z:=by rw [vg,vg,vg];exact xi
 ntrans x y z:=by rw [vg,vg,vg];exact co
def bG (d:Array Mem):Prop:=∀i j (hj:j<d.size),(hij:i<j)→bl d[i].name d[j].name=true
theorem fX {d d':Array Mem} (hr:bG d) (hp:d'.toList.Perm d.toList) (hs:∀i j,i<j→j<d.size→bl d'[j]!.name d'[i]!.name=false):d'=d:=by
 have hl:d'.size=d.size:=by simpa using hp.length_eq
 apply Array.toList_inj.1
 refine hp.eq_of_pairwise (le:=fun a b=>bl b.name a.name=false) (fun a b ha hb x y=>?_) ?_ ?_
 · have e:=fx x y
   have ha':=hp.mem_iff.1 ha
   obtain ⟨i,hi,rfl⟩:=List.getElem_of_mem ha'
   obtain ⟨j,hj,rfl⟩:=List.getElem_of_mem hb
   simp only [Array.length_toList,Array.getElem_toList] at hi hj e ⊢
   rcases Nat.lt_trichotomy i j with c|c|c
   · have:=hr i j hj c;rw [e,zc] at this;cases this
   · subst c;rfl
   · have:=hr j i hi c;rw [e,zc] at this;cases this
 · rw [List.pairwise_iff_getElem]
   intro i j hi hj hij
   have hj':j<d'.size:=by simpa using hj
   have:=hs i j hij (by omega)
   rw [getElem!_pos d' j hj',getElem!_pos d' i (by omega)] at this
   simpa using this
 · rw [List.pairwise_iff_getElem]
   intro i j hi hj hij
   have hj':j<d.size:=by simpa using hj
   have h1:=hr i j hj' hij
   simp only [Array.getElem_toList]
   cases h2:bl d[j].name d[i].name
   · rfl
   · have:=xi h1 h2;rw [zc] at this;cases this
end Go.Proofs.YthgembbgcbaghaaGreatDoor
