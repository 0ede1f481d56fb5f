/- The contract of slices.Equal of texts. -/
import Derived.Test.YtnlgmcapbbgelaaGreatDoorRt06
import Derived.Test.YtnlgmcapbbgelaaGreatDoorRt02

namespace Go.Proofs.YtnlgmcapbbgelaaGreatDoor
open Go.RowKit
theorem rv (l m:List ByteArray) (a1 a2:Option Addr) (c d:Nat) (w:World) (lo hi:Nat) (h1:qv w lo hi a1 l) (h2:qv w lo hi a2 m) (hl:l.length≤4294967296) (hm:m.length≤4294967296) :
 Calls Tryz.prog 135 #[.slice a1 l.length c,.slice a2 m.length d] w fun e w'=>e=.returned (.bool (decide (l=m)))∧∃q,w'=w.drewN q:=by
 by_cases hn:l.length=m.length
 · by_cases h0:l=[]
   · subst h0
     have hm0:m=[]:=List.eq_nil_of_length_eq_zero (by rw [← hn];rfl)
     subst hm0
     refine (Tryz.slices_Equal_string_empty a1 a2 c 0 d w (by omega)).mono ?_
     rintro e w' ⟨rfl,rfl⟩
     exact ⟨rfl,0,rfl⟩
   · have h0':m≠[]:=fun e=>h0 (List.eq_nil_of_length_eq_zero (by rw [hn,e];rfl))
     rcases h1 with h1|⟨b,off,rfl,_,_,hc⟩
     · exact absurd h1 h0
     rcases h2 with h2|⟨b',off',rfl,_,_,hc'⟩
     · exact absurd h2 h0'
     refine (Tryz.slices_Equal_string b off l.length c b' off' m.length d l m w lz lz (by omega) (by omega) (fun j hj=>by rw [hc j hj,List.getD_eq_getElem?_getD,List.getElem?_eq_getElem hj];rfl) (fun j hj=>by rw [hc' j hj,List.getD_eq_getElem?_getD,List.getElem?_eq_getElem hj];rfl)).mono ?_
     rintro e w' ⟨rfl,hq⟩
     exact ⟨by rw [List.take_length,List.take_length],hq⟩
 · refine (Tryz.slices_Equal_string_lens a1 a2 l.length c m.length d w hn).mono ?_
   rintro e w' ⟨rfl,rfl⟩
   exact ⟨by rw [decide_eq_false (fun e=>hn (by rw [e]))],0,rfl⟩
end Go.Proofs.YtnlgmcapbbgelaaGreatDoor
