/- The contract of when.digits. -/
import Derived.Test.YtnlgmcapbbgelaaGreatDoorRx09
import Derived.Test.YtnlgmcapbbgelaaGreatDoorRx05
import Derived.Laws.RangeAny
import Derived.Test.YtnlgmcapbbgelaaGreatDoorRx02

namespace Go.Proofs.YtnlgmcapbbgelaaGreatDoor
open Go.RowKit
def go (s:ByteArray) (pos:Nat):Bool:=((Utf8.decode s pos).1 == 65533) && !Lib.hasPrefix (s.data.toList.drop pos) [239,191,189]
def kY (s:ByteArray):Nat→Nat→Bool
 | 0,_=>true
 | f+1,pos=>if pos<s.size then (if go s pos then false else kY s f (pos+(Utf8.decode s pos).2)) else true
def yH (s:ByteArray):Bool:=kY s (s.size+1) 0
def nh (s:ByteArray) (w:World) (e:Ending) (w':World):Prop:=∃n:Int,e=.returned (.tuple #[.int .i64 n,.bool (yH s)])∧Below w.heap.size w w'
theorem mu (s:ByteArray) (pos:Nat):1≤(Utf8.decode s pos).2:=by
 unfold Utf8.decode;dsimp only;repeat' split
 all_goals omega
set_option maxHeartbeats 400000 in
theorem sW (s:ByteArray) (w:World) (hs:s.size≤9223372036854775807) :
 Calls Tryz.prog 201 #[.string s] w (nh s w):=by
 go_enter Tryz.func201,Tryz.ntmps201
 go_wp2
 go_loopw [4,5,6] (fun v4 _ _ wr=>∃(pos n f:Nat),n≤pos∧n≤s.size∧v4=.int .i64 n∧wr=w.iter s pos∧kY s f pos=yH s∧s.size+1≤f+pos) (fun _ _ _ wr=>s.size - wr.iterPos w.heap.size)
 case atStart=>exact ⟨0,0,s.size+1,by omega,by omega,rfl,rfl,rfl,by omega⟩
 case round =>
  obtain ⟨pos,n,f,hn,hn',rfl,rfl,hok,hf⟩:=hrel
  by_cases hlt:pos<s.size
  · obtain ⟨f,rfl⟩:∃g,f=g+1:=⟨f - 1,by omega⟩
    have hdp:=mu s pos
    have hdl:=decode_le s pos
    have hun:kY s (f+1) pos=if go s pos then false else kY s f (pos+(Utf8.decode s pos).2):=by rw [kY,if_pos hlt]
    have hbad:go s pos=(((Utf8.decode s pos).1 == 65533) && !Lib.hasPrefix (s.data.toList.drop pos) [239,191,189]):=rfl
    have hnext:=fun ty=>run_next_any (P:=Tryz.prog) w s pos ty hlt
    generalize (Utf8.decode s pos).1=r at *
    generalize (Utf8.decode s pos).2=d at *
    have hex:(s.extract pos s.size).data.toList=s.data.toList.drop pos:=by
     rw [ByteArray.data_extract,Array.toList_extract,List.extract_eq_take_drop,List.take_of_length_le];rw [List.length_drop,qp];exact Nat.le_refl _
    have HEX:=Lh hex
    rw [hun] at hok
    have HOK:=Lh hok
    have HBD:=Lh hbad
    clear hok hun hbad hex
    by_cases hr:r=65533
    · have hr':((r:Int) == 65533)=true:=by simp [hr]
      have hr2:(r == 65533)=true:=by simp [hr]
      cases hp:Lib.hasPrefix (s.data.toList.drop pos) [239,191,189]
      · have HF:=Lh (show yH s=false by rw [← HOK.out,HBD.out,hr2,hp];rfl)
        have HP:=Lh hp
        clear hp hr2 hr
        go_wp2_with fail
        refine (Tryz.strings_HasPrefix _ _ _).mono ?_
        rintro e w2 ⟨rfl,rfl⟩
        rw [show Lib.hasPrefix (s.extract pos s.size).data.toList (⟨#[239,191,189]⟩:ByteArray).data.toList=false by rw [HEX.out];exact HP.out]
        go_wp2
        go_ret2
        exact ⟨0,by rw [HF.out];rfl,(Below.refl _ _).alloc lz _⟩
      · have HF:=Lh (show kY s f (pos+d)=yH s by rw [← HOK.out,HBD.out,hr2,hp];rfl)
        have HP:=Lh hp
        clear hp hr2 hr
        go_wp2_with fail
        refine (Tryz.strings_HasPrefix _ _ _).mono ?_
        rintro e w2 ⟨rfl,rfl⟩
        rw [show Lib.hasPrefix (s.extract pos s.size).data.toList (⟨#[239,191,189]⟩:ByteArray).data.toList=true by rw [HEX.out];exact HP.out]
        go_wp2
        go_roundw
        case rel=>exact ⟨pos+d,n+1,f,by omega,by omega,by go_num,rfl,HF.out,by omega⟩
        case measure=>simp;omega
    · have hr':((r:Int) == 65533)=false:=by simp;omega
      have hr2:(r == 65533)=false:=by simp [hr]
      have HF:=Lh (show kY s f (pos+d)=yH s by rw [← HOK.out,HBD.out,hr2];rfl)
      clear hr2 hr
      go_wp2
      go_roundw
      case rel=>exact ⟨pos+d,n+1,f,by omega,by omega,by go_num,rfl,HF.out,by omega⟩
      case measure=>simp;omega
  · have hnext:=fun ty=>run_next_end (P:=Tryz.prog) w s pos ty hlt
    have HF:=Lh (show yH s=true by
     rw [← hok];cases f with
     | zero=>rfl
     | succ f=>rw [kY,if_neg hlt])
    clear hok
    go_wp2
    go_ret2
    exact ⟨n,by rw [HF.out];rfl,(Below.refl _ _).alloc lz _⟩
set_option maxHeartbeats 400000 in
theorem hO (s:ByteArray) (w:World) (hs:s.size≤9223372036854775807) :
 Calls Tryz.prog 165 #[.string s] w fun e w'=>e=.returned (.bool (yH s))∧Below w.heap.size w w':=by
 go_enter Tryz.func165,Tryz.ntmps165
 go_wp2_with fail
 refine (sW s w hs).mono ?_
 rintro e w2 ⟨n,rfl,hb⟩
 have HB:=Lh hb;clear hb
 go_wp2
 go_ret
 exact ⟨rfl,HB.out⟩
set_option maxHeartbeats 400000 in
theorem mc (s t:ByteArray) (w:World) (hs:s.size≤9223372036854775807) (ht:t.size≤9223372036854775807) :
 Calls Tryz.prog 64 #[.agg #[.string s,.string t]] w fun e w'=>e=.returned (.bool (zl s.data.toList t.data.toList))∧Below w.heap.size w w':=by
 unfold zl
 cases hr:xf s.data.toList
 · have HR:=Lh hr
   go_enter Tryz.func64,Tryz.ntmps64
   go_wp2_with (go_at_call 115;refine (kW s _ hs).mono ?_;rintro e w' ⟨rfl,rfl⟩)
   go_ret
   exact ⟨rfl,(Below.refl _ _).alloc lz _⟩
 by_cases h1:t.size<2∨128<t.size∨t.size % 2=1
 · have HP:=Lh (sQ h1)
   rw [HP.out]
   by_cases g1:t.size=0
   · have g1':¬0<(t.size:Int):=by omega
     clear h1 g1
     go_enter Tryz.func64,Tryz.ntmps64
     go_wp2_with (go_at_call 115;refine (kW s _ hs).mono ?_;rintro e w' ⟨rfl,rfl⟩)
     go_ret
     exact ⟨rfl,(Below.refl _ _).alloc lz _⟩
   have g1':0<t.size:=by omega
   clear g1
   by_cases g2:128<t.size
   · clear h1
     go_enter Tryz.func64,Tryz.ntmps64
     go_wp2_with (go_at_call 115;refine (kW s _ hs).mono ?_;rintro e w' ⟨rfl,rfl⟩)
     go_ret
     exact ⟨rfl,(Below.refl _ _).alloc lz _⟩
   have g3:((t.size:Int) % 2 == 0)=false:=by simp;omega
   have g2':t.size≤128:=by omega
   clear h1 g2
   go_enter Tryz.func64,Tryz.ntmps64
   go_wp2_with (go_at_call 115;refine (kW s _ hs).mono ?_;rintro e w' ⟨rfl,rfl⟩)
   go_ret
   exact ⟨rfl,(Below.refl _ _).alloc lz _⟩
 · have HP:=Lh (nj (s:=t) (by omega) (by omega) (by omega))
   rw [HP.out]
   have g1:2≤t.size:=by omega
   have g2:t.size≤128:=by omega
   have g3:((t.size:Int) % 2 == 0)=true:=by simp;omega
   clear h1
   go_enter Tryz.func64,Tryz.ntmps64
   go_wp2_with (first|(go_at_call 115;refine (kW s _ hs).mono ?_;rintro e w' ⟨rfl,rfl⟩)|(go_at_call 116;refine (su t _ ht).mono ?_;rintro e w' ⟨rfl,rfl⟩))
   go_ret
   exact ⟨by simp,(Below.refl _ _).alloc lz _⟩
mutual
def JV.count:JV→Nat
 | .mk _ _ _ _ xs=>1+JV.counts xs
def JV.counts:List JV→Nat
 | []=>0
 | x :: r=>JV.count x+JV.counts r
end
mutual
theorem JV.count_le:∀v:JV,v.count≤v.wt
 | .mk _ _ _ _ xs=>by have:=JV.counts_le xs;simp [JV.count,JV.wt];omega
theorem JV.counts_le:∀l:List JV,JV.counts l≤JV.wts l
 | []=>by simp [JV.counts]
 | x :: r=>by have:=JV.count_le x;have:=JV.counts_le r;simp [JV.counts,JV.wts];omega
end
theorem JV.wts_take (l:List JV) (k:Nat):JV.wts (l.take k)≤JV.wts l:=by
 induction l generalizing k with
 | nil=>simp
 | cons x r ih=>cases k with
  | zero=>simp [JV.wts]
  | succ k=>have:=ih k;simp [JV.wts];omega
theorem dx (l:List UInt8) (k:Nat) (h:k<l.length) (n:Int):qP (l.drop k) n=if 48≤l[k].toNat∧l[k].toNat≤57 then qP (l.drop (k+1)) (10 * n+((l[k].toNat:Int) - 48)) else -1:=by
 rw [List.drop_eq_getElem_cons h,qP]
set_option maxHeartbeats 1000000 in
theorem ge (s:ByteArray) (w:World) (hs:s.size≤4):Calls Tryz.prog 101 #[.string s] w fun e w'=>e=.returned (.int .i64 (qP s.data.toList 0))∧w'=w:=by
 go_enter Tryz.func101,Tryz.ntmps101
 go_wp2
 go_loop [3,4,7] (fun n _ i=>∃k:Nat,∃m:Int,k≤s.size∧i=.int .i64 k∧n=.int .i64 m∧0≤m∧m<10 ^ k∧qP s.data.toList 0=qP (s.data.toList.drop k) m) (fun _ _ i=>s.size - (intOf i).toNat)
 case atStart=>exact ⟨0,0,Nat.zero_le _,rfl,rfl,by omega,by decide,rfl⟩
 case round =>
  obtain ⟨k,m,hk,rfl,rfl,h0,h1,hd⟩:=hrel
  have HD:=Lh hd
  clear hd
  by_cases hlt:k<s.size
  · have hp:(10:Int) ^ k≤1000:=by
     have:k=0∨k=1∨k=2∨k=3:=by omega
     rcases this with rfl|rfl|rfl|rfl <;> decide
    have hp2:(10:Int) ^ (k+1)=10 * 10 ^ k:=by rw [Int.pow_succ];omega
    have HN:=Lh (dx s.data.toList k (by rw [Array.length_toList];exact hlt) m)
    have HE:=Lh (show s.data.toList[k]'(by rw [Array.length_toList];exact hlt)=s[k] from rfl)
    rw [HE.out] at HN
    have hc:s[k].toNat<256:=s[k].toNat_lt
    by_cases g1:s[k].toNat<48
    · have g1':decide ((s[k].toNat:Int)<48)=true:=by simp;omega
      have HR:=Lh (show qP s.data.toList 0 = -1 by rw [HD.out,HN.out,if_neg (by omega)])
      go_wp2
      go_ret
      exact ⟨zu (by rw [HR.out]),rfl⟩
    · have g1':decide ((s[k].toNat:Int)<48)=false:=by simp;omega
      by_cases g2:57<s[k].toNat
      · have g2':decide ((57:Int)<s[k].toNat)=true:=by simp;omega
        have HR:=Lh (show qP s.data.toList 0 = -1 by rw [HD.out,HN.out,if_neg (by omega)])
        go_wp2
        go_ret
        exact ⟨zu (by rw [HR.out]),rfl⟩
      · have g2':decide ((57:Int)<s[k].toNat)=false:=by simp;omega
        have HR:=Lh (show qP s.data.toList 0=qP (s.data.toList.drop (k+1)) (10 * m+((s[k].toNat:Int) - 48)) by rw [HD.out,HN.out,if_pos (by omega)])
        go_wp2
        go_round
        case rel=>exact ⟨k+1,10 * m+((s[k].toNat:Int) - 48),by omega,by go_num,by go_num,by omega,by omega,HR.out⟩
        case measure=>simp [intOf];omega
  · obtain rfl:k=s.size:=by omega
    have HR:=Lh (show qP s.data.toList 0=m by rw [HD.out,List.drop_eq_nil_of_le (by rw [Array.length_toList];exact Nat.le_refl _)];rfl)
    go_wp2
    go_ret
    exact ⟨zu (by rw [HR.out]),rfl⟩
end Go.Proofs.YtnlgmcapbbgelaaGreatDoor
