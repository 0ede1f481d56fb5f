/- Keys and their IDs, in plain words. No program in sight. -/
import Derived.Test.YthgembbgcbaghaaGreatDoorDa29
import Derived.Test.YthgembbgcbaghaaGreatDoorDa28
import Derived.Test.YthgembbgcbaghaaGreatDoorCards
import Derived.Test.YthgembbgcbaghaaGreatDoorTie
import Derived.Test.YthgembbgcbaghaaGreatDoorDa06
import Derived.Test.YthgembbgcbaghaaGreatDoorDa23
import Derived.Deep.DeepHandedRow
import Derived.Lib.LaidTab
import Derived.ChangeMaps5

namespace Go.Proofs.YthgembbgcbaghaaGreatDoor
open Go.RowKit
def bX (w:World) (b T:Nat) (l:List UInt8) (m:Nat) (N:Int):Prop :=
 ∃p:Nat→Int,w.rowIs b T 74 (xx true (jk l (m / 64)) p N)∧(∀j,j<m % 64→p j=jm l (64 * (m / 64)+j))∧∀j,j<64→0≤p j∧p j≤255
def jG (w:World) (b T:Nat) (l:List UInt8):Prop:=bX w b T l l.length l.length
theorem nj (w:World):(Go.sizeOf 5).run Tryz.prog w=.ok 1 w:=by kernel_rfl
theorem nw (w:World):(Go.sizeOf 257).run Tryz.prog w=.ok 74 w:=by kernel_rfl
theorem uX {w':World} {b T:Nat} {l:List UInt8} {m n:Nat} {N:Int} {p:Nat→Int} {r:ByteArray}
 (hu:m % 64+n≤64) (hr:r.data.toList=l.drop m) (_hn:n≤r.size)
 (hp:∀j,j<m % 64→p j=jm l (64 * (m / 64)+j)) (hpb:∀j,j<64→0≤p j∧p j≤255)
 (h':w'.rowIs b T 74 (fun j=>if 9+m % 64≤j∧j<9+m % 64+n then .int .u8 (cY r (j - (9+m % 64))) else xx true (jk l (m / 64)) p N j)) :
 ∃q:Nat→Int,w'.rowIs b T 74 (xx true (jk l (m / 64)) q N)∧(∀j,j<m % 64+n→q j=jm l (64 * (m / 64)+j))∧∀j,j<64→0≤q j∧q j≤255:=by
 refine ⟨fun j=>if m % 64≤j∧j<m % 64+n then jm l (64 * (m / 64)+j) else p j,?_,?_,?_⟩
 · refine h'.congr fun j hj=>?_
   by_cases e:9+m % 64≤j∧j<9+m % 64+n
   · rw [if_pos e];unfold xx;rw [if_neg (by omega),if_neg (by omega),if_pos (by omega)];simp only [];rw [if_pos (by omega)];unfold cY;rw [hr]
     congr 1;unfold jm;rw [List.getD_eq_getElem?_getD,List.getElem?_drop,List.getD_eq_getElem?_getD]
     congr 4;omega
   · rw [if_neg e];unfold xx
     by_cases e0:j=0
     · simp only [if_pos e0]
     · by_cases e1:j≤8
       · simp only [if_neg e0,if_pos e1]
       · by_cases e2:j≤72
         · simp only [if_neg e0,if_neg e1,if_pos e2];rw [if_neg (by omega)]
         · simp only [if_neg e0,if_neg e1,if_neg e2]
 · intro j hj
   by_cases e:m % 64≤j∧j<m % 64+n
   · simp only [if_pos e]
   · simp only [if_neg e];exact hp j (by omega)
 · intro j hj
   by_cases e:m % 64≤j∧j<m % 64+n
   · simp only [if_pos e];exact lT _ _
   · simp only [if_neg e];exact hpb j hj
def m6:Value→Nat | .string s=>s.size|_=>0
theorem m7 {w:World} {b T:Nat} {l k:List UInt8} (h:jG w b T l) (N:Int) (hN:N=(l ++ k).length) :
 bX (w.setCell ⟨b,73,none⟩ (.int .i64 N)) b T (l ++ k) l.length (l ++ k).length:=by
 obtain ⟨p,hr,hp,hpb⟩:=h
 have hb:∀i,i<l.length→jm (l ++ k) i=jm l i:=fun i hi=>by unfold jm;rw [List.getD_eq_getElem?_getD,List.getElem?_append_left hi,List.getD_eq_getElem?_getD]
 refine ⟨p,(hr.set 73 _).congr fun j hj=>?_,fun j hj=>?_,hpb⟩
 · have e:jk (l ++ k) (l.length / 64)=jk l (l.length / 64):=yF _ fun i hi=>hb i (by omega)
   rw [e]
   by_cases e:j=73
   · subst e;rw [if_pos rfl];unfold xx;simp [hN]
   · rw [if_neg e];unfold xx
     by_cases e0:j=0
     · simp only [if_pos e0]
     · by_cases e1:j≤8
       · simp only [if_neg e0,if_pos e1]
       · simp only [if_neg e0,if_neg e1,if_pos (show j≤72 by omega)]
 · rw [hp j hj,hb _ (by omega)]
theorem wS {r:ByteArray} {L:List UInt8} {m n:Nat} (h:r.data.toList=L.drop m):(r.extract n r.size).data.toList=L.drop (m+n):=by
 rw [ByteArray.data_extract,Array.toList_extract,List.extract_eq_take_drop,h,List.drop_drop]
 rw [List.take_of_length_le (by
  have:r.size=(L.drop m).length:=by rw [← h,qm]
  rw [this,List.length_drop,List.length_drop];omega)]
set_option maxRecDepth 100000 in
set_option maxHeartbeats 1000000 in
theorem bJ (b T:Nat) (l:List UInt8) (s:ByteArray) (w:World) (hh:jG w b T l) (hl:l.length+s.size≤1099511627776)
 (hk:∀i,i<64→w.cell? ⟨3,i,none⟩=some (.int .u32 (kay i))) (hg:3<w.heap.size) (hgb:3≠b) :
 Calls Tryz.prog 224 #[.pointer (some ⟨b,0,none⟩),.string s] w fun e w'=>e=.returned (.int .i64 0)∧jG w' b T (l ++ s.data.toList)∧Touch (· = b) w w':=by
 have HH:=Lh hh
 obtain ⟨p,hr,hp,hpb⟩:=hh
 have HK:=Lh hk;clear hk
 have c0:w.cell? ⟨b,0,none⟩=some (.bool true):=hr.cell (by omega)
 have c1:w.cell? ⟨b,73,none⟩=some (.int .i64 (l.length:Int)):=hr.cell (by omega)
 have f1:w.frozen? ⟨b,73,none⟩=false:=hr.frozen 73
 have hbz:b<w.heap.size:=hr.lt
 clear hr hp hpb
 obtain ⟨L,hL⟩:∃L,L=l ++ s.data.toList:=⟨_,rfl⟩
 have HL:=Lh hL
 have HLl:Hid (L.length=l.length+s.size):=by rw [hL,List.length_append,qm];rfl
 clear hL
 go_enter Tryz.func224,Tryz.ntmps224
 go_wp2
 go_loopw [1,5] (fun v1 v5 wr=>∃(m u:Nat) (r:ByteArray),v1=.string r∧v5=.int .i64 u∧u=m % 64∧m≤L.length∧r.data.toList=L.drop m∧bX wr b T L m L.length∧Touch (· = b) w wr) (fun v1 _ _=>m6 v1)
 case atStart =>
  refine ⟨l.length,l.length % 64,s,rfl,by go_num,rfl,by have:=HLl.out;omega,by rw [HL.out];simp,?_,(Touch.refl (· = b) _).setCell (p:=⟨b,73,none⟩) (.inl rfl) _⟩
  rw [HL.out]
  exact m7 HH.out _ (by rw [List.length_append,qm];omega)
 case round =>
  clear c0 c1 f1
  obtain ⟨m,u,r,rfl,rfl,hu,hm,hrd,⟨p,hrow,hp,hpb⟩,htch⟩:=hrel
  have hrs:r.size=L.length - m:=by rw [← qm,hrd,List.length_drop]
  by_cases hlt:0<r.size
  · obtain ⟨n,hn⟩:∃n,n=Nat.min r.size (64 - u):=⟨_,rfl⟩
    have hn1:n≤r.size:=hn ▸ Nat.min_le_left _ _
    have hn2:n≤64 - u:=hn ▸ Nat.min_le_right _ _
    have hn3:0<n:=by rw [hn];exact Nat.lt_min.2 ⟨hlt,by omega⟩
    have hu2:u<64:=by omega
    have HU:=Lh hu
    have HM:=Lh hm
    have hrs':r.size≤1099511627776:=by have:=HLl.out;omega
    have HN:=Lh hn
    have HRS:=Lh hrs
    have HRD:=Lh hrd
    have HP:=Lh hp
    have HPB:=Lh hpb
    have HR:=Lh hrow
    have HT:=Lh htch
    clear hu hm hn hrs hrd hp hpb hrow htch
    have hsl:=gX (P:=Tryz.prog) Tryz.underlying255 nj b 9 u hu2
    go_wp2_with (with_reducible refine gj rfl (.tmp 42) (.tmp 43) 114 9 rfl 5 Tryz.underlying114 nj b (9+u) (64 - u) (64 - u) r rfl rfl T 74 _ HR.out n HN.out (by omega) ?_)
    intro w1 hrow1 htch1
    clear hsl
    have HC:Hid (∃q:Nat→Int,w1.rowIs b T 74 (xx true (jk L (m / 64)) q L.length)∧(∀j,j<m % 64+n→q j=jm L (64 * (m / 64)+j))∧∀j,j<64→0≤q j∧q j≤255):=by
     have h1:=hrow1.out
     rw [HU.out] at h1
     exact uX (by have:=HU.out;omega) HRD.out hn1 HP.out HPB.out h1
    have HT1:Hid (Touch (· = b) w w1):=HT.out.trans htch1.out
    clear hrow1 htch1 HP HPB HR
    by_cases h64:u+n=64
    · have h64':((u:Int)+(n:Int) == 64)=true:=by simp;omega
      have H64:=Lh h64;clear h64
      go_wp2_with fail
      obtain ⟨q,q1,q2,q3⟩:=HC.out
      refine (aC b T _ q _ w1 q1 q3 (fR _ _) (fun i hi=>by rw [HT1.out.cell hg hgb];exact HK.out i hi) (Nat.lt_of_lt_of_le hg HT1.out.size)).mono ?_
      rintro e w2 ⟨rfl,r1,r2⟩
      have HF:Hid (bX w2 b T L (m+n) L.length):=by
       have e1:=HU.out;have e2:=H64.out
       have d1:(m+n) / 64=m / 64+1:=by omega
       have d2:(m+n) % 64=0:=by omega
       refine ⟨q,?_,?_,q3⟩
       · rw [d1];show w2.rowIs b T 74 (xx true (wl (jk L (m / 64)) _) q _)
         rw [yP (fun j hj=>(q2 j (by omega)).symm)];exact r1
       · rw [d2];intro j hj;omega
      have HT2:Hid (Touch (· = b) w w2):=HT1.out.trans r2
      clear q1 q2 q3 r1 r2
      go_wp2
      go_roundw
      case rel=>exact ⟨m+n,0,_,rfl,rfl,by have:=HU.out;have:=H64.out;omega,by have:=HRS.out;omega,wS HRD.out,HF.out,HT2.out⟩
      case measure=>simp [m6];omega
    · have h64':((u:Int)+(n:Int) == 64)=false:=by simp;omega
      have H64:=Lh h64;clear h64
      have HF:Hid (bX w1 b T L (m+n) L.length):=by
       obtain ⟨q,q1,q2,q3⟩:=HC.out
       have e1:=HU.out;have e2:=H64.out
       have d1:(m+n) / 64=m / 64:=by omega
       have d2:(m+n) % 64=m % 64+n:=by omega
       exact ⟨q,by rw [d1];exact q1,by rw [d1,d2];exact q2,q3⟩
      go_wp2
      go_roundw
      case rel=>exact ⟨m+n,u+n,_,rfl,by go_num,by have:=HU.out;have:=H64.out;omega,by have:=HRS.out;omega,wS HRD.out,HF.out,HT1.out⟩
      case measure=>simp [m6];omega
  · have HF:Hid (jG wr b T (l ++ s.data.toList)):=by
     rw [← HL.out];unfold jG
     have:m=L.length:=by omega
     rw [← this] at hrow ⊢
     exact ⟨p,hrow,by rw [this] at hp ⊢;exact hp,hpb⟩
    have HT:=Lh htch
    clear hrow hp hpb htch hrd
    go_wp2
    go_ret
    exact ⟨rfl,HF.out,HT.out⟩
theorem m8 (S:S8) (k:Nat) (X:Int) (hX:X=S.at k) (h0:0≤X) (h1:X<4294967296) :
 Lib.byteCells (bL S (k+1))=Lib.byteCells (bL S k) ++ [.int .u8 (X / 16777216),.int .u8 (X / 65536 % 256),.int .u8 (X / 256 % 256),.int .u8 (X % 256)]:=by
 subst hX
 have e1:=kI (i:=S.at k / 16777216 % 256) (by omega) (by omega)
 have e2:=kI (i:=S.at k / 65536 % 256) (by omega) (by omega)
 have e3:=kI (i:=S.at k / 256 % 256) (by omega) (by omega)
 have e4:=kI (i:=S.at k % 256) (by omega) (by omega)
 have e5:S.at k / 16777216 % 256=S.at k / 16777216:=by omega
 simp only [bL,yz,Lib.byteCells,List.map_append,List.map_cons,List.map_nil,e1,e2,e3,e4]
 rw [e5]
theorem m9:(Tryz.prog.info? 5).map (fun i=>(i.zero,i.size,i.bytes))=some (some (.int .u8 0),1,1):=by kernel_rfl
theorem cS:∀z:Nat,Lib.repeatL [0] z=List.replicate z 0
 | 0=>rfl
 | z+1=>by rw [Lib.repeatL,cS z,List.replicate_succ];rfl
set_option maxRecDepth 100000 in
set_option maxHeartbeats 1000000 in
theorem aD (w:World) (hi:∀i,i<8→w.cell? ⟨1,i,none⟩=some (.int .u32 (vW.at i))) :
 Calls Tryz.prog 223 #[] w fun e w'=>e=.returned (.pointer (some ⟨w.heap.size,0,none⟩))∧jG w' w.heap.size 257 []∧Below w.heap.size w w':=by
 have i0:=hi 0 (by omega);have i1:=hi 1 (by omega);have i2:=hi 2 (by omega);have i3:=hi 3 (by omega)
 have i4:=hi 4 (by omega);have i5:=hi 5 (by omega);have i6:=hi 6 (by omega);have i7:=hi 7 (by omega)
 simp only [S8.at,vW] at i0 i1 i2 i3 i4 i5 i6 i7
 clear hi
 go_enter Tryz.func223,Tryz.ntmps223
 go_wp2
 go_ret
 refine ⟨rfl,⟨fun _=>0,?_,fun j hj=>by simp at hj,fun _ _=>by constructor <;> decide +revert⟩,(Below.refl _ _).alloc lz _⟩
 exact xR (by kernel_rfl)
set_option maxRecDepth 100000 in
set_option maxHeartbeats 1000000 in
theorem cz (b T:Nat) (l:List UInt8) (w:World) (hh:jG w b T l) (hl:l.length≤1099511627000)
 (hk:∀i,i<64→w.cell? ⟨3,i,none⟩=some (.int .u32 (kay i))) (hg:3<w.heap.size) :
 Calls Tryz.prog 225 #[.pointer (some ⟨b,0,none⟩)] w fun e w'=>e=.returned (.string ⟨(za l).toArray⟩)∧Below w.heap.size w w':=by
 have HH:=Lh hh
 obtain ⟨p,hr,hp,hpb⟩:=hh
 have c1:w.cell? ⟨b,73,none⟩=some (.int .i64 (l.length:Int)):=hr.cell (by omega)
 have hbz:b<w.heap.size:=hr.lt
 have HR:=Lh hr
 have HK:=Lh hk
 clear hr hk
 go_enter Tryz.func225,Tryz.ntmps225
 go_wp2_with (with_reducible refine wn rfl 257 (.tmp 13) rfl b T 74 _ rfl HR.out _ Tryz.underlying257 rfl (by kernel_rfl) ?_)
 intro cs h1 h2
 have HO:Hid (∀i,i<74→(xx true (jk l (l.length / 64)) p (l.length:Int) i).oneCell'=true):=by
  intro i hi;unfold xx;split;rfl;split;rfl;split <;> rfl
 go_wp2_with (with_reducible refine wpList_store_row rfl 257 (.tmp 3) (.tmp 14) rfl w.heap.size 257 74 _ _ rfl (db w _ _ 74 rfl) cs rfl h1.out h2.out HO.out nw ?_)
 intro w1 h3 h4
 have HH1:Hid (jG w1 w.heap.size 257 l):=⟨p,h3.out,hp,hpb⟩
 have HB1:Hid (Below w.heap.size w w1):=((Below.refl _ _).alloc lz _).trans ((h4.out.below (B:=w.heap.size) (by simp) (fun k hk e=>by omega)))
 have c2:w1.cell? ⟨b,73,none⟩=some (.int .i64 (l.length:Int)):=by rw [HB1.out.cell hbz];exact c1
 clear h3 h4 h1 h2 HO c1
 go_wp2_with fail
 obtain ⟨z,hz⟩:∃z:Nat,(119 - (l.length:Int)) % 64=(z:Int):=⟨((119 - (l.length:Int)) % 64).toNat,by omega⟩
 rw [hz]
 have hz64:z<64:=by omega
 have HZ:=Lh hz;clear hz
 refine (Tryz.strings_Repeat _ z _ (by omega) (by show 1 * z≤_;omega)).mono ?_
 rintro e w2 ⟨rfl,hb2⟩
 have HH2:Hid (jG w2 w.heap.size 257 l):=by
  obtain ⟨p',h1,h2,h3⟩:=HH1.out
  exact ⟨p',qj hb2 h1 h1.lt,h2,h3⟩
 have HB2:Hid (Below w.heap.size w w2):=HB1.out.trans (hb2.mono HB1.out.size)
 clear hb2 HH1 HB1 c2
 obtain ⟨rs,hrs⟩:∃rs:ByteArray,rs={ data:=(Lib.repeatL [0] z).toArray }:=⟨_,rfl⟩
 rw [show (⟨#[0]⟩:ByteArray).data.toList=[0] from rfl,← hrs]
 have HRS:=Lh (show rs.data.toList=List.replicate z 0 by rw [hrs];simp [cS])
 have hrl:rs.size≤64:=by rw [← qm,HRS.out];simp;omega
 clear hrs
 go_wp2_with fail
 refine (bJ w.heap.size 257 l _ w2 HH2.out (by rw [ByteArray.size_append];show l.length+(1+rs.size)≤_;omega) (fun i hi=>by rw [HB2.out.cell hg];exact HK.out i hi) (Nat.lt_of_lt_of_le hg HB2.out.size) (by omega)).mono ?_
 rintro e w3 ⟨rfl,hh3,ht3⟩
 have HH3:Hid (jG w3 w.heap.size 257 (l ++ (128 :: List.replicate z 0))):=by
  have e1:(⟨#[128]⟩ ++ rs:ByteArray).data.toList=128 :: List.replicate z 0:=by
   rw [ByteArray.data_append,Array.toList_append,HRS.out];rfl
  rw [e1] at hh3;exact hh3
 have HB3:Hid (Below w.heap.size w w3):=HB2.out.trans (ht3.below HB2.out.size fun k hk e=>by omega)
 clear hh3 ht3 HB2 HH2
 obtain ⟨L,hL⟩:∃L,L=l ++ (128 :: List.replicate z 0):=⟨_,rfl⟩
 rw [← hL] at HH3
 have HL:=Lh hL
 have hLl:L.length=l.length+1+z:=by rw [hL];simp;omega
 have HLl:=Lh hLl
 have hLb:L.length≤1099511627100:=by omega
 clear hL hLl
 have hw3:w.heap.size<w3.heap.size:=by obtain ⟨_,h,_⟩:=HH3.out;exact h.lt
 go_wp2
 go_loopw [31] (fun i wr=>∃k:Nat,k≤8∧i=.int .i64 k∧Below w3.heap.size w3 wr∧wr.rowIs w3.heap.size 225 8 (fun j=>if j<k then .int .u8 (be8 (l.length * 8) j) else .int .u8 0)) (fun i _=>8 - (intOf i).toNat)
 case atStart=>exact ⟨0,by omega,rfl,(Below.refl _ _).alloc lz _,xR (by kernel_rfl)⟩
 case round =>
  obtain ⟨k,hk,rfl,hbel,hrow⟩:=hrel
  by_cases hlt:k<8
  · have c0:wr.cell? ⟨w3.heap.size,k,none⟩=some (.int .u8 0):=by rw [hrow.cell hlt,if_neg (by omega)]
    have c1:wr.frozen? ⟨w3.heap.size,k,none⟩=false:=hrow.frozen k
    have m0:(k:Int)<8:=by omega
    have HB:=Lh hbel;clear hbel
    have HW:=Lh hrow;clear hrow
    go_wp2
    go_roundw
    case rel =>
     refine ⟨k+1,by omega,by go_num,HB.out.setCell lz _,(HW.out.set k _).congr fun j hj=>?_⟩
     by_cases e:j=k
     · subst e;rw [if_pos rfl,if_pos (by omega)];unfold be8;rfl
     · rw [if_neg e];by_cases e':j<k
       · rw [if_pos e',if_pos (by omega)]
       · rw [if_neg e',if_neg (by omega)]
    case measure=>simp [intOf];omega
  · have hd:decide ((k:Int)<8)=false:=by simp;omega
    have cc:∀j,j<8→wr.cell? ⟨w3.heap.size,j,none⟩=some (.int .u8 (be8 (l.length * 8) j)):=fun j hj=>by rw [hrow.cell hj,if_pos (by omega)]
    have HB:=Lh hbel;clear hbel
    have hw4:w3.heap.size<wr.heap.size:=hrow.lt
    have HW:=Lh hrow;clear hrow hlt hk
    have HC:=Lh cc
    clear cc
    obtain ⟨w4,rfl⟩:∃w4:World,w4=wr:=⟨_,rfl⟩
    obtain ⟨k1,rfl⟩:∃k1:Nat,k1=k:=⟨_,rfl⟩
    have hl8:(yq (l.length * 8)).length=8:=by simp [yq]
    have hcv:(convert 114 9 (.slice (some ⟨w3.heap.size,0,none⟩) 8 8)).run Tryz.prog w4=.ok (.string ⟨(yq (l.length * 8)).toArray⟩) w4:=by
     have:=run_convert_bytes_back (P:=Tryz.prog) w4 114 9 5 ⟨w3.heap.size,0,none⟩ 8 (yq (l.length * 8)) Tryz.underlying114 Tryz.underlying5 Tryz.underlying9 (fun j hj=>by
      have hj':=hj
      rw [hl8] at hj
      have e:(⟨w3.heap.size,0,none⟩:Addr).add j=⟨w3.heap.size,j,none⟩:=by unfold Addr.add;split <;> simp_all
      rw [e,HC.out j hj,lO _ _ hj'])
     rwa [hl8] at this
    clear hl8
    obtain ⟨t8,ht8⟩:∃t8:ByteArray,t8={ data:=(yq (l.length * 8)).toArray }:=⟨_,rfl⟩
    rw [← ht8] at hcv
    have HT8:=Lh (show t8.data.toList=yq (l.length * 8) by rw [ht8])
    have ht8s:t8.size=8:=by rw [← qm,HT8.out];simp [yq]
    clear ht8
    have HT8s:=Lh ht8s
    clear ht8s
    go_wp2_with fail
    have HH4:Hid (jG w4 w.heap.size 257 L):=by
     obtain ⟨p',h1,h2,h3⟩:=HH3.out
     exact ⟨p',qj HB.out h1 hw3,h2,h3⟩
    have HB4:Hid (Below w.heap.size w w4):=HB3.out.trans (HB.out.mono (by omega))
    refine (bJ w.heap.size 257 L t8 w4 HH4.out (by rw [HT8s.out];omega) (fun i hi=>by rw [HB4.out.cell hg];exact HK.out i hi) (by have:=HB4.out.size;omega) (by omega)).mono ?_
    rintro e w5 ⟨rfl,hh5,ht5⟩
    have HB5:Hid (Below w.heap.size w w5):=HB4.out.trans (ht5.below (by omega) fun k hk e=>by omega)
    rw [HT8.out] at hh5
    clear hcv HC HW HB ht5 HH3 HH4 HB3 HB4
    obtain ⟨M,hM⟩:∃M,M=L ++ yq (l.length * 8):=⟨_,rfl⟩
    rw [← hM] at hh5
    have HM:=Lh (show M=yx l by
     rw [hM,HL.out];unfold yx
     have:z=(119 - l.length % 64) % 64:=by have:=HZ.out;omega
     rw [this])
    clear hM
    have HM64:=Lh (show M.length % 64=0 by rw [HM.out,bN];omega)
    obtain ⟨q,q1,q2,q3⟩:=hh5
    have HS:=Lh (fR M (M.length / 64))
    have HE:=Lh (show za l=bL (jk M (M.length / 64)) 8 by unfold za;rw [← HM.out])
    obtain ⟨S,hS⟩:∃S,S=jk M (M.length / 64):=⟨_,rfl⟩
    rw [← hS] at q1 HE HS
    clear hS q2 q3
    have hst:∀j,j<8→w5.cell? ⟨w.heap.size,1+j,none⟩=some (.int .u32 (S.at j)):=fun j hj=>by
     rw [q1.cell (by omega)];unfold xx;rw [if_neg (by omega),if_pos (by omega)];simp
    have s0:=hst 0 (by omega);have s1:=hst 1 (by omega);have s2:=hst 2 (by omega);have s3:=hst 3 (by omega)
    have s4:=hst 4 (by omega);have s5:=hst 5 (by omega);have s6:=hst 6 (by omega);have s7:=hst 7 (by omega)
    simp only [S8.at] at s0 s1 s2 s3 s4 s5 s6 s7
    have hz5:w.heap.size<w5.heap.size:=q1.lt
    have HS8:∀k,k<8→w32 (S.at k):=by
     obtain ⟨a1,a2,a3,a4,a5,a6,a7,a8⟩:=HS.out
     intro k hk
     rcases k with _|_|_|_|_|_|_|_|k <;> first|assumption|omega
    clear hst q1
    have hmk:∀w,(Instr.makeSlice 114 (.int .i64 0) (.int .i64 32)).run Tryz.prog w=.ok (.slice (some ⟨w.heap.size,0,none⟩) 0 32) (w.alloc (.cells (Array.replicate 32 (.int .u8 0)) 5)):=fun _=>by kernel_rfl
    go_wp2
    clear s0 s1 s2 s3 s4 s5 s6 s7 hmk
    obtain ⟨i0,hi,hz0,hz1,hz2⟩:=info_parts m9
    go_loopw [7,49] (fun v i wr=>∃k:Nat,k≤8∧i=.int .i64 k∧wr.ownsRow w5.heap.size 5 1 v (4 * k) (Lib.byteCells (bL S k))∧Below w5.heap.size w5 wr) (fun _ i _=>8 - (intOf i).toNat)
    case atStart=>exact ⟨0,by omega,rfl,World.ownsRow_made w5 (Array.replicate 32 (.int .u8 0)) 32 lz (by unfold maxLen;omega) rfl,(Below.refl _ _).alloc lz _⟩
    case round =>
     obtain ⟨k,hk,rfl,hown,hbel⟩:=hrel
     by_cases hlt:k<8
     · have hidx:∀w,(Instr.index 245 (.agg #[.int .u32 S.a,.int .u32 S.b,.int .u32 S.c,.int .u32 S.d,.int .u32 S.e,.int .u32 S.f,.int .u32 S.g,.int .u32 S.h]) (.int .i64 k)).run Tryz.prog w=.ok (.int .u32 (S.at k)) w:=by
        intro w
        rcases k with _|_|_|_|_|_|_|_|k
        · kernel_rfl
        · kernel_rfl
        · kernel_rfl
        · kernel_rfl
        · kernel_rfl
        · kernel_rfl
        · kernel_rfl
        · kernel_rfl
        · omega
       have hx:w32 (S.at k):=HS8 k hlt
       obtain ⟨X,hX⟩:∃X,X=S.at k:=⟨_,rfl⟩
       rw [← hX] at hidx hx
       obtain ⟨hx0,hx1⟩:=hx
       have HX:=Lh hX;clear hX
       have HO:=Lh hown;clear hown
       have HB:=Lh hbel;clear hbel
       go_wp2_with (at_builtin;refine wpList_append_own _ rfl (.tmp 52) (.tmp 64) 114 rfl w5.heap.size 5 i0 (.int .u8 0) 1 1 Tryz.underlying114 hi hz0 hz1 hz2 rfl (by decide) _ (4 * k) (Lib.byteCells (bL S k)) rfl (HO.out.alloc _) ⟨wr.heap.size,0,none⟩ 4 4 [.int .u8 (X / 16777216),.int .u8 (X / 65536 % 256),.int .u8 (X / 256 % 256),.int .u8 (X % 256)] rfl rfl ?c1 ?c2 ?c3 ?c4 ?c5 ?_)
       case c1 =>
        intro j u hj
        rcases j with _|_|_|_|j <;> simp at hj <;> subst hj <;> go_simp
       case c2=>intro u hu;simp at hu;rcases hu with rfl|rfl|rfl|rfl <;> rfl
       case c3=>unfold maxLen;omega
       case c4=>omega
       case c5=>have:=HB.out.size;simp;omega
       intro v' w6 hown' hgrow _
       have HO2:=Lh hown';clear hown'
       have HG:=Lh hgrow;clear hgrow
       go_wp2
       go_roundw
       case rel =>
        refine ⟨k+1,by omega,by go_num,?_,?_⟩
        · have e:=m8 S k X HX.out hx0 hx1
          rw [show 4 * (k+1)=4 * k+4 by omega,e];exact HO2.out
        · exact (HB.out.alloc (by have:=HB.out.size;omega) _).grown HG.out (by have:=HB.out.size;simp;omega) (fun g hg=>(HO.out.lt g hg).1)
       case measure=>simp [intOf];omega
     · obtain rfl:k=8:=by omega
       have hcv:=xt (P:=Tryz.prog) 114 9 5 Tryz.underlying114 Tryz.underlying5 Tryz.underlying9 hown
       have HF:Hid (Below w.heap.size w wr):=HB5.out.trans (hbel.mono (by omega))
       clear hown hbel hlt hk
       go_wp2
       go_ret
       exact ⟨by rw [HE.out];rfl,HF.out⟩
set_option maxHeartbeats 400000 in
theorem cA (s:ByteArray) (w:World) (hs:s.size≤1099511627000) (hi:∀i,i<8→w.cell? ⟨1,i,none⟩=some (.int .u32 (vW.at i)))
 (hk:∀i,i<64→w.cell? ⟨3,i,none⟩=some (.int .u32 (kay i))) (hg:3<w.heap.size) :
 Calls Tryz.prog 172 #[.string s] w fun e w'=>e=.returned (.string ⟨(za s.data.toList).toArray⟩)∧Below w.heap.size w w':=by
 have HI:=Lh hi;clear hi
 have HK:=Lh hk;clear hk
 go_enter Tryz.func172,Tryz.ntmps172
 go_wp2_with fail
 refine (aD w HI.out).mono ?_
 rintro e w1 ⟨rfl,h1,h2⟩
 have H1:=Lh h1;clear h1
 have H2:=Lh h2;clear h2
 go_wp2_with fail
 have hz1:w.heap.size<w1.heap.size:=by obtain ⟨_,h,_⟩:=H1.out;exact h.lt
 refine (bJ w.heap.size 257 [] s w1 H1.out (by simp;omega) (fun i hi=>by rw [H2.out.cell hg];exact HK.out i hi) (by omega) (by omega)).mono ?_
 rintro e w2 ⟨rfl,h3,h4⟩
 have H3:=Lh h3;clear h3
 have H4:Hid (Below w.heap.size w w2):=H2.out.trans (h4.below (by omega) fun k hk e=>by omega)
 clear h4
 go_wp2_with fail
 refine (cz w.heap.size 257 _ w2 H3.out (by simp;omega) (fun i hi=>by rw [H4.out.cell hg];exact HK.out i hi) (by have:=H4.out.size;omega)).mono ?_
 rintro e w3 ⟨rfl,h5⟩
 have H5:=Lh h5;clear h5
 go_wp2
 go_ret
 exact ⟨rfl,H4.out.trans (H5.out.mono H4.out.size)⟩
theorem uJ (s:ByteArray) (k:Nat) (h:k<s.size) (c:Nat) (hc:c=s[k].toNat) :
 Lib.byteCells (xf (s.data.toList.take (k+1)))=Lib.byteCells (xf (s.data.toList.take k)) ++ [.int .u8 (q6 (c / 16)).toNat,.int .u8 (q6 (c % 16)).toNat]:=by
 subst hc;rw [wI s k h,bI];simp [xf,Lib.byteCells]
set_option maxRecDepth 100000 in
set_option maxHeartbeats 400000 in
theorem dI (s:ByteArray) (w:World) (hs:s.size≤1099511627776) (hd:∀i,i<16→w.cell? ⟨2,i,none⟩=some (.int .u8 (q6 i).toNat)) (hg:2<w.heap.size) :
 Calls Tryz.prog 235 #[.string s] w fun e w'=>e=.returned (.string ⟨(xf s.data.toList).toArray⟩)∧Below w.heap.size w w':=by
 have HD:=Lh hd;clear hd
 obtain ⟨i0,hi,hz0,hz1,hz2⟩:=info_parts m9
 go_enter Tryz.func235,Tryz.ntmps235
 go_wp2_with (at_make;refine wpList_make_own _ rfl (.const (.int .i64 0)) (.tmp 7) 114 rfl w.heap.size 5 i0 (.int .u8 0) 1 Tryz.underlying114 hi hz0 hz1 .i64 .i64 _ (2 * s.size) rfl rfl ?hC ?b2 ?b3 lz ?_)
 case hC=>push_cast;rfl
 case b2=>rw [hz2];omega
 case b3=>unfold maxLen;omega
 intro w1 hown hgrow
 have HB1:Hid (Below w.heap.size w w1):=(Below.refl _ _).grown hgrow lz (by simp)
 have HO1:=Lh hown
 clear hown hgrow
 go_wp2
 go_loopw [3,4] (fun v i wr=>∃k:Nat,k≤s.size∧i=.int .i64 k∧wr.ownsRow w.heap.size 5 1 v (2 * k) (Lib.byteCells (xf (s.data.toList.take k)))∧Below w.heap.size w wr) (fun _ i _=>s.size - (intOf i).toNat)
 case atStart=>exact ⟨0,by omega,rfl,by simpa [xf,Lib.byteCells] using HO1.out,HB1.out⟩
 case round =>
  clear HO1 HB1
  obtain ⟨k,hk,rfl,hown,hbel⟩:=hrel
  by_cases hlt:k<s.size
  · have hlt0:=hlt
    have hc:s[k].toNat<256:=s[k].toNat_lt
    have d1:wr.cell? ⟨2,s[k].toNat / 16,none⟩=some (.int .u8 (q6 (s[k].toNat / 16)).toNat):=by rw [hbel.cell hg];exact HD.out _ (by omega)
    have d2:wr.cell? ⟨2,s[k].toNat % 16,none⟩=some (.int .u8 (q6 (s[k].toNat % 16)).toNat):=by rw [hbel.cell hg];exact HD.out _ (by omega)
    have m0:(k:Int)<(s.size:Int):=by omega
    have hnb:u3.ownBlock≠some 2:=fun e=>by have:=(hown.lt _ e).1;omega
    have hz:2<wr.heap.size:=by have:=hbel.size;omega
    have HO:=Lh hown;clear hown
    have HB:=Lh hbel;clear hbel
    have a1:bits BinOp.and IntKind.u8 (s[k].toNat:Int) 15=(s[k].toNat:Int) % 16:=by
     rw [u8_and _ _ (by omega) (by omega) (by omega) (by omega)];show ((s[k].toNat &&& 15:Nat):Int)=_;rw [nat_mask4];omega
    obtain ⟨c,hcc⟩:∃c,c=s[k].toNat:=⟨_,rfl⟩
    rw [← hcc] at a1 hc d1 d2
    have b1:(0:Int)≤(c:Int) / 16:=by omega
    have b2:(c:Int) / 16<16:=by omega
    have b3:((c:Int) / 16).toNat=c / 16:=by omega
    have b4:(0:Int)≤(c:Int) % 16:=by omega
    have b5:(c:Int) % 16<16:=by omega
    have b6:((c:Int) % 16).toNat=c % 16:=by omega
    have hcc':(s[k].toNat:Int)=(c:Int):=by rw [hcc]
    have H1:=Lh hcc;clear hcc
    go_wp2_with fail
    go_region_held3 (fun w'=>w'.cell? ⟨2,c / 16,none⟩=some (.int .u8 (q6 (c / 16)).toNat)∧w'.cell? ⟨2,c % 16,none⟩=some (.int .u8 (q6 (c % 16)).toNat)) (first|go_keep|(go_split_ands;refine ⟨?_,?_⟩ <;> (rw [hgrow.cell_far _ (by simp <;> omega) (Ne.symm hnb)];assumption))) ((refine step_append_lies _ (by rfl) _ _ _ (by rfl) w.heap.size 5 i0 _ 1 1 Tryz.underlying114 hi hz0 hz1 hz2 rfl (by omega) _ (2 * k) _ (by rfl) ((HO.out.alloc _).drew) ⟨wr.heap.size,0,none⟩ 2 2 [.int .u8 (q6 (c / 16)).toNat,.int .u8 (q6 (c % 16)).toNat] (by rfl) (by rfl) (World.news_of_block (cs:=#[.int .u8 (q6 (c / 16)).toNat,.int .u8 (q6 (c % 16)).toNat]) (t:=5) (fr:=(0,0)) (heap_alloc_new wr _)) (by simp [Value.oneCell']) (by omega) (by unfold maxLen;omega) (by omega) (by have:=HB.out.size;simp;omega) (wr.heap.size+1) (by simp) ?_;intro gg cap w1 hown1 hgrow hat hlt))
    all_goals
     have HO1:=Lh hown1
     have HG:=Lh hgrow
     clear hown1 hgrow hat d1 d2
     go_wp2
     go_roundw
     case rel =>
      refine ⟨k+1,by omega,by go_num,?_,?_⟩
      · rw [show 2 * (k+1)=2 * k+2 by omega,uJ s k hlt0 c H1.out];exact HO1.out
      · exact ((HB.out.alloc (by have:=HB.out.size;omega) _).drew).grown HG.out (by have:=HB.out.size;simp;omega) (fun g hg=>(HO.out.lt g hg).1)
     case measure=>simp [intOf];omega
  · have hcv:=xt (P:=Tryz.prog) 114 9 5 Tryz.underlying114 Tryz.underlying5 Tryz.underlying9 hown
    rw [List.take_of_length_le (by rw [qm];omega)] at hcv
    have HB:=Lh hbel
    clear hown hbel
    go_wp2
    go_ret
    exact ⟨rfl,HB.out⟩
set_option maxHeartbeats 400000 in
theorem dO (s:ByteArray) (w:World) (hs:s.size≤1099511627000) (hi:∀i,i<8→w.cell? ⟨1,i,none⟩=some (.int .u32 (vW.at i)))
 (hk:∀i,i<64→w.cell? ⟨3,i,none⟩=some (.int .u32 (kay i))) (hd:∀i,i<16→w.cell? ⟨2,i,none⟩=some (.int .u8 (q6 i).toNat)) (hg:3<w.heap.size) (hg':2<w.heap.size) :
 Calls Tryz.prog 181 #[.string s] w fun e w'=>e=.returned (.string ⟨(kW s.data.toList).toArray⟩)∧Below w.heap.size w w':=by
 have HI:=Lh hi;clear hi
 have HK:=Lh hk;clear hk
 have HD:=Lh hd;clear hd
 go_enter Tryz.func181,Tryz.ntmps181
 go_wp2_with fail
 refine (cA s w hs HI.out HK.out hg).mono ?_
 rintro e w1 ⟨rfl,h1⟩
 have H1:=Lh h1;clear h1
 go_wp2_with fail
 refine (dI _ w1 (by show (za s.data.toList).toArray.size≤_;rw [List.size_toArray,xM];omega) (fun i hi=>by rw [H1.out.cell hg'];exact HD.out i hi) (by have:=H1.out.size;omega)).mono ?_
 rintro e w2 ⟨rfl,h2⟩
 have H2:=Lh h2;clear h2
 go_wp2
 go_ret
 exact ⟨rfl,H1.out.trans (H2.out.mono H1.out.size)⟩
structure Tabs (w:World):Prop where
 init:∀i,i<8→w.cell? ⟨1,i,none⟩=some (.int .u32 (vW.at i))
 rounds:∀i,i<64→w.cell? ⟨3,i,none⟩=some (.int .u32 (kay i))
 digits:∀i,i<16→w.cell? ⟨2,i,none⟩=some (.int .u8 (q6 i).toNat)
 l1:1<w.heap.size
 l2:3<w.heap.size
 l3:2<w.heap.size
theorem Tabs.below {w w':World} (h:Tabs w) (hb:Below w.heap.size w w'):Tabs w' where
 init i hi:=by rw [hb.cell h.l1];exact h.init i hi
 rounds i hi:=by rw [hb.cell h.l2];exact h.rounds i hi
 digits i hi:=by rw [hb.cell h.l3];exact h.digits i hi
 l1:=Nat.lt_of_lt_of_le h.l1 hb.size
 l2:=Nat.lt_of_lt_of_le h.l2 hb.size
 l3:=Nat.lt_of_lt_of_le h.l3 hb.size
theorem ny (s:ByteArray) (w:World) (hs:s.size≤1099511627000) (hT:Tabs w) :
 Calls Tryz.prog 181 #[.string s] w fun e w'=>e=.returned (.string ⟨(kW s.data.toList).toArray⟩)∧Below w.heap.size w w' :=
 dO s w hs hT.init hT.rounds hT.digits hT.l2 hT.l3
def jf (s t:ByteArray) (w:World) (e:Ending) (w':World):Prop :=
 e=.returned (.tuple #[.string ⟨(jX s.data.toList t.data.toList).toArray⟩,.int .i64 (if ze s.data.toList t.data.toList then 0 else 3)])∧Below w.heap.size w w'
set_option maxHeartbeats 400000 in
set_option maxRecDepth 100000 in
theorem cT (s t:ByteArray) (w:World) (hs:s.size≤4294967) (ht:t.size≤4294967) (hT:Tabs w) :
 Calls Tryz.prog 118 #[.agg #[.string s,.string t]] w (jf s t w):=by
 have HT:=Lh hT
 clear hT
 have HB0:=Lh (show Below w.heap.size w (w.alloc (.cells #[.string s,.string t] 43)) from (Below.refl _ _).alloc lz _)
 unfold jf jX
 cases hk:ze s.data.toList t.data.toList
 · have HV:=Lh (uf s t (w.alloc (.cells #[.string s,.string t] 43)) (by omega) (by omega) hk)
   clear hk
   go_enter Tryz.func118,Tryz.ntmps118
   go_wp2_with fail
   refine HV.out.mono ?_
   rintro e w1 ⟨rfl,hb1⟩
   have HB1:=Lh (HB0.out.trans (hb1.mono (by simp)))
   clear hb1
   unfold zeroAgg
   go_wp2
   go_ret2
   exact ⟨rfl,HB1.out.alloc HB1.out.size _⟩
 · have HV:=Lh (wG s t (w.alloc (.cells #[.string s,.string t] 43)) (by omega) (by omega) hk)
   have HM:=Lh (g9 hk)
   have HF:=Lh (dF hk)
   have HE:=Lh (rV hk)
   have HW:=Lh (sm hs ht)
   clear hk
   go_enter Tryz.func118,Tryz.ntmps118
   go_wp2_with fail
   refine HV.out.mono ?_
   rintro e w1 ⟨an,cn,ai,ci,rfl,hr1,hb1⟩
   have HB1:=Lh (HB0.out.trans (hb1.mono (by simp)))
   have HR1:=Lh hr1
   clear hb1 hr1
   have HC:=Lh (uZ false (jx s t) _ (w1.alloc (.cells #[.int .u8 5,.int .i64 0,.string ⟨#[]⟩,.slice an 2 cn,.slice ai 2 ci] 25)) HW.out (HR1.out.below ((Below.refl _ _).alloc lz _) lz (Nat.zero_le _) (by simp)) (fun _=>HF.out) (fun h=>by cases h))
   unfold pU at HC
   rw [HM.out,HE.out] at HC
   go_wp2_with fail
   refine HC.out.mono ?_
   clear HC
   rintro e w2 ⟨rfl,hb2⟩
   have HB2:=Lh ((HB1.out.alloc HB1.out.size _).trans (hb2.mono (by have:=HB1.out.size;simp;omega)))
   clear hb2
   go_wp2_with fail
   refine (ny _ w2 ?_ (HT.out.below HB2.out)).mono ?_
   · show (jD s.data.toList t.data.toList).toArray.size≤_
     rw [List.size_toArray,uw,qm,qm];omega
   rintro e w3 ⟨rfl,hb3⟩
   have HB3:=Lh (HB2.out.trans (hb3.mono HB2.out.size))
   clear hb3
   go_wp2
   go_ret2
   exact ⟨rfl,HB3.out⟩
end Go.Proofs.YthgembbgcbaghaaGreatDoor

namespace Go.Proofs.YthgembbgcbaghaaGreatDoor
open Go.ChangeShapes Go.WideShapes Go.ChangeAt Go.RowKit Go.Joins Go.ChangeMaps
theorem own:ownKnob Tryz.prog.godebug=none:=by kernel_rfl
theorem tG : Tryz.prog.globalNamed "legate/hex.digits" = some 2 := by kernel_rfl
theorem tB : Tryz.prog.globalNamed "legate/sha.initial" = some 1 := by kernel_rfl
theorem tP : Tryz.prog.globalNamed "legate/sha.rounds" = some 3 := by kernel_rfl
theorem tF:(Tryz.prog.globals[2]?).map (·.type)=some 261:=by kernel_rfl
theorem tH:(Tryz.prog.globals[1]?).map (·.type)=some 245:=by kernel_rfl
theorem tU:(Tryz.prog.globals[3]?).map (·.type)=some 263:=by kernel_rfl
theorem ng:Tryz.prog.cellsOf 261=16:=by kernel_rfl
theorem nf:Tryz.prog.cellsOf 245=8:=by kernel_rfl
theorem nh:Tryz.prog.cellsOf 263=64:=by kernel_rfl
theorem cells5:Tryz.prog.cellsOf 5=1:=by kernel_rfl
theorem cI:Tryz.prog.cellsOf 131=1:=by kernel_rfl
theorem dE:Tryz.prog.cellsOf 33=4:=by kernel_rfl
theorem bY:Tryz.prog.cellsOf 41=6:=by kernel_rfl
theorem yO:Tryz.prog.cellsOf 35=6:=by kernel_rfl
theorem d8:Tryz.prog.cellsOf 31=2:=by kernel_rfl
def hexZs:List Int:=[48,49,50,51,52,53,54,55,56,57,97,98,99,100,101,102]
def iniZs:List Int:=[1779033703,3144134277,1013904242,2773480762,1359893119,2600822924,528734635,1541459225]
abbrev laidAll : List (String × DataW Unit) := [("legate/hex.digits", Rows.laid_legate_hex_digits), ("math/bits.deBruijn32tab", Rows.laid_math_bits_deBruijn32tab), ("math/bits.deBruijn64tab", Rows.laid_math_bits_deBruijn64tab), ("internal/strconv.uint64pow10", Rows.laid_internal_strconv_uint64pow10), ("legate/sha.initial", Rows.laid_legate_sha_initial), ("legate/sha.rounds", Rows.laid_legate_sha_rounds)]
theorem kr {P:Program} {W:World} {x:String × DataW Unit} {r:List (String × DataW Unit)} (h:laidMet P (x :: r) W):laidMet P r W:=by
 obtain ⟨ps,⟨g,t,cs,fuel,p,q,h1,h2,h3,h4,h5,rfl⟩,hn,ha⟩:=h
 exact ⟨q,h5,(List.nodup_append.1 hn).2.1,fun b off hp=>ha b off (List.mem_append.2 (.inr hp))⟩
theorem sP {W:World} (h:laidMet Tryz.prog laidAll W):Tabs W:=by
 have h1 : Lib.TabIs Tryz.prog W "legate/hex.digits" .u8 hexZs := Lib.tabIs_of_head tG tF Tryz.underlying261 Tryz.underlying5 cells5 ng h
 have h5:=kr (kr (kr (kr h)))
 have h2 : Lib.TabIs Tryz.prog W "legate/sha.initial" .u32 iniZs := Lib.tabIs_of_head tB tH Tryz.underlying245 Tryz.underlying131 cI nf h5
 have h3 : Lib.TabIs Tryz.prog W "legate/sha.rounds" .u32 kays := Lib.tabIs_of_head tP tU Tryz.underlying263 Tryz.underlying131 cI nh (kr h5)
 have c1:∀i,i<16→W.cell? ⟨2,i,none⟩=some (.int .u8 (q6 i).toNat):=fun i hi=>by
  rw [h1.cell tG i hi]
  have:∀m:Fin 16,hexZs.getD m.val 0=((q6 m.val).toNat:Int):=by decide
  rw [this ⟨i,hi⟩]
 have c2:∀i,i<8→W.cell? ⟨1,i,none⟩=some (.int .u32 (vW.at i)):=fun i hi=>by
  rw [h2.cell tB i hi]
  have:∀m:Fin 8,iniZs.getD m.val 0=vW.at m.val:=by decide
  rw [this ⟨i,hi⟩]
 have c3:∀i,i<64→W.cell? ⟨3,i,none⟩=some (.int .u32 (kay i)):=fun i hi=>h3.cell tP i (show i<kays.length by exact hi)
 exact ⟨c2,c3,c1,World.block_lt_of_cell? W _ (c2 0 (by decide)),World.block_lt_of_cell? W _ (c3 0 (by decide)),World.block_lt_of_cell? W _ (c1 0 (by decide))⟩
def nu:DataW Unit→Array Value
 | .agg l=>(l.map fun
  | .lit (.int k n)=>Value.int k n
  | .lit (.string s)=>Value.string ⟨s.toArray⟩
  | _=>undef).toArray
 | _=>#[]
def lay (g:Nat) (d:DataW Unit) (h:Array Obj):Array Obj:=h.modify g fun
 | .cells _ t frozen=>.cells (nu d) t frozen
 | o=>o
noncomputable def laidWorld (os:Os):World :=
 { World.holding Tryz.prog os ⟨#[],#[],[]⟩ with heap:=lay 3 Rows.laid_legate_sha_rounds (lay 1 Rows.laid_legate_sha_initial (lay 4 Rows.laid_internal_strconv_uint64pow10 (lay 6 Rows.laid_math_bits_deBruijn64tab (lay 5 Rows.laid_math_bits_deBruijn32tab (lay 2 Rows.laid_legate_hex_digits (World.holding Tryz.prog os ⟨#[],#[],[]⟩).heap))))) }
theorem cx {H:Type} {enc:TypeId × Value→H} {P:Program} {f:Func} {s:ChangeSpec} {a1 a2 a3 a4:Bool} {W W':World} {args:Array Value} {v:Value} {ds gs:List (DataW H)} {before pa pv:List MemPlace}
 (hW:DataW.Whole enc P f.params.toList s.vars a1 W args.toList ds gs before)
 (hr:∀(b:Nat) (sp:Nat→Bool) (hd:Bool),DataW.TrodAll enc P W' b sp hd f.resultTypes.toList (v.resultList f.resultTypes.size) (s.fn H (ds ++ gs)).results [])
 (ha:∀sp:Nat→Bool,(∀p ∈ before,sp p.block=true)→DataW.TrodAll enc P W' 0 sp true f.params.toList args.toList (s.fn H (ds ++ gs)).args pa)
 (hv:∀sp:Nat→Bool,(∀p ∈ before,sp p.block=true)→DataW.TrodVars enc P W' sp s.vars (s.fn H (ds ++ gs)).vars pv)
 (he:before=pa ++ pv) (hb:Below W.heap.size W W')
 (hok:∀(j:Nat) (t:TypeId) (r:Value),f.resultTypes[j]?=some t→(v.resultList f.resultTypes.size)[j]?=some r→Value.okWide P W' .any 0 t r) :
 s.post enc P f a1 a2 a3 a4 W args v W':=by
 have hlt:=hW.lt
 have hold:∀p ∈ before,(fun b=>decide (b<W.heap.size)) p.block=true:=fun p hp=>decide_eq_true (hlt p hp)
 refine ⟨ds,gs,before,[],pa,pv,hW,hr _ _ _,ha _ hold,hv _ hold,World.keptBut_mono (fun p hp=>⟨hp,.inr ?_⟩) (hb.frame (· ∈ before)),fun _=>?_⟩
 · rw [he] at hp;exact List.mem_append.1 hp
 obtain ⟨_,_,_,_,_,hz,hn⟩:=hW
 refine ⟨hok,_,_,([] ++ pa) ++ pv,⟨[] ++ pa,pv,trodAll_append (ha _ fun _ _=>rfl) (hr _ _ _),hv _ fun _ _=>rfl,rfl,fun b off hp=>?_,fun h1=>?_⟩,fun p hp _=>?_⟩
 · have hin:MemPlace.cell b off ∈ before:=by rw [he];exact hp
   rw [hb.frozen (hlt _ hin)];exact hz b off hin
 · have:=hn h1;rwa [he] at this
 · rw [he];exact hp
theorem laidOut:laidOutB Tryz.prog=true:=by kernel_rfl
theorem vL {H:Type} {enc:TypeId × Value→H} {W W':World} {sp:Nat→Bool} (hb:Below W.heap.size W W'):∀(ts:List TypeId) (vs:List Value) (ds:List (DataW H)) (ps:List MemPlace),
 (∀t ∈ ts,Tryz.prog.readableRec t=true∧t<Tryz.prog.types.size)→DataW.TrodAll enc Tryz.prog W 0 (fun _=>true) true ts vs ds ps→(∀x ∈ ps,x.block<W.heap.size)→(∀x ∈ ps,sp x.block=true)→DataW.TrodAll enc Tryz.prog W' 0 sp true ts vs ds ps
 | [],vs,ds,ps,_,h,_,_=>by
  cases vs <;> cases ds <;> simp [DataW.TrodAll] at h
  subst h;simp [DataW.TrodAll]
 | t :: ts,vs,ds,ps,ht,h,hlt,hs=>by
  obtain ⟨v,vs',d,ds',p,q,rfl,rfl,rfl,hd,hr⟩:=trodAll_cons h
  obtain ⟨h1,h2⟩:=ht t (by simp)
  have e1:=WideElems.Trod_stays (sp':=sp) laidOut h1 h2 hd (fun x hx=>hb.same (hlt x (List.mem_append.2 (.inl hx)))) (fun x hx=>hs x (List.mem_append.2 (.inl hx)))
  have e2:=vL hb ts vs' ds' q (fun t' h'=>ht t' (List.mem_cons.2 (.inr h'))) hr (fun x hx=>hlt x (List.mem_append.2 (.inr hx))) (fun x hx=>hs x (List.mem_append.2 (.inr hx)))
  exact ⟨p,q,e1,e2,rfl⟩
theorem nc {n:Int} (h:(Lit.int .i64 n).wf=true):-9223372036854775808≤n∧n≤9223372036854775807:=by
 unfold Lit.wf at h
 rw [Bool.and_eq_true,decide_eq_true_eq,decide_eq_true_eq] at h
 exact h
section
variable {H:Type} {enc:TypeId × Value→H} {W:World} {base:Nat}
set_option maxRecDepth 100000 in
theorem sH {v:Value} {d:DataW H} {p:List MemPlace} (hv:Value.okWide Tryz.prog W .any base 9 v) (h:DataW.Trod enc Tryz.prog W 0 (fun _=>true) true 9 v d p) :
 ∃s:ByteArray,v=.string s:=by
 obtain ⟨s,rfl,_⟩:=open_string Tryz.underlying9 hv h
 exact ⟨s,rfl⟩
set_option maxRecDepth 100000 in
theorem pM {fuel:Nat} {spare:Nat→Bool} {held:Bool} {cs:List Value} {x:DataW H × List MemPlace} (h:DataW.trod enc Tryz.prog W 0 spare held fuel 31 cs=some x) :
 ∃(t:Int) (a:Option Addr) (cap:Nat) (l:List ByteArray),cs=[.int .i64 t,.slice a l.length cap]∧(-9223372036854775808≤t∧t≤9223372036854775807)∧l.length≤cap∧l.length≤9223372036854775807∧qw W 0 W.heap.size a l:=by
 obtain ⟨c0,c1,y0,y1,n,rfl,h0,h1⟩:=fL Tryz.underlying31 (by kernel_rfl) d8 h
 obtain ⟨t,e0,_,w0⟩:=DataW.trod_int Tryz.underlying3 h0
 obtain ⟨ia,ic,ids,e1,hc,hm,_,hS⟩:=vT Tryz.underlying22 Tryz.underlying9 wE h1
 simp only [List.cons.injEq,and_true] at e0
 subst e0 e1
 exact ⟨t,ia,ic,ids,rfl,nc w0,hc,by unfold maxLen at hm;omega,hS⟩
structure DelegGot (W:World) (x:DelegV) (ia pa qa:Option Addr) (ic pc qc:Nat):Prop where
 thr:-9223372036854775808≤x.au.thr∧x.au.thr≤9223372036854775807
 name:x.name.size≤9223372036854775807
 li:x.au.ids.length≤9223372036854775807
 lp:x.paths.length≤9223372036854775807
 lq:x.pres.length≤9223372036854775807
 ci:x.au.ids.length≤ic
 cp:x.paths.length≤pc
 cq:x.pres.length≤qc
 rows:DelegIn W 0 W.heap.size x ia pa qa
def kF (x:DelegV) (ia pa qa:Option Addr) (ic pc qc:Nat):List Value:=[.string x.name,.int .i64 x.au.thr,.slice ia x.au.ids.length ic,.bool x.term,.slice pa x.paths.length pc,.slice qa x.pres.length qc]
set_option maxRecDepth 100000 in
theorem cj {fuel:Nat} {spare:Nat→Bool} {held:Bool} {cs:List Value} {x:DataW H × List MemPlace} (h:DataW.trod enc Tryz.prog W 0 spare held fuel 41 cs=some x) :
 ∃(x:DelegV) (ia pa qa:Option Addr) (ic pc qc:Nat),cs=kF x ia pa qa ic pc qc∧DelegGot W x ia pa qa ic pc qc:=by
 obtain ⟨xs,n,_,rfl,hl,hlen,hf⟩:=DataW.trod_struct Tryz.underlying41 h
 rw [bY] at hl
 match xs,hlen,cs,hl with
 | [y0,y1,y2,y3,y4],_,[c0,c1,c2,c3,c4,c5],_ =>
  have g0:DataW.trod enc Tryz.prog W 0 spare held n 9 [c0]=some y0:=hf 0 _ rfl
  have g1:DataW.trod enc Tryz.prog W 0 spare held n 31 [c1,c2]=some y1:=hf 1 _ rfl
  have g2:DataW.trod enc Tryz.prog W 0 spare held n 4 [c3]=some y2:=hf 2 _ rfl
  have g3:DataW.trod enc Tryz.prog W 0 spare held n 22 [c4]=some y3:=hf 3 _ rfl
  have g4:DataW.trod enc Tryz.prog W 0 spare held n 22 [c5]=some y4:=hf 4 _ rfl
  obtain ⟨nm,e0,_,w0⟩:=DataW.trod_string Tryz.underlying9 g0
  obtain ⟨t,ia,ic,ids,e1,a1,b1,b2,s1⟩:=pM g1
  obtain ⟨tm,e2,_⟩:=DataW.trod_bool Tryz.underlying4 g2
  obtain ⟨pa,pc,ps,e3,hpc,hpm,_,sp⟩:=vT Tryz.underlying22 Tryz.underlying9 wE g3
  obtain ⟨qa,qc,qs,e4,hqc,hqm,_,sq⟩:=vT Tryz.underlying22 Tryz.underlying9 wE g4
  simp only [List.cons.injEq,and_true] at e0 e1 e2
  obtain ⟨rfl,rfl⟩:=e1
  subst e0 e2 e3 e4
  exact ⟨⟨nm,⟨t,ids⟩,tm,ps,qs⟩,ia,pa,qa,ic,pc,qc,rfl,⟨a1,by unfold maxLen at w0;omega,b2,by unfold maxLen at hpm;omega,by unfold maxLen at hqm;omega,b1,hpc,hqc,⟨s1,sp,sq⟩⟩⟩
theorem cv {fuel:Nat} {spare:Nat→Bool} {held:Bool} {c:Value} {x:DataW H × List MemPlace} (h:DataW.trod enc Tryz.prog W 0 spare held fuel 29 [c]=some x) :
 ∃(a:Option Addr) (cap:Nat) (l:List DelegV),c=.slice a l.length cap∧l.length≤cap∧l.length≤9223372036854775807∧qE W 0 W.heap.size a l∧∀x ∈ l,(-9223372036854775808≤x.au.thr∧x.au.thr≤9223372036854775807)∧x.name.size≤9223372036854775807∧x.au.ids.length≤9223372036854775807∧x.paths.length≤9223372036854775807∧x.pres.length≤9223372036854775807:=by
 rcases DataW.trod_slice Tryz.underlying29 h with ⟨e4,_⟩|⟨a,len,cap,elems,rest,n',hn',e4,hy,_,hl,hcm,hlen,hel,_,_⟩
 · simp at e4;subst e4
   exact ⟨none,0,[],rfl,Nat.le_refl _,by simp,.inl rfl,by simp⟩
 · simp at e4;subst e4
   rw [bY] at hel
   have each:∀i,i<len→∃k:DelegV,∃(ia pa qa:Option Addr) (ic pc qc:Nat),(∀j (hj:j<6),W.cell? ((a.add (i * 6)).add j)=some ((kF k ia pa qa ic pc qc)[j]'hj))∧DelegGot W k ia pa qa ic pc qc:=by
    intro i hi
    have:=hel i hi
    rw [List.getElem?_eq_getElem (by omega)] at this
    obtain ⟨cs',g1,g2⟩:=Option.bind_eq_some_iff.1 this
    obtain ⟨_,gl,gc⟩:=World.cells?_some g1
    obtain ⟨k,ia,pa,qa,ic,pc,qc,rfl,hg⟩:=cj g2
    exact ⟨k,ia,pa,qa,ic,pc,qc,fun j hj=>(gc j hj).trans (List.getElem?_eq_getElem (l:=kF k ia pa qa ic pc qc) hj),hg⟩
   obtain ⟨l,hll,hls⟩:=kT len each
   refine ⟨some a,cap,l,by rw [hll],by omega,by unfold maxLen at hcm;omega,?_,fun x hx=>?_⟩
   · by_cases h0:len=0
     · exact .inl (List.eq_nil_of_length_eq_zero (by omega))
     · obtain ⟨ia,pa,qa,ic,pc,qc,q0,_⟩:=hls 0 (by omega)
       have q0:=q0 0 (by omega)
       rw [Nat.zero_mul,show (a.add 0).add 0=a by simp [Addr.add]] at q0
       have ea:=vA q0
       refine .inr ⟨a.block,a.off,by rw [← ea],Nat.zero_le _,World.block_lt_of_cell? W _ q0,fun i hi=>?_⟩
       obtain ⟨ia,pa,qa,ic,pc,qc,q,hg⟩:=hls i hi
       have cc:∀j (hj:j<6),W.cell? ⟨a.block,a.off+i * 6+j,none⟩=some ((kF l[i] ia pa qa ic pc qc)[j]'hj):=fun j hj=>by
        have:=q j hj
        rw [ea,wm,wm] at this
        exact this
       exact ⟨ia,ic,pa,pc,qa,qc,cc 0 (by omega),cc 1 (by omega),cc 2 (by omega),cc 3 (by omega),cc 4 (by omega),cc 5 (by omega),hg.ci,hg.cp,hg.cq,hg.rows⟩
   · obtain ⟨i,hi,rfl⟩:=List.getElem_of_mem hx
     obtain ⟨ia,pa,qa,ic,pc,qc,_,hg⟩:=hls i hi
     exact ⟨hg.thr,hg.name,hg.li,hg.lp,hg.lq⟩
set_option maxRecDepth 100000 in
theorem d9 {fuel:Nat} {spare:Nat→Bool} {held:Bool} {cs:List Value} {x:DataW H × List MemPlace} (h:DataW.trod enc Tryz.prog W 0 spare held fuel 33 cs=some x) :
 ∃(t:Int) (a:Option Addr) (cap:Nat) (l:List ByteArray) (bits:Int) (pre:ByteArray),cs=[.int .i64 t,.slice a l.length cap,.int .i64 bits,.string pre]∧(-9223372036854775808≤t∧t≤9223372036854775807)∧(-9223372036854775808≤bits∧bits≤9223372036854775807)∧pre.size≤9223372036854775807∧l.length≤cap∧l.length≤9223372036854775807∧qw W 0 W.heap.size a l:=by
 obtain ⟨xs,n,_,rfl,hl,hlen,hf⟩:=DataW.trod_struct Tryz.underlying33 h
 rw [dE] at hl
 match xs,hlen,cs,hl with
 | [y0,y1,y2],_,[c0,c1,c2,c3],_ =>
  have g0:DataW.trod enc Tryz.prog W 0 spare held n 31 [c0,c1]=some y0:=hf 0 _ rfl
  have g1:DataW.trod enc Tryz.prog W 0 spare held n 3 [c2]=some y1:=hf 1 _ rfl
  have g2:DataW.trod enc Tryz.prog W 0 spare held n 9 [c3]=some y2:=hf 2 _ rfl
  obtain ⟨t,ia,ic,ids,e1,a1,b1,b2,s1⟩:=pM g0
  obtain ⟨bits,e2,_,w2⟩:=DataW.trod_int Tryz.underlying3 g1
  obtain ⟨pre,e3,_,w3⟩:=DataW.trod_string Tryz.underlying9 g2
  simp only [List.cons.injEq,and_true] at e1 e2 e3
  obtain ⟨rfl,rfl⟩:=e1
  subst e2 e3
  exact ⟨t,ia,ic,ids,bits,pre,rfl,a1,nc w2,by unfold maxLen at w3;omega,b1,b2,s1⟩
structure DelegsGot (W:World) (d:DelegsV) (ka ra ba:Option Addr) (kc rc bc:Nat):Prop where
 ck:d.keys.length≤kc
 cr:d.roles.length≤rc
 cb:d.bins.au.ids.length≤bc
 lk:d.keys.length≤9223372036854775807
 lr:d.roles.length≤9223372036854775807
 lb:d.bins.au.ids.length≤9223372036854775807
 thr:-9223372036854775808≤d.bins.au.thr∧d.bins.au.thr≤9223372036854775807
 bits:-9223372036854775808≤d.bins.bits∧d.bins.bits≤9223372036854775807
 pre:d.bins.pre.size≤9223372036854775807
 each:∀x ∈ d.roles,(-9223372036854775808≤x.au.thr∧x.au.thr≤9223372036854775807)∧x.name.size≤9223372036854775807∧x.au.ids.length≤9223372036854775807∧x.paths.length≤9223372036854775807∧x.pres.length≤9223372036854775807
 rows:DelegsIn W 0 W.heap.size d ka ra ba
set_option maxRecDepth 100000 in
theorem cy {x:Value} {d:DataW H} {p:List MemPlace} (hv:Value.okWide Tryz.prog W .any base 35 x) (h:DataW.Trod enc Tryz.prog W 0 (fun _=>true) true 35 x d p) :
 ∃(l:List Key2) (rs:List DelegV) (t bits:Int) (ids:List ByteArray) (pre:ByteArray) (ka ra ba:Option Addr) (kc rc bc:Nat),x=.agg #[.slice ka l.length kc,.slice ra rs.length rc,.int .i64 t,.slice ba ids.length bc,.int .i64 bits,.string pre]∧DelegsGot W ⟨l,rs,⟨bits,pre,⟨t,ids⟩⟩⟩ ka ra ba kc rc bc:=by
 obtain ⟨cs,rfl,hsz⟩:=okWide_struct Tryz.underlying35 hv
 rw [yO] at hsz
 obtain ⟨cs⟩:=cs
 obtain ⟨fuel,hf⟩:=h
 obtain ⟨xs,n,_,_,hl,hlen,hf⟩:=DataW.trod_struct Tryz.underlying35 hf
 rw [yO] at hl
 obtain ⟨x0,x1,x2,x3,x4,x5,rfl⟩:∃x0 x1 x2 x3 x4 x5,cs=[x0,x1,x2,x3,x4,x5]:=by
  match cs,hsz with
  | [x0,x1,x2,x3,x4,x5],_=>exact ⟨x0,x1,x2,x3,x4,x5,rfl⟩
 match xs,hlen with
 | [y0,y1,y2],_ =>
  have g0:DataW.trod enc Tryz.prog W 0 (fun _=>true) true n 28 [x0]=some y0:=hf 0 _ rfl
  have g1:DataW.trod enc Tryz.prog W 0 (fun _=>true) true n 29 [x1]=some y1:=hf 1 _ rfl
  have g2:DataW.trod enc Tryz.prog W 0 (fun _=>true) true n 33 [x2,x3,x4,x5]=some y2:=hf 2 _ rfl
  obtain ⟨ka,kc,l,e0,hkc,hm,_,hK⟩:=dp g0
  obtain ⟨ra,rc,rs,e1,hrc,hrm,hR,hE⟩:=cv g1
  obtain ⟨t,ba,bc,ids,bits,pre,e2,a1,a2,a3,b1,b2,s1⟩:=d9 g2
  simp only [List.cons.injEq,and_true] at e2
  obtain ⟨rfl,rfl,rfl,rfl⟩:=e2
  subst e0 e1
  exact ⟨l,rs,t,bits,ids,pre,ka,ra,ba,kc,rc,bc,rfl,⟨hkc,hrc,b1,by unfold maxLen at hm;omega,hrm,b2,a1,a2,a3,hE,⟨hK,hR,s1⟩⟩⟩
end
end Go.Proofs.YthgembbgcbaghaaGreatDoor

namespace Go.Proofs.YthgembbgcbaghaaGreatDoor.delegApart
open Go.ChangeShapes Go.WideShapes Go.ChangeAt Go.RowKit Go.Joins
set_option maxRecDepth 100000 in
theorem facts:joinedFacts Tryz.prog 8 Tryz.f8 (OpenSpec.ofChange Rows.delegApartSpec).bare Rows.delegApartRow=true:=by kernel_rfl
end Go.Proofs.YthgembbgcbaghaaGreatDoor.delegApart

namespace Go.Proofs.YthgembbgcbaghaaGreatDoor
open Go.RowKit
end Go.Proofs.YthgembbgcbaghaaGreatDoor
