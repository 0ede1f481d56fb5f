/- The contracts of legatelaw08.size and legatelaw08.Long: what is not long is of little weight. -/
import Derived.Test.YthgembbgcbaghaaGreatDoorDb01

namespace Go.Proofs.YthgembbgcbaghaaGreatDoor
open Go.RowKit
theorem nr (l:List JV) (k:Nat) (h:k<l.length):JV.wts (l.take (k+1))=JV.wts (l.take k)+JV.wt l[k]:=by
 induction l generalizing k with
 | nil=>simp at h
 | cons x r ih =>
  cases k with
  | zero=>simp [JV.wts]
  | succ k=>have:=ih k (by simpa using h);simp only [List.take_succ_cons,JV.wts,List.getElem_cons_succ] at *;omega
theorem pH (l:List ByteArray) (k:Nat) (h:k<l.length):qu (l.take (k+1))=qu (l.take k)+(l[k].size+1):=by
 induction l generalizing k with
 | nil=>simp at h
 | cons x r ih =>
  cases k with
  | zero=>simp [qu]
  | succ k=>have:=ih k (by simpa using h);simp only [List.take_succ_cons,qu,List.getElem_cons_succ] at *;omega
def pU (l:List JV) (m:Nat) (w:World) (e:Ending) (w':World):Prop :=
 ∃r:Int,e=.returned (.int .i64 r)∧0≤r∧r≤40100 * (m+1)+20000∧(r<20000→(JV.wts l:Int)≤r)∧w=w'
def lV (l:List JV) (m:Nat) (n i:Value):Prop :=
 ∃(k:Nat) (r:Int),k≤l.length∧i=.int .i64 k∧n=.int .i64 r∧0≤r∧r≤40100 * (m+1)+20000∧(r<20000→(JV.wts (l.take k):Int)≤r)
def aD (ns:List ByteArray) (base:Int) (n i:Value):Prop :=
 ∃(k:Nat) (r:Int),k≤ns.length∧i=.int .i64 k∧n=.int .i64 r∧0≤r∧r≤40100∧(r<20000→base+(qu (ns.take k):Int)≤r)
theorem nt {l:List JV} {k m:Nat} {r2 r3:Int} {v:JV} (hlt:k<l.length) (hv:v=l[k]) (s0:0≤r2) (s1:r2≤40100) (HX:r2<20000→(JV.wts (l.take k):Int)+1+(v.t.size:Int)+(qu v.names:Int)≤r2)
 (t0:0≤r3) (t1:r3≤40100 * (m+1)+20000) (t2:r3<20000→(JV.wts v.items:Int)≤r3):lV l (m+1) (.int .i64 (r2+r3)) (.int .i64 ((k:Int)+1)):=by
 refine ⟨k+1,r2+r3,by omega,by simp,rfl,by omega,by push_cast;omega,fun h=>?_⟩
 have h1:=HX (by omega)
 have h2:=t2 (by omega)
 have h3:=nr l k hlt
 rw [← hv,JV.wt_eq] at h3
 rw [h3];push_cast;omega
set_option maxHeartbeats 2000000 in
set_option maxRecDepth 100000 in
theorem yY (m:Nat) (ih:∀m',m=m' + 1→∀(l:List JV) (a:Option Addr) (c:Nat) (w:World),qH w 0 w.heap.size a l →
 Calls Tryz.prog 48 #[.slice a l.length c,.int .i64 (201 - (m':Int))] w (pU l m' w)) (l:List JV) (a:Option Addr) (c:Nat) (w:World) (hm:m≤201) (hV:qH w 0 w.heap.size a l) :
 Calls Tryz.prog 48 #[.slice a l.length c,.int .i64 (201 - (m:Int))] w (pU l m w):=by
 all_goals
  have IH:=Lh ih
  have HV:=Lh hV
  clear ih hV
  obtain ⟨d,hd⟩:∃d:Int,d=201 - (m:Int):=⟨_,rfl⟩
  rw [← hd]
  have hd0:0≤d:=by omega
  have hd1:d≤201:=by omega
  have HD:=Lh hd
  clear hd
  go_enter Tryz.func48,Tryz.ntmps48
  go_wp2_with fail
  go_loop [5,6,7] (fun n i _=>lV l m n i) (fun _ i _=>l.length - (intOf i).toNat)
  case atStart=>exact ⟨0,0,by omega,rfl,rfl,by omega,by omega,fun _=>by simp [JV.wts]⟩
  case round =>
   obtain ⟨k,r,hk,rfl,rfl,hr0,hr1,hr2⟩:=hrel
   have HR2:=Lh hr2
   clear hr2
   by_cases hgo:k<l.length∧r<20000
   · obtain ⟨hlt,hn⟩:=hgo
     have hw:=HR2.out hn
     have hkw:=JV.wts_len (l.take k)
     rw [List.length_take] at hkw
     have hk2:(k:Int)<20000:=by omega
     obtain ⟨b,off,an,cn,ai,ci,ha,_,hb,_,_,e2,e3,e4,hrep⟩:=HV.out.get k hlt
     obtain ⟨an',cn',ai',ci',hx,p1,p2,p3,p4⟩:=hrep.parts
     simp only [Value.agg.injEq,Array.mk.injEq,List.cons.injEq,Value.slice.injEq,true_and,and_true] at hx
     obtain ⟨⟨rfl,rfl⟩,rfl,rfl⟩:=hx
     subst ha
     obtain ⟨v,hv⟩:∃v,v=l[k]:=⟨_,rfl⟩
     rw [← hv] at e2 e3 e4 p3 p4
     have HP3:=Lh p3
     have HP4:=Lh p4
     have HVV:=Lh hv
     clear p1 p2 p3 p4 hrep hkw hv
     obtain ⟨base,hbase⟩:∃base:Int,base=(JV.wts (l.take k):Int)+1+(v.t.size:Int):=⟨_,rfl⟩
     have HBS:=Lh hbase
     obtain ⟨mt,hmt⟩:∃mt:Int,(if (v.t.size:Int)<20000 then (v.t.size:Int) else 20000)=mt:=⟨_,rfl⟩
     have mt0:0≤mt:=by rw [← hmt];split <;> omega
     have mt1:mt≤20000:=by rw [← hmt];split <;> omega
     have HMT:=Lh (show r+4+mt<20000→base≤r+4+mt by rw [← hmt];split <;> omega)
     clear hbase hw
     all_goals
      go_wp2_with fail
      go_loop [5,7] (fun n i=>aD v.names base n i) (fun _ i=>v.names.length - (intOf i).toNat)
      case atStart=>exact ⟨0,_,by omega,rfl,rfl,by omega,by omega,fun h=>by have:=HMT.out h;simp only [List.take_zero,qu];omega⟩
      case round =>
       obtain ⟨q,r2,hq,rfl,rfl,s0,s1,s2⟩:=hrel
       have HS2:=Lh s2
       clear s2
       by_cases hgo2:q<v.names.length∧r2<20000
       · obtain ⟨hq1,hq2⟩:=hgo2
         have hql:=kS (v.names.take q)
         rw [List.length_take] at hql
         have hs:=HS2.out hq2
         have hbp:0≤base:=by have:=HBS.out;omega
         have hq3:(q:Int)<20000:=by omega
         obtain ⟨b2,off2,ha2,_,_,e5⟩:=HP3.out.at q hq1
         subst ha2
         obtain ⟨nm,hnm⟩:∃nm,nm=v.names[q]:=⟨_,rfl⟩
         have HNM:=Lh hnm
         rw [← hnm] at e5
         clear hql hnm hs
         obtain ⟨mn,hmn⟩:∃mn:Int,(if (nm.size:Int)<20000 then (nm.size:Int) else 20000)=mn:=⟨_,rfl⟩
         have mn0:0≤mn:=by rw [← hmn];split <;> omega
         have mn1:mn≤20000:=by rw [← hmn];split <;> omega
         have HMN:=Lh (show mn<20000→(nm.size:Int)=mn by rw [← hmn];split <;> omega)
         all_goals
          go_wp2
          go_round
          case rel =>
           refine ⟨q+1,_,by omega,by go_num,rfl,by omega,by omega,fun h=>?_⟩
           have h1:=HS2.out hq2
           have h2:=HMN.out (by omega)
           rw [pH _ _ hq1,← HNM.out];push_cast;omega
          case measure=>simp [intOf];omega
       · have HX:=Lh (show r2<20000→(JV.wts (l.take k):Int)+1+(v.t.size:Int)+(qu v.names:Int)≤r2 from fun h=>by
          have h1:=HS2.out h
          rw [List.take_of_length_le (by omega),HBS.out] at h1
          exact h1)
         clear HS2
         have hdone:∃t:Bool,decide (q<v.names.length)=t∧(t=true→decide (r2<20000)=false):=⟨_,rfl,fun h=>decide_eq_false fun h2=>hgo2 ⟨of_decide_eq_true h,h2⟩⟩
         obtain ⟨t,ht,ht2⟩:=hdone
         clear hgo2
         by_cases hdz:d=201
         · have hd2:200<d:=by omega
           cases t
           all_goals
            (try have hq2:=ht2 rfl)
            clear ht2
            go_wp2
            go_ret
            exact ⟨20000,rfl,by omega,by omega,fun h=>by omega,rfl⟩
         · have hd2:d≤200:=by omega
           obtain ⟨m',hm'⟩:∃m',m=m' + 1:=⟨m - 1,by have:=HD.out;omega⟩
           have HC:=Lh (IH.out m' hm' v.items ai ci w HP4.out)
           rw [show (201 - (m':Int))=d+1 by rw [HD.out,hm'];push_cast;omega] at HC
           have HM:=Lh hm'
           clear hdz hm'
           cases t
           all_goals
            (try have hq2:=ht2 rfl)
            clear ht2
            go_wp2_with fail
            refine HC.out.mono ?_
            rintro e w' ⟨r3,rfl,t0,t1,t2,rfl⟩
            have HT2:=Lh t2
            have ht1:r3≤40100 * 202+20000:=by have:=HM.out;omega
            clear t2
            go_wp2
            go_round
            case rel=>rw [HM.out];exact nt hlt HVV.out s0 s1 HX.out t0 t1 HT2.out
            case measure=>simp [intOf];omega
   · have HX:=Lh (show r<20000→(JV.wts l:Int)≤r from fun h=>by
      have h1:=HR2.out h
      rwa [List.take_of_length_le (by omega)] at h1)
     clear HR2
     have hdone:∃t:Bool,decide (k<l.length)=t∧(t=true→decide (r<20000)=false):=⟨_,rfl,fun h=>decide_eq_false fun h2=>hgo ⟨of_decide_eq_true h,h2⟩⟩
     obtain ⟨t,ht,ht2⟩:=hdone
     clear hgo
     cases t
     all_goals
      (try have hq2:=ht2 rfl)
      clear ht2
      go_wp2
      go_ret
      exact ⟨r,rfl,hr0,hr1,HX.out,rfl⟩
theorem lW:∀(m:Nat) (l:List JV) (a:Option Addr) (c:Nat) (w:World),m≤201→qH w 0 w.heap.size a l →
 Calls Tryz.prog 48 #[.slice a l.length c,.int .i64 (201 - (m:Int))] w (pU l m w)
 | 0,l,a,c,w,hm,hV=>yY 0 (fun m' h=>by omega) l a c w hm hV
 | m+1,l,a,c,w,hm,hV=>yY (m+1) (fun m' h l a c w hV=>by
  obtain rfl:m=m':=by omega
  exact lW m l a c w (by omega) hV) l a c w hm hV
def aL (l:List JV) (w:World) (e:Ending) (w':World):Prop:=∃b:Bool,e=.returned (.bool b)∧(b=false→JV.wts l≤20000)∧w=w'
theorem tE (l:List JV) (a:Option Addr) (c:Nat) (w:World) (hV:qH w 0 w.heap.size a l) :
 Calls Tryz.prog 13 #[.slice a l.length c] w (aL l w):=by
 have HC:=Lh (lW 201 l a c w (by omega) hV)
 rw [show (201 - ((201:Nat):Int))=0 from rfl] at HC
 clear hV
 go_enter Tryz.func13,Tryz.ntmps13
 go_wp2_with fail
 refine HC.out.mono ?_
 rintro e w' ⟨r,rfl,t0,t1,t2,rfl⟩
 have HT:=Lh t2
 clear t2
 by_cases h:20000≤r
 all_goals
  go_wp2
  go_ret
  exact ⟨_,rfl,fun hb=>by first|(cases hb;done)|(have:=HT.out (by omega);omega),rfl⟩
end Go.Proofs.YthgembbgcbaghaaGreatDoor
