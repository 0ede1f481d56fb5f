/- Rows of nine cells that are stored to cell by cell. Printed by genbox9.py. No program in sight. -/
import Derived.Test.YtnlgmcapbbgelaaGreatDoorRt01
import Derived.Deep.Cut
import Derived.Laws.AppendOwnNone

namespace Go.Proofs.YtnlgmcapbbgelaaGreatDoor
open Go.RowKit
structure TabW (w:World):Prop where
 months:∀i,i<13→w.cell? ⟨1,i,none⟩=some (.int .i64 (beforeN i))
 lt:1<w.heap.size
theorem TabW.below {w w':World} (h:TabW w) (hb:Below w.heap.size w w'):TabW w' where
 months i hi:=by rw [hb.cell h.lt];exact h.months i hi
 lt:=Nat.lt_of_lt_of_le h.lt hb.size
theorem mt (y:Nat) (w:World) (hy:y≤100000):Calls Tryz.prog 105 #[.int .i64 y] w fun e w'=>e=.returned (.bool (zl y))∧w'=w:=by
 have e4:((y:Int).tmod 4)=((y % 4:Nat):Int):=by rw [Int.tmod_eq_emod_of_nonneg (by omega)];omega
 have e1:((y:Int).tmod 100)=((y % 100:Nat):Int):=by rw [Int.tmod_eq_emod_of_nonneg (by omega)];omega
 have e0:((y:Int).tmod 400)=((y % 400:Nat):Int):=by rw [Int.tmod_eq_emod_of_nonneg (by omega)];omega
 have HL:=Lh (show zl y=(y % 4 == 0 && y % 100 != 0 || y % 400 == 0) from rfl)
 generalize y % 4=a at *
 generalize y % 100=b at *
 generalize y % 400=c at *
 by_cases ha:a=0
 · subst ha
   have e4':((y:Int).tmod 4)=0:=e4
   by_cases hb:b=0
   · subst hb
     have e1':((y:Int).tmod 100)=0:=e1
     by_cases hc:c=0
     · subst hc
       have e0':((y:Int).tmod 400)=0:=e0
       clear e4 e1 e0
       go_enter Tryz.func105,Tryz.ntmps105
       go_wp2
       go_ret
       exact ⟨qk (by rw [HL.out];rfl),rfl⟩
     · have hc':((c:Int) == 0)=false:=by simp;omega
       clear e4 e1
       go_enter Tryz.func105,Tryz.ntmps105
       go_wp2
       go_ret
       exact ⟨qk (by rw [HL.out];simp [hc]),rfl⟩
   · have hb':((b:Int) == 0)=false:=by simp;omega
     have hb2:((b:Int) != 0)=true:=by simp;omega
     clear e4 e0
     go_enter Tryz.func105,Tryz.ntmps105
     go_wp2
     go_ret
     exact ⟨qk (by rw [HL.out];simp [hb]),rfl⟩
 · have ha':((a:Int) == 0)=false:=by simp;omega
   by_cases hc:c=0
   · subst hc
     have e0':((y:Int).tmod 400)=0:=e0
     clear e1 e0
     go_enter Tryz.func105,Tryz.ntmps105
     go_wp2
     go_ret
     exact ⟨qk (by rw [HL.out];simp),rfl⟩
   · have hc':((c:Int) == 0)=false:=by simp;omega
     clear e1
     go_enter Tryz.func105,Tryz.ntmps105
     go_wp2
     go_ret
     exact ⟨qk (by rw [HL.out];simp [ha,hc]),rfl⟩
theorem fm (y:Nat) (w:World) (hy:y≤100000):Calls Tryz.prog 149 #[.int .i64 y] w fun e w'=>e=.returned (.int .i64 (zK y))∧w'=w:=by
 have e4:((y:Int).tdiv 4)=((y / 4:Nat):Int):=by rw [Int.tdiv_eq_ediv_of_nonneg (by omega)];omega
 have e1:((y:Int).tdiv 100)=((y / 100:Nat):Int):=by rw [Int.tdiv_eq_ediv_of_nonneg (by omega)];omega
 have e0:((y:Int).tdiv 400)=((y / 400:Nat):Int):=by rw [Int.tdiv_eq_ediv_of_nonneg (by omega)];omega
 have HL:=Lh (show (zK y:Int)=((y / 4:Nat):Int) - ((y / 100:Nat):Int)+((y / 400:Nat):Int) by unfold zK;omega)
 go_enter Tryz.func149,Tryz.ntmps149
 go_wp2
 go_ret
 exact ⟨qF (by rw [HL.out];omega),rfl⟩
theorem bY (n h:Int) (w:World):Calls Tryz.prog 103 #[.int .i64 n,.int .i64 h] w fun e w'=>e=.returned (.bool (decide (0≤n) && decide (n≤h)))∧w'=w:=by
 by_cases h0:0≤n
 · have h0':decide (0≤n)=true:=by simpa using h0
   go_enter Tryz.func103,Tryz.ntmps103
   go_wp2
   go_ret
   exact ⟨qk (by simp [h0]),rfl⟩
 · have h0':decide (0≤n)=false:=by simpa using h0
   go_enter Tryz.func103,Tryz.ntmps103
   go_wp2
   go_ret
   exact ⟨qk (by simp),rfl⟩
theorem rz (y:Nat):zK y≤y:=by unfold zK;omega
theorem vL (y:Nat) (w:World) (h1:1970≤y) (hy:y≤10000):Calls Tryz.prog 104 #[.int .i64 y] w fun e w'=>e=.returned (.int .i64 (ql y))∧w'=w:=by
 have HA:=Lh (fm (y - 1) w (by omega))
 have HB:=Lh (fm 1969 w (by omega))
 have hl:=rz (y - 1)
 have e1:((y - 1:Nat):Int)=(y:Int) - 1:=by omega
 rw [e1] at HA
 have HL:=Lh (show (ql y:Int)=365 * ((y:Int) - 1970)+(zK (y - 1):Int) - 477 by
  have h2:zK 1969=477:=by decide
  have h3:zK 1969≤zK (y - 1):=by unfold zK;omega
  unfold ql;rw [h2] at h3 ⊢;omega)
 rw [show (zK 1969:Int)=477 by decide] at HB
 generalize zK (y - 1)=q at *
 go_enter Tryz.func104,Tryz.ntmps104
 go_wp2_with fail
 refine HA.out.mono ?_
 rintro e w' ⟨rfl,rfl⟩
 go_wp2_with fail
 refine HB.out.mono ?_
 rintro e w' ⟨rfl,rfl⟩
 go_wp2
 go_ret
 exact ⟨qF (by rw [HL.out]),rfl⟩
def jn (y m:Int):Int:=if y<0∨m<0 then 0 else qG y.toNat m.toNat
theorem jv {y m:Int} (h:y<1970∨9999<y∨m<1∨12<m):jn y m=0:=by
 unfold jn qG;split
 · rfl
 · rw [if_neg (by omega)];rfl
theorem yB:∀m:Fin 13,1≤m.val→beforeN (m.val - 1)≤beforeN m.val∧beforeN m.val≤365:=by decide
theorem bG (y m:Int) (w:World) (hT:TabW w):Calls Tryz.prog 102 #[.int .i64 y,.int .i64 m] w fun e w'=>e=.returned (.int .i64 (jn y m))∧Below w.heap.size w w':=by
 by_cases h1:1970≤y
 · by_cases h2:y≤9999
   · by_cases h3:1≤m
     · by_cases h4:m≤12
       · obtain ⟨a,rfl⟩:∃a:Nat,y=a:=⟨y.toNat,by omega⟩
         obtain ⟨b,rfl⟩:∃b:Nat,m=b:=⟨m.toNat,by omega⟩
         have hu:=yB ⟨b,by omega⟩ (by show 1≤b;omega)
         have hd:jn a b=(beforeN b:Int) - (beforeN (b - 1):Int)+(if b=2∧zl a=true then 1 else 0):=by
          unfold jn qG
          rw [if_neg (by omega),if_pos (by simp;omega)]
          simp only [Int.toNat_natCast]
          have:=hu.1
          simp only at this
          split <;> omega
         have HD:=Lh hd
         have HU:=Lh hu
         have HL:=Lh (fun w':World=>mt a w' (by omega))
         have q1:w.cell? ⟨1,b,none⟩=some (.int .i64 (beforeN b)):=hT.months b (by omega)
         have q2:w.cell? ⟨1,b - 1,none⟩=some (.int .i64 (beforeN (b - 1))):=hT.months (b - 1) (by omega)
         have hu1:(beforeN (b - 1):Int)≤beforeN b:=by have:=hu.1;simp only at this;omega
         have hu2:(beforeN b:Int)≤365:=by have:=hu.2;simp only at this;omega
         clear hd hu hT
         generalize beforeN b=p at *
         generalize beforeN (b - 1)=q at *
         by_cases hb2:b=2
         · have hb3:((b:Int) == 2)=true:=by simp;omega
           have HB:=Lh hb2
           clear hb2
           cases hl:zl a
           · rw [hl] at HL HD
             clear hl
             go_enter Tryz.func102,Tryz.ntmps102
             go_upto_region 3 with fail
             go_quiet (fail)
             go_wp2_with fail
             refine (HL.out _).mono ?_
             rintro e w' ⟨rfl,h'⟩
             subst h'
             go_wp2
             go_ret
             exact ⟨qF (by rw [HD.out];simp),Below.drewN (Below.refl _ _) _⟩
           · rw [hl] at HL HD
             clear hl
             go_enter Tryz.func102,Tryz.ntmps102
             go_upto_region 3 with fail
             go_quiet (fail)
             go_wp2_with fail
             refine (HL.out _).mono ?_
             rintro e w' ⟨rfl,h'⟩
             subst h'
             go_wp2
             go_ret
             exact ⟨qF (by rw [HD.out,if_pos ⟨HB.out,by simp⟩]),Below.drewN (Below.refl _ _) _⟩
         · have hb3:((b:Int) == 2)=false:=by simp;omega
           have HD:=Lh (show jn a b=p - q by rw [HD.out,if_neg (by omega)];omega)
           clear hb2
           go_enter Tryz.func102,Tryz.ntmps102
           go_upto_region 3 with fail
           go_quiet (fail)
           go_wp2
           go_ret
           exact ⟨qF (by rw [HD.out]),Below.drewN (Below.refl _ _) _⟩
       · have HD:=Lh (jv (y:=y) (m:=m) (by omega))
         go_enter Tryz.func102,Tryz.ntmps102
         go_wp2
         go_ret
         exact ⟨qF (by rw [HD.out]),Below.refl _ _⟩
     · have HD:=Lh (jv (y:=y) (m:=m) (by omega))
       go_enter Tryz.func102,Tryz.ntmps102
       go_wp2
       go_ret
       exact ⟨qF (by rw [HD.out]),Below.refl _ _⟩
   · have HD:=Lh (jv (y:=y) (m:=m) (by omega))
     go_enter Tryz.func102,Tryz.ntmps102
     go_wp2
     go_ret
     exact ⟨qF (by rw [HD.out]),Below.refl _ _⟩
 · have HD:=Lh (jv (y:=y) (m:=m) (by omega))
   go_enter Tryz.func102,Tryz.ntmps102
   go_wp2
   go_ret
   exact ⟨qF (by rw [HD.out]),Below.refl _ _⟩
def yP (k:Key2):List Value:=[.string k.1,.string k.2]
theorem fc {M:List Key2} (i:Nat) (hi:i<M.length):(M.flatMap yP)[i * 2]?=some (.string M[i].1)∧(M.flatMap yP)[i * 2+1]?=some (.string M[i].2):=by
 induction M generalizing i with
 | nil=>simp at hi
 | cons k r ih =>
  rw [List.flatMap_cons]
  rcases i with _|i
  · exact ⟨rfl,rfl⟩
  · have:=ih i (by simpa using hi)
    rw [List.getElem?_append_right (by simp [yP];omega),List.getElem?_append_right (by simp [yP];omega)]
    have e1:(i+1) * 2 - (yP k).length=i * 2:=by simp [yP];omega
    have e2:(i+1) * 2+1 - (yP k).length=i * 2+1:=by simp [yP];omega
    rw [e1,e2]
    exact this
theorem yF {w:World} {base e:Nat} {v:Value} {n:Nat} {M:List Key2} (h:w.ownsRow base e 2 v n (M.flatMap yP)) (hn:n=M.length) :
 ∃a c,v=.slice a M.length c∧zo w base w.heap.size a M:=by
 subst hn
 rcases h.2 with ⟨rfl,h0⟩|⟨g,cap,cur,rfl,hg,hh,hc,hm,hs,ht⟩
 · exact ⟨none,0,by rw [h0],.inl (List.eq_nil_of_length_eq_zero h0)⟩
 · refine ⟨_,_,rfl,.inr ⟨g,0,rfl,hg,qz hh,fun i hi=>?_⟩⟩
   have ea:∀j,(⟨g,0,none⟩:Addr).add j=⟨g,0+j,none⟩:=fun j=>by unfold Addr.add;split <;> simp_all
   have h1:=h.cells (g:=g) rfl _ _ (fc i hi).1
   have h2:=h.cells (g:=g) rfl _ _ (fc i hi).2
   rw [ea] at h1 h2
   exact ⟨h1,by rw [Nat.add_assoc];exact h2⟩
theorem below_grown {B:Nat} {W w w':World} {v:Value} (hb:Below B W w) (hBw:B≤w.heap.size) (hg:w.grownBy w' v.ownBlock) (hown:∀b,v.ownBlock=some b→B≤b):Below B W w':=by
 refine ⟨by rw [hg.os,hb.os],by rw [hg.tape,hb.tape],by rw [hg.output,hb.output],Nat.le_trans hb.size hg.size,fun b hlt=>?_⟩
 rw [hg.block b (by omega) (fun e=>by have:=hown b e.symm;omega)]
 exact hb.block b hlt
end Go.Proofs.YtnlgmcapbbgelaaGreatDoor

namespace Go.Proofs.YtnlgmcapbbgelaaGreatDoor
open Go.ChangeShapes Go.WideShapes Go.ChangeAt Go.RowKit Go.Joins Go.Deep
theorem fd:Tryz.prog.cellsOf 38=2:=by kernel_rfl
theorem rx {H:Type} {enc:TypeId × Value→H} {w:World} {spare:Nat→Bool} {held:Bool} {fuel:Nat} {c:Value} {x:DataW H × List MemPlace} (h:DataW.trod enc Tryz.prog w 0 spare held fuel 28 [c]=some x) :
 ∃(a:Option Addr) (cap:Nat) (l:List Key2),c=.slice a l.length cap∧l.length≤cap∧l.length≤maxLen∧(∀k ∈ l,k.1.size≤maxLen∧k.2.size≤maxLen)∧zo w 0 w.heap.size a l:=by
 rcases DataW.trod_slice Tryz.underlying28 h with ⟨e4,_⟩|⟨a,len,cap,elems,rest,n',hn',e4,hy,_,hl,hcm,hlen,hel,_,_⟩
 · simp at e4;subst e4
   exact ⟨none,0,[],rfl,Nat.le_refl _,by simp,by simp,.inl rfl⟩
 · simp at e4;subst e4
   rw [fd] at hel
   have each:∀i,i<len→∃k:Key2,w.cell? (a.add (i * 2))=some (.string k.1)∧w.cell? ((a.add (i * 2)).add 1)=some (.string k.2)∧k.1.size≤maxLen∧k.2.size≤maxLen:=by
    intro i hi
    have:=hel i hi
    rw [List.getElem?_eq_getElem (by omega)] at this
    obtain ⟨cs',g1,g2⟩:=Option.bind_eq_some_iff.1 this
    obtain ⟨_,gl,gc⟩:=World.cells?_some g1
    obtain ⟨d0,d1,y0,y1,m,rfl,r0,r1⟩:=mu Tryz.underlying38 (by kernel_rfl) fd g2
    all_goals
     obtain ⟨s,es,_,ws⟩:=DataW.trod_string Tryz.underlying9 r0
     obtain ⟨t,et,_,wt⟩:=DataW.trod_string Tryz.underlying9 r1
     simp only [List.cons.injEq,and_true] at es et
     subst es et
     have q0:=gc 0 (by omega);have q1:=gc 1 (by omega)
     rw [show (a.add (i * 2)).add 0=a.add (i * 2) by simp [Addr.add]] at q0
     exact ⟨(s,t),q0,q1,ws,wt⟩
   obtain ⟨l,hll,hls⟩:=gf len each
   refine ⟨some a,cap,l,by rw [hll],by omega,by omega,fun k hk=>?_,?_⟩
   · obtain ⟨i,hi,rfl⟩:=List.getElem_of_mem hk
     exact (hls i hi).2.2
   · by_cases h0:len=0
     · exact .inl (List.eq_nil_of_length_eq_zero (by omega))
     · have q0:=(hls 0 (by omega)).1
       rw [Nat.zero_mul,show a.add 0=a by simp [Addr.add]] at q0
       have ea:=br q0
       refine .inr ⟨a.block,a.off,by rw [← ea],Nat.zero_le _,World.block_lt_of_cell? w _ q0,fun i hi=>?_⟩
       obtain ⟨q0,q1,_⟩:=hls i hi
       rw [ea,us] at q0 q1
       rw [us] at q1
       exact ⟨q0,q1⟩
end Go.Proofs.YtnlgmcapbbgelaaGreatDoor

namespace Go.Proofs.YtnlgmcapbbgelaaGreatDoor
open Go.RowKit
def bP (v:JV) (r:Nat) (f:Bool) (y:ByteArray):List ByteArray:=v.names.take r ++ [y] ++ v.names.drop (r+f.toNat)
def bF (v:JV) (r:Nat) (f:Bool) (x:JV):List JV:=v.items.take r ++ [x] ++ v.items.drop (r+f.toNat)
def lh (v:JV) (r:Nat) (f:Bool) (y:ByteArray) (x:JV):JV:=.mk 5 0 ⟨#[]⟩ (bP v r f y) (bF v r f x)
theorem mi {w w':World} {p:Nat} {o:Obj} (hb:Below w.heap.size w w') (h:w.heap[p]?=some o):w'.heap[p]?=some o:=by rw [hb.block _ (qz h)];exact h
theorem lu {w:World} {p:Nat} {o x:Obj} (h:w.heap[p]?=some o):(w.alloc x).heap[p]?=some o:=by rw [Below.heap_alloc _ _ _ (qz h)];exact h
theorem jw {W X:World} {b T:Nat} {c0 c1 c2 c3 c4:Value} (h:W.heap[b]?=some (.cells #[c0,c1,c2,c3,c4] T (0,0))) (hb:Below W.heap.size W X) :
 X.cell? ⟨b,0,none⟩=some c0∧X.cell? ⟨b,1,none⟩=some c1∧X.cell? ⟨b,2,none⟩=some c2∧X.cell? ⟨b,3,none⟩=some c3∧X.cell? ⟨b,4,none⟩=some c4:=by
 have:=mi hb h
 exact ⟨qq this rfl,qq this rfl,qq this rfl,qq this rfl,qq this rfl⟩
theorem fl {W X:World} {o:Obj} (hb:Below W.heap.size W X):Below W.heap.size W (X.alloc o):=hb.alloc hb.size _
theorem dz (w:World) (row:Option Nat):w.grownBy w row:=⟨rfl,rfl,rfl,Nat.le_refl _,fun _ _ _=>rfl⟩
theorem gN {P:Program} {w:World} (base:Nat) (t ty e:TypeId) (i:TypeInfo) (size:Nat) (ht:P.underlying t=some (.slice e)) (hi:P.info? e=some i)
 (v:Value) (n:Nat) (xs:List Value) (hown:w.ownsRow base e size v n xs) (sa:Option Addr) (c:Nat) :
 (Builtin.append_ #[t,t] ty #[v,.slice sa 0 c]).run P w=.ok v w:=by
 rcases hown.2 with ⟨rfl,rfl⟩|⟨g,cap,cur,rfl,_,_,hnc,_⟩
 · cases sa <;> simp [Builtin.append_,run_underlying ht,sizeOf,typeInfo,hi,Builtin.lenOf,Builtin.firstCells,loadCells,loadCellsFrom]
 · cases sa <;> simp [Builtin.append_,run_underlying ht,sizeOf,typeInfo,hi,Builtin.lenOf,Builtin.firstCells,hnc,storeCells,loadCells,loadCellsFrom]
theorem dx {w:World} {base e size n:Nat} {v:Value} {xs:List Value} (h:w.ownsRow base e size v n xs):∃a c,v=.slice a n c:=by
 rcases h.2 with ⟨rfl,rfl⟩|⟨g,cap,cur,rfl,_⟩
 · exact ⟨none,0,rfl⟩
 · exact ⟨_,_,rfl⟩
theorem wh {P:Program} {w:World} {o:Oper} {a:Act} {K:Act→World→Prop} {Q:Exit→Act→World→Prop} (s x:Operand) (t:TypeId)
 (ho:o.op=.call { callee:=.builtin .append,args:=#[s,x],argTypes:=#[t,t] })
 (base:Nat) (e:TypeId) (i:TypeInfo) (z:Value) (size bytes:Nat) (ht:P.underlying t=some (.slice e)) (hi:P.info? e=some i) (hz:i.zero=some z)
 (hsize:i.size=size) (hby:i.bytes=bytes) (hzs:z.cells.size=size) (hsz:0<size)
 (v:Value) (n:Nat) (xs:List Value) (hs:a.eval s=v) (hown:w.ownsRow base e size v n xs)
 (sa:Option Addr) (m c:Nat) (news:List Value) (hx:a.eval x=.slice sa m c) (hl:news.length=m * size) (hnews:0<m→∃ad,sa=some ad∧∀j u,news[j]?=some u→w.cell? (ad.add j)=some u) (h1:∀u ∈ news,u.oneCell'=true)
 (h63:n+m≤maxLen) (hbytes:(n+m) * bytes≤140737488355328) (hbase:base≤w.heap.size) (H:Nat) (hH:w.heap.size=H)
 (h:∀a2 c2 w',w'.ownsRow base e size (.slice a2 (n+m) c2) (n+m) (xs ++ news)→w.grownBy w' v.ownBlock→((Value.slice a2 (n+m) c2).ownBlock=v.ownBlock∨(Value.slice a2 (n+m) c2).ownBlock=some H)→K (a.put o.dst (.slice a2 (n+m) c2)) w'):Oper.wp P o a w K Q:=by
 by_cases hm:0<m
 · obtain ⟨ad,rfl,hn⟩:=hnews hm
   refine wp_append_lies w s x t ho base e i z size bytes ht hi hz hsize hby hzs hsz v n xs hs hown ad m c news hx hl hn h1 hm h63 hbytes hbase H hH fun g cap w' h2 h3 h4 _=>h _ _ _ h2 h3 ?_
   rcases h4 with h4|h4
   · exact .inl h4.symm
   · exact .inr (by rw [h4];rfl)
 · obtain rfl:m=0:=by omega
   obtain rfl:news=[]:=List.eq_nil_of_length_eq_zero (by simpa using hl)
   obtain ⟨a2,c2,rfl⟩:=dx hown
   have hrun:=gN (P:=P) (w:=w) base t o.type e i size ht hi _ n xs hown sa c
   unfold Oper.wp
   simp [execOp,ho,resolve,invoke,builtin,hs,hx,hrun,Result.andThen]
   exact h a2 c2 w (by simpa using hown) (dz _ _) (.inl rfl)
theorem kf {P:Program} (w:World) {ops:Array Oper} {rest:List Oper} {o:Oper} {a:Act} {Q:Exit→Act→World→Prop} (hgd:o.guard=none) (s x:Operand) (t:TypeId)
 (ho:o.op=.call { callee:=.builtin .append,args:=#[s,x],argTypes:=#[t,t] })
 (base:Nat) (e:TypeId) (i:TypeInfo) (z:Value) (size bytes:Nat) (ht:P.underlying t=some (.slice e)) (hi:P.info? e=some i) (hz:i.zero=some z)
 (hsize:i.size=size) (hby:i.bytes=bytes) (hzs:z.cells.size=size) (hsz:0<size)
 (v:Value) (n:Nat) (xs:List Value) (hs:a.eval s=v) (hown:w.ownsRow base e size v n xs)
 (sa:Option Addr) (m c:Nat) (news:List Value) (hx:a.eval x=.slice sa m c) (hl:news.length=m * size) (hnews:0<m→∃ad,sa=some ad∧∀j u,news[j]?=some u→w.cell? (ad.add j)=some u) (h1:∀u ∈ news,u.oneCell'=true)
 (h63:n+m≤maxLen) (hbytes:(n+m) * bytes≤140737488355328) (hbase:base≤w.heap.size) (H:Nat) (hH:w.heap.size=H)
 (h:∀a2 c2 w',w'.ownsRow base e size (.slice a2 (n+m) c2) (n+m) (xs ++ news)→w.grownBy w' v.ownBlock→((Value.slice a2 (n+m) c2).ownBlock=v.ownBlock∨(Value.slice a2 (n+m) c2).ownBlock=some H)→wpList P ops Q rest (a.put o.dst (.slice a2 (n+m) c2)) w'):wpList P ops Q (o :: rest) a w :=
 wpList_plain hgd fun _ hK=>wh s x t ho base e i z size bytes ht hi hz hsize hby hzs hsz v n xs hs hown sa m c news hx hl hnews h1 h63 hbytes hbase H hH fun a2 c2 w' h2 h3 h4=>hK _ _ (h a2 c2 w' h2 h3 h4)
theorem zO {P:Program} (w:World) {ops:Array Oper} {o:Oper} {a:Act} {K:Act→World→Prop} {Q:Exit→Act→World→Prop} {E:Prop} (hgd:o.guard=none) (s x:Operand) (t:TypeId)
 (ho:o.op=.call { callee:=.builtin .append,args:=#[s,x],argTypes:=#[t,t] })
 (base:Nat) (e:TypeId) (i:TypeInfo) (z:Value) (size bytes:Nat) (ht:P.underlying t=some (.slice e)) (hi:P.info? e=some i) (hz:i.zero=some z)
 (hsize:i.size=size) (hby:i.bytes=bytes) (hzs:z.cells.size=size) (hsz:0<size)
 (v:Value) (n:Nat) (xs:List Value) (hs:a.eval s=v) (hown:w.ownsRow base e size v n xs)
 (sa:Option Addr) (m c:Nat) (news:List Value) (hx:a.eval x=.slice sa m c) (hl:news.length=m * size) (hnews:0<m→∃ad,sa=some ad∧∀j u,news[j]?=some u→w.cell? (ad.add j)=some u) (h1:∀u ∈ news,u.oneCell'=true)
 (h63:n+m≤maxLen) (hbytes:(n+m) * bytes≤140737488355328) (hbase:base≤w.heap.size) (H:Nat) (hH:w.heap.size=H)
 (h:∀a2 c2 w',w'.ownsRow base e size (.slice a2 (n+m) c2) (n+m) (xs ++ news)→w.grownBy w' v.ownBlock→((Value.slice a2 (n+m) c2).ownBlock=v.ownBlock∨(Value.slice a2 (n+m) c2).ownBlock=some H)→K (a.put o.dst (.slice a2 (n+m) c2)) w') :
 if Region.wanted o (yielded ops a.tmps)=true then Oper.wp P o a w K Q else E:=by
 have hw:Region.wanted o (yielded ops a.tmps)=true:=by simp [Region.wanted,hgd]
 rw [if_pos hw]
 exact wh s x t ho base e i z size bytes ht hi hz hsize hby hzs hsz v n xs hs hown sa m c news hx hl hnews h1 h63 hbytes hbase H hH h
def fs (r:JV × Int) (w:World) (e:Ending) (w':World):Prop :=
 ∃an cn ai ci,e=.returned (.tuple #[.agg #[.int .u8 r.1.kind,.int .i64 r.1.n,.string r.1.t,.slice an r.1.names.length cn,.slice ai r.1.items.length ci],.int .i64 r.2]) ∧
  Rep w' w.heap.size w'.heap.size r.1 (.agg #[.int .u8 r.1.kind,.int .i64 r.1.n,.string r.1.t,.slice an r.1.names.length cn,.slice ai r.1.items.length ci])∧Below w.heap.size w w'
theorem k6 {er:Int} {w:World} {e:Ending} {w':World} (hp:e=.returned (.tuple #[.agg #[.int .u8 0,.int .i64 0,.string ⟨#[]⟩,.slice none 0 0,.slice none 0 0],.int .i64 er])∧Below w.heap.size w w'):fs (qO,er) w e w' :=
 ⟨none,0,none,0,hp.1,wP _ _ _,hp.2⟩
mutual
def JV.sameB:JV→JV→Bool
 | .mk k n t ns xs,.mk k' n' t' ns' xs'=>decide (k=k') && (decide (n=n') && (decide (t=t') && (decide (ns=ns') && (decide (xs.length=xs'.length) && JV.sameL xs xs'))))
def JV.sameL:List JV→List JV→Bool
 | [],_=>true
 | _ :: _,[]=>true
 | x :: xs,y :: ys=>JV.sameB x y && JV.sameL xs ys
end
theorem JV.sameB_eq (v u:JV):v.sameB u=(decide (v.kind=u.kind) && (decide (v.n=u.n) && (decide (v.t=u.t) && (decide (v.names=u.names) && (decide (v.items.length=u.items.length) && JV.sameL v.items u.items))))):=by
 cases v;cases u;rw [JV.sameB];rfl
mutual
theorem JV.sameB_iff:∀(v u:JV),v.sameB u=true↔v=u
 | .mk k n t ns xs,.mk k' n' t' ns' xs'=>by
  rw [JV.sameB]
  simp only [Bool.and_eq_true,decide_eq_true_eq]
  constructor
  · rintro ⟨rfl,rfl,rfl,rfl,hl,hs⟩
    rw [(JV.sameL_iff xs xs' hl).1 hs]
  · intro h
    injection h with h1 h2 h3 h4 h5
    subst h1 h2 h3 h4 h5
    exact ⟨rfl,rfl,rfl,rfl,rfl,(JV.sameL_iff xs xs rfl).2 rfl⟩
theorem JV.sameL_iff:∀(xs ys:List JV),xs.length=ys.length→(JV.sameL xs ys=true↔xs=ys)
 | [],[],_=>by simp [JV.sameL]
 | [],_ :: _,h=>by simp at h
 | _ :: _,[],h=>by simp at h
 | x :: xs,y :: ys,h=>by
  rw [JV.sameL,Bool.and_eq_true,JV.sameB_iff x y,JV.sameL_iff xs ys (by simpa using h)]
  simp
end
theorem JV.sameL_take:∀(xs ys:List JV) (k:Nat) (h:k<xs.length) (h':k<ys.length),JV.sameL (xs.take (k+1)) (ys.take (k+1))=(JV.sameL (xs.take k) (ys.take k) && xs[k].sameB ys[k])
 | x :: xs,y :: ys,0,_,_=>by simp [JV.sameL]
 | x :: xs,y :: ys,k+1,h,h'=>by
  simp only [List.take_succ_cons,JV.sameL,List.getElem_cons_succ]
  rw [JV.sameL_take xs ys k (by simpa using h) (by simpa using h'),Bool.and_assoc]
theorem JV.sameL_bad:∀(xs ys:List JV) (k:Nat) (h:k<xs.length) (h':k<ys.length),xs[k].sameB ys[k]=false→JV.sameL xs ys=false
 | x :: xs,y :: ys,0,_,_,e=>by simp only [List.getElem_cons_zero] at e;simp [JV.sameL,e]
 | x :: xs,y :: ys,k+1,h,h',e=>by
  simp only [List.getElem_cons_succ] at e
  simp [JV.sameL,JV.sameL_bad xs ys k (by simpa using h) (by simpa using h') e]
theorem gE {a b:ByteArray} (h:a.toList=b.toList):a=b:=by
 rw [ByteArray.toList_eq,ByteArray.toList_eq] at h
 exact ByteArray.ext (Array.toList_inj.1 h)
def q9 (v0 v1 v2 v3 v4 v5 v6 v7 v8:Value):Nat→Value
 | 0=>v0|1=>v1|2=>v2|3=>v3|4=>v4|5=>v5|6=>v6|7=>v7|_=>v8
theorem wH (w:World) (v0 v1 v2 v3 v4 v5 v6 v7 v8:Value) (t:Nat):(w.alloc (.cells #[v0,v1,v2,v3,v4,v5,v6,v7,v8] t)).rowIs w.heap.size t 9 (q9 v0 v1 v2 v3 v4 v5 v6 v7 v8):=jq rfl
theorem jA {w:World} {b t:Nat} {v0 v1 v2 v3 v4 v5 v6 v7 v8:Value} (h:w.rowIs b t 9 (q9 v0 v1 v2 v3 v4 v5 v6 v7 v8)):w.heap[b]?=some (.cells #[v0,v1,v2,v3,v4,v5,v6,v7,v8] t (0,0)):=by
 obtain ⟨c,hc,hn,hf⟩:=h
 have e:c=#[v0,v1,v2,v3,v4,v5,v6,v7,v8]:=by
  apply Array.ext (by simp [hn])
  intro i h1 h2
  have:=hf i (by omega)
  rw [Array.getElem?_eq_getElem h1] at this
  have h3:=Option.some.inj this
  rw [h3]
  rcases i with _|_|_|_|_|_|_|_|_|i <;> first|rfl|(simp at h2;omega)
 rw [hc,e]
theorem rj {W:World} {b t:Nat} {f:Nat→Value} (v0 v1 v2 v3 v4 v5 v6 v7 v8:Value) (h:W.rowIs b t 9 f):(((((((((W.setCell ⟨b,0,none⟩ v0).setCell ⟨b,1,none⟩ v1).setCell ⟨b,2,none⟩ v2).setCell ⟨b,3,none⟩ v3).setCell ⟨b,4,none⟩ v4).setCell ⟨b,5,none⟩ v5).setCell ⟨b,6,none⟩ v6).setCell ⟨b,7,none⟩ v7).setCell ⟨b,8,none⟩ v8).rowIs b t 9 (q9 v0 v1 v2 v3 v4 v5 v6 v7 v8):=by
 refine (((((((((h.set 0 v0).set 1 v1).set 2 v2).set 3 v3).set 4 v4).set 5 v5).set 6 v6).set 7 v7).set 8 v8).congr fun j hj=>?_
 rcases j with _|_|_|_|_|_|_|_|_|j <;> first|rfl|omega
theorem yH {B:Nat} {a W:World} {b:Nat} (v0 v1 v2 v3 v4 v5 v6 v7 v8:Value) (h:Below B a W) (hb:B≤b):Below B a (((((((((W.setCell ⟨b,0,none⟩ v0).setCell ⟨b,1,none⟩ v1).setCell ⟨b,2,none⟩ v2).setCell ⟨b,3,none⟩ v3).setCell ⟨b,4,none⟩ v4).setCell ⟨b,5,none⟩ v5).setCell ⟨b,6,none⟩ v6).setCell ⟨b,7,none⟩ v7).setCell ⟨b,8,none⟩ v8):=(((((((((h.setCell hb v0).setCell hb v1).setCell hb v2).setCell hb v3).setCell hb v4).setCell hb v5).setCell hb v6).setCell hb v7).setCell hb v8)
theorem mo {W:World} {b k:Nat} (v0 v1 v2 v3 v4 v5 v6 v7 v8:Value) (hk:k≠b):(((((((((W.setCell ⟨b,0,none⟩ v0).setCell ⟨b,1,none⟩ v1).setCell ⟨b,2,none⟩ v2).setCell ⟨b,3,none⟩ v3).setCell ⟨b,4,none⟩ v4).setCell ⟨b,5,none⟩ v5).setCell ⟨b,6,none⟩ v6).setCell ⟨b,7,none⟩ v7).setCell ⟨b,8,none⟩ v8).heap[k]?=W.heap[k]?:=by
 rw [Below.heap_setCell _ _ _ _ hk,Below.heap_setCell _ _ _ _ hk,Below.heap_setCell _ _ _ _ hk,Below.heap_setCell _ _ _ _ hk,Below.heap_setCell _ _ _ _ hk,Below.heap_setCell _ _ _ _ hk,Below.heap_setCell _ _ _ _ hk,Below.heap_setCell _ _ _ _ hk,Below.heap_setCell _ _ _ _ hk]
theorem vr {W:World} {b:Nat} {v0 v1 v2 v3 v4 v5 v6 v7 v8:Value}:(((((((((W.setCell ⟨b,0,none⟩ v0).setCell ⟨b,1,none⟩ v1).setCell ⟨b,2,none⟩ v2).setCell ⟨b,3,none⟩ v3).setCell ⟨b,4,none⟩ v4).setCell ⟨b,5,none⟩ v5).setCell ⟨b,6,none⟩ v6).setCell ⟨b,7,none⟩ v7).setCell ⟨b,8,none⟩ v8).heap.size=W.heap.size:=by simp [World.setCell]
theorem ft {W:World} {b k:Nat} (v0 v1:Value) (hk:k≠b):((W.setCell ⟨b,0,none⟩ v0).setCell ⟨b,1,none⟩ v1).heap[k]?=W.heap[k]?:=by
 rw [Below.heap_setCell _ _ _ _ hk,Below.heap_setCell _ _ _ _ hk]
theorem lm {W:World} {b:Nat} {v0 v1:Value}:((W.setCell ⟨b,0,none⟩ v0).setCell ⟨b,1,none⟩ v1).heap.size=W.heap.size:=by simp [World.setCell]
theorem n8 {W:World} {b:Nat} {v0 v1 v2 v3 v4 v5:Value}:((((((W.setCell ⟨b,0,none⟩ v0).setCell ⟨b,1,none⟩ v1).setCell ⟨b,2,none⟩ v2).setCell ⟨b,3,none⟩ v3).setCell ⟨b,4,none⟩ v4).setCell ⟨b,5,none⟩ v5).heap.size=W.heap.size:=by simp [World.setCell]
end Go.Proofs.YtnlgmcapbbgelaaGreatDoor
