import Derived.Test.YthgembbgcbaghaaGreatDoorDt47
set_option maxHeartbeats 400000
set_option maxRecDepth 100000

namespace Go.Proofs.YthgembbgcbaghaaGreatDoor
open Go.RowKit
theorem ov (i:Nat) (h:i<16):(((⟨#[48,49,50,51,52,53,54,55,56,57,97,98,99,100,101,102]⟩:ByteArray)[i]'h).toNat:Int)=(qL i).toNat:=by
 have:∀m:Fin 16,(((⟨#[48,49,50,51,52,53,54,55,56,57,97,98,99,100,101,102]⟩:ByteArray)[m.val]'m.isLt).toNat:Int)=(qL m.val).toNat:=by decide
 exact this ⟨i,h⟩
theorem ml (j:Int) (i:Nat) (h:i<16) (hj:j=(i:Int)) (w:World):(Instr.index 9 (.string ⟨#[48,49,50,51,52,53,54,55,56,57,97,98,99,100,101,102]⟩) (.int .u8 j)).run Tryz.prog w=.ok (.int .u8 (qL i).toNat) w:=by subst hj;have a:i<(⟨#[48,49,50,51,52,53,54,55,56,57,97,98,99,100,101,102]⟩:ByteArray).size:=h;rw [run_index_string w _ _ _ _ X8,dif_pos ⟨by omega,by omega⟩];congr 2;have:=ov i h;simpa using this
theorem aC (s:ByteArray) (w:World) (hs:s.size<=1099511627000) :
 Calls Tryz.prog 145 #[.string s] w fun e w'=>e=.returned (.string ⟨(kK s.data.toList).toArray⟩)/\Below w.heap.size w w':=by
 obtain ⟨Q,hi,C,D,E⟩:=V9 fD;have f:=U (QK s w hs);obtain ⟨t,p⟩:∃t:ByteArray,t=⟨(ze s.data.toList).toArray⟩:=⟨_,rfl⟩;have I:=U (show xr t.data.toList=kK s.data.toList by rw [p];rfl);have M:t.size<=32:=by rw [p];show (ze s.data.toList).toArray.size<=32;rw [List.size_toArray,xE];omega
 rw [<- p] at f;clear p;go_enter Tryz.func145,Tryz.ntmps145;go_wp2_with fail;refine f.o.mono ?_;rintro e h ⟨rfl,l⟩;have j:=U l;clear l f;go_wp2;go_loopw [4,5] (fun v i wr=>∃k:Nat,k<=t.size/\i=.int .i64 k/\wr.ownsRow h.heap.size 5 1 v (2 * k) (Lib.byteCells (xr (t.data.toList.take k)))/\Below h.heap.size h wr) (fun _ i _=>t.size - (intOf i).toNat)
 case atStart=>exact ⟨0,by omega,rfl,⟨rfl,.inl ⟨rfl,rfl⟩⟩,Z0 _ _⟩
 case round =>
  obtain ⟨k,R,rfl,b,a⟩:=hrel;by_cases hlt:k<t.size
  . have m:=hlt;have L:t[k].toNat<256:=t[k].toNat_lt;have S:(k:Int)<(t.size:Int):=by omega
    have N:h.heap.size<=wr.heap.size:=a.size;have F:=U b;clear b;have q:=U a;clear a;obtain ⟨c,d⟩:=O1 (t[k].toNat);have r:=U d;have G:(t[k].toNat:Int)=(c:Int):=by rw [d]
    rw [<- d] at L;clear d;have T:(c:Int).tdiv 16=(c:Int) / 16:=Int.tdiv_eq_ediv_of_nonneg (by omega);have V:(c:Int).tmod 16=(c:Int) % 16:=Int.tmod_eq_emod_of_nonneg (by omega);have W:IntKind.u8.wrap ((c:Int) / 16)=(c:Int) / 16:=zd3 _ (by omega);have J:∀w,(Instr.index 9 (.string ⟨#[48,49,50,51,52,53,54,55,56,57,97,98,99,100,101,102]⟩) (.int .u8 ((c:Int) / 16))).run Tryz.prog w=.ok (.int .u8 (qL (c / 16)).toNat) w:=ml _ (c / 16) (by omega) (by omega);have K:∀w,(Instr.index 9 (.string ⟨#[48,49,50,51,52,53,54,55,56,57,97,98,99,100,101,102]⟩) (.int .u8 ((c:Int) % 16))).run Tryz.prog w=.ok (.int .u8 (qL (c % 16)).toNat) w:=ml _ (c % 16) (by omega) (by omega);have x:=O0 (∀o,h.heap.size<=((wr.alloc o).drew).heap.size) (fun o=>by simp <;> omega);have y:=O0 (∀o,((wr.alloc o).drew).heap.size=wr.heap.size+1) (fun o=>by simp);have z:=U (show 2 * k+2<=maxLen by unfold maxLen;omega);have A:=U (show (2 * k+2) * 1<=140737488355328 by omega);go_wp2_with fail
    go_region_held3 (fun w'=>True) (first|trivial|go_keep) ((refine G8 _ (by rfl) _ _ _ (by rfl) h.heap.size 5 Q _ 1 1 V6 hi C D E rfl (by omega) _ (2 * k) _ (by rfl) ((F.o.alloc _).drew) ⟨wr.heap.size,0,none⟩ 2 2 [.int .u8 (qL (c / 16)).toNat,.int .u8 (qL (c % 16)).toNat] (by rfl) (by rfl) (X0 (cs:=#[.int .u8 (qL (c / 16)).toNat,.int .u8 (qL (c % 16)).toNat]) (t:=5) (fr:=(0,0)) (Z4 wr _)) (by simp [Value.oneCell']) (by omega) z.o A.o (x.o _) (wr.heap.size+1) (y.o _) ?_;intro gg cap w2 hown1 hgrow hat hlt6))
    all_goals
     have u:=U hown1;have H:=U hgrow;clear hown1 hgrow hat J K;go_wp2;go_roundw
     case rel =>
      refine ⟨k+1,by omega,by go_num,?_,?_⟩
      . rw [show 2 * (k+1)=2 * k+2 by omega,bB t k m c r.o];exact u.o
      . exact ((q.o.alloc (by omega) _).drew).grown H.o (by simp;omega) (fun g hg=>(F.o.lt g hg).1)
     case measure=>simp [intOf];omega
  . have B:=zD (P:=Tryz.prog) 114 9 5 V6 N0 X8 b;rw [Z8 (by rw [qp];omega),I.o] at B;have q:=U a;clear b a;go_wp2;go_ret;exact ⟨rfl,j.o.trans (q.o.mono j.o.size)⟩
theorem cZ (s t:ByteArray) (w:World) (hs:s.size<=4294967) (ht:t.size<=4294967) :
 Calls Tryz.prog 94 #[.agg #[.string s,.string t]] w (xx s t w):=by
 have i:=U (pA s t (w.alloc (.cells #[.string s,.string t] 43)) (by omega) (by omega));have g:=O0 (Below w.heap.size w (w.alloc (.cells #[.string s,.string t] 43))) ((Z0 _ _).alloc lz _);have m:=U (Z4 w (.cells #[.string s,.string t] 43));unfold xx jK;cases hk:zh s.data.toList t.data.toList
 . rw [hk] at i;clear hk;go_enter Tryz.func94,Tryz.ntmps94;go_wp2_with fail;refine i.o.mono ?_;rintro e d ⟨rfl,a⟩;have b:=U (g.o.trans (a.mono (by simp)));clear a;go_wp2;go_ret2;exact ⟨rfl,b.o⟩
 . rw [hk] at i;clear hk;obtain ⟨f,j⟩:∃f:ByteArray,f=((⟨#[123,34,112,117,98,108,105,99,34,58,34]⟩ ++ t ++ ⟨#[34,44,34,115,99,104,101,109,101,34,58,34]⟩) ++ s) ++ ⟨#[34,125]⟩:=⟨_,rfl⟩;have p:=U (show f.data.toList=jA s.data.toList t.data.toList by
    rw [j];simp only [ge];unfold jA;simp [ng,nf])
   have o:f.size<=1099511627000:=(by rw [j];simp only [zb9];show 11+t.size+12+s.size+2<=_;omega);have l:=U j;clear j;go_enter Tryz.func94,Tryz.ntmps94;go_wp2_with fail;refine i.o.mono ?_;rintro e d ⟨rfl,a⟩;have b:=U (g.o.trans (a.mono (by simp)));have c:=a.block w.heap.size (by simp);rw [m.o] at c;have q:d.cell? ⟨w.heap.size,0,none⟩=some (.string s):=qq (w:=d) c rfl;have r:d.cell? ⟨w.heap.size,1,none⟩=some (.string t):=qq (w:=d) c rfl;clear a c;go_wp2_with fail;rw [<- l.o];refine (aC f d o).mono ?_;rintro e u ⟨rfl,h⟩;have k:=U (O2 b h);clear h;go_wp2;go_ret2;exact ⟨by rw [p.o];rfl,k.o⟩
end Go.Proofs.YthgembbgcbaghaaGreatDoor
