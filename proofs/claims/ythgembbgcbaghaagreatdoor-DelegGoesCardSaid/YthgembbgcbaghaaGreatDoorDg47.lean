import Derived.Test.YthgembbgcbaghaaGreatDoorDg46
set_option maxHeartbeats 1000000
set_option maxRecDepth 100000

namespace Go.Proofs.YthgembbgcbaghaaGreatDoor
open Go.RowKit
theorem rp (n j:Nat) (a:j<=(119 - n % 64) % 64):((n+1+j) % 64=56)↔j=(119 - n % 64) % 64:=by omega
theorem bU {P:Program} {c:Array Oper} {b:List Oper} {o:Oper} {a:Act} {w:World} {Q:Act->Prop} (f:o.guard=none) (e:TypeId) (x:Operand) (k:o.op=.load e x)
 (g:Nat) (m:a.eval x=.pointer (some ⟨g,0,none⟩)) (t:TypeId) (cs:Array Value) (fr:Nat × Nat) (d:TypeDesc) (j:w.heap[g]?=some (.cells cs t fr))
 (l:P.underlying e=some d) (i:(match d with | .struct _ | .array _ _=>true|_=>false)=true) (hi:(P.info? e).map (·.size)=some cs.size)
 (h:wpStill P c w Q b (a.put o.dst (.agg cs))):wpStill P c w Q (o :: b) a:=by
 refine wpStill_step fun K hK=>?_;simp only [Region.wanted,f,if_true];unfold Oper.still execOp;simp only [k,m,Instr.loadAt,Instr.sureAddr,Sem.run_bind,Sem.run_pure,Result.andThen_ok,run_loadVar_row w g t e cs fr d j l i hi];exact (Oper.stillUpon_value o a w K (.agg cs)).mpr (hK _ h)
theorem gR (t u:ByteArray):(t ++ u).data.toList=t.data.toList ++ u.data.toList:=by rw [ByteArray.data_append,Array.toList_append]
theorem eR (s:ByteArray) (w:World) (hs:s.size<=1099511627000) :
 Calls Tryz.prog 191 #[.string s] w fun e w'=>e=.returned (.string ⟨(zk s.data.toList).toArray⟩)/\O5 w w':=by
 obtain ⟨n,hn⟩:∃n:Nat,n=s.size:=⟨_,rfl⟩;obtain ⟨z,hz⟩:∃z:Nat,z=(119 - n % 64) % 64:=⟨_,rfl⟩;have HN:=U hn;have W:=U hz;have e2:n<=1099511627000:=by omega
 have b1:z<=63:=by omega
 clear hn hz;go_enter Tryz.func191,Tryz.ntmps191;have w0:IntKind.u64.wrap (s.size:Int)=(s.size:Int):=zc5 _ (by omega);have w1:IntKind.u64.wrap ((s.size:Int) * 8)=(s.size:Int) * 8:=zc5 _ (by omega);go_wp2
 go_loop [0] (fun v=>∃(t:ByteArray) (j:Nat),j<=z/\v=.string t/\t.size=n+1+j/\t.data.toList=s.data.toList ++ 128 :: List.replicate j 0) (fun v=>n+1+z - cC v)
 case atStart=>exact ⟨_,0,by omega,rfl,by rw [zd3,HN.o];rfl,by rw [gR];rfl⟩
 case round =>
  obtain ⟨t,j,N,rfl,T,R⟩:=hrel;have C:=U T;have K:=U R;have e4:t.size<=1099511628000:=by omega
  by_cases hjz:j=z
  . have hd:(t.size:Int) % 64=56:=by have:=(rp n j (by rw [<- W.o];exact N)).2 (by rw [<- W.o];exact hjz);omega
    clear T R;have F:=U (show t.data.toList=s.data.toList ++ 128 :: List.replicate z 0 by rw [K.o,hjz]);have G:=U (show t.size=n+1+z by rw [C.o,hjz]);clear K C N hjz;go_wp2;go_loopw [0,4,5,6] (fun v i _ _ wr=>∃(r:ByteArray) (k:Nat),k<=8/\v=.string r/\i=.int .i64 (7 - (k:Int))/\O5 w wr/\r.size=n+1+z+k/\r.data.toList=t.data.toList ++ (vY (n * 8)).take k) (fun _ i _ _ _=>((intOf i)+1).toNat)
    case atStart=>exact ⟨t,0,by omega,rfl,rfl,J0 _ _,G.o,by simp⟩
    case round =>
     obtain ⟨r,k,hk,rfl,rfl,b,a9,a0⟩:=hrel;have Z:=U a9;have J:=U a0;have V:=U b;have e3:r.size<=1099511628000:=by omega
     clear a9 a0 b;by_cases hk8:k<8
     . have d0:(0:Int)<=7 - (k:Int):=by omega
       have d1:decide ((0:Int)<=7 - (k:Int))=true:=by simp;omega
       obtain ⟨f,rfl⟩:∃f:World,f=wr:=⟨_,rfl⟩;go_wp2
       go_loop [5,6] (fun m i=>∃q:Nat,q<=7 - k/\i=.int .i64 q/\m=.int .u64 ((s.size:Int) * 8 / 256 ^ q)) (fun _ i=>7 - k - (intOf i).toNat)
       case atStart=>exact ⟨0,by omega,rfl,by simp⟩
       case round =>
        obtain ⟨q,hq,rfl,rfl⟩:=hrel;have c1:0<=(s.size:Int) * 8 / 256 ^ q:=Int.ediv_nonneg (by omega) (by have:=Int.pow_pos (n:=256) (m:=q) (by omega);omega);have c2:(s.size:Int) * 8 / 256 ^ q<=8796093016000:=by have:=Int.ediv_le_self (a:=(s.size:Int) * 8) (256 ^ q) (by omega);omega
        by_cases hq7:q<7 - k
        . have c3:=U (show (s.size:Int) * 8 / 256 ^ (q+1)=(s.size:Int) * 8 / 256 ^ q / 256 by rw [Int.pow_succ,Int.ediv_ediv_of_nonneg (by have:=Int.pow_pos (n:=256) (m:=q) (by omega);omega)]);generalize (s.size:Int) * 8 / 256 ^ q=y at *;have M:(q:Int)<7 - (k:Int):=by omega
          go_wp2
          go_round
          case rel=>exact ⟨q+1,by omega,by go_num,by rw [c3.o]⟩
          case measure=>simp [intOf];omega
        . have HQ:=U (show (s.size:Int) * 8 / 256 ^ q % 256=be8 (n * 8) k by
           rw [show q=7 - k by omega,HN.o];unfold be8;rw [show (256:Int)=2 ^ 8 from rfl,<- Int.pow_mul,show 8 * (7 - k)=56 - 8 * k by omega];push_cast;rfl)
          generalize (s.size:Int) * 8 / 256 ^ q=y at *;have M:¬(q:Int)<7 - (k:Int):=by omega
          have y1:0<=y % 256:=by omega
          have y2:y % 256<256:=by omega
          have b4:=U (show (convert 114 9 (.slice (some ⟨f.heap.size,0,none⟩) 1 1)).run Tryz.prog (f.alloc (.cells #[.int .u8 (y % 256)] 5))=.ok (.string ⟨[u8 (y % 256)].toArray⟩) (f.alloc (.cells #[.int .u8 (y % 256)] 5)) from by
           refine run_convert_bytes_back _ _ _ 5 ⟨f.heap.size,0,none⟩ 1 [u8 (y % 256)] G2 N9 Y6 fun j N=>?_;have d3:j=0:=by simp at N;omega
           subst d3;have:=(ko f #[.int .u8 (y % 256)] 5 1 rfl).cell (i:=0) (by omega);show (f.alloc _).cell? ⟨f.heap.size,0,none⟩=some (.int .u8 ((u8 (y % 256)).toNat:Int));rw [this,vb y1 y2];rfl)
          go_wp2;rw [b4.o];go_wp2;go_roundw
          case rel => refine ⟨_,k+1,by omega,rfl,by go_num,V.o.alloc (by have:=V.o.size;omega) _,by rw [zd3,Z.o];rfl,?_⟩;have e:(vY (n * 8)).take (k+1)=(vY (n * 8)).take k ++ [u8 (be8 (n * 8) k)]:=(by rw [J7 (by rw [dl];omega)];simp [vY]);rw [gR,J.o,List.append_assoc,e,<- HQ.o]
          case measure=>simp [intOf];omega
     . have d0:¬(0:Int)<=7 - (k:Int):=by omega
       have d1:decide ((0:Int)<=7 - (k:Int))=false:=by simp;omega
       have b7:=U (show r.data.toList=wQ s.data.toList by
        rw [J.o,F.o,X2 (by rw [dl];omega)];unfold wQ;rw [qp,<- HN.o,W.o])
       have D:=U (show r.size % 64=0 by rw [Z.o];have:=W.o;omega);clear J F G;obtain ⟨f,rfl⟩:∃f:World,f=wr:=⟨_,rfl⟩;go_wp2;go_loopw [8] (fun i wr=>∃q:Nat,64 * q<=r.size/\i=.int .i64 ((64 * q:Nat):Int)/\O5 w wr/\(wr.rowIs f.heap.size 245 8 fun j=>.int .u32 ((jx r.data.toList q).at j))) (fun i _=>r.size - (intOf i).toNat)
       case atStart=>exact ⟨0,by omega,rfl,V.o.alloc (by have:=V.o.size;omega) _,jz rfl⟩
       case round =>
        obtain ⟨q,hq,rfl,b,d⟩:=hrel;by_cases hq6:64 * q<r.size
        . have M:((64 * q:Nat):Int)<(r.size:Int):=by omega
          have x:=U b;have A:=U d;obtain ⟨c,hc,Q,hf⟩:=d;obtain rfl:=bH Q hf;have HC:=U hc;have Y:=U Q;clear b hc Q hf;have d2:64 * (q:Int)+64<=(r.size:Int):=by have:=D.o;omega
          have e1:64 * (q:Int)<(r.size:Int):=by omega
          have i0:IntKind.i64.wrap (64 * (q:Int)+64)=64 * (q:Int)+64:=V0 _ (by omega);have i1:(64 * (q:Int)+64).toNat=64 * q+64:=by omega
          have i2:(64 * (q:Int)).toNat=64 * q:=by omega
          have i3:0<=64 * (q:Int):=by omega
          have i4:0<=64 * (q:Int)+64:=by omega
          have i5:64 * (q:Int)<=64 * (q:Int)+64:=by omega
          go_wp2_with fail
          refine wp_region_still_tail 6 (by kernel_rfl) (by kernel_rfl) ?_;simp only [G7,List.take_zero,M4,za1];refine bU rfl 245 (.tmp 7) rfl f.heap.size rfl 245 _ (0,0) _ HC.o Tryz.underlying245 rfl (by rw [Y.o];kernel_rfl) ?_
          repeat still_step
          refine wpStill_nil ?_;go_wp2_with fail;refine (QO (jx r.data.toList q) (y6 _ _) (r.extract (64 * q) (64 * q+64)) _ (by rw [ByteArray.size_extract];omega)).mono ?_;rintro e w2 ⟨rfl,L⟩;have E:=U (qj L A.o.drew A.o.drew.lt);have I:=U (x.o.drew.trans (L.mono x.o.drew.size));clear L HC Y A x;go_wp2_with (with_reducible refine wpList_store_row rfl 245 (.tmp 7) (.tmp 55) rfl f.heap.size 245 8 _ (fun j=>.int .u32 ((jx r.data.toList (q+1)).at j)) rfl E.o _ rfl ?c1 ?c2 (fun _ _=>rfl) eL ?_)
          case c1=>simp [jq]
          case c2 => rw [we (q:=fun j=>qV r.data.toList (64 * q+j)) (fun j N=>by unfold qV;rw [V2,V2,List.getElem?_take_of_lt N,List.getElem?_drop])];exact ww _
          intro w3 h3 h4;have b2:=O0 (O5 w w3) (I.o.trans (h4.o.below (B:=w.heap.size) I.o.size (fun k hk e=>by have:=V.o.size;omega)));have b6:=U h3.o;clear h3 h4 I E;go_wp2;go_roundw
          case rel=>exact ⟨q+1,by omega,by go_num,b2.o,b6.o⟩
          case measure=>simp [intOf];omega
        . have M:¬((64 * q:Nat):Int)<(r.size:Int):=by omega
          have d2:decide (64 * (q:Int)<(r.size:Int))=false:=by simp;omega
          have HE:=U (show zk s.data.toList=pt (jx r.data.toList q) 8 by
           unfold zk;rw [<- b7.o,qp,show r.size / 64=q by have:=D.o;omega])
          have HS:=U (y6 r.data.toList q);obtain ⟨S,hS⟩:=O1 (jx r.data.toList q);rw [<- hS] at d HE HS;clear hS;have b9:=U (show ∀k,k<8->w32 (S.at k) by
           obtain ⟨a1,a2,a3,a4,a5,a6,a7,a8⟩:=HS.o;intro k hk;rcases k with _|_|_|_|_|_|_|_|k <;> first|assumption|omega)
          have d7:f.heap.size<wr.heap.size:=d.lt;have e5:=V.o.size;have A:=U d;have x:=U b;clear d b;obtain ⟨H,rfl⟩:∃H:World,H=wr:=⟨_,rfl⟩;obtain ⟨i0,hi,d5,b1,d6⟩:=K9 ug;go_wp2;go_loopw [9,10] (fun v i wr=>∃k:Nat,k<=8/\i=.int .i64 k/\wr.ownsRow H.heap.size 5 1 v (4 * k) (Lib.byteCells (pt S k))/\O5 H wr) (fun _ i _=>8 - (intOf i).toNat)
          case atStart=>exact ⟨0,by omega,rfl,⟨rfl,.inl ⟨rfl,rfl⟩⟩,J0 _ _⟩
          case round =>
           obtain ⟨k,hk,rfl,l,b⟩:=hrel;by_cases hlt:k<8
           . have c0:wr.cell? ⟨f.heap.size,k,none⟩=some (.int .u32 (S.at k)):=(qj b A.o d7).cell hlt;obtain ⟨p,b0⟩:=b9.o k hlt;obtain ⟨X,hX⟩:=O1 (S.at k);rw [<- hX] at c0 p b0;have HX:=U hX;clear hX;have m0:(k:Int)<8:=by omega
             have d4:u9.ownBlock≠some f.heap.size:=fun e=>by have:=(l.lt _ e).1;omega
             have hz:f.heap.size<wr.heap.size:=by have:=b.size;omega
             have e6:H.heap.size<=wr.heap.size:=b.size;have HO:=U l;clear l;have b3:=U b;clear b;have v1:IntKind.u8.wrap (X / 16777216)=X / 16777216:=zf0 _ (by omega);have v2:IntKind.u8.wrap (X / 65536 % 256)=X / 65536 % 256:=zf0 _ (by omega);have v3:IntKind.u8.wrap (X / 256 % 256)=X / 256 % 256:=zf0 _ (by omega);have v4:IntKind.u8.wrap (X % 256)=X % 256:=zf0 _ (by omega);have n0:(0:Int)<=(k:Int):=by omega
             have t1:X.tdiv 16777216=X / 16777216:=M5 p;have t2:X.tdiv 65536=X / 65536:=M5 p;have t3:X.tdiv 256=X / 256:=M5 p;have t4:X.tmod 256=X % 256:=M6 p;have t5:IntKind.u32.wrap (X / 16777216)=X / 16777216:=IntWalk.u32_in _ (by omega);have t6:IntKind.u32.wrap (X / 65536)=X / 65536:=IntWalk.u32_in _ (by omega);have t7:IntKind.u32.wrap (X / 256)=X / 256:=IntWalk.u32_in _ (by omega);have t8:(X / 65536).tmod 256=X / 65536 % 256:=M6 (by omega);have t9:(X / 256).tmod 256=X / 256 % 256:=M6 (by omega);have c4:=O0 (∀o,H.heap.size<=((wr.alloc o).drew).heap.size) (fun o=>by simp <;> omega);have c5:=O0 (∀o,((wr.alloc o).drew).heap.size=wr.heap.size+1) (fun o=>by simp);have c6:=U (show 4 * k+4<=maxLen by unfold maxLen;omega);have c7:=U (show (4 * k+4) * 1<=140737488355328 by omega);have c9:=U (show ∀u ∈ [Value.int .u8 (X / 16777216),.int .u8 (X / 65536 % 256),.int .u8 (X / 256 % 256),.int .u8 (X % 256)],u.oneCell'=true by simp [Value.oneCell']);go_wp2_with fail
             go_region_held3 (fun w'=>w'.cell? ⟨f.heap.size,k,none⟩=some (.int .u32 X)) (first|go_keep|(rw [hgrow.cell_far _ (by simp <;> omega) (Ne.symm d4)];assumption)) ((refine N5 _ (by rfl) _ _ _ (by rfl) H.heap.size 5 i0 _ 1 1 G2 hi d5 b1 d6 rfl (by omega) _ (4 * k) _ (by rfl) ((HO.o.alloc _).drew) ⟨wr.heap.size,0,none⟩ 4 4 [.int .u8 (X / 16777216),.int .u8 (X / 65536 % 256),.int .u8 (X / 256 % 256),.int .u8 (X % 256)] (by rfl) (by rfl) (Y0 (cs:=#[.int .u8 (X / 16777216),.int .u8 (X / 65536 % 256),.int .u8 (X / 256 % 256),.int .u8 (X % 256)]) (t:=5) (fr:=(0,0)) (J2 wr _)) c9.o (Nat.succ_pos 3) c6.o c7.o (c4.o _) (wr.heap.size+1) (c5.o _) ?_;intro gg cap w6 hown1 hgrow hat hlt6))
             all_goals
              have b5:=U hown1;have HG:=U hgrow;clear hown1 hgrow hat;go_wp2;go_roundw
              case rel =>
               refine ⟨k+1,by omega,by go_num,?_,?_⟩
               . rw [show 4 * (k+1)=4 * k+4 by omega,uy S k X HX.o p b0];exact b5.o
               . exact ((b3.o.alloc (by omega) _).drew).grown HG.o (by simp;omega) (fun g hg=>(HO.o.lt g hg).1)
              case measure=>simp [intOf];omega
           . obtain rfl:k=8:=by omega
             have e0:=zA (P:=Tryz.prog) 114 9 5 G2 N9 Y6 l;have HF:Hid (O5 w wr):=x.o.trans (b.mono (by omega));clear l b hlt hk;go_wp2;go_ret;exact ⟨by rw [HE.o];rfl,HF.o⟩
  . have hd:¬(t.size:Int) % 64=56:=by
     intro h;have:=(rp n j (by rw [<- W.o];exact N)).1 (by omega);rw [<- W.o] at this;exact hjz this
    clear T R;go_wp2;refine ⟨⟨_,j+1,by omega,rfl,by rw [zd3,C.o];rfl,by rw [gR,K.o,List.append_assoc,List.cons_append,List.replicate_succ']⟩,?_⟩;show n+1+z - (t ++ _).size<n+1+z - t.size;rw [zd3,C.o];show n+1+z - (n+1+j+1)<_;omega
