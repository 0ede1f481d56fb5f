/- The law SnapElse, its second part: the snapshot's object with a name more. Printed by genelse.py. -/
import Derived.Test.YtgghgcilpfdbjaaGreatDoorSu36
import Derived.Test.YtgghgcilpfdbjaaGreatDoorSu34
import Derived.Test.YtgghgcilpfdbjaaGreatDoorSu19
import Derived.Test.YtgghgcilpfdbjaaGreatDoorSu03
import Derived.Test.YtgghgcilpfdbjaaGreatDoorSu21

namespace Go.Proofs.YtgghgcilpfdbjaaGreatDoor
open Go.RowKit Go.Shelf Go.Sort
def MP.mem (lo hi : Nat) (J : JV) : MP := ⟨fun w x => hi ≤ w.heap.size ∧ ∃ ms, MemsAt lo w x ms J.items ∧ ms.map (·.name) = J.names ∧ w.ownsRow hi 74 6 x ms.length (flatM ms) ∧ ∀ (i : Nat) (it : JV) (m : Mem), J.items[i]? = some it → ms[i]? = some m → Rep w lo hi it m.val,
 fun _ _ _ hb ⟨h0, ms, h1, h2, h3, h4⟩ => ⟨Nat.le_trans h0 hb.size, ms, h1.below hb, h2, owns_below h3 hb, fun i it m e1 e2 => Rep.carry (Nat.le_refl _) (Nat.le_refl _) (fun b _ q => hb.block b (Nat.lt_of_lt_of_le q h0)) _ _ (h4 i it m e1 e2)⟩⟩
theorem rep_rows {w : World} {lo hi nn cn ni ci : Nat} {v : JV} {x0 x1 x2 : Value} {an ai : Option Addr} (h : Rep w lo hi v (.agg #[x0, x1, x2, .slice an nn cn, .slice ai ni ci])) : StrsAt w lo hi an v.names ∧ ValsAt w lo hi ai v.items := by
 obtain ⟨an', cn', ai', ci', e, -, -, h3, h4⟩ := h.parts
 simp only [Value.agg.injEq, Array.mk.injEq, List.cons.injEq, Value.slice.injEq, and_true] at e
 obtain ⟨-, -, -, ⟨rfl, -⟩, rfl, -⟩ := e
 exact ⟨h3, h4⟩
def tailAt : Nat → Code → Code
 | 0, c => c
 | n + 1, .seq _ b => tailAt n b
 | _ + 1, _ => .skip
set_option maxHeartbeats 16000000 in
set_option maxRecDepth 100000 in
theorem lawElseC (P : PinV) (pa : Option Addr) (pc : Nat) (which : Int) (w W2 w10 W12 W14 w15 W20 w29 : World) (J : JV) (g2 c2 n2 : Nat) (a2 : Option Addr) (mm : List Mem) (u0 u1 u2 u3 u5 u7 u8 u9 u10 u11 u12 u13 u14 u15 u17 u18 u19 u20 u21 u22 u23 u24 u25 u26 u27 u28 u29 u30 u31 u32 u33 u34 u35 u36 u37 u38 u39 u40 u41 u42 u43 u44 u45 u46 u47 u48 u49 u50 u51 u52 u53 u54 u55 u56 u57 u58 u59 u60 u61 u62 u63 u64 u65 u66 u67 u68 u69 u70 u71 u72 u73 u74 u75 u76 u77 u78 u79 u80 u81 u82 u83 u84 u85 u86 u87 u88 u89 u90 u91 u92 u93 u94 u95 u96 u97 u98 u99 u100 u101 u102 u103 u104 u105 u106 u107 u108 u109 u110 u111 u112 u113 u114 u115 u116 u117 u118 u119 u120 u121 u122 u123 u124 u125 u126 u127 u128 u129 u130 u131 u132 u133 u134 u135 u136 u137 u138 u139 u140 u141 u142 u143 u144 u145 u146 u147 u148 u149 u150 u151 u152 u153 u154 u155 u156 u157 u158 u159 u160 u161 u162 u163 u164 u165 u166 u167 u168 u169 u170 u171 u172 u173 u174 u175 u176 u177 u178 u179 u180 u181 u182 u183 u184 u185 u186 u187 u188 u189 u190 u191 u192 u193 u194 u195 u196 u197 u198 u199 u200 u201 u202 u203 u204 u205 u206 u207 u208 u209 u210 u211 u212 u213 u214 u215 u216 u217 u218 u219 u220 u221 u222 u223 u224 u225 u226 u227 u228 u229 u230 u231 u232 u233 u234 u235 u236 u237 u238 u239 u240 u241 u242 u243 u244 u245 u246 u247 u248 u249 u250 u251 u252 u253 u254 u255 u256 u257 u258 u259 : Value) (hkl : P.hs.length ≤ 9223372036854775807) (hwh : in64 which)
   (qHB2 : Below w.heap.size w W2)
   (qHB : Below W2.heap.size W2 w29)
   (qHKA : ∀ w' : World, Below W2.heap.size W2 w' → KeysAt w' 0 w'.heap.size pa P.hs)
   (qHPM : mayPin P = true)
   (qHSH2 : P.name.size ≤ 1000 ∧ P.hs.length ≤ 500 ∧ ∀ k ∈ P.hs, k.1.size ≤ 5000 ∧ k.2.size ≤ 5000)
   (qHB80 : 0 < w10.heap.size)
   (qHZP : w10.heap.size ≤ W12.heap.size ∧ W12.heap.size ≤ W14.heap.size)
   (qHZ20 : W14.heap.size ≤ W20.heap.size ∧ w15.heap.size ≤ W20.heap.size)
   (qHB20 : Below W20.heap.size W20 w29)
   (qHMM : MemsAt W12.heap.size W20 (.slice (some ⟨g2, 0, none⟩) mm.length c2) mm J.items)
   (qHO2 : W20.ownsRow W14.heap.size 74 6 (.slice (some ⟨g2, 0, none⟩) mm.length c2) mm.length (flatM mm))
   (qHNM : mm.map (·.name) = J.names)
   (qHJP : pinJ P = J)
   (qHJL : J.items.length = J.names.length ∧ 1 ≤ J.names.length ∧ J.names.length ≤ 3)
   (qHL5 : n2 = J.names.length)
   (qHN2 : n2 = mm.length)
   (qHA2 : a2 = some ⟨g2, 0, none⟩)
   (qHXP : w29.heap[w.heap.size + 1]? = some (.cells #[.string P.name, .int .i64 P.ver, .int .i64 P.len, .slice pa P.hs.length pc] 36 (0, 0)))
   : Code.wp Tryz.prog (tailAt 16 (Tryz.f10.body.getD .skip)) (bodyPost Tryz.prog Tryz.f10 fun r w' => r = .returned (.bool true) ∧ Below w.heap.size w w') ⟨#[u0, u1, u2, u3, .int .i64 which, u5, .pointer (some ⟨w.heap.size + 1, 0, none⟩), u7, u8, u9, u10, u11, u12, u13, u14, u15, .slice a2 n2 c2, u17, u18, u19, u20, u21, u22, u23, u24, u25, u26, u27, u28, u29, u30, u31, u32, u33, u34, u35, u36, u37, u38, u39, u40, u41, u42, u43, u44, u45, u46, u47, u48, u49, u50, u51, u52, u53, u54, u55, u56, u57, u58, u59, u60, u61, u62, u63, u64, u65, u66, u67, u68, u69, u70, u71, u72, u73, u74, u75, u76, u77, u78, u79, u80, u81, u82, u83, u84, u85, u86, u87, u88, u89, u90, u91, u92, u93, u94, u95, u96, u97, u98, u99, u100, u101, u102, u103, u104, u105, u106, u107, u108, u109, u110, u111, u112, u113, u114, u115, u116, u117, u118, u119, u120, u121, u122, u123, u124, u125, u126, u127, u128, u129, u130, u131, u132, u133, u134, u135, u136, u137, u138, u139, u140, u141, u142, u143, u144, u145, u146, u147, u148, u149, u150, u151, u152, u153, u154, u155, u156, u157, u158, u159, u160, u161, u162, u163, u164, u165, u166, u167, u168, u169, u170, u171, u172, u173, u174, u175, u176, u177, u178, u179, u180, u181, u182, u183, u184, u185, u186, u187, u188, u189, u190, u191, u192, u193, u194, u195, u196, u197, u198, u199, u200, u201, u202, u203, u204, u205, u206, u207, u208, u209, u210, u211, u212, u213, u214, u215, u216, u217, u218, u219, u220, u221, u222, u223, u224, u225, u226, u227, u228, u229, u230, u231, u232, u233, u234, u235, u236, u237, u238, u239, u240, u241, u242, u243, u244, u245, u246, u247, u248, u249, u250, u251, u252, u253, u254, u255, u256, u257, u258, u259], []⟩ w29 := by
 have HB2 := Lib.hid qHB2
 have HB := Lib.hid qHB
 have HKA := Lib.hid qHKA
 have HPM := Lib.hid qHPM
 have HSH2 := Lib.hid qHSH2
 have HB80 := Lib.hid qHB80
 have HZP := Lib.hid qHZP
 have HZ20 := Lib.hid qHZ20
 have HB20 := Lib.hid qHB20
 have HMM := Lib.hid qHMM
 have HO2 := Lib.hid qHO2
 have HNM := Lib.hid qHNM
 have HJP := Lib.hid qHJP
 have HJL := Lib.hid qHJL
 have HL5 := Lib.hid qHL5
 have HN2 := Lib.hid qHN2
 have HA2 := Lib.hid qHA2
 have HXP := Lib.hid qHXP
 have HWH := Lib.hid hwh
 clear hwh qHB2 qHB qHKA qHPM qHSH2 qHB80 qHZP qHZ20 qHB20 qHMM qHO2 qHNM qHJP qHJL qHL5 qHN2 qHA2 qHXP
 conv => arg 2; whnf
 obtain ⟨i1, hi1, hy0, hy1, hy2⟩ := info_parts infoMember
 have hj2 := HJL.out.2
 have hl5 := HL5.out
 have hjl : 1 ≤ n2 ∧ n2 ≤ 3 := ⟨by have := HN2.out; omega, by have := HN2.out; omega⟩
 obtain ⟨n, hn, hn1, hn2⟩ := ix_at which n2 (by omega) (by omega)
 have hu : IntKind.u64.wrap (n2 : Int) = (n2 : Int) := IntWalk.u64_in _ (by omega)
 clear hj2 hl5
 have HNI := Lib.hid hn
 replace HO2 := Lib.hid (owns_below HO2.out HB20.out)
 replace HMM := Lib.hid (HMM.out.below HB20.out)
 have H29 := Lib.hid (show w10.heap.size ≤ w29.heap.size ∧ W12.heap.size ≤ w29.heap.size from ⟨Nat.le_trans (Nat.le_trans HZP.out.1 HZP.out.2) (Nat.le_trans HZ20.out.1 HB20.out.size), Nat.le_trans HZP.out.2 (Nat.le_trans HZ20.out.1 HB20.out.size)⟩)
 have HB29 := Lib.hid (Below.refl w29.heap.size w29)
 clear HB20
 go_wp2_with fail
 clear hn1 hn2 hu
 have hkc : n ≤ c2 := by have := own_cap HO2.out; have := HN2.out; omega
 have hnc : n2 ≤ c2 := by have := own_cap HO2.out; have := HN2.out; omega
 have hw110 : IntKind.i64.wrap ((n : Int) + 1) = (n : Int) + 1 := IntWalk.i64_in _ (by omega)
 obtain ⟨a4, c4, hs4⟩ : ∃ a4 c4, Value.slice (if c2 = n + 1 then a2 else Option.map (fun x => x.add ((n + 1) * 6)) a2) (n2 - (n + 1)) (c2 - (n + 1)) = .slice a4 (n2 - (n + 1)) c4 := ⟨_, _, rfl⟩
 have HSL2 := Lib.hid hs4
 have HNW3 := Lib.hid (show ∀ w' : World, Below w29.heap.size w29 w' → 0 < n → ∃ ad, a2 = some ad ∧ ∀ j u, (flatM (mm.take n))[j]? = some u → w'.cell? (ad.add j) = some u from fun w' h _ => ⟨_, HA2.out, own_first (owns_below HO2.out h) n⟩)
 have HNW4 := Lib.hid (show ∀ w' : World, Below w29.heap.size w29 w' → 0 < n2 - (n + 1) → ∃ ad, a4 = some ad ∧ ∀ j u, (flatM (mm.drop (n + 1)))[j]? = some u → w'.cell? (ad.add j) = some u from fun w' h h0 => by
   have := HN2.out
   have := HNI.out
   refine ⟨(⟨g2, 0, none⟩ : Addr).add ((n + 1) * 6), ?_, own_behind (owns_below HO2.out h) (n + 1) (by omega)⟩
   have e := HSL2.out
   rw [if_neg (by omega), HA2.out] at e
   injection e with e1
   exact e1.symm)
 have HOB2 := Lib.hid (show ∀ (w' : World) (y : Value), Below w29.heap.size w29 w' → w'.ownsRow w29.heap.size 74 6 y (n + (n2 - (n + 1))) (flatM (mm.take n) ++ flatM (mm.drop (n + 1))) → (∃ g c, y = .slice (some ⟨g, 0, none⟩) (n + (n2 - (n + 1))) c) → Calls Tryz.prog 42 #[y] w' (fun r w2 => ∃ an cn ai ci, r = .returned (tupR 0 (aggV (objJ ((pinM P).eraseIdx n)) an cn ai ci)) ∧ Rep w2 w'.heap.size w2.heap.size (objJ ((pinM P).eraseIdx n)) (.agg (aggV (objJ ((pinM P).eraseIdx n)) an cn ai ci)) ∧ Below w'.heap.size w' w2) from fun w' y h ho hf => by
   have hn2 := HN2.out
   rw [hn2] at ho hf
   have hmm := HMM.out
   have hnm := HNM.out
   rw [← HJP.out] at hmm hnm
   exact less_obj (N := pinM P) hmm hnm H29.out.2 (Nat.lt_of_lt_of_le HB80.out HZP.out.1) h (by have := HNI.out; omega) ho hf (pin_less_rises P n) (by have := (pinM_rises P).2; omega) (pinM_wts HPM.out))
 clear hs4
 obtain ⟨V, hV⟩ : ∃ V : List MP, V = [.form 0, .con (.slice a2 n2 c2), .con (.int .i64 (n : Int)), .con (.slice a2 n c2), .form n, .con (.slice a2 n2 c2), .con (.int .i64 (n : Int)), .con (.int .i64 ((n : Int) + 1)), .con (.slice a4 (n2 - (n + 1)) c4), .form (n + (n2 - (n + 1))), .any, .any, .any, .con (.int .i64 0), .blk w29.heap.size 30 #[.int .u8 0, .int .i64 0, .string { data := #[] }, .slice none 0 0, .slice none 0 0]] := ⟨_, rfl⟩
 have HV := Lib.hid hV
 clear hV
 refine wp_region_free 15 13 (fun d a' w' => ∃ x219 x220 x221 x222 x223 x224 x225 x226 x227 x228 x229 x218 x230 x231 x31, a' = ⟨#[u0, u1, u2, u3, .int .i64 which, u5, .pointer (some ⟨w.heap.size + 1, 0, none⟩), u7, u8, u9, u10, u11, u12, u13, u14, u15, .slice a2 n2 c2, u17, u18, u19, u20, u21, u22, u23, u24, u25, u26, u27, u28, u29, .int .i64 (n : Int), x31, u32, u33, u34, u35, u36, u37, u38, u39, u40, u41, u42, u43, u44, u45, u46, u47, u48, u49, u50, u51, u52, u53, u54, u55, u56, u57, u58, u59, u60, u61, u62, u63, u64, u65, u66, u67, u68, u69, u70, u71, u72, u73, u74, u75, u76, u77, u78, u79, u80, u81, u82, u83, u84, u85, u86, u87, u88, u89, u90, u91, u92, u93, u94, u95, u96, u97, u98, u99, u100, u101, u102, u103, u104, u105, u106, u107, u108, u109, u110, u111, u112, u113, u114, u115, u116, u117, u118, u119, u120, u121, u122, u123, u124, u125, u126, u127, u128, u129, u130, u131, u132, u133, u134, u135, u136, u137, u138, u139, u140, u141, u142, u143, u144, u145, u146, u147, u148, u149, u150, u151, u152, u153, u154, u155, u156, u157, u158, u159, u160, u161, u162, u163, u164, u165, u166, u167, u168, u169, u170, u171, u172, u173, u174, u175, u176, u177, u178, u179, u180, u181, u182, u183, u184, u185, u186, u187, u188, u189, u190, u191, u192, u193, u194, u195, u196, u197, u198, u199, u200, u201, u202, u203, u204, u205, u206, u207, u208, u209, u210, .int .i64 which, .int .u64 (IntKind.u64.wrap which), .slice a2 n2 c2, .int .i64 (n2 : Int), .int .u64 (n2 : Int), .int .u64 ((IntKind.u64.wrap which).tmod (n2 : Int)), .int .i64 (n : Int), x218, x219, x220, x221, x222, x223, x224, x225, x226, x227, x228, x229, x230, x231, u232, u233, u234, u235, u236, u237, u238, u239, u240, u241, u242, u243, u244, u245, u246, u247, u248, u249, u250, u251, u252, u253, u254, u255, u256, u257, u258, u259], []⟩ ∧ RegI w29 V d w' [x219, x220, x221, x222, x223, x224, x225, x226, x227, x228, x229, x218, x230, x231, x31] ∧ LessI w29.heap.size 74 n (n2 - (n + 1)) (flatM (mm.take n)) (flatM (mm.drop (n + 1))) W12.heap.size (fun v_ => v_ = objJ ((pinM P).eraseIdx n)) 0 d w' x219 x223 x228 x229 x218 x230 x31) (fun ee a' w' => ∃ x219 x220 x221 x222 x223 x224 x225 x226 x227 x228 x229 x230 x231 b18 cs0, a' = ⟨#[u0, u1, u2, u3, .int .i64 which, u5, .pointer (some ⟨w.heap.size + 1, 0, none⟩), u7, u8, u9, u10, u11, u12, u13, u14, u15, .slice a2 n2 c2, u17, u18, u19, u20, u21, u22, u23, u24, u25, u26, u27, u28, u29, .int .i64 (n : Int), .pointer (some ⟨b18, 0, none⟩), u32, u33, u34, u35, u36, u37, u38, u39, u40, u41, u42, u43, u44, u45, u46, u47, u48, u49, u50, u51, u52, u53, u54, u55, u56, u57, u58, u59, u60, u61, u62, u63, u64, u65, u66, u67, u68, u69, u70, u71, u72, u73, u74, u75, u76, u77, u78, u79, u80, u81, u82, u83, u84, u85, u86, u87, u88, u89, u90, u91, u92, u93, u94, u95, u96, u97, u98, u99, u100, u101, u102, u103, u104, u105, u106, u107, u108, u109, u110, u111, u112, u113, u114, u115, u116, u117, u118, u119, u120, u121, u122, u123, u124, u125, u126, u127, u128, u129, u130, u131, u132, u133, u134, u135, u136, u137, u138, u139, u140, u141, u142, u143, u144, u145, u146, u147, u148, u149, u150, u151, u152, u153, u154, u155, u156, u157, u158, u159, u160, u161, u162, u163, u164, u165, u166, u167, u168, u169, u170, u171, u172, u173, u174, u175, u176, u177, u178, u179, u180, u181, u182, u183, u184, u185, u186, u187, u188, u189, u190, u191, u192, u193, u194, u195, u196, u197, u198, u199, u200, u201, u202, u203, u204, u205, u206, u207, u208, u209, u210, .int .i64 which, .int .u64 (IntKind.u64.wrap which), .slice a2 n2 c2, .int .i64 (n2 : Int), .int .u64 (n2 : Int), .int .u64 ((IntKind.u64.wrap which).tmod (n2 : Int)), .int .i64 (n : Int), .tuple #[.agg cs0, .int .i64 0], x219, x220, x221, x222, x223, x224, x225, x226, x227, x228, x229, x230, x231, u232, u233, u234, u235, u236, u237, u238, u239, u240, u241, u242, u243, u244, u245, u246, u247, u248, u249, u250, u251, u252, u253, u254, u255, u256, u257, u258, u259], []⟩ ∧ (ee → x231 = .int .i64 0) ∧ Below w29.heap.size w29 w' ∧ w29.heap.size ≤ b18 ∧ ∃ v_ an cn ai ci, (fun v_ => v_ = objJ ((pinM P).eraseIdx n)) v_ ∧ w'.heap[b18]? = some (.cells (aggV v_ an cn ai ci) 30 (0, 0)) ∧ Rep w' W12.heap.size w'.heap.size v_ (.agg (aggV v_ an cn ai ci))) (by kernel_rfl) (by kernel_rfl) (by kernel_rfl) ?first ?step ?store ?late ?last
 case first => exact ⟨_, _, _, _, _, _, _, _, _, _, _, _, _, _, _, rfl, RegI.first _ _ _ (by rw [HV.out]; rfl), LessI.first⟩
 case step =>
   rintro d a' w' ⟨x219, x220, x221, x222, x223, x224, x225, x226, x227, x228, x229, x218, x230, x231, x31, rfl, h, ht⟩ q hq hn hw
   have hsz := h.1.size
   rcases q with _ | _ | _ | _ | _ | _ | _ | _ | _ | _ | _ | _ | _ | _ | _ | q
   · refine wpOp_step rfl fun K hK => ?_
     go_simp
     exact hK _ _ ⟨_, x220, x221, x222, x223, x224, x225, x226, x227, x228, x229, x218, x230, x231, x31, rfl, h.new _ 0 _ (.form 0) (by rw [HV.out]; rfl) ⟨_, _, rfl⟩, ht.s0 hsz hn⟩
   · refine wpOp_step rfl fun K hK => ?_
     go_simp
     exact hK _ _ ⟨x219, _, x221, x222, x223, x224, x225, x226, x227, x228, x229, x218, x230, x231, x31, rfl, h.same 1 _ _ (by rw [HV.out]; rfl) rfl, ht.same 1 (by decide)⟩
   · refine wpOp_step rfl fun K hK => ?_
     go_simp
     exact hK _ _ ⟨x219, x220, _, x222, x223, x224, x225, x226, x227, x228, x229, x218, x230, x231, x31, rfl, h.same 2 _ _ (by rw [HV.out]; rfl) rfl, ht.same 2 (by decide)⟩
   · have hd1 : d 1 := hw _ rfl ⟨1, .data⟩ (by simp) rfl
     obtain rfl : x220 = .slice a2 n2 c2 := h.get 1 hd1 (.con (.slice a2 n2 c2)) (by rw [HV.out]; rfl) _ rfl
     have hd2 : d 2 := hw _ rfl ⟨2, .data⟩ (by simp) rfl
     obtain rfl : x221 = .int .i64 (n : Int) := h.get 2 hd2 (.con (.int .i64 (n : Int))) (by rw [HV.out]; rfl) _ rfl
     refine wpOp_step rfl fun K hK => ?_
     go_simp
     exact hK _ _ ⟨x219, _, _, _, x223, x224, x225, x226, x227, x228, x229, x218, x230, x231, x31, rfl, h.same 3 _ _ (by rw [HV.out]; rfl) rfl, ht.same 3 (by decide)⟩
   · have hd0 : d 0 := hw _ rfl ⟨0, .data⟩ (by simp) rfl
     have hd3 : d 3 := hw _ rfl ⟨3, .data⟩ (by simp) rfl
     obtain rfl : x222 = .slice a2 n c2 := h.get 3 hd3 (.con (.slice a2 n c2)) (by rw [HV.out]; rfl) _ rfl
     refine wpOp_step rfl fun K hK => ?_
     have ho := ht.1.own0 hd0 hn
     have hfm : ∃ g c, x219 = .slice (some ⟨g, 0, none⟩) 0 c := h.get 0 hd0 (.form 0) (by rw [HV.out]; rfl) _ rfl
     refine wp_append_any (.tmp 219) (.tmp 222) 70 rfl w29.heap.size 74 i1 _ 6 96 Tryz.underlying70 hi1 hy0 hy1 hy2 rfl (by omega) x219 0 [] rfl ho a2 n c2 (flatM (mm.take n)) rfl (by rw [flatM_len]; have := HN2.out; simp only [List.length_take]; omega) (HNW3.out w' h.1) (fun u hu => flatM_one _ u hu) (by unfold maxLen; omega) (by omega) hsz _ rfl ?_
     intro a5 c5 w5 ho5 hg5 hat5
     simp only [Nat.zero_add, List.nil_append] at ho5 hat5 ⊢
     have hf5 := own_form ho5 (by obtain ⟨g0, c0, e0⟩ := hfm; rw [e0] at hat5; rcases hat5 with e5 | e5 <;> rw [e5] <;> simp [Value.ownBlock])
     have hb5 := below_grown h.1 hsz hg5 (fun b hb => (ho.lt b hb).1)
     have hlt := ht.late fun e9 => hn (ht.1.o2 e9)
     have hkeep : ∀ (j : Nat) (m : MP) (x : Value), V[j]? = some m → d j → m.p w' x → m.p w5 x := by
       intro j m x hm hd hp
       rw [HV.out] at hm
       rcases j with _ | _ | _ | _ | _ | _ | _ | _ | _ | _ | _ | _ | _ | _ | _ | j
       · obtain rfl := Option.some.inj hm
         exact hp
       · obtain rfl := Option.some.inj hm
         exact hp
       · obtain rfl := Option.some.inj hm
         exact hp
       · obtain rfl := Option.some.inj hm
         exact hp
       · obtain rfl := Option.some.inj hm
         exact hp
       · obtain rfl := Option.some.inj hm
         exact hp
       · obtain rfl := Option.some.inj hm
         exact hp
       · obtain rfl := Option.some.inj hm
         exact hp
       · obtain rfl := Option.some.inj hm
         exact hp
       · obtain rfl := Option.some.inj hm
         exact hp
       · exact absurd hd hlt.1
       · exact absurd hd hlt.2.1
       · exact absurd hd hlt.2.2
       · obtain rfl := Option.some.inj hm
         exact hp
       · obtain rfl := Option.some.inj hm
         obtain ⟨b, e1, e2, e3⟩ := hp
         exact ⟨b, e1, e2, by rw [hg5.block b (heap_lt e3) (fun e => Boxed_ne ho e3 e.symm)]; exact e3⟩
       · cases hm
     exact hK _ _ ⟨x219, x220, x221, _, _, x224, x225, x226, x227, x228, x229, x218, x230, x231, x31, rfl, h.grow hb5 hkeep 4 _ (.form n) (by rw [HV.out]; rfl) hf5, ht.s4 hd0 hn ho5⟩
   · refine wpOp_step rfl fun K hK => ?_
     go_simp
     exact hK _ _ ⟨x219, x220, x221, x222, x223, _, x225, x226, x227, x228, x229, x218, x230, x231, x31, rfl, h.same 5 _ _ (by rw [HV.out]; rfl) rfl, ht.same 5 (by decide)⟩
   · refine wpOp_step rfl fun K hK => ?_
     go_simp
     exact hK _ _ ⟨x219, x220, x221, x222, x223, x224, _, x226, x227, x228, x229, x218, x230, x231, x31, rfl, h.same 6 _ _ (by rw [HV.out]; rfl) rfl, ht.same 6 (by decide)⟩
   · have hd6 : d 6 := hw _ rfl ⟨6, .data⟩ (by simp) rfl
     obtain rfl : x225 = .int .i64 (n : Int) := h.get 6 hd6 (.con (.int .i64 (n : Int))) (by rw [HV.out]; rfl) _ rfl
     refine wpOp_step rfl fun K hK => ?_
     go_simp
     exact hK _ _ ⟨x219, x220, x221, x222, x223, x224, _, _, x227, x228, x229, x218, x230, x231, x31, rfl, h.same 7 _ _ (by rw [HV.out]; rfl) rfl, ht.same 7 (by decide)⟩
   · have hd5 : d 5 := hw _ rfl ⟨5, .data⟩ (by simp) rfl
     obtain rfl : x224 = .slice a2 n2 c2 := h.get 5 hd5 (.con (.slice a2 n2 c2)) (by rw [HV.out]; rfl) _ rfl
     have hd7 : d 7 := hw _ rfl ⟨7, .data⟩ (by simp) rfl
     obtain rfl : x226 = .int .i64 ((n : Int) + 1) := h.get 7 hd7 (.con (.int .i64 ((n : Int) + 1))) (by rw [HV.out]; rfl) _ rfl
     refine wpOp_step rfl fun K hK => ?_
     go_simp
     rw [if_pos (by omega)]
     rw [HSL2.out]
     exact hK _ _ ⟨x219, x220, x221, x222, x223, _, x225, _, _, x228, x229, x218, x230, x231, x31, rfl, h.same 8 _ _ (by rw [HV.out]; rfl) rfl, ht.same 8 (by decide)⟩
   · have hd4 : d 4 := hw _ rfl ⟨4, .data⟩ (by simp) rfl
     have hd8 : d 8 := hw _ rfl ⟨8, .data⟩ (by simp) rfl
     obtain rfl : x227 = .slice a4 (n2 - (n + 1)) c4 := h.get 8 hd8 (.con (.slice a4 (n2 - (n + 1)) c4)) (by rw [HV.out]; rfl) _ rfl
     refine wpOp_step rfl fun K hK => ?_
     have ho := ht.1.own1 hd4 hn
     have hfm : ∃ g c, x223 = .slice (some ⟨g, 0, none⟩) n c := h.get 4 hd4 (.form n) (by rw [HV.out]; rfl) _ rfl
     refine wp_append_any (.tmp 223) (.tmp 227) 70 rfl w29.heap.size 74 i1 _ 6 96 Tryz.underlying70 hi1 hy0 hy1 hy2 rfl (by omega) x223 n (flatM (mm.take n)) rfl ho a4 (n2 - (n + 1)) c4 (flatM (mm.drop (n + 1))) rfl (by rw [flatM_len]; have := HN2.out; simp only [List.length_drop]; omega) (HNW4.out w' h.1) (fun u hu => flatM_one _ u hu) (by unfold maxLen; omega) (by omega) hsz _ rfl ?_
     intro a5 c5 w5 ho5 hg5 hat5
     have hf5 := own_form ho5 (by obtain ⟨g0, c0, e0⟩ := hfm; rw [e0] at hat5; rcases hat5 with e5 | e5 <;> rw [e5] <;> simp [Value.ownBlock])
     have hb5 := below_grown h.1 hsz hg5 (fun b hb => (ho.lt b hb).1)
     have hlt := ht.late hn
     have hkeep : ∀ (j : Nat) (m : MP) (x : Value), V[j]? = some m → d j → m.p w' x → m.p w5 x := by
       intro j m x hm hd hp
       rw [HV.out] at hm
       rcases j with _ | _ | _ | _ | _ | _ | _ | _ | _ | _ | _ | _ | _ | _ | _ | j
       · obtain rfl := Option.some.inj hm
         exact hp
       · obtain rfl := Option.some.inj hm
         exact hp
       · obtain rfl := Option.some.inj hm
         exact hp
       · obtain rfl := Option.some.inj hm
         exact hp
       · obtain rfl := Option.some.inj hm
         exact hp
       · obtain rfl := Option.some.inj hm
         exact hp
       · obtain rfl := Option.some.inj hm
         exact hp
       · obtain rfl := Option.some.inj hm
         exact hp
       · obtain rfl := Option.some.inj hm
         exact hp
       · obtain rfl := Option.some.inj hm
         exact hp
       · exact absurd hd hlt.1
       · exact absurd hd hlt.2.1
       · exact absurd hd hlt.2.2
       · obtain rfl := Option.some.inj hm
         exact hp
       · obtain rfl := Option.some.inj hm
         obtain ⟨b, e1, e2, e3⟩ := hp
         exact ⟨b, e1, e2, by rw [hg5.block b (heap_lt e3) (fun e => Boxed_ne ho e3 e.symm)]; exact e3⟩
       · cases hm
     exact hK _ _ ⟨x219, x220, x221, x222, x223, x224, x225, x226, _, _, x229, x218, x230, x231, x31, rfl, h.grow hb5 hkeep 9 _ (.form (n + (n2 - (n + 1)))) (by rw [HV.out]; rfl) hf5, ht.s9 hd4 hn ho5⟩
   · have hd9 : d 9 := hw _ rfl ⟨9, .data⟩ (by simp) rfl
     refine wpOp_step rfl fun K hK => ?_
     go_simp
     refine (HOB2.out w' _ h.1 (ht.1.own2 hd9) (h.get 9 hd9 (.form (n + (n2 - (n + 1)))) (by rw [HV.out]; rfl) _ rfl)).mono ?_
     rintro r w2 ⟨an, cn, ai, ci, rfl, hr, hb⟩
     exact hK _ _ ⟨x219, x220, x221, x222, x223, x224, x225, x226, x227, x228, _, x218, x230, x231, x31, rfl, h.did hb 10 _ .any (by rw [HV.out]; rfl) trivial, ht.s10 hd9 hb _ _ _ _ _ rfl (Nat.le_trans H29.out.2 hsz) hr (fun hd b e => by obtain ⟨b', _, e', m'⟩ := h.get 14 hd (.blk w29.heap.size 30 #[.int .u8 0, .int .i64 0, .string { data := #[] }, .slice none 0 0, .slice none 0 0]) (by rw [HV.out]; rfl) _ rfl; rw [e'] at e; cases e; exact heap_lt m')⟩
   · have hd10 : d 10 := hw _ rfl ⟨10, .data⟩ (by simp) rfl
     refine wpOp_step rfl fun K hK => ?_
     go_simp
     exact hK _ _ ⟨x219, x220, x221, x222, x223, x224, x225, x226, x227, x228, x229, _, x230, x231, x31, rfl, h.same 11 _ .any (by rw [HV.out]; rfl) trivial, ht.s11 hd10⟩
   · have hd11 : d 11 := hw _ rfl ⟨11, .data⟩ (by simp) rfl
     obtain ⟨cs0, rfl, hl⟩ := ht.s12 hd11
     refine wpOp_step rfl fun K hK => ?_
     go_simp
     exact hK _ _ ⟨x219, x220, x221, x222, x223, x224, x225, x226, x227, x228, x229, _, _, x231, x31, rfl, h.same 12 _ .any (by rw [HV.out]; rfl) trivial, hl⟩
   · have hd11 : d 11 := hw _ rfl ⟨11, .data⟩ (by simp) rfl
     obtain ⟨cs0, rfl⟩ := ht.tup hd11
     refine wpOp_step rfl fun K hK => ?_
     go_simp
     exact hK _ _ ⟨x219, x220, x221, x222, x223, x224, x225, x226, x227, x228, x229, _, x230, _, x31, rfl, h.same 13 _ _ (by rw [HV.out]; rfl) rfl, ht.same 13 (by decide)⟩
   · refine wpOp_step rfl fun K hK => ?_
     go_simp
     exact hK _ _ ⟨x219, x220, x221, x222, x223, x224, x225, x226, x227, x228, x229, x218, x230, x231, _, rfl, h.new _ 14 _ (.blk w29.heap.size 30 #[.int .u8 0, .int .i64 0, .string { data := #[] }, .slice none 0 0, .slice none 0 0]) (by rw [HV.out]; rfl) (IsBlk.made _ hsz), ht.s14 _⟩
   · omega
 case store =>
   rintro d a' w' ⟨x219, x220, x221, x222, x223, x224, x225, x226, x227, x228, x229, x218, x230, x231, x31, rfl, h, ht⟩ hall
   obtain ⟨b18, k18, rfl, m18⟩ := h.get 14 (hall 14 (by omega) (by omega)) (.blk w29.heap.size 30 #[.int .u8 0, .int .i64 0, .string { data := #[] }, .slice none 0 0, .slice none 0 0]) (by rw [HV.out]; rfl) _ rfl
   obtain ⟨cs0, rfl⟩ := ht.tup (hall 11 (by omega) (by omega))
   obtain ⟨v_, lo, hi, an, cn, ai, ci, hq, rfl, h3, h4, h5, h6⟩ := ht.2.2.2.2 (hall 12 (by omega) (by omega))
   have h7 := h6 (hall 14 (by omega) (by omega)) b18 rfl
   refine wpOp_step rfl fun K hK => ?_
   refine step_store_row rfl 30 (.tmp 31) (.tmp 230) rfl b18 (aggV v_ an cn ai ci) rfl rfl 30 _ m18 (by kernel_rfl) rfl (by simp [aggV, Value.oneCell']) ?_
   exact hK _ _ ⟨x219, x220, x221, x222, x223, x224, x225, x226, x227, x228, x229, _, x231, b18, cs0, rfl, fun hd => h.get 13 hd (.con (.int .i64 0)) (by rw [HV.out]; rfl) _ rfl, below_setRowN h.1 k18 _, k18, v_, an, cn, ai, ci, hq, by simp [World.setRow, Array.getElem?_modify, m18], h5.carry h3 (by simpa [World.setRow] using h4) (fun b hb1 hb2 => by simp only [World.setRow, Array.getElem?_modify]; rw [if_neg (fun e => h7 (by rw [e]; exact ⟨hb1, hb2⟩))])⟩
 case late =>
   rintro a' w' ⟨x219, x220, x221, x222, x223, x224, x225, x226, x227, x228, x229, x230, x231, b18, cs0, rfl, hF⟩
   obtain ⟨-, hb, hF⟩ := hF
   refine wpOp_step rfl fun K hK => ?_
   go_simp
   exact hK _ _ ⟨x219, x220, x221, x222, x223, x224, x225, x226, x227, x228, x229, x230, _, b18, cs0, rfl, fun _ => rfl, hb, hF⟩
 case last =>
   rintro a' w' ⟨x219, x220, x221, x222, x223, x224, x225, x226, x227, x228, x229, x230, x231, b18, cs0, rfl, hF⟩
   obtain ⟨h115, hle, k18, v_, an, cn, ai, ci, hq, m18, hr18⟩ := hF
   obtain rfl := h115 trivial
   have HLE := Lib.hid hle
   have HR18 := Lib.hid hr18
   have HM18 := Lib.hid m18
   have HK18 := Lib.hid k18
   clear h115 hle k18 m18 hr18 HV
   generalize w' = w30 at *
   have hq' : v_ = objJ ((pinM P).eraseIdx n) := hq
   have HJQ := Lib.hid hq'
   have HXY := Lib.hid (show w30.heap[b18]? = some (.cells #[.int .u8 v_.kind, .int .i64 v_.n, .string v_.t, .slice an v_.names.length cn, .slice ai v_.items.length ci] 30 (0, 0)) from HM18.out)
   clear hq hq' HNW3 HNW4 HSL2 HOB2 HM18 hw110 hkc hnc
   replace HB := Lib.hid (HB.out.trans (HLE.out.mono HB.out.size))
   replace HXP := Lib.hid ((HLE.out.block _ (heap_lt HXP.out)).trans HXP.out)
   replace HB29 := Lib.hid (HB29.out.trans (HLE.out.mono HB29.out.size))
   have HOP := Lib.hid (snapPinOfA P.name v_ _ w30 W12.heap.size w30.heap.size (by rw [HJQ.out]; exact pin_less_wt HPM.out n) (Nat.lt_of_lt_of_le HB80.out HZP.out.1) (Nat.le_refl _) HR18.out (Nat.le_trans HSH2.out.1 (by decide)))
   have hnj : n < (pinJ P).names.length := by have := HL5.out; have := HNI.out; rw [HJP.out]; omega
   have hpc := pin_cases HPM.out n hnj
   obtain ⟨nm, hnm⟩ : ∃ nm, nm = (pinJ P).names[n] := ⟨_, rfl⟩
   obtain ⟨r5, hr5⟩ : ∃ r5, r5 = pinOfA P.name v_ := ⟨_, rfl⟩
   rw [← hnm, ← HJQ.out, ← hr5] at hpc
   rw [← hr5] at HOP
   have HPC := Lib.hid hpc
   have HNQ := Lib.hid (show ∀ w' : World, Below w29.heap.size w29 w' → w'.cell? ⟨g2, n * 6, none⟩ = some (.string nm) from fun w' h => by
     rw [hnm]
     exact name_cell (HMM.out.below h) (HNM.out.trans (congrArg JV.names HJP.out.symm)) n hnj)
   clear hpc hnm hr5 HLE
   obtain ⟨Q5, E5⟩ := r5
   have xP0 := box_cell HXP.out (j := 0) rfl; have xP1 := box_cell HXP.out (j := 1) rfl; have xP2 := box_cell HXP.out (j := 2) rfl; have xP3 := box_cell HXP.out (j := 3) rfl
   have xY0 := box_cell HXY.out (j := 0) rfl; have xY1 := box_cell HXY.out (j := 1) rfl; have xY2 := box_cell HXY.out (j := 2) rfl; have xY3 := box_cell HXY.out (j := 3) rfl; have xY4 := box_cell HXY.out (j := 4) rfl
   go_wp2_with fail
   refine (HOP.out).mono ?_
   clear xP0 xP1 xP2 xP3
   clear xY0 xY1 xY2 xY3 xY4
   rintro r w31 ⟨qa, qc, rfl, hkw, _, hb31⟩
   dsimp only at hkw HPC ⊢
   replace HB := Lib.hid (HB.out.trans (hb31.mono HB.out.size))
   replace HXP := Lib.hid ((hb31.block _ (heap_lt HXP.out)).trans HXP.out)
   replace HXY := Lib.hid ((hb31.block _ (heap_lt HXY.out)).trans HXY.out)
   replace HB29 := Lib.hid (HB29.out.trans (hb31.mono HB29.out.size))
   obtain ⟨W32, hW32⟩ : ∃ W32, W32 = w31.alloc (.cells #[.string Q5.name, .int .i64 Q5.ver, .int .i64 Q5.len, .slice qa Q5.hs.length qc] 36) := ⟨_, rfl⟩
   have hbx : Below w31.heap.size w31 W32 := by rw [hW32]; exact (Below.refl _ _).alloc (Nat.le_refl _) _
   replace HB := Lib.hid (HB.out.trans (hbx.mono HB.out.size))
   replace HXP := Lib.hid ((hbx.block _ (heap_lt HXP.out)).trans HXP.out)
   replace HB29 := Lib.hid (HB29.out.trans (hbx.mono HB29.out.size))
   have HXQ := Lib.hid (show W32.heap[w31.heap.size]? = some (.cells #[.string Q5.name, .int .i64 Q5.ver, .int .i64 Q5.len, .slice qa Q5.hs.length qc] 36 (0, 0)) by rw [hW32]; exact heap_alloc_new w31 _)
   have HW32 := Lib.hid hW32
   have HZ32 := Lib.hid (show w31.heap.size < W32.heap.size from heap_lt HXQ.out)
   have HZ22 := Lib.hid (show W2.heap.size ≤ W32.heap.size from HB.out.size)
   have HKT := Lib.hid (hkw.1.below hbx (Nat.le_refl _) (Nat.zero_le _) hbx.size)
   clear hbx hkw hb31 HOP HXY HR18
   go_upto_region 23 with fail
   rw [← HW32.out]
   clear hW32 HW32
   have xP0 := box_cell HXP.out (j := 0) rfl; have xP1 := box_cell HXP.out (j := 1) rfl; have xP2 := box_cell HXP.out (j := 2) rfl; have xP3 := box_cell HXP.out (j := 3) rfl
   go_upto_region 24 with fail
   clear xP0 xP1 xP2 xP3
   obtain ⟨W33, hW33⟩ : ∃ W33, W33 = W32.alloc (.cells #[.string P.name, .int .i64 P.ver, .int .i64 P.len, .slice pa P.hs.length pc] 36) := ⟨_, rfl⟩
   have hbx : Below W32.heap.size W32 W33 := by rw [hW33]; exact (Below.refl _ _).alloc (Nat.le_refl _) _
   replace HB := Lib.hid (HB.out.trans (hbx.mono HB.out.size))
   replace HXP := Lib.hid ((hbx.block _ (heap_lt HXP.out)).trans HXP.out)
   replace HXQ := Lib.hid ((hbx.block _ (heap_lt HXQ.out)).trans HXQ.out)
   replace HB29 := Lib.hid (HB29.out.trans (hbx.mono HB29.out.size))
   have HXN := Lib.hid (show W33.heap[W32.heap.size]? = some (.cells #[.string P.name, .int .i64 P.ver, .int .i64 P.len, .slice pa P.hs.length pc] 36 (0, 0)) by rw [hW33]; exact heap_alloc_new W32 _)
   have HW33 := Lib.hid hW33
   have HB32 := Lib.hid hbx
   rw [← HW33.out]
   have hz33 : W33.heap.size = W32.heap.size + 1 := by rw [HW33.out]; simp
   have HZ33 := Lib.hid hz33
   clear hbx hW33 HW33 hz33
   have ha := HA2.out
   subst ha
   have q0 := HNQ.out W33 HB29.out
   have t2 : W33.cell? ⟨W32.heap.size, 2, none⟩ = some (.int .i64 P.len) := box_cell HXN.out rfl
   have t3 : W33.cell? ⟨W32.heap.size, 3, none⟩ = some (.slice pa P.hs.length pc) := box_cell HXN.out rfl
   have s2 : W33.frozen? ⟨W32.heap.size, 2, none⟩ = false := by simp [World.frozen?, HXN.out]
   have s3 : W33.frozen? ⟨W32.heap.size, 3, none⟩ = false := by simp [World.frozen?, HXN.out]
   rcases HPC.out with ⟨hnm, hr⟩ | ⟨hnm, hr⟩ | ⟨hnm, hr⟩
   · obtain rfl : nm = { data := #[108, 101, 110, 103, 116, 104] } := hnm
     obtain ⟨rfl, rfl⟩ : Q5 = ⟨P.name, P.ver, -1, P.hs⟩ ∧ E5 = 0 := by simpa using hr
     clear hr HPC HNQ
     go_upto_region 30 with fail
     obtain ⟨W34, hW34⟩ : ∃ W34, W34 = W33.setCell ⟨W32.heap.size, 2, none⟩ (.int .i64 (-1)) := ⟨_, rfl⟩
     rw [← hW34]
     have HXN4 := Lib.hid (show W34.heap[W32.heap.size]? = some (.cells #[.string P.name, .int .i64 P.ver, .int .i64 (-1), .slice pa P.hs.length pc] 36 (0, 0)) by rw [hW34]; exact box_set HXN.out _)
     have HXQ4 := Lib.hid (show W34.heap[w31.heap.size]? = _ from (by rw [hW34]; exact Below.heap_setCell _ _ _ _ (by have := HZ32.out; show w31.heap.size ≠ W32.heap.size; omega) : W34.heap[w31.heap.size]? = W33.heap[w31.heap.size]?).trans HXQ.out)
     have HB34 := Lib.hid (show Below W32.heap.size W32 W34 by rw [hW34]; exact HB32.out.setCell (Nat.le_refl _) _)
     replace HB := Lib.hid (show Below W2.heap.size W2 W34 by rw [hW34]; exact HB.out.setCell (by have := HZ32.out; have := HB.out.size; have := HZ33.out; show W2.heap.size ≤ W32.heap.size; have := HZ22.out; omega) _)
     have HKQ := Lib.hid (HKT.out.below HB34.out (Nat.le_refl _) (Nat.le_refl _) HB34.out.size)
     have HKN := Lib.hid (HKA.out W34 HB.out)
     have x0 := box_cell HXQ4.out (j := 0) rfl; have x1 := box_cell HXQ4.out (j := 1) rfl; have x2 := box_cell HXQ4.out (j := 2) rfl; have x3 := box_cell HXQ4.out (j := 3) rfl
     have z0 := box_cell HXN4.out (j := 0) rfl; have z1 := box_cell HXN4.out (j := 1) rfl; have z2 := box_cell HXN4.out (j := 2) rfl; have z3 := box_cell HXN4.out (j := 3) rfl
     clear hW34 q0 t2 t3 s2 s3
     go_wp2_with fail
     refine ((ref23SamePinG P.name P.ver (-1) P.hs P.name P.ver (-1) P.hs qa pa qc pc W34 HKQ.out HKN.out hkl hkl).mono fun _ _ ht => tells_bool (b := true) (by simp) ht).mono ?_
     rintro r w35 ⟨rfl, hb35⟩
     replace HB := Lib.hid (HB.out.trans (hb35.mono HB.out.size))
     clear hb35
     go_wp2
     go_ret
     exact ⟨rfl, HB2.out.trans (HB.out.mono HB2.out.size)⟩
   · obtain rfl : nm = { data := #[104, 97, 115, 104, 101, 115] } := hnm
     obtain ⟨rfl, rfl⟩ : Q5 = ⟨P.name, P.ver, P.len, []⟩ ∧ E5 = 0 := by simpa using hr
     clear hr HPC HNQ
     go_upto_region 30 with fail
     obtain ⟨W34, hW34⟩ : ∃ W34, W34 = W33.setCell ⟨W32.heap.size, 3, none⟩ (.slice none 0 0) := ⟨_, rfl⟩
     rw [← hW34]
     have HXN4 := Lib.hid (show W34.heap[W32.heap.size]? = some (.cells #[.string P.name, .int .i64 P.ver, .int .i64 P.len, .slice none 0 0] 36 (0, 0)) by rw [hW34]; exact box_set HXN.out _)
     have HXQ4 := Lib.hid (show W34.heap[w31.heap.size]? = _ from (by rw [hW34]; exact Below.heap_setCell _ _ _ _ (by have := HZ32.out; show w31.heap.size ≠ W32.heap.size; omega) : W34.heap[w31.heap.size]? = W33.heap[w31.heap.size]?).trans HXQ.out)
     have HB34 := Lib.hid (show Below W32.heap.size W32 W34 by rw [hW34]; exact HB32.out.setCell (Nat.le_refl _) _)
     replace HB := Lib.hid (show Below W2.heap.size W2 W34 by rw [hW34]; exact HB.out.setCell (by have := HZ32.out; have := HB.out.size; have := HZ33.out; show W2.heap.size ≤ W32.heap.size; have := HZ22.out; omega) _)
     have HKQ := Lib.hid (HKT.out.below HB34.out (Nat.le_refl _) (Nat.le_refl _) HB34.out.size)
     have HKN := Lib.hid ((show KeysAt W34 0 W34.heap.size none [] from .inl rfl))
     have x0 := box_cell HXQ4.out (j := 0) rfl; have x1 := box_cell HXQ4.out (j := 1) rfl; have x2 := box_cell HXQ4.out (j := 2) rfl; have x3 := box_cell HXQ4.out (j := 3) rfl
     have z0 := box_cell HXN4.out (j := 0) rfl; have z1 := box_cell HXN4.out (j := 1) rfl; have z2 := box_cell HXN4.out (j := 2) rfl; have z3 := box_cell HXN4.out (j := 3) rfl
     clear hW34 q0 t2 t3 s2 s3
     go_wp2_with fail
     refine ((ref23SamePinG P.name P.ver P.len [] P.name P.ver P.len [] qa none qc 0 W34 HKQ.out HKN.out (Nat.zero_le _) (Nat.zero_le _)).mono fun _ _ ht => tells_bool (b := true) (by simp) ht).mono ?_
     rintro r w35 ⟨rfl, hb35⟩
     replace HB := Lib.hid (HB.out.trans (hb35.mono HB.out.size))
     clear hb35
     go_wp2
     go_ret
     exact ⟨rfl, HB2.out.trans (HB.out.mono HB2.out.size)⟩
   · obtain rfl : nm = { data := #[118, 101, 114, 115, 105, 111, 110] } := hnm
     obtain rfl : E5 = 6 := hr
     clear HPC HNQ
     go_wp2
     go_ret
     exact ⟨rfl, HB2.out.trans (HB.out.mono HB2.out.size)⟩
set_option maxHeartbeats 16000000 in
set_option maxRecDepth 100000 in
theorem lawElseB (v e : Int) (l : List PinV) (P : PinV) (pa : Option Addr) (pc : Nat) (other : ByteArray) (u : JV) (uan uai : Option Addr) (ucn uci : Nat) (which : Int) (w W2 w10 w11 W12 W14 w15 W20 w25 : World) (fan fai : Option Addr) (fcn fci : Nat) (J : JV) (g2 c2 n2 : Nat) (a2 : Option Addr) (mm : List Mem) (u0 u1 u3 u5 u7 u9 u10 u12 u13 u14 u15 u17 u18 u19 u20 u21 u22 u23 u24 u25 u26 u27 u28 u29 u30 u31 u32 u33 u34 u35 u36 u37 u38 u39 u40 u41 u42 u43 u44 u45 u46 u47 u48 u49 u50 u51 u52 u53 u54 u55 u56 u57 u58 u59 u60 u61 u62 u63 u64 u65 u66 u67 u68 u69 u70 u71 u72 u73 u74 u75 u76 u77 u78 u79 u80 u81 u82 u83 u84 u85 u86 u87 u88 u89 u90 u91 u92 u93 u94 u95 u96 u97 u98 u99 u100 u101 u102 u103 u104 u105 u106 u107 u108 u109 u110 u111 u112 u113 u114 u115 u116 u117 u118 u119 u120 u121 u122 u123 u124 u125 u126 u127 u128 u129 u130 u131 u132 u133 u134 u135 u136 u137 u138 u139 u140 u141 u142 u143 u144 u145 u146 u147 u148 u149 u150 u151 u152 u153 u154 u155 u156 u157 u158 u159 u160 u161 u162 u163 u164 u165 u166 u167 u168 u169 u170 u171 u172 u173 u174 u175 u176 u177 u178 u179 u180 u181 u182 u183 u184 u185 u186 u187 u188 u189 u190 u191 u192 u193 u194 u195 u196 u197 u198 u199 u200 u201 u202 u203 u204 u205 u206 u207 u208 u209 u210 u211 u212 u213 u214 u215 u216 u217 u218 u219 u220 u221 u222 u223 u224 u225 u226 u227 u228 u229 u230 u231 u232 u233 u234 u235 u236 u237 u238 u239 u240 u241 u242 u243 u244 u245 u246 u247 u248 u249 u250 u251 u252 u253 u254 u255 u256 u257 u258 u259 : Value) (hkl : P.hs.length ≤ 9223372036854775807) (hwh : in64 which)
   (qHB2 : Below w.heap.size w W2)
   (qHB : Below W2.heap.size W2 w25)
   (qHKA : ∀ w' : World, Below W2.heap.size W2 w' → KeysAt w' 0 w'.heap.size pa P.hs)
   (qHRA : ∀ w' : World, Below W2.heap.size W2 w' → Rep w' 0 w'.heap.size u (.agg #[.int .u8 u.kind, .int .i64 u.n, .string u.t, .slice uan u.names.length ucn, .slice uai u.items.length uci]))
   (qHTW : ∀ w' : World, Below W2.heap.size W2 w' → TabW w' ∧ Pow10 w')
   (qHWT : u.wt ≤ 20000)
   (qHFS : other.size ≤ 1000)
   (qHM : maySnap ⟨v, e, l⟩ = true)
   (qHPM : mayPin P = true)
   (qHSH2 : P.name.size ≤ 1000 ∧ P.hs.length ≤ 500 ∧ ∀ k ∈ P.hs, k.1.size ≤ 5000 ∧ k.2.size ≤ 5000)
   (qHB80 : 0 < w10.heap.size)
   (qHZP : w10.heap.size ≤ W12.heap.size ∧ W12.heap.size ≤ W14.heap.size)
   (qHZ20 : W14.heap.size ≤ W20.heap.size ∧ w15.heap.size ≤ W20.heap.size)
   (qHB20 : Below W20.heap.size W20 w25)
   (qHZ24 : W14.heap.size ≤ w25.heap.size)
   (qHZ25 : w10.heap.size ≤ w25.heap.size)
   (qHRJ : Rep W20 w10.heap.size W14.heap.size (snapJ ⟨v, e, l⟩) (.agg #[.int .u8 5, .int .i64 0, .string { data := #[] }, .slice fan 4 fcn, .slice fai 4 fci]))
   (qHMM : MemsAt W12.heap.size W20 (.slice (some ⟨g2, 0, none⟩) mm.length c2) mm J.items)
   (qHO2 : W20.ownsRow W14.heap.size 74 6 (.slice (some ⟨g2, 0, none⟩) mm.length c2) mm.length (flatM mm))
   (qHNM : mm.map (·.name) = J.names)
   (qHJP : pinJ P = J)
   (qHJL : J.items.length = J.names.length ∧ 1 ≤ J.names.length ∧ J.names.length ≤ 3)
   (qHL5 : n2 = J.names.length)
   (qHN2 : n2 = mm.length)
   (qHA2 : a2 = some ⟨g2, 0, none⟩)
   (qHXP : w25.heap[w.heap.size + 1]? = some (.cells #[.string P.name, .int .i64 P.ver, .int .i64 P.len, .slice pa P.hs.length pc] 36 (0, 0)))
   (qHXV : w25.heap[w.heap.size + 1 + 1]? = some (.cells #[.int .u8 u.kind, .int .i64 u.n, .string u.t, .slice uan u.names.length ucn, .slice uai u.items.length uci] 30 (0, 0)))
   (qHXW : w25.heap[w11.heap.size]? = some (.cells #[.int .u8 5, .int .i64 0, .string { data := #[] }, .slice fan 4 fcn, .slice fai 4 fci] 30 (0, 0)))
   : Code.wp Tryz.prog (tailAt 13 (Tryz.f10.body.getD .skip)) (bodyPost Tryz.prog Tryz.f10 fun r w' => r = .returned (.bool true) ∧ Below w.heap.size w w') ⟨#[u0, u1, .string other, u3, .int .i64 which, u5, .pointer (some ⟨w.heap.size + 1, 0, none⟩), u7, .pointer (some ⟨w.heap.size + 1 + 1, 0, none⟩), u9, u10, .pointer (some ⟨w11.heap.size, 0, none⟩), u12, u13, u14, u15, .slice a2 n2 c2, u17, u18, u19, u20, u21, u22, u23, u24, u25, u26, u27, u28, u29, u30, u31, u32, u33, u34, u35, u36, u37, u38, u39, u40, u41, u42, u43, u44, u45, u46, u47, u48, u49, u50, u51, u52, u53, u54, u55, u56, u57, u58, u59, u60, u61, u62, u63, u64, u65, u66, u67, u68, u69, u70, u71, u72, u73, u74, u75, u76, u77, u78, u79, u80, u81, u82, u83, u84, u85, u86, u87, u88, u89, u90, u91, u92, u93, u94, u95, u96, u97, u98, u99, u100, u101, u102, u103, u104, u105, u106, u107, u108, u109, u110, u111, u112, u113, u114, u115, u116, u117, u118, u119, u120, u121, u122, u123, u124, u125, u126, u127, u128, u129, u130, u131, u132, u133, u134, u135, u136, u137, u138, u139, u140, u141, u142, u143, u144, u145, u146, u147, u148, u149, u150, u151, u152, u153, u154, u155, u156, u157, u158, u159, u160, u161, u162, u163, u164, u165, u166, u167, u168, u169, u170, u171, u172, u173, u174, u175, u176, u177, u178, u179, u180, u181, u182, u183, u184, u185, u186, u187, u188, u189, u190, u191, u192, u193, u194, u195, u196, u197, u198, u199, u200, u201, u202, u203, u204, u205, u206, u207, u208, u209, u210, u211, u212, u213, u214, u215, u216, u217, u218, u219, u220, u221, u222, u223, u224, u225, u226, u227, u228, u229, u230, u231, u232, u233, u234, u235, u236, u237, u238, u239, u240, u241, u242, u243, u244, u245, u246, u247, u248, u249, u250, u251, u252, u253, u254, u255, u256, u257, u258, u259], []⟩ w25 := by
 have HB2 := Lib.hid qHB2
 have HB := Lib.hid qHB
 have HKA := Lib.hid qHKA
 have HRA := Lib.hid qHRA
 have HTW := Lib.hid qHTW
 have HWT := Lib.hid qHWT
 have HFS := Lib.hid qHFS
 have HM := Lib.hid qHM
 have HPM := Lib.hid qHPM
 have HSH2 := Lib.hid qHSH2
 have HB80 := Lib.hid qHB80
 have HZP := Lib.hid qHZP
 have HZ20 := Lib.hid qHZ20
 have HB20 := Lib.hid qHB20
 have HZ24 := Lib.hid qHZ24
 have HZ25 := Lib.hid qHZ25
 have HRJ := Lib.hid qHRJ
 have HMM := Lib.hid qHMM
 have HO2 := Lib.hid qHO2
 have HNM := Lib.hid qHNM
 have HJP := Lib.hid qHJP
 have HJL := Lib.hid qHJL
 have HL5 := Lib.hid qHL5
 have HN2 := Lib.hid qHN2
 have HA2 := Lib.hid qHA2
 have HXP := Lib.hid qHXP
 have HXV := Lib.hid qHXV
 have HXW := Lib.hid qHXW
 have HWH := Lib.hid hwh
 clear hwh qHB2 qHB qHKA qHRA qHTW qHWT qHFS qHM qHPM qHSH2 qHB80 qHZP qHZ20 qHB20 qHZ24 qHZ25 qHRJ qHMM qHO2 qHNM qHJP qHJL qHL5 qHN2 qHA2 qHXP qHXV qHXW
 conv => arg 2; whnf
 obtain ⟨i1, hi1, hy0, hy1, hy2⟩ := info_parts infoMember
 go_upto_region 16 with fail
 have HC16 := Lib.hid (show ∀ w' : World, Below w25.heap.size w25 w' → w'.cell? ⟨w11.heap.size, 0, none⟩ = some (.int .u8 5) ∧ w'.cell? ⟨w11.heap.size, 1, none⟩ = some (.int .i64 0) ∧ w'.cell? ⟨w11.heap.size, 2, none⟩ = some (.string { data := #[] }) ∧ w'.cell? ⟨w11.heap.size, 3, none⟩ = some (.slice fan 4 fcn) ∧ w'.cell? ⟨w11.heap.size, 4, none⟩ = some (.slice fai 4 fci) ∧ w'.cell? ⟨w.heap.size + 1 + 1, 0, none⟩ = some (.int .u8 u.kind) ∧ w'.cell? ⟨w.heap.size + 1 + 1, 1, none⟩ = some (.int .i64 u.n) ∧ w'.cell? ⟨w.heap.size + 1 + 1, 2, none⟩ = some (.string u.t) ∧ w'.cell? ⟨w.heap.size + 1 + 1, 3, none⟩ = some (.slice uan u.names.length ucn) ∧ w'.cell? ⟨w.heap.size + 1 + 1, 4, none⟩ = some (.slice uai u.items.length uci) from fun w' h => by
   have e1 := (h.block _ (heap_lt HXW.out)).trans HXW.out
   have e2 := (h.block _ (heap_lt HXV.out)).trans HXV.out
   exact ⟨box_cell e1 rfl, box_cell e1 rfl, box_cell e1 rfl, box_cell e1 rfl, box_cell e1 rfl, box_cell e2 rfl, box_cell e2 rfl, box_cell e2 rfl, box_cell e2 rfl, box_cell e2 rfl⟩)
 have HMM16 := Lib.hid (show ∀ w' : World, Below w25.heap.size w25 w' → Calls Tryz.prog 41 #[.agg #[.int .u8 5, .int .i64 0, .string { data := #[] }, .slice fan 4 fcn, .slice fai 4 fci]] w' (fun r w2 => ∃ y ms, r = .returned y ∧ ms.map (·.name) = (snapM ⟨v, e, l⟩).map (·.1) ∧ (∃ g c, y = .slice (some ⟨g, 0, none⟩) 4 c) ∧ w2.ownsRow w25.heap.size 74 6 y 4 (flatM ms) ∧ (∀ (i : Nat) (it : JV) (m : Mem), ((snapM ⟨v, e, l⟩).map (·.2))[i]? = some it → ms[i]? = some m → Rep w2 w10.heap.size W14.heap.size it m.val) ∧ Below w'.heap.size w' w2) from fun w' h => by
   have hz1 := HZ24.out
   have hz2 := HZ25.out
   have hz3 := h.size
   have hR := (HRJ.out.below HB20.out HZ20.out.1 (Nat.le_refl _) (Nat.le_refl _)).below h HZ24.out (Nat.le_refl _) (Nat.le_refl _)
   obtain ⟨hS, hV⟩ := rep_rows hR
   refine (lawMembers (snapJ ⟨v, e, l⟩) 4 fan fai fcn fci w10.heap.size W14.heap.size w' hS hV (by omega) (by omega) rfl rfl (by decide)).mono ?_
   rintro r w2 ⟨s, ms, rfl, h1, h2, h4, h3, h5⟩
   obtain ⟨g, c', hx, -, -⟩ := h4.form (by decide)
   exact ⟨s, ms, rfl, h2, ⟨g, c', hx⟩, owns_mono h4 h.size, h5, h3⟩)
 have HOB := Lib.hid (show ∀ (w' : World) (y : Value) (ms : List Mem), Below w25.heap.size w25 w' → ms.map (·.name) = (snapM ⟨v, e, l⟩).map (·.1) → (∀ (i : Nat) (it : JV) (m : Mem), ((snapM ⟨v, e, l⟩).map (·.2))[i]? = some it → ms[i]? = some m → Rep w' w10.heap.size W14.heap.size it m.val) → w'.ownsRow w25.heap.size 74 6 y 5 (flatM ms ++ encM (⟨other, u.kind, u.n, u.t, uan, u.names.length, ucn, uai, u.items.length, uci⟩ : Mem)) → Calls Tryz.prog 42 #[y] w' (fun r w2 => ∃ v an cn ai ci, MoreQ v ∧ r = .returned (erT (aggV v an cn ai ci)) ∧ Rep w2 w'.heap.size w2.heap.size v (.agg (aggV v an cn ai ci)) ∧ Below w'.heap.size w' w2) from fun w' y ms h hn hr ho => by
   refine more_obj (s := ⟨v, e, l⟩) HM.out (mk := ⟨other, u.kind, u.n, u.t, uan, u.names.length, ucn, uai, u.items.length, uci⟩) hn hr HB80.out (Nat.le_trans HZ24.out h.size) (HRA.out w' (HB.out.trans (h.mono HB.out.size))) HWT.out HFS.out (B := w25.heap.size) ?_
   have e : flatM (ms ++ [⟨other, u.kind, u.n, u.t, uan, u.names.length, ucn, uai, u.items.length, uci⟩]) = flatM ms ++ encM (⟨other, u.kind, u.n, u.t, uan, u.names.length, ucn, uai, u.items.length, uci⟩ : Mem) := by simp [flatM]
   rw [e]
   exact ho)
 obtain ⟨V, hV⟩ : ∃ V : List MP, V = [.con (.agg #[.int .u8 5, .int .i64 0, .string { data := #[] }, .slice fan 4 fcn, .slice fai 4 fci]), .form 4, .con (.string other), .con (.agg #[.int .u8 u.kind, .int .i64 u.n, .string u.t, .slice uan u.names.length ucn, .slice uai u.items.length uci]), .con (.agg #[.string other, .int .u8 u.kind, .int .i64 u.n, .string u.t, .slice uan u.names.length ucn, .slice uai u.items.length uci]), .row w25.heap.size 1 74 #[.string other, .int .u8 u.kind, .int .i64 u.n, .string u.t, .slice uan u.names.length ucn, .slice uai u.items.length uci], .form 5, .any, .any, .any, .any, .blk w25.heap.size 30 #[.int .u8 0, .int .i64 0, .string { data := #[] }, .slice none 0 0, .slice none 0 0]] := ⟨_, rfl⟩
 have HV := Lib.hid hV
 clear hV
 refine wp_region_free 12 10 (fun d a' w' => ∃ x186 x187 x188 x189 x190 x191 x192 x193 x185 x194 x195 x26, a' = ⟨#[u0, u1, .string other, u3, .int .i64 which, u5, .pointer (some ⟨w.heap.size + 1, 0, none⟩), u7, .pointer (some ⟨w.heap.size + 1 + 1, 0, none⟩), u9, u10, .pointer (some ⟨w11.heap.size, 0, none⟩), u12, u13, u14, u15, .slice a2 n2 c2, u17, u18, u19, u20, u21, u22, u23, u24, u25, x26, u27, u28, u29, u30, u31, u32, u33, u34, u35, u36, u37, u38, u39, u40, u41, u42, u43, u44, u45, u46, u47, u48, u49, u50, u51, u52, u53, u54, u55, u56, u57, u58, u59, u60, u61, u62, u63, u64, u65, u66, u67, u68, u69, u70, u71, u72, u73, u74, u75, u76, u77, u78, u79, u80, u81, u82, u83, u84, u85, u86, u87, u88, u89, u90, u91, u92, u93, u94, u95, u96, u97, u98, u99, u100, u101, u102, u103, u104, u105, u106, u107, u108, u109, u110, u111, u112, u113, u114, u115, u116, u117, u118, u119, u120, u121, u122, u123, u124, u125, u126, u127, u128, u129, u130, u131, u132, u133, u134, u135, u136, u137, u138, u139, u140, u141, u142, u143, u144, u145, u146, u147, u148, u149, u150, u151, u152, u153, u154, u155, u156, u157, u158, u159, u160, u161, u162, u163, u164, u165, u166, u167, u168, u169, u170, u171, u172, u173, u174, u175, u176, u177, u178, u179, u180, u181, u182, u183, u184, x185, x186, x187, x188, x189, x190, x191, x192, x193, x194, x195, u196, u197, u198, u199, u200, u201, u202, u203, u204, u205, u206, u207, u208, u209, u210, u211, u212, u213, u214, u215, u216, u217, u218, u219, u220, u221, u222, u223, u224, u225, u226, u227, u228, u229, u230, u231, u232, u233, u234, u235, u236, u237, u238, u239, u240, u241, u242, u243, u244, u245, u246, u247, u248, u249, u250, u251, u252, u253, u254, u255, u256, u257, u258, u259], []⟩ ∧ RegI w25 V d w' [x186, x187, x188, x189, x190, x191, x192, x193, x185, x194, x195, x26] ∧ MoreI w25.heap.size w10.heap.size W14.heap.size (snapM ⟨v, e, l⟩) (⟨other, u.kind, u.n, u.t, uan, u.names.length, ucn, uai, u.items.length, uci⟩ : Mem) w10.heap.size MoreQ d w' x187 x192 x193 x185 x194 x195 x26) (fun ee a' w' => ∃ x186 x187 x188 x189 x190 x191 x192 x193 x194 x195 b18 v_ an cn ai ci, a' = ⟨#[u0, u1, .string other, u3, .int .i64 which, u5, .pointer (some ⟨w.heap.size + 1, 0, none⟩), u7, .pointer (some ⟨w.heap.size + 1 + 1, 0, none⟩), u9, u10, .pointer (some ⟨w11.heap.size, 0, none⟩), u12, u13, u14, u15, .slice a2 n2 c2, u17, u18, u19, u20, u21, u22, u23, u24, u25, .pointer (some ⟨b18, 0, none⟩), u27, u28, u29, u30, u31, u32, u33, u34, u35, u36, u37, u38, u39, u40, u41, u42, u43, u44, u45, u46, u47, u48, u49, u50, u51, u52, u53, u54, u55, u56, u57, u58, u59, u60, u61, u62, u63, u64, u65, u66, u67, u68, u69, u70, u71, u72, u73, u74, u75, u76, u77, u78, u79, u80, u81, u82, u83, u84, u85, u86, u87, u88, u89, u90, u91, u92, u93, u94, u95, u96, u97, u98, u99, u100, u101, u102, u103, u104, u105, u106, u107, u108, u109, u110, u111, u112, u113, u114, u115, u116, u117, u118, u119, u120, u121, u122, u123, u124, u125, u126, u127, u128, u129, u130, u131, u132, u133, u134, u135, u136, u137, u138, u139, u140, u141, u142, u143, u144, u145, u146, u147, u148, u149, u150, u151, u152, u153, u154, u155, u156, u157, u158, u159, u160, u161, u162, u163, u164, u165, u166, u167, u168, u169, u170, u171, u172, u173, u174, u175, u176, u177, u178, u179, u180, u181, u182, u183, u184, .tuple #[.agg (aggV v_ an cn ai ci), .int .i64 (erV (aggV v_ an cn ai ci))], x186, x187, x188, x189, x190, x191, x192, x193, x194, x195, u196, u197, u198, u199, u200, u201, u202, u203, u204, u205, u206, u207, u208, u209, u210, u211, u212, u213, u214, u215, u216, u217, u218, u219, u220, u221, u222, u223, u224, u225, u226, u227, u228, u229, u230, u231, u232, u233, u234, u235, u236, u237, u238, u239, u240, u241, u242, u243, u244, u245, u246, u247, u248, u249, u250, u251, u252, u253, u254, u255, u256, u257, u258, u259], []⟩ ∧ (ee → x195 = .int .i64 (erV (aggV v_ an cn ai ci))) ∧ Below w25.heap.size w25 w' ∧ w25.heap.size ≤ b18 ∧ MoreQ v_ ∧ w'.heap[b18]? = some (.cells (aggV v_ an cn ai ci) 30 (0, 0)) ∧ Rep w' w10.heap.size w'.heap.size v_ (.agg (aggV v_ an cn ai ci))) (by kernel_rfl) (by kernel_rfl) (by kernel_rfl) ?first ?step ?store ?late ?last
 case first => exact ⟨_, _, _, _, _, _, _, _, _, _, _, _, rfl, RegI.first _ _ _ (by rw [HV.out]; rfl), MoreI.first⟩
 case step =>
   rintro d a' w' ⟨x186, x187, x188, x189, x190, x191, x192, x193, x185, x194, x195, x26, rfl, h, ht⟩ q hq hn hw
   have hsz := h.1.size
   have hz : W14.heap.size ≤ w'.heap.size := Nat.le_trans HZ24.out hsz
   have hB : w10.heap.size ≤ w'.heap.size := Nat.le_trans HZ25.out hsz
   rcases q with _ | _ | _ | _ | _ | _ | _ | _ | _ | _ | _ | _ | q
   · obtain ⟨q0, q1, q2, q3, q4, q5, q6, q7, q8, q9⟩ := HC16.out w' h.1
     refine wpOp_step rfl fun K hK => ?_
     go_simp
     exact hK _ _ ⟨_, x187, x188, x189, x190, x191, x192, x193, x185, x194, x195, x26, rfl, h.same 0 _ (.con (.agg #[.int .u8 5, .int .i64 0, .string { data := #[] }, .slice fan 4 fcn, .slice fai 4 fci])) (by rw [HV.out]; rfl) rfl, ht.next (Below.refl _ _) hz 0 (by decide)⟩
   · have hd0 : d 0 := hw _ rfl ⟨0, .data⟩ (by simp) rfl
     obtain rfl : x186 = .agg #[.int .u8 5, .int .i64 0, .string { data := #[] }, .slice fan 4 fcn, .slice fai 4 fci] := h.get 0 hd0 (.con (.agg #[.int .u8 5, .int .i64 0, .string { data := #[] }, .slice fan 4 fcn, .slice fai 4 fci])) (by rw [HV.out]; rfl) _ rfl
     refine wpOp_step rfl fun K hK => ?_
     go_simp
     refine (HMM16.out w' h.1).mono ?_
     rintro r w2 ⟨y, ms, rfl, ha, hf, hc, hb, hb2⟩
     exact hK _ _ ⟨_, _, x188, x189, x190, x191, x192, x193, x185, x194, x195, x26, rfl, h.did hb2 1 _ (.form 4) (by rw [HV.out]; rfl) hf, ht.s1 hb2 hn ms ha hb hc⟩
   · refine wpOp_step rfl fun K hK => ?_
     go_simp
     exact hK _ _ ⟨x186, x187, _, x189, x190, x191, x192, x193, x185, x194, x195, x26, rfl, h.same 2 _ (.con (.string other)) (by rw [HV.out]; rfl) rfl, ht.next (Below.refl _ _) hz 2 (by decide)⟩
   · obtain ⟨q0, q1, q2, q3, q4, q5, q6, q7, q8, q9⟩ := HC16.out w' h.1
     refine wpOp_step rfl fun K hK => ?_
     go_simp
     exact hK _ _ ⟨x186, x187, x188, _, x190, x191, x192, x193, x185, x194, x195, x26, rfl, h.same 3 _ (.con (.agg #[.int .u8 u.kind, .int .i64 u.n, .string u.t, .slice uan u.names.length ucn, .slice uai u.items.length uci])) (by rw [HV.out]; rfl) rfl, ht.next (Below.refl _ _) hz 3 (by decide)⟩
   · have hd2 : d 2 := hw _ rfl ⟨2, .data⟩ (by simp) rfl
     obtain rfl : x188 = .string other := h.get 2 hd2 (.con (.string other)) (by rw [HV.out]; rfl) _ rfl
     have hd3 : d 3 := hw _ rfl ⟨3, .data⟩ (by simp) rfl
     obtain rfl : x189 = .agg #[.int .u8 u.kind, .int .i64 u.n, .string u.t, .slice uan u.names.length ucn, .slice uai u.items.length uci] := h.get 3 hd3 (.con (.agg #[.int .u8 u.kind, .int .i64 u.n, .string u.t, .slice uan u.names.length ucn, .slice uai u.items.length uci])) (by rw [HV.out]; rfl) _ rfl
     refine wpOp_step rfl fun K hK => ?_
     go_simp
     exact hK _ _ ⟨x186, x187, _, _, _, x191, x192, x193, x185, x194, x195, x26, rfl, h.same 4 _ (.con (.agg #[.string other, .int .u8 u.kind, .int .i64 u.n, .string u.t, .slice uan u.names.length ucn, .slice uai u.items.length uci])) (by rw [HV.out]; rfl) rfl, ht.next (Below.refl _ _) hz 4 (by decide)⟩
   · have hd4 : d 4 := hw _ rfl ⟨4, .data⟩ (by simp) rfl
     obtain rfl : x190 = .agg #[.string other, .int .u8 u.kind, .int .i64 u.n, .string u.t, .slice uan u.names.length ucn, .slice uai u.items.length uci] := h.get 4 hd4 (.con (.agg #[.string other, .int .u8 u.kind, .int .i64 u.n, .string u.t, .slice uan u.names.length ucn, .slice uai u.items.length uci])) (by rw [HV.out]; rfl) _ rfl
     refine wpOp_step rfl fun K hK => ?_
     go_simp
     exact hK _ _ ⟨x186, x187, x188, x189, _, _, x192, x193, x185, x194, x195, x26, rfl, h.new _ 5 _ (.row w25.heap.size 1 74 #[.string other, .int .u8 u.kind, .int .i64 u.n, .string u.t, .slice uan u.names.length ucn, .slice uai u.items.length uci]) (by rw [HV.out]; rfl) (IsRow.made _ hsz), ht.next ((Below.refl _ _).alloc (Nat.le_refl _) _) hz 5 (by decide)⟩
   · have hd1 : d 1 := hw _ rfl ⟨1, .data⟩ (by simp) rfl
     have hd5 : d 5 := hw _ rfl ⟨5, .data⟩ (by simp) rfl
     obtain ⟨b5, k5, rfl, m5⟩ := h.get 5 hd5 (.row w25.heap.size 1 74 #[.string other, .int .u8 u.kind, .int .i64 u.n, .string u.t, .slice uan u.names.length ucn, .slice uai u.items.length uci]) (by rw [HV.out]; rfl) _ rfl
     refine wpOp_step rfl fun K hK => ?_
     have ho := ht.1.own hd1
     obtain ⟨ms, ha, hb, hc, -⟩ := ho
     replace hc := hc hn
     have hfm : ∃ g c, x187 = .slice (some ⟨g, 0, none⟩) 4 c := h.get 1 hd1 (.form 4) (by rw [HV.out]; rfl) _ rfl
     have hcl : (encM (⟨other, u.kind, u.n, u.t, uan, u.names.length, ucn, uai, u.items.length, uci⟩ : Mem)).length = 1 * 6 := rfl
     have hcc : ∀ j u_, (encM (⟨other, u.kind, u.n, u.t, uan, u.names.length, ucn, uai, u.items.length, uci⟩ : Mem))[j]? = some u_ → w'.cell? ((⟨b5, 0, none⟩ : Addr).add j) = some u_ := fun j u_ hj => by
       rw [addr_add]
       have hj2 : (encM (⟨other, u.kind, u.n, u.t, uan, u.names.length, ucn, uai, u.items.length, uci⟩ : Mem)).toArray[j]? = some u_ := by simpa using hj
       exact box_cell m5 hj2
     refine wp_append_any (.tmp 187) (.tmp 191) 70 rfl w25.heap.size 74 i1 _ 6 96 Tryz.underlying70 hi1 hy0 hy1 hy2 rfl (by omega) x187 4 (flatM ms) rfl hc (some ⟨b5, 0, none⟩) 1 1 (encM (⟨other, u.kind, u.n, u.t, uan, u.names.length, ucn, uai, u.items.length, uci⟩ : Mem)) rfl hcl (fun _ => ⟨_, rfl, hcc⟩) (encM_one _) (by unfold maxLen; omega) (by omega) hsz _ rfl ?_
     intro a5 c5 w5 ho5 hg5 hat5
     have hf5 := own_form ho5 (by obtain ⟨g0, c0, e0⟩ := hfm; rw [e0] at hat5; rcases hat5 with e5 | e5 <;> rw [e5] <;> simp [Value.ownBlock])
     have hb5 := below_grown h.1 hsz hg5 (fun b hb => (hc.lt b hb).1)
     have hlt := ht.late hn
     have hkeep : ∀ (j : Nat) (m : MP) (x : Value), V[j]? = some m → d j → m.p w' x → m.p w5 x := by
       intro j m x hm hd hp
       rw [HV.out] at hm
       rcases j with _ | _ | _ | _ | _ | _ | _ | _ | _ | _ | _ | _ | j
       · obtain rfl := Option.some.inj hm
         exact hp
       · obtain rfl := Option.some.inj hm
         exact hp
       · obtain rfl := Option.some.inj hm
         exact hp
       · obtain rfl := Option.some.inj hm
         exact hp
       · obtain rfl := Option.some.inj hm
         exact hp
       · obtain rfl := Option.some.inj hm
         obtain ⟨b, e1, e2, e3⟩ := hp
         exact ⟨b, e1, e2, by rw [hg5.block b (heap_lt e3) (fun e => Six_ne hc (Nat.le_refl _) e3 e.symm)]; exact e3⟩
       · obtain rfl := Option.some.inj hm
         exact hp
       · obtain rfl := Option.some.inj hm
         exact hp
       · obtain rfl := Option.some.inj hm
         exact hp
       · obtain rfl := Option.some.inj hm
         exact hp
       · obtain rfl := Option.some.inj hm
         exact hp
       · obtain rfl := Option.some.inj hm
         obtain ⟨b, e1, e2, e3⟩ := hp
         exact ⟨b, e1, e2, by rw [hg5.block b (heap_lt e3) (fun e => Boxed_ne hc e3 e.symm)]; exact e3⟩
       · cases hm
     exact hK _ _ ⟨x186, x187, x188, x189, x190, _, _, x193, x185, x194, x195, x26, rfl, h.grow hb5 hkeep 6 _ (.form 5) (by rw [HV.out]; rfl) hf5, ht.s6 hd1 hn ms ha (fun i it m e1 e2 => Rep.carry (Nat.le_refl _) (Nat.le_refl _) (fun b _ hq => (hb5.block b (by have := HZ24.out; omega)).trans (h.1.block b (by have := HZ24.out; omega)).symm) _ _ (hb i it m e1 e2)) ho5⟩
   · have hd6 : d 6 := hw _ rfl ⟨6, .data⟩ (by simp) rfl
     refine wpOp_step rfl fun K hK => ?_
     go_simp
     obtain ⟨ms, ha, hb, -, hc⟩ := ht.1.own (ht.1.o1 hd6)
     refine (HOB.out w' _ ms h.1 ha hb (hc hd6)).mono ?_
     rintro r w2 ⟨v_, an, cn, ai, ci, hq_, rfl, hr, hb2⟩
     exact hK _ _ ⟨x186, x187, x188, x189, x190, x191, x192, _, x185, x194, x195, x26, rfl, h.did hb2 7 _ .any (by rw [HV.out]; rfl) trivial, ht.s7 hd6 hz hb2 v_ an ai cn ci hq_ hB hr (fun hd b e => by obtain ⟨b', _, e', m'⟩ := h.get 11 hd (.blk w25.heap.size 30 #[.int .u8 0, .int .i64 0, .string { data := #[] }, .slice none 0 0, .slice none 0 0]) (by rw [HV.out]; rfl) _ rfl; rw [e'] at e; cases e; exact heap_lt m')⟩
   · have hd7 : d 7 := hw _ rfl ⟨7, .data⟩ (by simp) rfl
     refine wpOp_step rfl fun K hK => ?_
     go_simp
     exact hK _ _ ⟨x186, x187, x188, x189, x190, x191, x192, x193, _, x194, x195, x26, rfl, h.same 8 _ .any (by rw [HV.out]; rfl) trivial, ht.s8 hd7 hn hz⟩
   · have hd8 : d 8 := hw _ rfl ⟨8, .data⟩ (by simp) rfl
     obtain ⟨cs0, rfl, hl⟩ := ht.s9 hd8 hz
     refine wpOp_step rfl fun K hK => ?_
     go_simp
     exact hK _ _ ⟨x186, x187, x188, x189, x190, x191, x192, x193, _, _, x195, x26, rfl, h.same 9 _ .any (by rw [HV.out]; rfl) trivial, hl⟩
   · have hd8 : d 8 := hw _ rfl ⟨8, .data⟩ (by simp) rfl
     obtain ⟨cs0, rfl, hl⟩ := ht.s10 hd8 hz
     refine wpOp_step rfl fun K hK => ?_
     go_simp
     exact hK _ _ ⟨x186, x187, x188, x189, x190, x191, x192, x193, _, x194, _, x26, rfl, h.same 10 _ .any (by rw [HV.out]; rfl) trivial, hl⟩
   · refine wpOp_step rfl fun K hK => ?_
     go_simp
     exact hK _ _ ⟨x186, x187, x188, x189, x190, x191, x192, x193, x185, x194, x195, _, rfl, h.new _ 11 _ (.blk w25.heap.size 30 #[.int .u8 0, .int .i64 0, .string { data := #[] }, .slice none 0 0, .slice none 0 0]) (by rw [HV.out]; rfl) (IsBlk.made _ hsz), ht.s11 _ hz⟩
   · omega
 case store =>
   rintro d a' w' ⟨x186, x187, x188, x189, x190, x191, x192, x193, x185, x194, x195, x26, rfl, h, ht⟩ hall
   obtain ⟨b18, k18, rfl, m18⟩ := h.get 11 (hall 11 (by omega) (by omega)) (.blk w25.heap.size 30 #[.int .u8 0, .int .i64 0, .string { data := #[] }, .slice none 0 0, .slice none 0 0]) (by rw [HV.out]; rfl) _ rfl
   obtain ⟨v_, lo, hi, an, cn, ai, ci, hq, rfl, rfl, h10, h3, h4, h5, h6⟩ := ht.out (hall 9 (by omega) (by omega))
   have h7 := h6 (hall 11 (by omega) (by omega)) b18 rfl
   refine wpOp_step rfl fun K hK => ?_
   refine step_store_row rfl 30 (.tmp 26) (.tmp 194) rfl b18 (aggV v_ an cn ai ci) rfl rfl 30 _ m18 (by kernel_rfl) rfl (by simp [aggV, Value.oneCell']) ?_
   exact hK _ _ ⟨x186, x187, x188, x189, x190, x191, x192, x193, _, x195, b18, v_, an, cn, ai, ci, rfl, h10, below_setRowN h.1 k18 _, k18, hq, by simp [World.setRow, Array.getElem?_modify, m18], h5.carry h3 (by simpa [World.setRow] using h4) (fun b hb1 hb2 => by simp only [World.setRow, Array.getElem?_modify]; rw [if_neg (fun e => h7 (by rw [e]; exact ⟨hb1, hb2⟩))])⟩
 case late =>
   rintro a' w' ⟨x186, x187, x188, x189, x190, x191, x192, x193, x194, x195, b18, v_, an, cn, ai, ci, rfl, hF⟩
   obtain ⟨-, hb, hF⟩ := hF
   refine wpOp_step rfl fun K hK => ?_
   go_simp
   exact hK _ _ ⟨x186, x187, x188, x189, x190, x191, x192, x193, x194, _, b18, v_, an, cn, ai, ci, rfl, fun _ => rfl, hb, hF⟩
 case last =>
   rintro a' w' ⟨x186, x187, x188, x189, x190, x191, x192, x193, x194, x195, b18, v_, an, cn, ai, ci, rfl, hF⟩
   obtain ⟨h115, hle, k18, hq, m18, hr18⟩ := hF
   obtain rfl := h115 trivial
   have HLE := Lib.hid hle
   have HR18 := Lib.hid hr18
   have HM18 := Lib.hid m18
   have HMQ := Lib.hid hq
   clear h115 hle k18 m18 hr18 hq HV
   generalize w' = w26 at *
   have HXY := Lib.hid (show w26.heap[b18]? = some (.cells #[.int .u8 v_.kind, .int .i64 v_.n, .string v_.t, .slice an v_.names.length cn, .slice ai v_.items.length ci] 30 (0, 0)) from HM18.out)
   obtain ⟨E1, hE1⟩ : ∃ E1, E1 = erV (aggV v_ an cn ai ci) := ⟨_, rfl⟩
   rw [← hE1]
   have HE1 := Lib.hid (show E1 = 0 → v_.mayB = true → (snapOfA v_).2 = 11 from fun h0 hm => by
     rw [hE1, erV_agg] at h0
     rcases HMQ.out.2 with hk | ⟨_, hk⟩
     · rw [if_pos hk] at h0; exact absurd h0 (by decide)
     · exact hk hm)
   clear hE1 HM18 HC16 HMM16 HOB HXW HXV HRJ
   replace HB := Lib.hid (HB.out.trans (HLE.out.mono HB.out.size))
   replace HXP := Lib.hid ((HLE.out.block _ (heap_lt HXP.out)).trans HXP.out)
   replace HB20 := Lib.hid (HB20.out.trans (HLE.out.mono HB20.out.size))
   have HOF := Lib.hid (snapOfOwn v_ _ w26 w10.heap.size HB80.out HMQ.out.1 HR18.out (HTW.out w26 HB.out).1)
   obtain ⟨r4, hr4⟩ : ∃ r4, r4 = snapOfA v_ := ⟨_, rfl⟩
   rw [← hr4] at HOF HE1
   clear hr4 HLE
   obtain ⟨S4, E4⟩ := r4
   have xY0 := box_cell HXY.out (j := 0) rfl; have xY1 := box_cell HXY.out (j := 1) rfl; have xY2 := box_cell HXY.out (j := 2) rfl; have xY3 := box_cell HXY.out (j := 3) rfl; have xY4 := box_cell HXY.out (j := 4) rfl
   go_wp2_with fail
   refine (HOF.out).mono ?_
   clear xY0 xY1 xY2 xY3 xY4
   rintro r w27 ⟨qs3, ta3, tc3, rfl, hown, hqs, hb27⟩
   clear hown hqs HOF
   dsimp only at HE1 ⊢
   replace HR18 := Lib.hid (HR18.out.below hb27 (Nat.le_refl _) (Nat.le_refl _) hb27.size)
   replace HB := Lib.hid (HB.out.trans (hb27.mono HB.out.size))
   replace HXP := Lib.hid ((hb27.block _ (heap_lt HXP.out)).trans HXP.out)
   replace HXY := Lib.hid ((hb27.block _ (heap_lt HXY.out)).trans HXY.out)
   replace HB20 := Lib.hid (HB20.out.trans (hb27.mono HB20.out.size))
   clear hb27
   obtain ⟨W28, hW28⟩ : ∃ W28, W28 = w27.alloc (.cells #[.int .i64 S4.ver, .int .i64 S4.exp, .slice ta3 S4.pins.length tc3] 24) := ⟨_, rfl⟩
   have hbx : Below w27.heap.size w27 W28 := by rw [hW28]; exact (Below.refl _ _).alloc (Nat.le_refl _) _
   replace HB := Lib.hid (HB.out.trans (hbx.mono HB.out.size))
   replace HXP := Lib.hid ((hbx.block _ (heap_lt HXP.out)).trans HXP.out)
   replace HXY := Lib.hid ((hbx.block _ (heap_lt HXY.out)).trans HXY.out)
   replace HB20 := Lib.hid (HB20.out.trans (hbx.mono HB20.out.size))
   have HXZ := Lib.hid (show W28.heap[w27.heap.size]? = some (.cells #[.int .i64 S4.ver, .int .i64 S4.exp, .slice ta3 S4.pins.length tc3] 24 (0, 0)) by rw [hW28]; exact heap_alloc_new w27 _)
   have HW28 := Lib.hid hW28
   replace HR18 := Lib.hid (HR18.out.below hbx (Nat.le_refl _) (Nat.le_refl _) hbx.size)
   clear hbx HXZ
   go_upto_region 18 with fail
   rw [← HW28.out]
   clear hW28 HW28
   have HMY3 := Lib.hid (refMay v_ _ W28 HMQ.out.1 (HR18.out.carry (Nat.zero_le _) (Nat.le_refl _) (fun _ _ _ => rfl)))
   obtain ⟨mb3, hmb3⟩ : ∃ mb3, mb3 = v_.mayB := ⟨_, rfl⟩
   rw [← hmb3] at HMY3 HE1
   clear hmb3
   go_cut [210] (fun cx wx => cx = .bool false ∧ Below W28.heap.size W28 wx)
   case first =>
     by_cases hE : E1 = 0
     · subst E1
       have xY0 := box_cell HXY.out (j := 0) rfl; have xY1 := box_cell HXY.out (j := 1) rfl; have xY2 := box_cell HXY.out (j := 2) rfl; have xY3 := box_cell HXY.out (j := 3) rfl; have xY4 := box_cell HXY.out (j := 4) rfl
       go_wp2_with fail
       refine (HMY3.out).mono ?_
       clear xY0 xY1 xY2 xY3 xY4
       rintro r w29 ⟨rfl, hb29⟩
       have HBX := Lib.hid hb29
       clear hb29
       cases mb3 with
       | false =>
         go_wp2_with fail
         go_meet
         exact ⟨rfl, HBX.out⟩
       | true =>
         obtain rfl : E4 = 11 := HE1.out (by first | rfl | trivial) (by first | rfl | trivial)
         go_wp2_with fail
         go_meet
         exact ⟨rfl, HBX.out⟩
     · have hne : (E1 == 0) = false := by simpa using hE
       go_wp2_with fail
       go_meet
       exact ⟨rfl, Below.refl _ _⟩
   case rest =>
     obtain ⟨rfl, hcut⟩ := hcut
     replace HB := Lib.hid (HB.out.trans (hcut.mono HB.out.size))
     replace HXP := Lib.hid ((hcut.block _ (heap_lt HXP.out)).trans HXP.out)
     replace HB20 := Lib.hid (HB20.out.trans (hcut.mono HB20.out.size))
     generalize wc = w29 at *
     go_step
     go_step
     go_step
     go_step
     go_step
     exact lawElseC P pa pc which w W2 w10 W12 W14 w15 W20 w29 J g2 c2 n2 a2 mm _ _ _ _ _ _ _ _ _ _ _ _ _ _ _ _ _ _ _ _ _ _ _ _ _ _ _ _ _ _ _ _ _ _ _ _ _ _ _ _ _ _ _ _ _ _ _ _ _ _ _ _ _ _ _ _ _ _ _ _ _ _ _ _ _ _ _ _ _ _ _ _ _ _ _ _ _ _ _ _ _ _ _ _ _ _ _ _ _ _ _ _ _ _ _ _ _ _ _ _ _ _ _ _ _ _ _ _ _ _ _ _ _ _ _ _ _ _ _ _ _ _ _ _ _ _ _ _ _ _ _ _ _ _ _ _ _ _ _ _ _ _ _ _ _ _ _ _ _ _ _ _ _ _ _ _ _ _ _ _ _ _ _ _ _ _ _ _ _ _ _ _ _ _ _ _ _ _ _ _ _ _ _ _ _ _ _ _ _ _ _ _ _ _ _ _ _ _ _ _ _ _ _ _ _ _ _ _ _ _ _ _ _ _ _ _ _ _ _ _ _ _ _ _ _ _ _ _ _ _ _ _ _ _ _ _ _ _ _ _ _ _ _ _ _ _ _ _ _ _ _ _ _ _ _ _ _ hkl HWH.out HB2.out HB.out HKA.out HPM.out HSH2.out HB80.out HZP.out HZ20.out HB20.out HMM.out HO2.out HNM.out HJP.out HJL.out HL5.out HN2.out HA2.out HXP.out
end Go.Proofs.YtgghgcilpfdbjaaGreatDoor
