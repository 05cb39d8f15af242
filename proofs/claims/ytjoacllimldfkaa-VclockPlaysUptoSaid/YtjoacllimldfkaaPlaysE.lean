/- What the law Plays rests on, part 5 of 5. -/
import Derived.Test.YtjoacllimldfkaaPlaysD
import Derived.Test.YtjoacllimldfkaaRows
import Derived.WalkKit
import Derived.ProofKit
import Derived.OpenShut
import Derived.JoinedCond
import Derived.Carry
set_option linter.unusedVariables false
set_option linter.unusedSimpArgs false
set_option maxRecDepth 100000
namespace Go.Ab.Vp
open Go Go.Proofs Go.Ab Go.Ab.Vc Go.Ab.Rv
theorem tells_spec (b : Nat) (T : TS) (n_ : Nat) (hT : TOk n_ T) (hn_ : n_ ≤ 3999990) (kd on th ck lv : Int) (ep : Nat) (ws : List Int) (so : Option Addr) (sn sc : Nat) (cs : List Int) (ko : Option Addr) (kn kc : Nat) (A : HProp) (hrw : RdS A so (ws.flatMap encZ)) (hws : ws.length = sn) (hsb : sn ≤ 4000000) (hrc : RdS A ko (cs.flatMap encU)) (hcs : cs.length = kn) (hkb : kn ≤ 4000000) (hc0 : ∀ x ∈ cs, 0 ≤ x) (hck : 0 ≤ ck) (hep : ep < 18446744073709551616) : Spec Try.prog 34 [.pointer (some ⟨b, 0, none⟩), .agg #[.int .i64 kd, .int .i64 on, .slice so sn sc, .int .i64 th, .int .u64 ck, .slice ko kn kc, .int .u64 ((ep : Nat) : Int), .int .i64 lv]] [A, tabR b T] (fun (T2 : TS) => .bool true) (fun T2 => TOk (n_ + 1) T2) (fun T2 => [A, tabR b T2]) := by
 refine spec_mk (n := 209) Try.func34 rfl rfl rfl ?_
 intro Γ w0
 simp only [argE, List.cons_append, List.nil_append, Nat.zero_add, Nat.reduceAdd]
 refine tab_open (b := b) (T := T) Tk fun p0 p1 p2 p3 p4 p5 ca cc wa wc hp hq => ?_
 have hO3 := len3 hp
 have hQ3 := len3 hq
 have hrel := hT.rel
 have hwl_ := tok_wl hT
 have hcn_ := hT.cn
 refine c_seq (c_plain ((.l 0 [] (.q 1 (.done)))) (by kernel_rfl) ?_)
 refine l_box rfl rfl rfl rfl (us := [_, _, _, _, _, _, _, _]) rfl ?_
 intro b3
 refine ag_nil (q_assign rfl rfl rfl rfl (r_done (k_then_n (c_seq (c_plain (.q 0 (.q 1 ((.l 2 [] (.q 3 (.done)))))) (by kernel_rfl) ?_)))))
 refine q_field (k := 1) rfl rfl rfl rfl Try.underlying68 rfl Try.sizeOf3 rfl ?_
 refine q_load_c (j := 1) rfl rfl rfl rfl Try.isAgg3 Tk Az (by rfl) ?_
 have sp_1 := Vp.place_spec on
 refine l_call rfl rfl rfl rfl rfl rfl Try.call48 (sp_1) Ts ?_
 rintro ⟨⟩ -
 have hpl_ := plN_lt on
 try simp only [List.cons_append, List.nil_append]
 refine ag_nil (q_assign rfl rfl rfl rfl (r_done (s_keep [0, 3, 5] (e' := [(0, _), (3, _), (5, _)]) rfl ?_)))
 refine k_then_n (c_seq (c_plain (.q 0 (.q 1 ((.l 2 [] (.q 3 (.done)))))) (by kernel_rfl) ?_))
 refine q_field (k := 3) rfl rfl rfl rfl Try.underlying68 rfl Try.sizeOf3 rfl ?_
 refine q_load_c (j := 3) rfl rfl rfl rfl Try.isAgg3 Tk Az (by rfl) ?_
 have sp_2 := Vp.place_spec th
 refine l_call rfl rfl rfl rfl rfl rfl Try.call48 (sp_2) Ts ?_
 rintro ⟨⟩ -
 have hpl_ := plN_lt th
 try simp only [List.cons_append, List.nil_append]
 refine ag_nil (q_assign rfl rfl rfl rfl (r_done ?_))
 obtain ⟨a, r, m, hx, hy⟩ := rel_at hrel (i := (plN on)) (by rw [hO3]; exact plN_lt _)
 obtain ⟨a2, r2, m2, hx2, hy2⟩ := rel_at hrel (i := (plN th)) (by rw [hO3]; exact plN_lt _)
 have hpl1_ := plN_lt on
 have hpl2_ := plN_lt th
 refine k_then_n (c_seq (c_seq (c_plain (.q 0 (.q 1 (.done))) (by kernel_rfl) ?_)))
 refine q_field (k := 0) rfl rfl rfl rfl Try.underlying68 rfl Try.sizeOf3 rfl ?_
 refine q_load_c (j := 0) rfl rfl rfl rfl Try.isAgg3 Tk Az (by rfl) ?_
 refine r_done (s_keep [0, 3, 5, 6, 25] (e' := [(0, _), (3, _), (5, _), (6, _), (25, _)]) rfl ?_)
 refine k_then_n (c_block (c_seq (c_plain (.q 0 (.q 1 (.done))) (by kernel_rfl) ?_)))
 refine q_int rfl rfl rfl rfl rfl (b_eql _ _ _ _) ?_
 refine q_assign rfl rfl rfl rfl (r_done (k_then_n ?_))
 refine c_cond_p rfl (fun hk3 => ?_) (fun hk3 => ?_)
 ·
  refine c_seq (c_draw rfl (.q 0 (.q 1 (.q 2 (.q 3 (.q 4 (.q 5 (.q 6 (.q 7 (.q 9 (.q 10 (.q 11 (.q 12 (.q 13 (.q 14 (.q 15 (.q 16 ((.l 8 [14, 16] ((.l 17 [] (.q 18 (.q 19 (.done))))))))))))))))))))))) (by kernel_rfl) ?_)
  refine q_move rfl rfl rfl rfl (q_move rfl rfl rfl rfl (q_nil_p rfl rfl rfl rfl (q_field (k := 0) rfl rfl rfl rfl Try.underlying62 rfl Try.sizeOf57 rfl ?_)))
  refine q_idxA (k := (plN on)) rfl rfl rfl rfl rfl Try.underlying57 Try.sizeOf25 (by first | rfl | omega) (by omega) ?_
  refine q_load_c (j := 0 + (plN on)) rfl rfl rfl rfl Try.isAgg25 Tk (by omega) (tc_o hp hx) ?_
  refine q_field (k := 3) rfl rfl rfl rfl Try.underlying68 rfl Try.sizeOf3 rfl ?_
  refine q_load_c (j := 3) rfl rfl rfl rfl Try.isAgg3 Tk Az (by rfl) ?_
  refine q_move rfl rfl rfl rfl (q_move rfl rfl rfl rfl (q_nil_p rfl rfl rfl rfl (q_field (k := 3) rfl rfl rfl rfl Try.underlying62 rfl Try.sizeOf59 rfl ?_)))
  refine q_idxA (k := (plN on)) rfl rfl rfl rfl rfl Try.underlying59 Try.sizeOf58 (by first | rfl | omega) (by omega) ?_
  refine q_load_c (j := 3 + (plN on)) rfl rfl rfl rfl Try.isAgg58 Tk (by omega) (tc_q hq hy) ?_
  refine q_field (k := 3) rfl rfl rfl rfl Try.underlying68 rfl Try.sizeOf3 rfl ?_
  refine q_load_c (j := 3) rfl rfl rfl rfl Try.isAgg3 Tk Az (by rfl) ?_
  have sp_3 := Vp.o_get hx th
  refine l_call rfl rfl rfl rfl rfl rfl Try.call13 (sp_3) Ts ?_
  rintro ⟨⟩ -
  try simp only [List.cons_append, List.nil_append]
  refine ag_load_c (q := 3 + (plN on)) rfl rfl rfl Try.isAgg58 Tk (by omega) (tc_q hq hy) ?_
  refine ag_load_c (q := 3) rfl rfl rfl Try.isAgg3 Tk Az (by rfl) ?_
  refine ag_nil ?_
  have sp_4 := Vp.r_get hy th
  refine l_call rfl rfl rfl rfl rfl rfl Try.call57 (sp_4) Ts ?_
  rintro ⟨⟩ -
  try simp only [List.cons_append, List.nil_append]
  refine ag_nil (q_int rfl rfl rfl rfl rfl (b_eql _ _ _ _) ?_)
  refine s_eq 46 rfl (v' := .bool true) (by first | (rw [decide_eq_true rfl]; done) | simp) ?_
  refine q_assign rfl rfl rfl rfl (r_done (s_keep [4] (e' := [(4, _)]) rfl ?_))
  refine k_then_n (c_ret (k_blk_ret (k_then_ret (tab_fold (b := b) T Ts hp hq rfl rfl ?_))))
  refine ret1 rfl rfl (T) (by first | rfl | (first | rfl | (congr 1; done) | (congr 1 <;> first | rfl | omega | (simp; done) | (simp; omega)))) (by exact tok_more hT (by omega)) ?_
  exact Tf
 refine c_seq (c_plain (.q 0 (.q 1 (.done))) (by kernel_rfl) ?_)
 refine q_int rfl rfl rfl rfl rfl (b_eql _ _ _ _) ?_
 refine q_assign rfl rfl rfl rfl (r_done (k_then_n ?_))
 refine c_cond_p rfl (fun hk10 => ?_) (fun hk10 => ?_)
 ·
  refine c_seq (c_draw rfl (.q 0 (.q 1 (.q 2 (.q 3 (.q 4 (.q 5 (.q 6 (.q 7 (.q 8 (.q 9 (.q 10 (.q 11 (.q 12 (.q 13 (.done))))))))))))))) (by kernel_rfl) ?_)
  refine q_move rfl rfl rfl rfl (q_move rfl rfl rfl rfl (q_nil_p rfl rfl rfl rfl (q_field (k := 0) rfl rfl rfl rfl Try.underlying62 rfl Try.sizeOf57 rfl ?_)))
  refine q_idxA (k := (plN on)) rfl rfl rfl rfl rfl Try.underlying57 Try.sizeOf25 (by first | rfl | omega) (by omega) ?_
  refine q_load_c (j := 0 + (plN on)) rfl rfl rfl rfl Try.isAgg25 Tk (by omega) (tc_o hp hx) ?_
  refine q_move rfl rfl rfl rfl (q_move rfl rfl rfl rfl (q_nil_p rfl rfl rfl rfl (q_field (k := 0) rfl rfl rfl rfl Try.underlying62 rfl Try.sizeOf57 rfl ?_)))
  refine q_idxA (k := (plN th)) rfl rfl rfl rfl rfl Try.underlying57 Try.sizeOf25 (by first | rfl | omega) (by omega) ?_
  refine q_load_c (j := 0 + (plN th)) rfl rfl rfl rfl Try.isAgg25 Tk (by omega) (tc_o hp hx2) ?_
  refine q_assign rfl rfl rfl rfl (q_assign rfl rfl rfl rfl (r_done (s_keep [0, 5, 6, 7, 8] (e' := [(0, _), (5, _), (6, _), (7, _), (8, _)]) rfl ?_)))
  refine k_then_n (c_seq (c_draw rfl (.q 0 (.q 1 (.q 2 (.q 3 (.q 4 (.q 5 (.q 6 (.q 7 (.q 8 (.q 9 (.q 10 (.q 11 (.q 12 (.q 13 (.done))))))))))))))) (by kernel_rfl) ?_))
  refine q_move rfl rfl rfl rfl (q_move rfl rfl rfl rfl (q_nil_p rfl rfl rfl rfl (q_field (k := 3) rfl rfl rfl rfl Try.underlying62 rfl Try.sizeOf59 rfl ?_)))
  refine q_idxA (k := (plN on)) rfl rfl rfl rfl rfl Try.underlying59 Try.sizeOf58 (by first | rfl | omega) (by omega) ?_
  refine q_load_c (j := 3 + (plN on)) rfl rfl rfl rfl Try.isAgg58 Tk (by omega) (tc_q hq hy) ?_
  refine q_move rfl rfl rfl rfl (q_move rfl rfl rfl rfl (q_nil_p rfl rfl rfl rfl (q_field (k := 3) rfl rfl rfl rfl Try.underlying62 rfl Try.sizeOf59 rfl ?_)))
  refine q_idxA (k := (plN th)) rfl rfl rfl rfl rfl Try.underlying59 Try.sizeOf58 (by first | rfl | omega) (by omega) ?_
  refine q_load_c (j := 3 + (plN th)) rfl rfl rfl rfl Try.isAgg58 Tk (by omega) (tc_q hq hy2) ?_
  refine q_assign rfl rfl rfl rfl (q_assign rfl rfl rfl rfl (r_done (s_keep [7, 8, 9, 10] (e' := [(7, _), (8, _), (9, _), (10, _)]) rfl ?_)))
  refine k_then_n (c_seq (c_plain (.q 0 (.q 1 ((.l 2 [] (.q 3 (.q 4 ((.l 5 [] (.q 6 (.q 7 (.q 8 (.q 9 ((.l 10 [] (.q 11 (.q 12 ((.l 13 [] (.q 14 (.q 15 (.q 16 (.q 17 (.q 18 ((.l 19 [] (.q 20 (.q 21 ((.l 22 [] (.q 23 (.q 24 (.q 25 (.done))))))))))))))))))))))))))))))))) (by kernel_rfl) ?_))
  refine q_move rfl rfl rfl rfl (q_move rfl rfl rfl rfl ?_)
  have sp_5 := Vp.o_leq hx hx2
  refine l_call rfl rfl rfl rfl rfl rfl Try.call15 (sp_5) Ts ?_
  rintro ⟨⟩ -
  try simp only [List.cons_append, List.nil_append]
  refine ag_nil (q_move rfl rfl rfl rfl (q_move rfl rfl rfl rfl ?_))
  have sp_6 := Vp.r_leq hy hy2
  refine l_call rfl rfl rfl rfl rfl rfl Try.call58 (sp_6) Ts ?_
  rintro ⟨⟩ -
  try simp only [List.cons_append, List.nil_append]
  refine ag_nil (q_eqb rfl rfl rfl rfl rfl Try.underlying4 ?_)
  refine s_eq 79 rfl (v' := .bool true) (by simp) ?_
  refine q_move rfl rfl rfl rfl (q_move rfl rfl rfl rfl (q_move rfl rfl rfl rfl ?_))
  have sp_7 := Vp.o_equal hx hx2
  refine l_call rfl rfl rfl rfl rfl rfl Try.call12 (sp_7) Ts ?_
  rintro ⟨⟩ -
  try simp only [List.cons_append, List.nil_append]
  refine ag_nil (q_move rfl rfl rfl rfl (q_move rfl rfl rfl rfl ?_))
  have sp_8 := Vp.r_equal hy hy2
  refine l_call rfl rfl rfl rfl rfl rfl Try.call59 (sp_8) Ts ?_
  rintro ⟨⟩ -
  try simp only [List.cons_append, List.nil_append]
  refine ag_nil (q_eqb rfl rfl rfl rfl rfl Try.underlying4 ?_)
  refine s_eq 87 rfl (v' := .bool true) (by simp) ?_
  refine q_pick_t rfl rfl rfl rfl rfl (q_move rfl rfl rfl rfl (q_move rfl rfl rfl rfl (q_move rfl rfl rfl rfl ?_)))
  have sp_9 := Vp.o_ag hx hx2
  refine l_call rfl rfl rfl rfl rfl rfl Try.call16 (sp_9) Ts ?_
  rintro ⟨⟩ -
  try simp only [List.cons_append, List.nil_append]
  refine ag_nil (q_move rfl rfl rfl rfl (q_move rfl rfl rfl rfl ?_))
  have sp_10 := Vp.r_ag hy hy2
  refine l_call rfl rfl rfl rfl rfl rfl Try.call60 (sp_10) Ts ?_
  rintro ⟨⟩ -
  try simp only [List.cons_append, List.nil_append]
  refine ag_nil (q_int rfl rfl rfl rfl rfl (b_eql _ _ _ _) ?_)
  refine s_eq 96 rfl (v' := .bool true) (by first | (rw [decide_eq_true rfl]; done) | simp) ?_
  refine q_pick_t rfl rfl rfl rfl rfl (q_assign rfl rfl rfl rfl (r_done (s_keep [4] (e' := [(4, _)]) rfl ?_)))
  refine k_then_n (c_ret (k_blk_ret (k_then_ret (tab_fold (b := b) T Ts hp hq rfl rfl ?_))))
  refine ret1 rfl rfl (T) (by first | rfl | (first | rfl | (congr 1; done) | (congr 1 <;> first | rfl | omega | (simp; done) | (simp; omega)))) (by exact tok_more hT (by omega)) ?_
  exact Tf
 refine c_seq (c_plain (.q 0 (.q 1 (.done))) (by kernel_rfl) ?_)
 refine q_int rfl rfl rfl rfl rfl (b_eql _ _ _ _) ?_
 refine q_assign rfl rfl rfl rfl (r_done (s_keep [0, 3, 5, 25, 98] (e' := [(0, _), (3, _), (5, _), (25, _), (98, _)]) rfl ?_))
 refine k_then_n ?_
 refine c_cond_p rfl (fun hk11 => ?_) (fun hk11 => ?_)
 ·
  refine c_seq (c_plain (.q 0 (.q 1 (.q 2 (.q 3 (.q 4 (.q 5 ((.l 6 [] (.q 7 (.done)))))))))) (by kernel_rfl) ?_)
  refine q_move rfl rfl rfl rfl (q_move rfl rfl rfl rfl (q_nil_p rfl rfl rfl rfl (q_field (k := 0) rfl rfl rfl rfl Try.underlying62 rfl Try.sizeOf57 rfl ?_)))
  refine q_idxA (k := (plN on)) rfl rfl rfl rfl rfl Try.underlying57 Try.sizeOf25 (by first | rfl | omega) (by omega) ?_
  refine q_load_c (j := 0 + (plN on)) rfl rfl rfl rfl Try.isAgg25 Tk (by omega) (tc_o hp hx) ?_
  have sp_11 := Vp.o_list hx
  refine l_call rfl rfl rfl rfl rfl rfl Try.call18 (sp_11) Ts ?_
  rintro ⟨xa_, xc_⟩ -
  try simp only [List.cons_append, List.nil_append]
  refine ag_nil (q_assign rfl rfl rfl rfl (r_done (s_keep [0, 5, 11] (e' := [(0, _), (5, _), (11, _)]) rfl ?_)))
  refine k_then_n (c_seq (c_plain (.q 0 (.q 1 (.q 2 (.q 3 (.q 4 (.q 5 ((.l 6 [] (.q 7 (.done)))))))))) (by kernel_rfl) ?_))
  refine q_move rfl rfl rfl rfl (q_move rfl rfl rfl rfl (q_nil_p rfl rfl rfl rfl (q_field (k := 3) rfl rfl rfl rfl Try.underlying62 rfl Try.sizeOf59 rfl ?_)))
  refine q_idxA (k := (plN on)) rfl rfl rfl rfl rfl Try.underlying59 Try.sizeOf58 (by first | rfl | omega) (by omega) ?_
  refine q_load_c (j := 3 + (plN on)) rfl rfl rfl rfl Try.isAgg58 Tk (by omega) (tc_q hq hy) ?_
  have sp_12 := Vp.r_list hy
  refine l_call rfl rfl rfl rfl rfl rfl Try.call36 (sp_12) Ts ?_
  rintro ⟨ya_, yc_⟩ -
  try simp only [List.cons_append, List.nil_append]
  refine ag_nil (q_assign rfl rfl rfl rfl (r_done (s_keep [0, 5, 11, 12] (e' := [(0, _), (5, _), (11, _), (12, _)]) rfl ?_)))
  refine k_then_n (c_seq (c_seq (big_len (L := T.O) Tk hx fun hml => ?_)))
  refine c_plain (.q 0 (.q 1 ((.l 2 [] (.q 3 (.q 4 (.q 5 (.q 6 (.q 7 (.q 8 (.q 9 (.q 10 ((.l 11 [] (.q 12 (.q 13 (.q 14 (.q 15 (.done))))))))))))))))))) (by kernel_rfl) ?_
  refine q_move rfl rfl rfl rfl (q_move rfl rfl rfl rfl (s_take (A := own 1 encU xa_ xc_ (lM m)) Tk ?_))
  refine own_fc fun f_13a f_13b f_13c => ?_
  refine s_take (A := own 1 encU ya_ yc_ (lM m)) Tk ?_
  refine own_fc fun f_14a f_14b f_14c => ?_
  refine s_heap (fun _ h => Bun.fold ((by (repeat ((with_reducible apply Z2); focus (first | (with_reducible (repeat (first | exact Z0 | apply Z1)); done) | (repeat (first | exact Z0 | apply Z1))))); exact Z3 : Takes _ [own 1 encU xa_ xc_ (lM m), own 1 encU ya_ yc_ (lM m)] _) _ h)) ?_
  have sp_15 := Vc.same_spec (lM m) (lM m) xa_ ya_ ((lM m).length) ((lM m).length) xc_ yc_ (Bun [own 1 encU xa_ xc_ (lM m), own 1 encU ya_ yc_ (lM m)]) Ln (rds_bun (List.mem_cons_self) (rds_own encU_len (fun h => (f_13b h).1) f_13c)) Ln (rds_bun (List.mem_cons_of_mem _ (List.mem_cons_self)) (rds_own encU_len (fun h => (f_14b h).1) f_14c)) (by omega)
  refine l_call rfl rfl rfl rfl rfl rfl Try.call17 (sp_15) Ts ?_
  rintro ⟨⟩ -
  try simp only [List.cons_append, List.nil_append]
  refine s_take (A := Bun [own 1 encU xa_ xc_ (lM m), own 1 encU ya_ yc_ (lM m)]) Tk ?_
  refine s_bun ?_
  try simp only [List.cons_append, List.nil_append]
  try simp only [List.cons_append, List.nil_append]
  refine ag_nil (s_eq 116 rfl (v' := .bool true) (by simp) ?_)
  refine q_not rfl rfl rfl rfl ?_
  refine s_eq 117 rfl (v' := .bool false) rfl ?_
  refine q_move rfl rfl rfl rfl (q_move rfl rfl rfl rfl (q_move rfl rfl rfl rfl (q_nil_p rfl rfl rfl rfl (q_field (k := 0) rfl rfl rfl rfl Try.underlying62 rfl Try.sizeOf57 rfl ?_))))
  refine q_idxA (k := (plN on)) rfl rfl rfl rfl rfl Try.underlying57 Try.sizeOf25 (by first | rfl | omega) (by omega) ?_
  refine q_load_c (j := 0 + (plN on)) rfl rfl rfl rfl Try.isAgg25 Tk (by omega) (tc_o hp hx) ?_
  have sp_16 := Vp.o_len hx
  refine l_call rfl rfl rfl rfl rfl rfl Try.call20 (sp_16) Ts ?_
  rintro ⟨⟩ -
  try simp only [List.cons_append, List.nil_append]
  refine ag_nil (q_move rfl rfl rfl rfl (q_len rfl rfl rfl rfl Try.underlying23 ?_))
  refine q_int rfl rfl rfl rfl rfl (b_neq _ _ _ _) ?_
  refine s_eq 128 rfl (v' := .bool false) (by simp) ?_
  refine q_pick_f rfl rfl rfl rfl rfl (r_done (s_keep [0, 11, 12, 129] (e' := [(0, _), (11, _), (12, _), (129, _)]) rfl ?_))
  refine k_then_n (c_cond_f rfl ?_)
  refine c_skip (k_then_n (c_seq (c_plain (.q 0 (.q 1 (.q 2 (.q 3 (.q 4 (.q 5 ((.l 6 [] ((.l 7 [] (.q 8 (.q 9 ((.l 10 [] (.done))))))))))))))) (by kernel_rfl) ?_)))
  refine q_move rfl rfl rfl rfl (q_move rfl rfl rfl rfl (q_nil_p rfl rfl rfl rfl (q_field (k := 6) rfl rfl rfl rfl Try.underlying62 rfl Try.sizeOf60 rfl ?_)))
  refine q_load_c (j := 6) rfl rfl rfl rfl Try.isAgg60 Tk Az (by rfl) ?_
  refine q_move rfl rfl rfl rfl (l_buildSlice rfl rfl rfl rfl (run_build1 (us := [_]) Try.underlying60 Try.sizeOf23 rfl Try.zeroValue23 rfl rfl rfl) ?_)
  intro b136
  refine ag_nil (l_append (sz := 1) (enc := encH) (xs := T.C) rfl rfl rfl rfl rfl Try.underlying60 Try.typeInfo23 rfl rfl rfl (by decide) Tk Tk (by first | rfl | omega | (simp; done) | (simp; omega)) (ys := [((xa_, xc_, lM m) : LstA Int)]) (rds_some rdn_cells) (by rfl) (by first | rfl | omega) (encH_len) (encH_one) (by omega) (by show _ * 24 ≤ _; omega) ?_)
  intro ao137 cp137
  refine ag_nil (q_nil_p rfl rfl rfl rfl (q_field (k := 6) rfl rfl rfl rfl Try.underlying62 rfl Try.sizeOf60 rfl ?_))
  refine l_store (j := 6) rfl rfl rfl rfl Try.sizeOf60 (us := [_]) rfl rfl rfl Tk Az (by first | decide | (simp; done) | omega) ?_
  simp only [setL, List.set]
  refine ag_nil (r_done (s_keep [0, 12] (e' := [(0, _), (12, _)]) rfl ?_))
  refine k_then_n (c_seq (c_plain (.q 0 (.q 1 (.q 2 (.q 3 (.q 4 (.q 5 ((.l 6 [] ((.l 7 [] (.q 8 (.q 9 ((.l 10 [] (.done))))))))))))))) (by kernel_rfl) ?_))
  refine q_move rfl rfl rfl rfl (q_move rfl rfl rfl rfl (q_nil_p rfl rfl rfl rfl (q_field (k := 7) rfl rfl rfl rfl Try.underlying62 rfl Try.sizeOf60 rfl ?_)))
  refine q_load_c (j := 7) rfl rfl rfl rfl Try.isAgg60 Tk Az (by rfl) ?_
  refine q_move rfl rfl rfl rfl (l_buildSlice rfl rfl rfl rfl (run_build1 (us := [_]) Try.underlying60 Try.sizeOf23 rfl Try.zeroValue23 rfl rfl rfl) ?_)
  intro b146
  refine ag_nil (l_append (sz := 1) (enc := encH) (xs := T.W) rfl rfl rfl rfl rfl Try.underlying60 Try.typeInfo23 rfl rfl rfl (by decide) Tk Tk (by first | rfl | omega | (simp; done) | (simp; omega)) (ys := [((ya_, yc_, lM m) : LstA Int)]) (rds_some rdn_cells) (by rfl) (by first | rfl | omega) (encH_len) (encH_one) (by omega) (by show _ * 24 ≤ _; omega) ?_)
  intro ao147 cp147
  refine ag_nil (q_nil_p rfl rfl rfl rfl (q_field (k := 7) rfl rfl rfl rfl Try.underlying62 rfl Try.sizeOf60 rfl ?_))
  refine l_store (j := 7) rfl rfl rfl rfl Try.sizeOf60 (us := [_]) rfl rfl rfl Tk Az (by first | decide | (simp; done) | omega) ?_
  simp only [setL, List.set]
  refine ag_nil (r_done (s_keep [] (e' := []) rfl ?_))
  refine k_then_n (c_seq (c_plain (.q 0 (.done)) (by kernel_rfl) ?_))
  refine q_assign rfl rfl rfl rfl (r_done (k_then_n (c_ret (k_blk_ret (k_then_ret (s_big_push (f := owA 1 encU) (L := T.C) (x := ((xa_, xc_, lM m) : LstA Int)) Ts ?_))))))
  refine s_big_push (f := owA 1 encU) (L := T.W) (x := ((ya_, yc_, lM m) : LstA Int)) Ts ?_
  refine tab_fold (b := b) ⟨T.O, T.Q, T.C ++ [((xa_, xc_, lM m) : LstA Int)], T.W ++ [((ya_, yc_, lM m) : LstA Int)]⟩ Ts hp hq (by simp) (by simp) ?_
  refine ret1 rfl rfl (⟨T.O, T.Q, T.C ++ [((xa_, xc_, lM m) : LstA Int)], T.W ++ [((ya_, yc_, lM m) : LstA Int)]⟩) (by first | rfl | (first | rfl | (congr 1; done) | (congr 1 <;> first | rfl | omega | (simp; done) | (simp; omega)))) (by exact tok_c hT rfl hml) ?_
  exact Tf
 refine c_seq (c_plain (.q 0 (.q 1 (.done))) (by kernel_rfl) ?_)
 refine q_int rfl rfl rfl rfl rfl (b_eql _ _ _ _) ?_
 refine q_assign rfl rfl rfl rfl (r_done (k_then_n ?_))
 refine c_cond_p rfl (fun hk12 => ?_) (fun hk12 => ?_)
 ·
  refine c_seq (c_plain (.q 0 (.q 1 ((.l 2 [] (.q 3 (.done)))))) (by kernel_rfl) ?_)
  refine q_move rfl rfl rfl rfl (q_loadN_c rfl rfl rfl rfl Try.isAgg68 Try.sizeOf68 Tk 0 (us := [_, _, _, _, _, _, _, _]) Az rfl rfl ?_)
  have sp_17 := Vp.walk_spec b T p0 p1 p2 p3 p4 p5 ca wa cc wc hp hq hrel kd on th ck lv ep ws so sn sc cs ko kn kc A hrw hws hsb hrc hcs hkb hc0 hck hep hx hy
  refine l_call rfl rfl rfl rfl rfl rfl Try.call61 (sp_17) Ts ?_
  rintro ⟨⟩ -
  try simp only [List.cons_append, List.nil_append]
  refine ag_nil (q_assign rfl rfl rfl rfl (r_done (s_keep [4] (e' := [(4, _)]) rfl ?_)))
  refine k_then_n (c_ret (k_blk_ret (k_then_ret (tab_fold (b := b) T Ts hp hq rfl rfl ?_))))
  refine ret1 rfl rfl (T) (by first | rfl | (first | rfl | (congr 1; done) | (congr 1 <;> first | rfl | omega | (simp; done) | (simp; omega)))) (by exact tok_more hT (by omega)) ?_
  exact Tf
 refine c_seq (c_plain (.q 0 (.q 1 (.done))) (by kernel_rfl) ?_)
 refine q_int rfl rfl rfl rfl rfl (b_eql _ _ _ _) ?_
 refine q_assign rfl rfl rfl rfl (r_done (s_keep [0, 3, 5, 155] (e' := [(0, _), (3, _), (5, _), (155, _)]) rfl ?_))
 refine k_then_n ?_
 refine c_cond_p rfl (fun hk13 => ?_) (fun hk13 => ?_)
 ·
  refine c_seq (c_plain (.q 0 (.q 1 (.q 2 (.done)))) (by kernel_rfl) ?_)
  refine q_field (k := 6) rfl rfl rfl rfl Try.underlying68 rfl Try.sizeOf30 rfl ?_
  refine q_load_c (j := 6) rfl rfl rfl rfl Try.isAgg30 Tk Az (by rfl) ?_
  refine q_assign rfl rfl rfl rfl (r_done (s_keep [0, 5, 13] (e' := [(0, _), (5, _), (13, _)]) rfl ?_))
  refine k_then_n (c_seq (c_draw rfl (.q 0 (.q 1 (.q 2 (.q 3 (.q 4 (.q 5 (.q 6 (.q 8 (.q 9 (.q 10 (.q 11 (.q 12 (.q 13 (.q 14 ((.l 7 [13] ((.l 15 [] (.q 16 (.q 17 (.done))))))))))))))))))))) (by kernel_rfl) ?_))
  refine q_move rfl rfl rfl rfl (q_move rfl rfl rfl rfl (q_nil_p rfl rfl rfl rfl (q_field (k := 0) rfl rfl rfl rfl Try.underlying62 rfl Try.sizeOf57 rfl ?_)))
  refine q_idxA (k := (plN on)) rfl rfl rfl rfl rfl Try.underlying57 Try.sizeOf25 (by first | rfl | omega) (by omega) ?_
  refine q_load_c (j := 0 + (plN on)) rfl rfl rfl rfl Try.isAgg25 Tk (by omega) (tc_o hp hx) ?_
  refine q_move rfl rfl rfl rfl (q_move rfl rfl rfl rfl (q_move rfl rfl rfl rfl (q_nil_p rfl rfl rfl rfl (q_field (k := 3) rfl rfl rfl rfl Try.underlying62 rfl Try.sizeOf59 rfl ?_))))
  refine q_idxA (k := (plN on)) rfl rfl rfl rfl rfl Try.underlying59 Try.sizeOf58 (by first | rfl | omega) (by omega) ?_
  refine q_load_c (j := 3 + (plN on)) rfl rfl rfl rfl Try.isAgg58 Tk (by omega) (tc_q hq hy) ?_
  refine q_move rfl rfl rfl rfl ?_
  have sp_18 := Vp.o_has hx ep hep
  refine l_call rfl rfl rfl rfl rfl rfl Try.call27 (sp_18) Ts ?_
  rintro ⟨⟩ -
  try simp only [List.cons_append, List.nil_append]
  refine ag_load_c (q := 3 + (plN on)) rfl rfl rfl Try.isAgg58 Tk (by omega) (tc_q hq hy) ?_
  refine ag_nil ?_
  have sp_19 := Vp.r_has hy ep hep
  refine l_call rfl rfl rfl rfl rfl rfl Try.call62 (sp_19) Ts ?_
  rintro ⟨⟩ -
  try simp only [List.cons_append, List.nil_append]
  refine ag_nil (q_eqb rfl rfl rfl rfl rfl Try.underlying4 ?_)
  refine s_eq 175 rfl (v' := .bool true) (by simp) ?_
  refine q_assign rfl rfl rfl rfl (r_done (s_keep [4] (e' := [(4, _)]) rfl ?_))
  refine k_then_n (c_ret (k_blk_ret (k_then_ret (tab_fold (b := b) T Ts hp hq rfl rfl ?_))))
  refine ret1 rfl rfl (T) (by first | rfl | (first | rfl | (congr 1; done) | (congr 1 <;> first | rfl | omega | (simp; done) | (simp; omega)))) (by exact tok_more hT (by omega)) ?_
  exact Tf
 refine c_skip (k_blk_n (k_then_n (c_seq (c_draw rfl (.q 0 (.q 1 (.q 2 (.q 3 (.q 4 (.q 5 (.q 6 (.q 7 ((.l 8 [] (.q 9 (.q 10 (.q 11 (.q 12 (.q 13 (.done)))))))))))))))) (by kernel_rfl) ?_))))
 refine q_move rfl rfl rfl rfl (q_move rfl rfl rfl rfl (q_nil_p rfl rfl rfl rfl (q_field (k := 0) rfl rfl rfl rfl Try.underlying62 rfl Try.sizeOf57 rfl ?_)))
 refine q_idxA (k := (plN on)) rfl rfl rfl rfl rfl Try.underlying57 Try.sizeOf25 (by first | rfl | omega) (by omega) ?_
 refine q_load_c (j := 0 + (plN on)) rfl rfl rfl rfl Try.isAgg25 Tk (by omega) (tc_o hp hx) ?_
 refine q_field (k := 3) rfl rfl rfl rfl Try.underlying68 rfl Try.sizeOf3 rfl ?_
 refine q_load_c (j := 3) rfl rfl rfl rfl Try.isAgg3 Tk Az (by rfl) ?_
 have sp_20 := Vp.o_ep hx th
 refine l_call rfl rfl rfl rfl rfl rfl Try.call26 (sp_20) Ts ?_
 rintro ⟨⟩ -
 try simp only [List.cons_append, List.nil_append]
 refine ag_nil (q_move rfl rfl rfl rfl (q_extract rfl rfl rfl rfl rfl (q_extract rfl rfl rfl rfl rfl (q_assign rfl rfl rfl rfl (q_assign rfl rfl rfl rfl (r_done (s_keep [0, 3, 5, 14, 15] (e' := [(0, _), (3, _), (5, _), (14, _), (15, _)]) rfl ?_)))))))
 refine k_then_n (c_seq (c_draw rfl (.q 0 (.q 1 (.q 2 (.q 3 (.q 4 (.q 5 (.q 6 (.q 7 ((.l 8 [] (.q 9 (.q 10 (.q 11 (.q 12 (.q 13 (.done)))))))))))))))) (by kernel_rfl) ?_))
 refine q_move rfl rfl rfl rfl (q_move rfl rfl rfl rfl (q_nil_p rfl rfl rfl rfl (q_field (k := 3) rfl rfl rfl rfl Try.underlying62 rfl Try.sizeOf59 rfl ?_)))
 refine q_idxA (k := (plN on)) rfl rfl rfl rfl rfl Try.underlying59 Try.sizeOf58 (by first | rfl | omega) (by omega) ?_
 refine q_load_c (j := 3 + (plN on)) rfl rfl rfl rfl Try.isAgg58 Tk (by omega) (tc_q hq hy) ?_
 refine q_field (k := 3) rfl rfl rfl rfl Try.underlying68 rfl Try.sizeOf3 rfl ?_
 refine q_load_c (j := 3) rfl rfl rfl rfl Try.isAgg3 Tk Az (by rfl) ?_
 have sp_21 := Vp.r_ep hy th
 refine l_call rfl rfl rfl rfl rfl rfl Try.call63 (sp_21) Ts ?_
 rintro ⟨⟩ -
 try simp only [List.cons_append, List.nil_append]
 refine ag_nil (q_move rfl rfl rfl rfl (q_extract rfl rfl rfl rfl rfl (q_extract rfl rfl rfl rfl rfl (q_assign rfl rfl rfl rfl (q_assign rfl rfl rfl rfl (r_done (s_keep [14, 15, 16, 17] (e' := [(14, _), (15, _), (16, _), (17, _)]) rfl ?_)))))))
 refine k_then_n (c_seq (c_plain (.q 0 (.q 1 (.q 2 (.q 3 (.q 4 ((.l 5 [] (.q 6 (.q 7 (.q 8 (.q 9 (.done)))))))))))) (by kernel_rfl) ?_))
 refine q_move rfl rfl rfl rfl (q_move rfl rfl rfl rfl (q_int rfl rfl rfl rfl rfl (b_eql _ _ _ _) ?_))
 refine s_eq 202 rfl (v' := .bool true) (by first | (rw [decide_eq_true rfl]; done) | simp) ?_
 refine q_move rfl rfl rfl rfl (q_move rfl rfl rfl rfl ?_)
 have sp_22 := Vc.num_spec (eMe th m)
 refine l_call rfl rfl rfl rfl rfl rfl Try.call23 (sp_22) Ts ?_
 rintro ⟨⟩ -
 try simp only [List.cons_append, List.nil_append]
 refine ag_nil (q_move rfl rfl rfl rfl (q_int rfl rfl rfl rfl rfl (b_eql _ _ _ _) ?_))
 refine s_eq 207 rfl (v' := .bool true) (by first | (rw [decide_eq_true rfl]; done) | simp) ?_
 refine q_pick_t rfl rfl rfl rfl rfl (q_assign rfl rfl rfl rfl (r_done (s_keep [4] (e' := [(4, _)]) rfl ?_)))
 refine k_then_n (c_ret (tab_fold (b := b) T Ts hp hq rfl rfl ?_))
 refine ret1 rfl rfl (T) (by first | rfl | (first | rfl | (congr 1; done) | (congr 1 <;> first | rfl | omega | (simp; done) | (simp; omega)))) (by exact tok_more hT (by omega)) ?_
 exact Tf
end Go.Ab.Vp
set_option linter.unusedVariables false
set_option linter.unusedSimpArgs false
set_option maxRecDepth 100000
namespace Go.Ab.Vp
open Go Go.Proofs Go.Ab Go.Ab.Vc Go.Ab.Rv
def wmU (i k : Nat) : Int := (i : Int) + 1000
theorem app_set {α : Type} {A B : List α} {k : Nat} (q : α) (h : A.length = k) (hk : k < B.length) : (A ++ B.drop k).set k q = (A ++ [q]) ++ B.drop (k + 1) := by
  subst h
  rw [List.set_append_right _ _ (Nat.le_refl _), Nat.sub_self, List.drop_eq_getElem_cons hk, List.set_cons_zero, List.append_assoc]
  rfl
theorem app_get {α : Type} {A B : List α} {k : Nat} (h : A.length = k) : (A ++ B.drop k)[k]? = B[k]? := by
  subst h
  rw [List.getElem?_append_right (Nat.le_refl _), Nat.sub_self, List.getElem?_drop]; rfl
theorem mk2_all {α : Type} {f : Nat → Nat → α} {p n m k : Nat} (hf : ∀ k, f p k = f p 0) (h : k < n + m) : (mks (f p) n ++ mks (f p) m)[k]? = some (f p k) := by
  rcases Nat.lt_or_ge k n with h1 | h1
  · exact mk2_lo h1
  · rw [mk2_hi h1 h, hf k, hf (k - n)]
theorem same_at {α : Type} {C W : List (LstA α)} (h : C.map (·.2.2) = W.map (·.2.2)) {i : Nat} {x y : LstA α} (hx : C[i]? = some x) (hy : W[i]? = some y) : x.2.2 = y.2.2 := by
  have h1 : (C.map (·.2.2))[i]? = some x.2.2 := by rw [List.getElem?_map, hx]; rfl
  have h2 : (W.map (·.2.2))[i]? = some y.2.2 := by rw [List.getElem?_map, hy]; rfl
  rw [h, h2] at h1; exact (Option.some.inj h1).symm
/-- The table, whatever its lists are. -/
def tab2 (b : Nat) (O Q : List Pl) : HProp := fun h => ∃ p0 p1 p2 p3 p4 p5 u v, [p0, p1, p2] = O.map (·.1) ∧ [p3, p4, p5] = Q.map (·.1) ∧
  Sat [cells b 0 [.pointer p0, .pointer p1, .pointer p2, .pointer p3, .pointer p4, .pointer p5, u, v], bigS (plF owB) O, bigS (plF ckB) Q] h
section
variable {w0 : World} {ds : List Deferred} {n : Nat} {e : Env} {Γ Γ' : List HProp} {X : Act → World → Prop}
theorem tab2_open {b : Nat} {O Q : List Pl} (tk : Take Γ (tab2 b O Q) Γ') (k : ∀ p0 p1 p2 p3 p4 p5 u v, [p0, p1, p2] = O.map (·.1) → [p3, p4, p5] = Q.map (·.1) → Le (St w0 ds n e (cells b 0 [.pointer p0, .pointer p1, .pointer p2, .pointer p3, .pointer p4, .pointer p5, u, v] :: bigS (plF owB) O :: bigS (plF ckB) Q :: Γ')) X) : Le (St w0 ds n e Γ) X := fun a w s => by
  obtain ⟨h1, l1, ⟨p0, p1, p2, p3, p4, p5, u, v, hp, hq, a1⟩, s1⟩ := tk _ s.heap
  exact k p0 p1 p2 p3 p4 p5 u v hp hq a w ⟨s.defers, s.size, s.env, Bun.unfold ⟨h1, l1, a1, s1⟩, s.amb⟩
theorem tab2_fold {b : Nat} {O Q : List Pl} {p0 p1 p2 p3 p4 p5 : Option Addr} {u v : Value} (tk : Takes Γ [cells b 0 [.pointer p0, .pointer p1, .pointer p2, .pointer p3, .pointer p4, .pointer p5, u, v], bigS (plF owB) O, bigS (plF ckB) Q] Γ') (hp : [p0, p1, p2] = O.map (·.1)) (hq : [p3, p4, p5] = Q.map (·.1))
    (k : Le (St w0 ds n e (tab2 b O Q :: Γ')) X) : Le (St w0 ds n e Γ) X := s_heap (fun h s => by
  obtain ⟨h1, l1, a1, s1⟩ := Bun.fold (tk h s)
  exact ⟨h1, l1, ⟨p0, p1, p2, p3, p4, p5, u, v, hp, hq, a1⟩, s1⟩) k
end
theorem apart_spec (b n : Nat) (O Q : List Pl) (C W : List (LstA Int)) (hB : TOk n ⟨O, Q, C, W⟩) (hn : n ≤ 4000000) : Spec Try.prog 35 [.pointer (some ⟨b, 0, none⟩)] [tabR b ⟨O, Q, C, W⟩] (fun (_ : Unit) => .bool true) (fun _ => True) (fun _ => [tab2 b O Q]) := by
 refine spec_mk (n := 165) Try.func35 rfl rfl rfl ?_
 intro Γ w0
 simp only [argE, List.cons_append, List.nil_append, Nat.zero_add, Nat.reduceAdd]
 obtain ⟨-, hmc, hbc, hnc0⟩ := hB
 simp only at hmc hbc hnc0
 have hwl : C.length = W.length := by simpa using congrArg List.length hmc
 refine c_seq (c_plain (.q 0 (.done)) (by kernel_rfl) ?_)
 refine q_assign rfl rfl rfl rfl (r_done (k_then_n (c_seq (c_seq (tab_open (b := b) (T := ⟨O, Q, C, W⟩) Tk fun p0 p1 p2 p3 p4 p5 ca cc wa wc hp hq => ?_)))))
 dsimp only at hp hq ⊢
 refine c_plain (.q 0 (.done)) (by kernel_rfl) ?_
 refine q_assign rfl rfl rfl rfl (r_done (k_then_n (c_block ?_)))
 refine c_loop2 (α := Nat) (fun (i : Nat) => i ≤ C.length) (fun (i : Nat) => [(3, .int .i64 ((i : Nat) : Int))]) (fun (i : Nat) => []) (fun (i : Nat) => C.length - i) [0] (er := [(0, _)]) rfl (0) ?_ (by exact ⟨rfl, trivial⟩) (by (try dsimp only); (try simp only [Nat.add_zero, Nat.zero_add]); (repeat ((with_reducible apply Z2); focus (first | (with_reducible (repeat (first | exact Z0 | apply Z1)); done) | (repeat (first | exact Z0 | apply Z1))))); exact Z3) ?_
 · exact Nat.zero_le _
 rintro i hle_i
 try simp only [List.cons_append, List.nil_append]
 refine c_seq (c_seq (c_plain (.q 0 (.q 1 (.q 2 (.q 3 (.q 4 (.q 5 (.q 6 (.done)))))))) (by kernel_rfl) ?_))
 refine q_move rfl rfl rfl rfl (q_move rfl rfl rfl rfl (q_nil_p rfl rfl rfl rfl (q_field (k := 6) rfl rfl rfl rfl Try.underlying62 rfl Try.sizeOf60 rfl ?_)))
 refine q_load_c (j := 6) rfl rfl rfl rfl Try.isAgg60 Tk Az (by rfl) ?_
 refine q_len rfl rfl rfl rfl Try.underlying60 ?_
 refine q_int rfl rfl rfl rfl rfl (b_lss _ _ _ _) ?_
 refine r_done (s_keep [0, 3, 17] (e' := [(0, _), (3, _), (17, _)]) rfl ?_)
 refine k_then_n ?_
 refine c_cond_p rfl (fun hlt => ?_) (fun hlt => ?_)
 ·
  obtain ⟨⟨a1, c1, x3⟩, hx⟩ := get_lt (l := C) (i := i) (by omega)
  obtain ⟨⟨a2, c2, y3⟩, hy⟩ := get_lt (l := W) (i := i) (by omega)
  have hxb : x3.length ≤ 65535 := hbc _ (List.mem_of_getElem? hx)
  obtain rfl : x3 = y3 := same_at hmc hx hy
  refine s_owA (T := C) Tk hx fun hp1 hp2 => ?_
  refine s_owA (T := W) Tk hy fun hq1 hq2 => ?_
  refine c_skip (k_then_n (c_seq (c_block (c_seq (c_draw rfl (.q 0 (.q 1 (.q 2 (.q 3 (.q 4 (.q 5 (.q 6 (.q 7 (.q 8 (.q 9 (.q 10 (.q 11 (.q 12 (.q 13 ((.l 14 [] (.q 15 (.done)))))))))))))))))) (by kernel_rfl) ?_)))))
  refine q_move rfl rfl rfl rfl (q_nil_p rfl rfl rfl rfl (q_field (k := 6) rfl rfl rfl rfl Try.underlying62 rfl Try.sizeOf60 rfl ?_))
  refine q_load_c (j := 6) rfl rfl rfl rfl Try.isAgg60 Tk Az (by rfl) ?_
  refine q_move rfl rfl rfl rfl (q_idxO (sz := 0) (k := i) (enc := encH) (xs := C) rfl rfl rfl rfl rfl Try.underlying60 Try.sizeOf23 hx (by first | rfl | omega) (by omega) Tk ?_)
  intro ib25 io25 ha25 hl25 hc25
  refine q_load_O (v := (.slice a1 x3.length c1)) (j := 0) (k' := i) (enc := encH) (off := io25) rfl rfl rfl rfl Try.isAgg23 ha25 encH_len hx Tk (by first | rfl | exact (Nat.add_zero _).symm | omega) (by rfl) ?_
  refine q_move rfl rfl rfl rfl (q_nil_p rfl rfl rfl rfl (q_field (k := 7) rfl rfl rfl rfl Try.underlying62 rfl Try.sizeOf60 rfl ?_))
  refine q_load_c (j := 7) rfl rfl rfl rfl Try.isAgg60 Tk Az (by rfl) ?_
  refine q_move rfl rfl rfl rfl (q_idxO (sz := 0) (k := i) (enc := encH) (xs := W) rfl rfl rfl rfl rfl Try.underlying60 Try.sizeOf23 hy (by first | rfl | omega) (by omega) Tk ?_)
  intro ib32 io32 ha32 hl32 hc32
  refine q_load_O (v := (.slice a2 x3.length c2)) (j := 0) (k' := i) (enc := encH) (off := io32) rfl rfl rfl rfl Try.isAgg23 ha32 encH_len hy Tk (by first | rfl | exact (Nat.add_zero _).symm | omega) (by rfl) ?_
  refine s_heap (fun _ h => Bun.fold ((by (repeat ((with_reducible apply Z2); focus (first | (with_reducible (repeat (first | exact Z0 | apply Z1)); done) | (repeat (first | exact Z0 | apply Z1))))); exact Z3 : Takes _ [bigS (owA 1 encU) C, bigS (owA 1 encU) W] _) _ h)) ?_
  have sp_1 := Vc.same_spec x3 x3 a1 a2 x3.length x3.length c1 c2 (Bun [bigS (owA 1 encU) C, bigS (owA 1 encU) W]) Ln (rds_bun (List.mem_cons_self) (rds_big (f := owA 1 encU) (List.mem_of_getElem? hx) (rds_own encU_len hp1 hp2))) Ln (rds_bun (List.mem_cons_of_mem _ (List.mem_cons_self)) (rds_big (f := owA 1 encU) (List.mem_of_getElem? hy) (rds_own encU_len hq1 hq2))) (by omega)
  refine l_call rfl rfl rfl rfl rfl rfl Try.call17 (sp_1) Ts ?_
  rintro ⟨⟩ -
  try simp only [List.cons_append, List.nil_append]
  refine s_take (A := Bun [bigS (owA 1 encU) C, bigS (owA 1 encU) W]) Tk ?_
  refine s_bun ?_
  try simp only [List.cons_append, List.nil_append]
  try simp only [List.cons_append, List.nil_append]
  refine ag_nil (s_eq 34 rfl (v' := .bool true) (by first | rfl | simp) ?_)
  refine q_not rfl rfl rfl rfl ?_
  refine s_eq 35 rfl (v' := .bool false) rfl ?_
  refine r_done (s_keep [0, 3, 35] (e' := [(0, _), (3, _), (35, _)]) rfl ?_)
  refine k_then_n (c_cond_f rfl ?_)
  refine c_skip (k_blk_n (k_then_n (c_plain (.q 0 (.q 1 (.q 2 (.done)))) (by kernel_rfl) ?_)))
  refine q_move rfl rfl rfl rfl (q_int rfl rfl rfl rfl rfl (b_add' _ (by exact fits_i64 (by omega) (by omega))) ?_)
  refine q_assign rfl rfl rfl rfl (r_done (k_then_n ?_))
  refine loop_next (x := i) (i + 1) ?_ ?_ ?_ ?_
  · exact by show i + 1 ≤ C.length; omega
  · show C.length - (i + 1) < C.length - i; omega
  · exact ⟨rfl, rfl, trivial⟩
  · (try simp only [List.cons_append, List.nil_append]); exact Tf
 refine c_exit (k_then_exit (k_then_exit (k_blk_here (k_then_n (c_seq (c_seq (c_plain (.q 0 (.done)) (by kernel_rfl) ?_)))))))
 refine q_assign rfl rfl rfl rfl (r_done (k_then_n (c_block ?_)))
 refine c_loop2 (α := Nat × List (LstA Int)) (fun (x_ : Nat × List (LstA Int)) => match x_ with | (i, U) => i ≤ C.length ∧ (WIA wmU C U i)) (fun (x_ : Nat × List (LstA Int)) => match x_ with | (i, U) => [(4, .int .i64 ((i : Nat) : Int))]) (fun (x_ : Nat × List (LstA Int)) => match x_ with | (i, U) => [bigS (owA 1 encU) U]) (fun (x_ : Nat × List (LstA Int)) => match x_ with | (i, U) => C.length - i) [0] (er := [(0, _)]) rfl (0, C) ?_ (by exact ⟨rfl, trivial⟩) (by (try dsimp only); (try simp only [Nat.add_zero, Nat.zero_add]); (repeat ((with_reducible apply Z2); focus (first | (with_reducible (repeat (first | exact Z0 | apply Z1)); done) | (repeat (first | exact Z0 | apply Z1))))); exact Z3) ?_
 · exact ⟨Nat.zero_le _, wia_start _ C⟩
 rintro ⟨i, U⟩ ⟨hle_i, hWc⟩
 try simp only [List.cons_append, List.nil_append]
 refine c_seq (c_seq (c_plain (.q 0 (.q 1 (.q 2 (.q 3 (.q 4 (.q 5 (.q 6 (.done)))))))) (by kernel_rfl) ?_))
 refine q_move rfl rfl rfl rfl (q_move rfl rfl rfl rfl (q_nil_p rfl rfl rfl rfl (q_field (k := 6) rfl rfl rfl rfl Try.underlying62 rfl Try.sizeOf60 rfl ?_)))
 refine q_load_c (j := 6) rfl rfl rfl rfl Try.isAgg60 Tk Az (by rfl) ?_
 refine q_len rfl rfl rfl rfl Try.underlying60 ?_
 refine q_int rfl rfl rfl rfl rfl (b_lss _ _ _ _) ?_
 refine r_done (s_keep [0, 4, 42] (e' := [(0, _), (4, _), (42, _)]) rfl ?_)
 refine k_then_n ?_
 refine c_cond_p rfl (fun hlt => ?_) (fun hlt => ?_)
 ·
  obtain ⟨x, hx⟩ := get_lt (l := C) (i := i) (by omega)
  obtain ⟨a2, c2, x3⟩ := x
  have hxb : x3.length ≤ 65535 := hbc _ (List.mem_of_getElem? hx)
  obtain ⟨y, hy⟩ := get_lt (l := U) (i := i) (by have := hWc.len; omega)
  obtain ⟨a1, c1, y3⟩ := y
  obtain ⟨hs1, hs2, hs3, hs4⟩ := hWc.same i _ _ hx hy
  simp only at hs1 hs2 hs3 hs4
  subst hs1 hs2
  refine c_skip (k_then_n (c_seq (c_block (c_seq (c_plain (.q 0 (.done)) (by kernel_rfl) ?_)))))
  refine q_assign rfl rfl rfl rfl (r_done (k_then_n (c_block (s_big_take (f := owA 1 encU) (L := U) Tk hy ?_))))
  refine c_loop2 (α := Nat × List Int) (fun (x_ : Nat × List Int) => match x_ with | (k, l) => k ≤ x3.length ∧ (l.length = x3.length) ∧ (∀ q, q < k → l[q]? = some (wmU i q))) (fun (x_ : Nat × List Int) => match x_ with | (k, l) => [(5, .int .i64 ((k : Nat) : Int))]) (fun (x_ : Nat × List Int) => match x_ with | (k, l) => [own 1 encU a1 c1 l]) (fun (x_ : Nat × List Int) => match x_ with | (k, l) => x3.length - k) [0, 4] (er := [(0, _), (4, _)]) rfl (0, y3) ?_ (by exact ⟨rfl, trivial⟩) (by exact Takes.cons Take.here Takes.nil) ?_
  · exact ⟨Nat.zero_le _, hs3, fun q hq => by omega⟩
  rintro ⟨k, l⟩ ⟨hle_k, hll, hlq⟩
  try simp only [List.cons_append, List.nil_append]
  refine c_seq (c_seq (c_plain (.q 0 (.q 1 (.q 2 (.q 3 (.q 4 (.q 5 (.q 6 (.q 7 (.q 8 (.q 9 (.done))))))))))) (by kernel_rfl) ?_))
  refine q_move rfl rfl rfl rfl (q_move rfl rfl rfl rfl (q_nil_p rfl rfl rfl rfl (q_field (k := 6) rfl rfl rfl rfl Try.underlying62 rfl Try.sizeOf60 rfl ?_)))
  refine q_load_c (j := 6) rfl rfl rfl rfl Try.isAgg60 Tk Az (by rfl) ?_
  refine q_move rfl rfl rfl rfl (q_idxO (sz := 0) (k := i) (enc := encH) (xs := C) rfl rfl rfl rfl rfl Try.underlying60 Try.sizeOf23 hx (by first | rfl | omega) (by omega) Tk ?_)
  intro ib51 io51 ha51 hl51 hc51
  refine q_load_O (v := (.slice a1 x3.length c1)) (j := 0) (k' := i) (enc := encH) (off := io51) rfl rfl rfl rfl Try.isAgg23 ha51 encH_len hx Tk (by first | rfl | exact (Nat.add_zero _).symm | omega) (by rfl) ?_
  refine q_len rfl rfl rfl rfl Try.underlying23 ?_
  refine q_int rfl rfl rfl rfl rfl (b_lss _ _ _ _) ?_
  refine r_done (s_keep [0, 4, 5, 54] (e' := [(0, _), (4, _), (5, _), (54, _)]) rfl ?_)
  refine k_then_n ?_
  refine c_cond_p rfl (fun hlk => ?_) (fun hlk => ?_)
  ·
   refine c_skip (k_then_n (c_seq (c_block (c_plain (.q 0 (.q 1 (.q 2 (.q 3 (.q 4 (.q 5 (.q 6 (.q 7 (.q 8 (.q 9 (.q 10 (.q 11 ((.l 12 [] (.done))))))))))))))) (by kernel_rfl) ?_))))
   refine q_move rfl rfl rfl rfl (q_nil_p rfl rfl rfl rfl (q_field (k := 6) rfl rfl rfl rfl Try.underlying62 rfl Try.sizeOf60 rfl ?_))
   refine q_load_c (j := 6) rfl rfl rfl rfl Try.isAgg60 Tk Az (by rfl) ?_
   refine q_move rfl rfl rfl rfl (q_idxO (sz := 0) (k := i) (enc := encH) (xs := C) rfl rfl rfl rfl rfl Try.underlying60 Try.sizeOf23 hx (by first | rfl | omega) (by omega) Tk ?_)
   intro ib62 io62 ha62 hl62 hc62
   refine q_load_O (v := (.slice a1 x3.length c1)) (j := 0) (k' := i) (enc := encH) (off := io62) rfl rfl rfl rfl Try.isAgg23 ha62 encH_len hx Tk (by first | rfl | exact (Nat.add_zero _).symm | omega) (by rfl) ?_
   refine q_move rfl rfl rfl rfl (q_move rfl rfl rfl rfl (q_conv' rfl rfl rfl rfl Try.underlying30 Try.underlying3 (by exact fits_u64 (by omega) (by omega)) ?_))
   refine q_int rfl rfl rfl rfl rfl (b_add' _ (by exact fits_u64 (by omega) (by omega))) ?_
   obtain ⟨e_2, he_2⟩ := get_lt (l := l) (i := k) (by first | omega | (simp; done) | (simp; omega))
   refine q_idxO (sz := 0) (k := k) (enc := encU) (xs := l) rfl rfl rfl rfl rfl Try.underlying23 Try.sizeOf30 he_2 (by first | rfl | omega) (by omega) Tk ?_
   intro ib68 io68 ha68 hl68 hc68
   refine l_store_O (j := 0) (k := k) (q := (wmU i k)) (enc := encU) (off := io68) rfl rfl rfl rfl Try.sizeOf30 (us := [_]) rfl rfl rfl ha68 encU_len he_2 Tk (by first | rfl | exact (Nat.add_zero _).symm | omega) (by first | decide | exact Nat.le_of_ble_eq_true rfl) (by rfl) ?_
   refine ag_nil (r_done (s_keep [0, 4, 5] (e' := [(0, _), (4, _), (5, _)]) rfl ?_))
   refine k_blk_n (k_then_n (c_plain (.q 0 (.q 1 (.q 2 (.done)))) (by kernel_rfl) ?_))
   refine q_move rfl rfl rfl rfl (q_int rfl rfl rfl rfl rfl (b_add' _ (by exact fits_i64 (by omega) (by omega))) ?_)
   refine q_assign rfl rfl rfl rfl (r_done (k_then_n ?_))
   refine loop_next (x := (k, l)) ((k + 1, l.set k (wmU i k))) ?_ ?_ ?_ ?_
   · try dsimp only
     exact ⟨by omega, by rw [List.length_set]; exact hll, fun q hq => by
         by_cases hqk : q = k
         · subst hqk; rw [List.getElem?_set_self (by omega)]
         · rw [List.getElem?_set_ne (Ne.symm hqk)]; exact hlq q (by omega)⟩
   · show x3.length - (k + 1) < x3.length - k; omega
   · exact ⟨rfl, rfl, rfl, trivial⟩
   · (try simp only [List.cons_append, List.nil_append]); exact Tf
  refine c_exit (k_then_exit (k_then_exit (k_blk_here (k_blk_n (k_then_n (c_plain (.q 0 (.q 1 (.q 2 (.done)))) (by kernel_rfl) ?_))))))
  refine q_move rfl rfl rfl rfl (q_int rfl rfl rfl rfl rfl (b_add' _ (by exact fits_i64 (by omega) (by omega))) ?_)
  refine q_assign rfl rfl rfl rfl (r_done (s_keep [0, 4] (e' := [(0, _), (4, _)]) rfl ?_))
  refine k_then_n ?_
  obtain rfl : k = x3.length := by omega
  refine s_big_put (f := owA 1 encU) (L := U) (i := i) (y := (a1, c1, l)) Ts (List.getElem?_eq_some_iff.1 hy).1 ?_
  refine loop_next (x := (i, U)) ((i + 1, U.set i (a1, c1, l))) ?_ ?_ ?_ ?_
  · try dsimp only
    exact ⟨by omega, wia_next hWc hx hy l (mks_of hll fun q hq => hlq q (by omega))⟩
  · show C.length - (i + 1) < C.length - i; omega
  · exact ⟨rfl, rfl, trivial⟩
  · (try simp only [List.cons_append, List.nil_append]); exact Tf
 refine c_exit (k_then_exit (k_then_exit (k_blk_here (k_then_n (c_seq (c_seq ?_))))))
 obtain rfl : i = C.length := by omega
 refine c_plain (.q 0 (.done)) (by kernel_rfl) ?_
 refine q_assign rfl rfl rfl rfl (r_done (k_then_n (c_block (s_big_nil (f := f2A 1 encU) ?_))))
 refine c_loop2 (α := Nat × List (PLA Int)) (fun (x_ : Nat × List (PLA Int)) => match x_ with | (j, M) => j ≤ C.length ∧ (MOA wmU wmU 70 C M j)) (fun (x_ : Nat × List (PLA Int)) => match x_ with | (j, M) => [(6, .int .i64 ((j : Nat) : Int))]) (fun (x_ : Nat × List (PLA Int)) => match x_ with | (j, M) => [bigS (f2A 1 encU) M, bigS (owA 1 encU) (U.drop j), cells b 0 [.pointer p0, .pointer p1, .pointer p2, .pointer p3, .pointer p4, .pointer p5, .slice ca C.length cc, .slice wa W.length wc], own 1 encH ca cc C, own 1 encH wa wc (M.map (·.2) ++ W.drop j)]) (fun (x_ : Nat × List (PLA Int)) => match x_ with | (j, M) => C.length - j) [0] (er := [(0, _)]) rfl (0, []) ?_ (by exact ⟨rfl, trivial⟩) (by (try dsimp only); simp only [List.drop_zero, List.map_nil, List.nil_append]; (repeat ((with_reducible apply Z2); focus (first | (with_reducible (repeat (first | exact Z0 | apply Z1)); done) | (repeat (first | exact Z0 | apply Z1))))); exact Z3) ?_
 · exact ⟨Nat.zero_le _, ⟨rfl, fun j x p _ h => by simp at h⟩⟩
 rintro ⟨j, M⟩ ⟨hle_j, hMc⟩
 try simp only [List.cons_append, List.nil_append]
 have hml := hMc.len
 have hmm : (M.map (·.2)).length = M.length := List.length_map _
 refine c_seq (c_seq (c_plain (.q 0 (.q 1 (.q 2 (.q 3 (.q 4 (.q 5 (.q 6 (.done)))))))) (by kernel_rfl) ?_))
 refine q_move rfl rfl rfl rfl (q_move rfl rfl rfl rfl (q_nil_p rfl rfl rfl rfl (q_field (k := 6) rfl rfl rfl rfl Try.underlying62 rfl Try.sizeOf60 rfl ?_)))
 refine q_load_c (j := 6) rfl rfl rfl rfl Try.isAgg60 Tk Az (by rfl) ?_
 refine q_len rfl rfl rfl rfl Try.underlying60 ?_
 refine q_int rfl rfl rfl rfl rfl (b_lss _ _ _ _) ?_
 refine r_done (s_keep [0, 6, 75] (e' := [(0, _), (6, _), (75, _)]) rfl ?_)
 refine k_then_n ?_
 refine c_cond_p rfl (fun hlj => ?_) (fun hlj => ?_)
 ·
  obtain ⟨x, hx⟩ := get_lt (l := C) (i := j) (by omega)
  obtain ⟨a2, c2, x3⟩ := x
  have hxb : x3.length ≤ 65535 := hbc _ (List.mem_of_getElem? hx)
  obtain ⟨y, hy⟩ := get_lt (l := U) (i := j) (by have := hWc.len; omega)
  obtain ⟨a1, c1, y3⟩ := y
  obtain ⟨hs1, hs2, hs3, hs4⟩ := hWc.same j _ _ hx hy
  simp only at hs1 hs2 hs3 hs4
  subst hs1 hs2
  obtain rfl := hs4 (by omega)
  obtain ⟨wj, hwj_⟩ := get_lt (l := W) (i := j) (by omega)
  have hwj : (M.map (·.2) ++ W.drop j)[j]? = some wj := (app_get (hmm.trans hml)).trans hwj_
  refine c_skip (k_then_n (c_seq (c_block (c_seq (c_plain (.q 0 (.q 1 (.q 2 (.q 3 (.q 4 (.q 5 (.q 6 (.q 7 (.done))))))))) (by kernel_rfl) ?_)))))
  refine q_move rfl rfl rfl rfl (q_nil_p rfl rfl rfl rfl (q_field (k := 6) rfl rfl rfl rfl Try.underlying62 rfl Try.sizeOf60 rfl ?_))
  refine q_load_c (j := 6) rfl rfl rfl rfl Try.isAgg60 Tk Az (by rfl) ?_
  refine q_move rfl rfl rfl rfl (q_idxO (sz := 0) (k := j) (enc := encH) (xs := C) rfl rfl rfl rfl rfl Try.underlying60 Try.sizeOf23 hx (by first | rfl | omega) (by omega) Tk ?_)
  intro ib83 io83 ha83 hl83 hc83
  refine q_load_O (v := (.slice a1 x3.length c1)) (j := 0) (k' := j) (enc := encH) (off := io83) rfl rfl rfl rfl Try.isAgg23 ha83 encH_len hx Tk (by first | rfl | exact (Nat.add_zero _).symm | omega) (by rfl) ?_
  refine q_assign rfl rfl rfl rfl (r_done (s_keep [0, 6, 7] (e' := [(0, _), (6, _), (7, _)]) rfl ?_))
  refine k_then_n (c_seq (c_seq (c_plain (.q 0 (.done)) (by kernel_rfl) ?_)))
  refine q_assign rfl rfl rfl rfl (r_done (k_then_n (c_block ?_)))
  refine s_big_take (f := owA 1 encU) (L := U.drop j) (i := 0) (x := (a1, c1, mks (wmU j) x3.length)) Tk (by rw [List.getElem?_drop]; exact hy) ?_
  refine s_heap (fun _ h => app2_start h) ?_
  refine c_loop2 (α := Nat × Option Addr × Nat) (fun (x_ : Nat × Option Addr × Nat) => match x_ with | (k, an, cn) => k ≤ 70 ∧ True) (fun (x_ : Nat × Option Addr × Nat) => match x_ with | (k, an, cn) => [(7, .slice an (x3.length + k) cn), (8, .int .i64 ((k : Nat) : Int))]) (fun (x_ : Nat × Option Addr × Nat) => match x_ with | (k, an, cn) => [app2 1 encU a1 c1 (mks (wmU j) x3.length) an cn (mks (wmU j) x3.length ++ mks (wmU j) k)]) (fun (x_ : Nat × Option Addr × Nat) => match x_ with | (k, an, cn) => 70 - k) [0, 6] (er := [(0, _), (6, _)]) rfl (0, a1, c1) ?_ (by exact ⟨rfl, rfl, trivial⟩) (by dsimp only; rw [show mks (wmU j) 0 = [] from rfl, List.append_nil]; exact Takes.cons Take.here Takes.nil) ?_
  · exact ⟨Nat.zero_le _, trivial⟩
  rintro ⟨k, an, cn⟩ ⟨hle_k, hc_⟩
  try simp only [List.cons_append, List.nil_append]
  refine c_seq (c_seq (c_plain (.q 0 (.q 1 (.done))) (by kernel_rfl) ?_))
  refine q_move rfl rfl rfl rfl (q_int rfl rfl rfl rfl rfl (b_lss _ _ _ _) ?_)
  refine r_done (k_then_n ?_)
  refine c_cond_p rfl (fun hlk => ?_) (fun hlk => ?_)
  ·
   refine c_skip (k_then_n (c_seq (c_block (c_plain (.q 0 (.q 1 (.q 2 (.q 3 ((.l 4 [] ((.l 5 [] (.q 6 (.done)))))))))) (by kernel_rfl) ?_))))
   refine q_move rfl rfl rfl rfl (q_move rfl rfl rfl rfl (q_conv' rfl rfl rfl rfl Try.underlying30 Try.underlying3 (by exact fits_u64 (by omega) (by omega)) ?_))
   refine q_int rfl rfl rfl rfl rfl (b_add' _ (by exact fits_u64 (by omega) (by omega))) ?_
   refine l_buildSlice rfl rfl rfl rfl (run_build1 (us := [_]) Try.underlying23 Try.sizeOf30 rfl Try.zeroValue30 rfl rfl rfl) ?_
   intro b93
   refine ag_nil (l_appendA (sz := 1) rfl rfl rfl rfl rfl Try.underlying23 Try.typeInfo30 rfl rfl rfl (by decide) Tk Tk (by rw [List.length_append, mks_len, mks_len]) (ys := [wmU j k]) (rds_some rdn_cells) (by rfl) (by rfl) encU_len encU_one (by omega) (by show _ * 8 ≤ _; omega) (mks_take _ _ _) ?_)
   intro an2 cn2
   refine ag_nil (q_assign rfl rfl rfl rfl (r_done (s_keep [0, 6, 7, 8] (e' := [(0, _), (6, _), (7, _), (8, _)]) rfl ?_)))
   refine k_blk_n (k_then_n (c_plain (.q 0 (.q 1 (.q 2 (.done)))) (by kernel_rfl) ?_))
   refine q_move rfl rfl rfl rfl (q_int rfl rfl rfl rfl rfl (b_add' _ (by exact fits_i64 (by omega) (by omega))) ?_)
   refine q_assign rfl rfl rfl rfl (r_done (k_then_n ?_))
   rw [List.append_assoc, mks_next]
   refine s_eq 7 rfl (v' := .slice an2 (x3.length + (k + 1)) cn2) (by first | rfl | (congr 1; done) | (congr 1 <;> first | rfl | omega | (simp; done) | (simp; omega))) ?_
   refine loop_next (x := (k, an, cn)) ((k + 1, an2, cn2)) ?_ ?_ ?_ ?_
   · try dsimp only
     exact ⟨by omega, trivial⟩
   · show 70 - (k + 1) < 70 - k; omega
   · exact ⟨rfl, rfl, rfl, rfl, trivial⟩
   · (try simp only [List.cons_append, List.nil_append]); exact Tf
  refine c_exit (k_then_exit (k_then_exit (k_blk_here (k_then_n ?_))))
  obtain rfl : k = 70 := by omega
  refine c_plain (.q 0 (.q 1 (.q 2 (.q 3 (.q 4 (.q 5 (.q 6 ((.l 7 [] (.done)))))))))) (by kernel_rfl) ?_
  refine q_move rfl rfl rfl rfl (q_nil_p rfl rfl rfl rfl (q_field (k := 7) rfl rfl rfl rfl Try.underlying62 rfl Try.sizeOf60 rfl ?_))
  refine q_load_c (j := 7) rfl rfl rfl rfl Try.isAgg60 Tk Az (by rfl) ?_
  refine q_move rfl rfl rfl rfl (q_move rfl rfl rfl rfl (q_idxO (sz := 0) (k := j) (enc := encH) (xs := (M.map (·.2) ++ W.drop j)) rfl rfl rfl rfl rfl Try.underlying60 Try.sizeOf23 hwj (by first | rfl | omega) (by omega) Tk ?_))
  intro ib101 io101 ha101 hl101 hc101
  refine l_store_O (j := 0) (k := j) (q := ((an, cn, mks (wmU j) x3.length ++ mks (wmU j) 70) : LstA Int)) (enc := encH) (off := io101) rfl rfl rfl rfl Try.sizeOf23 (us := [_]) rfl rfl rfl ha101 encH_len hwj Tk (by first | rfl | exact (Nat.add_zero _).symm | omega) (by first | decide | exact Nat.le_of_ble_eq_true rfl) (by simp [encH, setL, mks_len]) ?_
  refine ag_nil (r_done (s_keep [0, 6] (e' := [(0, _), (6, _)]) rfl ?_))
  refine k_blk_n (k_then_n (c_plain (.q 0 (.q 1 (.q 2 (.done)))) (by kernel_rfl) ?_))
  refine q_move rfl rfl rfl rfl (q_int rfl rfl rfl rfl rfl (b_add' _ (by exact fits_i64 (by omega) (by omega))) ?_)
  refine q_assign rfl rfl rfl rfl (r_done (k_then_n (s_big_push (f := f2A 1 encU) (L := M) (x := ((a1, c1, mks (wmU j) x3.length), (an, cn, mks (wmU j) x3.length ++ mks (wmU j) 70))) Ts ?_)))
  rw [List.eraseIdx_zero, List.tail_drop, app_set ((an, cn, mks (wmU j) x3.length ++ mks (wmU j) 70) : LstA Int) (hmm.trans hml) (show j < W.length by omega), show M.map (·.2) ++ [(an, cn, mks (wmU j) x3.length ++ mks (wmU j) 70)] = (M ++ [((a1, c1, mks (wmU j) x3.length), (an, cn, mks (wmU j) x3.length ++ mks (wmU j) 70))]).map (·.2) from by simp]
  refine loop_next (x := (j, M)) ((j + 1, (M ++ [((a1, c1, mks (wmU j) x3.length), (an, cn, mks (wmU j) x3.length ++ mks (wmU j) 70))]))) ?_ ?_ ?_ ?_
  · try dsimp only
    exact ⟨by omega, moa_next hMc hx rfl rfl⟩
  · show C.length - (j + 1) < C.length - j; omega
  · exact ⟨rfl, rfl, trivial⟩
  · (try simp only [List.cons_append, List.nil_append]); exact Tf
 refine c_exit (k_then_exit (k_then_exit (k_blk_here (k_then_n (c_seq (c_seq ?_))))))
 obtain rfl : j = C.length := by omega
 rw [show W.drop C.length = [] from List.drop_of_length_le (by omega), List.append_nil]
 refine c_plain (.q 0 (.done)) (by kernel_rfl) ?_
 refine q_assign rfl rfl rfl rfl (r_done (k_then_n (c_block ?_)))
 refine c_loop2 (α := Nat) (fun (p : Nat) => p ≤ C.length) (fun (p : Nat) => [(9, .int .i64 ((p : Nat) : Int))]) (fun (p : Nat) => []) (fun (p : Nat) => C.length - p) [0] (er := [(0, _)]) rfl (0) ?_ (by exact ⟨rfl, trivial⟩) (by (try dsimp only); (try simp only [Nat.add_zero, Nat.zero_add]); (repeat ((with_reducible apply Z2); focus (first | (with_reducible (repeat (first | exact Z0 | apply Z1)); done) | (repeat (first | exact Z0 | apply Z1))))); exact Z3) ?_
 · exact Nat.zero_le _
 rintro p hle_p
 try simp only [List.cons_append, List.nil_append]
 have hml := hMc.len
 have hmm : (M.map (·.2)).length = M.length := List.length_map _
 refine c_seq (c_seq (c_plain (.q 0 (.q 1 (.q 2 (.q 3 (.q 4 (.q 5 (.q 6 (.done)))))))) (by kernel_rfl) ?_))
 refine q_move rfl rfl rfl rfl (q_move rfl rfl rfl rfl (q_nil_p rfl rfl rfl rfl (q_field (k := 6) rfl rfl rfl rfl Try.underlying62 rfl Try.sizeOf60 rfl ?_)))
 refine q_load_c (j := 6) rfl rfl rfl rfl Try.isAgg60 Tk Az (by rfl) ?_
 refine q_len rfl rfl rfl rfl Try.underlying60 ?_
 refine q_int rfl rfl rfl rfl rfl (b_lss _ _ _ _) ?_
 refine r_done (s_keep [0, 9, 108] (e' := [(0, _), (9, _), (108, _)]) rfl ?_)
 refine k_then_n ?_
 refine c_cond_p rfl (fun hlp => ?_) (fun hlp => ?_)
 ·
  try rw [List.length_map] at hlp
  obtain ⟨x, hx⟩ := get_lt (l := C) (i := p) (by omega)
  obtain ⟨y, hy⟩ := get_lt (l := M) (i := p) (by omega)
  obtain ⟨a1, c1, x3⟩ := x
  obtain ⟨⟨b1, b2, b3⟩, ⟨an, cn, l2⟩⟩ := y
  obtain ⟨hs1, hs2⟩ := hMc.at_ p _ _ hx hy
  simp only [Prod.mk.injEq] at hs1 hs2
  obtain ⟨rfl, rfl, rfl⟩ := hs1
  subst hs2
  have hxb : x3.length ≤ 65535 := hbc _ (List.mem_of_getElem? hx)
  have hyM := List.mem_of_getElem? hy
  have hyp : (M.map (·.2))[p]? = some (an, cn, (mks (wmU p) x3.length ++ mks (wmU p) 70)) := by rw [List.getElem?_map, hy]; rfl
  have hll : (mks (wmU p) x3.length ++ mks (wmU p) 70).length = x3.length + 70 := by rw [List.length_append, mks_len, mks_len]
  refine s_f2A (M := M) Tk hy (mks_take _ _ _) fun hfx => ?_
  refine c_skip (k_then_n (c_seq (c_block (c_seq (c_plain (.q 0 (.done)) (by kernel_rfl) ?_)))))
  refine q_assign rfl rfl rfl rfl (r_done (k_then_n (c_block ?_)))
  refine c_loop2 (α := Nat) (fun (k : Nat) => k ≤ x3.length + 70) (fun (k : Nat) => [(10, .int .i64 ((k : Nat) : Int))]) (fun (k : Nat) => []) (fun (k : Nat) => x3.length + 70 - k) [0, 9] (er := [(0, _), (9, _)]) rfl (0) ?_ (by exact ⟨rfl, trivial⟩) (by (try dsimp only); (try simp only [Nat.add_zero, Nat.zero_add]); (repeat ((with_reducible apply Z2); focus (first | (with_reducible (repeat (first | exact Z0 | apply Z1)); done) | (repeat (first | exact Z0 | apply Z1))))); exact Z3) ?_
  · exact Nat.zero_le _
  rintro k hle_k
  try simp only [List.cons_append, List.nil_append]
  refine c_seq (c_seq (c_plain (.q 0 (.q 1 (.q 2 (.q 3 (.q 4 (.q 5 (.q 6 (.q 7 (.q 8 (.q 9 (.done))))))))))) (by kernel_rfl) ?_))
  refine q_move rfl rfl rfl rfl (q_move rfl rfl rfl rfl (q_nil_p rfl rfl rfl rfl (q_field (k := 7) rfl rfl rfl rfl Try.underlying62 rfl Try.sizeOf60 rfl ?_)))
  refine q_load_c (j := 7) rfl rfl rfl rfl Try.isAgg60 Tk Az (by rfl) ?_
  refine q_move rfl rfl rfl rfl (q_idxO (sz := 0) (k := p) (enc := encH) (xs := (M.map (·.2))) rfl rfl rfl rfl rfl Try.underlying60 Try.sizeOf23 hyp (by first | rfl | omega) (by omega) Tk ?_)
  intro ib117 io117 ha117 hl117 hc117
  refine q_load_O (v := (.slice an ((mks (wmU p) x3.length ++ mks (wmU p) 70).length) cn)) (j := 0) (k' := p) (enc := encH) (off := io117) rfl rfl rfl rfl Try.isAgg23 ha117 encH_len hyp Tk (by first | rfl | exact (Nat.add_zero _).symm | omega) (by rfl) ?_
  refine q_len rfl rfl rfl rfl Try.underlying23 ?_
  refine q_int rfl rfl rfl rfl rfl (b_lss _ _ _ _) ?_
  refine r_done (s_keep [0, 9, 10, 120] (e' := [(0, _), (9, _), (10, _), (120, _)]) rfl ?_)
  refine k_then_n ?_
  refine c_cond_p rfl (fun hlk => ?_) (fun hlk => ?_)
  ·
   have hlk2 : k < x3.length + 70 := by
     have h1 := hlk
     omega
   refine c_skip (k_then_n (c_seq (c_block (c_seq (c_plain (.q 0 (.q 1 (.q 2 (.q 3 (.q 4 (.q 5 (.q 6 (.q 7 (.q 8 (.q 9 (.q 10 (.q 11 (.q 12 (.q 13 (.q 14 (.q 15 (.q 16 (.q 17 (.q 18 (.q 19 (.q 20 (.q 21 (.q 22 (.q 23 (.q 24 (.q 25 (.q 26 (.q 27 (.q 28 (.q 29 (.q 30 (.q 31 (.q 32 (.q 33 (.q 34 (.q 35 (.q 36 (.q 37 (.q 38 (.q 39 (.q 40 (.q 41 (.done))))))))))))))))))))))))))))))))))))))))))) (by kernel_rfl) ?_)))))
   refine q_move rfl rfl rfl rfl (q_nil_p rfl rfl rfl rfl (q_field (k := 7) rfl rfl rfl rfl Try.underlying62 rfl Try.sizeOf60 rfl ?_))
   refine q_load_c (j := 7) rfl rfl rfl rfl Try.isAgg60 Tk Az (by rfl) ?_
   refine q_move rfl rfl rfl rfl (q_idxO (sz := 0) (k := p) (enc := encH) (xs := (M.map (·.2))) rfl rfl rfl rfl rfl Try.underlying60 Try.sizeOf23 hyp (by first | rfl | omega) (by omega) Tk ?_)
   intro ib128 io128 ha128 hl128 hc128
   refine q_load_O (v := (.slice an ((mks (wmU p) x3.length ++ mks (wmU p) 70).length) cn)) (j := 0) (k' := p) (enc := encH) (off := io128) rfl rfl rfl rfl Try.isAgg23 ha128 encH_len hyp Tk (by first | rfl | exact (Nat.add_zero _).symm | omega) (by rfl) ?_
   refine q_move rfl rfl rfl rfl (q_idxR (sz := 0) (k := k) rfl rfl rfl rfl rfl Try.underlying23 Try.sizeOf30 (rds_big (f := f2A 1 encU) hyM (rds_app2_l encU_len hfx.1.1 hfx.1.2)) (mk2_all (f := wmU) (p := p) (n := x3.length) (m := 70) (k := k) (fun _ => rfl) hlk2) encU_len (by first | rfl | omega) (by omega) ?_)
   intro ib131 io131 _ hd131
   refine q_load rfl rfl rfl rfl Try.isAgg30 Tk (hd131 0 (.int .u64 (wmU p k)) rfl) ?_
   refine q_move rfl rfl rfl rfl (q_conv' rfl rfl rfl rfl Try.underlying30 Try.underlying3 (by exact fits_u64 (by omega) (by omega)) ?_)
   refine q_int rfl rfl rfl rfl rfl (b_add' _ (by exact fits_u64 (by omega) (by omega))) ?_
   refine q_int rfl rfl rfl rfl rfl (b_neq _ _ _ _) ?_
   refine s_eq 136 rfl (v' := .bool false) (by refine congrArg Value.bool (decide_eq_false ?_); intro h9; exact h9 (by unfold wmU; first | omega | (dsimp only; omega))) ?_
   refine q_move rfl rfl rfl rfl (q_move rfl rfl rfl rfl (q_move rfl rfl rfl rfl (q_nil_p rfl rfl rfl rfl (q_field (k := 6) rfl rfl rfl rfl Try.underlying62 rfl Try.sizeOf60 rfl ?_))))
   refine q_load_c (j := 6) rfl rfl rfl rfl Try.isAgg60 Tk Az (by rfl) ?_
   refine q_move rfl rfl rfl rfl (q_idxO (sz := 0) (k := p) (enc := encH) (xs := C) rfl rfl rfl rfl rfl Try.underlying60 Try.sizeOf23 hx (by first | rfl | omega) (by omega) Tk ?_)
   intro ib144 io144 ha144 hl144 hc144
   refine q_load_O (v := (.slice b1 x3.length b2)) (j := 0) (k' := p) (enc := encH) (off := io144) rfl rfl rfl rfl Try.isAgg23 ha144 encH_len hx Tk (by first | rfl | exact (Nat.add_zero _).symm | omega) (by rfl) ?_
   refine q_len rfl rfl rfl rfl Try.underlying23 ?_
   refine q_int rfl rfl rfl rfl rfl (b_lss _ _ _ _) ?_
   refine q_move rfl rfl rfl rfl ?_
   refine s_bool_p 148 rfl (fun hkn => ?_) (fun hkn => ?_)
   ·
    refine q_move rfl rfl rfl rfl (q_nil_p rfl rfl rfl rfl (q_field (k := 6) rfl rfl rfl rfl Try.underlying62 rfl Try.sizeOf60 rfl ?_))
    refine q_load_c (j := 6) rfl rfl rfl rfl Try.isAgg60 Tk Az (by rfl) ?_
    refine q_move rfl rfl rfl rfl (q_idxO (sz := 0) (k := p) (enc := encH) (xs := C) rfl rfl rfl rfl rfl Try.underlying60 Try.sizeOf23 hx (by first | rfl | omega) (by omega) Tk ?_)
    intro ib154 io154 ha154 hl154 hc154
    refine q_load_O (v := (.slice b1 x3.length b2)) (j := 0) (k' := p) (enc := encH) (off := io154) rfl rfl rfl rfl Try.isAgg23 ha154 encH_len hx Tk (by first | rfl | exact (Nat.add_zero _).symm | omega) (by rfl) ?_
    refine q_move rfl rfl rfl rfl (q_idxR (sz := 0) (k := k) rfl rfl rfl rfl rfl Try.underlying23 Try.sizeOf30 (rds_big (f := f2A 1 encU) hyM (rds_app2_r encU_len (mks_take _ _ _) hfx.2.1 hfx.2.2)) (mks_get (wmU p) (n := x3.length) (k := k) (by omega)) encU_len (by first | rfl | omega) (by omega) ?_)
    intro ib157 io157 _ hd157
    refine q_load rfl rfl rfl rfl Try.isAgg30 Tk (hd157 0 (.int .u64 (wmU p k)) rfl) ?_
    refine q_move rfl rfl rfl rfl (q_conv' rfl rfl rfl rfl Try.underlying30 Try.underlying3 (by exact fits_u64 (by omega) (by omega)) ?_)
    refine q_int rfl rfl rfl rfl rfl (b_add' _ (by exact fits_u64 (by omega) (by omega))) ?_
    refine q_int rfl rfl rfl rfl rfl (b_neq _ _ _ _) ?_
    refine s_eq 162 rfl (v' := .bool false) (by refine congrArg Value.bool (decide_eq_false ?_); intro h9; exact h9 (by unfold wmU; first | omega | (dsimp only; omega))) ?_
    refine q_pick_t rfl rfl rfl rfl rfl (q_pick_f rfl rfl rfl rfl rfl (r_done (s_keep [0, 9, 10, 138, 139, 140, 141, 142, 143, 144, 145, 146, 147, 148, 149, 150, 151, 152, 153, 154, 155, 156, 157, 158, 159, 160, 161, 162, 163, 164] (e' := [(0, _), (9, _), (10, _), (138, _), (139, _), (140, _), (141, _), (142, _), (143, _), (144, _), (145, _), (146, _), (147, _), (148, _), (149, _), (150, _), (151, _), (152, _), (153, _), (154, _), (155, _), (156, _), (157, _), (158, _), (159, _), (160, _), (161, _), (162, _), (163, _), (164, _)]) rfl ?_)))
    refine k_then_n (c_cond_f rfl ?_)
    refine c_skip (k_blk_n (k_then_n (c_plain (.q 0 (.q 1 (.q 2 (.done)))) (by kernel_rfl) ?_)))
    refine q_move rfl rfl rfl rfl (q_int rfl rfl rfl rfl rfl (b_add' _ (by exact fits_i64 (by omega) (by omega))) ?_)
    refine q_assign rfl rfl rfl rfl (r_done (k_then_n ?_))
    refine loop_next (x := k) (k + 1) ?_ ?_ ?_ ?_
    · exact by show k + 1 ≤ x3.length + 70; omega
    · show x3.length + 70 - (k + 1) < x3.length + 70 - k; omega
    · exact ⟨rfl, rfl, rfl, trivial⟩
    · (try simp only [List.cons_append, List.nil_append]); exact Tf
   refine q_skip rfl rfl rfl rfl (q_skip rfl rfl rfl rfl (q_skip rfl rfl rfl rfl (q_skip rfl rfl rfl rfl (q_skip rfl rfl rfl rfl (q_skip rfl rfl rfl rfl (q_skip rfl rfl rfl rfl (q_skip rfl rfl rfl rfl (q_skip rfl rfl rfl rfl ?_))))))))
   refine q_skip rfl rfl rfl rfl (q_skip rfl rfl rfl rfl (q_skip rfl rfl rfl rfl (q_skip rfl rfl rfl rfl (q_skip rfl rfl rfl rfl (q_pick_f rfl rfl rfl rfl rfl (q_pick_f rfl rfl rfl rfl rfl (r_done (s_keep [0, 9, 10, 138, 139, 140, 141, 142, 143, 144, 145, 146, 147, 148, 149, 150, 151, 152, 153, 154, 155, 156, 157, 158, 159, 160, 161, 162, 163, 164] (e' := [(0, _), (9, _), (10, _), (138, _), (139, _), (140, _), (141, _), (142, _), (143, _), (144, _), (145, _), (146, _), (147, _), (148, _), (149, _), (150, _), (151, _), (152, _), (153, _), (154, _), (155, _), (156, _), (157, _), (158, _), (159, _), (160, _), (161, _), (162, _), (163, _), (164, _)]) rfl ?_))))))))
   refine k_then_n (c_cond_f rfl ?_)
   refine c_skip (k_blk_n (k_then_n (c_plain (.q 0 (.q 1 (.q 2 (.done)))) (by kernel_rfl) ?_)))
   refine q_move rfl rfl rfl rfl (q_int rfl rfl rfl rfl rfl (b_add' _ (by exact fits_i64 (by omega) (by omega))) ?_)
   refine q_assign rfl rfl rfl rfl (r_done (k_then_n ?_))
   refine loop_next (x := k) (k + 1) ?_ ?_ ?_ ?_
   · exact by show k + 1 ≤ x3.length + 70; omega
   · show x3.length + 70 - (k + 1) < x3.length + 70 - k; omega
   · exact ⟨rfl, rfl, rfl, trivial⟩
   · (try simp only [List.cons_append, List.nil_append]); exact Tf
  refine c_exit (k_then_exit (k_then_exit (k_blk_here (k_blk_n (k_then_n (c_plain (.q 0 (.q 1 (.q 2 (.done)))) (by kernel_rfl) ?_))))))
  refine q_move rfl rfl rfl rfl (q_int rfl rfl rfl rfl rfl (b_add' _ (by exact fits_i64 (by omega) (by omega))) ?_)
  refine q_assign rfl rfl rfl rfl (r_done (s_keep [0, 9] (e' := [(0, _), (9, _)]) rfl ?_))
  refine k_then_n ?_
  refine loop_next (x := p) (p + 1) ?_ ?_ ?_ ?_
  · exact by show p + 1 ≤ C.length; omega
  · show C.length - (p + 1) < C.length - p; omega
  · exact ⟨rfl, rfl, trivial⟩
  · (try simp only [List.cons_append, List.nil_append]); exact Tf
 refine c_exit (k_then_exit (k_then_exit (k_blk_here (k_then_n (c_seq (c_plain (.q 0 (.done)) (by kernel_rfl) ?_))))))
 refine q_assign rfl rfl rfl rfl (r_done (k_then_n (c_ret (tab2_fold (b := b) (O := O) (Q := Q) Ts hp hq ?_))))
 refine ret1 rfl rfl (()) (by first | rfl | (first | rfl | (congr 1; done) | (congr 1 <;> first | rfl | omega | (simp; done) | (simp; omega)))) (by trivial) ?_
 exact Tf
end Go.Ab.Vp
set_option linter.unusedVariables false
set_option linter.unusedSimpArgs false
set_option maxRecDepth 100000
namespace Go.Ab.Vp
open Go Go.Proofs Go.Ab Go.Ab.Vc Go.Ab.Rv
/-- A step of a script. -/
abbrev STV := Int × Int × (Option Addr × Nat × List Int) × Int × Int × (Option Addr × Nat × List Int) × Int × Int
def encS3 (x : STV) : List Value := [.int .i64 x.1, .int .i64 x.2.1, .slice x.2.2.1.1 x.2.2.1.2.2.length x.2.2.1.2.1, .int .i64 x.2.2.2.1, .int .u64 x.2.2.2.2.1, .slice x.2.2.2.2.2.1.1 x.2.2.2.2.2.1.2.2.length x.2.2.2.2.2.1.2.1, .int .u64 x.2.2.2.2.2.2.1, .int .i64 x.2.2.2.2.2.2.2]
theorem encS3_len : ∀ x, (encS3 x).length = 8 := fun _ => rfl
/-- What is known of a step. -/
structure SOk (A : HProp) (x : STV) : Prop where
  w : RdS A x.2.2.1.1 (x.2.2.1.2.2.flatMap encZ)
  wl : x.2.2.1.2.2.length ≤ 4000000
  c : RdS A x.2.2.2.2.2.1.1 (x.2.2.2.2.2.1.2.2.flatMap encU)
  cl : x.2.2.2.2.2.1.2.2.length ≤ 4000000
  c0 : ∀ z ∈ x.2.2.2.2.2.1.2.2, 0 ≤ z
  k0 : 0 ≤ x.2.2.2.2.1
  e0 : 0 ≤ x.2.2.2.2.2.2.1
  e1 : x.2.2.2.2.2.2.1 < 18446744073709551616
theorem plays_spec (L : List STV) (oo : Option Addr) (sl oc_ : Nat) (A : HProp) (hs : RdS A oo (L.flatMap encS3)) (hL : ∀ x ∈ L, SOk A x) (hm : L.length = sl) (hmb : sl ≤ 3900000) : Spec Try.prog 7 [.slice oo sl oc_] [A] (fun (_ : Unit) => .bool true) (fun _ => True) (fun _ => [A]) := by
 refine spec_mk (n := 129) Try.func7 rfl rfl rfl ?_
 intro Γ w0
 simp only [argE, List.cons_append, List.nil_append, Nat.zero_add, Nat.reduceAdd]
 refine c_seq (c_plain (.q 0 (.done)) (by kernel_rfl) ?_)
 refine q_assign rfl rfl rfl rfl (r_done (k_then_n (c_seq (c_seq (c_plain ((.l 0 [] (.q 1 (.done)))) (by kernel_rfl) ?_)))))
 have sp_1 := Vc.works_spec
 refine l_call rfl rfl rfl rfl rfl rfl Try.call8 (sp_1) Ts ?_
 rintro ⟨⟩ -
 try simp only [List.cons_append, List.nil_append]
 refine ag_nil (q_not rfl rfl rfl rfl ?_)
 refine s_eq 9 rfl (v' := .bool false) rfl ?_
 refine r_done (k_then_n (c_cond_f rfl ?_))
 refine c_skip (k_then_n (c_seq (c_plain (.q 0 ((.l 1 [] (.q 2 (.done))))) (by kernel_rfl) ?_)))
 refine q_build rfl rfl rfl rfl (vs := [_, _, _, _, _, _, _, _]) (run_buildS Try.underlying62 Try.zeroValue62 (ps := [(0, 3), (3, 3), (6, 1), (7, 1)]) ⟨rfl, Try.sizeOf57, rfl, Try.sizeOf59, rfl, Try.sizeOf60, rfl, Try.sizeOf60, trivial⟩ rfl) ?_
 refine l_box rfl rfl rfl rfl (us := [_, _, _, _, _, _, _, _]) rfl ?_
 intro b
 refine ag_nil (q_assign rfl rfl rfl rfl (r_done (s_keep [0, 3] (e' := [(0, _), (3, _)]) rfl ?_)))
 refine k_then_n (c_seq (c_draw rfl (.q 0 (.q 2 (.q 3 ((.l 1 [] (.q 4 ((.l 5 [] (.done))))))))) (by kernel_rfl) ?_))
 refine q_move rfl rfl rfl rfl (q_nil_p rfl rfl rfl rfl (q_field (k := 0) rfl rfl rfl rfl Try.underlying62 rfl Try.sizeOf57 rfl ?_))
 have sp_2 := Vp.onew
 refine l_call rfl rfl rfl rfl rfl rfl Try.call30 (sp_2) Ts ?_
 rintro q0 -
 try simp only [List.cons_append, List.nil_append]
 refine ag_nil (q_idxA (k := 0) rfl rfl rfl rfl rfl Try.underlying57 Try.sizeOf25 (by first | rfl | omega) (by decide) ?_)
 refine l_store (j := 0) rfl rfl rfl rfl Try.sizeOf25 (us := [_]) rfl rfl rfl Tk Az (by first | decide | (simp; done) | omega) ?_
 simp only [setL, List.set]
 refine ag_nil (r_done (s_keep [0, 3] (e' := [(0, _), (3, _)]) rfl ?_))
 refine k_then_n (c_seq (c_plain (.q 0 (.q 1 ((.l 2 [] (.q 3 (.q 4 (.q 5 ((.l 6 [] (.done)))))))))) (by kernel_rfl) ?_))
 refine q_move rfl rfl rfl rfl (q_build rfl rfl rfl rfl (vs := [_]) (run_buildS Try.underlying64 Try.zeroValue64 (ps := [(0, 1)]) ⟨rfl, Try.sizeOf23, trivial⟩ rfl) ?_)
 refine l_box rfl rfl rfl rfl (us := [_]) rfl ?_
 intro b19
 refine ag_nil (q_nil_p rfl rfl rfl rfl (q_field (k := 0) rfl rfl rfl rfl Try.underlying62 rfl Try.sizeOf57 rfl ?_))
 refine q_idxA (k := 1) rfl rfl rfl rfl rfl Try.underlying57 Try.sizeOf25 (by first | rfl | omega) (by decide) ?_
 refine l_store (j := 1) rfl rfl rfl rfl Try.sizeOf25 (us := [_]) rfl rfl rfl Tk Az (by first | decide | (simp; done) | omega) ?_
 simp only [setL, List.set]
 refine ag_nil (r_done (s_keep [0, 3] (e' := [(0, _), (3, _)]) rfl ?_))
 refine k_then_n (c_seq (c_draw rfl (.q 0 (.q 2 (.q 3 ((.l 1 [] (.q 4 ((.l 5 [] (.done))))))))) (by kernel_rfl) ?_))
 refine q_move rfl rfl rfl rfl (q_nil_p rfl rfl rfl rfl (q_field (k := 3) rfl rfl rfl rfl Try.underlying62 rfl Try.sizeOf59 rfl ?_))
 have sp_3 := Rv.new_spec
 refine l_call rfl rfl rfl rfl rfl rfl Try.call31 (sp_3) Ts ?_
 rintro r0 -
 try simp only [List.cons_append, List.nil_append]
 refine ag_nil (q_idxA (k := 0) rfl rfl rfl rfl rfl Try.underlying59 Try.sizeOf58 (by first | rfl | omega) (by decide) ?_)
 refine l_store (j := 3) rfl rfl rfl rfl Try.sizeOf58 (us := [_]) rfl rfl rfl Tk Az (by first | decide | (simp; done) | omega) ?_
 simp only [setL, List.set]
 refine ag_nil (r_done (s_keep [0, 3] (e' := [(0, _), (3, _)]) rfl ?_))
 refine k_then_n (c_seq (c_draw rfl (.q 0 (.q 2 (.q 3 ((.l 1 [] (.q 4 ((.l 5 [] (.done))))))))) (by kernel_rfl) ?_))
 refine q_move rfl rfl rfl rfl (q_nil_p rfl rfl rfl rfl (q_field (k := 3) rfl rfl rfl rfl Try.underlying62 rfl Try.sizeOf59 rfl ?_))
 have sp_4 := Rv.new_spec
 refine l_call rfl rfl rfl rfl rfl rfl Try.call31 (sp_4) Ts ?_
 rintro r1 -
 try simp only [List.cons_append, List.nil_append]
 refine ag_nil (q_idxA (k := 1) rfl rfl rfl rfl rfl Try.underlying59 Try.sizeOf58 (by first | rfl | omega) (by decide) ?_)
 refine l_store (j := 4) rfl rfl rfl rfl Try.sizeOf58 (us := [_]) rfl rfl rfl Tk Az (by first | decide | (simp; done) | omega) ?_
 simp only [setL, List.set]
 refine ag_nil (r_done (s_heap (fun _ h => own_nil (sz := 1) (enc := encU) h) ?_))
 refine ow_fold (b := b19) (ao := none) (cap := 0) [] Ts rfl nil_cv ?_
 refine plc_put (R := owB) (b := q0) (t := []) Tk ?_
 refine plc_put (R := owB) (b := b19) (t := []) Tk ?_
 refine plc_nil (R := owB) ?_
 refine s_big_nil (f := plF owB) ?_
 refine s_big_push (f := plF owB) (L := []) (x := (some ⟨q0, 0, none⟩, some [])) Ts ?_
 simp only [List.nil_append, List.cons_append]
 refine s_big_push (f := plF owB) (L := [(some ⟨q0, 0, none⟩, some [])]) (x := (some ⟨b19, 0, none⟩, some [])) Ts ?_
 simp only [List.nil_append, List.cons_append]
 refine s_big_push (f := plF owB) (L := [(some ⟨q0, 0, none⟩, some []), (some ⟨b19, 0, none⟩, some [])]) (x := (none, none)) Ts ?_
 simp only [List.nil_append, List.cons_append]
 refine plc_put (R := ckB) (b := r0) (t := []) Tk ?_
 refine plc_put (R := ckB) (b := r1) (t := []) Tk ?_
 refine plc_nil (R := ckB) ?_
 refine s_big_nil (f := plF ckB) ?_
 refine s_big_push (f := plF ckB) (L := []) (x := (some ⟨r0, 0, none⟩, some [])) Ts ?_
 simp only [List.nil_append, List.cons_append]
 refine s_big_push (f := plF ckB) (L := [(some ⟨r0, 0, none⟩, some [])]) (x := (some ⟨r1, 0, none⟩, some [])) Ts ?_
 simp only [List.nil_append, List.cons_append]
 refine s_big_push (f := plF ckB) (L := [(some ⟨r0, 0, none⟩, some []), (some ⟨r1, 0, none⟩, some [])]) (x := (none, none)) Ts ?_
 simp only [List.nil_append, List.cons_append]
 refine s_heap (fun _ h => own_nil (sz := 1) (enc := (encH : LstA Int → List Value)) h) ?_
 refine s_heap (fun _ h => own_nil (sz := 1) (enc := (encH : LstA Int → List Value)) h) ?_
 refine s_big_nil (f := owA 1 encU) ?_
 refine s_big_nil (f := owA 1 encU) ?_
 refine tab_fold (b := b) (⟨[(some ⟨q0, 0, none⟩, some []), (some ⟨b19, 0, none⟩, some []), (none, none)], [(some ⟨r0, 0, none⟩, some []), (some ⟨r1, 0, none⟩, some []), (none, none)], [], []⟩ : TS) Ts rfl rfl rfl rfl ?_
 refine s_keep [0, 3] (e' := [(0, _), (3, _)]) rfl ?_
 refine k_then_n (c_seq (c_seq (c_plain (.q 0 (.done)) (by kernel_rfl) ?_)))
 refine q_assign rfl rfl rfl rfl (r_done (k_then_n (c_block ?_)))
 refine c_loop2 (α := Nat × TS) (fun (x_ : Nat × TS) => match x_ with | (i, T) => i ≤ sl ∧ (TOk i T)) (fun (x_ : Nat × TS) => match x_ with | (i, T) => [(4, .int .i64 ((i : Nat) : Int))]) (fun (x_ : Nat × TS) => match x_ with | (i, T) => [tabR b T]) (fun (x_ : Nat × TS) => match x_ with | (i, T) => sl - i) [0, 3] (er := [(0, _), (3, _)]) rfl (0, (⟨[(some ⟨q0, 0, none⟩, some []), (some ⟨b19, 0, none⟩, some []), (none, none)], [(some ⟨r0, 0, none⟩, some []), (some ⟨r1, 0, none⟩, some []), (none, none)], [], []⟩ : TS)) ?_ (by exact ⟨rfl, trivial⟩) (by (try dsimp only); (repeat ((with_reducible apply Z2); focus (first | (with_reducible (repeat (first | exact Z0 | apply Z1)); done) | (repeat (first | exact Z0 | apply Z1))))); exact Z3) ?_
 · exact ⟨Nat.zero_le _, ⟨rfl, rfl, (fun x h => by cases h), Nat.le_refl _⟩⟩
 rintro ⟨i, T⟩ ⟨hle_i, hT⟩
 try simp only [List.cons_append, List.nil_append]
 refine c_seq (c_seq (c_plain (.q 0 (.q 1 (.q 2 (.q 3 (.done))))) (by kernel_rfl) ?_))
 refine q_move rfl rfl rfl rfl (q_move rfl rfl rfl rfl (q_len rfl rfl rfl rfl Try.underlying55 ?_))
 refine q_int rfl rfl rfl rfl rfl (b_lss _ _ _ _) ?_
 refine r_done (k_then_n ?_)
 refine c_cond_p rfl (fun hlt => ?_) (fun hlt => ?_)
 ·
  obtain ⟨x, hxL⟩ := get_lt (l := L) (i := i) (by omega)
  have hO := hL x (List.mem_of_getElem? hxL)
  obtain ⟨kd, on, ⟨so, sc, ws⟩, th, ck, ⟨ko, kc, cs⟩, epz, lv⟩ := x
  obtain ⟨ep, hep_⟩ := Int.eq_ofNat_of_zero_le hO.e0
  simp only at hep_
  subst hep_
  refine c_skip (k_then_n (c_seq (c_block (c_seq (c_plain (.q 0 (.q 1 (.q 2 (.q 3 ((.l 4 [] ((.l 5 [] (.done))))))))) (by kernel_rfl) ?_)))))
  refine q_move rfl rfl rfl rfl (q_move rfl rfl rfl rfl (q_idxR (sz := 7) (k := i) rfl rfl rfl rfl rfl Try.underlying55 Try.sizeOf68 (hs) hxL encS3_len (by first | rfl | omega) (by omega) ?_))
  intro ib41 io41 _ hd41
  refine q_loadN (vs := [_, _, _, _, _, _, _, _]) rfl rfl rfl rfl Try.isAgg68 Try.sizeOf68 Tk (hd41) rfl ?_
  refine l_alloc rfl rfl rfl Try.zeroValue68 (zs := [.int .i64 0, .int .i64 0, .slice none 0 0, .int .i64 0, .int .u64 0, .slice none 0 0, .int .u64 0, .int .i64 0]) rfl ?_
  intro b5
  refine ag_nil (l_store (j := 0) rfl rfl rfl rfl Try.sizeOf68 (us := [_, _, _, _, _, _, _, _]) rfl rfl rfl Tk Az (by first | decide | (simp; done) | omega) ?_)
  simp only [setL, List.set]
  refine ag_nil (r_done (s_keep [0, 3, 4, 5] (e' := [(0, _), (3, _), (4, _), (5, _)]) rfl ?_))
  refine k_then_n (c_seq (c_plain (.q 0 (.done)) (by kernel_rfl) ?_))
  refine q_assign rfl rfl rfl rfl (r_done (k_then_n (c_seq (c_block (c_seq (c_plain (.q 0 (.q 1 (.q 2 (.q 3 (.q 4 (.q 5 (.q 6 (.q 7 (.q 8 (.q 9 (.q 10 (.q 11 (.q 12 (.q 13 (.q 14 (.q 15 (.q 16 (.q 17 (.q 18 (.done)))))))))))))))))))) (by kernel_rfl) ?_))))))
  refine q_field (k := 0) rfl rfl rfl rfl Try.underlying68 rfl Try.sizeOf3 rfl ?_
  refine q_load_c (j := 0) rfl rfl rfl rfl Try.isAgg3 Tk Az (by rfl) ?_
  refine q_int rfl rfl rfl rfl rfl (b_eql _ _ _ _) ?_
  refine q_move rfl rfl rfl rfl ?_
  refine s_bool_p 47 rfl (fun e0 => ?_) (fun e0 => ?_)
  ·
   refine q_skip rfl rfl rfl rfl (q_skip rfl rfl rfl rfl (q_skip rfl rfl rfl rfl (q_pick_t rfl rfl rfl rfl rfl (q_move rfl rfl rfl rfl (q_skip rfl rfl rfl rfl (q_skip rfl rfl rfl rfl (q_skip rfl rfl rfl rfl (q_pick_t rfl rfl rfl rfl rfl ?_))))))))
   refine q_move rfl rfl rfl rfl (q_skip rfl rfl rfl rfl (q_skip rfl rfl rfl rfl (q_skip rfl rfl rfl rfl (q_pick_t rfl rfl rfl rfl rfl (q_assign rfl rfl rfl rfl (r_done (s_keep [0, 3, 4, 5, 6, 43, 48, 49, 50, 53, 54, 55, 58, 59, 60] (e' := [(0, _), (3, _), (4, _), (5, _), (6, _), (43, _), (48, _), (49, _), (50, _), (53, _), (54, _), (55, _), (58, _), (59, _), (60, _)]) rfl ?_)))))))
   refine k_then_n (c_cond_t rfl ?_)
   refine c_plain (.q 0 (.q 1 ((.l 2 [] (.q 3 (.done)))))) (by kernel_rfl) ?_
   refine q_move rfl rfl rfl rfl (q_loadN_c rfl rfl rfl rfl Try.isAgg68 Try.sizeOf68 Tk 0 (us := [_, _, _, _, _, _, _, _]) Az rfl rfl ?_)
   have sp_5 := Vp.makes_spec b T i hT (by omega) kd on th ck lv ep ws so ws.length sc cs ko cs.length kc A hO.w rfl hO.wl hO.c rfl hO.cl hO.c0 hO.k0 (by have := hO.e1; simp only at this; omega)
   refine l_call rfl rfl rfl rfl rfl rfl Try.call32 (sp_5) Ts ?_
   rintro T2 hT2
   try simp only [List.cons_append, List.nil_append]
   refine ag_nil (q_assign rfl rfl rfl rfl (r_done (s_keep [0, 3, 4, 6, 48, 49, 50, 53, 54, 55, 58, 59, 60] (e' := [(0, _), (3, _), (4, _), (6, _), (48, _), (49, _), (50, _), (53, _), (54, _), (55, _), (58, _), (59, _), (60, _)]) rfl ?_)))
   refine k_blk_n (k_then_n (c_seq (c_plain (.q 0 (.q 1 (.done))) (by kernel_rfl) ?_)))
   refine q_move rfl rfl rfl rfl (q_not rfl rfl rfl rfl ?_)
   refine s_eq 105 rfl (v' := .bool false) rfl ?_
   refine r_done (k_then_n (c_cond_f rfl ?_))
   refine c_skip (k_blk_n (k_then_n (c_plain (.q 0 (.q 1 (.q 2 (.done)))) (by kernel_rfl) ?_)))
   refine q_move rfl rfl rfl rfl (q_int rfl rfl rfl rfl rfl (b_add' _ (by exact fits_i64 (by omega) (by omega))) ?_)
   refine q_assign rfl rfl rfl rfl (r_done (s_keep [0, 3, 4, 48, 49, 50, 53, 54, 55, 58, 59, 60] (e' := [(0, _), (3, _), (4, _), (48, _), (49, _), (50, _), (53, _), (54, _), (55, _), (58, _), (59, _), (60, _)]) rfl ?_))
   refine k_then_n ?_
   refine loop_next (x := (i, T)) ((i + 1, T2)) ?_ ?_ ?_ ?_
   · try dsimp only
     exact ⟨by omega, hT2⟩
   · show sl - (i + 1) < sl - i; omega
   · exact ⟨rfl, rfl, rfl, trivial⟩
   · (try simp only [List.cons_append, List.nil_append]); exact Tf
  refine q_field (k := 0) rfl rfl rfl rfl Try.underlying68 rfl Try.sizeOf3 rfl ?_
  refine q_load_c (j := 0) rfl rfl rfl rfl Try.isAgg3 Tk Az (by rfl) ?_
  refine q_int rfl rfl rfl rfl rfl (b_eql _ _ _ _) ?_
  refine q_pick_f rfl rfl rfl rfl rfl (q_move rfl rfl rfl rfl ?_)
  refine s_bool_p 52 rfl (fun e1 => ?_) (fun e1 => ?_)
  ·
   refine q_skip rfl rfl rfl rfl (q_skip rfl rfl rfl rfl (q_skip rfl rfl rfl rfl (q_pick_t rfl rfl rfl rfl rfl (q_move rfl rfl rfl rfl (q_skip rfl rfl rfl rfl (q_skip rfl rfl rfl rfl (q_skip rfl rfl rfl rfl (q_pick_t rfl rfl rfl rfl rfl ?_))))))))
   refine q_assign rfl rfl rfl rfl (r_done (s_keep [0, 3, 4, 5, 6, 43, 48, 49, 50, 53, 54, 55, 58, 59, 60] (e' := [(0, _), (3, _), (4, _), (5, _), (6, _), (43, _), (48, _), (49, _), (50, _), (53, _), (54, _), (55, _), (58, _), (59, _), (60, _)]) rfl ?_))
   refine k_then_n (c_cond_t rfl ?_)
   refine c_plain (.q 0 (.q 1 ((.l 2 [] (.q 3 (.done)))))) (by kernel_rfl) ?_
   refine q_move rfl rfl rfl rfl (q_loadN_c rfl rfl rfl rfl Try.isAgg68 Try.sizeOf68 Tk 0 (us := [_, _, _, _, _, _, _, _]) Az rfl rfl ?_)
   have sp_6 := Vp.makes_spec b T i hT (by omega) kd on th ck lv ep ws so ws.length sc cs ko cs.length kc A hO.w rfl hO.wl hO.c rfl hO.cl hO.c0 hO.k0 (by have := hO.e1; simp only at this; omega)
   refine l_call rfl rfl rfl rfl rfl rfl Try.call32 (sp_6) Ts ?_
   rintro T2 hT2
   try simp only [List.cons_append, List.nil_append]
   refine ag_nil (q_assign rfl rfl rfl rfl (r_done (s_keep [0, 3, 4, 6, 48, 49, 50, 53, 54, 55, 58, 59, 60] (e' := [(0, _), (3, _), (4, _), (6, _), (48, _), (49, _), (50, _), (53, _), (54, _), (55, _), (58, _), (59, _), (60, _)]) rfl ?_)))
   refine k_blk_n (k_then_n (c_seq (c_plain (.q 0 (.q 1 (.done))) (by kernel_rfl) ?_)))
   refine q_move rfl rfl rfl rfl (q_not rfl rfl rfl rfl ?_)
   refine s_eq 105 rfl (v' := .bool false) rfl ?_
   refine r_done (k_then_n (c_cond_f rfl ?_))
   refine c_skip (k_blk_n (k_then_n (c_plain (.q 0 (.q 1 (.q 2 (.done)))) (by kernel_rfl) ?_)))
   refine q_move rfl rfl rfl rfl (q_int rfl rfl rfl rfl rfl (b_add' _ (by exact fits_i64 (by omega) (by omega))) ?_)
   refine q_assign rfl rfl rfl rfl (r_done (s_keep [0, 3, 4, 48, 49, 50, 53, 54, 55, 58, 59, 60] (e' := [(0, _), (3, _), (4, _), (48, _), (49, _), (50, _), (53, _), (54, _), (55, _), (58, _), (59, _), (60, _)]) rfl ?_))
   refine k_then_n ?_
   refine loop_next (x := (i, T)) ((i + 1, T2)) ?_ ?_ ?_ ?_
   · try dsimp only
     exact ⟨by omega, hT2⟩
   · show sl - (i + 1) < sl - i; omega
   · exact ⟨rfl, rfl, rfl, trivial⟩
   · (try simp only [List.cons_append, List.nil_append]); exact Tf
  refine q_field (k := 0) rfl rfl rfl rfl Try.underlying68 rfl Try.sizeOf3 rfl ?_
  refine q_load_c (j := 0) rfl rfl rfl rfl Try.isAgg3 Tk Az (by rfl) ?_
  refine q_int rfl rfl rfl rfl rfl (b_eql _ _ _ _) ?_
  refine q_pick_f rfl rfl rfl rfl rfl (q_move rfl rfl rfl rfl ?_)
  refine s_bool_p 57 rfl (fun e2 => ?_) (fun e2 => ?_)
  ·
   refine q_skip rfl rfl rfl rfl (q_skip rfl rfl rfl rfl (q_skip rfl rfl rfl rfl (q_pick_t rfl rfl rfl rfl rfl (q_assign rfl rfl rfl rfl (r_done (s_keep [0, 3, 4, 5, 6, 43, 48, 49, 50, 53, 54, 55, 58, 59, 60] (e' := [(0, _), (3, _), (4, _), (5, _), (6, _), (43, _), (48, _), (49, _), (50, _), (53, _), (54, _), (55, _), (58, _), (59, _), (60, _)]) rfl ?_))))))
   refine k_then_n (c_cond_t rfl ?_)
   refine c_plain (.q 0 (.q 1 ((.l 2 [] (.q 3 (.done)))))) (by kernel_rfl) ?_
   refine q_move rfl rfl rfl rfl (q_loadN_c rfl rfl rfl rfl Try.isAgg68 Try.sizeOf68 Tk 0 (us := [_, _, _, _, _, _, _, _]) Az rfl rfl ?_)
   have sp_7 := Vp.makes_spec b T i hT (by omega) kd on th ck lv ep ws so ws.length sc cs ko cs.length kc A hO.w rfl hO.wl hO.c rfl hO.cl hO.c0 hO.k0 (by have := hO.e1; simp only at this; omega)
   refine l_call rfl rfl rfl rfl rfl rfl Try.call32 (sp_7) Ts ?_
   rintro T2 hT2
   try simp only [List.cons_append, List.nil_append]
   refine ag_nil (q_assign rfl rfl rfl rfl (r_done (s_keep [0, 3, 4, 6, 48, 49, 50, 53, 54, 55, 58, 59, 60] (e' := [(0, _), (3, _), (4, _), (6, _), (48, _), (49, _), (50, _), (53, _), (54, _), (55, _), (58, _), (59, _), (60, _)]) rfl ?_)))
   refine k_blk_n (k_then_n (c_seq (c_plain (.q 0 (.q 1 (.done))) (by kernel_rfl) ?_)))
   refine q_move rfl rfl rfl rfl (q_not rfl rfl rfl rfl ?_)
   refine s_eq 105 rfl (v' := .bool false) rfl ?_
   refine r_done (k_then_n (c_cond_f rfl ?_))
   refine c_skip (k_blk_n (k_then_n (c_plain (.q 0 (.q 1 (.q 2 (.done)))) (by kernel_rfl) ?_)))
   refine q_move rfl rfl rfl rfl (q_int rfl rfl rfl rfl rfl (b_add' _ (by exact fits_i64 (by omega) (by omega))) ?_)
   refine q_assign rfl rfl rfl rfl (r_done (s_keep [0, 3, 4, 48, 49, 50, 53, 54, 55, 58, 59, 60] (e' := [(0, _), (3, _), (4, _), (48, _), (49, _), (50, _), (53, _), (54, _), (55, _), (58, _), (59, _), (60, _)]) rfl ?_))
   refine k_then_n ?_
   refine loop_next (x := (i, T)) ((i + 1, T2)) ?_ ?_ ?_ ?_
   · try dsimp only
     exact ⟨by omega, hT2⟩
   · show sl - (i + 1) < sl - i; omega
   · exact ⟨rfl, rfl, rfl, trivial⟩
   · (try simp only [List.cons_append, List.nil_append]); exact Tf
  refine q_field (k := 0) rfl rfl rfl rfl Try.underlying68 rfl Try.sizeOf3 rfl ?_
  refine q_load_c (j := 0) rfl rfl rfl rfl Try.isAgg3 Tk Az (by rfl) ?_
  refine q_int rfl rfl rfl rfl rfl (b_eql _ _ _ _) ?_
  refine q_pick_f rfl rfl rfl rfl rfl (q_assign rfl rfl rfl rfl (r_done (s_keep [0, 3, 4, 5, 6, 43, 48, 49, 50, 53, 54, 55, 58, 59, 60] (e' := [(0, _), (3, _), (4, _), (5, _), (6, _), (43, _), (48, _), (49, _), (50, _), (53, _), (54, _), (55, _), (58, _), (59, _), (60, _)]) rfl ?_)))
  refine k_then_n ?_
  refine c_cond_p rfl (fun e3 => ?_) (fun e3 => ?_)
  ·
   refine c_plain (.q 0 (.q 1 ((.l 2 [] (.q 3 (.done)))))) (by kernel_rfl) ?_
   refine q_move rfl rfl rfl rfl (q_loadN_c rfl rfl rfl rfl Try.isAgg68 Try.sizeOf68 Tk 0 (us := [_, _, _, _, _, _, _, _]) Az rfl rfl ?_)
   have sp_8 := Vp.makes_spec b T i hT (by omega) kd on th ck lv ep ws so ws.length sc cs ko cs.length kc A hO.w rfl hO.wl hO.c rfl hO.cl hO.c0 hO.k0 (by have := hO.e1; simp only at this; omega)
   refine l_call rfl rfl rfl rfl rfl rfl Try.call32 (sp_8) Ts ?_
   rintro T2 hT2
   try simp only [List.cons_append, List.nil_append]
   refine ag_nil (q_assign rfl rfl rfl rfl (r_done (s_keep [0, 3, 4, 6, 48, 49, 50, 53, 54, 55, 58, 59, 60] (e' := [(0, _), (3, _), (4, _), (6, _), (48, _), (49, _), (50, _), (53, _), (54, _), (55, _), (58, _), (59, _), (60, _)]) rfl ?_)))
   refine k_blk_n (k_then_n (c_seq (c_plain (.q 0 (.q 1 (.done))) (by kernel_rfl) ?_)))
   refine q_move rfl rfl rfl rfl (q_not rfl rfl rfl rfl ?_)
   refine s_eq 105 rfl (v' := .bool false) rfl ?_
   refine r_done (k_then_n (c_cond_f rfl ?_))
   refine c_skip (k_blk_n (k_then_n (c_plain (.q 0 (.q 1 (.q 2 (.done)))) (by kernel_rfl) ?_)))
   refine q_move rfl rfl rfl rfl (q_int rfl rfl rfl rfl rfl (b_add' _ (by exact fits_i64 (by omega) (by omega))) ?_)
   refine q_assign rfl rfl rfl rfl (r_done (s_keep [0, 3, 4, 48, 49, 50, 53, 54, 55, 58, 59, 60] (e' := [(0, _), (3, _), (4, _), (48, _), (49, _), (50, _), (53, _), (54, _), (55, _), (58, _), (59, _), (60, _)]) rfl ?_))
   refine k_then_n ?_
   refine loop_next (x := (i, T)) ((i + 1, T2)) ?_ ?_ ?_ ?_
   · try dsimp only
     exact ⟨by omega, hT2⟩
   · show sl - (i + 1) < sl - i; omega
   · exact ⟨rfl, rfl, rfl, trivial⟩
   · (try simp only [List.cons_append, List.nil_append]); exact Tf
  refine c_seq (c_plain (.q 0 (.q 1 (.q 2 (.q 3 (.q 4 (.q 5 (.q 6 (.q 7 (.q 8 (.q 9 (.q 10 (.q 11 (.q 12 (.q 13 (.q 14 (.q 15 (.q 16 (.q 17 (.q 18 (.q 19 (.q 20 (.q 21 (.q 22 (.q 23 (.done))))))))))))))))))))))))) (by kernel_rfl) ?_)
  refine q_field (k := 0) rfl rfl rfl rfl Try.underlying68 rfl Try.sizeOf3 rfl ?_
  refine q_load_c (j := 0) rfl rfl rfl rfl Try.isAgg3 Tk Az (by rfl) ?_
  refine q_int rfl rfl rfl rfl rfl (b_eql _ _ _ _) ?_
  refine q_move rfl rfl rfl rfl ?_
  refine s_bool_p 69 rfl (fun e4 => ?_) (fun e4 => ?_)
  ·
   refine q_skip rfl rfl rfl rfl (q_skip rfl rfl rfl rfl (q_skip rfl rfl rfl rfl (q_pick_t rfl rfl rfl rfl rfl (q_move rfl rfl rfl rfl (q_skip rfl rfl rfl rfl (q_skip rfl rfl rfl rfl (q_skip rfl rfl rfl rfl (q_pick_t rfl rfl rfl rfl rfl ?_))))))))
   refine q_move rfl rfl rfl rfl (q_skip rfl rfl rfl rfl (q_skip rfl rfl rfl rfl (q_skip rfl rfl rfl rfl (q_pick_t rfl rfl rfl rfl rfl (q_move rfl rfl rfl rfl (q_skip rfl rfl rfl rfl (q_skip rfl rfl rfl rfl (q_skip rfl rfl rfl rfl ?_))))))))
   refine q_pick_t rfl rfl rfl rfl rfl (q_assign rfl rfl rfl rfl (r_done (s_keep [0, 3, 4, 5, 6, 48, 49, 50, 53, 54, 55, 58, 59, 60, 65, 70, 71, 72, 75, 76, 77, 80, 81, 82, 85, 86, 87] (e' := [(0, _), (3, _), (4, _), (5, _), (6, _), (48, _), (49, _), (50, _), (53, _), (54, _), (55, _), (58, _), (59, _), (60, _), (65, _), (70, _), (71, _), (72, _), (75, _), (76, _), (77, _), (80, _), (81, _), (82, _), (85, _), (86, _), (87, _)]) rfl ?_)))
   refine k_then_n (c_cond_t rfl ?_)
   refine c_plain (.q 0 (.q 1 ((.l 2 [] (.q 3 (.done)))))) (by kernel_rfl) ?_
   refine q_move rfl rfl rfl rfl (q_loadN_c rfl rfl rfl rfl Try.isAgg68 Try.sizeOf68 Tk 0 (us := [_, _, _, _, _, _, _, _]) Az rfl rfl ?_)
   have sp_9 := Vp.changes_spec b T i hT (by omega) kd on th ck lv ep ws so ws.length sc cs ko cs.length kc A hO.w rfl hO.wl hO.c rfl hO.cl hO.c0 hO.k0 (by have := hO.e1; simp only at this; omega)
   refine l_call rfl rfl rfl rfl rfl rfl Try.call33 (sp_9) Ts ?_
   rintro T2 hT2
   try simp only [List.cons_append, List.nil_append]
   refine ag_nil (q_assign rfl rfl rfl rfl (r_done (s_keep [0, 3, 4, 6, 48, 49, 50, 53, 54, 55, 58, 59, 60, 70, 71, 72, 75, 76, 77, 80, 81, 82, 85, 86, 87] (e' := [(0, _), (3, _), (4, _), (6, _), (48, _), (49, _), (50, _), (53, _), (54, _), (55, _), (58, _), (59, _), (60, _), (70, _), (71, _), (72, _), (75, _), (76, _), (77, _), (80, _), (81, _), (82, _), (85, _), (86, _), (87, _)]) rfl ?_)))
   refine k_blk_n (k_then_n (c_seq (c_plain (.q 0 (.q 1 (.done))) (by kernel_rfl) ?_)))
   refine q_move rfl rfl rfl rfl (q_not rfl rfl rfl rfl ?_)
   refine s_eq 105 rfl (v' := .bool false) rfl ?_
   refine r_done (k_then_n (c_cond_f rfl ?_))
   refine c_skip (k_blk_n (k_then_n (c_plain (.q 0 (.q 1 (.q 2 (.done)))) (by kernel_rfl) ?_)))
   refine q_move rfl rfl rfl rfl (q_int rfl rfl rfl rfl rfl (b_add' _ (by exact fits_i64 (by omega) (by omega))) ?_)
   refine q_assign rfl rfl rfl rfl (r_done (s_keep [0, 3, 4, 48, 49, 50, 53, 54, 55, 58, 59, 60, 70, 71, 72, 75, 76, 77, 80, 81, 82, 85, 86, 87] (e' := [(0, _), (3, _), (4, _), (48, _), (49, _), (50, _), (53, _), (54, _), (55, _), (58, _), (59, _), (60, _), (70, _), (71, _), (72, _), (75, _), (76, _), (77, _), (80, _), (81, _), (82, _), (85, _), (86, _), (87, _)]) rfl ?_))
   refine k_then_n ?_
   refine loop_next (x := (i, T)) ((i + 1, T2)) ?_ ?_ ?_ ?_
   · try dsimp only
     exact ⟨by omega, hT2⟩
   · show sl - (i + 1) < sl - i; omega
   · exact ⟨rfl, rfl, rfl, trivial⟩
   · (try simp only [List.cons_append, List.nil_append]); exact Tf
  refine q_field (k := 0) rfl rfl rfl rfl Try.underlying68 rfl Try.sizeOf3 rfl ?_
  refine q_load_c (j := 0) rfl rfl rfl rfl Try.isAgg3 Tk Az (by rfl) ?_
  refine q_int rfl rfl rfl rfl rfl (b_eql _ _ _ _) ?_
  refine q_pick_f rfl rfl rfl rfl rfl (q_move rfl rfl rfl rfl ?_)
  refine s_bool_p 74 rfl (fun e5 => ?_) (fun e5 => ?_)
  ·
   refine q_skip rfl rfl rfl rfl (q_skip rfl rfl rfl rfl (q_skip rfl rfl rfl rfl (q_pick_t rfl rfl rfl rfl rfl (q_move rfl rfl rfl rfl (q_skip rfl rfl rfl rfl (q_skip rfl rfl rfl rfl (q_skip rfl rfl rfl rfl (q_pick_t rfl rfl rfl rfl rfl ?_))))))))
   refine q_move rfl rfl rfl rfl (q_skip rfl rfl rfl rfl (q_skip rfl rfl rfl rfl (q_skip rfl rfl rfl rfl (q_pick_t rfl rfl rfl rfl rfl (q_assign rfl rfl rfl rfl (r_done (s_keep [0, 3, 4, 5, 6, 48, 49, 50, 53, 54, 55, 58, 59, 60, 65, 70, 71, 72, 75, 76, 77, 80, 81, 82, 85, 86, 87] (e' := [(0, _), (3, _), (4, _), (5, _), (6, _), (48, _), (49, _), (50, _), (53, _), (54, _), (55, _), (58, _), (59, _), (60, _), (65, _), (70, _), (71, _), (72, _), (75, _), (76, _), (77, _), (80, _), (81, _), (82, _), (85, _), (86, _), (87, _)]) rfl ?_)))))))
   refine k_then_n (c_cond_t rfl ?_)
   refine c_plain (.q 0 (.q 1 ((.l 2 [] (.q 3 (.done)))))) (by kernel_rfl) ?_
   refine q_move rfl rfl rfl rfl (q_loadN_c rfl rfl rfl rfl Try.isAgg68 Try.sizeOf68 Tk 0 (us := [_, _, _, _, _, _, _, _]) Az rfl rfl ?_)
   have sp_10 := Vp.changes_spec b T i hT (by omega) kd on th ck lv ep ws so ws.length sc cs ko cs.length kc A hO.w rfl hO.wl hO.c rfl hO.cl hO.c0 hO.k0 (by have := hO.e1; simp only at this; omega)
   refine l_call rfl rfl rfl rfl rfl rfl Try.call33 (sp_10) Ts ?_
   rintro T2 hT2
   try simp only [List.cons_append, List.nil_append]
   refine ag_nil (q_assign rfl rfl rfl rfl (r_done (s_keep [0, 3, 4, 6, 48, 49, 50, 53, 54, 55, 58, 59, 60, 70, 71, 72, 75, 76, 77, 80, 81, 82, 85, 86, 87] (e' := [(0, _), (3, _), (4, _), (6, _), (48, _), (49, _), (50, _), (53, _), (54, _), (55, _), (58, _), (59, _), (60, _), (70, _), (71, _), (72, _), (75, _), (76, _), (77, _), (80, _), (81, _), (82, _), (85, _), (86, _), (87, _)]) rfl ?_)))
   refine k_blk_n (k_then_n (c_seq (c_plain (.q 0 (.q 1 (.done))) (by kernel_rfl) ?_)))
   refine q_move rfl rfl rfl rfl (q_not rfl rfl rfl rfl ?_)
   refine s_eq 105 rfl (v' := .bool false) rfl ?_
   refine r_done (k_then_n (c_cond_f rfl ?_))
   refine c_skip (k_blk_n (k_then_n (c_plain (.q 0 (.q 1 (.q 2 (.done)))) (by kernel_rfl) ?_)))
   refine q_move rfl rfl rfl rfl (q_int rfl rfl rfl rfl rfl (b_add' _ (by exact fits_i64 (by omega) (by omega))) ?_)
   refine q_assign rfl rfl rfl rfl (r_done (s_keep [0, 3, 4, 48, 49, 50, 53, 54, 55, 58, 59, 60, 70, 71, 72, 75, 76, 77, 80, 81, 82, 85, 86, 87] (e' := [(0, _), (3, _), (4, _), (48, _), (49, _), (50, _), (53, _), (54, _), (55, _), (58, _), (59, _), (60, _), (70, _), (71, _), (72, _), (75, _), (76, _), (77, _), (80, _), (81, _), (82, _), (85, _), (86, _), (87, _)]) rfl ?_))
   refine k_then_n ?_
   refine loop_next (x := (i, T)) ((i + 1, T2)) ?_ ?_ ?_ ?_
   · try dsimp only
     exact ⟨by omega, hT2⟩
   · show sl - (i + 1) < sl - i; omega
   · exact ⟨rfl, rfl, rfl, trivial⟩
   · (try simp only [List.cons_append, List.nil_append]); exact Tf
  refine q_field (k := 0) rfl rfl rfl rfl Try.underlying68 rfl Try.sizeOf3 rfl ?_
  refine q_load_c (j := 0) rfl rfl rfl rfl Try.isAgg3 Tk Az (by rfl) ?_
  refine q_int rfl rfl rfl rfl rfl (b_eql _ _ _ _) ?_
  refine q_pick_f rfl rfl rfl rfl rfl (q_move rfl rfl rfl rfl ?_)
  refine s_bool_p 79 rfl (fun e6 => ?_) (fun e6 => ?_)
  ·
   refine q_skip rfl rfl rfl rfl (q_skip rfl rfl rfl rfl (q_skip rfl rfl rfl rfl (q_pick_t rfl rfl rfl rfl rfl (q_move rfl rfl rfl rfl (q_skip rfl rfl rfl rfl (q_skip rfl rfl rfl rfl (q_skip rfl rfl rfl rfl (q_pick_t rfl rfl rfl rfl rfl ?_))))))))
   refine q_assign rfl rfl rfl rfl (r_done (s_keep [0, 3, 4, 5, 6, 48, 49, 50, 53, 54, 55, 58, 59, 60, 65, 70, 71, 72, 75, 76, 77, 80, 81, 82, 85, 86, 87] (e' := [(0, _), (3, _), (4, _), (5, _), (6, _), (48, _), (49, _), (50, _), (53, _), (54, _), (55, _), (58, _), (59, _), (60, _), (65, _), (70, _), (71, _), (72, _), (75, _), (76, _), (77, _), (80, _), (81, _), (82, _), (85, _), (86, _), (87, _)]) rfl ?_))
   refine k_then_n (c_cond_t rfl ?_)
   refine c_plain (.q 0 (.q 1 ((.l 2 [] (.q 3 (.done)))))) (by kernel_rfl) ?_
   refine q_move rfl rfl rfl rfl (q_loadN_c rfl rfl rfl rfl Try.isAgg68 Try.sizeOf68 Tk 0 (us := [_, _, _, _, _, _, _, _]) Az rfl rfl ?_)
   have sp_11 := Vp.changes_spec b T i hT (by omega) kd on th ck lv ep ws so ws.length sc cs ko cs.length kc A hO.w rfl hO.wl hO.c rfl hO.cl hO.c0 hO.k0 (by have := hO.e1; simp only at this; omega)
   refine l_call rfl rfl rfl rfl rfl rfl Try.call33 (sp_11) Ts ?_
   rintro T2 hT2
   try simp only [List.cons_append, List.nil_append]
   refine ag_nil (q_assign rfl rfl rfl rfl (r_done (s_keep [0, 3, 4, 6, 48, 49, 50, 53, 54, 55, 58, 59, 60, 70, 71, 72, 75, 76, 77, 80, 81, 82, 85, 86, 87] (e' := [(0, _), (3, _), (4, _), (6, _), (48, _), (49, _), (50, _), (53, _), (54, _), (55, _), (58, _), (59, _), (60, _), (70, _), (71, _), (72, _), (75, _), (76, _), (77, _), (80, _), (81, _), (82, _), (85, _), (86, _), (87, _)]) rfl ?_)))
   refine k_blk_n (k_then_n (c_seq (c_plain (.q 0 (.q 1 (.done))) (by kernel_rfl) ?_)))
   refine q_move rfl rfl rfl rfl (q_not rfl rfl rfl rfl ?_)
   refine s_eq 105 rfl (v' := .bool false) rfl ?_
   refine r_done (k_then_n (c_cond_f rfl ?_))
   refine c_skip (k_blk_n (k_then_n (c_plain (.q 0 (.q 1 (.q 2 (.done)))) (by kernel_rfl) ?_)))
   refine q_move rfl rfl rfl rfl (q_int rfl rfl rfl rfl rfl (b_add' _ (by exact fits_i64 (by omega) (by omega))) ?_)
   refine q_assign rfl rfl rfl rfl (r_done (s_keep [0, 3, 4, 48, 49, 50, 53, 54, 55, 58, 59, 60, 70, 71, 72, 75, 76, 77, 80, 81, 82, 85, 86, 87] (e' := [(0, _), (3, _), (4, _), (48, _), (49, _), (50, _), (53, _), (54, _), (55, _), (58, _), (59, _), (60, _), (70, _), (71, _), (72, _), (75, _), (76, _), (77, _), (80, _), (81, _), (82, _), (85, _), (86, _), (87, _)]) rfl ?_))
   refine k_then_n ?_
   refine loop_next (x := (i, T)) ((i + 1, T2)) ?_ ?_ ?_ ?_
   · try dsimp only
     exact ⟨by omega, hT2⟩
   · show sl - (i + 1) < sl - i; omega
   · exact ⟨rfl, rfl, rfl, trivial⟩
   · (try simp only [List.cons_append, List.nil_append]); exact Tf
  refine q_field (k := 0) rfl rfl rfl rfl Try.underlying68 rfl Try.sizeOf3 rfl ?_
  refine q_load_c (j := 0) rfl rfl rfl rfl Try.isAgg3 Tk Az (by rfl) ?_
  refine q_int rfl rfl rfl rfl rfl (b_eql _ _ _ _) ?_
  refine q_pick_f rfl rfl rfl rfl rfl (q_move rfl rfl rfl rfl ?_)
  refine s_bool_p 84 rfl (fun e7 => ?_) (fun e7 => ?_)
  ·
   refine q_skip rfl rfl rfl rfl (q_skip rfl rfl rfl rfl (q_skip rfl rfl rfl rfl (q_pick_t rfl rfl rfl rfl rfl (q_assign rfl rfl rfl rfl (r_done (s_keep [0, 3, 4, 5, 6, 48, 49, 50, 53, 54, 55, 58, 59, 60, 65, 70, 71, 72, 75, 76, 77, 80, 81, 82, 85, 86, 87] (e' := [(0, _), (3, _), (4, _), (5, _), (6, _), (48, _), (49, _), (50, _), (53, _), (54, _), (55, _), (58, _), (59, _), (60, _), (65, _), (70, _), (71, _), (72, _), (75, _), (76, _), (77, _), (80, _), (81, _), (82, _), (85, _), (86, _), (87, _)]) rfl ?_))))))
   refine k_then_n (c_cond_t rfl ?_)
   refine c_plain (.q 0 (.q 1 ((.l 2 [] (.q 3 (.done)))))) (by kernel_rfl) ?_
   refine q_move rfl rfl rfl rfl (q_loadN_c rfl rfl rfl rfl Try.isAgg68 Try.sizeOf68 Tk 0 (us := [_, _, _, _, _, _, _, _]) Az rfl rfl ?_)
   have sp_12 := Vp.changes_spec b T i hT (by omega) kd on th ck lv ep ws so ws.length sc cs ko cs.length kc A hO.w rfl hO.wl hO.c rfl hO.cl hO.c0 hO.k0 (by have := hO.e1; simp only at this; omega)
   refine l_call rfl rfl rfl rfl rfl rfl Try.call33 (sp_12) Ts ?_
   rintro T2 hT2
   try simp only [List.cons_append, List.nil_append]
   refine ag_nil (q_assign rfl rfl rfl rfl (r_done (s_keep [0, 3, 4, 6, 48, 49, 50, 53, 54, 55, 58, 59, 60, 70, 71, 72, 75, 76, 77, 80, 81, 82, 85, 86, 87] (e' := [(0, _), (3, _), (4, _), (6, _), (48, _), (49, _), (50, _), (53, _), (54, _), (55, _), (58, _), (59, _), (60, _), (70, _), (71, _), (72, _), (75, _), (76, _), (77, _), (80, _), (81, _), (82, _), (85, _), (86, _), (87, _)]) rfl ?_)))
   refine k_blk_n (k_then_n (c_seq (c_plain (.q 0 (.q 1 (.done))) (by kernel_rfl) ?_)))
   refine q_move rfl rfl rfl rfl (q_not rfl rfl rfl rfl ?_)
   refine s_eq 105 rfl (v' := .bool false) rfl ?_
   refine r_done (k_then_n (c_cond_f rfl ?_))
   refine c_skip (k_blk_n (k_then_n (c_plain (.q 0 (.q 1 (.q 2 (.done)))) (by kernel_rfl) ?_)))
   refine q_move rfl rfl rfl rfl (q_int rfl rfl rfl rfl rfl (b_add' _ (by exact fits_i64 (by omega) (by omega))) ?_)
   refine q_assign rfl rfl rfl rfl (r_done (s_keep [0, 3, 4, 48, 49, 50, 53, 54, 55, 58, 59, 60, 70, 71, 72, 75, 76, 77, 80, 81, 82, 85, 86, 87] (e' := [(0, _), (3, _), (4, _), (48, _), (49, _), (50, _), (53, _), (54, _), (55, _), (58, _), (59, _), (60, _), (70, _), (71, _), (72, _), (75, _), (76, _), (77, _), (80, _), (81, _), (82, _), (85, _), (86, _), (87, _)]) rfl ?_))
   refine k_then_n ?_
   refine loop_next (x := (i, T)) ((i + 1, T2)) ?_ ?_ ?_ ?_
   · try dsimp only
     exact ⟨by omega, hT2⟩
   · show sl - (i + 1) < sl - i; omega
   · exact ⟨rfl, rfl, rfl, trivial⟩
   · (try simp only [List.cons_append, List.nil_append]); exact Tf
  refine q_field (k := 0) rfl rfl rfl rfl Try.underlying68 rfl Try.sizeOf3 rfl ?_
  refine q_load_c (j := 0) rfl rfl rfl rfl Try.isAgg3 Tk Az (by rfl) ?_
  refine q_int rfl rfl rfl rfl rfl (b_eql _ _ _ _) ?_
  refine q_pick_f rfl rfl rfl rfl rfl (q_assign rfl rfl rfl rfl (r_done (s_keep [0, 3, 4, 5, 6, 48, 49, 50, 53, 54, 55, 58, 59, 60, 65, 70, 71, 72, 75, 76, 77, 80, 81, 82, 85, 86, 87] (e' := [(0, _), (3, _), (4, _), (5, _), (6, _), (48, _), (49, _), (50, _), (53, _), (54, _), (55, _), (58, _), (59, _), (60, _), (65, _), (70, _), (71, _), (72, _), (75, _), (76, _), (77, _), (80, _), (81, _), (82, _), (85, _), (86, _), (87, _)]) rfl ?_)))
  refine k_then_n ?_
  refine c_cond_p rfl (fun e8 => ?_) (fun e8 => ?_)
  ·
   refine c_plain (.q 0 (.q 1 ((.l 2 [] (.q 3 (.done)))))) (by kernel_rfl) ?_
   refine q_move rfl rfl rfl rfl (q_loadN_c rfl rfl rfl rfl Try.isAgg68 Try.sizeOf68 Tk 0 (us := [_, _, _, _, _, _, _, _]) Az rfl rfl ?_)
   have sp_13 := Vp.changes_spec b T i hT (by omega) kd on th ck lv ep ws so ws.length sc cs ko cs.length kc A hO.w rfl hO.wl hO.c rfl hO.cl hO.c0 hO.k0 (by have := hO.e1; simp only at this; omega)
   refine l_call rfl rfl rfl rfl rfl rfl Try.call33 (sp_13) Ts ?_
   rintro T2 hT2
   try simp only [List.cons_append, List.nil_append]
   refine ag_nil (q_assign rfl rfl rfl rfl (r_done (s_keep [0, 3, 4, 6, 48, 49, 50, 53, 54, 55, 58, 59, 60, 70, 71, 72, 75, 76, 77, 80, 81, 82, 85, 86, 87] (e' := [(0, _), (3, _), (4, _), (6, _), (48, _), (49, _), (50, _), (53, _), (54, _), (55, _), (58, _), (59, _), (60, _), (70, _), (71, _), (72, _), (75, _), (76, _), (77, _), (80, _), (81, _), (82, _), (85, _), (86, _), (87, _)]) rfl ?_)))
   refine k_blk_n (k_then_n (c_seq (c_plain (.q 0 (.q 1 (.done))) (by kernel_rfl) ?_)))
   refine q_move rfl rfl rfl rfl (q_not rfl rfl rfl rfl ?_)
   refine s_eq 105 rfl (v' := .bool false) rfl ?_
   refine r_done (k_then_n (c_cond_f rfl ?_))
   refine c_skip (k_blk_n (k_then_n (c_plain (.q 0 (.q 1 (.q 2 (.done)))) (by kernel_rfl) ?_)))
   refine q_move rfl rfl rfl rfl (q_int rfl rfl rfl rfl rfl (b_add' _ (by exact fits_i64 (by omega) (by omega))) ?_)
   refine q_assign rfl rfl rfl rfl (r_done (s_keep [0, 3, 4, 48, 49, 50, 53, 54, 55, 58, 59, 60, 70, 71, 72, 75, 76, 77, 80, 81, 82, 85, 86, 87] (e' := [(0, _), (3, _), (4, _), (48, _), (49, _), (50, _), (53, _), (54, _), (55, _), (58, _), (59, _), (60, _), (70, _), (71, _), (72, _), (75, _), (76, _), (77, _), (80, _), (81, _), (82, _), (85, _), (86, _), (87, _)]) rfl ?_))
   refine k_then_n ?_
   refine loop_next (x := (i, T)) ((i + 1, T2)) ?_ ?_ ?_ ?_
   · try dsimp only
     exact ⟨by omega, hT2⟩
   · show sl - (i + 1) < sl - i; omega
   · exact ⟨rfl, rfl, rfl, trivial⟩
   · (try simp only [List.cons_append, List.nil_append]); exact Tf
  refine c_seq (c_plain (.q 0 (.q 1 (.q 2 (.q 3 (.q 4 (.q 5 (.q 6 (.q 7 (.q 8 (.done)))))))))) (by kernel_rfl) ?_)
  refine q_field (k := 0) rfl rfl rfl rfl Try.underlying68 rfl Try.sizeOf3 rfl ?_
  refine q_load_c (j := 0) rfl rfl rfl rfl Try.isAgg3 Tk Az (by rfl) ?_
  refine q_int rfl rfl rfl rfl rfl (b_geq _ _ _ _) ?_
  refine q_move rfl rfl rfl rfl ?_
  refine s_bool_p 96 rfl (fun e9 => ?_) (fun e9 => ?_)
  ·
   refine q_field (k := 0) rfl rfl rfl rfl Try.underlying68 rfl Try.sizeOf3 rfl ?_
   refine q_load_c (j := 0) rfl rfl rfl rfl Try.isAgg3 Tk Az (by rfl) ?_
   refine q_int rfl rfl rfl rfl rfl (b_lss _ _ _ _) ?_
   refine q_pick_t rfl rfl rfl rfl rfl (q_assign rfl rfl rfl rfl (r_done (s_keep [0, 3, 4, 5, 6, 48, 49, 50, 53, 54, 55, 58, 59, 60, 70, 71, 72, 75, 76, 77, 80, 81, 82, 85, 86, 87, 92, 97, 98, 99] (e' := [(0, _), (3, _), (4, _), (5, _), (6, _), (48, _), (49, _), (50, _), (53, _), (54, _), (55, _), (58, _), (59, _), (60, _), (70, _), (71, _), (72, _), (75, _), (76, _), (77, _), (80, _), (81, _), (82, _), (85, _), (86, _), (87, _), (92, _), (97, _), (98, _), (99, _)]) rfl ?_)))
   refine k_then_n ?_
   refine c_cond_p rfl (fun e10 => ?_) (fun e10 => ?_)
   ·
    refine c_plain (.q 0 (.q 1 ((.l 2 [] (.q 3 (.done)))))) (by kernel_rfl) ?_
    refine q_move rfl rfl rfl rfl (q_loadN_c rfl rfl rfl rfl Try.isAgg68 Try.sizeOf68 Tk 0 (us := [_, _, _, _, _, _, _, _]) Az rfl rfl ?_)
    have sp_14 := Vp.tells_spec b T i hT (by omega) kd on th ck lv ep ws so ws.length sc cs ko cs.length kc A hO.w rfl hO.wl hO.c rfl hO.cl hO.c0 hO.k0 (by have := hO.e1; simp only at this; omega)
    refine l_call rfl rfl rfl rfl rfl rfl Try.call34 (sp_14) Ts ?_
    rintro T2 hT2
    try simp only [List.cons_append, List.nil_append]
    refine ag_nil (q_assign rfl rfl rfl rfl (r_done (s_keep [0, 3, 4, 6, 48, 49, 50, 53, 54, 55, 58, 59, 60, 70, 71, 72, 75, 76, 77, 80, 81, 82, 85, 86, 87, 97, 98, 99] (e' := [(0, _), (3, _), (4, _), (6, _), (48, _), (49, _), (50, _), (53, _), (54, _), (55, _), (58, _), (59, _), (60, _), (70, _), (71, _), (72, _), (75, _), (76, _), (77, _), (80, _), (81, _), (82, _), (85, _), (86, _), (87, _), (97, _), (98, _), (99, _)]) rfl ?_)))
    refine k_blk_n (k_then_n (c_seq (c_plain (.q 0 (.q 1 (.done))) (by kernel_rfl) ?_)))
    refine q_move rfl rfl rfl rfl (q_not rfl rfl rfl rfl ?_)
    refine s_eq 105 rfl (v' := .bool false) rfl ?_
    refine r_done (k_then_n (c_cond_f rfl ?_))
    refine c_skip (k_blk_n (k_then_n (c_plain (.q 0 (.q 1 (.q 2 (.done)))) (by kernel_rfl) ?_)))
    refine q_move rfl rfl rfl rfl (q_int rfl rfl rfl rfl rfl (b_add' _ (by exact fits_i64 (by omega) (by omega))) ?_)
    refine q_assign rfl rfl rfl rfl (r_done (s_keep [0, 3, 4, 48, 49, 50, 53, 54, 55, 58, 59, 60, 70, 71, 72, 75, 76, 77, 80, 81, 82, 85, 86, 87, 97, 98, 99] (e' := [(0, _), (3, _), (4, _), (48, _), (49, _), (50, _), (53, _), (54, _), (55, _), (58, _), (59, _), (60, _), (70, _), (71, _), (72, _), (75, _), (76, _), (77, _), (80, _), (81, _), (82, _), (85, _), (86, _), (87, _), (97, _), (98, _), (99, _)]) rfl ?_))
    refine k_then_n ?_
    refine loop_next (x := (i, T)) ((i + 1, T2)) ?_ ?_ ?_ ?_
    · try dsimp only
      exact ⟨by omega, hT2⟩
    · show sl - (i + 1) < sl - i; omega
    · exact ⟨rfl, rfl, rfl, trivial⟩
    · (try simp only [List.cons_append, List.nil_append]); exact Tf
   refine c_skip (k_blk_n (k_then_n (c_seq (c_plain (.q 0 (.q 1 (.done))) (by kernel_rfl) ?_))))
   refine q_move rfl rfl rfl rfl (q_not rfl rfl rfl rfl ?_)
   refine s_eq 105 rfl (v' := .bool false) rfl ?_
   refine r_done (s_keep [0, 3, 4, 48, 49, 50, 53, 54, 55, 58, 59, 60, 70, 71, 72, 75, 76, 77, 80, 81, 82, 85, 86, 87, 97, 98, 99, 105] (e' := [(0, _), (3, _), (4, _), (48, _), (49, _), (50, _), (53, _), (54, _), (55, _), (58, _), (59, _), (60, _), (70, _), (71, _), (72, _), (75, _), (76, _), (77, _), (80, _), (81, _), (82, _), (85, _), (86, _), (87, _), (97, _), (98, _), (99, _), (105, _)]) rfl ?_)
   refine k_then_n (c_cond_f rfl ?_)
   refine c_skip (k_blk_n (k_then_n (c_plain (.q 0 (.q 1 (.q 2 (.done)))) (by kernel_rfl) ?_)))
   refine q_move rfl rfl rfl rfl (q_int rfl rfl rfl rfl rfl (b_add' _ (by exact fits_i64 (by omega) (by omega))) ?_)
   refine q_assign rfl rfl rfl rfl (r_done (k_then_n ?_))
   refine loop_next (x := (i, T)) ((i + 1, T)) ?_ ?_ ?_ ?_
   · try dsimp only
     exact ⟨by omega, tok_more hT (by omega)⟩
   · show sl - (i + 1) < sl - i; omega
   · exact ⟨rfl, rfl, rfl, trivial⟩
   · (try simp only [List.cons_append, List.nil_append]); exact Tf
  refine q_skip rfl rfl rfl rfl (q_skip rfl rfl rfl rfl (q_skip rfl rfl rfl rfl (q_pick_f rfl rfl rfl rfl rfl (q_assign rfl rfl rfl rfl (r_done (s_keep [0, 3, 4, 5, 6, 48, 49, 50, 53, 54, 55, 58, 59, 60, 70, 71, 72, 75, 76, 77, 80, 81, 82, 85, 86, 87, 92, 97, 98, 99] (e' := [(0, _), (3, _), (4, _), (5, _), (6, _), (48, _), (49, _), (50, _), (53, _), (54, _), (55, _), (58, _), (59, _), (60, _), (70, _), (71, _), (72, _), (75, _), (76, _), (77, _), (80, _), (81, _), (82, _), (85, _), (86, _), (87, _), (92, _), (97, _), (98, _), (99, _)]) rfl ?_))))))
  refine k_then_n (c_cond_f rfl ?_)
  refine c_skip (k_blk_n (k_then_n (c_seq (c_plain (.q 0 (.q 1 (.done))) (by kernel_rfl) ?_))))
  refine q_move rfl rfl rfl rfl (q_not rfl rfl rfl rfl ?_)
  refine s_eq 105 rfl (v' := .bool false) rfl ?_
  refine r_done (s_keep [0, 3, 4, 48, 49, 50, 53, 54, 55, 58, 59, 60, 70, 71, 72, 75, 76, 77, 80, 81, 82, 85, 86, 87, 97, 98, 99, 105] (e' := [(0, _), (3, _), (4, _), (48, _), (49, _), (50, _), (53, _), (54, _), (55, _), (58, _), (59, _), (60, _), (70, _), (71, _), (72, _), (75, _), (76, _), (77, _), (80, _), (81, _), (82, _), (85, _), (86, _), (87, _), (97, _), (98, _), (99, _), (105, _)]) rfl ?_)
  refine k_then_n (c_cond_f rfl ?_)
  refine c_skip (k_blk_n (k_then_n (c_plain (.q 0 (.q 1 (.q 2 (.done)))) (by kernel_rfl) ?_)))
  refine q_move rfl rfl rfl rfl (q_int rfl rfl rfl rfl rfl (b_add' _ (by exact fits_i64 (by omega) (by omega))) ?_)
  refine q_assign rfl rfl rfl rfl (r_done (k_then_n ?_))
  refine loop_next (x := (i, T)) ((i + 1, T)) ?_ ?_ ?_ ?_
  · try dsimp only
    exact ⟨by omega, tok_more hT (by omega)⟩
  · show sl - (i + 1) < sl - i; omega
  · exact ⟨rfl, rfl, rfl, trivial⟩
  · (try simp only [List.cons_append, List.nil_append]); exact Tf
 refine c_exit (k_then_exit (k_then_exit (k_blk_here (k_then_n (c_seq (c_seq ?_))))))
 have hin : i = sl := by omega
 refine c_plain (.q 0 ((.l 1 [] (.q 2 (.done))))) (by kernel_rfl) ?_
 refine q_move rfl rfl rfl rfl ?_
 have sp_15 := Vp.apart_spec b i T.O T.Q T.C T.W hT (by omega)
 refine l_call rfl rfl rfl rfl rfl rfl Try.call35 (sp_15) Ts ?_
 rintro ⟨⟩ -
 try simp only [List.cons_append, List.nil_append]
 refine ag_nil (q_not rfl rfl rfl rfl ?_)
 refine s_eq 108 rfl (v' := .bool false) rfl ?_
 refine r_done (s_keep [3, 108] (e' := [(3, _), (108, _)]) rfl ?_)
 refine k_then_n (c_cond_f rfl ?_)
 refine c_skip (k_then_n (c_seq (c_seq (tab2_open (b := b) (O := T.O) (Q := T.Q) Tk fun p0 p1 p2 p3 p4 p5 u v hp hq => ?_))))
 have hO3 := len3 hp
 have hrel := hT.rel
 refine c_plain (.q 0 (.done)) (by kernel_rfl) ?_
 refine q_assign rfl rfl rfl rfl (r_done (k_then_n (c_block ?_)))
 refine c_loop2 (α := Nat) (fun (y : Nat) => y ≤ 3) (fun (y : Nat) => [(7, .int .i64 ((y : Nat) : Int))]) (fun (y : Nat) => []) (fun (y : Nat) => 3 - y) [3] (er := [(3, _)]) rfl (0) ?_ (by exact ⟨rfl, trivial⟩) (by (try dsimp only); (try simp only [Nat.add_zero, Nat.zero_add]); (repeat ((with_reducible apply Z2); focus (first | (with_reducible (repeat (first | exact Z0 | apply Z1)); done) | (repeat (first | exact Z0 | apply Z1))))); exact Z3) ?_
 · exact Nat.zero_le _
 rintro y hle_y
 try simp only [List.cons_append, List.nil_append]
 refine c_seq (c_seq (c_plain (.q 0 (.q 1 (.done))) (by kernel_rfl) ?_))
 refine q_move rfl rfl rfl rfl (q_int rfl rfl rfl rfl rfl (b_lss _ _ _ _) ?_)
 refine r_done (k_then_n ?_)
 refine c_cond_p rfl (fun hly => ?_) (fun hly => ?_)
 ·
  obtain ⟨a, r, m, hx, hy⟩ := rel_at hrel (i := y) (by omega)
  refine big_len (L := T.O) Tk hx fun hml => ?_
  refine c_skip (k_then_n (c_seq (c_block (c_seq (c_draw rfl (.q 0 (.q 1 (.q 2 (.q 3 (.q 4 (.q 5 (.q 7 (.q 8 (.q 9 (.q 10 (.q 11 (.q 12 ((.l 6 [12] ((.l 13 [] ((.l 14 [] (.q 15 (.done)))))))))))))))))))) (by kernel_rfl) ?_)))))
  refine q_move rfl rfl rfl rfl (q_move rfl rfl rfl rfl (q_nil_p rfl rfl rfl rfl (q_field (k := 0) rfl rfl rfl rfl Try.underlying62 rfl Try.sizeOf57 rfl ?_)))
  refine q_idxA (k := y) rfl rfl rfl rfl rfl Try.underlying57 Try.sizeOf25 (by first | rfl | omega) (by omega) ?_
  refine q_load_c (j := 0 + y) rfl rfl rfl rfl Try.isAgg25 Tk (by omega) (tc_o hp hx) ?_
  refine q_move rfl rfl rfl rfl (q_move rfl rfl rfl rfl (q_nil_p rfl rfl rfl rfl (q_field (k := 3) rfl rfl rfl rfl Try.underlying62 rfl Try.sizeOf59 rfl ?_)))
  refine q_idxA (k := y) rfl rfl rfl rfl rfl Try.underlying59 Try.sizeOf58 (by first | rfl | omega) (by omega) ?_
  refine q_load_c (j := 3 + y) rfl rfl rfl rfl Try.isAgg58 Tk (by omega) (tc_q hq hy) ?_
  have sp_16 := Vp.o_list hx
  refine l_call rfl rfl rfl rfl rfl rfl Try.call18 (sp_16) Ts ?_
  rintro ⟨xa_, xc_⟩ -
  try simp only [List.cons_append, List.nil_append]
  refine ag_load_c (q := 3 + y) rfl rfl rfl Try.isAgg58 Tk (by omega) (tc_q hq hy) ?_
  refine ag_nil ?_
  have sp_17 := Vp.r_list hy
  refine l_call rfl rfl rfl rfl rfl rfl Try.call36 (sp_17) Ts ?_
  rintro ⟨ya_, yc_⟩ -
  try simp only [List.cons_append, List.nil_append]
  refine ag_nil (s_take (A := own 1 encU xa_ xc_ (lM m)) Tk ?_)
  refine own_fc fun f_18a f_18b f_18c => ?_
  refine s_take (A := own 1 encU ya_ yc_ (lM m)) Tk ?_
  refine own_fc fun f_19a f_19b f_19c => ?_
  refine s_heap (fun _ h => Bun.fold ((by (repeat ((with_reducible apply Z2); focus (first | (with_reducible (repeat (first | exact Z0 | apply Z1)); done) | (repeat (first | exact Z0 | apply Z1))))); exact Z3 : Takes _ [own 1 encU xa_ xc_ (lM m), own 1 encU ya_ yc_ (lM m)] _) _ h)) ?_
  have sp_20 := Vc.same_spec (lM m) (lM m) xa_ ya_ ((lM m).length) ((lM m).length) xc_ yc_ (Bun [own 1 encU xa_ xc_ (lM m), own 1 encU ya_ yc_ (lM m)]) Ln (rds_bun (List.mem_cons_self) (rds_own encU_len (fun h => (f_18b h).1) f_18c)) Ln (rds_bun (List.mem_cons_of_mem _ (List.mem_cons_self)) (rds_own encU_len (fun h => (f_19b h).1) f_19c)) (by omega)
  refine l_call rfl rfl rfl rfl rfl rfl Try.call17 (sp_20) Ts ?_
  rintro ⟨⟩ -
  try simp only [List.cons_append, List.nil_append]
  refine s_take (A := Bun [own 1 encU xa_ xc_ (lM m), own 1 encU ya_ yc_ (lM m)]) Tk ?_
  refine s_bun ?_
  try simp only [List.cons_append, List.nil_append]
  try simp only [List.cons_append, List.nil_append]
  refine ag_nil (s_eq 127 rfl (v' := .bool true) (by simp) ?_)
  refine q_not rfl rfl rfl rfl ?_
  refine s_eq 128 rfl (v' := .bool false) rfl ?_
  refine r_done (s_keep [3, 7, 128] (e' := [(3, _), (7, _), (128, _)]) rfl ?_)
  refine k_then_n (c_cond_f rfl ?_)
  refine c_skip (k_blk_n (k_then_n (c_plain (.q 0 (.q 1 (.q 2 (.done)))) (by kernel_rfl) ?_)))
  refine q_move rfl rfl rfl rfl (q_int rfl rfl rfl rfl rfl (b_add' _ (by exact fits_i64 (by omega) (by omega))) ?_)
  refine q_assign rfl rfl rfl rfl (r_done (k_then_n ?_))
  refine loop_next (x := y) (y + 1) ?_ ?_ ?_ ?_
  · exact by show y + 1 ≤ 3; omega
  · show 3 - (y + 1) < 3 - y; omega
  · exact ⟨rfl, rfl, trivial⟩
  · (try simp only [List.cons_append, List.nil_append]); exact Tf
 refine c_exit (k_then_exit (k_then_exit (k_blk_here (k_then_n (c_seq (c_plain (.q 0 (.done)) (by kernel_rfl) ?_))))))
 refine q_assign rfl rfl rfl rfl (r_done (s_keep [2] (e' := [(2, _)]) rfl ?_))
 refine k_then_n (c_ret (ret1 rfl rfl (()) (by first | rfl | (first | rfl | (congr 1; done) | (congr 1 <;> first | rfl | omega | (simp; done) | (simp; omega)))) (by trivial) ?_))
 exact Tf
end Go.Ab.Vp
set_option linter.unusedVariables false
set_option linter.unusedSimpArgs false
namespace Go.Proofs.Ytjoacllimldfkaa.frame
open Go Go.Ab Go.ChangeShapes Go.WideShapes Go.ChangeAt Go.RowKit
/-! The bound. -/
theorem one_le {H : Type} (d : DataW H) : 1 ≤ Rows.uptoBulk d := by
  cases d with
  | lit l => cases l <;> simp [Rows.uptoBulk]
  | nil => simp [Rows.uptoBulk]
  | ptr d => simp [Rows.uptoBulk]
  | slice elems spare => simp [Rows.uptoBulk]
  | agg parts => simp [Rows.uptoBulk]
  | iface t d => simp [Rows.uptoBulk]
  | map entries => simp [Rows.uptoBulk]
  | held h => simp [Rows.uptoBulk]
theorem part_le {H : Type} {d : DataW H} {l : List (DataW H)} (h : d ∈ l) : Rows.uptoBulk d ≤ Rows.uptoBulkAll l := by
  induction l with
  | nil => cases h
  | cons x r ih =>
    simp only [Rows.uptoBulkAll]
    cases List.mem_cons.1 h with
    | inl e => subst e; omega
    | inr e => have := ih e; omega
theorem length_le {H : Type} (l : List (DataW H)) : l.length ≤ Rows.uptoBulkAll l := by
  induction l with
  | nil => simp [Rows.uptoBulkAll]
  | cons x r ih => have := one_le x; simp only [Rows.uptoBulkAll, List.length_cons]; omega
theorem bound {H : Type} {l : List (DataW H)} (hk : Rows.uptoSmall H l = true) : Rows.uptoBulkAll l ≤ 1048576 := of_decide_eq_true hk
theorem bound_mem {H : Type} {l : List (DataW H)} {d : DataW H} (hk : Rows.uptoSmall H l = true) (h : d ∈ l) : Rows.uptoBulk d ≤ 1048576 := Nat.le_trans (part_le h) (bound hk)
theorem bulk_slice {H : Type} {es rs : List (DataW H)} {d : DataW H} (h : d ∈ es) : Rows.uptoBulk d ≤ Rows.uptoBulk (.slice es rs) := by
  have := part_le h
  simp only [Rows.uptoBulk]; omega
theorem bulk_len {H : Type} (es rs : List (DataW H)) : es.length ≤ Rows.uptoBulk (.slice es rs) := by
  have := length_le es
  simp only [Rows.uptoBulk]; omega
/-! The arguments read behind the call as before. -/
theorem trodAll_below {H : Type} {enc : TypeId × Value → H} {P : Program} (hl : laidOutB P = true) {W W' : World} (hb : Below W.heap.size W W') : ∀ {ts : List TypeId} {vs : List Value} {ds : List (DataW H)} {ps : List MemPlace}, (∀ t ∈ ts, P.readableRec t = true ∧ t < P.types.size) →
    DataW.TrodAll enc P W 0 (fun _ => true) true ts vs ds ps → (∀ x ∈ ps, x.block < W.heap.size) → DataW.TrodAll enc P W' 0 (fun b => decide (b < W.heap.size)) true ts vs ds ps
  | [], [], [], _, _, h, _ => h
  | t :: ts, v :: vs, d :: ds, ps, hr, ⟨p, q, h, hs, e⟩, hlt => by
    subst e
    exact ⟨p, q, Below.trod hl (hr t (by simp)).1 (hr t (by simp)).2 h hb (fun x hx => hlt x (List.mem_append_left _ hx)), trodAll_below hl hb (fun t ht => hr t (List.mem_cons_of_mem _ ht)) hs (fun x hx => hlt x (List.mem_append_right _ hx)), rfl⟩
theorem law_post {H : Type} {enc : TypeId × Value → H} {P : Program} {f : Func} {s : ChangeSpec} {W W' : World} {args : Array Value} {ds gs : List (DataW H)} {before : List MemPlace} {tb : TypeId}
    (hl : laidOutB P = true) (hr : ∀ t ∈ f.params.toList, P.readableRec t = true ∧ t < P.types.size) (hvars : s.vars = []) (hres : f.resultTypes = #[tb]) (hb : P.underlying tb = some .bool)
    (hf : s.fn H (ds ++ gs) = { results := [.lit (.bool true)], args := ds, vars := [] }) (hW : DataW.Whole enc P f.params.toList s.vars false W args.toList ds gs before) (bel : Below W.heap.size W W') : s.post enc P f false true false false W args (.bool true) W' := by
  have hW' := hW
  obtain ⟨p, q, hA, hV, rfl, hfz, hnd⟩ := hW
  rw [hvars] at hV
  obtain ⟨rfl, rfl⟩ := trodVars_none hV
  have hA' : DataW.TrodAll enc P W 0 (fun _ => true) true f.params.toList args.toList ds p := hA
  refine ⟨ds, [], p ++ [], [], p, [], hW', ?_, ?_, ?_, bel.frame _, fun h => by cases h⟩
  · rw [hf, hres]
    exact trodAll_mk1 (shut_bool hb true)
  · rw [hf]
    exact trodAll_below hl bel hr hA' (fun x hx => hW'.lt x (List.mem_append_left _ hx))
  · rw [hf, hvars]
    exact rfl
theorem spec_calls {P : Program} {f : FuncId} {args : List Value} {W : World} (h : Ab.Spec P f args [base W] (fun (_ : Unit) => .bool true) (fun _ => True) (fun _ => [base W])) : Calls P f args.toArray W fun e W' => e = .returned (.bool true) ∧ Below W.heap.size W W' :=
  (h [] W (base_self W)).mono fun e w' ⟨_, e1, _, s, a⟩ => ⟨e1, below_of_base s a⟩
/-! Arguments are opened. -/
theorem spot_of_cell {W : World} {a : Addr} {v : Value} (h : W.cell? a = some v) : a.spot = none := by
  unfold World.cell? at h
  split at h
  · split at h
    · cases h
    · rename_i hs; simpa using hs
  · cases h
theorem choose_list {α : Type} : ∀ (n : Nat) (Q : Nat → α → Prop), (∀ i, i < n → ∃ x, Q i x) → ∃ xs : List α, xs.length = n ∧ ∀ i x, xs[i]? = some x → Q i x
  | 0, Q, _ => ⟨[], rfl, fun i x h => by simp at h⟩
  | n + 1, Q, h => by
    obtain ⟨xs, h1, h2⟩ := choose_list n Q (fun i hi => h i (by omega))
    obtain ⟨x, hx⟩ := h n (by omega)
    refine ⟨xs ++ [x], by simp [h1], fun i y hy => ?_⟩
    rcases Nat.lt_trichotomy i n with hi | hi | hi
    · rw [List.getElem?_append_left (by omega)] at hy; exact h2 i y hy
    · subst hi; rw [List.getElem?_append_right (by omega), h1, Nat.sub_self] at hy; simp at hy; subst hy; exact hx
    · rw [List.getElem?_eq_none (by simp; omega)] at hy; cases hy
theorem rdn_flat_mk {α : Type} {A : HProp} {b sz : Nat} {enc : α → List Value} (hsz : ∀ x, (enc x).length = sz) : ∀ (xs : List α) (o : Nat), (∀ i x, xs[i]? = some x → RdN A b (o + i * sz) (enc x)) → RdN A b o (xs.flatMap enc)
  | [], o, _ => fun i v h => by simp at h
  | x :: xs, o, h => fun i v hv => by
    rw [List.flatMap_cons] at hv
    by_cases hi : i < (enc x).length
    · rw [List.getElem?_append_left hi] at hv
      have := h 0 x rfl i v hv
      rwa [Nat.zero_mul, Nat.add_zero] at this
    · rw [List.getElem?_append_right (by omega), hsz] at hv
      rw [hsz] at hi
      have ih := rdn_flat_mk hsz xs (o + sz) (fun i y hy => by
        have := h (i + 1) y (by simpa using hy)
        rw [Nat.succ_mul] at this
        rwa [show o + sz + i * sz = o + (i * sz + sz) from by omega])
      have := ih (i - sz) v hv
      rwa [show o + sz + (i - sz) = o + i from by omega] at this
/-- A slice among what is read: its elements are opened by 'hel'. -/
theorem open_sl {α H : Type} {enc : TypeId × Value → H} {P : Program} {W : World} {t e : TypeId} {ao : Option Addr} {len cap sz fuel : Nat} {y : DataW H × List MemPlace} {enc' : α → List Value} {Q : α → DataW H → Prop} (ht : P.underlying t = some (.slice e)) (hc : P.cellsOf e = sz + 1) (hsz : ∀ x, (enc' x).length = sz + 1)
    (hel : ∀ n cs y, DataW.trod enc P W 0 (fun _ => true) true n e cs = some y → cs.length = sz + 1 → ∃ x : α, enc' x = cs ∧ Q x y.1)
    (h : DataW.trod enc P W 0 (fun _ => true) true fuel t [.slice ao len cap] = some y) :
    ∃ xs : List α, xs.length = len ∧ RdS (base W) ao (xs.flatMap enc') ∧ len ≤ cap ∧ cap ≤ maxLen ∧ xs.length ≤ Rows.uptoBulk y.1 ∧ (∀ x ∈ xs, ∃ d, Q x d ∧ Rows.uptoBulk d ≤ Rows.uptoBulk y.1) ∧ (ao = none → cap = 0) := by
  rcases DataW.trod_slice ht h with ⟨h1, h2⟩ | ⟨a, len', cap', elems, rest, n, -, h1, h2, -, hl, hm, hlen, hel', -⟩
  · simp only [List.cons.injEq, Value.slice.injEq, and_true] at h1
    obtain ⟨rfl, rfl, rfl⟩ := h1
    exact ⟨[], rfl, .inl rfl, Nat.le_refl _, Nat.zero_le _, Nat.zero_le _, fun _ h => (by cases h), fun _ => rfl⟩
  · simp only [List.cons.injEq, Value.slice.injEq, and_true] at h1
    obtain ⟨rfl, rfl, rfl⟩ := h1
    subst h2
    have key : ∀ i, i < len → ∃ x : α, ∃ cs y, W.cells? 0 (a.add (i * (sz + 1))) (sz + 1) = some cs ∧ elems[i]? = some y ∧ enc' x = cs ∧ Q x y.1 := by
      intro i hi
      have h3 := hel' i hi
      rw [List.getElem?_eq_getElem (by omega), hc, Option.bind_eq_some_iff] at h3
      obtain ⟨cs, h4, h5⟩ := h3
      have h6 := World.cells?_some h4
      obtain ⟨x, hx, hq⟩ := hel n cs _ h5 (by have := mapM_some_length (by unfold World.cells? at h4; rwa [if_pos (Nat.zero_le _)] at h4); simpa using this)
      exact ⟨x, cs, _, h4, List.getElem?_eq_getElem (by omega), hx, hq⟩
    obtain ⟨xs, hx1, hx2⟩ := choose_list len _ key
    have hcell : ∀ i x, xs[i]? = some x → ∀ j v, (enc' x)[j]? = some v → W.cell? ((a.add (i * (sz + 1))).add j) = some v := by
      intro i x hx j v hv
      obtain ⟨cs, y, h4, -, h5, -⟩ := hx2 i x hx
      subst h5
      unfold World.cells? at h4
      rw [if_pos (Nat.zero_le _)] at h4
      have hj : j < sz + 1 := by rw [← hsz x]; exact (List.getElem?_eq_some_iff.1 hv).1
      have := mapM_some_get h4 j j (by simp [hj])
      rw [this, hv]
    refine ⟨xs, hx1, ?_, hl, hm, ?_, ?_, fun h => by cases h⟩
    · cases hxs : xs with
      | nil => exact .inl rfl
      | cons x0 xs' =>
        obtain ⟨v0, hv0⟩ := get_lt (l := enc' x0) (i := 0) (by rw [hsz]; omega)
        have h6 := hcell 0 x0 (by rw [hxs]; rfl) 0 v0 hv0
        rw [Nat.zero_mul] at h6
        have hsp : a.spot = none := spot_of_cell (by simpa [Addr.add] using h6)
        obtain ⟨b, o, sp⟩ := a
        simp only at hsp
        subst hsp
        refine .inr ⟨b, o, rfl, ?_⟩
        rw [← hxs]
        refine rdn_flat_mk hsz xs o fun i x hx j v hv => rd_base ?_
        have := hcell i x hx j v hv
        rwa [add_none, add_none] at this
    · have := bulk_len (elems.map (·.1)) (rest.map (·.1))
      rw [List.length_map, hlen] at this
      rw [hx1]; exact this
    · intro x hx
      obtain ⟨i, hi⟩ := List.getElem?_of_mem hx
      obtain ⟨cs, y, -, h5, -, h7⟩ := hx2 i x hi
      exact ⟨y.1, h7, bulk_slice (List.mem_map_of_mem (List.mem_of_getElem? h5))⟩
/-- Whole arguments. -/
theorem arg_sl {α H : Type} {enc : TypeId × Value → H} {P : Program} {W : World} {t e : TypeId} {v : Value} {d : DataW H} {ps : List MemPlace} {bs sz : Nat} {enc' : α → List Value} {Q : α → DataW H → Prop} (ht : P.underlying t = some (.slice e)) (hc : P.cellsOf e = sz + 1) (hsz : ∀ x, (enc' x).length = sz + 1)
    (hel : ∀ n cs y, DataW.trod enc P W 0 (fun _ => true) true n e cs = some y → cs.length = sz + 1 → ∃ x : α, enc' x = cs ∧ Q x y.1)
    (hval : Value.okWide P W .any bs t v) (h : DataW.Trod enc P W 0 (fun _ => true) true t v d ps) :
    ∃ (xs : List α) (ao : Option Addr) (cap : Nat), v = .slice ao xs.length cap ∧ RdS (base W) ao (xs.flatMap enc') ∧ xs.length ≤ cap ∧ cap ≤ maxLen ∧ xs.length ≤ Rows.uptoBulk d ∧ (∀ x ∈ xs, ∃ y, Q x y ∧ Rows.uptoBulk y ≤ Rows.uptoBulk d) ∧ (ao = none → cap = 0) := by
  obtain ⟨ao, len, cap, rfl⟩ := okWide_slice ht hval
  obtain ⟨n, hn⟩ := h
  obtain ⟨xs, h1, h2, h3, h4, h5, h6, h7⟩ := open_sl ht hc hsz hel (y := (d, ps)) (by simpa [Value.cells] using hn)
  subst h1
  exact ⟨xs, ao, cap, rfl, h2, h3, h4, h5, h6, h7⟩
/-- A slice of an element of a slice. -/
theorem el_sl {α H : Type} {enc : TypeId × Value → H} {P : Program} {W : World} {t e : TypeId} {sz : Nat} {enc' : α → List Value} {Q : α → DataW H → Prop} (ht : P.underlying t = some (.slice e)) (hc : P.cellsOf e = sz + 1) (hsz : ∀ x, (enc' x).length = sz + 1)
    (hel : ∀ n cs y, DataW.trod enc P W 0 (fun _ => true) true n e cs = some y → cs.length = sz + 1 → ∃ x : α, enc' x = cs ∧ Q x y.1)
    (n : Nat) (cs : List Value) (y : DataW H × List MemPlace) (h : DataW.trod enc P W 0 (fun _ => true) true n t cs = some y) (hl : cs.length = 0 + 1) :
    ∃ x : LstA α, encH x = cs ∧ (RdS (base W) x.1 (x.2.2.flatMap enc') ∧ x.2.2.length ≤ Rows.uptoBulk y.1 ∧ (∀ z ∈ x.2.2, ∃ d, Q z d ∧ Rows.uptoBulk d ≤ Rows.uptoBulk y.1) ∧ x.2.2.length ≤ x.2.1) := by
  have h0 : ∃ ao len cap, cs = [.slice ao len cap] := by
    rcases DataW.trod_slice ht h with ⟨h1, -⟩ | ⟨a, len', cap', elems, rest, n, -, h1, -⟩
    · exact ⟨_, _, _, h1⟩
    · exact ⟨_, _, _, h1⟩
  obtain ⟨ao, len, cap, rfl⟩ := h0
  obtain ⟨xs, h1, h2, h3, h4, h5, h6, h7⟩ := open_sl ht hc hsz hel h
  subst h1
  exact ⟨(ao, cap, xs), rfl, h2, h5, h6, h3⟩
/-- An integer. -/
theorem el_int {H : Type} {enc : TypeId × Value → H} {P : Program} {W : World} {e : TypeId} {k : IntKind} (he : P.underlying e = some (.int k)) (n : Nat) (cs : List Value) (y : DataW H × List MemPlace) (h : DataW.trod enc P W 0 (fun _ => true) true n e cs = some y) (hl : cs.length = 0 + 1) : ∃ x : Int, [Value.int k x] = cs ∧ (Lit.int k x).wf = true := by
  obtain ⟨m, rfl, rfl, hw⟩ := DataW.trod_int he h
  exact ⟨m, rfl, hw⟩
theorem wf_rng {k : IntKind} {z : Int} (h : (Lit.int k z).wf = true) : k.min ≤ z ∧ z ≤ k.max := by
  simp only [Lit.wf, IntKind.wrap] at h
  cases k <;> simp [IntKind.min, IntKind.max, IntKind.signed, IntKind.bits] at h ⊢ <;> omega
theorem wf_u64 {z : Int} (h : (Lit.int .u64 z).wf = true) : 0 ≤ z ∧ z ≤ 18446744073709551615 := by
  have := wf_rng h
  simpa [IntKind.min, IntKind.max, IntKind.signed, IntKind.bits] using this
end Go.Proofs.Ytjoacllimldfkaa.frame
set_option linter.unusedVariables false
set_option linter.unusedSimpArgs false
namespace Go.Proofs.Ytjoacllimldfkaa.frame
open Go Go.Ab Go.ChangeShapes Go.WideShapes Go.ChangeAt Go.RowKit
variable {α β H : Type} {enc : TypeId × Value → H} {P : Program} {W : World} {e : TypeId} {fs : Array Field} {m : Nat} {cs : List Value} {B : Nat}
/-- How an element of type e is opened. -/
abbrev El (enc : TypeId × Value → H) (P : Program) (W : World) (e : TypeId) (sz : Nat) (encA : α → List Value) (Q : α → DataW H → Prop) : Prop :=
  ∀ n cs y, DataW.trod enc P W 0 (fun _ => true) true n e cs = some y → cs.length = sz → ∃ x : α, encA x = cs ∧ Q x y.1
/-- What is known of the fields from i on. -/
def FR (enc : TypeId × Value → H) (P : Program) (W : World) (fs : Array Field) (m i : Nat) (cs : List Value) (B : Nat) : Prop :=
  ∀ j f, i ≤ j → fs[j]? = some f → ∃ y : DataW H × List MemPlace, DataW.trod enc P W 0 (fun _ => true) true m f.type ((cs.drop f.offset).take (P.cellsOf f.type)) = some y ∧ Rows.uptoBulk y.1 ≤ B
theorem fr_start {n : Nat} {y : DataW H × List MemPlace} (he : P.underlying e = some (.struct fs)) (h : DataW.trod enc P W 0 (fun _ => true) true n e cs = some y) : ∃ m, FR enc P W fs m 0 cs (Rows.uptoBulk y.1) := by
  obtain ⟨xs, m, -, hy, -, hxs, hf⟩ := DataW.trod_struct he h
  refine ⟨m, fun j f _ hj => ?_⟩
  have hlt : j < xs.length := by rw [hxs]; exact (Array.getElem?_eq_some_iff.1 hj).1
  have := hf j f hj
  rw [List.getElem?_eq_getElem hlt] at this
  refine ⟨_, this, ?_⟩
  rw [hy]
  have hp := part_le (l := xs.map (·.1)) (d := xs[j].1) (List.mem_map_of_mem (List.getElem_mem hlt))
  simp only [Rows.uptoBulk]
  omega
/-- Fields from i on, opened. -/
abbrev Fo (enc : TypeId × Value → H) (P : Program) (W : World) (fs : Array Field) (i off sz : Nat) (encA : α → List Value) (Q : α → Nat → Prop) : Prop :=
  ∀ m cs B, FR enc P W fs m i cs B → cs.length = off + sz → ∃ x : α, encA x = cs.drop off ∧ Q x B
theorem fo_last {i off sz : Nat} {f : Field} {encA : α → List Value} {Q : α → DataW H → Prop} (hf : fs[i]? = some f) (ho : f.offset = off) (hc : P.cellsOf f.type = sz) (el : El enc P W f.type sz encA Q) :
    Fo enc P W fs i off sz encA (fun x B => ∃ d, Q x d ∧ Rows.uptoBulk d ≤ B) := by
  intro m cs B h hl
  obtain ⟨y, hy, hb⟩ := h i f (Nat.le_refl _) hf
  rw [ho, hc, List.take_of_length_le (by rw [List.length_drop]; omega)] at hy
  obtain ⟨x, hx, hq⟩ := el m _ y hy (by rw [List.length_drop]; omega)
  exact ⟨x, hx, y.1, hq, hb⟩
theorem fo_cons {i off sz n : Nat} {f : Field} {encA : α → List Value} {Q : α → DataW H → Prop} {encB : β → List Value} {R : β → Nat → Prop} (hf : fs[i]? = some f) (ho : f.offset = off) (hc : P.cellsOf f.type = sz) (el : El enc P W f.type sz encA Q)
    (rest : Fo enc P W fs (i + 1) (off + sz) n encB R) : Fo enc P W fs i off (sz + n) (fun x : α × β => encA x.1 ++ encB x.2) (fun x B => (∃ d, Q x.1 d ∧ Rows.uptoBulk d ≤ B) ∧ R x.2 B) := by
  intro m cs B h hl
  obtain ⟨y, hy, hb⟩ := h i f (Nat.le_refl _) hf
  rw [ho, hc] at hy
  obtain ⟨x, hx, hq⟩ := el m _ y hy (by rw [List.length_take, List.length_drop]; omega)
  obtain ⟨z, hz, hr⟩ := rest m cs B (fun j g hj hg => h j g (by omega) hg) (by omega)
  refine ⟨(x, z), ?_, ⟨y.1, hq, hb⟩, hr⟩
  show encA x ++ encB z = _
  rw [hx, hz, ← List.drop_drop, List.take_append_drop]
theorem el_struct {sz : Nat} {encA : α → List Value} {Q : α → Nat → Prop} (he : P.underlying e = some (.struct fs)) (fo : Fo enc P W fs 0 0 sz encA Q) : El enc P W e sz encA (fun x d => Q x (Rows.uptoBulk d)) := by
  intro n cs y h hl
  obtain ⟨m, hm⟩ := fr_start he h
  obtain ⟨x, hx, hq⟩ := fo m cs _ hm (by omega)
  exact ⟨x, hx, hq⟩
end Go.Proofs.Ytjoacllimldfkaa.frame
