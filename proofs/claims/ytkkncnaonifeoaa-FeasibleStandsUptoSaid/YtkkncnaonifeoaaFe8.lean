/- Package feasible: the law Least. -/
import Derived.Test.YtkkncnaonifeoaaFe7
set_option linter.unusedVariables false
set_option linter.unusedSimpArgs false
set_option maxRecDepth 100000
namespace Go.Ab.Fe
open Go Go.Proofs Go.Ab
theorem own_front {α : Type} {sz : Nat} {enc : α → List Value} (hsz : ∀ x, (enc x).length = sz) {ao : Option Addr} {cap : Nat} {l : List α} {z : α} (h2 : ao = none → l ++ [z] = [] ∧ cap = 0) (h3 : ao ≠ none → ∃ b off, ao = some ⟨b, off, none⟩) : RdS (own sz enc ao cap (l ++ [z])) ao (l.flatMap enc) := by
  have := rds_take (rds_own (cap := cap) hsz (fun e => (h2 e).1) h3) hsz l.length
  rwa [List.take_left] at this
theorem app_at {α : Type} (l : List α) (z : α) : (l ++ [z])[l.length]? = some z := by simp
theorem known_spec : Spec Try.prog 16 [] [] (fun (_ : Unit) => .bool true) (fun _ => True) (fun _ => []) := by
  refine spec_mk (n := 49) Try.func16 rfl rfl rfl ?_
  intro Γ w0
  simp only [argE, List.cons_append, List.nil_append, Nat.zero_add, Nat.reduceAdd]
  have hok : OkS 2 1 0 1 [2] := by decide
  refine c_seq ?_
  refine c_plain (.q 0 (.done)) (by kernel_rfl) ?_
  refine q_assign rfl rfl rfl rfl ?_
  refine r_done ?_
  refine k_then_n ?_
  refine c_seq ?_
  refine c_plain ((.l 0 [] (.q 1 ((.l 2 [] ((.l 3 [] (.done)))))))) (by kernel_rfl) ?_
  refine l_buildSlice rfl rfl rfl rfl (run_build1 (us := [_]) Try.underlying23 Try.sizeOf3 rfl Try.zeroValue3 rfl rfl rfl) ?_
  intro b6
  refine ag_nil ?_
  refine q_build rfl rfl rfl rfl (vs := [_, _, _, _, _]) (run_buildS Try.underlying25 Try.zeroValue25 (ps := [(0, 1), (1, 1), (2, 1), (3, 1), (4, 1)]) ⟨rfl, Try.sizeOf3, rfl, Try.sizeOf3, rfl, Try.sizeOf3, rfl, Try.sizeOf3, rfl, Try.sizeOf23, trivial⟩ rfl) ?_
  refine l_alloc rfl rfl rfl Try.zeroValue25 (zs := [.int .i64 0, .int .i64 0, .int .i64 0, .int .i64 0, .slice none 0 0]) rfl ?_
  intro b1
  refine ag_nil ?_
  refine l_store (j := 0) rfl rfl rfl rfl Try.sizeOf25 (us := [_, _, _, _, _]) rfl rfl rfl (by with_reducible (repeat (first | exact Take.here | apply Take.there))) (by first | rfl | exact (Nat.add_zero _).symm) (by first | decide | (simp; done) | omega) ?_
  simp only [setL, List.set]
  refine ag_nil ?_
  refine r_done ?_
  refine k_then_n ?_
  refine c_seq ?_
  refine c_plain (.q 0 (.q 1 (.q 2 (.q 3 (.q 4 (.q 5 ((.l 6 [] ((.l 7 [] (.q 8 (.q 9 (.q 10 (.q 11 (.q 12 (.done)))))))))))))))) (by kernel_rfl) ?_
  refine q_loadN_c rfl rfl rfl rfl Try.isAgg25 Try.sizeOf25 (by with_reducible (repeat (first | exact Take.here | apply Take.there))) 0 (us := [_, _, _, _, _]) (by first | rfl | exact (Nat.add_zero _).symm) rfl rfl ?_
  refine q_build rfl rfl rfl rfl (vs := [_, _, _]) (run_buildS Try.underlying32 Try.zeroValue32 (ps := [(0, 1), (1, 1), (2, 1)]) ⟨rfl, Try.sizeOf30, rfl, Try.sizeOf3, rfl, Try.sizeOf3, trivial⟩ rfl) ?_
  refine q_build rfl rfl rfl rfl (vs := [_, _, _]) (run_buildS Try.underlying32 Try.zeroValue32 (ps := [(0, 1), (1, 1), (2, 1)]) ⟨rfl, Try.sizeOf30, rfl, Try.sizeOf3, rfl, Try.sizeOf3, trivial⟩ rfl) ?_
  refine q_build rfl rfl rfl rfl (vs := [_, _, _]) (run_buildS Try.underlying32 Try.zeroValue32 (ps := [(0, 1), (1, 1), (2, 1)]) ⟨rfl, Try.sizeOf30, rfl, Try.sizeOf3, rfl, Try.sizeOf3, trivial⟩ rfl) ?_
  refine q_build rfl rfl rfl rfl (vs := [_, _, _]) (run_buildS Try.underlying32 Try.zeroValue32 (ps := [(0, 1), (1, 1), (2, 1)]) ⟨rfl, Try.sizeOf30, rfl, Try.sizeOf3, rfl, Try.sizeOf3, trivial⟩ rfl) ?_
  refine q_build rfl rfl rfl rfl (vs := [_, _, _]) (run_buildS Try.underlying32 Try.zeroValue32 (ps := [(0, 1), (1, 1), (2, 1)]) ⟨rfl, Try.sizeOf30, rfl, Try.sizeOf3, rfl, Try.sizeOf3, trivial⟩ rfl) ?_
  refine l_buildSlice rfl rfl rfl rfl (vs := [_, _, _, _, _, _, _, _, _, _, _, _, _, _, _]) (run_buildSl Try.underlying26 Try.sizeOf32 Try.zeroValue32 rfl rfl rfl rfl) ?_
  intro b15
  refine ag_nil ?_
  refine s_heap (fun _ h => Bun.fold ((by (repeat ((with_reducible apply Takes.cons); focus (first | (with_reducible (repeat (first | exact Take.here | apply Take.there)); done) | (repeat (first | exact Take.here | apply Take.there))))); exact Takes.nil : Takes _ [cells b6 0 [.int .i64 2], cells b15 0 [.int .i64 7, .int .i64 0, .int .i64 1, .int .i64 9, .int .i64 0, .int .i64 0, .int .i64 9, .int .i64 1, .int .i64 0, .int .i64 10, .int .i64 1, .int .i64 0, .int .i64 1, .int .i64 0, .int .i64 0]] _) _ h)) ?_
  have sp_1 := least_spec 2 1 0 1 ([2]) (some ⟨b6, 0, none⟩) 1 1 (Bun [cells b6 0 [.int .i64 2], cells b15 0 [.int .i64 7, .int .i64 0, .int .i64 1, .int .i64 9, .int .i64 0, .int .i64 0, .int .i64 9, .int .i64 1, .int .i64 0, .int .i64 10, .int .i64 1, .int .i64 0, .int .i64 1, .int .i64 0, .int .i64 0]]) (rds_bun (List.mem_cons_self) (rds_some rdn_cells)) (by first | rfl | assumption | omega | (simp; done) | (simp; omega)) (by decide) ([(7, 0, 1), (9, 0, 0), (9, 1, 0), (10, 1, 0), (1, 0, 0)]) (some ⟨b15, 0, none⟩) 5 5 (rds_bun (List.mem_cons_of_mem _ (List.mem_cons_self)) (rds_some rdn_cells)) (by first | rfl | assumption | omega | (simp; done) | (simp; omega)) (by omega)
  refine l_call rfl rfl rfl rfl rfl rfl Try.call12 (sp_1) (by (repeat ((with_reducible apply Takes.cons); focus (first | (with_reducible (repeat (first | exact Take.here | apply Take.there)); done) | (repeat (first | exact Take.here | apply Take.there))))); exact Takes.nil) ?_
  rintro ⟨⟩ -
  try simp only [List.cons_append, List.nil_append]
  refine s_take (A := Bun [cells b6 0 [.int .i64 2], cells b15 0 [.int .i64 7, .int .i64 0, .int .i64 1, .int .i64 9, .int .i64 0, .int .i64 0, .int .i64 9, .int .i64 1, .int .i64 0, .int .i64 10, .int .i64 1, .int .i64 0, .int .i64 1, .int .i64 0, .int .i64 0]]) (by with_reducible (repeat (first | exact Take.here | apply Take.there))) ?_
  refine s_bun ?_
  try simp only [List.cons_append, List.nil_append]
  try simp only [List.cons_append, List.nil_append]
  refine ag_nil ?_
  refine s_eq 16 rfl (v' := .tuple #[.int .i64 4, .int .i64 0]) (by rw [show lsR 2 1 0 1 [2] [(7, 0, 1), (9, 0, 0), (9, 1, 0), (10, 1, 0), (1, 0, 0)] = 4 from by decide, if_pos hok]) ?_
  refine q_move rfl rfl rfl rfl ?_
  refine q_extract rfl rfl rfl rfl rfl ?_
  refine q_extract rfl rfl rfl rfl rfl ?_
  refine q_assign rfl rfl rfl rfl ?_
  refine q_assign rfl rfl rfl rfl ?_
  refine r_done ?_
  refine s_keep [1, 2, 3] (e' := [(1, _), (2, _), (3, _)]) rfl ?_
  refine k_then_n ?_
  refine c_seq ?_
  refine c_plain (.q 0 ((.l 1 [] (.q 2 (.q 3 (.q 4 (.q 5 (.q 6 (.done))))))))) (by kernel_rfl) ?_
  refine q_loadN_c rfl rfl rfl rfl Try.isAgg25 Try.sizeOf25 (by with_reducible (repeat (first | exact Take.here | apply Take.there))) 0 (us := [_, _, _, _, _]) (by first | rfl | exact (Nat.add_zero _).symm) rfl rfl ?_
  have sp_2 := new_spec 2 1 0 1 ([2]) (some ⟨b6, 0, none⟩) 1 1 (cells b6 0 [.int .i64 2]) (rds_some rdn_cells) (by first | rfl | assumption | omega | (simp; done) | (simp; omega)) (by omega) hok
  refine l_call rfl rfl rfl rfl rfl rfl Try.call17 (sp_2) (by (repeat ((with_reducible apply Takes.cons); focus (first | (with_reducible (repeat (first | exact Take.here | apply Take.there)); done) | (repeat (first | exact Take.here | apply Take.there))))); exact Takes.nil) ?_
  rintro ⟨kb, kbp, kbc⟩ -
  try simp only [List.cons_append, List.nil_append]
  refine ag_nil ?_
  refine q_move rfl rfl rfl rfl ?_
  refine q_extract rfl rfl rfl rfl rfl ?_
  refine q_extract rfl rfl rfl rfl rfl ?_
  refine q_assign rfl rfl rfl rfl ?_
  refine q_assign rfl rfl rfl rfl ?_
  refine r_done ?_
  refine s_keep [2, 3, 4, 5] (e' := [(2, _), (3, _), (4, _), (5, _)]) rfl ?_
  refine k_then_n ?_
  refine c_seq ?_
  refine c_plain (.q 0 (.q 1 (.q 2 (.q 3 (.q 4 (.q 5 (.q 6 (.q 7 (.q 8 (.q 9 (.q 10 (.q 11 (.q 12 (.q 13 (.q 14 (.q 15 (.q 16 ((.l 17 [] (.q 18 (.q 19 (.q 20 (.q 21 ((.l 22 [] (.q 23 (.q 24 (.q 25 (.done))))))))))))))))))))))))))))) (by kernel_rfl) ?_
  refine q_move rfl rfl rfl rfl ?_
  refine q_int rfl rfl rfl rfl rfl (b_eql _ _ _ _) ?_
  refine s_eq 25 rfl (v' := .bool true) (by first | rfl | simp) ?_
  refine q_move rfl rfl rfl rfl ?_
  refine q_move rfl rfl rfl rfl ?_
  refine q_int rfl rfl rfl rfl rfl (b_eql _ _ _ _) ?_
  refine s_eq 28 rfl (v' := .bool true) (by first | rfl | simp) ?_
  refine q_pick_t rfl rfl rfl rfl rfl ?_
  refine q_move rfl rfl rfl rfl ?_
  refine q_move rfl rfl rfl rfl ?_
  refine q_ne_nil rfl rfl rfl rfl Try.underlying42 ?_
  refine s_eq 32 rfl (v' := .bool true) rfl ?_
  refine q_pick_t rfl rfl rfl rfl rfl ?_
  refine q_move rfl rfl rfl rfl ?_
  refine q_move rfl rfl rfl rfl ?_
  refine q_int rfl rfl rfl rfl rfl (b_eql _ _ _ _) ?_
  refine s_eq 36 rfl (v' := .bool true) (by first | rfl | simp) ?_
  refine q_pick_t rfl rfl rfl rfl rfl ?_
  refine q_move rfl rfl rfl rfl ?_
  refine q_move rfl rfl rfl rfl ?_
  refine q_build rfl rfl rfl rfl (vs := [_, _, _]) (run_buildS Try.underlying32 Try.zeroValue32 (ps := [(0, 1), (1, 1), (2, 1)]) ⟨rfl, Try.sizeOf30, rfl, Try.sizeOf3, rfl, Try.sizeOf3, trivial⟩ rfl) ?_
  have sp_3 := next_spec kbp kbc kb (newF 2 1 0 1 ([2])) (new_inv hok) (by decide) ([2]) (rfl) 2 0 0
  refine l_call rfl rfl rfl rfl rfl rfl Try.call19 (sp_3) (by (repeat ((with_reducible apply Takes.cons); focus (first | (with_reducible (repeat (first | exact Take.here | apply Take.there)); done) | (repeat (first | exact Take.here | apply Take.there))))); exact Takes.nil) ?_
  rintro ⟨⟩ -
  try simp only [List.cons_append, List.nil_append]
  refine ag_nil ?_
  refine s_eq 41 rfl (v' := .int .i64 0) (by rw [show nxE (newF 2 1 0 1 [2]) 2 0 0 = 0 from by decide]) ?_
  refine q_int rfl rfl rfl rfl rfl (b_eql _ _ _ _) ?_
  refine s_eq 42 rfl (v' := .bool true) (by first | rfl | simp) ?_
  refine q_pick_t rfl rfl rfl rfl rfl ?_
  refine q_move rfl rfl rfl rfl ?_
  refine q_move rfl rfl rfl rfl ?_
  have sp_4 := len_spec kbp kbc kb (nxF (newF 2 1 0 1 ([2])) 2 0 0)
  refine l_call rfl rfl rfl rfl rfl rfl Try.call20 (sp_4) (by (repeat ((with_reducible apply Takes.cons); focus (first | (with_reducible (repeat (first | exact Take.here | apply Take.there)); done) | (repeat (first | exact Take.here | apply Take.there))))); exact Takes.nil) ?_
  rintro ⟨⟩ -
  try simp only [List.cons_append, List.nil_append]
  refine ag_nil ?_
  refine s_eq 46 rfl (v' := .int .i64 1) (by rfl) ?_
  refine q_int rfl rfl rfl rfl rfl (b_eql _ _ _ _) ?_
  refine s_eq 47 rfl (v' := .bool true) (by first | rfl | simp) ?_
  refine q_pick_t rfl rfl rfl rfl rfl ?_
  refine q_assign rfl rfl rfl rfl ?_
  refine r_done ?_
  refine s_keep [0] (e' := [(0, _)]) rfl ?_
  refine k_then_n ?_
  refine c_ret ?_
  refine ret1 rfl rfl (()) (by first | rfl | (first | rfl | (congr 1; done) | (congr 1 <;> first | rfl | omega | (simp; done) | (simp; omega)))) (by trivial) ?_
  (repeat ((with_reducible apply Takes.cons); focus (first | (with_reducible (repeat (first | exact Take.here | apply Take.there)); done) | (repeat (first | exact Take.here | apply Take.there))))); (repeat (first | exact Takes.nil | exact Takes.self | refine takes_drop2 ?_))

theorem twin_spec (th va vo lk : Int) (pl : List Int) (ao : Option Addr) (n c : Nat) (A : HProp) (hr : RdS A ao (pl.flatMap encZ)) (hn : pl.length = n) (hb : n ≤ 4000000) : Spec Try.prog 11 [.agg #[.int .i64 th, .int .i64 va, .int .i64 vo, .int .i64 lk, .slice ao n c]] [A] (fun (r : Option Addr × Nat) => .agg #[.int .i64 th, .int .i64 va, .int .i64 vo, .int .i64 lk, .slice r.1 n r.2]) (fun r => True) (fun r => [A, own 1 encZ r.1 r.2 (pl ++ [(-71)])]) := by
  refine spec_mk (n := 17) Try.func11 rfl rfl rfl ?_
  intro Γ w0
  simp only [argE, List.cons_append, List.nil_append, Nat.zero_add, Nat.reduceAdd]
  refine c_seq ?_
  refine c_plain ((.l 0 [] ((.l 1 [] (.done))))) (by kernel_rfl) ?_
  refine l_box rfl rfl rfl rfl (us := [_, _, _, _, _]) rfl ?_
  intro b1
  refine ag_nil ?_
  refine l_alloc rfl rfl rfl Try.zeroValue25 (zs := [.int .i64 0, .int .i64 0, .int .i64 0, .int .i64 0, .slice none 0 0]) rfl ?_
  intro b2
  refine ag_nil ?_
  refine r_done ?_
  refine k_then_n ?_
  refine c_seq ?_
  refine c_plain (.q 0 (.done)) (by kernel_rfl) ?_
  refine q_assign rfl rfl rfl rfl ?_
  refine r_done ?_
  refine k_then_n ?_
  refine c_seq ?_
  refine c_plain (.q 0 (.q 1 (.q 2 ((.l 3 [] ((.l 4 [] ((.l 5 [] (.q 6 (.done))))))))))) (by kernel_rfl) ?_
  refine q_move rfl rfl rfl rfl ?_
  refine q_field (k := 4) rfl rfl rfl rfl Try.underlying25 rfl Try.sizeOf23 rfl ?_
  refine q_load_c (j := 4) rfl rfl rfl rfl Try.isAgg23 (by with_reducible (repeat (first | exact Take.here | apply Take.there))) (by first | rfl | exact (Nat.add_zero _).symm) (by rfl) ?_
  refine s_heap (fun _ h => own_nil (sz := 1) (enc := encZ) h) ?_
  refine l_append (sz := 1) (enc := encZ) (xs := []) rfl rfl rfl rfl rfl Try.underlying23 Try.typeInfo3 rfl rfl rfl (by decide) (by with_reducible (repeat (first | exact Take.here | apply Take.there))) (by with_reducible (repeat (first | exact Take.here | apply Take.there))) (by first | rfl | omega | (simp; done) | (simp; omega)) (ys := pl) (hr) (by rfl) (by first | rfl | omega) (encZ_len) (encZ_one) (by omega) (by show _ * 8 ≤ _; omega) ?_
  intro ao7 cp7
  try simp only [List.nil_append]
  refine ag_nil ?_
  refine l_buildSlice rfl rfl rfl rfl (run_build1 (us := [_]) Try.underlying23 Try.sizeOf3 rfl Try.zeroValue3 rfl rfl rfl) ?_
  intro b8
  refine ag_nil ?_
  refine l_append (sz := 1) (enc := encZ) (xs := (pl)) rfl rfl rfl rfl rfl Try.underlying23 Try.typeInfo3 rfl rfl rfl (by decide) (by with_reducible (repeat (first | exact Take.here | apply Take.there))) (by with_reducible (repeat (first | exact Take.here | apply Take.there))) (by first | rfl | omega | (simp; done) | (simp; omega)) (ys := [(-71)]) (rds_some rdn_cells) (by rfl) (by first | rfl | omega) (encZ_len) (encZ_one) (by omega) (by show _ * 8 ≤ _; omega) ?_
  intro ao9 cp9
  refine ag_nil ?_
  refine q_assign rfl rfl rfl rfl ?_
  refine r_done ?_
  refine s_keep [1, 2, 3] (e' := [(1, _), (2, _), (3, _)]) rfl ?_
  refine k_then_n ?_
  refine c_seq ?_
  refine s_take (A := own 1 encZ ao9 cp9 (pl ++ [(-71)])) (by with_reducible (repeat (first | exact Take.here | apply Take.there))) ?_
  refine own_fc fun hp1 hp2 hp3 => ?_
  simp only [List.length_append, List.length_singleton] at hp1
  refine c_plain (.q 0 (.q 1 (.q 2 (.q 3 (.q 4 (.q 5 ((.l 6 [] (.done))))))))) (by kernel_rfl) ?_
  refine q_move rfl rfl rfl rfl ?_
  refine q_field (k := 4) rfl rfl rfl rfl Try.underlying25 rfl Try.sizeOf23 rfl ?_
  refine q_load_c (j := 4) rfl rfl rfl rfl Try.isAgg23 (by with_reducible (repeat (first | exact Take.here | apply Take.there))) (by first | rfl | exact (Nat.add_zero _).symm) (by rfl) ?_
  refine q_len rfl rfl rfl rfl Try.underlying23 ?_
  refine q_cut_hi (h' := n) rfl rfl rfl rfl rfl Try.underlying23 Try.sizeOf3 (by first | rfl | omega) (by omega) ?_
  refine s_take (A := own 1 encZ ao9 cp9 ((pl) ++ ([(-71)]))) (by with_reducible (repeat (first | exact Take.here | apply Take.there))) ?_
  refine own_fc fun f_1a f_1b f_1c => ?_
  refine q_field (k := 4) rfl rfl rfl rfl Try.underlying25 rfl Try.sizeOf23 rfl ?_
  refine l_store (j := 4) rfl rfl rfl rfl Try.sizeOf23 (us := [_]) rfl rfl rfl (by with_reducible (repeat (first | exact Take.here | apply Take.there))) (by first | rfl | exact (Nat.add_zero _).symm) (by first | decide | (simp; done) | omega) ?_
  simp only [setL, List.set]
  refine ag_nil ?_
  refine r_done ?_
  refine s_keep [1, 2] (e' := [(1, _), (2, _)]) rfl ?_
  refine k_then_n ?_
  refine c_seq ?_
  refine c_plain (.q 0 ((.l 1 [] (.done)))) (by kernel_rfl) ?_
  refine q_loadN_c rfl rfl rfl rfl Try.isAgg25 Try.sizeOf25 (by with_reducible (repeat (first | exact Take.here | apply Take.there))) 0 (us := [_, _, _, _, _]) (by first | rfl | exact (Nat.add_zero _).symm) rfl rfl ?_
  refine l_store (j := 0) rfl rfl rfl rfl Try.sizeOf25 (us := [_, _, _, _, _]) rfl rfl rfl (by with_reducible (repeat (first | exact Take.here | apply Take.there))) (by first | rfl | exact (Nat.add_zero _).symm) (by first | decide | (simp; done) | omega) ?_
  simp only [setL, List.set]
  refine ag_nil ?_
  refine r_done ?_
  refine k_then_n ?_
  refine c_ret ?_
  refine retL (us := [_]) rfl ⟨rv_cellN rfl Try.isAgg25 Try.sizeOf25 (by with_reducible (repeat (first | exact Take.here | apply Take.there))) 0 rfl (us := [_, _, _, _, _]) rfl rfl, trivial⟩ ((ao9, cp9)) (by first | rfl | (first | rfl | (congr 1; done) | (congr 1 <;> first | rfl | omega | (simp; done) | (simp; omega)))) (by trivial) ?_
  (repeat ((with_reducible apply Takes.cons); focus (first | (with_reducible (repeat (first | exact Take.here | apply Take.there)); done) | (repeat (first | exact Take.here | apply Take.there))))); (repeat (first | exact Takes.nil | exact Takes.self | refine takes_drop2 ?_))

theorem left_spec (th va vo lk : Int) (pl : List Int) (ao : Option Addr) (n c : Nat) (A : HProp) (hr : RdS A ao (pl.flatMap encZ)) (hn : pl.length = n) (hb : n ≤ 4000000) (qa : Option Addr) (qc : Nat) : Spec Try.prog 15 [.agg #[.int .i64 th, .int .i64 va, .int .i64 vo, .int .i64 lk, .slice qa n qc], .agg #[.int .i64 th, .int .i64 va, .int .i64 vo, .int .i64 lk, .slice ao n c]] [A, own 1 encZ qa qc (pl ++ [(-71)])] (fun (_ : Unit) => .bool true) (fun _ => True) (fun _ => [A, own 1 encZ qa qc (pl ++ [(-71)])]) := by
  refine spec_mk (n := 72) Try.func15 rfl rfl rfl ?_
  intro Γ w0
  simp only [argE, List.cons_append, List.nil_append, Nat.zero_add, Nat.reduceAdd]
  refine c_seq ?_
  refine c_plain ((.l 0 [] ((.l 1 [] (.q 2 (.done)))))) (by kernel_rfl) ?_
  refine l_box rfl rfl rfl rfl (us := [_, _, _, _, _]) rfl ?_
  intro b2
  refine ag_nil ?_
  refine l_box rfl rfl rfl rfl (us := [_, _, _, _, _]) rfl ?_
  intro b3
  refine ag_nil ?_
  refine q_assign rfl rfl rfl rfl ?_
  refine r_done ?_
  refine k_then_n ?_
  refine c_seq ?_
  refine c_seq ?_
  refine c_plain (.q 0 (.q 1 (.q 2 (.q 3 (.q 4 (.q 5 (.q 6 (.q 7 (.q 8 (.q 9 (.q 10 (.q 11 (.q 12 (.q 13 (.q 14 (.q 15 (.q 16 (.q 17 (.q 18 (.q 19 (.q 20 (.q 21 (.q 22 (.q 23 (.q 24 (.q 25 (.q 26 (.q 27 (.q 28 (.q 29 (.q 30 (.q 31 (.q 32 (.q 33 (.q 34 (.done)))))))))))))))))))))))))))))))))))) (by kernel_rfl) ?_
  refine q_field (k := 0) rfl rfl rfl rfl Try.underlying25 rfl Try.sizeOf3 rfl ?_
  refine q_load_c (j := 0) rfl rfl rfl rfl Try.isAgg3 (by with_reducible (repeat (first | exact Take.here | apply Take.there))) (by first | rfl | exact (Nat.add_zero _).symm) (by rfl) ?_
  refine q_field (k := 0) rfl rfl rfl rfl Try.underlying25 rfl Try.sizeOf3 rfl ?_
  refine q_load_c (j := 0) rfl rfl rfl rfl Try.isAgg3 (by with_reducible (repeat (first | exact Take.here | apply Take.there))) (by first | rfl | exact (Nat.add_zero _).symm) (by rfl) ?_
  refine q_int rfl rfl rfl rfl rfl (b_neq _ _ _ _) ?_
  refine q_move rfl rfl rfl rfl ?_
  refine s_bool_p 11 rfl (fun hg => by exfalso; exact hg rfl) (fun hg => ?_)
  refine q_field (k := 1) rfl rfl rfl rfl Try.underlying25 rfl Try.sizeOf3 rfl ?_
  refine q_load_c (j := 1) rfl rfl rfl rfl Try.isAgg3 (by with_reducible (repeat (first | exact Take.here | apply Take.there))) (by first | rfl | exact (Nat.add_zero _).symm) (by rfl) ?_
  refine q_field (k := 1) rfl rfl rfl rfl Try.underlying25 rfl Try.sizeOf3 rfl ?_
  refine q_load_c (j := 1) rfl rfl rfl rfl Try.isAgg3 (by with_reducible (repeat (first | exact Take.here | apply Take.there))) (by first | rfl | exact (Nat.add_zero _).symm) (by rfl) ?_
  refine q_int rfl rfl rfl rfl rfl (b_neq _ _ _ _) ?_
  refine q_pick_f rfl rfl rfl rfl rfl ?_
  refine q_move rfl rfl rfl rfl ?_
  refine s_bool_p 18 rfl (fun hg => by exfalso; exact hg rfl) (fun hg => ?_)
  refine q_field (k := 2) rfl rfl rfl rfl Try.underlying25 rfl Try.sizeOf3 rfl ?_
  refine q_load_c (j := 2) rfl rfl rfl rfl Try.isAgg3 (by with_reducible (repeat (first | exact Take.here | apply Take.there))) (by first | rfl | exact (Nat.add_zero _).symm) (by rfl) ?_
  refine q_field (k := 2) rfl rfl rfl rfl Try.underlying25 rfl Try.sizeOf3 rfl ?_
  refine q_load_c (j := 2) rfl rfl rfl rfl Try.isAgg3 (by with_reducible (repeat (first | exact Take.here | apply Take.there))) (by first | rfl | exact (Nat.add_zero _).symm) (by rfl) ?_
  refine q_int rfl rfl rfl rfl rfl (b_neq _ _ _ _) ?_
  refine q_pick_f rfl rfl rfl rfl rfl ?_
  refine q_move rfl rfl rfl rfl ?_
  refine s_bool_p 25 rfl (fun hg => by exfalso; exact hg rfl) (fun hg => ?_)
  refine q_field (k := 3) rfl rfl rfl rfl Try.underlying25 rfl Try.sizeOf3 rfl ?_
  refine q_load_c (j := 3) rfl rfl rfl rfl Try.isAgg3 (by with_reducible (repeat (first | exact Take.here | apply Take.there))) (by first | rfl | exact (Nat.add_zero _).symm) (by rfl) ?_
  refine q_field (k := 3) rfl rfl rfl rfl Try.underlying25 rfl Try.sizeOf3 rfl ?_
  refine q_load_c (j := 3) rfl rfl rfl rfl Try.isAgg3 (by with_reducible (repeat (first | exact Take.here | apply Take.there))) (by first | rfl | exact (Nat.add_zero _).symm) (by rfl) ?_
  refine q_int rfl rfl rfl rfl rfl (b_neq _ _ _ _) ?_
  refine q_pick_f rfl rfl rfl rfl rfl ?_
  refine q_move rfl rfl rfl rfl ?_
  refine s_bool_p 32 rfl (fun hg => by exfalso; exact hg rfl) (fun hg => ?_)
  refine q_field (k := 4) rfl rfl rfl rfl Try.underlying25 rfl Try.sizeOf23 rfl ?_
  refine q_load_c (j := 4) rfl rfl rfl rfl Try.isAgg23 (by with_reducible (repeat (first | exact Take.here | apply Take.there))) (by first | rfl | exact (Nat.add_zero _).symm) (by rfl) ?_
  refine q_len rfl rfl rfl rfl Try.underlying23 ?_
  refine q_field (k := 4) rfl rfl rfl rfl Try.underlying25 rfl Try.sizeOf23 rfl ?_
  refine q_load_c (j := 4) rfl rfl rfl rfl Try.isAgg23 (by with_reducible (repeat (first | exact Take.here | apply Take.there))) (by first | rfl | exact (Nat.add_zero _).symm) (by rfl) ?_
  refine q_len rfl rfl rfl rfl Try.underlying23 ?_
  refine q_int rfl rfl rfl rfl rfl (b_neq _ _ _ _) ?_
  refine q_pick_f rfl rfl rfl rfl rfl ?_
  refine r_done ?_
  refine s_keep [2, 3, 40] (e' := [(2, _), (3, _), (40, _)]) rfl ?_
  refine k_then_n ?_
  refine c_cond_p rfl (fun hg => by exfalso; exact hg rfl) (fun hg => ?_)
  refine c_skip ?_
  refine k_then_n ?_
  refine c_seq ?_
  refine c_seq ?_
  refine c_plain (.q 0 (.done)) (by kernel_rfl) ?_
  refine q_assign rfl rfl rfl rfl ?_
  refine r_done ?_
  refine k_then_n ?_
  refine c_block ?_
  refine c_loop2 (α := Nat) (fun (i : Nat) => i ≤ n) (fun (i : Nat) => [(5, .int .i64 ((i : Nat) : Int))]) (fun (i : Nat) => []) (fun (i : Nat) => n - i) [2, 3] (er := [(2, _), (3, _)]) rfl (0) ?_ (by exact ⟨rfl, trivial⟩) (by (try dsimp only); (try simp only [Nat.add_zero, Nat.zero_add]); (repeat ((with_reducible apply Takes.cons); focus (first | (with_reducible (repeat (first | exact Take.here | apply Take.there)); done) | (repeat (first | exact Take.here | apply Take.there))))); exact Takes.nil) ?_
  · exact Nat.zero_le _
  rintro i hle_i
  try simp only [List.cons_append, List.nil_append]
  refine c_seq ?_
  refine c_seq ?_
  refine c_plain (.q 0 (.q 1 (.q 2 (.q 3 (.q 4 (.done)))))) (by kernel_rfl) ?_
  refine q_move rfl rfl rfl rfl ?_
  refine q_field (k := 4) rfl rfl rfl rfl Try.underlying25 rfl Try.sizeOf23 rfl ?_
  refine q_load_c (j := 4) rfl rfl rfl rfl Try.isAgg23 (by with_reducible (repeat (first | exact Take.here | apply Take.there))) (by first | rfl | exact (Nat.add_zero _).symm) (by rfl) ?_
  refine q_len rfl rfl rfl rfl Try.underlying23 ?_
  refine q_int rfl rfl rfl rfl rfl (b_lss _ _ _ _) ?_
  refine r_done ?_
  refine s_keep [2, 3, 5, 45] (e' := [(2, _), (3, _), (5, _), (45, _)]) rfl ?_
  refine k_then_n ?_
  refine c_cond_p rfl (fun hlt => ?_) (fun hlt => ?_)
  · skip
    refine c_skip ?_
    refine k_then_n ?_
    refine c_seq ?_
    refine c_block ?_
    refine c_seq ?_
    obtain ⟨p, hp⟩ := get_lt (l := pl) (i := i) (by omega)
    have hp2 : (pl ++ [(-71)])[i]? = some p := by rw [List.getElem?_append_left (by omega)]; exact hp
    refine c_draw rfl (.q 0 (.q 1 (.q 2 (.q 3 (.q 4 (.q 5 (.q 6 (.q 7 (.q 8 (.q 9 (.q 10 (.done)))))))))))) (by kernel_rfl) ?_
    refine q_field (k := 4) rfl rfl rfl rfl Try.underlying25 rfl Try.sizeOf23 rfl ?_
    refine q_load_c (j := 4) rfl rfl rfl rfl Try.isAgg23 (by with_reducible (repeat (first | exact Take.here | apply Take.there))) (by first | rfl | exact (Nat.add_zero _).symm) (by rfl) ?_
    refine q_move rfl rfl rfl rfl ?_
    refine q_idxO (sz := 0) (k := i) (enc := encZ) (xs := (pl ++ [(-71)])) rfl rfl rfl rfl rfl Try.underlying23 Try.sizeOf3 hp2 (by first | rfl | omega) (by omega) (by with_reducible (repeat (first | exact Take.here | apply Take.there))) ?_
    intro ib51 io51 ha51 hl51 hc51
    refine q_load_O (v := (.int .i64 p)) (j := 0) (k' := i) (enc := encZ) (off := io51) rfl rfl rfl rfl Try.isAgg3 ha51 encZ_len hp2 (by with_reducible (repeat (first | exact Take.here | apply Take.there))) (by first | rfl | exact (Nat.add_zero _).symm | omega) (by rfl) ?_
    refine q_field (k := 4) rfl rfl rfl rfl Try.underlying25 rfl Try.sizeOf23 rfl ?_
    refine q_load_c (j := 4) rfl rfl rfl rfl Try.isAgg23 (by with_reducible (repeat (first | exact Take.here | apply Take.there))) (by first | rfl | exact (Nat.add_zero _).symm) (by rfl) ?_
    refine q_move rfl rfl rfl rfl ?_
    refine q_idxR (sz := 0) (k := i) rfl rfl rfl rfl rfl Try.underlying23 Try.sizeOf3 (hr) hp encZ_len (by first | rfl | omega) (by omega) ?_
    intro ib56 io56 _ hd56
    refine q_load rfl rfl rfl rfl Try.isAgg3 (by with_reducible (repeat (first | exact Take.here | apply Take.there))) (hd56 0 (.int .i64 p) rfl) ?_
    refine q_int rfl rfl rfl rfl rfl (b_neq _ _ _ _) ?_
    refine r_done ?_
    refine s_keep [2, 3, 5, 58] (e' := [(2, _), (3, _), (5, _), (58, _)]) rfl ?_
    refine k_then_n ?_
    refine c_cond_p rfl (fun hg => by exfalso; exact hg rfl) (fun hg => ?_)
    refine c_skip ?_
    refine k_blk_n ?_
    refine k_then_n ?_
    refine c_plain (.q 0 (.q 1 (.q 2 (.done)))) (by kernel_rfl) ?_
    refine q_move rfl rfl rfl rfl ?_
    refine q_int rfl rfl rfl rfl rfl (b_add' _ (by (first | exact fits_i64 (by omega) (by omega) | exact fits_u64 (by omega) (by omega) | exact fits_u32 (by omega) (by omega) | exact fits_u8 (by omega) (by omega)))) ?_
    refine q_assign rfl rfl rfl rfl ?_
    refine r_done ?_
    refine k_then_n ?_
    refine loop_next (x := i) (i + 1) ?_ ?_ ?_ ?_
    · exact by show i + 1 ≤ n; omega
    · show n - (i + 1) < n - i; omega
    · exact ⟨rfl, rfl, rfl, trivial⟩
    · (try simp only [List.cons_append, List.nil_append]); (repeat ((with_reducible apply Takes.cons); focus (first | (with_reducible (repeat (first | exact Take.here | apply Take.there)); done) | (repeat (first | exact Take.here | apply Take.there))))); (repeat (first | exact Takes.nil | exact Takes.self | refine takes_drop2 ?_))
  · skip
    refine c_exit ?_
    refine k_then_exit ?_
    refine k_then_exit ?_
    refine k_blk_here ?_
    refine k_then_n ?_
    refine c_seq ?_
    refine s_take (A := own 1 encZ qa qc (pl ++ [(-71)])) (by with_reducible (repeat (first | exact Take.here | apply Take.there))) ?_
    refine own_fc fun q1 q2 q3 => ?_
    simp only [List.length_append, List.length_singleton] at q1
    have hm71 : (pl ++ [(-71)])[n]? = some (-71) := by rw [← hn]; exact app_at _ _
    refine c_draw rfl (.q 0 (.q 1 (.q 2 (.q 3 (.q 4 (.q 5 (.q 6 (.q 7 (.q 8 (.q 9 (.q 10 (.q 11 (.q 12 (.q 13 (.done))))))))))))))) (by kernel_rfl) ?_
    refine q_field (k := 4) rfl rfl rfl rfl Try.underlying25 rfl Try.sizeOf23 rfl ?_
    refine q_load_c (j := 4) rfl rfl rfl rfl Try.isAgg23 (by with_reducible (repeat (first | exact Take.here | apply Take.there))) (by first | rfl | exact (Nat.add_zero _).symm) (by rfl) ?_
    refine q_field (k := 4) rfl rfl rfl rfl Try.underlying25 rfl Try.sizeOf23 rfl ?_
    refine q_load_c (j := 4) rfl rfl rfl rfl Try.isAgg23 (by with_reducible (repeat (first | exact Take.here | apply Take.there))) (by first | rfl | exact (Nat.add_zero _).symm) (by rfl) ?_
    refine q_len rfl rfl rfl rfl Try.underlying23 ?_
    refine q_int rfl rfl rfl rfl rfl (b_add' _ (by (first | exact fits_i64 (by omega) (by omega) | exact fits_u64 (by omega) (by omega) | exact fits_u32 (by omega) (by omega) | exact fits_u8 (by omega) (by omega)))) ?_
    refine q_cut_hi (h' := n + 1) rfl rfl rfl rfl rfl Try.underlying23 Try.sizeOf3 (by first | rfl | omega) (by omega) ?_
    refine s_take (A := own 1 encZ qa qc (pl ++ [(-71)])) (by with_reducible (repeat (first | exact Take.here | apply Take.there))) ?_
    refine own_fc fun f_1a f_1b f_1c => ?_
    refine q_field (k := 4) rfl rfl rfl rfl Try.underlying25 rfl Try.sizeOf23 rfl ?_
    refine q_load_c (j := 4) rfl rfl rfl rfl Try.isAgg23 (by with_reducible (repeat (first | exact Take.here | apply Take.there))) (by first | rfl | exact (Nat.add_zero _).symm) (by rfl) ?_
    refine q_len rfl rfl rfl rfl Try.underlying23 ?_
    refine q_idxO (sz := 0) (k := n) (enc := encZ) (xs := (pl ++ [(-71)])) rfl rfl rfl rfl rfl Try.underlying23 Try.sizeOf3 hm71 (by first | rfl | omega) (by omega) (by with_reducible (repeat (first | exact Take.here | apply Take.there))) ?_
    intro ib69 io69 ha69 hl69 hc69
    refine q_load_O (v := (.int .i64 (-71))) (j := 0) (k' := n) (enc := encZ) (off := io69) rfl rfl rfl rfl Try.isAgg3 ha69 encZ_len hm71 (by with_reducible (repeat (first | exact Take.here | apply Take.there))) (by first | rfl | exact (Nat.add_zero _).symm | omega) (by rfl) ?_
    refine q_int rfl rfl rfl rfl rfl (b_eql _ _ _ _) ?_
    refine s_eq 71 rfl (v' := .bool true) (by first | rfl | simp) ?_
    refine q_assign rfl rfl rfl rfl ?_
    refine r_done ?_
    refine s_keep [4] (e' := [(4, _)]) rfl ?_
    refine k_then_n ?_
    refine c_ret ?_
    refine ret1 rfl rfl (()) (by first | rfl | (first | rfl | (congr 1; done) | (congr 1 <;> first | rfl | omega | (simp; done) | (simp; omega)))) (by trivial) ?_
    (repeat ((with_reducible apply Takes.cons); focus (first | (with_reducible (repeat (first | exact Take.here | apply Take.there)); done) | (repeat (first | exact Take.here | apply Take.there))))); (repeat (first | exact Takes.nil | exact Takes.self | refine takes_drop2 ?_))

theorem leastlaw_spec (th va vo lk : Int) (pl : List Int) (ao : Option Addr) (n c : Nat) (A : HProp) (hr : RdS A ao (pl.flatMap encZ)) (hn : pl.length = n) (hb : n ≤ 4000000) (es : List T3) (eo : Option Addr) (m ec : Nat) (he : RdS A eo (es.flatMap enc3)) (hm : es.length = m) (hmb : m ≤ 4000000) : Spec Try.prog 4 [.agg #[.int .i64 th, .int .i64 va, .int .i64 vo, .int .i64 lk, .slice ao n c], .slice eo m ec] [A] (fun (_ : Unit) => .bool true) (fun _ => True) (fun _ => [A]) := by
  refine spec_mk (n := 129) Try.func4 rfl rfl rfl ?_
  intro Γ w0
  simp only [argE, List.cons_append, List.nil_append, Nat.zero_add, Nat.reduceAdd]
  refine c_seq ?_
  refine c_plain ((.l 0 [] (.q 1 (.done)))) (by kernel_rfl) ?_
  refine l_box rfl rfl rfl rfl (us := [_, _, _, _, _]) rfl ?_
  intro b2
  refine ag_nil ?_
  refine q_assign rfl rfl rfl rfl ?_
  refine r_done ?_
  refine k_then_n ?_
  refine c_seq ?_
  refine c_plain (.q 0 (.q 1 ((.l 2 [] (.q 3 (.q 4 (.q 5 (.q 6 (.q 7 (.done)))))))))) (by kernel_rfl) ?_
  refine q_loadN_c rfl rfl rfl rfl Try.isAgg25 Try.sizeOf25 (by with_reducible (repeat (first | exact Take.here | apply Take.there))) 0 (us := [_, _, _, _, _]) (by first | rfl | exact (Nat.add_zero _).symm) rfl rfl ?_
  refine q_move rfl rfl rfl rfl ?_
  have sp_1 := rleast_spec th va vo lk pl ao n c A (hr) (by first | rfl | assumption | omega | (simp; done) | (simp; omega)) (by omega) es eo m ec (he) (by first | rfl | assumption | omega | (simp; done) | (simp; omega)) (by omega)
  refine l_call rfl rfl rfl rfl rfl rfl Try.call10 (sp_1) (by (repeat ((with_reducible apply Takes.cons); focus (first | (with_reducible (repeat (first | exact Take.here | apply Take.there)); done) | (repeat (first | exact Take.here | apply Take.there))))); exact Takes.nil) ?_
  rintro ⟨⟩ -
  try simp only [List.cons_append, List.nil_append]
  refine ag_nil ?_
  refine q_move rfl rfl rfl rfl ?_
  refine q_extract rfl rfl rfl rfl rfl ?_
  refine q_extract rfl rfl rfl rfl rfl ?_
  refine q_assign rfl rfl rfl rfl ?_
  refine q_assign rfl rfl rfl rfl ?_
  refine r_done ?_
  refine s_keep [1, 2, 5, 6] (e' := [(1, _), (2, _), (5, _), (6, _)]) rfl ?_
  refine k_then_n ?_
  refine c_seq ?_
  refine c_plain (.q 0 ((.l 1 [] ((.l 2 [] ((.l 3 [] (.done)))))))) (by kernel_rfl) ?_
  refine q_loadN_c rfl rfl rfl rfl Try.isAgg25 Try.sizeOf25 (by with_reducible (repeat (first | exact Take.here | apply Take.there))) 0 (us := [_, _, _, _, _]) (by first | rfl | exact (Nat.add_zero _).symm) rfl rfl ?_
  have sp_2 := twin_spec th va vo lk pl ao n c A (hr) (by first | rfl | assumption | omega | (simp; done) | (simp; omega)) (by omega)
  refine l_call rfl rfl rfl rfl rfl rfl Try.call11 (sp_2) (by (repeat ((with_reducible apply Takes.cons); focus (first | (with_reducible (repeat (first | exact Take.here | apply Take.there)); done) | (repeat (first | exact Take.here | apply Take.there))))); exact Takes.nil) ?_
  rintro ⟨qa, qc⟩ -
  try simp only [List.cons_append, List.nil_append]
  refine s_take (A := own 1 encZ qa qc (pl ++ [(-71)])) (by with_reducible (repeat (first | exact Take.here | apply Take.there))) ?_
  refine own_fc fun q1 q2 q3 => ?_
  simp only [List.length_append, List.length_singleton] at q1
  try simp only [List.cons_append, List.nil_append]
  refine ag_nil ?_
  refine l_alloc rfl rfl rfl Try.zeroValue25 (zs := [.int .i64 0, .int .i64 0, .int .i64 0, .int .i64 0, .slice none 0 0]) rfl ?_
  intro b7
  refine ag_nil ?_
  refine l_store (j := 0) rfl rfl rfl rfl Try.sizeOf25 (us := [_, _, _, _, _]) rfl rfl rfl (by with_reducible (repeat (first | exact Take.here | apply Take.there))) (by first | rfl | exact (Nat.add_zero _).symm) (by first | decide | (simp; done) | omega) ?_
  simp only [setL, List.set]
  refine ag_nil ?_
  refine r_done ?_
  refine k_then_n ?_
  refine c_seq ?_
  refine c_plain (.q 0 ((.l 1 [] (.q 2 ((.l 3 [] ((.l 4 [] (.q 5 (.done)))))))))) (by kernel_rfl) ?_
  refine q_move rfl rfl rfl rfl ?_
  refine s_heap (fun _ h => own_nil (sz := 3) (enc := enc3) h) ?_
  refine l_append (sz := 3) (enc := enc3) (xs := []) rfl rfl rfl rfl rfl Try.underlying26 Try.typeInfo32 rfl rfl rfl (by decide) (by with_reducible (repeat (first | exact Take.here | apply Take.there))) (by with_reducible (repeat (first | exact Take.here | apply Take.there))) (by first | rfl | omega | (simp; done) | (simp; omega)) (ys := es) (he) (by rfl) (by first | rfl | omega) (enc3_len) (enc3_one) (by omega) (by show _ * 24 ≤ _; omega) ?_
  intro ao23 cp23
  try simp only [List.nil_append]
  refine ag_nil ?_
  refine q_build rfl rfl rfl rfl (vs := [_, _, _]) (run_buildS Try.underlying32 Try.zeroValue32 (ps := [(0, 1), (1, 1), (2, 1)]) ⟨rfl, Try.sizeOf30, rfl, Try.sizeOf3, rfl, Try.sizeOf3, trivial⟩ rfl) ?_
  refine l_buildSlice rfl rfl rfl rfl (run_build1 (us := [_, _, _]) Try.underlying26 Try.sizeOf32 rfl Try.zeroValue32 rfl rfl rfl) ?_
  intro b25
  refine ag_nil ?_
  refine l_append (sz := 3) (enc := enc3) (xs := (es)) rfl rfl rfl rfl rfl Try.underlying26 Try.typeInfo32 rfl rfl rfl (by decide) (by with_reducible (repeat (first | exact Take.here | apply Take.there))) (by with_reducible (repeat (first | exact Take.here | apply Take.there))) (by first | rfl | omega | (simp; done) | (simp; omega)) (ys := [((-7), 0, 0)]) (rds_some rdn_cells) (by rfl) (by first | rfl | omega) (enc3_len) (enc3_one) (by omega) (by show _ * 24 ≤ _; omega) ?_
  intro ao26 cp26
  refine ag_nil ?_
  refine q_assign rfl rfl rfl rfl ?_
  refine r_done ?_
  refine s_keep [1, 2, 5, 6, 7, 8] (e' := [(1, _), (2, _), (5, _), (6, _), (7, _), (8, _)]) rfl ?_
  refine k_then_n ?_
  refine c_seq ?_
  refine s_take (A := own 3 enc3 ao26 cp26 (es ++ [((-7), 0, 0)])) (by with_reducible (repeat (first | exact Take.here | apply Take.there))) ?_
  refine own_fc fun f1 f2 f3 => ?_
  simp only [List.length_append, List.length_singleton] at f1
  refine c_draw rfl (.q 0 (.q 1 (.q 2 (.q 3 (.q 4 ((.l 5 [] (.q 6 (.q 7 (.q 8 (.q 9 (.q 10 (.done))))))))))))) (by kernel_rfl) ?_
  refine q_loadN_c rfl rfl rfl rfl Try.isAgg25 Try.sizeOf25 (by with_reducible (repeat (first | exact Take.here | apply Take.there))) 0 (us := [_, _, _, _, _]) (by first | rfl | exact (Nat.add_zero _).symm) rfl rfl ?_
  refine q_move rfl rfl rfl rfl ?_
  refine q_move rfl rfl rfl rfl ?_
  refine q_len rfl rfl rfl rfl Try.underlying26 ?_
  refine q_cut_hi (h' := m) rfl rfl rfl rfl rfl Try.underlying26 Try.sizeOf32 (by first | rfl | omega) (by omega) ?_
  refine s_take (A := own 3 enc3 ao26 cp26 ((es) ++ ([((-7), 0, 0)]))) (by with_reducible (repeat (first | exact Take.here | apply Take.there))) ?_
  refine own_fc fun f_3a f_3b f_3c => ?_
  refine s_heap (fun _ h => Bun.fold ((by (repeat ((with_reducible apply Takes.cons); focus (first | (with_reducible (repeat (first | exact Take.here | apply Take.there)); done) | (repeat (first | exact Take.here | apply Take.there))))); exact Takes.nil : Takes _ [own 1 encZ qa qc (pl ++ [(-71)]), own 3 enc3 ao26 cp26 (es ++ [((-7), 0, 0)])] _) _ h)) ?_
  have sp_4 := least_spec th va vo lk pl qa n qc (Bun [own 1 encZ qa qc (pl ++ [(-71)]), own 3 enc3 ao26 cp26 (es ++ [((-7), 0, 0)])]) (rds_bun (List.mem_cons_self) ((own_front encZ_len q2 q3))) (by first | rfl | assumption | omega | (simp; done) | (simp; omega)) (by omega) es ao26 m cp26 (rds_bun (List.mem_cons_of_mem _ (List.mem_cons_self)) ((own_front enc3_len f2 f3))) (by first | rfl | assumption | omega | (simp; done) | (simp; omega)) (by omega)
  refine l_call rfl rfl rfl rfl rfl rfl Try.call12 (sp_4) (by (repeat ((with_reducible apply Takes.cons); focus (first | (with_reducible (repeat (first | exact Take.here | apply Take.there)); done) | (repeat (first | exact Take.here | apply Take.there))))); exact Takes.nil) ?_
  rintro ⟨⟩ -
  try simp only [List.cons_append, List.nil_append]
  refine s_take (A := Bun [own 1 encZ qa qc (pl ++ [(-71)]), own 3 enc3 ao26 cp26 (es ++ [((-7), 0, 0)])]) (by with_reducible (repeat (first | exact Take.here | apply Take.there))) ?_
  refine s_bun ?_
  try simp only [List.cons_append, List.nil_append]
  try simp only [List.cons_append, List.nil_append]
  refine ag_nil ?_
  refine q_move rfl rfl rfl rfl ?_
  refine q_extract rfl rfl rfl rfl rfl ?_
  refine q_extract rfl rfl rfl rfl rfl ?_
  refine q_assign rfl rfl rfl rfl ?_
  refine q_assign rfl rfl rfl rfl ?_
  refine r_done ?_
  refine s_keep [1, 2, 5, 6, 7, 8, 9, 10] (e' := [(1, _), (2, _), (5, _), (6, _), (7, _), (8, _), (9, _), (10, _)]) rfl ?_
  refine k_then_n ?_
  refine c_seq ?_
  refine c_seq ?_
  have hm7 : (es ++ [((-7), 0, 0)])[m]? = some ((-7), 0, 0) := by rw [← hm]; exact app_at _ _
  refine c_draw rfl (.q 0 (.q 1 (.q 2 (.q 3 (.q 4 (.q 5 (.q 6 (.q 7 (.q 8 (.q 9 (.q 11 ((.l 10 [11] ((.l 12 [] (.q 13 (.q 14 (.q 15 (.q 16 (.q 17 ((.l 18 [] (.q 19 (.q 20 (.q 21 (.q 22 (.q 23 (.q 24 (.q 25 (.q 26 (.q 27 (.q 28 (.q 29 (.done)))))))))))))))))))))))))))))))))) (by kernel_rfl) ?_
  refine q_move rfl rfl rfl rfl ?_
  refine q_move rfl rfl rfl rfl ?_
  refine q_int rfl rfl rfl rfl rfl (b_neq _ _ _ _) ?_
  refine q_move rfl rfl rfl rfl ?_
  refine s_bool_p 39 rfl (fun hg => by exfalso; first | exact hg rfl | exact hg trivial | simp at hg) (fun hg => ?_)
  refine q_move rfl rfl rfl rfl ?_
  refine q_move rfl rfl rfl rfl ?_
  refine q_int rfl rfl rfl rfl rfl (b_neq _ _ _ _) ?_
  refine q_pick_f rfl rfl rfl rfl rfl ?_
  refine q_move rfl rfl rfl rfl ?_
  refine s_bool_p 44 rfl (fun hg => by exfalso; first | exact hg rfl | exact hg trivial | simp at hg) (fun hg => ?_)
  refine q_loadN_c rfl rfl rfl rfl Try.isAgg25 Try.sizeOf25 (by with_reducible (repeat (first | exact Take.here | apply Take.there))) 0 (us := [_, _, _, _, _]) (by first | rfl | exact (Nat.add_zero _).symm) rfl rfl ?_
  refine q_loadN_c rfl rfl rfl rfl Try.isAgg25 Try.sizeOf25 (by with_reducible (repeat (first | exact Take.here | apply Take.there))) 0 (us := [_, _, _, _, _]) (by first | rfl | exact (Nat.add_zero _).symm) rfl rfl ?_
  have sp_5 := shape_spec th va vo lk pl qa n qc (own 1 encZ qa qc (pl ++ [(-71)])) ((own_front encZ_len q2 q3)) (by first | rfl | assumption | omega | (simp; done) | (simp; omega)) (by omega)
  refine l_call rfl rfl rfl rfl rfl rfl Try.call13 (sp_5) (by (repeat ((with_reducible apply Takes.cons); focus (first | (with_reducible (repeat (first | exact Take.here | apply Take.there)); done) | (repeat (first | exact Take.here | apply Take.there))))); exact Takes.nil) ?_
  rintro ⟨⟩ -
  try simp only [List.cons_append, List.nil_append]
  refine ag_loadN_c rfl rfl (us := [_, _, _, _, _]) rfl Try.isAgg25 Try.sizeOf25 (by with_reducible (repeat (first | exact Take.here | apply Take.there))) 0 (by first | rfl | exact (Nat.add_zero _).symm) rfl rfl ?_
  refine ag_nil ?_
  have sp_6 := rshape_spec th va vo lk pl ao n c A (hr) (by first | rfl | assumption | omega | (simp; done) | (simp; omega)) (by omega)
  refine l_call rfl rfl rfl rfl rfl rfl Try.call14 (sp_6) (by (repeat ((with_reducible apply Takes.cons); focus (first | (with_reducible (repeat (first | exact Take.here | apply Take.there)); done) | (repeat (first | exact Take.here | apply Take.there))))); exact Takes.nil) ?_
  rintro ⟨⟩ -
  try simp only [List.cons_append, List.nil_append]
  refine ag_nil ?_
  refine q_int rfl rfl rfl rfl rfl (b_neq _ _ _ _) ?_
  refine q_pick_f rfl rfl rfl rfl rfl ?_
  refine q_move rfl rfl rfl rfl ?_
  refine s_bool_p 51 rfl (fun hg => by exfalso; first | exact hg rfl | exact hg trivial | simp at hg) (fun hg => ?_)
  refine q_loadN_c rfl rfl rfl rfl Try.isAgg25 Try.sizeOf25 (by with_reducible (repeat (first | exact Take.here | apply Take.there))) 0 (us := [_, _, _, _, _]) (by first | rfl | exact (Nat.add_zero _).symm) rfl rfl ?_
  refine q_loadN_c rfl rfl rfl rfl Try.isAgg25 Try.sizeOf25 (by with_reducible (repeat (first | exact Take.here | apply Take.there))) 0 (us := [_, _, _, _, _]) (by first | rfl | exact (Nat.add_zero _).symm) rfl rfl ?_
  have sp_7 := left_spec th va vo lk pl ao n c A hr hn hb qa qc
  refine l_call rfl rfl rfl rfl rfl rfl Try.call15 (sp_7) (by (repeat ((with_reducible apply Takes.cons); focus (first | (with_reducible (repeat (first | exact Take.here | apply Take.there)); done) | (repeat (first | exact Take.here | apply Take.there))))); exact Takes.nil) ?_
  rintro ⟨⟩ -
  try simp only [List.cons_append, List.nil_append]
  refine ag_nil ?_
  refine q_not rfl rfl rfl rfl ?_
  refine s_eq 55 rfl (v' := .bool false) rfl ?_
  refine q_pick_f rfl rfl rfl rfl rfl ?_
  refine q_move rfl rfl rfl rfl ?_
  refine q_move rfl rfl rfl rfl ?_
  refine q_move rfl rfl rfl rfl ?_
  refine q_len rfl rfl rfl rfl Try.underlying26 ?_
  refine q_idxO (sz := 2) (k := m) (enc := enc3) (xs := ((es) ++ ([((-7), 0, 0)]))) rfl rfl rfl rfl rfl Try.underlying26 Try.sizeOf32 hm7 (by first | rfl | omega) (by omega) (by with_reducible (repeat (first | exact Take.here | apply Take.there))) ?_
  intro ib61 io61 ha61 hl61 hc61
  refine q_field (k := 0) rfl rfl rfl rfl Try.underlying32 rfl Try.sizeOf30 rfl ?_
  refine q_load_O (v := (.int .i64 (-7))) (j := 0) (k' := m) (enc := enc3) (off := io61) rfl rfl rfl rfl Try.isAgg30 ha61 enc3_len hm7 (by with_reducible (repeat (first | exact Take.here | apply Take.there))) (by first | rfl | exact (Nat.add_zero _).symm | omega) (by rfl) ?_
  refine q_int rfl rfl rfl rfl rfl (b_neq _ _ _ _) ?_
  refine s_eq 64 rfl (v' := .bool false) (by first | rfl | simp) ?_
  refine q_pick_f rfl rfl rfl rfl rfl ?_
  refine r_done ?_
  refine s_keep [1, 2, 7, 8, 65] (e' := [(1, _), (2, _), (7, _), (8, _), (65, _)]) rfl ?_
  refine k_then_n ?_
  refine c_cond_f rfl ?_
  refine c_skip ?_
  refine k_then_n ?_
  refine c_seq ?_
  refine c_seq ?_
  refine c_plain (.q 0 (.done)) (by kernel_rfl) ?_
  refine q_assign rfl rfl rfl rfl ?_
  refine r_done ?_
  refine k_then_n ?_
  refine c_block ?_
  refine c_loop2 (α := Nat) (fun (i : Nat) => i ≤ m) (fun (i : Nat) => [(11, .int .i64 ((i : Nat) : Int))]) (fun (i : Nat) => []) (fun (i : Nat) => m - i) [1, 2, 7, 8] (er := [(1, _), (2, _), (7, _), (8, _)]) rfl (0) ?_ (by exact ⟨rfl, trivial⟩) (by (try dsimp only); (try simp only [Nat.add_zero, Nat.zero_add]); (repeat ((with_reducible apply Takes.cons); focus (first | (with_reducible (repeat (first | exact Take.here | apply Take.there)); done) | (repeat (first | exact Take.here | apply Take.there))))); exact Takes.nil) ?_
  · exact Nat.zero_le _
  rintro i hle_i
  try simp only [List.cons_append, List.nil_append]
  refine c_seq ?_
  refine c_seq ?_
  refine c_plain (.q 0 (.q 1 (.q 2 (.q 3 (.done))))) (by kernel_rfl) ?_
  refine q_move rfl rfl rfl rfl ?_
  refine q_move rfl rfl rfl rfl ?_
  refine q_len rfl rfl rfl rfl Try.underlying26 ?_
  refine q_int rfl rfl rfl rfl rfl (b_lss _ _ _ _) ?_
  refine r_done ?_
  refine k_then_n ?_
  refine c_cond_p rfl (fun hlt => ?_) (fun hlt => ?_)
  · skip
    refine c_skip ?_
    refine k_then_n ?_
    refine c_seq ?_
    refine c_block ?_
    refine c_seq ?_
    obtain ⟨ev, hev⟩ := get_lt (l := es) (i := i) (by omega)
    have hev2 : (es ++ [((-7), 0, 0)])[i]? = some ev := by rw [List.getElem?_append_left (by omega)]; exact hev
    refine c_draw rfl (.q 0 (.q 1 (.q 2 (.q 3 (.q 4 (.q 5 (.q 6 (.q 7 (.q 8 (.done)))))))))) (by kernel_rfl) ?_
    refine q_move rfl rfl rfl rfl ?_
    refine q_move rfl rfl rfl rfl ?_
    refine q_idxO (sz := 2) (k := i) (enc := enc3) (xs := ((es) ++ ([((-7), 0, 0)]))) rfl rfl rfl rfl rfl Try.underlying26 Try.sizeOf32 hev2 (by first | rfl | omega) (by omega) (by with_reducible (repeat (first | exact Take.here | apply Take.there))) ?_
    intro ib74 io74 ha74 hl74 hc74
    refine q_loadN_O (j := 0) (k' := i) (us := [_, _, _]) (enc := enc3) (off := io74) rfl rfl rfl rfl Try.isAgg32 Try.sizeOf32 ha74 enc3_len hev2 (by with_reducible (repeat (first | exact Take.here | apply Take.there))) (by first | rfl | exact (Nat.add_zero _).symm | omega) (by rfl) rfl ?_
    refine q_move rfl rfl rfl rfl ?_
    refine q_move rfl rfl rfl rfl ?_
    refine q_idxR (sz := 2) (k := i) rfl rfl rfl rfl rfl Try.underlying26 Try.sizeOf32 (he) hev enc3_len (by first | rfl | omega) (by omega) ?_
    intro ib78 io78 _ hd78
    refine q_loadN (vs := [_, _, _]) rfl rfl rfl rfl Try.isAgg32 Try.sizeOf32 (by with_reducible (repeat (first | exact Take.here | apply Take.there))) (hd78) rfl ?_
    refine q_neS rfl rfl rfl rfl rfl (by kernel_rfl) (eqc_struct Try.underlying32 (by kernel_rfl) (eqf_cons rfl Try.isAgg30 rfl rfl (eqc_int Try.underlying30) (eqf_cons rfl Try.isAgg3 rfl rfl (eqc_int Try.underlying3) (eqf_last rfl Try.isAgg3 rfl rfl (eqc_int Try.underlying3))))) ?_
    refine s_eq 80 rfl (v' := .bool (decide (ev ≠ ev))) (by first | (congr 1; done) | (congr 1; rw [Bool.eq_iff_iff]; simp [Prod.ext_iff, and_assoc])) ?_
    refine r_done ?_
    refine s_keep [1, 2, 7, 8, 11, 80] (e' := [(1, _), (2, _), (7, _), (8, _), (11, _), (80, _)]) rfl ?_
    refine k_then_n ?_
    refine c_cond_p rfl (fun hg => by exfalso; first | exact hg rfl | exact hg trivial | simp at hg) (fun hg => ?_)
    refine c_skip ?_
    refine k_blk_n ?_
    refine k_then_n ?_
    refine c_plain (.q 0 (.q 1 (.q 2 (.done)))) (by kernel_rfl) ?_
    refine q_move rfl rfl rfl rfl ?_
    refine q_int rfl rfl rfl rfl rfl (b_add' _ (by (first | exact fits_i64 (by omega) (by omega) | exact fits_u64 (by omega) (by omega) | exact fits_u32 (by omega) (by omega) | exact fits_u8 (by omega) (by omega)))) ?_
    refine q_assign rfl rfl rfl rfl ?_
    refine r_done ?_
    refine k_then_n ?_
    refine loop_next (x := i) (i + 1) ?_ ?_ ?_ ?_
    · exact by show i + 1 ≤ m; omega
    · show m - (i + 1) < m - i; omega
    · exact ⟨rfl, rfl, rfl, rfl, rfl, trivial⟩
    · (try simp only [List.cons_append, List.nil_append]); (repeat ((with_reducible apply Takes.cons); focus (first | (with_reducible (repeat (first | exact Take.here | apply Take.there)); done) | (repeat (first | exact Take.here | apply Take.there))))); (repeat (first | exact Takes.nil | exact Takes.self | refine takes_drop2 ?_))
  · skip
    refine c_exit ?_
    refine k_then_exit ?_
    refine k_then_exit ?_
    refine k_blk_here ?_
    refine k_then_n ?_
    refine c_seq ?_
    refine c_seq ?_
    refine c_plain (.q 0 (.done)) (by kernel_rfl) ?_
    refine q_assign rfl rfl rfl rfl ?_
    refine r_done ?_
    refine s_keep [1, 2, 7, 8, 12] (e' := [(1, _), (2, _), (7, _), (8, _), (12, _)]) rfl ?_
    refine k_then_n ?_
    refine c_block ?_
    refine c_loop2 (α := Nat × List T3) (fun (x_ : Nat × List T3) => match x_ with | (j, f) => j ≤ m ∧ (f.length = m + 1)) (fun (x_ : Nat × List T3) => match x_ with | (j, f) => [(12, .int .i64 ((j : Nat) : Int))]) (fun (x_ : Nat × List T3) => match x_ with | (j, f) => [own 3 enc3 ao26 cp26 f]) (fun (x_ : Nat × List T3) => match x_ with | (j, f) => m - j) [1, 2, 7, 8] (er := [(1, _), (2, _), (7, _), (8, _)]) rfl (0, (es ++ [((-7), 0, 0)])) ?_ (by exact ⟨rfl, trivial⟩) (by (try dsimp only); (try simp only [Nat.add_zero, Nat.zero_add]); (repeat ((with_reducible apply Takes.cons); focus (first | (with_reducible (repeat (first | exact Take.here | apply Take.there)); done) | (repeat (first | exact Take.here | apply Take.there))))); exact Takes.nil) ?_
    · exact ⟨Nat.zero_le _, by rw [List.length_append, hm]; rfl⟩
    rintro ⟨j, f⟩ ⟨hle_j, hfl⟩
    try simp only [List.cons_append, List.nil_append]
    refine c_seq ?_
    refine c_seq ?_
    refine c_plain (.q 0 (.q 1 (.q 2 (.q 3 (.done))))) (by kernel_rfl) ?_
    refine q_move rfl rfl rfl rfl ?_
    refine q_move rfl rfl rfl rfl ?_
    refine q_len rfl rfl rfl rfl Try.underlying26 ?_
    refine q_int rfl rfl rfl rfl rfl (b_lss _ _ _ _) ?_
    refine r_done ?_
    refine k_then_n ?_
    refine c_cond_p rfl (fun hlt2 => ?_) (fun hlt2 => ?_)
    · skip
      refine c_skip ?_
      refine k_then_n ?_
      refine c_seq ?_
      refine c_block ?_
      obtain ⟨ev, hev⟩ := get_lt (l := es) (i := m - 1 - j) (by omega)
      refine c_plain (.q 0 (.q 1 (.q 2 (.q 3 (.q 4 (.q 5 (.q 6 (.q 7 (.q 8 (.q 9 (.q 10 ((.l 11 [] (.done)))))))))))))) (by kernel_rfl) ?_
      refine q_move rfl rfl rfl rfl ?_
      refine q_move rfl rfl rfl rfl ?_
      refine q_move rfl rfl rfl rfl ?_
      refine q_move rfl rfl rfl rfl ?_
      refine q_len rfl rfl rfl rfl Try.underlying26 ?_
      refine q_int rfl rfl rfl rfl rfl (b_sub' _ (by (first | exact fits_i64 (by omega) (by omega) | exact fits_u64 (by omega) (by omega) | exact fits_u32 (by omega) (by omega) | exact fits_u8 (by omega) (by omega)))) ?_
      refine q_move rfl rfl rfl rfl ?_
      refine q_int rfl rfl rfl rfl rfl (b_sub' _ (by (first | exact fits_i64 (by omega) (by omega) | exact fits_u64 (by omega) (by omega) | exact fits_u32 (by omega) (by omega) | exact fits_u8 (by omega) (by omega)))) ?_
      refine q_idxR (sz := 2) (k := m - 1 - j) rfl rfl rfl rfl rfl Try.underlying26 Try.sizeOf32 (he) hev enc3_len (by omega) (by omega) ?_
      intro ib95 io95 _ hd95
      refine q_loadN (vs := [_, _, _]) rfl rfl rfl rfl Try.isAgg32 Try.sizeOf32 (by with_reducible (repeat (first | exact Take.here | apply Take.there))) (hd95) rfl ?_
      obtain ⟨e_8, he_8⟩ := get_lt (l := f) (i := j) (by first | omega | (simp; done) | (simp; omega))
      refine q_idxO (sz := 2) (k := j) (enc := enc3) (xs := f) rfl rfl rfl rfl rfl Try.underlying26 Try.sizeOf32 he_8 (by first | rfl | omega) (by omega) (by with_reducible (repeat (first | exact Take.here | apply Take.there))) ?_
      intro ib97 io97 ha97 hl97 hc97
      refine l_store_O (j := 0) (k := j) (q := ev) (enc := enc3) (off := io97) rfl rfl rfl rfl Try.sizeOf32 (us := [_, _, _]) rfl rfl rfl ha97 enc3_len he_8 (by with_reducible (repeat (first | exact Take.here | apply Take.there))) (by first | rfl | exact (Nat.add_zero _).symm | omega) (by first | decide | exact Nat.le_of_ble_eq_true rfl) (by rfl) ?_
      refine ag_nil ?_
      refine r_done ?_
      refine s_keep [1, 2, 7, 8, 12] (e' := [(1, _), (2, _), (7, _), (8, _), (12, _)]) rfl ?_
      refine k_blk_n ?_
      refine k_then_n ?_
      refine c_plain (.q 0 (.q 1 (.q 2 (.done)))) (by kernel_rfl) ?_
      refine q_move rfl rfl rfl rfl ?_
      refine q_int rfl rfl rfl rfl rfl (b_add' _ (by (first | exact fits_i64 (by omega) (by omega) | exact fits_u64 (by omega) (by omega) | exact fits_u32 (by omega) (by omega) | exact fits_u8 (by omega) (by omega)))) ?_
      refine q_assign rfl rfl rfl rfl ?_
      refine r_done ?_
      refine k_then_n ?_
      refine loop_next (x := (j, f)) ((j + 1, f.set j ev)) ?_ ?_ ?_ ?_
      · try dsimp only
        exact ⟨by omega, by rw [List.length_set]; exact hfl⟩
      · show m - (j + 1) < m - j; omega
      · exact ⟨rfl, rfl, rfl, rfl, rfl, trivial⟩
      · (try simp only [List.cons_append, List.nil_append]); (repeat ((with_reducible apply Takes.cons); focus (first | (with_reducible (repeat (first | exact Take.here | apply Take.there)); done) | (repeat (first | exact Take.here | apply Take.there))))); (repeat (first | exact Takes.nil | exact Takes.self | refine takes_drop2 ?_))
    · skip
      refine c_exit ?_
      refine k_then_exit ?_
      refine k_then_exit ?_
      refine k_blk_here ?_
      refine k_then_n ?_
      refine c_seq ?_
      refine s_take (A := own 3 enc3 ao26 cp26 f) (by with_reducible (repeat (first | exact Take.here | apply Take.there))) ?_
      refine own_fc fun k1 k2 k3 => ?_
      refine c_plain (.q 0 (.q 1 (.q 2 (.q 3 ((.l 4 [] (.q 5 (.done)))))))) (by kernel_rfl) ?_
      refine q_move rfl rfl rfl rfl ?_
      refine q_move rfl rfl rfl rfl ?_
      refine q_len rfl rfl rfl rfl Try.underlying26 ?_
      refine q_cut_hi (h' := m) rfl rfl rfl rfl rfl Try.underlying26 Try.sizeOf32 (by first | rfl | omega) (by omega) ?_
      refine s_take (A := own 3 enc3 ao26 cp26 f) (by with_reducible (repeat (first | exact Take.here | apply Take.there))) ?_
      refine own_fc fun f_9a f_9b f_9c => ?_
      refine s_heap (fun _ h => own_nil (sz := 3) (enc := enc3) h) ?_
      refine l_append (sz := 3) (enc := enc3) (xs := []) rfl rfl rfl rfl rfl Try.underlying26 Try.typeInfo32 rfl rfl rfl (by decide) (by with_reducible (repeat (first | exact Take.here | apply Take.there))) (by with_reducible (repeat (first | exact Take.here | apply Take.there))) (by rfl) (ys := (f.take m)) (rds_take (rds_own enc3_len (fun h => (f_9b h).1) f_9c) enc3_len m) (by rfl) (by simp; omega) (enc3_len) (enc3_one) (by omega) (by show _ * 24 ≤ _; omega) ?_
      intro ao102 cp102
      try simp only [List.nil_append]
      refine ag_nil ?_
      refine q_assign rfl rfl rfl rfl ?_
      refine r_done ?_
      refine s_keep [1, 2, 7, 8, 13] (e' := [(1, _), (2, _), (7, _), (8, _), (13, _)]) rfl ?_
      refine k_then_n ?_
      refine c_seq ?_
      refine c_plain (.q 0 (.q 1 ((.l 2 [] (.q 3 (.q 4 (.q 5 (.q 6 (.q 7 (.done)))))))))) (by kernel_rfl) ?_
      refine q_loadN_c rfl rfl rfl rfl Try.isAgg25 Try.sizeOf25 (by with_reducible (repeat (first | exact Take.here | apply Take.there))) 0 (us := [_, _, _, _, _]) (by first | rfl | exact (Nat.add_zero _).symm) rfl rfl ?_
      refine q_move rfl rfl rfl rfl ?_
      refine s_take (A := own 3 enc3 ao102 cp102 ((f.take m))) (by with_reducible (repeat (first | exact Take.here | apply Take.there))) ?_
      refine own_fc fun f_10a f_10b f_10c => ?_
      refine s_heap (fun _ h => Bun.fold ((by (repeat ((with_reducible apply Takes.cons); focus (first | (with_reducible (repeat (first | exact Take.here | apply Take.there)); done) | (repeat (first | exact Take.here | apply Take.there))))); exact Takes.nil : Takes _ [A, own 3 enc3 ao102 cp102 ((f.take m))] _) _ h)) ?_
      have sp_11 := rleast_spec th va vo lk pl ao n c (Bun [A, own 3 enc3 ao102 cp102 ((f.take m))]) (rds_bun (List.mem_cons_self) (hr)) (by first | rfl | assumption | omega | (simp; done) | (simp; omega)) (by omega) ((f.take m)) ao102 (0 + m) cp102 (rds_bun (List.mem_cons_of_mem _ (List.mem_cons_self)) (rds_own enc3_len (fun h => (f_10b h).1) f_10c)) (by simp; omega) (by omega)
      refine l_call rfl rfl rfl rfl rfl rfl Try.call10 (sp_11) (by (repeat ((with_reducible apply Takes.cons); focus (first | (with_reducible (repeat (first | exact Take.here | apply Take.there)); done) | (repeat (first | exact Take.here | apply Take.there))))); exact Takes.nil) ?_
      rintro ⟨⟩ -
      try simp only [List.cons_append, List.nil_append]
      refine s_take (A := Bun [A, own 3 enc3 ao102 cp102 ((f.take m))]) (by with_reducible (repeat (first | exact Take.here | apply Take.there))) ?_
      refine s_bun ?_
      try simp only [List.cons_append, List.nil_append]
      try simp only [List.cons_append, List.nil_append]
      refine ag_nil ?_
      refine q_move rfl rfl rfl rfl ?_
      refine q_extract rfl rfl rfl rfl rfl ?_
      refine q_extract rfl rfl rfl rfl rfl ?_
      refine q_assign rfl rfl rfl rfl ?_
      refine q_assign rfl rfl rfl rfl ?_
      refine r_done ?_
      refine s_keep [1, 5, 6, 7, 8] (e' := [(1, _), (5, _), (6, _), (7, _), (8, _)]) rfl ?_
      refine k_then_n ?_
      refine c_seq ?_
      refine s_take (A := own 3 enc3 ao26 cp26 f) (by with_reducible (repeat (first | exact Take.here | apply Take.there))) ?_
      refine own_fc fun l1 l2 l3 => ?_
      refine c_draw rfl (.q 0 (.q 1 (.q 2 (.q 3 (.q 4 ((.l 5 [] (.q 6 (.q 7 (.q 8 (.q 9 (.q 10 (.done))))))))))))) (by kernel_rfl) ?_
      refine q_loadN_c rfl rfl rfl rfl Try.isAgg25 Try.sizeOf25 (by with_reducible (repeat (first | exact Take.here | apply Take.there))) 0 (us := [_, _, _, _, _]) (by first | rfl | exact (Nat.add_zero _).symm) rfl rfl ?_
      refine q_move rfl rfl rfl rfl ?_
      refine q_move rfl rfl rfl rfl ?_
      refine q_len rfl rfl rfl rfl Try.underlying26 ?_
      refine q_cut_hi (h' := m) rfl rfl rfl rfl rfl Try.underlying26 Try.sizeOf32 (by first | rfl | omega) (by omega) ?_
      refine s_take (A := own 3 enc3 ao26 cp26 f) (by with_reducible (repeat (first | exact Take.here | apply Take.there))) ?_
      refine own_fc fun f_12a f_12b f_12c => ?_
      refine s_heap (fun _ h => Bun.fold ((by (repeat ((with_reducible apply Takes.cons); focus (first | (with_reducible (repeat (first | exact Take.here | apply Take.there)); done) | (repeat (first | exact Take.here | apply Take.there))))); exact Takes.nil : Takes _ [own 1 encZ qa qc (pl ++ [(-71)]), own 3 enc3 ao26 cp26 f] _) _ h)) ?_
      have sp_13 := least_spec th va vo lk pl qa n qc (Bun [own 1 encZ qa qc (pl ++ [(-71)]), own 3 enc3 ao26 cp26 f]) (rds_bun (List.mem_cons_self) ((own_front encZ_len q2 q3))) (by first | rfl | assumption | omega | (simp; done) | (simp; omega)) (by omega) (f.take m) ao26 m cp26 (rds_bun (List.mem_cons_of_mem _ (List.mem_cons_self)) (rds_take (rds_own enc3_len (fun h => (f_12b h).1) f_12c) enc3_len m)) (by simp; omega) (by omega)
      refine l_call rfl rfl rfl rfl rfl rfl Try.call12 (sp_13) (by (repeat ((with_reducible apply Takes.cons); focus (first | (with_reducible (repeat (first | exact Take.here | apply Take.there)); done) | (repeat (first | exact Take.here | apply Take.there))))); exact Takes.nil) ?_
      rintro ⟨⟩ -
      try simp only [List.cons_append, List.nil_append]
      refine s_take (A := Bun [own 1 encZ qa qc (pl ++ [(-71)]), own 3 enc3 ao26 cp26 f]) (by with_reducible (repeat (first | exact Take.here | apply Take.there))) ?_
      refine s_bun ?_
      try simp only [List.cons_append, List.nil_append]
      try simp only [List.cons_append, List.nil_append]
      refine ag_nil ?_
      refine q_move rfl rfl rfl rfl ?_
      refine q_extract rfl rfl rfl rfl rfl ?_
      refine q_extract rfl rfl rfl rfl rfl ?_
      refine q_assign rfl rfl rfl rfl ?_
      refine q_assign rfl rfl rfl rfl ?_
      refine r_done ?_
      refine s_keep [5, 6, 9, 10] (e' := [(5, _), (6, _), (9, _), (10, _)]) rfl ?_
      refine k_then_n ?_
      refine c_seq ?_
      refine c_plain (.q 0 (.q 1 (.q 2 (.q 3 (.q 4 (.q 5 (.q 6 (.q 7 (.q 8 ((.l 9 [] (.q 10 (.q 11 (.done)))))))))))))) (by kernel_rfl) ?_
      refine q_move rfl rfl rfl rfl ?_
      refine q_move rfl rfl rfl rfl ?_
      refine q_int rfl rfl rfl rfl rfl (b_eql _ _ _ _) ?_
      refine q_move rfl rfl rfl rfl ?_
      refine s_bool_p 121 rfl (fun hg => ?_) (fun hg => by exfalso; exact hg rfl)
      refine q_move rfl rfl rfl rfl ?_
      refine q_move rfl rfl rfl rfl ?_
      refine q_int rfl rfl rfl rfl rfl (b_eql _ _ _ _) ?_
      refine q_pick_t rfl rfl rfl rfl rfl ?_
      refine q_move rfl rfl rfl rfl ?_
      refine s_bool_p 126 rfl (fun hg => ?_) (fun hg => by exfalso; exact hg rfl)
      refine l_call rfl rfl rfl rfl rfl rfl Try.call16 (known_spec) (by (repeat ((with_reducible apply Takes.cons); focus (first | (with_reducible (repeat (first | exact Take.here | apply Take.there)); done) | (repeat (first | exact Take.here | apply Take.there))))); exact Takes.nil) ?_
      rintro ⟨⟩ -
      try simp only [List.cons_append, List.nil_append]
      refine ag_nil ?_
      refine q_pick_t rfl rfl rfl rfl rfl ?_
      refine q_assign rfl rfl rfl rfl ?_
      refine r_done ?_
      refine s_keep [4] (e' := [(4, _)]) rfl ?_
      refine k_then_n ?_
      refine c_ret ?_
      refine ret1 rfl rfl (()) (by first | rfl | (first | rfl | (congr 1; done) | (congr 1 <;> first | rfl | omega | (simp; done) | (simp; omega)))) (by trivial) ?_
      (repeat ((with_reducible apply Takes.cons); focus (first | (with_reducible (repeat (first | exact Take.here | apply Take.there)); done) | (repeat (first | exact Take.here | apply Take.there))))); (repeat (first | exact Takes.nil | exact Takes.self | refine takes_drop2 ?_))
end Go.Ab.Fe
