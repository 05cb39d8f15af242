/- Package feasible: the laws Begins and Exits. -/
import Derived.Test.YtkkncnaonifeoaaFe8
set_option linter.unusedVariables false
set_option linter.unusedSimpArgs false
set_option maxRecDepth 100000
namespace Go.Ab.Fe
open Go Go.Proofs Go.Ab
theorem tm_rng (a m : Int) (h : 0 < m) : -m < Int.tmod a m ∧ Int.tmod a m < m := by
  rcases Int.le_total 0 a with h1 | h1
  · rw [Int.tmod_eq_emod_of_nonneg h1]
    have := Int.emod_nonneg a (Int.ne_of_gt h)
    have := Int.emod_lt_of_pos a h
    omega
  · have e : Int.tmod a m = -Int.tmod (-a) m := by rw [Int.neg_tmod]; omega
    rw [e, Int.tmod_eq_emod_of_nonneg (by omega)]
    have := Int.emod_nonneg (-a) (Int.ne_of_gt h)
    have := Int.emod_lt_of_pos (-a) h
    omega
theorem leastN_spec : ∀ (es : List T3) (x : CS), leastN x es ≤ es.length ∧ allC x es (leastN x es) ∧ ∀ e, es[leastN x es]? = some e → ¬ canT (sN x es (leastN x es)) e
  | [], x => ⟨Nat.le_refl _, allC_zero _ _, fun e h => by cases h⟩
  | e :: es, x => by
    unfold leastN
    split
    · rename_i hc
      obtain ⟨a, b, c⟩ := leastN_spec es (nxT x e)
      refine ⟨by simpa using a, fun j q hj hq => ?_, fun q hq => c q (by simpa using hq)⟩
      cases j with
      | zero => cases hq; exact hc
      | succ j => exact b j q (by omega) (by simpa using hq)
    · rename_i hc
      refine ⟨Nat.zero_le _, allC_zero _ _, fun q hq => ?_⟩
      cases hq; exact hc
theorem sN_take (x : CS) (es : List T3) {i k : Nat} (h : i ≤ k) : sN x (es.take k) i = sN x es i := by
  unfold sN; rw [List.take_take, Nat.min_eq_left h]
theorem sN_app (x : CS) (es ms : List T3) {i : Nat} (h : i ≤ es.length) : sN x (es ++ ms) i = sN x es i := by
  unfold sN; rw [List.take_append_of_le_length h]
theorem leastN_take (x : CS) (es : List T3) {k : Nat} (hk : k ≤ es.length) : leastN x (es.take k) = min (leastN x es) k := by
  obtain ⟨a, b, c⟩ := leastN_spec es x
  refine leastN_eq (by rw [List.length_take]; omega) (fun j q hj hq => ?_) (fun q hq => ?_)
  · rw [List.getElem?_take] at hq
    split at hq
    · rw [sN_take _ _ (by omega)]; exact b j q (by omega) hq
    · cases hq
  · rw [List.getElem?_take] at hq
    split at hq
    · rw [sN_take _ _ (by omega)]
      rw [Nat.min_eq_left (by omega)] at hq ⊢
      exact c q hq
    · cases hq
theorem leastN_app (x : CS) (es ms : List T3) : leastN x es ≤ leastN x (es ++ ms) ∧ (leastN x es < es.length → leastN x (es ++ ms) = leastN x es) := by
  obtain ⟨a, b, c⟩ := leastN_spec es x
  obtain ⟨a2, b2, c2⟩ := leastN_spec (es ++ ms) x
  have key : leastN x es < es.length → leastN x (es ++ ms) = leastN x es := fun h => by
    obtain ⟨e, he⟩ := get_lt h
    refine leastN_at (e := e) (by rw [List.getElem?_append_left h]; exact he) (fun j q hj hq => ?_) ?_
    · rw [List.getElem?_append_left (by omega)] at hq
      rw [sN_app _ _ _ (by omega)]; exact b j q hj hq
    · rw [sN_app _ _ _ (by omega)]; exact c e he
  refine ⟨?_, key⟩
  rcases Nat.lt_or_ge (leastN x es) es.length with h | h
  · rw [key h]; exact Nat.le_refl _
  · rcases Nat.lt_or_ge (leastN x (es ++ ms)) (leastN x es) with h2 | h2
    · exfalso
      obtain ⟨e, he⟩ := get_lt (l := es) (i := leastN x (es ++ ms)) (by omega)
      have h3 := c2 e (by rw [List.getElem?_append_left (by omega)]; exact he)
      rw [sN_app _ _ _ (by omega)] at h3
      exact h3 (b _ e h2 he)
    · exact h2
theorem nxF_can {x : CS} {k t o : Int} (h : canF x k t o) : (nxF x k t o).n = x.n + 1 := by
  rw [nxF, if_pos h]; unfold nextF
  repeat' split
  all_goals rfl
theorem sN_n_all {x : CS} {es : List T3} : ∀ {i : Nat}, i ≤ es.length → allC x es i → (sN x es i).n = x.n + i
  | 0, _, _ => by rw [sN_zero]; simp
  | i + 1, hi, h => by
    obtain ⟨e, he⟩ := get_lt (l := es) (i := i) (by omega)
    rw [sN_next he, nxF_can (h i e (Nat.lt_succ_self _) he), sN_n_all (by omega) (fun j q hj hq => h j q (by omega) hq)]
    omega
theorem begins_ok (th va vo lk : Int) (pl : List Int) (ao : Option Addr) (n c : Nat) (A : HProp) (hr : RdS A ao (pl.flatMap encZ)) (hn : pl.length = n) (hb : n ≤ 4000000) (es : List T3) (eo : Option Addr) (m ec : Nat) (he : RdS A eo (es.flatMap enc3)) (hm : es.length = m) (hmb : m ≤ 4000000) (ms : List T3) (mo : Option Addr) (m2 mc : Nat) (hms : RdS A mo (ms.flatMap enc3)) (hm2 : ms.length = m2) (hm2b : m + m2 ≤ 4000000) (hec : m ≤ ec) (cut : Int) (hok : OkS th va vo lk pl) : Spec Try.prog 5 [.agg #[.int .i64 th, .int .i64 va, .int .i64 vo, .int .i64 lk, .slice ao n c, .slice eo m ec, .slice mo m2 mc, .int .i64 cut]] [A] (fun (_ : Unit) => .bool true) (fun _ => True) (fun _ => [A]) := by
  refine spec_mk (n := 170) Try.func5 rfl rfl rfl ?_
  intro Γ w0
  simp only [argE, List.cons_append, List.nil_append, Nat.zero_add, Nat.reduceAdd]
  refine c_seq ?_
  refine c_plain ((.l 0 [] (.q 1 (.done)))) (by kernel_rfl) ?_
  refine l_box rfl rfl rfl rfl (us := [_, _, _, _, _, _, _, _]) rfl ?_
  intro b1
  refine ag_nil ?_
  refine q_assign rfl rfl rfl rfl ?_
  refine r_done ?_
  refine k_then_n ?_
  refine c_seq ?_
  refine c_draw rfl (.q 0 (.q 1 (.q 2 (.q 3 (.q 4 (.q 5 (.q 6 (.q 7 ((.l 8 [1, 3, 5, 7] ((.l 9 [3, 5, 7] (.q 10 (.q 11 (.q 12 (.done)))))))))))))))) (by kernel_rfl) ?_
  refine q_field (k := 0) rfl rfl rfl rfl Try.underlying41 rfl Try.sizeOf25 rfl ?_
  refine q_loadN_c rfl rfl rfl rfl Try.isAgg25 Try.sizeOf25 (by with_reducible (repeat (first | exact Take.here | apply Take.there))) 0 (us := [_, _, _, _, _]) (by first | rfl | exact (Nat.add_zero _).symm) rfl rfl ?_
  refine q_field (k := 5) rfl rfl rfl rfl Try.underlying41 rfl Try.sizeOf26 rfl ?_
  refine q_load_c (j := 5) rfl rfl rfl rfl Try.isAgg26 (by with_reducible (repeat (first | exact Take.here | apply Take.there))) (by first | rfl | exact (Nat.add_zero _).symm) (by rfl) ?_
  refine q_field (k := 6) rfl rfl rfl rfl Try.underlying41 rfl Try.sizeOf26 rfl ?_
  refine q_load_c (j := 6) rfl rfl rfl rfl Try.isAgg26 (by with_reducible (repeat (first | exact Take.here | apply Take.there))) (by first | rfl | exact (Nat.add_zero _).symm) (by rfl) ?_
  refine q_field (k := 7) rfl rfl rfl rfl Try.underlying41 rfl Try.sizeOf3 rfl ?_
  refine q_load_c (j := 7) rfl rfl rfl rfl Try.isAgg3 (by with_reducible (repeat (first | exact Take.here | apply Take.there))) (by first | rfl | exact (Nat.add_zero _).symm) (by rfl) ?_
  refine l_alloc rfl rfl rfl Try.zeroValue25 (zs := [.int .i64 0, .int .i64 0, .int .i64 0, .int .i64 0, .slice none 0 0]) rfl ?_
  intro b3
  refine ag_loadN_c rfl rfl (us := [_, _, _, _, _]) rfl Try.isAgg25 Try.sizeOf25 (by with_reducible (repeat (first | exact Take.here | apply Take.there))) 0 (by first | rfl | exact (Nat.add_zero _).symm) rfl rfl ?_
  refine ag_load_c (q := 5) rfl rfl rfl Try.isAgg26 (by with_reducible (repeat (first | exact Take.here | apply Take.there))) (by first | rfl | exact (Nat.add_zero _).symm) (by rfl) ?_
  refine ag_load_c (q := 6) rfl rfl rfl Try.isAgg26 (by with_reducible (repeat (first | exact Take.here | apply Take.there))) (by first | rfl | exact (Nat.add_zero _).symm) (by rfl) ?_
  refine ag_load_c (q := 7) rfl rfl rfl Try.isAgg3 (by with_reducible (repeat (first | exact Take.here | apply Take.there))) (by first | rfl | exact (Nat.add_zero _).symm) (by rfl) ?_
  refine ag_nil ?_
  refine l_store (j := 0) rfl rfl rfl rfl Try.sizeOf25 (us := [_, _, _, _, _]) rfl rfl rfl (by with_reducible (repeat (first | exact Take.here | apply Take.there))) (by first | rfl | exact (Nat.add_zero _).symm) (by first | decide | (simp; done) | omega) ?_
  simp only [setL, List.set]
  refine ag_load_c (q := 5) rfl rfl rfl Try.isAgg26 (by with_reducible (repeat (first | exact Take.here | apply Take.there))) (by first | rfl | exact (Nat.add_zero _).symm) (by rfl) ?_
  refine ag_load_c (q := 6) rfl rfl rfl Try.isAgg26 (by with_reducible (repeat (first | exact Take.here | apply Take.there))) (by first | rfl | exact (Nat.add_zero _).symm) (by rfl) ?_
  refine ag_load_c (q := 7) rfl rfl rfl Try.isAgg3 (by with_reducible (repeat (first | exact Take.here | apply Take.there))) (by first | rfl | exact (Nat.add_zero _).symm) (by rfl) ?_
  refine ag_nil ?_
  refine q_assign rfl rfl rfl rfl ?_
  refine q_assign rfl rfl rfl rfl ?_
  refine q_assign rfl rfl rfl rfl ?_
  refine r_done ?_
  refine s_keep [3, 4, 5, 6] (e' := [(3, _), (4, _), (5, _), (6, _)]) rfl ?_
  refine k_then_n ?_
  refine c_seq ?_
  obtain ⟨nn, hnn⟩ : ∃ nn, nn = leastN (newF th va vo lk pl) es := ⟨_, rfl⟩
  obtain ⟨hn1, hn2, hn3⟩ := leastN_spec es (newF th va vo lk pl)
  rw [← hnn] at hn1 hn2 hn3
  have hz0 : (newF th va vo lk pl).n = 0 := rfl
  refine c_plain (.q 0 (.q 1 ((.l 2 [] (.q 3 (.q 4 (.q 5 (.q 6 (.q 7 (.done)))))))))) (by kernel_rfl) ?_
  refine q_loadN_c rfl rfl rfl rfl Try.isAgg25 Try.sizeOf25 (by with_reducible (repeat (first | exact Take.here | apply Take.there))) 0 (us := [_, _, _, _, _]) (by first | rfl | exact (Nat.add_zero _).symm) rfl rfl ?_
  refine q_move rfl rfl rfl rfl ?_
  have sp_1 := least_spec th va vo lk pl ao n c A (hr) (by first | rfl | assumption | omega | (simp; done) | (simp; omega)) (by omega) es eo m ec (he) (by first | rfl | assumption | omega | (simp; done) | (simp; omega)) (by omega)
  refine l_call rfl rfl rfl rfl rfl rfl Try.call12 (sp_1) (by (repeat ((with_reducible apply Takes.cons); focus (first | (with_reducible (repeat (first | exact Take.here | apply Take.there)); done) | (repeat (first | exact Take.here | apply Take.there))))); exact Takes.nil) ?_
  rintro ⟨⟩ -
  try simp only [List.cons_append, List.nil_append]
  refine ag_nil ?_
  refine s_eq 29 rfl (v' := .tuple #[.int .i64 ((nn : Nat) : Int), .int .i64 0]) (by rw [if_pos hok, lsR, if_pos hok, ← hnn]) ?_
  refine q_move rfl rfl rfl rfl ?_
  refine q_extract rfl rfl rfl rfl rfl ?_
  refine q_extract rfl rfl rfl rfl rfl ?_
  refine q_assign rfl rfl rfl rfl ?_
  refine q_assign rfl rfl rfl rfl ?_
  refine r_done ?_
  refine s_keep [3, 4, 5, 6, 7, 8] (e' := [(3, _), (4, _), (5, _), (6, _), (7, _), (8, _)]) rfl ?_
  refine k_then_n ?_
  refine c_seq ?_
  refine c_seq ?_
  refine c_plain (.q 0 (.q 1 (.done))) (by kernel_rfl) ?_
  refine q_move rfl rfl rfl rfl ?_
  refine q_int rfl rfl rfl rfl rfl (b_neq _ _ _ _) ?_
  refine s_eq 33 rfl (v' := .bool false) (by first | rfl | simp) ?_
  refine r_done ?_
  refine k_then_n ?_
  refine c_cond_f rfl ?_
  refine c_skip ?_
  refine k_then_n ?_
  refine c_seq ?_
  refine c_seq ?_
  refine c_plain (.q 0 (.q 1 (.q 2 (.q 3 (.q 4 (.q 5 (.q 6 (.q 7 (.done))))))))) (by kernel_rfl) ?_
  refine q_move rfl rfl rfl rfl ?_
  refine q_int rfl rfl rfl rfl rfl (b_lss _ _ _ _) ?_
  refine q_move rfl rfl rfl rfl ?_
  refine s_bool_p 47 rfl (fun hg => by exfalso; omega) (fun hg => ?_)
  refine q_move rfl rfl rfl rfl ?_
  refine q_move rfl rfl rfl rfl ?_
  refine q_len rfl rfl rfl rfl Try.underlying26 ?_
  refine q_int rfl rfl rfl rfl rfl (b_gtr _ _ _ _) ?_
  refine q_pick_f rfl rfl rfl rfl rfl ?_
  refine r_done ?_
  refine s_keep [3, 4, 5, 6, 7, 52] (e' := [(3, _), (4, _), (5, _), (6, _), (7, _), (52, _)]) rfl ?_
  refine k_then_n ?_
  refine c_cond_p rfl (fun hg => by exfalso; omega) (fun hg => ?_)
  refine c_skip ?_
  refine k_then_n ?_
  refine c_seq ?_
  refine c_plain (.q 0 (.q 1 (.q 2 (.q 3 (.q 4 (.q 5 (.done))))))) (by kernel_rfl) ?_
  refine q_move rfl rfl rfl rfl ?_
  refine q_move rfl rfl rfl rfl ?_
  refine q_len rfl rfl rfl rfl Try.underlying26 ?_
  refine q_int rfl rfl rfl rfl rfl (b_add' _ (by (first | exact fits_i64 (by omega) (by omega) | exact fits_u64 (by omega) (by omega) | exact fits_u32 (by omega) (by omega) | exact fits_u8 (by omega) (by omega)))) ?_
  refine q_int rfl rfl rfl rfl rfl (b_remT _ (by omega)) ?_
  have htm := tm_rng cut (((m : Nat) : Int) + 1) (by omega)
  refine q_assign rfl rfl rfl rfl ?_
  refine r_done ?_
  refine s_keep [3, 4, 5, 7, 9] (e' := [(3, _), (4, _), (5, _), (7, _), (9, _)]) rfl ?_
  refine k_then_n ?_
  refine c_seqJ (α := Nat) (fun (kk : Nat) => kk ≤ m) (fun (kk : Nat) => [(9, .int .i64 ((kk : Nat) : Int))]) (fun (kk : Nat) => []) [3, 4, 5, 7] (er := [(3, _), (4, _), (5, _), (7, _)]) rfl [] (by (repeat ((with_reducible apply Takes.cons); focus (first | (with_reducible (repeat (first | exact Take.here | apply Take.there)); done) | (repeat (first | exact Take.here | apply Take.there))))); exact Takes.nil) ?_ ?_
  · skip
    refine c_seq ?_
    refine c_plain (.q 0 (.q 1 (.done))) (by kernel_rfl) ?_
    refine q_move rfl rfl rfl rfl ?_
    refine q_int rfl rfl rfl rfl rfl (b_lss _ _ _ _) ?_
    refine r_done ?_
    refine k_then_n ?_
    refine c_cond_p rfl (fun hneg => ?_) (fun hneg => ?_)
    · skip
      refine c_plain (.q 0 (.q 1 (.q 2 (.q 3 (.q 4 (.q 5 (.done))))))) (by kernel_rfl) ?_
      refine q_move rfl rfl rfl rfl ?_
      refine q_move rfl rfl rfl rfl ?_
      refine q_len rfl rfl rfl rfl Try.underlying26 ?_
      refine q_int rfl rfl rfl rfl rfl (b_add' _ (by (first | exact fits_i64 (by omega) (by omega) | exact fits_u64 (by omega) (by omega) | exact fits_u32 (by omega) (by omega) | exact fits_u8 (by omega) (by omega)))) ?_
      refine q_int rfl rfl rfl rfl rfl (b_add' _ (by (first | exact fits_i64 (by omega) (by omega) | exact fits_u64 (by omega) (by omega) | exact fits_u32 (by omega) (by omega) | exact fits_u8 (by omega) (by omega)))) ?_
      refine q_assign rfl rfl rfl rfl ?_
      refine r_done ?_
      refine s_keep [3, 4, 5, 7, 9] (e' := [(3, _), (4, _), (5, _), (7, _), (9, _)]) rfl ?_
      refine k_then_n ?_
      refine s_eq 9 rfl (v' := .int .i64 ((((((Int.tmod cut (((m : Nat) : Int) + 1)) + ((m : Nat) : Int)) + 1).toNat) : Nat) : Int)) (by congr 1; omega) ?_
      refine join_next ((((Int.tmod cut (((m : Nat) : Int) + 1)) + ((m : Nat) : Int)) + 1).toNat) (by omega) (by exact ⟨rfl, rfl, rfl, rfl, rfl, trivial⟩) (by (try simp only [List.cons_append, List.nil_append]); (repeat ((with_reducible apply Takes.cons); focus (first | (with_reducible (repeat (first | exact Take.here | apply Take.there)); done) | (repeat (first | exact Take.here | apply Take.there))))); (repeat (first | exact Takes.nil | exact Takes.self | refine takes_drop2 ?_)))
    · skip
      refine c_skip ?_
      refine k_then_n ?_
      refine s_eq 9 rfl (v' := .int .i64 (((((Int.tmod cut (((m : Nat) : Int) + 1))).toNat) : Nat) : Int)) (by congr 1; omega) ?_
      refine join_next (((Int.tmod cut (((m : Nat) : Int) + 1))).toNat) (by omega) (by exact ⟨rfl, rfl, rfl, rfl, rfl, trivial⟩) (by (try simp only [List.cons_append, List.nil_append]); (repeat ((with_reducible apply Takes.cons); focus (first | (with_reducible (repeat (first | exact Take.here | apply Take.there)); done) | (repeat (first | exact Take.here | apply Take.there))))); (repeat (first | exact Takes.nil | exact Takes.self | refine takes_drop2 ?_)))
  · skip
    rintro kk hkk
    try simp only [List.cons_append, List.nil_append]
    refine c_seq ?_
    refine c_draw rfl (.q 0 (.q 1 (.q 2 (.q 3 ((.l 4 [] (.q 5 (.q 6 (.q 7 (.q 8 (.q 9 (.done)))))))))))) (by kernel_rfl) ?_
    refine q_loadN_c rfl rfl rfl rfl Try.isAgg25 Try.sizeOf25 (by with_reducible (repeat (first | exact Take.here | apply Take.there))) 0 (us := [_, _, _, _, _]) (by first | rfl | exact (Nat.add_zero _).symm) rfl rfl ?_
    refine q_move rfl rfl rfl rfl ?_
    refine q_move rfl rfl rfl rfl ?_
    refine q_cut_hi (h' := kk) rfl rfl rfl rfl rfl Try.underlying26 Try.sizeOf32 (by first | rfl | omega) (by omega) ?_
    have sp_2 := least_spec th va vo lk pl ao n c A (hr) (by first | rfl | assumption | omega | (simp; done) | (simp; omega)) (by omega) (es.take kk) eo kk ec (rds_take (he) enc3_len kk) (by simp; omega) (by omega)
    refine l_call rfl rfl rfl rfl rfl rfl Try.call12 (sp_2) (by (repeat ((with_reducible apply Takes.cons); focus (first | (with_reducible (repeat (first | exact Take.here | apply Take.there)); done) | (repeat (first | exact Take.here | apply Take.there))))); exact Takes.nil) ?_
    rintro ⟨⟩ -
    try simp only [List.cons_append, List.nil_append]
    refine ag_nil ?_
    refine s_eq 70 rfl (v' := .tuple #[.int .i64 ((min nn kk : Nat) : Int), .int .i64 0]) (by rw [if_pos hok, lsR, if_pos hok, leastN_take _ _ (by omega), ← hnn]) ?_
    refine q_move rfl rfl rfl rfl ?_
    refine q_extract rfl rfl rfl rfl rfl ?_
    refine q_extract rfl rfl rfl rfl rfl ?_
    refine q_assign rfl rfl rfl rfl ?_
    refine q_assign rfl rfl rfl rfl ?_
    refine r_done ?_
    refine s_keep [3, 4, 5, 7, 9, 10, 11] (e' := [(3, _), (4, _), (5, _), (7, _), (9, _), (10, _), (11, _)]) rfl ?_
    refine k_then_n ?_
    refine c_seq ?_
    refine c_seq ?_
    refine c_plain (.q 0 (.q 1 (.q 2 (.q 3 (.q 4 (.q 5 (.q 6 (.q 7 (.q 8 (.done)))))))))) (by kernel_rfl) ?_
    refine q_move rfl rfl rfl rfl ?_
    refine q_int rfl rfl rfl rfl rfl (b_neq _ _ _ _) ?_
    refine s_eq 74 rfl (v' := .bool false) (by first | rfl | simp) ?_
    refine q_move rfl rfl rfl rfl ?_
    refine q_move rfl rfl rfl rfl ?_
    refine q_move rfl rfl rfl rfl ?_
    refine q_move rfl rfl rfl rfl ?_
    refine q_min rfl rfl rfl rfl rfl ?_
    refine q_int rfl rfl rfl rfl rfl (b_neq _ _ _ _) ?_
    refine q_pick_f rfl rfl rfl rfl rfl ?_
    refine r_done ?_
    refine s_keep [3, 4, 5, 7, 81] (e' := [(3, _), (4, _), (5, _), (7, _), (81, _)]) rfl ?_
    refine k_then_n ?_
    refine c_cond_p rfl (fun hg => by exfalso; omega) (fun hg => ?_)
    refine c_skip ?_
    refine k_then_n ?_
    refine c_seq ?_
    refine c_plain (.q 0 ((.l 1 [] (.q 2 ((.l 3 [] (.q 4 (.done)))))))) (by kernel_rfl) ?_
    refine q_move rfl rfl rfl rfl ?_
    refine s_heap (fun _ h => own_nil (sz := 3) (enc := enc3) h) ?_
    refine l_append (sz := 3) (enc := enc3) (xs := []) rfl rfl rfl rfl rfl Try.underlying26 Try.typeInfo32 rfl rfl rfl (by decide) (by with_reducible (repeat (first | exact Take.here | apply Take.there))) (by with_reducible (repeat (first | exact Take.here | apply Take.there))) (by first | rfl | omega | (simp; done) | (simp; omega)) (ys := es) (he) (by rfl) (by first | rfl | omega) (enc3_len) (enc3_one) (by omega) (by show _ * 24 ≤ _; omega) ?_
    intro ao83 cp83
    try simp only [List.nil_append]
    refine ag_nil ?_
    refine q_move rfl rfl rfl rfl ?_
    refine l_append (sz := 3) (enc := enc3) (xs := (es)) rfl rfl rfl rfl rfl Try.underlying26 Try.typeInfo32 rfl rfl rfl (by decide) (by with_reducible (repeat (first | exact Take.here | apply Take.there))) (by with_reducible (repeat (first | exact Take.here | apply Take.there))) (by first | rfl | omega | (simp; done) | (simp; omega)) (ys := ms) (hms) (by rfl) (by first | rfl | omega) (enc3_len) (enc3_one) (by omega) (by show _ * 24 ≤ _; omega) ?_
    intro ao85 cp85
    refine ag_nil ?_
    refine q_assign rfl rfl rfl rfl ?_
    refine r_done ?_
    refine s_keep [3, 4, 7, 12] (e' := [(3, _), (4, _), (7, _), (12, _)]) rfl ?_
    refine k_then_n ?_
    refine c_seq ?_
    obtain ⟨ll, hll⟩ : ∃ ll, ll = leastN (newF th va vo lk pl) (es ++ ms) := ⟨_, rfl⟩
    obtain ⟨hl1, hl2⟩ := leastN_app (newF th va vo lk pl) es ms
    rw [← hll, ← hnn] at hl1 hl2
    refine c_plain (.q 0 (.q 1 ((.l 2 [] (.q 3 (.q 4 (.q 5 (.q 6 (.q 7 (.done)))))))))) (by kernel_rfl) ?_
    refine q_loadN_c rfl rfl rfl rfl Try.isAgg25 Try.sizeOf25 (by with_reducible (repeat (first | exact Take.here | apply Take.there))) 0 (us := [_, _, _, _, _]) (by first | rfl | exact (Nat.add_zero _).symm) rfl rfl ?_
    refine q_move rfl rfl rfl rfl ?_
    refine s_take (A := own 3 enc3 ao85 cp85 ((es) ++ ms)) (by with_reducible (repeat (first | exact Take.here | apply Take.there))) ?_
    refine own_fc fun f_3a f_3b f_3c => ?_
    refine s_heap (fun _ h => Bun.fold ((by (repeat ((with_reducible apply Takes.cons); focus (first | (with_reducible (repeat (first | exact Take.here | apply Take.there)); done) | (repeat (first | exact Take.here | apply Take.there))))); exact Takes.nil : Takes _ [A, own 3 enc3 ao85 cp85 ((es) ++ ms)] _) _ h)) ?_
    have sp_4 := least_spec th va vo lk pl ao n c (Bun [A, own 3 enc3 ao85 cp85 ((es) ++ ms)]) (rds_bun (List.mem_cons_self) (hr)) (by first | rfl | assumption | omega | (simp; done) | (simp; omega)) (by omega) ((es) ++ ms) ao85 ((0 + m) + m2) cp85 (rds_bun (List.mem_cons_of_mem _ (List.mem_cons_self)) (rds_own enc3_len (fun h => (f_3b h).1) f_3c)) (by simp; omega) (by omega)
    refine l_call rfl rfl rfl rfl rfl rfl Try.call12 (sp_4) (by (repeat ((with_reducible apply Takes.cons); focus (first | (with_reducible (repeat (first | exact Take.here | apply Take.there)); done) | (repeat (first | exact Take.here | apply Take.there))))); exact Takes.nil) ?_
    rintro ⟨⟩ -
    try simp only [List.cons_append, List.nil_append]
    refine s_take (A := Bun [A, own 3 enc3 ao85 cp85 ((es) ++ ms)]) (by with_reducible (repeat (first | exact Take.here | apply Take.there))) ?_
    refine s_bun ?_
    try simp only [List.cons_append, List.nil_append]
    try simp only [List.cons_append, List.nil_append]
    refine ag_nil ?_
    refine s_eq 89 rfl (v' := .tuple #[.int .i64 ((ll : Nat) : Int), .int .i64 0]) (by rw [if_pos hok, lsR, if_pos hok, ← hll]) ?_
    refine q_move rfl rfl rfl rfl ?_
    refine q_extract rfl rfl rfl rfl rfl ?_
    refine q_extract rfl rfl rfl rfl rfl ?_
    refine q_assign rfl rfl rfl rfl ?_
    refine q_assign rfl rfl rfl rfl ?_
    refine r_done ?_
    refine s_keep [3, 4, 7, 13, 14] (e' := [(3, _), (4, _), (7, _), (13, _), (14, _)]) rfl ?_
    refine k_then_n ?_
    refine c_seq ?_
    refine c_seq ?_
    refine c_plain (.q 0 (.q 1 (.q 2 (.q 3 (.q 4 (.q 5 (.q 6 (.q 7 (.q 8 (.q 9 (.q 10 (.q 11 (.q 12 (.q 13 (.q 14 (.q 15 (.q 16 (.q 17 (.done))))))))))))))))))) (by kernel_rfl) ?_
    refine q_move rfl rfl rfl rfl ?_
    refine q_int rfl rfl rfl rfl rfl (b_neq _ _ _ _) ?_
    refine s_eq 93 rfl (v' := .bool false) (by first | rfl | simp) ?_
    refine q_move rfl rfl rfl rfl ?_
    refine q_move rfl rfl rfl rfl ?_
    refine q_move rfl rfl rfl rfl ?_
    refine q_len rfl rfl rfl rfl Try.underlying26 ?_
    refine q_int rfl rfl rfl rfl rfl (b_lss _ _ _ _) ?_
    refine q_move rfl rfl rfl rfl ?_
    refine s_bool_p 99 rfl (fun hlt => ?_) (fun hlt => ?_)
    · skip
      refine q_move rfl rfl rfl rfl ?_
      refine q_move rfl rfl rfl rfl ?_
      refine q_int rfl rfl rfl rfl rfl (b_neq _ _ _ _) ?_
      refine q_pick_t rfl rfl rfl rfl rfl ?_
      refine q_pick_f rfl rfl rfl rfl rfl ?_
      refine q_move rfl rfl rfl rfl ?_
      refine s_bool_p 105 rfl (fun hg => by exfalso; have := hl2 (by omega); omega) (fun hg => ?_)
      refine q_move rfl rfl rfl rfl ?_
      refine q_move rfl rfl rfl rfl ?_
      refine q_int rfl rfl rfl rfl rfl (b_lss _ _ _ _) ?_
      refine q_pick_f rfl rfl rfl rfl rfl ?_
      refine r_done ?_
      refine s_keep [3, 4, 7, 109] (e' := [(3, _), (4, _), (7, _), (109, _)]) rfl ?_
      refine k_then_n ?_
      refine c_cond_p rfl (fun hg => by exfalso; omega) (fun hg => ?_)
      refine c_skip ?_
      refine k_then_n ?_
      refine c_seq ?_
      refine c_plain (.q 0 ((.l 1 [] (.q 2 (.q 3 (.q 4 (.q 5 (.q 6 (.done))))))))) (by kernel_rfl) ?_
      refine q_loadN_c rfl rfl rfl rfl Try.isAgg25 Try.sizeOf25 (by with_reducible (repeat (first | exact Take.here | apply Take.there))) 0 (us := [_, _, _, _, _]) (by first | rfl | exact (Nat.add_zero _).symm) rfl rfl ?_
      have sp_5 := new_spec th va vo lk pl ao n c A (hr) (by first | rfl | assumption | omega | (simp; done) | (simp; omega)) (by omega) hok
      refine l_call rfl rfl rfl rfl rfl rfl Try.call17 (sp_5) (by (repeat ((with_reducible apply Takes.cons); focus (first | (with_reducible (repeat (first | exact Take.here | apply Take.there)); done) | (repeat (first | exact Take.here | apply Take.there))))); exact Takes.nil) ?_
      rintro ⟨b9, b9p, b9c⟩ -
      try simp only [List.cons_append, List.nil_append]
      refine ag_nil ?_
      refine q_move rfl rfl rfl rfl ?_
      refine q_extract rfl rfl rfl rfl rfl ?_
      refine q_extract rfl rfl rfl rfl rfl ?_
      refine q_assign rfl rfl rfl rfl ?_
      refine q_assign rfl rfl rfl rfl ?_
      refine r_done ?_
      refine s_keep [4, 7, 15, 16] (e' := [(4, _), (7, _), (15, _), (16, _)]) rfl ?_
      refine k_then_n ?_
      refine c_seq ?_
      refine c_seq ?_
      refine c_plain (.q 0 (.q 1 (.q 2 (.q 3 (.q 4 (.q 5 (.done))))))) (by kernel_rfl) ?_
      refine q_move rfl rfl rfl rfl ?_
      refine q_int rfl rfl rfl rfl rfl (b_neq _ _ _ _) ?_
      refine s_eq 116 rfl (v' := .bool false) (by first | rfl | simp) ?_
      refine q_move rfl rfl rfl rfl ?_
      refine q_move rfl rfl rfl rfl ?_
      refine q_eq_nil rfl rfl rfl rfl Try.underlying42 ?_
      refine s_eq 119 rfl (v' := .bool false) rfl ?_
      refine q_pick_f rfl rfl rfl rfl rfl ?_
      refine r_done ?_
      refine s_keep [4, 7, 15, 120] (e' := [(4, _), (7, _), (15, _), (120, _)]) rfl ?_
      refine k_then_n ?_
      refine c_cond_f rfl ?_
      refine c_skip ?_
      refine k_then_n ?_
      refine c_seq ?_
      refine c_seq ?_
      refine c_plain (.q 0 (.done)) (by kernel_rfl) ?_
      refine q_assign rfl rfl rfl rfl ?_
      refine r_done ?_
      refine k_then_n ?_
      refine c_block ?_
      refine c_loop2 (α := Nat) (fun (i : Nat) => i ≤ nn) (fun (i : Nat) => [(17, .int .i64 ((i : Nat) : Int))]) (fun (i : Nat) => [ck b9p b9c b9 (sN (newF th va vo lk pl) es i), own 1 encZ b9p b9c pl]) (fun (i : Nat) => nn - i) [4, 7, 15] (er := [(4, _), (7, _), (15, _)]) rfl (0) ?_ (by exact ⟨rfl, trivial⟩) (by (try dsimp only); rw [sN_zero]; (repeat ((with_reducible apply Takes.cons); focus (first | (with_reducible (repeat (first | exact Take.here | apply Take.there)); done) | (repeat (first | exact Take.here | apply Take.there))))); exact Takes.nil) ?_
      · exact Nat.zero_le _
      rintro i hle_i
      try simp only [List.cons_append, List.nil_append]
      have hsn := (sN_n (newF th va vo lk pl) es i).2
      refine c_seq ?_
      refine c_seq ?_
      refine c_plain (.q 0 (.q 1 (.q 2 (.done)))) (by kernel_rfl) ?_
      refine q_move rfl rfl rfl rfl ?_
      refine q_move rfl rfl rfl rfl ?_
      refine q_int rfl rfl rfl rfl rfl (b_lss _ _ _ _) ?_
      refine r_done ?_
      refine k_then_n ?_
      refine c_cond_p rfl (fun hlt6 => ?_) (fun hlt6 => ?_)
      · skip
        refine c_skip ?_
        refine k_then_n ?_
        refine c_seq ?_
        refine c_block ?_
        refine c_seq ?_
        obtain ⟨ev, hev⟩ := get_lt (l := es) (i := i) (by omega)
        have hcn := hn2 i ev (by omega) hev
        refine c_plain (.q 0 (.q 1 (.q 2 (.q 3 (.q 4 ((.l 5 [] (.q 6 (.q 7 (.q 8 (.q 9 (.q 10 (.q 11 (.q 12 ((.l 13 [] (.q 14 (.q 15 (.done))))))))))))))))))) (by kernel_rfl) ?_
        refine q_move rfl rfl rfl rfl ?_
        refine q_move rfl rfl rfl rfl ?_
        refine q_move rfl rfl rfl rfl ?_
        refine q_idxR (sz := 2) (k := i) rfl rfl rfl rfl rfl Try.underlying26 Try.sizeOf32 (he) hev enc3_len (by first | rfl | omega) (by omega) ?_
        intro ib129 io129 _ hd129
        refine q_loadN (vs := [_, _, _]) rfl rfl rfl rfl Try.isAgg32 Try.sizeOf32 (by with_reducible (repeat (first | exact Take.here | apply Take.there))) (hd129) rfl ?_
        have sp_6 := can_spec b9p b9c b9 (sN (newF th va vo lk pl) es i) (sN_inv (new_inv hok) es i) ev.1 ev.2.1 ev.2.2
        refine l_call rfl rfl rfl rfl rfl rfl Try.call18 (sp_6) (by (repeat ((with_reducible apply Takes.cons); focus (first | (with_reducible (repeat (first | exact Take.here | apply Take.there)); done) | (repeat (first | exact Take.here | apply Take.there))))); exact Takes.nil) ?_
        rintro ⟨⟩ -
        try simp only [List.cons_append, List.nil_append]
        refine ag_nil ?_
        refine q_not rfl rfl rfl rfl ?_
        refine q_move rfl rfl rfl rfl ?_
        refine s_bool_np 133 rfl (fun hg => by exfalso; exact hg hcn) (fun hg => ?_)
        refine q_move rfl rfl rfl rfl ?_
        refine q_move rfl rfl rfl rfl ?_
        refine q_move rfl rfl rfl rfl ?_
        refine q_idxR (sz := 2) (k := i) rfl rfl rfl rfl rfl Try.underlying26 Try.sizeOf32 (he) hev enc3_len (by first | rfl | omega) (by omega) ?_
        intro ib137 io137 _ hd137
        refine q_loadN (vs := [_, _, _]) rfl rfl rfl rfl Try.isAgg32 Try.sizeOf32 (by with_reducible (repeat (first | exact Take.here | apply Take.there))) (hd137) rfl ?_
        have sp_7 := next_spec b9p b9c b9 (sN (newF th va vo lk pl) es i) (sN_inv (new_inv hok) es i) (by omega) pl (((sN_sh _ _ _).1)) ev.1 ev.2.1 ev.2.2
        refine l_call rfl rfl rfl rfl rfl rfl Try.call19 (sp_7) (by (repeat ((with_reducible apply Takes.cons); focus (first | (with_reducible (repeat (first | exact Take.here | apply Take.there)); done) | (repeat (first | exact Take.here | apply Take.there))))); exact Takes.nil) ?_
        rintro ⟨⟩ -
        try simp only [List.cons_append, List.nil_append]
        refine ag_nil ?_
        refine s_eq 139 rfl (v' := .int .i64 0) (by rw [nxE, if_pos hcn]) ?_
        refine q_int rfl rfl rfl rfl rfl (b_neq _ _ _ _) ?_
        refine s_eq 140 rfl (v' := .bool false) (by first | rfl | simp) ?_
        refine q_pick_f rfl rfl rfl rfl rfl ?_
        refine r_done ?_
        refine s_keep [4, 7, 15, 17, 134, 135, 136, 137, 138, 139, 140, 141] (e' := [(4, _), (7, _), (15, _), (17, _), (134, _), (135, _), (136, _), (137, _), (138, _), (139, _), (140, _), (141, _)]) rfl ?_
        refine k_then_n ?_
        refine c_cond_f rfl ?_
        refine c_skip ?_
        refine k_blk_n ?_
        refine k_then_n ?_
        refine c_plain (.q 0 (.q 1 (.q 2 (.done)))) (by kernel_rfl) ?_
        refine q_move rfl rfl rfl rfl ?_
        refine q_int rfl rfl rfl rfl rfl (b_add' _ (by (first | exact fits_i64 (by omega) (by omega) | exact fits_u64 (by omega) (by omega) | exact fits_u32 (by omega) (by omega) | exact fits_u8 (by omega) (by omega)))) ?_
        refine q_assign rfl rfl rfl rfl ?_
        refine r_done ?_
        refine k_then_n ?_
        rw [← sN_next hev]
        refine loop_next (x := i) (i + 1) ?_ ?_ ?_ ?_
        · exact by show i + 1 ≤ nn; omega
        · show nn - (i + 1) < nn - i; omega
        · exact ⟨rfl, rfl, rfl, rfl, trivial⟩
        · (try simp only [List.cons_append, List.nil_append]); (repeat ((with_reducible apply Takes.cons); focus (first | (with_reducible (repeat (first | exact Take.here | apply Take.there)); done) | (repeat (first | exact Take.here | apply Take.there))))); (repeat (first | exact Takes.nil | exact Takes.self | refine takes_drop2 ?_))
      · skip
        refine c_exit ?_
        refine k_then_exit ?_
        refine k_then_exit ?_
        refine k_blk_here ?_
        refine k_then_n ?_
        refine c_seq ?_
        refine c_seq ?_
        obtain rfl : i = nn := by omega
        have hsn := (sN_n (newF th va vo lk pl) es i).2
        refine c_plain (.q 0 (.q 1 (.q 2 (.q 3 (.q 4 (.q 5 (.q 6 (.q 7 (.q 8 (.q 9 ((.l 10 [] (.q 11 (.q 12 (.q 13 (.q 14 (.q 15 (.q 16 ((.l 17 [] (.q 18 (.q 19 (.q 20 (.done)))))))))))))))))))))))) (by kernel_rfl) ?_
        refine q_move rfl rfl rfl rfl ?_
        refine q_move rfl rfl rfl rfl ?_
        refine q_len rfl rfl rfl rfl Try.underlying26 ?_
        refine q_int rfl rfl rfl rfl rfl (b_lss _ _ _ _) ?_
        refine q_move rfl rfl rfl rfl ?_
        refine s_bool_p 146 rfl (fun hlt7 => ?_) (fun hlt7 => ?_)
        · skip
          obtain ⟨ev, hev⟩ := get_lt (l := es) (i := i) (by omega)
          have hcn := hn3 ev hev
          refine q_move rfl rfl rfl rfl ?_
          refine q_move rfl rfl rfl rfl ?_
          refine q_move rfl rfl rfl rfl ?_
          refine q_idxR (sz := 2) (k := i) rfl rfl rfl rfl rfl Try.underlying26 Try.sizeOf32 (he) hev enc3_len (by first | rfl | omega) (by omega) ?_
          intro ib150 io150 _ hd150
          refine q_loadN (vs := [_, _, _]) rfl rfl rfl rfl Try.isAgg32 Try.sizeOf32 (by with_reducible (repeat (first | exact Take.here | apply Take.there))) (hd150) rfl ?_
          have sp_8 := can_spec b9p b9c b9 (sN (newF th va vo lk pl) es i) (sN_inv (new_inv hok) es i) ev.1 ev.2.1 ev.2.2
          refine l_call rfl rfl rfl rfl rfl rfl Try.call18 (sp_8) (by (repeat ((with_reducible apply Takes.cons); focus (first | (with_reducible (repeat (first | exact Take.here | apply Take.there)); done) | (repeat (first | exact Take.here | apply Take.there))))); exact Takes.nil) ?_
          rintro ⟨⟩ -
          try simp only [List.cons_append, List.nil_append]
          refine ag_nil ?_
          refine q_move rfl rfl rfl rfl ?_
          refine s_bool_p 153 rfl (fun hg => by exfalso; exact hcn hg) (fun hg => ?_)
          refine q_move rfl rfl rfl rfl ?_
          refine q_move rfl rfl rfl rfl ?_
          refine q_move rfl rfl rfl rfl ?_
          refine q_idxR (sz := 2) (k := i) rfl rfl rfl rfl rfl Try.underlying26 Try.sizeOf32 (he) hev enc3_len (by first | rfl | omega) (by omega) ?_
          intro ib157 io157 _ hd157
          refine q_loadN (vs := [_, _, _]) rfl rfl rfl rfl Try.isAgg32 Try.sizeOf32 (by with_reducible (repeat (first | exact Take.here | apply Take.there))) (hd157) rfl ?_
          have sp_9 := next_spec b9p b9c b9 (sN (newF th va vo lk pl) es i) (sN_inv (new_inv hok) es i) (by omega) pl (((sN_sh _ _ _).1)) ev.1 ev.2.1 ev.2.2
          refine l_call rfl rfl rfl rfl rfl rfl Try.call19 (sp_9) (by (repeat ((with_reducible apply Takes.cons); focus (first | (with_reducible (repeat (first | exact Take.here | apply Take.there)); done) | (repeat (first | exact Take.here | apply Take.there))))); exact Takes.nil) ?_
          rintro ⟨⟩ -
          try simp only [List.cons_append, List.nil_append]
          refine ag_nil ?_
          refine s_eq 159 rfl (v' := .int .i64 6) (by rw [nxE, if_neg hcn]) ?_
          rw [show nxF (sN (newF th va vo lk pl) es i) ev.1 ev.2.1 ev.2.2 = (sN (newF th va vo lk pl) es i) from if_neg hcn]
          refine q_int rfl rfl rfl rfl rfl (b_neq _ _ _ _) ?_
          refine s_eq 160 rfl (v' := .bool false) (by first | rfl | simp) ?_
          refine q_pick_f rfl rfl rfl rfl rfl ?_
          refine q_pick_t rfl rfl rfl rfl rfl ?_
          refine r_done ?_
          refine s_keep [7, 15, 162] (e' := [(7, _), (15, _), (162, _)]) rfl ?_
          refine k_then_n ?_
          refine c_cond_f rfl ?_
          refine c_skip ?_
          refine k_then_n ?_
          refine c_seq ?_
          refine c_plain (.q 0 ((.l 1 [] (.q 2 (.q 3 (.q 4 ((.l 5 [] (.q 6 (.q 7 (.done))))))))))) (by kernel_rfl) ?_
          refine q_move rfl rfl rfl rfl ?_
          have sp_10 := len_spec b9p b9c b9 (sN (newF th va vo lk pl) es i)
          refine l_call rfl rfl rfl rfl rfl rfl Try.call20 (sp_10) (by (repeat ((with_reducible apply Takes.cons); focus (first | (with_reducible (repeat (first | exact Take.here | apply Take.there)); done) | (repeat (first | exact Take.here | apply Take.there))))); exact Takes.nil) ?_
          rintro ⟨⟩ -
          try simp only [List.cons_append, List.nil_append]
          refine ag_nil ?_
          refine s_eq 164 rfl (v' := .int .i64 ((i : Nat) : Int)) (by rw [sN_n_all hn1 hn2, hz0, Int.zero_add]) ?_
          refine q_move rfl rfl rfl rfl ?_
          refine q_int rfl rfl rfl rfl rfl (b_eql _ _ _ _) ?_
          refine q_move rfl rfl rfl rfl ?_
          refine s_bool_p 167 rfl (fun hg => ?_) (fun hg => by exfalso; exact hg rfl)
          refine l_call rfl rfl rfl rfl rfl rfl Try.call16 (known_spec) (by (repeat ((with_reducible apply Takes.cons); focus (first | (with_reducible (repeat (first | exact Take.here | apply Take.there)); done) | (repeat (first | exact Take.here | apply Take.there))))); exact Takes.nil) ?_
          rintro ⟨⟩ -
          try simp only [List.cons_append, List.nil_append]
          refine ag_nil ?_
          refine q_pick_t rfl rfl rfl rfl rfl ?_
          refine q_assign rfl rfl rfl rfl ?_
          refine r_done ?_
          refine s_keep [2] (e' := [(2, _)]) rfl ?_
          refine k_then_n ?_
          refine c_ret ?_
          refine ret1 rfl rfl (()) (by first | rfl | (first | rfl | (congr 1; done) | (congr 1 <;> first | rfl | omega | (simp; done) | (simp; omega)))) (by trivial) ?_
          (repeat ((with_reducible apply Takes.cons); focus (first | (with_reducible (repeat (first | exact Take.here | apply Take.there)); done) | (repeat (first | exact Take.here | apply Take.there))))); (repeat (first | exact Takes.nil | exact Takes.self | refine takes_drop2 ?_))
        · skip
          refine q_skip rfl rfl rfl rfl ?_
          refine q_skip rfl rfl rfl rfl ?_
          refine q_skip rfl rfl rfl rfl ?_
          refine q_skip rfl rfl rfl rfl ?_
          refine q_skip rfl rfl rfl rfl ?_
          refine l_skip rfl rfl rfl rfl ?_
          refine q_skip rfl rfl rfl rfl ?_
          refine q_skip rfl rfl rfl rfl ?_
          refine q_skip rfl rfl rfl rfl ?_
          refine q_skip rfl rfl rfl rfl ?_
          refine q_skip rfl rfl rfl rfl ?_
          refine q_skip rfl rfl rfl rfl ?_
          refine l_skip rfl rfl rfl rfl ?_
          refine q_skip rfl rfl rfl rfl ?_
          refine q_skip rfl rfl rfl rfl ?_
          refine q_pick_f rfl rfl rfl rfl rfl ?_
          refine r_done ?_
          refine s_keep [7, 15, 162] (e' := [(7, _), (15, _), (162, _)]) rfl ?_
          refine k_then_n ?_
          refine c_cond_f rfl ?_
          refine c_skip ?_
          refine k_then_n ?_
          refine c_seq ?_
          refine c_plain (.q 0 ((.l 1 [] (.q 2 (.q 3 (.q 4 ((.l 5 [] (.q 6 (.q 7 (.done))))))))))) (by kernel_rfl) ?_
          refine q_move rfl rfl rfl rfl ?_
          have sp_11 := len_spec b9p b9c b9 (sN (newF th va vo lk pl) es i)
          refine l_call rfl rfl rfl rfl rfl rfl Try.call20 (sp_11) (by (repeat ((with_reducible apply Takes.cons); focus (first | (with_reducible (repeat (first | exact Take.here | apply Take.there)); done) | (repeat (first | exact Take.here | apply Take.there))))); exact Takes.nil) ?_
          rintro ⟨⟩ -
          try simp only [List.cons_append, List.nil_append]
          refine ag_nil ?_
          refine s_eq 164 rfl (v' := .int .i64 ((i : Nat) : Int)) (by rw [sN_n_all hn1 hn2, hz0, Int.zero_add]) ?_
          refine q_move rfl rfl rfl rfl ?_
          refine q_int rfl rfl rfl rfl rfl (b_eql _ _ _ _) ?_
          refine q_move rfl rfl rfl rfl ?_
          refine s_bool_p 167 rfl (fun hg => ?_) (fun hg => by exfalso; exact hg rfl)
          refine l_call rfl rfl rfl rfl rfl rfl Try.call16 (known_spec) (by (repeat ((with_reducible apply Takes.cons); focus (first | (with_reducible (repeat (first | exact Take.here | apply Take.there)); done) | (repeat (first | exact Take.here | apply Take.there))))); exact Takes.nil) ?_
          rintro ⟨⟩ -
          try simp only [List.cons_append, List.nil_append]
          refine ag_nil ?_
          refine q_pick_t rfl rfl rfl rfl rfl ?_
          refine q_assign rfl rfl rfl rfl ?_
          refine r_done ?_
          refine s_keep [2] (e' := [(2, _)]) rfl ?_
          refine k_then_n ?_
          refine c_ret ?_
          refine ret1 rfl rfl (()) (by first | rfl | (first | rfl | (congr 1; done) | (congr 1 <;> first | rfl | omega | (simp; done) | (simp; omega)))) (by trivial) ?_
          (repeat ((with_reducible apply Takes.cons); focus (first | (with_reducible (repeat (first | exact Take.here | apply Take.there)); done) | (repeat (first | exact Take.here | apply Take.there))))); (repeat (first | exact Takes.nil | exact Takes.self | refine takes_drop2 ?_))
    · skip
      refine q_skip rfl rfl rfl rfl ?_
      refine q_skip rfl rfl rfl rfl ?_
      refine q_skip rfl rfl rfl rfl ?_
      refine q_pick_f rfl rfl rfl rfl rfl ?_
      refine q_pick_f rfl rfl rfl rfl rfl ?_
      refine q_move rfl rfl rfl rfl ?_
      refine q_move rfl rfl rfl rfl ?_
      refine q_move rfl rfl rfl rfl ?_
      refine q_int rfl rfl rfl rfl rfl (b_lss _ _ _ _) ?_
      refine q_pick_f rfl rfl rfl rfl rfl ?_
      refine r_done ?_
      refine s_keep [3, 4, 7, 109] (e' := [(3, _), (4, _), (7, _), (109, _)]) rfl ?_
      refine k_then_n ?_
      refine c_cond_p rfl (fun hg => by exfalso; omega) (fun hg => ?_)
      refine c_skip ?_
      refine k_then_n ?_
      refine c_seq ?_
      refine c_plain (.q 0 ((.l 1 [] (.q 2 (.q 3 (.q 4 (.q 5 (.q 6 (.done))))))))) (by kernel_rfl) ?_
      refine q_loadN_c rfl rfl rfl rfl Try.isAgg25 Try.sizeOf25 (by with_reducible (repeat (first | exact Take.here | apply Take.there))) 0 (us := [_, _, _, _, _]) (by first | rfl | exact (Nat.add_zero _).symm) rfl rfl ?_
      have sp_12 := new_spec th va vo lk pl ao n c A (hr) (by first | rfl | assumption | omega | (simp; done) | (simp; omega)) (by omega) hok
      refine l_call rfl rfl rfl rfl rfl rfl Try.call17 (sp_12) (by (repeat ((with_reducible apply Takes.cons); focus (first | (with_reducible (repeat (first | exact Take.here | apply Take.there)); done) | (repeat (first | exact Take.here | apply Take.there))))); exact Takes.nil) ?_
      rintro ⟨b9, b9p, b9c⟩ -
      try simp only [List.cons_append, List.nil_append]
      refine ag_nil ?_
      refine q_move rfl rfl rfl rfl ?_
      refine q_extract rfl rfl rfl rfl rfl ?_
      refine q_extract rfl rfl rfl rfl rfl ?_
      refine q_assign rfl rfl rfl rfl ?_
      refine q_assign rfl rfl rfl rfl ?_
      refine r_done ?_
      refine s_keep [4, 7, 15, 16] (e' := [(4, _), (7, _), (15, _), (16, _)]) rfl ?_
      refine k_then_n ?_
      refine c_seq ?_
      refine c_seq ?_
      refine c_plain (.q 0 (.q 1 (.q 2 (.q 3 (.q 4 (.q 5 (.done))))))) (by kernel_rfl) ?_
      refine q_move rfl rfl rfl rfl ?_
      refine q_int rfl rfl rfl rfl rfl (b_neq _ _ _ _) ?_
      refine s_eq 116 rfl (v' := .bool false) (by first | rfl | simp) ?_
      refine q_move rfl rfl rfl rfl ?_
      refine q_move rfl rfl rfl rfl ?_
      refine q_eq_nil rfl rfl rfl rfl Try.underlying42 ?_
      refine s_eq 119 rfl (v' := .bool false) rfl ?_
      refine q_pick_f rfl rfl rfl rfl rfl ?_
      refine r_done ?_
      refine s_keep [4, 7, 15, 120] (e' := [(4, _), (7, _), (15, _), (120, _)]) rfl ?_
      refine k_then_n ?_
      refine c_cond_f rfl ?_
      refine c_skip ?_
      refine k_then_n ?_
      refine c_seq ?_
      refine c_seq ?_
      refine c_plain (.q 0 (.done)) (by kernel_rfl) ?_
      refine q_assign rfl rfl rfl rfl ?_
      refine r_done ?_
      refine k_then_n ?_
      refine c_block ?_
      refine c_loop2 (α := Nat) (fun (i : Nat) => i ≤ nn) (fun (i : Nat) => [(17, .int .i64 ((i : Nat) : Int))]) (fun (i : Nat) => [ck b9p b9c b9 (sN (newF th va vo lk pl) es i), own 1 encZ b9p b9c pl]) (fun (i : Nat) => nn - i) [4, 7, 15] (er := [(4, _), (7, _), (15, _)]) rfl (0) ?_ (by exact ⟨rfl, trivial⟩) (by (try dsimp only); rw [sN_zero]; (repeat ((with_reducible apply Takes.cons); focus (first | (with_reducible (repeat (first | exact Take.here | apply Take.there)); done) | (repeat (first | exact Take.here | apply Take.there))))); exact Takes.nil) ?_
      · exact Nat.zero_le _
      rintro i hle_i
      try simp only [List.cons_append, List.nil_append]
      have hsn := (sN_n (newF th va vo lk pl) es i).2
      refine c_seq ?_
      refine c_seq ?_
      refine c_plain (.q 0 (.q 1 (.q 2 (.done)))) (by kernel_rfl) ?_
      refine q_move rfl rfl rfl rfl ?_
      refine q_move rfl rfl rfl rfl ?_
      refine q_int rfl rfl rfl rfl rfl (b_lss _ _ _ _) ?_
      refine r_done ?_
      refine k_then_n ?_
      refine c_cond_p rfl (fun hlt6 => ?_) (fun hlt6 => ?_)
      · skip
        refine c_skip ?_
        refine k_then_n ?_
        refine c_seq ?_
        refine c_block ?_
        refine c_seq ?_
        obtain ⟨ev, hev⟩ := get_lt (l := es) (i := i) (by omega)
        have hcn := hn2 i ev (by omega) hev
        refine c_plain (.q 0 (.q 1 (.q 2 (.q 3 (.q 4 ((.l 5 [] (.q 6 (.q 7 (.q 8 (.q 9 (.q 10 (.q 11 (.q 12 ((.l 13 [] (.q 14 (.q 15 (.done))))))))))))))))))) (by kernel_rfl) ?_
        refine q_move rfl rfl rfl rfl ?_
        refine q_move rfl rfl rfl rfl ?_
        refine q_move rfl rfl rfl rfl ?_
        refine q_idxR (sz := 2) (k := i) rfl rfl rfl rfl rfl Try.underlying26 Try.sizeOf32 (he) hev enc3_len (by first | rfl | omega) (by omega) ?_
        intro ib129 io129 _ hd129
        refine q_loadN (vs := [_, _, _]) rfl rfl rfl rfl Try.isAgg32 Try.sizeOf32 (by with_reducible (repeat (first | exact Take.here | apply Take.there))) (hd129) rfl ?_
        have sp_13 := can_spec b9p b9c b9 (sN (newF th va vo lk pl) es i) (sN_inv (new_inv hok) es i) ev.1 ev.2.1 ev.2.2
        refine l_call rfl rfl rfl rfl rfl rfl Try.call18 (sp_13) (by (repeat ((with_reducible apply Takes.cons); focus (first | (with_reducible (repeat (first | exact Take.here | apply Take.there)); done) | (repeat (first | exact Take.here | apply Take.there))))); exact Takes.nil) ?_
        rintro ⟨⟩ -
        try simp only [List.cons_append, List.nil_append]
        refine ag_nil ?_
        refine q_not rfl rfl rfl rfl ?_
        refine q_move rfl rfl rfl rfl ?_
        refine s_bool_np 133 rfl (fun hg => by exfalso; exact hg hcn) (fun hg => ?_)
        refine q_move rfl rfl rfl rfl ?_
        refine q_move rfl rfl rfl rfl ?_
        refine q_move rfl rfl rfl rfl ?_
        refine q_idxR (sz := 2) (k := i) rfl rfl rfl rfl rfl Try.underlying26 Try.sizeOf32 (he) hev enc3_len (by first | rfl | omega) (by omega) ?_
        intro ib137 io137 _ hd137
        refine q_loadN (vs := [_, _, _]) rfl rfl rfl rfl Try.isAgg32 Try.sizeOf32 (by with_reducible (repeat (first | exact Take.here | apply Take.there))) (hd137) rfl ?_
        have sp_14 := next_spec b9p b9c b9 (sN (newF th va vo lk pl) es i) (sN_inv (new_inv hok) es i) (by omega) pl (((sN_sh _ _ _).1)) ev.1 ev.2.1 ev.2.2
        refine l_call rfl rfl rfl rfl rfl rfl Try.call19 (sp_14) (by (repeat ((with_reducible apply Takes.cons); focus (first | (with_reducible (repeat (first | exact Take.here | apply Take.there)); done) | (repeat (first | exact Take.here | apply Take.there))))); exact Takes.nil) ?_
        rintro ⟨⟩ -
        try simp only [List.cons_append, List.nil_append]
        refine ag_nil ?_
        refine s_eq 139 rfl (v' := .int .i64 0) (by rw [nxE, if_pos hcn]) ?_
        refine q_int rfl rfl rfl rfl rfl (b_neq _ _ _ _) ?_
        refine s_eq 140 rfl (v' := .bool false) (by first | rfl | simp) ?_
        refine q_pick_f rfl rfl rfl rfl rfl ?_
        refine r_done ?_
        refine s_keep [4, 7, 15, 17, 134, 135, 136, 137, 138, 139, 140, 141] (e' := [(4, _), (7, _), (15, _), (17, _), (134, _), (135, _), (136, _), (137, _), (138, _), (139, _), (140, _), (141, _)]) rfl ?_
        refine k_then_n ?_
        refine c_cond_f rfl ?_
        refine c_skip ?_
        refine k_blk_n ?_
        refine k_then_n ?_
        refine c_plain (.q 0 (.q 1 (.q 2 (.done)))) (by kernel_rfl) ?_
        refine q_move rfl rfl rfl rfl ?_
        refine q_int rfl rfl rfl rfl rfl (b_add' _ (by (first | exact fits_i64 (by omega) (by omega) | exact fits_u64 (by omega) (by omega) | exact fits_u32 (by omega) (by omega) | exact fits_u8 (by omega) (by omega)))) ?_
        refine q_assign rfl rfl rfl rfl ?_
        refine r_done ?_
        refine k_then_n ?_
        rw [← sN_next hev]
        refine loop_next (x := i) (i + 1) ?_ ?_ ?_ ?_
        · exact by show i + 1 ≤ nn; omega
        · show nn - (i + 1) < nn - i; omega
        · exact ⟨rfl, rfl, rfl, rfl, trivial⟩
        · (try simp only [List.cons_append, List.nil_append]); (repeat ((with_reducible apply Takes.cons); focus (first | (with_reducible (repeat (first | exact Take.here | apply Take.there)); done) | (repeat (first | exact Take.here | apply Take.there))))); (repeat (first | exact Takes.nil | exact Takes.self | refine takes_drop2 ?_))
      · skip
        refine c_exit ?_
        refine k_then_exit ?_
        refine k_then_exit ?_
        refine k_blk_here ?_
        refine k_then_n ?_
        refine c_seq ?_
        refine c_seq ?_
        obtain rfl : i = nn := by omega
        have hsn := (sN_n (newF th va vo lk pl) es i).2
        refine c_plain (.q 0 (.q 1 (.q 2 (.q 3 (.q 4 (.q 5 (.q 6 (.q 7 (.q 8 (.q 9 ((.l 10 [] (.q 11 (.q 12 (.q 13 (.q 14 (.q 15 (.q 16 ((.l 17 [] (.q 18 (.q 19 (.q 20 (.done)))))))))))))))))))))))) (by kernel_rfl) ?_
        refine q_move rfl rfl rfl rfl ?_
        refine q_move rfl rfl rfl rfl ?_
        refine q_len rfl rfl rfl rfl Try.underlying26 ?_
        refine q_int rfl rfl rfl rfl rfl (b_lss _ _ _ _) ?_
        refine q_move rfl rfl rfl rfl ?_
        refine s_bool_p 146 rfl (fun hlt7 => ?_) (fun hlt7 => ?_)
        · skip
          obtain ⟨ev, hev⟩ := get_lt (l := es) (i := i) (by omega)
          have hcn := hn3 ev hev
          refine q_move rfl rfl rfl rfl ?_
          refine q_move rfl rfl rfl rfl ?_
          refine q_move rfl rfl rfl rfl ?_
          refine q_idxR (sz := 2) (k := i) rfl rfl rfl rfl rfl Try.underlying26 Try.sizeOf32 (he) hev enc3_len (by first | rfl | omega) (by omega) ?_
          intro ib150 io150 _ hd150
          refine q_loadN (vs := [_, _, _]) rfl rfl rfl rfl Try.isAgg32 Try.sizeOf32 (by with_reducible (repeat (first | exact Take.here | apply Take.there))) (hd150) rfl ?_
          have sp_15 := can_spec b9p b9c b9 (sN (newF th va vo lk pl) es i) (sN_inv (new_inv hok) es i) ev.1 ev.2.1 ev.2.2
          refine l_call rfl rfl rfl rfl rfl rfl Try.call18 (sp_15) (by (repeat ((with_reducible apply Takes.cons); focus (first | (with_reducible (repeat (first | exact Take.here | apply Take.there)); done) | (repeat (first | exact Take.here | apply Take.there))))); exact Takes.nil) ?_
          rintro ⟨⟩ -
          try simp only [List.cons_append, List.nil_append]
          refine ag_nil ?_
          refine q_move rfl rfl rfl rfl ?_
          refine s_bool_p 153 rfl (fun hg => by exfalso; exact hcn hg) (fun hg => ?_)
          refine q_move rfl rfl rfl rfl ?_
          refine q_move rfl rfl rfl rfl ?_
          refine q_move rfl rfl rfl rfl ?_
          refine q_idxR (sz := 2) (k := i) rfl rfl rfl rfl rfl Try.underlying26 Try.sizeOf32 (he) hev enc3_len (by first | rfl | omega) (by omega) ?_
          intro ib157 io157 _ hd157
          refine q_loadN (vs := [_, _, _]) rfl rfl rfl rfl Try.isAgg32 Try.sizeOf32 (by with_reducible (repeat (first | exact Take.here | apply Take.there))) (hd157) rfl ?_
          have sp_16 := next_spec b9p b9c b9 (sN (newF th va vo lk pl) es i) (sN_inv (new_inv hok) es i) (by omega) pl (((sN_sh _ _ _).1)) ev.1 ev.2.1 ev.2.2
          refine l_call rfl rfl rfl rfl rfl rfl Try.call19 (sp_16) (by (repeat ((with_reducible apply Takes.cons); focus (first | (with_reducible (repeat (first | exact Take.here | apply Take.there)); done) | (repeat (first | exact Take.here | apply Take.there))))); exact Takes.nil) ?_
          rintro ⟨⟩ -
          try simp only [List.cons_append, List.nil_append]
          refine ag_nil ?_
          refine s_eq 159 rfl (v' := .int .i64 6) (by rw [nxE, if_neg hcn]) ?_
          rw [show nxF (sN (newF th va vo lk pl) es i) ev.1 ev.2.1 ev.2.2 = (sN (newF th va vo lk pl) es i) from if_neg hcn]
          refine q_int rfl rfl rfl rfl rfl (b_neq _ _ _ _) ?_
          refine s_eq 160 rfl (v' := .bool false) (by first | rfl | simp) ?_
          refine q_pick_f rfl rfl rfl rfl rfl ?_
          refine q_pick_t rfl rfl rfl rfl rfl ?_
          refine r_done ?_
          refine s_keep [7, 15, 162] (e' := [(7, _), (15, _), (162, _)]) rfl ?_
          refine k_then_n ?_
          refine c_cond_f rfl ?_
          refine c_skip ?_
          refine k_then_n ?_
          refine c_seq ?_
          refine c_plain (.q 0 ((.l 1 [] (.q 2 (.q 3 (.q 4 ((.l 5 [] (.q 6 (.q 7 (.done))))))))))) (by kernel_rfl) ?_
          refine q_move rfl rfl rfl rfl ?_
          have sp_17 := len_spec b9p b9c b9 (sN (newF th va vo lk pl) es i)
          refine l_call rfl rfl rfl rfl rfl rfl Try.call20 (sp_17) (by (repeat ((with_reducible apply Takes.cons); focus (first | (with_reducible (repeat (first | exact Take.here | apply Take.there)); done) | (repeat (first | exact Take.here | apply Take.there))))); exact Takes.nil) ?_
          rintro ⟨⟩ -
          try simp only [List.cons_append, List.nil_append]
          refine ag_nil ?_
          refine s_eq 164 rfl (v' := .int .i64 ((i : Nat) : Int)) (by rw [sN_n_all hn1 hn2, hz0, Int.zero_add]) ?_
          refine q_move rfl rfl rfl rfl ?_
          refine q_int rfl rfl rfl rfl rfl (b_eql _ _ _ _) ?_
          refine q_move rfl rfl rfl rfl ?_
          refine s_bool_p 167 rfl (fun hg => ?_) (fun hg => by exfalso; exact hg rfl)
          refine l_call rfl rfl rfl rfl rfl rfl Try.call16 (known_spec) (by (repeat ((with_reducible apply Takes.cons); focus (first | (with_reducible (repeat (first | exact Take.here | apply Take.there)); done) | (repeat (first | exact Take.here | apply Take.there))))); exact Takes.nil) ?_
          rintro ⟨⟩ -
          try simp only [List.cons_append, List.nil_append]
          refine ag_nil ?_
          refine q_pick_t rfl rfl rfl rfl rfl ?_
          refine q_assign rfl rfl rfl rfl ?_
          refine r_done ?_
          refine s_keep [2] (e' := [(2, _)]) rfl ?_
          refine k_then_n ?_
          refine c_ret ?_
          refine ret1 rfl rfl (()) (by first | rfl | (first | rfl | (congr 1; done) | (congr 1 <;> first | rfl | omega | (simp; done) | (simp; omega)))) (by trivial) ?_
          (repeat ((with_reducible apply Takes.cons); focus (first | (with_reducible (repeat (first | exact Take.here | apply Take.there)); done) | (repeat (first | exact Take.here | apply Take.there))))); (repeat (first | exact Takes.nil | exact Takes.self | refine takes_drop2 ?_))
        · skip
          refine q_skip rfl rfl rfl rfl ?_
          refine q_skip rfl rfl rfl rfl ?_
          refine q_skip rfl rfl rfl rfl ?_
          refine q_skip rfl rfl rfl rfl ?_
          refine q_skip rfl rfl rfl rfl ?_
          refine l_skip rfl rfl rfl rfl ?_
          refine q_skip rfl rfl rfl rfl ?_
          refine q_skip rfl rfl rfl rfl ?_
          refine q_skip rfl rfl rfl rfl ?_
          refine q_skip rfl rfl rfl rfl ?_
          refine q_skip rfl rfl rfl rfl ?_
          refine q_skip rfl rfl rfl rfl ?_
          refine l_skip rfl rfl rfl rfl ?_
          refine q_skip rfl rfl rfl rfl ?_
          refine q_skip rfl rfl rfl rfl ?_
          refine q_pick_f rfl rfl rfl rfl rfl ?_
          refine r_done ?_
          refine s_keep [7, 15, 162] (e' := [(7, _), (15, _), (162, _)]) rfl ?_
          refine k_then_n ?_
          refine c_cond_f rfl ?_
          refine c_skip ?_
          refine k_then_n ?_
          refine c_seq ?_
          refine c_plain (.q 0 ((.l 1 [] (.q 2 (.q 3 (.q 4 ((.l 5 [] (.q 6 (.q 7 (.done))))))))))) (by kernel_rfl) ?_
          refine q_move rfl rfl rfl rfl ?_
          have sp_18 := len_spec b9p b9c b9 (sN (newF th va vo lk pl) es i)
          refine l_call rfl rfl rfl rfl rfl rfl Try.call20 (sp_18) (by (repeat ((with_reducible apply Takes.cons); focus (first | (with_reducible (repeat (first | exact Take.here | apply Take.there)); done) | (repeat (first | exact Take.here | apply Take.there))))); exact Takes.nil) ?_
          rintro ⟨⟩ -
          try simp only [List.cons_append, List.nil_append]
          refine ag_nil ?_
          refine s_eq 164 rfl (v' := .int .i64 ((i : Nat) : Int)) (by rw [sN_n_all hn1 hn2, hz0, Int.zero_add]) ?_
          refine q_move rfl rfl rfl rfl ?_
          refine q_int rfl rfl rfl rfl rfl (b_eql _ _ _ _) ?_
          refine q_move rfl rfl rfl rfl ?_
          refine s_bool_p 167 rfl (fun hg => ?_) (fun hg => by exfalso; exact hg rfl)
          refine l_call rfl rfl rfl rfl rfl rfl Try.call16 (known_spec) (by (repeat ((with_reducible apply Takes.cons); focus (first | (with_reducible (repeat (first | exact Take.here | apply Take.there)); done) | (repeat (first | exact Take.here | apply Take.there))))); exact Takes.nil) ?_
          rintro ⟨⟩ -
          try simp only [List.cons_append, List.nil_append]
          refine ag_nil ?_
          refine q_pick_t rfl rfl rfl rfl rfl ?_
          refine q_assign rfl rfl rfl rfl ?_
          refine r_done ?_
          refine s_keep [2] (e' := [(2, _)]) rfl ?_
          refine k_then_n ?_
          refine c_ret ?_
          refine ret1 rfl rfl (()) (by first | rfl | (first | rfl | (congr 1; done) | (congr 1 <;> first | rfl | omega | (simp; done) | (simp; omega)))) (by trivial) ?_
          (repeat ((with_reducible apply Takes.cons); focus (first | (with_reducible (repeat (first | exact Take.here | apply Take.there)); done) | (repeat (first | exact Take.here | apply Take.there))))); (repeat (first | exact Takes.nil | exact Takes.self | refine takes_drop2 ?_))

theorem begins_bad (th va vo lk : Int) (pl : List Int) (ao : Option Addr) (n c : Nat) (A : HProp) (hr : RdS A ao (pl.flatMap encZ)) (hn : pl.length = n) (hb : n ≤ 4000000) (es : List T3) (eo : Option Addr) (m ec : Nat) (he : RdS A eo (es.flatMap enc3)) (hm : es.length = m) (hmb : m ≤ 4000000) (ms : List T3) (mo : Option Addr) (m2 mc : Nat) (hms : RdS A mo (ms.flatMap enc3)) (hm2 : ms.length = m2) (hm2b : m + m2 ≤ 4000000) (hec : m ≤ ec) (cut : Int) (hok : ¬ OkS th va vo lk pl) : Spec Try.prog 5 [.agg #[.int .i64 th, .int .i64 va, .int .i64 vo, .int .i64 lk, .slice ao n c, .slice eo m ec, .slice mo m2 mc, .int .i64 cut]] [A] (fun (_ : Unit) => .bool true) (fun _ => True) (fun _ => [A]) := by
  refine spec_mk (n := 170) Try.func5 rfl rfl rfl ?_
  intro Γ w0
  simp only [argE, List.cons_append, List.nil_append, Nat.zero_add, Nat.reduceAdd]
  refine c_seq ?_
  refine c_plain ((.l 0 [] (.q 1 (.done)))) (by kernel_rfl) ?_
  refine l_box rfl rfl rfl rfl (us := [_, _, _, _, _, _, _, _]) rfl ?_
  intro b1
  refine ag_nil ?_
  refine q_assign rfl rfl rfl rfl ?_
  refine r_done ?_
  refine k_then_n ?_
  refine c_seq ?_
  refine c_draw rfl (.q 0 (.q 1 (.q 2 (.q 3 (.q 4 (.q 5 (.q 6 (.q 7 ((.l 8 [1, 3, 5, 7] ((.l 9 [3, 5, 7] (.q 10 (.q 11 (.q 12 (.done)))))))))))))))) (by kernel_rfl) ?_
  refine q_field (k := 0) rfl rfl rfl rfl Try.underlying41 rfl Try.sizeOf25 rfl ?_
  refine q_loadN_c rfl rfl rfl rfl Try.isAgg25 Try.sizeOf25 (by with_reducible (repeat (first | exact Take.here | apply Take.there))) 0 (us := [_, _, _, _, _]) (by first | rfl | exact (Nat.add_zero _).symm) rfl rfl ?_
  refine q_field (k := 5) rfl rfl rfl rfl Try.underlying41 rfl Try.sizeOf26 rfl ?_
  refine q_load_c (j := 5) rfl rfl rfl rfl Try.isAgg26 (by with_reducible (repeat (first | exact Take.here | apply Take.there))) (by first | rfl | exact (Nat.add_zero _).symm) (by rfl) ?_
  refine q_field (k := 6) rfl rfl rfl rfl Try.underlying41 rfl Try.sizeOf26 rfl ?_
  refine q_load_c (j := 6) rfl rfl rfl rfl Try.isAgg26 (by with_reducible (repeat (first | exact Take.here | apply Take.there))) (by first | rfl | exact (Nat.add_zero _).symm) (by rfl) ?_
  refine q_field (k := 7) rfl rfl rfl rfl Try.underlying41 rfl Try.sizeOf3 rfl ?_
  refine q_load_c (j := 7) rfl rfl rfl rfl Try.isAgg3 (by with_reducible (repeat (first | exact Take.here | apply Take.there))) (by first | rfl | exact (Nat.add_zero _).symm) (by rfl) ?_
  refine l_alloc rfl rfl rfl Try.zeroValue25 (zs := [.int .i64 0, .int .i64 0, .int .i64 0, .int .i64 0, .slice none 0 0]) rfl ?_
  intro b3
  refine ag_loadN_c rfl rfl (us := [_, _, _, _, _]) rfl Try.isAgg25 Try.sizeOf25 (by with_reducible (repeat (first | exact Take.here | apply Take.there))) 0 (by first | rfl | exact (Nat.add_zero _).symm) rfl rfl ?_
  refine ag_load_c (q := 5) rfl rfl rfl Try.isAgg26 (by with_reducible (repeat (first | exact Take.here | apply Take.there))) (by first | rfl | exact (Nat.add_zero _).symm) (by rfl) ?_
  refine ag_load_c (q := 6) rfl rfl rfl Try.isAgg26 (by with_reducible (repeat (first | exact Take.here | apply Take.there))) (by first | rfl | exact (Nat.add_zero _).symm) (by rfl) ?_
  refine ag_load_c (q := 7) rfl rfl rfl Try.isAgg3 (by with_reducible (repeat (first | exact Take.here | apply Take.there))) (by first | rfl | exact (Nat.add_zero _).symm) (by rfl) ?_
  refine ag_nil ?_
  refine l_store (j := 0) rfl rfl rfl rfl Try.sizeOf25 (us := [_, _, _, _, _]) rfl rfl rfl (by with_reducible (repeat (first | exact Take.here | apply Take.there))) (by first | rfl | exact (Nat.add_zero _).symm) (by first | decide | (simp; done) | omega) ?_
  simp only [setL, List.set]
  refine ag_load_c (q := 5) rfl rfl rfl Try.isAgg26 (by with_reducible (repeat (first | exact Take.here | apply Take.there))) (by first | rfl | exact (Nat.add_zero _).symm) (by rfl) ?_
  refine ag_load_c (q := 6) rfl rfl rfl Try.isAgg26 (by with_reducible (repeat (first | exact Take.here | apply Take.there))) (by first | rfl | exact (Nat.add_zero _).symm) (by rfl) ?_
  refine ag_load_c (q := 7) rfl rfl rfl Try.isAgg3 (by with_reducible (repeat (first | exact Take.here | apply Take.there))) (by first | rfl | exact (Nat.add_zero _).symm) (by rfl) ?_
  refine ag_nil ?_
  refine q_assign rfl rfl rfl rfl ?_
  refine q_assign rfl rfl rfl rfl ?_
  refine q_assign rfl rfl rfl rfl ?_
  refine r_done ?_
  refine s_keep [3, 4, 5, 6] (e' := [(3, _), (4, _), (5, _), (6, _)]) rfl ?_
  refine k_then_n ?_
  refine c_seq ?_
  refine c_plain (.q 0 (.q 1 ((.l 2 [] (.q 3 (.q 4 (.q 5 (.q 6 (.q 7 (.done)))))))))) (by kernel_rfl) ?_
  refine q_loadN_c rfl rfl rfl rfl Try.isAgg25 Try.sizeOf25 (by with_reducible (repeat (first | exact Take.here | apply Take.there))) 0 (us := [_, _, _, _, _]) (by first | rfl | exact (Nat.add_zero _).symm) rfl rfl ?_
  refine q_move rfl rfl rfl rfl ?_
  have sp_1 := least_spec th va vo lk pl ao n c A (hr) (by first | rfl | assumption | omega | (simp; done) | (simp; omega)) (by omega) es eo m ec (he) (by first | rfl | assumption | omega | (simp; done) | (simp; omega)) (by omega)
  refine l_call rfl rfl rfl rfl rfl rfl Try.call12 (sp_1) (by (repeat ((with_reducible apply Takes.cons); focus (first | (with_reducible (repeat (first | exact Take.here | apply Take.there)); done) | (repeat (first | exact Take.here | apply Take.there))))); exact Takes.nil) ?_
  rintro ⟨⟩ -
  try simp only [List.cons_append, List.nil_append]
  refine ag_nil ?_
  refine s_eq 29 rfl (v' := .tuple #[.int .i64 0, .int .i64 5]) (by rw [if_neg hok, lsR, if_neg hok]) ?_
  refine q_move rfl rfl rfl rfl ?_
  refine q_extract rfl rfl rfl rfl rfl ?_
  refine q_extract rfl rfl rfl rfl rfl ?_
  refine q_assign rfl rfl rfl rfl ?_
  refine q_assign rfl rfl rfl rfl ?_
  refine r_done ?_
  refine s_keep [3, 4, 5, 6, 7, 8] (e' := [(3, _), (4, _), (5, _), (6, _), (7, _), (8, _)]) rfl ?_
  refine k_then_n ?_
  refine c_seq ?_
  refine c_seq ?_
  refine c_plain (.q 0 (.q 1 (.done))) (by kernel_rfl) ?_
  refine q_move rfl rfl rfl rfl ?_
  refine q_int rfl rfl rfl rfl rfl (b_neq _ _ _ _) ?_
  refine s_eq 33 rfl (v' := .bool true) (by first | rfl | simp) ?_
  refine r_done ?_
  refine k_then_n ?_
  refine c_cond_t rfl ?_
  refine c_seq ?_
  refine c_plain (.q 0 (.q 1 (.q 2 (.q 3 ((.l 4 [] (.q 5 (.q 6 (.q 7 (.q 8 ((.l 9 [] (.q 10 (.q 11 (.done))))))))))))))) (by kernel_rfl) ?_
  refine q_move rfl rfl rfl rfl ?_
  refine q_int rfl rfl rfl rfl rfl (b_eql _ _ _ _) ?_
  refine s_eq 35 rfl (v' := .bool true) (by first | rfl | simp) ?_
  refine q_move rfl rfl rfl rfl ?_
  refine q_loadN_c rfl rfl rfl rfl Try.isAgg25 Try.sizeOf25 (by with_reducible (repeat (first | exact Take.here | apply Take.there))) 0 (us := [_, _, _, _, _]) (by first | rfl | exact (Nat.add_zero _).symm) rfl rfl ?_
  have sp_2 := shape_spec th va vo lk pl ao n c A (hr) (by first | rfl | assumption | omega | (simp; done) | (simp; omega)) (by omega)
  refine l_call rfl rfl rfl rfl rfl rfl Try.call13 (sp_2) (by (repeat ((with_reducible apply Takes.cons); focus (first | (with_reducible (repeat (first | exact Take.here | apply Take.there)); done) | (repeat (first | exact Take.here | apply Take.there))))); exact Takes.nil) ?_
  rintro ⟨⟩ -
  try simp only [List.cons_append, List.nil_append]
  refine ag_nil ?_
  refine s_eq 38 rfl (v' := .int .i64 5) (by rw [if_neg hok]) ?_
  refine q_move rfl rfl rfl rfl ?_
  refine q_int rfl rfl rfl rfl rfl (b_eql _ _ _ _) ?_
  refine s_eq 40 rfl (v' := .bool true) (by first | rfl | simp) ?_
  refine q_pick_t rfl rfl rfl rfl rfl ?_
  refine q_move rfl rfl rfl rfl ?_
  refine l_call rfl rfl rfl rfl rfl rfl Try.call16 (known_spec) (by (repeat ((with_reducible apply Takes.cons); focus (first | (with_reducible (repeat (first | exact Take.here | apply Take.there)); done) | (repeat (first | exact Take.here | apply Take.there))))); exact Takes.nil) ?_
  rintro ⟨⟩ -
  try simp only [List.cons_append, List.nil_append]
  refine ag_nil ?_
  refine q_pick_t rfl rfl rfl rfl rfl ?_
  refine q_assign rfl rfl rfl rfl ?_
  refine r_done ?_
  refine s_keep [2] (e' := [(2, _)]) rfl ?_
  refine k_then_n ?_
  refine c_ret ?_
  refine k_then_ret ?_
  refine ret1 rfl rfl (()) (by first | rfl | (first | rfl | (congr 1; done) | (congr 1 <;> first | rfl | omega | (simp; done) | (simp; omega)))) (by trivial) ?_
  (repeat ((with_reducible apply Takes.cons); focus (first | (with_reducible (repeat (first | exact Take.here | apply Take.there)); done) | (repeat (first | exact Take.here | apply Take.there))))); (repeat (first | exact Takes.nil | exact Takes.self | refine takes_drop2 ?_))

theorem begins_spec (th va vo lk : Int) (pl : List Int) (ao : Option Addr) (n c : Nat) (A : HProp) (hr : RdS A ao (pl.flatMap encZ)) (hn : pl.length = n) (hb : n ≤ 4000000) (es : List T3) (eo : Option Addr) (m ec : Nat) (he : RdS A eo (es.flatMap enc3)) (hm : es.length = m) (hmb : m ≤ 4000000) (ms : List T3) (mo : Option Addr) (m2 mc : Nat) (hms : RdS A mo (ms.flatMap enc3)) (hm2 : ms.length = m2) (hm2b : m + m2 ≤ 4000000) (hec : m ≤ ec) (cut : Int) : Spec Try.prog 5 [.agg #[.int .i64 th, .int .i64 va, .int .i64 vo, .int .i64 lk, .slice ao n c, .slice eo m ec, .slice mo m2 mc, .int .i64 cut]] [A] (fun (_ : Unit) => .bool true) (fun _ => True) (fun _ => [A]) := by
  by_cases hok : OkS th va vo lk pl
  · exact begins_ok th va vo lk pl ao n c A hr hn hb es eo m ec he hm hmb ms mo m2 mc hms hm2 hm2b hec cut hok
  · exact begins_bad th va vo lk pl ao n c A hr hn hb es eo m ec he hm hmb ms mo m2 mc hms hm2 hm2b hec cut hok
end Go.Ab.Fe
