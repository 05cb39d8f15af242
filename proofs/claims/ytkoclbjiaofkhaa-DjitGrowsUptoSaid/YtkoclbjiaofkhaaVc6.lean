/- Package vclock: Set, Inc, Clear, All. -/
import Derived.Test.YtkoclbjiaofkhaaVc4
set_option linter.unusedVariables false
set_option linter.unusedSimpArgs false
set_option maxRecDepth 100000
namespace Go.Ab.Vc
open Go Go.Proofs Go.Ab
/-- A clock set. -/
def stL (l : List Int) (i : Nat) (v : Int) : List Int := tr ((pd l (i + 1)).set i v)
theorem stL_g (l : List Int) (i : Nat) (v : Int) (k : Nat) : (stL l i v).getD k 0 = if k = i then v else l.getD k 0 := by
  rw [stL, tr_g]
  have hp : i < (pd l (i + 1)).length := by rw [pd_len]; omega
  by_cases hk : k = i
  · subst hk; rw [if_pos rfl]; exact getD_mem (List.getElem?_set_self hp)
  · rw [if_neg hk, ← pd_g l (i + 1) k]; simp only [List.getD_eq_getElem?_getD]; rw [List.getElem?_set_ne (Ne.symm hk)]
theorem pd_cv {l : List Int} (hl : CV l) (m : Nat) : ∀ x ∈ pd l m, 0 ≤ x ∧ x ≤ maxC := fun x hx => by
  rcases List.mem_append.1 hx with h | h
  · exact hl.rng x h
  · rw [(List.mem_replicate.1 h).2]; decide
theorem stL_cv {l : List Int} {i : Nat} {v : Int} (hl : CV l) (hi : i < 65535) (h0 : 0 ≤ v) (h1 : v ≤ maxC) : CV (stL l i v) := by
  have h2 := hl.len
  refine tr_cv (by rw [List.length_set, pd_len]; omega) fun x hx => ?_
  rcases List.mem_or_eq_of_mem_set hx with h | rfl
  · exact pd_cv hl _ x h
  · exact ⟨h0, h1⟩
/-- A clock one on. -/
def icL (l : List Int) (i : Nat) : List Int := (pd l (i + 1)).set i (l.getD i 0 + 1)
theorem icL_g (l : List Int) (i k : Nat) : (icL l i).getD k 0 = if k = i then l.getD i 0 + 1 else l.getD k 0 := by
  have hp : i < (pd l (i + 1)).length := by rw [pd_len]; omega
  rw [icL]
  by_cases hk : k = i
  · subst hk; rw [if_pos rfl]; exact getD_mem (List.getElem?_set_self hp)
  · rw [if_neg hk, ← pd_g l (i + 1) k]; simp only [List.getD_eq_getElem?_getD]; rw [List.getElem?_set_ne (Ne.symm hk)]
theorem icL_cv {l : List Int} {i : Nat} (hl : CV l) (hi : i < 65535) (h1 : l.getD i 0 < maxC) : CV (icL l i) := by
  have h2 := hl.len
  have h3 := g_rng hl.rng (by decide) i
  have hlen : (icL l i).length = max l.length (i + 1) := by rw [icL, List.length_set, pd_len]
  refine ⟨.inr ?_, by omega, fun x hx => ?_⟩
  · rw [hlen, icL_g]
    split
    · omega
    · rename_i h
      have h5 : max l.length (i + 1) - 1 = l.length - 1 := by omega
      rw [h5]
      rcases hl.tr with e | e
      · rw [e] at h; simp at h
      · exact e
  · rcases List.mem_or_eq_of_mem_set hx with h | rfl
    · exact pd_cv hl _ x h
    · omega
theorem nil_cv : CV [] := ⟨.inl rfl, by simp, fun x h => (by cases h)⟩
theorem wrong_spec (b i : Nat) (hi : i < 65535) : Spec Try.prog 63 [.pointer (some ⟨b, 0, none⟩), .int .i64 ((i : Nat) : Int)] [] (fun (_ : Unit) => .int .i64 0) (fun _ => True) (fun _ => []) := by
 refine spec_mk (n := 15) Try.func63 rfl rfl rfl ?_
 intro Γ w0
 simp only [argE, List.cons_append, List.nil_append, Nat.zero_add, Nat.reduceAdd]
 refine c_seq ?_
 refine c_plain (.q 0 (.done)) (by kernel_rfl) ?_
 refine q_assign rfl rfl rfl rfl ?_
 refine r_done ?_
 refine k_then_n ?_
 refine c_seq ?_
 refine c_block ?_
 refine c_seq ?_
 refine c_plain (.q 0 (.q 1 (.q 2 (.done)))) (by kernel_rfl) ?_
 refine q_move rfl rfl rfl rfl ?_
 refine q_eq_nil rfl rfl rfl rfl Try.underlying82 ?_
 refine s_eq 7 rfl (v' := .bool false) rfl ?_
 refine q_assign rfl rfl rfl rfl ?_
 refine r_done ?_
 refine s_keep [1, 5] (e' := [(1, _), (5, _)]) rfl ?_
 refine k_then_n ?_
 refine c_cond_f rfl ?_
 refine c_seq ?_
 refine c_plain (.q 0 (.q 1 (.q 2 (.q 3 (.q 4 (.q 5 (.q 6 (.done)))))))) (by kernel_rfl) ?_
 refine q_move rfl rfl rfl rfl ?_
 refine q_int rfl rfl rfl rfl rfl (b_lss _ _ _ _) ?_
 refine q_move rfl rfl rfl rfl ?_
 refine s_bool_p 11 rfl (fun hg => by exfalso; omega) (fun hg => ?_)
 refine q_move rfl rfl rfl rfl ?_
 refine q_int rfl rfl rfl rfl rfl (b_geq _ _ _ _) ?_
 refine q_pick_f rfl rfl rfl rfl rfl ?_
 refine q_assign rfl rfl rfl rfl ?_
 refine r_done ?_
 refine s_keep [8] (e' := [(8, _)]) rfl ?_
 refine k_then_n ?_
 refine c_cond_p rfl (fun hg => by exfalso; omega) (fun hg => ?_)
 refine c_skip ?_
 refine k_blk_n ?_
 refine k_then_n ?_
 refine c_seq ?_
 refine c_plain (.q 0 (.done)) (by kernel_rfl) ?_
 refine q_assign rfl rfl rfl rfl ?_
 refine r_done ?_
 refine k_then_n ?_
 refine c_ret ?_
 refine ret1 rfl rfl (()) (by first | rfl | (first | rfl | (congr 1; done) | (congr 1 <;> first | rfl | omega | (simp; done) | (simp; omega)))) (by trivial) ?_
 (repeat ((with_reducible apply Z2); focus (first | (with_reducible (repeat (first | exact Z0 | apply Z1)); done) | (repeat (first | exact Z0 | apply Z1))))); (repeat (first | exact Z3 | exact Takes.self | refine takes_drop2 ?_))

theorem set_spec (b : Nat) (l : List Int) (ao : Option Addr) (n cap : Nat) (hn : l.length = n) (hl : CV l) (i : Nat) (hi : i < 65535) (v : Int) (hv0 : 0 ≤ v) (hv1 : v ≤ maxC) : Spec Try.prog 47 [.pointer (some ⟨b, 0, none⟩), .int .i64 ((i : Nat) : Int), .int .u64 v] [cells b 0 [.slice ao n cap], own 1 encU ao cap l] (fun (r : Option Addr × Nat) => .int .i64 0) (fun r => True) (fun r => [cells b 0 [.slice r.1 (stL l i v).length r.2], own 1 encU r.1 r.2 (stL l i v)]) := by
 refine spec_mk (n := 28) Try.func47 rfl rfl rfl ?_
 intro Γ w0
 simp only [argE, List.cons_append, List.nil_append, Nat.zero_add, Nat.reduceAdd]
 have hll := hl.len
 refine c_seq ?_
 refine c_plain (.q 0 (.done)) (by kernel_rfl) ?_
 refine q_assign rfl rfl rfl rfl ?_
 refine r_done ?_
 refine k_then_n ?_
 refine c_seq ?_
 refine c_seq ?_
 refine c_plain (.q 0 (.q 1 ((.l 2 [] (.q 3 (.done)))))) (by kernel_rfl) ?_
 refine q_move rfl rfl rfl rfl ?_
 refine q_move rfl rfl rfl rfl ?_
 have sp_1 := wrong_spec b i (by omega)
 refine l_call rfl rfl rfl rfl rfl rfl Try.call63 (sp_1) (by (repeat ((with_reducible apply Z2); focus (first | (with_reducible (repeat (first | exact Z0 | apply Z1)); done) | (repeat (first | exact Z0 | apply Z1))))); exact Z3) ?_
 rintro ⟨⟩ -
 try simp only [List.cons_append, List.nil_append]
 refine ag_nil ?_
 refine q_assign rfl rfl rfl rfl ?_
 refine r_done ?_
 refine s_keep [0, 1, 2, 7] (e' := [(0, _), (1, _), (2, _), (7, _)]) rfl ?_
 refine k_then_n ?_
 refine c_seq ?_
 refine c_plain (.q 0 (.q 1 (.done))) (by kernel_rfl) ?_
 refine q_move rfl rfl rfl rfl ?_
 refine q_int rfl rfl rfl rfl rfl (b_neq _ _ _ _) ?_
 refine s_eq 12 rfl (v' := .bool false) (by first | rfl | simp) ?_
 refine r_done ?_
 refine k_then_n ?_
 refine c_cond_f rfl ?_
 refine c_skip ?_
 refine k_then_n ?_
 refine c_seq ?_
 refine c_seq ?_
 refine c_plain (.q 0 (.q 1 (.done))) (by kernel_rfl) ?_
 refine q_move rfl rfl rfl rfl ?_
 refine q_int rfl rfl rfl rfl rfl (b_gtr _ _ _ _) ?_
 refine r_done ?_
 refine s_keep [0, 1, 2, 15] (e' := [(0, _), (1, _), (2, _), (15, _)]) rfl ?_
 refine k_then_n ?_
 refine c_cond_p rfl (fun hg => by exfalso; simp only [maxC] at hv1; omega) (fun hg => ?_)
 refine c_skip ?_
 refine k_then_n ?_
 refine c_seq ?_
 refine c_plain (.q 0 (.q 1 ((.l 2 [] (.done))))) (by kernel_rfl) ?_
 refine q_move rfl rfl rfl rfl ?_
 refine q_move rfl rfl rfl rfl ?_
 refine s_eq 17 rfl (v' := .int .i64 ((((i + 1 : Nat)) : Int) - 1)) (by congr 1; omega) ?_
 have sp_2 := reach_spec b l (i + 1) ao n cap (by first | rfl | assumption | omega | (simp; done) | (simp; omega)) (by omega)
 refine l_call rfl rfl rfl rfl rfl rfl Try.call64 (sp_2) (by (repeat ((with_reducible apply Z2); focus (first | (with_reducible (repeat (first | exact Z0 | apply Z1)); done) | (repeat (first | exact Z0 | apply Z1))))); exact Z3) ?_
 rintro ⟨re_a, re_c⟩ -
 try simp only [List.cons_append, List.nil_append]
 refine ag_nil ?_
 refine r_done ?_
 refine s_keep [0, 1, 2] (e' := [(0, _), (1, _), (2, _)]) rfl ?_
 refine k_then_n ?_
 refine c_seq ?_
 have hpl := pd_len l (i + 1)
 obtain ⟨x, hx⟩ := get_lt (l := pd l (i + 1)) (i := i) (by omega)
 refine c_plain (.q 0 (.q 1 (.q 2 (.q 3 (.q 4 (.q 5 (.q 6 ((.l 7 [] (.done)))))))))) (by kernel_rfl) ?_
 refine q_move rfl rfl rfl rfl ?_
 refine q_nil_p rfl rfl rfl rfl ?_
 refine q_field (k := 0) rfl rfl rfl rfl Try.underlying118 rfl Try.sizeOf31 rfl ?_
 refine q_load_c (j := 0) rfl rfl rfl rfl Try.isAgg31 (by with_reducible (repeat (first | exact Z0 | apply Z1))) (by first | rfl | exact (Nat.add_zero _).symm) (by rfl) ?_
 refine q_move rfl rfl rfl rfl ?_
 refine q_move rfl rfl rfl rfl ?_
 refine q_idxO (sz := 0) (k := i) (enc := encU) (xs := (pd l (i + 1))) rfl rfl rfl rfl rfl Try.underlying31 Try.sizeOf35 hx (by first | rfl | omega) (by omega) (by with_reducible (repeat (first | exact Z0 | apply Z1))) ?_
 intro ib25 io25 ha25 hl25 hc25
 refine l_store_O (j := 0) (k := i) (q := v) (enc := encU) (off := io25) rfl rfl rfl rfl Try.sizeOf35 (us := [_]) rfl rfl rfl ha25 encU_len hx (by with_reducible (repeat (first | exact Z0 | apply Z1))) (by first | rfl | exact (Nat.add_zero _).symm | omega) (by first | decide | exact Nat.le_of_ble_eq_true rfl) (by rfl) ?_
 refine ag_nil ?_
 refine r_done ?_
 refine s_keep [0] (e' := [(0, _)]) rfl ?_
 refine k_then_n ?_
 refine c_seq ?_
 refine c_plain (.q 0 ((.l 1 [] (.done)))) (by kernel_rfl) ?_
 refine q_move rfl rfl rfl rfl ?_
 have sp_3 := trim_spec b ((pd l (i + 1)).set i v) re_a ((pd l (i + 1)).length) re_c (by rw [List.length_set]) (by omega)
 refine l_call rfl rfl rfl rfl rfl rfl Try.call65 (sp_3) (by (repeat ((with_reducible apply Z2); focus (first | (with_reducible (repeat (first | exact Z0 | apply Z1)); done) | (repeat (first | exact Z0 | apply Z1))))); exact Z3) ?_
 rintro ⟨⟩ -
 try simp only [List.cons_append, List.nil_append]
 refine ag_nil ?_
 refine r_done ?_
 refine k_then_n ?_
 refine c_seq ?_
 refine c_plain (.q 0 (.done)) (by kernel_rfl) ?_
 refine q_assign rfl rfl rfl rfl ?_
 refine r_done ?_
 refine k_then_n ?_
 refine c_ret ?_
 refine ret1 rfl rfl ((re_a, re_c)) (by first | rfl | (first | rfl | (congr 1; done) | (congr 1 <;> first | rfl | omega | (simp; done) | (simp; omega)))) (by trivial) ?_
 (repeat ((with_reducible apply Z2); focus (first | (with_reducible (repeat (first | exact Z0 | apply Z1)); done) | (repeat (first | exact Z0 | apply Z1))))); (repeat (first | exact Z3 | exact Takes.self | refine takes_drop2 ?_))

theorem inc_spec (b : Nat) (l : List Int) (ao : Option Addr) (n cap : Nat) (hn : l.length = n) (hl : CV l) (i : Nat) (hi : i < 65535) (hlt : l.getD i 0 < maxC) : Spec Try.prog 70 [.pointer (some ⟨b, 0, none⟩), .int .i64 ((i : Nat) : Int)] [cells b 0 [.slice ao n cap], own 1 encU ao cap l] (fun (r : Option Addr × Nat) => .tuple #[.int .u64 (l.getD i 0 + 1), .int .i64 0]) (fun r => True) (fun r => [cells b 0 [.slice r.1 (icL l i).length r.2], own 1 encU r.1 r.2 (icL l i)]) := by
 refine spec_mk (n := 36) Try.func70 rfl rfl rfl ?_
 intro Γ w0
 simp only [argE, List.cons_append, List.nil_append, Nat.zero_add, Nat.reduceAdd]
 have hll := hl.len
 refine c_seq ?_
 refine c_plain (.q 0 (.q 1 (.done))) (by kernel_rfl) ?_
 refine q_assign rfl rfl rfl rfl ?_
 refine q_assign rfl rfl rfl rfl ?_
 refine r_done ?_
 refine k_then_n ?_
 refine c_seq ?_
 refine c_seq ?_
 refine c_plain (.q 0 (.q 1 ((.l 2 [] (.q 3 (.done)))))) (by kernel_rfl) ?_
 refine q_move rfl rfl rfl rfl ?_
 refine q_move rfl rfl rfl rfl ?_
 have sp_1 := wrong_spec b i (by omega)
 refine l_call rfl rfl rfl rfl rfl rfl Try.call63 (sp_1) (by (repeat ((with_reducible apply Z2); focus (first | (with_reducible (repeat (first | exact Z0 | apply Z1)); done) | (repeat (first | exact Z0 | apply Z1))))); exact Z3) ?_
 rintro ⟨⟩ -
 try simp only [List.cons_append, List.nil_append]
 refine ag_nil ?_
 refine q_assign rfl rfl rfl rfl ?_
 refine r_done ?_
 refine s_keep [0, 1, 6] (e' := [(0, _), (1, _), (6, _)]) rfl ?_
 refine k_then_n ?_
 refine c_seq ?_
 refine c_plain (.q 0 (.q 1 (.done))) (by kernel_rfl) ?_
 refine q_move rfl rfl rfl rfl ?_
 refine q_int rfl rfl rfl rfl rfl (b_neq _ _ _ _) ?_
 refine s_eq 11 rfl (v' := .bool false) (by first | rfl | simp) ?_
 refine r_done ?_
 refine k_then_n ?_
 refine c_cond_f rfl ?_
 refine c_skip ?_
 refine k_then_n ?_
 refine c_seq ?_
 refine c_seq ?_
 refine c_plain (.q 0 (.q 1 ((.l 2 [] (.q 3 (.done)))))) (by kernel_rfl) ?_
 refine q_move rfl rfl rfl rfl ?_
 refine q_move rfl rfl rfl rfl ?_
 have sp_2 := get_spec b l ao n cap (by first | rfl | assumption | omega | (simp; done) | (simp; omega)) i
 refine l_call rfl rfl rfl rfl rfl rfl Try.call66 (sp_2) (by (repeat ((with_reducible apply Z2); focus (first | (with_reducible (repeat (first | exact Z0 | apply Z1)); done) | (repeat (first | exact Z0 | apply Z1))))); exact Z3) ?_
 rintro ⟨⟩ -
 try simp only [List.cons_append, List.nil_append]
 refine ag_nil ?_
 refine q_int rfl rfl rfl rfl rfl (b_eql _ _ _ _) ?_
 refine r_done ?_
 refine s_keep [0, 1, 16] (e' := [(0, _), (1, _), (16, _)]) rfl ?_
 refine k_then_n ?_
 refine c_cond_p rfl (fun hg => by exfalso; simp only [maxC] at hlt; omega) (fun hg => ?_)
 refine c_skip ?_
 refine k_then_n ?_
 refine c_seq ?_
 refine c_plain (.q 0 (.q 1 ((.l 2 [] (.done))))) (by kernel_rfl) ?_
 refine q_move rfl rfl rfl rfl ?_
 refine q_move rfl rfl rfl rfl ?_
 refine s_eq 18 rfl (v' := .int .i64 ((((i + 1 : Nat)) : Int) - 1)) (by congr 1; omega) ?_
 have sp_3 := reach_spec b l (i + 1) ao n cap (by first | rfl | assumption | omega | (simp; done) | (simp; omega)) (by omega)
 refine l_call rfl rfl rfl rfl rfl rfl Try.call64 (sp_3) (by (repeat ((with_reducible apply Z2); focus (first | (with_reducible (repeat (first | exact Z0 | apply Z1)); done) | (repeat (first | exact Z0 | apply Z1))))); exact Z3) ?_
 rintro ⟨re_a, re_c⟩ -
 try simp only [List.cons_append, List.nil_append]
 refine ag_nil ?_
 refine r_done ?_
 refine s_keep [0, 1] (e' := [(0, _), (1, _)]) rfl ?_
 refine k_then_n ?_
 refine c_seq ?_
 have hpl := pd_len l (i + 1)
 obtain ⟨x, hx⟩ := get_lt (l := pd l (i + 1)) (i := i) (by omega)
 have hxe : x = l.getD i 0 := by rw [← pd_g l (i + 1) i, getD_mem hx]
 have hgr := g_rng hl.rng (by decide) i
 refine c_plain (.q 0 (.q 1 (.q 2 (.q 3 (.q 4 (.q 5 (.q 6 (.q 7 (.q 8 ((.l 9 [] (.done)))))))))))) (by kernel_rfl) ?_
 refine q_move rfl rfl rfl rfl ?_
 refine q_nil_p rfl rfl rfl rfl ?_
 refine q_field (k := 0) rfl rfl rfl rfl Try.underlying118 rfl Try.sizeOf31 rfl ?_
 refine q_load_c (j := 0) rfl rfl rfl rfl Try.isAgg31 (by with_reducible (repeat (first | exact Z0 | apply Z1))) (by first | rfl | exact (Nat.add_zero _).symm) (by rfl) ?_
 refine q_move rfl rfl rfl rfl ?_
 refine q_idxO (sz := 0) (k := i) (enc := encU) (xs := (pd l (i + 1))) rfl rfl rfl rfl rfl Try.underlying31 Try.sizeOf35 hx (by first | rfl | omega) (by omega) (by with_reducible (repeat (first | exact Z0 | apply Z1))) ?_
 intro ib25 io25 ha25 hl25 hc25
 refine q_load_O (v := (.int .u64 x)) (j := 0) (k' := i) (enc := encU) (off := io25) rfl rfl rfl rfl Try.isAgg35 ha25 encU_len hx (by with_reducible (repeat (first | exact Z0 | apply Z1))) (by first | rfl | exact (Nat.add_zero _).symm | omega) (by rfl) ?_
 refine q_int rfl rfl rfl rfl rfl (b_add' _ (by exact fits_u64 (by omega) (by simp only [maxC] at hgr; omega))) ?_
 refine q_idxO (sz := 0) (k := i) (enc := encU) (xs := (pd l (i + 1))) rfl rfl rfl rfl rfl Try.underlying31 Try.sizeOf35 hx (by first | rfl | omega) (by omega) (by with_reducible (repeat (first | exact Z0 | apply Z1))) ?_
 intro ib28 io28 ha28 hl28 hc28
 refine l_store_O (j := 0) (k := i) (q := (x + 1)) (enc := encU) (off := io28) rfl rfl rfl rfl Try.sizeOf35 (us := [_]) rfl rfl rfl ha28 encU_len hx (by with_reducible (repeat (first | exact Z0 | apply Z1))) (by first | rfl | exact (Nat.add_zero _).symm | omega) (by first | decide | exact Nat.le_of_ble_eq_true rfl) (by rfl) ?_
 refine ag_nil ?_
 refine r_done ?_
 refine s_keep [0, 1] (e' := [(0, _), (1, _)]) rfl ?_
 refine k_then_n ?_
 refine c_seq ?_
 rw [show (pd l (i + 1)).set i (x + 1) = icL l i from by rw [icL, hxe]]
 have hx2 : (icL l i)[i]? = some (x + 1) := by rw [icL, List.getElem?_set_self (by omega), hxe]
 have hil : (icL l i).length = (pd l (i + 1)).length := by rw [icL, List.length_set]
 refine c_plain (.q 0 (.q 1 (.q 2 (.q 3 (.q 4 (.q 5 (.q 6 (.q 7 (.q 8 (.done)))))))))) (by kernel_rfl) ?_
 refine q_move rfl rfl rfl rfl ?_
 refine q_nil_p rfl rfl rfl rfl ?_
 refine q_field (k := 0) rfl rfl rfl rfl Try.underlying118 rfl Try.sizeOf31 rfl ?_
 refine q_load_c (j := 0) rfl rfl rfl rfl Try.isAgg31 (by with_reducible (repeat (first | exact Z0 | apply Z1))) (by first | rfl | exact (Nat.add_zero _).symm) (by rfl) ?_
 refine q_move rfl rfl rfl rfl ?_
 refine q_idxO (sz := 0) (k := i) (enc := encU) (xs := (icL l i)) rfl rfl rfl rfl rfl Try.underlying31 Try.sizeOf35 hx2 (by first | rfl | omega) (by omega) (by with_reducible (repeat (first | exact Z0 | apply Z1))) ?_
 intro ib34 io34 ha34 hl34 hc34
 refine q_load_O (v := (.int .u64 (x + 1))) (j := 0) (k' := i) (enc := encU) (off := io34) rfl rfl rfl rfl Try.isAgg35 ha34 encU_len hx2 (by with_reducible (repeat (first | exact Z0 | apply Z1))) (by first | rfl | exact (Nat.add_zero _).symm | omega) (by rfl) ?_
 refine q_assign rfl rfl rfl rfl ?_
 refine q_assign rfl rfl rfl rfl ?_
 refine r_done ?_
 refine s_keep [4, 5] (e' := [(4, _), (5, _)]) rfl ?_
 refine k_then_n ?_
 refine c_ret ?_
 refine s_take (A := cells b 0 [.slice re_a (pd l (i + 1)).length re_c]) (by first | (with_reducible (repeat (first | exact Z0 | apply Z1)); done) | (repeat (first | exact Z0 | apply Z1))) ?_
 refine s_heap (Γ' := cells b 0 [.slice re_a (icL l i).length re_c] :: _) (fun _ h => (by rw [hil]; exact h)) ?_
 refine ret2 rfl rfl rfl ((re_a, re_c)) (by rw [hxe]) (by trivial) ?_
 (repeat ((with_reducible apply Z2); focus (first | (with_reducible (repeat (first | exact Z0 | apply Z1)); done) | (repeat (first | exact Z0 | apply Z1))))); (repeat (first | exact Z3 | exact Takes.self | refine takes_drop2 ?_))

theorem inc_max (b : Nat) (l : List Int) (ao : Option Addr) (n cap : Nat) (hn : l.length = n) (hl : CV l) (i : Nat) (hi : i < 65535) (hlt : l.getD i 0 = maxC) : Spec Try.prog 70 [.pointer (some ⟨b, 0, none⟩), .int .i64 ((i : Nat) : Int)] [cells b 0 [.slice ao n cap], own 1 encU ao cap l] (fun (_ : Unit) => .tuple #[.int .u64 0, .int .i64 30]) (fun _ => True) (fun _ => [cells b 0 [.slice ao n cap], own 1 encU ao cap l]) := by
 refine spec_mk (n := 36) Try.func70 rfl rfl rfl ?_
 intro Γ w0
 simp only [argE, List.cons_append, List.nil_append, Nat.zero_add, Nat.reduceAdd]
 have hll := hl.len
 refine c_seq ?_
 refine c_plain (.q 0 (.q 1 (.done))) (by kernel_rfl) ?_
 refine q_assign rfl rfl rfl rfl ?_
 refine q_assign rfl rfl rfl rfl ?_
 refine r_done ?_
 refine k_then_n ?_
 refine c_seq ?_
 refine c_seq ?_
 refine c_plain (.q 0 (.q 1 ((.l 2 [] (.q 3 (.done)))))) (by kernel_rfl) ?_
 refine q_move rfl rfl rfl rfl ?_
 refine q_move rfl rfl rfl rfl ?_
 have sp_1 := wrong_spec b i (by omega)
 refine l_call rfl rfl rfl rfl rfl rfl Try.call63 (sp_1) (by (repeat ((with_reducible apply Z2); focus (first | (with_reducible (repeat (first | exact Z0 | apply Z1)); done) | (repeat (first | exact Z0 | apply Z1))))); exact Z3) ?_
 rintro ⟨⟩ -
 try simp only [List.cons_append, List.nil_append]
 refine ag_nil ?_
 refine q_assign rfl rfl rfl rfl ?_
 refine r_done ?_
 refine s_keep [0, 1, 6] (e' := [(0, _), (1, _), (6, _)]) rfl ?_
 refine k_then_n ?_
 refine c_seq ?_
 refine c_plain (.q 0 (.q 1 (.done))) (by kernel_rfl) ?_
 refine q_move rfl rfl rfl rfl ?_
 refine q_int rfl rfl rfl rfl rfl (b_neq _ _ _ _) ?_
 refine s_eq 11 rfl (v' := .bool false) (by first | rfl | simp) ?_
 refine r_done ?_
 refine k_then_n ?_
 refine c_cond_f rfl ?_
 refine c_skip ?_
 refine k_then_n ?_
 refine c_seq ?_
 refine c_seq ?_
 refine c_plain (.q 0 (.q 1 ((.l 2 [] (.q 3 (.done)))))) (by kernel_rfl) ?_
 refine q_move rfl rfl rfl rfl ?_
 refine q_move rfl rfl rfl rfl ?_
 have sp_2 := get_spec b l ao n cap (by first | rfl | assumption | omega | (simp; done) | (simp; omega)) i
 refine l_call rfl rfl rfl rfl rfl rfl Try.call66 (sp_2) (by (repeat ((with_reducible apply Z2); focus (first | (with_reducible (repeat (first | exact Z0 | apply Z1)); done) | (repeat (first | exact Z0 | apply Z1))))); exact Z3) ?_
 rintro ⟨⟩ -
 try simp only [List.cons_append, List.nil_append]
 refine ag_nil ?_
 refine q_int rfl rfl rfl rfl rfl (b_eql _ _ _ _) ?_
 refine r_done ?_
 refine s_keep [0, 1, 16] (e' := [(0, _), (1, _), (16, _)]) rfl ?_
 refine k_then_n ?_
 refine c_cond_p rfl (fun hg => ?_) (fun hg => by exfalso; simp only [maxC] at hlt; omega)
 refine c_seq ?_
 refine c_plain (.q 0 (.q 1 (.done))) (by kernel_rfl) ?_
 refine q_assign rfl rfl rfl rfl ?_
 refine q_assign rfl rfl rfl rfl ?_
 refine r_done ?_
 refine k_then_n ?_
 refine c_ret ?_
 refine k_then_ret ?_
 refine ret2 rfl rfl rfl (()) (by first | rfl | (first | rfl | (congr 1; done) | (congr 1 <;> first | rfl | omega | (simp; done) | (simp; omega)))) (by trivial) ?_
 (repeat ((with_reducible apply Z2); focus (first | (with_reducible (repeat (first | exact Z0 | apply Z1)); done) | (repeat (first | exact Z0 | apply Z1))))); (repeat (first | exact Z3 | exact Takes.self | refine takes_drop2 ?_))


end Go.Ab.Vc
