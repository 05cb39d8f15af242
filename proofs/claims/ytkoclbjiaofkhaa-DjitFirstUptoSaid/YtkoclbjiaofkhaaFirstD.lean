/- What the law First rests on, part 4 of 5. -/
import Derived.Test.YtkoclbjiaofkhaaFirstC
set_option linter.unusedVariables false
set_option linter.unusedSimpArgs false
set_option maxRecDepth 100000
namespace Go.Ab.Dj
open Go Go.Proofs Go.Ab Go.Ab.Fe Go.Ab.Vc
def xw0 : DS := dNew 2 1 0 0 []
def ew : List T3 := [(7, 0, 1), (2, 0, 0), (2, 1, 0)]
def xw3 : DS := dAll xw0 ew
theorem okw : OkS 2 1 0 0 [] := okS_iff.2 (by decide)
theorem xw0_inv : DInv xw0 := new_dinv okw (new_inv okw)
theorem xw3_inv : DInv xw3 := dAll_inv xw0_inv ew
theorem ew_all : ∀ i : Nat, i ≤ 3 → (i < 3 → ∀ e, ew[i]? = some e → ¬ canE (dAll xw0 (ew.take i)) e) → i = 3 := by
  intro i h1 h2
  rcases Nat.lt_or_ge i 3 with h | h
  · have h3 := h2 h
    rcases (show i = 0 ∨ i = 1 ∨ i = 2 by omega) with rfl | rfl | rfl
    · exact absurd (show canE (dAll xw0 (ew.take 0)) (7, 0, 1) by decide) (h3 _ rfl)
    · exact absurd (show canE (dAll xw0 (ew.take 1)) (2, 0, 0) by decide) (h3 _ rfl)
    · exact absurd (show canE (dAll xw0 (ew.take 2)) (2, 1, 0) by decide) (h3 _ rfl)
  · omega
theorem xw3_flags : flF xw3.vs = [(0, 2)] := by decide
theorem xw3_th : thF xw3.v 1 = [1, 1] := by decide
theorem xw3_no : ¬ vcanF xw3.v 1 0 1 := by decide
theorem xw3_n : xw3.v.ck.n = 3 := by decide
theorem xw3_pa : xw3.v.ck.pa = [] := by decide
theorem same_spec (xs ys : List Int) (ao bo : Option Addr) (n m c d : Nat) (A : HProp) (hn : xs.length = n) (hr : RdS A ao (xs.flatMap encU)) (hm : ys.length = m) (hr2 : RdS A bo (ys.flatMap encU)) (hb : n ≤ 4000000000000) : Spec Try.prog 29 [.slice ao n c, .slice bo m d] [A] (fun (_ : Unit) => .bool (decide (xs = ys))) (fun _ => True) (fun _ => [A]) := by
 refine spec_mk (n := 26) Try.func29 rfl rfl rfl ?_
 intro Γ w0
 simp only [argE, List.cons_append, List.nil_append, Nat.zero_add, Nat.reduceAdd]
 refine c_seq ?_
 refine c_plain (.q 0 (.done)) (by kernel_rfl) ?_
 refine q_assign rfl rfl rfl rfl ?_
 refine r_done ?_
 refine k_then_n ?_
 refine c_seq ?_
 refine c_seq ?_
 refine c_plain (.q 0 (.q 1 (.q 2 (.q 3 (.q 4 (.done)))))) (by kernel_rfl) ?_
 refine q_move rfl rfl rfl rfl ?_
 refine q_len rfl rfl rfl rfl Try.underlying31 ?_
 refine q_move rfl rfl rfl rfl ?_
 refine q_len rfl rfl rfl rfl Try.underlying31 ?_
 refine q_int rfl rfl rfl rfl rfl (b_neq _ _ _ _) ?_
 refine r_done ?_
 refine s_keep [0, 1, 10] (e' := [(0, _), (1, _), (10, _)]) rfl ?_
 refine k_then_n ?_
 refine c_cond_p rfl (fun hne => ?_) (fun hne => ?_)
 ·
  refine c_seq ?_
  refine c_plain (.q 0 (.done)) (by kernel_rfl) ?_
  refine q_assign rfl rfl rfl rfl ?_
  refine r_done ?_
  refine k_then_n ?_
  refine c_ret ?_
  refine k_then_ret ?_
  refine ret1 rfl rfl (()) (by congr 1; symm; simp only [decide_eq_false_iff_not]; intro e; rw [e] at hn; omega) (by trivial) ?_
  exact Tf
 ·
  refine c_skip ?_
  refine k_then_n ?_
  refine c_seq ?_
  refine c_seq ?_
  refine c_plain (.q 0 (.done)) (by kernel_rfl) ?_
  refine q_assign rfl rfl rfl rfl ?_
  refine r_done ?_
  refine k_then_n ?_
  refine c_block ?_
  have hnm : n = m := by omega
  subst hnm
  refine c_loop2 (α := Nat) (fun (i : Nat) => i ≤ n ∧ (xs.take i = ys.take i)) (fun (i : Nat) => [(5, .int .i64 ((i : Nat) : Int))]) (fun (i : Nat) => []) (fun (i : Nat) => n - i) [0, 1] (er := [(0, _), (1, _)]) rfl (0) ?_ (by exact ⟨rfl, trivial⟩) (by (try dsimp only); (try simp only [Nat.add_zero, Nat.zero_add]); (repeat ((with_reducible apply Z2); focus (first | (with_reducible (repeat (first | exact Z0 | apply Z1)); done) | (repeat (first | exact Z0 | apply Z1))))); exact Z3) ?_
  · exact ⟨Nat.zero_le _, rfl⟩
  rintro i ⟨hle_i, ht⟩
  try simp only [List.cons_append, List.nil_append]
  refine c_seq ?_
  refine c_seq ?_
  refine c_plain (.q 0 (.q 1 (.q 2 (.q 3 (.done))))) (by kernel_rfl) ?_
  refine q_move rfl rfl rfl rfl ?_
  refine q_move rfl rfl rfl rfl ?_
  refine q_len rfl rfl rfl rfl Try.underlying31 ?_
  refine q_int rfl rfl rfl rfl rfl (b_lss _ _ _ _) ?_
  refine r_done ?_
  refine k_then_n ?_
  refine c_cond_p rfl (fun hlt => ?_) (fun hlt => ?_)
  ·
   refine c_skip ?_
   refine k_then_n ?_
   refine c_seq ?_
   refine c_block ?_
   refine c_seq ?_
   refine c_draw rfl (.q 0 (.q 1 (.q 2 (.q 3 (.q 4 (.q 5 (.q 6 (.q 7 (.q 8 (.done)))))))))) (by kernel_rfl) ?_
   refine q_move rfl rfl rfl rfl ?_
   refine q_move rfl rfl rfl rfl ?_
   obtain ⟨x, hx⟩ := get_lt (l := xs) (i := i) (by first | omega | (simp; done) | (simp; omega))
   refine q_idxR (sz := 0) (k := i) rfl rfl rfl rfl rfl Try.underlying31 Try.sizeOf35 (hr) hx encU_len (by first | rfl | omega) (by omega) ?_
   intro ib19 io19 _ hd19
   refine q_load rfl rfl rfl rfl Try.isAgg35 Tk (hd19 0 (.int .u64 x) rfl) ?_
   refine q_move rfl rfl rfl rfl ?_
   refine q_move rfl rfl rfl rfl ?_
   obtain ⟨y, hy⟩ := get_lt (l := ys) (i := i) (by first | omega | (simp; done) | (simp; omega))
   refine q_idxR (sz := 0) (k := i) rfl rfl rfl rfl rfl Try.underlying31 Try.sizeOf35 (hr2) hy encU_len (by first | rfl | omega) (by omega) ?_
   intro ib23 io23 _ hd23
   refine q_load rfl rfl rfl rfl Try.isAgg35 Tk (hd23 0 (.int .u64 y) rfl) ?_
   refine q_int rfl rfl rfl rfl rfl (b_neq _ _ _ _) ?_
   refine r_done ?_
   refine s_keep [0, 1, 5, 25] (e' := [(0, _), (1, _), (5, _), (25, _)]) rfl ?_
   refine k_then_n ?_
   refine c_cond_p rfl (fun hxy => ?_) (fun hxy => ?_)
   ·
    refine c_seq ?_
    refine c_plain (.q 0 (.done)) (by kernel_rfl) ?_
    refine q_assign rfl rfl rfl rfl ?_
    refine r_done ?_
    refine s_keep [4] (e' := [(4, _)]) rfl ?_
    refine k_then_n ?_
    refine c_ret ?_
    refine k_blk_ret ?_
    refine k_then_ret ?_
    refine k_then_ret ?_
    refine k_blk_ret ?_
    refine k_then_ret ?_
    refine ret1 rfl rfl (()) (by congr 1; symm; simp only [decide_eq_false_iff_not]; intro e; rw [e, hy] at hx; cases hx; exact hxy rfl) (by trivial) ?_
    exact Tf
   ·
    have hxy : x = y := Classical.byContradiction hxy
    refine c_skip ?_
    refine k_blk_n ?_
    refine k_then_n ?_
    refine c_plain (.q 0 (.q 1 (.q 2 (.done)))) (by kernel_rfl) ?_
    refine q_move rfl rfl rfl rfl ?_
    refine q_int rfl rfl rfl rfl rfl (b_add' _ (by exact fits_i64 (by omega) (by omega))) ?_
    refine q_assign rfl rfl rfl rfl ?_
    refine r_done ?_
    refine k_then_n ?_
    refine loop_next (x := i) (i + 1) ?_ ?_ ?_ ?_
    · exact ⟨by omega, by rw [List.take_add_one, List.take_add_one, hx, hy, ht, hxy]⟩
    · show n - (i + 1) < n - i; omega
    · exact ⟨rfl, rfl, rfl, trivial⟩
    · (try simp only [List.cons_append, List.nil_append]); exact Tf
  ·
   refine c_exit ?_
   refine k_then_exit ?_
   refine k_then_exit ?_
   refine k_blk_here ?_
   refine k_then_n ?_
   refine c_seq ?_
   refine c_plain (.q 0 (.done)) (by kernel_rfl) ?_
   refine q_assign rfl rfl rfl rfl ?_
   refine r_done ?_
   refine s_keep [4] (e' := [(4, _)]) rfl ?_
   refine k_then_n ?_
   refine c_ret ?_
   refine ret1 rfl rfl (()) (by congr 1; symm; simp only [decide_eq_true_eq]; obtain rfl : i = n := (by omega); rw [List.take_of_length_le (by omega), List.take_of_length_le (by omega)] at ht; exact ht) (by trivial) ?_
   exact Tf
theorem flags_same (xs ys : List T2) (ao bo : Option Addr) (n m c d : Nat) (A : HProp) (hn : xs.length = n) (hr : RdS A ao (xs.flatMap enc2)) (hm : ys.length = m) (hr2 : RdS A bo (ys.flatMap enc2)) (hb : n ≤ 4000000000000) : Spec Try.prog 17 [.slice ao n c, .slice bo m d] [A] (fun (_ : Unit) => .bool (decide (xs = ys))) (fun _ => True) (fun _ => [A]) := by
 refine spec_mk (n := 26) Try.func17 rfl rfl rfl ?_
 intro Γ w0
 simp only [argE, List.cons_append, List.nil_append, Nat.zero_add, Nat.reduceAdd]
 refine c_seq ?_
 refine c_plain (.q 0 (.done)) (by kernel_rfl) ?_
 refine q_assign rfl rfl rfl rfl ?_
 refine r_done ?_
 refine k_then_n ?_
 refine c_seq ?_
 refine c_seq ?_
 refine c_plain (.q 0 (.q 1 (.q 2 (.q 3 (.q 4 (.done)))))) (by kernel_rfl) ?_
 refine q_move rfl rfl rfl rfl ?_
 refine q_len rfl rfl rfl rfl Try.underlying48 ?_
 refine q_move rfl rfl rfl rfl ?_
 refine q_len rfl rfl rfl rfl Try.underlying48 ?_
 refine q_int rfl rfl rfl rfl rfl (b_neq _ _ _ _) ?_
 refine r_done ?_
 refine s_keep [0, 1, 10] (e' := [(0, _), (1, _), (10, _)]) rfl ?_
 refine k_then_n ?_
 refine c_cond_p rfl (fun hne => ?_) (fun hne => ?_)
 ·
  refine c_seq ?_
  refine c_plain (.q 0 (.done)) (by kernel_rfl) ?_
  refine q_assign rfl rfl rfl rfl ?_
  refine r_done ?_
  refine k_then_n ?_
  refine c_ret ?_
  refine k_then_ret ?_
  refine ret1 rfl rfl (()) (by congr 1; symm; simp only [decide_eq_false_iff_not]; intro e; rw [e] at hn; omega) (by trivial) ?_
  exact Tf
 ·
  refine c_skip ?_
  refine k_then_n ?_
  refine c_seq ?_
  refine c_seq ?_
  refine c_plain (.q 0 (.done)) (by kernel_rfl) ?_
  refine q_assign rfl rfl rfl rfl ?_
  refine r_done ?_
  refine k_then_n ?_
  refine c_block ?_
  have hnm : n = m := by omega
  subst hnm
  refine c_loop2 (α := Nat) (fun (i : Nat) => i ≤ n ∧ (xs.take i = ys.take i)) (fun (i : Nat) => [(5, .int .i64 ((i : Nat) : Int))]) (fun (i : Nat) => []) (fun (i : Nat) => n - i) [0, 1] (er := [(0, _), (1, _)]) rfl (0) ?_ (by exact ⟨rfl, trivial⟩) (by (try dsimp only); (try simp only [Nat.add_zero, Nat.zero_add]); (repeat ((with_reducible apply Z2); focus (first | (with_reducible (repeat (first | exact Z0 | apply Z1)); done) | (repeat (first | exact Z0 | apply Z1))))); exact Z3) ?_
  · exact ⟨Nat.zero_le _, rfl⟩
  rintro i ⟨hle_i, ht⟩
  try simp only [List.cons_append, List.nil_append]
  refine c_seq ?_
  refine c_seq ?_
  refine c_plain (.q 0 (.q 1 (.q 2 (.q 3 (.done))))) (by kernel_rfl) ?_
  refine q_move rfl rfl rfl rfl ?_
  refine q_move rfl rfl rfl rfl ?_
  refine q_len rfl rfl rfl rfl Try.underlying48 ?_
  refine q_int rfl rfl rfl rfl rfl (b_lss _ _ _ _) ?_
  refine r_done ?_
  refine k_then_n ?_
  refine c_cond_p rfl (fun hlt => ?_) (fun hlt => ?_)
  ·
   refine c_skip ?_
   refine k_then_n ?_
   refine c_seq ?_
   refine c_block ?_
   refine c_seq ?_
   refine c_draw rfl (.q 0 (.q 1 (.q 2 (.q 3 (.q 4 (.q 5 (.q 6 (.q 7 (.q 8 (.done)))))))))) (by kernel_rfl) ?_
   refine q_move rfl rfl rfl rfl ?_
   refine q_move rfl rfl rfl rfl ?_
   obtain ⟨x, hx⟩ := get_lt (l := xs) (i := i) (by first | omega | (simp; done) | (simp; omega))
   refine q_idxR (sz := 1) (k := i) rfl rfl rfl rfl rfl Try.underlying48 Try.sizeOf67 (hr) hx enc2_len (by first | rfl | omega) (by omega) ?_
   intro ib19 io19 _ hd19
   refine q_loadN (vs := [_, _]) rfl rfl rfl rfl Try.isAgg67 Try.sizeOf67 Tk (hd19) rfl ?_
   refine q_move rfl rfl rfl rfl ?_
   refine q_move rfl rfl rfl rfl ?_
   obtain ⟨y, hy⟩ := get_lt (l := ys) (i := i) (by first | omega | (simp; done) | (simp; omega))
   refine q_idxR (sz := 1) (k := i) rfl rfl rfl rfl rfl Try.underlying48 Try.sizeOf67 (hr2) hy enc2_len (by first | rfl | omega) (by omega) ?_
   intro ib23 io23 _ hd23
   refine q_loadN (vs := [_, _]) rfl rfl rfl rfl Try.isAgg67 Try.sizeOf67 Tk (hd23) rfl ?_
   refine q_neS rfl rfl rfl rfl rfl (by kernel_rfl) (eqc_struct Try.underlying67 (by kernel_rfl) (eqf_cons rfl Try.isAgg3 rfl rfl (eqc_int Try.underlying3) (eqf_last rfl Try.isAgg3 rfl rfl (eqc_int Try.underlying3)))) ?_
   refine s_eq 25 rfl (v' := .bool (decide (x ≠ y))) (by first | (congr 1; done) | (congr 1; rw [Bool.eq_iff_iff]; simp [Prod.ext_iff, and_assoc])) ?_
   refine r_done ?_
   refine s_keep [0, 1, 5, 25] (e' := [(0, _), (1, _), (5, _), (25, _)]) rfl ?_
   refine k_then_n ?_
   refine c_cond_p rfl (fun hxy => ?_) (fun hxy => ?_)
   ·
    refine c_seq ?_
    refine c_plain (.q 0 (.done)) (by kernel_rfl) ?_
    refine q_assign rfl rfl rfl rfl ?_
    refine r_done ?_
    refine s_keep [4] (e' := [(4, _)]) rfl ?_
    refine k_then_n ?_
    refine c_ret ?_
    refine k_blk_ret ?_
    refine k_then_ret ?_
    refine k_then_ret ?_
    refine k_blk_ret ?_
    refine k_then_ret ?_
    refine ret1 rfl rfl (()) (by congr 1; symm; simp only [decide_eq_false_iff_not]; intro e; rw [e, hy] at hx; cases hx; exact hxy rfl) (by trivial) ?_
    exact Tf
   ·
    have hxy : x = y := Classical.byContradiction hxy
    refine c_skip ?_
    refine k_blk_n ?_
    refine k_then_n ?_
    refine c_plain (.q 0 (.q 1 (.q 2 (.done)))) (by kernel_rfl) ?_
    refine q_move rfl rfl rfl rfl ?_
    refine q_int rfl rfl rfl rfl rfl (b_add' _ (by exact fits_i64 (by omega) (by omega))) ?_
    refine q_assign rfl rfl rfl rfl ?_
    refine r_done ?_
    refine k_then_n ?_
    refine loop_next (x := i) (i + 1) ?_ ?_ ?_ ?_
    · exact ⟨by omega, by rw [List.take_add_one, List.take_add_one, hx, hy, ht, hxy]⟩
    · show n - (i + 1) < n - i; omega
    · exact ⟨rfl, rfl, rfl, trivial⟩
    · (try simp only [List.cons_append, List.nil_append]); exact Tf
  ·
   refine c_exit ?_
   refine k_then_exit ?_
   refine k_then_exit ?_
   refine k_blk_here ?_
   refine k_then_n ?_
   refine c_seq ?_
   refine c_plain (.q 0 (.done)) (by kernel_rfl) ?_
   refine q_assign rfl rfl rfl rfl ?_
   refine r_done ?_
   refine s_keep [4] (e' := [(4, _)]) rfl ?_
   refine k_then_n ?_
   refine c_ret ?_
   refine ret1 rfl rfl (()) (by congr 1; symm; simp only [decide_eq_true_eq]; obtain rfl : i = n := (by omega); rw [List.take_of_length_le (by omega), List.take_of_length_le (by omega)] at ht; exact ht) (by trivial) ?_
   exact Tf
theorem num_spec (z : Int) : Spec Try.prog 16 [.int .i64 z] [] (fun (_ : Unit) => .int .i64 z) (fun _ => True) (fun _ => []) := by
 refine spec_mk (n := 4) Try.func16 rfl rfl rfl ?_
 intro Γ w0
 simp only [argE, List.cons_append, List.nil_append, Nat.zero_add, Nat.reduceAdd]
 refine c_seq ?_
 refine c_plain (.q 0 (.done)) (by kernel_rfl) ?_
 refine q_assign rfl rfl rfl rfl ?_
 refine r_done ?_
 refine k_then_n ?_
 refine c_seq ?_
 refine c_plain (.q 0 (.q 1 (.done))) (by kernel_rfl) ?_
 refine q_move rfl rfl rfl rfl ?_
 refine q_assign rfl rfl rfl rfl ?_
 refine r_done ?_
 refine k_then_n ?_
 refine c_ret ?_
 refine ret1 rfl rfl (()) (by first | rfl | (first | rfl | (congr 1; done) | (congr 1 <;> first | rfl | omega | (simp; done) | (simp; omega)))) (by trivial) ?_
 exact Tf
theorem small_spec : Spec Try.prog 32 [] [] (fun (_ : Unit) => .agg #[.int .i64 2, .int .i64 1, .int .i64 0, .int .i64 0, .slice none 0 0]) (fun _ => True) (fun _ => []) := by
 refine spec_mk (n := 2) Try.func32 rfl rfl rfl ?_
 intro Γ w0
 simp only [argE, List.cons_append, List.nil_append, Nat.zero_add, Nat.reduceAdd]
 refine c_seq ?_
 refine c_plain ((.l 0 [] (.done))) (by kernel_rfl) ?_
 refine l_alloc rfl rfl rfl Try.zeroValue24 (zs := [.int .i64 0, .int .i64 0, .int .i64 0, .int .i64 0, .slice none 0 0]) rfl ?_
 intro b0
 refine ag_nil ?_
 refine r_done ?_
 refine k_then_n ?_
 refine c_seq ?_
 refine c_plain (.q 0 ((.l 1 [] (.done)))) (by kernel_rfl) ?_
 refine q_build rfl rfl rfl rfl (vs := [_, _, _, _, _]) (run_buildS Try.underlying24 Try.zeroValue24 (ps := [(0, 1), (1, 1), (2, 1), (3, 1), (4, 1)]) ⟨rfl, Try.sizeOf3, rfl, Try.sizeOf3, rfl, Try.sizeOf3, rfl, Try.sizeOf3, rfl, Try.sizeOf22, trivial⟩ rfl) ?_
 refine l_store (j := 0) rfl rfl rfl rfl Try.sizeOf24 (us := [_, _, _, _, _]) rfl rfl rfl Tk (by first | rfl | exact (Nat.add_zero _).symm) (by first | decide | (simp; done) | omega) ?_
 simp only [setL, List.set]
 refine ag_nil ?_
 refine r_done ?_
 refine k_then_n ?_
 refine c_ret ?_
 refine retL (us := [_]) rfl ⟨rv_cellN rfl Try.isAgg24 Try.sizeOf24 Tk 0 rfl (us := [_, _, _, _, _]) rfl rfl, trivial⟩ (()) (by first | rfl | (first | rfl | (congr 1; done) | (congr 1 <;> first | rfl | omega | (simp; done) | (simp; omega)))) (by trivial) ?_
 exact Tf
theorem works_spec : Spec Try.prog 8 [] [] (fun (_ : Unit) => .bool true) (fun _ => True) (fun _ => []) := by
 refine spec_mk (n := 51) Try.func8 rfl rfl rfl ?_
 intro Γ w0
 simp only [argE, List.cons_append, List.nil_append, Nat.zero_add, Nat.reduceAdd]
 refine c_seq ?_
 refine c_plain (.q 0 (.done)) (by kernel_rfl) ?_
 refine q_assign rfl rfl rfl rfl ?_
 refine r_done ?_
 refine k_then_n ?_
 refine c_seq ?_
 refine c_plain ((.l 0 [] ((.l 1 [] (.q 2 (.q 3 (.q 4 (.q 5 (.q 6 (.done)))))))))) (by kernel_rfl) ?_
 refine l_call rfl rfl rfl rfl rfl rfl Try.call32 (small_spec) Ts ?_
 rintro ⟨⟩ -
 try simp only [List.cons_append, List.nil_append]
 refine ag_nil ?_
 refine s_heap (fun _ h => Bun.fold (Γ := []) h) ?_
 have sp_1 := Dj.new_spec 2 1 0 0 ([]) none 0 0 (Bun []) (.inl rfl) (by rfl) (by omega) okw
 refine l_call rfl rfl rfl rfl rfl rfl Try.call15 (sp_1) Ts ?_
 rintro ⟨d, ⟨dpa, dpc⟩, dpo, dpoc⟩ -
 try simp only [List.cons_append, List.nil_append]
 refine ag_nil ?_
 refine q_move rfl rfl rfl rfl ?_
 refine q_extract rfl rfl rfl rfl rfl ?_
 refine q_extract rfl rfl rfl rfl rfl ?_
 refine q_assign rfl rfl rfl rfl ?_
 refine q_assign rfl rfl rfl rfl ?_
 refine r_done ?_
 rw [show dNew 2 1 0 0 [] = xw0 from rfl]
 refine s_keep [1, 2] (e' := [(1, _), (2, _)]) rfl ?_
 refine k_then_n ?_
 refine c_seq ?_
 refine c_plain (.q 0 (.q 1 (.q 2 (.q 3 ((.l 4 [] ((.l 5 [] (.q 6 (.q 7 (.q 8 (.q 9 (.q 10 (.done)))))))))))))) (by kernel_rfl) ?_
 refine q_move rfl rfl rfl rfl ?_
 refine q_build rfl rfl rfl rfl (vs := [_, _, _]) (run_buildS Try.underlying40 Try.zeroValue40 (ps := [(0, 1), (1, 1), (2, 1)]) ⟨rfl, Try.sizeOf38, rfl, Try.sizeOf3, rfl, Try.sizeOf3, trivial⟩ rfl) ?_
 refine q_build rfl rfl rfl rfl (vs := [_, _, _]) (run_buildS Try.underlying40 Try.zeroValue40 (ps := [(0, 1), (1, 1), (2, 1)]) ⟨rfl, Try.sizeOf38, rfl, Try.sizeOf3, rfl, Try.sizeOf3, trivial⟩ rfl) ?_
 refine q_build rfl rfl rfl rfl (vs := [_, _, _]) (run_buildS Try.underlying40 Try.zeroValue40 (ps := [(0, 1), (1, 1), (2, 1)]) ⟨rfl, Try.sizeOf38, rfl, Try.sizeOf3, rfl, Try.sizeOf3, trivial⟩ rfl) ?_
 refine l_buildSlice rfl rfl rfl rfl (vs := [_, _, _, _, _, _, _, _, _]) (run_buildSl Try.underlying25 Try.sizeOf40 Try.zeroValue40 rfl rfl rfl rfl) ?_
 intro b15
 refine ag_nil ?_
 have sp_2 := events_spec dpa dpc dpo dpoc d xw0 xw0_inv (by decide) ([]) rfl ew (some ⟨b15, 0, none⟩) 3 3 (cells b15 0 [.int .i64 7, .int .i64 0, .int .i64 1, .int .i64 2, .int .i64 0, .int .i64 0, .int .i64 2, .int .i64 1, .int .i64 0]) (rds_some rdn_cells) (by first | rfl | assumption | omega | (simp; done) | (simp; omega)) (by omega)
 refine l_call rfl rfl rfl rfl rfl rfl Try.call22 (sp_2) Ts ?_
 rintro i ⟨hi1, hi2, hi3⟩
 try simp only [List.cons_append, List.nil_append]
 refine ag_nil ?_
 obtain rfl := ew_all i hi1 hi3
 rw [show dAll xw0 (ew.take 3) = xw3 from rfl]
 refine q_move rfl rfl rfl rfl ?_
 refine q_extract rfl rfl rfl rfl rfl ?_
 refine q_extract rfl rfl rfl rfl rfl ?_
 refine q_assign rfl rfl rfl rfl ?_
 refine q_assign rfl rfl rfl rfl ?_
 refine r_done ?_
 refine s_keep [1, 2, 3, 4] (e' := [(1, _), (2, _), (3, _), (4, _)]) rfl ?_
 refine k_then_n ?_
 refine c_seq ?_
 have hfl_ : (flF xw3.vs).length = 1 := by rw [xw3_flags]; rfl
 have hvl_ : (thF xw3.v 1).length = 2 := by rw [xw3_th]; rfl
 refine c_plain (.q 0 ((.l 1 [] (.q 2 (.q 3 (.q 4 ((.l 5 [] (.q 6 (.q 7 (.q 8 (.q 9 (.q 10 (.q 11 (.q 12 (.q 13 ((.l 14 [] (.q 15 ((.l 16 [] ((.l 17 [] (.q 18 (.q 19 (.q 20 ((.l 21 [] ((.l 22 [] ((.l 23 [] (.q 24 (.q 25 (.q 26 (.q 27 ((.l 28 [] ((.l 29 [] (.q 30 (.q 31 (.q 32 (.done)))))))))))))))))))))))))))))))))))))))))))) (by kernel_rfl) ?_
 refine q_move rfl rfl rfl rfl ?_
 have sp_3 := num_spec 0
 refine l_call rfl rfl rfl rfl rfl rfl Try.call16 (sp_3) Ts ?_
 rintro ⟨⟩ -
 try simp only [List.cons_append, List.nil_append]
 refine ag_nil ?_
 refine q_int rfl rfl rfl rfl rfl (b_eql _ _ _ _) ?_
 refine s_eq 21 rfl (v' := .bool true) (by first | rfl | simp) ?_
 refine q_move rfl rfl rfl rfl ?_
 refine q_move rfl rfl rfl rfl ?_
 have sp_4 := num_spec 0
 refine l_call rfl rfl rfl rfl rfl rfl Try.call16 (sp_4) Ts ?_
 rintro ⟨⟩ -
 try simp only [List.cons_append, List.nil_append]
 refine ag_nil ?_
 refine q_int rfl rfl rfl rfl rfl (b_eql _ _ _ _) ?_
 refine s_eq 25 rfl (v' := .bool true) (by first | rfl | simp) ?_
 refine q_pick_t rfl rfl rfl rfl rfl ?_
 refine q_move rfl rfl rfl rfl ?_
 refine q_move rfl rfl rfl rfl ?_
 refine q_int rfl rfl rfl rfl rfl (b_eql _ _ _ _) ?_
 refine s_eq 29 rfl (v' := .bool true) (by first | rfl | simp) ?_
 refine q_pick_t rfl rfl rfl rfl rfl ?_
 refine q_move rfl rfl rfl rfl ?_
 refine q_move rfl rfl rfl rfl ?_
 have sp_5 := Dj.flags_spec dpa dpc dpo dpoc d xw3 xw3_inv
 refine l_call rfl rfl rfl rfl rfl rfl Try.call18 (sp_5) Ts ?_
 rintro ⟨fa, fc⟩ -
 try simp only [List.cons_append, List.nil_append]
 refine ag_nil ?_
 refine q_build rfl rfl rfl rfl (vs := [_, _]) (run_buildS Try.underlying67 Try.zeroValue67 (ps := [(0, 1), (1, 1)]) ⟨rfl, Try.sizeOf3, rfl, Try.sizeOf3, trivial⟩ rfl) ?_
 refine l_buildSlice rfl rfl rfl rfl (run_build1 (us := [_, _]) Try.underlying48 Try.sizeOf67 rfl Try.zeroValue67 rfl rfl rfl) ?_
 intro b35
 refine ag_nil ?_
 refine s_take (A := own 2 enc2 fa fc (flF xw3.vs)) Tk ?_
 refine own_fc fun f_6a f_6b f_6c => ?_
 refine s_heap (fun _ h => Bun.fold ((by (repeat ((with_reducible apply Z2); focus (first | (with_reducible (repeat (first | exact Z0 | apply Z1)); done) | (repeat (first | exact Z0 | apply Z1))))); exact Z3 : Takes _ [own 2 enc2 fa fc (flF xw3.vs), cells b35 0 [.int .i64 0, .int .i64 2]] _) _ h)) ?_
 have sp_7 := flags_same (flF xw3.vs) ([(0, 2)]) fa (some ⟨b35, 0, none⟩) ((flF xw3.vs).length) 1 fc 1 (Bun [own 2 enc2 fa fc (flF xw3.vs), cells b35 0 [.int .i64 0, .int .i64 2]]) (by first | rfl | assumption | omega | (simp; done) | (simp; omega)) (rds_bun (List.mem_cons_self) (rds_own enc2_len (fun h => (f_6b h).1) f_6c)) (by first | rfl | assumption | omega | (simp; done) | (simp; omega)) (rds_bun (List.mem_cons_of_mem _ (List.mem_cons_self)) (rds_some rdn_cells)) (by omega)
 refine l_call rfl rfl rfl rfl rfl rfl Try.call17 (sp_7) Ts ?_
 rintro ⟨⟩ -
 try simp only [List.cons_append, List.nil_append]
 refine s_take (A := Bun [own 2 enc2 fa fc (flF xw3.vs), cells b35 0 [.int .i64 0, .int .i64 2]]) Tk ?_
 refine s_bun ?_
 try simp only [List.cons_append, List.nil_append]
 try simp only [List.cons_append, List.nil_append]
 refine ag_nil ?_
 refine q_pick_t rfl rfl rfl rfl rfl ?_
 refine q_move rfl rfl rfl rfl ?_
 refine s_bool_p 38 rfl (fun hg => ?_) (fun hg => by exfalso; exact hg xw3_flags)
 refine q_move rfl rfl rfl rfl ?_
 have sp_8 := Dj.vector_spec dpa dpc dpo dpoc d xw3 xw3_inv 1
 refine l_call rfl rfl rfl rfl rfl rfl Try.call11 (sp_8) Ts ?_
 rintro ⟨va, vc⟩ -
 try simp only [List.cons_append, List.nil_append]
 refine ag_nil ?_
 refine l_buildSlice rfl rfl rfl rfl (vs := [_, _]) (run_buildSl Try.underlying31 Try.sizeOf35 Try.zeroValue35 rfl rfl rfl rfl) ?_
 intro b41
 refine ag_nil ?_
 refine s_take (A := own 1 encU va vc (thF xw3.v 1)) Tk ?_
 refine own_fc fun f_9a f_9b f_9c => ?_
 refine s_heap (fun _ h => Bun.fold ((by (repeat ((with_reducible apply Z2); focus (first | (with_reducible (repeat (first | exact Z0 | apply Z1)); done) | (repeat (first | exact Z0 | apply Z1))))); exact Z3 : Takes _ [own 1 encU va vc (thF xw3.v 1), cells b41 0 [.int .u64 1, .int .u64 1]] _) _ h)) ?_
 have sp_10 := same_spec (thF xw3.v 1) ([1, 1]) va (some ⟨b41, 0, none⟩) ((thF xw3.v 1).length) 2 vc 2 (Bun [own 1 encU va vc (thF xw3.v 1), cells b41 0 [.int .u64 1, .int .u64 1]]) (by first | rfl | assumption | omega | (simp; done) | (simp; omega)) (rds_bun (List.mem_cons_self) (rds_own encU_len (fun h => (f_9b h).1) f_9c)) (by first | rfl | assumption | omega | (simp; done) | (simp; omega)) (rds_bun (List.mem_cons_of_mem _ (List.mem_cons_self)) (rds_some rdn_cells)) (by omega)
 refine l_call rfl rfl rfl rfl rfl rfl Try.call29 (sp_10) Ts ?_
 rintro ⟨⟩ -
 try simp only [List.cons_append, List.nil_append]
 refine s_take (A := Bun [own 1 encU va vc (thF xw3.v 1), cells b41 0 [.int .u64 1, .int .u64 1]]) Tk ?_
 refine s_bun ?_
 try simp only [List.cons_append, List.nil_append]
 try simp only [List.cons_append, List.nil_append]
 refine ag_nil ?_
 refine q_pick_t rfl rfl rfl rfl rfl ?_
 refine q_move rfl rfl rfl rfl ?_
 refine s_bool_p 44 rfl (fun hg => ?_) (fun hg => by exfalso; exact hg xw3_th)
 refine q_move rfl rfl rfl rfl ?_
 refine q_build rfl rfl rfl rfl (vs := [_, _, _]) (run_buildS Try.underlying40 Try.zeroValue40 (ps := [(0, 1), (1, 1), (2, 1)]) ⟨rfl, Try.sizeOf38, rfl, Try.sizeOf3, rfl, Try.sizeOf3, trivial⟩ rfl) ?_
 have sp_11 := event_spec dpa dpc dpo dpoc d xw3 xw3_inv (by rw [xw3_n]; decide) ([]) xw3_pa 1 0 1
 refine l_call rfl rfl rfl rfl rfl rfl Try.call20 (sp_11) Ts ?_
 rintro ⟨⟩ -
 try simp only [List.cons_append, List.nil_append]
 refine ag_nil ?_
 have sp_12 := num_spec (deE xw3 1 0 1)
 refine l_call rfl rfl rfl rfl rfl rfl Try.call16 (sp_12) Ts ?_
 rintro ⟨⟩ -
 try simp only [List.cons_append, List.nil_append]
 refine ag_nil ?_
 refine q_int rfl rfl rfl rfl rfl (b_eql _ _ _ _) ?_
 refine s_eq 49 rfl (v' := .bool true) (by rw [show deE xw3 1 0 1 = 6 from if_neg xw3_no]; rfl) ?_
 refine q_pick_t rfl rfl rfl rfl rfl ?_
 refine q_assign rfl rfl rfl rfl ?_
 refine r_done ?_
 refine s_keep [0] (e' := [(0, _)]) rfl ?_
 refine k_then_n ?_
 refine c_ret ?_
 refine ret1 rfl rfl (()) (by first | rfl | (first | rfl | (congr 1; done) | (congr 1 <;> first | rfl | omega | (simp; done) | (simp; omega)))) (by trivial) ?_
 exact Tf
end Go.Ab.Dj
set_option linter.unusedVariables false
set_option linter.unusedSimpArgs false
namespace Go.Ab.Ord
/-- Who keeps a vector: (0, t, 0) a thread, (1, o, 0) a lock, (2, o, 0) a volatile, (3, b, r) a round. -/
abbrev Ent := Nat × Int × Int
abbrev eT (t : Int) : Ent := (0, t, 0)
abbrev eL (o : Int) : Ent := (1, o, 0)
abbrev eV (o : Int) : Ent := (2, o, 0)
abbrev eR (r : Int × Int) : Ent := (3, r)
theorem th_inj {t u : Int} : eT t = eT u ↔ t = u := by simp [eT]
/-- What is known of the clocks behind n events: K X i: event i is known to X; V X u: X's clock of thread u; c i: its thread's clock ahead of event i. -/
structure Cor (n : Nat) (K : Ent → Nat → Prop) (V : Ent → Int → Int) (c : Nat → Int) (thr : Nat → Int) (al : Ent → Prop) (run : Int → Prop) : Prop where
  k : ∀ X i, i < n → al X → (K X i ↔ c i ≤ V X (thr i))
  own : ∀ X u, run u → X ≠ eT u → V X u < V (eT u) u
  ownX : ∀ X u, 0 ≤ u → V X u ≤ V (eT u) u
  c1 : ∀ i, i < n → 1 ≤ c i ∧ c i ≤ V (eT (thr i)) (thr i)
  nn : ∀ X u, 0 ≤ V X u
  th0 : ∀ i, i < n → 0 ≤ thr i
  run0 : ∀ u, run u → 0 ≤ u
section
variable {n : Nat} {K K' : Ent → Nat → Prop} {V V' : Ent → Int → Int} {c : Nat → Int} {thr : Nat → Int} {al al' : Ent → Prop} {run run' : Int → Prop}
theorem Cor.pos (h : Cor n K V c thr al run) {u : Int} (hu : run u) : 1 ≤ V (eT u) u := by
  have h1 := h.own (eL 0) u hu (by simp)
  have h2 := h.nn (eL 0) u
  omega
/-- The thread takes in a vector (KG, VG), or none. -/
theorem Cor.gather (h : Cor n K V c thr al run) {t : Int} (ht : run t) (hthr : thr n = t) (hc : c n = V (eT t) t) (KG : Nat → Prop) (VG : Int → Int)
    (hG : ∀ i, i < n → (KG i ↔ c i ≤ VG (thr i))) (hGo : ∀ u, run' u → VG u < V (eT u) u ∨ VG u ≤ 0) (hGX : ∀ u, 0 ≤ u → VG u ≤ V (eT u) u)
    (hat : al (eT t)) (hatt : ∀ u, al' (eT u)) (hal : ∀ X, al' X → al X) (hrun : ∀ u, run' u → run u)
    (hK : ∀ X i, i < n → (K' X i ↔ K X i ∨ (X = eT t ∧ KG i))) (hKn : ∀ X, K' X n ↔ X = eT t)
    (hVt : ∀ u, 0 ≤ u → V' (eT t) u = max (V (eT t) u) (VG u)) (hVo : ∀ X u, 0 ≤ u → X ≠ eT t → V' X u ≤ V X u ∧ (al' X → V' X u = V X u)) (hV0 : ∀ X u, 0 ≤ V' X u) : Cor (n + 1) K' V' c thr al' run' := by
  have ht0 := h.run0 t ht
  have hpos := h.pos ht
  have hge : ∀ w u, 0 ≤ u → V (eT w) u ≤ V' (eT w) u := fun w u hu => by
    by_cases e : eT w = eT t
    · rw [e, hVt u hu]; omega
    · rw [(hVo _ u hu e).2 (hatt w)]; exact Int.le_refl _
  refine ⟨fun X i hi ha => ?_, fun X u hu hX => ?_, fun X u hu => ?_, fun i hi => ?_, hV0, fun i hi => ?_, fun u hu => h.run0 u (hrun u hu)⟩
  · rcases Nat.lt_or_ge i n with h1 | h1
    · rw [hK X i h1]
      have h2 := h.k X i h1 (hal X ha)
      by_cases e : X = eT t
      · subst e
        rw [hVt _ (h.th0 i h1), h2, hG i h1]; simp only [true_and]; omega
      · rw [(hVo X _ (h.th0 i h1) e).2 ha, h2]; simp [e]
    · obtain rfl : i = n := by omega
      rw [hKn, hthr]
      by_cases e : X = eT t
      · subst e; rw [hVt t ht0]; simp only [true_iff]; omega
      · have h1 := h.own X t ht e
        have h2 := (hVo X t ht0 e).1
        simp only [e, false_iff]; omega
  · have h1 := hrun u hu
    have h0 := h.run0 u h1
    have h2 := h.own X u h1 hX
    have h3 := hge u u h0
    by_cases e : X = eT t
    · subst e
      rw [hVt u h0]
      rcases hGo u hu with h4 | h4
      · omega
      · have := h.pos h1; omega
    · have := (hVo X u h0 e).1; omega
  · have h2 := h.ownX X u hu
    have h3 := hge u u hu
    have h4 := hGX u hu
    by_cases e : X = eT t
    · subst e; rw [hVt u hu]; omega
    · have := (hVo X u hu e).1; omega
  · rcases Nat.lt_or_ge i n with h1 | h1
    · have h2 := h.c1 i h1
      have h3 := hge (thr i) (thr i) (h.th0 i h1)
      omega
    · obtain rfl : i = n := by omega
      have h3 := hge t t ht0
      rw [hthr]; omega
  · rcases Nat.lt_or_ge i n with h1 | h1
    · exact h.th0 i h1
    · obtain rfl : i = n := by omega
      rw [hthr]; exact ht0
/-- The thread hands its vector to P (which is no thread); its clock is one more. -/
theorem Cor.release (h : Cor n K V c thr al run) {t : Int} (ht : run t) (hthr : thr n = t) (hc : c n = V (eT t) t) (P : Ent) (hP : ∀ u, P ≠ eT u) (VP : Int → Int)
    (hG : ∀ i, i < n → (K P i ∨ K (eT t) i ↔ c i ≤ VP (thr i))) (hPt : VP t = V (eT t) t) (hPo : ∀ u, run u → u ≠ t → VP u < V (eT u) u) (hPX : ∀ u, 0 ≤ u → VP u ≤ V (eT u) u)
    (hat : al (eT t)) (hal : ∀ X, X ≠ P → al' X → al X) (hrun : ∀ u, run' u → run u)
    (hK : ∀ X i, i < n → (K' X i ↔ K X i ∨ (X = P ∧ K (eT t) i))) (hKn : ∀ X, K' X n ↔ X = eT t ∨ X = P)
    (hV : ∀ X u, 0 ≤ u → V' X u = if X = P then VP u else if X = eT t ∧ u = t then V X u + 1 else V X u) (hV0 : ∀ X u, 0 ≤ V' X u) : Cor (n + 1) K' V' c thr al' run' := by
  have ht0 := h.run0 t ht
  have hpos := h.pos ht
  have hPt' : eT t ≠ P := fun e => hP t e.symm
  have hth : ∀ u v, 0 ≤ v → V' (eT u) v = if u = t ∧ v = t then V (eT u) v + 1 else V (eT u) v := fun u v hv => by
    rw [hV _ v hv, if_neg (fun e => hP u e.symm)]
    by_cases e : u = t
    · subst e; simp
    · rw [if_neg (fun h => e (th_inj.1 h.1)), if_neg (fun h => e h.1)]
  refine ⟨fun X i hi ha => ?_, fun X u hu hX => ?_, fun X u hu => ?_, fun i hi => ?_, hV0, fun i hi => ?_, fun u hu => h.run0 u (hrun u hu)⟩
  · rcases Nat.lt_or_ge i n with h1 | h1
    · rw [hK X i h1, hV X _ (h.th0 i h1)]
      by_cases e : X = P
      · subst e
        rw [if_pos rfl, ← hG i h1]; simp
      · rw [if_neg e]
        have h2 := h.k X i h1 (hal X e ha)
        simp only [e, false_and, or_false]
        rw [h2]
        split
        · rename_i e2
          obtain ⟨rfl, e3⟩ := e2
          have h3 := (h.c1 i h1).2
          rw [e3] at h3 ⊢; omega
        · exact Iff.rfl
    · obtain rfl : i = n := by omega
      rw [hKn, hthr, hV X t ht0]
      by_cases e : X = P
      · subst e; rw [if_pos rfl]; simp; omega
      · rw [if_neg e]
        by_cases e2 : X = eT t
        · subst e2; simp; omega
        · rw [if_neg (fun h => e2 h.1)]
          have := h.own X t ht e2
          simp [e, e2]; omega
  · have h1 := hrun u hu
    have h0 := h.run0 u h1
    have h2 := h.own X u h1 hX
    rw [hth u u h0, hV X u h0]
    by_cases e : X = P
    · subst e
      rw [if_pos rfl]
      by_cases e2 : u = t
      · subst e2; rw [if_pos ⟨rfl, rfl⟩]; omega
      · rw [if_neg (fun h => e2 h.1)]; exact hPo u h1 e2
    · rw [if_neg e, if_neg (fun h => hX (by rw [h.1, h.2]))]
      split <;> omega
  · have h2 := h.ownX X u hu
    have h3 := hPX u hu
    rw [hth u u hu, hV X u hu]
    by_cases e : X = P
    · subst e; rw [if_pos rfl]; split <;> omega
    · rw [if_neg e]
      split
      · rename_i e2
        rw [if_pos ⟨e2.2, e2.2⟩]; omega
      · split <;> omega
  · rcases Nat.lt_or_ge i n with h1 | h1
    · have h2 := h.c1 i h1
      rw [hth _ _ (h.th0 i h1)]
      split <;> omega
    · obtain rfl : i = n := by omega
      rw [hthr, hth _ _ ht0, if_pos ⟨rfl, rfl⟩]; omega
  · rcases Nat.lt_or_ge i n with h1 | h1
    · exact h.th0 i h1
    · obtain rfl : i = n := by omega
      rw [hthr]; exact ht0
/-- The thread starts another one, of which nothing is known. -/
theorem Cor.fork (h : Cor n K V c thr al run) {t o : Int} (ht : run t) (hthr : thr n = t) (hc : c n = V (eT t) t) (ho0 : 0 ≤ o) (hot : o ≠ t) (hoV : ∀ u, 0 ≤ u → V (eT o) u = 0) (hoK : ∀ i, i < n → ¬ K (eT o) i) (hoi : ∀ i, i < n → thr i ≠ o)
    (hal : ∀ X, al' X → al X) (hrun : ∀ u, run' u → run u ∨ u = o)
    (hK : ∀ X i, i < n → (K' X i ↔ K X i ∨ (X = eT o ∧ K (eT t) i))) (hKn : ∀ X, K' X n ↔ X = eT t ∨ X = eT o) (hat : al (eT t))
    (hV : ∀ X u, 0 ≤ u → V' X u = if X = eT o then (if u = o then 1 else V (eT t) u) else if X = eT t ∧ u = t then V X u + 1 else V X u) (hV0 : ∀ X u, 0 ≤ V' X u) : Cor (n + 1) K' V' c thr al' run' := by
  have ht0 := h.run0 t ht
  have hpos := h.pos ht
  have hz : ∀ X, V X o = 0 := fun X => by have h1 := h.ownX X o ho0; rw [hoV o ho0] at h1; have := h.nn X o; omega
  have hnr : ¬ run o := fun hr => by have := h.pos hr; rw [hoV o ho0] at this; omega
  have hth : ∀ u, 0 ≤ u → V' (eT u) u = if u = o then 1 else if u = t then V (eT u) u + 1 else V (eT u) u := fun u hu => by
    rw [hV _ u hu]
    by_cases e : u = o
    · subst e; simp
    · rw [if_neg (fun h => e (th_inj.1 h)), if_neg e]
      by_cases e2 : u = t
      · subst e2; simp
      · rw [if_neg (fun h => e2 h.2), if_neg e2]
  refine ⟨fun X i hi ha => ?_, fun X u hu hX => ?_, fun X u hu => ?_, fun i hi => ?_, hV0, fun i hi => ?_, fun u hu => ?_⟩
  · rcases Nat.lt_or_ge i n with h1 | h1
    · rw [hK X i h1, hV X _ (h.th0 i h1)]
      by_cases e : X = eT o
      · subst e
        rw [if_pos rfl, if_neg (hoi i h1)]
        have h2 := h.k (eT t) i h1 hat
        simp only [true_and]
        rw [h2]
        exact ⟨fun h => h.resolve_left (hoK i h1), .inr⟩
      · rw [if_neg e]
        have h2 := h.k X i h1 (hal X ha)
        simp only [e, false_and, or_false]
        rw [h2]
        split
        · rename_i e2
          obtain ⟨rfl, e3⟩ := e2
          have h3 := (h.c1 i h1).2
          rw [e3] at h3 ⊢; omega
        · exact Iff.rfl
    · obtain rfl : i = n := by omega
      rw [hKn, hthr, hV X t ht0]
      by_cases e : X = eT o
      · subst e; rw [if_pos rfl, if_neg (Ne.symm hot)]; simp; omega
      · rw [if_neg e]
        by_cases e2 : X = eT t
        · subst e2; simp; omega
        · rw [if_neg (fun h => e2 h.1)]
          have := h.own X t ht e2
          simp [e, e2]; omega
  · rcases hrun u hu with h1 | h1
    · have h0 := h.run0 u h1
      have hu2 : u ≠ o := fun e => hnr (e ▸ h1)
      have h2 := h.own X u h1 hX
      rw [hth u h0, if_neg hu2, hV X u h0]
      by_cases e : X = eT o
      · subst e
        rw [if_pos rfl, if_neg hu2]
        split
        · rename_i e2; subst e2; omega
        · rename_i e2; exact h.own _ _ h1 (fun h => e2 (th_inj.1 h).symm)
      · rw [if_neg e, if_neg (fun h => hX (by rw [h.1, h.2]))]
        split <;> omega
    · subst h1
      rw [hth u ho0, if_pos rfl, hV X u ho0, if_neg hX, hz, if_neg (fun h => hot h.2)]; omega
  · have h2 := h.ownX X u hu
    rw [hth u hu, hV X u hu]
    by_cases e : u = o
    · subst e
      rw [if_pos rfl, if_pos rfl, hz]
      split
      · omega
      · rw [if_neg (fun h => hot h.2)]; omega
    · rw [if_neg e, if_neg e]
      by_cases e2 : X = eT o
      · rw [if_pos e2]
        have := h.ownX (eT t) u hu
        split <;> omega
      · rw [if_neg e2]
        split
        · rename_i e3; rw [if_pos e3.2]; omega
        · split <;> omega
  · rcases Nat.lt_or_ge i n with h1 | h1
    · have h2 := h.c1 i h1
      rw [hth _ (h.th0 i h1), if_neg (hoi i h1)]
      split <;> omega
    · obtain rfl : i = n := by omega
      rw [hthr, hth _ ht0, if_neg (Ne.symm hot), if_pos rfl]; omega
  · rcases Nat.lt_or_ge i n with h1 | h1
    · exact h.th0 i h1
    · obtain rfl : i = n := by omega
      rw [hthr]; exact ht0
  · rcases hrun u hu with h1 | h1
    · exact h.run0 u h1
    · omega
end
/-! ### Who happens before whom -/
abbrev Ev := Int × Int × Int
/-- Is there a step from event i to event j? (es: the events; R: the rounds of Arrives and Departs) -/
def ruleE (a b : Ev) (ra rb : Int) : Prop :=
  a.2.1 = b.2.1 ∨ (a.1 = 6 ∧ b.1 = 5 ∧ a.2.2 = b.2.2) ∨ (a.1 = 4 ∧ b.1 = 3 ∧ a.2.2 = b.2.2) ∨ (a.1 = 7 ∧ a.2.2 = b.2.1) ∨ (b.1 = 8 ∧ b.2.2 = a.2.1) ∨ (a.1 = 9 ∧ b.1 = 10 ∧ a.2.2 = b.2.2 ∧ ra = rb)
instance (a b : Ev) (ra rb : Int) : Decidable (ruleE a b ra rb) := by unfold ruleE; infer_instance
def edge (es : List Ev) (R : Nat → Int) (i j : Nat) : Prop := i < j ∧ ∃ a b, es[i]? = some a ∧ es[j]? = some b ∧ ruleE a b (R i) (R j)
inductive HB (es : List Ev) (R : Nat → Int) : Nat → Nat → Prop
  | one {i j : Nat} : edge es R i j → HB es R i j
  | more {i j k : Nat} : edge es R i j → HB es R j k → HB es R i k
section
variable {es : List Ev} {R : Nat → Int} {i j k n : Nat}
theorem HB.trans (h : HB es R i j) (h2 : HB es R j k) : HB es R i k := by
  induction h with
  | one h => exact .more h h2
  | more h _ ih => exact .more h (ih h2)
theorem HB.lt (h : HB es R i j) : i < j := by
  induction h with
  | one h => exact h.1
  | more h _ ih => exact Nat.lt_trans h.1 ih
theorem HB.last : HB es R i n ↔ ∃ j, edge es R j n ∧ (i = j ∨ HB es R i j) := by
  constructor
  · intro h
    induction h with
    | one h => exact ⟨_, h, .inl rfl⟩
    | more h _ ih =>
      obtain ⟨j, h1, h2⟩ := ih
      refine ⟨j, h1, .inr ?_⟩
      rcases h2 with rfl | h2
      · exact .one h
      · exact .more h h2
  · rintro ⟨j, h1, rfl | h2⟩
    · exact .one h1
    · exact h2.trans (.one h1)
theorem HB.first : HB es R i n ↔ ∃ j, edge es R i j ∧ (j = n ∨ HB es R j n) := by
  constructor
  · intro h
    cases h with
    | one h => exact ⟨_, h, .inl rfl⟩
    | more h h2 => exact ⟨_, h, .inr h2⟩
  · rintro ⟨j, h1, rfl | h2⟩
    · exact .one h1
    · exact .more h1 h2
theorem HB.bound (h : HB es R i j) : i < es.length ∧ j < es.length := by
  induction h with
  | one h => obtain ⟨_, a, b, h1, h2, _⟩ := h; exact ⟨(List.getElem?_eq_some_iff.1 h1).1, (List.getElem?_eq_some_iff.1 h2).1⟩
  | more h _ ih => obtain ⟨_, a, b, h1, h2, _⟩ := h; exact ⟨(List.getElem?_eq_some_iff.1 h1).1, ih.2⟩
/-- Does X learn of an event? -/
def srcE (X : Ent) (e : Ev) (r : Int) : Prop := X = eT e.2.1 ∨ (e.1 = 7 ∧ X = eT e.2.2) ∨ (e.1 = 6 ∧ X = eL e.2.2) ∨ (e.1 = 4 ∧ X = eV e.2.2) ∨ (e.1 = 9 ∧ X = eR (e.2.2, r))
def Src (es : List Ev) (R : Nat → Int) (n : Nat) (X : Ent) (j : Nat) : Prop := j < n ∧ ∃ e, es[j]? = some e ∧ srcE X e (R j)
/-- Is event i known to X behind n events? -/
def Kno (es : List Ev) (R : Nat → Int) (n : Nat) (X : Ent) (i : Nat) : Prop := ∃ j, Src es R n X j ∧ (i = j ∨ HB es R i j)
theorem Kno.lt {X : Ent} (h : Kno es R n X i) : i < n := by
  obtain ⟨j, h1, rfl | h2⟩ := h
  · exact h1.1
  · exact Nat.lt_trans h2.lt h1.1
theorem Kno.mono {X : Ent} {m : Nat} (h : Kno es R n X i) (hm : n ≤ m) : Kno es R m X i := by
  obtain ⟨j, ⟨h1, h3⟩, h2⟩ := h
  exact ⟨j, ⟨by omega, h3⟩, h2⟩
theorem Src.next {X : Ent} {e : Ev} (he : es[n]? = some e) : Src es R (n + 1) X j ↔ Src es R n X j ∨ (j = n ∧ srcE X e (R n)) := by
  unfold Src
  constructor
  · rintro ⟨h1, a, h2, h3⟩
    by_cases h : j = n
    · subst h; rw [he] at h2; cases h2; exact .inr ⟨rfl, h3⟩
    · exact .inl ⟨by omega, a, h2, h3⟩
  · rintro (⟨h1, h2⟩ | ⟨rfl, h2⟩)
    · exact ⟨by omega, h2⟩
    · exact ⟨by omega, e, he, h2⟩
theorem Kno.next {X : Ent} {e : Ev} (he : es[n]? = some e) (hi : i < n) : Kno es R (n + 1) X i ↔ Kno es R n X i ∨ (srcE X e (R n) ∧ HB es R i n) := by
  unfold Kno
  constructor
  · rintro ⟨j, h1, h2⟩
    rcases (Src.next he).1 h1 with h1 | ⟨rfl, h1⟩
    · exact .inl ⟨j, h1, h2⟩
    · exact .inr ⟨h1, h2.resolve_left (by omega)⟩
  · rintro (⟨j, h1, h2⟩ | ⟨h1, h2⟩)
    · exact ⟨j, (Src.next he).2 (.inl h1), h2⟩
    · exact ⟨n, (Src.next he).2 (.inr ⟨rfl, h1⟩), .inr h2⟩
theorem Kno.nextn {X : Ent} {e : Ev} (he : es[n]? = some e) : Kno es R (n + 1) X n ↔ srcE X e (R n) := by
  unfold Kno
  constructor
  · rintro ⟨j, h1, h2⟩
    rcases (Src.next he).1 h1 with h1 | ⟨rfl, h1⟩
    · rcases h2 with rfl | h2
      · exact absurd h1.1 (Nat.lt_irrefl _)
      · have := h2.lt; have := h1.1; omega
    · exact h1
  · intro h1; exact ⟨n, (Src.next he).2 (.inr ⟨rfl, h1⟩), .inl rfl⟩
/-- What is ahead of an event: what its thread knows, and what it takes in. -/
theorem HB.at {e : Ev} (he : es[n]? = some e) (hn : n < es.length) : HB es R i n ↔ Kno es R n (eT e.2.1) i ∨ (e.1 = 5 ∧ Kno es R n (eL e.2.2) i) ∨ (e.1 = 3 ∧ Kno es R n (eV e.2.2) i) ∨
    (e.1 = 8 ∧ ∃ j a, j < n ∧ es[j]? = some a ∧ a.2.1 = e.2.2 ∧ (i = j ∨ HB es R i j)) ∨ (e.1 = 10 ∧ Kno es R n (eR (e.2.2, R n)) i) := by
  rw [HB.last]
  constructor
  · rintro ⟨j, ⟨hj, a, b, ha, hb, hr⟩, h⟩
    rw [he] at hb; cases hb
    rcases hr with h1 | ⟨h1, h2, h3⟩ | ⟨h1, h2, h3⟩ | ⟨h1, h2⟩ | ⟨h1, h2⟩ | ⟨h1, h2, h3, h4⟩
    · exact .inl ⟨j, ⟨hj, a, ha, .inl (by rw [h1])⟩, h⟩
    · exact .inr (.inl ⟨h2, j, ⟨hj, a, ha, .inr (.inr (.inl ⟨h1, by rw [h3]⟩))⟩, h⟩)
    · exact .inr (.inr (.inl ⟨h2, j, ⟨hj, a, ha, .inr (.inr (.inr (.inl ⟨h1, by rw [h3]⟩)))⟩, h⟩))
    · exact .inl ⟨j, ⟨hj, a, ha, .inr (.inl ⟨h1, by rw [h2]⟩)⟩, h⟩
    · exact .inr (.inr (.inr (.inl ⟨h1, j, a, hj, ha, h2.symm, h⟩)))
    · exact .inr (.inr (.inr (.inr ⟨h2, j, ⟨hj, a, ha, .inr (.inr (.inr (.inr ⟨h1, by rw [h3, h4]⟩)))⟩, h⟩)))
  · rintro (⟨j, ⟨hj, a, ha, hs⟩, h⟩ | ⟨k5, j, ⟨hj, a, ha, hs⟩, h⟩ | ⟨k3, j, ⟨hj, a, ha, hs⟩, h⟩ | ⟨k8, j, a, hj, ha, hs, h⟩ | ⟨k10, j, ⟨hj, a, ha, hs⟩, h⟩)
    · refine ⟨j, ⟨hj, a, e, ha, he, ?_⟩, h⟩
      rcases hs with hs | ⟨h1, hs⟩ | ⟨_, hs⟩ | ⟨_, hs⟩ | ⟨_, hs⟩
      · exact .inl (th_inj.1 hs).symm
      · exact .inr (.inr (.inr (.inl ⟨h1, (th_inj.1 hs).symm⟩)))
      all_goals simp [eT] at hs
    · refine ⟨j, ⟨hj, a, e, ha, he, ?_⟩, h⟩
      rcases hs with hs | ⟨_, hs⟩ | ⟨h1, hs⟩ | ⟨_, hs⟩ | ⟨_, hs⟩
      · simp at hs
      · simp at hs
      · exact .inr (.inl ⟨h1, k5, by simpa using hs.symm⟩)
      all_goals simp at hs
    · refine ⟨j, ⟨hj, a, e, ha, he, ?_⟩, h⟩
      rcases hs with hs | ⟨_, hs⟩ | ⟨_, hs⟩ | ⟨h1, hs⟩ | ⟨_, hs⟩
      · simp at hs
      · simp at hs
      · simp at hs
      · exact .inr (.inr (.inl ⟨h1, k3, by simpa using hs.symm⟩))
      · simp at hs
    · exact ⟨j, ⟨hj, a, e, ha, he, .inr (.inr (.inr (.inr (.inl ⟨k8, hs.symm⟩))))⟩, h⟩
    · refine ⟨j, ⟨hj, a, e, ha, he, ?_⟩, h⟩
      rcases hs with hs | ⟨_, hs⟩ | ⟨_, hs⟩ | ⟨_, hs⟩ | ⟨h1, hs⟩
      · simp at hs
      · simp at hs
      · simp at hs
      · simp at hs
      · simp at hs
        exact .inr (.inr (.inr (.inr (.inr ⟨h1, k10, hs.1.symm, hs.2.symm⟩))))
end
end Go.Ab.Ord
set_option linter.unusedVariables false
set_option linter.unusedSimpArgs false
set_option maxRecDepth 100000
namespace Go.Ab.Dj
open Go Go.Proofs Go.Ab Go.Ab.Fe Go.Ab.Vc Go.Ab.Ord
/-- The vector of X. -/
def ve (x : VS) (X : Ent) : List Int :=
  if X = eT X.2.1 then thF x X.2.1 else if X = eL X.2.1 then (x.lk X.2.1).getD [] else if X = eV X.2.1 then (x.vo X.2.1).getD [] else if X.1 = 3 then (rdF x X.2).1 else []
theorem ve_th (x : VS) (t : Int) : ve x (eT t) = thF x t := if_pos rfl
theorem ve_lk (x : VS) (o : Int) : ve x (eL o) = (x.lk o).getD [] := by rw [ve, if_neg (by simp), if_pos rfl]
theorem ve_vo (x : VS) (o : Int) : ve x (eV o) = (x.vo o).getD [] := by rw [ve, if_neg (by simp), if_neg (by simp), if_pos rfl]
theorem ve_rd (x : VS) (r : Int × Int) : ve x (eR r) = (rdF x r).1 := by rw [ve, if_neg (by simp), if_neg (by simp), if_neg (by simp), if_pos rfl]
def VV (x : VS) (X : Ent) (u : Int) : Int := (ve x X).getD u.toNat 0
def runV (x : VS) (u : Int) : Prop := (stF x.ck u).1 = 1 ∨ (stF x.ck u).1 = 2
def alV (es : List Ev) (R : Nat → Int) (n : Nat) (x : VS) (X : Ent) : Prop := X.1 = 3 → (x.rd X.2).isSome = true ∨ ∀ j, ¬ Src es R n X j
def thrE (es : List Ev) (i : Nat) : Int := ((es[i]?).map (·.2.1)).getD 0
theorem thrE_at {es : List Ev} {i : Nat} {e : Ev} (h : es[i]? = some e) : thrE es i = e.2.1 := by simp [thrE, h]
theorem rdc' {x : VS} (hx : VInv x) (r : Int × Int) : CV (rdF x r).1 := by
  unfold rdF
  cases h : x.rd r with
  | none => exact Vc.nil_cv
  | some p => exact hx.rdc _ _ h
theorem opt_cv {m : Option (List Int)} (h : ∀ q, m = some q → CV q) : CV (m.getD []) := by
  cases m with
  | none => exact Vc.nil_cv
  | some q => exact h q rfl
theorem ve_cv {x : VS} (hx : VInv x) (X : Ent) : CV (ve x X) := by
  unfold ve
  split
  · exact opt_cv (hx.thc _)
  split
  · exact opt_cv (hx.lkc _)
  split
  · exact opt_cv (hx.voc _)
  split
  · exact rdc' hx _
  exact Vc.nil_cv
theorem cv_nn' {l : List Int} (h : CV l) (i : Nat) : 0 ≤ l.getD i 0 := (g_rng h.rng (by decide) i).1
theorem VV_nn {x : VS} (hx : VInv x) (X : Ent) (u : Int) : 0 ≤ VV x X u := cv_nn' (ve_cv hx X) _
theorem mg_g {m : Option (List Int)} {l : List Int} (hl : CV l) (h : ∀ q, m = some q → CV q) (i : Nat) : (mgF m l).getD i 0 = max (l.getD i 0) ((m.getD []).getD i 0) := by
  cases m with
  | none =>
    have := cv_nn' hl i
    show l.getD i 0 = max (l.getD i 0) (([] : List Int).getD i 0)
    simp only [List.getD_nil]; omega
  | some q => show (jn l q).getD i 0 = _; rw [jn_g hl (h q rfl)]; rfl
/-- What stands behind n events of a list that can be. -/
structure HInv (es : List Ev) (R : Nat → Int) (c : Nat → Int) (n : Nat) (x : VS) : Prop where
  inv : VInv x
  cor : Cor n (Kno es R n) (VV x) c (thrE es) (alV es R n x) (runV x)
  st : ∀ i e, i < n → es[i]? = some e → (stF x.ck e.2.1).1 ≠ 0 ∧ (e.1 = 7 → (stF x.ck e.2.2).1 ≠ 0)
  held : ∀ o t, owF x.ck o = some t → ∀ i, Kno es R n (eL o) i → Kno es R n (eT t) i
  rnd : ∀ j e, j < n → es[j]? = some e → e.1 = 9 → 0 ≤ e.2.2 ∧ R j ≤ (opF x.ck e.2.2).1 ∧ (R j = (opF x.ck e.2.2).1 → (x.rd (e.2.2, R j)).isSome = true)
  ar : ∀ r, (x.rd r).isSome = true → ∃ j, Src es R n (eR r) j
  ex : ∀ u, (stF x.ck u).1 = 3 → ∃ j e, j < n ∧ es[j]? = some e ∧ e.2.1 = u ∧ e.1 = 11
  fk : ∀ j0 j e0 e, j0 < n → j < n → es[j0]? = some e0 → e0.1 = 7 → es[j]? = some e → e.2.1 = e0.2.2 → j0 < j
/-- Nothing changes but what is told. -/
theorem ve_ext {x y : VS} {X : Ent} (h1 : ∀ t, X = eT t → thF y t = thF x t) (h2 : ∀ t, X = eL t → y.lk t = x.lk t) (h3 : ∀ t, X = eV t → y.vo t = x.vo t) (h4 : ∀ r, X = eR r → rdF y r = rdF x r) : ve y X = ve x X := by
  unfold ve
  split
  · rename_i h; exact h1 _ h
  split
  · rename_i h; rw [h2 _ h]
  split
  · rename_i h; rw [h3 _ h]
  split
  · rename_i h; rw [h4 X.2 (by rw [eR, ← h])]
  rfl
theorem thF_up {c : CS} {T : Int → Option (List Int)} {t u : Int} {L : List Int} {a b r} : thF ⟨c, upd T t (some L), a, b, r⟩ u = if u = t then L else (T u).getD [] := by
  show (upd T t (some L) u).getD [] = _
  unfold upd; split <;> rfl
section
variable {es : List Ev} {R : Nat → Int} {c : Nat → Int} {n : Nat} {x : VS} {e : Ev}
theorem alV_th (x : VS) (t : Int) : alV es R n x (eT t) := fun h => by simp at h
theorem alV_lk (x : VS) (t : Int) : alV es R n x (eL t) := fun h => by simp at h
theorem alV_vo (x : VS) (t : Int) : alV es R n x (eV t) := fun h => by simp at h
/-- What a step does to the checker's part. -/
theorem HInv.next (h : HInv es R c n x) (he : es[n]? = some e) (hc : vcanF x e.1 e.2.1 e.2.2) (hcn : c n = (thF x e.2.1).getD e.2.1.toNat 0)
    (h9 : e.1 = 9 → R n = (opF x.ck e.2.2).1) (h10 : e.1 = 10 → R n = (stF x.ck e.2.1).2.2) : HInv es R c (n + 1) (vnF x e.1 e.2.1 e.2.2) := by
  obtain ⟨k, t, o⟩ := e
  simp only at hc hcn h9 h10 ⊢
  have hx := h.inv
  have hcan := hc.1
  have hst0 := can_th hcan
  obtain ⟨l, hth⟩ := th_some hx hst0
  have hlc := hx.thc _ _ hth
  have hlt := thF_eq hth
  obtain ⟨t0, t1⟩ := th_rng hx hst0
  obtain ⟨o5, o7, o9, o10, o11⟩ := can_obj hx.ck hcan
  have hinv' := next_vinv hx hc
  have hthr : thrE es n = t := thrE_at he
  have hnl : n < es.length := (List.getElem?_eq_some_iff.1 he).1
  have hrunt : runV x t := by
    rcases hcan with ⟨h1, -⟩ | ⟨h1, -⟩
    · exact .inr h1
    · exact .inl h1
  have hVt : VV x (eT t) t = (thF x t).getD t.toNat 0 := by rw [VV, ve_th]
  have hcn' : c n = VV x (eT t) t := by rw [hVt]; exact hcn
  have hpres := pres hx.ck hcan
  obtain ⟨n5, n6, n7, n9, n10, n11, nn⟩ := nxF_k hcan
  have hnn : ∀ X u, 0 ≤ VV (vnF x k t o) X u := VV_nn hinv'
  have hck := vn_ck (x := x) (k := k) (t := t) (o := o)
  have hmono : ∀ {X i}, Kno es R n X i → Kno es R (n + 1) X i := fun h => h.mono (Nat.le_succ _)
  have hHB := fun i => HB.at (i := i) (R := R) he hnl
  simp only at hHB
  -- how the threads stand
  have hstF : ∀ u, (stF (nxF x.ck k t o) u).1 = if k = 7 ∧ u = o then 1 else if k = 9 ∧ u = t then 2 else if k = 10 ∧ u = t then 1 else if k = 11 ∧ u = t then 3 else (stF x.ck u).1 := fun u => by
    obtain ⟨s0, s1, s2⟩ := stF_nz hst0
    by_cases k7 : k = 7
    · obtain ⟨p0, p1, p2⟩ := o7 k7
      rw [n7 k7, stF_set p0 p1 rfl]
      by_cases e : u = o
      · simp [k7, e]
      · simp [k7, e]
    by_cases k9 : k = 9
    · rw [n9 k9, stF_set s0 s1 rfl]
      by_cases e : u = t
      · simp [k9, e]
      · simp [k9, e]
    by_cases k10 : k = 10
    · rw [n10 k10, stF_set s0 s1 rfl]
      by_cases e : u = t
      · simp [k10, e]
      · simp [k10, e]
    by_cases k11 : k = 11
    · rw [n11 k11, stF_set s0 s1 rfl]
      by_cases e : u = t
      · simp [k11, e]
      · simp [k11, e]
    simp only [k7, k9, k10, k11, false_and, if_false]
    by_cases k5 : k = 5
    · rw [n5 k5]; rfl
    by_cases k6 : k = 6
    · rw [n6 k6]; rfl
    rw [nn k5 k6 k7 k9 k10 k11]; rfl
  have hrun : ∀ u, runV (vnF x k t o) u → runV x u ∨ (k = 7 ∧ u = o) := fun u hu => by
    unfold runV at hu ⊢
    rw [hck, hstF] at hu
    by_cases e7 : k = 7 ∧ u = o
    · exact .inr e7
    rw [if_neg e7] at hu
    by_cases e9 : k = 9 ∧ u = t
    · rw [e9.2]; exact .inl hrunt
    rw [if_neg e9] at hu
    by_cases e10 : k = 10 ∧ u = t
    · rw [e10.2]; exact .inl hrunt
    rw [if_neg e10] at hu
    by_cases e11 : k = 11 ∧ u = t
    · rw [if_pos e11] at hu; omega
    rw [if_neg e11] at hu
    exact .inl hu
  have hsrc_rd : ∀ {r : Int × Int}, srcE (eR r) (k, t, o) (R n) ↔ k = 9 ∧ r = (o, R n) := fun {r} => by simp [srcE]
  have hal_rd : ∀ {X : Ent}, (X.1 = 3 → (vnF x k t o).rd X.2 = x.rd X.2) → alV es R (n + 1) (vnF x k t o) X → alV es R n x X := fun hE ha h3 => by
    rcases ha h3 with h1 | h1
    · rw [hE h3] at h1; exact .inl h1
    · exact .inr fun j hj => h1 j ((Src.next he).2 (.inl hj))
  refine ⟨hinv', ?_, fun i a hi ha => ?_, fun o' t' ho i hk => ?_, fun j a hj ha k9' => ?_, fun r hr => ?_, fun u hu => ?_, fun j0 j a0 a hj0 hj ha0 k7' ha hta => ?_⟩
  · -- the clocks
    have hl0 : ∀ u : Int, VV x (eT t) u = l.getD u.toNat 0 := fun u => by rw [VV, ve_th, hlt]
    have gat : ∀ (G : Ent) (L : List Int) (y : VS), vnF x k t o = y → alV es R n x G → (∀ u, runV x u → VV x G u < VV x (eT u) u ∨ VV x G u ≤ 0 ∨ ¬ runV y u) → (∀ i, i < n → (HB es R i n ↔ Kno es R n (eT t) i ∨ Kno es R n G i)) → (k ≠ 6 ∧ k ≠ 4 ∧ k ≠ 9 ∧ k ≠ 7) →
        thF y t = L → (∀ i, L.getD i 0 = max (l.getD i 0) ((ve x G).getD i 0)) → (∀ u, u ≠ t → thF y u = thF x u) → y.lk = x.lk → y.vo = x.vo → (∀ r, (y.rd r).isSome = true → (x.rd r).isSome = true) → (∀ r, rdF y r = rdF x r ∨ ((x.rd r).isSome = true ∧ y.rd r = none)  ∨ (rdF y r).1 = (rdF x r).1) →
        Cor (n + 1) (Kno es R (n + 1)) (VV (vnF x k t o)) c (thrE es) (alV es R (n + 1) (vnF x k t o)) (runV (vnF x k t o)) := by
      intro G L y hy hG hGo hGK hk hyt hL hyu hyl hyv hys hyr
      have hno : ∀ X, srcE X (k, t, o) (R n) ↔ X = eT t := fun X => by
        unfold srcE
        simp only
        constructor
        · rintro (h | ⟨h, -⟩ | ⟨h, -⟩ | ⟨h, -⟩ | ⟨h, -⟩)
          · exact h
          all_goals omega
        · exact .inl
      have hEq : ∀ X, X ≠ eT t → (∀ r, X = eR r → (rdF y r).1 = (rdF x r).1) → ve y X = ve x X := fun X hX hr => by
        unfold ve
        split
        · rename_i h; exact hyu _ (fun e => hX (by rw [h, e]))
        split
        · rw [hyl]
        split
        · rw [hyv]
        split
        · rename_i h; exact hr X.2 (by rw [eR, ← h])
        rfl
      refine h.cor.gather hrunt hthr hcn' (Kno es R n G) (VV x G) (fun i hi => h.cor.k G i hi hG) (fun u hu => ?_) (fun u hu => h.cor.ownX G u hu) (alV_th x t) (fun u => alV_th _ u) (fun X ha => ?_) (fun u hu => (hrun u hu).resolve_right (fun h => hk.2.2.2 h.1)) (fun X i hi => ?_) (fun X => ?_) (fun u hu => ?_) (fun X u hu hX => ?_) hnn
      · rcases hGo u ((hrun u hu).resolve_right (fun h => hk.2.2.2 h.1)) with h1 | h1 | h1
        · exact .inl h1
        · exact .inr h1
        · rw [hy] at hu; exact absurd hu h1
      · intro h3
        rcases ha h3 with h1 | h1
        · rw [hy] at h1; exact .inl (hys _ h1)
        · exact .inr fun j hj => h1 j ((Src.next he).2 (.inl hj))
      · rw [Kno.next he hi, hno, hGK i hi]
        constructor
        · rintro (h1 | ⟨h1, h2 | h2⟩)
          · exact .inl h1
          · rw [h1]; exact .inl h2
          · exact .inr ⟨h1, h2⟩
        · rintro (h1 | ⟨h1, h2⟩)
          · exact .inl h1
          · exact .inr ⟨h1, .inr h2⟩
      · rw [Kno.nextn he, hno]
      · rw [VV, ve_th, hy, hyt, hL, hl0]; rfl
      · rw [hy]
        by_cases hr : ∀ r, X = eR r → (rdF y r).1 = (rdF x r).1
        · have := hEq X hX hr
          unfold VV; rw [this]; exact ⟨Int.le_refl _, fun _ => rfl⟩
        · obtain ⟨r, hr⟩ := Classical.not_forall.1 hr
          obtain ⟨hXr, hr⟩ := Classical.not_imp.1 hr
          subst hXr
          rcases hyr r with h1 | ⟨h1, h2⟩ | h1
          · exact absurd (fun _ => by rw [h1]) hr
          · have hz : VV y (eR r) u = 0 := by rw [VV, ve_rd, rdF, h2]; simp
            rw [hz]
            refine ⟨VV_nn hx _ _, fun ha => ?_⟩
            rcases ha rfl with h3 | h3
            · rw [show (eR r).2 = r from rfl, h2] at h3; cases h3
            · obtain ⟨j, hj⟩ := h.ar r h1
              exact absurd ((Src.next he).2 (.inl hj)) (h3 j)
          · exact absurd (fun _ => h1) hr
    have hjl : ∀ {q : List Int}, CV q → ∀ i, (jn l q).getD i 0 = max (l.getD i 0) (q.getD i 0) := fun hq i => jn_g hlc hq i
    -- what is taken in by nobody
    have hnone : ∀ i, i < n → ¬ Kno es R n ((4, 0, 0) : Ent) i := fun i _ h => by
      obtain ⟨j, ⟨_, a, _, hs⟩, _⟩ := h
      unfold srcE at hs; simp at hs
    have hve0 : ve x ((4, 0, 0) : Ent) = [] := by
      rw [ve, if_neg (by simp), if_neg (by simp), if_neg (by simp), if_neg (by simp)]
    by_cases k5 : k = 5
    · refine gat (eL o) (mgF (x.lk o) l) _ (vn5 hth k5) (alV_lk x o) (fun u hu => .inl (h.cor.own _ u hu (by simp))) (fun i hi => ?_) (by omega) (by rw [thF_up, if_pos rfl]) (fun i => by rw [ve_lk]; exact mg_g hlc (hx.lkc _) i) (fun u hu => by rw [thF_up, if_neg hu]; rfl) rfl rfl (fun _ h => h) (fun _ => .inl rfl)
      rw [hHB]
      constructor
      · rintro (h1 | ⟨_, h1⟩ | ⟨h1, _⟩ | ⟨h1, _⟩ | ⟨h1, _⟩)
        · exact .inl h1
        · exact .inr h1
        all_goals omega
      · rintro (h1 | h1)
        · exact .inl h1
        · exact .inr (.inl ⟨k5, h1⟩)
    by_cases k3 : k = 3
    · refine gat (eV o) (mgF (x.vo o) l) _ (vn3 hth k3) (alV_vo x o) (fun u hu => .inl (h.cor.own _ u hu (by simp))) (fun i hi => ?_) (by omega) (by rw [thF_up, if_pos rfl]) (fun i => by rw [ve_vo]; exact mg_g hlc (hx.voc _) i) (fun u hu => by rw [thF_up, if_neg hu]; rfl) rfl rfl (fun _ h => h) (fun _ => .inl rfl)
      rw [hHB]
      constructor
      · rintro (h1 | ⟨h1, _⟩ | ⟨_, h1⟩ | ⟨h1, _⟩ | ⟨h1, _⟩)
        · exact .inl h1
        · omega
        · exact .inr h1
        all_goals omega
      · rintro (h1 | h1)
        · exact .inl h1
        · exact .inr (.inr (.inl ⟨k3, h1⟩))
    by_cases k8 : k = 8
    · have ho3 : (stF x.ck o).1 = 3 := by
        rcases hcan with ⟨h1, h2, -⟩ | ⟨h1, -, h2⟩
        · omega
        · unfold okK at h2
          rcases h2 with h2 | h2 | h2 | h2 | h2 | h2 | h2 | h2 <;> omega
      refine gat (eT o) (mgF (x.th o) l) _ (vn8 hth k8) (alV_th x o) (fun u hu => ?_) (fun i hi => ?_) (by omega) (by rw [thF_up, if_pos rfl]) (fun i => by rw [ve_th]; exact mg_g hlc (hx.thc _) i) (fun u hu => by rw [thF_up, if_neg hu]; rfl) rfl rfl (fun _ h => h) (fun _ => .inl rfl)
      · refine .inl (h.cor.own _ u hu (fun e => ?_))
        rw [th_inj] at e; subst e
        unfold runV at hu; omega
      · rw [hHB]
        constructor
        · rintro (h1 | ⟨h1, _⟩ | ⟨h1, _⟩ | ⟨_, j, a, h1, h2, h3, h4⟩ | ⟨h1, _⟩)
          · exact .inl h1
          · omega
          · omega
          · exact .inr ⟨j, ⟨h1, a, h2, .inl (by rw [h3])⟩, h4⟩
          · omega
        · rintro (h1 | ⟨j, ⟨hj, a, ha, hs⟩, h4⟩)
          · exact .inl h1
          · refine .inr (.inr (.inr (.inl ⟨k8, ?_⟩)))
            rcases hs with hs | ⟨h7, hs⟩ | ⟨_, hs⟩ | ⟨_, hs⟩ | ⟨_, hs⟩
            · exact ⟨j, a, hj, ha, (th_inj.1 hs).symm, h4⟩
            · obtain ⟨j2, a2, hj2, ha2, ht2, -⟩ := h.ex o ho3
              have hlt := h.fk j j2 a a2 hj hj2 ha h7 ha2 (by rw [ht2]; exact th_inj.1 hs)
              have hE : edge es R j j2 := ⟨hlt, a, a2, ha, ha2, .inr (.inr (.inr (.inl ⟨h7, by rw [ht2]; exact (th_inj.1 hs).symm⟩)))⟩
              refine ⟨j2, a2, hj2, ha2, ht2, .inr ?_⟩
              rcases h4 with rfl | h4
              · exact .one hE
              · exact h4.trans (.one hE)
            all_goals simp at hs
    by_cases k10 : k = 10
    · obtain ⟨q1, q2, q3⟩ := o10 k10
      obtain ⟨p, hp, -⟩ := rd_some hx q1 q3
      have hRn := h10 k10
      have hrK : rdK x t o = (o, R n) := by rw [rdK, hRn]
      have hpr : x.rd (o, R n) = some p := by rw [hRn]; exact hp
      have hrf : rdF x (o, R n) = p := by rw [rdF, hpr]; rfl
      have hne : ∀ y : List Int, vnF x k t o = _ := fun _ => vn10 hth k10
      refine gat (eR (o, R n)) (jn l p.1) _ (vn10 hth k10) (fun _ => .inl (by rw [show (eR (o, R n)).2 = (o, R n) from rfl, hpr]; rfl)) (fun u hu => .inl (h.cor.own _ u hu (by simp))) (fun i hi => ?_) (by omega) ?_ (fun i => by rw [ve_rd, hrf]; exact hjl (hx.rdc _ _ hpr) i) (fun u hu => ?_) rfl rfl (fun r hr => ?_) (fun r => ?_)
      · rw [hHB]
        constructor
        · rintro (h1 | ⟨h1, _⟩ | ⟨h1, _⟩ | ⟨h1, _⟩ | ⟨_, h1⟩)
          · exact .inl h1
          · omega
          · omega
          · omega
          · exact .inr h1
        · rintro (h1 | h1)
          · exact .inl h1
          · exact .inr (.inr (.inr (.inr ⟨k10, h1⟩)))
      · show (upd x.th t _ t).getD [] = _
        rw [upd_same, ← hRn, hrf, hlt]; rfl
      · show (upd x.th t _ u).getD [] = _
        rw [upd_ne hu]; rfl
      · rw [show (⟨nxF x.ck k t o, (dpF x t o).th, (dpF x t o).lk, (dpF x t o).vo, (dpF x t o).rd⟩ : VS).rd r = (dpF x t o).rd r from rfl, dpF] at hr
        by_cases e : r = (o, (stF x.ck t).2.2)
        · rw [e, hp]; rfl
        · simp only [upd_ne e] at hr; exact hr
      · by_cases e : r = (o, (stF x.ck t).2.2)
        · subst e
          by_cases hz : (rdF x (o, (stF x.ck t).2.2)).2 - 1 ≤ 0
          · refine .inr (.inl ⟨by rw [hp]; rfl, ?_⟩)
            show (dpF x t o).rd _ = none
            rw [dpF]; simp only [upd_same, if_pos hz]
          · refine .inr (.inr ?_)
            show (((dpF x t o).rd _).getD ([], 0)).1 = _
            rw [dpF]; simp only [upd_same, if_neg hz, Option.getD_some]
        · refine .inl ?_
          show ((dpF x t o).rd _).getD ([], 0) = _
          rw [dpF]; simp only [upd_ne e]; rfl
    -- what hands on
    have rel : ∀ (P : Ent) (y : VS), vnF x k t o = y → (∀ u, P ≠ eT u) → (∀ X, srcE X (k, t, o) (R n) ↔ X = eT t ∨ X = P) → k ≠ 7 → (∀ i, i < n → (HB es R i n ↔ Kno es R n (eT t) i)) → (∀ i, i < n → (Kno es R n P i ∨ Kno es R n (eT t) i ↔ c i ≤ VV y P (thrE es i))) →
        VV y P t = VV x (eT t) t → (∀ u, runV x u → u ≠ t → VV y P u < VV x (eT u) u) → (∀ u, 0 ≤ u → VV y P u ≤ VV x (eT u) u) → thF y t = icL l t.toNat → (∀ u, u ≠ t → thF y u = thF x u) → (∀ X, X ≠ P → (∀ u, X ≠ eT u) → ve y X = ve x X) → (∀ r, P ≠ eR r → y.rd r = x.rd r) →
        Cor (n + 1) (Kno es R (n + 1)) (VV (vnF x k t o)) c (thrE es) (alV es R (n + 1) (vnF x k t o)) (runV (vnF x k t o)) := by
      intro P y hy hP hs hk7 hHBt hPK hPt hPo hPX hyt hyu hyX hyr
      refine h.cor.release hrunt hthr hcn' P hP (VV y P) hPK hPt hPo hPX (alV_th x t) (fun X hX ha => ?_) (fun u hu => (hrun u hu).resolve_right (fun h => hk7 h.1)) (fun X i hi => ?_) (fun X => ?_) (fun X u hu => ?_) hnn
      · refine hal_rd (fun h3 => ?_) ha
        rw [hy]
        exact hyr X.2 (fun e => hX (by rw [e, eR, ← h3]))
      · rw [Kno.next he hi, hs, hHBt i hi]
        constructor
        · rintro (h1 | ⟨rfl | h1, h2⟩)
          · exact .inl h1
          · exact .inl h2
          · exact .inr ⟨h1, h2⟩
        · rintro (h1 | ⟨h1, h2⟩)
          · exact .inl h1
          · exact .inr ⟨.inr h1, h2⟩
      · rw [Kno.nextn he, hs]
      · rw [hy]
        by_cases e : X = P
        · rw [if_pos e, e]
        · rw [if_neg e]
          by_cases e2 : ∃ w, X = eT w
          · obtain ⟨w, rfl⟩ := e2
            by_cases e3 : w = t
            · subst e3
              have h1 : VV y (eT w) u = (icL l w.toNat).getD u.toNat 0 := by rw [VV, ve_th, hyt]
              rw [h1, icL_g]
              by_cases e4 : u = w
              · subst e4; rw [if_pos rfl, if_pos ⟨rfl, rfl⟩, hl0]
              · rw [if_neg (by omega), if_neg (fun h => e4 h.2), hl0]
            · rw [if_neg (fun h => e3 (th_inj.1 h.1))]
              rw [VV, ve_th, hyu w e3, VV, ve_th]
          · rw [if_neg (fun h => e2 ⟨t, h.1⟩)]
            rw [VV, hyX X e (fun u h => e2 ⟨u, h⟩)]; rfl
    have hHBt : k ≠ 5 → k ≠ 3 → k ≠ 8 → k ≠ 10 → ∀ i, i < n → (HB es R i n ↔ Kno es R n (eT t) i) := fun k5 k3 k8 k10 i hi => by
      rw [hHB]
      constructor
      · rintro (h1 | ⟨h1, _⟩ | ⟨h1, _⟩ | ⟨h1, _⟩ | ⟨h1, _⟩)
        · exact h1
        all_goals omega
      · exact .inl
    have hKt : ∀ i, i < n → (Kno es R n (eT t) i ↔ c i ≤ l.getD (thrE es i).toNat 0) := fun i hi => by
      rw [h.cor.k (eT t) i hi (alV_th x t), hl0]
    have hown : ∀ u, runV x u → u ≠ t → l.getD u.toNat 0 < VV x (eT u) u := fun u hu hne => by
      have := h.cor.own (eT t) u hu (fun e => hne (th_inj.1 e).symm)
      rw [hl0] at this; exact this
    have hownX : ∀ u, 0 ≤ u → l.getD u.toNat 0 ≤ VV x (eT u) u := fun u hu => by
      have := h.cor.ownX (eT t) u hu
      rw [hl0] at this; exact this
    by_cases k6 : k = 6
    · have how : owF x.ck o = some t := by
        rcases hcan with ⟨h1, h2, -⟩ | ⟨h1, -, h2⟩
        · omega
        · unfold okK at h2
          rcases h2 with h2 | h2 | h2 | ⟨h2, h3, h4⟩ | h2 | h2 | h2 | h2
          · omega
          · omega
          · omega
          · exact h4
          all_goals omega
      have hy := vn6 (x := x) (k := k) (t := t) (o := o) hth k6
      have hPv : ∀ u, VV (⟨nxF x.ck k t o, upd x.th t (some (icL l t.toNat)), upd x.lk o (some l), x.vo, x.rd⟩ : VS) (eL o) u = l.getD u.toNat 0 := fun u => by
        rw [VV, ve_lk]; show ((upd x.lk o (some l) o).getD []).getD _ 0 = _; rw [upd_same]; rfl
      refine rel (eL o) _ hy (fun u => by simp) (fun X => ?_) (by omega) (hHBt k5 k3 k8 k10) (fun i hi => ?_) (by rw [hPv, hl0]) (fun u hu hne => by rw [hPv]; exact hown u hu hne) (fun u hu => by rw [hPv]; exact hownX u hu) (by rw [thF_up, if_pos rfl]) (fun u hu => by rw [thF_up, if_neg hu]; rfl) (fun X hX hXt => ve_ext (fun u e => absurd e (hXt u)) (fun u e => upd_ne (fun e2 => hX (by rw [e, e2]))) (fun _ _ => rfl) (fun _ _ => rfl)) (fun _ _ => rfl)
      · unfold srcE; simp only [k6]; simp
      · rw [hPv, ← hKt i hi]
        exact ⟨fun h1 => h1.elim (fun h2 => h.held o t how i h2) id, .inr⟩
    by_cases k4 : k = 4
    · have hy := vn4 (x := x) (k := k) (t := t) (o := o) hth k4
      have hPv : ∀ u, VV (⟨nxF x.ck k t o, upd x.th t (some (icL l t.toNat)), x.lk, upd x.vo o (some (mgF (x.vo o) l)), x.rd⟩ : VS) (eV o) u = max (l.getD u.toNat 0) (VV x (eV o) u) := fun u => by
        rw [VV, ve_vo]; show ((upd x.vo o _ o).getD []).getD _ 0 = _; rw [upd_same, Option.getD_some, mg_g hlc (hx.voc _), VV, ve_vo]
      refine rel (eV o) _ hy (fun u => by simp) (fun X => ?_) (by omega) (hHBt k5 k3 k8 k10) (fun i hi => ?_) ?_ (fun u hu hne => ?_) (fun u hu => ?_) (by rw [thF_up, if_pos rfl]) (fun u hu => by rw [thF_up, if_neg hu]; rfl) (fun X hX hXt => ve_ext (fun u e => absurd e (hXt u)) (fun _ _ => rfl) (fun u e => upd_ne (fun e2 => hX (by rw [e, e2]))) (fun _ _ => rfl)) (fun _ _ => rfl)
      · unfold srcE; simp only [k4]; simp
      · rw [hPv, hKt i hi, h.cor.k (eV o) i hi (alV_vo x o)]; omega
      · have h1 := h.cor.ownX (eV o) t t0
        rw [hPv, ← hl0]; omega
      · have h1 := h.cor.own (eV o) u hu (by simp)
        have h2 := hown u hu hne
        rw [hPv]; omega
      · have h1 := h.cor.ownX (eV o) u hu
        have h2 := hownX u hu
        rw [hPv]; omega
    by_cases k9 : k = 9
    · have hy := vn9 (x := x) (k := k) (t := t) (o := o) hth k9
      have hRn := h9 k9
      rw [← hRn] at hy
      have hcvr : ∀ q, (x.rd (o, R n)).map (·.1) = some q → CV q := fun q hq => map_fst_cv hx hq
      have hgd : ((x.rd (o, R n)).map (·.1)).getD [] = (rdF x (o, R n)).1 := by rw [rdF]; cases x.rd (o, R n) <;> rfl
      have hPv : ∀ u, VV (⟨nxF x.ck k t o, upd x.th t (some (icL l t.toNat)), x.lk, x.vo, upd x.rd (o, R n) (some (mgF ((x.rd (o, R n)).map (·.1)) l, x.ck.pa.getD o.toNat 0))⟩ : VS) (eR (o, R n)) u = max (l.getD u.toNat 0) (VV x (eR (o, R n)) u) := fun u => by
        rw [VV, ve_rd, rdF]; show ((upd x.rd (o, R n) _ (o, R n)).getD ([], 0)).1.getD _ 0 = _; rw [upd_same, Option.getD_some, mg_g hlc hcvr, VV, ve_rd, hgd]
      have hal : alV es R n x (eR (o, R n)) := fun _ => by
        by_cases hs : ∀ j, ¬ Src es R n (eR (o, R n)) j
        · exact .inr hs
        · obtain ⟨j, hj⟩ := Classical.not_forall.1 hs
          obtain ⟨hj, a, ha, hsr⟩ := Classical.not_not.1 hj
          have h1 : a.1 = 9 ∧ o = a.2.2 ∧ R n = R j := by simpa [srcE] using hsr
          have h2 := h.rnd j a hj ha h1.1
          rw [← h1.2.1, ← h1.2.2, hRn] at h2
          rw [show (eR (o, R n)).2 = (o, R n) from rfl, hRn]
          exact .inl (h2.2.2 rfl)
      refine rel (eR (o, R n)) _ hy (fun u => by simp) (fun X => ?_) (by omega) (hHBt k5 k3 k8 k10) (fun i hi => ?_) ?_ (fun u hu hne => ?_) (fun u hu => ?_) (by rw [thF_up, if_pos rfl]) (fun u hu => by rw [thF_up, if_neg hu]; rfl)
        (fun X hX hXt => ve_ext (fun u e => absurd e (hXt u)) (fun _ _ => rfl) (fun _ _ => rfl) (fun r e => ?_)) (fun r hr => upd_ne (fun e => hr (by rw [e])))
      · unfold srcE; simp only [k9]; simp
      · rw [hPv, hKt i hi, h.cor.k (eR (o, R n)) i hi hal]; omega
      · have h1 := h.cor.ownX (eR (o, R n)) t t0
        rw [hPv, ← hl0]; omega
      · have h1 := h.cor.own (eR (o, R n)) u hu (by simp)
        have h2 := hown u hu hne
        rw [hPv]; omega
      · have h1 := h.cor.ownX (eR (o, R n)) u hu
        have h2 := hownX u hu
        rw [hPv]; omega
      · show (upd x.rd (o, R n) _ r).getD ([], 0) = _
        rw [upd_ne (fun e2 => hX (by rw [e, e2]))]; rfl
    by_cases k7 : k = 7
    · obtain ⟨p0, p1, p2⟩ := o7 k7
      have hy := vn7 (x := x) (k := k) (t := t) (o := o) hth k7
      have hot : o ≠ t := fun e => by rw [e] at p2; exact hst0 p2
      have hno : x.th o = none := by
        cases hq : x.th o with
        | none => rfl
        | some q => exact absurd p2 ((hx.th o).1 (by rw [hq]; rfl))
      have hoK : ∀ i, i < n → ¬ Kno es R n (eT o) i := fun i hi hk => by
        obtain ⟨j, ⟨hj, a, ha, hs⟩, -⟩ := hk
        obtain ⟨s1, s2⟩ := h.st j a hj ha
        rcases hs with hs | ⟨h7, hs⟩ | ⟨_, hs⟩ | ⟨_, hs⟩ | ⟨_, hs⟩
        · rw [← th_inj.1 hs] at s1; exact s1 p2
        · have := s2 h7; rw [← th_inj.1 hs] at this; exact this p2
        all_goals simp at hs
      refine h.cor.fork hrunt hthr hcn' p0 hot (fun u hu => ?_) hoK (fun i hi e => ?_) (fun X ha => hal_rd (fun h3 => by rw [hy]) ha) (fun u hu => (hrun u hu).imp id (·.2)) (fun X i hi => ?_) (fun X => ?_) (alV_th x t) (fun X u hu => ?_) hnn
      · rw [VV, ve_th, thF, hno]; simp
      · rcases Nat.lt_or_ge i es.length with h1 | h1
        · obtain ⟨a, ha⟩ := get_lt h1
          rw [thrE_at ha] at e
          have := (h.st i a hi ha).1
          rw [e] at this; exact this p2
        · omega
      · rw [Kno.next he hi, hHBt k5 k3 k8 k10 i hi]
        unfold srcE; simp only [k7]
        constructor
        · rintro (h1 | ⟨rfl | ⟨_, h1⟩ | ⟨h1, _⟩ | ⟨h1, _⟩ | ⟨h1, _⟩, h2⟩)
          · exact .inl h1
          · exact .inl h2
          · exact .inr ⟨h1, h2⟩
          all_goals omega
        · rintro (h1 | ⟨h1, h2⟩)
          · exact .inl h1
          · exact .inr ⟨.inr (.inl ⟨trivial, h1⟩), h2⟩
      · rw [Kno.nextn he]
        unfold srcE; simp only [k7]; simp
      · rw [hy]
        have hth' : ∀ w, thF (⟨nxF x.ck k t o, upd (upd x.th o (some (stL l o.toNat 1))) t (some (icL l t.toNat)), x.lk, x.vo, x.rd⟩ : VS) w = if w = t then icL l t.toNat else if w = o then stL l o.toNat 1 else thF x w := fun w => by
          rw [thF_up]
          split
          · rfl
          · unfold upd
            split <;> rfl
        by_cases e : ∃ w, X = eT w
        · obtain ⟨w, rfl⟩ := e
          rw [VV, ve_th, hth']
          by_cases e1 : w = t
          · subst e1
            rw [if_pos rfl, if_neg (fun e => hot (th_inj.1 e).symm), icL_g]
            by_cases e4 : u = w
            · subst e4; rw [if_pos rfl, if_pos ⟨rfl, rfl⟩, hl0]
            · rw [if_neg (by omega), if_neg (fun h => e4 h.2), hl0]
          · rw [if_neg e1]
            by_cases e2 : w = o
            · subst e2
              rw [if_pos rfl, if_pos rfl, stL_g]
              by_cases e4 : u = w
              · subst e4; rw [if_pos rfl, if_pos rfl]
              · rw [if_neg (by omega), if_neg e4, hl0]
            · rw [if_neg e2, if_neg (fun e => e2 (th_inj.1 e)), if_neg (fun h => e1 (th_inj.1 h.1)), VV, ve_th]
        · rw [if_neg (fun h => e ⟨o, h⟩), if_neg (fun h => e ⟨t, h.1⟩)]
          rw [VV, VV, ve_ext (x := x) (y := ⟨nxF x.ck k t o, upd (upd x.th o (some (stL l o.toNat 1))) t (some (icL l t.toNat)), x.lk, x.vo, x.rd⟩) (fun u h => absurd ⟨u, h⟩ e) (fun _ _ => rfl) (fun _ _ => rfl) (fun _ _ => rfl)]
    · refine gat ((4, 0, 0) : Ent) l _ (vn0 k5 k3 k8 k10 k6 k4 k9 k7) (fun h => by simp at h) (fun u hu => .inr (.inl ?_)) (fun i hi => ?_) (by omega) hlt (fun i => ?_) (fun u hu => rfl) rfl rfl (fun _ h => h) (fun _ => .inl rfl)
      · rw [VV, hve0]; simp
      · rw [hHBt k5 k3 k8 k10 i hi]
        exact ⟨.inl, fun h => h.resolve_right (hnone i hi)⟩
      · have := cv_nn' hlc i
        rw [hve0]; simp only [List.getD_nil]; omega
  · rw [hck]
    rcases Nat.lt_or_ge i n with h1 | h1
    · obtain ⟨s1, s2⟩ := h.st i a h1 ha
      exact ⟨(hpres _).2 (.inl s1), fun h7 => (hpres _).2 (.inl (s2 h7))⟩
    · obtain rfl : i = n := by omega
      rw [he] at ha; cases ha
      exact ⟨(hpres _).2 (.inl hst0), fun h7 => (hpres _).2 (.inr ⟨h7, rfl⟩)⟩
  · -- who holds a lock knows what it keeps
    rw [hck] at ho
    have hi : i < n ∨ i = n := by have := hk.lt; omega
    have hold : owF x.ck o' = some t' ∨ (k = 5 ∧ o' = o ∧ t' = t) := by
      by_cases k5 : k = 5
      · obtain ⟨p0, p1⟩ := o5 (.inl k5)
        rw [n5 k5, owF_set p0 p1 rfl] at ho
        by_cases e : o' = o
        · subst e
          rw [if_pos rfl, if_neg (by omega)] at ho
          cases ho
          exact .inr ⟨k5, rfl, rfl⟩
        · rw [if_neg e] at ho; exact .inl ho
      by_cases k6 : k = 6
      · obtain ⟨p0, p1⟩ := o5 (.inr k6)
        rw [n6 k6, owF_set p0 p1 rfl] at ho
        by_cases e : o' = o
        · subst e
          rw [if_pos rfl, if_pos rfl] at ho
          cases ho
        · rw [if_neg e] at ho; exact .inl ho
      by_cases k7 : k = 7
      · rw [n7 k7] at ho; exact .inl ho
      by_cases k9 : k = 9
      · rw [n9 k9] at ho; exact .inl ho
      by_cases k10 : k = 10
      · rw [n10 k10] at ho; exact .inl ho
      by_cases k11 : k = 11
      · rw [n11 k11] at ho; exact .inl ho
      rw [nn k5 k6 k7 k9 k10 k11] at ho; exact .inl ho
    have hkl : k = 6 → o' ≠ o := fun k6 e => by
      obtain ⟨p0, p1⟩ := o5 (.inr k6)
      rw [n6 k6, owF_set p0 p1 rfl, if_pos e, if_pos rfl] at ho
      cases ho
    have hnsrc : ¬ srcE (eL o') (k, t, o) (R n) := fun hs => by
      have h1 : k = 6 ∧ o' = o := by simpa [srcE] using hs
      exact hkl h1.1 h1.2
    have hkn : Kno es R n (eL o') i := by
      rcases hi with hi | rfl
      · rw [Kno.next he hi] at hk
        exact hk.resolve_right (fun h => hnsrc h.1)
      · rw [Kno.nextn he] at hk; exact absurd hk hnsrc
    rcases hold with hold | ⟨k5, rfl, rfl⟩
    · exact hmono (h.held o' t' hold i hkn)
    · have hin := hkn.lt
      rw [Kno.next he hin]
      refine .inr ⟨.inl rfl, ?_⟩
      rw [hHB]; exact .inr (.inl ⟨k5, hkn⟩)
  · -- rounds
    rw [hck]
    have hvr := vn_rd (x := x) (k := k) (t := t) (o := o)
    rcases Nat.lt_or_ge j n with h1 | h1
    · obtain ⟨r0, r1, r2⟩ := h.rnd j a h1 ha k9'
      have hop := opF_next hx.ck hcan r0
      rw [hop]
      by_cases e : k = 9 ∧ a.2.2 = o
      · obtain ⟨k9, e⟩ := e
        rw [if_pos ⟨k9, e⟩]
        rw [e] at r0 r1 r2 ⊢
        have hRn := h9 k9
        unfold arrF
        split
        · exact ⟨r0, by show R j ≤ _ + 1; omega, fun e2 => by simp only at e2; omega⟩
        · refine ⟨r0, r1, fun e2 => ?_⟩
          simp only at e2
          rw [hvr, if_neg (by omega), if_pos k9, e2, upd_same]; rfl
      · rw [if_neg e]
        refine ⟨r0, r1, fun e2 => ?_⟩
        have hs := r2 e2
        rw [hvr]
        by_cases k10 : k = 10
        · rw [if_pos k10]
          by_cases e3 : (a.2.2, R j) = rdK x t o
          · exfalso
            rw [rdK] at e3
            simp only [Prod.mk.injEq] at e3
            obtain ⟨q1, q2, q3⟩ := o10 k10
            have hfull : fullF x.ck t := by
              rcases hcan with ⟨_, _, _, h4⟩ | ⟨h4, -⟩
              · exact h4
              · omega
            have := hfull.2
            rw [← q3, ← e3.1, ← e3.2] at this
            omega
          · rw [upd_ne e3]; exact hs
        · rw [if_neg k10]
          by_cases k9 : k = 9
          · rw [if_pos k9, upd_ne (fun h => e ⟨k9, by simp only [Prod.mk.injEq] at h; exact h.1⟩)]; exact hs
          · rw [if_neg k9]; exact hs
    · obtain rfl : j = n := by omega
      rw [he] at ha; cases ha
      simp only at k9' ⊢
      obtain ⟨p0, p1, p2, p3⟩ := o9 k9'
      have hRn := h9 k9'
      have hop := opF_next hx.ck hcan p0
      rw [hop, if_pos ⟨k9', rfl⟩, hvr, if_neg (by omega), if_pos k9', hRn, upd_same]
      refine ⟨p0, ?_, fun _ => rfl⟩
      unfold arrF
      split
      · show _ ≤ _ + 1; omega
      · exact Int.le_refl _
  · rw [vn_rd] at hr
    have old : (x.rd r).isSome = true → ∃ j, Src es R (n + 1) (eR r) j := fun h2 => by
      obtain ⟨j, hj⟩ := h.ar r h2
      exact ⟨j, (Src.next he).2 (.inl hj)⟩
    by_cases k10 : k = 10
    · rw [if_pos k10] at hr
      by_cases e : r = rdK x t o
      · obtain ⟨q1, q2, q3⟩ := o10 k10
        obtain ⟨p, hp, -⟩ := rd_some hx q1 q3
        exact old (by rw [e, rdK, hp]; rfl)
      · rw [upd_ne e] at hr; exact old hr
    · rw [if_neg k10] at hr
      by_cases k9 : k = 9
      · rw [if_pos k9] at hr
        by_cases e : r = (o, (opF x.ck o).1)
        · exact ⟨n, (Src.next he).2 (.inr ⟨rfl, hsrc_rd.2 ⟨k9, by rw [e, h9 k9]⟩⟩)⟩
        · rw [upd_ne e] at hr; exact old hr
      · rw [if_neg k9] at hr; exact old hr
  · rw [hck, hstF] at hu
    by_cases e11 : k = 11 ∧ u = t
    · exact ⟨n, _, Nat.lt_succ_self _, he, e11.2.symm, e11.1⟩
    · have h3 : (stF x.ck u).1 = 3 := by
        repeat (split at hu; · omega)
        exact hu
      obtain ⟨j, a, hj, ha, h1, h2⟩ := h.ex u h3
      exact ⟨j, a, by omega, ha, h1, h2⟩
  · rcases Nat.lt_or_ge j0 n with h1 | h1
    · rcases Nat.lt_or_ge j n with h2 | h2
      · exact h.fk j0 j a0 a h1 h2 ha0 k7' ha hta
      · omega
    · obtain rfl : j0 = n := by omega
      rw [he] at ha0; cases ha0
      obtain ⟨p0, p1, p2⟩ := o7 k7'
      rcases Nat.lt_or_ge j j0 with h2 | h2
      · have := (h.st j a h2 ha).1
        rw [hta] at this; exact absurd p2 this
      · have : j ≠ j0 := fun e => by
          subst e; rw [he] at ha; cases ha
          exact hst0 (by rw [show t = o from hta]; exact p2)
        omega
end
end Go.Ab.Dj
set_option linter.unusedVariables false
set_option linter.unusedSimpArgs false
set_option maxRecDepth 100000
namespace Go.Ab.Fe
open Go Go.Proofs Go.Ab
/-- The document's checker at b. -/
def rk (pa : Option Addr) (pc b : Nat) (x : CS) : HProp := fun h => ∃ ta tc oa oc ba bc, Sat [cells b 0 [.int .i64 x.th, .int .i64 x.va, .int .i64 x.vo, .int .i64 x.lk, .slice pa x.pa.length pc, .slice ta x.T.length tc, .slice oa x.O.length oc, .slice ba x.B.length bc, .int .i64 x.n], own 3 enc3 ta tc x.T, own 1 encZ oa oc x.O, own 2 enc2 ba bc x.B] h
section
variable {w0 : World} {ds : List Deferred} {n : Nat} {e : Env} {Γ : List HProp} {X : Act → World → Prop}
theorem rk_open {pa : Option Addr} {pc b : Nat} {x : CS} (k : ∀ ta tc oa oc ba bc, Le (St w0 ds n e (cells b 0 [.int .i64 x.th, .int .i64 x.va, .int .i64 x.vo, .int .i64 x.lk, .slice pa x.pa.length pc, .slice ta x.T.length tc, .slice oa x.O.length oc, .slice ba x.B.length bc, .int .i64 x.n] :: own 3 enc3 ta tc x.T :: own 1 encZ oa oc x.O :: own 2 enc2 ba bc x.B :: Γ)) X) : Le (St w0 ds n e (rk pa pc b x :: Γ)) X := fun a w s => by
  obtain ⟨h1, l1, ⟨ta, tc, oa, oc, ba, bc, a1⟩, s1⟩ := s.heap
  exact k ta tc oa oc ba bc a w ⟨s.defers, s.size, s.env, Bun.unfold ⟨h1, l1, a1, s1⟩, s.amb⟩
theorem rk_fold {Γ' : List HProp} {b : Nat} (x : CS) {pn tn on bn : Nat} {pa : Option Addr} {pc : Nat} {ta oa ba : Option Addr} {tc oc bc : Nat}
    (tk : Takes Γ [cells b 0 [.int .i64 x.th, .int .i64 x.va, .int .i64 x.vo, .int .i64 x.lk, .slice pa pn pc, .slice ta tn tc, .slice oa on oc, .slice ba bn bc, .int .i64 x.n], own 3 enc3 ta tc x.T, own 1 encZ oa oc x.O, own 2 enc2 ba bc x.B] Γ') (h1 : pn = x.pa.length) (h2 : tn = x.T.length) (h3 : on = x.O.length) (h4 : bn = x.B.length)
    (k : Le (St w0 ds n e (rk pa pc b x :: Γ')) X) : Le (St w0 ds n e Γ) X := s_heap (fun h s => by
  subst h1 h2 h3 h4
  obtain ⟨h1, l1, a1, s1⟩ := Bun.fold (tk h s)
  exact ⟨h1, l1, ⟨ta, tc, oa, oc, ba, bc, a1⟩, s1⟩) k
end
theorem can_run' {x : CS} {k t o : Int} (h : (stF x t).1 = 1) : canF x k t o ↔ 0 ≤ o ∧ okK x k t o := by
  unfold canF; rw [h]; simp
theorem owF_n {x : CS} {o : Int} : owF x o = none ↔ owV x o = -1 := by
  unfold owF; split
  · rename_i h; simp [h]
  · rename_i h; simp [h]
theorem owF_s {x : CS} {o t : Int} (ht : t ≠ -1) : owF x o = some t ↔ owV x o = t := by
  unfold owF; split
  · rename_i h; rw [h]; simp; omega
  · simp
theorem can_out {x : CS} {k t o : Int} (h : ¬ (0 ≤ t ∧ t < (x.T.length : Int))) : ¬ canF x k t o := fun hc => by
  have := stF_nz (can_th hc); omega
theorem full_out {x : CS} {t : Int} (h : ¬ (0 ≤ t ∧ t < (x.T.length : Int))) : ¬ fullF x t := fun hc => by
  have := stF_nz (x := x) (t := t) (by rw [hc.1]; decide); omega
theorem take_next {α : Type} {l : List α} {i : Nat} {a : α} (h : l[i]? = some a) : l.take (i + 1) = l.take i ++ [a] := by
  rw [List.take_add_one, h]; rfl
theorem below_spec (i m : Int) : Spec Try.prog 52 [.int .i64 i, .int .i64 m] [] (fun (_ : Unit) => .bool (decide (0 ≤ i ∧ i < m))) (fun _ => True) (fun _ => []) := by
 refine spec_mk (n := 12) Try.func52 rfl rfl rfl ?_
 intro Γ w0
 simp only [argE, List.cons_append, List.nil_append, Nat.zero_add, Nat.reduceAdd]
 refine c_seq ?_
 refine c_plain (.q 0 (.done)) (by kernel_rfl) ?_
 refine q_assign rfl rfl rfl rfl ?_
 refine r_done ?_
 refine k_then_n ?_
 refine c_seq ?_
 refine c_plain (.q 0 (.q 1 (.q 2 (.q 3 (.q 4 (.q 5 (.q 6 (.q 7 (.done))))))))) (by kernel_rfl) ?_
 refine q_move rfl rfl rfl rfl ?_
 refine q_int rfl rfl rfl rfl rfl (b_geq _ _ _ _) ?_
 refine q_move rfl rfl rfl rfl ?_
 refine s_bool_p 7 rfl (fun g_1 => ?_) (fun g_1 => ?_)
 ·
  refine q_move rfl rfl rfl rfl ?_
  refine q_move rfl rfl rfl rfl ?_
  refine q_int rfl rfl rfl rfl rfl (b_lss _ _ _ _) ?_
  refine q_pick_t rfl rfl rfl rfl rfl ?_
  refine q_assign rfl rfl rfl rfl ?_
  refine r_done ?_
  refine s_keep [4] (e' := [(4, _)]) rfl ?_
  refine k_then_n ?_
  refine c_ret ?_
  refine ret1 rfl rfl (()) (by congr 1; first | (rw [decide_eq_decide]; omega) | (symm; rw [decide_eq_false_iff_not]; omega)) (by trivial) ?_
  exact Tf
 ·
  refine q_skip rfl rfl rfl rfl ?_
  refine q_skip rfl rfl rfl rfl ?_
  refine q_skip rfl rfl rfl rfl ?_
  refine q_pick_f rfl rfl rfl rfl rfl ?_
  refine q_assign rfl rfl rfl rfl ?_
  refine r_done ?_
  refine s_keep [4] (e' := [(4, _)]) rfl ?_
  refine k_then_n ?_
  refine c_ret ?_
  refine ret1 rfl rfl (()) (by congr 1; first | (rw [decide_eq_decide]; omega) | (symm; rw [decide_eq_false_iff_not]; omega)) (by trivial) ?_
  exact Tf
theorem count_spec (i : Int) : Spec Try.prog 51 [.int .i64 i] [] (fun (_ : Unit) => .bool (decide (0 ≤ i ∧ i ≤ 4096))) (fun _ => True) (fun _ => []) := by
 refine spec_mk (n := 9) Try.func51 rfl rfl rfl ?_
 intro Γ w0
 simp only [argE, List.cons_append, List.nil_append, Nat.zero_add, Nat.reduceAdd]
 refine c_seq ?_
 refine c_plain (.q 0 (.done)) (by kernel_rfl) ?_
 refine q_assign rfl rfl rfl rfl ?_
 refine r_done ?_
 refine k_then_n ?_
 refine c_seq ?_
 refine c_plain (.q 0 (.q 1 (.q 2 (.q 3 (.q 4 (.q 5 (.q 6 (.done)))))))) (by kernel_rfl) ?_
 refine q_move rfl rfl rfl rfl ?_
 refine q_int rfl rfl rfl rfl rfl (b_geq _ _ _ _) ?_
 refine q_move rfl rfl rfl rfl ?_
 refine s_bool_p 5 rfl (fun g_1 => ?_) (fun g_1 => ?_)
 ·
  refine q_move rfl rfl rfl rfl ?_
  refine q_int rfl rfl rfl rfl rfl (b_leq _ _ _ _) ?_
  refine q_pick_t rfl rfl rfl rfl rfl ?_
  refine q_assign rfl rfl rfl rfl ?_
  refine r_done ?_
  refine s_keep [2] (e' := [(2, _)]) rfl ?_
  refine k_then_n ?_
  refine c_ret ?_
  refine ret1 rfl rfl (()) (by congr 1; first | (rw [decide_eq_decide]; omega) | (symm; rw [decide_eq_false_iff_not]; omega)) (by trivial) ?_
  exact Tf
 ·
  refine q_skip rfl rfl rfl rfl ?_
  refine q_skip rfl rfl rfl rfl ?_
  refine q_pick_f rfl rfl rfl rfl rfl ?_
  refine q_assign rfl rfl rfl rfl ?_
  refine r_done ?_
  refine s_keep [2] (e' := [(2, _)]) rfl ?_
  refine k_then_n ?_
  refine c_ret ?_
  refine ret1 rfl rfl (()) (by congr 1; first | (rw [decide_eq_decide]; omega) | (symm; rw [decide_eq_false_iff_not]; omega)) (by trivial) ?_
  exact Tf
theorem rshape_spec (th va vo lk : Int) (pl : List Int) (ao : Option Addr) (n c : Nat) (A : HProp) (hr : RdS A ao (pl.flatMap encZ)) (hn : pl.length = n) (hb : n ≤ 4000000) : Spec Try.prog 33 [.agg #[.int .i64 th, .int .i64 va, .int .i64 vo, .int .i64 lk, .slice ao n c]] [A] (fun (_ : Unit) => .int .i64 (if OkS th va vo lk pl then 0 else 5)) (fun _ => True) (fun _ => [A]) := by
 refine spec_mk (n := 58) Try.func33 rfl rfl rfl ?_
 intro Γ w0
 simp only [argE, List.cons_append, List.nil_append, Nat.zero_add, Nat.reduceAdd]
 refine c_seq ?_
 refine c_plain ((.l 0 [] (.q 1 (.done)))) (by kernel_rfl) ?_
 refine l_box rfl rfl rfl rfl (us := [_, _, _, _, _]) rfl ?_
 intro b1
 refine ag_nil ?_
 refine q_assign rfl rfl rfl rfl ?_
 refine r_done ?_
 refine k_then_n ?_
 refine c_seq ?_
 refine c_seq ?_
 refine c_plain (.q 0 (.q 1 (.q 2 (.q 3 (.q 4 (.q 5 (.q 6 (.q 7 (.q 8 (.q 9 (.q 10 ((.l 11 [] (.q 12 (.q 13 (.q 14 (.q 15 (.q 16 ((.l 17 [] (.q 18 (.q 19 (.q 20 (.q 21 (.q 22 ((.l 23 [] (.q 24 (.q 25 (.q 26 (.q 27 (.q 28 (.q 29 ((.l 30 [] (.q 31 (.q 32 (.done)))))))))))))))))))))))))))))))))))))) (by kernel_rfl) ?_
 refine q_field (k := 0) rfl rfl rfl rfl Try.underlying24 rfl Try.sizeOf3 rfl ?_
 refine q_load_c (j := 0) rfl rfl rfl rfl Try.isAgg3 Tk (by first | rfl | exact (Nat.add_zero _).symm) (by rfl) ?_
 refine q_int rfl rfl rfl rfl rfl (b_lss _ _ _ _) ?_
 refine q_move rfl rfl rfl rfl ?_
 refine s_bool_p 7 rfl (fun h1 => ?_) (fun h1 => ?_)
 ·
  refine q_skip rfl rfl rfl rfl ?_
  refine q_skip rfl rfl rfl rfl ?_
  refine q_skip rfl rfl rfl rfl ?_
  refine q_pick_t rfl rfl rfl rfl rfl ?_
  refine q_move rfl rfl rfl rfl ?_
  refine q_skip rfl rfl rfl rfl ?_
  refine q_skip rfl rfl rfl rfl ?_
  refine l_skip rfl rfl rfl rfl ?_
  refine q_skip rfl rfl rfl rfl ?_
  refine q_pick_t rfl rfl rfl rfl rfl ?_
  refine q_move rfl rfl rfl rfl ?_
  refine q_skip rfl rfl rfl rfl ?_
  refine q_skip rfl rfl rfl rfl ?_
  refine l_skip rfl rfl rfl rfl ?_
  refine q_skip rfl rfl rfl rfl ?_
  refine q_pick_t rfl rfl rfl rfl rfl ?_
  refine q_move rfl rfl rfl rfl ?_
  refine q_skip rfl rfl rfl rfl ?_
  refine q_skip rfl rfl rfl rfl ?_
  refine l_skip rfl rfl rfl rfl ?_
  refine q_skip rfl rfl rfl rfl ?_
  refine q_pick_t rfl rfl rfl rfl rfl ?_
  refine q_move rfl rfl rfl rfl ?_
  refine q_skip rfl rfl rfl rfl ?_
  refine q_skip rfl rfl rfl rfl ?_
  refine q_skip rfl rfl rfl rfl ?_
  refine l_skip rfl rfl rfl rfl ?_
  refine q_skip rfl rfl rfl rfl ?_
  refine q_pick_t rfl rfl rfl rfl rfl ?_
  refine r_done ?_
  refine s_keep [1, 36] (e' := [(1, _), (36, _)]) rfl ?_
  refine k_then_n ?_
  refine c_cond_t rfl ?_
  refine c_seq ?_
  refine c_plain (.q 0 (.done)) (by kernel_rfl) ?_
  refine q_assign rfl rfl rfl rfl ?_
  refine r_done ?_
  refine k_then_n ?_
  refine c_ret ?_
  refine k_then_ret ?_
  refine ret1 rfl rfl (()) (by rw [if_neg (fun h => by have h1 := h.th; have h2 := h.va; have h3 := h.vo; have h4 := h.lk; have h5 := h.pl; omega)]) (by trivial) ?_
  exact Tf
 ·
  refine q_field (k := 0) rfl rfl rfl rfl Try.underlying24 rfl Try.sizeOf3 rfl ?_
  refine q_load_c (j := 0) rfl rfl rfl rfl Try.isAgg3 Tk (by first | rfl | exact (Nat.add_zero _).symm) (by rfl) ?_
  refine q_int rfl rfl rfl rfl rfl (b_gtr _ _ _ _) ?_
  refine q_pick_f rfl rfl rfl rfl rfl ?_
  refine q_move rfl rfl rfl rfl ?_
  refine s_bool_p 12 rfl (fun h2 => ?_) (fun h2 => ?_)
  ·
   refine q_skip rfl rfl rfl rfl ?_
   refine q_skip rfl rfl rfl rfl ?_
   refine l_skip rfl rfl rfl rfl ?_
   refine q_skip rfl rfl rfl rfl ?_
   refine q_pick_t rfl rfl rfl rfl rfl ?_
   refine q_move rfl rfl rfl rfl ?_
   refine q_skip rfl rfl rfl rfl ?_
   refine q_skip rfl rfl rfl rfl ?_
   refine l_skip rfl rfl rfl rfl ?_
   refine q_skip rfl rfl rfl rfl ?_
   refine q_pick_t rfl rfl rfl rfl rfl ?_
   refine q_move rfl rfl rfl rfl ?_
   refine q_skip rfl rfl rfl rfl ?_
   refine q_skip rfl rfl rfl rfl ?_
   refine l_skip rfl rfl rfl rfl ?_
   refine q_skip rfl rfl rfl rfl ?_
   refine q_pick_t rfl rfl rfl rfl rfl ?_
   refine q_move rfl rfl rfl rfl ?_
   refine q_skip rfl rfl rfl rfl ?_
   refine q_skip rfl rfl rfl rfl ?_
   refine q_skip rfl rfl rfl rfl ?_
   refine l_skip rfl rfl rfl rfl ?_
   refine q_skip rfl rfl rfl rfl ?_
   refine q_pick_t rfl rfl rfl rfl rfl ?_
   refine r_done ?_
   refine s_keep [1, 36] (e' := [(1, _), (36, _)]) rfl ?_
   refine k_then_n ?_
   refine c_cond_t rfl ?_
   refine c_seq ?_
   refine c_plain (.q 0 (.done)) (by kernel_rfl) ?_
   refine q_assign rfl rfl rfl rfl ?_
   refine r_done ?_
   refine k_then_n ?_
   refine c_ret ?_
   refine k_then_ret ?_
   refine ret1 rfl rfl (()) (by rw [if_neg (fun h => by have h1 := h.th; have h2 := h.va; have h3 := h.vo; have h4 := h.lk; have h5 := h.pl; omega)]) (by trivial) ?_
   exact Tf
  ·
   refine q_field (k := 1) rfl rfl rfl rfl Try.underlying24 rfl Try.sizeOf3 rfl ?_
   refine q_load_c (j := 1) rfl rfl rfl rfl Try.isAgg3 Tk (by first | rfl | exact (Nat.add_zero _).symm) (by rfl) ?_
   have sp_1 := count_spec va
   refine l_call rfl rfl rfl rfl rfl rfl Try.call51 (sp_1) Ts ?_
   rintro ⟨⟩ -
   try simp only [List.cons_append, List.nil_append]
   refine ag_nil ?_
   refine q_not rfl rfl rfl rfl ?_
   refine q_pick_f rfl rfl rfl rfl rfl ?_
   refine q_move rfl rfl rfl rfl ?_
   refine s_bool_np 18 rfl (fun h3 => ?_) (fun h3 => ?_)
   ·
    refine q_skip rfl rfl rfl rfl ?_
    refine q_skip rfl rfl rfl rfl ?_
    refine l_skip rfl rfl rfl rfl ?_
    refine q_skip rfl rfl rfl rfl ?_
    refine q_pick_t rfl rfl rfl rfl rfl ?_
    refine q_move rfl rfl rfl rfl ?_
    refine q_skip rfl rfl rfl rfl ?_
    refine q_skip rfl rfl rfl rfl ?_
    refine l_skip rfl rfl rfl rfl ?_
    refine q_skip rfl rfl rfl rfl ?_
    refine q_pick_t rfl rfl rfl rfl rfl ?_
    refine q_move rfl rfl rfl rfl ?_
    refine q_skip rfl rfl rfl rfl ?_
    refine q_skip rfl rfl rfl rfl ?_
    refine q_skip rfl rfl rfl rfl ?_
    refine l_skip rfl rfl rfl rfl ?_
    refine q_skip rfl rfl rfl rfl ?_
    refine q_pick_t rfl rfl rfl rfl rfl ?_
    refine r_done ?_
    refine s_keep [1, 36] (e' := [(1, _), (36, _)]) rfl ?_
    refine k_then_n ?_
    refine c_cond_t rfl ?_
    refine c_seq ?_
    refine c_plain (.q 0 (.done)) (by kernel_rfl) ?_
    refine q_assign rfl rfl rfl rfl ?_
    refine r_done ?_
    refine k_then_n ?_
    refine c_ret ?_
    refine k_then_ret ?_
    refine ret1 rfl rfl (()) (by rw [if_neg (fun h => by have h1 := h.th; have h2 := h.va; have h3 := h.vo; have h4 := h.lk; have h5 := h.pl; omega)]) (by trivial) ?_
    exact Tf
   ·
    refine q_field (k := 2) rfl rfl rfl rfl Try.underlying24 rfl Try.sizeOf3 rfl ?_
    refine q_load_c (j := 2) rfl rfl rfl rfl Try.isAgg3 Tk (by first | rfl | exact (Nat.add_zero _).symm) (by rfl) ?_
    have sp_2 := count_spec vo
    refine l_call rfl rfl rfl rfl rfl rfl Try.call51 (sp_2) Ts ?_
    rintro ⟨⟩ -
    try simp only [List.cons_append, List.nil_append]
    refine ag_nil ?_
    refine q_not rfl rfl rfl rfl ?_
    refine q_pick_f rfl rfl rfl rfl rfl ?_
    refine q_move rfl rfl rfl rfl ?_
    refine s_bool_np 24 rfl (fun h4 => ?_) (fun h4 => ?_)
    ·
     refine q_skip rfl rfl rfl rfl ?_
     refine q_skip rfl rfl rfl rfl ?_
     refine l_skip rfl rfl rfl rfl ?_
     refine q_skip rfl rfl rfl rfl ?_
     refine q_pick_t rfl rfl rfl rfl rfl ?_
     refine q_move rfl rfl rfl rfl ?_
     refine q_skip rfl rfl rfl rfl ?_
     refine q_skip rfl rfl rfl rfl ?_
     refine q_skip rfl rfl rfl rfl ?_
     refine l_skip rfl rfl rfl rfl ?_
     refine q_skip rfl rfl rfl rfl ?_
     refine q_pick_t rfl rfl rfl rfl rfl ?_
     refine r_done ?_
     refine s_keep [1, 36] (e' := [(1, _), (36, _)]) rfl ?_
     refine k_then_n ?_
     refine c_cond_t rfl ?_
     refine c_seq ?_
     refine c_plain (.q 0 (.done)) (by kernel_rfl) ?_
     refine q_assign rfl rfl rfl rfl ?_
     refine r_done ?_
     refine k_then_n ?_
     refine c_ret ?_
     refine k_then_ret ?_
     refine ret1 rfl rfl (()) (by rw [if_neg (fun h => by have h1 := h.th; have h2 := h.va; have h3 := h.vo; have h4 := h.lk; have h5 := h.pl; omega)]) (by trivial) ?_
     exact Tf
    ·
     refine q_field (k := 3) rfl rfl rfl rfl Try.underlying24 rfl Try.sizeOf3 rfl ?_
     refine q_load_c (j := 3) rfl rfl rfl rfl Try.isAgg3 Tk (by first | rfl | exact (Nat.add_zero _).symm) (by rfl) ?_
     have sp_3 := count_spec lk
     refine l_call rfl rfl rfl rfl rfl rfl Try.call51 (sp_3) Ts ?_
     rintro ⟨⟩ -
     try simp only [List.cons_append, List.nil_append]
     refine ag_nil ?_
     refine q_not rfl rfl rfl rfl ?_
     refine q_pick_f rfl rfl rfl rfl rfl ?_
     refine q_move rfl rfl rfl rfl ?_
     refine s_bool_np 30 rfl (fun h5 => ?_) (fun h5 => ?_)
     ·
      refine q_skip rfl rfl rfl rfl ?_
      refine q_skip rfl rfl rfl rfl ?_
      refine q_skip rfl rfl rfl rfl ?_
      refine l_skip rfl rfl rfl rfl ?_
      refine q_skip rfl rfl rfl rfl ?_
      refine q_pick_t rfl rfl rfl rfl rfl ?_
      refine r_done ?_
      refine s_keep [1, 36] (e' := [(1, _), (36, _)]) rfl ?_
      refine k_then_n ?_
      refine c_cond_t rfl ?_
      refine c_seq ?_
      refine c_plain (.q 0 (.done)) (by kernel_rfl) ?_
      refine q_assign rfl rfl rfl rfl ?_
      refine r_done ?_
      refine k_then_n ?_
      refine c_ret ?_
      refine k_then_ret ?_
      refine ret1 rfl rfl (()) (by rw [if_neg (fun h => by have h1 := h.th; have h2 := h.va; have h3 := h.vo; have h4 := h.lk; have h5 := h.pl; omega)]) (by trivial) ?_
      exact Tf
     ·
      refine q_field (k := 4) rfl rfl rfl rfl Try.underlying24 rfl Try.sizeOf22 rfl ?_
      refine q_load_c (j := 4) rfl rfl rfl rfl Try.isAgg22 Tk (by first | rfl | exact (Nat.add_zero _).symm) (by rfl) ?_
      refine q_len rfl rfl rfl rfl Try.underlying22 ?_
      have sp_4 := count_spec ((n : Nat) : Int)
      refine l_call rfl rfl rfl rfl rfl rfl Try.call51 (sp_4) Ts ?_
      rintro ⟨⟩ -
      try simp only [List.cons_append, List.nil_append]
      refine ag_nil ?_
      refine q_not rfl rfl rfl rfl ?_
      refine q_pick_f rfl rfl rfl rfl rfl ?_
      refine r_done ?_
      refine s_keep [1, 36] (e' := [(1, _), (36, _)]) rfl ?_
      refine k_then_n ?_
      refine c_cond_np rfl (fun h6 => ?_) (fun h6 => ?_)
      ·
       refine c_seq ?_
       refine c_plain (.q 0 (.done)) (by kernel_rfl) ?_
       refine q_assign rfl rfl rfl rfl ?_
       refine r_done ?_
       refine k_then_n ?_
       refine c_ret ?_
       refine k_then_ret ?_
       refine ret1 rfl rfl (()) (by rw [if_neg (fun h => by have h1 := h.th; have h2 := h.va; have h3 := h.vo; have h4 := h.lk; have h5 := h.pl; omega)]) (by trivial) ?_
       exact Tf
      ·
       refine c_skip ?_
       refine k_then_n ?_
       refine c_seq ?_
       refine c_seq ?_
       refine c_plain (.q 0 (.done)) (by kernel_rfl) ?_
       refine q_assign rfl rfl rfl rfl ?_
       refine r_done ?_
       refine k_then_n ?_
       refine c_block ?_
       refine c_loop2 (α := Nat) (fun (i : Nat) => i ≤ n ∧ (∀ (j : Nat) (p : Int), j < i → pl[j]? = some p → badP p = false)) (fun (i : Nat) => [(3, .int .i64 ((i : Nat) : Int))]) (fun (i : Nat) => []) (fun (i : Nat) => n - i) [1] (er := [(1, _)]) rfl (0) ?_ (by exact ⟨rfl, trivial⟩) (by (try dsimp only); (try simp only [Nat.add_zero, Nat.zero_add]); (repeat ((with_reducible apply Z2); focus (first | (with_reducible (repeat (first | exact Z0 | apply Z1)); done) | (repeat (first | exact Z0 | apply Z1))))); exact Z3) ?_
       · exact ⟨Nat.zero_le _, fun j p h => by omega⟩
       rintro i ⟨hle_i, hI⟩
       try simp only [List.cons_append, List.nil_append]
       refine c_seq ?_
       refine c_seq ?_
       refine c_plain (.q 0 (.q 1 (.q 2 (.q 3 (.q 4 (.done)))))) (by kernel_rfl) ?_
       refine q_move rfl rfl rfl rfl ?_
       refine q_field (k := 4) rfl rfl rfl rfl Try.underlying24 rfl Try.sizeOf22 rfl ?_
       refine q_load_c (j := 4) rfl rfl rfl rfl Try.isAgg22 Tk (by first | rfl | exact (Nat.add_zero _).symm) (by rfl) ?_
       refine q_len rfl rfl rfl rfl Try.underlying22 ?_
       refine q_int rfl rfl rfl rfl rfl (b_lss _ _ _ _) ?_
       refine r_done ?_
       refine s_keep [1, 3, 41] (e' := [(1, _), (3, _), (41, _)]) rfl ?_
       refine k_then_n ?_
       refine c_cond_p rfl (fun hlt => ?_) (fun hlt => ?_)
       ·
        refine c_skip ?_
        refine k_then_n ?_
        refine c_seq ?_
        refine c_block ?_
        refine c_seq ?_
        obtain ⟨p, hp⟩ := get_lt (l := pl) (i := i) (by omega)
        refine c_plain (.q 0 (.q 1 (.q 2 (.q 3 (.q 4 (.q 5 (.q 6 (.q 7 (.q 8 (.q 9 (.q 10 (.q 11 (.q 12 (.q 13 (.done))))))))))))))) (by kernel_rfl) ?_
        refine q_field (k := 4) rfl rfl rfl rfl Try.underlying24 rfl Try.sizeOf22 rfl ?_
        refine q_load_c (j := 4) rfl rfl rfl rfl Try.isAgg22 Tk (by first | rfl | exact (Nat.add_zero _).symm) (by rfl) ?_
        refine q_move rfl rfl rfl rfl ?_
        refine q_idxR (sz := 0) (k := i) rfl rfl rfl rfl rfl Try.underlying22 Try.sizeOf3 (hr) hp encZ_len (by first | rfl | omega) (by omega) ?_
        intro ib47 io47 _ hd47
        refine q_load rfl rfl rfl rfl Try.isAgg3 Tk (hd47 0 (.int .i64 p) rfl) ?_
        refine q_int rfl rfl rfl rfl rfl (b_lss _ _ _ _) ?_
        refine q_move rfl rfl rfl rfl ?_
        refine s_bool_p 50 rfl (fun hp1 => ?_) (fun hp1 => ?_)
        ·
         refine q_skip rfl rfl rfl rfl ?_
         refine q_skip rfl rfl rfl rfl ?_
         refine q_skip rfl rfl rfl rfl ?_
         refine q_skip rfl rfl rfl rfl ?_
         refine q_skip rfl rfl rfl rfl ?_
         refine q_skip rfl rfl rfl rfl ?_
         refine q_pick_t rfl rfl rfl rfl rfl ?_
         refine r_done ?_
         refine s_keep [1, 3, 51, 52, 53, 54, 55, 56, 57] (e' := [(1, _), (3, _), (51, _), (52, _), (53, _), (54, _), (55, _), (56, _), (57, _)]) rfl ?_
         refine k_then_n ?_
         refine c_cond_t rfl ?_
         have hno : ¬ OkS th va vo lk pl := fun h => by
           have := h.pa p (List.mem_of_getElem? hp); omega
         refine c_seq ?_
         refine c_plain (.q 0 (.done)) (by kernel_rfl) ?_
         refine q_assign rfl rfl rfl rfl ?_
         refine r_done ?_
         refine s_keep [2] (e' := [(2, _)]) rfl ?_
         refine k_then_n ?_
         refine c_ret ?_
         refine k_blk_ret ?_
         refine k_then_ret ?_
         refine k_then_ret ?_
         refine k_blk_ret ?_
         refine k_then_ret ?_
         refine ret1 rfl rfl (()) (by rw [if_neg hno]) (by trivial) ?_
         exact Tf
        ·
         refine q_field (k := 4) rfl rfl rfl rfl Try.underlying24 rfl Try.sizeOf22 rfl ?_
         refine q_load_c (j := 4) rfl rfl rfl rfl Try.isAgg22 Tk (by first | rfl | exact (Nat.add_zero _).symm) (by rfl) ?_
         refine q_move rfl rfl rfl rfl ?_
         refine q_idxR (sz := 0) (k := i) rfl rfl rfl rfl rfl Try.underlying22 Try.sizeOf3 (hr) hp encZ_len (by first | rfl | omega) (by omega) ?_
         intro ib54 io54 _ hd54
         refine q_load rfl rfl rfl rfl Try.isAgg3 Tk (hd54 0 (.int .i64 p) rfl) ?_
         refine q_int rfl rfl rfl rfl rfl (b_gtr _ _ _ _) ?_
         refine q_pick_f rfl rfl rfl rfl rfl ?_
         refine r_done ?_
         refine s_keep [1, 3, 51, 52, 53, 54, 55, 56, 57] (e' := [(1, _), (3, _), (51, _), (52, _), (53, _), (54, _), (55, _), (56, _), (57, _)]) rfl ?_
         refine k_then_n ?_
         refine c_cond_p rfl (fun hp2 => ?_) (fun hp2 => ?_)
         ·
          have hno : ¬ OkS th va vo lk pl := fun h => by
            have := h.pa p (List.mem_of_getElem? hp); omega
          refine c_seq ?_
          refine c_plain (.q 0 (.done)) (by kernel_rfl) ?_
          refine q_assign rfl rfl rfl rfl ?_
          refine r_done ?_
          refine s_keep [2] (e' := [(2, _)]) rfl ?_
          refine k_then_n ?_
          refine c_ret ?_
          refine k_blk_ret ?_
          refine k_then_ret ?_
          refine k_then_ret ?_
          refine k_blk_ret ?_
          refine k_then_ret ?_
          refine ret1 rfl rfl (()) (by rw [if_neg hno]) (by trivial) ?_
          exact Tf
         ·
          have hgood : badP p = false := by simp only [badP, Bool.or_eq_false_iff, decide_eq_false_iff_not]; omega
          refine c_skip ?_
          refine k_blk_n ?_
          refine k_then_n ?_
          refine c_plain (.q 0 (.q 1 (.q 2 (.done)))) (by kernel_rfl) ?_
          refine q_move rfl rfl rfl rfl ?_
          refine q_int rfl rfl rfl rfl rfl (b_add' _ (by exact fits_i64 (by omega) (by omega))) ?_
          refine q_assign rfl rfl rfl rfl ?_
          refine r_done ?_
          refine k_then_n ?_
          refine loop_next (x := i) (i + 1) ?_ ?_ ?_ ?_
          · exact ⟨by omega, fun j q hj hq => (by
                by_cases h : j = i
                · subst h; rw [hp] at hq; cases hq; exact hgood
                · exact hI j q (by omega) hq)⟩
          · show n - (i + 1) < n - i; omega
          · exact ⟨rfl, rfl, trivial⟩
          · (try simp only [List.cons_append, List.nil_append]); exact Tf
       ·
        refine c_exit ?_
        refine k_then_exit ?_
        refine k_then_exit ?_
        refine k_blk_here ?_
        refine k_then_n ?_
        refine c_seq ?_
        refine c_plain (.q 0 (.done)) (by kernel_rfl) ?_
        refine q_assign rfl rfl rfl rfl ?_
        refine r_done ?_
        refine k_then_n ?_
        refine c_ret ?_
        refine ret1 rfl rfl (()) (by rw [if_pos (okS_iff.2 ⟨by omega, by omega, by omega, by omega, by omega, fun p q => by
          obtain ⟨j, hj⟩ := List.getElem?_of_mem q
          exact hI j p (by have := (List.getElem?_eq_some_iff.1 hj).1; omega) hj⟩)]) (by trivial) ?_
        exact Tf
theorem rfull_spec (pa : Option Addr) (pc b : Nat) (x : CS) (hx : CInv x) (t : Int) : Spec Try.prog 53 [.pointer (some ⟨b, 0, none⟩), .int .i64 t] [rk pa pc b x] (fun (_ : Unit) => .bool (decide (fullF x t))) (fun _ => True) (fun _ => [rk pa pc b x]) := by
 refine spec_mk (n := 42) Try.func53 rfl rfl rfl ?_
 intro Γ w0
 simp only [argE, List.cons_append, List.nil_append, Nat.zero_add, Nat.reduceAdd]
 refine c_seq ?_
 refine c_plain (.q 0 (.done)) (by kernel_rfl) ?_
 refine q_assign rfl rfl rfl rfl ?_
 refine r_done ?_
 refine k_then_n ?_
 refine c_seq ?_
 refine c_seq ?_
 refine s_take (A := rk pa pc b x) Tk ?_
 refine rk_open fun ta tc oa oc ba bc => ?_
 refine c_plain (.q 0 (.q 1 (.q 2 (.q 3 (.q 4 (.q 5 (.q 6 (.q 7 (.q 8 ((.l 9 [] (.q 10 (.q 11 (.done)))))))))))))) (by kernel_rfl) ?_
 refine q_move rfl rfl rfl rfl ?_
 refine q_eq_nil rfl rfl rfl rfl Try.underlying58 ?_
 refine s_eq 7 rfl (v' := .bool false) rfl ?_
 refine q_move rfl rfl rfl rfl ?_
 refine q_move rfl rfl rfl rfl ?_
 refine q_move rfl rfl rfl rfl ?_
 refine q_nil_p rfl rfl rfl rfl ?_
 refine q_field (k := 5) rfl rfl rfl rfl Try.underlying113 rfl Try.sizeOf110 rfl ?_
 refine q_load_c (j := 5) rfl rfl rfl rfl Try.isAgg110 Tk (by first | rfl | exact (Nat.add_zero _).symm) (by rfl) ?_
 refine q_len rfl rfl rfl rfl Try.underlying110 ?_
 have sp_1 := below_spec t ((x.T.length : Nat) : Int)
 refine l_call rfl rfl rfl rfl rfl rfl Try.call52 (sp_1) Ts ?_
 rintro ⟨⟩ -
 try simp only [List.cons_append, List.nil_append]
 refine ag_nil ?_
 refine q_not rfl rfl rfl rfl ?_
 refine q_pick_f rfl rfl rfl rfl rfl ?_
 refine r_done ?_
 refine s_keep [0, 1, 17] (e' := [(0, _), (1, _), (17, _)]) rfl ?_
 refine k_then_n ?_
 refine c_cond_np rfl (fun hin => ?_) (fun hin => ?_)
 ·
  refine c_seq ?_
  refine c_plain (.q 0 (.done)) (by kernel_rfl) ?_
  refine q_assign rfl rfl rfl rfl ?_
  refine r_done ?_
  refine k_then_n ?_
  refine c_ret ?_
  refine k_then_ret ?_
  refine rk_fold (b := b) x (pa := pa) (pc := pc) (ta := ta) (tc := tc) (oa := oa) (oc := oc) (ba := ba) (bc := bc) Ts (by rfl) (by rfl) (by rfl) (by rfl) ?_
  refine ret1 rfl rfl (()) (by congr 1; symm; rw [decide_eq_false_iff_not]; exact full_out hin) (by trivial) ?_
  exact Tf
 ·
  have hst := stF_at (x := x) hin.1 hin.2
  refine c_skip ?_
  refine k_then_n ?_
  refine c_seq ?_
  refine c_plain (.q 0 (.q 1 (.q 2 (.q 3 (.q 4 (.q 5 (.q 6 ((.l 7 [] ((.l 8 [] (.done)))))))))))) (by kernel_rfl) ?_
  refine q_move rfl rfl rfl rfl ?_
  refine q_nil_p rfl rfl rfl rfl ?_
  refine q_field (k := 5) rfl rfl rfl rfl Try.underlying113 rfl Try.sizeOf110 rfl ?_
  refine q_load_c (j := 5) rfl rfl rfl rfl Try.isAgg110 Tk (by first | rfl | exact (Nat.add_zero _).symm) (by rfl) ?_
  refine q_move rfl rfl rfl rfl ?_
  refine q_idxO (sz := 2) (k := t.toNat) (enc := enc3) (xs := x.T) rfl rfl rfl rfl rfl Try.underlying110 Try.sizeOf79 hst (by first | rfl | omega) (by omega) Tk ?_
  intro ib23 io23 ha23 hl23 hc23
  refine q_loadN_O (j := 0) (k' := t.toNat) (us := [_, _, _]) (enc := enc3) (off := io23) rfl rfl rfl rfl Try.isAgg79 Try.sizeOf79 ha23 enc3_len hst Tk (by first | rfl | exact (Nat.add_zero _).symm | omega) (by rfl) rfl ?_
  refine l_alloc rfl rfl rfl Try.zeroValue79 (zs := [.int .i64 0, .int .i64 0, .int .i64 0]) rfl ?_
  intro b5
  refine ag_nil ?_
  refine l_store (j := 0) rfl rfl rfl rfl Try.sizeOf79 (us := [_, _, _]) rfl rfl rfl Tk (by first | rfl | exact (Nat.add_zero _).symm) (by first | decide | (simp; done) | omega) ?_
  simp only [setL, List.set]
  refine ag_nil ?_
  refine r_done ?_
  refine s_keep [0, 5] (e' := [(0, _), (5, _)]) rfl ?_
  refine k_then_n ?_
  refine c_seq ?_
  refine c_draw rfl (.q 0 (.q 1 (.q 2 (.q 3 (.q 4 (.q 5 (.q 6 (.q 7 (.q 8 (.q 9 (.q 10 (.q 11 (.q 12 (.q 13 (.q 14 (.q 15 (.q 16 (.q 17 (.done))))))))))))))))))) (by kernel_rfl) ?_
  refine q_field (k := 0) rfl rfl rfl rfl Try.underlying79 rfl Try.sizeOf77 rfl ?_
  refine q_load_c (j := 0) rfl rfl rfl rfl Try.isAgg77 Tk (by first | rfl | exact (Nat.add_zero _).symm) (by rfl) ?_
  refine q_int rfl rfl rfl rfl rfl (b_eql _ _ _ _) ?_
  refine q_move rfl rfl rfl rfl ?_
  refine s_bool_p 28 rfl (fun h2 => ?_) (fun h2 => ?_)
  ·
   have hsi := (stF_inv hx t).2.2.1 h2
   have hop := opF_at hsi.1 hsi.2.1
   refine q_field (k := 2) rfl rfl rfl rfl Try.underlying79 rfl Try.sizeOf3 rfl ?_
   refine q_load_c (j := 2) rfl rfl rfl rfl Try.isAgg3 Tk (by first | rfl | exact (Nat.add_zero _).symm) (by rfl) ?_
   refine q_move rfl rfl rfl rfl ?_
   refine q_nil_p rfl rfl rfl rfl ?_
   refine q_field (k := 7) rfl rfl rfl rfl Try.underlying113 rfl Try.sizeOf111 rfl ?_
   refine q_load_c (j := 7) rfl rfl rfl rfl Try.isAgg111 Tk (by first | rfl | exact (Nat.add_zero _).symm) (by rfl) ?_
   refine q_field (k := 1) rfl rfl rfl rfl Try.underlying79 rfl Try.sizeOf3 rfl ?_
   refine q_load_c (j := 1) rfl rfl rfl rfl Try.isAgg3 Tk (by first | rfl | exact (Nat.add_zero _).symm) (by rfl) ?_
   refine q_idxO (sz := 1) (k := (stF x t).2.1.toNat) (enc := enc2) (xs := x.B) rfl rfl rfl rfl rfl Try.underlying111 Try.sizeOf74 hop (by first | rfl | omega) (by omega) Tk ?_
   intro ib37 io37 ha37 hl37 hc37
   refine q_field (k := 0) rfl rfl rfl rfl Try.underlying74 rfl Try.sizeOf3 rfl ?_
   refine q_load_O (v := (.int .i64 ((opF x (stF x t).2.1).1))) (j := 0) (k' := (stF x t).2.1.toNat) (enc := enc2) (off := io37) rfl rfl rfl rfl Try.isAgg3 ha37 enc2_len hop Tk (by first | rfl | exact (Nat.add_zero _).symm | omega) (by rfl) ?_
   refine q_int rfl rfl rfl rfl rfl (b_lss _ _ _ _) ?_
   refine q_pick_t rfl rfl rfl rfl rfl ?_
   refine q_assign rfl rfl rfl rfl ?_
   refine r_done ?_
   refine s_keep [4] (e' := [(4, _)]) rfl ?_
   refine k_then_n ?_
   refine c_ret ?_
   refine rk_fold (b := b) x (pa := pa) (pc := pc) (ta := ta) (tc := tc) (oa := oa) (oc := oc) (ba := ba) (bc := bc) Ts (by rfl) (by rfl) (by rfl) (by rfl) ?_
   refine ret1 rfl rfl (()) (by congr 1; first | (rw [decide_eq_decide]; simp [fullF, h2]; done) | (symm; rw [decide_eq_false_iff_not]; simp [fullF, h2])) (by trivial) ?_
   exact Tf
  ·
   refine q_skip rfl rfl rfl rfl ?_
   refine q_skip rfl rfl rfl rfl ?_
   refine q_skip rfl rfl rfl rfl ?_
   refine q_skip rfl rfl rfl rfl ?_
   refine q_skip rfl rfl rfl rfl ?_
   refine q_skip rfl rfl rfl rfl ?_
   refine q_skip rfl rfl rfl rfl ?_
   refine q_skip rfl rfl rfl rfl ?_
   refine q_skip rfl rfl rfl rfl ?_
   refine q_skip rfl rfl rfl rfl ?_
   refine q_skip rfl rfl rfl rfl ?_
   refine q_skip rfl rfl rfl rfl ?_
   refine q_pick_f rfl rfl rfl rfl rfl ?_
   refine q_assign rfl rfl rfl rfl ?_
   refine r_done ?_
   refine s_keep [4] (e' := [(4, _)]) rfl ?_
   refine k_then_n ?_
   refine c_ret ?_
   refine rk_fold (b := b) x (pa := pa) (pc := pc) (ta := ta) (tc := tc) (oa := oa) (oc := oc) (ba := ba) (bc := bc) Ts (by rfl) (by rfl) (by rfl) (by rfl) ?_
   refine ret1 rfl rfl (()) (by congr 1; first | (rw [decide_eq_decide]; simp [fullF, h2]; done) | (symm; rw [decide_eq_false_iff_not]; simp [fullF, h2])) (by trivial) ?_
   exact Tf
theorem rcan_spec (pa : Option Addr) (pc b : Nat) (x : CS) (hx : CInv x) (k t o : Int) : Spec Try.prog 34 [.pointer (some ⟨b, 0, none⟩), .agg #[.int .i64 k, .int .i64 t, .int .i64 o]] [rk pa pc b x] (fun (_ : Unit) => .bool (decide (canF x k t o))) (fun _ => True) (fun _ => [rk pa pc b x]) := by
 refine spec_mk (n := 176) Try.func34 rfl rfl rfl ?_
 intro Γ w0
 simp only [argE, List.cons_append, List.nil_append, Nat.zero_add, Nat.reduceAdd]
 have htl := hx.tl
 have hol := hx.ol
 have hbl := hx.bl
 refine c_seq ?_
 refine c_plain ((.l 0 [] (.q 1 (.done)))) (by kernel_rfl) ?_
 refine l_box rfl rfl rfl rfl (us := [_, _, _]) rfl ?_
 intro b3
 refine ag_nil ?_
 refine q_assign rfl rfl rfl rfl ?_
 refine r_done ?_
 refine k_then_n ?_
 refine c_seq ?_
 refine c_seq ?_
 refine s_take (A := rk pa pc b x) Tk ?_
 refine rk_open fun ta tc oa oc ba bc => ?_
 refine c_draw rfl (.q 0 (.q 1 (.q 2 (.q 3 (.q 4 (.q 5 (.q 6 (.q 7 (.q 8 (.q 9 ((.l 10 [] (.q 11 (.q 12 (.done))))))))))))))) (by kernel_rfl) ?_
 refine q_move rfl rfl rfl rfl ?_
 refine q_eq_nil rfl rfl rfl rfl Try.underlying58 ?_
 refine s_eq 7 rfl (v' := .bool false) rfl ?_
 refine q_move rfl rfl rfl rfl ?_
 refine q_field (k := 1) rfl rfl rfl rfl Try.underlying40 rfl Try.sizeOf3 rfl ?_
 refine q_load_c (j := 1) rfl rfl rfl rfl Try.isAgg3 Tk (by first | rfl | exact (Nat.add_zero _).symm) (by rfl) ?_
 refine q_move rfl rfl rfl rfl ?_
 refine q_nil_p rfl rfl rfl rfl ?_
 refine q_field (k := 5) rfl rfl rfl rfl Try.underlying113 rfl Try.sizeOf110 rfl ?_
 refine q_load_c (j := 5) rfl rfl rfl rfl Try.isAgg110 Tk (by first | rfl | exact (Nat.add_zero _).symm) (by rfl) ?_
 refine q_len rfl rfl rfl rfl Try.underlying110 ?_
 have sp_1 := below_spec t ((x.T.length : Nat) : Int)
 refine l_call rfl rfl rfl rfl rfl rfl Try.call52 (sp_1) Ts ?_
 rintro ⟨⟩ -
 try simp only [List.cons_append, List.nil_append]
 refine ag_nil ?_
 refine q_not rfl rfl rfl rfl ?_
 refine q_pick_f rfl rfl rfl rfl rfl ?_
 refine r_done ?_
 refine s_keep [0, 3, 18] (e' := [(0, _), (3, _), (18, _)]) rfl ?_
 refine k_then_n ?_
 refine c_cond_np rfl (fun hin => ?_) (fun hin => ?_)
 ·
  refine c_seq ?_
  refine c_plain (.q 0 (.done)) (by kernel_rfl) ?_
  refine q_assign rfl rfl rfl rfl ?_
  refine r_done ?_
  refine k_then_n ?_
  refine c_ret ?_
  refine k_then_ret ?_
  refine rk_fold (b := b) x (pa := pa) (pc := pc) (ta := ta) (tc := tc) (oa := oa) (oc := oc) (ba := ba) (bc := bc) Ts (by rfl) (by rfl) (by rfl) (by rfl) ?_
  refine ret1 rfl rfl (()) (by congr 1; symm; rw [decide_eq_false_iff_not]; exact can_out hin) (by trivial) ?_
  exact Tf
 ·
  have hst := stF_at (x := x) hin.1 hin.2
  refine c_skip ?_
  refine k_then_n ?_
  refine c_seq ?_
  refine c_draw rfl (.q 0 (.q 1 (.q 2 (.q 3 (.q 4 (.q 5 (.q 6 (.q 7 ((.l 8 [3, 5, 7] ((.l 9 [] (.done))))))))))))) (by kernel_rfl) ?_
  refine q_move rfl rfl rfl rfl ?_
  refine q_nil_p rfl rfl rfl rfl ?_
  refine q_field (k := 5) rfl rfl rfl rfl Try.underlying113 rfl Try.sizeOf110 rfl ?_
  refine q_load_c (j := 5) rfl rfl rfl rfl Try.isAgg110 Tk (by first | rfl | exact (Nat.add_zero _).symm) (by rfl) ?_
  refine q_field (k := 1) rfl rfl rfl rfl Try.underlying40 rfl Try.sizeOf3 rfl ?_
  refine q_load_c (j := 1) rfl rfl rfl rfl Try.isAgg3 Tk (by first | rfl | exact (Nat.add_zero _).symm) (by rfl) ?_
  refine q_idxO (sz := 2) (k := t.toNat) (enc := enc3) (xs := x.T) rfl rfl rfl rfl rfl Try.underlying110 Try.sizeOf79 hst (by first | rfl | omega) (by omega) Tk ?_
  intro ib25 io25 ha25 hl25 hc25
  refine q_loadN_O (j := 0) (k' := t.toNat) (us := [_, _, _]) (enc := enc3) (off := io25) rfl rfl rfl rfl Try.isAgg79 Try.sizeOf79 ha25 enc3_len hst Tk (by first | rfl | exact (Nat.add_zero _).symm | omega) (by rfl) rfl ?_
  refine l_alloc rfl rfl rfl Try.zeroValue79 (zs := [.int .i64 0, .int .i64 0, .int .i64 0]) rfl ?_
  intro b5
  refine ag_load_c (q := 5) rfl rfl rfl Try.isAgg110 Tk (by first | rfl | exact (Nat.add_zero _).symm) (by rfl) ?_
  refine ag_load_c (q := 1) rfl rfl rfl Try.isAgg3 Tk (by first | rfl | exact (Nat.add_zero _).symm) (by rfl) ?_
  refine ag_loadN_O (j := 0) (k' := t.toNat) (us := [_, _, _]) (enc := enc3) (off := io25) rfl rfl rfl Try.isAgg79 Try.sizeOf79 ha25 enc3_len hst Tk (by first | rfl | exact (Nat.add_zero _).symm | omega) (by rfl) rfl ?_
  refine ag_nil ?_
  refine l_store (j := 0) rfl rfl rfl rfl Try.sizeOf79 (us := [_, _, _]) rfl rfl rfl Tk (by first | rfl | exact (Nat.add_zero _).symm) (by first | decide | (simp; done) | omega) ?_
  simp only [setL, List.set]
  refine ag_nil ?_
  refine r_done ?_
  refine s_keep [0, 3, 5] (e' := [(0, _), (3, _), (5, _)]) rfl ?_
  refine k_then_n ?_
  refine c_seq ?_
  refine c_seq ?_
  refine c_plain (.q 0 (.q 1 (.q 2 (.done)))) (by kernel_rfl) ?_
  refine q_field (k := 0) rfl rfl rfl rfl Try.underlying79 rfl Try.sizeOf77 rfl ?_
  refine q_load_c (j := 0) rfl rfl rfl rfl Try.isAgg77 Tk (by first | rfl | exact (Nat.add_zero _).symm) (by rfl) ?_
  refine q_int rfl rfl rfl rfl rfl (b_eql _ _ _ _) ?_
  refine r_done ?_
  refine k_then_n ?_
  refine c_cond_p rfl (fun h2 => ?_) (fun h2 => ?_)
  ·
   refine c_seq ?_
   refine c_plain (.q 0 (.q 1 (.q 2 (.q 3 (.q 4 (.q 5 (.q 6 (.q 7 (.q 8 (.q 9 (.q 10 (.q 11 (.q 12 (.q 13 ((.l 14 [] (.q 15 (.q 16 (.done))))))))))))))))))) (by kernel_rfl) ?_
   refine q_field (k := 0) rfl rfl rfl rfl Try.underlying40 rfl Try.sizeOf38 rfl ?_
   refine q_load_c (j := 0) rfl rfl rfl rfl Try.isAgg38 Tk (by first | rfl | exact (Nat.add_zero _).symm) (by rfl) ?_
   refine q_int rfl rfl rfl rfl rfl (b_eql _ _ _ _) ?_
   refine q_move rfl rfl rfl rfl ?_
   refine s_bool_p 33 rfl (fun h10 => ?_) (fun h10 => ?_)
   ·
    refine q_field (k := 2) rfl rfl rfl rfl Try.underlying40 rfl Try.sizeOf3 rfl ?_
    refine q_load_c (j := 2) rfl rfl rfl rfl Try.isAgg3 Tk (by first | rfl | exact (Nat.add_zero _).symm) (by rfl) ?_
    refine q_field (k := 1) rfl rfl rfl rfl Try.underlying79 rfl Try.sizeOf3 rfl ?_
    refine q_load_c (j := 1) rfl rfl rfl rfl Try.isAgg3 Tk (by first | rfl | exact (Nat.add_zero _).symm) (by rfl) ?_
    refine q_int rfl rfl rfl rfl rfl (b_eql _ _ _ _) ?_
    refine q_pick_t rfl rfl rfl rfl rfl ?_
    refine q_move rfl rfl rfl rfl ?_
    refine s_bool_p 40 rfl (fun hob => ?_) (fun hob => ?_)
    ·
     refine q_move rfl rfl rfl rfl ?_
     refine q_field (k := 1) rfl rfl rfl rfl Try.underlying40 rfl Try.sizeOf3 rfl ?_
     refine q_load_c (j := 1) rfl rfl rfl rfl Try.isAgg3 Tk (by first | rfl | exact (Nat.add_zero _).symm) (by rfl) ?_
     refine rk_fold (b := b) x (pa := pa) (pc := pc) (ta := ta) (tc := tc) (oa := oa) (oc := oc) (ba := ba) (bc := bc) Ts (by rfl) (by rfl) (by rfl) (by rfl) ?_
     have sp_2 := rfull_spec pa pc b x hx t
     refine l_call rfl rfl rfl rfl rfl rfl Try.call53 (sp_2) Ts ?_
     rintro ⟨⟩ -
     try simp only [List.cons_append, List.nil_append]
     refine ag_nil ?_
     refine s_take (A := rk pa pc b x) Tk ?_
     refine rk_open fun ta tc oa oc ba bc => ?_
     refine q_pick_t rfl rfl rfl rfl rfl ?_
     refine q_assign rfl rfl rfl rfl ?_
     refine r_done ?_
     refine s_keep [4] (e' := [(4, _)]) rfl ?_
     refine k_then_n ?_
     refine c_ret ?_
     refine k_then_ret ?_
     refine rk_fold (b := b) x (pa := pa) (pc := pc) (ta := ta) (tc := tc) (oa := oa) (oc := oc) (ba := ba) (bc := bc) Ts (by rfl) (by rfl) (by rfl) (by rfl) ?_
     refine ret1 rfl rfl (()) (by congr 1; first | (rw [decide_eq_decide, can_wait h2]; simp_all; done) | (symm; rw [decide_eq_false_iff_not, can_wait h2]; simp_all)) (by trivial) ?_
     exact Tf
    ·
     refine q_skip rfl rfl rfl rfl ?_
     refine q_skip rfl rfl rfl rfl ?_
     refine q_skip rfl rfl rfl rfl ?_
     refine l_skip rfl rfl rfl rfl ?_
     refine q_pick_f rfl rfl rfl rfl rfl ?_
     refine q_assign rfl rfl rfl rfl ?_
     refine r_done ?_
     refine s_keep [4] (e' := [(4, _)]) rfl ?_
     refine k_then_n ?_
     refine c_ret ?_
     refine k_then_ret ?_
     refine rk_fold (b := b) x (pa := pa) (pc := pc) (ta := ta) (tc := tc) (oa := oa) (oc := oc) (ba := ba) (bc := bc) Ts (by rfl) (by rfl) (by rfl) (by rfl) ?_
     refine ret1 rfl rfl (()) (by congr 1; first | (rw [decide_eq_decide, can_wait h2]; simp_all; done) | (symm; rw [decide_eq_false_iff_not, can_wait h2]; simp_all)) (by trivial) ?_
     exact Tf
   ·
    refine q_skip rfl rfl rfl rfl ?_
    refine q_skip rfl rfl rfl rfl ?_
    refine q_skip rfl rfl rfl rfl ?_
    refine q_skip rfl rfl rfl rfl ?_
    refine q_skip rfl rfl rfl rfl ?_
    refine q_pick_f rfl rfl rfl rfl rfl ?_
    refine q_move rfl rfl rfl rfl ?_
    refine q_skip rfl rfl rfl rfl ?_
    refine q_skip rfl rfl rfl rfl ?_
    refine q_skip rfl rfl rfl rfl ?_
    refine l_skip rfl rfl rfl rfl ?_
    refine q_pick_f rfl rfl rfl rfl rfl ?_
    refine q_assign rfl rfl rfl rfl ?_
    refine r_done ?_
    refine s_keep [4] (e' := [(4, _)]) rfl ?_
    refine k_then_n ?_
    refine c_ret ?_
    refine k_then_ret ?_
    refine rk_fold (b := b) x (pa := pa) (pc := pc) (ta := ta) (tc := tc) (oa := oa) (oc := oc) (ba := ba) (bc := bc) Ts (by rfl) (by rfl) (by rfl) (by rfl) ?_
    refine ret1 rfl rfl (()) (by congr 1; first | (rw [decide_eq_decide, can_wait h2]; simp_all; done) | (symm; rw [decide_eq_false_iff_not, can_wait h2]; simp_all)) (by trivial) ?_
    exact Tf
  ·
   refine c_skip ?_
   refine k_then_n ?_
   refine c_seq ?_
   refine c_seq ?_
   refine c_plain (.q 0 (.q 1 (.q 2 (.done)))) (by kernel_rfl) ?_
   refine q_field (k := 0) rfl rfl rfl rfl Try.underlying79 rfl Try.sizeOf77 rfl ?_
   refine q_load_c (j := 0) rfl rfl rfl rfl Try.isAgg77 Tk (by first | rfl | exact (Nat.add_zero _).symm) (by rfl) ?_
   refine q_int rfl rfl rfl rfl rfl (b_neq _ _ _ _) ?_
   refine r_done ?_
   refine s_keep [0, 3, 48] (e' := [(0, _), (3, _), (48, _)]) rfl ?_
   refine k_then_n ?_
   refine c_cond_p rfl (fun h1 => ?_) (fun h1 => ?_)
   ·
    refine c_seq ?_
    refine c_plain (.q 0 (.done)) (by kernel_rfl) ?_
    refine q_assign rfl rfl rfl rfl ?_
    refine r_done ?_
    refine k_then_n ?_
    refine c_ret ?_
    refine k_then_ret ?_
    refine rk_fold (b := b) x (pa := pa) (pc := pc) (ta := ta) (tc := tc) (oa := oa) (oc := oc) (ba := ba) (bc := bc) Ts (by rfl) (by rfl) (by rfl) (by rfl) ?_
    refine ret1 rfl rfl (()) (by congr 1; symm; rw [decide_eq_false_iff_not]; exact can_not h2 (.inl h1)) (by trivial) ?_
    exact Tf
   ·
    have h1 : (stF x t).1 = 1 := by omega
    refine c_skip ?_
    refine k_then_n ?_
    refine c_seq ?_
    refine c_seq ?_
    refine c_plain (.q 0 (.q 1 (.done))) (by kernel_rfl) ?_
    refine q_field (k := 0) rfl rfl rfl rfl Try.underlying40 rfl Try.sizeOf38 rfl ?_
    refine q_load_c (j := 0) rfl rfl rfl rfl Try.isAgg38 Tk (by first | rfl | exact (Nat.add_zero _).symm) (by rfl) ?_
    refine r_done ?_
    refine k_then_n ?_
    refine c_block ?_
    refine c_seq ?_
    refine c_seq ?_
    refine c_plain (.q 0 (.q 1 (.done))) (by kernel_rfl) ?_
    refine q_int rfl rfl rfl rfl rfl (b_eql _ _ _ _) ?_
    refine q_assign rfl rfl rfl rfl ?_
    refine r_done ?_
    refine k_then_n ?_
    refine c_cond_p rfl (fun k1 => ?_) (fun k1 => ?_)
    ·
     refine s_eq 51 rfl (v' := .bool true) (by rw [decide_eq_true k1]) ?_
     refine c_skip ?_
     refine k_then_n ?_
     refine c_cond_t rfl ?_
     refine c_seq ?_
     refine c_draw rfl (.q 0 (.q 1 (.q 2 (.q 3 (.q 4 (.q 5 (.q 6 ((.l 7 [] (.q 8 (.done))))))))))) (by kernel_rfl) ?_
     refine q_field (k := 2) rfl rfl rfl rfl Try.underlying40 rfl Try.sizeOf3 rfl ?_
     refine q_load_c (j := 2) rfl rfl rfl rfl Try.isAgg3 Tk (by first | rfl | exact (Nat.add_zero _).symm) (by rfl) ?_
     refine q_move rfl rfl rfl rfl ?_
     refine q_nil_p rfl rfl rfl rfl ?_
     refine q_field (k := 0) rfl rfl rfl rfl Try.underlying113 rfl Try.sizeOf24 rfl ?_
     refine q_field (k := 1) rfl rfl rfl rfl Try.underlying24 rfl Try.sizeOf3 rfl ?_
     refine q_load_c (j := 1) rfl rfl rfl rfl Try.isAgg3 Tk (by first | rfl | exact (Nat.add_zero _).symm) (by rfl) ?_
     have sp_3 := below_spec o x.va
     refine l_call rfl rfl rfl rfl rfl rfl Try.call52 (sp_3) Ts ?_
     rintro ⟨⟩ -
     try simp only [List.cons_append, List.nil_append]
     refine ag_nil ?_
     refine q_assign rfl rfl rfl rfl ?_
     refine r_done ?_
     refine s_keep [4] (e' := [(4, _)]) rfl ?_
     refine k_then_n ?_
     refine c_ret ?_
     refine k_blk_ret ?_
     refine k_then_ret ?_
     refine rk_fold (b := b) x (pa := pa) (pc := pc) (ta := ta) (tc := tc) (oa := oa) (oc := oc) (ba := ba) (bc := bc) Ts (by rfl) (by rfl) (by rfl) (by rfl) ?_
     refine ret1 rfl rfl (()) (by congr 1; rw [decide_eq_decide, can_run' h1, okK_k.1 (.inl k1)]; try rfl) (by trivial) ?_
     exact Tf
    ·
     refine s_eq 51 rfl (v' := .bool false) (by rw [decide_eq_false k1]) ?_
     refine c_plain (.q 0 (.q 1 (.done))) (by kernel_rfl) ?_
     refine q_int rfl rfl rfl rfl rfl (b_eql _ _ _ _) ?_
     refine q_assign rfl rfl rfl rfl ?_
     refine r_done ?_
     refine s_keep [0, 3, 50, 51] (e' := [(0, _), (3, _), (50, _), (51, _)]) rfl ?_
     refine k_then_n ?_
     refine c_cond_p rfl (fun k2 => ?_) (fun k2 => ?_)
     ·
      refine c_seq ?_
      refine c_draw rfl (.q 0 (.q 1 (.q 2 (.q 3 (.q 4 (.q 5 (.q 6 ((.l 7 [] (.q 8 (.done))))))))))) (by kernel_rfl) ?_
      refine q_field (k := 2) rfl rfl rfl rfl Try.underlying40 rfl Try.sizeOf3 rfl ?_
      refine q_load_c (j := 2) rfl rfl rfl rfl Try.isAgg3 Tk (by first | rfl | exact (Nat.add_zero _).symm) (by rfl) ?_
      refine q_move rfl rfl rfl rfl ?_
      refine q_nil_p rfl rfl rfl rfl ?_
      refine q_field (k := 0) rfl rfl rfl rfl Try.underlying113 rfl Try.sizeOf24 rfl ?_
      refine q_field (k := 1) rfl rfl rfl rfl Try.underlying24 rfl Try.sizeOf3 rfl ?_
      refine q_load_c (j := 1) rfl rfl rfl rfl Try.isAgg3 Tk (by first | rfl | exact (Nat.add_zero _).symm) (by rfl) ?_
      have sp_4 := below_spec o x.va
      refine l_call rfl rfl rfl rfl rfl rfl Try.call52 (sp_4) Ts ?_
      rintro ⟨⟩ -
      try simp only [List.cons_append, List.nil_append]
      refine ag_nil ?_
      refine q_assign rfl rfl rfl rfl ?_
      refine r_done ?_
      refine s_keep [4] (e' := [(4, _)]) rfl ?_
      refine k_then_n ?_
      refine c_ret ?_
      refine k_blk_ret ?_
      refine k_then_ret ?_
      refine rk_fold (b := b) x (pa := pa) (pc := pc) (ta := ta) (tc := tc) (oa := oa) (oc := oc) (ba := ba) (bc := bc) Ts (by rfl) (by rfl) (by rfl) (by rfl) ?_
      refine ret1 rfl rfl (()) (by congr 1; rw [decide_eq_decide, can_run' h1, okK_k.1 (.inr k2)]; try rfl) (by trivial) ?_
      exact Tf
     ·
      refine c_seq ?_
      refine c_seq ?_
      refine c_plain (.q 0 (.q 1 (.done))) (by kernel_rfl) ?_
      refine q_int rfl rfl rfl rfl rfl (b_eql _ _ _ _) ?_
      refine q_assign rfl rfl rfl rfl ?_
      refine r_done ?_
      refine k_then_n ?_
      refine c_cond_p rfl (fun k3 => ?_) (fun k3 => ?_)
      ·
       refine s_eq 62 rfl (v' := .bool true) (by rw [decide_eq_true k3]) ?_
       refine c_skip ?_
       refine k_then_n ?_
       refine c_cond_t rfl ?_
       refine c_seq ?_
       refine c_draw rfl (.q 0 (.q 1 (.q 2 (.q 3 (.q 4 (.q 5 (.q 6 ((.l 7 [] (.q 8 (.done))))))))))) (by kernel_rfl) ?_
       refine q_field (k := 2) rfl rfl rfl rfl Try.underlying40 rfl Try.sizeOf3 rfl ?_
       refine q_load_c (j := 2) rfl rfl rfl rfl Try.isAgg3 Tk (by first | rfl | exact (Nat.add_zero _).symm) (by rfl) ?_
       refine q_move rfl rfl rfl rfl ?_
       refine q_nil_p rfl rfl rfl rfl ?_
       refine q_field (k := 0) rfl rfl rfl rfl Try.underlying113 rfl Try.sizeOf24 rfl ?_
       refine q_field (k := 2) rfl rfl rfl rfl Try.underlying24 rfl Try.sizeOf3 rfl ?_
       refine q_load_c (j := 2) rfl rfl rfl rfl Try.isAgg3 Tk (by first | rfl | exact (Nat.add_zero _).symm) (by rfl) ?_
       have sp_5 := below_spec o x.vo
       refine l_call rfl rfl rfl rfl rfl rfl Try.call52 (sp_5) Ts ?_
       rintro ⟨⟩ -
       try simp only [List.cons_append, List.nil_append]
       refine ag_nil ?_
       refine q_assign rfl rfl rfl rfl ?_
       refine r_done ?_
       refine s_keep [4] (e' := [(4, _)]) rfl ?_
       refine k_then_n ?_
       refine c_ret ?_
       refine k_blk_ret ?_
       refine k_then_ret ?_
       refine rk_fold (b := b) x (pa := pa) (pc := pc) (ta := ta) (tc := tc) (oa := oa) (oc := oc) (ba := ba) (bc := bc) Ts (by rfl) (by rfl) (by rfl) (by rfl) ?_
       refine ret1 rfl rfl (()) (by congr 1; rw [decide_eq_decide, can_run' h1, okK_k.2.1 (.inl k3)]; try rfl) (by trivial) ?_
       exact Tf
      ·
       refine s_eq 62 rfl (v' := .bool false) (by rw [decide_eq_false k3]) ?_
       refine c_plain (.q 0 (.q 1 (.done))) (by kernel_rfl) ?_
       refine q_int rfl rfl rfl rfl rfl (b_eql _ _ _ _) ?_
       refine q_assign rfl rfl rfl rfl ?_
       refine r_done ?_
       refine k_then_n ?_
       refine c_cond_p rfl (fun k4 => ?_) (fun k4 => ?_)
       ·
        refine c_seq ?_
        refine c_draw rfl (.q 0 (.q 1 (.q 2 (.q 3 (.q 4 (.q 5 (.q 6 ((.l 7 [] (.q 8 (.done))))))))))) (by kernel_rfl) ?_
        refine q_field (k := 2) rfl rfl rfl rfl Try.underlying40 rfl Try.sizeOf3 rfl ?_
        refine q_load_c (j := 2) rfl rfl rfl rfl Try.isAgg3 Tk (by first | rfl | exact (Nat.add_zero _).symm) (by rfl) ?_
        refine q_move rfl rfl rfl rfl ?_
        refine q_nil_p rfl rfl rfl rfl ?_
        refine q_field (k := 0) rfl rfl rfl rfl Try.underlying113 rfl Try.sizeOf24 rfl ?_
        refine q_field (k := 2) rfl rfl rfl rfl Try.underlying24 rfl Try.sizeOf3 rfl ?_
        refine q_load_c (j := 2) rfl rfl rfl rfl Try.isAgg3 Tk (by first | rfl | exact (Nat.add_zero _).symm) (by rfl) ?_
        have sp_6 := below_spec o x.vo
        refine l_call rfl rfl rfl rfl rfl rfl Try.call52 (sp_6) Ts ?_
        rintro ⟨⟩ -
        try simp only [List.cons_append, List.nil_append]
        refine ag_nil ?_
        refine q_assign rfl rfl rfl rfl ?_
        refine r_done ?_
        refine s_keep [4] (e' := [(4, _)]) rfl ?_
        refine k_then_n ?_
        refine c_ret ?_
        refine k_blk_ret ?_
        refine k_then_ret ?_
        refine rk_fold (b := b) x (pa := pa) (pc := pc) (ta := ta) (tc := tc) (oa := oa) (oc := oc) (ba := ba) (bc := bc) Ts (by rfl) (by rfl) (by rfl) (by rfl) ?_
        refine ret1 rfl rfl (()) (by congr 1; rw [decide_eq_decide, can_run' h1, okK_k.2.1 (.inr k4)]; try rfl) (by trivial) ?_
        exact Tf
       ·
        refine c_seq ?_
        refine c_plain (.q 0 (.q 1 (.done))) (by kernel_rfl) ?_
        refine q_int rfl rfl rfl rfl rfl (b_eql _ _ _ _) ?_
        refine q_assign rfl rfl rfl rfl ?_
        refine r_done ?_
        refine s_keep [0, 3, 50, 73] (e' := [(0, _), (3, _), (50, _), (73, _)]) rfl ?_
        refine k_then_n ?_
        refine c_cond_p rfl (fun k5 => ?_) (fun k5 => ?_)
        ·
         refine c_seq ?_
         refine c_draw rfl (.q 0 (.q 1 (.q 2 (.q 3 (.q 4 (.q 5 (.q 6 ((.l 7 [] (.q 8 (.q 9 (.q 10 (.q 11 (.q 12 (.q 13 (.q 14 (.q 15 (.q 16 (.q 17 (.q 18 (.q 19 (.done)))))))))))))))))))))) (by kernel_rfl) ?_
         refine q_field (k := 2) rfl rfl rfl rfl Try.underlying40 rfl Try.sizeOf3 rfl ?_
         refine q_load_c (j := 2) rfl rfl rfl rfl Try.isAgg3 Tk (by first | rfl | exact (Nat.add_zero _).symm) (by rfl) ?_
         refine q_move rfl rfl rfl rfl ?_
         refine q_nil_p rfl rfl rfl rfl ?_
         refine q_field (k := 6) rfl rfl rfl rfl Try.underlying113 rfl Try.sizeOf22 rfl ?_
         refine q_load_c (j := 6) rfl rfl rfl rfl Try.isAgg22 Tk (by first | rfl | exact (Nat.add_zero _).symm) (by rfl) ?_
         refine q_len rfl rfl rfl rfl Try.underlying22 ?_
         have sp_7 := below_spec o ((x.O.length : Nat) : Int)
         refine l_call rfl rfl rfl rfl rfl rfl Try.call52 (sp_7) Ts ?_
         rintro ⟨⟩ -
         try simp only [List.cons_append, List.nil_append]
         refine ag_nil ?_
         refine q_move rfl rfl rfl rfl ?_
         refine s_bool_p 83 rfl (fun hin2 => ?_) (fun hin2 => ?_)
         ·
          have hel := owV_at (x := x) (l := o) hin2.1 hin2.2
          refine q_move rfl rfl rfl rfl ?_
          refine q_nil_p rfl rfl rfl rfl ?_
          refine q_field (k := 6) rfl rfl rfl rfl Try.underlying113 rfl Try.sizeOf22 rfl ?_
          refine q_load_c (j := 6) rfl rfl rfl rfl Try.isAgg22 Tk (by first | rfl | exact (Nat.add_zero _).symm) (by rfl) ?_
          refine q_field (k := 2) rfl rfl rfl rfl Try.underlying40 rfl Try.sizeOf3 rfl ?_
          refine q_load_c (j := 2) rfl rfl rfl rfl Try.isAgg3 Tk (by first | rfl | exact (Nat.add_zero _).symm) (by rfl) ?_
          refine q_idxO (sz := 0) (k := o.toNat) (enc := encZ) (xs := x.O) rfl rfl rfl rfl rfl Try.underlying22 Try.sizeOf3 hel (by first | rfl | omega) (by omega) Tk ?_
          intro ib90 io90 ha90 hl90 hc90
          refine q_load_O (v := (.int .i64 (owV x o))) (j := 0) (k' := o.toNat) (enc := encZ) (off := io90) rfl rfl rfl rfl Try.isAgg3 ha90 encZ_len hel Tk (by first | rfl | exact (Nat.add_zero _).symm | omega) (by rfl) ?_
          refine q_int rfl rfl rfl rfl rfl (b_eql _ _ _ _) ?_
          refine q_pick_t rfl rfl rfl rfl rfl ?_
          refine q_assign rfl rfl rfl rfl ?_
          refine r_done ?_
          refine s_keep [4] (e' := [(4, _)]) rfl ?_
          refine k_then_n ?_
          refine c_ret ?_
          refine k_blk_ret ?_
          refine k_then_ret ?_
          refine rk_fold (b := b) x (pa := pa) (pc := pc) (ta := ta) (tc := tc) (oa := oa) (oc := oc) (ba := ba) (bc := bc) Ts (by rfl) (by rfl) (by rfl) (by rfl) ?_
          refine ret1 rfl rfl (()) (by congr 1; rw [decide_eq_decide, can_run' h1, okK_k.2.2.1 (k5)]; rw [owF_n]; exact ⟨fun h => ⟨hin2.1, by omega, h⟩, fun h => h.2.2⟩) (by trivial) ?_
          exact Tf
         ·
          refine q_skip rfl rfl rfl rfl ?_
          refine q_skip rfl rfl rfl rfl ?_
          refine q_skip rfl rfl rfl rfl ?_
          refine q_skip rfl rfl rfl rfl ?_
          refine q_skip rfl rfl rfl rfl ?_
          refine q_skip rfl rfl rfl rfl ?_
          refine q_skip rfl rfl rfl rfl ?_
          refine q_skip rfl rfl rfl rfl ?_
          refine q_skip rfl rfl rfl rfl ?_
          refine q_pick_f rfl rfl rfl rfl rfl ?_
          refine q_assign rfl rfl rfl rfl ?_
          refine r_done ?_
          refine s_keep [4] (e' := [(4, _)]) rfl ?_
          refine k_then_n ?_
          refine c_ret ?_
          refine k_blk_ret ?_
          refine k_then_ret ?_
          refine rk_fold (b := b) x (pa := pa) (pc := pc) (ta := ta) (tc := tc) (oa := oa) (oc := oc) (ba := ba) (bc := bc) Ts (by rfl) (by rfl) (by rfl) (by rfl) ?_
          refine ret1 rfl rfl (()) (by congr 1; symm; rw [decide_eq_false_iff_not, can_run' h1, okK_k.2.2.1 (k5)]; rintro ⟨q1, q2, -⟩; omega) (by trivial) ?_
          exact Tf
        ·
         refine c_seq ?_
         refine c_plain (.q 0 (.q 1 (.done))) (by kernel_rfl) ?_
         refine q_int rfl rfl rfl rfl rfl (b_eql _ _ _ _) ?_
         refine q_assign rfl rfl rfl rfl ?_
         refine r_done ?_
         refine k_then_n ?_
         refine c_cond_p rfl (fun k6 => ?_) (fun k6 => ?_)
         ·
          refine c_seq ?_
          refine c_draw rfl (.q 0 (.q 1 (.q 2 (.q 3 (.q 4 (.q 5 (.q 6 ((.l 7 [] (.q 8 (.q 9 (.q 10 (.q 11 (.q 12 (.q 13 (.q 14 (.q 15 (.q 16 (.q 17 (.q 18 (.q 19 (.q 20 (.q 21 (.done)))))))))))))))))))))))) (by kernel_rfl) ?_
          refine q_field (k := 2) rfl rfl rfl rfl Try.underlying40 rfl Try.sizeOf3 rfl ?_
          refine q_load_c (j := 2) rfl rfl rfl rfl Try.isAgg3 Tk (by first | rfl | exact (Nat.add_zero _).symm) (by rfl) ?_
          refine q_move rfl rfl rfl rfl ?_
          refine q_nil_p rfl rfl rfl rfl ?_
          refine q_field (k := 6) rfl rfl rfl rfl Try.underlying113 rfl Try.sizeOf22 rfl ?_
          refine q_load_c (j := 6) rfl rfl rfl rfl Try.isAgg22 Tk (by first | rfl | exact (Nat.add_zero _).symm) (by rfl) ?_
          refine q_len rfl rfl rfl rfl Try.underlying22 ?_
          have sp_8 := below_spec o ((x.O.length : Nat) : Int)
          refine l_call rfl rfl rfl rfl rfl rfl Try.call52 (sp_8) Ts ?_
          rintro ⟨⟩ -
          try simp only [List.cons_append, List.nil_append]
          refine ag_nil ?_
          refine q_move rfl rfl rfl rfl ?_
          refine s_bool_p 104 rfl (fun hin2 => ?_) (fun hin2 => ?_)
          ·
           have hel := owV_at (x := x) (l := o) hin2.1 hin2.2
           refine q_move rfl rfl rfl rfl ?_
           refine q_nil_p rfl rfl rfl rfl ?_
           refine q_field (k := 6) rfl rfl rfl rfl Try.underlying113 rfl Try.sizeOf22 rfl ?_
           refine q_load_c (j := 6) rfl rfl rfl rfl Try.isAgg22 Tk (by first | rfl | exact (Nat.add_zero _).symm) (by rfl) ?_
           refine q_field (k := 2) rfl rfl rfl rfl Try.underlying40 rfl Try.sizeOf3 rfl ?_
           refine q_load_c (j := 2) rfl rfl rfl rfl Try.isAgg3 Tk (by first | rfl | exact (Nat.add_zero _).symm) (by rfl) ?_
           refine q_idxO (sz := 0) (k := o.toNat) (enc := encZ) (xs := x.O) rfl rfl rfl rfl rfl Try.underlying22 Try.sizeOf3 hel (by first | rfl | omega) (by omega) Tk ?_
           intro ib111 io111 ha111 hl111 hc111
           refine q_load_O (v := (.int .i64 (owV x o))) (j := 0) (k' := o.toNat) (enc := encZ) (off := io111) rfl rfl rfl rfl Try.isAgg3 ha111 encZ_len hel Tk (by first | rfl | exact (Nat.add_zero _).symm | omega) (by rfl) ?_
           refine q_field (k := 1) rfl rfl rfl rfl Try.underlying40 rfl Try.sizeOf3 rfl ?_
           refine q_load_c (j := 1) rfl rfl rfl rfl Try.isAgg3 Tk (by first | rfl | exact (Nat.add_zero _).symm) (by rfl) ?_
           refine q_int rfl rfl rfl rfl rfl (b_eql _ _ _ _) ?_
           refine q_pick_t rfl rfl rfl rfl rfl ?_
           refine q_assign rfl rfl rfl rfl ?_
           refine r_done ?_
           refine s_keep [4] (e' := [(4, _)]) rfl ?_
           refine k_then_n ?_
           refine c_ret ?_
           refine k_blk_ret ?_
           refine k_then_ret ?_
           refine rk_fold (b := b) x (pa := pa) (pc := pc) (ta := ta) (tc := tc) (oa := oa) (oc := oc) (ba := ba) (bc := bc) Ts (by rfl) (by rfl) (by rfl) (by rfl) ?_
           refine ret1 rfl rfl (()) (by congr 1; rw [decide_eq_decide, can_run' h1, okK_k.2.2.2.1 (k6)]; rw [owF_s (by omega)]; exact ⟨fun h => ⟨hin2.1, by omega, h⟩, fun h => h.2.2⟩) (by trivial) ?_
           exact Tf
          ·
           refine q_skip rfl rfl rfl rfl ?_
           refine q_skip rfl rfl rfl rfl ?_
           refine q_skip rfl rfl rfl rfl ?_
           refine q_skip rfl rfl rfl rfl ?_
           refine q_skip rfl rfl rfl rfl ?_
           refine q_skip rfl rfl rfl rfl ?_
           refine q_skip rfl rfl rfl rfl ?_
           refine q_skip rfl rfl rfl rfl ?_
           refine q_skip rfl rfl rfl rfl ?_
           refine q_skip rfl rfl rfl rfl ?_
           refine q_skip rfl rfl rfl rfl ?_
           refine q_pick_f rfl rfl rfl rfl rfl ?_
           refine q_assign rfl rfl rfl rfl ?_
           refine r_done ?_
           refine s_keep [4] (e' := [(4, _)]) rfl ?_
           refine k_then_n ?_
           refine c_ret ?_
           refine k_blk_ret ?_
           refine k_then_ret ?_
           refine rk_fold (b := b) x (pa := pa) (pc := pc) (ta := ta) (tc := tc) (oa := oa) (oc := oc) (ba := ba) (bc := bc) Ts (by rfl) (by rfl) (by rfl) (by rfl) ?_
           refine ret1 rfl rfl (()) (by congr 1; symm; rw [decide_eq_false_iff_not, can_run' h1, okK_k.2.2.2.1 (k6)]; rintro ⟨q1, q2, -⟩; omega) (by trivial) ?_
           exact Tf
         ·
          refine c_seq ?_
          refine c_plain (.q 0 (.q 1 (.done))) (by kernel_rfl) ?_
          refine q_int rfl rfl rfl rfl rfl (b_eql _ _ _ _) ?_
          refine q_assign rfl rfl rfl rfl ?_
          refine r_done ?_
          refine s_keep [0, 3, 50, 117] (e' := [(0, _), (3, _), (50, _), (117, _)]) rfl ?_
          refine k_then_n ?_
          refine c_cond_p rfl (fun k7 => ?_) (fun k7 => ?_)
          ·
           refine c_seq ?_
           refine c_draw rfl (.q 0 (.q 1 (.q 2 (.q 3 (.q 4 (.q 5 (.q 6 ((.l 7 [] (.q 8 (.q 9 (.q 10 (.q 11 (.q 12 (.q 13 (.q 14 (.q 15 (.q 16 (.q 17 (.q 18 (.q 19 (.q 20 (.done))))))))))))))))))))))) (by kernel_rfl) ?_
           refine q_field (k := 2) rfl rfl rfl rfl Try.underlying40 rfl Try.sizeOf3 rfl ?_
           refine q_load_c (j := 2) rfl rfl rfl rfl Try.isAgg3 Tk (by first | rfl | exact (Nat.add_zero _).symm) (by rfl) ?_
           refine q_move rfl rfl rfl rfl ?_
           refine q_nil_p rfl rfl rfl rfl ?_
           refine q_field (k := 5) rfl rfl rfl rfl Try.underlying113 rfl Try.sizeOf110 rfl ?_
           refine q_load_c (j := 5) rfl rfl rfl rfl Try.isAgg110 Tk (by first | rfl | exact (Nat.add_zero _).symm) (by rfl) ?_
           refine q_len rfl rfl rfl rfl Try.underlying110 ?_
           have sp_9 := below_spec o ((x.T.length : Nat) : Int)
           refine l_call rfl rfl rfl rfl rfl rfl Try.call52 (sp_9) Ts ?_
           rintro ⟨⟩ -
           try simp only [List.cons_append, List.nil_append]
           refine ag_nil ?_
           refine q_move rfl rfl rfl rfl ?_
           refine s_bool_p 127 rfl (fun hin2 => ?_) (fun hin2 => ?_)
           ·
            have hel := stF_at (x := x) (t := o) hin2.1 hin2.2
            refine q_move rfl rfl rfl rfl ?_
            refine q_nil_p rfl rfl rfl rfl ?_
            refine q_field (k := 5) rfl rfl rfl rfl Try.underlying113 rfl Try.sizeOf110 rfl ?_
            refine q_load_c (j := 5) rfl rfl rfl rfl Try.isAgg110 Tk (by first | rfl | exact (Nat.add_zero _).symm) (by rfl) ?_
            refine q_field (k := 2) rfl rfl rfl rfl Try.underlying40 rfl Try.sizeOf3 rfl ?_
            refine q_load_c (j := 2) rfl rfl rfl rfl Try.isAgg3 Tk (by first | rfl | exact (Nat.add_zero _).symm) (by rfl) ?_
            refine q_idxO (sz := 2) (k := o.toNat) (enc := enc3) (xs := x.T) rfl rfl rfl rfl rfl Try.underlying110 Try.sizeOf79 hel (by first | rfl | omega) (by omega) Tk ?_
            intro ib134 io134 ha134 hl134 hc134
            refine q_field (k := 0) rfl rfl rfl rfl Try.underlying79 rfl Try.sizeOf77 rfl ?_
            refine q_load_O (v := (.int .i64 ((stF x o).1))) (j := 0) (k' := o.toNat) (enc := enc3) (off := io134) rfl rfl rfl rfl Try.isAgg77 ha134 enc3_len hel Tk (by first | rfl | exact (Nat.add_zero _).symm | omega) (by rfl) ?_
            refine q_int rfl rfl rfl rfl rfl (b_eql _ _ _ _) ?_
            refine q_pick_t rfl rfl rfl rfl rfl ?_
            refine q_assign rfl rfl rfl rfl ?_
            refine r_done ?_
            refine s_keep [4] (e' := [(4, _)]) rfl ?_
            refine k_then_n ?_
            refine c_ret ?_
            refine k_blk_ret ?_
            refine k_then_ret ?_
            refine rk_fold (b := b) x (pa := pa) (pc := pc) (ta := ta) (tc := tc) (oa := oa) (oc := oc) (ba := ba) (bc := bc) Ts (by rfl) (by rfl) (by rfl) (by rfl) ?_
            refine ret1 rfl rfl (()) (by congr 1; rw [decide_eq_decide, can_run' h1, okK_k.2.2.2.2.1 (k7)]; omega) (by trivial) ?_
            exact Tf
           ·
            refine q_skip rfl rfl rfl rfl ?_
            refine q_skip rfl rfl rfl rfl ?_
            refine q_skip rfl rfl rfl rfl ?_
            refine q_skip rfl rfl rfl rfl ?_
            refine q_skip rfl rfl rfl rfl ?_
            refine q_skip rfl rfl rfl rfl ?_
            refine q_skip rfl rfl rfl rfl ?_
            refine q_skip rfl rfl rfl rfl ?_
            refine q_skip rfl rfl rfl rfl ?_
            refine q_skip rfl rfl rfl rfl ?_
            refine q_pick_f rfl rfl rfl rfl rfl ?_
            refine q_assign rfl rfl rfl rfl ?_
            refine r_done ?_
            refine s_keep [4] (e' := [(4, _)]) rfl ?_
            refine k_then_n ?_
            refine c_ret ?_
            refine k_blk_ret ?_
            refine k_then_ret ?_
            refine rk_fold (b := b) x (pa := pa) (pc := pc) (ta := ta) (tc := tc) (oa := oa) (oc := oc) (ba := ba) (bc := bc) Ts (by rfl) (by rfl) (by rfl) (by rfl) ?_
            refine ret1 rfl rfl (()) (by congr 1; symm; rw [decide_eq_false_iff_not, can_run' h1, okK_k.2.2.2.2.1 (k7)]; rintro ⟨q1, q2, -⟩; omega) (by trivial) ?_
            exact Tf
          ·
           refine c_seq ?_
           refine c_plain (.q 0 (.q 1 (.done))) (by kernel_rfl) ?_
           refine q_int rfl rfl rfl rfl rfl (b_eql _ _ _ _) ?_
           refine q_assign rfl rfl rfl rfl ?_
           refine r_done ?_
           refine k_then_n ?_
           refine c_cond_p rfl (fun k8 => ?_) (fun k8 => ?_)
           ·
            refine c_seq ?_
            refine c_draw rfl (.q 0 (.q 1 (.q 2 (.q 3 (.q 4 (.q 5 (.q 6 ((.l 7 [] (.q 8 (.q 9 (.q 10 (.q 11 (.q 12 (.q 13 (.q 14 (.q 15 (.q 16 (.q 17 (.q 18 (.q 19 (.q 20 (.done))))))))))))))))))))))) (by kernel_rfl) ?_
            refine q_field (k := 2) rfl rfl rfl rfl Try.underlying40 rfl Try.sizeOf3 rfl ?_
            refine q_load_c (j := 2) rfl rfl rfl rfl Try.isAgg3 Tk (by first | rfl | exact (Nat.add_zero _).symm) (by rfl) ?_
            refine q_move rfl rfl rfl rfl ?_
            refine q_nil_p rfl rfl rfl rfl ?_
            refine q_field (k := 5) rfl rfl rfl rfl Try.underlying113 rfl Try.sizeOf110 rfl ?_
            refine q_load_c (j := 5) rfl rfl rfl rfl Try.isAgg110 Tk (by first | rfl | exact (Nat.add_zero _).symm) (by rfl) ?_
            refine q_len rfl rfl rfl rfl Try.underlying110 ?_
            have sp_10 := below_spec o ((x.T.length : Nat) : Int)
            refine l_call rfl rfl rfl rfl rfl rfl Try.call52 (sp_10) Ts ?_
            rintro ⟨⟩ -
            try simp only [List.cons_append, List.nil_append]
            refine ag_nil ?_
            refine q_move rfl rfl rfl rfl ?_
            refine s_bool_p 149 rfl (fun hin2 => ?_) (fun hin2 => ?_)
            ·
             have hel := stF_at (x := x) (t := o) hin2.1 hin2.2
             refine q_move rfl rfl rfl rfl ?_
             refine q_nil_p rfl rfl rfl rfl ?_
             refine q_field (k := 5) rfl rfl rfl rfl Try.underlying113 rfl Try.sizeOf110 rfl ?_
             refine q_load_c (j := 5) rfl rfl rfl rfl Try.isAgg110 Tk (by first | rfl | exact (Nat.add_zero _).symm) (by rfl) ?_
             refine q_field (k := 2) rfl rfl rfl rfl Try.underlying40 rfl Try.sizeOf3 rfl ?_
             refine q_load_c (j := 2) rfl rfl rfl rfl Try.isAgg3 Tk (by first | rfl | exact (Nat.add_zero _).symm) (by rfl) ?_
             refine q_idxO (sz := 2) (k := o.toNat) (enc := enc3) (xs := x.T) rfl rfl rfl rfl rfl Try.underlying110 Try.sizeOf79 hel (by first | rfl | omega) (by omega) Tk ?_
             intro ib156 io156 ha156 hl156 hc156
             refine q_field (k := 0) rfl rfl rfl rfl Try.underlying79 rfl Try.sizeOf77 rfl ?_
             refine q_load_O (v := (.int .i64 ((stF x o).1))) (j := 0) (k' := o.toNat) (enc := enc3) (off := io156) rfl rfl rfl rfl Try.isAgg77 ha156 enc3_len hel Tk (by first | rfl | exact (Nat.add_zero _).symm | omega) (by rfl) ?_
             refine q_int rfl rfl rfl rfl rfl (b_eql _ _ _ _) ?_
             refine q_pick_t rfl rfl rfl rfl rfl ?_
             refine q_assign rfl rfl rfl rfl ?_
             refine r_done ?_
             refine s_keep [4] (e' := [(4, _)]) rfl ?_
             refine k_then_n ?_
             refine c_ret ?_
             refine k_blk_ret ?_
             refine k_then_ret ?_
             refine rk_fold (b := b) x (pa := pa) (pc := pc) (ta := ta) (tc := tc) (oa := oa) (oc := oc) (ba := ba) (bc := bc) Ts (by rfl) (by rfl) (by rfl) (by rfl) ?_
             refine ret1 rfl rfl (()) (by congr 1; rw [decide_eq_decide, can_run' h1, okK_k.2.2.2.2.2.1 (k8)]; omega) (by trivial) ?_
             exact Tf
            ·
             refine q_skip rfl rfl rfl rfl ?_
             refine q_skip rfl rfl rfl rfl ?_
             refine q_skip rfl rfl rfl rfl ?_
             refine q_skip rfl rfl rfl rfl ?_
             refine q_skip rfl rfl rfl rfl ?_
             refine q_skip rfl rfl rfl rfl ?_
             refine q_skip rfl rfl rfl rfl ?_
             refine q_skip rfl rfl rfl rfl ?_
             refine q_skip rfl rfl rfl rfl ?_
             refine q_skip rfl rfl rfl rfl ?_
             refine q_pick_f rfl rfl rfl rfl rfl ?_
             refine q_assign rfl rfl rfl rfl ?_
             refine r_done ?_
             refine s_keep [4] (e' := [(4, _)]) rfl ?_
             refine k_then_n ?_
             refine c_ret ?_
             refine k_blk_ret ?_
             refine k_then_ret ?_
             refine rk_fold (b := b) x (pa := pa) (pc := pc) (ta := ta) (tc := tc) (oa := oa) (oc := oc) (ba := ba) (bc := bc) Ts (by rfl) (by rfl) (by rfl) (by rfl) ?_
             refine ret1 rfl rfl (()) (by congr 1; symm; rw [decide_eq_false_iff_not, can_run' h1, okK_k.2.2.2.2.2.1 (k8)]; rintro ⟨q1, q2, -⟩; omega) (by trivial) ?_
             exact Tf
           ·
            refine c_seq ?_
            refine c_plain (.q 0 (.q 1 (.done))) (by kernel_rfl) ?_
            refine q_int rfl rfl rfl rfl rfl (b_eql _ _ _ _) ?_
            refine q_assign rfl rfl rfl rfl ?_
            refine r_done ?_
            refine s_keep [0, 3, 50, 161] (e' := [(0, _), (3, _), (50, _), (161, _)]) rfl ?_
            refine k_then_n ?_
            refine c_cond_p rfl (fun k9 => ?_) (fun k9 => ?_)
            ·
             refine c_seq ?_
             refine c_draw rfl (.q 0 (.q 1 (.q 2 (.q 3 (.q 4 (.q 5 (.q 6 ((.l 7 [] (.q 8 (.done))))))))))) (by kernel_rfl) ?_
             refine q_field (k := 2) rfl rfl rfl rfl Try.underlying40 rfl Try.sizeOf3 rfl ?_
             refine q_load_c (j := 2) rfl rfl rfl rfl Try.isAgg3 Tk (by first | rfl | exact (Nat.add_zero _).symm) (by rfl) ?_
             refine q_move rfl rfl rfl rfl ?_
             refine q_nil_p rfl rfl rfl rfl ?_
             refine q_field (k := 7) rfl rfl rfl rfl Try.underlying113 rfl Try.sizeOf111 rfl ?_
             refine q_load_c (j := 7) rfl rfl rfl rfl Try.isAgg111 Tk (by first | rfl | exact (Nat.add_zero _).symm) (by rfl) ?_
             refine q_len rfl rfl rfl rfl Try.underlying111 ?_
             have sp_11 := below_spec o ((x.B.length : Nat) : Int)
             refine l_call rfl rfl rfl rfl rfl rfl Try.call52 (sp_11) Ts ?_
             rintro ⟨⟩ -
             try simp only [List.cons_append, List.nil_append]
             refine ag_nil ?_
             refine q_assign rfl rfl rfl rfl ?_
             refine r_done ?_
             refine s_keep [4] (e' := [(4, _)]) rfl ?_
             refine k_then_n ?_
             refine c_ret ?_
             refine k_blk_ret ?_
             refine k_then_ret ?_
             refine rk_fold (b := b) x (pa := pa) (pc := pc) (ta := ta) (tc := tc) (oa := oa) (oc := oc) (ba := ba) (bc := bc) Ts (by rfl) (by rfl) (by rfl) (by rfl) ?_
             refine ret1 rfl rfl (()) (by congr 1; rw [decide_eq_decide, can_run' h1, okK_k.2.2.2.2.2.2.1 (k9)]; try rfl) (by trivial) ?_
             exact Tf
            ·
             refine c_seq ?_
             refine c_plain (.q 0 (.q 1 (.done))) (by kernel_rfl) ?_
             refine q_int rfl rfl rfl rfl rfl (b_eql _ _ _ _) ?_
             refine q_assign rfl rfl rfl rfl ?_
             refine r_done ?_
             refine s_keep [3, 171] (e' := [(3, _), (171, _)]) rfl ?_
             refine k_then_n ?_
             refine c_cond_p rfl (fun k11 => ?_) (fun k11 => ?_)
             ·
              refine c_seq ?_
              refine c_plain (.q 0 (.q 1 (.q 2 (.q 3 (.done))))) (by kernel_rfl) ?_
              refine q_field (k := 2) rfl rfl rfl rfl Try.underlying40 rfl Try.sizeOf3 rfl ?_
              refine q_load_c (j := 2) rfl rfl rfl rfl Try.isAgg3 Tk (by first | rfl | exact (Nat.add_zero _).symm) (by rfl) ?_
              refine q_int rfl rfl rfl rfl rfl (b_eql _ _ _ _) ?_
              refine q_assign rfl rfl rfl rfl ?_
              refine r_done ?_
              refine s_keep [4] (e' := [(4, _)]) rfl ?_
              refine k_then_n ?_
              refine c_ret ?_
              refine k_blk_ret ?_
              refine k_then_ret ?_
              refine rk_fold (b := b) x (pa := pa) (pc := pc) (ta := ta) (tc := tc) (oa := oa) (oc := oc) (ba := ba) (bc := bc) Ts (by rfl) (by rfl) (by rfl) (by rfl) ?_
              refine ret1 rfl rfl (()) (by congr 1; rw [decide_eq_decide, can_run' h1, okK_k.2.2.2.2.2.2.2.1 (k11)]; omega) (by trivial) ?_
              exact Tf
             ·
              refine c_skip ?_
              refine k_blk_n ?_
              refine k_then_n ?_
              refine c_seq ?_
              refine c_plain (.q 0 (.done)) (by kernel_rfl) ?_
              refine q_assign rfl rfl rfl rfl ?_
              refine r_done ?_
              refine k_then_n ?_
              refine c_ret ?_
              refine rk_fold (b := b) x (pa := pa) (pc := pc) (ta := ta) (tc := tc) (oa := oa) (oc := oc) (ba := ba) (bc := bc) Ts (by rfl) (by rfl) (by rfl) (by rfl) ?_
              refine ret1 rfl rfl (()) (by congr 1; symm; rw [decide_eq_false_iff_not, can_run' h1]; exact fun h => okK_k.2.2.2.2.2.2.2.2 k1 k2 k3 k4 k5 k6 k7 k8 k9 k11 h.2) (by trivial) ?_
              exact Tf
end Go.Ab.Fe
set_option linter.unusedVariables false
set_option linter.unusedSimpArgs false
set_option maxRecDepth 100000
namespace Go.Ab.Fe
open Go Go.Proofs Go.Ab
theorem rnext_spec (pa : Option Addr) (pc b : Nat) (x : CS) (hx : CInv x) (hn : x.n ≤ 1000000000000000) (pl : List Int) (hpl : x.pa = pl) (k t o : Int) : Spec Try.prog 27 [.pointer (some ⟨b, 0, none⟩), .agg #[.int .i64 k, .int .i64 t, .int .i64 o]] [rk pa pc b x, own 1 encZ pa pc pl] (fun (_ : Unit) => .int .i64 (nxE x k t o)) (fun _ => True) (fun _ => [rk pa pc b (nxF x k t o), own 1 encZ pa pc pl]) := by
 refine spec_mk (n := 123) Try.func27 rfl rfl rfl ?_
 intro Γ w0
 simp only [argE, List.cons_append, List.nil_append, Nat.zero_add, Nat.reduceAdd]
 have hn0 := hx.n0
 have htl := hx.tl
 have hol := hx.ol
 have hbl := hx.bl
 refine c_seq ?_
 refine c_plain ((.l 0 [] (.q 1 (.done)))) (by kernel_rfl) ?_
 refine l_box rfl rfl rfl rfl (us := [_, _, _]) rfl ?_
 intro b3
 refine ag_nil ?_
 refine q_assign rfl rfl rfl rfl ?_
 refine r_done ?_
 refine k_then_n ?_
 refine c_seq ?_
 refine c_seq ?_
 refine c_plain (.q 0 (.q 1 (.done))) (by kernel_rfl) ?_
 refine q_move rfl rfl rfl rfl ?_
 refine q_eq_nil rfl rfl rfl rfl Try.underlying58 ?_
 refine s_eq 8 rfl (v' := .bool false) rfl ?_
 refine r_done ?_
 refine k_then_n ?_
 refine c_cond_f rfl ?_
 refine c_skip ?_
 refine k_then_n ?_
 refine c_seq ?_
 refine c_plain (.q 0 (.q 1 ((.l 2 [] (.q 3 (.done)))))) (by kernel_rfl) ?_
 refine q_move rfl rfl rfl rfl ?_
 refine q_loadN_c rfl rfl rfl rfl Try.isAgg40 Try.sizeOf40 Tk 0 (us := [_, _, _]) (by first | rfl | exact (Nat.add_zero _).symm) rfl rfl ?_
 have sp_1 := rcan_spec pa pc b x hx k t o
 refine l_call rfl rfl rfl rfl rfl rfl Try.call34 (sp_1) Ts ?_
 rintro ⟨⟩ -
 try simp only [List.cons_append, List.nil_append]
 refine ag_nil ?_
 refine q_assign rfl rfl rfl rfl ?_
 refine r_done ?_
 refine s_keep [0, 3, 5] (e' := [(0, _), (3, _), (5, _)]) rfl ?_
 refine k_then_n ?_
 refine c_seq ?_
 refine c_seq ?_
 refine c_plain (.q 0 (.q 1 (.done))) (by kernel_rfl) ?_
 refine q_move rfl rfl rfl rfl ?_
 refine q_not rfl rfl rfl rfl ?_
 refine r_done ?_
 refine k_then_n ?_
 refine c_cond_np rfl (fun hc => ?_) (fun hc => ?_)
 ·
  refine c_seq ?_
  refine c_plain (.q 0 (.done)) (by kernel_rfl) ?_
  refine q_assign rfl rfl rfl rfl ?_
  refine r_done ?_
  refine s_keep [4] (e' := [(4, _)]) rfl ?_
  refine k_then_n ?_
  refine c_ret ?_
  refine k_then_ret ?_
  rw [show nxF x k t o = x from if_neg hc]
  refine ret1 rfl rfl (()) (by rw [show nxE x k t o = 6 from if_neg hc]) (by trivial) ?_
  exact Tf
 ·
  obtain ⟨o5, o7, o9, o10, o11⟩ := can_obj hx hc
  obtain ⟨n5, n6, n7, n9, n10, n11, nn⟩ := nxF_k hc
  obtain ⟨t0, t1, t2⟩ := stF_nz (can_th hc)
  refine c_skip ?_
  refine k_then_n ?_
  refine c_seq ?_
  refine s_take (A := rk pa pc b x) Tk ?_
  refine rk_open fun ta tc oa oc ba bc => ?_
  refine c_plain (.q 0 (.q 1 (.q 2 (.q 3 (.q 4 (.q 5 (.q 6 ((.l 7 [] (.done)))))))))) (by kernel_rfl) ?_
  refine q_move rfl rfl rfl rfl ?_
  refine q_nil_p rfl rfl rfl rfl ?_
  refine q_field (k := 8) rfl rfl rfl rfl Try.underlying113 rfl Try.sizeOf3 rfl ?_
  refine q_load_c (j := 8) rfl rfl rfl rfl Try.isAgg3 Tk (by first | rfl | exact (Nat.add_zero _).symm) (by rfl) ?_
  refine q_int rfl rfl rfl rfl rfl (b_add' _ (by exact fits_i64 (by omega) (by omega))) ?_
  refine q_nil_p rfl rfl rfl rfl ?_
  refine q_field (k := 8) rfl rfl rfl rfl Try.underlying113 rfl Try.sizeOf3 rfl ?_
  refine l_store (j := 8) rfl rfl rfl rfl Try.sizeOf3 (us := [_]) rfl rfl rfl Tk (by first | rfl | exact (Nat.add_zero _).symm) (by first | decide | (simp; done) | omega) ?_
  simp only [setL, List.set]
  refine ag_nil ?_
  refine r_done ?_
  refine s_keep [0, 3] (e' := [(0, _), (3, _)]) rfl ?_
  refine k_then_n ?_
  refine c_seq ?_
  refine c_seq ?_
  refine c_plain (.q 0 (.q 1 (.done))) (by kernel_rfl) ?_
  refine q_field (k := 0) rfl rfl rfl rfl Try.underlying40 rfl Try.sizeOf38 rfl ?_
  refine q_load_c (j := 0) rfl rfl rfl rfl Try.isAgg38 Tk (by first | rfl | exact (Nat.add_zero _).symm) (by rfl) ?_
  refine r_done ?_
  refine k_then_n ?_
  refine c_block ?_
  refine c_seq ?_
  refine c_plain (.q 0 (.q 1 (.done))) (by kernel_rfl) ?_
  refine q_int rfl rfl rfl rfl rfl (b_eql _ _ _ _) ?_
  refine q_assign rfl rfl rfl rfl ?_
  refine r_done ?_
  refine k_then_n ?_
  refine c_cond_p rfl (fun k5 => ?_) (fun k5 => ?_)
  ·
   have hel := owV_at (x := x) (l := o) (o5 (.inl k5)).1 (by have := (o5 (.inl k5)).2; omega)
   have q5 := o5 (.inl k5)
   refine c_draw rfl (.q 0 (.q 1 (.q 2 (.q 3 (.q 4 (.q 5 (.q 6 (.q 7 (.q 8 ((.l 9 [] (.done)))))))))))) (by kernel_rfl) ?_
   refine q_move rfl rfl rfl rfl ?_
   refine q_nil_p rfl rfl rfl rfl ?_
   refine q_field (k := 6) rfl rfl rfl rfl Try.underlying113 rfl Try.sizeOf22 rfl ?_
   refine q_load_c (j := 6) rfl rfl rfl rfl Try.isAgg22 Tk (by first | rfl | exact (Nat.add_zero _).symm) (by rfl) ?_
   refine q_field (k := 2) rfl rfl rfl rfl Try.underlying40 rfl Try.sizeOf3 rfl ?_
   refine q_load_c (j := 2) rfl rfl rfl rfl Try.isAgg3 Tk (by first | rfl | exact (Nat.add_zero _).symm) (by rfl) ?_
   refine q_field (k := 1) rfl rfl rfl rfl Try.underlying40 rfl Try.sizeOf3 rfl ?_
   refine q_load_c (j := 1) rfl rfl rfl rfl Try.isAgg3 Tk (by first | rfl | exact (Nat.add_zero _).symm) (by rfl) ?_
   refine q_idxO (sz := 0) (k := o.toNat) (enc := encZ) (xs := x.O) rfl rfl rfl rfl rfl Try.underlying22 Try.sizeOf3 hel (by first | rfl | omega) (by omega) Tk ?_
   intro ib33 io33 ha33 hl33 hc33
   refine l_store_O (j := 0) (k := o.toNat) (q := t) (enc := encZ) (off := io33) rfl rfl rfl rfl Try.sizeOf3 (us := [_]) rfl rfl rfl ha33 encZ_len hel Tk (by first | rfl | exact (Nat.add_zero _).symm | omega) (by first | decide | exact Nat.le_of_ble_eq_true rfl) (by rfl) ?_
   refine ag_nil ?_
   refine r_done ?_
   refine s_keep [] (e' := []) rfl ?_
   refine k_blk_n ?_
   refine k_then_n ?_
   refine c_seq ?_
   refine c_plain (.q 0 (.done)) (by kernel_rfl) ?_
   refine q_assign rfl rfl rfl rfl ?_
   refine r_done ?_
   refine k_then_n ?_
   refine c_ret ?_
   rw [n5 k5]
   refine rk_fold (b := b) (⟨x.th, x.va, x.vo, x.lk, x.pa, x.T, x.O.set o.toNat t, x.B, x.n + 1⟩) (pa := pa) (pc := pc) (ta := ta) (tc := tc) (oa := oa) (oc := oc) (ba := ba) (bc := bc) Ts (by rfl) (by rfl) (by simp) (by rfl) ?_
   refine ret1 rfl rfl (()) (by rw [show nxE x k t o = 0 from if_pos hc]) (by trivial) ?_
   exact Tf
  ·
   refine c_seq ?_
   refine c_plain (.q 0 (.q 1 (.done))) (by kernel_rfl) ?_
   refine q_int rfl rfl rfl rfl rfl (b_eql _ _ _ _) ?_
   refine q_assign rfl rfl rfl rfl ?_
   refine r_done ?_
   refine s_keep [0, 3, 22, 34] (e' := [(0, _), (3, _), (22, _), (34, _)]) rfl ?_
   refine k_then_n ?_
   refine c_cond_p rfl (fun k6 => ?_) (fun k6 => ?_)
   ·
    have hel := owV_at (x := x) (l := o) (o5 (.inr k6)).1 (by have := (o5 (.inr k6)).2; omega)
    have q5 := o5 (.inr k6)
    refine c_draw rfl (.q 0 (.q 1 (.q 2 (.q 3 (.q 4 (.q 5 (.q 6 ((.l 7 [] (.done)))))))))) (by kernel_rfl) ?_
    refine q_move rfl rfl rfl rfl ?_
    refine q_nil_p rfl rfl rfl rfl ?_
    refine q_field (k := 6) rfl rfl rfl rfl Try.underlying113 rfl Try.sizeOf22 rfl ?_
    refine q_load_c (j := 6) rfl rfl rfl rfl Try.isAgg22 Tk (by first | rfl | exact (Nat.add_zero _).symm) (by rfl) ?_
    refine q_field (k := 2) rfl rfl rfl rfl Try.underlying40 rfl Try.sizeOf3 rfl ?_
    refine q_load_c (j := 2) rfl rfl rfl rfl Try.isAgg3 Tk (by first | rfl | exact (Nat.add_zero _).symm) (by rfl) ?_
    refine q_idxO (sz := 0) (k := o.toNat) (enc := encZ) (xs := x.O) rfl rfl rfl rfl rfl Try.underlying22 Try.sizeOf3 hel (by first | rfl | omega) (by omega) Tk ?_
    intro ib42 io42 ha42 hl42 hc42
    refine l_store_O (j := 0) (k := o.toNat) (q := (-1)) (enc := encZ) (off := io42) rfl rfl rfl rfl Try.sizeOf3 (us := [_]) rfl rfl rfl ha42 encZ_len hel Tk (by first | rfl | exact (Nat.add_zero _).symm | omega) (by first | decide | exact Nat.le_of_ble_eq_true rfl) (by rfl) ?_
    refine ag_nil ?_
    refine r_done ?_
    refine s_keep [] (e' := []) rfl ?_
    refine k_blk_n ?_
    refine k_then_n ?_
    refine c_seq ?_
    refine c_plain (.q 0 (.done)) (by kernel_rfl) ?_
    refine q_assign rfl rfl rfl rfl ?_
    refine r_done ?_
    refine k_then_n ?_
    refine c_ret ?_
    rw [n6 k6]
    refine rk_fold (b := b) (⟨x.th, x.va, x.vo, x.lk, x.pa, x.T, x.O.set o.toNat (-1), x.B, x.n + 1⟩) (pa := pa) (pc := pc) (ta := ta) (tc := tc) (oa := oa) (oc := oc) (ba := ba) (bc := bc) Ts (by rfl) (by rfl) (by simp) (by rfl) ?_
    refine ret1 rfl rfl (()) (by rw [show nxE x k t o = 0 from if_pos hc]) (by trivial) ?_
    exact Tf
   ·
    refine c_seq ?_
    refine c_plain (.q 0 (.q 1 (.done))) (by kernel_rfl) ?_
    refine q_int rfl rfl rfl rfl rfl (b_eql _ _ _ _) ?_
    refine q_assign rfl rfl rfl rfl ?_
    refine r_done ?_
    refine k_then_n ?_
    refine c_cond_p rfl (fun k7 => ?_) (fun k7 => ?_)
    ·
     have q7 := o7 k7
     have hel := stF_at (x := x) (t := o) q7.1 (by omega)
     have hz : (stF x o).2 = (0, 0) := (stF_inv hx o).2.2.2 (by rw [q7.2.2]; decide)
     refine c_draw rfl (.q 0 (.q 1 (.q 2 (.q 3 (.q 4 (.q 5 (.q 6 (.q 7 ((.l 8 [] (.done))))))))))) (by kernel_rfl) ?_
     refine q_move rfl rfl rfl rfl ?_
     refine q_nil_p rfl rfl rfl rfl ?_
     refine q_field (k := 5) rfl rfl rfl rfl Try.underlying113 rfl Try.sizeOf110 rfl ?_
     refine q_load_c (j := 5) rfl rfl rfl rfl Try.isAgg110 Tk (by first | rfl | exact (Nat.add_zero _).symm) (by rfl) ?_
     refine q_field (k := 2) rfl rfl rfl rfl Try.underlying40 rfl Try.sizeOf3 rfl ?_
     refine q_load_c (j := 2) rfl rfl rfl rfl Try.isAgg3 Tk (by first | rfl | exact (Nat.add_zero _).symm) (by rfl) ?_
     refine q_idxO (sz := 2) (k := o.toNat) (enc := enc3) (xs := x.T) rfl rfl rfl rfl rfl Try.underlying110 Try.sizeOf79 hel (by first | rfl | omega) (by omega) Tk ?_
     intro ib51 io51 ha51 hl51 hc51
     refine q_field (k := 0) rfl rfl rfl rfl Try.underlying79 rfl Try.sizeOf77 rfl ?_
     refine l_store_O (j := 0) (k := o.toNat) (q := (1, 0, 0)) (enc := enc3) (off := io51) rfl rfl rfl rfl Try.sizeOf77 (us := [_]) rfl rfl rfl ha51 enc3_len hel Tk (by first | rfl | exact (Nat.add_zero _).symm | omega) (by first | decide | exact Nat.le_of_ble_eq_true rfl) (by show [Value.int .i64 1, .int .i64 0, .int .i64 0] = [Value.int .i64 1, .int .i64 (stF x o).2.1, .int .i64 (stF x o).2.2]; rw [hz]) ?_
     refine ag_nil ?_
     refine r_done ?_
     refine s_keep [] (e' := []) rfl ?_
     refine k_blk_n ?_
     refine k_then_n ?_
     refine c_seq ?_
     refine c_plain (.q 0 (.done)) (by kernel_rfl) ?_
     refine q_assign rfl rfl rfl rfl ?_
     refine r_done ?_
     refine k_then_n ?_
     refine c_ret ?_
     rw [n7 k7]
     refine rk_fold (b := b) (⟨x.th, x.va, x.vo, x.lk, x.pa, x.T.set o.toNat (1, 0, 0), x.O, x.B, x.n + 1⟩) (pa := pa) (pc := pc) (ta := ta) (tc := tc) (oa := oa) (oc := oc) (ba := ba) (bc := bc) Ts (by rfl) (by simp) (by rfl) (by rfl) ?_
     refine ret1 rfl rfl (()) (by rw [show nxE x k t o = 0 from if_pos hc]) (by trivial) ?_
     exact Tf
    ·
     refine c_seq ?_
     refine c_plain (.q 0 (.q 1 (.done))) (by kernel_rfl) ?_
     refine q_int rfl rfl rfl rfl rfl (b_eql _ _ _ _) ?_
     refine q_assign rfl rfl rfl rfl ?_
     refine r_done ?_
     refine s_keep [0, 3, 22, 53] (e' := [(0, _), (3, _), (22, _), (53, _)]) rfl ?_
     refine k_then_n ?_
     refine c_cond_p rfl (fun k9 => ?_) (fun k9 => ?_)
     ·
      refine c_seq ?_
      obtain ⟨p0, p1, p2, p3⟩ := o9 k9
      have hop := opF_at (x := x) (b := o) p0 (by omega)
      obtain ⟨pp, hpp⟩ := get_lt p2
      have hbp := hx.op _ _ _ hop hpp
      have hpr := hx.sh.pa pp (List.mem_of_getElem? hpp)
      refine c_draw rfl (.q 0 (.q 1 (.q 2 (.q 3 (.q 4 (.q 5 (.q 6 (.q 7 ((.l 8 [3, 5, 7] ((.l 9 [] (.done))))))))))))) (by kernel_rfl) ?_
      refine q_move rfl rfl rfl rfl ?_
      refine q_nil_p rfl rfl rfl rfl ?_
      refine q_field (k := 7) rfl rfl rfl rfl Try.underlying113 rfl Try.sizeOf111 rfl ?_
      refine q_load_c (j := 7) rfl rfl rfl rfl Try.isAgg111 Tk (by first | rfl | exact (Nat.add_zero _).symm) (by rfl) ?_
      refine q_field (k := 2) rfl rfl rfl rfl Try.underlying40 rfl Try.sizeOf3 rfl ?_
      refine q_load_c (j := 2) rfl rfl rfl rfl Try.isAgg3 Tk (by first | rfl | exact (Nat.add_zero _).symm) (by rfl) ?_
      refine q_idxO (sz := 1) (k := o.toNat) (enc := enc2) (xs := x.B) rfl rfl rfl rfl rfl Try.underlying111 Try.sizeOf74 hop (by first | rfl | omega) (by omega) Tk ?_
      intro ib61 io61 ha61 hl61 hc61
      refine q_loadN_O (j := 0) (k' := o.toNat) (us := [_, _]) (enc := enc2) (off := io61) rfl rfl rfl rfl Try.isAgg74 Try.sizeOf74 ha61 enc2_len hop Tk (by first | rfl | exact (Nat.add_zero _).symm | omega) (by rfl) rfl ?_
      refine l_alloc rfl rfl rfl Try.zeroValue74 (zs := [.int .i64 0, .int .i64 0]) rfl ?_
      intro b6
      refine ag_load_c (q := 7) rfl rfl rfl Try.isAgg111 Tk (by first | rfl | exact (Nat.add_zero _).symm) (by rfl) ?_
      refine ag_load_c (q := 2) rfl rfl rfl Try.isAgg3 Tk (by first | rfl | exact (Nat.add_zero _).symm) (by rfl) ?_
      refine ag_loadN_O (j := 0) (k' := o.toNat) (us := [_, _]) (enc := enc2) (off := io61) rfl rfl rfl Try.isAgg74 Try.sizeOf74 ha61 enc2_len hop Tk (by first | rfl | exact (Nat.add_zero _).symm | omega) (by rfl) rfl ?_
      refine ag_nil ?_
      refine l_store (j := 0) rfl rfl rfl rfl Try.sizeOf74 (us := [_, _]) rfl rfl rfl Tk (by first | rfl | exact (Nat.add_zero _).symm) (by first | decide | (simp; done) | omega) ?_
      simp only [setL, List.set]
      refine ag_nil ?_
      refine r_done ?_
      refine s_keep [0, 3, 6] (e' := [(0, _), (3, _), (6, _)]) rfl ?_
      refine k_then_n ?_
      refine c_seq ?_
      refine c_draw rfl (.q 0 (.q 1 (.q 2 (.q 3 (.q 4 (.q 5 (.q 6 (.q 7 (.q 8 (.q 9 (.q 10 (.q 11 ((.l 12 [] (.done))))))))))))))) (by kernel_rfl) ?_
      refine q_move rfl rfl rfl rfl ?_
      refine q_nil_p rfl rfl rfl rfl ?_
      refine q_field (k := 5) rfl rfl rfl rfl Try.underlying113 rfl Try.sizeOf110 rfl ?_
      refine q_load_c (j := 5) rfl rfl rfl rfl Try.isAgg110 Tk (by first | rfl | exact (Nat.add_zero _).symm) (by rfl) ?_
      refine q_field (k := 1) rfl rfl rfl rfl Try.underlying40 rfl Try.sizeOf3 rfl ?_
      refine q_load_c (j := 1) rfl rfl rfl rfl Try.isAgg3 Tk (by first | rfl | exact (Nat.add_zero _).symm) (by rfl) ?_
      refine q_field (k := 2) rfl rfl rfl rfl Try.underlying40 rfl Try.sizeOf3 rfl ?_
      refine q_load_c (j := 2) rfl rfl rfl rfl Try.isAgg3 Tk (by first | rfl | exact (Nat.add_zero _).symm) (by rfl) ?_
      refine q_field (k := 0) rfl rfl rfl rfl Try.underlying74 rfl Try.sizeOf3 rfl ?_
      refine q_load_c (j := 0) rfl rfl rfl rfl Try.isAgg3 Tk (by first | rfl | exact (Nat.add_zero _).symm) (by rfl) ?_
      refine q_build rfl rfl rfl rfl (vs := [_, _, _]) (run_buildS Try.underlying79 Try.zeroValue79 (ps := [(0, 1), (1, 1), (2, 1)]) ⟨rfl, Try.sizeOf77, rfl, Try.sizeOf3, rfl, Try.sizeOf3, trivial⟩ rfl) ?_
      refine q_idxO (sz := 2) (k := t.toNat) (enc := enc3) (xs := x.T) rfl rfl rfl rfl rfl Try.underlying110 Try.sizeOf79 t2 (by first | rfl | omega) (by omega) Tk ?_
      intro ib74 io74 ha74 hl74 hc74
      refine l_store_O (j := 0) (k := t.toNat) (q := (2, o, (opF x o).1)) (enc := enc3) (off := io74) rfl rfl rfl rfl Try.sizeOf79 (us := [_, _, _]) rfl rfl rfl ha74 enc3_len t2 Tk (by first | rfl | exact (Nat.add_zero _).symm | omega) (by first | decide | exact Nat.le_of_ble_eq_true rfl) (by rfl) ?_
      refine ag_nil ?_
      refine r_done ?_
      refine s_keep [0, 3, 6] (e' := [(0, _), (3, _), (6, _)]) rfl ?_
      refine k_then_n ?_
      refine c_seq ?_
      refine c_plain (.q 0 (.q 1 (.q 2 (.q 3 ((.l 4 [] (.done))))))) (by kernel_rfl) ?_
      refine q_field (k := 1) rfl rfl rfl rfl Try.underlying74 rfl Try.sizeOf3 rfl ?_
      refine q_load_c (j := 1) rfl rfl rfl rfl Try.isAgg3 Tk (by first | rfl | exact (Nat.add_zero _).symm) (by rfl) ?_
      refine q_int rfl rfl rfl rfl rfl (b_add' _ (by exact fits_i64 (by omega) (by omega))) ?_
      refine q_field (k := 1) rfl rfl rfl rfl Try.underlying74 rfl Try.sizeOf3 rfl ?_
      refine l_store (j := 1) rfl rfl rfl rfl Try.sizeOf3 (us := [_]) rfl rfl rfl Tk (by first | rfl | exact (Nat.add_zero _).symm) (by first | decide | (simp; done) | omega) ?_
      simp only [setL, List.set]
      refine ag_nil ?_
      refine r_done ?_
      refine s_keep [0, 3, 6] (e' := [(0, _), (3, _), (6, _)]) rfl ?_
      refine k_then_n ?_
      refine c_seq ?_
      refine c_seq ?_
      rw [hpl] at hpp p2
      refine c_draw rfl (.q 0 (.q 1 (.q 2 (.q 3 (.q 4 (.q 5 (.q 6 (.q 7 (.q 8 (.q 9 (.q 10 (.q 11 (.done))))))))))))) (by kernel_rfl) ?_
      refine q_field (k := 1) rfl rfl rfl rfl Try.underlying74 rfl Try.sizeOf3 rfl ?_
      refine q_load_c (j := 1) rfl rfl rfl rfl Try.isAgg3 Tk (by first | rfl | exact (Nat.add_zero _).symm) (by rfl) ?_
      refine q_move rfl rfl rfl rfl ?_
      refine q_nil_p rfl rfl rfl rfl ?_
      refine q_field (k := 0) rfl rfl rfl rfl Try.underlying113 rfl Try.sizeOf24 rfl ?_
      refine q_field (k := 4) rfl rfl rfl rfl Try.underlying24 rfl Try.sizeOf22 rfl ?_
      refine q_load_c (j := 4) rfl rfl rfl rfl Try.isAgg22 Tk (by first | rfl | exact (Nat.add_zero _).symm) (by rfl) ?_
      refine q_field (k := 2) rfl rfl rfl rfl Try.underlying40 rfl Try.sizeOf3 rfl ?_
      refine q_load_c (j := 2) rfl rfl rfl rfl Try.isAgg3 Tk (by first | rfl | exact (Nat.add_zero _).symm) (by rfl) ?_
      refine q_idxO (sz := 0) (k := o.toNat) (enc := encZ) (xs := pl) rfl rfl rfl rfl rfl Try.underlying22 Try.sizeOf3 hpp (by omega) (by rw [hpl]; omega) Tk ?_
      intro ib88 io88 ha88 hl88 hc88
      refine q_load_O (v := (.int .i64 pp)) (j := 0) (k' := o.toNat) (enc := encZ) (off := io88) rfl rfl rfl rfl Try.isAgg3 ha88 encZ_len hpp Tk (by first | rfl | exact (Nat.add_zero _).symm | omega) (by rfl) ?_
      refine q_int rfl rfl rfl rfl rfl (b_eql _ _ _ _) ?_
      refine r_done ?_
      refine s_keep [0, 3, 6, 90] (e' := [(0, _), (3, _), (6, _), (90, _)]) rfl ?_
      refine k_then_n ?_
      refine c_cond_p rfl (fun hful => ?_) (fun hful => ?_)
      ·
       refine c_plain (.q 0 (.q 1 (.q 2 (.q 3 ((.l 4 [] (.done))))))) (by kernel_rfl) ?_
       refine q_field (k := 0) rfl rfl rfl rfl Try.underlying74 rfl Try.sizeOf3 rfl ?_
       refine q_load_c (j := 0) rfl rfl rfl rfl Try.isAgg3 Tk (by first | rfl | exact (Nat.add_zero _).symm) (by rfl) ?_
       refine q_int rfl rfl rfl rfl rfl (b_add' _ (by exact fits_i64 (by omega) (by omega))) ?_
       refine q_build rfl rfl rfl rfl (vs := [_, _]) (run_buildS Try.underlying74 Try.zeroValue74 (ps := [(0, 1), (1, 1)]) ⟨rfl, Try.sizeOf3, rfl, Try.sizeOf3, trivial⟩ rfl) ?_
       refine l_store (j := 0) rfl rfl rfl rfl Try.sizeOf74 (us := [_, _]) rfl rfl rfl Tk (by first | rfl | exact (Nat.add_zero _).symm) (by first | decide | (simp; done) | omega) ?_
       simp only [setL, List.set]
       refine ag_nil ?_
       refine r_done ?_
       refine s_keep [0, 3, 6] (e' := [(0, _), (3, _), (6, _)]) rfl ?_
       refine k_then_n ?_
       refine c_draw rfl (.q 0 (.q 1 (.q 2 (.q 3 (.q 4 (.q 5 (.q 6 (.q 7 ((.l 8 [] (.done))))))))))) (by kernel_rfl) ?_
       refine q_move rfl rfl rfl rfl ?_
       refine q_nil_p rfl rfl rfl rfl ?_
       refine q_field (k := 7) rfl rfl rfl rfl Try.underlying113 rfl Try.sizeOf111 rfl ?_
       refine q_load_c (j := 7) rfl rfl rfl rfl Try.isAgg111 Tk (by first | rfl | exact (Nat.add_zero _).symm) (by rfl) ?_
       refine q_field (k := 2) rfl rfl rfl rfl Try.underlying40 rfl Try.sizeOf3 rfl ?_
       refine q_load_c (j := 2) rfl rfl rfl rfl Try.isAgg3 Tk (by first | rfl | exact (Nat.add_zero _).symm) (by rfl) ?_
       refine q_loadN_c rfl rfl rfl rfl Try.isAgg74 Try.sizeOf74 Tk 0 (us := [_, _]) (by first | rfl | exact (Nat.add_zero _).symm) rfl rfl ?_
       refine q_idxO (sz := 1) (k := o.toNat) (enc := enc2) (xs := x.B) rfl rfl rfl rfl rfl Try.underlying111 Try.sizeOf74 hop (by first | rfl | omega) (by omega) Tk ?_
       intro ib102 io102 ha102 hl102 hc102
       refine l_store_O (j := 0) (k := o.toNat) (q := (((opF x o).1) + 1, 0)) (enc := enc2) (off := io102) rfl rfl rfl rfl Try.sizeOf74 (us := [_, _]) rfl rfl rfl ha102 enc2_len hop Tk (by first | rfl | exact (Nat.add_zero _).symm | omega) (by first | decide | exact Nat.le_of_ble_eq_true rfl) (by rfl) ?_
       refine ag_nil ?_
       refine r_done ?_
       refine s_keep [] (e' := []) rfl ?_
       refine k_blk_n ?_
       refine k_then_n ?_
       refine c_seq ?_
       refine c_plain (.q 0 (.done)) (by kernel_rfl) ?_
       refine q_assign rfl rfl rfl rfl ?_
       refine r_done ?_
       refine k_then_n ?_
       refine c_ret ?_
       rw [n9 k9, hpl, getD_some hpp, ← hpl, show arrF (opF x o) pp = ((opF x o).1 + 1, 0) from if_pos hful]
       refine rk_fold (b := b) (⟨x.th, x.va, x.vo, x.lk, x.pa, x.T.set t.toNat (2, o, (opF x o).1), x.O, x.B.set o.toNat ((opF x o).1 + 1, 0), x.n + 1⟩) (pa := pa) (pc := pc) (ta := ta) (tc := tc) (oa := oa) (oc := oc) (ba := ba) (bc := bc) Ts (by rfl) (by simp) (by rfl) (by simp) ?_
       refine ret1 rfl rfl (()) (by rw [show nxE x k t o = 0 from if_pos hc]) (by trivial) ?_
       exact Tf
      ·
       refine c_skip ?_
       refine k_then_n ?_
       refine c_draw rfl (.q 0 (.q 1 (.q 2 (.q 3 (.q 4 (.q 5 (.q 6 (.q 7 ((.l 8 [] (.done))))))))))) (by kernel_rfl) ?_
       refine q_move rfl rfl rfl rfl ?_
       refine q_nil_p rfl rfl rfl rfl ?_
       refine q_field (k := 7) rfl rfl rfl rfl Try.underlying113 rfl Try.sizeOf111 rfl ?_
       refine q_load_c (j := 7) rfl rfl rfl rfl Try.isAgg111 Tk (by first | rfl | exact (Nat.add_zero _).symm) (by rfl) ?_
       refine q_field (k := 2) rfl rfl rfl rfl Try.underlying40 rfl Try.sizeOf3 rfl ?_
       refine q_load_c (j := 2) rfl rfl rfl rfl Try.isAgg3 Tk (by first | rfl | exact (Nat.add_zero _).symm) (by rfl) ?_
       refine q_loadN_c rfl rfl rfl rfl Try.isAgg74 Try.sizeOf74 Tk 0 (us := [_, _]) (by first | rfl | exact (Nat.add_zero _).symm) rfl rfl ?_
       refine q_idxO (sz := 1) (k := o.toNat) (enc := enc2) (xs := x.B) rfl rfl rfl rfl rfl Try.underlying111 Try.sizeOf74 hop (by first | rfl | omega) (by omega) Tk ?_
       intro ib102 io102 ha102 hl102 hc102
       refine l_store_O (j := 0) (k := o.toNat) (q := ((opF x o).1, ((opF x o).2) + 1)) (enc := enc2) (off := io102) rfl rfl rfl rfl Try.sizeOf74 (us := [_, _]) rfl rfl rfl ha102 enc2_len hop Tk (by first | rfl | exact (Nat.add_zero _).symm | omega) (by first | decide | exact Nat.le_of_ble_eq_true rfl) (by rfl) ?_
       refine ag_nil ?_
       refine r_done ?_
       refine s_keep [] (e' := []) rfl ?_
       refine k_blk_n ?_
       refine k_then_n ?_
       refine c_seq ?_
       refine c_plain (.q 0 (.done)) (by kernel_rfl) ?_
       refine q_assign rfl rfl rfl rfl ?_
       refine r_done ?_
       refine k_then_n ?_
       refine c_ret ?_
       rw [n9 k9, hpl, getD_some hpp, ← hpl, show arrF (opF x o) pp = ((opF x o).1, (opF x o).2 + 1) from if_neg hful]
       refine rk_fold (b := b) (⟨x.th, x.va, x.vo, x.lk, x.pa, x.T.set t.toNat (2, o, (opF x o).1), x.O, x.B.set o.toNat ((opF x o).1, (opF x o).2 + 1), x.n + 1⟩) (pa := pa) (pc := pc) (ta := ta) (tc := tc) (oa := oa) (oc := oc) (ba := ba) (bc := bc) Ts (by rfl) (by simp) (by rfl) (by simp) ?_
       refine ret1 rfl rfl (()) (by rw [show nxE x k t o = 0 from if_pos hc]) (by trivial) ?_
       exact Tf
     ·
      refine c_seq ?_
      refine c_plain (.q 0 (.q 1 (.done))) (by kernel_rfl) ?_
      refine q_int rfl rfl rfl rfl rfl (b_eql _ _ _ _) ?_
      refine q_assign rfl rfl rfl rfl ?_
      refine r_done ?_
      refine k_then_n ?_
      refine c_cond_p rfl (fun k10 => ?_) (fun k10 => ?_)
      ·
       refine c_draw rfl (.q 0 (.q 1 (.q 2 (.q 3 (.q 4 (.q 5 (.q 6 (.q 7 ((.l 8 [] (.done))))))))))) (by kernel_rfl) ?_
       refine q_move rfl rfl rfl rfl ?_
       refine q_nil_p rfl rfl rfl rfl ?_
       refine q_field (k := 5) rfl rfl rfl rfl Try.underlying113 rfl Try.sizeOf110 rfl ?_
       refine q_load_c (j := 5) rfl rfl rfl rfl Try.isAgg110 Tk (by first | rfl | exact (Nat.add_zero _).symm) (by rfl) ?_
       refine q_field (k := 1) rfl rfl rfl rfl Try.underlying40 rfl Try.sizeOf3 rfl ?_
       refine q_load_c (j := 1) rfl rfl rfl rfl Try.isAgg3 Tk (by first | rfl | exact (Nat.add_zero _).symm) (by rfl) ?_
       refine q_build rfl rfl rfl rfl (vs := [_, _, _]) (run_buildS Try.underlying79 Try.zeroValue79 (ps := [(0, 1), (1, 1), (2, 1)]) ⟨rfl, Try.sizeOf77, rfl, Try.sizeOf3, rfl, Try.sizeOf3, trivial⟩ rfl) ?_
       refine q_idxO (sz := 2) (k := t.toNat) (enc := enc3) (xs := x.T) rfl rfl rfl rfl rfl Try.underlying110 Try.sizeOf79 t2 (by first | rfl | omega) (by omega) Tk ?_
       intro ib112 io112 ha112 hl112 hc112
       refine l_store_O (j := 0) (k := t.toNat) (q := (1, 0, 0)) (enc := enc3) (off := io112) rfl rfl rfl rfl Try.sizeOf79 (us := [_, _, _]) rfl rfl rfl ha112 enc3_len t2 Tk (by first | rfl | exact (Nat.add_zero _).symm | omega) (by first | decide | exact Nat.le_of_ble_eq_true rfl) (by rfl) ?_
       refine ag_nil ?_
       refine r_done ?_
       refine s_keep [] (e' := []) rfl ?_
       refine k_blk_n ?_
       refine k_then_n ?_
       refine c_seq ?_
       refine c_plain (.q 0 (.done)) (by kernel_rfl) ?_
       refine q_assign rfl rfl rfl rfl ?_
       refine r_done ?_
       refine k_then_n ?_
       refine c_ret ?_
       rw [n10 k10]
       refine rk_fold (b := b) (⟨x.th, x.va, x.vo, x.lk, x.pa, x.T.set t.toNat (1, 0, 0), x.O, x.B, x.n + 1⟩) (pa := pa) (pc := pc) (ta := ta) (tc := tc) (oa := oa) (oc := oc) (ba := ba) (bc := bc) Ts (by rfl) (by simp) (by rfl) (by rfl) ?_
       refine ret1 rfl rfl (()) (by rw [show nxE x k t o = 0 from if_pos hc]) (by trivial) ?_
       exact Tf
      ·
       refine c_seq ?_
       refine c_plain (.q 0 (.q 1 (.done))) (by kernel_rfl) ?_
       refine q_int rfl rfl rfl rfl rfl (b_eql _ _ _ _) ?_
       refine q_assign rfl rfl rfl rfl ?_
       refine r_done ?_
       refine s_keep [0, 3, 113] (e' := [(0, _), (3, _), (113, _)]) rfl ?_
       refine k_then_n ?_
       refine c_cond_p rfl (fun k11 => ?_) (fun k11 => ?_)
       ·
        refine c_draw rfl (.q 0 (.q 1 (.q 2 (.q 3 (.q 4 (.q 5 (.q 6 (.q 7 ((.l 8 [] (.done))))))))))) (by kernel_rfl) ?_
        refine q_move rfl rfl rfl rfl ?_
        refine q_nil_p rfl rfl rfl rfl ?_
        refine q_field (k := 5) rfl rfl rfl rfl Try.underlying113 rfl Try.sizeOf110 rfl ?_
        refine q_load_c (j := 5) rfl rfl rfl rfl Try.isAgg110 Tk (by first | rfl | exact (Nat.add_zero _).symm) (by rfl) ?_
        refine q_field (k := 1) rfl rfl rfl rfl Try.underlying40 rfl Try.sizeOf3 rfl ?_
        refine q_load_c (j := 1) rfl rfl rfl rfl Try.isAgg3 Tk (by first | rfl | exact (Nat.add_zero _).symm) (by rfl) ?_
        refine q_build rfl rfl rfl rfl (vs := [_, _, _]) (run_buildS Try.underlying79 Try.zeroValue79 (ps := [(0, 1), (1, 1), (2, 1)]) ⟨rfl, Try.sizeOf77, rfl, Try.sizeOf3, rfl, Try.sizeOf3, trivial⟩ rfl) ?_
        refine q_idxO (sz := 2) (k := t.toNat) (enc := enc3) (xs := x.T) rfl rfl rfl rfl rfl Try.underlying110 Try.sizeOf79 t2 (by first | rfl | omega) (by omega) Tk ?_
        intro ib122 io122 ha122 hl122 hc122
        refine l_store_O (j := 0) (k := t.toNat) (q := (3, 0, 0)) (enc := enc3) (off := io122) rfl rfl rfl rfl Try.sizeOf79 (us := [_, _, _]) rfl rfl rfl ha122 enc3_len t2 Tk (by first | rfl | exact (Nat.add_zero _).symm | omega) (by first | decide | exact Nat.le_of_ble_eq_true rfl) (by rfl) ?_
        refine ag_nil ?_
        refine r_done ?_
        refine s_keep [] (e' := []) rfl ?_
        refine k_blk_n ?_
        refine k_then_n ?_
        refine c_seq ?_
        refine c_plain (.q 0 (.done)) (by kernel_rfl) ?_
        refine q_assign rfl rfl rfl rfl ?_
        refine r_done ?_
        refine k_then_n ?_
        refine c_ret ?_
        rw [n11 k11]
        refine rk_fold (b := b) (⟨x.th, x.va, x.vo, x.lk, x.pa, x.T.set t.toNat (3, 0, 0), x.O, x.B, x.n + 1⟩) (pa := pa) (pc := pc) (ta := ta) (tc := tc) (oa := oa) (oc := oc) (ba := ba) (bc := bc) Ts (by rfl) (by simp) (by rfl) (by rfl) ?_
        refine ret1 rfl rfl (()) (by rw [show nxE x k t o = 0 from if_pos hc]) (by trivial) ?_
        exact Tf
       ·
        refine c_skip ?_
        refine k_blk_n ?_
        refine k_then_n ?_
        refine c_seq ?_
        refine c_plain (.q 0 (.done)) (by kernel_rfl) ?_
        refine q_assign rfl rfl rfl rfl ?_
        refine r_done ?_
        refine k_then_n ?_
        refine c_ret ?_
        rw [nn k5 k6 k7 k9 k10 k11]
        refine rk_fold (b := b) (⟨x.th, x.va, x.vo, x.lk, x.pa, x.T, x.O, x.B, x.n + 1⟩) (pa := pa) (pc := pc) (ta := ta) (tc := tc) (oa := oa) (oc := oc) (ba := ba) (bc := bc) Ts (by rfl) (by rfl) (by rfl) (by rfl) ?_
        refine ret1 rfl rfl (()) (by rw [show nxE x k t o = 0 from if_pos hc]) (by trivial) ?_
        exact Tf
theorem rstand_spec (pa : Option Addr) (pc b : Nat) (x : CS) (hx : CInv x) (t : Int) : Spec Try.prog 36 [.pointer (some ⟨b, 0, none⟩), .int .i64 t] [rk pa pc b x] (fun (_ : Unit) => .tuple #[ev3 (stF x t), .int .i64 (if 0 ≤ t ∧ t < x.th then 0 else 2)]) (fun _ => True) (fun _ => [rk pa pc b x]) := by
 refine spec_mk (n := 25) Try.func36 rfl rfl rfl ?_
 intro Γ w0
 simp only [argE, List.cons_append, List.nil_append, Nat.zero_add, Nat.reduceAdd]
 have htl := hx.tl
 have hol := hx.ol
 have hbl := hx.bl
 refine c_seq ?_
 refine c_plain ((.l 0 [] (.q 1 (.done)))) (by kernel_rfl) ?_
 refine l_alloc rfl rfl rfl Try.zeroValue79 (zs := [.int .i64 0, .int .i64 0, .int .i64 0]) rfl ?_
 intro b4
 refine ag_nil ?_
 refine q_assign rfl rfl rfl rfl ?_
 refine r_done ?_
 refine k_then_n ?_
 refine c_seq ?_
 refine c_seq ?_
 refine c_plain (.q 0 (.q 1 (.done))) (by kernel_rfl) ?_
 refine q_move rfl rfl rfl rfl ?_
 refine q_eq_nil rfl rfl rfl rfl Try.underlying58 ?_
 refine s_eq 7 rfl (v' := .bool false) rfl ?_
 refine r_done ?_
 refine k_then_n ?_
 refine c_cond_f rfl ?_
 refine c_skip ?_
 refine k_then_n ?_
 refine c_seq ?_
 refine c_seq ?_
 refine s_take (A := rk pa pc b x) Tk ?_
 refine rk_open fun ta tc oa oc ba bc => ?_
 refine c_plain (.q 0 (.q 1 (.q 2 (.q 3 (.q 4 (.q 5 ((.l 6 [] (.q 7 (.done)))))))))) (by kernel_rfl) ?_
 refine q_move rfl rfl rfl rfl ?_
 refine q_move rfl rfl rfl rfl ?_
 refine q_nil_p rfl rfl rfl rfl ?_
 refine q_field (k := 5) rfl rfl rfl rfl Try.underlying113 rfl Try.sizeOf110 rfl ?_
 refine q_load_c (j := 5) rfl rfl rfl rfl Try.isAgg110 Tk (by first | rfl | exact (Nat.add_zero _).symm) (by rfl) ?_
 refine q_len rfl rfl rfl rfl Try.underlying110 ?_
 have sp_1 := below_spec t ((x.T.length : Nat) : Int)
 refine l_call rfl rfl rfl rfl rfl rfl Try.call52 (sp_1) Ts ?_
 rintro ⟨⟩ -
 try simp only [List.cons_append, List.nil_append]
 refine ag_nil ?_
 refine q_not rfl rfl rfl rfl ?_
 refine r_done ?_
 refine s_keep [0, 1, 4, 16] (e' := [(0, _), (1, _), (4, _), (16, _)]) rfl ?_
 refine k_then_n ?_
 refine c_cond_np rfl (fun hin => ?_) (fun hin => ?_)
 ·
  have hno : ¬ (0 ≤ t ∧ t < x.th) := fun h => hin (by omega)
  refine c_seq ?_
  refine c_plain (.q 0 ((.l 1 [] (.q 2 (.done))))) (by kernel_rfl) ?_
  refine q_build rfl rfl rfl rfl (vs := [_, _, _]) (run_buildS Try.underlying79 Try.zeroValue79 (ps := [(0, 1), (1, 1), (2, 1)]) ⟨rfl, Try.sizeOf77, rfl, Try.sizeOf3, rfl, Try.sizeOf3, trivial⟩ rfl) ?_
  refine l_store (j := 0) rfl rfl rfl rfl Try.sizeOf79 (us := [_, _, _]) rfl rfl rfl Tk (by first | rfl | exact (Nat.add_zero _).symm) (by first | decide | (simp; done) | omega) ?_
  simp only [setL, List.set]
  refine ag_nil ?_
  refine q_assign rfl rfl rfl rfl ?_
  refine r_done ?_
  refine s_keep [4, 5] (e' := [(4, _), (5, _)]) rfl ?_
  refine k_then_n ?_
  refine c_ret ?_
  refine k_then_ret ?_
  refine rk_fold (b := b) x (pa := pa) (pc := pc) (ta := ta) (tc := tc) (oa := oa) (oc := oc) (ba := ba) (bc := bc) Ts (by rfl) (by rfl) (by rfl) (by rfl) ?_
  refine retL (us := [_, _]) rfl ⟨rv_cellN rfl Try.isAgg79 Try.sizeOf79 Tk 0 rfl (us := [_, _, _]) rfl rfl, rv_tmp rfl, trivial⟩ (()) (by rw [if_neg hno, stF_out (by omega)]; rfl) (by trivial) ?_
  exact Tf
 ·
  have hyes : 0 ≤ t ∧ t < x.th := by omega
  have hel := stF_at (x := x) (t := t) hin.1 hin.2
  refine c_skip ?_
  refine k_then_n ?_
  refine c_seq ?_
  refine c_plain (.q 0 (.q 1 (.q 2 (.q 3 (.q 4 (.q 5 (.q 6 ((.l 7 [] (.q 8 (.done))))))))))) (by kernel_rfl) ?_
  refine q_move rfl rfl rfl rfl ?_
  refine q_nil_p rfl rfl rfl rfl ?_
  refine q_field (k := 5) rfl rfl rfl rfl Try.underlying113 rfl Try.sizeOf110 rfl ?_
  refine q_load_c (j := 5) rfl rfl rfl rfl Try.isAgg110 Tk (by first | rfl | exact (Nat.add_zero _).symm) (by rfl) ?_
  refine q_move rfl rfl rfl rfl ?_
  refine q_idxO (sz := 2) (k := t.toNat) (enc := enc3) (xs := x.T) rfl rfl rfl rfl rfl Try.underlying110 Try.sizeOf79 hel (by first | rfl | omega) (by omega) Tk ?_
  intro ib23 io23 ha23 hl23 hc23
  refine q_loadN_O (j := 0) (k' := t.toNat) (us := [_, _, _]) (enc := enc3) (off := io23) rfl rfl rfl rfl Try.isAgg79 Try.sizeOf79 ha23 enc3_len hel Tk (by first | rfl | exact (Nat.add_zero _).symm | omega) (by rfl) rfl ?_
  refine l_store (j := 0) rfl rfl rfl rfl Try.sizeOf79 (us := [_, _, _]) rfl rfl rfl Tk (by first | rfl | exact (Nat.add_zero _).symm) (by first | decide | (simp; done) | omega) ?_
  simp only [setL, List.set]
  refine ag_nil ?_
  refine q_assign rfl rfl rfl rfl ?_
  refine r_done ?_
  refine s_keep [4, 5] (e' := [(4, _), (5, _)]) rfl ?_
  refine k_then_n ?_
  refine c_ret ?_
  refine rk_fold (b := b) x (pa := pa) (pc := pc) (ta := ta) (tc := tc) (oa := oa) (oc := oc) (ba := ba) (bc := bc) Ts (by rfl) (by rfl) (by rfl) (by rfl) ?_
  refine retL (us := [_, _]) rfl ⟨rv_cellN rfl Try.isAgg79 Try.sizeOf79 Tk 0 rfl (us := [_, _, _]) rfl rfl, rv_tmp rfl, trivial⟩ (()) (by rw [if_pos hyes]; rfl) (by trivial) ?_
  exact Tf
theorem rround_spec (pa : Option Addr) (pc b : Nat) (x : CS) (l : Int) : Spec Try.prog 35 [.pointer (some ⟨b, 0, none⟩), .int .i64 l] [rk pa pc b x] (fun (_ : Unit) => .tuple #[ev2 (if 0 ≤ l ∧ l < (x.B.length : Int) then opF x l else (0, 0)), .int .i64 (if 0 ≤ l ∧ l < (x.B.length : Int) then 0 else 2)]) (fun _ => True) (fun _ => [rk pa pc b x]) := by
 refine spec_mk (n := 25) Try.func35 rfl rfl rfl ?_
 intro Γ w0
 simp only [argE, List.cons_append, List.nil_append, Nat.zero_add, Nat.reduceAdd]
 refine c_seq ?_
 refine c_plain ((.l 0 [] (.q 1 (.done)))) (by kernel_rfl) ?_
 refine l_alloc rfl rfl rfl Try.zeroValue74 (zs := [.int .i64 0, .int .i64 0]) rfl ?_
 intro b4
 refine ag_nil ?_
 refine q_assign rfl rfl rfl rfl ?_
 refine r_done ?_
 refine k_then_n ?_
 refine c_seq ?_
 refine c_seq ?_
 refine c_plain (.q 0 (.q 1 (.done))) (by kernel_rfl) ?_
 refine q_move rfl rfl rfl rfl ?_
 refine q_eq_nil rfl rfl rfl rfl Try.underlying58 ?_
 refine s_eq 7 rfl (v' := .bool false) rfl ?_
 refine r_done ?_
 refine k_then_n ?_
 refine c_cond_f rfl ?_
 refine c_skip ?_
 refine k_then_n ?_
 refine c_seq ?_
 refine c_seq ?_
 refine s_take (A := rk pa pc b x) Tk ?_
 refine rk_open fun ta tc oa oc ba bc => ?_
 refine c_plain (.q 0 (.q 1 (.q 2 (.q 3 (.q 4 (.q 5 ((.l 6 [] (.q 7 (.done)))))))))) (by kernel_rfl) ?_
 refine q_move rfl rfl rfl rfl ?_
 refine q_move rfl rfl rfl rfl ?_
 refine q_nil_p rfl rfl rfl rfl ?_
 refine q_field (k := 7) rfl rfl rfl rfl Try.underlying113 rfl Try.sizeOf111 rfl ?_
 refine q_load_c (j := 7) rfl rfl rfl rfl Try.isAgg111 Tk (by first | rfl | exact (Nat.add_zero _).symm) (by rfl) ?_
 refine q_len rfl rfl rfl rfl Try.underlying111 ?_
 have sp_1 := below_spec l ((x.B.length : Nat) : Int)
 refine l_call rfl rfl rfl rfl rfl rfl Try.call52 (sp_1) Ts ?_
 rintro ⟨⟩ -
 try simp only [List.cons_append, List.nil_append]
 refine ag_nil ?_
 refine q_not rfl rfl rfl rfl ?_
 refine r_done ?_
 refine s_keep [0, 1, 4, 16] (e' := [(0, _), (1, _), (4, _), (16, _)]) rfl ?_
 refine k_then_n ?_
 refine c_cond_np rfl (fun hin => ?_) (fun hin => ?_)
 ·
  have hno : ¬ (0 ≤ l ∧ l < (x.B.length : Int)) := fun h => hin (by omega)
  refine c_seq ?_
  refine c_plain (.q 0 ((.l 1 [] (.q 2 (.done))))) (by kernel_rfl) ?_
  refine q_build rfl rfl rfl rfl (vs := [_, _]) (run_buildS Try.underlying74 Try.zeroValue74 (ps := [(0, 1), (1, 1)]) ⟨rfl, Try.sizeOf3, rfl, Try.sizeOf3, trivial⟩ rfl) ?_
  refine l_store (j := 0) rfl rfl rfl rfl Try.sizeOf74 (us := [_, _]) rfl rfl rfl Tk (by first | rfl | exact (Nat.add_zero _).symm) (by first | decide | (simp; done) | omega) ?_
  simp only [setL, List.set]
  refine ag_nil ?_
  refine q_assign rfl rfl rfl rfl ?_
  refine r_done ?_
  refine s_keep [4, 5] (e' := [(4, _), (5, _)]) rfl ?_
  refine k_then_n ?_
  refine c_ret ?_
  refine k_then_ret ?_
  refine rk_fold (b := b) x (pa := pa) (pc := pc) (ta := ta) (tc := tc) (oa := oa) (oc := oc) (ba := ba) (bc := bc) Ts (by rfl) (by rfl) (by rfl) (by rfl) ?_
  refine retL (us := [_, _]) rfl ⟨rv_cellN rfl Try.isAgg74 Try.sizeOf74 Tk 0 rfl (us := [_, _]) rfl rfl, rv_tmp rfl, trivial⟩ (()) (by rw [if_neg hno, if_neg hno]; rfl) (by trivial) ?_
  exact Tf
 ·
  have hyes : 0 ≤ l ∧ l < (x.B.length : Int) := by omega
  have hel := opF_at (x := x) (b := l) hin.1 hin.2
  refine c_skip ?_
  refine k_then_n ?_
  refine c_seq ?_
  refine c_plain (.q 0 (.q 1 (.q 2 (.q 3 (.q 4 (.q 5 (.q 6 ((.l 7 [] (.q 8 (.done))))))))))) (by kernel_rfl) ?_
  refine q_move rfl rfl rfl rfl ?_
  refine q_nil_p rfl rfl rfl rfl ?_
  refine q_field (k := 7) rfl rfl rfl rfl Try.underlying113 rfl Try.sizeOf111 rfl ?_
  refine q_load_c (j := 7) rfl rfl rfl rfl Try.isAgg111 Tk (by first | rfl | exact (Nat.add_zero _).symm) (by rfl) ?_
  refine q_move rfl rfl rfl rfl ?_
  refine q_idxO (sz := 1) (k := l.toNat) (enc := enc2) (xs := x.B) rfl rfl rfl rfl rfl Try.underlying111 Try.sizeOf74 hel (by first | rfl | omega) (by omega) Tk ?_
  intro ib23 io23 ha23 hl23 hc23
  refine q_loadN_O (j := 0) (k' := l.toNat) (us := [_, _]) (enc := enc2) (off := io23) rfl rfl rfl rfl Try.isAgg74 Try.sizeOf74 ha23 enc2_len hel Tk (by first | rfl | exact (Nat.add_zero _).symm | omega) (by rfl) rfl ?_
  refine l_store (j := 0) rfl rfl rfl rfl Try.sizeOf74 (us := [_, _]) rfl rfl rfl Tk (by first | rfl | exact (Nat.add_zero _).symm) (by first | decide | (simp; done) | omega) ?_
  simp only [setL, List.set]
  refine ag_nil ?_
  refine q_assign rfl rfl rfl rfl ?_
  refine r_done ?_
  refine s_keep [4, 5] (e' := [(4, _), (5, _)]) rfl ?_
  refine k_then_n ?_
  refine c_ret ?_
  refine rk_fold (b := b) x (pa := pa) (pc := pc) (ta := ta) (tc := tc) (oa := oa) (oc := oc) (ba := ba) (bc := bc) Ts (by rfl) (by rfl) (by rfl) (by rfl) ?_
  refine retL (us := [_, _]) rfl ⟨rv_cellN rfl Try.isAgg74 Try.sizeOf74 Tk 0 rfl (us := [_, _]) rfl rfl, rv_tmp rfl, trivial⟩ (()) (by rw [if_pos hyes, if_pos hyes]; rfl) (by trivial) ?_
  exact Tf
end Go.Ab.Fe
set_option linter.unusedVariables false
set_option linter.unusedSimpArgs false
set_option maxRecDepth 100000
namespace Go.Ab.Fe
open Go Go.Proofs Go.Ab
abbrev nxT (x : CS) (e : T3) : CS := nxF x e.1 e.2.1 e.2.2
abbrev canT (x : CS) (e : T3) : Prop := canF x e.1 e.2.1 e.2.2
/-- Behind the first i events, those that cannot be next left out. -/
def sN (x : CS) (es : List T3) (i : Nat) : CS := (es.take i).foldl nxT x
theorem sN_zero (x : CS) (es : List T3) : sN x es 0 = x := rfl
theorem sN_next {x : CS} {es : List T3} {i : Nat} {e : T3} (h : es[i]? = some e) : sN x es (i + 1) = nxF (sN x es i) e.1 e.2.1 e.2.2 := by
  unfold sN; rw [take_next h, List.foldl_append]; rfl
theorem nxF_pa (x : CS) (k t o : Int) : (nxF x k t o).pa = x.pa ∧ (nxF x k t o).th = x.th ∧ (nxF x k t o).va = x.va ∧ (nxF x k t o).vo = x.vo ∧ (nxF x k t o).lk = x.lk := by
  unfold nxF nextF; split
  · repeat' split
    all_goals exact ⟨rfl, rfl, rfl, rfl, rfl⟩
  · exact ⟨rfl, rfl, rfl, rfl, rfl⟩
theorem nxF_n (x : CS) (k t o : Int) : (nxF x k t o).n = x.n ∨ (nxF x k t o).n = x.n + 1 := by
  unfold nxF nextF; split
  · repeat' split
    all_goals exact .inr rfl
  · exact .inl rfl
theorem sN_inv {x : CS} (hx : CInv x) (es : List T3) : ∀ i, CInv (sN x es i) := by
  intro i
  induction i with
  | zero => exact hx
  | succ i ih =>
    rcases Nat.lt_or_ge i es.length with h | h
    · obtain ⟨e, he⟩ := get_lt h
      rw [sN_next he]; exact next_inv ih _ _ _
    · have : sN x es (i + 1) = sN x es i := by unfold sN; rw [List.take_of_length_le (by omega), List.take_of_length_le h]
      rw [this]; exact ih
theorem sN_sh (x : CS) (es : List T3) : ∀ i, (sN x es i).pa = x.pa ∧ (sN x es i).th = x.th ∧ (sN x es i).va = x.va ∧ (sN x es i).vo = x.vo ∧ (sN x es i).lk = x.lk := by
  intro i
  induction i with
  | zero => exact ⟨rfl, rfl, rfl, rfl, rfl⟩
  | succ i ih =>
    rcases Nat.lt_or_ge i es.length with h | h
    · obtain ⟨e, he⟩ := get_lt h
      rw [sN_next he]
      obtain ⟨a, b, c, d, f⟩ := nxF_pa (sN x es i) e.1 e.2.1 e.2.2
      rw [a, b, c, d, f]; exact ih
    · have : sN x es (i + 1) = sN x es i := by unfold sN; rw [List.take_of_length_le (by omega), List.take_of_length_le h]
      rw [this]; exact ih
theorem sN_n (x : CS) (es : List T3) : ∀ i, x.n ≤ (sN x es i).n ∧ (sN x es i).n ≤ x.n + i := by
  intro i
  induction i with
  | zero => rw [sN_zero]; omega
  | succ i ih =>
    rcases Nat.lt_or_ge i es.length with h | h
    · obtain ⟨e, he⟩ := get_lt h
      rw [sN_next he]
      rcases nxF_n (sN x es i) e.1 e.2.1 e.2.2 with h | h <;> rw [h] <;> omega
    · have : sN x es (i + 1) = sN x es i := by unfold sN; rw [List.take_of_length_le (by omega), List.take_of_length_le h]
      rw [this]; omega
/-- All of the first i events can be. -/
def allC (x : CS) (es : List T3) (i : Nat) : Prop := ∀ (j : Nat) (e : T3), j < i → es[j]? = some e → canT (sN x es j) e
theorem allC_zero (x : CS) (es : List T3) : allC x es 0 := fun j e h => by omega
theorem allC_next {x : CS} {es : List T3} {i : Nat} {e : T3} (h : allC x es i) (he : es[i]? = some e) (hc : canT (sN x es i) e) : allC x es (i + 1) := fun j q hj hq => by
  by_cases hji : j = i
  · subst hji; rw [he] at hq; cases hq; exact hc
  · exact h j q (by omega) hq
def leastN : CS → List T3 → Nat
  | _, [] => 0
  | x, e :: es => if canT x e then leastN (nxT x e) es + 1 else 0
def lsR (th va vo lk : Int) (pl : List Int) (es : List T3) : Int := if OkS th va vo lk pl then ((leastN (newF th va vo lk pl) es : Nat) : Int) else 0
theorem rnew_spec (th va vo lk : Int) (pl : List Int) (ao : Option Addr) (n c : Nat) (A : HProp) (hr : RdS A ao (pl.flatMap encZ)) (hn : pl.length = n) (hb : n ≤ 4000000) (hok : OkS th va vo lk pl) : Spec Try.prog 24 [.agg #[.int .i64 th, .int .i64 va, .int .i64 vo, .int .i64 lk, .slice ao n c]] [A] (fun (r : Nat × Option Addr × Nat) => .tuple #[.pointer (some ⟨r.1, 0, none⟩), .int .i64 0]) (fun r => True) (fun r => [A, own 1 encZ r.2.1 r.2.2 pl, rk r.2.1 r.2.2 r.1 (newF th va vo lk pl)]) := by
 refine spec_mk (n := 92) Try.func24 rfl rfl rfl ?_
 intro Γ w0
 simp only [argE, List.cons_append, List.nil_append, Nat.zero_add, Nat.reduceAdd]
 have h1_ := hok.th
 have h2_ := hok.lk
 have h3_ := hok.pl
 refine c_seq ?_
 refine c_plain ((.l 0 [] (.q 1 (.q 2 (.done))))) (by kernel_rfl) ?_
 refine l_box rfl rfl rfl rfl (us := [_, _, _, _, _]) rfl ?_
 intro b1
 refine ag_nil ?_
 refine q_assign rfl rfl rfl rfl ?_
 refine q_assign rfl rfl rfl rfl ?_
 refine r_done ?_
 refine k_then_n ?_
 refine c_seq ?_
 refine c_plain (.q 0 ((.l 1 [] (.q 2 (.done))))) (by kernel_rfl) ?_
 refine q_loadN_c rfl rfl rfl rfl Try.isAgg24 Try.sizeOf24 Tk 0 (us := [_, _, _, _, _]) (by first | rfl | exact (Nat.add_zero _).symm) rfl rfl ?_
 have sp_1 := rshape_spec th va vo lk pl ao n c A (hr) (by first | rfl | assumption | omega | (simp; done) | (simp; omega)) (by omega)
 refine l_call rfl rfl rfl rfl rfl rfl Try.call33 (sp_1) Ts ?_
 rintro ⟨⟩ -
 try simp only [List.cons_append, List.nil_append]
 refine ag_nil ?_
 refine s_eq 10 rfl (v' := .int .i64 0) (by rw [if_pos hok]) ?_
 refine q_assign rfl rfl rfl rfl ?_
 refine r_done ?_
 refine s_keep [1, 4] (e' := [(1, _), (4, _)]) rfl ?_
 refine k_then_n ?_
 refine c_seq ?_
 refine c_seq ?_
 refine c_plain (.q 0 (.q 1 (.done))) (by kernel_rfl) ?_
 refine q_move rfl rfl rfl rfl ?_
 refine q_int rfl rfl rfl rfl rfl (b_neq _ _ _ _) ?_
 refine s_eq 12 rfl (v' := .bool false) (by first | rfl | simp) ?_
 refine r_done ?_
 refine k_then_n ?_
 refine c_cond_f rfl ?_
 refine c_skip ?_
 refine k_then_n ?_
 refine c_seq ?_
 refine c_plain (.q 0 (.q 1 ((.l 2 [] (.q 3 (.done)))))) (by kernel_rfl) ?_
 refine q_loadN_c rfl rfl rfl rfl Try.isAgg24 Try.sizeOf24 Tk 0 (us := [_, _, _, _, _]) (by first | rfl | exact (Nat.add_zero _).symm) rfl rfl ?_
 refine q_build rfl rfl rfl rfl (vs := [_, _, _, _, _, _, _, _, _]) (run_buildS Try.underlying113 Try.zeroValue113 (ps := [(0, 5), (5, 1), (6, 1), (7, 1), (8, 1)]) ⟨rfl, Try.sizeOf24, rfl, Try.sizeOf110, rfl, Try.sizeOf22, rfl, Try.sizeOf111, rfl, Try.sizeOf3, trivial⟩ rfl) ?_
 refine l_box rfl rfl rfl rfl (us := [_, _, _, _, _, _, _, _, _]) rfl ?_
 intro b16
 refine ag_nil ?_
 refine q_assign rfl rfl rfl rfl ?_
 refine r_done ?_
 refine s_keep [1, 5] (e' := [(1, _), (5, _)]) rfl ?_
 refine k_then_n ?_
 refine c_seq ?_
 refine c_plain (.q 0 (.q 1 (.q 2 (.q 3 ((.l 4 [] (.done))))))) (by kernel_rfl) ?_
 refine q_move rfl rfl rfl rfl ?_
 refine q_nil_p rfl rfl rfl rfl ?_
 refine q_field (k := 0) rfl rfl rfl rfl Try.underlying113 rfl Try.sizeOf24 rfl ?_
 refine q_field (k := 4) rfl rfl rfl rfl Try.underlying24 rfl Try.sizeOf22 rfl ?_
 refine l_store (j := 4) rfl rfl rfl rfl Try.sizeOf22 (us := [_]) rfl rfl rfl Tk (by first | rfl | exact (Nat.add_zero _).symm) (by first | decide | (simp; done) | omega) ?_
 simp only [setL, List.set]
 refine ag_nil ?_
 refine r_done ?_
 refine s_keep [1, 5] (e' := [(1, _), (5, _)]) rfl ?_
 refine k_then_n ?_
 refine c_seq ?_
 refine c_seq ?_
 refine c_plain (.q 0 (.done)) (by kernel_rfl) ?_
 refine q_assign rfl rfl rfl rfl ?_
 refine r_done ?_
 refine k_then_n ?_
 refine c_block ?_
 refine s_heap (fun _ h => own_nil (sz := 1) (enc := encZ) h) ?_
 refine s_heap (fun _ h => own_nil (sz := 2) (enc := enc2) h) ?_
 refine c_loop2 (α := Nat × Option Addr × Nat × Option Addr × Nat) (fun (x_ : Nat × Option Addr × Nat × Option Addr × Nat) => match x_ with | (i, ai, ci, bi, di) => i ≤ n ∧ True) (fun (x_ : Nat × Option Addr × Nat × Option Addr × Nat) => match x_ with | (i, ai, ci, bi, di) => [(6, .int .i64 ((i : Nat) : Int))]) (fun (x_ : Nat × Option Addr × Nat × Option Addr × Nat) => match x_ with | (i, ai, ci, bi, di) => [cells b16 0 [.int .i64 th, .int .i64 va, .int .i64 vo, .int .i64 lk, .slice ai i ci, .slice none 0 0, .slice none 0 0, .slice bi i di, .int .i64 0], own 1 encZ ai ci (pl.take i), own 2 enc2 bi di (List.replicate i ((0 : Int), (0 : Int)))]) (fun (x_ : Nat × Option Addr × Nat × Option Addr × Nat) => match x_ with | (i, ai, ci, bi, di) => n - i) [1, 5] (er := [(1, _), (5, _)]) rfl (0, none, 0, none, 0) ?_ (by exact ⟨rfl, trivial⟩) (by (try dsimp only); (try simp only [Nat.add_zero, Nat.zero_add]); (repeat ((with_reducible apply Z2); focus (first | (with_reducible (repeat (first | exact Z0 | apply Z1)); done) | (repeat (first | exact Z0 | apply Z1))))); exact Z3) ?_
 · exact ⟨Nat.zero_le _, trivial⟩
 rintro ⟨i, ai, ci, bi, di⟩ ⟨hle_i, hz1⟩
 try simp only [List.cons_append, List.nil_append]
 refine c_seq ?_
 refine c_seq ?_
 refine c_plain (.q 0 (.q 1 (.q 2 (.q 3 (.q 4 (.done)))))) (by kernel_rfl) ?_
 refine q_move rfl rfl rfl rfl ?_
 refine q_field (k := 4) rfl rfl rfl rfl Try.underlying24 rfl Try.sizeOf22 rfl ?_
 refine q_load_c (j := 4) rfl rfl rfl rfl Try.isAgg22 Tk (by first | rfl | exact (Nat.add_zero _).symm) (by rfl) ?_
 refine q_len rfl rfl rfl rfl Try.underlying22 ?_
 refine q_int rfl rfl rfl rfl rfl (b_lss _ _ _ _) ?_
 refine r_done ?_
 refine s_keep [1, 5, 6, 25] (e' := [(1, _), (5, _), (6, _), (25, _)]) rfl ?_
 refine k_then_n ?_
 refine c_cond_p rfl (fun hlt1 => ?_) (fun hlt1 => ?_)
 ·
  refine c_skip ?_
  refine k_then_n ?_
  refine c_seq ?_
  refine c_block ?_
  refine c_seq ?_
  refine c_draw rfl (.q 0 (.q 1 (.q 2 (.q 3 (.q 4 (.q 5 (.q 6 (.q 7 (.q 8 (.q 9 (.q 10 ((.l 11 [5] ((.l 12 [] (.q 13 (.q 14 (.q 15 ((.l 16 [] (.done))))))))))))))))))))) (by kernel_rfl) ?_
  refine q_move rfl rfl rfl rfl ?_
  refine q_move rfl rfl rfl rfl ?_
  refine q_nil_p rfl rfl rfl rfl ?_
  refine q_field (k := 0) rfl rfl rfl rfl Try.underlying113 rfl Try.sizeOf24 rfl ?_
  refine q_field (k := 4) rfl rfl rfl rfl Try.underlying24 rfl Try.sizeOf22 rfl ?_
  refine q_load_c (j := 4) rfl rfl rfl rfl Try.isAgg22 Tk (by first | rfl | exact (Nat.add_zero _).symm) (by rfl) ?_
  refine q_field (k := 4) rfl rfl rfl rfl Try.underlying24 rfl Try.sizeOf22 rfl ?_
  refine q_load_c (j := 4) rfl rfl rfl rfl Try.isAgg22 Tk (by first | rfl | exact (Nat.add_zero _).symm) (by rfl) ?_
  refine q_move rfl rfl rfl rfl ?_
  obtain ⟨p, hp⟩ := get_lt (l := pl) (i := i) (by first | omega | (simp; done) | (simp; omega))
  refine q_idxR (sz := 0) (k := i) rfl rfl rfl rfl rfl Try.underlying22 Try.sizeOf3 (hr) hp encZ_len (by first | rfl | omega) (by omega) ?_
  intro ib37 io37 _ hd37
  refine q_load rfl rfl rfl rfl Try.isAgg3 Tk (hd37 0 (.int .i64 p) rfl) ?_
  refine l_buildSlice rfl rfl rfl rfl (run_build1 (us := [_]) Try.underlying22 Try.sizeOf3 rfl Try.zeroValue3 rfl rfl rfl) ?_
  intro b39
  refine ag_load_c (q := 4) rfl rfl rfl Try.isAgg22 Tk (by first | rfl | exact (Nat.add_zero _).symm) (by rfl) ?_
  refine ag_nil ?_
  refine l_append (sz := 1) (enc := encZ) (xs := (pl.take i)) rfl rfl rfl rfl rfl Try.underlying22 Try.typeInfo3 rfl rfl rfl (by decide) Tk Tk (by first | rfl | omega | (simp; done) | (simp; omega)) (ys := [p]) (rds_some rdn_cells) (by rfl) (by first | rfl | omega) (encZ_len) (encZ_one) (by omega) (by show _ * 8 ≤ _; omega) ?_
  intro ao40 cp40
  refine ag_nil ?_
  refine q_nil_p rfl rfl rfl rfl ?_
  refine q_field (k := 0) rfl rfl rfl rfl Try.underlying113 rfl Try.sizeOf24 rfl ?_
  refine q_field (k := 4) rfl rfl rfl rfl Try.underlying24 rfl Try.sizeOf22 rfl ?_
  refine l_store (j := 4) rfl rfl rfl rfl Try.sizeOf22 (us := [_]) rfl rfl rfl Tk (by first | rfl | exact (Nat.add_zero _).symm) (by first | decide | (simp; done) | omega) ?_
  simp only [setL, List.set]
  refine ag_nil ?_
  refine r_done ?_
  refine s_keep [1, 5, 6] (e' := [(1, _), (5, _), (6, _)]) rfl ?_
  refine k_then_n ?_
  refine c_plain (.q 0 (.q 1 (.q 2 (.q 3 (.q 4 (.q 5 ((.l 6 [] ((.l 7 [] (.q 8 (.q 9 ((.l 10 [] (.done))))))))))))))) (by kernel_rfl) ?_
  refine q_move rfl rfl rfl rfl ?_
  refine q_move rfl rfl rfl rfl ?_
  refine q_nil_p rfl rfl rfl rfl ?_
  refine q_field (k := 7) rfl rfl rfl rfl Try.underlying113 rfl Try.sizeOf111 rfl ?_
  refine q_load_c (j := 7) rfl rfl rfl rfl Try.isAgg111 Tk (by first | rfl | exact (Nat.add_zero _).symm) (by rfl) ?_
  refine q_build rfl rfl rfl rfl (vs := [_, _]) (run_buildS Try.underlying74 Try.zeroValue74 (ps := [(0, 1), (1, 1)]) ⟨rfl, Try.sizeOf3, rfl, Try.sizeOf3, trivial⟩ rfl) ?_
  refine l_buildSlice rfl rfl rfl rfl (run_build1 (us := [_, _]) Try.underlying111 Try.sizeOf74 rfl Try.zeroValue74 rfl rfl rfl) ?_
  intro b50
  refine ag_nil ?_
  refine l_append (sz := 2) (enc := enc2) (xs := (List.replicate i ((0 : Int), (0 : Int)))) rfl rfl rfl rfl rfl Try.underlying111 Try.typeInfo74 rfl rfl rfl (by decide) Tk Tk (by first | rfl | omega | (simp; done) | (simp; omega)) (ys := [(0, 0)]) (rds_some rdn_cells) (by rfl) (by first | rfl | omega) (enc2_len) (enc2_one) (by omega) (by show _ * 16 ≤ _; omega) ?_
  intro ao51 cp51
  refine ag_nil ?_
  refine q_nil_p rfl rfl rfl rfl ?_
  refine q_field (k := 7) rfl rfl rfl rfl Try.underlying113 rfl Try.sizeOf111 rfl ?_
  refine l_store (j := 7) rfl rfl rfl rfl Try.sizeOf111 (us := [_]) rfl rfl rfl Tk (by first | rfl | exact (Nat.add_zero _).symm) (by first | decide | (simp; done) | omega) ?_
  simp only [setL, List.set]
  refine ag_nil ?_
  refine r_done ?_
  refine s_keep [1, 5, 6] (e' := [(1, _), (5, _), (6, _)]) rfl ?_
  refine k_blk_n ?_
  refine k_then_n ?_
  refine c_plain (.q 0 (.q 1 (.q 2 (.done)))) (by kernel_rfl) ?_
  refine q_move rfl rfl rfl rfl ?_
  refine q_int rfl rfl rfl rfl rfl (b_add' _ (by exact fits_i64 (by omega) (by omega))) ?_
  refine q_assign rfl rfl rfl rfl ?_
  refine r_done ?_
  refine k_then_n ?_
  rw [← take_next hp, ← List.replicate_succ']
  refine loop_next (x := (i, ai, ci, bi, di)) ((i + 1, ao40, cp40, ao51, cp51)) ?_ ?_ ?_ ?_
  · try dsimp only
    exact ⟨by omega, trivial⟩
  · show n - (i + 1) < n - i; omega
  · exact ⟨rfl, rfl, rfl, trivial⟩
  · (try simp only [List.cons_append, List.nil_append]); exact Tf
 ·
  refine c_exit ?_
  refine k_then_exit ?_
  refine k_then_exit ?_
  refine k_blk_here ?_
  refine k_then_n ?_
  refine c_seq ?_
  refine c_seq ?_
  refine c_plain (.q 0 (.done)) (by kernel_rfl) ?_
  refine q_assign rfl rfl rfl rfl ?_
  refine r_done ?_
  refine k_then_n ?_
  refine c_block ?_
  refine s_heap (fun _ h => own_nil (sz := 3) (enc := enc3) h) ?_
  refine c_loop2 (α := Nat × Option Addr × Nat) (fun (x_ : Nat × Option Addr × Nat) => match x_ with | (j, aj, cj) => j ≤ th.toNat ∧ True) (fun (x_ : Nat × Option Addr × Nat) => match x_ with | (j, aj, cj) => [(7, .int .i64 ((j : Nat) : Int))]) (fun (x_ : Nat × Option Addr × Nat) => match x_ with | (j, aj, cj) => [cells b16 0 [.int .i64 th, .int .i64 va, .int .i64 vo, .int .i64 lk, .slice ai i ci, .slice aj j cj, .slice none 0 0, .slice bi i di, .int .i64 0], own 1 encZ ai ci (pl.take i), own 3 enc3 aj cj (List.replicate j ((0 : Int), (0 : Int), (0 : Int))), own 2 enc2 bi di (List.replicate i ((0 : Int), (0 : Int)))]) (fun (x_ : Nat × Option Addr × Nat) => match x_ with | (j, aj, cj) => th.toNat - j) [1, 5] (er := [(1, _), (5, _)]) rfl (0, none, 0) ?_ (by exact ⟨rfl, trivial⟩) (by (try dsimp only); (try simp only [Nat.add_zero, Nat.zero_add]); (repeat ((with_reducible apply Z2); focus (first | (with_reducible (repeat (first | exact Z0 | apply Z1)); done) | (repeat (first | exact Z0 | apply Z1))))); exact Z3) ?_
  · exact ⟨Nat.zero_le _, trivial⟩
  rintro ⟨j, aj, cj⟩ ⟨hle_j, hz2⟩
  try simp only [List.cons_append, List.nil_append]
  refine c_seq ?_
  refine c_seq ?_
  refine c_plain (.q 0 (.q 1 (.q 2 (.q 3 (.done))))) (by kernel_rfl) ?_
  refine q_move rfl rfl rfl rfl ?_
  refine q_field (k := 0) rfl rfl rfl rfl Try.underlying24 rfl Try.sizeOf3 rfl ?_
  refine q_load_c (j := 0) rfl rfl rfl rfl Try.isAgg3 Tk (by first | rfl | exact (Nat.add_zero _).symm) (by rfl) ?_
  refine q_int rfl rfl rfl rfl rfl (b_lss _ _ _ _) ?_
  refine r_done ?_
  refine k_then_n ?_
  refine c_cond_p rfl (fun hlt2 => ?_) (fun hlt2 => ?_)
  ·
   refine c_skip ?_
   refine k_then_n ?_
   refine c_seq ?_
   refine c_block ?_
   refine c_plain (.q 0 (.q 1 (.q 2 (.q 3 (.q 4 (.q 5 ((.l 6 [] ((.l 7 [] (.q 8 (.q 9 ((.l 10 [] (.done))))))))))))))) (by kernel_rfl) ?_
   refine q_move rfl rfl rfl rfl ?_
   refine q_move rfl rfl rfl rfl ?_
   refine q_nil_p rfl rfl rfl rfl ?_
   refine q_field (k := 5) rfl rfl rfl rfl Try.underlying113 rfl Try.sizeOf110 rfl ?_
   refine q_load_c (j := 5) rfl rfl rfl rfl Try.isAgg110 Tk (by first | rfl | exact (Nat.add_zero _).symm) (by rfl) ?_
   refine q_build rfl rfl rfl rfl (vs := [_, _, _]) (run_buildS Try.underlying79 Try.zeroValue79 (ps := [(0, 1), (1, 1), (2, 1)]) ⟨rfl, Try.sizeOf77, rfl, Try.sizeOf3, rfl, Try.sizeOf3, trivial⟩ rfl) ?_
   refine l_buildSlice rfl rfl rfl rfl (run_build1 (us := [_, _, _]) Try.underlying110 Try.sizeOf79 rfl Try.zeroValue79 rfl rfl rfl) ?_
   intro b66
   refine ag_nil ?_
   refine l_append (sz := 3) (enc := enc3) (xs := (List.replicate j ((0 : Int), (0 : Int), (0 : Int)))) rfl rfl rfl rfl rfl Try.underlying110 Try.typeInfo79 rfl rfl rfl (by decide) Tk Tk (by first | rfl | omega | (simp; done) | (simp; omega)) (ys := [(0, 0, 0)]) (rds_some rdn_cells) (by rfl) (by first | rfl | omega) (enc3_len) (enc3_one) (by omega) (by show _ * 24 ≤ _; omega) ?_
   intro ao67 cp67
   refine ag_nil ?_
   refine q_nil_p rfl rfl rfl rfl ?_
   refine q_field (k := 5) rfl rfl rfl rfl Try.underlying113 rfl Try.sizeOf110 rfl ?_
   refine l_store (j := 5) rfl rfl rfl rfl Try.sizeOf110 (us := [_]) rfl rfl rfl Tk (by first | rfl | exact (Nat.add_zero _).symm) (by first | decide | (simp; done) | omega) ?_
   simp only [setL, List.set]
   refine ag_nil ?_
   refine r_done ?_
   refine s_keep [1, 5, 7] (e' := [(1, _), (5, _), (7, _)]) rfl ?_
   refine k_blk_n ?_
   refine k_then_n ?_
   refine c_plain (.q 0 (.q 1 (.q 2 (.done)))) (by kernel_rfl) ?_
   refine q_move rfl rfl rfl rfl ?_
   refine q_int rfl rfl rfl rfl rfl (b_add' _ (by exact fits_i64 (by omega) (by omega))) ?_
   refine q_assign rfl rfl rfl rfl ?_
   refine r_done ?_
   refine k_then_n ?_
   rw [← List.replicate_succ']
   refine loop_next (x := (j, aj, cj)) ((j + 1, ao67, cp67)) ?_ ?_ ?_ ?_
   · try dsimp only
     exact ⟨by omega, trivial⟩
   · show th.toNat - (j + 1) < th.toNat - j; omega
   · exact ⟨rfl, rfl, rfl, trivial⟩
   · (try simp only [List.cons_append, List.nil_append]); exact Tf
  ·
   refine c_exit ?_
   refine k_then_exit ?_
   refine k_then_exit ?_
   refine k_blk_here ?_
   refine k_then_n ?_
   refine c_seq ?_
   have hj0 : j = th.toNat := by omega
   obtain ⟨z0, hz0⟩ := get_lt (l := List.replicate j ((0 : Int), (0 : Int), (0 : Int))) (i := 0) (by simp; omega)
   obtain rfl : z0 = (0, 0, 0) := (List.mem_replicate.1 (List.mem_of_getElem? hz0)).2
   refine c_plain (.q 0 (.q 1 (.q 2 (.q 3 (.q 4 (.q 5 ((.l 6 [] (.done))))))))) (by kernel_rfl) ?_
   refine q_move rfl rfl rfl rfl ?_
   refine q_nil_p rfl rfl rfl rfl ?_
   refine q_field (k := 5) rfl rfl rfl rfl Try.underlying113 rfl Try.sizeOf110 rfl ?_
   refine q_load_c (j := 5) rfl rfl rfl rfl Try.isAgg110 Tk (by first | rfl | exact (Nat.add_zero _).symm) (by rfl) ?_
   refine q_idxO (sz := 2) (k := 0) (enc := enc3) (xs := (List.replicate j ((0 : Int), (0 : Int), (0 : Int)))) rfl rfl rfl rfl rfl Try.underlying110 Try.sizeOf79 hz0 (by first | rfl | omega) (by omega) Tk ?_
   intro ib74 io74 ha74 hl74 hc74
   refine q_field (k := 0) rfl rfl rfl rfl Try.underlying79 rfl Try.sizeOf77 rfl ?_
   refine l_store_O (j := 0) (k := 0) (q := (1, 0, 0)) (enc := enc3) (off := io74) rfl rfl rfl rfl Try.sizeOf77 (us := [_]) rfl rfl rfl ha74 enc3_len hz0 Tk (by first | rfl | exact (Nat.add_zero _).symm | omega) (by first | decide | exact Nat.le_of_ble_eq_true rfl) (by rfl) ?_
   refine ag_nil ?_
   refine r_done ?_
   refine s_keep [1, 5] (e' := [(1, _), (5, _)]) rfl ?_
   refine k_then_n ?_
   refine c_seq ?_
   refine c_seq ?_
   refine c_plain (.q 0 (.done)) (by kernel_rfl) ?_
   refine q_assign rfl rfl rfl rfl ?_
   refine r_done ?_
   refine k_then_n ?_
   refine c_block ?_
   refine s_heap (fun _ h => own_nil (sz := 1) (enc := encZ) h) ?_
   refine c_loop2 (α := Nat × Option Addr × Nat) (fun (x_ : Nat × Option Addr × Nat) => match x_ with | (m, am, cm) => m ≤ lk.toNat ∧ True) (fun (x_ : Nat × Option Addr × Nat) => match x_ with | (m, am, cm) => [(8, .int .i64 ((m : Nat) : Int))]) (fun (x_ : Nat × Option Addr × Nat) => match x_ with | (m, am, cm) => [cells b16 0 [.int .i64 th, .int .i64 va, .int .i64 vo, .int .i64 lk, .slice ai i ci, .slice aj j cj, .slice am m cm, .slice bi i di, .int .i64 0], own 1 encZ ai ci (pl.take i), own 3 enc3 aj cj ((List.replicate j ((0 : Int), (0 : Int), (0 : Int))).set 0 (1, 0, 0)), own 1 encZ am cm (List.replicate m (-1 : Int)), own 2 enc2 bi di (List.replicate i ((0 : Int), (0 : Int)))]) (fun (x_ : Nat × Option Addr × Nat) => match x_ with | (m, am, cm) => lk.toNat - m) [1, 5] (er := [(1, _), (5, _)]) rfl (0, none, 0) ?_ (by exact ⟨rfl, trivial⟩) (by (try dsimp only); (try simp only [Nat.add_zero, Nat.zero_add]); (repeat ((with_reducible apply Z2); focus (first | (with_reducible (repeat (first | exact Z0 | apply Z1)); done) | (repeat (first | exact Z0 | apply Z1))))); exact Z3) ?_
   · exact ⟨Nat.zero_le _, trivial⟩
   rintro ⟨m, am, cm⟩ ⟨hle_m, hz3⟩
   try simp only [List.cons_append, List.nil_append]
   refine c_seq ?_
   refine c_seq ?_
   refine c_plain (.q 0 (.q 1 (.q 2 (.q 3 (.done))))) (by kernel_rfl) ?_
   refine q_move rfl rfl rfl rfl ?_
   refine q_field (k := 3) rfl rfl rfl rfl Try.underlying24 rfl Try.sizeOf3 rfl ?_
   refine q_load_c (j := 3) rfl rfl rfl rfl Try.isAgg3 Tk (by first | rfl | exact (Nat.add_zero _).symm) (by rfl) ?_
   refine q_int rfl rfl rfl rfl rfl (b_lss _ _ _ _) ?_
   refine r_done ?_
   refine k_then_n ?_
   refine c_cond_p rfl (fun hlt3 => ?_) (fun hlt3 => ?_)
   ·
    refine c_skip ?_
    refine k_then_n ?_
    refine c_seq ?_
    refine c_block ?_
    refine c_plain (.q 0 (.q 1 (.q 2 (.q 3 (.q 4 ((.l 5 [] ((.l 6 [] (.q 7 (.q 8 ((.l 9 [] (.done)))))))))))))) (by kernel_rfl) ?_
    refine q_move rfl rfl rfl rfl ?_
    refine q_move rfl rfl rfl rfl ?_
    refine q_nil_p rfl rfl rfl rfl ?_
    refine q_field (k := 6) rfl rfl rfl rfl Try.underlying113 rfl Try.sizeOf22 rfl ?_
    refine q_load_c (j := 6) rfl rfl rfl rfl Try.isAgg22 Tk (by first | rfl | exact (Nat.add_zero _).symm) (by rfl) ?_
    refine l_buildSlice rfl rfl rfl rfl (run_build1 (us := [_]) Try.underlying22 Try.sizeOf3 rfl Try.zeroValue3 rfl rfl rfl) ?_
    intro b87
    refine ag_nil ?_
    refine l_append (sz := 1) (enc := encZ) (xs := (List.replicate m (-1 : Int))) rfl rfl rfl rfl rfl Try.underlying22 Try.typeInfo3 rfl rfl rfl (by decide) Tk Tk (by first | rfl | omega | (simp; done) | (simp; omega)) (ys := [(-1)]) (rds_some rdn_cells) (by rfl) (by first | rfl | omega) (encZ_len) (encZ_one) (by omega) (by show _ * 8 ≤ _; omega) ?_
    intro ao88 cp88
    refine ag_nil ?_
    refine q_nil_p rfl rfl rfl rfl ?_
    refine q_field (k := 6) rfl rfl rfl rfl Try.underlying113 rfl Try.sizeOf22 rfl ?_
    refine l_store (j := 6) rfl rfl rfl rfl Try.sizeOf22 (us := [_]) rfl rfl rfl Tk (by first | rfl | exact (Nat.add_zero _).symm) (by first | decide | (simp; done) | omega) ?_
    simp only [setL, List.set]
    refine ag_nil ?_
    refine r_done ?_
    refine s_keep [1, 5, 8] (e' := [(1, _), (5, _), (8, _)]) rfl ?_
    refine k_blk_n ?_
    refine k_then_n ?_
    refine c_plain (.q 0 (.q 1 (.q 2 (.done)))) (by kernel_rfl) ?_
    refine q_move rfl rfl rfl rfl ?_
    refine q_int rfl rfl rfl rfl rfl (b_add' _ (by exact fits_i64 (by omega) (by omega))) ?_
    refine q_assign rfl rfl rfl rfl ?_
    refine r_done ?_
    refine k_then_n ?_
    rw [← List.replicate_succ']
    refine loop_next (x := (m, am, cm)) ((m + 1, ao88, cp88)) ?_ ?_ ?_ ?_
    · try dsimp only
      exact ⟨by omega, trivial⟩
    · show lk.toNat - (m + 1) < lk.toNat - m; omega
    · exact ⟨rfl, rfl, rfl, trivial⟩
    · (try simp only [List.cons_append, List.nil_append]); exact Tf
   ·
    refine c_exit ?_
    refine k_then_exit ?_
    refine k_then_exit ?_
    refine k_blk_here ?_
    refine k_then_n ?_
    refine c_seq ?_
    refine c_plain (.q 0 (.q 1 (.q 2 (.done)))) (by kernel_rfl) ?_
    refine q_move rfl rfl rfl rfl ?_
    refine q_assign rfl rfl rfl rfl ?_
    refine q_assign rfl rfl rfl rfl ?_
    refine r_done ?_
    refine s_keep [2, 3] (e' := [(2, _), (3, _)]) rfl ?_
    refine k_then_n ?_
    refine c_ret ?_
    obtain rfl : i = n := by omega
    obtain rfl : j = th.toNat := hj0
    obtain rfl : m = lk.toNat := by omega
    subst hn
    rw [List.take_length]
    refine rk_fold (b := b16) (newF th va vo lk pl) (pa := ai) (pc := ci) (ta := aj) (tc := cj) (oa := am) (oc := cm) (ba := bi) (bc := di) Ts (by rfl) (by simp [newF]) (by simp [newF]) (by simp [newF]) ?_
    refine ret2 rfl rfl rfl ((b16, ai, ci)) (by first | rfl | (first | rfl | (congr 1; done) | (congr 1 <;> first | rfl | omega | (simp; done) | (simp; omega)))) (by trivial) ?_
    exact Tf
end Go.Ab.Fe
set_option linter.unusedVariables false
set_option linter.unusedSimpArgs false
namespace Go.Ab.Ord
open Go Go.Ab
def edgeB (es : List Ev) (R : Nat → Int) (i j : Nat) : Bool := decide (i < j) && match es[i]?, es[j]? with | some a, some b => decide (ruleE a b (R i) (R j)) | _, _ => false
section
variable {es : List Ev} {R : Nat → Int} {i j k n : Nat}
theorem edgeB_iff : edgeB es R i j = true ↔ edge es R i j := by
  unfold edgeB edge
  cases ha : es[i]? with
  | none => simp
  | some a => cases hb : es[j]? with
    | none => simp
    | some b => simp
theorem edgeB_at {a b : Ev} (ha : es[i]? = some a) (hb : es[j]? = some b) (h : i < j) : edgeB es R i j = decide (ruleE a b (R i) (R j)) := by
  unfold edgeB; rw [ha, hb]; simp [h]
def hbN (es : List Ev) (R : Nat → Int) : Nat → Nat → Nat → Bool
  | 0, _, _ => false
  | f + 1, i, j => edgeB es R i j || (List.range j).any (fun m => edgeB es R i m && hbN es R f m j)
theorem hbN_hb : ∀ {f i}, hbN es R f i j = true → HB es R i j
  | 0, i, h => by cases h
  | f + 1, i, h => by
    unfold hbN at h
    rw [Bool.or_eq_true, List.any_eq_true] at h
    rcases h with h | ⟨m, _, h⟩
    · exact .one (edgeB_iff.1 h)
    · rw [Bool.and_eq_true] at h
      exact .more (edgeB_iff.1 h.1) (hbN_hb h.2)
theorem hb_hbN (h : HB es R i j) : ∀ f, j ≤ i + f → hbN es R f i j = true := by
  induction h with
  | one h =>
    intro f hf
    have := h.1
    cases f with
    | zero => omega
    | succ f => unfold hbN; rw [edgeB_iff.2 h]; rfl
  | @more i m j h h2 ih =>
    intro f hf
    have h3 := h.1
    have h4 := h2.lt
    cases f with
    | zero => omega
    | succ f =>
      unfold hbN
      rw [Bool.or_eq_true, List.any_eq_true]
      exact .inr ⟨m, List.mem_range.2 h4, by rw [edgeB_iff.2 h, ih f (by omega)]; rfl⟩
/-- Does event i happen before event j? -/
def hbF (es : List Ev) (R : Nat → Int) (i j : Nat) : Bool := hbN es R es.length i j
theorem hbF_iff : hbF es R i j = true ↔ HB es R i j := ⟨hbN_hb, fun h => hb_hbN h _ (by have := h.bound; omega)⟩
theorem hbF_lt (h : ¬ i < j) : hbF es R i j = false := by
  cases e : hbF es R i j with
  | false => rfl
  | true => exact absurd (hbF_iff.1 e).lt h
/-- The row of event i, the events up to j taken in. -/
def rowF (es : List Ev) (R : Nat → Int) (i j q : Nat) : Bool := (List.range j).any (fun m => edgeB es R i m && (decide (q = m) || hbF es R m q))
theorem rowF_iff {q : Nat} : rowF es R i j q = true ↔ ∃ m, m < j ∧ edge es R i m ∧ (q = m ∨ HB es R m q) := by
  unfold rowF
  rw [List.any_eq_true]
  constructor
  · rintro ⟨m, h1, h2⟩
    rw [Bool.and_eq_true, Bool.or_eq_true, decide_eq_true_eq, hbF_iff, edgeB_iff] at h2
    exact ⟨m, List.mem_range.1 h1, h2⟩
  · rintro ⟨m, h1, h2⟩
    exact ⟨m, List.mem_range.2 h1, by rw [Bool.and_eq_true, Bool.or_eq_true, decide_eq_true_eq, hbF_iff, edgeB_iff]; exact h2⟩
theorem rowF_start {q : Nat} : rowF es R i (i + 1) q = false := by
  cases e : rowF es R i (i + 1) q with
  | false => rfl
  | true => obtain ⟨m, h1, h2, _⟩ := rowF_iff.1 e; have := h2.1; omega
theorem rowF_end (h : es.length ≤ n) {q : Nat} : rowF es R i n q = hbF es R i q := by
  rw [Bool.eq_iff_iff, rowF_iff, hbF_iff, HB.first]
  constructor
  · rintro ⟨m, _, h1, h2⟩; exact ⟨m, h1, h2.imp Eq.symm id⟩
  · rintro ⟨m, h1, h2⟩
    refine ⟨m, ?_, h1, h2.imp Eq.symm id⟩
    have := (HB.bound (HB.one h1)).2; omega
theorem rowF_next {q : Nat} : rowF es R i (j + 1) q = (rowF es R i j q || (edgeB es R i j && (decide (q = j) || hbF es R j q))) := by
  unfold rowF; rw [List.range_succ, List.any_append]; simp
theorem rowF_skip (h : rowF es R i j j = true ∨ edgeB es R i j = false) {q : Nat} : rowF es R i (j + 1) q = rowF es R i j q := by
  rw [rowF_next]
  cases e : edgeB es R i j && (decide (q = j) || hbF es R j q) with
  | false => rw [Bool.or_false]
  | true =>
    rw [Bool.or_true]
    rw [Bool.and_eq_true, Bool.or_eq_true, decide_eq_true_eq, hbF_iff] at e
    rcases h with h | h
    · symm
      rw [rowF_iff] at h ⊢
      obtain ⟨m, h1, h2, h3⟩ := h
      refine ⟨m, h1, h2, ?_⟩
      rcases h3 with rfl | h3
      · omega
      · rcases e.2 with rfl | e
        · exact .inr h3
        · exact .inr (h3.trans e)
    · rw [h] at e; cases e.1
theorem rowF_add (h : edgeB es R i j = true) {q : Nat} (hq : j < q) : rowF es R i (j + 1) q = (rowF es R i j q || hbF es R j q) := by
  rw [rowF_next, h, decide_eq_false (by omega)]; simp
theorem rowF_at (h : edgeB es R i j = true) : rowF es R i (j + 1) j = true := by
  rw [rowF_next, h, decide_eq_true rfl]; simp
theorem rowF_lo (h : j ≤ i ∨ True) {q : Nat} (hq : q < j) : rowF es R i (j + 1) q = rowF es R i j q := by
  rw [rowF_next, decide_eq_false (by omega), hbF_lt (by omega)]; simp
end
section
variable {α : Type} {w0 : World} {ds : List Deferred} {n : Nat} {e : Env} {Γ : List HProp} {X : Act → World → Prop}
theorem s_big_rep {sz : Nat} {enc : α → List Value} (m : Nat) (k : Le (St w0 ds n e (bigS (owA sz enc) (List.replicate m ((none, 0, []) : LstA α)) :: Γ)) X) : Le (St w0 ds n e Γ) X := by
  induction m with
  | zero => exact s_big_nil k
  | succ m ih =>
    refine ih ?_
    refine s_heap (fun _ h => own_nil (sz := sz) (enc := enc) h) ?_
    refine s_heap (fun h s => big_push (f := owA sz enc) (x := ((none, 0, []) : LstA α)) (Sat.swap s)) ?_
    rw [← List.replicate_succ']; exact k
end
end Go.Ab.Ord
set_option linter.unusedVariables false
set_option linter.unusedSimpArgs false
set_option maxRecDepth 100000
namespace Go.Ab.Ord
open Go Go.Proofs Go.Ab Go.Ab.Fe
def encB (x : Bool) : List Value := [.bool x]
theorem encB_len : ∀ x, (encB x).length = 1 := fun _ => rfl
abbrev RowB := LstA Bool
def rf (rs : List Int) (k : Nat) : Int := rs.getD k 0
/-- An order at b: its events, its rounds, who happens before whom. -/
def ordR (b : Nat) (es : List T3) (rs : List Int) : HProp := fun h => ∃ ea ec ra rc ba bc G, G.length = es.length ∧ (∀ (q : Nat) (x : RowB), G[q]? = some x → x.2.2 = mks (hbF es (rf rs) q) es.length) ∧
  Sat [cells b 0 [.slice ea es.length ec, .slice ra es.length rc, .slice ba es.length bc], own 3 enc3 ea ec es, own 1 encZ ra rc rs, own 1 encH ba bc G, bigS (owA 1 encB) G] h
section
variable {w0 : World} {ds : List Deferred} {n : Nat} {e : Env} {Γ Γ' : List HProp} {X : Act → World → Prop}
theorem ord_open {b : Nat} {es : List T3} {rs : List Int} (k : ∀ ea ec ra rc ba bc G, G.length = es.length → (∀ (q : Nat) (x : RowB), G[q]? = some x → x.2.2 = mks (hbF es (rf rs) q) es.length) →
    Le (St w0 ds n e (cells b 0 [.slice ea es.length ec, .slice ra es.length rc, .slice ba es.length bc] :: own 3 enc3 ea ec es :: own 1 encZ ra rc rs :: own 1 encH ba bc G :: bigS (owA 1 encB) G :: Γ)) X) : Le (St w0 ds n e (ordR b es rs :: Γ)) X := fun a w s => by
  obtain ⟨h1, l1, ⟨ea, ec, ra, rc, ba, bc, G, hG, hq, a1⟩, s1⟩ := s.heap
  exact k ea ec ra rc ba bc G hG hq a w ⟨s.defers, s.size, s.env, Bun.unfold ⟨h1, l1, a1, s1⟩, s.amb⟩
theorem ord_fold {b : Nat} {es : List T3} {rs : List Int} {ea ra ba : Option Addr} {ec rc bc n1 n2 n3 : Nat} {G : List RowB}
    (tk : Takes Γ [cells b 0 [.slice ea n1 ec, .slice ra n2 rc, .slice ba n3 bc], own 3 enc3 ea ec es, own 1 encZ ra rc rs, own 1 encH ba bc G, bigS (owA 1 encB) G] Γ') (h1 : n1 = es.length) (h2 : n2 = es.length) (h3 : n3 = es.length) (hG : G.length = es.length)
    (hq : ∀ (q : Nat) (x : RowB), G[q]? = some x → x.2.2 = mks (hbF es (rf rs) q) es.length) (k : Le (St w0 ds n e (ordR b es rs :: Γ')) X) : Le (St w0 ds n e Γ) X := s_heap (fun h s => by
  subst h1 h2 h3
  obtain ⟨h1, l1, a1, s1⟩ := Bun.fold (tk h s)
  exact ⟨h1, l1, ⟨ea, ec, ra, rc, ba, bc, G, hG, hq, a1⟩, s1⟩) k
end
/-- Why an event is directly before another one. -/
def whyC (a b : T3) (ra rb : Int) : Int :=
  if a.2.1 = b.2.1 then 1 else if a.1 = 6 ∧ b.1 = 5 ∧ a.2.2 = b.2.2 then 2 else if a.1 = 4 ∧ b.1 = 3 ∧ a.2.2 = b.2.2 then 3 else if a.1 = 7 ∧ a.2.2 = b.2.1 then 4 else if b.1 = 8 ∧ b.2.2 = a.2.1 then 5 else if a.1 = 9 ∧ b.1 = 10 ∧ a.2.2 = b.2.2 ∧ ra = rb then 6 else 0
theorem whyC_zero {a b : T3} {ra rb : Int} : whyC a b ra rb = 0 ↔ ¬ ruleE a b ra rb := by
  unfold whyC ruleE
  constructor
  · intro h
    repeat (split at h; · exact absurd h (by decide))
    rintro (h1 | h1 | h1 | h1 | h1 | h1) <;> contradiction
  · intro h
    rw [if_neg (fun q => h (.inl q)), if_neg (fun q => h (.inr (.inl q))), if_neg (fun q => h (.inr (.inr (.inl q)))), if_neg (fun q => h (.inr (.inr (.inr (.inl q))))), if_neg (fun q => h (.inr (.inr (.inr (.inr (.inl q)))))), if_neg (fun q => h (.inr (.inr (.inr (.inr (.inr q))))))]
theorem rf_at {rs : List Int} {i : Nat} {r : Int} (h : rs[i]? = some r) : rf rs i = r := getD_some h
theorem mks_ext {α : Type} {f g : Nat → α} {n : Nat} (h : ∀ q, q < n → f q = g q) : mks f n = mks g n := by
  unfold mks
  exact List.map_congr_left fun q hq => h q (List.mem_range.1 hq)
theorem mks_set {α : Type} {f : Nat → α} {n j : Nat} {v : α} (h : j < n) : (mks f n).set j v = mks (fun q => if q = j then v else f q) n := by
  refine mks_of (by rw [List.length_set, mks_len]) fun q hq => ?_
  by_cases e : q = j
  · subst e; rw [List.getElem?_set_self (by rw [mks_len]; exact h), if_pos rfl]
  · rw [List.getElem?_set_ne (Ne.symm e), mks_get f hq, if_neg e]
theorem rep_mks {α : Type} {f : Nat → α} {n : Nat} {v : α} (h : ∀ q, q < n → f q = v) : List.replicate n v = mks f n := by
  refine mks_of List.length_replicate fun q hq => ?_
  rw [List.getElem?_replicate, if_pos hq, h q hq]
/-- A row, the events up to k of event j's taken in. -/
def midF (es : List T3) (R : Nat → Int) (i j k q : Nat) : Bool := if q < k then rowF es R i (j + 1) q else rowF es R i j q
theorem mid_start {es : List T3} {R : Nat → Int} {i j n : Nat} (h : edgeB es R i j = true) (hj : j < n) : (mks (rowF es R i j) n).set j true = mks (midF es R i j (j + 1)) n := by
  rw [mks_set hj]
  refine mks_ext fun q hq => ?_
  unfold midF
  by_cases e : q = j
  · subst e; rw [if_pos rfl, if_pos (Nat.lt_succ_self _), rowF_at h]
  · rw [if_neg e]
    split
    · rw [rowF_lo (.inr trivial) (by omega)]
    · rfl
theorem mid_next {es : List T3} {R : Nat → Int} {i j n k : Nat} (h : edgeB es R i j = true) (hk : j < k) (hn : k < n) : (mks (midF es R i j k) n).set k (rowF es R i j k || hbF es R j k) = mks (midF es R i j (k + 1)) n := by
  rw [mks_set hn]
  refine mks_ext fun q hq => ?_
  unfold midF
  by_cases e : q = k
  · subst e; rw [if_pos rfl, if_pos (Nat.lt_succ_self _), rowF_add h hk]
  · rw [if_neg e]
    split
    · rw [if_pos (by omega)]
    · rw [if_neg (by omega)]
theorem mid_at {es : List T3} {R : Nat → Int} {i j k : Nat} : midF es R i j k k = rowF es R i j k := if_neg (Nat.lt_irrefl _)
theorem mid_end {es : List T3} {R : Nat → Int} {i j n : Nat} : mks (midF es R i j n) n = mks (rowF es R i (j + 1)) n := mks_ext fun q hq => if_pos hq
theorem olen_spec (b n ec : Nat) (ea : Option Addr) (v1 v2 : Value) : Spec Try.prog 56 [.pointer (some ⟨b, 0, none⟩)] [cells b 0 [.slice ea n ec, v1, v2]] (fun (_ : Unit) => .int .i64 ((n : Nat) : Int)) (fun _ => True) (fun _ => [cells b 0 [.slice ea n ec, v1, v2]]) := by
 refine spec_mk (n := 10) Try.func56 rfl rfl rfl ?_
 intro Γ w0
 simp only [argE, List.cons_append, List.nil_append, Nat.zero_add, Nat.reduceAdd]
 refine c_seq ?_
 refine c_plain (.q 0 (.done)) (by kernel_rfl) ?_
 refine q_assign rfl rfl rfl rfl ?_
 refine r_done ?_
 refine k_then_n ?_
 refine c_seq ?_
 refine c_seq ?_
 refine c_plain (.q 0 (.q 1 (.done))) (by kernel_rfl) ?_
 refine q_move rfl rfl rfl rfl ?_
 refine q_eq_nil rfl rfl rfl rfl Try.underlying27 ?_
 refine s_eq 4 rfl (v' := .bool false) rfl ?_
 refine r_done ?_
 refine k_then_n ?_
 refine c_cond_f rfl ?_
 refine c_skip ?_
 refine k_then_n ?_
 refine c_seq ?_
 refine c_plain (.q 0 (.q 1 (.q 2 (.q 3 (.q 4 (.q 5 (.done))))))) (by kernel_rfl) ?_
 refine q_move rfl rfl rfl rfl ?_
 refine q_nil_p rfl rfl rfl rfl ?_
 refine q_field (k := 0) rfl rfl rfl rfl Try.underlying71 rfl Try.sizeOf25 rfl ?_
 refine q_load_c (j := 0) rfl rfl rfl rfl Try.isAgg25 Tk (by first | rfl | exact (Nat.add_zero _).symm) (by rfl) ?_
 refine q_len rfl rfl rfl rfl Try.underlying25 ?_
 refine q_assign rfl rfl rfl rfl ?_
 refine r_done ?_
 refine s_keep [2] (e' := [(2, _)]) rfl ?_
 refine k_then_n ?_
 refine c_ret ?_
 refine ret1 rfl rfl (()) (by first | rfl | (first | rfl | (congr 1; done) | (congr 1 <;> first | rfl | omega | (simp; done) | (simp; omega)))) (by trivial) ?_
 exact Tf
theorem ois_spec (b n ec : Nat) (ea : Option Addr) (v1 v2 : Value) (z : Int) : Spec Try.prog 40 [.pointer (some ⟨b, 0, none⟩), .int .i64 z] [cells b 0 [.slice ea n ec, v1, v2]] (fun (_ : Unit) => .bool (decide (0 ≤ z ∧ z < (n : Int)))) (fun _ => True) (fun _ => [cells b 0 [.slice ea n ec, v1, v2]]) := by
 refine spec_mk (n := 13) Try.func40 rfl rfl rfl ?_
 intro Γ w0
 simp only [argE, List.cons_append, List.nil_append, Nat.zero_add, Nat.reduceAdd]
 refine c_seq ?_
 refine c_plain (.q 0 (.done)) (by kernel_rfl) ?_
 refine q_assign rfl rfl rfl rfl ?_
 refine r_done ?_
 refine k_then_n ?_
 refine c_seq ?_
 refine c_plain (.q 0 (.q 1 (.q 2 (.q 3 (.q 4 ((.l 5 [] (.q 6 (.q 7 (.q 8 (.done))))))))))) (by kernel_rfl) ?_
 refine q_move rfl rfl rfl rfl ?_
 refine q_int rfl rfl rfl rfl rfl (b_geq _ _ _ _) ?_
 refine q_move rfl rfl rfl rfl ?_
 refine s_bool_p 7 rfl (fun hz => ?_) (fun hz => ?_)
 ·
  refine q_move rfl rfl rfl rfl ?_
  refine q_move rfl rfl rfl rfl ?_
  have sp_1 := olen_spec b n ec ea v1 v2
  refine l_call rfl rfl rfl rfl rfl rfl Try.call56 (sp_1) Ts ?_
  rintro ⟨⟩ -
  try simp only [List.cons_append, List.nil_append]
  refine ag_nil ?_
  refine q_int rfl rfl rfl rfl rfl (b_lss _ _ _ _) ?_
  refine q_pick_t rfl rfl rfl rfl rfl ?_
  refine q_assign rfl rfl rfl rfl ?_
  refine r_done ?_
  refine s_keep [4] (e' := [(4, _)]) rfl ?_
  refine k_then_n ?_
  refine c_ret ?_
  refine ret1 rfl rfl (()) (by congr 1; first | (rw [decide_eq_decide]; omega) | (symm; rw [decide_eq_false_iff_not]; omega)) (by trivial) ?_
  exact Tf
 ·
  refine q_skip rfl rfl rfl rfl ?_
  refine q_skip rfl rfl rfl rfl ?_
  refine l_skip rfl rfl rfl rfl ?_
  refine q_skip rfl rfl rfl rfl ?_
  refine q_pick_f rfl rfl rfl rfl rfl ?_
  refine q_assign rfl rfl rfl rfl ?_
  refine r_done ?_
  refine s_keep [4] (e' := [(4, _)]) rfl ?_
  refine k_then_n ?_
  refine c_ret ?_
  refine ret1 rfl rfl (()) (by congr 1; first | (rw [decide_eq_decide]; omega) | (symm; rw [decide_eq_false_iff_not]; omega)) (by trivial) ?_
  exact Tf
theorem owhy_spec (b n ec rc : Nat) (ea ra : Option Addr) (v2 : Value) (es : List T3) (rs : List Int) (hn : es.length = n) (hr : rs.length = n) (hb : n ≤ 4000000) (i j : Nat) (hij : i < j) (hj : j < n) (x y : T3) (p q : Int) (hx : es[i]? = some x) (hy : es[j]? = some y) (hp : rs[i]? = some p) (hq : rs[j]? = some q) : Spec Try.prog 54 [.pointer (some ⟨b, 0, none⟩), .int .i64 ((i : Nat) : Int), .int .i64 ((j : Nat) : Int)] [cells b 0 [.slice ea n ec, .slice ra n rc, v2], own 3 enc3 ea ec es, own 1 encZ ra rc rs] (fun (_ : Unit) => .int .i64 (whyC x y p q)) (fun _ => True) (fun _ => [cells b 0 [.slice ea n ec, .slice ra n rc, v2], own 3 enc3 ea ec es, own 1 encZ ra rc rs]) := by
 refine spec_mk (n := 131) Try.func54 rfl rfl rfl ?_
 intro Γ w0
 simp only [argE, List.cons_append, List.nil_append, Nat.zero_add, Nat.reduceAdd]
 refine c_seq ?_
 refine c_plain (.q 0 (.done)) (by kernel_rfl) ?_
 refine q_assign rfl rfl rfl rfl ?_
 refine r_done ?_
 refine k_then_n ?_
 refine c_seq ?_
 refine c_seq ?_
 refine c_plain (.q 0 (.q 1 ((.l 2 [] (.q 3 (.q 4 (.q 5 (.q 6 ((.l 7 [] (.q 8 (.q 9 (.q 10 (.q 11 (.q 12 (.q 13 (.q 14 (.done)))))))))))))))))) (by kernel_rfl) ?_
 refine q_move rfl rfl rfl rfl ?_
 refine q_move rfl rfl rfl rfl ?_
 have sp_1 := ois_spec b n ec ea (.slice ra n rc) v2 ((i : Nat) : Int)
 refine l_call rfl rfl rfl rfl rfl rfl Try.call40 (sp_1) Ts ?_
 rintro ⟨⟩ -
 try simp only [List.cons_append, List.nil_append]
 refine ag_nil ?_
 refine q_not rfl rfl rfl rfl ?_
 refine q_move rfl rfl rfl rfl ?_
 refine s_bool_np 13 rfl (fun hg => by exfalso; omega) (fun hg => ?_)
 refine q_move rfl rfl rfl rfl ?_
 refine q_move rfl rfl rfl rfl ?_
 have sp_2 := ois_spec b n ec ea (.slice ra n rc) v2 ((j : Nat) : Int)
 refine l_call rfl rfl rfl rfl rfl rfl Try.call40 (sp_2) Ts ?_
 rintro ⟨⟩ -
 try simp only [List.cons_append, List.nil_append]
 refine ag_nil ?_
 refine q_not rfl rfl rfl rfl ?_
 refine q_pick_f rfl rfl rfl rfl rfl ?_
 refine q_move rfl rfl rfl rfl ?_
 refine s_bool_np 19 rfl (fun hg => by exfalso; omega) (fun hg => ?_)
 refine q_move rfl rfl rfl rfl ?_
 refine q_move rfl rfl rfl rfl ?_
 refine q_int rfl rfl rfl rfl rfl (b_geq _ _ _ _) ?_
 refine q_pick_f rfl rfl rfl rfl rfl ?_
 refine r_done ?_
 refine s_keep [0, 1, 2, 23] (e' := [(0, _), (1, _), (2, _), (23, _)]) rfl ?_
 refine k_then_n ?_
 refine c_cond_p rfl (fun hg => by exfalso; omega) (fun hg => ?_)
 refine c_skip ?_
 refine k_then_n ?_
 refine c_seq ?_
 refine c_plain (.q 0 (.q 1 (.q 2 (.q 3 (.q 4 (.q 5 (.q 6 ((.l 7 [] ((.l 8 [] (.done)))))))))))) (by kernel_rfl) ?_
 refine q_move rfl rfl rfl rfl ?_
 refine q_nil_p rfl rfl rfl rfl ?_
 refine q_field (k := 0) rfl rfl rfl rfl Try.underlying71 rfl Try.sizeOf25 rfl ?_
 refine q_load_c (j := 0) rfl rfl rfl rfl Try.isAgg25 Tk (by first | rfl | exact (Nat.add_zero _).symm) (by rfl) ?_
 refine q_move rfl rfl rfl rfl ?_
 refine q_idxO (sz := 2) (k := i) (enc := enc3) (xs := es) rfl rfl rfl rfl rfl Try.underlying25 Try.sizeOf40 hx (by first | rfl | omega) (by omega) Tk ?_
 intro ib29 io29 ha29 hl29 hc29
 refine q_loadN_O (j := 0) (k' := i) (us := [_, _, _]) (enc := enc3) (off := io29) rfl rfl rfl rfl Try.isAgg40 Try.sizeOf40 ha29 enc3_len hx Tk (by first | rfl | exact (Nat.add_zero _).symm | omega) (by rfl) rfl ?_
 refine l_alloc rfl rfl rfl Try.zeroValue40 (zs := [.int .i64 0, .int .i64 0, .int .i64 0]) rfl ?_
 intro b7
 refine ag_nil ?_
 refine l_store (j := 0) rfl rfl rfl rfl Try.sizeOf40 (us := [_, _, _]) rfl rfl rfl Tk (by first | rfl | exact (Nat.add_zero _).symm) (by first | decide | (simp; done) | omega) ?_
 simp only [setL, List.set]
 refine ag_nil ?_
 refine r_done ?_
 refine s_keep [0, 1, 2, 7] (e' := [(0, _), (1, _), (2, _), (7, _)]) rfl ?_
 refine k_then_n ?_
 refine c_seq ?_
 refine c_plain (.q 0 (.q 1 (.q 2 (.q 3 (.q 4 (.q 5 (.q 6 ((.l 7 [] ((.l 8 [] (.done)))))))))))) (by kernel_rfl) ?_
 refine q_move rfl rfl rfl rfl ?_
 refine q_nil_p rfl rfl rfl rfl ?_
 refine q_field (k := 0) rfl rfl rfl rfl Try.underlying71 rfl Try.sizeOf25 rfl ?_
 refine q_load_c (j := 0) rfl rfl rfl rfl Try.isAgg25 Tk (by first | rfl | exact (Nat.add_zero _).symm) (by rfl) ?_
 refine q_move rfl rfl rfl rfl ?_
 refine q_idxO (sz := 2) (k := j) (enc := enc3) (xs := es) rfl rfl rfl rfl rfl Try.underlying25 Try.sizeOf40 hy (by first | rfl | omega) (by omega) Tk ?_
 intro ib36 io36 ha36 hl36 hc36
 refine q_loadN_O (j := 0) (k' := j) (us := [_, _, _]) (enc := enc3) (off := io36) rfl rfl rfl rfl Try.isAgg40 Try.sizeOf40 ha36 enc3_len hy Tk (by first | rfl | exact (Nat.add_zero _).symm | omega) (by rfl) rfl ?_
 refine l_alloc rfl rfl rfl Try.zeroValue40 (zs := [.int .i64 0, .int .i64 0, .int .i64 0]) rfl ?_
 intro b8
 refine ag_nil ?_
 refine l_store (j := 0) rfl rfl rfl rfl Try.sizeOf40 (us := [_, _, _]) rfl rfl rfl Tk (by first | rfl | exact (Nat.add_zero _).symm) (by first | decide | (simp; done) | omega) ?_
 simp only [setL, List.set]
 refine ag_nil ?_
 refine r_done ?_
 refine s_keep [0, 1, 2, 7, 8] (e' := [(0, _), (1, _), (2, _), (7, _), (8, _)]) rfl ?_
 refine k_then_n ?_
 refine c_seq ?_
 refine c_block ?_
 refine c_seq ?_
 refine c_plain (.q 0 (.q 1 (.q 2 (.q 3 (.q 4 (.q 5 (.done))))))) (by kernel_rfl) ?_
 refine q_field (k := 1) rfl rfl rfl rfl Try.underlying40 rfl Try.sizeOf3 rfl ?_
 refine q_load_c (j := 1) rfl rfl rfl rfl Try.isAgg3 Tk (by first | rfl | exact (Nat.add_zero _).symm) (by rfl) ?_
 refine q_field (k := 1) rfl rfl rfl rfl Try.underlying40 rfl Try.sizeOf3 rfl ?_
 refine q_load_c (j := 1) rfl rfl rfl rfl Try.isAgg3 Tk (by first | rfl | exact (Nat.add_zero _).symm) (by rfl) ?_
 refine q_int rfl rfl rfl rfl rfl (b_eql _ _ _ _) ?_
 refine q_assign rfl rfl rfl rfl ?_
 refine r_done ?_
 refine s_keep [0, 1, 2, 7, 8, 38] (e' := [(0, _), (1, _), (2, _), (7, _), (8, _), (38, _)]) rfl ?_
 refine k_then_n ?_
 refine c_cond_p rfl (fun w1 => ?_) (fun w1 => ?_)
 ·
  refine c_seq ?_
  refine c_plain (.q 0 (.done)) (by kernel_rfl) ?_
  refine q_assign rfl rfl rfl rfl ?_
  refine r_done ?_
  refine s_keep [6] (e' := [(6, _)]) rfl ?_
  refine k_then_n ?_
  refine c_ret ?_
  refine k_blk_ret ?_
  refine k_then_ret ?_
  refine ret1 rfl rfl (()) (by unfold whyC; rw [if_pos w1]) (by trivial) ?_
  exact Tf
 ·
  refine c_seqJ (α := Unit) (fun (z_ : Unit) => True) (fun (z_ : Unit) => [(44, .bool (decide (x.1 = 6 ∧ y.1 = 5 ∧ x.2.2 = y.2.2)))]) (fun (z_ : Unit) => []) [0, 1, 2, 7, 8] (er := [(0, _), (1, _), (2, _), (7, _), (8, _)]) rfl [] Ts ?_ ?_
  ·
   refine c_plain (.q 0 (.q 1 (.q 2 (.q 3 (.q 4 (.q 5 (.q 6 (.q 7 (.q 8 (.q 9 (.q 10 (.q 11 (.q 12 (.q 13 (.q 14 (.q 15 (.done))))))))))))))))) (by kernel_rfl) ?_
   refine q_field (k := 0) rfl rfl rfl rfl Try.underlying40 rfl Try.sizeOf38 rfl ?_
   refine q_load_c (j := 0) rfl rfl rfl rfl Try.isAgg38 Tk (by first | rfl | exact (Nat.add_zero _).symm) (by rfl) ?_
   refine q_int rfl rfl rfl rfl rfl (b_eql _ _ _ _) ?_
   refine q_move rfl rfl rfl rfl ?_
   refine s_bool_p 48 rfl (fun g_3 => ?_) (fun g_3 => ?_)
   ·
    refine q_field (k := 0) rfl rfl rfl rfl Try.underlying40 rfl Try.sizeOf38 rfl ?_
    refine q_load_c (j := 0) rfl rfl rfl rfl Try.isAgg38 Tk (by first | rfl | exact (Nat.add_zero _).symm) (by rfl) ?_
    refine q_int rfl rfl rfl rfl rfl (b_eql _ _ _ _) ?_
    refine q_pick_t rfl rfl rfl rfl rfl ?_
    refine q_move rfl rfl rfl rfl ?_
    refine s_bool_p 53 rfl (fun g_4 => ?_) (fun g_4 => ?_)
    ·
     refine q_field (k := 2) rfl rfl rfl rfl Try.underlying40 rfl Try.sizeOf3 rfl ?_
     refine q_load_c (j := 2) rfl rfl rfl rfl Try.isAgg3 Tk (by first | rfl | exact (Nat.add_zero _).symm) (by rfl) ?_
     refine q_field (k := 2) rfl rfl rfl rfl Try.underlying40 rfl Try.sizeOf3 rfl ?_
     refine q_load_c (j := 2) rfl rfl rfl rfl Try.isAgg3 Tk (by first | rfl | exact (Nat.add_zero _).symm) (by rfl) ?_
     refine q_int rfl rfl rfl rfl rfl (b_eql _ _ _ _) ?_
     refine q_pick_t rfl rfl rfl rfl rfl ?_
     refine q_assign rfl rfl rfl rfl ?_
     refine r_done ?_
     refine s_keep [0, 1, 2, 7, 8, 44] (e' := [(0, _), (1, _), (2, _), (7, _), (8, _), (44, _)]) rfl ?_
     refine k_then_n ?_
     refine s_eq 44 rfl (v' := .bool (decide (x.1 = 6 ∧ y.1 = 5 ∧ x.2.2 = y.2.2))) (by congr 1; first | (symm; rw [decide_eq_false_iff_not]; omega) | (rw [decide_eq_decide]; omega)) ?_
     refine join_next (()) (by trivial) (by exact ⟨rfl, rfl, rfl, rfl, rfl, rfl, trivial⟩) (by (try simp only [List.cons_append, List.nil_append]); (repeat ((with_reducible apply Z2); focus (first | (with_reducible (repeat (first | exact Z0 | apply Z1)); done) | (repeat (first | exact Z0 | apply Z1))))); (repeat (first | exact Z3 | exact Takes.self | refine takes_drop2 ?_)))
    ·
     refine q_skip rfl rfl rfl rfl ?_
     refine q_skip rfl rfl rfl rfl ?_
     refine q_skip rfl rfl rfl rfl ?_
     refine q_skip rfl rfl rfl rfl ?_
     refine q_skip rfl rfl rfl rfl ?_
     refine q_pick_f rfl rfl rfl rfl rfl ?_
     refine q_assign rfl rfl rfl rfl ?_
     refine r_done ?_
     refine s_keep [0, 1, 2, 7, 8, 44] (e' := [(0, _), (1, _), (2, _), (7, _), (8, _), (44, _)]) rfl ?_
     refine k_then_n ?_
     refine s_eq 44 rfl (v' := .bool (decide (x.1 = 6 ∧ y.1 = 5 ∧ x.2.2 = y.2.2))) (by congr 1; first | (symm; rw [decide_eq_false_iff_not]; omega) | (rw [decide_eq_decide]; omega)) ?_
     refine join_next (()) (by trivial) (by exact ⟨rfl, rfl, rfl, rfl, rfl, rfl, trivial⟩) (by (try simp only [List.cons_append, List.nil_append]); (repeat ((with_reducible apply Z2); focus (first | (with_reducible (repeat (first | exact Z0 | apply Z1)); done) | (repeat (first | exact Z0 | apply Z1))))); (repeat (first | exact Z3 | exact Takes.self | refine takes_drop2 ?_)))
   ·
    refine q_skip rfl rfl rfl rfl ?_
    refine q_skip rfl rfl rfl rfl ?_
    refine q_skip rfl rfl rfl rfl ?_
    refine q_pick_f rfl rfl rfl rfl rfl ?_
    refine q_move rfl rfl rfl rfl ?_
    refine q_skip rfl rfl rfl rfl ?_
    refine q_skip rfl rfl rfl rfl ?_
    refine q_skip rfl rfl rfl rfl ?_
    refine q_skip rfl rfl rfl rfl ?_
    refine q_skip rfl rfl rfl rfl ?_
    refine q_pick_f rfl rfl rfl rfl rfl ?_
    refine q_assign rfl rfl rfl rfl ?_
    refine r_done ?_
    refine s_keep [0, 1, 2, 7, 8, 44] (e' := [(0, _), (1, _), (2, _), (7, _), (8, _), (44, _)]) rfl ?_
    refine k_then_n ?_
    refine s_eq 44 rfl (v' := .bool (decide (x.1 = 6 ∧ y.1 = 5 ∧ x.2.2 = y.2.2))) (by congr 1; first | (symm; rw [decide_eq_false_iff_not]; omega) | (rw [decide_eq_decide]; omega)) ?_
    refine join_next (()) (by trivial) (by exact ⟨rfl, rfl, rfl, rfl, rfl, rfl, trivial⟩) (by (try simp only [List.cons_append, List.nil_append]); (repeat ((with_reducible apply Z2); focus (first | (with_reducible (repeat (first | exact Z0 | apply Z1)); done) | (repeat (first | exact Z0 | apply Z1))))); (repeat (first | exact Z3 | exact Takes.self | refine takes_drop2 ?_)))
  ·
   rintro ⟨⟩ -
   try simp only [List.cons_append, List.nil_append]
   refine c_cond_p rfl (fun w2 => ?_) (fun w2 => ?_)
   ·
    refine c_seq ?_
    refine c_plain (.q 0 (.done)) (by kernel_rfl) ?_
    refine q_assign rfl rfl rfl rfl ?_
    refine r_done ?_
    refine s_keep [6] (e' := [(6, _)]) rfl ?_
    refine k_then_n ?_
    refine c_ret ?_
    refine k_blk_ret ?_
    refine k_then_ret ?_
    refine ret1 rfl rfl (()) (by unfold whyC; rw [if_neg w1, if_pos w2]) (by trivial) ?_
    exact Tf
   ·
    refine c_seqJ (α := Unit) (fun (z_ : Unit) => True) (fun (z_ : Unit) => [(60, .bool (decide (x.1 = 4 ∧ y.1 = 3 ∧ x.2.2 = y.2.2)))]) (fun (z_ : Unit) => []) [0, 1, 2, 7, 8] (er := [(0, _), (1, _), (2, _), (7, _), (8, _)]) rfl [] Ts ?_ ?_
    ·
     refine c_plain (.q 0 (.q 1 (.q 2 (.q 3 (.q 4 (.q 5 (.q 6 (.q 7 (.q 8 (.q 9 (.q 10 (.q 11 (.q 12 (.q 13 (.q 14 (.q 15 (.done))))))))))))))))) (by kernel_rfl) ?_
     refine q_field (k := 0) rfl rfl rfl rfl Try.underlying40 rfl Try.sizeOf38 rfl ?_
     refine q_load_c (j := 0) rfl rfl rfl rfl Try.isAgg38 Tk (by first | rfl | exact (Nat.add_zero _).symm) (by rfl) ?_
     refine q_int rfl rfl rfl rfl rfl (b_eql _ _ _ _) ?_
     refine q_move rfl rfl rfl rfl ?_
     refine s_bool_p 64 rfl (fun g_5 => ?_) (fun g_5 => ?_)
     ·
      refine q_field (k := 0) rfl rfl rfl rfl Try.underlying40 rfl Try.sizeOf38 rfl ?_
      refine q_load_c (j := 0) rfl rfl rfl rfl Try.isAgg38 Tk (by first | rfl | exact (Nat.add_zero _).symm) (by rfl) ?_
      refine q_int rfl rfl rfl rfl rfl (b_eql _ _ _ _) ?_
      refine q_pick_t rfl rfl rfl rfl rfl ?_
      refine q_move rfl rfl rfl rfl ?_
      refine s_bool_p 69 rfl (fun g_6 => ?_) (fun g_6 => ?_)
      ·
       refine q_field (k := 2) rfl rfl rfl rfl Try.underlying40 rfl Try.sizeOf3 rfl ?_
       refine q_load_c (j := 2) rfl rfl rfl rfl Try.isAgg3 Tk (by first | rfl | exact (Nat.add_zero _).symm) (by rfl) ?_
       refine q_field (k := 2) rfl rfl rfl rfl Try.underlying40 rfl Try.sizeOf3 rfl ?_
       refine q_load_c (j := 2) rfl rfl rfl rfl Try.isAgg3 Tk (by first | rfl | exact (Nat.add_zero _).symm) (by rfl) ?_
       refine q_int rfl rfl rfl rfl rfl (b_eql _ _ _ _) ?_
       refine q_pick_t rfl rfl rfl rfl rfl ?_
       refine q_assign rfl rfl rfl rfl ?_
       refine r_done ?_
       refine s_keep [0, 1, 2, 7, 8, 60] (e' := [(0, _), (1, _), (2, _), (7, _), (8, _), (60, _)]) rfl ?_
       refine k_then_n ?_
       refine s_eq 60 rfl (v' := .bool (decide (x.1 = 4 ∧ y.1 = 3 ∧ x.2.2 = y.2.2))) (by congr 1; first | (symm; rw [decide_eq_false_iff_not]; omega) | (rw [decide_eq_decide]; omega)) ?_
       refine join_next (()) (by trivial) (by exact ⟨rfl, rfl, rfl, rfl, rfl, rfl, trivial⟩) (by (try simp only [List.cons_append, List.nil_append]); (repeat ((with_reducible apply Z2); focus (first | (with_reducible (repeat (first | exact Z0 | apply Z1)); done) | (repeat (first | exact Z0 | apply Z1))))); (repeat (first | exact Z3 | exact Takes.self | refine takes_drop2 ?_)))
      ·
       refine q_skip rfl rfl rfl rfl ?_
       refine q_skip rfl rfl rfl rfl ?_
       refine q_skip rfl rfl rfl rfl ?_
       refine q_skip rfl rfl rfl rfl ?_
       refine q_skip rfl rfl rfl rfl ?_
       refine q_pick_f rfl rfl rfl rfl rfl ?_
       refine q_assign rfl rfl rfl rfl ?_
       refine r_done ?_
       refine s_keep [0, 1, 2, 7, 8, 60] (e' := [(0, _), (1, _), (2, _), (7, _), (8, _), (60, _)]) rfl ?_
       refine k_then_n ?_
       refine s_eq 60 rfl (v' := .bool (decide (x.1 = 4 ∧ y.1 = 3 ∧ x.2.2 = y.2.2))) (by congr 1; first | (symm; rw [decide_eq_false_iff_not]; omega) | (rw [decide_eq_decide]; omega)) ?_
       refine join_next (()) (by trivial) (by exact ⟨rfl, rfl, rfl, rfl, rfl, rfl, trivial⟩) (by (try simp only [List.cons_append, List.nil_append]); (repeat ((with_reducible apply Z2); focus (first | (with_reducible (repeat (first | exact Z0 | apply Z1)); done) | (repeat (first | exact Z0 | apply Z1))))); (repeat (first | exact Z3 | exact Takes.self | refine takes_drop2 ?_)))
     ·
      refine q_skip rfl rfl rfl rfl ?_
      refine q_skip rfl rfl rfl rfl ?_
      refine q_skip rfl rfl rfl rfl ?_
      refine q_pick_f rfl rfl rfl rfl rfl ?_
      refine q_move rfl rfl rfl rfl ?_
      refine q_skip rfl rfl rfl rfl ?_
      refine q_skip rfl rfl rfl rfl ?_
      refine q_skip rfl rfl rfl rfl ?_
      refine q_skip rfl rfl rfl rfl ?_
      refine q_skip rfl rfl rfl rfl ?_
      refine q_pick_f rfl rfl rfl rfl rfl ?_
      refine q_assign rfl rfl rfl rfl ?_
      refine r_done ?_
      refine s_keep [0, 1, 2, 7, 8, 60] (e' := [(0, _), (1, _), (2, _), (7, _), (8, _), (60, _)]) rfl ?_
      refine k_then_n ?_
      refine s_eq 60 rfl (v' := .bool (decide (x.1 = 4 ∧ y.1 = 3 ∧ x.2.2 = y.2.2))) (by congr 1; first | (symm; rw [decide_eq_false_iff_not]; omega) | (rw [decide_eq_decide]; omega)) ?_
      refine join_next (()) (by trivial) (by exact ⟨rfl, rfl, rfl, rfl, rfl, rfl, trivial⟩) (by (try simp only [List.cons_append, List.nil_append]); (repeat ((with_reducible apply Z2); focus (first | (with_reducible (repeat (first | exact Z0 | apply Z1)); done) | (repeat (first | exact Z0 | apply Z1))))); (repeat (first | exact Z3 | exact Takes.self | refine takes_drop2 ?_)))
    ·
     rintro ⟨⟩ -
     try simp only [List.cons_append, List.nil_append]
     refine c_cond_p rfl (fun w3 => ?_) (fun w3 => ?_)
     ·
      refine c_seq ?_
      refine c_plain (.q 0 (.done)) (by kernel_rfl) ?_
      refine q_assign rfl rfl rfl rfl ?_
      refine r_done ?_
      refine s_keep [6] (e' := [(6, _)]) rfl ?_
      refine k_then_n ?_
      refine c_ret ?_
      refine k_blk_ret ?_
      refine k_then_ret ?_
      refine ret1 rfl rfl (()) (by unfold whyC; rw [if_neg w1, if_neg w2, if_pos w3]) (by trivial) ?_
      exact Tf
     ·
      refine c_seqJ (α := Unit) (fun (z_ : Unit) => True) (fun (z_ : Unit) => [(76, .bool (decide (x.1 = 7 ∧ x.2.2 = y.2.1)))]) (fun (z_ : Unit) => []) [0, 1, 2, 7, 8] (er := [(0, _), (1, _), (2, _), (7, _), (8, _)]) rfl [] Ts ?_ ?_
      ·
       refine c_plain (.q 0 (.q 1 (.q 2 (.q 3 (.q 4 (.q 5 (.q 6 (.q 7 (.q 8 (.q 9 (.q 10 (.done)))))))))))) (by kernel_rfl) ?_
       refine q_field (k := 0) rfl rfl rfl rfl Try.underlying40 rfl Try.sizeOf38 rfl ?_
       refine q_load_c (j := 0) rfl rfl rfl rfl Try.isAgg38 Tk (by first | rfl | exact (Nat.add_zero _).symm) (by rfl) ?_
       refine q_int rfl rfl rfl rfl rfl (b_eql _ _ _ _) ?_
       refine q_move rfl rfl rfl rfl ?_
       refine s_bool_p 80 rfl (fun g_7 => ?_) (fun g_7 => ?_)
       ·
        refine q_field (k := 2) rfl rfl rfl rfl Try.underlying40 rfl Try.sizeOf3 rfl ?_
        refine q_load_c (j := 2) rfl rfl rfl rfl Try.isAgg3 Tk (by first | rfl | exact (Nat.add_zero _).symm) (by rfl) ?_
        refine q_field (k := 1) rfl rfl rfl rfl Try.underlying40 rfl Try.sizeOf3 rfl ?_
        refine q_load_c (j := 1) rfl rfl rfl rfl Try.isAgg3 Tk (by first | rfl | exact (Nat.add_zero _).symm) (by rfl) ?_
        refine q_int rfl rfl rfl rfl rfl (b_eql _ _ _ _) ?_
        refine q_pick_t rfl rfl rfl rfl rfl ?_
        refine q_assign rfl rfl rfl rfl ?_
        refine r_done ?_
        refine s_keep [0, 1, 2, 7, 8, 76] (e' := [(0, _), (1, _), (2, _), (7, _), (8, _), (76, _)]) rfl ?_
        refine k_then_n ?_
        refine s_eq 76 rfl (v' := .bool (decide (x.1 = 7 ∧ x.2.2 = y.2.1))) (by congr 1; first | (symm; rw [decide_eq_false_iff_not]; omega) | (rw [decide_eq_decide]; omega)) ?_
        refine join_next (()) (by trivial) (by exact ⟨rfl, rfl, rfl, rfl, rfl, rfl, trivial⟩) (by (try simp only [List.cons_append, List.nil_append]); (repeat ((with_reducible apply Z2); focus (first | (with_reducible (repeat (first | exact Z0 | apply Z1)); done) | (repeat (first | exact Z0 | apply Z1))))); (repeat (first | exact Z3 | exact Takes.self | refine takes_drop2 ?_)))
       ·
        refine q_skip rfl rfl rfl rfl ?_
        refine q_skip rfl rfl rfl rfl ?_
        refine q_skip rfl rfl rfl rfl ?_
        refine q_skip rfl rfl rfl rfl ?_
        refine q_skip rfl rfl rfl rfl ?_
        refine q_pick_f rfl rfl rfl rfl rfl ?_
        refine q_assign rfl rfl rfl rfl ?_
        refine r_done ?_
        refine s_keep [0, 1, 2, 7, 8, 76] (e' := [(0, _), (1, _), (2, _), (7, _), (8, _), (76, _)]) rfl ?_
        refine k_then_n ?_
        refine s_eq 76 rfl (v' := .bool (decide (x.1 = 7 ∧ x.2.2 = y.2.1))) (by congr 1; first | (symm; rw [decide_eq_false_iff_not]; omega) | (rw [decide_eq_decide]; omega)) ?_
        refine join_next (()) (by trivial) (by exact ⟨rfl, rfl, rfl, rfl, rfl, rfl, trivial⟩) (by (try simp only [List.cons_append, List.nil_append]); (repeat ((with_reducible apply Z2); focus (first | (with_reducible (repeat (first | exact Z0 | apply Z1)); done) | (repeat (first | exact Z0 | apply Z1))))); (repeat (first | exact Z3 | exact Takes.self | refine takes_drop2 ?_)))
      ·
       rintro ⟨⟩ -
       try simp only [List.cons_append, List.nil_append]
       refine c_cond_p rfl (fun w4 => ?_) (fun w4 => ?_)
       ·
        refine c_seq ?_
        refine c_plain (.q 0 (.done)) (by kernel_rfl) ?_
        refine q_assign rfl rfl rfl rfl ?_
        refine r_done ?_
        refine s_keep [6] (e' := [(6, _)]) rfl ?_
        refine k_then_n ?_
        refine c_ret ?_
        refine k_blk_ret ?_
        refine k_then_ret ?_
        refine ret1 rfl rfl (()) (by unfold whyC; rw [if_neg w1, if_neg w2, if_neg w3, if_pos w4]) (by trivial) ?_
        exact Tf
       ·
        refine c_seqJ (α := Unit) (fun (z_ : Unit) => True) (fun (z_ : Unit) => [(87, .bool (decide (y.1 = 8 ∧ y.2.2 = x.2.1)))]) (fun (z_ : Unit) => []) [0, 1, 2, 7, 8] (er := [(0, _), (1, _), (2, _), (7, _), (8, _)]) rfl [] Ts ?_ ?_
        ·
         refine c_plain (.q 0 (.q 1 (.q 2 (.q 3 (.q 4 (.q 5 (.q 6 (.q 7 (.q 8 (.q 9 (.q 10 (.done)))))))))))) (by kernel_rfl) ?_
         refine q_field (k := 0) rfl rfl rfl rfl Try.underlying40 rfl Try.sizeOf38 rfl ?_
         refine q_load_c (j := 0) rfl rfl rfl rfl Try.isAgg38 Tk (by first | rfl | exact (Nat.add_zero _).symm) (by rfl) ?_
         refine q_int rfl rfl rfl rfl rfl (b_eql _ _ _ _) ?_
         refine q_move rfl rfl rfl rfl ?_
         refine s_bool_p 91 rfl (fun g_8 => ?_) (fun g_8 => ?_)
         ·
          refine q_field (k := 2) rfl rfl rfl rfl Try.underlying40 rfl Try.sizeOf3 rfl ?_
          refine q_load_c (j := 2) rfl rfl rfl rfl Try.isAgg3 Tk (by first | rfl | exact (Nat.add_zero _).symm) (by rfl) ?_
          refine q_field (k := 1) rfl rfl rfl rfl Try.underlying40 rfl Try.sizeOf3 rfl ?_
          refine q_load_c (j := 1) rfl rfl rfl rfl Try.isAgg3 Tk (by first | rfl | exact (Nat.add_zero _).symm) (by rfl) ?_
          refine q_int rfl rfl rfl rfl rfl (b_eql _ _ _ _) ?_
          refine q_pick_t rfl rfl rfl rfl rfl ?_
          refine q_assign rfl rfl rfl rfl ?_
          refine r_done ?_
          refine s_keep [0, 1, 2, 7, 8, 87] (e' := [(0, _), (1, _), (2, _), (7, _), (8, _), (87, _)]) rfl ?_
          refine k_then_n ?_
          refine s_eq 87 rfl (v' := .bool (decide (y.1 = 8 ∧ y.2.2 = x.2.1))) (by congr 1; first | (symm; rw [decide_eq_false_iff_not]; omega) | (rw [decide_eq_decide]; omega)) ?_
          refine join_next (()) (by trivial) (by exact ⟨rfl, rfl, rfl, rfl, rfl, rfl, trivial⟩) (by (try simp only [List.cons_append, List.nil_append]); (repeat ((with_reducible apply Z2); focus (first | (with_reducible (repeat (first | exact Z0 | apply Z1)); done) | (repeat (first | exact Z0 | apply Z1))))); (repeat (first | exact Z3 | exact Takes.self | refine takes_drop2 ?_)))
         ·
          refine q_skip rfl rfl rfl rfl ?_
          refine q_skip rfl rfl rfl rfl ?_
          refine q_skip rfl rfl rfl rfl ?_
          refine q_skip rfl rfl rfl rfl ?_
          refine q_skip rfl rfl rfl rfl ?_
          refine q_pick_f rfl rfl rfl rfl rfl ?_
          refine q_assign rfl rfl rfl rfl ?_
          refine r_done ?_
          refine s_keep [0, 1, 2, 7, 8, 87] (e' := [(0, _), (1, _), (2, _), (7, _), (8, _), (87, _)]) rfl ?_
          refine k_then_n ?_
          refine s_eq 87 rfl (v' := .bool (decide (y.1 = 8 ∧ y.2.2 = x.2.1))) (by congr 1; first | (symm; rw [decide_eq_false_iff_not]; omega) | (rw [decide_eq_decide]; omega)) ?_
          refine join_next (()) (by trivial) (by exact ⟨rfl, rfl, rfl, rfl, rfl, rfl, trivial⟩) (by (try simp only [List.cons_append, List.nil_append]); (repeat ((with_reducible apply Z2); focus (first | (with_reducible (repeat (first | exact Z0 | apply Z1)); done) | (repeat (first | exact Z0 | apply Z1))))); (repeat (first | exact Z3 | exact Takes.self | refine takes_drop2 ?_)))
        ·
         rintro ⟨⟩ -
         try simp only [List.cons_append, List.nil_append]
         refine c_cond_p rfl (fun w5 => ?_) (fun w5 => ?_)
         ·
          refine c_seq ?_
          refine c_plain (.q 0 (.done)) (by kernel_rfl) ?_
          refine q_assign rfl rfl rfl rfl ?_
          refine r_done ?_
          refine s_keep [6] (e' := [(6, _)]) rfl ?_
          refine k_then_n ?_
          refine c_ret ?_
          refine k_blk_ret ?_
          refine k_then_ret ?_
          refine ret1 rfl rfl (()) (by unfold whyC; rw [if_neg w1, if_neg w2, if_neg w3, if_neg w4, if_pos w5]) (by trivial) ?_
          exact Tf
         ·
          refine c_seqJ (α := Unit) (fun (z_ : Unit) => True) (fun (z_ : Unit) => [(98, .bool (decide (x.1 = 9 ∧ y.1 = 10 ∧ x.2.2 = y.2.2 ∧ p = q)))]) (fun (z_ : Unit) => []) [] (er := []) rfl [] Ts ?_ ?_
          ·
           refine c_draw rfl (.q 0 (.q 1 (.q 2 (.q 3 (.q 4 (.q 5 (.q 6 (.q 7 (.q 8 (.q 9 (.q 10 (.q 11 (.q 12 (.q 13 (.q 14 (.q 15 (.q 16 (.q 17 (.q 18 (.q 19 (.q 20 (.q 21 (.q 22 (.q 23 (.q 24 (.q 25 (.q 26 (.q 27 (.q 28 (.q 29 (.q 30 (.q 31 (.q 32 (.done)))))))))))))))))))))))))))))))))) (by kernel_rfl) ?_
           refine q_field (k := 0) rfl rfl rfl rfl Try.underlying40 rfl Try.sizeOf38 rfl ?_
           refine q_load_c (j := 0) rfl rfl rfl rfl Try.isAgg38 Tk (by first | rfl | exact (Nat.add_zero _).symm) (by rfl) ?_
           refine q_int rfl rfl rfl rfl rfl (b_eql _ _ _ _) ?_
           refine q_move rfl rfl rfl rfl ?_
           refine s_bool_p 102 rfl (fun g_9 => ?_) (fun g_9 => ?_)
           ·
            refine q_field (k := 0) rfl rfl rfl rfl Try.underlying40 rfl Try.sizeOf38 rfl ?_
            refine q_load_c (j := 0) rfl rfl rfl rfl Try.isAgg38 Tk (by first | rfl | exact (Nat.add_zero _).symm) (by rfl) ?_
            refine q_int rfl rfl rfl rfl rfl (b_eql _ _ _ _) ?_
            refine q_pick_t rfl rfl rfl rfl rfl ?_
            refine q_move rfl rfl rfl rfl ?_
            refine s_bool_p 107 rfl (fun g_10 => ?_) (fun g_10 => ?_)
            ·
             refine q_field (k := 2) rfl rfl rfl rfl Try.underlying40 rfl Try.sizeOf3 rfl ?_
             refine q_load_c (j := 2) rfl rfl rfl rfl Try.isAgg3 Tk (by first | rfl | exact (Nat.add_zero _).symm) (by rfl) ?_
             refine q_field (k := 2) rfl rfl rfl rfl Try.underlying40 rfl Try.sizeOf3 rfl ?_
             refine q_load_c (j := 2) rfl rfl rfl rfl Try.isAgg3 Tk (by first | rfl | exact (Nat.add_zero _).symm) (by rfl) ?_
             refine q_int rfl rfl rfl rfl rfl (b_eql _ _ _ _) ?_
             refine q_pick_t rfl rfl rfl rfl rfl ?_
             refine q_move rfl rfl rfl rfl ?_
             refine s_bool_p 114 rfl (fun g_11 => ?_) (fun g_11 => ?_)
             ·
              refine q_move rfl rfl rfl rfl ?_
              refine q_nil_p rfl rfl rfl rfl ?_
              refine q_field (k := 1) rfl rfl rfl rfl Try.underlying71 rfl Try.sizeOf22 rfl ?_
              refine q_load_c (j := 1) rfl rfl rfl rfl Try.isAgg22 Tk (by first | rfl | exact (Nat.add_zero _).symm) (by rfl) ?_
              refine q_move rfl rfl rfl rfl ?_
              refine q_idxO (sz := 0) (k := i) (enc := encZ) (xs := rs) rfl rfl rfl rfl rfl Try.underlying22 Try.sizeOf3 hp (by first | rfl | omega) (by omega) Tk ?_
              intro ib120 io120 ha120 hl120 hc120
              refine q_load_O (v := (.int .i64 p)) (j := 0) (k' := i) (enc := encZ) (off := io120) rfl rfl rfl rfl Try.isAgg3 ha120 encZ_len hp Tk (by first | rfl | exact (Nat.add_zero _).symm | omega) (by rfl) ?_
              refine q_move rfl rfl rfl rfl ?_
              refine q_nil_p rfl rfl rfl rfl ?_
              refine q_field (k := 1) rfl rfl rfl rfl Try.underlying71 rfl Try.sizeOf22 rfl ?_
              refine q_load_c (j := 1) rfl rfl rfl rfl Try.isAgg22 Tk (by first | rfl | exact (Nat.add_zero _).symm) (by rfl) ?_
              refine q_move rfl rfl rfl rfl ?_
              refine q_idxO (sz := 0) (k := j) (enc := encZ) (xs := rs) rfl rfl rfl rfl rfl Try.underlying22 Try.sizeOf3 hq (by first | rfl | omega) (by omega) Tk ?_
              intro ib127 io127 ha127 hl127 hc127
              refine q_load_O (v := (.int .i64 q)) (j := 0) (k' := j) (enc := encZ) (off := io127) rfl rfl rfl rfl Try.isAgg3 ha127 encZ_len hq Tk (by first | rfl | exact (Nat.add_zero _).symm | omega) (by rfl) ?_
              refine q_int rfl rfl rfl rfl rfl (b_eql _ _ _ _) ?_
              refine q_pick_t rfl rfl rfl rfl rfl ?_
              refine q_assign rfl rfl rfl rfl ?_
              refine r_done ?_
              refine s_keep [98] (e' := [(98, _)]) rfl ?_
              refine k_then_n ?_
              refine s_eq 98 rfl (v' := .bool (decide (x.1 = 9 ∧ y.1 = 10 ∧ x.2.2 = y.2.2 ∧ p = q))) (by congr 1; first | (symm; rw [decide_eq_false_iff_not]; omega) | (rw [decide_eq_decide]; omega)) ?_
              refine join_next (()) (by trivial) (by exact ⟨rfl, trivial⟩) (by (try simp only [List.cons_append, List.nil_append]); (repeat ((with_reducible apply Z2); focus (first | (with_reducible (repeat (first | exact Z0 | apply Z1)); done) | (repeat (first | exact Z0 | apply Z1))))); (repeat (first | exact Z3 | exact Takes.self | refine takes_drop2 ?_)))
             ·
              refine q_skip rfl rfl rfl rfl ?_
              refine q_skip rfl rfl rfl rfl ?_
              refine q_skip rfl rfl rfl rfl ?_
              refine q_skip rfl rfl rfl rfl ?_
              refine q_skip rfl rfl rfl rfl ?_
              refine q_skip rfl rfl rfl rfl ?_
              refine q_skip rfl rfl rfl rfl ?_
              refine q_skip rfl rfl rfl rfl ?_
              refine q_skip rfl rfl rfl rfl ?_
              refine q_skip rfl rfl rfl rfl ?_
              refine q_skip rfl rfl rfl rfl ?_
              refine q_skip rfl rfl rfl rfl ?_
              refine q_skip rfl rfl rfl rfl ?_
              refine q_skip rfl rfl rfl rfl ?_
              refine q_skip rfl rfl rfl rfl ?_
              refine q_pick_f rfl rfl rfl rfl rfl ?_
              refine q_assign rfl rfl rfl rfl ?_
              refine r_done ?_
              refine s_keep [98] (e' := [(98, _)]) rfl ?_
              refine k_then_n ?_
              refine s_eq 98 rfl (v' := .bool (decide (x.1 = 9 ∧ y.1 = 10 ∧ x.2.2 = y.2.2 ∧ p = q))) (by congr 1; first | (symm; rw [decide_eq_false_iff_not]; omega) | (rw [decide_eq_decide]; omega)) ?_
              refine join_next (()) (by trivial) (by exact ⟨rfl, trivial⟩) (by (try simp only [List.cons_append, List.nil_append]); (repeat ((with_reducible apply Z2); focus (first | (with_reducible (repeat (first | exact Z0 | apply Z1)); done) | (repeat (first | exact Z0 | apply Z1))))); (repeat (first | exact Z3 | exact Takes.self | refine takes_drop2 ?_)))
            ·
             refine q_skip rfl rfl rfl rfl ?_
             refine q_skip rfl rfl rfl rfl ?_
             refine q_skip rfl rfl rfl rfl ?_
             refine q_skip rfl rfl rfl rfl ?_
             refine q_skip rfl rfl rfl rfl ?_
             refine q_pick_f rfl rfl rfl rfl rfl ?_
             refine q_move rfl rfl rfl rfl ?_
             refine q_skip rfl rfl rfl rfl ?_
             refine q_skip rfl rfl rfl rfl ?_
             refine q_skip rfl rfl rfl rfl ?_
             refine q_skip rfl rfl rfl rfl ?_
             refine q_skip rfl rfl rfl rfl ?_
             refine q_skip rfl rfl rfl rfl ?_
             refine q_skip rfl rfl rfl rfl ?_
             refine q_skip rfl rfl rfl rfl ?_
             refine q_skip rfl rfl rfl rfl ?_
             refine q_skip rfl rfl rfl rfl ?_
             refine q_skip rfl rfl rfl rfl ?_
             refine q_skip rfl rfl rfl rfl ?_
             refine q_skip rfl rfl rfl rfl ?_
             refine q_skip rfl rfl rfl rfl ?_
             refine q_skip rfl rfl rfl rfl ?_
             refine q_pick_f rfl rfl rfl rfl rfl ?_
             refine q_assign rfl rfl rfl rfl ?_
             refine r_done ?_
             refine s_keep [98] (e' := [(98, _)]) rfl ?_
             refine k_then_n ?_
             refine s_eq 98 rfl (v' := .bool (decide (x.1 = 9 ∧ y.1 = 10 ∧ x.2.2 = y.2.2 ∧ p = q))) (by congr 1; first | (symm; rw [decide_eq_false_iff_not]; omega) | (rw [decide_eq_decide]; omega)) ?_
             refine join_next (()) (by trivial) (by exact ⟨rfl, trivial⟩) (by (try simp only [List.cons_append, List.nil_append]); (repeat ((with_reducible apply Z2); focus (first | (with_reducible (repeat (first | exact Z0 | apply Z1)); done) | (repeat (first | exact Z0 | apply Z1))))); (repeat (first | exact Z3 | exact Takes.self | refine takes_drop2 ?_)))
           ·
            refine q_skip rfl rfl rfl rfl ?_
            refine q_skip rfl rfl rfl rfl ?_
            refine q_skip rfl rfl rfl rfl ?_
            refine q_pick_f rfl rfl rfl rfl rfl ?_
            refine q_move rfl rfl rfl rfl ?_
            refine q_skip rfl rfl rfl rfl ?_
            refine q_skip rfl rfl rfl rfl ?_
            refine q_skip rfl rfl rfl rfl ?_
            refine q_skip rfl rfl rfl rfl ?_
            refine q_skip rfl rfl rfl rfl ?_
            refine q_pick_f rfl rfl rfl rfl rfl ?_
            refine q_move rfl rfl rfl rfl ?_
            refine q_skip rfl rfl rfl rfl ?_
            refine q_skip rfl rfl rfl rfl ?_
            refine q_skip rfl rfl rfl rfl ?_
            refine q_skip rfl rfl rfl rfl ?_
            refine q_skip rfl rfl rfl rfl ?_
            refine q_skip rfl rfl rfl rfl ?_
            refine q_skip rfl rfl rfl rfl ?_
            refine q_skip rfl rfl rfl rfl ?_
            refine q_skip rfl rfl rfl rfl ?_
            refine q_skip rfl rfl rfl rfl ?_
            refine q_skip rfl rfl rfl rfl ?_
            refine q_skip rfl rfl rfl rfl ?_
            refine q_skip rfl rfl rfl rfl ?_
            refine q_skip rfl rfl rfl rfl ?_
            refine q_skip rfl rfl rfl rfl ?_
            refine q_pick_f rfl rfl rfl rfl rfl ?_
            refine q_assign rfl rfl rfl rfl ?_
            refine r_done ?_
            refine s_keep [98] (e' := [(98, _)]) rfl ?_
            refine k_then_n ?_
            refine s_eq 98 rfl (v' := .bool (decide (x.1 = 9 ∧ y.1 = 10 ∧ x.2.2 = y.2.2 ∧ p = q))) (by congr 1; first | (symm; rw [decide_eq_false_iff_not]; omega) | (rw [decide_eq_decide]; omega)) ?_
            refine join_next (()) (by trivial) (by exact ⟨rfl, trivial⟩) (by (try simp only [List.cons_append, List.nil_append]); (repeat ((with_reducible apply Z2); focus (first | (with_reducible (repeat (first | exact Z0 | apply Z1)); done) | (repeat (first | exact Z0 | apply Z1))))); (repeat (first | exact Z3 | exact Takes.self | refine takes_drop2 ?_)))
          ·
           rintro ⟨⟩ -
           try simp only [List.cons_append, List.nil_append]
           refine c_cond_p rfl (fun w6 => ?_) (fun w6 => ?_)
           ·
            refine c_seq ?_
            refine c_plain (.q 0 (.done)) (by kernel_rfl) ?_
            refine q_assign rfl rfl rfl rfl ?_
            refine r_done ?_
            refine k_then_n ?_
            refine c_ret ?_
            refine k_blk_ret ?_
            refine k_then_ret ?_
            refine ret1 rfl rfl (()) (by unfold whyC; rw [if_neg w1, if_neg w2, if_neg w3, if_neg w4, if_neg w5, if_pos w6]) (by trivial) ?_
            exact Tf
           ·
            refine c_skip ?_
            refine k_blk_n ?_
            refine k_then_n ?_
            refine c_seq ?_
            refine c_plain (.q 0 (.done)) (by kernel_rfl) ?_
            refine q_assign rfl rfl rfl rfl ?_
            refine r_done ?_
            refine k_then_n ?_
            refine c_ret ?_
            refine ret1 rfl rfl (()) (by unfold whyC; rw [if_neg w1, if_neg w2, if_neg w3, if_neg w4, if_neg w5, if_neg w6]) (by trivial) ?_
            exact Tf
end Go.Ab.Ord
