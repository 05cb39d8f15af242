/- The document's answer for heaps (abreastref04): what each function does. -/
import Derived.Test.YtodmfajboleamaaHpL
set_option linter.unusedVariables false
set_option linter.unusedSimpArgs false
set_option maxRecDepth 100000
namespace Go.Ab.HpT
open Go Go.Proofs Go.Ab
/-- Without a place. -/
def wo (l : List Th) (k : Int) : List Th := if 0 ≤ k then l.eraseIdx k.toNat else l
/-- The place of the first. -/
def IsFst (l : List Th) (k : Int) : Prop := (l = [] ∧ k = -1) ∨ ∃ (i : Nat) (x : Th), k = ((i : Nat) : Int) ∧ l[i]? = some x ∧ (∀ (j : Nat) (y : Th), l[j]? = some y → ¬ y.1 < x.1) ∧ (∀ (j : Nat) (y : Th), j < i → l[j]? = some y → x.1 < y.1)
theorem isfst_next {l : List Th} {i : Nat} {k : Int} {x : Th} (h : IsFst (l.take i) k) (hx : l[i]? = some x) : (k = -1 → IsFst (l.take (i + 1)) (i : Int)) ∧ (∀ q y, k = ((q : Nat) : Int) → l[q]? = some y → (x.1 < y.1 → IsFst (l.take (i + 1)) (i : Int)) ∧ (¬ x.1 < y.1 → IsFst (l.take (i + 1)) k)) := by
  have hi : i < l.length := (List.getElem?_eq_some_iff.1 hx).1
  have hget : ∀ j y, (l.take (i + 1))[j]? = some y → (j < i ∧ (l.take i)[j]? = some y) ∨ (j = i ∧ y = x) := by
    intro j y hj
    rw [List.getElem?_take] at hj
    split at hj
    · by_cases h1 : j < i
      · exact .inl ⟨h1, by rw [List.getElem?_take, if_pos h1]; exact hj⟩
      · obtain rfl : j = i := by omega
        rw [hx] at hj; cases hj; exact .inr ⟨rfl, rfl⟩
    · cases hj
  have hxi : (l.take (i + 1))[i]? = some x := by rw [List.getElem?_take, if_pos (by omega)]; exact hx
  refine ⟨fun hk => ?_, fun q y hq hy => ?_⟩
  · rcases h with ⟨h1, -⟩ | ⟨q, y, h1, -⟩
    · have h0 : i = 0 := by
        have := congrArg List.length h1
        rw [List.length_take, List.length_nil] at this; omega
      subst h0
      exact Or.inr ⟨0, x, rfl, hxi, fun j y hj => by
        rcases hget j y hj with ⟨h2, -⟩ | ⟨-, rfl⟩
        · omega
        · omega, fun j y hj => by omega⟩
    · omega
  · rcases h with ⟨-, h1⟩ | ⟨q', y', h1, h2, h3, h4⟩
    · omega
    · obtain rfl : q = q' := by omega
      have hql : q < i := by
        have := (List.getElem?_eq_some_iff.1 h2).1
        rw [List.length_take] at this; omega
      have e : y' = y := by
        rw [List.getElem?_take, if_pos hql, hy] at h2; cases h2; rfl
      subst e
      refine ⟨fun hlt => Or.inr ⟨i, x, rfl, hxi, fun j z hj => ?_, fun j z hj hz => ?_⟩, fun hnl => Or.inr ⟨q, y', hq, by rw [List.getElem?_take, if_pos (by omega)]; exact hy, fun j z hj => ?_, fun j z hj hz => ?_⟩⟩
      · rcases hget j z hj with ⟨-, h5⟩ | ⟨-, rfl⟩
        · have := h3 j z h5; omega
        · omega
      · rcases hget j z hz with ⟨-, h5⟩ | ⟨h5, -⟩
        · have := h3 j z h5; omega
        · omega
      · rcases hget j z hj with ⟨-, h5⟩ | ⟨-, rfl⟩
        · exact h3 j z h5
        · exact hnl
      · rcases hget j z hz with ⟨-, h5⟩ | ⟨h5, -⟩
        · exact h4 j z hj h5
        · omega
theorem first_spec (xs : List Th) (ao : Option Addr) (n c : Nat) (A : HProp) (hn : xs.length = n) (hr : RdS A ao (xs.flatMap encT)) (hb : n ≤ 4000000000000) : Spec Try.prog 47 [.slice ao n c] [A] (fun (k : Int) => .int .i64 k) (fun k => IsFst xs k) (fun _ => [A]) := by
  refine spec_mk (n := 28) Try.func47 rfl rfl rfl ?_
  intro Γ w0
  simp only [argE, List.cons_append, List.nil_append, Nat.zero_add, Nat.reduceAdd]
  refine c_seq ?_
  refine c_plain (.q 0 (.done)) (by kernel_rfl) ?_
  refine q_assign rfl rfl rfl rfl ?_
  refine r_done ?_
  refine k_then_n ?_
  refine c_seq ?_
  refine c_plain (.q 0 (.done)) (by kernel_rfl) ?_
  refine q_assign rfl rfl rfl rfl ?_
  refine r_done ?_
  refine k_then_n ?_
  refine c_seq ?_
  refine c_seq ?_
  refine c_plain (.q 0 (.done)) (by kernel_rfl) ?_
  refine q_assign rfl rfl rfl rfl ?_
  refine r_done ?_
  refine k_then_n ?_
  refine c_block ?_
  refine s_eq 4 rfl (v' := .int .i64 ((0 : Nat) : Int)) rfl ?_
  refine c_loop2 (α := Nat × Int) (fun (x_ : Nat × Int) => match x_ with | (i, k) => i ≤ n ∧ IsFst (xs.take i) k) (fun (x_ : Nat × Int) => match x_ with | (i, k) => [(3, .int .i64 k), (4, .int .i64 ((i : Nat) : Int))]) (fun (x_ : Nat × Int) => match x_ with | (i, k) => []) (fun (x_ : Nat × Int) => match x_ with | (i, k) => n - i) [0] (er := [(0, _)]) rfl ((0, -1)) ?_ (by exact ⟨rfl, rfl, trivial⟩) (by (try simp only [Nat.add_zero, Nat.zero_add]); (repeat (with_reducible apply Takes.cons; focus (with_reducible (repeat (first | exact Take.here | apply Take.there))))); exact Takes.nil) ?_
  · exact ⟨by omega, Or.inl ⟨by simp, rfl⟩⟩
  rintro ⟨i, k⟩ ⟨hi, hf⟩
  try simp only [List.cons_append, List.nil_append]
  refine c_seq ?_
  refine c_seq ?_
  refine c_plain (.q 0 (.q 1 (.q 2 (.q 3 (.done))))) (by kernel_rfl) ?_
  refine q_move rfl rfl rfl rfl ?_
  refine q_move rfl rfl rfl rfl ?_
  refine q_len rfl rfl rfl rfl Try.underlying49 ?_
  refine q_int rfl rfl rfl rfl rfl (b_lss _ _ _ _) ?_
  refine r_done ?_
  refine k_then_n ?_
  refine c_cond_p rfl (fun hlt => ?_) (fun hlt => ?_)
  · skip
    obtain ⟨x, hx⟩ := get_lt (l := xs) (i := i) (by omega)
    obtain ⟨vb, vo, rfl, hrn⟩ := rds_get hr encT_len hx
    obtain ⟨hn1, hn2⟩ := isfst_next hf hx
    refine c_skip ?_
    refine k_then_n ?_
    refine c_seq ?_
    refine c_block ?_
    refine c_seq ?_
    refine c_draw rfl (.q 0 (.q 1 (.q 2 (.q 3 (.q 4 (.q 5 (.q 6 (.q 7 (.q 8 (.q 9 (.q 10 (.q 11 (.q 12 (.q 13 (.q 14 (.done)))))))))))))))) (by kernel_rfl) ?_
    refine q_move rfl rfl rfl rfl ?_
    refine q_int rfl rfl rfl rfl rfl (b_lss _ _ _ _) ?_
    refine q_move rfl rfl rfl rfl ?_
    refine s_bool_p 13 rfl (fun hk => ?_) (fun hk => ?_)
    · skip
      refine q_skip rfl rfl rfl rfl ?_
      refine q_skip rfl rfl rfl rfl ?_
      refine q_skip rfl rfl rfl rfl ?_
      refine q_skip rfl rfl rfl rfl ?_
      refine q_skip rfl rfl rfl rfl ?_
      refine q_skip rfl rfl rfl rfl ?_
      refine q_skip rfl rfl rfl rfl ?_
      refine q_skip rfl rfl rfl rfl ?_
      refine q_skip rfl rfl rfl rfl ?_
      refine q_skip rfl rfl rfl rfl ?_
      refine q_skip rfl rfl rfl rfl ?_
      first | refine q_pick_t rfl rfl rfl rfl rfl ?_ | refine q_pick_f rfl rfl rfl rfl rfl ?_
      refine r_done ?_
      refine s_keep [0, 3, 4, 14, 15, 16, 17, 18, 19, 20, 21, 22, 23, 24, 25] (e' := [(0, _), (3, _), (4, _), (14, _), (15, _), (16, _), (17, _), (18, _), (19, _), (20, _), (21, _), (22, _), (23, _), (24, _), (25, _)]) rfl ?_
      refine k_then_n ?_
      refine c_cond_t rfl ?_
      refine c_plain (.q 0 (.q 1 (.done))) (by kernel_rfl) ?_
      refine q_move rfl rfl rfl rfl ?_
      refine q_assign rfl rfl rfl rfl ?_
      refine r_done ?_
      refine k_blk_n ?_
      refine k_then_n ?_
      refine c_plain (.q 0 (.q 1 (.q 2 (.done)))) (by kernel_rfl) ?_
      refine q_move rfl rfl rfl rfl ?_
      refine q_int rfl rfl rfl rfl rfl (b_add' _ (by (first | exact fits_i64 (by omega) (by omega) | exact fits_u64 (by omega) (by omega) | exact fits_u32 (by omega) (by omega) | exact fits_u8 (by omega) (by omega)))) ?_
      refine q_assign rfl rfl rfl rfl ?_
      refine r_done ?_
      refine s_keep [0, 3, 4, 14, 15, 16, 17, 18, 19, 20, 21, 22, 23, 24] (e' := [(0, _), (3, _), (4, _), (14, _), (15, _), (16, _), (17, _), (18, _), (19, _), (20, _), (21, _), (22, _), (23, _), (24, _)]) rfl ?_
      refine k_then_n ?_
      refine loop_next (x := (i, k)) ((i + 1, (i : Int))) ?_ ?_ ?_ ?_
      · exact ⟨by omega, hn1 (by rcases hf with ⟨-, h1⟩ | ⟨q, y, h1, -⟩ <;> omega)⟩
      · show n - (i + 1) < n - i; omega
      · exact ⟨rfl, rfl, rfl, trivial⟩
      · (try simp only [List.cons_append, List.nil_append]); (repeat (with_reducible apply Takes.cons; focus (with_reducible (repeat (first | exact Take.here | apply Take.there))))); (repeat (first | exact Takes.nil | exact Takes.self | refine takes_drop2 ?_))
    · skip
      obtain ⟨q, y, hkq, hy⟩ : ∃ (q : Nat) (y : Th), k = (q : Int) ∧ xs[q]? = some y := by
        rcases hf with ⟨-, h1⟩ | ⟨q, y, h1, h2, -⟩
        · omega
        · refine ⟨q, y, h1, ?_⟩
          rw [List.getElem?_take] at h2
          split at h2
          · exact h2
          · cases h2
      have hql : q < xs.length := (List.getElem?_eq_some_iff.1 hy).1
      subst hkq
      refine q_move rfl rfl rfl rfl ?_
      refine q_move rfl rfl rfl rfl ?_
      refine q_idx rfl rfl rfl rfl rfl Try.underlying49 Try.sizeOf28 (k := i) (by first | rfl | omega) (by omega) (by exact ⟨_, _, rfl⟩) ?_
      intro ib1 io2 hx; cases hx
      refine q_field (k := 0) rfl rfl rfl rfl Try.underlying28 rfl Try.sizeOf3 rfl ?_
      refine q_load rfl rfl rfl rfl Try.isAgg3 (by with_reducible (repeat (first | exact Take.here | apply Take.there))) ((rdn_sub hrn encT_len hx) 0 (.int .i64 x.1) rfl) ?_
      refine q_move rfl rfl rfl rfl ?_
      refine q_move rfl rfl rfl rfl ?_
      refine q_idx rfl rfl rfl rfl rfl Try.underlying49 Try.sizeOf28 (k := q) (by first | rfl | omega) (by omega) (by exact ⟨_, _, rfl⟩) ?_
      intro ib3 io4 hx; cases hx
      refine q_field (k := 0) rfl rfl rfl rfl Try.underlying28 rfl Try.sizeOf3 rfl ?_
      refine q_load rfl rfl rfl rfl Try.isAgg3 (by with_reducible (repeat (first | exact Take.here | apply Take.there))) ((rdn_sub hrn encT_len hy) 0 (.int .i64 y.1) rfl) ?_
      refine q_int rfl rfl rfl rfl rfl (b_lss _ _ _ _) ?_
      first | refine q_pick_t rfl rfl rfl rfl rfl ?_ | refine q_pick_f rfl rfl rfl rfl rfl ?_
      refine r_done ?_
      refine s_keep [0, 3, 4, 14, 15, 16, 17, 18, 19, 20, 21, 22, 23, 24, 25] (e' := [(0, _), (3, _), (4, _), (14, _), (15, _), (16, _), (17, _), (18, _), (19, _), (20, _), (21, _), (22, _), (23, _), (24, _), (25, _)]) rfl ?_
      refine k_then_n ?_
      refine c_cond_p rfl (fun hlx => ?_) (fun hlx => ?_)
      · skip
        refine c_plain (.q 0 (.q 1 (.done))) (by kernel_rfl) ?_
        refine q_move rfl rfl rfl rfl ?_
        refine q_assign rfl rfl rfl rfl ?_
        refine r_done ?_
        refine k_blk_n ?_
        refine k_then_n ?_
        refine c_plain (.q 0 (.q 1 (.q 2 (.done)))) (by kernel_rfl) ?_
        refine q_move rfl rfl rfl rfl ?_
        refine q_int rfl rfl rfl rfl rfl (b_add' _ (by (first | exact fits_i64 (by omega) (by omega) | exact fits_u64 (by omega) (by omega) | exact fits_u32 (by omega) (by omega) | exact fits_u8 (by omega) (by omega)))) ?_
        refine q_assign rfl rfl rfl rfl ?_
        refine r_done ?_
        refine s_keep [0, 3, 4, 14, 15, 16, 17, 18, 19, 20, 21, 22, 23, 24] (e' := [(0, _), (3, _), (4, _), (14, _), (15, _), (16, _), (17, _), (18, _), (19, _), (20, _), (21, _), (22, _), (23, _), (24, _)]) rfl ?_
        refine k_then_n ?_
        refine loop_next (x := (i, (q : Int))) ((i + 1, (i : Int))) ?_ ?_ ?_ ?_
        · exact ⟨by omega, (hn2 q y rfl hy).1 hlx⟩
        · show n - (i + 1) < n - i; omega
        · exact ⟨rfl, rfl, rfl, trivial⟩
        · (try simp only [List.cons_append, List.nil_append]); (repeat (with_reducible apply Takes.cons; focus (with_reducible (repeat (first | exact Take.here | apply Take.there))))); (repeat (first | exact Takes.nil | exact Takes.self | refine takes_drop2 ?_))
      · skip
        refine c_skip ?_
        refine k_blk_n ?_
        refine k_then_n ?_
        refine c_plain (.q 0 (.q 1 (.q 2 (.done)))) (by kernel_rfl) ?_
        refine q_move rfl rfl rfl rfl ?_
        refine q_int rfl rfl rfl rfl rfl (b_add' _ (by (first | exact fits_i64 (by omega) (by omega) | exact fits_u64 (by omega) (by omega) | exact fits_u32 (by omega) (by omega) | exact fits_u8 (by omega) (by omega)))) ?_
        refine q_assign rfl rfl rfl rfl ?_
        refine r_done ?_
        refine k_then_n ?_
        refine loop_next (x := (i, (q : Int))) ((i + 1, (q : Int))) ?_ ?_ ?_ ?_
        · exact ⟨by omega, (hn2 q y rfl hy).2 hlx⟩
        · show n - (i + 1) < n - i; omega
        · exact ⟨rfl, rfl, rfl, trivial⟩
        · (try simp only [List.cons_append, List.nil_append]); (repeat (with_reducible apply Takes.cons; focus (with_reducible (repeat (first | exact Take.here | apply Take.there))))); (repeat (first | exact Takes.nil | exact Takes.self | refine takes_drop2 ?_))
  · skip
    refine c_exit ?_
    refine k_then_exit ?_
    refine k_then_exit ?_
    refine k_blk_here ?_
    refine k_then_n ?_
    refine c_seq ?_
    refine c_plain (.q 0 (.q 1 (.done))) (by kernel_rfl) ?_
    refine q_move rfl rfl rfl rfl ?_
    refine q_assign rfl rfl rfl rfl ?_
    refine r_done ?_
    refine s_keep [2] (e' := [(2, _)]) rfl ?_
    refine k_then_n ?_
    refine c_ret ?_
    refine ret1 rfl rfl (k) (by rfl) (by rw [List.take_of_length_le (by omega)] at hf; exact hf) ?_
    (repeat (with_reducible apply Takes.cons; focus (with_reducible (repeat (first | exact Take.here | apply Take.there))))); (repeat (first | exact Takes.nil | exact Takes.self | refine takes_drop2 ?_))

theorem wo_len (l : List Th) (k : Int) : (wo l k).length ≤ l.length := by
  unfold wo; split
  · exact List.length_eraseIdx_le _ _
  · exact Nat.le_refl _
theorem wo_next1 {xs : List Th} {i : Nat} {k : Int} {x : Th} (hx : xs[i]? = some x) (h : ¬ (i : Int) = k) : wo (xs.take (i + 1)) k = wo (xs.take i) k ++ [x] := by
  have hi : i < xs.length := (List.getElem?_eq_some_iff.1 hx).1
  have h2 : xs.take (i + 1) = xs.take i ++ [x] := by rw [List.take_add_one, hx]; rfl
  unfold wo
  split
  · rw [h2]
    by_cases hk : k.toNat < i
    · rw [List.eraseIdx_append_of_lt_length (by rw [List.length_take]; omega)]
    · rw [List.eraseIdx_of_length_le (by simp; omega), List.eraseIdx_of_length_le (by rw [List.length_take]; omega)]
  · rw [h2]
theorem wo_next2 {xs : List Th} {i : Nat} {k : Int} {x : Th} (hx : xs[i]? = some x) (h : (i : Int) = k) : wo (xs.take (i + 1)) k = wo (xs.take i) k := by
  have hi : i < xs.length := (List.getElem?_eq_some_iff.1 hx).1
  have h2 : xs.take (i + 1) = xs.take i ++ [x] := by rw [List.take_add_one, hx]; rfl
  unfold wo
  rw [if_pos (by omega), if_pos (by omega), h2, ← h]
  rw [List.eraseIdx_append_of_length_le (by rw [List.length_take]; omega), List.eraseIdx_of_length_le (l := xs.take i) (by rw [List.length_take]; omega)]
  rw [List.length_take, Nat.min_eq_left (by omega)]
  simp

theorem without_spec (xs : List Th) (k : Int) (ao : Option Addr) (n c : Nat) (A : HProp) (hn : xs.length = n) (hr : RdS A ao (xs.flatMap encT)) (hb : n ≤ 2000000000000) : Spec Try.prog 46 [.slice ao n c, .int .i64 k] [A] (fun (r : Option Addr × Nat) => .slice r.1 (wo xs k).length r.2) (fun _ => True) (fun r => [A, own 2 encT r.1 r.2 (wo xs k)]) := by
  refine spec_mk (n := 24) Try.func46 rfl rfl rfl ?_
  intro Γ w0
  simp only [argE, List.cons_append, List.nil_append, Nat.zero_add, Nat.reduceAdd]
  refine c_seq ?_
  refine c_plain (.q 0 (.done)) (by kernel_rfl) ?_
  refine q_assign rfl rfl rfl rfl ?_
  refine r_done ?_
  refine k_then_n ?_
  refine c_seq ?_
  refine c_plain (.q 0 (.done)) (by kernel_rfl) ?_
  refine q_assign rfl rfl rfl rfl ?_
  refine r_done ?_
  refine k_then_n ?_
  refine c_seq ?_
  refine c_seq ?_
  refine c_plain (.q 0 (.done)) (by kernel_rfl) ?_
  refine q_assign rfl rfl rfl rfl ?_
  refine r_done ?_
  refine k_then_n ?_
  refine c_block ?_
  refine s_eq 6 rfl (v' := .int .i64 ((0 : Nat) : Int)) rfl ?_
  refine s_heap (fun _ h => own_nil (sz := 2) (enc := encT) h) ?_
  refine c_loop2 (α := Nat × Option Addr × Nat × List Th) (fun (x_ : Nat × Option Addr × Nat × List Th) => match x_ with | (i, ao2, cap2, out) => i ≤ n ∧ out = wo (xs.take i) k) (fun (x_ : Nat × Option Addr × Nat × List Th) => match x_ with | (i, ao2, cap2, out) => [(5, .slice ao2 out.length cap2), (6, .int .i64 ((i : Nat) : Int))]) (fun (x_ : Nat × Option Addr × Nat × List Th) => match x_ with | (i, ao2, cap2, out) => [own 2 encT ao2 cap2 out]) (fun (x_ : Nat × Option Addr × Nat × List Th) => match x_ with | (i, ao2, cap2, out) => n - i) [0, 1] (er := [(0, _), (1, _)]) rfl ((0, none, 0, [])) ?_ (by exact ⟨rfl, rfl, trivial⟩) (by (repeat (with_reducible apply Takes.cons; focus (with_reducible (repeat (first | exact Take.here | apply Take.there))))); exact Takes.nil) ?_
  · exact ⟨by omega, by simp [wo]⟩
  rintro ⟨i, ao2, cap2, out⟩ ⟨hi, ho⟩
  try simp only [List.cons_append, List.nil_append]
  have hol : out.length ≤ n := by
    have h1 := wo_len (xs.take i) k
    rw [List.length_take] at h1
    rw [ho]; omega
  refine c_seq ?_
  refine c_seq ?_
  refine c_plain (.q 0 (.q 1 (.q 2 (.q 3 (.done))))) (by kernel_rfl) ?_
  refine q_move rfl rfl rfl rfl ?_
  refine q_move rfl rfl rfl rfl ?_
  refine q_len rfl rfl rfl rfl Try.underlying49 ?_
  refine q_int rfl rfl rfl rfl rfl (b_lss _ _ _ _) ?_
  refine r_done ?_
  refine k_then_n ?_
  refine c_cond_p rfl (fun hlt => ?_) (fun hlt => ?_)
  · skip
    obtain ⟨x, hx⟩ := get_lt (l := xs) (i := i) (by omega)
    obtain ⟨vb, vo, rfl, hrn⟩ := rds_get hr encT_len hx
    refine c_skip ?_
    refine k_then_n ?_
    refine c_seq ?_
    refine c_block ?_
    refine c_seq ?_
    refine c_plain (.q 0 (.q 1 (.q 2 (.done)))) (by kernel_rfl) ?_
    refine q_move rfl rfl rfl rfl ?_
    refine q_move rfl rfl rfl rfl ?_
    refine q_int rfl rfl rfl rfl rfl (b_neq _ _ _ _) ?_
    refine r_done ?_
    refine s_keep [0, 1, 5, 6, 15] (e' := [(0, _), (1, _), (5, _), (6, _), (15, _)]) rfl ?_
    refine k_then_n ?_
    refine c_cond_p rfl (fun hne => ?_) (fun hne => ?_)
    · skip
      refine c_plain (.q 0 (.q 1 (.q 2 (.q 3 (.q 4 ((.l 5 [] ((.l 6 [] (.q 7 (.done))))))))))) (by kernel_rfl) ?_
      refine q_move rfl rfl rfl rfl ?_
      refine q_move rfl rfl rfl rfl ?_
      refine q_move rfl rfl rfl rfl ?_
      refine q_idx rfl rfl rfl rfl rfl Try.underlying49 Try.sizeOf28 (k := i) (by first | rfl | omega) (by omega) (by exact ⟨_, _, rfl⟩) ?_
      intro ib1 io2 hx; cases hx
      refine q_loadN rfl rfl rfl rfl Try.isAgg28 Try.sizeOf28 (by with_reducible (repeat (first | exact Take.here | apply Take.there))) (rdn_sub hrn encT_len hx) rfl ?_
      refine l_buildSlice rfl rfl rfl rfl (run_build1 (us := [_, _]) Try.underlying49 Try.sizeOf28 rfl Try.zeroValue28 rfl rfl rfl) ?_
      intro vb
      refine ag_nil ?_
      refine l_append (sz := 2) rfl rfl rfl rfl rfl Try.underlying49 Try.typeInfo28 rfl rfl rfl (by decide) (by with_reducible (repeat (first | exact Take.here | apply Take.there))) (by with_reducible (repeat (first | exact Take.here | apply Take.there))) (by rfl) (ys := [x]) (rds_some rdn_cells) (by rfl) (by rfl) (encT_len) (encT_one) (by omega) (by show _ * 16 ≤ _; omega) ?_
      intro ao3 cap3
      refine ag_nil ?_
      refine q_assign rfl rfl rfl rfl ?_
      refine r_done ?_
      refine s_keep [0, 1, 5, 6] (e' := [(0, _), (1, _), (5, _), (6, _)]) rfl ?_
      refine k_blk_n ?_
      refine k_then_n ?_
      refine c_plain (.q 0 (.q 1 (.q 2 (.done)))) (by kernel_rfl) ?_
      refine q_move rfl rfl rfl rfl ?_
      refine q_int rfl rfl rfl rfl rfl (b_add' _ (by (first | exact fits_i64 (by omega) (by omega) | exact fits_u64 (by omega) (by omega) | exact fits_u32 (by omega) (by omega) | exact fits_u8 (by omega) (by omega)))) ?_
      refine q_assign rfl rfl rfl rfl ?_
      refine r_done ?_
      refine k_then_n ?_
      refine s_eq 5 rfl (v' := .slice ao3 (out ++ [x]).length cap3) (by simp) ?_
      refine loop_next (x := (i, ao2, cap2, out)) ((i + 1, ao3, cap3, out ++ [x])) ?_ ?_ ?_ ?_
      · exact ⟨by omega, by rw [ho]; exact (wo_next1 hx (by omega)).symm⟩
      · show n - (i + 1) < n - i; omega
      · exact ⟨rfl, rfl, rfl, rfl, trivial⟩
      · (try simp only [List.cons_append, List.nil_append]); (repeat (with_reducible apply Takes.cons; focus (with_reducible (repeat (first | exact Take.here | apply Take.there))))); (repeat (first | exact Takes.nil | exact Takes.self | refine takes_drop2 ?_))
    · skip
      refine c_skip ?_
      refine k_blk_n ?_
      refine k_then_n ?_
      refine c_plain (.q 0 (.q 1 (.q 2 (.done)))) (by kernel_rfl) ?_
      refine q_move rfl rfl rfl rfl ?_
      refine q_int rfl rfl rfl rfl rfl (b_add' _ (by (first | exact fits_i64 (by omega) (by omega) | exact fits_u64 (by omega) (by omega) | exact fits_u32 (by omega) (by omega) | exact fits_u8 (by omega) (by omega)))) ?_
      refine q_assign rfl rfl rfl rfl ?_
      refine r_done ?_
      refine k_then_n ?_
      refine loop_next (x := (i, ao2, cap2, out)) ((i + 1, ao2, cap2, out)) ?_ ?_ ?_ ?_
      · exact ⟨by omega, by rw [ho]; exact (wo_next2 hx (by omega)).symm⟩
      · show n - (i + 1) < n - i; omega
      · exact ⟨rfl, rfl, rfl, rfl, trivial⟩
      · (try simp only [List.cons_append, List.nil_append]); (repeat (with_reducible apply Takes.cons; focus (with_reducible (repeat (first | exact Take.here | apply Take.there))))); (repeat (first | exact Takes.nil | exact Takes.self | refine takes_drop2 ?_))
  · skip
    refine c_exit ?_
    refine k_then_exit ?_
    refine k_then_exit ?_
    refine k_blk_here ?_
    refine k_then_n ?_
    refine c_seq ?_
    refine c_plain (.q 0 (.q 1 (.done))) (by kernel_rfl) ?_
    refine q_move rfl rfl rfl rfl ?_
    refine q_assign rfl rfl rfl rfl ?_
    refine r_done ?_
    refine s_keep [4] (e' := [(4, _)]) rfl ?_
    refine k_then_n ?_
    refine c_ret ?_
    rw [List.take_of_length_le (by omega)] at ho
    subst ho
    refine ret1 rfl rfl ((ao2, cap2)) (by rfl) (by trivial) ?_
    (repeat (with_reducible apply Takes.cons; focus (with_reducible (repeat (first | exact Take.here | apply Take.there))))); (repeat (first | exact Takes.nil | exact Takes.self | refine takes_drop2 ?_))
end Go.Ab.HpT
