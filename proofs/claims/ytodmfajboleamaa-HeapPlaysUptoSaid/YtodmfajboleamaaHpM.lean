/- Heaps of things: Sort, Least, Clone; Same. -/
import Derived.Test.YtodmfajboleamaaHpD
set_option linter.unusedVariables false
set_option linter.unusedSimpArgs false
set_option maxRecDepth 100000
namespace Go.Ab.HpT
open Go Go.Proofs Go.Ab
variable {lt : Th → Th → Bool} {lk : FuncId} {fi ca : List Value}
theorem rds_nil {α : Type} {A : HProp} {ao : Option Addr} {sz : Nat} {enc : α → List Value} {xs : List α} (h : RdS A ao (xs.flatMap enc)) (hsz : ∀ x, (enc x).length = sz + 1) (hn : ao = none) : xs = [] := by
  rcases h with h | ⟨b, o, h, -⟩
  · have := flat_len hsz xs
    rw [h, List.length_nil] at this
    have h2 : xs.length = 0 := by
      rcases Nat.mul_eq_zero.1 this.symm with h3 | h3
      · exact h3
      · omega
    exact List.eq_nil_of_length_eq_zero h2
  · rw [hn] at h; cases h
theorem sort_spec (h : LessOk lt lk fi ca) (xs : List Th) (ao : Option Addr) (n c : Nat) (B : HProp) (hn : xs.length = n) (hr : RdS B ao (xs.flatMap encT)) (hb : xs.length ≤ 4000000000000) :
    Spec Try.prog 24 [.slice ao n c, lf lk fi ca] [B] (fun (r : Option Addr × Nat × List (Th × Nat)) => .slice r.1 r.2.2.length r.2.1) (fun r => Srt lt xs.zipIdx r.2.2) (fun r => [B, own 2 encT r.1 r.2.1 (r.2.2.map (·.1))]) := by
  refine spec_mk (n := 9) Try.func24 rfl rfl rfl ?_
  intro Γ w0
  simp only [argE, List.cons_append, List.nil_append, Nat.zero_add, Nat.reduceAdd]
  refine c_seq ?_
  refine c_plain (.q 0 (.done)) (by kernel_rfl) ?_
  refine q_assign rfl rfl rfl rfl ?_
  refine r_done ?_
  refine k_then_n ?_
  refine c_seq ?_
  refine c_plain (.q 0 (.q 1 ((.l 2 [] ((.l 3 [] (.q 4 (.done)))))))) (by kernel_rfl) ?_
  refine q_move rfl rfl rfl rfl ?_
  refine q_move rfl rfl rfl rfl ?_
  refine l_buildSlice rfl rfl rfl rfl (run_build1 (us := [_]) Try.underlying56 Try.sizeOf49 rfl Try.zeroValue49 rfl rfl rfl) ?_
  intro vb
  refine ag_nil ?_
  have sp2 := merge_spec h [(ao, c, xs)] (some ⟨vb, 0, none⟩) 1 1 (cells vb 0 [.slice ao n c]) B (rds_some (by subst hn; exact rdn_cells)) rfl (by intro y hy; simp at hy; subst hy; exact hr) (by simpa [cat] using hb) (by decide)
  refine l_call rfl rfl rfl rfl rfl rfl Try.call28 (sp2) (by (repeat (with_reducible apply Takes.cons; focus (with_reducible (repeat (first | exact Take.here | apply Take.there))))); exact Takes.nil) ?_
  rintro r hr2
  try simp only [List.cons_append, List.nil_append]
  refine ag_nil ?_
  refine q_assign rfl rfl rfl rfl ?_
  refine r_done ?_
  refine s_keep [4] (e' := [(4, _)]) rfl ?_
  refine k_then_n ?_
  refine c_ret ?_
  refine ret1 rfl rfl (r) (by rfl) (by simpa [cat] using hr2) ?_
  (repeat (with_reducible apply Takes.cons; focus (with_reducible (repeat (first | exact Take.here | apply Take.there))))); (repeat (first | exact Takes.nil | exact Takes.self | refine takes_drop2 ?_))

theorem clone_spec (xs : List Th) (ao : Option Addr) (n c : Nat) (A : HProp) (hn : xs.length = n) (hr : RdS A ao (xs.flatMap encT)) (hb : xs.length ≤ 4000000000000) :
    Spec Try.prog 45 [.slice ao n c] [A] (fun (r : Option Addr × Nat) => .slice r.1 n r.2) (fun _ => True) (fun r => [A, own 2 encT r.1 r.2 xs]) := by
  refine spec_mk (n := 8) Try.func45 rfl rfl rfl ?_
  intro Γ w0
  simp only [argE, List.cons_append, List.nil_append, Nat.zero_add, Nat.reduceAdd]
  refine c_seq ?_
  refine c_plain (.q 0 (.done)) (by kernel_rfl) ?_
  refine q_assign rfl rfl rfl rfl ?_
  refine r_done ?_
  refine k_then_n ?_
  refine c_seq ?_
  refine c_seq ?_
  refine c_plain (.q 0 (.q 1 (.done))) (by kernel_rfl) ?_
  refine q_move rfl rfl rfl rfl ?_
  refine q_eq_nils rfl rfl rfl rfl Try.underlying49 ?_
  refine r_done ?_
  refine k_then_n ?_
  refine c_cond rfl (fun hno => ?_) (fun hno => ?_)
  · skip
    have hx := rds_nil hr encT_len (by simpa using hno)
    subst hx
    obtain rfl : n = 0 := by simpa using hn.symm
    refine s_heap (fun _ h => own_nil (sz := 2) (enc := encT) h) ?_
    refine c_seq ?_
    refine c_plain (.q 0 (.done)) (by kernel_rfl) ?_
    refine q_assign rfl rfl rfl rfl ?_
    refine r_done ?_
    refine k_then_n ?_
    refine c_ret ?_
    refine k_then_ret ?_
    refine ret1 rfl rfl ((none, 0)) (by rfl) (by trivial) ?_
    (repeat (with_reducible apply Takes.cons; focus (with_reducible (repeat (first | exact Take.here | apply Take.there))))); (repeat (first | exact Takes.nil | exact Takes.self | refine takes_drop2 ?_))
  · skip
    refine c_skip ?_
    refine k_then_n ?_
    refine c_seq ?_
    refine c_plain ((.l 0 [] (.q 1 ((.l 2 [] (.q 3 (.done))))))) (by kernel_rfl) ?_
    refine l_buildSlice0 rfl rfl rfl rfl Try.underlying49 Try.sizeOf28 ?_
    intro vb
    refine ag_nil ?_
    refine q_move rfl rfl rfl rfl ?_
    refine s_heap (fun _ h => own_mk (sz := 2) (enc := encT) (xs := []) (sp := []) (cap := 0) (Nat.le_refl _) rfl h) ?_
    refine l_append (sz := 2) rfl rfl rfl rfl rfl Try.underlying49 Try.typeInfo28 rfl rfl rfl (by decide) (by with_reducible (repeat (first | exact Take.here | apply Take.there))) (by with_reducible (repeat (first | exact Take.here | apply Take.there))) (by rfl) (ys := xs) (hr) (by rfl) (by exact hn) (encT_len) (encT_one) (by omega) (by show _ * 16 ≤ _; omega) ?_
    intro ao2 cap2
    refine ag_nil ?_
    refine q_assign rfl rfl rfl rfl ?_
    refine r_done ?_
    refine s_keep [2] (e' := [(2, _)]) rfl ?_
    refine k_then_n ?_
    refine c_ret ?_
    simp only [List.nil_append]
    refine ret1 rfl rfl ((ao2, cap2)) (by rw [Nat.zero_add]) (by trivial) ?_
    (repeat (with_reducible apply Takes.cons; focus (with_reducible (repeat (first | exact Take.here | apply Take.there))))); (repeat (first | exact Takes.nil | exact Takes.self | refine takes_drop2 ?_))

/-- How many of n at the least, where there are so many. -/
abbrev lst (z : Int) (n : Nat) : Nat := (min (max 0 z) (n : Int)).toNat

theorem least_spec (h : LessOk lt lk fi ca) (z : Int) (xs : List Th) (ao : Option Addr) (m c : Nat) (B : HProp) (hm : xs.length = m) (hr : RdS B ao (xs.flatMap encT)) (hb : xs.length ≤ 4000000000000) :
    Spec Try.prog 25 [.int .i64 z, .slice ao m c, lf lk fi ca] [B] (fun (r : Option Addr × Nat × List (Th × Nat)) => .slice r.1 (lst z xs.length) r.2.1) (fun r => Srt lt xs.zipIdx r.2.2) (fun r => [B, own 2 encT r.1 r.2.1 ((r.2.2.map (·.1)).take (lst z xs.length))]) := by
  refine spec_mk (n := 19) Try.func25 rfl rfl rfl ?_
  intro Γ w0
  simp only [argE, List.cons_append, List.nil_append, Nat.zero_add, Nat.reduceAdd]
  refine c_seq ?_
  refine c_plain (.q 0 (.done)) (by kernel_rfl) ?_
  refine q_assign rfl rfl rfl rfl ?_
  refine r_done ?_
  refine k_then_n ?_
  refine c_seq ?_
  refine c_plain (.q 0 (.q 1 ((.l 2 [] (.q 3 (.done)))))) (by kernel_rfl) ?_
  refine q_move rfl rfl rfl rfl ?_
  refine q_move rfl rfl rfl rfl ?_
  have sp1 := sort_spec h xs ao m c B hm hr hb
  refine l_call rfl rfl rfl rfl rfl rfl Try.call24 (sp1) (by (repeat (with_reducible apply Takes.cons; focus (with_reducible (repeat (first | exact Take.here | apply Take.there))))); exact Takes.nil) ?_
  rintro r hr2
  try simp only [List.cons_append, List.nil_append]
  refine ag_nil ?_
  refine q_assign rfl rfl rfl rfl ?_
  refine r_done ?_
  have hlr := hr2.1.length_eq
  rw [List.length_zipIdx] at hlr
  refine s_take (A := own 2 encT r.1 r.2.1 (r.2.2.map (·.1))) (by with_reducible (repeat (first | exact Take.here | apply Take.there))) ?_
  refine own_fc fun ho1 ho2 ho3 => ?_
  refine s_keep [0, 7] (e' := [(0, _), (7, _)]) rfl ?_
  refine k_then_n ?_
  refine c_seq ?_
  refine c_plain (.q 0 (.q 1 (.q 2 (.q 3 (.q 4 (.q 5 (.q 6 ((.l 7 [] (.q 8 (.done))))))))))) (by kernel_rfl) ?_
  refine q_move rfl rfl rfl rfl ?_
  refine q_move rfl rfl rfl rfl ?_
  refine q_max rfl rfl rfl rfl rfl ?_
  refine q_move rfl rfl rfl rfl ?_
  refine q_len rfl rfl rfl rfl Try.underlying49 ?_
  refine q_min rfl rfl rfl rfl rfl ?_
  refine q_cut_hi rfl rfl rfl rfl rfl Try.underlying49 Try.sizeOf28 (h' := (min (max 0 z) (xs.length : Int)).toNat) (by omega) (by (have := ho1; simp only [List.length_map] at this; omega)) ?_
  refine s_heap (fun _ h => own_take encT_len (min (max 0 z) (xs.length : Int)).toNat h) ?_
  refine l_call rfl rfl rfl rfl rfl rfl Try.call45 (clone_spec ((r.2.2.map (·.1)).take (min (max 0 z) (xs.length : Int)).toNat) r.1 _ r.2.1 (own 2 encT r.1 r.2.1 ((r.2.2.map (·.1)).take (min (max 0 z) (xs.length : Int)).toNat)) (by rw [List.length_take, List.length_map]; omega) (rds_own encT_len (fun h => by rw [(ho2 h).1]; simp) ho3) (by rw [List.length_take, List.length_map]; omega)) (by (repeat (with_reducible apply Takes.cons; focus (with_reducible (repeat (first | exact Take.here | apply Take.there))))); exact Takes.nil) ?_
  rintro ⟨ao2, cap2⟩ -
  try simp only [List.cons_append, List.nil_append]
  refine ag_nil ?_
  refine q_assign rfl rfl rfl rfl ?_
  refine r_done ?_
  refine s_keep [6] (e' := [(6, _)]) rfl ?_
  refine k_then_n ?_
  refine c_ret ?_
  refine ret1 rfl rfl ((ao2, cap2, r.2.2)) (by rfl) (by exact hr2) ?_
  (repeat (with_reducible apply Takes.cons; focus (with_reducible (repeat (first | exact Take.here | apply Take.there))))); (repeat (first | exact Takes.nil | exact Takes.self | refine takes_drop2 ?_))

theorem same_spec (xs ys : List Th) (ao bo : Option Addr) (n m c d : Nat) (A B : HProp) (hn : xs.length = n) (hr : RdS A ao (xs.flatMap encT)) (hm : ys.length = m) (hr2 : RdS B bo (ys.flatMap encT)) (hb : n ≤ 4000000000000) :
    Spec Try.prog 30 [.slice ao n c, .slice bo m d] [A, B] (fun (_ : Unit) => .bool (decide (xs = ys))) (fun _ => True) (fun _ => [A, B]) := by
  refine spec_mk (n := 26) Try.func30 rfl rfl rfl ?_
  intro Γ w0
  simp only [argE, List.cons_append, List.nil_append, Nat.zero_add, Nat.reduceAdd]
  refine c_seq ?_
  refine c_plain (.q 0 (.done)) (by kernel_rfl) ?_
  refine q_assign rfl rfl rfl rfl ?_
  refine r_done ?_
  refine k_then_n ?_
  refine c_seq ?_
  refine c_seq ?_
  refine c_plain (.q 0 (.q 1 (.q 2 (.q 3 (.q 4 (.done)))))) (by kernel_rfl) ?_
  refine q_move rfl rfl rfl rfl ?_
  refine q_len rfl rfl rfl rfl Try.underlying49 ?_
  refine q_move rfl rfl rfl rfl ?_
  refine q_len rfl rfl rfl rfl Try.underlying49 ?_
  refine q_int rfl rfl rfl rfl rfl (b_neq _ _ _ _) ?_
  refine r_done ?_
  refine s_keep [0, 1, 10] (e' := [(0, _), (1, _), (10, _)]) rfl ?_
  refine k_then_n ?_
  refine c_cond_p rfl (fun hne => ?_) (fun hne => ?_)
  · skip
    refine c_seq ?_
    refine c_plain (.q 0 (.done)) (by kernel_rfl) ?_
    refine q_assign rfl rfl rfl rfl ?_
    refine r_done ?_
    refine k_then_n ?_
    refine c_ret ?_
    refine k_then_ret ?_
    refine ret1 rfl rfl (()) (by congr 1; symm; simp only [decide_eq_false_iff_not]; intro e; rw [e] at hn; omega) (by trivial) ?_
    (repeat (with_reducible apply Takes.cons; focus (with_reducible (repeat (first | exact Take.here | apply Take.there))))); (repeat (first | exact Takes.nil | exact Takes.self | refine takes_drop2 ?_))
  · skip
    refine c_skip ?_
    refine k_then_n ?_
    refine c_seq ?_
    refine c_seq ?_
    refine c_plain (.q 0 (.done)) (by kernel_rfl) ?_
    refine q_assign rfl rfl rfl rfl ?_
    refine r_done ?_
    refine k_then_n ?_
    refine c_block ?_
    have hnm : n = m := by omega
    subst hnm
    refine s_eq 5 rfl (v' := .int .i64 ((0 : Nat) : Int)) rfl ?_
    refine c_loop2 (α := Nat) (fun (i : Nat) => i ≤ n ∧ xs.take i = ys.take i) (fun (i : Nat) => [(5, .int .i64 ((i : Nat) : Int))]) (fun (i : Nat) => []) (fun (i : Nat) => n - i) [0, 1] (er := [(0, _), (1, _)]) rfl (0) ?_ (by exact ⟨rfl, trivial⟩) (by (try simp only [Nat.add_zero, Nat.zero_add]); (repeat (with_reducible apply Takes.cons; focus (with_reducible (repeat (first | exact Take.here | apply Take.there))))); exact Takes.nil) ?_
    · exact ⟨by omega, rfl⟩
    rintro i ⟨hi, ht⟩
    try simp only [List.cons_append, List.nil_append]
    refine c_seq ?_
    refine c_seq ?_
    refine c_plain (.q 0 (.q 1 (.q 2 (.q 3 (.done))))) (by kernel_rfl) ?_
    refine q_move rfl rfl rfl rfl ?_
    refine q_move rfl rfl rfl rfl ?_
    refine q_len rfl rfl rfl rfl Try.underlying49 ?_
    refine q_int rfl rfl rfl rfl rfl (b_lss _ _ _ _) ?_
    refine r_done ?_
    refine k_then_n ?_
    refine c_cond_p rfl (fun hlt => ?_) (fun hlt => ?_)
    · skip
      obtain ⟨x, hx⟩ := get_lt (l := xs) (i := i) (by omega)
      obtain ⟨y, hy⟩ := get_lt (l := ys) (i := i) (by omega)
      obtain ⟨xb, xo, rfl, hxn⟩ := rds_get hr encT_len hx
      obtain ⟨yb, yo, rfl, hyn⟩ := rds_get hr2 encT_len hy
      refine c_skip ?_
      refine k_then_n ?_
      refine c_seq ?_
      refine c_block ?_
      refine c_seq ?_
      refine c_draw rfl (.q 0 (.q 1 (.q 2 (.q 3 (.q 4 (.q 5 (.q 6 (.q 7 (.q 8 (.done)))))))))) (by kernel_rfl) ?_
      refine q_move rfl rfl rfl rfl ?_
      refine q_move rfl rfl rfl rfl ?_
      refine q_idx rfl rfl rfl rfl rfl Try.underlying49 Try.sizeOf28 (k := i) (by first | rfl | omega) (by omega) (by exact ⟨_, _, rfl⟩) ?_
      intro ib1 io2 hx; cases hx
      refine q_loadN rfl rfl rfl rfl Try.isAgg28 Try.sizeOf28 (by exact Take.here) (rdn_sub hxn encT_len hx) rfl ?_
      refine q_move rfl rfl rfl rfl ?_
      refine q_move rfl rfl rfl rfl ?_
      refine q_idx rfl rfl rfl rfl rfl Try.underlying49 Try.sizeOf28 (k := i) (by first | rfl | omega) (by omega) (by exact ⟨_, _, rfl⟩) ?_
      intro ib3 io4 hx; cases hx
      refine q_loadN rfl rfl rfl rfl Try.isAgg28 Try.sizeOf28 (by exact Take.there Take.here) (rdn_sub hyn encT_len hy) rfl ?_
      refine q_neS rfl rfl rfl rfl rfl (by kernel_rfl) (eqc_struct Try.underlying28 (by kernel_rfl) (eqf_cons rfl Try.isAgg3 rfl rfl (eqc_int Try.underlying3) (eqf_last rfl Try.isAgg3 rfl rfl (eqc_int Try.underlying3)))) ?_
      refine s_eq 25 rfl (v' := .bool (decide (x ≠ y))) (by congr 1; rw [Bool.eq_iff_iff]; simp [Prod.ext_iff]) ?_
      refine r_done ?_
      refine s_keep [0, 1, 5, 25] (e' := [(0, _), (1, _), (5, _), (25, _)]) rfl ?_
      refine k_then_n ?_
      refine c_cond_p rfl (fun hxy => ?_) (fun hxy => ?_)
      · skip
        refine c_seq ?_
        refine c_plain (.q 0 (.done)) (by kernel_rfl) ?_
        refine q_assign rfl rfl rfl rfl ?_
        refine r_done ?_
        refine s_keep [4] (e' := [(4, _)]) rfl ?_
        refine k_then_n ?_
        refine c_ret ?_
        refine k_blk_ret ?_
        refine k_then_ret ?_
        refine k_then_ret ?_
        refine k_blk_ret ?_
        refine k_then_ret ?_
        refine ret1 rfl rfl (()) (by congr 1; symm; simp only [decide_eq_false_iff_not]; intro e; rw [e, hy] at hx; cases hx; exact hxy rfl) (by trivial) ?_
        (repeat (with_reducible apply Takes.cons; focus (with_reducible (repeat (first | exact Take.here | apply Take.there))))); (repeat (first | exact Takes.nil | exact Takes.self | refine takes_drop2 ?_))
      · skip
        have hxy : x = y := Classical.byContradiction hxy
        refine c_skip ?_
        refine k_blk_n ?_
        refine k_then_n ?_
        refine c_plain (.q 0 (.q 1 (.q 2 (.done)))) (by kernel_rfl) ?_
        refine q_move rfl rfl rfl rfl ?_
        refine q_int rfl rfl rfl rfl rfl (b_add' _ (by (first | exact fits_i64 (by omega) (by omega) | exact fits_u64 (by omega) (by omega) | exact fits_u32 (by omega) (by omega) | exact fits_u8 (by omega) (by omega)))) ?_
        refine q_assign rfl rfl rfl rfl ?_
        refine r_done ?_
        refine k_then_n ?_
        refine loop_next (x := i) (i + 1) ?_ ?_ ?_ ?_
        · exact ⟨by omega, by rw [List.take_add_one, List.take_add_one, hx, hy, ht, hxy]⟩
        · show _ < _; omega
        · exact ⟨rfl, rfl, rfl, trivial⟩
        · (try simp only [List.cons_append, List.nil_append]); (repeat (with_reducible apply Takes.cons; focus (with_reducible (repeat (first | exact Take.here | apply Take.there))))); (repeat (first | exact Takes.nil | exact Takes.self | refine takes_drop2 ?_))
    · skip
      refine c_exit ?_
      refine k_then_exit ?_
      refine k_then_exit ?_
      refine k_blk_here ?_
      refine k_then_n ?_
      refine c_seq ?_
      refine c_plain (.q 0 (.done)) (by kernel_rfl) ?_
      refine q_assign rfl rfl rfl rfl ?_
      refine r_done ?_
      refine s_keep [4] (e' := [(4, _)]) rfl ?_
      refine k_then_n ?_
      refine c_ret ?_
      refine ret1 rfl rfl (()) (by congr 1; symm; simp only [decide_eq_true_eq]; obtain rfl : i = n := (by omega); rw [List.take_of_length_le (by omega), List.take_of_length_le (by omega)] at ht; exact ht) (by trivial) ?_
      (repeat (with_reducible apply Takes.cons; focus (with_reducible (repeat (first | exact Take.here | apply Take.there))))); (repeat (first | exact Takes.nil | exact Takes.self | refine takes_drop2 ?_))
end Go.Ab.HpT
