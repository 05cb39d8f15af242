/- Package sched's law Lists, on. -/
import Derived.Test.YtmaonhoplaebhaaSc14
set_option linter.unusedVariables false
set_option linter.unusedSimpArgs false
set_option maxRecDepth 100000
namespace Go.Ab.Sc
open Go Go.Proofs Go.Ab
theorem lists_small (n q : Nat) (v : Int) (hn : n ≤ 1048576) (hqn : 0 < q ∨ n = 0) (hq : q < 4294967296) (hbig : ¬ 4096 < ((n : Nat) : Int)) : Spec Try.prog 7 [.int .i64 ((n : Nat) : Int), .int .u32 ((q : Nat) : Int), .int .i64 v] [] (fun (_ : Unit) => .bool true) (fun _ => True) (fun _ => []) := by
  refine spec_mkM (n := 78) Try.func7 rfl rfl rfl ?_
  intro Γ w0
  simp only [argE, List.cons_append, List.nil_append, Nat.zero_add, Nat.reduceAdd]
  refine c_seq ?_
  refine c_plain ((.l 0 [] ((.l 1 [] ((.l 2 [] (.done))))))) (by kernel_rfl) ?_
  refine l_box rfl rfl rfl rfl (us := [_]) rfl ?_
  intro b3
  refine ag_nil ?_
  refine l_box rfl rfl rfl rfl (us := [_]) rfl ?_
  intro b4
  refine ag_nil ?_
  refine l_alloc rfl rfl rfl Try.zeroValue4 (zs := [.bool false]) rfl ?_
  intro b6
  refine ag_nil ?_
  refine r_done ?_
  refine k_then_n ?_
  refine c_seq ?_
  refine c_plain (.q 0 (.q 1 (.q 2 (.q 3 ((.l 4 [] ((.l 5 [] (.done))))))))) (by kernel_rfl) ?_
  refine q_move rfl rfl rfl rfl ?_
  refine q_int rfl rfl rfl rfl rfl (b_remT _ (by decide)) ?_
  have htm_v := tm_rng v (m := 300) (by decide)
  refine q_int rfl rfl rfl rfl rfl (b_add' _ (by (first | exact fits_i64 (by omega) (by omega) | exact fits_u64 (by omega) (by omega) | exact fits_u32 (by omega) (by omega) | exact fits_u8 (by omega) (by omega)))) ?_
  obtain ⟨tu, htu⟩ := Int.eq_ofNat_of_zero_le (show 0 ≤ (Int.tmod v 300 + 300) % 300 by omega)
  have htu1 : tu < 300 := by omega
  refine q_int rfl rfl rfl rfl rfl (b_rem _ (by omega) (by omega)) ?_
  refine s_eq 20 rfl (v' := .int .i64 ((tu : Nat) : Int)) (by rw [htu]) ?_
  refine l_alloc rfl rfl rfl Try.zeroValue3 (zs := [.int .i64 0]) rfl ?_
  intro b7
  refine ag_nil ?_
  refine l_store (j := 0) rfl rfl rfl rfl Try.sizeOf3 (us := [_]) rfl rfl rfl (by with_reducible (repeat (first | exact Take.here | apply Take.there))) (by first | rfl | exact (Nat.add_zero _).symm) (by first | decide | (simp; done) | omega) ?_
  simp only [setL, List.set]
  refine ag_nil ?_
  refine r_done ?_
  refine s_keep [3, 4, 6, 7] (e' := [(3, _), (4, _), (6, _), (7, _)]) rfl ?_
  refine k_then_n ?_
  refine c_seq ?_
  refine c_seq ?_
  refine c_plain (.q 0 (.q 1 (.done))) (by kernel_rfl) ?_
  refine q_load_c (j := 0) rfl rfl rfl rfl Try.isAgg3 (by with_reducible (repeat (first | exact Take.here | apply Take.there))) (by first | rfl | exact (Nat.add_zero _).symm) (by rfl) ?_
  refine q_int rfl rfl rfl rfl rfl (b_gtr _ _ _ _) ?_
  refine r_done ?_
  refine k_then_n ?_
  refine c_cond_p rfl (fun hg => by exfalso; omega) (fun hg => ?_)
  refine c_skip ?_
  refine k_then_n ?_
  refine c_seq ?_
  refine c_plain (.q 0 (.q 1 ((.l 2 [] (.q 3 (.done)))))) (by kernel_rfl) ?_
  refine q_load_c (j := 0) rfl rfl rfl rfl Try.isAgg3 (by with_reducible (repeat (first | exact Take.here | apply Take.there))) (by first | rfl | exact (Nat.add_zero _).symm) (by rfl) ?_
  refine q_load_c (j := 0) rfl rfl rfl rfl Try.isAgg25 (by with_reducible (repeat (first | exact Take.here | apply Take.there))) (by first | rfl | exact (Nat.add_zero _).symm) (by rfl) ?_
  have sp_1 := lists_spec (n : Int) q
  refine l_call rfl rfl rfl rfl rfl rfl Try.call20 (sp_1) (by (repeat ((with_reducible apply Takes.cons); focus (first | (with_reducible (repeat (first | exact Take.here | apply Take.there)); done) | (repeat (first | exact Take.here | apply Take.there))))); exact Takes.nil) ?_
  rintro ⟨bn, bq⟩ -
  try simp only [List.cons_append, List.nil_append]
  refine ag_nil ?_
  refine q_assign rfl rfl rfl rfl ?_
  refine r_done ?_
  refine s_keep [3, 4, 6, 7, 8] (e' := [(3, _), (4, _), (6, _), (7, _), (8, _)]) rfl ?_
  refine k_then_n ?_
  refine c_seq ?_
  refine c_seq ?_
  refine c_plain (.q 0 (.q 1 (.done))) (by kernel_rfl) ?_
  refine q_move rfl rfl rfl rfl ?_
  refine q_eq_nilf rfl rfl rfl rfl Try.underlying42 ?_
  refine r_done ?_
  refine k_then_n ?_
  refine c_cond_f rfl ?_
  refine c_skip ?_
  refine k_then_n ?_
  refine c_seq ?_
  refine c_plain ((.l 0 [] (.done))) (by kernel_rfl) ?_
  refine l_alloc rfl rfl rfl Try.zeroValue23 (zs := [.slice none 0 0]) rfl ?_
  intro b9
  refine ag_nil ?_
  refine r_done ?_
  refine k_then_n ?_
  refine c_seq ?_
  refine c_seq ?_
  refine c_plain (.q 0 (.done)) (by kernel_rfl) ?_
  refine q_assign rfl rfl rfl rfl ?_
  refine r_done ?_
  refine k_then_n ?_
  refine c_block ?_
  refine c_unroll 2 ?_
  refine c_seq ?_
  refine c_seq ?_
  refine c_plain (.q 0 (.q 1 (.done))) (by kernel_rfl) ?_
  refine q_move rfl rfl rfl rfl ?_
  refine q_int rfl rfl rfl rfl rfl (b_lss _ _ _ _) ?_
  refine r_done ?_
  refine k_then_n ?_
  refine c_cond_p rfl (fun hg => ?_) (fun hg => by exfalso; omega)
  refine c_skip ?_
  refine k_then_n ?_
  refine c_seq ?_
  refine c_block ?_
  refine c_seq ?_
  refine c_plain ((.l 0 [] ((.l 1 [] (.done))))) (by kernel_rfl) ?_
  refine l_alloc rfl rfl rfl Try.zeroValue3 (zs := [.int .i64 0]) rfl ?_
  intro b11
  refine ag_nil ?_
  refine l_store (j := 0) rfl rfl rfl rfl Try.sizeOf3 (us := [_]) rfl rfl rfl (by with_reducible (repeat (first | exact Take.here | apply Take.there))) (by first | rfl | exact (Nat.add_zero _).symm) (by first | decide | (simp; done) | omega) ?_
  simp only [setL, List.set]
  refine ag_nil ?_
  refine r_done ?_
  refine s_keep [3, 4, 6, 7, 8, 9, 10, 11] (e' := [(3, _), (4, _), (6, _), (7, _), (8, _), (9, _), (10, _), (11, _)]) rfl ?_
  refine k_then_n ?_
  refine c_seq ?_
  refine c_seq ?_
  refine c_plain (.q 0 (.done)) (by kernel_rfl) ?_
  refine q_move rfl rfl rfl rfl ?_
  refine r_done ?_
  refine k_then_n ?_
  refine c_block ?_
  refine s_heap (fun _ h => own_nil (sz := 1) (enc := encHW) h) ?_
  refine s_big_nil (f := owA 1 encW) ?_
  refine lj_fold (b3 := b3) (b4 := b4) (b7 := b7) (b9 := b9) (b11 := b11) (n := n) (q := q) (tu := tu) (T := ([] : List (LstA Int))) (ta := none) (tc := 0) (k := 0) (by (repeat ((with_reducible apply Takes.cons); focus (first | (with_reducible (repeat (first | exact Take.here | apply Take.there)); done) | (repeat (first | exact Take.here | apply Take.there))))); exact Takes.nil) (by rfl) ?_
  refine c_rangeF _ rfl Try.call44 (fun lp => lists1_spec n q bn bq hn hqn hq (yv lp) (LoopJ lp _ _ _ _ _) (LJ b3 b4 b7 b9 b11 n q tu) (LI n tu ([] : List (LstA Int)).length) (LF n tu ([] : List (LstA Int)).length) (fun r s ao cap hI hdv => callF_yield rfl (by decide) (by decide) (fun Γ w0 => ?_)) (([] : List (LstA Int)), none, 0, 0) ⟨rfl, Nat.zero_le _, rfl, (fun x hx => by cases hx)⟩) (by (repeat ((with_reducible apply Takes.cons); focus (first | (with_reducible (repeat (first | exact Take.here | apply Take.there)); done) | (repeat (first | exact Take.here | apply Take.there))))); exact Takes.nil) ?_
  · skip
    try simp only [zipE, List.cons_append, List.nil_append]
    obtain ⟨T_, ta_, tc_, k_⟩ := s
    obtain ⟨hk1, hk2, hk3, hk4⟩ := hI
    simp only at hk1 hk2 hk3 hk4
    try simp only [List.length_nil, Nat.zero_add] at hk3
    subst hk1
    have hdl := dg_len q n k_
    refine s_take (A := LJ b3 b4 b7 b9 b11 n q tu (T_, ta_, tc_, k_)) (by with_reducible (repeat (first | exact Take.here | apply Take.there))) ?_
    refine lj_open ?_
    refine c_plain (.q 0 (.done)) (by kernel_rfl) ?_
    refine q_assign rfl rfl rfl rfl ?_
    refine r_done ?_
    refine k_then_n ?_
    refine k_begin (by with_reducible (repeat (first | exact Take.here | apply Take.there))) ?_
    refine c_block ?_
    refine c_seq ?_
    refine c_plain (.q 0 (.q 1 (.q 2 ((.l 3 [] (.q 4 (.q 5 (.q 6 (.q 7 (.q 8 (.done))))))))))) (by kernel_rfl) ?_
    refine q_load_c (j := 0) rfl rfl rfl rfl Try.isAgg3 (by with_reducible (repeat (first | exact Take.here | apply Take.there))) (by first | rfl | exact (Nat.add_zero _).symm) (by rfl) ?_
    refine q_load_c (j := 0) rfl rfl rfl rfl Try.isAgg25 (by with_reducible (repeat (first | exact Take.here | apply Take.there))) (by first | rfl | exact (Nat.add_zero _).symm) (by rfl) ?_
    refine q_load_c (j := 0) rfl rfl rfl rfl Try.isAgg3 (by with_reducible (repeat (first | exact Take.here | apply Take.there))) (by first | rfl | exact (Nat.add_zero _).symm) (by rfl) ?_
    have sp_3 := rlist_spec n q k_ hn hqn hq (by omega)
    refine l_call rfl rfl rfl rfl rfl rfl Try.call21 (sp_3) (by (repeat ((with_reducible apply Takes.cons); focus (first | (with_reducible (repeat (first | exact Take.here | apply Take.there)); done) | (repeat (first | exact Take.here | apply Take.there))))); exact Takes.nil) ?_
    rintro ⟨xl_2a, xl_2c⟩ -
    try simp only [List.cons_append, List.nil_append]
    refine ag_nil ?_
    refine q_move rfl rfl rfl rfl ?_
    refine q_extract rfl rfl rfl rfl rfl ?_
    refine q_extract rfl rfl rfl rfl rfl ?_
    refine q_assign rfl rfl rfl rfl ?_
    refine q_assign rfl rfl rfl rfl ?_
    refine r_done ?_
    refine s_keep [6, 7, 9, 11, 12, 13, 14] (e' := [(6, _), (7, _), (9, _), (11, _), (12, _), (13, _), (14, _)]) rfl ?_
    refine k_then_n ?_
    refine c_seq ?_
    refine c_seq ?_
    refine c_plain (.q 0 (.q 1 (.q 2 (.q 3 (.q 4 ((.l 5 [] (.q 6 (.q 7 (.done)))))))))) (by kernel_rfl) ?_
    refine q_move rfl rfl rfl rfl ?_
    refine q_not rfl rfl rfl rfl ?_
    refine q_move rfl rfl rfl rfl ?_
    refine s_bool_np 45 rfl (fun hg => by exfalso; exact hg hdv) (fun hg => ?_)
    refine q_move rfl rfl rfl rfl ?_
    refine q_move rfl rfl rfl rfl ?_
    refine s_take (A := own 1 encW ao cap (dg q n k_)) (by with_reducible (repeat (first | exact Take.here | apply Take.there))) ?_
    refine own_fc fun f_4a f_4b f_4c => ?_
    refine s_take (A := own 1 encW xl_2a xl_2c (dg q n k_)) (by with_reducible (repeat (first | exact Take.here | apply Take.there))) ?_
    refine own_fc fun f_5a f_5b f_5c => ?_
    refine s_heap (fun _ h => Bun.fold ((by (repeat ((with_reducible apply Takes.cons); focus (first | (with_reducible (repeat (first | exact Take.here | apply Take.there)); done) | (repeat (first | exact Take.here | apply Take.there))))); exact Takes.nil : Takes _ [own 1 encW ao cap (dg q n k_), own 1 encW xl_2a xl_2c (dg q n k_)] _) _ h)) ?_
    have sp_6 := same_spec (dg q n k_) (dg q n k_) ao xl_2a n n cap xl_2c (Bun [own 1 encW ao cap (dg q n k_), own 1 encW xl_2a xl_2c (dg q n k_)]) (by exact dg_len _ _ _) (rds_bun (List.mem_cons_self) (rds_own encW_len (fun h => (f_4b h).1) f_4c)) (by exact dg_len _ _ _) (rds_bun (List.mem_cons_of_mem _ (List.mem_cons_self)) (rds_own encW_len (fun h => (f_5b h).1) f_5c)) (by omega)
    refine l_call rfl rfl rfl rfl rfl rfl Try.call13 (sp_6) (by (repeat ((with_reducible apply Takes.cons); focus (first | (with_reducible (repeat (first | exact Take.here | apply Take.there)); done) | (repeat (first | exact Take.here | apply Take.there))))); exact Takes.nil) ?_
    rintro ⟨⟩ -
    try simp only [List.cons_append, List.nil_append]
    refine s_take (A := Bun [own 1 encW ao cap (dg q n k_), own 1 encW xl_2a xl_2c (dg q n k_)]) (by with_reducible (repeat (first | exact Take.here | apply Take.there))) ?_
    refine s_bun ?_
    try simp only [List.cons_append, List.nil_append]
    try simp only [List.cons_append, List.nil_append]
    refine ag_nil ?_
    refine q_not rfl rfl rfl rfl ?_
    refine q_pick_f rfl rfl rfl rfl rfl ?_
    refine r_done ?_
    refine s_keep [6, 7, 9, 11, 12, 50] (e' := [(6, _), (7, _), (9, _), (11, _), (12, _), (50, _)]) rfl ?_
    refine k_then_n ?_
    refine c_cond_np rfl (fun hg => by exfalso; first | exact hg rfl | exact hg trivial | simp at hg) (fun hg => ?_)
    refine c_skip ?_
    refine k_then_n ?_
    refine c_seq ?_
    refine c_plain (.q 0 (.q 1 ((.l 2 [] ((.l 3 [] ((.l 4 [] (.done))))))))) (by kernel_rfl) ?_
    refine q_load_c (j := 0) rfl rfl rfl rfl Try.isAgg23 (by with_reducible (repeat (first | exact Take.here | apply Take.there))) (by first | rfl | exact (Nat.add_zero _).symm) (by rfl) ?_
    refine q_move rfl rfl rfl rfl ?_
    refine l_buildSlice rfl rfl rfl rfl (run_build1 (us := [_]) Try.underlying23 Try.sizeOf24 rfl Try.zeroValue24 rfl rfl rfl) ?_
    intro b53
    refine ag_nil ?_
    refine l_append (sz := 1) (enc := encHW) (xs := T_) rfl rfl rfl rfl rfl Try.underlying23 Try.typeInfo24 rfl rfl rfl (by decide) (by with_reducible (repeat (first | exact Take.here | apply Take.there))) (by with_reducible (repeat (first | exact Take.here | apply Take.there))) (by first | rfl | omega | (simp; done) | (simp; omega)) (ys := [(ao, cap, dg q n k_)]) (rds_some rdn_cells) (by simp [encHW, encH, dg_len]) (by first | rfl | omega) (encHW_len) (encHW_one) (by omega) (by show _ * 24 ≤ _; omega) ?_
    intro ao54 cp54
    refine ag_nil ?_
    refine l_store (j := 0) rfl rfl rfl rfl Try.sizeOf23 (us := [_]) rfl rfl rfl (by with_reducible (repeat (first | exact Take.here | apply Take.there))) (by first | rfl | exact (Nat.add_zero _).symm) (by first | decide | (simp; done) | omega) ?_
    simp only [setL, List.set]
    refine ag_nil ?_
    refine r_done ?_
    refine s_keep [7, 11] (e' := [(7, _), (11, _)]) rfl ?_
    refine k_then_n ?_
    refine c_seq ?_
    refine c_plain (.q 0 (.q 1 ((.l 2 [] (.done))))) (by kernel_rfl) ?_
    refine q_load_c (j := 0) rfl rfl rfl rfl Try.isAgg3 (by with_reducible (repeat (first | exact Take.here | apply Take.there))) (by first | rfl | exact (Nat.add_zero _).symm) (by rfl) ?_
    refine q_int rfl rfl rfl rfl rfl (b_add' _ (by (first | exact fits_i64 (by omega) (by omega) | exact fits_u64 (by omega) (by omega) | exact fits_u32 (by omega) (by omega) | exact fits_u8 (by omega) (by omega)))) ?_
    refine l_store (j := 0) rfl rfl rfl rfl Try.sizeOf3 (us := [_]) rfl rfl rfl (by with_reducible (repeat (first | exact Take.here | apply Take.there))) (by first | rfl | exact (Nat.add_zero _).symm) (by first | decide | (simp; done) | omega) ?_
    simp only [setL, List.set]
    refine ag_nil ?_
    refine r_done ?_
    refine k_then_n ?_
    refine c_seq ?_
    refine c_plain (.q 0 (.q 1 (.q 2 (.done)))) (by kernel_rfl) ?_
    refine q_load_c (j := 0) rfl rfl rfl rfl Try.isAgg3 (by with_reducible (repeat (first | exact Take.here | apply Take.there))) (by first | rfl | exact (Nat.add_zero _).symm) (by rfl) ?_
    refine q_load_c (j := 0) rfl rfl rfl rfl Try.isAgg3 (by with_reducible (repeat (first | exact Take.here | apply Take.there))) (by first | rfl | exact (Nat.add_zero _).symm) (by rfl) ?_
    refine q_int rfl rfl rfl rfl rfl (b_gtr _ _ _ _) ?_
    refine r_done ?_
    refine s_keep [59] (e' := [(59, _)]) rfl ?_
    refine k_then_n ?_
    refine c_cond_p rfl (fun hkt2 => ?_) (fun hkt2 => ?_)
    · skip
      refine c_exit ?_
      refine k_blk_out rfl ?_
      refine s_big_push (f := owA 1 encW) (L := T_) (x := (ao, cap, dg q n k_)) (by (repeat ((with_reducible apply Takes.cons); focus (first | (with_reducible (repeat (first | exact Take.here | apply Take.there)); done) | (repeat (first | exact Take.here | apply Take.there))))); exact Takes.nil) ?_
      refine lj_fold (b3 := b3) (b4 := b4) (b7 := b7) (b9 := b9) (b11 := b11) (n := n) (q := q) (tu := tu) (T := T_ ++ [(ao, cap, dg q n k_)]) (ta := ao54) (tc := cp54) (k := k_ + 1) (by (repeat ((with_reducible apply Takes.cons); focus (first | (with_reducible (repeat (first | exact Take.here | apply Take.there)); done) | (repeat (first | exact Take.here | apply Take.there))))); exact Takes.nil) (by first | rfl | simp) ?_
      refine rr_exit (((T_ ++ [(ao, cap, dg q n k_)], ao54, cp54, k_ + 1), some (.exit 2))) (by rfl) (by exact ⟨fun h => (by cases h), fun c hc => (by cases hc; exact ⟨rfl, (by show k_ + 1 = tu + 1; omega), (by show (T_ ++ [_]).length = _; rw [List.length_append, hk3]; first | (simp; done) | (simp; omega)), (fun x hx => by
          rcases List.mem_append.1 hx with h | h
          · exact hk4 x h
          · simp at h; subst h; show (dg q n k_).length ≤ n; rw [dg_len]; exact Nat.le_refl _)⟩)⟩) (by with_reducible (repeat (first | exact Take.here | apply Take.there))) ?_
      (try simp only [List.cons_append, List.nil_append]); (repeat ((with_reducible apply Takes.cons); focus (first | (with_reducible (repeat (first | exact Take.here | apply Take.there)); done) | (repeat (first | exact Take.here | apply Take.there))))); (repeat (first | exact Takes.nil | exact Takes.self | refine takes_drop2 ?_))
    · skip
      refine c_skip ?_
      refine k_blk_n ?_
      refine s_big_push (f := owA 1 encW) (L := T_) (x := (ao, cap, dg q n k_)) (by (repeat ((with_reducible apply Takes.cons); focus (first | (with_reducible (repeat (first | exact Take.here | apply Take.there)); done) | (repeat (first | exact Take.here | apply Take.there))))); exact Takes.nil) ?_
      refine lj_fold (b3 := b3) (b4 := b4) (b7 := b7) (b9 := b9) (b11 := b11) (n := n) (q := q) (tu := tu) (T := T_ ++ [(ao, cap, dg q n k_)]) (ta := ao54) (tc := cp54) (k := k_ + 1) (by (repeat ((with_reducible apply Takes.cons); focus (first | (with_reducible (repeat (first | exact Take.here | apply Take.there)); done) | (repeat (first | exact Take.here | apply Take.there))))); exact Takes.nil) (by first | rfl | simp) ?_
      refine rr_n (((T_ ++ [(ao, cap, dg q n k_)], ao54, cp54, k_ + 1), none)) (by rfl) (by exact ⟨fun _ => ⟨rfl, (by show k_ + 1 ≤ tu; omega), (by show (T_ ++ [_]).length = _; rw [List.length_append, hk3]; first | (simp; done) | (simp; omega)), (fun x hx => by
          rcases List.mem_append.1 hx with h | h
          · exact hk4 x h
          · simp at h; subst h; show (dg q n k_).length ≤ n; rw [dg_len]; exact Nat.le_refl _)⟩, fun c hc => (by cases hc)⟩) (by with_reducible (repeat (first | exact Take.here | apply Take.there))) ?_
      (try simp only [List.cons_append, List.nil_append]); (repeat ((with_reducible apply Takes.cons); focus (first | (with_reducible (repeat (first | exact Take.here | apply Take.there)); done) | (repeat (first | exact Take.here | apply Take.there))))); (repeat (first | exact Takes.nil | exact Takes.self | refine takes_drop2 ?_))
  rintro ⟨r1, ⟨T1, ta1, tc1, k1⟩, p1⟩ (⟨h1, h2, h3⟩ | ⟨c, h1, h2⟩) blk_7
  try simp only [List.cons_append, List.nil_append]
  · skip
    simp only at h1 h2 h3
    subst h1
    obtain ⟨hz1, hz2, hz31, hz41⟩ := h2
    simp only at hz1 hz2 hz31 hz41
    try simp only [List.length_nil, Nat.zero_add] at hz31
    subst hz1
    show Le _ _
    try simp only [List.cons_append, List.nil_append]
    refine s_take (A := LJ b3 b4 b7 b9 b11 n q tu (T1, ta1, tc1, k1)) (by with_reducible (repeat (first | exact Take.here | apply Take.there))) ?_
    refine lj_open ?_
    try simp only [List.cons_append, List.nil_append]
    refine k_blk_n ?_
    refine k_then_n ?_
    refine c_seq ?_
    refine c_plain (.q 0 (.q 1 (.q 2 ((.l 3 [] (.q 4 (.q 5 (.q 6 (.q 7 (.q 8 (.done))))))))))) (by kernel_rfl) ?_
    refine q_load_c (j := 0) rfl rfl rfl rfl Try.isAgg3 (by with_reducible (repeat (first | exact Take.here | apply Take.there))) (by first | rfl | exact (Nat.add_zero _).symm) (by rfl) ?_
    refine q_load_c (j := 0) rfl rfl rfl rfl Try.isAgg25 (by with_reducible (repeat (first | exact Take.here | apply Take.there))) (by first | rfl | exact (Nat.add_zero _).symm) (by rfl) ?_
    refine q_load_c (j := 0) rfl rfl rfl rfl Try.isAgg3 (by with_reducible (repeat (first | exact Take.here | apply Take.there))) (by first | rfl | exact (Nat.add_zero _).symm) (by rfl) ?_
    have sp_9 := rlist_spec n q k1 hn hqn hq (by omega)
    refine l_call rfl rfl rfl rfl rfl rfl Try.call21 (sp_9) (by (repeat ((with_reducible apply Takes.cons); focus (first | (with_reducible (repeat (first | exact Take.here | apply Take.there)); done) | (repeat (first | exact Take.here | apply Take.there))))); exact Takes.nil) ?_
    rintro ⟨xl_8a, xl_8c⟩ -
    try simp only [List.cons_append, List.nil_append]
    refine ag_nil ?_
    refine q_move rfl rfl rfl rfl ?_
    refine q_extract rfl rfl rfl rfl rfl ?_
    refine q_extract rfl rfl rfl rfl rfl ?_
    refine q_assign rfl rfl rfl rfl ?_
    refine q_assign rfl rfl rfl rfl ?_
    refine r_done ?_
    refine s_keep [3, 4, 6, 7, 8, 9, 10, 11, 16] (e' := [(3, _), (4, _), (6, _), (7, _), (8, _), (9, _), (10, _), (11, _), (16, _)]) rfl ?_
    refine k_then_n ?_
    refine c_seq ?_
    refine c_plain (.q 0 (.q 1 (.q 2 (.q 3 (.q 4 (.q 5 (.done))))))) (by kernel_rfl) ?_
    refine q_load_c (j := 0) rfl rfl rfl rfl Try.isAgg3 (by with_reducible (repeat (first | exact Take.here | apply Take.there))) (by first | rfl | exact (Nat.add_zero _).symm) (by rfl) ?_
    refine q_load_c (j := 0) rfl rfl rfl rfl Try.isAgg3 (by with_reducible (repeat (first | exact Take.here | apply Take.there))) (by first | rfl | exact (Nat.add_zero _).symm) (by rfl) ?_
    refine q_int rfl rfl rfl rfl rfl (b_leq _ _ _ _) ?_
    refine q_move rfl rfl rfl rfl ?_
    refine s_bool_p 70 rfl (fun hkt => ?_) (fun hkt => ?_)
    · skip
      refine q_move rfl rfl rfl rfl ?_
      refine q_pick_t rfl rfl rfl rfl rfl ?_
      refine r_done ?_
      refine s_keep [3, 4, 6, 7, 8, 9, 10, 71, 72] (e' := [(3, _), (4, _), (6, _), (7, _), (8, _), (9, _), (10, _), (71, _), (72, _)]) rfl ?_
      refine k_then_n ?_
      refine c_cond_p rfl (fun hg => by exfalso; first | exact absurd hg h3 | omega) (fun hg => ?_)
      refine c_skip ?_
      refine k_blk_n ?_
      refine k_then_n ?_
      refine c_plain (.q 0 (.q 1 (.q 2 (.done)))) (by kernel_rfl) ?_
      refine q_move rfl rfl rfl rfl ?_
      refine q_int rfl rfl rfl rfl rfl (b_add' _ (by (first | exact fits_i64 (by omega) (by omega) | exact fits_u64 (by omega) (by omega) | exact fits_u32 (by omega) (by omega) | exact fits_u8 (by omega) (by omega)))) ?_
      refine q_assign rfl rfl rfl rfl ?_
      refine r_done ?_
      refine k_then_n ?_
      refine c_round ?_
      refine c_seq ?_
      refine c_seq ?_
      refine c_plain (.q 0 (.q 1 (.done))) (by kernel_rfl) ?_
      refine q_move rfl rfl rfl rfl ?_
      refine q_int rfl rfl rfl rfl rfl (b_lss _ _ _ _) ?_
      refine r_done ?_
      refine s_keep [3, 4, 6, 7, 8, 9, 10, 31, 71] (e' := [(3, _), (4, _), (6, _), (7, _), (8, _), (9, _), (10, _), (31, _), (71, _)]) rfl ?_
      refine k_then_n ?_
      refine c_cond_p rfl (fun hg => ?_) (fun hg => by exfalso; omega)
      refine c_skip ?_
      refine k_then_n ?_
      refine c_seq ?_
      refine c_block ?_
      refine c_seq ?_
      refine c_plain ((.l 0 [] ((.l 1 [] (.done))))) (by kernel_rfl) ?_
      refine l_alloc rfl rfl rfl Try.zeroValue3 (zs := [.int .i64 0]) rfl ?_
      intro b11
      refine ag_nil ?_
      refine l_store (j := 0) rfl rfl rfl rfl Try.sizeOf3 (us := [_]) rfl rfl rfl (by with_reducible (repeat (first | exact Take.here | apply Take.there))) (by first | rfl | exact (Nat.add_zero _).symm) (by first | decide | (simp; done) | omega) ?_
      simp only [setL, List.set]
      refine ag_nil ?_
      refine r_done ?_
      refine k_then_n ?_
      refine c_seq ?_
      refine c_seq ?_
      refine c_plain (.q 0 (.done)) (by kernel_rfl) ?_
      refine q_move rfl rfl rfl rfl ?_
      refine r_done ?_
      refine k_then_n ?_
      refine c_block ?_
      refine lj_fold (b3 := b3) (b4 := b4) (b7 := b7) (b9 := b9) (b11 := b11) (n := n) (q := q) (tu := tu) (T := T1) (ta := ta1) (tc := tc1) (k := 0) (by (repeat ((with_reducible apply Takes.cons); focus (first | (with_reducible (repeat (first | exact Take.here | apply Take.there)); done) | (repeat (first | exact Take.here | apply Take.there))))); exact Takes.nil) (by rfl) ?_
      refine c_rangeF _ rfl Try.call44 (fun lp => lists1_spec n q bn bq hn hqn hq (yv lp) (LoopJ lp _ _ _ _ _) (LJ b3 b4 b7 b9 b11 n q tu) (LI n tu T1.length) (LF n tu T1.length) (fun r s ao cap hI hdv => callF_yield rfl (by decide) (by decide) (fun Γ w0 => ?_)) (T1, ta1, tc1, 0) ⟨rfl, Nat.zero_le _, rfl, hz41⟩) (by (repeat ((with_reducible apply Takes.cons); focus (first | (with_reducible (repeat (first | exact Take.here | apply Take.there)); done) | (repeat (first | exact Take.here | apply Take.there))))); exact Takes.nil) ?_
      · skip
        try simp only [zipE, List.cons_append, List.nil_append]
        obtain ⟨T_, ta_, tc_, k_⟩ := s
        obtain ⟨hk1, hk2, hk3, hk4⟩ := hI
        simp only at hk1 hk2 hk3 hk4
        try simp only [List.length_nil, Nat.zero_add] at hk3
        subst hk1
        have hdl := dg_len q n k_
        refine s_take (A := LJ b3 b4 b7 b9 b11 n q tu (T_, ta_, tc_, k_)) (by with_reducible (repeat (first | exact Take.here | apply Take.there))) ?_
        refine lj_open ?_
        refine c_plain (.q 0 (.done)) (by kernel_rfl) ?_
        refine q_assign rfl rfl rfl rfl ?_
        refine r_done ?_
        refine k_then_n ?_
        refine k_begin (by with_reducible (repeat (first | exact Take.here | apply Take.there))) ?_
        refine c_block ?_
        refine c_seq ?_
        refine c_plain (.q 0 (.q 1 (.q 2 ((.l 3 [] (.q 4 (.q 5 (.q 6 (.q 7 (.q 8 (.done))))))))))) (by kernel_rfl) ?_
        refine q_load_c (j := 0) rfl rfl rfl rfl Try.isAgg3 (by with_reducible (repeat (first | exact Take.here | apply Take.there))) (by first | rfl | exact (Nat.add_zero _).symm) (by rfl) ?_
        refine q_load_c (j := 0) rfl rfl rfl rfl Try.isAgg25 (by with_reducible (repeat (first | exact Take.here | apply Take.there))) (by first | rfl | exact (Nat.add_zero _).symm) (by rfl) ?_
        refine q_load_c (j := 0) rfl rfl rfl rfl Try.isAgg3 (by with_reducible (repeat (first | exact Take.here | apply Take.there))) (by first | rfl | exact (Nat.add_zero _).symm) (by rfl) ?_
        have sp_11 := rlist_spec n q k_ hn hqn hq (by omega)
        refine l_call rfl rfl rfl rfl rfl rfl Try.call21 (sp_11) (by (repeat ((with_reducible apply Takes.cons); focus (first | (with_reducible (repeat (first | exact Take.here | apply Take.there)); done) | (repeat (first | exact Take.here | apply Take.there))))); exact Takes.nil) ?_
        rintro ⟨xl_10a, xl_10c⟩ -
        try simp only [List.cons_append, List.nil_append]
        refine ag_nil ?_
        refine q_move rfl rfl rfl rfl ?_
        refine q_extract rfl rfl rfl rfl rfl ?_
        refine q_extract rfl rfl rfl rfl rfl ?_
        refine q_assign rfl rfl rfl rfl ?_
        refine q_assign rfl rfl rfl rfl ?_
        refine r_done ?_
        refine s_keep [6, 7, 9, 11, 12, 13, 14] (e' := [(6, _), (7, _), (9, _), (11, _), (12, _), (13, _), (14, _)]) rfl ?_
        refine k_then_n ?_
        refine c_seq ?_
        refine c_seq ?_
        refine c_plain (.q 0 (.q 1 (.q 2 (.q 3 (.q 4 ((.l 5 [] (.q 6 (.q 7 (.done)))))))))) (by kernel_rfl) ?_
        refine q_move rfl rfl rfl rfl ?_
        refine q_not rfl rfl rfl rfl ?_
        refine q_move rfl rfl rfl rfl ?_
        refine s_bool_np 45 rfl (fun hg => by exfalso; exact hg hdv) (fun hg => ?_)
        refine q_move rfl rfl rfl rfl ?_
        refine q_move rfl rfl rfl rfl ?_
        refine s_take (A := own 1 encW ao cap (dg q n k_)) (by with_reducible (repeat (first | exact Take.here | apply Take.there))) ?_
        refine own_fc fun f_12a f_12b f_12c => ?_
        refine s_take (A := own 1 encW xl_10a xl_10c (dg q n k_)) (by with_reducible (repeat (first | exact Take.here | apply Take.there))) ?_
        refine own_fc fun f_13a f_13b f_13c => ?_
        refine s_heap (fun _ h => Bun.fold ((by (repeat ((with_reducible apply Takes.cons); focus (first | (with_reducible (repeat (first | exact Take.here | apply Take.there)); done) | (repeat (first | exact Take.here | apply Take.there))))); exact Takes.nil : Takes _ [own 1 encW ao cap (dg q n k_), own 1 encW xl_10a xl_10c (dg q n k_)] _) _ h)) ?_
        have sp_14 := same_spec (dg q n k_) (dg q n k_) ao xl_10a n n cap xl_10c (Bun [own 1 encW ao cap (dg q n k_), own 1 encW xl_10a xl_10c (dg q n k_)]) (by exact dg_len _ _ _) (rds_bun (List.mem_cons_self) (rds_own encW_len (fun h => (f_12b h).1) f_12c)) (by exact dg_len _ _ _) (rds_bun (List.mem_cons_of_mem _ (List.mem_cons_self)) (rds_own encW_len (fun h => (f_13b h).1) f_13c)) (by omega)
        refine l_call rfl rfl rfl rfl rfl rfl Try.call13 (sp_14) (by (repeat ((with_reducible apply Takes.cons); focus (first | (with_reducible (repeat (first | exact Take.here | apply Take.there)); done) | (repeat (first | exact Take.here | apply Take.there))))); exact Takes.nil) ?_
        rintro ⟨⟩ -
        try simp only [List.cons_append, List.nil_append]
        refine s_take (A := Bun [own 1 encW ao cap (dg q n k_), own 1 encW xl_10a xl_10c (dg q n k_)]) (by with_reducible (repeat (first | exact Take.here | apply Take.there))) ?_
        refine s_bun ?_
        try simp only [List.cons_append, List.nil_append]
        try simp only [List.cons_append, List.nil_append]
        refine ag_nil ?_
        refine q_not rfl rfl rfl rfl ?_
        refine q_pick_f rfl rfl rfl rfl rfl ?_
        refine r_done ?_
        refine s_keep [6, 7, 9, 11, 12, 50] (e' := [(6, _), (7, _), (9, _), (11, _), (12, _), (50, _)]) rfl ?_
        refine k_then_n ?_
        refine c_cond_np rfl (fun hg => by exfalso; first | exact hg rfl | exact hg trivial | simp at hg) (fun hg => ?_)
        refine c_skip ?_
        refine k_then_n ?_
        refine c_seq ?_
        refine c_plain (.q 0 (.q 1 ((.l 2 [] ((.l 3 [] ((.l 4 [] (.done))))))))) (by kernel_rfl) ?_
        refine q_load_c (j := 0) rfl rfl rfl rfl Try.isAgg23 (by with_reducible (repeat (first | exact Take.here | apply Take.there))) (by first | rfl | exact (Nat.add_zero _).symm) (by rfl) ?_
        refine q_move rfl rfl rfl rfl ?_
        refine l_buildSlice rfl rfl rfl rfl (run_build1 (us := [_]) Try.underlying23 Try.sizeOf24 rfl Try.zeroValue24 rfl rfl rfl) ?_
        intro b53
        refine ag_nil ?_
        refine l_append (sz := 1) (enc := encHW) (xs := T_) rfl rfl rfl rfl rfl Try.underlying23 Try.typeInfo24 rfl rfl rfl (by decide) (by with_reducible (repeat (first | exact Take.here | apply Take.there))) (by with_reducible (repeat (first | exact Take.here | apply Take.there))) (by first | rfl | omega | (simp; done) | (simp; omega)) (ys := [(ao, cap, dg q n k_)]) (rds_some rdn_cells) (by simp [encHW, encH, dg_len]) (by first | rfl | omega) (encHW_len) (encHW_one) (by omega) (by show _ * 24 ≤ _; omega) ?_
        intro ao54 cp54
        refine ag_nil ?_
        refine l_store (j := 0) rfl rfl rfl rfl Try.sizeOf23 (us := [_]) rfl rfl rfl (by with_reducible (repeat (first | exact Take.here | apply Take.there))) (by first | rfl | exact (Nat.add_zero _).symm) (by first | decide | (simp; done) | omega) ?_
        simp only [setL, List.set]
        refine ag_nil ?_
        refine r_done ?_
        refine s_keep [7, 11] (e' := [(7, _), (11, _)]) rfl ?_
        refine k_then_n ?_
        refine c_seq ?_
        refine c_plain (.q 0 (.q 1 ((.l 2 [] (.done))))) (by kernel_rfl) ?_
        refine q_load_c (j := 0) rfl rfl rfl rfl Try.isAgg3 (by with_reducible (repeat (first | exact Take.here | apply Take.there))) (by first | rfl | exact (Nat.add_zero _).symm) (by rfl) ?_
        refine q_int rfl rfl rfl rfl rfl (b_add' _ (by (first | exact fits_i64 (by omega) (by omega) | exact fits_u64 (by omega) (by omega) | exact fits_u32 (by omega) (by omega) | exact fits_u8 (by omega) (by omega)))) ?_
        refine l_store (j := 0) rfl rfl rfl rfl Try.sizeOf3 (us := [_]) rfl rfl rfl (by with_reducible (repeat (first | exact Take.here | apply Take.there))) (by first | rfl | exact (Nat.add_zero _).symm) (by first | decide | (simp; done) | omega) ?_
        simp only [setL, List.set]
        refine ag_nil ?_
        refine r_done ?_
        refine k_then_n ?_
        refine c_seq ?_
        refine c_plain (.q 0 (.q 1 (.q 2 (.done)))) (by kernel_rfl) ?_
        refine q_load_c (j := 0) rfl rfl rfl rfl Try.isAgg3 (by with_reducible (repeat (first | exact Take.here | apply Take.there))) (by first | rfl | exact (Nat.add_zero _).symm) (by rfl) ?_
        refine q_load_c (j := 0) rfl rfl rfl rfl Try.isAgg3 (by with_reducible (repeat (first | exact Take.here | apply Take.there))) (by first | rfl | exact (Nat.add_zero _).symm) (by rfl) ?_
        refine q_int rfl rfl rfl rfl rfl (b_gtr _ _ _ _) ?_
        refine r_done ?_
        refine s_keep [59] (e' := [(59, _)]) rfl ?_
        refine k_then_n ?_
        refine c_cond_p rfl (fun hkt2 => ?_) (fun hkt2 => ?_)
        · skip
          refine c_exit ?_
          refine k_blk_out rfl ?_
          refine s_big_push (f := owA 1 encW) (L := T_) (x := (ao, cap, dg q n k_)) (by (repeat ((with_reducible apply Takes.cons); focus (first | (with_reducible (repeat (first | exact Take.here | apply Take.there)); done) | (repeat (first | exact Take.here | apply Take.there))))); exact Takes.nil) ?_
          refine lj_fold (b3 := b3) (b4 := b4) (b7 := b7) (b9 := b9) (b11 := b11) (n := n) (q := q) (tu := tu) (T := T_ ++ [(ao, cap, dg q n k_)]) (ta := ao54) (tc := cp54) (k := k_ + 1) (by (repeat ((with_reducible apply Takes.cons); focus (first | (with_reducible (repeat (first | exact Take.here | apply Take.there)); done) | (repeat (first | exact Take.here | apply Take.there))))); exact Takes.nil) (by first | rfl | simp) ?_
          refine rr_exit (((T_ ++ [(ao, cap, dg q n k_)], ao54, cp54, k_ + 1), some (.exit 2))) (by rfl) (by exact ⟨fun h => (by cases h), fun c hc => (by cases hc; exact ⟨rfl, (by show k_ + 1 = tu + 1; omega), (by show (T_ ++ [_]).length = _; rw [List.length_append, hk3]; first | (simp; done) | (simp; omega)), (fun x hx => by
              rcases List.mem_append.1 hx with h | h
              · exact hk4 x h
              · simp at h; subst h; show (dg q n k_).length ≤ n; rw [dg_len]; exact Nat.le_refl _)⟩)⟩) (by with_reducible (repeat (first | exact Take.here | apply Take.there))) ?_
          (try simp only [List.cons_append, List.nil_append]); (repeat ((with_reducible apply Takes.cons); focus (first | (with_reducible (repeat (first | exact Take.here | apply Take.there)); done) | (repeat (first | exact Take.here | apply Take.there))))); (repeat (first | exact Takes.nil | exact Takes.self | refine takes_drop2 ?_))
        · skip
          refine c_skip ?_
          refine k_blk_n ?_
          refine s_big_push (f := owA 1 encW) (L := T_) (x := (ao, cap, dg q n k_)) (by (repeat ((with_reducible apply Takes.cons); focus (first | (with_reducible (repeat (first | exact Take.here | apply Take.there)); done) | (repeat (first | exact Take.here | apply Take.there))))); exact Takes.nil) ?_
          refine lj_fold (b3 := b3) (b4 := b4) (b7 := b7) (b9 := b9) (b11 := b11) (n := n) (q := q) (tu := tu) (T := T_ ++ [(ao, cap, dg q n k_)]) (ta := ao54) (tc := cp54) (k := k_ + 1) (by (repeat ((with_reducible apply Takes.cons); focus (first | (with_reducible (repeat (first | exact Take.here | apply Take.there)); done) | (repeat (first | exact Take.here | apply Take.there))))); exact Takes.nil) (by first | rfl | simp) ?_
          refine rr_n (((T_ ++ [(ao, cap, dg q n k_)], ao54, cp54, k_ + 1), none)) (by rfl) (by exact ⟨fun _ => ⟨rfl, (by show k_ + 1 ≤ tu; omega), (by show (T_ ++ [_]).length = _; rw [List.length_append, hk3]; first | (simp; done) | (simp; omega)), (fun x hx => by
              rcases List.mem_append.1 hx with h | h
              · exact hk4 x h
              · simp at h; subst h; show (dg q n k_).length ≤ n; rw [dg_len]; exact Nat.le_refl _)⟩, fun c hc => (by cases hc)⟩) (by with_reducible (repeat (first | exact Take.here | apply Take.there))) ?_
          (try simp only [List.cons_append, List.nil_append]); (repeat ((with_reducible apply Takes.cons); focus (first | (with_reducible (repeat (first | exact Take.here | apply Take.there)); done) | (repeat (first | exact Take.here | apply Take.there))))); (repeat (first | exact Takes.nil | exact Takes.self | refine takes_drop2 ?_))
      rintro ⟨r1, ⟨T2, ta2, tc2, k2⟩, p1⟩ (⟨h1, h2, h3⟩ | ⟨c, h1, h2⟩) blk_15
      try simp only [List.cons_append, List.nil_append]
      · skip
        simp only at h1 h2 h3
        subst h1
        obtain ⟨hz1, hz2, hz32, hz42⟩ := h2
        simp only at hz1 hz2 hz32 hz42
        try simp only [List.length_nil, Nat.zero_add] at hz31
        subst hz1
        show Le _ _
        try simp only [List.cons_append, List.nil_append]
        refine s_take (A := LJ b3 b4 b7 b9 b11 n q tu (T2, ta2, tc2, k2)) (by with_reducible (repeat (first | exact Take.here | apply Take.there))) ?_
        refine lj_open ?_
        try simp only [List.cons_append, List.nil_append]
        refine k_blk_n ?_
        refine k_then_n ?_
        refine c_seq ?_
        refine c_plain (.q 0 (.q 1 (.q 2 ((.l 3 [] (.q 4 (.q 5 (.q 6 (.q 7 (.q 8 (.done))))))))))) (by kernel_rfl) ?_
        refine q_load_c (j := 0) rfl rfl rfl rfl Try.isAgg3 (by with_reducible (repeat (first | exact Take.here | apply Take.there))) (by first | rfl | exact (Nat.add_zero _).symm) (by rfl) ?_
        refine q_load_c (j := 0) rfl rfl rfl rfl Try.isAgg25 (by with_reducible (repeat (first | exact Take.here | apply Take.there))) (by first | rfl | exact (Nat.add_zero _).symm) (by rfl) ?_
        refine q_load_c (j := 0) rfl rfl rfl rfl Try.isAgg3 (by with_reducible (repeat (first | exact Take.here | apply Take.there))) (by first | rfl | exact (Nat.add_zero _).symm) (by rfl) ?_
        have sp_17 := rlist_spec n q k2 hn hqn hq (by omega)
        refine l_call rfl rfl rfl rfl rfl rfl Try.call21 (sp_17) (by (repeat ((with_reducible apply Takes.cons); focus (first | (with_reducible (repeat (first | exact Take.here | apply Take.there)); done) | (repeat (first | exact Take.here | apply Take.there))))); exact Takes.nil) ?_
        rintro ⟨xl_16a, xl_16c⟩ -
        try simp only [List.cons_append, List.nil_append]
        refine ag_nil ?_
        refine q_move rfl rfl rfl rfl ?_
        refine q_extract rfl rfl rfl rfl rfl ?_
        refine q_extract rfl rfl rfl rfl rfl ?_
        refine q_assign rfl rfl rfl rfl ?_
        refine q_assign rfl rfl rfl rfl ?_
        refine r_done ?_
        refine s_keep [3, 4, 6, 7, 8, 9, 10, 11, 16, 71] (e' := [(3, _), (4, _), (6, _), (7, _), (8, _), (9, _), (10, _), (11, _), (16, _), (71, _)]) rfl ?_
        refine k_then_n ?_
        refine c_seq ?_
        refine c_plain (.q 0 (.q 1 (.q 2 (.q 3 (.q 4 (.q 5 (.done))))))) (by kernel_rfl) ?_
        refine q_load_c (j := 0) rfl rfl rfl rfl Try.isAgg3 (by with_reducible (repeat (first | exact Take.here | apply Take.there))) (by first | rfl | exact (Nat.add_zero _).symm) (by rfl) ?_
        refine q_load_c (j := 0) rfl rfl rfl rfl Try.isAgg3 (by with_reducible (repeat (first | exact Take.here | apply Take.there))) (by first | rfl | exact (Nat.add_zero _).symm) (by rfl) ?_
        refine q_int rfl rfl rfl rfl rfl (b_leq _ _ _ _) ?_
        refine q_move rfl rfl rfl rfl ?_
        refine s_bool_p 70 rfl (fun hkt => ?_) (fun hkt => ?_)
        · skip
          refine q_move rfl rfl rfl rfl ?_
          refine q_pick_t rfl rfl rfl rfl rfl ?_
          refine r_done ?_
          refine s_keep [3, 4, 6, 7, 8, 9, 10, 71, 72] (e' := [(3, _), (4, _), (6, _), (7, _), (8, _), (9, _), (10, _), (71, _), (72, _)]) rfl ?_
          refine k_then_n ?_
          refine c_cond_p rfl (fun hg => by exfalso; first | exact absurd hg h3 | omega) (fun hg => ?_)
          refine c_skip ?_
          refine k_blk_n ?_
          refine k_then_n ?_
          refine c_plain (.q 0 (.q 1 (.q 2 (.done)))) (by kernel_rfl) ?_
          refine q_move rfl rfl rfl rfl ?_
          refine q_int rfl rfl rfl rfl rfl (b_add' _ (by (first | exact fits_i64 (by omega) (by omega) | exact fits_u64 (by omega) (by omega) | exact fits_u32 (by omega) (by omega) | exact fits_u8 (by omega) (by omega)))) ?_
          refine q_assign rfl rfl rfl rfl ?_
          refine r_done ?_
          refine k_then_n ?_
          refine c_round ?_
          refine c_seq ?_
          refine c_seq ?_
          refine c_plain (.q 0 (.q 1 (.done))) (by kernel_rfl) ?_
          refine q_move rfl rfl rfl rfl ?_
          refine q_int rfl rfl rfl rfl rfl (b_lss _ _ _ _) ?_
          refine r_done ?_
          refine s_keep [3, 4, 6, 7, 8, 9, 10, 31, 71] (e' := [(3, _), (4, _), (6, _), (7, _), (8, _), (9, _), (10, _), (31, _), (71, _)]) rfl ?_
          refine k_then_n ?_
          refine c_cond_p rfl (fun hg => by exfalso; omega) (fun hg => ?_)
          refine c_exit ?_
          refine k_then_exit ?_
          refine k_then_exit ?_
          refine k_blk_here ?_
          refine k_then_n ?_
          refine c_seq ?_
          refine c_plain (.q 0 ((.l 1 [] (.q 2 ((.l 3 [] (.q 4 ((.l 5 [] (.done)))))))))) (by kernel_rfl) ?_
          refine q_load_c (j := 0) rfl rfl rfl rfl Try.isAgg23 (by with_reducible (repeat (first | exact Take.here | apply Take.there))) (by first | rfl | exact (Nat.add_zero _).symm) (by rfl) ?_
          refine s_take (A := own 1 encHW ta2 tc2 T2) (by with_reducible (repeat (first | exact Take.here | apply Take.there))) ?_
          refine own_fc fun hw1 hw2 hw3 => ?_
          have sp_18 := apart_spec T2 ta2 T2.length tc2 (own 1 encHW ta2 tc2 T2) (rds_own encHW_len (fun h => (hw2 h).1) hw3) rfl (by omega) (fun x hx => Nat.le_trans (hz42 x hx) (by omega))
          refine l_call rfl rfl rfl rfl rfl rfl Try.call14 (sp_18) (by (repeat ((with_reducible apply Takes.cons); focus (first | (with_reducible (repeat (first | exact Take.here | apply Take.there)); done) | (repeat (first | exact Take.here | apply Take.there))))); exact Takes.nil) ?_
          rintro ⟨⟩ -
          try simp only [List.cons_append, List.nil_append]
          refine ag_nil ?_
          refine q_move rfl rfl rfl rfl ?_
          refine l_call rfl rfl rfl rfl rfl rfl Try.call15 (known_spec) (by (repeat ((with_reducible apply Takes.cons); focus (first | (with_reducible (repeat (first | exact Take.here | apply Take.there)); done) | (repeat (first | exact Take.here | apply Take.there))))); exact Takes.nil) ?_
          rintro ⟨⟩ -
          try simp only [List.cons_append, List.nil_append]
          refine ag_nil ?_
          refine q_pick_t rfl rfl rfl rfl rfl ?_
          refine l_store (j := 0) rfl rfl rfl rfl Try.sizeOf4 (us := [_]) rfl rfl rfl (by with_reducible (repeat (first | exact Take.here | apply Take.there))) (by first | rfl | exact (Nat.add_zero _).symm) (by first | decide | (simp; done) | omega) ?_
          simp only [setL, List.set]
          refine ag_nil ?_
          refine r_done ?_
          refine s_keep [6] (e' := [(6, _)]) rfl ?_
          refine k_then_n ?_
          refine c_ret ?_
          refine rm_ret ?_
          refine rm_mark (blk := blk_15) (by with_reducible (repeat (first | exact Take.here | apply Take.there))) ?_
          refine rm_mark (blk := blk_7) (by with_reducible (repeat (first | exact Take.here | apply Take.there))) ?_
          refine rm_done (us := [_]) rfl ⟨rv_cell1 rfl Try.isAgg4 (by with_reducible (repeat (first | exact Take.here | apply Take.there))) (j := 0) rfl rfl, trivial⟩ (()) (by first | rfl | (first | rfl | (congr 1; done) | (congr 1 <;> first | rfl | omega | (simp; done) | (simp; omega)))) (by trivial) ?_
          (repeat ((with_reducible apply Takes.cons); focus (first | (with_reducible (repeat (first | exact Take.here | apply Take.there)); done) | (repeat (first | exact Take.here | apply Take.there))))); (repeat (first | exact Takes.nil | exact Takes.self | refine takes_drop2 ?_))
        · skip
          refine q_skip rfl rfl rfl rfl ?_
          refine q_pick_f rfl rfl rfl rfl rfl ?_
          refine r_done ?_
          refine s_keep [3, 4, 6, 7, 8, 9, 10, 71, 72] (e' := [(3, _), (4, _), (6, _), (7, _), (8, _), (9, _), (10, _), (71, _), (72, _)]) rfl ?_
          refine k_then_n ?_
          refine c_cond_f rfl ?_
          refine c_skip ?_
          refine k_blk_n ?_
          refine k_then_n ?_
          refine c_plain (.q 0 (.q 1 (.q 2 (.done)))) (by kernel_rfl) ?_
          refine q_move rfl rfl rfl rfl ?_
          refine q_int rfl rfl rfl rfl rfl (b_add' _ (by (first | exact fits_i64 (by omega) (by omega) | exact fits_u64 (by omega) (by omega) | exact fits_u32 (by omega) (by omega) | exact fits_u8 (by omega) (by omega)))) ?_
          refine q_assign rfl rfl rfl rfl ?_
          refine r_done ?_
          refine k_then_n ?_
          refine c_round ?_
          refine c_seq ?_
          refine c_seq ?_
          refine c_plain (.q 0 (.q 1 (.done))) (by kernel_rfl) ?_
          refine q_move rfl rfl rfl rfl ?_
          refine q_int rfl rfl rfl rfl rfl (b_lss _ _ _ _) ?_
          refine r_done ?_
          refine s_keep [3, 4, 6, 7, 8, 9, 10, 31, 71] (e' := [(3, _), (4, _), (6, _), (7, _), (8, _), (9, _), (10, _), (31, _), (71, _)]) rfl ?_
          refine k_then_n ?_
          refine c_cond_p rfl (fun hg => by exfalso; omega) (fun hg => ?_)
          refine c_exit ?_
          refine k_then_exit ?_
          refine k_then_exit ?_
          refine k_blk_here ?_
          refine k_then_n ?_
          refine c_seq ?_
          refine c_plain (.q 0 ((.l 1 [] (.q 2 ((.l 3 [] (.q 4 ((.l 5 [] (.done)))))))))) (by kernel_rfl) ?_
          refine q_load_c (j := 0) rfl rfl rfl rfl Try.isAgg23 (by with_reducible (repeat (first | exact Take.here | apply Take.there))) (by first | rfl | exact (Nat.add_zero _).symm) (by rfl) ?_
          refine s_take (A := own 1 encHW ta2 tc2 T2) (by with_reducible (repeat (first | exact Take.here | apply Take.there))) ?_
          refine own_fc fun hw1 hw2 hw3 => ?_
          have sp_19 := apart_spec T2 ta2 T2.length tc2 (own 1 encHW ta2 tc2 T2) (rds_own encHW_len (fun h => (hw2 h).1) hw3) rfl (by omega) (fun x hx => Nat.le_trans (hz42 x hx) (by omega))
          refine l_call rfl rfl rfl rfl rfl rfl Try.call14 (sp_19) (by (repeat ((with_reducible apply Takes.cons); focus (first | (with_reducible (repeat (first | exact Take.here | apply Take.there)); done) | (repeat (first | exact Take.here | apply Take.there))))); exact Takes.nil) ?_
          rintro ⟨⟩ -
          try simp only [List.cons_append, List.nil_append]
          refine ag_nil ?_
          refine q_move rfl rfl rfl rfl ?_
          refine l_call rfl rfl rfl rfl rfl rfl Try.call15 (known_spec) (by (repeat ((with_reducible apply Takes.cons); focus (first | (with_reducible (repeat (first | exact Take.here | apply Take.there)); done) | (repeat (first | exact Take.here | apply Take.there))))); exact Takes.nil) ?_
          rintro ⟨⟩ -
          try simp only [List.cons_append, List.nil_append]
          refine ag_nil ?_
          refine q_pick_t rfl rfl rfl rfl rfl ?_
          refine l_store (j := 0) rfl rfl rfl rfl Try.sizeOf4 (us := [_]) rfl rfl rfl (by with_reducible (repeat (first | exact Take.here | apply Take.there))) (by first | rfl | exact (Nat.add_zero _).symm) (by first | decide | (simp; done) | omega) ?_
          simp only [setL, List.set]
          refine ag_nil ?_
          refine r_done ?_
          refine s_keep [6] (e' := [(6, _)]) rfl ?_
          refine k_then_n ?_
          refine c_ret ?_
          refine rm_ret ?_
          refine rm_mark (blk := blk_15) (by with_reducible (repeat (first | exact Take.here | apply Take.there))) ?_
          refine rm_mark (blk := blk_7) (by with_reducible (repeat (first | exact Take.here | apply Take.there))) ?_
          refine rm_done (us := [_]) rfl ⟨rv_cell1 rfl Try.isAgg4 (by with_reducible (repeat (first | exact Take.here | apply Take.there))) (j := 0) rfl rfl, trivial⟩ (()) (by first | rfl | (first | rfl | (congr 1; done) | (congr 1 <;> first | rfl | omega | (simp; done) | (simp; omega)))) (by trivial) ?_
          (repeat ((with_reducible apply Takes.cons); focus (first | (with_reducible (repeat (first | exact Take.here | apply Take.there)); done) | (repeat (first | exact Take.here | apply Take.there))))); (repeat (first | exact Takes.nil | exact Takes.self | refine takes_drop2 ?_))
      · skip
        simp only at h1 h2
        obtain ⟨hc1, hz1, hz32, hz42⟩ := h2
        simp only at hz1 hz32 hz42
        try simp only [List.length_nil, Nat.zero_add] at hz31
        subst hc1
        subst h1
        show Le _ _
        try simp only [List.cons_append, List.nil_append]
        refine s_take (A := LJ b3 b4 b7 b9 b11 n q tu (T2, ta2, tc2, k2)) (by with_reducible (repeat (first | exact Take.here | apply Take.there))) ?_
        refine lj_open ?_
        try simp only [List.cons_append, List.nil_append]
        refine c_exit ?_
        refine k_blk_here ?_
        refine k_then_n ?_
        refine c_seq ?_
        refine c_plain (.q 0 (.q 1 (.q 2 ((.l 3 [] (.q 4 (.q 5 (.q 6 (.q 7 (.q 8 (.done))))))))))) (by kernel_rfl) ?_
        refine q_load_c (j := 0) rfl rfl rfl rfl Try.isAgg3 (by with_reducible (repeat (first | exact Take.here | apply Take.there))) (by first | rfl | exact (Nat.add_zero _).symm) (by rfl) ?_
        refine q_load_c (j := 0) rfl rfl rfl rfl Try.isAgg25 (by with_reducible (repeat (first | exact Take.here | apply Take.there))) (by first | rfl | exact (Nat.add_zero _).symm) (by rfl) ?_
        refine q_load_c (j := 0) rfl rfl rfl rfl Try.isAgg3 (by with_reducible (repeat (first | exact Take.here | apply Take.there))) (by first | rfl | exact (Nat.add_zero _).symm) (by rfl) ?_
        have sp_21 := rlist_spec n q k2 hn hqn hq (by omega)
        refine l_call rfl rfl rfl rfl rfl rfl Try.call21 (sp_21) (by (repeat ((with_reducible apply Takes.cons); focus (first | (with_reducible (repeat (first | exact Take.here | apply Take.there)); done) | (repeat (first | exact Take.here | apply Take.there))))); exact Takes.nil) ?_
        rintro ⟨xl_20a, xl_20c⟩ -
        try simp only [List.cons_append, List.nil_append]
        refine ag_nil ?_
        refine q_move rfl rfl rfl rfl ?_
        refine q_extract rfl rfl rfl rfl rfl ?_
        refine q_extract rfl rfl rfl rfl rfl ?_
        refine q_assign rfl rfl rfl rfl ?_
        refine q_assign rfl rfl rfl rfl ?_
        refine r_done ?_
        refine s_keep [3, 4, 6, 7, 8, 9, 10, 11, 16, 71] (e' := [(3, _), (4, _), (6, _), (7, _), (8, _), (9, _), (10, _), (11, _), (16, _), (71, _)]) rfl ?_
        refine k_then_n ?_
        refine c_seq ?_
        refine c_plain (.q 0 (.q 1 (.q 2 (.q 3 (.q 4 (.q 5 (.done))))))) (by kernel_rfl) ?_
        refine q_load_c (j := 0) rfl rfl rfl rfl Try.isAgg3 (by with_reducible (repeat (first | exact Take.here | apply Take.there))) (by first | rfl | exact (Nat.add_zero _).symm) (by rfl) ?_
        refine q_load_c (j := 0) rfl rfl rfl rfl Try.isAgg3 (by with_reducible (repeat (first | exact Take.here | apply Take.there))) (by first | rfl | exact (Nat.add_zero _).symm) (by rfl) ?_
        refine q_int rfl rfl rfl rfl rfl (b_leq _ _ _ _) ?_
        refine q_move rfl rfl rfl rfl ?_
        refine s_bool_p 70 rfl (fun hkt => ?_) (fun hkt => ?_)
        · skip
          refine q_move rfl rfl rfl rfl ?_
          refine q_pick_t rfl rfl rfl rfl rfl ?_
          refine r_done ?_
          refine s_keep [3, 4, 6, 7, 8, 9, 10, 71, 72] (e' := [(3, _), (4, _), (6, _), (7, _), (8, _), (9, _), (10, _), (71, _), (72, _)]) rfl ?_
          refine k_then_n ?_
          refine c_cond_p rfl (fun hg => by exfalso; first | exact absurd hg h3 | omega) (fun hg => ?_)
          refine c_skip ?_
          refine k_blk_n ?_
          refine k_then_n ?_
          refine c_plain (.q 0 (.q 1 (.q 2 (.done)))) (by kernel_rfl) ?_
          refine q_move rfl rfl rfl rfl ?_
          refine q_int rfl rfl rfl rfl rfl (b_add' _ (by (first | exact fits_i64 (by omega) (by omega) | exact fits_u64 (by omega) (by omega) | exact fits_u32 (by omega) (by omega) | exact fits_u8 (by omega) (by omega)))) ?_
          refine q_assign rfl rfl rfl rfl ?_
          refine r_done ?_
          refine k_then_n ?_
          refine c_round ?_
          refine c_seq ?_
          refine c_seq ?_
          refine c_plain (.q 0 (.q 1 (.done))) (by kernel_rfl) ?_
          refine q_move rfl rfl rfl rfl ?_
          refine q_int rfl rfl rfl rfl rfl (b_lss _ _ _ _) ?_
          refine r_done ?_
          refine s_keep [3, 4, 6, 7, 8, 9, 10, 31, 71] (e' := [(3, _), (4, _), (6, _), (7, _), (8, _), (9, _), (10, _), (31, _), (71, _)]) rfl ?_
          refine k_then_n ?_
          refine c_cond_p rfl (fun hg => by exfalso; omega) (fun hg => ?_)
          refine c_exit ?_
          refine k_then_exit ?_
          refine k_then_exit ?_
          refine k_blk_here ?_
          refine k_then_n ?_
          refine c_seq ?_
          refine c_plain (.q 0 ((.l 1 [] (.q 2 ((.l 3 [] (.q 4 ((.l 5 [] (.done)))))))))) (by kernel_rfl) ?_
          refine q_load_c (j := 0) rfl rfl rfl rfl Try.isAgg23 (by with_reducible (repeat (first | exact Take.here | apply Take.there))) (by first | rfl | exact (Nat.add_zero _).symm) (by rfl) ?_
          refine s_take (A := own 1 encHW ta2 tc2 T2) (by with_reducible (repeat (first | exact Take.here | apply Take.there))) ?_
          refine own_fc fun hw1 hw2 hw3 => ?_
          have sp_22 := apart_spec T2 ta2 T2.length tc2 (own 1 encHW ta2 tc2 T2) (rds_own encHW_len (fun h => (hw2 h).1) hw3) rfl (by omega) (fun x hx => Nat.le_trans (hz42 x hx) (by omega))
          refine l_call rfl rfl rfl rfl rfl rfl Try.call14 (sp_22) (by (repeat ((with_reducible apply Takes.cons); focus (first | (with_reducible (repeat (first | exact Take.here | apply Take.there)); done) | (repeat (first | exact Take.here | apply Take.there))))); exact Takes.nil) ?_
          rintro ⟨⟩ -
          try simp only [List.cons_append, List.nil_append]
          refine ag_nil ?_
          refine q_move rfl rfl rfl rfl ?_
          refine l_call rfl rfl rfl rfl rfl rfl Try.call15 (known_spec) (by (repeat ((with_reducible apply Takes.cons); focus (first | (with_reducible (repeat (first | exact Take.here | apply Take.there)); done) | (repeat (first | exact Take.here | apply Take.there))))); exact Takes.nil) ?_
          rintro ⟨⟩ -
          try simp only [List.cons_append, List.nil_append]
          refine ag_nil ?_
          refine q_pick_t rfl rfl rfl rfl rfl ?_
          refine l_store (j := 0) rfl rfl rfl rfl Try.sizeOf4 (us := [_]) rfl rfl rfl (by with_reducible (repeat (first | exact Take.here | apply Take.there))) (by first | rfl | exact (Nat.add_zero _).symm) (by first | decide | (simp; done) | omega) ?_
          simp only [setL, List.set]
          refine ag_nil ?_
          refine r_done ?_
          refine s_keep [6] (e' := [(6, _)]) rfl ?_
          refine k_then_n ?_
          refine c_ret ?_
          refine rm_ret ?_
          refine rm_mark (blk := blk_15) (by with_reducible (repeat (first | exact Take.here | apply Take.there))) ?_
          refine rm_mark (blk := blk_7) (by with_reducible (repeat (first | exact Take.here | apply Take.there))) ?_
          refine rm_done (us := [_]) rfl ⟨rv_cell1 rfl Try.isAgg4 (by with_reducible (repeat (first | exact Take.here | apply Take.there))) (j := 0) rfl rfl, trivial⟩ (()) (by first | rfl | (first | rfl | (congr 1; done) | (congr 1 <;> first | rfl | omega | (simp; done) | (simp; omega)))) (by trivial) ?_
          (repeat ((with_reducible apply Takes.cons); focus (first | (with_reducible (repeat (first | exact Take.here | apply Take.there)); done) | (repeat (first | exact Take.here | apply Take.there))))); (repeat (first | exact Takes.nil | exact Takes.self | refine takes_drop2 ?_))
        · skip
          refine q_skip rfl rfl rfl rfl ?_
          refine q_pick_f rfl rfl rfl rfl rfl ?_
          refine r_done ?_
          refine s_keep [3, 4, 6, 7, 8, 9, 10, 71, 72] (e' := [(3, _), (4, _), (6, _), (7, _), (8, _), (9, _), (10, _), (71, _), (72, _)]) rfl ?_
          refine k_then_n ?_
          refine c_cond_f rfl ?_
          refine c_skip ?_
          refine k_blk_n ?_
          refine k_then_n ?_
          refine c_plain (.q 0 (.q 1 (.q 2 (.done)))) (by kernel_rfl) ?_
          refine q_move rfl rfl rfl rfl ?_
          refine q_int rfl rfl rfl rfl rfl (b_add' _ (by (first | exact fits_i64 (by omega) (by omega) | exact fits_u64 (by omega) (by omega) | exact fits_u32 (by omega) (by omega) | exact fits_u8 (by omega) (by omega)))) ?_
          refine q_assign rfl rfl rfl rfl ?_
          refine r_done ?_
          refine k_then_n ?_
          refine c_round ?_
          refine c_seq ?_
          refine c_seq ?_
          refine c_plain (.q 0 (.q 1 (.done))) (by kernel_rfl) ?_
          refine q_move rfl rfl rfl rfl ?_
          refine q_int rfl rfl rfl rfl rfl (b_lss _ _ _ _) ?_
          refine r_done ?_
          refine s_keep [3, 4, 6, 7, 8, 9, 10, 31, 71] (e' := [(3, _), (4, _), (6, _), (7, _), (8, _), (9, _), (10, _), (31, _), (71, _)]) rfl ?_
          refine k_then_n ?_
          refine c_cond_p rfl (fun hg => by exfalso; omega) (fun hg => ?_)
          refine c_exit ?_
          refine k_then_exit ?_
          refine k_then_exit ?_
          refine k_blk_here ?_
          refine k_then_n ?_
          refine c_seq ?_
          refine c_plain (.q 0 ((.l 1 [] (.q 2 ((.l 3 [] (.q 4 ((.l 5 [] (.done)))))))))) (by kernel_rfl) ?_
          refine q_load_c (j := 0) rfl rfl rfl rfl Try.isAgg23 (by with_reducible (repeat (first | exact Take.here | apply Take.there))) (by first | rfl | exact (Nat.add_zero _).symm) (by rfl) ?_
          refine s_take (A := own 1 encHW ta2 tc2 T2) (by with_reducible (repeat (first | exact Take.here | apply Take.there))) ?_
          refine own_fc fun hw1 hw2 hw3 => ?_
          have sp_23 := apart_spec T2 ta2 T2.length tc2 (own 1 encHW ta2 tc2 T2) (rds_own encHW_len (fun h => (hw2 h).1) hw3) rfl (by omega) (fun x hx => Nat.le_trans (hz42 x hx) (by omega))
          refine l_call rfl rfl rfl rfl rfl rfl Try.call14 (sp_23) (by (repeat ((with_reducible apply Takes.cons); focus (first | (with_reducible (repeat (first | exact Take.here | apply Take.there)); done) | (repeat (first | exact Take.here | apply Take.there))))); exact Takes.nil) ?_
          rintro ⟨⟩ -
          try simp only [List.cons_append, List.nil_append]
          refine ag_nil ?_
          refine q_move rfl rfl rfl rfl ?_
          refine l_call rfl rfl rfl rfl rfl rfl Try.call15 (known_spec) (by (repeat ((with_reducible apply Takes.cons); focus (first | (with_reducible (repeat (first | exact Take.here | apply Take.there)); done) | (repeat (first | exact Take.here | apply Take.there))))); exact Takes.nil) ?_
          rintro ⟨⟩ -
          try simp only [List.cons_append, List.nil_append]
          refine ag_nil ?_
          refine q_pick_t rfl rfl rfl rfl rfl ?_
          refine l_store (j := 0) rfl rfl rfl rfl Try.sizeOf4 (us := [_]) rfl rfl rfl (by with_reducible (repeat (first | exact Take.here | apply Take.there))) (by first | rfl | exact (Nat.add_zero _).symm) (by first | decide | (simp; done) | omega) ?_
          simp only [setL, List.set]
          refine ag_nil ?_
          refine r_done ?_
          refine s_keep [6] (e' := [(6, _)]) rfl ?_
          refine k_then_n ?_
          refine c_ret ?_
          refine rm_ret ?_
          refine rm_mark (blk := blk_15) (by with_reducible (repeat (first | exact Take.here | apply Take.there))) ?_
          refine rm_mark (blk := blk_7) (by with_reducible (repeat (first | exact Take.here | apply Take.there))) ?_
          refine rm_done (us := [_]) rfl ⟨rv_cell1 rfl Try.isAgg4 (by with_reducible (repeat (first | exact Take.here | apply Take.there))) (j := 0) rfl rfl, trivial⟩ (()) (by first | rfl | (first | rfl | (congr 1; done) | (congr 1 <;> first | rfl | omega | (simp; done) | (simp; omega)))) (by trivial) ?_
          (repeat ((with_reducible apply Takes.cons); focus (first | (with_reducible (repeat (first | exact Take.here | apply Take.there)); done) | (repeat (first | exact Take.here | apply Take.there))))); (repeat (first | exact Takes.nil | exact Takes.self | refine takes_drop2 ?_))
    · skip
      refine q_skip rfl rfl rfl rfl ?_
      refine q_pick_f rfl rfl rfl rfl rfl ?_
      refine r_done ?_
      refine s_keep [3, 4, 6, 7, 8, 9, 10, 71, 72] (e' := [(3, _), (4, _), (6, _), (7, _), (8, _), (9, _), (10, _), (71, _), (72, _)]) rfl ?_
      refine k_then_n ?_
      refine c_cond_f rfl ?_
      refine c_skip ?_
      refine k_blk_n ?_
      refine k_then_n ?_
      refine c_plain (.q 0 (.q 1 (.q 2 (.done)))) (by kernel_rfl) ?_
      refine q_move rfl rfl rfl rfl ?_
      refine q_int rfl rfl rfl rfl rfl (b_add' _ (by (first | exact fits_i64 (by omega) (by omega) | exact fits_u64 (by omega) (by omega) | exact fits_u32 (by omega) (by omega) | exact fits_u8 (by omega) (by omega)))) ?_
      refine q_assign rfl rfl rfl rfl ?_
      refine r_done ?_
      refine k_then_n ?_
      refine c_round ?_
      refine c_seq ?_
      refine c_seq ?_
      refine c_plain (.q 0 (.q 1 (.done))) (by kernel_rfl) ?_
      refine q_move rfl rfl rfl rfl ?_
      refine q_int rfl rfl rfl rfl rfl (b_lss _ _ _ _) ?_
      refine r_done ?_
      refine s_keep [3, 4, 6, 7, 8, 9, 10, 31, 71] (e' := [(3, _), (4, _), (6, _), (7, _), (8, _), (9, _), (10, _), (31, _), (71, _)]) rfl ?_
      refine k_then_n ?_
      refine c_cond_p rfl (fun hg => ?_) (fun hg => by exfalso; omega)
      refine c_skip ?_
      refine k_then_n ?_
      refine c_seq ?_
      refine c_block ?_
      refine c_seq ?_
      refine c_plain ((.l 0 [] ((.l 1 [] (.done))))) (by kernel_rfl) ?_
      refine l_alloc rfl rfl rfl Try.zeroValue3 (zs := [.int .i64 0]) rfl ?_
      intro b11
      refine ag_nil ?_
      refine l_store (j := 0) rfl rfl rfl rfl Try.sizeOf3 (us := [_]) rfl rfl rfl (by with_reducible (repeat (first | exact Take.here | apply Take.there))) (by first | rfl | exact (Nat.add_zero _).symm) (by first | decide | (simp; done) | omega) ?_
      simp only [setL, List.set]
      refine ag_nil ?_
      refine r_done ?_
      refine k_then_n ?_
      refine c_seq ?_
      refine c_seq ?_
      refine c_plain (.q 0 (.done)) (by kernel_rfl) ?_
      refine q_move rfl rfl rfl rfl ?_
      refine r_done ?_
      refine k_then_n ?_
      refine c_block ?_
      refine lj_fold (b3 := b3) (b4 := b4) (b7 := b7) (b9 := b9) (b11 := b11) (n := n) (q := q) (tu := tu) (T := T1) (ta := ta1) (tc := tc1) (k := 0) (by (repeat ((with_reducible apply Takes.cons); focus (first | (with_reducible (repeat (first | exact Take.here | apply Take.there)); done) | (repeat (first | exact Take.here | apply Take.there))))); exact Takes.nil) (by rfl) ?_
      refine c_rangeF _ rfl Try.call44 (fun lp => lists1_spec n q bn bq hn hqn hq (yv lp) (LoopJ lp _ _ _ _ _) (LJ b3 b4 b7 b9 b11 n q tu) (LI n tu T1.length) (LF n tu T1.length) (fun r s ao cap hI hdv => callF_yield rfl (by decide) (by decide) (fun Γ w0 => ?_)) (T1, ta1, tc1, 0) ⟨rfl, Nat.zero_le _, rfl, hz41⟩) (by (repeat ((with_reducible apply Takes.cons); focus (first | (with_reducible (repeat (first | exact Take.here | apply Take.there)); done) | (repeat (first | exact Take.here | apply Take.there))))); exact Takes.nil) ?_
      · skip
        try simp only [zipE, List.cons_append, List.nil_append]
        obtain ⟨T_, ta_, tc_, k_⟩ := s
        obtain ⟨hk1, hk2, hk3, hk4⟩ := hI
        simp only at hk1 hk2 hk3 hk4
        try simp only [List.length_nil, Nat.zero_add] at hk3
        subst hk1
        have hdl := dg_len q n k_
        refine s_take (A := LJ b3 b4 b7 b9 b11 n q tu (T_, ta_, tc_, k_)) (by with_reducible (repeat (first | exact Take.here | apply Take.there))) ?_
        refine lj_open ?_
        refine c_plain (.q 0 (.done)) (by kernel_rfl) ?_
        refine q_assign rfl rfl rfl rfl ?_
        refine r_done ?_
        refine k_then_n ?_
        refine k_begin (by with_reducible (repeat (first | exact Take.here | apply Take.there))) ?_
        refine c_block ?_
        refine c_seq ?_
        refine c_plain (.q 0 (.q 1 (.q 2 ((.l 3 [] (.q 4 (.q 5 (.q 6 (.q 7 (.q 8 (.done))))))))))) (by kernel_rfl) ?_
        refine q_load_c (j := 0) rfl rfl rfl rfl Try.isAgg3 (by with_reducible (repeat (first | exact Take.here | apply Take.there))) (by first | rfl | exact (Nat.add_zero _).symm) (by rfl) ?_
        refine q_load_c (j := 0) rfl rfl rfl rfl Try.isAgg25 (by with_reducible (repeat (first | exact Take.here | apply Take.there))) (by first | rfl | exact (Nat.add_zero _).symm) (by rfl) ?_
        refine q_load_c (j := 0) rfl rfl rfl rfl Try.isAgg3 (by with_reducible (repeat (first | exact Take.here | apply Take.there))) (by first | rfl | exact (Nat.add_zero _).symm) (by rfl) ?_
        have sp_25 := rlist_spec n q k_ hn hqn hq (by omega)
        refine l_call rfl rfl rfl rfl rfl rfl Try.call21 (sp_25) (by (repeat ((with_reducible apply Takes.cons); focus (first | (with_reducible (repeat (first | exact Take.here | apply Take.there)); done) | (repeat (first | exact Take.here | apply Take.there))))); exact Takes.nil) ?_
        rintro ⟨xl_24a, xl_24c⟩ -
        try simp only [List.cons_append, List.nil_append]
        refine ag_nil ?_
        refine q_move rfl rfl rfl rfl ?_
        refine q_extract rfl rfl rfl rfl rfl ?_
        refine q_extract rfl rfl rfl rfl rfl ?_
        refine q_assign rfl rfl rfl rfl ?_
        refine q_assign rfl rfl rfl rfl ?_
        refine r_done ?_
        refine s_keep [6, 7, 9, 11, 12, 13, 14] (e' := [(6, _), (7, _), (9, _), (11, _), (12, _), (13, _), (14, _)]) rfl ?_
        refine k_then_n ?_
        refine c_seq ?_
        refine c_seq ?_
        refine c_plain (.q 0 (.q 1 (.q 2 (.q 3 (.q 4 ((.l 5 [] (.q 6 (.q 7 (.done)))))))))) (by kernel_rfl) ?_
        refine q_move rfl rfl rfl rfl ?_
        refine q_not rfl rfl rfl rfl ?_
        refine q_move rfl rfl rfl rfl ?_
        refine s_bool_np 45 rfl (fun hg => by exfalso; exact hg hdv) (fun hg => ?_)
        refine q_move rfl rfl rfl rfl ?_
        refine q_move rfl rfl rfl rfl ?_
        refine s_take (A := own 1 encW ao cap (dg q n k_)) (by with_reducible (repeat (first | exact Take.here | apply Take.there))) ?_
        refine own_fc fun f_26a f_26b f_26c => ?_
        refine s_take (A := own 1 encW xl_24a xl_24c (dg q n k_)) (by with_reducible (repeat (first | exact Take.here | apply Take.there))) ?_
        refine own_fc fun f_27a f_27b f_27c => ?_
        refine s_heap (fun _ h => Bun.fold ((by (repeat ((with_reducible apply Takes.cons); focus (first | (with_reducible (repeat (first | exact Take.here | apply Take.there)); done) | (repeat (first | exact Take.here | apply Take.there))))); exact Takes.nil : Takes _ [own 1 encW ao cap (dg q n k_), own 1 encW xl_24a xl_24c (dg q n k_)] _) _ h)) ?_
        have sp_28 := same_spec (dg q n k_) (dg q n k_) ao xl_24a n n cap xl_24c (Bun [own 1 encW ao cap (dg q n k_), own 1 encW xl_24a xl_24c (dg q n k_)]) (by exact dg_len _ _ _) (rds_bun (List.mem_cons_self) (rds_own encW_len (fun h => (f_26b h).1) f_26c)) (by exact dg_len _ _ _) (rds_bun (List.mem_cons_of_mem _ (List.mem_cons_self)) (rds_own encW_len (fun h => (f_27b h).1) f_27c)) (by omega)
        refine l_call rfl rfl rfl rfl rfl rfl Try.call13 (sp_28) (by (repeat ((with_reducible apply Takes.cons); focus (first | (with_reducible (repeat (first | exact Take.here | apply Take.there)); done) | (repeat (first | exact Take.here | apply Take.there))))); exact Takes.nil) ?_
        rintro ⟨⟩ -
        try simp only [List.cons_append, List.nil_append]
        refine s_take (A := Bun [own 1 encW ao cap (dg q n k_), own 1 encW xl_24a xl_24c (dg q n k_)]) (by with_reducible (repeat (first | exact Take.here | apply Take.there))) ?_
        refine s_bun ?_
        try simp only [List.cons_append, List.nil_append]
        try simp only [List.cons_append, List.nil_append]
        refine ag_nil ?_
        refine q_not rfl rfl rfl rfl ?_
        refine q_pick_f rfl rfl rfl rfl rfl ?_
        refine r_done ?_
        refine s_keep [6, 7, 9, 11, 12, 50] (e' := [(6, _), (7, _), (9, _), (11, _), (12, _), (50, _)]) rfl ?_
        refine k_then_n ?_
        refine c_cond_np rfl (fun hg => by exfalso; first | exact hg rfl | exact hg trivial | simp at hg) (fun hg => ?_)
        refine c_skip ?_
        refine k_then_n ?_
        refine c_seq ?_
        refine c_plain (.q 0 (.q 1 ((.l 2 [] ((.l 3 [] ((.l 4 [] (.done))))))))) (by kernel_rfl) ?_
        refine q_load_c (j := 0) rfl rfl rfl rfl Try.isAgg23 (by with_reducible (repeat (first | exact Take.here | apply Take.there))) (by first | rfl | exact (Nat.add_zero _).symm) (by rfl) ?_
        refine q_move rfl rfl rfl rfl ?_
        refine l_buildSlice rfl rfl rfl rfl (run_build1 (us := [_]) Try.underlying23 Try.sizeOf24 rfl Try.zeroValue24 rfl rfl rfl) ?_
        intro b53
        refine ag_nil ?_
        refine l_append (sz := 1) (enc := encHW) (xs := T_) rfl rfl rfl rfl rfl Try.underlying23 Try.typeInfo24 rfl rfl rfl (by decide) (by with_reducible (repeat (first | exact Take.here | apply Take.there))) (by with_reducible (repeat (first | exact Take.here | apply Take.there))) (by first | rfl | omega | (simp; done) | (simp; omega)) (ys := [(ao, cap, dg q n k_)]) (rds_some rdn_cells) (by simp [encHW, encH, dg_len]) (by first | rfl | omega) (encHW_len) (encHW_one) (by omega) (by show _ * 24 ≤ _; omega) ?_
        intro ao54 cp54
        refine ag_nil ?_
        refine l_store (j := 0) rfl rfl rfl rfl Try.sizeOf23 (us := [_]) rfl rfl rfl (by with_reducible (repeat (first | exact Take.here | apply Take.there))) (by first | rfl | exact (Nat.add_zero _).symm) (by first | decide | (simp; done) | omega) ?_
        simp only [setL, List.set]
        refine ag_nil ?_
        refine r_done ?_
        refine s_keep [7, 11] (e' := [(7, _), (11, _)]) rfl ?_
        refine k_then_n ?_
        refine c_seq ?_
        refine c_plain (.q 0 (.q 1 ((.l 2 [] (.done))))) (by kernel_rfl) ?_
        refine q_load_c (j := 0) rfl rfl rfl rfl Try.isAgg3 (by with_reducible (repeat (first | exact Take.here | apply Take.there))) (by first | rfl | exact (Nat.add_zero _).symm) (by rfl) ?_
        refine q_int rfl rfl rfl rfl rfl (b_add' _ (by (first | exact fits_i64 (by omega) (by omega) | exact fits_u64 (by omega) (by omega) | exact fits_u32 (by omega) (by omega) | exact fits_u8 (by omega) (by omega)))) ?_
        refine l_store (j := 0) rfl rfl rfl rfl Try.sizeOf3 (us := [_]) rfl rfl rfl (by with_reducible (repeat (first | exact Take.here | apply Take.there))) (by first | rfl | exact (Nat.add_zero _).symm) (by first | decide | (simp; done) | omega) ?_
        simp only [setL, List.set]
        refine ag_nil ?_
        refine r_done ?_
        refine k_then_n ?_
        refine c_seq ?_
        refine c_plain (.q 0 (.q 1 (.q 2 (.done)))) (by kernel_rfl) ?_
        refine q_load_c (j := 0) rfl rfl rfl rfl Try.isAgg3 (by with_reducible (repeat (first | exact Take.here | apply Take.there))) (by first | rfl | exact (Nat.add_zero _).symm) (by rfl) ?_
        refine q_load_c (j := 0) rfl rfl rfl rfl Try.isAgg3 (by with_reducible (repeat (first | exact Take.here | apply Take.there))) (by first | rfl | exact (Nat.add_zero _).symm) (by rfl) ?_
        refine q_int rfl rfl rfl rfl rfl (b_gtr _ _ _ _) ?_
        refine r_done ?_
        refine s_keep [59] (e' := [(59, _)]) rfl ?_
        refine k_then_n ?_
        refine c_cond_p rfl (fun hkt2 => ?_) (fun hkt2 => ?_)
        · skip
          refine c_exit ?_
          refine k_blk_out rfl ?_
          refine s_big_push (f := owA 1 encW) (L := T_) (x := (ao, cap, dg q n k_)) (by (repeat ((with_reducible apply Takes.cons); focus (first | (with_reducible (repeat (first | exact Take.here | apply Take.there)); done) | (repeat (first | exact Take.here | apply Take.there))))); exact Takes.nil) ?_
          refine lj_fold (b3 := b3) (b4 := b4) (b7 := b7) (b9 := b9) (b11 := b11) (n := n) (q := q) (tu := tu) (T := T_ ++ [(ao, cap, dg q n k_)]) (ta := ao54) (tc := cp54) (k := k_ + 1) (by (repeat ((with_reducible apply Takes.cons); focus (first | (with_reducible (repeat (first | exact Take.here | apply Take.there)); done) | (repeat (first | exact Take.here | apply Take.there))))); exact Takes.nil) (by first | rfl | simp) ?_
          refine rr_exit (((T_ ++ [(ao, cap, dg q n k_)], ao54, cp54, k_ + 1), some (.exit 2))) (by rfl) (by exact ⟨fun h => (by cases h), fun c hc => (by cases hc; exact ⟨rfl, (by show k_ + 1 = tu + 1; omega), (by show (T_ ++ [_]).length = _; rw [List.length_append, hk3]; first | (simp; done) | (simp; omega)), (fun x hx => by
              rcases List.mem_append.1 hx with h | h
              · exact hk4 x h
              · simp at h; subst h; show (dg q n k_).length ≤ n; rw [dg_len]; exact Nat.le_refl _)⟩)⟩) (by with_reducible (repeat (first | exact Take.here | apply Take.there))) ?_
          (try simp only [List.cons_append, List.nil_append]); (repeat ((with_reducible apply Takes.cons); focus (first | (with_reducible (repeat (first | exact Take.here | apply Take.there)); done) | (repeat (first | exact Take.here | apply Take.there))))); (repeat (first | exact Takes.nil | exact Takes.self | refine takes_drop2 ?_))
        · skip
          refine c_skip ?_
          refine k_blk_n ?_
          refine s_big_push (f := owA 1 encW) (L := T_) (x := (ao, cap, dg q n k_)) (by (repeat ((with_reducible apply Takes.cons); focus (first | (with_reducible (repeat (first | exact Take.here | apply Take.there)); done) | (repeat (first | exact Take.here | apply Take.there))))); exact Takes.nil) ?_
          refine lj_fold (b3 := b3) (b4 := b4) (b7 := b7) (b9 := b9) (b11 := b11) (n := n) (q := q) (tu := tu) (T := T_ ++ [(ao, cap, dg q n k_)]) (ta := ao54) (tc := cp54) (k := k_ + 1) (by (repeat ((with_reducible apply Takes.cons); focus (first | (with_reducible (repeat (first | exact Take.here | apply Take.there)); done) | (repeat (first | exact Take.here | apply Take.there))))); exact Takes.nil) (by first | rfl | simp) ?_
          refine rr_n (((T_ ++ [(ao, cap, dg q n k_)], ao54, cp54, k_ + 1), none)) (by rfl) (by exact ⟨fun _ => ⟨rfl, (by show k_ + 1 ≤ tu; omega), (by show (T_ ++ [_]).length = _; rw [List.length_append, hk3]; first | (simp; done) | (simp; omega)), (fun x hx => by
              rcases List.mem_append.1 hx with h | h
              · exact hk4 x h
              · simp at h; subst h; show (dg q n k_).length ≤ n; rw [dg_len]; exact Nat.le_refl _)⟩, fun c hc => (by cases hc)⟩) (by with_reducible (repeat (first | exact Take.here | apply Take.there))) ?_
          (try simp only [List.cons_append, List.nil_append]); (repeat ((with_reducible apply Takes.cons); focus (first | (with_reducible (repeat (first | exact Take.here | apply Take.there)); done) | (repeat (first | exact Take.here | apply Take.there))))); (repeat (first | exact Takes.nil | exact Takes.self | refine takes_drop2 ?_))
      rintro ⟨r1, ⟨T2, ta2, tc2, k2⟩, p1⟩ (⟨h1, h2, h3⟩ | ⟨c, h1, h2⟩) blk_29
      try simp only [List.cons_append, List.nil_append]
      · skip
        simp only at h1 h2 h3
        subst h1
        obtain ⟨hz1, hz2, hz32, hz42⟩ := h2
        simp only at hz1 hz2 hz32 hz42
        try simp only [List.length_nil, Nat.zero_add] at hz31
        subst hz1
        show Le _ _
        try simp only [List.cons_append, List.nil_append]
        refine s_take (A := LJ b3 b4 b7 b9 b11 n q tu (T2, ta2, tc2, k2)) (by with_reducible (repeat (first | exact Take.here | apply Take.there))) ?_
        refine lj_open ?_
        try simp only [List.cons_append, List.nil_append]
        refine k_blk_n ?_
        refine k_then_n ?_
        refine c_seq ?_
        refine c_plain (.q 0 (.q 1 (.q 2 ((.l 3 [] (.q 4 (.q 5 (.q 6 (.q 7 (.q 8 (.done))))))))))) (by kernel_rfl) ?_
        refine q_load_c (j := 0) rfl rfl rfl rfl Try.isAgg3 (by with_reducible (repeat (first | exact Take.here | apply Take.there))) (by first | rfl | exact (Nat.add_zero _).symm) (by rfl) ?_
        refine q_load_c (j := 0) rfl rfl rfl rfl Try.isAgg25 (by with_reducible (repeat (first | exact Take.here | apply Take.there))) (by first | rfl | exact (Nat.add_zero _).symm) (by rfl) ?_
        refine q_load_c (j := 0) rfl rfl rfl rfl Try.isAgg3 (by with_reducible (repeat (first | exact Take.here | apply Take.there))) (by first | rfl | exact (Nat.add_zero _).symm) (by rfl) ?_
        have sp_31 := rlist_spec n q k2 hn hqn hq (by omega)
        refine l_call rfl rfl rfl rfl rfl rfl Try.call21 (sp_31) (by (repeat ((with_reducible apply Takes.cons); focus (first | (with_reducible (repeat (first | exact Take.here | apply Take.there)); done) | (repeat (first | exact Take.here | apply Take.there))))); exact Takes.nil) ?_
        rintro ⟨xl_30a, xl_30c⟩ -
        try simp only [List.cons_append, List.nil_append]
        refine ag_nil ?_
        refine q_move rfl rfl rfl rfl ?_
        refine q_extract rfl rfl rfl rfl rfl ?_
        refine q_extract rfl rfl rfl rfl rfl ?_
        refine q_assign rfl rfl rfl rfl ?_
        refine q_assign rfl rfl rfl rfl ?_
        refine r_done ?_
        refine s_keep [3, 4, 6, 7, 8, 9, 10, 11, 16, 71] (e' := [(3, _), (4, _), (6, _), (7, _), (8, _), (9, _), (10, _), (11, _), (16, _), (71, _)]) rfl ?_
        refine k_then_n ?_
        refine c_seq ?_
        refine c_plain (.q 0 (.q 1 (.q 2 (.q 3 (.q 4 (.q 5 (.done))))))) (by kernel_rfl) ?_
        refine q_load_c (j := 0) rfl rfl rfl rfl Try.isAgg3 (by with_reducible (repeat (first | exact Take.here | apply Take.there))) (by first | rfl | exact (Nat.add_zero _).symm) (by rfl) ?_
        refine q_load_c (j := 0) rfl rfl rfl rfl Try.isAgg3 (by with_reducible (repeat (first | exact Take.here | apply Take.there))) (by first | rfl | exact (Nat.add_zero _).symm) (by rfl) ?_
        refine q_int rfl rfl rfl rfl rfl (b_leq _ _ _ _) ?_
        refine q_move rfl rfl rfl rfl ?_
        refine s_bool_p 70 rfl (fun hkt => ?_) (fun hkt => ?_)
        · skip
          refine q_move rfl rfl rfl rfl ?_
          refine q_pick_t rfl rfl rfl rfl rfl ?_
          refine r_done ?_
          refine s_keep [3, 4, 6, 7, 8, 9, 10, 71, 72] (e' := [(3, _), (4, _), (6, _), (7, _), (8, _), (9, _), (10, _), (71, _), (72, _)]) rfl ?_
          refine k_then_n ?_
          refine c_cond_p rfl (fun hg => by exfalso; first | exact absurd hg h3 | omega) (fun hg => ?_)
          refine c_skip ?_
          refine k_blk_n ?_
          refine k_then_n ?_
          refine c_plain (.q 0 (.q 1 (.q 2 (.done)))) (by kernel_rfl) ?_
          refine q_move rfl rfl rfl rfl ?_
          refine q_int rfl rfl rfl rfl rfl (b_add' _ (by (first | exact fits_i64 (by omega) (by omega) | exact fits_u64 (by omega) (by omega) | exact fits_u32 (by omega) (by omega) | exact fits_u8 (by omega) (by omega)))) ?_
          refine q_assign rfl rfl rfl rfl ?_
          refine r_done ?_
          refine k_then_n ?_
          refine c_round ?_
          refine c_seq ?_
          refine c_seq ?_
          refine c_plain (.q 0 (.q 1 (.done))) (by kernel_rfl) ?_
          refine q_move rfl rfl rfl rfl ?_
          refine q_int rfl rfl rfl rfl rfl (b_lss _ _ _ _) ?_
          refine r_done ?_
          refine s_keep [3, 4, 6, 7, 8, 9, 10, 31, 71] (e' := [(3, _), (4, _), (6, _), (7, _), (8, _), (9, _), (10, _), (31, _), (71, _)]) rfl ?_
          refine k_then_n ?_
          refine c_cond_p rfl (fun hg => by exfalso; omega) (fun hg => ?_)
          refine c_exit ?_
          refine k_then_exit ?_
          refine k_then_exit ?_
          refine k_blk_here ?_
          refine k_then_n ?_
          refine c_seq ?_
          refine c_plain (.q 0 ((.l 1 [] (.q 2 ((.l 3 [] (.q 4 ((.l 5 [] (.done)))))))))) (by kernel_rfl) ?_
          refine q_load_c (j := 0) rfl rfl rfl rfl Try.isAgg23 (by with_reducible (repeat (first | exact Take.here | apply Take.there))) (by first | rfl | exact (Nat.add_zero _).symm) (by rfl) ?_
          refine s_take (A := own 1 encHW ta2 tc2 T2) (by with_reducible (repeat (first | exact Take.here | apply Take.there))) ?_
          refine own_fc fun hw1 hw2 hw3 => ?_
          have sp_32 := apart_spec T2 ta2 T2.length tc2 (own 1 encHW ta2 tc2 T2) (rds_own encHW_len (fun h => (hw2 h).1) hw3) rfl (by omega) (fun x hx => Nat.le_trans (hz42 x hx) (by omega))
          refine l_call rfl rfl rfl rfl rfl rfl Try.call14 (sp_32) (by (repeat ((with_reducible apply Takes.cons); focus (first | (with_reducible (repeat (first | exact Take.here | apply Take.there)); done) | (repeat (first | exact Take.here | apply Take.there))))); exact Takes.nil) ?_
          rintro ⟨⟩ -
          try simp only [List.cons_append, List.nil_append]
          refine ag_nil ?_
          refine q_move rfl rfl rfl rfl ?_
          refine l_call rfl rfl rfl rfl rfl rfl Try.call15 (known_spec) (by (repeat ((with_reducible apply Takes.cons); focus (first | (with_reducible (repeat (first | exact Take.here | apply Take.there)); done) | (repeat (first | exact Take.here | apply Take.there))))); exact Takes.nil) ?_
          rintro ⟨⟩ -
          try simp only [List.cons_append, List.nil_append]
          refine ag_nil ?_
          refine q_pick_t rfl rfl rfl rfl rfl ?_
          refine l_store (j := 0) rfl rfl rfl rfl Try.sizeOf4 (us := [_]) rfl rfl rfl (by with_reducible (repeat (first | exact Take.here | apply Take.there))) (by first | rfl | exact (Nat.add_zero _).symm) (by first | decide | (simp; done) | omega) ?_
          simp only [setL, List.set]
          refine ag_nil ?_
          refine r_done ?_
          refine s_keep [6] (e' := [(6, _)]) rfl ?_
          refine k_then_n ?_
          refine c_ret ?_
          refine rm_ret ?_
          refine rm_mark (blk := blk_29) (by with_reducible (repeat (first | exact Take.here | apply Take.there))) ?_
          refine rm_mark (blk := blk_7) (by with_reducible (repeat (first | exact Take.here | apply Take.there))) ?_
          refine rm_done (us := [_]) rfl ⟨rv_cell1 rfl Try.isAgg4 (by with_reducible (repeat (first | exact Take.here | apply Take.there))) (j := 0) rfl rfl, trivial⟩ (()) (by first | rfl | (first | rfl | (congr 1; done) | (congr 1 <;> first | rfl | omega | (simp; done) | (simp; omega)))) (by trivial) ?_
          (repeat ((with_reducible apply Takes.cons); focus (first | (with_reducible (repeat (first | exact Take.here | apply Take.there)); done) | (repeat (first | exact Take.here | apply Take.there))))); (repeat (first | exact Takes.nil | exact Takes.self | refine takes_drop2 ?_))
        · skip
          refine q_skip rfl rfl rfl rfl ?_
          refine q_pick_f rfl rfl rfl rfl rfl ?_
          refine r_done ?_
          refine s_keep [3, 4, 6, 7, 8, 9, 10, 71, 72] (e' := [(3, _), (4, _), (6, _), (7, _), (8, _), (9, _), (10, _), (71, _), (72, _)]) rfl ?_
          refine k_then_n ?_
          refine c_cond_f rfl ?_
          refine c_skip ?_
          refine k_blk_n ?_
          refine k_then_n ?_
          refine c_plain (.q 0 (.q 1 (.q 2 (.done)))) (by kernel_rfl) ?_
          refine q_move rfl rfl rfl rfl ?_
          refine q_int rfl rfl rfl rfl rfl (b_add' _ (by (first | exact fits_i64 (by omega) (by omega) | exact fits_u64 (by omega) (by omega) | exact fits_u32 (by omega) (by omega) | exact fits_u8 (by omega) (by omega)))) ?_
          refine q_assign rfl rfl rfl rfl ?_
          refine r_done ?_
          refine k_then_n ?_
          refine c_round ?_
          refine c_seq ?_
          refine c_seq ?_
          refine c_plain (.q 0 (.q 1 (.done))) (by kernel_rfl) ?_
          refine q_move rfl rfl rfl rfl ?_
          refine q_int rfl rfl rfl rfl rfl (b_lss _ _ _ _) ?_
          refine r_done ?_
          refine s_keep [3, 4, 6, 7, 8, 9, 10, 31, 71] (e' := [(3, _), (4, _), (6, _), (7, _), (8, _), (9, _), (10, _), (31, _), (71, _)]) rfl ?_
          refine k_then_n ?_
          refine c_cond_p rfl (fun hg => by exfalso; omega) (fun hg => ?_)
          refine c_exit ?_
          refine k_then_exit ?_
          refine k_then_exit ?_
          refine k_blk_here ?_
          refine k_then_n ?_
          refine c_seq ?_
          refine c_plain (.q 0 ((.l 1 [] (.q 2 ((.l 3 [] (.q 4 ((.l 5 [] (.done)))))))))) (by kernel_rfl) ?_
          refine q_load_c (j := 0) rfl rfl rfl rfl Try.isAgg23 (by with_reducible (repeat (first | exact Take.here | apply Take.there))) (by first | rfl | exact (Nat.add_zero _).symm) (by rfl) ?_
          refine s_take (A := own 1 encHW ta2 tc2 T2) (by with_reducible (repeat (first | exact Take.here | apply Take.there))) ?_
          refine own_fc fun hw1 hw2 hw3 => ?_
          have sp_33 := apart_spec T2 ta2 T2.length tc2 (own 1 encHW ta2 tc2 T2) (rds_own encHW_len (fun h => (hw2 h).1) hw3) rfl (by omega) (fun x hx => Nat.le_trans (hz42 x hx) (by omega))
          refine l_call rfl rfl rfl rfl rfl rfl Try.call14 (sp_33) (by (repeat ((with_reducible apply Takes.cons); focus (first | (with_reducible (repeat (first | exact Take.here | apply Take.there)); done) | (repeat (first | exact Take.here | apply Take.there))))); exact Takes.nil) ?_
          rintro ⟨⟩ -
          try simp only [List.cons_append, List.nil_append]
          refine ag_nil ?_
          refine q_move rfl rfl rfl rfl ?_
          refine l_call rfl rfl rfl rfl rfl rfl Try.call15 (known_spec) (by (repeat ((with_reducible apply Takes.cons); focus (first | (with_reducible (repeat (first | exact Take.here | apply Take.there)); done) | (repeat (first | exact Take.here | apply Take.there))))); exact Takes.nil) ?_
          rintro ⟨⟩ -
          try simp only [List.cons_append, List.nil_append]
          refine ag_nil ?_
          refine q_pick_t rfl rfl rfl rfl rfl ?_
          refine l_store (j := 0) rfl rfl rfl rfl Try.sizeOf4 (us := [_]) rfl rfl rfl (by with_reducible (repeat (first | exact Take.here | apply Take.there))) (by first | rfl | exact (Nat.add_zero _).symm) (by first | decide | (simp; done) | omega) ?_
          simp only [setL, List.set]
          refine ag_nil ?_
          refine r_done ?_
          refine s_keep [6] (e' := [(6, _)]) rfl ?_
          refine k_then_n ?_
          refine c_ret ?_
          refine rm_ret ?_
          refine rm_mark (blk := blk_29) (by with_reducible (repeat (first | exact Take.here | apply Take.there))) ?_
          refine rm_mark (blk := blk_7) (by with_reducible (repeat (first | exact Take.here | apply Take.there))) ?_
          refine rm_done (us := [_]) rfl ⟨rv_cell1 rfl Try.isAgg4 (by with_reducible (repeat (first | exact Take.here | apply Take.there))) (j := 0) rfl rfl, trivial⟩ (()) (by first | rfl | (first | rfl | (congr 1; done) | (congr 1 <;> first | rfl | omega | (simp; done) | (simp; omega)))) (by trivial) ?_
          (repeat ((with_reducible apply Takes.cons); focus (first | (with_reducible (repeat (first | exact Take.here | apply Take.there)); done) | (repeat (first | exact Take.here | apply Take.there))))); (repeat (first | exact Takes.nil | exact Takes.self | refine takes_drop2 ?_))
      · skip
        simp only at h1 h2
        obtain ⟨hc1, hz1, hz32, hz42⟩ := h2
        simp only at hz1 hz32 hz42
        try simp only [List.length_nil, Nat.zero_add] at hz31
        subst hc1
        subst h1
        show Le _ _
        try simp only [List.cons_append, List.nil_append]
        refine s_take (A := LJ b3 b4 b7 b9 b11 n q tu (T2, ta2, tc2, k2)) (by with_reducible (repeat (first | exact Take.here | apply Take.there))) ?_
        refine lj_open ?_
        try simp only [List.cons_append, List.nil_append]
        refine c_exit ?_
        refine k_blk_here ?_
        refine k_then_n ?_
        refine c_seq ?_
        refine c_plain (.q 0 (.q 1 (.q 2 ((.l 3 [] (.q 4 (.q 5 (.q 6 (.q 7 (.q 8 (.done))))))))))) (by kernel_rfl) ?_
        refine q_load_c (j := 0) rfl rfl rfl rfl Try.isAgg3 (by with_reducible (repeat (first | exact Take.here | apply Take.there))) (by first | rfl | exact (Nat.add_zero _).symm) (by rfl) ?_
        refine q_load_c (j := 0) rfl rfl rfl rfl Try.isAgg25 (by with_reducible (repeat (first | exact Take.here | apply Take.there))) (by first | rfl | exact (Nat.add_zero _).symm) (by rfl) ?_
        refine q_load_c (j := 0) rfl rfl rfl rfl Try.isAgg3 (by with_reducible (repeat (first | exact Take.here | apply Take.there))) (by first | rfl | exact (Nat.add_zero _).symm) (by rfl) ?_
        have sp_35 := rlist_spec n q k2 hn hqn hq (by omega)
        refine l_call rfl rfl rfl rfl rfl rfl Try.call21 (sp_35) (by (repeat ((with_reducible apply Takes.cons); focus (first | (with_reducible (repeat (first | exact Take.here | apply Take.there)); done) | (repeat (first | exact Take.here | apply Take.there))))); exact Takes.nil) ?_
        rintro ⟨xl_34a, xl_34c⟩ -
        try simp only [List.cons_append, List.nil_append]
        refine ag_nil ?_
        refine q_move rfl rfl rfl rfl ?_
        refine q_extract rfl rfl rfl rfl rfl ?_
        refine q_extract rfl rfl rfl rfl rfl ?_
        refine q_assign rfl rfl rfl rfl ?_
        refine q_assign rfl rfl rfl rfl ?_
        refine r_done ?_
        refine s_keep [3, 4, 6, 7, 8, 9, 10, 11, 16, 71] (e' := [(3, _), (4, _), (6, _), (7, _), (8, _), (9, _), (10, _), (11, _), (16, _), (71, _)]) rfl ?_
        refine k_then_n ?_
        refine c_seq ?_
        refine c_plain (.q 0 (.q 1 (.q 2 (.q 3 (.q 4 (.q 5 (.done))))))) (by kernel_rfl) ?_
        refine q_load_c (j := 0) rfl rfl rfl rfl Try.isAgg3 (by with_reducible (repeat (first | exact Take.here | apply Take.there))) (by first | rfl | exact (Nat.add_zero _).symm) (by rfl) ?_
        refine q_load_c (j := 0) rfl rfl rfl rfl Try.isAgg3 (by with_reducible (repeat (first | exact Take.here | apply Take.there))) (by first | rfl | exact (Nat.add_zero _).symm) (by rfl) ?_
        refine q_int rfl rfl rfl rfl rfl (b_leq _ _ _ _) ?_
        refine q_move rfl rfl rfl rfl ?_
        refine s_bool_p 70 rfl (fun hkt => ?_) (fun hkt => ?_)
        · skip
          refine q_move rfl rfl rfl rfl ?_
          refine q_pick_t rfl rfl rfl rfl rfl ?_
          refine r_done ?_
          refine s_keep [3, 4, 6, 7, 8, 9, 10, 71, 72] (e' := [(3, _), (4, _), (6, _), (7, _), (8, _), (9, _), (10, _), (71, _), (72, _)]) rfl ?_
          refine k_then_n ?_
          refine c_cond_p rfl (fun hg => by exfalso; first | exact absurd hg h3 | omega) (fun hg => ?_)
          refine c_skip ?_
          refine k_blk_n ?_
          refine k_then_n ?_
          refine c_plain (.q 0 (.q 1 (.q 2 (.done)))) (by kernel_rfl) ?_
          refine q_move rfl rfl rfl rfl ?_
          refine q_int rfl rfl rfl rfl rfl (b_add' _ (by (first | exact fits_i64 (by omega) (by omega) | exact fits_u64 (by omega) (by omega) | exact fits_u32 (by omega) (by omega) | exact fits_u8 (by omega) (by omega)))) ?_
          refine q_assign rfl rfl rfl rfl ?_
          refine r_done ?_
          refine k_then_n ?_
          refine c_round ?_
          refine c_seq ?_
          refine c_seq ?_
          refine c_plain (.q 0 (.q 1 (.done))) (by kernel_rfl) ?_
          refine q_move rfl rfl rfl rfl ?_
          refine q_int rfl rfl rfl rfl rfl (b_lss _ _ _ _) ?_
          refine r_done ?_
          refine s_keep [3, 4, 6, 7, 8, 9, 10, 31, 71] (e' := [(3, _), (4, _), (6, _), (7, _), (8, _), (9, _), (10, _), (31, _), (71, _)]) rfl ?_
          refine k_then_n ?_
          refine c_cond_p rfl (fun hg => by exfalso; omega) (fun hg => ?_)
          refine c_exit ?_
          refine k_then_exit ?_
          refine k_then_exit ?_
          refine k_blk_here ?_
          refine k_then_n ?_
          refine c_seq ?_
          refine c_plain (.q 0 ((.l 1 [] (.q 2 ((.l 3 [] (.q 4 ((.l 5 [] (.done)))))))))) (by kernel_rfl) ?_
          refine q_load_c (j := 0) rfl rfl rfl rfl Try.isAgg23 (by with_reducible (repeat (first | exact Take.here | apply Take.there))) (by first | rfl | exact (Nat.add_zero _).symm) (by rfl) ?_
          refine s_take (A := own 1 encHW ta2 tc2 T2) (by with_reducible (repeat (first | exact Take.here | apply Take.there))) ?_
          refine own_fc fun hw1 hw2 hw3 => ?_
          have sp_36 := apart_spec T2 ta2 T2.length tc2 (own 1 encHW ta2 tc2 T2) (rds_own encHW_len (fun h => (hw2 h).1) hw3) rfl (by omega) (fun x hx => Nat.le_trans (hz42 x hx) (by omega))
          refine l_call rfl rfl rfl rfl rfl rfl Try.call14 (sp_36) (by (repeat ((with_reducible apply Takes.cons); focus (first | (with_reducible (repeat (first | exact Take.here | apply Take.there)); done) | (repeat (first | exact Take.here | apply Take.there))))); exact Takes.nil) ?_
          rintro ⟨⟩ -
          try simp only [List.cons_append, List.nil_append]
          refine ag_nil ?_
          refine q_move rfl rfl rfl rfl ?_
          refine l_call rfl rfl rfl rfl rfl rfl Try.call15 (known_spec) (by (repeat ((with_reducible apply Takes.cons); focus (first | (with_reducible (repeat (first | exact Take.here | apply Take.there)); done) | (repeat (first | exact Take.here | apply Take.there))))); exact Takes.nil) ?_
          rintro ⟨⟩ -
          try simp only [List.cons_append, List.nil_append]
          refine ag_nil ?_
          refine q_pick_t rfl rfl rfl rfl rfl ?_
          refine l_store (j := 0) rfl rfl rfl rfl Try.sizeOf4 (us := [_]) rfl rfl rfl (by with_reducible (repeat (first | exact Take.here | apply Take.there))) (by first | rfl | exact (Nat.add_zero _).symm) (by first | decide | (simp; done) | omega) ?_
          simp only [setL, List.set]
          refine ag_nil ?_
          refine r_done ?_
          refine s_keep [6] (e' := [(6, _)]) rfl ?_
          refine k_then_n ?_
          refine c_ret ?_
          refine rm_ret ?_
          refine rm_mark (blk := blk_29) (by with_reducible (repeat (first | exact Take.here | apply Take.there))) ?_
          refine rm_mark (blk := blk_7) (by with_reducible (repeat (first | exact Take.here | apply Take.there))) ?_
          refine rm_done (us := [_]) rfl ⟨rv_cell1 rfl Try.isAgg4 (by with_reducible (repeat (first | exact Take.here | apply Take.there))) (j := 0) rfl rfl, trivial⟩ (()) (by first | rfl | (first | rfl | (congr 1; done) | (congr 1 <;> first | rfl | omega | (simp; done) | (simp; omega)))) (by trivial) ?_
          (repeat ((with_reducible apply Takes.cons); focus (first | (with_reducible (repeat (first | exact Take.here | apply Take.there)); done) | (repeat (first | exact Take.here | apply Take.there))))); (repeat (first | exact Takes.nil | exact Takes.self | refine takes_drop2 ?_))
        · skip
          refine q_skip rfl rfl rfl rfl ?_
          refine q_pick_f rfl rfl rfl rfl rfl ?_
          refine r_done ?_
          refine s_keep [3, 4, 6, 7, 8, 9, 10, 71, 72] (e' := [(3, _), (4, _), (6, _), (7, _), (8, _), (9, _), (10, _), (71, _), (72, _)]) rfl ?_
          refine k_then_n ?_
          refine c_cond_f rfl ?_
          refine c_skip ?_
          refine k_blk_n ?_
          refine k_then_n ?_
          refine c_plain (.q 0 (.q 1 (.q 2 (.done)))) (by kernel_rfl) ?_
          refine q_move rfl rfl rfl rfl ?_
          refine q_int rfl rfl rfl rfl rfl (b_add' _ (by (first | exact fits_i64 (by omega) (by omega) | exact fits_u64 (by omega) (by omega) | exact fits_u32 (by omega) (by omega) | exact fits_u8 (by omega) (by omega)))) ?_
          refine q_assign rfl rfl rfl rfl ?_
          refine r_done ?_
          refine k_then_n ?_
          refine c_round ?_
          refine c_seq ?_
          refine c_seq ?_
          refine c_plain (.q 0 (.q 1 (.done))) (by kernel_rfl) ?_
          refine q_move rfl rfl rfl rfl ?_
          refine q_int rfl rfl rfl rfl rfl (b_lss _ _ _ _) ?_
          refine r_done ?_
          refine s_keep [3, 4, 6, 7, 8, 9, 10, 31, 71] (e' := [(3, _), (4, _), (6, _), (7, _), (8, _), (9, _), (10, _), (31, _), (71, _)]) rfl ?_
          refine k_then_n ?_
          refine c_cond_p rfl (fun hg => by exfalso; omega) (fun hg => ?_)
          refine c_exit ?_
          refine k_then_exit ?_
          refine k_then_exit ?_
          refine k_blk_here ?_
          refine k_then_n ?_
          refine c_seq ?_
          refine c_plain (.q 0 ((.l 1 [] (.q 2 ((.l 3 [] (.q 4 ((.l 5 [] (.done)))))))))) (by kernel_rfl) ?_
          refine q_load_c (j := 0) rfl rfl rfl rfl Try.isAgg23 (by with_reducible (repeat (first | exact Take.here | apply Take.there))) (by first | rfl | exact (Nat.add_zero _).symm) (by rfl) ?_
          refine s_take (A := own 1 encHW ta2 tc2 T2) (by with_reducible (repeat (first | exact Take.here | apply Take.there))) ?_
          refine own_fc fun hw1 hw2 hw3 => ?_
          have sp_37 := apart_spec T2 ta2 T2.length tc2 (own 1 encHW ta2 tc2 T2) (rds_own encHW_len (fun h => (hw2 h).1) hw3) rfl (by omega) (fun x hx => Nat.le_trans (hz42 x hx) (by omega))
          refine l_call rfl rfl rfl rfl rfl rfl Try.call14 (sp_37) (by (repeat ((with_reducible apply Takes.cons); focus (first | (with_reducible (repeat (first | exact Take.here | apply Take.there)); done) | (repeat (first | exact Take.here | apply Take.there))))); exact Takes.nil) ?_
          rintro ⟨⟩ -
          try simp only [List.cons_append, List.nil_append]
          refine ag_nil ?_
          refine q_move rfl rfl rfl rfl ?_
          refine l_call rfl rfl rfl rfl rfl rfl Try.call15 (known_spec) (by (repeat ((with_reducible apply Takes.cons); focus (first | (with_reducible (repeat (first | exact Take.here | apply Take.there)); done) | (repeat (first | exact Take.here | apply Take.there))))); exact Takes.nil) ?_
          rintro ⟨⟩ -
          try simp only [List.cons_append, List.nil_append]
          refine ag_nil ?_
          refine q_pick_t rfl rfl rfl rfl rfl ?_
          refine l_store (j := 0) rfl rfl rfl rfl Try.sizeOf4 (us := [_]) rfl rfl rfl (by with_reducible (repeat (first | exact Take.here | apply Take.there))) (by first | rfl | exact (Nat.add_zero _).symm) (by first | decide | (simp; done) | omega) ?_
          simp only [setL, List.set]
          refine ag_nil ?_
          refine r_done ?_
          refine s_keep [6] (e' := [(6, _)]) rfl ?_
          refine k_then_n ?_
          refine c_ret ?_
          refine rm_ret ?_
          refine rm_mark (blk := blk_29) (by with_reducible (repeat (first | exact Take.here | apply Take.there))) ?_
          refine rm_mark (blk := blk_7) (by with_reducible (repeat (first | exact Take.here | apply Take.there))) ?_
          refine rm_done (us := [_]) rfl ⟨rv_cell1 rfl Try.isAgg4 (by with_reducible (repeat (first | exact Take.here | apply Take.there))) (j := 0) rfl rfl, trivial⟩ (()) (by first | rfl | (first | rfl | (congr 1; done) | (congr 1 <;> first | rfl | omega | (simp; done) | (simp; omega)))) (by trivial) ?_
          (repeat ((with_reducible apply Takes.cons); focus (first | (with_reducible (repeat (first | exact Take.here | apply Take.there)); done) | (repeat (first | exact Take.here | apply Take.there))))); (repeat (first | exact Takes.nil | exact Takes.self | refine takes_drop2 ?_))
  · skip
    simp only at h1 h2
    obtain ⟨hc1, hz1, hz31, hz41⟩ := h2
    simp only at hz1 hz31 hz41
    try simp only [List.length_nil, Nat.zero_add] at hz31
    subst hc1
    subst h1
    show Le _ _
    try simp only [List.cons_append, List.nil_append]
    refine s_take (A := LJ b3 b4 b7 b9 b11 n q tu (T1, ta1, tc1, k1)) (by with_reducible (repeat (first | exact Take.here | apply Take.there))) ?_
    refine lj_open ?_
    try simp only [List.cons_append, List.nil_append]
    refine c_exit ?_
    refine k_blk_here ?_
    refine k_then_n ?_
    refine c_seq ?_
    refine c_plain (.q 0 (.q 1 (.q 2 ((.l 3 [] (.q 4 (.q 5 (.q 6 (.q 7 (.q 8 (.done))))))))))) (by kernel_rfl) ?_
    refine q_load_c (j := 0) rfl rfl rfl rfl Try.isAgg3 (by with_reducible (repeat (first | exact Take.here | apply Take.there))) (by first | rfl | exact (Nat.add_zero _).symm) (by rfl) ?_
    refine q_load_c (j := 0) rfl rfl rfl rfl Try.isAgg25 (by with_reducible (repeat (first | exact Take.here | apply Take.there))) (by first | rfl | exact (Nat.add_zero _).symm) (by rfl) ?_
    refine q_load_c (j := 0) rfl rfl rfl rfl Try.isAgg3 (by with_reducible (repeat (first | exact Take.here | apply Take.there))) (by first | rfl | exact (Nat.add_zero _).symm) (by rfl) ?_
    have sp_39 := rlist_spec n q k1 hn hqn hq (by omega)
    refine l_call rfl rfl rfl rfl rfl rfl Try.call21 (sp_39) (by (repeat ((with_reducible apply Takes.cons); focus (first | (with_reducible (repeat (first | exact Take.here | apply Take.there)); done) | (repeat (first | exact Take.here | apply Take.there))))); exact Takes.nil) ?_
    rintro ⟨xl_38a, xl_38c⟩ -
    try simp only [List.cons_append, List.nil_append]
    refine ag_nil ?_
    refine q_move rfl rfl rfl rfl ?_
    refine q_extract rfl rfl rfl rfl rfl ?_
    refine q_extract rfl rfl rfl rfl rfl ?_
    refine q_assign rfl rfl rfl rfl ?_
    refine q_assign rfl rfl rfl rfl ?_
    refine r_done ?_
    refine s_keep [3, 4, 6, 7, 8, 9, 10, 11, 16] (e' := [(3, _), (4, _), (6, _), (7, _), (8, _), (9, _), (10, _), (11, _), (16, _)]) rfl ?_
    refine k_then_n ?_
    refine c_seq ?_
    refine c_plain (.q 0 (.q 1 (.q 2 (.q 3 (.q 4 (.q 5 (.done))))))) (by kernel_rfl) ?_
    refine q_load_c (j := 0) rfl rfl rfl rfl Try.isAgg3 (by with_reducible (repeat (first | exact Take.here | apply Take.there))) (by first | rfl | exact (Nat.add_zero _).symm) (by rfl) ?_
    refine q_load_c (j := 0) rfl rfl rfl rfl Try.isAgg3 (by with_reducible (repeat (first | exact Take.here | apply Take.there))) (by first | rfl | exact (Nat.add_zero _).symm) (by rfl) ?_
    refine q_int rfl rfl rfl rfl rfl (b_leq _ _ _ _) ?_
    refine q_move rfl rfl rfl rfl ?_
    refine s_bool_p 70 rfl (fun hkt => ?_) (fun hkt => ?_)
    · skip
      refine q_move rfl rfl rfl rfl ?_
      refine q_pick_t rfl rfl rfl rfl rfl ?_
      refine r_done ?_
      refine s_keep [3, 4, 6, 7, 8, 9, 10, 71, 72] (e' := [(3, _), (4, _), (6, _), (7, _), (8, _), (9, _), (10, _), (71, _), (72, _)]) rfl ?_
      refine k_then_n ?_
      refine c_cond_p rfl (fun hg => by exfalso; first | exact absurd hg h3 | omega) (fun hg => ?_)
      refine c_skip ?_
      refine k_blk_n ?_
      refine k_then_n ?_
      refine c_plain (.q 0 (.q 1 (.q 2 (.done)))) (by kernel_rfl) ?_
      refine q_move rfl rfl rfl rfl ?_
      refine q_int rfl rfl rfl rfl rfl (b_add' _ (by (first | exact fits_i64 (by omega) (by omega) | exact fits_u64 (by omega) (by omega) | exact fits_u32 (by omega) (by omega) | exact fits_u8 (by omega) (by omega)))) ?_
      refine q_assign rfl rfl rfl rfl ?_
      refine r_done ?_
      refine k_then_n ?_
      refine c_round ?_
      refine c_seq ?_
      refine c_seq ?_
      refine c_plain (.q 0 (.q 1 (.done))) (by kernel_rfl) ?_
      refine q_move rfl rfl rfl rfl ?_
      refine q_int rfl rfl rfl rfl rfl (b_lss _ _ _ _) ?_
      refine r_done ?_
      refine s_keep [3, 4, 6, 7, 8, 9, 10, 31, 71] (e' := [(3, _), (4, _), (6, _), (7, _), (8, _), (9, _), (10, _), (31, _), (71, _)]) rfl ?_
      refine k_then_n ?_
      refine c_cond_p rfl (fun hg => ?_) (fun hg => by exfalso; omega)
      refine c_skip ?_
      refine k_then_n ?_
      refine c_seq ?_
      refine c_block ?_
      refine c_seq ?_
      refine c_plain ((.l 0 [] ((.l 1 [] (.done))))) (by kernel_rfl) ?_
      refine l_alloc rfl rfl rfl Try.zeroValue3 (zs := [.int .i64 0]) rfl ?_
      intro b11
      refine ag_nil ?_
      refine l_store (j := 0) rfl rfl rfl rfl Try.sizeOf3 (us := [_]) rfl rfl rfl (by with_reducible (repeat (first | exact Take.here | apply Take.there))) (by first | rfl | exact (Nat.add_zero _).symm) (by first | decide | (simp; done) | omega) ?_
      simp only [setL, List.set]
      refine ag_nil ?_
      refine r_done ?_
      refine k_then_n ?_
      refine c_seq ?_
      refine c_seq ?_
      refine c_plain (.q 0 (.done)) (by kernel_rfl) ?_
      refine q_move rfl rfl rfl rfl ?_
      refine r_done ?_
      refine k_then_n ?_
      refine c_block ?_
      refine lj_fold (b3 := b3) (b4 := b4) (b7 := b7) (b9 := b9) (b11 := b11) (n := n) (q := q) (tu := tu) (T := T1) (ta := ta1) (tc := tc1) (k := 0) (by (repeat ((with_reducible apply Takes.cons); focus (first | (with_reducible (repeat (first | exact Take.here | apply Take.there)); done) | (repeat (first | exact Take.here | apply Take.there))))); exact Takes.nil) (by rfl) ?_
      refine c_rangeF _ rfl Try.call44 (fun lp => lists1_spec n q bn bq hn hqn hq (yv lp) (LoopJ lp _ _ _ _ _) (LJ b3 b4 b7 b9 b11 n q tu) (LI n tu T1.length) (LF n tu T1.length) (fun r s ao cap hI hdv => callF_yield rfl (by decide) (by decide) (fun Γ w0 => ?_)) (T1, ta1, tc1, 0) ⟨rfl, Nat.zero_le _, rfl, hz41⟩) (by (repeat ((with_reducible apply Takes.cons); focus (first | (with_reducible (repeat (first | exact Take.here | apply Take.there)); done) | (repeat (first | exact Take.here | apply Take.there))))); exact Takes.nil) ?_
      · skip
        try simp only [zipE, List.cons_append, List.nil_append]
        obtain ⟨T_, ta_, tc_, k_⟩ := s
        obtain ⟨hk1, hk2, hk3, hk4⟩ := hI
        simp only at hk1 hk2 hk3 hk4
        try simp only [List.length_nil, Nat.zero_add] at hk3
        subst hk1
        have hdl := dg_len q n k_
        refine s_take (A := LJ b3 b4 b7 b9 b11 n q tu (T_, ta_, tc_, k_)) (by with_reducible (repeat (first | exact Take.here | apply Take.there))) ?_
        refine lj_open ?_
        refine c_plain (.q 0 (.done)) (by kernel_rfl) ?_
        refine q_assign rfl rfl rfl rfl ?_
        refine r_done ?_
        refine k_then_n ?_
        refine k_begin (by with_reducible (repeat (first | exact Take.here | apply Take.there))) ?_
        refine c_block ?_
        refine c_seq ?_
        refine c_plain (.q 0 (.q 1 (.q 2 ((.l 3 [] (.q 4 (.q 5 (.q 6 (.q 7 (.q 8 (.done))))))))))) (by kernel_rfl) ?_
        refine q_load_c (j := 0) rfl rfl rfl rfl Try.isAgg3 (by with_reducible (repeat (first | exact Take.here | apply Take.there))) (by first | rfl | exact (Nat.add_zero _).symm) (by rfl) ?_
        refine q_load_c (j := 0) rfl rfl rfl rfl Try.isAgg25 (by with_reducible (repeat (first | exact Take.here | apply Take.there))) (by first | rfl | exact (Nat.add_zero _).symm) (by rfl) ?_
        refine q_load_c (j := 0) rfl rfl rfl rfl Try.isAgg3 (by with_reducible (repeat (first | exact Take.here | apply Take.there))) (by first | rfl | exact (Nat.add_zero _).symm) (by rfl) ?_
        have sp_41 := rlist_spec n q k_ hn hqn hq (by omega)
        refine l_call rfl rfl rfl rfl rfl rfl Try.call21 (sp_41) (by (repeat ((with_reducible apply Takes.cons); focus (first | (with_reducible (repeat (first | exact Take.here | apply Take.there)); done) | (repeat (first | exact Take.here | apply Take.there))))); exact Takes.nil) ?_
        rintro ⟨xl_40a, xl_40c⟩ -
        try simp only [List.cons_append, List.nil_append]
        refine ag_nil ?_
        refine q_move rfl rfl rfl rfl ?_
        refine q_extract rfl rfl rfl rfl rfl ?_
        refine q_extract rfl rfl rfl rfl rfl ?_
        refine q_assign rfl rfl rfl rfl ?_
        refine q_assign rfl rfl rfl rfl ?_
        refine r_done ?_
        refine s_keep [6, 7, 9, 11, 12, 13, 14] (e' := [(6, _), (7, _), (9, _), (11, _), (12, _), (13, _), (14, _)]) rfl ?_
        refine k_then_n ?_
        refine c_seq ?_
        refine c_seq ?_
        refine c_plain (.q 0 (.q 1 (.q 2 (.q 3 (.q 4 ((.l 5 [] (.q 6 (.q 7 (.done)))))))))) (by kernel_rfl) ?_
        refine q_move rfl rfl rfl rfl ?_
        refine q_not rfl rfl rfl rfl ?_
        refine q_move rfl rfl rfl rfl ?_
        refine s_bool_np 45 rfl (fun hg => by exfalso; exact hg hdv) (fun hg => ?_)
        refine q_move rfl rfl rfl rfl ?_
        refine q_move rfl rfl rfl rfl ?_
        refine s_take (A := own 1 encW ao cap (dg q n k_)) (by with_reducible (repeat (first | exact Take.here | apply Take.there))) ?_
        refine own_fc fun f_42a f_42b f_42c => ?_
        refine s_take (A := own 1 encW xl_40a xl_40c (dg q n k_)) (by with_reducible (repeat (first | exact Take.here | apply Take.there))) ?_
        refine own_fc fun f_43a f_43b f_43c => ?_
        refine s_heap (fun _ h => Bun.fold ((by (repeat ((with_reducible apply Takes.cons); focus (first | (with_reducible (repeat (first | exact Take.here | apply Take.there)); done) | (repeat (first | exact Take.here | apply Take.there))))); exact Takes.nil : Takes _ [own 1 encW ao cap (dg q n k_), own 1 encW xl_40a xl_40c (dg q n k_)] _) _ h)) ?_
        have sp_44 := same_spec (dg q n k_) (dg q n k_) ao xl_40a n n cap xl_40c (Bun [own 1 encW ao cap (dg q n k_), own 1 encW xl_40a xl_40c (dg q n k_)]) (by exact dg_len _ _ _) (rds_bun (List.mem_cons_self) (rds_own encW_len (fun h => (f_42b h).1) f_42c)) (by exact dg_len _ _ _) (rds_bun (List.mem_cons_of_mem _ (List.mem_cons_self)) (rds_own encW_len (fun h => (f_43b h).1) f_43c)) (by omega)
        refine l_call rfl rfl rfl rfl rfl rfl Try.call13 (sp_44) (by (repeat ((with_reducible apply Takes.cons); focus (first | (with_reducible (repeat (first | exact Take.here | apply Take.there)); done) | (repeat (first | exact Take.here | apply Take.there))))); exact Takes.nil) ?_
        rintro ⟨⟩ -
        try simp only [List.cons_append, List.nil_append]
        refine s_take (A := Bun [own 1 encW ao cap (dg q n k_), own 1 encW xl_40a xl_40c (dg q n k_)]) (by with_reducible (repeat (first | exact Take.here | apply Take.there))) ?_
        refine s_bun ?_
        try simp only [List.cons_append, List.nil_append]
        try simp only [List.cons_append, List.nil_append]
        refine ag_nil ?_
        refine q_not rfl rfl rfl rfl ?_
        refine q_pick_f rfl rfl rfl rfl rfl ?_
        refine r_done ?_
        refine s_keep [6, 7, 9, 11, 12, 50] (e' := [(6, _), (7, _), (9, _), (11, _), (12, _), (50, _)]) rfl ?_
        refine k_then_n ?_
        refine c_cond_np rfl (fun hg => by exfalso; first | exact hg rfl | exact hg trivial | simp at hg) (fun hg => ?_)
        refine c_skip ?_
        refine k_then_n ?_
        refine c_seq ?_
        refine c_plain (.q 0 (.q 1 ((.l 2 [] ((.l 3 [] ((.l 4 [] (.done))))))))) (by kernel_rfl) ?_
        refine q_load_c (j := 0) rfl rfl rfl rfl Try.isAgg23 (by with_reducible (repeat (first | exact Take.here | apply Take.there))) (by first | rfl | exact (Nat.add_zero _).symm) (by rfl) ?_
        refine q_move rfl rfl rfl rfl ?_
        refine l_buildSlice rfl rfl rfl rfl (run_build1 (us := [_]) Try.underlying23 Try.sizeOf24 rfl Try.zeroValue24 rfl rfl rfl) ?_
        intro b53
        refine ag_nil ?_
        refine l_append (sz := 1) (enc := encHW) (xs := T_) rfl rfl rfl rfl rfl Try.underlying23 Try.typeInfo24 rfl rfl rfl (by decide) (by with_reducible (repeat (first | exact Take.here | apply Take.there))) (by with_reducible (repeat (first | exact Take.here | apply Take.there))) (by first | rfl | omega | (simp; done) | (simp; omega)) (ys := [(ao, cap, dg q n k_)]) (rds_some rdn_cells) (by simp [encHW, encH, dg_len]) (by first | rfl | omega) (encHW_len) (encHW_one) (by omega) (by show _ * 24 ≤ _; omega) ?_
        intro ao54 cp54
        refine ag_nil ?_
        refine l_store (j := 0) rfl rfl rfl rfl Try.sizeOf23 (us := [_]) rfl rfl rfl (by with_reducible (repeat (first | exact Take.here | apply Take.there))) (by first | rfl | exact (Nat.add_zero _).symm) (by first | decide | (simp; done) | omega) ?_
        simp only [setL, List.set]
        refine ag_nil ?_
        refine r_done ?_
        refine s_keep [7, 11] (e' := [(7, _), (11, _)]) rfl ?_
        refine k_then_n ?_
        refine c_seq ?_
        refine c_plain (.q 0 (.q 1 ((.l 2 [] (.done))))) (by kernel_rfl) ?_
        refine q_load_c (j := 0) rfl rfl rfl rfl Try.isAgg3 (by with_reducible (repeat (first | exact Take.here | apply Take.there))) (by first | rfl | exact (Nat.add_zero _).symm) (by rfl) ?_
        refine q_int rfl rfl rfl rfl rfl (b_add' _ (by (first | exact fits_i64 (by omega) (by omega) | exact fits_u64 (by omega) (by omega) | exact fits_u32 (by omega) (by omega) | exact fits_u8 (by omega) (by omega)))) ?_
        refine l_store (j := 0) rfl rfl rfl rfl Try.sizeOf3 (us := [_]) rfl rfl rfl (by with_reducible (repeat (first | exact Take.here | apply Take.there))) (by first | rfl | exact (Nat.add_zero _).symm) (by first | decide | (simp; done) | omega) ?_
        simp only [setL, List.set]
        refine ag_nil ?_
        refine r_done ?_
        refine k_then_n ?_
        refine c_seq ?_
        refine c_plain (.q 0 (.q 1 (.q 2 (.done)))) (by kernel_rfl) ?_
        refine q_load_c (j := 0) rfl rfl rfl rfl Try.isAgg3 (by with_reducible (repeat (first | exact Take.here | apply Take.there))) (by first | rfl | exact (Nat.add_zero _).symm) (by rfl) ?_
        refine q_load_c (j := 0) rfl rfl rfl rfl Try.isAgg3 (by with_reducible (repeat (first | exact Take.here | apply Take.there))) (by first | rfl | exact (Nat.add_zero _).symm) (by rfl) ?_
        refine q_int rfl rfl rfl rfl rfl (b_gtr _ _ _ _) ?_
        refine r_done ?_
        refine s_keep [59] (e' := [(59, _)]) rfl ?_
        refine k_then_n ?_
        refine c_cond_p rfl (fun hkt2 => ?_) (fun hkt2 => ?_)
        · skip
          refine c_exit ?_
          refine k_blk_out rfl ?_
          refine s_big_push (f := owA 1 encW) (L := T_) (x := (ao, cap, dg q n k_)) (by (repeat ((with_reducible apply Takes.cons); focus (first | (with_reducible (repeat (first | exact Take.here | apply Take.there)); done) | (repeat (first | exact Take.here | apply Take.there))))); exact Takes.nil) ?_
          refine lj_fold (b3 := b3) (b4 := b4) (b7 := b7) (b9 := b9) (b11 := b11) (n := n) (q := q) (tu := tu) (T := T_ ++ [(ao, cap, dg q n k_)]) (ta := ao54) (tc := cp54) (k := k_ + 1) (by (repeat ((with_reducible apply Takes.cons); focus (first | (with_reducible (repeat (first | exact Take.here | apply Take.there)); done) | (repeat (first | exact Take.here | apply Take.there))))); exact Takes.nil) (by first | rfl | simp) ?_
          refine rr_exit (((T_ ++ [(ao, cap, dg q n k_)], ao54, cp54, k_ + 1), some (.exit 2))) (by rfl) (by exact ⟨fun h => (by cases h), fun c hc => (by cases hc; exact ⟨rfl, (by show k_ + 1 = tu + 1; omega), (by show (T_ ++ [_]).length = _; rw [List.length_append, hk3]; first | (simp; done) | (simp; omega)), (fun x hx => by
              rcases List.mem_append.1 hx with h | h
              · exact hk4 x h
              · simp at h; subst h; show (dg q n k_).length ≤ n; rw [dg_len]; exact Nat.le_refl _)⟩)⟩) (by with_reducible (repeat (first | exact Take.here | apply Take.there))) ?_
          (try simp only [List.cons_append, List.nil_append]); (repeat ((with_reducible apply Takes.cons); focus (first | (with_reducible (repeat (first | exact Take.here | apply Take.there)); done) | (repeat (first | exact Take.here | apply Take.there))))); (repeat (first | exact Takes.nil | exact Takes.self | refine takes_drop2 ?_))
        · skip
          refine c_skip ?_
          refine k_blk_n ?_
          refine s_big_push (f := owA 1 encW) (L := T_) (x := (ao, cap, dg q n k_)) (by (repeat ((with_reducible apply Takes.cons); focus (first | (with_reducible (repeat (first | exact Take.here | apply Take.there)); done) | (repeat (first | exact Take.here | apply Take.there))))); exact Takes.nil) ?_
          refine lj_fold (b3 := b3) (b4 := b4) (b7 := b7) (b9 := b9) (b11 := b11) (n := n) (q := q) (tu := tu) (T := T_ ++ [(ao, cap, dg q n k_)]) (ta := ao54) (tc := cp54) (k := k_ + 1) (by (repeat ((with_reducible apply Takes.cons); focus (first | (with_reducible (repeat (first | exact Take.here | apply Take.there)); done) | (repeat (first | exact Take.here | apply Take.there))))); exact Takes.nil) (by first | rfl | simp) ?_
          refine rr_n (((T_ ++ [(ao, cap, dg q n k_)], ao54, cp54, k_ + 1), none)) (by rfl) (by exact ⟨fun _ => ⟨rfl, (by show k_ + 1 ≤ tu; omega), (by show (T_ ++ [_]).length = _; rw [List.length_append, hk3]; first | (simp; done) | (simp; omega)), (fun x hx => by
              rcases List.mem_append.1 hx with h | h
              · exact hk4 x h
              · simp at h; subst h; show (dg q n k_).length ≤ n; rw [dg_len]; exact Nat.le_refl _)⟩, fun c hc => (by cases hc)⟩) (by with_reducible (repeat (first | exact Take.here | apply Take.there))) ?_
          (try simp only [List.cons_append, List.nil_append]); (repeat ((with_reducible apply Takes.cons); focus (first | (with_reducible (repeat (first | exact Take.here | apply Take.there)); done) | (repeat (first | exact Take.here | apply Take.there))))); (repeat (first | exact Takes.nil | exact Takes.self | refine takes_drop2 ?_))
      rintro ⟨r1, ⟨T2, ta2, tc2, k2⟩, p1⟩ (⟨h1, h2, h3⟩ | ⟨c, h1, h2⟩) blk_45
      try simp only [List.cons_append, List.nil_append]
      · skip
        simp only at h1 h2 h3
        subst h1
        obtain ⟨hz1, hz2, hz32, hz42⟩ := h2
        simp only at hz1 hz2 hz32 hz42
        try simp only [List.length_nil, Nat.zero_add] at hz31
        subst hz1
        show Le _ _
        try simp only [List.cons_append, List.nil_append]
        refine s_take (A := LJ b3 b4 b7 b9 b11 n q tu (T2, ta2, tc2, k2)) (by with_reducible (repeat (first | exact Take.here | apply Take.there))) ?_
        refine lj_open ?_
        try simp only [List.cons_append, List.nil_append]
        refine k_blk_n ?_
        refine k_then_n ?_
        refine c_seq ?_
        refine c_plain (.q 0 (.q 1 (.q 2 ((.l 3 [] (.q 4 (.q 5 (.q 6 (.q 7 (.q 8 (.done))))))))))) (by kernel_rfl) ?_
        refine q_load_c (j := 0) rfl rfl rfl rfl Try.isAgg3 (by with_reducible (repeat (first | exact Take.here | apply Take.there))) (by first | rfl | exact (Nat.add_zero _).symm) (by rfl) ?_
        refine q_load_c (j := 0) rfl rfl rfl rfl Try.isAgg25 (by with_reducible (repeat (first | exact Take.here | apply Take.there))) (by first | rfl | exact (Nat.add_zero _).symm) (by rfl) ?_
        refine q_load_c (j := 0) rfl rfl rfl rfl Try.isAgg3 (by with_reducible (repeat (first | exact Take.here | apply Take.there))) (by first | rfl | exact (Nat.add_zero _).symm) (by rfl) ?_
        have sp_47 := rlist_spec n q k2 hn hqn hq (by omega)
        refine l_call rfl rfl rfl rfl rfl rfl Try.call21 (sp_47) (by (repeat ((with_reducible apply Takes.cons); focus (first | (with_reducible (repeat (first | exact Take.here | apply Take.there)); done) | (repeat (first | exact Take.here | apply Take.there))))); exact Takes.nil) ?_
        rintro ⟨xl_46a, xl_46c⟩ -
        try simp only [List.cons_append, List.nil_append]
        refine ag_nil ?_
        refine q_move rfl rfl rfl rfl ?_
        refine q_extract rfl rfl rfl rfl rfl ?_
        refine q_extract rfl rfl rfl rfl rfl ?_
        refine q_assign rfl rfl rfl rfl ?_
        refine q_assign rfl rfl rfl rfl ?_
        refine r_done ?_
        refine s_keep [3, 4, 6, 7, 8, 9, 10, 11, 16, 71] (e' := [(3, _), (4, _), (6, _), (7, _), (8, _), (9, _), (10, _), (11, _), (16, _), (71, _)]) rfl ?_
        refine k_then_n ?_
        refine c_seq ?_
        refine c_plain (.q 0 (.q 1 (.q 2 (.q 3 (.q 4 (.q 5 (.done))))))) (by kernel_rfl) ?_
        refine q_load_c (j := 0) rfl rfl rfl rfl Try.isAgg3 (by with_reducible (repeat (first | exact Take.here | apply Take.there))) (by first | rfl | exact (Nat.add_zero _).symm) (by rfl) ?_
        refine q_load_c (j := 0) rfl rfl rfl rfl Try.isAgg3 (by with_reducible (repeat (first | exact Take.here | apply Take.there))) (by first | rfl | exact (Nat.add_zero _).symm) (by rfl) ?_
        refine q_int rfl rfl rfl rfl rfl (b_leq _ _ _ _) ?_
        refine q_move rfl rfl rfl rfl ?_
        refine s_bool_p 70 rfl (fun hkt => ?_) (fun hkt => ?_)
        · skip
          refine q_move rfl rfl rfl rfl ?_
          refine q_pick_t rfl rfl rfl rfl rfl ?_
          refine r_done ?_
          refine s_keep [3, 4, 6, 7, 8, 9, 10, 71, 72] (e' := [(3, _), (4, _), (6, _), (7, _), (8, _), (9, _), (10, _), (71, _), (72, _)]) rfl ?_
          refine k_then_n ?_
          refine c_cond_p rfl (fun hg => by exfalso; first | exact absurd hg h3 | omega) (fun hg => ?_)
          refine c_skip ?_
          refine k_blk_n ?_
          refine k_then_n ?_
          refine c_plain (.q 0 (.q 1 (.q 2 (.done)))) (by kernel_rfl) ?_
          refine q_move rfl rfl rfl rfl ?_
          refine q_int rfl rfl rfl rfl rfl (b_add' _ (by (first | exact fits_i64 (by omega) (by omega) | exact fits_u64 (by omega) (by omega) | exact fits_u32 (by omega) (by omega) | exact fits_u8 (by omega) (by omega)))) ?_
          refine q_assign rfl rfl rfl rfl ?_
          refine r_done ?_
          refine k_then_n ?_
          refine c_round ?_
          refine c_seq ?_
          refine c_seq ?_
          refine c_plain (.q 0 (.q 1 (.done))) (by kernel_rfl) ?_
          refine q_move rfl rfl rfl rfl ?_
          refine q_int rfl rfl rfl rfl rfl (b_lss _ _ _ _) ?_
          refine r_done ?_
          refine s_keep [3, 4, 6, 7, 8, 9, 10, 31, 71] (e' := [(3, _), (4, _), (6, _), (7, _), (8, _), (9, _), (10, _), (31, _), (71, _)]) rfl ?_
          refine k_then_n ?_
          refine c_cond_p rfl (fun hg => by exfalso; omega) (fun hg => ?_)
          refine c_exit ?_
          refine k_then_exit ?_
          refine k_then_exit ?_
          refine k_blk_here ?_
          refine k_then_n ?_
          refine c_seq ?_
          refine c_plain (.q 0 ((.l 1 [] (.q 2 ((.l 3 [] (.q 4 ((.l 5 [] (.done)))))))))) (by kernel_rfl) ?_
          refine q_load_c (j := 0) rfl rfl rfl rfl Try.isAgg23 (by with_reducible (repeat (first | exact Take.here | apply Take.there))) (by first | rfl | exact (Nat.add_zero _).symm) (by rfl) ?_
          refine s_take (A := own 1 encHW ta2 tc2 T2) (by with_reducible (repeat (first | exact Take.here | apply Take.there))) ?_
          refine own_fc fun hw1 hw2 hw3 => ?_
          have sp_48 := apart_spec T2 ta2 T2.length tc2 (own 1 encHW ta2 tc2 T2) (rds_own encHW_len (fun h => (hw2 h).1) hw3) rfl (by omega) (fun x hx => Nat.le_trans (hz42 x hx) (by omega))
          refine l_call rfl rfl rfl rfl rfl rfl Try.call14 (sp_48) (by (repeat ((with_reducible apply Takes.cons); focus (first | (with_reducible (repeat (first | exact Take.here | apply Take.there)); done) | (repeat (first | exact Take.here | apply Take.there))))); exact Takes.nil) ?_
          rintro ⟨⟩ -
          try simp only [List.cons_append, List.nil_append]
          refine ag_nil ?_
          refine q_move rfl rfl rfl rfl ?_
          refine l_call rfl rfl rfl rfl rfl rfl Try.call15 (known_spec) (by (repeat ((with_reducible apply Takes.cons); focus (first | (with_reducible (repeat (first | exact Take.here | apply Take.there)); done) | (repeat (first | exact Take.here | apply Take.there))))); exact Takes.nil) ?_
          rintro ⟨⟩ -
          try simp only [List.cons_append, List.nil_append]
          refine ag_nil ?_
          refine q_pick_t rfl rfl rfl rfl rfl ?_
          refine l_store (j := 0) rfl rfl rfl rfl Try.sizeOf4 (us := [_]) rfl rfl rfl (by with_reducible (repeat (first | exact Take.here | apply Take.there))) (by first | rfl | exact (Nat.add_zero _).symm) (by first | decide | (simp; done) | omega) ?_
          simp only [setL, List.set]
          refine ag_nil ?_
          refine r_done ?_
          refine s_keep [6] (e' := [(6, _)]) rfl ?_
          refine k_then_n ?_
          refine c_ret ?_
          refine rm_ret ?_
          refine rm_mark (blk := blk_45) (by with_reducible (repeat (first | exact Take.here | apply Take.there))) ?_
          refine rm_mark (blk := blk_7) (by with_reducible (repeat (first | exact Take.here | apply Take.there))) ?_
          refine rm_done (us := [_]) rfl ⟨rv_cell1 rfl Try.isAgg4 (by with_reducible (repeat (first | exact Take.here | apply Take.there))) (j := 0) rfl rfl, trivial⟩ (()) (by first | rfl | (first | rfl | (congr 1; done) | (congr 1 <;> first | rfl | omega | (simp; done) | (simp; omega)))) (by trivial) ?_
          (repeat ((with_reducible apply Takes.cons); focus (first | (with_reducible (repeat (first | exact Take.here | apply Take.there)); done) | (repeat (first | exact Take.here | apply Take.there))))); (repeat (first | exact Takes.nil | exact Takes.self | refine takes_drop2 ?_))
        · skip
          refine q_skip rfl rfl rfl rfl ?_
          refine q_pick_f rfl rfl rfl rfl rfl ?_
          refine r_done ?_
          refine s_keep [3, 4, 6, 7, 8, 9, 10, 71, 72] (e' := [(3, _), (4, _), (6, _), (7, _), (8, _), (9, _), (10, _), (71, _), (72, _)]) rfl ?_
          refine k_then_n ?_
          refine c_cond_f rfl ?_
          refine c_skip ?_
          refine k_blk_n ?_
          refine k_then_n ?_
          refine c_plain (.q 0 (.q 1 (.q 2 (.done)))) (by kernel_rfl) ?_
          refine q_move rfl rfl rfl rfl ?_
          refine q_int rfl rfl rfl rfl rfl (b_add' _ (by (first | exact fits_i64 (by omega) (by omega) | exact fits_u64 (by omega) (by omega) | exact fits_u32 (by omega) (by omega) | exact fits_u8 (by omega) (by omega)))) ?_
          refine q_assign rfl rfl rfl rfl ?_
          refine r_done ?_
          refine k_then_n ?_
          refine c_round ?_
          refine c_seq ?_
          refine c_seq ?_
          refine c_plain (.q 0 (.q 1 (.done))) (by kernel_rfl) ?_
          refine q_move rfl rfl rfl rfl ?_
          refine q_int rfl rfl rfl rfl rfl (b_lss _ _ _ _) ?_
          refine r_done ?_
          refine s_keep [3, 4, 6, 7, 8, 9, 10, 31, 71] (e' := [(3, _), (4, _), (6, _), (7, _), (8, _), (9, _), (10, _), (31, _), (71, _)]) rfl ?_
          refine k_then_n ?_
          refine c_cond_p rfl (fun hg => by exfalso; omega) (fun hg => ?_)
          refine c_exit ?_
          refine k_then_exit ?_
          refine k_then_exit ?_
          refine k_blk_here ?_
          refine k_then_n ?_
          refine c_seq ?_
          refine c_plain (.q 0 ((.l 1 [] (.q 2 ((.l 3 [] (.q 4 ((.l 5 [] (.done)))))))))) (by kernel_rfl) ?_
          refine q_load_c (j := 0) rfl rfl rfl rfl Try.isAgg23 (by with_reducible (repeat (first | exact Take.here | apply Take.there))) (by first | rfl | exact (Nat.add_zero _).symm) (by rfl) ?_
          refine s_take (A := own 1 encHW ta2 tc2 T2) (by with_reducible (repeat (first | exact Take.here | apply Take.there))) ?_
          refine own_fc fun hw1 hw2 hw3 => ?_
          have sp_49 := apart_spec T2 ta2 T2.length tc2 (own 1 encHW ta2 tc2 T2) (rds_own encHW_len (fun h => (hw2 h).1) hw3) rfl (by omega) (fun x hx => Nat.le_trans (hz42 x hx) (by omega))
          refine l_call rfl rfl rfl rfl rfl rfl Try.call14 (sp_49) (by (repeat ((with_reducible apply Takes.cons); focus (first | (with_reducible (repeat (first | exact Take.here | apply Take.there)); done) | (repeat (first | exact Take.here | apply Take.there))))); exact Takes.nil) ?_
          rintro ⟨⟩ -
          try simp only [List.cons_append, List.nil_append]
          refine ag_nil ?_
          refine q_move rfl rfl rfl rfl ?_
          refine l_call rfl rfl rfl rfl rfl rfl Try.call15 (known_spec) (by (repeat ((with_reducible apply Takes.cons); focus (first | (with_reducible (repeat (first | exact Take.here | apply Take.there)); done) | (repeat (first | exact Take.here | apply Take.there))))); exact Takes.nil) ?_
          rintro ⟨⟩ -
          try simp only [List.cons_append, List.nil_append]
          refine ag_nil ?_
          refine q_pick_t rfl rfl rfl rfl rfl ?_
          refine l_store (j := 0) rfl rfl rfl rfl Try.sizeOf4 (us := [_]) rfl rfl rfl (by with_reducible (repeat (first | exact Take.here | apply Take.there))) (by first | rfl | exact (Nat.add_zero _).symm) (by first | decide | (simp; done) | omega) ?_
          simp only [setL, List.set]
          refine ag_nil ?_
          refine r_done ?_
          refine s_keep [6] (e' := [(6, _)]) rfl ?_
          refine k_then_n ?_
          refine c_ret ?_
          refine rm_ret ?_
          refine rm_mark (blk := blk_45) (by with_reducible (repeat (first | exact Take.here | apply Take.there))) ?_
          refine rm_mark (blk := blk_7) (by with_reducible (repeat (first | exact Take.here | apply Take.there))) ?_
          refine rm_done (us := [_]) rfl ⟨rv_cell1 rfl Try.isAgg4 (by with_reducible (repeat (first | exact Take.here | apply Take.there))) (j := 0) rfl rfl, trivial⟩ (()) (by first | rfl | (first | rfl | (congr 1; done) | (congr 1 <;> first | rfl | omega | (simp; done) | (simp; omega)))) (by trivial) ?_
          (repeat ((with_reducible apply Takes.cons); focus (first | (with_reducible (repeat (first | exact Take.here | apply Take.there)); done) | (repeat (first | exact Take.here | apply Take.there))))); (repeat (first | exact Takes.nil | exact Takes.self | refine takes_drop2 ?_))
      · skip
        simp only at h1 h2
        obtain ⟨hc1, hz1, hz32, hz42⟩ := h2
        simp only at hz1 hz32 hz42
        try simp only [List.length_nil, Nat.zero_add] at hz31
        subst hc1
        subst h1
        show Le _ _
        try simp only [List.cons_append, List.nil_append]
        refine s_take (A := LJ b3 b4 b7 b9 b11 n q tu (T2, ta2, tc2, k2)) (by with_reducible (repeat (first | exact Take.here | apply Take.there))) ?_
        refine lj_open ?_
        try simp only [List.cons_append, List.nil_append]
        refine c_exit ?_
        refine k_blk_here ?_
        refine k_then_n ?_
        refine c_seq ?_
        refine c_plain (.q 0 (.q 1 (.q 2 ((.l 3 [] (.q 4 (.q 5 (.q 6 (.q 7 (.q 8 (.done))))))))))) (by kernel_rfl) ?_
        refine q_load_c (j := 0) rfl rfl rfl rfl Try.isAgg3 (by with_reducible (repeat (first | exact Take.here | apply Take.there))) (by first | rfl | exact (Nat.add_zero _).symm) (by rfl) ?_
        refine q_load_c (j := 0) rfl rfl rfl rfl Try.isAgg25 (by with_reducible (repeat (first | exact Take.here | apply Take.there))) (by first | rfl | exact (Nat.add_zero _).symm) (by rfl) ?_
        refine q_load_c (j := 0) rfl rfl rfl rfl Try.isAgg3 (by with_reducible (repeat (first | exact Take.here | apply Take.there))) (by first | rfl | exact (Nat.add_zero _).symm) (by rfl) ?_
        have sp_51 := rlist_spec n q k2 hn hqn hq (by omega)
        refine l_call rfl rfl rfl rfl rfl rfl Try.call21 (sp_51) (by (repeat ((with_reducible apply Takes.cons); focus (first | (with_reducible (repeat (first | exact Take.here | apply Take.there)); done) | (repeat (first | exact Take.here | apply Take.there))))); exact Takes.nil) ?_
        rintro ⟨xl_50a, xl_50c⟩ -
        try simp only [List.cons_append, List.nil_append]
        refine ag_nil ?_
        refine q_move rfl rfl rfl rfl ?_
        refine q_extract rfl rfl rfl rfl rfl ?_
        refine q_extract rfl rfl rfl rfl rfl ?_
        refine q_assign rfl rfl rfl rfl ?_
        refine q_assign rfl rfl rfl rfl ?_
        refine r_done ?_
        refine s_keep [3, 4, 6, 7, 8, 9, 10, 11, 16, 71] (e' := [(3, _), (4, _), (6, _), (7, _), (8, _), (9, _), (10, _), (11, _), (16, _), (71, _)]) rfl ?_
        refine k_then_n ?_
        refine c_seq ?_
        refine c_plain (.q 0 (.q 1 (.q 2 (.q 3 (.q 4 (.q 5 (.done))))))) (by kernel_rfl) ?_
        refine q_load_c (j := 0) rfl rfl rfl rfl Try.isAgg3 (by with_reducible (repeat (first | exact Take.here | apply Take.there))) (by first | rfl | exact (Nat.add_zero _).symm) (by rfl) ?_
        refine q_load_c (j := 0) rfl rfl rfl rfl Try.isAgg3 (by with_reducible (repeat (first | exact Take.here | apply Take.there))) (by first | rfl | exact (Nat.add_zero _).symm) (by rfl) ?_
        refine q_int rfl rfl rfl rfl rfl (b_leq _ _ _ _) ?_
        refine q_move rfl rfl rfl rfl ?_
        refine s_bool_p 70 rfl (fun hkt => ?_) (fun hkt => ?_)
        · skip
          refine q_move rfl rfl rfl rfl ?_
          refine q_pick_t rfl rfl rfl rfl rfl ?_
          refine r_done ?_
          refine s_keep [3, 4, 6, 7, 8, 9, 10, 71, 72] (e' := [(3, _), (4, _), (6, _), (7, _), (8, _), (9, _), (10, _), (71, _), (72, _)]) rfl ?_
          refine k_then_n ?_
          refine c_cond_p rfl (fun hg => by exfalso; first | exact absurd hg h3 | omega) (fun hg => ?_)
          refine c_skip ?_
          refine k_blk_n ?_
          refine k_then_n ?_
          refine c_plain (.q 0 (.q 1 (.q 2 (.done)))) (by kernel_rfl) ?_
          refine q_move rfl rfl rfl rfl ?_
          refine q_int rfl rfl rfl rfl rfl (b_add' _ (by (first | exact fits_i64 (by omega) (by omega) | exact fits_u64 (by omega) (by omega) | exact fits_u32 (by omega) (by omega) | exact fits_u8 (by omega) (by omega)))) ?_
          refine q_assign rfl rfl rfl rfl ?_
          refine r_done ?_
          refine k_then_n ?_
          refine c_round ?_
          refine c_seq ?_
          refine c_seq ?_
          refine c_plain (.q 0 (.q 1 (.done))) (by kernel_rfl) ?_
          refine q_move rfl rfl rfl rfl ?_
          refine q_int rfl rfl rfl rfl rfl (b_lss _ _ _ _) ?_
          refine r_done ?_
          refine s_keep [3, 4, 6, 7, 8, 9, 10, 31, 71] (e' := [(3, _), (4, _), (6, _), (7, _), (8, _), (9, _), (10, _), (31, _), (71, _)]) rfl ?_
          refine k_then_n ?_
          refine c_cond_p rfl (fun hg => by exfalso; omega) (fun hg => ?_)
          refine c_exit ?_
          refine k_then_exit ?_
          refine k_then_exit ?_
          refine k_blk_here ?_
          refine k_then_n ?_
          refine c_seq ?_
          refine c_plain (.q 0 ((.l 1 [] (.q 2 ((.l 3 [] (.q 4 ((.l 5 [] (.done)))))))))) (by kernel_rfl) ?_
          refine q_load_c (j := 0) rfl rfl rfl rfl Try.isAgg23 (by with_reducible (repeat (first | exact Take.here | apply Take.there))) (by first | rfl | exact (Nat.add_zero _).symm) (by rfl) ?_
          refine s_take (A := own 1 encHW ta2 tc2 T2) (by with_reducible (repeat (first | exact Take.here | apply Take.there))) ?_
          refine own_fc fun hw1 hw2 hw3 => ?_
          have sp_52 := apart_spec T2 ta2 T2.length tc2 (own 1 encHW ta2 tc2 T2) (rds_own encHW_len (fun h => (hw2 h).1) hw3) rfl (by omega) (fun x hx => Nat.le_trans (hz42 x hx) (by omega))
          refine l_call rfl rfl rfl rfl rfl rfl Try.call14 (sp_52) (by (repeat ((with_reducible apply Takes.cons); focus (first | (with_reducible (repeat (first | exact Take.here | apply Take.there)); done) | (repeat (first | exact Take.here | apply Take.there))))); exact Takes.nil) ?_
          rintro ⟨⟩ -
          try simp only [List.cons_append, List.nil_append]
          refine ag_nil ?_
          refine q_move rfl rfl rfl rfl ?_
          refine l_call rfl rfl rfl rfl rfl rfl Try.call15 (known_spec) (by (repeat ((with_reducible apply Takes.cons); focus (first | (with_reducible (repeat (first | exact Take.here | apply Take.there)); done) | (repeat (first | exact Take.here | apply Take.there))))); exact Takes.nil) ?_
          rintro ⟨⟩ -
          try simp only [List.cons_append, List.nil_append]
          refine ag_nil ?_
          refine q_pick_t rfl rfl rfl rfl rfl ?_
          refine l_store (j := 0) rfl rfl rfl rfl Try.sizeOf4 (us := [_]) rfl rfl rfl (by with_reducible (repeat (first | exact Take.here | apply Take.there))) (by first | rfl | exact (Nat.add_zero _).symm) (by first | decide | (simp; done) | omega) ?_
          simp only [setL, List.set]
          refine ag_nil ?_
          refine r_done ?_
          refine s_keep [6] (e' := [(6, _)]) rfl ?_
          refine k_then_n ?_
          refine c_ret ?_
          refine rm_ret ?_
          refine rm_mark (blk := blk_45) (by with_reducible (repeat (first | exact Take.here | apply Take.there))) ?_
          refine rm_mark (blk := blk_7) (by with_reducible (repeat (first | exact Take.here | apply Take.there))) ?_
          refine rm_done (us := [_]) rfl ⟨rv_cell1 rfl Try.isAgg4 (by with_reducible (repeat (first | exact Take.here | apply Take.there))) (j := 0) rfl rfl, trivial⟩ (()) (by first | rfl | (first | rfl | (congr 1; done) | (congr 1 <;> first | rfl | omega | (simp; done) | (simp; omega)))) (by trivial) ?_
          (repeat ((with_reducible apply Takes.cons); focus (first | (with_reducible (repeat (first | exact Take.here | apply Take.there)); done) | (repeat (first | exact Take.here | apply Take.there))))); (repeat (first | exact Takes.nil | exact Takes.self | refine takes_drop2 ?_))
        · skip
          refine q_skip rfl rfl rfl rfl ?_
          refine q_pick_f rfl rfl rfl rfl rfl ?_
          refine r_done ?_
          refine s_keep [3, 4, 6, 7, 8, 9, 10, 71, 72] (e' := [(3, _), (4, _), (6, _), (7, _), (8, _), (9, _), (10, _), (71, _), (72, _)]) rfl ?_
          refine k_then_n ?_
          refine c_cond_f rfl ?_
          refine c_skip ?_
          refine k_blk_n ?_
          refine k_then_n ?_
          refine c_plain (.q 0 (.q 1 (.q 2 (.done)))) (by kernel_rfl) ?_
          refine q_move rfl rfl rfl rfl ?_
          refine q_int rfl rfl rfl rfl rfl (b_add' _ (by (first | exact fits_i64 (by omega) (by omega) | exact fits_u64 (by omega) (by omega) | exact fits_u32 (by omega) (by omega) | exact fits_u8 (by omega) (by omega)))) ?_
          refine q_assign rfl rfl rfl rfl ?_
          refine r_done ?_
          refine k_then_n ?_
          refine c_round ?_
          refine c_seq ?_
          refine c_seq ?_
          refine c_plain (.q 0 (.q 1 (.done))) (by kernel_rfl) ?_
          refine q_move rfl rfl rfl rfl ?_
          refine q_int rfl rfl rfl rfl rfl (b_lss _ _ _ _) ?_
          refine r_done ?_
          refine s_keep [3, 4, 6, 7, 8, 9, 10, 31, 71] (e' := [(3, _), (4, _), (6, _), (7, _), (8, _), (9, _), (10, _), (31, _), (71, _)]) rfl ?_
          refine k_then_n ?_
          refine c_cond_p rfl (fun hg => by exfalso; omega) (fun hg => ?_)
          refine c_exit ?_
          refine k_then_exit ?_
          refine k_then_exit ?_
          refine k_blk_here ?_
          refine k_then_n ?_
          refine c_seq ?_
          refine c_plain (.q 0 ((.l 1 [] (.q 2 ((.l 3 [] (.q 4 ((.l 5 [] (.done)))))))))) (by kernel_rfl) ?_
          refine q_load_c (j := 0) rfl rfl rfl rfl Try.isAgg23 (by with_reducible (repeat (first | exact Take.here | apply Take.there))) (by first | rfl | exact (Nat.add_zero _).symm) (by rfl) ?_
          refine s_take (A := own 1 encHW ta2 tc2 T2) (by with_reducible (repeat (first | exact Take.here | apply Take.there))) ?_
          refine own_fc fun hw1 hw2 hw3 => ?_
          have sp_53 := apart_spec T2 ta2 T2.length tc2 (own 1 encHW ta2 tc2 T2) (rds_own encHW_len (fun h => (hw2 h).1) hw3) rfl (by omega) (fun x hx => Nat.le_trans (hz42 x hx) (by omega))
          refine l_call rfl rfl rfl rfl rfl rfl Try.call14 (sp_53) (by (repeat ((with_reducible apply Takes.cons); focus (first | (with_reducible (repeat (first | exact Take.here | apply Take.there)); done) | (repeat (first | exact Take.here | apply Take.there))))); exact Takes.nil) ?_
          rintro ⟨⟩ -
          try simp only [List.cons_append, List.nil_append]
          refine ag_nil ?_
          refine q_move rfl rfl rfl rfl ?_
          refine l_call rfl rfl rfl rfl rfl rfl Try.call15 (known_spec) (by (repeat ((with_reducible apply Takes.cons); focus (first | (with_reducible (repeat (first | exact Take.here | apply Take.there)); done) | (repeat (first | exact Take.here | apply Take.there))))); exact Takes.nil) ?_
          rintro ⟨⟩ -
          try simp only [List.cons_append, List.nil_append]
          refine ag_nil ?_
          refine q_pick_t rfl rfl rfl rfl rfl ?_
          refine l_store (j := 0) rfl rfl rfl rfl Try.sizeOf4 (us := [_]) rfl rfl rfl (by with_reducible (repeat (first | exact Take.here | apply Take.there))) (by first | rfl | exact (Nat.add_zero _).symm) (by first | decide | (simp; done) | omega) ?_
          simp only [setL, List.set]
          refine ag_nil ?_
          refine r_done ?_
          refine s_keep [6] (e' := [(6, _)]) rfl ?_
          refine k_then_n ?_
          refine c_ret ?_
          refine rm_ret ?_
          refine rm_mark (blk := blk_45) (by with_reducible (repeat (first | exact Take.here | apply Take.there))) ?_
          refine rm_mark (blk := blk_7) (by with_reducible (repeat (first | exact Take.here | apply Take.there))) ?_
          refine rm_done (us := [_]) rfl ⟨rv_cell1 rfl Try.isAgg4 (by with_reducible (repeat (first | exact Take.here | apply Take.there))) (j := 0) rfl rfl, trivial⟩ (()) (by first | rfl | (first | rfl | (congr 1; done) | (congr 1 <;> first | rfl | omega | (simp; done) | (simp; omega)))) (by trivial) ?_
          (repeat ((with_reducible apply Takes.cons); focus (first | (with_reducible (repeat (first | exact Take.here | apply Take.there)); done) | (repeat (first | exact Take.here | apply Take.there))))); (repeat (first | exact Takes.nil | exact Takes.self | refine takes_drop2 ?_))
    · skip
      refine q_skip rfl rfl rfl rfl ?_
      refine q_pick_f rfl rfl rfl rfl rfl ?_
      refine r_done ?_
      refine s_keep [3, 4, 6, 7, 8, 9, 10, 71, 72] (e' := [(3, _), (4, _), (6, _), (7, _), (8, _), (9, _), (10, _), (71, _), (72, _)]) rfl ?_
      refine k_then_n ?_
      refine c_cond_f rfl ?_
      refine c_skip ?_
      refine k_blk_n ?_
      refine k_then_n ?_
      refine c_plain (.q 0 (.q 1 (.q 2 (.done)))) (by kernel_rfl) ?_
      refine q_move rfl rfl rfl rfl ?_
      refine q_int rfl rfl rfl rfl rfl (b_add' _ (by (first | exact fits_i64 (by omega) (by omega) | exact fits_u64 (by omega) (by omega) | exact fits_u32 (by omega) (by omega) | exact fits_u8 (by omega) (by omega)))) ?_
      refine q_assign rfl rfl rfl rfl ?_
      refine r_done ?_
      refine k_then_n ?_
      refine c_round ?_
      refine c_seq ?_
      refine c_seq ?_
      refine c_plain (.q 0 (.q 1 (.done))) (by kernel_rfl) ?_
      refine q_move rfl rfl rfl rfl ?_
      refine q_int rfl rfl rfl rfl rfl (b_lss _ _ _ _) ?_
      refine r_done ?_
      refine s_keep [3, 4, 6, 7, 8, 9, 10, 31, 71] (e' := [(3, _), (4, _), (6, _), (7, _), (8, _), (9, _), (10, _), (31, _), (71, _)]) rfl ?_
      refine k_then_n ?_
      refine c_cond_p rfl (fun hg => ?_) (fun hg => by exfalso; omega)
      refine c_skip ?_
      refine k_then_n ?_
      refine c_seq ?_
      refine c_block ?_
      refine c_seq ?_
      refine c_plain ((.l 0 [] ((.l 1 [] (.done))))) (by kernel_rfl) ?_
      refine l_alloc rfl rfl rfl Try.zeroValue3 (zs := [.int .i64 0]) rfl ?_
      intro b11
      refine ag_nil ?_
      refine l_store (j := 0) rfl rfl rfl rfl Try.sizeOf3 (us := [_]) rfl rfl rfl (by with_reducible (repeat (first | exact Take.here | apply Take.there))) (by first | rfl | exact (Nat.add_zero _).symm) (by first | decide | (simp; done) | omega) ?_
      simp only [setL, List.set]
      refine ag_nil ?_
      refine r_done ?_
      refine k_then_n ?_
      refine c_seq ?_
      refine c_seq ?_
      refine c_plain (.q 0 (.done)) (by kernel_rfl) ?_
      refine q_move rfl rfl rfl rfl ?_
      refine r_done ?_
      refine k_then_n ?_
      refine c_block ?_
      refine lj_fold (b3 := b3) (b4 := b4) (b7 := b7) (b9 := b9) (b11 := b11) (n := n) (q := q) (tu := tu) (T := T1) (ta := ta1) (tc := tc1) (k := 0) (by (repeat ((with_reducible apply Takes.cons); focus (first | (with_reducible (repeat (first | exact Take.here | apply Take.there)); done) | (repeat (first | exact Take.here | apply Take.there))))); exact Takes.nil) (by rfl) ?_
      refine c_rangeF _ rfl Try.call44 (fun lp => lists1_spec n q bn bq hn hqn hq (yv lp) (LoopJ lp _ _ _ _ _) (LJ b3 b4 b7 b9 b11 n q tu) (LI n tu T1.length) (LF n tu T1.length) (fun r s ao cap hI hdv => callF_yield rfl (by decide) (by decide) (fun Γ w0 => ?_)) (T1, ta1, tc1, 0) ⟨rfl, Nat.zero_le _, rfl, hz41⟩) (by (repeat ((with_reducible apply Takes.cons); focus (first | (with_reducible (repeat (first | exact Take.here | apply Take.there)); done) | (repeat (first | exact Take.here | apply Take.there))))); exact Takes.nil) ?_
      · skip
        try simp only [zipE, List.cons_append, List.nil_append]
        obtain ⟨T_, ta_, tc_, k_⟩ := s
        obtain ⟨hk1, hk2, hk3, hk4⟩ := hI
        simp only at hk1 hk2 hk3 hk4
        try simp only [List.length_nil, Nat.zero_add] at hk3
        subst hk1
        have hdl := dg_len q n k_
        refine s_take (A := LJ b3 b4 b7 b9 b11 n q tu (T_, ta_, tc_, k_)) (by with_reducible (repeat (first | exact Take.here | apply Take.there))) ?_
        refine lj_open ?_
        refine c_plain (.q 0 (.done)) (by kernel_rfl) ?_
        refine q_assign rfl rfl rfl rfl ?_
        refine r_done ?_
        refine k_then_n ?_
        refine k_begin (by with_reducible (repeat (first | exact Take.here | apply Take.there))) ?_
        refine c_block ?_
        refine c_seq ?_
        refine c_plain (.q 0 (.q 1 (.q 2 ((.l 3 [] (.q 4 (.q 5 (.q 6 (.q 7 (.q 8 (.done))))))))))) (by kernel_rfl) ?_
        refine q_load_c (j := 0) rfl rfl rfl rfl Try.isAgg3 (by with_reducible (repeat (first | exact Take.here | apply Take.there))) (by first | rfl | exact (Nat.add_zero _).symm) (by rfl) ?_
        refine q_load_c (j := 0) rfl rfl rfl rfl Try.isAgg25 (by with_reducible (repeat (first | exact Take.here | apply Take.there))) (by first | rfl | exact (Nat.add_zero _).symm) (by rfl) ?_
        refine q_load_c (j := 0) rfl rfl rfl rfl Try.isAgg3 (by with_reducible (repeat (first | exact Take.here | apply Take.there))) (by first | rfl | exact (Nat.add_zero _).symm) (by rfl) ?_
        have sp_55 := rlist_spec n q k_ hn hqn hq (by omega)
        refine l_call rfl rfl rfl rfl rfl rfl Try.call21 (sp_55) (by (repeat ((with_reducible apply Takes.cons); focus (first | (with_reducible (repeat (first | exact Take.here | apply Take.there)); done) | (repeat (first | exact Take.here | apply Take.there))))); exact Takes.nil) ?_
        rintro ⟨xl_54a, xl_54c⟩ -
        try simp only [List.cons_append, List.nil_append]
        refine ag_nil ?_
        refine q_move rfl rfl rfl rfl ?_
        refine q_extract rfl rfl rfl rfl rfl ?_
        refine q_extract rfl rfl rfl rfl rfl ?_
        refine q_assign rfl rfl rfl rfl ?_
        refine q_assign rfl rfl rfl rfl ?_
        refine r_done ?_
        refine s_keep [6, 7, 9, 11, 12, 13, 14] (e' := [(6, _), (7, _), (9, _), (11, _), (12, _), (13, _), (14, _)]) rfl ?_
        refine k_then_n ?_
        refine c_seq ?_
        refine c_seq ?_
        refine c_plain (.q 0 (.q 1 (.q 2 (.q 3 (.q 4 ((.l 5 [] (.q 6 (.q 7 (.done)))))))))) (by kernel_rfl) ?_
        refine q_move rfl rfl rfl rfl ?_
        refine q_not rfl rfl rfl rfl ?_
        refine q_move rfl rfl rfl rfl ?_
        refine s_bool_np 45 rfl (fun hg => by exfalso; exact hg hdv) (fun hg => ?_)
        refine q_move rfl rfl rfl rfl ?_
        refine q_move rfl rfl rfl rfl ?_
        refine s_take (A := own 1 encW ao cap (dg q n k_)) (by with_reducible (repeat (first | exact Take.here | apply Take.there))) ?_
        refine own_fc fun f_56a f_56b f_56c => ?_
        refine s_take (A := own 1 encW xl_54a xl_54c (dg q n k_)) (by with_reducible (repeat (first | exact Take.here | apply Take.there))) ?_
        refine own_fc fun f_57a f_57b f_57c => ?_
        refine s_heap (fun _ h => Bun.fold ((by (repeat ((with_reducible apply Takes.cons); focus (first | (with_reducible (repeat (first | exact Take.here | apply Take.there)); done) | (repeat (first | exact Take.here | apply Take.there))))); exact Takes.nil : Takes _ [own 1 encW ao cap (dg q n k_), own 1 encW xl_54a xl_54c (dg q n k_)] _) _ h)) ?_
        have sp_58 := same_spec (dg q n k_) (dg q n k_) ao xl_54a n n cap xl_54c (Bun [own 1 encW ao cap (dg q n k_), own 1 encW xl_54a xl_54c (dg q n k_)]) (by exact dg_len _ _ _) (rds_bun (List.mem_cons_self) (rds_own encW_len (fun h => (f_56b h).1) f_56c)) (by exact dg_len _ _ _) (rds_bun (List.mem_cons_of_mem _ (List.mem_cons_self)) (rds_own encW_len (fun h => (f_57b h).1) f_57c)) (by omega)
        refine l_call rfl rfl rfl rfl rfl rfl Try.call13 (sp_58) (by (repeat ((with_reducible apply Takes.cons); focus (first | (with_reducible (repeat (first | exact Take.here | apply Take.there)); done) | (repeat (first | exact Take.here | apply Take.there))))); exact Takes.nil) ?_
        rintro ⟨⟩ -
        try simp only [List.cons_append, List.nil_append]
        refine s_take (A := Bun [own 1 encW ao cap (dg q n k_), own 1 encW xl_54a xl_54c (dg q n k_)]) (by with_reducible (repeat (first | exact Take.here | apply Take.there))) ?_
        refine s_bun ?_
        try simp only [List.cons_append, List.nil_append]
        try simp only [List.cons_append, List.nil_append]
        refine ag_nil ?_
        refine q_not rfl rfl rfl rfl ?_
        refine q_pick_f rfl rfl rfl rfl rfl ?_
        refine r_done ?_
        refine s_keep [6, 7, 9, 11, 12, 50] (e' := [(6, _), (7, _), (9, _), (11, _), (12, _), (50, _)]) rfl ?_
        refine k_then_n ?_
        refine c_cond_np rfl (fun hg => by exfalso; first | exact hg rfl | exact hg trivial | simp at hg) (fun hg => ?_)
        refine c_skip ?_
        refine k_then_n ?_
        refine c_seq ?_
        refine c_plain (.q 0 (.q 1 ((.l 2 [] ((.l 3 [] ((.l 4 [] (.done))))))))) (by kernel_rfl) ?_
        refine q_load_c (j := 0) rfl rfl rfl rfl Try.isAgg23 (by with_reducible (repeat (first | exact Take.here | apply Take.there))) (by first | rfl | exact (Nat.add_zero _).symm) (by rfl) ?_
        refine q_move rfl rfl rfl rfl ?_
        refine l_buildSlice rfl rfl rfl rfl (run_build1 (us := [_]) Try.underlying23 Try.sizeOf24 rfl Try.zeroValue24 rfl rfl rfl) ?_
        intro b53
        refine ag_nil ?_
        refine l_append (sz := 1) (enc := encHW) (xs := T_) rfl rfl rfl rfl rfl Try.underlying23 Try.typeInfo24 rfl rfl rfl (by decide) (by with_reducible (repeat (first | exact Take.here | apply Take.there))) (by with_reducible (repeat (first | exact Take.here | apply Take.there))) (by first | rfl | omega | (simp; done) | (simp; omega)) (ys := [(ao, cap, dg q n k_)]) (rds_some rdn_cells) (by simp [encHW, encH, dg_len]) (by first | rfl | omega) (encHW_len) (encHW_one) (by omega) (by show _ * 24 ≤ _; omega) ?_
        intro ao54 cp54
        refine ag_nil ?_
        refine l_store (j := 0) rfl rfl rfl rfl Try.sizeOf23 (us := [_]) rfl rfl rfl (by with_reducible (repeat (first | exact Take.here | apply Take.there))) (by first | rfl | exact (Nat.add_zero _).symm) (by first | decide | (simp; done) | omega) ?_
        simp only [setL, List.set]
        refine ag_nil ?_
        refine r_done ?_
        refine s_keep [7, 11] (e' := [(7, _), (11, _)]) rfl ?_
        refine k_then_n ?_
        refine c_seq ?_
        refine c_plain (.q 0 (.q 1 ((.l 2 [] (.done))))) (by kernel_rfl) ?_
        refine q_load_c (j := 0) rfl rfl rfl rfl Try.isAgg3 (by with_reducible (repeat (first | exact Take.here | apply Take.there))) (by first | rfl | exact (Nat.add_zero _).symm) (by rfl) ?_
        refine q_int rfl rfl rfl rfl rfl (b_add' _ (by (first | exact fits_i64 (by omega) (by omega) | exact fits_u64 (by omega) (by omega) | exact fits_u32 (by omega) (by omega) | exact fits_u8 (by omega) (by omega)))) ?_
        refine l_store (j := 0) rfl rfl rfl rfl Try.sizeOf3 (us := [_]) rfl rfl rfl (by with_reducible (repeat (first | exact Take.here | apply Take.there))) (by first | rfl | exact (Nat.add_zero _).symm) (by first | decide | (simp; done) | omega) ?_
        simp only [setL, List.set]
        refine ag_nil ?_
        refine r_done ?_
        refine k_then_n ?_
        refine c_seq ?_
        refine c_plain (.q 0 (.q 1 (.q 2 (.done)))) (by kernel_rfl) ?_
        refine q_load_c (j := 0) rfl rfl rfl rfl Try.isAgg3 (by with_reducible (repeat (first | exact Take.here | apply Take.there))) (by first | rfl | exact (Nat.add_zero _).symm) (by rfl) ?_
        refine q_load_c (j := 0) rfl rfl rfl rfl Try.isAgg3 (by with_reducible (repeat (first | exact Take.here | apply Take.there))) (by first | rfl | exact (Nat.add_zero _).symm) (by rfl) ?_
        refine q_int rfl rfl rfl rfl rfl (b_gtr _ _ _ _) ?_
        refine r_done ?_
        refine s_keep [59] (e' := [(59, _)]) rfl ?_
        refine k_then_n ?_
        refine c_cond_p rfl (fun hkt2 => ?_) (fun hkt2 => ?_)
        · skip
          refine c_exit ?_
          refine k_blk_out rfl ?_
          refine s_big_push (f := owA 1 encW) (L := T_) (x := (ao, cap, dg q n k_)) (by (repeat ((with_reducible apply Takes.cons); focus (first | (with_reducible (repeat (first | exact Take.here | apply Take.there)); done) | (repeat (first | exact Take.here | apply Take.there))))); exact Takes.nil) ?_
          refine lj_fold (b3 := b3) (b4 := b4) (b7 := b7) (b9 := b9) (b11 := b11) (n := n) (q := q) (tu := tu) (T := T_ ++ [(ao, cap, dg q n k_)]) (ta := ao54) (tc := cp54) (k := k_ + 1) (by (repeat ((with_reducible apply Takes.cons); focus (first | (with_reducible (repeat (first | exact Take.here | apply Take.there)); done) | (repeat (first | exact Take.here | apply Take.there))))); exact Takes.nil) (by first | rfl | simp) ?_
          refine rr_exit (((T_ ++ [(ao, cap, dg q n k_)], ao54, cp54, k_ + 1), some (.exit 2))) (by rfl) (by exact ⟨fun h => (by cases h), fun c hc => (by cases hc; exact ⟨rfl, (by show k_ + 1 = tu + 1; omega), (by show (T_ ++ [_]).length = _; rw [List.length_append, hk3]; first | (simp; done) | (simp; omega)), (fun x hx => by
              rcases List.mem_append.1 hx with h | h
              · exact hk4 x h
              · simp at h; subst h; show (dg q n k_).length ≤ n; rw [dg_len]; exact Nat.le_refl _)⟩)⟩) (by with_reducible (repeat (first | exact Take.here | apply Take.there))) ?_
          (try simp only [List.cons_append, List.nil_append]); (repeat ((with_reducible apply Takes.cons); focus (first | (with_reducible (repeat (first | exact Take.here | apply Take.there)); done) | (repeat (first | exact Take.here | apply Take.there))))); (repeat (first | exact Takes.nil | exact Takes.self | refine takes_drop2 ?_))
        · skip
          refine c_skip ?_
          refine k_blk_n ?_
          refine s_big_push (f := owA 1 encW) (L := T_) (x := (ao, cap, dg q n k_)) (by (repeat ((with_reducible apply Takes.cons); focus (first | (with_reducible (repeat (first | exact Take.here | apply Take.there)); done) | (repeat (first | exact Take.here | apply Take.there))))); exact Takes.nil) ?_
          refine lj_fold (b3 := b3) (b4 := b4) (b7 := b7) (b9 := b9) (b11 := b11) (n := n) (q := q) (tu := tu) (T := T_ ++ [(ao, cap, dg q n k_)]) (ta := ao54) (tc := cp54) (k := k_ + 1) (by (repeat ((with_reducible apply Takes.cons); focus (first | (with_reducible (repeat (first | exact Take.here | apply Take.there)); done) | (repeat (first | exact Take.here | apply Take.there))))); exact Takes.nil) (by first | rfl | simp) ?_
          refine rr_n (((T_ ++ [(ao, cap, dg q n k_)], ao54, cp54, k_ + 1), none)) (by rfl) (by exact ⟨fun _ => ⟨rfl, (by show k_ + 1 ≤ tu; omega), (by show (T_ ++ [_]).length = _; rw [List.length_append, hk3]; first | (simp; done) | (simp; omega)), (fun x hx => by
              rcases List.mem_append.1 hx with h | h
              · exact hk4 x h
              · simp at h; subst h; show (dg q n k_).length ≤ n; rw [dg_len]; exact Nat.le_refl _)⟩, fun c hc => (by cases hc)⟩) (by with_reducible (repeat (first | exact Take.here | apply Take.there))) ?_
          (try simp only [List.cons_append, List.nil_append]); (repeat ((with_reducible apply Takes.cons); focus (first | (with_reducible (repeat (first | exact Take.here | apply Take.there)); done) | (repeat (first | exact Take.here | apply Take.there))))); (repeat (first | exact Takes.nil | exact Takes.self | refine takes_drop2 ?_))
      rintro ⟨r1, ⟨T2, ta2, tc2, k2⟩, p1⟩ (⟨h1, h2, h3⟩ | ⟨c, h1, h2⟩) blk_59
      try simp only [List.cons_append, List.nil_append]
      · skip
        simp only at h1 h2 h3
        subst h1
        obtain ⟨hz1, hz2, hz32, hz42⟩ := h2
        simp only at hz1 hz2 hz32 hz42
        try simp only [List.length_nil, Nat.zero_add] at hz31
        subst hz1
        show Le _ _
        try simp only [List.cons_append, List.nil_append]
        refine s_take (A := LJ b3 b4 b7 b9 b11 n q tu (T2, ta2, tc2, k2)) (by with_reducible (repeat (first | exact Take.here | apply Take.there))) ?_
        refine lj_open ?_
        try simp only [List.cons_append, List.nil_append]
        refine k_blk_n ?_
        refine k_then_n ?_
        refine c_seq ?_
        refine c_plain (.q 0 (.q 1 (.q 2 ((.l 3 [] (.q 4 (.q 5 (.q 6 (.q 7 (.q 8 (.done))))))))))) (by kernel_rfl) ?_
        refine q_load_c (j := 0) rfl rfl rfl rfl Try.isAgg3 (by with_reducible (repeat (first | exact Take.here | apply Take.there))) (by first | rfl | exact (Nat.add_zero _).symm) (by rfl) ?_
        refine q_load_c (j := 0) rfl rfl rfl rfl Try.isAgg25 (by with_reducible (repeat (first | exact Take.here | apply Take.there))) (by first | rfl | exact (Nat.add_zero _).symm) (by rfl) ?_
        refine q_load_c (j := 0) rfl rfl rfl rfl Try.isAgg3 (by with_reducible (repeat (first | exact Take.here | apply Take.there))) (by first | rfl | exact (Nat.add_zero _).symm) (by rfl) ?_
        have sp_61 := rlist_spec n q k2 hn hqn hq (by omega)
        refine l_call rfl rfl rfl rfl rfl rfl Try.call21 (sp_61) (by (repeat ((with_reducible apply Takes.cons); focus (first | (with_reducible (repeat (first | exact Take.here | apply Take.there)); done) | (repeat (first | exact Take.here | apply Take.there))))); exact Takes.nil) ?_
        rintro ⟨xl_60a, xl_60c⟩ -
        try simp only [List.cons_append, List.nil_append]
        refine ag_nil ?_
        refine q_move rfl rfl rfl rfl ?_
        refine q_extract rfl rfl rfl rfl rfl ?_
        refine q_extract rfl rfl rfl rfl rfl ?_
        refine q_assign rfl rfl rfl rfl ?_
        refine q_assign rfl rfl rfl rfl ?_
        refine r_done ?_
        refine s_keep [3, 4, 6, 7, 8, 9, 10, 11, 16, 71] (e' := [(3, _), (4, _), (6, _), (7, _), (8, _), (9, _), (10, _), (11, _), (16, _), (71, _)]) rfl ?_
        refine k_then_n ?_
        refine c_seq ?_
        refine c_plain (.q 0 (.q 1 (.q 2 (.q 3 (.q 4 (.q 5 (.done))))))) (by kernel_rfl) ?_
        refine q_load_c (j := 0) rfl rfl rfl rfl Try.isAgg3 (by with_reducible (repeat (first | exact Take.here | apply Take.there))) (by first | rfl | exact (Nat.add_zero _).symm) (by rfl) ?_
        refine q_load_c (j := 0) rfl rfl rfl rfl Try.isAgg3 (by with_reducible (repeat (first | exact Take.here | apply Take.there))) (by first | rfl | exact (Nat.add_zero _).symm) (by rfl) ?_
        refine q_int rfl rfl rfl rfl rfl (b_leq _ _ _ _) ?_
        refine q_move rfl rfl rfl rfl ?_
        refine s_bool_p 70 rfl (fun hkt => ?_) (fun hkt => ?_)
        · skip
          refine q_move rfl rfl rfl rfl ?_
          refine q_pick_t rfl rfl rfl rfl rfl ?_
          refine r_done ?_
          refine s_keep [3, 4, 6, 7, 8, 9, 10, 71, 72] (e' := [(3, _), (4, _), (6, _), (7, _), (8, _), (9, _), (10, _), (71, _), (72, _)]) rfl ?_
          refine k_then_n ?_
          refine c_cond_p rfl (fun hg => by exfalso; first | exact absurd hg h3 | omega) (fun hg => ?_)
          refine c_skip ?_
          refine k_blk_n ?_
          refine k_then_n ?_
          refine c_plain (.q 0 (.q 1 (.q 2 (.done)))) (by kernel_rfl) ?_
          refine q_move rfl rfl rfl rfl ?_
          refine q_int rfl rfl rfl rfl rfl (b_add' _ (by (first | exact fits_i64 (by omega) (by omega) | exact fits_u64 (by omega) (by omega) | exact fits_u32 (by omega) (by omega) | exact fits_u8 (by omega) (by omega)))) ?_
          refine q_assign rfl rfl rfl rfl ?_
          refine r_done ?_
          refine k_then_n ?_
          refine c_round ?_
          refine c_seq ?_
          refine c_seq ?_
          refine c_plain (.q 0 (.q 1 (.done))) (by kernel_rfl) ?_
          refine q_move rfl rfl rfl rfl ?_
          refine q_int rfl rfl rfl rfl rfl (b_lss _ _ _ _) ?_
          refine r_done ?_
          refine s_keep [3, 4, 6, 7, 8, 9, 10, 31, 71] (e' := [(3, _), (4, _), (6, _), (7, _), (8, _), (9, _), (10, _), (31, _), (71, _)]) rfl ?_
          refine k_then_n ?_
          refine c_cond_p rfl (fun hg => by exfalso; omega) (fun hg => ?_)
          refine c_exit ?_
          refine k_then_exit ?_
          refine k_then_exit ?_
          refine k_blk_here ?_
          refine k_then_n ?_
          refine c_seq ?_
          refine c_plain (.q 0 ((.l 1 [] (.q 2 ((.l 3 [] (.q 4 ((.l 5 [] (.done)))))))))) (by kernel_rfl) ?_
          refine q_load_c (j := 0) rfl rfl rfl rfl Try.isAgg23 (by with_reducible (repeat (first | exact Take.here | apply Take.there))) (by first | rfl | exact (Nat.add_zero _).symm) (by rfl) ?_
          refine s_take (A := own 1 encHW ta2 tc2 T2) (by with_reducible (repeat (first | exact Take.here | apply Take.there))) ?_
          refine own_fc fun hw1 hw2 hw3 => ?_
          have sp_62 := apart_spec T2 ta2 T2.length tc2 (own 1 encHW ta2 tc2 T2) (rds_own encHW_len (fun h => (hw2 h).1) hw3) rfl (by omega) (fun x hx => Nat.le_trans (hz42 x hx) (by omega))
          refine l_call rfl rfl rfl rfl rfl rfl Try.call14 (sp_62) (by (repeat ((with_reducible apply Takes.cons); focus (first | (with_reducible (repeat (first | exact Take.here | apply Take.there)); done) | (repeat (first | exact Take.here | apply Take.there))))); exact Takes.nil) ?_
          rintro ⟨⟩ -
          try simp only [List.cons_append, List.nil_append]
          refine ag_nil ?_
          refine q_move rfl rfl rfl rfl ?_
          refine l_call rfl rfl rfl rfl rfl rfl Try.call15 (known_spec) (by (repeat ((with_reducible apply Takes.cons); focus (first | (with_reducible (repeat (first | exact Take.here | apply Take.there)); done) | (repeat (first | exact Take.here | apply Take.there))))); exact Takes.nil) ?_
          rintro ⟨⟩ -
          try simp only [List.cons_append, List.nil_append]
          refine ag_nil ?_
          refine q_pick_t rfl rfl rfl rfl rfl ?_
          refine l_store (j := 0) rfl rfl rfl rfl Try.sizeOf4 (us := [_]) rfl rfl rfl (by with_reducible (repeat (first | exact Take.here | apply Take.there))) (by first | rfl | exact (Nat.add_zero _).symm) (by first | decide | (simp; done) | omega) ?_
          simp only [setL, List.set]
          refine ag_nil ?_
          refine r_done ?_
          refine s_keep [6] (e' := [(6, _)]) rfl ?_
          refine k_then_n ?_
          refine c_ret ?_
          refine rm_ret ?_
          refine rm_mark (blk := blk_59) (by with_reducible (repeat (first | exact Take.here | apply Take.there))) ?_
          refine rm_mark (blk := blk_7) (by with_reducible (repeat (first | exact Take.here | apply Take.there))) ?_
          refine rm_done (us := [_]) rfl ⟨rv_cell1 rfl Try.isAgg4 (by with_reducible (repeat (first | exact Take.here | apply Take.there))) (j := 0) rfl rfl, trivial⟩ (()) (by first | rfl | (first | rfl | (congr 1; done) | (congr 1 <;> first | rfl | omega | (simp; done) | (simp; omega)))) (by trivial) ?_
          (repeat ((with_reducible apply Takes.cons); focus (first | (with_reducible (repeat (first | exact Take.here | apply Take.there)); done) | (repeat (first | exact Take.here | apply Take.there))))); (repeat (first | exact Takes.nil | exact Takes.self | refine takes_drop2 ?_))
        · skip
          refine q_skip rfl rfl rfl rfl ?_
          refine q_pick_f rfl rfl rfl rfl rfl ?_
          refine r_done ?_
          refine s_keep [3, 4, 6, 7, 8, 9, 10, 71, 72] (e' := [(3, _), (4, _), (6, _), (7, _), (8, _), (9, _), (10, _), (71, _), (72, _)]) rfl ?_
          refine k_then_n ?_
          refine c_cond_f rfl ?_
          refine c_skip ?_
          refine k_blk_n ?_
          refine k_then_n ?_
          refine c_plain (.q 0 (.q 1 (.q 2 (.done)))) (by kernel_rfl) ?_
          refine q_move rfl rfl rfl rfl ?_
          refine q_int rfl rfl rfl rfl rfl (b_add' _ (by (first | exact fits_i64 (by omega) (by omega) | exact fits_u64 (by omega) (by omega) | exact fits_u32 (by omega) (by omega) | exact fits_u8 (by omega) (by omega)))) ?_
          refine q_assign rfl rfl rfl rfl ?_
          refine r_done ?_
          refine k_then_n ?_
          refine c_round ?_
          refine c_seq ?_
          refine c_seq ?_
          refine c_plain (.q 0 (.q 1 (.done))) (by kernel_rfl) ?_
          refine q_move rfl rfl rfl rfl ?_
          refine q_int rfl rfl rfl rfl rfl (b_lss _ _ _ _) ?_
          refine r_done ?_
          refine s_keep [3, 4, 6, 7, 8, 9, 10, 31, 71] (e' := [(3, _), (4, _), (6, _), (7, _), (8, _), (9, _), (10, _), (31, _), (71, _)]) rfl ?_
          refine k_then_n ?_
          refine c_cond_p rfl (fun hg => by exfalso; omega) (fun hg => ?_)
          refine c_exit ?_
          refine k_then_exit ?_
          refine k_then_exit ?_
          refine k_blk_here ?_
          refine k_then_n ?_
          refine c_seq ?_
          refine c_plain (.q 0 ((.l 1 [] (.q 2 ((.l 3 [] (.q 4 ((.l 5 [] (.done)))))))))) (by kernel_rfl) ?_
          refine q_load_c (j := 0) rfl rfl rfl rfl Try.isAgg23 (by with_reducible (repeat (first | exact Take.here | apply Take.there))) (by first | rfl | exact (Nat.add_zero _).symm) (by rfl) ?_
          refine s_take (A := own 1 encHW ta2 tc2 T2) (by with_reducible (repeat (first | exact Take.here | apply Take.there))) ?_
          refine own_fc fun hw1 hw2 hw3 => ?_
          have sp_63 := apart_spec T2 ta2 T2.length tc2 (own 1 encHW ta2 tc2 T2) (rds_own encHW_len (fun h => (hw2 h).1) hw3) rfl (by omega) (fun x hx => Nat.le_trans (hz42 x hx) (by omega))
          refine l_call rfl rfl rfl rfl rfl rfl Try.call14 (sp_63) (by (repeat ((with_reducible apply Takes.cons); focus (first | (with_reducible (repeat (first | exact Take.here | apply Take.there)); done) | (repeat (first | exact Take.here | apply Take.there))))); exact Takes.nil) ?_
          rintro ⟨⟩ -
          try simp only [List.cons_append, List.nil_append]
          refine ag_nil ?_
          refine q_move rfl rfl rfl rfl ?_
          refine l_call rfl rfl rfl rfl rfl rfl Try.call15 (known_spec) (by (repeat ((with_reducible apply Takes.cons); focus (first | (with_reducible (repeat (first | exact Take.here | apply Take.there)); done) | (repeat (first | exact Take.here | apply Take.there))))); exact Takes.nil) ?_
          rintro ⟨⟩ -
          try simp only [List.cons_append, List.nil_append]
          refine ag_nil ?_
          refine q_pick_t rfl rfl rfl rfl rfl ?_
          refine l_store (j := 0) rfl rfl rfl rfl Try.sizeOf4 (us := [_]) rfl rfl rfl (by with_reducible (repeat (first | exact Take.here | apply Take.there))) (by first | rfl | exact (Nat.add_zero _).symm) (by first | decide | (simp; done) | omega) ?_
          simp only [setL, List.set]
          refine ag_nil ?_
          refine r_done ?_
          refine s_keep [6] (e' := [(6, _)]) rfl ?_
          refine k_then_n ?_
          refine c_ret ?_
          refine rm_ret ?_
          refine rm_mark (blk := blk_59) (by with_reducible (repeat (first | exact Take.here | apply Take.there))) ?_
          refine rm_mark (blk := blk_7) (by with_reducible (repeat (first | exact Take.here | apply Take.there))) ?_
          refine rm_done (us := [_]) rfl ⟨rv_cell1 rfl Try.isAgg4 (by with_reducible (repeat (first | exact Take.here | apply Take.there))) (j := 0) rfl rfl, trivial⟩ (()) (by first | rfl | (first | rfl | (congr 1; done) | (congr 1 <;> first | rfl | omega | (simp; done) | (simp; omega)))) (by trivial) ?_
          (repeat ((with_reducible apply Takes.cons); focus (first | (with_reducible (repeat (first | exact Take.here | apply Take.there)); done) | (repeat (first | exact Take.here | apply Take.there))))); (repeat (first | exact Takes.nil | exact Takes.self | refine takes_drop2 ?_))
      · skip
        simp only at h1 h2
        obtain ⟨hc1, hz1, hz32, hz42⟩ := h2
        simp only at hz1 hz32 hz42
        try simp only [List.length_nil, Nat.zero_add] at hz31
        subst hc1
        subst h1
        show Le _ _
        try simp only [List.cons_append, List.nil_append]
        refine s_take (A := LJ b3 b4 b7 b9 b11 n q tu (T2, ta2, tc2, k2)) (by with_reducible (repeat (first | exact Take.here | apply Take.there))) ?_
        refine lj_open ?_
        try simp only [List.cons_append, List.nil_append]
        refine c_exit ?_
        refine k_blk_here ?_
        refine k_then_n ?_
        refine c_seq ?_
        refine c_plain (.q 0 (.q 1 (.q 2 ((.l 3 [] (.q 4 (.q 5 (.q 6 (.q 7 (.q 8 (.done))))))))))) (by kernel_rfl) ?_
        refine q_load_c (j := 0) rfl rfl rfl rfl Try.isAgg3 (by with_reducible (repeat (first | exact Take.here | apply Take.there))) (by first | rfl | exact (Nat.add_zero _).symm) (by rfl) ?_
        refine q_load_c (j := 0) rfl rfl rfl rfl Try.isAgg25 (by with_reducible (repeat (first | exact Take.here | apply Take.there))) (by first | rfl | exact (Nat.add_zero _).symm) (by rfl) ?_
        refine q_load_c (j := 0) rfl rfl rfl rfl Try.isAgg3 (by with_reducible (repeat (first | exact Take.here | apply Take.there))) (by first | rfl | exact (Nat.add_zero _).symm) (by rfl) ?_
        have sp_65 := rlist_spec n q k2 hn hqn hq (by omega)
        refine l_call rfl rfl rfl rfl rfl rfl Try.call21 (sp_65) (by (repeat ((with_reducible apply Takes.cons); focus (first | (with_reducible (repeat (first | exact Take.here | apply Take.there)); done) | (repeat (first | exact Take.here | apply Take.there))))); exact Takes.nil) ?_
        rintro ⟨xl_64a, xl_64c⟩ -
        try simp only [List.cons_append, List.nil_append]
        refine ag_nil ?_
        refine q_move rfl rfl rfl rfl ?_
        refine q_extract rfl rfl rfl rfl rfl ?_
        refine q_extract rfl rfl rfl rfl rfl ?_
        refine q_assign rfl rfl rfl rfl ?_
        refine q_assign rfl rfl rfl rfl ?_
        refine r_done ?_
        refine s_keep [3, 4, 6, 7, 8, 9, 10, 11, 16, 71] (e' := [(3, _), (4, _), (6, _), (7, _), (8, _), (9, _), (10, _), (11, _), (16, _), (71, _)]) rfl ?_
        refine k_then_n ?_
        refine c_seq ?_
        refine c_plain (.q 0 (.q 1 (.q 2 (.q 3 (.q 4 (.q 5 (.done))))))) (by kernel_rfl) ?_
        refine q_load_c (j := 0) rfl rfl rfl rfl Try.isAgg3 (by with_reducible (repeat (first | exact Take.here | apply Take.there))) (by first | rfl | exact (Nat.add_zero _).symm) (by rfl) ?_
        refine q_load_c (j := 0) rfl rfl rfl rfl Try.isAgg3 (by with_reducible (repeat (first | exact Take.here | apply Take.there))) (by first | rfl | exact (Nat.add_zero _).symm) (by rfl) ?_
        refine q_int rfl rfl rfl rfl rfl (b_leq _ _ _ _) ?_
        refine q_move rfl rfl rfl rfl ?_
        refine s_bool_p 70 rfl (fun hkt => ?_) (fun hkt => ?_)
        · skip
          refine q_move rfl rfl rfl rfl ?_
          refine q_pick_t rfl rfl rfl rfl rfl ?_
          refine r_done ?_
          refine s_keep [3, 4, 6, 7, 8, 9, 10, 71, 72] (e' := [(3, _), (4, _), (6, _), (7, _), (8, _), (9, _), (10, _), (71, _), (72, _)]) rfl ?_
          refine k_then_n ?_
          refine c_cond_p rfl (fun hg => by exfalso; first | exact absurd hg h3 | omega) (fun hg => ?_)
          refine c_skip ?_
          refine k_blk_n ?_
          refine k_then_n ?_
          refine c_plain (.q 0 (.q 1 (.q 2 (.done)))) (by kernel_rfl) ?_
          refine q_move rfl rfl rfl rfl ?_
          refine q_int rfl rfl rfl rfl rfl (b_add' _ (by (first | exact fits_i64 (by omega) (by omega) | exact fits_u64 (by omega) (by omega) | exact fits_u32 (by omega) (by omega) | exact fits_u8 (by omega) (by omega)))) ?_
          refine q_assign rfl rfl rfl rfl ?_
          refine r_done ?_
          refine k_then_n ?_
          refine c_round ?_
          refine c_seq ?_
          refine c_seq ?_
          refine c_plain (.q 0 (.q 1 (.done))) (by kernel_rfl) ?_
          refine q_move rfl rfl rfl rfl ?_
          refine q_int rfl rfl rfl rfl rfl (b_lss _ _ _ _) ?_
          refine r_done ?_
          refine s_keep [3, 4, 6, 7, 8, 9, 10, 31, 71] (e' := [(3, _), (4, _), (6, _), (7, _), (8, _), (9, _), (10, _), (31, _), (71, _)]) rfl ?_
          refine k_then_n ?_
          refine c_cond_p rfl (fun hg => by exfalso; omega) (fun hg => ?_)
          refine c_exit ?_
          refine k_then_exit ?_
          refine k_then_exit ?_
          refine k_blk_here ?_
          refine k_then_n ?_
          refine c_seq ?_
          refine c_plain (.q 0 ((.l 1 [] (.q 2 ((.l 3 [] (.q 4 ((.l 5 [] (.done)))))))))) (by kernel_rfl) ?_
          refine q_load_c (j := 0) rfl rfl rfl rfl Try.isAgg23 (by with_reducible (repeat (first | exact Take.here | apply Take.there))) (by first | rfl | exact (Nat.add_zero _).symm) (by rfl) ?_
          refine s_take (A := own 1 encHW ta2 tc2 T2) (by with_reducible (repeat (first | exact Take.here | apply Take.there))) ?_
          refine own_fc fun hw1 hw2 hw3 => ?_
          have sp_66 := apart_spec T2 ta2 T2.length tc2 (own 1 encHW ta2 tc2 T2) (rds_own encHW_len (fun h => (hw2 h).1) hw3) rfl (by omega) (fun x hx => Nat.le_trans (hz42 x hx) (by omega))
          refine l_call rfl rfl rfl rfl rfl rfl Try.call14 (sp_66) (by (repeat ((with_reducible apply Takes.cons); focus (first | (with_reducible (repeat (first | exact Take.here | apply Take.there)); done) | (repeat (first | exact Take.here | apply Take.there))))); exact Takes.nil) ?_
          rintro ⟨⟩ -
          try simp only [List.cons_append, List.nil_append]
          refine ag_nil ?_
          refine q_move rfl rfl rfl rfl ?_
          refine l_call rfl rfl rfl rfl rfl rfl Try.call15 (known_spec) (by (repeat ((with_reducible apply Takes.cons); focus (first | (with_reducible (repeat (first | exact Take.here | apply Take.there)); done) | (repeat (first | exact Take.here | apply Take.there))))); exact Takes.nil) ?_
          rintro ⟨⟩ -
          try simp only [List.cons_append, List.nil_append]
          refine ag_nil ?_
          refine q_pick_t rfl rfl rfl rfl rfl ?_
          refine l_store (j := 0) rfl rfl rfl rfl Try.sizeOf4 (us := [_]) rfl rfl rfl (by with_reducible (repeat (first | exact Take.here | apply Take.there))) (by first | rfl | exact (Nat.add_zero _).symm) (by first | decide | (simp; done) | omega) ?_
          simp only [setL, List.set]
          refine ag_nil ?_
          refine r_done ?_
          refine s_keep [6] (e' := [(6, _)]) rfl ?_
          refine k_then_n ?_
          refine c_ret ?_
          refine rm_ret ?_
          refine rm_mark (blk := blk_59) (by with_reducible (repeat (first | exact Take.here | apply Take.there))) ?_
          refine rm_mark (blk := blk_7) (by with_reducible (repeat (first | exact Take.here | apply Take.there))) ?_
          refine rm_done (us := [_]) rfl ⟨rv_cell1 rfl Try.isAgg4 (by with_reducible (repeat (first | exact Take.here | apply Take.there))) (j := 0) rfl rfl, trivial⟩ (()) (by first | rfl | (first | rfl | (congr 1; done) | (congr 1 <;> first | rfl | omega | (simp; done) | (simp; omega)))) (by trivial) ?_
          (repeat ((with_reducible apply Takes.cons); focus (first | (with_reducible (repeat (first | exact Take.here | apply Take.there)); done) | (repeat (first | exact Take.here | apply Take.there))))); (repeat (first | exact Takes.nil | exact Takes.self | refine takes_drop2 ?_))
        · skip
          refine q_skip rfl rfl rfl rfl ?_
          refine q_pick_f rfl rfl rfl rfl rfl ?_
          refine r_done ?_
          refine s_keep [3, 4, 6, 7, 8, 9, 10, 71, 72] (e' := [(3, _), (4, _), (6, _), (7, _), (8, _), (9, _), (10, _), (71, _), (72, _)]) rfl ?_
          refine k_then_n ?_
          refine c_cond_f rfl ?_
          refine c_skip ?_
          refine k_blk_n ?_
          refine k_then_n ?_
          refine c_plain (.q 0 (.q 1 (.q 2 (.done)))) (by kernel_rfl) ?_
          refine q_move rfl rfl rfl rfl ?_
          refine q_int rfl rfl rfl rfl rfl (b_add' _ (by (first | exact fits_i64 (by omega) (by omega) | exact fits_u64 (by omega) (by omega) | exact fits_u32 (by omega) (by omega) | exact fits_u8 (by omega) (by omega)))) ?_
          refine q_assign rfl rfl rfl rfl ?_
          refine r_done ?_
          refine k_then_n ?_
          refine c_round ?_
          refine c_seq ?_
          refine c_seq ?_
          refine c_plain (.q 0 (.q 1 (.done))) (by kernel_rfl) ?_
          refine q_move rfl rfl rfl rfl ?_
          refine q_int rfl rfl rfl rfl rfl (b_lss _ _ _ _) ?_
          refine r_done ?_
          refine s_keep [3, 4, 6, 7, 8, 9, 10, 31, 71] (e' := [(3, _), (4, _), (6, _), (7, _), (8, _), (9, _), (10, _), (31, _), (71, _)]) rfl ?_
          refine k_then_n ?_
          refine c_cond_p rfl (fun hg => by exfalso; omega) (fun hg => ?_)
          refine c_exit ?_
          refine k_then_exit ?_
          refine k_then_exit ?_
          refine k_blk_here ?_
          refine k_then_n ?_
          refine c_seq ?_
          refine c_plain (.q 0 ((.l 1 [] (.q 2 ((.l 3 [] (.q 4 ((.l 5 [] (.done)))))))))) (by kernel_rfl) ?_
          refine q_load_c (j := 0) rfl rfl rfl rfl Try.isAgg23 (by with_reducible (repeat (first | exact Take.here | apply Take.there))) (by first | rfl | exact (Nat.add_zero _).symm) (by rfl) ?_
          refine s_take (A := own 1 encHW ta2 tc2 T2) (by with_reducible (repeat (first | exact Take.here | apply Take.there))) ?_
          refine own_fc fun hw1 hw2 hw3 => ?_
          have sp_67 := apart_spec T2 ta2 T2.length tc2 (own 1 encHW ta2 tc2 T2) (rds_own encHW_len (fun h => (hw2 h).1) hw3) rfl (by omega) (fun x hx => Nat.le_trans (hz42 x hx) (by omega))
          refine l_call rfl rfl rfl rfl rfl rfl Try.call14 (sp_67) (by (repeat ((with_reducible apply Takes.cons); focus (first | (with_reducible (repeat (first | exact Take.here | apply Take.there)); done) | (repeat (first | exact Take.here | apply Take.there))))); exact Takes.nil) ?_
          rintro ⟨⟩ -
          try simp only [List.cons_append, List.nil_append]
          refine ag_nil ?_
          refine q_move rfl rfl rfl rfl ?_
          refine l_call rfl rfl rfl rfl rfl rfl Try.call15 (known_spec) (by (repeat ((with_reducible apply Takes.cons); focus (first | (with_reducible (repeat (first | exact Take.here | apply Take.there)); done) | (repeat (first | exact Take.here | apply Take.there))))); exact Takes.nil) ?_
          rintro ⟨⟩ -
          try simp only [List.cons_append, List.nil_append]
          refine ag_nil ?_
          refine q_pick_t rfl rfl rfl rfl rfl ?_
          refine l_store (j := 0) rfl rfl rfl rfl Try.sizeOf4 (us := [_]) rfl rfl rfl (by with_reducible (repeat (first | exact Take.here | apply Take.there))) (by first | rfl | exact (Nat.add_zero _).symm) (by first | decide | (simp; done) | omega) ?_
          simp only [setL, List.set]
          refine ag_nil ?_
          refine r_done ?_
          refine s_keep [6] (e' := [(6, _)]) rfl ?_
          refine k_then_n ?_
          refine c_ret ?_
          refine rm_ret ?_
          refine rm_mark (blk := blk_59) (by with_reducible (repeat (first | exact Take.here | apply Take.there))) ?_
          refine rm_mark (blk := blk_7) (by with_reducible (repeat (first | exact Take.here | apply Take.there))) ?_
          refine rm_done (us := [_]) rfl ⟨rv_cell1 rfl Try.isAgg4 (by with_reducible (repeat (first | exact Take.here | apply Take.there))) (j := 0) rfl rfl, trivial⟩ (()) (by first | rfl | (first | rfl | (congr 1; done) | (congr 1 <;> first | rfl | omega | (simp; done) | (simp; omega)))) (by trivial) ?_
          (repeat ((with_reducible apply Takes.cons); focus (first | (with_reducible (repeat (first | exact Take.here | apply Take.there)); done) | (repeat (first | exact Take.here | apply Take.there))))); (repeat (first | exact Takes.nil | exact Takes.self | refine takes_drop2 ?_))
end Go.Ab.Sc
