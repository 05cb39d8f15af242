/- Package sched's laws: Draws, Turns. -/
import Derived.Test.YtmaonhoplaebhaaSc7
set_option linter.unusedVariables false
set_option linter.unusedSimpArgs false
set_option maxRecDepth 100000
namespace Go.Ab.Sc
open Go Go.Proofs Go.Ab
theorem drL_le (g : Int → Int) (s n : Int) : (drL g s n).length ≤ 1048576 := by
  unfold drL
  split
  · rename_i h; have := lenE_ok h; rw [dr_len]; omega
  · simp
theorem blL_le (q s n : Int) : (blL q s n).length ≤ 1048576 := by
  unfold blL
  split
  · simp
  · exact drL_le _ _ _
theorem draws_spec (s z n : Int) (hz0 : 0 ≤ z) (hz1 : z < 4294967296) : Spec Try.prog 5 [.int .u64 s, .int .u32 z, .int .i64 n] [] (fun (_ : Unit) => .bool true) (fun _ => True) (fun _ => []) := by
  refine spec_mk (n := 105) Try.func5 rfl rfl rfl ?_
  intro Γ w0
  simp only [argE, List.cons_append, List.nil_append, Nat.zero_add, Nat.reduceAdd]
  have hdl1 := drL_le (fun x => x) s n
  have hdl2 := blL_le z s n
  refine c_seq ?_
  refine c_plain (.q 0 (.done)) (by kernel_rfl) ?_
  refine q_assign rfl rfl rfl rfl ?_
  refine r_done ?_
  refine k_then_n ?_
  refine c_seq ?_
  refine c_plain (.q 0 (.done)) (by kernel_rfl) ?_
  refine q_assign rfl rfl rfl rfl ?_
  refine r_done ?_
  refine k_then_n ?_
  refine c_seq ?_
  refine c_seq ?_
  refine c_plain (.q 0 (.done)) (by kernel_rfl) ?_
  refine q_assign rfl rfl rfl rfl ?_
  refine r_done ?_
  refine k_then_n ?_
  refine c_block ?_
  refine s_heap (fun _ h => own_nil (sz := 1) (enc := encHW) h) ?_
  refine s_big_nil (f := owA 1 encW) ?_
  refine c_loop2 (α := Nat × List (LstA Int) × Option Addr × Nat) (fun (x_ : Nat × List (LstA Int) × Option Addr × Nat) => match x_ with | (k, T, ta, tc) => k ≤ 2 ∧ (T.length = 2 * k) ∧ (∀ (j : Nat) (x : LstA Int), T[j]? = some x → x.2.2 = if j % 2 = 0 then drL (fun x => x) s n else blL z s n)) (fun (x_ : Nat × List (LstA Int) × Option Addr × Nat) => match x_ with | (k, T, ta, tc) => [(7, .slice ta T.length tc), (8, .int .i64 ((k : Nat) : Int))]) (fun (x_ : Nat × List (LstA Int) × Option Addr × Nat) => match x_ with | (k, T, ta, tc) => [bigS (owA 1 encW) T, own 1 encHW ta tc T]) (fun (x_ : Nat × List (LstA Int) × Option Addr × Nat) => match x_ with | (k, T, ta, tc) => 2 - k) [0, 1, 2] (er := [(0, _), (1, _), (2, _)]) rfl (0, [], none, 0) ?_ (by exact ⟨rfl, rfl, trivial⟩) (by (try dsimp only); (try simp only [Nat.add_zero, Nat.zero_add]); (repeat ((with_reducible apply Takes.cons); focus (first | (with_reducible (repeat (first | exact Take.here | apply Take.there)); done) | (repeat (first | exact Take.here | apply Take.there))))); exact Takes.nil) ?_
  · exact ⟨Nat.zero_le _, rfl, fun j x h => by simp at h⟩
  rintro ⟨k, T, ta, tc⟩ ⟨hle_k, hTl, hT⟩
  try simp only [List.cons_append, List.nil_append]
  refine c_seq ?_
  refine c_seq ?_
  refine c_plain (.q 0 (.q 1 (.done))) (by kernel_rfl) ?_
  refine q_move rfl rfl rfl rfl ?_
  refine q_int rfl rfl rfl rfl rfl (b_lss _ _ _ _) ?_
  refine r_done ?_
  refine k_then_n ?_
  refine c_cond_p rfl (fun hlt => ?_) (fun hlt => ?_)
  · skip
    refine c_skip ?_
    refine k_then_n ?_
    refine c_seq ?_
    refine c_block ?_
    refine c_seq ?_
    refine c_plain (.q 0 (.q 1 ((.l 2 [] (.q 3 (.q 4 (.q 5 (.q 6 (.q 7 (.done)))))))))) (by kernel_rfl) ?_
    refine q_move rfl rfl rfl rfl ?_
    refine q_move rfl rfl rfl rfl ?_
    have sp_1 := draw_spec s n
    refine l_call rfl rfl rfl rfl rfl rfl Try.call16 (sp_1) (by (repeat ((with_reducible apply Takes.cons); focus (first | (with_reducible (repeat (first | exact Take.here | apply Take.there)); done) | (repeat (first | exact Take.here | apply Take.there))))); exact Takes.nil) ?_
    rintro ⟨aa, ac⟩ -
    try simp only [List.cons_append, List.nil_append]
    refine ag_nil ?_
    refine q_move rfl rfl rfl rfl ?_
    refine q_extract rfl rfl rfl rfl rfl ?_
    refine q_extract rfl rfl rfl rfl rfl ?_
    refine q_assign rfl rfl rfl rfl ?_
    refine q_assign rfl rfl rfl rfl ?_
    refine r_done ?_
    refine s_keep [0, 1, 2, 7, 8, 9, 10] (e' := [(0, _), (1, _), (2, _), (7, _), (8, _), (9, _), (10, _)]) rfl ?_
    refine k_then_n ?_
    refine c_seq ?_
    refine c_plain (.q 0 (.q 1 ((.l 2 [] (.q 3 (.q 4 (.q 5 (.q 6 (.q 7 (.done)))))))))) (by kernel_rfl) ?_
    refine q_move rfl rfl rfl rfl ?_
    refine q_move rfl rfl rfl rfl ?_
    have sp_2 := rdraw_spec s n
    refine l_call rfl rfl rfl rfl rfl rfl Try.call17 (sp_2) (by (repeat ((with_reducible apply Takes.cons); focus (first | (with_reducible (repeat (first | exact Take.here | apply Take.there)); done) | (repeat (first | exact Take.here | apply Take.there))))); exact Takes.nil) ?_
    rintro ⟨xa, xc⟩ -
    try simp only [List.cons_append, List.nil_append]
    refine ag_nil ?_
    refine q_move rfl rfl rfl rfl ?_
    refine q_extract rfl rfl rfl rfl rfl ?_
    refine q_extract rfl rfl rfl rfl rfl ?_
    refine q_assign rfl rfl rfl rfl ?_
    refine q_assign rfl rfl rfl rfl ?_
    refine r_done ?_
    refine s_keep [0, 1, 2, 7, 8, 9, 10, 11, 12] (e' := [(0, _), (1, _), (2, _), (7, _), (8, _), (9, _), (10, _), (11, _), (12, _)]) rfl ?_
    refine k_then_n ?_
    refine c_seq ?_
    refine c_plain (.q 0 (.q 1 (.q 2 ((.l 3 [] (.q 4 (.q 5 (.q 6 (.q 7 (.q 8 (.done))))))))))) (by kernel_rfl) ?_
    refine q_move rfl rfl rfl rfl ?_
    refine q_move rfl rfl rfl rfl ?_
    refine q_move rfl rfl rfl rfl ?_
    have sp_3 := belows_spec s z n (by omega) (by omega)
    refine l_call rfl rfl rfl rfl rfl rfl Try.call18 (sp_3) (by (repeat ((with_reducible apply Takes.cons); focus (first | (with_reducible (repeat (first | exact Take.here | apply Take.there)); done) | (repeat (first | exact Take.here | apply Take.there))))); exact Takes.nil) ?_
    rintro ⟨ba, bc⟩ -
    try simp only [List.cons_append, List.nil_append]
    refine ag_nil ?_
    refine q_move rfl rfl rfl rfl ?_
    refine q_extract rfl rfl rfl rfl rfl ?_
    refine q_extract rfl rfl rfl rfl rfl ?_
    refine q_assign rfl rfl rfl rfl ?_
    refine q_assign rfl rfl rfl rfl ?_
    refine r_done ?_
    refine s_keep [0, 1, 2, 7, 8, 9, 10, 11, 12, 13, 14] (e' := [(0, _), (1, _), (2, _), (7, _), (8, _), (9, _), (10, _), (11, _), (12, _), (13, _), (14, _)]) rfl ?_
    refine k_then_n ?_
    refine c_seq ?_
    refine c_plain (.q 0 (.q 1 (.q 2 ((.l 3 [] (.q 4 (.q 5 (.q 6 (.q 7 (.q 8 (.done))))))))))) (by kernel_rfl) ?_
    refine q_move rfl rfl rfl rfl ?_
    refine q_move rfl rfl rfl rfl ?_
    refine q_move rfl rfl rfl rfl ?_
    have sp_4 := rbelows_spec s z n (by omega) (by omega)
    refine l_call rfl rfl rfl rfl rfl rfl Try.call19 (sp_4) (by (repeat ((with_reducible apply Takes.cons); focus (first | (with_reducible (repeat (first | exact Take.here | apply Take.there)); done) | (repeat (first | exact Take.here | apply Take.there))))); exact Takes.nil) ?_
    rintro ⟨ya, yc⟩ -
    try simp only [List.cons_append, List.nil_append]
    refine ag_nil ?_
    refine q_move rfl rfl rfl rfl ?_
    refine q_extract rfl rfl rfl rfl rfl ?_
    refine q_extract rfl rfl rfl rfl rfl ?_
    refine q_assign rfl rfl rfl rfl ?_
    refine q_assign rfl rfl rfl rfl ?_
    refine r_done ?_
    refine s_keep [0, 1, 2, 7, 8, 9, 10, 11, 12, 13, 14, 15, 16] (e' := [(0, _), (1, _), (2, _), (7, _), (8, _), (9, _), (10, _), (11, _), (12, _), (13, _), (14, _), (15, _), (16, _)]) rfl ?_
    refine k_then_n ?_
    refine c_seq ?_
    refine c_seq ?_
    refine c_plain (.q 0 (.q 1 (.q 2 (.q 3 (.q 4 (.q 5 (.q 6 (.q 7 (.q 8 (.q 9 (.q 10 ((.l 11 [] (.q 12 (.q 13 (.q 14 (.q 15 (.q 16 ((.l 17 [] (.q 18 (.q 19 (.done))))))))))))))))))))))) (by kernel_rfl) ?_
    refine q_move rfl rfl rfl rfl ?_
    refine q_move rfl rfl rfl rfl ?_
    refine q_int rfl rfl rfl rfl rfl (b_neq _ _ _ _) ?_
    refine q_move rfl rfl rfl rfl ?_
    refine s_bool_p 54 rfl (fun hg => by exfalso; first | exact hg rfl | exact hg trivial | simp at hg) (fun hg => ?_)
    refine q_move rfl rfl rfl rfl ?_
    refine q_move rfl rfl rfl rfl ?_
    refine q_int rfl rfl rfl rfl rfl (b_neq _ _ _ _) ?_
    refine q_pick_f rfl rfl rfl rfl rfl ?_
    refine q_move rfl rfl rfl rfl ?_
    refine s_bool_p 59 rfl (fun hg => by exfalso; first | exact hg rfl | exact hg trivial | simp at hg) (fun hg => ?_)
    refine q_move rfl rfl rfl rfl ?_
    refine q_move rfl rfl rfl rfl ?_
    refine s_take (A := own 1 encW aa ac (drL (fun x => x) s n)) (by with_reducible (repeat (first | exact Take.here | apply Take.there))) ?_
    refine own_fc fun f_5a f_5b f_5c => ?_
    refine s_take (A := own 1 encW xa xc (drL (fun x => x) s n)) (by with_reducible (repeat (first | exact Take.here | apply Take.there))) ?_
    refine own_fc fun f_6a f_6b f_6c => ?_
    refine s_heap (fun _ h => Bun.fold ((by (repeat ((with_reducible apply Takes.cons); focus (first | (with_reducible (repeat (first | exact Take.here | apply Take.there)); done) | (repeat (first | exact Take.here | apply Take.there))))); exact Takes.nil : Takes _ [own 1 encW aa ac (drL (fun x => x) s n), own 1 encW xa xc (drL (fun x => x) s n)] _) _ h)) ?_
    refine l_call rfl rfl rfl rfl rfl rfl Try.call13 (same_spec (drL (fun x => x) s n) (drL (fun x => x) s n) aa xa ((drL (fun x => x) s n).length) ((drL (fun x => x) s n).length) ac xc (Bun [own 1 encW aa ac (drL (fun x => x) s n), own 1 encW xa xc (drL (fun x => x) s n)]) (by first | rfl | assumption | omega | (simp; done) | (simp; omega)) (rds_bun (List.mem_cons_self) (rds_own encW_len (fun h => (f_5b h).1) f_5c)) (by first | rfl | assumption | omega | (simp; done) | (simp; omega)) (rds_bun (List.mem_cons_of_mem _ (List.mem_cons_self)) (rds_own encW_len (fun h => (f_6b h).1) f_6c)) (by omega)) (by (repeat ((with_reducible apply Takes.cons); focus (first | (with_reducible (repeat (first | exact Take.here | apply Take.there)); done) | (repeat (first | exact Take.here | apply Take.there))))); exact Takes.nil) ?_
    rintro ⟨⟩ -
    try simp only [List.cons_append, List.nil_append]
    refine s_take (A := Bun [own 1 encW aa ac (drL (fun x => x) s n), own 1 encW xa xc (drL (fun x => x) s n)]) (by with_reducible (repeat (first | exact Take.here | apply Take.there))) ?_
    refine s_bun ?_
    try simp only [List.cons_append, List.nil_append]
    try simp only [List.cons_append, List.nil_append]
    refine ag_nil ?_
    refine q_not rfl rfl rfl rfl ?_
    refine q_pick_f rfl rfl rfl rfl rfl ?_
    refine q_move rfl rfl rfl rfl ?_
    refine s_bool_np 65 rfl (fun hg => by exfalso; first | exact hg rfl | exact hg trivial | simp at hg) (fun hg => ?_)
    refine q_move rfl rfl rfl rfl ?_
    refine q_move rfl rfl rfl rfl ?_
    refine s_take (A := own 1 encW ba bc (blL z s n)) (by with_reducible (repeat (first | exact Take.here | apply Take.there))) ?_
    refine own_fc fun f_7a f_7b f_7c => ?_
    refine s_take (A := own 1 encW ya yc (blL z s n)) (by with_reducible (repeat (first | exact Take.here | apply Take.there))) ?_
    refine own_fc fun f_8a f_8b f_8c => ?_
    refine s_heap (fun _ h => Bun.fold ((by (repeat ((with_reducible apply Takes.cons); focus (first | (with_reducible (repeat (first | exact Take.here | apply Take.there)); done) | (repeat (first | exact Take.here | apply Take.there))))); exact Takes.nil : Takes _ [own 1 encW ba bc (blL z s n), own 1 encW ya yc (blL z s n)] _) _ h)) ?_
    refine l_call rfl rfl rfl rfl rfl rfl Try.call13 (same_spec (blL z s n) (blL z s n) ba ya ((blL z s n).length) ((blL z s n).length) bc yc (Bun [own 1 encW ba bc (blL z s n), own 1 encW ya yc (blL z s n)]) (by first | rfl | assumption | omega | (simp; done) | (simp; omega)) (rds_bun (List.mem_cons_self) (rds_own encW_len (fun h => (f_7b h).1) f_7c)) (by first | rfl | assumption | omega | (simp; done) | (simp; omega)) (rds_bun (List.mem_cons_of_mem _ (List.mem_cons_self)) (rds_own encW_len (fun h => (f_8b h).1) f_8c)) (by omega)) (by (repeat ((with_reducible apply Takes.cons); focus (first | (with_reducible (repeat (first | exact Take.here | apply Take.there)); done) | (repeat (first | exact Take.here | apply Take.there))))); exact Takes.nil) ?_
    rintro ⟨⟩ -
    try simp only [List.cons_append, List.nil_append]
    refine s_take (A := Bun [own 1 encW ba bc (blL z s n), own 1 encW ya yc (blL z s n)]) (by with_reducible (repeat (first | exact Take.here | apply Take.there))) ?_
    refine s_bun ?_
    try simp only [List.cons_append, List.nil_append]
    try simp only [List.cons_append, List.nil_append]
    refine ag_nil ?_
    refine q_not rfl rfl rfl rfl ?_
    refine q_pick_f rfl rfl rfl rfl rfl ?_
    refine r_done ?_
    refine s_keep [0, 1, 2, 7, 8, 9, 13, 55, 56, 57, 60, 61, 62, 63, 66, 67, 68, 69, 70] (e' := [(0, _), (1, _), (2, _), (7, _), (8, _), (9, _), (13, _), (55, _), (56, _), (57, _), (60, _), (61, _), (62, _), (63, _), (66, _), (67, _), (68, _), (69, _), (70, _)]) rfl ?_
    refine k_then_n ?_
    refine c_cond_np rfl (fun hg => by exfalso; first | exact hg rfl | exact hg trivial | simp at hg) (fun hg => ?_)
    refine c_skip ?_
    refine k_then_n ?_
    refine c_plain (.q 0 (.q 1 (.q 2 ((.l 3 [] ((.l 4 [] (.q 5 (.done))))))))) (by kernel_rfl) ?_
    refine q_move rfl rfl rfl rfl ?_
    refine q_move rfl rfl rfl rfl ?_
    refine q_move rfl rfl rfl rfl ?_
    refine l_buildSlice rfl rfl rfl rfl (vs := [_, _]) (run_buildSl Try.underlying23 Try.sizeOf24 Try.zeroValue24 rfl rfl rfl rfl) ?_
    intro b74
    refine ag_nil ?_
    refine l_append (sz := 1) (enc := encHW) (xs := T) rfl rfl rfl rfl rfl Try.underlying23 Try.typeInfo24 rfl rfl rfl (by decide) (by with_reducible (repeat (first | exact Take.here | apply Take.there))) (by with_reducible (repeat (first | exact Take.here | apply Take.there))) (by rfl) (ys := [(aa, ac, (drL (fun x => x) s n)), (ba, bc, (blL z s n))]) (rds_some rdn_cells) (by rfl) (by first | rfl | omega) (encHW_len) (encHW_one) (by omega) (by show _ * 24 ≤ _; omega) ?_
    intro ao75 cp75
    refine ag_nil ?_
    refine q_assign rfl rfl rfl rfl ?_
    refine r_done ?_
    refine s_keep [0, 1, 2, 7, 8, 55, 56, 57, 60, 61, 62, 63, 66, 67, 68, 69] (e' := [(0, _), (1, _), (2, _), (7, _), (8, _), (55, _), (56, _), (57, _), (60, _), (61, _), (62, _), (63, _), (66, _), (67, _), (68, _), (69, _)]) rfl ?_
    refine k_blk_n ?_
    refine k_then_n ?_
    refine c_plain (.q 0 (.q 1 (.q 2 (.done)))) (by kernel_rfl) ?_
    refine q_move rfl rfl rfl rfl ?_
    refine q_int rfl rfl rfl rfl rfl (b_add' _ (by (first | exact fits_i64 (by omega) (by omega) | exact fits_u64 (by omega) (by omega) | exact fits_u32 (by omega) (by omega) | exact fits_u8 (by omega) (by omega)))) ?_
    refine q_assign rfl rfl rfl rfl ?_
    refine r_done ?_
    refine k_then_n ?_
    refine s_big_push (f := owA 1 encW) (L := T) (x := (aa, ac, drL (fun x => x) s n)) (by (repeat ((with_reducible apply Takes.cons); focus (first | (with_reducible (repeat (first | exact Take.here | apply Take.there)); done) | (repeat (first | exact Take.here | apply Take.there))))); exact Takes.nil) ?_
    refine s_big_push (f := owA 1 encW) (L := (T ++ [(aa, ac, drL (fun x => x) s n)])) (x := (ba, bc, blL z s n)) (by (repeat ((with_reducible apply Takes.cons); focus (first | (with_reducible (repeat (first | exact Take.here | apply Take.there)); done) | (repeat (first | exact Take.here | apply Take.there))))); exact Takes.nil) ?_
    rw [List.append_assoc, show [(aa, ac, drL (fun x => x) s n)] ++ [(ba, bc, blL z s n)] = [(aa, ac, drL (fun x => x) s n), (ba, bc, blL z s n)] from rfl]
    refine s_eq 7 rfl (v' := .slice ao75 (T ++ [(aa, ac, drL (fun x => x) s n), (ba, bc, blL z s n)]).length cp75) (by simp) ?_
    refine loop_next (x := (k, T, ta, tc)) ((k + 1, T ++ [(aa, ac, drL (fun x => x) s n), (ba, bc, blL z s n)], ao75, cp75)) ?_ ?_ ?_ ?_
    · try dsimp only
      exact ⟨by omega, by rw [List.length_append, hTl]; simp; omega, two_next hTl hT rfl rfl⟩
    · show 2 - (k + 1) < 2 - k; omega
    · exact ⟨rfl, rfl, rfl, rfl, rfl, trivial⟩
    · (try simp only [List.cons_append, List.nil_append]); (repeat ((with_reducible apply Takes.cons); focus (first | (with_reducible (repeat (first | exact Take.here | apply Take.there)); done) | (repeat (first | exact Take.here | apply Take.there))))); (repeat (first | exact Takes.nil | exact Takes.self | refine takes_drop2 ?_))
  · skip
    refine c_exit ?_
    refine k_then_exit ?_
    refine k_then_exit ?_
    refine k_blk_here ?_
    refine k_then_n ?_
    refine c_seq ?_
    obtain rfl : k = 2 := by omega
    obtain ⟨t0, ht0⟩ := get_lt (l := T) (i := 0) (by omega)
    have ht0e : t0.2.2 = drL (fun x => x) s n := hT 0 t0 ht0
    refine s_owA (T := T) (by with_reducible (repeat (first | exact Take.here | apply Take.there))) ht0 fun ho1 ho2 => ?_
    have htb : ∀ x ∈ T, x.2.2.length ≤ 100000000 := fun x hx => by
      obtain ⟨j, hj⟩ := List.getElem?_of_mem hx
      rw [hT j x hj]
      split
      · exact Nat.le_trans hdl1 (by decide)
      · exact Nat.le_trans hdl2 (by decide)
    refine c_plain (.q 0 (.q 1 ((.l 2 [] (.q 3 (.q 4 (.q 5 (.q 6 (.q 7 (.done)))))))))) (by kernel_rfl) ?_
    refine q_move rfl rfl rfl rfl ?_
    refine q_move rfl rfl rfl rfl ?_
    have sp_9 := rdraw_spec s n
    refine l_call rfl rfl rfl rfl rfl rfl Try.call17 (sp_9) (by (repeat ((with_reducible apply Takes.cons); focus (first | (with_reducible (repeat (first | exact Take.here | apply Take.there)); done) | (repeat (first | exact Take.here | apply Take.there))))); exact Takes.nil) ?_
    rintro ⟨xa, xc⟩ -
    try simp only [List.cons_append, List.nil_append]
    refine ag_nil ?_
    refine q_move rfl rfl rfl rfl ?_
    refine q_extract rfl rfl rfl rfl rfl ?_
    refine q_extract rfl rfl rfl rfl rfl ?_
    refine q_assign rfl rfl rfl rfl ?_
    refine q_assign rfl rfl rfl rfl ?_
    refine r_done ?_
    refine s_keep [0, 2, 7, 17] (e' := [(0, _), (2, _), (7, _), (17, _)]) rfl ?_
    refine k_then_n ?_
    refine c_seq ?_
    refine c_seq ?_
    refine c_plain (.q 0 (.q 1 (.q 2 (.q 3 ((.l 4 [] (.q 5 (.q 6 (.q 7 ((.l 8 [] (.q 9 (.q 10 (.done)))))))))))))) (by kernel_rfl) ?_
    refine q_move rfl rfl rfl rfl ?_
    refine q_idxO (sz := 0) (k := 0) (enc := encHW) (xs := T) rfl rfl rfl rfl rfl Try.underlying23 Try.sizeOf24 ht0 (by first | rfl | omega) (by omega) (by with_reducible (repeat (first | exact Take.here | apply Take.there))) ?_
    intro ib83 io83 ha83 hl83 hc83
    refine q_load_O (v := (.slice t0.1 t0.2.2.length t0.2.1)) (j := 0) (k' := 0) (enc := encHW) (off := io83) rfl rfl rfl rfl Try.isAgg24 ha83 encHW_len ht0 (by with_reducible (repeat (first | exact Take.here | apply Take.there))) (by first | rfl | exact (Nat.add_zero _).symm | omega) (by rfl) ?_
    refine q_move rfl rfl rfl rfl ?_
    have htl0 := congrArg List.length ht0e
    refine s_take (A := own 1 encW xa xc (drL (fun x => x) s n)) (by with_reducible (repeat (first | exact Take.here | apply Take.there))) ?_
    refine own_fc fun f_10a f_10b f_10c => ?_
    refine s_heap (fun _ h => Bun.fold ((by (repeat ((with_reducible apply Takes.cons); focus (first | (with_reducible (repeat (first | exact Take.here | apply Take.there)); done) | (repeat (first | exact Take.here | apply Take.there))))); exact Takes.nil : Takes _ [bigS (owA 1 encW) T, own 1 encW xa xc (drL (fun x => x) s n)] _) _ h)) ?_
    refine l_call rfl rfl rfl rfl rfl rfl Try.call13 (same_spec (t0.2.2) (drL (fun x => x) s n) t0.1 xa t0.2.2.length ((drL (fun x => x) s n).length) t0.2.1 xc (Bun [bigS (owA 1 encW) T, own 1 encW xa xc (drL (fun x => x) s n)]) (by first | rfl | assumption | omega | (simp; done) | (simp; omega)) (rds_bun (List.mem_cons_self) (rds_big (f := owA 1 encW) (List.mem_of_getElem? ht0) (rds_own encW_len ho1 ho2))) (by first | rfl | assumption | omega | (simp; done) | (simp; omega)) (rds_bun (List.mem_cons_of_mem _ (List.mem_cons_self)) (rds_own encW_len (fun h => (f_10b h).1) f_10c)) (by omega)) (by (repeat ((with_reducible apply Takes.cons); focus (first | (with_reducible (repeat (first | exact Take.here | apply Take.there)); done) | (repeat (first | exact Take.here | apply Take.there))))); exact Takes.nil) ?_
    rintro ⟨⟩ -
    try simp only [List.cons_append, List.nil_append]
    refine s_take (A := Bun [bigS (owA 1 encW) T, own 1 encW xa xc (drL (fun x => x) s n)]) (by with_reducible (repeat (first | exact Take.here | apply Take.there))) ?_
    refine s_bun ?_
    try simp only [List.cons_append, List.nil_append]
    try simp only [List.cons_append, List.nil_append]
    refine ag_nil ?_
    refine q_not rfl rfl rfl rfl ?_
    refine q_move rfl rfl rfl rfl ?_
    refine s_bool_np 88 rfl (fun hg => by exfalso; exact hg ht0e) (fun hg => ?_)
    refine q_move rfl rfl rfl rfl ?_
    refine s_take (A := own 1 encHW ta tc T) (by with_reducible (repeat (first | exact Take.here | apply Take.there))) ?_
    refine own_fc fun hw1 hw2 hw3 => ?_
    have sp_11 := apart_spec T ta T.length tc (own 1 encHW ta tc T) (rds_own encHW_len (fun h => (hw2 h).1) hw3) rfl (by omega) htb
    refine l_call rfl rfl rfl rfl rfl rfl Try.call14 (sp_11) (by (repeat ((with_reducible apply Takes.cons); focus (first | (with_reducible (repeat (first | exact Take.here | apply Take.there)); done) | (repeat (first | exact Take.here | apply Take.there))))); exact Takes.nil) ?_
    rintro ⟨⟩ -
    try simp only [List.cons_append, List.nil_append]
    refine ag_nil ?_
    refine q_not rfl rfl rfl rfl ?_
    refine s_eq 91 rfl (v' := .bool false) rfl ?_
    refine q_pick_f rfl rfl rfl rfl rfl ?_
    refine r_done ?_
    refine s_keep [0, 2, 17, 92] (e' := [(0, _), (2, _), (17, _), (92, _)]) rfl ?_
    refine k_then_n ?_
    refine c_cond_f rfl ?_
    refine c_skip ?_
    refine k_then_n ?_
    refine c_seq ?_
    refine c_plain (.q 0 (.q 1 ((.l 2 [] (.q 3 (.q 4 (.q 5 (.q 6 (.q 7 (.done)))))))))) (by kernel_rfl) ?_
    refine q_move rfl rfl rfl rfl ?_
    refine q_move rfl rfl rfl rfl ?_
    have sp_12 := draw_spec s n
    refine l_call rfl rfl rfl rfl rfl rfl Try.call16 (sp_12) (by (repeat ((with_reducible apply Takes.cons); focus (first | (with_reducible (repeat (first | exact Take.here | apply Take.there)); done) | (repeat (first | exact Take.here | apply Take.there))))); exact Takes.nil) ?_
    rintro ⟨wa, wc⟩ -
    try simp only [List.cons_append, List.nil_append]
    refine ag_nil ?_
    refine q_move rfl rfl rfl rfl ?_
    refine q_extract rfl rfl rfl rfl rfl ?_
    refine q_extract rfl rfl rfl rfl rfl ?_
    refine q_assign rfl rfl rfl rfl ?_
    refine q_assign rfl rfl rfl rfl ?_
    refine r_done ?_
    refine s_keep [17, 19] (e' := [(17, _), (19, _)]) rfl ?_
    refine k_then_n ?_
    refine c_seq ?_
    refine c_plain (.q 0 (.q 1 ((.l 2 [] (.q 3 ((.l 4 [] (.q 5 (.q 6 (.done)))))))))) (by kernel_rfl) ?_
    refine q_move rfl rfl rfl rfl ?_
    refine q_move rfl rfl rfl rfl ?_
    refine s_take (A := own 1 encW wa wc (drL (fun x => x) s n)) (by with_reducible (repeat (first | exact Take.here | apply Take.there))) ?_
    refine own_fc fun f_13a f_13b f_13c => ?_
    refine s_take (A := own 1 encW xa xc (drL (fun x => x) s n)) (by with_reducible (repeat (first | exact Take.here | apply Take.there))) ?_
    refine own_fc fun f_14a f_14b f_14c => ?_
    refine s_heap (fun _ h => Bun.fold ((by (repeat ((with_reducible apply Takes.cons); focus (first | (with_reducible (repeat (first | exact Take.here | apply Take.there)); done) | (repeat (first | exact Take.here | apply Take.there))))); exact Takes.nil : Takes _ [own 1 encW wa wc (drL (fun x => x) s n), own 1 encW xa xc (drL (fun x => x) s n)] _) _ h)) ?_
    refine l_call rfl rfl rfl rfl rfl rfl Try.call13 (same_spec (drL (fun x => x) s n) (drL (fun x => x) s n) wa xa ((drL (fun x => x) s n).length) ((drL (fun x => x) s n).length) wc xc (Bun [own 1 encW wa wc (drL (fun x => x) s n), own 1 encW xa xc (drL (fun x => x) s n)]) (by first | rfl | assumption | omega | (simp; done) | (simp; omega)) (rds_bun (List.mem_cons_self) (rds_own encW_len (fun h => (f_13b h).1) f_13c)) (by first | rfl | assumption | omega | (simp; done) | (simp; omega)) (rds_bun (List.mem_cons_of_mem _ (List.mem_cons_self)) (rds_own encW_len (fun h => (f_14b h).1) f_14c)) (by omega)) (by (repeat ((with_reducible apply Takes.cons); focus (first | (with_reducible (repeat (first | exact Take.here | apply Take.there)); done) | (repeat (first | exact Take.here | apply Take.there))))); exact Takes.nil) ?_
    rintro ⟨⟩ -
    try simp only [List.cons_append, List.nil_append]
    refine s_take (A := Bun [own 1 encW wa wc (drL (fun x => x) s n), own 1 encW xa xc (drL (fun x => x) s n)]) (by with_reducible (repeat (first | exact Take.here | apply Take.there))) ?_
    refine s_bun ?_
    try simp only [List.cons_append, List.nil_append]
    try simp only [List.cons_append, List.nil_append]
    refine ag_nil ?_
    refine q_move rfl rfl rfl rfl ?_
    refine s_bool_p 102 rfl (fun hg => ?_) (fun hg => by exfalso; first | exact hg rfl | exact hg trivial | simp at hg)
    refine l_call rfl rfl rfl rfl rfl rfl Try.call15 (known_spec) (by (repeat ((with_reducible apply Takes.cons); focus (first | (with_reducible (repeat (first | exact Take.here | apply Take.there)); done) | (repeat (first | exact Take.here | apply Take.there))))); exact Takes.nil) ?_
    rintro ⟨⟩ -
    try simp only [List.cons_append, List.nil_append]
    refine ag_nil ?_
    refine q_pick_t rfl rfl rfl rfl rfl ?_
    refine q_assign rfl rfl rfl rfl ?_
    refine r_done ?_
    refine s_keep [6] (e' := [(6, _)]) rfl ?_
    refine k_then_n ?_
    refine c_ret ?_
    refine ret1 rfl rfl (()) (by first | rfl | (first | rfl | (congr 1; done) | (congr 1 <;> first | rfl | omega | (simp; done) | (simp; omega)))) (by trivial) ?_
    (repeat ((with_reducible apply Takes.cons); focus (first | (with_reducible (repeat (first | exact Take.here | apply Take.there)); done) | (repeat (first | exact Take.here | apply Take.there))))); (repeat (first | exact Takes.nil | exact Takes.self | refine takes_drop2 ?_))
end Go.Ab.Sc
