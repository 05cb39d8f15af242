/- HeapPlays: the law. -/
import Derived.Test.YtodmfajboleamaaHpP4
set_option linter.unusedVariables false
set_option linter.unusedSimpArgs false
set_option maxRecDepth 100000
namespace Go.Ab.HpT
open Go Go.Proofs Go.Ab
theorem okst_next {A : HProp} {G : List Stp} {x : Stp} {k : Nat} (h : ∀ z ∈ G, OkSt A z) (hr : RdS A x.2.2.1 (x.2.2.2.2.flatMap encT)) (hk : k ≤ 600) (hc : x.2.2.2.2.length ≤ x.2.2.2.1) : ∀ z ∈ G ++ [(x.1, x.2.1, x.2.2.1, x.2.2.2.1, x.2.2.2.2.take k)], OkSt A z := fun z hz => by
  rcases List.mem_append.1 hz with hz | hz
  · exact h z hz
  · simp at hz; subst hz
    refine ⟨rds_take hr encT_len k, ?_, ?_⟩
    · show (x.2.2.2.2.take k).length ≤ _; rw [List.length_take]; omega
    · show (x.2.2.2.2.take k).length ≤ x.2.2.2.1; rw [List.length_take]; omega
theorem few_spec (L : List Stp) (lo : Option Addr) (n lc : Nat) (A : HProp) (hr : RdS A lo (L.flatMap encS3)) (hn : L.length = n) (hb : n ≤ 4000000) (hc : ∀ x ∈ L, RdS A x.2.2.1 (x.2.2.2.2.flatMap encT) ∧ x.2.2.2.2.length ≤ x.2.2.2.1) : Spec Try.prog 21 [.slice lo n lc] [A] (fun (r : Option Addr × Nat × List Stp) => .slice r.1 r.2.2.length r.2.1) (fun r => (∀ z ∈ r.2.2, OkSt A z) ∧ r.2.2.length ≤ 300) (fun r => [A, own 3 encS3 r.1 r.2.1 r.2.2]) := by
  refine spec_mk (n := 40) Try.func21 rfl rfl rfl ?_
  intro Γ w0
  simp only [argE, List.cons_append, List.nil_append, Nat.zero_add, Nat.reduceAdd]
  refine c_seq ?_
  refine c_plain (.q 0 (.done)) (by kernel_rfl) ?_
  refine q_assign rfl rfl rfl rfl ?_
  refine r_done ?_
  refine k_then_n ?_
  refine c_seq ?_
  refine c_plain (.q 0 (.done)) (by kernel_rfl) ?_
  refine q_assign rfl rfl rfl rfl ?_
  refine r_done ?_
  refine k_then_n ?_
  refine c_seq ?_
  refine c_plain (.q 0 (.done)) (by kernel_rfl) ?_
  refine q_assign rfl rfl rfl rfl ?_
  refine r_done ?_
  refine k_then_n ?_
  refine c_seq ?_
  refine c_seq ?_
  refine c_plain (.q 0 (.done)) (by kernel_rfl) ?_
  refine q_assign rfl rfl rfl rfl ?_
  refine r_done ?_
  refine k_then_n ?_
  refine c_block ?_
  refine s_heap (fun _ h => own_nil (sz := 3) (enc := encS3) h) ?_
  refine c_loop2 (α := Nat × List Stp × Option Addr × Nat × Nat) (fun (x_ : Nat × List Stp × Option Addr × Nat × Nat) => match x_ with | (i, G, ga, gc, left) => i ≤ n ∧ (∀ z ∈ G, OkSt A z) ∧ (G.length = i) ∧ (left ≤ 600) ∧ (i ≤ 300)) (fun (x_ : Nat × List Stp × Option Addr × Nat × Nat) => match x_ with | (i, G, ga, gc, left) => [(3, .slice ga G.length gc), (4, .int .i64 ((left : Nat) : Int)), (5, .int .i64 ((i : Nat) : Int))]) (fun (x_ : Nat × List Stp × Option Addr × Nat × Nat) => match x_ with | (i, G, ga, gc, left) => [own 3 encS3 ga gc G]) (fun (x_ : Nat × List Stp × Option Addr × Nat × Nat) => match x_ with | (i, G, ga, gc, left) => n - i) [0] (er := [(0, _)]) rfl (0, [], none, 0, 600) ?_ (by exact ⟨rfl, rfl, rfl, trivial⟩) (by (try dsimp only); (try simp only [Nat.add_zero, Nat.zero_add]); (repeat ((with_reducible apply Takes.cons); focus (first | (with_reducible (repeat (first | exact Take.here | apply Take.there)); done) | (repeat (first | exact Take.here | apply Take.there))))); exact Takes.nil) ?_
  · exact ⟨Nat.zero_le _, fun z h => (by cases h), rfl, Nat.le_refl _, by omega⟩
  rintro ⟨i, G, ga, gc, left⟩ ⟨hle_i, hG, hGl, hle, hi3⟩
  try simp only [List.cons_append, List.nil_append]
  refine c_seq ?_
  refine c_seq ?_
  refine c_plain (.q 0 (.q 1 (.q 2 (.q 3 (.q 4 (.q 5 (.q 6 (.q 7 (.done))))))))) (by kernel_rfl) ?_
  refine q_move rfl rfl rfl rfl ?_
  refine q_move rfl rfl rfl rfl ?_
  refine q_len rfl rfl rfl rfl Try.underlying46 ?_
  refine q_int rfl rfl rfl rfl rfl (b_lss _ _ _ _) ?_
  refine q_move rfl rfl rfl rfl ?_
  refine s_bool_p 11 rfl (fun h1 => ?_) (fun h1 => ?_)
  · skip
    refine q_move rfl rfl rfl rfl ?_
    refine q_int rfl rfl rfl rfl rfl (b_lss _ _ _ _) ?_
    refine q_pick_t rfl rfl rfl rfl rfl ?_
    refine r_done ?_
    refine s_keep [0, 3, 4, 5, 12, 13, 14] (e' := [(0, _), (3, _), (4, _), (5, _), (12, _), (13, _), (14, _)]) rfl ?_
    refine k_then_n ?_
    refine c_cond_p rfl (fun h2 => ?_) (fun h2 => ?_)
    · skip
      refine c_skip ?_
      refine k_then_n ?_
      refine c_seq ?_
      refine c_block ?_
      refine c_seq ?_
      obtain ⟨x, hx⟩ := get_lt (l := L) (i := i) (by omega)
      have hxr := (hc _ (List.mem_of_getElem? hx)).1
      have hxc := (hc _ (List.mem_of_getElem? hx)).2
      refine c_plain (.q 0 (.q 1 (.q 2 (.q 3 ((.l 4 [] ((.l 5 [] (.done))))))))) (by kernel_rfl) ?_
      refine q_move rfl rfl rfl rfl ?_
      refine q_move rfl rfl rfl rfl ?_
      refine q_idxR (sz := 2) (k := i) rfl rfl rfl rfl rfl Try.underlying46 Try.sizeOf54 (hr) hx encS3_len (by first | rfl | omega) (by omega) ?_
      intro ib19 io19 _ hd19
      refine q_loadN (vs := [_, _, _]) rfl rfl rfl rfl Try.isAgg54 Try.sizeOf54 (by with_reducible (repeat (first | exact Take.here | apply Take.there))) (hd19) rfl ?_
      refine l_alloc rfl rfl rfl Try.zeroValue54 (zs := [.int .i64 0, .int .i64 0, .slice none 0 0]) rfl ?_
      intro b6
      refine ag_nil ?_
      refine l_store (j := 0) rfl rfl rfl rfl Try.sizeOf54 (us := [_, _, _]) rfl rfl rfl (by with_reducible (repeat (first | exact Take.here | apply Take.there))) (by first | rfl | exact (Nat.add_zero _).symm) (by first | decide | (simp; done) | omega) ?_
      simp only [setL, List.set]
      refine ag_nil ?_
      refine r_done ?_
      refine s_keep [0, 3, 4, 5, 6, 12, 13] (e' := [(0, _), (3, _), (4, _), (5, _), (6, _), (12, _), (13, _)]) rfl ?_
      refine k_then_n ?_
      refine c_seq ?_
      refine c_plain (.q 0 (.q 1 (.q 2 (.q 3 (.q 4 (.q 5 (.q 6 (.q 7 (.q 8 ((.l 9 [] (.done)))))))))))) (by kernel_rfl) ?_
      refine q_field (k := 2) rfl rfl rfl rfl Try.underlying54 rfl Try.sizeOf49 rfl ?_
      refine q_load_c (j := 2) rfl rfl rfl rfl Try.isAgg49 (by with_reducible (repeat (first | exact Take.here | apply Take.there))) (by first | rfl | exact (Nat.add_zero _).symm) (by rfl) ?_
      refine q_move rfl rfl rfl rfl ?_
      refine q_field (k := 2) rfl rfl rfl rfl Try.underlying54 rfl Try.sizeOf49 rfl ?_
      refine q_load_c (j := 2) rfl rfl rfl rfl Try.isAgg49 (by with_reducible (repeat (first | exact Take.here | apply Take.there))) (by first | rfl | exact (Nat.add_zero _).symm) (by rfl) ?_
      refine q_len rfl rfl rfl rfl Try.underlying49 ?_
      refine q_min rfl rfl rfl rfl rfl ?_
      refine q_cut_hi (h' := min left x.2.2.2.2.length) rfl rfl rfl rfl rfl Try.underlying49 Try.sizeOf28 (by first | rfl | omega) (by omega) ?_
      refine q_field (k := 2) rfl rfl rfl rfl Try.underlying54 rfl Try.sizeOf49 rfl ?_
      refine l_store (j := 2) rfl rfl rfl rfl Try.sizeOf49 (us := [_]) rfl rfl rfl (by with_reducible (repeat (first | exact Take.here | apply Take.there))) (by first | rfl | exact (Nat.add_zero _).symm) (by first | decide | (simp; done) | omega) ?_
      simp only [setL, List.set]
      refine ag_nil ?_
      refine r_done ?_
      refine s_keep [0, 3, 4, 5, 6, 12, 13] (e' := [(0, _), (3, _), (4, _), (5, _), (6, _), (12, _), (13, _)]) rfl ?_
      refine k_then_n ?_
      refine c_seq ?_
      refine c_plain (.q 0 (.q 1 (.q 2 (.q 3 (.q 4 (.q 5 (.done))))))) (by kernel_rfl) ?_
      refine q_move rfl rfl rfl rfl ?_
      refine q_field (k := 2) rfl rfl rfl rfl Try.underlying54 rfl Try.sizeOf49 rfl ?_
      refine q_load_c (j := 2) rfl rfl rfl rfl Try.isAgg49 (by with_reducible (repeat (first | exact Take.here | apply Take.there))) (by first | rfl | exact (Nat.add_zero _).symm) (by rfl) ?_
      refine q_len rfl rfl rfl rfl Try.underlying49 ?_
      refine q_int rfl rfl rfl rfl rfl (b_sub' _ (by (first | exact fits_i64 (by omega) (by omega) | exact fits_u64 (by omega) (by omega) | exact fits_u32 (by omega) (by omega) | exact fits_u8 (by omega) (by omega)))) ?_
      refine s_eq 34 rfl (v' := .int .i64 (((left - (min left x.2.2.2.2.length)) : Nat) : Int)) (by congr 1; omega) ?_
      refine q_assign rfl rfl rfl rfl ?_
      refine r_done ?_
      refine s_keep [0, 3, 4, 5, 6, 12, 13] (e' := [(0, _), (3, _), (4, _), (5, _), (6, _), (12, _), (13, _)]) rfl ?_
      refine k_then_n ?_
      refine c_plain (.q 0 (.q 1 ((.l 2 [] ((.l 3 [] (.q 4 (.done)))))))) (by kernel_rfl) ?_
      refine q_move rfl rfl rfl rfl ?_
      refine q_loadN_c rfl rfl rfl rfl Try.isAgg54 Try.sizeOf54 (by with_reducible (repeat (first | exact Take.here | apply Take.there))) 0 (us := [_, _, _]) (by first | rfl | exact (Nat.add_zero _).symm) rfl rfl ?_
      refine l_buildSlice rfl rfl rfl rfl (run_build1 (us := [_, _, _]) Try.underlying46 Try.sizeOf54 rfl Try.zeroValue54 rfl rfl rfl) ?_
      intro b37
      refine ag_nil ?_
      refine l_append (sz := 3) (enc := encS3) (xs := G) rfl rfl rfl rfl rfl Try.underlying46 Try.typeInfo54 rfl rfl rfl (by decide) (by with_reducible (repeat (first | exact Take.here | apply Take.there))) (by with_reducible (repeat (first | exact Take.here | apply Take.there))) (by first | rfl | omega | (simp; done) | (simp; omega)) (ys := [(x.1, x.2.1, x.2.2.1, x.2.2.2.1, x.2.2.2.2.take (min left x.2.2.2.2.length))]) (rds_some rdn_cells) (by simp [encS3]) (by first | rfl | omega) (encS3_len) (encS3_one) (by omega) (by show _ * 40 ≤ _; omega) ?_
      intro ao38 cp38
      refine ag_nil ?_
      refine q_assign rfl rfl rfl rfl ?_
      refine r_done ?_
      refine s_keep [0, 3, 4, 5, 12, 13] (e' := [(0, _), (3, _), (4, _), (5, _), (12, _), (13, _)]) rfl ?_
      refine k_blk_n ?_
      refine k_then_n ?_
      refine c_plain (.q 0 (.q 1 (.q 2 (.done)))) (by kernel_rfl) ?_
      refine q_move rfl rfl rfl rfl ?_
      refine q_int rfl rfl rfl rfl rfl (b_add' _ (by (first | exact fits_i64 (by omega) (by omega) | exact fits_u64 (by omega) (by omega) | exact fits_u32 (by omega) (by omega) | exact fits_u8 (by omega) (by omega)))) ?_
      refine q_assign rfl rfl rfl rfl ?_
      refine r_done ?_
      refine k_then_n ?_
      refine s_eq 3 rfl (v' := .slice ao38 (G ++ [(x.1, x.2.1, x.2.2.1, x.2.2.2.1, x.2.2.2.2.take (min left x.2.2.2.2.length))]).length cp38) (by simp) ?_
      refine loop_next (x := (i, G, ga, gc, left)) ((i + 1, G ++ [(x.1, x.2.1, x.2.2.1, x.2.2.2.1, x.2.2.2.2.take (min left x.2.2.2.2.length))], ao38, cp38, (left - (min left x.2.2.2.2.length)))) ?_ ?_ ?_ ?_
      · try dsimp only
        exact ⟨by omega, okst_next hG hxr (by omega) hxc, by rw [List.length_append, hGl]; rfl, by omega, by omega⟩
      · show n - (i + 1) < n - i; omega
      · exact ⟨rfl, rfl, rfl, rfl, trivial⟩
      · (try simp only [List.cons_append, List.nil_append]); (repeat ((with_reducible apply Takes.cons); focus (first | (with_reducible (repeat (first | exact Take.here | apply Take.there)); done) | (repeat (first | exact Take.here | apply Take.there))))); (repeat (first | exact Takes.nil | exact Takes.self | refine takes_drop2 ?_))
    · skip
      refine c_exit ?_
      refine k_then_exit ?_
      refine k_then_exit ?_
      refine k_blk_here ?_
      refine k_then_n ?_
      refine c_seq ?_
      refine c_plain (.q 0 (.q 1 (.done))) (by kernel_rfl) ?_
      refine q_move rfl rfl rfl rfl ?_
      refine q_assign rfl rfl rfl rfl ?_
      refine r_done ?_
      refine s_keep [2] (e' := [(2, _)]) rfl ?_
      refine k_then_n ?_
      refine c_ret ?_
      refine ret1 rfl rfl ((ga, gc, G)) (by first | rfl | (first | rfl | (congr 1; done) | (congr 1 <;> first | rfl | omega | (simp; done) | (simp; omega)))) (by exact ⟨hG, by show G.length ≤ 300; omega⟩) ?_
      (repeat ((with_reducible apply Takes.cons); focus (first | (with_reducible (repeat (first | exact Take.here | apply Take.there)); done) | (repeat (first | exact Take.here | apply Take.there))))); (repeat (first | exact Takes.nil | exact Takes.self | refine takes_drop2 ?_))
  · skip
    refine q_skip rfl rfl rfl rfl ?_
    refine q_skip rfl rfl rfl rfl ?_
    refine q_pick_f rfl rfl rfl rfl rfl ?_
    refine r_done ?_
    refine s_keep [0, 3, 4, 5, 12, 13, 14] (e' := [(0, _), (3, _), (4, _), (5, _), (12, _), (13, _), (14, _)]) rfl ?_
    refine k_then_n ?_
    refine c_cond_f rfl ?_
    refine c_exit ?_
    refine k_then_exit ?_
    refine k_then_exit ?_
    refine k_blk_here ?_
    refine k_then_n ?_
    refine c_seq ?_
    refine c_plain (.q 0 (.q 1 (.done))) (by kernel_rfl) ?_
    refine q_move rfl rfl rfl rfl ?_
    refine q_assign rfl rfl rfl rfl ?_
    refine r_done ?_
    refine s_keep [2] (e' := [(2, _)]) rfl ?_
    refine k_then_n ?_
    refine c_ret ?_
    refine ret1 rfl rfl ((ga, gc, G)) (by first | rfl | (first | rfl | (congr 1; done) | (congr 1 <;> first | rfl | omega | (simp; done) | (simp; omega)))) (by exact ⟨hG, by show G.length ≤ 300; omega⟩) ?_
    (repeat ((with_reducible apply Takes.cons); focus (first | (with_reducible (repeat (first | exact Take.here | apply Take.there)); done) | (repeat (first | exact Take.here | apply Take.there))))); (repeat (first | exact Takes.nil | exact Takes.self | refine takes_drop2 ?_))

theorem playslaw_spec (L1 : List Stp) (lo1 : Option Addr) (n1 lc1 : Nat) (L2 : List Stp) (lo2 : Option Addr) (n2 lc2 : Nat) (A : HProp) (hr1 : RdS A lo1 (L1.flatMap encS3)) (hn1 : L1.length = n1) (hb1 : n1 ≤ 4000000) (hc1 : ∀ x ∈ L1, RdS A x.2.2.1 (x.2.2.2.2.flatMap encT) ∧ x.2.2.2.2.length ≤ x.2.2.2.1) (hr2 : RdS A lo2 (L2.flatMap encS3)) (hn2 : L2.length = n2) (hb2 : n2 ≤ 4000000) (hc2 : ∀ x ∈ L2, RdS A x.2.2.1 (x.2.2.2.2.flatMap encT) ∧ x.2.2.2.2.length ≤ x.2.2.2.1) : Spec Try.prog 5 [.slice lo1 n1 lc1, .slice lo2 n2 lc2] [A] (fun (_ : Unit) => .bool true) (fun _ => True) (fun _ => [A]) := by
  refine spec_mk (n := 97) Try.func5 rfl rfl rfl ?_
  intro Γ w0
  simp only [argE, List.cons_append, List.nil_append, Nat.zero_add, Nat.reduceAdd]
  refine c_seq ?_
  refine c_plain (.q 0 (.done)) (by kernel_rfl) ?_
  refine q_assign rfl rfl rfl rfl ?_
  refine r_done ?_
  refine k_then_n ?_
  refine c_seq ?_
  refine c_plain (.q 0 ((.l 1 [] (.q 2 ((.l 3 [] (.q 4 (.q 5 (.done))))))))) (by kernel_rfl) ?_
  refine q_move rfl rfl rfl rfl ?_
  have sp_1 := few_spec L1 lo1 n1 lc1 A hr1 hn1 (by omega) hc1
  refine l_call rfl rfl rfl rfl rfl rfl Try.call21 (sp_1) (by (repeat ((with_reducible apply Takes.cons); focus (first | (with_reducible (repeat (first | exact Take.here | apply Take.there)); done) | (repeat (first | exact Take.here | apply Take.there))))); exact Takes.nil) ?_
  rintro ⟨ga1, gc1, G1⟩ ⟨hG1, hGl1⟩
  simp only at hG1 hGl1
  try simp only [List.cons_append, List.nil_append]
  refine ag_nil ?_
  refine q_move rfl rfl rfl rfl ?_
  have sp_2 := few_spec L2 lo2 n2 lc2 A hr2 hn2 (by omega) hc2
  refine l_call rfl rfl rfl rfl rfl rfl Try.call21 (sp_2) (by (repeat ((with_reducible apply Takes.cons); focus (first | (with_reducible (repeat (first | exact Take.here | apply Take.there)); done) | (repeat (first | exact Take.here | apply Take.there))))); exact Takes.nil) ?_
  rintro ⟨ga2, gc2, G2⟩ ⟨hG2, hGl2⟩
  simp only at hG2 hGl2
  try simp only [List.cons_append, List.nil_append]
  refine ag_nil ?_
  refine q_assign rfl rfl rfl rfl ?_
  refine q_assign rfl rfl rfl rfl ?_
  refine r_done ?_
  refine s_keep [0, 1] (e' := [(0, _), (1, _)]) rfl ?_
  refine k_then_n ?_
  refine c_seq ?_
  refine c_plain ((.l 0 [] (.q 1 (.q 2 (.q 3 (.q 4 (.q 5 (.done)))))))) (by kernel_rfl) ?_
  refine l_call rfl rfl rfl rfl rfl rfl Try.call9 (znew_spec) (by (repeat ((with_reducible apply Takes.cons); focus (first | (with_reducible (repeat (first | exact Take.here | apply Take.there)); done) | (repeat (first | exact Take.here | apply Take.there))))); exact Takes.nil) ?_
  rintro e1 -
  try simp only [List.cons_append, List.nil_append]
  refine ag_nil ?_
  refine q_move rfl rfl rfl rfl ?_
  refine q_extract rfl rfl rfl rfl rfl ?_
  refine q_extract rfl rfl rfl rfl rfl ?_
  refine q_assign rfl rfl rfl rfl ?_
  refine q_assign rfl rfl rfl rfl ?_
  refine r_done ?_
  refine s_keep [0, 1, 5, 6] (e' := [(0, _), (1, _), (5, _), (6, _)]) rfl ?_
  refine k_then_n ?_
  refine c_seq ?_
  refine c_plain ((.l 0 [] (.q 1 (.q 2 (.q 3 (.q 4 (.q 5 (.done)))))))) (by kernel_rfl) ?_
  refine l_call rfl rfl rfl rfl rfl rfl Try.call9 (znew_spec) (by (repeat ((with_reducible apply Takes.cons); focus (first | (with_reducible (repeat (first | exact Take.here | apply Take.there)); done) | (repeat (first | exact Take.here | apply Take.there))))); exact Takes.nil) ?_
  rintro e2 -
  try simp only [List.cons_append, List.nil_append]
  refine ag_nil ?_
  refine q_move rfl rfl rfl rfl ?_
  refine q_extract rfl rfl rfl rfl rfl ?_
  refine q_extract rfl rfl rfl rfl rfl ?_
  refine q_assign rfl rfl rfl rfl ?_
  refine q_assign rfl rfl rfl rfl ?_
  refine r_done ?_
  refine s_keep [0, 1, 5, 6, 7, 8] (e' := [(0, _), (1, _), (5, _), (6, _), (7, _), (8, _)]) rfl ?_
  refine k_then_n ?_
  refine c_seq ?_
  refine c_seq ?_
  refine c_plain (.q 0 (.q 1 (.q 2 (.q 3 (.q 4 (.q 5 (.q 6 (.q 7 (.q 8 (.q 9 (.q 10 (.q 11 (.q 12 (.q 13 (.done))))))))))))))) (by kernel_rfl) ?_
  refine q_move rfl rfl rfl rfl ?_
  refine q_eq_nil rfl rfl rfl rfl Try.underlying23 ?_
  refine s_eq 25 rfl (v' := .bool false) rfl ?_
  refine q_move rfl rfl rfl rfl ?_
  refine q_move rfl rfl rfl rfl ?_
  refine q_eq_nil rfl rfl rfl rfl Try.underlying23 ?_
  refine s_eq 28 rfl (v' := .bool false) rfl ?_
  refine q_pick_f rfl rfl rfl rfl rfl ?_
  refine q_move rfl rfl rfl rfl ?_
  refine q_move rfl rfl rfl rfl ?_
  refine q_int rfl rfl rfl rfl rfl (b_neq _ _ _ _) ?_
  refine s_eq 32 rfl (v' := .bool false) (by first | rfl | simp) ?_
  refine q_pick_f rfl rfl rfl rfl rfl ?_
  refine q_move rfl rfl rfl rfl ?_
  refine q_move rfl rfl rfl rfl ?_
  refine q_int rfl rfl rfl rfl rfl (b_neq _ _ _ _) ?_
  refine s_eq 36 rfl (v' := .bool false) (by first | rfl | simp) ?_
  refine q_pick_f rfl rfl rfl rfl rfl ?_
  refine r_done ?_
  refine s_keep [0, 1, 5, 7, 37] (e' := [(0, _), (1, _), (5, _), (7, _), (37, _)]) rfl ?_
  refine k_then_n ?_
  refine c_cond_f rfl ?_
  refine c_skip ?_
  refine k_then_n ?_
  refine c_seq ?_
  refine c_plain (.q 0 ((.l 1 [] (.q 2 (.done))))) (by kernel_rfl) ?_
  refine q_build rfl rfl rfl rfl (vs := [_]) (run_buildS Try.underlying51 Try.zeroValue51 (ps := [(0, 1)]) ⟨rfl, Try.sizeOf49, trivial⟩ rfl) ?_
  refine l_box rfl rfl rfl rfl (us := [_]) rfl ?_
  intro b39
  refine ag_nil ?_
  refine q_assign rfl rfl rfl rfl ?_
  refine r_done ?_
  refine k_then_n ?_
  refine c_seq ?_
  refine c_plain (.q 0 ((.l 1 [] (.q 2 (.done))))) (by kernel_rfl) ?_
  refine q_build rfl rfl rfl rfl (vs := [_]) (run_buildS Try.underlying51 Try.zeroValue51 (ps := [(0, 1)]) ⟨rfl, Try.sizeOf49, trivial⟩ rfl) ?_
  refine l_box rfl rfl rfl rfl (us := [_]) rfl ?_
  intro b41
  refine ag_nil ?_
  refine q_assign rfl rfl rfl rfl ?_
  refine r_done ?_
  refine s_keep [0, 1, 5, 7, 9, 10] (e' := [(0, _), (1, _), (5, _), (7, _), (9, _), (10, _)]) rfl ?_
  refine k_then_n ?_
  refine c_seq ?_
  refine c_seq ?_
  refine s_heap (fun _ h => own_nil (sz := 2) (enc := encT) h) ?_
  refine rh_fold (q := b39) (fs ([] : List (Th × Nat))) (ao := none) (cap := 0) (by (repeat ((with_reducible apply Takes.cons); focus (first | (with_reducible (repeat (first | exact Take.here | apply Take.there)); done) | (repeat (first | exact Take.here | apply Take.there))))); exact Takes.nil) (by rfl) ?_
  refine s_heap (fun _ h => own_nil (sz := 2) (enc := encT) h) ?_
  refine rh_fold (q := b41) (fs ([] : List (Th × Nat))) (ao := none) (cap := 0) (by (repeat ((with_reducible apply Takes.cons); focus (first | (with_reducible (repeat (first | exact Take.here | apply Take.there)); done) | (repeat (first | exact Take.here | apply Take.there))))); exact Takes.nil) (by rfl) ?_
  refine c_plain (.q 0 (.done)) (by kernel_rfl) ?_
  refine q_assign rfl rfl rfl rfl ?_
  refine r_done ?_
  refine k_then_n ?_
  refine c_block ?_
  refine c_loop2 (α := Nat × List (Th × Nat) × Nat × List (Th × Nat) × Nat) (fun (x_ : Nat × List (Th × Nat) × Nat × List (Th × Nat) × Nat) => match x_ with | (i, L1_, m1_, L2_, m2_) => i ≤ (max G1.length G2.length) ∧ (Nb L1_ m1_) ∧ (L1_.length ≤ 600 * i) ∧ (m1_ ≤ 600 * i) ∧ (Nb L2_ m2_) ∧ (L2_.length ≤ 600 * i) ∧ (m2_ ≤ 600 * i)) (fun (x_ : Nat × List (Th × Nat) × Nat × List (Th × Nat) × Nat) => match x_ with | (i, L1_, m1_, L2_, m2_) => [(11, .int .i64 ((i : Nat) : Int))]) (fun (x_ : Nat × List (Th × Nat) × Nat × List (Th × Nat) × Nat) => match x_ with | (i, L1_, m1_, L2_, m2_) => [hpz e1 L1_ m1_ m1_, rh b39 (fs L1_), hpz e2 L2_ m2_ m2_, rh b41 (fs L2_)]) (fun (x_ : Nat × List (Th × Nat) × Nat × List (Th × Nat) × Nat) => match x_ with | (i, L1_, m1_, L2_, m2_) => (max G1.length G2.length) - i) [0, 1, 5, 7, 9, 10] (er := [(0, _), (1, _), (5, _), (7, _), (9, _), (10, _)]) rfl (0, [], 0, [], 0) ?_ (by exact ⟨rfl, trivial⟩) (by (try dsimp only); (try simp only [Nat.add_zero, Nat.zero_add]); (repeat ((with_reducible apply Takes.cons); focus (first | (with_reducible (repeat (first | exact Take.here | apply Take.there)); done) | (repeat (first | exact Take.here | apply Take.there))))); exact Takes.nil) ?_
  · exact ⟨Nat.zero_le _, nb_nil, Nat.zero_le _, Nat.zero_le _, nb_nil, Nat.zero_le _, Nat.zero_le _⟩
  rintro ⟨i, L1_, m1_, L2_, m2_⟩ ⟨hle_i, hN1, hA1, hB1, hN2, hA2, hB2⟩
  try simp only [List.cons_append, List.nil_append]
  refine c_seq ?_
  refine c_seq ?_
  refine c_plain (.q 0 (.q 1 (.q 2 (.q 3 (.q 4 (.q 5 (.q 6 (.q 7 (.q 8 (.q 9 (.done))))))))))) (by kernel_rfl) ?_
  refine q_move rfl rfl rfl rfl ?_
  refine q_move rfl rfl rfl rfl ?_
  refine q_len rfl rfl rfl rfl Try.underlying46 ?_
  refine q_int rfl rfl rfl rfl rfl (b_lss _ _ _ _) ?_
  refine q_move rfl rfl rfl rfl ?_
  refine s_bool_p 46 rfl (fun h1 => ?_) (fun h1 => ?_)
  · skip
    obtain ⟨x1, hx1⟩ := get_lt (l := G1) (i := i) (by omega)
    refine q_skip rfl rfl rfl rfl ?_
    refine q_skip rfl rfl rfl rfl ?_
    refine q_skip rfl rfl rfl rfl ?_
    refine q_skip rfl rfl rfl rfl ?_
    refine q_pick_t rfl rfl rfl rfl rfl ?_
    refine r_done ?_
    refine s_keep [0, 1, 5, 7, 9, 10, 11, 47, 48, 49, 50, 51] (e' := [(0, _), (1, _), (5, _), (7, _), (9, _), (10, _), (11, _), (47, _), (48, _), (49, _), (50, _), (51, _)]) rfl ?_
    refine k_then_n ?_
    refine c_cond_t rfl ?_
    refine c_skip ?_
    refine k_then_n ?_
    refine c_seq ?_
    refine c_block ?_
    refine c_seq ?_
    refine c_plain (.q 0 (.q 1 (.q 2 (.q 3 (.q 4 (.q 5 (.q 6 (.q 7 (.q 8 (.q 9 (.q 10 ((.l 11 [] (.q 12 (.q 13 (.q 14 (.q 15 (.q 16 (.q 17 (.q 18 (.q 19 (.q 20 (.q 21 (.q 22 (.q 23 (.q 24 (.q 25 ((.l 26 [] (.q 27 (.q 28 (.q 29 (.done))))))))))))))))))))))))))))))))) (by kernel_rfl) ?_
    refine q_move rfl rfl rfl rfl ?_
    refine q_move rfl rfl rfl rfl ?_
    refine q_len rfl rfl rfl rfl Try.underlying46 ?_
    refine q_int rfl rfl rfl rfl rfl (b_lss _ _ _ _) ?_
    refine q_move rfl rfl rfl rfl ?_
    refine s_bool_p 58 rfl (fun hg => ?_) (fun hg => by exfalso; omega)
    refine q_move rfl rfl rfl rfl ?_
    refine q_move rfl rfl rfl rfl ?_
    refine q_move rfl rfl rfl rfl ?_
    refine q_move rfl rfl rfl rfl ?_
    refine q_idxO (sz := 2) (k := i) (enc := encS3) (xs := G1) rfl rfl rfl rfl rfl Try.underlying46 Try.sizeOf54 hx1 (by first | rfl | omega) (by omega) (by with_reducible (repeat (first | exact Take.here | apply Take.there))) ?_
    intro ib63 io63 ha63 hl63 hc63
    refine q_loadN_O (j := 0) (k' := i) (us := [_, _, _]) (enc := encS3) (off := io63) rfl rfl rfl rfl Try.isAgg54 Try.sizeOf54 ha63 encS3_len hx1 (by with_reducible (repeat (first | exact Take.here | apply Take.there))) (by first | rfl | exact (Nat.add_zero _).symm | omega) (by rfl) rfl ?_
    have hxs1 := hG1 _ (List.mem_of_getElem? hx1)
    obtain ⟨hs11, hs21, hs31⟩ := hxs1
    have sp_3 := plays1_spec e1 b39 L1_ m1_ (by omega) (by omega) hN1 x1.1 x1.2.1 x1.2.2.2.2 x1.2.2.1 x1.2.2.2.2.length x1.2.2.2.1 A hs11 rfl (by omega) hs31
    refine l_call rfl rfl rfl rfl rfl rfl Try.call22 (sp_3) (by (repeat ((with_reducible apply Takes.cons); focus (first | (with_reducible (repeat (first | exact Take.here | apply Take.there)); done) | (repeat (first | exact Take.here | apply Take.there))))); exact Takes.nil) ?_
    rintro ⟨P1, p1⟩ ⟨u1a, u1b, u1c⟩
    simp only at u1a u1b u1c
    try simp only [List.cons_append, List.nil_append]
    refine ag_nil ?_
    refine q_not rfl rfl rfl rfl ?_
    refine s_eq 66 rfl (v' := .bool false) rfl ?_
    refine q_pick_t rfl rfl rfl rfl rfl ?_
    refine q_move rfl rfl rfl rfl ?_
    refine q_move rfl rfl rfl rfl ?_
    refine q_move rfl rfl rfl rfl ?_
    refine q_len rfl rfl rfl rfl Try.underlying46 ?_
    refine q_int rfl rfl rfl rfl rfl (b_lss _ _ _ _) ?_
    refine q_move rfl rfl rfl rfl ?_
    refine s_bool_p 73 rfl (fun h2 => ?_) (fun h2 => ?_)
    · skip
      obtain ⟨x2, hx2⟩ := get_lt (l := G2) (i := i) (by omega)
      refine q_move rfl rfl rfl rfl ?_
      refine q_move rfl rfl rfl rfl ?_
      refine q_move rfl rfl rfl rfl ?_
      refine q_move rfl rfl rfl rfl ?_
      refine q_idxO (sz := 2) (k := i) (enc := encS3) (xs := G2) rfl rfl rfl rfl rfl Try.underlying46 Try.sizeOf54 hx2 (by first | rfl | omega) (by omega) (by with_reducible (repeat (first | exact Take.here | apply Take.there))) ?_
      intro ib78 io78 ha78 hl78 hc78
      refine q_loadN_O (j := 0) (k' := i) (us := [_, _, _]) (enc := encS3) (off := io78) rfl rfl rfl rfl Try.isAgg54 Try.sizeOf54 ha78 encS3_len hx2 (by with_reducible (repeat (first | exact Take.here | apply Take.there))) (by first | rfl | exact (Nat.add_zero _).symm | omega) (by rfl) rfl ?_
      have hxs2 := hG2 _ (List.mem_of_getElem? hx2)
      obtain ⟨hs12, hs22, hs32⟩ := hxs2
      have sp_4 := plays1_spec e2 b41 L2_ m2_ (by omega) (by omega) hN2 x2.1 x2.2.1 x2.2.2.2.2 x2.2.2.1 x2.2.2.2.2.length x2.2.2.2.1 A hs12 rfl (by omega) hs32
      refine l_call rfl rfl rfl rfl rfl rfl Try.call22 (sp_4) (by (repeat ((with_reducible apply Takes.cons); focus (first | (with_reducible (repeat (first | exact Take.here | apply Take.there)); done) | (repeat (first | exact Take.here | apply Take.there))))); exact Takes.nil) ?_
      rintro ⟨P2, p2⟩ ⟨u2a, u2b, u2c⟩
      simp only at u2a u2b u2c
      try simp only [List.cons_append, List.nil_append]
      refine ag_nil ?_
      refine q_not rfl rfl rfl rfl ?_
      refine s_eq 81 rfl (v' := .bool false) rfl ?_
      refine q_pick_t rfl rfl rfl rfl rfl ?_
      refine q_pick_f rfl rfl rfl rfl rfl ?_
      refine r_done ?_
      refine s_keep [0, 1, 5, 7, 9, 10, 11, 47, 48, 49, 50, 59, 60, 61, 62, 63, 64, 65, 66, 69, 70, 71, 72, 73, 74, 75, 76, 77, 78, 79, 80, 81, 82, 83] (e' := [(0, _), (1, _), (5, _), (7, _), (9, _), (10, _), (11, _), (47, _), (48, _), (49, _), (50, _), (59, _), (60, _), (61, _), (62, _), (63, _), (64, _), (65, _), (66, _), (69, _), (70, _), (71, _), (72, _), (73, _), (74, _), (75, _), (76, _), (77, _), (78, _), (79, _), (80, _), (81, _), (82, _), (83, _)]) rfl ?_
      refine k_then_n ?_
      refine c_cond_f rfl ?_
      refine c_skip ?_
      refine k_blk_n ?_
      refine k_then_n ?_
      refine c_plain (.q 0 (.q 1 (.q 2 (.done)))) (by kernel_rfl) ?_
      refine q_move rfl rfl rfl rfl ?_
      refine q_int rfl rfl rfl rfl rfl (b_add' _ (by (first | exact fits_i64 (by omega) (by omega) | exact fits_u64 (by omega) (by omega) | exact fits_u32 (by omega) (by omega) | exact fits_u8 (by omega) (by omega)))) ?_
      refine q_assign rfl rfl rfl rfl ?_
      refine r_done ?_
      refine k_then_n ?_
      refine loop_next (x := (i, L1_, m1_, L2_, m2_)) ((i + 1, P1, p1, P2, p2)) ?_ ?_ ?_ ?_
      · try dsimp only
        exact ⟨by omega, u1a, by omega, by omega, u2a, by omega, by omega⟩
      · show (max G1.length G2.length) - (i + 1) < (max G1.length G2.length) - i; omega
      · exact ⟨rfl, rfl, rfl, rfl, rfl, rfl, rfl, trivial⟩
      · (try simp only [List.cons_append, List.nil_append]); (repeat ((with_reducible apply Takes.cons); focus (first | (with_reducible (repeat (first | exact Take.here | apply Take.there)); done) | (repeat (first | exact Take.here | apply Take.there))))); (repeat (first | exact Takes.nil | exact Takes.self | refine takes_drop2 ?_))
    · skip
      refine q_skip rfl rfl rfl rfl ?_
      refine q_skip rfl rfl rfl rfl ?_
      refine q_skip rfl rfl rfl rfl ?_
      refine q_skip rfl rfl rfl rfl ?_
      refine q_skip rfl rfl rfl rfl ?_
      refine q_skip rfl rfl rfl rfl ?_
      refine l_skip rfl rfl rfl rfl ?_
      refine q_skip rfl rfl rfl rfl ?_
      refine q_pick_f rfl rfl rfl rfl rfl ?_
      refine q_pick_f rfl rfl rfl rfl rfl ?_
      refine r_done ?_
      refine s_keep [0, 1, 5, 7, 9, 10, 11, 47, 48, 49, 50, 59, 60, 61, 62, 63, 64, 65, 66, 69, 70, 71, 72, 73, 74, 75, 76, 77, 78, 79, 80, 81, 82, 83] (e' := [(0, _), (1, _), (5, _), (7, _), (9, _), (10, _), (11, _), (47, _), (48, _), (49, _), (50, _), (59, _), (60, _), (61, _), (62, _), (63, _), (64, _), (65, _), (66, _), (69, _), (70, _), (71, _), (72, _), (73, _), (74, _), (75, _), (76, _), (77, _), (78, _), (79, _), (80, _), (81, _), (82, _), (83, _)]) rfl ?_
      refine k_then_n ?_
      refine c_cond_f rfl ?_
      refine c_skip ?_
      refine k_blk_n ?_
      refine k_then_n ?_
      refine c_plain (.q 0 (.q 1 (.q 2 (.done)))) (by kernel_rfl) ?_
      refine q_move rfl rfl rfl rfl ?_
      refine q_int rfl rfl rfl rfl rfl (b_add' _ (by (first | exact fits_i64 (by omega) (by omega) | exact fits_u64 (by omega) (by omega) | exact fits_u32 (by omega) (by omega) | exact fits_u8 (by omega) (by omega)))) ?_
      refine q_assign rfl rfl rfl rfl ?_
      refine r_done ?_
      refine k_then_n ?_
      refine loop_next (x := (i, L1_, m1_, L2_, m2_)) ((i + 1, P1, p1, L2_, m2_)) ?_ ?_ ?_ ?_
      · try dsimp only
        exact ⟨by omega, u1a, by omega, by omega, hN2, by omega, by omega⟩
      · show (max G1.length G2.length) - (i + 1) < (max G1.length G2.length) - i; omega
      · exact ⟨rfl, rfl, rfl, rfl, rfl, rfl, rfl, trivial⟩
      · (try simp only [List.cons_append, List.nil_append]); (repeat ((with_reducible apply Takes.cons); focus (first | (with_reducible (repeat (first | exact Take.here | apply Take.there)); done) | (repeat (first | exact Take.here | apply Take.there))))); (repeat (first | exact Takes.nil | exact Takes.self | refine takes_drop2 ?_))
  · skip
    refine q_move rfl rfl rfl rfl ?_
    refine q_move rfl rfl rfl rfl ?_
    refine q_len rfl rfl rfl rfl Try.underlying46 ?_
    refine q_int rfl rfl rfl rfl rfl (b_lss _ _ _ _) ?_
    refine q_pick_f rfl rfl rfl rfl rfl ?_
    refine r_done ?_
    refine s_keep [0, 1, 5, 7, 9, 10, 11, 47, 48, 49, 50, 51] (e' := [(0, _), (1, _), (5, _), (7, _), (9, _), (10, _), (11, _), (47, _), (48, _), (49, _), (50, _), (51, _)]) rfl ?_
    refine k_then_n ?_
    refine c_cond_p rfl (fun h3 => ?_) (fun h3 => ?_)
    · skip
      refine c_skip ?_
      refine k_then_n ?_
      refine c_seq ?_
      refine c_block ?_
      refine c_seq ?_
      refine c_plain (.q 0 (.q 1 (.q 2 (.q 3 (.q 4 (.q 5 (.q 6 (.q 7 (.q 8 (.q 9 (.q 10 ((.l 11 [] (.q 12 (.q 13 (.q 14 (.q 15 (.q 16 (.q 17 (.q 18 (.q 19 (.q 20 (.q 21 (.q 22 (.q 23 (.q 24 (.q 25 ((.l 26 [] (.q 27 (.q 28 (.q 29 (.done))))))))))))))))))))))))))))))))) (by kernel_rfl) ?_
      refine q_move rfl rfl rfl rfl ?_
      refine q_move rfl rfl rfl rfl ?_
      refine q_len rfl rfl rfl rfl Try.underlying46 ?_
      refine q_int rfl rfl rfl rfl rfl (b_lss _ _ _ _) ?_
      refine q_move rfl rfl rfl rfl ?_
      refine s_bool_p 58 rfl (fun hg => by exfalso; omega) (fun hg => ?_)
      refine q_skip rfl rfl rfl rfl ?_
      refine q_skip rfl rfl rfl rfl ?_
      refine q_skip rfl rfl rfl rfl ?_
      refine q_skip rfl rfl rfl rfl ?_
      refine q_skip rfl rfl rfl rfl ?_
      refine q_skip rfl rfl rfl rfl ?_
      refine l_skip rfl rfl rfl rfl ?_
      refine q_skip rfl rfl rfl rfl ?_
      refine q_pick_f rfl rfl rfl rfl rfl ?_
      refine q_move rfl rfl rfl rfl ?_
      refine q_move rfl rfl rfl rfl ?_
      refine q_move rfl rfl rfl rfl ?_
      refine q_len rfl rfl rfl rfl Try.underlying46 ?_
      refine q_int rfl rfl rfl rfl rfl (b_lss _ _ _ _) ?_
      refine q_move rfl rfl rfl rfl ?_
      refine s_bool_p 73 rfl (fun hg => ?_) (fun hg => by exfalso; omega)
      obtain ⟨x2, hx2⟩ := get_lt (l := G2) (i := i) (by omega)
      refine q_move rfl rfl rfl rfl ?_
      refine q_move rfl rfl rfl rfl ?_
      refine q_move rfl rfl rfl rfl ?_
      refine q_move rfl rfl rfl rfl ?_
      refine q_idxO (sz := 2) (k := i) (enc := encS3) (xs := G2) rfl rfl rfl rfl rfl Try.underlying46 Try.sizeOf54 hx2 (by first | rfl | omega) (by omega) (by with_reducible (repeat (first | exact Take.here | apply Take.there))) ?_
      intro ib78 io78 ha78 hl78 hc78
      refine q_loadN_O (j := 0) (k' := i) (us := [_, _, _]) (enc := encS3) (off := io78) rfl rfl rfl rfl Try.isAgg54 Try.sizeOf54 ha78 encS3_len hx2 (by with_reducible (repeat (first | exact Take.here | apply Take.there))) (by first | rfl | exact (Nat.add_zero _).symm | omega) (by rfl) rfl ?_
      have hxs2 := hG2 _ (List.mem_of_getElem? hx2)
      obtain ⟨hs12, hs22, hs32⟩ := hxs2
      have sp_5 := plays1_spec e2 b41 L2_ m2_ (by omega) (by omega) hN2 x2.1 x2.2.1 x2.2.2.2.2 x2.2.2.1 x2.2.2.2.2.length x2.2.2.2.1 A hs12 rfl (by omega) hs32
      refine l_call rfl rfl rfl rfl rfl rfl Try.call22 (sp_5) (by (repeat ((with_reducible apply Takes.cons); focus (first | (with_reducible (repeat (first | exact Take.here | apply Take.there)); done) | (repeat (first | exact Take.here | apply Take.there))))); exact Takes.nil) ?_
      rintro ⟨P2, p2⟩ ⟨u2a, u2b, u2c⟩
      simp only at u2a u2b u2c
      try simp only [List.cons_append, List.nil_append]
      refine ag_nil ?_
      refine q_not rfl rfl rfl rfl ?_
      refine s_eq 81 rfl (v' := .bool false) rfl ?_
      refine q_pick_t rfl rfl rfl rfl rfl ?_
      refine q_pick_f rfl rfl rfl rfl rfl ?_
      refine r_done ?_
      refine s_keep [0, 1, 5, 7, 9, 10, 11, 47, 48, 49, 50, 59, 60, 61, 62, 63, 64, 65, 66, 69, 70, 71, 72, 73, 74, 75, 76, 77, 78, 79, 80, 81, 82, 83] (e' := [(0, _), (1, _), (5, _), (7, _), (9, _), (10, _), (11, _), (47, _), (48, _), (49, _), (50, _), (59, _), (60, _), (61, _), (62, _), (63, _), (64, _), (65, _), (66, _), (69, _), (70, _), (71, _), (72, _), (73, _), (74, _), (75, _), (76, _), (77, _), (78, _), (79, _), (80, _), (81, _), (82, _), (83, _)]) rfl ?_
      refine k_then_n ?_
      refine c_cond_f rfl ?_
      refine c_skip ?_
      refine k_blk_n ?_
      refine k_then_n ?_
      refine c_plain (.q 0 (.q 1 (.q 2 (.done)))) (by kernel_rfl) ?_
      refine q_move rfl rfl rfl rfl ?_
      refine q_int rfl rfl rfl rfl rfl (b_add' _ (by (first | exact fits_i64 (by omega) (by omega) | exact fits_u64 (by omega) (by omega) | exact fits_u32 (by omega) (by omega) | exact fits_u8 (by omega) (by omega)))) ?_
      refine q_assign rfl rfl rfl rfl ?_
      refine r_done ?_
      refine k_then_n ?_
      refine loop_next (x := (i, L1_, m1_, L2_, m2_)) ((i + 1, L1_, m1_, P2, p2)) ?_ ?_ ?_ ?_
      · try dsimp only
        exact ⟨by omega, hN1, by omega, by omega, u2a, by omega, by omega⟩
      · show (max G1.length G2.length) - (i + 1) < (max G1.length G2.length) - i; omega
      · exact ⟨rfl, rfl, rfl, rfl, rfl, rfl, rfl, trivial⟩
      · (try simp only [List.cons_append, List.nil_append]); (repeat ((with_reducible apply Takes.cons); focus (first | (with_reducible (repeat (first | exact Take.here | apply Take.there)); done) | (repeat (first | exact Take.here | apply Take.there))))); (repeat (first | exact Takes.nil | exact Takes.self | refine takes_drop2 ?_))
    · skip
      refine c_exit ?_
      refine k_then_exit ?_
      refine k_then_exit ?_
      refine k_blk_here ?_
      refine k_then_n ?_
      refine c_seq ?_
      refine c_plain (.q 0 (.q 1 (.q 2 ((.l 3 [] (.q 4 (.q 5 (.q 6 (.q 7 ((.l 8 [] (.q 9 (.q 10 ((.l 11 [] (.q 12 (.q 13 (.done)))))))))))))))))) (by kernel_rfl) ?_
      refine q_move rfl rfl rfl rfl ?_
      refine q_move rfl rfl rfl rfl ?_
      refine q_build rfl rfl rfl rfl (vs := [_, _, _]) (run_buildS Try.underlying54 Try.zeroValue54 (ps := [(0, 1), (1, 1), (2, 1)]) ⟨rfl, Try.sizeOf3, rfl, Try.sizeOf3, rfl, Try.sizeOf49, trivial⟩ rfl) ?_
      have sp_6 := drains_spec e1 b39 L1_ m1_ (by omega) (by omega) hN1 0 0 [] none 0 0 A (.inl rfl) rfl (by decide) (by decide)
      refine l_call rfl rfl rfl rfl rfl rfl Try.call23 (sp_6) (by (repeat ((with_reducible apply Takes.cons); focus (first | (with_reducible (repeat (first | exact Take.here | apply Take.there)); done) | (repeat (first | exact Take.here | apply Take.there))))); exact Takes.nil) ?_
      rintro ⟨Q1, q1⟩ -
      try simp only [List.cons_append, List.nil_append]
      refine ag_nil ?_
      refine q_move rfl rfl rfl rfl ?_
      refine q_move rfl rfl rfl rfl ?_
      refine q_move rfl rfl rfl rfl ?_
      refine q_build rfl rfl rfl rfl (vs := [_, _, _]) (run_buildS Try.underlying54 Try.zeroValue54 (ps := [(0, 1), (1, 1), (2, 1)]) ⟨rfl, Try.sizeOf3, rfl, Try.sizeOf3, rfl, Try.sizeOf49, trivial⟩ rfl) ?_
      have sp_7 := drains_spec e2 b41 L2_ m2_ (by omega) (by omega) hN2 0 0 [] none 0 0 A (.inl rfl) rfl (by decide) (by decide)
      refine l_call rfl rfl rfl rfl rfl rfl Try.call23 (sp_7) (by (repeat ((with_reducible apply Takes.cons); focus (first | (with_reducible (repeat (first | exact Take.here | apply Take.there)); done) | (repeat (first | exact Take.here | apply Take.there))))); exact Takes.nil) ?_
      rintro ⟨Q2, q2⟩ -
      try simp only [List.cons_append, List.nil_append]
      refine ag_nil ?_
      refine q_pick_t rfl rfl rfl rfl rfl ?_
      refine q_move rfl rfl rfl rfl ?_
      refine l_call rfl rfl rfl rfl rfl rfl Try.call14 (known_spec) (by (repeat ((with_reducible apply Takes.cons); focus (first | (with_reducible (repeat (first | exact Take.here | apply Take.there)); done) | (repeat (first | exact Take.here | apply Take.there))))); exact Takes.nil) ?_
      rintro ⟨⟩ -
      try simp only [List.cons_append, List.nil_append]
      refine ag_nil ?_
      refine q_pick_t rfl rfl rfl rfl rfl ?_
      refine q_assign rfl rfl rfl rfl ?_
      refine r_done ?_
      refine s_keep [4] (e' := [(4, _)]) rfl ?_
      refine k_then_n ?_
      refine c_ret ?_
      refine ret1 rfl rfl (()) (by first | rfl | (first | rfl | (congr 1; done) | (congr 1 <;> first | rfl | omega | (simp; done) | (simp; omega)))) (by trivial) ?_
      (repeat ((with_reducible apply Takes.cons); focus (first | (with_reducible (repeat (first | exact Take.here | apply Take.there)); done) | (repeat (first | exact Take.here | apply Take.there))))); (repeat (first | exact Takes.nil | exact Takes.self | refine takes_drop2 ?_))
end Go.Ab.HpT
