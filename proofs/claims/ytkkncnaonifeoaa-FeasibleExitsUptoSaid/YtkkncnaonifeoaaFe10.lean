/- Package feasible: the law Exits. -/
import Derived.Test.YtkkncnaonifeoaaFe9
set_option linter.unusedVariables false
set_option linter.unusedSimpArgs false
set_option maxRecDepth 100000
namespace Go.Ab.Fe
open Go Go.Proofs Go.Ab
theorem can_exit {x : CS} {t : Int} : canF x 11 t 0 ↔ (stF x t).1 = 1 := by
  constructor
  · rintro (⟨-, h, -⟩ | ⟨h, -⟩)
    · omega
    · exact h
  · intro h
    rw [can_run h (Int.le_refl _)]
    simp [okK]
theorem stuck_can {x : CS} (hx : CInv x) (h : ∀ u : Int, 0 ≤ u → u < x.th → (stF x u).1 ≠ 1 ∧ ¬ fullF x u) (k t o : Int) : ¬ canF x k t o := fun hc => by
  have h1 := stF_nz (can_th hc)
  have h2 := hx.tl
  have h3 := h t h1.1 (by omega)
  rcases hc with ⟨-, -, -, h4⟩ | ⟨h4, -⟩
  · exact h3.2 h4
  · exact h3.1 h4
theorem exits_ok (th va vo lk : Int) (pl : List Int) (ao : Option Addr) (n c : Nat) (A : HProp) (hr : RdS A ao (pl.flatMap encZ)) (hn : pl.length = n) (hb : n ≤ 4000000) (es : List T3) (eo : Option Addr) (m ec : Nat) (he : RdS A eo (es.flatMap enc3)) (hm : es.length = m) (hmb : m ≤ 4000000) (ps : List T3) (po : Option Addr) (m2 pc2 : Nat) (hps : RdS A po (ps.flatMap enc3)) (hm2 : ps.length = m2) (hm2b : m2 ≤ 4000000) (hok : OkS th va vo lk pl) : Spec Try.prog 6 [.agg #[.int .i64 th, .int .i64 va, .int .i64 vo, .int .i64 lk, .slice ao n c], .slice eo m ec, .slice po m2 pc2] [A] (fun (_ : Unit) => .bool true) (fun _ => True) (fun _ => [A]) := by
  refine spec_mk (n := 99) Try.func6 rfl rfl rfl ?_
  intro Γ w0
  simp only [argE, List.cons_append, List.nil_append, Nat.zero_add, Nat.reduceAdd]
  have h1_ := hok.th
  have h2_ := hok.lk
  have h3_ := hok.pl
  refine c_seq ?_
  refine c_plain ((.l 0 [] (.q 1 (.done)))) (by kernel_rfl) ?_
  refine l_box rfl rfl rfl rfl (us := [_, _, _, _, _]) rfl ?_
  intro b3
  refine ag_nil ?_
  refine q_assign rfl rfl rfl rfl ?_
  refine r_done ?_
  refine k_then_n ?_
  refine c_seq ?_
  refine c_plain (.q 0 ((.l 1 [] (.q 2 (.q 3 (.q 4 (.q 5 (.q 6 (.done))))))))) (by kernel_rfl) ?_
  refine q_loadN_c rfl rfl rfl rfl Try.isAgg25 Try.sizeOf25 (by with_reducible (repeat (first | exact Take.here | apply Take.there))) 0 (us := [_, _, _, _, _]) (by first | rfl | exact (Nat.add_zero _).symm) rfl rfl ?_
  have sp_1 := new_spec th va vo lk pl ao n c A (hr) (by first | rfl | assumption | omega | (simp; done) | (simp; omega)) (by omega) hok
  refine l_call rfl rfl rfl rfl rfl rfl Try.call17 (sp_1) (by (repeat ((with_reducible apply Takes.cons); focus (first | (with_reducible (repeat (first | exact Take.here | apply Take.there)); done) | (repeat (first | exact Take.here | apply Take.there))))); exact Takes.nil) ?_
  rintro ⟨b7, b7p, b7c⟩ -
  try simp only [List.cons_append, List.nil_append]
  refine ag_nil ?_
  refine q_move rfl rfl rfl rfl ?_
  refine q_extract rfl rfl rfl rfl rfl ?_
  refine q_extract rfl rfl rfl rfl rfl ?_
  refine q_assign rfl rfl rfl rfl ?_
  refine q_assign rfl rfl rfl rfl ?_
  refine r_done ?_
  refine s_keep [1, 2, 3, 7, 8] (e' := [(1, _), (2, _), (3, _), (7, _), (8, _)]) rfl ?_
  refine k_then_n ?_
  refine c_seq ?_
  refine c_seq ?_
  refine c_plain (.q 0 (.q 1 (.q 2 (.q 3 (.q 4 (.q 5 (.done))))))) (by kernel_rfl) ?_
  refine q_move rfl rfl rfl rfl ?_
  refine q_int rfl rfl rfl rfl rfl (b_neq _ _ _ _) ?_
  refine s_eq 21 rfl (v' := .bool false) (by first | rfl | simp) ?_
  refine q_move rfl rfl rfl rfl ?_
  refine q_move rfl rfl rfl rfl ?_
  refine q_eq_nil rfl rfl rfl rfl Try.underlying42 ?_
  refine s_eq 24 rfl (v' := .bool false) rfl ?_
  refine q_pick_f rfl rfl rfl rfl rfl ?_
  refine r_done ?_
  refine s_keep [1, 2, 3, 7, 8, 25] (e' := [(1, _), (2, _), (3, _), (7, _), (8, _), (25, _)]) rfl ?_
  refine k_then_n ?_
  refine c_cond_f rfl ?_
  refine c_skip ?_
  refine k_then_n ?_
  refine c_seq ?_
  refine c_seq ?_
  refine c_plain (.q 0 (.done)) (by kernel_rfl) ?_
  refine q_assign rfl rfl rfl rfl ?_
  refine r_done ?_
  refine k_then_n ?_
  refine c_block ?_
  refine c_loop2 (α := Nat) (fun (i : Nat) => i ≤ m) (fun (i : Nat) => [(9, .int .i64 ((i : Nat) : Int))]) (fun (i : Nat) => [ck b7p b7c b7 (sN (newF th va vo lk pl) es i), own 1 encZ b7p b7c pl]) (fun (i : Nat) => m - i) [1, 2, 3, 7] (er := [(1, _), (2, _), (3, _), (7, _)]) rfl (0) ?_ (by exact ⟨rfl, trivial⟩) (by (try dsimp only); rw [sN_zero]; (repeat ((with_reducible apply Takes.cons); focus (first | (with_reducible (repeat (first | exact Take.here | apply Take.there)); done) | (repeat (first | exact Take.here | apply Take.there))))); exact Takes.nil) ?_
  · exact Nat.zero_le _
  rintro i hle_i
  try simp only [List.cons_append, List.nil_append]
  have hsn := (sN_n (newF th va vo lk pl) es i).2
  have hz0 : (newF th va vo lk pl).n = 0 := rfl
  refine c_seq ?_
  refine c_seq ?_
  refine c_plain (.q 0 (.q 1 (.q 2 (.q 3 (.done))))) (by kernel_rfl) ?_
  refine q_move rfl rfl rfl rfl ?_
  refine q_move rfl rfl rfl rfl ?_
  refine q_len rfl rfl rfl rfl Try.underlying26 ?_
  refine q_int rfl rfl rfl rfl rfl (b_lss _ _ _ _) ?_
  refine r_done ?_
  refine k_then_n ?_
  refine c_cond_p rfl (fun hlt => ?_) (fun hlt => ?_)
  · skip
    refine c_skip ?_
    refine k_then_n ?_
    refine c_seq ?_
    refine c_block ?_
    refine c_plain (.q 0 (.q 1 (.q 2 (.q 3 (.q 4 ((.l 5 [] (.done)))))))) (by kernel_rfl) ?_
    refine q_move rfl rfl rfl rfl ?_
    refine q_move rfl rfl rfl rfl ?_
    refine q_move rfl rfl rfl rfl ?_
    obtain ⟨ev, hev⟩ := get_lt (l := es) (i := i) (by first | omega | (simp; done) | (simp; omega))
    refine q_idxR (sz := 2) (k := i) rfl rfl rfl rfl rfl Try.underlying26 Try.sizeOf32 (he) hev enc3_len (by first | rfl | omega) (by omega) ?_
    intro ib44 io44 _ hd44
    refine q_loadN (vs := [_, _, _]) rfl rfl rfl rfl Try.isAgg32 Try.sizeOf32 (by with_reducible (repeat (first | exact Take.here | apply Take.there))) (hd44) rfl ?_
    have sp_2 := next_spec b7p b7c b7 (sN (newF th va vo lk pl) es i) (sN_inv (new_inv hok) es i) (by omega) pl (((sN_sh _ _ _).1)) ev.1 ev.2.1 ev.2.2
    refine l_call rfl rfl rfl rfl rfl rfl Try.call19 (sp_2) (by (repeat ((with_reducible apply Takes.cons); focus (first | (with_reducible (repeat (first | exact Take.here | apply Take.there)); done) | (repeat (first | exact Take.here | apply Take.there))))); exact Takes.nil) ?_
    rintro ⟨⟩ -
    try simp only [List.cons_append, List.nil_append]
    refine ag_nil ?_
    refine r_done ?_
    refine s_keep [1, 2, 3, 7, 9] (e' := [(1, _), (2, _), (3, _), (7, _), (9, _)]) rfl ?_
    refine k_blk_n ?_
    refine k_then_n ?_
    refine c_plain (.q 0 (.q 1 (.q 2 (.done)))) (by kernel_rfl) ?_
    refine q_move rfl rfl rfl rfl ?_
    refine q_int rfl rfl rfl rfl rfl (b_add' _ (by (first | exact fits_i64 (by omega) (by omega) | exact fits_u64 (by omega) (by omega) | exact fits_u32 (by omega) (by omega) | exact fits_u8 (by omega) (by omega)))) ?_
    refine q_assign rfl rfl rfl rfl ?_
    refine r_done ?_
    refine k_then_n ?_
    rw [← sN_next hev]
    refine loop_next (x := i) (i + 1) ?_ ?_ ?_ ?_
    · exact by show i + 1 ≤ m; omega
    · show m - (i + 1) < m - i; omega
    · exact ⟨rfl, rfl, rfl, rfl, rfl, trivial⟩
    · (try simp only [List.cons_append, List.nil_append]); (repeat ((with_reducible apply Takes.cons); focus (first | (with_reducible (repeat (first | exact Take.here | apply Take.there)); done) | (repeat (first | exact Take.here | apply Take.there))))); (repeat (first | exact Takes.nil | exact Takes.self | refine takes_drop2 ?_))
  · skip
    refine c_exit ?_
    refine k_then_exit ?_
    refine k_then_exit ?_
    refine k_blk_here ?_
    refine k_then_n ?_
    refine c_seq ?_
    obtain rfl : i = m := by omega
    obtain ⟨Y, hY⟩ : ∃ Y, Y = (sN (newF th va vo lk pl) es i) := ⟨_, rfl⟩
    rw [← hY]
    have hYi : CInv Y := by rw [hY]; exact sN_inv (new_inv hok) _ _
    have hYt : Y.th = th := by rw [hY]; exact (sN_sh _ _ _).2.1
    refine c_plain (.q 0 (.done)) (by kernel_rfl) ?_
    refine q_assign rfl rfl rfl rfl ?_
    refine r_done ?_
    refine s_keep [2, 3, 7, 10] (e' := [(2, _), (3, _), (7, _), (10, _)]) rfl ?_
    refine k_then_n ?_
    refine c_seq ?_
    refine c_seq ?_
    refine c_plain (.q 0 (.done)) (by kernel_rfl) ?_
    refine q_assign rfl rfl rfl rfl ?_
    refine r_done ?_
    refine k_then_n ?_
    refine c_block ?_
    refine c_loop2 (α := Nat × Bool) (fun (x_ : Nat × Bool) => match x_ with | (j, sk) => j ≤ th.toNat ∧ (sk = true → ∀ u : Int, 0 ≤ u → u < j → (stF Y u).1 ≠ 1 ∧ ¬ fullF Y u)) (fun (x_ : Nat × Bool) => match x_ with | (j, sk) => [(10, .bool sk), (11, .int .i64 ((j : Nat) : Int))]) (fun (x_ : Nat × Bool) => match x_ with | (j, sk) => [ck b7p b7c b7 Y, own 1 encZ b7p b7c pl]) (fun (x_ : Nat × Bool) => match x_ with | (j, sk) => th.toNat - j) [2, 3, 7] (er := [(2, _), (3, _), (7, _)]) rfl (0, true) ?_ (by exact ⟨rfl, rfl, trivial⟩) (by (try dsimp only); (try simp only [Nat.add_zero, Nat.zero_add]); (repeat ((with_reducible apply Takes.cons); focus (first | (with_reducible (repeat (first | exact Take.here | apply Take.there)); done) | (repeat (first | exact Take.here | apply Take.there))))); exact Takes.nil) ?_
    · exact ⟨Nat.zero_le _, fun _ u h1 h2 => by omega⟩
    rintro ⟨j, sk⟩ ⟨hle_j, hsk⟩
    try simp only [List.cons_append, List.nil_append]
    refine c_seq ?_
    refine c_seq ?_
    refine c_plain (.q 0 (.q 1 (.q 2 (.q 3 (.done))))) (by kernel_rfl) ?_
    refine q_move rfl rfl rfl rfl ?_
    refine q_field (k := 0) rfl rfl rfl rfl Try.underlying25 rfl Try.sizeOf3 rfl ?_
    refine q_load_c (j := 0) rfl rfl rfl rfl Try.isAgg3 (by with_reducible (repeat (first | exact Take.here | apply Take.there))) (by first | rfl | exact (Nat.add_zero _).symm) (by rfl) ?_
    refine q_int rfl rfl rfl rfl rfl (b_lss _ _ _ _) ?_
    refine r_done ?_
    refine k_then_n ?_
    refine c_cond_p rfl (fun hlt2 => ?_) (fun hlt2 => ?_)
    · skip
      refine c_skip ?_
      refine k_then_n ?_
      refine c_seq ?_
      refine c_block ?_
      refine c_seq ?_
      refine c_plain (.q 0 (.q 1 ((.l 2 [] (.q 3 (.q 4 (.q 5 ((.l 6 [] ((.l 7 [] (.q 8 (.done))))))))))))) (by kernel_rfl) ?_
      refine q_move rfl rfl rfl rfl ?_
      refine q_move rfl rfl rfl rfl ?_
      have sp_3 := stand_spec b7p b7c b7 Y ((j : Nat) : Int)
      refine l_call rfl rfl rfl rfl rfl rfl Try.call21 (sp_3) (by (repeat ((with_reducible apply Takes.cons); focus (first | (with_reducible (repeat (first | exact Take.here | apply Take.there)); done) | (repeat (first | exact Take.here | apply Take.there))))); exact Takes.nil) ?_
      rintro ⟨⟩ -
      try simp only [List.cons_append, List.nil_append]
      refine ag_nil ?_
      refine s_eq 56 rfl (v' := .tuple #[.agg #[.int .i64 ((stF Y ((j : Nat) : Int)).1), .int .i64 ((stF Y ((j : Nat) : Int)).2.1), .int .i64 ((stF Y ((j : Nat) : Int)).2.2)], .int .i64 0]) (by rw [if_pos (by rw [hYt]; omega)]) ?_
      refine q_move rfl rfl rfl rfl ?_
      refine q_extract rfl rfl rfl rfl rfl ?_
      refine q_extract rfl rfl rfl rfl rfl ?_
      refine l_alloc rfl rfl rfl Try.zeroValue51 (zs := [.int .i64 0, .int .i64 0, .int .i64 0]) rfl ?_
      intro b12
      refine ag_nil ?_
      refine l_store (j := 0) rfl rfl rfl rfl Try.sizeOf51 (us := [_, _, _]) rfl rfl rfl (by with_reducible (repeat (first | exact Take.here | apply Take.there))) (by first | rfl | exact (Nat.add_zero _).symm) (by first | decide | (simp; done) | omega) ?_
      simp only [setL, List.set]
      refine ag_nil ?_
      refine q_assign rfl rfl rfl rfl ?_
      refine r_done ?_
      refine s_keep [2, 3, 7, 10, 11, 12, 13] (e' := [(2, _), (3, _), (7, _), (10, _), (11, _), (12, _), (13, _)]) rfl ?_
      refine k_then_n ?_
      refine c_seq ?_
      refine c_seq ?_
      refine c_draw rfl (.q 0 (.q 1 (.q 2 (.q 3 (.q 4 (.q 5 (.q 6 (.q 7 (.q 8 ((.l 9 [4] (.q 10 (.q 11 (.done)))))))))))))) (by kernel_rfl) ?_
      refine q_move rfl rfl rfl rfl ?_
      refine q_int rfl rfl rfl rfl rfl (b_neq _ _ _ _) ?_
      refine s_eq 60 rfl (v' := .bool false) (by first | rfl | simp) ?_
      refine q_move rfl rfl rfl rfl ?_
      refine q_field (k := 0) rfl rfl rfl rfl Try.underlying51 rfl Try.sizeOf49 rfl ?_
      refine q_load_c (j := 0) rfl rfl rfl rfl Try.isAgg49 (by with_reducible (repeat (first | exact Take.here | apply Take.there))) (by first | rfl | exact (Nat.add_zero _).symm) (by rfl) ?_
      refine q_int rfl rfl rfl rfl rfl (b_eql _ _ _ _) ?_
      refine q_move rfl rfl rfl rfl ?_
      refine q_move rfl rfl rfl rfl ?_
      refine q_build rfl rfl rfl rfl (vs := [_, _, _]) (run_buildS Try.underlying32 Try.zeroValue32 (ps := [(0, 1), (1, 1), (2, 1)]) ⟨rfl, Try.sizeOf30, rfl, Try.sizeOf3, rfl, Try.sizeOf3, trivial⟩ rfl) ?_
      have sp_4 := can_spec b7p b7c b7 Y hYi 11 ((j : Nat) : Int) 0
      refine l_call rfl rfl rfl rfl rfl rfl Try.call18 (sp_4) (by (repeat ((with_reducible apply Takes.cons); focus (first | (with_reducible (repeat (first | exact Take.here | apply Take.there)); done) | (repeat (first | exact Take.here | apply Take.there))))); exact Takes.nil) ?_
      rintro ⟨⟩ -
      try simp only [List.cons_append, List.nil_append]
      refine ag_load_c (q := 0) rfl rfl rfl Try.isAgg49 (by with_reducible (repeat (first | exact Take.here | apply Take.there))) (by first | rfl | exact (Nat.add_zero _).symm) (by rfl) ?_
      refine ag_nil ?_
      refine q_neb rfl rfl rfl rfl rfl Try.underlying4 ?_
      refine s_eq 69 rfl (v' := .bool false) (by have hcx : decide (canF Y 11 ((j : Nat) : Int) 0) = decide ((stF Y ((j : Nat) : Int)).1 = 1) := decide_eq_decide.2 can_exit; rw [hcx]; simp) ?_
      refine q_pick_f rfl rfl rfl rfl rfl ?_
      refine r_done ?_
      refine s_keep [2, 3, 7, 10, 11, 12, 62, 63, 64, 65, 66, 67, 68, 69, 70] (e' := [(2, _), (3, _), (7, _), (10, _), (11, _), (12, _), (62, _), (63, _), (64, _), (65, _), (66, _), (67, _), (68, _), (69, _), (70, _)]) rfl ?_
      refine k_then_n ?_
      refine c_cond_f rfl ?_
      refine c_skip ?_
      refine k_then_n ?_
      refine c_plain (.q 0 (.q 1 (.q 2 (.q 3 (.q 4 (.q 5 (.q 6 (.q 7 (.q 8 ((.l 9 [] (.q 10 (.q 11 (.q 12 (.done))))))))))))))) (by kernel_rfl) ?_
      refine q_move rfl rfl rfl rfl ?_
      refine q_move rfl rfl rfl rfl ?_
      refine s_bool 72 rfl (fun hs => ?_) (fun hs => ?_)
      · skip
        try simp only [Bool.and_eq_true, Bool.or_eq_true, Bool.not_eq_true', Bool.not_eq_false', Bool.and_eq_false_iff, Bool.or_eq_false_iff, decide_eq_true_eq, decide_eq_false_iff_not] at hs
        refine q_field (k := 0) rfl rfl rfl rfl Try.underlying51 rfl Try.sizeOf49 rfl ?_
        refine q_load_c (j := 0) rfl rfl rfl rfl Try.isAgg49 (by with_reducible (repeat (first | exact Take.here | apply Take.there))) (by first | rfl | exact (Nat.add_zero _).symm) (by rfl) ?_
        refine q_int rfl rfl rfl rfl rfl (b_neq _ _ _ _) ?_
        refine q_pick_t rfl rfl rfl rfl rfl ?_
        refine q_move rfl rfl rfl rfl ?_
        refine s_bool_p 77 rfl (fun hrun => ?_) (fun hrun => ?_)
        · skip
          refine q_move rfl rfl rfl rfl ?_
          refine q_move rfl rfl rfl rfl ?_
          have sp_5 := full_spec b7p b7c b7 Y hYi ((j : Nat) : Int)
          refine l_call rfl rfl rfl rfl rfl rfl Try.call22 (sp_5) (by (repeat ((with_reducible apply Takes.cons); focus (first | (with_reducible (repeat (first | exact Take.here | apply Take.there)); done) | (repeat (first | exact Take.here | apply Take.there))))); exact Takes.nil) ?_
          rintro ⟨⟩ -
          try simp only [List.cons_append, List.nil_append]
          refine ag_nil ?_
          refine q_not rfl rfl rfl rfl ?_
          refine q_pick_t rfl rfl rfl rfl rfl ?_
          refine q_assign rfl rfl rfl rfl ?_
          refine r_done ?_
          refine s_keep [2, 3, 7, 10, 11, 62, 63, 64, 65, 66, 67, 68, 69, 73, 74, 75, 78, 79, 80, 81] (e' := [(2, _), (3, _), (7, _), (10, _), (11, _), (62, _), (63, _), (64, _), (65, _), (66, _), (67, _), (68, _), (69, _), (73, _), (74, _), (75, _), (78, _), (79, _), (80, _), (81, _)]) rfl ?_
          refine k_blk_n ?_
          refine k_then_n ?_
          refine c_plain (.q 0 (.q 1 (.q 2 (.done)))) (by kernel_rfl) ?_
          refine q_move rfl rfl rfl rfl ?_
          refine q_int rfl rfl rfl rfl rfl (b_add' _ (by (first | exact fits_i64 (by omega) (by omega) | exact fits_u64 (by omega) (by omega) | exact fits_u32 (by omega) (by omega) | exact fits_u8 (by omega) (by omega)))) ?_
          refine q_assign rfl rfl rfl rfl ?_
          refine r_done ?_
          refine k_then_n ?_
          refine loop_next (x := (j, sk)) ((j + 1, !decide (fullF Y ((j : Nat) : Int)))) ?_ ?_ ?_ ?_
          · try dsimp only
            refine ⟨by omega, ?_⟩
            first | (intro h; cases h; done) | (intro h u h0 h1; by_cases hu : u = (j : Int); (subst hu; exact ⟨hrun, by simpa using h⟩); exact hsk hs u h0 (by omega))
          · show th.toNat - (j + 1) < th.toNat - j; omega
          · exact ⟨rfl, rfl, rfl, rfl, rfl, trivial⟩
          · (try simp only [List.cons_append, List.nil_append]); (repeat ((with_reducible apply Takes.cons); focus (first | (with_reducible (repeat (first | exact Take.here | apply Take.there)); done) | (repeat (first | exact Take.here | apply Take.there))))); (repeat (first | exact Takes.nil | exact Takes.self | refine takes_drop2 ?_))
        · skip
          refine q_skip rfl rfl rfl rfl ?_
          refine q_skip rfl rfl rfl rfl ?_
          refine l_skip rfl rfl rfl rfl ?_
          refine q_skip rfl rfl rfl rfl ?_
          refine q_pick_f rfl rfl rfl rfl rfl ?_
          refine q_assign rfl rfl rfl rfl ?_
          refine r_done ?_
          refine s_keep [2, 3, 7, 10, 11, 62, 63, 64, 65, 66, 67, 68, 69, 73, 74, 75, 78, 79, 80, 81] (e' := [(2, _), (3, _), (7, _), (10, _), (11, _), (62, _), (63, _), (64, _), (65, _), (66, _), (67, _), (68, _), (69, _), (73, _), (74, _), (75, _), (78, _), (79, _), (80, _), (81, _)]) rfl ?_
          refine k_blk_n ?_
          refine k_then_n ?_
          refine c_plain (.q 0 (.q 1 (.q 2 (.done)))) (by kernel_rfl) ?_
          refine q_move rfl rfl rfl rfl ?_
          refine q_int rfl rfl rfl rfl rfl (b_add' _ (by (first | exact fits_i64 (by omega) (by omega) | exact fits_u64 (by omega) (by omega) | exact fits_u32 (by omega) (by omega) | exact fits_u8 (by omega) (by omega)))) ?_
          refine q_assign rfl rfl rfl rfl ?_
          refine r_done ?_
          refine k_then_n ?_
          refine loop_next (x := (j, sk)) ((j + 1, false)) ?_ ?_ ?_ ?_
          · try dsimp only
            refine ⟨by omega, ?_⟩
            first | (intro h; cases h; done) | (intro h u h0 h1; by_cases hu : u = (j : Int); (subst hu; exact ⟨hrun, by simpa using h⟩); exact hsk hs u h0 (by omega))
          · show th.toNat - (j + 1) < th.toNat - j; omega
          · exact ⟨rfl, rfl, rfl, rfl, rfl, trivial⟩
          · (try simp only [List.cons_append, List.nil_append]); (repeat ((with_reducible apply Takes.cons); focus (first | (with_reducible (repeat (first | exact Take.here | apply Take.there)); done) | (repeat (first | exact Take.here | apply Take.there))))); (repeat (first | exact Takes.nil | exact Takes.self | refine takes_drop2 ?_))
      · skip
        try simp only [Bool.and_eq_true, Bool.or_eq_true, Bool.not_eq_true', Bool.not_eq_false', Bool.and_eq_false_iff, Bool.or_eq_false_iff, decide_eq_true_eq, decide_eq_false_iff_not] at hs
        refine q_skip rfl rfl rfl rfl ?_
        refine q_skip rfl rfl rfl rfl ?_
        refine q_skip rfl rfl rfl rfl ?_
        refine q_pick_f rfl rfl rfl rfl rfl ?_
        refine q_move rfl rfl rfl rfl ?_
        refine q_skip rfl rfl rfl rfl ?_
        refine q_skip rfl rfl rfl rfl ?_
        refine l_skip rfl rfl rfl rfl ?_
        refine q_skip rfl rfl rfl rfl ?_
        refine q_pick_f rfl rfl rfl rfl rfl ?_
        refine q_assign rfl rfl rfl rfl ?_
        refine r_done ?_
        refine s_keep [2, 3, 7, 10, 11, 62, 63, 64, 65, 66, 67, 68, 69, 73, 74, 75, 78, 79, 80, 81] (e' := [(2, _), (3, _), (7, _), (10, _), (11, _), (62, _), (63, _), (64, _), (65, _), (66, _), (67, _), (68, _), (69, _), (73, _), (74, _), (75, _), (78, _), (79, _), (80, _), (81, _)]) rfl ?_
        refine k_blk_n ?_
        refine k_then_n ?_
        refine c_plain (.q 0 (.q 1 (.q 2 (.done)))) (by kernel_rfl) ?_
        refine q_move rfl rfl rfl rfl ?_
        refine q_int rfl rfl rfl rfl rfl (b_add' _ (by (first | exact fits_i64 (by omega) (by omega) | exact fits_u64 (by omega) (by omega) | exact fits_u32 (by omega) (by omega) | exact fits_u8 (by omega) (by omega)))) ?_
        refine q_assign rfl rfl rfl rfl ?_
        refine r_done ?_
        refine k_then_n ?_
        refine loop_next (x := (j, sk)) ((j + 1, false)) ?_ ?_ ?_ ?_
        · try dsimp only
          refine ⟨by omega, ?_⟩
          first | (intro h; cases h; done) | (intro h u h0 h1; by_cases hu : u = (j : Int); (subst hu; exact ⟨hrun, by simpa using h⟩); exact hsk hs u h0 (by omega))
        · show th.toNat - (j + 1) < th.toNat - j; omega
        · exact ⟨rfl, rfl, rfl, rfl, rfl, trivial⟩
        · (try simp only [List.cons_append, List.nil_append]); (repeat ((with_reducible apply Takes.cons); focus (first | (with_reducible (repeat (first | exact Take.here | apply Take.there)); done) | (repeat (first | exact Take.here | apply Take.there))))); (repeat (first | exact Takes.nil | exact Takes.self | refine takes_drop2 ?_))
    · skip
      refine c_exit ?_
      refine k_then_exit ?_
      refine k_then_exit ?_
      refine k_blk_here ?_
      refine k_then_n ?_
      refine c_seq ?_
      refine c_seq ?_
      refine c_plain (.q 0 (.done)) (by kernel_rfl) ?_
      refine q_assign rfl rfl rfl rfl ?_
      refine r_done ?_
      refine s_keep [2, 7, 10, 14] (e' := [(2, _), (7, _), (10, _), (14, _)]) rfl ?_
      refine k_then_n ?_
      refine c_block ?_
      refine c_loop2 (α := Nat) (fun (p : Nat) => p ≤ m2) (fun (p : Nat) => [(14, .int .i64 ((p : Nat) : Int))]) (fun (p : Nat) => [ck b7p b7c b7 Y, own 1 encZ b7p b7c pl]) (fun (p : Nat) => m2 - p) [2, 7, 10] (er := [(2, _), (7, _), (10, _)]) rfl (0) ?_ (by exact ⟨rfl, trivial⟩) (by (try dsimp only); (try simp only [Nat.add_zero, Nat.zero_add]); (repeat ((with_reducible apply Takes.cons); focus (first | (with_reducible (repeat (first | exact Take.here | apply Take.there)); done) | (repeat (first | exact Take.here | apply Take.there))))); exact Takes.nil) ?_
      · exact Nat.zero_le _
      rintro p hle_p
      try simp only [List.cons_append, List.nil_append]
      refine c_seq ?_
      refine c_seq ?_
      refine c_plain (.q 0 (.q 1 (.q 2 (.q 3 (.done))))) (by kernel_rfl) ?_
      refine q_move rfl rfl rfl rfl ?_
      refine q_move rfl rfl rfl rfl ?_
      refine q_len rfl rfl rfl rfl Try.underlying26 ?_
      refine q_int rfl rfl rfl rfl rfl (b_lss _ _ _ _) ?_
      refine r_done ?_
      refine k_then_n ?_
      refine c_cond_p rfl (fun hlt4 => ?_) (fun hlt4 => ?_)
      · skip
        refine c_skip ?_
        refine k_then_n ?_
        refine c_seq ?_
        refine c_block ?_
        refine c_seq ?_
        refine c_plain (.q 0 (.q 1 (.q 2 (.q 3 (.q 4 (.q 5 (.q 6 ((.l 7 [] (.q 8 (.done))))))))))) (by kernel_rfl) ?_
        refine q_move rfl rfl rfl rfl ?_
        refine q_move rfl rfl rfl rfl ?_
        refine s_bool 90 rfl (fun hs => ?_) (fun hs => ?_)
        · skip
          try simp only [Bool.and_eq_true, Bool.or_eq_true, Bool.not_eq_true', Bool.not_eq_false', Bool.and_eq_false_iff, Bool.or_eq_false_iff, decide_eq_true_eq, decide_eq_false_iff_not] at hs
          refine q_move rfl rfl rfl rfl ?_
          refine q_move rfl rfl rfl rfl ?_
          refine q_move rfl rfl rfl rfl ?_
          obtain ⟨q, hq⟩ := get_lt (l := ps) (i := p) (by first | omega | (simp; done) | (simp; omega))
          refine q_idxR (sz := 2) (k := p) rfl rfl rfl rfl rfl Try.underlying26 Try.sizeOf32 (hps) hq enc3_len (by first | rfl | omega) (by omega) ?_
          intro ib94 io94 _ hd94
          refine q_loadN (vs := [_, _, _]) rfl rfl rfl rfl Try.isAgg32 Try.sizeOf32 (by with_reducible (repeat (first | exact Take.here | apply Take.there))) (hd94) rfl ?_
          have sp_6 := can_spec b7p b7c b7 Y hYi q.1 q.2.1 q.2.2
          refine l_call rfl rfl rfl rfl rfl rfl Try.call18 (sp_6) (by (repeat ((with_reducible apply Takes.cons); focus (first | (with_reducible (repeat (first | exact Take.here | apply Take.there)); done) | (repeat (first | exact Take.here | apply Take.there))))); exact Takes.nil) ?_
          rintro ⟨⟩ -
          try simp only [List.cons_append, List.nil_append]
          refine ag_nil ?_
          refine q_pick_t rfl rfl rfl rfl rfl ?_
          refine r_done ?_
          refine s_keep [2, 7, 10, 14, 91, 92, 93, 94, 95, 96, 97] (e' := [(2, _), (7, _), (10, _), (14, _), (91, _), (92, _), (93, _), (94, _), (95, _), (96, _), (97, _)]) rfl ?_
          refine k_then_n ?_
          refine c_cond_p rfl (fun hcan => by exfalso; exact stuck_can hYi (fun u h0 h1 => hsk hs u h0 (by rw [hYt] at h1; omega)) _ _ _ hcan) (fun hcan => ?_)
          refine c_skip ?_
          refine k_blk_n ?_
          refine k_then_n ?_
          refine c_plain (.q 0 (.q 1 (.q 2 (.done)))) (by kernel_rfl) ?_
          refine q_move rfl rfl rfl rfl ?_
          refine q_int rfl rfl rfl rfl rfl (b_add' _ (by (first | exact fits_i64 (by omega) (by omega) | exact fits_u64 (by omega) (by omega) | exact fits_u32 (by omega) (by omega) | exact fits_u8 (by omega) (by omega)))) ?_
          refine q_assign rfl rfl rfl rfl ?_
          refine r_done ?_
          refine k_then_n ?_
          refine loop_next (x := p) (p + 1) ?_ ?_ ?_ ?_
          · exact by show p + 1 ≤ m2; omega
          · show m2 - (p + 1) < m2 - p; omega
          · exact ⟨rfl, rfl, rfl, rfl, trivial⟩
          · (try simp only [List.cons_append, List.nil_append]); (repeat ((with_reducible apply Takes.cons); focus (first | (with_reducible (repeat (first | exact Take.here | apply Take.there)); done) | (repeat (first | exact Take.here | apply Take.there))))); (repeat (first | exact Takes.nil | exact Takes.self | refine takes_drop2 ?_))
        · skip
          try simp only [Bool.and_eq_true, Bool.or_eq_true, Bool.not_eq_true', Bool.not_eq_false', Bool.and_eq_false_iff, Bool.or_eq_false_iff, decide_eq_true_eq, decide_eq_false_iff_not] at hs
          refine q_skip rfl rfl rfl rfl ?_
          refine q_skip rfl rfl rfl rfl ?_
          refine q_skip rfl rfl rfl rfl ?_
          refine q_skip rfl rfl rfl rfl ?_
          refine q_skip rfl rfl rfl rfl ?_
          refine l_skip rfl rfl rfl rfl ?_
          refine q_pick_f rfl rfl rfl rfl rfl ?_
          refine r_done ?_
          refine s_keep [2, 7, 10, 14, 91, 92, 93, 94, 95, 96, 97] (e' := [(2, _), (7, _), (10, _), (14, _), (91, _), (92, _), (93, _), (94, _), (95, _), (96, _), (97, _)]) rfl ?_
          refine k_then_n ?_
          refine c_cond_f rfl ?_
          refine c_skip ?_
          refine k_blk_n ?_
          refine k_then_n ?_
          refine c_plain (.q 0 (.q 1 (.q 2 (.done)))) (by kernel_rfl) ?_
          refine q_move rfl rfl rfl rfl ?_
          refine q_int rfl rfl rfl rfl rfl (b_add' _ (by (first | exact fits_i64 (by omega) (by omega) | exact fits_u64 (by omega) (by omega) | exact fits_u32 (by omega) (by omega) | exact fits_u8 (by omega) (by omega)))) ?_
          refine q_assign rfl rfl rfl rfl ?_
          refine r_done ?_
          refine k_then_n ?_
          refine loop_next (x := p) (p + 1) ?_ ?_ ?_ ?_
          · exact by show p + 1 ≤ m2; omega
          · show m2 - (p + 1) < m2 - p; omega
          · exact ⟨rfl, rfl, rfl, rfl, trivial⟩
          · (try simp only [List.cons_append, List.nil_append]); (repeat ((with_reducible apply Takes.cons); focus (first | (with_reducible (repeat (first | exact Take.here | apply Take.there)); done) | (repeat (first | exact Take.here | apply Take.there))))); (repeat (first | exact Takes.nil | exact Takes.self | refine takes_drop2 ?_))
      · skip
        refine c_exit ?_
        refine k_then_exit ?_
        refine k_then_exit ?_
        refine k_blk_here ?_
        refine k_then_n ?_
        refine c_seq ?_
        refine c_plain ((.l 0 [] (.q 1 (.done)))) (by kernel_rfl) ?_
        refine l_call rfl rfl rfl rfl rfl rfl Try.call16 (known_spec) (by (repeat ((with_reducible apply Takes.cons); focus (first | (with_reducible (repeat (first | exact Take.here | apply Take.there)); done) | (repeat (first | exact Take.here | apply Take.there))))); exact Takes.nil) ?_
        rintro ⟨⟩ -
        try simp only [List.cons_append, List.nil_append]
        refine ag_nil ?_
        refine q_assign rfl rfl rfl rfl ?_
        refine r_done ?_
        refine s_keep [6] (e' := [(6, _)]) rfl ?_
        refine k_then_n ?_
        refine c_ret ?_
        refine ret1 rfl rfl (()) (by first | rfl | (first | rfl | (congr 1; done) | (congr 1 <;> first | rfl | omega | (simp; done) | (simp; omega)))) (by trivial) ?_
        (repeat ((with_reducible apply Takes.cons); focus (first | (with_reducible (repeat (first | exact Take.here | apply Take.there)); done) | (repeat (first | exact Take.here | apply Take.there))))); (repeat (first | exact Takes.nil | exact Takes.self | refine takes_drop2 ?_))

theorem exits_bad (th va vo lk : Int) (pl : List Int) (ao : Option Addr) (n c : Nat) (A : HProp) (hr : RdS A ao (pl.flatMap encZ)) (hn : pl.length = n) (hb : n ≤ 4000000) (es : List T3) (eo : Option Addr) (m ec : Nat) (he : RdS A eo (es.flatMap enc3)) (hm : es.length = m) (hmb : m ≤ 4000000) (ps : List T3) (po : Option Addr) (m2 pc2 : Nat) (hps : RdS A po (ps.flatMap enc3)) (hm2 : ps.length = m2) (hm2b : m2 ≤ 4000000) (hok : ¬ OkS th va vo lk pl) : Spec Try.prog 6 [.agg #[.int .i64 th, .int .i64 va, .int .i64 vo, .int .i64 lk, .slice ao n c], .slice eo m ec, .slice po m2 pc2] [A] (fun (_ : Unit) => .bool true) (fun _ => True) (fun _ => [A]) := by
  refine spec_mk (n := 99) Try.func6 rfl rfl rfl ?_
  intro Γ w0
  simp only [argE, List.cons_append, List.nil_append, Nat.zero_add, Nat.reduceAdd]
  refine c_seq ?_
  refine c_plain ((.l 0 [] (.q 1 (.done)))) (by kernel_rfl) ?_
  refine l_box rfl rfl rfl rfl (us := [_, _, _, _, _]) rfl ?_
  intro b3
  refine ag_nil ?_
  refine q_assign rfl rfl rfl rfl ?_
  refine r_done ?_
  refine k_then_n ?_
  refine c_seq ?_
  refine c_plain (.q 0 ((.l 1 [] (.q 2 (.q 3 (.q 4 (.q 5 (.q 6 (.done))))))))) (by kernel_rfl) ?_
  refine q_loadN_c rfl rfl rfl rfl Try.isAgg25 Try.sizeOf25 (by with_reducible (repeat (first | exact Take.here | apply Take.there))) 0 (us := [_, _, _, _, _]) (by first | rfl | exact (Nat.add_zero _).symm) rfl rfl ?_
  have sp_2 := newbad_spec th va vo lk pl ao n c A (hr) (by first | rfl | assumption | omega | (simp; done) | (simp; omega)) (by omega) hok
  refine l_call rfl rfl rfl rfl rfl rfl Try.call17 (sp_2) (by (repeat ((with_reducible apply Takes.cons); focus (first | (with_reducible (repeat (first | exact Take.here | apply Take.there)); done) | (repeat (first | exact Take.here | apply Take.there))))); exact Takes.nil) ?_
  rintro ⟨⟩ -
  try simp only [List.cons_append, List.nil_append]
  refine ag_nil ?_
  refine q_move rfl rfl rfl rfl ?_
  refine q_extract rfl rfl rfl rfl rfl ?_
  refine q_extract rfl rfl rfl rfl rfl ?_
  refine q_assign rfl rfl rfl rfl ?_
  refine q_assign rfl rfl rfl rfl ?_
  refine r_done ?_
  refine s_keep [1, 2, 3, 7, 8] (e' := [(1, _), (2, _), (3, _), (7, _), (8, _)]) rfl ?_
  refine k_then_n ?_
  refine c_seq ?_
  refine c_seq ?_
  refine c_plain (.q 0 (.q 1 (.q 2 (.q 3 (.q 4 (.q 5 (.done))))))) (by kernel_rfl) ?_
  refine q_move rfl rfl rfl rfl ?_
  refine q_int rfl rfl rfl rfl rfl (b_neq _ _ _ _) ?_
  refine s_eq 21 rfl (v' := .bool true) (by first | rfl | simp) ?_
  refine q_move rfl rfl rfl rfl ?_
  refine q_skip rfl rfl rfl rfl ?_
  refine q_skip rfl rfl rfl rfl ?_
  refine q_pick_t rfl rfl rfl rfl rfl ?_
  refine r_done ?_
  refine s_keep [1, 2, 3, 7, 8, 25] (e' := [(1, _), (2, _), (3, _), (7, _), (8, _), (25, _)]) rfl ?_
  refine k_then_n ?_
  refine c_cond_t rfl ?_
  refine c_seq ?_
  refine c_plain (.q 0 (.q 1 (.q 2 (.q 3 (.q 4 (.q 5 (.q 6 ((.l 7 [] (.q 8 (.q 9 (.done)))))))))))) (by kernel_rfl) ?_
  refine q_move rfl rfl rfl rfl ?_
  refine q_eq_nil rfl rfl rfl rfl Try.underlying42 ?_
  refine s_eq 27 rfl (v' := .bool true) rfl ?_
  refine q_move rfl rfl rfl rfl ?_
  refine q_move rfl rfl rfl rfl ?_
  refine q_int rfl rfl rfl rfl rfl (b_eql _ _ _ _) ?_
  refine s_eq 30 rfl (v' := .bool true) (by first | rfl | simp) ?_
  refine q_pick_t rfl rfl rfl rfl rfl ?_
  refine q_move rfl rfl rfl rfl ?_
  refine l_call rfl rfl rfl rfl rfl rfl Try.call16 (known_spec) (by (repeat ((with_reducible apply Takes.cons); focus (first | (with_reducible (repeat (first | exact Take.here | apply Take.there)); done) | (repeat (first | exact Take.here | apply Take.there))))); exact Takes.nil) ?_
  rintro ⟨⟩ -
  try simp only [List.cons_append, List.nil_append]
  refine ag_nil ?_
  refine q_pick_t rfl rfl rfl rfl rfl ?_
  refine q_assign rfl rfl rfl rfl ?_
  refine r_done ?_
  refine s_keep [6] (e' := [(6, _)]) rfl ?_
  refine k_then_n ?_
  refine c_ret ?_
  refine k_then_ret ?_
  refine ret1 rfl rfl (()) (by first | rfl | (first | rfl | (congr 1; done) | (congr 1 <;> first | rfl | omega | (simp; done) | (simp; omega)))) (by trivial) ?_
  (repeat ((with_reducible apply Takes.cons); focus (first | (with_reducible (repeat (first | exact Take.here | apply Take.there)); done) | (repeat (first | exact Take.here | apply Take.there))))); (repeat (first | exact Takes.nil | exact Takes.self | refine takes_drop2 ?_))

theorem exits_spec (th va vo lk : Int) (pl : List Int) (ao : Option Addr) (n c : Nat) (A : HProp) (hr : RdS A ao (pl.flatMap encZ)) (hn : pl.length = n) (hb : n ≤ 4000000) (es : List T3) (eo : Option Addr) (m ec : Nat) (he : RdS A eo (es.flatMap enc3)) (hm : es.length = m) (hmb : m ≤ 4000000) (ps : List T3) (po : Option Addr) (m2 pc2 : Nat) (hps : RdS A po (ps.flatMap enc3)) (hm2 : ps.length = m2) (hm2b : m2 ≤ 4000000) : Spec Try.prog 6 [.agg #[.int .i64 th, .int .i64 va, .int .i64 vo, .int .i64 lk, .slice ao n c], .slice eo m ec, .slice po m2 pc2] [A] (fun (_ : Unit) => .bool true) (fun _ => True) (fun _ => [A]) := by
  by_cases hok : OkS th va vo lk pl
  · exact exits_ok th va vo lk pl ao n c A hr hn hb es eo m ec he hm hmb ps po m2 pc2 hps hm2 hm2b hok
  · exact exits_bad th va vo lk pl ao n c A hr hn hb es eo m ec he hm hmb ps po m2 pc2 hps hm2 hm2b hok
end Go.Ab.Fe
