/- Package sched: what the laws' helpers answer. -/
import Derived.Test.YtmaonhoplaebhaaSc5
set_option linter.unusedVariables false
set_option linter.unusedSimpArgs false
set_option maxRecDepth 100000
namespace Go.Ab.Sc
open Go Go.Proofs Go.Ab
theorem chz_m {x : Chs} {l : List Int} (h : goodL x l = true) : (chzX x l).m = x.m + 1 := by rw [chzX, if_pos h]
theorem bs_zero (rk : List Int) (t : Int) : bst rk [t] = 0 := bs_one rk [t]
theorem rds_take {α : Type} {A : HProp} {ao : Option Addr} {sz : Nat} {enc : α → List Value} {xs : List α} (h : RdS A ao (xs.flatMap enc)) (hsz : ∀ x, (enc x).length = sz) (k : Nat) : RdS A ao ((xs.take k).flatMap enc) := by
  rcases h with h | ⟨b, o, h1, h2⟩
  · left
    rw [← List.take_append_drop k xs, List.flatMap_append, List.append_eq_nil_iff] at h
    exact h.1
  · refine .inr ⟨b, o, h1, fun i v hv => h2 i v ?_⟩
    rw [← List.take_append_drop k xs, List.flatMap_append, List.getElem?_append_left]
    · exact hv
    · exact (List.getElem?_eq_some_iff.1 hv).1
theorem tm_rng (x : Int) {m : Int} (h : 0 < m) : -m < x.tmod m ∧ x.tmod m < m := by
  have h1 := Int.tmod_lt_of_pos x h
  have h2 := Int.lt_tmod_of_pos x h
  exact ⟨h2, h1⟩
theorem drL_nat (g : Int → Int) (s : Int) {q : Nat} (h : q ≤ 1048576) : drL g s (q : Int) = dr g s q := by
  have : lenE (q : Int) = 0 := by unfold lenE; rw [if_neg (by omega), if_neg (by omega)]
  rw [drL, if_pos this, Int.toNat_natCast]
theorem lenE_nat {q : Nat} (h : q ≤ 1048576) : lenE (q : Int) = 0 := by unfold lenE; rw [if_neg (by omega), if_neg (by omega)]
theorem dr_get (g : Int → Int) (s : Int) {q i : Nat} (h : i < q) : (dr g s q)[i]? = some (g (num s i)) := by simp [dr, h]
theorem dr_take (g : Int → Int) (s : Int) (q r : Nat) : (dr g s (q + r)).take q = dr g s q := by
  apply List.ext_getElem?
  intro i
  rw [List.getElem?_take]
  split
  · rename_i h; rw [dr_get g s (by omega), dr_get g s h]
  · rw [List.getElem?_eq_none (by rw [dr_len]; omega)]
theorem known_spec : Spec Try.prog 15 [] [] (fun (_ : Unit) => .bool true) (fun _ => True) (fun _ => []) := by
  refine spec_mk (n := 51) Try.func15 rfl rfl rfl ?_
  intro Γ w0
  simp only [argE, List.cons_append, List.nil_append, Nat.zero_add, Nat.reduceAdd]
  refine c_seq ?_
  refine c_plain (.q 0 (.done)) (by kernel_rfl) ?_
  refine q_assign rfl rfl rfl rfl ?_
  refine r_done ?_
  refine k_then_n ?_
  refine c_seq ?_
  refine c_plain ((.l 0 [] ((.l 1 [] ((.l 2 [] ((.l 3 [] (.q 4 (.q 5 (.q 6 (.q 7 (.q 8 (.done)))))))))))))) (by kernel_rfl) ?_
  refine l_buildSlice rfl rfl rfl rfl (vs := [_, _, _]) (run_buildSl Try.underlying24 Try.sizeOf25 Try.zeroValue25 rfl rfl rfl rfl) ?_
  intro b8
  refine ag_nil ?_
  refine l_buildSlice rfl rfl rfl rfl (run_build1 (us := [_]) Try.underlying24 Try.sizeOf25 rfl Try.zeroValue25 rfl rfl rfl) ?_
  intro b9
  refine ag_nil ?_
  refine l_buildSlice rfl rfl rfl rfl (vs := [_, _, _]) (run_buildSl Try.underlying23 Try.sizeOf24 Try.zeroValue24 rfl rfl rfl rfl) ?_
  intro b10
  refine ag_nil ?_
  refine s_heap (fun _ h => Bun.fold ((by (repeat ((with_reducible apply Takes.cons); focus (first | (with_reducible (repeat (first | exact Take.here | apply Take.there)); done) | (repeat (first | exact Take.here | apply Take.there))))); exact Takes.nil : Takes _ [cells b10 0 [.slice (some ⟨b8, 0, none⟩) 3 3, .slice none 0 0, .slice (some ⟨b9, 0, none⟩) 1 1], cells b8 0 [.int .u32 1, .int .u32 2, .int .u32 3], cells b9 0 [.int .u32 9]] _) _ h)) ?_
  have sp_1 := turns_spec [(some ⟨b8, 0, none⟩, 3, [1, 2, 3]), (none, 0, []), (some ⟨b9, 0, none⟩, 1, [9])] 5 (some ⟨b10, 0, none⟩) 3 3 (Bun [cells b10 0 [.slice (some ⟨b8, 0, none⟩) 3 3, .slice none 0 0, .slice (some ⟨b9, 0, none⟩) 1 1], cells b8 0 [.int .u32 1, .int .u32 2, .int .u32 3], cells b9 0 [.int .u32 9]]) (rds_bun (List.mem_cons_self) (rds_some rdn_cells)) rfl (by intro x hx; simp at hx; rcases hx with rfl | rfl | rfl; exact rds_bun (List.mem_cons_of_mem _ (List.mem_cons_self)) (rds_some rdn_cells); exact .inl rfl; exact rds_bun (List.mem_cons_of_mem _ (List.mem_cons_of_mem _ (List.mem_cons_self))) (rds_some rdn_cells)) (by decide) (by intro x hx; simp at hx; rcases hx with rfl | rfl | rfl <;> simp)
  refine l_call rfl rfl rfl rfl rfl rfl Try.call12 (sp_1) (by (repeat ((with_reducible apply Takes.cons); focus (first | (with_reducible (repeat (first | exact Take.here | apply Take.there)); done) | (repeat (first | exact Take.here | apply Take.there))))); exact Takes.nil) ?_
  rintro ⟨ta, tc⟩ -
  try simp only [List.cons_append, List.nil_append]
  refine s_take (A := Bun [cells b10 0 [.slice (some ⟨b8, 0, none⟩) 3 3, .slice none 0 0, .slice (some ⟨b9, 0, none⟩) 1 1], cells b8 0 [.int .u32 1, .int .u32 2, .int .u32 3], cells b9 0 [.int .u32 9]]) (by with_reducible (repeat (first | exact Take.here | apply Take.there))) ?_
  refine s_bun ?_
  try simp only [List.cons_append, List.nil_append]
  have htl : tnL 5 (List.map (·.2.2) ([(some ⟨b8, 0, none⟩, 3, [1, 2, 3]), (none, 0, []), (some ⟨b9, 0, none⟩, 1, [9])] : List Lst)) = [1, 9, 2, 3, 0] := by show tnL 5 [[1, 2, 3], [], [9]] = _; decide
  rw [htl]
  simp only [List.length_cons, List.length_nil, Nat.zero_add, Nat.reduceAdd]
  try simp only [List.cons_append, List.nil_append]
  refine ag_nil ?_
  refine q_move rfl rfl rfl rfl ?_
  refine q_extract rfl rfl rfl rfl rfl ?_
  refine q_extract rfl rfl rfl rfl rfl ?_
  refine s_eq 13 rfl (v' := .int .i64 0) (by congr 1) ?_
  refine q_assign rfl rfl rfl rfl ?_
  refine q_assign rfl rfl rfl rfl ?_
  refine r_done ?_
  refine s_keep [1, 2] (e' := [(1, _), (2, _)]) rfl ?_
  refine k_then_n ?_
  refine c_seq ?_
  refine c_plain ((.l 0 [] (.q 1 (.q 2 (.q 3 (.q 4 (.q 5 (.done)))))))) (by kernel_rfl) ?_
  have sp_2 := new_spec 1 1 1 1 (by decide)
  refine l_call rfl rfl rfl rfl rfl rfl Try.call22 (sp_2) (by (repeat ((with_reducible apply Takes.cons); focus (first | (with_reducible (repeat (first | exact Take.here | apply Take.there)); done) | (repeat (first | exact Take.here | apply Take.there))))); exact Takes.nil) ?_
  rintro nb -
  try simp only [List.cons_append, List.nil_append]
  refine ag_nil ?_
  refine q_move rfl rfl rfl rfl ?_
  refine q_extract rfl rfl rfl rfl rfl ?_
  refine q_extract rfl rfl rfl rfl rfl ?_
  refine q_assign rfl rfl rfl rfl ?_
  refine q_assign rfl rfl rfl rfl ?_
  refine r_done ?_
  refine s_keep [1, 2, 3, 4] (e' := [(1, _), (2, _), (3, _), (4, _)]) rfl ?_
  refine k_then_n ?_
  refine c_seq ?_
  refine c_seq ?_
  refine c_plain (.q 0 (.q 1 (.q 2 (.q 3 (.q 4 (.q 5 (.q 6 (.q 7 (.q 8 (.q 9 (.q 10 (.q 11 ((.l 12 [] ((.l 13 [] (.q 14 (.q 15 (.done))))))))))))))))))) (by kernel_rfl) ?_
  refine q_move rfl rfl rfl rfl ?_
  refine q_int rfl rfl rfl rfl rfl (b_neq _ _ _ _) ?_
  refine q_move rfl rfl rfl rfl ?_
  refine s_bool_p 20 rfl (fun g_3 => by exfalso; first | omega | contradiction | (simp_all; done) | (simp_all; omega)) (fun g_3 => ?_)
  refine q_move rfl rfl rfl rfl ?_
  refine q_int rfl rfl rfl rfl rfl (b_neq _ _ _ _) ?_
  refine q_pick_f rfl rfl rfl rfl rfl ?_
  refine q_move rfl rfl rfl rfl ?_
  refine s_bool_p 24 rfl (fun g_4 => by exfalso; first | omega | contradiction | (simp_all; done) | (simp_all; omega)) (fun g_4 => ?_)
  refine q_move rfl rfl rfl rfl ?_
  refine q_eq_nil rfl rfl rfl rfl Try.underlying50 ?_
  refine s_eq 26 rfl (v' := .bool false) rfl ?_
  refine q_pick_f rfl rfl rfl rfl rfl ?_
  refine q_move rfl rfl rfl rfl ?_
  refine q_move rfl rfl rfl rfl ?_
  refine l_buildSlice rfl rfl rfl rfl (vs := [_, _, _, _, _]) (run_buildSl Try.underlying24 Try.sizeOf25 Try.zeroValue25 rfl rfl rfl rfl) ?_
  intro b30
  refine ag_nil ?_
  refine s_take (A := own 1 encW ta tc ([1, 9, 2, 3, 0])) (by with_reducible (repeat (first | exact Take.here | apply Take.there))) ?_
  refine own_fc fun f_5a f_5b f_5c => ?_
  refine s_heap (fun _ h => Bun.fold ((by (repeat ((with_reducible apply Takes.cons); focus (first | (with_reducible (repeat (first | exact Take.here | apply Take.there)); done) | (repeat (first | exact Take.here | apply Take.there))))); exact Takes.nil : Takes _ [own 1 encW ta tc ([1, 9, 2, 3, 0]), cells b30 0 [.int .u32 1, .int .u32 9, .int .u32 2, .int .u32 3, .int .u32 0]] _) _ h)) ?_
  refine l_call rfl rfl rfl rfl rfl rfl Try.call13 (same_spec ([1, 9, 2, 3, 0]) ([1, 9, 2, 3, 0]) ta (some ⟨b30, 0, none⟩) 5 5 tc 5 (Bun [own 1 encW ta tc ([1, 9, 2, 3, 0]), cells b30 0 [.int .u32 1, .int .u32 9, .int .u32 2, .int .u32 3, .int .u32 0]]) (by first | rfl | assumption | omega | (simp; done) | (simp; omega)) (rds_bun (List.mem_cons_self) (rds_own encW_len (fun h => (f_5b h).1) f_5c)) (by rfl) (rds_bun (List.mem_cons_of_mem _ (List.mem_cons_self)) (rds_some rdn_cells)) (by omega)) (by (repeat ((with_reducible apply Takes.cons); focus (first | (with_reducible (repeat (first | exact Take.here | apply Take.there)); done) | (repeat (first | exact Take.here | apply Take.there))))); exact Takes.nil) ?_
  rintro ⟨⟩ -
  try simp only [List.cons_append, List.nil_append]
  refine s_take (A := Bun [own 1 encW ta tc ([1, 9, 2, 3, 0]), cells b30 0 [.int .u32 1, .int .u32 9, .int .u32 2, .int .u32 3, .int .u32 0]]) (by with_reducible (repeat (first | exact Take.here | apply Take.there))) ?_
  refine s_bun ?_
  try simp only [List.cons_append, List.nil_append]
  try simp only [List.cons_append, List.nil_append]
  refine ag_nil ?_
  refine q_not rfl rfl rfl rfl ?_
  refine q_pick_f rfl rfl rfl rfl rfl ?_
  refine r_done ?_
  refine s_keep [3, 33] (e' := [(3, _), (33, _)]) rfl ?_
  refine k_then_n ?_
  refine c_cond_np rfl (fun h_6 => by exfalso; first | omega | contradiction | (simp_all; done) | (simp_all; omega)) (fun h_6 => ?_)
  refine c_skip ?_
  refine k_then_n ?_
  refine c_seq ?_
  refine c_plain (.q 0 ((.l 1 [] ((.l 2 [] (.q 3 (.q 4 (.q 5 (.q 6 (.q 7 (.done))))))))))) (by kernel_rfl) ?_
  refine q_move rfl rfl rfl rfl ?_
  refine l_buildSlice rfl rfl rfl rfl (run_build1 (us := [_]) Try.underlying53 Try.sizeOf3 rfl Try.zeroValue3 rfl rfl rfl) ?_
  intro b36
  refine ag_nil ?_
  have hgl : goodL (newX 1 1 1 1) [0] = true := by simp [goodL, okL, okAt, (by simp [newX, rks_len, shN_len] : (newX 1 1 1 1).rk.length = 1)]
  have hci := new_inv (s := 1) (n := 1) (d := 1) (st := 1) (by decide)
  have sp_7 := choose_spec nb (newX 1 1 1 1) hci.ok (by decide) [0] (some ⟨b36, 0, none⟩) 1 1 (cells b36 0 [.int .i64 0]) rfl (rds_some rdn_cells) (by decide)
  refine l_call rfl rfl rfl rfl rfl rfl Try.call26 (sp_7) (by (repeat ((with_reducible apply Takes.cons); focus (first | (with_reducible (repeat (first | exact Take.here | apply Take.there)); done) | (repeat (first | exact Take.here | apply Take.there))))); exact Takes.nil) ?_
  rintro ⟨⟩ -
  rw [show chzK (newX 1 1 1 1) [0] = 0 from by rw [chzK, if_pos hgl, bs_zero]; rfl, show chzE (newX 1 1 1 1) [0] = 0 from by rw [chzE, if_pos hgl]]
  try simp only [List.cons_append, List.nil_append]
  refine ag_nil ?_
  refine q_move rfl rfl rfl rfl ?_
  refine q_extract rfl rfl rfl rfl rfl ?_
  refine q_extract rfl rfl rfl rfl rfl ?_
  refine q_assign rfl rfl rfl rfl ?_
  refine q_assign rfl rfl rfl rfl ?_
  refine r_done ?_
  refine s_keep [3, 5, 6] (e' := [(3, _), (5, _), (6, _)]) rfl ?_
  refine k_then_n ?_
  refine c_seq ?_
  refine c_plain (.q 0 (.q 1 (.q 2 (.q 3 (.q 4 (.q 5 (.q 6 (.q 7 ((.l 8 [] (.q 9 (.q 10 (.q 11 (.done)))))))))))))) (by kernel_rfl) ?_
  refine q_move rfl rfl rfl rfl ?_
  refine q_int rfl rfl rfl rfl rfl (b_eql _ _ _ _) ?_
  refine s_eq 41 rfl (v' := .bool true) (by rfl) ?_
  refine q_move rfl rfl rfl rfl ?_
  refine q_move rfl rfl rfl rfl ?_
  refine q_int rfl rfl rfl rfl rfl (b_eql _ _ _ _) ?_
  refine s_eq 44 rfl (v' := .bool true) (by rfl) ?_
  refine q_pick_t rfl rfl rfl rfl rfl ?_
  refine q_move rfl rfl rfl rfl ?_
  refine q_move rfl rfl rfl rfl ?_
  have sp_8 := made_spec nb (chzX (newX 1 1 1 1) [0]) (chz_inv hci _).ok
  refine l_call rfl rfl rfl rfl rfl rfl Try.call28 (sp_8) (by (repeat ((with_reducible apply Takes.cons); focus (first | (with_reducible (repeat (first | exact Take.here | apply Take.there)); done) | (repeat (first | exact Take.here | apply Take.there))))); exact Takes.nil) ?_
  rintro ⟨⟩ -
  rw [show (chzX (newX 1 1 1 1) [0]).m = 1 from by rw [chz_m hgl]; rfl]
  try simp only [List.cons_append, List.nil_append]
  refine ag_nil ?_
  refine q_int rfl rfl rfl rfl rfl (b_eql _ _ _ _) ?_
  refine s_eq 49 rfl (v' := .bool true) (by rfl) ?_
  refine q_pick_t rfl rfl rfl rfl rfl ?_
  refine q_assign rfl rfl rfl rfl ?_
  refine r_done ?_
  refine s_keep [0] (e' := [(0, _)]) rfl ?_
  refine k_then_n ?_
  refine c_ret ?_
  refine ret1 rfl rfl (()) (by first | rfl | (first | rfl | (congr 1; done) | (congr 1 <;> first | rfl | omega | (simp; done) | (simp; omega)))) (by trivial) ?_
  (repeat ((with_reducible apply Takes.cons); focus (first | (with_reducible (repeat (first | exact Take.here | apply Take.there)); done) | (repeat (first | exact Take.here | apply Take.there))))); (repeat (first | exact Takes.nil | exact Takes.self | refine takes_drop2 ?_))

theorem begins_spec (s z n : Int) (hz0 : 0 ≤ z) (hz1 : z < 4294967296) : Spec Try.prog 6 [.int .u64 s, .int .u32 z, .int .i64 n] [] (fun (_ : Unit) => .bool true) (fun _ => True) (fun _ => []) := by
  refine spec_mk (n := 118) Try.func6 rfl rfl rfl ?_
  intro Γ w0
  simp only [argE, List.cons_append, List.nil_append, Nat.zero_add, Nat.reduceAdd]
  refine c_seq ?_
  refine c_plain (.q 0 (.done)) (by kernel_rfl) ?_
  refine q_assign rfl rfl rfl rfl ?_
  refine r_done ?_
  refine k_then_n ?_
  refine c_seq ?_
  refine c_plain (.q 0 (.q 1 (.q 2 (.q 3 (.q 4 (.done)))))) (by kernel_rfl) ?_
  refine q_move rfl rfl rfl rfl ?_
  refine q_int rfl rfl rfl rfl rfl (b_remT _ (by decide)) ?_
  have htm := tm_rng n (m := 200) (by decide)
  obtain ⟨q, hq⟩ := Int.eq_ofNat_of_zero_le (Int.emod_nonneg (Int.tmod n 200 + 200) (by decide : (200 : Int) ≠ 0))
  have hq2 : (q : Int) < 200 := by omega
  refine q_int rfl rfl rfl rfl rfl (b_add' _ (by (first | exact fits_i64 (by omega) (by omega) | exact fits_u64 (by omega) (by omega) | exact fits_u32 (by omega) (by omega) | exact fits_u8 (by omega) (by omega)))) ?_
  refine q_int rfl rfl rfl rfl rfl (b_rem _ (by omega) (by omega)) ?_
  refine s_eq 18 rfl (v' := .int .i64 ((q : Nat) : Int)) (by congr 1) ?_
  refine q_assign rfl rfl rfl rfl ?_
  refine r_done ?_
  refine s_keep [0, 1, 7] (e' := [(0, _), (1, _), (7, _)]) rfl ?_
  refine k_then_n ?_
  refine c_seq ?_
  refine c_plain (.q 0 (.q 1 ((.l 2 [] (.q 3 (.q 4 (.q 5 (.q 6 (.q 7 (.done)))))))))) (by kernel_rfl) ?_
  refine q_move rfl rfl rfl rfl ?_
  refine q_move rfl rfl rfl rfl ?_
  have sp_2 := draw_spec s ((q : Nat) : Int)
  refine l_call rfl rfl rfl rfl rfl rfl Try.call16 (sp_2) (by (repeat ((with_reducible apply Takes.cons); focus (first | (with_reducible (repeat (first | exact Take.here | apply Take.there)); done) | (repeat (first | exact Take.here | apply Take.there))))); exact Takes.nil) ?_
  rintro ⟨aa, ac⟩ -
  rw [drL_nat _ _ (by omega), lenE_nat (by omega), dr_len]
  try simp only [List.cons_append, List.nil_append]
  refine ag_nil ?_
  refine q_move rfl rfl rfl rfl ?_
  refine q_extract rfl rfl rfl rfl rfl ?_
  refine q_extract rfl rfl rfl rfl rfl ?_
  refine q_assign rfl rfl rfl rfl ?_
  refine q_assign rfl rfl rfl rfl ?_
  refine r_done ?_
  refine s_keep [0, 1, 7, 8, 9] (e' := [(0, _), (1, _), (7, _), (8, _), (9, _)]) rfl ?_
  refine k_then_n ?_
  refine c_seq ?_
  refine c_plain (.q 0 (.q 1 (.q 2 ((.l 3 [] (.q 4 (.q 5 (.q 6 (.q 7 (.q 8 (.done))))))))))) (by kernel_rfl) ?_
  refine q_move rfl rfl rfl rfl ?_
  refine q_move rfl rfl rfl rfl ?_
  refine q_int rfl rfl rfl rfl rfl (b_add' _ (by (first | exact fits_i64 (by omega) (by omega) | exact fits_u64 (by omega) (by omega) | exact fits_u32 (by omega) (by omega) | exact fits_u8 (by omega) (by omega)))) ?_
  refine s_eq 28 rfl (v' := .int .i64 ((q + 7 : Nat) : Int)) rfl ?_
  have sp_4 := draw_spec s ((q + 7 : Nat) : Int)
  refine l_call rfl rfl rfl rfl rfl rfl Try.call16 (sp_4) (by (repeat ((with_reducible apply Takes.cons); focus (first | (with_reducible (repeat (first | exact Take.here | apply Take.there)); done) | (repeat (first | exact Take.here | apply Take.there))))); exact Takes.nil) ?_
  rintro ⟨ba, bc⟩ -
  rw [drL_nat _ _ (by omega), lenE_nat (by omega), dr_len]
  try simp only [List.cons_append, List.nil_append]
  refine ag_nil ?_
  refine q_move rfl rfl rfl rfl ?_
  refine q_extract rfl rfl rfl rfl rfl ?_
  refine q_extract rfl rfl rfl rfl rfl ?_
  refine q_assign rfl rfl rfl rfl ?_
  refine q_assign rfl rfl rfl rfl ?_
  refine r_done ?_
  refine s_keep [0, 1, 7, 8, 9, 10, 11] (e' := [(0, _), (1, _), (7, _), (8, _), (9, _), (10, _), (11, _)]) rfl ?_
  refine k_then_n ?_
  refine c_seq ?_
  refine c_plain (.q 0 (.q 1 (.q 2 ((.l 3 [] (.q 4 (.q 5 (.q 6 (.q 7 (.q 8 (.done))))))))))) (by kernel_rfl) ?_
  refine q_move rfl rfl rfl rfl ?_
  refine q_move rfl rfl rfl rfl ?_
  refine q_move rfl rfl rfl rfl ?_
  have sp_5 := belows_spec s z (q : Int) hz0 hz1
  refine l_call rfl rfl rfl rfl rfl rfl Try.call18 (sp_5) (by (repeat ((with_reducible apply Takes.cons); focus (first | (with_reducible (repeat (first | exact Take.here | apply Take.there)); done) | (repeat (first | exact Take.here | apply Take.there))))); exact Takes.nil) ?_
  rintro ⟨ca, cc⟩ -
  try simp only [List.cons_append, List.nil_append]
  refine ag_nil ?_
  refine q_move rfl rfl rfl rfl ?_
  refine q_extract rfl rfl rfl rfl rfl ?_
  refine q_extract rfl rfl rfl rfl rfl ?_
  refine q_assign rfl rfl rfl rfl ?_
  refine q_assign rfl rfl rfl rfl ?_
  refine r_done ?_
  refine s_keep [1, 7, 8, 9, 10, 11, 12, 13] (e' := [(1, _), (7, _), (8, _), (9, _), (10, _), (11, _), (12, _), (13, _)]) rfl ?_
  refine k_then_n ?_
  refine c_seq ?_
  refine c_seq ?_
  refine c_plain (.q 0 (.q 1 (.q 2 (.q 3 (.q 4 (.q 5 (.q 6 (.q 7 (.q 8 (.q 9 (.q 10 (.q 11 (.q 12 (.q 13 (.q 14 (.q 15 (.q 16 (.q 17 (.q 18 (.q 19 (.q 20 (.q 21 (.q 22 (.q 23 ((.l 24 [] (.q 25 (.q 26 (.done))))))))))))))))))))))))))))) (by kernel_rfl) ?_
  refine q_move rfl rfl rfl rfl ?_
  refine q_int rfl rfl rfl rfl rfl (b_neq _ _ _ _) ?_
  refine q_move rfl rfl rfl rfl ?_
  refine s_bool_p 41 rfl (fun g_6 => by exfalso; first | omega | contradiction | (simp_all; done) | (simp_all; omega)) (fun g_6 => ?_)
  refine q_move rfl rfl rfl rfl ?_
  refine q_int rfl rfl rfl rfl rfl (b_neq _ _ _ _) ?_
  refine q_pick_f rfl rfl rfl rfl rfl ?_
  refine q_move rfl rfl rfl rfl ?_
  refine s_bool_p 45 rfl (fun g_7 => by exfalso; first | omega | contradiction | (simp_all; done) | (simp_all; omega)) (fun g_7 => ?_)
  refine q_move rfl rfl rfl rfl ?_
  refine q_len rfl rfl rfl rfl Try.underlying24 ?_
  refine q_move rfl rfl rfl rfl ?_
  refine q_int rfl rfl rfl rfl rfl (b_neq _ _ _ _) ?_
  refine q_pick_f rfl rfl rfl rfl rfl ?_
  refine q_move rfl rfl rfl rfl ?_
  refine s_bool_p 51 rfl (fun g_8 => by exfalso; first | omega | contradiction | (simp_all; done) | (simp_all; omega)) (fun g_8 => ?_)
  refine q_move rfl rfl rfl rfl ?_
  refine q_len rfl rfl rfl rfl Try.underlying24 ?_
  refine q_move rfl rfl rfl rfl ?_
  refine q_int rfl rfl rfl rfl rfl (b_add' _ (by (first | exact fits_i64 (by omega) (by omega) | exact fits_u64 (by omega) (by omega) | exact fits_u32 (by omega) (by omega) | exact fits_u8 (by omega) (by omega)))) ?_
  refine q_int rfl rfl rfl rfl rfl (b_neq _ _ _ _) ?_
  refine q_pick_f rfl rfl rfl rfl rfl ?_
  refine q_move rfl rfl rfl rfl ?_
  refine s_bool_p 58 rfl (fun g_9 => by exfalso; first | omega | contradiction | (simp_all; done) | (simp_all; omega)) (fun g_9 => ?_)
  refine q_move rfl rfl rfl rfl ?_
  refine q_move rfl rfl rfl rfl ?_
  refine q_move rfl rfl rfl rfl ?_
  refine s_take (A := own 1 encW ba bc (dr (fun x => x) s (q + 7))) (by with_reducible (repeat (first | exact Take.here | apply Take.there))) ?_
  refine own_fc fun f_10a f_10b f_10c => ?_
  refine q_cut_hi (h' := q) rfl rfl rfl rfl rfl Try.underlying24 Try.sizeOf25 (by first | rfl | omega) (by first | omega | (have hcap_ := f_10a; simp only [dr_len, List.length_append, List.length_map, List.length_replicate, List.length_cons, List.length_nil] at hcap_; omega)) ?_
  refine s_take (A := own 1 encW aa ac (dr (fun x => x) s q)) (by with_reducible (repeat (first | exact Take.here | apply Take.there))) ?_
  refine own_fc fun f_11a f_11b f_11c => ?_
  refine s_heap (fun _ h => Bun.fold ((by (repeat ((with_reducible apply Takes.cons); focus (first | (with_reducible (repeat (first | exact Take.here | apply Take.there)); done) | (repeat (first | exact Take.here | apply Take.there))))); exact Takes.nil : Takes _ [own 1 encW aa ac (dr (fun x => x) s q), own 1 encW ba bc (dr (fun x => x) s (q + 7))] _) _ h)) ?_
  refine l_call rfl rfl rfl rfl rfl rfl Try.call13 (same_spec (dr (fun x => x) s q) ((dr (fun x => x) s (q + 7)).take q) aa ba q q ac bc (Bun [own 1 encW aa ac (dr (fun x => x) s q), own 1 encW ba bc (dr (fun x => x) s (q + 7))]) (by exact dr_len _ _ _) (rds_bun (List.mem_cons_self) (rds_own encW_len (fun h => (f_11b h).1) f_11c)) (by rw [List.length_take, dr_len]; omega) (rds_bun (List.mem_cons_of_mem _ (List.mem_cons_self)) (rds_take (rds_own encW_len (fun h => (f_10b h).1) f_10c) encW_len q)) (by omega)) (by (repeat ((with_reducible apply Takes.cons); focus (first | (with_reducible (repeat (first | exact Take.here | apply Take.there)); done) | (repeat (first | exact Take.here | apply Take.there))))); exact Takes.nil) ?_
  rintro ⟨⟩ -
  try simp only [List.cons_append, List.nil_append]
  refine s_take (A := Bun [own 1 encW aa ac (dr (fun x => x) s q), own 1 encW ba bc (dr (fun x => x) s (q + 7))]) (by with_reducible (repeat (first | exact Take.here | apply Take.there))) ?_
  refine s_bun ?_
  try simp only [List.cons_append, List.nil_append]
  try simp only [List.cons_append, List.nil_append]
  refine ag_nil ?_
  refine q_not rfl rfl rfl rfl ?_
  refine q_pick_f rfl rfl rfl rfl rfl ?_
  refine r_done ?_
  refine s_keep [1, 7, 8, 12, 13, 65] (e' := [(1, _), (7, _), (8, _), (12, _), (13, _), (65, _)]) rfl ?_
  refine k_then_n ?_
  refine c_cond_np rfl (fun hs => by exfalso; exact hs (dr_take _ _ q 7).symm) (fun hs => ?_)
  refine c_skip ?_
  refine k_then_n ?_
  refine c_seq ?_
  refine c_seq ?_
  refine c_plain (.q 0 (.q 1 (.done))) (by kernel_rfl) ?_
  refine q_move rfl rfl rfl rfl ?_
  refine q_int rfl rfl rfl rfl rfl (b_eql _ _ _ _) ?_
  refine r_done ?_
  refine k_then_n ?_
  refine c_cond_p rfl (fun hz => ?_) (fun hz => ?_)
  · skip
    subst hz
    refine c_seq ?_
    refine c_plain (.q 0 (.q 1 (.q 2 (.q 3 (.q 4 (.q 5 (.q 6 (.q 7 ((.l 8 [] (.q 9 (.q 10 (.done))))))))))))) (by kernel_rfl) ?_
    refine q_move rfl rfl rfl rfl ?_
    refine q_int rfl rfl rfl rfl rfl (b_eql _ _ _ _) ?_
    refine s_eq 69 rfl (v' := .bool true) (by simp [blE]) ?_
    refine q_move rfl rfl rfl rfl ?_
    refine q_move rfl rfl rfl rfl ?_
    refine q_len rfl rfl rfl rfl Try.underlying24 ?_
    refine q_int rfl rfl rfl rfl rfl (b_eql _ _ _ _) ?_
    refine s_eq 73 rfl (v' := .bool true) (by simp [blL]) ?_
    refine q_pick_t rfl rfl rfl rfl rfl ?_
    refine q_move rfl rfl rfl rfl ?_
    refine l_call rfl rfl rfl rfl rfl rfl Try.call15 (known_spec) (by (repeat ((with_reducible apply Takes.cons); focus (first | (with_reducible (repeat (first | exact Take.here | apply Take.there)); done) | (repeat (first | exact Take.here | apply Take.there))))); exact Takes.nil) ?_
    rintro ⟨⟩ -
    try simp only [List.cons_append, List.nil_append]
    refine ag_nil ?_
    refine q_pick_t rfl rfl rfl rfl rfl ?_
    refine q_assign rfl rfl rfl rfl ?_
    refine r_done ?_
    refine s_keep [6] (e' := [(6, _)]) rfl ?_
    refine k_then_n ?_
    refine c_ret ?_
    refine k_then_ret ?_
    refine ret1 rfl rfl (()) (by first | rfl | (first | rfl | (congr 1; done) | (congr 1 <;> first | rfl | omega | (simp only [dr_len]; done) | (simp only [dr_len]; omega) | (simp [dr_len]; done) | (simp [dr_len]; omega)))) (by trivial) ?_
    (repeat ((with_reducible apply Takes.cons); focus (first | (with_reducible (repeat (first | exact Take.here | apply Take.there)); done) | (repeat (first | exact Take.here | apply Take.there))))); (repeat (first | exact Takes.nil | exact Takes.self | refine takes_drop2 ?_))
  · skip
    rw [show blL z s (q : Int) = dr (blw z) s q from by rw [blL, if_neg hz, drL_nat _ _ (by omega)]]
    refine s_eq 13 rfl (v' := .int .i64 0) (by rw [blE, if_neg hz, lenE_nat (by omega)]) ?_
    have hdl := dr_len (blw z) s q
    have hda := dr_len (fun x => x) s q
    refine c_skip ?_
    refine k_then_n ?_
    refine c_seq ?_
    refine c_seq ?_
    refine c_plain (.q 0 (.done)) (by kernel_rfl) ?_
    refine q_assign rfl rfl rfl rfl ?_
    refine r_done ?_
    refine k_then_n ?_
    refine c_block ?_
    refine c_loop2 (α := Nat) (fun (i : Nat) => i ≤ q) (fun (i : Nat) => [(14, .int .i64 ((i : Nat) : Int))]) (fun (i : Nat) => []) (fun (i : Nat) => q - i) [1, 7, 8, 12, 13] (er := [(1, _), (7, _), (8, _), (12, _), (13, _)]) rfl (0) ?_ (by exact ⟨rfl, trivial⟩) (by (try dsimp only); (try simp only [Nat.add_zero, Nat.zero_add]); (repeat ((with_reducible apply Takes.cons); focus (first | (with_reducible (repeat (first | exact Take.here | apply Take.there)); done) | (repeat (first | exact Take.here | apply Take.there))))); exact Takes.nil) ?_
    · exact Nat.zero_le _
    rintro i hle_i
    try simp only [List.cons_append, List.nil_append]
    have hnr := num_rng s i
    refine c_seq ?_
    refine c_seq ?_
    refine c_plain (.q 0 (.q 1 (.q 2 (.q 3 (.done))))) (by kernel_rfl) ?_
    refine q_move rfl rfl rfl rfl ?_
    refine q_move rfl rfl rfl rfl ?_
    refine q_len rfl rfl rfl rfl Try.underlying24 ?_
    refine q_int rfl rfl rfl rfl rfl (b_lss _ _ _ _) ?_
    refine r_done ?_
    refine k_then_n ?_
    refine c_cond_p rfl (fun hlt => ?_) (fun hlt => ?_)
    · skip
      have hbr : 0 ≤ blw z (num s i) ∧ blw z (num s i) < z := blw_rng (s := sk s i) (by omega) (by omega)
      have hm := mul_rng (a := num s i) (b := z) hnr.1 hnr.2 hz0 (by omega)
      refine c_skip ?_
      refine k_then_n ?_
      refine c_seq ?_
      refine c_block ?_
      refine c_seq ?_
      refine c_draw rfl (.q 0 (.q 1 (.q 2 (.q 3 (.q 4 (.q 5 (.q 6 (.q 7 (.q 8 (.q 9 (.q 10 (.q 11 (.q 12 (.q 13 (.q 14 (.q 15 (.q 16 (.q 17 (.q 18 (.q 19 (.q 20 (.q 21 (.q 22 (.done)))))))))))))))))))))))) (by kernel_rfl) ?_
      refine q_move rfl rfl rfl rfl ?_
      refine q_move rfl rfl rfl rfl ?_
      have hk_12 : (dr (blw z) s q)[i]? = some (blw z (num s i)) := dr_get _ _ (by omega)
      refine q_idxO (sz := 0) (k := i) (enc := encW) (xs := (dr (blw z) s q)) rfl rfl rfl rfl rfl Try.underlying24 Try.sizeOf25 hk_12 (by first | rfl | omega) (by omega) (by with_reducible (repeat (first | exact Take.here | apply Take.there))) ?_
      intro ib86 io86 ha86 hl86 hc86
      refine q_load_O (j := 0) (k' := i) (enc := encW) (off := io86) rfl rfl rfl rfl Try.isAgg25 ha86 encW_len hk_12 (by with_reducible (repeat (first | exact Take.here | apply Take.there))) (by first | rfl | exact (Nat.add_zero _).symm | omega) (by rfl) ?_
      refine q_move rfl rfl rfl rfl ?_
      refine q_int rfl rfl rfl rfl rfl (b_geq _ _ _ _) ?_
      refine q_move rfl rfl rfl rfl ?_
      refine s_bool_p 90 rfl (fun hg => by exfalso; omega) (fun hg => ?_)
      refine q_move rfl rfl rfl rfl ?_
      refine q_move rfl rfl rfl rfl ?_
      refine q_idxO (sz := 0) (k := i) (enc := encW) (xs := (dr (blw z) s q)) rfl rfl rfl rfl rfl Try.underlying24 Try.sizeOf25 hk_12 (by first | rfl | omega) (by omega) (by with_reducible (repeat (first | exact Take.here | apply Take.there))) ?_
      intro ib93 io93 ha93 hl93 hc93
      refine q_load_O (j := 0) (k' := i) (enc := encW) (off := io93) rfl rfl rfl rfl Try.isAgg25 ha93 encW_len hk_12 (by with_reducible (repeat (first | exact Take.here | apply Take.there))) (by first | rfl | exact (Nat.add_zero _).symm | omega) (by rfl) ?_
      refine q_move rfl rfl rfl rfl ?_
      refine q_move rfl rfl rfl rfl ?_
      have hk_13 : (dr (fun x => x) s q)[i]? = some (num s i) := dr_get _ _ (by omega)
      refine q_idxO (sz := 0) (k := i) (enc := encW) (xs := (dr (fun x => x) s q)) rfl rfl rfl rfl rfl Try.underlying24 Try.sizeOf25 hk_13 (by first | rfl | omega) (by omega) (by with_reducible (repeat (first | exact Take.here | apply Take.there))) ?_
      intro ib97 io97 ha97 hl97 hc97
      refine q_load_O (j := 0) (k' := i) (enc := encW) (off := io97) rfl rfl rfl rfl Try.isAgg25 ha97 encW_len hk_13 (by with_reducible (repeat (first | exact Take.here | apply Take.there))) (by first | rfl | exact (Nat.add_zero _).symm | omega) (by rfl) ?_
      refine q_conv' rfl rfl rfl rfl Try.underlying34 Try.underlying25 (by (first | exact fits_i64 (by omega) (by omega) | exact fits_u64 (by omega) (by omega) | exact fits_u32 (by omega) (by omega) | exact fits_u8 (by omega) (by omega))) ?_
      refine q_move rfl rfl rfl rfl ?_
      refine q_conv' rfl rfl rfl rfl Try.underlying34 Try.underlying25 (by (first | exact fits_i64 (by omega) (by omega) | exact fits_u64 (by omega) (by omega) | exact fits_u32 (by omega) (by omega) | exact fits_u8 (by omega) (by omega))) ?_
      refine q_int rfl rfl rfl rfl rfl (b_mul' _ (by (first | exact fits_i64 (by omega) (by omega) | exact fits_u64 (by omega) (by omega) | exact fits_u32 (by omega) (by omega) | exact fits_u8 (by omega) (by omega)))) ?_
      refine q_int rfl rfl rfl rfl rfl (b_shrL _ 32 4294967296 rfl (by decide) rfl) ?_
      refine q_conv' rfl rfl rfl rfl Try.underlying25 Try.underlying34 (by (first | exact fits_i64 (by omega) (by omega) | exact fits_u64 (by omega) (by omega) | exact fits_u32 (by omega) (by omega) | exact fits_u8 (by omega) (by omega))) ?_
      refine q_int rfl rfl rfl rfl rfl (b_neq _ _ _ _) ?_
      refine q_pick_f rfl rfl rfl rfl rfl ?_
      refine r_done ?_
      refine s_keep [1, 7, 8, 12, 13, 14, 91, 92, 93, 94, 95, 96, 97, 98, 99, 100, 101, 102, 103, 104, 105, 106] (e' := [(1, _), (7, _), (8, _), (12, _), (13, _), (14, _), (91, _), (92, _), (93, _), (94, _), (95, _), (96, _), (97, _), (98, _), (99, _), (100, _), (101, _), (102, _), (103, _), (104, _), (105, _), (106, _)]) rfl ?_
      refine k_then_n ?_
      refine c_cond_p rfl (fun hg => by exfalso; exact hg rfl) (fun hg => ?_)
      refine c_skip ?_
      refine k_blk_n ?_
      refine k_then_n ?_
      refine c_plain (.q 0 (.q 1 (.q 2 (.done)))) (by kernel_rfl) ?_
      refine q_move rfl rfl rfl rfl ?_
      refine q_int rfl rfl rfl rfl rfl (b_add' _ (by (first | exact fits_i64 (by omega) (by omega) | exact fits_u64 (by omega) (by omega) | exact fits_u32 (by omega) (by omega) | exact fits_u8 (by omega) (by omega)))) ?_
      refine q_assign rfl rfl rfl rfl ?_
      refine r_done ?_
      refine k_then_n ?_
      refine loop_next (x := i) (i + 1) ?_ ?_ ?_ ?_
      · exact by show i + 1 ≤ q; omega
      · show q - (i + 1) < q - i; omega
      · exact ⟨rfl, rfl, rfl, rfl, rfl, rfl, trivial⟩
      · (try simp only [List.cons_append, List.nil_append]); (repeat ((with_reducible apply Takes.cons); focus (first | (with_reducible (repeat (first | exact Take.here | apply Take.there)); done) | (repeat (first | exact Take.here | apply Take.there))))); (repeat (first | exact Takes.nil | exact Takes.self | refine takes_drop2 ?_))
    · skip
      refine c_exit ?_
      refine k_then_exit ?_
      refine k_then_exit ?_
      refine k_blk_here ?_
      refine k_then_n ?_
      refine c_seq ?_
      refine c_plain (.q 0 (.q 1 (.q 2 (.q 3 (.q 4 (.q 5 (.q 6 (.q 7 (.q 8 ((.l 9 [] (.q 10 (.q 11 (.done)))))))))))))) (by kernel_rfl) ?_
      refine q_move rfl rfl rfl rfl ?_
      refine q_int rfl rfl rfl rfl rfl (b_eql _ _ _ _) ?_
      refine s_eq 108 rfl (v' := .bool true) (by rfl) ?_
      refine q_move rfl rfl rfl rfl ?_
      refine q_move rfl rfl rfl rfl ?_
      refine q_len rfl rfl rfl rfl Try.underlying24 ?_
      refine q_move rfl rfl rfl rfl ?_
      refine q_int rfl rfl rfl rfl rfl (b_eql _ _ _ _) ?_
      refine s_eq 113 rfl (v' := .bool true) (by rw [hdl]; simp) ?_
      refine q_pick_t rfl rfl rfl rfl rfl ?_
      refine q_move rfl rfl rfl rfl ?_
      refine l_call rfl rfl rfl rfl rfl rfl Try.call15 (known_spec) (by (repeat ((with_reducible apply Takes.cons); focus (first | (with_reducible (repeat (first | exact Take.here | apply Take.there)); done) | (repeat (first | exact Take.here | apply Take.there))))); exact Takes.nil) ?_
      rintro ⟨⟩ -
      try simp only [List.cons_append, List.nil_append]
      refine ag_nil ?_
      refine q_pick_t rfl rfl rfl rfl rfl ?_
      refine q_assign rfl rfl rfl rfl ?_
      refine r_done ?_
      refine s_keep [6] (e' := [(6, _)]) rfl ?_
      refine k_then_n ?_
      refine c_ret ?_
      refine ret1 rfl rfl (()) (by first | rfl | (first | rfl | (congr 1; done) | (congr 1 <;> first | rfl | omega | (simp only [dr_len]; done) | (simp only [dr_len]; omega) | (simp [dr_len]; done) | (simp [dr_len]; omega)))) (by trivial) ?_
      (repeat ((with_reducible apply Takes.cons); focus (first | (with_reducible (repeat (first | exact Take.here | apply Take.there)); done) | (repeat (first | exact Take.here | apply Take.there))))); (repeat (first | exact Takes.nil | exact Takes.self | refine takes_drop2 ?_))

theorem cnone_n_spec : Spec Try.prog 47 [.pointer none] [] (fun (_ : Unit) => .bool true) (fun _ => True) (fun _ => []) := by
  refine spec_mk (n := 12) Try.func47 rfl rfl rfl ?_
  intro Γ w0
  simp only [argE, List.cons_append, List.nil_append, Nat.zero_add, Nat.reduceAdd]
  refine c_seq ?_
  refine c_plain (.q 0 (.done)) (by kernel_rfl) ?_
  refine q_assign rfl rfl rfl rfl ?_
  refine r_done ?_
  refine k_then_n ?_
  refine c_seq ?_
  refine c_plain (.q 0 (.q 1 (.q 2 (.q 3 (.q 4 (.q 5 (.q 6 (.q 7 (.q 8 (.q 9 (.done))))))))))) (by kernel_rfl) ?_
  refine q_move rfl rfl rfl rfl ?_
  refine q_eq_nil rfl rfl rfl rfl Try.underlying50 ?_
  refine s_eq 4 rfl (v' := .bool true) rfl ?_
  refine q_move rfl rfl rfl rfl ?_
  refine q_skip rfl rfl rfl rfl ?_
  refine q_skip rfl rfl rfl rfl ?_
  refine q_skip rfl rfl rfl rfl ?_
  refine q_skip rfl rfl rfl rfl ?_
  refine q_skip rfl rfl rfl rfl ?_
  refine q_pick_t rfl rfl rfl rfl rfl ?_
  refine q_assign rfl rfl rfl rfl ?_
  refine r_done ?_
  refine s_keep [2] (e' := [(2, _)]) rfl ?_
  refine k_then_n ?_
  refine c_ret ?_
  refine ret1 rfl rfl (()) (by first | rfl | (first | rfl | (congr 1; done) | (congr 1 <;> first | rfl | omega | (simp; done) | (simp; omega)))) (by trivial) ?_
  (repeat ((with_reducible apply Takes.cons); focus (first | (with_reducible (repeat (first | exact Take.here | apply Take.there)); done) | (repeat (first | exact Take.here | apply Take.there))))); (repeat (first | exact Takes.nil | exact Takes.self | refine takes_drop2 ?_))

theorem choose_n_spec (ao : Option Addr) (n c : Nat) : Spec Try.prog 26 [.pointer none, .slice ao n c] [] (fun (_ : Unit) => .tuple #[.int .u32 0, .int .i64 1]) (fun _ => True) (fun _ => []) := by
  refine spec_mk (n := 105) Try.func26 rfl rfl rfl ?_
  intro Γ w0
  simp only [argE, List.cons_append, List.nil_append, Nat.zero_add, Nat.reduceAdd]
  refine c_seq ?_
  refine c_plain (.q 0 (.q 1 (.done))) (by kernel_rfl) ?_
  refine q_assign rfl rfl rfl rfl ?_
  refine q_assign rfl rfl rfl rfl ?_
  refine r_done ?_
  refine k_then_n ?_
  refine c_seq ?_
  refine c_seq ?_
  refine c_plain (.q 0 ((.l 1 [] (.done)))) (by kernel_rfl) ?_
  refine q_move rfl rfl rfl rfl ?_
  refine l_call rfl rfl rfl rfl rfl rfl Try.call47 (cnone_n_spec) (by (repeat ((with_reducible apply Takes.cons); focus (first | (with_reducible (repeat (first | exact Take.here | apply Take.there)); done) | (repeat (first | exact Take.here | apply Take.there))))); exact Takes.nil) ?_
  rintro ⟨⟩ -
  try simp only [List.cons_append, List.nil_append]
  refine ag_nil ?_
  refine r_done ?_
  refine k_then_n ?_
  refine c_cond_t rfl ?_
  refine c_seq ?_
  refine c_plain (.q 0 (.q 1 (.done))) (by kernel_rfl) ?_
  refine q_assign rfl rfl rfl rfl ?_
  refine q_assign rfl rfl rfl rfl ?_
  refine r_done ?_
  refine s_keep [4, 5] (e' := [(4, _), (5, _)]) rfl ?_
  refine k_then_n ?_
  refine c_ret ?_
  refine k_then_ret ?_
  refine ret2 rfl rfl rfl (()) (by first | rfl | (first | rfl | (congr 1; done) | (congr 1 <;> first | rfl | omega | (simp; done) | (simp; omega)))) (by trivial) ?_
  (repeat ((with_reducible apply Takes.cons); focus (first | (with_reducible (repeat (first | exact Take.here | apply Take.there)); done) | (repeat (first | exact Take.here | apply Take.there))))); (repeat (first | exact Takes.nil | exact Takes.self | refine takes_drop2 ?_))

theorem order_n_spec : Spec Try.prog 25 [.pointer none] [] (fun (_ : Unit) => .slice none 0 0) (fun _ => True) (fun _ => []) := by
  refine spec_mk (n := 27) Try.func25 rfl rfl rfl ?_
  intro Γ w0
  simp only [argE, List.cons_append, List.nil_append, Nat.zero_add, Nat.reduceAdd]
  refine c_seq ?_
  refine c_plain (.q 0 (.done)) (by kernel_rfl) ?_
  refine q_assign rfl rfl rfl rfl ?_
  refine r_done ?_
  refine k_then_n ?_
  refine c_seq ?_
  refine c_seq ?_
  refine c_plain (.q 0 ((.l 1 [] (.done)))) (by kernel_rfl) ?_
  refine q_move rfl rfl rfl rfl ?_
  refine l_call rfl rfl rfl rfl rfl rfl Try.call47 (cnone_n_spec) (by (repeat ((with_reducible apply Takes.cons); focus (first | (with_reducible (repeat (first | exact Take.here | apply Take.there)); done) | (repeat (first | exact Take.here | apply Take.there))))); exact Takes.nil) ?_
  rintro ⟨⟩ -
  try simp only [List.cons_append, List.nil_append]
  refine ag_nil ?_
  refine r_done ?_
  refine k_then_n ?_
  refine c_cond_t rfl ?_
  refine c_seq ?_
  refine c_plain (.q 0 (.done)) (by kernel_rfl) ?_
  refine q_assign rfl rfl rfl rfl ?_
  refine r_done ?_
  refine k_then_n ?_
  refine c_ret ?_
  refine k_then_ret ?_
  refine ret1 rfl rfl (()) (by first | rfl | (first | rfl | (congr 1; done) | (congr 1 <;> first | rfl | omega | (simp; done) | (simp; omega)))) (by trivial) ?_
  (repeat ((with_reducible apply Takes.cons); focus (first | (with_reducible (repeat (first | exact Take.here | apply Take.there)); done) | (repeat (first | exact Take.here | apply Take.there))))); (repeat (first | exact Takes.nil | exact Takes.self | refine takes_drop2 ?_))

theorem changes_n_spec : Spec Try.prog 23 [.pointer none] [] (fun (_ : Unit) => .slice none 0 0) (fun _ => True) (fun _ => []) := by
  refine spec_mk (n := 10) Try.func23 rfl rfl rfl ?_
  intro Γ w0
  simp only [argE, List.cons_append, List.nil_append, Nat.zero_add, Nat.reduceAdd]
  refine c_seq ?_
  refine c_plain (.q 0 (.done)) (by kernel_rfl) ?_
  refine q_assign rfl rfl rfl rfl ?_
  refine r_done ?_
  refine k_then_n ?_
  refine c_seq ?_
  refine c_seq ?_
  refine c_plain (.q 0 ((.l 1 [] (.done)))) (by kernel_rfl) ?_
  refine q_move rfl rfl rfl rfl ?_
  refine l_call rfl rfl rfl rfl rfl rfl Try.call47 (cnone_n_spec) (by (repeat ((with_reducible apply Takes.cons); focus (first | (with_reducible (repeat (first | exact Take.here | apply Take.there)); done) | (repeat (first | exact Take.here | apply Take.there))))); exact Takes.nil) ?_
  rintro ⟨⟩ -
  try simp only [List.cons_append, List.nil_append]
  refine ag_nil ?_
  refine r_done ?_
  refine k_then_n ?_
  refine c_cond_t rfl ?_
  refine c_seq ?_
  refine c_plain (.q 0 (.done)) (by kernel_rfl) ?_
  refine q_assign rfl rfl rfl rfl ?_
  refine r_done ?_
  refine k_then_n ?_
  refine c_ret ?_
  refine k_then_ret ?_
  refine ret1 rfl rfl (()) (by first | rfl | (first | rfl | (congr 1; done) | (congr 1 <;> first | rfl | omega | (simp; done) | (simp; omega)))) (by trivial) ?_
  (repeat ((with_reducible apply Takes.cons); focus (first | (with_reducible (repeat (first | exact Take.here | apply Take.there)); done) | (repeat (first | exact Take.here | apply Take.there))))); (repeat (first | exact Takes.nil | exact Takes.self | refine takes_drop2 ?_))

theorem made_n_spec : Spec Try.prog 28 [.pointer none] [] (fun (_ : Unit) => .int .i64 0) (fun _ => True) (fun _ => []) := by
  refine spec_mk (n := 9) Try.func28 rfl rfl rfl ?_
  intro Γ w0
  simp only [argE, List.cons_append, List.nil_append, Nat.zero_add, Nat.reduceAdd]
  refine c_seq ?_
  refine c_plain (.q 0 (.done)) (by kernel_rfl) ?_
  refine q_assign rfl rfl rfl rfl ?_
  refine r_done ?_
  refine k_then_n ?_
  refine c_seq ?_
  refine c_seq ?_
  refine c_plain (.q 0 ((.l 1 [] (.done)))) (by kernel_rfl) ?_
  refine q_move rfl rfl rfl rfl ?_
  refine l_call rfl rfl rfl rfl rfl rfl Try.call47 (cnone_n_spec) (by (repeat ((with_reducible apply Takes.cons); focus (first | (with_reducible (repeat (first | exact Take.here | apply Take.there)); done) | (repeat (first | exact Take.here | apply Take.there))))); exact Takes.nil) ?_
  rintro ⟨⟩ -
  try simp only [List.cons_append, List.nil_append]
  refine ag_nil ?_
  refine r_done ?_
  refine k_then_n ?_
  refine c_cond_t rfl ?_
  refine c_seq ?_
  refine c_plain (.q 0 (.done)) (by kernel_rfl) ?_
  refine q_assign rfl rfl rfl rfl ?_
  refine r_done ?_
  refine k_then_n ?_
  refine c_ret ?_
  refine k_then_ret ?_
  refine ret1 rfl rfl (()) (by first | rfl | (first | rfl | (congr 1; done) | (congr 1 <;> first | rfl | omega | (simp; done) | (simp; omega)))) (by trivial) ?_
  (repeat ((with_reducible apply Takes.cons); focus (first | (with_reducible (repeat (first | exact Take.here | apply Take.there)); done) | (repeat (first | exact Take.here | apply Take.there))))); (repeat (first | exact Takes.nil | exact Takes.self | refine takes_drop2 ?_))

theorem copy_n_spec : Spec Try.prog 34 [.pointer none] [] (fun (_ : Unit) => .pointer none) (fun _ => True) (fun _ => []) := by
  refine spec_mk (n := 25) Try.func34 rfl rfl rfl ?_
  intro Γ w0
  simp only [argE, List.cons_append, List.nil_append, Nat.zero_add, Nat.reduceAdd]
  refine c_seq ?_
  refine c_plain (.q 0 (.done)) (by kernel_rfl) ?_
  refine q_assign rfl rfl rfl rfl ?_
  refine r_done ?_
  refine k_then_n ?_
  refine c_seq ?_
  refine c_seq ?_
  refine c_plain (.q 0 ((.l 1 [] (.done)))) (by kernel_rfl) ?_
  refine q_move rfl rfl rfl rfl ?_
  refine l_call rfl rfl rfl rfl rfl rfl Try.call47 (cnone_n_spec) (by (repeat ((with_reducible apply Takes.cons); focus (first | (with_reducible (repeat (first | exact Take.here | apply Take.there)); done) | (repeat (first | exact Take.here | apply Take.there))))); exact Takes.nil) ?_
  rintro ⟨⟩ -
  try simp only [List.cons_append, List.nil_append]
  refine ag_nil ?_
  refine r_done ?_
  refine k_then_n ?_
  refine c_cond_t rfl ?_
  refine c_seq ?_
  refine c_plain (.q 0 (.done)) (by kernel_rfl) ?_
  refine q_assign rfl rfl rfl rfl ?_
  refine r_done ?_
  refine k_then_n ?_
  refine c_ret ?_
  refine k_then_ret ?_
  refine ret1 rfl rfl (()) (by first | rfl | (first | rfl | (congr 1; done) | (congr 1 <;> first | rfl | omega | (simp; done) | (simp; omega)))) (by trivial) ?_
  (repeat ((with_reducible apply Takes.cons); focus (first | (with_reducible (repeat (first | exact Take.here | apply Take.there)); done) | (repeat (first | exact Take.here | apply Take.there))))); (repeat (first | exact Takes.nil | exact Takes.self | refine takes_drop2 ?_))

theorem nothing_n_spec (ao : Option Addr) (n c : Nat) : Spec Try.prog 36 [.pointer none, .slice ao n c] [] (fun (_ : Unit) => .bool true) (fun _ => True) (fun _ => []) := by
  refine spec_mk (n := 41) Try.func36 rfl rfl rfl ?_
  intro Γ w0
  simp only [argE, List.cons_append, List.nil_append, Nat.zero_add, Nat.reduceAdd]
  refine c_seq ?_
  refine c_plain (.q 0 (.done)) (by kernel_rfl) ?_
  refine q_assign rfl rfl rfl rfl ?_
  refine r_done ?_
  refine k_then_n ?_
  refine c_seq ?_
  refine c_plain (.q 0 (.q 1 ((.l 2 [] (.q 3 (.q 4 (.q 5 (.q 6 (.q 7 (.done)))))))))) (by kernel_rfl) ?_
  refine q_move rfl rfl rfl rfl ?_
  refine q_move rfl rfl rfl rfl ?_
  have sp_1 := choose_n_spec ao n c
  refine l_call rfl rfl rfl rfl rfl rfl Try.call26 (sp_1) (by (repeat ((with_reducible apply Takes.cons); focus (first | (with_reducible (repeat (first | exact Take.here | apply Take.there)); done) | (repeat (first | exact Take.here | apply Take.there))))); exact Takes.nil) ?_
  rintro ⟨⟩ -
  try simp only [List.cons_append, List.nil_append]
  refine ag_nil ?_
  refine q_move rfl rfl rfl rfl ?_
  refine q_extract rfl rfl rfl rfl rfl ?_
  refine q_extract rfl rfl rfl rfl rfl ?_
  refine q_assign rfl rfl rfl rfl ?_
  refine q_assign rfl rfl rfl rfl ?_
  refine r_done ?_
  refine s_keep [0, 5, 6] (e' := [(0, _), (5, _), (6, _)]) rfl ?_
  refine k_then_n ?_
  refine c_seq ?_
  refine c_plain (.q 0 (.q 1 (.q 2 (.q 3 (.q 4 (.q 5 (.q 6 (.q 7 ((.l 8 [] (.q 9 (.q 10 (.q 11 (.q 12 (.q 13 ((.l 14 [] (.q 15 (.q 16 (.q 17 (.q 18 (.q 19 ((.l 20 [] (.q 21 (.q 22 (.q 23 (.q 24 ((.l 25 [] (.q 26 (.q 27 (.q 28 (.done)))))))))))))))))))))))))))))))))) (by kernel_rfl) ?_
  refine q_move rfl rfl rfl rfl ?_
  refine q_int rfl rfl rfl rfl rfl (b_eql _ _ _ _) ?_
  refine s_eq 14 rfl (v' := .bool true) (by rfl) ?_
  refine q_move rfl rfl rfl rfl ?_
  refine q_move rfl rfl rfl rfl ?_
  refine q_int rfl rfl rfl rfl rfl (b_eql _ _ _ _) ?_
  refine s_eq 17 rfl (v' := .bool true) (by rfl) ?_
  refine q_pick_t rfl rfl rfl rfl rfl ?_
  refine q_move rfl rfl rfl rfl ?_
  refine q_move rfl rfl rfl rfl ?_
  refine l_call rfl rfl rfl rfl rfl rfl Try.call25 (order_n_spec) (by (repeat ((with_reducible apply Takes.cons); focus (first | (with_reducible (repeat (first | exact Take.here | apply Take.there)); done) | (repeat (first | exact Take.here | apply Take.there))))); exact Takes.nil) ?_
  rintro ⟨⟩ -
  try simp only [List.cons_append, List.nil_append]
  refine ag_nil ?_
  refine q_len rfl rfl rfl rfl Try.underlying53 ?_
  refine q_int rfl rfl rfl rfl rfl (b_eql _ _ _ _) ?_
  refine s_eq 23 rfl (v' := .bool true) (by rfl) ?_
  refine q_pick_t rfl rfl rfl rfl rfl ?_
  refine q_move rfl rfl rfl rfl ?_
  refine q_move rfl rfl rfl rfl ?_
  refine l_call rfl rfl rfl rfl rfl rfl Try.call23 (changes_n_spec) (by (repeat ((with_reducible apply Takes.cons); focus (first | (with_reducible (repeat (first | exact Take.here | apply Take.there)); done) | (repeat (first | exact Take.here | apply Take.there))))); exact Takes.nil) ?_
  rintro ⟨⟩ -
  try simp only [List.cons_append, List.nil_append]
  refine ag_nil ?_
  refine q_len rfl rfl rfl rfl Try.underlying53 ?_
  refine q_int rfl rfl rfl rfl rfl (b_eql _ _ _ _) ?_
  refine s_eq 29 rfl (v' := .bool true) (by rfl) ?_
  refine q_pick_t rfl rfl rfl rfl rfl ?_
  refine q_move rfl rfl rfl rfl ?_
  refine q_move rfl rfl rfl rfl ?_
  refine l_call rfl rfl rfl rfl rfl rfl Try.call28 (made_n_spec) (by (repeat ((with_reducible apply Takes.cons); focus (first | (with_reducible (repeat (first | exact Take.here | apply Take.there)); done) | (repeat (first | exact Take.here | apply Take.there))))); exact Takes.nil) ?_
  rintro ⟨⟩ -
  try simp only [List.cons_append, List.nil_append]
  refine ag_nil ?_
  refine q_int rfl rfl rfl rfl rfl (b_eql _ _ _ _) ?_
  refine s_eq 34 rfl (v' := .bool true) (by rfl) ?_
  refine q_pick_t rfl rfl rfl rfl rfl ?_
  refine q_move rfl rfl rfl rfl ?_
  refine q_move rfl rfl rfl rfl ?_
  refine l_call rfl rfl rfl rfl rfl rfl Try.call34 (copy_n_spec) (by (repeat ((with_reducible apply Takes.cons); focus (first | (with_reducible (repeat (first | exact Take.here | apply Take.there)); done) | (repeat (first | exact Take.here | apply Take.there))))); exact Takes.nil) ?_
  rintro ⟨⟩ -
  try simp only [List.cons_append, List.nil_append]
  refine ag_nil ?_
  refine q_eq_nil rfl rfl rfl rfl Try.underlying50 ?_
  refine s_eq 39 rfl (v' := .bool true) rfl ?_
  refine q_pick_t rfl rfl rfl rfl rfl ?_
  refine q_assign rfl rfl rfl rfl ?_
  refine r_done ?_
  refine s_keep [4] (e' := [(4, _)]) rfl ?_
  refine k_then_n ?_
  refine c_ret ?_
  refine ret1 rfl rfl (()) (by first | rfl | (first | rfl | (congr 1; done) | (congr 1 <;> first | rfl | omega | (simp; done) | (simp; omega)))) (by trivial) ?_
  (repeat ((with_reducible apply Takes.cons); focus (first | (with_reducible (repeat (first | exact Take.here | apply Take.there)); done) | (repeat (first | exact Take.here | apply Take.there))))); (repeat (first | exact Takes.nil | exact Takes.self | refine takes_drop2 ?_))

theorem cnone_z_spec (b : Nat) : Spec Try.prog 47 [.pointer (some ⟨b, 0, none⟩)] [cells b 0 [.int .i64 0, .slice none 0 0, .slice none 0 0, .int .i64 0]] (fun (_ : Unit) => .bool true) (fun _ => True) (fun _ => [cells b 0 [.int .i64 0, .slice none 0 0, .slice none 0 0, .int .i64 0]]) := by
  refine spec_mk (n := 12) Try.func47 rfl rfl rfl ?_
  intro Γ w0
  simp only [argE, List.cons_append, List.nil_append, Nat.zero_add, Nat.reduceAdd]
  refine c_seq ?_
  refine c_plain (.q 0 (.done)) (by kernel_rfl) ?_
  refine q_assign rfl rfl rfl rfl ?_
  refine r_done ?_
  refine k_then_n ?_
  refine c_seq ?_
  refine c_plain (.q 0 (.q 1 (.q 2 (.q 3 (.q 4 (.q 5 (.q 6 (.q 7 (.q 8 (.q 9 (.done))))))))))) (by kernel_rfl) ?_
  refine q_move rfl rfl rfl rfl ?_
  refine q_eq_nil rfl rfl rfl rfl Try.underlying50 ?_
  refine s_eq 4 rfl (v' := .bool false) rfl ?_
  refine q_move rfl rfl rfl rfl ?_
  refine q_move rfl rfl rfl rfl ?_
  refine q_nil_p rfl rfl rfl rfl ?_
  refine q_field (k := 1) rfl rfl rfl rfl Try.underlying77 rfl Try.sizeOf53 rfl ?_
  refine q_load_c (j := 1) rfl rfl rfl rfl Try.isAgg53 (by with_reducible (repeat (first | exact Take.here | apply Take.there))) (by first | rfl | exact (Nat.add_zero _).symm) (by rfl) ?_
  refine q_eq_nils rfl rfl rfl rfl Try.underlying53 ?_
  refine s_eq 10 rfl (v' := .bool true) rfl ?_
  refine q_pick_f rfl rfl rfl rfl rfl ?_
  refine q_assign rfl rfl rfl rfl ?_
  refine r_done ?_
  refine s_keep [2] (e' := [(2, _)]) rfl ?_
  refine k_then_n ?_
  refine c_ret ?_
  refine ret1 rfl rfl (()) (by first | rfl | (first | rfl | (congr 1; done) | (congr 1 <;> first | rfl | omega | (simp; done) | (simp; omega)))) (by trivial) ?_
  (repeat ((with_reducible apply Takes.cons); focus (first | (with_reducible (repeat (first | exact Take.here | apply Take.there)); done) | (repeat (first | exact Take.here | apply Take.there))))); (repeat (first | exact Takes.nil | exact Takes.self | refine takes_drop2 ?_))

theorem choose_z_spec (b : Nat) (ao : Option Addr) (n c : Nat) : Spec Try.prog 26 [.pointer (some ⟨b, 0, none⟩), .slice ao n c] [cells b 0 [.int .i64 0, .slice none 0 0, .slice none 0 0, .int .i64 0]] (fun (_ : Unit) => .tuple #[.int .u32 0, .int .i64 1]) (fun _ => True) (fun _ => [cells b 0 [.int .i64 0, .slice none 0 0, .slice none 0 0, .int .i64 0]]) := by
  refine spec_mk (n := 105) Try.func26 rfl rfl rfl ?_
  intro Γ w0
  simp only [argE, List.cons_append, List.nil_append, Nat.zero_add, Nat.reduceAdd]
  refine c_seq ?_
  refine c_plain (.q 0 (.q 1 (.done))) (by kernel_rfl) ?_
  refine q_assign rfl rfl rfl rfl ?_
  refine q_assign rfl rfl rfl rfl ?_
  refine r_done ?_
  refine k_then_n ?_
  refine c_seq ?_
  refine c_seq ?_
  refine c_plain (.q 0 ((.l 1 [] (.done)))) (by kernel_rfl) ?_
  refine q_move rfl rfl rfl rfl ?_
  have sp_1 := cnone_z_spec b
  refine l_call rfl rfl rfl rfl rfl rfl Try.call47 (sp_1) (by (repeat ((with_reducible apply Takes.cons); focus (first | (with_reducible (repeat (first | exact Take.here | apply Take.there)); done) | (repeat (first | exact Take.here | apply Take.there))))); exact Takes.nil) ?_
  rintro ⟨⟩ -
  try simp only [List.cons_append, List.nil_append]
  refine ag_nil ?_
  refine r_done ?_
  refine k_then_n ?_
  refine c_cond_t rfl ?_
  refine c_seq ?_
  refine c_plain (.q 0 (.q 1 (.done))) (by kernel_rfl) ?_
  refine q_assign rfl rfl rfl rfl ?_
  refine q_assign rfl rfl rfl rfl ?_
  refine r_done ?_
  refine s_keep [4, 5] (e' := [(4, _), (5, _)]) rfl ?_
  refine k_then_n ?_
  refine c_ret ?_
  refine k_then_ret ?_
  refine ret2 rfl rfl rfl (()) (by first | rfl | (first | rfl | (congr 1; done) | (congr 1 <;> first | rfl | omega | (simp; done) | (simp; omega)))) (by trivial) ?_
  (repeat ((with_reducible apply Takes.cons); focus (first | (with_reducible (repeat (first | exact Take.here | apply Take.there)); done) | (repeat (first | exact Take.here | apply Take.there))))); (repeat (first | exact Takes.nil | exact Takes.self | refine takes_drop2 ?_))

theorem order_z_spec (b : Nat) : Spec Try.prog 25 [.pointer (some ⟨b, 0, none⟩)] [cells b 0 [.int .i64 0, .slice none 0 0, .slice none 0 0, .int .i64 0]] (fun (_ : Unit) => .slice none 0 0) (fun _ => True) (fun _ => [cells b 0 [.int .i64 0, .slice none 0 0, .slice none 0 0, .int .i64 0]]) := by
  refine spec_mk (n := 27) Try.func25 rfl rfl rfl ?_
  intro Γ w0
  simp only [argE, List.cons_append, List.nil_append, Nat.zero_add, Nat.reduceAdd]
  refine c_seq ?_
  refine c_plain (.q 0 (.done)) (by kernel_rfl) ?_
  refine q_assign rfl rfl rfl rfl ?_
  refine r_done ?_
  refine k_then_n ?_
  refine c_seq ?_
  refine c_seq ?_
  refine c_plain (.q 0 ((.l 1 [] (.done)))) (by kernel_rfl) ?_
  refine q_move rfl rfl rfl rfl ?_
  have sp_1 := cnone_z_spec b
  refine l_call rfl rfl rfl rfl rfl rfl Try.call47 (sp_1) (by (repeat ((with_reducible apply Takes.cons); focus (first | (with_reducible (repeat (first | exact Take.here | apply Take.there)); done) | (repeat (first | exact Take.here | apply Take.there))))); exact Takes.nil) ?_
  rintro ⟨⟩ -
  try simp only [List.cons_append, List.nil_append]
  refine ag_nil ?_
  refine r_done ?_
  refine k_then_n ?_
  refine c_cond_t rfl ?_
  refine c_seq ?_
  refine c_plain (.q 0 (.done)) (by kernel_rfl) ?_
  refine q_assign rfl rfl rfl rfl ?_
  refine r_done ?_
  refine k_then_n ?_
  refine c_ret ?_
  refine k_then_ret ?_
  refine ret1 rfl rfl (()) (by first | rfl | (first | rfl | (congr 1; done) | (congr 1 <;> first | rfl | omega | (simp; done) | (simp; omega)))) (by trivial) ?_
  (repeat ((with_reducible apply Takes.cons); focus (first | (with_reducible (repeat (first | exact Take.here | apply Take.there)); done) | (repeat (first | exact Take.here | apply Take.there))))); (repeat (first | exact Takes.nil | exact Takes.self | refine takes_drop2 ?_))

theorem changes_z_spec (b : Nat) : Spec Try.prog 23 [.pointer (some ⟨b, 0, none⟩)] [cells b 0 [.int .i64 0, .slice none 0 0, .slice none 0 0, .int .i64 0]] (fun (_ : Unit) => .slice none 0 0) (fun _ => True) (fun _ => [cells b 0 [.int .i64 0, .slice none 0 0, .slice none 0 0, .int .i64 0]]) := by
  refine spec_mk (n := 10) Try.func23 rfl rfl rfl ?_
  intro Γ w0
  simp only [argE, List.cons_append, List.nil_append, Nat.zero_add, Nat.reduceAdd]
  refine c_seq ?_
  refine c_plain (.q 0 (.done)) (by kernel_rfl) ?_
  refine q_assign rfl rfl rfl rfl ?_
  refine r_done ?_
  refine k_then_n ?_
  refine c_seq ?_
  refine c_seq ?_
  refine c_plain (.q 0 ((.l 1 [] (.done)))) (by kernel_rfl) ?_
  refine q_move rfl rfl rfl rfl ?_
  have sp_1 := cnone_z_spec b
  refine l_call rfl rfl rfl rfl rfl rfl Try.call47 (sp_1) (by (repeat ((with_reducible apply Takes.cons); focus (first | (with_reducible (repeat (first | exact Take.here | apply Take.there)); done) | (repeat (first | exact Take.here | apply Take.there))))); exact Takes.nil) ?_
  rintro ⟨⟩ -
  try simp only [List.cons_append, List.nil_append]
  refine ag_nil ?_
  refine r_done ?_
  refine k_then_n ?_
  refine c_cond_t rfl ?_
  refine c_seq ?_
  refine c_plain (.q 0 (.done)) (by kernel_rfl) ?_
  refine q_assign rfl rfl rfl rfl ?_
  refine r_done ?_
  refine k_then_n ?_
  refine c_ret ?_
  refine k_then_ret ?_
  refine ret1 rfl rfl (()) (by first | rfl | (first | rfl | (congr 1; done) | (congr 1 <;> first | rfl | omega | (simp; done) | (simp; omega)))) (by trivial) ?_
  (repeat ((with_reducible apply Takes.cons); focus (first | (with_reducible (repeat (first | exact Take.here | apply Take.there)); done) | (repeat (first | exact Take.here | apply Take.there))))); (repeat (first | exact Takes.nil | exact Takes.self | refine takes_drop2 ?_))

theorem made_z_spec (b : Nat) : Spec Try.prog 28 [.pointer (some ⟨b, 0, none⟩)] [cells b 0 [.int .i64 0, .slice none 0 0, .slice none 0 0, .int .i64 0]] (fun (_ : Unit) => .int .i64 0) (fun _ => True) (fun _ => [cells b 0 [.int .i64 0, .slice none 0 0, .slice none 0 0, .int .i64 0]]) := by
  refine spec_mk (n := 9) Try.func28 rfl rfl rfl ?_
  intro Γ w0
  simp only [argE, List.cons_append, List.nil_append, Nat.zero_add, Nat.reduceAdd]
  refine c_seq ?_
  refine c_plain (.q 0 (.done)) (by kernel_rfl) ?_
  refine q_assign rfl rfl rfl rfl ?_
  refine r_done ?_
  refine k_then_n ?_
  refine c_seq ?_
  refine c_seq ?_
  refine c_plain (.q 0 ((.l 1 [] (.done)))) (by kernel_rfl) ?_
  refine q_move rfl rfl rfl rfl ?_
  have sp_1 := cnone_z_spec b
  refine l_call rfl rfl rfl rfl rfl rfl Try.call47 (sp_1) (by (repeat ((with_reducible apply Takes.cons); focus (first | (with_reducible (repeat (first | exact Take.here | apply Take.there)); done) | (repeat (first | exact Take.here | apply Take.there))))); exact Takes.nil) ?_
  rintro ⟨⟩ -
  try simp only [List.cons_append, List.nil_append]
  refine ag_nil ?_
  refine r_done ?_
  refine k_then_n ?_
  refine c_cond_t rfl ?_
  refine c_seq ?_
  refine c_plain (.q 0 (.done)) (by kernel_rfl) ?_
  refine q_assign rfl rfl rfl rfl ?_
  refine r_done ?_
  refine k_then_n ?_
  refine c_ret ?_
  refine k_then_ret ?_
  refine ret1 rfl rfl (()) (by first | rfl | (first | rfl | (congr 1; done) | (congr 1 <;> first | rfl | omega | (simp; done) | (simp; omega)))) (by trivial) ?_
  (repeat ((with_reducible apply Takes.cons); focus (first | (with_reducible (repeat (first | exact Take.here | apply Take.there)); done) | (repeat (first | exact Take.here | apply Take.there))))); (repeat (first | exact Takes.nil | exact Takes.self | refine takes_drop2 ?_))

theorem copy_z_spec (b : Nat) : Spec Try.prog 34 [.pointer (some ⟨b, 0, none⟩)] [cells b 0 [.int .i64 0, .slice none 0 0, .slice none 0 0, .int .i64 0]] (fun (_ : Unit) => .pointer none) (fun _ => True) (fun _ => [cells b 0 [.int .i64 0, .slice none 0 0, .slice none 0 0, .int .i64 0]]) := by
  refine spec_mk (n := 25) Try.func34 rfl rfl rfl ?_
  intro Γ w0
  simp only [argE, List.cons_append, List.nil_append, Nat.zero_add, Nat.reduceAdd]
  refine c_seq ?_
  refine c_plain (.q 0 (.done)) (by kernel_rfl) ?_
  refine q_assign rfl rfl rfl rfl ?_
  refine r_done ?_
  refine k_then_n ?_
  refine c_seq ?_
  refine c_seq ?_
  refine c_plain (.q 0 ((.l 1 [] (.done)))) (by kernel_rfl) ?_
  refine q_move rfl rfl rfl rfl ?_
  have sp_1 := cnone_z_spec b
  refine l_call rfl rfl rfl rfl rfl rfl Try.call47 (sp_1) (by (repeat ((with_reducible apply Takes.cons); focus (first | (with_reducible (repeat (first | exact Take.here | apply Take.there)); done) | (repeat (first | exact Take.here | apply Take.there))))); exact Takes.nil) ?_
  rintro ⟨⟩ -
  try simp only [List.cons_append, List.nil_append]
  refine ag_nil ?_
  refine r_done ?_
  refine k_then_n ?_
  refine c_cond_t rfl ?_
  refine c_seq ?_
  refine c_plain (.q 0 (.done)) (by kernel_rfl) ?_
  refine q_assign rfl rfl rfl rfl ?_
  refine r_done ?_
  refine k_then_n ?_
  refine c_ret ?_
  refine k_then_ret ?_
  refine ret1 rfl rfl (()) (by first | rfl | (first | rfl | (congr 1; done) | (congr 1 <;> first | rfl | omega | (simp; done) | (simp; omega)))) (by trivial) ?_
  (repeat ((with_reducible apply Takes.cons); focus (first | (with_reducible (repeat (first | exact Take.here | apply Take.there)); done) | (repeat (first | exact Take.here | apply Take.there))))); (repeat (first | exact Takes.nil | exact Takes.self | refine takes_drop2 ?_))

theorem nothing_z_spec (b : Nat) (ao : Option Addr) (n c : Nat) : Spec Try.prog 36 [.pointer (some ⟨b, 0, none⟩), .slice ao n c] [cells b 0 [.int .i64 0, .slice none 0 0, .slice none 0 0, .int .i64 0]] (fun (_ : Unit) => .bool true) (fun _ => True) (fun _ => [cells b 0 [.int .i64 0, .slice none 0 0, .slice none 0 0, .int .i64 0]]) := by
  refine spec_mk (n := 41) Try.func36 rfl rfl rfl ?_
  intro Γ w0
  simp only [argE, List.cons_append, List.nil_append, Nat.zero_add, Nat.reduceAdd]
  refine c_seq ?_
  refine c_plain (.q 0 (.done)) (by kernel_rfl) ?_
  refine q_assign rfl rfl rfl rfl ?_
  refine r_done ?_
  refine k_then_n ?_
  refine c_seq ?_
  refine c_plain (.q 0 (.q 1 ((.l 2 [] (.q 3 (.q 4 (.q 5 (.q 6 (.q 7 (.done)))))))))) (by kernel_rfl) ?_
  refine q_move rfl rfl rfl rfl ?_
  refine q_move rfl rfl rfl rfl ?_
  have sp_1 := choose_z_spec b ao n c
  refine l_call rfl rfl rfl rfl rfl rfl Try.call26 (sp_1) (by (repeat ((with_reducible apply Takes.cons); focus (first | (with_reducible (repeat (first | exact Take.here | apply Take.there)); done) | (repeat (first | exact Take.here | apply Take.there))))); exact Takes.nil) ?_
  rintro ⟨⟩ -
  try simp only [List.cons_append, List.nil_append]
  refine ag_nil ?_
  refine q_move rfl rfl rfl rfl ?_
  refine q_extract rfl rfl rfl rfl rfl ?_
  refine q_extract rfl rfl rfl rfl rfl ?_
  refine q_assign rfl rfl rfl rfl ?_
  refine q_assign rfl rfl rfl rfl ?_
  refine r_done ?_
  refine s_keep [0, 5, 6] (e' := [(0, _), (5, _), (6, _)]) rfl ?_
  refine k_then_n ?_
  refine c_seq ?_
  refine c_plain (.q 0 (.q 1 (.q 2 (.q 3 (.q 4 (.q 5 (.q 6 (.q 7 ((.l 8 [] (.q 9 (.q 10 (.q 11 (.q 12 (.q 13 ((.l 14 [] (.q 15 (.q 16 (.q 17 (.q 18 (.q 19 ((.l 20 [] (.q 21 (.q 22 (.q 23 (.q 24 ((.l 25 [] (.q 26 (.q 27 (.q 28 (.done)))))))))))))))))))))))))))))))))) (by kernel_rfl) ?_
  refine q_move rfl rfl rfl rfl ?_
  refine q_int rfl rfl rfl rfl rfl (b_eql _ _ _ _) ?_
  refine s_eq 14 rfl (v' := .bool true) (by rfl) ?_
  refine q_move rfl rfl rfl rfl ?_
  refine q_move rfl rfl rfl rfl ?_
  refine q_int rfl rfl rfl rfl rfl (b_eql _ _ _ _) ?_
  refine s_eq 17 rfl (v' := .bool true) (by rfl) ?_
  refine q_pick_t rfl rfl rfl rfl rfl ?_
  refine q_move rfl rfl rfl rfl ?_
  refine q_move rfl rfl rfl rfl ?_
  have sp_2 := order_z_spec b
  refine l_call rfl rfl rfl rfl rfl rfl Try.call25 (sp_2) (by (repeat ((with_reducible apply Takes.cons); focus (first | (with_reducible (repeat (first | exact Take.here | apply Take.there)); done) | (repeat (first | exact Take.here | apply Take.there))))); exact Takes.nil) ?_
  rintro ⟨⟩ -
  try simp only [List.cons_append, List.nil_append]
  refine ag_nil ?_
  refine q_len rfl rfl rfl rfl Try.underlying53 ?_
  refine q_int rfl rfl rfl rfl rfl (b_eql _ _ _ _) ?_
  refine s_eq 23 rfl (v' := .bool true) (by rfl) ?_
  refine q_pick_t rfl rfl rfl rfl rfl ?_
  refine q_move rfl rfl rfl rfl ?_
  refine q_move rfl rfl rfl rfl ?_
  have sp_3 := changes_z_spec b
  refine l_call rfl rfl rfl rfl rfl rfl Try.call23 (sp_3) (by (repeat ((with_reducible apply Takes.cons); focus (first | (with_reducible (repeat (first | exact Take.here | apply Take.there)); done) | (repeat (first | exact Take.here | apply Take.there))))); exact Takes.nil) ?_
  rintro ⟨⟩ -
  try simp only [List.cons_append, List.nil_append]
  refine ag_nil ?_
  refine q_len rfl rfl rfl rfl Try.underlying53 ?_
  refine q_int rfl rfl rfl rfl rfl (b_eql _ _ _ _) ?_
  refine s_eq 29 rfl (v' := .bool true) (by rfl) ?_
  refine q_pick_t rfl rfl rfl rfl rfl ?_
  refine q_move rfl rfl rfl rfl ?_
  refine q_move rfl rfl rfl rfl ?_
  have sp_4 := made_z_spec b
  refine l_call rfl rfl rfl rfl rfl rfl Try.call28 (sp_4) (by (repeat ((with_reducible apply Takes.cons); focus (first | (with_reducible (repeat (first | exact Take.here | apply Take.there)); done) | (repeat (first | exact Take.here | apply Take.there))))); exact Takes.nil) ?_
  rintro ⟨⟩ -
  try simp only [List.cons_append, List.nil_append]
  refine ag_nil ?_
  refine q_int rfl rfl rfl rfl rfl (b_eql _ _ _ _) ?_
  refine s_eq 34 rfl (v' := .bool true) (by rfl) ?_
  refine q_pick_t rfl rfl rfl rfl rfl ?_
  refine q_move rfl rfl rfl rfl ?_
  refine q_move rfl rfl rfl rfl ?_
  have sp_5 := copy_z_spec b
  refine l_call rfl rfl rfl rfl rfl rfl Try.call34 (sp_5) (by (repeat ((with_reducible apply Takes.cons); focus (first | (with_reducible (repeat (first | exact Take.here | apply Take.there)); done) | (repeat (first | exact Take.here | apply Take.there))))); exact Takes.nil) ?_
  rintro ⟨⟩ -
  try simp only [List.cons_append, List.nil_append]
  refine ag_nil ?_
  refine q_eq_nil rfl rfl rfl rfl Try.underlying50 ?_
  refine s_eq 39 rfl (v' := .bool true) rfl ?_
  refine q_pick_t rfl rfl rfl rfl rfl ?_
  refine q_assign rfl rfl rfl rfl ?_
  refine r_done ?_
  refine s_keep [4] (e' := [(4, _)]) rfl ?_
  refine k_then_n ?_
  refine c_ret ?_
  refine ret1 rfl rfl (()) (by first | rfl | (first | rfl | (congr 1; done) | (congr 1 <;> first | rfl | omega | (simp; done) | (simp; omega)))) (by trivial) ?_
  (repeat ((with_reducible apply Takes.cons); focus (first | (with_reducible (repeat (first | exact Take.here | apply Take.there)); done) | (repeat (first | exact Take.here | apply Take.there))))); (repeat (first | exact Takes.nil | exact Takes.self | refine takes_drop2 ?_))

theorem nil_spec (xs : List Int) (ao : Option Addr) (n c : Nat) (A : HProp) (hr : RdS A ao (xs.flatMap encZ)) : Spec Try.prog 10 [.slice ao n c] [A] (fun (_ : Unit) => .bool true) (fun _ => True) (fun _ => [A]) := by
  refine spec_mk (n := 16) Try.func10 rfl rfl rfl ?_
  intro Γ w0
  simp only [argE, List.cons_append, List.nil_append, Nat.zero_add, Nat.reduceAdd]
  refine c_seq ?_
  refine c_plain (.q 0 (.done)) (by kernel_rfl) ?_
  refine q_assign rfl rfl rfl rfl ?_
  refine r_done ?_
  refine k_then_n ?_
  refine c_seq ?_
  refine c_plain (.q 0 (.done)) (by kernel_rfl) ?_
  refine q_assign rfl rfl rfl rfl ?_
  refine r_done ?_
  refine k_then_n ?_
  refine c_seq ?_
  refine c_plain (.q 0 (.q 1 ((.l 2 [] (.q 3 (.q 4 ((.l 5 [] (.q 6 ((.l 7 [] (.q 8 (.q 9 ((.l 10 [] (.q 11 (.q 12 (.done)))))))))))))))))) (by kernel_rfl) ?_
  refine q_move rfl rfl rfl rfl ?_
  refine q_move rfl rfl rfl rfl ?_
  have sp_1 := nothing_n_spec ao n c
  refine l_call rfl rfl rfl rfl rfl rfl Try.call36 (sp_1) (by (repeat ((with_reducible apply Takes.cons); focus (first | (with_reducible (repeat (first | exact Take.here | apply Take.there)); done) | (repeat (first | exact Take.here | apply Take.there))))); exact Takes.nil) ?_
  rintro ⟨⟩ -
  try simp only [List.cons_append, List.nil_append]
  refine ag_nil ?_
  refine q_move rfl rfl rfl rfl ?_
  refine q_build rfl rfl rfl rfl (vs := [_, _, _, _]) (run_buildS Try.underlying77 Try.zeroValue77 (ps := [(0, 1), (1, 1), (2, 1), (3, 1)]) ⟨rfl, Try.sizeOf3, rfl, Try.sizeOf53, rfl, Try.sizeOf53, rfl, Try.sizeOf3, trivial⟩ rfl) ?_
  refine l_box rfl rfl rfl rfl (us := [_, _, _, _]) rfl ?_
  intro b9
  refine ag_nil ?_
  refine q_move rfl rfl rfl rfl ?_
  have sp_2 := nothing_z_spec b9 ao n c
  refine l_call rfl rfl rfl rfl rfl rfl Try.call36 (sp_2) (by (repeat ((with_reducible apply Takes.cons); focus (first | (with_reducible (repeat (first | exact Take.here | apply Take.there)); done) | (repeat (first | exact Take.here | apply Take.there))))); exact Takes.nil) ?_
  rintro ⟨⟩ -
  try simp only [List.cons_append, List.nil_append]
  refine ag_nil ?_
  refine q_pick_t rfl rfl rfl rfl rfl ?_
  refine q_move rfl rfl rfl rfl ?_
  refine l_call rfl rfl rfl rfl rfl rfl Try.call15 (known_spec) (by (repeat ((with_reducible apply Takes.cons); focus (first | (with_reducible (repeat (first | exact Take.here | apply Take.there)); done) | (repeat (first | exact Take.here | apply Take.there))))); exact Takes.nil) ?_
  rintro ⟨⟩ -
  try simp only [List.cons_append, List.nil_append]
  refine ag_nil ?_
  refine q_pick_t rfl rfl rfl rfl rfl ?_
  refine q_assign rfl rfl rfl rfl ?_
  refine r_done ?_
  refine s_keep [2] (e' := [(2, _)]) rfl ?_
  refine k_then_n ?_
  refine c_ret ?_
  refine ret1 rfl rfl (()) (by first | rfl | (first | rfl | (congr 1; done) | (congr 1 <;> first | rfl | omega | (simp; done) | (simp; omega)))) (by trivial) ?_
  (repeat ((with_reducible apply Takes.cons); focus (first | (with_reducible (repeat (first | exact Take.here | apply Take.there)); done) | (repeat (first | exact Take.here | apply Take.there))))); (repeat (first | exact Takes.nil | exact Takes.self | refine takes_drop2 ?_))
end Go.Ab.Sc
