/- Package vclock: the law Apart. -/
import Derived.Test.YtjoacllimldfkaaVc6
set_option linter.unusedVariables false
set_option linter.unusedSimpArgs false
set_option maxRecDepth 100000
namespace Go.Ab.Vc
open Go Go.Proofs Go.Ab
theorem tm_rng (x : Int) {m : Int} (h : 0 < m) : -m < x.tmod m ∧ x.tmod m < m := by
  have h1 := Int.tmod_lt_of_pos x h
  have h2 := Int.lt_tmod_of_pos x h
  exact ⟨h2, h1⟩
theorem last_nz {l : List Int} (h : Tr l) {q : Nat} (hq : q ≤ l.length) (hz : ∀ j, q ≤ j → j < l.length → l.getD j 0 = 0) : q = l.length := by
  rcases h with e | e
  · subst e; simpa using hq
  · rcases Nat.lt_or_ge q l.length with h1 | h1
    · exact absurd (hz (l.length - 1) (by omega) (by omega)) e
    · omega
theorem apart_spec (xs : List Int) (xo : Option Addr) (xn xd : Nat) (A : HProp) (hxn : xs.length = xn) (hrx : RdS A xo (xs.flatMap encU)) (hx0 : ∀ x ∈ xs, 0 ≤ x) (hxb : xn ≤ 1048576) (th v : Int) (hv : 0 ≤ v) : Spec Try.prog 5 [.slice xo xn xd, .int .i64 th, .int .u64 v] [A] (fun (_ : Unit) => .bool true) (fun _ => True) (fun _ => [A]) := by
  refine spec_mkM (n := 184) Try.func5 rfl rfl rfl ?_
  intro Γ w0
  simp only [argE, List.cons_append, List.nil_append, Nat.zero_add, Nat.reduceAdd]
  refine c_seq ?_
  refine c_plain ((.l 0 [] (.done))) (by kernel_rfl) ?_
  refine l_alloc rfl rfl rfl Try.zeroValue4 (zs := [.bool false]) rfl ?_
  intro b6
  refine ag_nil ?_
  refine r_done ?_
  refine k_then_n ?_
  refine c_seq ?_
  refine c_plain (.q 0 ((.l 1 [] ((.l 2 [] ((.l 3 [] (.done)))))))) (by kernel_rfl) ?_
  refine q_move rfl rfl rfl rfl ?_
  have sp_1 := fit_spec xs xo xn xd A hxn hrx hx0 (by omega)
  refine l_call rfl rfl rfl rfl rfl rfl Try.call9 (sp_1) (by (repeat ((with_reducible apply Takes.cons); focus (first | (with_reducible (repeat (first | exact Take.here | apply Take.there)); done) | (repeat (first | exact Take.here | apply Take.there))))); exact Takes.nil) ?_
  rintro ⟨ka, kc⟩ -
  have hkl := fit_len xs
  try simp only [List.cons_append, List.nil_append]
  refine ag_nil ?_
  refine l_alloc rfl rfl rfl Try.zeroValue23 (zs := [.slice none 0 0]) rfl ?_
  intro b7
  refine ag_nil ?_
  refine l_store (j := 0) rfl rfl rfl rfl Try.sizeOf23 (us := [_]) rfl rfl rfl (by with_reducible (repeat (first | exact Take.here | apply Take.there))) (by first | rfl | exact (Nat.add_zero _).symm) (by first | decide | (simp; done) | omega) ?_
  simp only [setL, List.set]
  refine ag_nil ?_
  refine r_done ?_
  refine k_then_n ?_
  refine c_seq ?_
  refine c_plain (.q 0 ((.l 1 [] (.q 2 (.q 3 (.q 4 (.q 5 (.q 6 (.done))))))))) (by kernel_rfl) ?_
  refine q_load_c (j := 0) rfl rfl rfl rfl Try.isAgg23 (by with_reducible (repeat (first | exact Take.here | apply Take.there))) (by first | rfl | exact (Nat.add_zero _).symm) (by rfl) ?_
  refine s_take (A := own 1 encU ka kc (fitL xs)) (by with_reducible (repeat (first | exact Take.here | apply Take.there))) ?_
  refine own_fc fun f_2a f_2b f_2c => ?_
  have sp_3 := made_spec (fitL xs) ka ((fitL xs).length) kc (own 1 encU ka kc (fitL xs)) (by first | rfl | assumption | omega | (simp; done) | (simp; omega)) (rds_own encU_len (fun h => (f_2b h).1) f_2c) (by omega) (by exact fit_rng _)
  refine l_call rfl rfl rfl rfl rfl rfl Try.call10 (sp_3) (by (repeat ((with_reducible apply Takes.cons); focus (first | (with_reducible (repeat (first | exact Take.here | apply Take.there)); done) | (repeat (first | exact Take.here | apply Take.there))))); exact Takes.nil) ?_
  rintro ⟨ab, aa, ac⟩ -
  obtain ⟨LA, hLA⟩ : ∃ L, L = tr (fitL xs) := ⟨_, rfl⟩
  rw [← hLA]
  have hLAv : CV LA := by rw [hLA]; exact fit_cv _
  have hLAl := hLAv.len
  have hLAg : ∀ i, LA.getD i 0 = (fitL xs).getD i 0 := fun i => by rw [hLA, tr_g]
  try simp only [List.cons_append, List.nil_append]
  refine ag_nil ?_
  refine q_move rfl rfl rfl rfl ?_
  refine q_extract rfl rfl rfl rfl rfl ?_
  refine q_extract rfl rfl rfl rfl rfl ?_
  refine q_assign rfl rfl rfl rfl ?_
  refine q_assign rfl rfl rfl rfl ?_
  refine r_done ?_
  refine s_keep [1, 2, 6, 7, 8, 9] (e' := [(1, _), (2, _), (6, _), (7, _), (8, _), (9, _)]) rfl ?_
  refine k_then_n ?_
  refine c_seq ?_
  refine c_seq ?_
  refine c_plain (.q 0 (.q 1 (.q 2 ((.l 3 [] (.q 4 (.q 5 (.done)))))))) (by kernel_rfl) ?_
  refine q_move rfl rfl rfl rfl ?_
  refine q_not rfl rfl rfl rfl ?_
  refine s_eq 30 rfl (v' := .bool false) rfl ?_
  refine q_move rfl rfl rfl rfl ?_
  refine l_call rfl rfl rfl rfl rfl rfl Try.call8 (works_spec) (by (repeat ((with_reducible apply Takes.cons); focus (first | (with_reducible (repeat (first | exact Take.here | apply Take.there)); done) | (repeat (first | exact Take.here | apply Take.there))))); exact Takes.nil) ?_
  rintro ⟨⟩ -
  try simp only [List.cons_append, List.nil_append]
  refine ag_nil ?_
  refine q_not rfl rfl rfl rfl ?_
  refine s_eq 33 rfl (v' := .bool false) rfl ?_
  refine q_pick_f rfl rfl rfl rfl rfl ?_
  refine r_done ?_
  refine s_keep [1, 2, 6, 7, 8, 34] (e' := [(1, _), (2, _), (6, _), (7, _), (8, _), (34, _)]) rfl ?_
  refine k_then_n ?_
  refine c_cond_f rfl ?_
  refine c_skip ?_
  refine k_then_n ?_
  refine c_seq ?_
  refine c_plain (.q 0 (.q 1 (.q 2 (.q 3 (.q 4 (.done)))))) (by kernel_rfl) ?_
  refine q_move rfl rfl rfl rfl ?_
  refine q_int rfl rfl rfl rfl rfl (b_remT _ (by decide)) ?_
  have htm_th := tm_rng th (m := 320) (by decide)
  refine q_int rfl rfl rfl rfl rfl (b_add' _ (by (first | exact fits_i64 (by omega) (by omega) | exact fits_u64 (by omega) (by omega) | exact fits_u32 (by omega) (by omega) | exact fits_u8 (by omega) (by omega)))) ?_
  obtain ⟨t, ht⟩ := Int.eq_ofNat_of_zero_le (show 0 ≤ (Int.tmod th 320 + 320) % 320 by omega)
  have ht1 : t < 320 := by omega
  refine q_int rfl rfl rfl rfl rfl (b_rem _ (by omega) (by omega)) ?_
  refine s_eq 38 rfl (v' := .int .i64 ((t : Nat) : Int)) (by rw [ht]) ?_
  refine q_assign rfl rfl rfl rfl ?_
  refine r_done ?_
  refine s_keep [2, 6, 7, 8, 10] (e' := [(2, _), (6, _), (7, _), (8, _), (10, _)]) rfl ?_
  refine k_then_n ?_
  refine c_seq ?_
  refine c_plain (.q 0 ((.l 1 [] (.q 2 (.done))))) (by kernel_rfl) ?_
  refine q_move rfl rfl rfl rfl ?_
  have sp_4 := copy_spec ab LA aa LA.length ac (by first | rfl | assumption | omega | (simp; done) | (simp; omega)) (by omega)
  refine l_call rfl rfl rfl rfl rfl rfl Try.call21 (sp_4) (by (repeat ((with_reducible apply Takes.cons); focus (first | (with_reducible (repeat (first | exact Take.here | apply Take.there)); done) | (repeat (first | exact Take.here | apply Take.there))))); exact Takes.nil) ?_
  rintro ⟨db, da, dc⟩ -
  try simp only [List.cons_append, List.nil_append]
  refine ag_nil ?_
  refine q_assign rfl rfl rfl rfl ?_
  refine r_done ?_
  refine k_then_n ?_
  refine c_seq ?_
  refine c_plain (.q 0 ((.l 1 [] (.q 2 (.done))))) (by kernel_rfl) ?_
  refine q_move rfl rfl rfl rfl ?_
  have sp_5 := list_spec ab LA aa LA.length ac (by first | rfl | assumption | omega | (simp; done) | (simp; omega)) (by omega)
  refine l_call rfl rfl rfl rfl rfl rfl Try.call18 (sp_5) (by (repeat ((with_reducible apply Takes.cons); focus (first | (with_reducible (repeat (first | exact Take.here | apply Take.there)); done) | (repeat (first | exact Take.here | apply Take.there))))); exact Takes.nil) ?_
  rintro ⟨pa, pc⟩ -
  try simp only [List.cons_append, List.nil_append]
  refine ag_nil ?_
  refine q_assign rfl rfl rfl rfl ?_
  refine r_done ?_
  refine s_keep [2, 6, 7, 8, 10, 11, 12] (e' := [(2, _), (6, _), (7, _), (8, _), (10, _), (11, _), (12, _)]) rfl ?_
  refine k_then_n ?_
  refine c_seq ?_
  refine c_plain (.q 0 ((.l 1 [] (.q 2 (.done))))) (by kernel_rfl) ?_
  refine q_move rfl rfl rfl rfl ?_
  have sp_6 := list_spec ab LA aa LA.length ac (by first | rfl | assumption | omega | (simp; done) | (simp; omega)) (by omega)
  refine l_call rfl rfl rfl rfl rfl rfl Try.call18 (sp_6) (by (repeat ((with_reducible apply Takes.cons); focus (first | (with_reducible (repeat (first | exact Take.here | apply Take.there)); done) | (repeat (first | exact Take.here | apply Take.there))))); exact Takes.nil) ?_
  rintro ⟨qa, qc⟩ -
  try simp only [List.cons_append, List.nil_append]
  refine ag_nil ?_
  refine q_assign rfl rfl rfl rfl ?_
  refine r_done ?_
  refine k_then_n ?_
  refine c_seq ?_
  refine c_plain (.q 0 ((.l 1 [] (.q 2 (.done))))) (by kernel_rfl) ?_
  refine q_move rfl rfl rfl rfl ?_
  have sp_7 := all_spec ab LA aa LA.length ac (by first | rfl | assumption | omega | (simp; done) | (simp; omega)) (by omega)
  refine l_call rfl rfl rfl rfl rfl rfl Try.call22 (sp_7) (by (repeat ((with_reducible apply Takes.cons); focus (first | (with_reducible (repeat (first | exact Take.here | apply Take.there)); done) | (repeat (first | exact Take.here | apply Take.there))))); exact Takes.nil) ?_
  rintro ⟨sx, sa, sc⟩ -
  try simp only [List.cons_append, List.nil_append]
  refine ag_nil ?_
  refine q_assign rfl rfl rfl rfl ?_
  refine r_done ?_
  refine s_keep [2, 6, 7, 8, 10, 11, 12, 13, 14] (e' := [(2, _), (6, _), (7, _), (8, _), (10, _), (11, _), (12, _), (13, _), (14, _)]) rfl ?_
  refine k_then_n ?_
  refine c_seq ?_
  refine c_seq ?_
  refine c_draw rfl (.q 0 (.q 1 (.q 2 (.q 3 (.q 4 (.q 5 (.q 6 (.q 7 (.q 8 (.q 9 (.q 10 ((.l 11 [] ((.l 12 [] (.q 13 (.q 14 (.q 15 (.q 16 (.q 18 ((.l 17 [18] ((.l 19 [] ((.l 20 [] (.q 21 (.q 22 (.q 23 (.q 24 (.q 25 ((.l 26 [] (.q 27 (.q 28 (.done)))))))))))))))))))))))))))))))))))) (by kernel_rfl) ?_
  refine q_move rfl rfl rfl rfl ?_
  refine q_eq_nil rfl rfl rfl rfl Try.underlying25 ?_
  refine s_eq 48 rfl (v' := .bool false) rfl ?_
  refine q_move rfl rfl rfl rfl ?_
  refine q_move rfl rfl rfl rfl ?_
  refine q_eq_nilf rfl rfl rfl rfl Try.underlying41 ?_
  refine q_pick_f rfl rfl rfl rfl rfl ?_
  refine q_move rfl rfl rfl rfl ?_
  refine q_move rfl rfl rfl rfl ?_
  refine q_move rfl rfl rfl rfl ?_
  refine q_move rfl rfl rfl rfl ?_
  refine q_int rfl rfl rfl rfl rfl (b_rem _ (by omega) (by omega)) ?_
  have sp_8 := set_spec ab LA aa LA.length ac (by first | rfl | assumption | omega | (simp; done) | (simp; omega)) hLAv t (by omega) (v % 281474976710656) (by omega) (by simp only [maxC]; omega)
  refine l_call rfl rfl rfl rfl rfl rfl Try.call24 (sp_8) (by (repeat ((with_reducible apply Takes.cons); focus (first | (with_reducible (repeat (first | exact Take.here | apply Take.there)); done) | (repeat (first | exact Take.here | apply Take.there))))); exact Takes.nil) ?_
  rintro ⟨ea, ec⟩ -
  obtain ⟨LS, hLS⟩ : ∃ L, L = stL LA t (v % 281474976710656) := ⟨_, rfl⟩
  rw [← hLS]
  have hLSv : CV LS := by rw [hLS]; exact stL_cv hLAv (by omega) (by omega) (by simp only [maxC]; omega)
  have hLSl := hLSv.len
  have hLSg : ∀ k, LS.getD k 0 = if k = t then v % 281474976710656 else LA.getD k 0 := fun k => by rw [hLS, stL_g]
  try simp only [List.cons_append, List.nil_append]
  refine ag_nil ?_
  have sp_9 := num_spec 0
  refine l_call rfl rfl rfl rfl rfl rfl Try.call23 (sp_9) (by (repeat ((with_reducible apply Takes.cons); focus (first | (with_reducible (repeat (first | exact Take.here | apply Take.there)); done) | (repeat (first | exact Take.here | apply Take.there))))); exact Takes.nil) ?_
  rintro ⟨⟩ -
  try simp only [List.cons_append, List.nil_append]
  refine ag_nil ?_
  refine q_int rfl rfl rfl rfl rfl (b_neq _ _ _ _) ?_
  refine q_pick_f rfl rfl rfl rfl rfl ?_
  refine q_move rfl rfl rfl rfl ?_
  refine s_bool_p 62 rfl (fun hg => by exfalso; first | exact hg rfl | exact hg trivial | simp at hg) (fun hg => ?_)
  refine q_move rfl rfl rfl rfl ?_
  refine q_load_c (j := 0) rfl rfl rfl rfl Try.isAgg23 (by with_reducible (repeat (first | exact Take.here | apply Take.there))) (by first | rfl | exact (Nat.add_zero _).symm) (by rfl) ?_
  have sp_10 := list_spec db LA da LA.length dc (by first | rfl | assumption | omega | (simp; done) | (simp; omega)) (by omega)
  refine l_call rfl rfl rfl rfl rfl rfl Try.call18 (sp_10) (by (repeat ((with_reducible apply Takes.cons); focus (first | (with_reducible (repeat (first | exact Take.here | apply Take.there)); done) | (repeat (first | exact Take.here | apply Take.there))))); exact Takes.nil) ?_
  rintro ⟨ra, rc⟩ -
  try simp only [List.cons_append, List.nil_append]
  refine ag_load_c (q := 0) rfl rfl rfl Try.isAgg23 (by with_reducible (repeat (first | exact Take.here | apply Take.there))) (by first | rfl | exact (Nat.add_zero _).symm) (by rfl) ?_
  refine ag_nil ?_
  refine s_take (A := own 1 encU ka kc (fitL xs)) (by with_reducible (repeat (first | exact Take.here | apply Take.there))) ?_
  refine own_fc fun f_11a f_11b f_11c => ?_
  have sp_12 := trimmed_spec (fitL xs) ka ((fitL xs).length) kc (own 1 encU ka kc (fitL xs)) (by first | rfl | assumption | omega | (simp; done) | (simp; omega)) (rds_own encU_len (fun h => (f_11b h).1) f_11c) (by omega) (by omega)
  refine l_call rfl rfl rfl rfl rfl rfl Try.call19 (sp_12) (by (repeat ((with_reducible apply Takes.cons); focus (first | (with_reducible (repeat (first | exact Take.here | apply Take.there)); done) | (repeat (first | exact Take.here | apply Take.there))))); exact Takes.nil) ?_
  rintro ⟨⟩ -
  try simp only [List.cons_append, List.nil_append]
  refine ag_nil ?_
  refine s_take (A := own 1 encU ra rc LA) (by with_reducible (repeat (first | exact Take.here | apply Take.there))) ?_
  refine own_fc fun f_13a f_13b f_13c => ?_
  refine s_heap (fun _ h => Bun.fold ((by (repeat ((with_reducible apply Takes.cons); focus (first | (with_reducible (repeat (first | exact Take.here | apply Take.there)); done) | (repeat (first | exact Take.here | apply Take.there))))); exact Takes.nil : Takes _ [own 1 encU ra rc LA, own 1 encU ka kc (fitL xs)] _) _ h)) ?_
  have sp_14 := same_spec LA (tr (fitL xs)) ra ka LA.length ((tr (fitL xs)).length) rc kc (Bun [own 1 encU ra rc LA, own 1 encU ka kc (fitL xs)]) (by first | rfl | assumption | omega | (simp; done) | (simp; omega)) (rds_bun (List.mem_cons_self) (rds_own encU_len (fun h => (f_13b h).1) f_13c)) (by first | rfl | assumption | omega | (simp; done) | (simp; omega)) (rds_bun (List.mem_cons_of_mem _ (List.mem_cons_self)) ((rds_take (rds_own encU_len (fun h => (f_11b h).1) f_11c) encU_len _))) (by omega)
  refine l_call rfl rfl rfl rfl rfl rfl Try.call17 (sp_14) (by (repeat ((with_reducible apply Takes.cons); focus (first | (with_reducible (repeat (first | exact Take.here | apply Take.there)); done) | (repeat (first | exact Take.here | apply Take.there))))); exact Takes.nil) ?_
  rintro ⟨⟩ -
  try simp only [List.cons_append, List.nil_append]
  refine s_take (A := Bun [own 1 encU ra rc LA, own 1 encU ka kc (fitL xs)]) (by with_reducible (repeat (first | exact Take.here | apply Take.there))) ?_
  refine s_bun ?_
  try simp only [List.cons_append, List.nil_append]
  try simp only [List.cons_append, List.nil_append]
  refine ag_nil ?_
  refine q_not rfl rfl rfl rfl ?_
  refine q_pick_f rfl rfl rfl rfl rfl ?_
  refine q_move rfl rfl rfl rfl ?_
  refine s_bool_np 70 rfl (fun hg => by exfalso; exact hg hLA) (fun hg => ?_)
  refine q_move rfl rfl rfl rfl ?_
  refine q_move rfl rfl rfl rfl ?_
  refine s_take (A := own 1 encU pa pc LA) (by with_reducible (repeat (first | exact Take.here | apply Take.there))) ?_
  refine own_fc fun f_15a f_15b f_15c => ?_
  refine s_take (A := own 1 encU qa qc LA) (by with_reducible (repeat (first | exact Take.here | apply Take.there))) ?_
  refine own_fc fun f_16a f_16b f_16c => ?_
  refine s_heap (fun _ h => Bun.fold ((by (repeat ((with_reducible apply Takes.cons); focus (first | (with_reducible (repeat (first | exact Take.here | apply Take.there)); done) | (repeat (first | exact Take.here | apply Take.there))))); exact Takes.nil : Takes _ [own 1 encU pa pc LA, own 1 encU qa qc LA] _) _ h)) ?_
  have sp_17 := same_spec LA LA pa qa LA.length LA.length pc qc (Bun [own 1 encU pa pc LA, own 1 encU qa qc LA]) (by first | rfl | assumption | omega | (simp; done) | (simp; omega)) (rds_bun (List.mem_cons_self) (rds_own encU_len (fun h => (f_15b h).1) f_15c)) (by first | rfl | assumption | omega | (simp; done) | (simp; omega)) (rds_bun (List.mem_cons_of_mem _ (List.mem_cons_self)) (rds_own encU_len (fun h => (f_16b h).1) f_16c)) (by omega)
  refine l_call rfl rfl rfl rfl rfl rfl Try.call17 (sp_17) (by (repeat ((with_reducible apply Takes.cons); focus (first | (with_reducible (repeat (first | exact Take.here | apply Take.there)); done) | (repeat (first | exact Take.here | apply Take.there))))); exact Takes.nil) ?_
  rintro ⟨⟩ -
  try simp only [List.cons_append, List.nil_append]
  refine s_take (A := Bun [own 1 encU pa pc LA, own 1 encU qa qc LA]) (by with_reducible (repeat (first | exact Take.here | apply Take.there))) ?_
  refine s_bun ?_
  try simp only [List.cons_append, List.nil_append]
  try simp only [List.cons_append, List.nil_append]
  refine ag_nil ?_
  refine q_not rfl rfl rfl rfl ?_
  refine q_pick_f rfl rfl rfl rfl rfl ?_
  refine r_done ?_
  refine s_keep [2, 6, 7, 8, 10, 11, 12, 13, 14, 75] (e' := [(2, _), (6, _), (7, _), (8, _), (10, _), (11, _), (12, _), (13, _), (14, _), (75, _)]) rfl ?_
  refine k_then_n ?_
  refine c_cond_np rfl (fun hg => by exfalso; first | exact hg rfl | exact hg trivial | simp at hg) (fun hg => ?_)
  refine c_skip ?_
  refine k_then_n ?_
  refine c_seq ?_
  refine c_plain ((.l 0 [] ((.l 1 [] (.done))))) (by kernel_rfl) ?_
  refine l_alloc rfl rfl rfl Try.zeroValue3 (zs := [.int .i64 0]) rfl ?_
  intro b15
  refine ag_nil ?_
  refine l_store (j := 0) rfl rfl rfl rfl Try.sizeOf3 (us := [_]) rfl rfl rfl (by with_reducible (repeat (first | exact Take.here | apply Take.there))) (by first | rfl | exact (Nat.add_zero _).symm) (by first | decide | (simp; done) | omega) ?_
  simp only [setL, List.set]
  refine ag_nil ?_
  refine r_done ?_
  refine k_then_n ?_
  refine c_seq ?_
  refine c_seq ?_
  refine c_plain (.q 0 (.done)) (by kernel_rfl) ?_
  refine q_move rfl rfl rfl rfl ?_
  refine r_done ?_
  refine k_then_n ?_
  refine c_block ?_
  refine s_take (A := own 1 encU sa sc LA) (by with_reducible (repeat (first | exact Take.here | apply Take.there))) ?_
  refine own_fc fun hp1 hp2 hp3 => ?_
  refine s_heap (fun _ h => Bun.fold ((by (repeat ((with_reducible apply Takes.cons); focus (first | (with_reducible (repeat (first | exact Take.here | apply Take.there)); done) | (repeat (first | exact Take.here | apply Take.there))))); exact Takes.nil : Takes _ [cells b7 0 [.slice ka (fitL xs).length kc], own 1 encU ka kc (fitL xs), cells b15 0 [.int .i64 ((0 : Nat) : Int)]] _) _ h)) ?_
  refine c_rangeF _ rfl Try.call65 (fun lp => over1_spec (σ := Nat) LA sa LA.length sc sx (own 1 encU sa sc LA) rfl (rds_own encU_len (fun h => (hp2 h).1) hp3) (by omega) (yv lp) (LoopJ lp _ _ _ _ _) (fun q => Bun [cells b7 0 [.slice ka (fitL xs).length kc], own 1 encU ka kc (fitL xs), cells b15 0 [.int .i64 ((q : Nat) : Int)]]) (fun i q => q ≤ i ∧ ∀ j, q ≤ j → j < i → LA.getD j 0 = 0) (fun _ c => False) (fun i x q hx hxz hI => callF_yield rfl (by decide) (by decide) (fun Γ w0 => ?_)) (fun i q hx hI => ⟨by omega, fun j h1 h2 => if h : j < i then hI.2 j h1 h else by obtain rfl : j = i := (by omega); rw [getD_mem hx]⟩) 0 ⟨Nat.le_refl _, fun j h1 h2 => by omega⟩) (by (repeat ((with_reducible apply Takes.cons); focus (first | (with_reducible (repeat (first | exact Take.here | apply Take.there)); done) | (repeat (first | exact Take.here | apply Take.there))))); exact Takes.nil) ?_
  · skip
    try simp only [zipE, List.cons_append, List.nil_append]
    refine s_take (A := Bun [cells b7 0 [.slice ka (fitL xs).length kc], own 1 encU ka kc (fitL xs), cells b15 0 [.int .i64 ((q : Nat) : Int)]]) (by with_reducible (repeat (first | exact Take.here | apply Take.there))) ?_
    refine s_bun ?_
    try simp only [List.cons_append, List.nil_append]
    have hil : i < LA.length := (List.getElem?_eq_some_iff.1 hx).1
    have hgx : (fitL xs).getD i 0 = x := by rw [← hLAg, getD_mem hx]
    obtain ⟨hI1, hI2⟩ := hI
    refine c_seq ?_
    refine c_plain (.q 0 (.done)) (by kernel_rfl) ?_
    refine q_assign rfl rfl rfl rfl ?_
    refine r_done ?_
    refine k_then_n ?_
    refine c_plain (.q 0 (.done)) (by kernel_rfl) ?_
    refine q_assign rfl rfl rfl rfl ?_
    refine r_done ?_
    refine k_then_n ?_
    refine k_begin (by with_reducible (repeat (first | exact Take.here | apply Take.there))) ?_
    refine c_block ?_
    refine c_seq ?_
    refine c_seq ?_
    refine c_plain (.q 0 (.q 1 (.q 2 (.q 3 (.q 4 ((.l 5 [] (.q 6 (.q 7 (.q 8 (.q 9 (.q 10 (.q 11 (.q 12 (.q 13 (.done)))))))))))))))) (by kernel_rfl) ?_
    refine q_move rfl rfl rfl rfl ?_
    refine q_int rfl rfl rfl rfl rfl (b_eql _ _ _ _) ?_
    refine q_move rfl rfl rfl rfl ?_
    refine s_bool_p 81 rfl (fun hg => by exfalso; exact hxz hg) (fun hg => ?_)
    refine q_load_c (j := 0) rfl rfl rfl rfl Try.isAgg23 (by with_reducible (repeat (first | exact Take.here | apply Take.there))) (by first | rfl | exact (Nat.add_zero _).symm) (by rfl) ?_
    refine q_move rfl rfl rfl rfl ?_
    refine s_take (A := own 1 encU ka kc (fitL xs)) (by with_reducible (repeat (first | exact Take.here | apply Take.there))) ?_
    refine own_fc fun f_18a f_18b f_18c => ?_
    have sp_19 := at_spec (fitL xs) ka ((fitL xs).length) kc (own 1 encU ka kc (fitL xs)) (by first | rfl | assumption | omega | (simp; done) | (simp; omega)) (rds_own encU_len (fun h => (f_18b h).1) f_18c) i
    refine l_call rfl rfl rfl rfl rfl rfl Try.call14 (sp_19) (by (repeat ((with_reducible apply Takes.cons); focus (first | (with_reducible (repeat (first | exact Take.here | apply Take.there)); done) | (repeat (first | exact Take.here | apply Take.there))))); exact Takes.nil) ?_
    rintro ⟨⟩ -
    try simp only [List.cons_append, List.nil_append]
    refine ag_nil ?_
    refine q_move rfl rfl rfl rfl ?_
    refine q_int rfl rfl rfl rfl rfl (b_neq _ _ _ _) ?_
    refine q_pick_f rfl rfl rfl rfl rfl ?_
    refine q_move rfl rfl rfl rfl ?_
    refine s_bool_p 88 rfl (fun hg => by exfalso; exact hg hgx) (fun hg => ?_)
    refine q_move rfl rfl rfl rfl ?_
    refine q_load_c (j := 0) rfl rfl rfl rfl Try.isAgg3 (by with_reducible (repeat (first | exact Take.here | apply Take.there))) (by first | rfl | exact (Nat.add_zero _).symm) (by rfl) ?_
    refine q_int rfl rfl rfl rfl rfl (b_lss _ _ _ _) ?_
    refine q_pick_f rfl rfl rfl rfl rfl ?_
    refine r_done ?_
    refine s_keep [6, 15, 16, 92] (e' := [(6, _), (15, _), (16, _), (92, _)]) rfl ?_
    refine k_then_n ?_
    refine c_cond_p rfl (fun hg => by exfalso; omega) (fun hg => ?_)
    refine c_skip ?_
    refine k_then_n ?_
    refine c_plain (.q 0 (.q 1 ((.l 2 [] (.done))))) (by kernel_rfl) ?_
    refine q_move rfl rfl rfl rfl ?_
    refine q_int rfl rfl rfl rfl rfl (b_add' _ (by (first | exact fits_i64 (by omega) (by omega) | exact fits_u64 (by omega) (by omega) | exact fits_u32 (by omega) (by omega) | exact fits_u8 (by omega) (by omega)))) ?_
    refine l_store (j := 0) rfl rfl rfl rfl Try.sizeOf3 (us := [_]) rfl rfl rfl (by with_reducible (repeat (first | exact Take.here | apply Take.there))) (by first | rfl | exact (Nat.add_zero _).symm) (by first | decide | (simp; done) | omega) ?_
    simp only [setL, List.set]
    refine ag_nil ?_
    refine r_done ?_
    refine s_keep [] (e' := []) rfl ?_
    refine k_blk_n ?_
    refine s_heap (fun _ h => Bun.fold ((by (repeat ((with_reducible apply Takes.cons); focus (first | (with_reducible (repeat (first | exact Take.here | apply Take.there)); done) | (repeat (first | exact Take.here | apply Take.there))))); exact Takes.nil : Takes _ [cells b7 0 [.slice ka (fitL xs).length kc], own 1 encU ka kc (fitL xs), cells b15 0 [.int .i64 ((i + 1 : Nat) : Int)]] _) _ h)) ?_
    refine rr_n ((i + 1, none)) (by rfl) (by exact ⟨fun _ => ⟨Nat.le_refl _, fun j h1 h2 => (by omega)⟩, fun c hc => (by cases hc)⟩) (by with_reducible (repeat (first | exact Take.here | apply Take.there))) ?_
    (try simp only [List.cons_append, List.nil_append]); (repeat ((with_reducible apply Takes.cons); focus (first | (with_reducible (repeat (first | exact Take.here | apply Take.there)); done) | (repeat (first | exact Take.here | apply Take.there))))); (repeat (first | exact Takes.nil | exact Takes.self | refine takes_drop2 ?_))
  rintro ⟨q, p1⟩ (⟨h1, h2⟩ | ⟨c_, h1, h2⟩) blk_20
  try simp only [List.cons_append, List.nil_append]
  · skip
    simp only at h1 h2
    subst h1
    obtain ⟨hq1, hq2⟩ := h2
    have hqn := last_nz hLAv.tr hq1 hq2
    show Le _ _
    try simp only [List.cons_append, List.nil_append]
    refine s_take (A := Bun [cells b7 0 [.slice ka (fitL xs).length kc], own 1 encU ka kc (fitL xs), cells b15 0 [.int .i64 ((q : Nat) : Int)]]) (by with_reducible (repeat (first | exact Take.here | apply Take.there))) ?_
    refine s_bun ?_
    try simp only [List.cons_append, List.nil_append]
    refine k_blk_n ?_
    refine k_then_n ?_
    refine c_seq ?_
    refine c_seq ?_
    refine c_draw rfl (.q 0 (.q 1 ((.l 2 [0] (.q 3 (.q 4 (.done))))))) (by kernel_rfl) ?_
    refine q_load_c (j := 0) rfl rfl rfl rfl Try.isAgg3 (by with_reducible (repeat (first | exact Take.here | apply Take.there))) (by first | rfl | exact (Nat.add_zero _).symm) (by rfl) ?_
    refine q_load_c (j := 0) rfl rfl rfl rfl Try.isAgg23 (by with_reducible (repeat (first | exact Take.here | apply Take.there))) (by first | rfl | exact (Nat.add_zero _).symm) (by rfl) ?_
    refine s_take (A := own 1 encU ka kc (fitL xs)) (by with_reducible (repeat (first | exact Take.here | apply Take.there))) ?_
    refine own_fc fun f_21a f_21b f_21c => ?_
    have sp_22 := trimmed_spec (fitL xs) ka ((fitL xs).length) kc (own 1 encU ka kc (fitL xs)) (by first | rfl | assumption | omega | (simp; done) | (simp; omega)) (rds_own encU_len (fun h => (f_21b h).1) f_21c) (by omega) (by omega)
    refine l_call rfl rfl rfl rfl rfl rfl Try.call19 (sp_22) (by (repeat ((with_reducible apply Takes.cons); focus (first | (with_reducible (repeat (first | exact Take.here | apply Take.there)); done) | (repeat (first | exact Take.here | apply Take.there))))); exact Takes.nil) ?_
    rintro ⟨⟩ -
    try simp only [List.cons_append, List.nil_append]
    refine ag_load_c (q := 0) rfl rfl rfl Try.isAgg3 (by with_reducible (repeat (first | exact Take.here | apply Take.there))) (by first | rfl | exact (Nat.add_zero _).symm) (by rfl) ?_
    refine ag_nil ?_
    refine q_len rfl rfl rfl rfl Try.underlying23 ?_
    refine q_int rfl rfl rfl rfl rfl (b_neq _ _ _ _) ?_
    refine r_done ?_
    refine s_keep [2, 6, 7, 8, 10, 11, 12, 13, 99] (e' := [(2, _), (6, _), (7, _), (8, _), (10, _), (11, _), (12, _), (13, _), (99, _)]) rfl ?_
    refine k_then_n ?_
    refine c_cond_p rfl (fun hg => by exfalso; exact hg (by rw [← hLA]; omega)) (fun hg => ?_)
    refine c_skip ?_
    refine k_then_n ?_
    refine c_seq ?_
    refine c_plain (.q 0 ((.l 1 [] (.done)))) (by kernel_rfl) ?_
    refine q_move rfl rfl rfl rfl ?_
    have sp_23 := clear_spec db LA da LA.length dc (by first | rfl | assumption | omega | (simp; done) | (simp; omega)) (by omega)
    refine l_call rfl rfl rfl rfl rfl rfl Try.call25 (sp_23) (by (repeat ((with_reducible apply Takes.cons); focus (first | (with_reducible (repeat (first | exact Take.here | apply Take.there)); done) | (repeat (first | exact Take.here | apply Take.there))))); exact Takes.nil) ?_
    rintro ⟨⟩ -
    try simp only [List.cons_append, List.nil_append]
    refine ag_nil ?_
    refine r_done ?_
    refine k_then_n ?_
    refine c_seq ?_
    refine c_seq ?_
    refine c_plain (.q 0 (.q 1 ((.l 2 [] (.q 3 (.q 4 (.q 5 (.q 6 (.q 7 ((.l 8 [] (.q 9 (.q 10 (.q 11 (.q 12 (.q 13 ((.l 14 [] ((.l 15 [] (.q 16 (.q 17 (.q 18 (.q 19 (.q 20 ((.l 21 [] (.q 22 (.q 23 (.q 24 (.q 25 (.done)))))))))))))))))))))))))))))))) (by kernel_rfl) ?_
    refine q_move rfl rfl rfl rfl ?_
    refine q_move rfl rfl rfl rfl ?_
    have sp_24 := get_spec ab LS ea LS.length ec (by first | rfl | assumption | omega | (simp; done) | (simp; omega)) t
    refine l_call rfl rfl rfl rfl rfl rfl Try.call13 (sp_24) (by (repeat ((with_reducible apply Takes.cons); focus (first | (with_reducible (repeat (first | exact Take.here | apply Take.there)); done) | (repeat (first | exact Take.here | apply Take.there))))); exact Takes.nil) ?_
    rintro ⟨⟩ -
    try simp only [List.cons_append, List.nil_append]
    refine ag_nil ?_
    refine q_move rfl rfl rfl rfl ?_
    refine q_int rfl rfl rfl rfl rfl (b_rem _ (by omega) (by omega)) ?_
    refine q_int rfl rfl rfl rfl rfl (b_neq _ _ _ _) ?_
    refine q_move rfl rfl rfl rfl ?_
    refine s_bool_p 108 rfl (fun hg => by exfalso; exact hg (by rw [hLSg, if_pos rfl])) (fun hg => ?_)
    refine q_move rfl rfl rfl rfl ?_
    have sp_25 := len_spec db ([] : List Int) da 0 dc (by first | rfl | assumption | omega | (simp; done) | (simp; omega))
    refine l_call rfl rfl rfl rfl rfl rfl Try.call20 (sp_25) (by (repeat ((with_reducible apply Takes.cons); focus (first | (with_reducible (repeat (first | exact Take.here | apply Take.there)); done) | (repeat (first | exact Take.here | apply Take.there))))); exact Takes.nil) ?_
    rintro ⟨⟩ -
    try simp only [List.cons_append, List.nil_append]
    refine ag_nil ?_
    refine q_int rfl rfl rfl rfl rfl (b_neq _ _ _ _) ?_
    refine q_pick_f rfl rfl rfl rfl rfl ?_
    refine q_move rfl rfl rfl rfl ?_
    refine s_bool_p 113 rfl (fun hg => by exfalso; first | exact hg rfl | exact hg trivial | simp at hg) (fun hg => ?_)
    refine q_move rfl rfl rfl rfl ?_
    refine q_move rfl rfl rfl rfl ?_
    have sp_26 := set_spec db ([] : List Int) da 0 dc (by first | rfl | assumption | omega | (simp; done) | (simp; omega)) nil_cv t (by omega) 5 (by omega) (by simp only [maxC]; omega)
    refine l_call rfl rfl rfl rfl rfl rfl Try.call24 (sp_26) (by (repeat ((with_reducible apply Takes.cons); focus (first | (with_reducible (repeat (first | exact Take.here | apply Take.there)); done) | (repeat (first | exact Take.here | apply Take.there))))); exact Takes.nil) ?_
    rintro ⟨fa, fc⟩ -
    obtain ⟨LF, hLF⟩ : ∃ L, L = stL ([] : List Int) t 5 := ⟨_, rfl⟩
    rw [← hLF]
    have hLFv : CV LF := by rw [hLF]; exact stL_cv nil_cv (by omega) (by omega) (by simp only [maxC]; omega)
    have hLFl := hLFv.len
    have hLFg : ∀ k, LF.getD k 0 = if k = t then 5 else ([] : List Int).getD k 0 := fun k => by rw [hLF, stL_g]
    try simp only [List.cons_append, List.nil_append]
    refine ag_nil ?_
    have sp_27 := num_spec 0
    refine l_call rfl rfl rfl rfl rfl rfl Try.call23 (sp_27) (by (repeat ((with_reducible apply Takes.cons); focus (first | (with_reducible (repeat (first | exact Take.here | apply Take.there)); done) | (repeat (first | exact Take.here | apply Take.there))))); exact Takes.nil) ?_
    rintro ⟨⟩ -
    try simp only [List.cons_append, List.nil_append]
    refine ag_nil ?_
    refine q_int rfl rfl rfl rfl rfl (b_neq _ _ _ _) ?_
    refine q_pick_f rfl rfl rfl rfl rfl ?_
    refine q_move rfl rfl rfl rfl ?_
    refine s_bool_p 120 rfl (fun hg => by exfalso; first | exact hg rfl | exact hg trivial | simp at hg) (fun hg => ?_)
    refine q_move rfl rfl rfl rfl ?_
    refine q_move rfl rfl rfl rfl ?_
    have sp_28 := get_spec ab LS ea LS.length ec (by first | rfl | assumption | omega | (simp; done) | (simp; omega)) t
    refine l_call rfl rfl rfl rfl rfl rfl Try.call13 (sp_28) (by (repeat ((with_reducible apply Takes.cons); focus (first | (with_reducible (repeat (first | exact Take.here | apply Take.there)); done) | (repeat (first | exact Take.here | apply Take.there))))); exact Takes.nil) ?_
    rintro ⟨⟩ -
    try simp only [List.cons_append, List.nil_append]
    refine ag_nil ?_
    refine q_move rfl rfl rfl rfl ?_
    refine q_int rfl rfl rfl rfl rfl (b_rem _ (by omega) (by omega)) ?_
    refine q_int rfl rfl rfl rfl rfl (b_neq _ _ _ _) ?_
    refine q_pick_f rfl rfl rfl rfl rfl ?_
    refine r_done ?_
    refine s_keep [6, 7, 8, 10, 11, 12, 13, 127] (e' := [(6, _), (7, _), (8, _), (10, _), (11, _), (12, _), (13, _), (127, _)]) rfl ?_
    refine k_then_n ?_
    refine c_cond_p rfl (fun hg => by exfalso; exact hg (by rw [hLSg, if_pos rfl])) (fun hg => ?_)
    refine c_skip ?_
    refine k_then_n ?_
    refine c_seq ?_
    refine c_plain (.q 0 ((.l 1 [] (.q 2 (.done))))) (by kernel_rfl) ?_
    refine q_move rfl rfl rfl rfl ?_
    have sp_29 := list_spec ab LS ea LS.length ec (by first | rfl | assumption | omega | (simp; done) | (simp; omega)) (by omega)
    refine l_call rfl rfl rfl rfl rfl rfl Try.call18 (sp_29) (by (repeat ((with_reducible apply Takes.cons); focus (first | (with_reducible (repeat (first | exact Take.here | apply Take.there)); done) | (repeat (first | exact Take.here | apply Take.there))))); exact Takes.nil) ?_
    rintro ⟨wa, wc⟩ -
    try simp only [List.cons_append, List.nil_append]
    refine ag_nil ?_
    refine q_assign rfl rfl rfl rfl ?_
    refine r_done ?_
    refine k_then_n ?_
    refine c_seq ?_
    refine c_seq ?_
    refine c_plain (.q 0 (.done)) (by kernel_rfl) ?_
    refine q_assign rfl rfl rfl rfl ?_
    refine r_done ?_
    refine k_then_n ?_
    refine c_block ?_
    refine c_loop2 (α := Nat × List Int) (fun (x_ : Nat × List Int) => match x_ with | (i, ow) => i ≤ LA.length ∧ (ow.length = LA.length)) (fun (x_ : Nat × List Int) => match x_ with | (i, ow) => [(19, .int .i64 ((i : Nat) : Int))]) (fun (x_ : Nat × List Int) => match x_ with | (i, ow) => [own 1 encU pa pc ow]) (fun (x_ : Nat × List Int) => match x_ with | (i, ow) => LA.length - i) [6, 7, 8, 10, 11, 12, 13, 18] (er := [(6, _), (7, _), (8, _), (10, _), (11, _), (12, _), (13, _), (18, _)]) rfl (0, LA) ?_ (by exact ⟨rfl, trivial⟩) (by (try dsimp only); (try simp only [Nat.add_zero, Nat.zero_add]); (repeat ((with_reducible apply Takes.cons); focus (first | (with_reducible (repeat (first | exact Take.here | apply Take.there)); done) | (repeat (first | exact Take.here | apply Take.there))))); exact Takes.nil) ?_
    · exact ⟨Nat.zero_le _, rfl⟩
    rintro ⟨i, ow⟩ ⟨hle_i, hol⟩
    try simp only [List.cons_append, List.nil_append]
    refine c_seq ?_
    refine c_seq ?_
    refine c_plain (.q 0 (.q 1 (.q 2 (.q 3 (.done))))) (by kernel_rfl) ?_
    refine q_move rfl rfl rfl rfl ?_
    refine q_move rfl rfl rfl rfl ?_
    refine q_len rfl rfl rfl rfl Try.underlying23 ?_
    refine q_int rfl rfl rfl rfl rfl (b_lss _ _ _ _) ?_
    refine r_done ?_
    refine k_then_n ?_
    refine c_cond_p rfl (fun hlt => ?_) (fun hlt => ?_)
    · skip
      obtain ⟨z, hz⟩ := get_lt (l := ow) (i := i) (by omega)
      refine c_skip ?_
      refine k_then_n ?_
      refine c_seq ?_
      refine c_block ?_
      refine c_plain (.q 0 (.q 1 (.q 2 ((.l 3 [] (.done)))))) (by kernel_rfl) ?_
      refine q_move rfl rfl rfl rfl ?_
      refine q_move rfl rfl rfl rfl ?_
      refine q_idxO (sz := 0) (k := i) (enc := encU) (xs := ow) rfl rfl rfl rfl rfl Try.underlying23 Try.sizeOf30 hz (by first | rfl | omega) (by omega) (by with_reducible (repeat (first | exact Take.here | apply Take.there))) ?_
      intro ib138 io138 ha138 hl138 hc138
      refine l_store_O (j := 0) (k := i) (q := 901) (enc := encU) (off := io138) rfl rfl rfl rfl Try.sizeOf30 (us := [_]) rfl rfl rfl ha138 encU_len hz (by with_reducible (repeat (first | exact Take.here | apply Take.there))) (by first | rfl | exact (Nat.add_zero _).symm | omega) (by first | decide | exact Nat.le_of_ble_eq_true rfl) (by rfl) ?_
      refine ag_nil ?_
      refine r_done ?_
      refine s_keep [6, 7, 8, 10, 11, 12, 13, 18, 19] (e' := [(6, _), (7, _), (8, _), (10, _), (11, _), (12, _), (13, _), (18, _), (19, _)]) rfl ?_
      refine k_blk_n ?_
      refine k_then_n ?_
      refine c_plain (.q 0 (.q 1 (.q 2 (.done)))) (by kernel_rfl) ?_
      refine q_move rfl rfl rfl rfl ?_
      refine q_int rfl rfl rfl rfl rfl (b_add' _ (by (first | exact fits_i64 (by omega) (by omega) | exact fits_u64 (by omega) (by omega) | exact fits_u32 (by omega) (by omega) | exact fits_u8 (by omega) (by omega)))) ?_
      refine q_assign rfl rfl rfl rfl ?_
      refine r_done ?_
      refine k_then_n ?_
      refine loop_next (x := (i, ow)) ((i + 1, ow.set i 901)) ?_ ?_ ?_ ?_
      · try dsimp only
        exact ⟨by omega, by rw [List.length_set]; exact hol⟩
      · show LA.length - (i + 1) < LA.length - i; omega
      · exact ⟨rfl, rfl, rfl, rfl, rfl, rfl, rfl, rfl, rfl, trivial⟩
      · (try simp only [List.cons_append, List.nil_append]); (repeat ((with_reducible apply Takes.cons); focus (first | (with_reducible (repeat (first | exact Take.here | apply Take.there)); done) | (repeat (first | exact Take.here | apply Take.there))))); (repeat (first | exact Takes.nil | exact Takes.self | refine takes_drop2 ?_))
    · skip
      refine c_exit ?_
      refine k_then_exit ?_
      refine k_then_exit ?_
      refine k_blk_here ?_
      refine k_then_n ?_
      refine c_seq ?_
      refine c_plain (.q 0 (.q 1 (.done))) (by kernel_rfl) ?_
      refine q_move rfl rfl rfl rfl ?_
      refine q_assign rfl rfl rfl rfl ?_
      refine r_done ?_
      refine s_keep [6, 7, 8, 10, 11, 12, 13, 18, 20] (e' := [(6, _), (7, _), (8, _), (10, _), (11, _), (12, _), (13, _), (18, _), (20, _)]) rfl ?_
      refine k_then_n ?_
      refine c_seq ?_
      refine c_seq ?_
      refine c_plain (.q 0 (.done)) (by kernel_rfl) ?_
      refine q_assign rfl rfl rfl rfl ?_
      refine r_done ?_
      refine k_then_n ?_
      refine c_block ?_
      refine s_eq 20 rfl (v' := .slice pa ow.length pc) (by rw [hol]) ?_
      refine c_loop2 (α := Nat × List Int × Option Addr × Nat) (fun (x_ : Nat × List Int × Option Addr × Nat) => match x_ with | (k, gl, ga, gc) => k ≤ 70 ∧ (gl.length = LA.length + k)) (fun (x_ : Nat × List Int × Option Addr × Nat) => match x_ with | (k, gl, ga, gc) => [(20, .slice ga gl.length gc), (21, .int .i64 ((k : Nat) : Int))]) (fun (x_ : Nat × List Int × Option Addr × Nat) => match x_ with | (k, gl, ga, gc) => [own 1 encU ga gc gl]) (fun (x_ : Nat × List Int × Option Addr × Nat) => match x_ with | (k, gl, ga, gc) => 70 - k) [6, 7, 8, 10, 11, 12, 13, 18] (er := [(6, _), (7, _), (8, _), (10, _), (11, _), (12, _), (13, _), (18, _)]) rfl (0, ow, pa, pc) ?_ (by exact ⟨rfl, rfl, trivial⟩) (by (try dsimp only); (try simp only [Nat.add_zero, Nat.zero_add]); (repeat ((with_reducible apply Takes.cons); focus (first | (with_reducible (repeat (first | exact Take.here | apply Take.there)); done) | (repeat (first | exact Take.here | apply Take.there))))); exact Takes.nil) ?_
      · exact ⟨Nat.zero_le _, by omega⟩
      rintro ⟨k, gl, ga, gc⟩ ⟨hle_k, hgl⟩
      try simp only [List.cons_append, List.nil_append]
      refine c_seq ?_
      refine c_seq ?_
      refine c_plain (.q 0 (.q 1 (.done))) (by kernel_rfl) ?_
      refine q_move rfl rfl rfl rfl ?_
      refine q_int rfl rfl rfl rfl rfl (b_lss _ _ _ _) ?_
      refine r_done ?_
      refine k_then_n ?_
      refine c_cond_p rfl (fun hlk => ?_) (fun hlk => ?_)
      · skip
        refine c_skip ?_
        refine k_then_n ?_
        refine c_seq ?_
        refine c_block ?_
        refine c_plain (.q 0 ((.l 1 [] ((.l 2 [] (.q 3 (.done))))))) (by kernel_rfl) ?_
        refine q_move rfl rfl rfl rfl ?_
        refine l_buildSlice rfl rfl rfl rfl (run_build1 (us := [_]) Try.underlying23 Try.sizeOf30 rfl Try.zeroValue30 rfl rfl rfl) ?_
        intro b145
        refine ag_nil ?_
        refine l_append (sz := 1) (enc := encU) (xs := gl) rfl rfl rfl rfl rfl Try.underlying23 Try.typeInfo30 rfl rfl rfl (by decide) (by with_reducible (repeat (first | exact Take.here | apply Take.there))) (by with_reducible (repeat (first | exact Take.here | apply Take.there))) (by first | rfl | omega | (simp; done) | (simp; omega)) (ys := [901]) (rds_some rdn_cells) (by rfl) (by first | rfl | omega) (encU_len) (encU_one) (by omega) (by show _ * 8 ≤ _; omega) ?_
        intro ao146 cp146
        refine ag_nil ?_
        refine q_assign rfl rfl rfl rfl ?_
        refine r_done ?_
        refine s_keep [6, 7, 8, 10, 11, 12, 13, 18, 20, 21] (e' := [(6, _), (7, _), (8, _), (10, _), (11, _), (12, _), (13, _), (18, _), (20, _), (21, _)]) rfl ?_
        refine k_blk_n ?_
        refine k_then_n ?_
        refine c_plain (.q 0 (.q 1 (.q 2 (.done)))) (by kernel_rfl) ?_
        refine q_move rfl rfl rfl rfl ?_
        refine q_int rfl rfl rfl rfl rfl (b_add' _ (by (first | exact fits_i64 (by omega) (by omega) | exact fits_u64 (by omega) (by omega) | exact fits_u32 (by omega) (by omega) | exact fits_u8 (by omega) (by omega)))) ?_
        refine q_assign rfl rfl rfl rfl ?_
        refine r_done ?_
        refine k_then_n ?_
        refine s_eq 20 rfl (v' := .slice ao146 (gl ++ [901]).length cp146) (by simp) ?_
        refine loop_next (x := (k, gl, ga, gc)) ((k + 1, gl ++ [901], ao146, cp146)) ?_ ?_ ?_ ?_
        · try dsimp only
          exact ⟨by omega, by rw [List.length_append, hgl]; rfl⟩
        · show 70 - (k + 1) < 70 - k; omega
        · exact ⟨rfl, rfl, rfl, rfl, rfl, rfl, rfl, rfl, rfl, rfl, trivial⟩
        · (try simp only [List.cons_append, List.nil_append]); (repeat ((with_reducible apply Takes.cons); focus (first | (with_reducible (repeat (first | exact Take.here | apply Take.there)); done) | (repeat (first | exact Take.here | apply Take.there))))); (repeat (first | exact Takes.nil | exact Takes.self | refine takes_drop2 ?_))
      · skip
        refine c_exit ?_
        refine k_then_exit ?_
        refine k_then_exit ?_
        refine k_blk_here ?_
        refine k_then_n ?_
        refine c_seq ?_
        refine c_seq ?_
        refine c_plain (.q 0 (.q 1 ((.l 2 [] ((.l 3 [] (.q 4 (.q 5 (.q 6 ((.l 7 [] (.q 8 ((.l 9 [] (.q 10 (.q 11 (.q 12 (.q 13 (.q 14 (.q 15 (.q 16 (.q 17 (.q 18 (.q 19 (.done))))))))))))))))))))))))) (by kernel_rfl) ?_
        refine q_move rfl rfl rfl rfl ?_
        refine q_load_c (j := 0) rfl rfl rfl rfl Try.isAgg23 (by with_reducible (repeat (first | exact Take.here | apply Take.there))) (by first | rfl | exact (Nat.add_zero _).symm) (by rfl) ?_
        refine s_take (A := own 1 encU ka kc (fitL xs)) (by with_reducible (repeat (first | exact Take.here | apply Take.there))) ?_
        refine own_fc fun f_30a f_30b f_30c => ?_
        have sp_31 := trimmed_spec (fitL xs) ka ((fitL xs).length) kc (own 1 encU ka kc (fitL xs)) (by first | rfl | assumption | omega | (simp; done) | (simp; omega)) (rds_own encU_len (fun h => (f_30b h).1) f_30c) (by omega) (by omega)
        refine l_call rfl rfl rfl rfl rfl rfl Try.call19 (sp_31) (by (repeat ((with_reducible apply Takes.cons); focus (first | (with_reducible (repeat (first | exact Take.here | apply Take.there)); done) | (repeat (first | exact Take.here | apply Take.there))))); exact Takes.nil) ?_
        rintro ⟨⟩ -
        try simp only [List.cons_append, List.nil_append]
        refine ag_nil ?_
        refine s_take (A := own 1 encU qa qc LA) (by with_reducible (repeat (first | exact Take.here | apply Take.there))) ?_
        refine own_fc fun f_32a f_32b f_32c => ?_
        refine s_heap (fun _ h => Bun.fold ((by (repeat ((with_reducible apply Takes.cons); focus (first | (with_reducible (repeat (first | exact Take.here | apply Take.there)); done) | (repeat (first | exact Take.here | apply Take.there))))); exact Takes.nil : Takes _ [own 1 encU qa qc LA, own 1 encU ka kc (fitL xs)] _) _ h)) ?_
        have sp_33 := same_spec LA (tr (fitL xs)) qa ka LA.length ((tr (fitL xs)).length) qc kc (Bun [own 1 encU qa qc LA, own 1 encU ka kc (fitL xs)]) (by first | rfl | assumption | omega | (simp; done) | (simp; omega)) (rds_bun (List.mem_cons_self) (rds_own encU_len (fun h => (f_32b h).1) f_32c)) (by first | rfl | assumption | omega | (simp; done) | (simp; omega)) (rds_bun (List.mem_cons_of_mem _ (List.mem_cons_self)) ((rds_take (rds_own encU_len (fun h => (f_30b h).1) f_30c) encU_len _))) (by omega)
        refine l_call rfl rfl rfl rfl rfl rfl Try.call17 (sp_33) (by (repeat ((with_reducible apply Takes.cons); focus (first | (with_reducible (repeat (first | exact Take.here | apply Take.there)); done) | (repeat (first | exact Take.here | apply Take.there))))); exact Takes.nil) ?_
        rintro ⟨⟩ -
        try simp only [List.cons_append, List.nil_append]
        refine s_take (A := Bun [own 1 encU qa qc LA, own 1 encU ka kc (fitL xs)]) (by with_reducible (repeat (first | exact Take.here | apply Take.there))) ?_
        refine s_bun ?_
        try simp only [List.cons_append, List.nil_append]
        try simp only [List.cons_append, List.nil_append]
        refine ag_nil ?_
        refine q_not rfl rfl rfl rfl ?_
        refine q_move rfl rfl rfl rfl ?_
        refine s_bool_np 152 rfl (fun hg => by exfalso; exact hg hLA) (fun hg => ?_)
        refine q_move rfl rfl rfl rfl ?_
        have sp_34 := list_spec ab LS ea LS.length ec (by first | rfl | assumption | omega | (simp; done) | (simp; omega)) (by omega)
        refine l_call rfl rfl rfl rfl rfl rfl Try.call18 (sp_34) (by (repeat ((with_reducible apply Takes.cons); focus (first | (with_reducible (repeat (first | exact Take.here | apply Take.there)); done) | (repeat (first | exact Take.here | apply Take.there))))); exact Takes.nil) ?_
        rintro ⟨ya, yc⟩ -
        try simp only [List.cons_append, List.nil_append]
        refine ag_nil ?_
        refine q_move rfl rfl rfl rfl ?_
        refine s_take (A := own 1 encU ya yc LS) (by with_reducible (repeat (first | exact Take.here | apply Take.there))) ?_
        refine own_fc fun f_35a f_35b f_35c => ?_
        refine s_take (A := own 1 encU wa wc LS) (by with_reducible (repeat (first | exact Take.here | apply Take.there))) ?_
        refine own_fc fun f_36a f_36b f_36c => ?_
        refine s_heap (fun _ h => Bun.fold ((by (repeat ((with_reducible apply Takes.cons); focus (first | (with_reducible (repeat (first | exact Take.here | apply Take.there)); done) | (repeat (first | exact Take.here | apply Take.there))))); exact Takes.nil : Takes _ [own 1 encU ya yc LS, own 1 encU wa wc LS] _) _ h)) ?_
        have sp_37 := same_spec LS LS ya wa LS.length LS.length yc wc (Bun [own 1 encU ya yc LS, own 1 encU wa wc LS]) (by first | rfl | assumption | omega | (simp; done) | (simp; omega)) (rds_bun (List.mem_cons_self) (rds_own encU_len (fun h => (f_35b h).1) f_35c)) (by first | rfl | assumption | omega | (simp; done) | (simp; omega)) (rds_bun (List.mem_cons_of_mem _ (List.mem_cons_self)) (rds_own encU_len (fun h => (f_36b h).1) f_36c)) (by omega)
        refine l_call rfl rfl rfl rfl rfl rfl Try.call17 (sp_37) (by (repeat ((with_reducible apply Takes.cons); focus (first | (with_reducible (repeat (first | exact Take.here | apply Take.there)); done) | (repeat (first | exact Take.here | apply Take.there))))); exact Takes.nil) ?_
        rintro ⟨⟩ -
        try simp only [List.cons_append, List.nil_append]
        refine s_take (A := Bun [own 1 encU ya yc LS, own 1 encU wa wc LS]) (by with_reducible (repeat (first | exact Take.here | apply Take.there))) ?_
        refine s_bun ?_
        try simp only [List.cons_append, List.nil_append]
        try simp only [List.cons_append, List.nil_append]
        refine ag_nil ?_
        refine q_not rfl rfl rfl rfl ?_
        refine q_pick_f rfl rfl rfl rfl rfl ?_
        refine q_move rfl rfl rfl rfl ?_
        refine s_bool_np 159 rfl (fun hg => by exfalso; first | exact hg rfl | exact hg trivial | simp at hg) (fun hg => ?_)
        refine q_move rfl rfl rfl rfl ?_
        refine q_len rfl rfl rfl rfl Try.underlying23 ?_
        refine q_move rfl rfl rfl rfl ?_
        refine q_len rfl rfl rfl rfl Try.underlying23 ?_
        refine q_int rfl rfl rfl rfl rfl (b_add' _ (by (first | exact fits_i64 (by omega) (by omega) | exact fits_u64 (by omega) (by omega) | exact fits_u32 (by omega) (by omega) | exact fits_u8 (by omega) (by omega)))) ?_
        refine q_int rfl rfl rfl rfl rfl (b_neq _ _ _ _) ?_
        refine q_pick_f rfl rfl rfl rfl rfl ?_
        refine r_done ?_
        refine s_keep [6, 7, 8, 10, 11, 13, 166] (e' := [(6, _), (7, _), (8, _), (10, _), (11, _), (13, _), (166, _)]) rfl ?_
        refine k_then_n ?_
        refine c_cond_p rfl (fun hg => by exfalso; omega) (fun hg => ?_)
        refine c_skip ?_
        refine k_then_n ?_
        refine c_seq ?_
        refine c_plain (.q 0 ((.l 1 [] (.done)))) (by kernel_rfl) ?_
        refine q_move rfl rfl rfl rfl ?_
        have sp_38 := clear_spec ab LS ea LS.length ec (by first | rfl | assumption | omega | (simp; done) | (simp; omega)) (by omega)
        refine l_call rfl rfl rfl rfl rfl rfl Try.call25 (sp_38) (by (repeat ((with_reducible apply Takes.cons); focus (first | (with_reducible (repeat (first | exact Take.here | apply Take.there)); done) | (repeat (first | exact Take.here | apply Take.there))))); exact Takes.nil) ?_
        rintro ⟨⟩ -
        try simp only [List.cons_append, List.nil_append]
        refine ag_nil ?_
        refine r_done ?_
        refine k_then_n ?_
        refine c_seq ?_
        refine c_plain (.q 0 (.q 1 ((.l 2 [] ((.l 3 [] (.q 4 (.q 5 ((.l 6 [] (.q 7 (.q 8 (.q 9 (.q 10 (.q 11 ((.l 12 [] (.q 13 (.q 14 ((.l 15 [] (.done)))))))))))))))))))))) (by kernel_rfl) ?_
        refine q_move rfl rfl rfl rfl ?_
        refine q_load_c (j := 0) rfl rfl rfl rfl Try.isAgg23 (by with_reducible (repeat (first | exact Take.here | apply Take.there))) (by first | rfl | exact (Nat.add_zero _).symm) (by rfl) ?_
        refine s_take (A := own 1 encU ka kc (fitL xs)) (by with_reducible (repeat (first | exact Take.here | apply Take.there))) ?_
        refine own_fc fun f_39a f_39b f_39c => ?_
        have sp_40 := trimmed_spec (fitL xs) ka ((fitL xs).length) kc (own 1 encU ka kc (fitL xs)) (by first | rfl | assumption | omega | (simp; done) | (simp; omega)) (rds_own encU_len (fun h => (f_39b h).1) f_39c) (by omega) (by omega)
        refine l_call rfl rfl rfl rfl rfl rfl Try.call19 (sp_40) (by (repeat ((with_reducible apply Takes.cons); focus (first | (with_reducible (repeat (first | exact Take.here | apply Take.there)); done) | (repeat (first | exact Take.here | apply Take.there))))); exact Takes.nil) ?_
        rintro ⟨⟩ -
        try simp only [List.cons_append, List.nil_append]
        refine ag_nil ?_
        refine s_take (A := own 1 encU qa qc LA) (by with_reducible (repeat (first | exact Take.here | apply Take.there))) ?_
        refine own_fc fun f_41a f_41b f_41c => ?_
        refine s_heap (fun _ h => Bun.fold ((by (repeat ((with_reducible apply Takes.cons); focus (first | (with_reducible (repeat (first | exact Take.here | apply Take.there)); done) | (repeat (first | exact Take.here | apply Take.there))))); exact Takes.nil : Takes _ [own 1 encU qa qc LA, own 1 encU ka kc (fitL xs)] _) _ h)) ?_
        have sp_42 := same_spec LA (tr (fitL xs)) qa ka LA.length ((tr (fitL xs)).length) qc kc (Bun [own 1 encU qa qc LA, own 1 encU ka kc (fitL xs)]) (by first | rfl | assumption | omega | (simp; done) | (simp; omega)) (rds_bun (List.mem_cons_self) (rds_own encU_len (fun h => (f_41b h).1) f_41c)) (by first | rfl | assumption | omega | (simp; done) | (simp; omega)) (rds_bun (List.mem_cons_of_mem _ (List.mem_cons_self)) ((rds_take (rds_own encU_len (fun h => (f_39b h).1) f_39c) encU_len _))) (by omega)
        refine l_call rfl rfl rfl rfl rfl rfl Try.call17 (sp_42) (by (repeat ((with_reducible apply Takes.cons); focus (first | (with_reducible (repeat (first | exact Take.here | apply Take.there)); done) | (repeat (first | exact Take.here | apply Take.there))))); exact Takes.nil) ?_
        rintro ⟨⟩ -
        try simp only [List.cons_append, List.nil_append]
        refine s_take (A := Bun [own 1 encU qa qc LA, own 1 encU ka kc (fitL xs)]) (by with_reducible (repeat (first | exact Take.here | apply Take.there))) ?_
        refine s_bun ?_
        try simp only [List.cons_append, List.nil_append]
        try simp only [List.cons_append, List.nil_append]
        refine ag_nil ?_
        refine q_move rfl rfl rfl rfl ?_
        refine s_bool_p 173 rfl (fun hg => ?_) (fun hg => by exfalso; exact hg hLA)
        refine q_move rfl rfl rfl rfl ?_
        have sp_43 := len_spec ab ([] : List Int) ea 0 ec (by first | rfl | assumption | omega | (simp; done) | (simp; omega))
        refine l_call rfl rfl rfl rfl rfl rfl Try.call20 (sp_43) (by (repeat ((with_reducible apply Takes.cons); focus (first | (with_reducible (repeat (first | exact Take.here | apply Take.there)); done) | (repeat (first | exact Take.here | apply Take.there))))); exact Takes.nil) ?_
        rintro ⟨⟩ -
        try simp only [List.cons_append, List.nil_append]
        refine ag_nil ?_
        refine q_int rfl rfl rfl rfl rfl (b_eql _ _ _ _) ?_
        refine q_pick_t rfl rfl rfl rfl rfl ?_
        refine q_move rfl rfl rfl rfl ?_
        refine s_bool_p 178 rfl (fun hg => ?_) (fun hg => by exfalso; first | exact hg rfl | exact hg trivial | simp at hg)
        refine q_move rfl rfl rfl rfl ?_
        refine q_move rfl rfl rfl rfl ?_
        have sp_44 := get_spec db LF fa LF.length fc (by first | rfl | assumption | omega | (simp; done) | (simp; omega)) t
        refine l_call rfl rfl rfl rfl rfl rfl Try.call13 (sp_44) (by (repeat ((with_reducible apply Takes.cons); focus (first | (with_reducible (repeat (first | exact Take.here | apply Take.there)); done) | (repeat (first | exact Take.here | apply Take.there))))); exact Takes.nil) ?_
        rintro ⟨⟩ -
        try simp only [List.cons_append, List.nil_append]
        refine ag_nil ?_
        refine q_int rfl rfl rfl rfl rfl (b_eql _ _ _ _) ?_
        refine s_eq 182 rfl (v' := .bool true) (by rw [hLFg, if_pos rfl]; rfl) ?_
        refine q_pick_t rfl rfl rfl rfl rfl ?_
        refine l_store (j := 0) rfl rfl rfl rfl Try.sizeOf4 (us := [_]) rfl rfl rfl (by with_reducible (repeat (first | exact Take.here | apply Take.there))) (by first | rfl | exact (Nat.add_zero _).symm) (by first | decide | (simp; done) | omega) ?_
        simp only [setL, List.set]
        refine ag_nil ?_
        refine r_done ?_
        refine s_keep [6] (e' := [(6, _)]) rfl ?_
        refine k_then_n ?_
        refine c_ret ?_
        refine rm_ret ?_
        refine rm_mark (blk := blk_20) (by with_reducible (repeat (first | exact Take.here | apply Take.there))) ?_
        refine rm_done (us := [_]) rfl ⟨rv_cell1 rfl Try.isAgg4 (by with_reducible (repeat (first | exact Take.here | apply Take.there))) (j := 0) rfl rfl, trivial⟩ (()) (by first | rfl | (first | rfl | (congr 1; done) | (congr 1 <;> first | rfl | omega | (simp; done) | (simp; omega)))) (by trivial) ?_
        (repeat ((with_reducible apply Takes.cons); focus (first | (with_reducible (repeat (first | exact Take.here | apply Take.there)); done) | (repeat (first | exact Take.here | apply Take.there))))); (repeat (first | exact Takes.nil | exact Takes.self | refine takes_drop2 ?_))
  · skip
    exact h2.elim
end Go.Ab.Vc
