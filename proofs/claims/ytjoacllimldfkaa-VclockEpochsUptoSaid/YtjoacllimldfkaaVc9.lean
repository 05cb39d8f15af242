/- Package vclock: the law Epochs. -/
import Derived.Test.YtjoacllimldfkaaVc8
set_option linter.unusedVariables false
set_option linter.unusedSimpArgs false
set_option maxRecDepth 100000
namespace Go.Ab.Vc
open Go Go.Proofs Go.Ab
def icE (l : List Int) (i : Nat) : List Int := if l.getD i 0 = maxC then l else icL l i
def icN (l : List Int) (i : Nat) : Int := if l.getD i 0 = maxC then 0 else l.getD i 0 + 1
def icF (l : List Int) (i : Nat) : Int := if l.getD i 0 = maxC then 30 else 0
theorem inc_all (b : Nat) (l : List Int) (ao : Option Addr) (n cap : Nat) (hn : l.length = n) (hl : CV l) (i : Nat) (hi : i < 65535) : Spec Try.prog 28 [.pointer (some ⟨b, 0, none⟩), .int .i64 ((i : Nat) : Int)] [cells b 0 [.slice ao n cap], own 1 encU ao cap l] (fun (r : Option Addr × Nat) => .tuple #[.int .u64 (icN l i), .int .i64 (icF l i)]) (fun r => True) (fun r => [cells b 0 [.slice r.1 (icE l i).length r.2], own 1 encU r.1 r.2 (icE l i)]) := by
  refine spec_mk (n := 36) Try.func28 rfl rfl rfl ?_
  intro Γ w0
  simp only [argE, List.cons_append, List.nil_append, Nat.zero_add, Nat.reduceAdd]
  have hll := hl.len
  refine c_seq ?_
  refine c_plain (.q 0 (.q 1 (.done))) (by kernel_rfl) ?_
  refine q_assign rfl rfl rfl rfl ?_
  refine q_assign rfl rfl rfl rfl ?_
  refine r_done ?_
  refine k_then_n ?_
  refine c_seq ?_
  refine c_seq ?_
  refine c_plain (.q 0 (.q 1 ((.l 2 [] (.q 3 (.done)))))) (by kernel_rfl) ?_
  refine q_move rfl rfl rfl rfl ?_
  refine q_move rfl rfl rfl rfl ?_
  have sp_1 := wrong_spec b i (by omega)
  refine l_call rfl rfl rfl rfl rfl rfl Try.call42 (sp_1) (by (repeat ((with_reducible apply Takes.cons); focus (first | (with_reducible (repeat (first | exact Take.here | apply Take.there)); done) | (repeat (first | exact Take.here | apply Take.there))))); exact Takes.nil) ?_
  rintro ⟨⟩ -
  try simp only [List.cons_append, List.nil_append]
  refine ag_nil ?_
  refine q_assign rfl rfl rfl rfl ?_
  refine r_done ?_
  refine s_keep [0, 1, 6] (e' := [(0, _), (1, _), (6, _)]) rfl ?_
  refine k_then_n ?_
  refine c_seq ?_
  refine c_plain (.q 0 (.q 1 (.done))) (by kernel_rfl) ?_
  refine q_move rfl rfl rfl rfl ?_
  refine q_int rfl rfl rfl rfl rfl (b_neq _ _ _ _) ?_
  refine r_done ?_
  refine k_then_n ?_
  refine c_cond_p rfl (fun hg => by exfalso; exact hg rfl) (fun hg => ?_)
  refine c_skip ?_
  refine k_then_n ?_
  refine c_seq ?_
  refine c_seq ?_
  refine c_plain (.q 0 (.q 1 ((.l 2 [] (.q 3 (.done)))))) (by kernel_rfl) ?_
  refine q_move rfl rfl rfl rfl ?_
  refine q_move rfl rfl rfl rfl ?_
  have sp_2 := get_spec b l ao n cap (by first | rfl | assumption | omega | (simp; done) | (simp; omega)) i
  refine l_call rfl rfl rfl rfl rfl rfl Try.call13 (sp_2) (by (repeat ((with_reducible apply Takes.cons); focus (first | (with_reducible (repeat (first | exact Take.here | apply Take.there)); done) | (repeat (first | exact Take.here | apply Take.there))))); exact Takes.nil) ?_
  rintro ⟨⟩ -
  try simp only [List.cons_append, List.nil_append]
  refine ag_nil ?_
  refine q_int rfl rfl rfl rfl rfl (b_eql _ _ _ _) ?_
  refine r_done ?_
  refine s_keep [0, 1, 16] (e' := [(0, _), (1, _), (16, _)]) rfl ?_
  refine k_then_n ?_
  refine c_cond_p rfl (fun hm => ?_) (fun hm => ?_)
  · skip
    rw [show icE l i = l from if_pos hm, show icN l i = 0 from if_pos hm, show icF l i = 30 from if_pos hm]
    refine c_seq ?_
    refine c_plain (.q 0 (.q 1 (.done))) (by kernel_rfl) ?_
    refine q_assign rfl rfl rfl rfl ?_
    refine q_assign rfl rfl rfl rfl ?_
    refine r_done ?_
    refine k_then_n ?_
    refine c_ret ?_
    refine k_then_ret ?_
    refine s_take (A := cells b 0 [.slice ao n cap]) (by first | (with_reducible (repeat (first | exact Take.here | apply Take.there)); done) | (repeat (first | exact Take.here | apply Take.there))) ?_
    refine s_heap (Γ' := cells b 0 [.slice ao l.length cap] :: _) (fun _ h => (by rw [hn]; exact h)) ?_
    refine ret2 rfl rfl rfl ((ao, cap)) (by first | rfl | (first | rfl | (congr 1; done) | (congr 1 <;> first | rfl | omega | (simp; done) | (simp; omega)))) (by trivial) ?_
    (repeat ((with_reducible apply Takes.cons); focus (first | (with_reducible (repeat (first | exact Take.here | apply Take.there)); done) | (repeat (first | exact Take.here | apply Take.there))))); (repeat (first | exact Takes.nil | exact Takes.self | refine takes_drop2 ?_))
  · skip
    rw [show icE l i = icL l i from if_neg hm, show icN l i = l.getD i 0 + 1 from if_neg hm, show icF l i = 0 from if_neg hm]
    refine c_skip ?_
    refine k_then_n ?_
    refine c_seq ?_
    refine c_plain (.q 0 (.q 1 ((.l 2 [] (.done))))) (by kernel_rfl) ?_
    refine q_move rfl rfl rfl rfl ?_
    refine q_move rfl rfl rfl rfl ?_
    refine s_eq 18 rfl (v' := .int .i64 ((((i + 1 : Nat)) : Int) - 1)) (by congr 1; omega) ?_
    have sp_3 := reach_spec b l (i + 1) ao n cap (by first | rfl | assumption | omega | (simp; done) | (simp; omega)) (by omega)
    refine l_call rfl rfl rfl rfl rfl rfl Try.call43 (sp_3) (by (repeat ((with_reducible apply Takes.cons); focus (first | (with_reducible (repeat (first | exact Take.here | apply Take.there)); done) | (repeat (first | exact Take.here | apply Take.there))))); exact Takes.nil) ?_
    rintro ⟨re_a, re_c⟩ -
    try simp only [List.cons_append, List.nil_append]
    refine ag_nil ?_
    refine r_done ?_
    refine s_keep [0, 1] (e' := [(0, _), (1, _)]) rfl ?_
    refine k_then_n ?_
    refine c_seq ?_
    have hpl := pd_len l (i + 1)
    obtain ⟨x, hx⟩ := get_lt (l := pd l (i + 1)) (i := i) (by omega)
    have hxe : x = l.getD i 0 := by rw [← pd_g l (i + 1) i, getD_mem hx]
    have hgr := g_rng hl.rng (by decide) i
    refine c_plain (.q 0 (.q 1 (.q 2 (.q 3 (.q 4 (.q 5 (.q 6 (.q 7 (.q 8 ((.l 9 [] (.done)))))))))))) (by kernel_rfl) ?_
    refine q_move rfl rfl rfl rfl ?_
    refine q_nil_p rfl rfl rfl rfl ?_
    refine q_field (k := 0) rfl rfl rfl rfl Try.underlying64 rfl Try.sizeOf23 rfl ?_
    refine q_load_c (j := 0) rfl rfl rfl rfl Try.isAgg23 (by with_reducible (repeat (first | exact Take.here | apply Take.there))) (by first | rfl | exact (Nat.add_zero _).symm) (by rfl) ?_
    refine q_move rfl rfl rfl rfl ?_
    refine q_idxO (sz := 0) (k := i) (enc := encU) (xs := (pd l (i + 1))) rfl rfl rfl rfl rfl Try.underlying23 Try.sizeOf30 hx (by first | rfl | omega) (by omega) (by with_reducible (repeat (first | exact Take.here | apply Take.there))) ?_
    intro ib25 io25 ha25 hl25 hc25
    refine q_load_O (v := (.int .u64 x)) (j := 0) (k' := i) (enc := encU) (off := io25) rfl rfl rfl rfl Try.isAgg30 ha25 encU_len hx (by with_reducible (repeat (first | exact Take.here | apply Take.there))) (by first | rfl | exact (Nat.add_zero _).symm | omega) (by rfl) ?_
    refine q_int rfl rfl rfl rfl rfl (b_add' _ (by exact fits_u64 (by omega) (by simp only [maxC] at hgr; omega))) ?_
    refine q_idxO (sz := 0) (k := i) (enc := encU) (xs := (pd l (i + 1))) rfl rfl rfl rfl rfl Try.underlying23 Try.sizeOf30 hx (by first | rfl | omega) (by omega) (by with_reducible (repeat (first | exact Take.here | apply Take.there))) ?_
    intro ib28 io28 ha28 hl28 hc28
    refine l_store_O (j := 0) (k := i) (q := (x + 1)) (enc := encU) (off := io28) rfl rfl rfl rfl Try.sizeOf30 (us := [_]) rfl rfl rfl ha28 encU_len hx (by with_reducible (repeat (first | exact Take.here | apply Take.there))) (by first | rfl | exact (Nat.add_zero _).symm | omega) (by first | decide | exact Nat.le_of_ble_eq_true rfl) (by rfl) ?_
    refine ag_nil ?_
    refine r_done ?_
    refine s_keep [0, 1] (e' := [(0, _), (1, _)]) rfl ?_
    refine k_then_n ?_
    refine c_seq ?_
    rw [show (pd l (i + 1)).set i (x + 1) = icL l i from by rw [icL, hxe]]
    have hx2 : (icL l i)[i]? = some (x + 1) := by rw [icL, List.getElem?_set_self (by omega), hxe]
    have hil : (icL l i).length = (pd l (i + 1)).length := by rw [icL, List.length_set]
    refine c_plain (.q 0 (.q 1 (.q 2 (.q 3 (.q 4 (.q 5 (.q 6 (.q 7 (.q 8 (.done)))))))))) (by kernel_rfl) ?_
    refine q_move rfl rfl rfl rfl ?_
    refine q_nil_p rfl rfl rfl rfl ?_
    refine q_field (k := 0) rfl rfl rfl rfl Try.underlying64 rfl Try.sizeOf23 rfl ?_
    refine q_load_c (j := 0) rfl rfl rfl rfl Try.isAgg23 (by with_reducible (repeat (first | exact Take.here | apply Take.there))) (by first | rfl | exact (Nat.add_zero _).symm) (by rfl) ?_
    refine q_move rfl rfl rfl rfl ?_
    refine q_idxO (sz := 0) (k := i) (enc := encU) (xs := (icL l i)) rfl rfl rfl rfl rfl Try.underlying23 Try.sizeOf30 hx2 (by first | rfl | omega) (by omega) (by with_reducible (repeat (first | exact Take.here | apply Take.there))) ?_
    intro ib34 io34 ha34 hl34 hc34
    refine q_load_O (v := (.int .u64 (x + 1))) (j := 0) (k' := i) (enc := encU) (off := io34) rfl rfl rfl rfl Try.isAgg30 ha34 encU_len hx2 (by with_reducible (repeat (first | exact Take.here | apply Take.there))) (by first | rfl | exact (Nat.add_zero _).symm | omega) (by rfl) ?_
    refine q_assign rfl rfl rfl rfl ?_
    refine q_assign rfl rfl rfl rfl ?_
    refine r_done ?_
    refine s_keep [4, 5] (e' := [(4, _), (5, _)]) rfl ?_
    refine k_then_n ?_
    refine c_ret ?_
    refine s_take (A := cells b 0 [.slice re_a (pd l (i + 1)).length re_c]) (by first | (with_reducible (repeat (first | exact Take.here | apply Take.there)); done) | (repeat (first | exact Take.here | apply Take.there))) ?_
    refine s_heap (Γ' := cells b 0 [.slice re_a (icL l i).length re_c] :: _) (fun _ h => (by rw [hil]; exact h)) ?_
    refine ret2 rfl rfl rfl ((re_a, re_c)) (by rw [hxe]) (by trivial) ?_
    (repeat ((with_reducible apply Takes.cons); focus (first | (with_reducible (repeat (first | exact Take.here | apply Take.there)); done) | (repeat (first | exact Take.here | apply Take.there))))); (repeat (first | exact Takes.nil | exact Takes.self | refine takes_drop2 ?_))

theorem epochs_spec (xs : List Int) (xo : Option Addr) (xn xd : Nat) (A : HProp) (hxn : xs.length = xn) (hrx : RdS A xo (xs.flatMap encU)) (hx0 : ∀ x ∈ xs, 0 ≤ x) (hxb : xn ≤ 1048576) (th : Int) : Spec Try.prog 6 [.slice xo xn xd, .int .i64 th] [A] (fun (_ : Unit) => .bool true) (fun _ => True) (fun _ => [A]) := by
  refine spec_mk (n := 160) Try.func6 rfl rfl rfl ?_
  intro Γ w0
  simp only [argE, List.cons_append, List.nil_append, Nat.zero_add, Nat.reduceAdd]
  refine c_seq ?_
  refine c_plain (.q 0 (.done)) (by kernel_rfl) ?_
  refine q_assign rfl rfl rfl rfl ?_
  refine r_done ?_
  refine k_then_n ?_
  refine c_seq ?_
  refine c_plain (.q 0 ((.l 1 [] (.q 2 (.done))))) (by kernel_rfl) ?_
  refine q_move rfl rfl rfl rfl ?_
  have sp_1 := fit_spec xs xo xn xd A hxn hrx hx0 (by omega)
  refine l_call rfl rfl rfl rfl rfl rfl Try.call9 (sp_1) (by (repeat ((with_reducible apply Takes.cons); focus (first | (with_reducible (repeat (first | exact Take.here | apply Take.there)); done) | (repeat (first | exact Take.here | apply Take.there))))); exact Takes.nil) ?_
  rintro ⟨ka, kc⟩ -
  have hkl := fit_len xs
  try simp only [List.cons_append, List.nil_append]
  refine ag_nil ?_
  refine q_assign rfl rfl rfl rfl ?_
  refine r_done ?_
  refine s_keep [1, 5] (e' := [(1, _), (5, _)]) rfl ?_
  refine k_then_n ?_
  refine c_seq ?_
  refine c_plain (.q 0 ((.l 1 [] (.q 2 (.q 3 (.q 4 (.q 5 (.q 6 (.done))))))))) (by kernel_rfl) ?_
  refine q_move rfl rfl rfl rfl ?_
  refine s_take (A := own 1 encU ka kc (fitL xs)) (by with_reducible (repeat (first | exact Take.here | apply Take.there))) ?_
  refine own_fc fun f_2a f_2b f_2c => ?_
  have sp_3 := made_spec (fitL xs) ka ((fitL xs).length) kc (own 1 encU ka kc (fitL xs)) (by first | rfl | assumption | omega | (simp; done) | (simp; omega)) (rds_own encU_len (fun h => (f_2b h).1) f_2c) (by omega) (by exact fit_rng _)
  refine l_call rfl rfl rfl rfl rfl rfl Try.call10 (sp_3) (by (repeat ((with_reducible apply Takes.cons); focus (first | (with_reducible (repeat (first | exact Take.here | apply Take.there)); done) | (repeat (first | exact Take.here | apply Take.there))))); exact Takes.nil) ?_
  rintro ⟨ab, aa, ac⟩ -
  obtain ⟨LA, hLA⟩ : ∃ L, L = tr (fitL xs) := ⟨_, rfl⟩
  rw [← hLA]
  have hLAv : CV LA := by rw [hLA]; exact fit_cv _
  have hLAl := hLAv.len
  have hLAg : ∀ i, LA.getD i 0 = (fitL xs).getD i 0 := fun i => by rw [hLA, tr_g]
  try simp only [List.cons_append, List.nil_append]
  refine ag_nil ?_
  refine q_move rfl rfl rfl rfl ?_
  refine q_extract rfl rfl rfl rfl rfl ?_
  refine q_extract rfl rfl rfl rfl rfl ?_
  refine q_assign rfl rfl rfl rfl ?_
  refine q_assign rfl rfl rfl rfl ?_
  refine r_done ?_
  refine s_keep [1, 5, 6, 7] (e' := [(1, _), (5, _), (6, _), (7, _)]) rfl ?_
  refine k_then_n ?_
  refine c_seq ?_
  refine c_seq ?_
  refine c_plain (.q 0 (.q 1 (.q 2 ((.l 3 [] (.q 4 (.q 5 (.done)))))))) (by kernel_rfl) ?_
  refine q_move rfl rfl rfl rfl ?_
  refine q_not rfl rfl rfl rfl ?_
  refine s_eq 24 rfl (v' := .bool false) rfl ?_
  refine q_move rfl rfl rfl rfl ?_
  refine l_call rfl rfl rfl rfl rfl rfl Try.call8 (works_spec) (by (repeat ((with_reducible apply Takes.cons); focus (first | (with_reducible (repeat (first | exact Take.here | apply Take.there)); done) | (repeat (first | exact Take.here | apply Take.there))))); exact Takes.nil) ?_
  rintro ⟨⟩ -
  try simp only [List.cons_append, List.nil_append]
  refine ag_nil ?_
  refine q_not rfl rfl rfl rfl ?_
  refine s_eq 27 rfl (v' := .bool false) rfl ?_
  refine q_pick_f rfl rfl rfl rfl rfl ?_
  refine r_done ?_
  refine s_keep [1, 5, 6, 28] (e' := [(1, _), (5, _), (6, _), (28, _)]) rfl ?_
  refine k_then_n ?_
  refine c_cond_f rfl ?_
  refine c_skip ?_
  refine k_then_n ?_
  refine c_seq ?_
  refine c_plain (.q 0 (.q 1 (.q 2 (.q 3 (.q 4 (.done)))))) (by kernel_rfl) ?_
  refine q_move rfl rfl rfl rfl ?_
  refine q_int rfl rfl rfl rfl rfl (b_remT _ (by decide)) ?_
  have htm_th := tm_rng th (m := 320) (by decide)
  refine q_int rfl rfl rfl rfl rfl (b_add' _ (by (first | exact fits_i64 (by omega) (by omega) | exact fits_u64 (by omega) (by omega) | exact fits_u32 (by omega) (by omega) | exact fits_u8 (by omega) (by omega)))) ?_
  obtain ⟨t, ht⟩ := Int.eq_ofNat_of_zero_le (show 0 ≤ (Int.tmod th 320 + 320) % 320 by omega)
  have ht1 : t < 320 := by omega
  refine q_int rfl rfl rfl rfl rfl (b_rem _ (by omega) (by omega)) ?_
  refine s_eq 32 rfl (v' := .int .i64 ((t : Nat) : Int)) (by rw [ht]) ?_
  refine q_assign rfl rfl rfl rfl ?_
  refine r_done ?_
  refine s_keep [5, 6, 8] (e' := [(5, _), (6, _), (8, _)]) rfl ?_
  refine k_then_n ?_
  refine c_seq ?_
  have ht : t < 65535 := by omega
  have hgr := g_rng hLAv.rng (by decide) t
  simp only [maxC] at hgr
  have e1 : ((eN LA t : Nat) : Int) = 0 ↔ (fitL xs).getD t 0 = 0 := by rw [← hLAg, ← eN_zero hLAv t]; omega
  refine c_plain (.q 0 (.q 1 ((.l 2 [] (.q 3 (.q 4 (.q 5 (.q 6 (.q 7 (.done)))))))))) (by kernel_rfl) ?_
  refine q_move rfl rfl rfl rfl ?_
  refine q_move rfl rfl rfl rfl ?_
  have sp_4 := epoch_spec ab LA aa LA.length ac (by first | rfl | assumption | omega | (simp; done) | (simp; omega)) hLAv t ht
  refine l_call rfl rfl rfl rfl rfl rfl Try.call26 (sp_4) (by (repeat ((with_reducible apply Takes.cons); focus (first | (with_reducible (repeat (first | exact Take.here | apply Take.there)); done) | (repeat (first | exact Take.here | apply Take.there))))); exact Takes.nil) ?_
  rintro ⟨⟩ -
  try simp only [List.cons_append, List.nil_append]
  refine ag_nil ?_
  refine q_move rfl rfl rfl rfl ?_
  refine q_extract rfl rfl rfl rfl rfl ?_
  refine q_extract rfl rfl rfl rfl rfl ?_
  refine q_assign rfl rfl rfl rfl ?_
  refine q_assign rfl rfl rfl rfl ?_
  refine r_done ?_
  refine s_keep [5, 6, 8, 9, 10] (e' := [(5, _), (6, _), (8, _), (9, _), (10, _)]) rfl ?_
  refine k_then_n ?_
  refine c_seq ?_
  refine c_seq ?_
  refine c_plain (.q 0 ((.l 1 [] (.q 2 (.q 3 (.q 4 (.q 5 ((.l 6 [] (.q 7 (.q 8 (.q 9 (.q 10 (.q 11 (.q 12 (.q 13 ((.l 14 [] (.q 15 (.q 16 (.q 17 (.done)))))))))))))))))))))) (by kernel_rfl) ?_
  refine q_move rfl rfl rfl rfl ?_
  have sp_5 := num_spec 0
  refine l_call rfl rfl rfl rfl rfl rfl Try.call23 (sp_5) (by (repeat ((with_reducible apply Takes.cons); focus (first | (with_reducible (repeat (first | exact Take.here | apply Take.there)); done) | (repeat (first | exact Take.here | apply Take.there))))); exact Takes.nil) ?_
  rintro ⟨⟩ -
  try simp only [List.cons_append, List.nil_append]
  refine ag_nil ?_
  refine q_int rfl rfl rfl rfl rfl (b_neq _ _ _ _) ?_
  refine q_move rfl rfl rfl rfl ?_
  refine s_bool_p 42 rfl (fun hg => by exfalso; first | exact hg rfl | exact hg trivial | simp at hg) (fun hg => ?_)
  refine q_move rfl rfl rfl rfl ?_
  refine q_move rfl rfl rfl rfl ?_
  have sp_6 := has_spec ab LA aa LA.length ac (by first | rfl | assumption | omega | (simp; done) | (simp; omega)) (eN LA t) (eN_lt hLAv ht)
  refine l_call rfl rfl rfl rfl rfl rfl Try.call27 (sp_6) (by (repeat ((with_reducible apply Takes.cons); focus (first | (with_reducible (repeat (first | exact Take.here | apply Take.there)); done) | (repeat (first | exact Take.here | apply Take.there))))); exact Takes.nil) ?_
  rintro ⟨⟩ -
  try simp only [List.cons_append, List.nil_append]
  refine ag_nil ?_
  refine q_not rfl rfl rfl rfl ?_
  refine q_pick_f rfl rfl rfl rfl rfl ?_
  refine q_move rfl rfl rfl rfl ?_
  refine s_bool_np 48 rfl (fun hg => by exfalso; exact hg ((has_eN hLAv hLAv ht).2 (Int.le_refl _))) (fun hg => ?_)
  refine q_move rfl rfl rfl rfl ?_
  refine q_int rfl rfl rfl rfl rfl (b_eql _ _ _ _) ?_
  refine q_move rfl rfl rfl rfl ?_
  refine q_move rfl rfl rfl rfl ?_
  refine s_take (A := own 1 encU ka kc (fitL xs)) (by with_reducible (repeat (first | exact Take.here | apply Take.there))) ?_
  refine own_fc fun f_7a f_7b f_7c => ?_
  have sp_8 := at_spec (fitL xs) ka ((fitL xs).length) kc (own 1 encU ka kc (fitL xs)) (by first | rfl | assumption | omega | (simp; done) | (simp; omega)) (rds_own encU_len (fun h => (f_7b h).1) f_7c) t
  refine l_call rfl rfl rfl rfl rfl rfl Try.call14 (sp_8) (by (repeat ((with_reducible apply Takes.cons); focus (first | (with_reducible (repeat (first | exact Take.here | apply Take.there)); done) | (repeat (first | exact Take.here | apply Take.there))))); exact Takes.nil) ?_
  rintro ⟨⟩ -
  try simp only [List.cons_append, List.nil_append]
  refine ag_nil ?_
  refine q_int rfl rfl rfl rfl rfl (b_eql _ _ _ _) ?_
  refine q_neb rfl rfl rfl rfl rfl Try.underlying4 ?_
  refine q_pick_f rfl rfl rfl rfl rfl ?_
  refine r_done ?_
  refine s_keep [5, 6, 8, 9, 56] (e' := [(5, _), (6, _), (8, _), (9, _), (56, _)]) rfl ?_
  refine k_then_n ?_
  refine c_cond rfl (fun hg => by exfalso; by_cases h9 : (fitL xs).getD t 0 = 0 <;> by_cases h8 : ((eN LA t : Nat) : Int) = 0 <;> first | omega | (rw [decide_eq_true h8, decide_eq_true h9] at hg; cases hg; done) | (rw [decide_eq_false h8, decide_eq_false h9] at hg; cases hg; done)) (fun hg => ?_)
  try simp only [Bool.and_eq_true, Bool.or_eq_true, Bool.not_eq_true', Bool.not_eq_false', Bool.and_eq_false_iff, Bool.or_eq_false_iff, decide_eq_true_eq, decide_eq_false_iff_not] at hg
  refine c_skip ?_
  refine k_then_n ?_
  refine c_seq ?_
  refine c_plain (.q 0 ((.l 1 [] (.q 2 (.done))))) (by kernel_rfl) ?_
  refine q_move rfl rfl rfl rfl ?_
  have sp_9 := copy_spec ab LA aa LA.length ac (by first | rfl | assumption | omega | (simp; done) | (simp; omega)) (by omega)
  refine l_call rfl rfl rfl rfl rfl rfl Try.call21 (sp_9) (by (repeat ((with_reducible apply Takes.cons); focus (first | (with_reducible (repeat (first | exact Take.here | apply Take.there)); done) | (repeat (first | exact Take.here | apply Take.there))))); exact Takes.nil) ?_
  rintro ⟨db, da, dc⟩ -
  try simp only [List.cons_append, List.nil_append]
  refine ag_nil ?_
  refine q_assign rfl rfl rfl rfl ?_
  refine r_done ?_
  refine k_then_n ?_
  refine c_seq ?_
  refine c_plain (.q 0 (.q 1 ((.l 2 [] (.q 3 (.q 4 (.q 5 (.q 6 (.q 7 (.done)))))))))) (by kernel_rfl) ?_
  refine q_move rfl rfl rfl rfl ?_
  refine q_move rfl rfl rfl rfl ?_
  have sp_10 := inc_all ab LA aa LA.length ac rfl hLAv t ht
  refine l_call rfl rfl rfl rfl rfl rfl Try.call28 (sp_10) (by (repeat ((with_reducible apply Takes.cons); focus (first | (with_reducible (repeat (first | exact Take.here | apply Take.there)); done) | (repeat (first | exact Take.here | apply Take.there))))); exact Takes.nil) ?_
  rintro ⟨aa, ac⟩ -
  obtain ⟨LI, hLI⟩ : ∃ L, L = icE LA t := ⟨_, rfl⟩
  rw [← hLI]
  try simp only [List.cons_append, List.nil_append]
  refine ag_nil ?_
  refine q_move rfl rfl rfl rfl ?_
  refine q_extract rfl rfl rfl rfl rfl ?_
  refine q_extract rfl rfl rfl rfl rfl ?_
  refine q_assign rfl rfl rfl rfl ?_
  refine q_assign rfl rfl rfl rfl ?_
  refine r_done ?_
  refine s_keep [5, 6, 8, 9, 11, 12, 13] (e' := [(5, _), (6, _), (8, _), (9, _), (11, _), (12, _), (13, _)]) rfl ?_
  refine k_then_n ?_
  refine c_seq ?_
  refine c_seq ?_
  refine c_plain (.q 0 (.q 1 ((.l 2 [] (.q 3 (.done)))))) (by kernel_rfl) ?_
  refine q_move rfl rfl rfl rfl ?_
  refine q_move rfl rfl rfl rfl ?_
  refine s_take (A := own 1 encU ka kc (fitL xs)) (by with_reducible (repeat (first | exact Take.here | apply Take.there))) ?_
  refine own_fc fun f_11a f_11b f_11c => ?_
  have sp_12 := at_spec (fitL xs) ka ((fitL xs).length) kc (own 1 encU ka kc (fitL xs)) (by first | rfl | assumption | omega | (simp; done) | (simp; omega)) (rds_own encU_len (fun h => (f_11b h).1) f_11c) t
  refine l_call rfl rfl rfl rfl rfl rfl Try.call14 (sp_12) (by (repeat ((with_reducible apply Takes.cons); focus (first | (with_reducible (repeat (first | exact Take.here | apply Take.there)); done) | (repeat (first | exact Take.here | apply Take.there))))); exact Takes.nil) ?_
  rintro ⟨⟩ -
  try simp only [List.cons_append, List.nil_append]
  refine ag_nil ?_
  refine q_int rfl rfl rfl rfl rfl (b_eql _ _ _ _) ?_
  refine r_done ?_
  refine k_then_n ?_
  refine c_cond_p rfl (fun hm => ?_) (fun hm => ?_)
  · skip
    have hmx : LA.getD t 0 = maxC := by rw [hLAg]; exact hm
    have heq : LI = LA := by rw [hLI]; exact if_pos hmx
    have hLIv : CV LI := by rw [heq]; exact hLAv
    refine c_seq ?_
    refine c_plain (.q 0 ((.l 1 [] (.q 2 (.q 3 (.q 4 (.q 5 (.q 6 (.q 7 (.q 8 (.q 9 ((.l 10 [] (.q 11 (.q 12 (.done)))))))))))))))) (by kernel_rfl) ?_
    refine q_move rfl rfl rfl rfl ?_
    have sp_13 := num_spec (icF LA t)
    refine l_call rfl rfl rfl rfl rfl rfl Try.call23 (sp_13) (by (repeat ((with_reducible apply Takes.cons); focus (first | (with_reducible (repeat (first | exact Take.here | apply Take.there)); done) | (repeat (first | exact Take.here | apply Take.there))))); exact Takes.nil) ?_
    rintro ⟨⟩ -
    try simp only [List.cons_append, List.nil_append]
    refine ag_nil ?_
    refine q_int rfl rfl rfl rfl rfl (b_eql _ _ _ _) ?_
    refine q_move rfl rfl rfl rfl ?_
    refine s_bool_p 72 rfl (fun hg => ?_) (fun hg => by exfalso; exact hg (if_pos hmx))
    refine q_move rfl rfl rfl rfl ?_
    refine q_int rfl rfl rfl rfl rfl (b_eql _ _ _ _) ?_
    refine q_pick_t rfl rfl rfl rfl rfl ?_
    refine q_move rfl rfl rfl rfl ?_
    refine s_bool_p 76 rfl (fun hg => ?_) (fun hg => by exfalso; exact hg (if_pos hmx))
    refine q_move rfl rfl rfl rfl ?_
    refine q_move rfl rfl rfl rfl ?_
    have sp_14 := equal_spec ab db LI LA aa da LI.length ac LA.length dc (by first | rfl | assumption | omega | (simp; done) | (simp; omega)) (by first | rfl | assumption | omega | (simp; done) | (simp; omega)) (by assumption) (by assumption)
    refine l_call rfl rfl rfl rfl rfl rfl Try.call12 (sp_14) (by (repeat ((with_reducible apply Takes.cons); focus (first | (with_reducible (repeat (first | exact Take.here | apply Take.there)); done) | (repeat (first | exact Take.here | apply Take.there))))); exact Takes.nil) ?_
    rintro ⟨⟩ -
    try simp only [List.cons_append, List.nil_append]
    refine ag_nil ?_
    refine s_eq 79 rfl (v' := .bool true) (by rw [decide_eq_true heq]) ?_
    refine q_pick_t rfl rfl rfl rfl rfl ?_
    refine q_assign rfl rfl rfl rfl ?_
    refine r_done ?_
    refine s_keep [4] (e' := [(4, _)]) rfl ?_
    refine k_then_n ?_
    refine c_ret ?_
    refine k_then_ret ?_
    refine ret1 rfl rfl (()) (by first | rfl | (first | rfl | (congr 1; done) | (congr 1 <;> first | rfl | omega | (simp; done) | (simp; omega)))) (by trivial) ?_
    (repeat ((with_reducible apply Takes.cons); focus (first | (with_reducible (repeat (first | exact Take.here | apply Take.there)); done) | (repeat (first | exact Take.here | apply Take.there))))); (repeat (first | exact Takes.nil | exact Takes.self | refine takes_drop2 ?_))
  · skip
    have hmx : LA.getD t 0 ≠ maxC := by rw [hLAg]; exact hm
    have hie : LI = icL LA t := by rw [hLI]; exact if_neg hmx
    have hLIv : CV LI := by rw [hie]; exact icL_cv hLAv ht (by simp only [maxC] at hmx ⊢; omega)
    have hLIl := hLIv.len
    have hLIg : ∀ k, LI.getD k 0 = if k = t then LA.getD t 0 + 1 else LA.getD k 0 := fun k => by rw [hie, icL_g]
    have hLIt : LI.getD t 0 = LA.getD t 0 + 1 := by rw [hLIg, if_pos rfl]
    have hgx : (fitL xs).getD t 0 = LA.getD t 0 := (hLAg t).symm
    refine c_skip ?_
    refine k_then_n ?_
    refine c_seq ?_
    refine c_plain (.q 0 (.q 1 ((.l 2 [] (.q 3 (.q 4 (.q 5 (.q 6 (.q 7 (.done)))))))))) (by kernel_rfl) ?_
    refine q_move rfl rfl rfl rfl ?_
    refine q_move rfl rfl rfl rfl ?_
    have sp_15 := epoch_spec ab LI aa LI.length ac (by first | rfl | assumption | omega | (simp; done) | (simp; omega)) hLIv t ht
    refine l_call rfl rfl rfl rfl rfl rfl Try.call26 (sp_15) (by (repeat ((with_reducible apply Takes.cons); focus (first | (with_reducible (repeat (first | exact Take.here | apply Take.there)); done) | (repeat (first | exact Take.here | apply Take.there))))); exact Takes.nil) ?_
    rintro ⟨⟩ -
    try simp only [List.cons_append, List.nil_append]
    refine ag_nil ?_
    refine q_move rfl rfl rfl rfl ?_
    refine q_extract rfl rfl rfl rfl rfl ?_
    refine q_extract rfl rfl rfl rfl rfl ?_
    refine q_assign rfl rfl rfl rfl ?_
    refine q_assign rfl rfl rfl rfl ?_
    refine r_done ?_
    refine s_keep [5, 6, 8, 9, 11, 12, 13, 14, 15] (e' := [(5, _), (6, _), (8, _), (9, _), (11, _), (12, _), (13, _), (14, _), (15, _)]) rfl ?_
    refine k_then_n ?_
    refine c_seq ?_
    refine c_seq ?_
    refine c_plain (.q 0 ((.l 1 [] (.q 2 (.q 3 (.q 4 ((.l 5 [] (.q 6 (.q 7 (.q 8 (.q 9 (.q 10 (.q 11 ((.l 12 [] (.q 13 (.q 14 (.q 15 (.q 16 (.q 17 (.q 18 (.q 19 (.q 20 (.q 21 (.q 22 (.q 23 (.q 24 (.q 25 (.q 26 (.q 27 ((.l 28 [] (.q 29 (.q 30 (.q 31 (.q 32 (.q 33 ((.l 34 [] (.q 35 (.q 36 (.q 37 (.q 38 (.q 39 (.q 40 (.q 41 (.q 42 (.q 43 ((.l 44 [] (.q 45 (.q 46 (.q 47 (.q 48 ((.l 49 [] (.q 50 (.q 51 (.q 52 (.q 53 (.q 54 ((.l 55 [] (.q 56 (.done)))))))))))))))))))))))))))))))))))))))))))))))))))))))))))))))))) (by kernel_rfl) ?_
    refine q_move rfl rfl rfl rfl ?_
    have sp_16 := num_spec (icF LA t)
    refine l_call rfl rfl rfl rfl rfl rfl Try.call23 (sp_16) (by (repeat ((with_reducible apply Takes.cons); focus (first | (with_reducible (repeat (first | exact Take.here | apply Take.there)); done) | (repeat (first | exact Take.here | apply Take.there))))); exact Takes.nil) ?_
    rintro ⟨⟩ -
    try simp only [List.cons_append, List.nil_append]
    refine ag_nil ?_
    refine q_int rfl rfl rfl rfl rfl (b_neq _ _ _ _) ?_
    refine q_move rfl rfl rfl rfl ?_
    refine s_bool_p 90 rfl (fun hg => by exfalso; exact hg (if_neg hmx)) (fun hg => ?_)
    refine q_move rfl rfl rfl rfl ?_
    have sp_17 := num_spec 0
    refine l_call rfl rfl rfl rfl rfl rfl Try.call23 (sp_17) (by (repeat ((with_reducible apply Takes.cons); focus (first | (with_reducible (repeat (first | exact Take.here | apply Take.there)); done) | (repeat (first | exact Take.here | apply Take.there))))); exact Takes.nil) ?_
    rintro ⟨⟩ -
    try simp only [List.cons_append, List.nil_append]
    refine ag_nil ?_
    refine q_int rfl rfl rfl rfl rfl (b_neq _ _ _ _) ?_
    refine q_pick_f rfl rfl rfl rfl rfl ?_
    refine q_move rfl rfl rfl rfl ?_
    refine s_bool_p 95 rfl (fun hg => by exfalso; first | exact hg rfl | exact hg trivial | simp at hg) (fun hg => ?_)
    refine q_move rfl rfl rfl rfl ?_
    refine q_move rfl rfl rfl rfl ?_
    refine q_move rfl rfl rfl rfl ?_
    refine s_take (A := own 1 encU ka kc (fitL xs)) (by with_reducible (repeat (first | exact Take.here | apply Take.there))) ?_
    refine own_fc fun f_18a f_18b f_18c => ?_
    have sp_19 := at_spec (fitL xs) ka ((fitL xs).length) kc (own 1 encU ka kc (fitL xs)) (by first | rfl | assumption | omega | (simp; done) | (simp; omega)) (rds_own encU_len (fun h => (f_18b h).1) f_18c) t
    refine l_call rfl rfl rfl rfl rfl rfl Try.call14 (sp_19) (by (repeat ((with_reducible apply Takes.cons); focus (first | (with_reducible (repeat (first | exact Take.here | apply Take.there)); done) | (repeat (first | exact Take.here | apply Take.there))))); exact Takes.nil) ?_
    rintro ⟨⟩ -
    try simp only [List.cons_append, List.nil_append]
    refine ag_nil ?_
    refine q_int rfl rfl rfl rfl rfl (b_add' _ (by exact fits_u64 (by omega) (by omega))) ?_
    refine q_int rfl rfl rfl rfl rfl (b_neq _ _ _ _) ?_
    refine q_pick_f rfl rfl rfl rfl rfl ?_
    refine q_move rfl rfl rfl rfl ?_
    refine s_bool_p 103 rfl (fun hg => by exfalso; exact hg (by rw [show icN LA t = LA.getD t 0 + 1 from if_neg hmx, hgx])) (fun hg => ?_)
    refine q_move rfl rfl rfl rfl ?_
    refine q_int rfl rfl rfl rfl rfl (b_eql _ _ _ _) ?_
    refine q_pick_f rfl rfl rfl rfl rfl ?_
    refine q_move rfl rfl rfl rfl ?_
    refine s_bool_p 107 rfl (fun hg => by exfalso; have h_ := (eN_zero hLIv t).1 (by omega); omega) (fun hg => ?_)
    refine q_move rfl rfl rfl rfl ?_
    refine q_move rfl rfl rfl rfl ?_
    refine q_int rfl rfl rfl rfl rfl (b_eql _ _ _ _) ?_
    refine q_pick_f rfl rfl rfl rfl rfl ?_
    refine q_move rfl rfl rfl rfl ?_
    refine s_bool_p 112 rfl (fun hg => by exfalso; have h1_ := has_eN hLIv hLAv ht; rw [show eN LI t = eN LA t by omega, has_eN hLAv hLAv ht] at h1_; have h2_ := h1_.1 (Int.le_refl _); omega) (fun hg => ?_)
    refine q_move rfl rfl rfl rfl ?_
    refine q_move rfl rfl rfl rfl ?_
    have sp_20 := has_spec ab LI aa LI.length ac (by first | rfl | assumption | omega | (simp; done) | (simp; omega)) (eN LA t) (eN_lt hLAv ht)
    refine l_call rfl rfl rfl rfl rfl rfl Try.call27 (sp_20) (by (repeat ((with_reducible apply Takes.cons); focus (first | (with_reducible (repeat (first | exact Take.here | apply Take.there)); done) | (repeat (first | exact Take.here | apply Take.there))))); exact Takes.nil) ?_
    rintro ⟨⟩ -
    try simp only [List.cons_append, List.nil_append]
    refine ag_nil ?_
    refine q_not rfl rfl rfl rfl ?_
    refine q_pick_f rfl rfl rfl rfl rfl ?_
    refine q_move rfl rfl rfl rfl ?_
    refine s_bool_np 118 rfl (fun hg => by exfalso; exact hg ((has_eN hLAv hLIv ht).2 (by omega))) (fun hg => ?_)
    refine q_move rfl rfl rfl rfl ?_
    refine q_move rfl rfl rfl rfl ?_
    have sp_21 := has_spec ab LI aa LI.length ac (by first | rfl | assumption | omega | (simp; done) | (simp; omega)) (eN LI t) (eN_lt hLIv ht)
    refine l_call rfl rfl rfl rfl rfl rfl Try.call27 (sp_21) (by (repeat ((with_reducible apply Takes.cons); focus (first | (with_reducible (repeat (first | exact Take.here | apply Take.there)); done) | (repeat (first | exact Take.here | apply Take.there))))); exact Takes.nil) ?_
    rintro ⟨⟩ -
    try simp only [List.cons_append, List.nil_append]
    refine ag_nil ?_
    refine q_not rfl rfl rfl rfl ?_
    refine q_pick_f rfl rfl rfl rfl rfl ?_
    refine q_move rfl rfl rfl rfl ?_
    refine s_bool_np 124 rfl (fun hg => by exfalso; exact hg ((has_eN hLIv hLIv ht).2 (Int.le_refl _))) (fun hg => ?_)
    refine q_move rfl rfl rfl rfl ?_
    refine q_eq_nil rfl rfl rfl rfl Try.underlying25 ?_
    refine s_eq 126 rfl (v' := .bool false) rfl ?_
    refine q_pick_f rfl rfl rfl rfl rfl ?_
    refine q_move rfl rfl rfl rfl ?_
    refine q_move rfl rfl rfl rfl ?_
    refine q_move rfl rfl rfl rfl ?_
    have sp_22 := has_spec db LA da LA.length dc (by first | rfl | assumption | omega | (simp; done) | (simp; omega)) (eN LI t) (eN_lt hLIv ht)
    refine l_call rfl rfl rfl rfl rfl rfl Try.call27 (sp_22) (by (repeat ((with_reducible apply Takes.cons); focus (first | (with_reducible (repeat (first | exact Take.here | apply Take.there)); done) | (repeat (first | exact Take.here | apply Take.there))))); exact Takes.nil) ?_
    rintro ⟨⟩ -
    try simp only [List.cons_append, List.nil_append]
    refine ag_nil ?_
    refine q_pick_f rfl rfl rfl rfl rfl ?_
    refine q_move rfl rfl rfl rfl ?_
    refine s_bool_p 133 rfl (fun hg => by exfalso; have h_ := (has_eN hLIv hLAv ht).1 hg; omega) (fun hg => ?_)
    refine q_move rfl rfl rfl rfl ?_
    refine q_move rfl rfl rfl rfl ?_
    have sp_23 := leq_spec db ab LA LI da aa LA.length dc LI.length ac (by first | rfl | assumption | omega | (simp; done) | (simp; omega)) (by first | rfl | assumption | omega | (simp; done) | (simp; omega)) (by assumption) (by assumption)
    refine l_call rfl rfl rfl rfl rfl rfl Try.call15 (sp_23) (by (repeat ((with_reducible apply Takes.cons); focus (first | (with_reducible (repeat (first | exact Take.here | apply Take.there)); done) | (repeat (first | exact Take.here | apply Take.there))))); exact Takes.nil) ?_
    rintro ⟨⟩ -
    try simp only [List.cons_append, List.nil_append]
    refine ag_nil ?_
    refine q_not rfl rfl rfl rfl ?_
    refine q_pick_f rfl rfl rfl rfl rfl ?_
    refine q_move rfl rfl rfl rfl ?_
    refine s_bool_np 139 rfl (fun hg => by exfalso; exact hg ((leq_iff hLAv hLIv).2 fun k => by have h_ := hLIg k; split at h_ <;> first | (rename_i h9; subst h9; omega) | omega)) (fun hg => ?_)
    refine q_move rfl rfl rfl rfl ?_
    refine q_move rfl rfl rfl rfl ?_
    have sp_24 := leq_spec ab db LI LA aa da LI.length ac LA.length dc (by first | rfl | assumption | omega | (simp; done) | (simp; omega)) (by first | rfl | assumption | omega | (simp; done) | (simp; omega)) (by assumption) (by assumption)
    refine l_call rfl rfl rfl rfl rfl rfl Try.call15 (sp_24) (by (repeat ((with_reducible apply Takes.cons); focus (first | (with_reducible (repeat (first | exact Take.here | apply Take.there)); done) | (repeat (first | exact Take.here | apply Take.there))))); exact Takes.nil) ?_
    rintro ⟨⟩ -
    try simp only [List.cons_append, List.nil_append]
    refine ag_nil ?_
    refine q_pick_f rfl rfl rfl rfl rfl ?_
    refine r_done ?_
    refine s_keep [6, 11, 14, 143] (e' := [(6, _), (11, _), (14, _), (143, _)]) rfl ?_
    refine k_then_n ?_
    refine c_cond_p rfl (fun hg => by exfalso; have h_ := (leq_iff hLIv hLAv).1 hg t; omega) (fun hg => ?_)
    refine c_skip ?_
    refine k_then_n ?_
    refine c_seq ?_
    refine c_plain (.q 0 (.q 1 ((.l 2 [] ((.l 3 [] ((.l 4 [] (.q 5 (.q 6 (.q 7 (.q 8 ((.l 9 [] (.q 10 (.q 11 (.q 12 (.q 13 ((.l 14 [] (.q 15 (.q 16 (.done))))))))))))))))))))))) (by kernel_rfl) ?_
    refine q_move rfl rfl rfl rfl ?_
    refine q_move rfl rfl rfl rfl ?_
    refine l_buildSlice rfl rfl rfl rfl (run_build1 (us := [_]) Try.underlying73 Try.sizeOf25 rfl Try.zeroValue25 rfl rfl rfl) ?_
    intro b146
    refine ag_nil ?_
    refine s_big_nil (f := kf) ?_
    refine s_heap (fun _ h => Bun.fold ((by (repeat ((with_reducible apply Takes.cons); focus (first | (with_reducible (repeat (first | exact Take.here | apply Take.there)); done) | (repeat (first | exact Take.here | apply Take.there))))); exact Takes.nil : Takes _ [cells ab 0 [.slice aa LI.length ac], own 1 encU aa ac LI] _) _ h)) ?_
    refine s_big_push (f := kf) (L := []) (x := (ab, aa, ac, LI)) (by (repeat ((with_reducible apply Takes.cons); focus (first | (with_reducible (repeat (first | exact Take.here | apply Take.there)); done) | (repeat (first | exact Take.here | apply Take.there))))); exact Takes.nil) ?_
    try simp only [List.nil_append, List.cons_append]
    have sp_25 := join_spec db LA da LA.length dc rfl hLAv [(ab, aa, ac, LI)] [(ab, aa, ac, LI)] (fun x hx => hx) (by intro x hx; simp at hx; subst hx; exact hLIv) (some ⟨b146, 0, none⟩) 1 1 (cells b146 0 [.pointer (some ⟨ab, 0, none⟩)]) (rds_some rdn_cells) rfl (by decide)
    refine l_call rfl rfl rfl rfl rfl rfl Try.call29 (sp_25) (by (repeat ((with_reducible apply Takes.cons); focus (first | (with_reducible (repeat (first | exact Take.here | apply Take.there)); done) | (repeat (first | exact Take.here | apply Take.there))))); exact Takes.nil) ?_
    rintro ⟨ja, jc⟩ -
    try simp only [List.cons_append, List.nil_append]
    refine s_big_take (f := kf) (L := [(ab, aa, ac, LI)]) (i := 0) (x := (ab, aa, ac, LI)) (by first | (with_reducible (repeat (first | exact Take.here | apply Take.there)); done) | (repeat (first | exact Take.here | apply Take.there))) rfl ?_
    refine s_bun ?_
    try simp only [List.cons_append, List.nil_append, List.eraseIdx_cons_zero]
    obtain ⟨LJ, hLJ⟩ : ∃ L, L = jnA LA [(ab, aa, ac, LI)] := ⟨_, rfl⟩
    rw [← hLJ]
    have hLJv : CV LJ := by rw [hLJ]; exact jn_cv hLAv hLIv
    have hLJl := hLJv.len
    have hLJg : ∀ k, LJ.getD k 0 = max (LA.getD k 0) (LI.getD k 0) := fun k => by rw [hLJ]; exact jn_g hLAv hLIv k
    have heq2 : LJ = LI := Tr_ext hLJv.tr hLIv.tr fun k => by
      rw [hLJg]
      by_cases hk : k = t
      · subst hk; omega
      · rw [hLIg, if_neg hk]; omega
    try simp only [List.cons_append, List.nil_append]
    refine ag_nil ?_
    have sp_26 := num_spec 0
    refine l_call rfl rfl rfl rfl rfl rfl Try.call23 (sp_26) (by (repeat ((with_reducible apply Takes.cons); focus (first | (with_reducible (repeat (first | exact Take.here | apply Take.there)); done) | (repeat (first | exact Take.here | apply Take.there))))); exact Takes.nil) ?_
    rintro ⟨⟩ -
    try simp only [List.cons_append, List.nil_append]
    refine ag_nil ?_
    refine q_int rfl rfl rfl rfl rfl (b_eql _ _ _ _) ?_
    refine q_move rfl rfl rfl rfl ?_
    refine s_bool_p 150 rfl (fun hg => ?_) (fun hg => by exfalso; first | exact hg rfl | exact hg trivial | simp at hg)
    refine q_move rfl rfl rfl rfl ?_
    refine q_move rfl rfl rfl rfl ?_
    have sp_27 := has_spec db LJ ja LJ.length jc (by first | rfl | assumption | omega | (simp; done) | (simp; omega)) (eN LI t) (eN_lt hLIv ht)
    refine l_call rfl rfl rfl rfl rfl rfl Try.call27 (sp_27) (by (repeat ((with_reducible apply Takes.cons); focus (first | (with_reducible (repeat (first | exact Take.here | apply Take.there)); done) | (repeat (first | exact Take.here | apply Take.there))))); exact Takes.nil) ?_
    rintro ⟨⟩ -
    try simp only [List.cons_append, List.nil_append]
    refine ag_nil ?_
    refine q_pick_t rfl rfl rfl rfl rfl ?_
    refine q_move rfl rfl rfl rfl ?_
    refine s_bool_p 155 rfl (fun hg => ?_) (fun hg => by exfalso; exact hg ((has_eN hLIv hLJv ht).2 (by rw [hLJg]; omega)))
    refine q_move rfl rfl rfl rfl ?_
    refine q_move rfl rfl rfl rfl ?_
    have sp_28 := equal_spec db ab LJ LI ja aa LJ.length jc LI.length ac (by first | rfl | assumption | omega | (simp; done) | (simp; omega)) (by first | rfl | assumption | omega | (simp; done) | (simp; omega)) (by assumption) (by assumption)
    refine l_call rfl rfl rfl rfl rfl rfl Try.call12 (sp_28) (by (repeat ((with_reducible apply Takes.cons); focus (first | (with_reducible (repeat (first | exact Take.here | apply Take.there)); done) | (repeat (first | exact Take.here | apply Take.there))))); exact Takes.nil) ?_
    rintro ⟨⟩ -
    try simp only [List.cons_append, List.nil_append]
    refine ag_nil ?_
    refine s_eq 158 rfl (v' := .bool true) (by rw [decide_eq_true heq2]) ?_
    refine q_pick_t rfl rfl rfl rfl rfl ?_
    refine q_assign rfl rfl rfl rfl ?_
    refine r_done ?_
    refine s_keep [4] (e' := [(4, _)]) rfl ?_
    refine k_then_n ?_
    refine c_ret ?_
    refine ret1 rfl rfl (()) (by first | rfl | (first | rfl | (congr 1; done) | (congr 1 <;> first | rfl | omega | (simp; done) | (simp; omega)))) (by trivial) ?_
    (repeat ((with_reducible apply Takes.cons); focus (first | (with_reducible (repeat (first | exact Take.here | apply Take.there)); done) | (repeat (first | exact Take.here | apply Take.there))))); (repeat (first | exact Takes.nil | exact Takes.self | refine takes_drop2 ?_))
end Go.Ab.Vc
