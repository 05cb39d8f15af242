/- Package feasible: the document's checker. -/
import Derived.Test.YtkoclbjiaofkhaaFe4
set_option linter.unusedVariables false
set_option linter.unusedSimpArgs false
set_option maxRecDepth 100000
namespace Go.Ab.Fe
open Go Go.Proofs Go.Ab
/-- The document's checker at b. -/
def rk (pa : Option Addr) (pc b : Nat) (x : CS) : HProp := fun h => ∃ ta tc oa oc ba bc, Sat [cells b 0 [.int .i64 x.th, .int .i64 x.va, .int .i64 x.vo, .int .i64 x.lk, .slice pa x.pa.length pc, .slice ta x.T.length tc, .slice oa x.O.length oc, .slice ba x.B.length bc, .int .i64 x.n], own 3 enc3 ta tc x.T, own 1 encZ oa oc x.O, own 2 enc2 ba bc x.B] h
section
variable {w0 : World} {ds : List Deferred} {n : Nat} {e : Env} {Γ : List HProp} {X : Act → World → Prop}
theorem rk_open {pa : Option Addr} {pc b : Nat} {x : CS} (k : ∀ ta tc oa oc ba bc, Le (St w0 ds n e (cells b 0 [.int .i64 x.th, .int .i64 x.va, .int .i64 x.vo, .int .i64 x.lk, .slice pa x.pa.length pc, .slice ta x.T.length tc, .slice oa x.O.length oc, .slice ba x.B.length bc, .int .i64 x.n] :: own 3 enc3 ta tc x.T :: own 1 encZ oa oc x.O :: own 2 enc2 ba bc x.B :: Γ)) X) : Le (St w0 ds n e (rk pa pc b x :: Γ)) X := fun a w s => by
  obtain ⟨h1, l1, ⟨ta, tc, oa, oc, ba, bc, a1⟩, s1⟩ := s.heap
  exact k ta tc oa oc ba bc a w ⟨s.defers, s.size, s.env, Bun.unfold ⟨h1, l1, a1, s1⟩, s.amb⟩
theorem rk_fold {Γ' : List HProp} {b : Nat} (x : CS) {pn tn on bn : Nat} {pa : Option Addr} {pc : Nat} {ta oa ba : Option Addr} {tc oc bc : Nat}
    (tk : Takes Γ [cells b 0 [.int .i64 x.th, .int .i64 x.va, .int .i64 x.vo, .int .i64 x.lk, .slice pa pn pc, .slice ta tn tc, .slice oa on oc, .slice ba bn bc, .int .i64 x.n], own 3 enc3 ta tc x.T, own 1 encZ oa oc x.O, own 2 enc2 ba bc x.B] Γ') (h1 : pn = x.pa.length) (h2 : tn = x.T.length) (h3 : on = x.O.length) (h4 : bn = x.B.length)
    (k : Le (St w0 ds n e (rk pa pc b x :: Γ')) X) : Le (St w0 ds n e Γ) X := s_heap (fun h s => by
  subst h1 h2 h3 h4
  obtain ⟨h1, l1, a1, s1⟩ := Bun.fold (tk h s)
  exact ⟨h1, l1, ⟨ta, tc, oa, oc, ba, bc, a1⟩, s1⟩) k
end
theorem can_run' {x : CS} {k t o : Int} (h : (stF x t).1 = 1) : canF x k t o ↔ 0 ≤ o ∧ okK x k t o := by
  unfold canF; rw [h]; simp
theorem owF_n {x : CS} {o : Int} : owF x o = none ↔ owV x o = -1 := by
  unfold owF; split
  · rename_i h; simp [h]
  · rename_i h; simp [h]
theorem owF_s {x : CS} {o t : Int} (ht : t ≠ -1) : owF x o = some t ↔ owV x o = t := by
  unfold owF; split
  · rename_i h; rw [h]; simp; omega
  · simp
theorem can_out {x : CS} {k t o : Int} (h : ¬ (0 ≤ t ∧ t < (x.T.length : Int))) : ¬ canF x k t o := fun hc => by
  have := stF_nz (can_th hc); omega
theorem full_out {x : CS} {t : Int} (h : ¬ (0 ≤ t ∧ t < (x.T.length : Int))) : ¬ fullF x t := fun hc => by
  have := stF_nz (x := x) (t := t) (by rw [hc.1]; decide); omega
theorem take_next {α : Type} {l : List α} {i : Nat} {a : α} (h : l[i]? = some a) : l.take (i + 1) = l.take i ++ [a] := by
  rw [List.take_add_one, h]; rfl
theorem below_spec (i m : Int) : Spec Try.prog 52 [.int .i64 i, .int .i64 m] [] (fun (_ : Unit) => .bool (decide (0 ≤ i ∧ i < m))) (fun _ => True) (fun _ => []) := by
 refine spec_mk (n := 12) Try.func52 rfl rfl rfl ?_
 intro Γ w0
 simp only [argE, List.cons_append, List.nil_append, Nat.zero_add, Nat.reduceAdd]
 refine c_seq ?_
 refine c_plain (.q 0 (.done)) (by kernel_rfl) ?_
 refine q_assign rfl rfl rfl rfl ?_
 refine r_done ?_
 refine k_then_n ?_
 refine c_seq ?_
 refine c_plain (.q 0 (.q 1 (.q 2 (.q 3 (.q 4 (.q 5 (.q 6 (.q 7 (.done))))))))) (by kernel_rfl) ?_
 refine q_move rfl rfl rfl rfl ?_
 refine q_int rfl rfl rfl rfl rfl (b_geq _ _ _ _) ?_
 refine q_move rfl rfl rfl rfl ?_
 refine s_bool_p 7 rfl (fun g_1 => ?_) (fun g_1 => ?_)
 ·
  refine q_move rfl rfl rfl rfl ?_
  refine q_move rfl rfl rfl rfl ?_
  refine q_int rfl rfl rfl rfl rfl (b_lss _ _ _ _) ?_
  refine q_pick_t rfl rfl rfl rfl rfl ?_
  refine q_assign rfl rfl rfl rfl ?_
  refine r_done ?_
  refine s_keep [4] (e' := [(4, _)]) rfl ?_
  refine k_then_n ?_
  refine c_ret ?_
  refine ret1 rfl rfl (()) (by congr 1; first | (rw [decide_eq_decide]; omega) | (symm; rw [decide_eq_false_iff_not]; omega)) (by trivial) ?_
  (repeat ((with_reducible apply Z2); focus (first | (with_reducible (repeat (first | exact Z0 | apply Z1)); done) | (repeat (first | exact Z0 | apply Z1))))); (repeat (first | exact Z3 | exact Takes.self | refine takes_drop2 ?_))
 ·
  refine q_skip rfl rfl rfl rfl ?_
  refine q_skip rfl rfl rfl rfl ?_
  refine q_skip rfl rfl rfl rfl ?_
  refine q_pick_f rfl rfl rfl rfl rfl ?_
  refine q_assign rfl rfl rfl rfl ?_
  refine r_done ?_
  refine s_keep [4] (e' := [(4, _)]) rfl ?_
  refine k_then_n ?_
  refine c_ret ?_
  refine ret1 rfl rfl (()) (by congr 1; first | (rw [decide_eq_decide]; omega) | (symm; rw [decide_eq_false_iff_not]; omega)) (by trivial) ?_
  (repeat ((with_reducible apply Z2); focus (first | (with_reducible (repeat (first | exact Z0 | apply Z1)); done) | (repeat (first | exact Z0 | apply Z1))))); (repeat (first | exact Z3 | exact Takes.self | refine takes_drop2 ?_))

theorem count_spec (i : Int) : Spec Try.prog 51 [.int .i64 i] [] (fun (_ : Unit) => .bool (decide (0 ≤ i ∧ i ≤ 4096))) (fun _ => True) (fun _ => []) := by
 refine spec_mk (n := 9) Try.func51 rfl rfl rfl ?_
 intro Γ w0
 simp only [argE, List.cons_append, List.nil_append, Nat.zero_add, Nat.reduceAdd]
 refine c_seq ?_
 refine c_plain (.q 0 (.done)) (by kernel_rfl) ?_
 refine q_assign rfl rfl rfl rfl ?_
 refine r_done ?_
 refine k_then_n ?_
 refine c_seq ?_
 refine c_plain (.q 0 (.q 1 (.q 2 (.q 3 (.q 4 (.q 5 (.q 6 (.done)))))))) (by kernel_rfl) ?_
 refine q_move rfl rfl rfl rfl ?_
 refine q_int rfl rfl rfl rfl rfl (b_geq _ _ _ _) ?_
 refine q_move rfl rfl rfl rfl ?_
 refine s_bool_p 5 rfl (fun g_1 => ?_) (fun g_1 => ?_)
 ·
  refine q_move rfl rfl rfl rfl ?_
  refine q_int rfl rfl rfl rfl rfl (b_leq _ _ _ _) ?_
  refine q_pick_t rfl rfl rfl rfl rfl ?_
  refine q_assign rfl rfl rfl rfl ?_
  refine r_done ?_
  refine s_keep [2] (e' := [(2, _)]) rfl ?_
  refine k_then_n ?_
  refine c_ret ?_
  refine ret1 rfl rfl (()) (by congr 1; first | (rw [decide_eq_decide]; omega) | (symm; rw [decide_eq_false_iff_not]; omega)) (by trivial) ?_
  (repeat ((with_reducible apply Z2); focus (first | (with_reducible (repeat (first | exact Z0 | apply Z1)); done) | (repeat (first | exact Z0 | apply Z1))))); (repeat (first | exact Z3 | exact Takes.self | refine takes_drop2 ?_))
 ·
  refine q_skip rfl rfl rfl rfl ?_
  refine q_skip rfl rfl rfl rfl ?_
  refine q_pick_f rfl rfl rfl rfl rfl ?_
  refine q_assign rfl rfl rfl rfl ?_
  refine r_done ?_
  refine s_keep [2] (e' := [(2, _)]) rfl ?_
  refine k_then_n ?_
  refine c_ret ?_
  refine ret1 rfl rfl (()) (by congr 1; first | (rw [decide_eq_decide]; omega) | (symm; rw [decide_eq_false_iff_not]; omega)) (by trivial) ?_
  (repeat ((with_reducible apply Z2); focus (first | (with_reducible (repeat (first | exact Z0 | apply Z1)); done) | (repeat (first | exact Z0 | apply Z1))))); (repeat (first | exact Z3 | exact Takes.self | refine takes_drop2 ?_))

theorem rshape_spec (th va vo lk : Int) (pl : List Int) (ao : Option Addr) (n c : Nat) (A : HProp) (hr : RdS A ao (pl.flatMap encZ)) (hn : pl.length = n) (hb : n ≤ 4000000) : Spec Try.prog 33 [.agg #[.int .i64 th, .int .i64 va, .int .i64 vo, .int .i64 lk, .slice ao n c]] [A] (fun (_ : Unit) => .int .i64 (if OkS th va vo lk pl then 0 else 5)) (fun _ => True) (fun _ => [A]) := by
 refine spec_mk (n := 58) Try.func33 rfl rfl rfl ?_
 intro Γ w0
 simp only [argE, List.cons_append, List.nil_append, Nat.zero_add, Nat.reduceAdd]
 refine c_seq ?_
 refine c_plain ((.l 0 [] (.q 1 (.done)))) (by kernel_rfl) ?_
 refine l_box rfl rfl rfl rfl (us := [_, _, _, _, _]) rfl ?_
 intro b1
 refine ag_nil ?_
 refine q_assign rfl rfl rfl rfl ?_
 refine r_done ?_
 refine k_then_n ?_
 refine c_seq ?_
 refine c_seq ?_
 refine c_plain (.q 0 (.q 1 (.q 2 (.q 3 (.q 4 (.q 5 (.q 6 (.q 7 (.q 8 (.q 9 (.q 10 ((.l 11 [] (.q 12 (.q 13 (.q 14 (.q 15 (.q 16 ((.l 17 [] (.q 18 (.q 19 (.q 20 (.q 21 (.q 22 ((.l 23 [] (.q 24 (.q 25 (.q 26 (.q 27 (.q 28 (.q 29 ((.l 30 [] (.q 31 (.q 32 (.done)))))))))))))))))))))))))))))))))))))) (by kernel_rfl) ?_
 refine q_field (k := 0) rfl rfl rfl rfl Try.underlying24 rfl Try.sizeOf3 rfl ?_
 refine q_load_c (j := 0) rfl rfl rfl rfl Try.isAgg3 (by with_reducible (repeat (first | exact Z0 | apply Z1))) (by first | rfl | exact (Nat.add_zero _).symm) (by rfl) ?_
 refine q_int rfl rfl rfl rfl rfl (b_lss _ _ _ _) ?_
 refine q_move rfl rfl rfl rfl ?_
 refine s_bool_p 7 rfl (fun h1 => ?_) (fun h1 => ?_)
 ·
  refine q_skip rfl rfl rfl rfl ?_
  refine q_skip rfl rfl rfl rfl ?_
  refine q_skip rfl rfl rfl rfl ?_
  refine q_pick_t rfl rfl rfl rfl rfl ?_
  refine q_move rfl rfl rfl rfl ?_
  refine q_skip rfl rfl rfl rfl ?_
  refine q_skip rfl rfl rfl rfl ?_
  refine l_skip rfl rfl rfl rfl ?_
  refine q_skip rfl rfl rfl rfl ?_
  refine q_pick_t rfl rfl rfl rfl rfl ?_
  refine q_move rfl rfl rfl rfl ?_
  refine q_skip rfl rfl rfl rfl ?_
  refine q_skip rfl rfl rfl rfl ?_
  refine l_skip rfl rfl rfl rfl ?_
  refine q_skip rfl rfl rfl rfl ?_
  refine q_pick_t rfl rfl rfl rfl rfl ?_
  refine q_move rfl rfl rfl rfl ?_
  refine q_skip rfl rfl rfl rfl ?_
  refine q_skip rfl rfl rfl rfl ?_
  refine l_skip rfl rfl rfl rfl ?_
  refine q_skip rfl rfl rfl rfl ?_
  refine q_pick_t rfl rfl rfl rfl rfl ?_
  refine q_move rfl rfl rfl rfl ?_
  refine q_skip rfl rfl rfl rfl ?_
  refine q_skip rfl rfl rfl rfl ?_
  refine q_skip rfl rfl rfl rfl ?_
  refine l_skip rfl rfl rfl rfl ?_
  refine q_skip rfl rfl rfl rfl ?_
  refine q_pick_t rfl rfl rfl rfl rfl ?_
  refine r_done ?_
  refine s_keep [1, 36] (e' := [(1, _), (36, _)]) rfl ?_
  refine k_then_n ?_
  refine c_cond_t rfl ?_
  refine c_seq ?_
  refine c_plain (.q 0 (.done)) (by kernel_rfl) ?_
  refine q_assign rfl rfl rfl rfl ?_
  refine r_done ?_
  refine k_then_n ?_
  refine c_ret ?_
  refine k_then_ret ?_
  refine ret1 rfl rfl (()) (by rw [if_neg (fun h => by have h1 := h.th; have h2 := h.va; have h3 := h.vo; have h4 := h.lk; have h5 := h.pl; omega)]) (by trivial) ?_
  (repeat ((with_reducible apply Z2); focus (first | (with_reducible (repeat (first | exact Z0 | apply Z1)); done) | (repeat (first | exact Z0 | apply Z1))))); (repeat (first | exact Z3 | exact Takes.self | refine takes_drop2 ?_))
 ·
  refine q_field (k := 0) rfl rfl rfl rfl Try.underlying24 rfl Try.sizeOf3 rfl ?_
  refine q_load_c (j := 0) rfl rfl rfl rfl Try.isAgg3 (by with_reducible (repeat (first | exact Z0 | apply Z1))) (by first | rfl | exact (Nat.add_zero _).symm) (by rfl) ?_
  refine q_int rfl rfl rfl rfl rfl (b_gtr _ _ _ _) ?_
  refine q_pick_f rfl rfl rfl rfl rfl ?_
  refine q_move rfl rfl rfl rfl ?_
  refine s_bool_p 12 rfl (fun h2 => ?_) (fun h2 => ?_)
  ·
   refine q_skip rfl rfl rfl rfl ?_
   refine q_skip rfl rfl rfl rfl ?_
   refine l_skip rfl rfl rfl rfl ?_
   refine q_skip rfl rfl rfl rfl ?_
   refine q_pick_t rfl rfl rfl rfl rfl ?_
   refine q_move rfl rfl rfl rfl ?_
   refine q_skip rfl rfl rfl rfl ?_
   refine q_skip rfl rfl rfl rfl ?_
   refine l_skip rfl rfl rfl rfl ?_
   refine q_skip rfl rfl rfl rfl ?_
   refine q_pick_t rfl rfl rfl rfl rfl ?_
   refine q_move rfl rfl rfl rfl ?_
   refine q_skip rfl rfl rfl rfl ?_
   refine q_skip rfl rfl rfl rfl ?_
   refine l_skip rfl rfl rfl rfl ?_
   refine q_skip rfl rfl rfl rfl ?_
   refine q_pick_t rfl rfl rfl rfl rfl ?_
   refine q_move rfl rfl rfl rfl ?_
   refine q_skip rfl rfl rfl rfl ?_
   refine q_skip rfl rfl rfl rfl ?_
   refine q_skip rfl rfl rfl rfl ?_
   refine l_skip rfl rfl rfl rfl ?_
   refine q_skip rfl rfl rfl rfl ?_
   refine q_pick_t rfl rfl rfl rfl rfl ?_
   refine r_done ?_
   refine s_keep [1, 36] (e' := [(1, _), (36, _)]) rfl ?_
   refine k_then_n ?_
   refine c_cond_t rfl ?_
   refine c_seq ?_
   refine c_plain (.q 0 (.done)) (by kernel_rfl) ?_
   refine q_assign rfl rfl rfl rfl ?_
   refine r_done ?_
   refine k_then_n ?_
   refine c_ret ?_
   refine k_then_ret ?_
   refine ret1 rfl rfl (()) (by rw [if_neg (fun h => by have h1 := h.th; have h2 := h.va; have h3 := h.vo; have h4 := h.lk; have h5 := h.pl; omega)]) (by trivial) ?_
   (repeat ((with_reducible apply Z2); focus (first | (with_reducible (repeat (first | exact Z0 | apply Z1)); done) | (repeat (first | exact Z0 | apply Z1))))); (repeat (first | exact Z3 | exact Takes.self | refine takes_drop2 ?_))
  ·
   refine q_field (k := 1) rfl rfl rfl rfl Try.underlying24 rfl Try.sizeOf3 rfl ?_
   refine q_load_c (j := 1) rfl rfl rfl rfl Try.isAgg3 (by with_reducible (repeat (first | exact Z0 | apply Z1))) (by first | rfl | exact (Nat.add_zero _).symm) (by rfl) ?_
   have sp_1 := count_spec va
   refine l_call rfl rfl rfl rfl rfl rfl Try.call51 (sp_1) (by (repeat ((with_reducible apply Z2); focus (first | (with_reducible (repeat (first | exact Z0 | apply Z1)); done) | (repeat (first | exact Z0 | apply Z1))))); exact Z3) ?_
   rintro ⟨⟩ -
   try simp only [List.cons_append, List.nil_append]
   refine ag_nil ?_
   refine q_not rfl rfl rfl rfl ?_
   refine q_pick_f rfl rfl rfl rfl rfl ?_
   refine q_move rfl rfl rfl rfl ?_
   refine s_bool_np 18 rfl (fun h3 => ?_) (fun h3 => ?_)
   ·
    refine q_skip rfl rfl rfl rfl ?_
    refine q_skip rfl rfl rfl rfl ?_
    refine l_skip rfl rfl rfl rfl ?_
    refine q_skip rfl rfl rfl rfl ?_
    refine q_pick_t rfl rfl rfl rfl rfl ?_
    refine q_move rfl rfl rfl rfl ?_
    refine q_skip rfl rfl rfl rfl ?_
    refine q_skip rfl rfl rfl rfl ?_
    refine l_skip rfl rfl rfl rfl ?_
    refine q_skip rfl rfl rfl rfl ?_
    refine q_pick_t rfl rfl rfl rfl rfl ?_
    refine q_move rfl rfl rfl rfl ?_
    refine q_skip rfl rfl rfl rfl ?_
    refine q_skip rfl rfl rfl rfl ?_
    refine q_skip rfl rfl rfl rfl ?_
    refine l_skip rfl rfl rfl rfl ?_
    refine q_skip rfl rfl rfl rfl ?_
    refine q_pick_t rfl rfl rfl rfl rfl ?_
    refine r_done ?_
    refine s_keep [1, 36] (e' := [(1, _), (36, _)]) rfl ?_
    refine k_then_n ?_
    refine c_cond_t rfl ?_
    refine c_seq ?_
    refine c_plain (.q 0 (.done)) (by kernel_rfl) ?_
    refine q_assign rfl rfl rfl rfl ?_
    refine r_done ?_
    refine k_then_n ?_
    refine c_ret ?_
    refine k_then_ret ?_
    refine ret1 rfl rfl (()) (by rw [if_neg (fun h => by have h1 := h.th; have h2 := h.va; have h3 := h.vo; have h4 := h.lk; have h5 := h.pl; omega)]) (by trivial) ?_
    (repeat ((with_reducible apply Z2); focus (first | (with_reducible (repeat (first | exact Z0 | apply Z1)); done) | (repeat (first | exact Z0 | apply Z1))))); (repeat (first | exact Z3 | exact Takes.self | refine takes_drop2 ?_))
   ·
    refine q_field (k := 2) rfl rfl rfl rfl Try.underlying24 rfl Try.sizeOf3 rfl ?_
    refine q_load_c (j := 2) rfl rfl rfl rfl Try.isAgg3 (by with_reducible (repeat (first | exact Z0 | apply Z1))) (by first | rfl | exact (Nat.add_zero _).symm) (by rfl) ?_
    have sp_2 := count_spec vo
    refine l_call rfl rfl rfl rfl rfl rfl Try.call51 (sp_2) (by (repeat ((with_reducible apply Z2); focus (first | (with_reducible (repeat (first | exact Z0 | apply Z1)); done) | (repeat (first | exact Z0 | apply Z1))))); exact Z3) ?_
    rintro ⟨⟩ -
    try simp only [List.cons_append, List.nil_append]
    refine ag_nil ?_
    refine q_not rfl rfl rfl rfl ?_
    refine q_pick_f rfl rfl rfl rfl rfl ?_
    refine q_move rfl rfl rfl rfl ?_
    refine s_bool_np 24 rfl (fun h4 => ?_) (fun h4 => ?_)
    ·
     refine q_skip rfl rfl rfl rfl ?_
     refine q_skip rfl rfl rfl rfl ?_
     refine l_skip rfl rfl rfl rfl ?_
     refine q_skip rfl rfl rfl rfl ?_
     refine q_pick_t rfl rfl rfl rfl rfl ?_
     refine q_move rfl rfl rfl rfl ?_
     refine q_skip rfl rfl rfl rfl ?_
     refine q_skip rfl rfl rfl rfl ?_
     refine q_skip rfl rfl rfl rfl ?_
     refine l_skip rfl rfl rfl rfl ?_
     refine q_skip rfl rfl rfl rfl ?_
     refine q_pick_t rfl rfl rfl rfl rfl ?_
     refine r_done ?_
     refine s_keep [1, 36] (e' := [(1, _), (36, _)]) rfl ?_
     refine k_then_n ?_
     refine c_cond_t rfl ?_
     refine c_seq ?_
     refine c_plain (.q 0 (.done)) (by kernel_rfl) ?_
     refine q_assign rfl rfl rfl rfl ?_
     refine r_done ?_
     refine k_then_n ?_
     refine c_ret ?_
     refine k_then_ret ?_
     refine ret1 rfl rfl (()) (by rw [if_neg (fun h => by have h1 := h.th; have h2 := h.va; have h3 := h.vo; have h4 := h.lk; have h5 := h.pl; omega)]) (by trivial) ?_
     (repeat ((with_reducible apply Z2); focus (first | (with_reducible (repeat (first | exact Z0 | apply Z1)); done) | (repeat (first | exact Z0 | apply Z1))))); (repeat (first | exact Z3 | exact Takes.self | refine takes_drop2 ?_))
    ·
     refine q_field (k := 3) rfl rfl rfl rfl Try.underlying24 rfl Try.sizeOf3 rfl ?_
     refine q_load_c (j := 3) rfl rfl rfl rfl Try.isAgg3 (by with_reducible (repeat (first | exact Z0 | apply Z1))) (by first | rfl | exact (Nat.add_zero _).symm) (by rfl) ?_
     have sp_3 := count_spec lk
     refine l_call rfl rfl rfl rfl rfl rfl Try.call51 (sp_3) (by (repeat ((with_reducible apply Z2); focus (first | (with_reducible (repeat (first | exact Z0 | apply Z1)); done) | (repeat (first | exact Z0 | apply Z1))))); exact Z3) ?_
     rintro ⟨⟩ -
     try simp only [List.cons_append, List.nil_append]
     refine ag_nil ?_
     refine q_not rfl rfl rfl rfl ?_
     refine q_pick_f rfl rfl rfl rfl rfl ?_
     refine q_move rfl rfl rfl rfl ?_
     refine s_bool_np 30 rfl (fun h5 => ?_) (fun h5 => ?_)
     ·
      refine q_skip rfl rfl rfl rfl ?_
      refine q_skip rfl rfl rfl rfl ?_
      refine q_skip rfl rfl rfl rfl ?_
      refine l_skip rfl rfl rfl rfl ?_
      refine q_skip rfl rfl rfl rfl ?_
      refine q_pick_t rfl rfl rfl rfl rfl ?_
      refine r_done ?_
      refine s_keep [1, 36] (e' := [(1, _), (36, _)]) rfl ?_
      refine k_then_n ?_
      refine c_cond_t rfl ?_
      refine c_seq ?_
      refine c_plain (.q 0 (.done)) (by kernel_rfl) ?_
      refine q_assign rfl rfl rfl rfl ?_
      refine r_done ?_
      refine k_then_n ?_
      refine c_ret ?_
      refine k_then_ret ?_
      refine ret1 rfl rfl (()) (by rw [if_neg (fun h => by have h1 := h.th; have h2 := h.va; have h3 := h.vo; have h4 := h.lk; have h5 := h.pl; omega)]) (by trivial) ?_
      (repeat ((with_reducible apply Z2); focus (first | (with_reducible (repeat (first | exact Z0 | apply Z1)); done) | (repeat (first | exact Z0 | apply Z1))))); (repeat (first | exact Z3 | exact Takes.self | refine takes_drop2 ?_))
     ·
      refine q_field (k := 4) rfl rfl rfl rfl Try.underlying24 rfl Try.sizeOf22 rfl ?_
      refine q_load_c (j := 4) rfl rfl rfl rfl Try.isAgg22 (by with_reducible (repeat (first | exact Z0 | apply Z1))) (by first | rfl | exact (Nat.add_zero _).symm) (by rfl) ?_
      refine q_len rfl rfl rfl rfl Try.underlying22 ?_
      have sp_4 := count_spec ((n : Nat) : Int)
      refine l_call rfl rfl rfl rfl rfl rfl Try.call51 (sp_4) (by (repeat ((with_reducible apply Z2); focus (first | (with_reducible (repeat (first | exact Z0 | apply Z1)); done) | (repeat (first | exact Z0 | apply Z1))))); exact Z3) ?_
      rintro ⟨⟩ -
      try simp only [List.cons_append, List.nil_append]
      refine ag_nil ?_
      refine q_not rfl rfl rfl rfl ?_
      refine q_pick_f rfl rfl rfl rfl rfl ?_
      refine r_done ?_
      refine s_keep [1, 36] (e' := [(1, _), (36, _)]) rfl ?_
      refine k_then_n ?_
      refine c_cond_np rfl (fun h6 => ?_) (fun h6 => ?_)
      ·
       refine c_seq ?_
       refine c_plain (.q 0 (.done)) (by kernel_rfl) ?_
       refine q_assign rfl rfl rfl rfl ?_
       refine r_done ?_
       refine k_then_n ?_
       refine c_ret ?_
       refine k_then_ret ?_
       refine ret1 rfl rfl (()) (by rw [if_neg (fun h => by have h1 := h.th; have h2 := h.va; have h3 := h.vo; have h4 := h.lk; have h5 := h.pl; omega)]) (by trivial) ?_
       (repeat ((with_reducible apply Z2); focus (first | (with_reducible (repeat (first | exact Z0 | apply Z1)); done) | (repeat (first | exact Z0 | apply Z1))))); (repeat (first | exact Z3 | exact Takes.self | refine takes_drop2 ?_))
      ·
       refine c_skip ?_
       refine k_then_n ?_
       refine c_seq ?_
       refine c_seq ?_
       refine c_plain (.q 0 (.done)) (by kernel_rfl) ?_
       refine q_assign rfl rfl rfl rfl ?_
       refine r_done ?_
       refine k_then_n ?_
       refine c_block ?_
       refine c_loop2 (α := Nat) (fun (i : Nat) => i ≤ n ∧ (∀ (j : Nat) (p : Int), j < i → pl[j]? = some p → badP p = false)) (fun (i : Nat) => [(3, .int .i64 ((i : Nat) : Int))]) (fun (i : Nat) => []) (fun (i : Nat) => n - i) [1] (er := [(1, _)]) rfl (0) ?_ (by exact ⟨rfl, trivial⟩) (by (try dsimp only); (try simp only [Nat.add_zero, Nat.zero_add]); (repeat ((with_reducible apply Z2); focus (first | (with_reducible (repeat (first | exact Z0 | apply Z1)); done) | (repeat (first | exact Z0 | apply Z1))))); exact Z3) ?_
       · exact ⟨Nat.zero_le _, fun j p h => by omega⟩
       rintro i ⟨hle_i, hI⟩
       try simp only [List.cons_append, List.nil_append]
       refine c_seq ?_
       refine c_seq ?_
       refine c_plain (.q 0 (.q 1 (.q 2 (.q 3 (.q 4 (.done)))))) (by kernel_rfl) ?_
       refine q_move rfl rfl rfl rfl ?_
       refine q_field (k := 4) rfl rfl rfl rfl Try.underlying24 rfl Try.sizeOf22 rfl ?_
       refine q_load_c (j := 4) rfl rfl rfl rfl Try.isAgg22 (by with_reducible (repeat (first | exact Z0 | apply Z1))) (by first | rfl | exact (Nat.add_zero _).symm) (by rfl) ?_
       refine q_len rfl rfl rfl rfl Try.underlying22 ?_
       refine q_int rfl rfl rfl rfl rfl (b_lss _ _ _ _) ?_
       refine r_done ?_
       refine s_keep [1, 3, 41] (e' := [(1, _), (3, _), (41, _)]) rfl ?_
       refine k_then_n ?_
       refine c_cond_p rfl (fun hlt => ?_) (fun hlt => ?_)
       ·
        refine c_skip ?_
        refine k_then_n ?_
        refine c_seq ?_
        refine c_block ?_
        refine c_seq ?_
        obtain ⟨p, hp⟩ := get_lt (l := pl) (i := i) (by omega)
        refine c_plain (.q 0 (.q 1 (.q 2 (.q 3 (.q 4 (.q 5 (.q 6 (.q 7 (.q 8 (.q 9 (.q 10 (.q 11 (.q 12 (.q 13 (.done))))))))))))))) (by kernel_rfl) ?_
        refine q_field (k := 4) rfl rfl rfl rfl Try.underlying24 rfl Try.sizeOf22 rfl ?_
        refine q_load_c (j := 4) rfl rfl rfl rfl Try.isAgg22 (by with_reducible (repeat (first | exact Z0 | apply Z1))) (by first | rfl | exact (Nat.add_zero _).symm) (by rfl) ?_
        refine q_move rfl rfl rfl rfl ?_
        refine q_idxR (sz := 0) (k := i) rfl rfl rfl rfl rfl Try.underlying22 Try.sizeOf3 (hr) hp encZ_len (by first | rfl | omega) (by omega) ?_
        intro ib47 io47 _ hd47
        refine q_load rfl rfl rfl rfl Try.isAgg3 (by with_reducible (repeat (first | exact Z0 | apply Z1))) (hd47 0 (.int .i64 p) rfl) ?_
        refine q_int rfl rfl rfl rfl rfl (b_lss _ _ _ _) ?_
        refine q_move rfl rfl rfl rfl ?_
        refine s_bool_p 50 rfl (fun hp1 => ?_) (fun hp1 => ?_)
        ·
         refine q_skip rfl rfl rfl rfl ?_
         refine q_skip rfl rfl rfl rfl ?_
         refine q_skip rfl rfl rfl rfl ?_
         refine q_skip rfl rfl rfl rfl ?_
         refine q_skip rfl rfl rfl rfl ?_
         refine q_skip rfl rfl rfl rfl ?_
         refine q_pick_t rfl rfl rfl rfl rfl ?_
         refine r_done ?_
         refine s_keep [1, 3, 51, 52, 53, 54, 55, 56, 57] (e' := [(1, _), (3, _), (51, _), (52, _), (53, _), (54, _), (55, _), (56, _), (57, _)]) rfl ?_
         refine k_then_n ?_
         refine c_cond_t rfl ?_
         have hno : ¬ OkS th va vo lk pl := fun h => by
           have := h.pa p (List.mem_of_getElem? hp); omega
         refine c_seq ?_
         refine c_plain (.q 0 (.done)) (by kernel_rfl) ?_
         refine q_assign rfl rfl rfl rfl ?_
         refine r_done ?_
         refine s_keep [2] (e' := [(2, _)]) rfl ?_
         refine k_then_n ?_
         refine c_ret ?_
         refine k_blk_ret ?_
         refine k_then_ret ?_
         refine k_then_ret ?_
         refine k_blk_ret ?_
         refine k_then_ret ?_
         refine ret1 rfl rfl (()) (by rw [if_neg hno]) (by trivial) ?_
         (repeat ((with_reducible apply Z2); focus (first | (with_reducible (repeat (first | exact Z0 | apply Z1)); done) | (repeat (first | exact Z0 | apply Z1))))); (repeat (first | exact Z3 | exact Takes.self | refine takes_drop2 ?_))
        ·
         refine q_field (k := 4) rfl rfl rfl rfl Try.underlying24 rfl Try.sizeOf22 rfl ?_
         refine q_load_c (j := 4) rfl rfl rfl rfl Try.isAgg22 (by with_reducible (repeat (first | exact Z0 | apply Z1))) (by first | rfl | exact (Nat.add_zero _).symm) (by rfl) ?_
         refine q_move rfl rfl rfl rfl ?_
         refine q_idxR (sz := 0) (k := i) rfl rfl rfl rfl rfl Try.underlying22 Try.sizeOf3 (hr) hp encZ_len (by first | rfl | omega) (by omega) ?_
         intro ib54 io54 _ hd54
         refine q_load rfl rfl rfl rfl Try.isAgg3 (by with_reducible (repeat (first | exact Z0 | apply Z1))) (hd54 0 (.int .i64 p) rfl) ?_
         refine q_int rfl rfl rfl rfl rfl (b_gtr _ _ _ _) ?_
         refine q_pick_f rfl rfl rfl rfl rfl ?_
         refine r_done ?_
         refine s_keep [1, 3, 51, 52, 53, 54, 55, 56, 57] (e' := [(1, _), (3, _), (51, _), (52, _), (53, _), (54, _), (55, _), (56, _), (57, _)]) rfl ?_
         refine k_then_n ?_
         refine c_cond_p rfl (fun hp2 => ?_) (fun hp2 => ?_)
         ·
          have hno : ¬ OkS th va vo lk pl := fun h => by
            have := h.pa p (List.mem_of_getElem? hp); omega
          refine c_seq ?_
          refine c_plain (.q 0 (.done)) (by kernel_rfl) ?_
          refine q_assign rfl rfl rfl rfl ?_
          refine r_done ?_
          refine s_keep [2] (e' := [(2, _)]) rfl ?_
          refine k_then_n ?_
          refine c_ret ?_
          refine k_blk_ret ?_
          refine k_then_ret ?_
          refine k_then_ret ?_
          refine k_blk_ret ?_
          refine k_then_ret ?_
          refine ret1 rfl rfl (()) (by rw [if_neg hno]) (by trivial) ?_
          (repeat ((with_reducible apply Z2); focus (first | (with_reducible (repeat (first | exact Z0 | apply Z1)); done) | (repeat (first | exact Z0 | apply Z1))))); (repeat (first | exact Z3 | exact Takes.self | refine takes_drop2 ?_))
         ·
          have hgood : badP p = false := by simp only [badP, Bool.or_eq_false_iff, decide_eq_false_iff_not]; omega
          refine c_skip ?_
          refine k_blk_n ?_
          refine k_then_n ?_
          refine c_plain (.q 0 (.q 1 (.q 2 (.done)))) (by kernel_rfl) ?_
          refine q_move rfl rfl rfl rfl ?_
          refine q_int rfl rfl rfl rfl rfl (b_add' _ (by exact fits_i64 (by omega) (by omega))) ?_
          refine q_assign rfl rfl rfl rfl ?_
          refine r_done ?_
          refine k_then_n ?_
          refine loop_next (x := i) (i + 1) ?_ ?_ ?_ ?_
          · exact ⟨by omega, fun j q hj hq => (by
                by_cases h : j = i
                · subst h; rw [hp] at hq; cases hq; exact hgood
                · exact hI j q (by omega) hq)⟩
          · show n - (i + 1) < n - i; omega
          · exact ⟨rfl, rfl, trivial⟩
          · (try simp only [List.cons_append, List.nil_append]); (repeat ((with_reducible apply Z2); focus (first | (with_reducible (repeat (first | exact Z0 | apply Z1)); done) | (repeat (first | exact Z0 | apply Z1))))); (repeat (first | exact Z3 | exact Takes.self | refine takes_drop2 ?_))
       ·
        refine c_exit ?_
        refine k_then_exit ?_
        refine k_then_exit ?_
        refine k_blk_here ?_
        refine k_then_n ?_
        refine c_seq ?_
        refine c_plain (.q 0 (.done)) (by kernel_rfl) ?_
        refine q_assign rfl rfl rfl rfl ?_
        refine r_done ?_
        refine k_then_n ?_
        refine c_ret ?_
        refine ret1 rfl rfl (()) (by rw [if_pos (okS_iff.2 ⟨by omega, by omega, by omega, by omega, by omega, fun p q => by
          obtain ⟨j, hj⟩ := List.getElem?_of_mem q
          exact hI j p (by have := (List.getElem?_eq_some_iff.1 hj).1; omega) hj⟩)]) (by trivial) ?_
        (repeat ((with_reducible apply Z2); focus (first | (with_reducible (repeat (first | exact Z0 | apply Z1)); done) | (repeat (first | exact Z0 | apply Z1))))); (repeat (first | exact Z3 | exact Takes.self | refine takes_drop2 ?_))

theorem rfull_spec (pa : Option Addr) (pc b : Nat) (x : CS) (hx : CInv x) (t : Int) : Spec Try.prog 53 [.pointer (some ⟨b, 0, none⟩), .int .i64 t] [rk pa pc b x] (fun (_ : Unit) => .bool (decide (fullF x t))) (fun _ => True) (fun _ => [rk pa pc b x]) := by
 refine spec_mk (n := 42) Try.func53 rfl rfl rfl ?_
 intro Γ w0
 simp only [argE, List.cons_append, List.nil_append, Nat.zero_add, Nat.reduceAdd]
 refine c_seq ?_
 refine c_plain (.q 0 (.done)) (by kernel_rfl) ?_
 refine q_assign rfl rfl rfl rfl ?_
 refine r_done ?_
 refine k_then_n ?_
 refine c_seq ?_
 refine c_seq ?_
 refine s_take (A := rk pa pc b x) (by with_reducible (repeat (first | exact Z0 | apply Z1))) ?_
 refine rk_open fun ta tc oa oc ba bc => ?_
 refine c_plain (.q 0 (.q 1 (.q 2 (.q 3 (.q 4 (.q 5 (.q 6 (.q 7 (.q 8 ((.l 9 [] (.q 10 (.q 11 (.done)))))))))))))) (by kernel_rfl) ?_
 refine q_move rfl rfl rfl rfl ?_
 refine q_eq_nil rfl rfl rfl rfl Try.underlying58 ?_
 refine s_eq 7 rfl (v' := .bool false) rfl ?_
 refine q_move rfl rfl rfl rfl ?_
 refine q_move rfl rfl rfl rfl ?_
 refine q_move rfl rfl rfl rfl ?_
 refine q_nil_p rfl rfl rfl rfl ?_
 refine q_field (k := 5) rfl rfl rfl rfl Try.underlying113 rfl Try.sizeOf110 rfl ?_
 refine q_load_c (j := 5) rfl rfl rfl rfl Try.isAgg110 (by with_reducible (repeat (first | exact Z0 | apply Z1))) (by first | rfl | exact (Nat.add_zero _).symm) (by rfl) ?_
 refine q_len rfl rfl rfl rfl Try.underlying110 ?_
 have sp_1 := below_spec t ((x.T.length : Nat) : Int)
 refine l_call rfl rfl rfl rfl rfl rfl Try.call52 (sp_1) (by (repeat ((with_reducible apply Z2); focus (first | (with_reducible (repeat (first | exact Z0 | apply Z1)); done) | (repeat (first | exact Z0 | apply Z1))))); exact Z3) ?_
 rintro ⟨⟩ -
 try simp only [List.cons_append, List.nil_append]
 refine ag_nil ?_
 refine q_not rfl rfl rfl rfl ?_
 refine q_pick_f rfl rfl rfl rfl rfl ?_
 refine r_done ?_
 refine s_keep [0, 1, 17] (e' := [(0, _), (1, _), (17, _)]) rfl ?_
 refine k_then_n ?_
 refine c_cond_np rfl (fun hin => ?_) (fun hin => ?_)
 ·
  refine c_seq ?_
  refine c_plain (.q 0 (.done)) (by kernel_rfl) ?_
  refine q_assign rfl rfl rfl rfl ?_
  refine r_done ?_
  refine k_then_n ?_
  refine c_ret ?_
  refine k_then_ret ?_
  refine rk_fold (b := b) x (pa := pa) (pc := pc) (ta := ta) (tc := tc) (oa := oa) (oc := oc) (ba := ba) (bc := bc) (by (repeat ((with_reducible apply Z2); focus (first | (with_reducible (repeat (first | exact Z0 | apply Z1)); done) | (repeat (first | exact Z0 | apply Z1))))); exact Z3) (by rfl) (by rfl) (by rfl) (by rfl) ?_
  refine ret1 rfl rfl (()) (by congr 1; symm; rw [decide_eq_false_iff_not]; exact full_out hin) (by trivial) ?_
  (repeat ((with_reducible apply Z2); focus (first | (with_reducible (repeat (first | exact Z0 | apply Z1)); done) | (repeat (first | exact Z0 | apply Z1))))); (repeat (first | exact Z3 | exact Takes.self | refine takes_drop2 ?_))
 ·
  have hst := stF_at (x := x) hin.1 hin.2
  refine c_skip ?_
  refine k_then_n ?_
  refine c_seq ?_
  refine c_plain (.q 0 (.q 1 (.q 2 (.q 3 (.q 4 (.q 5 (.q 6 ((.l 7 [] ((.l 8 [] (.done)))))))))))) (by kernel_rfl) ?_
  refine q_move rfl rfl rfl rfl ?_
  refine q_nil_p rfl rfl rfl rfl ?_
  refine q_field (k := 5) rfl rfl rfl rfl Try.underlying113 rfl Try.sizeOf110 rfl ?_
  refine q_load_c (j := 5) rfl rfl rfl rfl Try.isAgg110 (by with_reducible (repeat (first | exact Z0 | apply Z1))) (by first | rfl | exact (Nat.add_zero _).symm) (by rfl) ?_
  refine q_move rfl rfl rfl rfl ?_
  refine q_idxO (sz := 2) (k := t.toNat) (enc := enc3) (xs := x.T) rfl rfl rfl rfl rfl Try.underlying110 Try.sizeOf79 hst (by first | rfl | omega) (by omega) (by with_reducible (repeat (first | exact Z0 | apply Z1))) ?_
  intro ib23 io23 ha23 hl23 hc23
  refine q_loadN_O (j := 0) (k' := t.toNat) (us := [_, _, _]) (enc := enc3) (off := io23) rfl rfl rfl rfl Try.isAgg79 Try.sizeOf79 ha23 enc3_len hst (by with_reducible (repeat (first | exact Z0 | apply Z1))) (by first | rfl | exact (Nat.add_zero _).symm | omega) (by rfl) rfl ?_
  refine l_alloc rfl rfl rfl Try.zeroValue79 (zs := [.int .i64 0, .int .i64 0, .int .i64 0]) rfl ?_
  intro b5
  refine ag_nil ?_
  refine l_store (j := 0) rfl rfl rfl rfl Try.sizeOf79 (us := [_, _, _]) rfl rfl rfl (by with_reducible (repeat (first | exact Z0 | apply Z1))) (by first | rfl | exact (Nat.add_zero _).symm) (by first | decide | (simp; done) | omega) ?_
  simp only [setL, List.set]
  refine ag_nil ?_
  refine r_done ?_
  refine s_keep [0, 5] (e' := [(0, _), (5, _)]) rfl ?_
  refine k_then_n ?_
  refine c_seq ?_
  refine c_draw rfl (.q 0 (.q 1 (.q 2 (.q 3 (.q 4 (.q 5 (.q 6 (.q 7 (.q 8 (.q 9 (.q 10 (.q 11 (.q 12 (.q 13 (.q 14 (.q 15 (.q 16 (.q 17 (.done))))))))))))))))))) (by kernel_rfl) ?_
  refine q_field (k := 0) rfl rfl rfl rfl Try.underlying79 rfl Try.sizeOf77 rfl ?_
  refine q_load_c (j := 0) rfl rfl rfl rfl Try.isAgg77 (by with_reducible (repeat (first | exact Z0 | apply Z1))) (by first | rfl | exact (Nat.add_zero _).symm) (by rfl) ?_
  refine q_int rfl rfl rfl rfl rfl (b_eql _ _ _ _) ?_
  refine q_move rfl rfl rfl rfl ?_
  refine s_bool_p 28 rfl (fun h2 => ?_) (fun h2 => ?_)
  ·
   have hsi := (stF_inv hx t).2.2.1 h2
   have hop := opF_at hsi.1 hsi.2.1
   refine q_field (k := 2) rfl rfl rfl rfl Try.underlying79 rfl Try.sizeOf3 rfl ?_
   refine q_load_c (j := 2) rfl rfl rfl rfl Try.isAgg3 (by with_reducible (repeat (first | exact Z0 | apply Z1))) (by first | rfl | exact (Nat.add_zero _).symm) (by rfl) ?_
   refine q_move rfl rfl rfl rfl ?_
   refine q_nil_p rfl rfl rfl rfl ?_
   refine q_field (k := 7) rfl rfl rfl rfl Try.underlying113 rfl Try.sizeOf111 rfl ?_
   refine q_load_c (j := 7) rfl rfl rfl rfl Try.isAgg111 (by with_reducible (repeat (first | exact Z0 | apply Z1))) (by first | rfl | exact (Nat.add_zero _).symm) (by rfl) ?_
   refine q_field (k := 1) rfl rfl rfl rfl Try.underlying79 rfl Try.sizeOf3 rfl ?_
   refine q_load_c (j := 1) rfl rfl rfl rfl Try.isAgg3 (by with_reducible (repeat (first | exact Z0 | apply Z1))) (by first | rfl | exact (Nat.add_zero _).symm) (by rfl) ?_
   refine q_idxO (sz := 1) (k := (stF x t).2.1.toNat) (enc := enc2) (xs := x.B) rfl rfl rfl rfl rfl Try.underlying111 Try.sizeOf74 hop (by first | rfl | omega) (by omega) (by with_reducible (repeat (first | exact Z0 | apply Z1))) ?_
   intro ib37 io37 ha37 hl37 hc37
   refine q_field (k := 0) rfl rfl rfl rfl Try.underlying74 rfl Try.sizeOf3 rfl ?_
   refine q_load_O (v := (.int .i64 ((opF x (stF x t).2.1).1))) (j := 0) (k' := (stF x t).2.1.toNat) (enc := enc2) (off := io37) rfl rfl rfl rfl Try.isAgg3 ha37 enc2_len hop (by with_reducible (repeat (first | exact Z0 | apply Z1))) (by first | rfl | exact (Nat.add_zero _).symm | omega) (by rfl) ?_
   refine q_int rfl rfl rfl rfl rfl (b_lss _ _ _ _) ?_
   refine q_pick_t rfl rfl rfl rfl rfl ?_
   refine q_assign rfl rfl rfl rfl ?_
   refine r_done ?_
   refine s_keep [4] (e' := [(4, _)]) rfl ?_
   refine k_then_n ?_
   refine c_ret ?_
   refine rk_fold (b := b) x (pa := pa) (pc := pc) (ta := ta) (tc := tc) (oa := oa) (oc := oc) (ba := ba) (bc := bc) (by (repeat ((with_reducible apply Z2); focus (first | (with_reducible (repeat (first | exact Z0 | apply Z1)); done) | (repeat (first | exact Z0 | apply Z1))))); exact Z3) (by rfl) (by rfl) (by rfl) (by rfl) ?_
   refine ret1 rfl rfl (()) (by congr 1; first | (rw [decide_eq_decide]; simp [fullF, h2]; done) | (symm; rw [decide_eq_false_iff_not]; simp [fullF, h2])) (by trivial) ?_
   (repeat ((with_reducible apply Z2); focus (first | (with_reducible (repeat (first | exact Z0 | apply Z1)); done) | (repeat (first | exact Z0 | apply Z1))))); (repeat (first | exact Z3 | exact Takes.self | refine takes_drop2 ?_))
  ·
   refine q_skip rfl rfl rfl rfl ?_
   refine q_skip rfl rfl rfl rfl ?_
   refine q_skip rfl rfl rfl rfl ?_
   refine q_skip rfl rfl rfl rfl ?_
   refine q_skip rfl rfl rfl rfl ?_
   refine q_skip rfl rfl rfl rfl ?_
   refine q_skip rfl rfl rfl rfl ?_
   refine q_skip rfl rfl rfl rfl ?_
   refine q_skip rfl rfl rfl rfl ?_
   refine q_skip rfl rfl rfl rfl ?_
   refine q_skip rfl rfl rfl rfl ?_
   refine q_skip rfl rfl rfl rfl ?_
   refine q_pick_f rfl rfl rfl rfl rfl ?_
   refine q_assign rfl rfl rfl rfl ?_
   refine r_done ?_
   refine s_keep [4] (e' := [(4, _)]) rfl ?_
   refine k_then_n ?_
   refine c_ret ?_
   refine rk_fold (b := b) x (pa := pa) (pc := pc) (ta := ta) (tc := tc) (oa := oa) (oc := oc) (ba := ba) (bc := bc) (by (repeat ((with_reducible apply Z2); focus (first | (with_reducible (repeat (first | exact Z0 | apply Z1)); done) | (repeat (first | exact Z0 | apply Z1))))); exact Z3) (by rfl) (by rfl) (by rfl) (by rfl) ?_
   refine ret1 rfl rfl (()) (by congr 1; first | (rw [decide_eq_decide]; simp [fullF, h2]; done) | (symm; rw [decide_eq_false_iff_not]; simp [fullF, h2])) (by trivial) ?_
   (repeat ((with_reducible apply Z2); focus (first | (with_reducible (repeat (first | exact Z0 | apply Z1)); done) | (repeat (first | exact Z0 | apply Z1))))); (repeat (first | exact Z3 | exact Takes.self | refine takes_drop2 ?_))

theorem rcan_spec (pa : Option Addr) (pc b : Nat) (x : CS) (hx : CInv x) (k t o : Int) : Spec Try.prog 34 [.pointer (some ⟨b, 0, none⟩), .agg #[.int .i64 k, .int .i64 t, .int .i64 o]] [rk pa pc b x] (fun (_ : Unit) => .bool (decide (canF x k t o))) (fun _ => True) (fun _ => [rk pa pc b x]) := by
 refine spec_mk (n := 176) Try.func34 rfl rfl rfl ?_
 intro Γ w0
 simp only [argE, List.cons_append, List.nil_append, Nat.zero_add, Nat.reduceAdd]
 have htl := hx.tl
 have hol := hx.ol
 have hbl := hx.bl
 refine c_seq ?_
 refine c_plain ((.l 0 [] (.q 1 (.done)))) (by kernel_rfl) ?_
 refine l_box rfl rfl rfl rfl (us := [_, _, _]) rfl ?_
 intro b3
 refine ag_nil ?_
 refine q_assign rfl rfl rfl rfl ?_
 refine r_done ?_
 refine k_then_n ?_
 refine c_seq ?_
 refine c_seq ?_
 refine s_take (A := rk pa pc b x) (by with_reducible (repeat (first | exact Z0 | apply Z1))) ?_
 refine rk_open fun ta tc oa oc ba bc => ?_
 refine c_draw rfl (.q 0 (.q 1 (.q 2 (.q 3 (.q 4 (.q 5 (.q 6 (.q 7 (.q 8 (.q 9 ((.l 10 [] (.q 11 (.q 12 (.done))))))))))))))) (by kernel_rfl) ?_
 refine q_move rfl rfl rfl rfl ?_
 refine q_eq_nil rfl rfl rfl rfl Try.underlying58 ?_
 refine s_eq 7 rfl (v' := .bool false) rfl ?_
 refine q_move rfl rfl rfl rfl ?_
 refine q_field (k := 1) rfl rfl rfl rfl Try.underlying40 rfl Try.sizeOf3 rfl ?_
 refine q_load_c (j := 1) rfl rfl rfl rfl Try.isAgg3 (by with_reducible (repeat (first | exact Z0 | apply Z1))) (by first | rfl | exact (Nat.add_zero _).symm) (by rfl) ?_
 refine q_move rfl rfl rfl rfl ?_
 refine q_nil_p rfl rfl rfl rfl ?_
 refine q_field (k := 5) rfl rfl rfl rfl Try.underlying113 rfl Try.sizeOf110 rfl ?_
 refine q_load_c (j := 5) rfl rfl rfl rfl Try.isAgg110 (by with_reducible (repeat (first | exact Z0 | apply Z1))) (by first | rfl | exact (Nat.add_zero _).symm) (by rfl) ?_
 refine q_len rfl rfl rfl rfl Try.underlying110 ?_
 have sp_1 := below_spec t ((x.T.length : Nat) : Int)
 refine l_call rfl rfl rfl rfl rfl rfl Try.call52 (sp_1) (by (repeat ((with_reducible apply Z2); focus (first | (with_reducible (repeat (first | exact Z0 | apply Z1)); done) | (repeat (first | exact Z0 | apply Z1))))); exact Z3) ?_
 rintro ⟨⟩ -
 try simp only [List.cons_append, List.nil_append]
 refine ag_nil ?_
 refine q_not rfl rfl rfl rfl ?_
 refine q_pick_f rfl rfl rfl rfl rfl ?_
 refine r_done ?_
 refine s_keep [0, 3, 18] (e' := [(0, _), (3, _), (18, _)]) rfl ?_
 refine k_then_n ?_
 refine c_cond_np rfl (fun hin => ?_) (fun hin => ?_)
 ·
  refine c_seq ?_
  refine c_plain (.q 0 (.done)) (by kernel_rfl) ?_
  refine q_assign rfl rfl rfl rfl ?_
  refine r_done ?_
  refine k_then_n ?_
  refine c_ret ?_
  refine k_then_ret ?_
  refine rk_fold (b := b) x (pa := pa) (pc := pc) (ta := ta) (tc := tc) (oa := oa) (oc := oc) (ba := ba) (bc := bc) (by (repeat ((with_reducible apply Z2); focus (first | (with_reducible (repeat (first | exact Z0 | apply Z1)); done) | (repeat (first | exact Z0 | apply Z1))))); exact Z3) (by rfl) (by rfl) (by rfl) (by rfl) ?_
  refine ret1 rfl rfl (()) (by congr 1; symm; rw [decide_eq_false_iff_not]; exact can_out hin) (by trivial) ?_
  (repeat ((with_reducible apply Z2); focus (first | (with_reducible (repeat (first | exact Z0 | apply Z1)); done) | (repeat (first | exact Z0 | apply Z1))))); (repeat (first | exact Z3 | exact Takes.self | refine takes_drop2 ?_))
 ·
  have hst := stF_at (x := x) hin.1 hin.2
  refine c_skip ?_
  refine k_then_n ?_
  refine c_seq ?_
  refine c_draw rfl (.q 0 (.q 1 (.q 2 (.q 3 (.q 4 (.q 5 (.q 6 (.q 7 ((.l 8 [3, 5, 7] ((.l 9 [] (.done))))))))))))) (by kernel_rfl) ?_
  refine q_move rfl rfl rfl rfl ?_
  refine q_nil_p rfl rfl rfl rfl ?_
  refine q_field (k := 5) rfl rfl rfl rfl Try.underlying113 rfl Try.sizeOf110 rfl ?_
  refine q_load_c (j := 5) rfl rfl rfl rfl Try.isAgg110 (by with_reducible (repeat (first | exact Z0 | apply Z1))) (by first | rfl | exact (Nat.add_zero _).symm) (by rfl) ?_
  refine q_field (k := 1) rfl rfl rfl rfl Try.underlying40 rfl Try.sizeOf3 rfl ?_
  refine q_load_c (j := 1) rfl rfl rfl rfl Try.isAgg3 (by with_reducible (repeat (first | exact Z0 | apply Z1))) (by first | rfl | exact (Nat.add_zero _).symm) (by rfl) ?_
  refine q_idxO (sz := 2) (k := t.toNat) (enc := enc3) (xs := x.T) rfl rfl rfl rfl rfl Try.underlying110 Try.sizeOf79 hst (by first | rfl | omega) (by omega) (by with_reducible (repeat (first | exact Z0 | apply Z1))) ?_
  intro ib25 io25 ha25 hl25 hc25
  refine q_loadN_O (j := 0) (k' := t.toNat) (us := [_, _, _]) (enc := enc3) (off := io25) rfl rfl rfl rfl Try.isAgg79 Try.sizeOf79 ha25 enc3_len hst (by with_reducible (repeat (first | exact Z0 | apply Z1))) (by first | rfl | exact (Nat.add_zero _).symm | omega) (by rfl) rfl ?_
  refine l_alloc rfl rfl rfl Try.zeroValue79 (zs := [.int .i64 0, .int .i64 0, .int .i64 0]) rfl ?_
  intro b5
  refine ag_load_c (q := 5) rfl rfl rfl Try.isAgg110 (by with_reducible (repeat (first | exact Z0 | apply Z1))) (by first | rfl | exact (Nat.add_zero _).symm) (by rfl) ?_
  refine ag_load_c (q := 1) rfl rfl rfl Try.isAgg3 (by with_reducible (repeat (first | exact Z0 | apply Z1))) (by first | rfl | exact (Nat.add_zero _).symm) (by rfl) ?_
  refine ag_loadN_O (j := 0) (k' := t.toNat) (us := [_, _, _]) (enc := enc3) (off := io25) rfl rfl rfl Try.isAgg79 Try.sizeOf79 ha25 enc3_len hst (by with_reducible (repeat (first | exact Z0 | apply Z1))) (by first | rfl | exact (Nat.add_zero _).symm | omega) (by rfl) rfl ?_
  refine ag_nil ?_
  refine l_store (j := 0) rfl rfl rfl rfl Try.sizeOf79 (us := [_, _, _]) rfl rfl rfl (by with_reducible (repeat (first | exact Z0 | apply Z1))) (by first | rfl | exact (Nat.add_zero _).symm) (by first | decide | (simp; done) | omega) ?_
  simp only [setL, List.set]
  refine ag_nil ?_
  refine r_done ?_
  refine s_keep [0, 3, 5] (e' := [(0, _), (3, _), (5, _)]) rfl ?_
  refine k_then_n ?_
  refine c_seq ?_
  refine c_seq ?_
  refine c_plain (.q 0 (.q 1 (.q 2 (.done)))) (by kernel_rfl) ?_
  refine q_field (k := 0) rfl rfl rfl rfl Try.underlying79 rfl Try.sizeOf77 rfl ?_
  refine q_load_c (j := 0) rfl rfl rfl rfl Try.isAgg77 (by with_reducible (repeat (first | exact Z0 | apply Z1))) (by first | rfl | exact (Nat.add_zero _).symm) (by rfl) ?_
  refine q_int rfl rfl rfl rfl rfl (b_eql _ _ _ _) ?_
  refine r_done ?_
  refine k_then_n ?_
  refine c_cond_p rfl (fun h2 => ?_) (fun h2 => ?_)
  ·
   refine c_seq ?_
   refine c_plain (.q 0 (.q 1 (.q 2 (.q 3 (.q 4 (.q 5 (.q 6 (.q 7 (.q 8 (.q 9 (.q 10 (.q 11 (.q 12 (.q 13 ((.l 14 [] (.q 15 (.q 16 (.done))))))))))))))))))) (by kernel_rfl) ?_
   refine q_field (k := 0) rfl rfl rfl rfl Try.underlying40 rfl Try.sizeOf38 rfl ?_
   refine q_load_c (j := 0) rfl rfl rfl rfl Try.isAgg38 (by with_reducible (repeat (first | exact Z0 | apply Z1))) (by first | rfl | exact (Nat.add_zero _).symm) (by rfl) ?_
   refine q_int rfl rfl rfl rfl rfl (b_eql _ _ _ _) ?_
   refine q_move rfl rfl rfl rfl ?_
   refine s_bool_p 33 rfl (fun h10 => ?_) (fun h10 => ?_)
   ·
    refine q_field (k := 2) rfl rfl rfl rfl Try.underlying40 rfl Try.sizeOf3 rfl ?_
    refine q_load_c (j := 2) rfl rfl rfl rfl Try.isAgg3 (by with_reducible (repeat (first | exact Z0 | apply Z1))) (by first | rfl | exact (Nat.add_zero _).symm) (by rfl) ?_
    refine q_field (k := 1) rfl rfl rfl rfl Try.underlying79 rfl Try.sizeOf3 rfl ?_
    refine q_load_c (j := 1) rfl rfl rfl rfl Try.isAgg3 (by with_reducible (repeat (first | exact Z0 | apply Z1))) (by first | rfl | exact (Nat.add_zero _).symm) (by rfl) ?_
    refine q_int rfl rfl rfl rfl rfl (b_eql _ _ _ _) ?_
    refine q_pick_t rfl rfl rfl rfl rfl ?_
    refine q_move rfl rfl rfl rfl ?_
    refine s_bool_p 40 rfl (fun hob => ?_) (fun hob => ?_)
    ·
     refine q_move rfl rfl rfl rfl ?_
     refine q_field (k := 1) rfl rfl rfl rfl Try.underlying40 rfl Try.sizeOf3 rfl ?_
     refine q_load_c (j := 1) rfl rfl rfl rfl Try.isAgg3 (by with_reducible (repeat (first | exact Z0 | apply Z1))) (by first | rfl | exact (Nat.add_zero _).symm) (by rfl) ?_
     refine rk_fold (b := b) x (pa := pa) (pc := pc) (ta := ta) (tc := tc) (oa := oa) (oc := oc) (ba := ba) (bc := bc) (by (repeat ((with_reducible apply Z2); focus (first | (with_reducible (repeat (first | exact Z0 | apply Z1)); done) | (repeat (first | exact Z0 | apply Z1))))); exact Z3) (by rfl) (by rfl) (by rfl) (by rfl) ?_
     have sp_2 := rfull_spec pa pc b x hx t
     refine l_call rfl rfl rfl rfl rfl rfl Try.call53 (sp_2) (by (repeat ((with_reducible apply Z2); focus (first | (with_reducible (repeat (first | exact Z0 | apply Z1)); done) | (repeat (first | exact Z0 | apply Z1))))); exact Z3) ?_
     rintro ⟨⟩ -
     try simp only [List.cons_append, List.nil_append]
     refine ag_nil ?_
     refine s_take (A := rk pa pc b x) (by with_reducible (repeat (first | exact Z0 | apply Z1))) ?_
     refine rk_open fun ta tc oa oc ba bc => ?_
     refine q_pick_t rfl rfl rfl rfl rfl ?_
     refine q_assign rfl rfl rfl rfl ?_
     refine r_done ?_
     refine s_keep [4] (e' := [(4, _)]) rfl ?_
     refine k_then_n ?_
     refine c_ret ?_
     refine k_then_ret ?_
     refine rk_fold (b := b) x (pa := pa) (pc := pc) (ta := ta) (tc := tc) (oa := oa) (oc := oc) (ba := ba) (bc := bc) (by (repeat ((with_reducible apply Z2); focus (first | (with_reducible (repeat (first | exact Z0 | apply Z1)); done) | (repeat (first | exact Z0 | apply Z1))))); exact Z3) (by rfl) (by rfl) (by rfl) (by rfl) ?_
     refine ret1 rfl rfl (()) (by congr 1; first | (rw [decide_eq_decide, can_wait h2]; simp_all; done) | (symm; rw [decide_eq_false_iff_not, can_wait h2]; simp_all)) (by trivial) ?_
     (repeat ((with_reducible apply Z2); focus (first | (with_reducible (repeat (first | exact Z0 | apply Z1)); done) | (repeat (first | exact Z0 | apply Z1))))); (repeat (first | exact Z3 | exact Takes.self | refine takes_drop2 ?_))
    ·
     refine q_skip rfl rfl rfl rfl ?_
     refine q_skip rfl rfl rfl rfl ?_
     refine q_skip rfl rfl rfl rfl ?_
     refine l_skip rfl rfl rfl rfl ?_
     refine q_pick_f rfl rfl rfl rfl rfl ?_
     refine q_assign rfl rfl rfl rfl ?_
     refine r_done ?_
     refine s_keep [4] (e' := [(4, _)]) rfl ?_
     refine k_then_n ?_
     refine c_ret ?_
     refine k_then_ret ?_
     refine rk_fold (b := b) x (pa := pa) (pc := pc) (ta := ta) (tc := tc) (oa := oa) (oc := oc) (ba := ba) (bc := bc) (by (repeat ((with_reducible apply Z2); focus (first | (with_reducible (repeat (first | exact Z0 | apply Z1)); done) | (repeat (first | exact Z0 | apply Z1))))); exact Z3) (by rfl) (by rfl) (by rfl) (by rfl) ?_
     refine ret1 rfl rfl (()) (by congr 1; first | (rw [decide_eq_decide, can_wait h2]; simp_all; done) | (symm; rw [decide_eq_false_iff_not, can_wait h2]; simp_all)) (by trivial) ?_
     (repeat ((with_reducible apply Z2); focus (first | (with_reducible (repeat (first | exact Z0 | apply Z1)); done) | (repeat (first | exact Z0 | apply Z1))))); (repeat (first | exact Z3 | exact Takes.self | refine takes_drop2 ?_))
   ·
    refine q_skip rfl rfl rfl rfl ?_
    refine q_skip rfl rfl rfl rfl ?_
    refine q_skip rfl rfl rfl rfl ?_
    refine q_skip rfl rfl rfl rfl ?_
    refine q_skip rfl rfl rfl rfl ?_
    refine q_pick_f rfl rfl rfl rfl rfl ?_
    refine q_move rfl rfl rfl rfl ?_
    refine q_skip rfl rfl rfl rfl ?_
    refine q_skip rfl rfl rfl rfl ?_
    refine q_skip rfl rfl rfl rfl ?_
    refine l_skip rfl rfl rfl rfl ?_
    refine q_pick_f rfl rfl rfl rfl rfl ?_
    refine q_assign rfl rfl rfl rfl ?_
    refine r_done ?_
    refine s_keep [4] (e' := [(4, _)]) rfl ?_
    refine k_then_n ?_
    refine c_ret ?_
    refine k_then_ret ?_
    refine rk_fold (b := b) x (pa := pa) (pc := pc) (ta := ta) (tc := tc) (oa := oa) (oc := oc) (ba := ba) (bc := bc) (by (repeat ((with_reducible apply Z2); focus (first | (with_reducible (repeat (first | exact Z0 | apply Z1)); done) | (repeat (first | exact Z0 | apply Z1))))); exact Z3) (by rfl) (by rfl) (by rfl) (by rfl) ?_
    refine ret1 rfl rfl (()) (by congr 1; first | (rw [decide_eq_decide, can_wait h2]; simp_all; done) | (symm; rw [decide_eq_false_iff_not, can_wait h2]; simp_all)) (by trivial) ?_
    (repeat ((with_reducible apply Z2); focus (first | (with_reducible (repeat (first | exact Z0 | apply Z1)); done) | (repeat (first | exact Z0 | apply Z1))))); (repeat (first | exact Z3 | exact Takes.self | refine takes_drop2 ?_))
  ·
   refine c_skip ?_
   refine k_then_n ?_
   refine c_seq ?_
   refine c_seq ?_
   refine c_plain (.q 0 (.q 1 (.q 2 (.done)))) (by kernel_rfl) ?_
   refine q_field (k := 0) rfl rfl rfl rfl Try.underlying79 rfl Try.sizeOf77 rfl ?_
   refine q_load_c (j := 0) rfl rfl rfl rfl Try.isAgg77 (by with_reducible (repeat (first | exact Z0 | apply Z1))) (by first | rfl | exact (Nat.add_zero _).symm) (by rfl) ?_
   refine q_int rfl rfl rfl rfl rfl (b_neq _ _ _ _) ?_
   refine r_done ?_
   refine s_keep [0, 3, 48] (e' := [(0, _), (3, _), (48, _)]) rfl ?_
   refine k_then_n ?_
   refine c_cond_p rfl (fun h1 => ?_) (fun h1 => ?_)
   ·
    refine c_seq ?_
    refine c_plain (.q 0 (.done)) (by kernel_rfl) ?_
    refine q_assign rfl rfl rfl rfl ?_
    refine r_done ?_
    refine k_then_n ?_
    refine c_ret ?_
    refine k_then_ret ?_
    refine rk_fold (b := b) x (pa := pa) (pc := pc) (ta := ta) (tc := tc) (oa := oa) (oc := oc) (ba := ba) (bc := bc) (by (repeat ((with_reducible apply Z2); focus (first | (with_reducible (repeat (first | exact Z0 | apply Z1)); done) | (repeat (first | exact Z0 | apply Z1))))); exact Z3) (by rfl) (by rfl) (by rfl) (by rfl) ?_
    refine ret1 rfl rfl (()) (by congr 1; symm; rw [decide_eq_false_iff_not]; exact can_not h2 (.inl h1)) (by trivial) ?_
    (repeat ((with_reducible apply Z2); focus (first | (with_reducible (repeat (first | exact Z0 | apply Z1)); done) | (repeat (first | exact Z0 | apply Z1))))); (repeat (first | exact Z3 | exact Takes.self | refine takes_drop2 ?_))
   ·
    have h1 : (stF x t).1 = 1 := by omega
    refine c_skip ?_
    refine k_then_n ?_
    refine c_seq ?_
    refine c_seq ?_
    refine c_plain (.q 0 (.q 1 (.done))) (by kernel_rfl) ?_
    refine q_field (k := 0) rfl rfl rfl rfl Try.underlying40 rfl Try.sizeOf38 rfl ?_
    refine q_load_c (j := 0) rfl rfl rfl rfl Try.isAgg38 (by with_reducible (repeat (first | exact Z0 | apply Z1))) (by first | rfl | exact (Nat.add_zero _).symm) (by rfl) ?_
    refine r_done ?_
    refine k_then_n ?_
    refine c_block ?_
    refine c_seq ?_
    refine c_seq ?_
    refine c_plain (.q 0 (.q 1 (.done))) (by kernel_rfl) ?_
    refine q_int rfl rfl rfl rfl rfl (b_eql _ _ _ _) ?_
    refine q_assign rfl rfl rfl rfl ?_
    refine r_done ?_
    refine k_then_n ?_
    refine c_cond_p rfl (fun k1 => ?_) (fun k1 => ?_)
    ·
     refine s_eq 51 rfl (v' := .bool true) (by rw [decide_eq_true k1]) ?_
     refine c_skip ?_
     refine k_then_n ?_
     refine c_cond_t rfl ?_
     refine c_seq ?_
     refine c_draw rfl (.q 0 (.q 1 (.q 2 (.q 3 (.q 4 (.q 5 (.q 6 ((.l 7 [] (.q 8 (.done))))))))))) (by kernel_rfl) ?_
     refine q_field (k := 2) rfl rfl rfl rfl Try.underlying40 rfl Try.sizeOf3 rfl ?_
     refine q_load_c (j := 2) rfl rfl rfl rfl Try.isAgg3 (by with_reducible (repeat (first | exact Z0 | apply Z1))) (by first | rfl | exact (Nat.add_zero _).symm) (by rfl) ?_
     refine q_move rfl rfl rfl rfl ?_
     refine q_nil_p rfl rfl rfl rfl ?_
     refine q_field (k := 0) rfl rfl rfl rfl Try.underlying113 rfl Try.sizeOf24 rfl ?_
     refine q_field (k := 1) rfl rfl rfl rfl Try.underlying24 rfl Try.sizeOf3 rfl ?_
     refine q_load_c (j := 1) rfl rfl rfl rfl Try.isAgg3 (by with_reducible (repeat (first | exact Z0 | apply Z1))) (by first | rfl | exact (Nat.add_zero _).symm) (by rfl) ?_
     have sp_3 := below_spec o x.va
     refine l_call rfl rfl rfl rfl rfl rfl Try.call52 (sp_3) (by (repeat ((with_reducible apply Z2); focus (first | (with_reducible (repeat (first | exact Z0 | apply Z1)); done) | (repeat (first | exact Z0 | apply Z1))))); exact Z3) ?_
     rintro ⟨⟩ -
     try simp only [List.cons_append, List.nil_append]
     refine ag_nil ?_
     refine q_assign rfl rfl rfl rfl ?_
     refine r_done ?_
     refine s_keep [4] (e' := [(4, _)]) rfl ?_
     refine k_then_n ?_
     refine c_ret ?_
     refine k_blk_ret ?_
     refine k_then_ret ?_
     refine rk_fold (b := b) x (pa := pa) (pc := pc) (ta := ta) (tc := tc) (oa := oa) (oc := oc) (ba := ba) (bc := bc) (by (repeat ((with_reducible apply Z2); focus (first | (with_reducible (repeat (first | exact Z0 | apply Z1)); done) | (repeat (first | exact Z0 | apply Z1))))); exact Z3) (by rfl) (by rfl) (by rfl) (by rfl) ?_
     refine ret1 rfl rfl (()) (by congr 1; rw [decide_eq_decide, can_run' h1, okK_k.1 (.inl k1)]; try rfl) (by trivial) ?_
     (repeat ((with_reducible apply Z2); focus (first | (with_reducible (repeat (first | exact Z0 | apply Z1)); done) | (repeat (first | exact Z0 | apply Z1))))); (repeat (first | exact Z3 | exact Takes.self | refine takes_drop2 ?_))
    ·
     refine s_eq 51 rfl (v' := .bool false) (by rw [decide_eq_false k1]) ?_
     refine c_plain (.q 0 (.q 1 (.done))) (by kernel_rfl) ?_
     refine q_int rfl rfl rfl rfl rfl (b_eql _ _ _ _) ?_
     refine q_assign rfl rfl rfl rfl ?_
     refine r_done ?_
     refine s_keep [0, 3, 50, 51] (e' := [(0, _), (3, _), (50, _), (51, _)]) rfl ?_
     refine k_then_n ?_
     refine c_cond_p rfl (fun k2 => ?_) (fun k2 => ?_)
     ·
      refine c_seq ?_
      refine c_draw rfl (.q 0 (.q 1 (.q 2 (.q 3 (.q 4 (.q 5 (.q 6 ((.l 7 [] (.q 8 (.done))))))))))) (by kernel_rfl) ?_
      refine q_field (k := 2) rfl rfl rfl rfl Try.underlying40 rfl Try.sizeOf3 rfl ?_
      refine q_load_c (j := 2) rfl rfl rfl rfl Try.isAgg3 (by with_reducible (repeat (first | exact Z0 | apply Z1))) (by first | rfl | exact (Nat.add_zero _).symm) (by rfl) ?_
      refine q_move rfl rfl rfl rfl ?_
      refine q_nil_p rfl rfl rfl rfl ?_
      refine q_field (k := 0) rfl rfl rfl rfl Try.underlying113 rfl Try.sizeOf24 rfl ?_
      refine q_field (k := 1) rfl rfl rfl rfl Try.underlying24 rfl Try.sizeOf3 rfl ?_
      refine q_load_c (j := 1) rfl rfl rfl rfl Try.isAgg3 (by with_reducible (repeat (first | exact Z0 | apply Z1))) (by first | rfl | exact (Nat.add_zero _).symm) (by rfl) ?_
      have sp_4 := below_spec o x.va
      refine l_call rfl rfl rfl rfl rfl rfl Try.call52 (sp_4) (by (repeat ((with_reducible apply Z2); focus (first | (with_reducible (repeat (first | exact Z0 | apply Z1)); done) | (repeat (first | exact Z0 | apply Z1))))); exact Z3) ?_
      rintro ⟨⟩ -
      try simp only [List.cons_append, List.nil_append]
      refine ag_nil ?_
      refine q_assign rfl rfl rfl rfl ?_
      refine r_done ?_
      refine s_keep [4] (e' := [(4, _)]) rfl ?_
      refine k_then_n ?_
      refine c_ret ?_
      refine k_blk_ret ?_
      refine k_then_ret ?_
      refine rk_fold (b := b) x (pa := pa) (pc := pc) (ta := ta) (tc := tc) (oa := oa) (oc := oc) (ba := ba) (bc := bc) (by (repeat ((with_reducible apply Z2); focus (first | (with_reducible (repeat (first | exact Z0 | apply Z1)); done) | (repeat (first | exact Z0 | apply Z1))))); exact Z3) (by rfl) (by rfl) (by rfl) (by rfl) ?_
      refine ret1 rfl rfl (()) (by congr 1; rw [decide_eq_decide, can_run' h1, okK_k.1 (.inr k2)]; try rfl) (by trivial) ?_
      (repeat ((with_reducible apply Z2); focus (first | (with_reducible (repeat (first | exact Z0 | apply Z1)); done) | (repeat (first | exact Z0 | apply Z1))))); (repeat (first | exact Z3 | exact Takes.self | refine takes_drop2 ?_))
     ·
      refine c_seq ?_
      refine c_seq ?_
      refine c_plain (.q 0 (.q 1 (.done))) (by kernel_rfl) ?_
      refine q_int rfl rfl rfl rfl rfl (b_eql _ _ _ _) ?_
      refine q_assign rfl rfl rfl rfl ?_
      refine r_done ?_
      refine k_then_n ?_
      refine c_cond_p rfl (fun k3 => ?_) (fun k3 => ?_)
      ·
       refine s_eq 62 rfl (v' := .bool true) (by rw [decide_eq_true k3]) ?_
       refine c_skip ?_
       refine k_then_n ?_
       refine c_cond_t rfl ?_
       refine c_seq ?_
       refine c_draw rfl (.q 0 (.q 1 (.q 2 (.q 3 (.q 4 (.q 5 (.q 6 ((.l 7 [] (.q 8 (.done))))))))))) (by kernel_rfl) ?_
       refine q_field (k := 2) rfl rfl rfl rfl Try.underlying40 rfl Try.sizeOf3 rfl ?_
       refine q_load_c (j := 2) rfl rfl rfl rfl Try.isAgg3 (by with_reducible (repeat (first | exact Z0 | apply Z1))) (by first | rfl | exact (Nat.add_zero _).symm) (by rfl) ?_
       refine q_move rfl rfl rfl rfl ?_
       refine q_nil_p rfl rfl rfl rfl ?_
       refine q_field (k := 0) rfl rfl rfl rfl Try.underlying113 rfl Try.sizeOf24 rfl ?_
       refine q_field (k := 2) rfl rfl rfl rfl Try.underlying24 rfl Try.sizeOf3 rfl ?_
       refine q_load_c (j := 2) rfl rfl rfl rfl Try.isAgg3 (by with_reducible (repeat (first | exact Z0 | apply Z1))) (by first | rfl | exact (Nat.add_zero _).symm) (by rfl) ?_
       have sp_5 := below_spec o x.vo
       refine l_call rfl rfl rfl rfl rfl rfl Try.call52 (sp_5) (by (repeat ((with_reducible apply Z2); focus (first | (with_reducible (repeat (first | exact Z0 | apply Z1)); done) | (repeat (first | exact Z0 | apply Z1))))); exact Z3) ?_
       rintro ⟨⟩ -
       try simp only [List.cons_append, List.nil_append]
       refine ag_nil ?_
       refine q_assign rfl rfl rfl rfl ?_
       refine r_done ?_
       refine s_keep [4] (e' := [(4, _)]) rfl ?_
       refine k_then_n ?_
       refine c_ret ?_
       refine k_blk_ret ?_
       refine k_then_ret ?_
       refine rk_fold (b := b) x (pa := pa) (pc := pc) (ta := ta) (tc := tc) (oa := oa) (oc := oc) (ba := ba) (bc := bc) (by (repeat ((with_reducible apply Z2); focus (first | (with_reducible (repeat (first | exact Z0 | apply Z1)); done) | (repeat (first | exact Z0 | apply Z1))))); exact Z3) (by rfl) (by rfl) (by rfl) (by rfl) ?_
       refine ret1 rfl rfl (()) (by congr 1; rw [decide_eq_decide, can_run' h1, okK_k.2.1 (.inl k3)]; try rfl) (by trivial) ?_
       (repeat ((with_reducible apply Z2); focus (first | (with_reducible (repeat (first | exact Z0 | apply Z1)); done) | (repeat (first | exact Z0 | apply Z1))))); (repeat (first | exact Z3 | exact Takes.self | refine takes_drop2 ?_))
      ·
       refine s_eq 62 rfl (v' := .bool false) (by rw [decide_eq_false k3]) ?_
       refine c_plain (.q 0 (.q 1 (.done))) (by kernel_rfl) ?_
       refine q_int rfl rfl rfl rfl rfl (b_eql _ _ _ _) ?_
       refine q_assign rfl rfl rfl rfl ?_
       refine r_done ?_
       refine k_then_n ?_
       refine c_cond_p rfl (fun k4 => ?_) (fun k4 => ?_)
       ·
        refine c_seq ?_
        refine c_draw rfl (.q 0 (.q 1 (.q 2 (.q 3 (.q 4 (.q 5 (.q 6 ((.l 7 [] (.q 8 (.done))))))))))) (by kernel_rfl) ?_
        refine q_field (k := 2) rfl rfl rfl rfl Try.underlying40 rfl Try.sizeOf3 rfl ?_
        refine q_load_c (j := 2) rfl rfl rfl rfl Try.isAgg3 (by with_reducible (repeat (first | exact Z0 | apply Z1))) (by first | rfl | exact (Nat.add_zero _).symm) (by rfl) ?_
        refine q_move rfl rfl rfl rfl ?_
        refine q_nil_p rfl rfl rfl rfl ?_
        refine q_field (k := 0) rfl rfl rfl rfl Try.underlying113 rfl Try.sizeOf24 rfl ?_
        refine q_field (k := 2) rfl rfl rfl rfl Try.underlying24 rfl Try.sizeOf3 rfl ?_
        refine q_load_c (j := 2) rfl rfl rfl rfl Try.isAgg3 (by with_reducible (repeat (first | exact Z0 | apply Z1))) (by first | rfl | exact (Nat.add_zero _).symm) (by rfl) ?_
        have sp_6 := below_spec o x.vo
        refine l_call rfl rfl rfl rfl rfl rfl Try.call52 (sp_6) (by (repeat ((with_reducible apply Z2); focus (first | (with_reducible (repeat (first | exact Z0 | apply Z1)); done) | (repeat (first | exact Z0 | apply Z1))))); exact Z3) ?_
        rintro ⟨⟩ -
        try simp only [List.cons_append, List.nil_append]
        refine ag_nil ?_
        refine q_assign rfl rfl rfl rfl ?_
        refine r_done ?_
        refine s_keep [4] (e' := [(4, _)]) rfl ?_
        refine k_then_n ?_
        refine c_ret ?_
        refine k_blk_ret ?_
        refine k_then_ret ?_
        refine rk_fold (b := b) x (pa := pa) (pc := pc) (ta := ta) (tc := tc) (oa := oa) (oc := oc) (ba := ba) (bc := bc) (by (repeat ((with_reducible apply Z2); focus (first | (with_reducible (repeat (first | exact Z0 | apply Z1)); done) | (repeat (first | exact Z0 | apply Z1))))); exact Z3) (by rfl) (by rfl) (by rfl) (by rfl) ?_
        refine ret1 rfl rfl (()) (by congr 1; rw [decide_eq_decide, can_run' h1, okK_k.2.1 (.inr k4)]; try rfl) (by trivial) ?_
        (repeat ((with_reducible apply Z2); focus (first | (with_reducible (repeat (first | exact Z0 | apply Z1)); done) | (repeat (first | exact Z0 | apply Z1))))); (repeat (first | exact Z3 | exact Takes.self | refine takes_drop2 ?_))
       ·
        refine c_seq ?_
        refine c_plain (.q 0 (.q 1 (.done))) (by kernel_rfl) ?_
        refine q_int rfl rfl rfl rfl rfl (b_eql _ _ _ _) ?_
        refine q_assign rfl rfl rfl rfl ?_
        refine r_done ?_
        refine s_keep [0, 3, 50, 73] (e' := [(0, _), (3, _), (50, _), (73, _)]) rfl ?_
        refine k_then_n ?_
        refine c_cond_p rfl (fun k5 => ?_) (fun k5 => ?_)
        ·
         refine c_seq ?_
         refine c_draw rfl (.q 0 (.q 1 (.q 2 (.q 3 (.q 4 (.q 5 (.q 6 ((.l 7 [] (.q 8 (.q 9 (.q 10 (.q 11 (.q 12 (.q 13 (.q 14 (.q 15 (.q 16 (.q 17 (.q 18 (.q 19 (.done)))))))))))))))))))))) (by kernel_rfl) ?_
         refine q_field (k := 2) rfl rfl rfl rfl Try.underlying40 rfl Try.sizeOf3 rfl ?_
         refine q_load_c (j := 2) rfl rfl rfl rfl Try.isAgg3 (by with_reducible (repeat (first | exact Z0 | apply Z1))) (by first | rfl | exact (Nat.add_zero _).symm) (by rfl) ?_
         refine q_move rfl rfl rfl rfl ?_
         refine q_nil_p rfl rfl rfl rfl ?_
         refine q_field (k := 6) rfl rfl rfl rfl Try.underlying113 rfl Try.sizeOf22 rfl ?_
         refine q_load_c (j := 6) rfl rfl rfl rfl Try.isAgg22 (by with_reducible (repeat (first | exact Z0 | apply Z1))) (by first | rfl | exact (Nat.add_zero _).symm) (by rfl) ?_
         refine q_len rfl rfl rfl rfl Try.underlying22 ?_
         have sp_7 := below_spec o ((x.O.length : Nat) : Int)
         refine l_call rfl rfl rfl rfl rfl rfl Try.call52 (sp_7) (by (repeat ((with_reducible apply Z2); focus (first | (with_reducible (repeat (first | exact Z0 | apply Z1)); done) | (repeat (first | exact Z0 | apply Z1))))); exact Z3) ?_
         rintro ⟨⟩ -
         try simp only [List.cons_append, List.nil_append]
         refine ag_nil ?_
         refine q_move rfl rfl rfl rfl ?_
         refine s_bool_p 83 rfl (fun hin2 => ?_) (fun hin2 => ?_)
         ·
          have hel := owV_at (x := x) (l := o) hin2.1 hin2.2
          refine q_move rfl rfl rfl rfl ?_
          refine q_nil_p rfl rfl rfl rfl ?_
          refine q_field (k := 6) rfl rfl rfl rfl Try.underlying113 rfl Try.sizeOf22 rfl ?_
          refine q_load_c (j := 6) rfl rfl rfl rfl Try.isAgg22 (by with_reducible (repeat (first | exact Z0 | apply Z1))) (by first | rfl | exact (Nat.add_zero _).symm) (by rfl) ?_
          refine q_field (k := 2) rfl rfl rfl rfl Try.underlying40 rfl Try.sizeOf3 rfl ?_
          refine q_load_c (j := 2) rfl rfl rfl rfl Try.isAgg3 (by with_reducible (repeat (first | exact Z0 | apply Z1))) (by first | rfl | exact (Nat.add_zero _).symm) (by rfl) ?_
          refine q_idxO (sz := 0) (k := o.toNat) (enc := encZ) (xs := x.O) rfl rfl rfl rfl rfl Try.underlying22 Try.sizeOf3 hel (by first | rfl | omega) (by omega) (by with_reducible (repeat (first | exact Z0 | apply Z1))) ?_
          intro ib90 io90 ha90 hl90 hc90
          refine q_load_O (v := (.int .i64 (owV x o))) (j := 0) (k' := o.toNat) (enc := encZ) (off := io90) rfl rfl rfl rfl Try.isAgg3 ha90 encZ_len hel (by with_reducible (repeat (first | exact Z0 | apply Z1))) (by first | rfl | exact (Nat.add_zero _).symm | omega) (by rfl) ?_
          refine q_int rfl rfl rfl rfl rfl (b_eql _ _ _ _) ?_
          refine q_pick_t rfl rfl rfl rfl rfl ?_
          refine q_assign rfl rfl rfl rfl ?_
          refine r_done ?_
          refine s_keep [4] (e' := [(4, _)]) rfl ?_
          refine k_then_n ?_
          refine c_ret ?_
          refine k_blk_ret ?_
          refine k_then_ret ?_
          refine rk_fold (b := b) x (pa := pa) (pc := pc) (ta := ta) (tc := tc) (oa := oa) (oc := oc) (ba := ba) (bc := bc) (by (repeat ((with_reducible apply Z2); focus (first | (with_reducible (repeat (first | exact Z0 | apply Z1)); done) | (repeat (first | exact Z0 | apply Z1))))); exact Z3) (by rfl) (by rfl) (by rfl) (by rfl) ?_
          refine ret1 rfl rfl (()) (by congr 1; rw [decide_eq_decide, can_run' h1, okK_k.2.2.1 (k5)]; rw [owF_n]; exact ⟨fun h => ⟨hin2.1, by omega, h⟩, fun h => h.2.2⟩) (by trivial) ?_
          (repeat ((with_reducible apply Z2); focus (first | (with_reducible (repeat (first | exact Z0 | apply Z1)); done) | (repeat (first | exact Z0 | apply Z1))))); (repeat (first | exact Z3 | exact Takes.self | refine takes_drop2 ?_))
         ·
          refine q_skip rfl rfl rfl rfl ?_
          refine q_skip rfl rfl rfl rfl ?_
          refine q_skip rfl rfl rfl rfl ?_
          refine q_skip rfl rfl rfl rfl ?_
          refine q_skip rfl rfl rfl rfl ?_
          refine q_skip rfl rfl rfl rfl ?_
          refine q_skip rfl rfl rfl rfl ?_
          refine q_skip rfl rfl rfl rfl ?_
          refine q_skip rfl rfl rfl rfl ?_
          refine q_pick_f rfl rfl rfl rfl rfl ?_
          refine q_assign rfl rfl rfl rfl ?_
          refine r_done ?_
          refine s_keep [4] (e' := [(4, _)]) rfl ?_
          refine k_then_n ?_
          refine c_ret ?_
          refine k_blk_ret ?_
          refine k_then_ret ?_
          refine rk_fold (b := b) x (pa := pa) (pc := pc) (ta := ta) (tc := tc) (oa := oa) (oc := oc) (ba := ba) (bc := bc) (by (repeat ((with_reducible apply Z2); focus (first | (with_reducible (repeat (first | exact Z0 | apply Z1)); done) | (repeat (first | exact Z0 | apply Z1))))); exact Z3) (by rfl) (by rfl) (by rfl) (by rfl) ?_
          refine ret1 rfl rfl (()) (by congr 1; symm; rw [decide_eq_false_iff_not, can_run' h1, okK_k.2.2.1 (k5)]; rintro ⟨q1, q2, -⟩; omega) (by trivial) ?_
          (repeat ((with_reducible apply Z2); focus (first | (with_reducible (repeat (first | exact Z0 | apply Z1)); done) | (repeat (first | exact Z0 | apply Z1))))); (repeat (first | exact Z3 | exact Takes.self | refine takes_drop2 ?_))
        ·
         refine c_seq ?_
         refine c_plain (.q 0 (.q 1 (.done))) (by kernel_rfl) ?_
         refine q_int rfl rfl rfl rfl rfl (b_eql _ _ _ _) ?_
         refine q_assign rfl rfl rfl rfl ?_
         refine r_done ?_
         refine k_then_n ?_
         refine c_cond_p rfl (fun k6 => ?_) (fun k6 => ?_)
         ·
          refine c_seq ?_
          refine c_draw rfl (.q 0 (.q 1 (.q 2 (.q 3 (.q 4 (.q 5 (.q 6 ((.l 7 [] (.q 8 (.q 9 (.q 10 (.q 11 (.q 12 (.q 13 (.q 14 (.q 15 (.q 16 (.q 17 (.q 18 (.q 19 (.q 20 (.q 21 (.done)))))))))))))))))))))))) (by kernel_rfl) ?_
          refine q_field (k := 2) rfl rfl rfl rfl Try.underlying40 rfl Try.sizeOf3 rfl ?_
          refine q_load_c (j := 2) rfl rfl rfl rfl Try.isAgg3 (by with_reducible (repeat (first | exact Z0 | apply Z1))) (by first | rfl | exact (Nat.add_zero _).symm) (by rfl) ?_
          refine q_move rfl rfl rfl rfl ?_
          refine q_nil_p rfl rfl rfl rfl ?_
          refine q_field (k := 6) rfl rfl rfl rfl Try.underlying113 rfl Try.sizeOf22 rfl ?_
          refine q_load_c (j := 6) rfl rfl rfl rfl Try.isAgg22 (by with_reducible (repeat (first | exact Z0 | apply Z1))) (by first | rfl | exact (Nat.add_zero _).symm) (by rfl) ?_
          refine q_len rfl rfl rfl rfl Try.underlying22 ?_
          have sp_8 := below_spec o ((x.O.length : Nat) : Int)
          refine l_call rfl rfl rfl rfl rfl rfl Try.call52 (sp_8) (by (repeat ((with_reducible apply Z2); focus (first | (with_reducible (repeat (first | exact Z0 | apply Z1)); done) | (repeat (first | exact Z0 | apply Z1))))); exact Z3) ?_
          rintro ⟨⟩ -
          try simp only [List.cons_append, List.nil_append]
          refine ag_nil ?_
          refine q_move rfl rfl rfl rfl ?_
          refine s_bool_p 104 rfl (fun hin2 => ?_) (fun hin2 => ?_)
          ·
           have hel := owV_at (x := x) (l := o) hin2.1 hin2.2
           refine q_move rfl rfl rfl rfl ?_
           refine q_nil_p rfl rfl rfl rfl ?_
           refine q_field (k := 6) rfl rfl rfl rfl Try.underlying113 rfl Try.sizeOf22 rfl ?_
           refine q_load_c (j := 6) rfl rfl rfl rfl Try.isAgg22 (by with_reducible (repeat (first | exact Z0 | apply Z1))) (by first | rfl | exact (Nat.add_zero _).symm) (by rfl) ?_
           refine q_field (k := 2) rfl rfl rfl rfl Try.underlying40 rfl Try.sizeOf3 rfl ?_
           refine q_load_c (j := 2) rfl rfl rfl rfl Try.isAgg3 (by with_reducible (repeat (first | exact Z0 | apply Z1))) (by first | rfl | exact (Nat.add_zero _).symm) (by rfl) ?_
           refine q_idxO (sz := 0) (k := o.toNat) (enc := encZ) (xs := x.O) rfl rfl rfl rfl rfl Try.underlying22 Try.sizeOf3 hel (by first | rfl | omega) (by omega) (by with_reducible (repeat (first | exact Z0 | apply Z1))) ?_
           intro ib111 io111 ha111 hl111 hc111
           refine q_load_O (v := (.int .i64 (owV x o))) (j := 0) (k' := o.toNat) (enc := encZ) (off := io111) rfl rfl rfl rfl Try.isAgg3 ha111 encZ_len hel (by with_reducible (repeat (first | exact Z0 | apply Z1))) (by first | rfl | exact (Nat.add_zero _).symm | omega) (by rfl) ?_
           refine q_field (k := 1) rfl rfl rfl rfl Try.underlying40 rfl Try.sizeOf3 rfl ?_
           refine q_load_c (j := 1) rfl rfl rfl rfl Try.isAgg3 (by with_reducible (repeat (first | exact Z0 | apply Z1))) (by first | rfl | exact (Nat.add_zero _).symm) (by rfl) ?_
           refine q_int rfl rfl rfl rfl rfl (b_eql _ _ _ _) ?_
           refine q_pick_t rfl rfl rfl rfl rfl ?_
           refine q_assign rfl rfl rfl rfl ?_
           refine r_done ?_
           refine s_keep [4] (e' := [(4, _)]) rfl ?_
           refine k_then_n ?_
           refine c_ret ?_
           refine k_blk_ret ?_
           refine k_then_ret ?_
           refine rk_fold (b := b) x (pa := pa) (pc := pc) (ta := ta) (tc := tc) (oa := oa) (oc := oc) (ba := ba) (bc := bc) (by (repeat ((with_reducible apply Z2); focus (first | (with_reducible (repeat (first | exact Z0 | apply Z1)); done) | (repeat (first | exact Z0 | apply Z1))))); exact Z3) (by rfl) (by rfl) (by rfl) (by rfl) ?_
           refine ret1 rfl rfl (()) (by congr 1; rw [decide_eq_decide, can_run' h1, okK_k.2.2.2.1 (k6)]; rw [owF_s (by omega)]; exact ⟨fun h => ⟨hin2.1, by omega, h⟩, fun h => h.2.2⟩) (by trivial) ?_
           (repeat ((with_reducible apply Z2); focus (first | (with_reducible (repeat (first | exact Z0 | apply Z1)); done) | (repeat (first | exact Z0 | apply Z1))))); (repeat (first | exact Z3 | exact Takes.self | refine takes_drop2 ?_))
          ·
           refine q_skip rfl rfl rfl rfl ?_
           refine q_skip rfl rfl rfl rfl ?_
           refine q_skip rfl rfl rfl rfl ?_
           refine q_skip rfl rfl rfl rfl ?_
           refine q_skip rfl rfl rfl rfl ?_
           refine q_skip rfl rfl rfl rfl ?_
           refine q_skip rfl rfl rfl rfl ?_
           refine q_skip rfl rfl rfl rfl ?_
           refine q_skip rfl rfl rfl rfl ?_
           refine q_skip rfl rfl rfl rfl ?_
           refine q_skip rfl rfl rfl rfl ?_
           refine q_pick_f rfl rfl rfl rfl rfl ?_
           refine q_assign rfl rfl rfl rfl ?_
           refine r_done ?_
           refine s_keep [4] (e' := [(4, _)]) rfl ?_
           refine k_then_n ?_
           refine c_ret ?_
           refine k_blk_ret ?_
           refine k_then_ret ?_
           refine rk_fold (b := b) x (pa := pa) (pc := pc) (ta := ta) (tc := tc) (oa := oa) (oc := oc) (ba := ba) (bc := bc) (by (repeat ((with_reducible apply Z2); focus (first | (with_reducible (repeat (first | exact Z0 | apply Z1)); done) | (repeat (first | exact Z0 | apply Z1))))); exact Z3) (by rfl) (by rfl) (by rfl) (by rfl) ?_
           refine ret1 rfl rfl (()) (by congr 1; symm; rw [decide_eq_false_iff_not, can_run' h1, okK_k.2.2.2.1 (k6)]; rintro ⟨q1, q2, -⟩; omega) (by trivial) ?_
           (repeat ((with_reducible apply Z2); focus (first | (with_reducible (repeat (first | exact Z0 | apply Z1)); done) | (repeat (first | exact Z0 | apply Z1))))); (repeat (first | exact Z3 | exact Takes.self | refine takes_drop2 ?_))
         ·
          refine c_seq ?_
          refine c_plain (.q 0 (.q 1 (.done))) (by kernel_rfl) ?_
          refine q_int rfl rfl rfl rfl rfl (b_eql _ _ _ _) ?_
          refine q_assign rfl rfl rfl rfl ?_
          refine r_done ?_
          refine s_keep [0, 3, 50, 117] (e' := [(0, _), (3, _), (50, _), (117, _)]) rfl ?_
          refine k_then_n ?_
          refine c_cond_p rfl (fun k7 => ?_) (fun k7 => ?_)
          ·
           refine c_seq ?_
           refine c_draw rfl (.q 0 (.q 1 (.q 2 (.q 3 (.q 4 (.q 5 (.q 6 ((.l 7 [] (.q 8 (.q 9 (.q 10 (.q 11 (.q 12 (.q 13 (.q 14 (.q 15 (.q 16 (.q 17 (.q 18 (.q 19 (.q 20 (.done))))))))))))))))))))))) (by kernel_rfl) ?_
           refine q_field (k := 2) rfl rfl rfl rfl Try.underlying40 rfl Try.sizeOf3 rfl ?_
           refine q_load_c (j := 2) rfl rfl rfl rfl Try.isAgg3 (by with_reducible (repeat (first | exact Z0 | apply Z1))) (by first | rfl | exact (Nat.add_zero _).symm) (by rfl) ?_
           refine q_move rfl rfl rfl rfl ?_
           refine q_nil_p rfl rfl rfl rfl ?_
           refine q_field (k := 5) rfl rfl rfl rfl Try.underlying113 rfl Try.sizeOf110 rfl ?_
           refine q_load_c (j := 5) rfl rfl rfl rfl Try.isAgg110 (by with_reducible (repeat (first | exact Z0 | apply Z1))) (by first | rfl | exact (Nat.add_zero _).symm) (by rfl) ?_
           refine q_len rfl rfl rfl rfl Try.underlying110 ?_
           have sp_9 := below_spec o ((x.T.length : Nat) : Int)
           refine l_call rfl rfl rfl rfl rfl rfl Try.call52 (sp_9) (by (repeat ((with_reducible apply Z2); focus (first | (with_reducible (repeat (first | exact Z0 | apply Z1)); done) | (repeat (first | exact Z0 | apply Z1))))); exact Z3) ?_
           rintro ⟨⟩ -
           try simp only [List.cons_append, List.nil_append]
           refine ag_nil ?_
           refine q_move rfl rfl rfl rfl ?_
           refine s_bool_p 127 rfl (fun hin2 => ?_) (fun hin2 => ?_)
           ·
            have hel := stF_at (x := x) (t := o) hin2.1 hin2.2
            refine q_move rfl rfl rfl rfl ?_
            refine q_nil_p rfl rfl rfl rfl ?_
            refine q_field (k := 5) rfl rfl rfl rfl Try.underlying113 rfl Try.sizeOf110 rfl ?_
            refine q_load_c (j := 5) rfl rfl rfl rfl Try.isAgg110 (by with_reducible (repeat (first | exact Z0 | apply Z1))) (by first | rfl | exact (Nat.add_zero _).symm) (by rfl) ?_
            refine q_field (k := 2) rfl rfl rfl rfl Try.underlying40 rfl Try.sizeOf3 rfl ?_
            refine q_load_c (j := 2) rfl rfl rfl rfl Try.isAgg3 (by with_reducible (repeat (first | exact Z0 | apply Z1))) (by first | rfl | exact (Nat.add_zero _).symm) (by rfl) ?_
            refine q_idxO (sz := 2) (k := o.toNat) (enc := enc3) (xs := x.T) rfl rfl rfl rfl rfl Try.underlying110 Try.sizeOf79 hel (by first | rfl | omega) (by omega) (by with_reducible (repeat (first | exact Z0 | apply Z1))) ?_
            intro ib134 io134 ha134 hl134 hc134
            refine q_field (k := 0) rfl rfl rfl rfl Try.underlying79 rfl Try.sizeOf77 rfl ?_
            refine q_load_O (v := (.int .i64 ((stF x o).1))) (j := 0) (k' := o.toNat) (enc := enc3) (off := io134) rfl rfl rfl rfl Try.isAgg77 ha134 enc3_len hel (by with_reducible (repeat (first | exact Z0 | apply Z1))) (by first | rfl | exact (Nat.add_zero _).symm | omega) (by rfl) ?_
            refine q_int rfl rfl rfl rfl rfl (b_eql _ _ _ _) ?_
            refine q_pick_t rfl rfl rfl rfl rfl ?_
            refine q_assign rfl rfl rfl rfl ?_
            refine r_done ?_
            refine s_keep [4] (e' := [(4, _)]) rfl ?_
            refine k_then_n ?_
            refine c_ret ?_
            refine k_blk_ret ?_
            refine k_then_ret ?_
            refine rk_fold (b := b) x (pa := pa) (pc := pc) (ta := ta) (tc := tc) (oa := oa) (oc := oc) (ba := ba) (bc := bc) (by (repeat ((with_reducible apply Z2); focus (first | (with_reducible (repeat (first | exact Z0 | apply Z1)); done) | (repeat (first | exact Z0 | apply Z1))))); exact Z3) (by rfl) (by rfl) (by rfl) (by rfl) ?_
            refine ret1 rfl rfl (()) (by congr 1; rw [decide_eq_decide, can_run' h1, okK_k.2.2.2.2.1 (k7)]; omega) (by trivial) ?_
            (repeat ((with_reducible apply Z2); focus (first | (with_reducible (repeat (first | exact Z0 | apply Z1)); done) | (repeat (first | exact Z0 | apply Z1))))); (repeat (first | exact Z3 | exact Takes.self | refine takes_drop2 ?_))
           ·
            refine q_skip rfl rfl rfl rfl ?_
            refine q_skip rfl rfl rfl rfl ?_
            refine q_skip rfl rfl rfl rfl ?_
            refine q_skip rfl rfl rfl rfl ?_
            refine q_skip rfl rfl rfl rfl ?_
            refine q_skip rfl rfl rfl rfl ?_
            refine q_skip rfl rfl rfl rfl ?_
            refine q_skip rfl rfl rfl rfl ?_
            refine q_skip rfl rfl rfl rfl ?_
            refine q_skip rfl rfl rfl rfl ?_
            refine q_pick_f rfl rfl rfl rfl rfl ?_
            refine q_assign rfl rfl rfl rfl ?_
            refine r_done ?_
            refine s_keep [4] (e' := [(4, _)]) rfl ?_
            refine k_then_n ?_
            refine c_ret ?_
            refine k_blk_ret ?_
            refine k_then_ret ?_
            refine rk_fold (b := b) x (pa := pa) (pc := pc) (ta := ta) (tc := tc) (oa := oa) (oc := oc) (ba := ba) (bc := bc) (by (repeat ((with_reducible apply Z2); focus (first | (with_reducible (repeat (first | exact Z0 | apply Z1)); done) | (repeat (first | exact Z0 | apply Z1))))); exact Z3) (by rfl) (by rfl) (by rfl) (by rfl) ?_
            refine ret1 rfl rfl (()) (by congr 1; symm; rw [decide_eq_false_iff_not, can_run' h1, okK_k.2.2.2.2.1 (k7)]; rintro ⟨q1, q2, -⟩; omega) (by trivial) ?_
            (repeat ((with_reducible apply Z2); focus (first | (with_reducible (repeat (first | exact Z0 | apply Z1)); done) | (repeat (first | exact Z0 | apply Z1))))); (repeat (first | exact Z3 | exact Takes.self | refine takes_drop2 ?_))
          ·
           refine c_seq ?_
           refine c_plain (.q 0 (.q 1 (.done))) (by kernel_rfl) ?_
           refine q_int rfl rfl rfl rfl rfl (b_eql _ _ _ _) ?_
           refine q_assign rfl rfl rfl rfl ?_
           refine r_done ?_
           refine k_then_n ?_
           refine c_cond_p rfl (fun k8 => ?_) (fun k8 => ?_)
           ·
            refine c_seq ?_
            refine c_draw rfl (.q 0 (.q 1 (.q 2 (.q 3 (.q 4 (.q 5 (.q 6 ((.l 7 [] (.q 8 (.q 9 (.q 10 (.q 11 (.q 12 (.q 13 (.q 14 (.q 15 (.q 16 (.q 17 (.q 18 (.q 19 (.q 20 (.done))))))))))))))))))))))) (by kernel_rfl) ?_
            refine q_field (k := 2) rfl rfl rfl rfl Try.underlying40 rfl Try.sizeOf3 rfl ?_
            refine q_load_c (j := 2) rfl rfl rfl rfl Try.isAgg3 (by with_reducible (repeat (first | exact Z0 | apply Z1))) (by first | rfl | exact (Nat.add_zero _).symm) (by rfl) ?_
            refine q_move rfl rfl rfl rfl ?_
            refine q_nil_p rfl rfl rfl rfl ?_
            refine q_field (k := 5) rfl rfl rfl rfl Try.underlying113 rfl Try.sizeOf110 rfl ?_
            refine q_load_c (j := 5) rfl rfl rfl rfl Try.isAgg110 (by with_reducible (repeat (first | exact Z0 | apply Z1))) (by first | rfl | exact (Nat.add_zero _).symm) (by rfl) ?_
            refine q_len rfl rfl rfl rfl Try.underlying110 ?_
            have sp_10 := below_spec o ((x.T.length : Nat) : Int)
            refine l_call rfl rfl rfl rfl rfl rfl Try.call52 (sp_10) (by (repeat ((with_reducible apply Z2); focus (first | (with_reducible (repeat (first | exact Z0 | apply Z1)); done) | (repeat (first | exact Z0 | apply Z1))))); exact Z3) ?_
            rintro ⟨⟩ -
            try simp only [List.cons_append, List.nil_append]
            refine ag_nil ?_
            refine q_move rfl rfl rfl rfl ?_
            refine s_bool_p 149 rfl (fun hin2 => ?_) (fun hin2 => ?_)
            ·
             have hel := stF_at (x := x) (t := o) hin2.1 hin2.2
             refine q_move rfl rfl rfl rfl ?_
             refine q_nil_p rfl rfl rfl rfl ?_
             refine q_field (k := 5) rfl rfl rfl rfl Try.underlying113 rfl Try.sizeOf110 rfl ?_
             refine q_load_c (j := 5) rfl rfl rfl rfl Try.isAgg110 (by with_reducible (repeat (first | exact Z0 | apply Z1))) (by first | rfl | exact (Nat.add_zero _).symm) (by rfl) ?_
             refine q_field (k := 2) rfl rfl rfl rfl Try.underlying40 rfl Try.sizeOf3 rfl ?_
             refine q_load_c (j := 2) rfl rfl rfl rfl Try.isAgg3 (by with_reducible (repeat (first | exact Z0 | apply Z1))) (by first | rfl | exact (Nat.add_zero _).symm) (by rfl) ?_
             refine q_idxO (sz := 2) (k := o.toNat) (enc := enc3) (xs := x.T) rfl rfl rfl rfl rfl Try.underlying110 Try.sizeOf79 hel (by first | rfl | omega) (by omega) (by with_reducible (repeat (first | exact Z0 | apply Z1))) ?_
             intro ib156 io156 ha156 hl156 hc156
             refine q_field (k := 0) rfl rfl rfl rfl Try.underlying79 rfl Try.sizeOf77 rfl ?_
             refine q_load_O (v := (.int .i64 ((stF x o).1))) (j := 0) (k' := o.toNat) (enc := enc3) (off := io156) rfl rfl rfl rfl Try.isAgg77 ha156 enc3_len hel (by with_reducible (repeat (first | exact Z0 | apply Z1))) (by first | rfl | exact (Nat.add_zero _).symm | omega) (by rfl) ?_
             refine q_int rfl rfl rfl rfl rfl (b_eql _ _ _ _) ?_
             refine q_pick_t rfl rfl rfl rfl rfl ?_
             refine q_assign rfl rfl rfl rfl ?_
             refine r_done ?_
             refine s_keep [4] (e' := [(4, _)]) rfl ?_
             refine k_then_n ?_
             refine c_ret ?_
             refine k_blk_ret ?_
             refine k_then_ret ?_
             refine rk_fold (b := b) x (pa := pa) (pc := pc) (ta := ta) (tc := tc) (oa := oa) (oc := oc) (ba := ba) (bc := bc) (by (repeat ((with_reducible apply Z2); focus (first | (with_reducible (repeat (first | exact Z0 | apply Z1)); done) | (repeat (first | exact Z0 | apply Z1))))); exact Z3) (by rfl) (by rfl) (by rfl) (by rfl) ?_
             refine ret1 rfl rfl (()) (by congr 1; rw [decide_eq_decide, can_run' h1, okK_k.2.2.2.2.2.1 (k8)]; omega) (by trivial) ?_
             (repeat ((with_reducible apply Z2); focus (first | (with_reducible (repeat (first | exact Z0 | apply Z1)); done) | (repeat (first | exact Z0 | apply Z1))))); (repeat (first | exact Z3 | exact Takes.self | refine takes_drop2 ?_))
            ·
             refine q_skip rfl rfl rfl rfl ?_
             refine q_skip rfl rfl rfl rfl ?_
             refine q_skip rfl rfl rfl rfl ?_
             refine q_skip rfl rfl rfl rfl ?_
             refine q_skip rfl rfl rfl rfl ?_
             refine q_skip rfl rfl rfl rfl ?_
             refine q_skip rfl rfl rfl rfl ?_
             refine q_skip rfl rfl rfl rfl ?_
             refine q_skip rfl rfl rfl rfl ?_
             refine q_skip rfl rfl rfl rfl ?_
             refine q_pick_f rfl rfl rfl rfl rfl ?_
             refine q_assign rfl rfl rfl rfl ?_
             refine r_done ?_
             refine s_keep [4] (e' := [(4, _)]) rfl ?_
             refine k_then_n ?_
             refine c_ret ?_
             refine k_blk_ret ?_
             refine k_then_ret ?_
             refine rk_fold (b := b) x (pa := pa) (pc := pc) (ta := ta) (tc := tc) (oa := oa) (oc := oc) (ba := ba) (bc := bc) (by (repeat ((with_reducible apply Z2); focus (first | (with_reducible (repeat (first | exact Z0 | apply Z1)); done) | (repeat (first | exact Z0 | apply Z1))))); exact Z3) (by rfl) (by rfl) (by rfl) (by rfl) ?_
             refine ret1 rfl rfl (()) (by congr 1; symm; rw [decide_eq_false_iff_not, can_run' h1, okK_k.2.2.2.2.2.1 (k8)]; rintro ⟨q1, q2, -⟩; omega) (by trivial) ?_
             (repeat ((with_reducible apply Z2); focus (first | (with_reducible (repeat (first | exact Z0 | apply Z1)); done) | (repeat (first | exact Z0 | apply Z1))))); (repeat (first | exact Z3 | exact Takes.self | refine takes_drop2 ?_))
           ·
            refine c_seq ?_
            refine c_plain (.q 0 (.q 1 (.done))) (by kernel_rfl) ?_
            refine q_int rfl rfl rfl rfl rfl (b_eql _ _ _ _) ?_
            refine q_assign rfl rfl rfl rfl ?_
            refine r_done ?_
            refine s_keep [0, 3, 50, 161] (e' := [(0, _), (3, _), (50, _), (161, _)]) rfl ?_
            refine k_then_n ?_
            refine c_cond_p rfl (fun k9 => ?_) (fun k9 => ?_)
            ·
             refine c_seq ?_
             refine c_draw rfl (.q 0 (.q 1 (.q 2 (.q 3 (.q 4 (.q 5 (.q 6 ((.l 7 [] (.q 8 (.done))))))))))) (by kernel_rfl) ?_
             refine q_field (k := 2) rfl rfl rfl rfl Try.underlying40 rfl Try.sizeOf3 rfl ?_
             refine q_load_c (j := 2) rfl rfl rfl rfl Try.isAgg3 (by with_reducible (repeat (first | exact Z0 | apply Z1))) (by first | rfl | exact (Nat.add_zero _).symm) (by rfl) ?_
             refine q_move rfl rfl rfl rfl ?_
             refine q_nil_p rfl rfl rfl rfl ?_
             refine q_field (k := 7) rfl rfl rfl rfl Try.underlying113 rfl Try.sizeOf111 rfl ?_
             refine q_load_c (j := 7) rfl rfl rfl rfl Try.isAgg111 (by with_reducible (repeat (first | exact Z0 | apply Z1))) (by first | rfl | exact (Nat.add_zero _).symm) (by rfl) ?_
             refine q_len rfl rfl rfl rfl Try.underlying111 ?_
             have sp_11 := below_spec o ((x.B.length : Nat) : Int)
             refine l_call rfl rfl rfl rfl rfl rfl Try.call52 (sp_11) (by (repeat ((with_reducible apply Z2); focus (first | (with_reducible (repeat (first | exact Z0 | apply Z1)); done) | (repeat (first | exact Z0 | apply Z1))))); exact Z3) ?_
             rintro ⟨⟩ -
             try simp only [List.cons_append, List.nil_append]
             refine ag_nil ?_
             refine q_assign rfl rfl rfl rfl ?_
             refine r_done ?_
             refine s_keep [4] (e' := [(4, _)]) rfl ?_
             refine k_then_n ?_
             refine c_ret ?_
             refine k_blk_ret ?_
             refine k_then_ret ?_
             refine rk_fold (b := b) x (pa := pa) (pc := pc) (ta := ta) (tc := tc) (oa := oa) (oc := oc) (ba := ba) (bc := bc) (by (repeat ((with_reducible apply Z2); focus (first | (with_reducible (repeat (first | exact Z0 | apply Z1)); done) | (repeat (first | exact Z0 | apply Z1))))); exact Z3) (by rfl) (by rfl) (by rfl) (by rfl) ?_
             refine ret1 rfl rfl (()) (by congr 1; rw [decide_eq_decide, can_run' h1, okK_k.2.2.2.2.2.2.1 (k9)]; try rfl) (by trivial) ?_
             (repeat ((with_reducible apply Z2); focus (first | (with_reducible (repeat (first | exact Z0 | apply Z1)); done) | (repeat (first | exact Z0 | apply Z1))))); (repeat (first | exact Z3 | exact Takes.self | refine takes_drop2 ?_))
            ·
             refine c_seq ?_
             refine c_plain (.q 0 (.q 1 (.done))) (by kernel_rfl) ?_
             refine q_int rfl rfl rfl rfl rfl (b_eql _ _ _ _) ?_
             refine q_assign rfl rfl rfl rfl ?_
             refine r_done ?_
             refine s_keep [3, 171] (e' := [(3, _), (171, _)]) rfl ?_
             refine k_then_n ?_
             refine c_cond_p rfl (fun k11 => ?_) (fun k11 => ?_)
             ·
              refine c_seq ?_
              refine c_plain (.q 0 (.q 1 (.q 2 (.q 3 (.done))))) (by kernel_rfl) ?_
              refine q_field (k := 2) rfl rfl rfl rfl Try.underlying40 rfl Try.sizeOf3 rfl ?_
              refine q_load_c (j := 2) rfl rfl rfl rfl Try.isAgg3 (by with_reducible (repeat (first | exact Z0 | apply Z1))) (by first | rfl | exact (Nat.add_zero _).symm) (by rfl) ?_
              refine q_int rfl rfl rfl rfl rfl (b_eql _ _ _ _) ?_
              refine q_assign rfl rfl rfl rfl ?_
              refine r_done ?_
              refine s_keep [4] (e' := [(4, _)]) rfl ?_
              refine k_then_n ?_
              refine c_ret ?_
              refine k_blk_ret ?_
              refine k_then_ret ?_
              refine rk_fold (b := b) x (pa := pa) (pc := pc) (ta := ta) (tc := tc) (oa := oa) (oc := oc) (ba := ba) (bc := bc) (by (repeat ((with_reducible apply Z2); focus (first | (with_reducible (repeat (first | exact Z0 | apply Z1)); done) | (repeat (first | exact Z0 | apply Z1))))); exact Z3) (by rfl) (by rfl) (by rfl) (by rfl) ?_
              refine ret1 rfl rfl (()) (by congr 1; rw [decide_eq_decide, can_run' h1, okK_k.2.2.2.2.2.2.2.1 (k11)]; omega) (by trivial) ?_
              (repeat ((with_reducible apply Z2); focus (first | (with_reducible (repeat (first | exact Z0 | apply Z1)); done) | (repeat (first | exact Z0 | apply Z1))))); (repeat (first | exact Z3 | exact Takes.self | refine takes_drop2 ?_))
             ·
              refine c_skip ?_
              refine k_blk_n ?_
              refine k_then_n ?_
              refine c_seq ?_
              refine c_plain (.q 0 (.done)) (by kernel_rfl) ?_
              refine q_assign rfl rfl rfl rfl ?_
              refine r_done ?_
              refine k_then_n ?_
              refine c_ret ?_
              refine rk_fold (b := b) x (pa := pa) (pc := pc) (ta := ta) (tc := tc) (oa := oa) (oc := oc) (ba := ba) (bc := bc) (by (repeat ((with_reducible apply Z2); focus (first | (with_reducible (repeat (first | exact Z0 | apply Z1)); done) | (repeat (first | exact Z0 | apply Z1))))); exact Z3) (by rfl) (by rfl) (by rfl) (by rfl) ?_
              refine ret1 rfl rfl (()) (by congr 1; symm; rw [decide_eq_false_iff_not, can_run' h1]; exact fun h => okK_k.2.2.2.2.2.2.2.2 k1 k2 k3 k4 k5 k6 k7 k8 k9 k11 h.2) (by trivial) ?_
              (repeat ((with_reducible apply Z2); focus (first | (with_reducible (repeat (first | exact Z0 | apply Z1)); done) | (repeat (first | exact Z0 | apply Z1))))); (repeat (first | exact Z3 | exact Takes.self | refine takes_drop2 ?_))
end Go.Ab.Fe
