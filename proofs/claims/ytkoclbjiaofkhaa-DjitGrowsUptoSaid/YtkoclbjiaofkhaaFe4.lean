/- Package feasible: New, Copy. -/
import Derived.Test.YtkoclbjiaofkhaaFe3
set_option linter.unusedVariables false
set_option linter.unusedSimpArgs false
set_option maxRecDepth 100000
namespace Go.Ab.Fe
open Go Go.Proofs Go.Ab
theorem rds_nil {α : Type} {A : HProp} {ao : Option Addr} {sz : Nat} {enc : α → List Value} {xs : List α} (h : RdS A ao (xs.flatMap enc)) (hsz : ∀ x, (enc x).length = sz + 1) (hn : ao = none) : xs = [] := by
  rcases h with h | ⟨b, o, h, -⟩
  · have := flat_len hsz xs
    rw [h, List.length_nil] at this
    have h2 : xs.length = 0 := by
      rcases Nat.mul_eq_zero.1 this.symm with h3 | h3
      · exact h3
      · omega
    exact List.eq_nil_of_length_eq_zero h2
  · rw [hn] at h; cases h
theorem rel_new {th va vo lk : Int} {pl : List Int} (h : OkS th va vo lk pl) : RelC (upd (noF : Int → Option T3) 0 (some (1, 0, 0))) (noF : Int → Option Int) (newF th va vo lk pl) := by
  have h1 := h.th
  have h2 := h.lk
  refine ⟨fun t => ?_, fun l => ?_⟩
  · have e := stF_set (x := ⟨th, va, vo, lk, pl, List.replicate th.toNat (0, 0, 0), List.replicate lk.toNat (-1), List.replicate pl.length (0, 0), 0⟩) (t := 0) (s := (1, 0, 0)) (Int.le_refl _) (by simp; omega) rfl (th := th) (va := va) (vo := vo) (lk := lk) (pa := pl) (O := List.replicate lk.toNat (-1)) (B := List.replicate pl.length (0, 0)) (n := 0) t
    rw [newF]
    refine Eq.trans ?_ e.symm
    unfold upd
    split
    · rfl
    · unfold stF noF
      split
      · rfl
      · rcases getD_mem' (List.replicate th.toNat ((0, 0, 0) : T3)) t.toNat (0, 0, 0) with h | h
        · exact h.symm
        · exact (List.mem_replicate.1 h).2.symm
  · have h3 : owV (newF th va vo lk pl) l = -1 := by
      unfold owV newF
      split
      · rfl
      · rcases getD_mem' (List.replicate lk.toNat (-1 : Int)) l.toNat (-1) with h | h
        · exact h
        · exact (List.mem_replicate.1 h).2
    unfold owF; rw [if_pos h3]; rfl
theorem clonez_spec (xs : List Int) (ao : Option Addr) (n c : Nat) (A : HProp) (hn : xs.length = n) (hr : RdS A ao (xs.flatMap encZ)) (hb : xs.length ≤ 4000000000) : Spec Try.prog 74 [.slice ao n c] [A] (fun (r : Option Addr × Nat) => .slice r.1 n r.2) (fun r => True) (fun r => [A, own 1 encZ r.1 r.2 xs]) := by
 refine spec_mk (n := 8) Try.func74 rfl rfl rfl ?_
 intro Γ w0
 simp only [argE, List.cons_append, List.nil_append, Nat.zero_add, Nat.reduceAdd]
 refine c_seq ?_
 refine c_plain (.q 0 (.done)) (by kernel_rfl) ?_
 refine q_assign rfl rfl rfl rfl ?_
 refine r_done ?_
 refine k_then_n ?_
 refine c_seq ?_
 refine c_seq ?_
 refine c_plain (.q 0 (.q 1 (.done))) (by kernel_rfl) ?_
 refine q_move rfl rfl rfl rfl ?_
 refine q_eq_nils rfl rfl rfl rfl Try.underlying22 ?_
 refine r_done ?_
 refine k_then_n ?_
 refine c_cond rfl (fun hno => ?_) (fun hno => ?_)
 ·
  try simp only [Bool.and_eq_true, Bool.or_eq_true, Bool.not_eq_true', Bool.not_eq_false', Bool.and_eq_false_iff, Bool.or_eq_false_iff, decide_eq_true_eq, decide_eq_false_iff_not] at hno
  have hx := rds_nil hr encZ_len (by simpa using hno)
  subst hx
  obtain rfl : n = 0 := by simpa using hn.symm
  refine s_heap (fun _ h => own_nil (sz := 1) (enc := encZ) h) ?_
  refine c_seq ?_
  refine c_plain (.q 0 (.done)) (by kernel_rfl) ?_
  refine q_assign rfl rfl rfl rfl ?_
  refine r_done ?_
  refine k_then_n ?_
  refine c_ret ?_
  refine k_then_ret ?_
  refine ret1 rfl rfl ((none, 0)) (by first | rfl | (first | rfl | (congr 1; done) | (congr 1 <;> first | rfl | omega | (simp; done) | (simp; omega)))) (by trivial) ?_
  (repeat ((with_reducible apply Z2); focus (first | (with_reducible (repeat (first | exact Z0 | apply Z1)); done) | (repeat (first | exact Z0 | apply Z1))))); (repeat (first | exact Z3 | exact Takes.self | refine takes_drop2 ?_))
 ·
  try simp only [Bool.and_eq_true, Bool.or_eq_true, Bool.not_eq_true', Bool.not_eq_false', Bool.and_eq_false_iff, Bool.or_eq_false_iff, decide_eq_true_eq, decide_eq_false_iff_not] at hno
  refine c_skip ?_
  refine k_then_n ?_
  refine c_seq ?_
  refine c_plain ((.l 0 [] (.q 1 ((.l 2 [] (.q 3 (.done))))))) (by kernel_rfl) ?_
  refine l_buildSlice0 rfl rfl rfl rfl Try.underlying22 Try.sizeOf3 ?_
  intro b5
  refine ag_nil ?_
  refine q_move rfl rfl rfl rfl ?_
  refine s_take (A := cells b5 0 []) (by with_reducible (repeat (first | exact Z0 | apply Z1))) ?_
  refine s_heap (fun _ h => own_mk (sz := 1) (enc := encZ) (xs := []) (sp := []) (cap := 0) (Nat.le_refl _) rfl h) ?_
  refine l_append (sz := 1) (enc := encZ) (xs := []) rfl rfl rfl rfl rfl Try.underlying22 Try.typeInfo3 rfl rfl rfl (by decide) (by with_reducible (repeat (first | exact Z0 | apply Z1))) (by with_reducible (repeat (first | exact Z0 | apply Z1))) (by first | rfl | omega | (simp; done) | (simp; omega)) (ys := xs) (hr) (by rfl) (by exact hn) (encZ_len) (encZ_one) (by omega) (by show _ * 8 ≤ _; omega) ?_
  intro ao7 cp7
  try simp only [List.nil_append]
  refine ag_nil ?_
  refine q_assign rfl rfl rfl rfl ?_
  refine r_done ?_
  refine s_keep [2] (e' := [(2, _)]) rfl ?_
  refine k_then_n ?_
  refine c_ret ?_
  refine ret1 rfl rfl ((ao7, cp7)) (by rw [Nat.zero_add]) (by trivial) ?_
  (repeat ((with_reducible apply Z2); focus (first | (with_reducible (repeat (first | exact Z0 | apply Z1)); done) | (repeat (first | exact Z0 | apply Z1))))); (repeat (first | exact Z3 | exact Takes.self | refine takes_drop2 ?_))





theorem new_spec (th va vo lk : Int) (pl : List Int) (ao : Option Addr) (n c : Nat) (A : HProp) (hr : RdS A ao (pl.flatMap encZ)) (hn : pl.length = n) (hb : n ≤ 4000000) (hok : OkS th va vo lk pl) : Spec Try.prog 57 [.agg #[.int .i64 th, .int .i64 va, .int .i64 vo, .int .i64 lk, .slice ao n c]] [A] (fun (r : Nat × Option Addr × Nat) => .tuple #[.pointer (some ⟨r.1, 0, none⟩), .int .i64 0]) (fun r => True) (fun r => [A, own 1 encZ r.2.1 r.2.2 pl, ck r.2.1 r.2.2 r.1 (newF th va vo lk pl)]) := by
 refine spec_mk (n := 25) Try.func57 rfl rfl rfl ?_
 intro Γ w0
 simp only [argE, List.cons_append, List.nil_append, Nat.zero_add, Nat.reduceAdd]
 refine c_seq ?_
 refine c_plain ((.l 0 [] (.q 1 (.q 2 (.done))))) (by kernel_rfl) ?_
 refine l_box rfl rfl rfl rfl (us := [_, _, _, _, _]) rfl ?_
 intro b1
 refine ag_nil ?_
 refine q_assign rfl rfl rfl rfl ?_
 refine q_assign rfl rfl rfl rfl ?_
 refine r_done ?_
 refine k_then_n ?_
 refine c_seq ?_
 refine c_seq ?_
 refine c_plain (.q 0 ((.l 1 [] (.q 2 (.done))))) (by kernel_rfl) ?_
 refine q_loadN_c rfl rfl rfl rfl Try.isAgg24 Try.sizeOf24 (by with_reducible (repeat (first | exact Z0 | apply Z1))) 0 (us := [_, _, _, _, _]) (by first | rfl | exact (Nat.add_zero _).symm) rfl rfl ?_
 have sp_1 := shape_spec th va vo lk pl ao n c A (hr) (by first | rfl | assumption | omega | (simp; done) | (simp; omega)) (by omega)
 refine l_call rfl rfl rfl rfl rfl rfl Try.call73 (sp_1) (by (repeat ((with_reducible apply Z2); focus (first | (with_reducible (repeat (first | exact Z0 | apply Z1)); done) | (repeat (first | exact Z0 | apply Z1))))); exact Z3) ?_
 rintro ⟨⟩ -
 try simp only [List.cons_append, List.nil_append]
 refine ag_nil ?_
 refine s_eq 6 rfl (v' := .int .i64 0) (by rw [if_pos hok]) ?_
 refine q_assign rfl rfl rfl rfl ?_
 refine r_done ?_
 refine s_keep [1, 4] (e' := [(1, _), (4, _)]) rfl ?_
 refine k_then_n ?_
 refine c_seq ?_
 refine c_plain (.q 0 (.q 1 (.done))) (by kernel_rfl) ?_
 refine q_move rfl rfl rfl rfl ?_
 refine q_int rfl rfl rfl rfl rfl (b_neq _ _ _ _) ?_
 refine s_eq 8 rfl (v' := .bool false) (by first | rfl | simp) ?_
 refine r_done ?_
 refine k_then_n ?_
 refine c_cond_f rfl ?_
 refine c_skip ?_
 refine k_then_n ?_
 refine c_seq ?_
 refine c_plain (.q 0 (.q 1 ((.l 2 [] (.q 3 ((.l 4 [] (.done)))))))) (by kernel_rfl) ?_
 refine q_field (k := 4) rfl rfl rfl rfl Try.underlying24 rfl Try.sizeOf22 rfl ?_
 refine q_load_c (j := 4) rfl rfl rfl rfl Try.isAgg22 (by with_reducible (repeat (first | exact Z0 | apply Z1))) (by first | rfl | exact (Nat.add_zero _).symm) (by rfl) ?_
 have sp_2 := clonez_spec pl ao n c A (by first | rfl | assumption | omega | (simp; done) | (simp; omega)) (hr) (by omega)
 refine l_call rfl rfl rfl rfl rfl rfl Try.call74 (sp_2) (by (repeat ((with_reducible apply Z2); focus (first | (with_reducible (repeat (first | exact Z0 | apply Z1)); done) | (repeat (first | exact Z0 | apply Z1))))); exact Z3) ?_
 rintro ⟨qa, qc⟩ -
 try simp only [List.cons_append, List.nil_append]
 refine ag_nil ?_
 refine q_field (k := 4) rfl rfl rfl rfl Try.underlying24 rfl Try.sizeOf22 rfl ?_
 refine l_store (j := 4) rfl rfl rfl rfl Try.sizeOf22 (us := [_]) rfl rfl rfl (by with_reducible (repeat (first | exact Z0 | apply Z1))) (by first | rfl | exact (Nat.add_zero _).symm) (by first | decide | (simp; done) | omega) ?_
 simp only [setL, List.set]
 refine ag_nil ?_
 refine r_done ?_
 refine s_keep [1] (e' := [(1, _)]) rfl ?_
 refine k_then_n ?_
 refine c_seq ?_
 refine c_draw rfl (.q 0 (.q 2 (.q 6 (.q 7 (.q 8 ((.alt (.l 1 [0, 7, 8] ((.alt (.l 3 [0, 7, 8] (.q 4 ((.alt (.l 5 [0, 7, 8] ((.l 9 [0] (.q 10 ((.l 11 [] (.q 12 (.q 13 (.done))))))))) (.l 9 [0] ((.l 5 [0] (.q 10 ((.l 11 [] (.q 12 (.q 13 (.done))))))))))))) (.alt (.l 5 [0, 7, 8] ((.alt (.l 3 [0, 7, 8] (.q 4 ((.l 9 [0] (.q 10 ((.l 11 [] (.q 12 (.q 13 (.done)))))))))) (.l 9 [0] ((.l 3 [0] (.q 4 (.q 10 ((.l 11 [] (.q 12 (.q 13 (.done))))))))))))) (.l 9 [0] ((.alt (.l 3 [0] (.q 4 ((.l 5 [0] (.q 10 ((.l 11 [] (.q 12 (.q 13 (.done)))))))))) (.l 5 [0] ((.l 3 [0] (.q 4 (.q 10 ((.l 11 [] (.q 12 (.q 13 (.done))))))))))))))))) (.alt (.l 5 [0, 7, 8] ((.alt (.l 1 [0, 7, 8] ((.alt (.l 3 [0, 7, 8] (.q 4 ((.l 9 [0] (.q 10 ((.l 11 [] (.q 12 (.q 13 (.done)))))))))) (.l 9 [0] ((.l 3 [0] (.q 4 (.q 10 ((.l 11 [] (.q 12 (.q 13 (.done))))))))))))) (.l 9 [0] ((.l 1 [0] ((.l 3 [0] (.q 4 (.q 10 ((.l 11 [] (.q 12 (.q 13 (.done))))))))))))))) (.l 9 [0] ((.alt (.l 1 [0] ((.alt (.l 3 [0] (.q 4 ((.l 5 [0] (.q 10 ((.l 11 [] (.q 12 (.q 13 (.done)))))))))) (.l 5 [0] ((.l 3 [0] (.q 4 (.q 10 ((.l 11 [] (.q 12 (.q 13 (.done))))))))))))) (.l 5 [0] ((.l 1 [0] ((.l 3 [0] (.q 4 (.q 10 ((.l 11 [] (.q 12 (.q 13 (.done))))))))))))))))))))))) (by kernel_rfl) ?_
 refine q_loadN_c rfl rfl rfl rfl Try.isAgg24 Try.sizeOf24 (by with_reducible (repeat (first | exact Z0 | apply Z1))) 0 (us := [_, _, _, _, _]) (by first | rfl | exact (Nat.add_zero _).symm) rfl rfl ?_
 refine q_build rfl rfl rfl rfl (vs := [_, _, _]) (run_buildS Try.underlying79 Try.zeroValue79 (ps := [(0, 1), (1, 1), (2, 1)]) ⟨rfl, Try.sizeOf77, rfl, Try.sizeOf3, rfl, Try.sizeOf3, trivial⟩ rfl) ?_
 refine q_field (k := 4) rfl rfl rfl rfl Try.underlying24 rfl Try.sizeOf22 rfl ?_
 refine q_load_c (j := 4) rfl rfl rfl rfl Try.isAgg22 (by with_reducible (repeat (first | exact Z0 | apply Z1))) (by first | rfl | exact (Nat.add_zero _).symm) (by rfl) ?_
 refine q_len rfl rfl rfl rfl Try.underlying22 ?_
 refine r_alt ?_ ?_
 ·
  refine l_makeMap Int T3 ekZ ev3 rfl rfl rfl ?_
  intro m15
  refine ag_loadN_c rfl rfl (us := [_, _, _, _, _]) rfl Try.isAgg24 Try.sizeOf24 (by with_reducible (repeat (first | exact Z0 | apply Z1))) 0 (by first | rfl | exact (Nat.add_zero _).symm) rfl rfl ?_
  refine ag_load_c (q := 4) rfl rfl rfl Try.isAgg22 (by with_reducible (repeat (first | exact Z0 | apply Z1))) (by first | rfl | exact (Nat.add_zero _).symm) (by rfl) ?_
  refine ag_len rfl rfl rfl Try.underlying22 ?_
  refine ag_nil ?_
  refine r_alt ?_ ?_
  ·
   refine l_mapUpd (ek := ekZ) (ev1 := ev3) (F := (noF : Int → Option T3)) (m := m15) (k := 0) (v := (1, 0, 0)) (by first | exact .inl rfl | exact .inr rfl) rfl rfl rfl rfl Try.underlying126 (keyOK_int Try.underlying3) (by with_reducible (repeat (first | exact Z0 | apply Z1))) ?_
   refine ag_loadN_c rfl rfl (us := [_, _, _, _, _]) rfl Try.isAgg24 Try.sizeOf24 (by with_reducible (repeat (first | exact Z0 | apply Z1))) 0 (by first | rfl | exact (Nat.add_zero _).symm) rfl rfl ?_
   refine ag_load_c (q := 4) rfl rfl rfl Try.isAgg22 (by with_reducible (repeat (first | exact Z0 | apply Z1))) (by first | rfl | exact (Nat.add_zero _).symm) (by rfl) ?_
   refine ag_len rfl rfl rfl Try.underlying22 ?_
   refine ag_nil ?_
   refine q_move rfl rfl rfl rfl ?_
   refine r_alt ?_ ?_
   ·
    refine l_makeMap Int Int ekZ ekZ rfl rfl rfl ?_
    intro m18
    refine ag_loadN_c rfl rfl (us := [_, _, _, _, _]) rfl Try.isAgg24 Try.sizeOf24 (by with_reducible (repeat (first | exact Z0 | apply Z1))) 0 (by first | rfl | exact (Nat.add_zero _).symm) rfl rfl ?_
    refine ag_load_c (q := 4) rfl rfl rfl Try.isAgg22 (by with_reducible (repeat (first | exact Z0 | apply Z1))) (by first | rfl | exact (Nat.add_zero _).symm) (by rfl) ?_
    refine ag_len rfl rfl rfl Try.underlying22 ?_
    refine ag_nil ?_
    refine l_make (sz := 2) (enc := enc2) (len := n) (cap := n) ((0, 0)) rfl rfl rfl rfl rfl (by first | rfl | omega) (by first | rfl | omega) Try.underlying111 Try.typeInfo74 rfl rfl rfl (by decide) (by omega) (by omega) (by show 16 * _ ≤ _; omega) (by rfl) (enc2_len) ?_
    intro b22
    refine ag_loadN_c rfl rfl (us := [_, _, _, _, _]) rfl Try.isAgg24 Try.sizeOf24 (by with_reducible (repeat (first | exact Z0 | apply Z1))) 0 (by first | rfl | exact (Nat.add_zero _).symm) rfl rfl ?_
    refine ag_nil ?_
    refine q_build rfl rfl rfl rfl (vs := [_, _, _, _, _, _, _, _, _]) (run_buildS Try.underlying129 Try.zeroValue129 (ps := [(0, 5), (5, 1), (6, 1), (7, 1), (8, 1)]) ⟨rfl, Try.sizeOf24, rfl, Try.sizeOf126, rfl, Try.sizeOf127, rfl, Try.sizeOf111, rfl, Try.sizeOf3, trivial⟩ rfl) ?_
    refine l_box rfl rfl rfl rfl (us := [_, _, _, _, _, _, _, _, _]) rfl ?_
    intro b24
    refine ag_nil ?_
    refine q_assign rfl rfl rfl rfl ?_
    refine q_assign rfl rfl rfl rfl ?_
    refine r_done ?_
    refine s_keep [2, 3] (e' := [(2, _), (3, _)]) rfl ?_
    refine k_then_n ?_
    refine c_ret ?_
    have hbl : (newF th va vo lk pl).B.length = n := by rw [← hn]; simp [newF]
    rw [show (List.replicate n ((0 : Int), (0 : Int)) : List T2) = (newF th va vo lk pl).B from by rw [← hn]; rfl]
    refine ck_fold (b := b24) (newF th va vo lk pl) (pa := qa) (pc := qc) (m1 := m15) (m2 := m18) (oa := some ⟨b22, 0, none⟩) (oc := n) (by (repeat ((with_reducible apply Z2); focus (first | (with_reducible (repeat (first | exact Z0 | apply Z1)); done) | (repeat (first | exact Z0 | apply Z1))))); exact Z3) (by rw [← hn]; rfl) (by exact hbl.symm) (rel_new hok) ?_
    refine ret2 rfl rfl rfl ((b24, qa, qc)) (by first | rfl | (first | rfl | (congr 1; done) | (congr 1 <;> first | rfl | omega | (simp; done) | (simp; omega)))) (by trivial) ?_
    (repeat ((with_reducible apply Z2); focus (first | (with_reducible (repeat (first | exact Z0 | apply Z1)); done) | (repeat (first | exact Z0 | apply Z1))))); (repeat (first | exact Z3 | exact Takes.self | refine takes_drop2 ?_))
   refine l_make (sz := 2) (enc := enc2) (len := n) (cap := n) ((0, 0)) rfl rfl rfl rfl rfl (by first | rfl | omega) (by first | rfl | omega) Try.underlying111 Try.typeInfo74 rfl rfl rfl (by decide) (by omega) (by omega) (by show 16 * _ ≤ _; omega) (by rfl) (enc2_len) ?_
   intro b22
   refine ag_loadN_c rfl rfl (us := [_, _, _, _, _]) rfl Try.isAgg24 Try.sizeOf24 (by with_reducible (repeat (first | exact Z0 | apply Z1))) 0 (by first | rfl | exact (Nat.add_zero _).symm) rfl rfl ?_
   refine ag_nil ?_
   refine l_makeMap Int Int ekZ ekZ rfl rfl rfl ?_
   intro m18
   refine ag_loadN_c rfl rfl (us := [_, _, _, _, _]) rfl Try.isAgg24 Try.sizeOf24 (by with_reducible (repeat (first | exact Z0 | apply Z1))) 0 (by first | rfl | exact (Nat.add_zero _).symm) rfl rfl ?_
   refine ag_nil ?_
   refine q_build rfl rfl rfl rfl (vs := [_, _, _, _, _, _, _, _, _]) (run_buildS Try.underlying129 Try.zeroValue129 (ps := [(0, 5), (5, 1), (6, 1), (7, 1), (8, 1)]) ⟨rfl, Try.sizeOf24, rfl, Try.sizeOf126, rfl, Try.sizeOf127, rfl, Try.sizeOf111, rfl, Try.sizeOf3, trivial⟩ rfl) ?_
   refine l_box rfl rfl rfl rfl (us := [_, _, _, _, _, _, _, _, _]) rfl ?_
   intro b24
   refine ag_nil ?_
   refine q_assign rfl rfl rfl rfl ?_
   refine q_assign rfl rfl rfl rfl ?_
   refine r_done ?_
   refine s_keep [2, 3] (e' := [(2, _), (3, _)]) rfl ?_
   refine k_then_n ?_
   refine c_ret ?_
   have hbl : (newF th va vo lk pl).B.length = n := by rw [← hn]; simp [newF]
   rw [show (List.replicate n ((0 : Int), (0 : Int)) : List T2) = (newF th va vo lk pl).B from by rw [← hn]; rfl]
   refine ck_fold (b := b24) (newF th va vo lk pl) (pa := qa) (pc := qc) (m1 := m15) (m2 := m18) (oa := some ⟨b22, 0, none⟩) (oc := n) (by (repeat ((with_reducible apply Z2); focus (first | (with_reducible (repeat (first | exact Z0 | apply Z1)); done) | (repeat (first | exact Z0 | apply Z1))))); exact Z3) (by rw [← hn]; rfl) (by exact hbl.symm) (rel_new hok) ?_
   refine ret2 rfl rfl rfl ((b24, qa, qc)) (by first | rfl | (first | rfl | (congr 1; done) | (congr 1 <;> first | rfl | omega | (simp; done) | (simp; omega)))) (by trivial) ?_
   (repeat ((with_reducible apply Z2); focus (first | (with_reducible (repeat (first | exact Z0 | apply Z1)); done) | (repeat (first | exact Z0 | apply Z1))))); (repeat (first | exact Z3 | exact Takes.self | refine takes_drop2 ?_))
  refine r_alt ?_ ?_
  ·
   refine l_makeMap Int Int ekZ ekZ rfl rfl rfl ?_
   intro m18
   refine ag_loadN_c rfl rfl (us := [_, _, _, _, _]) rfl Try.isAgg24 Try.sizeOf24 (by with_reducible (repeat (first | exact Z0 | apply Z1))) 0 (by first | rfl | exact (Nat.add_zero _).symm) rfl rfl ?_
   refine ag_load_c (q := 4) rfl rfl rfl Try.isAgg22 (by with_reducible (repeat (first | exact Z0 | apply Z1))) (by first | rfl | exact (Nat.add_zero _).symm) (by rfl) ?_
   refine ag_len rfl rfl rfl Try.underlying22 ?_
   refine ag_nil ?_
   refine r_alt ?_ ?_
   ·
    refine l_mapUpd (ek := ekZ) (ev1 := ev3) (F := (noF : Int → Option T3)) (m := m15) (k := 0) (v := (1, 0, 0)) (by first | exact .inl rfl | exact .inr rfl) rfl rfl rfl rfl Try.underlying126 (keyOK_int Try.underlying3) (by with_reducible (repeat (first | exact Z0 | apply Z1))) ?_
    refine ag_loadN_c rfl rfl (us := [_, _, _, _, _]) rfl Try.isAgg24 Try.sizeOf24 (by with_reducible (repeat (first | exact Z0 | apply Z1))) 0 (by first | rfl | exact (Nat.add_zero _).symm) rfl rfl ?_
    refine ag_load_c (q := 4) rfl rfl rfl Try.isAgg22 (by with_reducible (repeat (first | exact Z0 | apply Z1))) (by first | rfl | exact (Nat.add_zero _).symm) (by rfl) ?_
    refine ag_len rfl rfl rfl Try.underlying22 ?_
    refine ag_nil ?_
    refine q_move rfl rfl rfl rfl ?_
    refine l_make (sz := 2) (enc := enc2) (len := n) (cap := n) ((0, 0)) rfl rfl rfl rfl rfl (by first | rfl | omega) (by first | rfl | omega) Try.underlying111 Try.typeInfo74 rfl rfl rfl (by decide) (by omega) (by omega) (by show 16 * _ ≤ _; omega) (by rfl) (enc2_len) ?_
    intro b22
    refine ag_loadN_c rfl rfl (us := [_, _, _, _, _]) rfl Try.isAgg24 Try.sizeOf24 (by with_reducible (repeat (first | exact Z0 | apply Z1))) 0 (by first | rfl | exact (Nat.add_zero _).symm) rfl rfl ?_
    refine ag_nil ?_
    refine q_build rfl rfl rfl rfl (vs := [_, _, _, _, _, _, _, _, _]) (run_buildS Try.underlying129 Try.zeroValue129 (ps := [(0, 5), (5, 1), (6, 1), (7, 1), (8, 1)]) ⟨rfl, Try.sizeOf24, rfl, Try.sizeOf126, rfl, Try.sizeOf127, rfl, Try.sizeOf111, rfl, Try.sizeOf3, trivial⟩ rfl) ?_
    refine l_box rfl rfl rfl rfl (us := [_, _, _, _, _, _, _, _, _]) rfl ?_
    intro b24
    refine ag_nil ?_
    refine q_assign rfl rfl rfl rfl ?_
    refine q_assign rfl rfl rfl rfl ?_
    refine r_done ?_
    refine s_keep [2, 3] (e' := [(2, _), (3, _)]) rfl ?_
    refine k_then_n ?_
    refine c_ret ?_
    have hbl : (newF th va vo lk pl).B.length = n := by rw [← hn]; simp [newF]
    rw [show (List.replicate n ((0 : Int), (0 : Int)) : List T2) = (newF th va vo lk pl).B from by rw [← hn]; rfl]
    refine ck_fold (b := b24) (newF th va vo lk pl) (pa := qa) (pc := qc) (m1 := m15) (m2 := m18) (oa := some ⟨b22, 0, none⟩) (oc := n) (by (repeat ((with_reducible apply Z2); focus (first | (with_reducible (repeat (first | exact Z0 | apply Z1)); done) | (repeat (first | exact Z0 | apply Z1))))); exact Z3) (by rw [← hn]; rfl) (by exact hbl.symm) (rel_new hok) ?_
    refine ret2 rfl rfl rfl ((b24, qa, qc)) (by first | rfl | (first | rfl | (congr 1; done) | (congr 1 <;> first | rfl | omega | (simp; done) | (simp; omega)))) (by trivial) ?_
    (repeat ((with_reducible apply Z2); focus (first | (with_reducible (repeat (first | exact Z0 | apply Z1)); done) | (repeat (first | exact Z0 | apply Z1))))); (repeat (first | exact Z3 | exact Takes.self | refine takes_drop2 ?_))
   refine l_make (sz := 2) (enc := enc2) (len := n) (cap := n) ((0, 0)) rfl rfl rfl rfl rfl (by first | rfl | omega) (by first | rfl | omega) Try.underlying111 Try.typeInfo74 rfl rfl rfl (by decide) (by omega) (by omega) (by show 16 * _ ≤ _; omega) (by rfl) (enc2_len) ?_
   intro b22
   refine ag_loadN_c rfl rfl (us := [_, _, _, _, _]) rfl Try.isAgg24 Try.sizeOf24 (by with_reducible (repeat (first | exact Z0 | apply Z1))) 0 (by first | rfl | exact (Nat.add_zero _).symm) rfl rfl ?_
   refine ag_nil ?_
   refine l_mapUpd (ek := ekZ) (ev1 := ev3) (F := (noF : Int → Option T3)) (m := m15) (k := 0) (v := (1, 0, 0)) (by first | exact .inl rfl | exact .inr rfl) rfl rfl rfl rfl Try.underlying126 (keyOK_int Try.underlying3) (by with_reducible (repeat (first | exact Z0 | apply Z1))) ?_
   refine ag_loadN_c rfl rfl (us := [_, _, _, _, _]) rfl Try.isAgg24 Try.sizeOf24 (by with_reducible (repeat (first | exact Z0 | apply Z1))) 0 (by first | rfl | exact (Nat.add_zero _).symm) rfl rfl ?_
   refine ag_nil ?_
   refine q_move rfl rfl rfl rfl ?_
   refine q_build rfl rfl rfl rfl (vs := [_, _, _, _, _, _, _, _, _]) (run_buildS Try.underlying129 Try.zeroValue129 (ps := [(0, 5), (5, 1), (6, 1), (7, 1), (8, 1)]) ⟨rfl, Try.sizeOf24, rfl, Try.sizeOf126, rfl, Try.sizeOf127, rfl, Try.sizeOf111, rfl, Try.sizeOf3, trivial⟩ rfl) ?_
   refine l_box rfl rfl rfl rfl (us := [_, _, _, _, _, _, _, _, _]) rfl ?_
   intro b24
   refine ag_nil ?_
   refine q_assign rfl rfl rfl rfl ?_
   refine q_assign rfl rfl rfl rfl ?_
   refine r_done ?_
   refine s_keep [2, 3] (e' := [(2, _), (3, _)]) rfl ?_
   refine k_then_n ?_
   refine c_ret ?_
   have hbl : (newF th va vo lk pl).B.length = n := by rw [← hn]; simp [newF]
   rw [show (List.replicate n ((0 : Int), (0 : Int)) : List T2) = (newF th va vo lk pl).B from by rw [← hn]; rfl]
   refine ck_fold (b := b24) (newF th va vo lk pl) (pa := qa) (pc := qc) (m1 := m15) (m2 := m18) (oa := some ⟨b22, 0, none⟩) (oc := n) (by (repeat ((with_reducible apply Z2); focus (first | (with_reducible (repeat (first | exact Z0 | apply Z1)); done) | (repeat (first | exact Z0 | apply Z1))))); exact Z3) (by rw [← hn]; rfl) (by exact hbl.symm) (rel_new hok) ?_
   refine ret2 rfl rfl rfl ((b24, qa, qc)) (by first | rfl | (first | rfl | (congr 1; done) | (congr 1 <;> first | rfl | omega | (simp; done) | (simp; omega)))) (by trivial) ?_
   (repeat ((with_reducible apply Z2); focus (first | (with_reducible (repeat (first | exact Z0 | apply Z1)); done) | (repeat (first | exact Z0 | apply Z1))))); (repeat (first | exact Z3 | exact Takes.self | refine takes_drop2 ?_))
  refine l_make (sz := 2) (enc := enc2) (len := n) (cap := n) ((0, 0)) rfl rfl rfl rfl rfl (by first | rfl | omega) (by first | rfl | omega) Try.underlying111 Try.typeInfo74 rfl rfl rfl (by decide) (by omega) (by omega) (by show 16 * _ ≤ _; omega) (by rfl) (enc2_len) ?_
  intro b22
  refine ag_loadN_c rfl rfl (us := [_, _, _, _, _]) rfl Try.isAgg24 Try.sizeOf24 (by with_reducible (repeat (first | exact Z0 | apply Z1))) 0 (by first | rfl | exact (Nat.add_zero _).symm) rfl rfl ?_
  refine ag_nil ?_
  refine r_alt ?_ ?_
  ·
   refine l_mapUpd (ek := ekZ) (ev1 := ev3) (F := (noF : Int → Option T3)) (m := m15) (k := 0) (v := (1, 0, 0)) (by first | exact .inl rfl | exact .inr rfl) rfl rfl rfl rfl Try.underlying126 (keyOK_int Try.underlying3) (by with_reducible (repeat (first | exact Z0 | apply Z1))) ?_
   refine ag_loadN_c rfl rfl (us := [_, _, _, _, _]) rfl Try.isAgg24 Try.sizeOf24 (by with_reducible (repeat (first | exact Z0 | apply Z1))) 0 (by first | rfl | exact (Nat.add_zero _).symm) rfl rfl ?_
   refine ag_nil ?_
   refine q_move rfl rfl rfl rfl ?_
   refine l_makeMap Int Int ekZ ekZ rfl rfl rfl ?_
   intro m18
   refine ag_loadN_c rfl rfl (us := [_, _, _, _, _]) rfl Try.isAgg24 Try.sizeOf24 (by with_reducible (repeat (first | exact Z0 | apply Z1))) 0 (by first | rfl | exact (Nat.add_zero _).symm) rfl rfl ?_
   refine ag_nil ?_
   refine q_build rfl rfl rfl rfl (vs := [_, _, _, _, _, _, _, _, _]) (run_buildS Try.underlying129 Try.zeroValue129 (ps := [(0, 5), (5, 1), (6, 1), (7, 1), (8, 1)]) ⟨rfl, Try.sizeOf24, rfl, Try.sizeOf126, rfl, Try.sizeOf127, rfl, Try.sizeOf111, rfl, Try.sizeOf3, trivial⟩ rfl) ?_
   refine l_box rfl rfl rfl rfl (us := [_, _, _, _, _, _, _, _, _]) rfl ?_
   intro b24
   refine ag_nil ?_
   refine q_assign rfl rfl rfl rfl ?_
   refine q_assign rfl rfl rfl rfl ?_
   refine r_done ?_
   refine s_keep [2, 3] (e' := [(2, _), (3, _)]) rfl ?_
   refine k_then_n ?_
   refine c_ret ?_
   have hbl : (newF th va vo lk pl).B.length = n := by rw [← hn]; simp [newF]
   rw [show (List.replicate n ((0 : Int), (0 : Int)) : List T2) = (newF th va vo lk pl).B from by rw [← hn]; rfl]
   refine ck_fold (b := b24) (newF th va vo lk pl) (pa := qa) (pc := qc) (m1 := m15) (m2 := m18) (oa := some ⟨b22, 0, none⟩) (oc := n) (by (repeat ((with_reducible apply Z2); focus (first | (with_reducible (repeat (first | exact Z0 | apply Z1)); done) | (repeat (first | exact Z0 | apply Z1))))); exact Z3) (by rw [← hn]; rfl) (by exact hbl.symm) (rel_new hok) ?_
   refine ret2 rfl rfl rfl ((b24, qa, qc)) (by first | rfl | (first | rfl | (congr 1; done) | (congr 1 <;> first | rfl | omega | (simp; done) | (simp; omega)))) (by trivial) ?_
   (repeat ((with_reducible apply Z2); focus (first | (with_reducible (repeat (first | exact Z0 | apply Z1)); done) | (repeat (first | exact Z0 | apply Z1))))); (repeat (first | exact Z3 | exact Takes.self | refine takes_drop2 ?_))
  refine l_makeMap Int Int ekZ ekZ rfl rfl rfl ?_
  intro m18
  refine ag_loadN_c rfl rfl (us := [_, _, _, _, _]) rfl Try.isAgg24 Try.sizeOf24 (by with_reducible (repeat (first | exact Z0 | apply Z1))) 0 (by first | rfl | exact (Nat.add_zero _).symm) rfl rfl ?_
  refine ag_nil ?_
  refine l_mapUpd (ek := ekZ) (ev1 := ev3) (F := (noF : Int → Option T3)) (m := m15) (k := 0) (v := (1, 0, 0)) (by first | exact .inl rfl | exact .inr rfl) rfl rfl rfl rfl Try.underlying126 (keyOK_int Try.underlying3) (by with_reducible (repeat (first | exact Z0 | apply Z1))) ?_
  refine ag_loadN_c rfl rfl (us := [_, _, _, _, _]) rfl Try.isAgg24 Try.sizeOf24 (by with_reducible (repeat (first | exact Z0 | apply Z1))) 0 (by first | rfl | exact (Nat.add_zero _).symm) rfl rfl ?_
  refine ag_nil ?_
  refine q_move rfl rfl rfl rfl ?_
  refine q_build rfl rfl rfl rfl (vs := [_, _, _, _, _, _, _, _, _]) (run_buildS Try.underlying129 Try.zeroValue129 (ps := [(0, 5), (5, 1), (6, 1), (7, 1), (8, 1)]) ⟨rfl, Try.sizeOf24, rfl, Try.sizeOf126, rfl, Try.sizeOf127, rfl, Try.sizeOf111, rfl, Try.sizeOf3, trivial⟩ rfl) ?_
  refine l_box rfl rfl rfl rfl (us := [_, _, _, _, _, _, _, _, _]) rfl ?_
  intro b24
  refine ag_nil ?_
  refine q_assign rfl rfl rfl rfl ?_
  refine q_assign rfl rfl rfl rfl ?_
  refine r_done ?_
  refine s_keep [2, 3] (e' := [(2, _), (3, _)]) rfl ?_
  refine k_then_n ?_
  refine c_ret ?_
  have hbl : (newF th va vo lk pl).B.length = n := by rw [← hn]; simp [newF]
  rw [show (List.replicate n ((0 : Int), (0 : Int)) : List T2) = (newF th va vo lk pl).B from by rw [← hn]; rfl]
  refine ck_fold (b := b24) (newF th va vo lk pl) (pa := qa) (pc := qc) (m1 := m15) (m2 := m18) (oa := some ⟨b22, 0, none⟩) (oc := n) (by (repeat ((with_reducible apply Z2); focus (first | (with_reducible (repeat (first | exact Z0 | apply Z1)); done) | (repeat (first | exact Z0 | apply Z1))))); exact Z3) (by rw [← hn]; rfl) (by exact hbl.symm) (rel_new hok) ?_
  refine ret2 rfl rfl rfl ((b24, qa, qc)) (by first | rfl | (first | rfl | (congr 1; done) | (congr 1 <;> first | rfl | omega | (simp; done) | (simp; omega)))) (by trivial) ?_
  (repeat ((with_reducible apply Z2); focus (first | (with_reducible (repeat (first | exact Z0 | apply Z1)); done) | (repeat (first | exact Z0 | apply Z1))))); (repeat (first | exact Z3 | exact Takes.self | refine takes_drop2 ?_))
 refine r_alt ?_ ?_
 ·
  refine l_makeMap Int Int ekZ ekZ rfl rfl rfl ?_
  intro m18
  refine ag_loadN_c rfl rfl (us := [_, _, _, _, _]) rfl Try.isAgg24 Try.sizeOf24 (by with_reducible (repeat (first | exact Z0 | apply Z1))) 0 (by first | rfl | exact (Nat.add_zero _).symm) rfl rfl ?_
  refine ag_load_c (q := 4) rfl rfl rfl Try.isAgg22 (by with_reducible (repeat (first | exact Z0 | apply Z1))) (by first | rfl | exact (Nat.add_zero _).symm) (by rfl) ?_
  refine ag_len rfl rfl rfl Try.underlying22 ?_
  refine ag_nil ?_
  refine r_alt ?_ ?_
  ·
   refine l_makeMap Int T3 ekZ ev3 rfl rfl rfl ?_
   intro m15
   refine ag_loadN_c rfl rfl (us := [_, _, _, _, _]) rfl Try.isAgg24 Try.sizeOf24 (by with_reducible (repeat (first | exact Z0 | apply Z1))) 0 (by first | rfl | exact (Nat.add_zero _).symm) rfl rfl ?_
   refine ag_load_c (q := 4) rfl rfl rfl Try.isAgg22 (by with_reducible (repeat (first | exact Z0 | apply Z1))) (by first | rfl | exact (Nat.add_zero _).symm) (by rfl) ?_
   refine ag_len rfl rfl rfl Try.underlying22 ?_
   refine ag_nil ?_
   refine r_alt ?_ ?_
   ·
    refine l_mapUpd (ek := ekZ) (ev1 := ev3) (F := (noF : Int → Option T3)) (m := m15) (k := 0) (v := (1, 0, 0)) (by first | exact .inl rfl | exact .inr rfl) rfl rfl rfl rfl Try.underlying126 (keyOK_int Try.underlying3) (by with_reducible (repeat (first | exact Z0 | apply Z1))) ?_
    refine ag_loadN_c rfl rfl (us := [_, _, _, _, _]) rfl Try.isAgg24 Try.sizeOf24 (by with_reducible (repeat (first | exact Z0 | apply Z1))) 0 (by first | rfl | exact (Nat.add_zero _).symm) rfl rfl ?_
    refine ag_load_c (q := 4) rfl rfl rfl Try.isAgg22 (by with_reducible (repeat (first | exact Z0 | apply Z1))) (by first | rfl | exact (Nat.add_zero _).symm) (by rfl) ?_
    refine ag_len rfl rfl rfl Try.underlying22 ?_
    refine ag_nil ?_
    refine q_move rfl rfl rfl rfl ?_
    refine l_make (sz := 2) (enc := enc2) (len := n) (cap := n) ((0, 0)) rfl rfl rfl rfl rfl (by first | rfl | omega) (by first | rfl | omega) Try.underlying111 Try.typeInfo74 rfl rfl rfl (by decide) (by omega) (by omega) (by show 16 * _ ≤ _; omega) (by rfl) (enc2_len) ?_
    intro b22
    refine ag_loadN_c rfl rfl (us := [_, _, _, _, _]) rfl Try.isAgg24 Try.sizeOf24 (by with_reducible (repeat (first | exact Z0 | apply Z1))) 0 (by first | rfl | exact (Nat.add_zero _).symm) rfl rfl ?_
    refine ag_nil ?_
    refine q_build rfl rfl rfl rfl (vs := [_, _, _, _, _, _, _, _, _]) (run_buildS Try.underlying129 Try.zeroValue129 (ps := [(0, 5), (5, 1), (6, 1), (7, 1), (8, 1)]) ⟨rfl, Try.sizeOf24, rfl, Try.sizeOf126, rfl, Try.sizeOf127, rfl, Try.sizeOf111, rfl, Try.sizeOf3, trivial⟩ rfl) ?_
    refine l_box rfl rfl rfl rfl (us := [_, _, _, _, _, _, _, _, _]) rfl ?_
    intro b24
    refine ag_nil ?_
    refine q_assign rfl rfl rfl rfl ?_
    refine q_assign rfl rfl rfl rfl ?_
    refine r_done ?_
    refine s_keep [2, 3] (e' := [(2, _), (3, _)]) rfl ?_
    refine k_then_n ?_
    refine c_ret ?_
    have hbl : (newF th va vo lk pl).B.length = n := by rw [← hn]; simp [newF]
    rw [show (List.replicate n ((0 : Int), (0 : Int)) : List T2) = (newF th va vo lk pl).B from by rw [← hn]; rfl]
    refine ck_fold (b := b24) (newF th va vo lk pl) (pa := qa) (pc := qc) (m1 := m15) (m2 := m18) (oa := some ⟨b22, 0, none⟩) (oc := n) (by (repeat ((with_reducible apply Z2); focus (first | (with_reducible (repeat (first | exact Z0 | apply Z1)); done) | (repeat (first | exact Z0 | apply Z1))))); exact Z3) (by rw [← hn]; rfl) (by exact hbl.symm) (rel_new hok) ?_
    refine ret2 rfl rfl rfl ((b24, qa, qc)) (by first | rfl | (first | rfl | (congr 1; done) | (congr 1 <;> first | rfl | omega | (simp; done) | (simp; omega)))) (by trivial) ?_
    (repeat ((with_reducible apply Z2); focus (first | (with_reducible (repeat (first | exact Z0 | apply Z1)); done) | (repeat (first | exact Z0 | apply Z1))))); (repeat (first | exact Z3 | exact Takes.self | refine takes_drop2 ?_))
   refine l_make (sz := 2) (enc := enc2) (len := n) (cap := n) ((0, 0)) rfl rfl rfl rfl rfl (by first | rfl | omega) (by first | rfl | omega) Try.underlying111 Try.typeInfo74 rfl rfl rfl (by decide) (by omega) (by omega) (by show 16 * _ ≤ _; omega) (by rfl) (enc2_len) ?_
   intro b22
   refine ag_loadN_c rfl rfl (us := [_, _, _, _, _]) rfl Try.isAgg24 Try.sizeOf24 (by with_reducible (repeat (first | exact Z0 | apply Z1))) 0 (by first | rfl | exact (Nat.add_zero _).symm) rfl rfl ?_
   refine ag_nil ?_
   refine l_mapUpd (ek := ekZ) (ev1 := ev3) (F := (noF : Int → Option T3)) (m := m15) (k := 0) (v := (1, 0, 0)) (by first | exact .inl rfl | exact .inr rfl) rfl rfl rfl rfl Try.underlying126 (keyOK_int Try.underlying3) (by with_reducible (repeat (first | exact Z0 | apply Z1))) ?_
   refine ag_loadN_c rfl rfl (us := [_, _, _, _, _]) rfl Try.isAgg24 Try.sizeOf24 (by with_reducible (repeat (first | exact Z0 | apply Z1))) 0 (by first | rfl | exact (Nat.add_zero _).symm) rfl rfl ?_
   refine ag_nil ?_
   refine q_move rfl rfl rfl rfl ?_
   refine q_build rfl rfl rfl rfl (vs := [_, _, _, _, _, _, _, _, _]) (run_buildS Try.underlying129 Try.zeroValue129 (ps := [(0, 5), (5, 1), (6, 1), (7, 1), (8, 1)]) ⟨rfl, Try.sizeOf24, rfl, Try.sizeOf126, rfl, Try.sizeOf127, rfl, Try.sizeOf111, rfl, Try.sizeOf3, trivial⟩ rfl) ?_
   refine l_box rfl rfl rfl rfl (us := [_, _, _, _, _, _, _, _, _]) rfl ?_
   intro b24
   refine ag_nil ?_
   refine q_assign rfl rfl rfl rfl ?_
   refine q_assign rfl rfl rfl rfl ?_
   refine r_done ?_
   refine s_keep [2, 3] (e' := [(2, _), (3, _)]) rfl ?_
   refine k_then_n ?_
   refine c_ret ?_
   have hbl : (newF th va vo lk pl).B.length = n := by rw [← hn]; simp [newF]
   rw [show (List.replicate n ((0 : Int), (0 : Int)) : List T2) = (newF th va vo lk pl).B from by rw [← hn]; rfl]
   refine ck_fold (b := b24) (newF th va vo lk pl) (pa := qa) (pc := qc) (m1 := m15) (m2 := m18) (oa := some ⟨b22, 0, none⟩) (oc := n) (by (repeat ((with_reducible apply Z2); focus (first | (with_reducible (repeat (first | exact Z0 | apply Z1)); done) | (repeat (first | exact Z0 | apply Z1))))); exact Z3) (by rw [← hn]; rfl) (by exact hbl.symm) (rel_new hok) ?_
   refine ret2 rfl rfl rfl ((b24, qa, qc)) (by first | rfl | (first | rfl | (congr 1; done) | (congr 1 <;> first | rfl | omega | (simp; done) | (simp; omega)))) (by trivial) ?_
   (repeat ((with_reducible apply Z2); focus (first | (with_reducible (repeat (first | exact Z0 | apply Z1)); done) | (repeat (first | exact Z0 | apply Z1))))); (repeat (first | exact Z3 | exact Takes.self | refine takes_drop2 ?_))
  refine l_make (sz := 2) (enc := enc2) (len := n) (cap := n) ((0, 0)) rfl rfl rfl rfl rfl (by first | rfl | omega) (by first | rfl | omega) Try.underlying111 Try.typeInfo74 rfl rfl rfl (by decide) (by omega) (by omega) (by show 16 * _ ≤ _; omega) (by rfl) (enc2_len) ?_
  intro b22
  refine ag_loadN_c rfl rfl (us := [_, _, _, _, _]) rfl Try.isAgg24 Try.sizeOf24 (by with_reducible (repeat (first | exact Z0 | apply Z1))) 0 (by first | rfl | exact (Nat.add_zero _).symm) rfl rfl ?_
  refine ag_nil ?_
  refine l_makeMap Int T3 ekZ ev3 rfl rfl rfl ?_
  intro m15
  refine ag_loadN_c rfl rfl (us := [_, _, _, _, _]) rfl Try.isAgg24 Try.sizeOf24 (by with_reducible (repeat (first | exact Z0 | apply Z1))) 0 (by first | rfl | exact (Nat.add_zero _).symm) rfl rfl ?_
  refine ag_nil ?_
  refine l_mapUpd (ek := ekZ) (ev1 := ev3) (F := (noF : Int → Option T3)) (m := m15) (k := 0) (v := (1, 0, 0)) (by first | exact .inl rfl | exact .inr rfl) rfl rfl rfl rfl Try.underlying126 (keyOK_int Try.underlying3) (by with_reducible (repeat (first | exact Z0 | apply Z1))) ?_
  refine ag_loadN_c rfl rfl (us := [_, _, _, _, _]) rfl Try.isAgg24 Try.sizeOf24 (by with_reducible (repeat (first | exact Z0 | apply Z1))) 0 (by first | rfl | exact (Nat.add_zero _).symm) rfl rfl ?_
  refine ag_nil ?_
  refine q_move rfl rfl rfl rfl ?_
  refine q_build rfl rfl rfl rfl (vs := [_, _, _, _, _, _, _, _, _]) (run_buildS Try.underlying129 Try.zeroValue129 (ps := [(0, 5), (5, 1), (6, 1), (7, 1), (8, 1)]) ⟨rfl, Try.sizeOf24, rfl, Try.sizeOf126, rfl, Try.sizeOf127, rfl, Try.sizeOf111, rfl, Try.sizeOf3, trivial⟩ rfl) ?_
  refine l_box rfl rfl rfl rfl (us := [_, _, _, _, _, _, _, _, _]) rfl ?_
  intro b24
  refine ag_nil ?_
  refine q_assign rfl rfl rfl rfl ?_
  refine q_assign rfl rfl rfl rfl ?_
  refine r_done ?_
  refine s_keep [2, 3] (e' := [(2, _), (3, _)]) rfl ?_
  refine k_then_n ?_
  refine c_ret ?_
  have hbl : (newF th va vo lk pl).B.length = n := by rw [← hn]; simp [newF]
  rw [show (List.replicate n ((0 : Int), (0 : Int)) : List T2) = (newF th va vo lk pl).B from by rw [← hn]; rfl]
  refine ck_fold (b := b24) (newF th va vo lk pl) (pa := qa) (pc := qc) (m1 := m15) (m2 := m18) (oa := some ⟨b22, 0, none⟩) (oc := n) (by (repeat ((with_reducible apply Z2); focus (first | (with_reducible (repeat (first | exact Z0 | apply Z1)); done) | (repeat (first | exact Z0 | apply Z1))))); exact Z3) (by rw [← hn]; rfl) (by exact hbl.symm) (rel_new hok) ?_
  refine ret2 rfl rfl rfl ((b24, qa, qc)) (by first | rfl | (first | rfl | (congr 1; done) | (congr 1 <;> first | rfl | omega | (simp; done) | (simp; omega)))) (by trivial) ?_
  (repeat ((with_reducible apply Z2); focus (first | (with_reducible (repeat (first | exact Z0 | apply Z1)); done) | (repeat (first | exact Z0 | apply Z1))))); (repeat (first | exact Z3 | exact Takes.self | refine takes_drop2 ?_))
 refine l_make (sz := 2) (enc := enc2) (len := n) (cap := n) ((0, 0)) rfl rfl rfl rfl rfl (by first | rfl | omega) (by first | rfl | omega) Try.underlying111 Try.typeInfo74 rfl rfl rfl (by decide) (by omega) (by omega) (by show 16 * _ ≤ _; omega) (by rfl) (enc2_len) ?_
 intro b22
 refine ag_loadN_c rfl rfl (us := [_, _, _, _, _]) rfl Try.isAgg24 Try.sizeOf24 (by with_reducible (repeat (first | exact Z0 | apply Z1))) 0 (by first | rfl | exact (Nat.add_zero _).symm) rfl rfl ?_
 refine ag_nil ?_
 refine r_alt ?_ ?_
 ·
  refine l_makeMap Int T3 ekZ ev3 rfl rfl rfl ?_
  intro m15
  refine ag_loadN_c rfl rfl (us := [_, _, _, _, _]) rfl Try.isAgg24 Try.sizeOf24 (by with_reducible (repeat (first | exact Z0 | apply Z1))) 0 (by first | rfl | exact (Nat.add_zero _).symm) rfl rfl ?_
  refine ag_nil ?_
  refine r_alt ?_ ?_
  ·
   refine l_mapUpd (ek := ekZ) (ev1 := ev3) (F := (noF : Int → Option T3)) (m := m15) (k := 0) (v := (1, 0, 0)) (by first | exact .inl rfl | exact .inr rfl) rfl rfl rfl rfl Try.underlying126 (keyOK_int Try.underlying3) (by with_reducible (repeat (first | exact Z0 | apply Z1))) ?_
   refine ag_loadN_c rfl rfl (us := [_, _, _, _, _]) rfl Try.isAgg24 Try.sizeOf24 (by with_reducible (repeat (first | exact Z0 | apply Z1))) 0 (by first | rfl | exact (Nat.add_zero _).symm) rfl rfl ?_
   refine ag_nil ?_
   refine q_move rfl rfl rfl rfl ?_
   refine l_makeMap Int Int ekZ ekZ rfl rfl rfl ?_
   intro m18
   refine ag_loadN_c rfl rfl (us := [_, _, _, _, _]) rfl Try.isAgg24 Try.sizeOf24 (by with_reducible (repeat (first | exact Z0 | apply Z1))) 0 (by first | rfl | exact (Nat.add_zero _).symm) rfl rfl ?_
   refine ag_nil ?_
   refine q_build rfl rfl rfl rfl (vs := [_, _, _, _, _, _, _, _, _]) (run_buildS Try.underlying129 Try.zeroValue129 (ps := [(0, 5), (5, 1), (6, 1), (7, 1), (8, 1)]) ⟨rfl, Try.sizeOf24, rfl, Try.sizeOf126, rfl, Try.sizeOf127, rfl, Try.sizeOf111, rfl, Try.sizeOf3, trivial⟩ rfl) ?_
   refine l_box rfl rfl rfl rfl (us := [_, _, _, _, _, _, _, _, _]) rfl ?_
   intro b24
   refine ag_nil ?_
   refine q_assign rfl rfl rfl rfl ?_
   refine q_assign rfl rfl rfl rfl ?_
   refine r_done ?_
   refine s_keep [2, 3] (e' := [(2, _), (3, _)]) rfl ?_
   refine k_then_n ?_
   refine c_ret ?_
   have hbl : (newF th va vo lk pl).B.length = n := by rw [← hn]; simp [newF]
   rw [show (List.replicate n ((0 : Int), (0 : Int)) : List T2) = (newF th va vo lk pl).B from by rw [← hn]; rfl]
   refine ck_fold (b := b24) (newF th va vo lk pl) (pa := qa) (pc := qc) (m1 := m15) (m2 := m18) (oa := some ⟨b22, 0, none⟩) (oc := n) (by (repeat ((with_reducible apply Z2); focus (first | (with_reducible (repeat (first | exact Z0 | apply Z1)); done) | (repeat (first | exact Z0 | apply Z1))))); exact Z3) (by rw [← hn]; rfl) (by exact hbl.symm) (rel_new hok) ?_
   refine ret2 rfl rfl rfl ((b24, qa, qc)) (by first | rfl | (first | rfl | (congr 1; done) | (congr 1 <;> first | rfl | omega | (simp; done) | (simp; omega)))) (by trivial) ?_
   (repeat ((with_reducible apply Z2); focus (first | (with_reducible (repeat (first | exact Z0 | apply Z1)); done) | (repeat (first | exact Z0 | apply Z1))))); (repeat (first | exact Z3 | exact Takes.self | refine takes_drop2 ?_))
  refine l_makeMap Int Int ekZ ekZ rfl rfl rfl ?_
  intro m18
  refine ag_loadN_c rfl rfl (us := [_, _, _, _, _]) rfl Try.isAgg24 Try.sizeOf24 (by with_reducible (repeat (first | exact Z0 | apply Z1))) 0 (by first | rfl | exact (Nat.add_zero _).symm) rfl rfl ?_
  refine ag_nil ?_
  refine l_mapUpd (ek := ekZ) (ev1 := ev3) (F := (noF : Int → Option T3)) (m := m15) (k := 0) (v := (1, 0, 0)) (by first | exact .inl rfl | exact .inr rfl) rfl rfl rfl rfl Try.underlying126 (keyOK_int Try.underlying3) (by with_reducible (repeat (first | exact Z0 | apply Z1))) ?_
  refine ag_loadN_c rfl rfl (us := [_, _, _, _, _]) rfl Try.isAgg24 Try.sizeOf24 (by with_reducible (repeat (first | exact Z0 | apply Z1))) 0 (by first | rfl | exact (Nat.add_zero _).symm) rfl rfl ?_
  refine ag_nil ?_
  refine q_move rfl rfl rfl rfl ?_
  refine q_build rfl rfl rfl rfl (vs := [_, _, _, _, _, _, _, _, _]) (run_buildS Try.underlying129 Try.zeroValue129 (ps := [(0, 5), (5, 1), (6, 1), (7, 1), (8, 1)]) ⟨rfl, Try.sizeOf24, rfl, Try.sizeOf126, rfl, Try.sizeOf127, rfl, Try.sizeOf111, rfl, Try.sizeOf3, trivial⟩ rfl) ?_
  refine l_box rfl rfl rfl rfl (us := [_, _, _, _, _, _, _, _, _]) rfl ?_
  intro b24
  refine ag_nil ?_
  refine q_assign rfl rfl rfl rfl ?_
  refine q_assign rfl rfl rfl rfl ?_
  refine r_done ?_
  refine s_keep [2, 3] (e' := [(2, _), (3, _)]) rfl ?_
  refine k_then_n ?_
  refine c_ret ?_
  have hbl : (newF th va vo lk pl).B.length = n := by rw [← hn]; simp [newF]
  rw [show (List.replicate n ((0 : Int), (0 : Int)) : List T2) = (newF th va vo lk pl).B from by rw [← hn]; rfl]
  refine ck_fold (b := b24) (newF th va vo lk pl) (pa := qa) (pc := qc) (m1 := m15) (m2 := m18) (oa := some ⟨b22, 0, none⟩) (oc := n) (by (repeat ((with_reducible apply Z2); focus (first | (with_reducible (repeat (first | exact Z0 | apply Z1)); done) | (repeat (first | exact Z0 | apply Z1))))); exact Z3) (by rw [← hn]; rfl) (by exact hbl.symm) (rel_new hok) ?_
  refine ret2 rfl rfl rfl ((b24, qa, qc)) (by first | rfl | (first | rfl | (congr 1; done) | (congr 1 <;> first | rfl | omega | (simp; done) | (simp; omega)))) (by trivial) ?_
  (repeat ((with_reducible apply Z2); focus (first | (with_reducible (repeat (first | exact Z0 | apply Z1)); done) | (repeat (first | exact Z0 | apply Z1))))); (repeat (first | exact Z3 | exact Takes.self | refine takes_drop2 ?_))
 refine l_makeMap Int Int ekZ ekZ rfl rfl rfl ?_
 intro m18
 refine ag_loadN_c rfl rfl (us := [_, _, _, _, _]) rfl Try.isAgg24 Try.sizeOf24 (by with_reducible (repeat (first | exact Z0 | apply Z1))) 0 (by first | rfl | exact (Nat.add_zero _).symm) rfl rfl ?_
 refine ag_nil ?_
 refine l_makeMap Int T3 ekZ ev3 rfl rfl rfl ?_
 intro m15
 refine ag_loadN_c rfl rfl (us := [_, _, _, _, _]) rfl Try.isAgg24 Try.sizeOf24 (by with_reducible (repeat (first | exact Z0 | apply Z1))) 0 (by first | rfl | exact (Nat.add_zero _).symm) rfl rfl ?_
 refine ag_nil ?_
 refine l_mapUpd (ek := ekZ) (ev1 := ev3) (F := (noF : Int → Option T3)) (m := m15) (k := 0) (v := (1, 0, 0)) (by first | exact .inl rfl | exact .inr rfl) rfl rfl rfl rfl Try.underlying126 (keyOK_int Try.underlying3) (by with_reducible (repeat (first | exact Z0 | apply Z1))) ?_
 refine ag_loadN_c rfl rfl (us := [_, _, _, _, _]) rfl Try.isAgg24 Try.sizeOf24 (by with_reducible (repeat (first | exact Z0 | apply Z1))) 0 (by first | rfl | exact (Nat.add_zero _).symm) rfl rfl ?_
 refine ag_nil ?_
 refine q_move rfl rfl rfl rfl ?_
 refine q_build rfl rfl rfl rfl (vs := [_, _, _, _, _, _, _, _, _]) (run_buildS Try.underlying129 Try.zeroValue129 (ps := [(0, 5), (5, 1), (6, 1), (7, 1), (8, 1)]) ⟨rfl, Try.sizeOf24, rfl, Try.sizeOf126, rfl, Try.sizeOf127, rfl, Try.sizeOf111, rfl, Try.sizeOf3, trivial⟩ rfl) ?_
 refine l_box rfl rfl rfl rfl (us := [_, _, _, _, _, _, _, _, _]) rfl ?_
 intro b24
 refine ag_nil ?_
 refine q_assign rfl rfl rfl rfl ?_
 refine q_assign rfl rfl rfl rfl ?_
 refine r_done ?_
 refine s_keep [2, 3] (e' := [(2, _), (3, _)]) rfl ?_
 refine k_then_n ?_
 refine c_ret ?_
 have hbl : (newF th va vo lk pl).B.length = n := by rw [← hn]; simp [newF]
 rw [show (List.replicate n ((0 : Int), (0 : Int)) : List T2) = (newF th va vo lk pl).B from by rw [← hn]; rfl]
 refine ck_fold (b := b24) (newF th va vo lk pl) (pa := qa) (pc := qc) (m1 := m15) (m2 := m18) (oa := some ⟨b22, 0, none⟩) (oc := n) (by (repeat ((with_reducible apply Z2); focus (first | (with_reducible (repeat (first | exact Z0 | apply Z1)); done) | (repeat (first | exact Z0 | apply Z1))))); exact Z3) (by rw [← hn]; rfl) (by exact hbl.symm) (rel_new hok) ?_
 refine ret2 rfl rfl rfl ((b24, qa, qc)) (by first | rfl | (first | rfl | (congr 1; done) | (congr 1 <;> first | rfl | omega | (simp; done) | (simp; omega)))) (by trivial) ?_
 (repeat ((with_reducible apply Z2); focus (first | (with_reducible (repeat (first | exact Z0 | apply Z1)); done) | (repeat (first | exact Z0 | apply Z1))))); (repeat (first | exact Z3 | exact Takes.self | refine takes_drop2 ?_))

theorem newbad_spec (th va vo lk : Int) (pl : List Int) (ao : Option Addr) (n c : Nat) (A : HProp) (hr : RdS A ao (pl.flatMap encZ)) (hn : pl.length = n) (hb : n ≤ 4000000) (hok : ¬ OkS th va vo lk pl) : Spec Try.prog 57 [.agg #[.int .i64 th, .int .i64 va, .int .i64 vo, .int .i64 lk, .slice ao n c]] [A] (fun (_ : Unit) => .tuple #[.pointer none, .int .i64 5]) (fun _ => True) (fun _ => [A]) := by
 refine spec_mk (n := 25) Try.func57 rfl rfl rfl ?_
 intro Γ w0
 simp only [argE, List.cons_append, List.nil_append, Nat.zero_add, Nat.reduceAdd]
 refine c_seq ?_
 refine c_plain ((.l 0 [] (.q 1 (.q 2 (.done))))) (by kernel_rfl) ?_
 refine l_box rfl rfl rfl rfl (us := [_, _, _, _, _]) rfl ?_
 intro b1
 refine ag_nil ?_
 refine q_assign rfl rfl rfl rfl ?_
 refine q_assign rfl rfl rfl rfl ?_
 refine r_done ?_
 refine k_then_n ?_
 refine c_seq ?_
 refine c_seq ?_
 refine c_plain (.q 0 ((.l 1 [] (.q 2 (.done))))) (by kernel_rfl) ?_
 refine q_loadN_c rfl rfl rfl rfl Try.isAgg24 Try.sizeOf24 (by with_reducible (repeat (first | exact Z0 | apply Z1))) 0 (us := [_, _, _, _, _]) (by first | rfl | exact (Nat.add_zero _).symm) rfl rfl ?_
 have sp_1 := shape_spec th va vo lk pl ao n c A (hr) (by first | rfl | assumption | omega | (simp; done) | (simp; omega)) (by omega)
 refine l_call rfl rfl rfl rfl rfl rfl Try.call73 (sp_1) (by (repeat ((with_reducible apply Z2); focus (first | (with_reducible (repeat (first | exact Z0 | apply Z1)); done) | (repeat (first | exact Z0 | apply Z1))))); exact Z3) ?_
 rintro ⟨⟩ -
 try simp only [List.cons_append, List.nil_append]
 refine ag_nil ?_
 refine s_eq 6 rfl (v' := .int .i64 5) (by rw [if_neg hok]) ?_
 refine q_assign rfl rfl rfl rfl ?_
 refine r_done ?_
 refine s_keep [1, 4] (e' := [(1, _), (4, _)]) rfl ?_
 refine k_then_n ?_
 refine c_seq ?_
 refine c_plain (.q 0 (.q 1 (.done))) (by kernel_rfl) ?_
 refine q_move rfl rfl rfl rfl ?_
 refine q_int rfl rfl rfl rfl rfl (b_neq _ _ _ _) ?_
 refine s_eq 8 rfl (v' := .bool true) (by first | rfl | simp) ?_
 refine r_done ?_
 refine k_then_n ?_
 refine c_cond_t rfl ?_
 refine c_seq ?_
 refine c_plain (.q 0 (.q 1 (.q 2 (.done)))) (by kernel_rfl) ?_
 refine q_move rfl rfl rfl rfl ?_
 refine q_assign rfl rfl rfl rfl ?_
 refine q_assign rfl rfl rfl rfl ?_
 refine r_done ?_
 refine s_keep [2, 3] (e' := [(2, _), (3, _)]) rfl ?_
 refine k_then_n ?_
 refine c_ret ?_
 refine k_then_ret ?_
 refine ret2 rfl rfl rfl (()) (by first | rfl | (first | rfl | (congr 1; done) | (congr 1 <;> first | rfl | omega | (simp; done) | (simp; omega)))) (by trivial) ?_
 (repeat ((with_reducible apply Z2); focus (first | (with_reducible (repeat (first | exact Z0 | apply Z1)); done) | (repeat (first | exact Z0 | apply Z1))))); (repeat (first | exact Z3 | exact Takes.self | refine takes_drop2 ?_))
end Go.Ab.Fe
