/- HeapMeans: what its code answers. -/
import Derived.Test.YtodmfajboleamaaHpM
set_option linter.unusedVariables false
set_option linter.unusedSimpArgs false
set_option maxRecDepth 100000
namespace Go.Ab.HpT
open Go Go.Proofs Go.Ab
theorem eq_of_pw {α : Type} {R : α → α → Prop} (asy : ∀ a b, R a b → ¬ R b a) : ∀ (l1 l2 : List α), l1.Perm l2 → l1.Pairwise R → l2.Pairwise R → l1 = l2
  | [], l2, p, _, _ => by rw [List.Perm.nil_eq p]
  | a :: t, [], p, _, _ => by have := p.length_eq; simp at this
  | a :: t, b :: s, p, h1, h2 => by
    have ha : a ∈ b :: s := p.mem_iff.1 (by simp)
    have hb : b ∈ a :: t := p.mem_iff.2 (by simp)
    have e : a = b := by
      rcases List.mem_cons.1 ha with h | h
      · exact h
      · rcases List.mem_cons.1 hb with h' | h'
        · exact h'.symm
        · exact absurd ((List.pairwise_cons.1 h2).1 a h) (asy _ _ ((List.pairwise_cons.1 h1).1 b h'))
    subst e
    rw [eq_of_pw asy t s (List.Perm.cons_inv p) (List.pairwise_cons.1 h1).2 (List.pairwise_cons.1 h2).2]
theorem srt_unique {lt : Th → Th → Bool} (o : OrdB lt) {all a b : List (Th × Nat)} (h1 : Srt lt all a) (h2 : Srt lt all b) : a = b :=
  eq_of_pw (R := fun a b => ltI lt a b = true) (fun a b h h' => by rw [o.item.asym a b h] at h'; cases h') a b (h1.1.trans h2.1.symm) h1.2 h2.2
/-- What is in order stays. -/
theorem srt_fix {lt : Th → Th → Bool} (o : OrdB lt) {s : List (Th × Nat)} (h : s.Pairwise (fun a b => ltI lt a b = true)) : Srt lt (s.map (·.1)).zipIdx (s.map (·.1)).zipIdx := by
  refine ⟨List.Perm.refl _, ?_⟩
  rw [List.pairwise_iff_getElem] at h ⊢
  intro i j hi hj hij
  simp only [List.getElem_zipIdx, List.getElem_map, Nat.zero_add]
  have h1 := h i j (by simpa using hi) (by simpa using hj) hij
  simp only [ltI, Bool.or_eq_true, Bool.and_eq_true, Bool.not_eq_true', decide_eq_true_eq] at h1 ⊢
  rcases h1 with h1 | ⟨h1, -⟩
  · exact .inl h1
  · exact .inr ⟨h1, hij⟩
theorem zip_fst (l : List Th) : l.zipIdx.map (·.1) = l := by
  apply List.ext_getElem?
  intro i
  simp [List.getElem?_zipIdx]
theorem rds_take {α : Type} {A : HProp} {ao : Option Addr} {sz : Nat} {enc : α → List Value} {xs : List α} (h : RdS A ao (xs.flatMap enc)) (hsz : ∀ x, (enc x).length = sz) (k : Nat) : RdS A ao ((xs.take k).flatMap enc) := by
  rcases h with h | ⟨b, o, h1, h2⟩
  · left
    rw [← List.take_append_drop k xs, List.flatMap_append, List.append_eq_nil_iff] at h
    exact h.1
  · refine .inr ⟨b, o, h1, fun i v hv => h2 i v ?_⟩
    rw [← List.take_append_drop k xs, List.flatMap_append, List.getElem?_append_left]
    · exact hv
    · exact (List.getElem?_eq_some_iff.1 hv).1
theorem rds_drop {α : Type} {A : HProp} {ao : Option Addr} {sz c : Nat} {enc : α → List Value} {xs : List α} (h : RdS A ao (xs.flatMap enc)) (hsz : ∀ x, (enc x).length = sz) (k : Nat) (hc : xs.length ≤ c) : RdS A (cutA ao c k sz) ((xs.drop k).flatMap enc) := by
  by_cases hk : xs.length ≤ k
  · rw [List.drop_of_length_le hk]; exact .inl rfl
  · rcases h with h | ⟨b, o, h1, h2⟩
    · left
      rw [← List.take_append_drop k xs, List.flatMap_append, List.append_eq_nil_iff] at h
      exact h.2
    · subst h1
      rw [cutA_lt (by omega)]
      refine .inr ⟨b, o + k * sz, rfl, fun i v hv => ?_⟩
      rw [Nat.add_assoc]
      refine h2 _ v ?_
      have e : ((xs.take k).flatMap enc).length = k * sz := by rw [flat_len hsz, List.length_take, Nat.min_eq_left (by omega)]
      rw [← List.take_append_drop k xs, List.flatMap_append, List.getElem?_append_right (by omega), e]
      rw [show k * sz + i - k * sz = i from by omega]
      exact hv
theorem tmod_bd (z : Int) (n : Nat) (h : 0 < n) : -(n : Int) < z.tmod n ∧ z.tmod n < n := by
  constructor
  · have h1 := Int.tmod_lt_of_pos (-z) (show (0 : Int) < n by omega)
    rw [Int.neg_tmod] at h1
    omega
  · exact Int.tmod_lt_of_pos z (by omega)
theorem means_spec (xs : List Th) (ao : Option Addr) (n c : Nat) (z : Int) (A : HProp) (hn : xs.length = n) (hr : RdS A ao (xs.flatMap encT)) (hb : n ≤ 1048576) (hc : n ≤ c) :
    Spec Try.prog 7 [.slice ao n c, .int .i64 z] [A] (fun (_ : Unit) => .bool true) (fun _ => True) (fun _ => [A]) := by
  refine spec_mk (n := 65) Try.func7 rfl rfl rfl ?_
  intro Γ w0
  simp only [argE, List.cons_append, List.nil_append, Nat.zero_add, Nat.reduceAdd]
  refine c_seq ?_
  refine c_plain (.q 0 (.done)) (by kernel_rfl) ?_
  refine q_assign rfl rfl rfl rfl ?_
  refine r_done ?_
  refine k_then_n ?_
  refine c_seq ?_
  refine c_plain (.q 0 ((.l 1 [] (.q 2 (.done))))) (by kernel_rfl) ?_
  refine q_move rfl rfl rfl rfl ?_
  have sp1 := sort_spec kl_ok xs ao n c A hn hr (by omega)
  refine l_call rfl rfl rfl rfl rfl rfl Try.call24 (sp1) (by (repeat (with_reducible apply Takes.cons; focus (with_reducible (repeat (first | exact Take.here | apply Take.there))))); exact Takes.nil) ?_
  rintro r hr2
  try simp only [List.cons_append, List.nil_append]
  refine ag_nil ?_
  refine q_assign rfl rfl rfl rfl ?_
  refine r_done ?_
  have hlr := hr2.1.length_eq
  rw [List.length_zipIdx] at hlr
  refine s_take (A := own 2 encT r.1 r.2.1 (r.2.2.map (·.1))) (by with_reducible (repeat (first | exact Take.here | apply Take.there))) ?_
  refine own_fc fun ho1 ho2 ho3 => ?_
  refine k_then_n ?_
  refine c_seq ?_
  refine c_plain (.q 0 (.done)) (by kernel_rfl) ?_
  refine q_assign rfl rfl rfl rfl ?_
  refine r_done ?_
  refine k_then_n ?_
  refine c_seq ?_
  refine c_seq ?_
  refine c_plain (.q 0 (.q 1 (.q 2 (.done)))) (by kernel_rfl) ?_
  refine q_move rfl rfl rfl rfl ?_
  refine q_len rfl rfl rfl rfl Try.underlying49 ?_
  refine q_int rfl rfl rfl rfl rfl (b_gtr _ _ _ _) ?_
  refine r_done ?_
  refine s_keep [0, 1, 5, 6, 11] (e' := [(0, _), (1, _), (5, _), (6, _), (11, _)]) rfl ?_
  refine k_then_n ?_
  refine c_cond_p rfl (fun hpos => ?_) (fun hpos => ?_)
  · skip
    have ht1 := tmod_bd z n (by omega)
    have ht2 := tmod_bd (z.tmod n + n) n (by omega)
    obtain ⟨k, hk, hkn⟩ : ∃ k : Nat, ((z.tmod n + n).tmod n) = (k : Int) ∧ k ≤ n := ⟨((z.tmod n + n).tmod n).toNat, by have := Int.tmod_nonneg (n : Int) (show (0 : Int) ≤ z.tmod n + n by omega); omega, by have := Int.tmod_nonneg (n : Int) (show (0 : Int) ≤ z.tmod n + n by omega); omega⟩
    refine c_plain (.q 0 (.q 1 (.q 2 (.q 3 (.q 4 (.q 5 (.q 6 (.q 7 (.q 8 (.q 9 (.q 10 (.done)))))))))))) (by kernel_rfl) ?_
    refine q_move rfl rfl rfl rfl ?_
    refine q_move rfl rfl rfl rfl ?_
    refine q_len rfl rfl rfl rfl Try.underlying49 ?_
    refine q_int rfl rfl rfl rfl rfl (b_remT _ (by omega)) ?_
    refine q_move rfl rfl rfl rfl ?_
    refine q_len rfl rfl rfl rfl Try.underlying49 ?_
    refine q_int rfl rfl rfl rfl rfl (b_add' _ (by (first | exact fits_i64 (by omega) (by omega) | exact fits_u64 (by omega) (by omega) | exact fits_u32 (by omega) (by omega) | exact fits_u8 (by omega) (by omega)))) ?_
    refine q_move rfl rfl rfl rfl ?_
    refine q_len rfl rfl rfl rfl Try.underlying49 ?_
    refine q_int rfl rfl rfl rfl rfl (b_remT _ (by omega)) ?_
    refine q_assign rfl rfl rfl rfl ?_
    refine r_done ?_
    refine s_eq 6 rfl (v' := .int .i64 (k : Int)) (by rw [← hk]) ?_
    refine s_keep [0, 5, 6] (e' := [(0, _), (5, _), (6, _)]) rfl ?_
    refine k_then_n ?_
    refine c_seq ?_
    refine c_seq ?_
    refine c_draw rfl (.q 0 (.q 1 (.q 2 (.q 3 (.q 4 (.q 5 (.q 6 (.q 8 ((.l 7 [] ((.l 9 [] (.q 10 (.q 11 (.q 12 (.q 13 (.q 16 ((.l 14 [] ((.l 15 [] ((.l 17 [] (.q 18 (.q 19 (.q 20 (.q 21 (.q 22 (.q 24 (.q 25 (.q 26 ((.l 23 [] ((.l 27 [] (.q 28 (.q 29 (.done)))))))))))))))))))))))))))))))))))))) (by kernel_rfl) ?_
    refine q_move rfl rfl rfl rfl ?_
    refine q_len rfl rfl rfl rfl Try.underlying49 ?_
    refine q_move rfl rfl rfl rfl ?_
    refine q_len rfl rfl rfl rfl Try.underlying49 ?_
    refine q_int rfl rfl rfl rfl rfl (b_neq _ _ _ _) ?_
    refine s_eq 26 rfl (v' := .bool false) (by congr 1; simp only [decide_eq_false_iff_not]; omega) ?_
    refine q_move rfl rfl rfl rfl ?_
    refine q_move rfl rfl rfl rfl ?_
    refine q_move rfl rfl rfl rfl ?_
    refine l_call rfl rfl rfl rfl rfl rfl Try.call24 (sort_spec kl_ok (r.2.2.map (·.1)) r.1 _ r.2.1 (own 2 encT r.1 r.2.1 (r.2.2.map (·.1))) (by rw [List.length_map]) (rds_own encT_len (fun h => (ho2 h).1) ho3) (by rw [List.length_map]; omega)) (by (repeat (with_reducible apply Takes.cons; focus (with_reducible (repeat (first | exact Take.here | apply Take.there))))); exact Takes.nil) ?_
    rintro r1 hr3
    try simp only [List.cons_append, List.nil_append]
    refine ag_nil ?_
    refine s_take (A := own 2 encT r1.1 r1.2.1 (r1.2.2.map (·.1))) (by with_reducible (repeat (first | exact Take.here | apply Take.there))) ?_
    refine own_fc fun ho11 ho12 ho13 => ?_
    refine l_call rfl rfl rfl rfl rfl rfl Try.call30 (same_spec (r1.2.2.map (·.1)) (r.2.2.map (·.1)) r1.1 r.1 _ _ r1.2.1 r.2.1 (own 2 encT r1.1 r1.2.1 (r1.2.2.map (·.1))) (own 2 encT r.1 r.2.1 (r.2.2.map (·.1))) (by rw [List.length_map]) (rds_own encT_len (fun h => (ho12 h).1) ho13) (by rw [List.length_map]) (rds_own encT_len (fun h => (ho2 h).1) ho3) (by have := hr3.1.length_eq; simp at this; omega)) (by (repeat (with_reducible apply Takes.cons; focus (with_reducible (repeat (first | exact Take.here | apply Take.there))))); exact Takes.nil) ?_
    rintro ⟨⟩ -
    try simp only [List.cons_append, List.nil_append]
    refine ag_nil ?_
    have e1 : r1.2.2.map (·.1) = r.2.2.map (·.1) := by rw [srt_unique kl_ok.ord hr3 (srt_fix kl_ok.ord hr2.2), zip_fst]
    refine s_eq 31 rfl (v' := .bool true) (by rw [decide_eq_true e1]) ?_
    refine q_not rfl rfl rfl rfl ?_
    refine s_eq 32 rfl (v' := .bool false) rfl ?_
    first | refine q_pick_t rfl rfl rfl rfl rfl ?_ | refine q_pick_f rfl rfl rfl rfl rfl ?_
    refine q_move rfl rfl rfl rfl ?_
    refine q_move rfl rfl rfl rfl ?_
    refine q_move rfl rfl rfl rfl ?_
    refine l_buildSlice rfl rfl rfl rfl (run_build1 (us := [_]) Try.underlying56 Try.sizeOf49 rfl Try.zeroValue49 rfl rfl rfl) ?_
    intro vb
    refine ag_nil ?_
    have sp3 := merge_spec kl_ok [(ao, c, xs)] (some ⟨vb, 0, none⟩) 1 1 (cells vb 0 [.slice ao n c]) A (rds_some (by subst hn; exact rdn_cells)) rfl (by intro y hy; simp at hy; subst hy; exact hr) (by simp [cat]; omega) (by decide)
    refine l_call rfl rfl rfl rfl rfl rfl Try.call28 (sp3) (by (repeat (with_reducible apply Takes.cons; focus (with_reducible (repeat (first | exact Take.here | apply Take.there))))); exact Takes.nil) ?_
    rintro r2 hr4
    try simp only [List.cons_append, List.nil_append]
    refine ag_nil ?_
    refine s_take (A := own 2 encT r2.1 r2.2.1 (r2.2.2.map (·.1))) (by with_reducible (repeat (first | exact Take.here | apply Take.there))) ?_
    refine own_fc fun ho21 ho22 ho23 => ?_
    refine l_call rfl rfl rfl rfl rfl rfl Try.call30 (same_spec (r2.2.2.map (·.1)) (r.2.2.map (·.1)) r2.1 r.1 _ _ r2.2.1 r.2.1 (own 2 encT r2.1 r2.2.1 (r2.2.2.map (·.1))) (own 2 encT r.1 r.2.1 (r.2.2.map (·.1))) (by rw [List.length_map]) (rds_own encT_len (fun h => (ho22 h).1) ho23) (by rw [List.length_map]) (rds_own encT_len (fun h => (ho2 h).1) ho3) (by have := hr4.1.length_eq; simp [cat] at this; omega)) (by (repeat (with_reducible apply Takes.cons; focus (with_reducible (repeat (first | exact Take.here | apply Take.there))))); exact Takes.nil) ?_
    rintro ⟨⟩ -
    try simp only [List.cons_append, List.nil_append]
    refine ag_nil ?_
    have e2 : r2.2.2.map (·.1) = r.2.2.map (·.1) := by rw [srt_unique kl_ok.ord hr4 (by simpa [cat] using hr2)]
    refine s_eq 39 rfl (v' := .bool true) (by rw [decide_eq_true e2]) ?_
    refine q_not rfl rfl rfl rfl ?_
    refine s_eq 40 rfl (v' := .bool false) rfl ?_
    first | refine q_pick_t rfl rfl rfl rfl rfl ?_ | refine q_pick_f rfl rfl rfl rfl rfl ?_
    refine q_move rfl rfl rfl rfl ?_
    refine q_move rfl rfl rfl rfl ?_
    refine q_move rfl rfl rfl rfl ?_
    refine q_move rfl rfl rfl rfl ?_
    refine q_move rfl rfl rfl rfl ?_
    refine q_cut_hi rfl rfl rfl rfl rfl Try.underlying49 Try.sizeOf28 (h' := k) (by rfl) (by (have := ho1; rw [List.length_map] at this; omega)) ?_
    have sp4 := least_spec kl_ok (k : Int) xs ao n c A hn hr (by omega)
    refine l_call rfl rfl rfl rfl rfl rfl Try.call25 (sp4) (by (repeat (with_reducible apply Takes.cons; focus (with_reducible (repeat (first | exact Take.here | apply Take.there))))); exact Takes.nil) ?_
    rintro r3 hr5
    have hlk : lst (k : Int) xs.length = k := by unfold lst; omega
    have hl5 := hr5.1.length_eq
    rw [List.length_zipIdx] at hl5
    try simp only [List.cons_append, List.nil_append]
    refine ag_nil ?_
    refine s_take (A := own 2 encT r3.1 r3.2.1 ((r3.2.2.map (·.1)).take (lst (k : Int) xs.length))) (by with_reducible (repeat (first | exact Take.here | apply Take.there))) ?_
    refine own_fc fun ho31 ho32 ho33 => ?_
    refine l_call rfl rfl rfl rfl rfl rfl Try.call30 (same_spec ((r3.2.2.map (·.1)).take (lst (k : Int) xs.length)) ((r.2.2.map (·.1)).take k) r3.1 r.1 _ _ r3.2.1 r.2.1 (own 2 encT r3.1 r3.2.1 ((r3.2.2.map (·.1)).take (lst (k : Int) xs.length))) (own 2 encT r.1 r.2.1 (r.2.2.map (·.1))) (by rw [List.length_take, List.length_map]; omega) (rds_own encT_len (fun h => (ho32 h).1) ho33) (by rw [List.length_take, List.length_map]; omega) (rds_take (rds_own encT_len (fun h => (ho2 h).1) ho3) encT_len k) (by omega)) (by (repeat (with_reducible apply Takes.cons; focus (with_reducible (repeat (first | exact Take.here | apply Take.there))))); exact Takes.nil) ?_
    rintro ⟨⟩ -
    try simp only [List.cons_append, List.nil_append]
    refine ag_nil ?_
    have e3 : (r3.2.2.map (·.1)).take (lst (k : Int) xs.length) = (r.2.2.map (·.1)).take k := by rw [srt_unique kl_ok.ord hr5 hr2, hlk]
    refine s_eq 49 rfl (v' := .bool true) (by rw [decide_eq_true e3]) ?_
    refine q_not rfl rfl rfl rfl ?_
    refine s_eq 50 rfl (v' := .bool false) rfl ?_
    first | refine q_pick_t rfl rfl rfl rfl rfl ?_ | refine q_pick_f rfl rfl rfl rfl rfl ?_
    refine r_done ?_
    refine s_keep [0, 5, 6, 51] (e' := [(0, _), (5, _), (6, _), (51, _)]) rfl ?_
    refine k_then_n ?_
    refine c_cond_f rfl ?_
    refine c_skip ?_
    refine k_then_n ?_
    refine c_seq ?_
    refine c_draw rfl (.q 0 (.q 1 (.q 2 (.q 3 (.q 4 (.q 5 (.q 8 ((.l 6 [] ((.l 7 [] ((.l 9 [] (.q 10 ((.l 11 [] (.q 12 (.q 13 (.done))))))))))))))))))) (by kernel_rfl) ?_
    refine q_move rfl rfl rfl rfl ?_
    refine q_move rfl rfl rfl rfl ?_
    refine q_cut_hi rfl rfl rfl rfl rfl Try.underlying49 Try.sizeOf28 (h' := k) (by rfl) (by omega) ?_
    refine q_move rfl rfl rfl rfl ?_
    refine q_move rfl rfl rfl rfl ?_
    refine q_cut_lo rfl rfl rfl rfl rfl Try.underlying49 Try.sizeOf28 (h := k) (by rfl) (by omega) (by omega) ?_
    refine q_move rfl rfl rfl rfl ?_
    refine l_buildSlice rfl rfl rfl rfl (vs := [_, _]) (run_buildSl Try.underlying56 Try.sizeOf49 Try.zeroValue49 rfl rfl rfl rfl) ?_
    intro vc
    refine ag_nil ?_
    have sp6 := merge_spec kl_ok [(ao, c, xs.take k), (cutA ao c k 2, c - k, xs.drop k)] (some ⟨vc, 0, none⟩) 2 2 (cells vc 0 [.slice ao k c, .slice (cutA ao c k 2) (n - k) (c - k)]) A (rds_some (by rw [show ([(ao, c, xs.take k), (cutA ao c k 2, c - k, xs.drop k)] : List Lst).flatMap encS = [.slice ao k c, .slice (cutA ao c k 2) (n - k) (c - k)] from by simp [encS, hn]; omega]; exact rdn_cells)) rfl (by intro y hy; simp at hy; rcases hy with rfl | rfl; exact rds_take hr encT_len k; exact rds_drop hr encT_len k (by omega)) (by simp [cat]; omega) (by decide)
    refine l_call rfl rfl rfl rfl rfl rfl Try.call28 (sp6) (by (repeat (with_reducible apply Takes.cons; focus (with_reducible (repeat (first | exact Take.here | apply Take.there))))); exact Takes.nil) ?_
    rintro r4 hr6
    try simp only [List.cons_append, List.nil_append]
    refine ag_nil ?_
    refine s_take (A := own 2 encT r4.1 r4.2.1 (r4.2.2.map (·.1))) (by with_reducible (repeat (first | exact Take.here | apply Take.there))) ?_
    refine own_fc fun ho41 ho42 ho43 => ?_
    refine l_call rfl rfl rfl rfl rfl rfl Try.call30 (same_spec (r4.2.2.map (·.1)) (r.2.2.map (·.1)) r4.1 r.1 _ _ r4.2.1 r.2.1 (own 2 encT r4.1 r4.2.1 (r4.2.2.map (·.1))) (own 2 encT r.1 r.2.1 (r.2.2.map (·.1))) (by rw [List.length_map]) (rds_own encT_len (fun h => (ho42 h).1) ho43) (by rw [List.length_map]) (rds_own encT_len (fun h => (ho2 h).1) ho3) (by have := hr6.1.length_eq; simp [cat] at this; omega)) (by (repeat (with_reducible apply Takes.cons; focus (with_reducible (repeat (first | exact Take.here | apply Take.there))))); exact Takes.nil) ?_
    rintro ⟨⟩ -
    try simp only [List.cons_append, List.nil_append]
    refine ag_nil ?_
    have e4 : r4.2.2.map (·.1) = r.2.2.map (·.1) := by rw [srt_unique kl_ok.ord hr6 (by simpa [cat] using hr2)]
    refine s_eq 61 rfl (v' := .bool true) (by rw [decide_eq_true e4]) ?_
    refine q_move rfl rfl rfl rfl ?_
    refine l_call rfl rfl rfl rfl rfl rfl Try.call14 (known_spec) (by (repeat (with_reducible apply Takes.cons; focus (with_reducible (repeat (first | exact Take.here | apply Take.there))))); exact Takes.nil) ?_
    rintro ⟨⟩ -
    try simp only [List.cons_append, List.nil_append]
    refine ag_nil ?_
    first | refine q_pick_t rfl rfl rfl rfl rfl ?_ | refine q_pick_f rfl rfl rfl rfl rfl ?_
    refine q_assign rfl rfl rfl rfl ?_
    refine r_done ?_
    refine s_keep [4] (e' := [(4, _)]) rfl ?_
    refine k_then_n ?_
    refine c_ret ?_
    refine ret1 rfl rfl (()) (by rfl) (by trivial) ?_
    (repeat (with_reducible apply Takes.cons; focus (with_reducible (repeat (first | exact Take.here | apply Take.there))))); (repeat (first | exact Takes.nil | exact Takes.self | refine takes_drop2 ?_))
  · skip
    obtain ⟨k, hk, hkn⟩ : ∃ k : Nat, (0 : Int) = (k : Int) ∧ k ≤ n := ⟨0, rfl, Nat.zero_le _⟩
    refine s_eq 6 rfl (v' := .int .i64 (k : Int)) (by rw [← hk]) ?_
    refine c_skip ?_
    refine k_then_n ?_
    refine c_seq ?_
    refine c_seq ?_
    refine c_draw rfl (.q 0 (.q 1 (.q 2 (.q 3 (.q 4 (.q 5 (.q 6 (.q 8 ((.l 7 [] ((.l 9 [] (.q 10 (.q 11 (.q 12 (.q 13 (.q 16 ((.l 14 [] ((.l 15 [] ((.l 17 [] (.q 18 (.q 19 (.q 20 (.q 21 (.q 22 (.q 24 (.q 25 (.q 26 ((.l 23 [] ((.l 27 [] (.q 28 (.q 29 (.done)))))))))))))))))))))))))))))))))))))) (by kernel_rfl) ?_
    refine q_move rfl rfl rfl rfl ?_
    refine q_len rfl rfl rfl rfl Try.underlying49 ?_
    refine q_move rfl rfl rfl rfl ?_
    refine q_len rfl rfl rfl rfl Try.underlying49 ?_
    refine q_int rfl rfl rfl rfl rfl (b_neq _ _ _ _) ?_
    refine s_eq 26 rfl (v' := .bool false) (by congr 1; simp only [decide_eq_false_iff_not]; omega) ?_
    refine q_move rfl rfl rfl rfl ?_
    refine q_move rfl rfl rfl rfl ?_
    refine q_move rfl rfl rfl rfl ?_
    refine l_call rfl rfl rfl rfl rfl rfl Try.call24 (sort_spec kl_ok (r.2.2.map (·.1)) r.1 _ r.2.1 (own 2 encT r.1 r.2.1 (r.2.2.map (·.1))) (by rw [List.length_map]) (rds_own encT_len (fun h => (ho2 h).1) ho3) (by rw [List.length_map]; omega)) (by (repeat (with_reducible apply Takes.cons; focus (with_reducible (repeat (first | exact Take.here | apply Take.there))))); exact Takes.nil) ?_
    rintro r1 hr3
    try simp only [List.cons_append, List.nil_append]
    refine ag_nil ?_
    refine s_take (A := own 2 encT r1.1 r1.2.1 (r1.2.2.map (·.1))) (by with_reducible (repeat (first | exact Take.here | apply Take.there))) ?_
    refine own_fc fun ho11 ho12 ho13 => ?_
    refine l_call rfl rfl rfl rfl rfl rfl Try.call30 (same_spec (r1.2.2.map (·.1)) (r.2.2.map (·.1)) r1.1 r.1 _ _ r1.2.1 r.2.1 (own 2 encT r1.1 r1.2.1 (r1.2.2.map (·.1))) (own 2 encT r.1 r.2.1 (r.2.2.map (·.1))) (by rw [List.length_map]) (rds_own encT_len (fun h => (ho12 h).1) ho13) (by rw [List.length_map]) (rds_own encT_len (fun h => (ho2 h).1) ho3) (by have := hr3.1.length_eq; simp at this; omega)) (by (repeat (with_reducible apply Takes.cons; focus (with_reducible (repeat (first | exact Take.here | apply Take.there))))); exact Takes.nil) ?_
    rintro ⟨⟩ -
    try simp only [List.cons_append, List.nil_append]
    refine ag_nil ?_
    have e1 : r1.2.2.map (·.1) = r.2.2.map (·.1) := by rw [srt_unique kl_ok.ord hr3 (srt_fix kl_ok.ord hr2.2), zip_fst]
    refine s_eq 31 rfl (v' := .bool true) (by rw [decide_eq_true e1]) ?_
    refine q_not rfl rfl rfl rfl ?_
    refine s_eq 32 rfl (v' := .bool false) rfl ?_
    first | refine q_pick_t rfl rfl rfl rfl rfl ?_ | refine q_pick_f rfl rfl rfl rfl rfl ?_
    refine q_move rfl rfl rfl rfl ?_
    refine q_move rfl rfl rfl rfl ?_
    refine q_move rfl rfl rfl rfl ?_
    refine l_buildSlice rfl rfl rfl rfl (run_build1 (us := [_]) Try.underlying56 Try.sizeOf49 rfl Try.zeroValue49 rfl rfl rfl) ?_
    intro vb
    refine ag_nil ?_
    have sp8 := merge_spec kl_ok [(ao, c, xs)] (some ⟨vb, 0, none⟩) 1 1 (cells vb 0 [.slice ao n c]) A (rds_some (by subst hn; exact rdn_cells)) rfl (by intro y hy; simp at hy; subst hy; exact hr) (by simp [cat]; omega) (by decide)
    refine l_call rfl rfl rfl rfl rfl rfl Try.call28 (sp8) (by (repeat (with_reducible apply Takes.cons; focus (with_reducible (repeat (first | exact Take.here | apply Take.there))))); exact Takes.nil) ?_
    rintro r2 hr4
    try simp only [List.cons_append, List.nil_append]
    refine ag_nil ?_
    refine s_take (A := own 2 encT r2.1 r2.2.1 (r2.2.2.map (·.1))) (by with_reducible (repeat (first | exact Take.here | apply Take.there))) ?_
    refine own_fc fun ho21 ho22 ho23 => ?_
    refine l_call rfl rfl rfl rfl rfl rfl Try.call30 (same_spec (r2.2.2.map (·.1)) (r.2.2.map (·.1)) r2.1 r.1 _ _ r2.2.1 r.2.1 (own 2 encT r2.1 r2.2.1 (r2.2.2.map (·.1))) (own 2 encT r.1 r.2.1 (r.2.2.map (·.1))) (by rw [List.length_map]) (rds_own encT_len (fun h => (ho22 h).1) ho23) (by rw [List.length_map]) (rds_own encT_len (fun h => (ho2 h).1) ho3) (by have := hr4.1.length_eq; simp [cat] at this; omega)) (by (repeat (with_reducible apply Takes.cons; focus (with_reducible (repeat (first | exact Take.here | apply Take.there))))); exact Takes.nil) ?_
    rintro ⟨⟩ -
    try simp only [List.cons_append, List.nil_append]
    refine ag_nil ?_
    have e2 : r2.2.2.map (·.1) = r.2.2.map (·.1) := by rw [srt_unique kl_ok.ord hr4 (by simpa [cat] using hr2)]
    refine s_eq 39 rfl (v' := .bool true) (by rw [decide_eq_true e2]) ?_
    refine q_not rfl rfl rfl rfl ?_
    refine s_eq 40 rfl (v' := .bool false) rfl ?_
    first | refine q_pick_t rfl rfl rfl rfl rfl ?_ | refine q_pick_f rfl rfl rfl rfl rfl ?_
    refine q_move rfl rfl rfl rfl ?_
    refine q_move rfl rfl rfl rfl ?_
    refine q_move rfl rfl rfl rfl ?_
    refine q_move rfl rfl rfl rfl ?_
    refine q_move rfl rfl rfl rfl ?_
    refine q_cut_hi rfl rfl rfl rfl rfl Try.underlying49 Try.sizeOf28 (h' := k) (by rfl) (by (have := ho1; rw [List.length_map] at this; omega)) ?_
    have sp9 := least_spec kl_ok (k : Int) xs ao n c A hn hr (by omega)
    refine l_call rfl rfl rfl rfl rfl rfl Try.call25 (sp9) (by (repeat (with_reducible apply Takes.cons; focus (with_reducible (repeat (first | exact Take.here | apply Take.there))))); exact Takes.nil) ?_
    rintro r3 hr5
    have hlk : lst (k : Int) xs.length = k := by unfold lst; omega
    have hl5 := hr5.1.length_eq
    rw [List.length_zipIdx] at hl5
    try simp only [List.cons_append, List.nil_append]
    refine ag_nil ?_
    refine s_take (A := own 2 encT r3.1 r3.2.1 ((r3.2.2.map (·.1)).take (lst (k : Int) xs.length))) (by with_reducible (repeat (first | exact Take.here | apply Take.there))) ?_
    refine own_fc fun ho31 ho32 ho33 => ?_
    refine l_call rfl rfl rfl rfl rfl rfl Try.call30 (same_spec ((r3.2.2.map (·.1)).take (lst (k : Int) xs.length)) ((r.2.2.map (·.1)).take k) r3.1 r.1 _ _ r3.2.1 r.2.1 (own 2 encT r3.1 r3.2.1 ((r3.2.2.map (·.1)).take (lst (k : Int) xs.length))) (own 2 encT r.1 r.2.1 (r.2.2.map (·.1))) (by rw [List.length_take, List.length_map]; omega) (rds_own encT_len (fun h => (ho32 h).1) ho33) (by rw [List.length_take, List.length_map]; omega) (rds_take (rds_own encT_len (fun h => (ho2 h).1) ho3) encT_len k) (by omega)) (by (repeat (with_reducible apply Takes.cons; focus (with_reducible (repeat (first | exact Take.here | apply Take.there))))); exact Takes.nil) ?_
    rintro ⟨⟩ -
    try simp only [List.cons_append, List.nil_append]
    refine ag_nil ?_
    have e3 : (r3.2.2.map (·.1)).take (lst (k : Int) xs.length) = (r.2.2.map (·.1)).take k := by rw [srt_unique kl_ok.ord hr5 hr2, hlk]
    refine s_eq 49 rfl (v' := .bool true) (by rw [decide_eq_true e3]) ?_
    refine q_not rfl rfl rfl rfl ?_
    refine s_eq 50 rfl (v' := .bool false) rfl ?_
    first | refine q_pick_t rfl rfl rfl rfl rfl ?_ | refine q_pick_f rfl rfl rfl rfl rfl ?_
    refine r_done ?_
    refine s_keep [0, 5, 6, 51] (e' := [(0, _), (5, _), (6, _), (51, _)]) rfl ?_
    refine k_then_n ?_
    refine c_cond_f rfl ?_
    refine c_skip ?_
    refine k_then_n ?_
    refine c_seq ?_
    refine c_draw rfl (.q 0 (.q 1 (.q 2 (.q 3 (.q 4 (.q 5 (.q 8 ((.l 6 [] ((.l 7 [] ((.l 9 [] (.q 10 ((.l 11 [] (.q 12 (.q 13 (.done))))))))))))))))))) (by kernel_rfl) ?_
    refine q_move rfl rfl rfl rfl ?_
    refine q_move rfl rfl rfl rfl ?_
    refine q_cut_hi rfl rfl rfl rfl rfl Try.underlying49 Try.sizeOf28 (h' := k) (by rfl) (by omega) ?_
    refine q_move rfl rfl rfl rfl ?_
    refine q_move rfl rfl rfl rfl ?_
    refine q_cut_lo rfl rfl rfl rfl rfl Try.underlying49 Try.sizeOf28 (h := k) (by rfl) (by omega) (by omega) ?_
    refine q_move rfl rfl rfl rfl ?_
    refine l_buildSlice rfl rfl rfl rfl (vs := [_, _]) (run_buildSl Try.underlying56 Try.sizeOf49 Try.zeroValue49 rfl rfl rfl rfl) ?_
    intro vc
    refine ag_nil ?_
    have sp11 := merge_spec kl_ok [(ao, c, xs.take k), (cutA ao c k 2, c - k, xs.drop k)] (some ⟨vc, 0, none⟩) 2 2 (cells vc 0 [.slice ao k c, .slice (cutA ao c k 2) (n - k) (c - k)]) A (rds_some (by rw [show ([(ao, c, xs.take k), (cutA ao c k 2, c - k, xs.drop k)] : List Lst).flatMap encS = [.slice ao k c, .slice (cutA ao c k 2) (n - k) (c - k)] from by simp [encS, hn]; omega]; exact rdn_cells)) rfl (by intro y hy; simp at hy; rcases hy with rfl | rfl; exact rds_take hr encT_len k; exact rds_drop hr encT_len k (by omega)) (by simp [cat]; omega) (by decide)
    refine l_call rfl rfl rfl rfl rfl rfl Try.call28 (sp11) (by (repeat (with_reducible apply Takes.cons; focus (with_reducible (repeat (first | exact Take.here | apply Take.there))))); exact Takes.nil) ?_
    rintro r4 hr6
    try simp only [List.cons_append, List.nil_append]
    refine ag_nil ?_
    refine s_take (A := own 2 encT r4.1 r4.2.1 (r4.2.2.map (·.1))) (by with_reducible (repeat (first | exact Take.here | apply Take.there))) ?_
    refine own_fc fun ho41 ho42 ho43 => ?_
    refine l_call rfl rfl rfl rfl rfl rfl Try.call30 (same_spec (r4.2.2.map (·.1)) (r.2.2.map (·.1)) r4.1 r.1 _ _ r4.2.1 r.2.1 (own 2 encT r4.1 r4.2.1 (r4.2.2.map (·.1))) (own 2 encT r.1 r.2.1 (r.2.2.map (·.1))) (by rw [List.length_map]) (rds_own encT_len (fun h => (ho42 h).1) ho43) (by rw [List.length_map]) (rds_own encT_len (fun h => (ho2 h).1) ho3) (by have := hr6.1.length_eq; simp [cat] at this; omega)) (by (repeat (with_reducible apply Takes.cons; focus (with_reducible (repeat (first | exact Take.here | apply Take.there))))); exact Takes.nil) ?_
    rintro ⟨⟩ -
    try simp only [List.cons_append, List.nil_append]
    refine ag_nil ?_
    have e4 : r4.2.2.map (·.1) = r.2.2.map (·.1) := by rw [srt_unique kl_ok.ord hr6 (by simpa [cat] using hr2)]
    refine s_eq 61 rfl (v' := .bool true) (by rw [decide_eq_true e4]) ?_
    refine q_move rfl rfl rfl rfl ?_
    refine l_call rfl rfl rfl rfl rfl rfl Try.call14 (known_spec) (by (repeat (with_reducible apply Takes.cons; focus (with_reducible (repeat (first | exact Take.here | apply Take.there))))); exact Takes.nil) ?_
    rintro ⟨⟩ -
    try simp only [List.cons_append, List.nil_append]
    refine ag_nil ?_
    first | refine q_pick_t rfl rfl rfl rfl rfl ?_ | refine q_pick_f rfl rfl rfl rfl rfl ?_
    refine q_assign rfl rfl rfl rfl ?_
    refine r_done ?_
    refine s_keep [4] (e' := [(4, _)]) rfl ?_
    refine k_then_n ?_
    refine c_ret ?_
    refine ret1 rfl rfl (()) (by rfl) (by trivial) ?_
    (repeat (with_reducible apply Takes.cons; focus (with_reducible (repeat (first | exact Take.here | apply Take.there))))); (repeat (first | exact Takes.nil | exact Takes.self | refine takes_drop2 ?_))
end Go.Ab.HpT
