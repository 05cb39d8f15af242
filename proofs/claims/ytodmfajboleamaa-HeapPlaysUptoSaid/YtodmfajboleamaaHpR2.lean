/- The document's answer for heaps (abreastref04): Sort, Least, Merge. -/
import Derived.Test.YtodmfajboleamaaHpR
set_option linter.unusedVariables false
set_option linter.unusedSimpArgs false
set_option maxRecDepth 100000
namespace Go.Ab.HpT
open Go Go.Proofs Go.Ab
theorem perm_erase {α : Type} : ∀ (l : List α) (i : Nat) (p : α), l[i]? = some p → (p :: l.eraseIdx i).Perm l
  | [], i, p, h => by simp at h
  | a :: l, 0, p, h => by simp at h; subst h; exact List.Perm.refl _
  | a :: l, i + 1, p, h => by
    rw [List.eraseIdx_cons_succ]
    exact (List.Perm.swap a p _).trans ((perm_erase l i p (by simpa using h)).cons a)
theorem map_erase {α β : Type} (f : α → β) : ∀ (l : List α) (i : Nat), (l.map f).eraseIdx i = (l.eraseIdx i).map f
  | [], i => by simp
  | a :: l, 0 => rfl
  | a :: l, i + 1 => by
    rw [List.map_cons, List.eraseIdx_cons_succ, List.eraseIdx_cons_succ, List.map_cons, map_erase f l i]
structure RSI (all L O : List (Th × Nat)) : Prop where
  perm : (O ++ L).Perm all
  tags : L.Pairwise (fun a b => a.2 < b.2)
  srt : O.Pairwise (fun a b => ltI kl a b = true)
  le : ∀ a ∈ O, ∀ b ∈ L, ltI kl a b = true
theorem rs_next {all L O : List (Th × Nat)} {i : Nat} {p : Th × Nat} (h : RSI all L O) (hp : L[i]? = some p) (h1 : ∀ (j : Nat) (y : Th × Nat), L[j]? = some y → ¬ y.1.1 < p.1.1) (h2 : ∀ (j : Nat) (y : Th × Nat), j < i → L[j]? = some y → p.1.1 < y.1.1) : RSI all (L.eraseIdx i) (O ++ [p]) := by
  have hi : i < L.length := (List.getElem?_eq_some_iff.1 hp).1
  have hpe : L[i] = p := (List.getElem?_eq_some_iff.1 hp).2
  have hpm : (p :: L.eraseIdx i).Perm L := perm_erase L i p hp
  have hpL : p ∈ L := List.mem_of_getElem? hp
  have hlt : ∀ b ∈ L.eraseIdx i, ltI kl p b = true := by
    intro b hb
    obtain ⟨j, hj⟩ := List.getElem?_of_mem hb
    rw [List.getElem?_eraseIdx] at hj
    simp only [ltI, kl, Bool.or_eq_true, Bool.and_eq_true, Bool.not_eq_true', decide_eq_true_eq, decide_eq_false_iff_not]
    split at hj
    · rename_i hji
      exact .inl (h2 j b hji hj)
    · rename_i hji
      have h3 := h1 _ b hj
      have h4 : p.2 < b.2 := by
        have h5 := (List.pairwise_iff_getElem.1 h.tags) i (j + 1) hi (List.getElem?_eq_some_iff.1 hj).1 (by omega)
        rw [hpe, (List.getElem?_eq_some_iff.1 hj).2] at h5
        exact h5
      exact .inr ⟨h3, h4⟩
  refine ⟨?_, h.tags.sublist (List.eraseIdx_sublist _ _), ?_, ?_⟩
  · rw [List.append_assoc]
    exact (List.Perm.append_left O hpm).trans h.perm
  · rw [List.pairwise_append]
    refine ⟨h.srt, List.pairwise_singleton _ _, fun a ha b hb => ?_⟩
    simp at hb; subst hb
    exact h.le a ha _ hpL
  · intro a ha b hb
    rcases List.mem_append.1 ha with ha | ha
    · exact h.le a ha b ((List.eraseIdx_sublist _ _).mem hb)
    · simp at ha; subst ha; exact hlt b hb
theorem rs_start (xs : List Th) : RSI xs.zipIdx xs.zipIdx [] := by
  refine ⟨List.Perm.refl _, ?_, List.Pairwise.nil, fun a ha => by cases ha⟩
  rw [List.pairwise_iff_getElem]
  intro i j hi hj hij
  simp only [List.getElem_zipIdx, Nat.zero_add]
  exact hij
theorem wo_map {L : List (Th × Nat)} {i : Nat} : wo (L.map (·.1)) (i : Int) = (L.eraseIdx i).map (·.1) := by
  unfold wo
  rw [if_pos (by omega), Int.toNat_natCast, map_erase]
theorem rsort_spec (xs : List Th) (ao : Option Addr) (n c : Nat) (A : HProp) (hn : xs.length = n) (hr : RdS A ao (xs.flatMap encT)) (hb : n ≤ 2000000000000) : Spec Try.prog 26 [.slice ao n c] [A] (fun (r : Option Addr × Nat × List (Th × Nat)) => .slice r.1 r.2.2.length r.2.1) (fun r => Srt kl xs.zipIdx r.2.2) (fun r => [A, own 2 encT r.1 r.2.1 (r.2.2.map (·.1))]) := by
  refine spec_mk (n := 24) Try.func26 rfl rfl rfl ?_
  intro Γ w0
  simp only [argE, List.cons_append, List.nil_append, Nat.zero_add, Nat.reduceAdd]
  refine c_seq ?_
  refine c_plain (.q 0 (.done)) (by kernel_rfl) ?_
  refine q_assign rfl rfl rfl rfl ?_
  refine r_done ?_
  refine k_then_n ?_
  refine c_seq ?_
  refine c_plain (.q 0 ((.l 1 [] (.q 2 (.done))))) (by kernel_rfl) ?_
  refine q_move rfl rfl rfl rfl ?_
  have sp1 := without_spec xs (-1) ao n c A hn hr hb
  refine l_call rfl rfl rfl rfl rfl rfl Try.call46 (sp1) (by (repeat (with_reducible apply Takes.cons; focus (with_reducible (repeat (first | exact Take.here | apply Take.there))))); exact Takes.nil) ?_
  rintro ⟨ao1, cap1⟩ -
  rw [show wo xs (-1) = xs from rfl]
  try simp only [List.cons_append, List.nil_append]
  refine ag_nil ?_
  refine q_assign rfl rfl rfl rfl ?_
  refine r_done ?_
  refine s_keep [3] (e' := [(3, _)]) rfl ?_
  refine k_then_n ?_
  refine c_seq ?_
  refine c_plain (.q 0 (.done)) (by kernel_rfl) ?_
  refine q_assign rfl rfl rfl rfl ?_
  refine r_done ?_
  refine k_then_n ?_
  refine c_seq ?_
  refine c_block ?_
  refine s_heap (fun _ h => own_nil (sz := 2) (enc := encT) h) ?_
  refine s_eq 3 rfl (v' := .slice ao1 (xs.zipIdx.map (·.1)).length cap1) (by simp) ?_
  refine c_loop2 (α := List (Th × Nat) × List (Th × Nat) × Option Addr × Nat × Option Addr × Nat) (fun (x_ : List (Th × Nat) × List (Th × Nat) × Option Addr × Nat × Option Addr × Nat) => match x_ with | (L, O, al, cl, ao2, co) => RSI xs.zipIdx L O) (fun (x_ : List (Th × Nat) × List (Th × Nat) × Option Addr × Nat × Option Addr × Nat) => match x_ with | (L, O, al, cl, ao2, co) => [(3, .slice al (L.map (·.1)).length cl), (4, .slice ao2 (O.map (·.1)).length co)]) (fun (x_ : List (Th × Nat) × List (Th × Nat) × Option Addr × Nat × Option Addr × Nat) => match x_ with | (L, O, al, cl, ao2, co) => [own 2 encT al cl (L.map (·.1)), own 2 encT ao2 co (O.map (·.1))]) (fun (x_ : List (Th × Nat) × List (Th × Nat) × Option Addr × Nat × Option Addr × Nat) => match x_ with | (L, O, al, cl, ao2, co) => L.length) [] (er := []) rfl ((xs.zipIdx, [], ao1, cap1, none, 0)) ?_ (by exact ⟨rfl, rfl, trivial⟩) (by (try simp only [zip_fst, List.map_nil]); (repeat (with_reducible apply Takes.cons; focus (with_reducible (repeat (first | exact Take.here | apply Take.there))))); exact Takes.nil) ?_
  · exact rs_start xs
  rintro ⟨L, O, al, cl, ao2, co⟩ hR
  try simp only [List.cons_append, List.nil_append]
  have hlen := hR.perm.length_eq
  rw [List.length_append, List.length_zipIdx] at hlen
  refine s_take (A := own 2 encT al cl (L.map (·.1))) (by with_reducible (repeat (first | exact Take.here | apply Take.there))) ?_
  refine own_fc fun ho1 ho2 ho3 => ?_
  refine c_seq ?_
  refine c_seq ?_
  refine c_plain (.q 0 (.q 1 (.q 2 (.done)))) (by kernel_rfl) ?_
  refine q_move rfl rfl rfl rfl ?_
  refine q_len rfl rfl rfl rfl Try.underlying49 ?_
  refine q_int rfl rfl rfl rfl rfl (b_gtr _ _ _ _) ?_
  refine r_done ?_
  refine k_then_n ?_
  refine c_cond_p rfl (fun hlt => ?_) (fun hlt => ?_)
  · skip
    rw [List.length_map] at hlt
    have hlp : 0 < L.length := by omega
    refine c_skip ?_
    refine k_then_n ?_
    refine c_block ?_
    refine c_seq ?_
    refine c_plain (.q 0 ((.l 1 [] (.q 2 (.done))))) (by kernel_rfl) ?_
    refine q_move rfl rfl rfl rfl ?_
    have sp2 := first_spec (L.map (·.1)) al (L.map (·.1)).length cl (own 2 encT al cl (L.map (·.1))) rfl (rds_own encT_len (fun h => (ho2 h).1) ho3) (by rw [List.length_map]; omega)
    refine l_call rfl rfl rfl rfl rfl rfl Try.call47 (sp2) (by (repeat (with_reducible apply Takes.cons; focus (with_reducible (repeat (first | exact Take.here | apply Take.there))))); exact Takes.nil) ?_
    rintro k hk
    obtain ⟨i, x, rfl, hx, hmin', hfst'⟩ : ∃ (i : Nat) (x : Th), k = ((i : Nat) : Int) ∧ (L.map (·.1))[i]? = some x ∧ (∀ (j : Nat) (y : Th), (L.map (·.1))[j]? = some y → ¬ y.1 < x.1) ∧ (∀ (j : Nat) (y : Th), j < i → (L.map (·.1))[j]? = some y → x.1 < y.1) := by
      rcases hk with ⟨h1, -⟩ | h1
      · have := congrArg List.length h1
        rw [List.length_map, List.length_nil] at this; omega
      · exact h1
    obtain ⟨p, hp, rfl⟩ : ∃ p, L[i]? = some p ∧ p.1 = x := by
      rw [List.getElem?_map] at hx
      cases hq : L[i]? with
      | none => rw [hq] at hx; cases hx
      | some p => rw [hq] at hx; exact ⟨p, rfl, by simpa using hx⟩
    have hmin : ∀ (j : Nat) (y : Th × Nat), L[j]? = some y → ¬ y.1.1 < p.1.1 := fun j y hy => hmin' j y.1 (by rw [List.getElem?_map, hy]; rfl)
    have hfst : ∀ (j : Nat) (y : Th × Nat), j < i → L[j]? = some y → p.1.1 < y.1.1 := fun j y hj hy => hfst' j y.1 hj (by rw [List.getElem?_map, hy]; rfl)
    have hil : i < L.length := (List.getElem?_eq_some_iff.1 hp).1
    obtain ⟨lb, lo, rfl⟩ := ho3 (fun e => by have := congrArg List.length (ho2 e).1; rw [List.length_map, List.length_nil] at this; omega)
    try simp only [List.cons_append, List.nil_append]
    refine ag_nil ?_
    refine q_assign rfl rfl rfl rfl ?_
    refine r_done ?_
    refine s_keep [3, 4, 5] (e' := [(3, _), (4, _), (5, _)]) rfl ?_
    refine k_then_n ?_
    refine c_seq ?_
    refine c_plain (.q 0 (.q 1 (.q 2 (.q 3 (.q 4 ((.l 5 [] ((.l 6 [] (.q 7 (.done))))))))))) (by kernel_rfl) ?_
    refine q_move rfl rfl rfl rfl ?_
    refine q_move rfl rfl rfl rfl ?_
    refine q_move rfl rfl rfl rfl ?_
    refine q_idx rfl rfl rfl rfl rfl Try.underlying49 Try.sizeOf28 (k := i) (by first | rfl | omega) (by rw [List.length_map]; omega) (by exact ⟨_, _, rfl⟩) ?_
    intro ib3 io4 hx; cases hx
    refine q_loadN_o rfl rfl rfl rfl Try.isAgg28 Try.sizeOf28 (by with_reducible (repeat (first | exact Take.here | apply Take.there))) (encT_len) (by first | rfl | exact (Nat.add_zero _).symm) (by exact hx) (vs := [_, _]) (by rfl) ?_
    refine l_buildSlice rfl rfl rfl rfl (run_build1 (us := [_, _]) Try.underlying49 Try.sizeOf28 rfl Try.zeroValue28 rfl rfl rfl) ?_
    intro vb
    refine ag_nil ?_
    refine l_append (sz := 2) rfl rfl rfl rfl rfl Try.underlying49 Try.typeInfo28 rfl rfl rfl (by decide) (by with_reducible (repeat (first | exact Take.here | apply Take.there))) (by with_reducible (repeat (first | exact Take.here | apply Take.there))) (by rfl) (ys := [p.1]) (rds_some rdn_cells) (by rfl) (by rfl) (encT_len) (encT_one) (by rw [List.length_map]; omega) (by show _ * 16 ≤ _; rw [List.length_map]; omega) ?_
    intro ao3 co3
    refine ag_nil ?_
    refine q_assign rfl rfl rfl rfl ?_
    refine r_done ?_
    refine s_keep [3, 4, 5] (e' := [(3, _), (4, _), (5, _)]) rfl ?_
    refine k_then_n ?_
    refine c_plain (.q 0 (.q 1 ((.l 2 [] (.q 3 (.done)))))) (by kernel_rfl) ?_
    refine q_move rfl rfl rfl rfl ?_
    refine q_move rfl rfl rfl rfl ?_
    have sp8 := without_spec (L.map (·.1)) (i : Int) (some ⟨lb, lo, none⟩) (L.map (·.1)).length cl (own 2 encT (some ⟨lb, lo, none⟩) cl (L.map (·.1))) rfl (rds_own encT_len (fun h => (ho2 h).1) ho3) (by rw [List.length_map]; omega)
    refine l_call rfl rfl rfl rfl rfl rfl Try.call46 (sp8) (by (repeat (with_reducible apply Takes.cons; focus (with_reducible (repeat (first | exact Take.here | apply Take.there))))); exact Takes.nil) ?_
    rintro ⟨al2, cl2⟩ -
    rw [wo_map]
    try simp only [List.cons_append, List.nil_append]
    refine ag_nil ?_
    refine q_assign rfl rfl rfl rfl ?_
    refine r_done ?_
    refine s_keep [3, 4] (e' := [(3, _), (4, _)]) rfl ?_
    refine k_blk_n ?_
    refine k_then_n ?_
    refine s_eq 4 rfl (v' := .slice ao3 ((O ++ [p]).map (·.1)).length co3) (by simp) ?_
    rw [show List.map (·.1) O ++ [p.1] = (O ++ [p]).map (·.1) from by simp]
    refine loop_next (x := (L, O, some ⟨lb, lo, none⟩, cl, ao2, co)) ((L.eraseIdx i, O ++ [p], al2, cl2, ao3, co3)) ?_ ?_ ?_ ?_
    · exact rs_next hR hp hmin hfst
    · show (L.eraseIdx i).length < L.length; rw [List.length_eraseIdx_of_lt hil]; omega
    · exact ⟨rfl, rfl, trivial⟩
    · (try simp only [List.cons_append, List.nil_append]); (repeat (with_reducible apply Takes.cons; focus (with_reducible (repeat (first | exact Take.here | apply Take.there))))); (repeat (first | exact Takes.nil | exact Takes.self | refine takes_drop2 ?_))
  · skip
    refine c_exit ?_
    refine k_then_exit ?_
    refine k_then_exit ?_
    refine k_blk_here ?_
    refine k_then_n ?_
    refine c_seq ?_
    refine c_plain (.q 0 (.q 1 (.done))) (by kernel_rfl) ?_
    refine q_move rfl rfl rfl rfl ?_
    refine q_assign rfl rfl rfl rfl ?_
    refine r_done ?_
    refine s_keep [2] (e' := [(2, _)]) rfl ?_
    refine k_then_n ?_
    refine c_ret ?_
    refine ret1 rfl rfl ((ao2, co, O)) (by rw [List.length_map]) (by exact ⟨by have := hR.perm; have hL : L = [] := List.eq_nil_of_length_eq_zero (by rw [List.length_map] at hlt; omega); rw [hL, List.append_nil] at this; exact this, hR.srt⟩) ?_
    (repeat (with_reducible apply Takes.cons; focus (with_reducible (repeat (first | exact Take.here | apply Take.there))))); (repeat (first | exact Takes.nil | exact Takes.self | refine takes_drop2 ?_))

theorem rleast_spec (z : Int) (xs : List Th) (ao : Option Addr) (n c : Nat) (A : HProp) (hn : xs.length = n) (hr : RdS A ao (xs.flatMap encT)) (hb : n ≤ 2000000000000) : Spec Try.prog 27 [.int .i64 z, .slice ao n c] [A] (fun (r : Option Addr × Nat × List (Th × Nat)) => .slice r.1 (lst z n) r.2.1) (fun r => Srt kl xs.zipIdx r.2.2) (fun r => [A, own 2 encT r.1 r.2.1 ((r.2.2.map (·.1)).take (lst z n))]) := by
  refine spec_mk (n := 18) Try.func27 rfl rfl rfl ?_
  intro Γ w0
  simp only [argE, List.cons_append, List.nil_append, Nat.zero_add, Nat.reduceAdd]
  refine c_seq ?_
  refine c_plain (.q 0 (.done)) (by kernel_rfl) ?_
  refine q_assign rfl rfl rfl rfl ?_
  refine r_done ?_
  refine k_then_n ?_
  refine c_seq ?_
  refine c_plain (.q 0 ((.l 1 [] (.q 2 (.done))))) (by kernel_rfl) ?_
  refine q_move rfl rfl rfl rfl ?_
  have sp1 := rsort_spec xs ao n c A hn hr hb
  refine l_call rfl rfl rfl rfl rfl rfl Try.call26 (sp1) (by (repeat (with_reducible apply Takes.cons; focus (with_reducible (repeat (first | exact Take.here | apply Take.there))))); exact Takes.nil) ?_
  rintro r hr2
  try simp only [List.cons_append, List.nil_append]
  refine ag_nil ?_
  refine q_assign rfl rfl rfl rfl ?_
  refine r_done ?_
  have hlr2 : r.2.2.length = n := by have := hr2.1.length_eq; rw [List.length_zipIdx, hn] at this; exact this
  refine s_take (A := own 2 encT r.1 r.2.1 (r.2.2.map (·.1))) (by with_reducible (repeat (first | exact Take.here | apply Take.there))) ?_
  refine own_fc fun ho1 ho2 ho3 => ?_
  rw [List.length_map] at ho1
  refine s_keep [0, 5] (e' := [(0, _), (5, _)]) rfl ?_
  refine k_then_n ?_
  refine c_seq ?_
  refine c_seq ?_
  refine c_plain (.q 0 (.q 1 (.done))) (by kernel_rfl) ?_
  refine q_move rfl rfl rfl rfl ?_
  refine q_int rfl rfl rfl rfl rfl (b_lss _ _ _ _) ?_
  refine r_done ?_
  refine k_then_n ?_
  refine c_cond_p rfl (fun hz => ?_) (fun hz => ?_)
  · skip
    refine c_plain (.q 0 (.done)) (by kernel_rfl) ?_
    refine q_assign rfl rfl rfl rfl ?_
    refine r_done ?_
    refine k_then_n ?_
    refine c_seq ?_
    refine c_seq ?_
    refine c_plain (.q 0 (.q 1 (.q 2 (.q 3 (.done))))) (by kernel_rfl) ?_
    refine q_move rfl rfl rfl rfl ?_
    refine q_move rfl rfl rfl rfl ?_
    refine q_len rfl rfl rfl rfl Try.underlying49 ?_
    refine q_int rfl rfl rfl rfl rfl (b_lss _ _ _ _) ?_
    refine r_done ?_
    refine s_keep [0, 5, 13] (e' := [(0, _), (5, _), (13, _)]) rfl ?_
    refine k_then_n ?_
    refine c_cond_p rfl (fun hz1 => ?_) (fun hz1 => ?_)
    · skip
      refine c_seq ?_
      refine c_plain (.q 0 (.q 1 (.q 2 (.q 3 (.done))))) (by kernel_rfl) ?_
      refine q_move rfl rfl rfl rfl ?_
      refine q_move rfl rfl rfl rfl ?_
      refine q_cut_hi rfl rfl rfl rfl rfl Try.underlying49 Try.sizeOf28 (h' := lst z n) (by unfold lst; omega) (by (have hb_ : lst z n ≤ n := by unfold lst; omega); omega) ?_
      refine q_assign rfl rfl rfl rfl ?_
      refine r_done ?_
      refine s_keep [4] (e' := [(4, _)]) rfl ?_
      refine k_then_n ?_
      refine c_ret ?_
      refine k_then_ret ?_
      refine s_take (A := own 2 encT r.1 r.2.1 (r.2.2.map (·.1))) (by with_reducible (repeat (first | exact Take.here | apply Take.there))) ?_
      refine s_heap (fun _ h => own_take encT_len (lst z n) h) ?_
      refine ret1 rfl rfl (r) (by rfl) (by exact hr2) ?_
      (repeat (with_reducible apply Takes.cons; focus (with_reducible (repeat (first | exact Take.here | apply Take.there))))); (repeat (first | exact Takes.nil | exact Takes.self | refine takes_drop2 ?_))
    · skip
      refine s_eq 5 rfl (v' := .slice r.1 (lst z n) r.2.1) (by rw [show lst z n = r.2.2.length from by unfold lst; omega]) ?_
      refine c_skip ?_
      refine k_then_n ?_
      refine c_seq ?_
      refine c_plain (.q 0 (.q 1 (.done))) (by kernel_rfl) ?_
      refine q_move rfl rfl rfl rfl ?_
      refine q_assign rfl rfl rfl rfl ?_
      refine r_done ?_
      refine s_keep [4] (e' := [(4, _)]) rfl ?_
      refine k_then_n ?_
      refine c_ret ?_
      refine s_take (A := own 2 encT r.1 r.2.1 (r.2.2.map (·.1))) (by with_reducible (repeat (first | exact Take.here | apply Take.there))) ?_
      refine s_heap (fun _ h => own_take encT_len (lst z n) h) ?_
      refine ret1 rfl rfl (r) (by rfl) (by exact hr2) ?_
      (repeat (with_reducible apply Takes.cons; focus (with_reducible (repeat (first | exact Take.here | apply Take.there))))); (repeat (first | exact Takes.nil | exact Takes.self | refine takes_drop2 ?_))
  · skip
    refine c_skip ?_
    refine k_then_n ?_
    refine c_seq ?_
    refine c_seq ?_
    refine c_plain (.q 0 (.q 1 (.q 2 (.q 3 (.done))))) (by kernel_rfl) ?_
    refine q_move rfl rfl rfl rfl ?_
    refine q_move rfl rfl rfl rfl ?_
    refine q_len rfl rfl rfl rfl Try.underlying49 ?_
    refine q_int rfl rfl rfl rfl rfl (b_lss _ _ _ _) ?_
    refine r_done ?_
    refine s_keep [0, 5, 13] (e' := [(0, _), (5, _), (13, _)]) rfl ?_
    refine k_then_n ?_
    refine c_cond_p rfl (fun hz2 => ?_) (fun hz2 => ?_)
    · skip
      refine c_seq ?_
      refine c_plain (.q 0 (.q 1 (.q 2 (.q 3 (.done))))) (by kernel_rfl) ?_
      refine q_move rfl rfl rfl rfl ?_
      refine q_move rfl rfl rfl rfl ?_
      refine q_cut_hi rfl rfl rfl rfl rfl Try.underlying49 Try.sizeOf28 (h' := lst z n) (by unfold lst; omega) (by (have hb_ : lst z n ≤ n := by unfold lst; omega); omega) ?_
      refine q_assign rfl rfl rfl rfl ?_
      refine r_done ?_
      refine s_keep [4] (e' := [(4, _)]) rfl ?_
      refine k_then_n ?_
      refine c_ret ?_
      refine k_then_ret ?_
      refine s_take (A := own 2 encT r.1 r.2.1 (r.2.2.map (·.1))) (by with_reducible (repeat (first | exact Take.here | apply Take.there))) ?_
      refine s_heap (fun _ h => own_take encT_len (lst z n) h) ?_
      refine ret1 rfl rfl (r) (by rfl) (by exact hr2) ?_
      (repeat (with_reducible apply Takes.cons; focus (with_reducible (repeat (first | exact Take.here | apply Take.there))))); (repeat (first | exact Takes.nil | exact Takes.self | refine takes_drop2 ?_))
    · skip
      refine s_eq 5 rfl (v' := .slice r.1 (lst z n) r.2.1) (by rw [show lst z n = r.2.2.length from by unfold lst; omega]) ?_
      refine c_skip ?_
      refine k_then_n ?_
      refine c_seq ?_
      refine c_plain (.q 0 (.q 1 (.done))) (by kernel_rfl) ?_
      refine q_move rfl rfl rfl rfl ?_
      refine q_assign rfl rfl rfl rfl ?_
      refine r_done ?_
      refine s_keep [4] (e' := [(4, _)]) rfl ?_
      refine k_then_n ?_
      refine c_ret ?_
      refine s_take (A := own 2 encT r.1 r.2.1 (r.2.2.map (·.1))) (by with_reducible (repeat (first | exact Take.here | apply Take.there))) ?_
      refine s_heap (fun _ h => own_take encT_len (lst z n) h) ?_
      refine ret1 rfl rfl (r) (by rfl) (by exact hr2) ?_
      (repeat (with_reducible apply Takes.cons; focus (with_reducible (repeat (first | exact Take.here | apply Take.there))))); (repeat (first | exact Takes.nil | exact Takes.self | refine takes_drop2 ?_))

theorem rmerge_spec (L : List Lst) (bo : Option Addr) (m c : Nat) (A : HProp) (hr : RdS A bo (L.flatMap encS)) (hm : L.length = m) (hc : ∀ x ∈ L, RdS A x.1 (x.2.2.flatMap encT)) (hb : (cat L).length ≤ 2000000000000) (hb2 : m ≤ 4000000000000) :
    Spec Try.prog 29 [.slice bo m c] [A] (fun (r : Option Addr × Nat × List (Th × Nat)) => .slice r.1 r.2.2.length r.2.1) (fun r => Srt kl ((cat L).zipIdx) r.2.2) (fun r => [A, own 2 encT r.1 r.2.1 (r.2.2.map (·.1))]) := by
  refine spec_mk (n := 33) Try.func29 rfl rfl rfl ?_
  intro Γ w0
  simp only [argE, List.cons_append, List.nil_append, Nat.zero_add, Nat.reduceAdd]
  refine c_seq ?_
  refine c_plain (.q 0 (.done)) (by kernel_rfl) ?_
  refine q_assign rfl rfl rfl rfl ?_
  refine r_done ?_
  refine k_then_n ?_
  refine c_seq ?_
  refine c_plain (.q 0 (.done)) (by kernel_rfl) ?_
  refine q_assign rfl rfl rfl rfl ?_
  refine r_done ?_
  refine k_then_n ?_
  refine c_seq ?_
  refine c_seq ?_
  refine c_plain (.q 0 (.done)) (by kernel_rfl) ?_
  refine q_assign rfl rfl rfl rfl ?_
  refine r_done ?_
  refine k_then_n ?_
  refine c_block ?_
  refine s_heap (fun _ h => own_nil (sz := 2) (enc := encT) h) ?_
  refine s_eq 4 rfl (v' := .int .i64 ((0 : Nat) : Int)) rfl ?_
  refine c_loop2 (α := Nat × Option Addr × Nat) (fun (x_ : Nat × Option Addr × Nat) => match x_ with | (i, ao2, cap2) => i ≤ m) (fun (x_ : Nat × Option Addr × Nat) => match x_ with | (i, ao2, cap2) => [(3, .slice ao2 (cat (L.take i)).length cap2), (4, .int .i64 ((i : Nat) : Int))]) (fun (x_ : Nat × Option Addr × Nat) => match x_ with | (i, ao2, cap2) => [own 2 encT ao2 cap2 (cat (L.take i))]) (fun (x_ : Nat × Option Addr × Nat) => match x_ with | (i, ao2, cap2) => m - i) [0] (er := [(0, _)]) rfl ((0, none, 0)) ?_ (by exact ⟨rfl, rfl, trivial⟩) (by dsimp only; rw [show cat (L.take 0) = [] from by simp [cat]]; (repeat (with_reducible apply Takes.cons; focus (with_reducible (repeat (first | exact Take.here | apply Take.there))))); exact Takes.nil) ?_
  · exact Nat.zero_le _
  rintro ⟨i, ao2, cap2⟩ hi
  try simp only [List.cons_append, List.nil_append]
  refine c_seq ?_
  refine c_seq ?_
  refine c_plain (.q 0 (.q 1 (.q 2 (.q 3 (.done))))) (by kernel_rfl) ?_
  refine q_move rfl rfl rfl rfl ?_
  refine q_move rfl rfl rfl rfl ?_
  refine q_len rfl rfl rfl rfl Try.underlying56 ?_
  refine q_int rfl rfl rfl rfl rfl (b_lss _ _ _ _) ?_
  refine r_done ?_
  refine k_then_n ?_
  refine c_cond_p rfl (fun hlt => ?_) (fun hlt => ?_)
  · skip
    obtain ⟨x, hx⟩ := get_lt (l := L) (i := i) (by omega)
    obtain ⟨vb, vo, rfl, hrn⟩ := rds_get hr encS_len hx
    have hxL : x ∈ L := List.mem_of_getElem? hx
    have hle := cat_le L (i + 1)
    rw [cat_next hx, List.length_append] at hle
    refine c_skip ?_
    refine k_then_n ?_
    refine c_seq ?_
    refine c_block ?_
    refine c_seq ?_
    refine c_plain (.q 0 (.done)) (by kernel_rfl) ?_
    refine q_assign rfl rfl rfl rfl ?_
    refine r_done ?_
    refine s_keep [0, 3, 4, 5] (e' := [(0, _), (3, _), (4, _), (5, _)]) rfl ?_
    refine k_then_n ?_
    refine c_block ?_
    refine s_eq 5 rfl (v' := .int .i64 ((0 : Nat) : Int)) rfl ?_
    refine s_eq 3 rfl (v' := .slice ao2 (cat (L.take i) ++ x.2.2.take 0).length cap2) (by simp) ?_
    refine c_loop2 (α := Nat × Option Addr × Nat) (fun (x_ : Nat × Option Addr × Nat) => match x_ with | (k, ao3, cap3) => k ≤ x.2.2.length) (fun (x_ : Nat × Option Addr × Nat) => match x_ with | (k, ao3, cap3) => [(3, .slice ao3 (cat (L.take i) ++ x.2.2.take k).length cap3), (5, .int .i64 ((k : Nat) : Int))]) (fun (x_ : Nat × Option Addr × Nat) => match x_ with | (k, ao3, cap3) => [own 2 encT ao3 cap3 (cat (L.take i) ++ x.2.2.take k)]) (fun (x_ : Nat × Option Addr × Nat) => match x_ with | (k, ao3, cap3) => x.2.2.length - k) [0, 4] (er := [(0, _), (4, _)]) rfl ((0, ao2, cap2)) ?_ (by exact ⟨rfl, rfl, trivial⟩) (by dsimp only; rw [show cat (L.take i) ++ x.2.2.take 0 = cat (L.take i) from by simp]; (repeat (with_reducible apply Takes.cons; focus (with_reducible (repeat (first | exact Take.here | apply Take.there))))); exact Takes.nil) ?_
    · exact Nat.zero_le _
    rintro ⟨k, ao3, cap3⟩ hk
    try simp only [List.cons_append, List.nil_append]
    have hal : (cat (L.take i) ++ x.2.2.take k).length = (cat (L.take i)).length + k := by rw [List.length_append, List.length_take, Nat.min_eq_left hk]
    refine c_seq ?_
    refine c_seq ?_
    refine c_plain (.q 0 (.q 1 (.q 2 (.q 3 (.q 4 (.q 5 (.q 6 (.done)))))))) (by kernel_rfl) ?_
    refine q_move rfl rfl rfl rfl ?_
    refine q_move rfl rfl rfl rfl ?_
    refine q_move rfl rfl rfl rfl ?_
    refine q_idx1 rfl rfl rfl rfl rfl Try.underlying56 Try.sizeOf49 (k := i) (by first | rfl | omega) (by omega) (by exact ⟨_, _, rfl⟩) ?_
    intro ib1 io2 hx; cases hx
    refine q_load rfl rfl rfl rfl Try.isAgg49 (by with_reducible (repeat (first | exact Take.here | apply Take.there))) (rd_flat1 hrn encS_len hx rfl) ?_
    refine q_len rfl rfl rfl rfl Try.underlying49 ?_
    refine q_int rfl rfl rfl rfl rfl (b_lss _ _ _ _) ?_
    refine r_done ?_
    refine s_keep [0, 3, 4, 5, 18] (e' := [(0, _), (3, _), (4, _), (5, _), (18, _)]) rfl ?_
    refine k_then_n ?_
    refine c_cond_p rfl (fun hlk => ?_) (fun hlk => ?_)
    · skip
      obtain ⟨y, hy⟩ := get_lt (l := x.2.2) (i := k) (by omega)
      obtain ⟨yb, yo, hye, hyn⟩ := rds_get (hc x hxL) encT_len hy
      refine c_skip ?_
      refine k_then_n ?_
      refine c_seq ?_
      refine c_block ?_
      refine c_plain (.q 0 (.q 1 (.q 2 (.q 3 (.q 4 (.q 5 (.q 6 (.q 7 ((.l 8 [] ((.l 9 [] (.q 10 (.done)))))))))))))) (by kernel_rfl) ?_
      refine q_move rfl rfl rfl rfl ?_
      refine q_move rfl rfl rfl rfl ?_
      refine q_move rfl rfl rfl rfl ?_
      refine q_idx1 rfl rfl rfl rfl rfl Try.underlying56 Try.sizeOf49 (k := i) (by first | rfl | omega) (by omega) (by exact ⟨_, _, rfl⟩) ?_
      intro ib3 io4 hx; cases hx
      refine q_load rfl rfl rfl rfl Try.isAgg49 (by with_reducible (repeat (first | exact Take.here | apply Take.there))) (rd_flat1 hrn encS_len hx rfl) ?_
      refine q_move rfl rfl rfl rfl ?_
      refine q_idx rfl rfl rfl rfl rfl Try.underlying49 Try.sizeOf28 (k := k) (by first | rfl | omega) (by omega) (by exact ⟨_, _, hye⟩) ?_
      rw [hye]; intro xb xo hxo; cases hxo
      refine q_loadN rfl rfl rfl rfl Try.isAgg28 Try.sizeOf28 (by with_reducible (repeat (first | exact Take.here | apply Take.there))) (rdn_sub hyn encT_len hy) rfl ?_
      refine l_buildSlice rfl rfl rfl rfl (run_build1 (us := [_, _]) Try.underlying49 Try.sizeOf28 rfl Try.zeroValue28 rfl rfl rfl) ?_
      intro vq
      refine ag_nil ?_
      refine l_append (sz := 2) rfl rfl rfl rfl rfl Try.underlying49 Try.typeInfo28 rfl rfl rfl (by decide) (by with_reducible (repeat (first | exact Take.here | apply Take.there))) (by with_reducible (repeat (first | exact Take.here | apply Take.there))) (by rfl) (ys := [y]) (rds_some rdn_cells) (by rfl) (by rfl) (encT_len) (encT_one) (by omega) (by show _ * 16 ≤ _; omega) ?_
      intro ao4 cap4
      refine ag_nil ?_
      refine q_assign rfl rfl rfl rfl ?_
      refine r_done ?_
      refine s_keep [0, 3, 4, 5] (e' := [(0, _), (3, _), (4, _), (5, _)]) rfl ?_
      refine k_blk_n ?_
      refine k_then_n ?_
      refine c_plain (.q 0 (.q 1 (.q 2 (.done)))) (by kernel_rfl) ?_
      refine q_move rfl rfl rfl rfl ?_
      refine q_int rfl rfl rfl rfl rfl (b_add' _ (by (first | exact fits_i64 (by omega) (by omega) | exact fits_u64 (by omega) (by omega) | exact fits_u32 (by omega) (by omega) | exact fits_u8 (by omega) (by omega)))) ?_
      refine q_assign rfl rfl rfl rfl ?_
      refine r_done ?_
      refine k_then_n ?_
      rw [List.append_assoc, show x.2.2.take k ++ [y] = x.2.2.take (k + 1) from by rw [List.take_add_one, hy]; rfl]
      refine s_eq 3 rfl (v' := .slice ao4 (cat (L.take i) ++ x.2.2.take (k + 1)).length cap4) (by rw [List.length_append, List.length_append, List.length_take, List.length_take]; congr 1; omega) ?_
      refine loop_next (x := (k, ao3, cap3)) ((k + 1, ao4, cap4)) ?_ ?_ ?_ ?_
      · show k + 1 ≤ _; omega
      · show x.2.2.length - (k + 1) < x.2.2.length - k; omega
      · exact ⟨rfl, rfl, rfl, rfl, trivial⟩
      · (try simp only [List.cons_append, List.nil_append]); (repeat (with_reducible apply Takes.cons; focus (with_reducible (repeat (first | exact Take.here | apply Take.there))))); (repeat (first | exact Takes.nil | exact Takes.self | refine takes_drop2 ?_))
    · skip
      refine c_exit ?_
      refine k_then_exit ?_
      refine k_then_exit ?_
      refine k_blk_here ?_
      refine k_blk_n ?_
      refine k_then_n ?_
      refine c_plain (.q 0 (.q 1 (.q 2 (.done)))) (by kernel_rfl) ?_
      refine q_move rfl rfl rfl rfl ?_
      refine q_int rfl rfl rfl rfl rfl (b_add' _ (by (first | exact fits_i64 (by omega) (by omega) | exact fits_u64 (by omega) (by omega) | exact fits_u32 (by omega) (by omega) | exact fits_u8 (by omega) (by omega)))) ?_
      refine q_assign rfl rfl rfl rfl ?_
      refine r_done ?_
      refine s_keep [0, 3, 4] (e' := [(0, _), (3, _), (4, _)]) rfl ?_
      refine k_then_n ?_
      obtain rfl : k = x.2.2.length := by omega
      rw [List.take_length, ← cat_next hx]
      refine loop_next (x := (i, ao2, cap2)) ((i + 1, ao3, cap3)) ?_ ?_ ?_ ?_
      · show i + 1 ≤ m; omega
      · show m - (i + 1) < m - i; omega
      · exact ⟨rfl, rfl, rfl, trivial⟩
      · (try simp only [List.cons_append, List.nil_append]); (repeat (with_reducible apply Takes.cons; focus (with_reducible (repeat (first | exact Take.here | apply Take.there))))); (repeat (first | exact Takes.nil | exact Takes.self | refine takes_drop2 ?_))
  · skip
    obtain rfl : i = m := by omega
    rw [List.take_of_length_le (by omega)]
    refine s_take (A := own 2 encT ao2 cap2 (cat L)) (by with_reducible (repeat (first | exact Take.here | apply Take.there))) ?_
    refine own_fc fun ho1 ho2 ho3 => ?_
    refine c_exit ?_
    refine k_then_exit ?_
    refine k_then_exit ?_
    refine k_blk_here ?_
    refine k_then_n ?_
    refine c_seq ?_
    refine c_plain (.q 0 ((.l 1 [] (.q 2 (.done))))) (by kernel_rfl) ?_
    refine q_move rfl rfl rfl rfl ?_
    have sp10 := rsort_spec (cat L) ao2 (cat L).length cap2 (own 2 encT ao2 cap2 (cat L)) rfl (rds_own encT_len (fun h => (ho2 h).1) ho3) hb
    refine l_call rfl rfl rfl rfl rfl rfl Try.call26 (sp10) (by (repeat (with_reducible apply Takes.cons; focus (with_reducible (repeat (first | exact Take.here | apply Take.there))))); exact Takes.nil) ?_
    rintro r hr2
    try simp only [List.cons_append, List.nil_append]
    refine ag_nil ?_
    refine q_assign rfl rfl rfl rfl ?_
    refine r_done ?_
    refine s_keep [2] (e' := [(2, _)]) rfl ?_
    refine k_then_n ?_
    refine c_ret ?_
    refine ret1 rfl rfl (r) (by rfl) (by exact hr2) ?_
    (repeat (with_reducible apply Takes.cons; focus (with_reducible (repeat (first | exact Take.here | apply Take.there))))); (repeat (first | exact Takes.nil | exact Takes.self | refine takes_drop2 ?_))
end Go.Ab.HpT
