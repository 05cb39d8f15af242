/- Package sched's law First. -/
import Derived.Test.YtmaonhoplaebhaaSc11
set_option linter.unusedVariables false
set_option linter.unusedSimpArgs false
set_option maxRecDepth 100000
namespace Go.Ab.Sc
open Go Go.Proofs Go.Ab
theorem okL_push {l : List Int} {n : Nat} {t : Int} (h : okL l n = true) (h0 : 0 ≤ t) (h1 : t < (n : Int)) (h2 : ∀ x ∈ l, x < t) : okL (l ++ [t]) n = true := by
  refine okL_of fun i hi => ?_
  rw [List.length_append] at hi
  simp only [List.length_cons, List.length_nil] at hi
  by_cases hl : i < l.length
  · have := List.all_eq_true.1 h i (List.mem_range.2 hl)
    simp only [okAt] at this ⊢
    rw [List.getElem?_append_left hl, List.getElem?_append_left (by omega)]
    exact this
  · obtain rfl : i = l.length := by omega
    simp only [okAt]
    rw [List.getElem?_append_right (Nat.le_refl _), Nat.sub_self]
    simp only [List.getElem?_cons_zero]
    by_cases h3 : l.length = 0
    · simp [h3, h0, h1]
    · obtain ⟨y, hy⟩ := get_lt (l := l) (i := l.length - 1) (by omega)
      rw [List.getElem?_append_left (by omega), hy]
      simp [h0, h1, h2 y (List.mem_of_getElem? hy)]
/-- The first of an order that is among l. -/
def fsO (l : List Int) : List Int → Int
  | [] => -1
  | y :: o => if y ∈ l then y else fsO l o
theorem fs_at {l : List Int} {y : Int} (hy : y ∈ l) : ∀ {o : List Int} {i : Nat}, o[i]? = some y → (∀ (j : Nat) (z : Int), j < i → o[j]? = some z → z ∉ l) → fsO l o = y
  | [], i, h, _ => by simp at h
  | x :: o, 0, h, _ => by
    simp at h; subst h
    rw [fsO, if_pos hy]
  | x :: o, i + 1, h, hb => by
    rw [fsO, if_neg (hb 0 x (by omega) rfl)]
    exact fs_at hy (by simpa using h) fun j z hj hz => hb (j + 1) z (by omega) (by simpa using hz)
theorem fs_no {l : List Int} : ∀ {o : List Int}, (∀ (j : Nat) (z : Int), j < o.length → o[j]? = some z → z ∉ l) → fsO l o = -1
  | [], _ => rfl
  | x :: o, hb => by
    rw [fsO, if_neg (hb 0 x (by simp) rfl)]
    exact fs_no fun j z hj hz => hb (j + 1) z (by simpa using hj) (by simpa using hz)
abbrev wo (l : List Int) (t : Int) : List Int := l.filter fun z => decide (z ≠ t)
theorem wo_t {l : List Int} {t x : Int} {i : Nat} (h : l[i]? = some x) (hx : x ≠ t) : wo (l.take i) t ++ [x] = wo (l.take (i + 1)) t := by
  rw [List.take_add_one, h, wo, wo, List.filter_append]; simp [hx]
theorem wo_f {l : List Int} {t x : Int} {i : Nat} (h : l[i]? = some x) (hx : ¬ x ≠ t) : wo (l.take i) t = wo (l.take (i + 1)) t := by
  have hx : x = t := Classical.byContradiction hx
  rw [List.take_add_one, h, wo, wo, List.filter_append]; simp [hx]
/-- The chosen one stands first. -/
theorem fs_best {rk l o : List Int} {t : Int} (ho : IsOrd rk o) (hl : okL l rk.length = true) (ht : l[bst rk l]? = some t) : fsO l o = t := by
  have hmem : ∀ x ∈ l, x ∈ o := fun x hx => by
    obtain ⟨i, hi⟩ := List.getElem?_of_mem hx
    have := okL_at hl hi
    exact ho.1.mem_iff.2 (rng_mem.2 ⟨this.1, this.2.1⟩)
  have hto := hmem t (List.mem_of_getElem? ht)
  have key : ∀ (q : List Int), q.Pairwise (fun a b => ahd rk a b = true) → t ∈ q → fsO l q = t := by
    intro q
    induction q with
    | nil => intro _ h; cases h
    | cons y q ih =>
      intro hp h
      rw [fsO]
      split
      · rename_i hy
        rcases List.mem_cons.1 h with h | h
        · exact h.symm
        · have h1 := (List.pairwise_cons.1 hp).1 t h
          obtain ⟨j, hj⟩ := List.getElem?_of_mem hy
          have hjl := (List.getElem?_eq_some_iff.1 hj).1
          have h2 := bsN_max rk l l.length j hjl
          have e1 : l.getD j 0 = y := by simp [hj]
          have e2 : l.getD (bst rk l) 0 = t := by simp [ht]
          rw [e1, e2] at h2
          simp only [ahd, Bool.or_eq_true, Bool.and_eq_true, decide_eq_true_eq] at h1
          by_cases hlt : j < bst rk l
          · have := h2.2 hlt; omega
          · by_cases he : j = bst rk l
            · subst he; rw [hj] at ht; cases ht; rfl
            · have := okL_rise hl j (bst rk l) t y (by omega) ht hj
              have := h2.1; omega
      · rename_i hy
        rcases List.mem_cons.1 h with h | h
        · subst h; exact absurd (List.mem_of_getElem? ht) hy
        · exact ih (List.pairwise_cons.1 hp).2 h
  exact key o ho.2 hto
theorem chg_no {d : Int} {chs : List Int} {m t : Int} {rk : List Int} (h : ∀ q : Nat, chs[q]? ≠ some m) : ∀ k, chg d chs m t rk k = rk := by
  intro k
  induction k with
  | zero => rfl
  | succ k ih => rw [chg, if_neg (h k), ih]
theorem chg_ne {d : Int} {chs : List Int} {m t : Int} {rk : List Int} {u : Int} (hu : u.toNat ≠ t.toNat) : ∀ k, (chg d chs m t rk k).getD u.toNat 0 = rk.getD u.toNat 0 := by
  intro k
  induction k with
  | zero => rfl
  | succ k ih =>
    unfold chg
    split
    · rw [← ih]; simp only [List.getD_eq_getElem?_getD]; rw [List.getElem?_set_ne (Ne.symm hu)]
    · exact ih
theorem srt_eq {r : Int → Int → Bool} (ha : ∀ a b, r a b = true → r b a = false) : ∀ (l1 l2 : List Int), l1.Perm l2 → l1.Pairwise (fun a b => r a b = true) → l2.Pairwise (fun a b => r a b = true) → l1 = l2 := by
  intro l1
  induction l1 with
  | nil => intro l2 p _ _; rw [List.Perm.nil_eq p]
  | cons a t ih =>
    intro l2 p h1 h2
    cases l2 with
    | nil => have := p.length_eq; simp at this
    | cons b s =>
      have ha' : a ∈ b :: s := p.mem_iff.1 (by simp)
      have hb : b ∈ a :: t := p.mem_iff.2 (by simp)
      have e : a = b := by
        rcases List.mem_cons.1 ha' with h | h
        · exact h
        · rcases List.mem_cons.1 hb with h' | h'
          · exact h'.symm
          · have k1 := (List.pairwise_cons.1 h2).1 a h
            have k2 := (List.pairwise_cons.1 h1).1 b h'
            rw [ha _ _ k1] at k2; cases k2
      subst e
      rw [ih s (List.Perm.cons_inv p) (List.pairwise_cons.1 h1).2 (List.pairwise_cons.1 h2).2]
/-- All but the moved one stand as they stood. -/
theorem wo_eq {d : Int} {chs : List Int} {m t : Int} {rk o o2 : List Int} {k : Nat} (h1 : IsOrd (chg d chs m t rk k) o2) (h2 : IsOrd rk o) (ht : 0 ≤ t) : wo o2 t = wo o t := by
  have hl := chg_len d chs m t rk k
  refine srt_eq (r := ahd rk) (ahd_ord rk).asym _ _ ?_ ?_ (h2.2.filter _)
  · exact ((by have := h1.1; rw [hl] at this; exact this.trans h2.1.symm : o2.Perm o)).filter _
  · have hp := h1.2.filter (fun z => decide (z ≠ t))
    refine List.Pairwise.imp_of_mem ?_ hp
    intro a b ha hb hab
    have ha2 := List.mem_filter.1 ha
    have hb2 := List.mem_filter.1 hb
    simp only [decide_eq_true_eq] at ha2 hb2
    have ra := rng_mem.1 (h1.1.mem_iff.1 ha2.1)
    have rb := rng_mem.1 (h1.1.mem_iff.1 hb2.1)
    have ea : rkO (chg d chs m t rk k) a = rkO rk a := chg_ne (by omega) k
    have eb : rkO (chg d chs m t rk k) b = rkO rk b := chg_ne (by omega) k
    simp only [ahd, ea, eb] at hab ⊢
    exact hab
theorem within_spec (xs : List Int) (n : Nat) (ao : Option Addr) (m c : Nat) (A : HProp) (hn : 1 ≤ n) (hn2 : n ≤ 1000000) (hm : xs.length = m) (hr : RdS A ao (xs.flatMap encZ)) (hb : m ≤ 1048576) : Spec Try.prog 24 [.slice ao m c, .int .i64 ((n : Nat) : Int)] [A] (fun (r : Option Addr × Nat × List Int) => .slice r.1 r.2.2.length r.2.1) (fun r => okL r.2.2 n = true ∧ r.2.2 ≠ [] ∧ r.2.2.length ≤ n) (fun r => [A, own 1 encZ r.1 r.2.1 r.2.2]) := by
  refine spec_mk (n := 40) Try.func24 rfl rfl rfl ?_
  intro Γ w0
  simp only [argE, List.cons_append, List.nil_append, Nat.zero_add, Nat.reduceAdd]
  refine c_seq ?_
  refine c_plain (.q 0 (.done)) (by kernel_rfl) ?_
  refine q_assign rfl rfl rfl rfl ?_
  refine r_done ?_
  refine k_then_n ?_
  refine c_seq ?_
  refine c_plain (.q 0 (.done)) (by kernel_rfl) ?_
  refine q_assign rfl rfl rfl rfl ?_
  refine r_done ?_
  refine k_then_n ?_
  refine c_seq ?_
  refine c_seq ?_
  refine c_plain (.q 0 (.done)) (by kernel_rfl) ?_
  refine q_assign rfl rfl rfl rfl ?_
  refine r_done ?_
  refine k_then_n ?_
  refine c_block ?_
  refine s_heap (fun _ h => own_nil (sz := 1) (enc := encZ) h) ?_
  refine c_loop2 (α := Nat × List Int × Option Addr × Nat) (fun (x_ : Nat × List Int × Option Addr × Nat) => match x_ with | (t, out, oa, oc) => t ≤ n ∧ (okL out n = true) ∧ (∀ x ∈ out, x < (t : Int)) ∧ (out.length ≤ t)) (fun (x_ : Nat × List Int × Option Addr × Nat) => match x_ with | (t, out, oa, oc) => [(5, .slice oa out.length oc), (6, .int .i64 ((t : Nat) : Int))]) (fun (x_ : Nat × List Int × Option Addr × Nat) => match x_ with | (t, out, oa, oc) => [own 1 encZ oa oc out]) (fun (x_ : Nat × List Int × Option Addr × Nat) => match x_ with | (t, out, oa, oc) => n - t) [0, 1] (er := [(0, _), (1, _)]) rfl (0, [], none, 0) ?_ (by exact ⟨rfl, rfl, trivial⟩) (by (try dsimp only); (try simp only [Nat.add_zero, Nat.zero_add]); (repeat ((with_reducible apply Takes.cons); focus (first | (with_reducible (repeat (first | exact Take.here | apply Take.there)); done) | (repeat (first | exact Take.here | apply Take.there))))); exact Takes.nil) ?_
  · exact ⟨Nat.zero_le _, rfl, fun x h => (by cases h), Nat.le_refl _⟩
  rintro ⟨t, out, oa, oc⟩ ⟨hle_t, hok, hlt2, hol⟩
  try simp only [List.cons_append, List.nil_append]
  refine c_seq ?_
  refine c_seq ?_
  refine c_plain (.q 0 (.q 1 (.q 2 (.done)))) (by kernel_rfl) ?_
  refine q_move rfl rfl rfl rfl ?_
  refine q_move rfl rfl rfl rfl ?_
  refine q_int rfl rfl rfl rfl rfl (b_lss _ _ _ _) ?_
  refine r_done ?_
  refine k_then_n ?_
  refine c_cond_p rfl (fun hlt => ?_) (fun hlt => ?_)
  · skip
    refine c_skip ?_
    refine k_then_n ?_
    refine c_seq ?_
    refine c_block ?_
    refine c_seq ?_
    refine c_plain (.q 0 (.done)) (by kernel_rfl) ?_
    refine q_assign rfl rfl rfl rfl ?_
    refine r_done ?_
    refine k_then_n ?_
    refine c_block ?_
    refine c_loop2 (α := Nat) (fun (i : Nat) => i ≤ m) (fun (i : Nat) => [(5, .slice oa out.length oc), (7, .int .i64 ((i : Nat) : Int))]) (fun (i : Nat) => [own 1 encZ oa oc out]) (fun (i : Nat) => m - i) [0, 1, 6] (er := [(0, _), (1, _), (6, _)]) rfl (0) ?_ (by exact ⟨rfl, rfl, trivial⟩) (by (try dsimp only); (try simp only [Nat.add_zero, Nat.zero_add]); (repeat ((with_reducible apply Takes.cons); focus (first | (with_reducible (repeat (first | exact Take.here | apply Take.there)); done) | (repeat (first | exact Take.here | apply Take.there))))); exact Takes.nil) ?_
    · exact Nat.zero_le _
    rintro i hle_i
    try simp only [List.cons_append, List.nil_append]
    refine c_seq ?_
    refine c_seq ?_
    refine c_plain (.q 0 (.q 1 (.q 2 (.q 3 (.done))))) (by kernel_rfl) ?_
    refine q_move rfl rfl rfl rfl ?_
    refine q_move rfl rfl rfl rfl ?_
    refine q_len rfl rfl rfl rfl Try.underlying53 ?_
    refine q_int rfl rfl rfl rfl rfl (b_lss _ _ _ _) ?_
    refine r_done ?_
    refine k_then_n ?_
    refine c_cond_p rfl (fun hli => ?_) (fun hli => ?_)
    · skip
      refine c_skip ?_
      refine k_then_n ?_
      refine c_seq ?_
      refine c_block ?_
      refine c_seq ?_
      refine c_plain (.q 0 (.q 1 (.q 2 (.q 3 (.q 4 (.q 5 (.q 6 (.q 7 (.q 8 (.q 9 (.q 10 (.q 11 (.done))))))))))))) (by kernel_rfl) ?_
      refine q_move rfl rfl rfl rfl ?_
      refine q_move rfl rfl rfl rfl ?_
      obtain ⟨z, hz⟩ := get_lt (l := xs) (i := i) (by first | omega | (simp; done) | (simp; omega))
      refine q_idxR (sz := 0) (k := i) rfl rfl rfl rfl rfl Try.underlying53 Try.sizeOf3 (hr) hz encZ_len (by first | rfl | omega) (by omega) ?_
      intro ib21 io21 _ hd21
      refine q_load rfl rfl rfl rfl Try.isAgg3 (by with_reducible (repeat (first | exact Take.here | apply Take.there))) (hd21 0 (.int .i64 z) rfl) ?_
      refine q_move rfl rfl rfl rfl ?_
      refine q_int rfl rfl rfl rfl rfl (b_remT _ (by omega)) ?_
      have htm := tm_rng z (m := (n : Int)) (by omega)
      refine q_move rfl rfl rfl rfl ?_
      refine q_int rfl rfl rfl rfl rfl (b_add' _ (by (first | exact fits_i64 (by omega) (by omega) | exact fits_u64 (by omega) (by omega) | exact fits_u32 (by omega) (by omega) | exact fits_u8 (by omega) (by omega)))) ?_
      refine q_move rfl rfl rfl rfl ?_
      refine q_int rfl rfl rfl rfl rfl (b_rem _ (by omega) (by omega)) ?_
      refine q_move rfl rfl rfl rfl ?_
      refine q_int rfl rfl rfl rfl rfl (b_eql _ _ _ _) ?_
      refine r_done ?_
      refine s_keep [0, 1, 5, 6, 7, 30] (e' := [(0, _), (1, _), (5, _), (6, _), (7, _), (30, _)]) rfl ?_
      refine k_then_n ?_
      refine c_cond_p rfl (fun heq => ?_) (fun heq => ?_)
      · skip
        refine c_seq ?_
        refine c_plain (.q 0 (.q 1 ((.l 2 [] ((.l 3 [] (.q 4 (.done)))))))) (by kernel_rfl) ?_
        refine q_move rfl rfl rfl rfl ?_
        refine q_move rfl rfl rfl rfl ?_
        refine l_buildSlice rfl rfl rfl rfl (run_build1 (us := [_]) Try.underlying53 Try.sizeOf3 rfl Try.zeroValue3 rfl rfl rfl) ?_
        intro b33
        refine ag_nil ?_
        refine l_append (sz := 1) (enc := encZ) (xs := out) rfl rfl rfl rfl rfl Try.underlying53 Try.typeInfo3 rfl rfl rfl (by decide) (by with_reducible (repeat (first | exact Take.here | apply Take.there))) (by with_reducible (repeat (first | exact Take.here | apply Take.there))) (by first | rfl | omega | (simp; done) | (simp; omega)) (ys := [((t : Nat) : Int)]) (rds_some rdn_cells) (by rfl) (by first | rfl | omega) (encZ_len) (encZ_one) (by omega) (by show _ * 8 ≤ _; omega) ?_
        intro ao34 cp34
        refine ag_nil ?_
        refine q_assign rfl rfl rfl rfl ?_
        refine r_done ?_
        refine s_keep [0, 1, 5, 6] (e' := [(0, _), (1, _), (5, _), (6, _)]) rfl ?_
        refine k_then_n ?_
        refine c_exit ?_
        refine k_blk_out rfl ?_
        refine k_then_exit ?_
        refine k_then_exit ?_
        refine k_blk_here ?_
        refine k_blk_n ?_
        refine k_then_n ?_
        refine c_plain (.q 0 (.q 1 (.q 2 (.done)))) (by kernel_rfl) ?_
        refine q_move rfl rfl rfl rfl ?_
        refine q_int rfl rfl rfl rfl rfl (b_add' _ (by (first | exact fits_i64 (by omega) (by omega) | exact fits_u64 (by omega) (by omega) | exact fits_u32 (by omega) (by omega) | exact fits_u8 (by omega) (by omega)))) ?_
        refine q_assign rfl rfl rfl rfl ?_
        refine r_done ?_
        refine k_then_n ?_
        refine s_eq 5 rfl (v' := .slice ao34 (out ++ [(t : Int)]).length cp34) (by first | rfl | (congr 1; done) | (congr 1 <;> first | rfl | omega | (simp; done) | (simp; omega))) ?_
        refine loop_next (x := (t, out, oa, oc)) ((t + 1, out ++ [(t : Int)], ao34, cp34)) ?_ ?_ ?_ ?_
        · try dsimp only
          exact ⟨by omega, okL_push hok (by omega) (by omega) hlt2, fun x hx => by
              rcases List.mem_append.1 hx with h | h
              · have := hlt2 x h; omega
              · simp at h; omega, by rw [List.length_append]; simp; omega⟩
        · show n - (t + 1) < n - t; omega
        · exact ⟨rfl, rfl, rfl, rfl, trivial⟩
        · (try simp only [List.cons_append, List.nil_append]); (repeat ((with_reducible apply Takes.cons); focus (first | (with_reducible (repeat (first | exact Take.here | apply Take.there)); done) | (repeat (first | exact Take.here | apply Take.there))))); (repeat (first | exact Takes.nil | exact Takes.self | refine takes_drop2 ?_))
      · skip
        refine c_skip ?_
        refine k_blk_n ?_
        refine k_then_n ?_
        refine c_plain (.q 0 (.q 1 (.q 2 (.done)))) (by kernel_rfl) ?_
        refine q_move rfl rfl rfl rfl ?_
        refine q_int rfl rfl rfl rfl rfl (b_add' _ (by (first | exact fits_i64 (by omega) (by omega) | exact fits_u64 (by omega) (by omega) | exact fits_u32 (by omega) (by omega) | exact fits_u8 (by omega) (by omega)))) ?_
        refine q_assign rfl rfl rfl rfl ?_
        refine r_done ?_
        refine k_then_n ?_
        refine loop_next (x := i) (i + 1) ?_ ?_ ?_ ?_
        · exact by show i + 1 ≤ m; omega
        · show m - (i + 1) < m - i; omega
        · exact ⟨rfl, rfl, rfl, rfl, rfl, trivial⟩
        · (try simp only [List.cons_append, List.nil_append]); (repeat ((with_reducible apply Takes.cons); focus (first | (with_reducible (repeat (first | exact Take.here | apply Take.there)); done) | (repeat (first | exact Take.here | apply Take.there))))); (repeat (first | exact Takes.nil | exact Takes.self | refine takes_drop2 ?_))
    · skip
      refine c_exit ?_
      refine k_then_exit ?_
      refine k_then_exit ?_
      refine k_blk_here ?_
      refine k_blk_n ?_
      refine k_then_n ?_
      refine c_plain (.q 0 (.q 1 (.q 2 (.done)))) (by kernel_rfl) ?_
      refine q_move rfl rfl rfl rfl ?_
      refine q_int rfl rfl rfl rfl rfl (b_add' _ (by (first | exact fits_i64 (by omega) (by omega) | exact fits_u64 (by omega) (by omega) | exact fits_u32 (by omega) (by omega) | exact fits_u8 (by omega) (by omega)))) ?_
      refine q_assign rfl rfl rfl rfl ?_
      refine r_done ?_
      refine s_keep [0, 1, 5, 6] (e' := [(0, _), (1, _), (5, _), (6, _)]) rfl ?_
      refine k_then_n ?_
      refine loop_next (x := (t, out, oa, oc)) ((t + 1, out, oa, oc)) ?_ ?_ ?_ ?_
      · try dsimp only
        exact ⟨by omega, hok, fun x hx => by have := hlt2 x hx; omega, by omega⟩
      · show n - (t + 1) < n - t; omega
      · exact ⟨rfl, rfl, rfl, rfl, trivial⟩
      · (try simp only [List.cons_append, List.nil_append]); (repeat ((with_reducible apply Takes.cons); focus (first | (with_reducible (repeat (first | exact Take.here | apply Take.there)); done) | (repeat (first | exact Take.here | apply Take.there))))); (repeat (first | exact Takes.nil | exact Takes.self | refine takes_drop2 ?_))
  · skip
    refine c_exit ?_
    refine k_then_exit ?_
    refine k_then_exit ?_
    refine k_blk_here ?_
    refine k_then_n ?_
    refine c_seq ?_
    refine c_seq ?_
    refine c_plain (.q 0 (.q 1 (.q 2 (.done)))) (by kernel_rfl) ?_
    refine q_move rfl rfl rfl rfl ?_
    refine q_len rfl rfl rfl rfl Try.underlying53 ?_
    refine q_int rfl rfl rfl rfl rfl (b_eql _ _ _ _) ?_
    refine r_done ?_
    refine s_keep [5, 37] (e' := [(5, _), (37, _)]) rfl ?_
    refine k_then_n ?_
    refine c_cond_p rfl (fun he => ?_) (fun he => ?_)
    · skip
      refine c_seq ?_
      refine c_plain ((.l 0 [] (.q 1 (.done)))) (by kernel_rfl) ?_
      refine l_buildSlice rfl rfl rfl rfl (run_build1 (us := [_]) Try.underlying53 Try.sizeOf3 rfl Try.zeroValue3 rfl rfl rfl) ?_
      intro b38
      refine ag_nil ?_
      refine q_assign rfl rfl rfl rfl ?_
      refine r_done ?_
      refine k_then_n ?_
      refine c_ret ?_
      refine k_then_ret ?_
      refine s_take (A := cells b38 0 [.int .i64 0]) (by with_reducible (repeat (first | exact Take.here | apply Take.there))) ?_
      refine s_heap (fun _ h => own_mk (enc := encZ) (sz := 1) (xs := [0]) (sp := []) (cap := 1) (by decide) rfl h) ?_
      refine ret1 rfl rfl ((some ⟨b38, 0, none⟩, 1, [0])) (by first | rfl | (first | rfl | (congr 1; done) | (congr 1 <;> first | rfl | omega | (simp; done) | (simp; omega)))) (by exact ⟨by simp [okL, okAt]; omega, by simp, by simp; omega⟩) ?_
      (repeat ((with_reducible apply Takes.cons); focus (first | (with_reducible (repeat (first | exact Take.here | apply Take.there)); done) | (repeat (first | exact Take.here | apply Take.there))))); (repeat (first | exact Takes.nil | exact Takes.self | refine takes_drop2 ?_))
    · skip
      have he2 : out ≠ [] := fun e => he (by rw [e]; rfl)
      refine c_skip ?_
      refine k_then_n ?_
      refine c_seq ?_
      refine c_plain (.q 0 (.q 1 (.done))) (by kernel_rfl) ?_
      refine q_move rfl rfl rfl rfl ?_
      refine q_assign rfl rfl rfl rfl ?_
      refine r_done ?_
      refine k_then_n ?_
      refine c_ret ?_
      refine ret1 rfl rfl ((oa, oc, out)) (by first | rfl | (first | rfl | (congr 1; done) | (congr 1 <;> first | rfl | omega | (simp; done) | (simp; omega)))) (by exact ⟨hok, he2, (by show out.length ≤ n; omega)⟩) ?_
      (repeat ((with_reducible apply Takes.cons); focus (first | (with_reducible (repeat (first | exact Take.here | apply Take.there)); done) | (repeat (first | exact Take.here | apply Take.there))))); (repeat (first | exact Takes.nil | exact Takes.self | refine takes_drop2 ?_))

theorem first_spec (xs ys : List Int) (ao bo : Option Addr) (n m c d : Nat) (A : HProp) (hn : xs.length = n) (hr : RdS A ao (xs.flatMap encZ)) (hm : ys.length = m) (hr2 : RdS A bo (ys.flatMap encZ)) (hbb : n ≤ 4000000000000 ∧ m ≤ 4000000000000) : Spec Try.prog 27 [.slice ao n c, .slice bo m d] [A] (fun (_ : Unit) => .int .i64 (fsO ys xs)) (fun _ => True) (fun _ => [A]) := by
  refine spec_mk (n := 32) Try.func27 rfl rfl rfl ?_
  intro Γ w0
  simp only [argE, List.cons_append, List.nil_append, Nat.zero_add, Nat.reduceAdd]
  refine c_seq ?_
  refine c_plain (.q 0 (.done)) (by kernel_rfl) ?_
  refine q_assign rfl rfl rfl rfl ?_
  refine r_done ?_
  refine k_then_n ?_
  refine c_seq ?_
  refine c_seq ?_
  refine c_plain (.q 0 (.done)) (by kernel_rfl) ?_
  refine q_assign rfl rfl rfl rfl ?_
  refine r_done ?_
  refine k_then_n ?_
  refine c_block ?_
  refine c_loop2 (α := Nat) (fun (i : Nat) => i ≤ n ∧ (∀ (j : Nat) (z : Int), j < i → xs[j]? = some z → z ∉ ys)) (fun (i : Nat) => [(5, .int .i64 ((i : Nat) : Int))]) (fun (i : Nat) => []) (fun (i : Nat) => n - i) [0, 1] (er := [(0, _), (1, _)]) rfl (0) ?_ (by exact ⟨rfl, trivial⟩) (by (try dsimp only); (try simp only [Nat.add_zero, Nat.zero_add]); (repeat ((with_reducible apply Takes.cons); focus (first | (with_reducible (repeat (first | exact Take.here | apply Take.there)); done) | (repeat (first | exact Take.here | apply Take.there))))); exact Takes.nil) ?_
  · exact ⟨Nat.zero_le _, fun j z h => by omega⟩
  rintro i ⟨hle_i, hb⟩
  try simp only [List.cons_append, List.nil_append]
  refine c_seq ?_
  refine c_seq ?_
  refine c_plain (.q 0 (.q 1 (.q 2 (.q 3 (.done))))) (by kernel_rfl) ?_
  refine q_move rfl rfl rfl rfl ?_
  refine q_move rfl rfl rfl rfl ?_
  refine q_len rfl rfl rfl rfl Try.underlying53 ?_
  refine q_int rfl rfl rfl rfl rfl (b_lss _ _ _ _) ?_
  refine r_done ?_
  refine k_then_n ?_
  refine c_cond_p rfl (fun hlt => ?_) (fun hlt => ?_)
  · skip
    obtain ⟨x, hx⟩ := get_lt (l := xs) (i := i) (by omega)
    refine c_skip ?_
    refine k_then_n ?_
    refine c_seq ?_
    refine c_block ?_
    refine c_seq ?_
    refine c_plain (.q 0 (.done)) (by kernel_rfl) ?_
    refine q_assign rfl rfl rfl rfl ?_
    refine r_done ?_
    refine s_keep [0, 1, 5, 6] (e' := [(0, _), (1, _), (5, _), (6, _)]) rfl ?_
    refine k_then_n ?_
    refine c_block ?_
    refine c_loop2 (α := Nat) (fun (k : Nat) => k ≤ m ∧ (∀ (q : Nat) (u : Int), q < k → ys[q]? = some u → u ≠ x)) (fun (k : Nat) => [(6, .int .i64 ((k : Nat) : Int))]) (fun (k : Nat) => []) (fun (k : Nat) => m - k) [0, 1, 5] (er := [(0, _), (1, _), (5, _)]) rfl (0) ?_ (by exact ⟨rfl, trivial⟩) (by (try dsimp only); (try simp only [Nat.add_zero, Nat.zero_add]); (repeat ((with_reducible apply Takes.cons); focus (first | (with_reducible (repeat (first | exact Take.here | apply Take.there)); done) | (repeat (first | exact Take.here | apply Take.there))))); exact Takes.nil) ?_
    · exact ⟨Nat.zero_le _, fun q u h => by omega⟩
    rintro k ⟨hle_k, hc⟩
    try simp only [List.cons_append, List.nil_append]
    refine c_seq ?_
    refine c_seq ?_
    refine c_plain (.q 0 (.q 1 (.q 2 (.q 3 (.done))))) (by kernel_rfl) ?_
    refine q_move rfl rfl rfl rfl ?_
    refine q_move rfl rfl rfl rfl ?_
    refine q_len rfl rfl rfl rfl Try.underlying53 ?_
    refine q_int rfl rfl rfl rfl rfl (b_lss _ _ _ _) ?_
    refine r_done ?_
    refine k_then_n ?_
    refine c_cond_p rfl (fun hlk => ?_) (fun hlk => ?_)
    · skip
      refine c_skip ?_
      refine k_then_n ?_
      refine c_seq ?_
      refine c_block ?_
      refine c_seq ?_
      refine c_draw rfl (.q 0 (.q 1 (.q 2 (.q 3 (.q 4 (.q 5 (.q 6 (.q 7 (.q 8 (.done)))))))))) (by kernel_rfl) ?_
      refine q_move rfl rfl rfl rfl ?_
      refine q_move rfl rfl rfl rfl ?_
      refine q_idxR (sz := 0) (k := i) rfl rfl rfl rfl rfl Try.underlying53 Try.sizeOf3 (hr) hx encZ_len (by first | rfl | omega) (by omega) ?_
      intro ib21 io21 _ hd21
      refine q_load rfl rfl rfl rfl Try.isAgg3 (by with_reducible (repeat (first | exact Take.here | apply Take.there))) (hd21 0 (.int .i64 x) rfl) ?_
      refine q_move rfl rfl rfl rfl ?_
      refine q_move rfl rfl rfl rfl ?_
      obtain ⟨y, hy⟩ := get_lt (l := ys) (i := k) (by first | omega | (simp; done) | (simp; omega))
      refine q_idxR (sz := 0) (k := k) rfl rfl rfl rfl rfl Try.underlying53 Try.sizeOf3 (hr2) hy encZ_len (by first | rfl | omega) (by omega) ?_
      intro ib25 io25 _ hd25
      refine q_load rfl rfl rfl rfl Try.isAgg3 (by with_reducible (repeat (first | exact Take.here | apply Take.there))) (hd25 0 (.int .i64 y) rfl) ?_
      refine q_int rfl rfl rfl rfl rfl (b_eql _ _ _ _) ?_
      refine r_done ?_
      refine s_keep [0, 1, 5, 6, 27] (e' := [(0, _), (1, _), (5, _), (6, _), (27, _)]) rfl ?_
      refine k_then_n ?_
      refine c_cond_p rfl (fun hne => ?_) (fun hne => ?_)
      · skip
        subst hne
        refine c_seq ?_
        refine c_plain (.q 0 (.q 1 (.q 2 (.q 3 (.q 4 (.done)))))) (by kernel_rfl) ?_
        refine q_move rfl rfl rfl rfl ?_
        refine q_move rfl rfl rfl rfl ?_
        refine q_idxR (sz := 0) (k := i) rfl rfl rfl rfl rfl Try.underlying53 Try.sizeOf3 (hr) hx encZ_len (by first | rfl | omega) (by omega) ?_
        intro ib30 io30 _ hd30
        refine q_load rfl rfl rfl rfl Try.isAgg3 (by with_reducible (repeat (first | exact Take.here | apply Take.there))) (hd30 0 (.int .i64 x) rfl) ?_
        refine q_assign rfl rfl rfl rfl ?_
        refine r_done ?_
        refine s_keep [4] (e' := [(4, _)]) rfl ?_
        refine k_then_n ?_
        refine c_ret ?_
        refine k_blk_ret ?_
        refine k_then_ret ?_
        refine k_then_ret ?_
        refine k_blk_ret ?_
        refine k_blk_ret ?_
        refine k_then_ret ?_
        refine k_then_ret ?_
        refine k_blk_ret ?_
        refine k_then_ret ?_
        refine ret1 rfl rfl (()) (by congr 1; symm; exact fs_at (List.mem_of_getElem? hy) hx hb) (by trivial) ?_
        (repeat ((with_reducible apply Takes.cons); focus (first | (with_reducible (repeat (first | exact Take.here | apply Take.there)); done) | (repeat (first | exact Take.here | apply Take.there))))); (repeat (first | exact Takes.nil | exact Takes.self | refine takes_drop2 ?_))
      · skip
        refine c_skip ?_
        refine k_blk_n ?_
        refine k_then_n ?_
        refine c_plain (.q 0 (.q 1 (.q 2 (.done)))) (by kernel_rfl) ?_
        refine q_move rfl rfl rfl rfl ?_
        refine q_int rfl rfl rfl rfl rfl (b_add' _ (by (first | exact fits_i64 (by omega) (by omega) | exact fits_u64 (by omega) (by omega) | exact fits_u32 (by omega) (by omega) | exact fits_u8 (by omega) (by omega)))) ?_
        refine q_assign rfl rfl rfl rfl ?_
        refine r_done ?_
        refine k_then_n ?_
        refine loop_next (x := k) (k + 1) ?_ ?_ ?_ ?_
        · exact ⟨by omega, fun q u hq hu => by
              rcases Nat.lt_or_eq_of_le (Nat.le_of_lt_succ hq) with h | h
              · exact hc q u h hu
              · subst h; rw [hy] at hu; cases hu
                exact fun e => hne e.symm⟩
        · show m - (k + 1) < m - k; omega
        · exact ⟨rfl, rfl, rfl, rfl, trivial⟩
        · (try simp only [List.cons_append, List.nil_append]); (repeat ((with_reducible apply Takes.cons); focus (first | (with_reducible (repeat (first | exact Take.here | apply Take.there)); done) | (repeat (first | exact Take.here | apply Take.there))))); (repeat (first | exact Takes.nil | exact Takes.self | refine takes_drop2 ?_))
    · skip
      refine c_exit ?_
      refine k_then_exit ?_
      refine k_then_exit ?_
      refine k_blk_here ?_
      refine k_blk_n ?_
      refine k_then_n ?_
      refine c_plain (.q 0 (.q 1 (.q 2 (.done)))) (by kernel_rfl) ?_
      refine q_move rfl rfl rfl rfl ?_
      refine q_int rfl rfl rfl rfl rfl (b_add' _ (by (first | exact fits_i64 (by omega) (by omega) | exact fits_u64 (by omega) (by omega) | exact fits_u32 (by omega) (by omega) | exact fits_u8 (by omega) (by omega)))) ?_
      refine q_assign rfl rfl rfl rfl ?_
      refine r_done ?_
      refine s_keep [0, 1, 5] (e' := [(0, _), (1, _), (5, _)]) rfl ?_
      refine k_then_n ?_
      refine loop_next (x := i) (i + 1) ?_ ?_ ?_ ?_
      · exact ⟨by omega, fun j z hj hz => by
            rcases Nat.lt_or_eq_of_le (Nat.le_of_lt_succ hj) with h | h
            · exact hb j z h hz
            · subst h; rw [hx] at hz; cases hz
              intro hm2
              obtain ⟨q, hq⟩ := List.getElem?_of_mem hm2
              have := (List.getElem?_eq_some_iff.1 hq).1
              exact hc q x (by omega) hq rfl⟩
      · show n - (i + 1) < n - i; omega
      · exact ⟨rfl, rfl, rfl, trivial⟩
      · (try simp only [List.cons_append, List.nil_append]); (repeat ((with_reducible apply Takes.cons); focus (first | (with_reducible (repeat (first | exact Take.here | apply Take.there)); done) | (repeat (first | exact Take.here | apply Take.there))))); (repeat (first | exact Takes.nil | exact Takes.self | refine takes_drop2 ?_))
  · skip
    refine c_exit ?_
    refine k_then_exit ?_
    refine k_then_exit ?_
    refine k_blk_here ?_
    refine k_then_n ?_
    refine c_seq ?_
    refine c_plain (.q 0 (.done)) (by kernel_rfl) ?_
    refine q_assign rfl rfl rfl rfl ?_
    refine r_done ?_
    refine s_keep [4] (e' := [(4, _)]) rfl ?_
    refine k_then_n ?_
    refine c_ret ?_
    refine ret1 rfl rfl (()) (by congr 1; symm; obtain rfl : i = n := (by omega); exact fs_no (by rw [hn]; exact hb)) (by trivial) ?_
    (repeat ((with_reducible apply Takes.cons); focus (first | (with_reducible (repeat (first | exact Take.here | apply Take.there)); done) | (repeat (first | exact Take.here | apply Take.there))))); (repeat (first | exact Takes.nil | exact Takes.self | refine takes_drop2 ?_))

theorem without_spec (xs : List Int) (t : Int) (ao : Option Addr) (n c : Nat) (A : HProp) (hn : xs.length = n) (hr : RdS A ao (xs.flatMap encZ)) (hb : n ≤ 4000000000) : Spec Try.prog 30 [.slice ao n c, .int .i64 t] [A] (fun (r : Option Addr × Nat) => .slice r.1 (wo xs t).length r.2) (fun r => True) (fun r => [A, own 1 encZ r.1 r.2 (wo xs t)]) := by
  refine spec_mk (n := 27) Try.func30 rfl rfl rfl ?_
  intro Γ w0
  simp only [argE, List.cons_append, List.nil_append, Nat.zero_add, Nat.reduceAdd]
  refine c_seq ?_
  refine c_plain (.q 0 (.done)) (by kernel_rfl) ?_
  refine q_assign rfl rfl rfl rfl ?_
  refine r_done ?_
  refine k_then_n ?_
  refine c_seq ?_
  refine c_plain (.q 0 (.done)) (by kernel_rfl) ?_
  refine q_assign rfl rfl rfl rfl ?_
  refine r_done ?_
  refine k_then_n ?_
  refine c_seq ?_
  refine c_seq ?_
  refine c_plain (.q 0 (.done)) (by kernel_rfl) ?_
  refine q_assign rfl rfl rfl rfl ?_
  refine r_done ?_
  refine k_then_n ?_
  refine c_block ?_
  refine s_heap (fun _ h => own_nil (sz := 1) (enc := encZ) h) ?_
  refine c_loop2 (α := Nat × List Int × Option Addr × Nat) (fun (x_ : Nat × List Int × Option Addr × Nat) => match x_ with | (i, out, oa, oc) => i ≤ n ∧ (out = wo (xs.take i) t)) (fun (x_ : Nat × List Int × Option Addr × Nat) => match x_ with | (i, out, oa, oc) => [(5, .slice oa out.length oc), (6, .int .i64 ((i : Nat) : Int))]) (fun (x_ : Nat × List Int × Option Addr × Nat) => match x_ with | (i, out, oa, oc) => [own 1 encZ oa oc out]) (fun (x_ : Nat × List Int × Option Addr × Nat) => match x_ with | (i, out, oa, oc) => n - i) [0, 1] (er := [(0, _), (1, _)]) rfl (0, [], none, 0) ?_ (by exact ⟨rfl, rfl, trivial⟩) (by (try dsimp only); (try simp only [Nat.add_zero, Nat.zero_add]); (repeat ((with_reducible apply Takes.cons); focus (first | (with_reducible (repeat (first | exact Take.here | apply Take.there)); done) | (repeat (first | exact Take.here | apply Take.there))))); exact Takes.nil) ?_
  · exact ⟨Nat.zero_le _, rfl⟩
  rintro ⟨i, out, oa, oc⟩ ⟨hle_i, hout⟩
  try simp only [List.cons_append, List.nil_append]
  have hol : out.length ≤ n := by rw [hout]; exact Nat.le_trans (List.length_filter_le _ _) (by rw [List.length_take]; omega)
  refine c_seq ?_
  refine c_seq ?_
  refine c_plain (.q 0 (.q 1 (.q 2 (.q 3 (.done))))) (by kernel_rfl) ?_
  refine q_move rfl rfl rfl rfl ?_
  refine q_move rfl rfl rfl rfl ?_
  refine q_len rfl rfl rfl rfl Try.underlying53 ?_
  refine q_int rfl rfl rfl rfl rfl (b_lss _ _ _ _) ?_
  refine r_done ?_
  refine k_then_n ?_
  refine c_cond_p rfl (fun hlt => ?_) (fun hlt => ?_)
  · skip
    refine c_skip ?_
    refine k_then_n ?_
    refine c_seq ?_
    refine c_block ?_
    refine c_seq ?_
    refine c_plain (.q 0 (.q 1 (.q 2 (.q 3 (.q 4 (.q 5 (.done))))))) (by kernel_rfl) ?_
    refine q_move rfl rfl rfl rfl ?_
    refine q_move rfl rfl rfl rfl ?_
    obtain ⟨x, hx⟩ := get_lt (l := xs) (i := i) (by first | omega | (simp; done) | (simp; omega))
    refine q_idxR (sz := 0) (k := i) rfl rfl rfl rfl rfl Try.underlying53 Try.sizeOf3 (hr) hx encZ_len (by first | rfl | omega) (by omega) ?_
    intro ib15 io15 _ hd15
    refine q_load rfl rfl rfl rfl Try.isAgg3 (by with_reducible (repeat (first | exact Take.here | apply Take.there))) (hd15 0 (.int .i64 x) rfl) ?_
    refine q_move rfl rfl rfl rfl ?_
    refine q_int rfl rfl rfl rfl rfl (b_neq _ _ _ _) ?_
    refine r_done ?_
    refine s_keep [0, 1, 5, 6, 18] (e' := [(0, _), (1, _), (5, _), (6, _), (18, _)]) rfl ?_
    refine k_then_n ?_
    refine c_cond_p rfl (fun hxt => ?_) (fun hxt => ?_)
    · skip
      refine c_plain (.q 0 (.q 1 (.q 2 (.q 3 (.q 4 ((.l 5 [] ((.l 6 [] (.q 7 (.done))))))))))) (by kernel_rfl) ?_
      refine q_move rfl rfl rfl rfl ?_
      refine q_move rfl rfl rfl rfl ?_
      refine q_move rfl rfl rfl rfl ?_
      refine q_idxR (sz := 0) (k := i) rfl rfl rfl rfl rfl Try.underlying53 Try.sizeOf3 (hr) hx encZ_len (by first | rfl | omega) (by omega) ?_
      intro ib22 io22 _ hd22
      refine q_load rfl rfl rfl rfl Try.isAgg3 (by with_reducible (repeat (first | exact Take.here | apply Take.there))) (hd22 0 (.int .i64 x) rfl) ?_
      refine l_buildSlice rfl rfl rfl rfl (run_build1 (us := [_]) Try.underlying53 Try.sizeOf3 rfl Try.zeroValue3 rfl rfl rfl) ?_
      intro b24
      refine ag_nil ?_
      refine l_append (sz := 1) (enc := encZ) (xs := out) rfl rfl rfl rfl rfl Try.underlying53 Try.typeInfo3 rfl rfl rfl (by decide) (by with_reducible (repeat (first | exact Take.here | apply Take.there))) (by with_reducible (repeat (first | exact Take.here | apply Take.there))) (by first | rfl | omega | (simp; done) | (simp; omega)) (ys := [x]) (rds_some rdn_cells) (by rfl) (by first | rfl | omega) (encZ_len) (encZ_one) (by omega) (by show _ * 8 ≤ _; omega) ?_
      intro ao25 cp25
      refine ag_nil ?_
      refine q_assign rfl rfl rfl rfl ?_
      refine r_done ?_
      refine s_keep [0, 1, 5, 6] (e' := [(0, _), (1, _), (5, _), (6, _)]) rfl ?_
      refine k_blk_n ?_
      refine k_then_n ?_
      refine c_plain (.q 0 (.q 1 (.q 2 (.done)))) (by kernel_rfl) ?_
      refine q_move rfl rfl rfl rfl ?_
      refine q_int rfl rfl rfl rfl rfl (b_add' _ (by (first | exact fits_i64 (by omega) (by omega) | exact fits_u64 (by omega) (by omega) | exact fits_u32 (by omega) (by omega) | exact fits_u8 (by omega) (by omega)))) ?_
      refine q_assign rfl rfl rfl rfl ?_
      refine r_done ?_
      refine k_then_n ?_
      refine s_eq 5 rfl (v' := .slice ao25 (out ++ [x]).length cp25) (by first | rfl | (congr 1; done) | (congr 1 <;> first | rfl | omega | (simp; done) | (simp; omega))) ?_
      refine loop_next (x := (i, out, oa, oc)) ((i + 1, out ++ [x], ao25, cp25)) ?_ ?_ ?_ ?_
      · try dsimp only
        exact ⟨by omega, by rw [hout]; exact wo_t hx hxt⟩
      · show n - (i + 1) < n - i; omega
      · exact ⟨rfl, rfl, rfl, rfl, trivial⟩
      · (try simp only [List.cons_append, List.nil_append]); (repeat ((with_reducible apply Takes.cons); focus (first | (with_reducible (repeat (first | exact Take.here | apply Take.there)); done) | (repeat (first | exact Take.here | apply Take.there))))); (repeat (first | exact Takes.nil | exact Takes.self | refine takes_drop2 ?_))
    · skip
      refine c_skip ?_
      refine k_blk_n ?_
      refine k_then_n ?_
      refine c_plain (.q 0 (.q 1 (.q 2 (.done)))) (by kernel_rfl) ?_
      refine q_move rfl rfl rfl rfl ?_
      refine q_int rfl rfl rfl rfl rfl (b_add' _ (by (first | exact fits_i64 (by omega) (by omega) | exact fits_u64 (by omega) (by omega) | exact fits_u32 (by omega) (by omega) | exact fits_u8 (by omega) (by omega)))) ?_
      refine q_assign rfl rfl rfl rfl ?_
      refine r_done ?_
      refine k_then_n ?_
      refine loop_next (x := (i, out, oa, oc)) ((i + 1, out, oa, oc)) ?_ ?_ ?_ ?_
      · try dsimp only
        exact ⟨by omega, by rw [hout]; exact wo_f hx hxt⟩
      · show n - (i + 1) < n - i; omega
      · exact ⟨rfl, rfl, rfl, rfl, trivial⟩
      · (try simp only [List.cons_append, List.nil_append]); (repeat ((with_reducible apply Takes.cons); focus (first | (with_reducible (repeat (first | exact Take.here | apply Take.there)); done) | (repeat (first | exact Take.here | apply Take.there))))); (repeat (first | exact Takes.nil | exact Takes.self | refine takes_drop2 ?_))
  · skip
    refine c_exit ?_
    refine k_then_exit ?_
    refine k_then_exit ?_
    refine k_blk_here ?_
    refine k_then_n ?_
    refine c_seq ?_
    refine c_plain (.q 0 (.q 1 (.done))) (by kernel_rfl) ?_
    refine q_move rfl rfl rfl rfl ?_
    refine q_assign rfl rfl rfl rfl ?_
    refine r_done ?_
    refine s_keep [4] (e' := [(4, _)]) rfl ?_
    refine k_then_n ?_
    refine c_ret ?_
    obtain rfl : i = n := by omega
    rw [List.take_of_length_le (by omega)] at hout
    subst hout
    refine ret1 rfl rfl ((oa, oc)) (by first | rfl | (first | rfl | (congr 1; done) | (congr 1 <;> first | rfl | omega | (simp; done) | (simp; omega)))) (by trivial) ?_
    (repeat ((with_reducible apply Takes.cons); focus (first | (with_reducible (repeat (first | exact Take.here | apply Take.there)); done) | (repeat (first | exact Take.here | apply Take.there))))); (repeat (first | exact Takes.nil | exact Takes.self | refine takes_drop2 ?_))

theorem firstlaw_spec (s th d st : Int) (L : List (LstA Int)) (bo : Option Addr) (k c : Nat) (A : HProp) (hr : RdS A bo (L.flatMap encHZ)) (hk : L.length = k) (hc : ∀ x ∈ L, RdS A x.1 (x.2.2.flatMap encZ)) (hb : k ≤ 1048576) (hb2 : ∀ x ∈ L, x.2.2.length ≤ 1048576) : Spec Try.prog 8 [.agg #[.int .u64 s, .int .i64 th, .int .i64 d, .int .i64 st], .slice bo k c] [A] (fun (_ : Unit) => .bool true) (fun _ => True) (fun _ => [A]) := by
  refine spec_mk (n := 168) Try.func8 rfl rfl rfl ?_
  intro Γ w0
  simp only [argE, List.cons_append, List.nil_append, Nat.zero_add, Nat.reduceAdd]
  refine c_seq ?_
  refine c_plain ((.l 0 [] (.q 1 (.done)))) (by kernel_rfl) ?_
  refine l_box rfl rfl rfl rfl (us := [_, _, _, _]) rfl ?_
  intro b2
  refine ag_nil ?_
  refine q_assign rfl rfl rfl rfl ?_
  refine r_done ?_
  refine k_then_n ?_
  refine c_seq ?_
  refine c_plain (.q 0 (.q 1 (.q 2 (.q 3 (.q 4 (.q 5 (.q 6 ((.l 7 [] (.done)))))))))) (by kernel_rfl) ?_
  refine q_field (k := 1) rfl rfl rfl rfl Try.underlying48 rfl Try.sizeOf3 rfl ?_
  refine q_load_c (j := 1) rfl rfl rfl rfl Try.isAgg3 (by with_reducible (repeat (first | exact Take.here | apply Take.there))) (by first | rfl | exact (Nat.add_zero _).symm) (by rfl) ?_
  refine q_int rfl rfl rfl rfl rfl (b_remT _ (by decide)) ?_
  have htm_th := tm_rng th (m := 40) (by decide)
  refine q_int rfl rfl rfl rfl rfl (b_add' _ (by (first | exact fits_i64 (by omega) (by omega) | exact fits_u64 (by omega) (by omega) | exact fits_u32 (by omega) (by omega) | exact fits_u8 (by omega) (by omega)))) ?_
  refine q_int rfl rfl rfl rfl rfl (b_rem _ (by omega) (by omega)) ?_
  obtain ⟨n, hn⟩ := Int.eq_ofNat_of_zero_le (show 0 ≤ 1 + (Int.tmod th 40 + 40) % 40 by omega)
  have hn1 : 1 ≤ n ∧ n ≤ 40 := by omega
  refine q_int rfl rfl rfl rfl rfl (b_add' _ (by (first | exact fits_i64 (by omega) (by omega) | exact fits_u64 (by omega) (by omega) | exact fits_u32 (by omega) (by omega) | exact fits_u8 (by omega) (by omega)))) ?_
  refine s_eq 20 rfl (v' := .int .i64 ((n : Nat) : Int)) (by rw [hn]) ?_
  refine q_field (k := 1) rfl rfl rfl rfl Try.underlying48 rfl Try.sizeOf3 rfl ?_
  refine l_store (j := 1) rfl rfl rfl rfl Try.sizeOf3 (us := [_]) rfl rfl rfl (by with_reducible (repeat (first | exact Take.here | apply Take.there))) (by first | rfl | exact (Nat.add_zero _).symm) (by first | decide | (simp; done) | omega) ?_
  simp only [setL, List.set]
  refine ag_nil ?_
  refine r_done ?_
  refine s_keep [1, 2] (e' := [(1, _), (2, _)]) rfl ?_
  refine k_then_n ?_
  refine c_seq ?_
  refine c_plain (.q 0 (.q 1 (.q 2 (.q 3 (.q 4 (.q 5 (.q 6 ((.l 7 [] (.done)))))))))) (by kernel_rfl) ?_
  refine q_field (k := 2) rfl rfl rfl rfl Try.underlying48 rfl Try.sizeOf3 rfl ?_
  refine q_load_c (j := 2) rfl rfl rfl rfl Try.isAgg3 (by with_reducible (repeat (first | exact Take.here | apply Take.there))) (by first | rfl | exact (Nat.add_zero _).symm) (by rfl) ?_
  refine q_int rfl rfl rfl rfl rfl (b_remT _ (by decide)) ?_
  have htm_d := tm_rng d (m := 64) (by decide)
  refine q_int rfl rfl rfl rfl rfl (b_add' _ (by (first | exact fits_i64 (by omega) (by omega) | exact fits_u64 (by omega) (by omega) | exact fits_u32 (by omega) (by omega) | exact fits_u8 (by omega) (by omega)))) ?_
  refine q_int rfl rfl rfl rfl rfl (b_rem _ (by omega) (by omega)) ?_
  obtain ⟨dd, hdd⟩ : ∃ z, z = 1 + (Int.tmod d 64 + 64) % 64 := ⟨_, rfl⟩
  have hdd1 : 1 ≤ dd ∧ dd ≤ 64 := by omega
  refine q_int rfl rfl rfl rfl rfl (b_add' _ (by (first | exact fits_i64 (by omega) (by omega) | exact fits_u64 (by omega) (by omega) | exact fits_u32 (by omega) (by omega) | exact fits_u8 (by omega) (by omega)))) ?_
  refine s_eq 27 rfl (v' := .int .i64 dd) (by rw [hdd]) ?_
  refine q_field (k := 2) rfl rfl rfl rfl Try.underlying48 rfl Try.sizeOf3 rfl ?_
  refine l_store (j := 2) rfl rfl rfl rfl Try.sizeOf3 (us := [_]) rfl rfl rfl (by with_reducible (repeat (first | exact Take.here | apply Take.there))) (by first | rfl | exact (Nat.add_zero _).symm) (by first | decide | (simp; done) | omega) ?_
  simp only [setL, List.set]
  refine ag_nil ?_
  refine r_done ?_
  refine s_keep [1, 2] (e' := [(1, _), (2, _)]) rfl ?_
  refine k_then_n ?_
  refine c_seq ?_
  refine c_plain (.q 0 (.q 1 (.q 2 (.q 3 (.q 4 (.q 5 (.q 6 ((.l 7 [] (.done)))))))))) (by kernel_rfl) ?_
  refine q_field (k := 3) rfl rfl rfl rfl Try.underlying48 rfl Try.sizeOf3 rfl ?_
  refine q_load_c (j := 3) rfl rfl rfl rfl Try.isAgg3 (by with_reducible (repeat (first | exact Take.here | apply Take.there))) (by first | rfl | exact (Nat.add_zero _).symm) (by rfl) ?_
  refine q_int rfl rfl rfl rfl rfl (b_remT _ (by decide)) ?_
  have htm_st := tm_rng st (m := 200) (by decide)
  refine q_int rfl rfl rfl rfl rfl (b_add' _ (by (first | exact fits_i64 (by omega) (by omega) | exact fits_u64 (by omega) (by omega) | exact fits_u32 (by omega) (by omega) | exact fits_u8 (by omega) (by omega)))) ?_
  refine q_int rfl rfl rfl rfl rfl (b_rem _ (by omega) (by omega)) ?_
  obtain ⟨ss, hss⟩ : ∃ z, z = 1 + (Int.tmod st 200 + 200) % 200 := ⟨_, rfl⟩
  have hss1 : 1 ≤ ss ∧ ss ≤ 200 := by omega
  refine q_int rfl rfl rfl rfl rfl (b_add' _ (by (first | exact fits_i64 (by omega) (by omega) | exact fits_u64 (by omega) (by omega) | exact fits_u32 (by omega) (by omega) | exact fits_u8 (by omega) (by omega)))) ?_
  refine s_eq 34 rfl (v' := .int .i64 ss) (by rw [hss]) ?_
  refine q_field (k := 3) rfl rfl rfl rfl Try.underlying48 rfl Try.sizeOf3 rfl ?_
  refine l_store (j := 3) rfl rfl rfl rfl Try.sizeOf3 (us := [_]) rfl rfl rfl (by with_reducible (repeat (first | exact Take.here | apply Take.there))) (by first | rfl | exact (Nat.add_zero _).symm) (by first | decide | (simp; done) | omega) ?_
  simp only [setL, List.set]
  refine ag_nil ?_
  refine r_done ?_
  refine s_keep [1, 2] (e' := [(1, _), (2, _)]) rfl ?_
  refine k_then_n ?_
  refine c_seq ?_
  have hok : OkN (n : Int) dd ss := ⟨by omega, by omega, by omega, by omega, by omega, by omega⟩
  refine c_plain (.q 0 (.q 1 (.q 2 (.q 3 (.q 4 (.q 5 (.q 6 (.q 7 ((.l 8 [] (.q 9 (.q 10 (.q 11 (.q 12 (.q 13 (.done)))))))))))))))) (by kernel_rfl) ?_
  refine q_field (k := 0) rfl rfl rfl rfl Try.underlying48 rfl Try.sizeOf34 rfl ?_
  refine q_load_c (j := 0) rfl rfl rfl rfl Try.isAgg34 (by with_reducible (repeat (first | exact Take.here | apply Take.there))) (by first | rfl | exact (Nat.add_zero _).symm) (by rfl) ?_
  refine q_field (k := 1) rfl rfl rfl rfl Try.underlying48 rfl Try.sizeOf3 rfl ?_
  refine q_load_c (j := 1) rfl rfl rfl rfl Try.isAgg3 (by with_reducible (repeat (first | exact Take.here | apply Take.there))) (by first | rfl | exact (Nat.add_zero _).symm) (by rfl) ?_
  refine q_field (k := 2) rfl rfl rfl rfl Try.underlying48 rfl Try.sizeOf3 rfl ?_
  refine q_load_c (j := 2) rfl rfl rfl rfl Try.isAgg3 (by with_reducible (repeat (first | exact Take.here | apply Take.there))) (by first | rfl | exact (Nat.add_zero _).symm) (by rfl) ?_
  refine q_field (k := 3) rfl rfl rfl rfl Try.underlying48 rfl Try.sizeOf3 rfl ?_
  refine q_load_c (j := 3) rfl rfl rfl rfl Try.isAgg3 (by with_reducible (repeat (first | exact Take.here | apply Take.there))) (by first | rfl | exact (Nat.add_zero _).symm) (by rfl) ?_
  have sp_1 := new_spec s n dd ss hok
  refine l_call rfl rfl rfl rfl rfl rfl Try.call22 (sp_1) (by (repeat ((with_reducible apply Takes.cons); focus (first | (with_reducible (repeat (first | exact Take.here | apply Take.there)); done) | (repeat (first | exact Take.here | apply Take.there))))); exact Takes.nil) ?_
  rintro bc -
  obtain ⟨x0, hx0e⟩ : ∃ x, x = newX s n dd ss := ⟨_, rfl⟩
  rw [← hx0e]
  have hx0 : CInv x0 := by rw [hx0e]; exact new_inv hok
  have hx0l : x0.rk.length = n := by rw [hx0e]; show (rks _ _ _).length = n; rw [rks_len, shN_len]
  have hx0m : x0.m = 0 := by rw [hx0e]; rfl
  have hx0d : x0.d = dd := by rw [hx0e]; rfl
  have hx0c := hx0.ok.c
  try simp only [List.cons_append, List.nil_append]
  refine ag_nil ?_
  refine q_move rfl rfl rfl rfl ?_
  refine q_extract rfl rfl rfl rfl rfl ?_
  refine q_extract rfl rfl rfl rfl rfl ?_
  refine q_assign rfl rfl rfl rfl ?_
  refine q_assign rfl rfl rfl rfl ?_
  refine r_done ?_
  refine s_keep [1, 2, 5, 6] (e' := [(1, _), (2, _), (5, _), (6, _)]) rfl ?_
  refine k_then_n ?_
  refine c_seq ?_
  refine c_seq ?_
  refine c_draw rfl (.q 0 (.q 1 (.q 2 (.q 3 (.q 4 (.q 5 (.q 6 (.q 7 (.q 10 (.q 11 (.q 12 ((.l 8 [11] (.q 9 (.q 13 (.q 14 (.done))))))))))))))))) (by kernel_rfl) ?_
  refine q_move rfl rfl rfl rfl ?_
  refine q_eq_nil rfl rfl rfl rfl Try.underlying50 ?_
  refine s_eq 49 rfl (v' := .bool false) rfl ?_
  refine q_move rfl rfl rfl rfl ?_
  refine q_move rfl rfl rfl rfl ?_
  refine q_int rfl rfl rfl rfl rfl (b_neq _ _ _ _) ?_
  refine q_pick_f rfl rfl rfl rfl rfl ?_
  refine q_move rfl rfl rfl rfl ?_
  refine s_bool_p 54 rfl (fun hg => by exfalso; first | exact hg rfl | exact hg trivial | simp at hg) (fun hg => ?_)
  refine q_move rfl rfl rfl rfl ?_
  refine q_field (k := 2) rfl rfl rfl rfl Try.underlying48 rfl Try.sizeOf3 rfl ?_
  refine q_load_c (j := 2) rfl rfl rfl rfl Try.isAgg3 (by with_reducible (repeat (first | exact Take.here | apply Take.there))) (by first | rfl | exact (Nat.add_zero _).symm) (by rfl) ?_
  refine q_int rfl rfl rfl rfl rfl (b_sub' _ (by (first | exact fits_i64 (by omega) (by omega) | exact fits_u64 (by omega) (by omega) | exact fits_u32 (by omega) (by omega) | exact fits_u8 (by omega) (by omega)))) ?_
  have sp_2 := changes_spec bc x0 hx0.ok
  refine l_call rfl rfl rfl rfl rfl rfl Try.call23 (sp_2) (by (repeat ((with_reducible apply Takes.cons); focus (first | (with_reducible (repeat (first | exact Take.here | apply Take.there)); done) | (repeat (first | exact Take.here | apply Take.there))))); exact Takes.nil) ?_
  rintro ⟨caa, cac⟩ -
  try simp only [List.cons_append, List.nil_append]
  refine ag_load_c (q := 2) rfl rfl rfl Try.isAgg3 (by with_reducible (repeat (first | exact Take.here | apply Take.there))) (by first | rfl | exact (Nat.add_zero _).symm) (by rfl) ?_
  refine ag_nil ?_
  refine q_len rfl rfl rfl rfl Try.underlying53 ?_
  refine q_int rfl rfl rfl rfl rfl (b_neq _ _ _ _) ?_
  refine q_pick_f rfl rfl rfl rfl rfl ?_
  refine r_done ?_
  refine s_keep [1, 2, 5, 62] (e' := [(1, _), (2, _), (5, _), (62, _)]) rfl ?_
  refine k_then_n ?_
  refine c_cond_p rfl (fun hg => by exfalso; omega) (fun hg => ?_)
  refine c_skip ?_
  refine k_then_n ?_
  refine c_seq ?_
  refine c_plain (.q 0 ((.l 1 [] (.q 2 (.done))))) (by kernel_rfl) ?_
  refine q_move rfl rfl rfl rfl ?_
  have sp_3 := changes_spec bc x0 hx0.ok
  refine l_call rfl rfl rfl rfl rfl rfl Try.call23 (sp_3) (by (repeat ((with_reducible apply Takes.cons); focus (first | (with_reducible (repeat (first | exact Take.here | apply Take.there)); done) | (repeat (first | exact Take.here | apply Take.there))))); exact Takes.nil) ?_
  rintro ⟨cba, cbc⟩ -
  try simp only [List.cons_append, List.nil_append]
  refine ag_nil ?_
  refine q_assign rfl rfl rfl rfl ?_
  refine r_done ?_
  refine k_then_n ?_
  refine c_seq ?_
  refine c_seq ?_
  refine c_plain (.q 0 (.done)) (by kernel_rfl) ?_
  refine q_assign rfl rfl rfl rfl ?_
  refine r_done ?_
  refine k_then_n ?_
  refine c_block ?_
  refine c_loop2 (α := Nat × Chs) (fun (x_ : Nat × Chs) => match x_ with | (i, x) => i ≤ k ∧ (CInv x) ∧ (x.rk.length = n) ∧ (x.m = (i : Int)) ∧ (x.chs = x0.chs)) (fun (x_ : Nat × Chs) => match x_ with | (i, x) => [(8, .int .i64 ((i : Nat) : Int))]) (fun (x_ : Nat × Chs) => match x_ with | (i, x) => [ch bc x]) (fun (x_ : Nat × Chs) => match x_ with | (i, x) => k - i) [1, 2, 5, 7] (er := [(1, _), (2, _), (5, _), (7, _)]) rfl (0, x0) ?_ (by exact ⟨rfl, trivial⟩) (by (try dsimp only); (try simp only [Nat.add_zero, Nat.zero_add]); (repeat ((with_reducible apply Takes.cons); focus (first | (with_reducible (repeat (first | exact Take.here | apply Take.there)); done) | (repeat (first | exact Take.here | apply Take.there))))); exact Takes.nil) ?_
  · exact ⟨Nat.zero_le _, hx0, hx0l, hx0m, rfl⟩
  rintro ⟨i, x⟩ ⟨hle_i, hx, hxl, hxm, hxc⟩
  try simp only [List.cons_append, List.nil_append]
  refine c_seq ?_
  refine c_seq ?_
  refine c_plain (.q 0 (.q 1 (.q 2 (.q 3 (.done))))) (by kernel_rfl) ?_
  refine q_move rfl rfl rfl rfl ?_
  refine q_move rfl rfl rfl rfl ?_
  refine q_len rfl rfl rfl rfl Try.underlying49 ?_
  refine q_int rfl rfl rfl rfl rfl (b_lss _ _ _ _) ?_
  refine r_done ?_
  refine k_then_n ?_
  refine c_cond_p rfl (fun hlt => ?_) (fun hlt => ?_)
  · skip
    refine c_skip ?_
    refine k_then_n ?_
    refine c_seq ?_
    refine c_block ?_
    refine c_seq ?_
    refine c_draw rfl (.q 0 (.q 1 (.q 2 (.q 3 (.q 4 (.q 5 ((.l 6 [] (.q 7 (.done)))))))))) (by kernel_rfl) ?_
    refine q_move rfl rfl rfl rfl ?_
    refine q_move rfl rfl rfl rfl ?_
    obtain ⟨g_, hg_⟩ := get_lt (l := L) (i := i) (by first | omega | (simp; done) | (simp; omega))
    have hgb := hb2 _ (List.mem_of_getElem? hg_)
    refine q_idxR (sz := 0) (k := i) rfl rfl rfl rfl rfl Try.underlying49 Try.sizeOf53 (hr) hg_ encHZ_len (by first | rfl | omega) (by omega) ?_
    intro ib73 io73 _ hd73
    refine q_load rfl rfl rfl rfl Try.isAgg53 (by with_reducible (repeat (first | exact Take.here | apply Take.there))) (hd73 0 (.slice g_.1 g_.2.2.length g_.2.1) rfl) ?_
    refine q_field (k := 1) rfl rfl rfl rfl Try.underlying48 rfl Try.sizeOf3 rfl ?_
    refine q_load_c (j := 1) rfl rfl rfl rfl Try.isAgg3 (by with_reducible (repeat (first | exact Take.here | apply Take.there))) (by first | rfl | exact (Nat.add_zero _).symm) (by rfl) ?_
    have sp_4 := within_spec g_.2.2 n g_.1 g_.2.2.length g_.2.1 A hn1.1 (by omega) rfl (hc _ (List.mem_of_getElem? hg_)) hgb
    refine l_call rfl rfl rfl rfl rfl rfl Try.call24 (sp_4) (by (repeat ((with_reducible apply Takes.cons); focus (first | (with_reducible (repeat (first | exact Take.here | apply Take.there)); done) | (repeat (first | exact Take.here | apply Take.there))))); exact Takes.nil) ?_
    rintro ⟨wa, wc, l⟩ ⟨hl1, hl2, hl3⟩
    simp only at hl1 hl2 hl3
    have hl0 : 0 < l.length := List.length_pos_iff.2 hl2
    try simp only [List.cons_append, List.nil_append]
    refine ag_nil ?_
    refine q_assign rfl rfl rfl rfl ?_
    refine r_done ?_
    refine s_keep [1, 2, 5, 7, 8, 9] (e' := [(1, _), (2, _), (5, _), (7, _), (8, _), (9, _)]) rfl ?_
    refine k_then_n ?_
    refine c_seq ?_
    refine c_plain (.q 0 ((.l 1 [] (.q 2 (.done))))) (by kernel_rfl) ?_
    refine q_move rfl rfl rfl rfl ?_
    have sp_5 := order_spec bc x hx.ok
    refine l_call rfl rfl rfl rfl rfl rfl Try.call25 (sp_5) (by (repeat ((with_reducible apply Takes.cons); focus (first | (with_reducible (repeat (first | exact Take.here | apply Take.there)); done) | (repeat (first | exact Take.here | apply Take.there))))); exact Takes.nil) ?_
    rintro ⟨oa, oc, o⟩ ho
    simp only at ho
    have hol := ord_len ho
    try simp only [List.cons_append, List.nil_append]
    refine ag_nil ?_
    refine q_assign rfl rfl rfl rfl ?_
    refine r_done ?_
    refine k_then_n ?_
    refine c_seq ?_
    refine c_seq ?_
    refine c_plain (.q 0 (.q 1 (.q 2 (.q 3 (.q 4 (.q 5 (.q 6 (.q 7 (.q 8 (.q 9 (.done))))))))))) (by kernel_rfl) ?_
    refine q_move rfl rfl rfl rfl ?_
    refine q_len rfl rfl rfl rfl Try.underlying53 ?_
    refine q_int rfl rfl rfl rfl rfl (b_eql _ _ _ _) ?_
    refine q_move rfl rfl rfl rfl ?_
    refine s_bool_p 83 rfl (fun hg => by exfalso; omega) (fun hg => ?_)
    refine q_move rfl rfl rfl rfl ?_
    refine q_len rfl rfl rfl rfl Try.underlying53 ?_
    refine q_field (k := 1) rfl rfl rfl rfl Try.underlying48 rfl Try.sizeOf3 rfl ?_
    refine q_load_c (j := 1) rfl rfl rfl rfl Try.isAgg3 (by with_reducible (repeat (first | exact Take.here | apply Take.there))) (by first | rfl | exact (Nat.add_zero _).symm) (by rfl) ?_
    refine q_int rfl rfl rfl rfl rfl (b_neq _ _ _ _) ?_
    refine q_pick_f rfl rfl rfl rfl rfl ?_
    refine r_done ?_
    refine s_keep [1, 2, 5, 7, 8, 9, 10, 84, 85, 86, 87, 88, 89] (e' := [(1, _), (2, _), (5, _), (7, _), (8, _), (9, _), (10, _), (84, _), (85, _), (86, _), (87, _), (88, _), (89, _)]) rfl ?_
    refine k_then_n ?_
    refine c_cond_p rfl (fun hg => by exfalso; omega) (fun hg => ?_)
    refine c_skip ?_
    refine k_then_n ?_
    refine c_seq ?_
    refine c_plain (.q 0 (.q 1 ((.l 2 [] (.q 3 (.q 4 (.q 5 (.q 6 (.q 7 (.done)))))))))) (by kernel_rfl) ?_
    refine q_move rfl rfl rfl rfl ?_
    refine q_move rfl rfl rfl rfl ?_
    refine s_take (A := own 1 encZ wa wc l) (by with_reducible (repeat (first | exact Take.here | apply Take.there))) ?_
    refine own_fc fun hp1 hp2 hp3 => ?_
    have hgd : goodL x l = true := by rw [goodL, hxl, hl1]; cases l with | nil => exact absurd rfl hl2 | cons _ _ => rfl
    obtain ⟨p, hp⟩ : ∃ p, p = bst x.rk l := ⟨_, rfl⟩
    have hpl : p < l.length := by rw [hp]; exact bsN_lt _ _ _ hl0
    obtain ⟨t, ht⟩ := get_lt hpl
    have htr := okL_at hl1 ht
    have sp_6 := choose_spec bc x hx.ok (by omega) l wa l.length wc (own 1 encZ wa wc l) rfl (rds_own encZ_len (fun h => (hp2 h).1) hp3) (by omega)
    refine l_call rfl rfl rfl rfl rfl rfl Try.call26 (sp_6) (by (repeat ((with_reducible apply Takes.cons); focus (first | (with_reducible (repeat (first | exact Take.here | apply Take.there)); done) | (repeat (first | exact Take.here | apply Take.there))))); exact Takes.nil) ?_
    rintro ⟨⟩ -
    rw [show chzK x l = ((p : Nat) : Int) from by rw [chzK, if_pos hgd, hp], show chzE x l = 0 from by rw [chzE, if_pos hgd]]
    obtain ⟨y, hy⟩ : ∃ y, y = chzX x l := ⟨_, rfl⟩
    rw [← hy]
    have hyi : CInv y := by rw [hy]; exact chz_inv hx l
    have hy2 : y = ⟨x.d, chg x.d x.chs (x.m + 1) t x.rk x.chs.length, x.chs, x.m + 1⟩ := by rw [hy, chzX, if_pos hgd, ← hp, show l.getD p 0 = t from by simp [ht]]
    have hym : y.m = (i : Int) + 1 := by rw [hy2]; show x.m + 1 = _; rw [hxm]
    have hyl : y.rk.length = n := by rw [hy2]; show (chg _ _ _ _ _ _).length = n; rw [chg_len, hxl]
    have hyc : y.chs = x0.chs := by rw [hy2]; exact hxc
    have hfs : fsO l o = t := fs_best ho (by rw [hxl]; exact hl1) (by rw [← hp]; exact ht)
    try simp only [List.cons_append, List.nil_append]
    refine ag_nil ?_
    refine q_move rfl rfl rfl rfl ?_
    refine q_extract rfl rfl rfl rfl rfl ?_
    refine q_extract rfl rfl rfl rfl rfl ?_
    refine q_assign rfl rfl rfl rfl ?_
    refine q_assign rfl rfl rfl rfl ?_
    refine r_done ?_
    refine s_keep [1, 2, 5, 7, 8, 9, 10, 11, 12, 84, 85, 86, 87, 88] (e' := [(1, _), (2, _), (5, _), (7, _), (8, _), (9, _), (10, _), (11, _), (12, _), (84, _), (85, _), (86, _), (87, _), (88, _)]) rfl ?_
    refine k_then_n ?_
    refine c_seq ?_
    refine c_seq ?_
    refine c_draw rfl (.q 0 (.q 1 (.q 2 (.q 3 (.q 4 (.q 5 (.q 6 (.q 7 (.q 8 (.q 9 (.q 10 (.q 11 (.q 13 (.q 14 (.q 15 (.q 16 ((.l 12 [16] (.q 17 (.q 18 (.done))))))))))))))))))))) (by kernel_rfl) ?_
    refine q_move rfl rfl rfl rfl ?_
    refine q_int rfl rfl rfl rfl rfl (b_neq _ _ _ _) ?_
    refine q_move rfl rfl rfl rfl ?_
    refine s_bool_p 98 rfl (fun hg => by exfalso; first | exact hg rfl | exact hg trivial | simp at hg) (fun hg => ?_)
    refine q_move rfl rfl rfl rfl ?_
    refine q_conv' rfl rfl rfl rfl Try.underlying3 Try.underlying25 (by (first | exact fits_i64 (by omega) (by omega) | exact fits_u64 (by omega) (by omega) | exact fits_u32 (by omega) (by omega) | exact fits_u8 (by omega) (by omega))) ?_
    refine q_move rfl rfl rfl rfl ?_
    refine q_len rfl rfl rfl rfl Try.underlying53 ?_
    refine q_int rfl rfl rfl rfl rfl (b_geq _ _ _ _) ?_
    refine q_pick_f rfl rfl rfl rfl rfl ?_
    refine q_move rfl rfl rfl rfl ?_
    refine s_bool_p 105 rfl (fun hg => by exfalso; omega) (fun hg => ?_)
    refine q_move rfl rfl rfl rfl ?_
    refine q_move rfl rfl rfl rfl ?_
    refine q_move rfl rfl rfl rfl ?_
    refine q_move rfl rfl rfl rfl ?_
    refine q_idxO (sz := 0) (k := p) (enc := encZ) (xs := l) rfl rfl rfl rfl rfl Try.underlying53 Try.sizeOf3 ht (by first | rfl | omega) (by omega) (by with_reducible (repeat (first | exact Take.here | apply Take.there))) ?_
    intro ib111 io111 ha111 hl111 hc111
    refine q_load_O (v := (.int .i64 t)) (j := 0) (k' := p) (enc := encZ) (off := io111) rfl rfl rfl rfl Try.isAgg3 ha111 encZ_len ht (by with_reducible (repeat (first | exact Take.here | apply Take.there))) (by first | rfl | exact (Nat.add_zero _).symm | omega) (by rfl) ?_
    refine s_take (A := own 1 encZ oa oc o) (by with_reducible (repeat (first | exact Take.here | apply Take.there))) ?_
    refine own_fc fun f_7a f_7b f_7c => ?_
    refine s_take (A := own 1 encZ wa wc l) (by with_reducible (repeat (first | exact Take.here | apply Take.there))) ?_
    refine own_fc fun f_8a f_8b f_8c => ?_
    refine s_heap (fun _ h => Bun.fold ((by (repeat ((with_reducible apply Takes.cons); focus (first | (with_reducible (repeat (first | exact Take.here | apply Take.there)); done) | (repeat (first | exact Take.here | apply Take.there))))); exact Takes.nil : Takes _ [own 1 encZ oa oc o, own 1 encZ wa wc l] _) _ h)) ?_
    have sp_9 := first_spec o l oa wa x.rk.length l.length oc wc (Bun [own 1 encZ oa oc o, own 1 encZ wa wc l]) (by first | rfl | assumption | omega | (simp; done) | (simp; omega)) (rds_bun (List.mem_cons_self) (rds_own encZ_len (fun h => (f_7b h).1) f_7c)) (by first | rfl | assumption | omega | (simp; done) | (simp; omega)) (rds_bun (List.mem_cons_of_mem _ (List.mem_cons_self)) (rds_own encZ_len (fun h => (f_8b h).1) f_8c)) (by omega)
    refine l_call rfl rfl rfl rfl rfl rfl Try.call27 (sp_9) (by (repeat ((with_reducible apply Takes.cons); focus (first | (with_reducible (repeat (first | exact Take.here | apply Take.there)); done) | (repeat (first | exact Take.here | apply Take.there))))); exact Takes.nil) ?_
    rintro ⟨⟩ -
    try simp only [List.cons_append, List.nil_append]
    refine s_take (A := Bun [own 1 encZ oa oc o, own 1 encZ wa wc l]) (by with_reducible (repeat (first | exact Take.here | apply Take.there))) ?_
    refine s_bun ?_
    try simp only [List.cons_append, List.nil_append]
    try simp only [List.cons_append, List.nil_append]
    refine ag_load_O (v := (.int .i64 t)) (j := 0) (k' := p) (enc := encZ) (off := io111) rfl rfl rfl Try.isAgg3 ha111 encZ_len ht (by with_reducible (repeat (first | exact Take.here | apply Take.there))) (by first | rfl | exact (Nat.add_zero _).symm | omega) (by rfl) ?_
    refine ag_nil ?_
    refine q_int rfl rfl rfl rfl rfl (b_neq _ _ _ _) ?_
    refine q_pick_f rfl rfl rfl rfl rfl ?_
    refine r_done ?_
    refine s_keep [1, 2, 5, 7, 8, 9, 10, 11, 84, 85, 86, 87, 88, 99, 100, 101, 102, 103, 106, 107, 108, 109, 110, 111, 112, 113, 114] (e' := [(1, _), (2, _), (5, _), (7, _), (8, _), (9, _), (10, _), (11, _), (84, _), (85, _), (86, _), (87, _), (88, _), (99, _), (100, _), (101, _), (102, _), (103, _), (106, _), (107, _), (108, _), (109, _), (110, _), (111, _), (112, _), (113, _), (114, _)]) rfl ?_
    refine k_then_n ?_
    refine c_cond_p rfl (fun hg => by exfalso; exact hg hfs) (fun hg => ?_)
    refine c_skip ?_
    refine k_then_n ?_
    refine c_seq ?_
    refine c_plain (.q 0 (.done)) (by kernel_rfl) ?_
    refine q_assign rfl rfl rfl rfl ?_
    refine r_done ?_
    refine k_then_n ?_
    refine c_seq ?_
    refine c_seq ?_
    refine c_plain (.q 0 (.done)) (by kernel_rfl) ?_
    refine q_assign rfl rfl rfl rfl ?_
    refine r_done ?_
    refine k_then_n ?_
    refine c_block ?_
    refine c_loop2 (α := Nat × Bool) (fun (x_ : Nat × Bool) => match x_ with | (j, mv) => j ≤ x0.chs.length ∧ (mv = true ↔ ∃ q : Nat, q < j ∧ x0.chs[q]? = some y.m)) (fun (x_ : Nat × Bool) => match x_ with | (j, mv) => [(13, .bool mv), (14, .int .i64 ((j : Nat) : Int))]) (fun (x_ : Nat × Bool) => match x_ with | (j, mv) => []) (fun (x_ : Nat × Bool) => match x_ with | (j, mv) => x0.chs.length - j) [1, 2, 5, 7, 8, 9, 10, 11, 84, 85, 86, 87, 88, 99, 100, 101, 102, 103, 106, 107, 108, 109, 110, 111, 112, 113] (er := [(1, _), (2, _), (5, _), (7, _), (8, _), (9, _), (10, _), (11, _), (84, _), (85, _), (86, _), (87, _), (88, _), (99, _), (100, _), (101, _), (102, _), (103, _), (106, _), (107, _), (108, _), (109, _), (110, _), (111, _), (112, _), (113, _)]) rfl (0, false) ?_ (by exact ⟨rfl, rfl, trivial⟩) (by (try dsimp only); (try simp only [Nat.add_zero, Nat.zero_add]); (repeat ((with_reducible apply Takes.cons); focus (first | (with_reducible (repeat (first | exact Take.here | apply Take.there)); done) | (repeat (first | exact Take.here | apply Take.there))))); exact Takes.nil) ?_
    · exact ⟨Nat.zero_le _, ⟨fun h => (by cases h), fun ⟨q, hq, _⟩ => (by omega)⟩⟩
    rintro ⟨j, mv⟩ ⟨hle_j, hmv⟩
    try simp only [List.cons_append, List.nil_append]
    refine c_seq ?_
    refine c_seq ?_
    refine c_plain (.q 0 (.q 1 (.q 2 (.q 3 (.done))))) (by kernel_rfl) ?_
    refine q_move rfl rfl rfl rfl ?_
    refine q_move rfl rfl rfl rfl ?_
    refine q_len rfl rfl rfl rfl Try.underlying53 ?_
    refine q_int rfl rfl rfl rfl rfl (b_lss _ _ _ _) ?_
    refine r_done ?_
    refine k_then_n ?_
    refine c_cond_p rfl (fun hlj => ?_) (fun hlj => ?_)
    · skip
      refine c_skip ?_
      refine k_then_n ?_
      refine c_seq ?_
      refine c_block ?_
      refine c_draw rfl (.q 0 (.q 1 (.q 2 (.q 3 (.q 4 (.q 5 (.q 6 ((.l 7 [5] (.q 8 (.q 9 ((.l 10 [] (.done)))))))))))))) (by kernel_rfl) ?_
      refine q_move rfl rfl rfl rfl ?_
      refine q_move rfl rfl rfl rfl ?_
      refine s_bool 122 rfl (fun hmt => ?_) (fun hmt => ?_)
      · skip
        try simp only [Bool.and_eq_true, Bool.or_eq_true, Bool.not_eq_true', Bool.not_eq_false', Bool.and_eq_false_iff, Bool.or_eq_false_iff, decide_eq_true_eq, decide_eq_false_iff_not] at hmt
        refine q_skip rfl rfl rfl rfl ?_
        refine q_skip rfl rfl rfl rfl ?_
        refine q_skip rfl rfl rfl rfl ?_
        refine q_skip rfl rfl rfl rfl ?_
        refine q_skip rfl rfl rfl rfl ?_
        refine l_skip rfl rfl rfl rfl ?_
        refine q_skip rfl rfl rfl rfl ?_
        refine q_pick_t rfl rfl rfl rfl rfl ?_
        refine l_assign rfl rfl rfl rfl ?_
        refine ag_nil ?_
        refine r_done ?_
        refine s_keep [1, 2, 5, 7, 8, 9, 10, 11, 13, 14, 84, 85, 86, 87, 88, 99, 100, 101, 102, 103, 106, 107, 108, 109, 110, 111, 112, 113, 123, 124, 125, 126, 127, 128, 129] (e' := [(1, _), (2, _), (5, _), (7, _), (8, _), (9, _), (10, _), (11, _), (13, _), (14, _), (84, _), (85, _), (86, _), (87, _), (88, _), (99, _), (100, _), (101, _), (102, _), (103, _), (106, _), (107, _), (108, _), (109, _), (110, _), (111, _), (112, _), (113, _), (123, _), (124, _), (125, _), (126, _), (127, _), (128, _), (129, _)]) rfl ?_
        refine k_blk_n ?_
        refine k_then_n ?_
        refine c_plain (.q 0 (.q 1 (.q 2 (.done)))) (by kernel_rfl) ?_
        refine q_move rfl rfl rfl rfl ?_
        refine q_int rfl rfl rfl rfl rfl (b_add' _ (by (first | exact fits_i64 (by omega) (by omega) | exact fits_u64 (by omega) (by omega) | exact fits_u32 (by omega) (by omega) | exact fits_u8 (by omega) (by omega)))) ?_
        refine q_assign rfl rfl rfl rfl ?_
        refine r_done ?_
        refine k_then_n ?_
        refine loop_next (x := (j, mv)) ((j + 1, true)) ?_ ?_ ?_ ?_
        · try dsimp only
          exact ⟨by omega, ⟨fun _ => (by obtain ⟨q, hq, e⟩ := hmv.1 hmt; exact ⟨q, by omega, e⟩), fun _ => rfl⟩⟩
        · show x0.chs.length - (j + 1) < x0.chs.length - j; omega
        · exact ⟨rfl, rfl, rfl, rfl, rfl, rfl, rfl, rfl, rfl, rfl, rfl, rfl, rfl, rfl, rfl, rfl, rfl, rfl, rfl, rfl, rfl, rfl, rfl, rfl, rfl, rfl, rfl, rfl, trivial⟩
        · (try simp only [List.cons_append, List.nil_append]); (repeat ((with_reducible apply Takes.cons); focus (first | (with_reducible (repeat (first | exact Take.here | apply Take.there)); done) | (repeat (first | exact Take.here | apply Take.there))))); (repeat (first | exact Takes.nil | exact Takes.self | refine takes_drop2 ?_))
      · skip
        try simp only [Bool.and_eq_true, Bool.or_eq_true, Bool.not_eq_true', Bool.not_eq_false', Bool.and_eq_false_iff, Bool.or_eq_false_iff, decide_eq_true_eq, decide_eq_false_iff_not] at hmt
        refine q_move rfl rfl rfl rfl ?_
        refine q_move rfl rfl rfl rfl ?_
        obtain ⟨z, hz⟩ := get_lt (l := x0.chs) (i := j) (by first | omega | (simp; done) | (simp; omega))
        refine q_idxO (sz := 0) (k := j) (enc := encZ) (xs := x0.chs) rfl rfl rfl rfl rfl Try.underlying53 Try.sizeOf3 hz (by first | rfl | omega) (by omega) (by with_reducible (repeat (first | exact Take.here | apply Take.there))) ?_
        intro ib125 io125 ha125 hl125 hc125
        refine q_load_O (v := (.int .i64 z)) (j := 0) (k' := j) (enc := encZ) (off := io125) rfl rfl rfl rfl Try.isAgg3 ha125 encZ_len hz (by with_reducible (repeat (first | exact Take.here | apply Take.there))) (by first | rfl | exact (Nat.add_zero _).symm | omega) (by rfl) ?_
        refine q_move rfl rfl rfl rfl ?_
        have sp_10 := made_spec bc y hyi.ok
        refine l_call rfl rfl rfl rfl rfl rfl Try.call28 (sp_10) (by (repeat ((with_reducible apply Takes.cons); focus (first | (with_reducible (repeat (first | exact Take.here | apply Take.there)); done) | (repeat (first | exact Take.here | apply Take.there))))); exact Takes.nil) ?_
        rintro ⟨⟩ -
        try simp only [List.cons_append, List.nil_append]
        refine ag_load_O (v := (.int .i64 z)) (j := 0) (k' := j) (enc := encZ) (off := io125) rfl rfl rfl Try.isAgg3 ha125 encZ_len hz (by with_reducible (repeat (first | exact Take.here | apply Take.there))) (by first | rfl | exact (Nat.add_zero _).symm | omega) (by rfl) ?_
        refine ag_nil ?_
        refine q_int rfl rfl rfl rfl rfl (b_eql _ _ _ _) ?_
        refine q_pick_f rfl rfl rfl rfl rfl ?_
        refine l_assign rfl rfl rfl rfl ?_
        refine ag_nil ?_
        refine r_done ?_
        refine s_keep [1, 2, 5, 7, 8, 9, 10, 11, 13, 14, 84, 85, 86, 87, 88, 99, 100, 101, 102, 103, 106, 107, 108, 109, 110, 111, 112, 113, 123, 124, 125, 126, 127, 128, 129] (e' := [(1, _), (2, _), (5, _), (7, _), (8, _), (9, _), (10, _), (11, _), (13, _), (14, _), (84, _), (85, _), (86, _), (87, _), (88, _), (99, _), (100, _), (101, _), (102, _), (103, _), (106, _), (107, _), (108, _), (109, _), (110, _), (111, _), (112, _), (113, _), (123, _), (124, _), (125, _), (126, _), (127, _), (128, _), (129, _)]) rfl ?_
        refine k_blk_n ?_
        refine k_then_n ?_
        refine c_plain (.q 0 (.q 1 (.q 2 (.done)))) (by kernel_rfl) ?_
        refine q_move rfl rfl rfl rfl ?_
        refine q_int rfl rfl rfl rfl rfl (b_add' _ (by (first | exact fits_i64 (by omega) (by omega) | exact fits_u64 (by omega) (by omega) | exact fits_u32 (by omega) (by omega) | exact fits_u8 (by omega) (by omega)))) ?_
        refine q_assign rfl rfl rfl rfl ?_
        refine r_done ?_
        refine k_then_n ?_
        refine loop_next (x := (j, mv)) ((j + 1, decide (z = y.m))) ?_ ?_ ?_ ?_
        · try dsimp only
          exact ⟨by omega, by
              rw [decide_eq_true_eq]
              refine ⟨fun e => ⟨j, by omega, by rw [hz, e]⟩, fun ⟨q, hq, e⟩ => ?_⟩
              by_cases hqj : q = j
              · subst hqj; rw [hz] at e; cases e; rfl
              · exact absurd (hmv.2 ⟨q, by omega, e⟩) (by rw [hmt]; decide)⟩
        · show x0.chs.length - (j + 1) < x0.chs.length - j; omega
        · exact ⟨rfl, rfl, rfl, rfl, rfl, rfl, rfl, rfl, rfl, rfl, rfl, rfl, rfl, rfl, rfl, rfl, rfl, rfl, rfl, rfl, rfl, rfl, rfl, rfl, rfl, rfl, rfl, rfl, trivial⟩
        · (try simp only [List.cons_append, List.nil_append]); (repeat ((with_reducible apply Takes.cons); focus (first | (with_reducible (repeat (first | exact Take.here | apply Take.there)); done) | (repeat (first | exact Take.here | apply Take.there))))); (repeat (first | exact Takes.nil | exact Takes.self | refine takes_drop2 ?_))
    · skip
      refine c_exit ?_
      refine k_then_exit ?_
      refine k_then_exit ?_
      refine k_blk_here ?_
      refine k_then_n ?_
      refine c_seq ?_
      obtain rfl : j = x0.chs.length := by omega
      refine c_draw rfl (.q 0 (.q 1 (.q 2 (.q 3 (.q 5 ((.l 4 [] ((.l 6 [] (.q 7 (.q 8 (.q 9 (.q 10 (.q 11 (.q 12 (.q 14 (.q 15 (.q 16 (.q 17 (.q 19 (.q 20 (.q 21 (.q 22 (.q 23 ((.l 13 [17, 23] ((.l 18 [23] ((.l 24 [] ((.l 25 [] (.q 26 (.q 27 (.q 28 (.done)))))))))))))))))))))))))))))))))))) (by kernel_rfl) ?_
      refine q_move rfl rfl rfl rfl ?_
      refine q_not rfl rfl rfl rfl ?_
      refine q_move rfl rfl rfl rfl ?_
      refine s_bool 133 rfl (fun hnm => ?_) (fun hnm => ?_)
      · skip
        try simp only [Bool.and_eq_true, Bool.or_eq_true, Bool.not_eq_true', Bool.not_eq_false', Bool.and_eq_false_iff, Bool.or_eq_false_iff, decide_eq_true_eq, decide_eq_false_iff_not] at hnm
        obtain rfl : mv = false := by simpa using hnm
        have hyk : y.rk = x.rk := by
          rw [hy2]
          refine chg_no (fun q e => ?_) _
          have h1 := (List.getElem?_eq_some_iff.1 e).1
          have := hmv.2 ⟨q, by rw [← hxc]; exact h1, by rw [← hxc, hy2]; exact e⟩
          cases this
        refine q_move rfl rfl rfl rfl ?_
        refine q_move rfl rfl rfl rfl ?_
        have sp_11 := order_spec bc y hyi.ok
        refine l_call rfl rfl rfl rfl rfl rfl Try.call25 (sp_11) (by (repeat ((with_reducible apply Takes.cons); focus (first | (with_reducible (repeat (first | exact Take.here | apply Take.there)); done) | (repeat (first | exact Take.here | apply Take.there))))); exact Takes.nil) ?_
        rintro ⟨pa, pc, o2⟩ ho2
        simp only at ho2
        rw [hyk] at ho2
        obtain rfl : o = o2 := ord_eq ho ho2
        try simp only [List.cons_append, List.nil_append]
        refine ag_nil ?_
        refine s_take (A := own 1 encZ pa pc o) (by with_reducible (repeat (first | exact Take.here | apply Take.there))) ?_
        refine own_fc fun f_12a f_12b f_12c => ?_
        refine s_take (A := own 1 encZ oa oc o) (by with_reducible (repeat (first | exact Take.here | apply Take.there))) ?_
        refine own_fc fun f_13a f_13b f_13c => ?_
        refine s_heap (fun _ h => Bun.fold ((by (repeat ((with_reducible apply Takes.cons); focus (first | (with_reducible (repeat (first | exact Take.here | apply Take.there)); done) | (repeat (first | exact Take.here | apply Take.there))))); exact Takes.nil : Takes _ [own 1 encZ pa pc o, own 1 encZ oa oc o] _) _ h)) ?_
        have sp_14 := samei_spec o o pa oa y.rk.length x.rk.length pc oc (Bun [own 1 encZ pa pc o, own 1 encZ oa oc o]) (by first | rfl | assumption | omega | (simp; done) | (simp; omega)) (rds_bun (List.mem_cons_self) (rds_own encZ_len (fun h => (f_12b h).1) f_12c)) (by first | rfl | assumption | omega | (simp; done) | (simp; omega)) (rds_bun (List.mem_cons_of_mem _ (List.mem_cons_self)) (rds_own encZ_len (fun h => (f_13b h).1) f_13c)) (by omega)
        refine l_call rfl rfl rfl rfl rfl rfl Try.call29 (sp_14) (by (repeat ((with_reducible apply Takes.cons); focus (first | (with_reducible (repeat (first | exact Take.here | apply Take.there)); done) | (repeat (first | exact Take.here | apply Take.there))))); exact Takes.nil) ?_
        rintro ⟨⟩ -
        try simp only [List.cons_append, List.nil_append]
        refine s_take (A := Bun [own 1 encZ pa pc o, own 1 encZ oa oc o]) (by with_reducible (repeat (first | exact Take.here | apply Take.there))) ?_
        refine s_bun ?_
        try simp only [List.cons_append, List.nil_append]
        try simp only [List.cons_append, List.nil_append]
        refine ag_nil ?_
        refine q_not rfl rfl rfl rfl ?_
        refine q_pick_t rfl rfl rfl rfl rfl ?_
        refine q_move rfl rfl rfl rfl ?_
        refine s_bool_np 140 rfl (fun hg => by exfalso; first | exact hg rfl | exact hg trivial | simp at hg) (fun hg => ?_)
        refine q_move rfl rfl rfl rfl ?_
        refine q_move rfl rfl rfl rfl ?_
        refine q_skip rfl rfl rfl rfl ?_
        refine q_skip rfl rfl rfl rfl ?_
        refine q_skip rfl rfl rfl rfl ?_
        refine q_skip rfl rfl rfl rfl ?_
        refine q_skip rfl rfl rfl rfl ?_
        refine q_skip rfl rfl rfl rfl ?_
        refine q_skip rfl rfl rfl rfl ?_
        refine q_skip rfl rfl rfl rfl ?_
        refine q_skip rfl rfl rfl rfl ?_
        refine q_skip rfl rfl rfl rfl ?_
        refine l_skip rfl rfl rfl rfl ?_
        refine l_skip rfl rfl rfl rfl ?_
        refine l_skip rfl rfl rfl rfl ?_
        refine l_skip rfl rfl rfl rfl ?_
        refine q_skip rfl rfl rfl rfl ?_
        refine q_pick_f rfl rfl rfl rfl rfl ?_
        refine q_pick_f rfl rfl rfl rfl rfl ?_
        refine r_done ?_
        refine s_keep [1, 2, 5, 7, 8, 84, 85, 86, 87, 88, 99, 100, 101, 102, 103, 106, 107, 108, 109, 110, 111, 112, 113, 134, 135, 136, 137, 138, 141, 142, 143, 144, 145, 146, 147, 148, 149, 150, 151, 152, 153, 154, 155, 156, 157, 158, 159] (e' := [(1, _), (2, _), (5, _), (7, _), (8, _), (84, _), (85, _), (86, _), (87, _), (88, _), (99, _), (100, _), (101, _), (102, _), (103, _), (106, _), (107, _), (108, _), (109, _), (110, _), (111, _), (112, _), (113, _), (134, _), (135, _), (136, _), (137, _), (138, _), (141, _), (142, _), (143, _), (144, _), (145, _), (146, _), (147, _), (148, _), (149, _), (150, _), (151, _), (152, _), (153, _), (154, _), (155, _), (156, _), (157, _), (158, _), (159, _)]) rfl ?_
        refine k_then_n ?_
        refine c_cond_f rfl ?_
        refine c_skip ?_
        refine k_blk_n ?_
        refine k_then_n ?_
        refine c_plain (.q 0 (.q 1 (.q 2 (.done)))) (by kernel_rfl) ?_
        refine q_move rfl rfl rfl rfl ?_
        refine q_int rfl rfl rfl rfl rfl (b_add' _ (by (first | exact fits_i64 (by omega) (by omega) | exact fits_u64 (by omega) (by omega) | exact fits_u32 (by omega) (by omega) | exact fits_u8 (by omega) (by omega)))) ?_
        refine q_assign rfl rfl rfl rfl ?_
        refine r_done ?_
        refine k_then_n ?_
        refine loop_next (x := (i, x)) ((i + 1, y)) ?_ ?_ ?_ ?_
        · try dsimp only
          exact ⟨by omega, hyi, hyl, by rw [hym]; rfl, hyc⟩
        · show k - (i + 1) < k - i; omega
        · exact ⟨rfl, rfl, rfl, rfl, rfl, trivial⟩
        · (try simp only [List.cons_append, List.nil_append]); (repeat ((with_reducible apply Takes.cons); focus (first | (with_reducible (repeat (first | exact Take.here | apply Take.there)); done) | (repeat (first | exact Take.here | apply Take.there))))); (repeat (first | exact Takes.nil | exact Takes.self | refine takes_drop2 ?_))
      · skip
        try simp only [Bool.and_eq_true, Bool.or_eq_true, Bool.not_eq_true', Bool.not_eq_false', Bool.and_eq_false_iff, Bool.or_eq_false_iff, decide_eq_true_eq, decide_eq_false_iff_not] at hnm
        obtain rfl : mv = true := by simpa using hnm
        refine q_skip rfl rfl rfl rfl ?_
        refine q_skip rfl rfl rfl rfl ?_
        refine l_skip rfl rfl rfl rfl ?_
        refine l_skip rfl rfl rfl rfl ?_
        refine q_skip rfl rfl rfl rfl ?_
        refine q_pick_f rfl rfl rfl rfl rfl ?_
        refine q_move rfl rfl rfl rfl ?_
        refine q_move rfl rfl rfl rfl ?_
        refine q_move rfl rfl rfl rfl ?_
        refine q_move rfl rfl rfl rfl ?_
        refine q_move rfl rfl rfl rfl ?_
        refine q_move rfl rfl rfl rfl ?_
        refine q_idxO (sz := 0) (k := p) (enc := encZ) (xs := l) rfl rfl rfl rfl rfl Try.underlying53 Try.sizeOf3 ht (by first | rfl | omega) (by omega) (by with_reducible (repeat (first | exact Take.here | apply Take.there))) ?_
        intro ib147 io147 ha147 hl147 hc147
        refine q_load_O (v := (.int .i64 t)) (j := 0) (k' := p) (enc := encZ) (off := io147) rfl rfl rfl rfl Try.isAgg3 ha147 encZ_len ht (by with_reducible (repeat (first | exact Take.here | apply Take.there))) (by first | rfl | exact (Nat.add_zero _).symm | omega) (by rfl) ?_
        refine q_move rfl rfl rfl rfl ?_
        refine q_move rfl rfl rfl rfl ?_
        refine q_move rfl rfl rfl rfl ?_
        refine q_idxO (sz := 0) (k := p) (enc := encZ) (xs := l) rfl rfl rfl rfl rfl Try.underlying53 Try.sizeOf3 ht (by first | rfl | omega) (by omega) (by with_reducible (repeat (first | exact Take.here | apply Take.there))) ?_
        intro ib153 io153 ha153 hl153 hc153
        refine q_load_O (v := (.int .i64 t)) (j := 0) (k' := p) (enc := encZ) (off := io153) rfl rfl rfl rfl Try.isAgg3 ha153 encZ_len ht (by with_reducible (repeat (first | exact Take.here | apply Take.there))) (by first | rfl | exact (Nat.add_zero _).symm | omega) (by rfl) ?_
        have sp_15 := order_spec bc y hyi.ok
        refine l_call rfl rfl rfl rfl rfl rfl Try.call25 (sp_15) (by (repeat ((with_reducible apply Takes.cons); focus (first | (with_reducible (repeat (first | exact Take.here | apply Take.there)); done) | (repeat (first | exact Take.here | apply Take.there))))); exact Takes.nil) ?_
        rintro ⟨pa, pc, o2⟩ ho2
        simp only at ho2
        have hol2 := ord_len ho2
        have hwl : (wo o2 t).length ≤ o2.length := List.length_filter_le _ _
        have hwo : wo o2 t = wo o t := by rw [hy2] at ho2; exact wo_eq ho2 ho htr.1
        try simp only [List.cons_append, List.nil_append]
        refine ag_load_O (v := (.int .i64 t)) (j := 0) (k' := p) (enc := encZ) (off := io147) rfl rfl rfl Try.isAgg3 ha147 encZ_len ht (by with_reducible (repeat (first | exact Take.here | apply Take.there))) (by first | rfl | exact (Nat.add_zero _).symm | omega) (by rfl) ?_
        refine ag_load_O (v := (.int .i64 t)) (j := 0) (k' := p) (enc := encZ) (off := io153) rfl rfl rfl Try.isAgg3 ha153 encZ_len ht (by with_reducible (repeat (first | exact Take.here | apply Take.there))) (by first | rfl | exact (Nat.add_zero _).symm | omega) (by rfl) ?_
        refine ag_nil ?_
        refine s_take (A := own 1 encZ pa pc o2) (by with_reducible (repeat (first | exact Take.here | apply Take.there))) ?_
        refine own_fc fun f_16a f_16b f_16c => ?_
        have sp_17 := without_spec o2 t pa y.rk.length pc (own 1 encZ pa pc o2) (by first | rfl | assumption | omega | (simp; done) | (simp; omega)) (rds_own encZ_len (fun h => (f_16b h).1) f_16c) (by omega)
        refine l_call rfl rfl rfl rfl rfl rfl Try.call30 (sp_17) (by (repeat ((with_reducible apply Takes.cons); focus (first | (with_reducible (repeat (first | exact Take.here | apply Take.there)); done) | (repeat (first | exact Take.here | apply Take.there))))); exact Takes.nil) ?_
        rintro ⟨ua, uc⟩ -
        try simp only [List.cons_append, List.nil_append]
        refine ag_load_O (v := (.int .i64 t)) (j := 0) (k' := p) (enc := encZ) (off := io153) rfl rfl rfl Try.isAgg3 ha153 encZ_len ht (by with_reducible (repeat (first | exact Take.here | apply Take.there))) (by first | rfl | exact (Nat.add_zero _).symm | omega) (by rfl) ?_
        refine ag_nil ?_
        refine s_take (A := own 1 encZ oa oc o) (by with_reducible (repeat (first | exact Take.here | apply Take.there))) ?_
        refine own_fc fun f_18a f_18b f_18c => ?_
        have sp_19 := without_spec o t oa x.rk.length oc (own 1 encZ oa oc o) (by first | rfl | assumption | omega | (simp; done) | (simp; omega)) (rds_own encZ_len (fun h => (f_18b h).1) f_18c) (by omega)
        refine l_call rfl rfl rfl rfl rfl rfl Try.call30 (sp_19) (by (repeat ((with_reducible apply Takes.cons); focus (first | (with_reducible (repeat (first | exact Take.here | apply Take.there)); done) | (repeat (first | exact Take.here | apply Take.there))))); exact Takes.nil) ?_
        rintro ⟨va, vc⟩ -
        try simp only [List.cons_append, List.nil_append]
        refine ag_nil ?_
        refine s_take (A := own 1 encZ ua uc (wo o2 t)) (by with_reducible (repeat (first | exact Take.here | apply Take.there))) ?_
        refine own_fc fun f_20a f_20b f_20c => ?_
        refine s_take (A := own 1 encZ va vc (wo o t)) (by with_reducible (repeat (first | exact Take.here | apply Take.there))) ?_
        refine own_fc fun f_21a f_21b f_21c => ?_
        refine s_heap (fun _ h => Bun.fold ((by (repeat ((with_reducible apply Takes.cons); focus (first | (with_reducible (repeat (first | exact Take.here | apply Take.there)); done) | (repeat (first | exact Take.here | apply Take.there))))); exact Takes.nil : Takes _ [own 1 encZ ua uc (wo o2 t), own 1 encZ va vc (wo o t)] _) _ h)) ?_
        have sp_22 := samei_spec (wo o2 t) (wo o t) ua va ((wo o2 t).length) ((wo o t).length) uc vc (Bun [own 1 encZ ua uc (wo o2 t), own 1 encZ va vc (wo o t)]) (by rfl) (rds_bun (List.mem_cons_self) (rds_own encZ_len (fun h => (f_20b h).1) f_20c)) (by rfl) (rds_bun (List.mem_cons_of_mem _ (List.mem_cons_self)) (rds_own encZ_len (fun h => (f_21b h).1) f_21c)) (by omega)
        refine l_call rfl rfl rfl rfl rfl rfl Try.call29 (sp_22) (by (repeat ((with_reducible apply Takes.cons); focus (first | (with_reducible (repeat (first | exact Take.here | apply Take.there)); done) | (repeat (first | exact Take.here | apply Take.there))))); exact Takes.nil) ?_
        rintro ⟨⟩ -
        try simp only [List.cons_append, List.nil_append]
        refine s_take (A := Bun [own 1 encZ ua uc (wo o2 t), own 1 encZ va vc (wo o t)]) (by with_reducible (repeat (first | exact Take.here | apply Take.there))) ?_
        refine s_bun ?_
        try simp only [List.cons_append, List.nil_append]
        try simp only [List.cons_append, List.nil_append]
        refine ag_nil ?_
        refine q_not rfl rfl rfl rfl ?_
        refine q_pick_t rfl rfl rfl rfl rfl ?_
        refine q_pick_f rfl rfl rfl rfl rfl ?_
        refine r_done ?_
        refine s_keep [1, 2, 5, 7, 8, 84, 85, 86, 87, 88, 99, 100, 101, 102, 103, 106, 107, 108, 109, 110, 111, 112, 113, 134, 135, 136, 137, 138, 141, 142, 143, 144, 145, 146, 147, 148, 149, 150, 151, 152, 153, 154, 155, 156, 157, 158, 159] (e' := [(1, _), (2, _), (5, _), (7, _), (8, _), (84, _), (85, _), (86, _), (87, _), (88, _), (99, _), (100, _), (101, _), (102, _), (103, _), (106, _), (107, _), (108, _), (109, _), (110, _), (111, _), (112, _), (113, _), (134, _), (135, _), (136, _), (137, _), (138, _), (141, _), (142, _), (143, _), (144, _), (145, _), (146, _), (147, _), (148, _), (149, _), (150, _), (151, _), (152, _), (153, _), (154, _), (155, _), (156, _), (157, _), (158, _), (159, _)]) rfl ?_
        refine k_then_n ?_
        refine c_cond_np rfl (fun hg => by exfalso; first | exact hg hwo | exact hg rfl | exact hg trivial | simp at hg) (fun hg => ?_)
        refine c_skip ?_
        refine k_blk_n ?_
        refine k_then_n ?_
        refine c_plain (.q 0 (.q 1 (.q 2 (.done)))) (by kernel_rfl) ?_
        refine q_move rfl rfl rfl rfl ?_
        refine q_int rfl rfl rfl rfl rfl (b_add' _ (by (first | exact fits_i64 (by omega) (by omega) | exact fits_u64 (by omega) (by omega) | exact fits_u32 (by omega) (by omega) | exact fits_u8 (by omega) (by omega)))) ?_
        refine q_assign rfl rfl rfl rfl ?_
        refine r_done ?_
        refine k_then_n ?_
        refine loop_next (x := (i, x)) ((i + 1, y)) ?_ ?_ ?_ ?_
        · try dsimp only
          exact ⟨by omega, hyi, hyl, by rw [hym]; rfl, hyc⟩
        · show k - (i + 1) < k - i; omega
        · exact ⟨rfl, rfl, rfl, rfl, rfl, trivial⟩
        · (try simp only [List.cons_append, List.nil_append]); (repeat ((with_reducible apply Takes.cons); focus (first | (with_reducible (repeat (first | exact Take.here | apply Take.there)); done) | (repeat (first | exact Take.here | apply Take.there))))); (repeat (first | exact Takes.nil | exact Takes.self | refine takes_drop2 ?_))
  · skip
    refine c_exit ?_
    refine k_then_exit ?_
    refine k_then_exit ?_
    refine k_blk_here ?_
    refine k_then_n ?_
    refine c_seq ?_
    refine c_plain (.q 0 ((.l 1 [] (.q 2 (.q 3 (.q 4 (.q 5 ((.l 6 [] (.q 7 (.q 8 (.done)))))))))))) (by kernel_rfl) ?_
    refine q_move rfl rfl rfl rfl ?_
    have sp_23 := made_spec bc x hx.ok
    refine l_call rfl rfl rfl rfl rfl rfl Try.call28 (sp_23) (by (repeat ((with_reducible apply Takes.cons); focus (first | (with_reducible (repeat (first | exact Take.here | apply Take.there)); done) | (repeat (first | exact Take.here | apply Take.there))))); exact Takes.nil) ?_
    rintro ⟨⟩ -
    try simp only [List.cons_append, List.nil_append]
    refine ag_nil ?_
    refine q_move rfl rfl rfl rfl ?_
    refine q_len rfl rfl rfl rfl Try.underlying49 ?_
    refine q_int rfl rfl rfl rfl rfl (b_eql _ _ _ _) ?_
    refine q_move rfl rfl rfl rfl ?_
    refine s_bool_p 165 rfl (fun hg => ?_) (fun hg => by exfalso; omega)
    refine l_call rfl rfl rfl rfl rfl rfl Try.call15 (known_spec) (by (repeat ((with_reducible apply Takes.cons); focus (first | (with_reducible (repeat (first | exact Take.here | apply Take.there)); done) | (repeat (first | exact Take.here | apply Take.there))))); exact Takes.nil) ?_
    rintro ⟨⟩ -
    try simp only [List.cons_append, List.nil_append]
    refine ag_nil ?_
    refine q_pick_t rfl rfl rfl rfl rfl ?_
    refine q_assign rfl rfl rfl rfl ?_
    refine r_done ?_
    refine s_keep [4] (e' := [(4, _)]) rfl ?_
    refine k_then_n ?_
    refine c_ret ?_
    refine ret1 rfl rfl (()) (by first | rfl | (first | rfl | (congr 1; done) | (congr 1 <;> first | rfl | omega | (simp; done) | (simp; omega)))) (by trivial) ?_
    (repeat ((with_reducible apply Takes.cons); focus (first | (with_reducible (repeat (first | exact Take.here | apply Take.there)); done) | (repeat (first | exact Take.here | apply Take.there))))); (repeat (first | exact Takes.nil | exact Takes.self | refine takes_drop2 ?_))
end Go.Ab.Sc
